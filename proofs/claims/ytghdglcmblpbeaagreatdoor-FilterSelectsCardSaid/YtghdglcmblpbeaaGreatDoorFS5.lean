/-
  Texts of the proof, put together: WFd, OkFilterSelects, LvA, LvB, LvC, LvD, LvE, LvF, LvG, LvH, LvI, LvJ, LvK, LvL, LvM, LvN, LvO, LvP, LcA, LcB, LcC, LcD, LcE, LcF, LcG, LfA, LfB, LgA, LfC, LgB, LgC, LgD, LwFiSelects.
-/
import Derived.Test.YtghdglcmblpbeaaGreatDoorFS4
import GoSem.ClaimData
namespace Go.Proofs.YtghdglcmblpbeaaGreatDoor.Q
open Go Go.RowKit
set_option linter.unusedVariables false
set_option linter.unusedSimpArgs false
set_option maxRecDepth 100000
set_option maxHeartbeats 4000000
theorem LF {n:Nat}{c:Cx}{l:Fr}{H:List Ent}{d:Option Nat}{ty:TypeId}{pos:String}{af:Array Edge}{g:Option (Nat×Bool)}{x0:Operand}{r0:Rp}(h0:ev l x0=some r0)(u0:r0.one=true){x1:Operand}{r1:Rp}(h1:ev l x1=some r1)(u1:r1.one=true){x2:Operand}{r2:Rp}(h2:ev l x2=some r2)(u2:r2.one=true):B0 Tryz.prog n c l H { dst:=d,op:=.build 26 #[(0,x0),(1,x1),(2,x2)],type:=ty,pos:=pos,after:=af,guard:=g } (B8 [r0,r1,r2,rS ([]:Av),Al 0,Al 0]):=λa w Z ha _=>by
  have p0:=ha.ev h0;have c0:=BV (r0.hone u0 Z _ p0);have p1:=ha.ev h1;have c1:=BV (r1.hone u1 Z _ p1);have p2:=ha.ev h2;have c2:=BV (r2.hone u2 Z _ p2);have hb:Tryz.prog.built 26 [(0,a.eval x0),(1,a.eval x1),(2,a.eval x2)]=some #[a.eval x0,a.eval x1,a.eval x2,(.string ⟨#[]⟩),(.int .i64 0),(.int .i64 0)]:=by
    rw[OH];generalize a.eval x0=v0 at *;generalize a.eval x1=v1 at *;generalize a.eval x2=v2 at *;simp[Instr.fill,c0,c1,c2]
  refine⟨.agg #[a.eval x0,a.eval x1,a.eval x2,(.string ⟨#[]⟩),(.int .i64 0),(.int .i64 0)],⟨[a.eval x0,a.eval x1,a.eval x2,(.string ⟨#[]⟩),(.int .i64 0),(.int .i64 0)],rfl,p0,p1,p2,rfl,rfl,rfl,trivial⟩,?_⟩;have:=run_build w 26 #[(0,a.eval x0),(1,a.eval x1),(2,a.eval x2)] _ (by simpa using hb);simp[execOp,this]
theorem GM {n:Nat}{c:Cx}{l:Fr}{H:List Ent}{d:Option Nat}{ty:TypeId}{pos:String}{af:Array Edge}{g:Option (Nat×Bool)}{x0:Operand}{r0:Rp}(h0:ev l x0=some r0)(u0:r0.one=true){x1:Operand}{r1:Rp}(h1:ev l x1=some r1)(u1:r1.one=true){x4:Operand}{r4:Rp}(h4:ev l x4=some r4)(u4:r4.one=true){x5:Operand}{r5:Rp}(h5:ev l x5=some r5)(u5:r5.one=true):B0 Tryz.prog n c l H { dst:=d,op:=.build 26 #[(0,x0),(1,x1),(4,x4),(5,x5)],type:=ty,pos:=pos,after:=af,guard:=g } (B8 [r0,r1,rv (.slice none 0 0),rS ([]:Av),r4,r5]):=λa w Z ha _=>by
  have p0:=ha.ev h0;have c0:=BV (r0.hone u0 Z _ p0);have p1:=ha.ev h1;have c1:=BV (r1.hone u1 Z _ p1);have p4:=ha.ev h4;have c4:=BV (r4.hone u4 Z _ p4);have p5:=ha.ev h5;have c5:=BV (r5.hone u5 Z _ p5);have hb:Tryz.prog.built 26 [(0,a.eval x0),(1,a.eval x1),(4,a.eval x4),(5,a.eval x5)]=some #[a.eval x0,a.eval x1,((.slice none 0 0)),(.string ⟨#[]⟩),a.eval x4,a.eval x5]:=by
    rw[OH];generalize a.eval x0=v0 at *;generalize a.eval x1=v1 at *;generalize a.eval x4=v4 at *;generalize a.eval x5=v5 at *;simp[Instr.fill,c0,c1,c4,c5]
  refine⟨.agg #[a.eval x0,a.eval x1,((.slice none 0 0)),(.string ⟨#[]⟩),a.eval x4,a.eval x5],⟨[a.eval x0,a.eval x1,((.slice none 0 0)),(.string ⟨#[]⟩),a.eval x4,a.eval x5],rfl,p0,p1,rfl,rfl,p4,p5,trivial⟩,?_⟩;have:=run_build w 26 #[(0,a.eval x0),(1,a.eval x1),(4,a.eval x4),(5,a.eval x5)] _ (by simpa using hb);simp[execOp,this]
theorem MJ (n:Int)(r:(List Aa))(h:Kr n=some r):Fn Tryz.prog GE 28 [Al n] [] (λR H=>R=AC 4 (A0 Ab r)∧H=[]):=by
 refine enter (n:=6) Tryz.func28 rfl Tryz.ntmps28 rfl (λw Z=>?_);unfold Kr at h;refine Ae (wa rfl (Bc (wm rfl (wv (r:=B8 [Al 3,Al n,rS ([]:Av),Al 0]) (DU rfl rfl rfl rfl) (AX (ys:=([(Aa.mk 3 n ([]:Av) 0)]:List Aa)) (enc:=Ab) (css:=[[Al 3,Al n,rS ([]:Av),Al 0]]) (xs:=[.tmp 4]) Br Bz GX rfl rfl rfl ⟨Ep.agg ⟨Up.refl _,Up.refl _,Up.refl _,Up.refl _,trivial⟩,trivial⟩ rfl Bi rfl rfl rfl (λb1=>?_))))));refine wa rfl (Ak (Ap (WK.freeze (i:=0) rfl (WK.up (d:=2) (r:=AC 4 (A0 Ab ([(Aa.mk 3 n ([]:Av) 0)]:List Aa))) rfl (Up.fact (i:=0) rfl) ?_))));obtain rfl:=An h;exact Ao (Bo Tryz.results28 (A5 rfl)) (sS sN) ⟨rfl,rfl⟩
theorem MK (F:Nat)  (r:Bool)(h:KY F=some r):Fn Tryz.prog GE 12 [] [] (λR H=>R=rB r∧H=[]):=by
 refine enter (n:=71) Tryz.func12 rfl Tryz.ntmps12 rfl (λw Z=>?_);unfold KY at h;refine Ae (wa rfl (Bc (AX (ys:=([([97]:Av)]:List Av)) (enc:=eS) (css:=[[rS ([97]:Av)]]) (xs:=[.const (.string ⟨#[97]⟩)]) CS C7 Wp rfl rfl rfl ⟨Ep.one rfl (Up.refl _),trivial⟩ rfl He rfl rfl rfl (λb1=>?_))));refine wv (r:=B8 [rv (.slice (some ⟨b1,0,none⟩) 1 1),Al 6,rv (.slice none 0 0),rS ([]:Av),Al 1,Al 5]) (GM rfl rfl rfl rfl rfl rfl rfl rfl) (Cd (cs:=[rv (.slice none 0 0),Al 0,rv (.slice none 0 0),rS ([]:Av),Al 0,Al 0]) OP rfl rfl (λb2=>?_));refine Bj (i:=0) BH rfl rfl rfl ⟨(CP (i:=1) rfl),(BS rfl),(BS rfl),(BS rfl),(BS rfl),(BS rfl),trivial⟩ rfl rfl (cs':=[rv (.slice (some ⟨b1,0,none⟩) 1 1),Al 6,rv (.slice none 0 0),rS ([]:Av),Al 1,Al 5]) rfl (H':=[.blk b2 [rv (.slice (some ⟨b1,0,none⟩) 1 1),Al 6,rv (.slice none 0 0),rS ([]:Av),Al 1,Al 5] 26,.row (.slice (some ⟨b1,0,none⟩) 1 1) 9 1 (A0 eS ([([97]:Av)]:List Av))]) rfl (Bc (wv (r:=B8 [Al 6,Al 0,rS ([]:Av),Al 1]) (Jx rfl rfl rfl rfl) (wv (r:=B8 [Al 4,Al 0,rS ([97]:Av),Al 0]) (DT rfl rfl rfl rfl) (wv (r:=B8 [Al 3,Al 3,rS ([]:Av),Al 0]) (DU rfl rfl rfl rfl) (AX (ys:=([(Aa.mk 6 0 ([]:Av) 1),(Aa.mk 4 0 ([97]:Av) 0),(Aa.mk 3 3 ([]:Av) 0)]:List Aa)) (enc:=Ab) (css:=[[Al 6,Al 0,rS ([]:Av),Al 1],[Al 4,Al 0,rS ([97]:Av),Al 0],[Al 3,Al 3,rS ([]:Av),Al 0]]) (xs:=[.tmp 11,.tmp 12,.tmp 13]) Br Bz GX rfl rfl rfl ⟨Ep.agg ⟨Up.refl _,Up.refl _,Up.refl _,Up.refl _,trivial⟩,Ep.agg ⟨Up.refl _,Up.refl _,Up.refl _,Up.refl _,trivial⟩,Ep.agg ⟨Up.refl _,Up.refl _,Up.refl _,Up.refl _,trivial⟩,trivial⟩ rfl Bi rfl rfl rfl (λb3=>?_))))));refine wa rfl (Bc (wv (AQ (i:=1) Cl BH rfl rfl rfl rfl) (WL.freeze (i:=2) rfl (WL.up (d:=16) (r:=B8 [AC 1 (A0 eS ([([97]:Av)]:List Av)),Al 6,rv (.slice none 0 0),rS ([]:Av),Al 1,Al 5]) rfl (Up.agg ⟨Up.fact (i:=0) rfl,Up.refl _,Up.refl _,Up.refl _,Up.refl _,Up.refl _,trivial⟩) (WL.up (d:=16) (r:=B8 [AC 1 (A0 eS ([([97]:Av)]:List Av)),Al 6,AC 1 (A0 Af ([]:List (List Aa))),rS ([]:Av),Al 1,Al 5]) rfl (Up.agg ⟨Up.refl _,Up.refl _,Up.le (DJ.nil _),Up.refl _,Up.refl _,Up.refl _,trivial⟩) (ob h λr4 e6 h5=>BM Tryz.call19 (SL F (Ah.mk ([([97]:Av)]:List Av) 6 ([]:List (List Aa)) ([]:Av) 1 5) r4 e6) rfl (wm rfl (wv (A8 rfl rfl) (wv (A8 rfl rfl) (wa rfl (wa rfl (Bc (ob h5 λr7 e9 h8=>BM Tryz.call21 (U2 F ([91,91,34,97,34,93,44,34,114,97,110,103,101,34,44,49,44,53,93]:Av) r7 e9) rfl (wm rfl (wv (A8 rfl rfl) (wv (A8 rfl rfl) (Cd (cs:=[rv (.slice none 0 0),Al 0,rv (.slice none 0 0),rS ([]:Av),Al 0,Al 0]) OP rfl rfl (λhq=>?_))))))))))))))))));refine Bj (i:=0) BH rfl rfl rfl (BP.c rfl) rfl rfl (cs':=[AC 1 (A0 eS r7.1.fPath),Al r7.1.fOp,AC 1 (A0 Af r7.1.fValues),rS r7.1.fText,Al r7.1.fLow,Al r7.1.fHigh]) rfl (H':=[.blk hq (Ad r7.1) 26,.fact (.slice (some ⟨b1,0,none⟩) 1 1) (AC 1 (A0 eS ([([97]:Av)]:List Av))),.row (.slice (some ⟨b3,0,none⟩) 3 3) 54 4 (A0 Ab ([(Aa.mk 6 0 ([]:Av) 1),(Aa.mk 4 0 ([97]:Av) 0),(Aa.mk 3 3 ([]:Av) 0)]:List Aa)),.blk b2 [rv (.slice (some ⟨b1,0,none⟩) 1 1),Al 6,rv (.slice none 0 0),rS ([]:Av),Al 1,Al 5] 26]) rfl (wa rfl (Bc (AX (ys:=([([97]:Av)]:List Av)) (enc:=eS) (css:=[[rS ([97]:Av)]]) (xs:=[.const (.string ⟨#[97]⟩)]) CS C7 Wp rfl rfl rfl ⟨Ep.one rfl (Up.refl _),trivial⟩ rfl He rfl rfl rfl (λhb=>?_))));refine wv (r:=B8 [rv (.slice (some ⟨hb,0,none⟩) 1 1),Al 6,rv (.slice none 0 0),rS ([]:Av),Al 2,Al 3]) (GM rfl rfl rfl rfl rfl rfl rfl rfl) (Cd (cs:=[rv (.slice none 0 0),Al 0,rv (.slice none 0 0),rS ([]:Av),Al 0,Al 0]) OP rfl rfl (λhx=>?_));refine Bj (i:=0) BH rfl rfl rfl ⟨(CP (i:=1) rfl),(BS rfl),(BS rfl),(BS rfl),(BS rfl),(BS rfl),trivial⟩ rfl rfl (cs':=[rv (.slice (some ⟨hb,0,none⟩) 1 1),Al 6,rv (.slice none 0 0),rS ([]:Av),Al 2,Al 3]) rfl (H':=[.blk hx [rv (.slice (some ⟨hb,0,none⟩) 1 1),Al 6,rv (.slice none 0 0),rS ([]:Av),Al 2,Al 3] 26,.row (.slice (some ⟨hb,0,none⟩) 1 1) 9 1 (A0 eS ([([97]:Av)]:List Av)),.blk hq (Ad r7.1) 26,.fact (.slice (some ⟨b1,0,none⟩) 1 1) (AC 1 (A0 eS ([([97]:Av)]:List Av))),.row (.slice (some ⟨b3,0,none⟩) 3 3) 54 4 (A0 Ab ([(Aa.mk 6 0 ([]:Av) 1),(Aa.mk 4 0 ([97]:Av) 0),(Aa.mk 3 3 ([]:Av) 0)]:List Aa)),.blk b2 [rv (.slice (some ⟨b1,0,none⟩) 1 1),Al 6,rv (.slice none 0 0),rS ([]:Av),Al 1,Al 5] 26]) rfl (Bc (AX (ys:=([([97]:Av)]:List Av)) (enc:=eS) (css:=[[rS ([97]:Av)]]) (xs:=[.const (.string ⟨#[97]⟩)]) CS C7 Wp rfl rfl rfl ⟨Ep.one rfl (Up.refl _),trivial⟩ rfl He rfl rfl rfl (λhm=>?_)));refine ob h8 λha hy hz=>BM Tryz.call28 (MJ 2 ha hy) rfl (AX (ys:=([ha]:List (List Aa))) (enc:=Af) (css:=[[AC 4 (A0 Ab ha)]]) (xs:=[.tmp 27]) BX Cg Mi rfl rfl rfl ⟨Ep.one rfl (Up.refl _),trivial⟩ rfl B2 rfl rfl rfl (λhn=>?_));refine wv (r:=B8 [rv (.slice (some ⟨hm,0,none⟩) 1 1),Al 4,rv (.slice (some ⟨hn,0,none⟩) 1 1),rS ([]:Av),Al 0,Al 0]) (LF rfl rfl rfl rfl rfl rfl) (Cd (cs:=[rv (.slice none 0 0),Al 0,rv (.slice none 0 0),rS ([]:Av),Al 0,Al 0]) OP rfl rfl (λh0=>?_));refine Bj (i:=0) BH rfl rfl rfl ⟨(CP (i:=2) rfl),(BS rfl),(CP (i:=1) rfl),(BS rfl),(BS rfl),(BS rfl),trivial⟩ rfl rfl (cs':=[rv (.slice (some ⟨hm,0,none⟩) 1 1),Al 4,rv (.slice (some ⟨hn,0,none⟩) 1 1),rS ([]:Av),Al 0,Al 0]) rfl (H':=[.blk h0 [rv (.slice (some ⟨hm,0,none⟩) 1 1),Al 4,rv (.slice (some ⟨hn,0,none⟩) 1 1),rS ([]:Av),Al 0,Al 0] 26,.row (.slice (some ⟨hn,0,none⟩) 1 1) 28 1 (A0 Af ([ha]:List (List Aa))),.row (.slice (some ⟨hm,0,none⟩) 1 1) 9 1 (A0 eS ([([97]:Av)]:List Av)),.blk hx [rv (.slice (some ⟨hb,0,none⟩) 1 1),Al 6,rv (.slice none 0 0),rS ([]:Av),Al 2,Al 3] 26,.row (.slice (some ⟨hb,0,none⟩) 1 1) 9 1 (A0 eS ([([97]:Av)]:List Av)),.blk hq (Ad r7.1) 26,.fact (.slice (some ⟨b1,0,none⟩) 1 1) (AC 1 (A0 eS ([([97]:Av)]:List Av))),.row (.slice (some ⟨b3,0,none⟩) 3 3) 54 4 (A0 Ab ([(Aa.mk 6 0 ([]:Av) 1),(Aa.mk 4 0 ([97]:Av) 0),(Aa.mk 3 3 ([]:Av) 0)]:List Aa)),.blk b2 [rv (.slice (some ⟨b1,0,none⟩) 1 1),Al 6,rv (.slice none 0 0),rS ([]:Av),Al 1,Al 5] 26]) rfl (Ak (Am (WC.upBlk (i:=8) (cs':=[AC 1 (A0 eS ([([97]:Av)]:List Av)),Al 6,AC 1 (A0 Af ([]:List (List Aa))),rS ([]:Av),Al 1,Al 5]) rfl ⟨Up.fact (i:=6) rfl,Up.refl _,Up.le (DJ.nil _),Up.refl _,Up.refl _,Up.refl _,trivial⟩ (WC.freeze (i:=4) rfl (WC.upBlk (i:=4) (cs':=[AC 1 (A0 eS ([([97]:Av)]:List Av)),Al 6,AC 1 (A0 Af ([]:List (List Aa))),rS ([]:Av),Al 2,Al 3]) rfl ⟨Up.fact (i:=0) rfl,Up.refl _,Up.le (DJ.nil _),Up.refl _,Up.refl _,Up.refl _,trivial⟩ (WC.freeze (i:=3) rfl (WC.freeze (i:=3) rfl (WC.upBlk (i:=3) (cs':=[AC 1 (A0 eS ([([97]:Av)]:List Av)),Al 4,AC 1 (A0 Af ([ha]:List (List Aa))),rS ([]:Av),Al 0,Al 0]) rfl ⟨Up.fact (i:=1) rfl,Up.refl _,Up.fact (i:=0) rfl,Up.refl _,Up.refl _,Up.refl _,trivial⟩ (WC.freeze (i:=7) rfl (WC.up (d:=2) (r:=AC 4 (A0 Ab ([(Aa.mk 6 0 ([]:Av) 1),(Aa.mk 4 0 ([97]:Av) 0),(Aa.mk 3 3 ([]:Av) 0)]:List Aa))) rfl (Up.fact (i:=0) rfl) (ob hz λhf h1 h2=>ck h2 λhg h3=>ob h3 λhr h4 h6=>ob h6 λhh h7 h9=>ck h9 λhs hA=>ck hA λht hB=>ck hB λhu hC=>ck hC λho hD=>ob hD λhi hE hG=>ck hG λhp hH=>ob hH λhj hI hJ=>ck hJ λhk hK=>ob hK λhe hL hN=>?_)))))))))));refine ck hN λhw hO=>ob hO λhl hP hQ=>C8 [1,2,3,4,5,6,7,8] [⟨[],B8 [AC 1 (A0 eS ([([97]:Av)]:List Av)),Al 6,AC 1 (A0 Af ([]:List (List Aa))),rS ([]:Av),Al 1,Al 5],1⟩,⟨[],AC 4 (A0 Ab ([(Aa.mk 6 0 ([]:Av) 1),(Aa.mk 4 0 ([97]:Av) 0),(Aa.mk 3 3 ([]:Av) 0)]:List Aa)),0⟩,⟨[0,1],rB hf,0⟩,⟨[2],rB hf,0⟩,⟨[3],B8 [AC 1 (A0 eS ([([97]:Av)]:List Av)),Al 6,AC 1 (A0 Af ([]:List (List Aa))),rS ([]:Av),Al 1,Al 5],1⟩,⟨[3],AC 4 (A0 Ab hr),0⟩,⟨[4,5,3],rB hh,0⟩,⟨[6,3],rB (!hh),0⟩,⟨[3,7],rB (!hh),0⟩,⟨[8],rB (!hh),0⟩,⟨[9],rS r4.1,0⟩,⟨[10,9],rB (decide (r4.1=([91,91,34,97,34,93,44,34,114,97,110,103,101,34,44,49,44,53,93]:Av))),0⟩,⟨[9,11],rB (decide (r4.1=([91,91,34,97,34,93,44,34,114,97,110,103,101,34,44,49,44,53,93]:Av))),0⟩,⟨[12],rB (decide (r4.1=([91,91,34,97,34,93,44,34,114,97,110,103,101,34,44,49,44,53,93]:Av))),0⟩,⟨[13],Al r4.2,0⟩,⟨[14,13],rB (decide (r4.2=0)),0⟩,⟨[13,15],rB (decide (r4.2=0)),0⟩,⟨[16],rB (decide (r4.2=0)),0⟩,⟨[17],Al r7.2,0⟩,⟨[18,17],rB (decide (r7.2=0)),0⟩,⟨[17,19],rB (decide (r7.2=0)),0⟩,⟨[20],rB (decide (r7.2=0)),0⟩,⟨[21],B8 [AC 1 (A0 eS ([([97]:Av)]:List Av)),Al 6,AC 1 (A0 Af ([]:List (List Aa))),rS ([]:Av),Al 1,Al 5],1⟩,⟨[21],B8 (Ad r7.1),1⟩,⟨[22,23,21],rB hi,0⟩,⟨[21,24],rB hi,0⟩,⟨[25],rB hi,0⟩,⟨[26],B8 [AC 1 (A0 eS ([([97]:Av)]:List Av)),Al 6,AC 1 (A0 Af ([]:List (List Aa))),rS ([]:Av),Al 2,Al 3],1⟩,⟨[26],B8 [AC 1 (A0 eS ([([97]:Av)]:List Av)),Al 6,AC 1 (A0 Af ([]:List (List Aa))),rS ([]:Av),Al 1,Al 5],1⟩,⟨[27,28,26],rB hj,0⟩,⟨[26,29],rB hj,0⟩,⟨[30],rB hj,0⟩,⟨[31],B8 [AC 1 (A0 eS ([([97]:Av)]:List Av)),Al 6,AC 1 (A0 Af ([]:List (List Aa))),rS ([]:Av),Al 2,Al 3],1⟩,⟨[31],B8 [AC 1 (A0 eS ([([97]:Av)]:List Av)),Al 4,AC 1 (A0 Af ([ha]:List (List Aa))),rS ([]:Av),Al 0,Al 0],1⟩,⟨[32,33,31],rB he,0⟩,⟨[34,31],rB (!he),0⟩,⟨[31,35],rB (!he),0⟩,⟨[36],rB (!he),0⟩,⟨[37],AC 4 (A0 Ab ([(Aa.mk 6 0 ([]:Av) 1),(Aa.mk 4 0 ([97]:Av) 0),(Aa.mk 3 3 ([]:Av) 0)]:List Aa)),0⟩,⟨[38,37],rB hl,0⟩,⟨[37,39],rB hl,0⟩,⟨[40],rB hl,0⟩] [0] ?_ ?_
 ·refine of (AQ (i:=8) Cl BH rfl rfl rfl rfl) (oq (A6 rfl) (D7 rfl (λH=>E6 Tryz.call15 (QL F (Ah.mk ([([97]:Av)]:List Av) 6 ([]:List (List Aa)) ([]:Av) 1 5) ([(Aa.mk 6 0 ([]:Av) 1),(Aa.mk 4 0 ([97]:Av) 0),(Aa.mk 3 3 ([]:Av) 0)]:List Aa) hf h1) rfl) ?_));refine oq (A6 rfl) (on hg (of (AQ (i:=8) Cl BH rfl rfl rfl rfl) (D7 rfl (λH=>Jw (b:=hf) rfl rfl hg (E6 Tryz.call28 (MJ 3 hr h4) rfl)) ?_)));refine D7 rfl (λH=>Jw (b:=hf) rfl rfl hg (E6 Tryz.call15 (QL F (Ah.mk ([([97]:Av)]:List Av) 6 ([]:List (List Aa)) ([]:Av) 1 5) hr hh h7) rfl)) ?_;refine on hg (oq (B4 rfl) (oq (Ay rfl hg rfl) (oq (A6 rfl) (on hs (oq (A6 rfl) (on hs (oq (DK rfl rfl) (oq (Ay rfl hs rfl) (oq (A6 rfl) (on ht (oq (A6 rfl) (on ht (oq (Bh rfl rfl) (oq (Ay rfl ht rfl) (oq (A6 rfl) (on hu (oq (A6 rfl) (on hu (oq (Bh rfl rfl) (oq (Ay rfl hu rfl) (oq (A6 rfl) (on ho (of (AQ (i:=8) Cl BH rfl rfl rfl rfl) ?_)))))))))))))))))))))));refine on ho (of (AQ (i:=6) Cl BH rfl rfl rfl rfl) (D7 rfl (λH=>Jw (b:=decide (r7.2=0)) rfl rfl ho (E6 Tryz.call23 (QX F (Ah.mk ([([97]:Av)]:List Av) 6 ([]:List (List Aa)) ([]:Av) 1 5) r7.1 hi hE) rfl)) ?_));refine oq (Ay rfl ho rfl) (oq (A6 rfl) (on hp (of (AQ (i:=5) Cl BH rfl rfl rfl rfl) (on hp (of (AQ (i:=8) Cl BH rfl rfl rfl rfl) (D7 rfl (λH=>Jw (b:=hi) rfl rfl hp (E6 Tryz.call24 (MQ F (Ah.mk ([([97]:Av)]:List Av) 6 ([]:List (List Aa)) ([]:Av) 2 3) (Ah.mk ([([97]:Av)]:List Av) 6 ([]:List (List Aa)) ([]:Av) 1 5) hj hI) rfl)) ?_))))));refine oq (Ay rfl hp rfl) (oq (A6 rfl) (on hk (of (AQ (i:=5) Cl BH rfl rfl rfl rfl) (on hk (of (AQ (i:=4) Cl BH rfl rfl rfl rfl) (D7 rfl (λH=>Jw (b:=hj) rfl rfl hk (E6 Tryz.call24 (MQ F (Ah.mk ([([97]:Av)]:List Av) 6 ([]:List (List Aa)) ([]:Av) 2 3) (Ah.mk ([([97]:Av)]:List Av) 4 ([ha]:List (List Aa)) ([]:Av) 0 0) he hL) rfl)) ?_))))));refine on hk (oq (B4 rfl) (oq (Ay rfl hk rfl) (oq (A6 rfl) (on hw (oq (A6 rfl) (D7 rfl (λH=>Jw (b:=!he) rfl rfl hw (Km (rs:=[rv (.slice none 0 0),AC 4 (A0 Ab ([(Aa.mk 6 0 ([]:Av) 1),(Aa.mk 4 0 ([97]:Av) 0),(Aa.mk 3 3 ([]:Av) 0)]:List Aa))]) (r:=rB hl) Tryz.call17 rfl (Fn.args (PM F ([]:List Ah) ([(Aa.mk 6 0 ([]:Av) 1),(Aa.mk 4 0 ([97]:Av) 0),(Aa.mk 3 3 ([]:Av) 0)]:List Aa) hl hP) ⟨DJ.nil _,DJ.refl _,trivial⟩) rfl)) ?_))))));refine oq (Ay rfl hw rfl) (oq (AE rfl) ?_);exact Ct
 refine A7 (Ap ?_);obtain rfl:=An hQ;exact Ao (Bo Tryz.results12 (A5 rfl)) (sS (sS (sS (sS (sS (sS (sS (sS (sS sN))))))))) ⟨rfl,rfl⟩
theorem Uh (F:Nat)(l:(List Ah))(r:Bool)(h:Ig F l=some r):Fn Tryz.prog GE 10 [AC 6 (A0 Ad l)] [] (λR H=>R=rB r∧H=[]):=by
 refine enter (n:=19) Tryz.func10 rfl Tryz.ntmps10 rfl (λw Z=>?_);unfold Ig at h;refine Ae (wa rfl (Ak (Am (Ae (wm rfl (wv (AF (ys:=l) (enc:=Ad) NV rfl) (wv (C3 rfl rfl) (Ak (cz h rfl (λc1 h2=>?_) (λc1 h3=>?_))))))))))
 ·refine Ae (wa rfl (Ak (Ap (Ac ?_))));obtain rfl:=An h2;exact Ao (Bo Tryz.results10 (A5 rfl)) sN ⟨rfl,rfl⟩
 ·refine Aq (A7 (Am (Ae (wm rfl (wv (AF (ys:=l) (enc:=Ad) NV rfl) (wv (r:=Al 0) (A6 rfl) (Ak (A3 (ob h3 λhh hi hg=>Bb (S:=Nat×(Int)×(Unit)) (V:=(Unit)×(Unit)) 0 (λσ=>BG (λσ=>Gn F l σ) σ.1 σ.2.1=some hh) (λσ=>[(0,AC 6 (A0 Ad l)),(8,Al (l.length:Int)),(9,Al σ.2.1)]) (λσ=>[]) (λσ=>σ.1) (F,0,()) hi (Az.c rfl (Az.c rfl (Az.c rfl Az.nil))) sN (λσ=>H5 =some r) (λσ=>[]) (λσ=>[]) ?_ ?_)))))))))
  ·rintro⟨h4,ha,⟨⟩⟩ hj;refine Bs (l':=[(0,AC 6 (A0 Ad l)),(8,Al (l.length:Int)),(9,Al ha)]) (H':=[]) rfl rfl ?_;obtain⟨hk,rfl,t46,hb,hf⟩:=BF hj;replace hb:Gn F l ha=some t46:=hb;unfold Gn at hb;refine Ae (wv (BW rfl rfl) (Ak (Am (cz hb rfl (λhl hm=>?_) (λhl hn=>?_)))))
   ·refine Aq (A7 (Am (A3 (Ae (wm rfl (wa rfl (Bc (wm rfl (wm rfl (ck hm λho hp=>wv (AT (enc:=Ad) (ys:=l) NV BH rfl rfl ho) (wv (Cy Cl BH rfl rfl rfl) (ob hp λhq hr hs=>BM Tryz.call9 (QT F (Ax l ha) hq hr) rfl (wv (B4 rfl) (Ak (cz hs rfl (λht hu=>?_) (λht hw=>?_))))))))))))))))
    ·refine Ae (wa rfl (Ak (Ap (At (Ac (Ac (AM ?_)))))));have hx:=Bg hu hf hg;refine At (Ac ?_);obtain rfl:=An hx;exact Ao (Bo Tryz.results10 (A5 rfl)) sN ⟨rfl,rfl⟩
    ·refine Aq (A2 (A7 (Aj (ck hw λhy hz=>wv (Bd rfl rfl hy) (wm rfl (Ai ?_))))));have h0:=AW hz hf;exact Au (Ar (hk,ha+1,()) ⟨h0,Yy _⟩ (Az.c rfl (Az.c rfl (Az.c rfl Az.nil))) sN)
   ·refine Bf (As ?_);have h1:=Bu hn hf hg;exact As (AP (Ar ((),()) h1 Az.nil sN))
  ·rintro⟨⟨⟩,⟨⟩⟩ he;refine BK (l':=[]) (H':=[]) rfl rfl ?_;replace he:H5 =some r:=he;unfold H5 at he;refine AV (A7 (Ae (wa rfl (Ak (Ap ?_)))));obtain rfl:=An he;exact Ao (Bo Tryz.results10 (A5 rfl)) sN ⟨rfl,rfl⟩
theorem QE (F:Nat)(l:(List Ah))(events:(List Cf))(r:Bool)(h:IK F l events=some r):Fn Tryz.prog GE 8 [AC 6 (A0 Ad l),AC 7 (A0 Bw events)] [] (λR H=>R=rB r∧H=[]):=by
 refine enter (n:=59) Tryz.func8 rfl Tryz.ntmps8 rfl (λw Z=>?_);unfold IK at h;refine Ae (wa rfl (Ak (Am (ck h λg1 h2=>AD [(0,AC 6 (A0 Ad l)),(1,AC 7 (A0 Bw events)),(16,rB ((!(ov (Ig F l)))||(decide (40<(events.length:Int)))))] [] ?_ ?_))))
 ·refine Aj (wm rfl (BM Tryz.call10 (Uh F l (ov (Ig F l)) (Dg g1)) rfl (wv (B4 rfl) (wm rfl (AN (!(ov (Ig F l))) (λc3=>?_) (λc3=>?_))))))
  ·refine wf c3 (wf c3 (wf c3 (wv (r:=rB true) (Ay rfl c3 rfl) (Ai ?_))));exact BJ c3
  ·refine wo c3 (wm rfl (wo c3 (wv (AF (ys:=events) (enc:=Bw) Qk rfl) (wo c3 (wv (C3 rfl rfl) (Cm rfl c3 rfl (Ai ?_)))))));exact BJ c3
 refine cz h2 rfl (λc4 h5=>?_) (λc4 h9=>?_)
 ·refine Ae (ob h5 λr6 e8 h7=>BM Tryz.call12 (MK F r6 e8) rfl (wa rfl (Ak (Ap (Ac ?_)))));obtain rfl:=An h7;exact Ao (Bo Xt (A5 rfl)) sN ⟨rfl,rfl⟩
 ·refine Aq (A7 (Am (Ae (wm rfl (wv (AF (ys:=events) (enc:=Bw) Qk rfl) (wv (r:=Al 0) (A6 rfl) (Ak (A3 (ob h9 λho hp hm=>Bb (S:=Nat×(Int)×(Unit)) (V:=(Unit)×(Unit)) 0 (λσ=>BG (λσ=>Eg F events σ) σ.1 σ.2.1=some ho) (λσ=>[(0,AC 6 (A0 Ad l)),(1,AC 7 (A0 Bw events)),(19,Al (events.length:Int)),(20,Al σ.2.1)]) (λσ=>[]) (λσ=>σ.1) (F,0,()) hp (Az.c rfl (Az.c rfl (Az.c rfl (Az.c rfl Az.nil)))) sN (λσ=>Ee F l events =some r) (λσ=>[(0,AC 6 (A0 Ad l)),(1,AC 7 (A0 Bw events))]) (λσ=>[]) ?_ ?_)))))))))
  ·rintro⟨gq,hf,⟨⟩⟩ hq;refine Bs (l':=[(0,AC 6 (A0 Ad l)),(1,AC 7 (A0 Bw events)),(19,Al (events.length:Int)),(20,Al hf)]) (H':=[]) rfl rfl ?_;obtain⟨hr,rfl,hs,hg,hk⟩:=BF hq;replace hg:Eg F events hf=some hs:=hg;unfold Eg at hg;refine Ae (wv (BW rfl rfl) (Ak (Am (cz hg rfl (λht hu=>?_) (λht hw=>?_)))))
   ·refine Aq (A7 (Am (A3 (Ae (wm rfl (wa rfl (Bc (wm rfl (wm rfl (ck hu λhx hy=>wv (AT (enc:=Bw) (ys:=events) Qk Tn rfl rfl hx) (wv (AI Wq rfl Cg rfl rfl) (wv (AH CE rfl rfl) (ob hy λhz h0 h1=>BM Tryz.call11 (Iy F ((Ax events hf).fBody) hz h0) rfl (wv (B4 rfl) (Ak (cz h1 rfl (λh3 h4=>?_) (λh3 h6=>?_)))))))))))))))))
    ·refine Ae (ob h4 λh8 hA hB=>BM Tryz.call12 (MK F h8 hA) rfl (wa rfl (Ak (Ap (At (Ac (Ac (AM ?_))))))));have hC:=Bg hB hk hm;refine At (Ac ?_);obtain rfl:=An hC;exact Ao (Bo Xt (A5 rfl)) sN ⟨rfl,rfl⟩
    ·refine Aq (A2 (A7 (Aj (ck h6 λhD hE=>wv (Bd rfl rfl hD) (wm rfl (Ai ?_))))));have hG:=AW hE hk;exact Au (Ar (hr,hf+1,()) ⟨hG,Yy _⟩ (Az.c rfl (Az.c rfl (Az.c rfl (Az.c rfl Az.nil)))) sN)
   ·refine Bf (As ?_);have hH:=Bu hw hk hm;exact As (AP (Ar ((),()) hH (Az.c rfl (Az.c rfl Az.nil)) sN))
  ·rintro⟨⟨⟩,⟨⟩⟩ hh;refine BK (l':=[(0,AC 6 (A0 Ad l)),(1,AC 7 (A0 Bw events))]) (H':=[]) rfl rfl ?_;replace hh:Ee F l events =some r:=hh;unfold Ee at hh;refine AV (A7 (Ae (wm rfl (wm rfl (ob hh λha hI hJ=>BM Tryz.call26 (SI F l events ha hI) rfl (wm rfl (wm rfl (ob hJ λhb hK hL=>BM Tryz.call27 (PS F l events hb hK) rfl (wa rfl (wa rfl (Ak (Am (Ae (wm rfl (wv (AF (ys:=ha) (enc:=Bp) NU rfl) (wm rfl (wv (AF (ys:=hb) (enc:=Bp) NU rfl) (wv (Bk rfl rfl) (Ak (cz hL rfl (λhN hO=>?_) (λhN hP=>?_)))))))))))))))))))))
   ·refine Ae (wa rfl (Ak (Ap (Ac ?_))));obtain rfl:=An hO;exact Ao (Bo Xt (A5 rfl)) sN ⟨rfl,rfl⟩
   ·refine Aq (A7 (Am (Ae (wm rfl (wv (AF (ys:=ha) (enc:=Bp) NU rfl) (wv (r:=Al 0) (A6 rfl) (Ak (A3 (ob hP λhQ hR hn=>Bb (S:=Nat×(Int)×(Unit)) (V:=(Unit)×(Unit)) 2 (λσ=>BG (λσ=>Ef ha hb σ) σ.1 σ.2.1=some hQ) (λσ=>[(6,AC 1 (A0 Bp ha)),(7,AC 1 (A0 Bp hb)),(44,Al (ha.length:Int)),(45,Al σ.2.1)]) (λσ=>[]) (λσ=>σ.1) (F,0,()) hR (Az.c rfl (Az.c rfl (Az.c rfl (Az.c rfl Az.nil)))) sN (λσ=>Ed F =some r) (λσ=>[]) (λσ=>[]) ?_ ?_)))))))))
    ·rintro⟨gr,he,⟨⟩⟩ hS;refine Bs (l':=[(6,AC 1 (A0 Bp ha)),(7,AC 1 (A0 Bp hb)),(44,Al (ha.length:Int)),(45,Al he)]) (H':=[]) rfl rfl ?_;obtain⟨hT,rfl,hU,hi,hl⟩:=BF hS;replace hi:Ef ha hb he=some hU:=hi;unfold Ef at hi;refine Ae (wv (BW rfl rfl) (Ak (Am (cz hi rfl (λhV hW=>?_) (λhV hX=>?_)))))
     ·refine Aq (A7 (Am (A3 (Ae (wm rfl (wa rfl (Ak (Am (ck hW λhY hZ=>ck hZ λga gb=>C8 [6,7,8,44,45] [⟨[],AC 1 (A0 Bp ha),0⟩,⟨[],Al he,0⟩,⟨[0,1],Jv [Al (Ax ha he)],0⟩,⟨[2],Al (Ax ha he),0⟩,⟨[],AC 1 (A0 Bp hb),0⟩,⟨[],Al he,0⟩,⟨[4,5],Jv [Al (Ax hb he)],0⟩,⟨[6],Al (Ax hb he),0⟩,⟨[3,7],rB (!decide ((Ax ha he)=(Ax hb he))),0⟩] [56,6,7,44,45] ?_ ?_)))))))))
      ·refine oq (A6 rfl) (oq (A6 rfl) (oq (AT (enc:=Bp) (ys:=ha) NU B9 rfl rfl hY) (oq (AH BN rfl rfl) (oq (A6 rfl) (oq (A6 rfl) (oq (AT (enc:=Bp) (ys:=hb) NU B9 rfl rfl ga) (oq (AH BN rfl rfl) (oq (Bk rfl rfl) ?_))))))));exact Ct
      refine A7 (cz gb rfl (λgc gd=>?_) (λgc ge=>?_))
      ·refine Ae (wa rfl (Ak (Ap (At (Ac (Ac (AM ?_)))))));have gf:=Bg gd hl hn;refine At (Ac ?_);obtain rfl:=An gf;exact Ao (Bo Xt (A5 rfl)) sN ⟨rfl,rfl⟩
      ·refine Aq (A2 (A7 (Aj (ck ge λgg gh=>wv (Bd rfl rfl gg) (wm rfl (Ai ?_))))));have gi:=AW gh hl;exact Au (Ar (hT,he+1,()) ⟨gi,Yy _⟩ (Az.c rfl (Az.c rfl (Az.c rfl (Az.c rfl Az.nil)))) sN)
     ·refine Bf (As ?_);have gj:=Bu hX hl hn;exact As (AP (Ar ((),()) gj Az.nil sN))
    ·rintro⟨⟨⟩,⟨⟩⟩ hj;refine BK (l':=[]) (H':=[]) rfl rfl ?_;replace hj:Ed F =some r:=hj;unfold Ed at hj;refine AV (A7 (Ae (ob hj λgl gm gp=>BM Tryz.call12 (MK F gl gm) rfl (wa rfl (Ak (Ap ?_))))));obtain rfl:=An gp;exact Ao (Bo Xt (A5 rfl)) sN ⟨rfl,rfl⟩
end Go.Proofs.YtghdglcmblpbeaaGreatDoor.Q
namespace Go.Proofs.YtghdglcmblpbeaaGreatDoor.lawFilterSelects
open Go
set_option linter.unusedVariables false
def S5 (y:Aa):Bool:=(BB .i64) y.fKind&&(BB .i64) y.fInt&&R2 y.fStr&&(BB .i64) y.fN
def V5 (y:Ah):Bool:=(λys:(List Av)=>ys.all R2&&decide (ys.length≤9223372036854775807)) y.fPath&&(BB .i64) y.fOp&&(λys:(List (List Aa))=>ys.all (λys:(List Aa)=>ys.all S5&&decide (ys.length≤9223372036854775807))&&decide (ys.length≤9223372036854775807)) y.fValues&&R2 y.fText&&(BB .i64) y.fLow&&(BB .i64) y.fHigh
def V4 (y:Cf):Bool:=R2 y.fID&&R2 y.fTenant&&R2 y.fSource&&R2 y.fKey&&(BB .i64) y.fAt&&R2 y.fCause&&(λys:(List Aa)=>ys.all S5&&decide (ys.length≤9223372036854775807)) y.fBody
def Ys:Prop:=∀(y0:(List Ah)) (y1:(List Cf)) (o0:(λys:(List Ah)=>ys.all V5&&decide (ys.length≤9223372036854775807)) y0=true) (o1:(λys:(List Cf)=>ys.all V4&&decide (ys.length≤9223372036854775807)) y1=true),∃F,IK F y0 y1=some true
end Go.Proofs.YtghdglcmblpbeaaGreatDoor.lawFilterSelects
namespace Go.Proofs.YtghdglcmblpbeaaGreatDoor
open Go
set_option linter.unusedVariables false
set_option linter.unusedSimpArgs false
def Va (c:UInt8):Bool:=decide (32≤c.toNat)&&decide (c.toNat≤126)
theorem OI {s:Av}{x:Int}{c:UInt8}(h:s[x.toNat]? =some c):Ck s x=(c.toNat:Int):=by simp[Ck,h]
theorem Np {α:Type}{p:α→Bool}{s:List α}{k:Nat}{c:α}(h:s[k]? =some c):(s.take (k+1)).all p=((s.take k).all p&&p c):=by
 rw[List.take_add_one,h];simp
theorem OJ {α:Type}{p:α→Bool}{s:List α}{k:Nat}{c:α}(h:s[k]? =some c)(hp:p c=false):s.all p=false:=by
 rw[List.all_eq_false];exact⟨c,Y8 h,by simp[hp]⟩
theorem OY {F:Nat}{s:Av}(hF:s.length<F)(hs:s.length≤9223372036854775807):JN F s=some (s.all Va):=by
 obtain⟨o,h1,h2⟩:=If (body:=λσ=>Hn s σ) (λx=>0≤x∧x≤(s.length:Int)∧(s.take x.toNat).all Va=true) (λx=>s.length-x.toNat)
  (λo=>BE (λ_=>Hm) o=some (s.all Va)) (λx ⟨h0,hl,ha⟩=>by
   unfold Hn
   by_cases hx:x<(s.length:Int)
   ·obtain⟨c,hc⟩:∃c,s[x.toNat]? =some c:=⟨s[x.toNat]'(by omega),Y3 (by omega)⟩
    rw[AZ (by simpa using hx),Bt h0 hx,OI hc]
    cases ho:Va c with
    | false=>
     refine .inr ⟨.ret false,?_,?_⟩
     ·rw[AZ];simp only[Va,Zj,Yx] at ho;simp only[YZ,Yv];omega
     ·simp[BE,OJ hc ho]
    | true=>
     refine .inl ⟨x+1,?_,⟨by omega,by omega,?_⟩,by omega⟩
     ·rw[AJ,AU (by omega) (by omega)];simp only[Va,Y1,Yv] at ho;simp only[YO,Yx];omega
     ·rw[show(x+1).toNat=x.toNat+1 from by omega,Np hc,ha,ho];rfl
   ·refine .inr ⟨.go (),by rw[AJ (by simpa using hx)],?_⟩;rw[show x.toNat=s.length from by omega,List.take_length] at ha;simp[BE,Hm,ha]) F 0 ⟨by omega,by omega,by simp⟩ (by simpa using hF)
 unfold JN;rw[Ba h1,h2]
theorem Ol (F:Nat)(s:Av):IC F s=JN F s:=rfl
theorem Sq {F:Nat}{s:Av}(hF:s.length<F)(hs:s.length≤9223372036854775807):IC F s=some (s.all Va):=by rw[Ol];exact OY hF hs
def pl (c:Aa):Bool:=
 bif decide (c.fKind=1) then(decide (c.fInt=0)&&(decide (c.fStr=[])&&decide (c.fN=0))) else
 bif decide (c.fKind=2) then((decide (c.fInt=0)||decide (c.fInt=1))&&(decide (c.fStr=[])&&decide (c.fN=0))) else
 bif decide (c.fKind=3) then(decide (c.fStr=[])&&decide (c.fN=0)) else
 bif decide (c.fKind=4) then(decide (c.fInt=0)&&(decide (c.fN=0)&&c.fStr.all Va)) else
 bif decide (c.fKind=5) then(decide (c.fInt=0)&&(decide (c.fStr=[])&&decide (0≤c.fN))) else
 bif decide (c.fKind=6) then(decide (c.fInt=0)&&(decide (c.fStr=[])&&decide (0≤c.fN))) else false
theorem DW {α:Type}{p:Bool}{x y:Option α}{a b:α}(h:x=some a)(h':y=some b):AS p x y=some (bif p then a else b):=by cases p<;>simp[AS,h,h']
theorem Sc {F:Nat}{c:Aa}(hF:c.fStr.length<F)(hs:c.fStr.length≤9223372036854775807):My F c=some (pl c):=by
 unfold My pl;rw[OY hF hs];refine DW rfl (DW ?_ (DW rfl (DW ?_ (DW rfl (DW rfl rfl)))))
 ·cases h:decide (c.fInt=0)<;>simp
 ·simp[imp,AY,ov]
def LC:List AB→List AB
 | []=>[]
 | e::S=>bif decide (1<e.fLeft) then⟨e.fPairs,e.fLeft-1,e.fPairs,e.fLast,e.fStarted⟩::S else LC S
theorem Mf {α:Type}[Inhabited α](xs:List α)(e:α):Ax (xs++[e]) (xs.length:Int)=e:=by simp[Ax]
theorem Kb {α:Type}(xs:List α)(e e':α):List.set (xs++[e]) (Int.toNat (xs.length:Int)) e'=xs++[e']:=by simp
theorem Kq {α:Type}(xs:List α)(e:α):((xs++[e]).length:Int)-1=(xs.length:Int):=by simp
theorem Sj {α:Type}(xs:List α)(e:α):List.take (Int.toNat (xs.length:Int)) (xs++[e])=xs:=by simp
theorem L2:∀(S:List AB) (F:Nat),S.length<F→(∀e∈S,1≤e.fLeft∧e.fLeft≤9223372036854775807)→S.length≤4611686018427387904→
  ∃o,BG (λσ=>D2 σ) F S.reverse=some o∧BE (λν=>Ea ν) o=some (LC S).reverse
 | [],F+1,_,_,_=>⟨.go [],by simp[BG,D2,AS],by simp[BE,Ea,LC]⟩
 | e::S,F+1,hF,hb,hl=>by
  obtain⟨h1,h2⟩:=hb e (by simp);simp only[Y0] at hF hl;have hx:S.reverse.length=S.length:=by simp
  generalize hxs:S.reverse=xs at hx;have hr:(e::S).reverse=xs++[e]:=by simp[hxs]
  rw[hr];have hb1:D2 (xs++[e])=bif decide (1<e.fLeft) then some (.out (.ret (xs++[⟨e.fPairs,e.fLeft-1,e.fPairs,e.fLast,e.fStarted⟩]))) else some (.next xs):=by
   unfold D2;rw[AZ (by simp)];simp only[Kq,Mf,Kb,KJ];rw[AU (by omega) (by omega),Bt (by omega) (by simp;omega),AU (by omega) (by omega)]
   cases hd:decide (1<e.fLeft) with
   | true=>
    rw[AZ (by simp at hd ⊢;omega)];rfl
   | false=>
    rw[AJ (by simp at hd ⊢;omega),AU (by omega) (by omega),E2 (by omega) (by simp;omega),Sj];rfl
  rw[BG,hb1]
  cases hd:decide (1<e.fLeft) with
  | true=>exact⟨_,rfl,by simp[BE,Ea,LC,hd,hxs]⟩
  | false=>
   obtain⟨o,ho1,ho2⟩:=L2 S F (by omega) (λe he=>hb e (by simp[he])) (by omega);rw[hxs] at ho1;exact⟨o,ho1,by rw[ho2];simp[LC,hd]⟩
theorem Mz {S:List AB}{F:Nat}(hF:S.length<F)(hb:∀e∈S,1≤e.fLeft∧e.fLeft≤9223372036854775807)(hl:S.length≤4611686018427387904):JX F S.reverse=some (LC S).reverse:=by
 obtain⟨o,h1,h2⟩:=L2 S F hF hb hl;unfold JX;rw[Ba h1,h2]
def KQ (s:Av):Int:=s.length+2+s.count 34+s.count 92
theorem Mv {s:Av}(hs:s.length≤1152921504606846976):IZ s=some (KQ s):=by
 have h1:s.count 34≤s.length:=List.count_le_length;have h2:s.count 92≤s.length:=List.count_le_length;unfold IZ Lib.countByte;rw[AU (by omega) (by omega),AU (by omega) (by omega),AU (by omega) (by omega)];rfl
def Wu (c:Aa):Int:=
 bif decide (c.fKind=1) then 4 else bif decide (c.fKind=2) then IntKind.wrap .i64 (5-c.fInt) else bif decide (c.fKind=3) then((Lib.itoa c.fInt).length:Int) else
 bif decide (c.fKind=4) then KQ c.fStr else IntKind.wrap .i64 (2+max 0 (IntKind.wrap .i64 (c.fN-1)))
theorem OZ {c:Aa}(hs:c.fStr.length≤1152921504606846976)(hi:BB .i64 c.fInt=true):Pa c=some (Wu c):=by
 unfold Pa Wu;rw[Mv hs];refine DW rfl (DW rfl (DW ?_ (DW rfl rfl)));rw[C5 hi]
def I2 (d:Nat)(sh:AK)(c:Aa):AK:=
 ⟨max sh.fDepth ((d:Int)+1),IntKind.wrap .i64 (sh.fBytes+Wu c),sh.fOutside||(decide (c.fKind=3)&&!(decide ((-1000000000000)≤c.fInt)&&decide (c.fInt≤1000000000000))),sh.fLong||decide (200<(c.fStr.length:Int))⟩
def Xw (sh:AK)(c:Aa):AK:=⟨sh.fDepth,IntKind.wrap .i64 (sh.fBytes+(KQ c.fStr+1)),sh.fOutside,sh.fLong||decide (200<(c.fStr.length:Int))⟩
def La:List AB→Bool
 | []=>false
 | e::_=>e.fKey
abbrev ON:=List AB×Int×AK
abbrev Wn:=Out (Int×AK×Bool) AK
def Qj (n:Int)(S:List AB)(i:Int)(sh:AK)(c:Aa):Stp ON Wn:=
 bif !pl c then .out (.ret (0,sh,false)) else
 match S with
 | e::S'=>
  bif e.fKey then
   bif !decide (c.fKind=4)||(e.fStarted&&(CY c.fStr e.fLast||decide (c.fStr=e.fLast))) then .out (.ret (0,sh,false))
   else .next ((⟨e.fPairs,e.fLeft,false,c.fStr,true⟩::S').reverse,i+1,Xw sh c)
  else bif decide (0<c.fN) then
   bif decide (n<c.fN) then .out (.ret (0,I2 S.length sh c,false))
   else .next ((⟨decide (c.fKind=6),c.fN,decide (c.fKind=6),[],false⟩::S).reverse,i+1,I2 S.length sh c)
  else bif decide (LC S=[]) then .out (.ret (i+1,I2 S.length sh c,true)) else .next ((LC S).reverse,i+1,I2 S.length sh c)
 | []=>
  bif decide (0<c.fN) then
   bif decide (n<c.fN) then .out (.ret (0,I2 0 sh c,false))
   else .next ([⟨decide (c.fKind=6),c.fN,decide (c.fKind=6),[],false⟩],i+1,I2 0 sh c)
  else .out (.ret (i+1,I2 0 sh c,true))
theorem Nc {S:List AB}:decide (((LC S).reverse.length:Int)=0)=decide (LC S=[]):=by
 rw[YD];simp
theorem XD {α:Type}{xs:List α}{e x:α}{M:Nat}(h:xs.length+1≤M)(hM2:(M+2)*48≤140737488355328):Ey 48 ((xs++[e]).length+([x]:List α).length)=true:=by
 refine Y5 (Nat.le_trans (Nat.mul_le_mul_right 48 ?_) hM2);rw[Y4,YI,YI];omega
set_option maxHeartbeats 600000 in
theorem Pd {F:Nat}{v:List Aa}{S:List AB}{i:Int}{sh:AK}{c:Aa}(h0:0≤i)(hc:v[i.toNat]? =some c){M:Nat}(hM:M≤1152921504606846976)(hM2:(M+2)*48≤140737488355328)(hv:v.length≤M)(hS:S.length≤M)(hF:M<F)
  (hs:c.fStr.length≤M) (hi:BB .i64 c.fInt=true) (hb:∀e∈S,1≤e.fLeft∧e.fLeft≤9223372036854775807):D1 F v S.reverse i sh=some (Qj v.length S i sh c):=by
 have hil:i.toNat<v.length:=(List.getElem?_eq_some_iff.1 hc).1;have hat:Ax v i=c:=by simp[Ax,hc]
 unfold D1 Qj;rw[AZ (by simp;omega),Bt h0 (by omega),hat,Sc (by omega) (by omega),Ba rfl]
 cases hp:pl c with
 | false=>rw[AZ (by simp)];rfl
 | true=>
  rw[AJ (by simp)]
  cases S with
  | nil=>
   rw[C5 (by simp[imp]),C5 (by simp[imp]),AJ (by simp),AU (by simp) (by simp),OZ (by omega) hi,Ba rfl,C5 (by simp[imp,Bv])];simp only[Bv,ov,YN,YA,Y2]
   cases hn:decide (0<c.fN) with
   | true=>
    rw[AZ rfl]
    cases hm:decide ((v.length:Int)<c.fN) with
    | true=>rw[AZ rfl];simp[I2]
    | false=>rw[AJ rfl,C5 (by simp[Ey])];unfold DQ;rw[AU (by omega) (by omega)];simp[I2]
   | false=>
    rw[AJ rfl,Ba (Mz (S:=[]) (by simp;omega) (by simp) (by simp)),AZ (by simp[LC]),AU (by omega) (by omega)];simp[I2]
  | cons e S'=>
   have hx:S'.reverse.length=S'.length:=by simp
   generalize hxs:S'.reverse=xs at hx;have hr:(e::S').reverse=xs++[e]:=by simp[hxs]
   simp only[Y0] at hS;have hlen:((xs++[e]).length:Int)=(xs.length:Int)+1:=by simp
   rw[hr,C5 (by simp only[imp,Kq];rw[PH (by omega) (by omega)];simp),C5 (by simp only[imp,Kq];rw[Uu (by omega) (by omega)];simp)];rw[Kq,Mf]
   cases hk:e.fKey with
   | true=>
    rw[AZ (by simp),AU (by omega) (by omega),Bt (by omega) (by omega)];simp only[hk,YA,Y2,Y7]
    cases ht : !decide (c.fKind=4)||(e.fStarted&&(CY c.fStr e.fLast||decide (c.fStr=e.fLast))) with
    | true=>rw[AZ rfl];rfl
    | false=>
     rw[AJ rfl,Kb,KJ,Mf,Kb,KJ,Mf,Kb,KJ,Mv (by omega),Ba rfl,AU (by unfold KQ;omega) (by unfold KQ;have:=@List.count_le_length UInt8 _ 34 c.fStr;have:=@List.count_le_length UInt8 _ 92 c.fStr;omega)];unfold DQ;rw[AU (by omega) (by omega)];simp[Xw,hxs]
   | false=>
    rw[AJ (by simp),hlen,AU (by omega) (by omega),OZ (by omega) hi,Ba rfl,C5 (by simp[imp,Bv])];simp only[hk,Bv,ov,YN,YA,Y2,Y7]
    cases hn:decide (0<c.fN) with
    | true=>
     rw[AZ rfl]
     cases hm:decide ((v.length:Int)<c.fN) with
     | true=>rw[AZ rfl];simp[I2,hx]
     | false=>rw[AJ rfl,C5 (XD (by omega) hM2)];unfold DQ;rw[AU (by omega) (by omega)];simp[I2,hx,hxs]
    | false=>
     have hcl:=Mz (S:=e::S') (F:=F) (by simp;omega) hb (by simp;omega);rw[hr] at hcl;rw[AJ rfl,hcl,Ba rfl,Nc]
     cases hq:decide (LC (e::S')=[]) with
     | true=>rw[AZ rfl,AU (by omega) (by omega)];simp[I2,hx]
     | false=>rw[AJ rfl];unfold DQ;rw[AU (by omega) (by omega)];simp[I2,hx]
section
variable {S O : Type} {body : S → Option (Stp S O)} {s t u : S} {o : O}
def DX (body:S→Option (Stp S O))(s t:S):Prop:=∃k,∀n,BG body (n+k) s=BG body n t
def Fin (body:S→Option (Stp S O))(s:S)(o:O):Prop:=∃k,∀n,BG body (n+k) s=some o
theorem DX.refl (s:S):DX body s s:=⟨0,λ_=>rfl⟩
theorem DX.trans (h:DX body s t)(h':DX body t u):DX body s u:=by
 obtain⟨k,hk⟩:=h;obtain⟨j,hj⟩:=h';exact⟨j+k,λn=>by rw[← Nat.add_assoc,hk,hj]⟩
theorem DX.step (h:body s=some (.next t)):DX body s t:=⟨1,λn=>by rw[BG,h]⟩
theorem Fin.step (h:body s=some (.out o)):Fin body s o:=⟨1,λn=>by rw[BG,h]⟩
theorem DX.fin (h:DX body s t)(h':Fin body t o):Fin body s o:=by
 obtain⟨k,hk⟩:=h;obtain⟨j,hj⟩:=h';exact⟨j+k,λn=>by rw[← Nat.add_assoc,hk,hj]⟩
end
inductive Fo where
 | nil
 | cell (k:Option Av) (c:Aa) (r:Fo)
 | node (k:Option Av) (c:Aa) (kids r:Fo)
def Bx:Option Av→List Aa
 | none=>[]
 | some s=>[⟨4,0,s,0⟩]
def Fo.flat:Fo→List Aa
 | .nil=>[]
 | .cell k c r=>Bx k++c::r.flat
 | .node k c kids r=>Bx k++c::(kids.flat++r.flat)
def Fo.cnt:Fo→Nat
 | .nil=>0
 | .cell _ _ r=>r.cnt+1
 | .node _ _ _ r=>r.cnt+1
def Cz (m:Bool)(last:Option Av):Option Av→Bool
 | none=>!m
 | some s=>m&&s.all Va&&(match last with
  | none=>true
  | some p=>!(CY s p||decide (s=p)))
def Fo.wf:Bool→Option Av→Fo→Bool
 | _,_,.nil=>true
 | m,last,.cell k c r=>Cz m last k&&pl c&&!decide (0<c.fN)&&r.wf m k
 | m,last,.node k c kids r=>Cz m last k&&pl c&&decide (0<c.fN)&&decide (c.fN=kids.cnt)&&kids.wf (decide (c.fKind=6)) none&&r.wf m k
def L4 (k:Option Av)(sh:AK):AK:=match k with
 | none=>sh
 | some s=>Xw sh ⟨4,0,s,0⟩
def Fo.sh (d:Nat):AK→Fo→AK
 | s,.nil=>s
 | s,.cell k c r=>r.sh d (I2 d (L4 k s) c)
 | s,.node k c kids r=>r.sh d (kids.sh (d+1) (I2 d (L4 k s) c))
def Hi (body:ON→Option (Stp ON Wn))(s:ON)(S:List AB)(i:Int)(sh:AK):Prop:=
 if LC S=[] then Fin body s (.ret (i,sh,true)) else DX body s ((LC S).reverse,i,sh)
theorem Hi.of {body:ON→Option (Stp ON Wn)}{s t:ON}{S:List AB}{i:Int}{sh:AK}(h:DX body s t)(h':Hi body t S i sh):Hi body s S i sh:=by
 unfold Hi at *
 split
 ·rename_i e;rw[if_pos e] at h';exact h.fin h'
 ·rename_i e;rw[Zk e] at h';exact h.trans h'
theorem Hi.pop {body:ON→Option (Stp ON Wn)}{s:ON}{e:AB}{S:List AB}{i:Int}{sh:AK}(h:Hi body s (e::S) i sh)(h1:e.fLeft=1):Hi body s S i sh:=by
 have:LC (e::S)=LC S:=by simp[LC,h1]
 unfold Hi at *;rw[this] at h;exact h
theorem Hi.more {body:ON→Option (Stp ON Wn)}{s:ON}{e:AB}{S:List AB}{i:Int}{sh:AK}(h:Hi body s (e::S) i sh)(h1:1<e.fLeft):DX body s ((⟨e.fPairs,e.fLeft-1,e.fPairs,e.fLast,e.fStarted⟩::S).reverse,i,sh):=by
 have:LC (e::S)=⟨e.fPairs,e.fLeft-1,e.fPairs,e.fLast,e.fStarted⟩::S:=by simp[LC,h1]
 unfold Hi at *;rw[this,Zk (by simp)] at h;exact h
structure RQ (F M:Nat) (v:List Aa):Prop where
 hM:M≤1152921504606846976
 hM2:(M+2)*48≤140737488355328
 hv:v.length≤M
 hF:M<F
 hc:∀c∈v,c.fStr.length≤M∧BB .i64 c.fInt=true∧c.fN≤9223372036854775807
abbrev P9 (F:Nat)(v:List Aa):ON→Option (Stp ON Wn):=λσ=>D1 F v σ.1 σ.2.1 σ.2.2
def D8 (S:List AB):Prop:=∀e∈S,1≤e.fLeft∧e.fLeft≤9223372036854775807
section
variable {F M : Nat} {v : List Aa} {S : List AB} {i : Int} {sh : AK} {c : Aa} {r : List Aa} {e : AB}
theorem Ce (h0:0≤i)(h:v.drop i.toNat=c::r):v[i.toNat]? =some c∧v.drop (i+1).toNat=r∧i<v.length:=by
 have h1:(v.drop i.toNat)[0]? =some c:=by rw[h];rfl
 have h2:v[i.toNat]? =some c:=by simpa using h1
 have h3:=(List.getElem?_eq_some_iff.1 h2).1;refine⟨h2,?_,by omega⟩;rw[show(i+1).toNat=i.toNat+1 from by omega,← List.drop_drop,h];rfl
theorem round (hA:RQ F M v)(h0:0≤i)(h:v.drop i.toNat=c::r)(hS:(S.length:Int)≤i)(hb:D8 S):P9 F v (S.reverse,i,sh)=some (Qj v.length S i sh c):=by
 obtain⟨h1,_,h3⟩:=Ce h0 h;obtain⟨a,b,_⟩:=hA.hc c (Y8 h1);have:=hA.hv;exact Pd h0 h1 hA.hM hA.hM2 hA.hv (by omega) hA.hF a b hb
def EZ (e:AB):Option Av→AB
 | none=>e
 | some s=>⟨e.fPairs,e.fLeft,false,s,true⟩
def IJ (e:AB):Option Av→Prop
 | none=>e.fStarted=false
 | some p=>e.fStarted=true∧e.fLast=p
theorem MN (hA:RQ F M v)(h0:0≤i){k last:Option Av}(h:v.drop i.toNat=Bx k++r)(hS:(S.length:Int)+1≤i)(hb:D8 (e::S))(hk:Cz e.fKey last k=true)(hl:IJ e last) :
  DX (P9 F v) ((e::S).reverse,i,sh) ((EZ e k::S).reverse,i+(Bx k).length,L4 k sh):=by
 cases k with
 | none=>simpa[EZ,Bx,L4] using DX.refl _
 | some s=>
  simp only[Cz,Y1] at hk;obtain⟨⟨hm,hok⟩,hcmp⟩:=hk;refine DX.step ?_;rw[round hA h0 (by simpa[Bx] using h) (by simpa using hS) hb];have hp:pl ⟨4,0,s,0⟩=true:=by simp[pl,hok]
  have ht:(e.fStarted&&(CY s e.fLast||decide (s=e.fLast)))=false:=by
   cases last with
   | none=>simp only[IJ] at hl;rw[hl];rfl
   | some p=>obtain⟨h1,h2⟩:=hl;rw[h1,h2];simpa using hcmp
  simp only[Qj,hp,hm,ht,YA,Y2,Y7,decide_true,YR,Bool.or_self];rfl
theorem KZ {k last:Option Av}(hk:Cz e.fKey last k=true):(EZ e k).fKey=false:=by
 cases k with
 | none=>simpa[EZ,Cz] using hk
 | some s=>rfl
theorem J8 (k:Option Av):(EZ e k).fLeft=e.fLeft∧(EZ e k).fPairs=e.fPairs:=by cases k<;>exact⟨rfl,rfl⟩
theorem KX (hA:RQ F M v)(h0:0≤i)(h:v.drop i.toNat=c::r)(hS:(S.length:Int)≤i)(hb:D8 S)(hk:La S=false)(hp:pl c=true)(hn:decide (0<c.fN)=false) :
  Hi (P9 F v) (S.reverse,i,sh) S (i+1) (I2 S.length sh c):=by
 have hr:=round (sh:=sh) hA h0 h hS hb;unfold Hi
 cases S with
 | nil=>
  rw[if_pos (by simp[LC])];refine Fin.step ?_;rw[hr];simp[Qj,hp,hn]
 | cons e S=>
  simp only[La] at hk
  split
  ·rename_i hc
   refine Fin.step ?_;rw[hr];simp[Qj,hp,hn,hk,hc]
  ·rename_i hc
   refine DX.step ?_;rw[hr];simp[Qj,hp,hn,hk,hc]
theorem Jg (hA:RQ F M v)(h0:0≤i)(h:v.drop i.toNat=c::r)(hS:(S.length:Int)≤i)(hb:D8 S)(hk:La S=false)(hp:pl c=true)(hn:decide (0<c.fN)=true)(hv:c.fN≤v.length) :
  DX (P9 F v) (S.reverse,i,sh) ((⟨decide (c.fKind=6),c.fN,decide (c.fKind=6),[],false⟩::S).reverse,i+1,I2 S.length sh c):=by
 have hr:=round (sh:=sh) hA h0 h hS hb;have hv':decide ((v.length:Int)<c.fN)=false:=by simpa using hv
 refine DX.step ?_;rw[hr]
 cases S with
 | nil=>simp only[Qj,hp,hn,hv',YA,Y2,Y7];rfl
 | cons e S=>
  simp only[La] at hk;simp only[Qj,hp,hn,hv',hk,YA,Y2,Y7]
theorem Ci:∀f:Fo,f.cnt≤f.flat.length
 | .nil=>YG _
 | .cell k c r=>by have:=Ci r;simp[Fo.cnt,Fo.flat];omega
 | .node k c kids r=>by have:=Ci r;simp[Fo.cnt,Fo.flat];omega
theorem CC {α:Type}{v xs r:List α}{i:Int}(h0:0≤i)(h:v.drop i.toNat=xs++r):v.drop (i+xs.length).toNat=r:=by
 rw[show(i+(xs.length:Int)).toNat=i.toNat+xs.length from by omega,← List.drop_drop,h,List.drop_left]
theorem Pj (hA:RQ F M v){e':AB}{s:ON}{k:Option Av}{r':Fo}
  (ih:∀(e:AB) (S:List AB) (i:Int) (sh:AK) (last:Option Av) (r:List Aa),1≤r'.cnt→r'.wf e.fPairs last=true→e.fKey=e.fPairs→e.fLeft=r'.cnt→IJ e last→(e.fPairs=false→last=none)→v.drop i.toNat=r'.flat++r→0≤i→(S.length:Int)+1≤i→D8 S→
   Hi (P9 F v) ((e::S).reverse,i,sh) S (i+r'.flat.length) (r'.sh (S.length+1) sh))
  (hd:Hi (P9 F v) s (e'::S) i sh) (hl:e'.fLeft=r'.cnt+1) (hw:r'.wf e'.fPairs k=true) (hk:IJ e' k) (hm:e'.fPairs=false→k=none) (hv:v.drop i.toNat=r'.flat++r) (h0:0≤i) (hS:(S.length:Int)+1≤i) (hb:D8 S) :
  Hi (P9 F v) s S (i+r'.flat.length) (r'.sh (S.length+1) sh):=by
 by_cases h1:r'.cnt=0
 ·cases r' with
  | nil=>simpa[Fo.flat,Fo.sh] using hd.pop (by rw[hl];rfl)
  | cell _ _ _=>simp[Fo.cnt] at h1
  | node _ _ _ _=>simp[Fo.cnt] at h1
 ·have:=hd.more (by omega);refine Hi.of this (ih _ S i sh k r (by omega) hw rfl (by simp only;omega) ?_ hm hv h0 hS hb)
  cases k with
  | none=>exact hk
  | some p=>exact hk
theorem J9 {k last:Option Av}(hl:IJ e last)(hm:e.fPairs=false→last=none)(hk:Cz e.fPairs last k=true):IJ (EZ e k) k∧((EZ e k).fPairs=false→k=none):=by
 cases k with
 | none=>
  have:e.fPairs=false:=by simpa[Cz] using hk
  rw[hm this] at hl;exact⟨hl,λ_=>rfl⟩
 | some s=>
  refine⟨⟨rfl,rfl⟩,λh=>?_⟩;have h:e.fPairs=false:=h;simp[Cz,h] at hk
theorem L9 (hA:RQ F M v):∀(f:Fo) (e:AB) (S:List AB) (i:Int) (sh:AK) (last:Option Av) (r:List Aa),1≤f.cnt→f.wf e.fPairs last=true→e.fKey=e.fPairs→e.fLeft=f.cnt→IJ e last→(e.fPairs=false→last=none)→v.drop i.toNat=f.flat++r→0≤i→(S.length:Int)+1≤i→D8 S→
   Hi (P9 F v) ((e::S).reverse,i,sh) S (i+f.flat.length) (f.sh (S.length+1) sh):=by
 have hmax:∀(i:Int) (xs:List Aa),0≤i→v.drop i.toNat=xs→xs.length≤v.length:=λi xs _ h=>by rw[← h,Zf];omega
 intro f
 induction f with
 | nil=>intro e S i sh last r h1;simp[Fo.cnt] at h1
 | cell k c r' ih=>
  intro e S i sh last r h1 hw hk hl hlo hm hv h0 hS hb;simp only[Fo.wf,Y1,YB] at hw;obtain⟨⟨⟨w1,w2⟩,w3⟩,w4⟩:=hw;simp only[Fo.flat,YW,Zg] at hv;have hcnt:=hmax i _ h0 hv;have hcf:=Ci r';simp only[Y4,Y0] at hcnt;have hvM:=hA.hv;have hMM:=hA.hM;simp only[Fo.cnt] at hl;have hb':D8 (e::S):=λx hx=>by
   rcases List.mem_cons.1 hx with rfl | hx
   ·constructor<;>omega
   ·exact hb x hx
  have hkr:=MN (sh:=sh) hA h0 hv hS hb' (by rw[hk];exact w1) hlo;have hv1:=CC h0 hv;obtain⟨kl,kp⟩:=J8 (e:=e) k;have hbk:D8 (EZ e k::S):=λx hx=>by
   rcases List.mem_cons.1 hx with rfl | hx
   ·rw[kl];exact hb' e (by simp)
   ·exact hb x hx
  have hd:=KX (sh:=L4 k sh) hA (by omega) hv1 (by simp only[Y0];omega) hbk (KZ (by rw[hk];exact w1)) w2 w3;obtain⟨q1,q2⟩:=J9 hlo hm w1;have hv2:=(Ce (by omega) hv1).2.1;have:=Pj hA ih (hd.of hkr) (by rw[kl,hl];rfl) (by rw[kp];exact w4) q1 q2 hv2 (by omega) (by omega) hb;simp only[Fo.flat,Fo.sh,Y4,Y0];rw[show i+((((Bx k).length+(r'.flat.length+1):Nat)):Int)=i+(Bx k).length+1+r'.flat.length from by omega];exact this
 | node k c kids r' ihk ih=>
  intro e S i sh last r h1 hw hk hl hlo hm hv h0 hS hb;simp only[Fo.wf,Y1,Yv] at hw;obtain⟨⟨⟨⟨⟨w1,w2⟩,w3⟩,w5⟩,w6⟩,w4⟩:=hw;simp only[Fo.flat,YW,Zg] at hv;have hcnt:=hmax i _ h0 hv;have hcf:=Ci r';have hck:=Ci kids;simp only[Y4,Y0] at hcnt;have hvM:=hA.hv;have hMM:=hA.hM;simp only[Fo.cnt] at hl;have hb':D8 (e::S):=λx hx=>by
   rcases List.mem_cons.1 hx with rfl | hx
   ·constructor<;>omega
   ·exact hb x hx
  have hkr:=MN (sh:=sh) hA h0 hv hS hb' (by rw[hk];exact w1) hlo;have hv1:=CC h0 hv;obtain⟨kl,kp⟩:=J8 (e:=e) k;have hbk:D8 (EZ e k::S):=λx hx=>by
   rcases List.mem_cons.1 hx with rfl | hx
   ·rw[kl];exact hb' e (by simp)
   ·exact hb x hx
  have hn:=Jg (sh:=L4 k sh) hA (by omega) hv1 (by simp only[Y0];omega) hbk (KZ (by rw[hk];exact w1)) w2 (by simpa using w3) (by omega);have hv2:=(Ce (by omega) hv1).2.1;have hd:=ihk ⟨decide (c.fKind=6),c.fN,decide (c.fKind=6),[],false⟩ (EZ e k::S) (i+(Bx k).length+1) (I2 (S.length+1) (L4 k sh) c) none _ (by omega) w6 rfl w5 rfl (λ_=>rfl) hv2 (by omega) (by simp only[Y0];omega) hbk;obtain⟨q1,q2⟩:=J9 hlo hm w1;have hv3:=CC (by omega) hv2;have:=Pj hA ih ((hd.of hn).of hkr) (by rw[kl,hl];rfl) (by rw[kp];exact w4) q1 q2 hv3 (by omega) (by omega) hb;simp only[Fo.flat,Fo.sh,Y4,Y0];rw[show i+((((Bx k).length+(kids.flat.length+r'.flat.length+1):Nat)):Int)=i+(Bx k).length+1+kids.flat.length+r'.flat.length from by omega];exact this
end
theorem MF {S O:Type}{body:S→Option (Stp S O)}{o:O}:∀{n:Nat} {s:S} (k:Nat),BG body n s=some o→BG body (n+k) s=some o
 | 0,s,k,h=>by cases h
 | n+1,s,k,h=>by
  rw[show n+1+k=n+k+1 from by omega,BG];rw[BG] at h
  cases hb:body s with
  | none=>rw[hb] at h;cases h
  | some t=>
   rw[hb] at h
   cases t with
   | next s'=>exact MF k h
   | out o'=>exact h
theorem Fin.eq {S O:Type}{body:S→Option (Stp S O)}{s:S}{o o':O}{n:Nat}(h:Fin body s o)(h':BG body n s=some o'):o'=o:=by
 obtain⟨k,hk⟩:=h;have:=MF k h';rw[hk n] at this;exact(An this).symm
theorem NN:∀{S:List AB},D8 S→D8 (LC S)∧(LC S).length≤S.length
 | [],h=>⟨h,YG _⟩
 | e::S,h=>by
  have hS:D8 S:=λx hx=>h x (by simp[hx]);have he:=h e (by simp);unfold LC
  cases hd:decide (1<e.fLeft) with
  | true=>
   simp only[Yv] at hd;refine⟨λx hx=>?_,by simp⟩;rcases List.mem_cons.1 hx with rfl | hx
   ·simp only;omega
   ·exact hS x hx
  | false=>
   obtain⟨h1,h2⟩:=NN hS;exact⟨h1,by simp only[Y2,Y0];omega⟩
theorem Uf {n:Int}{S:List AB}{i:Int}{sh:AK}{c:Aa}{σ:ON}(hb:D8 S)(hS:(S.length:Int)≤i)(hN:c.fN≤9223372036854775807)(h:Qj n S i sh c = .next σ):∃S' sh',σ=(S'.reverse,i+1,sh')∧D8 S'∧(S'.length:Int)≤i+1:=by
 unfold Qj at h
 cases hp:pl c with
 | false=>simp[hp] at h
 | true=>
  simp only[hp,YA,Y2] at h
  cases S with
  | nil=>
   simp only at h
   cases hn:decide (0<c.fN) with
   | false=>simp[hn] at h
   | true=>
    simp only[hn,Y7] at h
    cases hm:decide (n<c.fN) with
    | true=>simp[hm] at h
    | false=>
     simp only[hm,Y2,Stp.next.injEq] at h;refine⟨[_],_,h.symm,λx hx=>?_,by simp at hS ⊢;omega⟩;simp only[YM] at hx;subst hx;simp only[Yv] at hn;exact⟨by simp only;omega,hN⟩
  | cons e S=>
   have he:=hb e (by simp);have hbS:D8 S:=λx hx=>hb x (by simp[hx]);simp only[Y0] at hS
   cases hk:e.fKey with
   | true=>
    simp only[hk,Y7] at h
    cases hq:(!decide (c.fKind=4)||(e.fStarted&&(CY c.fStr e.fLast||decide (c.fStr=e.fLast)))) with
    | true=>rw[hq] at h;simp at h
    | false=>
     rw[hq] at h;simp only[Y2,Stp.next.injEq] at h;refine⟨_::S,_,h.symm,λx hx=>?_,by simp only[Y0];omega⟩;rcases List.mem_cons.1 hx with rfl | hx
     ·exact he
     ·exact hbS x hx
   | false=>
    simp only[hk,Y2] at h
    cases hn:decide (0<c.fN) with
    | true=>
     simp only[hn,Y7] at h
     cases hm:decide (n<c.fN) with
     | true=>simp[hm] at h
     | false=>
      simp only[hm,Y2,Stp.next.injEq] at h;refine⟨_::e::S,_,h.symm,λx hx=>?_,by simp only[Y0];omega⟩;rcases List.mem_cons.1 hx with rfl | hx
      ·simp only[Yv] at hn;exact⟨by simp only;omega,hN⟩
      ·exact hb x hx
    | false=>
     simp only[hn,Y2] at h
     cases hq:decide (LC (e::S)=[]) with
     | true=>rw[hq] at h;simp at h
     | false=>
      rw[hq] at h;simp only[Y2,Stp.next.injEq] at h;obtain⟨h1,h2⟩:=NN hb;simp only[Y0] at h2;exact⟨_,_,h.symm,h1,by omega⟩
theorem MG {F M:Nat}{v:List Aa}(hA:RQ F M v):∃o,BG (P9 F v) F (([]:List AB),0,(⟨0,0,false,false⟩:AK))=some o∧True:=by
 refine If (λσ=>∃S i sh,σ=(S.reverse,i,sh)∧D8 S∧(S.length:Int)≤i∧0≤i∧i≤v.length) (λσ=>v.length-σ.2.1.toNat) (λ_=>True) (λσ hI=>?_) F _ ⟨[],0,_,rfl,(λx hx=>by cases hx),YE _,YE _,by omega⟩ (by have:=hA.hv;have:=hA.hF;simp;omega);obtain⟨S,i,sh,rfl,hb,hS,h0,hi⟩:=hI
 by_cases hx:i<v.length
 ·obtain⟨c,hc⟩:∃c,v[i.toNat]? =some c:=⟨v[i.toNat]'(by omega),Y3 (by omega)⟩
  have hdr:v.drop i.toNat=c::v.drop (i.toNat+1):=by rw[List.drop_eq_getElem_cons (by omega)];congr 1;exact(List.getElem?_eq_some_iff.1 hc).2
  have hr:=round (sh:=sh) hA h0 hdr hS hb
  cases hl:Qj v.length S i sh c with
  | next τ=>
   obtain⟨S',sh',rfl,h1,h2⟩:=Uf hb hS (hA.hc c (Y8 hc)).2.2 hl;exact .inl ⟨_,by rw[hr,hl],⟨S',i+1,sh',rfl,h1,h2,by omega,by omega⟩,by simp only;omega⟩
  | out o=>exact .inr ⟨o,by rw[hr,hl],trivial⟩
 ·refine .inr ⟨.go sh,?_,trivial⟩;show D1 F v S.reverse i sh=_;unfold D1;rw[AJ (by simpa using hx)]
def Fo.one:Fo→Bool
 | .cell none _ .nil=>true
 | .node none _ _ .nil=>true
 | _=>false
def M4:AK:=⟨0,0,false,false⟩
theorem Ue {F M:Nat}{v:List Aa}(hA:RQ F M v){f:Fo}(h1:f.one=true)(hw:f.wf false none=true){r:List Aa}(hv:v=f.flat++r):Fin (P9 F v) ([],0,M4) (.ret (f.flat.length,f.sh 0 M4,true)):=by
 have h0:v.drop (0:Int).toNat=f.flat++r:=by rw[hv];rfl
 have hlen:f.flat.length≤v.length:=by rw[hv];simp
 cases f with
 | nil=>cases h1
 | cell k c r'=>
  cases k with
  | some s=>cases h1
  | none=>
   cases r' with
   | nil=>
    simp only[Fo.wf,Y1,YB] at hw;have:=KX (S:=[]) (sh:=M4) hA (YE 0) h0 (by simp) (λx hx=>by cases hx) rfl hw.1.1.2 hw.1.2;unfold Hi at this;rw[if_pos (show LC []=[] from rfl)] at this;simpa[Fo.flat,Fo.sh,Bx,L4] using this
   | cell _ _ _=>cases h1
   | node _ _ _ _=>cases h1
 | node k c kids r'=>
  cases k with
  | some s=>cases h1
  | none=>
   cases r' with
   | nil=>
    simp only[Fo.wf,Y1,Yv] at hw;obtain⟨⟨⟨⟨⟨w1,w2⟩,w3⟩,w5⟩,w6⟩,w4⟩:=hw;have hck:=Ci kids;simp only[Fo.flat,Bx,Zh,YY,Y0] at hlen;have hvM:=hA.hv;have hMM:=hA.hM;have hn:=Jg (S:=[]) (sh:=M4) hA (YE 0) h0 (by simp) (λx hx=>by cases hx) rfl w2 (by simpa using w3) (by omega);have hv2:=(Ce (YE 0) h0).2.1;have hd:=L9 hA kids ⟨decide (c.fKind=6),c.fN,decide (c.fKind=6),[],false⟩ [] (0+1) (I2 0 M4 c) none r (by omega) w6 rfl w5 rfl (λ_=>rfl) (by rw[hv2];simp[Fo.flat]) (by omega) (by simp) (λx hx=>by cases hx);unfold Hi at hd;rw[if_pos (show LC []=[] from rfl)] at hd;have:=hn.fin hd;have e:((0:Int)+1+kids.flat.length)=((Fo.node none c kids .nil).flat.length:Int):=by simp[Fo.flat,Bx];omega
    rw[e] at this;exact this
   | cell _ _ _=>cases h1
   | node _ _ _ _=>cases h1
theorem P8 {F M:Nat}{v:List Aa}(hA:RQ F M v){f:Fo}(h1:f.one=true)(hw:f.wf false none=true){r:List Aa}(hv:v=f.flat++r):E5 F v=some ((f.flat.length:Int),f.sh 0 M4,true):=by
 obtain⟨o,ho,_⟩:=MG hA;have e:=(Ue hA h1 hw hv).eq ho;subst e;unfold E5;rw[Ba ho];rfl
def Ib (m:Bool)(last:Option Av)(xs:List Aa):Option (Option Av×List Aa):=
 bif m then match xs with
  | []=>none
  | c::r=>bif pl c&&decide (c.fKind=4)&&Cz true last (some c.fStr) then some (some c.fStr,r) else none
 else some (none,xs)
def HH:Nat→Bool→Option Av→Nat→List Aa→Option (Fo×List Aa)
 | 0,_,_,_,_=>none
 | _+1,_,_,0,xs=>some (.nil,xs)
 | F+1,m,last,k+1,xs=>
  match Ib m last xs with
  | none=>none
  | some (_,[])=>none
  | some (key,c::xs')=>
   bif !pl c then none else
   bif decide (0<c.fN) then
    match HH F (decide (c.fKind=6)) none c.fN.toNat xs' with
    | none=>none
    | some (kids,ys)=>match HH F m key k ys with
     | none=>none
     | some (r,zs)=>some (.node key c kids r,zs)
   else match HH F m key k xs' with
    | none=>none
    | some (r,zs)=>some (.cell key c r,zs)
theorem Ot {c:Aa}(hp:pl c=true)(hk:c.fKind=4):c=⟨4,0,c.fStr,0⟩∧c.fStr.all Va=true:=by
 cases c
 simp only at hk;subst hk;simp[pl] at hp;obtain⟨h1,h2,h3⟩:=hp;subst h1;subst h2;exact⟨rfl,by simpa using h3⟩
theorem LV {m:Bool}{last key:Option Av}{xs r:List Aa}(h:Ib m last xs=some (key,r)):xs=Bx key++r∧Cz m last key=true:=by
 unfold Ib at h
 cases m with
 | false=>cases h;exact⟨rfl,rfl⟩
 | true=>
  simp only[Y7] at h
  cases xs with
  | nil=>cases h
  | cons c r'=>
   simp only at h
   cases hb:(pl c&&decide (c.fKind=4)&&Cz true last (some c.fStr)) with
   | false=>rw[hb] at h;cases h
   | true=>
    rw[hb] at h;simp only[Y1,Yv] at hb
    cases h
    exact⟨by rw[(Ot hb.1.1 hb.1.2).1];rfl,hb.2⟩
theorem GZ:∀(F:Nat) (m:Bool) (last:Option Av) (k:Nat) (xs:List Aa) (f:Fo) (ys:List Aa),HH F m last k xs=some (f,ys)→xs=f.flat++ys∧f.wf m last=true∧f.cnt=k
 | 0,_,_,_,_,_,_,h=>by cases h
 | F+1,m,last,0,xs,f,ys,h=>by cases h;exact⟨rfl,rfl,rfl⟩
 | F+1,m,last,k+1,xs,f,ys,h=>by
  rw[HH] at h
  cases hk:Ib m last xs with
  | none=>rw[hk] at h;cases h
  | some p=>
   obtain⟨key,r⟩:=p;obtain⟨h1,h2⟩:=LV hk;rw[hk] at h
   cases r with
   | nil=>cases h
   | cons c xs'=>
    simp only at h
    cases hp:pl c with
    | false=>rw[hp] at h;cases h
    | true=>
     rw[hp] at h;simp only[YA,Y2] at h
     cases hn:decide (0<c.fN) with
     | true=>
      rw[hn] at h;simp only[Y7] at h
      cases hq:HH F (decide (c.fKind=6)) none c.fN.toNat xs' with
      | none=>rw[hq] at h;cases h
      | some q=>
       obtain⟨kids,zs⟩:=q;rw[hq] at h;simp only at h
       cases hr:HH F m key k zs with
       | none=>rw[hr] at h;cases h
       | some q2=>
        obtain⟨r2,us⟩:=q2;rw[hr] at h;cases h;obtain⟨a1,a2,a3⟩:=GZ F _ _ _ _ _ _ hq;obtain⟨b1,b2,b3⟩:=GZ F _ _ _ _ _ _ hr;refine⟨by rw[h1,a1,b1];simp[Fo.flat],?_,by simp[Fo.cnt,b3]⟩;simp only[Yv] at hn;simp only[Fo.wf,h2,hp,a2,b2,YS,YC,Y1,Yv];omega
     | false=>
      rw[hn] at h;simp only[Y2] at h
      cases hr:HH F m key k xs' with
      | none=>rw[hr] at h;cases h
      | some q2=>
       obtain⟨r2,us⟩:=q2;rw[hr] at h;cases h;obtain⟨b1,b2,b3⟩:=GZ F _ _ _ _ _ _ hr;exact⟨by rw[h1,b1];simp[Fo.flat],by simp[Fo.wf,h2,hp,b2,hn],by simp[Fo.cnt,b3]⟩
theorem Hy:∀(F F':Nat) (m:Bool) (last:Option Av) (k:Nat) (xs:List Aa),xs.length<F→xs.length<F'→HH F m last k xs=HH F' m last k xs
 | 0,_,_,_,_,_,h,_=>by omega
 | _+1,0,_,_,_,_,_,h=>by omega
 | F+1,F'+1,m,last,0,xs,_,_=>rfl
 | F+1,F'+1,m,last,k+1,xs,h,h'=>by
  rw[HH,HH]
  cases hk:Ib m last xs with
  | none=>rfl
  | some p=>
   obtain⟨key,r⟩:=p;obtain⟨h1,h2⟩:=LV hk
   cases r with
   | nil=>rfl
   | cons c xs'=>
    have hl:xs'.length<xs.length:=by rw[h1];simp;omega
    simp only
    cases hp:pl c with
    | false=>rfl
    | true=>
     simp only[YA,Y2]
     cases hn:decide (0<c.fN) with
     | true=>
      simp only[Y7];rw[Hy F F' _ _ _ xs' (by omega) (by omega)]
      cases hq:HH F' (decide (c.fKind=6)) none c.fN.toNat xs' with
      | none=>rfl
      | some q=>
       obtain⟨kids,zs⟩:=q;have:=(GZ _ _ _ _ _ _ _ hq).1;have hz:zs.length≤xs'.length:=by rw[this];simp
       simp only;rw[Hy F F' m key k zs (by omega) (by omega)]
     | false=>
      simp only[Y2];rw[Hy F F' m key k xs' (by omega) (by omega)]
def Rj {S:Type}(body:S→Option (Stp S Wn))(s:S):Prop:=∃sh',Fin body s (.ret (0,sh',false))∨Fin body s (.go sh')
theorem DX.bad {S:Type}{body:S→Option (Stp S Wn)}{s t:S}(h:DX body s t)(h':Rj body t):Rj body s:=by
 obtain⟨sh',h' | h'⟩:=h'
 ·exact⟨sh',.inl (h.fin h')⟩
 ·exact⟨sh',.inr (h.fin h')⟩
section
variable {F M : Nat} {v : List Aa}
theorem Rj.end_ {S:List AB}{i:Int}{sh:AK}(h0:0≤i)(h:v.drop i.toNat=[]):Rj (P9 F v) (S.reverse,i,sh):=by
 refine⟨sh,.inr (Fin.step ?_)⟩;show D1 F v S.reverse i sh=_;unfold D1;rw[AJ];have:v.length≤i.toNat:=by simpa using h
 simp;omega
theorem Rj.pl_ (hA:RQ F M v){S:List AB}{i:Int}{sh:AK}{c:Aa}{r:List Aa}(h0:0≤i)(h:v.drop i.toNat=c::r)(hS:(S.length:Int)≤i)(hb:D8 S)(hp:pl c=false):Rj (P9 F v) (S.reverse,i,sh):=by
 refine⟨sh,.inl (Fin.step ?_)⟩;rw[round hA h0 h hS hb];simp[Qj,hp]
theorem QI (hA:RQ F M v):∀(P:Nat) (k:Nat) (e:AB) (S:List AB) (i:Int) (sh:AK) (last:Option Av) (xs:List Aa),xs.length<P→HH P e.fPairs last (k+1) xs=none→e.fKey=e.fPairs→e.fLeft=(k:Int)+1→(k:Int)+1≤9223372036854775807→IJ e last→(e.fPairs=false→last=none)→v.drop i.toNat=xs→0≤i→(S.length:Int)+1≤i→D8 S→
  Rj (P9 F v) ((e::S).reverse,i,sh):=by
 intro P
 induction P with
 | zero=>intro k e S i sh last xs h;omega
 | succ P ih=>
  intro k e S i sh last xs hP hn hk hl hkm hlo hm hv h0 hS hb;have hb':D8 (e::S):=λx hx=>by
   rcases List.mem_cons.1 hx with rfl | hx
   ·constructor<;>omega
   ·exact hb x hx
  rw[HH] at hn
  cases hq:Ib e.fPairs last xs with
  | none=>
   unfold Ib at hq
   cases hpr:e.fPairs with
   | false=>rw[hpr] at hq;cases hq
   | true=>
    rw[hpr] at hq hk;simp only[Y7] at hq
    cases xs with
    | nil=>exact Rj.end_ h0 hv
    | cons c r=>
     simp only at hq
     cases hp:pl c with
     | false=>exact Rj.pl_ hA h0 hv (by simpa using hS) hb' hp
     | true=>
      refine⟨sh,.inl (Fin.step ?_)⟩;rw[round hA h0 hv (by simpa using hS) hb'];have ht:(!decide (c.fKind=4)||(e.fStarted&&(CY c.fStr e.fLast||decide (c.fStr=e.fLast))))=true:=by
       rw[hp] at hq
       cases h4:decide (c.fKind=4) with
       | false=>rfl
       | true=>
        rw[h4] at hq;simp only[Bool.and_self,YC] at hq;have hok:=(Ot hp (by simpa using h4)).2
        cases last with
        | none=>simp[Cz,hok] at hq
        | some p=>
         obtain⟨q1,q2⟩:=hlo;rw[q1,q2]
         cases hc:(CY c.fStr p||decide (c.fStr=p)) with
         | true=>rfl
         | false=>simp[Cz,hok,hc] at hq
      simp only[Qj,hp,hk,ht,YA,Y2,Y7]
  | some q=>
   obtain⟨key,r⟩:=q;obtain⟨h1,h2⟩:=LV hq;rw[hq] at hn;have hkr:=MN (sh:=sh) hA h0 (by rw[hv];exact h1) hS hb' (by rw[hk];exact h2) hlo;have hv1:=CC h0 (hv.trans h1);obtain⟨kl,kp⟩:=J8 (e:=e) key;obtain⟨q1,q2⟩:=J9 hlo hm h2;have hbk:D8 (EZ e key::S):=λx hx=>by
    rcases List.mem_cons.1 hx with rfl | hx
    ·rw[kl];exact hb' e (by simp)
    ·exact hb x hx
   refine hkr.bad ?_
   cases r with
   | nil=>exact Rj.end_ (by omega) hv1
   | cons c xs'=>
    have hlen:xs'.length+1≤xs.length:=by rw[h1];simp
    have hvl:xs.length≤v.length:=by rw[← hv,Zf];omega
    have hvM:=hA.hv;have hMM:=hA.hM;have hkk:=KZ (e:=e) (last:=last) (k:=key) (by rw[hk];exact h2);simp only at hn;have hSk:(((EZ e key::S).length:Nat):Int)≤i+(Bx key).length:=by simp only[Y0];omega
    cases hp:pl c with
    | false=>exact Rj.pl_ hA (by omega) hv1 hSk hbk hp
    | true=>
     rw[hp] at hn;simp only[YA,Y2] at hn;obtain⟨g1,g2,g3⟩:=Ce (by omega) hv1;have hcN:=(hA.hc c (Y8 g1)).2.2;have more:∀(s:ON) (j:Int) (sh':AK) (zs:List Aa),Hi (P9 F v) s (EZ e key::S) j sh'→v.drop j.toNat=zs→zs.length<P→0≤j→(S.length:Int)+1≤j→HH P e.fPairs key k zs=none→Rj (P9 F v) s:=λs j sh' zs hd hz hzl hj hSj hnone=>by
      cases k with
      | zero=>
       cases P with
       | zero=>omega
       | succ P=>cases hnone
      | succ k=>
       have:=hd.more (by rw[kl];omega);refine this.bad (ih k _ S j sh' key zs hzl (by rw[kp];exact hnone) rfl (by simp only[kl];omega) (by omega) ?_ (by simpa using q2) hz hj hSj hb)
       cases key with
       | none=>exact q1
       | some p=>exact q1
     cases hN:decide (0<c.fN) with
     | true=>
      rw[hN] at hn;simp only[Y7] at hn;simp only[Yv] at hN
      by_cases hbig:c.fN≤v.length
      ·have hnd:=Jg (sh:=L4 key sh) hA (by omega) hv1 hSk hbk (by simpa[La] using hkk) hp (by simpa using hN) hbig;refine hnd.bad ?_
       cases hks:HH P (decide (c.fKind=6)) none c.fN.toNat xs' with
       | none=>
        obtain⟨n',hn'⟩:∃n',c.fN.toNat=n'+1:=⟨c.fN.toNat-1,by omega⟩
        rw[hn'] at hks;exact ih n' _ _ _ _ none xs' (by omega) hks rfl (by simp only;omega) (by omega) rfl (λ_=>rfl) g2 (by omega) (by simp only[Y0];omega) hbk
       | some q=>
        obtain⟨kids,zs⟩:=q;rw[hks] at hn;simp only at hn;have hn2:HH P e.fPairs key k zs=none:=by
         cases hz:HH P e.fPairs key k zs with
         | none=>rfl
         | some q=>rw[hz] at hn;cases hn
        obtain⟨a1,a2,a3⟩:=GZ _ _ _ _ _ _ _ hks;have hd:=L9 hA kids ⟨decide (c.fKind=6),c.fN,decide (c.fKind=6),[],false⟩ (EZ e key::S) (i+(Bx key).length+1) (I2 (S.length+1) (L4 key sh) c) none zs (by omega) a2 rfl (by simp only;omega) rfl (λ_=>rfl) (by rw[g2];exact a1) (by omega) (by simp only[Y0];omega) hbk;have hz:v.drop (i+(Bx key).length+1+kids.flat.length).toNat=zs:=CC (by omega) (g2.trans a1);have hzl:zs.length≤xs'.length:=by rw[a1];simp
        exact more _ _ _ zs hd hz (by omega) (by omega) (by omega) hn2
      ·refine⟨I2 (EZ e key::S).length (L4 key sh) c,.inl (Fin.step ?_)⟩;rw[round hA (by omega) hv1 hSk hbk];have hbig':decide ((v.length:Int)<c.fN)=true:=by simpa using hbig
       simp only[Qj,hp,hkk,hbig',hN,YA,Y2,Y7,decide_true]
     | false=>
      rw[hN] at hn;simp only[Y2] at hn;have hn2:HH P e.fPairs key k xs'=none:=by
       cases hz:HH P e.fPairs key k xs' with
       | none=>rfl
       | some q=>rw[hz] at hn;cases hn
      have hd:=KX (sh:=L4 key sh) hA (by omega) hv1 hSk hbk (by simpa[La] using hkk) hp hN;exact more _ _ _ xs' hd g2 (by omega) (by omega) (by omega) hn2
def H0 (xs:List Aa):Option (Fo×List Aa):=HH (xs.length+1) false none 1 xs
theorem Rz {P:Nat}{xs ys:List Aa}{f:Fo}(h:HH P false none 1 xs=some (f,ys)):f.one=true:=by
 obtain⟨h1,h2,h3⟩:=GZ _ _ _ _ _ _ _ h
 cases f with
 | nil=>cases h3
 | cell k c r=>
  cases r with
  | nil=>
   cases k with
   | none=>rfl
   | some s=>simp[Fo.wf,Cz] at h2
  | cell _ _ _=>simp[Fo.cnt] at h3
  | node _ _ _ _=>simp[Fo.cnt] at h3
 | node k c kids r=>
  cases r with
  | nil=>
   cases k with
   | none=>rfl
   | some s=>simp[Fo.wf,Cz] at h2
  | cell _ _ _=>simp[Fo.cnt] at h3
  | node _ _ _ _=>simp[Fo.cnt] at h3
theorem SC (hA:RQ F M v)(h:H0 v=none):Rj (P9 F v) ([],0,M4):=by
 have hlf:D8 []:=λx hx=>by cases hx
 unfold H0 at h;rw[HH] at h;simp only[Ib,Y2] at h
 cases v with
 | nil=>exact Rj.end_ (S:=[]) (YE 0) rfl
 | cons c xs'=>
  have hv1:(c::xs').drop (0:Int).toNat=c::xs':=rfl;have hvM:=hA.hv;have hMM:=hA.hM;simp only at h
  cases hp:pl c with
  | false=>exact Rj.pl_ (S:=[]) hA (YE 0) hv1 (by simp) hlf hp
  | true=>
   rw[hp] at h;simp only[YA,Y2] at h;have hcN:=(hA.hc c (by simp)).2.2
   cases hN:decide (0<c.fN) with
   | true=>
    rw[hN] at h;simp only[Y7] at h;simp only[Yv] at hN
    by_cases hbig:c.fN≤(c::xs').length
    ·have hnd:=Jg (S:=[]) (sh:=M4) hA (YE 0) hv1 (by simp) hlf rfl hp (by simpa using hN) hbig;refine hnd.bad ?_
     cases hks:HH (c::xs').length (decide (c.fKind=6)) none c.fN.toNat xs' with
     | none=>
      obtain⟨n',hn'⟩:∃n',c.fN.toNat=n'+1:=⟨c.fN.toNat-1,by omega⟩
      rw[hn'] at hks;exact QI hA (c::xs').length n' ⟨decide (c.fKind=6),c.fN,decide (c.fKind=6),[],false⟩ [] (0+1) _ none xs' (by simp) hks rfl (by simp only;omega) (by omega) rfl (λ_=>rfl) rfl (by omega) (by simp) hlf
     | some q=>rw[hks] at h;cases h
    ·refine⟨I2 0 M4 c,.inl (Fin.step ?_)⟩;rw[show P9 F (c::xs') (([]:List AB),0,M4)=_ from round (S:=[]) hA (YE 0) hv1 (by simp) hlf];have hbig':decide (((c::xs').length:Int)<c.fN)=true:=by simpa using hbig
     simp only[Qj,hp,hbig',hN,YA,Y2,Y7,decide_true]
   | false=>rw[hN] at h;cases h
theorem VA (hA:RQ F M v):(∃f ys,H0 v=some (f,ys)∧E5 F v=some ((f.flat.length:Int),f.sh 0 M4,true))∨(H0 v=none∧∃sh',E5 F v=some (0,sh',false)):=by
 cases h:H0 v with
 | some q=>
  obtain⟨f,ys⟩:=q;obtain⟨h1,h2,h3⟩:=GZ _ _ _ _ _ _ _ h;exact .inl ⟨f,ys,rfl,P8 hA (Rz h) h2 h1⟩
 | none=>
  refine .inr ⟨rfl,?_⟩;obtain⟨o,ho,_⟩:=MG hA;obtain⟨sh',hb | hb⟩:=SC hA h
  ·have e:=hb.eq ho;subst e;exact⟨sh',by unfold E5;rw[Ba ho];rfl⟩
  ·have e:=hb.eq ho;subst e;exact⟨sh',by unfold E5;rw[Ba ho];rfl⟩
end
theorem IX {x:Int}(h : -9223372036854775808≤x)(h':x≤9223372036854775807):IntKind.wrap .i64 x=x:=by
 simp only[IntKind.wrap,IntKind.bits,IntKind.signed];simp;omega
def Fo.dep:Fo→Nat
 | .nil=>0
 | .cell _ _ r=>max 1 r.dep
 | .node _ _ kids r=>max (kids.dep+1) r.dep
theorem Gh (k:Option Av)(s:AK):(L4 k s).fDepth=s.fDepth∧(L4 k s).fOutside=s.fOutside∧(L4 k s).fLong=(s.fLong||(Bx k).any λc=>decide (200<(c.fStr.length:Int))):=by
 cases k with
 | none=>simp[L4,Bx]
 | some x=>simp[L4,Xw,Bx]
theorem JZ:∀(f:Fo) (d:Nat) (s:AK),(d:Int)≤s.fDepth→(f.sh d s).fDepth=max s.fDepth ((d:Int)+f.dep)
 | .nil,d,s,h=>by simp only[Fo.sh,Fo.dep];omega
 | .cell k c r,d,s,h=>by
  have hk:=(Gh k s).1;have e:(I2 d (L4 k s) c).fDepth=max s.fDepth ((d:Int)+1):=by rw[I2,hk]
  rw[Fo.sh,JZ r d _ (by rw[e];omega),e,Fo.dep];omega
 | .node k c kids r,d,s,h=>by
  have hk:=(Gh k s).1;have e:(I2 d (L4 k s) c).fDepth=max s.fDepth ((d:Int)+1):=by rw[I2,hk]
  have e2:=JZ kids (d+1) (I2 d (L4 k s) c) (by rw[e];omega);rw[e] at e2;rw[Fo.sh,JZ r d _ (by rw[e2];omega),e2,Fo.dep];omega
def H4 (c:Aa):Bool:=decide (c.fKind=3)&&!(decide ((-1000000000000)≤c.fInt)&&decide (c.fInt≤1000000000000))
def EY (c:Aa):Bool:=decide (200<(c.fStr.length:Int))
theorem PD (k:Option Av):(Bx k).any H4=false:=by cases k<;>simp[Bx,H4]
theorem Og:∀(f:Fo) (d:Nat) (s:AK),(f.sh d s).fOutside=(s.fOutside||f.flat.any H4)
 | .nil,d,s=>by simp[Fo.sh,Fo.flat]
 | .cell k c r,d,s=>by
  rw[Fo.sh,Og r,I2,(Gh k s).2.1];simp only[Fo.flat,List.any_append,List.any_cons,PD,YF,Bool.or_assoc];rfl
 | .node k c kids r,d,s=>by
  rw[Fo.sh,Og r,Og kids,I2,(Gh k s).2.1];simp only[Fo.flat,List.any_append,List.any_cons,PD,YF,Bool.or_assoc];rfl
theorem LR:∀(f:Fo) (d:Nat) (s:AK),(f.sh d s).fLong=(s.fLong||f.flat.any EY)
 | .nil,d,s=>by simp[Fo.sh,Fo.flat]
 | .cell k c r,d,s=>by
  rw[Fo.sh,LR r,I2,(Gh k s).2.2];simp only[Fo.flat,List.any_append,List.any_cons,Bool.or_assoc];rfl
 | .node k c kids r,d,s=>by
  rw[Fo.sh,LR r,LR kids,I2,(Gh k s).2.2];simp only[Fo.flat,List.any_append,List.any_cons,Bool.or_assoc];rfl
def Vb (c:Aa):Int:=
 bif decide (c.fKind=1) then 4 else bif decide (c.fKind=2) then 5-c.fInt else bif decide (c.fKind=3) then((Lib.itoa c.fInt).length:Int) else
 bif decide (c.fKind=4) then KQ c.fStr else 2
def O0:Option Av→Int
 | none=>0
 | some s=>KQ s+1
def Fo.byt:Fo→Int
 | .nil=>0
 | .cell k c r=>O0 k+Vb c+r.byt
 | .node k c kids r=>O0 k+(c.fN+1)+kids.byt+r.byt
theorem MA (s:Av):2≤KQ s:=by unfold KQ;omega
theorem LY (k:Option Av):0≤O0 k:=by
 cases k with
 | none=>exact YE 0
 | some s=>have:=MA s;simp only[O0];omega
theorem R8 {c:Aa}(hp:pl c=true):0≤Vb c:=by
 unfold Vb
 cases h1:decide (c.fKind=1) with
 | true=>simp
 | false=>
  cases h2:decide (c.fKind=2) with
  | true=>
   simp[pl,h1,h2] at hp;simp only[Y2,Y7];omega
  | false=>
   cases h3:decide (c.fKind=3) with
   | true=>simp
   | false=>
    cases h4:decide (c.fKind=4) with
    | true=>have:=MA c.fStr;simp only[Y2,Y7];omega
    | false=>simp
theorem TU {c:Aa}(hp:pl c=true):0≤c.fN:=by
 simp only[pl,← Bool.decide_or] at hp
 cases h1:decide (c.fKind=1)<;>cases h2:decide (c.fKind=2)<;>cases h3:decide (c.fKind=3)<;>cases h4:decide (c.fKind=4)<;>cases h5:decide (c.fKind=5)<;>cases h6:decide (c.fKind=6)<;>simp[h1,h2,h3,h4,h5,h6] at hp<;>omega
theorem Kh {c:Aa}(hp:pl c=true)(hn:0<c.fN):(c.fKind=5∨c.fKind=6)∧c.fInt=0∧c.fStr=[]:=by
 cases h1:decide (c.fKind=1)<;>cases h2:decide (c.fKind=2)<;>cases h3:decide (c.fKind=3)<;>cases h4:decide (c.fKind=4)<;>cases h5:decide (c.fKind=5)<;>cases h6:decide (c.fKind=6)<;>simp[pl,h1,h2,h3,h4,h5,h6] at hp<;>(simp only[Yv,Yx] at *;first | omega | exact⟨by omega,hp.1,hp.2.1⟩)
theorem TB {c:Aa}(hp:pl c=true)(hn:decide (0<c.fN)=false):Wu c=Vb c:=by
 have hN:=TU hp;have h0:c.fN=0:=by simp only[Yx] at hn;omega
 unfold Wu Vb;rw[h0]
 cases h1:decide (c.fKind=1) with
 | true=>rfl
 | false=>
  cases h2:decide (c.fKind=2) with
  | true=>
   simp[pl,h1,h2] at hp;simp only[Y2,Y7];exact IX (by omega) (by omega)
  | false=>rfl
theorem TA {c:Aa}(hp:pl c=true)(hn:0<c.fN)(hm:c.fN≤9223372036854775000):Wu c=c.fN+1:=by
 obtain⟨hk,_,_⟩:=Kh hp hn;unfold Wu;rw[Yz (by omega),Yz (by omega),Yz (by omega),Yz (by omega)];simp only[Y2];rw[IX (x:=c.fN-1) (by omega) (by omega),IX (by omega) (by omega)];omega
theorem Ip:∀{f:Fo} {m:Bool} {l:Option Av},f.wf m l=true→0≤f.byt
 | .nil,_,_,_=>YE 0
 | .cell k c r,m,l,h=>by
  simp only[Fo.wf,Y1] at h;have h1:=Ip h.2;have h2:=R8 h.1.1.2;have h3:=LY k;simp only[Fo.byt];omega
 | .node k c kids r,m,l,h=>by
  simp only[Fo.wf,Y1,Yv] at h;have h1:=Ip h.2;have h2:=Ip h.1.2;have h3:=LY k;simp only[Fo.byt];omega
theorem N8 (k:Option Av)(s:AK)(h0:0≤s.fBytes)(h:s.fBytes+O0 k≤9223372036854775807):(L4 k s).fBytes=s.fBytes+O0 k:=by
 cases k with
 | none=>simp[L4,O0]
 | some x=>
  have:=MA x;simp only[O0] at h;simp only[L4,Xw,O0];exact IX (by omega) (by omega)
theorem Ka:∀(f:Fo) (m:Bool) (l:Option Av) (d:Nat) (s:AK),f.wf m l=true→0≤s.fBytes→s.fBytes+f.byt≤9223372036854775000→(f.sh d s).fBytes=s.fBytes+f.byt
 | .nil,_,_,d,s,_,_,_=>by simp[Fo.sh,Fo.byt]
 | .cell k c r,m,l,d,s,hw,h0,h=>by
  simp only[Fo.wf,Y1,YB] at hw;obtain⟨⟨⟨w1,w2⟩,w3⟩,w4⟩:=hw;have h1:=Ip w4;have h2:=R8 w2;have h3:=LY k;simp only[Fo.byt] at h;have e1:=N8 k s h0 (by omega);have e:(I2 d (L4 k s) c).fBytes=s.fBytes+O0 k+Vb c:=by
   rw[I2,e1,TB w2 w3];exact IX (by omega) (by omega)
  rw[Fo.sh,Ka r _ _ d _ w4 (by rw[e];omega) (by rw[e];omega),e,Fo.byt];omega
 | .node k c kids r,m,l,d,s,hw,h0,h=>by
  simp only[Fo.wf,Y1,Yv] at hw;obtain⟨⟨⟨⟨⟨w1,w2⟩,w3⟩,w5⟩,w6⟩,w4⟩:=hw;have h1:=Ip w4;have h2:=Ip w6;have h3:=LY k;simp only[Fo.byt] at h;have e1:=N8 k s h0 (by omega);have e:(I2 d (L4 k s) c).fBytes=s.fBytes+O0 k+(c.fN+1):=by
   rw[I2,e1,TA w2 w3 (by omega)];exact IX (by omega) (by omega)
  have e2:=Ka kids _ _ (d+1) (I2 d (L4 k s) c) w6 (by rw[e];omega) (by rw[e];omega);rw[Fo.sh,Ka r _ _ d _ w4 (by rw[e2,e];omega) (by rw[e2,e];omega),e2,e,Fo.byt];omega
def MX (s:Av):Av:=s.flatMap λc=>bif (decide (c=34)||decide (c=92)) then[92,c] else[c]
def J6 (s:Av):Av:=34::(MX s++[34])
theorem MW:∀s:Av,(MX s).length=s.length+s.count 34+s.count 92
 | []=>rfl
 | c::s=>by
  have ih:=MW s;unfold MX at ih ⊢;rw[List.flatMap_cons,Y4,ih]
  by_cases h1:c=34
  ·subst h1;simp;omega
  ·by_cases h2:c=92
   ·subst h2;simp;omega
   ·simp[h1,h2,List.count_cons];omega
theorem Pu (s:Av):((J6 s).length:Int)=KQ s:=by
 simp only[J6,Y0,Y4,MW,Ze,KQ];omega
def L8 (c:Aa):Av:=
 bif decide (c.fKind=1) then[110,117,108,108] else
 bif decide (c.fKind=2) then(bif decide (c.fInt=1) then[116,114,117,101] else[102,97,108,115,101]) else
 bif decide (c.fKind=3) then Lib.itoa c.fInt else
 bif decide (c.fKind=4) then J6 c.fStr else
 bif decide (c.fKind=6) then[123,125] else[91,93]
def ML:Option Av→Av
 | none=>[]
 | some s=>J6 s++[58]
def Ti (c:Aa)(s:Av):Av:=bif decide (c.fKind=6) then 123::(s++[125]) else 91::(s++[93])
def Gw (first:Bool):Av:=bif first then[] else[44]
def Fo.txt:Bool→Fo→Av
 | _,.nil=>[]
 | b,.cell k c r=>Gw b++ML k++L8 c++r.txt false
 | b,.node k c kids r=>Gw b++ML k++Ti c (kids.txt true)++r.txt false
theorem R9 (k:Option Av):((ML k).length:Int)=O0 k:=by
 cases k with
 | none=>rfl
 | some s=>simp only[ML,Y4,O0,YI];have:=Pu s;omega
theorem SD {c:Aa}(hp:pl c=true):((L8 c).length:Int)=Vb c:=by
  unfold L8 Vb
  cases h1:decide (c.fKind=1) with
  | true=>rfl
  | false=>
    cases h2:decide (c.fKind=2) with
    | true=>
      simp[pl,h1,h2] at hp;simp only[Y2,Y7]
      cases h7:decide (c.fInt=1) with
      | true=>simp only[Yv] at h7;simp[h7]
      | false=>
                 simp only[Yx] at h7;have:c.fInt=0:=by omega
                 simp[this]
    | false=>
      cases h3:decide (c.fKind=3) with
      | true=>rfl
      | false=>
        cases h4:decide (c.fKind=4) with
        | true=>simpa using Pu c.fStr
        | false=>cases h6:decide (c.fKind=6)<;>rfl
theorem Me (c:Aa)(s:Av):(Ti c s).length=s.length+2:=by
 unfold Ti
 cases decide (c.fKind=6)<;>simp
theorem JY:∀(f:Fo) (m:Bool) (l:Option Av) (b:Bool),f.wf m l=true→((f.txt b).length:Int)=f.byt+(bif b then((f.cnt-1:Nat):Int) else(f.cnt:Int))
 | .nil,m,l,b,_=>by cases b<;>rfl
 | .cell k c r,m,l,b,hw=>by
  simp only[Fo.wf,Y1,YB] at hw;obtain⟨⟨⟨w1,w2⟩,w3⟩,w4⟩:=hw;have ih:=JY r _ _ false w4;have a:=R9 k;have d:=SD w2;simp only[Y2] at ih
  cases b<;>simp only[Fo.txt,Fo.byt,Fo.cnt,Gw,Y7,Y2,Y4,Ze,YI]<;>omega
 | .node k c kids r,m,l,b,hw=>by
  simp only[Fo.wf,Y1,Yv] at hw;obtain⟨⟨⟨⟨⟨w1,w2⟩,w3⟩,w5⟩,w6⟩,w4⟩:=hw;have ih:=JY r _ _ false w4;have ih2:=JY kids _ _ true w6;have a:=R9 k;have d:=Me c (kids.txt true);simp only[Y2,Y7] at ih ih2
  cases b<;>simp only[Fo.txt,Fo.byt,Fo.cnt,Gw,Y7,Y2,Y4,Ze,YI]<;>omega
def Fo.put (k:Option Av):Fo→Fo→Fo
 | .cell _ c _,r=>.cell k c r
 | .node _ c kids _,r=>.node k c kids r
 | .nil,_=>.nil
theorem TS (P:Nat)(m:Bool)(last:Option Av)(k:Nat)(xs:List Aa):HH (P+2) m last (k+1) xs =
  match Ib m last xs with
  | none=>none
  | some (key,ys)=>match HH (P+2) false none 1 ys with
   | none=>none
   | some (f,zs)=>match HH (P+1) m key k zs with
    | none=>none
    | some (r,us)=>some (f.put key r,us):=by
 rw[HH]
 cases hk:Ib m last xs with
 | none=>rfl
 | some p=>
  obtain⟨key,ys⟩:=p;simp only;rw[HH];simp only[Ib,Y2]
  cases ys with
  | nil=>rfl
  | cons c ys=>
   simp only
   cases hp:pl c with
   | false=>rfl
   | true=>
    simp only[YA,Y2]
    cases hn:decide (0<c.fN) with
    | true=>
     simp only[Y7]
     cases hq:HH (P+1) (decide (c.fKind=6)) none c.fN.toNat ys with
     | none=>rfl
     | some q=>
      obtain⟨kids,zs⟩:=q;simp only[HH]
      cases hr:HH (P+1) m key k zs with
      | none=>rfl
      | some q=>obtain⟨a,b⟩:=q;rfl
    | false=>
     simp only[Y2,HH]
     cases hr:HH (P+1) m key k ys with
     | none=>rfl
     | some q=>obtain⟨a,b⟩:=q;rfl
def MB (m:Bool)(last:Option Av)(k:Nat)(xs:List Aa):Option (Fo×List Aa):=HH (xs.length+1) m last k xs
theorem KR (m:Bool)(last:Option Av)(xs:List Aa):MB m last 0 xs=some (.nil,xs):=rfl
theorem Gm (m:Bool)(last:Option Av)(k:Nat)(xs:List Aa):MB m last (k+1) xs =
  match Ib m last xs with
  | none=>none
  | some (key,ys)=>match H0 ys with
   | none=>none
   | some (f,zs)=>match MB m key k zs with
    | none=>none
    | some (r,us)=>some (f.put key r,us):=by
 unfold MB H0;rw[Hy (xs.length+1) (xs.length+2) m last (k+1) xs (by omega) (by omega),TS]
 cases hk:Ib m last xs with
 | none=>rfl
 | some p=>
  obtain⟨key,ys⟩:=p;have h1:=(LV hk).1;have hy:ys.length≤xs.length:=by rw[h1];simp
  simp only;rw[Hy (xs.length+2) (ys.length+1) false none 1 ys (by omega) (by omega)]
  cases hf:HH (ys.length+1) false none 1 ys with
  | none=>rfl
  | some q=>
   obtain⟨f,zs⟩:=q;have h2:=(GZ _ _ _ _ _ _ _ hf).1;have hz:zs.length≤ys.length:=by rw[h2];simp
   simp only;rw[Hy (xs.length+1) (zs.length+1) m key k zs (by omega) (by omega)]
   all_goals (cases HH (zs.length+1) m key k zs<;>rfl)
theorem Ix {S O:Type}{body:S→Option (Stp S O)}{n:Nat}{s s':S}{o:O}(h:body s=some (.next s'))(h':BG body n s'=some o):BG body (n+1) s=some o:=by rw[BG,h];exact h'
theorem CZ {S O:Type}{body:S→Option (Stp S O)}{n:Nat}{s:S}{o:O}(h:body s=some (.out o)):BG body (n+1) s=some o:=by rw[BG,h]
theorem Pw:H0 []=none:=rfl
theorem Hz (c:Aa)(r:List Aa):H0 (c::r)=bif !pl c then none else bif decide (0<c.fN) then(match MB (decide (c.fKind=6)) none c.fN.toNat r with
  | none=>none
  | some (kids,zs)=>some (.node none c kids .nil,zs)) else some (.cell none c .nil,r):=by
 unfold H0;rw[HH];simp only[Ib,Y2]
 cases hp:pl c with
 | false=>rfl
 | true=>
  simp only[YA,Y2]
  cases hn:decide (0<c.fN) with
  | true=>
   simp only[Y7];unfold MB;rw[Y0]
   cases hq:HH (r.length+1) (decide (c.fKind=6)) none c.fN.toNat r with
   | none=>rfl
   | some q=>obtain⟨kids,zs⟩:=q;rfl
  | false=>rfl
theorem Pv {f:Fo}(h:f.one=true)(key:Option Av)(r:Fo):(f.put key r).flat=Bx key++(f.flat++r.flat):=by
 cases f with
 | nil=>cases h
 | cell k c r'=>
  cases k with
  | some s=>cases h
  | none=>cases r' with
   | nil=>simp[Fo.put,Fo.flat,Bx]
   | cell _ _ _=>cases h
   | node _ _ _ _=>cases h
 | node k c kids r'=>
  cases k with
  | some s=>cases h
  | none=>cases r' with
   | nil=>simp[Fo.put,Fo.flat,Bx]
   | cell _ _ _=>cases h
   | node _ _ _ _=>cases h
theorem P1 {f:Fo}(h:f.one=true):1≤f.flat.length:=by
 cases f with
 | nil=>cases h
 | cell k c r'=>simp[Fo.flat];omega
 | node k c kids r'=>simp[Fo.flat];omega
theorem Jf {xs ys:List Aa}{f:Fo}(h:H0 xs=some (f,ys)):xs=f.flat++ys∧f.wf false none=true∧f.one=true:=
 ⟨(GZ _ _ _ _ _ _ _ h).1,(GZ _ _ _ _ _ _ _ h).2.1,Rz h⟩
def Iw (v:List Aa)(i:Int):Int:=match H0 (v.drop i.toNat) with
 | none=>-1
 | some (f,_)=>i+f.flat.length
def Kn (m:Bool)(last:Option Av)(v:List Aa)(i:Int)(k:Nat):Int:=match MB m last k (v.drop i.toNat) with
 | none=>-1
 | some (f,_)=>i+f.flat.length
theorem NF {v:List Aa}{i:Int}(h0:0≤i)(h1:i≤v.length):Iw v i = -1∨(i<Iw v i∧Iw v i≤v.length):=by
 unfold Iw
 cases h:H0 (v.drop i.toNat) with
 | none=>exact .inl rfl
 | some q=>
  obtain⟨f,ys⟩:=q;obtain⟨h2,_,h3⟩:=Jf h;have:=P1 h3;have hl:(v.drop i.toNat).length=f.flat.length+ys.length:=by rw[h2];simp
  rw[Zf] at hl
  right;simp only;omega
structure XM (F M:Nat) (v:List Aa):Prop where
 hM:M≤1152921504606846976
 hv:v.length≤M
 hF:M<F
 hc:∀c∈v,c.fStr.length≤M
theorem S2 (ok:Bool){i:Int}(h0:0≤i)(h1:i≤1152921504606846976):BI ok i=some (bif ok then i+1 else -1):=by
 unfold BI
 cases ok
 ·rfl
 ·rw[AZ rfl,AU (by omega) (by omega)];rfl
theorem Ry {F:Nat}{c:Aa}(hF:c.fStr.length<F)(hs:c.fStr.length≤1152921504606846976):Nr F c=some (decide (c.fKind=4)&&pl c):=by
 unfold Nr;rw[Sq hF (by omega)];simp only[Option.isSome_some,ov,YN,imp,YQ,AY,Y7]
 cases h4:decide (c.fKind=4) with
 | false=>rfl
 | true=>
  simp only[Yv] at h4;simp[pl,h4]
theorem CR {v:List Aa}{i:Int}{c:Aa}{r:List Aa}(h0:0≤i)(h:v.drop i.toNat=c::r):Ax v i=c:=by
 have:=(Ce h0 h).1;simp[Ax,this]
section
variable {M : Nat} {v : List Aa}
theorem Ju {F:Nat}(hA:XM F M v){g:List Aa→Int→Option Int}{n:Int}(hn:n≤9223372036854775807):∀(L:Nat) (i x:Int),0≤i→i≤v.length→0≤x→x≤n→(∀j,i≤j→j≤v.length→g v j=some (Iw v j))→v.length-i.toNat<L→
  ∃o,BG (λσ=>CG v n g σ.1 σ.2) L (i,x)=some o∧BE (λν=>DF ν) o=some (Kn false none v i (n-x).toNat)
 | 0,i,x,_,_,_,_,_,h=>by omega
 | L+1,i,x,h0,h1,hx,hxn,hg,hL=>by
  cases hxl:decide (x<n) with
  | false=>
   refine⟨.go i,CZ (by show CG v n g i x=_;unfold CG;rw[AJ hxl]),?_⟩;simp only[Yx] at hxl;rw[show(n-x).toNat=0 from by omega];simp[BE,DF,Kn,KR,Fo.flat]
  | true=>
   have hb:CG v n g i x=AS (decide (Iw v i<0)) (some (.out (.ret (-1)))) (AY (BB .i64 (x+1))<|some (.next (Iw v i,x+1))):=by unfold CG;rw[AZ hxl,hg i (YE i) h1,Ba rfl]
   simp only[Yv] at hxl;obtain⟨k,hk⟩:∃k,(n-x).toNat=k+1:=⟨(n-x).toNat-1,by omega⟩
   rw[hk];have e:Kn false none v i (k+1)=bif decide (Iw v i<0) then -1 else Kn false none v (Iw v i) k:=by
    unfold Kn;rw[Gm];simp only[Ib,Y2]
    cases hp:H0 (v.drop i.toNat) with
    | none=>simp[Iw,hp]
    | some q=>
     obtain⟨f,ys⟩:=q;obtain⟨q1,q2,q3⟩:=Jf hp;have hi:Iw v i=i+f.flat.length:=by simp[Iw,hp]
     have hd:v.drop (Iw v i).toNat=ys:=by rw[hi];exact CC h0 q1
     rw[hd,Yz (by omega)];simp only[Y2]
     cases hr:MB false none k ys with
     | none=>rfl
     | some q=>
      obtain⟨r,zs⟩:=q;simp only[Pv q3,Bx,Zh,Y4,hi];omega
   rw[e];rcases NF (v:=v) h0 h1 with hneg | ⟨hlt,hle⟩
   ·exact⟨.ret (-1),CZ (hb.trans (by rw[hneg,AZ (by decide)])),by rw[hneg];rfl⟩
   ·have hM:=hA.hM;have hvM:=hA.hv;obtain⟨o,ho1,ho2⟩:=Ju hA hn L (Iw v i) (x+1) (by omega) hle (by omega) (by omega) (λj hj=>hg j (by omega)) (by omega);exact⟨o,Ix (hb.trans (by rw[AJ (Yz (by omega)),AU (by omega) (by omega)])) ho1,by rw[ho2,show(n-(x+1)).toNat=k from by omega,Yz (by omega)];rfl⟩
theorem M7 {F:Nat}(hA:XM F M v){g:List Aa→Int→Option Int}{n:Int}(hn:n≤9223372036854775807):∀(L:Nat) (i x:Int) (last:Av),0≤i→i≤v.length→0≤x→x≤n→(∀j,i≤j→j≤v.length→g v j=some (Iw v j))→v.length-i.toNat<L→
  ∃o,BG (λσ=>Dc F v n g σ.1 σ.2.1 σ.2.2) L (i,last,x)=some o∧BE (λν=>Gk ν) o=some (Kn true (bif decide (0<x) then some last else none) v i (n-x).toNat)
 | 0,i,x,_,_,_,_,_,_,h=>by omega
 | L+1,i,x,last,h0,h1,hx,hxn,hg,hL=>by
  have hM:=hA.hM;have hvM:=hA.hv;have hMF:=hA.hF
  cases hxl:decide (x<n) with
  | false=>
   refine⟨.go i,CZ (by show Dc F v n g i last x=_;unfold Dc;rw[AJ hxl]),?_⟩;simp only[Yx] at hxl;rw[show(n-x).toNat=0 from by omega];simp[BE,Gk,Kn,KR,Fo.flat]
  | true=>
   have hxl':=hxl;simp only[Yv] at hxl;obtain⟨k,hk⟩:∃k,(n-x).toNat=k+1:=⟨(n-x).toNat-1,by omega⟩
   rw[hk]
   cases hd:v.drop i.toNat with
   | nil=>
    have hl:v.length≤i.toNat:=by simpa using hd
    refine⟨.ret (-1),CZ (by
     show Dc F v n g i last x=_;unfold Dc;rw[AZ hxl',C5 (by simp[imp,show(v.length:Int)≤i from by omega]),C5 (by simp[imp,show(v.length:Int)≤i from by omega]),AZ (by simp[show(v.length:Int)≤i from by omega])]),?_⟩
    simp[BE,Kn,hd,Gm,Ib]
   | cons c r=>
    obtain⟨g1,g2,g3⟩:=Ce h0 hd;have hcM:=hA.hc c (Y8 g1);have hat:=CR h0 hd;have hnl:decide ((v.length:Int)≤i)=false:=by simp;omega
    have hb:Dc F v n g i last x=AS (!(decide (c.fKind=4)&&pl c)||decide (0<x)&&(CY c.fStr last||decide (c.fStr=last))) (some (.out (.ret (-1)))) (Be (g v (i+1)) λha=>AS (decide (ha<0)) (some (.out (.ret (-1)))) (AY (BB .i64 (x+1))<|some (.next (ha,c.fStr,x+1)))):=by
     unfold Dc;rw[AZ hxl',C5 (by simp only[imp];rw[Uu h0 g3];simp),hat,Ry (by omega) (by omega),C5 (by simp[imp])];simp only[hnl,ov,YN,YF];rw[Bt h0 g3,AU (by omega) (by omega)]
    have hpk:Ib true (bif decide (0<x) then some last else none) (c::r)=bif (!(decide (c.fKind=4)&&pl c)||decide (0<x)&&(CY c.fStr last||decide (c.fStr=last))) then none else some (some c.fStr,r):=by
     simp only[Ib,Y7]
     cases h4:decide (c.fKind=4) with
     | false=>simp
     | true=>
      cases hp:pl c with
      | false=>simp
      | true=>
       have hok:=(Ot hp (by simpa using h4)).2
       cases h0x:decide (0<x) with
       | false=>simp[Cz,hok]
       | true=>cases hs:(CY c.fStr last||decide (c.fStr=last))<;>simp[Cz,hok,hs]
    cases ht:(!(decide (c.fKind=4)&&pl c)||decide (0<x)&&(CY c.fStr last||decide (c.fStr=last))) with
    | true=>
     rw[ht] at hpk;refine⟨.ret (-1),CZ (hb.trans (AZ ht)),?_⟩;simp only[Kn,hd,Gm,hpk,Y7];rfl
    | false=>
     rw[ht] at hpk;rw[AJ ht,hg (i+1) (by omega) (by omega),Ba rfl] at hb;have e:Kn true (bif decide (0<x) then some last else none) v i (k+1)=bif decide (Iw v (i+1)<0) then -1 else Kn true (some c.fStr) v (Iw v (i+1)) k:=by
      unfold Kn;rw[hd,Gm,hpk];simp only[Y2];have hx:Iw v (i+1)=match H0 r with | none=>-1 | some (f,_)=>i+1+f.flat.length:=by unfold Iw;rw[g2]
      cases hp:H0 r with
      | none=>rw[hp] at hx;simp[hx]
      | some q=>
       obtain⟨f,ys⟩:=q;obtain⟨q1,q2,q3⟩:=Jf hp;rw[hp] at hx;simp only at hx;have hd2:v.drop (Iw v (i+1)).toNat=ys:=by rw[hx];exact CC (by omega) (g2.trans q1)
       rw[hd2,Yz (by omega)];simp only[Y2]
       cases hr:MB true (some c.fStr) k ys with
       | none=>rfl
       | some q=>
        obtain⟨r',zs⟩:=q;simp only[Pv q3,Bx,Y4,Y0,Ze,hx];omega
     rw[e];rcases NF (v:=v) (i:=i+1) (by omega) (by omega) with hneg | ⟨hlt,hle⟩
     ·exact⟨.ret (-1),CZ (hb.trans (by rw[hneg,AZ (by decide)])),by rw[hneg];rfl⟩
     ·obtain⟨o,ho1,ho2⟩:=M7 hA hn L (Iw v (i+1)) (x+1) c.fStr (by omega) hle (by omega) (by omega) (λj hj=>hg j (by omega)) (by omega);exact⟨o,Ix (hb.trans (by rw[AJ (Yz (by omega)),AU (by omega) (by omega)])) ho1,by rw[ho2,show(n-(x+1)).toNat=k from by omega,Y5 (show(0:Int)<x+1 from by omega),Yz (by omega)];rfl⟩
theorem P5 {i:Int}{c:Aa}{r:List Aa}(h0:0≤i)(hd:v.drop i.toNat=c::r)(hp:pl c=true):Iw v i=Kn (decide (c.fKind=6)) none v (i+1) c.fN.toNat:=by
 have g2:=(Ce h0 hd).2.1;have hN:=TU hp;unfold Iw Kn;rw[hd,Hz,g2,hp];simp only[YA,Y2]
 cases hn:decide (0<c.fN) with
 | true=>
  simp only[Y7]
  cases hq:MB (decide (c.fKind=6)) none c.fN.toNat r with
  | none=>rfl
  | some q=>
   obtain⟨kids,zs⟩:=q;simp only[Fo.flat,Bx,Zh,Y0,YY];omega
 | false=>
  simp only[Yx] at hn;rw[show c.fN.toNat=0 from by omega,KR];simp[Fo.flat,Bx]
theorem Pq (hA:XM (M+1) M v)(hN:∀c∈v,c.fN≤9223372036854775807):∀(d F:Nat) (i:Int),0≤i→i≤v.length→v.length-i.toNat=d→M+2*d+3<F→CV F v i=some (Iw v i):=by
 have hM:=hA.hM;have hvM:=hA.hv;intro d
 induction d using Nat.strongRecOn with
 | ind d ih=>
  intro F i h0 h1 hd hF;obtain⟨F,rfl⟩:∃G,F=G+1:=⟨F-1,by omega⟩
  obtain⟨F,rfl⟩:∃G,F=G+1:=⟨F-1,by omega⟩
  rw[CV];unfold On
  cases hdr:v.drop i.toNat with
  | nil=>
   have hl:v.length≤i.toNat:=by simpa using hdr
   rw[AZ (by simp;omega)];simp[Iw,hdr,Pw]
  | cons c r=>
   obtain⟨g1,g2,g3⟩:=Ce h0 hdr;have hcM:=hA.hc c (Y8 g1);have hcN:=hN c (Y8 g1);rw[AJ (by simp;omega),Bt h0 g3,CR h0 hdr];simp only[S2 _ h0 (show i≤1152921504606846976 by omega),Option.isSome_some,ov,YN,imp,YQ,C5 (x:=_) (rfl:true=true)];have hg:∀j,i+1≤j→j≤v.length→CV F v j=some (Iw v j):=λj hj hj2=>ih (v.length-j.toNat) (by omega) F j (by omega) hj2 rfl (by omega);have hpl0:pl c=false→Iw v i = -1:=λhp=>by simp[Iw,hdr,Hz,hp]
   have hleaf:pl c=true→c.fN=0→Iw v i=i+1:=λhp h0'=>by simp[Iw,hdr,Hz,hp,h0',Fo.flat,Bx]
   have hscal:∀b:Bool,pl c=b→(b=true→c.fN=0)→Iw v i=bif b then i+1 else -1:=λb hb hz=>by
    cases b
    ·exact hpl0 hb
    ·exact hleaf hb (hz rfl)
   by_cases k1:c.fKind=1
   ·rw[AZ (by simp[k1])];have hp:pl c=(decide (c.fInt=0)&&(decide (c.fStr=[])&&decide (c.fN=0))):=by simp[pl,k1]
    rw[hscal _ hp (λh=>by simp at h;exact h.2.2)]
    cases decide (c.fInt=0)<;>cases decide (c.fStr=[])<;>cases decide (c.fN=0)<;>rfl
   rw[AJ (by simp[k1])]
   by_cases k2:c.fKind=2
   ·rw[AZ (by simp[k2])];have hp:pl c=((decide (c.fInt=0)||decide (c.fInt=1))&&(decide (c.fStr=[])&&decide (c.fN=0))):=by simp[pl,k2]
    rw[hscal _ hp (λh=>by simp at h;exact h.2.2)]
    cases decide (c.fInt=0)<;>cases decide (c.fInt=1)<;>cases decide (c.fStr=[])<;>cases decide (c.fN=0)<;>rfl
   rw[AJ (by simp[k2])]
   by_cases k3:c.fKind=3
   ·rw[AZ (by simp[k3])];have hp:pl c=(decide (c.fStr=[])&&decide (c.fN=0)):=by simp[pl,k3]
    rw[hscal _ hp (λh=>by simp at h;exact h.2)]
    cases decide (c.fStr=[])<;>cases decide (c.fN=0)<;>rfl
   rw[AJ (by simp[k3])]
   by_cases k4:c.fKind=4
   ·rw[AZ (by simp[k4]),Ry (by omega) (by omega),Ba rfl,Ba rfl];rw[Y5 k4,YC,hscal (pl c) rfl (λhp=>by have:=(Ot hp k4).1;rw[this])]
   rw[AJ (by simp[k4])]
   by_cases k5:c.fKind=5
   ·have hp:pl c=(decide (c.fInt=0)&&(decide (c.fStr=[])&&decide (0≤c.fN))):=by simp[pl,k5]
    rw[show(decide (c.fKind=5)&&(decide (c.fInt=0)&&(decide (c.fStr=[])&&decide (0≤c.fN))))=pl c from by rw[hp,Y5 k5,YC]];have k5' : ¬ c.fKind=6:=by omega
    cases hb:pl c with
    | false=>rw[AJ rfl,AJ (by simp[k5]),hpl0 hb]
    | true=>
     have hn0:=TU hb;rw[AZ rfl,AU (by omega) (by omega),Gl];unfold Ia;obtain⟨o,ho1,ho2⟩:=Ju (F:=F) ⟨hM,hvM,by omega,hA.hc⟩ hcN F (i+1) 0 (by omega) (by omega) (YE 0) hn0 hg (by omega);rw[Ba ho1,ho2,Ba rfl,P5 h0 hdr hb,Yz k5',Int.sub_zero]
   rw[AJ (by simp[k5])]
   by_cases k6:c.fKind=6
   ·have hp:pl c=(decide (c.fInt=0)&&(decide (c.fStr=[])&&decide (0≤c.fN))):=by simp[pl,k6]
    rw[show(decide (c.fKind=6)&&(decide (c.fInt=0)&&(decide (c.fStr=[])&&decide (0≤c.fN))))=pl c from by rw[hp,Y5 k6,YC]]
    cases hb:pl c with
    | false=>rw[AJ rfl,hpl0 hb]
    | true=>
     have hn0:=TU hb;rw[AZ rfl,AU (by omega) (by omega),KP];unfold LT;obtain⟨o,ho1,ho2⟩:=M7 (F:=F) ⟨hM,hvM,by omega,hA.hc⟩ hcN F (i+1) 0 [] (by omega) (by omega) (YE 0) hn0 hg (by omega);rw[Ba ho1,ho2,Ba rfl,P5 h0 hdr hb,Y5 k6,Int.sub_zero];rfl
   ·rw[AJ (by simp[k6]),hpl0 (by simp[pl,k1,k2,k3,k4,k5,k6])]
theorem Q6 (hA:XM (M+1) M v)(hN:∀c∈v,c.fN≤9223372036854775807){F:Nat}(hF:3*M+3<F):Kg F v=some (decide (Iw v 0=v.length)):=by
 have hvM:=hA.hv;unfold Kg;rw[Pq hA hN v.length F 0 (YE 0) (by omega) (by simp) (by omega)];simp only[imp,Option.isSome_some,YQ,C5,ov,YN]
 cases v with
 | nil=>simp[Iw,Pw]
 | cons c r=>
  rw[show decide (0<((c::r).length:Int))=true from by simp,YC]
  first | done | rfl
end
theorem R0 {m:Bool}{last key:Option Av}{r:List Aa}(h:Cz m last key=true):Ib m last (Bx key++r)=some (key,r):=by
 cases key with
 | none=>
  have:m=false:=by simpa[Cz] using h
  subst this;rfl
 | some s=>
  have h':=h;simp only[Cz,Y1] at h;obtain⟨⟨h1,h2⟩,h3⟩:=h;subst h1;have hp:pl ⟨4,0,s,0⟩=true:=by simp[pl,h2]
  show(bif pl ⟨4,0,s,0⟩&&decide ((4:Int)=4)&&Cz true last (some s) then _ else _)=_;rw[hp,h'];rfl
theorem LW:∀(f:Fo) (m:Bool) (last:Option Av) (ys:List Aa),f.wf m last=true→MB m last f.cnt (f.flat++ys)=some (f,ys)
 | .nil,_,_,_,_=>rfl
 | .cell k c r,m,last,ys,hw=>by
  simp only[Fo.wf,Y1,YB] at hw;obtain⟨⟨⟨w1,w2⟩,w3⟩,w4⟩:=hw;simp only[Fo.cnt,Fo.flat,YW,Zg];rw[Gm,R0 w1];simp only[Hz,w2,w3,YA,Y2,LW r m k ys w4,Fo.put]
 | .node k c kids r,m,last,ys,hw=>by
  simp only[Fo.wf,Y1,Yv] at hw;obtain⟨⟨⟨⟨⟨w1,w2⟩,w3⟩,w5⟩,w6⟩,w4⟩:=hw;simp only[Fo.cnt,Fo.flat,YW,Zg];rw[Gm,R0 w1];have e:c.fN.toNat=kids.cnt:=by omega
  simp only[Hz,w2,Y5 w3,YA,Y2,Y7,e,LW kids _ none (r.flat++ys) w6,LW r m k ys w4,Fo.put]
theorem R1 {f:Fo}{ys:List Aa}(h1:f.one=true)(hw:f.wf false none=true):H0 (f.flat++ys)=some (f,ys):=by
 have:=LW f false none ys hw;have hc:f.cnt=1:=by
  cases f with
  | nil=>cases h1
  | cell k c r=>cases k with
   | some _=>cases h1
   | none=>cases r with
    | nil=>rfl
    | _=>cases h1
  | node k c kids r=>cases k with
   | some _=>cases h1
   | none=>cases r with
    | nil=>rfl
    | _=>cases h1
 rw[hc] at this;exact this
structure Dv (M:Nat) (v:List Aa):Prop where
 hM:M≤1000000000
 hv:v.length≤M
 hc:∀c∈v,c.fStr.length≤M∧BB .i64 c.fInt=true∧c.fN≤9223372036854775807
theorem Dv.lk {M F:Nat}{v:List Aa}(h:Dv M v)(hF:M<F):RQ F M v:=⟨by have:=h.hM;omega,by have:=h.hM;omega,h.hv,hF,h.hc⟩
theorem Dv.rf {M F:Nat}{v:List Aa}(h:Dv M v)(hF:M<F):XM F M v:=⟨by have:=h.hM;omega,h.hv,hF,λc hc=>(h.hc c hc).1⟩
theorem Dv.drop {M:Nat}{v:List Aa}(h:Dv M v)(k:Nat):Dv M (v.drop k):=⟨h.hM,by have:=h.hv;rw[Zf];omega,λc hc=>h.hc c (List.mem_of_mem_drop hc)⟩
theorem Dv.take {M:Nat}{v:List Aa}(h:Dv M v)(k:Nat):Dv M (v.take k):=⟨h.hM,by have:=h.hv;rw[List.length_take];omega,λc hc=>h.hc c (List.mem_of_mem_take hc)⟩
def whole (v:List Aa):Option Fo:=match H0 v with
 | some (f,[])=>some f
 | _=>none
theorem Mm {v:List Aa}{f:Fo}(h:whole v=some f):v=f.flat∧f.wf false none=true∧f.one=true:=by
 unfold whole at h
 cases hp:H0 v with
 | none=>rw[hp] at h;cases h
 | some q=>
  obtain⟨g,ys⟩:=q;rw[hp] at h
  cases ys with
  | cons _ _=>cases h
  | nil=>
   cases h
   obtain⟨h1,h2,h3⟩:=Jf hp;exact⟨by simpa using h1,h2,h3⟩
theorem Tz {f:Fo}(h1:f.one=true)(hw:f.wf false none=true):whole f.flat=some f:=by
 have:=R1 (ys:=[]) h1 hw;rw[YY] at this;simp[whole,this]
def Nz (f:Fo):Int:=
 bif f.flat.any H4 then 2 else bif f.flat.any EY||(decide (200<f.flat.length)||(decide (8<f.dep)||decide (4000<(f.txt true).length))) then 3 else 0
def CT (v:List Aa):Int:=match whole v with
 | none=>1
 | some f=>Nz f
theorem Ov {f:Fo}(h1:f.one=true):f.cnt=1:=by
 cases f with
 | nil=>cases h1
 | cell k c r=>cases k with
  | some _=>cases h1
  | none=>cases r with
   | nil=>rfl
   | _=>cases h1
 | node k c kids r=>cases k with
  | some _=>cases h1
  | none=>cases r with
   | nil=>rfl
   | _=>cases h1
theorem Or (s:Av):KQ s≤2*s.length+2+s.length:=by
 have h1:s.count 34≤s.length:=List.count_le_length;have h2:s.count 92≤s.length:=List.count_le_length;unfold KQ;omega
theorem W5 {c:Aa}{M:Nat}(hp:pl c=true)(hs:c.fStr.length≤M)(hi:(Lib.itoa c.fInt).length≤21):Vb c≤3*M+21:=by
 have:=Or c.fStr;unfold Vb
 cases h1:decide (c.fKind=1) with
 | true=>simp only[Y7];omega
 | false=>
  cases h2:decide (c.fKind=2) with
  | true=>
   simp[pl,h1,h2] at hp;simp only[Y2,Y7];omega
  | false=>
   cases h3:decide (c.fKind=3) with
   | true=>simp only[Y2,Y7];omega
   | false=>cases h4:decide (c.fKind=4)<;>simp only[Y2,Y7]<;>omega
theorem OG {M:Nat}:∀{f:Fo} {m:Bool} {l:Option Av},f.wf m l=true→(∀c∈f.flat,c.fStr.length≤M∧BB .i64 c.fInt=true∧c.fN≤9223372036854775807)→f.byt+f.cnt≤(3*M+24)*f.flat.length
 | .nil,_,_,_,_=>by simp[Fo.byt,Fo.flat,Fo.cnt]
 | .cell k c r,m,l,hw,hc=>by
  simp only[Fo.wf,Y1,YB] at hw;obtain⟨⟨⟨w1,w2⟩,w3⟩,w4⟩:=hw;simp only[Fo.flat] at hc;have ih:=OG w4 (λx hx=>hc x (by simp[hx]));obtain⟨c1,c2,c3⟩:=hc c (by simp);have i64:=GO c2;have hl:=W5 w2 c1 (Lib.itoa_length_le c.fInt i64.1 i64.2);have hk:O0 k≤(3*M+24)*(Bx k).length:=by
   cases k with
   | none=>simp[O0,Bx]
   | some s=>
    have:=(hc ⟨4,0,s,0⟩ (by simp[Bx])).1;have h2:=Or s;simp only at this;simp only[O0,Bx,YI];omega
  simp only[Fo.byt,Fo.flat,Fo.cnt,Y4,Y0];have e:((3*(M:Int)+24)*(((Bx k).length+(r.flat.length+1):Nat):Int))=(3*(M:Int)+24)*(Bx k).length+((3*(M:Int)+24)*r.flat.length+(3*(M:Int)+24)):=by
   push_cast;rw[Int.mul_add,Int.mul_add,Int.mul_one]
  rw[e]
  push_cast at *
  omega
 | .node k c kids r,m,l,hw,hc=>by
  simp only[Fo.wf,Y1,Yv] at hw;obtain⟨⟨⟨⟨⟨w1,w2⟩,w3⟩,w5⟩,w6⟩,w4⟩:=hw;simp only[Fo.flat] at hc;have ih:=OG w4 (λx hx=>hc x (by simp[hx]));have ih2:=OG w6 (λx hx=>hc x (by simp[hx]));have hcf:=Ci kids;have hk:O0 k≤(3*M+24)*(Bx k).length:=by
   cases k with
   | none=>simp[O0,Bx]
   | some s=>
    have:=(hc ⟨4,0,s,0⟩ (by simp[Bx])).1;have h2:=Or s;simp only at this;simp only[O0,Bx,YI];omega
  simp only[Fo.byt,Fo.flat,Fo.cnt,Y4,Y0];have e:((3*(M:Int)+24)*(((Bx k).length+(kids.flat.length+r.flat.length+1):Nat):Int))=(3*(M:Int)+24)*(Bx k).length+((3*(M:Int)+24)*kids.flat.length+(3*(M:Int)+24)*r.flat.length+(3*(M:Int)+24)):=by
   push_cast;rw[Int.mul_add,Int.mul_add,Int.mul_add,Int.mul_one]
  rw[e]
  push_cast at *
  omega
theorem NR {M:Nat}(hM:M≤1000000){f:Fo}{m:Bool}{l:Option Av}(hw:f.wf m l=true)(hl:f.flat.length≤M)(hc:∀c∈f.flat,c.fStr.length≤M∧BB .i64 c.fInt=true∧c.fN≤9223372036854775807):f.byt≤4000000000000:=by
 have:=OG (M:=M) hw hc;have h2:(3*M+24)*f.flat.length≤(3*1000000+24)*1000000:=Nat.mul_le_mul (by omega) (by omega);have h3:(((3*M+24)*f.flat.length:Nat):Int)=(3*(M:Int)+24)*f.flat.length:=by push_cast;rfl
 omega
theorem Gg {M F:Nat}{v:List Aa}(hA:Dv M v)(hM:M≤1000000)(hF:M<F):Dk F v=some (CT v):=by
 unfold Dk CT whole;have hvM:=hA.hv;rcases VA (hA.lk hF) with⟨f,ys,hp,hl⟩ | ⟨hp,sh',hl⟩
 ·rw[hl,Ba rfl,hp];obtain⟨h1,h2,h3⟩:=Jf hp;have hlen:v.length=f.flat.length+ys.length:=by rw[h1];simp
  cases ys with
  | cons c r=>
   rw[AZ];simp only[Y0] at hlen;simp;omega
  | nil=>
   simp only[Ze,Nat.add_zero] at hlen;rw[AJ (by simp[hlen])];have hc:∀c∈f.flat,c.fStr.length≤M∧BB .i64 c.fInt=true∧c.fN≤9223372036854775807:=λc hc=>hA.hc c (by rw[h1];simp[hc]);have hb:=NR hM h2 (by omega) hc;have hb0:=Ip h2;have e1:(f.sh 0 M4).fOutside=f.flat.any H4:=by rw[Og];rfl
   have e2:(f.sh 0 M4).fLong=f.flat.any EY:=by rw[LR];rfl
   have e3:(f.sh 0 M4).fDepth=f.dep:=by rw[JZ f 0 M4 (by simp[M4])];simp[M4]
   have e4:(f.sh 0 M4).fBytes=(f.txt true).length:=by
    rw[Ka f false none 0 M4 h2 (by simp[M4]) (by simp[M4];omega),JY f false none true h2,Ov h3];simp[M4]
   simp only;rw[e1,e2,e3,e4,hlen];unfold Nz
   cases f.flat.any H4 with
   | true=>rw[AZ rfl];rfl
   | false=>
    rw[AJ rfl];have a1:decide ((200:Int)<(f.flat.length:Int))=decide (200<f.flat.length):=by rw[YD];simp;omega
    have a2:decide ((8:Int)<(f.dep:Int))=decide (8<f.dep):=by rw[YD];simp;omega
    have a3:decide ((4000:Int)<((f.txt true).length:Int))=decide (4000<(f.txt true).length):=by rw[YD];simp;omega
    rw[a1,a2,a3]
    cases(f.flat.any EY||(decide (200<f.flat.length)||(decide (8<f.dep)||decide (4000<(f.txt true).length))))<;>rfl
 ·rw[hl,Ba rfl,hp];rfl
theorem KW {v:List Aa}{p:Int}{f:Fo}{ys:List Aa}(h1:f.one=true)(hw:f.wf false none=true)(hd:v.drop p.toNat=f.flat++ys):Iw v p=p+f.flat.length:=by
 unfold Iw;rw[hd,R1 h1 hw]
theorem LM {c:Aa}(hp:pl c=true)(hn:decide (0<c.fN)=false):(Fo.cell none c .nil).wf false none=true:=by simp[Fo.wf,Cz,hp,hn]
theorem LL {c:Aa}{kids:Fo}(hp:pl c=true)(hn:0<c.fN)(hk:c.fN=kids.cnt)(hw:kids.wf (decide (c.fKind=6)) none=true):(Fo.node none c kids .nil).wf false none=true:=by simp[Fo.wf,Cz,hp,hn,hk,hw];omega
section
variable {M : Nat} {v : List Aa}
theorem Dv.next (hA:Dv M v){F:Nat}(hF:3*M+3<F){p:Int}(h0:0≤p)(h1:p≤v.length):CV F v p=some (Iw v p):=by
 have hM:=hA.hM;have hvM:=hA.hv;exact Pq (hA.rf (Yy M)) (λc hc=>(hA.hc c hc).2.2) (v.length-p.toNat) F p h0 h1 rfl (by omega)
theorem Ke {F:Nat}{p:Int}{c:Aa}{r:List Aa}(h0:0≤p)(hpM:p≤1152921504606846976)(hd:v.drop p.toNat=c::r)(hp:pl c=true)(hn:decide (0<c.fN)=false):CO (F+2) v p=some 1:=by
 obtain⟨g1,g2,g3⟩:=Ce h0 hd;rw[CO];unfold Hv;rw[Bt h0 g3,CR h0 hd]
 cases hk:(!decide (c.fKind=5)&&!decide (c.fKind=6)) with
 | true=>rw[AZ rfl]
 | false=>
  rw[AJ rfl,AU (by omega) (by omega),Ba (CZ (o:=.go 0) (by
   show CB (F+1) v p _ 0 (p+1) 0=_;unfold CB;rw[CR h0 hd,AJ hn]))]
  simp only[BE,D4];rw[AU (by omega) (by omega)];rfl
theorem NC {F:Nat}{i:Int}{rec:List Aa→Int→Option Int}{most at_ x L:Int}{m:Bool}{p q:Int}{pc:Aa}(hpc:Ax v i=pc)(hm:decide (pc.fKind=6)=m)(hx:x<pc.fN)(hx0:0≤x)(hpcN:pc.fN≤9223372036854775807)
  (ha0:0≤at_) (haM:at_≤1152921504606846976) (hp:p=bif m then at_+1 else at_) (hr:rec v p=some L) (hq:CV F v p=some q):CB F v i rec most at_ x=some (.next (max most L,q,x+1)):=by
 unfold CB;rw[hpc,AZ (by simpa using hx),hm]
 cases m with
 | true=>
  simp only[Y7] at hp;rw[AZ rfl,AU (by omega) (by omega),← hp,hr,Ba rfl]
  cases hl:decide (most<L) with
  | true=>rw[AZ rfl,hq,Ba rfl,AU (by omega) (by omega),Int.max_eq_right (by simp at hl;omega)]
  | false=>rw[AJ rfl,hq,Ba rfl,AU (by omega) (by omega),Int.max_eq_left (by simp at hl;omega)]
 | false=>
  simp only[Y2] at hp;rw[AJ rfl,← hp,hr,Ba rfl]
  cases hl:decide (most<L) with
  | true=>rw[AZ rfl,hq,Ba rfl,AU (by omega) (by omega),Int.max_eq_right (by simp at hl;omega)]
  | false=>rw[AJ rfl,hq,Ba rfl,AU (by omega) (by omega),Int.max_eq_left (by simp at hl;omega)]
theorem Ks {m:Bool}{last key:Option Av}(h:Cz m last key=true):((Bx key).length:Int)=bif m then 1 else 0:=by
  cases key with
  | none=>
            have:m=false:=by simpa[Cz] using h
            subst this;rfl
  | some s=>simp only[Cz,Y1] at h;rw[h.1.1];rfl
theorem Pr (hA:Dv M v):∀(g:Fo) (F L:Nat) (i at_ x most:Int) (m:Bool) (last:Option Av) (ys:List Aa) (pc:Aa),Ax v i=pc→decide (pc.fKind=6)=m→pc.fN≤9223372036854775807→g.wf m last=true→v.drop at_.toNat=g.flat++ys→0≤at_→at_≤v.length→pc.fN=x+g.cnt→0≤x→0≤most→most≤1152921504606846976→g.cnt<L→3*M+5+g.flat.length<F→
  ∃o,BG (λσ=>CB F v i (CO F) σ.1 σ.2.1 σ.2.2) L (most,at_,x)=some o∧BE (λν=>D4 ν) o=some (max most (g.dep:Int)+1):=by
 have hM:=hA.hM;have hvM:=hA.hv;have fin:∀(F L:Nat) (i at_ x most:Int) (pc:Aa),Ax v i=pc→pc.fN≤x→0≤most→most≤1152921504606846976→0<L→∃o,BG (λσ=>CB F v i (CO F) σ.1 σ.2.1 σ.2.2) L (most,at_,x)=some o∧BE (λν=>D4 ν) o=some (most+1):=λF L i at_ x most pc hpc hx h0 hb hL=>by
  obtain⟨L,rfl⟩:∃K,L=K+1:=⟨L-1,by omega⟩
  refine⟨.go most,CZ (by show CB F v i _ most at_ x=_;unfold CB;rw[hpc,AJ (by simp;omega)]),?_⟩;simp only[BE,D4];rw[AU (by omega) (by omega)]
 have depM:∀g:Fo,g.dep≤g.flat.length:=by
  intro g
  induction g with
  | nil=>simp[Fo.dep]
  | cell k c r ih=>simp[Fo.dep,Fo.flat];omega
  | node k c kids r ih1 ih2=>simp[Fo.dep,Fo.flat];omega
 intro g
 induction g with
 | nil=>
  intro F L i at_ x most m last ys pc hpc hm hpN hw hd h0 h1 hN hx hmo hmM hL hF;obtain⟨o,h1,h2⟩:=fin F L i at_ x most pc hpc (by simp[Fo.cnt] at hN;omega) hmo hmM (by omega);exact⟨o,h1,by rw[h2];simp only[Fo.dep];congr 2<;>omega⟩
 | cell k c r ih=>
  intro F L i at_ x most m last ys pc hpc hm hpN hw hd h0 h1 hN hx hmo hmM hL hF;simp only[Fo.wf,Y1,YB] at hw;obtain⟨⟨⟨w1,w2⟩,w3⟩,w4⟩:=hw;simp only[Fo.flat,YW,Zg] at hd;simp only[Fo.cnt] at hN hL;simp only[Fo.flat,Y4,Y0] at hF;obtain⟨L,rfl⟩:∃K,L=K+1:=⟨L-1,by omega⟩
  obtain⟨F,rfl⟩:∃K,F=K+2:=⟨F-2,by omega⟩
  have hd1:=CC h0 hd;have hkl:=Ks w1;obtain⟨g1,g2,g3⟩:=Ce (by omega) hd1;have hlen:at_+(Bx k).length=bif m then at_+1 else at_:=by rw[hkl];cases m<;>simp
  have hq:=hA.next (F:=F+2) (by omega) (p:=at_+(Bx k).length) (by omega) (by omega);rw[KW (f:=.cell none c .nil) (ys:=r.flat++ys) rfl (LM w2 w3) hd1] at hq;have hb:=NC (most:=most) (x:=x) hpc hm (by omega) hx hpN h0 (by omega) hlen (Ke (F:=F) (by omega) (by omega) hd1 w2 w3) hq;have hdd:=depM r;obtain⟨o,ho1,ho2⟩:=ih (F+2) L i (at_+(Bx k).length+((Fo.cell none c .nil).flat.length:Int)) (x+1) (max most 1) m k ys pc hpc hm hpN w4 (by rw[show(Fo.cell none c .nil).flat.length=1 from rfl];exact g2) (by omega) (by rw[show(Fo.cell none c .nil).flat.length=1 from rfl];omega) (by omega) (by omega) (by omega) (by omega) (by omega) (by omega);refine⟨o,Ix hb ho1,?_⟩;rw[ho2,Fo.dep];congr 2<;>omega
 | node k c kids r ihk ih=>
  intro F L i at_ x most m last ys pc hpc hm hpN hw hd h0 h1 hN hx hmo hmM hL hF;simp only[Fo.wf,Y1,Yv] at hw;obtain⟨⟨⟨⟨⟨w1,w2⟩,w3⟩,w5⟩,w6⟩,w4⟩:=hw;simp only[Fo.flat,YW,Zg] at hd;simp only[Fo.cnt] at hN hL;simp only[Fo.flat,Y4,Y0] at hF;obtain⟨L,rfl⟩:∃K,L=K+1:=⟨L-1,by omega⟩
  obtain⟨F,rfl⟩:∃K,F=K+1:=⟨F-1,by omega⟩
  have hd1:=CC h0 hd;have hkl:=Ks w1;obtain⟨g1,g2,g3⟩:=Ce (by omega) hd1;have hcN:=(hA.hc c (Y8 g1)).2.2;have hlen:at_+(Bx k).length=bif m then at_+1 else at_:=by rw[hkl];cases m<;>simp
  have hq:=hA.next (F:=F+1) (by omega) (p:=at_+(Bx k).length) (by omega) (by omega);have hfl:(Fo.node none c kids .nil).flat=c::kids.flat:=by simp[Fo.flat,Bx]
  rw[KW (f:=.node none c kids .nil) (ys:=r.flat++ys) rfl (LL w2 w3 w5 w6) (by rw[hd1,hfl];simp)] at hq;have hdk:=depM kids;have hdd:=depM r;have hcf:=Ci kids;have hvl:(v.drop (at_+(Bx k).length+1).toNat).length=kids.flat.length+(r.flat.length+ys.length):=by rw[g2];simp
  rw[Zf] at hvl;have hrec:CO (F+1) v (at_+(Bx k).length)=some ((kids.dep:Int)+1):=by
   rw[CO];unfold Hv;rw[Bt (by omega) g3,CR (by omega) hd1];have ha:=(Kh w2 w3).1;rw[AJ (by simp;omega),AU (by omega) (by omega)];obtain⟨o,ho1,ho2⟩:=ihk F F (at_+(Bx k).length) (at_+(Bx k).length+1) 0 0 _ none (r.flat++ys) c (CR (by omega) hd1) rfl hcN w6 (by rw[g2]) (by omega) (by omega) (by omega) (YE 0) (YE 0) (by omega) (by omega) (by omega);rw[Ba ho1,ho2];congr 2<;>omega
  have hb:=NC (most:=most) (x:=x) hpc hm (by omega) hx hpN h0 (by omega) hlen hrec hq;obtain⟨o,ho1,ho2⟩:=ih (F+1) L i (at_+(Bx k).length+((Fo.node none c kids .nil).flat.length:Int)) (x+1) (max most ((kids.dep:Int)+1)) m k ys pc hpc hm hpN w4 (by
   have:=CC (by omega) g2;rw[hfl,Y0,show at_+(Bx k).length+((kids.flat.length+1:Nat):Int)=at_+(Bx k).length+1+kids.flat.length from by omega];exact this) (by omega) (by rw[hfl,Y0];omega) (by omega) (by omega) (by omega) (by omega) (by omega) (by omega)
  refine⟨o,Ix hb ho1,?_⟩;rw[ho2,Fo.dep];congr 2<;>omega
theorem Q5 (hA:Dv M v){F:Nat}{p:Int}{f:Fo}{ys:List Aa}(h0:0≤p)(h1:f.one=true)(hw:f.wf false none=true)(hd:v.drop p.toNat=f.flat++ys)(hF:3*M+6+f.flat.length<F):CO F v p=some (f.dep:Int):=by
 have hM:=hA.hM;have hvM:=hA.hv
 cases f with
 | nil=>cases h1
 | cell k c r=>
  cases k with
  | some s=>cases h1
  | none=>
   cases r with
   | nil=>
    simp only[Fo.wf,Y1,YB] at hw;obtain⟨F,rfl⟩:∃K,F=K+2:=⟨F-2,by omega⟩
    have hd':v.drop p.toNat=c::ys:=by simpa[Fo.flat,Bx] using hd
    rw[Ke h0 (by have:=(Ce h0 hd').2.2;omega) hd' hw.1.1.2 hw.1.2];rfl
   | cell _ _ _=>cases h1
   | node _ _ _ _=>cases h1
 | node k c kids r=>
  cases k with
  | some s=>cases h1
  | none=>
   cases r with
   | nil=>
    simp only[Fo.wf,Y1,Yv] at hw;obtain⟨⟨⟨⟨⟨w1,w2⟩,w3⟩,w5⟩,w6⟩,w4⟩:=hw;have hd':v.drop p.toNat=c::(kids.flat++ys):=by simpa[Fo.flat,Bx] using hd
    obtain⟨g1,g2,g3⟩:=Ce h0 hd';have hcN:=(hA.hc c (Y8 g1)).2.2;have hcf:=Ci kids;simp only[Fo.flat,Bx,Zh,YY,Y0] at hF;obtain⟨F,rfl⟩:∃K,F=K+1:=⟨F-1,by omega⟩
    rw[CO];unfold Hv;have ha:=(Kh w2 w3).1;rw[Bt h0 g3,CR h0 hd',AJ (by simp;omega),AU (by omega) (by omega)];obtain⟨o,ho1,ho2⟩:=Pr hA kids F F p (p+1) 0 0 _ none ys c (CR h0 hd') rfl hcN w6 g2 (by omega) (by omega) (by omega) (YE 0) (YE 0) (by omega) (by omega) (by omega);rw[Ba ho1,ho2];simp only[Fo.dep];congr 1<;>omega
   | cell _ _ _=>cases h1
   | node _ _ _ _=>cases h1
end
def SU (c:UInt8):Av:=bif (decide (c=34)||decide (c=92)) then[92,c] else[c]
theorem ST {s:Av}{k:Nat}{c:UInt8}(h:s[k]? =some c):MX (s.take (k+1))=MX (s.take k)++SU c:=by
 rw[List.take_add_one,h];simp[MX,List.flatMap_append,SU]
theorem PY (s:Av):(MX s).length≤3*s.length:=by
 rw[MW];have h1:s.count 34≤s.length:=List.count_le_length;have h2:s.count 92≤s.length:=List.count_le_length;omega
theorem Qx {s:Av}{x:Int}{c:UInt8}(h0:0≤x)(h:s[x.toNat]? =some c):List.take (Int.toNat (x+1)-Int.toNat x) (List.drop (Int.toNat x) s)=[c]:=by
 have hl:=(List.getElem?_eq_some_iff.1 h).1;have hc:=(List.getElem?_eq_some_iff.1 h).2;rw[show Int.toNat (x+1)-Int.toNat x=1 from by omega,List.drop_eq_getElem_cons hl,hc];rfl
theorem XK {s:Av}{x:Int}{c:UInt8}(h:s[x.toNat]? =some c):decide (Ck s x=34)=decide (c=34):=by
 rw[OI h,YD,decide_eq_true_iff,decide_eq_true_iff,← UInt8.toNat_inj];show _↔c.toNat=34;omega
theorem XJ {s:Av}{x:Int}{c:UInt8}(h:s[x.toNat]? =some c):decide (Ck s x=92)=decide (c=92):=by
 rw[OI h,YD,decide_eq_true_iff,decide_eq_true_iff,← UInt8.toNat_inj];show _↔c.toNat=92;omega
theorem Ok {s out:Av}{x:Int}{c:UInt8}(h0:0≤x)(hx:x<(s.length:Int))(hs:s.length≤1152921504606846976)(ho:out.length≤3*s.length+1)(hc:s[x.toNat]? =some c):CK s out x=some (.next (out++SU c,x+1)):=by
 unfold CK SU;rw[AZ (Y5 hx),Bt h0 hx,XK hc,XJ hc,Qx h0 hc];have l1:(([92]:Av).length:Int)=1:=rfl;have l2:(([c]:Av).length:Int)=1:=rfl
 cases hq:(decide (c=34)||decide (c=92)) with
 | true=>
  have l3:((out++([92]:Av)).length:Int)=out.length+1:=by rw[Y4,YI,Int.natCast_add];rfl
  rw[AZ rfl,l1,l2,l3,AU (by omega) (by omega),AU (by omega) (by omega),E2 (by omega) (by omega),E2 (by omega) (by omega),AU (by omega) (by omega),YW];rfl
 | false=>
  rw[AJ rfl,l2,AU (by omega) (by omega),E2 (by omega) (by omega),E2 (by omega) (by omega),AU (by omega) (by omega)];rfl
theorem Ic {R V:Type}(K:V→Option R)(v:V):BE K (.go v)=K v:=rfl
theorem Kj {R V:Type}(K:V→Option R)(r:R):BE K (.ret r)=some r:=rfl
theorem Pn {s out:Av}{x:Int}(hx : ¬ x<(s.length:Int)):CK s out x=some (.out (.go out)):=by
 unfold CK;rw[AJ (Yz hx)]
theorem So {out:Av}(h:out.length≤4611686018427387904):Dl out=some (out++[34]):=by
 unfold Dl;have l1:(([34]:Av).length:Int)=1:=rfl;rw[l1,AU (by omega) (by omega)]
theorem J5 {F:Nat}{s:Av}(hF:s.length<F)(hs:s.length≤1152921504606846976):HZ F s=some (J6 s):=by
 obtain⟨o,h1,h2⟩:=If (body:=λσ=>CK s σ.1 σ.2) (λσ=>0≤σ.2∧σ.2≤(s.length:Int)∧σ.1=34::MX (s.take σ.2.toNat)) (λσ=>s.length-σ.2.toNat)
  (λo=>BE (λν=>Dl ν) o=some (J6 s)) (λσ ⟨h0,hl,ha⟩=>by
   obtain⟨out,x⟩:=σ;simp only at h0 hl ha;show(∃s',CK s out x=_∧_)∨∃o,CK s out x=_∧_;have hb:=PY (s.take x.toNat);have hb2:(s.take x.toNat).length≤s.length:=by rw[List.length_take];omega
   have hol:out.length≤3*s.length+1:=by rw[ha,Y0];omega
   by_cases hx:x<(s.length:Int)
   ·obtain⟨c,hc⟩:∃c,s[x.toNat]? =some c:=⟨s[x.toNat]'(by omega),Y3 (by omega)⟩
    have a1:0≤x+1:=by omega
    have a2:x+1≤s.length:=by omega
    have a3:s.length-(x+1).toNat<s.length-x.toNat:=by omega
    have a4:out++SU c=34::MX (s.take (x+1).toNat):=by rw[show(x+1).toNat=x.toNat+1 from by omega,ST hc,ha];rfl
    exact .inl ⟨(out++SU c,x+1),Ok h0 hx hs hol hc,⟨a1,a2,a4⟩,a3⟩
   ·have e:x.toNat=s.length:=by omega
    have hk:Dl out=some (out++[34]):=So (by omega);have hf:out++[34]=J6 s:=by rw[ha,e,List.take_length];rfl
    exact .inr ⟨.go out,Pn hx,(Ic (λν=>Dl ν) out).trans (hk.trans (congrArg some hf))⟩) F ([34],0) ⟨YE 0,by show(0:Int)≤s.length;omega,by show([34]:Av)=34::MX (s.take 0);simp[MX]⟩ (by show s.length-0<F;omega)
 unfold HZ;rw[Ba h1,h2]
section
variable {M : Nat} {v : List Aa}
theorem Yf (a b c d e:Av):(((a++b)++c)++d)++e=a++(b++(c++d)++e):=by simp
theorem Yg (a b c d:Av):((a++b)++c)++d=a++([]++(b++c)++d):=by simp
theorem Yh (a b c:Av):(a++b)++c=a++(b++[]++c):=by simp
theorem Yi (a b:Av):a++b=a++([]++[]++b):=by simp
theorem VB (a:Av)(c:UInt8):((a++[c]).length:Int)=a.length+1:=by rw[Y4,YI,Int.natCast_add];rfl
theorem PA (a b:Av):((a++b).length:Int)=a.length+b.length:=by rw[Y4,Int.natCast_add]
theorem N9 {F:Nat}{i:Int}{rec:List Aa→Int→Option Av}{out tx:Av}{at_ x:Int}{m:Bool}{p q:Int}{pc:Aa}{key:Option Av}{last:Option Av}(hpc:Ax v i=pc)(hm:decide (pc.fKind=6)=m)(hx:x<pc.fN)(hx0:0≤x)(hpcN:pc.fN≤9223372036854775807)
  (ha0:0≤at_) (haM:at_<v.length) (hvM:(v.length:Int)≤1152921504606846976) (hk:Cz m last key=true) (hkey:∀s,key=some s→(Ax v at_).fStr=s∧s.length<F∧s.length≤1152921504606846976) (hp:p=bif m then at_+1 else at_) (hr:rec v p=some tx) (hq:CV F v p=some q)
  (hlen:((out++(Gw (decide (x=0))++ML key++tx)).length:Int)≤4611686018427387904):D3 F v i rec out at_ x=some (.next (out++(Gw (decide (x=0))++ML key++tx),q,x+1)):=by
 have hb:(([44]:Av).length:Int)=1:=rfl;have he:(([58]:Av).length:Int)=1:=rfl;have hx1:AY (BB .i64 (x+1)) (some (Stp.next (out++(Gw (decide (x=0))++ML key++tx),q,x+1)):Option (Stp (Av×Int×Int) (Out Av Av)))=some (Stp.next (out++(Gw (decide (x=0))++ML key++tx),q,x+1)):=AU (by omega) (by omega);unfold D3;rw[hpc,AZ (Y5 hx),hm]
 cases ha:decide (x=0) with
 | true=>
  rw[ha] at hx1 hlen;simp only[Yv] at ha;rw[AJ (Yz (by omega))]
  cases m with
  | true=>
   cases key with
   | none=>simp[Cz] at hk
   | some s=>
    obtain⟨e1,e2,e3⟩:=hkey s rfl;simp only[Y7] at hp;have e:((out++J6 s)++[58])++tx=out++(Gw true++ML (some s)++tx):=Yg _ _ _ _;rw[← e] at hx1 hlen ⊢;have h1:=PA ((out++J6 s)++[58]) tx;have h2:=VB (out++J6 s) 58;have h3:=PA out (J6 s);rw[AZ rfl,Bt ha0 haM,e1,J5 e2 e3,Ba rfl,AU (by omega) (by omega),he,AU (by omega) (by omega),AU (by omega) (by omega),← hp,hr,Ba rfl,AU (by omega) (by omega),hq,Ba rfl,hx1]
  | false=>
   cases key with
   | some s=>simp[Cz] at hk
   | none=>
    simp only[Y2] at hp;have e:out++tx=out++(Gw true++ML none++tx):=Yi _ _;rw[← e] at hx1 hlen ⊢;have h1:=PA out tx;rw[AJ rfl,← hp,hr,Ba rfl,AU (by omega) (by omega),hq,Ba rfl,hx1]
 | false=>
  rw[ha] at hx1 hlen;simp only[Yx] at ha;rw[AZ (Y5 (by omega))]
  cases m with
  | true=>
   cases key with
   | none=>simp[Cz] at hk
   | some s=>
    obtain⟨e1,e2,e3⟩:=hkey s rfl;simp only[Y7] at hp;have e:(((out++[44])++J6 s)++[58])++tx=out++(Gw false++ML (some s)++tx):=Yf _ _ _ _ _;rw[← e] at hx1 hlen ⊢;have h1:=PA (((out++[44])++J6 s)++[58]) tx;have h2:=VB ((out++[44])++J6 s) 58;have h3:=PA (out++[44]) (J6 s);have h4:=VB out 44;rw[hb,AU (by omega) (by omega),AZ rfl,Bt ha0 haM,e1,J5 e2 e3,Ba rfl,AU (by omega) (by omega),he,AU (by omega) (by omega),AU (by omega) (by omega),← hp,hr,Ba rfl,AU (by omega) (by omega),hq,Ba rfl,hx1]
  | false=>
   cases key with
   | some s=>simp[Cz] at hk
   | none=>
    simp only[Y2] at hp;have e:(out++[44])++tx=out++(Gw false++ML none++tx):=Yh _ _ _;rw[← e] at hx1 hlen ⊢;have h1:=PA (out++[44]) tx;have h4:=VB out 44;rw[hb,AU (by omega) (by omega),AJ rfl,← hp,hr,Ba rfl,AU (by omega) (by omega),hq,Ba rfl,hx1]
theorem Rw {i:Int}{pc:Aa}{out:Av}(hpc:Ax v i=pc)(h:out.length≤4611686018427387904):Gy v i out=some (Ti pc out):=by
 unfold Gy Ti;have l1:(([123]:Av).length:Int)=1:=rfl;have l2:(([91]:Av).length:Int)=1:=rfl;have l3:(([125]:Av).length:Int)=1:=rfl;have l4:(([93]:Av).length:Int)=1:=rfl;have h1:=PA [123] out;have h2:=PA [91] out;rw[hpc]
 cases hk:decide (pc.fKind=6) with
 | true=>rw[AZ rfl,AU (by omega) (by omega),AU (by omega) (by omega)];rfl
 | false=>rw[AJ rfl,AU (by omega) (by omega),AU (by omega) (by omega)];rfl
theorem M6 {F:Nat}{p:Int}{c:Aa}{r:List Aa}(h0:0≤p)(hpM:p≤1152921504606846976)(hd:v.drop p.toNat=c::r)(hp:pl c=true)(hn:decide (0<c.fN)=false)(hs:c.fStr.length<F+1)(hs2:c.fStr.length≤1152921504606846976)(hi:BB .i64 c.fInt=true):EX (F+2) v p=some (L8 c):=by
 obtain⟨g1,g2,g3⟩:=Ce h0 hd;rw[EX];unfold KN L8;rw[Bt h0 g3,CR h0 hd]
 cases k1:decide (c.fKind=1) with
 | true=>rw[AZ rfl];rfl
 | false=>
 rw[AJ rfl]
 cases k2:decide (c.fKind=2) with
 | true=>rw[AZ rfl];cases decide (c.fInt=1)<;>rfl
 | false=>
 rw[AJ rfl]
 cases k3:decide (c.fKind=3) with
 | true=>rw[AZ rfl,C5 hi];rfl
 | false=>
 rw[AJ rfl]
 cases k4:decide (c.fKind=4) with
 | true=>rw[AZ rfl,J5 hs hs2,Ba rfl];rfl
 | false=>
 have hgo:D3 (F+1) v p (EX (F+1)) [] (p+1) 0=some (.out (.go [])):=by
  unfold D3;rw[CR h0 hd,AJ hn]
 rw[AJ rfl,AU (by omega) (by omega),Ba (CZ (o:=.go []) hgo),Ic,Rw (CR h0 hd) (by simp)];simp only[Y2,Ti]
 cases decide (c.fKind=6)<;>rfl
end
section
variable {M : Nat} {v : List Aa}
theorem Dm {α:Type}[Inhabited α](a:α):ov (some a)=a:=rfl
theorem Uj {at_:Int}{k:Option Av}{r:List Aa}(h0:0≤at_)(hA:Dv M v){F:Nat}(hF:M<F)(hd:v.drop at_.toNat=Bx k++r):∀s,k=some s→(Ax v at_).fStr=s∧s.length<F∧s.length≤1152921504606846976:=λs e=>by
 subst e;have hd':v.drop at_.toNat=⟨4,0,s,0⟩::r:=by simpa[Bx] using hd
 have h1:=CR h0 hd';have h2:=(hA.hc _ (Y8 (Ce h0 hd').1)).1;have hM:=hA.hM;simp only at h2;exact⟨by rw[h1],by omega,by omega⟩
theorem Pm (hA:Dv M v):∀(g:Fo) (F L:Nat) (i at_ x:Int) (out:Av) (m:Bool) (last:Option Av) (ys:List Aa) (pc:Aa),Ax v i=pc→decide (pc.fKind=6)=m→pc.fN≤9223372036854775807→g.wf m last=true→v.drop at_.toNat=g.flat++ys→0≤at_→at_≤v.length→pc.fN=x+g.cnt→0≤x→(out++g.txt (decide (x=0))).length≤4611686018427387904→g.cnt<L→3*M+5+g.flat.length<F→
  ∃o,BG (λσ=>D3 F v i (EX F) σ.1 σ.2.1 σ.2.2) L (out,at_,x)=some o∧BE (λν=>Gy v i ν) o=some (Ti pc (out++g.txt (decide (x=0)))):=by
 have hM:=hA.hM;have hvM:=hA.hv;intro g
 induction g with
 | nil=>
  intro F L i at_ x out m last ys pc hpc hm hpN hw hd h0 h1 hN hx hlen hL hF;obtain⟨L,rfl⟩:∃K,L=K+1:=⟨L-1,by omega⟩
  have hgo:D3 F v i (EX F) out at_ x=some (.out (.go out)):=by
   simp only[Fo.cnt] at hN;unfold D3;rw[hpc,AJ (Yz (by omega))]
  refine⟨.go out,CZ hgo,?_⟩;simp only[Fo.txt,YY] at hlen ⊢;rw[Ic,Rw hpc hlen]
 | cell k c r ih=>
  intro F L i at_ x out m last ys pc hpc hm hpN hw hd h0 h1 hN hx hlen hL hF;simp only[Fo.wf,Y1,YB] at hw;obtain⟨⟨⟨w1,w2⟩,w3⟩,w4⟩:=hw;simp only[Fo.flat,YW,Zg] at hd;simp only[Fo.cnt] at hN hL;simp only[Fo.flat,Y4,Y0] at hF;obtain⟨L,rfl⟩:∃K,L=K+1:=⟨L-1,by omega⟩
  obtain⟨F,rfl⟩:∃K,F=K+2:=⟨F-2,by omega⟩
  have hd1:=CC h0 hd;have hkl:=Ks w1;obtain⟨g1,g2,g3⟩:=Ce (by omega) hd1;have hcM:=hA.hc c (Y8 g1);have hp:at_+(Bx k).length=bif m then at_+1 else at_:=by rw[hkl];cases m<;>simp
  have hq:=hA.next (F:=F+2) (by omega) (p:=at_+(Bx k).length) (by omega) (by omega);rw[KW (f:=.cell none c .nil) (ys:=r.flat++ys) rfl (LM w2 w3) hd1] at hq;have e:out++(Fo.cell k c r).txt (decide (x=0))=(out++(Gw (decide (x=0))++ML k++L8 c))++r.txt (decide (x+1=0)):=by
   rw[Yz (show ¬ x+1=0 by omega)];simp[Fo.txt]
  rw[e] at hlen ⊢;have hl2:((out++(Gw (decide (x=0))++ML k++L8 c)).length:Int)≤4611686018427387904:=by rw[Y4] at hlen;omega
  have hat:at_<v.length:=by omega
  have hb:=N9 hpc hm (by omega) hx hpN h0 hat (by omega) w1 (Uj h0 hA (F:=F+2) (by omega) hd) hp (M6 (F:=F) (by omega) (by omega) hd1 w2 w3 (by omega) (by omega) hcM.2.1) hq hl2;obtain⟨o,ho1,ho2⟩:=ih (F+2) L i (at_+(Bx k).length+((Fo.cell none c .nil).flat.length:Int)) (x+1) (out++(Gw (decide (x=0))++ML k++L8 c)) m k ys pc hpc hm hpN w4 (by rw[show(Fo.cell none c .nil).flat.length=1 from rfl];exact g2) (by omega) (by rw[show(Fo.cell none c .nil).flat.length=1 from rfl];omega) (by omega) (by omega) hlen (by omega) (by omega);exact⟨o,Ix hb ho1,ho2⟩
 | node k c kids r ihk ih=>
  intro F L i at_ x out m last ys pc hpc hm hpN hw hd h0 h1 hN hx hlen hL hF;simp only[Fo.wf,Y1,Yv] at hw;obtain⟨⟨⟨⟨⟨w1,w2⟩,w3⟩,w5⟩,w6⟩,w4⟩:=hw;simp only[Fo.flat,YW,Zg] at hd;simp only[Fo.cnt] at hN hL;simp only[Fo.flat,Y4,Y0] at hF;obtain⟨L,rfl⟩:∃K,L=K+1:=⟨L-1,by omega⟩
  obtain⟨F,rfl⟩:∃K,F=K+1:=⟨F-1,by omega⟩
  have hd1:=CC h0 hd;have hkl:=Ks w1;obtain⟨g1,g2,g3⟩:=Ce (by omega) hd1;have hcN:=(hA.hc c (Y8 g1)).2.2;have hp:at_+(Bx k).length=bif m then at_+1 else at_:=by rw[hkl];cases m<;>simp
  have hq:=hA.next (F:=F+1) (by omega) (p:=at_+(Bx k).length) (by omega) (by omega);have hfl:(Fo.node none c kids .nil).flat=c::kids.flat:=by simp[Fo.flat,Bx]
  rw[KW (f:=.node none c kids .nil) (ys:=r.flat++ys) rfl (LL w2 w3 w5 w6) (by rw[hd1,hfl];simp)] at hq;have hcf:=Ci kids;have hvl:(v.drop (at_+(Bx k).length+1).toNat).length=kids.flat.length+(r.flat.length+ys.length):=by rw[g2];simp
  rw[Zf] at hvl;have e:out++(Fo.node k c kids r).txt (decide (x=0))=(out++(Gw (decide (x=0))++ML k++Ti c (kids.txt true)))++r.txt (decide (x+1=0)):=by
   rw[Yz (show ¬ x+1=0 by omega)];simp[Fo.txt]
  rw[e] at hlen ⊢;have hl2:((out++(Gw (decide (x=0))++ML k++Ti c (kids.txt true))).length:Int)≤4611686018427387904:=by rw[Y4] at hlen;omega
  have hl3:(kids.txt true).length≤4611686018427387904:=by
   have:=Me c (kids.txt true);rw[Y4,Y4] at hl2;omega
  have hat:at_<v.length:=by omega
  have hrec:EX (F+1) v (at_+(Bx k).length)=some (Ti c (kids.txt true)):=by
   rw[EX];unfold KN;have ha:=(Kh w2 w3).1;rw[Bt (by omega) g3,CR (by omega) hd1,AJ (Yz (by omega)),AJ (Yz (by omega)),AJ (Yz (by omega)),AJ (Yz (by omega)),AU (by omega) (by omega)];obtain⟨o,ho1,ho2⟩:=ihk F F (at_+(Bx k).length) (at_+(Bx k).length+1) 0 [] _ none (r.flat++ys) c (CR (by omega) hd1) rfl hcN w6 (by rw[g2]) (by omega) (by omega) (by omega) (YE 0) hl3 (by omega) (by omega);rw[Ba ho1,ho2];rfl
  have hb:=N9 hpc hm (by omega) hx hpN h0 hat (by omega) w1 (Uj h0 hA (F:=F+1) (by omega) hd) hp hrec hq hl2;obtain⟨o,ho1,ho2⟩:=ih (F+1) L i (at_+(Bx k).length+((Fo.node none c kids .nil).flat.length:Int)) (x+1) (out++(Gw (decide (x=0))++ML k++Ti c (kids.txt true))) m k ys pc hpc hm hpN w4 (by
   have:=CC (by omega) g2;rw[hfl,Y0,show at_+(Bx k).length+((kids.flat.length+1:Nat):Int)=at_+(Bx k).length+1+kids.flat.length from by omega];exact this) (by omega) (by rw[hfl,Y0];omega) (by omega) (by omega) hlen (by omega) (by omega)
  exact⟨o,Ix hb ho1,ho2⟩
theorem TJ (hA:Dv M v){F:Nat}{p:Int}{f:Fo}{ys:List Aa}(h0:0≤p)(h1:f.one=true)(hw:f.wf false none=true)(hd:v.drop p.toNat=f.flat++ys)(hF:3*M+6+f.flat.length<F)(hlen:(f.txt true).length≤4611686018427387904):EX F v p=some (f.txt true):=by
 have hM:=hA.hM;have hvM:=hA.hv
 cases f with
 | nil=>cases h1
 | cell k c r=>
  cases k with
  | some s=>cases h1
  | none=>
   cases r with
   | nil=>
    simp only[Fo.wf,Y1,YB] at hw;obtain⟨F,rfl⟩:∃K,F=K+2:=⟨F-2,by omega⟩
    have hd':v.drop p.toNat=c::ys:=by simpa[Fo.flat,Bx] using hd
    have hcM:=hA.hc c (Y8 (Ce h0 hd').1);rw[M6 h0 (by have:=(Ce h0 hd').2.2;omega) hd' hw.1.1.2 hw.1.2 (by omega) (by omega) hcM.2.1];simp[Fo.txt,Gw,ML]
   | cell _ _ _=>cases h1
   | node _ _ _ _=>cases h1
 | node k c kids r=>
  cases k with
  | some s=>cases h1
  | none=>
   cases r with
   | nil=>
    simp only[Fo.wf,Y1,Yv] at hw;obtain⟨⟨⟨⟨⟨w1,w2⟩,w3⟩,w5⟩,w6⟩,w4⟩:=hw;have hd':v.drop p.toNat=c::(kids.flat++ys):=by simpa[Fo.flat,Bx] using hd
    obtain⟨g1,g2,g3⟩:=Ce h0 hd';have hcN:=(hA.hc c (Y8 g1)).2.2;have hcf:=Ci kids;simp only[Fo.flat,Bx,Zh,YY,Y0] at hF;have et:(Fo.node none c kids .nil).txt true=Ti c (kids.txt true):=by simp[Fo.txt,Gw,ML]
    rw[et] at hlen ⊢;have hbl:=Me c (kids.txt true);obtain⟨F,rfl⟩:∃K,F=K+1:=⟨F-1,by omega⟩
    rw[EX];unfold KN;have ha:=(Kh w2 w3).1;rw[Bt h0 g3,CR h0 hd',AJ (Yz (by omega)),AJ (Yz (by omega)),AJ (Yz (by omega)),AJ (Yz (by omega)),AU (by omega) (by omega)];obtain⟨o,ho1,ho2⟩:=Pm hA kids F F p (p+1) 0 [] _ none ys c (CR h0 hd') rfl hcN w6 g2 (by omega) (by omega) (by omega) (YE 0) (by show(kids.txt true).length≤_;omega) (by omega) (by omega);rw[Ba ho1,ho2];rfl
   | cell _ _ _=>cases h1
   | node _ _ _ _=>cases h1
theorem S0 {F:Nat}{K:Option Int}(hF:v.length<F)(hv:v.length≤1152921504606846976):Be (BG (λσ=>DH v σ) F 0) (BE λ_=>K)=bif v.any H4 then some 2 else K:=by
 obtain⟨o,h1,h2⟩:=If (body:=λσ=>DH v σ) (λx=>0≤x∧x≤(v.length:Int)∧(v.take x.toNat).any H4=false) (λx=>v.length-x.toNat)
  (λo=>BE (λ_=>K) o=bif v.any H4 then some 2 else K) (λx ⟨h0,hl,ha⟩=>by
   by_cases hx:x<(v.length:Int)
   ·obtain⟨c,hc⟩:∃c,v[x.toNat]? =some c:=⟨v[x.toNat]'(by omega),Y3 (by omega)⟩
    have hat:Ax v x=c:=by simp[Ax,hc]
    have ho:(decide (c.fKind=3)&&(decide (c.fInt<(-1000000000000))||decide (1000000000000<c.fInt)))=H4 c:=by
     unfold H4
     cases decide (c.fKind=3) with
     | false=>rfl
     | true=>
      rw[YC,YC,YD];simp only[YZ,Yv,YB,Zj,Yx];omega
    have hb:DH v x=AS (H4 c) (some (.out (.ret 2))) (some (.next (x+1))):=by
     unfold DH;rw[AZ (Y5 hx),Bt h0 hx,hat,ho,AU (by omega) (by omega)]
    cases hq:H4 c with
    | true=>
     refine .inr ⟨.ret 2,hb.trans (AZ hq),?_⟩;have:v.any H4=true:=List.any_eq_true.2 ⟨c,Y8 hc,hq⟩;rw[Kj,this];rfl
    | false=>
     have a3:(v.take (x+1).toNat).any H4=false:=by
      rw[show(x+1).toNat=x.toNat+1 from by omega,List.take_add_one,hc,List.any_append,ha];simp[hq]
     exact .inl ⟨x+1,hb.trans (AJ hq),⟨by omega,by omega,a3⟩,by omega⟩
   ·refine .inr ⟨.go (),by unfold DH;rw[AJ (Yz hx)],?_⟩;rw[show x.toNat=v.length from by omega,List.take_length] at ha;rw[Ic,ha];rfl) F 0 ⟨YE 0,by omega,by simp⟩ (by simpa using hF)
 rw[Ba h1,h2]
theorem Sz {F:Nat}{K:Option Int}(hF:v.length<F)(hv:v.length≤1152921504606846976):Be (BG (λσ=>DG v σ) F 0) (BE λ_=>K)=bif v.any EY then some 3 else K:=by
 obtain⟨o,h1,h2⟩:=If (body:=λσ=>DG v σ) (λx=>0≤x∧x≤(v.length:Int)∧(v.take x.toNat).any EY=false) (λx=>v.length-x.toNat)
  (λo=>BE (λ_=>K) o=bif v.any EY then some 3 else K) (λx ⟨h0,hl,ha⟩=>by
   by_cases hx:x<(v.length:Int)
   ·obtain⟨c,hc⟩:∃c,v[x.toNat]? =some c:=⟨v[x.toNat]'(by omega),Y3 (by omega)⟩
    have hat:Ax v x=c:=by simp[Ax,hc]
    have hb:DG v x=AS (EY c) (some (.out (.ret 3))) (some (.next (x+1))):=by
     unfold DG;rw[AZ (Y5 hx),Bt h0 hx,hat,AU (by omega) (by omega)];rfl
    cases hq:EY c with
    | true=>
     refine .inr ⟨.ret 3,hb.trans (AZ hq),?_⟩;have:v.any EY=true:=List.any_eq_true.2 ⟨c,Y8 hc,hq⟩;rw[Kj,this];rfl
    | false=>
     have a3:(v.take (x+1).toNat).any EY=false:=by
      rw[show(x+1).toNat=x.toNat+1 from by omega,List.take_add_one,hc,List.any_append,ha];simp[hq]
     exact .inl ⟨x+1,hb.trans (AJ hq),⟨by omega,by omega,a3⟩,by omega⟩
   ·refine .inr ⟨.go (),by unfold DG;rw[AJ (Yz hx)],?_⟩;rw[show x.toNat=v.length from by omega,List.take_length] at ha;rw[Ic,ha];rfl) F 0 ⟨YE 0,by omega,by simp⟩ (by simpa using hF)
 rw[Ba h1,h2]
theorem O3:decide (Iw v 0=v.length)=(whole v).isSome:=by
 unfold Iw whole;rw[show v.drop (0:Int).toNat=v from rfl]
 cases hp:H0 v with
 | none=>simp
 | some q=>
  obtain⟨f,ys⟩:=q;have h1:=(Jf hp).1;have hl:v.length=f.flat.length+ys.length:=by rw[h1];simp
  cases ys with
  | nil=>simp at hl ⊢;omega
  | cons c r=>simp at hl ⊢;omega
theorem E8 (hA:Dv M v)(hM:M≤1000000){F:Nat}(hF:4*M+6<F):D5 F v=some (CT v):=by
 have hvM:=hA.hv;unfold D5;rw[Q6 (hA.rf (Yy M)) (λc hc=>(hA.hc c hc).2.2) (by omega),Ba rfl,O3];unfold CT
 cases hwh:whole v with
 | none=>rfl
 | some f=>
  obtain⟨h1,h2,h3⟩:=Mm hwh;rw[AJ (p:=!(some f).isSome) rfl]
  change _=some (Nz f)
  have hl:v.length=f.flat.length:=by rw[h1]
  have hc:∀c∈f.flat,c.fStr.length≤M∧BB .i64 c.fInt=true∧c.fN≤9223372036854775807:=λc hc=>hA.hc c (by rw[h1];exact hc);have hb:=NR hM h2 (by omega) hc;have htl:((f.txt true).length:Int)=f.byt:=by rw[JY f false none true h2,Ov h3];simp
  have hd0:v.drop (0:Int).toNat=f.flat++[]:=by rw[YY];exact h1
  rw[S0 (by omega) (by omega)];unfold Nz Hx;rw[Q5 hA (YE 0) h3 h2 hd0 (by omega),C5 (by simp[imp]),Sz (by omega) (by omega)];unfold Hw;rw[TJ hA (YE 0) h3 h2 hd0 (by omega) (by omega),Ba rfl];rw[Dm,hl,← h1];have a1:decide ((200:Int)<(v.length:Int))=decide (200<v.length):=by rw[YD];simp;omega
  have a2:decide ((8:Int)<(f.dep:Int))=decide (8<f.dep):=by rw[YD];simp;omega
  have a3:decide ((4000:Int)<((f.txt true).length:Int))=decide (4000<(f.txt true).length):=by rw[YD];simp;omega
  rw[a1,a2,a3]
  cases v.any H4<;>cases v.any EY<;>cases decide (200<v.length)<;>cases decide (8<f.dep)<;>cases decide (4000<(f.txt true).length)<;>rfl
end
section
variable {M : Nat}
end
section
variable {M : Nat}
end
def TF (v:List Aa):Bool:=!decide (300<v.length)&&v.all λc=>!decide (300<c.fStr.length)
def KS (c:Aa):Bool:=BB .i64 c.fKind&&BB .i64 c.fInt&&R2 c.fStr&&BB .i64 c.fN
theorem Dv.of {v:List Aa}(hs:TF v=true)(hc:v.all KS=true):Dv 300 v:=by
 unfold TF at hs;simp only[Y1,YB,Yx,YU] at hs hc;refine⟨by decide,by omega,λc h=>?_⟩;obtain h1:=hs.2 c h;obtain h2:=hc c h;unfold KS at h2;simp only[Y1] at h2;exact⟨by omega,h2.1.1.2,(GO h2.2).2⟩
theorem QG (a:Bool):imp a true=true:=by cases a<;>rfl
section
variable {M : Nat}
end
theorem NO {α:Type}{n:Nat}{x:Option α}(h:n≤1000000000):AY (Ey 40 n) x=x:=C5 (Y5 (by omega))
theorem IV {α:Type}[Inhabited α]{l:List α}{x:Int}(h0:0≤x)(h:x<l.length):Ax l x∈l:=by
 have:l[x.toNat]? =some (l[x.toNat]'(by omega)):=Y3 (by omega);simp only[Ax,this,YN];exact List.getElem_mem _
open Go Go.RowKit
def Wy (a b:Int):Int:=bif decide (a<b) then -1 else bif decide (b<a) then 1 else 0
def OE:Option Av→Option Av→Int
 | some a,some b=>Lib.compareBytes a b
 | _,_=>0
def VT (c d:Aa)(kids:Int):Int:=
 bif !decide (c.fKind=d.fKind) then Wy c.fKind d.fKind
 else bif decide (c.fKind=4) then Lib.compareBytes c.fStr d.fStr
 else bif !decide (c.fKind=5)&&!decide (c.fKind=6) then Wy c.fInt d.fInt
 else bif !decide (kids=0) then kids else Wy c.fN d.fN
def L3 (a b:Int):Int:=bif !decide (a=0) then a else b
def Fo.cmp:Fo→Fo→Int
 | .cell k c r,.cell l d s=>L3 (OE k l) (L3 (VT c d 0) (r.cmp s))
 | .cell k c r,.node l d g s=>L3 (OE k l) (L3 (VT c d 0) (r.cmp s))
 | .node k c f r,.cell l d s=>L3 (OE k l) (L3 (VT c d 0) (r.cmp s))
 | .node k c f r,.node l d g s=>L3 (OE k l) (L3 (VT c d (f.cmp g)) (r.cmp s))
 | _,_=>0
theorem Pb (F:Nat)(a b:List Aa):N3 F a b=L5 F a b:=by
 have e:LQ F a b=L5 F a b:=rfl;unfold N3;rw[e]
 cases L5 F a b<;>rfl
def Fo.hd:Fo→Option (Option Av×Aa×Fo×Fo)
 | .nil=>none
 | .cell k c r=>some (k,c,.nil,r)
 | .node k c kids r=>some (k,c,kids,r)
structure Hd (m:Bool) (last:Option Av) (f:Fo) (k:Option Av) (c:Aa) (kids r:Fo):Prop where
 key:Cz m last k=true
 pl:pl c=true
 n:c.fN=kids.cnt
 kw:kids.wf (decide (c.fKind=6)) none=true
 rest:r.wf m k=true
 flat:f.flat=Bx k++c::(kids.flat++r.flat)
 cnt:f.cnt=r.cnt+1
theorem RA {m:Bool}{last:Option Av}{f:Fo}(hw:f.wf m last=true):(f = .nil)∨∃k c kids r,f.hd=some (k,c,kids,r)∧Hd m last f k c kids r:=by
 cases f with
 | nil=>exact .inl rfl
 | cell k c r=>
  simp only[Fo.wf,Y1,YB] at hw;obtain⟨⟨⟨w1,w2⟩,w3⟩,w4⟩:=hw;have:=TU w2;refine .inr ⟨k,c,.nil,r,rfl,w1,w2,?_,rfl,w4,by simp[Fo.flat],rfl⟩;simp at w3;simp[Fo.cnt];omega
 | node k c kids r=>
  simp only[Fo.wf,Y1,Yv] at hw;obtain⟨⟨⟨⟨⟨w1,w2⟩,w3⟩,w5⟩,w6⟩,w4⟩:=hw;exact .inr ⟨k,c,kids,r,rfl,w1,w2,w5,w6,w4,rfl,rfl⟩
section
variable {M : Nat} {a b : List Aa}
end
theorem QH {m:Bool}{last k:Option Av}{f kids r:Fo}{c:Aa}(hf:f.hd=some (k,c,kids,r))(hw:f.wf m last=true):∃f1:Fo,f1.one=true∧f1.wf false none=true∧f1.flat=c::kids.flat:=by
 cases f with
 | nil=>simp[Fo.hd] at hf
 | cell k' c' r'=>
  simp[Fo.hd] at hf;obtain⟨rfl,rfl,rfl,rfl⟩:=hf;simp only[Fo.wf,Y1,YB] at hw;obtain⟨⟨⟨w1,w2⟩,w3⟩,w4⟩:=hw;exact⟨.cell none c' .nil,rfl,LM w2 w3,rfl⟩
 | node k' c' kids' r'=>
  simp[Fo.hd] at hf;obtain⟨rfl,rfl,rfl,rfl⟩:=hf;simp only[Fo.wf,Y1,Yv] at hw;obtain⟨⟨⟨⟨⟨w1,w2⟩,w3⟩,w5⟩,w6⟩,w4⟩:=hw;exact⟨.node none c' kids' .nil,rfl,LL w2 w3 w5 w6,by simp[Fo.flat,Bx]⟩
section
variable {M : Nat} {a b : List Aa}
end
theorem UF {f:Fo}(h:f.cnt=0):f = .nil:=by
 cases f with
 | nil=>rfl
 | cell k c r=>simp[Fo.cnt] at h
 | node k c a r=>simp[Fo.cnt] at h
section
variable {M : Nat} {a b : List Aa}
theorem Hd.drop {v:List Aa}{m:Bool}{last k:Option Av}{f kids r:Fo}{c:Aa}{ys:List Aa}{p:Int}(H:Hd m last f k c kids r)(h0:0≤p)(hd:v.drop p.toNat=f.flat++ys) :
  v.drop (p+(Bx k).length).toNat=c::(kids.flat++(r.flat++ys))∧v.drop (p+(Bx k).length+1).toNat=kids.flat++(r.flat++ys)∧v.drop (p+(Bx k).length+((c::kids.flat).length:Int)).toNat=r.flat++ys∧(∀s,k=some s→(Ax v p).fStr=s)∧p<v.length:=by
 rw[H.flat] at hd;have hd2:v.drop p.toNat=Bx k++((c::kids.flat)++(r.flat++ys)):=by rw[hd];simp
 have hd1:=CC h0 hd2;refine⟨hd1,(Ce (by omega) hd1).2.1,CC (by omega) hd1,λs e=>?_,?_⟩
 ·subst e;have:v.drop p.toNat=⟨4,0,s,0⟩::((c::kids.flat)++(r.flat++ys)):=by simpa[Bx] using hd2
  rw[CR h0 this]
 ·have:=congrArg List.length hd2;rw[Zf] at this;simp only[Y4,Y0] at this;omega
end
theorem Ud {S O:Type}{body:S→Option (Stp S O)}{n:Nat}{s:S}(h:body s=none):BG body (n+1) s=none:=by rw[BG,h]
theorem ME {S O:Type}{body:S→Option (Stp S O)}{n:Nat}{s s':S}(h:body s=some (.next s')):BG body (n+1) s=BG body n s':=by rw[BG,h]
section
variable {S : Type}
def pB (F:Nat)(v:List Aa)(Y:Av→List Aa→S→Option (Bool×S))(p x:Int)(s:S):Option (Stp (Int×Int×S) (Out S S)):=
 AS (decide (x<((Ax v 0).fN))) (AS (decide (((Ax v 0).fKind)=6)) (AY (Cu p (v.length:Int))<|AY (BB .i64 (p+1))<|AY (EU (p+1) (v.length:Int))<|Be (E5 F (List.drop (Int.toNat (p+1)) v)) λq=>AY (BB .i64 ((p+1)+q.1))<|AY (EU (p+1) ((p+1)+q.1))<|AY (EU ((p+1)+q.1) (v.length:Int))<|Be (Y ((Ax v p).fStr) (List.take (Int.toNat ((p+1)+q.1)-Int.toNat (p+1)) (List.drop (Int.toNat (p+1)) v)) s) λr=>AS (!r.1) (some (.out (.ret r.2))) (AY (BB .i64 (x+1))<|some (.next ((p+1)+q.1,x+1,r.2)))) (AY (EU p (v.length:Int))<|Be (E5 F (List.drop (Int.toNat p) v)) λq=>AY (BB .i64 (p+q.1))<|AY (EU p (p+q.1))<|AY (EU (p+q.1) (v.length:Int))<|Be (Y ([]:Av) (List.take (Int.toNat (p+q.1)-Int.toNat p) (List.drop (Int.toNat p) v)) s) λr=>AS (!r.1) (some (.out (.ret r.2))) (AY (BB .i64 (x+1))<|some (.next (p+q.1,x+1,r.2))))) (some (.out (.go s)))
def DO:Option Av→Av
 | none=>[]
 | some s=>s
def Xr {T:Type}(y:Option (Bool×S))(go:S→Option T)(stop:S→Option T):Option T:=match y with
 | none=>none
 | some (b,s)=>bif b then go s else stop s
theorem MC {T:Type}{y:Option (Bool×S)}{go:S→Option T}{stop:S→Option T}{b:Bool}{s:S}(h:y=some (b,s)):Xr y go stop=bif b then go s else stop s:=by subst h;rfl
def Hc (Y:Av→List Aa→S→Option (Bool×S)):Fo→S→Option (Out S S)
 | .nil,s=>some (.go s)
 | .cell k c r,s=>Xr (Y (DO k) [c] s) (Hc Y r) (λs=>some (.ret s))
 | .node k c kids r,s=>Xr (Y (DO k) (c::kids.flat) s) (Hc Y r) (λs=>some (.ret s))
variable {Y : Av → List Aa → S → Option (Bool × S)}
theorem SH {f kids r:Fo}{k:Option Av}{c:Aa}{s:S}(h:f.hd=some (k,c,kids,r)):Hc Y f s=Xr (Y (DO k) (c::kids.flat) s) (Hc Y r) (λs=>some (.ret s)):=by
 cases f<;>simp[Fo.hd] at h<;>obtain⟨rfl,rfl,rfl,rfl⟩:=h<;>simp[Hc,Fo.flat]
section
variable {M : Nat} {v : List Aa}
theorem TX {F:Nat}{c:Aa}{p x:Int}{s:S}{k last:Option Av}{f1:Fo}{ys:List Aa}(hA:Dv M v)(hF:M<F)(hpc:Ax v 0=c)(hx:x<c.fN)(hx0:0≤x)(hcN:c.fN≤9223372036854775807)(h0:0≤p)(hk:Cz (decide (c.fKind=6)) last k=true)
  (hd:v.drop p.toNat=Bx k++(f1.flat++ys)) (h1:f1.one=true) (hw:f1.wf false none=true) :
  pB F v Y p x s=Xr (Y (DO k) f1.flat s) (λs'=>some (.next (p+(Bx k).length+f1.flat.length,x+1,s'))) (λs'=>some (.out (.ret s'))):=by
 have hM:=hA.hM;have hvM:=hA.hv;have hd1:=CC h0 hd;have hkl:=Ks hk;have hfl:=P1 h1;have hll:(v.drop (p+(Bx k).length).toNat).length=f1.flat.length+ys.length:=by rw[hd1];simp
 rw[Zf] at hll;have hlook:E5 F (v.drop (p+(Bx k).length).toNat)=some ((f1.flat.length:Int),f1.sh 0 M4,true):=P8 ((hA.drop _).lk hF) h1 hw hd1;have htake:List.take (Int.toNat (p+(Bx k).length+(f1.flat.length:Int))-Int.toNat (p+(Bx k).length)) (v.drop (p+(Bx k).length).toNat)=f1.flat:=by
  rw[hd1,show Int.toNat (p+(Bx k).length+(f1.flat.length:Int))-Int.toNat (p+(Bx k).length)=f1.flat.length from by omega,List.take_left]
 have hmono:0≤p+(Bx k).length+f1.flat.length:=by omega
 have fin:∀(y:Option (Bool×S)) (q:Int),(Be y λr=>AS (!r.1) (some (Stp.out (Out.ret r.2))) (AY (BB .i64 (x+1))<|some (.next (q,x+1,r.2))))=Xr y (λs'=>some (.next (q,x+1,s'))) (λs'=>some (Stp.out (Out.ret (V:=S) s'))):=λy q=>by
  cases y with
  | none=>rfl
  | some r=>
   obtain⟨b,s'⟩:=r;rw[Ba rfl,MC rfl]
   cases b with
   | false=>rfl
   | true=>rw[AJ (p:=!true) rfl,AU (by omega) (by omega)];rfl
 unfold pB;rw[hpc,AZ (Y5 hx)]
 cases hm:decide (c.fKind=6) with
 | true=>
  rw[hm] at hk hkl
  cases k with
  | none=>simp[Cz] at hk
  | some t=>
   have e1:((Bx (some t)).length:Int)=1:=rfl;rw[e1] at hlook htake hll hmono ⊢;have hats:(Ax v p).fStr=t:=by
    have:v.drop p.toNat=⟨4,0,t,0⟩::(f1.flat++ys):=by simpa[Bx] using hd
    rw[CR h0 this]
   have hin:p<v.length:=by omega
   rw[AZ rfl,Bt h0 hin,AU (by omega) (by omega),E2 (by omega) (by omega),hlook,Ba rfl,AU (by omega) (by omega),E2 (by omega) (by omega),E2 (by omega) (by omega),htake,hats,fin];rfl
 | false=>
  rw[hm] at hk hkl
  cases k with
  | some t=>simp[Cz] at hk
  | none=>
   have e1:((Bx none).length:Int)=0:=rfl;rw[e1,Int.add_zero] at hlook htake hll hmono ⊢;rw[AJ rfl,E2 (by omega) (by omega),hlook,Ba rfl,AU (by omega) (by omega),E2 (by omega) (by omega),E2 (by omega) (by omega),htake,fin];rfl
theorem S4 {F:Nat}{c:Aa}(hA:Dv M v)(hF:M<F)(hpc:Ax v 0=c)(hcN:c.fN≤9223372036854775807):∀(n:Nat) (f:Fo) (L:Nat) (p x:Int) (s:S) (last:Option Av) (ys:List Aa),f.flat.length<n→f.wf (decide (c.fKind=6)) last=true→v.drop p.toNat=f.flat++ys→0≤p→c.fN=x+f.cnt→0≤x→f.cnt<L→
  BG (λσ=>pB F v Y σ.1 σ.2.1 σ.2.2) L (p,x,s)=Hc Y f s:=by
 intro n
 induction n with
 | zero=>intro f L p x s last ys h;omega
 | succ n ih=>
  intro f L p x s last ys hn hw hd h0 hN hx hL;obtain⟨L,rfl⟩:∃K,L=K+1:=⟨L-1,by omega⟩
  rcases RA hw with rfl | ⟨k,d,kf,r,hf,Hf⟩
  ·have hx' : ¬ x<c.fN:=by simp only[Fo.cnt] at hN;omega
   refine CZ ?_;show pB F v Y p x s=_;unfold pB;rw[hpc,AJ (Yz hx')]
  ·obtain⟨a1,a2,a3,a4,a5⟩:=Hf.drop h0 hd;obtain⟨f1,o1,w1,e1⟩:=QH hf hw;have cf:=Hf.cnt;have lf:=congrArg List.length Hf.flat;simp only[Y4,Y0] at lf;have hd2:v.drop p.toNat=Bx k++(f1.flat++(r.flat++ys)):=by rw[hd,Hf.flat,e1];simp
   have hb:=TX (Y:=Y) (s:=s) hA hF hpc (x:=x) (by omega) hx hcN h0 Hf.key hd2 o1 w1;rw[SH hf]
   cases hy:Y (DO k) (d::kf.flat) s with
   | none=>
    rw[e1,hy] at hb;exact Ud hb
   | some q=>
    obtain⟨b,s'⟩:=q;rw[e1,hy] at hb
    cases b with
    | false=>exact CZ hb
    | true=>exact(ME hb).trans (ih r L _ (x+1) s' k ys (by omega) Hf.rest a3 (by omega) (by omega) (by omega) (by omega))
theorem TW {F:Nat}{c:Aa}{f:Fo}(hA:Dv M v)(hF:M<F)(hv:v=c::f.flat)(hn:c.fN=f.cnt)(hw:f.wf (decide (c.fKind=6)) none=true)(s:S):BG (λσ=>pB F v Y σ.1 σ.2.1 σ.2.2) F (1,0,s)=Hc Y f s:=by
 have hvM:=hA.hv;have hl:v.length=f.flat.length+1:=by rw[hv];simp
 have hcf:=Ci f;exact S4 hA hF (by rw[hv];rfl) (hA.hc c (by rw[hv];simp)).2.2 (f.flat.length+1) f F 1 0 s none [] (by omega) hw (by rw[hv];simp) (by decide) (by omega) (YE 0) (by omega)
end
end
def Fo.keys:Fo→List Av
 | .nil=>[]
 | .cell k _ r=>DO k::r.keys
 | .node k _ _ r=>DO k::r.keys
def Fo.vals:Fo→List (List Aa)
 | .nil=>[]
 | .cell _ c r=>[c]::r.vals
 | .node _ c kids r=>(c::kids.flat)::r.vals
theorem Wj {f kids r:Fo}{k:Option Av}{c:Aa}(h:f.hd=some (k,c,kids,r)):f.keys=DO k::r.keys∧f.vals=(c::kids.flat)::r.vals:=by
 cases f<;>simp[Fo.hd] at h<;>obtain⟨rfl,rfl,rfl,rfl⟩:=h<;>simp[Fo.keys,Fo.vals,Fo.flat]
theorem Oz:∀f:Fo,f.keys.length=f.cnt∧f.vals.length=f.cnt
 | .nil=>⟨rfl,rfl⟩
 | .cell k c r=>by simp[Fo.keys,Fo.vals,Fo.cnt,Oz r]
 | .node k c kids r=>by simp[Fo.keys,Fo.vals,Fo.cnt,Oz r]
theorem SX {α:Type}{n:Nat}{x:Option α}(h:n≤1000000001):AY (Ey 16 n) x=x:=C5 (Y5 (by omega))
theorem NP {α:Type}{n:Nat}{x:Option α}(h:n≤1000000001):AY (Ey 24 n) x=x:=C5 (Y5 (by omega))
structure Yj (M:Nat) (c:Aa) (kf:Fo):Prop where
 pl:pl c=true
 n:c.fN=kf.cnt
 wf:kf.wf (decide (c.fKind=6)) none=true
 ck:Dv M (c::kf.flat)
section
variable {M : Nat}
theorem Dv.sub {a b:List Aa}(h:Dv M a)(hl:b.length≤a.length)(hm:∀x∈b,x∈a):Dv M b:=⟨h.hM,by have:=h.hv;omega,λc hc=>h.hc c (hm c hc)⟩
theorem Hd.v {m:Bool}{last k:Option Av}{f kids r:Fo}{c:Aa}(H:Hd m last f k c kids r)(hA:Dv M f.flat):Yj M c kids∧Dv M r.flat:=by
 have e:=H.flat;have l:=congrArg List.length e;simp only[Y4,Y0] at l;refine⟨⟨H.pl,H.n,H.kw,hA.sub (by simp only[Y0];omega) (λx hx=>?_)⟩,hA.sub (by omega) (λx hx=>?_)⟩
 ·rw[e];simp only[List.mem_append,Zd] at hx ⊢;rcases hx with hx | hx
  ·exact .inr (.inl hx)
  ·exact .inr (.inr (.inl hx))
 ·rw[e];simp only[List.mem_append,Zd];exact .inr (.inr (.inr hx))
theorem Iq {α:Type}[Inhabited α](a b:List α)(x:α){i:Int}(h:i=(a.length:Int)):Ax (a++x::b) i=x:=by subst h;simp[Ax]
theorem Wz {f:Fo}(h1:f.one=true)(hw:f.wf false none=true)(hA:Dv M f.flat):∃c kf,f.flat=c::kf.flat∧f.hd=some (none,c,kf,.nil)∧Yj M c kf:=by
 rcases RA hw with h | ⟨k,c,kf,r,hf,Hf⟩
 ·subst h;cases h1
 have cf:=Hf.cnt;rw[Ov h1] at cf;obtain rfl:=UF (f:=r) (by omega);have hk:k=none:=by
  have:=Hf.key
  cases k with
  | none=>rfl
  | some _=>simp[Cz] at this
 subst hk;exact⟨c,kf,by rw[Hf.flat];simp[Bx,Fo.flat],hf,(Hf.v hA).1⟩
variable {a b : List Aa}
end
def W0 {α:Type}(v:List Aa)(bad:Int→α)(good:Aa→Fo→α):α:=bif !decide (CT v=0) then bad (CT v) else match whole v with
 | some f=>(match f.hd with
  | some (_,c,kf,_)=>good c kf
  | none=>bad 1)
 | none=>bad 1
structure XX (M:Nat) (v:List Aa) (c:Aa) (kf:Fo):Prop where
 e:v=c::kf.flat
 vok:Yj M c kf
 ok:CT v=0
 on:∀(α:Type) (bad:Int→α) (good:Aa→Fo→α),W0 v bad good=good c kf
 f:∃f:Fo,whole v=some f∧f.one=true∧f.wf false none=true∧f.hd=some (none,c,kf,.nil)∧Nz f=0
theorem DP {M:Nat}{v:List Aa}(hA:Dv M v):(¬ CT v=0∧∀(α:Type) (bad:Int→α) (good:Aa→Fo→α),W0 v bad good=bad (CT v))∨∃c kf,XX M v c kf:=by
 by_cases h:CT v=0
 ·refine .inr ?_;have h':=h;unfold CT at h
  cases hw:whole v with
  | none=>rw[hw] at h;cases h
  | some f=>
   rw[hw] at h;obtain⟨x1,x2,x3⟩:=Mm hw;subst x1;obtain⟨c,kf,e1,e2,e3⟩:=Wz x3 x2 hA;refine⟨c,kf,e1,e3,h',λα bad good=>?_,f,hw,x3,x2,e2,h⟩;unfold W0;rw[Y5 h',hw];simp only[e2];rfl
 ·refine .inl ⟨h,λα bad good=>?_⟩;unfold W0;rw[Yz h];rfl
def Fo.find (key:Av):Fo→Option (List Aa)
 | .nil=>none
 | .cell k c r=>bif decide (DO k=key) then some [c] else r.find key
 | .node k c kids r=>bif decide (DO k=key) then some (c::kids.flat) else r.find key
def Ui (v:List Aa):List Av×Int:=W0 v (λe=>([],e)) λc kf=>bif !decide (c.fKind=6) then([],7) else(kf.keys,0)
def QF (v:List Aa):List (List Aa)×Int:=W0 v (λe=>([],e)) λc kf=>bif (!decide (c.fKind=5)&&!decide (c.fKind=6)) then([],7) else(kf.vals,0)
def EA (v:List Aa)(key:Av):List Aa×Int:=W0 v (λe=>([],e)) λc kf=>bif !decide (c.fKind=6) then([],7) else(match kf.find key with
 | some x=>(x,0)
 | none=>([],5))
theorem Lk {x:List Aa}(h:x.length≤1000000000):JD x=some x:=by
 unfold JD;rw[NO (by simp;omega)];rfl
theorem JA (key:Av):∀(g:Fo),g.flat.length≤1000000000→Hc (λk x s=>I8 k x key s) g []=some (match g.find key with
  | some x=>.ret x
  | none=>.go [])
 | .nil,_=>rfl
 | .cell k c r,h1=>by
  simp only[Fo.flat,Y4,Y0] at h1;have:I8 (DO k) [c] key []=some (!decide (DO k=key),bif decide (DO k=key) then[c] else[]):=by
   unfold I8
   cases decide (DO k=key) with
   | true=>rw[AZ rfl,Lk (by simp),Ba rfl,C5 (by simp)];rfl
   | false=>rfl
  rw[Hc,MC this,Fo.find]
  cases decide (DO k=key) with
  | true=>rfl
  | false=>exact JA key r (by omega)
 | .node k c kids r,h1=>by
  simp only[Fo.flat,Y4,Y0] at h1;have:I8 (DO k) (c::kids.flat) key []=some (!decide (DO k=key),bif decide (DO k=key) then c::kids.flat else[]):=by
   unfold I8
   cases decide (DO k=key) with
   | true=>rw[AZ rfl,Lk (by simp;omega),Ba rfl,C5 (by simp)];rfl
   | false=>rfl
  rw[Hc,MC this,Fo.find]
  cases decide (DO k=key) with
  | true=>rfl
  | false=>exact JA key r (by omega)
theorem KC (key:Av):∀(g:Fo) (x:List Aa),g.find key=some x→0<x.length∧x.length≤g.flat.length∧∀y∈x,y∈g.flat
 | .nil,x,h=>by cases h
 | .cell k c r,x,h=>by
  rw[Fo.find] at h
  cases hk:decide (DO k=key) with
  | true=>rw[hk] at h;cases h;simp[Fo.flat];omega
  | false=>
   rw[hk] at h;obtain⟨a,b,c'⟩:=KC key r x h;refine⟨a,by simp[Fo.flat];omega,λy hy=>?_⟩;simp[Fo.flat,c' y hy]
 | .node k c kids r,x,h=>by
  rw[Fo.find] at h
  cases hk:decide (DO k=key) with
  | true=>
   rw[hk] at h;cases h;refine⟨by simp,by simp[Fo.flat];omega,λy hy=>?_⟩;simp only[Zd] at hy;simp only[Fo.flat,List.mem_append,Zd];rcases hy with hy | hy
   ·exact .inr (.inl hy)
   ·exact .inr (.inr (.inl hy))
  | false=>
   rw[hk] at h;obtain⟨a,b,c'⟩:=KC key r x h;refine⟨a,by simp[Fo.flat];omega,λy hy=>?_⟩;simp[Fo.flat,c' y hy]
section
variable {M : Nat} {v : List Aa}
theorem Vo (hA:Dv M v)(hM:M≤1000000){F:Nat}(hF:M<F)(key:Av):T9 F v key=some (EA v key):=by
 have hvM:=hA.hv;unfold T9 EA;rw[Gg hA hM hF,Ba rfl];rcases DP hA with⟨h,on⟩ | ⟨c,kf,V⟩
 ·rw[Yz h,AZ (p:=!false) rfl,on]
 ·obtain⟨e,v1,ok,on,_⟩:=V;rw[on,ok,AJ (by rfl)];have hl:v.length=kf.flat.length+1:=by rw[e];simp
  rw[Bt (YE 0) (by omega),show Ax v 0=c by rw[e];rfl]
  cases h6:decide (c.fKind=6) with
  | false=>rfl
  | true=>
   rw[AJ (p:=!true) rfl];have hp:=TW (Y:=λk x s=>I8 k x key s) (F:=F) hA hF e v1.n v1.wf [];rw[JA key kf (by omega)] at hp;have eB:(λ(σ:Int×Int×List Aa)=>I7 F v key σ.1 σ.2.1 σ.2.2)=λσ=>pB F v (λk x s=>I8 k x key s) σ.1 σ.2.1 σ.2.2:=rfl;have hP:Pe F v key []=some ((kf.find key).getD []):=by
    unfold Pe;rw[Bt (YE 0) (by omega),eB,Ba hp]
    cases kf.find key<;>rfl
   rw[hP,Ba rfl]
   cases hf:kf.find key with
   | none=>rfl
   | some x=>
    obtain⟨a,_,_⟩:=KC key kf x hf
    cases x with
    | nil=>cases a
    | cons y r=>rfl
theorem Pp {F:Nat}{a b:Int}(h0:0≤a)(hab:a≤b)(hb:b≤v.length)(hl:v.length≤100000000)(hF:v.length<F):Kd F v a b=some ((v.drop a.toNat).take (b-a).toNat):=by
 obtain⟨o,h1,h2⟩:=If (body:=λσ=>Ev v b σ.1 σ.2) (λσ=>a≤σ.2∧σ.2≤b∧σ.1=(v.drop a.toNat).take (σ.2-a).toNat) (λσ=>(b-σ.2).toNat)
  (λo=>BE (λν=>Ht ν) o=some ((v.drop a.toNat).take (b-a).toNat)) (λσ ⟨h3,h4,h5⟩=>by
   obtain⟨out,i⟩:=σ;simp only at h3 h4 h5;show(∃s',Ev v b out i=_∧_)∨∃o,Ev v b out i=_∧_;have hol:out.length≤v.length:=by rw[h5,List.length_take,Zf];omega
   by_cases hx:i<b
   ·obtain⟨c,hc⟩:∃c,v[i.toNat]? =some c:=⟨v[i.toNat]'(by omega),Y3 (by omega)⟩
    have hat:Ax v i=c:=by simp[Ax,hc]
    have e:out++[c]=(v.drop a.toNat).take (i+1-a).toNat:=by
     rw[show(i+1-a).toNat=(i-a).toNat+1 from by omega,List.take_add_one,h5,List.getElem?_drop,show a.toNat+(i-a).toNat=i.toNat from by omega,hc];rfl
    have a1:a≤i+1:=by omega
    have a2:i+1≤b:=by omega
    have a3:(b-(i+1)).toNat<(b-i).toNat:=by omega
    refine .inl ⟨(out++[c],i+1),?_,⟨a1,a2,e⟩,a3⟩;unfold Ev;rw[AZ (Y5 hx),Bt (by omega) (by omega),hat,NO (by rw[YI];omega),AU (by omega) (by omega)]
   ·have e:i=b:=by omega
    refine .inr ⟨.go out,?_,?_⟩
    ·unfold Ev;rw[AJ (Yz hx)]
    ·rw[Ic];unfold Ht;rw[h5,e]) F ([],a) ⟨YE a,hab,by show[]=_;rw[show(a-a).toNat=0 from by omega];rfl⟩ (by show(b-a).toNat<F;omega)
 unfold Kd;rw[Ba h1,h2]
theorem Oo {F:Nat}(hA:Dv M v){c:Aa}(hc:Ax v 0=c)(h6:c.fKind=6)(hcN:c.fN≤9223372036854775807)(hF:3*M+3<F):∀(n:Nat) (f:Fo) (L:Nat) (out:List Av) (p x:Int) (last:Option Av) (ys:List Aa),f.flat.length<n→f.wf true last=true→v.drop p.toNat=f.flat++ys→0≤p→c.fN=x+f.cnt→0≤x→f.cnt<L→out.length+f.cnt≤1000000000→
  BG (λσ=>Ew F v σ.1 σ.2.1 σ.2.2) L (out,p,x)=some (.go (out++f.keys)):=by
 have hM:=hA.hM;have hvM:=hA.hv;intro n
 induction n with
 | zero=>intro f L out p x last ys h;omega
 | succ n ih=>
  intro f L out p x last ys hn hw hd h0 hN hx hL hol;obtain⟨L,rfl⟩:∃K,L=K+1:=⟨L-1,by omega⟩
  rcases RA hw with rfl | ⟨k,d,kf,r,hf,Hf⟩
  ·have hx' : ¬ x<c.fN:=by simp only[Fo.cnt] at hN;omega
   have hb:Ew F v out p x=some (.out (.go out)):=by unfold Ew;rw[hc,AJ (Yz hx')]
   rw[show out++Fo.nil.keys=out by simp[Fo.keys]];exact CZ hb
  ·obtain⟨a1,a2,a3,a4,a5⟩:=Hf.drop h0 hd;obtain⟨f1,o1,w1,e1⟩:=QH hf hw;have cf:=Hf.cnt;have lf:=congrArg List.length Hf.flat;simp only[Y4,Y0] at lf;have hk:=Hf.key
   cases k with
   | none=>simp[Cz] at hk
   | some s=>
    have e2:((Bx (some s)).length:Int)=1:=rfl;rw[e2] at a1 a3;have g3:=(Ce (by omega) a1).2.2;have na:=hA.next (F:=F) hF (p:=p+1) (by omega) (by omega);rw[KW o1 w1 (by rw[a1,e1];rfl),e1] at na;have hb:Ew F v out p x=some (.next (out++[s],p+1+((d::kf.flat).length:Int),x+1)):=by
     unfold Ew;rw[hc,AZ (Y5 (by omega)),Bt h0 a5,a4 s rfl,SX (by rw[YI];omega),AU (by omega) (by omega),na,Ba rfl,AU (by omega) (by omega)]
    have:=ih r L (out++[s]) _ (x+1) (some s) ys (by omega) Hf.rest a3 (by omega) (by omega) (by omega) (by omega) (by simp;omega);rw[(Wj hf).1,show out++DO (some s)::r.keys=(out++[s])++r.keys by simp[DO]];exact(ME hb).trans this
theorem Ns {F:Nat}(hA:Dv M v)(hM6:M≤1000000){c:Aa}(hc:Ax v 0=c)(hcN:c.fN≤9223372036854775807)(hF:3*M+3<F):∀(n:Nat) (f:Fo) (L:Nat) (out:List (List Aa)) (p x:Int) (last:Option Av) (ys:List Aa),f.flat.length<n→f.wf (decide (c.fKind=6)) last=true→v.drop p.toNat=f.flat++ys→0≤p→c.fN=x+f.cnt→0≤x→f.cnt<L→out.length+f.cnt≤1000000000→
  BG (λσ=>DE F v σ.1 σ.2.1 σ.2.2) L (out,p,x)=some (.go (out++f.vals)):=by
 have hM:=hA.hM;have hvM:=hA.hv;intro n
 induction n with
 | zero=>intro f L out p x last ys h;omega
 | succ n ih=>
  intro f L out p x last ys hn hw hd h0 hN hx hL hol;obtain⟨L,rfl⟩:∃K,L=K+1:=⟨L-1,by omega⟩
  rcases RA hw with rfl | ⟨k,d,kf,r,hf,Hf⟩
  ·have hx' : ¬ x<c.fN:=by simp only[Fo.cnt] at hN;omega
   have hb:DE F v out p x=some (.out (.go out)):=by unfold DE;rw[hc,AJ (Yz hx')]
   rw[show out++Fo.nil.vals=out by simp[Fo.vals]];exact CZ hb
  ·obtain⟨a1,a2,a3,a4,a5⟩:=Hf.drop h0 hd;obtain⟨f1,o1,w1,e1⟩:=QH hf hw;have cf:=Hf.cnt;have lf:=congrArg List.length Hf.flat;simp only[Y4,Y0] at lf;have hk:=Hf.key;have g3:=(Ce (by omega) a1).2.2;have na:=hA.next (F:=F) hF (p:=p+(Bx k).length) (by omega) (by omega);rw[KW o1 w1 (by rw[a1,e1];rfl),e1] at na;have hll:=congrArg List.length a1;rw[Zf] at hll;simp only[Y0,Y4] at hll;have hpart:Kd F v (p+(Bx k).length) (p+(Bx k).length+((d::kf.flat).length:Int))=some (d::kf.flat):=by
    rw[Pp (by omega) (by omega) (by simp only[Y0];omega) (by omega) (by omega),a1,show(p+((Bx k).length:Int)+((d::kf.flat).length:Int)-(p+((Bx k).length:Int))).toNat=(d::kf.flat).length from by omega,← Zg,List.take_left]
   have hb:DE F v out p x=some (.next (out++[d::kf.flat],p+(Bx k).length+((d::kf.flat).length:Int),x+1)):=by
    unfold DE;rw[hc,AZ (Y5 (by omega))]
    cases hm:decide (c.fKind=6) with
    | true=>
     rw[hm] at hk
     cases k with
     | none=>simp[Cz] at hk
     | some s=>
      have e2:((Bx (some s)).length:Int)=1:=rfl;rw[e2] at na hpart ⊢;rw[AZ rfl,AU (by omega) (by omega),na,Ba rfl,hpart,Ba rfl,NP (by rw[YI];omega),AU (by omega) (by omega)]
    | false=>
     rw[hm] at hk
     cases k with
     | some s=>simp[Cz] at hk
     | none=>
      have e2:((Bx none).length:Int)=0:=rfl;rw[e2,Int.add_zero] at na hpart ⊢;rw[AJ rfl,na,Ba rfl,hpart,Ba rfl,NP (by rw[YI];omega),AU (by omega) (by omega)]
   have:=ih r L (out++[d::kf.flat]) _ (x+1) k ys (by omega) Hf.rest a3 (by omega) (by omega) (by omega) (by omega) (by simp;omega);rw[(Wj hf).2,show out++(d::kf.flat)::r.vals=(out++[d::kf.flat])++r.vals by simp];exact(ME hb).trans this
theorem TN (hA:Dv M v)(hM:M≤1000000){F:Nat}(hF:4*M+6<F):Ps F v=some (Ui v):=by
 have hvM:=hA.hv;unfold Ps Ui;rw[E8 hA hM hF,Ba rfl];rcases DP hA with⟨h,on⟩ | ⟨c,kf,V⟩
 ·rw[Yz h,AZ (p:=!false) rfl,on]
 ·obtain⟨e,v1,ok,on,_⟩:=V;rw[on,ok,AJ (by rfl)];have hl:v.length=kf.flat.length+1:=by rw[e];simp
  have hcf:=Ci kf;have hat:Ax v 0=c:=by rw[e];rfl
  rw[Bt (YE 0) (by omega),hat]
  cases h6:decide (c.fKind=6) with
  | false=>rfl
  | true=>
   rw[AJ (p:=!true) rfl];have hw:=v1.wf;rw[h6] at hw;have hp:=Oo hA hat (YH h6) (v1.ck.hc c (by simp)).2.2 (F:=F) (by omega) (kf.flat.length+1) kf F [] 1 0 none [] (by omega) hw (by rw[e];simp) (by decide) (by rw[v1.n];omega) (YE 0) (by omega) (by simp;omega);rw[Ba hp];rfl
theorem Sv (hA:Dv M v)(hM:M≤1000000){F:Nat}(hF:4*M+6<F):M8 F v=some (QF v):=by
 have hvM:=hA.hv;unfold M8 QF;rw[E8 hA hM hF,Ba rfl];rcases DP hA with⟨h,on⟩ | ⟨c,kf,V⟩
 ·rw[Yz h,AZ (p:=!false) rfl,on]
 ·obtain⟨e,v1,ok,on,_⟩:=V;rw[on,ok,AJ (by rfl)];have hl:v.length=kf.flat.length+1:=by rw[e];simp
  have hcf:=Ci kf;have hat:Ax v 0=c:=by rw[e];rfl
  rw[Bt (YE 0) (by omega),hat]
  cases h6:(!decide (c.fKind=5)&&!decide (c.fKind=6)) with
  | true=>rfl
  | false=>
   rw[AJ rfl];have hp:=Ns hA hM hat (v1.ck.hc c (by simp)).2.2 (F:=F) (by omega) (kf.flat.length+1) kf F [] 1 0 none [] (by omega) v1.wf (by rw[e];simp) (by decide) (by rw[v1.n];omega) (YE 0) (by omega) (by simp;omega);rw[Ba hp];rfl
theorem TQ {key:Av}{r1:List Av×Int}{r7:List (List Aa)×Int}:∀(f:Fo) (L:Nat) (x:Int) (pk:List Av) (pv:List (List Aa)),r1.1=pk++f.keys→r7.1=pv++f.vals→x=(pk.length:Int)→x=(pv.length:Int)→f.cnt<L→x+f.cnt≤1000000000→
  BG (λσ=>GK key r1 r7 σ) L x=some (match f.find key with
   | some y=>.ret (y,0)
   | none=>.go ()):=by
 intro f;have step:∀(k:Option Av) (y:List Aa) (r:Fo) (L:Nat) (x:Int) (pk:List Av) (pv:List (List Aa)),r1.1=pk++DO k::r.keys→r7.1=pv++y::r.vals→x=(pk.length:Int)→x=(pv.length:Int)→x+(r.cnt+1)≤1000000000→GK key r1 r7 x=some (bif decide (DO k=key) then .out (.ret (y,0)) else .next (x+1)):=λk y r L x pk pv e1 e2 h1 h2 hb=>by
  have l1:(r1.1.length:Int)=x+1+r.cnt:=by rw[e1,Y4,Y0,(Oz r).1];omega
  have l2:(r7.1.length:Int)=x+1+r.cnt:=by rw[e2,Y4,Y0,(Oz r).2];omega
  unfold GK;rw[l1,l2,AZ (Y5 (by omega)),Bt (by omega) (by omega),e1,e2,Iq pk _ _ h1,Iq pv _ _ h2,Bt (by omega) (by omega),AU (by omega) (by omega)]
  cases decide (DO k=key)<;>rfl
 induction f with
 | nil=>
  intro L x pk pv e1 e2 h1 h2 hL hb;obtain⟨L,rfl⟩:∃K,L=K+1:=⟨L-1,by omega⟩
  refine CZ (o:=(Out.go ():Out (List Aa×Int) Unit)) ?_;unfold GK;rw[AJ (Yz ?_)];rw[e1];simp[Fo.keys];omega
 | cell k c r ih=>
  intro L x pk pv e1 e2 h1 h2 hL hb;simp only[Fo.cnt] at hL hb;obtain⟨L,rfl⟩:∃K,L=K+1:=⟨L-1,by omega⟩
  have hs:=step k [c] r L x pk pv e1 e2 h1 h2 (by omega);rw[Fo.find]
  cases hk:decide (DO k=key) with
  | true=>rw[hk] at hs;exact CZ hs
  | false=>
   rw[hk] at hs;exact(ME hs).trans (ih L (x+1) (pk++[DO k]) (pv++[[c]]) (by rw[e1];simp[Fo.keys]) (by rw[e2];simp[Fo.vals]) (by simp;omega) (by simp;omega) (by omega) (by omega))
 | node k c kids r _ ih=>
  intro L x pk pv e1 e2 h1 h2 hL hb;simp only[Fo.cnt] at hL hb;obtain⟨L,rfl⟩:∃K,L=K+1:=⟨L-1,by omega⟩
  have hs:=step k (c::kids.flat) r L x pk pv e1 e2 h1 h2 (by omega);rw[Fo.find]
  cases hk:decide (DO k=key) with
  | true=>rw[hk] at hs;exact CZ hs
  | false=>
   rw[hk] at hs;exact(ME hs).trans (ih L (x+1) (pk++[DO k]) (pv++[c::kids.flat]) (by rw[e1];simp[Fo.keys]) (by rw[e2];simp[Fo.vals]) (by simp;omega) (by simp;omega) (by omega) (by omega))
theorem Vy (hA:Dv M v)(hM:M≤1000000){F:Nat}(hF:4*M+6<F)(key:Av):TR F v key=some (EA v key):=by
 have hvM:=hA.hv;unfold TR;rw[TN hA hM hF,Ba rfl,Sv hA hM hF];unfold Ui QF EA;rcases DP hA with⟨h,on⟩ | ⟨c,kf,V⟩
 ·rw[on,on,on,AZ (by simp[h])]
 ·obtain⟨e,v1,ok,on,_⟩:=V;rw[on,on,on];have hl:v.length=kf.flat.length+1:=by rw[e];simp
  have hcf:=Ci kf
  cases h6:decide (c.fKind=6) with
  | false=>rfl
  | true=>
   have h5:decide (c.fKind=5)=false:=Yz (by have:=YH h6;omega);rw[h5];simp only[YA,YK,Y2];rw[AJ (by rfl),Ba rfl,Ba (TQ (key:=key) kf F 0 [] [] rfl rfl rfl rfl (by omega) (by omega))]
   cases kf.find key<;>rfl
theorem Ma (hA:Dv M v)(key:Av):Dv M (EA v key).1:=by
 have hn:Dv M []:=⟨hA.hM,Za _,λc hc=>by cases hc⟩
 unfold EA;rcases DP hA with⟨h,on⟩ | ⟨c,kf,V⟩
 ·rw[on];exact hn
 ·obtain⟨e,v1,ok,on,_⟩:=V;rw[on]
  cases decide (c.fKind=6) with
  | false=>exact hn
  | true=>
   cases hf:kf.find key with
   | none=>exact hn
   | some x=>
    obtain⟨a,b,d⟩:=KC key kf x hf;refine hA.sub (by rw[e];show x.length≤_;simp only[Y0];omega) (λy hy=>?_);rw[e];exact List.mem_cons_of_mem _ (d y hy)
end
def IF:List Av→List Aa→List Aa×Int
 | [],out=>(out,0)
 | k::ks,out=>bif !decide ((EA out k).2=0) then([],(EA out k).2) else IF ks (EA out k).1
def H3 (v:List Aa)(path:List Av):List Aa×Int:=bif !decide (CT v=0) then([],CT v) else IF path v
def Qd (v:List Aa):List Aa×Int:=bif !decide (CT v=0) then([],CT v) else(v,0)
section
variable {M : Nat} {v : List Aa}
theorem Pf (hA:Dv M v)(hM:M≤1000000){F:Nat}(hF:M<F):EJ F v=some (Qd v):=by
 unfold EJ Qd;rw[Gg hA hM hF,Ba rfl]
 by_cases h:CT v=0
 ·rw[AJ (by simp[h]),Y5 h];rfl
 ·rw[AZ (by simp[h]),Yz h];rfl
theorem Pt (hA:Dv M v)(hM:M≤1000000){F:Nat}(hF:4*M+6<F):IE F v=some (Qd v):=by
 unfold IE Qd;rw[E8 hA hM hF,Ba rfl]
 by_cases h:CT v=0
 ·rw[AJ (by simp[h]),Y5 h];rfl
 ·rw[AZ (by simp[h]),Yz h];rfl
theorem Sd (hM:M≤1000000){F:Nat}(hF:M<F){path:List Av}:∀(ks:List Av) (L:Nat) (x:Int) (pre:List Av) (out:List Aa),path=pre++ks→x=(pre.length:Int)→ks.length<L→x+ks.length≤1000000000→Dv M out→
  ∃o,BG (λσ=>Er F path σ.1 σ.2) L (out,x)=some o∧BE (λν=>I6 ν) o=some (IF ks out):=by
 intro ks
 induction ks with
 | nil=>
  intro L x pre out e hx hL hb hA;obtain⟨L,rfl⟩:∃K,L=K+1:=⟨L-1,by omega⟩
  have hbd:Er F path out x=some (.out (.go out)):=by unfold Er;rw[AJ (Yz (by rw[e,hx];simp))]
  exact⟨.go out,CZ hbd,rfl⟩
 | cons k ks ih=>
  intro L x pre out e hx hL hb hA;simp only[Y0] at hL hb;obtain⟨L,rfl⟩:∃K,L=K+1:=⟨L-1,by omega⟩
  have hl:(path.length:Int)=x+1+ks.length:=by rw[e,Y4,Y0];omega
  have hbd:Er F path out x=some (bif !decide ((EA out k).2=0) then .out (.ret ([],(EA out k).2)) else .next ((EA out k).1,x+1)):=by
   unfold Er;rw[hl,AZ (Y5 (by omega)),Bt (by omega) (by omega),e,Iq pre ks k hx,Vo hA hM hF,Ba rfl,AU (by omega) (by omega)]
   cases decide ((EA out k).2=0)<;>rfl
  rw[IF]
  cases hk:decide ((EA out k).2=0) with
  | false=>rw[hk] at hbd;exact⟨_,CZ hbd,rfl⟩
  | true=>
   rw[hk] at hbd;obtain⟨o,h1,h2⟩:=ih L (x+1) (pre++[k]) (EA out k).1 (by rw[e];simp) (by simp;omega) (by omega) (by omega) (Ma hA k);exact⟨o,Ix hbd h1,h2⟩
theorem Sr (hM:M≤1000000){F:Nat}(hF:4*M+6<F){path:List Av}:∀(ks:List Av) (L:Nat) (x e0:Int) (pre:List Av) (out:List Aa),path=pre++ks→x=(pre.length:Int)→ks.length<L→x+ks.length≤1000000000→Dv M out→
  ∃o,BG (λσ=>Eu F path σ.1 σ.2.1 σ.2.2) L (e0,out,x)=some o∧BE (λν=>ID ν) o=some (IF ks out):=by
 intro ks
 induction ks with
 | nil=>
  intro L x e0 pre out e hx hL hb hA;obtain⟨L,rfl⟩:∃K,L=K+1:=⟨L-1,by omega⟩
  have hbd:Eu F path e0 out x=some (.out (.go out)):=by unfold Eu;rw[AJ (Yz (by rw[e,hx];simp))]
  exact⟨.go out,CZ hbd,rfl⟩
 | cons k ks ih=>
  intro L x e0 pre out e hx hL hb hA;simp only[Y0] at hL hb;obtain⟨L,rfl⟩:∃K,L=K+1:=⟨L-1,by omega⟩
  have hl:(path.length:Int)=x+1+ks.length:=by rw[e,Y4,Y0];omega
  have hbd:Eu F path e0 out x=some (bif !decide ((EA out k).2=0) then .out (.ret ([],(EA out k).2)) else .next ((EA out k).2,(EA out k).1,x+1)):=by
   unfold Eu;rw[hl,AZ (Y5 (by omega)),Bt (by omega) (by omega),e,Iq pre ks k hx,Vy hA hM hF,Ba rfl,AU (by omega) (by omega)]
   cases decide ((EA out k).2=0)<;>rfl
  rw[IF]
  cases hk:decide ((EA out k).2=0) with
  | false=>rw[hk] at hbd;exact⟨_,CZ hbd,rfl⟩
  | true=>
   rw[hk] at hbd;obtain⟨o,h1,h2⟩:=ih L (x+1) _ (pre++[k]) (EA out k).1 (by rw[e];simp) (by simp;omega) (by omega) (by omega) (Ma hA k);exact⟨o,Ix hbd h1,h2⟩
theorem T7 (hA:Dv M v)(hM:M≤1000000){F:Nat}{path:List Av}(hF:M<F)(hp:path.length<F)(hp2:path.length≤1000000000):Pc F v path=some (H3 v path):=by
 have hvM:=hA.hv;unfold Pc H3;rw[Gg hA hM hF,Ba rfl]
 by_cases h:CT v=0
 ·obtain⟨o,h1,h2⟩:=Sd hM hF (path:=path) path F 0 [] v rfl rfl hp (by omega) hA;rw[AJ (by simp[h]),Y5 h,Lk (by omega),Ba rfl,Ba h1,h2];rfl
 ·rw[AZ (by simp[h]),Yz h];rfl
theorem TL (hA:Dv M v)(hM:M≤1000000){F:Nat}{path:List Av}(hF:4*M+6<F)(hp:path.length<F)(hp2:path.length≤1000000000):Po F v path=some (H3 v path):=by
 have hvM:=hA.hv;unfold Po H3;rw[E8 hA hM hF,Ba rfl]
 by_cases h:CT v=0
 ·obtain⟨o,h1,h2⟩:=Sr hM hF (path:=path) path F 0 (CT v) [] v rfl rfl hp (by omega) hA;have hpart:Kd F v 0 (v.length:Int)=some v:=by
   rw[Pp (YE 0) (by omega) (YE _) (by omega) (by omega)];simp
  rw[AJ (by simp[h]),Y5 h,hpart,Ba rfl,Ba h1,h2];rfl
 ·rw[AZ (by simp[h]),Yz h];rfl
theorem P0:∀(ks:List Av) {out:List Aa},Dv M out→Dv M (IF ks out).1
 | [],out,h=>h
 | k::ks,out,h=>by
  rw[IF]
  cases decide ((EA out k).2=0) with
  | false=>exact⟨h.hM,Za _,λc hc=>by cases hc⟩
  | true=>exact P0 ks (Ma h k)
theorem Py (hA:Dv M v)(path:List Av):Dv M (H3 v path).1:=by
 unfold H3
 cases decide (CT v=0) with
 | false=>exact⟨hA.hM,Za _,λc hc=>by cases hc⟩
 | true=>exact P0 path hA
end
theorem JE {α β:Type}{p:Bool}{a:β}{x:Option α}:AY (imp p (some a).isSome) x=x:=C5 (QG p)
theorem Rb {α β:Type}{p q:Bool}{a:β}{x:Option α}:AY (imp p (imp q (some a).isSome)) x=x:=C5 (by rw[show(some a).isSome=true from rfl,QG,QG])
def XQ {R:Type}(i:Int):Option R→Stp Int (Out R Unit)
 | some r=>.out (.ret r)
 | none=>.next (i+1)
def Ou {R:Type}:Option R→Out R Unit
 | some r=>.ret r
 | none=>.go ()
theorem Do {α R:Type}[Inhabited α]{l:List α}{t:α→Option R}{body:Int→Option (Stp Int (Out R Unit))}
  (hs:∀x:Int,0≤x→x<(l.length:Int)→body x=some (XQ x (t (Ax l x)))) (he:∀x:Int,¬ x<(l.length:Int)→body x=some (.out (.go ()))) {F:Nat} (hF:l.length<F) :
  BG body F 0=some (Ou (l.findSome? t)):=by
 have key:∀(suf pre:List α) (F:Nat),l=pre++suf→suf.length<F→BG body F (pre.length:Int)=some (Ou (suf.findSome? t)):=by
  intro suf
  induction suf with
  | nil=>
   intro pre F e hF;obtain⟨n,rfl⟩:∃n,F=n+1:=⟨F-1,by omega⟩
   exact CZ (he _ (by rw[e];simp))
  | cons a r ih=>
   intro pre F e hF;simp only[Y0] at hF;obtain⟨n,rfl⟩:∃n,F=n+1:=⟨F-1,by omega⟩
   have h1:=hs (pre.length:Int) (by omega) (by rw[e];simp;omega);have h2:Ax l (pre.length:Int)=a:=by rw[e];exact Iq pre r a rfl
   rw[h2] at h1
   cases ht:t a with
   | some q=>
    rw[ht] at h1;rw[List.findSome?_cons,ht];exact CZ h1
   | none=>
    rw[ht] at h1;rw[List.findSome?_cons,ht];have h3:=ih (pre++[a]) n (by rw[e];simp) (by omega);refine Ix h1 ?_;rw[show((pre.length:Int)+1)=((pre++[a]).length:Int) from by simp];exact h3
 exact key l [] F rfl hF
def eO (e:Int):Option Int:=bif decide (e=0) then none else some e
def bO {R:Type}(b:Bool)(r:R):Option R:=bif b then some r else none
theorem OD {x e:Int}:AS (!decide (e=0)) (some (.out (.ret e))) (some (.next (x+1)))=(some (XQ x (eO e)):Option (Stp Int (Out Int Unit))):=by
 unfold eO;cases decide (e=0)<;>rfl
theorem Io {R:Type}{x:Int}{b:Bool}{r:R}:AS b (some (.out (.ret r))) (some (.next (x+1)))=(some (XQ x (bO b r)):Option (Stp Int (Out R Unit))):=by
 cases b<;>rfl
theorem GR {α R:Type}{p:α→Bool}{r:R}:∀l:List α,l.findSome? (λa=>bO (p a) r)=bO (l.any p) r
 | []=>rfl
 | a::l=>by
  rw[List.findSome?_cons,List.any_cons,GR l]
  cases p a<;>rfl
theorem Kk {R:Type}{b:Bool}{r q:R}:BE (λ_=>some q) (Ou (bO b r))=some (bif b then r else q):=by cases b<;>rfl
theorem Rv {F:Nat}{a b:List Aa}(hF:a.length<F)(ha:a.length≤1000000000):L5 F a b=some (decide (a=b)):=by
 unfold L5
 by_cases hl:a.length=b.length
 ·rw[AJ (by simp[hl])];have h1:∀(k:Nat),k≤a.length→∃o,BG (λσ=>Et a b σ) (a.length-k+1) (k:Int)=some o∧BE (λ_=>IB) o=some (decide (a.drop k=b.drop k)):=by
   intro k;generalize hd:a.length-k=d
   induction d generalizing k with
   | zero=>
    intro hk;have:k=a.length:=by omega
    subst this;refine⟨.go (),CZ (by unfold Et;rw[AJ (Yz (by omega))]),?_⟩;rw[Ic,List.drop_length,hl,List.drop_length];rfl
   | succ d ih=>
    intro hk;have hka:k<a.length:=by omega
    have hkb:k<b.length:=by omega
    have ea:Ax a (k:Int)=a[k]:=by simp[Ax,hka]
    have eb:Ax b (k:Int)=b[k]:=by simp[Ax,hkb]
    have da:=List.drop_eq_getElem_cons hka;have db:=List.drop_eq_getElem_cons hkb;have hc:(decide (a[k].fKind=b[k].fKind)&&decide (a[k].fInt=b[k].fInt)&&decide (a[k].fStr=b[k].fStr)&&decide (a[k].fN=b[k].fN))=decide (a[k]=b[k]):=by
     rw[YD];simp only[Y1,Yv];constructor
     ·rintro⟨⟨⟨h1,h2⟩,h3⟩,h4⟩;generalize a[k]=u at *;generalize b[k]=v at *
      cases u;cases v;simp_all
     ·intro h;rw[h];simp
    have hb:Et a b (k:Int)=AS (!decide (a[k]=b[k])) (some (.out (.ret false))) (some (.next ((k:Int)+1))):=by
     unfold Et;rw[AZ (Y5 (by omega)),Bt (by omega) (by omega),Bt (by omega) (by omega),ea,eb,hc,AU (by omega) (by omega)]
    cases he:decide (a[k]=b[k]) with
    | false=>
     refine⟨.ret false,CZ (hb.trans (by rw[he];rfl)),?_⟩;rw[Kj,da,db];simp only[Yx] at he;rw[Yz (by intro h;exact he (List.cons.inj h).1)]
    | true=>
     obtain⟨o,h2,h3⟩:=ih (k+1) (by omega) (by omega);simp only[Yv] at he;refine⟨o,Ix (hb.trans (by rw[Y5 he];rfl)) h2,?_⟩;rw[h3,da,db,he];simp only[List.cons.injEq,true_and]
  obtain⟨o,h2,h3⟩:=h1 0 (Za _);replace h2:BG (λσ=>Et a b σ) (a.length-0+1) 0=some o:=h2;obtain⟨k,rfl⟩:∃k,F=(a.length-0+1)+k:=⟨F-(a.length+1),by omega⟩
  rw[Ba (MF k h2),h3];rfl
 ·rw[AZ (by simp;omega),Yz (λh=>hl (by rw[h]))]
theorem T4 {F:Nat}{a b:List Aa}(hF:a.length<F)(ha:a.length≤1000000000):N3 F a b=some (decide (a=b)):=by rw[Pb];exact Rv hF ha
def Sk (s:Av):Int:=CT [⟨4,0,s,0⟩]
theorem OF (v:List Aa):(Qd v).2=CT v:=by
 unfold Qd
 by_cases h:CT v=0
 ·rw[Y5 h];exact h.symm
 ·rw[Yz h];rfl
theorem Dv.str {K:Nat}{s:Av}(hs:s.length≤K)(hK:1≤K)(hK2:K≤1000000):Dv K [⟨4,0,s,0⟩]:=⟨by omega,hK,λc hc=>by
 have:c=⟨4,0,s,0⟩:=by simpa using hc
 subst this;exact⟨hs,(by decide:BB .i64 0=true),(by decide:(0:Int)≤9223372036854775807)⟩⟩
theorem Rq {K F:Nat}{s:Av}(hs:s.length≤K)(hK:1≤K)(hK2:K≤1000000)(hF:K<F):Ob F s=some (Qd [⟨4,0,s,0⟩]):=by
 unfold Ob;rw[Pf (Dv.str hs hK hK2) hK2 hF,Ba rfl]
theorem Rx {K F:Nat}{s:Av}(hs:s.length≤K)(hK:1≤K)(hK2:K≤1000000)(hF:4*K+6<F):Q3 F s=some (Qd [⟨4,0,s,0⟩]):=by
 unfold Q3;rw[Pt (Dv.str hs hK hK2) hK2 hF,Ba rfl]
def Xx (a:Option Int)(b:Int):Int:=match a with
 | some e=>e
 | none=>b
def Pk (a b c d e g h i:Bool):Bool:=(a||b||c)&&(d||e)&&(g||h&&i)
def Jt (f:Ah):Int:=bif Pk (decide (f.fOp=3)) (decide (f.fOp=4)) (decide (f.fValues.length=0)) (decide (f.fOp=5)) (decide (f.fText=[])) (decide (f.fOp=6)) (decide (f.fLow=0)) (decide (f.fHigh=0)) then 0 else 1
def XR (n:Int):Bool:=decide (-1000000000000≤n)&&decide (n≤1000000000000)
def Tc (f:Ah):Bool:=!XR f.fLow||(!XR f.fHigh||decide (f.fHigh<f.fLow))
def TY (f:Ah):Int:=
 bif (decide (f.fOp=3)||decide (f.fOp=4)) then(bif (decide ((f.fValues.length:Int)<1)||decide (8<(f.fValues.length:Int))) then 3 else Xx (f.fValues.findSome? λv=>eO (CT v)) (Jt f))
 else bif decide (f.fOp=5) then Xx (eO (Sk f.fText)) (Jt f)
 else bif decide (f.fOp=6) then(bif Tc f then 2 else Jt f)
 else Jt f
def Qe (f:Ah):Int:=bif decide (4<(f.fPath.length:Int)) then 3 else Xx (f.fPath.findSome? λs=>eO (Sk s)) (bif (decide (f.fOp<1)||decide (6<f.fOp)) then 7 else TY f)
def jB (x:Bool):Option Int:=AS x (some 1) (some 0)
theorem Sn:∀a b c d e g h i:Bool,(Be (some (a||b)) λr=>AS (!r) (AS (!c) (jB true) (AS (!d) (AS (!e) (jB true) (AS (!g) (AS (!h) (jB true) (jB (!i))) (jB false))) (AS (!g) (AS (!h) (jB true) (jB (!i))) (jB false)))) (AS (!d) (AS (!e) (jB true) (AS (!g) (AS (!h) (jB true) (jB (!i))) (jB false))) (AS (!g) (AS (!h) (jB true) (jB (!i))) (jB false))))=some (bif Pk a b c d e g h i then(0:Int) else 1):=by decide
def Pi (f:Ah):Option Int:=Be (Gb f.fOp) λr=>AS (!r) (AS (decide (0<(f.fValues.length:Int))) (jB true) (AS (!decide (f.fOp=5)) (AS (!decide (f.fText=([]:Av))) (jB true) (AS (!decide (f.fOp=6)) (AS (!decide (f.fLow=0)) (jB true) (jB (!decide (f.fHigh=0)))) (jB false))) (AS (!decide (f.fOp=6)) (AS (!decide (f.fLow=0)) (jB true) (jB (!decide (f.fHigh=0)))) (jB false)))) (AS (!decide (f.fOp=5)) (AS (!decide (f.fText=([]:Av))) (jB true) (AS (!decide (f.fOp=6)) (AS (!decide (f.fLow=0)) (jB true) (jB (!decide (f.fHigh=0)))) (jB false))) (AS (!decide (f.fOp=6)) (AS (!decide (f.fLow=0)) (jB true) (jB (!decide (f.fHigh=0)))) (jB false)))
theorem IA (f:Ah):Pi f=some (Jt f):=by
 have h:=Sn (decide (f.fOp=3)) (decide (f.fOp=4)) (decide (f.fValues.length=0)) (decide (f.fOp=5)) (decide (f.fText=[])) (decide (f.fOp=6)) (decide (f.fLow=0)) (decide (f.fHigh=0));have e:decide (0<(f.fValues.length:Int)) = !decide (f.fValues.length=0):=by rw[YD,YB,Yv,Yx];omega
 unfold Pi Gb;rw[e];exact h
theorem Q1:∀a b c d e g h i:Bool,AS (a||b) (AS d (AS g (some true) (AS h (some i) (some false))) (AS e (AS g (some true) (AS h (some i) (some false))) (some false))) (AS c (AS d (AS g (some true) (AS h (some i) (some false))) (AS e (AS g (some true) (AS h (some i) (some false))) (some false))) (some false))=some (Pk a b c d e g h i):=by decide
theorem QU (f:Ah):EH f=some (Pk (decide (f.fOp=3)) (decide (f.fOp=4)) (decide (f.fValues.length=0)) (decide (f.fOp=5)) (decide (f.fText=[])) (decide (f.fOp=6)) (decide (f.fLow=0)) (decide (f.fHigh=0))):=by
 have h:=Q1 (decide (f.fOp=3)) (decide (f.fOp=4)) (decide (f.fValues.length=0)) (decide (f.fOp=5)) (decide (f.fText=[])) (decide (f.fOp=6)) (decide (f.fLow=0)) (decide (f.fHigh=0));have e:decide ((f.fValues.length:Int)=0)=decide (f.fValues.length=0):=by rw[YD];simp
 unfold EH;rw[e];exact h
structure FA (K:Nat) (f:Ah):Prop where
 path:f.fPath.length≤10
 keys:∀s∈f.fPath,s.length≤K
 vals:f.fValues.length≤20
 val:∀v∈f.fValues,Dv K v
 text:f.fText.length≤K
 K1:1≤K
 K2:K≤1000000
section
variable {K : Nat} {f : Ah}
theorem SO (hA:FA K f){F:Nat}(hF:K+100<F):BG (λσ=>ED F f σ) F 0=some (Ou (f.fPath.findSome? λs=>eO (Sk s))):=by
 have hp:=hA.path;refine Do (λx h0 hx=>?_) (λx hx=>by unfold ED;rw[AJ (Yz hx)]) (by omega);unfold ED;rw[AZ (Y5 hx),Bt h0 hx,Rq (hA.keys _ (IV h0 hx)) hA.K1 hA.K2 (by omega),Ba rfl,AU (by omega) (by omega),OF];exact OD
theorem PV (hA:FA K f){F:Nat}(hF:4*K+100<F):BG (λσ=>DB F f σ) F 0=some (Ou (f.fPath.findSome? λs=>eO (Sk s))):=by
 have hp:=hA.path;refine Do (λx h0 hx=>?_) (λx hx=>by unfold DB;rw[AJ (Yz hx)]) (by omega);unfold DB;rw[AZ (Y5 hx),Bt h0 hx,Rx (hA.keys _ (IV h0 hx)) hA.K1 hA.K2 (by omega),Ba rfl,AU (by omega) (by omega),OF];exact OD
theorem NJ (hA:FA K f){F:Nat}(hF:K+100<F):BG (λσ=>EC F f σ) F 0=some (Ou (f.fValues.findSome? λv=>eO (CT v))):=by
 have hp:=hA.vals;refine Do (λx h0 hx=>?_) (λx hx=>by unfold EC;rw[AJ (Yz hx)]) (by omega);unfold EC;rw[AZ (Y5 hx),Bt h0 hx,Gg (hA.val _ (IV h0 hx)) hA.K2 (by omega),Ba rfl,AU (by omega) (by omega)];exact OD
theorem SN (hA:FA K f){F:Nat}(hF:K+100<F):BG (λσ=>HB F f σ) F 0=some (Ou (f.fValues.findSome? λv=>eO (CT v))):=NJ hA hF
theorem PU (hA:FA K f){F:Nat}(hF:4*K+100<F):BG (λσ=>DA F f σ) F 0=some (Ou (f.fValues.findSome? λv=>eO (CT v))):=by
 have hp:=hA.vals;refine Do (λx h0 hx=>?_) (λx hx=>by unfold DA;rw[AJ (Yz hx)]) (by omega);unfold DA;rw[AZ (Y5 hx),Bt h0 hx,E8 (hA.val _ (IV h0 hx)) hA.K2 (by omega),Ba rfl,AU (by omega) (by omega)];exact OD
theorem IG {a:Option Int}{b:Int}{k:Option Int}(h:k=some b):BE (λ_=>k) (Ou a)=some (Xx a b):=by subst h;cases a<;>rfl
theorem RK {e b:Int}{k:Option Int}(h:k=some b):AS (!decide (e=0)) (some e) k=some (Xx (eO e) b):=by
 subst h;unfold eO;cases decide (e=0)<;>rfl
theorem NG (n:Int):Bv n=some (XR n):=rfl
theorem M9 (n:Int):Bq n=some (XR n):=rfl
theorem SP (hA:FA K f){F:Nat}(hF:K+100<F):CM F f=some (Qe f):=by
 have h2:H9 f=some (Jt f):=IA f;have h4:H8 f=some (Jt f):=IA f;unfold CM Qe
 cases h1:decide (4<(f.fPath.length:Int)) with
 | true=>rfl
 | false=>
  rw[AJ (by rfl),Ba (SO hA hF),IG (b:=bif (decide (f.fOp<1)||decide (6<f.fOp)) then 7 else TY f)]
  ·rfl
  ·unfold HA
   cases h0:(decide (f.fOp<1)||decide (6<f.fOp)) with
   | true=>rfl
   | false=>
    rw[AJ (by rfl),Y2];unfold TY
    cases h3:decide (f.fOp=3) with
    | true=>
     rw[AZ (by rfl),YP,Y7]
     cases hn:(decide ((f.fValues.length:Int)<1)||decide (8<(f.fValues.length:Int))) with
     | true=>rfl
     | false=>rw[AJ (by rfl),Ba (NJ hA hF),IG h2];rfl
    | false=>
     rw[AJ (by rfl),YF]
     cases h4':decide (f.fOp=4) with
     | true=>
      rw[AZ (by rfl),Y7]
      cases hn:(decide ((f.fValues.length:Int)<1)||decide (8<(f.fValues.length:Int))) with
      | true=>rfl
      | false=>rw[AJ (by rfl),Ba (SN hA hF),IG h4];rfl
     | false=>
      rw[AJ (by rfl),Y2]
      cases h5:decide (f.fOp=5) with
      | true=>
       rw[AZ (by rfl),Y7,Rq hA.text hA.K1 hA.K2 (by omega),Ba rfl,OF];refine RK (Eq.trans ?_ (IA f));unfold Pi;rw[h5];rfl
      | false=>
       rw[AJ (by rfl),Y2]
       cases h6:decide (f.fOp=6) with
       | true=>
        rw[AZ (by rfl),Y7,NG,NG,C5 (by rfl),JE,Dm,Dm]
        change AS (Tc f) _ _=_
        cases hb:Tc f with
        | true=>rfl
        | false=>
         rw[AJ (by rfl),Y2];refine Eq.trans ?_ (IA f);unfold Pi;rw[h5,h6];rfl
       | false=>
        rw[AJ (by rfl),Y2];refine Eq.trans ?_ (IA f);unfold Pi;rw[h5,h6];rfl
theorem Ww (f:Ah):(Be (EH f) λr=>AS (!r) (some (1:Int)) (some 0))=some (Jt f):=by
 rw[QU,Ba rfl];unfold Jt;generalize Pk _ _ _ _ _ _ _ _=q
 cases q<;>rfl
theorem PW (hA:FA K f){F:Nat}(hF:4*K+100<F):DV F f=some (Qe f):=by
 unfold DV Qe
 cases h1:decide (4<(f.fPath.length:Int)) with
 | true=>rfl
 | false=>
  rw[AJ (by rfl),Ba (PV hA hF),IG (b:=bif (decide (f.fOp<1)||decide (6<f.fOp)) then 7 else TY f)]
  ·rfl
  ·have tl:AY (imp (decide (f.fOp=6)) ((Bq f.fLow).isSome)) (AY (imp (decide (f.fOp=6)) (imp (!(!(ov (Bq f.fLow)))) ((Bq f.fHigh).isSome))) (AS (((decide (f.fOp=6))&&((!(ov (Bq f.fLow)))||((!(ov (Bq f.fHigh)))||(decide (f.fHigh<f.fLow)))))) (some 2) (Be (EH f) λr=>AS (!r) (some 1) (some 0))))=some (bif decide (f.fOp=6)&&Tc f then 2 else Jt f):=by
    rw[M9,M9,JE,Rb,Dm,Dm,Ww]
    change AS (decide (f.fOp=6)&&Tc f) _ _=_
    cases decide (f.fOp=6)&&Tc f<;>rfl
   unfold EP
   cases h0:(decide (f.fOp<1)||decide (6<f.fOp)) with
   | true=>rfl
   | false=>
    rw[AJ (by rfl),Y2];unfold TY
    cases ha:(decide (f.fOp=3)||decide (f.fOp=4)) with
    | true=>
     have h5:decide (f.fOp=5)=false:=by simp only[YZ,Yv] at ha;exact Yz (by omega)
     have h6:decide (f.fOp=6)=false:=by simp only[YZ,Yv] at ha;exact Yz (by omega)
     rw[AZ (by rfl),Y7]
     cases hn:(decide ((f.fValues.length:Int)<1)||decide (8<(f.fValues.length:Int))) with
     | true=>rfl
     | false=>
      rw[AJ (by rfl),Y2,Ba (PU hA hF)];refine IG ?_;unfold EO;rw[h5,AJ (by rfl)];refine tl.trans ?_;rw[h6];rfl
    | false=>
     rw[AJ (by rfl),Y2]
     cases h5:decide (f.fOp=5) with
     | true=>
      have h6:decide (f.fOp=6)=false:=by simp only[Yv] at h5;exact Yz (by omega)
      rw[AZ (by rfl),Y7,Rx hA.text hA.K1 hA.K2 (by omega),Ba rfl,OF];refine RK (tl.trans ?_);rw[h6];rfl
     | false=>
      rw[AJ (by rfl),Y2];refine tl.trans ?_
      cases decide (f.fOp=6)<;>rfl
end
theorem RI {f:Fo}(h1:f.flat.any H4=false)(h2:f.flat.any EY=false)(h3:f.flat.length≤200)(h4:f.dep≤8)(h5:(f.txt true).length≤4000):Nz f=0:=by
 unfold Nz;rw[h1,h2,Yz (by omega),Yz (by omega),Yz (by omega)];rfl
theorem UA {f:Fo}(h:Nz f=0):f.flat.any H4=false∧f.flat.any EY=false∧f.flat.length≤200∧f.dep≤8∧(f.txt true).length≤4000:=by
 unfold Nz at h
 cases h1:f.flat.any H4 with
 | true=>rw[h1] at h;cases h
 | false=>
  rw[h1] at h
  cases h2:(f.flat.any EY||(decide (200<f.flat.length)||(decide (8<f.dep)||decide (4000<(f.txt true).length)))) with
  | true=>rw[h2] at h;cases h
  | false=>
   simp only[YO,Yx] at h2;exact⟨rfl,h2.1,by omega,by omega,by omega⟩
theorem RH {f:Fo}(h1:f.one=true)(hw:f.wf false none=true)(he:Nz f=0):CT f.flat=0:=by
 unfold CT;rw[Tz h1 hw];exact he
theorem J1:∀(f:Fo) (m:Bool) (last:Option Av) (b:Bool),f.wf m last=true→f.flat.any H4=false→f.flat.any EY=false→f.flat.length≤200→f.dep≤8→(f.txt b).length≤4000→∀y∈f.vals,CT y=0
 | .nil,m,last,b,hw,h1,h2,h3,h4,h5=>λy hy=>by simp[Fo.vals] at hy
 | .cell k c r,m,last,b,hw,h1,h2,h3,h4,h5=>λy hy=>by
  simp only[Fo.wf,Y1,YB] at hw;obtain⟨⟨⟨w1,w2⟩,w3⟩,w4⟩:=hw;simp only[Fo.flat,List.any_append,List.any_cons,YO] at h1 h2;simp only[Fo.flat,Fo.dep,Fo.txt,Y4,Y0] at h3 h4 h5;simp only[Fo.vals,Zd] at hy;rcases hy with rfl | hy
  ·have hf:(Fo.cell none c .nil).flat=[c]:=by simp[Fo.flat,Bx]
   rw[← hf];refine RH rfl (LM w2 w3) (RI ?_ ?_ ?_ ?_ ?_)
   ·rw[hf];simp[h1.2.1]
   ·rw[hf];simp[h2.2.1]
   ·rw[hf];simp
   ·simp[Fo.dep]
   ·simp[Fo.txt,Gw,ML];omega
  ·exact J1 r m k false w4 h1.2.2 h2.2.2 (by omega) (by omega) (by omega) y hy
 | .node k c kids r,m,last,b,hw,h1,h2,h3,h4,h5=>λy hy=>by
  simp only[Fo.wf,Y1,Yv] at hw;obtain⟨⟨⟨⟨⟨w1,w2⟩,w3⟩,w5⟩,w6⟩,w4⟩:=hw;simp only[Fo.flat,List.any_append,List.any_cons,YO] at h1 h2;simp only[Fo.flat,Fo.dep,Fo.txt,Y4,Y0] at h3 h4 h5;simp only[Fo.vals,Zd] at hy;rcases hy with rfl | hy
  ·have hf:(Fo.node none c kids .nil).flat=c::kids.flat:=by simp[Fo.flat,Bx]
   rw[← hf];refine RH rfl (LL w2 w3 w5 w6) (RI ?_ ?_ ?_ ?_ ?_)
   ·rw[hf];simp only[List.any_cons,h1.2.1,h1.2.2.1];rfl
   ·rw[hf];simp only[List.any_cons,h2.2.1,h2.2.2.1];rfl
   ·rw[hf];simp only[Y0];omega
   ·simp only[Fo.dep];omega
   ·simp only[Fo.txt,Gw,ML,Y7,Zh,YY];omega
  ·exact J1 r m k false w4 h1.2.2.2 h2.2.2.2 (by omega) (by omega) (by omega) y hy
theorem XX.vals {M:Nat}{v:List Aa}{c:Aa}{kf:Fo}(V:XX M v c kf):∀y∈kf.vals,CT y=0:=by
 obtain⟨f,x1,x2,x3,x4,x5⟩:=V.f;obtain⟨h1,h2,h3,h4,h5⟩:=UA x5;have hw:=V.vok.wf
 cases f with
 | nil=>cases x2
 | cell k c' r=>
  simp[Fo.hd] at x4;obtain⟨_,_,rfl,_⟩:=x4;intro y hy;simp[Fo.vals] at hy
 | node k c' kids r=>
  simp[Fo.hd] at x4;obtain⟨rfl,rfl,rfl,rfl⟩:=x4;simp only[Fo.flat,Bx,Zh,YY,List.any_cons,YO] at h1 h2;simp only[Fo.flat,Bx,Zh,YY,Y0] at h3;simp only[Fo.dep] at h4;have hb:=Me c' (kids.txt true);simp only[Fo.txt,Gw,ML,Y7,Zh,YY] at h5;exact J1 kids _ none true hw h1.2 h2.2 (by omega) (by omega) (by omega)
section
variable {M : Nat} {v x : List Aa} {key : Av}
end
theorem NH {α:Type}[Inhabited α]{l:List α}{t:α→Bool}{body:Int→Option (Stp Int (Out Int Unit))}
  (hs:∀x:Int,0≤x→x<(l.length:Int)→body x=some (XQ x (bO (t (Ax l x)) x))) (he:∀x:Int,¬ x<(l.length:Int)→body x=some (.out (.go ()))) {F:Nat} (hF:l.length<F) :
  (Be (Be (BG body F 0) (BE λ_=>some (-1))) λr=>some (decide (0≤r)))=some (l.any t):=by
 have key:∀(suf pre:List α) (F:Nat),l=pre++suf→suf.length<F→∃o,BG body F (pre.length:Int)=some o∧(Be (BE (λ_=>some (-1)) o) λr=>some (decide (0≤r)))=some (suf.any t):=by
  intro suf
  induction suf with
  | nil=>
   intro pre F e hF;obtain⟨n,rfl⟩:∃n,F=n+1:=⟨F-1,by omega⟩
   exact⟨.go (),CZ (he _ (by rw[e];simp)),rfl⟩
  | cons a r ih=>
   intro pre F e hF;simp only[Y0] at hF;obtain⟨n,rfl⟩:∃n,F=n+1:=⟨F-1,by omega⟩
   have h1:=hs (pre.length:Int) (by omega) (by rw[e];simp;omega);have h2:Ax l (pre.length:Int)=a:=by rw[e];exact Iq pre r a rfl
   rw[h2] at h1
   cases ht:t a with
   | true=>
    rw[ht] at h1;refine⟨.ret (pre.length:Int),CZ h1,?_⟩;rw[Kj,Ba rfl,List.any_cons,ht,Y5 (by omega)];rfl
   | false=>
    rw[ht] at h1;obtain⟨o,h3,h4⟩:=ih (pre++[a]) n (by rw[e];simp) (by omega);refine⟨o,Ix h1 ?_,?_⟩
    ·rw[show((pre.length:Int)+1)=((pre++[a]).length:Int) from by simp];exact h3
    ·rw[h4,List.any_cons,ht];rfl
 obtain⟨o,h1,h2⟩:=key l [] F rfl hF;rw[show(0:Int)=(([]:List α).length:Int) from rfl,Ba h1];exact h2
def Nw (x:List Aa)(l:List (List Aa)):Bool:=l.any λy=>decide (y=x)
def TT (s p:Av):Bool:=decide (p.length≤s.length)&&decide (s.take p.length=p)
def UT (x:List Aa)(p:Av):Bool:=decide ((Ax x 0).fKind=4)&&TT (Ax x 0).fStr p
def Ty (x:List Aa)(lo hi:Int):Bool:=decide ((Ax x 0).fKind=3)&&(decide (lo≤(Ax x 0).fInt)&&decide ((Ax x 0).fInt≤hi))
def Xq (f:Ah)(x:List Aa):Bool:=
 bif decide (f.fOp=1) then true else bif decide (f.fOp=3) then Nw x f.fValues else bif decide (f.fOp=4) then !Nw x f.fValues else bif decide (f.fOp=5) then UT x f.fText else bif decide (f.fOp=6) then Ty x f.fLow f.fHigh else false
def V2 (f:Ah)(v:List Aa):Bool:=bif !decide ((H3 v f.fPath).2=0) then decide (f.fOp=2) else Xq f (H3 v f.fPath).1
def Q8 (f:Ah)(v:List Aa):Bool:=decide (Qe f=0)&&(decide (CT v=0)&&V2 f v)
def Ox (l:List Ah)(v:List Aa):Bool:=decide ((l.length:Int)≤32)&&(decide (CT v=0)&&l.all λf=>Q8 f v)
section
variable {K : Nat} {v : List Aa}
theorem Ld (key:Av):∀(g:Fo) (x:List Aa),g.find key=some x→x∈g.vals
 | .nil,x,h=>by cases h
 | .cell k c r,x,h=>by
  rw[Fo.find] at h
  cases hk:decide (DO k=key) with
  | true=>rw[hk] at h;cases h;simp[Fo.vals]
  | false=>rw[hk] at h;simp[Fo.vals,Ld key r x h]
 | .node k c kids r,x,h=>by
  rw[Fo.find] at h
  cases hk:decide (DO k=key) with
  | true=>rw[hk] at h;cases h;simp[Fo.vals]
  | false=>rw[hk] at h;simp[Fo.vals,Ld key r x h]
theorem VM (hA:Dv K v){key:Av}(h0:(EA v key).2=0):CT (EA v key).1=0:=by
 unfold EA at *;rcases DP hA with⟨h,on⟩ | ⟨c,kf,V⟩
 ·rw[on] at h0;exact absurd h0 h
 ·rw[V.on] at *
  cases h6:decide (c.fKind=6) with
  | false=>rw[h6] at h0;cases h0
  | true=>
   rw[h6] at h0
   cases hf:kf.find key with
   | none=>rw[hf] at h0;cases h0
   | some x=>exact V.vals x (Ld key kf x hf)
theorem Pz:∀(ks:List Av) {out:List Aa},Dv K out→CT out=0→(IF ks out).2=0→CT (IF ks out).1=0
 | [],out,_,h,_=>h
 | k::ks,out,hA,h,h0=>by
  rw[IF] at *
  cases hk:decide ((EA out k).2=0) with
  | false=>
   rw[hk] at h0;exact absurd h0 (of_decide_eq_false hk)
  | true=>
   rw[hk] at h0;exact Pz ks (Ma hA k) (VM hA (YH hk)) h0
theorem Px (hA:Dv K v){path:List Av}(h0:(H3 v path).2=0):CT (H3 v path).1=0:=by
 unfold H3 at *
 cases hv:decide (CT v=0) with
 | false=>rw[hv] at h0;exact absurd h0 (of_decide_eq_false hv)
 | true=>rw[hv] at h0;exact Pz path hA (YH hv) h0
theorem Vz {c:Aa}(hp:pl c=true)(hk:c.fKind=3∨c.fKind=4):c.fN=0:=by
 unfold pl at hp;rcases hk with hk | hk<;>(rw[hk] at hp;simp at hp;omega)
theorem PB {c:Aa}{kf:Fo}(V:XX K v c kf)(hk:c.fKind=3∨c.fKind=4):v=[c]:=by
 have h1:=Vz V.vok.pl hk;have h2:=V.vok.n;have h3:kf = .nil:=by
  cases kf with
  | nil=>rfl
  | cell k c r=>simp[Fo.cnt] at h2;omega
  | node k c kids r=>simp[Fo.cnt] at h2;omega
 rw[V.e,h3];rfl
theorem O2 (s p:Av):De s p=some (TT s p):=by
 unfold De GC TT;have e:decide ((p.length:Int)≤(s.length:Int))=decide (p.length≤s.length):=by rw[YD];simp
 rw[e]
 cases h:decide (p.length≤s.length) with
 | false=>rfl
 | true=>rw[C5 (by rw[WD (by omega) (by have:=YH h;omega)];rfl),Ba rfl];rfl
theorem QW (s p:Av):GS s p=some (TT s p):=by
 unfold GS TT;have e:decide ((p.length:Int)≤(s.length:Int))=decide (p.length≤s.length):=by rw[YD];simp
 rw[e]
 cases h:decide (p.length≤s.length) with
 | false=>rfl
 | true=>rw[C5 (by rw[WD (by omega) (by have:=YH h;omega)];rfl)];rfl
theorem QS (hA:Dv K v)(h:CT v=0)(p:Av):Il v p=some (UT v p):=by
 rcases DP hA with⟨h',_⟩ | ⟨c,kf,V⟩
 ·exact absurd h h'
 ·have hl:0<v.length:=by rw[V.e];simp
  unfold Il UT;rw[O2,Bt (by omega) (by omega),JE,Dm]
theorem O9 (hA:Dv K v)(h:CT v=0)(p:Av):HF v p=some (UT v p):=by
 rcases DP hA with⟨h',_⟩ | ⟨c,kf,V⟩
 ·exact absurd h h'
 ·have hat:Ax v 0=c:=by rw[V.e];rfl
  unfold HF UT;rw[QW,Dm,hat];rw[Rb]
  cases hk:decide (c.fKind=4) with
  | false=>
   rw[YL,YK];refine C5 ?_
   cases h1:decide ((v.length:Int)=1) with
   | false=>rfl
   | true=>rw[Uu (by omega) (by have:=YH h1;omega)];rfl
  | true=>
   have:=PB V (.inr (YH hk));rw[this];rfl
theorem QJ (hA:Dv K v)(h:CT v=0)(lo hi:Int):Ih v lo hi=some (Ty v lo hi):=by
 rcases DP hA with⟨h',_⟩ | ⟨c,kf,V⟩
 ·exact absurd h h'
 ·have hl:0<v.length:=by rw[V.e];simp
  unfold Ih Ty;rw[Bt (by omega) (by omega)]
theorem O8 (hA:Dv K v)(h:CT v=0)(lo hi:Int):Ei v lo hi=some (Ty v lo hi):=by
 rcases DP hA with⟨h',_⟩ | ⟨c,kf,V⟩
 ·exact absurd h h'
 ·have hat:Ax v 0=c:=by rw[V.e];rfl
  unfold Ei Ty;rw[hat]
  cases hk:decide (c.fKind=3) with
  | false=>
   rw[YL,YK];refine C5 ?_
   cases h1:decide ((v.length:Int)=1) with
   | false=>rfl
   | true=>rw[Uu (by omega) (by have:=YH h1;omega)];rfl
  | true=>
   have:=PB V (.inl (YH hk));rw[this];rfl
theorem NK {x:List Aa}{l:List (List Aa)}{F:Nat}(hl:l.length≤1000)(hF:K+1000<F)(hK:K≤1000000)(h:∀y∈l,Dv K y):Im F l x=some (Nw x l):=by
 have:UM F l x=some (Nw x l):=by
  unfold UM VH;refine NH (λi h0 hi=>?_) (λi hi=>by unfold Ji;rw[AJ (Yz hi)]) (by omega);have hm:=h _ (IV h0 hi);have hv:=hm.hv;unfold Ji Mc;rw[AZ (Y5 hi),Bt h0 hi,T4 (by omega) (by omega),Ba rfl,Ba rfl,AU (by omega) (by omega)];exact Io
 unfold Im;rw[this,Ba rfl]
theorem LB {x:List Aa}{l:List (List Aa)}{F:Nat}(hx:Dv K x)(hl:l.length≤1000)(hF:K+1000<F)(hK:K≤1000000):IS F x l=some (Nw x l):=by
 have hv:=hx.hv;unfold IS;rw[Ba (Do (t:=λy=>bO (decide (y=x)) true) (l:=l) (λi h0 hi=>?_) (λi hi=>by unfold En;rw[AJ (Yz hi)]) (by omega)),GR]
 ·unfold EQ;rw[Kk];unfold Nw
  cases List.any l _<;>rfl
 ·unfold En;have e:decide (x=Ax l i)=decide (Ax l i=x):=by rw[YD];simp[eq_comm]
  rw[AZ (Y5 hi),Bt h0 hi,Rv (by omega) (by omega),Ba rfl,AU (by omega) (by omega),e];exact Io
variable {f : Ah}
theorem U3 (hf:FA K f)(hA:Dv K v){F:Nat}(hF:4*K+2000<F):LA F f v=some (V2 f v):=by
 have hp:=hf.path;have hK:=hf.K2;have hl:=hf.vals;unfold LA V2;rw[T7 hA hK (by omega) (by omega) (by omega),Ba rfl]
 cases he:decide ((H3 v f.fPath).2=0) with
 | false=>rfl
 | true=>
  have hok:=Px hA (YH he);have hck:=Py hA f.fPath;rw[AJ (by rfl)];show _=some (Xq f _);unfold Xq
  cases h1:decide (f.fOp=1) with
  | true=>rfl
  | false=>
   rw[AJ (by rfl),Y2]
   cases h3:decide (f.fOp=3) with
   | true=>
    rw[AZ (by rfl),Y7,NK (by omega) (by omega) hK hf.val,Ba rfl]
    cases Nw _ _<;>rfl
   | false=>
    rw[AJ (by rfl),Y2]
    cases h4:decide (f.fOp=4) with
    | true=>
     rw[AZ (by rfl),Y7,NK (by omega) (by omega) hK hf.val,Ba rfl]
     cases Nw _ _<;>rfl
    | false=>
     rw[AJ (by rfl),Y2]
     cases h5:decide (f.fOp=5) with
     | true=>rw[AZ (by rfl),Y7,QS hck hok,Ba rfl]
     | false=>
      rw[AJ (by rfl),Y2]
      cases h6:decide (f.fOp=6) with
      | true=>rw[AZ (by rfl),Y7,QJ hck hok,Ba rfl]
      | false=>rfl
theorem VO (hf:FA K f)(hA:Dv K v){F:Nat}(hF:4*K+2000<F):QM F f v=some (Q8 f v):=by
 have hK:=hf.K2;unfold QM Q8;rw[SP hf (by omega),Gg hA hK (by omega),U3 hf hA hF,C5 (by rfl),JE,Rb,Dm,Dm,Dm]
theorem VU (h:Qe f=0):1≤f.fOp∧f.fOp≤6:=by
 unfold Qe at h
 cases h1:decide (4<(f.fPath.length:Int)) with
 | true=>rw[h1] at h;cases h
 | false=>
  rw[h1,Y2] at h
  cases h2:f.fPath.findSome? λs=>eO (Sk s) with
  | some e=>
   rw[h2] at h;have:e=0:=h;subst this;obtain⟨s,_,h3⟩:=List.exists_of_findSome?_eq_some h2;unfold eO at h3
   cases h4:decide (Sk s=0) with
   | true=>rw[h4] at h3;cases h3
   | false=>rw[h4] at h3;exact absurd (Option.some.inj h3) (of_decide_eq_false h4)
  | none=>
   rw[h2] at h
   cases h3:(decide (f.fOp<1)||decide (6<f.fOp)) with
   | true=>rw[h3] at h;cases h
   | false=>simp only[YO,Yx] at h3;omega
theorem SR (hf:FA K f)(hA:Dv K v){F:Nat}(hF:4*K+2000<F):MT F f v=some (Q8 f v):=by
 have hp:=hf.path;have hK:=hf.K2;have hl:=hf.vals;unfold MT Q8;rw[PW hf (by omega),E8 hA hK (by omega),C5 (by rfl),JE,Dm,Dm]
 cases hc:decide (Qe f=0) with
 | false=>rfl
 | true=>
  cases hv:decide (CT v=0) with
  | false=>rfl
  | true=>
   rw[AJ (by rfl),TL hA hK (by omega) (by omega) (by omega),Ba rfl,YC,YC];have hop:=VU (YH hc);unfold V2
   cases he:decide ((H3 v f.fPath).2=0) with
   | false=>
    cases h2:decide (f.fOp=2)<;>rfl
   | true=>
    have hok:=Px hA (YH he);have hck:=Py hA f.fPath
    cases h2:decide (f.fOp=2) with
    | true=>
     have h2':=YH h2;unfold Xq;rw[Yz (show ¬ f.fOp=1 by omega),Yz (show ¬ f.fOp=3 by omega),Yz (show ¬ f.fOp=4 by omega),Yz (show ¬ f.fOp=5 by omega),Yz (show ¬ f.fOp=6 by omega)];rfl
    | false=>
     rw[AJ (by rfl),AJ (by rfl)];show _=some (Xq f _);unfold Xq
     cases h3:decide (f.fOp=3) with
     | true=>
      have h3':=YH h3;rw[YP,AZ (by rfl),LB hck (by omega) (by omega) hK,Ba rfl,Yz (show ¬ f.fOp=1 by omega)];simp only[Y2,Y7]
      cases Nw _ _<;>rfl
     | false=>
      rw[YF]
      cases h4:decide (f.fOp=4) with
      | true=>
       have h4':=YH h4;rw[AZ (by rfl),LB hck (by omega) (by omega) hK,Ba rfl,Yz (show ¬ f.fOp=1 by omega)];simp only[Y2,Y7]
       cases Nw _ _<;>rfl
      | false=>
       rw[AJ (by rfl)]
       cases h5:decide (f.fOp=5) with
       | true=>
        have h5':=YH h5;rw[AZ (by rfl),O9 hck hok,Ba rfl,Yz (show ¬ f.fOp=1 by omega)];rfl
       | false=>
        rw[AJ (by rfl),O8 hck hok,JE,Dm]
        cases h1:decide (f.fOp=1) with
        | true=>rfl
        | false=>
         simp only[Yx] at h1 h2 h3 h4 h5;rw[Y5 (show f.fOp=6 by omega)];rfl
theorem SJ {l:List Ah}(hf:∀f∈l,FA K f)(hl:l.length≤1000)(hA:Dv K v)(hK:K≤1000000){F:Nat}(hF:4*K+2000<F):JB F l v=some (Ox l v):=by
 have h1:XH F l v=some (l.any λf=>!Q8 f v):=by
  unfold XH XW;refine NH (λi h0 hi=>?_) (λi hi=>by unfold Lb;rw[AJ (Yz hi)]) (by omega);unfold Lb Mb;rw[AZ (Y5 hi),Bt h0 hi,VO (hf _ (IV h0 hi)) hA hF,Ba rfl,Ba rfl,AU (by omega) (by omega)];exact Io
 unfold JB Ox;rw[Gg hA hK (by omega),h1]
 cases decide ((l.length:Int)≤32) with
 | false=>rfl
 | true=>
  rw[AZ (by rfl),Ba rfl]
  cases decide (CT v=0) with
  | false=>rfl
  | true=>
   rw[AZ (by rfl),Ba rfl];unfold EB;simp[List.all_eq_not_any_not]
theorem PT {l:List Ah}(hf:∀f∈l,FA K f)(hl:l.length≤1000)(hA:Dv K v)(hK:K≤1000000){F:Nat}(hF:4*K+2000<F):HE F l v=some (Ox l v):=by
 unfold HE Ox;rw[E8 hA hK (by omega),JE,Dm];have e:decide (32<(l.length:Int)) = !decide ((l.length:Int)≤32):=by rw[YD,YB,Yv,Yx];omega
 rw[e]
 cases decide ((l.length:Int)≤32) with
 | false=>rfl
 | true=>
  cases decide (CT v=0) with
  | false=>rfl
  | true=>
   rw[AJ (by rfl),Ba (Do (t:=λf=>bO (!Q8 f v) false) (l:=l) (λi h0 hi=>?_) (λi hi=>by unfold Em;rw[AJ (Yz hi)]) (by omega)),GR]
   ·unfold EN;rw[Kk,YC,YC,List.all_eq_not_any_not]
    cases List.any l _<;>rfl
   ·unfold Em;rw[AZ (Y5 hi),Bt h0 hi,SR (hf _ (IV h0 hi)) hA hF,Ba rfl,AU (by omega) (by omega)];exact Io
end
section
variable {K : Nat} {a b : Ah}
end
def IL {S α:Type}(step:S→Int→α→S):List α→Int→S→S
 | [],_,s=>s
 | a::r,i,s=>IL step r (i+1) (step s i a)
theorem P7 {S α R:Type}[Inhabited α]{l:List α}{step:S→Int→α→S}(inv:S→Int→Prop){body:S→Int→Option (Stp (S×Int) (Out R S))}
  (hs:∀s (x:Int),inv s x→0≤x→x<(l.length:Int)→body s x=some (.next (step s x (Ax l x),x+1))∧inv (step s x (Ax l x)) (x+1))
  (he:∀s (x:Int),inv s x→¬ x<(l.length:Int)→body s x=some (.out (.go s))) {s0:S} (h0:inv s0 0) {F:Nat} (hF:l.length<F) :
  BG (λσ=>body σ.1 σ.2) F (s0,0)=some (.go (IL step l 0 s0))∧inv (IL step l 0 s0) (l.length:Int):=by
 have key:∀(suf pre:List α) (F:Nat) (s:S),l=pre++suf→suf.length<F→inv s (pre.length:Int)→BG (λσ=>body σ.1 σ.2) F (s,(pre.length:Int))=some (.go (IL step suf (pre.length:Int) s))∧inv (IL step suf (pre.length:Int) s) (l.length:Int):=by
  intro suf
  induction suf with
  | nil=>
   intro pre F s e hF hi;obtain⟨n,rfl⟩:∃n,F=n+1:=⟨F-1,by omega⟩
   exact⟨CZ (he s _ hi (by rw[e];simp)),by rw[e,YY];exact hi⟩
  | cons a r ih=>
   intro pre F s e hF hi;simp only[Y0] at hF;obtain⟨n,rfl⟩:∃n,F=n+1:=⟨F-1,by omega⟩
   have h2:Ax l (pre.length:Int)=a:=by rw[e];exact Iq pre r a rfl
   obtain⟨h1,h3⟩:=hs s (pre.length:Int) hi (by omega) (by rw[e];simp;omega);rw[h2] at h1 h3;have e2:((pre.length:Int)+1)=((pre++[a]).length:Int):=by simp
   rw[e2] at h1 h3;obtain⟨h4,h5⟩:=ih (pre++[a]) n _ (by rw[e];simp) (by omega) h3;rw[IL,e2];exact⟨Ix h1 h4,h5⟩
 exact key l [] F s0 rfl hF h0
def UZ (v:List Aa):Bool:=!decide (300<(v.length:Int))&&v.all λc=>!decide (5000<(c.fStr.length:Int))
def Xn (f:Ah):Bool:=!(decide (10<(f.fPath.length:Int))||(decide (20<(f.fValues.length:Int))||decide (1000<(f.fText.length:Int))))&&(f.fPath.all (λs=>!decide (1000<(s.length:Int)))&&f.fValues.all UZ)
def Xv (l:List Ah):Bool:=!decide (40<(l.length:Int))&&l.all Xn
theorem RL {α:Type}{p:α→Bool}(l:List α):(bif l.any (λa=>!p a) then false else true)=l.all p:=by
 rw[List.all_eq_not_any_not];cases l.any _<;>rfl
theorem RM {α:Type}{p:α→Bool}(l:List α):(l.all λa=>!p a) = !l.any p:=by
 induction l with
 | nil=>rfl
 | cons a r ih=>rw[List.all_cons,List.any_cons,ih,Bool.not_or]
theorem HC {F:Nat}{v:List Aa}(hF:300<F):Dr F v=some (UZ v):=by
 unfold Dr UZ
 cases h:decide (300<(v.length:Int)) with
 | true=>rfl
 | false=>
  simp only[Yx] at h;rw[AJ (by rfl),Ba (Do (t:=λc:Aa=>bO (decide (5000<(c.fStr.length:Int))) false) (l:=v) (λi h0 hi=>?_) (λi hi=>by unfold CI;rw[AJ (Yz hi)]) (by omega)),GR]
  ·unfold Df;rw[Kk,YJ,YC,RM]
   cases List.any v _<;>rfl
  ·unfold CI;rw[AZ (Y5 hi),Bt h0 hi,AU (by omega) (by omega)];exact Io
theorem PR {F:Nat}{f:Ah}(hF:300<F):IR F f=some (Xn f):=by
 unfold IR Xn
 cases h:(decide (10<(f.fPath.length:Int))||(decide (20<(f.fValues.length:Int))||decide (1000<(f.fText.length:Int)))) with
 | true=>rfl
 | false=>
  simp only[YO,Yx] at h;rw[AJ (by rfl),YJ,YC,Ba (Do (t:=λs:Av=>bO (decide (1000<(s.length:Int))) false) (l:=f.fPath) (λi h0 hi=>?_) (λi hi=>by unfold El;rw[AJ (Yz hi)]) (by omega)),GR]
  ·have h2:Ej F f=some (f.fValues.all UZ):=by
    unfold Ej;rw[Ba (Do (t:=λv=>bO (!UZ v) false) (l:=f.fValues) (λi h0 hi=>?_) (λi hi=>by unfold Ek;rw[AJ (Yz hi)]) (by omega)),GR]
    ·unfold EM;rw[Kk,RL]
    ·unfold Ek;rw[AZ (Y5 hi),Bt h0 hi,HC hF,Ba rfl,AU (by omega) (by omega)];exact Io
   rw[h2,RM]
   cases List.any f.fPath _<;>rfl
  ·unfold El;rw[AZ (Y5 hi),Bt h0 hi,AU (by omega) (by omega)];exact Io
theorem SE {F:Nat}{l:List Ah}(hF:300<F):Ig F l=some (Xv l):=by
 unfold Ig Xv
 cases h:decide (40<(l.length:Int)) with
 | true=>rfl
 | false=>
  simp only[Yx] at h;rw[AJ (by rfl),YJ,YC,Ba (Do (t:=λf=>bO (!Xn f) false) (l:=l) (λi h0 hi=>?_) (λi hi=>by unfold Gn;rw[AJ (Yz hi)]) (by omega)),GR]
  ·unfold H5;rw[Kk,RL]
  ·unfold Gn;rw[AZ (Y5 hi),Bt h0 hi,PR hF,Ba rfl,AU (by omega) (by omega)];exact Io
def XS (y:Ah):Bool:=(λys:(List Av)=>ys.all R2&&decide (ys.length≤9223372036854775807)) y.fPath&&(BB .i64) y.fOp&&(λys:(List (List Aa))=>ys.all (λys:(List Aa)=>ys.all KS&&decide (ys.length≤9223372036854775807))&&decide (ys.length≤9223372036854775807)) y.fValues&&R2 y.fText&&(BB .i64) y.fLow&&(BB .i64) y.fHigh
theorem Dv.sm {v:List Aa}(hs:UZ v=true)(hc:v.all KS=true):Dv 5000 v:=by
 unfold UZ at hs;simp only[Y1,YB,Yx,YU] at hs hc;refine⟨by decide,by omega,λc h=>?_⟩;have h1:=hs.2 c h;have h2:=hc c h;unfold KS at h2;simp only[Y1] at h2;exact⟨by omega,h2.1.1.2,(GO h2.2).2⟩
theorem FA.sm {f:Ah}(hs:Xn f=true)(ho:XS f=true):FA 5000 f:=by
 unfold Xn at hs;unfold XS at ho;simp only[Y1,YB,YO,Yx,YU] at hs ho;obtain⟨⟨a1,a2,a3⟩,a4,a5⟩:=hs;refine⟨by omega,λs h=>?_,by omega,λv h=>Dv.sm (a5 v h) ?_,by omega,by decide,by decide⟩
 ·have:=a4 s h;omega
 ·have:=(ho.1.1.1.2.1 v h).1;exact List.all_eq_true.2 this
theorem FAs.sm {l:List Ah}(hs:Xv l=true)(ho:l.all XS=true):(∀f∈l,FA 5000 f)∧l.length≤40:=by
 unfold Xv at hs;simp only[Y1,YB,Yx,YU] at hs ho;exact⟨λf h=>FA.sm (hs.2 f h) (ho f h),by omega⟩
theorem Nh:KY 40000=some true:=by decide +kernel
end Go.Proofs.YtghdglcmblpbeaaGreatDoor
namespace Go.Proofs.YtghdglcmblpbeaaGreatDoor
open Go
set_option linter.unusedVariables false
set_option linter.unusedSimpArgs false
def M5 (l:List Ah)(out:List Int)(x:Int)(e:Cf):List Int:=bif Ox l e.fBody then out++[x] else out
theorem UG {α:Type}{n:Nat}{x:Option α}(h:n≤1000000):AY (Ey 8 n) x=x:=C5 (Y5 (by omega))
section
variable {l : List Ah} {ev : List Cf}
theorem Ru (hl:l.length≤40)(he:ev.length≤40)(m:List Ah→List Aa→Option Bool)(hm:∀e∈ev,m l e.fBody=some (Ox l e.fBody)){body:List Int→Int→Option (Stp (List Int×Int) (Out (List Int) (List Int)))}
  (hb:∀out x,body out x=AS (decide (x<(ev.length:Int))) (AY (Cu x (ev.length:Int))<|Be (m l ((Ax ev x).fBody)) λr=>AS (r) (AY (Ey 8 (out.length+([x]:List Int).length))<|(AY (BB .i64 (x+1))<|some (.next (out++([x]:List Int),x+1)))) (AY (BB .i64 (x+1))<|some (.next (out,x+1)))) (some (.out (.go out)))) {F:Nat} (hF:100<F) :
  BG (λσ=>body σ.1 σ.2) F ([],0)=some (.go (IL (M5 l) ev 0 [])):=by
 refine(P7 (step:=M5 l) (l:=ev) (λout x=>(out.length:Int)≤x) (λout x hi h0 hx=>?_) (λout x hi hx=>by rw[hb,AJ (Yz hx)]) (by simp) (by omega)).1;refine⟨?_,?_⟩
 ·rw[hb,AZ (Y5 hx),Bt h0 hx,hm _ (IV h0 hx),Ba rfl,UG (by simp;omega),AU (by omega) (by omega),AU (by omega) (by omega)];unfold M5
  cases Ox l _<;>rfl
 ·unfold M5
  cases Ox l _
  ·show(out.length:Int)≤x+1;omega
  ·show((out++[x]).length:Int)≤x+1;rw[Y4,YI];omega
theorem Oy (ha:l.all XS=true)(he:∀e∈ev,e.fBody.all KS=true):IK 40000 l ev=some true:=by
 unfold IK;rw[SE (by omega),Nh,C5 (by rfl),Dm]
 cases h1:Xv l with
 | false=>rfl
 | true=>
  cases h0:decide (40<(ev.length:Int)) with
  | true=>rfl
  | false=>
   simp only[Yx] at h0;obtain⟨fs,ln⟩:=FAs.sm h1 ha;rw[AJ (by rfl),Ba (Do (t:=λe=>bO (!UZ e.fBody) true) (l:=ev) (λi hi0 hi=>?_) (λi hi=>by unfold Eg;rw[AJ (Yz hi)]) (by omega)),GR]
   ·cases hs:ev.any λe=>!UZ e.fBody with
    | true=>rfl
    | false=>
     have hsm:∀e∈ev,Dv 5000 e.fBody:=λe h=>Dv.sm (by
      cases hq:UZ e.fBody with
      | true=>rfl
      | false=>rw[List.any_eq_true.2 ⟨e,h,by rw[hq];rfl⟩] at hs;cases hs) (he e h)
     have e1:KF 40000 l ev=some (IL (M5 l) ev 0 []):=by
      unfold KF;rw[Ba (Ru (body:=G4 40000 l ev) (by omega) (by omega) (JB 40000) (λe h=>SJ fs (by omega) (hsm e h) (by decide) (by omega)) (λout x=>rfl) (by omega))];rfl
     have e2:HD 40000 l ev=some (IL (M5 l) ev 0 []):=by
      unfold HD;rw[Ba (Ru (body:=E0 40000 l ev) (by omega) (by omega) (HE 40000) (λe h=>PT fs (by omega) (hsm e h) (by decide) (by omega)) (λout x=>rfl) (by omega))];rfl
     show Ee 40000 l ev=some true;unfold Ee;rw[e1,e2,Ba rfl,Ba rfl,Y5 rfl,AJ (by rfl)];have hlen:(IL (M5 l) ev 0 []).length≤40:=by
      have h:=(P7 (R:=Unit) (step:=M5 l) (l:=ev) (λout x=>(out.length:Int)≤x) (body:=λout x=>AS (decide (x<(ev.length:Int))) (some (.next (M5 l out x (Ax ev x),x+1))) (some (.out (.go out)))) (s0:=[]) (λout x hi h0 hx=>⟨AZ (Y5 hx),by
       unfold M5
       cases Ox l _
       ·show(out.length:Int)≤x+1;omega
       ·show((out++[x]).length:Int)≤x+1;rw[Y4,YI];omega⟩) (λout x hi hx=>AJ (Yz hx)) (by simp) (F:=40000) (by omega)).2
      omega
     generalize IL (M5 l) ev 0 []=r at *;rw[Ba (Do (t:=λ_=>(none:Option Bool)) (l:=r) (λi hi0 hi=>?_) (λi hi=>by unfold Ef;rw[AJ (Yz hi)]) (by omega))]
     ·rw[List.findSome?_eq_none_iff.2 (λ_ _=>rfl)];show Ed 40000=some true;unfold Ed;rw[Nh,Ba rfl]
     ·unfold Ef;rw[AZ (Y5 hi),Bt hi0 hi,Bt hi0 hi,Y5 rfl,AJ (by rfl),AU (by omega) (by omega)];rfl
   ·unfold Eg;rw[AZ (Y5 hi),Bt hi0 hi,HC (by omega),Ba rfl,Nh,Ba rfl,AU (by omega) (by omega)];exact Io
end
end Go.Proofs.YtghdglcmblpbeaaGreatDoor
namespace Go.Proofs.YtghdglcmblpbeaaGreatDoor.lawFilterSelects
open Go
theorem Yo:Ys:=λ_ _ h1 h2=>⟨40000,Oy (Bool.and_eq_true_iff.1 h1).1 (λe he=>by
 have h3:=List.all_eq_true.1 (Bool.and_eq_true_iff.1 h2).1 e he;exact(Bool.and_eq_true_iff.1 (Bool.and_eq_true_iff.1 h3).2).1)⟩
end Go.Proofs.YtghdglcmblpbeaaGreatDoor.lawFilterSelects
