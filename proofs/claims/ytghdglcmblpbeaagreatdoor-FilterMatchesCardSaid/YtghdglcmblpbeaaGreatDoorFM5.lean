/-
  Texts of the proof, put together: WFd, OkFilterMatches, LvA, LvB, LvC, LvD, LvE, LvF, LvG, LvH, LvI, LvJ, LvK, LvL, LvM, LvN, LvO, LvP, LcA, LcB, LcC, LcD, LcE, LcF, LcG, LfA, LfB, LgA, LfC, LgB, LgC, LgD, LwFiMatches.
-/
import Derived.Test.YtghdglcmblpbeaaGreatDoorFM4
import GoSem.ClaimData
namespace Go.Proofs.YtghdglcmblpbeaaGreatDoor.Q
open Go Go.RowKit
set_option linter.unusedVariables false
set_option linter.unusedSimpArgs false
set_option maxRecDepth 100000
set_option maxHeartbeats 4000000
theorem L8 {n:Nat}{c:Cx}{l:Fr}{H:List Ent}{d:Option Nat}{ty:TypeId}{pos:String}{af:Array Edge}{g:Option (Nat×Bool)}{x0:Operand}{r0:Rp}(h0:ev l x0=some r0)(u0:r0.one=true){x1:Operand}{r1:Rp}(h1:ev l x1=some r1)(u1:r1.one=true){x2:Operand}{r2:Rp}(h2:ev l x2=some r2)(u2:r2.one=true):Bz Tryz.prog n c l H { dst:=d,op:=.build 26 #[(0,x0),(1,x1),(2,x2)],type:=ty,pos:=pos,after:=af,guard:=g } (Bs [r0,r1,r2,rS ([]:Au),Al 0,Al 0]):=λa w Z ha _=>by
  have p0:=ha.ev h0;have c0:=BW (r0.hone u0 Z _ p0);have p1:=ha.ev h1;have c1:=BW (r1.hone u1 Z _ p1);have p2:=ha.ev h2;have c2:=BW (r2.hone u2 Z _ p2);have hb:Tryz.prog.built 26 [(0,a.eval x0),(1,a.eval x1),(2,a.eval x2)]=some #[a.eval x0,a.eval x1,a.eval x2,(.string ⟨#[]⟩),(.int .i64 0),(.int .i64 0)]:=by
    rw[O9];generalize a.eval x0=v0 at *;generalize a.eval x1=v1 at *;generalize a.eval x2=v2 at *;simp[Instr.fill,c0,c1,c2]
  refine⟨.agg #[a.eval x0,a.eval x1,a.eval x2,(.string ⟨#[]⟩),(.int .i64 0),(.int .i64 0)],⟨[a.eval x0,a.eval x1,a.eval x2,(.string ⟨#[]⟩),(.int .i64 0),(.int .i64 0)],rfl,p0,p1,p2,rfl,rfl,rfl,trivial⟩,?_⟩;have:=run_build w 26 #[(0,a.eval x0),(1,a.eval x1),(2,a.eval x2)] _ (by simpa using hb);simp[execOp,this]
theorem GJ {n:Nat}{c:Cx}{l:Fr}{H:List Ent}{d:Option Nat}{ty:TypeId}{pos:String}{af:Array Edge}{g:Option (Nat×Bool)}{x0:Operand}{r0:Rp}(h0:ev l x0=some r0)(u0:r0.one=true){x1:Operand}{r1:Rp}(h1:ev l x1=some r1)(u1:r1.one=true){x4:Operand}{r4:Rp}(h4:ev l x4=some r4)(u4:r4.one=true){x5:Operand}{r5:Rp}(h5:ev l x5=some r5)(u5:r5.one=true):Bz Tryz.prog n c l H { dst:=d,op:=.build 26 #[(0,x0),(1,x1),(4,x4),(5,x5)],type:=ty,pos:=pos,after:=af,guard:=g } (Bs [r0,r1,rv (.slice none 0 0),rS ([]:Au),r4,r5]):=λa w Z ha _=>by
  have p0:=ha.ev h0;have c0:=BW (r0.hone u0 Z _ p0);have p1:=ha.ev h1;have c1:=BW (r1.hone u1 Z _ p1);have p4:=ha.ev h4;have c4:=BW (r4.hone u4 Z _ p4);have p5:=ha.ev h5;have c5:=BW (r5.hone u5 Z _ p5);have hb:Tryz.prog.built 26 [(0,a.eval x0),(1,a.eval x1),(4,a.eval x4),(5,a.eval x5)]=some #[a.eval x0,a.eval x1,((.slice none 0 0)),(.string ⟨#[]⟩),a.eval x4,a.eval x5]:=by
    rw[O9];generalize a.eval x0=v0 at *;generalize a.eval x1=v1 at *;generalize a.eval x4=v4 at *;generalize a.eval x5=v5 at *;simp[Instr.fill,c0,c1,c4,c5]
  refine⟨.agg #[a.eval x0,a.eval x1,((.slice none 0 0)),(.string ⟨#[]⟩),a.eval x4,a.eval x5],⟨[a.eval x0,a.eval x1,((.slice none 0 0)),(.string ⟨#[]⟩),a.eval x4,a.eval x5],rfl,p0,p1,rfl,rfl,p4,p5,trivial⟩,?_⟩;have:=run_build w 26 #[(0,a.eval x0),(1,a.eval x1),(4,a.eval x4),(5,a.eval x5)] _ (by simpa using hb);simp[execOp,this]
theorem MB (n:Int)(r:(List Aa))(h:Kg n=some r):Fn Tryz.prog GE 28 [Al n] [] (λR H=>R=AD 4 (A1 Ab r)∧H=[]):=by
 refine enter (n:=6) Tryz.func28 rfl Tryz.ntmps28 rfl (λw Z=>?_);unfold Kg at h;refine Af (wa rfl (Bb (wm rfl (wv (r:=Bs [Al 3,Al n,rS ([]:Au),Al 0]) (DY rfl rfl rfl rfl) (AY (ys:=([(Aa.mk 3 n ([]:Au) 0)]:List Aa)) (enc:=Ab) (css:=[[Al 3,Al n,rS ([]:Au),Al 0]]) (xs:=[.tmp 4]) Bp By GT rfl rfl rfl ⟨E1.agg ⟨Up.refl _,Up.refl _,Up.refl _,Up.refl _,trivial⟩,trivial⟩ rfl Bf rfl rfl rfl (λb1=>?_))))));refine wa rfl (Ak (Ap (WK.freeze (i:=0) rfl (WK.up (d:=2) (r:=AD 4 (A1 Ab ([(Aa.mk 3 n ([]:Au) 0)]:List Aa))) rfl (Up.fact (i:=0) rfl) ?_))));obtain rfl:=An h;exact Ao (Bq Tryz.results28 (A6 rfl)) (sS sN) ⟨rfl,rfl⟩
theorem P3 (F:Nat)  (r:Bool)(h:Gy F=some r):Fn Tryz.prog GE 12 [] [] (λR H=>R=rB r∧H=[]):=by
 refine enter (n:=71) Tryz.func12 rfl Tryz.ntmps12 rfl (λw Z=>?_);unfold Gy at h;refine Af (wa rfl (Bb (AY (ys:=([([97]:Au)]:List Au)) (enc:=eS) (css:=[[rS ([97]:Au)]]) (xs:=[.const (.string ⟨#[97]⟩)]) CW CE VQ rfl rfl rfl ⟨E1.one rfl (Up.refl _),trivial⟩ rfl Ha rfl rfl rfl (λb1=>?_))));refine wv (r:=Bs [rv (.slice (some ⟨b1,0,none⟩) 1 1),Al 6,rv (.slice none 0 0),rS ([]:Au),Al 1,Al 5]) (GJ rfl rfl rfl rfl rfl rfl rfl rfl) (Cf (cs:=[rv (.slice none 0 0),Al 0,rv (.slice none 0 0),rS ([]:Au),Al 0,Al 0]) OH rfl rfl (λb2=>?_));refine Bj (i:=0) B9 rfl rfl rfl ⟨(CT (i:=1) rfl),(BO rfl),(BO rfl),(BO rfl),(BO rfl),(BO rfl),trivial⟩ rfl rfl (cs':=[rv (.slice (some ⟨b1,0,none⟩) 1 1),Al 6,rv (.slice none 0 0),rS ([]:Au),Al 1,Al 5]) rfl (H':=[.blk b2 [rv (.slice (some ⟨b1,0,none⟩) 1 1),Al 6,rv (.slice none 0 0),rS ([]:Au),Al 1,Al 5] 26,.row (.slice (some ⟨b1,0,none⟩) 1 1) 9 1 (A1 eS ([([97]:Au)]:List Au))]) rfl (Bb (wv (r:=Bs [Al 6,Al 0,rS ([]:Au),Al 1]) (Jn rfl rfl rfl rfl) (wv (r:=Bs [Al 4,Al 0,rS ([97]:Au),Al 0]) (DX rfl rfl rfl rfl) (wv (r:=Bs [Al 3,Al 3,rS ([]:Au),Al 0]) (DY rfl rfl rfl rfl) (AY (ys:=([(Aa.mk 6 0 ([]:Au) 1),(Aa.mk 4 0 ([97]:Au) 0),(Aa.mk 3 3 ([]:Au) 0)]:List Aa)) (enc:=Ab) (css:=[[Al 6,Al 0,rS ([]:Au),Al 1],[Al 4,Al 0,rS ([97]:Au),Al 0],[Al 3,Al 3,rS ([]:Au),Al 0]]) (xs:=[.tmp 11,.tmp 12,.tmp 13]) Bp By GT rfl rfl rfl ⟨E1.agg ⟨Up.refl _,Up.refl _,Up.refl _,Up.refl _,trivial⟩,E1.agg ⟨Up.refl _,Up.refl _,Up.refl _,Up.refl _,trivial⟩,E1.agg ⟨Up.refl _,Up.refl _,Up.refl _,Up.refl _,trivial⟩,trivial⟩ rfl Bf rfl rfl rfl (λb3=>?_))))));refine wa rfl (Bb (wv (AF (i:=1) BU B9 rfl rfl rfl rfl) (WL.freeze (i:=2) rfl (WL.up (d:=16) (r:=Bs [AD 1 (A1 eS ([([97]:Au)]:List Au)),Al 6,rv (.slice none 0 0),rS ([]:Au),Al 1,Al 5]) rfl (Up.agg ⟨Up.fact (i:=0) rfl,Up.refl _,Up.refl _,Up.refl _,Up.refl _,Up.refl _,trivial⟩) (WL.up (d:=16) (r:=Bs [AD 1 (A1 eS ([([97]:Au)]:List Au)),Al 6,AD 1 (A1 Ae ([]:List (List Aa))),rS ([]:Au),Al 1,Al 5]) rfl (Up.agg ⟨Up.refl _,Up.refl _,Up.le (DL.nil _),Up.refl _,Up.refl _,Up.refl _,trivial⟩) (ob h λr4 e6 h5=>BQ Tryz.call19 (Sz F (Ah.mk ([([97]:Au)]:List Au) 6 ([]:List (List Aa)) ([]:Au) 1 5) r4 e6) rfl (wm rfl (wv (A7 rfl rfl) (wv (A7 rfl rfl) (wa rfl (wa rfl (Bb (ob h5 λr7 e9 h8=>BQ Tryz.call21 (Ud F ([91,91,34,97,34,93,44,34,114,97,110,103,101,34,44,49,44,53,93]:Au) r7 e9) rfl (wm rfl (wv (A7 rfl rfl) (wv (A7 rfl rfl) (Cf (cs:=[rv (.slice none 0 0),Al 0,rv (.slice none 0 0),rS ([]:Au),Al 0,Al 0]) OH rfl rfl (λhq=>?_))))))))))))))))));refine Bj (i:=0) B9 rfl rfl rfl (BR.c rfl) rfl rfl (cs':=[AD 1 (A1 eS r7.1.fPath),Al r7.1.fOp,AD 1 (A1 Ae r7.1.fValues),rS r7.1.fText,Al r7.1.fLow,Al r7.1.fHigh]) rfl (H':=[.blk hq (Ad r7.1) 26,.fact (.slice (some ⟨b1,0,none⟩) 1 1) (AD 1 (A1 eS ([([97]:Au)]:List Au))),.row (.slice (some ⟨b3,0,none⟩) 3 3) 54 4 (A1 Ab ([(Aa.mk 6 0 ([]:Au) 1),(Aa.mk 4 0 ([97]:Au) 0),(Aa.mk 3 3 ([]:Au) 0)]:List Aa)),.blk b2 [rv (.slice (some ⟨b1,0,none⟩) 1 1),Al 6,rv (.slice none 0 0),rS ([]:Au),Al 1,Al 5] 26]) rfl (wa rfl (Bb (AY (ys:=([([97]:Au)]:List Au)) (enc:=eS) (css:=[[rS ([97]:Au)]]) (xs:=[.const (.string ⟨#[97]⟩)]) CW CE VQ rfl rfl rfl ⟨E1.one rfl (Up.refl _),trivial⟩ rfl Ha rfl rfl rfl (λhb=>?_))));refine wv (r:=Bs [rv (.slice (some ⟨hb,0,none⟩) 1 1),Al 6,rv (.slice none 0 0),rS ([]:Au),Al 2,Al 3]) (GJ rfl rfl rfl rfl rfl rfl rfl rfl) (Cf (cs:=[rv (.slice none 0 0),Al 0,rv (.slice none 0 0),rS ([]:Au),Al 0,Al 0]) OH rfl rfl (λhx=>?_));refine Bj (i:=0) B9 rfl rfl rfl ⟨(CT (i:=1) rfl),(BO rfl),(BO rfl),(BO rfl),(BO rfl),(BO rfl),trivial⟩ rfl rfl (cs':=[rv (.slice (some ⟨hb,0,none⟩) 1 1),Al 6,rv (.slice none 0 0),rS ([]:Au),Al 2,Al 3]) rfl (H':=[.blk hx [rv (.slice (some ⟨hb,0,none⟩) 1 1),Al 6,rv (.slice none 0 0),rS ([]:Au),Al 2,Al 3] 26,.row (.slice (some ⟨hb,0,none⟩) 1 1) 9 1 (A1 eS ([([97]:Au)]:List Au)),.blk hq (Ad r7.1) 26,.fact (.slice (some ⟨b1,0,none⟩) 1 1) (AD 1 (A1 eS ([([97]:Au)]:List Au))),.row (.slice (some ⟨b3,0,none⟩) 3 3) 54 4 (A1 Ab ([(Aa.mk 6 0 ([]:Au) 1),(Aa.mk 4 0 ([97]:Au) 0),(Aa.mk 3 3 ([]:Au) 0)]:List Aa)),.blk b2 [rv (.slice (some ⟨b1,0,none⟩) 1 1),Al 6,rv (.slice none 0 0),rS ([]:Au),Al 1,Al 5] 26]) rfl (Bb (AY (ys:=([([97]:Au)]:List Au)) (enc:=eS) (css:=[[rS ([97]:Au)]]) (xs:=[.const (.string ⟨#[97]⟩)]) CW CE VQ rfl rfl rfl ⟨E1.one rfl (Up.refl _),trivial⟩ rfl Ha rfl rfl rfl (λhm=>?_)));refine ob h8 λha hy hz=>BQ Tryz.call28 (MB 2 ha hy) rfl (AY (ys:=([ha]:List (List Aa))) (enc:=Ae) (css:=[[AD 4 (A1 Ab ha)]]) (xs:=[.tmp 27]) BX Cl Mb rfl rfl rfl ⟨E1.one rfl (Up.refl _),trivial⟩ rfl B5 rfl rfl rfl (λhn=>?_));refine wv (r:=Bs [rv (.slice (some ⟨hm,0,none⟩) 1 1),Al 4,rv (.slice (some ⟨hn,0,none⟩) 1 1),rS ([]:Au),Al 0,Al 0]) (L8 rfl rfl rfl rfl rfl rfl) (Cf (cs:=[rv (.slice none 0 0),Al 0,rv (.slice none 0 0),rS ([]:Au),Al 0,Al 0]) OH rfl rfl (λh0=>?_));refine Bj (i:=0) B9 rfl rfl rfl ⟨(CT (i:=2) rfl),(BO rfl),(CT (i:=1) rfl),(BO rfl),(BO rfl),(BO rfl),trivial⟩ rfl rfl (cs':=[rv (.slice (some ⟨hm,0,none⟩) 1 1),Al 4,rv (.slice (some ⟨hn,0,none⟩) 1 1),rS ([]:Au),Al 0,Al 0]) rfl (H':=[.blk h0 [rv (.slice (some ⟨hm,0,none⟩) 1 1),Al 4,rv (.slice (some ⟨hn,0,none⟩) 1 1),rS ([]:Au),Al 0,Al 0] 26,.row (.slice (some ⟨hn,0,none⟩) 1 1) 28 1 (A1 Ae ([ha]:List (List Aa))),.row (.slice (some ⟨hm,0,none⟩) 1 1) 9 1 (A1 eS ([([97]:Au)]:List Au)),.blk hx [rv (.slice (some ⟨hb,0,none⟩) 1 1),Al 6,rv (.slice none 0 0),rS ([]:Au),Al 2,Al 3] 26,.row (.slice (some ⟨hb,0,none⟩) 1 1) 9 1 (A1 eS ([([97]:Au)]:List Au)),.blk hq (Ad r7.1) 26,.fact (.slice (some ⟨b1,0,none⟩) 1 1) (AD 1 (A1 eS ([([97]:Au)]:List Au))),.row (.slice (some ⟨b3,0,none⟩) 3 3) 54 4 (A1 Ab ([(Aa.mk 6 0 ([]:Au) 1),(Aa.mk 4 0 ([97]:Au) 0),(Aa.mk 3 3 ([]:Au) 0)]:List Aa)),.blk b2 [rv (.slice (some ⟨b1,0,none⟩) 1 1),Al 6,rv (.slice none 0 0),rS ([]:Au),Al 1,Al 5] 26]) rfl (Ak (Am (WC.upBlk (i:=8) (cs':=[AD 1 (A1 eS ([([97]:Au)]:List Au)),Al 6,AD 1 (A1 Ae ([]:List (List Aa))),rS ([]:Au),Al 1,Al 5]) rfl ⟨Up.fact (i:=6) rfl,Up.refl _,Up.le (DL.nil _),Up.refl _,Up.refl _,Up.refl _,trivial⟩ (WC.freeze (i:=4) rfl (WC.upBlk (i:=4) (cs':=[AD 1 (A1 eS ([([97]:Au)]:List Au)),Al 6,AD 1 (A1 Ae ([]:List (List Aa))),rS ([]:Au),Al 2,Al 3]) rfl ⟨Up.fact (i:=0) rfl,Up.refl _,Up.le (DL.nil _),Up.refl _,Up.refl _,Up.refl _,trivial⟩ (WC.freeze (i:=3) rfl (WC.freeze (i:=3) rfl (WC.upBlk (i:=3) (cs':=[AD 1 (A1 eS ([([97]:Au)]:List Au)),Al 4,AD 1 (A1 Ae ([ha]:List (List Aa))),rS ([]:Au),Al 0,Al 0]) rfl ⟨Up.fact (i:=1) rfl,Up.refl _,Up.fact (i:=0) rfl,Up.refl _,Up.refl _,Up.refl _,trivial⟩ (WC.freeze (i:=7) rfl (WC.up (d:=2) (r:=AD 4 (A1 Ab ([(Aa.mk 6 0 ([]:Au) 1),(Aa.mk 4 0 ([97]:Au) 0),(Aa.mk 3 3 ([]:Au) 0)]:List Aa))) rfl (Up.fact (i:=0) rfl) (ob hz λhf h1 h2=>ck h2 λhg h3=>ob h3 λhr h4 h6=>ob h6 λhh h7 h9=>ck h9 λhs hA=>ck hA λht hB=>ck hB λhu hC=>ck hC λho hD=>ob hD λhi hE hG=>ck hG λhp hH=>ob hH λhj hI hJ=>ck hJ λhk hK=>ob hK λhe hL hN=>?_)))))))))));refine ck hN λhw hO=>ob hO λhl hP hQ=>C3 [1,2,3,4,5,6,7,8] [⟨[],Bs [AD 1 (A1 eS ([([97]:Au)]:List Au)),Al 6,AD 1 (A1 Ae ([]:List (List Aa))),rS ([]:Au),Al 1,Al 5],1⟩,⟨[],AD 4 (A1 Ab ([(Aa.mk 6 0 ([]:Au) 1),(Aa.mk 4 0 ([97]:Au) 0),(Aa.mk 3 3 ([]:Au) 0)]:List Aa)),0⟩,⟨[0,1],rB hf,0⟩,⟨[2],rB hf,0⟩,⟨[3],Bs [AD 1 (A1 eS ([([97]:Au)]:List Au)),Al 6,AD 1 (A1 Ae ([]:List (List Aa))),rS ([]:Au),Al 1,Al 5],1⟩,⟨[3],AD 4 (A1 Ab hr),0⟩,⟨[4,5,3],rB hh,0⟩,⟨[6,3],rB (!hh),0⟩,⟨[3,7],rB (!hh),0⟩,⟨[8],rB (!hh),0⟩,⟨[9],rS r4.1,0⟩,⟨[10,9],rB (decide (r4.1=([91,91,34,97,34,93,44,34,114,97,110,103,101,34,44,49,44,53,93]:Au))),0⟩,⟨[9,11],rB (decide (r4.1=([91,91,34,97,34,93,44,34,114,97,110,103,101,34,44,49,44,53,93]:Au))),0⟩,⟨[12],rB (decide (r4.1=([91,91,34,97,34,93,44,34,114,97,110,103,101,34,44,49,44,53,93]:Au))),0⟩,⟨[13],Al r4.2,0⟩,⟨[14,13],rB (decide (r4.2=0)),0⟩,⟨[13,15],rB (decide (r4.2=0)),0⟩,⟨[16],rB (decide (r4.2=0)),0⟩,⟨[17],Al r7.2,0⟩,⟨[18,17],rB (decide (r7.2=0)),0⟩,⟨[17,19],rB (decide (r7.2=0)),0⟩,⟨[20],rB (decide (r7.2=0)),0⟩,⟨[21],Bs [AD 1 (A1 eS ([([97]:Au)]:List Au)),Al 6,AD 1 (A1 Ae ([]:List (List Aa))),rS ([]:Au),Al 1,Al 5],1⟩,⟨[21],Bs (Ad r7.1),1⟩,⟨[22,23,21],rB hi,0⟩,⟨[21,24],rB hi,0⟩,⟨[25],rB hi,0⟩,⟨[26],Bs [AD 1 (A1 eS ([([97]:Au)]:List Au)),Al 6,AD 1 (A1 Ae ([]:List (List Aa))),rS ([]:Au),Al 2,Al 3],1⟩,⟨[26],Bs [AD 1 (A1 eS ([([97]:Au)]:List Au)),Al 6,AD 1 (A1 Ae ([]:List (List Aa))),rS ([]:Au),Al 1,Al 5],1⟩,⟨[27,28,26],rB hj,0⟩,⟨[26,29],rB hj,0⟩,⟨[30],rB hj,0⟩,⟨[31],Bs [AD 1 (A1 eS ([([97]:Au)]:List Au)),Al 6,AD 1 (A1 Ae ([]:List (List Aa))),rS ([]:Au),Al 2,Al 3],1⟩,⟨[31],Bs [AD 1 (A1 eS ([([97]:Au)]:List Au)),Al 4,AD 1 (A1 Ae ([ha]:List (List Aa))),rS ([]:Au),Al 0,Al 0],1⟩,⟨[32,33,31],rB he,0⟩,⟨[34,31],rB (!he),0⟩,⟨[31,35],rB (!he),0⟩,⟨[36],rB (!he),0⟩,⟨[37],AD 4 (A1 Ab ([(Aa.mk 6 0 ([]:Au) 1),(Aa.mk 4 0 ([97]:Au) 0),(Aa.mk 3 3 ([]:Au) 0)]:List Aa)),0⟩,⟨[38,37],rB hl,0⟩,⟨[37,39],rB hl,0⟩,⟨[40],rB hl,0⟩] [0] ?_ ?_
 ·refine of (AF (i:=8) BU B9 rfl rfl rfl rfl) (oq (A2 rfl) (Cz rfl (λH=>C7 RD (KW F (Ah.mk ([([97]:Au)]:List Au) 6 ([]:List (List Aa)) ([]:Au) 1 5) ([(Aa.mk 6 0 ([]:Au) 1),(Aa.mk 4 0 ([97]:Au) 0),(Aa.mk 3 3 ([]:Au) 0)]:List Aa) hf h1) rfl) ?_));refine oq (A2 rfl) (on hg (of (AF (i:=8) BU B9 rfl rfl rfl rfl) (Cz rfl (λH=>DV (b:=hf) rfl rfl hg (C7 Tryz.call28 (MB 3 hr h4) rfl)) ?_)));refine Cz rfl (λH=>DV (b:=hf) rfl rfl hg (C7 RD (KW F (Ah.mk ([([97]:Au)]:List Au) 6 ([]:List (List Aa)) ([]:Au) 1 5) hr hh h7) rfl)) ?_;refine on hg (oq (B4 rfl) (oq (Ax rfl hg rfl) (oq (A2 rfl) (on hs (oq (A2 rfl) (on hs (oq (DM rfl rfl) (oq (Ax rfl hs rfl) (oq (A2 rfl) (on ht (oq (A2 rfl) (on ht (oq (Be rfl rfl) (oq (Ax rfl ht rfl) (oq (A2 rfl) (on hu (oq (A2 rfl) (on hu (oq (Be rfl rfl) (oq (Ax rfl hu rfl) (oq (A2 rfl) (on ho (of (AF (i:=8) BU B9 rfl rfl rfl rfl) ?_)))))))))))))))))))))));refine on ho (of (AF (i:=6) BU B9 rfl rfl rfl rfl) (Cz rfl (λH=>DV (b:=decide (r7.2=0)) rfl rfl ho (C7 Tryz.call23 (QF F (Ah.mk ([([97]:Au)]:List Au) 6 ([]:List (List Aa)) ([]:Au) 1 5) r7.1 hi hE) rfl)) ?_));refine oq (Ax rfl ho rfl) (oq (A2 rfl) (on hp (of (AF (i:=5) BU B9 rfl rfl rfl rfl) (on hp (of (AF (i:=8) BU B9 rfl rfl rfl rfl) (Cz rfl (λH=>DV (b:=hi) rfl rfl hp (C7 Tryz.call24 (MI F (Ah.mk ([([97]:Au)]:List Au) 6 ([]:List (List Aa)) ([]:Au) 2 3) (Ah.mk ([([97]:Au)]:List Au) 6 ([]:List (List Aa)) ([]:Au) 1 5) hj hI) rfl)) ?_))))));refine oq (Ax rfl hp rfl) (oq (A2 rfl) (on hk (of (AF (i:=5) BU B9 rfl rfl rfl rfl) (on hk (of (AF (i:=4) BU B9 rfl rfl rfl rfl) (Cz rfl (λH=>DV (b:=hj) rfl rfl hk (C7 Tryz.call24 (MI F (Ah.mk ([([97]:Au)]:List Au) 6 ([]:List (List Aa)) ([]:Au) 2 3) (Ah.mk ([([97]:Au)]:List Au) 4 ([ha]:List (List Aa)) ([]:Au) 0 0) he hL) rfl)) ?_))))));refine on hk (oq (B4 rfl) (oq (Ax rfl hk rfl) (oq (A2 rfl) (on hw (oq (A2 rfl) (Cz rfl (λH=>DV (b:=!he) rfl rfl hw (Kb (rs:=[rv (.slice none 0 0),AD 4 (A1 Ab ([(Aa.mk 6 0 ([]:Au) 1),(Aa.mk 4 0 ([97]:Au) 0),(Aa.mk 3 3 ([]:Au) 0)]:List Aa))]) (r:=rB hl) Tryz.call17 rfl (Fn.args (MH F ([]:List Ah) ([(Aa.mk 6 0 ([]:Au) 1),(Aa.mk 4 0 ([97]:Au) 0),(Aa.mk 3 3 ([]:Au) 0)]:List Aa) hl hP) ⟨DL.nil _,DL.refl _,trivial⟩) rfl)) ?_))))));refine oq (Ax rfl hw rfl) (oq (AE rfl) ?_);exact Cj
 refine AA (Ap ?_);obtain rfl:=An hQ;exact Ao (Bq Tryz.results12 (A6 rfl)) (sS (sS (sS (sS (sS (sS (sS (sS (sS sN))))))))) ⟨rfl,rfl⟩
theorem TK (F:Nat)(l:(List Ah))(r:Bool)(h:GX F l=some r):Fn Tryz.prog GE 10 [AD 6 (A1 Ad l)] [] (λR H=>R=rB r∧H=[]):=by
 refine enter (n:=19) Tryz.func10 rfl Tryz.ntmps10 rfl (λw Z=>?_);unfold GX at h;refine Af (wa rfl (Ak (Am (Af (wm rfl (wv (AI (ys:=l) (enc:=Ad) NM rfl) (wv (CC rfl rfl) (Ak (cz h rfl (λc1 h2=>?_) (λc1 h3=>?_))))))))))
 ·refine Af (wa rfl (Ak (Ap (Ac ?_))));obtain rfl:=An h2;exact Ao (Bq Tryz.results10 (A6 rfl)) sN ⟨rfl,rfl⟩
 ·refine Aq (AA (Am (Af (wm rfl (wv (AI (ys:=l) (enc:=Ad) NM rfl) (wv (r:=Al 0) (A2 rfl) (Ak (A5 (ob h3 λhh hi hg=>Bc (S:=Nat×(Int)×(Unit)) (V:=(Unit)×(Unit)) 0 (λσ=>BP (λσ=>Gk F l σ) σ.1 σ.2.1=some hh) (λσ=>[(0,AD 6 (A1 Ad l)),(8,Al (l.length:Int)),(9,Al σ.2.1)]) (λσ=>[]) (λσ=>σ.1) (F,0,()) hi (Az.c rfl (Az.c rfl (Az.c rfl Az.nil))) sN (λσ=>H0 =some r) (λσ=>[]) (λσ=>[]) ?_ ?_)))))))))
  ·rintro⟨h4,ha,⟨⟩⟩ hj;refine Bu (l':=[(0,AD 6 (A1 Ad l)),(8,Al (l.length:Int)),(9,Al ha)]) (H':=[]) rfl rfl ?_;obtain⟨hk,rfl,t46,hb,hf⟩:=BK hj;replace hb:Gk F l ha=some t46:=hb;unfold Gk at hb;refine Af (wv (Cc rfl rfl) (Ak (Am (cz hb rfl (λhl hm=>?_) (λhl hn=>?_)))))
   ·refine Aq (AA (Am (A5 (Af (wm rfl (wa rfl (Bb (wm rfl (wm rfl (ck hm λho hp=>wv (AT (enc:=Ad) (ys:=l) NM B9 rfl rfl ho) (wv (C5 BU B9 rfl rfl rfl) (ob hp λhq hr hs=>BQ Tryz.call9 (ML F (Ay l ha) hq hr) rfl (wv (B4 rfl) (Ak (cz hs rfl (λht hu=>?_) (λht hw=>?_))))))))))))))))
    ·refine Af (wa rfl (Ak (Ap (As (Ac (Ac (AO ?_)))))));have hx:=Bg hu hf hg;refine As (Ac ?_);obtain rfl:=An hx;exact Ao (Bq Tryz.results10 (A6 rfl)) sN ⟨rfl,rfl⟩
    ·refine Aq (A3 (AA (Aj (ck hw λhy hz=>wv (Bd rfl rfl hy) (wm rfl (Ai ?_))))));have h0:=AW hz hf;exact Av (Ar (hk,ha+1,()) ⟨h0,XX _⟩ (Az.c rfl (Az.c rfl (Az.c rfl Az.nil))) sN)
   ·refine Bi (Aw ?_);have h1:=Bx hn hf hg;exact Aw (AS (Ar ((),()) h1 Az.nil sN))
  ·rintro⟨⟨⟩,⟨⟩⟩ he;refine BS (l':=[]) (H':=[]) rfl rfl ?_;replace he:H0 =some r:=he;unfold H0 at he;refine AV (AA (Af (wa rfl (Ak (Ap ?_)))));obtain rfl:=An he;exact Ao (Bq Tryz.results10 (A6 rfl)) sN ⟨rfl,rfl⟩
theorem Q1 (F:Nat)(f:Ah)(l:(List Ah))(v:(List Aa))(r:Bool)(h:ID F f l v=some r):Fn Tryz.prog GE 3 [Bs (Ad f),AD 6 (A1 Ad l),AD 4 (A1 Ab v)] [] (λR H=>R=rB r∧H=[]):=by
 refine enter (n:=47) Tryz.func3 rfl Tryz.ntmps3 rfl (λw Z=>?_);unfold ID at h;refine Af (B1 rfl rfl (λb1=>?_));refine wa rfl (Ak (Am (ck h λg2 h3=>ck h3 λg4 h5=>ck h5 λg6 h7=>AC [(1,AD 6 (A1 Ad l)),(2,AD 4 (A1 Ab v)),(3,rP b1 0),(19,rB ((!(ov (Ds F f)))||((!(ov (GX F l)))||(!(ov (CD F v))))))] [.blk b1 (Ad f) 26] ?_ ?_)))
 ·refine Aj (wv (AF (i:=0) BU B9 rfl rfl rfl rfl) (BQ Tryz.call9 (ML F f (ov (Ds F f)) (C1 g2)) rfl (wv (B4 rfl) (wm rfl (AN (!(ov (Ds F f))) (λc8=>?_) (λc8=>?_))))))
  ·refine wf c8 (wf c8 (wf c8 (wv (r:=rB true) (Ax rfl c8 rfl) (wm rfl (wz rfl rfl (wz rfl rfl (wz rfl rfl (wv (r:=rB true) (Ax (b:=true) rfl rfl rfl) (Ai ?_)))))))));exact BG c8
  ·refine wo c8 (wm rfl (wo c8 (BQ Tryz.call10 (TK F l (ov (GX F l)) (C1 (Cn g4 c8))) rfl (wo c8 (wv (B4 rfl) (Cm rfl c8 rfl (wm rfl (AN (!(ov (GX F l))) (λc9=>?_) (λc9=>?_)))))))))
   ·refine wf c9 (wf c9 (wf c9 (wv (r:=rB true) (Ax rfl c9 rfl) (Ai ?_))));exact BG (And.intro c8 c9)
   ·refine wo c9 (wm rfl (wo c9 (BQ Tryz.call11 (Iq F v (ov (CD F v)) (C1 (Cn (Cn g6 c8) c9))) rfl (wo c9 (wv (B4 rfl) (Cm rfl c9 rfl (Ai ?_)))))));exact BG (And.intro c8 c9)
 refine cz h7 rfl (λhj hk=>?_) (λhj hl=>?_)
 ·refine Af (ob hk λhm hn ho=>BQ Tryz.call12 (P3 F hm hn) rfl (wa rfl (Ak (Ap (Ac ?_)))));obtain rfl:=An ho;exact Ao (Bq Tryz.results3 (A6 rfl)) (sS sN) ⟨rfl,rfl⟩
 ·refine Aq (AA (ck hl λg16 hp=>ck hp λg18 hq=>ck hq λhf hr=>ck hr λhg hs=>ck hs λhh ht=>ck ht λhi hu=>ck hu λhw hx=>AC [(6,rB ((decide ((ov (B2 F f))=(ov (Br F f))))&&(((ov (DK F f v)) ==(ov (Cv F f v)))&&(((ov (Da F l v)) ==(ov (Cw F l v)))&&(ov (Gy F))))))] [] ?_ ?_))
  ·refine AN (decide ((ov (B2 F f))=(ov (Br F f)))) (λha=>?_) (λha=>?_)
   ·refine AN ((ov (DK F f v)) ==(ov (Cv F f v))) (λhb=>?_) (λhb=>?_)
    ·refine AN ((ov (Da F l v)) ==(ov (Cw F l v))) (λhe=>?_) (λhe=>?_)
     ·refine C3 [1,2,3] [⟨[],Bs (Ad f),1⟩,⟨[0],Al (ov (B2 F f)),0⟩,⟨[],Bs (Ad f),1⟩,⟨[2],Al (ov (Br F f)),0⟩,⟨[1,3],rB (decide ((ov (B2 F f))=(ov (Br F f)))),0⟩,⟨[4],rB (decide ((ov (B2 F f))=(ov (Br F f)))),0⟩,⟨[5],Bs (Ad f),1⟩,⟨[5],AD 4 (A1 Ab v),0⟩,⟨[6,7,5],rB (ov (DK F f v)),0⟩,⟨[5],Bs (Ad f),1⟩,⟨[5],AD 4 (A1 Ab v),0⟩,⟨[9,10,5],rB (ov (Cv F f v)),0⟩,⟨[8,11,5],rB ((ov (DK F f v)) ==(ov (Cv F f v))),0⟩,⟨[5,12],rB ((ov (DK F f v)) ==(ov (Cv F f v))),0⟩,⟨[13],rB ((ov (DK F f v)) ==(ov (Cv F f v))),0⟩,⟨[14],AD 6 (A1 Ad l),0⟩,⟨[14],AD 4 (A1 Ab v),0⟩,⟨[15,16,14],rB (ov (Da F l v)),0⟩,⟨[14],AD 6 (A1 Ad l),0⟩,⟨[14],AD 4 (A1 Ab v),0⟩,⟨[18,19,14],rB (ov (Cw F l v)),0⟩,⟨[17,20,14],rB ((ov (Da F l v)) ==(ov (Cw F l v))),0⟩,⟨[14,21],rB ((ov (Da F l v)) ==(ov (Cw F l v))),0⟩,⟨[22],rB ((ov (Da F l v)) ==(ov (Cw F l v))),0⟩,⟨[23],rB (ov (Gy F)),0⟩,⟨[23,24],rB (ov (Gy F)),0⟩,⟨[25],rB (ov (Gy F)),0⟩] [6] ?_ ?_
      ·refine of (AF (i:=0) BU B9 rfl rfl rfl rfl) (Cz rfl (λH=>C7 NO (Ex F f (ov (B2 F f)) (C1 g16)) rfl) ?_);refine of (AF (i:=0) BU B9 rfl rfl rfl rfl) (Cz rfl (λH=>C7 SZ (G1 F f (ov (Br F f)) (C1 g18)) rfl) ?_);refine oq (Be rfl rfl) (oq (A2 rfl) (on ha (of (AF (i:=0) BU B9 rfl rfl rfl rfl) (on ha (oq (A2 rfl) (Cz rfl (λH=>DV (b:=decide ((ov (B2 F f))=(ov (Br F f)))) rfl rfl ha (C7 RD (KW F f v (ov (DK F f v)) (C1 (BD hf ha))) rfl)) ?_))))));refine on ha (of (AF (i:=0) BU B9 rfl rfl rfl rfl) (on ha (oq (A2 rfl) (Cz rfl (λH=>DV (b:=decide ((ov (B2 F f))=(ov (Br F f)))) rfl rfl ha (C7 Tryz.call16 (K7 F f v (ov (Cv F f v)) (C1 (BD hg ha))) rfl)) ?_))));refine on ha (oq (Kc VI rfl rfl) (oq (Ax rfl ha rfl) (oq (A2 rfl) (on hb (oq (A2 rfl) (on hb (oq (A2 rfl) (Cz rfl (λH=>DV (b:=(ov (DK F f v)) ==(ov (Cv F f v))) rfl rfl hb (C7 Tryz.call17 (MH F l v (ov (Da F l v)) (C1 (BD (BD hh ha) hb))) rfl)) ?_))))))));refine on hb (oq (A2 rfl) (on hb (oq (A2 rfl) (Cz rfl (λH=>DV (b:=(ov (DK F f v)) ==(ov (Cv F f v))) rfl rfl hb (C7 Tryz.call18 (MM F l v (ov (Cw F l v)) (C1 (BD (BD hi ha) hb))) rfl)) ?_))));refine on hb (oq (Kc VI rfl rfl) (oq (Ax rfl hb rfl) (oq (A2 rfl) (Cz rfl (λH=>DV (b:=(ov (Da F l v)) ==(ov (Cw F l v))) rfl rfl he (C7 Tryz.call12 (P3 F (ov (Gy F)) (C1 (BD (BD (BD hw ha) hb) he))) rfl)) ?_))));refine oq (Ax rfl he rfl) (oq (AE rfl) ?_);exact Cj
      exact BG (And.intro ha (And.intro hb he))
     ·refine C3 [1,2,3] [⟨[],Bs (Ad f),1⟩,⟨[0],Al (ov (B2 F f)),0⟩,⟨[],Bs (Ad f),1⟩,⟨[2],Al (ov (Br F f)),0⟩,⟨[1,3],rB (decide ((ov (B2 F f))=(ov (Br F f)))),0⟩,⟨[4],rB (decide ((ov (B2 F f))=(ov (Br F f)))),0⟩,⟨[5],Bs (Ad f),1⟩,⟨[5],AD 4 (A1 Ab v),0⟩,⟨[6,7,5],rB (ov (DK F f v)),0⟩,⟨[5],Bs (Ad f),1⟩,⟨[5],AD 4 (A1 Ab v),0⟩,⟨[9,10,5],rB (ov (Cv F f v)),0⟩,⟨[8,11,5],rB ((ov (DK F f v)) ==(ov (Cv F f v))),0⟩,⟨[5,12],rB ((ov (DK F f v)) ==(ov (Cv F f v))),0⟩,⟨[13],rB ((ov (DK F f v)) ==(ov (Cv F f v))),0⟩,⟨[14],AD 6 (A1 Ad l),0⟩,⟨[14],AD 4 (A1 Ab v),0⟩,⟨[15,16,14],rB (ov (Da F l v)),0⟩,⟨[14],AD 6 (A1 Ad l),0⟩,⟨[14],AD 4 (A1 Ab v),0⟩,⟨[18,19,14],rB (ov (Cw F l v)),0⟩,⟨[17,20,14],rB ((ov (Da F l v)) ==(ov (Cw F l v))),0⟩,⟨[14,21],rB ((ov (Da F l v)) ==(ov (Cw F l v))),0⟩,⟨[22],rB ((ov (Da F l v)) ==(ov (Cw F l v))),0⟩,⟨[23],rv undef,0⟩,⟨[23,24],rB false,0⟩,⟨[25],rB false,0⟩] [6] ?_ ?_
      ·refine of (AF (i:=0) BU B9 rfl rfl rfl rfl) (Cz rfl (λH=>C7 NO (Ex F f (ov (B2 F f)) (C1 g16)) rfl) ?_);refine of (AF (i:=0) BU B9 rfl rfl rfl rfl) (Cz rfl (λH=>C7 SZ (G1 F f (ov (Br F f)) (C1 g18)) rfl) ?_);refine oq (Be rfl rfl) (oq (A2 rfl) (on ha (of (AF (i:=0) BU B9 rfl rfl rfl rfl) (on ha (oq (A2 rfl) (Cz rfl (λH=>DV (b:=decide ((ov (B2 F f))=(ov (Br F f)))) rfl rfl ha (C7 RD (KW F f v (ov (DK F f v)) (C1 (BD hf ha))) rfl)) ?_))))));refine on ha (of (AF (i:=0) BU B9 rfl rfl rfl rfl) (on ha (oq (A2 rfl) (Cz rfl (λH=>DV (b:=decide ((ov (B2 F f))=(ov (Br F f)))) rfl rfl ha (C7 Tryz.call16 (K7 F f v (ov (Cv F f v)) (C1 (BD hg ha))) rfl)) ?_))));refine on ha (oq (Kc VI rfl rfl) (oq (Ax rfl ha rfl) (oq (A2 rfl) (on hb (oq (A2 rfl) (on hb (oq (A2 rfl) (Cz rfl (λH=>DV (b:=(ov (DK F f v)) ==(ov (Cv F f v))) rfl rfl hb (C7 Tryz.call17 (MH F l v (ov (Da F l v)) (C1 (BD (BD hh ha) hb))) rfl)) ?_))))))));refine on hb (oq (A2 rfl) (on hb (oq (A2 rfl) (Cz rfl (λH=>DV (b:=(ov (DK F f v)) ==(ov (Cv F f v))) rfl rfl hb (C7 Tryz.call18 (MM F l v (ov (Cw F l v)) (C1 (BD (BD hi ha) hb))) rfl)) ?_))));refine on hb (oq (Kc VI rfl rfl) (oq (Ax rfl hb rfl) (oq (A2 rfl) (oz he (oq (At (b:=(ov (Da F l v)) ==(ov (Cw F l v))) rfl he rfl) (oq (AE rfl) ?_))))));exact Cj
      exact BG (And.intro ha (And.intro hb he))
    ·refine C3 [1,2,3] [⟨[],Bs (Ad f),1⟩,⟨[0],Al (ov (B2 F f)),0⟩,⟨[],Bs (Ad f),1⟩,⟨[2],Al (ov (Br F f)),0⟩,⟨[1,3],rB (decide ((ov (B2 F f))=(ov (Br F f)))),0⟩,⟨[4],rB (decide ((ov (B2 F f))=(ov (Br F f)))),0⟩,⟨[5],Bs (Ad f),1⟩,⟨[5],AD 4 (A1 Ab v),0⟩,⟨[6,7,5],rB (ov (DK F f v)),0⟩,⟨[5],Bs (Ad f),1⟩,⟨[5],AD 4 (A1 Ab v),0⟩,⟨[9,10,5],rB (ov (Cv F f v)),0⟩,⟨[8,11,5],rB ((ov (DK F f v)) ==(ov (Cv F f v))),0⟩,⟨[5,12],rB ((ov (DK F f v)) ==(ov (Cv F f v))),0⟩,⟨[13],rB ((ov (DK F f v)) ==(ov (Cv F f v))),0⟩,⟨[14],rv undef,0⟩,⟨[14],rv undef,0⟩,⟨[15,16,14],rv undef,0⟩,⟨[14],rv undef,0⟩,⟨[14],rv undef,0⟩,⟨[18,19,14],rv undef,0⟩,⟨[17,20,14],rv undef,0⟩,⟨[14,21],rB false,0⟩,⟨[22],rB false,0⟩,⟨[23],rv undef,0⟩,⟨[23,24],rB false,0⟩,⟨[25],rB false,0⟩] [6] ?_ ?_
     ·refine of (AF (i:=0) BU B9 rfl rfl rfl rfl) (Cz rfl (λH=>C7 NO (Ex F f (ov (B2 F f)) (C1 g16)) rfl) ?_);refine of (AF (i:=0) BU B9 rfl rfl rfl rfl) (Cz rfl (λH=>C7 SZ (G1 F f (ov (Br F f)) (C1 g18)) rfl) ?_);refine oq (Be rfl rfl) (oq (A2 rfl) (on ha (of (AF (i:=0) BU B9 rfl rfl rfl rfl) (on ha (oq (A2 rfl) (Cz rfl (λH=>DV (b:=decide ((ov (B2 F f))=(ov (Br F f)))) rfl rfl ha (C7 RD (KW F f v (ov (DK F f v)) (C1 (BD hf ha))) rfl)) ?_))))));refine on ha (of (AF (i:=0) BU B9 rfl rfl rfl rfl) (on ha (oq (A2 rfl) (Cz rfl (λH=>DV (b:=decide ((ov (B2 F f))=(ov (Br F f)))) rfl rfl ha (C7 Tryz.call16 (K7 F f v (ov (Cv F f v)) (C1 (BD hg ha))) rfl)) ?_))));refine on ha (oq (Kc VI rfl rfl) (oq (Ax rfl ha rfl) (oq (A2 rfl) (oz hb (oz hb (oz hb (oz hb (oz hb (oz hb (oz hb (oq (At (b:=(ov (DK F f v)) ==(ov (Cv F f v))) rfl hb rfl) (oq (A2 rfl) (oz rfl (oq (At (b:=false) rfl rfl rfl) (oq (AE rfl) ?_)))))))))))))));exact Cj
     exact BG (And.intro ha hb)
   ·refine C3 [1,2,3] [⟨[],Bs (Ad f),1⟩,⟨[0],Al (ov (B2 F f)),0⟩,⟨[],Bs (Ad f),1⟩,⟨[2],Al (ov (Br F f)),0⟩,⟨[1,3],rB (decide ((ov (B2 F f))=(ov (Br F f)))),0⟩,⟨[4],rB (decide ((ov (B2 F f))=(ov (Br F f)))),0⟩,⟨[5],rv undef,0⟩,⟨[5],rv undef,0⟩,⟨[6,7,5],rv undef,0⟩,⟨[5],rv undef,0⟩,⟨[5],rv undef,0⟩,⟨[9,10,5],rv undef,0⟩,⟨[8,11,5],rv undef,0⟩,⟨[5,12],rB false,0⟩,⟨[13],rB false,0⟩,⟨[14],rv undef,0⟩,⟨[14],rv undef,0⟩,⟨[15,16,14],rv undef,0⟩,⟨[14],rv undef,0⟩,⟨[14],rv undef,0⟩,⟨[18,19,14],rv undef,0⟩,⟨[17,20,14],rv undef,0⟩,⟨[14,21],rB false,0⟩,⟨[22],rB false,0⟩,⟨[23],rv undef,0⟩,⟨[23,24],rB false,0⟩,⟨[25],rB false,0⟩] [6] ?_ ?_
    ·refine of (AF (i:=0) BU B9 rfl rfl rfl rfl) (Cz rfl (λH=>C7 NO (Ex F f (ov (B2 F f)) (C1 g16)) rfl) ?_);refine of (AF (i:=0) BU B9 rfl rfl rfl rfl) (Cz rfl (λH=>C7 SZ (G1 F f (ov (Br F f)) (C1 g18)) rfl) ?_);refine oq (Be rfl rfl) (oq (A2 rfl) (oz ha (oz ha (oz ha (oz ha (oz ha (oz ha (oz ha (oq (At (b:=decide ((ov (B2 F f))=(ov (Br F f)))) rfl ha rfl) (oq (A2 rfl) (oz rfl (oz rfl (oz rfl (oz rfl (oz rfl (oz rfl (oz rfl (oq (At (b:=false) rfl rfl rfl) (oq (A2 rfl) (oz rfl (oq (At (b:=false) rfl rfl rfl) (oq (AE rfl) ?_))))))))))))))))))))));exact Cj
    exact BG ha
  refine Ap ?_;obtain rfl:=An hx;exact Ao (Bq Tryz.results3 (A6 rfl)) sN ⟨rfl,rfl⟩
end Go.Proofs.YtghdglcmblpbeaaGreatDoor.Q
namespace Go.Proofs.YtghdglcmblpbeaaGreatDoor.lawFilterMatches
open Go
set_option linter.unusedVariables false
def Sg (y:Aa):Bool:=(BF .i64) y.fKind&&(BF .i64) y.fInt&&Vf y.fStr&&(BF .i64) y.fN
def TC (y:Ah):Bool:=(λys:(List Au)=>ys.all Vf&&decide (ys.length≤9223372036854775807)) y.fPath&&(BF .i64) y.fOp&&(λys:(List (List Aa))=>ys.all (λys:(List Aa)=>ys.all Sg&&decide (ys.length≤9223372036854775807))&&decide (ys.length≤9223372036854775807)) y.fValues&&Vf y.fText&&(BF .i64) y.fLow&&(BF .i64) y.fHigh
def XR:Prop:=∀(y0:Ah) (y1:(List Ah)) (y2:(List Aa)) (o0:TC y0=true) (o1:(λys:(List Ah)=>ys.all TC&&decide (ys.length≤9223372036854775807)) y1=true) (o2:(λys:(List Aa)=>ys.all Sg&&decide (ys.length≤9223372036854775807)) y2=true),∃F,ID F y0 y1 y2=some true
end Go.Proofs.YtghdglcmblpbeaaGreatDoor.lawFilterMatches
namespace Go.Proofs.YtghdglcmblpbeaaGreatDoor
open Go
set_option linter.unusedVariables false
set_option linter.unusedSimpArgs false
def UB (c:UInt8):Bool:=decide (32≤c.toNat)&&decide (c.toNat≤126)
theorem OA {s:Au}{x:Int}{c:UInt8}(h:s[x.toNat]? =some c):Ck s x=(c.toNat:Int):=by simp[Ck,h]
theorem Nf {α:Type}{p:α→Bool}{s:List α}{k:Nat}{c:α}(h:s[k]? =some c):(s.take (k+1)).all p=((s.take k).all p&&p c):=by
 rw[List.take_add_one,h];simp
theorem OB {α:Type}{p:α→Bool}{s:List α}{k:Nat}{c:α}(h:s[k]? =some c)(hp:p c=false):s.all p=false:=by
 rw[List.all_eq_false];exact⟨c,Yh h,by simp[hp]⟩
theorem OQ {F:Nat}{s:Au}(hF:s.length<F)(hs:s.length≤9223372036854775807):JC F s=some (s.all UB):=by
 obtain⟨o,h1,h2⟩:=Ia (body:=λσ=>Hk s σ) (λx=>0≤x∧x≤(s.length:Int)∧(s.take x.toNat).all UB=true) (λx=>s.length-x.toNat)
  (λo=>BI (λ_=>Hj) o=some (s.all UB)) (λx ⟨h0,hl,ha⟩=>by
   unfold Hk
   by_cases hx:x<(s.length:Int)
   ·obtain⟨c,hc⟩:∃c,s[x.toNat]? =some c:=⟨s[x.toNat]'(by omega),Yc (by omega)⟩
    rw[AZ (by simpa using hx),B0 h0 hx,OA hc]
    cases ho:UB c with
    | false=>
     refine .inr ⟨.ret false,?_,?_⟩
     ·rw[AZ];simp only[UB,YI,XW] at ho;simp only[Y7,XU];omega
     ·simp[BI,OB hc ho]
    | true=>
     refine .inl ⟨x+1,?_,⟨by omega,by omega,?_⟩,by omega⟩
     ·rw[AM,AU (by omega) (by omega)];simp only[UB,Ya,XU] at ho;simp only[Yw,XW];omega
     ·rw[show(x+1).toNat=x.toNat+1 from by omega,Nf hc,ha,ho];rfl
   ·refine .inr ⟨.go (),by rw[AM (by simpa using hx)],?_⟩;rw[show x.toNat=s.length from by omega,List.take_length] at ha;simp[BI,Hj,ha]) F 0 ⟨by omega,by omega,by simp⟩ (by simpa using hF)
 unfold JC;rw[Ba h1,h2]
theorem Oc (F:Nat)(s:Au):I4 F s=JC F s:=rfl
theorem RT {F:Nat}{s:Au}(hF:s.length<F)(hs:s.length≤9223372036854775807):I4 F s=some (s.all UB):=by rw[Oc];exact OQ hF hs
def pl (c:Aa):Bool:=
 bif decide (c.fKind=1) then(decide (c.fInt=0)&&(decide (c.fStr=[])&&decide (c.fN=0))) else
 bif decide (c.fKind=2) then((decide (c.fInt=0)||decide (c.fInt=1))&&(decide (c.fStr=[])&&decide (c.fN=0))) else
 bif decide (c.fKind=3) then(decide (c.fStr=[])&&decide (c.fN=0)) else
 bif decide (c.fKind=4) then(decide (c.fInt=0)&&(decide (c.fN=0)&&c.fStr.all UB)) else
 bif decide (c.fKind=5) then(decide (c.fInt=0)&&(decide (c.fStr=[])&&decide (0≤c.fN))) else
 bif decide (c.fKind=6) then(decide (c.fInt=0)&&(decide (c.fStr=[])&&decide (0≤c.fN))) else false
theorem Ea {α:Type}{p:Bool}{x y:Option α}{a b:α}(h:x=some a)(h':y=some b):AR p x y=some (bif p then a else b):=by cases p<;>simp[AR,h,h']
theorem RG {F:Nat}{c:Aa}(hF:c.fStr.length<F)(hs:c.fStr.length≤9223372036854775807):Mr F c=some (pl c):=by
 unfold Mr pl;rw[OQ hF hs];refine Ea rfl (Ea ?_ (Ea rfl (Ea ?_ (Ea rfl (Ea rfl rfl)))))
 ·cases h:decide (c.fInt=0)<;>simp
 ·simp[imp,AX,ov]
def L5:List AB→List AB
 | []=>[]
 | e::S=>bif decide (1<e.fLeft) then⟨e.fPairs,e.fLeft-1,e.fPairs,e.fLast,e.fStarted⟩::S else L5 S
theorem LY {α:Type}[Inhabited α](xs:List α)(e:α):Ay (xs++[e]) (xs.length:Int)=e:=by simp[Ay]
theorem JQ {α:Type}(xs:List α)(e e':α):List.set (xs++[e]) (Int.toNat (xs.length:Int)) e'=xs++[e']:=by simp
theorem Kf {α:Type}(xs:List α)(e:α):((xs++[e]).length:Int)-1=(xs.length:Int):=by simp
theorem RN {α:Type}(xs:List α)(e:α):List.take (Int.toNat (xs.length:Int)) (xs++[e])=xs:=by simp
theorem Ls:∀(S:List AB) (F:Nat),S.length<F→(∀e∈S,1≤e.fLeft∧e.fLeft≤9223372036854775807)→S.length≤4611686018427387904→
  ∃o,BP (λσ=>D5 σ) F S.reverse=some o∧BI (λν=>Ee ν) o=some (L5 S).reverse
 | [],F+1,_,_,_=>⟨.go [],by simp[BP,D5,AR],by simp[BI,Ee,L5]⟩
 | e::S,F+1,hF,hb,hl=>by
  obtain⟨h1,h2⟩:=hb e (by simp);simp only[XZ] at hF hl;have hx:S.reverse.length=S.length:=by simp
  generalize hxs:S.reverse=xs at hx;have hr:(e::S).reverse=xs++[e]:=by simp[hxs]
  rw[hr];have hb1:D5 (xs++[e])=bif decide (1<e.fLeft) then some (.out (.ret (xs++[⟨e.fPairs,e.fLeft-1,e.fPairs,e.fLast,e.fStarted⟩]))) else some (.next xs):=by
   unfold D5;rw[AZ (by simp)];simp only[Kf,LY,JQ,KA];rw[AU (by omega) (by omega),B0 (by omega) (by simp;omega),AU (by omega) (by omega)]
   cases hd:decide (1<e.fLeft) with
   | true=>
    rw[AZ (by simp at hd ⊢;omega)];rfl
   | false=>
    rw[AM (by simp at hd ⊢;omega),AU (by omega) (by omega),Ez (by omega) (by simp;omega),RN];rfl
  rw[BP,hb1]
  cases hd:decide (1<e.fLeft) with
  | true=>exact⟨_,rfl,by simp[BI,Ee,L5,hd,hxs]⟩
  | false=>
   obtain⟨o,ho1,ho2⟩:=Ls S F (by omega) (λe he=>hb e (by simp[he])) (by omega);rw[hxs] at ho1;exact⟨o,ho1,by rw[ho2];simp[L5,hd]⟩
theorem Ms {S:List AB}{F:Nat}(hF:S.length<F)(hb:∀e∈S,1≤e.fLeft∧e.fLeft≤9223372036854775807)(hl:S.length≤4611686018427387904):JM F S.reverse=some (L5 S).reverse:=by
 obtain⟨o,h1,h2⟩:=Ls S F hF hb hl;unfold JM;rw[Ba h1,h2]
def KH (s:Au):Int:=s.length+2+s.count 34+s.count 92
theorem Mo {s:Au}(hs:s.length≤1152921504606846976):IQ s=some (KH s):=by
 have h1:s.count 34≤s.length:=List.count_le_length;have h2:s.count 92≤s.length:=List.count_le_length;unfold IQ Lib.countByte;rw[AU (by omega) (by omega),AU (by omega) (by omega),AU (by omega) (by omega)];rfl
def VU (c:Aa):Int:=
 bif decide (c.fKind=1) then 4 else bif decide (c.fKind=2) then IntKind.wrap .i64 (5-c.fInt) else bif decide (c.fKind=3) then((Lib.itoa c.fInt).length:Int) else
 bif decide (c.fKind=4) then KH c.fStr else IntKind.wrap .i64 (2+max 0 (IntKind.wrap .i64 (c.fN-1)))
theorem OR {c:Aa}(hs:c.fStr.length≤1152921504606846976)(hi:BF .i64 c.fInt=true):OS c=some (VU c):=by
 unfold OS VU;rw[Mo hs];refine Ea rfl (Ea rfl (Ea ?_ (Ea rfl rfl)));rw[CA hi]
def Iu (d:Nat)(sh:AJ)(c:Aa):AJ:=
 ⟨max sh.fDepth ((d:Int)+1),IntKind.wrap .i64 (sh.fBytes+VU c),sh.fOutside||(decide (c.fKind=3)&&!(decide ((-1000000000000)≤c.fInt)&&decide (c.fInt≤1000000000000))),sh.fLong||decide (200<(c.fStr.length:Int))⟩
def WW (sh:AJ)(c:Aa):AJ:=⟨sh.fDepth,IntKind.wrap .i64 (sh.fBytes+(KH c.fStr+1)),sh.fOutside,sh.fLong||decide (200<(c.fStr.length:Int))⟩
def KQ:List AB→Bool
 | []=>false
 | e::_=>e.fKey
abbrev OF:=List AB×Int×AJ
abbrev VO:=Out (Int×AJ×Bool) AJ
def PX (n:Int)(S:List AB)(i:Int)(sh:AJ)(c:Aa):Stp OF VO:=
 bif !pl c then .out (.ret (0,sh,false)) else
 match S with
 | e::S'=>
  bif e.fKey then
   bif !decide (c.fKind=4)||(e.fStarted&&(De c.fStr e.fLast||decide (c.fStr=e.fLast))) then .out (.ret (0,sh,false))
   else .next ((⟨e.fPairs,e.fLeft,false,c.fStr,true⟩::S').reverse,i+1,WW sh c)
  else bif decide (0<c.fN) then
   bif decide (n<c.fN) then .out (.ret (0,Iu S.length sh c,false))
   else .next ((⟨decide (c.fKind=6),c.fN,decide (c.fKind=6),[],false⟩::S).reverse,i+1,Iu S.length sh c)
  else bif decide (L5 S=[]) then .out (.ret (i+1,Iu S.length sh c,true)) else .next ((L5 S).reverse,i+1,Iu S.length sh c)
 | []=>
  bif decide (0<c.fN) then
   bif decide (n<c.fN) then .out (.ret (0,Iu 0 sh c,false))
   else .next ([⟨decide (c.fKind=6),c.fN,decide (c.fKind=6),[],false⟩],i+1,Iu 0 sh c)
  else .out (.ret (i+1,Iu 0 sh c,true))
theorem MT {S:List AB}:decide (((L5 S).reverse.length:Int)=0)=decide (L5 S=[]):=by
 rw[Ym];simp
theorem Xo {α:Type}{xs:List α}{e x:α}{M:Nat}(h:xs.length+1≤M)(hM2:(M+2)*48≤140737488355328):E7 48 ((xs++[e]).length+([x]:List α).length)=true:=by
 refine Ye (Nat.le_trans (Nat.mul_le_mul_right 48 ?_) hM2);rw[Yd,Yy,Yy];omega
set_option maxHeartbeats 600000 in
theorem OV {F:Nat}{v:List Aa}{S:List AB}{i:Int}{sh:AJ}{c:Aa}(h0:0≤i)(hc:v[i.toNat]? =some c){M:Nat}(hM:M≤1152921504606846976)(hM2:(M+2)*48≤140737488355328)(hv:v.length≤M)(hS:S.length≤M)(hF:M<F)
  (hs:c.fStr.length≤M) (hi:BF .i64 c.fInt=true) (hb:∀e∈S,1≤e.fLeft∧e.fLeft≤9223372036854775807):D4 F v S.reverse i sh=some (PX v.length S i sh c):=by
 have hil:i.toNat<v.length:=(List.getElem?_eq_some_iff.1 hc).1;have hat:Ay v i=c:=by simp[Ay,hc]
 unfold D4 PX;rw[AZ (by simp;omega),B0 h0 (by omega),hat,RG (by omega) (by omega),Ba rfl]
 cases hp:pl c with
 | false=>rw[AZ (by simp)];rfl
 | true=>
  rw[AM (by simp)]
  cases S with
  | nil=>
   rw[CA (by simp[imp]),CA (by simp[imp]),AM (by simp),AU (by simp) (by simp),OR (by omega) hi,Ba rfl,CA (by simp[imp,Bt])];simp only[Bt,ov,Yv,Yj,Yb]
   cases hn:decide (0<c.fN) with
   | true=>
    rw[AZ rfl]
    cases hm:decide ((v.length:Int)<c.fN) with
    | true=>rw[AZ rfl];simp[Iu]
    | false=>rw[AM rfl,CA (by simp[E7])];unfold DS;rw[AU (by omega) (by omega)];simp[Iu]
   | false=>
    rw[AM rfl,Ba (Ms (S:=[]) (by simp;omega) (by simp) (by simp)),AZ (by simp[L5]),AU (by omega) (by omega)];simp[Iu]
  | cons e S'=>
   have hx:S'.reverse.length=S'.length:=by simp
   generalize hxs:S'.reverse=xs at hx;have hr:(e::S').reverse=xs++[e]:=by simp[hxs]
   simp only[XZ] at hS;have hlen:((xs++[e]).length:Int)=(xs.length:Int)+1:=by simp
   rw[hr,CA (by simp only[imp,Kf];rw[P9 (by omega) (by omega)];simp),CA (by simp only[imp,Kf];rw[TW (by omega) (by omega)];simp)];rw[Kf,LY]
   cases hk:e.fKey with
   | true=>
    rw[AZ (by simp),AU (by omega) (by omega),B0 (by omega) (by omega)];simp only[hk,Yj,Yb,Yg]
    cases ht : !decide (c.fKind=4)||(e.fStarted&&(De c.fStr e.fLast||decide (c.fStr=e.fLast))) with
    | true=>rw[AZ rfl];rfl
    | false=>
     rw[AM rfl,JQ,KA,LY,JQ,KA,LY,JQ,KA,Mo (by omega),Ba rfl,AU (by unfold KH;omega) (by unfold KH;have:=@List.count_le_length UInt8 _ 34 c.fStr;have:=@List.count_le_length UInt8 _ 92 c.fStr;omega)];unfold DS;rw[AU (by omega) (by omega)];simp[WW,hxs]
   | false=>
    rw[AM (by simp),hlen,AU (by omega) (by omega),OR (by omega) hi,Ba rfl,CA (by simp[imp,Bt])];simp only[hk,Bt,ov,Yv,Yj,Yb,Yg]
    cases hn:decide (0<c.fN) with
    | true=>
     rw[AZ rfl]
     cases hm:decide ((v.length:Int)<c.fN) with
     | true=>rw[AZ rfl];simp[Iu,hx]
     | false=>rw[AM rfl,CA (Xo (by omega) hM2)];unfold DS;rw[AU (by omega) (by omega)];simp[Iu,hx,hxs]
    | false=>
     have hcl:=Ms (S:=e::S') (F:=F) (by simp;omega) hb (by simp;omega);rw[hr] at hcl;rw[AM rfl,hcl,Ba rfl,MT]
     cases hq:decide (L5 (e::S')=[]) with
     | true=>rw[AZ rfl,AU (by omega) (by omega)];simp[Iu,hx]
     | false=>rw[AM rfl];unfold DS;rw[AU (by omega) (by omega)];simp[Iu,hx]
section
variable {S O : Type} {body : S → Option (Stp S O)} {s t u : S} {o : O}
def Eb (body:S→Option (Stp S O))(s t:S):Prop:=∃k,∀n,BP body (n+k) s=BP body n t
def Fin (body:S→Option (Stp S O))(s:S)(o:O):Prop:=∃k,∀n,BP body (n+k) s=some o
theorem Eb.refl (s:S):Eb body s s:=⟨0,λ_=>rfl⟩
theorem Eb.trans (h:Eb body s t)(h':Eb body t u):Eb body s u:=by
 obtain⟨k,hk⟩:=h;obtain⟨j,hj⟩:=h';exact⟨j+k,λn=>by rw[← Nat.add_assoc,hk,hj]⟩
theorem Eb.step (h:body s=some (.next t)):Eb body s t:=⟨1,λn=>by rw[BP,h]⟩
theorem Fin.step (h:body s=some (.out o)):Fin body s o:=⟨1,λn=>by rw[BP,h]⟩
theorem Eb.fin (h:Eb body s t)(h':Fin body t o):Fin body s o:=by
 obtain⟨k,hk⟩:=h;obtain⟨j,hj⟩:=h';exact⟨j+k,λn=>by rw[← Nat.add_assoc,hk,hj]⟩
end
inductive Fo where
 | nil
 | cell (k:Option Au) (c:Aa) (r:Fo)
 | node (k:Option Au) (c:Aa) (kids r:Fo)
def Bv:Option Au→List Aa
 | none=>[]
 | some s=>[⟨4,0,s,0⟩]
def Fo.flat:Fo→List Aa
 | .nil=>[]
 | .cell k c r=>Bv k++c::r.flat
 | .node k c kids r=>Bv k++c::(kids.flat++r.flat)
def Fo.cnt:Fo→Nat
 | .nil=>0
 | .cell _ _ r=>r.cnt+1
 | .node _ _ _ r=>r.cnt+1
def C2 (m:Bool)(last:Option Au):Option Au→Bool
 | none=>!m
 | some s=>m&&s.all UB&&(match last with
  | none=>true
  | some p=>!(De s p||decide (s=p)))
def Fo.wf:Bool→Option Au→Fo→Bool
 | _,_,.nil=>true
 | m,last,.cell k c r=>C2 m last k&&pl c&&!decide (0<c.fN)&&r.wf m k
 | m,last,.node k c kids r=>C2 m last k&&pl c&&decide (0<c.fN)&&decide (c.fN=kids.cnt)&&kids.wf (decide (c.fKind=6)) none&&r.wf m k
def Lu (k:Option Au)(sh:AJ):AJ:=match k with
 | none=>sh
 | some s=>WW sh ⟨4,0,s,0⟩
def Fo.sh (d:Nat):AJ→Fo→AJ
 | s,.nil=>s
 | s,.cell k c r=>r.sh d (Iu d (Lu k s) c)
 | s,.node k c kids r=>r.sh d (kids.sh (d+1) (Iu d (Lu k s) c))
def He (body:OF→Option (Stp OF VO))(s:OF)(S:List AB)(i:Int)(sh:AJ):Prop:=
 if L5 S=[] then Fin body s (.ret (i,sh,true)) else Eb body s ((L5 S).reverse,i,sh)
theorem He.of {body:OF→Option (Stp OF VO)}{s t:OF}{S:List AB}{i:Int}{sh:AJ}(h:Eb body s t)(h':He body t S i sh):He body s S i sh:=by
 unfold He at *
 split
 ·rename_i e;rw[if_pos e] at h';exact h.fin h'
 ·rename_i e;rw[YJ e] at h';exact h.trans h'
theorem He.pop {body:OF→Option (Stp OF VO)}{s:OF}{e:AB}{S:List AB}{i:Int}{sh:AJ}(h:He body s (e::S) i sh)(h1:e.fLeft=1):He body s S i sh:=by
 have:L5 (e::S)=L5 S:=by simp[L5,h1]
 unfold He at *;rw[this] at h;exact h
theorem He.more {body:OF→Option (Stp OF VO)}{s:OF}{e:AB}{S:List AB}{i:Int}{sh:AJ}(h:He body s (e::S) i sh)(h1:1<e.fLeft):Eb body s ((⟨e.fPairs,e.fLeft-1,e.fPairs,e.fLast,e.fStarted⟩::S).reverse,i,sh):=by
 have:L5 (e::S)=⟨e.fPairs,e.fLeft-1,e.fPairs,e.fLast,e.fStarted⟩::S:=by simp[L5,h1]
 unfold He at *;rw[this,YJ (by simp)] at h;exact h
structure R5 (F M:Nat) (v:List Aa):Prop where
 hM:M≤1152921504606846976
 hM2:(M+2)*48≤140737488355328
 hv:v.length≤M
 hF:M<F
 hc:∀c∈v,c.fStr.length≤M∧BF .i64 c.fInt=true∧c.fN≤9223372036854775807
abbrev P0 (F:Nat)(v:List Aa):OF→Option (Stp OF VO):=λσ=>D4 F v σ.1 σ.2.1 σ.2.2
def DA (S:List AB):Prop:=∀e∈S,1≤e.fLeft∧e.fLeft≤9223372036854775807
section
variable {F M : Nat} {v : List Aa} {S : List AB} {i : Int} {sh : AJ} {c : Aa} {r : List Aa} {e : AB}
theorem Ce (h0:0≤i)(h:v.drop i.toNat=c::r):v[i.toNat]? =some c∧v.drop (i+1).toNat=r∧i<v.length:=by
 have h1:(v.drop i.toNat)[0]? =some c:=by rw[h];rfl
 have h2:v[i.toNat]? =some c:=by simpa using h1
 have h3:=(List.getElem?_eq_some_iff.1 h2).1;refine⟨h2,?_,by omega⟩;rw[show(i+1).toNat=i.toNat+1 from by omega,← List.drop_drop,h];rfl
theorem round (hA:R5 F M v)(h0:0≤i)(h:v.drop i.toNat=c::r)(hS:(S.length:Int)≤i)(hb:DA S):P0 F v (S.reverse,i,sh)=some (PX v.length S i sh c):=by
 obtain⟨h1,_,h3⟩:=Ce h0 h;obtain⟨a,b,_⟩:=hA.hc c (Yh h1);have:=hA.hv;exact OV h0 h1 hA.hM hA.hM2 hA.hv (by omega) hA.hF a b hb
def EX (e:AB):Option Au→AB
 | none=>e
 | some s=>⟨e.fPairs,e.fLeft,false,s,true⟩
def IC (e:AB):Option Au→Prop
 | none=>e.fStarted=false
 | some p=>e.fStarted=true∧e.fLast=p
theorem ME (hA:R5 F M v)(h0:0≤i){k last:Option Au}(h:v.drop i.toNat=Bv k++r)(hS:(S.length:Int)+1≤i)(hb:DA (e::S))(hk:C2 e.fKey last k=true)(hl:IC e last) :
  Eb (P0 F v) ((e::S).reverse,i,sh) ((EX e k::S).reverse,i+(Bv k).length,Lu k sh):=by
 cases k with
 | none=>simpa[EX,Bv,Lu] using Eb.refl _
 | some s=>
  simp only[C2,Ya] at hk;obtain⟨⟨hm,hok⟩,hcmp⟩:=hk;refine Eb.step ?_;rw[round hA h0 (by simpa[Bv] using h) (by simpa using hS) hb];have hp:pl ⟨4,0,s,0⟩=true:=by simp[pl,hok]
  have ht:(e.fStarted&&(De s e.fLast||decide (s=e.fLast)))=false:=by
   cases last with
   | none=>simp only[IC] at hl;rw[hl];rfl
   | some p=>obtain⟨h1,h2⟩:=hl;rw[h1,h2];simpa using hcmp
  simp only[PX,hp,hm,ht,Yj,Yb,Yg,decide_true,Y0,Bool.or_self];rfl
theorem KP {k last:Option Au}(hk:C2 e.fKey last k=true):(EX e k).fKey=false:=by
 cases k with
 | none=>simpa[EX,C2] using hk
 | some s=>rfl
theorem Jy (k:Option Au):(EX e k).fLeft=e.fLeft∧(EX e k).fPairs=e.fPairs:=by cases k<;>exact⟨rfl,rfl⟩
theorem KO (hA:R5 F M v)(h0:0≤i)(h:v.drop i.toNat=c::r)(hS:(S.length:Int)≤i)(hb:DA S)(hk:KQ S=false)(hp:pl c=true)(hn:decide (0<c.fN)=false) :
  He (P0 F v) (S.reverse,i,sh) S (i+1) (Iu S.length sh c):=by
 have hr:=round (sh:=sh) hA h0 h hS hb;unfold He
 cases S with
 | nil=>
  rw[if_pos (by simp[L5])];refine Fin.step ?_;rw[hr];simp[PX,hp,hn]
 | cons e S=>
  simp only[KQ] at hk
  split
  ·rename_i hc
   refine Fin.step ?_;rw[hr];simp[PX,hp,hn,hk,hc]
  ·rename_i hc
   refine Eb.step ?_;rw[hr];simp[PX,hp,hn,hk,hc]
theorem IX (hA:R5 F M v)(h0:0≤i)(h:v.drop i.toNat=c::r)(hS:(S.length:Int)≤i)(hb:DA S)(hk:KQ S=false)(hp:pl c=true)(hn:decide (0<c.fN)=true)(hv:c.fN≤v.length) :
  Eb (P0 F v) (S.reverse,i,sh) ((⟨decide (c.fKind=6),c.fN,decide (c.fKind=6),[],false⟩::S).reverse,i+1,Iu S.length sh c):=by
 have hr:=round (sh:=sh) hA h0 h hS hb;have hv':decide ((v.length:Int)<c.fN)=false:=by simpa using hv
 refine Eb.step ?_;rw[hr]
 cases S with
 | nil=>simp only[PX,hp,hn,hv',Yj,Yb,Yg];rfl
 | cons e S=>
  simp only[KQ] at hk;simp only[PX,hp,hn,hv',hk,Yj,Yb,Yg]
theorem Ch:∀f:Fo,f.cnt≤f.flat.length
 | .nil=>Yp _
 | .cell k c r=>by have:=Ch r;simp[Fo.cnt,Fo.flat];omega
 | .node k c kids r=>by have:=Ch r;simp[Fo.cnt,Fo.flat];omega
theorem CH {α:Type}{v xs r:List α}{i:Int}(h0:0≤i)(h:v.drop i.toNat=xs++r):v.drop (i+xs.length).toNat=r:=by
 rw[show(i+(xs.length:Int)).toNat=i.toNat+xs.length from by omega,← List.drop_drop,h,List.drop_left]
theorem Pb (hA:R5 F M v){e':AB}{s:OF}{k:Option Au}{r':Fo}
  (ih:∀(e:AB) (S:List AB) (i:Int) (sh:AJ) (last:Option Au) (r:List Aa),1≤r'.cnt→r'.wf e.fPairs last=true→e.fKey=e.fPairs→e.fLeft=r'.cnt→IC e last→(e.fPairs=false→last=none)→v.drop i.toNat=r'.flat++r→0≤i→(S.length:Int)+1≤i→DA S→
   He (P0 F v) ((e::S).reverse,i,sh) S (i+r'.flat.length) (r'.sh (S.length+1) sh))
  (hd:He (P0 F v) s (e'::S) i sh) (hl:e'.fLeft=r'.cnt+1) (hw:r'.wf e'.fPairs k=true) (hk:IC e' k) (hm:e'.fPairs=false→k=none) (hv:v.drop i.toNat=r'.flat++r) (h0:0≤i) (hS:(S.length:Int)+1≤i) (hb:DA S) :
  He (P0 F v) s S (i+r'.flat.length) (r'.sh (S.length+1) sh):=by
 by_cases h1:r'.cnt=0
 ·cases r' with
  | nil=>simpa[Fo.flat,Fo.sh] using hd.pop (by rw[hl];rfl)
  | cell _ _ _=>simp[Fo.cnt] at h1
  | node _ _ _ _=>simp[Fo.cnt] at h1
 ·have:=hd.more (by omega);refine He.of this (ih _ S i sh k r (by omega) hw rfl (by simp only;omega) ?_ hm hv h0 hS hb)
  cases k with
  | none=>exact hk
  | some p=>exact hk
theorem Jz {k last:Option Au}(hl:IC e last)(hm:e.fPairs=false→last=none)(hk:C2 e.fPairs last k=true):IC (EX e k) k∧((EX e k).fPairs=false→k=none):=by
 cases k with
 | none=>
  have:e.fPairs=false:=by simpa[C2] using hk
  rw[hm this] at hl;exact⟨hl,λ_=>rfl⟩
 | some s=>
  refine⟨⟨rfl,rfl⟩,λh=>?_⟩;have h:e.fPairs=false:=h;simp[C2,h] at hk
theorem Lz (hA:R5 F M v):∀(f:Fo) (e:AB) (S:List AB) (i:Int) (sh:AJ) (last:Option Au) (r:List Aa),1≤f.cnt→f.wf e.fPairs last=true→e.fKey=e.fPairs→e.fLeft=f.cnt→IC e last→(e.fPairs=false→last=none)→v.drop i.toNat=f.flat++r→0≤i→(S.length:Int)+1≤i→DA S→
   He (P0 F v) ((e::S).reverse,i,sh) S (i+f.flat.length) (f.sh (S.length+1) sh):=by
 have hmax:∀(i:Int) (xs:List Aa),0≤i→v.drop i.toNat=xs→xs.length≤v.length:=λi xs _ h=>by rw[← h,YE];omega
 intro f
 induction f with
 | nil=>intro e S i sh last r h1;simp[Fo.cnt] at h1
 | cell k c r' ih=>
  intro e S i sh last r h1 hw hk hl hlo hm hv h0 hS hb;simp only[Fo.wf,Ya,Yk] at hw;obtain⟨⟨⟨w1,w2⟩,w3⟩,w4⟩:=hw;simp only[Fo.flat,Y5,YF] at hv;have hcnt:=hmax i _ h0 hv;have hcf:=Ch r';simp only[Yd,XZ] at hcnt;have hvM:=hA.hv;have hMM:=hA.hM;simp only[Fo.cnt] at hl;have hb':DA (e::S):=λx hx=>by
   rcases List.mem_cons.1 hx with rfl | hx
   ·constructor<;>omega
   ·exact hb x hx
  have hkr:=ME (sh:=sh) hA h0 hv hS hb' (by rw[hk];exact w1) hlo;have hv1:=CH h0 hv;obtain⟨kl,kp⟩:=Jy (e:=e) k;have hbk:DA (EX e k::S):=λx hx=>by
   rcases List.mem_cons.1 hx with rfl | hx
   ·rw[kl];exact hb' e (by simp)
   ·exact hb x hx
  have hd:=KO (sh:=Lu k sh) hA (by omega) hv1 (by simp only[XZ];omega) hbk (KP (by rw[hk];exact w1)) w2 w3;obtain⟨q1,q2⟩:=Jz hlo hm w1;have hv2:=(Ce (by omega) hv1).2.1;have:=Pb hA ih (hd.of hkr) (by rw[kl,hl];rfl) (by rw[kp];exact w4) q1 q2 hv2 (by omega) (by omega) hb;simp only[Fo.flat,Fo.sh,Yd,XZ];rw[show i+((((Bv k).length+(r'.flat.length+1):Nat)):Int)=i+(Bv k).length+1+r'.flat.length from by omega];exact this
 | node k c kids r' ihk ih=>
  intro e S i sh last r h1 hw hk hl hlo hm hv h0 hS hb;simp only[Fo.wf,Ya,XU] at hw;obtain⟨⟨⟨⟨⟨w1,w2⟩,w3⟩,w5⟩,w6⟩,w4⟩:=hw;simp only[Fo.flat,Y5,YF] at hv;have hcnt:=hmax i _ h0 hv;have hcf:=Ch r';have hck:=Ch kids;simp only[Yd,XZ] at hcnt;have hvM:=hA.hv;have hMM:=hA.hM;simp only[Fo.cnt] at hl;have hb':DA (e::S):=λx hx=>by
   rcases List.mem_cons.1 hx with rfl | hx
   ·constructor<;>omega
   ·exact hb x hx
  have hkr:=ME (sh:=sh) hA h0 hv hS hb' (by rw[hk];exact w1) hlo;have hv1:=CH h0 hv;obtain⟨kl,kp⟩:=Jy (e:=e) k;have hbk:DA (EX e k::S):=λx hx=>by
   rcases List.mem_cons.1 hx with rfl | hx
   ·rw[kl];exact hb' e (by simp)
   ·exact hb x hx
  have hn:=IX (sh:=Lu k sh) hA (by omega) hv1 (by simp only[XZ];omega) hbk (KP (by rw[hk];exact w1)) w2 (by simpa using w3) (by omega);have hv2:=(Ce (by omega) hv1).2.1;have hd:=ihk ⟨decide (c.fKind=6),c.fN,decide (c.fKind=6),[],false⟩ (EX e k::S) (i+(Bv k).length+1) (Iu (S.length+1) (Lu k sh) c) none _ (by omega) w6 rfl w5 rfl (λ_=>rfl) hv2 (by omega) (by simp only[XZ];omega) hbk;obtain⟨q1,q2⟩:=Jz hlo hm w1;have hv3:=CH (by omega) hv2;have:=Pb hA ih ((hd.of hn).of hkr) (by rw[kl,hl];rfl) (by rw[kp];exact w4) q1 q2 hv3 (by omega) (by omega) hb;simp only[Fo.flat,Fo.sh,Yd,XZ];rw[show i+((((Bv k).length+(kids.flat.length+r'.flat.length+1):Nat)):Int)=i+(Bv k).length+1+kids.flat.length+r'.flat.length from by omega];exact this
end
theorem M7 {S O:Type}{body:S→Option (Stp S O)}{o:O}:∀{n:Nat} {s:S} (k:Nat),BP body n s=some o→BP body (n+k) s=some o
 | 0,s,k,h=>by cases h
 | n+1,s,k,h=>by
  rw[show n+1+k=n+k+1 from by omega,BP];rw[BP] at h
  cases hb:body s with
  | none=>rw[hb] at h;cases h
  | some t=>
   rw[hb] at h
   cases t with
   | next s'=>exact M7 k h
   | out o'=>exact h
theorem Fin.eq {S O:Type}{body:S→Option (Stp S O)}{s:S}{o o':O}{n:Nat}(h:Fin body s o)(h':BP body n s=some o'):o'=o:=by
 obtain⟨k,hk⟩:=h;have:=M7 k h';rw[hk n] at this;exact(An this).symm
theorem NF:∀{S:List AB},DA S→DA (L5 S)∧(L5 S).length≤S.length
 | [],h=>⟨h,Yp _⟩
 | e::S,h=>by
  have hS:DA S:=λx hx=>h x (by simp[hx]);have he:=h e (by simp);unfold L5
  cases hd:decide (1<e.fLeft) with
  | true=>
   simp only[XU] at hd;refine⟨λx hx=>?_,by simp⟩;rcases List.mem_cons.1 hx with rfl | hx
   ·simp only;omega
   ·exact hS x hx
  | false=>
   obtain⟨h1,h2⟩:=NF hS;exact⟨h1,by simp only[Yb,XZ];omega⟩
theorem TI {n:Int}{S:List AB}{i:Int}{sh:AJ}{c:Aa}{σ:OF}(hb:DA S)(hS:(S.length:Int)≤i)(hN:c.fN≤9223372036854775807)(h:PX n S i sh c = .next σ):∃S' sh',σ=(S'.reverse,i+1,sh')∧DA S'∧(S'.length:Int)≤i+1:=by
 unfold PX at h
 cases hp:pl c with
 | false=>simp[hp] at h
 | true=>
  simp only[hp,Yj,Yb] at h
  cases S with
  | nil=>
   simp only at h
   cases hn:decide (0<c.fN) with
   | false=>simp[hn] at h
   | true=>
    simp only[hn,Yg] at h
    cases hm:decide (n<c.fN) with
    | true=>simp[hm] at h
    | false=>
     simp only[hm,Yb,Stp.next.injEq] at h;refine⟨[_],_,h.symm,λx hx=>?_,by simp at hS ⊢;omega⟩;simp only[Yu] at hx;subst hx;simp only[XU] at hn;exact⟨by simp only;omega,hN⟩
  | cons e S=>
   have he:=hb e (by simp);have hbS:DA S:=λx hx=>hb x (by simp[hx]);simp only[XZ] at hS
   cases hk:e.fKey with
   | true=>
    simp only[hk,Yg] at h
    cases hq:(!decide (c.fKind=4)||(e.fStarted&&(De c.fStr e.fLast||decide (c.fStr=e.fLast)))) with
    | true=>rw[hq] at h;simp at h
    | false=>
     rw[hq] at h;simp only[Yb,Stp.next.injEq] at h;refine⟨_::S,_,h.symm,λx hx=>?_,by simp only[XZ];omega⟩;rcases List.mem_cons.1 hx with rfl | hx
     ·exact he
     ·exact hbS x hx
   | false=>
    simp only[hk,Yb] at h
    cases hn:decide (0<c.fN) with
    | true=>
     simp only[hn,Yg] at h
     cases hm:decide (n<c.fN) with
     | true=>simp[hm] at h
     | false=>
      simp only[hm,Yb,Stp.next.injEq] at h;refine⟨_::e::S,_,h.symm,λx hx=>?_,by simp only[XZ];omega⟩;rcases List.mem_cons.1 hx with rfl | hx
      ·simp only[XU] at hn;exact⟨by simp only;omega,hN⟩
      ·exact hb x hx
    | false=>
     simp only[hn,Yb] at h
     cases hq:decide (L5 (e::S)=[]) with
     | true=>rw[hq] at h;simp at h
     | false=>
      rw[hq] at h;simp only[Yb,Stp.next.injEq] at h;obtain⟨h1,h2⟩:=NF hb;simp only[XZ] at h2;exact⟨_,_,h.symm,h1,by omega⟩
theorem M8 {F M:Nat}{v:List Aa}(hA:R5 F M v):∃o,BP (P0 F v) F (([]:List AB),0,(⟨0,0,false,false⟩:AJ))=some o∧True:=by
 refine Ia (λσ=>∃S i sh,σ=(S.reverse,i,sh)∧DA S∧(S.length:Int)≤i∧0≤i∧i≤v.length) (λσ=>v.length-σ.2.1.toNat) (λ_=>True) (λσ hI=>?_) F _ ⟨[],0,_,rfl,(λx hx=>by cases hx),Yn _,Yn _,by omega⟩ (by have:=hA.hv;have:=hA.hF;simp;omega);obtain⟨S,i,sh,rfl,hb,hS,h0,hi⟩:=hI
 by_cases hx:i<v.length
 ·obtain⟨c,hc⟩:∃c,v[i.toNat]? =some c:=⟨v[i.toNat]'(by omega),Yc (by omega)⟩
  have hdr:v.drop i.toNat=c::v.drop (i.toNat+1):=by rw[List.drop_eq_getElem_cons (by omega)];congr 1;exact(List.getElem?_eq_some_iff.1 hc).2
  have hr:=round (sh:=sh) hA h0 hdr hS hb
  cases hl:PX v.length S i sh c with
  | next τ=>
   obtain⟨S',sh',rfl,h1,h2⟩:=TI hb hS (hA.hc c (Yh hc)).2.2 hl;exact .inl ⟨_,by rw[hr,hl],⟨S',i+1,sh',rfl,h1,h2,by omega,by omega⟩,by simp only;omega⟩
  | out o=>exact .inr ⟨o,by rw[hr,hl],trivial⟩
 ·refine .inr ⟨.go sh,?_,trivial⟩;show D4 F v S.reverse i sh=_;unfold D4;rw[AM (by simpa using hx)]
def Fo.one:Fo→Bool
 | .cell none _ .nil=>true
 | .node none _ _ .nil=>true
 | _=>false
def Mw:AJ:=⟨0,0,false,false⟩
theorem TH {F M:Nat}{v:List Aa}(hA:R5 F M v){f:Fo}(h1:f.one=true)(hw:f.wf false none=true){r:List Aa}(hv:v=f.flat++r):Fin (P0 F v) ([],0,Mw) (.ret (f.flat.length,f.sh 0 Mw,true)):=by
 have h0:v.drop (0:Int).toNat=f.flat++r:=by rw[hv];rfl
 have hlen:f.flat.length≤v.length:=by rw[hv];simp
 cases f with
 | nil=>cases h1
 | cell k c r'=>
  cases k with
  | some s=>cases h1
  | none=>
   cases r' with
   | nil=>
    simp only[Fo.wf,Ya,Yk] at hw;have:=KO (S:=[]) (sh:=Mw) hA (Yn 0) h0 (by simp) (λx hx=>by cases hx) rfl hw.1.1.2 hw.1.2;unfold He at this;rw[if_pos (show L5 []=[] from rfl)] at this;simpa[Fo.flat,Fo.sh,Bv,Lu] using this
   | cell _ _ _=>cases h1
   | node _ _ _ _=>cases h1
 | node k c kids r'=>
  cases k with
  | some s=>cases h1
  | none=>
   cases r' with
   | nil=>
    simp only[Fo.wf,Ya,XU] at hw;obtain⟨⟨⟨⟨⟨w1,w2⟩,w3⟩,w5⟩,w6⟩,w4⟩:=hw;have hck:=Ch kids;simp only[Fo.flat,Bv,YG,YA,XZ] at hlen;have hvM:=hA.hv;have hMM:=hA.hM;have hn:=IX (S:=[]) (sh:=Mw) hA (Yn 0) h0 (by simp) (λx hx=>by cases hx) rfl w2 (by simpa using w3) (by omega);have hv2:=(Ce (Yn 0) h0).2.1;have hd:=Lz hA kids ⟨decide (c.fKind=6),c.fN,decide (c.fKind=6),[],false⟩ [] (0+1) (Iu 0 Mw c) none r (by omega) w6 rfl w5 rfl (λ_=>rfl) (by rw[hv2];simp[Fo.flat]) (by omega) (by simp) (λx hx=>by cases hx);unfold He at hd;rw[if_pos (show L5 []=[] from rfl)] at hd;have:=hn.fin hd;have e:((0:Int)+1+kids.flat.length)=((Fo.node none c kids .nil).flat.length:Int):=by simp[Fo.flat,Bv];omega
    rw[e] at this;exact this
   | cell _ _ _=>cases h1
   | node _ _ _ _=>cases h1
theorem Pz {F M:Nat}{v:List Aa}(hA:R5 F M v){f:Fo}(h1:f.one=true)(hw:f.wf false none=true){r:List Aa}(hv:v=f.flat++r):E3 F v=some ((f.flat.length:Int),f.sh 0 Mw,true):=by
 obtain⟨o,ho,_⟩:=M8 hA;have e:=(TH hA h1 hw hv).eq ho;subst e;unfold E3;rw[Ba ho];rfl
def HW (m:Bool)(last:Option Au)(xs:List Aa):Option (Option Au×List Aa):=
 bif m then match xs with
  | []=>none
  | c::r=>bif pl c&&decide (c.fKind=4)&&C2 true last (some c.fStr) then some (some c.fStr,r) else none
 else some (none,xs)
def HC:Nat→Bool→Option Au→Nat→List Aa→Option (Fo×List Aa)
 | 0,_,_,_,_=>none
 | _+1,_,_,0,xs=>some (.nil,xs)
 | F+1,m,last,k+1,xs=>
  match HW m last xs with
  | none=>none
  | some (_,[])=>none
  | some (key,c::xs')=>
   bif !pl c then none else
   bif decide (0<c.fN) then
    match HC F (decide (c.fKind=6)) none c.fN.toNat xs' with
    | none=>none
    | some (kids,ys)=>match HC F m key k ys with
     | none=>none
     | some (r,zs)=>some (.node key c kids r,zs)
   else match HC F m key k xs' with
    | none=>none
    | some (r,zs)=>some (.cell key c r,zs)
theorem Oi {c:Aa}(hp:pl c=true)(hk:c.fKind=4):c=⟨4,0,c.fStr,0⟩∧c.fStr.all UB=true:=by
 cases c
 simp only at hk;subst hk;simp[pl] at hp;obtain⟨h1,h2,h3⟩:=hp;subst h1;subst h2;exact⟨rfl,by simpa using h3⟩
theorem LO {m:Bool}{last key:Option Au}{xs r:List Aa}(h:HW m last xs=some (key,r)):xs=Bv key++r∧C2 m last key=true:=by
 unfold HW at h
 cases m with
 | false=>cases h;exact⟨rfl,rfl⟩
 | true=>
  simp only[Yg] at h
  cases xs with
  | nil=>cases h
  | cons c r'=>
   simp only at h
   cases hb:(pl c&&decide (c.fKind=4)&&C2 true last (some c.fStr)) with
   | false=>rw[hb] at h;cases h
   | true=>
    rw[hb] at h;simp only[Ya,XU] at hb
    cases h
    exact⟨by rw[(Oi hb.1.1 hb.1.2).1];rfl,hb.2⟩
theorem GV:∀(F:Nat) (m:Bool) (last:Option Au) (k:Nat) (xs:List Aa) (f:Fo) (ys:List Aa),HC F m last k xs=some (f,ys)→xs=f.flat++ys∧f.wf m last=true∧f.cnt=k
 | 0,_,_,_,_,_,_,h=>by cases h
 | F+1,m,last,0,xs,f,ys,h=>by cases h;exact⟨rfl,rfl,rfl⟩
 | F+1,m,last,k+1,xs,f,ys,h=>by
  rw[HC] at h
  cases hk:HW m last xs with
  | none=>rw[hk] at h;cases h
  | some p=>
   obtain⟨key,r⟩:=p;obtain⟨h1,h2⟩:=LO hk;rw[hk] at h
   cases r with
   | nil=>cases h
   | cons c xs'=>
    simp only at h
    cases hp:pl c with
    | false=>rw[hp] at h;cases h
    | true=>
     rw[hp] at h;simp only[Yj,Yb] at h
     cases hn:decide (0<c.fN) with
     | true=>
      rw[hn] at h;simp only[Yg] at h
      cases hq:HC F (decide (c.fKind=6)) none c.fN.toNat xs' with
      | none=>rw[hq] at h;cases h
      | some q=>
       obtain⟨kids,zs⟩:=q;rw[hq] at h;simp only at h
       cases hr:HC F m key k zs with
       | none=>rw[hr] at h;cases h
       | some q2=>
        obtain⟨r2,us⟩:=q2;rw[hr] at h;cases h;obtain⟨a1,a2,a3⟩:=GV F _ _ _ _ _ _ hq;obtain⟨b1,b2,b3⟩:=GV F _ _ _ _ _ _ hr;refine⟨by rw[h1,a1,b1];simp[Fo.flat],?_,by simp[Fo.cnt,b3]⟩;simp only[XU] at hn;simp only[Fo.wf,h2,hp,a2,b2,Y1,Yl,Ya,XU];omega
     | false=>
      rw[hn] at h;simp only[Yb] at h
      cases hr:HC F m key k xs' with
      | none=>rw[hr] at h;cases h
      | some q2=>
       obtain⟨r2,us⟩:=q2;rw[hr] at h;cases h;obtain⟨b1,b2,b3⟩:=GV F _ _ _ _ _ _ hr;exact⟨by rw[h1,b1];simp[Fo.flat],by simp[Fo.wf,h2,hp,b2,hn],by simp[Fo.cnt,b3]⟩
theorem Hv:∀(F F':Nat) (m:Bool) (last:Option Au) (k:Nat) (xs:List Aa),xs.length<F→xs.length<F'→HC F m last k xs=HC F' m last k xs
 | 0,_,_,_,_,_,h,_=>by omega
 | _+1,0,_,_,_,_,_,h=>by omega
 | F+1,F'+1,m,last,0,xs,_,_=>rfl
 | F+1,F'+1,m,last,k+1,xs,h,h'=>by
  rw[HC,HC]
  cases hk:HW m last xs with
  | none=>rfl
  | some p=>
   obtain⟨key,r⟩:=p;obtain⟨h1,h2⟩:=LO hk
   cases r with
   | nil=>rfl
   | cons c xs'=>
    have hl:xs'.length<xs.length:=by rw[h1];simp;omega
    simp only
    cases hp:pl c with
    | false=>rfl
    | true=>
     simp only[Yj,Yb]
     cases hn:decide (0<c.fN) with
     | true=>
      simp only[Yg];rw[Hv F F' _ _ _ xs' (by omega) (by omega)]
      cases hq:HC F' (decide (c.fKind=6)) none c.fN.toNat xs' with
      | none=>rfl
      | some q=>
       obtain⟨kids,zs⟩:=q;have:=(GV _ _ _ _ _ _ _ hq).1;have hz:zs.length≤xs'.length:=by rw[this];simp
       simp only;rw[Hv F F' m key k zs (by omega) (by omega)]
     | false=>
      simp only[Yb];rw[Hv F F' m key k xs' (by omega) (by omega)]
def QP {S:Type}(body:S→Option (Stp S VO))(s:S):Prop:=∃sh',Fin body s (.ret (0,sh',false))∨Fin body s (.go sh')
theorem Eb.bad {S:Type}{body:S→Option (Stp S VO)}{s t:S}(h:Eb body s t)(h':QP body t):QP body s:=by
 obtain⟨sh',h' | h'⟩:=h'
 ·exact⟨sh',.inl (h.fin h')⟩
 ·exact⟨sh',.inr (h.fin h')⟩
section
variable {F M : Nat} {v : List Aa}
theorem QP.end_ {S:List AB}{i:Int}{sh:AJ}(h0:0≤i)(h:v.drop i.toNat=[]):QP (P0 F v) (S.reverse,i,sh):=by
 refine⟨sh,.inr (Fin.step ?_)⟩;show D4 F v S.reverse i sh=_;unfold D4;rw[AM];have:v.length≤i.toNat:=by simpa using h
 simp;omega
theorem QP.pl_ (hA:R5 F M v){S:List AB}{i:Int}{sh:AJ}{c:Aa}{r:List Aa}(h0:0≤i)(h:v.drop i.toNat=c::r)(hS:(S.length:Int)≤i)(hb:DA S)(hp:pl c=false):QP (P0 F v) (S.reverse,i,sh):=by
 refine⟨sh,.inl (Fin.step ?_)⟩;rw[round hA h0 h hS hb];simp[PX,hp]
theorem Q4 (hA:R5 F M v):∀(P:Nat) (k:Nat) (e:AB) (S:List AB) (i:Int) (sh:AJ) (last:Option Au) (xs:List Aa),xs.length<P→HC P e.fPairs last (k+1) xs=none→e.fKey=e.fPairs→e.fLeft=(k:Int)+1→(k:Int)+1≤9223372036854775807→IC e last→(e.fPairs=false→last=none)→v.drop i.toNat=xs→0≤i→(S.length:Int)+1≤i→DA S→
  QP (P0 F v) ((e::S).reverse,i,sh):=by
 intro P
 induction P with
 | zero=>intro k e S i sh last xs h;omega
 | succ P ih=>
  intro k e S i sh last xs hP hn hk hl hkm hlo hm hv h0 hS hb;have hb':DA (e::S):=λx hx=>by
   rcases List.mem_cons.1 hx with rfl | hx
   ·constructor<;>omega
   ·exact hb x hx
  rw[HC] at hn
  cases hq:HW e.fPairs last xs with
  | none=>
   unfold HW at hq
   cases hpr:e.fPairs with
   | false=>rw[hpr] at hq;cases hq
   | true=>
    rw[hpr] at hq hk;simp only[Yg] at hq
    cases xs with
    | nil=>exact QP.end_ h0 hv
    | cons c r=>
     simp only at hq
     cases hp:pl c with
     | false=>exact QP.pl_ hA h0 hv (by simpa using hS) hb' hp
     | true=>
      refine⟨sh,.inl (Fin.step ?_)⟩;rw[round hA h0 hv (by simpa using hS) hb'];have ht:(!decide (c.fKind=4)||(e.fStarted&&(De c.fStr e.fLast||decide (c.fStr=e.fLast))))=true:=by
       rw[hp] at hq
       cases h4:decide (c.fKind=4) with
       | false=>rfl
       | true=>
        rw[h4] at hq;simp only[Bool.and_self,Yl] at hq;have hok:=(Oi hp (by simpa using h4)).2
        cases last with
        | none=>simp[C2,hok] at hq
        | some p=>
         obtain⟨q1,q2⟩:=hlo;rw[q1,q2]
         cases hc:(De c.fStr p||decide (c.fStr=p)) with
         | true=>rfl
         | false=>simp[C2,hok,hc] at hq
      simp only[PX,hp,hk,ht,Yj,Yb,Yg]
  | some q=>
   obtain⟨key,r⟩:=q;obtain⟨h1,h2⟩:=LO hq;rw[hq] at hn;have hkr:=ME (sh:=sh) hA h0 (by rw[hv];exact h1) hS hb' (by rw[hk];exact h2) hlo;have hv1:=CH h0 (hv.trans h1);obtain⟨kl,kp⟩:=Jy (e:=e) key;obtain⟨q1,q2⟩:=Jz hlo hm h2;have hbk:DA (EX e key::S):=λx hx=>by
    rcases List.mem_cons.1 hx with rfl | hx
    ·rw[kl];exact hb' e (by simp)
    ·exact hb x hx
   refine hkr.bad ?_
   cases r with
   | nil=>exact QP.end_ (by omega) hv1
   | cons c xs'=>
    have hlen:xs'.length+1≤xs.length:=by rw[h1];simp
    have hvl:xs.length≤v.length:=by rw[← hv,YE];omega
    have hvM:=hA.hv;have hMM:=hA.hM;have hkk:=KP (e:=e) (last:=last) (k:=key) (by rw[hk];exact h2);simp only at hn;have hSk:(((EX e key::S).length:Nat):Int)≤i+(Bv key).length:=by simp only[XZ];omega
    cases hp:pl c with
    | false=>exact QP.pl_ hA (by omega) hv1 hSk hbk hp
    | true=>
     rw[hp] at hn;simp only[Yj,Yb] at hn;obtain⟨g1,g2,g3⟩:=Ce (by omega) hv1;have hcN:=(hA.hc c (Yh g1)).2.2;have more:∀(s:OF) (j:Int) (sh':AJ) (zs:List Aa),He (P0 F v) s (EX e key::S) j sh'→v.drop j.toNat=zs→zs.length<P→0≤j→(S.length:Int)+1≤j→HC P e.fPairs key k zs=none→QP (P0 F v) s:=λs j sh' zs hd hz hzl hj hSj hnone=>by
      cases k with
      | zero=>
       cases P with
       | zero=>omega
       | succ P=>cases hnone
      | succ k=>
       have:=hd.more (by rw[kl];omega);refine this.bad (ih k _ S j sh' key zs hzl (by rw[kp];exact hnone) rfl (by simp only[kl];omega) (by omega) ?_ (by simpa using q2) hz hj hSj hb)
       cases key with
       | none=>exact q1
       | some p=>exact q1
     cases hN:decide (0<c.fN) with
     | true=>
      rw[hN] at hn;simp only[Yg] at hn;simp only[XU] at hN
      by_cases hbig:c.fN≤v.length
      ·have hnd:=IX (sh:=Lu key sh) hA (by omega) hv1 hSk hbk (by simpa[KQ] using hkk) hp (by simpa using hN) hbig;refine hnd.bad ?_
       cases hks:HC P (decide (c.fKind=6)) none c.fN.toNat xs' with
       | none=>
        obtain⟨n',hn'⟩:∃n',c.fN.toNat=n'+1:=⟨c.fN.toNat-1,by omega⟩
        rw[hn'] at hks;exact ih n' _ _ _ _ none xs' (by omega) hks rfl (by simp only;omega) (by omega) rfl (λ_=>rfl) g2 (by omega) (by simp only[XZ];omega) hbk
       | some q=>
        obtain⟨kids,zs⟩:=q;rw[hks] at hn;simp only at hn;have hn2:HC P e.fPairs key k zs=none:=by
         cases hz:HC P e.fPairs key k zs with
         | none=>rfl
         | some q=>rw[hz] at hn;cases hn
        obtain⟨a1,a2,a3⟩:=GV _ _ _ _ _ _ _ hks;have hd:=Lz hA kids ⟨decide (c.fKind=6),c.fN,decide (c.fKind=6),[],false⟩ (EX e key::S) (i+(Bv key).length+1) (Iu (S.length+1) (Lu key sh) c) none zs (by omega) a2 rfl (by simp only;omega) rfl (λ_=>rfl) (by rw[g2];exact a1) (by omega) (by simp only[XZ];omega) hbk;have hz:v.drop (i+(Bv key).length+1+kids.flat.length).toNat=zs:=CH (by omega) (g2.trans a1);have hzl:zs.length≤xs'.length:=by rw[a1];simp
        exact more _ _ _ zs hd hz (by omega) (by omega) (by omega) hn2
      ·refine⟨Iu (EX e key::S).length (Lu key sh) c,.inl (Fin.step ?_)⟩;rw[round hA (by omega) hv1 hSk hbk];have hbig':decide ((v.length:Int)<c.fN)=true:=by simpa using hbig
       simp only[PX,hp,hkk,hbig',hN,Yj,Yb,Yg,decide_true]
     | false=>
      rw[hN] at hn;simp only[Yb] at hn;have hn2:HC P e.fPairs key k xs'=none:=by
       cases hz:HC P e.fPairs key k xs' with
       | none=>rfl
       | some q=>rw[hz] at hn;cases hn
      have hd:=KO (sh:=Lu key sh) hA (by omega) hv1 hSk hbk (by simpa[KQ] using hkk) hp hN;exact more _ _ _ xs' hd g2 (by omega) (by omega) (by omega) hn2
def Hx (xs:List Aa):Option (Fo×List Aa):=HC (xs.length+1) false none 1 xs
theorem Re {P:Nat}{xs ys:List Aa}{f:Fo}(h:HC P false none 1 xs=some (f,ys)):f.one=true:=by
 obtain⟨h1,h2,h3⟩:=GV _ _ _ _ _ _ _ h
 cases f with
 | nil=>cases h3
 | cell k c r=>
  cases r with
  | nil=>
   cases k with
   | none=>rfl
   | some s=>simp[Fo.wf,C2] at h2
  | cell _ _ _=>simp[Fo.cnt] at h3
  | node _ _ _ _=>simp[Fo.cnt] at h3
 | node k c kids r=>
  cases r with
  | nil=>
   cases k with
   | none=>rfl
   | some s=>simp[Fo.wf,C2] at h2
  | cell _ _ _=>simp[Fo.cnt] at h3
  | node _ _ _ _=>simp[Fo.cnt] at h3
theorem Sn (hA:R5 F M v)(h:Hx v=none):QP (P0 F v) ([],0,Mw):=by
 have hlf:DA []:=λx hx=>by cases hx
 unfold Hx at h;rw[HC] at h;simp only[HW,Yb] at h
 cases v with
 | nil=>exact QP.end_ (S:=[]) (Yn 0) rfl
 | cons c xs'=>
  have hv1:(c::xs').drop (0:Int).toNat=c::xs':=rfl;have hvM:=hA.hv;have hMM:=hA.hM;simp only at h
  cases hp:pl c with
  | false=>exact QP.pl_ (S:=[]) hA (Yn 0) hv1 (by simp) hlf hp
  | true=>
   rw[hp] at h;simp only[Yj,Yb] at h;have hcN:=(hA.hc c (by simp)).2.2
   cases hN:decide (0<c.fN) with
   | true=>
    rw[hN] at h;simp only[Yg] at h;simp only[XU] at hN
    by_cases hbig:c.fN≤(c::xs').length
    ·have hnd:=IX (S:=[]) (sh:=Mw) hA (Yn 0) hv1 (by simp) hlf rfl hp (by simpa using hN) hbig;refine hnd.bad ?_
     cases hks:HC (c::xs').length (decide (c.fKind=6)) none c.fN.toNat xs' with
     | none=>
      obtain⟨n',hn'⟩:∃n',c.fN.toNat=n'+1:=⟨c.fN.toNat-1,by omega⟩
      rw[hn'] at hks;exact Q4 hA (c::xs').length n' ⟨decide (c.fKind=6),c.fN,decide (c.fKind=6),[],false⟩ [] (0+1) _ none xs' (by simp) hks rfl (by simp only;omega) (by omega) rfl (λ_=>rfl) rfl (by omega) (by simp) hlf
     | some q=>rw[hks] at h;cases h
    ·refine⟨Iu 0 Mw c,.inl (Fin.step ?_)⟩;rw[show P0 F (c::xs') (([]:List AB),0,Mw)=_ from round (S:=[]) hA (Yn 0) hv1 (by simp) hlf];have hbig':decide (((c::xs').length:Int)<c.fN)=true:=by simpa using hbig
     simp only[PX,hp,hbig',hN,Yj,Yb,Yg,decide_true]
   | false=>rw[hN] at h;cases h
theorem Vl (hA:R5 F M v):(∃f ys,Hx v=some (f,ys)∧E3 F v=some ((f.flat.length:Int),f.sh 0 Mw,true))∨(Hx v=none∧∃sh',E3 F v=some (0,sh',false)):=by
 cases h:Hx v with
 | some q=>
  obtain⟨f,ys⟩:=q;obtain⟨h1,h2,h3⟩:=GV _ _ _ _ _ _ _ h;exact .inl ⟨f,ys,rfl,Pz hA (Re h) h2 h1⟩
 | none=>
  refine .inr ⟨rfl,?_⟩;obtain⟨o,ho,_⟩:=M8 hA;obtain⟨sh',hb | hb⟩:=Sn hA h
  ·have e:=hb.eq ho;subst e;exact⟨sh',by unfold E3;rw[Ba ho];rfl⟩
  ·have e:=hb.eq ho;subst e;exact⟨sh',by unfold E3;rw[Ba ho];rfl⟩
end
theorem IO {x:Int}(h : -9223372036854775808≤x)(h':x≤9223372036854775807):IntKind.wrap .i64 x=x:=by
 simp only[IntKind.wrap,IntKind.bits,IntKind.signed];simp;omega
def Fo.dep:Fo→Nat
 | .nil=>0
 | .cell _ _ r=>max 1 r.dep
 | .node _ _ kids r=>max (kids.dep+1) r.dep
theorem Ge (k:Option Au)(s:AJ):(Lu k s).fDepth=s.fDepth∧(Lu k s).fOutside=s.fOutside∧(Lu k s).fLong=(s.fLong||(Bv k).any λc=>decide (200<(c.fStr.length:Int))):=by
 cases k with
 | none=>simp[Lu,Bv]
 | some x=>simp[Lu,WW,Bv]
theorem JO:∀(f:Fo) (d:Nat) (s:AJ),(d:Int)≤s.fDepth→(f.sh d s).fDepth=max s.fDepth ((d:Int)+f.dep)
 | .nil,d,s,h=>by simp only[Fo.sh,Fo.dep];omega
 | .cell k c r,d,s,h=>by
  have hk:=(Ge k s).1;have e:(Iu d (Lu k s) c).fDepth=max s.fDepth ((d:Int)+1):=by rw[Iu,hk]
  rw[Fo.sh,JO r d _ (by rw[e];omega),e,Fo.dep];omega
 | .node k c kids r,d,s,h=>by
  have hk:=(Ge k s).1;have e:(Iu d (Lu k s) c).fDepth=max s.fDepth ((d:Int)+1):=by rw[Iu,hk]
  have e2:=JO kids (d+1) (Iu d (Lu k s) c) (by rw[e];omega);rw[e] at e2;rw[Fo.sh,JO r d _ (by rw[e2];omega),e2,Fo.dep];omega
def Hz (c:Aa):Bool:=decide (c.fKind=3)&&!(decide ((-1000000000000)≤c.fInt)&&decide (c.fInt≤1000000000000))
def EW (c:Aa):Bool:=decide (200<(c.fStr.length:Int))
theorem P5 (k:Option Au):(Bv k).any Hz=false:=by cases k<;>simp[Bv,Hz]
theorem NY:∀(f:Fo) (d:Nat) (s:AJ),(f.sh d s).fOutside=(s.fOutside||f.flat.any Hz)
 | .nil,d,s=>by simp[Fo.sh,Fo.flat]
 | .cell k c r,d,s=>by
  rw[Fo.sh,NY r,Iu,(Ge k s).2.1];simp only[Fo.flat,List.any_append,List.any_cons,P5,Yo,Bool.or_assoc];rfl
 | .node k c kids r,d,s=>by
  rw[Fo.sh,NY r,NY kids,Iu,(Ge k s).2.1];simp only[Fo.flat,List.any_append,List.any_cons,P5,Yo,Bool.or_assoc];rfl
theorem LK:∀(f:Fo) (d:Nat) (s:AJ),(f.sh d s).fLong=(s.fLong||f.flat.any EW)
 | .nil,d,s=>by simp[Fo.sh,Fo.flat]
 | .cell k c r,d,s=>by
  rw[Fo.sh,LK r,Iu,(Ge k s).2.2];simp only[Fo.flat,List.any_append,List.any_cons,Bool.or_assoc];rfl
 | .node k c kids r,d,s=>by
  rw[Fo.sh,LK r,LK kids,Iu,(Ge k s).2.2];simp only[Fo.flat,List.any_append,List.any_cons,Bool.or_assoc];rfl
def UC (c:Aa):Int:=
 bif decide (c.fKind=1) then 4 else bif decide (c.fKind=2) then 5-c.fInt else bif decide (c.fKind=3) then((Lib.itoa c.fInt).length:Int) else
 bif decide (c.fKind=4) then KH c.fStr else 2
def Oo:Option Au→Int
 | none=>0
 | some s=>KH s+1
def Fo.byt:Fo→Int
 | .nil=>0
 | .cell k c r=>Oo k+UC c+r.byt
 | .node k c kids r=>Oo k+(c.fN+1)+kids.byt+r.byt
theorem M1 (s:Au):2≤KH s:=by unfold KH;omega
theorem LR (k:Option Au):0≤Oo k:=by
 cases k with
 | none=>exact Yn 0
 | some s=>have:=M1 s;simp only[Oo];omega
theorem Rl {c:Aa}(hp:pl c=true):0≤UC c:=by
 unfold UC
 cases h1:decide (c.fKind=1) with
 | true=>simp
 | false=>
  cases h2:decide (c.fKind=2) with
  | true=>
   simp[pl,h1,h2] at hp;simp only[Yb,Yg];omega
  | false=>
   cases h3:decide (c.fKind=3) with
   | true=>simp
   | false=>
    cases h4:decide (c.fKind=4) with
    | true=>have:=M1 c.fStr;simp only[Yb,Yg];omega
    | false=>simp
theorem T6 {c:Aa}(hp:pl c=true):0≤c.fN:=by
 simp only[pl,← Bool.decide_or] at hp
 cases h1:decide (c.fKind=1)<;>cases h2:decide (c.fKind=2)<;>cases h3:decide (c.fKind=3)<;>cases h4:decide (c.fKind=4)<;>cases h5:decide (c.fKind=5)<;>cases h6:decide (c.fKind=6)<;>simp[h1,h2,h3,h4,h5,h6] at hp<;>omega
theorem JW {c:Aa}(hp:pl c=true)(hn:0<c.fN):(c.fKind=5∨c.fKind=6)∧c.fInt=0∧c.fStr=[]:=by
 cases h1:decide (c.fKind=1)<;>cases h2:decide (c.fKind=2)<;>cases h3:decide (c.fKind=3)<;>cases h4:decide (c.fKind=4)<;>cases h5:decide (c.fKind=5)<;>cases h6:decide (c.fKind=6)<;>simp[pl,h1,h2,h3,h4,h5,h6] at hp<;>(simp only[XU,XW] at *;first | omega | exact⟨by omega,hp.1,hp.2.1⟩)
theorem Tn {c:Aa}(hp:pl c=true)(hn:decide (0<c.fN)=false):VU c=UC c:=by
 have hN:=T6 hp;have h0:c.fN=0:=by simp only[XW] at hn;omega
 unfold VU UC;rw[h0]
 cases h1:decide (c.fKind=1) with
 | true=>rfl
 | false=>
  cases h2:decide (c.fKind=2) with
  | true=>
   simp[pl,h1,h2] at hp;simp only[Yb,Yg];exact IO (by omega) (by omega)
  | false=>rfl
theorem Tm {c:Aa}(hp:pl c=true)(hn:0<c.fN)(hm:c.fN≤9223372036854775000):VU c=c.fN+1:=by
 obtain⟨hk,_,_⟩:=JW hp hn;unfold VU;rw[XY (by omega),XY (by omega),XY (by omega),XY (by omega)];simp only[Yb];rw[IO (x:=c.fN-1) (by omega) (by omega),IO (by omega) (by omega)];omega
theorem Ij:∀{f:Fo} {m:Bool} {l:Option Au},f.wf m l=true→0≤f.byt
 | .nil,_,_,_=>Yn 0
 | .cell k c r,m,l,h=>by
  simp only[Fo.wf,Ya] at h;have h1:=Ij h.2;have h2:=Rl h.1.1.2;have h3:=LR k;simp only[Fo.byt];omega
 | .node k c kids r,m,l,h=>by
  simp only[Fo.wf,Ya,XU] at h;have h1:=Ij h.2;have h2:=Ij h.1.2;have h3:=LR k;simp only[Fo.byt];omega
theorem Ny (k:Option Au)(s:AJ)(h0:0≤s.fBytes)(h:s.fBytes+Oo k≤9223372036854775807):(Lu k s).fBytes=s.fBytes+Oo k:=by
 cases k with
 | none=>simp[Lu,Oo]
 | some x=>
  have:=M1 x;simp only[Oo] at h;simp only[Lu,WW,Oo];exact IO (by omega) (by omega)
theorem JP:∀(f:Fo) (m:Bool) (l:Option Au) (d:Nat) (s:AJ),f.wf m l=true→0≤s.fBytes→s.fBytes+f.byt≤9223372036854775000→(f.sh d s).fBytes=s.fBytes+f.byt
 | .nil,_,_,d,s,_,_,_=>by simp[Fo.sh,Fo.byt]
 | .cell k c r,m,l,d,s,hw,h0,h=>by
  simp only[Fo.wf,Ya,Yk] at hw;obtain⟨⟨⟨w1,w2⟩,w3⟩,w4⟩:=hw;have h1:=Ij w4;have h2:=Rl w2;have h3:=LR k;simp only[Fo.byt] at h;have e1:=Ny k s h0 (by omega);have e:(Iu d (Lu k s) c).fBytes=s.fBytes+Oo k+UC c:=by
   rw[Iu,e1,Tn w2 w3];exact IO (by omega) (by omega)
  rw[Fo.sh,JP r _ _ d _ w4 (by rw[e];omega) (by rw[e];omega),e,Fo.byt];omega
 | .node k c kids r,m,l,d,s,hw,h0,h=>by
  simp only[Fo.wf,Ya,XU] at hw;obtain⟨⟨⟨⟨⟨w1,w2⟩,w3⟩,w5⟩,w6⟩,w4⟩:=hw;have h1:=Ij w4;have h2:=Ij w6;have h3:=LR k;simp only[Fo.byt] at h;have e1:=Ny k s h0 (by omega);have e:(Iu d (Lu k s) c).fBytes=s.fBytes+Oo k+(c.fN+1):=by
   rw[Iu,e1,Tm w2 w3 (by omega)];exact IO (by omega) (by omega)
  have e2:=JP kids _ _ (d+1) (Iu d (Lu k s) c) w6 (by rw[e];omega) (by rw[e];omega);rw[Fo.sh,JP r _ _ d _ w4 (by rw[e2,e];omega) (by rw[e2,e];omega),e2,e,Fo.byt];omega
def MQ (s:Au):Au:=s.flatMap λc=>bif (decide (c=34)||decide (c=92)) then[92,c] else[c]
def Jw (s:Au):Au:=34::(MQ s++[34])
theorem MP:∀s:Au,(MQ s).length=s.length+s.count 34+s.count 92
 | []=>rfl
 | c::s=>by
  have ih:=MP s;unfold MQ at ih ⊢;rw[List.flatMap_cons,Yd,ih]
  by_cases h1:c=34
  ·subst h1;simp;omega
  ·by_cases h2:c=92
   ·subst h2;simp;omega
   ·simp[h1,h2,List.count_cons];omega
theorem Pm (s:Au):((Jw s).length:Int)=KH s:=by
 simp only[Jw,XZ,Yd,MP,YD,KH];omega
def Ly (c:Aa):Au:=
 bif decide (c.fKind=1) then[110,117,108,108] else
 bif decide (c.fKind=2) then(bif decide (c.fInt=1) then[116,114,117,101] else[102,97,108,115,101]) else
 bif decide (c.fKind=3) then Lib.itoa c.fInt else
 bif decide (c.fKind=4) then Jw c.fStr else
 bif decide (c.fKind=6) then[123,125] else[91,93]
def MC:Option Au→Au
 | none=>[]
 | some s=>Jw s++[58]
def SL (c:Aa)(s:Au):Au:=bif decide (c.fKind=6) then 123::(s++[125]) else 91::(s++[93])
def Gt (first:Bool):Au:=bif first then[] else[44]
def Fo.txt:Bool→Fo→Au
 | _,.nil=>[]
 | b,.cell k c r=>Gt b++MC k++Ly c++r.txt false
 | b,.node k c kids r=>Gt b++MC k++SL c (kids.txt true)++r.txt false
theorem Rm (k:Option Au):((MC k).length:Int)=Oo k:=by
 cases k with
 | none=>rfl
 | some s=>simp only[MC,Yd,Oo,Yy];have:=Pm s;omega
theorem So {c:Aa}(hp:pl c=true):((Ly c).length:Int)=UC c:=by
  unfold Ly UC
  cases h1:decide (c.fKind=1) with
  | true=>rfl
  | false=>
    cases h2:decide (c.fKind=2) with
    | true=>
      simp[pl,h1,h2] at hp;simp only[Yb,Yg]
      cases h7:decide (c.fInt=1) with
      | true=>simp only[XU] at h7;simp[h7]
      | false=>
                 simp only[XW] at h7;have:c.fInt=0:=by omega
                 simp[this]
    | false=>
      cases h3:decide (c.fKind=3) with
      | true=>rfl
      | false=>
        cases h4:decide (c.fKind=4) with
        | true=>simpa using Pm c.fStr
        | false=>cases h6:decide (c.fKind=6)<;>rfl
theorem LX (c:Aa)(s:Au):(SL c s).length=s.length+2:=by
 unfold SL
 cases decide (c.fKind=6)<;>simp
theorem JN:∀(f:Fo) (m:Bool) (l:Option Au) (b:Bool),f.wf m l=true→((f.txt b).length:Int)=f.byt+(bif b then((f.cnt-1:Nat):Int) else(f.cnt:Int))
 | .nil,m,l,b,_=>by cases b<;>rfl
 | .cell k c r,m,l,b,hw=>by
  simp only[Fo.wf,Ya,Yk] at hw;obtain⟨⟨⟨w1,w2⟩,w3⟩,w4⟩:=hw;have ih:=JN r _ _ false w4;have a:=Rm k;have d:=So w2;simp only[Yb] at ih
  cases b<;>simp only[Fo.txt,Fo.byt,Fo.cnt,Gt,Yg,Yb,Yd,YD,Yy]<;>omega
 | .node k c kids r,m,l,b,hw=>by
  simp only[Fo.wf,Ya,XU] at hw;obtain⟨⟨⟨⟨⟨w1,w2⟩,w3⟩,w5⟩,w6⟩,w4⟩:=hw;have ih:=JN r _ _ false w4;have ih2:=JN kids _ _ true w6;have a:=Rm k;have d:=LX c (kids.txt true);simp only[Yb,Yg] at ih ih2
  cases b<;>simp only[Fo.txt,Fo.byt,Fo.cnt,Gt,Yg,Yb,Yd,YD,Yy]<;>omega
def Fo.put (k:Option Au):Fo→Fo→Fo
 | .cell _ c _,r=>.cell k c r
 | .node _ c kids _,r=>.node k c kids r
 | .nil,_=>.nil
theorem T4 (P:Nat)(m:Bool)(last:Option Au)(k:Nat)(xs:List Aa):HC (P+2) m last (k+1) xs =
  match HW m last xs with
  | none=>none
  | some (key,ys)=>match HC (P+2) false none 1 ys with
   | none=>none
   | some (f,zs)=>match HC (P+1) m key k zs with
    | none=>none
    | some (r,us)=>some (f.put key r,us):=by
 rw[HC]
 cases hk:HW m last xs with
 | none=>rfl
 | some p=>
  obtain⟨key,ys⟩:=p;simp only;rw[HC];simp only[HW,Yb]
  cases ys with
  | nil=>rfl
  | cons c ys=>
   simp only
   cases hp:pl c with
   | false=>rfl
   | true=>
    simp only[Yj,Yb]
    cases hn:decide (0<c.fN) with
    | true=>
     simp only[Yg]
     cases hq:HC (P+1) (decide (c.fKind=6)) none c.fN.toNat ys with
     | none=>rfl
     | some q=>
      obtain⟨kids,zs⟩:=q;simp only[HC]
      cases hr:HC (P+1) m key k zs with
      | none=>rfl
      | some q=>obtain⟨a,b⟩:=q;rfl
    | false=>
     simp only[Yb,HC]
     cases hr:HC (P+1) m key k ys with
     | none=>rfl
     | some q=>obtain⟨a,b⟩:=q;rfl
def M3 (m:Bool)(last:Option Au)(k:Nat)(xs:List Aa):Option (Fo×List Aa):=HC (xs.length+1) m last k xs
theorem KI (m:Bool)(last:Option Au)(xs:List Aa):M3 m last 0 xs=some (.nil,xs):=rfl
theorem Gj (m:Bool)(last:Option Au)(k:Nat)(xs:List Aa):M3 m last (k+1) xs =
  match HW m last xs with
  | none=>none
  | some (key,ys)=>match Hx ys with
   | none=>none
   | some (f,zs)=>match M3 m key k zs with
    | none=>none
    | some (r,us)=>some (f.put key r,us):=by
 unfold M3 Hx;rw[Hv (xs.length+1) (xs.length+2) m last (k+1) xs (by omega) (by omega),T4]
 cases hk:HW m last xs with
 | none=>rfl
 | some p=>
  obtain⟨key,ys⟩:=p;have h1:=(LO hk).1;have hy:ys.length≤xs.length:=by rw[h1];simp
  simp only;rw[Hv (xs.length+2) (ys.length+1) false none 1 ys (by omega) (by omega)]
  cases hf:HC (ys.length+1) false none 1 ys with
  | none=>rfl
  | some q=>
   obtain⟨f,zs⟩:=q;have h2:=(GV _ _ _ _ _ _ _ hf).1;have hz:zs.length≤ys.length:=by rw[h2];simp
   simp only;rw[Hv (xs.length+1) (zs.length+1) m key k zs (by omega) (by omega)]
   all_goals (cases HC (zs.length+1) m key k zs<;>rfl)
theorem IB {S O:Type}{body:S→Option (Stp S O)}{n:Nat}{s s':S}{o:O}(h:body s=some (.next s'))(h':BP body n s'=some o):BP body (n+1) s=some o:=by rw[BP,h];exact h'
theorem Dj {S O:Type}{body:S→Option (Stp S O)}{n:Nat}{s:S}{o:O}(h:body s=some (.out o)):BP body (n+1) s=some o:=by rw[BP,h]
theorem Po:Hx []=none:=rfl
theorem Hw (c:Aa)(r:List Aa):Hx (c::r)=bif !pl c then none else bif decide (0<c.fN) then(match M3 (decide (c.fKind=6)) none c.fN.toNat r with
  | none=>none
  | some (kids,zs)=>some (.node none c kids .nil,zs)) else some (.cell none c .nil,r):=by
 unfold Hx;rw[HC];simp only[HW,Yb]
 cases hp:pl c with
 | false=>rfl
 | true=>
  simp only[Yj,Yb]
  cases hn:decide (0<c.fN) with
  | true=>
   simp only[Yg];unfold M3;rw[XZ]
   cases hq:HC (r.length+1) (decide (c.fKind=6)) none c.fN.toNat r with
   | none=>rfl
   | some q=>obtain⟨kids,zs⟩:=q;rfl
  | false=>rfl
theorem Pn {f:Fo}(h:f.one=true)(key:Option Au)(r:Fo):(f.put key r).flat=Bv key++(f.flat++r.flat):=by
 cases f with
 | nil=>cases h
 | cell k c r'=>
  cases k with
  | some s=>cases h
  | none=>cases r' with
   | nil=>simp[Fo.put,Fo.flat,Bv]
   | cell _ _ _=>cases h
   | node _ _ _ _=>cases h
 | node k c kids r'=>
  cases k with
  | some s=>cases h
  | none=>cases r' with
   | nil=>simp[Fo.put,Fo.flat,Bv]
   | cell _ _ _=>cases h
   | node _ _ _ _=>cases h
theorem Pt {f:Fo}(h:f.one=true):1≤f.flat.length:=by
 cases f with
 | nil=>cases h
 | cell k c r'=>simp[Fo.flat];omega
 | node k c kids r'=>simp[Fo.flat];omega
theorem IW {xs ys:List Aa}{f:Fo}(h:Hx xs=some (f,ys)):xs=f.flat++ys∧f.wf false none=true∧f.one=true:=
 ⟨(GV _ _ _ _ _ _ _ h).1,(GV _ _ _ _ _ _ _ h).2.1,Re h⟩
def Ip (v:List Aa)(i:Int):Int:=match Hx (v.drop i.toNat) with
 | none=>-1
 | some (f,_)=>i+f.flat.length
def Kd (m:Bool)(last:Option Au)(v:List Aa)(i:Int)(k:Nat):Int:=match M3 m last k (v.drop i.toNat) with
 | none=>-1
 | some (f,_)=>i+f.flat.length
theorem N5 {v:List Aa}{i:Int}(h0:0≤i)(h1:i≤v.length):Ip v i = -1∨(i<Ip v i∧Ip v i≤v.length):=by
 unfold Ip
 cases h:Hx (v.drop i.toNat) with
 | none=>exact .inl rfl
 | some q=>
  obtain⟨f,ys⟩:=q;obtain⟨h2,_,h3⟩:=IW h;have:=Pt h3;have hl:(v.drop i.toNat).length=f.flat.length+ys.length:=by rw[h2];simp
  rw[YE] at hl
  right;simp only;omega
structure Xx (F M:Nat) (v:List Aa):Prop where
 hM:M≤1152921504606846976
 hv:v.length≤M
 hF:M<F
 hc:∀c∈v,c.fStr.length≤M
theorem Sd (ok:Bool){i:Int}(h0:0≤i)(h1:i≤1152921504606846976):BH ok i=some (bif ok then i+1 else -1):=by
 unfold BH
 cases ok
 ·rfl
 ·rw[AZ rfl,AU (by omega) (by omega)];rfl
theorem Rd {F:Nat}{c:Aa}(hF:c.fStr.length<F)(hs:c.fStr.length≤1152921504606846976):Nh F c=some (decide (c.fKind=4)&&pl c):=by
 unfold Nh;rw[RT hF (by omega)];simp only[Option.isSome_some,ov,Yv,imp,Yz,AX,Yg]
 cases h4:decide (c.fKind=4) with
 | false=>rfl
 | true=>
  simp only[XU] at h4;simp[pl,h4]
theorem CV {v:List Aa}{i:Int}{c:Aa}{r:List Aa}(h0:0≤i)(h:v.drop i.toNat=c::r):Ay v i=c:=by
 have:=(Ce h0 h).1;simp[Ay,this]
section
variable {M : Nat} {v : List Aa}
theorem Jm {F:Nat}(hA:Xx F M v){g:List Aa→Int→Option Int}{n:Int}(hn:n≤9223372036854775807):∀(L:Nat) (i x:Int),0≤i→i≤v.length→0≤x→x≤n→(∀j,i≤j→j≤v.length→g v j=some (Ip v j))→v.length-i.toNat<L→
  ∃o,BP (λσ=>CK v n g σ.1 σ.2) L (i,x)=some o∧BI (λν=>DG ν) o=some (Kd false none v i (n-x).toNat)
 | 0,i,x,_,_,_,_,_,h=>by omega
 | L+1,i,x,h0,h1,hx,hxn,hg,hL=>by
  cases hxl:decide (x<n) with
  | false=>
   refine⟨.go i,Dj (by show CK v n g i x=_;unfold CK;rw[AM hxl]),?_⟩;simp only[XW] at hxl;rw[show(n-x).toNat=0 from by omega];simp[BI,DG,Kd,KI,Fo.flat]
  | true=>
   have hb:CK v n g i x=AR (decide (Ip v i<0)) (some (.out (.ret (-1)))) (AX (BF .i64 (x+1))<|some (.next (Ip v i,x+1))):=by unfold CK;rw[AZ hxl,hg i (Yn i) h1,Ba rfl]
   simp only[XU] at hxl;obtain⟨k,hk⟩:∃k,(n-x).toNat=k+1:=⟨(n-x).toNat-1,by omega⟩
   rw[hk];have e:Kd false none v i (k+1)=bif decide (Ip v i<0) then -1 else Kd false none v (Ip v i) k:=by
    unfold Kd;rw[Gj];simp only[HW,Yb]
    cases hp:Hx (v.drop i.toNat) with
    | none=>simp[Ip,hp]
    | some q=>
     obtain⟨f,ys⟩:=q;obtain⟨q1,q2,q3⟩:=IW hp;have hi:Ip v i=i+f.flat.length:=by simp[Ip,hp]
     have hd:v.drop (Ip v i).toNat=ys:=by rw[hi];exact CH h0 q1
     rw[hd,XY (by omega)];simp only[Yb]
     cases hr:M3 false none k ys with
     | none=>rfl
     | some q=>
      obtain⟨r,zs⟩:=q;simp only[Pn q3,Bv,YG,Yd,hi];omega
   rw[e];rcases N5 (v:=v) h0 h1 with hneg | ⟨hlt,hle⟩
   ·exact⟨.ret (-1),Dj (hb.trans (by rw[hneg,AZ (by decide)])),by rw[hneg];rfl⟩
   ·have hM:=hA.hM;have hvM:=hA.hv;obtain⟨o,ho1,ho2⟩:=Jm hA hn L (Ip v i) (x+1) (by omega) hle (by omega) (by omega) (λj hj=>hg j (by omega)) (by omega);exact⟨o,IB (hb.trans (by rw[AM (XY (by omega)),AU (by omega) (by omega)])) ho1,by rw[ho2,show(n-(x+1)).toNat=k from by omega,XY (by omega)];rfl⟩
theorem My {F:Nat}(hA:Xx F M v){g:List Aa→Int→Option Int}{n:Int}(hn:n≤9223372036854775807):∀(L:Nat) (i x:Int) (last:Au),0≤i→i≤v.length→0≤x→x≤n→(∀j,i≤j→j≤v.length→g v j=some (Ip v j))→v.length-i.toNat<L→
  ∃o,BP (λσ=>Dh F v n g σ.1 σ.2.1 σ.2.2) L (i,last,x)=some o∧BI (λν=>Gh ν) o=some (Kd true (bif decide (0<x) then some last else none) v i (n-x).toNat)
 | 0,i,x,_,_,_,_,_,_,h=>by omega
 | L+1,i,x,last,h0,h1,hx,hxn,hg,hL=>by
  have hM:=hA.hM;have hvM:=hA.hv;have hMF:=hA.hF
  cases hxl:decide (x<n) with
  | false=>
   refine⟨.go i,Dj (by show Dh F v n g i last x=_;unfold Dh;rw[AM hxl]),?_⟩;simp only[XW] at hxl;rw[show(n-x).toNat=0 from by omega];simp[BI,Gh,Kd,KI,Fo.flat]
  | true=>
   have hxl':=hxl;simp only[XU] at hxl;obtain⟨k,hk⟩:∃k,(n-x).toNat=k+1:=⟨(n-x).toNat-1,by omega⟩
   rw[hk]
   cases hd:v.drop i.toNat with
   | nil=>
    have hl:v.length≤i.toNat:=by simpa using hd
    refine⟨.ret (-1),Dj (by
     show Dh F v n g i last x=_;unfold Dh;rw[AZ hxl',CA (by simp[imp,show(v.length:Int)≤i from by omega]),CA (by simp[imp,show(v.length:Int)≤i from by omega]),AZ (by simp[show(v.length:Int)≤i from by omega])]),?_⟩
    simp[BI,Kd,hd,Gj,HW]
   | cons c r=>
    obtain⟨g1,g2,g3⟩:=Ce h0 hd;have hcM:=hA.hc c (Yh g1);have hat:=CV h0 hd;have hnl:decide ((v.length:Int)≤i)=false:=by simp;omega
    have hb:Dh F v n g i last x=AR (!(decide (c.fKind=4)&&pl c)||decide (0<x)&&(De c.fStr last||decide (c.fStr=last))) (some (.out (.ret (-1)))) (Bh (g v (i+1)) λha=>AR (decide (ha<0)) (some (.out (.ret (-1)))) (AX (BF .i64 (x+1))<|some (.next (ha,c.fStr,x+1)))):=by
     unfold Dh;rw[AZ hxl',CA (by simp only[imp];rw[TW h0 g3];simp),hat,Rd (by omega) (by omega),CA (by simp[imp])];simp only[hnl,ov,Yv,Yo];rw[B0 h0 g3,AU (by omega) (by omega)]
    have hpk:HW true (bif decide (0<x) then some last else none) (c::r)=bif (!(decide (c.fKind=4)&&pl c)||decide (0<x)&&(De c.fStr last||decide (c.fStr=last))) then none else some (some c.fStr,r):=by
     simp only[HW,Yg]
     cases h4:decide (c.fKind=4) with
     | false=>simp
     | true=>
      cases hp:pl c with
      | false=>simp
      | true=>
       have hok:=(Oi hp (by simpa using h4)).2
       cases h0x:decide (0<x) with
       | false=>simp[C2,hok]
       | true=>cases hs:(De c.fStr last||decide (c.fStr=last))<;>simp[C2,hok,hs]
    cases ht:(!(decide (c.fKind=4)&&pl c)||decide (0<x)&&(De c.fStr last||decide (c.fStr=last))) with
    | true=>
     rw[ht] at hpk;refine⟨.ret (-1),Dj (hb.trans (AZ ht)),?_⟩;simp only[Kd,hd,Gj,hpk,Yg];rfl
    | false=>
     rw[ht] at hpk;rw[AM ht,hg (i+1) (by omega) (by omega),Ba rfl] at hb;have e:Kd true (bif decide (0<x) then some last else none) v i (k+1)=bif decide (Ip v (i+1)<0) then -1 else Kd true (some c.fStr) v (Ip v (i+1)) k:=by
      unfold Kd;rw[hd,Gj,hpk];simp only[Yb];have hx:Ip v (i+1)=match Hx r with | none=>-1 | some (f,_)=>i+1+f.flat.length:=by unfold Ip;rw[g2]
      cases hp:Hx r with
      | none=>rw[hp] at hx;simp[hx]
      | some q=>
       obtain⟨f,ys⟩:=q;obtain⟨q1,q2,q3⟩:=IW hp;rw[hp] at hx;simp only at hx;have hd2:v.drop (Ip v (i+1)).toNat=ys:=by rw[hx];exact CH (by omega) (g2.trans q1)
       rw[hd2,XY (by omega)];simp only[Yb]
       cases hr:M3 true (some c.fStr) k ys with
       | none=>rfl
       | some q=>
        obtain⟨r',zs⟩:=q;simp only[Pn q3,Bv,Yd,XZ,YD,hx];omega
     rw[e];rcases N5 (v:=v) (i:=i+1) (by omega) (by omega) with hneg | ⟨hlt,hle⟩
     ·exact⟨.ret (-1),Dj (hb.trans (by rw[hneg,AZ (by decide)])),by rw[hneg];rfl⟩
     ·obtain⟨o,ho1,ho2⟩:=My hA hn L (Ip v (i+1)) (x+1) c.fStr (by omega) hle (by omega) (by omega) (λj hj=>hg j (by omega)) (by omega);exact⟨o,IB (hb.trans (by rw[AM (XY (by omega)),AU (by omega) (by omega)])) ho1,by rw[ho2,show(n-(x+1)).toNat=k from by omega,Ye (show(0:Int)<x+1 from by omega),XY (by omega)];rfl⟩
theorem Px {i:Int}{c:Aa}{r:List Aa}(h0:0≤i)(hd:v.drop i.toNat=c::r)(hp:pl c=true):Ip v i=Kd (decide (c.fKind=6)) none v (i+1) c.fN.toNat:=by
 have g2:=(Ce h0 hd).2.1;have hN:=T6 hp;unfold Ip Kd;rw[hd,Hw,g2,hp];simp only[Yj,Yb]
 cases hn:decide (0<c.fN) with
 | true=>
  simp only[Yg]
  cases hq:M3 (decide (c.fKind=6)) none c.fN.toNat r with
  | none=>rfl
  | some q=>
   obtain⟨kids,zs⟩:=q;simp only[Fo.flat,Bv,YG,XZ,YA];omega
 | false=>
  simp only[XW] at hn;rw[show c.fN.toNat=0 from by omega,KI];simp[Fo.flat,Bv]
theorem Ph (hA:Xx (M+1) M v)(hN:∀c∈v,c.fN≤9223372036854775807):∀(d F:Nat) (i:Int),0≤i→i≤v.length→v.length-i.toNat=d→M+2*d+3<F→Db F v i=some (Ip v i):=by
 have hM:=hA.hM;have hvM:=hA.hv;intro d
 induction d using Nat.strongRecOn with
 | ind d ih=>
  intro F i h0 h1 hd hF;obtain⟨F,rfl⟩:∃G,F=G+1:=⟨F-1,by omega⟩
  obtain⟨F,rfl⟩:∃G,F=G+1:=⟨F-1,by omega⟩
  rw[Db];unfold Oe
  cases hdr:v.drop i.toNat with
  | nil=>
   have hl:v.length≤i.toNat:=by simpa using hdr
   rw[AZ (by simp;omega)];simp[Ip,hdr,Po]
  | cons c r=>
   obtain⟨g1,g2,g3⟩:=Ce h0 hdr;have hcM:=hA.hc c (Yh g1);have hcN:=hN c (Yh g1);rw[AM (by simp;omega),B0 h0 g3,CV h0 hdr];simp only[Sd _ h0 (show i≤1152921504606846976 by omega),Option.isSome_some,ov,Yv,imp,Yz,CA (x:=_) (rfl:true=true)];have hg:∀j,i+1≤j→j≤v.length→Db F v j=some (Ip v j):=λj hj hj2=>ih (v.length-j.toNat) (by omega) F j (by omega) hj2 rfl (by omega);have hpl0:pl c=false→Ip v i = -1:=λhp=>by simp[Ip,hdr,Hw,hp]
   have hleaf:pl c=true→c.fN=0→Ip v i=i+1:=λhp h0'=>by simp[Ip,hdr,Hw,hp,h0',Fo.flat,Bv]
   have hscal:∀b:Bool,pl c=b→(b=true→c.fN=0)→Ip v i=bif b then i+1 else -1:=λb hb hz=>by
    cases b
    ·exact hpl0 hb
    ·exact hleaf hb (hz rfl)
   by_cases k1:c.fKind=1
   ·rw[AZ (by simp[k1])];have hp:pl c=(decide (c.fInt=0)&&(decide (c.fStr=[])&&decide (c.fN=0))):=by simp[pl,k1]
    rw[hscal _ hp (λh=>by simp at h;exact h.2.2)]
    cases decide (c.fInt=0)<;>cases decide (c.fStr=[])<;>cases decide (c.fN=0)<;>rfl
   rw[AM (by simp[k1])]
   by_cases k2:c.fKind=2
   ·rw[AZ (by simp[k2])];have hp:pl c=((decide (c.fInt=0)||decide (c.fInt=1))&&(decide (c.fStr=[])&&decide (c.fN=0))):=by simp[pl,k2]
    rw[hscal _ hp (λh=>by simp at h;exact h.2.2)]
    cases decide (c.fInt=0)<;>cases decide (c.fInt=1)<;>cases decide (c.fStr=[])<;>cases decide (c.fN=0)<;>rfl
   rw[AM (by simp[k2])]
   by_cases k3:c.fKind=3
   ·rw[AZ (by simp[k3])];have hp:pl c=(decide (c.fStr=[])&&decide (c.fN=0)):=by simp[pl,k3]
    rw[hscal _ hp (λh=>by simp at h;exact h.2)]
    cases decide (c.fStr=[])<;>cases decide (c.fN=0)<;>rfl
   rw[AM (by simp[k3])]
   by_cases k4:c.fKind=4
   ·rw[AZ (by simp[k4]),Rd (by omega) (by omega),Ba rfl,Ba rfl];rw[Ye k4,Yl,hscal (pl c) rfl (λhp=>by have:=(Oi hp k4).1;rw[this])]
   rw[AM (by simp[k4])]
   by_cases k5:c.fKind=5
   ·have hp:pl c=(decide (c.fInt=0)&&(decide (c.fStr=[])&&decide (0≤c.fN))):=by simp[pl,k5]
    rw[show(decide (c.fKind=5)&&(decide (c.fInt=0)&&(decide (c.fStr=[])&&decide (0≤c.fN))))=pl c from by rw[hp,Ye k5,Yl]];have k5' : ¬ c.fKind=6:=by omega
    cases hb:pl c with
    | false=>rw[AM rfl,AM (by simp[k5]),hpl0 hb]
    | true=>
     have hn0:=T6 hb;rw[AZ rfl,AU (by omega) (by omega),Gi];unfold HV;obtain⟨o,ho1,ho2⟩:=Jm (F:=F) ⟨hM,hvM,by omega,hA.hc⟩ hcN F (i+1) 0 (by omega) (by omega) (Yn 0) hn0 hg (by omega);rw[Ba ho1,ho2,Ba rfl,Px h0 hdr hb,XY k5',Int.sub_zero]
   rw[AM (by simp[k5])]
   by_cases k6:c.fKind=6
   ·have hp:pl c=(decide (c.fInt=0)&&(decide (c.fStr=[])&&decide (0≤c.fN))):=by simp[pl,k6]
    rw[show(decide (c.fKind=6)&&(decide (c.fInt=0)&&(decide (c.fStr=[])&&decide (0≤c.fN))))=pl c from by rw[hp,Ye k6,Yl]]
    cases hb:pl c with
    | false=>rw[AM rfl,hpl0 hb]
    | true=>
     have hn0:=T6 hb;rw[AZ rfl,AU (by omega) (by omega),KG];unfold LM;obtain⟨o,ho1,ho2⟩:=My (F:=F) ⟨hM,hvM,by omega,hA.hc⟩ hcN F (i+1) 0 [] (by omega) (by omega) (Yn 0) hn0 hg (by omega);rw[Ba ho1,ho2,Ba rfl,Px h0 hdr hb,Ye k6,Int.sub_zero];rfl
   ·rw[AM (by simp[k6]),hpl0 (by simp[pl,k1,k2,k3,k4,k5,k6])]
theorem Qt (hA:Xx (M+1) M v)(hN:∀c∈v,c.fN≤9223372036854775807){F:Nat}(hF:3*M+3<F):JV F v=some (decide (Ip v 0=v.length)):=by
 have hvM:=hA.hv;unfold JV;rw[Ph hA hN v.length F 0 (Yn 0) (by omega) (by simp) (by omega)];simp only[imp,Option.isSome_some,Yz,CA,ov,Yv]
 cases v with
 | nil=>simp[Ip,Po]
 | cons c r=>
  rw[show decide (0<((c::r).length:Int))=true from by simp,Yl]
  first | done | rfl
end
theorem Rf {m:Bool}{last key:Option Au}{r:List Aa}(h:C2 m last key=true):HW m last (Bv key++r)=some (key,r):=by
 cases key with
 | none=>
  have:m=false:=by simpa[C2] using h
  subst this;rfl
 | some s=>
  have h':=h;simp only[C2,Ya] at h;obtain⟨⟨h1,h2⟩,h3⟩:=h;subst h1;have hp:pl ⟨4,0,s,0⟩=true:=by simp[pl,h2]
  show(bif pl ⟨4,0,s,0⟩&&decide ((4:Int)=4)&&C2 true last (some s) then _ else _)=_;rw[hp,h'];rfl
theorem LP:∀(f:Fo) (m:Bool) (last:Option Au) (ys:List Aa),f.wf m last=true→M3 m last f.cnt (f.flat++ys)=some (f,ys)
 | .nil,_,_,_,_=>rfl
 | .cell k c r,m,last,ys,hw=>by
  simp only[Fo.wf,Ya,Yk] at hw;obtain⟨⟨⟨w1,w2⟩,w3⟩,w4⟩:=hw;simp only[Fo.cnt,Fo.flat,Y5,YF];rw[Gj,Rf w1];simp only[Hw,w2,w3,Yj,Yb,LP r m k ys w4,Fo.put]
 | .node k c kids r,m,last,ys,hw=>by
  simp only[Fo.wf,Ya,XU] at hw;obtain⟨⟨⟨⟨⟨w1,w2⟩,w3⟩,w5⟩,w6⟩,w4⟩:=hw;simp only[Fo.cnt,Fo.flat,Y5,YF];rw[Gj,Rf w1];have e:c.fN.toNat=kids.cnt:=by omega
  simp only[Hw,w2,Ye w3,Yj,Yb,Yg,e,LP kids _ none (r.flat++ys) w6,LP r m k ys w4,Fo.put]
theorem Rg {f:Fo}{ys:List Aa}(h1:f.one=true)(hw:f.wf false none=true):Hx (f.flat++ys)=some (f,ys):=by
 have:=LP f false none ys hw;have hc:f.cnt=1:=by
  cases f with
  | nil=>cases h1
  | cell k c r=>cases k with
   | some _=>cases h1
   | none=>cases r with
    | nil=>rfl
    | _=>cases h1
  | node k c kids r=>cases k with
   | some _=>cases h1
   | none=>cases r with
    | nil=>rfl
    | _=>cases h1
 rw[hc] at this;exact this
structure D0 (M:Nat) (v:List Aa):Prop where
 hM:M≤1000000000
 hv:v.length≤M
 hc:∀c∈v,c.fStr.length≤M∧BF .i64 c.fInt=true∧c.fN≤9223372036854775807
theorem D0.lk {M F:Nat}{v:List Aa}(h:D0 M v)(hF:M<F):R5 F M v:=⟨by have:=h.hM;omega,by have:=h.hM;omega,h.hv,hF,h.hc⟩
theorem D0.rf {M F:Nat}{v:List Aa}(h:D0 M v)(hF:M<F):Xx F M v:=⟨by have:=h.hM;omega,h.hv,hF,λc hc=>(h.hc c hc).1⟩
theorem D0.drop {M:Nat}{v:List Aa}(h:D0 M v)(k:Nat):D0 M (v.drop k):=⟨h.hM,by have:=h.hv;rw[YE];omega,λc hc=>h.hc c (List.mem_of_mem_drop hc)⟩
theorem D0.take {M:Nat}{v:List Aa}(h:D0 M v)(k:Nat):D0 M (v.take k):=⟨h.hM,by have:=h.hv;rw[List.length_take];omega,λc hc=>h.hc c (List.mem_of_mem_take hc)⟩
def whole (v:List Aa):Option Fo:=match Hx v with
 | some (f,[])=>some f
 | _=>none
theorem Mf {v:List Aa}{f:Fo}(h:whole v=some f):v=f.flat∧f.wf false none=true∧f.one=true:=by
 unfold whole at h
 cases hp:Hx v with
 | none=>rw[hp] at h;cases h
 | some q=>
  obtain⟨g,ys⟩:=q;rw[hp] at h
  cases ys with
  | cons _ _=>cases h
  | nil=>
   cases h
   obtain⟨h1,h2,h3⟩:=IW hp;exact⟨by simpa using h1,h2,h3⟩
theorem Tb {f:Fo}(h1:f.one=true)(hw:f.wf false none=true):whole f.flat=some f:=by
 have:=Rg (ys:=[]) h1 hw;rw[YA] at this;simp[whole,this]
def Np (f:Fo):Int:=
 bif f.flat.any Hz then 2 else bif f.flat.any EW||(decide (200<f.flat.length)||(decide (8<f.dep)||decide (4000<(f.txt true).length))) then 3 else 0
def CY (v:List Aa):Int:=match whole v with
 | none=>1
 | some f=>Np f
theorem Ok {f:Fo}(h1:f.one=true):f.cnt=1:=by
 cases f with
 | nil=>cases h1
 | cell k c r=>cases k with
  | some _=>cases h1
  | none=>cases r with
   | nil=>rfl
   | _=>cases h1
 | node k c kids r=>cases k with
  | some _=>cases h1
  | none=>cases r with
   | nil=>rfl
   | _=>cases h1
theorem Oh (s:Au):KH s≤2*s.length+2+s.length:=by
 have h1:s.count 34≤s.length:=List.count_le_length;have h2:s.count 92≤s.length:=List.count_le_length;unfold KH;omega
theorem Wg {c:Aa}{M:Nat}(hp:pl c=true)(hs:c.fStr.length≤M)(hi:(Lib.itoa c.fInt).length≤21):UC c≤3*M+21:=by
 have:=Oh c.fStr;unfold UC
 cases h1:decide (c.fKind=1) with
 | true=>simp only[Yg];omega
 | false=>
  cases h2:decide (c.fKind=2) with
  | true=>
   simp[pl,h1,h2] at hp;simp only[Yb,Yg];omega
  | false=>
   cases h3:decide (c.fKind=3) with
   | true=>simp only[Yb,Yg];omega
   | false=>cases h4:decide (c.fKind=4)<;>simp only[Yb,Yg]<;>omega
theorem O8 {M:Nat}:∀{f:Fo} {m:Bool} {l:Option Au},f.wf m l=true→(∀c∈f.flat,c.fStr.length≤M∧BF .i64 c.fInt=true∧c.fN≤9223372036854775807)→f.byt+f.cnt≤(3*M+24)*f.flat.length
 | .nil,_,_,_,_=>by simp[Fo.byt,Fo.flat,Fo.cnt]
 | .cell k c r,m,l,hw,hc=>by
  simp only[Fo.wf,Ya,Yk] at hw;obtain⟨⟨⟨w1,w2⟩,w3⟩,w4⟩:=hw;simp only[Fo.flat] at hc;have ih:=O8 w4 (λx hx=>hc x (by simp[hx]));obtain⟨c1,c2,c3⟩:=hc c (by simp);have i64:=GL c2;have hl:=Wg w2 c1 (Lib.itoa_length_le c.fInt i64.1 i64.2);have hk:Oo k≤(3*M+24)*(Bv k).length:=by
   cases k with
   | none=>simp[Oo,Bv]
   | some s=>
    have:=(hc ⟨4,0,s,0⟩ (by simp[Bv])).1;have h2:=Oh s;simp only at this;simp only[Oo,Bv,Yy];omega
  simp only[Fo.byt,Fo.flat,Fo.cnt,Yd,XZ];have e:((3*(M:Int)+24)*(((Bv k).length+(r.flat.length+1):Nat):Int))=(3*(M:Int)+24)*(Bv k).length+((3*(M:Int)+24)*r.flat.length+(3*(M:Int)+24)):=by
   push_cast;rw[Int.mul_add,Int.mul_add,Int.mul_one]
  rw[e]
  push_cast at *
  omega
 | .node k c kids r,m,l,hw,hc=>by
  simp only[Fo.wf,Ya,XU] at hw;obtain⟨⟨⟨⟨⟨w1,w2⟩,w3⟩,w5⟩,w6⟩,w4⟩:=hw;simp only[Fo.flat] at hc;have ih:=O8 w4 (λx hx=>hc x (by simp[hx]));have ih2:=O8 w6 (λx hx=>hc x (by simp[hx]));have hcf:=Ch kids;have hk:Oo k≤(3*M+24)*(Bv k).length:=by
   cases k with
   | none=>simp[Oo,Bv]
   | some s=>
    have:=(hc ⟨4,0,s,0⟩ (by simp[Bv])).1;have h2:=Oh s;simp only at this;simp only[Oo,Bv,Yy];omega
  simp only[Fo.byt,Fo.flat,Fo.cnt,Yd,XZ];have e:((3*(M:Int)+24)*(((Bv k).length+(kids.flat.length+r.flat.length+1):Nat):Int))=(3*(M:Int)+24)*(Bv k).length+((3*(M:Int)+24)*kids.flat.length+(3*(M:Int)+24)*r.flat.length+(3*(M:Int)+24)):=by
   push_cast;rw[Int.mul_add,Int.mul_add,Int.mul_add,Int.mul_one]
  rw[e]
  push_cast at *
  omega
theorem NJ {M:Nat}(hM:M≤1000000){f:Fo}{m:Bool}{l:Option Au}(hw:f.wf m l=true)(hl:f.flat.length≤M)(hc:∀c∈f.flat,c.fStr.length≤M∧BF .i64 c.fInt=true∧c.fN≤9223372036854775807):f.byt≤4000000000000:=by
 have:=O8 (M:=M) hw hc;have h2:(3*M+24)*f.flat.length≤(3*1000000+24)*1000000:=Nat.mul_le_mul (by omega) (by omega);have h3:(((3*M+24)*f.flat.length:Nat):Int)=(3*(M:Int)+24)*f.flat.length:=by push_cast;rfl
 omega
theorem Gd {M F:Nat}{v:List Aa}(hA:D0 M v)(hM:M≤1000000)(hF:M<F):Dp F v=some (CY v):=by
 unfold Dp CY whole;have hvM:=hA.hv;rcases Vl (hA.lk hF) with⟨f,ys,hp,hl⟩ | ⟨hp,sh',hl⟩
 ·rw[hl,Ba rfl,hp];obtain⟨h1,h2,h3⟩:=IW hp;have hlen:v.length=f.flat.length+ys.length:=by rw[h1];simp
  cases ys with
  | cons c r=>
   rw[AZ];simp only[XZ] at hlen;simp;omega
  | nil=>
   simp only[YD,Nat.add_zero] at hlen;rw[AM (by simp[hlen])];have hc:∀c∈f.flat,c.fStr.length≤M∧BF .i64 c.fInt=true∧c.fN≤9223372036854775807:=λc hc=>hA.hc c (by rw[h1];simp[hc]);have hb:=NJ hM h2 (by omega) hc;have hb0:=Ij h2;have e1:(f.sh 0 Mw).fOutside=f.flat.any Hz:=by rw[NY];rfl
   have e2:(f.sh 0 Mw).fLong=f.flat.any EW:=by rw[LK];rfl
   have e3:(f.sh 0 Mw).fDepth=f.dep:=by rw[JO f 0 Mw (by simp[Mw])];simp[Mw]
   have e4:(f.sh 0 Mw).fBytes=(f.txt true).length:=by
    rw[JP f false none 0 Mw h2 (by simp[Mw]) (by simp[Mw];omega),JN f false none true h2,Ok h3];simp[Mw]
   simp only;rw[e1,e2,e3,e4,hlen];unfold Np
   cases f.flat.any Hz with
   | true=>rw[AZ rfl];rfl
   | false=>
    rw[AM rfl];have a1:decide ((200:Int)<(f.flat.length:Int))=decide (200<f.flat.length):=by rw[Ym];simp;omega
    have a2:decide ((8:Int)<(f.dep:Int))=decide (8<f.dep):=by rw[Ym];simp;omega
    have a3:decide ((4000:Int)<((f.txt true).length:Int))=decide (4000<(f.txt true).length):=by rw[Ym];simp;omega
    rw[a1,a2,a3]
    cases(f.flat.any EW||(decide (200<f.flat.length)||(decide (8<f.dep)||decide (4000<(f.txt true).length))))<;>rfl
 ·rw[hl,Ba rfl,hp];rfl
theorem KN {v:List Aa}{p:Int}{f:Fo}{ys:List Aa}(h1:f.one=true)(hw:f.wf false none=true)(hd:v.drop p.toNat=f.flat++ys):Ip v p=p+f.flat.length:=by
 unfold Ip;rw[hd,Rg h1 hw]
theorem LF {c:Aa}(hp:pl c=true)(hn:decide (0<c.fN)=false):(Fo.cell none c .nil).wf false none=true:=by simp[Fo.wf,C2,hp,hn]
theorem LE {c:Aa}{kids:Fo}(hp:pl c=true)(hn:0<c.fN)(hk:c.fN=kids.cnt)(hw:kids.wf (decide (c.fKind=6)) none=true):(Fo.node none c kids .nil).wf false none=true:=by simp[Fo.wf,C2,hp,hn,hk,hw];omega
section
variable {M : Nat} {v : List Aa}
theorem D0.next (hA:D0 M v){F:Nat}(hF:3*M+3<F){p:Int}(h0:0≤p)(h1:p≤v.length):Db F v p=some (Ip v p):=by
 have hM:=hA.hM;have hvM:=hA.hv;exact Ph (hA.rf (XX M)) (λc hc=>(hA.hc c hc).2.2) (v.length-p.toNat) F p h0 h1 rfl (by omega)
theorem JT {F:Nat}{p:Int}{c:Aa}{r:List Aa}(h0:0≤p)(hpM:p≤1152921504606846976)(hd:v.drop p.toNat=c::r)(hp:pl c=true)(hn:decide (0<c.fN)=false):CR (F+2) v p=some 1:=by
 obtain⟨g1,g2,g3⟩:=Ce h0 hd;rw[CR];unfold Hq;rw[B0 h0 g3,CV h0 hd]
 cases hk:(!decide (c.fKind=5)&&!decide (c.fKind=6)) with
 | true=>rw[AZ rfl]
 | false=>
  rw[AM rfl,AU (by omega) (by omega),Ba (Dj (o:=.go 0) (by
   show CG (F+1) v p _ 0 (p+1) 0=_;unfold CG;rw[CV h0 hd,AM hn]))]
  simp only[BI,D7];rw[AU (by omega) (by omega)];rfl
theorem N2 {F:Nat}{i:Int}{rec:List Aa→Int→Option Int}{most at_ x L:Int}{m:Bool}{p q:Int}{pc:Aa}(hpc:Ay v i=pc)(hm:decide (pc.fKind=6)=m)(hx:x<pc.fN)(hx0:0≤x)(hpcN:pc.fN≤9223372036854775807)
  (ha0:0≤at_) (haM:at_≤1152921504606846976) (hp:p=bif m then at_+1 else at_) (hr:rec v p=some L) (hq:Db F v p=some q):CG F v i rec most at_ x=some (.next (max most L,q,x+1)):=by
 unfold CG;rw[hpc,AZ (by simpa using hx),hm]
 cases m with
 | true=>
  simp only[Yg] at hp;rw[AZ rfl,AU (by omega) (by omega),← hp,hr,Ba rfl]
  cases hl:decide (most<L) with
  | true=>rw[AZ rfl,hq,Ba rfl,AU (by omega) (by omega),Int.max_eq_right (by simp at hl;omega)]
  | false=>rw[AM rfl,hq,Ba rfl,AU (by omega) (by omega),Int.max_eq_left (by simp at hl;omega)]
 | false=>
  simp only[Yb] at hp;rw[AM rfl,← hp,hr,Ba rfl]
  cases hl:decide (most<L) with
  | true=>rw[AZ rfl,hq,Ba rfl,AU (by omega) (by omega),Int.max_eq_right (by simp at hl;omega)]
  | false=>rw[AM rfl,hq,Ba rfl,AU (by omega) (by omega),Int.max_eq_left (by simp at hl;omega)]
theorem Kh {m:Bool}{last key:Option Au}(h:C2 m last key=true):((Bv key).length:Int)=bif m then 1 else 0:=by
  cases key with
  | none=>
            have:m=false:=by simpa[C2] using h
            subst this;rfl
  | some s=>simp only[C2,Ya] at h;rw[h.1.1];rfl
theorem Pi (hA:D0 M v):∀(g:Fo) (F L:Nat) (i at_ x most:Int) (m:Bool) (last:Option Au) (ys:List Aa) (pc:Aa),Ay v i=pc→decide (pc.fKind=6)=m→pc.fN≤9223372036854775807→g.wf m last=true→v.drop at_.toNat=g.flat++ys→0≤at_→at_≤v.length→pc.fN=x+g.cnt→0≤x→0≤most→most≤1152921504606846976→g.cnt<L→3*M+5+g.flat.length<F→
  ∃o,BP (λσ=>CG F v i (CR F) σ.1 σ.2.1 σ.2.2) L (most,at_,x)=some o∧BI (λν=>D7 ν) o=some (max most (g.dep:Int)+1):=by
 have hM:=hA.hM;have hvM:=hA.hv;have fin:∀(F L:Nat) (i at_ x most:Int) (pc:Aa),Ay v i=pc→pc.fN≤x→0≤most→most≤1152921504606846976→0<L→∃o,BP (λσ=>CG F v i (CR F) σ.1 σ.2.1 σ.2.2) L (most,at_,x)=some o∧BI (λν=>D7 ν) o=some (most+1):=λF L i at_ x most pc hpc hx h0 hb hL=>by
  obtain⟨L,rfl⟩:∃K,L=K+1:=⟨L-1,by omega⟩
  refine⟨.go most,Dj (by show CG F v i _ most at_ x=_;unfold CG;rw[hpc,AM (by simp;omega)]),?_⟩;simp only[BI,D7];rw[AU (by omega) (by omega)]
 have depM:∀g:Fo,g.dep≤g.flat.length:=by
  intro g
  induction g with
  | nil=>simp[Fo.dep]
  | cell k c r ih=>simp[Fo.dep,Fo.flat];omega
  | node k c kids r ih1 ih2=>simp[Fo.dep,Fo.flat];omega
 intro g
 induction g with
 | nil=>
  intro F L i at_ x most m last ys pc hpc hm hpN hw hd h0 h1 hN hx hmo hmM hL hF;obtain⟨o,h1,h2⟩:=fin F L i at_ x most pc hpc (by simp[Fo.cnt] at hN;omega) hmo hmM (by omega);exact⟨o,h1,by rw[h2];simp only[Fo.dep];congr 2<;>omega⟩
 | cell k c r ih=>
  intro F L i at_ x most m last ys pc hpc hm hpN hw hd h0 h1 hN hx hmo hmM hL hF;simp only[Fo.wf,Ya,Yk] at hw;obtain⟨⟨⟨w1,w2⟩,w3⟩,w4⟩:=hw;simp only[Fo.flat,Y5,YF] at hd;simp only[Fo.cnt] at hN hL;simp only[Fo.flat,Yd,XZ] at hF;obtain⟨L,rfl⟩:∃K,L=K+1:=⟨L-1,by omega⟩
  obtain⟨F,rfl⟩:∃K,F=K+2:=⟨F-2,by omega⟩
  have hd1:=CH h0 hd;have hkl:=Kh w1;obtain⟨g1,g2,g3⟩:=Ce (by omega) hd1;have hlen:at_+(Bv k).length=bif m then at_+1 else at_:=by rw[hkl];cases m<;>simp
  have hq:=hA.next (F:=F+2) (by omega) (p:=at_+(Bv k).length) (by omega) (by omega);rw[KN (f:=.cell none c .nil) (ys:=r.flat++ys) rfl (LF w2 w3) hd1] at hq;have hb:=N2 (most:=most) (x:=x) hpc hm (by omega) hx hpN h0 (by omega) hlen (JT (F:=F) (by omega) (by omega) hd1 w2 w3) hq;have hdd:=depM r;obtain⟨o,ho1,ho2⟩:=ih (F+2) L i (at_+(Bv k).length+((Fo.cell none c .nil).flat.length:Int)) (x+1) (max most 1) m k ys pc hpc hm hpN w4 (by rw[show(Fo.cell none c .nil).flat.length=1 from rfl];exact g2) (by omega) (by rw[show(Fo.cell none c .nil).flat.length=1 from rfl];omega) (by omega) (by omega) (by omega) (by omega) (by omega) (by omega);refine⟨o,IB hb ho1,?_⟩;rw[ho2,Fo.dep];congr 2<;>omega
 | node k c kids r ihk ih=>
  intro F L i at_ x most m last ys pc hpc hm hpN hw hd h0 h1 hN hx hmo hmM hL hF;simp only[Fo.wf,Ya,XU] at hw;obtain⟨⟨⟨⟨⟨w1,w2⟩,w3⟩,w5⟩,w6⟩,w4⟩:=hw;simp only[Fo.flat,Y5,YF] at hd;simp only[Fo.cnt] at hN hL;simp only[Fo.flat,Yd,XZ] at hF;obtain⟨L,rfl⟩:∃K,L=K+1:=⟨L-1,by omega⟩
  obtain⟨F,rfl⟩:∃K,F=K+1:=⟨F-1,by omega⟩
  have hd1:=CH h0 hd;have hkl:=Kh w1;obtain⟨g1,g2,g3⟩:=Ce (by omega) hd1;have hcN:=(hA.hc c (Yh g1)).2.2;have hlen:at_+(Bv k).length=bif m then at_+1 else at_:=by rw[hkl];cases m<;>simp
  have hq:=hA.next (F:=F+1) (by omega) (p:=at_+(Bv k).length) (by omega) (by omega);have hfl:(Fo.node none c kids .nil).flat=c::kids.flat:=by simp[Fo.flat,Bv]
  rw[KN (f:=.node none c kids .nil) (ys:=r.flat++ys) rfl (LE w2 w3 w5 w6) (by rw[hd1,hfl];simp)] at hq;have hdk:=depM kids;have hdd:=depM r;have hcf:=Ch kids;have hvl:(v.drop (at_+(Bv k).length+1).toNat).length=kids.flat.length+(r.flat.length+ys.length):=by rw[g2];simp
  rw[YE] at hvl;have hrec:CR (F+1) v (at_+(Bv k).length)=some ((kids.dep:Int)+1):=by
   rw[CR];unfold Hq;rw[B0 (by omega) g3,CV (by omega) hd1];have ha:=(JW w2 w3).1;rw[AM (by simp;omega),AU (by omega) (by omega)];obtain⟨o,ho1,ho2⟩:=ihk F F (at_+(Bv k).length) (at_+(Bv k).length+1) 0 0 _ none (r.flat++ys) c (CV (by omega) hd1) rfl hcN w6 (by rw[g2]) (by omega) (by omega) (by omega) (Yn 0) (Yn 0) (by omega) (by omega) (by omega);rw[Ba ho1,ho2];congr 2<;>omega
  have hb:=N2 (most:=most) (x:=x) hpc hm (by omega) hx hpN h0 (by omega) hlen hrec hq;obtain⟨o,ho1,ho2⟩:=ih (F+1) L i (at_+(Bv k).length+((Fo.node none c kids .nil).flat.length:Int)) (x+1) (max most ((kids.dep:Int)+1)) m k ys pc hpc hm hpN w4 (by
   have:=CH (by omega) g2;rw[hfl,XZ,show at_+(Bv k).length+((kids.flat.length+1:Nat):Int)=at_+(Bv k).length+1+kids.flat.length from by omega];exact this) (by omega) (by rw[hfl,XZ];omega) (by omega) (by omega) (by omega) (by omega) (by omega) (by omega)
  refine⟨o,IB hb ho1,?_⟩;rw[ho2,Fo.dep];congr 2<;>omega
theorem Qs (hA:D0 M v){F:Nat}{p:Int}{f:Fo}{ys:List Aa}(h0:0≤p)(h1:f.one=true)(hw:f.wf false none=true)(hd:v.drop p.toNat=f.flat++ys)(hF:3*M+6+f.flat.length<F):CR F v p=some (f.dep:Int):=by
 have hM:=hA.hM;have hvM:=hA.hv
 cases f with
 | nil=>cases h1
 | cell k c r=>
  cases k with
  | some s=>cases h1
  | none=>
   cases r with
   | nil=>
    simp only[Fo.wf,Ya,Yk] at hw;obtain⟨F,rfl⟩:∃K,F=K+2:=⟨F-2,by omega⟩
    have hd':v.drop p.toNat=c::ys:=by simpa[Fo.flat,Bv] using hd
    rw[JT h0 (by have:=(Ce h0 hd').2.2;omega) hd' hw.1.1.2 hw.1.2];rfl
   | cell _ _ _=>cases h1
   | node _ _ _ _=>cases h1
 | node k c kids r=>
  cases k with
  | some s=>cases h1
  | none=>
   cases r with
   | nil=>
    simp only[Fo.wf,Ya,XU] at hw;obtain⟨⟨⟨⟨⟨w1,w2⟩,w3⟩,w5⟩,w6⟩,w4⟩:=hw;have hd':v.drop p.toNat=c::(kids.flat++ys):=by simpa[Fo.flat,Bv] using hd
    obtain⟨g1,g2,g3⟩:=Ce h0 hd';have hcN:=(hA.hc c (Yh g1)).2.2;have hcf:=Ch kids;simp only[Fo.flat,Bv,YG,YA,XZ] at hF;obtain⟨F,rfl⟩:∃K,F=K+1:=⟨F-1,by omega⟩
    rw[CR];unfold Hq;have ha:=(JW w2 w3).1;rw[B0 h0 g3,CV h0 hd',AM (by simp;omega),AU (by omega) (by omega)];obtain⟨o,ho1,ho2⟩:=Pi hA kids F F p (p+1) 0 0 _ none ys c (CV h0 hd') rfl hcN w6 g2 (by omega) (by omega) (by omega) (Yn 0) (Yn 0) (by omega) (by omega) (by omega);rw[Ba ho1,ho2];simp only[Fo.dep];congr 1<;>omega
   | cell _ _ _=>cases h1
   | node _ _ _ _=>cases h1
end
def S7 (c:UInt8):Au:=bif (decide (c=34)||decide (c=92)) then[92,c] else[c]
theorem S6 {s:Au}{k:Nat}{c:UInt8}(h:s[k]? =some c):MQ (s.take (k+1))=MQ (s.take k)++S7 c:=by
 rw[List.take_add_one,h];simp[MQ,List.flatMap_append,S7]
theorem PM (s:Au):(MQ s).length≤3*s.length:=by
 rw[MP];have h1:s.count 34≤s.length:=List.count_le_length;have h2:s.count 92≤s.length:=List.count_le_length;omega
theorem Qj {s:Au}{x:Int}{c:UInt8}(h0:0≤x)(h:s[x.toNat]? =some c):List.take (Int.toNat (x+1)-Int.toNat x) (List.drop (Int.toNat x) s)=[c]:=by
 have hl:=(List.getElem?_eq_some_iff.1 h).1;have hc:=(List.getElem?_eq_some_iff.1 h).2;rw[show Int.toNat (x+1)-Int.toNat x=1 from by omega,List.drop_eq_getElem_cons hl,hc];rfl
theorem Xv {s:Au}{x:Int}{c:UInt8}(h:s[x.toNat]? =some c):decide (Ck s x=34)=decide (c=34):=by
 rw[OA h,Ym,decide_eq_true_iff,decide_eq_true_iff,← UInt8.toNat_inj];show _↔c.toNat=34;omega
theorem Xu {s:Au}{x:Int}{c:UInt8}(h:s[x.toNat]? =some c):decide (Ck s x=92)=decide (c=92):=by
 rw[OA h,Ym,decide_eq_true_iff,decide_eq_true_iff,← UInt8.toNat_inj];show _↔c.toNat=92;omega
theorem Ob {s out:Au}{x:Int}{c:UInt8}(h0:0≤x)(hx:x<(s.length:Int))(hs:s.length≤1152921504606846976)(ho:out.length≤3*s.length+1)(hc:s[x.toNat]? =some c):CO s out x=some (.next (out++S7 c,x+1)):=by
 unfold CO S7;rw[AZ (Ye hx),B0 h0 hx,Xv hc,Xu hc,Qj h0 hc];have l1:(([92]:Au).length:Int)=1:=rfl;have l2:(([c]:Au).length:Int)=1:=rfl
 cases hq:(decide (c=34)||decide (c=92)) with
 | true=>
  have l3:((out++([92]:Au)).length:Int)=out.length+1:=by rw[Yd,Yy,Int.natCast_add];rfl
  rw[AZ rfl,l1,l2,l3,AU (by omega) (by omega),AU (by omega) (by omega),Ez (by omega) (by omega),Ez (by omega) (by omega),AU (by omega) (by omega),Y5];rfl
 | false=>
  rw[AM rfl,l2,AU (by omega) (by omega),Ez (by omega) (by omega),Ez (by omega) (by omega),AU (by omega) (by omega)];rfl
theorem HX {R V:Type}(K:V→Option R)(v:V):BI K (.go v)=K v:=rfl
theorem JY {R V:Type}(K:V→Option R)(r:R):BI K (.ret r)=some r:=rfl
theorem Pe {s out:Au}{x:Int}(hx : ¬ x<(s.length:Int)):CO s out x=some (.out (.go out)):=by
 unfold CO;rw[AM (XY hx)]
theorem RS {out:Au}(h:out.length≤4611686018427387904):Dq out=some (out++[34]):=by
 unfold Dq;have l1:(([34]:Au).length:Int)=1:=rfl;rw[l1,AU (by omega) (by omega)]
theorem Jv {F:Nat}{s:Au}(hF:s.length<F)(hs:s.length≤1152921504606846976):HU F s=some (Jw s):=by
 obtain⟨o,h1,h2⟩:=Ia (body:=λσ=>CO s σ.1 σ.2) (λσ=>0≤σ.2∧σ.2≤(s.length:Int)∧σ.1=34::MQ (s.take σ.2.toNat)) (λσ=>s.length-σ.2.toNat)
  (λo=>BI (λν=>Dq ν) o=some (Jw s)) (λσ ⟨h0,hl,ha⟩=>by
   obtain⟨out,x⟩:=σ;simp only at h0 hl ha;show(∃s',CO s out x=_∧_)∨∃o,CO s out x=_∧_;have hb:=PM (s.take x.toNat);have hb2:(s.take x.toNat).length≤s.length:=by rw[List.length_take];omega
   have hol:out.length≤3*s.length+1:=by rw[ha,XZ];omega
   by_cases hx:x<(s.length:Int)
   ·obtain⟨c,hc⟩:∃c,s[x.toNat]? =some c:=⟨s[x.toNat]'(by omega),Yc (by omega)⟩
    have a1:0≤x+1:=by omega
    have a2:x+1≤s.length:=by omega
    have a3:s.length-(x+1).toNat<s.length-x.toNat:=by omega
    have a4:out++S7 c=34::MQ (s.take (x+1).toNat):=by rw[show(x+1).toNat=x.toNat+1 from by omega,S6 hc,ha];rfl
    exact .inl ⟨(out++S7 c,x+1),Ob h0 hx hs hol hc,⟨a1,a2,a4⟩,a3⟩
   ·have e:x.toNat=s.length:=by omega
    have hk:Dq out=some (out++[34]):=RS (by omega);have hf:out++[34]=Jw s:=by rw[ha,e,List.take_length];rfl
    exact .inr ⟨.go out,Pe hx,(HX (λν=>Dq ν) out).trans (hk.trans (congrArg some hf))⟩) F ([34],0) ⟨Yn 0,by show(0:Int)≤s.length;omega,by show([34]:Au)=34::MQ (s.take 0);simp[MQ]⟩ (by show s.length-0<F;omega)
 unfold HU;rw[Ba h1,h2]
section
variable {M : Nat} {v : List Aa}
theorem XE (a b c d e:Au):(((a++b)++c)++d)++e=a++(b++(c++d)++e):=by simp
theorem XF (a b c d:Au):((a++b)++c)++d=a++([]++(b++c)++d):=by simp
theorem XG (a b c:Au):(a++b)++c=a++(b++[]++c):=by simp
theorem XH (a b:Au):a++b=a++([]++[]++b):=by simp
theorem Vm (a:Au)(c:UInt8):((a++[c]).length:Int)=a.length+1:=by rw[Yd,Yy,Int.natCast_add];rfl
theorem P1 (a b:Au):((a++b).length:Int)=a.length+b.length:=by rw[Yd,Int.natCast_add]
theorem Nz {F:Nat}{i:Int}{rec:List Aa→Int→Option Au}{out tx:Au}{at_ x:Int}{m:Bool}{p q:Int}{pc:Aa}{key:Option Au}{last:Option Au}(hpc:Ay v i=pc)(hm:decide (pc.fKind=6)=m)(hx:x<pc.fN)(hx0:0≤x)(hpcN:pc.fN≤9223372036854775807)
  (ha0:0≤at_) (haM:at_<v.length) (hvM:(v.length:Int)≤1152921504606846976) (hk:C2 m last key=true) (hkey:∀s,key=some s→(Ay v at_).fStr=s∧s.length<F∧s.length≤1152921504606846976) (hp:p=bif m then at_+1 else at_) (hr:rec v p=some tx) (hq:Db F v p=some q)
  (hlen:((out++(Gt (decide (x=0))++MC key++tx)).length:Int)≤4611686018427387904):D6 F v i rec out at_ x=some (.next (out++(Gt (decide (x=0))++MC key++tx),q,x+1)):=by
 have hb:(([44]:Au).length:Int)=1:=rfl;have he:(([58]:Au).length:Int)=1:=rfl;have hx1:AX (BF .i64 (x+1)) (some (Stp.next (out++(Gt (decide (x=0))++MC key++tx),q,x+1)):Option (Stp (Au×Int×Int) (Out Au Au)))=some (Stp.next (out++(Gt (decide (x=0))++MC key++tx),q,x+1)):=AU (by omega) (by omega);unfold D6;rw[hpc,AZ (Ye hx),hm]
 cases ha:decide (x=0) with
 | true=>
  rw[ha] at hx1 hlen;simp only[XU] at ha;rw[AM (XY (by omega))]
  cases m with
  | true=>
   cases key with
   | none=>simp[C2] at hk
   | some s=>
    obtain⟨e1,e2,e3⟩:=hkey s rfl;simp only[Yg] at hp;have e:((out++Jw s)++[58])++tx=out++(Gt true++MC (some s)++tx):=XF _ _ _ _;rw[← e] at hx1 hlen ⊢;have h1:=P1 ((out++Jw s)++[58]) tx;have h2:=Vm (out++Jw s) 58;have h3:=P1 out (Jw s);rw[AZ rfl,B0 ha0 haM,e1,Jv e2 e3,Ba rfl,AU (by omega) (by omega),he,AU (by omega) (by omega),AU (by omega) (by omega),← hp,hr,Ba rfl,AU (by omega) (by omega),hq,Ba rfl,hx1]
  | false=>
   cases key with
   | some s=>simp[C2] at hk
   | none=>
    simp only[Yb] at hp;have e:out++tx=out++(Gt true++MC none++tx):=XH _ _;rw[← e] at hx1 hlen ⊢;have h1:=P1 out tx;rw[AM rfl,← hp,hr,Ba rfl,AU (by omega) (by omega),hq,Ba rfl,hx1]
 | false=>
  rw[ha] at hx1 hlen;simp only[XW] at ha;rw[AZ (Ye (by omega))]
  cases m with
  | true=>
   cases key with
   | none=>simp[C2] at hk
   | some s=>
    obtain⟨e1,e2,e3⟩:=hkey s rfl;simp only[Yg] at hp;have e:(((out++[44])++Jw s)++[58])++tx=out++(Gt false++MC (some s)++tx):=XE _ _ _ _ _;rw[← e] at hx1 hlen ⊢;have h1:=P1 (((out++[44])++Jw s)++[58]) tx;have h2:=Vm ((out++[44])++Jw s) 58;have h3:=P1 (out++[44]) (Jw s);have h4:=Vm out 44;rw[hb,AU (by omega) (by omega),AZ rfl,B0 ha0 haM,e1,Jv e2 e3,Ba rfl,AU (by omega) (by omega),he,AU (by omega) (by omega),AU (by omega) (by omega),← hp,hr,Ba rfl,AU (by omega) (by omega),hq,Ba rfl,hx1]
  | false=>
   cases key with
   | some s=>simp[C2] at hk
   | none=>
    simp only[Yb] at hp;have e:(out++[44])++tx=out++(Gt false++MC none++tx):=XG _ _ _;rw[← e] at hx1 hlen ⊢;have h1:=P1 (out++[44]) tx;have h4:=Vm out 44;rw[hb,AU (by omega) (by omega),AM rfl,← hp,hr,Ba rfl,AU (by omega) (by omega),hq,Ba rfl,hx1]
theorem Rb {i:Int}{pc:Aa}{out:Au}(hpc:Ay v i=pc)(h:out.length≤4611686018427387904):Gv v i out=some (SL pc out):=by
 unfold Gv SL;have l1:(([123]:Au).length:Int)=1:=rfl;have l2:(([91]:Au).length:Int)=1:=rfl;have l3:(([125]:Au).length:Int)=1:=rfl;have l4:(([93]:Au).length:Int)=1:=rfl;have h1:=P1 [123] out;have h2:=P1 [91] out;rw[hpc]
 cases hk:decide (pc.fKind=6) with
 | true=>rw[AZ rfl,AU (by omega) (by omega),AU (by omega) (by omega)];rfl
 | false=>rw[AM rfl,AU (by omega) (by omega),AU (by omega) (by omega)];rfl
theorem Mx {F:Nat}{p:Int}{c:Aa}{r:List Aa}(h0:0≤p)(hpM:p≤1152921504606846976)(hd:v.drop p.toNat=c::r)(hp:pl c=true)(hn:decide (0<c.fN)=false)(hs:c.fStr.length<F+1)(hs2:c.fStr.length≤1152921504606846976)(hi:BF .i64 c.fInt=true):EV (F+2) v p=some (Ly c):=by
 obtain⟨g1,g2,g3⟩:=Ce h0 hd;rw[EV];unfold KE Ly;rw[B0 h0 g3,CV h0 hd]
 cases k1:decide (c.fKind=1) with
 | true=>rw[AZ rfl];rfl
 | false=>
 rw[AM rfl]
 cases k2:decide (c.fKind=2) with
 | true=>rw[AZ rfl];cases decide (c.fInt=1)<;>rfl
 | false=>
 rw[AM rfl]
 cases k3:decide (c.fKind=3) with
 | true=>rw[AZ rfl,CA hi];rfl
 | false=>
 rw[AM rfl]
 cases k4:decide (c.fKind=4) with
 | true=>rw[AZ rfl,Jv hs hs2,Ba rfl];rfl
 | false=>
 have hgo:D6 (F+1) v p (EV (F+1)) [] (p+1) 0=some (.out (.go [])):=by
  unfold D6;rw[CV h0 hd,AM hn]
 rw[AM rfl,AU (by omega) (by omega),Ba (Dj (o:=.go []) hgo),HX,Rb (CV h0 hd) (by simp)];simp only[Yb,SL]
 cases decide (c.fKind=6)<;>rfl
end
section
variable {M : Nat} {v : List Aa}
theorem CS {α:Type}[Inhabited α](a:α):ov (some a)=a:=rfl
theorem TM {at_:Int}{k:Option Au}{r:List Aa}(h0:0≤at_)(hA:D0 M v){F:Nat}(hF:M<F)(hd:v.drop at_.toNat=Bv k++r):∀s,k=some s→(Ay v at_).fStr=s∧s.length<F∧s.length≤1152921504606846976:=λs e=>by
 subst e;have hd':v.drop at_.toNat=⟨4,0,s,0⟩::r:=by simpa[Bv] using hd
 have h1:=CV h0 hd';have h2:=(hA.hc _ (Yh (Ce h0 hd').1)).1;have hM:=hA.hM;simp only at h2;exact⟨by rw[h1],by omega,by omega⟩
theorem Pd (hA:D0 M v):∀(g:Fo) (F L:Nat) (i at_ x:Int) (out:Au) (m:Bool) (last:Option Au) (ys:List Aa) (pc:Aa),Ay v i=pc→decide (pc.fKind=6)=m→pc.fN≤9223372036854775807→g.wf m last=true→v.drop at_.toNat=g.flat++ys→0≤at_→at_≤v.length→pc.fN=x+g.cnt→0≤x→(out++g.txt (decide (x=0))).length≤4611686018427387904→g.cnt<L→3*M+5+g.flat.length<F→
  ∃o,BP (λσ=>D6 F v i (EV F) σ.1 σ.2.1 σ.2.2) L (out,at_,x)=some o∧BI (λν=>Gv v i ν) o=some (SL pc (out++g.txt (decide (x=0)))):=by
 have hM:=hA.hM;have hvM:=hA.hv;intro g
 induction g with
 | nil=>
  intro F L i at_ x out m last ys pc hpc hm hpN hw hd h0 h1 hN hx hlen hL hF;obtain⟨L,rfl⟩:∃K,L=K+1:=⟨L-1,by omega⟩
  have hgo:D6 F v i (EV F) out at_ x=some (.out (.go out)):=by
   simp only[Fo.cnt] at hN;unfold D6;rw[hpc,AM (XY (by omega))]
  refine⟨.go out,Dj hgo,?_⟩;simp only[Fo.txt,YA] at hlen ⊢;rw[HX,Rb hpc hlen]
 | cell k c r ih=>
  intro F L i at_ x out m last ys pc hpc hm hpN hw hd h0 h1 hN hx hlen hL hF;simp only[Fo.wf,Ya,Yk] at hw;obtain⟨⟨⟨w1,w2⟩,w3⟩,w4⟩:=hw;simp only[Fo.flat,Y5,YF] at hd;simp only[Fo.cnt] at hN hL;simp only[Fo.flat,Yd,XZ] at hF;obtain⟨L,rfl⟩:∃K,L=K+1:=⟨L-1,by omega⟩
  obtain⟨F,rfl⟩:∃K,F=K+2:=⟨F-2,by omega⟩
  have hd1:=CH h0 hd;have hkl:=Kh w1;obtain⟨g1,g2,g3⟩:=Ce (by omega) hd1;have hcM:=hA.hc c (Yh g1);have hp:at_+(Bv k).length=bif m then at_+1 else at_:=by rw[hkl];cases m<;>simp
  have hq:=hA.next (F:=F+2) (by omega) (p:=at_+(Bv k).length) (by omega) (by omega);rw[KN (f:=.cell none c .nil) (ys:=r.flat++ys) rfl (LF w2 w3) hd1] at hq;have e:out++(Fo.cell k c r).txt (decide (x=0))=(out++(Gt (decide (x=0))++MC k++Ly c))++r.txt (decide (x+1=0)):=by
   rw[XY (show ¬ x+1=0 by omega)];simp[Fo.txt]
  rw[e] at hlen ⊢;have hl2:((out++(Gt (decide (x=0))++MC k++Ly c)).length:Int)≤4611686018427387904:=by rw[Yd] at hlen;omega
  have hat:at_<v.length:=by omega
  have hb:=Nz hpc hm (by omega) hx hpN h0 hat (by omega) w1 (TM h0 hA (F:=F+2) (by omega) hd) hp (Mx (F:=F) (by omega) (by omega) hd1 w2 w3 (by omega) (by omega) hcM.2.1) hq hl2;obtain⟨o,ho1,ho2⟩:=ih (F+2) L i (at_+(Bv k).length+((Fo.cell none c .nil).flat.length:Int)) (x+1) (out++(Gt (decide (x=0))++MC k++Ly c)) m k ys pc hpc hm hpN w4 (by rw[show(Fo.cell none c .nil).flat.length=1 from rfl];exact g2) (by omega) (by rw[show(Fo.cell none c .nil).flat.length=1 from rfl];omega) (by omega) (by omega) hlen (by omega) (by omega);exact⟨o,IB hb ho1,ho2⟩
 | node k c kids r ihk ih=>
  intro F L i at_ x out m last ys pc hpc hm hpN hw hd h0 h1 hN hx hlen hL hF;simp only[Fo.wf,Ya,XU] at hw;obtain⟨⟨⟨⟨⟨w1,w2⟩,w3⟩,w5⟩,w6⟩,w4⟩:=hw;simp only[Fo.flat,Y5,YF] at hd;simp only[Fo.cnt] at hN hL;simp only[Fo.flat,Yd,XZ] at hF;obtain⟨L,rfl⟩:∃K,L=K+1:=⟨L-1,by omega⟩
  obtain⟨F,rfl⟩:∃K,F=K+1:=⟨F-1,by omega⟩
  have hd1:=CH h0 hd;have hkl:=Kh w1;obtain⟨g1,g2,g3⟩:=Ce (by omega) hd1;have hcN:=(hA.hc c (Yh g1)).2.2;have hp:at_+(Bv k).length=bif m then at_+1 else at_:=by rw[hkl];cases m<;>simp
  have hq:=hA.next (F:=F+1) (by omega) (p:=at_+(Bv k).length) (by omega) (by omega);have hfl:(Fo.node none c kids .nil).flat=c::kids.flat:=by simp[Fo.flat,Bv]
  rw[KN (f:=.node none c kids .nil) (ys:=r.flat++ys) rfl (LE w2 w3 w5 w6) (by rw[hd1,hfl];simp)] at hq;have hcf:=Ch kids;have hvl:(v.drop (at_+(Bv k).length+1).toNat).length=kids.flat.length+(r.flat.length+ys.length):=by rw[g2];simp
  rw[YE] at hvl;have e:out++(Fo.node k c kids r).txt (decide (x=0))=(out++(Gt (decide (x=0))++MC k++SL c (kids.txt true)))++r.txt (decide (x+1=0)):=by
   rw[XY (show ¬ x+1=0 by omega)];simp[Fo.txt]
  rw[e] at hlen ⊢;have hl2:((out++(Gt (decide (x=0))++MC k++SL c (kids.txt true))).length:Int)≤4611686018427387904:=by rw[Yd] at hlen;omega
  have hl3:(kids.txt true).length≤4611686018427387904:=by
   have:=LX c (kids.txt true);rw[Yd,Yd] at hl2;omega
  have hat:at_<v.length:=by omega
  have hrec:EV (F+1) v (at_+(Bv k).length)=some (SL c (kids.txt true)):=by
   rw[EV];unfold KE;have ha:=(JW w2 w3).1;rw[B0 (by omega) g3,CV (by omega) hd1,AM (XY (by omega)),AM (XY (by omega)),AM (XY (by omega)),AM (XY (by omega)),AU (by omega) (by omega)];obtain⟨o,ho1,ho2⟩:=ihk F F (at_+(Bv k).length) (at_+(Bv k).length+1) 0 [] _ none (r.flat++ys) c (CV (by omega) hd1) rfl hcN w6 (by rw[g2]) (by omega) (by omega) (by omega) (Yn 0) hl3 (by omega) (by omega);rw[Ba ho1,ho2];rfl
  have hb:=Nz hpc hm (by omega) hx hpN h0 hat (by omega) w1 (TM h0 hA (F:=F+1) (by omega) hd) hp hrec hq hl2;obtain⟨o,ho1,ho2⟩:=ih (F+1) L i (at_+(Bv k).length+((Fo.node none c kids .nil).flat.length:Int)) (x+1) (out++(Gt (decide (x=0))++MC k++SL c (kids.txt true))) m k ys pc hpc hm hpN w4 (by
   have:=CH (by omega) g2;rw[hfl,XZ,show at_+(Bv k).length+((kids.flat.length+1:Nat):Int)=at_+(Bv k).length+1+kids.flat.length from by omega];exact this) (by omega) (by rw[hfl,XZ];omega) (by omega) (by omega) hlen (by omega) (by omega)
  exact⟨o,IB hb ho1,ho2⟩
theorem Tv (hA:D0 M v){F:Nat}{p:Int}{f:Fo}{ys:List Aa}(h0:0≤p)(h1:f.one=true)(hw:f.wf false none=true)(hd:v.drop p.toNat=f.flat++ys)(hF:3*M+6+f.flat.length<F)(hlen:(f.txt true).length≤4611686018427387904):EV F v p=some (f.txt true):=by
 have hM:=hA.hM;have hvM:=hA.hv
 cases f with
 | nil=>cases h1
 | cell k c r=>
  cases k with
  | some s=>cases h1
  | none=>
   cases r with
   | nil=>
    simp only[Fo.wf,Ya,Yk] at hw;obtain⟨F,rfl⟩:∃K,F=K+2:=⟨F-2,by omega⟩
    have hd':v.drop p.toNat=c::ys:=by simpa[Fo.flat,Bv] using hd
    have hcM:=hA.hc c (Yh (Ce h0 hd').1);rw[Mx h0 (by have:=(Ce h0 hd').2.2;omega) hd' hw.1.1.2 hw.1.2 (by omega) (by omega) hcM.2.1];simp[Fo.txt,Gt,MC]
   | cell _ _ _=>cases h1
   | node _ _ _ _=>cases h1
 | node k c kids r=>
  cases k with
  | some s=>cases h1
  | none=>
   cases r with
   | nil=>
    simp only[Fo.wf,Ya,XU] at hw;obtain⟨⟨⟨⟨⟨w1,w2⟩,w3⟩,w5⟩,w6⟩,w4⟩:=hw;have hd':v.drop p.toNat=c::(kids.flat++ys):=by simpa[Fo.flat,Bv] using hd
    obtain⟨g1,g2,g3⟩:=Ce h0 hd';have hcN:=(hA.hc c (Yh g1)).2.2;have hcf:=Ch kids;simp only[Fo.flat,Bv,YG,YA,XZ] at hF;have et:(Fo.node none c kids .nil).txt true=SL c (kids.txt true):=by simp[Fo.txt,Gt,MC]
    rw[et] at hlen ⊢;have hbl:=LX c (kids.txt true);obtain⟨F,rfl⟩:∃K,F=K+1:=⟨F-1,by omega⟩
    rw[EV];unfold KE;have ha:=(JW w2 w3).1;rw[B0 h0 g3,CV h0 hd',AM (XY (by omega)),AM (XY (by omega)),AM (XY (by omega)),AM (XY (by omega)),AU (by omega) (by omega)];obtain⟨o,ho1,ho2⟩:=Pd hA kids F F p (p+1) 0 [] _ none ys c (CV h0 hd') rfl hcN w6 g2 (by omega) (by omega) (by omega) (Yn 0) (by show(kids.txt true).length≤_;omega) (by omega) (by omega);rw[Ba ho1,ho2];rfl
   | cell _ _ _=>cases h1
   | node _ _ _ _=>cases h1
theorem Sc {F:Nat}{K:Option Int}(hF:v.length<F)(hv:v.length≤1152921504606846976):Bh (BP (λσ=>DI v σ) F 0) (BI λ_=>K)=bif v.any Hz then some 2 else K:=by
 obtain⟨o,h1,h2⟩:=Ia (body:=λσ=>DI v σ) (λx=>0≤x∧x≤(v.length:Int)∧(v.take x.toNat).any Hz=false) (λx=>v.length-x.toNat)
  (λo=>BI (λ_=>K) o=bif v.any Hz then some 2 else K) (λx ⟨h0,hl,ha⟩=>by
   by_cases hx:x<(v.length:Int)
   ·obtain⟨c,hc⟩:∃c,v[x.toNat]? =some c:=⟨v[x.toNat]'(by omega),Yc (by omega)⟩
    have hat:Ay v x=c:=by simp[Ay,hc]
    have ho:(decide (c.fKind=3)&&(decide (c.fInt<(-1000000000000))||decide (1000000000000<c.fInt)))=Hz c:=by
     unfold Hz
     cases decide (c.fKind=3) with
     | false=>rfl
     | true=>
      rw[Yl,Yl,Ym];simp only[Y7,XU,Yk,YI,XW];omega
    have hb:DI v x=AR (Hz c) (some (.out (.ret 2))) (some (.next (x+1))):=by
     unfold DI;rw[AZ (Ye hx),B0 h0 hx,hat,ho,AU (by omega) (by omega)]
    cases hq:Hz c with
    | true=>
     refine .inr ⟨.ret 2,hb.trans (AZ hq),?_⟩;have:v.any Hz=true:=List.any_eq_true.2 ⟨c,Yh hc,hq⟩;rw[JY,this];rfl
    | false=>
     have a3:(v.take (x+1).toNat).any Hz=false:=by
      rw[show(x+1).toNat=x.toNat+1 from by omega,List.take_add_one,hc,List.any_append,ha];simp[hq]
     exact .inl ⟨x+1,hb.trans (AM hq),⟨by omega,by omega,a3⟩,by omega⟩
   ·refine .inr ⟨.go (),by unfold DI;rw[AM (XY hx)],?_⟩;rw[show x.toNat=v.length from by omega,List.take_length] at ha;rw[HX,ha];rfl) F 0 ⟨Yn 0,by omega,by simp⟩ (by simpa using hF)
 rw[Ba h1,h2]
theorem Sb {F:Nat}{K:Option Int}(hF:v.length<F)(hv:v.length≤1152921504606846976):Bh (BP (λσ=>DH v σ) F 0) (BI λ_=>K)=bif v.any EW then some 3 else K:=by
 obtain⟨o,h1,h2⟩:=Ia (body:=λσ=>DH v σ) (λx=>0≤x∧x≤(v.length:Int)∧(v.take x.toNat).any EW=false) (λx=>v.length-x.toNat)
  (λo=>BI (λ_=>K) o=bif v.any EW then some 3 else K) (λx ⟨h0,hl,ha⟩=>by
   by_cases hx:x<(v.length:Int)
   ·obtain⟨c,hc⟩:∃c,v[x.toNat]? =some c:=⟨v[x.toNat]'(by omega),Yc (by omega)⟩
    have hat:Ay v x=c:=by simp[Ay,hc]
    have hb:DH v x=AR (EW c) (some (.out (.ret 3))) (some (.next (x+1))):=by
     unfold DH;rw[AZ (Ye hx),B0 h0 hx,hat,AU (by omega) (by omega)];rfl
    cases hq:EW c with
    | true=>
     refine .inr ⟨.ret 3,hb.trans (AZ hq),?_⟩;have:v.any EW=true:=List.any_eq_true.2 ⟨c,Yh hc,hq⟩;rw[JY,this];rfl
    | false=>
     have a3:(v.take (x+1).toNat).any EW=false:=by
      rw[show(x+1).toNat=x.toNat+1 from by omega,List.take_add_one,hc,List.any_append,ha];simp[hq]
     exact .inl ⟨x+1,hb.trans (AM hq),⟨by omega,by omega,a3⟩,by omega⟩
   ·refine .inr ⟨.go (),by unfold DH;rw[AM (XY hx)],?_⟩;rw[show x.toNat=v.length from by omega,List.take_length] at ha;rw[HX,ha];rfl) F 0 ⟨Yn 0,by omega,by simp⟩ (by simpa using hF)
 rw[Ba h1,h2]
theorem Ou:decide (Ip v 0=v.length)=(whole v).isSome:=by
 unfold Ip whole;rw[show v.drop (0:Int).toNat=v from rfl]
 cases hp:Hx v with
 | none=>simp
 | some q=>
  obtain⟨f,ys⟩:=q;have h1:=(IW hp).1;have hl:v.length=f.flat.length+ys.length:=by rw[h1];simp
  cases ys with
  | nil=>simp at hl ⊢;omega
  | cons c r=>simp at hl ⊢;omega
theorem E5 (hA:D0 M v)(hM:M≤1000000){F:Nat}(hF:4*M+6<F):D8 F v=some (CY v):=by
 have hvM:=hA.hv;unfold D8;rw[Qt (hA.rf (XX M)) (λc hc=>(hA.hc c hc).2.2) (by omega),Ba rfl,Ou];unfold CY
 cases hwh:whole v with
 | none=>rfl
 | some f=>
  obtain⟨h1,h2,h3⟩:=Mf hwh;rw[AM (p:=!(some f).isSome) rfl]
  change _=some (Np f)
  have hl:v.length=f.flat.length:=by rw[h1]
  have hc:∀c∈f.flat,c.fStr.length≤M∧BF .i64 c.fInt=true∧c.fN≤9223372036854775807:=λc hc=>hA.hc c (by rw[h1];exact hc);have hb:=NJ hM h2 (by omega) hc;have htl:((f.txt true).length:Int)=f.byt:=by rw[JN f false none true h2,Ok h3];simp
  have hd0:v.drop (0:Int).toNat=f.flat++[]:=by rw[YA];exact h1
  rw[Sc (by omega) (by omega)];unfold Np Hu;rw[Qs hA (Yn 0) h3 h2 hd0 (by omega),CA (by simp[imp]),Sb (by omega) (by omega)];unfold Ht;rw[Tv hA (Yn 0) h3 h2 hd0 (by omega) (by omega),Ba rfl];rw[CS,hl,← h1];have a1:decide ((200:Int)<(v.length:Int))=decide (200<v.length):=by rw[Ym];simp;omega
  have a2:decide ((8:Int)<(f.dep:Int))=decide (8<f.dep):=by rw[Ym];simp;omega
  have a3:decide ((4000:Int)<((f.txt true).length:Int))=decide (4000<(f.txt true).length):=by rw[Ym];simp;omega
  rw[a1,a2,a3]
  cases v.any Hz<;>cases v.any EW<;>cases decide (200<v.length)<;>cases decide (8<f.dep)<;>cases decide (4000<(f.txt true).length)<;>rfl
end
section
variable {M : Nat}
end
section
variable {M : Nat}
end
def Tr (v:List Aa):Bool:=!decide (300<v.length)&&v.all λc=>!decide (300<c.fStr.length)
def KJ (c:Aa):Bool:=BF .i64 c.fKind&&BF .i64 c.fInt&&Vf c.fStr&&BF .i64 c.fN
theorem D0.of {v:List Aa}(hs:Tr v=true)(hc:v.all KJ=true):D0 300 v:=by
 unfold Tr at hs;simp only[Ya,Yk,XW,Y3] at hs hc;refine⟨by decide,by omega,λc h=>?_⟩;obtain h1:=hs.2 c h;obtain h2:=hc c h;unfold KJ at h2;simp only[Ya] at h2;exact⟨by omega,h2.1.1.2,(GL h2.2).2⟩
theorem Or (a:Bool):imp a true=true:=by cases a<;>rfl
section
variable {M : Nat}
end
theorem NG {α:Type}{n:Nat}{x:Option α}(h:n≤1000000000):AX (E7 40 n) x=x:=CA (Ye (by omega))
theorem J3 {α:Type}[Inhabited α]{l:List α}{x:Int}(h0:0≤x)(h:x<l.length):Ay l x∈l:=by
 have:l[x.toNat]? =some (l[x.toNat]'(by omega)):=Yc (by omega);simp only[Ay,this,Yv];exact List.getElem_mem _
open Go Go.RowKit
def VZ (a b:Int):Int:=bif decide (a<b) then -1 else bif decide (b<a) then 1 else 0
def O5:Option Au→Option Au→Int
 | some a,some b=>Lib.compareBytes a b
 | _,_=>0
def V3 (c d:Aa)(kids:Int):Int:=
 bif !decide (c.fKind=d.fKind) then VZ c.fKind d.fKind
 else bif decide (c.fKind=4) then Lib.compareBytes c.fStr d.fStr
 else bif !decide (c.fKind=5)&&!decide (c.fKind=6) then VZ c.fInt d.fInt
 else bif !decide (kids=0) then kids else VZ c.fN d.fN
def Lt (a b:Int):Int:=bif !decide (a=0) then a else b
def Fo.cmp:Fo→Fo→Int
 | .cell k c r,.cell l d s=>Lt (O5 k l) (Lt (V3 c d 0) (r.cmp s))
 | .cell k c r,.node l d g s=>Lt (O5 k l) (Lt (V3 c d 0) (r.cmp s))
 | .node k c f r,.cell l d s=>Lt (O5 k l) (Lt (V3 c d 0) (r.cmp s))
 | .node k c f r,.node l d g s=>Lt (O5 k l) (Lt (V3 c d (f.cmp g)) (r.cmp s))
 | _,_=>0
theorem OT (F:Nat)(a b:List Aa):Nt F a b=Lv F a b:=by
 have e:LJ F a b=Lv F a b:=rfl;unfold Nt;rw[e]
 cases Lv F a b<;>rfl
def Fo.hd:Fo→Option (Option Au×Aa×Fo×Fo)
 | .nil=>none
 | .cell k c r=>some (k,c,.nil,r)
 | .node k c kids r=>some (k,c,kids,r)
structure Hd (m:Bool) (last:Option Au) (f:Fo) (k:Option Au) (c:Aa) (kids r:Fo):Prop where
 key:C2 m last k=true
 pl:pl c=true
 n:c.fN=kids.cnt
 kw:kids.wf (decide (c.fKind=6)) none=true
 rest:r.wf m k=true
 flat:f.flat=Bv k++c::(kids.flat++r.flat)
 cnt:f.cnt=r.cnt+1
theorem Rn {m:Bool}{last:Option Au}{f:Fo}(hw:f.wf m last=true):(f = .nil)∨∃k c kids r,f.hd=some (k,c,kids,r)∧Hd m last f k c kids r:=by
 cases f with
 | nil=>exact .inl rfl
 | cell k c r=>
  simp only[Fo.wf,Ya,Yk] at hw;obtain⟨⟨⟨w1,w2⟩,w3⟩,w4⟩:=hw;have:=T6 w2;refine .inr ⟨k,c,.nil,r,rfl,w1,w2,?_,rfl,w4,by simp[Fo.flat],rfl⟩;simp at w3;simp[Fo.cnt];omega
 | node k c kids r=>
  simp only[Fo.wf,Ya,XU] at hw;obtain⟨⟨⟨⟨⟨w1,w2⟩,w3⟩,w5⟩,w6⟩,w4⟩:=hw;exact .inr ⟨k,c,kids,r,rfl,w1,w2,w5,w6,w4,rfl,rfl⟩
section
variable {M : Nat} {a b : List Aa}
end
theorem Q3 {m:Bool}{last k:Option Au}{f kids r:Fo}{c:Aa}(hf:f.hd=some (k,c,kids,r))(hw:f.wf m last=true):∃f1:Fo,f1.one=true∧f1.wf false none=true∧f1.flat=c::kids.flat:=by
 cases f with
 | nil=>simp[Fo.hd] at hf
 | cell k' c' r'=>
  simp[Fo.hd] at hf;obtain⟨rfl,rfl,rfl,rfl⟩:=hf;simp only[Fo.wf,Ya,Yk] at hw;obtain⟨⟨⟨w1,w2⟩,w3⟩,w4⟩:=hw;exact⟨.cell none c' .nil,rfl,LF w2 w3,rfl⟩
 | node k' c' kids' r'=>
  simp[Fo.hd] at hf;obtain⟨rfl,rfl,rfl,rfl⟩:=hf;simp only[Fo.wf,Ya,XU] at hw;obtain⟨⟨⟨⟨⟨w1,w2⟩,w3⟩,w5⟩,w6⟩,w4⟩:=hw;exact⟨.node none c' kids' .nil,rfl,LE w2 w3 w5 w6,by simp[Fo.flat,Bv]⟩
section
variable {M : Nat} {a b : List Aa}
end
theorem Uq {f:Fo}(h:f.cnt=0):f = .nil:=by
 cases f with
 | nil=>rfl
 | cell k c r=>simp[Fo.cnt] at h
 | node k c a r=>simp[Fo.cnt] at h
section
variable {M : Nat} {a b : List Aa}
theorem Hd.drop {v:List Aa}{m:Bool}{last k:Option Au}{f kids r:Fo}{c:Aa}{ys:List Aa}{p:Int}(H:Hd m last f k c kids r)(h0:0≤p)(hd:v.drop p.toNat=f.flat++ys) :
  v.drop (p+(Bv k).length).toNat=c::(kids.flat++(r.flat++ys))∧v.drop (p+(Bv k).length+1).toNat=kids.flat++(r.flat++ys)∧v.drop (p+(Bv k).length+((c::kids.flat).length:Int)).toNat=r.flat++ys∧(∀s,k=some s→(Ay v p).fStr=s)∧p<v.length:=by
 rw[H.flat] at hd;have hd2:v.drop p.toNat=Bv k++((c::kids.flat)++(r.flat++ys)):=by rw[hd];simp
 have hd1:=CH h0 hd2;refine⟨hd1,(Ce (by omega) hd1).2.1,CH (by omega) hd1,λs e=>?_,?_⟩
 ·subst e;have:v.drop p.toNat=⟨4,0,s,0⟩::((c::kids.flat)++(r.flat++ys)):=by simpa[Bv] using hd2
  rw[CV h0 this]
 ·have:=congrArg List.length hd2;rw[YE] at this;simp only[Yd,XZ] at this;omega
end
theorem TG {S O:Type}{body:S→Option (Stp S O)}{n:Nat}{s:S}(h:body s=none):BP body (n+1) s=none:=by rw[BP,h]
theorem M6 {S O:Type}{body:S→Option (Stp S O)}{n:Nat}{s s':S}(h:body s=some (.next s')):BP body (n+1) s=BP body n s':=by rw[BP,h]
section
variable {S : Type}
def pB (F:Nat)(v:List Aa)(Y:Au→List Aa→S→Option (Bool×S))(p x:Int)(s:S):Option (Stp (Int×Int×S) (Out S S)):=
 AR (decide (x<((Ay v 0).fN))) (AR (decide (((Ay v 0).fKind)=6)) (AX (C0 p (v.length:Int))<|AX (BF .i64 (p+1))<|AX (ES (p+1) (v.length:Int))<|Bh (E3 F (List.drop (Int.toNat (p+1)) v)) λq=>AX (BF .i64 ((p+1)+q.1))<|AX (ES (p+1) ((p+1)+q.1))<|AX (ES ((p+1)+q.1) (v.length:Int))<|Bh (Y ((Ay v p).fStr) (List.take (Int.toNat ((p+1)+q.1)-Int.toNat (p+1)) (List.drop (Int.toNat (p+1)) v)) s) λr=>AR (!r.1) (some (.out (.ret r.2))) (AX (BF .i64 (x+1))<|some (.next ((p+1)+q.1,x+1,r.2)))) (AX (ES p (v.length:Int))<|Bh (E3 F (List.drop (Int.toNat p) v)) λq=>AX (BF .i64 (p+q.1))<|AX (ES p (p+q.1))<|AX (ES (p+q.1) (v.length:Int))<|Bh (Y ([]:Au) (List.take (Int.toNat (p+q.1)-Int.toNat p) (List.drop (Int.toNat p) v)) s) λr=>AR (!r.1) (some (.out (.ret r.2))) (AX (BF .i64 (x+1))<|some (.next (p+q.1,x+1,r.2))))) (some (.out (.go s)))
def DQ:Option Au→Au
 | none=>[]
 | some s=>s
def WR {T:Type}(y:Option (Bool×S))(go:S→Option T)(stop:S→Option T):Option T:=match y with
 | none=>none
 | some (b,s)=>bif b then go s else stop s
theorem M4 {T:Type}{y:Option (Bool×S)}{go:S→Option T}{stop:S→Option T}{b:Bool}{s:S}(h:y=some (b,s)):WR y go stop=bif b then go s else stop s:=by subst h;rfl
def GZ (Y:Au→List Aa→S→Option (Bool×S)):Fo→S→Option (Out S S)
 | .nil,s=>some (.go s)
 | .cell k c r,s=>WR (Y (DQ k) [c] s) (GZ Y r) (λs=>some (.ret s))
 | .node k c kids r,s=>WR (Y (DQ k) (c::kids.flat) s) (GZ Y r) (λs=>some (.ret s))
variable {Y : Au → List Aa → S → Option (Bool × S)}
theorem Su {f kids r:Fo}{k:Option Au}{c:Aa}{s:S}(h:f.hd=some (k,c,kids,r)):GZ Y f s=WR (Y (DQ k) (c::kids.flat) s) (GZ Y r) (λs=>some (.ret s)):=by
 cases f<;>simp[Fo.hd] at h<;>obtain⟨rfl,rfl,rfl,rfl⟩:=h<;>simp[GZ,Fo.flat]
section
variable {M : Nat} {v : List Aa}
theorem T9 {F:Nat}{c:Aa}{p x:Int}{s:S}{k last:Option Au}{f1:Fo}{ys:List Aa}(hA:D0 M v)(hF:M<F)(hpc:Ay v 0=c)(hx:x<c.fN)(hx0:0≤x)(hcN:c.fN≤9223372036854775807)(h0:0≤p)(hk:C2 (decide (c.fKind=6)) last k=true)
  (hd:v.drop p.toNat=Bv k++(f1.flat++ys)) (h1:f1.one=true) (hw:f1.wf false none=true) :
  pB F v Y p x s=WR (Y (DQ k) f1.flat s) (λs'=>some (.next (p+(Bv k).length+f1.flat.length,x+1,s'))) (λs'=>some (.out (.ret s'))):=by
 have hM:=hA.hM;have hvM:=hA.hv;have hd1:=CH h0 hd;have hkl:=Kh hk;have hfl:=Pt h1;have hll:(v.drop (p+(Bv k).length).toNat).length=f1.flat.length+ys.length:=by rw[hd1];simp
 rw[YE] at hll;have hlook:E3 F (v.drop (p+(Bv k).length).toNat)=some ((f1.flat.length:Int),f1.sh 0 Mw,true):=Pz ((hA.drop _).lk hF) h1 hw hd1;have htake:List.take (Int.toNat (p+(Bv k).length+(f1.flat.length:Int))-Int.toNat (p+(Bv k).length)) (v.drop (p+(Bv k).length).toNat)=f1.flat:=by
  rw[hd1,show Int.toNat (p+(Bv k).length+(f1.flat.length:Int))-Int.toNat (p+(Bv k).length)=f1.flat.length from by omega,List.take_left]
 have hmono:0≤p+(Bv k).length+f1.flat.length:=by omega
 have fin:∀(y:Option (Bool×S)) (q:Int),(Bh y λr=>AR (!r.1) (some (Stp.out (Out.ret r.2))) (AX (BF .i64 (x+1))<|some (.next (q,x+1,r.2))))=WR y (λs'=>some (.next (q,x+1,s'))) (λs'=>some (Stp.out (Out.ret (V:=S) s'))):=λy q=>by
  cases y with
  | none=>rfl
  | some r=>
   obtain⟨b,s'⟩:=r;rw[Ba rfl,M4 rfl]
   cases b with
   | false=>rfl
   | true=>rw[AM (p:=!true) rfl,AU (by omega) (by omega)];rfl
 unfold pB;rw[hpc,AZ (Ye hx)]
 cases hm:decide (c.fKind=6) with
 | true=>
  rw[hm] at hk hkl
  cases k with
  | none=>simp[C2] at hk
  | some t=>
   have e1:((Bv (some t)).length:Int)=1:=rfl;rw[e1] at hlook htake hll hmono ⊢;have hats:(Ay v p).fStr=t:=by
    have:v.drop p.toNat=⟨4,0,t,0⟩::(f1.flat++ys):=by simpa[Bv] using hd
    rw[CV h0 this]
   have hin:p<v.length:=by omega
   rw[AZ rfl,B0 h0 hin,AU (by omega) (by omega),Ez (by omega) (by omega),hlook,Ba rfl,AU (by omega) (by omega),Ez (by omega) (by omega),Ez (by omega) (by omega),htake,hats,fin];rfl
 | false=>
  rw[hm] at hk hkl
  cases k with
  | some t=>simp[C2] at hk
  | none=>
   have e1:((Bv none).length:Int)=0:=rfl;rw[e1,Int.add_zero] at hlook htake hll hmono ⊢;rw[AM rfl,Ez (by omega) (by omega),hlook,Ba rfl,AU (by omega) (by omega),Ez (by omega) (by omega),Ez (by omega) (by omega),htake,fin];rfl
theorem Sf {F:Nat}{c:Aa}(hA:D0 M v)(hF:M<F)(hpc:Ay v 0=c)(hcN:c.fN≤9223372036854775807):∀(n:Nat) (f:Fo) (L:Nat) (p x:Int) (s:S) (last:Option Au) (ys:List Aa),f.flat.length<n→f.wf (decide (c.fKind=6)) last=true→v.drop p.toNat=f.flat++ys→0≤p→c.fN=x+f.cnt→0≤x→f.cnt<L→
  BP (λσ=>pB F v Y σ.1 σ.2.1 σ.2.2) L (p,x,s)=GZ Y f s:=by
 intro n
 induction n with
 | zero=>intro f L p x s last ys h;omega
 | succ n ih=>
  intro f L p x s last ys hn hw hd h0 hN hx hL;obtain⟨L,rfl⟩:∃K,L=K+1:=⟨L-1,by omega⟩
  rcases Rn hw with rfl | ⟨k,d,kf,r,hf,Hf⟩
  ·have hx' : ¬ x<c.fN:=by simp only[Fo.cnt] at hN;omega
   refine Dj ?_;show pB F v Y p x s=_;unfold pB;rw[hpc,AM (XY hx')]
  ·obtain⟨a1,a2,a3,a4,a5⟩:=Hf.drop h0 hd;obtain⟨f1,o1,w1,e1⟩:=Q3 hf hw;have cf:=Hf.cnt;have lf:=congrArg List.length Hf.flat;simp only[Yd,XZ] at lf;have hd2:v.drop p.toNat=Bv k++(f1.flat++(r.flat++ys)):=by rw[hd,Hf.flat,e1];simp
   have hb:=T9 (Y:=Y) (s:=s) hA hF hpc (x:=x) (by omega) hx hcN h0 Hf.key hd2 o1 w1;rw[Su hf]
   cases hy:Y (DQ k) (d::kf.flat) s with
   | none=>
    rw[e1,hy] at hb;exact TG hb
   | some q=>
    obtain⟨b,s'⟩:=q;rw[e1,hy] at hb
    cases b with
    | false=>exact Dj hb
    | true=>exact(M6 hb).trans (ih r L _ (x+1) s' k ys (by omega) Hf.rest a3 (by omega) (by omega) (by omega) (by omega))
theorem T8 {F:Nat}{c:Aa}{f:Fo}(hA:D0 M v)(hF:M<F)(hv:v=c::f.flat)(hn:c.fN=f.cnt)(hw:f.wf (decide (c.fKind=6)) none=true)(s:S):BP (λσ=>pB F v Y σ.1 σ.2.1 σ.2.2) F (1,0,s)=GZ Y f s:=by
 have hvM:=hA.hv;have hl:v.length=f.flat.length+1:=by rw[hv];simp
 have hcf:=Ch f;exact Sf hA hF (by rw[hv];rfl) (hA.hc c (by rw[hv];simp)).2.2 (f.flat.length+1) f F 1 0 s none [] (by omega) hw (by rw[hv];simp) (by decide) (by omega) (Yn 0) (by omega)
end
end
def Fo.keys:Fo→List Au
 | .nil=>[]
 | .cell k _ r=>DQ k::r.keys
 | .node k _ _ r=>DQ k::r.keys
def Fo.vals:Fo→List (List Aa)
 | .nil=>[]
 | .cell _ c r=>[c]::r.vals
 | .node _ c kids r=>(c::kids.flat)::r.vals
theorem VL {f kids r:Fo}{k:Option Au}{c:Aa}(h:f.hd=some (k,c,kids,r)):f.keys=DQ k::r.keys∧f.vals=(c::kids.flat)::r.vals:=by
 cases f<;>simp[Fo.hd] at h<;>obtain⟨rfl,rfl,rfl,rfl⟩:=h<;>simp[Fo.keys,Fo.vals,Fo.flat]
theorem On:∀f:Fo,f.keys.length=f.cnt∧f.vals.length=f.cnt
 | .nil=>⟨rfl,rfl⟩
 | .cell k c r=>by simp[Fo.keys,Fo.vals,Fo.cnt,On r]
 | .node k c kids r=>by simp[Fo.keys,Fo.vals,Fo.cnt,On r]
theorem SA {α:Type}{n:Nat}{x:Option α}(h:n≤1000000001):AX (E7 16 n) x=x:=CA (Ye (by omega))
theorem NH {α:Type}{n:Nat}{x:Option α}(h:n≤1000000001):AX (E7 24 n) x=x:=CA (Ye (by omega))
structure XI (M:Nat) (c:Aa) (kf:Fo):Prop where
 pl:pl c=true
 n:c.fN=kf.cnt
 wf:kf.wf (decide (c.fKind=6)) none=true
 ck:D0 M (c::kf.flat)
section
variable {M : Nat}
theorem D0.sub {a b:List Aa}(h:D0 M a)(hl:b.length≤a.length)(hm:∀x∈b,x∈a):D0 M b:=⟨h.hM,by have:=h.hv;omega,λc hc=>h.hc c (hm c hc)⟩
theorem Hd.v {m:Bool}{last k:Option Au}{f kids r:Fo}{c:Aa}(H:Hd m last f k c kids r)(hA:D0 M f.flat):XI M c kids∧D0 M r.flat:=by
 have e:=H.flat;have l:=congrArg List.length e;simp only[Yd,XZ] at l;refine⟨⟨H.pl,H.n,H.kw,hA.sub (by simp only[XZ];omega) (λx hx=>?_)⟩,hA.sub (by omega) (λx hx=>?_)⟩
 ·rw[e];simp only[List.mem_append,YC] at hx ⊢;rcases hx with hx | hx
  ·exact .inr (.inl hx)
  ·exact .inr (.inr (.inl hx))
 ·rw[e];simp only[List.mem_append,YC];exact .inr (.inr (.inr hx))
theorem Jd {α:Type}[Inhabited α](a b:List α)(x:α){i:Int}(h:i=(a.length:Int)):Ay (a++x::b) i=x:=by subst h;simp[Ay]
theorem Wa {f:Fo}(h1:f.one=true)(hw:f.wf false none=true)(hA:D0 M f.flat):∃c kf,f.flat=c::kf.flat∧f.hd=some (none,c,kf,.nil)∧XI M c kf:=by
 rcases Rn hw with h | ⟨k,c,kf,r,hf,Hf⟩
 ·subst h;cases h1
 have cf:=Hf.cnt;rw[Ok h1] at cf;obtain rfl:=Uq (f:=r) (by omega);have hk:k=none:=by
  have:=Hf.key
  cases k with
  | none=>rfl
  | some _=>simp[C2] at this
 subst hk;exact⟨c,kf,by rw[Hf.flat];simp[Bv,Fo.flat],hf,(Hf.v hA).1⟩
variable {a b : List Aa}
end
def Wb {α:Type}(v:List Aa)(bad:Int→α)(good:Aa→Fo→α):α:=bif !decide (CY v=0) then bad (CY v) else match whole v with
 | some f=>(match f.hd with
  | some (_,c,kf,_)=>good c kf
  | none=>bad 1)
 | none=>bad 1
structure X7 (M:Nat) (v:List Aa) (c:Aa) (kf:Fo):Prop where
 e:v=c::kf.flat
 vok:XI M c kf
 ok:CY v=0
 on:∀(α:Type) (bad:Int→α) (good:Aa→Fo→α),Wb v bad good=good c kf
 f:∃f:Fo,whole v=some f∧f.one=true∧f.wf false none=true∧f.hd=some (none,c,kf,.nil)∧Np f=0
theorem DR {M:Nat}{v:List Aa}(hA:D0 M v):(¬ CY v=0∧∀(α:Type) (bad:Int→α) (good:Aa→Fo→α),Wb v bad good=bad (CY v))∨∃c kf,X7 M v c kf:=by
 by_cases h:CY v=0
 ·refine .inr ?_;have h':=h;unfold CY at h
  cases hw:whole v with
  | none=>rw[hw] at h;cases h
  | some f=>
   rw[hw] at h;obtain⟨x1,x2,x3⟩:=Mf hw;subst x1;obtain⟨c,kf,e1,e2,e3⟩:=Wa x3 x2 hA;refine⟨c,kf,e1,e3,h',λα bad good=>?_,f,hw,x3,x2,e2,h⟩;unfold Wb;rw[Ye h',hw];simp only[e2];rfl
 ·refine .inl ⟨h,λα bad good=>?_⟩;unfold Wb;rw[XY h];rfl
def Fo.find (key:Au):Fo→Option (List Aa)
 | .nil=>none
 | .cell k c r=>bif decide (DQ k=key) then some [c] else r.find key
 | .node k c kids r=>bif decide (DQ k=key) then some (c::kids.flat) else r.find key
def TL (v:List Aa):List Au×Int:=Wb v (λe=>([],e)) λc kf=>bif !decide (c.fKind=6) then([],7) else(kf.keys,0)
def Q2 (v:List Aa):List (List Aa)×Int:=Wb v (λe=>([],e)) λc kf=>bif (!decide (c.fKind=5)&&!decide (c.fKind=6)) then([],7) else(kf.vals,0)
def E8 (v:List Aa)(key:Au):List Aa×Int:=Wb v (λe=>([],e)) λc kf=>bif !decide (c.fKind=6) then([],7) else(match kf.find key with
 | some x=>(x,0)
 | none=>([],5))
theorem Lb {x:List Aa}(h:x.length≤1000000000):J2 x=some x:=by
 unfold J2;rw[NG (by simp;omega)];rfl
theorem J0 (key:Au):∀(g:Fo),g.flat.length≤1000000000→GZ (λk x s=>I0 k x key s) g []=some (match g.find key with
  | some x=>.ret x
  | none=>.go [])
 | .nil,_=>rfl
 | .cell k c r,h1=>by
  simp only[Fo.flat,Yd,XZ] at h1;have:I0 (DQ k) [c] key []=some (!decide (DQ k=key),bif decide (DQ k=key) then[c] else[]):=by
   unfold I0
   cases decide (DQ k=key) with
   | true=>rw[AZ rfl,Lb (by simp),Ba rfl,CA (by simp)];rfl
   | false=>rfl
  rw[GZ,M4 this,Fo.find]
  cases decide (DQ k=key) with
  | true=>rfl
  | false=>exact J0 key r (by omega)
 | .node k c kids r,h1=>by
  simp only[Fo.flat,Yd,XZ] at h1;have:I0 (DQ k) (c::kids.flat) key []=some (!decide (DQ k=key),bif decide (DQ k=key) then c::kids.flat else[]):=by
   unfold I0
   cases decide (DQ k=key) with
   | true=>rw[AZ rfl,Lb (by simp;omega),Ba rfl,CA (by simp)];rfl
   | false=>rfl
  rw[GZ,M4 this,Fo.find]
  cases decide (DQ k=key) with
  | true=>rfl
  | false=>exact J0 key r (by omega)
theorem Ky (key:Au):∀(g:Fo) (x:List Aa),g.find key=some x→0<x.length∧x.length≤g.flat.length∧∀y∈x,y∈g.flat
 | .nil,x,h=>by cases h
 | .cell k c r,x,h=>by
  rw[Fo.find] at h
  cases hk:decide (DQ k=key) with
  | true=>rw[hk] at h;cases h;simp[Fo.flat];omega
  | false=>
   rw[hk] at h;obtain⟨a,b,c'⟩:=Ky key r x h;refine⟨a,by simp[Fo.flat];omega,λy hy=>?_⟩;simp[Fo.flat,c' y hy]
 | .node k c kids r,x,h=>by
  rw[Fo.find] at h
  cases hk:decide (DQ k=key) with
  | true=>
   rw[hk] at h;cases h;refine⟨by simp,by simp[Fo.flat];omega,λy hy=>?_⟩;simp only[YC] at hy;simp only[Fo.flat,List.mem_append,YC];rcases hy with hy | hy
   ·exact .inr (.inl hy)
   ·exact .inr (.inr (.inl hy))
  | false=>
   rw[hk] at h;obtain⟨a,b,c'⟩:=Ky key r x h;refine⟨a,by simp[Fo.flat];omega,λy hy=>?_⟩;simp[Fo.flat,c' y hy]
section
variable {M : Nat} {v : List Aa}
theorem UP (hA:D0 M v)(hM:M≤1000000){F:Nat}(hF:M<F)(key:Au):Tl F v key=some (E8 v key):=by
 have hvM:=hA.hv;unfold Tl E8;rw[Gd hA hM hF,Ba rfl];rcases DR hA with⟨h,on⟩ | ⟨c,kf,V⟩
 ·rw[XY h,AZ (p:=!false) rfl,on]
 ·obtain⟨e,v1,ok,on,_⟩:=V;rw[on,ok,AM (by rfl)];have hl:v.length=kf.flat.length+1:=by rw[e];simp
  rw[B0 (Yn 0) (by omega),show Ay v 0=c by rw[e];rfl]
  cases h6:decide (c.fKind=6) with
  | false=>rfl
  | true=>
   rw[AM (p:=!true) rfl];have hp:=T8 (Y:=λk x s=>I0 k x key s) (F:=F) hA hF e v1.n v1.wf [];rw[J0 key kf (by omega)] at hp;have eB:(λ(σ:Int×Int×List Aa)=>Iz F v key σ.1 σ.2.1 σ.2.2)=λσ=>pB F v (λk x s=>I0 k x key s) σ.1 σ.2.1 σ.2.2:=rfl;have hP:OW F v key []=some ((kf.find key).getD []):=by
    unfold OW;rw[B0 (Yn 0) (by omega),eB,Ba hp]
    cases kf.find key<;>rfl
   rw[hP,Ba rfl]
   cases hf:kf.find key with
   | none=>rfl
   | some x=>
    obtain⟨a,_,_⟩:=Ky key kf x hf
    cases x with
    | nil=>cases a
    | cons y r=>rfl
theorem Pg {F:Nat}{a b:Int}(h0:0≤a)(hab:a≤b)(hb:b≤v.length)(hl:v.length≤100000000)(hF:v.length<F):JS F v a b=some ((v.drop a.toNat).take (b-a).toNat):=by
 obtain⟨o,h1,h2⟩:=Ia (body:=λσ=>Eu v b σ.1 σ.2) (λσ=>a≤σ.2∧σ.2≤b∧σ.1=(v.drop a.toNat).take (σ.2-a).toNat) (λσ=>(b-σ.2).toNat)
  (λo=>BI (λν=>Hn ν) o=some ((v.drop a.toNat).take (b-a).toNat)) (λσ ⟨h3,h4,h5⟩=>by
   obtain⟨out,i⟩:=σ;simp only at h3 h4 h5;show(∃s',Eu v b out i=_∧_)∨∃o,Eu v b out i=_∧_;have hol:out.length≤v.length:=by rw[h5,List.length_take,YE];omega
   by_cases hx:i<b
   ·obtain⟨c,hc⟩:∃c,v[i.toNat]? =some c:=⟨v[i.toNat]'(by omega),Yc (by omega)⟩
    have hat:Ay v i=c:=by simp[Ay,hc]
    have e:out++[c]=(v.drop a.toNat).take (i+1-a).toNat:=by
     rw[show(i+1-a).toNat=(i-a).toNat+1 from by omega,List.take_add_one,h5,List.getElem?_drop,show a.toNat+(i-a).toNat=i.toNat from by omega,hc];rfl
    have a1:a≤i+1:=by omega
    have a2:i+1≤b:=by omega
    have a3:(b-(i+1)).toNat<(b-i).toNat:=by omega
    refine .inl ⟨(out++[c],i+1),?_,⟨a1,a2,e⟩,a3⟩;unfold Eu;rw[AZ (Ye hx),B0 (by omega) (by omega),hat,NG (by rw[Yy];omega),AU (by omega) (by omega)]
   ·have e:i=b:=by omega
    refine .inr ⟨.go out,?_,?_⟩
    ·unfold Eu;rw[AM (XY hx)]
    ·rw[HX];unfold Hn;rw[h5,e]) F ([],a) ⟨Yn a,hab,by show[]=_;rw[show(a-a).toNat=0 from by omega];rfl⟩ (by show(b-a).toNat<F;omega)
 unfold JS;rw[Ba h1,h2]
theorem Of {F:Nat}(hA:D0 M v){c:Aa}(hc:Ay v 0=c)(h6:c.fKind=6)(hcN:c.fN≤9223372036854775807)(hF:3*M+3<F):∀(n:Nat) (f:Fo) (L:Nat) (out:List Au) (p x:Int) (last:Option Au) (ys:List Aa),f.flat.length<n→f.wf true last=true→v.drop p.toNat=f.flat++ys→0≤p→c.fN=x+f.cnt→0≤x→f.cnt<L→out.length+f.cnt≤1000000000→
  BP (λσ=>Ev F v σ.1 σ.2.1 σ.2.2) L (out,p,x)=some (.go (out++f.keys)):=by
 have hM:=hA.hM;have hvM:=hA.hv;intro n
 induction n with
 | zero=>intro f L out p x last ys h;omega
 | succ n ih=>
  intro f L out p x last ys hn hw hd h0 hN hx hL hol;obtain⟨L,rfl⟩:∃K,L=K+1:=⟨L-1,by omega⟩
  rcases Rn hw with rfl | ⟨k,d,kf,r,hf,Hf⟩
  ·have hx' : ¬ x<c.fN:=by simp only[Fo.cnt] at hN;omega
   have hb:Ev F v out p x=some (.out (.go out)):=by unfold Ev;rw[hc,AM (XY hx')]
   rw[show out++Fo.nil.keys=out by simp[Fo.keys]];exact Dj hb
  ·obtain⟨a1,a2,a3,a4,a5⟩:=Hf.drop h0 hd;obtain⟨f1,o1,w1,e1⟩:=Q3 hf hw;have cf:=Hf.cnt;have lf:=congrArg List.length Hf.flat;simp only[Yd,XZ] at lf;have hk:=Hf.key
   cases k with
   | none=>simp[C2] at hk
   | some s=>
    have e2:((Bv (some s)).length:Int)=1:=rfl;rw[e2] at a1 a3;have g3:=(Ce (by omega) a1).2.2;have na:=hA.next (F:=F) hF (p:=p+1) (by omega) (by omega);rw[KN o1 w1 (by rw[a1,e1];rfl),e1] at na;have hb:Ev F v out p x=some (.next (out++[s],p+1+((d::kf.flat).length:Int),x+1)):=by
     unfold Ev;rw[hc,AZ (Ye (by omega)),B0 h0 a5,a4 s rfl,SA (by rw[Yy];omega),AU (by omega) (by omega),na,Ba rfl,AU (by omega) (by omega)]
    have:=ih r L (out++[s]) _ (x+1) (some s) ys (by omega) Hf.rest a3 (by omega) (by omega) (by omega) (by omega) (by simp;omega);rw[(VL hf).1,show out++DQ (some s)::r.keys=(out++[s])++r.keys by simp[DQ]];exact(M6 hb).trans this
theorem Ni {F:Nat}(hA:D0 M v)(hM6:M≤1000000){c:Aa}(hc:Ay v 0=c)(hcN:c.fN≤9223372036854775807)(hF:3*M+3<F):∀(n:Nat) (f:Fo) (L:Nat) (out:List (List Aa)) (p x:Int) (last:Option Au) (ys:List Aa),f.flat.length<n→f.wf (decide (c.fKind=6)) last=true→v.drop p.toNat=f.flat++ys→0≤p→c.fN=x+f.cnt→0≤x→f.cnt<L→out.length+f.cnt≤1000000000→
  BP (λσ=>DF F v σ.1 σ.2.1 σ.2.2) L (out,p,x)=some (.go (out++f.vals)):=by
 have hM:=hA.hM;have hvM:=hA.hv;intro n
 induction n with
 | zero=>intro f L out p x last ys h;omega
 | succ n ih=>
  intro f L out p x last ys hn hw hd h0 hN hx hL hol;obtain⟨L,rfl⟩:∃K,L=K+1:=⟨L-1,by omega⟩
  rcases Rn hw with rfl | ⟨k,d,kf,r,hf,Hf⟩
  ·have hx' : ¬ x<c.fN:=by simp only[Fo.cnt] at hN;omega
   have hb:DF F v out p x=some (.out (.go out)):=by unfold DF;rw[hc,AM (XY hx')]
   rw[show out++Fo.nil.vals=out by simp[Fo.vals]];exact Dj hb
  ·obtain⟨a1,a2,a3,a4,a5⟩:=Hf.drop h0 hd;obtain⟨f1,o1,w1,e1⟩:=Q3 hf hw;have cf:=Hf.cnt;have lf:=congrArg List.length Hf.flat;simp only[Yd,XZ] at lf;have hk:=Hf.key;have g3:=(Ce (by omega) a1).2.2;have na:=hA.next (F:=F) hF (p:=p+(Bv k).length) (by omega) (by omega);rw[KN o1 w1 (by rw[a1,e1];rfl),e1] at na;have hll:=congrArg List.length a1;rw[YE] at hll;simp only[XZ,Yd] at hll;have hpart:JS F v (p+(Bv k).length) (p+(Bv k).length+((d::kf.flat).length:Int))=some (d::kf.flat):=by
    rw[Pg (by omega) (by omega) (by simp only[XZ];omega) (by omega) (by omega),a1,show(p+((Bv k).length:Int)+((d::kf.flat).length:Int)-(p+((Bv k).length:Int))).toNat=(d::kf.flat).length from by omega,← YF,List.take_left]
   have hb:DF F v out p x=some (.next (out++[d::kf.flat],p+(Bv k).length+((d::kf.flat).length:Int),x+1)):=by
    unfold DF;rw[hc,AZ (Ye (by omega))]
    cases hm:decide (c.fKind=6) with
    | true=>
     rw[hm] at hk
     cases k with
     | none=>simp[C2] at hk
     | some s=>
      have e2:((Bv (some s)).length:Int)=1:=rfl;rw[e2] at na hpart ⊢;rw[AZ rfl,AU (by omega) (by omega),na,Ba rfl,hpart,Ba rfl,NH (by rw[Yy];omega),AU (by omega) (by omega)]
    | false=>
     rw[hm] at hk
     cases k with
     | some s=>simp[C2] at hk
     | none=>
      have e2:((Bv none).length:Int)=0:=rfl;rw[e2,Int.add_zero] at na hpart ⊢;rw[AM rfl,na,Ba rfl,hpart,Ba rfl,NH (by rw[Yy];omega),AU (by omega) (by omega)]
   have:=ih r L (out++[d::kf.flat]) _ (x+1) k ys (by omega) Hf.rest a3 (by omega) (by omega) (by omega) (by omega) (by simp;omega);rw[(VL hf).2,show out++(d::kf.flat)::r.vals=(out++[d::kf.flat])++r.vals by simp];exact(M6 hb).trans this
theorem Tz (hA:D0 M v)(hM:M≤1000000){F:Nat}(hF:4*M+6<F):Pj F v=some (TL v):=by
 have hvM:=hA.hv;unfold Pj TL;rw[E5 hA hM hF,Ba rfl];rcases DR hA with⟨h,on⟩ | ⟨c,kf,V⟩
 ·rw[XY h,AZ (p:=!false) rfl,on]
 ·obtain⟨e,v1,ok,on,_⟩:=V;rw[on,ok,AM (by rfl)];have hl:v.length=kf.flat.length+1:=by rw[e];simp
  have hcf:=Ch kf;have hat:Ay v 0=c:=by rw[e];rfl
  rw[B0 (Yn 0) (by omega),hat]
  cases h6:decide (c.fKind=6) with
  | false=>rfl
  | true=>
   rw[AM (p:=!true) rfl];have hw:=v1.wf;rw[h6] at hw;have hp:=Of hA hat (Yq h6) (v1.ck.hc c (by simp)).2.2 (F:=F) (by omega) (kf.flat.length+1) kf F [] 1 0 none [] (by omega) hw (by rw[e];simp) (by decide) (by rw[v1.n];omega) (Yn 0) (by omega) (by simp;omega);rw[Ba hp];rfl
theorem RY (hA:D0 M v)(hM:M≤1000000){F:Nat}(hF:4*M+6<F):Mz F v=some (Q2 v):=by
 have hvM:=hA.hv;unfold Mz Q2;rw[E5 hA hM hF,Ba rfl];rcases DR hA with⟨h,on⟩ | ⟨c,kf,V⟩
 ·rw[XY h,AZ (p:=!false) rfl,on]
 ·obtain⟨e,v1,ok,on,_⟩:=V;rw[on,ok,AM (by rfl)];have hl:v.length=kf.flat.length+1:=by rw[e];simp
  have hcf:=Ch kf;have hat:Ay v 0=c:=by rw[e];rfl
  rw[B0 (Yn 0) (by omega),hat]
  cases h6:(!decide (c.fKind=5)&&!decide (c.fKind=6)) with
  | true=>rfl
  | false=>
   rw[AM rfl];have hp:=Ni hA hM hat (v1.ck.hc c (by simp)).2.2 (F:=F) (by omega) (kf.flat.length+1) kf F [] 1 0 none [] (by omega) v1.wf (by rw[e];simp) (by decide) (by rw[v1.n];omega) (Yn 0) (by omega) (by simp;omega);rw[Ba hp];rfl
theorem T2 {key:Au}{r1:List Au×Int}{r7:List (List Aa)×Int}:∀(f:Fo) (L:Nat) (x:Int) (pk:List Au) (pv:List (List Aa)),r1.1=pk++f.keys→r7.1=pv++f.vals→x=(pk.length:Int)→x=(pv.length:Int)→f.cnt<L→x+f.cnt≤1000000000→
  BP (λσ=>GH key r1 r7 σ) L x=some (match f.find key with
   | some y=>.ret (y,0)
   | none=>.go ()):=by
 intro f;have step:∀(k:Option Au) (y:List Aa) (r:Fo) (L:Nat) (x:Int) (pk:List Au) (pv:List (List Aa)),r1.1=pk++DQ k::r.keys→r7.1=pv++y::r.vals→x=(pk.length:Int)→x=(pv.length:Int)→x+(r.cnt+1)≤1000000000→GH key r1 r7 x=some (bif decide (DQ k=key) then .out (.ret (y,0)) else .next (x+1)):=λk y r L x pk pv e1 e2 h1 h2 hb=>by
  have l1:(r1.1.length:Int)=x+1+r.cnt:=by rw[e1,Yd,XZ,(On r).1];omega
  have l2:(r7.1.length:Int)=x+1+r.cnt:=by rw[e2,Yd,XZ,(On r).2];omega
  unfold GH;rw[l1,l2,AZ (Ye (by omega)),B0 (by omega) (by omega),e1,e2,Jd pk _ _ h1,Jd pv _ _ h2,B0 (by omega) (by omega),AU (by omega) (by omega)]
  cases decide (DQ k=key)<;>rfl
 induction f with
 | nil=>
  intro L x pk pv e1 e2 h1 h2 hL hb;obtain⟨L,rfl⟩:∃K,L=K+1:=⟨L-1,by omega⟩
  refine Dj (o:=(Out.go ():Out (List Aa×Int) Unit)) ?_;unfold GH;rw[AM (XY ?_)];rw[e1];simp[Fo.keys];omega
 | cell k c r ih=>
  intro L x pk pv e1 e2 h1 h2 hL hb;simp only[Fo.cnt] at hL hb;obtain⟨L,rfl⟩:∃K,L=K+1:=⟨L-1,by omega⟩
  have hs:=step k [c] r L x pk pv e1 e2 h1 h2 (by omega);rw[Fo.find]
  cases hk:decide (DQ k=key) with
  | true=>rw[hk] at hs;exact Dj hs
  | false=>
   rw[hk] at hs;exact(M6 hs).trans (ih L (x+1) (pk++[DQ k]) (pv++[[c]]) (by rw[e1];simp[Fo.keys]) (by rw[e2];simp[Fo.vals]) (by simp;omega) (by simp;omega) (by omega) (by omega))
 | node k c kids r _ ih=>
  intro L x pk pv e1 e2 h1 h2 hL hb;simp only[Fo.cnt] at hL hb;obtain⟨L,rfl⟩:∃K,L=K+1:=⟨L-1,by omega⟩
  have hs:=step k (c::kids.flat) r L x pk pv e1 e2 h1 h2 (by omega);rw[Fo.find]
  cases hk:decide (DQ k=key) with
  | true=>rw[hk] at hs;exact Dj hs
  | false=>
   rw[hk] at hs;exact(M6 hs).trans (ih L (x+1) (pk++[DQ k]) (pv++[c::kids.flat]) (by rw[e1];simp[Fo.keys]) (by rw[e2];simp[Fo.vals]) (by simp;omega) (by simp;omega) (by omega) (by omega))
theorem UZ (hA:D0 M v)(hM:M≤1000000){F:Nat}(hF:4*M+6<F)(key:Au):T3 F v key=some (E8 v key):=by
 have hvM:=hA.hv;unfold T3;rw[Tz hA hM hF,Ba rfl,RY hA hM hF];unfold TL Q2 E8;rcases DR hA with⟨h,on⟩ | ⟨c,kf,V⟩
 ·rw[on,on,on,AZ (by simp[h])]
 ·obtain⟨e,v1,ok,on,_⟩:=V;rw[on,on,on];have hl:v.length=kf.flat.length+1:=by rw[e];simp
  have hcf:=Ch kf
  cases h6:decide (c.fKind=6) with
  | false=>rfl
  | true=>
   have h5:decide (c.fKind=5)=false:=XY (by have:=Yq h6;omega);rw[h5];simp only[Yj,Ys,Yb];rw[AM (by rfl),Ba rfl,Ba (T2 (key:=key) kf F 0 [] [] rfl rfl rfl rfl (by omega) (by omega))]
   cases kf.find key<;>rfl
theorem LT (hA:D0 M v)(key:Au):D0 M (E8 v key).1:=by
 have hn:D0 M []:=⟨hA.hM,Y8 _,λc hc=>by cases hc⟩
 unfold E8;rcases DR hA with⟨h,on⟩ | ⟨c,kf,V⟩
 ·rw[on];exact hn
 ·obtain⟨e,v1,ok,on,_⟩:=V;rw[on]
  cases decide (c.fKind=6) with
  | false=>exact hn
  | true=>
   cases hf:kf.find key with
   | none=>exact hn
   | some x=>
    obtain⟨a,b,d⟩:=Ky key kf x hf;refine hA.sub (by rw[e];show x.length≤_;simp only[XZ];omega) (λy hy=>?_);rw[e];exact List.mem_cons_of_mem _ (d y hy)
end
def I7:List Au→List Aa→List Aa×Int
 | [],out=>(out,0)
 | k::ks,out=>bif !decide ((E8 out k).2=0) then([],(E8 out k).2) else I7 ks (E8 out k).1
def Hy (v:List Aa)(path:List Au):List Aa×Int:=bif !decide (CY v=0) then([],CY v) else I7 path v
def PR (v:List Aa):List Aa×Int:=bif !decide (CY v=0) then([],CY v) else(v,0)
section
variable {M : Nat} {v : List Aa}
theorem OX (hA:D0 M v)(hM:M≤1000000){F:Nat}(hF:M<F):EH F v=some (PR v):=by
 unfold EH PR;rw[Gd hA hM hF,Ba rfl]
 by_cases h:CY v=0
 ·rw[AM (by simp[h]),Ye h];rfl
 ·rw[AZ (by simp[h]),XY h];rfl
theorem Pk (hA:D0 M v)(hM:M≤1000000){F:Nat}(hF:4*M+6<F):I6 F v=some (PR v):=by
 unfold I6 PR;rw[E5 hA hM hF,Ba rfl]
 by_cases h:CY v=0
 ·rw[AM (by simp[h]),Ye h];rfl
 ·rw[AZ (by simp[h]),XY h];rfl
theorem RH (hM:M≤1000000){F:Nat}(hF:M<F){path:List Au}:∀(ks:List Au) (L:Nat) (x:Int) (pre:List Au) (out:List Aa),path=pre++ks→x=(pre.length:Int)→ks.length<L→x+ks.length≤1000000000→D0 M out→
  ∃o,BP (λσ=>Ep F path σ.1 σ.2) L (out,x)=some o∧BI (λν=>Iy ν) o=some (I7 ks out):=by
 intro ks
 induction ks with
 | nil=>
  intro L x pre out e hx hL hb hA;obtain⟨L,rfl⟩:∃K,L=K+1:=⟨L-1,by omega⟩
  have hbd:Ep F path out x=some (.out (.go out)):=by unfold Ep;rw[AM (XY (by rw[e,hx];simp))]
  exact⟨.go out,Dj hbd,rfl⟩
 | cons k ks ih=>
  intro L x pre out e hx hL hb hA;simp only[XZ] at hL hb;obtain⟨L,rfl⟩:∃K,L=K+1:=⟨L-1,by omega⟩
  have hl:(path.length:Int)=x+1+ks.length:=by rw[e,Yd,XZ];omega
  have hbd:Ep F path out x=some (bif !decide ((E8 out k).2=0) then .out (.ret ([],(E8 out k).2)) else .next ((E8 out k).1,x+1)):=by
   unfold Ep;rw[hl,AZ (Ye (by omega)),B0 (by omega) (by omega),e,Jd pre ks k hx,UP hA hM hF,Ba rfl,AU (by omega) (by omega)]
   cases decide ((E8 out k).2=0)<;>rfl
  rw[I7]
  cases hk:decide ((E8 out k).2=0) with
  | false=>rw[hk] at hbd;exact⟨_,Dj hbd,rfl⟩
  | true=>
   rw[hk] at hbd;obtain⟨o,h1,h2⟩:=ih L (x+1) (pre++[k]) (E8 out k).1 (by rw[e];simp) (by simp;omega) (by omega) (by omega) (LT hA k);exact⟨o,IB hbd h1,h2⟩
theorem RU (hM:M≤1000000){F:Nat}(hF:4*M+6<F){path:List Au}:∀(ks:List Au) (L:Nat) (x e0:Int) (pre:List Au) (out:List Aa),path=pre++ks→x=(pre.length:Int)→ks.length<L→x+ks.length≤1000000000→D0 M out→
  ∃o,BP (λσ=>Et F path σ.1 σ.2.1 σ.2.2) L (e0,out,x)=some o∧BI (λν=>I5 ν) o=some (I7 ks out):=by
 intro ks
 induction ks with
 | nil=>
  intro L x e0 pre out e hx hL hb hA;obtain⟨L,rfl⟩:∃K,L=K+1:=⟨L-1,by omega⟩
  have hbd:Et F path e0 out x=some (.out (.go out)):=by unfold Et;rw[AM (XY (by rw[e,hx];simp))]
  exact⟨.go out,Dj hbd,rfl⟩
 | cons k ks ih=>
  intro L x e0 pre out e hx hL hb hA;simp only[XZ] at hL hb;obtain⟨L,rfl⟩:∃K,L=K+1:=⟨L-1,by omega⟩
  have hl:(path.length:Int)=x+1+ks.length:=by rw[e,Yd,XZ];omega
  have hbd:Et F path e0 out x=some (bif !decide ((E8 out k).2=0) then .out (.ret ([],(E8 out k).2)) else .next ((E8 out k).2,(E8 out k).1,x+1)):=by
   unfold Et;rw[hl,AZ (Ye (by omega)),B0 (by omega) (by omega),e,Jd pre ks k hx,UZ hA hM hF,Ba rfl,AU (by omega) (by omega)]
   cases decide ((E8 out k).2=0)<;>rfl
  rw[I7]
  cases hk:decide ((E8 out k).2=0) with
  | false=>rw[hk] at hbd;exact⟨_,Dj hbd,rfl⟩
  | true=>
   rw[hk] at hbd;obtain⟨o,h1,h2⟩:=ih L (x+1) _ (pre++[k]) (E8 out k).1 (by rw[e];simp) (by simp;omega) (by omega) (by omega) (LT hA k);exact⟨o,IB hbd h1,h2⟩
theorem Tj (hA:D0 M v)(hM:M≤1000000){F:Nat}{path:List Au}(hF:M<F)(hp:path.length<F)(hp2:path.length≤1000000000):OU F v path=some (Hy v path):=by
 have hvM:=hA.hv;unfold OU Hy;rw[Gd hA hM hF,Ba rfl]
 by_cases h:CY v=0
 ·obtain⟨o,h1,h2⟩:=RH hM hF (path:=path) path F 0 [] v rfl rfl hp (by omega) hA;rw[AM (by simp[h]),Ye h,Lb (by omega),Ba rfl,Ba h1,h2];rfl
 ·rw[AZ (by simp[h]),XY h];rfl
theorem Tx (hA:D0 M v)(hM:M≤1000000){F:Nat}{path:List Au}(hF:4*M+6<F)(hp:path.length<F)(hp2:path.length≤1000000000):Pf F v path=some (Hy v path):=by
 have hvM:=hA.hv;unfold Pf Hy;rw[E5 hA hM hF,Ba rfl]
 by_cases h:CY v=0
 ·obtain⟨o,h1,h2⟩:=RU hM hF (path:=path) path F 0 (CY v) [] v rfl rfl hp (by omega) hA;have hpart:JS F v 0 (v.length:Int)=some v:=by
   rw[Pg (Yn 0) (by omega) (Yn _) (by omega) (by omega)];simp
  rw[AM (by simp[h]),Ye h,hpart,Ba rfl,Ba h1,h2];rfl
 ·rw[AZ (by simp[h]),XY h];rfl
theorem Ps:∀(ks:List Au) {out:List Aa},D0 M out→D0 M (I7 ks out).1
 | [],out,h=>h
 | k::ks,out,h=>by
  rw[I7]
  cases decide ((E8 out k).2=0) with
  | false=>exact⟨h.hM,Y8 _,λc hc=>by cases hc⟩
  | true=>exact Ps ks (LT h k)
theorem Pq (hA:D0 M v)(path:List Au):D0 M (Hy v path).1:=by
 unfold Hy
 cases decide (CY v=0) with
 | false=>exact⟨hA.hM,Y8 _,λc hc=>by cases hc⟩
 | true=>exact Ps path hA
end
theorem IK {α β:Type}{p:Bool}{a:β}{x:Option α}:AX (imp p (some a).isSome) x=x:=CA (Or p)
theorem O6 {α β:Type}{p q:Bool}{a:β}{x:Option α}:AX (imp p (imp q (some a).isSome)) x=x:=CA (by rw[show(some a).isSome=true from rfl,Or,Or])
def X1 {R:Type}(i:Int):Option R→Stp Int (Out R Unit)
 | some r=>.out (.ret r)
 | none=>.next (i+1)
def Oj {R:Type}:Option R→Out R Unit
 | some r=>.ret r
 | none=>.go ()
theorem DZ {α R:Type}[Inhabited α]{l:List α}{t:α→Option R}{body:Int→Option (Stp Int (Out R Unit))}
  (hs:∀x:Int,0≤x→x<(l.length:Int)→body x=some (X1 x (t (Ay l x)))) (he:∀x:Int,¬ x<(l.length:Int)→body x=some (.out (.go ()))) {F:Nat} (hF:l.length<F) :
  BP body F 0=some (Oj (l.findSome? t)):=by
 have key:∀(suf pre:List α) (F:Nat),l=pre++suf→suf.length<F→BP body F (pre.length:Int)=some (Oj (suf.findSome? t)):=by
  intro suf
  induction suf with
  | nil=>
   intro pre F e hF;obtain⟨n,rfl⟩:∃n,F=n+1:=⟨F-1,by omega⟩
   exact Dj (he _ (by rw[e];simp))
  | cons a r ih=>
   intro pre F e hF;simp only[XZ] at hF;obtain⟨n,rfl⟩:∃n,F=n+1:=⟨F-1,by omega⟩
   have h1:=hs (pre.length:Int) (by omega) (by rw[e];simp;omega);have h2:Ay l (pre.length:Int)=a:=by rw[e];exact Jd pre r a rfl
   rw[h2] at h1
   cases ht:t a with
   | some q=>
    rw[ht] at h1;rw[List.findSome?_cons,ht];exact Dj h1
   | none=>
    rw[ht] at h1;rw[List.findSome?_cons,ht];have h3:=ih (pre++[a]) n (by rw[e];simp) (by omega);refine IB h1 ?_;rw[show((pre.length:Int)+1)=((pre++[a]).length:Int) from by simp];exact h3
 exact key l [] F rfl hF
def eO (e:Int):Option Int:=bif decide (e=0) then none else some e
def bO {R:Type}(b:Bool)(r:R):Option R:=bif b then some r else none
theorem O4 {x e:Int}:AR (!decide (e=0)) (some (.out (.ret e))) (some (.next (x+1)))=(some (X1 x (eO e)):Option (Stp Int (Out Int Unit))):=by
 unfold eO;cases decide (e=0)<;>rfl
theorem IJ {R:Type}{x:Int}{b:Bool}{r:R}:AR b (some (.out (.ret r))) (some (.next (x+1)))=(some (X1 x (bO b r)):Option (Stp Int (Out R Unit))):=by
 cases b<;>rfl
theorem Ib {α R:Type}{p:α→Bool}{r:R}:∀l:List α,l.findSome? (λa=>bO (p a) r)=bO (l.any p) r
 | []=>rfl
 | a::l=>by
  rw[List.findSome?_cons,List.any_cons,Ib l]
  cases p a<;>rfl
theorem JZ {R:Type}{b:Bool}{r q:R}:BI (λ_=>some q) (Oj (bO b r))=some (bif b then r else q):=by cases b<;>rfl
theorem Ra {F:Nat}{a b:List Aa}(hF:a.length<F)(ha:a.length≤1000000000):Lv F a b=some (decide (a=b)):=by
 unfold Lv
 by_cases hl:a.length=b.length
 ·rw[AM (by simp[hl])];have h1:∀(k:Nat),k≤a.length→∃o,BP (λσ=>Es a b σ) (a.length-k+1) (k:Int)=some o∧BI (λ_=>I3) o=some (decide (a.drop k=b.drop k)):=by
   intro k;generalize hd:a.length-k=d
   induction d generalizing k with
   | zero=>
    intro hk;have:k=a.length:=by omega
    subst this;refine⟨.go (),Dj (by unfold Es;rw[AM (XY (by omega))]),?_⟩;rw[HX,List.drop_length,hl,List.drop_length];rfl
   | succ d ih=>
    intro hk;have hka:k<a.length:=by omega
    have hkb:k<b.length:=by omega
    have ea:Ay a (k:Int)=a[k]:=by simp[Ay,hka]
    have eb:Ay b (k:Int)=b[k]:=by simp[Ay,hkb]
    have da:=List.drop_eq_getElem_cons hka;have db:=List.drop_eq_getElem_cons hkb;have hc:(decide (a[k].fKind=b[k].fKind)&&decide (a[k].fInt=b[k].fInt)&&decide (a[k].fStr=b[k].fStr)&&decide (a[k].fN=b[k].fN))=decide (a[k]=b[k]):=by
     rw[Ym];simp only[Ya,XU];constructor
     ·rintro⟨⟨⟨h1,h2⟩,h3⟩,h4⟩;generalize a[k]=u at *;generalize b[k]=v at *
      cases u;cases v;simp_all
     ·intro h;rw[h];simp
    have hb:Es a b (k:Int)=AR (!decide (a[k]=b[k])) (some (.out (.ret false))) (some (.next ((k:Int)+1))):=by
     unfold Es;rw[AZ (Ye (by omega)),B0 (by omega) (by omega),B0 (by omega) (by omega),ea,eb,hc,AU (by omega) (by omega)]
    cases he:decide (a[k]=b[k]) with
    | false=>
     refine⟨.ret false,Dj (hb.trans (by rw[he];rfl)),?_⟩;rw[JY,da,db];simp only[XW] at he;rw[XY (by intro h;exact he (List.cons.inj h).1)]
    | true=>
     obtain⟨o,h2,h3⟩:=ih (k+1) (by omega) (by omega);simp only[XU] at he;refine⟨o,IB (hb.trans (by rw[Ye he];rfl)) h2,?_⟩;rw[h3,da,db,he];simp only[List.cons.injEq,true_and]
  obtain⟨o,h2,h3⟩:=h1 0 (Y8 _);replace h2:BP (λσ=>Es a b σ) (a.length-0+1) 0=some o:=h2;obtain⟨k,rfl⟩:∃k,F=(a.length-0+1)+k:=⟨F-(a.length+1),by omega⟩
  rw[Ba (M7 k h2),h3];rfl
 ·rw[AZ (by simp;omega),XY (λh=>hl (by rw[h]))]
theorem Tg {F:Nat}{a b:List Aa}(hF:a.length<F)(ha:a.length≤1000000000):Nt F a b=some (decide (a=b)):=by rw[OT];exact Ra hF ha
def RO (s:Au):Int:=CY [⟨4,0,s,0⟩]
theorem O7 (v:List Aa):(PR v).2=CY v:=by
 unfold PR
 by_cases h:CY v=0
 ·rw[Ye h];exact h.symm
 ·rw[XY h];rfl
theorem D0.str {K:Nat}{s:Au}(hs:s.length≤K)(hK:1≤K)(hK2:K≤1000000):D0 K [⟨4,0,s,0⟩]:=⟨by omega,hK,λc hc=>by
 have:c=⟨4,0,s,0⟩:=by simpa using hc
 subst this;exact⟨hs,(by decide:BF .i64 0=true),(by decide:(0:Int)≤9223372036854775807)⟩⟩
theorem QV {K F:Nat}{s:Au}(hs:s.length≤K)(hK:1≤K)(hK2:K≤1000000)(hF:K<F):NT F s=some (PR [⟨4,0,s,0⟩]):=by
 unfold NT;rw[OX (D0.str hs hK hK2) hK2 hF,Ba rfl]
theorem Rc {K F:Nat}{s:Au}(hs:s.length≤K)(hK:1≤K)(hK2:K≤1000000)(hF:4*K+6<F):Qq F s=some (PR [⟨4,0,s,0⟩]):=by
 unfold Qq;rw[Pk (D0.str hs hK hK2) hK2 hF,Ba rfl]
def WX (a:Option Int)(b:Int):Int:=match a with
 | some e=>e
 | none=>b
def Pc (a b c d e g h i:Bool):Bool:=(a||b||c)&&(d||e)&&(g||h&&i)
def Jl (f:Ah):Int:=bif Pc (decide (f.fOp=3)) (decide (f.fOp=4)) (decide (f.fValues.length=0)) (decide (f.fOp=5)) (decide (f.fText=[])) (decide (f.fOp=6)) (decide (f.fLow=0)) (decide (f.fHigh=0)) then 0 else 1
def X2 (n:Int):Bool:=decide (-1000000000000≤n)&&decide (n≤1000000000000)
def SF (f:Ah):Bool:=!X2 f.fLow||(!X2 f.fHigh||decide (f.fHigh<f.fLow))
def TA (f:Ah):Int:=
 bif (decide (f.fOp=3)||decide (f.fOp=4)) then(bif (decide ((f.fValues.length:Int)<1)||decide (8<(f.fValues.length:Int))) then 3 else WX (f.fValues.findSome? λv=>eO (CY v)) (Jl f))
 else bif decide (f.fOp=5) then WX (eO (RO f.fText)) (Jl f)
 else bif decide (f.fOp=6) then(bif SF f then 2 else Jl f)
 else Jl f
def PS (f:Ah):Int:=bif decide (4<(f.fPath.length:Int)) then 3 else WX (f.fPath.findSome? λs=>eO (RO s)) (bif (decide (f.fOp<1)||decide (6<f.fOp)) then 7 else TA f)
def jB (x:Bool):Option Int:=AR x (some 1) (some 0)
theorem RR:∀a b c d e g h i:Bool,(Bh (some (a||b)) λr=>AR (!r) (AR (!c) (jB true) (AR (!d) (AR (!e) (jB true) (AR (!g) (AR (!h) (jB true) (jB (!i))) (jB false))) (AR (!g) (AR (!h) (jB true) (jB (!i))) (jB false)))) (AR (!d) (AR (!e) (jB true) (AR (!g) (AR (!h) (jB true) (jB (!i))) (jB false))) (AR (!g) (AR (!h) (jB true) (jB (!i))) (jB false))))=some (bif Pc a b c d e g h i then(0:Int) else 1):=by decide
def Pa (f:Ah):Option Int:=Bh (EZ f.fOp) λr=>AR (!r) (AR (decide (0<(f.fValues.length:Int))) (jB true) (AR (!decide (f.fOp=5)) (AR (!decide (f.fText=([]:Au))) (jB true) (AR (!decide (f.fOp=6)) (AR (!decide (f.fLow=0)) (jB true) (jB (!decide (f.fHigh=0)))) (jB false))) (AR (!decide (f.fOp=6)) (AR (!decide (f.fLow=0)) (jB true) (jB (!decide (f.fHigh=0)))) (jB false)))) (AR (!decide (f.fOp=5)) (AR (!decide (f.fText=([]:Au))) (jB true) (AR (!decide (f.fOp=6)) (AR (!decide (f.fLow=0)) (jB true) (jB (!decide (f.fHigh=0)))) (jB false))) (AR (!decide (f.fOp=6)) (AR (!decide (f.fLow=0)) (jB true) (jB (!decide (f.fHigh=0)))) (jB false)))
theorem I2 (f:Ah):Pa f=some (Jl f):=by
 have h:=RR (decide (f.fOp=3)) (decide (f.fOp=4)) (decide (f.fValues.length=0)) (decide (f.fOp=5)) (decide (f.fText=[])) (decide (f.fOp=6)) (decide (f.fLow=0)) (decide (f.fHigh=0));have e:decide (0<(f.fValues.length:Int)) = !decide (f.fValues.length=0):=by rw[Ym,Yk,XU,XW];omega
 unfold Pa EZ;rw[e];exact h
theorem Qn:∀a b c d e g h i:Bool,AR (a||b) (AR d (AR g (some true) (AR h (some i) (some false))) (AR e (AR g (some true) (AR h (some i) (some false))) (some false))) (AR c (AR d (AR g (some true) (AR h (some i) (some false))) (AR e (AR g (some true) (AR h (some i) (some false))) (some false))) (some false))=some (Pc a b c d e g h i):=by decide
theorem QD (f:Ah):EF f=some (Pc (decide (f.fOp=3)) (decide (f.fOp=4)) (decide (f.fValues.length=0)) (decide (f.fOp=5)) (decide (f.fText=[])) (decide (f.fOp=6)) (decide (f.fLow=0)) (decide (f.fHigh=0))):=by
 have h:=Qn (decide (f.fOp=3)) (decide (f.fOp=4)) (decide (f.fValues.length=0)) (decide (f.fOp=5)) (decide (f.fText=[])) (decide (f.fOp=6)) (decide (f.fLow=0)) (decide (f.fHigh=0));have e:decide ((f.fValues.length:Int)=0)=decide (f.fValues.length=0):=by rw[Ym];simp
 unfold EF;rw[e];exact h
structure FA (K:Nat) (f:Ah):Prop where
 path:f.fPath.length≤10
 keys:∀s∈f.fPath,s.length≤K
 vals:f.fValues.length≤20
 val:∀v∈f.fValues,D0 K v
 text:f.fText.length≤K
 K1:1≤K
 K2:K≤1000000
section
variable {K : Nat} {f : Ah}
theorem S3 (hA:FA K f){F:Nat}(hF:K+100<F):BP (λσ=>EB F f σ) F 0=some (Oj (f.fPath.findSome? λs=>eO (RO s))):=by
 have hp:=hA.path;refine DZ (λx h0 hx=>?_) (λx hx=>by unfold EB;rw[AM (XY hx)]) (by omega);unfold EB;rw[AZ (Ye hx),B0 h0 hx,QV (hA.keys _ (J3 h0 hx)) hA.K1 hA.K2 (by omega),Ba rfl,AU (by omega) (by omega),O7];exact O4
theorem PK (hA:FA K f){F:Nat}(hF:4*K+100<F):BP (λσ=>DD F f σ) F 0=some (Oj (f.fPath.findSome? λs=>eO (RO s))):=by
 have hp:=hA.path;refine DZ (λx h0 hx=>?_) (λx hx=>by unfold DD;rw[AM (XY hx)]) (by omega);unfold DD;rw[AZ (Ye hx),B0 h0 hx,Rc (hA.keys _ (J3 h0 hx)) hA.K1 hA.K2 (by omega),Ba rfl,AU (by omega) (by omega),O7];exact O4
theorem N9 (hA:FA K f){F:Nat}(hF:K+100<F):BP (λσ=>EA F f σ) F 0=some (Oj (f.fValues.findSome? λv=>eO (CY v))):=by
 have hp:=hA.vals;refine DZ (λx h0 hx=>?_) (λx hx=>by unfold EA;rw[AM (XY hx)]) (by omega);unfold EA;rw[AZ (Ye hx),B0 h0 hx,Gd (hA.val _ (J3 h0 hx)) hA.K2 (by omega),Ba rfl,AU (by omega) (by omega)];exact O4
theorem S2 (hA:FA K f){F:Nat}(hF:K+100<F):BP (λσ=>H8 F f σ) F 0=some (Oj (f.fValues.findSome? λv=>eO (CY v))):=N9 hA hF
theorem PJ (hA:FA K f){F:Nat}(hF:4*K+100<F):BP (λσ=>DC F f σ) F 0=some (Oj (f.fValues.findSome? λv=>eO (CY v))):=by
 have hp:=hA.vals;refine DZ (λx h0 hx=>?_) (λx hx=>by unfold DC;rw[AM (XY hx)]) (by omega);unfold DC;rw[AZ (Ye hx),B0 h0 hx,E5 (hA.val _ (J3 h0 hx)) hA.K2 (by omega),Ba rfl,AU (by omega) (by omega)];exact O4
theorem I8 {a:Option Int}{b:Int}{k:Option Int}(h:k=some b):BI (λ_=>k) (Oj a)=some (WX a b):=by subst h;cases a<;>rfl
theorem Rz {e b:Int}{k:Option Int}(h:k=some b):AR (!decide (e=0)) (some e) k=some (WX (eO e) b):=by
 subst h;unfold eO;cases decide (e=0)<;>rfl
theorem N6 (n:Int):Bt n=some (X2 n):=rfl
theorem M0 (n:Int):Bo n=some (X2 n):=rfl
theorem NA (hA:FA K f){F:Nat}(hF:K+100<F):B2 F f=some (PS f):=by
 have h2:H6 f=some (Jl f):=I2 f;have h4:H5 f=some (Jl f):=I2 f;unfold B2 PS
 cases h1:decide (4<(f.fPath.length:Int)) with
 | true=>rfl
 | false=>
  rw[AM (by rfl),Ba (S3 hA hF),I8 (b:=bif (decide (f.fOp<1)||decide (6<f.fOp)) then 7 else TA f)]
  ·rfl
  ·unfold H7
   cases h0:(decide (f.fOp<1)||decide (6<f.fOp)) with
   | true=>rfl
   | false=>
    rw[AM (by rfl),Yb];unfold TA
    cases h3:decide (f.fOp=3) with
    | true=>
     rw[AZ (by rfl),Yx,Yg]
     cases hn:(decide ((f.fValues.length:Int)<1)||decide (8<(f.fValues.length:Int))) with
     | true=>rfl
     | false=>rw[AM (by rfl),Ba (N9 hA hF),I8 h2];rfl
    | false=>
     rw[AM (by rfl),Yo]
     cases h4':decide (f.fOp=4) with
     | true=>
      rw[AZ (by rfl),Yg]
      cases hn:(decide ((f.fValues.length:Int)<1)||decide (8<(f.fValues.length:Int))) with
      | true=>rfl
      | false=>rw[AM (by rfl),Ba (S2 hA hF),I8 h4];rfl
     | false=>
      rw[AM (by rfl),Yb]
      cases h5:decide (f.fOp=5) with
      | true=>
       rw[AZ (by rfl),Yg,QV hA.text hA.K1 hA.K2 (by omega),Ba rfl,O7];refine Rz (Eq.trans ?_ (I2 f));unfold Pa;rw[h5];rfl
      | false=>
       rw[AM (by rfl),Yb]
       cases h6:decide (f.fOp=6) with
       | true=>
        rw[AZ (by rfl),Yg,N6,N6,CA (by rfl),IK,CS,CS]
        change AR (SF f) _ _=_
        cases hb:SF f with
        | true=>rfl
        | false=>
         rw[AM (by rfl),Yb];refine Eq.trans ?_ (I2 f);unfold Pa;rw[h5,h6];rfl
       | false=>
        rw[AM (by rfl),Yb];refine Eq.trans ?_ (I2 f);unfold Pa;rw[h5,h6];rfl
theorem VX (f:Ah):(Bh (EF f) λr=>AR (!r) (some (1:Int)) (some 0))=some (Jl f):=by
 rw[QD,Ba rfl];unfold Jl;generalize Pc _ _ _ _ _ _ _ _=q
 cases q<;>rfl
theorem L3 (hA:FA K f){F:Nat}(hF:4*K+100<F):Br F f=some (PS f):=by
 unfold Br PS
 cases h1:decide (4<(f.fPath.length:Int)) with
 | true=>rfl
 | false=>
  rw[AM (by rfl),Ba (PK hA hF),I8 (b:=bif (decide (f.fOp<1)||decide (6<f.fOp)) then 7 else TA f)]
  ·rfl
  ·have tl:AX (imp (decide (f.fOp=6)) ((Bo f.fLow).isSome)) (AX (imp (decide (f.fOp=6)) (imp (!(!(ov (Bo f.fLow)))) ((Bo f.fHigh).isSome))) (AR (((decide (f.fOp=6))&&((!(ov (Bo f.fLow)))||((!(ov (Bo f.fHigh)))||(decide (f.fHigh<f.fLow)))))) (some 2) (Bh (EF f) λr=>AR (!r) (some 1) (some 0))))=some (bif decide (f.fOp=6)&&SF f then 2 else Jl f):=by
    rw[M0,M0,IK,O6,CS,CS,VX]
    change AR (decide (f.fOp=6)&&SF f) _ _=_
    cases decide (f.fOp=6)&&SF f<;>rfl
   unfold EN
   cases h0:(decide (f.fOp<1)||decide (6<f.fOp)) with
   | true=>rfl
   | false=>
    rw[AM (by rfl),Yb];unfold TA
    cases ha:(decide (f.fOp=3)||decide (f.fOp=4)) with
    | true=>
     have h5:decide (f.fOp=5)=false:=by simp only[Y7,XU] at ha;exact XY (by omega)
     have h6:decide (f.fOp=6)=false:=by simp only[Y7,XU] at ha;exact XY (by omega)
     rw[AZ (by rfl),Yg]
     cases hn:(decide ((f.fValues.length:Int)<1)||decide (8<(f.fValues.length:Int))) with
     | true=>rfl
     | false=>
      rw[AM (by rfl),Yb,Ba (PJ hA hF)];refine I8 ?_;unfold EM;rw[h5,AM (by rfl)];refine tl.trans ?_;rw[h6];rfl
    | false=>
     rw[AM (by rfl),Yb]
     cases h5:decide (f.fOp=5) with
     | true=>
      have h6:decide (f.fOp=6)=false:=by simp only[XU] at h5;exact XY (by omega)
      rw[AZ (by rfl),Yg,Rc hA.text hA.K1 hA.K2 (by omega),Ba rfl,O7];refine Rz (tl.trans ?_);rw[h6];rfl
     | false=>
      rw[AM (by rfl),Yb];refine tl.trans ?_
      cases decide (f.fOp=6)<;>rfl
end
theorem Rx {f:Fo}(h1:f.flat.any Hz=false)(h2:f.flat.any EW=false)(h3:f.flat.length≤200)(h4:f.dep≤8)(h5:(f.txt true).length≤4000):Np f=0:=by
 unfold Np;rw[h1,h2,XY (by omega),XY (by omega),XY (by omega)];rfl
theorem Uk {f:Fo}(h:Np f=0):f.flat.any Hz=false∧f.flat.any EW=false∧f.flat.length≤200∧f.dep≤8∧(f.txt true).length≤4000:=by
 unfold Np at h
 cases h1:f.flat.any Hz with
 | true=>rw[h1] at h;cases h
 | false=>
  rw[h1] at h
  cases h2:(f.flat.any EW||(decide (200<f.flat.length)||(decide (8<f.dep)||decide (4000<(f.txt true).length)))) with
  | true=>rw[h2] at h;cases h
  | false=>
   simp only[Yw,XW] at h2;exact⟨rfl,h2.1,by omega,by omega,by omega⟩
theorem Rw {f:Fo}(h1:f.one=true)(hw:f.wf false none=true)(he:Np f=0):CY f.flat=0:=by
 unfold CY;rw[Tb h1 hw];exact he
theorem Jr:∀(f:Fo) (m:Bool) (last:Option Au) (b:Bool),f.wf m last=true→f.flat.any Hz=false→f.flat.any EW=false→f.flat.length≤200→f.dep≤8→(f.txt b).length≤4000→∀y∈f.vals,CY y=0
 | .nil,m,last,b,hw,h1,h2,h3,h4,h5=>λy hy=>by simp[Fo.vals] at hy
 | .cell k c r,m,last,b,hw,h1,h2,h3,h4,h5=>λy hy=>by
  simp only[Fo.wf,Ya,Yk] at hw;obtain⟨⟨⟨w1,w2⟩,w3⟩,w4⟩:=hw;simp only[Fo.flat,List.any_append,List.any_cons,Yw] at h1 h2;simp only[Fo.flat,Fo.dep,Fo.txt,Yd,XZ] at h3 h4 h5;simp only[Fo.vals,YC] at hy;rcases hy with rfl | hy
  ·have hf:(Fo.cell none c .nil).flat=[c]:=by simp[Fo.flat,Bv]
   rw[← hf];refine Rw rfl (LF w2 w3) (Rx ?_ ?_ ?_ ?_ ?_)
   ·rw[hf];simp[h1.2.1]
   ·rw[hf];simp[h2.2.1]
   ·rw[hf];simp
   ·simp[Fo.dep]
   ·simp[Fo.txt,Gt,MC];omega
  ·exact Jr r m k false w4 h1.2.2 h2.2.2 (by omega) (by omega) (by omega) y hy
 | .node k c kids r,m,last,b,hw,h1,h2,h3,h4,h5=>λy hy=>by
  simp only[Fo.wf,Ya,XU] at hw;obtain⟨⟨⟨⟨⟨w1,w2⟩,w3⟩,w5⟩,w6⟩,w4⟩:=hw;simp only[Fo.flat,List.any_append,List.any_cons,Yw] at h1 h2;simp only[Fo.flat,Fo.dep,Fo.txt,Yd,XZ] at h3 h4 h5;simp only[Fo.vals,YC] at hy;rcases hy with rfl | hy
  ·have hf:(Fo.node none c kids .nil).flat=c::kids.flat:=by simp[Fo.flat,Bv]
   rw[← hf];refine Rw rfl (LE w2 w3 w5 w6) (Rx ?_ ?_ ?_ ?_ ?_)
   ·rw[hf];simp only[List.any_cons,h1.2.1,h1.2.2.1];rfl
   ·rw[hf];simp only[List.any_cons,h2.2.1,h2.2.2.1];rfl
   ·rw[hf];simp only[XZ];omega
   ·simp only[Fo.dep];omega
   ·simp only[Fo.txt,Gt,MC,Yg,YG,YA];omega
  ·exact Jr r m k false w4 h1.2.2.2 h2.2.2.2 (by omega) (by omega) (by omega) y hy
theorem X7.vals {M:Nat}{v:List Aa}{c:Aa}{kf:Fo}(V:X7 M v c kf):∀y∈kf.vals,CY y=0:=by
 obtain⟨f,x1,x2,x3,x4,x5⟩:=V.f;obtain⟨h1,h2,h3,h4,h5⟩:=Uk x5;have hw:=V.vok.wf
 cases f with
 | nil=>cases x2
 | cell k c' r=>
  simp[Fo.hd] at x4;obtain⟨_,_,rfl,_⟩:=x4;intro y hy;simp[Fo.vals] at hy
 | node k c' kids r=>
  simp[Fo.hd] at x4;obtain⟨rfl,rfl,rfl,rfl⟩:=x4;simp only[Fo.flat,Bv,YG,YA,List.any_cons,Yw] at h1 h2;simp only[Fo.flat,Bv,YG,YA,XZ] at h3;simp only[Fo.dep] at h4;have hb:=LX c' (kids.txt true);simp only[Fo.txt,Gt,MC,Yg,YG,YA] at h5;exact Jr kids _ none true hw h1.2 h2.2 (by omega) (by omega) (by omega)
section
variable {M : Nat} {v x : List Aa} {key : Au}
end
theorem N7 {α:Type}[Inhabited α]{l:List α}{t:α→Bool}{body:Int→Option (Stp Int (Out Int Unit))}
  (hs:∀x:Int,0≤x→x<(l.length:Int)→body x=some (X1 x (bO (t (Ay l x)) x))) (he:∀x:Int,¬ x<(l.length:Int)→body x=some (.out (.go ()))) {F:Nat} (hF:l.length<F) :
  (Bh (Bh (BP body F 0) (BI λ_=>some (-1))) λr=>some (decide (0≤r)))=some (l.any t):=by
 have key:∀(suf pre:List α) (F:Nat),l=pre++suf→suf.length<F→∃o,BP body F (pre.length:Int)=some o∧(Bh (BI (λ_=>some (-1)) o) λr=>some (decide (0≤r)))=some (suf.any t):=by
  intro suf
  induction suf with
  | nil=>
   intro pre F e hF;obtain⟨n,rfl⟩:∃n,F=n+1:=⟨F-1,by omega⟩
   exact⟨.go (),Dj (he _ (by rw[e];simp)),rfl⟩
  | cons a r ih=>
   intro pre F e hF;simp only[XZ] at hF;obtain⟨n,rfl⟩:∃n,F=n+1:=⟨F-1,by omega⟩
   have h1:=hs (pre.length:Int) (by omega) (by rw[e];simp;omega);have h2:Ay l (pre.length:Int)=a:=by rw[e];exact Jd pre r a rfl
   rw[h2] at h1
   cases ht:t a with
   | true=>
    rw[ht] at h1;refine⟨.ret (pre.length:Int),Dj h1,?_⟩;rw[JY,Ba rfl,List.any_cons,ht,Ye (by omega)];rfl
   | false=>
    rw[ht] at h1;obtain⟨o,h3,h4⟩:=ih (pre++[a]) n (by rw[e];simp) (by omega);refine⟨o,IB h1 ?_,?_⟩
    ·rw[show((pre.length:Int)+1)=((pre++[a]).length:Int) from by simp];exact h3
    ·rw[h4,List.any_cons,ht];rfl
 obtain⟨o,h1,h2⟩:=key l [] F rfl hF;rw[show(0:Int)=(([]:List α).length:Int) from rfl,Ba h1];exact h2
def Nm (x:List Aa)(l:List (List Aa)):Bool:=l.any λy=>decide (y=x)
def T5 (s p:Au):Bool:=decide (p.length≤s.length)&&decide (s.take p.length=p)
def U4 (x:List Aa)(p:Au):Bool:=decide ((Ay x 0).fKind=4)&&T5 (Ay x 0).fStr p
def Ta (x:List Aa)(lo hi:Int):Bool:=decide ((Ay x 0).fKind=3)&&(decide (lo≤(Ay x 0).fInt)&&decide ((Ay x 0).fInt≤hi))
def WP (f:Ah)(x:List Aa):Bool:=
 bif decide (f.fOp=1) then true else bif decide (f.fOp=3) then Nm x f.fValues else bif decide (f.fOp=4) then !Nm x f.fValues else bif decide (f.fOp=5) then U4 x f.fText else bif decide (f.fOp=6) then Ta x f.fLow f.fHigh else false
def Vd (f:Ah)(v:List Aa):Bool:=bif !decide ((Hy v f.fPath).2=0) then decide (f.fOp=2) else WP f (Hy v f.fPath).1
def Qv (f:Ah)(v:List Aa):Bool:=decide (PS f=0)&&(decide (CY v=0)&&Vd f v)
def Vk (l:List Ah)(v:List Aa):Bool:=decide ((l.length:Int)≤32)&&(decide (CY v=0)&&l.all λf=>Qv f v)
section
variable {K : Nat} {v : List Aa}
theorem KT (key:Au):∀(g:Fo) (x:List Aa),g.find key=some x→x∈g.vals
 | .nil,x,h=>by cases h
 | .cell k c r,x,h=>by
  rw[Fo.find] at h
  cases hk:decide (DQ k=key) with
  | true=>rw[hk] at h;cases h;simp[Fo.vals]
  | false=>rw[hk] at h;simp[Fo.vals,KT key r x h]
 | .node k c kids r,x,h=>by
  rw[Fo.find] at h
  cases hk:decide (DQ k=key) with
  | true=>rw[hk] at h;cases h;simp[Fo.vals]
  | false=>rw[hk] at h;simp[Fo.vals,KT key r x h]
theorem Vx (hA:D0 K v){key:Au}(h0:(E8 v key).2=0):CY (E8 v key).1=0:=by
 unfold E8 at *;rcases DR hA with⟨h,on⟩ | ⟨c,kf,V⟩
 ·rw[on] at h0;exact absurd h0 h
 ·rw[V.on] at *
  cases h6:decide (c.fKind=6) with
  | false=>rw[h6] at h0;cases h0
  | true=>
   rw[h6] at h0
   cases hf:kf.find key with
   | none=>rw[hf] at h0;cases h0
   | some x=>exact V.vals x (KT key kf x hf)
theorem Pr:∀(ks:List Au) {out:List Aa},D0 K out→CY out=0→(I7 ks out).2=0→CY (I7 ks out).1=0
 | [],out,_,h,_=>h
 | k::ks,out,hA,h,h0=>by
  rw[I7] at *
  cases hk:decide ((E8 out k).2=0) with
  | false=>
   rw[hk] at h0;exact absurd h0 (of_decide_eq_false hk)
  | true=>
   rw[hk] at h0;exact Pr ks (LT hA k) (Vx hA (Yq hk)) h0
theorem Pp (hA:D0 K v){path:List Au}(h0:(Hy v path).2=0):CY (Hy v path).1=0:=by
 unfold Hy at *
 cases hv:decide (CY v=0) with
 | false=>rw[hv] at h0;exact absurd h0 (of_decide_eq_false hv)
 | true=>rw[hv] at h0;exact Pr path hA (Yq hv) h0
theorem Va {c:Aa}(hp:pl c=true)(hk:c.fKind=3∨c.fKind=4):c.fN=0:=by
 unfold pl at hp;rcases hk with hk | hk<;>(rw[hk] at hp;simp at hp;omega)
theorem P2 {c:Aa}{kf:Fo}(V:X7 K v c kf)(hk:c.fKind=3∨c.fKind=4):v=[c]:=by
 have h1:=Va V.vok.pl hk;have h2:=V.vok.n;have h3:kf = .nil:=by
  cases kf with
  | nil=>rfl
  | cell k c r=>simp[Fo.cnt] at h2;omega
  | node k c kids r=>simp[Fo.cnt] at h2;omega
 rw[V.e,h3];rfl
theorem Ot (s p:Au):Dk s p=some (T5 s p):=by
 unfold Dk G9 T5;have e:decide ((p.length:Int)≤(s.length:Int))=decide (p.length≤s.length):=by rw[Ym];simp
 rw[e]
 cases h:decide (p.length≤s.length) with
 | false=>rfl
 | true=>rw[CA (by rw[Wn (by omega) (by have:=Yq h;omega)];rfl),Ba rfl];rfl
theorem QE (s p:Au):GO s p=some (T5 s p):=by
 unfold GO T5;have e:decide ((p.length:Int)≤(s.length:Int))=decide (p.length≤s.length):=by rw[Ym];simp
 rw[e]
 cases h:decide (p.length≤s.length) with
 | false=>rfl
 | true=>rw[CA (by rw[Wn (by omega) (by have:=Yq h;omega)];rfl)];rfl
theorem QC (hA:D0 K v)(h:CY v=0)(p:Au):If v p=some (U4 v p):=by
 rcases DR hA with⟨h',_⟩ | ⟨c,kf,V⟩
 ·exact absurd h h'
 ·have hl:0<v.length:=by rw[V.e];simp
  unfold If U4;rw[Ot,B0 (by omega) (by omega),IK,CS]
theorem O0 (hA:D0 K v)(h:CY v=0)(p:Au):HA v p=some (U4 v p):=by
 rcases DR hA with⟨h',_⟩ | ⟨c,kf,V⟩
 ·exact absurd h h'
 ·have hat:Ay v 0=c:=by rw[V.e];rfl
  unfold HA U4;rw[QE,CS,hat];rw[O6]
  cases hk:decide (c.fKind=4) with
  | false=>
   rw[Yt,Ys];refine CA ?_
   cases h1:decide ((v.length:Int)=1) with
   | false=>rfl
   | true=>rw[TW (by omega) (by have:=Yq h1;omega)];rfl
  | true=>
   have:=P2 V (.inr (Yq hk));rw[this];rfl
theorem Q5 (hA:D0 K v)(h:CY v=0)(lo hi:Int):Ic v lo hi=some (Ta v lo hi):=by
 rcases DR hA with⟨h',_⟩ | ⟨c,kf,V⟩
 ·exact absurd h h'
 ·have hl:0<v.length:=by rw[V.e];simp
  unfold Ic Ta;rw[B0 (by omega) (by omega)]
theorem Oz (hA:D0 K v)(h:CY v=0)(lo hi:Int):Ei v lo hi=some (Ta v lo hi):=by
 rcases DR hA with⟨h',_⟩ | ⟨c,kf,V⟩
 ·exact absurd h h'
 ·have hat:Ay v 0=c:=by rw[V.e];rfl
  unfold Ei Ta;rw[hat]
  cases hk:decide (c.fKind=3) with
  | false=>
   rw[Yt,Ys];refine CA ?_
   cases h1:decide ((v.length:Int)=1) with
   | false=>rfl
   | true=>rw[TW (by omega) (by have:=Yq h1;omega)];rfl
  | true=>
   have:=P2 V (.inl (Yq hk));rw[this];rfl
theorem NB {x:List Aa}{l:List (List Aa)}{F:Nat}(hl:l.length≤1000)(hF:K+1000<F)(hK:K≤1000000)(h:∀y∈l,D0 K y):Ig F l x=some (Nm x l):=by
 have:Uw F l x=some (Nm x l):=by
  unfold Uw Vs;refine N7 (λi h0 hi=>?_) (λi hi=>by unfold IZ;rw[AM (XY hi)]) (by omega);have hm:=h _ (J3 h0 hi);have hv:=hm.hv;unfold IZ LV;rw[AZ (Ye hi),B0 h0 hi,Tg (by omega) (by omega),Ba rfl,Ba rfl,AU (by omega) (by omega)];exact IJ
 unfold Ig;rw[this,Ba rfl]
theorem L4 {x:List Aa}{l:List (List Aa)}{F:Nat}(hx:D0 K x)(hl:l.length≤1000)(hF:K+1000<F)(hK:K≤1000000):II F x l=some (Nm x l):=by
 have hv:=hx.hv;unfold II;rw[Ba (DZ (t:=λy=>bO (decide (y=x)) true) (l:=l) (λi h0 hi=>?_) (λi hi=>by unfold En;rw[AM (XY hi)]) (by omega)),Ib]
 ·unfold EO;rw[JZ];unfold Nm
  cases List.any l _<;>rfl
 ·unfold En;have e:decide (x=Ay l i)=decide (Ay l i=x):=by rw[Ym];simp[eq_comm]
  rw[AZ (Ye hi),B0 h0 hi,Ra (by omega) (by omega),Ba rfl,AU (by omega) (by omega),e];exact IJ
variable {f : Ah}
theorem Ue (hf:FA K f)(hA:D0 K v){F:Nat}(hF:4*K+2000<F):L0 F f v=some (Vd f v):=by
 have hp:=hf.path;have hK:=hf.K2;have hl:=hf.vals;unfold L0 Vd;rw[Tj hA hK (by omega) (by omega) (by omega),Ba rfl]
 cases he:decide ((Hy v f.fPath).2=0) with
 | false=>rfl
 | true=>
  have hok:=Pp hA (Yq he);have hck:=Pq hA f.fPath;rw[AM (by rfl)];show _=some (WP f _);unfold WP
  cases h1:decide (f.fOp=1) with
  | true=>rfl
  | false=>
   rw[AM (by rfl),Yb]
   cases h3:decide (f.fOp=3) with
   | true=>
    rw[AZ (by rfl),Yg,NB (by omega) (by omega) hK hf.val,Ba rfl]
    cases Nm _ _<;>rfl
   | false=>
    rw[AM (by rfl),Yb]
    cases h4:decide (f.fOp=4) with
    | true=>
     rw[AZ (by rfl),Yg,NB (by omega) (by omega) hK hf.val,Ba rfl]
     cases Nm _ _<;>rfl
    | false=>
     rw[AM (by rfl),Yb]
     cases h5:decide (f.fOp=5) with
     | true=>rw[AZ (by rfl),Yg,QC hck hok,Ba rfl]
     | false=>
      rw[AM (by rfl),Yb]
      cases h6:decide (f.fOp=6) with
      | true=>rw[AZ (by rfl),Yg,Q5 hck hok,Ba rfl]
      | false=>rfl
theorem Rs (hf:FA K f)(hA:D0 K v){F:Nat}(hF:4*K+2000<F):DK F f v=some (Qv f v):=by
 have hK:=hf.K2;unfold DK Qv;rw[NA hf (by omega),Gd hA hK (by omega),Ue hf hA hF,CA (by rfl),IK,O6,CS,CS,CS]
theorem V4 (h:PS f=0):1≤f.fOp∧f.fOp≤6:=by
 unfold PS at h
 cases h1:decide (4<(f.fPath.length:Int)) with
 | true=>rw[h1] at h;cases h
 | false=>
  rw[h1,Yb] at h
  cases h2:f.fPath.findSome? λs=>eO (RO s) with
  | some e=>
   rw[h2] at h;have:e=0:=h;subst this;obtain⟨s,_,h3⟩:=List.exists_of_findSome?_eq_some h2;unfold eO at h3
   cases h4:decide (RO s=0) with
   | true=>rw[h4] at h3;cases h3
   | false=>rw[h4] at h3;exact absurd (Option.some.inj h3) (of_decide_eq_false h4)
  | none=>
   rw[h2] at h
   cases h3:(decide (f.fOp<1)||decide (6<f.fOp)) with
   | true=>rw[h3] at h;cases h
   | false=>simp only[Yw,XW] at h3;omega
theorem NC (hf:FA K f)(hA:D0 K v){F:Nat}(hF:4*K+2000<F):Cv F f v=some (Qv f v):=by
 have hp:=hf.path;have hK:=hf.K2;have hl:=hf.vals;unfold Cv Qv;rw[L3 hf (by omega),E5 hA hK (by omega),CA (by rfl),IK,CS,CS]
 cases hc:decide (PS f=0) with
 | false=>rfl
 | true=>
  cases hv:decide (CY v=0) with
  | false=>rfl
  | true=>
   rw[AM (by rfl),Tx hA hK (by omega) (by omega) (by omega),Ba rfl,Yl,Yl];have hop:=V4 (Yq hc);unfold Vd
   cases he:decide ((Hy v f.fPath).2=0) with
   | false=>
    cases h2:decide (f.fOp=2)<;>rfl
   | true=>
    have hok:=Pp hA (Yq he);have hck:=Pq hA f.fPath
    cases h2:decide (f.fOp=2) with
    | true=>
     have h2':=Yq h2;unfold WP;rw[XY (show ¬ f.fOp=1 by omega),XY (show ¬ f.fOp=3 by omega),XY (show ¬ f.fOp=4 by omega),XY (show ¬ f.fOp=5 by omega),XY (show ¬ f.fOp=6 by omega)];rfl
    | false=>
     rw[AM (by rfl),AM (by rfl)];show _=some (WP f _);unfold WP
     cases h3:decide (f.fOp=3) with
     | true=>
      have h3':=Yq h3;rw[Yx,AZ (by rfl),L4 hck (by omega) (by omega) hK,Ba rfl,XY (show ¬ f.fOp=1 by omega)];simp only[Yb,Yg]
      cases Nm _ _<;>rfl
     | false=>
      rw[Yo]
      cases h4:decide (f.fOp=4) with
      | true=>
       have h4':=Yq h4;rw[AZ (by rfl),L4 hck (by omega) (by omega) hK,Ba rfl,XY (show ¬ f.fOp=1 by omega)];simp only[Yb,Yg]
       cases Nm _ _<;>rfl
      | false=>
       rw[AM (by rfl)]
       cases h5:decide (f.fOp=5) with
       | true=>
        have h5':=Yq h5;rw[AZ (by rfl),O0 hck hok,Ba rfl,XY (show ¬ f.fOp=1 by omega)];rfl
       | false=>
        rw[AM (by rfl),Oz hck hok,IK,CS]
        cases h1:decide (f.fOp=1) with
        | true=>rfl
        | false=>
         simp only[XW] at h1 h2 h3 h4 h5;rw[Ye (show f.fOp=6 by omega)];rfl
theorem Sv {l:List Ah}(hf:∀f∈l,FA K f)(hl:l.length≤1000)(hA:D0 K v)(hK:K≤1000000){F:Nat}(hF:4*K+2000<F):Da F l v=some (Vk l v):=by
 have h1:Xs F l v=some (l.any λf=>!Qv f v):=by
  unfold Xs X6;refine N7 (λi h0 hi=>?_) (λi hi=>by unfold KR;rw[AM (XY hi)]) (by omega);unfold KR LU;rw[AZ (Ye hi),B0 h0 hi,Rs (hf _ (J3 h0 hi)) hA hF,Ba rfl,Ba rfl,AU (by omega) (by omega)];exact IJ
 unfold Da Vk;rw[Gd hA hK (by omega),h1]
 cases decide ((l.length:Int)≤32) with
 | false=>rfl
 | true=>
  rw[AZ (by rfl),Ba rfl]
  cases decide (CY v=0) with
  | false=>rfl
  | true=>
   rw[AZ (by rfl),Ba rfl];unfold E9;simp[List.all_eq_not_any_not]
theorem PI {l:List Ah}(hf:∀f∈l,FA K f)(hl:l.length≤1000)(hA:D0 K v)(hK:K≤1000000){F:Nat}(hF:4*K+2000<F):Cw F l v=some (Vk l v):=by
 unfold Cw Vk;rw[E5 hA hK (by omega),IK,CS];have e:decide (32<(l.length:Int)) = !decide ((l.length:Int)≤32):=by rw[Ym,Yk,XU,XW];omega
 rw[e]
 cases decide ((l.length:Int)≤32) with
 | false=>rfl
 | true=>
  cases decide (CY v=0) with
  | false=>rfl
  | true=>
   rw[AM (by rfl),Ba (DZ (t:=λf=>bO (!Qv f v) false) (l:=l) (λi h0 hi=>?_) (λi hi=>by unfold Em;rw[AM (XY hi)]) (by omega)),Ib]
   ·unfold EL;rw[JZ,Yl,Yl,List.all_eq_not_any_not]
    cases List.any l _<;>rfl
   ·unfold Em;rw[AZ (Ye hi),B0 h0 hi,NC (hf _ (J3 h0 hi)) hA hF,Ba rfl,AU (by omega) (by omega)];exact IJ
end
section
variable {K : Nat} {a b : Ah}
end
def VJ (v:List Aa):Bool:=!decide (300<(v.length:Int))&&v.all λc=>!decide (5000<(c.fStr.length:Int))
def VV (f:Ah):Bool:=!(decide (10<(f.fPath.length:Int))||(decide (20<(f.fValues.length:Int))||decide (1000<(f.fText.length:Int))))&&(f.fPath.all (λs=>!decide (1000<(s.length:Int)))&&f.fValues.all VJ)
def WV (l:List Ah):Bool:=!decide (40<(l.length:Int))&&l.all VV
theorem R0 {α:Type}{p:α→Bool}(l:List α):(bif l.any (λa=>!p a) then false else true)=l.all p:=by
 rw[List.all_eq_not_any_not];cases l.any _<;>rfl
theorem R1 {α:Type}{p:α→Bool}(l:List α):(l.all λa=>!p a) = !l.any p:=by
 induction l with
 | nil=>rfl
 | cons a r ih=>rw[List.all_cons,List.any_cons,ih,Bool.not_or]
theorem H9 {F:Nat}{v:List Aa}(hF:300<F):CD F v=some (VJ v):=by
 unfold CD VJ
 cases h:decide (300<(v.length:Int)) with
 | true=>rfl
 | false=>
  simp only[XW] at h;rw[AM (by rfl),Ba (DZ (t:=λc:Aa=>bO (decide (5000<(c.fStr.length:Int))) false) (l:=v) (λi h0 hi=>?_) (λi hi=>by unfold CM;rw[AM (XY hi)]) (by omega)),Ib]
  ·unfold Dl;rw[JZ,Yr,Yl,R1]
   cases List.any v _<;>rfl
  ·unfold CM;rw[AZ (Ye hi),B0 h0 hi,AU (by omega) (by omega)];exact IJ
theorem L2 {F:Nat}{f:Ah}(hF:300<F):Ds F f=some (VV f):=by
 unfold Ds VV
 cases h:(decide (10<(f.fPath.length:Int))||(decide (20<(f.fValues.length:Int))||decide (1000<(f.fText.length:Int)))) with
 | true=>rfl
 | false=>
  simp only[Yw,XW] at h;rw[AM (by rfl),Yr,Yl,Ba (DZ (t:=λs:Au=>bO (decide (1000<(s.length:Int))) false) (l:=f.fPath) (λi h0 hi=>?_) (λi hi=>by unfold El;rw[AM (XY hi)]) (by omega)),Ib]
  ·have h2:Ej F f=some (f.fValues.all VJ):=by
    unfold Ej;rw[Ba (DZ (t:=λv=>bO (!VJ v) false) (l:=f.fValues) (λi h0 hi=>?_) (λi hi=>by unfold Ek;rw[AM (XY hi)]) (by omega)),Ib]
    ·unfold EK;rw[JZ,R0]
    ·unfold Ek;rw[AZ (Ye hi),B0 h0 hi,H9 hF,Ba rfl,AU (by omega) (by omega)];exact IJ
   rw[h2,R1]
   cases List.any f.fPath _<;>rfl
  ·unfold El;rw[AZ (Ye hi),B0 h0 hi,AU (by omega) (by omega)];exact IJ
theorem Sq {F:Nat}{l:List Ah}(hF:300<F):GX F l=some (WV l):=by
 unfold GX WV
 cases h:decide (40<(l.length:Int)) with
 | true=>rfl
 | false=>
  simp only[XW] at h;rw[AM (by rfl),Yr,Yl,Ba (DZ (t:=λf=>bO (!VV f) false) (l:=l) (λi h0 hi=>?_) (λi hi=>by unfold Gk;rw[AM (XY hi)]) (by omega)),Ib]
  ·unfold H0;rw[JZ,R0]
  ·unfold Gk;rw[AZ (Ye hi),B0 h0 hi,L2 hF,Ba rfl,AU (by omega) (by omega)];exact IJ
def WZ (y:Ah):Bool:=(λys:(List Au)=>ys.all Vf&&decide (ys.length≤9223372036854775807)) y.fPath&&(BF .i64) y.fOp&&(λys:(List (List Aa))=>ys.all (λys:(List Aa)=>ys.all KJ&&decide (ys.length≤9223372036854775807))&&decide (ys.length≤9223372036854775807)) y.fValues&&Vf y.fText&&(BF .i64) y.fLow&&(BF .i64) y.fHigh
theorem D0.sm {v:List Aa}(hs:VJ v=true)(hc:v.all KJ=true):D0 5000 v:=by
 unfold VJ at hs;simp only[Ya,Yk,XW,Y3] at hs hc;refine⟨by decide,by omega,λc h=>?_⟩;have h1:=hs.2 c h;have h2:=hc c h;unfold KJ at h2;simp only[Ya] at h2;exact⟨by omega,h2.1.1.2,(GL h2.2).2⟩
theorem FA.sm {f:Ah}(hs:VV f=true)(ho:WZ f=true):FA 5000 f:=by
 unfold VV at hs;unfold WZ at ho;simp only[Ya,Yk,Yw,XW,Y3] at hs ho;obtain⟨⟨a1,a2,a3⟩,a4,a5⟩:=hs;refine⟨by omega,λs h=>?_,by omega,λv h=>D0.sm (a5 v h) ?_,by omega,by decide,by decide⟩
 ·have:=a4 s h;omega
 ·have:=(ho.1.1.1.2.1 v h).1;exact List.all_eq_true.2 this
theorem FAs.sm {l:List Ah}(hs:WV l=true)(ho:l.all WZ=true):(∀f∈l,FA 5000 f)∧l.length≤40:=by
 unfold WV at hs;simp only[Ya,Yk,XW,Y3] at hs ho;exact⟨λf h=>FA.sm (hs.2 f h) (ho f h),by omega⟩
theorem U6:Gy 40000=some true:=by decide +kernel
end Go.Proofs.YtghdglcmblpbeaaGreatDoor
namespace Go.Proofs.YtghdglcmblpbeaaGreatDoor
open Go
set_option linter.unusedVariables false
set_option linter.unusedSimpArgs false
theorem Om {f:Ah}{l:List Ah}{v:List Aa}(hf:WZ f=true)(hl:l.all WZ=true)(hv:v.all KJ=true):ID 40000 f l v=some true:=by
 unfold ID;rw[L2 (by omega),Sq (by omega),H9 (by omega),U6,CA (by rfl),IK,O6,CS,CS,CS]
 cases h1:VV f with
 | false=>rfl
 | true=>
  cases h2:WV l with
  | false=>rfl
  | true=>
   cases h3:VJ v with
   | false=>rfl
   | true=>
    have fa:=FA.sm h1 hf;obtain⟨fs,ln⟩:=FAs.sm h2 hl;have va:=D0.sm h3 hv;rw[AM (by rfl),NA fa (by omega),L3 fa (by omega),Rs fa va (by omega),NC fa va (by omega),Sv fs (by omega) va (by decide) (by omega),PI fs (by omega) va (by decide) (by omega)];simp only[Option.isSome_some,Or,CA,CS,decide_true,BEq.rfl,Bool.and_self]
end Go.Proofs.YtghdglcmblpbeaaGreatDoor
namespace Go.Proofs.YtghdglcmblpbeaaGreatDoor.lawFilterMatches
open Go
theorem XN:XR:=λ_ _ _ h1 h2 h3=>⟨40000,Om h1 (Bool.and_eq_true_iff.1 h2).1 (Bool.and_eq_true_iff.1 h3).1⟩
end Go.Proofs.YtghdglcmblpbeaaGreatDoor.lawFilterMatches
