/-
  Texts of the proof, put together: WFb, PFc, WFc, PFd, WFd, OkFilterJoins, LvA, LvB, LvC, LvD, LvE, LvF, LvG, LvH, LvI, LvJ, LvK, LvL, LvM, LvN, LvO, LvP, LcA, LcB, LcC, LcD, LcE, LcF, LcG, LfA, LfB, LgA, LfC, LgB, LgC, LgD, LwFiJoins.
-/
import Derived.Test.YtghdglcmblpbeaaGreatDoorFJ3
import GoSem.ClaimData
namespace Go.Proofs.YtghdglcmblpbeaaGreatDoor.Q
open Go Go.RowKit
set_option linter.unusedVariables false
set_option linter.unusedSimpArgs false
set_option maxRecDepth 100000
set_option maxHeartbeats 4000000
@[reducible] def Bn (x:(List (List Aa))):List Rp:=[AE 1 (A3 Ae x)]
theorem HQ (x:(List (List Aa))):(Bn x).length=1:=rfl
@[reducible] def CF (x:(List Int)):Rp:=AE 1 (A3 BO x)
theorem No (Z:Fz):(CF ([]:(List Int))).p Z (.slice none 0 0):=MC.nil _ _
theorem M6 (parts:List (Nat×Value)):Tryz.prog.built 26 parts=Instr.fill (λi=>(#[(0,1),(1,1),(2,1),(3,1),(4,1),(5,1)]:Array (Nat×Nat))[i]?) #[((.slice none 0 0)),(.int .i64 0),((.slice none 0 0)),(.string ⟨#[]⟩),(.int .i64 0),(.int .i64 0)] parts:=by kernel_rfl
theorem NY {n:Nat}{c:Cx}{l:Fr}{H:List Ent}{d:Option Nat}{ty:TypeId}{pos:String}{af:Array Edge}{g:Option (Nat×Bool)}:Bm Tryz.prog n c l H { dst:=d,op:=.build 26 #[],type:=ty,pos:=pos,after:=af,guard:=g } (Bt [rv (.slice none 0 0),Ai 0,rv (.slice none 0 0),rS ([]:Ar),Ai 0,Ai 0]):=λa w Z ha _=>by
  have hb:Tryz.prog.built 26 []=some #[((.slice none 0 0)),(.int .i64 0),((.slice none 0 0)),(.string ⟨#[]⟩),(.int .i64 0),(.int .i64 0)]:=by
    rw[M6];simp[Instr.fill,Value.cells]
  refine⟨.agg #[((.slice none 0 0)),(.int .i64 0),((.slice none 0 0)),(.string ⟨#[]⟩),(.int .i64 0),(.int .i64 0)],⟨[((.slice none 0 0)),(.int .i64 0),((.slice none 0 0)),(.string ⟨#[]⟩),(.int .i64 0),(.int .i64 0)],rfl,rfl,rfl,rfl,rfl,rfl,rfl,trivial⟩,?_⟩;have:=run_build w 26 #[] _ (by simpa using hb);simp[execOp,this]
theorem NR (F:Nat)(ls:(List (List (List Aa))))(r:(List (List Aa)))(h:KG F ls=some r):Fn Tryz.prog GE 48 [AE 1 (A3 Bn ls)] [] (λR H=>R=AE 1 (A3 Ae r)∧H=[]):=by
 refine enter (n:=36) Tryz.func48 rfl Tryz.ntmps48 rfl (λw Z=>?_);unfold KG at h;refine Ah (wa rfl (AW (wa rfl (Al (An (Ah (wm rfl (wv (AI (ys:=ls) (enc:=Bn) Qc rfl) (wv (r:=Ai 0) (A5 rfl) (Al (AA (ob h λhq hr hs=>Bg (S:=Nat×(Int×Int)×(Unit)) (V:=(Int)×(Unit)) 0 (λσ=>BW (λσ=>EJ ls σ.1 σ.2) σ.1 σ.2.1=some hq) (λσ=>[(0,AE 1 (A3 Bn ls)),(3,Ai σ.2.1.1),(9,AE 1 (A3 Bn ls)),(10,Ai (ls.length:Int)),(11,Ai σ.2.1.2)]) (λσ=>[]) (λσ=>σ.1) (F,(0,0),()) hr (A4.c5 rfl rfl rfl rfl rfl A4.nil) sN (λσ=>EH F ls σ.1=some r) (λσ=>[(0,AE 1 (A3 Bn ls)),(3,Ai σ.1)]) (λσ=>[]) ?_ ?_))))))))))))
 ·rintro⟨hY,⟨hb,ha⟩,⟨⟩⟩ ht;refine B2 (l':=[(0,AE 1 (A3 Bn ls)),(3,Ai hb),(9,AE 1 (A3 Bn ls)),(10,Ai (ls.length:Int)),(11,Ai ha)]) (H':=[]) rfl rfl ?_;obtain⟨hu,rfl,hw,hg,hn⟩:=Cf ht;replace hg:EJ ls hb ha=some hw:=hg;unfold EJ at hg;refine Ah (wv (Cr rfl rfl) (Al (An (cz hg rfl (λc46 hx=>?_) (λc46 hy=>?_)))))
  ·refine Av (AG (An (AA (Ah (ck hx λhz h0=>wv (AT (enc:=Bn) (ys:=ls) Qc CD rfl rfl hz) (wv (AL CR rfl rfl) (wa rfl (AW (wm rfl (wm rfl (wv (AI (ys:=Ax ls ha) (enc:=Ae) BN rfl) (ck h0 λh1 h2=>wv (Bj rfl rfl h1) (wa rfl (AW (wm rfl (wv (Cr rfl rfl) (Al (ck h2 λh3 h4=>Gf (b:=decide ((hb+((Ax ls ha).length:Int))<0)) rfl (Bool.not_eq_eq_eq_not.1 h3) (Av (A8 ?_))))))))))))))))))));refine AG (Ak (ck h4 λh5 h6=>wv (Bj rfl rfl h5) (wm rfl (Aj ?_))));have h7:=Bb h6 hn;exact As (At (hu,(hb+((Ax ls ha).length:Int),ha+1),()) ⟨h7,Vv _⟩ (A4.c5 rfl rfl rfl rfl rfl A4.nil) sN)
  ·refine Bq (Ay ?_);have h8:=BD hy hn hs;exact Ay (AS (At (hb,()) h8 (A4.c rfl (A4.c rfl A4.nil)) sN))
 ·rintro⟨hh,⟨⟩⟩ hi;refine Cj (l':=[(0,AE 1 (A3 Bn ls)),(3,Ai hh)]) (H':=[]) rfl rfl ?_;replace hi:EH F ls hh=some r:=hi;unfold EH at hi;refine AV (AG (Ah (wm rfl (ck hi λh9 hA=>ck hA λhB hC=>Ct (rs:=[rv (.slice none 0 0),Ai hh]) (Hin:=[]) (Hr:=[]) Tryz.call86 rfl (Vo _) (T5 Ae hh h9 hB) rfl ?_))));rintro _ _ ⟨hD,rfl,rfl⟩;refine wa rfl (Al (An (Ah (wm rfl (wv (AI (ys:=ls) (enc:=Bn) Qc rfl) (wv (r:=Ai 0) (A5 rfl) (Al (AA (ob hC λhE hG hH=>Bg (S:=Nat×((List (List Aa))×Int)×(Value)) (V:=((List (List Aa)))×(Value)) 2 (λσ=>BW (λσ=>EI ls σ.1 σ.2) σ.1 σ.2.1=some hE) (λσ=>[(6,rv σ.2.2),(25,AE 1 (A3 Bn ls)),(26,Ai (ls.length:Int)),(27,Ai σ.2.1.2)]) (λσ=>[.row σ.2.2 28 1 (A3 Ae σ.2.1.1)]) (λσ=>σ.1) (F,(([]:List (List Aa)),0),hD) hG (A4.c rfl (A4.c rfl (A4.c rfl (A4.c rfl A4.nil)))) (sC sN) (λσ=>EG σ.1=some r) (λσ=>[(6,rv σ.2)]) (λσ=>[.row σ.2 28 1 (A3 Ae σ.1)]) ?_ ?_)))))))))
  ·rintro⟨hZ,⟨he,hf⟩,hl⟩ hI;refine B2 (l':=[(6,rv hl),(25,AE 1 (A3 Bn ls)),(26,Ai (ls.length:Int)),(27,Ai hf)]) (H':=[.row hl 28 1 (A3 Ae he)]) rfl rfl ?_;obtain⟨hJ,rfl,hK,hj,ho⟩:=Cf hI;replace hj:EI ls he hf=some hK:=hj;unfold EI at hj;refine Ah (wv (Cr rfl rfl) (Al (An (cz hj rfl (λhL hN=>?_) (λhL hO=>?_)))))
   ·refine Av (AG (An (AA (Ah (ck hN λhP hQ=>wv (AT (enc:=Bn) (ys:=ls) Qc CD rfl rfl hP) (wv (AL CR rfl rfl) (wa rfl (Al (Ak (wm rfl (wm rfl (ck hQ λhR hS=>Exists.elim Ob λinf hinf=>BJ (xs:=he) (ys:=Ax ls hf) (enc:=Ae) (i:=0) BN hinf.1 hinf.2.1 hinf.2.2.1 hinf.2.2.2 rfl rfl rfl rfl rfl (Jc.z rfl rfl) B6 Ef hR rfl (λhT=>?_)))))))))))));refine wa rfl (Aj (A8 (AG (Ak (ck hS λhU hV=>wv (Bj rfl rfl hU) (wm rfl (Aj ?_)))))));have hW:=Bb hV ho;exact As (At (hJ,(he++(Ax ls hf),hf+1),hT) ⟨hW,Vv _⟩ (A4.c rfl (A4.c rfl (A4.c rfl (A4.c rfl A4.nil)))) (sC sN))
   ·refine Bq (Ay ?_);have hX:=BD hO ho hH;exact Ay (AS (At (he,hl) hX (A4.c rfl A4.nil) (sC sN)))
  ·rintro⟨hm,hp⟩ hk;refine Cj (l':=[(6,rv hp)]) (H':=[.row hp 28 1 (A3 Ae hm)]) rfl rfl ?_;replace hk:EG hm=some r:=hk;unfold EG at hk;refine AV (AG (Ah (wm rfl (wa rfl (Al (Aq (WK.freeze (i:=0) rfl (WK.up (d:=2) (r:=AE 1 (A3 Ae hm)) rfl (Up.fact (i:=0) rfl) ?_))))))));obtain rfl:=Am hk;exact Ap (Bw Tryz.results48 (A9 rfl)) (sS sN) ⟨rfl,rfl⟩
theorem SB (F:Nat)(l:(List Ar))(r:(List Aa)×Int)(h:Rk F l=some r):Fn Tryz.prog GE 44 [AE 1 (A3 eS l)] [] (λR H=>R=CV [AE 4 (A3 Ab r.1),Ai r.2]∧H=[]):=by
 refine enter (n:=32) Tryz.func44 rfl Tryz.ntmps44 rfl (λw Z=>?_);unfold Rk at h;refine Ah (wa rfl (wa rfl (AW (wa rfl (Al (An (Ah (wm rfl (wv (AI (ys:=l) (enc:=eS) CQ rfl) (wv (r:=Ai 0) (A5 rfl) (Al (AA (WC.nilrow (e:=28) (sz:=1) (ob h λhl hm hj=>Bg (S:=Nat×((List (List Aa))×Int)×(Value)) (V:=((List (List Aa)))×(Value)) 0 (λσ=>BW (λσ=>IY F l σ.1 σ.2) σ.1 σ.2.1=some hl) (λσ=>[(4,rv σ.2.2),(9,AE 1 (A3 eS l)),(10,Ai (l.length:Int)),(11,Ai σ.2.1.2)]) (λσ=>[.row σ.2.2 28 1 (A3 Ae σ.2.1.1)]) (λσ=>σ.1) (F,(([]:List (List Aa)),0),(.slice none 0 0                            )) hm (A4.c rfl (A4.c rfl (A4.c rfl (A4.c rfl A4.nil)))) (sC sN) (λσ=>IX F σ.1=some r) (λσ=>[(4,rv σ.2)]) (λσ=>[.row σ.2 28 1 (A3 Ae σ.1)]) ?_ ?_))))))))))))))
 ·rintro⟨hC,⟨ha,he⟩,v37⟩ hn;refine B2 (l':=[(4,rv v37),(9,AE 1 (A3 eS l)),(10,Ai (l.length:Int)),(11,Ai he)]) (H':=[.row v37 28 1 (A3 Ae ha)]) rfl rfl ?_;obtain⟨ho,rfl,hp,hf,hi⟩:=Cf hn;replace hf:IY F l ha he=some hp:=hf;unfold IY at hf;refine Ah (wv (Cr rfl rfl) (Al (An (cz hf rfl (λhq hr=>?_) (λhq hs=>?_)))))
  ·refine Av (AG (An (AA (Ah (ck hr λht hu=>wv (AT (enc:=eS) (ys:=l) CQ CB rfl rfl ht) (wv (AL CO rfl rfl) (wa rfl (AW (wm rfl (ob hu λhb hw hx=>Cs Qm (K4 F (Ax l he) hb hw) rfl (wm rfl (wv (A7 rfl rfl) (wv (A7 rfl rfl) (wa rfl (wa rfl (Al (An (Ah (wm rfl (wv (Bf rfl rfl) (Al ?_)))))))))))))))))))));refine cz hx rfl (λhy hz=>?_) (λhy h0=>?_)
   ·refine Ah (wm rfl (wa rfl (wa rfl (Al (Aq (Ac (Ao (Ac (Ac (AN ?_))))))))));have h1:=Be hz hi hj;refine Ao (Ac (WK.up (d:=2) (r:=AE 4 (A3 Ab ([]:List Aa))) rfl (Up.le (DA.nil _)) ?_));obtain rfl:=Am h1;exact Ap (D9 Tryz.results44 (A9 rfl) (A9 rfl)) (sS sN) ⟨rfl,rfl⟩
   ·refine Av (AG (Ak (wm rfl (wm rfl (AO (ys:=([hb.1]:List (List Aa))) (enc:=Ae) (css:=[[AE 4 (A3 Ab hb.1)]]) (xs:=[.tmp 24]) BN BY LW rfl rfl rfl ⟨DW.one rfl (Up.refl _),trivial⟩ rfl B6 rfl rfl rfl (λhD=>?_))))));refine ck h0 λh2 h3=>Exists.elim Ob λinf hinf=>BJ (xs:=ha) (ys:=([hb.1]:List (List Aa))) (enc:=Ae) (i:=1) BN hinf.1 hinf.2.1 hinf.2.2.1 hinf.2.2.2 rfl rfl rfl rfl rfl (Jc.w (i:=0) rfl rfl) B6 Ef h2 rfl (λh4=>?_);refine wa rfl (Aj (A8 (AG (Ak (ck h3 λh5 h6=>wv (Bj rfl rfl h5) (wm rfl (Aj ?_)))))));have h7:=Bb h6 hi;exact As (At (ho,(ha++([hb.1]:List (List Aa)),he+1),h4) ⟨h7,Vv _⟩ (A4.c rfl (A4.c rfl (A4.c rfl (A4.c rfl A4.nil)))) (sC (sS sN)))
  ·refine Bq (Ay ?_);have h8:=BD hs hi hj;exact Ay (AS (At (ha,v37) h8 (A4.c rfl A4.nil) (sC sN)))
 ·rintro⟨hg,hk⟩ hh;refine Cj (l':=[(4,rv hk)]) (H':=[.row hk 28 1 (A3 Ae hg)]) rfl rfl ?_;replace hh:IX F hg=some r:=hh;unfold IX at hh;refine AV (AG (Ah (wm rfl (WL.freeze (i:=0) rfl (WL.up (d:=28) (r:=AE 1 (A3 Ae hg)) rfl (Up.fact (i:=0) rfl) (ob hh λh9 hA hB=>Cs Tryz.call47 (Kb F hg h9 hA) rfl (wv (A7 rfl rfl) (wv (A7 rfl rfl) (wa rfl (wa rfl (Al (Aq ?_))))))))))));obtain rfl:=Am hB;exact Ap (D9 Tryz.results44 (A9 rfl) (A9 rfl)) (sS sN) ⟨rfl,rfl⟩
theorem N0 (F:Nat)(f:Af)(r:(List (List Aa))×Int)(h:Jv F f=some r):Fn Tryz.prog GE 46 [Bt (Ad f)] [] (λR H=>R=CV [AE 1 (A3 Ae r.1),Ai r.2]∧H=[]):=by
 refine enter (n:=57) Tryz.func46 rfl Tryz.ntmps46 rfl (λw Z=>?_);unfold Jv at h;refine Ah (By rfl rfl (λb1=>?_));refine wa rfl (wa rfl (Al (An (Ah (vF AM rfl BZ (vL 0 Cc rfl (Al (AA (An (Ah (wv (Bz rfl rfl) (wa rfl (Al (cz h rfl (λc2 h3=>?_) (λc2 h8=>?_)))))))))))))))
 ·refine Av (AG (De rfl c2 (Ah (vF AM rfl CD (vL 0 CR rfl (ob h3 λr4 e6 h5=>Cs Tryz.call47 (Kb F f.fValues r4 e6) rfl (wm rfl (wv (A7 rfl rfl) (wv (A7 rfl rfl) (wa rfl (wa rfl (AW (wm rfl (AO (ys:=([r4.1]:List (List Aa))) (enc:=Ae) (css:=[[AE 4 (A3 Ab r4.1)]]) (xs:=[.tmp 23]) BN BY LW rfl rfl rfl ⟨DW.one rfl (Up.refl _),trivial⟩ rfl B6 rfl rfl rfl (λb7=>?_)))))))))))))));refine wm rfl (wa rfl (wa rfl (Al (Aq (Ao (Ac (WK.freeze (i:=0) rfl (WK.up (d:=2) (r:=AE 1 (A3 Ae ([r4.1]:List (List Aa)))) rfl (Up.fact (i:=0) rfl) ?_))))))));obtain rfl:=Am h5;exact Ap (D9 Qh (A9 rfl) (A9 rfl)) (sS (sS sN)) ⟨rfl,rfl⟩
 ·refine Ak (wv (Bz rfl rfl) (wa rfl (Al (cz h8 rfl (λc9 hg=>?_) (λc9 hh=>?_)))))
  ·refine Ah (vF AM rfl CD (vL 0 CR rfl (ob hg λha hi hj=>Cs Tryz.call47 (Kb F f.fValues ha hi) rfl (wm rfl (wv (A7 rfl rfl) (wv (A7 rfl rfl) (wa rfl (wa rfl (AW (wm rfl (AO (ys:=([ha.1]:List (List Aa))) (enc:=Ae) (css:=[[AE 4 (A3 Ab ha.1)]]) (xs:=[.tmp 23]) BN BY LW rfl rfl rfl ⟨DW.one rfl (Up.refl _),trivial⟩ rfl B6 rfl rfl rfl (λhx=>?_))))))))))));refine wm rfl (wa rfl (wa rfl (Al (Aq (Ao (Ac (WK.freeze (i:=0) rfl (WK.up (d:=2) (r:=AE 1 (A3 Ae ([ha.1]:List (List Aa)))) rfl (Up.fact (i:=0) rfl) ?_))))))));obtain rfl:=Am hj;exact Ap (D9 Qh (A9 rfl) (A9 rfl)) (sS (sS sN)) ⟨rfl,rfl⟩
  ·refine Ah (wv (Bz rfl rfl) (wa rfl (Al (cz hh rfl (λhk hl=>?_) (λhk hm=>?_)))))
   ·refine Ah (vF AM rfl CB (vL 0 CO rfl (ob hl λhb hn ho=>Cs Qm (K4 F f.fText hb hn) rfl (wm rfl (wv (A7 rfl rfl) (wv (A7 rfl rfl) (wa rfl (wa rfl (AW (wm rfl (AO (ys:=([hb.1]:List (List Aa))) (enc:=Ae) (css:=[[AE 4 (A3 Ab hb.1)]]) (xs:=[.tmp 34]) BN BY LW rfl rfl rfl ⟨DW.one rfl (Up.refl _),trivial⟩ rfl B6 rfl rfl rfl (λhy=>?_))))))))))));refine wm rfl (wa rfl (wa rfl (Al (Aq (Ao (Ac (WK.freeze (i:=0) rfl (WK.up (d:=2) (r:=AE 1 (A3 Ae ([hb.1]:List (List Aa)))) rfl (Up.fact (i:=0) rfl) ?_))))))));obtain rfl:=Am ho;exact Ap (D9 Qh (A9 rfl) (A9 rfl)) (sS (sS sN)) ⟨rfl,rfl⟩
   ·refine Ah (wv (Bz rfl rfl) (wa rfl (Al (cz hm rfl (λhp hq=>?_) (λhp hr=>?_)))))
    ·refine Ah (vF AM rfl BH (vL 0 Cd rfl (ob hq λhe hs ht=>Cs Tryz.call85 (Qy F f.fLow he hs) rfl (wm rfl (wv (A7 rfl rfl) (wv (A7 rfl rfl) (wa rfl (wa rfl (AW (vF AM rfl BH (vL 0 Cd rfl (ob ht λhf hu hw=>Cs Tryz.call85 (Qy F f.fHigh hf hu) rfl (wm rfl (wv (A7 rfl rfl) (wv (A7 rfl rfl) (wa rfl (wa rfl (AW (wm rfl (wm rfl (AO (ys:=([he.1,hf.1]:List (List Aa))) (enc:=Ae) (css:=[[AE 4 (A3 Ab he.1)],[AE 4 (A3 Ab hf.1)]]) (xs:=[.tmp 51,.tmp 52]) BN BY LW rfl rfl rfl ⟨DW.one rfl (Up.refl _),DW.one rfl (Up.refl _),trivial⟩ rfl B6 rfl rfl rfl (λhz=>?_))))))))))))))))))))));refine wm rfl (wm rfl (wv (QQ Tryz.underlying33 rfl rfl) (wa rfl (wa rfl (Al (Aq (Ao (Ac (WK.freeze (i:=0) rfl (WK.up (d:=2) (r:=AE 1 (A3 Ae ([he.1,hf.1]:List (List Aa)))) rfl (Up.fact (i:=0) rfl) ?_))))))))));obtain rfl:=Am hw;exact Ap (D9 Qh (A9 rfl) (A9 rfl)) (sS (sS sN)) ⟨rfl,rfl⟩
    ·refine Av (A8 (AG (Ah (wa rfl (wa rfl (Al (Aq (WK.up (d:=2) (r:=AE 1 (A3 Ae ([]:List (List Aa)))) rfl (Up.le (DA.nil _)) ?_))))))));obtain rfl:=Am hr;exact Ap (D9 Qh (A9 rfl) (A9 rfl)) (sS sN) ⟨rfl,rfl⟩
theorem PI (F:Nat)(f:Af)(r:Ar×Int)(h:Mw F f=some r):Fn Tryz.prog GE 19 [Bt (Ad f)] [] (λR H=>R=CV [rS r.1,Ai r.2]∧H=[]):=by
 refine enter (n:=61) Tryz.func19 rfl Tryz.ntmps19 rfl (λw Z=>?_);unfold Mw at h;refine Ah (By rfl rfl (λb1=>?_));refine wv (r:=rS ([]:Ar)) (AD rfl) (wa rfl (Al (An (Ah (wv (AH (i:=0) Cb B5 rfl rfl rfl rfl) (ob h λr2 e4 h3=>Cs Qp (Hz F f r2 e4) rfl (wa rfl (AW (wm rfl (wv (Bf rfl rfl) (Al (cz h3 rfl (λc5 h6=>?_) (λc5 h7=>?_)))))))))))))
 ·refine Ah (wm rfl (wv (r:=rS ([]:Ar)) (AD rfl) (wa rfl (Al (Aq (Ac ?_))))));obtain rfl:=Am h6;exact Ap (D9 Pg (A9 rfl) (A9 rfl)) (sS sN) ⟨rfl,rfl⟩
 ·refine Av (AG (Ah (vF AM rfl Gd (vL 0 Hg rfl (ob h7 λr8 hh h9=>Cs Tryz.call44 (SB F f.fPath r8 hh) rfl (wm rfl (wv (A7 rfl rfl) (wv (A7 rfl rfl) (wa rfl (wa rfl (Al (An (Ah (wm rfl (wv (Bf rfl rfl) (Al (cz h9 rfl (λhi hj=>?_) (λhi hk=>?_))))))))))))))))))
  ·refine Ah (wm rfl (wv (r:=rS ([]:Ar)) (AD rfl) (wa rfl (Al (Aq (Ac ?_))))));obtain rfl:=Am hj;exact Ap (D9 Pg (A9 rfl) (A9 rfl)) (sS sN) ⟨rfl,rfl⟩
  ·refine Av (AG (An (ob hk λhb hl hm=>ck hm λg17 hn=>ob hn λha ho hp=>Cy [1,5] [⟨[],AE 1 (A3 eS hb),0⟩,⟨[],rP b1 1,0⟩,⟨[1],Ai f.fOp,1⟩,⟨[0,2],Jd [rS (Ax hb f.fOp)],0⟩,⟨[3],rS (Ax hb f.fOp),0⟩,⟨[4],CV [AE 4 (A3 Ab ha.1),Ai ha.2],0⟩,⟨[5],CV [AE 4 (A3 Ab ha.1),Ai ha.2],0⟩,⟨[6],AE 4 (A3 Ab ha.1),0⟩,⟨[6],Ai ha.2,0⟩,⟨[7],AE 4 (A3 Ab ha.1),0⟩,⟨[8],Ai ha.2,0⟩] [7,6,1,5] ?_ ?_)))
   ·refine Dh rfl (λH=>Ea Tryz.call45 (N1 hb hl) rfl) ?_;refine oq (AB AM rfl BZ rfl rfl) (of (Bc (i:=0) Cc rfl rfl rfl) (oq (AT (enc:=eS) (ys:=hb) CQ CB rfl rfl g17) (oq (AL CO rfl rfl) (Dh rfl (λH=>Ea Qm (K4 F (Ax hb f.fOp) ha ho) rfl) ?_))));refine oq (A5 rfl) (oq (A7 rfl rfl) (oq (A7 rfl rfl) (oq (AD rfl) (oq (AD rfl) ?_))));exact Ce
   refine AG (An (Ah (wm rfl (wv (Bf rfl rfl) (Al (cz hp rfl (λhq hr=>?_) (λhq hs=>?_)))))))
   ·refine Ah (wm rfl (wv (r:=rS ([]:Ar)) (AD rfl) (wa rfl (Al (Aq (Ac ?_))))));obtain rfl:=Am hr;exact Ap (D9 Pg (A9 rfl) (A9 rfl)) (sS sN) ⟨rfl,rfl⟩
   ·refine Av (AG (Ah (wv (AH (i:=0) Cb B5 rfl rfl rfl rfl) (ob hs λhe ht hu=>Cs Tryz.call46 (N0 F f he ht) rfl (wm rfl (wv (A7 rfl rfl) (wv (A7 rfl rfl) (wa rfl (wa rfl (Al (An (Ah (wm rfl (wv (Bf rfl rfl) (Al (cz hu rfl (λhw hx=>?_) (λhw hy=>?_)))))))))))))))))
    ·refine Ah (wm rfl (wv (r:=rS ([]:Ar)) (AD rfl) (wa rfl (Al (Aq (Ac ?_))))));obtain rfl:=Am hx;exact Ap (D9 Pg (A9 rfl) (A9 rfl)) (sS sN) ⟨rfl,rfl⟩
    ·refine Av (AG (Ah (wm rfl (wm rfl (AO (ys:=([r8.1,ha.1]:List (List Aa))) (enc:=Ae) (css:=[[AE 4 (A3 Ab r8.1)],[AE 4 (A3 Ab ha.1)]]) (xs:=[.tmp 45,.tmp 46]) BN BY LW rfl rfl rfl ⟨DW.one rfl (Up.refl _),DW.one rfl (Up.refl _),trivial⟩ rfl B6 rfl rfl rfl (λhD=>?_))))));refine wm rfl (WL.freeze (i:=0) rfl (AO (ys:=([([r8.1,ha.1]:List (List Aa)),he.1]:List (List (List Aa)))) (enc:=Bn) (css:=[[AE 1 (A3 Ae ([r8.1,ha.1]:List (List Aa)))],[AE 1 (A3 Ae he.1)]]) (xs:=[.tmp 47,.tmp 48]) Qc CD Tryz.zeroValue24 rfl rfl rfl ⟨DW.one rfl (Up.fact (i:=0) rfl),DW.one rfl (Up.refl _),trivial⟩ rfl HQ rfl rfl rfl (λhE=>?_)));refine WL.freeze (i:=0) rfl (WL.up (d:=49) (r:=AE 1 (A3 Bn ([([r8.1,ha.1]:List (List Aa)),he.1]:List (List (List Aa))))) rfl (Up.fact (i:=0) rfl) (ob hy λhf hz h0=>Cs Tryz.call48 (NR F ([([r8.1,ha.1]:List (List Aa)),he.1]:List (List (List Aa))) hf hz) rfl (ob h0 λhg h1 h2=>Cs Tryz.call47 (Kb F hf hg h1) rfl (wm rfl (wv (A7 rfl rfl) (wv (A7 rfl rfl) (wa rfl (wa rfl (Al (An (Ah (wm rfl (wv (Bf rfl rfl) (Al (cz h2 rfl (λh4 h5=>?_) (λh4 h8=>?_))))))))))))))))
     ·refine Ah (wm rfl (wv (r:=rS ([]:Ar)) (AD rfl) (wa rfl (Al (Aq (Ac ?_))))));obtain rfl:=Am h5;exact Ap (D9 Pg (A9 rfl) (A9 rfl)) (sS (sS (sS sN))) ⟨rfl,rfl⟩
     ·refine Av (AG (Ah (wm rfl (ob h8 λhA hB hC=>Cs Tryz.call49 (Pp F hg.1 hA hB) rfl (wv (A7 rfl rfl) (wv (A7 rfl rfl) (wa rfl (wa rfl (Al (Aq ?_))))))))));obtain rfl:=Am hC;exact Ap (D9 Pg (A9 rfl) (A9 rfl)) (sS (sS (sS sN))) ⟨rfl,rfl⟩
theorem PJ (F:Nat)(f:Af)(l:(List (List Aa)))(r:Af×Bool)(h:Mx F f l=some r):Fn Tryz.prog GE 58 [Bt (Ad f),AE 1 (A3 Ae l)] [] (λR H=>R=CV [Bt (Ad r.1),rB r.2]∧H=[]):=by
 refine enter (n:=87) Tryz.func58 rfl Tryz.ntmps58 rfl (λw Z=>?_);unfold Mx at h;refine Ah (By rfl rfl (λb1=>?_));refine Ca (cs:=[rv (.slice none 0 0),Ai 0,rv (.slice none 0 0),rS ([]:Ar),Ai 0,Ai 0]) MG rfl rfl (λb2=>?_);refine wa rfl (AW (NL rfl (λb3=>?_)));refine AO (ys:=([5]:List Int)) (enc:=BO) (css:=[[Ai 5]]) (xs:=[.const (.int .i64 5)]) Kv Dw RM rfl rfl rfl ⟨DW.one rfl (Up.refl _),trivial⟩ rfl GR rfl rfl rfl (λb4=>?_);refine WL.freeze (i:=0) rfl (WL.up (d:=12) (r:=AE 1 (A3 BO ([5]:List Int))) rfl (Up.fact (i:=0) rfl) (GD (enc:=CF) (xs:=([]:List (Int×(List Int)))) (v:=([5]:List Int)) (i:=1) MH Qd rfl rfl rfl rfl rfl (H':=[.fact (.slice (some ⟨b4,0,none⟩) 1 1) (AE 1 (A3 BO ([5]:List Int))),.imap b3 (EN CF (([]:List (Int×(List Int)))++[(3,([5]:List Int))])),.blk b2 [rv (.slice none 0 0),Ai 0,rv (.slice none 0 0),rS ([]:Ar),Ai 0,Ai 0] 26,.blk b1 (Ad f) 26]) rfl (AO (ys:=([5]:List Int)) (enc:=BO) (css:=[[Ai 5]]) (xs:=[.const (.int .i64 5)]) Kv Dw RM rfl rfl rfl ⟨DW.one rfl (Up.refl _),trivial⟩ rfl GR rfl rfl rfl (λb5=>?_))));refine WL.freeze (i:=0) rfl (WL.up (d:=13) (r:=AE 1 (A3 BO ([5]:List Int))) rfl (Up.fact (i:=0) rfl) (GD (enc:=CF) (xs:=([]:List (Int×(List Int)))++[(3,([5]:List Int))]) (v:=([5]:List Int)) (i:=2) MH Qd rfl rfl rfl rfl rfl (H':=[.fact (.slice (some ⟨b5,0,none⟩) 1 1) (AE 1 (A3 BO ([5]:List Int))),.fact (.slice (some ⟨b4,0,none⟩) 1 1) (AE 1 (A3 BO ([5]:List Int))),.imap b3 (EN CF ((([]:List (Int×(List Int)))++[(3,([5]:List Int))])++[(4,([5]:List Int))])),.blk b2 [rv (.slice none 0 0),Ai 0,rv (.slice none 0 0),rS ([]:Ar),Ai 0,Ai 0] 26,.blk b1 (Ad f) 26]) rfl (AO (ys:=([4]:List Int)) (enc:=BO) (css:=[[Ai 4]]) (xs:=[.const (.int .i64 4)]) Kv Dw RM rfl rfl rfl ⟨DW.one rfl (Up.refl _),trivial⟩ rfl GR rfl rfl rfl (λb6=>?_))));refine WL.freeze (i:=0) rfl (WL.up (d:=14) (r:=AE 1 (A3 BO ([4]:List Int))) rfl (Up.fact (i:=0) rfl) (GD (enc:=CF) (xs:=(([]:List (Int×(List Int)))++[(3,([5]:List Int))])++[(4,([5]:List Int))]) (v:=([4]:List Int)) (i:=3) MH Qd rfl rfl rfl rfl rfl (H':=[.fact (.slice (some ⟨b6,0,none⟩) 1 1) (AE 1 (A3 BO ([4]:List Int))),.fact (.slice (some ⟨b5,0,none⟩) 1 1) (AE 1 (A3 BO ([5]:List Int))),.fact (.slice (some ⟨b4,0,none⟩) 1 1) (AE 1 (A3 BO ([5]:List Int))),.imap b3 (EN CF (((([]:List (Int×(List Int)))++[(3,([5]:List Int))])++[(4,([5]:List Int))])++[(5,([4]:List Int))])),.blk b2 [rv (.slice none 0 0),Ai 0,rv (.slice none 0 0),rS ([]:Ar),Ai 0,Ai 0] 26,.blk b1 (Ad f) 26]) rfl (AO (ys:=([3,3]:List Int)) (enc:=BO) (css:=[[Ai 3],[Ai 3]]) (xs:=[.const (.int .i64 3),.const (.int .i64 3)]) Kv Dw RM rfl rfl rfl ⟨DW.one rfl (Up.refl _),DW.one rfl (Up.refl _),trivial⟩ rfl GR rfl rfl rfl (λb7=>?_))));refine WL.freeze (i:=0) rfl (WL.up (d:=15) (r:=AE 1 (A3 BO ([3,3]:List Int))) rfl (Up.fact (i:=0) rfl) (GD (enc:=CF) (xs:=((([]:List (Int×(List Int)))++[(3,([5]:List Int))])++[(4,([5]:List Int))])++[(5,([4]:List Int))]) (v:=([3,3]:List Int)) (i:=4) MH Qd rfl rfl rfl rfl rfl (H':=[.fact (.slice (some ⟨b7,0,none⟩) 2 2) (AE 1 (A3 BO ([3,3]:List Int))),.fact (.slice (some ⟨b6,0,none⟩) 1 1) (AE 1 (A3 BO ([4]:List Int))),.fact (.slice (some ⟨b5,0,none⟩) 1 1) (AE 1 (A3 BO ([5]:List Int))),.fact (.slice (some ⟨b4,0,none⟩) 1 1) (AE 1 (A3 BO ([5]:List Int))),.imap b3 (EN CF ((((([]:List (Int×(List Int)))++[(3,([5]:List Int))])++[(4,([5]:List Int))])++[(5,([4]:List Int))])++[(6,([3,3]:List Int))])),.blk b2 [rv (.slice none 0 0),Ai 0,rv (.slice none 0 0),rS ([]:Ar),Ai 0,Ai 0] 26,.blk b1 (Ad f) 26]) rfl (wm rfl (vF AM rfl BZ (vL 6 Cc rfl (wv (r:=AE 1 (A3 BO (EW ((((([]:List (Int×(List Int)))++[(3,([5]:List Int))])++[(4,([5]:List Int))])++[(5,([4]:List Int))])++[(6,([3,3]:List Int))]) f.fOp ([]:(List Int))))) (Ts (enc:=CF) (xs:=(((([]:List (Int×(List Int)))++[(3,([5]:List Int))])++[(4,([5]:List Int))])++[(5,([4]:List Int))])++[(6,([3,3]:List Int))]) (z:=([]:(List Int))) (i:=4) MH Qd Tryz.zeroValue110 No rfl rfl rfl) (wa rfl (Al (An (Ah (wm rfl (wv (AI (ys:=EW ((((([]:List (Int×(List Int)))++[(3,([5]:List Int))])++[(4,([5]:List Int))])++[(5,([4]:List Int))])++[(6,([3,3]:List Int))]) f.fOp ([]:(List Int))) (enc:=BO) Kv rfl) (wm rfl (wv (AI (ys:=l) (enc:=Ae) BN rfl) (wv (Bf rfl rfl) (Al (cz h rfl (λc8 h9=>?_) (λc8 hj=>?_))))))))))))))))))
 ·refine Ah (wv (AH (i:=6) Cb B5 rfl rfl rfl rfl) (Ba (i:=5) B5 rfl rfl rfl (BC.c rfl) rfl rfl (cs':=[AE 1 (A3 eS f.fPath),Ai f.fOp,AE 1 (A3 Ae f.fValues),rS f.fText,Ai f.fLow,Ai f.fHigh]) rfl (H':=[.fact (.slice (some ⟨b7,0,none⟩) 2 2) (AE 1 (A3 BO ([3,3]:List Int))),.fact (.slice (some ⟨b6,0,none⟩) 1 1) (AE 1 (A3 BO ([4]:List Int))),.fact (.slice (some ⟨b5,0,none⟩) 1 1) (AE 1 (A3 BO ([5]:List Int))),.fact (.slice (some ⟨b4,0,none⟩) 1 1) (AE 1 (A3 BO ([5]:List Int))),.imap b3 (EN CF ((((([]:List (Int×(List Int)))++[(3,([5]:List Int))])++[(4,([5]:List Int))])++[(5,([4]:List Int))])++[(6,([3,3]:List Int))])),.blk b2 (Ad f) 26,.blk b1 (Ad f) 26]) rfl (wa rfl (Al (Aq (Ac ?_))))));obtain rfl:=Am h9;exact Ap (D9 NG (DC (i:=5) Cb B5 rfl rfl rfl) (A9 rfl)) (sS (sS (sS (sS (sS (sS (sS sN))))))) ⟨rfl,rfl⟩
 ·refine Av (AG (An (Ah (wm rfl (wv (AI (ys:=EW ((((([]:List (Int×(List Int)))++[(3,([5]:List Int))])++[(4,([5]:List Int))])++[(5,([4]:List Int))])++[(6,([3,3]:List Int))]) f.fOp ([]:(List Int))) (enc:=BO) Kv rfl) (wv (r:=Ai 0) (A5 rfl) (Al (AA (ob hj λhk hl hi=>Bg (S:=Nat×(Int)×(Unit)) (V:=(Unit)×(Unit)) 0 (λσ=>BW (λσ=>GN f l σ) σ.1 σ.2.1=some hk) (λσ=>[(1,AE 1 (A3 Ae l)),(2,rP b1 0),(4,rP b2 0),(26,AE 1 (A3 BO (EW ((((([]:List (Int×(List Int)))++[(3,([5]:List Int))])++[(4,([5]:List Int))])++[(5,([4]:List Int))])++[(6,([3,3]:List Int))]) f.fOp ([]:(List Int))))),(27,Ai ((EW ((((([]:List (Int×(List Int)))++[(3,([5]:List Int))])++[(4,([5]:List Int))])++[(5,([4]:List Int))])++[(6,([3,3]:List Int))]) f.fOp ([]:(List Int))).length:Int)),(28,Ai σ.2.1)]) (λσ=>[.blk b2 [rv (.slice none 0 0),Ai 0,rv (.slice none 0 0),rS ([]:Ar),Ai 0,Ai 0] 26,.blk b1 (Ad f) 26]) (λσ=>σ.1) (F,0,()) hl (A4.c rfl (A4.c5 rfl rfl rfl rfl rfl A4.nil)) (sS (sS (sS (sS (sS (sC (sC sN))))))) (λσ=>GM F f l =some r) (λσ=>[(1,AE 1 (A3 Ae l)),(2,rP b1 0),(4,rP b2 0)]) (λσ=>[.blk b2 [rv (.slice none 0 0),Ai 0,rv (.slice none 0 0),rS ([]:Ar),Ai 0,Ai 0] 26,.blk b1 (Ad f) 26]) ?_ ?_)))))))))
  ·rintro⟨gf,he,⟨⟩⟩ hm;refine B2 (l':=[(1,AE 1 (A3 Ae l)),(2,rP b1 0),(4,rP b2 0),(26,AE 1 (A3 BO (EW ((((([]:List (Int×(List Int)))++[(3,([5]:List Int))])++[(4,([5]:List Int))])++[(5,([4]:List Int))])++[(6,([3,3]:List Int))]) f.fOp ([]:(List Int))))),(27,Ai ((EW ((((([]:List (Int×(List Int)))++[(3,([5]:List Int))])++[(4,([5]:List Int))])++[(5,([4]:List Int))])++[(6,([3,3]:List Int))]) f.fOp ([]:(List Int))).length:Int)),(28,Ai he)]) (H':=[.blk b2 [rv (.slice none 0 0),Ai 0,rv (.slice none 0 0),rS ([]:Ar),Ai 0,Ai 0] 26,.blk b1 (Ad f) 26]) rfl rfl ?_;obtain⟨hn,rfl,ho,hf,hh⟩:=Cf hm;replace hf:GN f l he=some ho:=hf;unfold GN at hf;refine Ah (wv (Cr rfl rfl) (Al (An (cz hf rfl (λhp hq=>?_) (λhp hr=>?_)))))
   ·refine Av (AG (An (AA (Ah (wm rfl (ck hq λhs ht=>wv (AT (enc:=BO) (ys:=EW ((((([]:List (Int×(List Int)))++[(3,([5]:List Int))])++[(4,([5]:List Int))])++[(5,([4]:List Int))])++[(6,([3,3]:List Int))]) f.fOp ([]:(List Int))) Kv Dw rfl rfl hs) (wv (AL DJ rfl rfl) (wa rfl (wa rfl (AW (wm rfl (wm rfl (ck ht λhu hw=>wv (AT (enc:=Ae) (ys:=l) BN BY rfl rfl hu) (wv (AL C9 rfl rfl) (ck hw λhx hy=>wv (AT (enc:=Ab) (ys:=Ax l he) B0 BI rfl rfl hx) (wv (AR BA rfl Dw rfl rfl) (wv (AL DJ rfl rfl) (wm rfl (wv (Bf rfl rfl) (Al ?_))))))))))))))))))));refine cz hy rfl (λhz h0=>?_) (λhz h1=>?_)
    ·refine Ah (wv (AH (i:=1) Cb B5 rfl rfl rfl rfl) (Ba (i:=0) B5 rfl rfl rfl (BC.c rfl) rfl rfl (cs':=[AE 1 (A3 eS f.fPath),Ai f.fOp,AE 1 (A3 Ae f.fValues),rS f.fText,Ai f.fLow,Ai f.fHigh]) rfl (H':=[.blk b2 (Ad f) 26,.blk b1 (Ad f) 26]) rfl (wa rfl (Al (Aq (Ao (Ac (Ac (AN ?_)))))))));have h2:=Be h0 hh hi;refine Ao (Ac ?_);obtain rfl:=Am h2;exact Ap (D9 NG (DC (i:=0) Cb B5 rfl rfl rfl) (A9 rfl)) (sS (sS sN)) ⟨rfl,rfl⟩
    ·refine Av (A8 (AG (Ak (ck h1 λh3 h4=>wv (Bj rfl rfl h3) (wm rfl (Aj ?_))))));have h5:=Bb h4 hh;exact As (At (hn,he+1,()) ⟨h5,Vv _⟩ (A4.c rfl (A4.c5 rfl rfl rfl rfl rfl A4.nil)) (sC (sC sN)))
   ·refine Bq (Ay ?_);have h6:=BD hr hh hi;exact Ay (AS (At ((),()) h6 (A4.c rfl (A4.c rfl (A4.c rfl A4.nil))) (sC (sC sN))))
  ·rintro⟨⟨⟩,⟨⟩⟩ hg;refine Cj (l':=[(1,AE 1 (A3 Ae l)),(2,rP b1 0),(4,rP b2 0)]) (H':=[.blk b2 [rv (.slice none 0 0),Ai 0,rv (.slice none 0 0),rS ([]:Ar),Ai 0,Ai 0] 26,.blk b1 (Ad f) 26]) rfl rfl ?_;replace hg:GM F f l =some r:=hg;unfold GM at hg;refine AV (AG (An (Ah (vF AM rfl BZ (vL 1 Cc rfl (Al (AA (An (Ah (wv (Bz rfl rfl) (wa rfl (Al (cz hg rfl (λc80 h7=>?_) (λc80 h8=>?_))))))))))))))
   ·refine Av (AG (De rfl c80 (Ah (wm rfl (ck h7 λhA hB=>wv (AT (enc:=Ae) (ys:=l) BN BY rfl rfl hA) (wv (AL C9 rfl rfl) (ob hB λha hC hD=>Cs Tryz.call56 (Iz F (Ax l 0) ha hC) rfl (wm rfl (wv (A7 rfl rfl) (wv (A7 rfl rfl) (wa rfl (wa rfl (AW (wm rfl (vF AM rfl CD (Bs (i:=1) CD rfl rfl (B3 rfl) rfl rfl (cs':=[AE 1 (A3 eS f.fPath),Ai f.fOp,AE 1 (A3 Ae ha.1),rS f.fText,Ai f.fLow,Ai f.fHigh]) rfl (H':=[.blk b2 [rv (.slice none 0 0),Ai 0,rv (.slice none 0 0),rS ([]:Ar),Ai 0,Ai 0] 26,.blk b1 [AE 1 (A3 eS f.fPath),Ai f.fOp,AE 1 (A3 Ae ha.1),rS f.fText,Ai f.fLow,Ai f.fHigh] 26]) rfl (AW (wv (AH (i:=1) Cb B5 rfl rfl rfl rfl) (wm rfl (wv (Bz rfl rfl) (Ba (i:=0) B5 rfl rfl rfl (BC.c rfl) rfl rfl (cs':=[AE 1 (A3 eS f.fPath),Ai f.fOp,AE 1 (A3 Ae ha.1),rS f.fText,Ai f.fLow,Ai f.fHigh]) rfl (H':=[.blk b2 [AE 1 (A3 eS f.fPath),Ai f.fOp,AE 1 (A3 Ae ha.1),rS f.fText,Ai f.fLow,Ai f.fHigh] 26,.blk b1 [AE 1 (A3 eS f.fPath),Ai f.fOp,AE 1 (A3 Ae ha.1),rS f.fText,Ai f.fLow,Ai f.fHigh] 26]) rfl ?_)))))))))))))))))))));refine wa rfl (Al (Aq (Ao (Ac ?_))));obtain rfl:=Am hD;exact Ap (D9 NG (DC (i:=0) Cb B5 rfl rfl rfl) (A9 rfl)) (sS (sS sN)) ⟨rfl,rfl⟩
   ·refine Ak (wv (Bz rfl rfl) (wa rfl (Al (cz h8 rfl (λhE hG=>?_) (λhE hH=>?_)))))
    ·refine Ah (wm rfl (ck hG λhI hJ=>wv (AT (enc:=Ae) (ys:=l) BN BY rfl rfl hI) (wv (AL C9 rfl rfl) (ob hJ λhb hK hL=>Cs Tryz.call56 (Iz F (Ax l 0) hb hK) rfl (wm rfl (wv (A7 rfl rfl) (wv (A7 rfl rfl) (wa rfl (wa rfl (AW (wm rfl (vF AM rfl CD (Bs (i:=1) CD rfl rfl (B3 rfl) rfl rfl (cs':=[AE 1 (A3 eS f.fPath),Ai f.fOp,AE 1 (A3 Ae hb.1),rS f.fText,Ai f.fLow,Ai f.fHigh]) rfl (H':=[.blk b2 [rv (.slice none 0 0),Ai 0,rv (.slice none 0 0),rS ([]:Ar),Ai 0,Ai 0] 26,.blk b1 [AE 1 (A3 eS f.fPath),Ai f.fOp,AE 1 (A3 Ae hb.1),rS f.fText,Ai f.fLow,Ai f.fHigh] 26]) rfl (AW (wv (AH (i:=1) Cb B5 rfl rfl rfl rfl) (wm rfl (wv (Bz rfl rfl) (Ba (i:=0) B5 rfl rfl rfl (BC.c rfl) rfl rfl (cs':=[AE 1 (A3 eS f.fPath),Ai f.fOp,AE 1 (A3 Ae hb.1),rS f.fText,Ai f.fLow,Ai f.fHigh]) rfl (H':=[.blk b2 [AE 1 (A3 eS f.fPath),Ai f.fOp,AE 1 (A3 Ae hb.1),rS f.fText,Ai f.fLow,Ai f.fHigh] 26,.blk b1 [AE 1 (A3 eS f.fPath),Ai f.fOp,AE 1 (A3 Ae hb.1),rS f.fText,Ai f.fLow,Ai f.fHigh] 26]) rfl (wa rfl (Al (Aq ?_)))))))))))))))))))));refine Ao (Ac ?_);obtain rfl:=Am hL;exact Ap (D9 NG (DC (i:=0) Cb B5 rfl rfl rfl) (A9 rfl)) (sS (sS sN)) ⟨rfl,rfl⟩
    ·refine Ah (wv (Bz rfl rfl) (wa rfl (Al (cz hH rfl (λhN hO=>?_) (λhN hP=>?_)))))
     ·refine Ak (wm rfl (ck hO λhQ hR=>wv (AT (enc:=Ae) (ys:=l) BN BY rfl rfl hQ) (wv (AL C9 rfl rfl) (ck hR λhS hT=>wv (AT (enc:=Ab) (ys:=Ax l 0) B0 BI rfl rfl hS) (wv (AR BA rfl CB rfl rfl) (wv (AL CO rfl rfl) (vF AM rfl CB (Bs (i:=1) CB rfl rfl (B3 rfl) rfl rfl (cs':=[AE 1 (A3 eS f.fPath),Ai f.fOp,AE 1 (A3 Ae f.fValues),rS ((Ax (Ax l 0) 0).fStr),Ai f.fLow,Ai f.fHigh]) rfl (H':=[.blk b2 [rv (.slice none 0 0),Ai 0,rv (.slice none 0 0),rS ([]:Ar),Ai 0,Ai 0] 26,.blk b1 [AE 1 (A3 eS f.fPath),Ai f.fOp,AE 1 (A3 Ae f.fValues),rS ((Ax (Ax l 0) 0).fStr),Ai f.fLow,Ai f.fHigh] 26]) rfl (Aj (A8 (AG (Ah (wv (AH (i:=1) Cb B5 rfl rfl rfl rfl) (Ba (i:=0) B5 rfl rfl rfl (BC.c rfl) rfl rfl (cs':=[AE 1 (A3 eS f.fPath),Ai f.fOp,AE 1 (A3 Ae f.fValues),rS ((Ax (Ax l 0) 0).fStr),Ai f.fLow,Ai f.fHigh]) rfl (H':=[.blk b2 [AE 1 (A3 eS f.fPath),Ai f.fOp,AE 1 (A3 Ae f.fValues),rS ((Ax (Ax l 0) 0).fStr),Ai f.fLow,Ai f.fHigh] 26,.blk b1 [AE 1 (A3 eS f.fPath),Ai f.fOp,AE 1 (A3 Ae f.fValues),rS ((Ax (Ax l 0) 0).fStr),Ai f.fLow,Ai f.fHigh] 26]) rfl (wa rfl (Al (Aq ?_)))))))))))))))));obtain rfl:=Am hT;exact Ap (D9 NG (DC (i:=0) Cb B5 rfl rfl rfl) (A9 rfl)) (sS (sS sN)) ⟨rfl,rfl⟩
     ·refine Ah (wv (Bz rfl rfl) (wa rfl (Al (cz hP rfl (λhU hV=>?_) (λhU hW=>?_)))))
      ·refine ck hV λhX hY=>ck hY λhZ ga=>ck ga λgb gc=>ck gc λgd ge=>Ee (H1:=[.blk b2 [rv (.slice none 0 0),Ai 0,rv (.slice none 0 0),rS ([]:Ar),Ai 0,Ai 0] 26,.blk b1 [AE 1 (A3 eS f.fPath),Ai f.fOp,AE 1 (A3 Ae f.fValues),rS f.fText,Ai ((Ax (Ax l 0) 0).fInt),Ai ((Ax (Ax l 1) 0).fInt)] 26]) [1,2,4] [⟨[],AE 1 (A3 Ae l),0⟩,⟨[0],Jd [AE 4 (A3 Ab (Ax l 0))],0⟩,⟨[1],AE 4 (A3 Ab (Ax l 0)),0⟩,⟨[2],Jd (Ab (Ax (Ax l 0) 0)),0⟩,⟨[3],Jd [Ai ((Ax (Ax l 0) 0).fInt),rS ((Ax (Ax l 0) 0).fStr),Ai ((Ax (Ax l 0) 0).fN)],0⟩,⟨[4],Ai ((Ax (Ax l 0) 0).fInt),0⟩,⟨[],AE 1 (A3 Ae l),0⟩,⟨[6],Jd [AE 4 (A3 Ab (Ax l 1))],0⟩,⟨[7],AE 4 (A3 Ab (Ax l 1)),0⟩,⟨[8],Jd (Ab (Ax (Ax l 1) 0)),0⟩,⟨[9],Jd [Ai ((Ax (Ax l 1) 0).fInt),rS ((Ax (Ax l 1) 0).fStr),Ai ((Ax (Ax l 1) 0).fN)],0⟩,⟨[10],Ai ((Ax (Ax l 1) 0).fInt),0⟩,⟨[],rP b1 4,0⟩,⟨[12,5],rv undef,2⟩,⟨[],rP b1 5,0⟩,⟨[14,11],rv undef,2⟩] (rle [(14,_),(2,[.blk b2 [rv (.slice none 0 0),Ai 0,rv (.slice none 0 0),rS ([]:Ar),Ai 0,Ai 0] 26,.blk b1 [AE 1 (A3 eS f.fPath),Ai f.fOp,AE 1 (A3 Ae f.fValues),rS f.fText,Ai ((Ax (Ax l 0) 0).fInt),Ai f.fHigh] 26]),(1,[.blk b2 [rv (.slice none 0 0),Ai 0,rv (.slice none 0 0),rS ([]:Ar),Ai 0,Ai 0] 26,.blk b1 [AE 1 (A3 eS f.fPath),Ai f.fOp,AE 1 (A3 Ae f.fValues),rS f.fText,Ai ((Ax (Ax l 0) 0).fInt),Ai ((Ax (Ax l 1) 0).fInt)] 26])]) [2,4] ?_ ?_
       ·refine oq (A5 rfl) (oq (AT (enc:=Ae) (ys:=l) BN BY rfl rfl hX) (oq (AL C9 rfl rfl) (oq (AT (enc:=Ab) (ys:=Ax l 0) B0 BI rfl rfl hZ) (oq (AR BA rfl BH rfl rfl) (oq (AL Cd rfl rfl) (oq (A5 rfl) (oq (AT (enc:=Ae) (ys:=l) BN BY rfl rfl gb) (oq (AL C9 rfl rfl) (oq (AT (enc:=Ab) (ys:=Ax l 1) B0 BI rfl rfl gd) (oq (AR BA rfl BH rfl rfl) (oq (AL Cd rfl rfl) (oq (AB AM rfl BH rfl rfl) (GY rfl (Lz (HN (i:=1) BH rfl rfl (B3 rfl) rfl rfl (cs':=[AE 1 (A3 eS f.fPath),Ai f.fOp,AE 1 (A3 Ae f.fValues),rS f.fText,Ai ((Ax (Ax l 0) 0).fInt),Ai f.fHigh]) rfl (H':=[.blk b2 [rv (.slice none 0 0),Ai 0,rv (.slice none 0 0),rS ([]:Ar),Ai 0,Ai 0] 26,.blk b1 [AE 1 (A3 eS f.fPath),Ai f.fOp,AE 1 (A3 Ae f.fValues),rS f.fText,Ai ((Ax (Ax l 0) 0).fInt),Ai f.fHigh] 26]) rfl)) ?_)))))))))))));refine oq (AB AM rfl BH rfl rfl) (GY rfl (Lz (HN (i:=1) BH rfl rfl (B3 rfl) rfl rfl (cs':=[AE 1 (A3 eS f.fPath),Ai f.fOp,AE 1 (A3 Ae f.fValues),rS f.fText,Ai ((Ax (Ax l 0) 0).fInt),Ai ((Ax (Ax l 1) 0).fInt)]) rfl (H':=[.blk b2 [rv (.slice none 0 0),Ai 0,rv (.slice none 0 0),rS ([]:Ar),Ai 0,Ai 0] 26,.blk b1 [AE 1 (A3 eS f.fPath),Ai f.fOp,AE 1 (A3 Ae f.fValues),rS f.fText,Ai ((Ax (Ax l 0) 0).fInt),Ai ((Ax (Ax l 1) 0).fInt)] 26]) rfl)) ?_);exact Ce
       refine A8 (AG (Ah (wv (AH (i:=1) Cb B5 rfl rfl rfl rfl) (Ba (i:=0) B5 rfl rfl rfl (BC.c rfl) rfl rfl (cs':=[AE 1 (A3 eS f.fPath),Ai f.fOp,AE 1 (A3 Ae f.fValues),rS f.fText,Ai ((Ax (Ax l 0) 0).fInt),Ai ((Ax (Ax l 1) 0).fInt)]) rfl (H':=[.blk b2 [AE 1 (A3 eS f.fPath),Ai f.fOp,AE 1 (A3 Ae f.fValues),rS f.fText,Ai ((Ax (Ax l 0) 0).fInt),Ai ((Ax (Ax l 1) 0).fInt)] 26,.blk b1 [AE 1 (A3 eS f.fPath),Ai f.fOp,AE 1 (A3 Ae f.fValues),rS f.fText,Ai ((Ax (Ax l 0) 0).fInt),Ai ((Ax (Ax l 1) 0).fInt)] 26]) rfl (wa rfl (Al (Aq ?_)))))));obtain rfl:=Am ge;exact Ap (D9 NG (DC (i:=0) Cb B5 rfl rfl rfl) (A9 rfl)) (sS (sS sN)) ⟨rfl,rfl⟩
      ·refine Av (A8 (AG (Ah (wv (AH (i:=1) Cb B5 rfl rfl rfl rfl) (Ba (i:=0) B5 rfl rfl rfl (BC.c rfl) rfl rfl (cs':=[AE 1 (A3 eS f.fPath),Ai f.fOp,AE 1 (A3 Ae f.fValues),rS f.fText,Ai f.fLow,Ai f.fHigh]) rfl (H':=[.blk b2 (Ad f) 26,.blk b1 (Ad f) 26]) rfl (wa rfl (Al (Aq ?_))))))));obtain rfl:=Am hW;exact Ap (D9 NG (DC (i:=0) Cb B5 rfl rfl rfl) (A9 rfl)) (sS (sS sN)) ⟨rfl,rfl⟩
theorem Rl (F:Nat)(s:Ar)(r:Af×Int)(h:Oe F s=some r):Fn Tryz.prog GE 21 [rS s] [] (λR H=>R=CV [Bt (Ad r.1),Ai r.2]∧H=[]):=by
 refine enter (n:=125) Tryz.func21 rfl Tryz.ntmps21 rfl (λw Z=>?_);unfold Oe at h;refine Ah (Ca (cs:=[rv (.slice none 0 0),Ai 0,rv (.slice none 0 0),rS ([]:Ar),Ai 0,Ai 0]) MG rfl rfl (λb1=>?_));refine wa rfl (AW (wv (r:=Bt [rv (.slice none 0 0),Ai 0,rv (.slice none 0 0),rS ([]:Ar),Ai 0,Ai 0]) (NY ) (Ca (cs:=[rv (.slice none 0 0),Ai 0,rv (.slice none 0 0),rS ([]:Ar),Ai 0,Ai 0]) MG rfl rfl (λb2=>?_))));refine Ba (i:=0) B5 rfl rfl rfl (BC.c rfl) rfl rfl (cs':=[rv (.slice none 0 0),Ai 0,rv (.slice none 0 0),rS ([]:Ar),Ai 0,Ai 0]) rfl (H':=[.blk b2 [rv (.slice none 0 0),Ai 0,rv (.slice none 0 0),rS ([]:Ar),Ai 0,Ai 0] 26,.blk b1 [rv (.slice none 0 0),Ai 0,rv (.slice none 0 0),rS ([]:Ar),Ai 0,Ai 0] 26]) rfl (AW (wm rfl (ob h λr3 e5 h4=>Cs Tryz.call55 (Pq F s r3 e5) rfl (wm rfl (wv (A7 rfl rfl) (wv (A7 rfl rfl) (wa rfl (wa rfl (Al (An (Ah (wm rfl (wv (Bf rfl rfl) (Al (cz h4 rfl (λc6 h7=>?_) (λc6 h8=>?_))))))))))))))))
 ·refine Ah (wv (AH (i:=0) Cb B5 rfl rfl rfl rfl) (wm rfl (Ba (i:=1) B5 rfl rfl rfl (BC.c rfl) rfl rfl (cs':=[rv (.slice none 0 0),Ai 0,rv (.slice none 0 0),rS ([]:Ar),Ai 0,Ai 0]) rfl (H':=[.blk b2 [rv (.slice none 0 0),Ai 0,rv (.slice none 0 0),rS ([]:Ar),Ai 0,Ai 0] 26,.blk b1 [rv (.slice none 0 0),Ai 0,rv (.slice none 0 0),rS ([]:Ar),Ai 0,Ai 0] 26]) rfl (wa rfl (Al (Aq (Ac (WK.upBlk (i:=1) (cs':=[AE 1 (A3 eS ([]:List Ar)),Ai 0,AE 1 (A3 Ae ([]:List (List Aa))),rS ([]:Ar),Ai 0,Ai 0]) rfl ⟨Up.le (DA.nil _),Up.refl _,Up.le (DA.nil _),Up.refl _,Up.refl _,Up.refl _,trivial⟩ ?_))))))));obtain rfl:=Am h7;exact Ap (D9 NI (DC (i:=1) Cb B5 rfl rfl rfl) (A9 rfl)) (sS (sS sN)) ⟨rfl,rfl⟩
 ·refine Av (AG (Ah (wm rfl (ob h8 λr9 hy hz=>Cs Tryz.call56 (Iz F r3.1 r9 hy) rfl (wm rfl (wv (A7 rfl rfl) (wv (A7 rfl rfl) (wa rfl (wa rfl (Al (An (ck hz λh0 h1=>ck h1 λh2 h3=>ck h3 λg16 h5=>ck h5 λg18 h6=>ck h6 λh9 hA=>AK [(2,rP b1 0),(4,rP b2 0),(7,AE 1 (A3 Ae r9.1)),(60,rB ((!decide (r9.2=0))||((!decide (((Ax r3.1 0).fKind)=5))||((decide ((r9.1.length:Int)<2))||((!decide (((Ax (Ax r9.1 0) 0).fKind)=5))||(!decide (((Ax (Ax r9.1 1) 0).fKind)=4)))))))] [.blk b2 [rv (.slice none 0 0),Ai 0,rv (.slice none 0 0),rS ([]:Ar),Ai 0,Ai 0] 26,.blk b1 [rv (.slice none 0 0),Ai 0,rv (.slice none 0 0),rS ([]:Ar),Ai 0,Ai 0] 26] ?_ ?_))))))))))))
  ·refine Ak (wm rfl (wv (Bf rfl rfl) (wm rfl (AU (!decide (r9.2=0)) (λhf=>?_) (λhf=>?_)))))
   ·refine wf hf (wf hf (wf hf (wf hf (wf hf (wv (r:=rB true) (Az rfl hf rfl) (wm rfl (wz rfl rfl (wz rfl rfl (wz rfl rfl (wv (r:=rB true) (Az (b:=true) rfl rfl rfl) (wm rfl (wz rfl rfl (wz rfl rfl (wz rfl rfl (wz rfl rfl (wz rfl rfl (wz rfl rfl (wz rfl rfl (wv (r:=rB true) (Az (b:=true) rfl rfl rfl) (wm rfl (wz rfl rfl (wz rfl rfl (wz rfl rfl ?_)))))))))))))))))))))));refine wz rfl rfl (wz rfl rfl (wz rfl rfl (wz rfl rfl (wv (r:=rB true) (Az (b:=true) rfl rfl rfl) (Aj ?_)))));exact Cp hf
   ·refine wo hf (wm rfl (wo hf (wv (AT (enc:=Ab) (ys:=r3.1) B0 BI rfl rfl (CA h0 hf)) (wo hf (wv (AR BA rfl Dw rfl rfl) (wo hf (wv (AL DJ rfl rfl) (wo hf (wv (Bf rfl rfl) (Cq rfl hf rfl (wm rfl (AU (!decide (((Ax r3.1 0).fKind)=5)) (λhi=>?_) (λhi=>?_)))))))))))))
    ·refine wf hi (wf hi (wf hi (wv (r:=rB true) (Az rfl hi rfl) (wm rfl (wz rfl rfl (wz rfl rfl (wz rfl rfl (wz rfl rfl (wz rfl rfl (wz rfl rfl (wz rfl rfl (wv (r:=rB true) (Az (b:=true) rfl rfl rfl) (wm rfl (wz rfl rfl (wz rfl rfl (wz rfl rfl (wz rfl rfl (wz rfl rfl (wz rfl rfl (wz rfl rfl (wv (r:=rB true) (Az (b:=true) rfl rfl rfl) (Aj ?_))))))))))))))))))))));exact Cp (And.intro hf hi)
    ·refine wo hi (wm rfl (wo hi (wv (AI (ys:=r9.1) (enc:=Ae) BN rfl) (wo hi (wv (Cr rfl rfl) (Cq rfl hi rfl (wm rfl (AU (decide ((r9.1.length:Int)<2)) (λhe=>?_) (λhe=>?_)))))))))
     ·refine wf he (wf he (wf he (wf he (wf he (wf he (wf he (wv (r:=rB true) (Az rfl he rfl) (wm rfl (wz rfl rfl (wz rfl rfl (wz rfl rfl (wz rfl rfl (wz rfl rfl (wz rfl rfl (wz rfl rfl (wv (r:=rB true) (Az (b:=true) rfl rfl rfl) (Aj ?_)))))))))))))))));exact Cp (And.intro hf (And.intro hi he))
     ·refine wo he (wm rfl (wo he (wv (AT (enc:=Ae) (ys:=r9.1) BN BY rfl rfl (CA (CA (CA h2 hf) hi) he)) (wo he (wv (AL C9 rfl rfl) (wo he (wv (AT (enc:=Ab) (ys:=Ax r9.1 0) B0 BI rfl rfl (CA (CA (CA g16 hf) hi) he)) (wo he (wv (AR BA rfl Dw rfl rfl) (wo he (wv (AL DJ rfl rfl) (wo he (wv (Bf rfl rfl) (Cq rfl he rfl (wm rfl (AU (!decide (((Ax (Ax r9.1 0) 0).fKind)=5)) (λhh=>?_) (λhh=>?_)))))))))))))))))
      ·refine wf hh (wf hh (wf hh (wf hh (wf hh (wf hh (wf hh (wv (r:=rB true) (Az rfl hh rfl) (Aj ?_))))))));exact Cp (And.intro hf (And.intro hi (And.intro he hh)))
      ·refine wo hh (wm rfl (wo hh (wv (AT (enc:=Ae) (ys:=r9.1) BN BY rfl rfl (CA (CA (CA (CA g18 hf) hi) he) hh)) (wo hh (wv (AL C9 rfl rfl) (wo hh (wv (AT (enc:=Ab) (ys:=Ax r9.1 1) B0 BI rfl rfl (CA (CA (CA (CA h9 hf) hi) he) hh)) (wo hh (wv (AR BA rfl Dw rfl rfl) (wo hh (wv (AL DJ rfl rfl) (wo hh (wv (Bf rfl rfl) (Cq rfl hh rfl (Aj ?_)))))))))))))));exact Cp (And.intro hf (And.intro hi (And.intro he hh)))
  refine cz hA rfl (λhB hC=>?_) (λhB hD=>?_)
  ·refine Ah (wv (AH (i:=0) Cb B5 rfl rfl rfl rfl) (Ba (i:=1) B5 rfl rfl rfl (BC.c rfl) rfl rfl (cs':=[rv (.slice none 0 0),Ai 0,rv (.slice none 0 0),rS ([]:Ar),Ai 0,Ai 0]) rfl (H':=[.blk b2 [rv (.slice none 0 0),Ai 0,rv (.slice none 0 0),rS ([]:Ar),Ai 0,Ai 0] 26,.blk b1 [rv (.slice none 0 0),Ai 0,rv (.slice none 0 0),rS ([]:Ar),Ai 0,Ai 0] 26]) rfl (wa rfl (Al (Aq (Ac (WK.upBlk (i:=1) (cs':=[AE 1 (A3 eS ([]:List Ar)),Ai 0,AE 1 (A3 Ae ([]:List (List Aa))),rS ([]:Ar),Ai 0,Ai 0]) rfl ⟨Up.le (DA.nil _),Up.refl _,Up.le (DA.nil _),Up.refl _,Up.refl _,Up.refl _,trivial⟩ ?_)))))));obtain rfl:=Am hC;exact Ap (D9 NI (DC (i:=1) Cb B5 rfl rfl rfl) (A9 rfl)) (sS (sS sN)) ⟨rfl,rfl⟩
  ·refine Av (AG (Ah (Ca (cs:=[rv (.slice none 0 0),Ai 0,rv (.slice none 0 0),rS ([]:Ar),Ai 0,Ai 0]) MG rfl rfl (λhb=>?_))));refine AW (wm rfl (ck hD λhE hG=>wv (AT (enc:=Ae) (ys:=r9.1) BN BY rfl rfl hE) (wv (AL C9 rfl rfl) (ob hG λhg hH hI=>Cs Tryz.call56 (Iz F (Ax r9.1 0) hg hH) rfl (wm rfl (wv (A7 rfl rfl) (wv (A7 rfl rfl) (wa rfl (wa rfl (Al (An (Ah (wm rfl (wv (Bf rfl rfl) (Al (cz hI rfl (λhJ hK=>?_) (λhJ hL=>?_)))))))))))))))))
   ·refine Ah (wv (AH (i:=1) Cb B5 rfl rfl rfl rfl) (Ba (i:=2) B5 rfl rfl rfl (BC.c rfl) rfl rfl (cs':=[rv (.slice none 0 0),Ai 0,rv (.slice none 0 0),rS ([]:Ar),Ai 0,Ai 0]) rfl (H':=[.blk hb [rv (.slice none 0 0),Ai 0,rv (.slice none 0 0),rS ([]:Ar),Ai 0,Ai 0] 26,.blk b2 [rv (.slice none 0 0),Ai 0,rv (.slice none 0 0),rS ([]:Ar),Ai 0,Ai 0] 26,.blk b1 [rv (.slice none 0 0),Ai 0,rv (.slice none 0 0),rS ([]:Ar),Ai 0,Ai 0] 26]) rfl (wa rfl (Al (Aq (Ac (WK.upBlk (i:=2) (cs':=[AE 1 (A3 eS ([]:List Ar)),Ai 0,AE 1 (A3 Ae ([]:List (List Aa))),rS ([]:Ar),Ai 0,Ai 0]) rfl ⟨Up.le (DA.nil _),Up.refl _,Up.le (DA.nil _),Up.refl _,Up.refl _,Up.refl _,trivial⟩ ?_)))))));obtain rfl:=Am hK;exact Ap (D9 NI (DC (i:=2) Cb B5 rfl rfl rfl) (A9 rfl)) (sS (sS (sS sN))) ⟨rfl,rfl⟩
   ·refine Av (AG (An (Ah (wm rfl (wv (AI (ys:=hg.1) (enc:=Ae) BN rfl) (wv (r:=Ai 0) (A5 rfl) (Al (AA (WC.nilrow (e:=9) (sz:=1) (LZ (H2:=[.blk hb [rv (.slice none 0 0),Ai 0,rv (.slice none 0 0),rS ([]:Ar),Ai 0,Ai 0] 26,.blk b2 [rv (.slice none 0 0),Ai 0,rv (.slice none 0 0),rS ([]:Ar),Ai 0,Ai 0] 26,.blk b1 [rv (.slice none 0 0),Ai 0,rv (.slice none 0 0),rS ([]:Ar),Ai 0,Ai 0] 26,.row (.slice none 0 0         ) 9 1 (A3 eS ([]:List Ar))]) ((A0 (i:=1) rfl).trans (Vp _ ((A0 (i:=1) rfl).trans (Vp _ ((A0 (i:=1) rfl).trans (Vp _ (Vo _))))))) (ob hL λhN hO hw=>Bg (S:=Nat×(Int×(List Ar))×(Value)) (V:=((List Ar))×(Value)) 0 (λσ=>BW (λσ=>HK hg σ.1 σ.2) σ.1 σ.2.1=some hN) (λσ=>[(2,rP b1 0),(4,rP b2 0),(7,AE 1 (A3 Ae r9.1)),(8,rP hb 0),(72,AE 1 (A3 Ae hg.1)),(73,Ai (hg.1.length:Int)),(74,Ai σ.2.1.1)]) (λσ=>[.blk hb [rv σ.2.2,Ai 0,rv (.slice none 0 0),rS ([]:Ar),Ai 0,Ai 0] 26,.blk b2 [rv (.slice none 0 0),Ai 0,rv (.slice none 0 0),rS ([]:Ar),Ai 0,Ai 0] 26,.blk b1 [rv (.slice none 0 0),Ai 0,rv (.slice none 0 0),rS ([]:Ar),Ai 0,Ai 0] 26,.row σ.2.2 9 1 (A3 eS σ.2.1.2)]) (λσ=>σ.1) (F,(0,([]:List Ar)),(.slice none 0 0         )) hO (A4.c rfl (A4.c rfl (A4.c5 rfl rfl rfl rfl rfl A4.nil))) (sC (sC (sC (sC sN)))) (λσ=>HJ F r9 σ.1=some r) (λσ=>[(2,rP b1 0),(4,rP b2 0),(7,AE 1 (A3 Ae r9.1)),(8,rP hb 0)]) (λσ=>[.blk hb [rv σ.2,Ai 0,rv (.slice none 0 0),rS ([]:Ar),Ai 0,Ai 0] 26,.blk b2 [rv (.slice none 0 0),Ai 0,rv (.slice none 0 0),rS ([]:Ar),Ai 0,Ai 0] 26,.blk b1 [rv (.slice none 0 0),Ai 0,rv (.slice none 0 0),rS ([]:Ar),Ai 0,Ai 0] 26,.row σ.2 9 1 (A3 eS σ.1)]) ?_ ?_)))))))))))
    ·rintro⟨g6,⟨hj,hm⟩,ho⟩ hP;refine B2 (l':=[(2,rP b1 0),(4,rP b2 0),(7,AE 1 (A3 Ae r9.1)),(8,rP hb 0),(72,AE 1 (A3 Ae hg.1)),(73,Ai (hg.1.length:Int)),(74,Ai hj)]) (H':=[.blk hb [rv ho,Ai 0,rv (.slice none 0 0),rS ([]:Ar),Ai 0,Ai 0] 26,.blk b2 [rv (.slice none 0 0),Ai 0,rv (.slice none 0 0),rS ([]:Ar),Ai 0,Ai 0] 26,.blk b1 [rv (.slice none 0 0),Ai 0,rv (.slice none 0 0),rS ([]:Ar),Ai 0,Ai 0] 26,.row ho 9 1 (A3 eS hm)]) rfl rfl ?_;obtain⟨hQ,rfl,hR,hr,ht⟩:=Cf hP;replace hr:HK hg hj hm=some hR:=hr;unfold HK at hr;refine Ah (wv (Cr rfl rfl) (Al (An (cz hr rfl (λhS hT=>?_) (λhS hU=>?_)))))
     ·refine Av (AG (An (AA (Ah (ck hT λhV hW=>wv (AT (enc:=Ae) (ys:=hg.1) BN BY rfl rfl hV) (wv (AL C9 rfl rfl) (wa rfl (Al (An (Ah (wm rfl (ck hW λhx hX=>wv (AT (enc:=Ab) (ys:=Ax hg.1 hj) B0 BI rfl rfl hx) (wv (AR BA rfl Dw rfl rfl) (wv (AL DJ rfl rfl) (wv (Bf rfl rfl) (Al (cz hX rfl (λhY hZ=>?_) (λhY ga=>?_))))))))))))))))))
      ·refine Ah (wv (AH (i:=1) Cb B5 rfl rfl rfl rfl) (Ba (i:=2) B5 rfl rfl rfl (BC.c rfl) rfl rfl (cs':=[rv (.slice none 0 0),Ai 0,rv (.slice none 0 0),rS ([]:Ar),Ai 0,Ai 0]) rfl (H':=[.blk hb [rv ho,Ai 0,rv (.slice none 0 0),rS ([]:Ar),Ai 0,Ai 0] 26,.blk b2 [rv (.slice none 0 0),Ai 0,rv (.slice none 0 0),rS ([]:Ar),Ai 0,Ai 0] 26,.blk b1 [rv (.slice none 0 0),Ai 0,rv (.slice none 0 0),rS ([]:Ar),Ai 0,Ai 0] 26,.row ho 9 1 (A3 eS hm)]) rfl (wa rfl (Al (Aq (Ac (Ao (Ac (Ac (AN ?_))))))))));have gb:=Be hZ ht hw;refine Ao (Ac (WK.upBlk (i:=2) (cs':=[AE 1 (A3 eS ([]:List Ar)),Ai 0,AE 1 (A3 Ae ([]:List (List Aa))),rS ([]:Ar),Ai 0,Ai 0]) rfl ⟨Up.le (DA.nil _),Up.refl _,Up.le (DA.nil _),Up.refl _,Up.refl _,Up.refl _,trivial⟩ ?_));obtain rfl:=Am gb;exact Ap (D9 NI (DC (i:=2) Cb B5 rfl rfl rfl) (A9 rfl)) (sS (sS (sS (sS sN)))) ⟨rfl,rfl⟩
      ·refine Av (AG (JZ 7 [2,4,7,8,11,72,73,74] [⟨[],rP hb 0,none,none,none⟩,⟨[0],rv ho,none,none,none⟩,⟨[],AE 4 (A3 Ab (Ax hg.1 hj)),none,none,none⟩,⟨[2],Jd (Ab (Ax (Ax hg.1 hj) 0)),none,none,none⟩,⟨[3],Jd [rS ((Ax (Ax hg.1 hj) 0).fStr),Ai ((Ax (Ax hg.1 hj) 0).fN)],none,none,none⟩,⟨[4],rS ((Ax (Ax hg.1 hj) 0).fStr),none,none,none⟩,⟨[5],AE 1 (A3 eS ([(Ax (Ax hg.1 hj) 0).fStr]:List Ar)),none,none,none⟩] ?_ (λβ=>?_)))
       ·refine LH (AB AM rfl Gd rfl rfl) (UP (Bc (i:=0) Hg rfl rfl rfl) (LH (A5 rfl) (LH (AT (enc:=Ab) (ys:=Ax hg.1 hj) B0 BI rfl rfl hx) (LH (AR BA rfl CB rfl rfl) (LH (AL CO rfl rfl) (UR (EV (ys:=([(Ax (Ax hg.1 hj) 0).fStr]:List Ar)) (enc:=eS) (css:=[[rS ((Ax (Ax hg.1 hj) 0).fStr)]]) (xs:=[.tmp 89]) CQ CB Uh rfl rfl rfl ⟨DW.one rfl (Up.refl _),trivial⟩ rfl H7 rfl rfl) ?_))))));exact UQ
       refine LY (H1:=[.blk hb [rv ho,Ai 0,rv (.slice none 0 0),rS ([]:Ar),Ai 0,Ai 0] 26,.blk b2 [rv (.slice none 0 0),Ai 0,rv (.slice none 0 0),rS ([]:Ar),Ai 0,Ai 0] 26,.blk b1 [rv (.slice none 0 0),Ai 0,rv (.slice none 0 0),rS ([]:Ar),Ai 0,Ai 0] 26,.row ho 9 1 (A3 eS hm)]) [84,85,86,87,88,89,90,2,4,7,8,11,72,73,74] ?_;refine ck ga λgc gd=>Exists.elim UB λinf hinf=>BJ (xs:=hm) (ys:=([(Ax (Ax hg.1 hj) 0).fStr]:List Ar)) (enc:=eS) (i:=3) CQ hinf.1 hinf.2.1 hinf.2.2.1 hinf.2.2.2 rfl rfl rfl rfl rfl (Jc.z rfl rfl) H7 TW gc rfl (λhp=>?_);refine vF AM rfl Gd (Bs (i:=1) Gd rfl rfl (C3 (i:=0) rfl) rfl rfl (cs':=[rv hp,Ai 0,rv (.slice none 0 0),rS ([]:Ar),Ai 0,Ai 0]) rfl (H':=[.row hp 9 1 (A3 eS (hm++([(Ax (Ax hg.1 hj) 0).fStr]:List Ar))),.blk hb [rv hp,Ai 0,rv (.slice none 0 0),rS ([]:Ar),Ai 0,Ai 0] 26,.blk b2 [rv (.slice none 0 0),Ai 0,rv (.slice none 0 0),rS ([]:Ar),Ai 0,Ai 0] 26,.blk b1 [rv (.slice none 0 0),Ai 0,rv (.slice none 0 0),rS ([]:Ar),Ai 0,Ai 0] 26]) rfl (Aj (A8 (AG (Ak (ck gd λge gf=>wv (Bj rfl rfl ge) (wm rfl (Aj (Cm (H2:=[.blk hb [rv hp,Ai 0,rv (.slice none 0 0),rS ([]:Ar),Ai 0,Ai 0] 26,.blk b2 [rv (.slice none 0 0),Ai 0,rv (.slice none 0 0),rS ([]:Ar),Ai 0,Ai 0] 26,.blk b1 [rv (.slice none 0 0),Ai 0,rv (.slice none 0 0),rS ([]:Ar),Ai 0,Ai 0] 26,.row hp 9 1 (A3 eS (hm++([(Ax (Ax hg.1 hj) 0).fStr]:List Ar)))]) ((A0 (i:=1) rfl).trans (Vp _ ((A0 (i:=1) rfl).trans (Vp _ ((A0 (i:=1) rfl).trans (Vp _ (Vo _))))))) ?_)))))))));have gg:=Bb gf ht;exact As (At (hQ,(hj+1,hm++([(Ax (Ax hg.1 hj) 0).fStr]:List Ar)),hp) ⟨gg,Vv _⟩ (A4.c rfl (A4.c rfl (A4.c5 rfl rfl rfl rfl rfl A4.nil))) (sC (sC (sC (sC sN)))))
     ·refine Bq (Ay ?_);have gh:=BD hU ht hw;exact Ay (AS (At (hm,ho) gh (A4.c rfl (A4.c rfl (A4.c rfl (A4.c rfl A4.nil)))) (sC (sC (sC (sC sN))))))
    ·rintro⟨hk,hl⟩ hs;refine Cj (l':=[(2,rP b1 0),(4,rP b2 0),(7,AE 1 (A3 Ae r9.1)),(8,rP hb 0)]) (H':=[.blk hb [rv hl,Ai 0,rv (.slice none 0 0),rS ([]:Ar),Ai 0,Ai 0] 26,.blk b2 [rv (.slice none 0 0),Ai 0,rv (.slice none 0 0),rS ([]:Ar),Ai 0,Ai 0] 26,.blk b1 [rv (.slice none 0 0),Ai 0,rv (.slice none 0 0),rS ([]:Ar),Ai 0,Ai 0] 26,.row hl 9 1 (A3 eS hk)]) rfl rfl ?_;replace hs:HJ F r9 hk=some r:=hs;unfold HJ at hs;refine AV (AG (An (ob hs λhu gi gj=>ck gj λgl gm=>ck gm λgp gq=>JZ 7 [2,4,7,8] [⟨[],AE 1 (A3 eS hu),none,none,none⟩,⟨[],AE 1 (A3 Ae r9.1),none,none,none⟩,⟨[1],Jd [AE 4 (A3 Ab (Ax r9.1 1))],none,none,none⟩,⟨[2],AE 4 (A3 Ab (Ax r9.1 1)),none,none,none⟩,⟨[3],Jd (Ab (Ax (Ax r9.1 1) 0)),none,none,none⟩,⟨[4],Jd [rS ((Ax (Ax r9.1 1) 0).fStr),Ai ((Ax (Ax r9.1 1) 0).fN)],none,none,none⟩,⟨[5],rS ((Ax (Ax r9.1 1) 0).fStr),none,none,none⟩] ?_ (λβ=>?_))))
     ·refine UR (Ea Tryz.call45 (N1 hu gi) rfl) (LH (A5 rfl) (LH (AT (enc:=Ae) (ys:=r9.1) BN BY rfl rfl gl) (LH (AL C9 rfl rfl) (LH (AT (enc:=Ab) (ys:=Ax r9.1 1) B0 BI rfl rfl gp) (LH (AR BA rfl CB rfl rfl) (LH (AL CO rfl rfl) ?_))))));exact UQ
     refine LY (H1:=[.blk hb [rv hl,Ai 0,rv (.slice none 0 0),rS ([]:Ar),Ai 0,Ai 0] 26,.blk b2 [rv (.slice none 0 0),Ai 0,rv (.slice none 0 0),rS ([]:Ar),Ai 0,Ai 0] 26,.blk b1 [rv (.slice none 0 0),Ai 0,rv (.slice none 0 0),rS ([]:Ar),Ai 0,Ai 0] 26,.row hl 9 1 (A3 eS hk)]) [94,95,96,97,98,99,100,2,4,7,8] ?_;refine ob gq λhq gr gs=>Cs Tryz.call57 (NQ F hu ((Ax (Ax r9.1 1) 0).fStr) hq gr) rfl (vF AM rfl BZ (Bs (i:=0) BZ rfl rfl (B3 rfl) rfl rfl (cs':=[rv hl,Ai hq,rv (.slice none 0 0),rS ([]:Ar),Ai 0,Ai 0]) rfl (H':=[.blk hb [rv hl,Ai hq,rv (.slice none 0 0),rS ([]:Ar),Ai 0,Ai 0] 26,.blk b2 [rv (.slice none 0 0),Ai 0,rv (.slice none 0 0),rS ([]:Ar),Ai 0,Ai 0] 26,.blk b1 [rv (.slice none 0 0),Ai 0,rv (.slice none 0 0),rS ([]:Ar),Ai 0,Ai 0] 26,.row hl 9 1 (A3 eS hk)]) rfl (Al (An (WC.freeze (i:=3) rfl (WC.upBlk (i:=1) (cs':=[AE 1 (A3 eS hk),Ai hq,AE 1 (A3 Ae ([]:List (List Aa))),rS ([]:Ar),Ai 0,Ai 0]) rfl ⟨Up.fact (i:=0) rfl,Up.refl _,Up.le (DA.nil _),Up.refl _,Up.refl _,Up.refl _,trivial⟩ (ck gs λgt gu=>ob gu λha gv gw=>Ee (H1:=[.fact hl (AE 1 (A3 eS hk)),.blk hb (Ad ha.1) 26,.blk b2 [rv (.slice none 0 0),Ai 0,rv (.slice none 0 0),rS ([]:Ar),Ai 0,Ai 0] 26,.blk b1 [rv (.slice none 0 0),Ai 0,rv (.slice none 0 0),rS ([]:Ar),Ai 0,Ai 0] 26]) [2,4,7,8] [⟨[],Bt [AE 1 (A3 eS hk),Ai hq,AE 1 (A3 Ae ([]:List (List Aa))),rS ([]:Ar),Ai 0,Ai 0],1⟩,⟨[],AE 1 (A3 Ae r9.1),0⟩,⟨[1],AE 1 (A3 Ae (List.drop (Bl 2) r9.1)),0⟩,⟨[0,2],CV [Bt (Ad ha.1),rB ha.2],0⟩,⟨[3],CV [Bt (Ad ha.1),rB ha.2],0⟩,⟨[4],Bt (Ad ha.1),0⟩,⟨[4],rB ha.2,0⟩,⟨[5],rv undef,2⟩,⟨[6],rB ha.2,0⟩] (rle [(8,_),(2,[.fact hl (AE 1 (A3 eS hk)),.blk hb (Ad ha.1) 26,.blk b2 [rv (.slice none 0 0),Ai 0,rv (.slice none 0 0),rS ([]:Ar),Ai 0,Ai 0] 26,.blk b1 [rv (.slice none 0 0),Ai 0,rv (.slice none 0 0),rS ([]:Ar),Ai 0,Ai 0] 26])]) [12,2,4,8] ?_ ?_)))))))
     ·refine of (AH (i:=1) Cb B5 rfl rfl rfl rfl) (oq (A5 rfl) (oq (Dz BN BY rfl rfl gt) (Dh rfl (λH=>Ea Tryz.call58 (PJ F (Af.mk hk hq ([]:List (List Aa)) ([]:Ar) 0 0) (List.drop (Bl 2) r9.1) ha gv) rfl) ?_)));refine oq (A5 rfl) (oq (A7 rfl rfl) (oq (A7 rfl rfl) (GY rfl (Lz (CP (i:=1) B5 rfl rfl rfl (BC.c rfl) rfl rfl (cs':=[AE 1 (A3 eS ha.1.fPath),Ai ha.1.fOp,AE 1 (A3 Ae ha.1.fValues),rS ha.1.fText,Ai ha.1.fLow,Ai ha.1.fHigh]) rfl (H':=[.fact hl (AE 1 (A3 eS hk)),.blk hb (Ad ha.1) 26,.blk b2 [rv (.slice none 0 0),Ai 0,rv (.slice none 0 0),rS ([]:Ar),Ai 0,Ai 0] 26,.blk b1 [rv (.slice none 0 0),Ai 0,rv (.slice none 0 0),rS ([]:Ar),Ai 0,Ai 0] 26]) rfl)) ?_)));refine oq (AD rfl) ?_;exact Ce
     refine AG (An (AK [(2,rP b1 0),(4,rP b2 0),(8,rP hb 0),(116,rB ((decide (ha.1.fOp<1))||(!ha.2)))] [.blk hb (Ad ha.1) 26,.blk b2 [rv (.slice none 0 0),Ai 0,rv (.slice none 0 0),rS ([]:Ar),Ai 0,Ai 0] 26,.blk b1 [rv (.slice none 0 0),Ai 0,rv (.slice none 0 0),rS ([]:Ar),Ai 0,Ai 0] 26] ?_ ?_))
     ·refine Ak (vF AM rfl BZ (vL 1 Cc rfl (wv (Cr rfl rfl) (wm rfl (AU (decide (ha.1.fOp<1)) (λhn=>?_) (λhn=>?_))))))
      ·refine wf hn (wf hn (wv (r:=rB true) (Az rfl hn rfl) (Aj ?_)));exact Cp hn
      ·refine wo hn (wm rfl (wo hn (wv (B1 rfl) (Cq rfl hn rfl (Aj ?_)))));exact Cp hn
     refine cz gw rfl (λgx gy=>?_) (λgx gz=>?_)
     ·refine Ah (wv (AH (i:=1) Cb B5 rfl rfl rfl rfl) (Ba (i:=2) B5 rfl rfl rfl (BC.c rfl) rfl rfl (cs':=[rv (.slice none 0 0),Ai 0,rv (.slice none 0 0),rS ([]:Ar),Ai 0,Ai 0]) rfl (H':=[.blk hb (Ad ha.1) 26,.blk b2 [rv (.slice none 0 0),Ai 0,rv (.slice none 0 0),rS ([]:Ar),Ai 0,Ai 0] 26,.blk b1 [rv (.slice none 0 0),Ai 0,rv (.slice none 0 0),rS ([]:Ar),Ai 0,Ai 0] 26]) rfl (wa rfl (Al (Aq (Ac (WK.upBlk (i:=2) (cs':=[AE 1 (A3 eS ([]:List Ar)),Ai 0,AE 1 (A3 Ae ([]:List (List Aa))),rS ([]:Ar),Ai 0,Ai 0]) rfl ⟨Up.le (DA.nil _),Up.refl _,Up.le (DA.nil _),Up.refl _,Up.refl _,Up.refl _,trivial⟩ ?_)))))));obtain rfl:=Am gy;exact Ap (D9 NI (DC (i:=2) Cb B5 rfl rfl rfl) (A9 rfl)) (sS (sS (sS sN))) ⟨rfl,rfl⟩
     ·refine Av (AG (An (Ah (wv (AH (i:=0) Cb B5 rfl rfl rfl rfl) (ob gz λg0 g1 g2=>Cs Qp (Hz F ha.1 g0 g1) rfl (wa rfl (AW (wm rfl (wv (Bf rfl rfl) (Al (cz g2 rfl (λg3 g4=>?_) (λg3 g5=>?_))))))))))))
      ·refine Ah (wv (AH (i:=1) Cb B5 rfl rfl rfl rfl) (wm rfl (Ba (i:=2) B5 rfl rfl rfl (BC.c rfl) rfl rfl (cs':=[rv (.slice none 0 0),Ai 0,rv (.slice none 0 0),rS ([]:Ar),Ai 0,Ai 0]) rfl (H':=[.blk hb (Ad ha.1) 26,.blk b2 [rv (.slice none 0 0),Ai 0,rv (.slice none 0 0),rS ([]:Ar),Ai 0,Ai 0] 26,.blk b1 [rv (.slice none 0 0),Ai 0,rv (.slice none 0 0),rS ([]:Ar),Ai 0,Ai 0] 26]) rfl (wa rfl (Al (Aq (Ac (WK.upBlk (i:=2) (cs':=[AE 1 (A3 eS ([]:List Ar)),Ai 0,AE 1 (A3 Ae ([]:List (List Aa))),rS ([]:Ar),Ai 0,Ai 0]) rfl ⟨Up.le (DA.nil _),Up.refl _,Up.le (DA.nil _),Up.refl _,Up.refl _,Up.refl _,trivial⟩ ?_))))))));obtain rfl:=Am g4;exact Ap (D9 NI (DC (i:=2) Cb B5 rfl rfl rfl) (A9 rfl)) (sS (sS (sS sN))) ⟨rfl,rfl⟩
      ·refine Av (AG (Ah (wv (AH (i:=0) Cb B5 rfl rfl rfl rfl) (Ba (i:=2) B5 rfl rfl rfl (BC.c rfl) rfl rfl (cs':=[AE 1 (A3 eS ha.1.fPath),Ai ha.1.fOp,AE 1 (A3 Ae ha.1.fValues),rS ha.1.fText,Ai ha.1.fLow,Ai ha.1.fHigh]) rfl (H':=[.blk hb (Ad ha.1) 26,.blk b2 [rv (.slice none 0 0),Ai 0,rv (.slice none 0 0),rS ([]:Ar),Ai 0,Ai 0] 26,.blk b1 (Ad ha.1) 26]) rfl (wa rfl (Al (Aq ?_)))))));obtain rfl:=Am g5;exact Ap (D9 NI (DC (i:=2) Cb B5 rfl rfl rfl) (A9 rfl)) (sS (sS (sS sN))) ⟨rfl,rfl⟩
end Go.Proofs.YtghdglcmblpbeaaGreatDoor.Q
namespace Go.Proofs.YtghdglcmblpbeaaGreatDoor
open Go
set_option linter.unusedVariables false
def Em (a:(List Ar))(b:(List Ar))(ha:Int):Option (Stp (Int) (Out (Bool) (Unit))):=
 AP (decide (ha<(b.length:Int))) (AQ (Co ha (a.length:Int))<|AQ (Co ha (b.length:Int))<|AP (!decide ((Ax a ha)=(Ax b ha))) (some (.out (.ret false))) (AQ (BM .i64 (ha+1))<|some (.next (ha+1)))) (some (.out (.go ())))
def El :Option (Bool):=
 some true
def DP (F:Nat)(a:(List Ar))(b:(List Ar)):Option (Bool):=
 AP (decide ((a.length:Int)<(b.length:Int))) (some false) (Bd (BW (λσ=>Em a b σ) F 0) (BV λν=>El ))
def ES (a:(List Aa))(b:(List Aa))(ha:Int):Option (Stp (Int) (Out (Bool) (Unit))):=
 AP (decide (ha<(a.length:Int))) (AQ (Co ha (a.length:Int))<|AQ (Co ha (b.length:Int))<|AP (!(decide (((Ax a ha).fKind)=((Ax b ha).fKind))&&decide (((Ax a ha).fInt)=((Ax b ha).fInt))&&decide (((Ax a ha).fStr)=((Ax b ha).fStr))&&decide (((Ax a ha).fN)=((Ax b ha).fN)))) (some (.out (.ret false))) (AQ (BM .i64 (ha+1))<|some (.next (ha+1)))) (some (.out (.go ())))
def ER :Option (Bool):=
 some true
def Lh (F:Nat)(a:(List Aa))(b:(List Aa)):Option (Bool):=
 AP (!decide ((a.length:Int)=(b.length:Int))) (some false) (Bd (BW (λσ=>ES a b σ) F 0) (BV λν=>ER ))
def EQ (F:Nat)(a:Af)(b:Af)(ha:Int):Option (Stp (Int) (Out (Bool) (Unit))):=
 AP (decide (ha<(a.fValues.length:Int))) (AQ (Co ha (a.fValues.length:Int))<|AQ (Co ha (b.fValues.length:Int))<|Bd (Lh F (Ax a.fValues ha) (Ax b.fValues ha)) λhb=>AP (!hb) (some (.out (.ret false))) (AQ (BM .i64 (ha+1))<|some (.next (ha+1)))) (some (.out (.go ())))
def EP :Option (Bool):=
 some true
def Lg (F:Nat)(a:Af)(b:Af):Option (Bool):=
 AQ (imp (!(!decide ((a.fPath.length:Int)=(b.fPath.length:Int)))) ((DP F a.fPath b.fPath).isSome))<|AP (((!decide ((a.fPath.length:Int)=(b.fPath.length:Int)))||((!(ov (DP F a.fPath b.fPath)))||((!decide (a.fOp=b.fOp))||((!decide ((a.fValues.length:Int)=(b.fValues.length:Int)))||((!decide (a.fText=b.fText))||((!decide (a.fLow=b.fLow))||(!decide (a.fHigh=b.fHigh))))))))) (some false) (Bd (BW (λσ=>EQ F a b σ) F 0) (BV λν=>EP ))
def Cw (v:(List Aa))(ha:Int):Option (Stp (Int) (Out (Bool) (Unit))):=
 AP (decide (ha<(v.length:Int))) (AQ (Co ha (v.length:Int))<|AP (decide (5000<(((Ax v ha).fStr).length:Int))) (some (.out (.ret false))) (AQ (BM .i64 (ha+1))<|some (.next (ha+1)))) (some (.out (.go ())))
def CH :Option (Bool):=
 some true
def Cn (F:Nat)(v:(List Aa)):Option (Bool):=
 AP (decide (300<(v.length:Int))) (some false) (Bd (BW (λσ=>Cw v σ) F 0) (BV λν=>CH ))
def D5 (F:Nat)(f:Af)(ha:Int):Option (Stp (Int) (Out (Bool) (Unit))):=
 AP (decide (ha<(f.fValues.length:Int))) (AQ (Co ha (f.fValues.length:Int))<|Bd (Cn F (Ax f.fValues ha)) λhb=>AP (!hb) (some (.out (.ret false))) (AQ (BM .i64 (ha+1))<|some (.next (ha+1)))) (some (.out (.go ())))
def Ec :Option (Bool):=
 some true
def D6 (f:Af)(ha:Int):Option (Stp (Int) (Out (Bool) (Unit))):=
 AP (decide (ha<(f.fPath.length:Int))) (AQ (Co ha (f.fPath.length:Int))<|AP (decide (1000<((Ax f.fPath ha).length:Int))) (some (.out (.ret false))) (AQ (BM .i64 (ha+1))<|some (.next (ha+1)))) (some (.out (.go ())))
def D4 (F:Nat)(f:Af):Option (Bool):=
 Bd (BW (λσ=>D5 F f σ) F 0) (BV λν=>Ec )
def H6 (F:Nat)(f:Af):Option (Bool):=
 AP (((decide (10<(f.fPath.length:Int)))||((decide (20<(f.fValues.length:Int)))||(decide (1000<(f.fText.length:Int)))))) (some false) (Bd (BW (λσ=>D6 f σ) F 0) (BV λν=>D4 F f ))
end Go.Proofs.YtghdglcmblpbeaaGreatDoor
namespace Go.Proofs.YtghdglcmblpbeaaGreatDoor.Q
open Go Go.RowKit
set_option linter.unusedVariables false
set_option linter.unusedSimpArgs false
set_option maxRecDepth 100000
set_option maxHeartbeats 4000000
theorem N4 (F:Nat)(a:(List Ar))(b:(List Ar))(r:Bool)(h:DP F a b=some r):Fn Tryz.prog GE 63 [AE 1 (A3 eS a),AE 1 (A3 eS b)] [] (λR H=>R=rB r∧H=[]):=by
 refine enter (n:=26) Tryz.func63 rfl Tryz.ntmps63 rfl (λw Z=>?_);unfold DP at h;refine Ah (wa rfl (Al (An (Ah (wm rfl (wv (AI (ys:=a) (enc:=eS) CQ rfl) (wm rfl (wv (AI (ys:=b) (enc:=eS) CQ rfl) (wv (Cr rfl rfl) (Al (cz h rfl (λc1 h2=>?_) (λc1 h3=>?_))))))))))))
 ·refine Ah (wa rfl (Al (Aq (Ac ?_))));obtain rfl:=Am h2;exact Ap (Bw Tryz.results63 (A9 rfl)) sN ⟨rfl,rfl⟩
 ·refine Av (AG (An (Ah (wm rfl (wv (AI (ys:=b) (enc:=eS) CQ rfl) (wv (r:=Ai 0) (A5 rfl) (Al (AA (ob h3 λhh hi hg=>Bg (S:=Nat×(Int)×(Unit)) (V:=(Unit)×(Unit)) 0 (λσ=>BW (λσ=>Em a b σ) σ.1 σ.2.1=some hh) (λσ=>[(0,AE 1 (A3 eS a)),(1,AE 1 (A3 eS b)),(12,Ai (b.length:Int)),(13,Ai σ.2.1)]) (λσ=>[]) (λσ=>σ.1) (F,0,()) hi (A4.c rfl (A4.c rfl (A4.c rfl (A4.c rfl A4.nil)))) sN (λσ=>El =some r) (λσ=>[]) (λσ=>[]) ?_ ?_)))))))))
  ·rintro⟨h4,ha,⟨⟩⟩ hj;refine B2 (l':=[(0,AE 1 (A3 eS a)),(1,AE 1 (A3 eS b)),(12,Ai (b.length:Int)),(13,Ai ha)]) (H':=[]) rfl rfl ?_;obtain⟨hk,rfl,hl,hb,hf⟩:=Cf hj;replace hb:Em a b ha=some hl:=hb;unfold Em at hb;refine Ah (wv (Cr rfl rfl) (Al (An (cz hb rfl (λhm hn=>?_) (λhm ho=>?_)))))
   ·refine Av (AG (An (AA (Ah (wm rfl (wa rfl (Al (An (ck hn λhp hq=>ck hq λhr hs=>Cy [0,1,5,12,13] [⟨[],AE 1 (A3 eS a),0⟩,⟨[],Ai ha,0⟩,⟨[0,1],Jd [rS (Ax a ha)],0⟩,⟨[2],rS (Ax a ha),0⟩,⟨[],AE 1 (A3 eS b),0⟩,⟨[],Ai ha,0⟩,⟨[4,5],Jd [rS (Ax b ha)],0⟩,⟨[6],rS (Ax b ha),0⟩,⟨[3,7],rB (!decide ((Ax a ha)=(Ax b ha))),0⟩] [24,0,1,12,13] ?_ ?_)))))))))
    ·refine oq (A5 rfl) (oq (A5 rfl) (oq (AT (enc:=eS) (ys:=a) CQ CB rfl rfl hp) (oq (AL CO rfl rfl) (oq (A5 rfl) (oq (A5 rfl) (oq (AT (enc:=eS) (ys:=b) CQ CB rfl rfl hr) (oq (AL CO rfl rfl) (oq (Eb rfl rfl) ?_))))))));exact Ce
    refine AG (cz hs rfl (λht hu=>?_) (λht hw=>?_))
    ·refine Ah (wa rfl (Al (Aq (Ao (Ac (Ac (AN ?_)))))));have hx:=Be hu hf hg;refine Ao (Ac ?_);obtain rfl:=Am hx;exact Ap (Bw Tryz.results63 (A9 rfl)) sN ⟨rfl,rfl⟩
    ·refine Av (A8 (AG (Ak (ck hw λhy hz=>wv (Bj rfl rfl hy) (wm rfl (Aj ?_))))));have h0:=Bb hz hf;exact As (At (hk,ha+1,()) ⟨h0,Vv _⟩ (A4.c rfl (A4.c rfl (A4.c rfl (A4.c rfl A4.nil)))) sN)
   ·refine Bq (Ay ?_);have h1:=BD ho hf hg;exact Ay (AS (At ((),()) h1 A4.nil sN))
  ·rintro⟨⟨⟩,⟨⟩⟩ he;refine Cj (l':=[]) (H':=[]) rfl rfl ?_;replace he:El =some r:=he;unfold El at he;refine AV (AG (Ah (wa rfl (Al (Aq ?_)))));obtain rfl:=Am he;exact Ap (Bw Tryz.results63 (A9 rfl)) sN ⟨rfl,rfl⟩
theorem Oq (F:Nat)(a:(List Aa))(b:(List Aa))(r:Bool)(h:Lh F a b=some r):Fn Tryz.prog GE 64 [AE 4 (A3 Ab a),AE 4 (A3 Ab b)] [] (λR H=>R=rB r∧H=[]):=by
 refine enter (n:=26) Tryz.func64 rfl Tryz.ntmps64 rfl (λw Z=>?_);unfold Lh at h;refine Ah (wa rfl (Al (An (Ah (wm rfl (wv (AI (ys:=a) (enc:=Ab) B0 rfl) (wm rfl (wv (AI (ys:=b) (enc:=Ab) B0 rfl) (wv (Bf rfl rfl) (Al (cz h rfl (λc1 h2=>?_) (λc1 h3=>?_))))))))))))
 ·refine Ah (wa rfl (Al (Aq (Ac ?_))));obtain rfl:=Am h2;exact Ap (Bw Tryz.results64 (A9 rfl)) sN ⟨rfl,rfl⟩
 ·refine Av (AG (An (Ah (wm rfl (wv (AI (ys:=a) (enc:=Ab) B0 rfl) (wv (r:=Ai 0) (A5 rfl) (Al (AA (ob h3 λhh hi hg=>Bg (S:=Nat×(Int)×(Unit)) (V:=(Unit)×(Unit)) 0 (λσ=>BW (λσ=>ES a b σ) σ.1 σ.2.1=some hh) (λσ=>[(0,AE 4 (A3 Ab a)),(1,AE 4 (A3 Ab b)),(12,Ai (a.length:Int)),(13,Ai σ.2.1)]) (λσ=>[]) (λσ=>σ.1) (F,0,()) hi (A4.c rfl (A4.c rfl (A4.c rfl (A4.c rfl A4.nil)))) sN (λσ=>ER =some r) (λσ=>[]) (λσ=>[]) ?_ ?_)))))))))
  ·rintro⟨h4,ha,⟨⟩⟩ hj;refine B2 (l':=[(0,AE 4 (A3 Ab a)),(1,AE 4 (A3 Ab b)),(12,Ai (a.length:Int)),(13,Ai ha)]) (H':=[]) rfl rfl ?_;obtain⟨hk,rfl,hl,hb,hf⟩:=Cf hj;replace hb:ES a b ha=some hl:=hb;unfold ES at hb;refine Ah (wv (Cr rfl rfl) (Al (An (cz hb rfl (λhm hn=>?_) (λhm ho=>?_)))))
   ·refine Av (AG (An (AA (Ah (wm rfl (wa rfl (Al (An (ck hn λhp hq=>ck hq λhr hs=>Cy [0,1,5,12,13] [⟨[],AE 4 (A3 Ab a),0⟩,⟨[],Ai ha,0⟩,⟨[0,1],Jd (Ab (Ax a ha)),0⟩,⟨[2],Bt (Ab (Ax a ha)),0⟩,⟨[],AE 4 (A3 Ab b),0⟩,⟨[],Ai ha,0⟩,⟨[4,5],Jd (Ab (Ax b ha)),0⟩,⟨[6],Bt (Ab (Ax b ha)),0⟩,⟨[3,7],rB (!(decide (((Ax a ha).fKind)=((Ax b ha).fKind))&&decide (((Ax a ha).fInt)=((Ax b ha).fInt))&&decide (((Ax a ha).fStr)=((Ax b ha).fStr))&&decide (((Ax a ha).fN)=((Ax b ha).fN)))),0⟩] [24,0,1,12,13] ?_ ?_)))))))))
    ·refine oq (A5 rfl) (oq (A5 rfl) (oq (AT (enc:=Ab) (ys:=a) B0 BI rfl rfl hp) (oq (D2 MM BI rfl rfl rfl) (oq (A5 rfl) (oq (A5 rfl) (oq (AT (enc:=Ab) (ys:=b) B0 BI rfl rfl hr) (oq (D2 MM BI rfl rfl rfl) (oq (JM rfl rfl) ?_))))))));exact Ce
    refine AG (cz hs rfl (λht hu=>?_) (λht hw=>?_))
    ·refine Ah (wa rfl (Al (Aq (Ao (Ac (Ac (AN ?_)))))));have hx:=Be hu hf hg;refine Ao (Ac ?_);obtain rfl:=Am hx;exact Ap (Bw Tryz.results64 (A9 rfl)) sN ⟨rfl,rfl⟩
    ·refine Av (A8 (AG (Ak (ck hw λhy hz=>wv (Bj rfl rfl hy) (wm rfl (Aj ?_))))));have h0:=Bb hz hf;exact As (At (hk,ha+1,()) ⟨h0,Vv _⟩ (A4.c rfl (A4.c rfl (A4.c rfl (A4.c rfl A4.nil)))) sN)
   ·refine Bq (Ay ?_);have h1:=BD ho hf hg;exact Ay (AS (At ((),()) h1 A4.nil sN))
  ·rintro⟨⟨⟩,⟨⟩⟩ he;refine Cj (l':=[]) (H':=[]) rfl rfl ?_;replace he:ER =some r:=he;unfold ER at he;refine AV (AG (Ah (wa rfl (Al (Aq ?_)))));obtain rfl:=Am he;exact Ap (Bw Tryz.results64 (A9 rfl)) sN ⟨rfl,rfl⟩
theorem Oo (F:Nat)(a:Af)(b:Af)(r:Bool)(h:Lg F a b=some r):Fn Tryz.prog GE 23 [Bt (Ad a),Bt (Ad b)] [] (λR H=>R=rB r∧H=[]):=by
 refine enter (n:=77) Tryz.func23 rfl Tryz.ntmps23 rfl (λw Z=>?_);unfold Lg at h;refine Ah (By rfl rfl (λb1=>?_));refine By rfl rfl (λb2=>?_);refine wa rfl (Al (An (ck h λg3 h4=>AK [(2,rP b1 0),(3,rP b2 0),(57,rB ((!decide ((a.fPath.length:Int)=(b.fPath.length:Int)))||((!(ov (DP F a.fPath b.fPath)))||((!decide (a.fOp=b.fOp))||((!decide ((a.fValues.length:Int)=(b.fValues.length:Int)))||((!decide (a.fText=b.fText))||((!decide (a.fLow=b.fLow))||(!decide (a.fHigh=b.fHigh)))))))))] [.blk b2 (Ad b) 26,.blk b1 (Ad a) 26] ?_ ?_)))
 ·refine Ak (vF AM rfl Gd (vL 1 Hg rfl (wv (AI (ys:=a.fPath) (enc:=eS) CQ rfl) (vF AM rfl Gd (vL 0 Hg rfl (wv (AI (ys:=b.fPath) (enc:=eS) CQ rfl) (wv (Bf rfl rfl) (wm rfl (AU (!decide ((a.fPath.length:Int)=(b.fPath.length:Int))) (λc5=>?_) (λc5=>?_))))))))))
  ·refine wf c5 (wf c5 (wf c5 (wf c5 (wf c5 (wf c5 (wv (r:=rB true) (Az rfl c5 rfl) (wm rfl (wz rfl rfl (wz rfl rfl (wz rfl rfl (wz rfl rfl (wz rfl rfl (wv (r:=rB true) (Az (b:=true) rfl rfl rfl) (wm rfl (wz rfl rfl (wz rfl rfl (wz rfl rfl (wz rfl rfl (wz rfl rfl (wz rfl rfl (wz rfl rfl (wv (r:=rB true) (Az (b:=true) rfl rfl rfl) (wm rfl ?_)))))))))))))))))))))));refine wz rfl rfl (wz rfl rfl (wz rfl rfl (wz rfl rfl (wz rfl rfl (wv (r:=rB true) (Az (b:=true) rfl rfl rfl) (wm rfl (wz rfl rfl (wz rfl rfl (wz rfl rfl (wz rfl rfl (wz rfl rfl (wv (r:=rB true) (Az (b:=true) rfl rfl rfl) (wm rfl (wz rfl rfl (wz rfl rfl (wz rfl rfl (wz rfl rfl (wz rfl rfl (wv (r:=rB true) (Az (b:=true) rfl rfl rfl) (Aj ?_))))))))))))))))))));exact Cp c5
  ·refine wo c5 (vF AM rfl Gd (wo c5 (vL 1 Hg rfl (wo c5 (vF AM rfl Gd (wo c5 (vL 0 Hg rfl (wo c5 (Cs Tryz.call63 (N4 F a.fPath b.fPath (ov (DP F a.fPath b.fPath)) (Gn (CA g3 c5))) rfl (wo c5 (wv (B1 rfl) (Cq rfl c5 rfl (wm rfl (AU (!(ov (DP F a.fPath b.fPath))) (λc6=>?_) (λc6=>?_)))))))))))))))
   ·refine wf c6 (wf c6 (wf c6 (wf c6 (wf c6 (wv (r:=rB true) (Az rfl c6 rfl) (wm rfl (wz rfl rfl (wz rfl rfl (wz rfl rfl (wz rfl rfl (wz rfl rfl (wz rfl rfl (wz rfl rfl (wv (r:=rB true) (Az (b:=true) rfl rfl rfl) (wm rfl (wz rfl rfl (wz rfl rfl (wz rfl rfl (wz rfl rfl (wz rfl rfl (wv (r:=rB true) (Az (b:=true) rfl rfl rfl) (wm rfl (wz rfl rfl ?_)))))))))))))))))))))));refine wz rfl rfl (wz rfl rfl (wz rfl rfl (wz rfl rfl (wv (r:=rB true) (Az (b:=true) rfl rfl rfl) (wm rfl (wz rfl rfl (wz rfl rfl (wz rfl rfl (wz rfl rfl (wz rfl rfl (wv (r:=rB true) (Az (b:=true) rfl rfl rfl) (Aj ?_))))))))))));exact Cp (And.intro c5 c6)
   ·refine wo c6 (vF AM rfl BZ (wo c6 (vL 1 Cc rfl (wo c6 (vF AM rfl BZ (wo c6 (vL 0 Cc rfl (wo c6 (wv (Bf rfl rfl) (Cq rfl c6 rfl (wm rfl (AU (!decide (a.fOp=b.fOp)) (λc7=>?_) (λc7=>?_)))))))))))))
    ·refine wf c7 (wf c7 (wf c7 (wf c7 (wf c7 (wf c7 (wf c7 (wv (r:=rB true) (Az rfl c7 rfl) (wm rfl (wz rfl rfl (wz rfl rfl (wz rfl rfl (wz rfl rfl (wz rfl rfl (wv (r:=rB true) (Az (b:=true) rfl rfl rfl) (wm rfl (wz rfl rfl (wz rfl rfl (wz rfl rfl (wz rfl rfl (wz rfl rfl (wv (r:=rB true) (Az (b:=true) rfl rfl rfl) (wm rfl (wz rfl rfl ?_)))))))))))))))))))))));refine wz rfl rfl (wz rfl rfl (wz rfl rfl (wz rfl rfl (wv (r:=rB true) (Az (b:=true) rfl rfl rfl) (Aj ?_)))));exact Cp (And.intro c5 (And.intro c6 c7))
    ·refine wo c7 (vF AM rfl CD (wo c7 (vL 1 CR rfl (wo c7 (wv (AI (ys:=a.fValues) (enc:=Ae) BN rfl) (wo c7 (vF AM rfl CD (wo c7 (vL 0 CR rfl (wo c7 (wv (AI (ys:=b.fValues) (enc:=Ae) BN rfl) (wo c7 (wv (Bf rfl rfl) (Cq rfl c7 rfl (wm rfl (AU (!decide ((a.fValues.length:Int)=(b.fValues.length:Int))) (λc8=>?_) (λc8=>?_)))))))))))))))))
     ·refine wf c8 (wf c8 (wf c8 (wf c8 (wf c8 (wv (r:=rB true) (Az rfl c8 rfl) (wm rfl (wz rfl rfl (wz rfl rfl (wz rfl rfl (wz rfl rfl (wz rfl rfl (wv (r:=rB true) (Az (b:=true) rfl rfl rfl) (wm rfl (wz rfl rfl (wz rfl rfl (wz rfl rfl (wz rfl rfl (wz rfl rfl (wv (r:=rB true) (Az (b:=true) rfl rfl rfl) (Aj ?_))))))))))))))))))));exact Cp (And.intro c5 (And.intro c6 (And.intro c7 c8)))
     ·refine wo c8 (vF AM rfl CB (wo c8 (vL 1 CO rfl (wo c8 (vF AM rfl CB (wo c8 (vL 0 CO rfl (wo c8 (wv (Eb rfl rfl) (Cq rfl c8 rfl (wm rfl (AU (!decide (a.fText=b.fText)) (λc9=>?_) (λc9=>?_)))))))))))))
      ·refine wf c9 (wf c9 (wf c9 (wf c9 (wf c9 (wv (r:=rB true) (Az rfl c9 rfl) (wm rfl (wz rfl rfl (wz rfl rfl (wz rfl rfl (wz rfl rfl (wz rfl rfl (wv (r:=rB true) (Az (b:=true) rfl rfl rfl) (Aj ?_)))))))))))));exact Cp (And.intro c5 (And.intro c6 (And.intro c7 (And.intro c8 c9))))
      ·refine wo c9 (vF AM rfl BH (wo c9 (vL 1 Cd rfl (wo c9 (vF AM rfl BH (wo c9 (vL 0 Cd rfl (wo c9 (wv (Bf rfl rfl) (Cq rfl c9 rfl (wm rfl (AU (!decide (a.fLow=b.fLow)) (λha=>?_) (λha=>?_)))))))))))))
       ·refine wf ha (wf ha (wf ha (wf ha (wf ha (wv (r:=rB true) (Az rfl ha rfl) (Aj ?_))))));exact Cp (And.intro c5 (And.intro c6 (And.intro c7 (And.intro c8 (And.intro c9 ha)))))
       ·refine wo ha (vF AM rfl BH (wo ha (vL 1 Cd rfl (wo ha (vF AM rfl BH (wo ha (vL 0 Cd rfl (wo ha (wv (Bf rfl rfl) (Cq rfl ha rfl (Aj ?_)))))))))));exact Cp (And.intro c5 (And.intro c6 (And.intro c7 (And.intro c8 (And.intro c9 ha)))))
 refine cz h4 rfl (λhi hj=>?_) (λhi hk=>?_)
 ·refine Ah (wa rfl (Al (Aq (Ac ?_))));obtain rfl:=Am hj;exact Ap (Bw Tryz.results23 (A9 rfl)) (sS (sS sN)) ⟨rfl,rfl⟩
 ·refine Av (AG (An (Ah (vF AM rfl CD (vL 1 CR rfl (wv (AI (ys:=a.fValues) (enc:=Ae) BN rfl) (wv (r:=Ai 0) (A5 rfl) (Al (AA (ob hk λhl hm hh=>Bg (S:=Nat×(Int)×(Unit)) (V:=(Unit)×(Unit)) 0 (λσ=>BW (λσ=>EQ F a b σ) σ.1 σ.2.1=some hl) (λσ=>[(2,rP b1 0),(3,rP b2 0),(60,Ai (a.fValues.length:Int)),(61,Ai σ.2.1)]) (λσ=>[.blk b2 (Ad b) 26,.blk b1 (Ad a) 26]) (λσ=>σ.1) (F,0,()) hm (A4.c rfl (A4.c rfl (A4.c rfl (A4.c rfl A4.nil)))) (sC (sC sN)) (λσ=>EP =some r) (λσ=>[]) (λσ=>[]) ?_ ?_))))))))))
  ·rintro⟨hA,hb,⟨⟩⟩ hn;refine B2 (l':=[(2,rP b1 0),(3,rP b2 0),(60,Ai (a.fValues.length:Int)),(61,Ai hb)]) (H':=[.blk b2 (Ad b) 26,.blk b1 (Ad a) 26]) rfl rfl ?_;obtain⟨ho,rfl,hp,he,hg⟩:=Cf hn;replace he:EQ F a b hb=some hp:=he;unfold EQ at he;refine Ah (wv (Cr rfl rfl) (Al (An (cz he rfl (λhq hr=>?_) (λhq hs=>?_)))))
   ·refine Av (AG (An (AA (Ah (wm rfl (wa rfl (Al (An (ck hr λht hu=>ck hu λhw hx=>JZ 10 [2,3,5,60,61] [⟨[],rP b1 2,none,none,none⟩,⟨[0],AE 1 (A3 Ae a.fValues),none,none,none⟩,⟨[],Ai hb,none,none,none⟩,⟨[1,2],Jd [AE 4 (A3 Ab (Ax a.fValues hb))],none,none,none⟩,⟨[3],AE 4 (A3 Ab (Ax a.fValues hb)),none,none,none⟩,⟨[],rP b2 2,none,none,none⟩,⟨[5],AE 1 (A3 Ae b.fValues),none,none,none⟩,⟨[],Ai hb,none,none,none⟩,⟨[6,7],Jd [AE 4 (A3 Ab (Ax b.fValues hb))],none,none,none⟩,⟨[8],AE 4 (A3 Ab (Ax b.fValues hb)),none,none,none⟩] ?_ (λβ=>?_))))))))))
    ·refine LH (AB AM rfl CD rfl rfl) (UP (Bc (i:=1) CR rfl rfl rfl) (LH (A5 rfl) (LH (AT (enc:=Ae) (ys:=a.fValues) BN BY rfl rfl ht) (LH (AL C9 rfl rfl) (LH (AB AM rfl CD rfl rfl) (UP (Bc (i:=0) CR rfl rfl rfl) (LH (A5 rfl) (LH (AT (enc:=Ae) (ys:=b.fValues) BN BY rfl rfl hw) (LH (AL C9 rfl rfl) ?_)))))))));exact UQ
    refine LY (H1:=[.blk b2 (Ad b) 26,.blk b1 (Ad a) 26]) [64,65,66,67,68,69,70,71,72,73,2,3,5,60,61] ?_;refine ob hx λhy hz h0=>Cs Tryz.call64 (Oq F (Ax a.fValues hb) (Ax b.fValues hb) hy hz) rfl (wv (B1 rfl) (Al (cz h0 rfl (λh1 h2=>?_) (λh1 h3=>?_))))
    ·refine Ah (wa rfl (Al (Aq (Ao (Ac (Ac (AN ?_)))))));have h5:=Be h2 hg hh;refine Ao (Ac ?_);obtain rfl:=Am h5;exact Ap (Bw Tryz.results23 (A9 rfl)) (sS (sS sN)) ⟨rfl,rfl⟩
    ·refine Av (A8 (AG (Ak (ck h3 λh6 h7=>wv (Bj rfl rfl h6) (wm rfl (Aj ?_))))));have h8:=Bb h7 hg;exact As (At (ho,hb+1,()) ⟨h8,Vv _⟩ (A4.c rfl (A4.c rfl (A4.c rfl (A4.c rfl A4.nil)))) (sC (sC sN)))
   ·refine Bq (Ay ?_);have h9:=BD hs hg hh;exact Ay (AS (At ((),()) h9 A4.nil (sS (sS sN))))
  ·rintro⟨⟨⟩,⟨⟩⟩ hf;refine Cj (l':=[]) (H':=[]) rfl rfl ?_;replace hf:EP =some r:=hf;unfold EP at hf;refine AV (AG (Ah (wa rfl (Al (Aq ?_)))));obtain rfl:=Am hf;exact Ap (Bw Tryz.results23 (A9 rfl)) sN ⟨rfl,rfl⟩
theorem Ha (F:Nat)(v:(List Aa))(r:Bool)(h:Cn F v=some r):Fn Tryz.prog GE 11 [AE 4 (A3 Ab v)] [] (λR H=>R=rB r∧H=[]):=by
 refine enter (n:=20) Tryz.func11 rfl Tryz.ntmps11 rfl (λw Z=>?_);unfold Cn at h;refine Ah (wa rfl (Al (An (Ah (wm rfl (wv (AI (ys:=v) (enc:=Ab) B0 rfl) (wv (CX rfl rfl) (Al (cz h rfl (λc1 h2=>?_) (λc1 h3=>?_))))))))))
 ·refine Ah (wa rfl (Al (Aq (Ac ?_))));obtain rfl:=Am h2;exact Ap (Bw Tryz.results11 (A9 rfl)) sN ⟨rfl,rfl⟩
 ·refine Av (AG (An (Ah (wm rfl (wv (AI (ys:=v) (enc:=Ab) B0 rfl) (wv (r:=Ai 0) (A5 rfl) (Al (AA (ob h3 λhh hi hg=>Bg (S:=Nat×(Int)×(Unit)) (V:=(Unit)×(Unit)) 0 (λσ=>BW (λσ=>Cw v σ) σ.1 σ.2.1=some hh) (λσ=>[(0,AE 4 (A3 Ab v)),(8,Ai (v.length:Int)),(9,Ai σ.2.1)]) (λσ=>[]) (λσ=>σ.1) (F,0,()) hi (A4.c rfl (A4.c rfl (A4.c rfl A4.nil))) sN (λσ=>CH =some r) (λσ=>[]) (λσ=>[]) ?_ ?_)))))))))
  ·rintro⟨hz,he,⟨⟩⟩ hj;refine B2 (l':=[(0,AE 4 (A3 Ab v)),(8,Ai (v.length:Int)),(9,Ai he)]) (H':=[]) rfl rfl ?_;obtain⟨hk,rfl,t37,ha,hf⟩:=Cf hj;replace ha:Cw v he=some t37:=ha;unfold Cw at ha;refine Ah (wv (Cr rfl rfl) (Al (An (cz ha rfl (λhl hm=>?_) (λhl hn=>?_)))))
   ·refine Av (AG (An (AA (Ah (wm rfl (wa rfl (AW (wm rfl (wm rfl (ck hm λho hp=>wv (AT (enc:=Ab) (ys:=v) B0 BI rfl rfl ho) (wv (AR BA rfl CB rfl rfl) (wv (AL CO rfl rfl) (wv (BL DH rfl) (wv (CX rfl rfl) (Al (cz hp rfl (λhq hr=>?_) (λhq hs=>?_)))))))))))))))))
    ·refine Ah (wa rfl (Al (Aq (Ao (Ac (Ac (AN ?_)))))));have ht:=Be hr hf hg;refine Ao (Ac ?_);obtain rfl:=Am ht;exact Ap (Bw Tryz.results11 (A9 rfl)) sN ⟨rfl,rfl⟩
    ·refine Av (A8 (AG (Ak (ck hs λhu hw=>wv (Bj rfl rfl hu) (wm rfl (Aj ?_))))));have hx:=Bb hw hf;exact As (At (hk,he+1,()) ⟨hx,Vv _⟩ (A4.c rfl (A4.c rfl (A4.c rfl A4.nil))) sN)
   ·refine Bq (Ay ?_);have hy:=BD hn hf hg;exact Ay (AS (At ((),()) hy A4.nil sN))
  ·rintro⟨⟨⟩,⟨⟩⟩ hb;refine Cj (l':=[]) (H':=[]) rfl rfl ?_;replace hb:CH =some r:=hb;unfold CH at hb;refine AV (AG (Ah (wa rfl (Al (Aq ?_)))));obtain rfl:=Am hb;exact Ap (Bw Tryz.results11 (A9 rfl)) sN ⟨rfl,rfl⟩
theorem On (F:Nat)(f:Af)(r:Bool)(h:H6 F f=some r):Fn Tryz.prog GE 9 [Bt (Ad f)] [] (λR H=>R=rB r∧H=[]):=by
 refine enter (n:=49) Tryz.func9 rfl Tryz.ntmps9 rfl (λw Z=>?_);unfold H6 at h;refine Ah (By rfl rfl (λb1=>?_));refine wa rfl (Al (An (AK [(1,rP b1 0),(20,rB ((decide (10<(f.fPath.length:Int)))||((decide (20<(f.fValues.length:Int)))||(decide (1000<(f.fText.length:Int))))))] [.blk b1 (Ad f) 26] ?_ ?_)))
 ·refine Ak (vF AM rfl Gd (vL 0 Hg rfl (wv (AI (ys:=f.fPath) (enc:=eS) CQ rfl) (wv (CX rfl rfl) (wm rfl (AU (decide (10<(f.fPath.length:Int))) (λc2=>?_) (λc2=>?_)))))))
  ·refine wf c2 (wf c2 (wf c2 (wf c2 (wv (r:=rB true) (Az rfl c2 rfl) (wm rfl (wz rfl rfl (wz rfl rfl (wz rfl rfl (wz rfl rfl (wv (r:=rB true) (Az (b:=true) rfl rfl rfl) (Aj ?_)))))))))));exact Cp c2
  ·refine wo c2 (vF AM rfl CD (wo c2 (vL 0 CR rfl (wo c2 (wv (AI (ys:=f.fValues) (enc:=Ae) BN rfl) (wo c2 (wv (CX rfl rfl) (Cq rfl c2 rfl (wm rfl (AU (decide (20<(f.fValues.length:Int))) (λc3=>?_) (λc3=>?_)))))))))))
   ·refine wf c3 (wf c3 (wf c3 (wf c3 (wv (r:=rB true) (Az rfl c3 rfl) (Aj ?_)))));exact Cp (And.intro c2 c3)
   ·refine wo c3 (vF AM rfl CB (wo c3 (vL 0 CO rfl (wo c3 (wv (BL DH rfl) (wo c3 (wv (CX rfl rfl) (Cq rfl c3 rfl (Aj ?_)))))))));exact Cp (And.intro c2 c3)
 refine cz h rfl (λc4 h5=>?_) (λc4 h6=>?_)
 ·refine Ah (wa rfl (Al (Aq (Ac ?_))));obtain rfl:=Am h5;exact Ap (Bw UM (A9 rfl)) (sS sN) ⟨rfl,rfl⟩
 ·refine Av (AG (An (Ah (vF AM rfl Gd (vL 0 Hg rfl (wv (AI (ys:=f.fPath) (enc:=eS) CQ rfl) (wv (r:=Ai 0) (A5 rfl) (Al (AA (ob h6 λhm hn hk=>Bg (S:=Nat×(Int)×(Unit)) (V:=(Unit)×(Unit)) 0 (λσ=>BW (λσ=>D6 f σ) σ.1 σ.2.1=some hm) (λσ=>[(1,rP b1 0),(23,Ai (f.fPath.length:Int)),(24,Ai σ.2.1)]) (λσ=>[.blk b1 (Ad f) 26]) (λσ=>σ.1) (F,0,()) hn (A4.c rfl (A4.c rfl (A4.c rfl A4.nil))) (sC sN) (λσ=>D4 F f =some r) (λσ=>[(1,rP b1 0)]) (λσ=>[.blk b1 (Ad f) 26]) ?_ ?_))))))))))
  ·rintro⟨hT,hh,⟨⟩⟩ ho;refine B2 (l':=[(1,rP b1 0),(23,Ai (f.fPath.length:Int)),(24,Ai hh)]) (H':=[.blk b1 (Ad f) 26]) rfl rfl ?_;obtain⟨hp,rfl,hq,ha,hi⟩:=Cf ho;replace ha:D6 f hh=some hq:=ha;unfold D6 at ha;refine Ah (wv (Cr rfl rfl) (Al (An (cz ha rfl (λc46 hr=>?_) (λc46 hs=>?_)))))
   ·refine Av (AG (An (AA (Ah (wm rfl (wa rfl (AW (vF AM rfl Gd (vL 0 Hg rfl (wm rfl (ck hr λht hu=>wv (AT (enc:=eS) (ys:=f.fPath) CQ CB rfl rfl ht) (wv (AL CO rfl rfl) (wv (BL DH rfl) (wv (CX rfl rfl) (Al (cz hu rfl (λhw hx=>?_) (λhw hy=>?_)))))))))))))))))
    ·refine Ah (wa rfl (Al (Aq (Ao (Ac (Ac (AN ?_)))))));have hz:=Be hx hi hk;refine Ao (Ac ?_);obtain rfl:=Am hz;exact Ap (Bw UM (A9 rfl)) (sS sN) ⟨rfl,rfl⟩
    ·refine Av (A8 (AG (Ak (ck hy λh0 h1=>wv (Bj rfl rfl h0) (wm rfl (Aj ?_))))));have h2:=Bb h1 hi;exact As (At (hp,hh+1,()) ⟨h2,Vv _⟩ (A4.c rfl (A4.c rfl (A4.c rfl A4.nil))) (sC sN))
   ·refine Bq (Ay ?_);have h3:=BD hs hi hk;exact Ay (AS (At ((),()) h3 (A4.c rfl A4.nil) (sC sN)))
  ·rintro⟨⟨⟩,⟨⟩⟩ hb;refine Cj (l':=[(1,rP b1 0)]) (H':=[.blk b1 (Ad f) 26]) rfl rfl ?_;replace hb:D4 F f =some r:=hb;unfold D4 at hb;refine AV (AG (An (Ah (vF AM rfl CD (vL 0 CR rfl (wv (AI (ys:=f.fValues) (enc:=Ae) BN rfl) (wv (r:=Ai 0) (A5 rfl) (Al (AA (ob hb λh4 h7 hl=>Bg (S:=Nat×(Int)×(Unit)) (V:=(Unit)×(Unit)) 2 (λσ=>BW (λσ=>D5 F f σ) σ.1 σ.2.1=some h4) (λσ=>[(1,rP b1 0),(37,Ai (f.fValues.length:Int)),(38,Ai σ.2.1)]) (λσ=>[.blk b1 (Ad f) 26]) (λσ=>σ.1) (F,0,()) h7 (A4.c rfl (A4.c rfl (A4.c rfl A4.nil))) (sC sN) (λσ=>Ec =some r) (λσ=>[]) (λσ=>[]) ?_ ?_))))))))))
   ·rintro⟨hU,he,⟨⟩⟩ h8;refine B2 (l':=[(1,rP b1 0),(37,Ai (f.fValues.length:Int)),(38,Ai he)]) (H':=[.blk b1 (Ad f) 26]) rfl rfl ?_;obtain⟨h9,rfl,hA,hf,hj⟩:=Cf h8;replace hf:D5 F f he=some hA:=hf;unfold D5 at hf;refine Ah (wv (Cr rfl rfl) (Al (An (cz hf rfl (λhB hC=>?_) (λhB hD=>?_)))))
    ·refine Av (AG (An (AA (Ah (wm rfl (wa rfl (AW (vF AM rfl CD (vL 0 CR rfl (wm rfl (ck hC λhE hG=>wv (AT (enc:=Ae) (ys:=f.fValues) BN BY rfl rfl hE) (wv (AL C9 rfl rfl) (ob hG λhH hI hJ=>Cs Tryz.call11 (Ha F (Ax f.fValues he) hH hI) rfl (wv (B1 rfl) (Al (cz hJ rfl (λhK hL=>?_) (λhK hN=>?_)))))))))))))))))
     ·refine Ah (wa rfl (Al (Aq (Ao (Ac (Ac (AN ?_)))))));have hO:=Be hL hj hl;refine Ao (Ac ?_);obtain rfl:=Am hO;exact Ap (Bw UM (A9 rfl)) (sS sN) ⟨rfl,rfl⟩
     ·refine Av (A8 (AG (Ak (ck hN λhP hQ=>wv (Bj rfl rfl hP) (wm rfl (Aj ?_))))));have hR:=Bb hQ hj;exact As (At (h9,he+1,()) ⟨hR,Vv _⟩ (A4.c rfl (A4.c rfl (A4.c rfl A4.nil))) (sC sN))
    ·refine Bq (Ay ?_);have hS:=BD hD hj hl;exact Ay (AS (At ((),()) hS A4.nil (sS sN)))
   ·rintro⟨⟨⟩,⟨⟩⟩ hg;refine Cj (l':=[]) (H':=[]) rfl rfl ?_;replace hg:Ec =some r:=hg;unfold Ec at hg;refine AV (AG (Ah (wa rfl (Al (Aq ?_)))));obtain rfl:=Am hg;exact Ap (Bw UM (A9 rfl)) sN ⟨rfl,rfl⟩
end Go.Proofs.YtghdglcmblpbeaaGreatDoor.Q
namespace Go.Proofs.YtghdglcmblpbeaaGreatDoor
open Go
set_option linter.unusedVariables false
def IE (n:Int):Option ((List Aa)):=
 some ([(Aa.mk 3 n ([]:Ar) 0)]:List Aa)
def Hx (F:Nat) :Option (Bool):=
 Bd (Mw F (Af.mk ([([97]:Ar)]:List Ar) 6 ([]:List (List Aa)) ([]:Ar) 1 5)) λr4=>Bd (Oe F ([91,91,34,97,34,93,44,34,114,97,110,103,101,34,44,49,44,53,93]:Ar)) λr7=>Bd (IE 2) λha=>Bd (Og F (Af.mk ([([97]:Ar)]:List Ar) 6 ([]:List (List Aa)) ([]:Ar) 1 5) ([(Aa.mk 6 0 ([]:Ar) 1),(Aa.mk 4 0 ([97]:Ar) 0),(Aa.mk 3 3 ([]:Ar) 0)]:List Aa)) λhb=>AQ (hb)<|Bd (IE 3) λhe=>Bd (Og F (Af.mk ([([97]:Ar)]:List Ar) 6 ([]:List (List Aa)) ([]:Ar) 1 5) he) λhf=>AQ (!hf)<|AQ (decide (r4.1=([91,91,34,97,34,93,44,34,114,97,110,103,101,34,44,49,44,53,93]:Ar)))<|AQ (decide (r4.2=0))<|AQ (decide (r7.2=0))<|Bd (Lg F (Af.mk ([([97]:Ar)]:List Ar) 6 ([]:List (List Aa)) ([]:Ar) 1 5) r7.1) λhg=>AQ (hg)<|Bd (IZ F (Af.mk ([([97]:Ar)]:List Ar) 6 ([]:List (List Aa)) ([]:Ar) 2 3) (Af.mk ([([97]:Ar)]:List Ar) 6 ([]:List (List Aa)) ([]:Ar) 1 5)) λhh=>AQ (hh)<|Bd (IZ F (Af.mk ([([97]:Ar)]:List Ar) 6 ([]:List (List Aa)) ([]:Ar) 2 3) (Af.mk ([([97]:Ar)]:List Ar) 4 ([ha]:List (List Aa)) ([]:Ar) 0 0)) λhi=>AQ (!hi)<|Bd (Br F ([]:List Af) ([(Aa.mk 6 0 ([]:Ar) 1),(Aa.mk 4 0 ([97]:Ar) 0),(Aa.mk 3 3 ([]:Ar) 0)]:List Aa)) λhj=>some hj
def Eu (F:Nat)(l:(List Af))(ha:Int):Option (Stp (Int) (Out (Bool) (Unit))):=
 AP (decide (ha<(l.length:Int))) (AQ (Co ha (l.length:Int))<|Bd (H6 F (Ax l ha)) λhb=>AP (!hb) (some (.out (.ret false))) (AQ (BM .i64 (ha+1))<|some (.next (ha+1)))) (some (.out (.go ())))
def Gq :Option (Bool):=
 some true
def CM (F:Nat)(l:(List Af)):Option (Bool):=
 AP (decide (40<(l.length:Int))) (some false) (Bd (BW (λσ=>Eu F l σ) F 0) (BV λν=>Gq ))
def KX (F:Nat)(a:(List Af))(b:(List Af))(v:(List Aa)):Option (Bool):=
 AQ ((CM F a).isSome)<|AQ (imp (!(!(ov (CM F a)))) ((CM F b).isSome))<|AQ (imp (!(!(ov (CM F a)))) (imp (!(!(ov (CM F b)))) (BM .i64 ((a.length:Int)+(b.length:Int)))))<|AQ (imp (!(!(ov (CM F a)))) (imp (!(!(ov (CM F b)))) (imp (!(decide (32<((a.length:Int)+(b.length:Int))))) ((Cn F v).isSome))))<|AP (((!(ov (CM F a)))||((!(ov (CM F b)))||((decide (32<((a.length:Int)+(b.length:Int))))||(!(ov (Cn F v))))))) (Bd (Hx F) λha=>some ha) (AQ ((Br F a v).isSome)<|AQ (imp ((ov (Br F a v))) ((Br F b v).isSome))<|AQ (DU 88 (([]:List Af).length+a.length))<|AQ (DU 88 ((([]:List Af)++a).length+b.length))<|AQ (DU 88 (([]:List Af).length+b.length))<|AQ (DU 88 ((([]:List Af)++b).length+a.length))<|AQ ((Br F ((([]:List Af)++a)++b) v).isSome)<|AQ (imp ((ov (Br F ((([]:List Af)++a)++b) v)) ==((ov (Br F a v))&&(ov (Br F b v)))) ((Br F ((([]:List Af)++b)++a) v).isSome))<|AQ (imp ((ov (Br F ((([]:List Af)++a)++b) v)) ==((ov (Br F a v))&&(ov (Br F b v)))) (imp ((ov (Br F ((([]:List Af)++b)++a) v)) ==((ov (Br F a v))&&(ov (Br F b v)))) ((Hx F).isSome)))<|some (((ov (Br F ((([]:List Af)++a)++b) v)) ==((ov (Br F a v))&&(ov (Br F b v))))&&(((ov (Br F ((([]:List Af)++b)++a) v)) ==((ov (Br F a v))&&(ov (Br F b v))))&&(ov (Hx F)))))
end Go.Proofs.YtghdglcmblpbeaaGreatDoor
namespace Go.Proofs.YtghdglcmblpbeaaGreatDoor.Q
open Go Go.RowKit
set_option linter.unusedVariables false
set_option linter.unusedSimpArgs false
set_option maxRecDepth 100000
set_option maxHeartbeats 4000000
theorem Mt:∃inf,Tryz.prog.info? 26=some inf∧inf.zero=some (.agg #[(.slice none 0 0),(.int .i64 0),(.slice none 0 0),(.string ⟨#[]⟩),(.int .i64 0),(.int .i64 0)])∧inf.size=6∧inf.bytes=88:=by
  have key:(Tryz.prog.info? 26).map (λi=>(i.zero,i.size,i.bytes))=some (some (.agg #[(.slice none 0 0),(.int .i64 0),(.slice none 0 0),(.string ⟨#[]⟩),(.int .i64 0),(.int .i64 0)]),6,88):=by kernel_rfl
  obtain⟨inf,h1,h2⟩:=Option.map_eq_some_iff.1 key;simp only[Prod.mk.injEq] at h2;exact⟨inf,h1,h2.1,h2.2.1,h2.2.2⟩
theorem JU {n:Nat}{c:Cx}{l:Fr}{H:List Ent}{d:Option Nat}{ty:TypeId}{pos:String}{af:Array Edge}{g:Option (Nat×Bool)}{x0:Operand}{r0:Rp}(h0:ev l x0=some r0)(u0:r0.one=true){x1:Operand}{r1:Rp}(h1:ev l x1=some r1)(u1:r1.one=true){x2:Operand}{r2:Rp}(h2:ev l x2=some r2)(u2:r2.one=true):Bm Tryz.prog n c l H { dst:=d,op:=.build 26 #[(0,x0),(1,x1),(2,x2)],type:=ty,pos:=pos,after:=af,guard:=g } (Bt [r0,r1,r2,rS ([]:Ar),Ai 0,Ai 0]):=λa w Z ha _=>by
  have p0:=ha.ev h0;have c0:=B9 (r0.hone u0 Z _ p0);have p1:=ha.ev h1;have c1:=B9 (r1.hone u1 Z _ p1);have p2:=ha.ev h2;have c2:=B9 (r2.hone u2 Z _ p2);have hb:Tryz.prog.built 26 [(0,a.eval x0),(1,a.eval x1),(2,a.eval x2)]=some #[a.eval x0,a.eval x1,a.eval x2,(.string ⟨#[]⟩),(.int .i64 0),(.int .i64 0)]:=by
    rw[M6];generalize a.eval x0=v0 at *;generalize a.eval x1=v1 at *;generalize a.eval x2=v2 at *;simp[Instr.fill,c0,c1,c2]
  refine⟨.agg #[a.eval x0,a.eval x1,a.eval x2,(.string ⟨#[]⟩),(.int .i64 0),(.int .i64 0)],⟨[a.eval x0,a.eval x1,a.eval x2,(.string ⟨#[]⟩),(.int .i64 0),(.int .i64 0)],rfl,p0,p1,p2,rfl,rfl,rfl,trivial⟩,?_⟩;have:=run_build w 26 #[(0,a.eval x0),(1,a.eval x1),(2,a.eval x2)] _ (by simpa using hb);simp[execOp,this]
theorem EL {n:Nat}{c:Cx}{l:Fr}{H:List Ent}{d:Option Nat}{ty:TypeId}{pos:String}{af:Array Edge}{g:Option (Nat×Bool)}{x0:Operand}{r0:Rp}(h0:ev l x0=some r0)(u0:r0.one=true){x1:Operand}{r1:Rp}(h1:ev l x1=some r1)(u1:r1.one=true){x4:Operand}{r4:Rp}(h4:ev l x4=some r4)(u4:r4.one=true){x5:Operand}{r5:Rp}(h5:ev l x5=some r5)(u5:r5.one=true):Bm Tryz.prog n c l H { dst:=d,op:=.build 26 #[(0,x0),(1,x1),(4,x4),(5,x5)],type:=ty,pos:=pos,after:=af,guard:=g } (Bt [r0,r1,rv (.slice none 0 0),rS ([]:Ar),r4,r5]):=λa w Z ha _=>by
  have p0:=ha.ev h0;have c0:=B9 (r0.hone u0 Z _ p0);have p1:=ha.ev h1;have c1:=B9 (r1.hone u1 Z _ p1);have p4:=ha.ev h4;have c4:=B9 (r4.hone u4 Z _ p4);have p5:=ha.ev h5;have c5:=B9 (r5.hone u5 Z _ p5);have hb:Tryz.prog.built 26 [(0,a.eval x0),(1,a.eval x1),(4,a.eval x4),(5,a.eval x5)]=some #[a.eval x0,a.eval x1,((.slice none 0 0)),(.string ⟨#[]⟩),a.eval x4,a.eval x5]:=by
    rw[M6];generalize a.eval x0=v0 at *;generalize a.eval x1=v1 at *;generalize a.eval x4=v4 at *;generalize a.eval x5=v5 at *;simp[Instr.fill,c0,c1,c4,c5]
  refine⟨.agg #[a.eval x0,a.eval x1,((.slice none 0 0)),(.string ⟨#[]⟩),a.eval x4,a.eval x5],⟨[a.eval x0,a.eval x1,((.slice none 0 0)),(.string ⟨#[]⟩),a.eval x4,a.eval x5],rfl,p0,p1,rfl,rfl,p4,p5,trivial⟩,?_⟩;have:=run_build w 26 #[(0,a.eval x0),(1,a.eval x1),(4,a.eval x4),(5,a.eval x5)] _ (by simpa using hb);simp[execOp,this]
theorem KY (n:Int)(r:(List Aa))(h:IE n=some r):Fn Tryz.prog GE 28 [Ai n] [] (λR H=>R=AE 4 (A3 Ab r)∧H=[]):=by
 refine enter (n:=6) Tryz.func28 rfl Tryz.ntmps28 rfl (λw Z=>?_);unfold IE at h;refine Ah (wa rfl (AW (wm rfl (wv (r:=Bt [Ai 3,Ai n,rS ([]:Ar),Ai 0]) (Dp rfl rfl rfl rfl) (AO (ys:=([(Aa.mk 3 n ([]:Ar) 0)]:List Aa)) (enc:=Ab) (css:=[[Ai 3,Ai n,rS ([]:Ar),Ai 0]]) (xs:=[.tmp 4]) B0 BI HO rfl rfl rfl ⟨DW.agg ⟨Up.refl _,Up.refl _,Up.refl _,Up.refl _,trivial⟩,trivial⟩ rfl AX rfl rfl rfl (λb1=>?_))))));refine wa rfl (Al (Aq (WK.freeze (i:=0) rfl (WK.up (d:=2) (r:=AE 4 (A3 Ab ([(Aa.mk 3 n ([]:Ar) 0)]:List Aa))) rfl (Up.fact (i:=0) rfl) ?_))));obtain rfl:=Am h;exact Ap (Bw Tryz.results28 (A9 rfl)) (sS sN) ⟨rfl,rfl⟩
theorem Ns (F:Nat)  (r:Bool)(h:Hx F=some r):Fn Tryz.prog GE 12 [] [] (λR H=>R=rB r∧H=[]):=by
 refine enter (n:=71) Tryz.func12 rfl Tryz.ntmps12 rfl (λw Z=>?_);unfold Hx at h;refine Ah (wa rfl (AW (AO (ys:=([([97]:Ar)]:List Ar)) (enc:=eS) (css:=[[rS ([97]:Ar)]]) (xs:=[.const (.string ⟨#[97]⟩)]) CQ CB Uh rfl rfl rfl ⟨DW.one rfl (Up.refl _),trivial⟩ rfl H7 rfl rfl rfl (λb1=>?_))));refine wv (r:=Bt [rv (.slice (some ⟨b1,0,none⟩) 1 1),Ai 6,rv (.slice none 0 0),rS ([]:Ar),Ai 1,Ai 5]) (EL rfl rfl rfl rfl rfl rfl rfl rfl) (Ca (cs:=[rv (.slice none 0 0),Ai 0,rv (.slice none 0 0),rS ([]:Ar),Ai 0,Ai 0]) MG rfl rfl (λb2=>?_));refine Ba (i:=0) B5 rfl rfl rfl ⟨(C3 (i:=1) rfl),(B3 rfl),(B3 rfl),(B3 rfl),(B3 rfl),(B3 rfl),trivial⟩ rfl rfl (cs':=[rv (.slice (some ⟨b1,0,none⟩) 1 1),Ai 6,rv (.slice none 0 0),rS ([]:Ar),Ai 1,Ai 5]) rfl (H':=[.blk b2 [rv (.slice (some ⟨b1,0,none⟩) 1 1),Ai 6,rv (.slice none 0 0),rS ([]:Ar),Ai 1,Ai 5] 26,.row (.slice (some ⟨b1,0,none⟩) 1 1) 9 1 (A3 eS ([([97]:Ar)]:List Ar))]) rfl (AW (wv (r:=Bt [Ai 6,Ai 0,rS ([]:Ar),Ai 1]) (HW rfl rfl rfl rfl) (wv (r:=Bt [Ai 4,Ai 0,rS ([97]:Ar),Ai 0]) (DT rfl rfl rfl rfl) (wv (r:=Bt [Ai 3,Ai 3,rS ([]:Ar),Ai 0]) (Dp rfl rfl rfl rfl) (AO (ys:=([(Aa.mk 6 0 ([]:Ar) 1),(Aa.mk 4 0 ([97]:Ar) 0),(Aa.mk 3 3 ([]:Ar) 0)]:List Aa)) (enc:=Ab) (css:=[[Ai 6,Ai 0,rS ([]:Ar),Ai 1],[Ai 4,Ai 0,rS ([97]:Ar),Ai 0],[Ai 3,Ai 3,rS ([]:Ar),Ai 0]]) (xs:=[.tmp 11,.tmp 12,.tmp 13]) B0 BI HO rfl rfl rfl ⟨DW.agg ⟨Up.refl _,Up.refl _,Up.refl _,Up.refl _,trivial⟩,DW.agg ⟨Up.refl _,Up.refl _,Up.refl _,Up.refl _,trivial⟩,DW.agg ⟨Up.refl _,Up.refl _,Up.refl _,Up.refl _,trivial⟩,trivial⟩ rfl AX rfl rfl rfl (λb3=>?_))))));refine wa rfl (AW (wv (AH (i:=1) Cb B5 rfl rfl rfl rfl) (WL.freeze (i:=2) rfl (WL.up (d:=16) (r:=Bt [AE 1 (A3 eS ([([97]:Ar)]:List Ar)),Ai 6,rv (.slice none 0 0),rS ([]:Ar),Ai 1,Ai 5]) rfl (Up.agg ⟨Up.fact (i:=0) rfl,Up.refl _,Up.refl _,Up.refl _,Up.refl _,Up.refl _,trivial⟩) (WL.up (d:=16) (r:=Bt [AE 1 (A3 eS ([([97]:Ar)]:List Ar)),Ai 6,AE 1 (A3 Ae ([]:List (List Aa))),rS ([]:Ar),Ai 1,Ai 5]) rfl (Up.agg ⟨Up.refl _,Up.refl _,Up.le (DA.nil _),Up.refl _,Up.refl _,Up.refl _,trivial⟩) (ob h λr4 e6 h5=>Cs Tryz.call19 (PI F (Af.mk ([([97]:Ar)]:List Ar) 6 ([]:List (List Aa)) ([]:Ar) 1 5) r4 e6) rfl (wm rfl (wv (A7 rfl rfl) (wv (A7 rfl rfl) (wa rfl (wa rfl (AW (ob h5 λr7 e9 h8=>Cs Tryz.call21 (Rl F ([91,91,34,97,34,93,44,34,114,97,110,103,101,34,44,49,44,53,93]:Ar) r7 e9) rfl (wm rfl (wv (A7 rfl rfl) (wv (A7 rfl rfl) (Ca (cs:=[rv (.slice none 0 0),Ai 0,rv (.slice none 0 0),rS ([]:Ar),Ai 0,Ai 0]) MG rfl rfl (λhq=>?_))))))))))))))))));refine Ba (i:=0) B5 rfl rfl rfl (BC.c rfl) rfl rfl (cs':=[AE 1 (A3 eS r7.1.fPath),Ai r7.1.fOp,AE 1 (A3 Ae r7.1.fValues),rS r7.1.fText,Ai r7.1.fLow,Ai r7.1.fHigh]) rfl (H':=[.blk hq (Ad r7.1) 26,.fact (.slice (some ⟨b1,0,none⟩) 1 1) (AE 1 (A3 eS ([([97]:Ar)]:List Ar))),.row (.slice (some ⟨b3,0,none⟩) 3 3) 54 4 (A3 Ab ([(Aa.mk 6 0 ([]:Ar) 1),(Aa.mk 4 0 ([97]:Ar) 0),(Aa.mk 3 3 ([]:Ar) 0)]:List Aa)),.blk b2 [rv (.slice (some ⟨b1,0,none⟩) 1 1),Ai 6,rv (.slice none 0 0),rS ([]:Ar),Ai 1,Ai 5] 26]) rfl (wa rfl (AW (AO (ys:=([([97]:Ar)]:List Ar)) (enc:=eS) (css:=[[rS ([97]:Ar)]]) (xs:=[.const (.string ⟨#[97]⟩)]) CQ CB Uh rfl rfl rfl ⟨DW.one rfl (Up.refl _),trivial⟩ rfl H7 rfl rfl rfl (λhb=>?_))));refine wv (r:=Bt [rv (.slice (some ⟨hb,0,none⟩) 1 1),Ai 6,rv (.slice none 0 0),rS ([]:Ar),Ai 2,Ai 3]) (EL rfl rfl rfl rfl rfl rfl rfl rfl) (Ca (cs:=[rv (.slice none 0 0),Ai 0,rv (.slice none 0 0),rS ([]:Ar),Ai 0,Ai 0]) MG rfl rfl (λhx=>?_));refine Ba (i:=0) B5 rfl rfl rfl ⟨(C3 (i:=1) rfl),(B3 rfl),(B3 rfl),(B3 rfl),(B3 rfl),(B3 rfl),trivial⟩ rfl rfl (cs':=[rv (.slice (some ⟨hb,0,none⟩) 1 1),Ai 6,rv (.slice none 0 0),rS ([]:Ar),Ai 2,Ai 3]) rfl (H':=[.blk hx [rv (.slice (some ⟨hb,0,none⟩) 1 1),Ai 6,rv (.slice none 0 0),rS ([]:Ar),Ai 2,Ai 3] 26,.row (.slice (some ⟨hb,0,none⟩) 1 1) 9 1 (A3 eS ([([97]:Ar)]:List Ar)),.blk hq (Ad r7.1) 26,.fact (.slice (some ⟨b1,0,none⟩) 1 1) (AE 1 (A3 eS ([([97]:Ar)]:List Ar))),.row (.slice (some ⟨b3,0,none⟩) 3 3) 54 4 (A3 Ab ([(Aa.mk 6 0 ([]:Ar) 1),(Aa.mk 4 0 ([97]:Ar) 0),(Aa.mk 3 3 ([]:Ar) 0)]:List Aa)),.blk b2 [rv (.slice (some ⟨b1,0,none⟩) 1 1),Ai 6,rv (.slice none 0 0),rS ([]:Ar),Ai 1,Ai 5] 26]) rfl (AW (AO (ys:=([([97]:Ar)]:List Ar)) (enc:=eS) (css:=[[rS ([97]:Ar)]]) (xs:=[.const (.string ⟨#[97]⟩)]) CQ CB Uh rfl rfl rfl ⟨DW.one rfl (Up.refl _),trivial⟩ rfl H7 rfl rfl rfl (λhm=>?_)));refine ob h8 λha hy hz=>Cs Tryz.call28 (KY 2 ha hy) rfl (AO (ys:=([ha]:List (List Aa))) (enc:=Ae) (css:=[[AE 4 (A3 Ab ha)]]) (xs:=[.tmp 27]) BN BY LW rfl rfl rfl ⟨DW.one rfl (Up.refl _),trivial⟩ rfl B6 rfl rfl rfl (λhn=>?_));refine wv (r:=Bt [rv (.slice (some ⟨hm,0,none⟩) 1 1),Ai 4,rv (.slice (some ⟨hn,0,none⟩) 1 1),rS ([]:Ar),Ai 0,Ai 0]) (JU rfl rfl rfl rfl rfl rfl) (Ca (cs:=[rv (.slice none 0 0),Ai 0,rv (.slice none 0 0),rS ([]:Ar),Ai 0,Ai 0]) MG rfl rfl (λh0=>?_));refine Ba (i:=0) B5 rfl rfl rfl ⟨(C3 (i:=2) rfl),(B3 rfl),(C3 (i:=1) rfl),(B3 rfl),(B3 rfl),(B3 rfl),trivial⟩ rfl rfl (cs':=[rv (.slice (some ⟨hm,0,none⟩) 1 1),Ai 4,rv (.slice (some ⟨hn,0,none⟩) 1 1),rS ([]:Ar),Ai 0,Ai 0]) rfl (H':=[.blk h0 [rv (.slice (some ⟨hm,0,none⟩) 1 1),Ai 4,rv (.slice (some ⟨hn,0,none⟩) 1 1),rS ([]:Ar),Ai 0,Ai 0] 26,.row (.slice (some ⟨hn,0,none⟩) 1 1) 28 1 (A3 Ae ([ha]:List (List Aa))),.row (.slice (some ⟨hm,0,none⟩) 1 1) 9 1 (A3 eS ([([97]:Ar)]:List Ar)),.blk hx [rv (.slice (some ⟨hb,0,none⟩) 1 1),Ai 6,rv (.slice none 0 0),rS ([]:Ar),Ai 2,Ai 3] 26,.row (.slice (some ⟨hb,0,none⟩) 1 1) 9 1 (A3 eS ([([97]:Ar)]:List Ar)),.blk hq (Ad r7.1) 26,.fact (.slice (some ⟨b1,0,none⟩) 1 1) (AE 1 (A3 eS ([([97]:Ar)]:List Ar))),.row (.slice (some ⟨b3,0,none⟩) 3 3) 54 4 (A3 Ab ([(Aa.mk 6 0 ([]:Ar) 1),(Aa.mk 4 0 ([97]:Ar) 0),(Aa.mk 3 3 ([]:Ar) 0)]:List Aa)),.blk b2 [rv (.slice (some ⟨b1,0,none⟩) 1 1),Ai 6,rv (.slice none 0 0),rS ([]:Ar),Ai 1,Ai 5] 26]) rfl (Al (An (WC.upBlk (i:=8) (cs':=[AE 1 (A3 eS ([([97]:Ar)]:List Ar)),Ai 6,AE 1 (A3 Ae ([]:List (List Aa))),rS ([]:Ar),Ai 1,Ai 5]) rfl ⟨Up.fact (i:=6) rfl,Up.refl _,Up.le (DA.nil _),Up.refl _,Up.refl _,Up.refl _,trivial⟩ (WC.freeze (i:=4) rfl (WC.upBlk (i:=4) (cs':=[AE 1 (A3 eS ([([97]:Ar)]:List Ar)),Ai 6,AE 1 (A3 Ae ([]:List (List Aa))),rS ([]:Ar),Ai 2,Ai 3]) rfl ⟨Up.fact (i:=0) rfl,Up.refl _,Up.le (DA.nil _),Up.refl _,Up.refl _,Up.refl _,trivial⟩ (WC.freeze (i:=3) rfl (WC.freeze (i:=3) rfl (WC.upBlk (i:=3) (cs':=[AE 1 (A3 eS ([([97]:Ar)]:List Ar)),Ai 4,AE 1 (A3 Ae ([ha]:List (List Aa))),rS ([]:Ar),Ai 0,Ai 0]) rfl ⟨Up.fact (i:=1) rfl,Up.refl _,Up.fact (i:=0) rfl,Up.refl _,Up.refl _,Up.refl _,trivial⟩ (WC.freeze (i:=7) rfl (WC.up (d:=2) (r:=AE 4 (A3 Ab ([(Aa.mk 6 0 ([]:Ar) 1),(Aa.mk 4 0 ([97]:Ar) 0),(Aa.mk 3 3 ([]:Ar) 0)]:List Aa))) rfl (Up.fact (i:=0) rfl) (ob hz λhf h1 h2=>ck h2 λhg h3=>ob h3 λhr h4 h6=>ob h6 λhh h7 h9=>ck h9 λhs hA=>ck hA λht hB=>ck hB λhu hC=>ck hC λho hD=>ob hD λhi hE hG=>ck hG λhp hH=>ob hH λhj hI hJ=>ck hJ λhk hK=>ob hK λhe hL hN=>?_)))))))))));refine ck hN λhw hO=>ob hO λhl hP hQ=>Cy [1,2,3,4,5,6,7,8] [⟨[],Bt [AE 1 (A3 eS ([([97]:Ar)]:List Ar)),Ai 6,AE 1 (A3 Ae ([]:List (List Aa))),rS ([]:Ar),Ai 1,Ai 5],1⟩,⟨[],AE 4 (A3 Ab ([(Aa.mk 6 0 ([]:Ar) 1),(Aa.mk 4 0 ([97]:Ar) 0),(Aa.mk 3 3 ([]:Ar) 0)]:List Aa)),0⟩,⟨[0,1],rB hf,0⟩,⟨[2],rB hf,0⟩,⟨[3],Bt [AE 1 (A3 eS ([([97]:Ar)]:List Ar)),Ai 6,AE 1 (A3 Ae ([]:List (List Aa))),rS ([]:Ar),Ai 1,Ai 5],1⟩,⟨[3],AE 4 (A3 Ab hr),0⟩,⟨[4,5,3],rB hh,0⟩,⟨[6,3],rB (!hh),0⟩,⟨[3,7],rB (!hh),0⟩,⟨[8],rB (!hh),0⟩,⟨[9],rS r4.1,0⟩,⟨[10,9],rB (decide (r4.1=([91,91,34,97,34,93,44,34,114,97,110,103,101,34,44,49,44,53,93]:Ar))),0⟩,⟨[9,11],rB (decide (r4.1=([91,91,34,97,34,93,44,34,114,97,110,103,101,34,44,49,44,53,93]:Ar))),0⟩,⟨[12],rB (decide (r4.1=([91,91,34,97,34,93,44,34,114,97,110,103,101,34,44,49,44,53,93]:Ar))),0⟩,⟨[13],Ai r4.2,0⟩,⟨[14,13],rB (decide (r4.2=0)),0⟩,⟨[13,15],rB (decide (r4.2=0)),0⟩,⟨[16],rB (decide (r4.2=0)),0⟩,⟨[17],Ai r7.2,0⟩,⟨[18,17],rB (decide (r7.2=0)),0⟩,⟨[17,19],rB (decide (r7.2=0)),0⟩,⟨[20],rB (decide (r7.2=0)),0⟩,⟨[21],Bt [AE 1 (A3 eS ([([97]:Ar)]:List Ar)),Ai 6,AE 1 (A3 Ae ([]:List (List Aa))),rS ([]:Ar),Ai 1,Ai 5],1⟩,⟨[21],Bt (Ad r7.1),1⟩,⟨[22,23,21],rB hi,0⟩,⟨[21,24],rB hi,0⟩,⟨[25],rB hi,0⟩,⟨[26],Bt [AE 1 (A3 eS ([([97]:Ar)]:List Ar)),Ai 6,AE 1 (A3 Ae ([]:List (List Aa))),rS ([]:Ar),Ai 2,Ai 3],1⟩,⟨[26],Bt [AE 1 (A3 eS ([([97]:Ar)]:List Ar)),Ai 6,AE 1 (A3 Ae ([]:List (List Aa))),rS ([]:Ar),Ai 1,Ai 5],1⟩,⟨[27,28,26],rB hj,0⟩,⟨[26,29],rB hj,0⟩,⟨[30],rB hj,0⟩,⟨[31],Bt [AE 1 (A3 eS ([([97]:Ar)]:List Ar)),Ai 6,AE 1 (A3 Ae ([]:List (List Aa))),rS ([]:Ar),Ai 2,Ai 3],1⟩,⟨[31],Bt [AE 1 (A3 eS ([([97]:Ar)]:List Ar)),Ai 4,AE 1 (A3 Ae ([ha]:List (List Aa))),rS ([]:Ar),Ai 0,Ai 0],1⟩,⟨[32,33,31],rB he,0⟩,⟨[34,31],rB (!he),0⟩,⟨[31,35],rB (!he),0⟩,⟨[36],rB (!he),0⟩,⟨[37],AE 4 (A3 Ab ([(Aa.mk 6 0 ([]:Ar) 1),(Aa.mk 4 0 ([97]:Ar) 0),(Aa.mk 3 3 ([]:Ar) 0)]:List Aa)),0⟩,⟨[38,37],rB hl,0⟩,⟨[37,39],rB hl,0⟩,⟨[40],rB hl,0⟩] [0] ?_ ?_
 ·refine of (AH (i:=8) Cb B5 rfl rfl rfl rfl) (oq (A5 rfl) (Dh rfl (λH=>Ea Tryz.call15 (Of F (Af.mk ([([97]:Ar)]:List Ar) 6 ([]:List (List Aa)) ([]:Ar) 1 5) ([(Aa.mk 6 0 ([]:Ar) 1),(Aa.mk 4 0 ([97]:Ar) 0),(Aa.mk 3 3 ([]:Ar) 0)]:List Aa) hf h1) rfl) ?_));refine oq (A5 rfl) (on hg (of (AH (i:=8) Cb B5 rfl rfl rfl rfl) (Dh rfl (λH=>HV (b:=hf) rfl rfl hg (Ea Tryz.call28 (KY 3 hr h4) rfl)) ?_)));refine Dh rfl (λH=>HV (b:=hf) rfl rfl hg (Ea Tryz.call15 (Of F (Af.mk ([([97]:Ar)]:List Ar) 6 ([]:List (List Aa)) ([]:Ar) 1 5) hr hh h7) rfl)) ?_;refine on hg (oq (B1 rfl) (oq (Az rfl hg rfl) (oq (A5 rfl) (on hs (oq (A5 rfl) (on hs (oq (GZ rfl rfl) (oq (Az rfl hs rfl) (oq (A5 rfl) (on ht (oq (A5 rfl) (on ht (oq (Bz rfl rfl) (oq (Az rfl ht rfl) (oq (A5 rfl) (on hu (oq (A5 rfl) (on hu (oq (Bz rfl rfl) (oq (Az rfl hu rfl) (oq (A5 rfl) (on ho (of (AH (i:=8) Cb B5 rfl rfl rfl rfl) ?_)))))))))))))))))))))));refine on ho (of (AH (i:=6) Cb B5 rfl rfl rfl rfl) (Dh rfl (λH=>HV (b:=decide (r7.2=0)) rfl rfl ho (Ea Tryz.call23 (Oo F (Af.mk ([([97]:Ar)]:List Ar) 6 ([]:List (List Aa)) ([]:Ar) 1 5) r7.1 hi hE) rfl)) ?_));refine oq (Az rfl ho rfl) (oq (A5 rfl) (on hp (of (AH (i:=5) Cb B5 rfl rfl rfl rfl) (on hp (of (AH (i:=8) Cb B5 rfl rfl rfl rfl) (Dh rfl (λH=>HV (b:=hi) rfl rfl hp (Ea Tryz.call24 (Ld F (Af.mk ([([97]:Ar)]:List Ar) 6 ([]:List (List Aa)) ([]:Ar) 2 3) (Af.mk ([([97]:Ar)]:List Ar) 6 ([]:List (List Aa)) ([]:Ar) 1 5) hj hI) rfl)) ?_))))));refine oq (Az rfl hp rfl) (oq (A5 rfl) (on hk (of (AH (i:=5) Cb B5 rfl rfl rfl rfl) (on hk (of (AH (i:=4) Cb B5 rfl rfl rfl rfl) (Dh rfl (λH=>HV (b:=hj) rfl rfl hk (Ea Tryz.call24 (Ld F (Af.mk ([([97]:Ar)]:List Ar) 6 ([]:List (List Aa)) ([]:Ar) 2 3) (Af.mk ([([97]:Ar)]:List Ar) 4 ([ha]:List (List Aa)) ([]:Ar) 0 0) he hL) rfl)) ?_))))));refine on hk (oq (B1 rfl) (oq (Az rfl hk rfl) (oq (A5 rfl) (on hw (oq (A5 rfl) (Dh rfl (λH=>HV (b:=!he) rfl rfl hw (IA (rs:=[rv (.slice none 0 0),AE 4 (A3 Ab ([(Aa.mk 6 0 ([]:Ar) 1),(Aa.mk 4 0 ([97]:Ar) 0),(Aa.mk 3 3 ([]:Ar) 0)]:List Aa))]) (r:=rB hl) Qn rfl (Fn.args (Hy F ([]:List Af) ([(Aa.mk 6 0 ([]:Ar) 1),(Aa.mk 4 0 ([97]:Ar) 0),(Aa.mk 3 3 ([]:Ar) 0)]:List Aa) hl hP) ⟨DA.nil _,DA.refl _,trivial⟩) rfl)) ?_))))));refine oq (Az rfl hw rfl) (oq (AD rfl) ?_);exact Ce
 refine AG (Aq ?_);obtain rfl:=Am hQ;exact Ap (Bw Tryz.results12 (A9 rfl)) (sS (sS (sS (sS (sS (sS (sS (sS (sS sN))))))))) ⟨rfl,rfl⟩
theorem Nr (F:Nat)(l:(List Af))(r:Bool)(h:CM F l=some r):Fn Tryz.prog GE 10 [AE 6 (A3 Ad l)] [] (λR H=>R=rB r∧H=[]):=by
 refine enter (n:=19) Tryz.func10 rfl Tryz.ntmps10 rfl (λw Z=>?_);unfold CM at h;refine Ah (wa rfl (Al (An (Ah (wm rfl (wv (AI (ys:=l) (enc:=Ad) JS rfl) (wv (CX rfl rfl) (Al (cz h rfl (λc1 h2=>?_) (λc1 h3=>?_))))))))))
 ·refine Ah (wa rfl (Al (Aq (Ac ?_))));obtain rfl:=Am h2;exact Ap (Bw Tryz.results10 (A9 rfl)) sN ⟨rfl,rfl⟩
 ·refine Av (AG (An (Ah (wm rfl (wv (AI (ys:=l) (enc:=Ad) JS rfl) (wv (r:=Ai 0) (A5 rfl) (Al (AA (ob h3 λhh hi hg=>Bg (S:=Nat×(Int)×(Unit)) (V:=(Unit)×(Unit)) 0 (λσ=>BW (λσ=>Eu F l σ) σ.1 σ.2.1=some hh) (λσ=>[(0,AE 6 (A3 Ad l)),(8,Ai (l.length:Int)),(9,Ai σ.2.1)]) (λσ=>[]) (λσ=>σ.1) (F,0,()) hi (A4.c rfl (A4.c rfl (A4.c rfl A4.nil))) sN (λσ=>Gq =some r) (λσ=>[]) (λσ=>[]) ?_ ?_)))))))))
  ·rintro⟨h4,ha,⟨⟩⟩ hj;refine B2 (l':=[(0,AE 6 (A3 Ad l)),(8,Ai (l.length:Int)),(9,Ai ha)]) (H':=[]) rfl rfl ?_;obtain⟨hk,rfl,t46,hb,hf⟩:=Cf hj;replace hb:Eu F l ha=some t46:=hb;unfold Eu at hb;refine Ah (wv (Cr rfl rfl) (Al (An (cz hb rfl (λhl hm=>?_) (λhl hn=>?_)))))
   ·refine Av (AG (An (AA (Ah (wm rfl (wa rfl (AW (wm rfl (wm rfl (ck hm λho hp=>wv (AT (enc:=Ad) (ys:=l) JS B5 rfl rfl ho) (wv (D2 Cb B5 rfl rfl rfl) (ob hp λhq hr hs=>Cs Tryz.call9 (On F (Ax l ha) hq hr) rfl (wv (B1 rfl) (Al (cz hs rfl (λht hu=>?_) (λht hw=>?_))))))))))))))))
    ·refine Ah (wa rfl (Al (Aq (Ao (Ac (Ac (AN ?_)))))));have hx:=Be hu hf hg;refine Ao (Ac ?_);obtain rfl:=Am hx;exact Ap (Bw Tryz.results10 (A9 rfl)) sN ⟨rfl,rfl⟩
    ·refine Av (A8 (AG (Ak (ck hw λhy hz=>wv (Bj rfl rfl hy) (wm rfl (Aj ?_))))));have h0:=Bb hz hf;exact As (At (hk,ha+1,()) ⟨h0,Vv _⟩ (A4.c rfl (A4.c rfl (A4.c rfl A4.nil))) sN)
   ·refine Bq (Ay ?_);have h1:=BD hn hf hg;exact Ay (AS (At ((),()) h1 A4.nil sN))
  ·rintro⟨⟨⟩,⟨⟩⟩ he;refine Cj (l':=[]) (H':=[]) rfl rfl ?_;replace he:Gq =some r:=he;unfold Gq at he;refine AV (AG (Ah (wa rfl (Al (Aq ?_)))));obtain rfl:=Am he;exact Ap (Bw Tryz.results10 (A9 rfl)) sN ⟨rfl,rfl⟩
theorem QW (F:Nat)(a:(List Af))(b:(List Af))(v:(List Aa))(r:Bool)(h:KX F a b v=some r):Fn Tryz.prog GE 7 [AE 6 (A3 Ad a),AE 6 (A3 Ad b),AE 4 (A3 Ab v)] [] (λR H=>R=rB r∧H=[]):=by
 refine enter (n:=67) Tryz.func7 rfl Tryz.ntmps7 rfl (λw Z=>?_);unfold KX at h;refine Ah (wa rfl (Al (An (ck h λg1 h2=>ck h2 λg3 h4=>ck h4 λg5 h6=>ck h6 λg7 h8=>AK [(0,AE 6 (A3 Ad a)),(1,AE 6 (A3 Ad b)),(2,AE 4 (A3 Ab v)),(30,rB ((!(ov (CM F a)))||((!(ov (CM F b)))||((decide (32<((a.length:Int)+(b.length:Int))))||(!(ov (Cn F v)))))))] [] ?_ ?_))))
 ·refine Ak (wm rfl (Cs Tryz.call10 (Nr F a (ov (CM F a)) (Gn g1)) rfl (wv (B1 rfl) (wm rfl (AU (!(ov (CM F a))) (λc9=>?_) (λc9=>?_))))))
  ·refine wf c9 (wf c9 (wf c9 (wv (r:=rB true) (Az rfl c9 rfl) (wm rfl (wz rfl rfl (wz rfl rfl (wz rfl rfl (wz rfl rfl (wz rfl rfl (wz rfl rfl (wv (r:=rB true) (Az (b:=true) rfl rfl rfl) (wm rfl (wz rfl rfl (wz rfl rfl (wz rfl rfl (wv (r:=rB true) (Az (b:=true) rfl rfl rfl) (Aj ?_)))))))))))))))));exact Cp c9
  ·refine wo c9 (wm rfl (wo c9 (Cs Tryz.call10 (Nr F b (ov (CM F b)) (Gn (CA g3 c9))) rfl (wo c9 (wv (B1 rfl) (Cq rfl c9 rfl (wm rfl (AU (!(ov (CM F b))) (λha=>?_) (λha=>?_)))))))))
   ·refine wf ha (wf ha (wf ha (wf ha (wf ha (wf ha (wv (r:=rB true) (Az rfl ha rfl) (wm rfl (wz rfl rfl (wz rfl rfl (wz rfl rfl (wv (r:=rB true) (Az (b:=true) rfl rfl rfl) (Aj ?_))))))))))));exact Cp (And.intro c9 ha)
   ·refine wo ha (wm rfl (wo ha (wv (AI (ys:=a) (enc:=Ad) JS rfl) (wo ha (wm rfl (wo ha (wv (AI (ys:=b) (enc:=Ad) JS rfl) (wo ha (wv (Bj rfl rfl (CA (CA g5 c9) ha)) (wo ha (wv (CX rfl rfl) (Cq rfl ha rfl (wm rfl (AU (decide (32<((a.length:Int)+(b.length:Int)))) (λhe=>?_) (λhe=>?_)))))))))))))))
    ·refine wf he (wf he (wf he (wv (r:=rB true) (Az rfl he rfl) (Aj ?_))));exact Cp (And.intro c9 (And.intro ha he))
    ·refine wo he (wm rfl (wo he (Cs Tryz.call11 (Ha F v (ov (Cn F v)) (Gn (CA (CA (CA g7 c9) ha) he))) rfl (wo he (wv (B1 rfl) (Cq rfl he rfl (Aj ?_)))))));exact Cp (And.intro c9 (And.intro ha he))
 refine cz h8 rfl (λhh hi=>?_) (λhh hj=>?_)
 ·refine Ah (ob hi λhk hl hm=>Cs Tryz.call12 (Ns F hk hl) rfl (wa rfl (Al (Aq (Ac ?_)))));obtain rfl:=Am hm;exact Ap (Bw Tryz.results7 (A9 rfl)) sN ⟨rfl,rfl⟩
 ·refine Av (AG (ck hj λg18 hn=>ck hn λho hp=>AK [(0,AE 6 (A3 Ad a)),(1,AE 6 (A3 Ad b)),(2,AE 4 (A3 Ab v)),(7,rB ((ov (Br F a v))&&(ov (Br F b v))))] [] ?_ ?_))
  ·refine Ak (wm rfl (wm rfl (Cs Qn (Hy F a v (ov (Br F a v)) (Gn g18)) rfl (wm rfl (AU ((ov (Br F a v))) (λhf=>?_) (λhf=>?_))))))
   ·refine wo hf (wm rfl (wo hf (wm rfl (wo hf (Cs Qn (Hy F b v (ov (Br F b v)) (Gn (Dq ho hf))) rfl (C5 rfl hf rfl (wa rfl (Aj ?_))))))));exact Cp hf
   ·refine wf hf (wf hf (wf hf (wv (r:=rB false) (Au rfl hf rfl) (wa rfl (Aj ?_)))));exact Cp hf
  refine Ah (wa rfl (wa rfl (AW (wm rfl (wm rfl (WL.nilrow (e:=26) (sz:=6) (ck hp λhq hr=>Exists.elim Mt λinf hinf=>BJ (xs:=([]:List Af)) (ys:=a) (enc:=Ad) (i:=0) JS hinf.1 hinf.2.1 hinf.2.2.1 hinf.2.2.2 rfl rfl rfl rfl rfl (Jc.z rfl rfl) CN Dv hq rfl (λh9=>?_))))))));refine wa rfl (AW (wm rfl (wm rfl (ck hr λhs ht=>Exists.elim Mt λinf hinf=>BJ (xs:=([]:List Af)++a) (ys:=b) (enc:=Ad) (i:=0) JS hinf.1 hinf.2.1 hinf.2.2.1 hinf.2.2.2 rfl rfl rfl rfl rfl (Jc.z rfl rfl) CN Dv hs rfl (λhA=>?_)))));refine wa rfl (AW (wm rfl (wm rfl (WL.nilrow (e:=26) (sz:=6) (ck ht λhu hw=>Exists.elim Mt λinf hinf=>BJ (xs:=([]:List Af)) (ys:=b) (enc:=Ad) (i:=0) JS hinf.1 hinf.2.1 hinf.2.2.1 hinf.2.2.2 rfl rfl rfl rfl rfl (Jc.z rfl rfl) CN Dv hu rfl (λhB=>?_))))));refine wa rfl (AW (wm rfl (wm rfl (ck hw λhx hy=>Exists.elim Mt λinf hinf=>BJ (xs:=([]:List Af)++b) (ys:=a) (enc:=Ad) (i:=0) JS hinf.1 hinf.2.1 hinf.2.2.1 hinf.2.2.2 rfl rfl rfl rfl rfl (Jc.z rfl rfl) CN Dv hx rfl (λhC=>?_)))));refine wa rfl (Al (ck hy λhz h0=>ck h0 λh1 h3=>ck h3 λh5 h7=>AK [(6,rB (((ov (Br F ((([]:List Af)++a)++b) v)) ==((ov (Br F a v))&&(ov (Br F b v))))&&(((ov (Br F ((([]:List Af)++b)++a) v)) ==((ov (Br F a v))&&(ov (Br F b v))))&&(ov (Hx F)))))] [] ?_ ?_))
  ·refine Ak (wm rfl (wm rfl (WL.freeze (i:=1) rfl (WL.up (d:=52) (r:=AE 6 (A3 Ad ((([]:List Af)++a)++b))) rfl (Up.fact (i:=0) rfl) (Cs Qn (Hy F ((([]:List Af)++a)++b) v (ov (Br F ((([]:List Af)++a)++b) v)) (Gn hz)) rfl (wm rfl (wv (r:=rB ((ov (Br F ((([]:List Af)++a)++b) v)) ==((ov (Br F a v))&&(ov (Br F b v))))) (Nl UL rfl rfl) (wm rfl (AU ((ov (Br F ((([]:List Af)++a)++b) v)) ==((ov (Br F a v))&&(ov (Br F b v)))) (λhb=>?_) (λhb=>?_))))))))))
   ·refine wo hb (wm rfl (wo hb (wm rfl (wo hb (WL.freeze (i:=1) rfl (WL.up (d:=58) (r:=AE 6 (A3 Ad ((([]:List Af)++b)++a))) rfl (Up.fact (i:=0) rfl) (Cs Qn (Hy F ((([]:List Af)++b)++a) v (ov (Br F ((([]:List Af)++b)++a) v)) (Gn (Dq h1 hb))) rfl (wo hb (wm rfl (wo hb (wv (r:=rB ((ov (Br F ((([]:List Af)++b)++a) v)) ==((ov (Br F a v))&&(ov (Br F b v))))) (Nl UL rfl rfl) (C5 rfl hb rfl (wm rfl (AU ((ov (Br F ((([]:List Af)++b)++a) v)) ==((ov (Br F a v))&&(ov (Br F b v)))) (λhg=>?_) (λhg=>?_)))))))))))))))
    ·refine wo hg (Cs Tryz.call12 (Ns F (ov (Hx F)) (Gn (Dq (Dq h5 hb) hg))) rfl (C5 rfl hg rfl (wa rfl (Aj ?_))));exact Cp (And.intro hb hg)
    ·refine wf hg (wv (r:=rB false) (Au rfl hg rfl) (wa rfl (Aj ?_)));exact Cp (And.intro hb hg)
   ·refine wf hb (wf hb (wf hb (wf hb (wf hb (wv (r:=rB false) (Au rfl hb rfl) (wm rfl (wz rfl rfl (wv (r:=rB false) (Au (b:=false) rfl rfl rfl) (wa rfl (Aj ?_))))))))));exact Cp hb
  refine Aq ?_;obtain rfl:=Am h7;exact Ap (Bw Tryz.results7 (A9 rfl)) sN ⟨rfl,rfl⟩
end Go.Proofs.YtghdglcmblpbeaaGreatDoor.Q
namespace Go.Proofs.YtghdglcmblpbeaaGreatDoor.lawFilterJoins
open Go
set_option linter.unusedVariables false
def P3 (y:Aa):Bool:=(BM .i64) y.fKind&&(BM .i64) y.fInt&&So y.fStr&&(BM .i64) y.fN
def QM (y:Af):Bool:=(λys:(List Ar)=>ys.all So&&decide (ys.length≤9223372036854775807)) y.fPath&&(BM .i64) y.fOp&&(λys:(List (List Aa))=>ys.all (λys:(List Aa)=>ys.all P3&&decide (ys.length≤9223372036854775807))&&decide (ys.length≤9223372036854775807)) y.fValues&&So y.fText&&(BM .i64) y.fLow&&(BM .i64) y.fHigh
def Vm:Prop:=∀(y0:(List Af)) (y1:(List Af)) (y2:(List Aa)) (o0:(λys:(List Af)=>ys.all QM&&decide (ys.length≤9223372036854775807)) y0=true) (o1:(λys:(List Af)=>ys.all QM&&decide (ys.length≤9223372036854775807)) y1=true) (o2:(λys:(List Aa)=>ys.all P3&&decide (ys.length≤9223372036854775807)) y2=true),∃F,KX F y0 y1 y2=some true
end Go.Proofs.YtghdglcmblpbeaaGreatDoor.lawFilterJoins
namespace Go.Proofs.YtghdglcmblpbeaaGreatDoor
open Go
set_option linter.unusedVariables false
set_option linter.unusedSimpArgs false
def RJ (c:UInt8):Bool:=decide (32≤c.toNat)&&decide (c.toNat≤126)
theorem SQ {s:Ar}{x:Int}{c:UInt8}(h:s[x.toNat]? =some c):BX s x=(c.toNat:Int):=by simp[BX,h]
theorem Lw {α:Type}{p:α→Bool}{s:List α}{k:Nat}{c:α}(h:s[k]? =some c):(s.take (k+1)).all p=((s.take k).all p&&p c):=by
 rw[List.take_add_one,h];simp
theorem M9 {α:Type}{p:α→Bool}{s:List α}{k:Nat}{c:α}(h:s[k]? =some c)(hp:p c=false):s.all p=false:=by
 rw[List.all_eq_false];exact⟨c,V5 h,by simp[hp]⟩
theorem MO {F:Nat}{s:Ar}(hF:s.length<F)(hs:s.length≤9223372036854775807):Ir F s=some (s.all RJ):=by
 obtain⟨o,h1,h2⟩:=Mq (body:=λσ=>Gh s σ) (λx=>0≤x∧x≤(s.length:Int)∧(s.take x.toNat).all RJ=true) (λx=>s.length-x.toNat)
  (λo=>BV (λ_=>Gg) o=some (s.all RJ)) (λx ⟨h0,hl,ha⟩=>by
   unfold Gh
   by_cases hx:x<(s.length:Int)
   ·obtain⟨c,hc⟩:∃c,s[x.toNat]? =some c:=⟨s[x.toNat]'(by omega),Vw (by omega)⟩
    rw[Bh (by simpa using hx),Ck h0 hx,SQ hc]
    cases ho:RJ c with
    | false=>
     refine .inr ⟨.ret false,?_,?_⟩
     ·rw[Bh];simp only[RJ,Bool.and_eq_false_iff,Vr] at ho;simp only[VV,Vq];omega
     ·simp[BV,M9 hc ho]
    | true=>
     refine .inl ⟨x+1,?_,⟨by omega,by omega,?_⟩,by omega⟩
     ·rw[AZ,Bx (by omega) (by omega)];simp only[RJ,Vs,Vq] at ho;simp only[VI,Vr];omega
     ·rw[show(x+1).toNat=x.toNat+1 from by omega,Lw hc,ha,ho];rfl
   ·refine .inr ⟨.go (),by rw[AZ (by simpa using hx)],?_⟩;rw[show x.toNat=s.length from by omega,List.take_length] at ha;simp[BV,Gg,ha]) F 0 ⟨by omega,by omega,by simp⟩ (by simpa using hF)
 unfold Ir;rw[Bv h1,h2]
theorem Mk (F:Nat)(s:Ar):Ml F s=Ir F s:=rfl
theorem Py {F:Nat}{s:Ar}(hF:s.length<F)(hs:s.length≤9223372036854775807):Ml F s=some (s.all RJ):=by rw[Mk];exact MO hF hs
def pl (c:Aa):Bool:=
 bif decide (c.fKind=1) then(decide (c.fInt=0)&&(decide (c.fStr=[])&&decide (c.fN=0))) else
 bif decide (c.fKind=2) then((decide (c.fInt=0)||decide (c.fInt=1))&&(decide (c.fStr=[])&&decide (c.fN=0))) else
 bif decide (c.fKind=3) then(decide (c.fStr=[])&&decide (c.fN=0)) else
 bif decide (c.fKind=4) then(decide (c.fInt=0)&&(decide (c.fN=0)&&c.fStr.all RJ)) else
 bif decide (c.fKind=5) then(decide (c.fInt=0)&&(decide (c.fStr=[])&&decide (0≤c.fN))) else
 bif decide (c.fKind=6) then(decide (c.fInt=0)&&(decide (c.fStr=[])&&decide (0≤c.fN))) else false
theorem Dt {α:Type}{p:Bool}{x y:Option α}{a b:α}(h:x=some a)(h':y=some b):AP p x y=some (bif p then a else b):=by cases p<;>simp[AP,h,h']
theorem Pm {F:Nat}{c:Aa}(hF:c.fStr.length<F)(hs:c.fStr.length≤9223372036854775807):KC F c=some (pl c):=by
 unfold KC pl;rw[MO hF hs];refine Dt rfl (Dt ?_ (Dt rfl (Dt ?_ (Dt rfl (Dt rfl rfl)))))
 ·cases h:decide (c.fInt=0)<;>simp
 ·simp[imp,AQ,ov]
def JQ:List A6→List A6
 | []=>[]
 | e::S=>bif decide (1<e.fLeft) then⟨e.fPairs,e.fLeft-1,e.fPairs,e.fLast,e.fStarted⟩::S else JQ S
theorem Kq {α:Type}[Inhabited α](xs:List α)(e:α):Ax (xs++[e]) (xs.length:Int)=e:=by simp[Ax]
theorem I4 {α:Type}(xs:List α)(e e':α):List.set (xs++[e]) (Int.toNat (xs.length:Int)) e'=xs++[e']:=by simp
theorem ID {α:Type}(xs:List α)(e:α):((xs++[e]).length:Int)-1=(xs.length:Int):=by simp
theorem Pt {α:Type}(xs:List α)(e:α):List.take (Int.toNat (xs.length:Int)) (xs++[e])=xs:=by simp
theorem JI:∀(S:List A6) (F:Nat),S.length<F→(∀e∈S,1≤e.fLeft∧e.fLeft≤9223372036854775807)→S.length≤4611686018427387904→
  ∃o,BW (λσ=>Db σ) F S.reverse=some o∧BV (λν=>Dy ν) o=some (JQ S).reverse
 | [],F+1,_,_,_=>⟨.go [],by simp[BW,Db,AP],by simp[BV,Dy,JQ]⟩
 | e::S,F+1,hF,hb,hl=>by
  obtain⟨h1,h2⟩:=hb e (by simp);simp only[Vt] at hF hl;have hx:S.reverse.length=S.length:=by simp
  generalize hxs:S.reverse=xs at hx;have hr:(e::S).reverse=xs++[e]:=by simp[hxs]
  rw[hr];have hb1:Db (xs++[e])=bif decide (1<e.fLeft) then some (.out (.ret (xs++[⟨e.fPairs,e.fLeft-1,e.fPairs,e.fLast,e.fStarted⟩]))) else some (.next xs):=by
   unfold Db;rw[Bh (by simp)];simp only[ID,Kq,I4,Je];rw[Bx (by omega) (by omega),Ck (by omega) (by simp;omega),Bx (by omega) (by omega)]
   cases hd:decide (1<e.fLeft) with
   | true=>
    rw[Bh (by simp at hd ⊢;omega)];rfl
   | false=>
    rw[AZ (by simp at hd ⊢;omega),Bx (by omega) (by omega),GS (by omega) (by simp;omega),Pt];rfl
  rw[BW,hb1]
  cases hd:decide (1<e.fLeft) with
  | true=>exact⟨_,rfl,by simp[BV,Dy,JQ,hd,hxs]⟩
  | false=>
   obtain⟨o,ho1,ho2⟩:=JI S F (by omega) (λe he=>hb e (by simp[he])) (by omega);rw[hxs] at ho1;exact⟨o,ho1,by rw[ho2];simp[JQ,hd]⟩
theorem KD {S:List A6}{F:Nat}(hF:S.length<F)(hb:∀e∈S,1≤e.fLeft∧e.fLeft≤9223372036854775807)(hl:S.length≤4611686018427387904):I1 F S.reverse=some (JQ S).reverse:=by
 obtain⟨o,h1,h2⟩:=JI S F hF hb hl;unfold I1;rw[Bv h1,h2]
def Jj (s:Ar):Int:=s.length+2+s.count 34+s.count 92
theorem K9 {s:Ar}(hs:s.length≤1152921504606846976):HD s=some (Jj s):=by
 have h1:s.count 34≤s.length:=List.count_le_length;have h2:s.count 92≤s.length:=List.count_le_length;unfold HD Lib.countByte;rw[Bx (by omega) (by omega),Bx (by omega) (by omega),Bx (by omega) (by omega)];rfl
def Th (c:Aa):Int:=
 bif decide (c.fKind=1) then 4 else bif decide (c.fKind=2) then IntKind.wrap .i64 (5-c.fInt) else bif decide (c.fKind=3) then((Lib.itoa c.fInt).length:Int) else
 bif decide (c.fKind=4) then Jj c.fStr else IntKind.wrap .i64 (2+max 0 (IntKind.wrap .i64 (c.fN-1)))
theorem MP {c:Aa}(hs:c.fStr.length≤1152921504606846976)(hi:BM .i64 c.fInt=true):MQ c=some (Th c):=by
 unfold MQ Th;rw[K9 hs];refine Dt rfl (Dt rfl (Dt ?_ (Dt rfl rfl)));rw[C6 hi]
def Hh (d:Nat)(sh:AC)(c:Aa):AC:=
 ⟨max sh.fDepth ((d:Int)+1),IntKind.wrap .i64 (sh.fBytes+Th c),sh.fOutside||(decide (c.fKind=3)&&!(decide ((-1000000000000)≤c.fInt)&&decide (c.fInt≤1000000000000))),sh.fLong||decide (200<(c.fStr.length:Int))⟩
def Ur (sh:AC)(c:Aa):AC:=⟨sh.fDepth,IntKind.wrap .i64 (sh.fBytes+(Jj c.fStr+1)),sh.fOutside,sh.fLong||decide (200<(c.fStr.length:Int))⟩
def Jq:List A6→Bool
 | []=>false
 | e::_=>e.fKey
abbrev MD:=List A6×Int×AC
abbrev Tb:=Out (Int×AC×Bool) AC
def NF (n:Int)(S:List A6)(i:Int)(sh:AC)(c:Aa):Stp MD Tb:=
 bif !pl c then .out (.ret (0,sh,false)) else
 match S with
 | e::S'=>
  bif e.fKey then
   bif !decide (c.fKind=4)||(e.fStarted&&(CE c.fStr e.fLast||decide (c.fStr=e.fLast))) then .out (.ret (0,sh,false))
   else .next ((⟨e.fPairs,e.fLeft,false,c.fStr,true⟩::S').reverse,i+1,Ur sh c)
  else bif decide (0<c.fN) then
   bif decide (n<c.fN) then .out (.ret (0,Hh S.length sh c,false))
   else .next ((⟨decide (c.fKind=6),c.fN,decide (c.fKind=6),[],false⟩::S).reverse,i+1,Hh S.length sh c)
  else bif decide (JQ S=[]) then .out (.ret (i+1,Hh S.length sh c,true)) else .next ((JQ S).reverse,i+1,Hh S.length sh c)
 | []=>
  bif decide (0<c.fN) then
   bif decide (n<c.fN) then .out (.ret (0,Hh 0 sh c,false))
   else .next ([⟨decide (c.fKind=6),c.fN,decide (c.fKind=6),[],false⟩],i+1,Hh 0 sh c)
  else .out (.ret (i+1,Hh 0 sh c,true))
theorem Lk {S:List A6}:decide (((JQ S).reverse.length:Int)=0)=decide (JQ S=[]):=by
 rw[VK];simp
theorem UD {α:Type}{xs:List α}{e x:α}{M:Nat}(h:xs.length+1≤M)(hM2:(M+2)*48≤140737488355328):DU 48 ((xs++[e]).length+([x]:List α).length)=true:=by
 refine V2 (Nat.le_trans (Nat.mul_le_mul_right 48 ?_) hM2);rw[V3,VW,VW];omega
set_option maxHeartbeats 600000 in
theorem MT {F:Nat}{v:List Aa}{S:List A6}{i:Int}{sh:AC}{c:Aa}(h0:0≤i)(hc:v[i.toNat]? =some c){M:Nat}(hM:M≤1152921504606846976)(hM2:(M+2)*48≤140737488355328)(hv:v.length≤M)(hS:S.length≤M)(hF:M<F)
  (hs:c.fStr.length≤M) (hi:BM .i64 c.fInt=true) (hb:∀e∈S,1≤e.fLeft∧e.fLeft≤9223372036854775807):Da F v S.reverse i sh=some (NF v.length S i sh c):=by
 have hil:i.toNat<v.length:=(List.getElem?_eq_some_iff.1 hc).1;have hat:Ax v i=c:=by simp[Ax,hc]
 unfold Da NF;rw[Bh (by simp;omega),Ck h0 (by omega),hat,Pm (by omega) (by omega),Bv rfl]
 cases hp:pl c with
 | false=>rw[Bh (by simp)];rfl
 | true=>
  rw[AZ (by simp)]
  cases S with
  | nil=>
   rw[C6 (by simp[imp]),C6 (by simp[imp]),AZ (by simp),Bx (by simp) (by simp),MP (by omega) hi,Bv rfl,C6 (by simp[imp,Bi])];simp only[Bi,ov,VD,V1,Vu]
   cases hn:decide (0<c.fN) with
   | true=>
    rw[Bh rfl]
    cases hm:decide ((v.length:Int)<c.fN) with
    | true=>rw[Bh rfl];simp[Hh]
    | false=>rw[AZ rfl,C6 (by simp[DU])];unfold Dl;rw[Bx (by omega) (by omega)];simp[Hh]
   | false=>
    rw[AZ rfl,Bv (KD (S:=[]) (by simp;omega) (by simp) (by simp)),Bh (by simp[JQ]),Bx (by omega) (by omega)];simp[Hh]
  | cons e S'=>
   have hx:S'.reverse.length=S'.length:=by simp
   generalize hxs:S'.reverse=xs at hx;have hr:(e::S').reverse=xs++[e]:=by simp[hxs]
   simp only[Vt] at hS;have hlen:((xs++[e]).length:Int)=(xs.length:Int)+1:=by simp
   rw[hr,C6 (by simp only[imp,ID];rw[Lb (by omega) (by omega)];simp),C6 (by simp only[imp,ID];rw[T3 (by omega) (by omega)];simp)];rw[ID,Kq]
   cases hk:e.fKey with
   | true=>
    rw[Bh (by simp),Bx (by omega) (by omega),Ck (by omega) (by omega)];simp only[hk,V1,Vu,Vz]
    cases ht : !decide (c.fKind=4)||(e.fStarted&&(CE c.fStr e.fLast||decide (c.fStr=e.fLast))) with
    | true=>rw[Bh rfl];rfl
    | false=>
     rw[AZ rfl,I4,Je,Kq,I4,Je,Kq,I4,Je,K9 (by omega),Bv rfl,Bx (by unfold Jj;omega) (by unfold Jj;have:=@List.count_le_length UInt8 _ 34 c.fStr;have:=@List.count_le_length UInt8 _ 92 c.fStr;omega)];unfold Dl;rw[Bx (by omega) (by omega)];simp[Ur,hxs]
   | false=>
    rw[AZ (by simp),hlen,Bx (by omega) (by omega),MP (by omega) hi,Bv rfl,C6 (by simp[imp,Bi])];simp only[hk,Bi,ov,VD,V1,Vu,Vz]
    cases hn:decide (0<c.fN) with
    | true=>
     rw[Bh rfl]
     cases hm:decide ((v.length:Int)<c.fN) with
     | true=>rw[Bh rfl];simp[Hh,hx]
     | false=>rw[AZ rfl,C6 (UD (by omega) hM2)];unfold Dl;rw[Bx (by omega) (by omega)];simp[Hh,hx,hxs]
    | false=>
     have hcl:=KD (S:=e::S') (F:=F) (by simp;omega) hb (by simp;omega);rw[hr] at hcl;rw[AZ rfl,hcl,Bv rfl,Lk]
     cases hq:decide (JQ (e::S')=[]) with
     | true=>rw[Bh rfl,Bx (by omega) (by omega)];simp[Hh,hx]
     | false=>rw[AZ rfl];unfold Dl;rw[Bx (by omega) (by omega)];simp[Hh,hx]
section
variable {S O : Type} {body : S → Option (Stp S O)} {s t u : S} {o : O}
def Du (body:S→Option (Stp S O))(s t:S):Prop:=∃k,∀n,BW body (n+k) s=BW body n t
def Fin (body:S→Option (Stp S O))(s:S)(o:O):Prop:=∃k,∀n,BW body (n+k) s=some o
theorem Du.refl (s:S):Du body s s:=⟨0,λ_=>rfl⟩
theorem Du.trans (h:Du body s t)(h':Du body t u):Du body s u:=by
 obtain⟨k,hk⟩:=h;obtain⟨j,hj⟩:=h';exact⟨j+k,λn=>by rw[← Nat.add_assoc,hk,hj]⟩
theorem Du.step (h:body s=some (.next t)):Du body s t:=⟨1,λn=>by rw[BW,h]⟩
theorem Fin.step (h:body s=some (.out o)):Fin body s o:=⟨1,λn=>by rw[BW,h]⟩
theorem Du.fin (h:Du body s t)(h':Fin body t o):Fin body s o:=by
 obtain⟨k,hk⟩:=h;obtain⟨j,hj⟩:=h';exact⟨j+k,λn=>by rw[← Nat.add_assoc,hk,hj]⟩
end
inductive Fo where
 | nil
 | cell (k:Option Ar) (c:Aa) (r:Fo)
 | node (k:Option Ar) (c:Aa) (kids r:Fo)
def BK:Option Ar→List Aa
 | none=>[]
 | some s=>[⟨4,0,s,0⟩]
def Fo.flat:Fo→List Aa
 | .nil=>[]
 | .cell k c r=>BK k++c::r.flat
 | .node k c kids r=>BK k++c::(kids.flat++r.flat)
def Fo.cnt:Fo→Nat
 | .nil=>0
 | .cell _ _ r=>r.cnt+1
 | .node _ _ _ r=>r.cnt+1
def Cv (m:Bool)(last:Option Ar):Option Ar→Bool
 | none=>!m
 | some s=>m&&s.all RJ&&(match last with
  | none=>true
  | some p=>!(CE s p||decide (s=p)))
def Fo.wf:Bool→Option Ar→Fo→Bool
 | _,_,.nil=>true
 | m,last,.cell k c r=>Cv m last k&&pl c&&!decide (0<c.fN)&&r.wf m k
 | m,last,.node k c kids r=>Cv m last k&&pl c&&decide (0<c.fN)&&decide (c.fN=kids.cnt)&&kids.wf (decide (c.fKind=6)) none&&r.wf m k
def JK (k:Option Ar)(sh:AC):AC:=match k with
 | none=>sh
 | some s=>Ur sh ⟨4,0,s,0⟩
def Fo.sh (d:Nat):AC→Fo→AC
 | s,.nil=>s
 | s,.cell k c r=>r.sh d (Hh d (JK k s) c)
 | s,.node k c kids r=>r.sh d (kids.sh (d+1) (Hh d (JK k s) c))
def Gb (body:MD→Option (Stp MD Tb))(s:MD)(S:List A6)(i:Int)(sh:AC):Prop:=
 if JQ S=[] then Fin body s (.ret (i,sh,true)) else Du body s ((JQ S).reverse,i,sh)
theorem Gb.of {body:MD→Option (Stp MD Tb)}{s t:MD}{S:List A6}{i:Int}{sh:AC}(h:Du body s t)(h':Gb body t S i sh):Gb body s S i sh:=by
 unfold Gb at *
 split
 ·rename_i e;rw[if_pos e] at h';exact h.fin h'
 ·rename_i e;rw[Wa e] at h';exact h.trans h'
theorem Gb.pop {body:MD→Option (Stp MD Tb)}{s:MD}{e:A6}{S:List A6}{i:Int}{sh:AC}(h:Gb body s (e::S) i sh)(h1:e.fLeft=1):Gb body s S i sh:=by
 have:JQ (e::S)=JQ S:=by simp[JQ,h1]
 unfold Gb at *;rw[this] at h;exact h
theorem Gb.more {body:MD→Option (Stp MD Tb)}{s:MD}{e:A6}{S:List A6}{i:Int}{sh:AC}(h:Gb body s (e::S) i sh)(h1:1<e.fLeft):Du body s ((⟨e.fPairs,e.fLeft-1,e.fPairs,e.fLast,e.fStarted⟩::S).reverse,i,sh):=by
 have:JQ (e::S)=⟨e.fPairs,e.fLeft-1,e.fPairs,e.fLast,e.fStarted⟩::S:=by simp[JQ,h1]
 unfold Gb at *;rw[this,Wa (by simp)] at h;exact h
structure Pc (F M:Nat) (v:List Aa):Prop where
 hM:M≤1152921504606846976
 hM2:(M+2)*48≤140737488355328
 hv:v.length≤M
 hF:M<F
 hc:∀c∈v,c.fStr.length≤M∧BM .i64 c.fInt=true∧c.fN≤9223372036854775807
abbrev Nq (F:Nat)(v:List Aa):MD→Option (Stp MD Tb):=λσ=>Da F v σ.1 σ.2.1 σ.2.2
def Dc (S:List A6):Prop:=∀e∈S,1≤e.fLeft∧e.fLeft≤9223372036854775807
section
variable {F M : Nat} {v : List Aa} {S : List A6} {i : Int} {sh : AC} {c : Aa} {r : List Aa} {e : A6}
theorem Dr (h0:0≤i)(h:v.drop i.toNat=c::r):v[i.toNat]? =some c∧v.drop (i+1).toNat=r∧i<v.length:=by
 have h1:(v.drop i.toNat)[0]? =some c:=by rw[h];rfl
 have h2:v[i.toNat]? =some c:=by simpa using h1
 have h3:=(List.getElem?_eq_some_iff.1 h2).1;refine⟨h2,?_,by omega⟩;rw[show(i+1).toNat=i.toNat+1 from by omega,← List.drop_drop,h];rfl
theorem round (hA:Pc F M v)(h0:0≤i)(h:v.drop i.toNat=c::r)(hS:(S.length:Int)≤i)(hb:Dc S):Nq F v (S.reverse,i,sh)=some (NF v.length S i sh c):=by
 obtain⟨h1,_,h3⟩:=Dr h0 h;obtain⟨a,b,_⟩:=hA.hc c (V5 h1);have:=hA.hv;exact MT h0 h1 hA.hM hA.hM2 hA.hv (by omega) hA.hF a b hb
def Ej (e:A6):Option Ar→A6
 | none=>e
 | some s=>⟨e.fPairs,e.fLeft,false,s,true⟩
def Hw (e:A6):Option Ar→Prop
 | none=>e.fStarted=false
 | some p=>e.fStarted=true∧e.fLast=p
theorem La (hA:Pc F M v)(h0:0≤i){k last:Option Ar}(h:v.drop i.toNat=BK k++r)(hS:(S.length:Int)+1≤i)(hb:Dc (e::S))(hk:Cv e.fKey last k=true)(hl:Hw e last) :
  Du (Nq F v) ((e::S).reverse,i,sh) ((Ej e k::S).reverse,i+(BK k).length,JK k sh):=by
 cases k with
 | none=>simpa[Ej,BK,JK] using Du.refl _
 | some s=>
  simp only[Cv,Vs] at hk;obtain⟨⟨hm,hok⟩,hcmp⟩:=hk;refine Du.step ?_;rw[round hA h0 (by simpa[BK] using h) (by simpa using hS) hb];have hp:pl ⟨4,0,s,0⟩=true:=by simp[pl,hok]
  have ht:(e.fStarted&&(CE s e.fLast||decide (s=e.fLast)))=false:=by
   cases last with
   | none=>simp only[Hw] at hl;rw[hl];rfl
   | some p=>obtain⟨h1,h2⟩:=hl;rw[h1,h2];simpa using hcmp
  simp only[NF,hp,hm,ht,V1,Vu,Vz,decide_true,VF,Bool.or_self];rfl
theorem Jp {k last:Option Ar}(hk:Cv e.fKey last k=true):(Ej e k).fKey=false:=by
 cases k with
 | none=>simpa[Ej,Cv] using hk
 | some s=>rfl
theorem Ig (k:Option Ar):(Ej e k).fLeft=e.fLeft∧(Ej e k).fPairs=e.fPairs:=by cases k<;>exact⟨rfl,rfl⟩
theorem Jo (hA:Pc F M v)(h0:0≤i)(h:v.drop i.toNat=c::r)(hS:(S.length:Int)≤i)(hb:Dc S)(hk:Jq S=false)(hp:pl c=true)(hn:decide (0<c.fN)=false) :
  Gb (Nq F v) (S.reverse,i,sh) S (i+1) (Hh S.length sh c):=by
 have hr:=round (sh:=sh) hA h0 h hS hb;unfold Gb
 cases S with
 | nil=>
  rw[if_pos (by simp[JQ])];refine Fin.step ?_;rw[hr];simp[NF,hp,hn]
 | cons e S=>
  simp only[Jq] at hk
  split
  ·rename_i hc
   refine Fin.step ?_;rw[hr];simp[NF,hp,hn,hk,hc]
  ·rename_i hc
   refine Du.step ?_;rw[hr];simp[NF,hp,hn,hk,hc]
theorem HG (hA:Pc F M v)(h0:0≤i)(h:v.drop i.toNat=c::r)(hS:(S.length:Int)≤i)(hb:Dc S)(hk:Jq S=false)(hp:pl c=true)(hn:decide (0<c.fN)=true)(hv:c.fN≤v.length) :
  Du (Nq F v) (S.reverse,i,sh) ((⟨decide (c.fKind=6),c.fN,decide (c.fKind=6),[],false⟩::S).reverse,i+1,Hh S.length sh c):=by
 have hr:=round (sh:=sh) hA h0 h hS hb;have hv':decide ((v.length:Int)<c.fN)=false:=by simpa using hv
 refine Du.step ?_;rw[hr]
 cases S with
 | nil=>simp only[NF,hp,hn,hv',V1,Vu,Vz];rfl
 | cons e S=>
  simp only[Jq] at hk;simp only[NF,hp,hn,hv',hk,V1,Vu,Vz]
theorem CI:∀f:Fo,f.cnt≤f.flat.length
 | .nil=>V8 _
 | .cell k c r=>by have:=CI r;simp[Fo.cnt,Fo.flat];omega
 | .node k c kids r=>by have:=CI r;simp[Fo.cnt,Fo.flat];omega
theorem Ds {α:Type}{v xs r:List α}{i:Int}(h0:0≤i)(h:v.drop i.toNat=xs++r):v.drop (i+xs.length).toNat=r:=by
 rw[show(i+(xs.length:Int)).toNat=i.toNat+xs.length from by omega,← List.drop_drop,h,List.drop_left]
theorem MZ (hA:Pc F M v){e':A6}{s:MD}{k:Option Ar}{r':Fo}
  (ih:∀(e:A6) (S:List A6) (i:Int) (sh:AC) (last:Option Ar) (r:List Aa),1≤r'.cnt→r'.wf e.fPairs last=true→e.fKey=e.fPairs→e.fLeft=r'.cnt→Hw e last→(e.fPairs=false→last=none)→v.drop i.toNat=r'.flat++r→0≤i→(S.length:Int)+1≤i→Dc S→
   Gb (Nq F v) ((e::S).reverse,i,sh) S (i+r'.flat.length) (r'.sh (S.length+1) sh))
  (hd:Gb (Nq F v) s (e'::S) i sh) (hl:e'.fLeft=r'.cnt+1) (hw:r'.wf e'.fPairs k=true) (hk:Hw e' k) (hm:e'.fPairs=false→k=none) (hv:v.drop i.toNat=r'.flat++r) (h0:0≤i) (hS:(S.length:Int)+1≤i) (hb:Dc S) :
  Gb (Nq F v) s S (i+r'.flat.length) (r'.sh (S.length+1) sh):=by
 by_cases h1:r'.cnt=0
 ·cases r' with
  | nil=>simpa[Fo.flat,Fo.sh] using hd.pop (by rw[hl];rfl)
  | cell _ _ _=>simp[Fo.cnt] at h1
  | node _ _ _ _=>simp[Fo.cnt] at h1
 ·have:=hd.more (by omega);refine Gb.of this (ih _ S i sh k r (by omega) hw rfl (by simp only;omega) ?_ hm hv h0 hS hb)
  cases k with
  | none=>exact hk
  | some p=>exact hk
theorem Ih {k last:Option Ar}(hl:Hw e last)(hm:e.fPairs=false→last=none)(hk:Cv e.fPairs last k=true):Hw (Ej e k) k∧((Ej e k).fPairs=false→k=none):=by
 cases k with
 | none=>
  have:e.fPairs=false:=by simpa[Cv] using hk
  rw[hm this] at hl;exact⟨hl,λ_=>rfl⟩
 | some s=>
  refine⟨⟨rfl,rfl⟩,λh=>?_⟩;have h:e.fPairs=false:=h;simp[Cv,h] at hk
theorem JO (hA:Pc F M v):∀(f:Fo) (e:A6) (S:List A6) (i:Int) (sh:AC) (last:Option Ar) (r:List Aa),1≤f.cnt→f.wf e.fPairs last=true→e.fKey=e.fPairs→e.fLeft=f.cnt→Hw e last→(e.fPairs=false→last=none)→v.drop i.toNat=f.flat++r→0≤i→(S.length:Int)+1≤i→Dc S→
   Gb (Nq F v) ((e::S).reverse,i,sh) S (i+f.flat.length) (f.sh (S.length+1) sh):=by
 have hmax:∀(i:Int) (xs:List Aa),0≤i→v.drop i.toNat=xs→xs.length≤v.length:=λi xs _ h=>by rw[← h,List.length_drop];omega
 intro f
 induction f with
 | nil=>intro e S i sh last r h1;simp[Fo.cnt] at h1
 | cell k c r' ih=>
  intro e S i sh last r h1 hw hk hl hlo hm hv h0 hS hb;simp only[Fo.wf,Vs,V4] at hw;obtain⟨⟨⟨w1,w2⟩,w3⟩,w4⟩:=hw;simp only[Fo.flat,VX,List.cons_append] at hv;have hcnt:=hmax i _ h0 hv;have hcf:=CI r';simp only[V3,Vt] at hcnt;have hvM:=hA.hv;have hMM:=hA.hM;simp only[Fo.cnt] at hl;have hb':Dc (e::S):=λx hx=>by
   rcases List.mem_cons.1 hx with rfl | hx
   ·constructor<;>omega
   ·exact hb x hx
  have hkr:=La (sh:=sh) hA h0 hv hS hb' (by rw[hk];exact w1) hlo;have hv1:=Ds h0 hv;obtain⟨kl,kp⟩:=Ig (e:=e) k;have hbk:Dc (Ej e k::S):=λx hx=>by
   rcases List.mem_cons.1 hx with rfl | hx
   ·rw[kl];exact hb' e (by simp)
   ·exact hb x hx
  have hd:=Jo (sh:=JK k sh) hA (by omega) hv1 (by simp only[Vt];omega) hbk (Jp (by rw[hk];exact w1)) w2 w3;obtain⟨q1,q2⟩:=Ih hlo hm w1;have hv2:=(Dr (by omega) hv1).2.1;have:=MZ hA ih (hd.of hkr) (by rw[kl,hl];rfl) (by rw[kp];exact w4) q1 q2 hv2 (by omega) (by omega) hb;simp only[Fo.flat,Fo.sh,V3,Vt];rw[show i+((((BK k).length+(r'.flat.length+1):Nat)):Int)=i+(BK k).length+1+r'.flat.length from by omega];exact this
 | node k c kids r' ihk ih=>
  intro e S i sh last r h1 hw hk hl hlo hm hv h0 hS hb;simp only[Fo.wf,Vs,Vq] at hw;obtain⟨⟨⟨⟨⟨w1,w2⟩,w3⟩,w5⟩,w6⟩,w4⟩:=hw;simp only[Fo.flat,VX,List.cons_append] at hv;have hcnt:=hmax i _ h0 hv;have hcf:=CI r';have hck:=CI kids;simp only[V3,Vt] at hcnt;have hvM:=hA.hv;have hMM:=hA.hM;simp only[Fo.cnt] at hl;have hb':Dc (e::S):=λx hx=>by
   rcases List.mem_cons.1 hx with rfl | hx
   ·constructor<;>omega
   ·exact hb x hx
  have hkr:=La (sh:=sh) hA h0 hv hS hb' (by rw[hk];exact w1) hlo;have hv1:=Ds h0 hv;obtain⟨kl,kp⟩:=Ig (e:=e) k;have hbk:Dc (Ej e k::S):=λx hx=>by
   rcases List.mem_cons.1 hx with rfl | hx
   ·rw[kl];exact hb' e (by simp)
   ·exact hb x hx
  have hn:=HG (sh:=JK k sh) hA (by omega) hv1 (by simp only[Vt];omega) hbk (Jp (by rw[hk];exact w1)) w2 (by simpa using w3) (by omega);have hv2:=(Dr (by omega) hv1).2.1;have hd:=ihk ⟨decide (c.fKind=6),c.fN,decide (c.fKind=6),[],false⟩ (Ej e k::S) (i+(BK k).length+1) (Hh (S.length+1) (JK k sh) c) none _ (by omega) w6 rfl w5 rfl (λ_=>rfl) hv2 (by omega) (by simp only[Vt];omega) hbk;obtain⟨q1,q2⟩:=Ih hlo hm w1;have hv3:=Ds (by omega) hv2;have:=MZ hA ih ((hd.of hn).of hkr) (by rw[kl,hl];rfl) (by rw[kp];exact w4) q1 q2 hv3 (by omega) (by omega) hb;simp only[Fo.flat,Fo.sh,V3,Vt];rw[show i+((((BK k).length+(kids.flat.length+r'.flat.length+1):Nat)):Int)=i+(BK k).length+1+kids.flat.length+r'.flat.length from by omega];exact this
end
theorem KT {S O:Type}{body:S→Option (Stp S O)}{o:O}:∀{n:Nat} {s:S} (k:Nat),BW body n s=some o→BW body (n+k) s=some o
 | 0,s,k,h=>by cases h
 | n+1,s,k,h=>by
  rw[show n+1+k=n+k+1 from by omega,BW];rw[BW] at h
  cases hb:body s with
  | none=>rw[hb] at h;cases h
  | some t=>
   rw[hb] at h
   cases t with
   | next s'=>exact KT k h
   | out o'=>exact h
theorem Fin.eq {S O:Type}{body:S→Option (Stp S O)}{s:S}{o o':O}{n:Nat}(h:Fin body s o)(h':BW body n s=some o'):o'=o:=by
 obtain⟨k,hk⟩:=h;have:=KT k h';rw[hk n] at this;exact(Am this).symm
theorem LT:∀{S:List A6},Dc S→Dc (JQ S)∧(JQ S).length≤S.length
 | [],h=>⟨h,V8 _⟩
 | e::S,h=>by
  have hS:Dc S:=λx hx=>h x (by simp[hx]);have he:=h e (by simp);unfold JQ
  cases hd:decide (1<e.fLeft) with
  | true=>
   simp only[Vq] at hd;refine⟨λx hx=>?_,by simp⟩;rcases List.mem_cons.1 hx with rfl | hx
   ·simp only;omega
   ·exact hS x hx
  | false=>
   obtain⟨h1,h2⟩:=LT hS;exact⟨h1,by simp only[Vu,Vt];omega⟩
theorem QT {n:Int}{S:List A6}{i:Int}{sh:AC}{c:Aa}{σ:MD}(hb:Dc S)(hS:(S.length:Int)≤i)(hN:c.fN≤9223372036854775807)(h:NF n S i sh c = .next σ):∃S' sh',σ=(S'.reverse,i+1,sh')∧Dc S'∧(S'.length:Int)≤i+1:=by
 unfold NF at h
 cases hp:pl c with
 | false=>simp[hp] at h
 | true=>
  simp only[hp,V1,Vu] at h
  cases S with
  | nil=>
   simp only at h
   cases hn:decide (0<c.fN) with
   | false=>simp[hn] at h
   | true=>
    simp only[hn,Vz] at h
    cases hm:decide (n<c.fN) with
    | true=>simp[hm] at h
    | false=>
     simp only[hm,Vu,Stp.next.injEq] at h;refine⟨[_],_,h.symm,λx hx=>?_,by simp at hS ⊢;omega⟩;simp only[VA] at hx;subst hx;simp only[Vq] at hn;exact⟨by simp only;omega,hN⟩
  | cons e S=>
   have he:=hb e (by simp);have hbS:Dc S:=λx hx=>hb x (by simp[hx]);simp only[Vt] at hS
   cases hk:e.fKey with
   | true=>
    simp only[hk,Vz] at h
    cases hq:(!decide (c.fKind=4)||(e.fStarted&&(CE c.fStr e.fLast||decide (c.fStr=e.fLast)))) with
    | true=>rw[hq] at h;simp at h
    | false=>
     rw[hq] at h;simp only[Vu,Stp.next.injEq] at h;refine⟨_::S,_,h.symm,λx hx=>?_,by simp only[Vt];omega⟩;rcases List.mem_cons.1 hx with rfl | hx
     ·exact he
     ·exact hbS x hx
   | false=>
    simp only[hk,Vu] at h
    cases hn:decide (0<c.fN) with
    | true=>
     simp only[hn,Vz] at h
     cases hm:decide (n<c.fN) with
     | true=>simp[hm] at h
     | false=>
      simp only[hm,Vu,Stp.next.injEq] at h;refine⟨_::e::S,_,h.symm,λx hx=>?_,by simp only[Vt];omega⟩;rcases List.mem_cons.1 hx with rfl | hx
      ·simp only[Vq] at hn;exact⟨by simp only;omega,hN⟩
      ·exact hb x hx
    | false=>
     simp only[hn,Vu] at h
     cases hq:decide (JQ (e::S)=[]) with
     | true=>rw[hq] at h;simp at h
     | false=>
      rw[hq] at h;simp only[Vu,Stp.next.injEq] at h;obtain⟨h1,h2⟩:=LT hb;simp only[Vt] at h2;exact⟨_,_,h.symm,h1,by omega⟩
theorem KU {F M:Nat}{v:List Aa}(hA:Pc F M v):∃o,BW (Nq F v) F (([]:List A6),0,(⟨0,0,false,false⟩:AC))=some o∧True:=by
 refine Mq (λσ=>∃S i sh,σ=(S.reverse,i,sh)∧Dc S∧(S.length:Int)≤i∧0≤i∧i≤v.length) (λσ=>v.length-σ.2.1.toNat) (λ_=>True) (λσ hI=>?_) F _ ⟨[],0,_,rfl,(λx hx=>by cases hx),VP _,VP _,by omega⟩ (by have:=hA.hv;have:=hA.hF;simp;omega);obtain⟨S,i,sh,rfl,hb,hS,h0,hi⟩:=hI
 by_cases hx:i<v.length
 ·obtain⟨c,hc⟩:∃c,v[i.toNat]? =some c:=⟨v[i.toNat]'(by omega),Vw (by omega)⟩
  have hdr:v.drop i.toNat=c::v.drop (i.toNat+1):=by rw[List.drop_eq_getElem_cons (by omega)];congr 1;exact(List.getElem?_eq_some_iff.1 hc).2
  have hr:=round (sh:=sh) hA h0 hdr hS hb
  cases hl:NF v.length S i sh c with
  | next τ=>
   obtain⟨S',sh',rfl,h1,h2⟩:=QT hb hS (hA.hc c (V5 hc)).2.2 hl;exact .inl ⟨_,by rw[hr,hl],⟨S',i+1,sh',rfl,h1,h2,by omega,by omega⟩,by simp only;omega⟩
  | out o=>exact .inr ⟨o,by rw[hr,hl],trivial⟩
 ·refine .inr ⟨.go sh,?_,trivial⟩;show Da F v S.reverse i sh=_;unfold Da;rw[AZ (by simpa using hx)]
def Fo.one:Fo→Bool
 | .cell none _ .nil=>true
 | .node none _ _ .nil=>true
 | _=>false
def KH:AC:=⟨0,0,false,false⟩
theorem QS {F M:Nat}{v:List Aa}(hA:Pc F M v){f:Fo}(h1:f.one=true)(hw:f.wf false none=true){r:List Aa}(hv:v=f.flat++r):Fin (Nq F v) ([],0,KH) (.ret (f.flat.length,f.sh 0 KH,true)):=by
 have h0:v.drop (0:Int).toNat=f.flat++r:=by rw[hv];rfl
 have hlen:f.flat.length≤v.length:=by rw[hv];simp
 cases f with
 | nil=>cases h1
 | cell k c r'=>
  cases k with
  | some s=>cases h1
  | none=>
   cases r' with
   | nil=>
    simp only[Fo.wf,Vs,V4] at hw;have:=Jo (S:=[]) (sh:=KH) hA (VP 0) h0 (by simp) (λx hx=>by cases hx) rfl hw.1.1.2 hw.1.2;unfold Gb at this;rw[if_pos (show JQ []=[] from rfl)] at this;simpa[Fo.flat,Fo.sh,BK,JK] using this
   | cell _ _ _=>cases h1
   | node _ _ _ _=>cases h1
 | node k c kids r'=>
  cases k with
  | some s=>cases h1
  | none=>
   cases r' with
   | nil=>
    simp only[Fo.wf,Vs,Vq] at hw;obtain⟨⟨⟨⟨⟨w1,w2⟩,w3⟩,w5⟩,w6⟩,w4⟩:=hw;have hck:=CI kids;simp only[Fo.flat,BK,VT,VY,Vt] at hlen;have hvM:=hA.hv;have hMM:=hA.hM;have hn:=HG (S:=[]) (sh:=KH) hA (VP 0) h0 (by simp) (λx hx=>by cases hx) rfl w2 (by simpa using w3) (by omega);have hv2:=(Dr (VP 0) h0).2.1;have hd:=JO hA kids ⟨decide (c.fKind=6),c.fN,decide (c.fKind=6),[],false⟩ [] (0+1) (Hh 0 KH c) none r (by omega) w6 rfl w5 rfl (λ_=>rfl) (by rw[hv2];simp[Fo.flat]) (by omega) (by simp) (λx hx=>by cases hx);unfold Gb at hd;rw[if_pos (show JQ []=[] from rfl)] at hd;have:=hn.fin hd;have e:((0:Int)+1+kids.flat.length)=((Fo.node none c kids .nil).flat.length:Int):=by simp[Fo.flat,BK];omega
    rw[e] at this;exact this
   | cell _ _ _=>cases h1
   | node _ _ _ _=>cases h1
theorem Np {F M:Nat}{v:List Aa}(hA:Pc F M v){f:Fo}(h1:f.one=true)(hw:f.wf false none=true){r:List Aa}(hv:v=f.flat++r):DI F v=some ((f.flat.length:Int),f.sh 0 KH,true):=by
 obtain⟨o,ho,_⟩:=KU hA;have e:=(QS hA h1 hw hv).eq ho;subst e;unfold DI;rw[Bv ho];rfl
def GI (m:Bool)(last:Option Ar)(xs:List Aa):Option (Option Ar×List Aa):=
 bif m then match xs with
  | []=>none
  | c::r=>bif pl c&&decide (c.fKind=4)&&Cv true last (some c.fStr) then some (some c.fStr,r) else none
 else some (none,xs)
def Gz:Nat→Bool→Option Ar→Nat→List Aa→Option (Fo×List Aa)
 | 0,_,_,_,_=>none
 | _+1,_,_,0,xs=>some (.nil,xs)
 | F+1,m,last,k+1,xs=>
  match GI m last xs with
  | none=>none
  | some (_,[])=>none
  | some (key,c::xs')=>
   bif !pl c then none else
   bif decide (0<c.fN) then
    match Gz F (decide (c.fKind=6)) none c.fN.toNat xs' with
    | none=>none
    | some (kids,ys)=>match Gz F m key k ys with
     | none=>none
     | some (r,zs)=>some (.node key c kids r,zs)
   else match Gz F m key k xs' with
    | none=>none
    | some (r,zs)=>some (.cell key c r,zs)
theorem Mn {c:Aa}(hp:pl c=true)(hk:c.fKind=4):c=⟨4,0,c.fStr,0⟩∧c.fStr.all RJ=true:=by
 cases c
 simp only at hk;subst hk;simp[pl] at hp;obtain⟨h1,h2,h3⟩:=hp;subst h1;subst h2;exact⟨rfl,by simpa using h3⟩
theorem Kh {m:Bool}{last key:Option Ar}{xs r:List Aa}(h:GI m last xs=some (key,r)):xs=BK key++r∧Cv m last key=true:=by
 unfold GI at h
 cases m with
 | false=>cases h;exact⟨rfl,rfl⟩
 | true=>
  simp only[Vz] at h
  cases xs with
  | nil=>cases h
  | cons c r'=>
   simp only at h
   cases hb:(pl c&&decide (c.fKind=4)&&Cv true last (some c.fStr)) with
   | false=>rw[hb] at h;cases h
   | true=>
    rw[hb] at h;simp only[Vs,Vq] at hb
    cases h
    exact⟨by rw[(Mn hb.1.1 hb.1.2).1];rfl,hb.2⟩
theorem EU:∀(F:Nat) (m:Bool) (last:Option Ar) (k:Nat) (xs:List Aa) (f:Fo) (ys:List Aa),Gz F m last k xs=some (f,ys)→xs=f.flat++ys∧f.wf m last=true∧f.cnt=k
 | 0,_,_,_,_,_,_,h=>by cases h
 | F+1,m,last,0,xs,f,ys,h=>by cases h;exact⟨rfl,rfl,rfl⟩
 | F+1,m,last,k+1,xs,f,ys,h=>by
  rw[Gz] at h
  cases hk:GI m last xs with
  | none=>rw[hk] at h;cases h
  | some p=>
   obtain⟨key,r⟩:=p;obtain⟨h1,h2⟩:=Kh hk;rw[hk] at h
   cases r with
   | nil=>cases h
   | cons c xs'=>
    simp only at h
    cases hp:pl c with
    | false=>rw[hp] at h;cases h
    | true=>
     rw[hp] at h;simp only[V1,Vu] at h
     cases hn:decide (0<c.fN) with
     | true=>
      rw[hn] at h;simp only[Vz] at h
      cases hq:Gz F (decide (c.fKind=6)) none c.fN.toNat xs' with
      | none=>rw[hq] at h;cases h
      | some q=>
       obtain⟨kids,zs⟩:=q;rw[hq] at h;simp only at h
       cases hr:Gz F m key k zs with
       | none=>rw[hr] at h;cases h
       | some q2=>
        obtain⟨r2,us⟩:=q2;rw[hr] at h;cases h;obtain⟨a1,a2,a3⟩:=EU F _ _ _ _ _ _ hq;obtain⟨b1,b2,b3⟩:=EU F _ _ _ _ _ _ hr;refine⟨by rw[h1,a1,b1];simp[Fo.flat],?_,by simp[Fo.cnt,b3]⟩;simp only[Vq] at hn;simp only[Fo.wf,h2,hp,a2,b2,VG,V7,Vs,Vq];omega
     | false=>
      rw[hn] at h;simp only[Vu] at h
      cases hr:Gz F m key k xs' with
      | none=>rw[hr] at h;cases h
      | some q2=>
       obtain⟨r2,us⟩:=q2;rw[hr] at h;cases h;obtain⟨b1,b2,b3⟩:=EU F _ _ _ _ _ _ hr;exact⟨by rw[h1,b1];simp[Fo.flat],by simp[Fo.wf,h2,hp,b2,hn],by simp[Fo.cnt,b3]⟩
theorem Gl:∀(F F':Nat) (m:Bool) (last:Option Ar) (k:Nat) (xs:List Aa),xs.length<F→xs.length<F'→Gz F m last k xs=Gz F' m last k xs
 | 0,_,_,_,_,_,h,_=>by omega
 | _+1,0,_,_,_,_,_,h=>by omega
 | F+1,F'+1,m,last,0,xs,_,_=>rfl
 | F+1,F'+1,m,last,k+1,xs,h,h'=>by
  rw[Gz,Gz]
  cases hk:GI m last xs with
  | none=>rfl
  | some p=>
   obtain⟨key,r⟩:=p;obtain⟨h1,h2⟩:=Kh hk
   cases r with
   | nil=>rfl
   | cons c xs'=>
    have hl:xs'.length<xs.length:=by rw[h1];simp;omega
    simp only
    cases hp:pl c with
    | false=>rfl
    | true=>
     simp only[V1,Vu]
     cases hn:decide (0<c.fN) with
     | true=>
      simp only[Vz];rw[Gl F F' _ _ _ xs' (by omega) (by omega)]
      cases hq:Gz F' (decide (c.fKind=6)) none c.fN.toNat xs' with
      | none=>rfl
      | some q=>
       obtain⟨kids,zs⟩:=q;have:=(EU _ _ _ _ _ _ _ hq).1;have hz:zs.length≤xs'.length:=by rw[this];simp
       simp only;rw[Gl F F' m key k zs (by omega) (by omega)]
     | false=>
      simp only[Vu];rw[Gl F F' m key k xs' (by omega) (by omega)]
def Oz {S:Type}(body:S→Option (Stp S Tb))(s:S):Prop:=∃sh',Fin body s (.ret (0,sh',false))∨Fin body s (.go sh')
theorem Du.bad {S:Type}{body:S→Option (Stp S Tb)}{s t:S}(h:Du body s t)(h':Oz body t):Oz body s:=by
 obtain⟨sh',h' | h'⟩:=h'
 ·exact⟨sh',.inl (h.fin h')⟩
 ·exact⟨sh',.inr (h.fin h')⟩
section
variable {F M : Nat} {v : List Aa}
theorem Oz.end_ {S:List A6}{i:Int}{sh:AC}(h0:0≤i)(h:v.drop i.toNat=[]):Oz (Nq F v) (S.reverse,i,sh):=by
 refine⟨sh,.inr (Fin.step ?_)⟩;show Da F v S.reverse i sh=_;unfold Da;rw[AZ];have:v.length≤i.toNat:=by simpa using h
 simp;omega
theorem Oz.pl_ (hA:Pc F M v){S:List A6}{i:Int}{sh:AC}{c:Aa}{r:List Aa}(h0:0≤i)(h:v.drop i.toNat=c::r)(hS:(S.length:Int)≤i)(hb:Dc S)(hp:pl c=false):Oz (Nq F v) (S.reverse,i,sh):=by
 refine⟨sh,.inl (Fin.step ?_)⟩;rw[round hA h0 h hS hb];simp[NF,hp]
theorem Oc (hA:Pc F M v):∀(P:Nat) (k:Nat) (e:A6) (S:List A6) (i:Int) (sh:AC) (last:Option Ar) (xs:List Aa),xs.length<P→Gz P e.fPairs last (k+1) xs=none→e.fKey=e.fPairs→e.fLeft=(k:Int)+1→(k:Int)+1≤9223372036854775807→Hw e last→(e.fPairs=false→last=none)→v.drop i.toNat=xs→0≤i→(S.length:Int)+1≤i→Dc S→
  Oz (Nq F v) ((e::S).reverse,i,sh):=by
 intro P
 induction P with
 | zero=>intro k e S i sh last xs h;omega
 | succ P ih=>
  intro k e S i sh last xs hP hn hk hl hkm hlo hm hv h0 hS hb;have hb':Dc (e::S):=λx hx=>by
   rcases List.mem_cons.1 hx with rfl | hx
   ·constructor<;>omega
   ·exact hb x hx
  rw[Gz] at hn
  cases hq:GI e.fPairs last xs with
  | none=>
   unfold GI at hq
   cases hpr:e.fPairs with
   | false=>rw[hpr] at hq;cases hq
   | true=>
    rw[hpr] at hq hk;simp only[Vz] at hq
    cases xs with
    | nil=>exact Oz.end_ h0 hv
    | cons c r=>
     simp only at hq
     cases hp:pl c with
     | false=>exact Oz.pl_ hA h0 hv (by simpa using hS) hb' hp
     | true=>
      refine⟨sh,.inl (Fin.step ?_)⟩;rw[round hA h0 hv (by simpa using hS) hb'];have ht:(!decide (c.fKind=4)||(e.fStarted&&(CE c.fStr e.fLast||decide (c.fStr=e.fLast))))=true:=by
       rw[hp] at hq
       cases h4:decide (c.fKind=4) with
       | false=>rfl
       | true=>
        rw[h4] at hq;simp only[Bool.and_self,V7] at hq;have hok:=(Mn hp (by simpa using h4)).2
        cases last with
        | none=>simp[Cv,hok] at hq
        | some p=>
         obtain⟨q1,q2⟩:=hlo;rw[q1,q2]
         cases hc:(CE c.fStr p||decide (c.fStr=p)) with
         | true=>rfl
         | false=>simp[Cv,hok,hc] at hq
      simp only[NF,hp,hk,ht,V1,Vu,Vz]
  | some q=>
   obtain⟨key,r⟩:=q;obtain⟨h1,h2⟩:=Kh hq;rw[hq] at hn;have hkr:=La (sh:=sh) hA h0 (by rw[hv];exact h1) hS hb' (by rw[hk];exact h2) hlo;have hv1:=Ds h0 (hv.trans h1);obtain⟨kl,kp⟩:=Ig (e:=e) key;obtain⟨q1,q2⟩:=Ih hlo hm h2;have hbk:Dc (Ej e key::S):=λx hx=>by
    rcases List.mem_cons.1 hx with rfl | hx
    ·rw[kl];exact hb' e (by simp)
    ·exact hb x hx
   refine hkr.bad ?_
   cases r with
   | nil=>exact Oz.end_ (by omega) hv1
   | cons c xs'=>
    have hlen:xs'.length+1≤xs.length:=by rw[h1];simp
    have hvl:xs.length≤v.length:=by rw[← hv,List.length_drop];omega
    have hvM:=hA.hv;have hMM:=hA.hM;have hkk:=Jp (e:=e) (last:=last) (k:=key) (by rw[hk];exact h2);simp only at hn;have hSk:(((Ej e key::S).length:Nat):Int)≤i+(BK key).length:=by simp only[Vt];omega
    cases hp:pl c with
    | false=>exact Oz.pl_ hA (by omega) hv1 hSk hbk hp
    | true=>
     rw[hp] at hn;simp only[V1,Vu] at hn;obtain⟨g1,g2,g3⟩:=Dr (by omega) hv1;have hcN:=(hA.hc c (V5 g1)).2.2;have more:∀(s:MD) (j:Int) (sh':AC) (zs:List Aa),Gb (Nq F v) s (Ej e key::S) j sh'→v.drop j.toNat=zs→zs.length<P→0≤j→(S.length:Int)+1≤j→Gz P e.fPairs key k zs=none→Oz (Nq F v) s:=λs j sh' zs hd hz hzl hj hSj hnone=>by
      cases k with
      | zero=>
       cases P with
       | zero=>omega
       | succ P=>cases hnone
      | succ k=>
       have:=hd.more (by rw[kl];omega);refine this.bad (ih k _ S j sh' key zs hzl (by rw[kp];exact hnone) rfl (by simp only[kl];omega) (by omega) ?_ (by simpa using q2) hz hj hSj hb)
       cases key with
       | none=>exact q1
       | some p=>exact q1
     cases hN:decide (0<c.fN) with
     | true=>
      rw[hN] at hn;simp only[Vz] at hn;simp only[Vq] at hN
      by_cases hbig:c.fN≤v.length
      ·have hnd:=HG (sh:=JK key sh) hA (by omega) hv1 hSk hbk (by simpa[Jq] using hkk) hp (by simpa using hN) hbig;refine hnd.bad ?_
       cases hks:Gz P (decide (c.fKind=6)) none c.fN.toNat xs' with
       | none=>
        obtain⟨n',hn'⟩:∃n',c.fN.toNat=n'+1:=⟨c.fN.toNat-1,by omega⟩
        rw[hn'] at hks;exact ih n' _ _ _ _ none xs' (by omega) hks rfl (by simp only;omega) (by omega) rfl (λ_=>rfl) g2 (by omega) (by simp only[Vt];omega) hbk
       | some q=>
        obtain⟨kids,zs⟩:=q;rw[hks] at hn;simp only at hn;have hn2:Gz P e.fPairs key k zs=none:=by
         cases hz:Gz P e.fPairs key k zs with
         | none=>rfl
         | some q=>rw[hz] at hn;cases hn
        obtain⟨a1,a2,a3⟩:=EU _ _ _ _ _ _ _ hks;have hd:=JO hA kids ⟨decide (c.fKind=6),c.fN,decide (c.fKind=6),[],false⟩ (Ej e key::S) (i+(BK key).length+1) (Hh (S.length+1) (JK key sh) c) none zs (by omega) a2 rfl (by simp only;omega) rfl (λ_=>rfl) (by rw[g2];exact a1) (by omega) (by simp only[Vt];omega) hbk;have hz:v.drop (i+(BK key).length+1+kids.flat.length).toNat=zs:=Ds (by omega) (g2.trans a1);have hzl:zs.length≤xs'.length:=by rw[a1];simp
        exact more _ _ _ zs hd hz (by omega) (by omega) (by omega) hn2
      ·refine⟨Hh (Ej e key::S).length (JK key sh) c,.inl (Fin.step ?_)⟩;rw[round hA (by omega) hv1 hSk hbk];have hbig':decide ((v.length:Int)<c.fN)=true:=by simpa using hbig
       simp only[NF,hp,hkk,hbig',hN,V1,Vu,Vz,decide_true]
     | false=>
      rw[hN] at hn;simp only[Vu] at hn;have hn2:Gz P e.fPairs key k xs'=none:=by
       cases hz:Gz P e.fPairs key k xs' with
       | none=>rfl
       | some q=>rw[hz] at hn;cases hn
      have hd:=Jo (sh:=JK key sh) hA (by omega) hv1 hSk hbk (by simpa[Jq] using hkk) hp hN;exact more _ _ _ xs' hd g2 (by omega) (by omega) (by omega) hn2
def GJ (xs:List Aa):Option (Fo×List Aa):=Gz (xs.length+1) false none 1 xs
theorem OE {P:Nat}{xs ys:List Aa}{f:Fo}(h:Gz P false none 1 xs=some (f,ys)):f.one=true:=by
 obtain⟨h1,h2,h3⟩:=EU _ _ _ _ _ _ _ h
 cases f with
 | nil=>cases h3
 | cell k c r=>
  cases r with
  | nil=>
   cases k with
   | none=>rfl
   | some s=>simp[Fo.wf,Cv] at h2
  | cell _ _ _=>simp[Fo.cnt] at h3
  | node _ _ _ _=>simp[Fo.cnt] at h3
 | node k c kids r=>
  cases r with
  | nil=>
   cases k with
   | none=>rfl
   | some s=>simp[Fo.wf,Cv] at h2
  | cell _ _ _=>simp[Fo.cnt] at h3
  | node _ _ _ _=>simp[Fo.cnt] at h3
theorem PB (hA:Pc F M v)(h:GJ v=none):Oz (Nq F v) ([],0,KH):=by
 have hlf:Dc []:=λx hx=>by cases hx
 unfold GJ at h;rw[Gz] at h;simp only[GI,Vu] at h
 cases v with
 | nil=>exact Oz.end_ (S:=[]) (VP 0) rfl
 | cons c xs'=>
  have hv1:(c::xs').drop (0:Int).toNat=c::xs':=rfl;have hvM:=hA.hv;have hMM:=hA.hM;simp only at h
  cases hp:pl c with
  | false=>exact Oz.pl_ (S:=[]) hA (VP 0) hv1 (by simp) hlf hp
  | true=>
   rw[hp] at h;simp only[V1,Vu] at h;have hcN:=(hA.hc c (by simp)).2.2
   cases hN:decide (0<c.fN) with
   | true=>
    rw[hN] at h;simp only[Vz] at h;simp only[Vq] at hN
    by_cases hbig:c.fN≤(c::xs').length
    ·have hnd:=HG (S:=[]) (sh:=KH) hA (VP 0) hv1 (by simp) hlf rfl hp (by simpa using hN) hbig;refine hnd.bad ?_
     cases hks:Gz (c::xs').length (decide (c.fKind=6)) none c.fN.toNat xs' with
     | none=>
      obtain⟨n',hn'⟩:∃n',c.fN.toNat=n'+1:=⟨c.fN.toNat-1,by omega⟩
      rw[hn'] at hks;exact Oc hA (c::xs').length n' ⟨decide (c.fKind=6),c.fN,decide (c.fKind=6),[],false⟩ [] (0+1) _ none xs' (by simp) hks rfl (by simp only;omega) (by omega) rfl (λ_=>rfl) rfl (by omega) (by simp) hlf
     | some q=>rw[hks] at h;cases h
    ·refine⟨Hh 0 KH c,.inl (Fin.step ?_)⟩;rw[show Nq F (c::xs') (([]:List A6),0,KH)=_ from round (S:=[]) hA (VP 0) hv1 (by simp) hlf];have hbig':decide (((c::xs').length:Int)<c.fN)=true:=by simpa using hbig
     simp only[NF,hp,hbig',hN,V1,Vu,Vz,decide_true]
   | false=>rw[hN] at h;cases h
theorem Sv (hA:Pc F M v):(∃f ys,GJ v=some (f,ys)∧DI F v=some ((f.flat.length:Int),f.sh 0 KH,true))∨(GJ v=none∧∃sh',DI F v=some (0,sh',false)):=by
 cases h:GJ v with
 | some q=>
  obtain⟨f,ys⟩:=q;obtain⟨h1,h2,h3⟩:=EU _ _ _ _ _ _ _ h;exact .inl ⟨f,ys,rfl,Np hA (OE h) h2 h1⟩
 | none=>
  refine .inr ⟨rfl,?_⟩;obtain⟨o,ho,_⟩:=KU hA;obtain⟨sh',hb | hb⟩:=PB hA h
  ·have e:=hb.eq ho;subst e;exact⟨sh',by unfold DI;rw[Bv ho];rfl⟩
  ·have e:=hb.eq ho;subst e;exact⟨sh',by unfold DI;rw[Bv ho];rfl⟩
end
theorem HB {x:Int}(h : -9223372036854775808≤x)(h':x≤9223372036854775807):IntKind.wrap .i64 x=x:=by
 simp only[IntKind.wrap,IntKind.bits,IntKind.signed];simp;omega
def Fo.dep:Fo→Nat
 | .nil=>0
 | .cell _ _ r=>max 1 r.dep
 | .node _ _ kids r=>max (kids.dep+1) r.dep
theorem Ep (k:Option Ar)(s:AC):(JK k s).fDepth=s.fDepth∧(JK k s).fOutside=s.fOutside∧(JK k s).fLong=(s.fLong||(BK k).any λc=>decide (200<(c.fStr.length:Int))):=by
 cases k with
 | none=>simp[JK,BK]
 | some x=>simp[JK,Ur,BK]
theorem I2:∀(f:Fo) (d:Nat) (s:AC),(d:Int)≤s.fDepth→(f.sh d s).fDepth=max s.fDepth ((d:Int)+f.dep)
 | .nil,d,s,h=>by simp only[Fo.sh,Fo.dep];omega
 | .cell k c r,d,s,h=>by
  have hk:=(Ep k s).1;have e:(Hh d (JK k s) c).fDepth=max s.fDepth ((d:Int)+1):=by rw[Hh,hk]
  rw[Fo.sh,I2 r d _ (by rw[e];omega),e,Fo.dep];omega
 | .node k c kids r,d,s,h=>by
  have hk:=(Ep k s).1;have e:(Hh d (JK k s) c).fDepth=max s.fDepth ((d:Int)+1):=by rw[Hh,hk]
  have e2:=I2 kids (d+1) (Hh d (JK k s) c) (by rw[e];omega);rw[e] at e2;rw[Fo.sh,I2 r d _ (by rw[e2];omega),e2,Fo.dep];omega
def Ly (c:Aa):Bool:=decide (c.fKind=3)&&!(decide ((-1000000000000)≤c.fInt)&&decide (c.fInt≤1000000000000))
def JN (c:Aa):Bool:=decide (200<(c.fStr.length:Int))
theorem Nu (k:Option Ar):(BK k).any Ly=false:=by cases k<;>simp[BK,Ly]
theorem Mh:∀(f:Fo) (d:Nat) (s:AC),(f.sh d s).fOutside=(s.fOutside||f.flat.any Ly)
 | .nil,d,s=>by simp[Fo.sh,Fo.flat]
 | .cell k c r,d,s=>by
  rw[Fo.sh,Mh r,Hh,(Ep k s).2.1];simp only[Fo.flat,List.any_append,List.any_cons,Nu,V6,Bool.or_assoc];rfl
 | .node k c kids r,d,s=>by
  rw[Fo.sh,Mh r,Mh kids,Hh,(Ep k s).2.1];simp only[Fo.flat,List.any_append,List.any_cons,Nu,V6,Bool.or_assoc];rfl
theorem Kf:∀(f:Fo) (d:Nat) (s:AC),(f.sh d s).fLong=(s.fLong||f.flat.any JN)
 | .nil,d,s=>by simp[Fo.sh,Fo.flat]
 | .cell k c r,d,s=>by
  rw[Fo.sh,Kf r,Hh,(Ep k s).2.2];simp only[Fo.flat,List.any_append,List.any_cons,Bool.or_assoc];rfl
 | .node k c kids r,d,s=>by
  rw[Fo.sh,Kf r,Kf kids,Hh,(Ep k s).2.2];simp only[Fo.flat,List.any_append,List.any_cons,Bool.or_assoc];rfl
def RK (c:Aa):Int:=
 bif decide (c.fKind=1) then 4 else bif decide (c.fKind=2) then 5-c.fInt else bif decide (c.fKind=3) then((Lib.itoa c.fInt).length:Int) else
 bif decide (c.fKind=4) then Jj c.fStr else 2
def Mr:Option Ar→Int
 | none=>0
 | some s=>Jj s+1
def Fo.byt:Fo→Int
 | .nil=>0
 | .cell k c r=>Mr k+RK c+r.byt
 | .node k c kids r=>Mr k+(c.fN+1)+kids.byt+r.byt
theorem KL (s:Ar):2≤Jj s:=by unfold Jj;omega
theorem Kk (k:Option Ar):0≤Mr k:=by
 cases k with
 | none=>exact VP 0
 | some s=>have:=KL s;simp only[Mr];omega
theorem OL {c:Aa}(hp:pl c=true):0≤RK c:=by
 unfold RK
 cases h1:decide (c.fKind=1) with
 | true=>simp
 | false=>
  cases h2:decide (c.fKind=2) with
  | true=>
   simp[pl,h1,h2] at hp;simp only[Vu,Vz];omega
  | false=>
   cases h3:decide (c.fKind=3) with
   | true=>simp
   | false=>
    cases h4:decide (c.fKind=4) with
    | true=>have:=KL c.fStr;simp only[Vu,Vz];omega
    | false=>simp
theorem QF {c:Aa}(hp:pl c=true):0≤c.fN:=by
 simp only[pl,← Bool.decide_or] at hp
 cases h1:decide (c.fKind=1)<;>cases h2:decide (c.fKind=2)<;>cases h3:decide (c.fKind=3)<;>cases h4:decide (c.fKind=4)<;>cases h5:decide (c.fKind=5)<;>cases h6:decide (c.fKind=6)<;>simp[h1,h2,h3,h4,h5,h6] at hp<;>omega
theorem Si {c:Aa}(hp:pl c=true)(hn:0<c.fN):(c.fKind=5∨c.fKind=6)∧c.fInt=0∧c.fStr=[]:=by
 cases h1:decide (c.fKind=1)<;>cases h2:decide (c.fKind=2)<;>cases h3:decide (c.fKind=3)<;>cases h4:decide (c.fKind=4)<;>cases h5:decide (c.fKind=5)<;>cases h6:decide (c.fKind=6)<;>simp[pl,h1,h2,h3,h4,h5,h6] at hp<;>(simp only[Vq,Vr] at *;first | omega | exact⟨by omega,hp.1,hp.2.1⟩)
theorem Q1 {c:Aa}(hp:pl c=true)(hn:decide (0<c.fN)=false):Th c=RK c:=by
 have hN:=QF hp;have h0:c.fN=0:=by simp only[Vr] at hn;omega
 unfold Th RK;rw[h0]
 cases h1:decide (c.fKind=1) with
 | true=>rfl
 | false=>
  cases h2:decide (c.fKind=2) with
  | true=>
   simp[pl,h1,h2] at hp;simp only[Vu,Vz];exact HB (by omega) (by omega)
  | false=>rfl
theorem Q0 {c:Aa}(hp:pl c=true)(hn:0<c.fN)(hm:c.fN≤9223372036854775000):Th c=c.fN+1:=by
 obtain⟨hk,_,_⟩:=Si hp hn;unfold Th;rw[Vy (by omega),Vy (by omega),Vy (by omega),Vy (by omega)];simp only[Vu];rw[HB (x:=c.fN-1) (by omega) (by omega),HB (by omega) (by omega)];omega
theorem GT:∀{f:Fo} {m:Bool} {l:Option Ar},f.wf m l=true→0≤f.byt
 | .nil,_,_,_=>VP 0
 | .cell k c r,m,l,h=>by
  simp only[Fo.wf,Vs] at h;have h1:=GT h.2;have h2:=OL h.1.1.2;have h3:=Kk k;simp only[Fo.byt];omega
 | .node k c kids r,m,l,h=>by
  simp only[Fo.wf,Vs,Vq] at h;have h1:=GT h.2;have h2:=GT h.1.2;have h3:=Kk k;simp only[Fo.byt];omega
theorem LD (k:Option Ar)(s:AC)(h0:0≤s.fBytes)(h:s.fBytes+Mr k≤9223372036854775807):(JK k s).fBytes=s.fBytes+Mr k:=by
 cases k with
 | none=>simp[JK,Mr]
 | some x=>
  have:=KL x;simp only[Mr] at h;simp only[JK,Ur,Mr];exact HB (by omega) (by omega)
theorem I3:∀(f:Fo) (m:Bool) (l:Option Ar) (d:Nat) (s:AC),f.wf m l=true→0≤s.fBytes→s.fBytes+f.byt≤9223372036854775000→(f.sh d s).fBytes=s.fBytes+f.byt
 | .nil,_,_,d,s,_,_,_=>by simp[Fo.sh,Fo.byt]
 | .cell k c r,m,l,d,s,hw,h0,h=>by
  simp only[Fo.wf,Vs,V4] at hw;obtain⟨⟨⟨w1,w2⟩,w3⟩,w4⟩:=hw;have h1:=GT w4;have h2:=OL w2;have h3:=Kk k;simp only[Fo.byt] at h;have e1:=LD k s h0 (by omega);have e:(Hh d (JK k s) c).fBytes=s.fBytes+Mr k+RK c:=by
   rw[Hh,e1,Q1 w2 w3];exact HB (by omega) (by omega)
  rw[Fo.sh,I3 r _ _ d _ w4 (by rw[e];omega) (by rw[e];omega),e,Fo.byt];omega
 | .node k c kids r,m,l,d,s,hw,h0,h=>by
  simp only[Fo.wf,Vs,Vq] at hw;obtain⟨⟨⟨⟨⟨w1,w2⟩,w3⟩,w5⟩,w6⟩,w4⟩:=hw;have h1:=GT w4;have h2:=GT w6;have h3:=Kk k;simp only[Fo.byt] at h;have e1:=LD k s h0 (by omega);have e:(Hh d (JK k s) c).fBytes=s.fBytes+Mr k+(c.fN+1):=by
   rw[Hh,e1,Q0 w2 w3 (by omega)];exact HB (by omega) (by omega)
  have e2:=I3 kids _ _ (d+1) (Hh d (JK k s) c) w6 (by rw[e];omega) (by rw[e];omega);rw[Fo.sh,I3 r _ _ d _ w4 (by rw[e2,e];omega) (by rw[e2,e];omega),e2,e,Fo.byt];omega
def TS (s:Ar):Ar:=s.flatMap λc=>bif (decide (c=34)||decide (c=92)) then[92,c] else[c]
def Sg (s:Ar):Ar:=34::(TS s++[34])
theorem N6:∀s:Ar,(TS s).length=s.length+s.count 34+s.count 92
 | []=>rfl
 | c::s=>by
  have ih:=N6 s;unfold TS at ih ⊢;rw[List.flatMap_cons,V3,ih]
  by_cases h1:c=34
  ·subst h1;simp;omega
  ·by_cases h2:c=92
   ·subst h2;simp;omega
   ·simp[h1,h2,List.count_cons];omega
theorem Nc (s:Ar):((Sg s).length:Int)=Jj s:=by
 simp only[Sg,Vt,V3,N6,VU,Jj];omega
def QU (c:Aa):Ar:=
 bif decide (c.fKind=1) then[110,117,108,108] else
 bif decide (c.fKind=2) then(bif decide (c.fInt=1) then[116,114,117,101] else[102,97,108,115,101]) else
 bif decide (c.fKind=3) then Lib.itoa c.fInt else
 bif decide (c.fKind=4) then Sg c.fStr else
 bif decide (c.fKind=6) then[123,125] else[91,93]
def T0:Option Ar→Ar
 | none=>[]
 | some s=>Sg s++[58]
def Vb (c:Aa)(s:Ar):Ar:=bif decide (c.fKind=6) then 123::(s++[125]) else 91::(s++[93])
def NT (first:Bool):Ar:=bif first then[] else[44]
def Fo.txt:Bool→Fo→Ar
 | _,.nil=>[]
 | b,.cell k c r=>NT b++T0 k++QU c++r.txt false
 | b,.node k c kids r=>NT b++T0 k++Vb c (kids.txt true)++r.txt false
theorem OM (k:Option Ar):((T0 k).length:Int)=Mr k:=by
 cases k with
 | none=>rfl
 | some s=>simp only[T0,V3,Mr,VW];have:=Nc s;omega
theorem PC {c:Aa}(hp:pl c=true):((QU c).length:Int)=RK c:=by
  unfold QU RK
  cases h1:decide (c.fKind=1) with
  | true=>rfl
  | false=>
    cases h2:decide (c.fKind=2) with
    | true=>
      simp[pl,h1,h2] at hp;simp only[Vu,Vz]
      cases h7:decide (c.fInt=1) with
      | true=>simp only[Vq] at h7;simp[h7]
      | false=>
                 simp only[Vr] at h7;have:c.fInt=0:=by omega
                 simp[this]
    | false=>
      cases h3:decide (c.fKind=3) with
      | true=>rfl
      | false=>
        cases h4:decide (c.fKind=4) with
        | true=>simpa using Nc c.fStr
        | false=>cases h6:decide (c.fKind=6)<;>rfl
theorem OW (c:Aa)(s:Ar):(Vb c s).length=s.length+2:=by
 unfold Vb
 cases decide (c.fKind=6)<;>simp
theorem Kd:∀(f:Fo) (m:Bool) (l:Option Ar) (b:Bool),f.wf m l=true→((f.txt b).length:Int)=f.byt+(bif b then((f.cnt-1:Nat):Int) else(f.cnt:Int))
 | .nil,m,l,b,_=>by cases b<;>rfl
 | .cell k c r,m,l,b,hw=>by
  simp only[Fo.wf,Vs,V4] at hw;obtain⟨⟨⟨w1,w2⟩,w3⟩,w4⟩:=hw;have ih:=Kd r _ _ false w4;have a:=OM k;have d:=PC w2;simp only[Vu] at ih
  cases b<;>simp only[Fo.txt,Fo.byt,Fo.cnt,NT,Vz,Vu,V3,VU,VW]<;>omega
 | .node k c kids r,m,l,b,hw=>by
  simp only[Fo.wf,Vs,Vq] at hw;obtain⟨⟨⟨⟨⟨w1,w2⟩,w3⟩,w5⟩,w6⟩,w4⟩:=hw;have ih:=Kd r _ _ false w4;have ih2:=Kd kids _ _ true w6;have a:=OM k;have d:=OW c (kids.txt true);simp only[Vu,Vz] at ih ih2
  cases b<;>simp only[Fo.txt,Fo.byt,Fo.cnt,NT,Vz,Vu,V3,VU,VW]<;>omega
def Fo.put (k:Option Ar):Fo→Fo→Fo
 | .cell _ c _,r=>.cell k c r
 | .node _ c kids _,r=>.node k c kids r
 | .nil,_=>.nil
theorem QD (P:Nat)(m:Bool)(last:Option Ar)(k:Nat)(xs:List Aa):Gz (P+2) m last (k+1) xs =
  match GI m last xs with
  | none=>none
  | some (key,ys)=>match Gz (P+2) false none 1 ys with
   | none=>none
   | some (f,zs)=>match Gz (P+1) m key k zs with
    | none=>none
    | some (r,us)=>some (f.put key r,us):=by
 rw[Gz]
 cases hk:GI m last xs with
 | none=>rfl
 | some p=>
  obtain⟨key,ys⟩:=p;simp only;rw[Gz];simp only[GI,Vu]
  cases ys with
  | nil=>rfl
  | cons c ys=>
   simp only
   cases hp:pl c with
   | false=>rfl
   | true=>
    simp only[V1,Vu]
    cases hn:decide (0<c.fN) with
    | true=>
     simp only[Vz]
     cases hq:Gz (P+1) (decide (c.fKind=6)) none c.fN.toNat ys with
     | none=>rfl
     | some q=>
      obtain⟨kids,zs⟩:=q;simp only[Gz]
      cases hr:Gz (P+1) m key k zs with
      | none=>rfl
      | some q=>obtain⟨a,b⟩:=q;rfl
    | false=>
     simp only[Vu,Gz]
     cases hr:Gz (P+1) m key k ys with
     | none=>rfl
     | some q=>obtain⟨a,b⟩:=q;rfl
def KM (m:Bool)(last:Option Ar)(k:Nat)(xs:List Aa):Option (Fo×List Aa):=Gz (xs.length+1) m last k xs
theorem Jk (m:Bool)(last:Option Ar)(xs:List Aa):KM m last 0 xs=some (.nil,xs):=rfl
theorem Et (m:Bool)(last:Option Ar)(k:Nat)(xs:List Aa):KM m last (k+1) xs =
  match GI m last xs with
  | none=>none
  | some (key,ys)=>match GJ ys with
   | none=>none
   | some (f,zs)=>match KM m key k zs with
    | none=>none
    | some (r,us)=>some (f.put key r,us):=by
 unfold KM GJ;rw[Gl (xs.length+1) (xs.length+2) m last (k+1) xs (by omega) (by omega),QD]
 cases hk:GI m last xs with
 | none=>rfl
 | some p=>
  obtain⟨key,ys⟩:=p;have h1:=(Kh hk).1;have hy:ys.length≤xs.length:=by rw[h1];simp
  simp only;rw[Gl (xs.length+2) (ys.length+1) false none 1 ys (by omega) (by omega)]
  cases hf:Gz (ys.length+1) false none 1 ys with
  | none=>rfl
  | some q=>
   obtain⟨f,zs⟩:=q;have h2:=(EU _ _ _ _ _ _ _ hf).1;have hz:zs.length≤ys.length:=by rw[h2];simp
   simp only;rw[Gl (xs.length+1) (zs.length+1) m key k zs (by omega) (by omega)]
   all_goals (cases Gz (zs.length+1) m key k zs<;>rfl)
theorem LL {S O:Type}{body:S→Option (Stp S O)}{n:Nat}{s s':S}{o:O}(h:body s=some (.next s'))(h':BW body n s'=some o):BW body (n+1) s=some o:=by rw[BW,h];exact h'
theorem Ei {S O:Type}{body:S→Option (Stp S O)}{n:Nat}{s:S}{o:O}(h:body s=some (.out o)):BW body (n+1) s=some o:=by rw[BW,h]
theorem QE:GJ []=none:=rfl
theorem Gm (c:Aa)(r:List Aa):GJ (c::r)=bif !pl c then none else bif decide (0<c.fN) then(match KM (decide (c.fKind=6)) none c.fN.toNat r with
  | none=>none
  | some (kids,zs)=>some (.node none c kids .nil,zs)) else some (.cell none c .nil,r):=by
 unfold GJ;rw[Gz];simp only[GI,Vu]
 cases hp:pl c with
 | false=>rfl
 | true=>
  simp only[V1,Vu]
  cases hn:decide (0<c.fN) with
  | true=>
   simp only[Vz];unfold KM;rw[Vt]
   cases hq:Gz (r.length+1) (decide (c.fKind=6)) none c.fN.toNat r with
   | none=>rfl
   | some q=>obtain⟨kids,zs⟩:=q;rfl
  | false=>rfl
theorem Nd {f:Fo}(h:f.one=true)(key:Option Ar)(r:Fo):(f.put key r).flat=BK key++(f.flat++r.flat):=by
 cases f with
 | nil=>cases h
 | cell k c r'=>
  cases k with
  | some s=>cases h
  | none=>cases r' with
   | nil=>simp[Fo.put,Fo.flat,BK]
   | cell _ _ _=>cases h
   | node _ _ _ _=>cases h
 | node k c kids r'=>
  cases k with
  | some s=>cases h
  | none=>cases r' with
   | nil=>simp[Fo.put,Fo.flat,BK]
   | cell _ _ _=>cases h
   | node _ _ _ _=>cases h
theorem Nh {f:Fo}(h:f.one=true):1≤f.flat.length:=by
 cases f with
 | nil=>cases h
 | cell k c r'=>simp[Fo.flat];omega
 | node k c kids r'=>simp[Fo.flat];omega
theorem I6 {xs ys:List Aa}{f:Fo}(h:GJ xs=some (f,ys)):xs=f.flat++ys∧f.wf false none=true∧f.one=true:=
 ⟨(EU _ _ _ _ _ _ _ h).1,(EU _ _ _ _ _ _ _ h).2.1,OE h⟩
def HX (v:List Aa)(i:Int):Int:=match GJ (v.drop i.toNat) with
 | none=>-1
 | some (f,_)=>i+f.flat.length
def IB (m:Bool)(last:Option Ar)(v:List Aa)(i:Int)(k:Nat):Int:=match KM m last k (v.drop i.toNat) with
 | none=>-1
 | some (f,_)=>i+f.flat.length
theorem LJ {v:List Aa}{i:Int}(h0:0≤i)(h1:i≤v.length):HX v i = -1∨(i<HX v i∧HX v i≤v.length):=by
 unfold HX
 cases h:GJ (v.drop i.toNat) with
 | none=>exact .inl rfl
 | some q=>
  obtain⟨f,ys⟩:=q;obtain⟨h2,_,h3⟩:=I6 h;have:=Nh h3;have hl:(v.drop i.toNat).length=f.flat.length+ys.length:=by rw[h2];simp
  rw[List.length_drop] at hl
  right;simp only;omega
structure UT (F M:Nat) (v:List Aa):Prop where
 hM:M≤1152921504606846976
 hv:v.length≤M
 hF:M<F
 hc:∀c∈v,c.fStr.length≤M
theorem P0 (ok:Bool){i:Int}(h0:0≤i)(h1:i≤1152921504606846976):Cz ok i=some (bif ok then i+1 else -1):=by
 unfold Cz
 cases ok
 ·rfl
 ·rw[Bh rfl,Bx (by omega) (by omega)];rfl
theorem OD {F:Nat}{c:Aa}(hF:c.fStr.length<F)(hs:c.fStr.length≤1152921504606846976):QC F c=some (decide (c.fKind=4)&&pl c):=by
 unfold QC;rw[Py hF (by omega)];simp only[Option.isSome_some,ov,VD,imp,VJ,AQ,Vz]
 cases h4:decide (c.fKind=4) with
 | false=>rfl
 | true=>
  simp only[Vq] at h4;simp[pl,h4]
theorem Kr {v:List Aa}{i:Int}{c:Aa}{r:List Aa}(h0:0≤i)(h:v.drop i.toNat=c::r):Ax v i=c:=by
 have:=(Dr h0 h).1;simp[Ax,this]
section
variable {M : Nat} {v : List Aa}
theorem HT {F:Nat}(hA:UT F M v){g:List Aa→Int→Option Int}{n:Int}(hn:n≤9223372036854775807):∀(L:Nat) (i x:Int),0≤i→i≤v.length→0≤x→x≤n→(∀j,i≤j→j≤v.length→g v j=some (HX v j))→v.length-i.toNat<L→
  ∃o,BW (λσ=>Df v n g σ.1 σ.2) L (i,x)=some o∧BV (λν=>GH ν) o=some (IB false none v i (n-x).toNat)
 | 0,i,x,_,_,_,_,_,h=>by omega
 | L+1,i,x,h0,h1,hx,hxn,hg,hL=>by
  cases hxl:decide (x<n) with
  | false=>
   refine⟨.go i,Ei (by show Df v n g i x=_;unfold Df;rw[AZ hxl]),?_⟩;simp only[Vr] at hxl;rw[show(n-x).toNat=0 from by omega];simp[BV,GH,IB,Jk,Fo.flat]
  | true=>
   have hb:Df v n g i x=AP (decide (HX v i<0)) (some (.out (.ret (-1)))) (AQ (BM .i64 (x+1))<|some (.next (HX v i,x+1))):=by unfold Df;rw[Bh hxl,hg i (VP i) h1,Bv rfl]
   simp only[Vq] at hxl;obtain⟨k,hk⟩:∃k,(n-x).toNat=k+1:=⟨(n-x).toNat-1,by omega⟩
   rw[hk];have e:IB false none v i (k+1)=bif decide (HX v i<0) then -1 else IB false none v (HX v i) k:=by
    unfold IB;rw[Et];simp only[GI,Vu]
    cases hp:GJ (v.drop i.toNat) with
    | none=>simp[HX,hp]
    | some q=>
     obtain⟨f,ys⟩:=q;obtain⟨q1,q2,q3⟩:=I6 hp;have hi:HX v i=i+f.flat.length:=by simp[HX,hp]
     have hd:v.drop (HX v i).toNat=ys:=by rw[hi];exact Ds h0 q1
     rw[hd,Vy (by omega)];simp only[Vu]
     cases hr:KM false none k ys with
     | none=>rfl
     | some q=>
      obtain⟨r,zs⟩:=q;simp only[Nd q3,BK,VT,V3,hi];omega
   rw[e];rcases LJ (v:=v) h0 h1 with hneg | ⟨hlt,hle⟩
   ·exact⟨.ret (-1),Ei (hb.trans (by rw[hneg,Bh (by decide)])),by rw[hneg];rfl⟩
   ·have hM:=hA.hM;have hvM:=hA.hv;obtain⟨o,ho1,ho2⟩:=HT hA hn L (HX v i) (x+1) (by omega) hle (by omega) (by omega) (λj hj=>hg j (by omega)) (by omega);exact⟨o,LL (hb.trans (by rw[AZ (Vy (by omega)),Bx (by omega) (by omega)])) ho1,by rw[ho2,show(n-(x+1)).toNat=k from by omega,Vy (by omega)];rfl⟩
theorem KJ {F:Nat}(hA:UT F M v){g:List Aa→Int→Option Int}{n:Int}(hn:n≤9223372036854775807):∀(L:Nat) (i x:Int) (last:Ar),0≤i→i≤v.length→0≤x→x≤n→(∀j,i≤j→j≤v.length→g v j=some (HX v j))→v.length-i.toNat<L→
  ∃o,BW (λσ=>D1 F v n g σ.1 σ.2.1 σ.2.2) L (i,last,x)=some o∧BV (λν=>Ji ν) o=some (IB true (bif decide (0<x) then some last else none) v i (n-x).toNat)
 | 0,i,x,_,_,_,_,_,_,h=>by omega
 | L+1,i,x,last,h0,h1,hx,hxn,hg,hL=>by
  have hM:=hA.hM;have hvM:=hA.hv;have hMF:=hA.hF
  cases hxl:decide (x<n) with
  | false=>
   refine⟨.go i,Ei (by show D1 F v n g i last x=_;unfold D1;rw[AZ hxl]),?_⟩;simp only[Vr] at hxl;rw[show(n-x).toNat=0 from by omega];simp[BV,Ji,IB,Jk,Fo.flat]
  | true=>
   have hxl':=hxl;simp only[Vq] at hxl;obtain⟨k,hk⟩:∃k,(n-x).toNat=k+1:=⟨(n-x).toNat-1,by omega⟩
   rw[hk]
   cases hd:v.drop i.toNat with
   | nil=>
    have hl:v.length≤i.toNat:=by simpa using hd
    refine⟨.ret (-1),Ei (by
     show D1 F v n g i last x=_;unfold D1;rw[Bh hxl',C6 (by simp[imp,show(v.length:Int)≤i from by omega]),C6 (by simp[imp,show(v.length:Int)≤i from by omega]),Bh (by simp[show(v.length:Int)≤i from by omega])]),?_⟩
    simp[BV,IB,hd,Et,GI]
   | cons c r=>
    obtain⟨g1,g2,g3⟩:=Dr h0 hd;have hcM:=hA.hc c (V5 g1);have hat:=Kr h0 hd;have hnl:decide ((v.length:Int)≤i)=false:=by simp;omega
    have hb:D1 F v n g i last x=AP (!(decide (c.fKind=4)&&pl c)||decide (0<x)&&(CE c.fStr last||decide (c.fStr=last))) (some (.out (.ret (-1)))) (Bd (g v (i+1)) λha=>AP (decide (ha<0)) (some (.out (.ret (-1)))) (AQ (BM .i64 (x+1))<|some (.next (ha,c.fStr,x+1)))):=by
     unfold D1;rw[Bh hxl',C6 (by simp only[imp];rw[T3 h0 g3];simp),hat,OD (by omega) (by omega),C6 (by simp[imp])];simp only[hnl,ov,VD,V6];rw[Ck h0 g3,Bx (by omega) (by omega)]
    have hpk:GI true (bif decide (0<x) then some last else none) (c::r)=bif (!(decide (c.fKind=4)&&pl c)||decide (0<x)&&(CE c.fStr last||decide (c.fStr=last))) then none else some (some c.fStr,r):=by
     simp only[GI,Vz]
     cases h4:decide (c.fKind=4) with
     | false=>simp
     | true=>
      cases hp:pl c with
      | false=>simp
      | true=>
       have hok:=(Mn hp (by simpa using h4)).2
       cases h0x:decide (0<x) with
       | false=>simp[Cv,hok]
       | true=>cases hs:(CE c.fStr last||decide (c.fStr=last))<;>simp[Cv,hok,hs]
    cases ht:(!(decide (c.fKind=4)&&pl c)||decide (0<x)&&(CE c.fStr last||decide (c.fStr=last))) with
    | true=>
     rw[ht] at hpk;refine⟨.ret (-1),Ei (hb.trans (Bh ht)),?_⟩;simp only[IB,hd,Et,hpk,Vz];rfl
    | false=>
     rw[ht] at hpk;rw[AZ ht,hg (i+1) (by omega) (by omega),Bv rfl] at hb;have e:IB true (bif decide (0<x) then some last else none) v i (k+1)=bif decide (HX v (i+1)<0) then -1 else IB true (some c.fStr) v (HX v (i+1)) k:=by
      unfold IB;rw[hd,Et,hpk];simp only[Vu];have hx:HX v (i+1)=match GJ r with | none=>-1 | some (f,_)=>i+1+f.flat.length:=by unfold HX;rw[g2]
      cases hp:GJ r with
      | none=>rw[hp] at hx;simp[hx]
      | some q=>
       obtain⟨f,ys⟩:=q;obtain⟨q1,q2,q3⟩:=I6 hp;rw[hp] at hx;simp only at hx;have hd2:v.drop (HX v (i+1)).toNat=ys:=by rw[hx];exact Ds (by omega) (g2.trans q1)
       rw[hd2,Vy (by omega)];simp only[Vu]
       cases hr:KM true (some c.fStr) k ys with
       | none=>rfl
       | some q=>
        obtain⟨r',zs⟩:=q;simp only[Nd q3,BK,V3,Vt,VU,hx];omega
     rw[e];rcases LJ (v:=v) (i:=i+1) (by omega) (by omega) with hneg | ⟨hlt,hle⟩
     ·exact⟨.ret (-1),Ei (hb.trans (by rw[hneg,Bh (by decide)])),by rw[hneg];rfl⟩
     ·obtain⟨o,ho1,ho2⟩:=KJ hA hn L (HX v (i+1)) (x+1) c.fStr (by omega) hle (by omega) (by omega) (λj hj=>hg j (by omega)) (by omega);exact⟨o,LL (hb.trans (by rw[AZ (Vy (by omega)),Bx (by omega) (by omega)])) ho1,by rw[ho2,show(n-(x+1)).toNat=k from by omega,V2 (show(0:Int)<x+1 from by omega),Vy (by omega)];rfl⟩
theorem Nm {i:Int}{c:Aa}{r:List Aa}(h0:0≤i)(hd:v.drop i.toNat=c::r)(hp:pl c=true):HX v i=IB (decide (c.fKind=6)) none v (i+1) c.fN.toNat:=by
 have g2:=(Dr h0 hd).2.1;have hN:=QF hp;unfold HX IB;rw[hd,Gm,g2,hp];simp only[V1,Vu]
 cases hn:decide (0<c.fN) with
 | true=>
  simp only[Vz]
  cases hq:KM (decide (c.fKind=6)) none c.fN.toNat r with
  | none=>rfl
  | some q=>
   obtain⟨kids,zs⟩:=q;simp only[Fo.flat,BK,VT,Vt,VY];omega
 | false=>
  simp only[Vr] at hn;rw[show c.fN.toNat=0 from by omega,Jk];simp[Fo.flat,BK]
theorem QB (hA:UT (M+1) M v)(hN:∀c∈v,c.fN≤9223372036854775807):∀(d F:Nat) (i:Int),0≤i→i≤v.length→v.length-i.toNat=d→M+2*d+3<F→LF F v i=some (HX v i):=by
 have hM:=hA.hM;have hvM:=hA.hv;intro d
 induction d using Nat.strongRecOn with
 | ind d ih=>
  intro F i h0 h1 hd hF;obtain⟨F,rfl⟩:∃G,F=G+1:=⟨F-1,by omega⟩
  obtain⟨F,rfl⟩:∃G,F=G+1:=⟨F-1,by omega⟩
  rw[LF];unfold QA
  cases hdr:v.drop i.toNat with
  | nil=>
   have hl:v.length≤i.toNat:=by simpa using hdr
   rw[Bh (by simp;omega)];simp[HX,hdr,QE]
  | cons c r=>
   obtain⟨g1,g2,g3⟩:=Dr h0 hdr;have hcM:=hA.hc c (V5 g1);have hcN:=hN c (V5 g1);rw[AZ (by simp;omega),Ck h0 g3,Kr h0 hdr];simp only[P0 _ h0 (show i≤1152921504606846976 by omega),Option.isSome_some,ov,VD,imp,VJ,C6 (x:=_) (rfl:true=true)];have hg:∀j,i+1≤j→j≤v.length→LF F v j=some (HX v j):=λj hj hj2=>ih (v.length-j.toNat) (by omega) F j (by omega) hj2 rfl (by omega);have hpl0:pl c=false→HX v i = -1:=λhp=>by simp[HX,hdr,Gm,hp]
   have hleaf:pl c=true→c.fN=0→HX v i=i+1:=λhp h0'=>by simp[HX,hdr,Gm,hp,h0',Fo.flat,BK]
   have hscal:∀b:Bool,pl c=b→(b=true→c.fN=0)→HX v i=bif b then i+1 else -1:=λb hb hz=>by
    cases b
    ·exact hpl0 hb
    ·exact hleaf hb (hz rfl)
   by_cases k1:c.fKind=1
   ·rw[Bh (by simp[k1])];have hp:pl c=(decide (c.fInt=0)&&(decide (c.fStr=[])&&decide (c.fN=0))):=by simp[pl,k1]
    rw[hscal _ hp (λh=>by simp at h;exact h.2.2)]
    cases decide (c.fInt=0)<;>cases decide (c.fStr=[])<;>cases decide (c.fN=0)<;>rfl
   rw[AZ (by simp[k1])]
   by_cases k2:c.fKind=2
   ·rw[Bh (by simp[k2])];have hp:pl c=((decide (c.fInt=0)||decide (c.fInt=1))&&(decide (c.fStr=[])&&decide (c.fN=0))):=by simp[pl,k2]
    rw[hscal _ hp (λh=>by simp at h;exact h.2.2)]
    cases decide (c.fInt=0)<;>cases decide (c.fInt=1)<;>cases decide (c.fStr=[])<;>cases decide (c.fN=0)<;>rfl
   rw[AZ (by simp[k2])]
   by_cases k3:c.fKind=3
   ·rw[Bh (by simp[k3])];have hp:pl c=(decide (c.fStr=[])&&decide (c.fN=0)):=by simp[pl,k3]
    rw[hscal _ hp (λh=>by simp at h;exact h.2)]
    cases decide (c.fStr=[])<;>cases decide (c.fN=0)<;>rfl
   rw[AZ (by simp[k3])]
   by_cases k4:c.fKind=4
   ·rw[Bh (by simp[k4]),OD (by omega) (by omega),Bv rfl,Bv rfl];rw[V2 k4,V7,hscal (pl c) rfl (λhp=>by have:=(Mn hp k4).1;rw[this])]
   rw[AZ (by simp[k4])]
   by_cases k5:c.fKind=5
   ·have hp:pl c=(decide (c.fInt=0)&&(decide (c.fStr=[])&&decide (0≤c.fN))):=by simp[pl,k5]
    rw[show(decide (c.fKind=5)&&(decide (c.fInt=0)&&(decide (c.fStr=[])&&decide (0≤c.fN))))=pl c from by rw[hp,V2 k5,V7]];have k5' : ¬ c.fKind=6:=by omega
    cases hb:pl c with
    | false=>rw[AZ rfl,AZ (by simp[k5]),hpl0 hb]
    | true=>
     have hn0:=QF hb;rw[Bh rfl,Bx (by omega) (by omega),LG];unfold KK;obtain⟨o,ho1,ho2⟩:=HT (F:=F) ⟨hM,hvM,by omega,hA.hc⟩ hcN F (i+1) 0 (by omega) (by omega) (VP 0) hn0 hg (by omega);rw[Bv ho1,ho2,Bv rfl,Nm h0 hdr hb,Vy k5',Int.sub_zero]
   rw[AZ (by simp[k5])]
   by_cases k6:c.fKind=6
   ·have hp:pl c=(decide (c.fInt=0)&&(decide (c.fStr=[])&&decide (0≤c.fN))):=by simp[pl,k6]
    rw[show(decide (c.fKind=6)&&(decide (c.fInt=0)&&(decide (c.fStr=[])&&decide (0≤c.fN))))=pl c from by rw[hp,V2 k6,V7]]
    cases hb:pl c with
    | false=>rw[AZ rfl,hpl0 hb]
    | true=>
     have hn0:=QF hb;rw[Bh rfl,Bx (by omega) (by omega),Q9];unfold OC;obtain⟨o,ho1,ho2⟩:=KJ (F:=F) ⟨hM,hvM,by omega,hA.hc⟩ hcN F (i+1) 0 [] (by omega) (by omega) (VP 0) hn0 hg (by omega);rw[Bv ho1,ho2,Bv rfl,Nm h0 hdr hb,V2 k6,Int.sub_zero];rfl
   ·rw[AZ (by simp[k6]),hpl0 (by simp[pl,k1,k2,k3,k4,k5,k6])]
end
theorem OF {m:Bool}{last key:Option Ar}{r:List Aa}(h:Cv m last key=true):GI m last (BK key++r)=some (key,r):=by
 cases key with
 | none=>
  have:m=false:=by simpa[Cv] using h
  subst this;rfl
 | some s=>
  have h':=h;simp only[Cv,Vs] at h;obtain⟨⟨h1,h2⟩,h3⟩:=h;subst h1;have hp:pl ⟨4,0,s,0⟩=true:=by simp[pl,h2]
  show(bif pl ⟨4,0,s,0⟩&&decide ((4:Int)=4)&&Cv true last (some s) then _ else _)=_;rw[hp,h'];rfl
theorem Ki:∀(f:Fo) (m:Bool) (last:Option Ar) (ys:List Aa),f.wf m last=true→KM m last f.cnt (f.flat++ys)=some (f,ys)
 | .nil,_,_,_,_=>rfl
 | .cell k c r,m,last,ys,hw=>by
  simp only[Fo.wf,Vs,V4] at hw;obtain⟨⟨⟨w1,w2⟩,w3⟩,w4⟩:=hw;simp only[Fo.cnt,Fo.flat,VX,List.cons_append];rw[Et,OF w1];simp only[Gm,w2,w3,V1,Vu,Ki r m k ys w4,Fo.put]
 | .node k c kids r,m,last,ys,hw=>by
  simp only[Fo.wf,Vs,Vq] at hw;obtain⟨⟨⟨⟨⟨w1,w2⟩,w3⟩,w5⟩,w6⟩,w4⟩:=hw;simp only[Fo.cnt,Fo.flat,VX,List.cons_append];rw[Et,OF w1];have e:c.fN.toNat=kids.cnt:=by omega
  simp only[Gm,w2,V2 w3,V1,Vu,Vz,e,Ki kids _ none (r.flat++ys) w6,Ki r m k ys w4,Fo.put]
theorem Sh {f:Fo}{ys:List Aa}(h1:f.one=true)(hw:f.wf false none=true):GJ (f.flat++ys)=some (f,ys):=by
 have:=Ki f false none ys hw;have hc:f.cnt=1:=by
  cases f with
  | nil=>cases h1
  | cell k c r=>cases k with
   | some _=>cases h1
   | none=>cases r with
    | nil=>rfl
    | _=>cases h1
  | node k c kids r=>cases k with
   | some _=>cases h1
   | none=>cases r with
    | nil=>rfl
    | _=>cases h1
 rw[hc] at this;exact this
structure DV (M:Nat) (v:List Aa):Prop where
 hM:M≤1000000000
 hv:v.length≤M
 hc:∀c∈v,c.fStr.length≤M∧BM .i64 c.fInt=true∧c.fN≤9223372036854775807
theorem DV.lk {M F:Nat}{v:List Aa}(h:DV M v)(hF:M<F):Pc F M v:=⟨by have:=h.hM;omega,by have:=h.hM;omega,h.hv,hF,h.hc⟩
theorem DV.rf {M F:Nat}{v:List Aa}(h:DV M v)(hF:M<F):UT F M v:=⟨by have:=h.hM;omega,h.hv,hF,λc hc=>(h.hc c hc).1⟩
theorem DV.drop {M:Nat}{v:List Aa}(h:DV M v)(k:Nat):DV M (v.drop k):=⟨h.hM,by have:=h.hv;rw[List.length_drop];omega,λc hc=>h.hc c (List.mem_of_mem_drop hc)⟩
theorem DV.take {M:Nat}{v:List Aa}(h:DV M v)(k:Nat):DV M (v.take k):=⟨h.hM,by have:=h.hv;rw[List.length_take];omega,λc hc=>h.hc c (List.mem_of_mem_take hc)⟩
def whole (v:List Aa):Option Fo:=match GJ v with
 | some (f,[])=>some f
 | _=>none
theorem NK {v:List Aa}{f:Fo}(h:whole v=some f):v=f.flat∧f.wf false none=true∧f.one=true:=by
 unfold whole at h
 cases hp:GJ v with
 | none=>rw[hp] at h;cases h
 | some q=>
  obtain⟨g,ys⟩:=q;rw[hp] at h
  cases ys with
  | cons _ _=>cases h
  | nil=>
   cases h
   obtain⟨h1,h2,h3⟩:=I6 hp;exact⟨by simpa using h1,h2,h3⟩
theorem Qq {f:Fo}(h1:f.one=true)(hw:f.wf false none=true):whole f.flat=some f:=by
 have:=Sh (ys:=[]) h1 hw;rw[VY] at this;simp[whole,this]
def N7 (f:Fo):Int:=
 bif f.flat.any Ly then 2 else bif f.flat.any JN||(decide (200<f.flat.length)||(decide (8<f.dep)||decide (4000<(f.txt true).length))) then 3 else 0
def CS (v:List Aa):Int:=match whole v with
 | none=>1
 | some f=>N7 f
theorem OG {f:Fo}(h1:f.one=true):f.cnt=1:=by
 cases f with
 | nil=>cases h1
 | cell k c r=>cases k with
  | some _=>cases h1
  | none=>cases r with
   | nil=>rfl
   | _=>cases h1
 | node k c kids r=>cases k with
  | some _=>cases h1
  | none=>cases r with
   | nil=>rfl
   | _=>cases h1
theorem Mm (s:Ar):Jj s≤2*s.length+2+s.length:=by
 have h1:s.count 34≤s.length:=List.count_le_length;have h2:s.count 92≤s.length:=List.count_le_length;unfold Jj;omega
theorem Tu {c:Aa}{M:Nat}(hp:pl c=true)(hs:c.fStr.length≤M)(hi:(Lib.itoa c.fInt).length≤21):RK c≤3*M+21:=by
 have:=Mm c.fStr;unfold RK
 cases h1:decide (c.fKind=1) with
 | true=>simp only[Vz];omega
 | false=>
  cases h2:decide (c.fKind=2) with
  | true=>
   simp[pl,h1,h2] at hp;simp only[Vu,Vz];omega
  | false=>
   cases h3:decide (c.fKind=3) with
   | true=>simp only[Vu,Vz];omega
   | false=>cases h4:decide (c.fKind=4)<;>simp only[Vu,Vz]<;>omega
theorem M5 {M:Nat}:∀{f:Fo} {m:Bool} {l:Option Ar},f.wf m l=true→(∀c∈f.flat,c.fStr.length≤M∧BM .i64 c.fInt=true∧c.fN≤9223372036854775807)→f.byt+f.cnt≤(3*M+24)*f.flat.length
 | .nil,_,_,_,_=>by simp[Fo.byt,Fo.flat,Fo.cnt]
 | .cell k c r,m,l,hw,hc=>by
  simp only[Fo.wf,Vs,V4] at hw;obtain⟨⟨⟨w1,w2⟩,w3⟩,w4⟩:=hw;simp only[Fo.flat] at hc;have ih:=M5 w4 (λx hx=>hc x (by simp[hx]));obtain⟨c1,c2,c3⟩:=hc c (by simp);have i64:=IT c2;have hl:=Tu w2 c1 (Lib.itoa_length_le c.fInt i64.1 i64.2);have hk:Mr k≤(3*M+24)*(BK k).length:=by
   cases k with
   | none=>simp[Mr,BK]
   | some s=>
    have:=(hc ⟨4,0,s,0⟩ (by simp[BK])).1;have h2:=Mm s;simp only at this;simp only[Mr,BK,VW];omega
  simp only[Fo.byt,Fo.flat,Fo.cnt,V3,Vt];have e:((3*(M:Int)+24)*(((BK k).length+(r.flat.length+1):Nat):Int))=(3*(M:Int)+24)*(BK k).length+((3*(M:Int)+24)*r.flat.length+(3*(M:Int)+24)):=by
   push_cast;rw[Int.mul_add,Int.mul_add,Int.mul_one]
  rw[e]
  push_cast at *
  omega
 | .node k c kids r,m,l,hw,hc=>by
  simp only[Fo.wf,Vs,Vq] at hw;obtain⟨⟨⟨⟨⟨w1,w2⟩,w3⟩,w5⟩,w6⟩,w4⟩:=hw;simp only[Fo.flat] at hc;have ih:=M5 w4 (λx hx=>hc x (by simp[hx]));have ih2:=M5 w6 (λx hx=>hc x (by simp[hx]));have hcf:=CI kids;have hk:Mr k≤(3*M+24)*(BK k).length:=by
   cases k with
   | none=>simp[Mr,BK]
   | some s=>
    have:=(hc ⟨4,0,s,0⟩ (by simp[BK])).1;have h2:=Mm s;simp only at this;simp only[Mr,BK,VW];omega
  simp only[Fo.byt,Fo.flat,Fo.cnt,V3,Vt];have e:((3*(M:Int)+24)*(((BK k).length+(kids.flat.length+r.flat.length+1):Nat):Int))=(3*(M:Int)+24)*(BK k).length+((3*(M:Int)+24)*kids.flat.length+(3*(M:Int)+24)*r.flat.length+(3*(M:Int)+24)):=by
   push_cast;rw[Int.mul_add,Int.mul_add,Int.mul_add,Int.mul_one]
  rw[e]
  push_cast at *
  omega
theorem PU {M:Nat}(hM:M≤1000000){f:Fo}{m:Bool}{l:Option Ar}(hw:f.wf m l=true)(hl:f.flat.length≤M)(hc:∀c∈f.flat,c.fStr.length≤M∧BM .i64 c.fInt=true∧c.fN≤9223372036854775807):f.byt≤4000000000000:=by
 have:=M5 (M:=M) hw hc;have h2:(3*M+24)*f.flat.length≤(3*1000000+24)*1000000:=Nat.mul_le_mul (by omega) (by omega);have h3:(((3*M+24)*f.flat.length:Nat):Int)=(3*(M:Int)+24)*f.flat.length:=by push_cast;rfl
 omega
theorem Eo {M F:Nat}{v:List Aa}(hA:DV M v)(hM:M≤1000000)(hF:M<F):CL F v=some (CS v):=by
 unfold CL CS whole;have hvM:=hA.hv;rcases Sv (hA.lk hF) with⟨f,ys,hp,hl⟩ | ⟨hp,sh',hl⟩
 ·rw[hl,Bv rfl,hp];obtain⟨h1,h2,h3⟩:=I6 hp;have hlen:v.length=f.flat.length+ys.length:=by rw[h1];simp
  cases ys with
  | cons c r=>
   rw[Bh];simp only[Vt] at hlen;simp;omega
  | nil=>
   simp only[VU,Nat.add_zero] at hlen;rw[AZ (by simp[hlen])];have hc:∀c∈f.flat,c.fStr.length≤M∧BM .i64 c.fInt=true∧c.fN≤9223372036854775807:=λc hc=>hA.hc c (by rw[h1];simp[hc]);have hb:=PU hM h2 (by omega) hc;have hb0:=GT h2;have e1:(f.sh 0 KH).fOutside=f.flat.any Ly:=by rw[Mh];rfl
   have e2:(f.sh 0 KH).fLong=f.flat.any JN:=by rw[Kf];rfl
   have e3:(f.sh 0 KH).fDepth=f.dep:=by rw[I2 f 0 KH (by simp[KH])];simp[KH]
   have e4:(f.sh 0 KH).fBytes=(f.txt true).length:=by
    rw[I3 f false none 0 KH h2 (by simp[KH]) (by simp[KH];omega),Kd f false none true h2,OG h3];simp[KH]
   simp only;rw[e1,e2,e3,e4,hlen];unfold N7
   cases f.flat.any Ly with
   | true=>rw[Bh rfl];rfl
   | false=>
    rw[AZ rfl];have a1:decide ((200:Int)<(f.flat.length:Int))=decide (200<f.flat.length):=by rw[VK];simp;omega
    have a2:decide ((8:Int)<(f.dep:Int))=decide (8<f.dep):=by rw[VK];simp;omega
    have a3:decide ((4000:Int)<((f.txt true).length:Int))=decide (4000<(f.txt true).length):=by rw[VK];simp;omega
    rw[a1,a2,a3]
    cases(f.flat.any JN||(decide (200<f.flat.length)||(decide (8<f.dep)||decide (4000<(f.txt true).length))))<;>rfl
 ·rw[hl,Bv rfl,hp];rfl
theorem O6 {c:Aa}(hp:pl c=true)(hn:decide (0<c.fN)=false):(Fo.cell none c .nil).wf false none=true:=by simp[Fo.wf,Cv,hp,hn]
theorem O5 {c:Aa}{kids:Fo}(hp:pl c=true)(hn:0<c.fN)(hk:c.fN=kids.cnt)(hw:kids.wf (decide (c.fKind=6)) none=true):(Fo.node none c kids .nil).wf false none=true:=by simp[Fo.wf,Cv,hp,hn,hk,hw];omega
section
variable {M : Nat} {v : List Aa}
theorem DV.next (hA:DV M v){F:Nat}(hF:3*M+3<F){p:Int}(h0:0≤p)(h1:p≤v.length):LF F v p=some (HX v p):=by
 have hM:=hA.hM;have hvM:=hA.hv;exact QB (hA.rf (Vv M)) (λc hc=>(hA.hc c hc).2.2) (v.length-p.toNat) F p h0 h1 rfl (by omega)
theorem Sz {m:Bool}{last key:Option Ar}(h:Cv m last key=true):((BK key).length:Int)=bif m then 1 else 0:=by
  cases key with
  | none=>
            have:m=false:=by simpa[Cv] using h
            subst this;rfl
  | some s=>simp only[Cv,Vs] at h;rw[h.1.1];rfl
end
theorem Sl {R V:Type}(K:V→Option R)(v:V):BV K (.go v)=K v:=rfl
theorem Ng {R V:Type}(K:V→Option R)(r:R):BV K (.ret r)=some r:=rfl
section
variable {M : Nat} {v : List Aa}
end
section
variable {M : Nat} {v : List Aa}
theorem DS {α:Type}[Inhabited α](a:α):ov (some a)=a:=rfl
end
section
variable {M : Nat}
end
section
variable {M : Nat}
end
def Q5 (v:List Aa):Bool:=!decide (300<v.length)&&v.all λc=>!decide (300<c.fStr.length)
def Jl (c:Aa):Bool:=BM .i64 c.fKind&&BM .i64 c.fInt&&So c.fStr&&BM .i64 c.fN
theorem DV.of {v:List Aa}(hs:Q5 v=true)(hc:v.all Jl=true):DV 300 v:=by
 unfold Q5 at hs;simp only[Vs,V4,Vr,VL] at hs hc;refine⟨by decide,by omega,λc h=>?_⟩;obtain h1:=hs.2 c h;obtain h2:=hc c h;unfold Jl at h2;simp only[Vs] at h2;exact⟨by omega,h2.1.1.2,(IT h2.2).2⟩
theorem Ii (a:Bool):imp a true=true:=by cases a<;>rfl
section
variable {M : Nat}
end
theorem PQ {α:Type}{n:Nat}{x:Option α}(h:n≤1000000000):AQ (DU 40 n) x=x:=C6 (V2 (by omega))
theorem M8 {α:Type}[Inhabited α]{l:List α}{x:Int}(h0:0≤x)(h:x<l.length):Ax l x∈l:=by
 have:l[x.toNat]? =some (l[x.toNat]'(by omega)):=Vw (by omega);simp only[Ax,this,VD];exact List.getElem_mem _
open Go Go.RowKit
def Tl (a b:Int):Int:=bif decide (a<b) then -1 else bif decide (b<a) then 1 else 0
def M3:Option Ar→Option Ar→Int
 | some a,some b=>Lib.compareBytes a b
 | _,_=>0
def SI (c d:Aa)(kids:Int):Int:=
 bif !decide (c.fKind=d.fKind) then Tl c.fKind d.fKind
 else bif decide (c.fKind=4) then Lib.compareBytes c.fStr d.fStr
 else bif !decide (c.fKind=5)&&!decide (c.fKind=6) then Tl c.fInt d.fInt
 else bif !decide (kids=0) then kids else Tl c.fN d.fN
def JJ (a b:Int):Int:=bif !decide (a=0) then a else b
def Fo.cmp:Fo→Fo→Int
 | .cell k c r,.cell l d s=>JJ (M3 k l) (JJ (SI c d 0) (r.cmp s))
 | .cell k c r,.node l d g s=>JJ (M3 k l) (JJ (SI c d 0) (r.cmp s))
 | .node k c f r,.cell l d s=>JJ (M3 k l) (JJ (SI c d 0) (r.cmp s))
 | .node k c f r,.node l d g s=>JJ (M3 k l) (JJ (SI c d (f.cmp g)) (r.cmp s))
 | _,_=>0
theorem MR (F:Nat)(a b:List Aa):L8 F a b=Nb F a b:=by
 have e:Ke F a b=Nb F a b:=rfl;unfold L8;rw[e]
 cases Nb F a b<;>rfl
def Fo.hd:Fo→Option (Option Ar×Aa×Fo×Fo)
 | .nil=>none
 | .cell k c r=>some (k,c,.nil,r)
 | .node k c kids r=>some (k,c,kids,r)
structure Hd (m:Bool) (last:Option Ar) (f:Fo) (k:Option Ar) (c:Aa) (kids r:Fo):Prop where
 key:Cv m last k=true
 pl:pl c=true
 n:c.fN=kids.cnt
 kw:kids.wf (decide (c.fKind=6)) none=true
 rest:r.wf m k=true
 flat:f.flat=BK k++c::(kids.flat++r.flat)
 cnt:f.cnt=r.cnt+1
theorem SZ {m:Bool}{last:Option Ar}{f:Fo}(hw:f.wf m last=true):(f = .nil)∨∃k c kids r,f.hd=some (k,c,kids,r)∧Hd m last f k c kids r:=by
 cases f with
 | nil=>exact .inl rfl
 | cell k c r=>
  simp only[Fo.wf,Vs,V4] at hw;obtain⟨⟨⟨w1,w2⟩,w3⟩,w4⟩:=hw;have:=QF w2;refine .inr ⟨k,c,.nil,r,rfl,w1,w2,?_,rfl,w4,by simp[Fo.flat],rfl⟩;simp at w3;simp[Fo.cnt];omega
 | node k c kids r=>
  simp only[Fo.wf,Vs,Vq] at hw;obtain⟨⟨⟨⟨⟨w1,w2⟩,w3⟩,w5⟩,w6⟩,w4⟩:=hw;exact .inr ⟨k,c,kids,r,rfl,w1,w2,w5,w6,w4,rfl,rfl⟩
section
variable {M : Nat} {a b : List Aa}
end
theorem T4 {m:Bool}{last k:Option Ar}{f kids r:Fo}{c:Aa}(hf:f.hd=some (k,c,kids,r))(hw:f.wf m last=true):∃f1:Fo,f1.one=true∧f1.wf false none=true∧f1.flat=c::kids.flat:=by
 cases f with
 | nil=>simp[Fo.hd] at hf
 | cell k' c' r'=>
  simp[Fo.hd] at hf;obtain⟨rfl,rfl,rfl,rfl⟩:=hf;simp only[Fo.wf,Vs,V4] at hw;obtain⟨⟨⟨w1,w2⟩,w3⟩,w4⟩:=hw;exact⟨.cell none c' .nil,rfl,O6 w2 w3,rfl⟩
 | node k' c' kids' r'=>
  simp[Fo.hd] at hf;obtain⟨rfl,rfl,rfl,rfl⟩:=hf;simp only[Fo.wf,Vs,Vq] at hw;obtain⟨⟨⟨⟨⟨w1,w2⟩,w3⟩,w5⟩,w6⟩,w4⟩:=hw;exact⟨.node none c' kids' .nil,rfl,O5 w2 w3 w5 w6,by simp[Fo.flat,BK]⟩
section
variable {M : Nat} {a b : List Aa}
end
theorem Rx {f:Fo}(h:f.cnt=0):f = .nil:=by
 cases f with
 | nil=>rfl
 | cell k c r=>simp[Fo.cnt] at h
 | node k c a r=>simp[Fo.cnt] at h
section
variable {M : Nat} {a b : List Aa}
theorem Hd.drop {v:List Aa}{m:Bool}{last k:Option Ar}{f kids r:Fo}{c:Aa}{ys:List Aa}{p:Int}(H:Hd m last f k c kids r)(h0:0≤p)(hd:v.drop p.toNat=f.flat++ys) :
  v.drop (p+(BK k).length).toNat=c::(kids.flat++(r.flat++ys))∧v.drop (p+(BK k).length+1).toNat=kids.flat++(r.flat++ys)∧v.drop (p+(BK k).length+((c::kids.flat).length:Int)).toNat=r.flat++ys∧(∀s,k=some s→(Ax v p).fStr=s)∧p<v.length:=by
 rw[H.flat] at hd;have hd2:v.drop p.toNat=BK k++((c::kids.flat)++(r.flat++ys)):=by rw[hd];simp
 have hd1:=Ds h0 hd2;refine⟨hd1,(Dr (by omega) hd1).2.1,Ds (by omega) hd1,λs e=>?_,?_⟩
 ·subst e;have:v.drop p.toNat=⟨4,0,s,0⟩::((c::kids.flat)++(r.flat++ys)):=by simpa[BK] using hd2
  rw[Kr h0 this]
 ·have:=congrArg List.length hd2;rw[List.length_drop] at this;simp only[V3,Vt] at this;omega
end
theorem QR {S O:Type}{body:S→Option (Stp S O)}{n:Nat}{s:S}(h:body s=none):BW body (n+1) s=none:=by rw[BW,h]
theorem Tv {S O:Type}{body:S→Option (Stp S O)}{n:Nat}{s s':S}(h:body s=some (.next s')):BW body (n+1) s=BW body n s':=by rw[BW,h]
section
variable {S : Type}
def pB (F:Nat)(v:List Aa)(Y:Ar→List Aa→S→Option (Bool×S))(p x:Int)(s:S):Option (Stp (Int×Int×S) (Out S S)):=
 AP (decide (x<((Ax v 0).fN))) (AP (decide (((Ax v 0).fKind)=6)) (AQ (Co p (v.length:Int))<|AQ (BM .i64 (p+1))<|AQ (E8 (p+1) (v.length:Int))<|Bd (DI F (List.drop (Int.toNat (p+1)) v)) λq=>AQ (BM .i64 ((p+1)+q.1))<|AQ (E8 (p+1) ((p+1)+q.1))<|AQ (E8 ((p+1)+q.1) (v.length:Int))<|Bd (Y ((Ax v p).fStr) (List.take (Int.toNat ((p+1)+q.1)-Int.toNat (p+1)) (List.drop (Int.toNat (p+1)) v)) s) λr=>AP (!r.1) (some (.out (.ret r.2))) (AQ (BM .i64 (x+1))<|some (.next ((p+1)+q.1,x+1,r.2)))) (AQ (E8 p (v.length:Int))<|Bd (DI F (List.drop (Int.toNat p) v)) λq=>AQ (BM .i64 (p+q.1))<|AQ (E8 p (p+q.1))<|AQ (E8 (p+q.1) (v.length:Int))<|Bd (Y ([]:Ar) (List.take (Int.toNat (p+q.1)-Int.toNat p) (List.drop (Int.toNat p) v)) s) λr=>AP (!r.1) (some (.out (.ret r.2))) (AQ (BM .i64 (x+1))<|some (.next (p+q.1,x+1,r.2))))) (some (.out (.go s)))
def E5:Option Ar→Ar
 | none=>[]
 | some s=>s
def Um {T:Type}(y:Option (Bool×S))(go:S→Option T)(stop:S→Option T):Option T:=match y with
 | none=>none
 | some (b,s)=>bif b then go s else stop s
theorem KO {T:Type}{y:Option (Bool×S)}{go:S→Option T}{stop:S→Option T}{b:Bool}{s:S}(h:y=some (b,s)):Um y go stop=bif b then go s else stop s:=by subst h;rfl
def EY (Y:Ar→List Aa→S→Option (Bool×S)):Fo→S→Option (Out S S)
 | .nil,s=>some (.go s)
 | .cell k c r,s=>Um (Y (E5 k) [c] s) (EY Y r) (λs=>some (.ret s))
 | .node k c kids r,s=>Um (Y (E5 k) (c::kids.flat) s) (EY Y r) (λs=>some (.ret s))
variable {Y : Ar → List Aa → S → Option (Bool × S)}
theorem PG {f kids r:Fo}{k:Option Ar}{c:Aa}{s:S}(h:f.hd=some (k,c,kids,r)):EY Y f s=Um (Y (E5 k) (c::kids.flat) s) (EY Y r) (λs=>some (.ret s)):=by
 cases f<;>simp[Fo.hd] at h<;>obtain⟨rfl,rfl,rfl,rfl⟩:=h<;>simp[EY,Fo.flat]
section
variable {M : Nat} {v : List Aa}
theorem QK {F:Nat}{c:Aa}{p x:Int}{s:S}{k last:Option Ar}{f1:Fo}{ys:List Aa}(hA:DV M v)(hF:M<F)(hpc:Ax v 0=c)(hx:x<c.fN)(hx0:0≤x)(hcN:c.fN≤9223372036854775807)(h0:0≤p)(hk:Cv (decide (c.fKind=6)) last k=true)
  (hd:v.drop p.toNat=BK k++(f1.flat++ys)) (h1:f1.one=true) (hw:f1.wf false none=true) :
  pB F v Y p x s=Um (Y (E5 k) f1.flat s) (λs'=>some (.next (p+(BK k).length+f1.flat.length,x+1,s'))) (λs'=>some (.out (.ret s'))):=by
 have hM:=hA.hM;have hvM:=hA.hv;have hd1:=Ds h0 hd;have hkl:=Sz hk;have hfl:=Nh h1;have hll:(v.drop (p+(BK k).length).toNat).length=f1.flat.length+ys.length:=by rw[hd1];simp
 rw[List.length_drop] at hll;have hlook:DI F (v.drop (p+(BK k).length).toNat)=some ((f1.flat.length:Int),f1.sh 0 KH,true):=Np ((hA.drop _).lk hF) h1 hw hd1;have htake:List.take (Int.toNat (p+(BK k).length+(f1.flat.length:Int))-Int.toNat (p+(BK k).length)) (v.drop (p+(BK k).length).toNat)=f1.flat:=by
  rw[hd1,show Int.toNat (p+(BK k).length+(f1.flat.length:Int))-Int.toNat (p+(BK k).length)=f1.flat.length from by omega,List.take_left]
 have hmono:0≤p+(BK k).length+f1.flat.length:=by omega
 have fin:∀(y:Option (Bool×S)) (q:Int),(Bd y λr=>AP (!r.1) (some (Stp.out (Out.ret r.2))) (AQ (BM .i64 (x+1))<|some (.next (q,x+1,r.2))))=Um y (λs'=>some (.next (q,x+1,s'))) (λs'=>some (Stp.out (Out.ret (V:=S) s'))):=λy q=>by
  cases y with
  | none=>rfl
  | some r=>
   obtain⟨b,s'⟩:=r;rw[Bv rfl,KO rfl]
   cases b with
   | false=>rfl
   | true=>rw[AZ (p:=!true) rfl,Bx (by omega) (by omega)];rfl
 unfold pB;rw[hpc,Bh (V2 hx)]
 cases hm:decide (c.fKind=6) with
 | true=>
  rw[hm] at hk hkl
  cases k with
  | none=>simp[Cv] at hk
  | some t=>
   have e1:((BK (some t)).length:Int)=1:=rfl;rw[e1] at hlook htake hll hmono ⊢;have hats:(Ax v p).fStr=t:=by
    have:v.drop p.toNat=⟨4,0,t,0⟩::(f1.flat++ys):=by simpa[BK] using hd
    rw[Kr h0 this]
   have hin:p<v.length:=by omega
   rw[Bh rfl,Ck h0 hin,Bx (by omega) (by omega),GS (by omega) (by omega),hlook,Bv rfl,Bx (by omega) (by omega),GS (by omega) (by omega),GS (by omega) (by omega),htake,hats,fin];rfl
 | false=>
  rw[hm] at hk hkl
  cases k with
  | some t=>simp[Cv] at hk
  | none=>
   have e1:((BK none).length:Int)=0:=rfl;rw[e1,Int.add_zero] at hlook htake hll hmono ⊢;rw[AZ rfl,GS (by omega) (by omega),hlook,Bv rfl,Bx (by omega) (by omega),GS (by omega) (by omega),GS (by omega) (by omega),htake,fin];rfl
theorem P2 {F:Nat}{c:Aa}(hA:DV M v)(hF:M<F)(hpc:Ax v 0=c)(hcN:c.fN≤9223372036854775807):∀(n:Nat) (f:Fo) (L:Nat) (p x:Int) (s:S) (last:Option Ar) (ys:List Aa),f.flat.length<n→f.wf (decide (c.fKind=6)) last=true→v.drop p.toNat=f.flat++ys→0≤p→c.fN=x+f.cnt→0≤x→f.cnt<L→
  BW (λσ=>pB F v Y σ.1 σ.2.1 σ.2.2) L (p,x,s)=EY Y f s:=by
 intro n
 induction n with
 | zero=>intro f L p x s last ys h;omega
 | succ n ih=>
  intro f L p x s last ys hn hw hd h0 hN hx hL;obtain⟨L,rfl⟩:∃K,L=K+1:=⟨L-1,by omega⟩
  rcases SZ hw with rfl | ⟨k,d,kf,r,hf,Hf⟩
  ·have hx' : ¬ x<c.fN:=by simp only[Fo.cnt] at hN;omega
   refine Ei ?_;show pB F v Y p x s=_;unfold pB;rw[hpc,AZ (Vy hx')]
  ·obtain⟨a1,a2,a3,a4,a5⟩:=Hf.drop h0 hd;obtain⟨f1,o1,w1,e1⟩:=T4 hf hw;have cf:=Hf.cnt;have lf:=congrArg List.length Hf.flat;simp only[V3,Vt] at lf;have hd2:v.drop p.toNat=BK k++(f1.flat++(r.flat++ys)):=by rw[hd,Hf.flat,e1];simp
   have hb:=QK (Y:=Y) (s:=s) hA hF hpc (x:=x) (by omega) hx hcN h0 Hf.key hd2 o1 w1;rw[PG hf]
   cases hy:Y (E5 k) (d::kf.flat) s with
   | none=>
    rw[e1,hy] at hb;exact QR hb
   | some q=>
    obtain⟨b,s'⟩:=q;rw[e1,hy] at hb
    cases b with
    | false=>exact Ei hb
    | true=>exact(Tv hb).trans (ih r L _ (x+1) s' k ys (by omega) Hf.rest a3 (by omega) (by omega) (by omega) (by omega))
theorem QJ {F:Nat}{c:Aa}{f:Fo}(hA:DV M v)(hF:M<F)(hv:v=c::f.flat)(hn:c.fN=f.cnt)(hw:f.wf (decide (c.fKind=6)) none=true)(s:S):BW (λσ=>pB F v Y σ.1 σ.2.1 σ.2.2) F (1,0,s)=EY Y f s:=by
 have hvM:=hA.hv;have hl:v.length=f.flat.length+1:=by rw[hv];simp
 have hcf:=CI f;exact P2 hA hF (by rw[hv];rfl) (hA.hc c (by rw[hv];simp)).2.2 (f.flat.length+1) f F 1 0 s none [] (by omega) hw (by rw[hv];simp) (by decide) (by omega) (VP 0) (by omega)
end
end
def Fo.keys:Fo→List Ar
 | .nil=>[]
 | .cell k _ r=>E5 k::r.keys
 | .node k _ _ r=>E5 k::r.keys
def Fo.vals:Fo→List (List Aa)
 | .nil=>[]
 | .cell _ c r=>[c]::r.vals
 | .node _ c kids r=>(c::kids.flat)::r.vals
structure Vd (M:Nat) (c:Aa) (kf:Fo):Prop where
 pl:pl c=true
 n:c.fN=kf.cnt
 wf:kf.wf (decide (c.fKind=6)) none=true
 ck:DV M (c::kf.flat)
section
variable {M : Nat}
theorem DV.sub {a b:List Aa}(h:DV M a)(hl:b.length≤a.length)(hm:∀x∈b,x∈a):DV M b:=⟨h.hM,by have:=h.hv;omega,λc hc=>h.hc c (hm c hc)⟩
theorem Hd.v {m:Bool}{last k:Option Ar}{f kids r:Fo}{c:Aa}(H:Hd m last f k c kids r)(hA:DV M f.flat):Vd M c kids∧DV M r.flat:=by
 have e:=H.flat;have l:=congrArg List.length e;simp only[V3,Vt] at l;refine⟨⟨H.pl,H.n,H.kw,hA.sub (by simp only[Vt];omega) (λx hx=>?_)⟩,hA.sub (by omega) (λx hx=>?_)⟩
 ·rw[e];simp only[List.mem_append,VS] at hx ⊢;rcases hx with hx | hx
  ·exact .inr (.inl hx)
  ·exact .inr (.inr (.inl hx))
 ·rw[e];simp only[List.mem_append,VS];exact .inr (.inr (.inr hx))
theorem M7 {α:Type}[Inhabited α](a b:List α)(x:α){i:Int}(h:i=(a.length:Int)):Ax (a++x::b) i=x:=by subst h;simp[Ax]
theorem To {f:Fo}(h1:f.one=true)(hw:f.wf false none=true)(hA:DV M f.flat):∃c kf,f.flat=c::kf.flat∧f.hd=some (none,c,kf,.nil)∧Vd M c kf:=by
 rcases SZ hw with h | ⟨k,c,kf,r,hf,Hf⟩
 ·subst h;cases h1
 have cf:=Hf.cnt;rw[OG h1] at cf;obtain rfl:=Rx (f:=r) (by omega);have hk:k=none:=by
  have:=Hf.key
  cases k with
  | none=>rfl
  | some _=>simp[Cv] at this
 subst hk;exact⟨c,kf,by rw[Hf.flat];simp[BK,Fo.flat],hf,(Hf.v hA).1⟩
variable {a b : List Aa}
end
def Ut {α:Type}(v:List Aa)(bad:Int→α)(good:Aa→Fo→α):α:=bif !decide (CS v=0) then bad (CS v) else match whole v with
 | some f=>(match f.hd with
  | some (_,c,kf,_)=>good c kf
  | none=>bad 1)
 | none=>bad 1
structure Vc (M:Nat) (v:List Aa) (c:Aa) (kf:Fo):Prop where
 e:v=c::kf.flat
 vok:Vd M c kf
 ok:CS v=0
 on:∀(α:Type) (bad:Int→α) (good:Aa→Fo→α),Ut v bad good=good c kf
 f:∃f:Fo,whole v=some f∧f.one=true∧f.wf false none=true∧f.hd=some (none,c,kf,.nil)∧N7 f=0
theorem Hl {M:Nat}{v:List Aa}(hA:DV M v):(¬ CS v=0∧∀(α:Type) (bad:Int→α) (good:Aa→Fo→α),Ut v bad good=bad (CS v))∨∃c kf,Vc M v c kf:=by
 by_cases h:CS v=0
 ·refine .inr ?_;have h':=h;unfold CS at h
  cases hw:whole v with
  | none=>rw[hw] at h;cases h
  | some f=>
   rw[hw] at h;obtain⟨x1,x2,x3⟩:=NK hw;subst x1;obtain⟨c,kf,e1,e2,e3⟩:=To x3 x2 hA;refine⟨c,kf,e1,e3,h',λα bad good=>?_,f,hw,x3,x2,e2,h⟩;unfold Ut;rw[V2 h',hw];simp only[e2];rfl
 ·refine .inl ⟨h,λα bad good=>?_⟩;unfold Ut;rw[Vy h];rfl
def Fo.find (key:Ar):Fo→Option (List Aa)
 | .nil=>none
 | .cell k c r=>bif decide (E5 k=key) then some [c] else r.find key
 | .node k c kids r=>bif decide (E5 k=key) then some (c::kids.flat) else r.find key
def Hj (v:List Aa)(key:Ar):List Aa×Int:=Ut v (λe=>([],e)) λc kf=>bif !decide (c.fKind=6) then([],7) else(match kf.find key with
 | some x=>(x,0)
 | none=>([],5))
theorem J1 {x:List Aa}(h:x.length≤1000000000):Il x=some x:=by
 unfold Il;rw[PQ (by simp;omega)];rfl
theorem Ij (key:Ar):∀(g:Fo),g.flat.length≤1000000000→EY (λk x s=>Hq k x key s) g []=some (match g.find key with
  | some x=>.ret x
  | none=>.go [])
 | .nil,_=>rfl
 | .cell k c r,h1=>by
  simp only[Fo.flat,V3,Vt] at h1;have:Hq (E5 k) [c] key []=some (!decide (E5 k=key),bif decide (E5 k=key) then[c] else[]):=by
   unfold Hq
   cases decide (E5 k=key) with
   | true=>rw[Bh rfl,J1 (by simp),Bv rfl,C6 (by simp)];rfl
   | false=>rfl
  rw[EY,KO this,Fo.find]
  cases decide (E5 k=key) with
  | true=>rfl
  | false=>exact Ij key r (by omega)
 | .node k c kids r,h1=>by
  simp only[Fo.flat,V3,Vt] at h1;have:Hq (E5 k) (c::kids.flat) key []=some (!decide (E5 k=key),bif decide (E5 k=key) then c::kids.flat else[]):=by
   unfold Hq
   cases decide (E5 k=key) with
   | true=>rw[Bh rfl,J1 (by simp;omega),Bv rfl,C6 (by simp)];rfl
   | false=>rfl
  rw[EY,KO this,Fo.find]
  cases decide (E5 k=key) with
  | true=>rfl
  | false=>exact Ij key r (by omega)
theorem IV (key:Ar):∀(g:Fo) (x:List Aa),g.find key=some x→0<x.length∧x.length≤g.flat.length∧∀y∈x,y∈g.flat
 | .nil,x,h=>by cases h
 | .cell k c r,x,h=>by
  rw[Fo.find] at h
  cases hk:decide (E5 k=key) with
  | true=>rw[hk] at h;cases h;simp[Fo.flat];omega
  | false=>
   rw[hk] at h;obtain⟨a,b,c'⟩:=IV key r x h;refine⟨a,by simp[Fo.flat];omega,λy hy=>?_⟩;simp[Fo.flat,c' y hy]
 | .node k c kids r,x,h=>by
  rw[Fo.find] at h
  cases hk:decide (E5 k=key) with
  | true=>
   rw[hk] at h;cases h;refine⟨by simp,by simp[Fo.flat];omega,λy hy=>?_⟩;simp only[VS] at hy;simp only[Fo.flat,List.mem_append,VS];rcases hy with hy | hy
   ·exact .inr (.inl hy)
   ·exact .inr (.inr (.inl hy))
  | false=>
   rw[hk] at h;obtain⟨a,b,c'⟩:=IV key r x h;refine⟨a,by simp[Fo.flat];omega,λy hy=>?_⟩;simp[Fo.flat,c' y hy]
section
variable {M : Nat} {v : List Aa}
theorem RY (hA:DV M v)(hM:M≤1000000){F:Nat}(hF:M<F)(key:Ar):Qz F v key=some (Hj v key):=by
 have hvM:=hA.hv;unfold Qz Hj;rw[Eo hA hM hF,Bv rfl];rcases Hl hA with⟨h,on⟩ | ⟨c,kf,V⟩
 ·rw[Vy h,Bh (p:=!false) rfl,on]
 ·obtain⟨e,v1,ok,on,_⟩:=V;rw[on,ok,AZ (by rfl)];have hl:v.length=kf.flat.length+1:=by rw[e];simp
  rw[Ck (VP 0) (by omega),show Ax v 0=c by rw[e];rfl]
  cases h6:decide (c.fKind=6) with
  | false=>rfl
  | true=>
   rw[AZ (p:=!true) rfl];have hp:=QJ (Y:=λk x s=>Hq k x key s) (F:=F) hA hF e v1.n v1.wf [];rw[Ij key kf (by omega)] at hp;have eB:(λ(σ:Int×Int×List Aa)=>Hp F v key σ.1 σ.2.1 σ.2.2)=λσ=>pB F v (λk x s=>Hq k x key s) σ.1 σ.2.1 σ.2.2:=rfl;have hP:MU F v key []=some ((kf.find key).getD []):=by
    unfold MU;rw[Ck (VP 0) (by omega),eB,Bv hp]
    cases kf.find key<;>rfl
   rw[hP,Bv rfl]
   cases hf:kf.find key with
   | none=>rfl
   | some x=>
    obtain⟨a,_,_⟩:=IV key kf x hf
    cases x with
    | nil=>cases a
    | cons y r=>rfl
theorem Mu (hA:DV M v)(key:Ar):DV M (Hj v key).1:=by
 have hn:DV M []:=⟨hA.hM,VO _,λc hc=>by cases hc⟩
 unfold Hj;rcases Hl hA with⟨h,on⟩ | ⟨c,kf,V⟩
 ·rw[on];exact hn
 ·obtain⟨e,v1,ok,on,_⟩:=V;rw[on]
  cases decide (c.fKind=6) with
  | false=>exact hn
  | true=>
   cases hf:kf.find key with
   | none=>exact hn
   | some x=>
    obtain⟨a,b,d⟩:=IV key kf x hf;refine hA.sub (by rw[e];show x.length≤_;simp only[Vt];omega) (λy hy=>?_);rw[e];exact List.mem_cons_of_mem _ (d y hy)
end
def I7:List Ar→List Aa→List Aa×Int
 | [],out=>(out,0)
 | k::ks,out=>bif !decide ((Hj out k).2=0) then([],(Hj out k).2) else I7 ks (Hj out k).1
def HU (v:List Aa)(path:List Ar):List Aa×Int:=bif !decide (CS v=0) then([],CS v) else I7 path v
def R1 (v:List Aa):List Aa×Int:=bif !decide (CS v=0) then([],CS v) else(v,0)
section
variable {M : Nat} {v : List Aa}
theorem MV (hA:DV M v)(hM:M≤1000000){F:Nat}(hF:M<F):DY F v=some (R1 v):=by
 unfold DY R1;rw[Eo hA hM hF,Bv rfl]
 by_cases h:CS v=0
 ·rw[AZ (by simp[h]),V2 h];rfl
 ·rw[Bh (by simp[h]),Vy h];rfl
theorem Pn (hM:M≤1000000){F:Nat}(hF:M<F){path:List Ar}:∀(ks:List Ar) (L:Nat) (x:Int) (pre:List Ar) (out:List Aa),path=pre++ks→x=(pre.length:Int)→ks.length<L→x+ks.length≤1000000000→DV M out→
  ∃o,BW (λσ=>DB F path σ.1 σ.2) L (out,x)=some o∧BV (λν=>Hn ν) o=some (I7 ks out):=by
 intro ks
 induction ks with
 | nil=>
  intro L x pre out e hx hL hb hA;obtain⟨L,rfl⟩:∃K,L=K+1:=⟨L-1,by omega⟩
  have hbd:DB F path out x=some (.out (.go out)):=by unfold DB;rw[AZ (Vy (by rw[e,hx];simp))]
  exact⟨.go out,Ei hbd,rfl⟩
 | cons k ks ih=>
  intro L x pre out e hx hL hb hA;simp only[Vt] at hL hb;obtain⟨L,rfl⟩:∃K,L=K+1:=⟨L-1,by omega⟩
  have hl:(path.length:Int)=x+1+ks.length:=by rw[e,V3,Vt];omega
  have hbd:DB F path out x=some (bif !decide ((Hj out k).2=0) then .out (.ret ([],(Hj out k).2)) else .next ((Hj out k).1,x+1)):=by
   unfold DB;rw[hl,Bh (V2 (by omega)),Ck (by omega) (by omega),e,M7 pre ks k hx,RY hA hM hF,Bv rfl,Bx (by omega) (by omega)]
   cases decide ((Hj out k).2=0)<;>rfl
  rw[I7]
  cases hk:decide ((Hj out k).2=0) with
  | false=>rw[hk] at hbd;exact⟨_,Ei hbd,rfl⟩
  | true=>
   rw[hk] at hbd;obtain⟨o,h1,h2⟩:=ih L (x+1) (pre++[k]) (Hj out k).1 (by rw[e];simp) (by simp;omega) (by omega) (by omega) (Mu hA k);exact⟨o,LL hbd h1,h2⟩
theorem Qx (hA:DV M v)(hM:M≤1000000){F:Nat}{path:List Ar}(hF:M<F)(hp:path.length<F)(hp2:path.length≤1000000000):MS F v path=some (HU v path):=by
 have hvM:=hA.hv;unfold MS HU;rw[Eo hA hM hF,Bv rfl]
 by_cases h:CS v=0
 ·obtain⟨o,h1,h2⟩:=Pn hM hF (path:=path) path F 0 [] v rfl rfl hp (by omega) hA;rw[AZ (by simp[h]),V2 h,J1 (by omega),Bv rfl,Bv h1,h2];rfl
 ·rw[Bh (by simp[h]),Vy h];rfl
theorem Nf:∀(ks:List Ar) {out:List Aa},DV M out→DV M (I7 ks out).1
 | [],out,h=>h
 | k::ks,out,h=>by
  rw[I7]
  cases decide ((Hj out k).2=0) with
  | false=>exact⟨h.hM,VO _,λc hc=>by cases hc⟩
  | true=>exact Nf ks (Mu h k)
theorem QI (hA:DV M v)(path:List Ar):DV M (HU v path).1:=by
 unfold HU
 cases decide (CS v=0) with
 | false=>exact⟨hA.hM,VO _,λc hc=>by cases hc⟩
 | true=>exact Nf path hA
end
theorem M4 {α β:Type}{p:Bool}{a:β}{x:Option α}:AQ (imp p (some a).isSome) x=x:=C6 (Ii p)
theorem TY {α β:Type}{p q:Bool}{a:β}{x:Option α}:AQ (imp p (imp q (some a).isSome)) x=x:=C6 (by rw[show(some a).isSome=true from rfl,Ii,Ii])
def UO {R:Type}(i:Int):Option R→Stp Int (Out R Unit)
 | some r=>.out (.ret r)
 | none=>.next (i+1)
def NU {R:Type}:Option R→Out R Unit
 | some r=>.ret r
 | none=>.go ()
theorem Gp {α R:Type}[Inhabited α]{l:List α}{t:α→Option R}{body:Int→Option (Stp Int (Out R Unit))}
  (hs:∀x:Int,0≤x→x<(l.length:Int)→body x=some (UO x (t (Ax l x)))) (he:∀x:Int,¬ x<(l.length:Int)→body x=some (.out (.go ()))) {F:Nat} (hF:l.length<F) :
  BW body F 0=some (NU (l.findSome? t)):=by
 have key:∀(suf pre:List α) (F:Nat),l=pre++suf→suf.length<F→BW body F (pre.length:Int)=some (NU (suf.findSome? t)):=by
  intro suf
  induction suf with
  | nil=>
   intro pre F e hF;obtain⟨n,rfl⟩:∃n,F=n+1:=⟨F-1,by omega⟩
   exact Ei (he _ (by rw[e];simp))
  | cons a r ih=>
   intro pre F e hF;simp only[Vt] at hF;obtain⟨n,rfl⟩:∃n,F=n+1:=⟨F-1,by omega⟩
   have h1:=hs (pre.length:Int) (by omega) (by rw[e];simp;omega);have h2:Ax l (pre.length:Int)=a:=by rw[e];exact M7 pre r a rfl
   rw[h2] at h1
   cases ht:t a with
   | some q=>
    rw[ht] at h1;rw[List.findSome?_cons,ht];exact Ei h1
   | none=>
    rw[ht] at h1;rw[List.findSome?_cons,ht];have h3:=ih (pre++[a]) n (by rw[e];simp) (by omega);refine LL h1 ?_;rw[show((pre.length:Int)+1)=((pre++[a]).length:Int) from by simp];exact h3
 exact key l [] F rfl hF
def eO (e:Int):Option Int:=bif decide (e=0) then none else some e
def bO {R:Type}(b:Bool)(r:R):Option R:=bif b then some r else none
theorem Ry {x e:Int}:AP (!decide (e=0)) (some (.out (.ret e))) (some (.next (x+1)))=(some (UO x (eO e)):Option (Stp Int (Out Int Unit))):=by
 unfold eO;cases decide (e=0)<;>rfl
theorem J0 {R:Type}{x:Int}{b:Bool}{r:R}:AP b (some (.out (.ret r))) (some (.next (x+1)))=(some (UO x (bO b r)):Option (Stp Int (Out R Unit))):=by
 cases b<;>rfl
theorem IW {α R:Type}{p:α→Bool}{r:R}:∀l:List α,l.findSome? (λa=>bO (p a) r)=bO (l.any p) r
 | []=>rfl
 | a::l=>by
  rw[List.findSome?_cons,List.any_cons,IW l]
  cases p a<;>rfl
theorem Mo {R:Type}{b:Bool}{r q:R}:BV (λ_=>some q) (NU (bO b r))=some (bif b then r else q):=by cases b<;>rfl
theorem Q6 {F:Nat}{a b:List Aa}(hF:a.length<F)(ha:a.length≤1000000000):Nb F a b=some (decide (a=b)):=by
 unfold Nb
 by_cases hl:a.length=b.length
 ·rw[AZ (by simp[hl])];have h1:∀(k:Nat),k≤a.length→∃o,BW (λσ=>Gk a b σ) (a.length-k+1) (k:Int)=some o∧BV (λ_=>Na) o=some (decide (a.drop k=b.drop k)):=by
   intro k;generalize hd:a.length-k=d
   induction d generalizing k with
   | zero=>
    intro hk;have:k=a.length:=by omega
    subst this;refine⟨.go (),Ei (by unfold Gk;rw[AZ (Vy (by omega))]),?_⟩;rw[Sl,List.drop_length,hl,List.drop_length];rfl
   | succ d ih=>
    intro hk;have hka:k<a.length:=by omega
    have hkb:k<b.length:=by omega
    have ea:Ax a (k:Int)=a[k]:=by simp[Ax,hka]
    have eb:Ax b (k:Int)=b[k]:=by simp[Ax,hkb]
    have da:=List.drop_eq_getElem_cons hka;have db:=List.drop_eq_getElem_cons hkb;have hc:(decide (a[k].fKind=b[k].fKind)&&decide (a[k].fInt=b[k].fInt)&&decide (a[k].fStr=b[k].fStr)&&decide (a[k].fN=b[k].fN))=decide (a[k]=b[k]):=by
     rw[VK];simp only[Vs,Vq];constructor
     ·rintro⟨⟨⟨h1,h2⟩,h3⟩,h4⟩;generalize a[k]=u at *;generalize b[k]=v at *
      cases u;cases v;simp_all
     ·intro h;rw[h];simp
    have hb:Gk a b (k:Int)=AP (!decide (a[k]=b[k])) (some (.out (.ret false))) (some (.next ((k:Int)+1))):=by
     unfold Gk;rw[Bh (V2 (by omega)),Ck (by omega) (by omega),Ck (by omega) (by omega),ea,eb,hc,Bx (by omega) (by omega)]
    cases he:decide (a[k]=b[k]) with
    | false=>
     refine⟨.ret false,Ei (hb.trans (by rw[he];rfl)),?_⟩;rw[Ng,da,db];simp only[Vr] at he;rw[Vy (by intro h;exact he (List.cons.inj h).1)]
    | true=>
     obtain⟨o,h2,h3⟩:=ih (k+1) (by omega) (by omega);simp only[Vq] at he;refine⟨o,LL (hb.trans (by rw[V2 he];rfl)) h2,?_⟩;rw[h3,da,db,he];simp only[List.cons.injEq,true_and]
  obtain⟨o,h2,h3⟩:=h1 0 (VO _);replace h2:BW (λσ=>Gk a b σ) (a.length-0+1) 0=some o:=h2;obtain⟨k,rfl⟩:∃k,F=(a.length-0+1)+k:=⟨F-(a.length+1),by omega⟩
  rw[Bv (KT k h2),h3];rfl
 ·rw[Bh (by simp;omega),Vy (λh=>hl (by rw[h]))]
theorem Pj {F:Nat}{a b:List Aa}(hF:a.length<F)(ha:a.length≤1000000000):L8 F a b=some (decide (a=b)):=by rw[MR];exact Q6 hF ha
def Ti (s:Ar):Int:=CS [⟨4,0,s,0⟩]
theorem R0 (v:List Aa):(R1 v).2=CS v:=by
 unfold R1
 by_cases h:CS v=0
 ·rw[V2 h];exact h.symm
 ·rw[Vy h];rfl
theorem DV.str {K:Nat}{s:Ar}(hs:s.length≤K)(hK:1≤K)(hK2:K≤1000000):DV K [⟨4,0,s,0⟩]:=⟨by omega,hK,λc hc=>by
 have:c=⟨4,0,s,0⟩:=by simpa using hc
 subst this;exact⟨hs,(by decide:BM .i64 0=true),(by decide:(0:Int)≤9223372036854775807)⟩⟩
theorem O7 {K F:Nat}{s:Ar}(hs:s.length≤K)(hK:1≤K)(hK2:K≤1000000)(hF:K<F):Mc F s=some (R1 [⟨4,0,s,0⟩]):=by
 unfold Mc;rw[MV (DV.str hs hK hK2) hK2 hF,Bv rfl]
def Us (a:Option Int)(b:Int):Int:=match a with
 | some e=>e
 | none=>b
def SX (a b c d e g h i:Bool):Bool:=(a||b||c)&&(d||e)&&(g||h&&i)
def KI (f:Af):Int:=bif SX (decide (f.fOp=3)) (decide (f.fOp=4)) (decide (f.fValues.length=0)) (decide (f.fOp=5)) (decide (f.fText=[])) (decide (f.fOp=6)) (decide (f.fLow=0)) (decide (f.fHigh=0)) then 0 else 1
def UZ (n:Int):Bool:=decide (-1000000000000≤n)&&decide (n≤1000000000000)
def Uc (f:Af):Bool:=!UZ f.fLow||(!UZ f.fHigh||decide (f.fHigh<f.fLow))
def Tm (f:Af):Int:=
 bif (decide (f.fOp=3)||decide (f.fOp=4)) then(bif (decide ((f.fValues.length:Int)<1)||decide (8<(f.fValues.length:Int))) then 3 else Us (f.fValues.findSome? λv=>eO (CS v)) (KI f))
 else bif decide (f.fOp=5) then Us (eO (Ti f.fText)) (KI f)
 else bif decide (f.fOp=6) then(bif Uc f then 2 else KI f)
 else KI f
def TZ (f:Af):Int:=bif decide (4<(f.fPath.length:Int)) then 3 else Us (f.fPath.findSome? λs=>eO (Ti s)) (bif (decide (f.fOp<1)||decide (6<f.fOp)) then 7 else Tm f)
def jB (x:Bool):Option Int:=AP x (some 1) (some 0)
theorem Pw:∀a b c d e g h i:Bool,(Bd (some (a||b)) λr=>AP (!r) (AP (!c) (jB true) (AP (!d) (AP (!e) (jB true) (AP (!g) (AP (!h) (jB true) (jB (!i))) (jB false))) (AP (!g) (AP (!h) (jB true) (jB (!i))) (jB false)))) (AP (!d) (AP (!e) (jB true) (AP (!g) (AP (!h) (jB true) (jB (!i))) (jB false))) (AP (!g) (AP (!h) (jB true) (jB (!i))) (jB false))))=some (bif SX a b c d e g h i then(0:Int) else 1):=by decide
def MY (f:Af):Option Int:=Bd (Ek f.fOp) λr=>AP (!r) (AP (decide (0<(f.fValues.length:Int))) (jB true) (AP (!decide (f.fOp=5)) (AP (!decide (f.fText=([]:Ar))) (jB true) (AP (!decide (f.fOp=6)) (AP (!decide (f.fLow=0)) (jB true) (jB (!decide (f.fHigh=0)))) (jB false))) (AP (!decide (f.fOp=6)) (AP (!decide (f.fLow=0)) (jB true) (jB (!decide (f.fHigh=0)))) (jB false)))) (AP (!decide (f.fOp=5)) (AP (!decide (f.fText=([]:Ar))) (jB true) (AP (!decide (f.fOp=6)) (AP (!decide (f.fLow=0)) (jB true) (jB (!decide (f.fHigh=0)))) (jB false))) (AP (!decide (f.fOp=6)) (AP (!decide (f.fLow=0)) (jB true) (jB (!decide (f.fHigh=0)))) (jB false)))
theorem Hu (f:Af):MY f=some (KI f):=by
 have h:=Pw (decide (f.fOp=3)) (decide (f.fOp=4)) (decide (f.fValues.length=0)) (decide (f.fOp=5)) (decide (f.fText=[])) (decide (f.fOp=6)) (decide (f.fLow=0)) (decide (f.fHigh=0));have e:decide (0<(f.fValues.length:Int)) = !decide (f.fValues.length=0):=by rw[VK,V4,Vq,Vr];omega
 unfold MY Ek;rw[e];exact h
structure FA (K:Nat) (f:Af):Prop where
 path:f.fPath.length≤1000
 keys:∀s∈f.fPath,s.length≤K
 vals:f.fValues.length≤1000
 val:∀v∈f.fValues,DV K v
 text:f.fText.length≤K
 K1:1≤K
 K2:K≤1000000
section
variable {K : Nat} {f : Af}
theorem PL (hA:FA K f){F:Nat}(hF:K+2000<F):BW (λσ=>DO F f σ) F 0=some (NU (f.fPath.findSome? λs=>eO (Ti s))):=by
 have hp:=hA.path;refine Gp (λx h0 hx=>?_) (λx hx=>by unfold DO;rw[AZ (Vy hx)]) (by omega);unfold DO;rw[Bh (V2 hx),Ck h0 hx,O7 (hA.keys _ (M8 h0 hx)) hA.K1 hA.K2 (by omega),Bv rfl,Bx (by omega) (by omega),R0];exact Ry
theorem LP (hA:FA K f){F:Nat}(hF:K+2000<F):BW (λσ=>DN F f σ) F 0=some (NU (f.fValues.findSome? λv=>eO (CS v))):=by
 have hp:=hA.vals;refine Gp (λx h0 hx=>?_) (λx hx=>by unfold DN;rw[AZ (Vy hx)]) (by omega);unfold DN;rw[Bh (V2 hx),Ck h0 hx,Eo (hA.val _ (M8 h0 hx)) hA.K2 (by omega),Bv rfl,Bx (by omega) (by omega)];exact Ry
theorem PK (hA:FA K f){F:Nat}(hF:K+2000<F):BW (λσ=>Gw F f σ) F 0=some (NU (f.fValues.findSome? λv=>eO (CS v))):=LP hA hF
theorem KN {a:Option Int}{b:Int}{k:Option Int}(h:k=some b):BV (λ_=>k) (NU a)=some (Us a b):=by subst h;cases a<;>rfl
theorem SH {e b:Int}{k:Option Int}(h:k=some b):AP (!decide (e=0)) (some e) k=some (Us (eO e) b):=by
 subst h;unfold eO;cases decide (e=0)<;>rfl
theorem LK (n:Int):Bi n=some (UZ n):=rfl
theorem PM (hA:FA K f){F:Nat}(hF:K+2000<F):C1 F f=some (TZ f):=by
 have h2:Gu f=some (KI f):=Hu f;have h4:Gt f=some (KI f):=Hu f;unfold C1 TZ
 cases h1:decide (4<(f.fPath.length:Int)) with
 | true=>rfl
 | false=>
  rw[AZ (by rfl),Bv (PL hA hF),KN (b:=bif (decide (f.fOp<1)||decide (6<f.fOp)) then 7 else Tm f)]
  ·rfl
  ·unfold Gv
   cases h0:(decide (f.fOp<1)||decide (6<f.fOp)) with
   | true=>rfl
   | false=>
    rw[AZ (by rfl),Vu];unfold Tm
    cases h3:decide (f.fOp=3) with
    | true=>
     rw[Bh (by rfl),VE,Vz]
     cases hn:(decide ((f.fValues.length:Int)<1)||decide (8<(f.fValues.length:Int))) with
     | true=>rfl
     | false=>rw[AZ (by rfl),Bv (LP hA hF),KN h2];rfl
    | false=>
     rw[AZ (by rfl),V6]
     cases h4':decide (f.fOp=4) with
     | true=>
      rw[Bh (by rfl),Vz]
      cases hn:(decide ((f.fValues.length:Int)<1)||decide (8<(f.fValues.length:Int))) with
      | true=>rfl
      | false=>rw[AZ (by rfl),Bv (PK hA hF),KN h4];rfl
     | false=>
      rw[AZ (by rfl),Vu]
      cases h5:decide (f.fOp=5) with
      | true=>
       rw[Bh (by rfl),Vz,O7 hA.text hA.K1 hA.K2 (by omega),Bv rfl,R0];refine SH (Eq.trans ?_ (Hu f));unfold MY;rw[h5];rfl
      | false=>
       rw[AZ (by rfl),Vu]
       cases h6:decide (f.fOp=6) with
       | true=>
        rw[Bh (by rfl),Vz,LK,LK,C6 (by rfl),M4,DS,DS]
        change AP (Uc f) _ _=_
        cases hb:Uc f with
        | true=>rfl
        | false=>
         rw[AZ (by rfl),Vu];refine Eq.trans ?_ (Hu f);unfold MY;rw[h5,h6];rfl
       | false=>
        rw[AZ (by rfl),Vu];refine Eq.trans ?_ (Hu f);unfold MY;rw[h5,h6];rfl
end
theorem OU {f:Fo}(h1:f.flat.any Ly=false)(h2:f.flat.any JN=false)(h3:f.flat.length≤200)(h4:f.dep≤8)(h5:(f.txt true).length≤4000):N7 f=0:=by
 unfold N7;rw[h1,h2,Vy (by omega),Vy (by omega),Vy (by omega)];rfl
theorem Rt {f:Fo}(h:N7 f=0):f.flat.any Ly=false∧f.flat.any JN=false∧f.flat.length≤200∧f.dep≤8∧(f.txt true).length≤4000:=by
 unfold N7 at h
 cases h1:f.flat.any Ly with
 | true=>rw[h1] at h;cases h
 | false=>
  rw[h1] at h
  cases h2:(f.flat.any JN||(decide (200<f.flat.length)||(decide (8<f.dep)||decide (4000<(f.txt true).length)))) with
  | true=>rw[h2] at h;cases h
  | false=>
   simp only[VI,Vr] at h2;exact⟨rfl,h2.1,by omega,by omega,by omega⟩
theorem OT {f:Fo}(h1:f.one=true)(hw:f.wf false none=true)(he:N7 f=0):CS f.flat=0:=by
 unfold CS;rw[Qq h1 hw];exact he
theorem Ic:∀(f:Fo) (m:Bool) (last:Option Ar) (b:Bool),f.wf m last=true→f.flat.any Ly=false→f.flat.any JN=false→f.flat.length≤200→f.dep≤8→(f.txt b).length≤4000→∀y∈f.vals,CS y=0
 | .nil,m,last,b,hw,h1,h2,h3,h4,h5=>λy hy=>by simp[Fo.vals] at hy
 | .cell k c r,m,last,b,hw,h1,h2,h3,h4,h5=>λy hy=>by
  simp only[Fo.wf,Vs,V4] at hw;obtain⟨⟨⟨w1,w2⟩,w3⟩,w4⟩:=hw;simp only[Fo.flat,List.any_append,List.any_cons,VI] at h1 h2;simp only[Fo.flat,Fo.dep,Fo.txt,V3,Vt] at h3 h4 h5;simp only[Fo.vals,VS] at hy;rcases hy with rfl | hy
  ·have hf:(Fo.cell none c .nil).flat=[c]:=by simp[Fo.flat,BK]
   rw[← hf];refine OT rfl (O6 w2 w3) (OU ?_ ?_ ?_ ?_ ?_)
   ·rw[hf];simp[h1.2.1]
   ·rw[hf];simp[h2.2.1]
   ·rw[hf];simp
   ·simp[Fo.dep]
   ·simp[Fo.txt,NT,T0];omega
  ·exact Ic r m k false w4 h1.2.2 h2.2.2 (by omega) (by omega) (by omega) y hy
 | .node k c kids r,m,last,b,hw,h1,h2,h3,h4,h5=>λy hy=>by
  simp only[Fo.wf,Vs,Vq] at hw;obtain⟨⟨⟨⟨⟨w1,w2⟩,w3⟩,w5⟩,w6⟩,w4⟩:=hw;simp only[Fo.flat,List.any_append,List.any_cons,VI] at h1 h2;simp only[Fo.flat,Fo.dep,Fo.txt,V3,Vt] at h3 h4 h5;simp only[Fo.vals,VS] at hy;rcases hy with rfl | hy
  ·have hf:(Fo.node none c kids .nil).flat=c::kids.flat:=by simp[Fo.flat,BK]
   rw[← hf];refine OT rfl (O5 w2 w3 w5 w6) (OU ?_ ?_ ?_ ?_ ?_)
   ·rw[hf];simp only[List.any_cons,h1.2.1,h1.2.2.1];rfl
   ·rw[hf];simp only[List.any_cons,h2.2.1,h2.2.2.1];rfl
   ·rw[hf];simp only[Vt];omega
   ·simp only[Fo.dep];omega
   ·simp only[Fo.txt,NT,T0,Vz,VT,VY];omega
  ·exact Ic r m k false w4 h1.2.2.2 h2.2.2.2 (by omega) (by omega) (by omega) y hy
theorem Vc.vals {M:Nat}{v:List Aa}{c:Aa}{kf:Fo}(V:Vc M v c kf):∀y∈kf.vals,CS y=0:=by
 obtain⟨f,x1,x2,x3,x4,x5⟩:=V.f;obtain⟨h1,h2,h3,h4,h5⟩:=Rt x5;have hw:=V.vok.wf
 cases f with
 | nil=>cases x2
 | cell k c' r=>
  simp[Fo.hd] at x4;obtain⟨_,_,rfl,_⟩:=x4;intro y hy;simp[Fo.vals] at hy
 | node k c' kids r=>
  simp[Fo.hd] at x4;obtain⟨rfl,rfl,rfl,rfl⟩:=x4;simp only[Fo.flat,BK,VT,VY,List.any_cons,VI] at h1 h2;simp only[Fo.flat,BK,VT,VY,Vt] at h3;simp only[Fo.dep] at h4;have hb:=OW c' (kids.txt true);simp only[Fo.txt,NT,T0,Vz,VT,VY] at h5;exact Ic kids _ none true hw h1.2 h2.2 (by omega) (by omega) (by omega)
section
variable {M : Nat} {v x : List Aa} {key : Ar}
end
theorem LM {α:Type}[Inhabited α]{l:List α}{t:α→Bool}{body:Int→Option (Stp Int (Out Int Unit))}
  (hs:∀x:Int,0≤x→x<(l.length:Int)→body x=some (UO x (bO (t (Ax l x)) x))) (he:∀x:Int,¬ x<(l.length:Int)→body x=some (.out (.go ()))) {F:Nat} (hF:l.length<F) :
  (Bd (Bd (BW body F 0) (BV λ_=>some (-1))) λr=>some (decide (0≤r)))=some (l.any t):=by
 have key:∀(suf pre:List α) (F:Nat),l=pre++suf→suf.length<F→∃o,BW body F (pre.length:Int)=some o∧(Bd (BV (λ_=>some (-1)) o) λr=>some (decide (0≤r)))=some (suf.any t):=by
  intro suf
  induction suf with
  | nil=>
   intro pre F e hF;obtain⟨n,rfl⟩:∃n,F=n+1:=⟨F-1,by omega⟩
   exact⟨.go (),Ei (he _ (by rw[e];simp)),rfl⟩
  | cons a r ih=>
   intro pre F e hF;simp only[Vt] at hF;obtain⟨n,rfl⟩:∃n,F=n+1:=⟨F-1,by omega⟩
   have h1:=hs (pre.length:Int) (by omega) (by rw[e];simp;omega);have h2:Ax l (pre.length:Int)=a:=by rw[e];exact M7 pre r a rfl
   rw[h2] at h1
   cases ht:t a with
   | true=>
    rw[ht] at h1;refine⟨.ret (pre.length:Int),Ei h1,?_⟩;rw[Ng,Bv rfl,List.any_cons,ht,V2 (by omega)];rfl
   | false=>
    rw[ht] at h1;obtain⟨o,h3,h4⟩:=ih (pre++[a]) n (by rw[e];simp) (by omega);refine⟨o,LL h1 ?_,?_⟩
    ·rw[show((pre.length:Int)+1)=((pre++[a]).length:Int) from by simp];exact h3
    ·rw[h4,List.any_cons,ht];rfl
 obtain⟨o,h1,h2⟩:=key l [] F rfl hF;rw[show(0:Int)=(([]:List α).length:Int) from rfl,Bv h1];exact h2
def PA (x:List Aa)(l:List (List Aa)):Bool:=l.any λy=>decide (y=x)
def Tk (s p:Ar):Bool:=decide (p.length≤s.length)&&decide (s.take p.length=p)
def Ub (x:List Aa)(p:Ar):Bool:=decide ((Ax x 0).fKind=4)&&Tk (Ax x 0).fStr p
def Te (x:List Aa)(lo hi:Int):Bool:=decide ((Ax x 0).fKind=3)&&(decide (lo≤(Ax x 0).fInt)&&decide ((Ax x 0).fInt≤hi))
def Tn (f:Af)(x:List Aa):Bool:=
 bif decide (f.fOp=1) then true else bif decide (f.fOp=3) then PA x f.fValues else bif decide (f.fOp=4) then !PA x f.fValues else bif decide (f.fOp=5) then Ub x f.fText else bif decide (f.fOp=6) then Te x f.fLow f.fHigh else false
def Tp (f:Af)(v:List Aa):Bool:=bif !decide ((HU v f.fPath).2=0) then decide (f.fOp=2) else Tn f (HU v f.fPath).1
def Sm (f:Af)(v:List Aa):Bool:=decide (TZ f=0)&&(decide (CS v=0)&&Tp f v)
def Nn (l:List Af)(v:List Aa):Bool:=decide ((l.length:Int)≤32)&&(decide (CS v=0)&&l.all λf=>Sm f v)
section
variable {K : Nat} {v : List Aa}
theorem Jt (key:Ar):∀(g:Fo) (x:List Aa),g.find key=some x→x∈g.vals
 | .nil,x,h=>by cases h
 | .cell k c r,x,h=>by
  rw[Fo.find] at h
  cases hk:decide (E5 k=key) with
  | true=>rw[hk] at h;cases h;simp[Fo.vals]
  | false=>rw[hk] at h;simp[Fo.vals,Jt key r x h]
 | .node k c kids r,x,h=>by
  rw[Fo.find] at h
  cases hk:decide (E5 k=key) with
  | true=>rw[hk] at h;cases h;simp[Fo.vals]
  | false=>rw[hk] at h;simp[Fo.vals,Jt key r x h]
theorem SA (hA:DV K v){key:Ar}(h0:(Hj v key).2=0):CS (Hj v key).1=0:=by
 unfold Hj at *;rcases Hl hA with⟨h,on⟩ | ⟨c,kf,V⟩
 ·rw[on] at h0;exact absurd h0 h
 ·rw[V.on] at *
  cases h6:decide (c.fKind=6) with
  | false=>rw[h6] at h0;cases h0
  | true=>
   rw[h6] at h0
   cases hf:kf.find key with
   | none=>rw[hf] at h0;cases h0
   | some x=>exact V.vals x (Jt key kf x hf)
theorem Ne:∀(ks:List Ar) {out:List Aa},DV K out→CS out=0→(I7 ks out).2=0→CS (I7 ks out).1=0
 | [],out,_,h,_=>h
 | k::ks,out,hA,h,h0=>by
  rw[I7] at *
  cases hk:decide ((Hj out k).2=0) with
  | false=>
   rw[hk] at h0;exact absurd h0 (of_decide_eq_false hk)
  | true=>
   rw[hk] at h0;exact Ne ks (Mu hA k) (SA hA (VZ hk)) h0
theorem QH (hA:DV K v){path:List Ar}(h0:(HU v path).2=0):CS (HU v path).1=0:=by
 unfold HU at *
 cases hv:decide (CS v=0) with
 | false=>rw[hv] at h0;exact absurd h0 (of_decide_eq_false hv)
 | true=>rw[hv] at h0;exact Ne path hA (VZ hv) h0
theorem PE (s p:Ar):CG s p=some (Tk s p):=by
 unfold CG ED Tk;have e:decide ((p.length:Int)≤(s.length:Int))=decide (p.length≤s.length):=by rw[VK];simp
 rw[e]
 cases h:decide (p.length≤s.length) with
 | false=>rfl
 | true=>rw[C6 (by rw[UC (by omega) (by have:=VZ h;omega)];rfl),Bv rfl];rfl
theorem Om (hA:DV K v)(h:CS v=0)(p:Ar):GO v p=some (Ub v p):=by
 rcases Hl hA with⟨h',_⟩ | ⟨c,kf,V⟩
 ·exact absurd h h'
 ·have hl:0<v.length:=by rw[V.e];simp
  unfold GO Ub;rw[PE,Ck (by omega) (by omega),M4,DS]
theorem Od (hA:DV K v)(h:CS v=0)(lo hi:Int):GL v lo hi=some (Te v lo hi):=by
 rcases Hl hA with⟨h',_⟩ | ⟨c,kf,V⟩
 ·exact absurd h h'
 ·have hl:0<v.length:=by rw[V.e];simp
  unfold GL Te;rw[Ck (by omega) (by omega)]
theorem LQ {x:List Aa}{l:List (List Aa)}{F:Nat}(hl:l.length≤1000)(hF:K+1000<F)(hK:K≤1000000)(h:∀y∈l,DV K y):GP F l x=some (PA x l):=by
 have:R6 F l x=some (PA x l):=by
  unfold R6 S5;refine LM (λi h0 hi=>?_) (λi hi=>by unfold HI;rw[AZ (Vy hi)]) (by omega);have hm:=h _ (M8 h0 hi);have hv:=hm.hv;unfold HI Kn;rw[Bh (V2 hi),Ck h0 hi,Pj (by omega) (by omega),Bv rfl,Bv rfl,Bx (by omega) (by omega)];exact J0
 unfold GP;rw[this,Bv rfl]
variable {f : Af}
theorem Rm (hf:FA K f)(hA:DV K v){F:Nat}(hF:4*K+2000<F):JP F f v=some (Tp f v):=by
 have hp:=hf.path;have hK:=hf.K2;have hl:=hf.vals;unfold JP Tp;rw[Qx hA hK (by omega) (by omega) (by omega),Bv rfl]
 cases he:decide ((HU v f.fPath).2=0) with
 | false=>rfl
 | true=>
  have hok:=QH hA (VZ he);have hck:=QI hA f.fPath;rw[AZ (by rfl)];show _=some (Tn f _);unfold Tn
  cases h1:decide (f.fOp=1) with
  | true=>rfl
  | false=>
   rw[AZ (by rfl),Vu]
   cases h3:decide (f.fOp=3) with
   | true=>
    rw[Bh (by rfl),Vz,LQ (by omega) (by omega) hK hf.val,Bv rfl]
    cases PA _ _<;>rfl
   | false=>
    rw[AZ (by rfl),Vu]
    cases h4:decide (f.fOp=4) with
    | true=>
     rw[Bh (by rfl),Vz,LQ (by omega) (by omega) hK hf.val,Bv rfl]
     cases PA _ _<;>rfl
    | false=>
     rw[AZ (by rfl),Vu]
     cases h5:decide (f.fOp=5) with
     | true=>rw[Bh (by rfl),Vz,Om hck hok,Bv rfl]
     | false=>
      rw[AZ (by rfl),Vu]
      cases h6:decide (f.fOp=6) with
      | true=>rw[Bh (by rfl),Vz,Od hck hok,Bv rfl]
      | false=>rfl
theorem SC (hf:FA K f)(hA:DV K v){F:Nat}(hF:4*K+2000<F):Og F f v=some (Sm f v):=by
 have hK:=hf.K2;unfold Og Sm;rw[PM hf (by omega),Eo hA hK (by omega),Rm hf hA hF,C6 (by rfl),M4,TY,DS,DS,DS]
theorem HL {l:List Af}(hf:∀f∈l,FA K f)(hl:l.length≤1000)(hA:DV K v)(hK:K≤1000000){F:Nat}(hF:4*K+2000<F):Br F l v=some (Nn l v):=by
 have h1:UH F l v=some (l.any λf=>!Sm f v):=by
  unfold UH US;refine LM (λi h0 hi=>?_) (λi hi=>by unfold Jr;rw[AZ (Vy hi)]) (by omega);unfold Jr Km;rw[Bh (V2 hi),Ck h0 hi,SC (hf _ (M8 h0 hi)) hA hF,Bv rfl,Bv rfl,Bx (by omega) (by omega)];exact J0
 unfold Br Nn;rw[Eo hA hK (by omega),h1]
 cases decide ((l.length:Int)≤32) with
 | false=>rfl
 | true=>
  rw[Bh (by rfl),Bv rfl]
  cases decide (CS v=0) with
  | false=>rfl
  | true=>
   rw[Bh (by rfl),Bv rfl];unfold DM;simp[List.all_eq_not_any_not]
end
section
variable {K : Nat} {a b : Af}
theorem OJ (l m:List Af)(v:List Aa)(h:(l.length:Int)+m.length≤32):Nn (l++m) v=(Nn l v&&Nn m v):=by
 unfold Nn;rw[List.all_append,V2 (show(((l++m).length:Nat):Int)≤32 by rw[V3];omega),V2 (show(l.length:Int)≤32 by omega),V2 (show(m.length:Int)≤32 by omega)]
 cases decide (CS v=0)<;>simp
end
def Sc (v:List Aa):Bool:=!decide (300<(v.length:Int))&&v.all λc=>!decide (5000<(c.fStr.length:Int))
def Uj (f:Af):Bool:=!(decide (10<(f.fPath.length:Int))||(decide (20<(f.fValues.length:Int))||decide (1000<(f.fText.length:Int))))&&(f.fPath.all (λs=>!decide (1000<(s.length:Int)))&&f.fValues.all Sc)
def Ui (l:List Af):Bool:=!decide (40<(l.length:Int))&&l.all Uj
theorem OX {α:Type}{p:α→Bool}(l:List α):(bif l.any (λa=>!p a) then false else true)=l.all p:=by
 rw[List.all_eq_not_any_not];cases l.any _<;>rfl
theorem OY {α:Type}{p:α→Bool}(l:List α):(l.all λa=>!p a) = !l.any p:=by
 induction l with
 | nil=>rfl
 | cons a r ih=>rw[List.all_cons,List.any_cons,ih,Bool.not_or]
theorem Gx {F:Nat}{v:List Aa}(hF:300<F):Cn F v=some (Sc v):=by
 unfold Cn Sc
 cases h:decide (300<(v.length:Int)) with
 | true=>rfl
 | false=>
  simp only[Vr] at h;rw[AZ (by rfl),Bv (Gp (t:=λc:Aa=>bO (decide (5000<(c.fStr.length:Int))) false) (l:=v) (λi h0 hi=>?_) (λi hi=>by unfold Cw;rw[AZ (Vy hi)]) (by omega)),IW]
  ·unfold CH;rw[Mo,V9,V7,OY]
   cases List.any v _<;>rfl
  ·unfold Cw;rw[Bh (V2 hi),Ck h0 hi,Bx (by omega) (by omega)];exact J0
theorem N5 {F:Nat}{f:Af}(hF:300<F):H6 F f=some (Uj f):=by
 unfold H6 Uj
 cases h:(decide (10<(f.fPath.length:Int))||(decide (20<(f.fValues.length:Int))||decide (1000<(f.fText.length:Int)))) with
 | true=>rfl
 | false=>
  simp only[VI,Vr] at h;rw[AZ (by rfl),V9,V7,Bv (Gp (t:=λs:Ar=>bO (decide (1000<(s.length:Int))) false) (l:=f.fPath) (λi h0 hi=>?_) (λi hi=>by unfold D6;rw[AZ (Vy hi)]) (by omega)),IW]
  ·have h2:D4 F f=some (f.fValues.all Sc):=by
    unfold D4;rw[Bv (Gp (t:=λv=>bO (!Sc v) false) (l:=f.fValues) (λi h0 hi=>?_) (λi hi=>by unfold D5;rw[AZ (Vy hi)]) (by omega)),IW]
    ·unfold Ec;rw[Mo,OX]
    ·unfold D5;rw[Bh (V2 hi),Ck h0 hi,Gx hF,Bv rfl,Bx (by omega) (by omega)];exact J0
   rw[h2,OY]
   cases List.any f.fPath _<;>rfl
  ·unfold D6;rw[Bh (V2 hi),Ck h0 hi,Bx (by omega) (by omega)];exact J0
theorem LN {F:Nat}{l:List Af}(hF:300<F):CM F l=some (Ui l):=by
 unfold CM Ui
 cases h:decide (40<(l.length:Int)) with
 | true=>rfl
 | false=>
  simp only[Vr] at h;rw[AZ (by rfl),V9,V7,Bv (Gp (t:=λf=>bO (!Uj f) false) (l:=l) (λi h0 hi=>?_) (λi hi=>by unfold Eu;rw[AZ (Vy hi)]) (by omega)),IW]
  ·unfold Gq;rw[Mo,OX]
  ·unfold Eu;rw[Bh (V2 hi),Ck h0 hi,N5 hF,Bv rfl,Bx (by omega) (by omega)];exact J0
def Uv (y:Af):Bool:=(λys:(List Ar)=>ys.all So&&decide (ys.length≤9223372036854775807)) y.fPath&&(BM .i64) y.fOp&&(λys:(List (List Aa))=>ys.all (λys:(List Aa)=>ys.all Jl&&decide (ys.length≤9223372036854775807))&&decide (ys.length≤9223372036854775807)) y.fValues&&So y.fText&&(BM .i64) y.fLow&&(BM .i64) y.fHigh
theorem DV.sm {v:List Aa}(hs:Sc v=true)(hc:v.all Jl=true):DV 5000 v:=by
 unfold Sc at hs;simp only[Vs,V4,Vr,VL] at hs hc;refine⟨by decide,by omega,λc h=>?_⟩;have h1:=hs.2 c h;have h2:=hc c h;unfold Jl at h2;simp only[Vs] at h2;exact⟨by omega,h2.1.1.2,(IT h2.2).2⟩
theorem FA.sm {f:Af}(hs:Uj f=true)(ho:Uv f=true):FA 5000 f:=by
 unfold Uj at hs;unfold Uv at ho;simp only[Vs,V4,VI,Vr,VL] at hs ho;obtain⟨⟨a1,a2,a3⟩,a4,a5⟩:=hs;refine⟨by omega,λs h=>?_,by omega,λv h=>DV.sm (a5 v h) ?_,by omega,by decide,by decide⟩
 ·have:=a4 s h;omega
 ·have:=(ho.1.1.1.2.1 v h).1;exact List.all_eq_true.2 this
theorem FAs.sm {l:List Af}(hs:Ui l=true)(ho:l.all Uv=true):(∀f∈l,FA 5000 f)∧l.length≤40:=by
 unfold Ui at hs;simp only[Vs,V4,Vr,VL] at hs ho;exact⟨λf h=>FA.sm (hs.2 f h) (ho f h),by omega⟩
theorem RE:Hx 40000=some true:=by decide +kernel
end Go.Proofs.YtghdglcmblpbeaaGreatDoor
namespace Go.Proofs.YtghdglcmblpbeaaGreatDoor
open Go
set_option linter.unusedVariables false
set_option linter.unusedSimpArgs false
theorem HM {α:Type}{n:Nat}{x:Option α}(h:n≤1000000):AQ (DU 88 n) x=x:=C6 (V2 (by omega))
theorem Oa {a b:List Af}{v:List Aa}(ha:a.all Uv=true)(hb:b.all Uv=true)(hv:v.all Jl=true):KX 40000 a b v=some true:=by
 unfold KX;rw[LN (by omega),LN (by omega),Gx (by omega),RE,C6 (by rfl),M4,DS,DS,DS]
 cases h1:Ui a with
 | false=>rfl
 | true=>
  cases h2:Ui b with
  | false=>rfl
  | true=>
   obtain⟨fa,la⟩:=FAs.sm h1 ha;obtain⟨fb,lb⟩:=FAs.sm h2 hb;rw[C6 (by rw[Lb (by omega) (by omega)];rfl),C6 (by rw[show(some (Sc v)).isSome=true from rfl,Ii,Ii,Ii])]
   cases h0:decide (32<((a.length:Int)+(b.length:Int))) with
   | true=>rfl
   | false=>
    simp only[Vr] at h0
    cases h3:Sc v with
    | false=>rfl
    | true=>
     have va:=DV.sm h3 hv;have fab:∀f∈([]++a)++b,FA 5000 f:=λf hf=>by
      simp only[VT,List.mem_append] at hf;exact hf.elim (fa f) (fb f)
     have fba:∀f∈([]++b)++a,FA 5000 f:=λf hf=>by
      simp only[VT,List.mem_append] at hf;exact hf.elim (fb f) (fa f)
     rw[AZ (by rfl),HL fa (by omega) va (by decide) (by omega),HL fb (by omega) va (by decide) (by omega),HL fab (by simp;omega) va (by decide) (by omega),HL fba (by simp;omega) va (by decide) (by omega),
      HM (by simp;omega),HM (by simp;omega),HM (by simp;omega),HM (by simp;omega),VT,VT,OJ a b v (by omega),OJ b a v (by omega)]
     simp only[Option.isSome_some,Ii,C6,DS]
     cases Nn a v<;>cases Nn b v<;>rfl
end Go.Proofs.YtghdglcmblpbeaaGreatDoor
namespace Go.Proofs.YtghdglcmblpbeaaGreatDoor.lawFilterJoins
open Go
theorem Vi:Vm:=λ_ _ _ h1 h2 h3=>⟨40000,Oa (Bool.and_eq_true_iff.1 h1).1 (Bool.and_eq_true_iff.1 h2).1 (Bool.and_eq_true_iff.1 h3).1⟩
end Go.Proofs.YtghdglcmblpbeaaGreatDoor.lawFilterJoins
