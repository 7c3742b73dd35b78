/-
  Texts of the proof, put together: WFb, PFc, WFc, PFd, WFd, OkFilterImplies, LvA, LvB, LvC, LvD, LvE, LvF, LvG, LvH, LvI, LvJ, LvK, LvL, LvM, LvN, LvO, LvP, LcA, LcB, LcC, LcD, LcE, LcF, LcG, LfA, LfB, LgA, LfC, LgB, LgC, LgD, LwFiImplies.
-/
import Derived.Test.YtghdglcmblpbeaaGreatDoorFI3
import GoSem.ClaimData
namespace Go.Proofs.YtghdglcmblpbeaaGreatDoor.Q
open Go Go.RowKit
set_option linter.unusedVariables false
set_option linter.unusedSimpArgs false
set_option maxRecDepth 100000
set_option maxHeartbeats 4000000
@[reducible] def Bo (x:(List (List Aa))):List Rp:=[AE 1 (A3 Ae x)]
theorem Ie (x:(List (List Aa))):(Bo x).length=1:=rfl
@[reducible] def CI (x:(List Int)):Rp:=AE 1 (A3 BO x)
theorem N4 (Z:Fz):(CI ([]:(List Int))).p Z (.slice none 0 0):=MU.nil _ _
theorem MP (parts:List (Nat×Value)):Tryz.prog.built 26 parts=Instr.fill (λi=>(#[(0,1),(1,1),(2,1),(3,1),(4,1),(5,1)]:Array (Nat×Nat))[i]?) #[((.slice none 0 0)),(.int .i64 0),((.slice none 0 0)),(.string ⟨#[]⟩),(.int .i64 0),(.int .i64 0)] parts:=by kernel_rfl
theorem Oz {n:Nat}{c:Cx}{l:Fr}{H:List Ent}{d:Option Nat}{ty:TypeId}{pos:String}{af:Array Edge}{g:Option (Nat×Bool)}:Bn Tryz.prog n c l H { dst:=d,op:=.build 26 #[],type:=ty,pos:=pos,after:=af,guard:=g } (Bv [rv (.slice none 0 0),Ai 0,rv (.slice none 0 0),rS ([]:Ar),Ai 0,Ai 0]):=λa w Z ha _=>by
  have hb:Tryz.prog.built 26 []=some #[((.slice none 0 0)),(.int .i64 0),((.slice none 0 0)),(.string ⟨#[]⟩),(.int .i64 0),(.int .i64 0)]:=by
    rw[MP];simp[Instr.fill,Value.cells]
  refine⟨.agg #[((.slice none 0 0)),(.int .i64 0),((.slice none 0 0)),(.string ⟨#[]⟩),(.int .i64 0),(.int .i64 0)],⟨[((.slice none 0 0)),(.int .i64 0),((.slice none 0 0)),(.string ⟨#[]⟩),(.int .i64 0),(.int .i64 0)],rfl,rfl,rfl,rfl,rfl,rfl,rfl,trivial⟩,?_⟩;have:=run_build w 26 #[] _ (by simpa using hb);simp[execOp,this]
theorem Oq (F:Nat)(ls:(List (List (List Aa))))(r:(List (List Aa)))(h:KS F ls=some r):Fn Tryz.prog GE 48 [AE 1 (A3 Bo ls)] [] (λR H=>R=AE 1 (A3 Ae r)∧H=[]):=by
 refine enter (n:=36) Tryz.func48 rfl Tryz.ntmps48 rfl (λw Z=>?_);unfold KS at h;refine Ah (wa rfl (AX (wa rfl (Al (Ao (Ah (wm rfl (wv (AL (ys:=ls) (enc:=Bo) Q7 rfl) (wv (r:=Ai 0) (A4 rfl) (Al (AB (ob h λhq hr hs=>Bi (S:=Nat×(Int×Int)×(Unit)) (V:=(Int)×(Unit)) 0 (λσ=>BW (λσ=>EK ls σ.1 σ.2) σ.1 σ.2.1=some hq) (λσ=>[(0,AE 1 (A3 Bo ls)),(3,Ai σ.2.1.1),(9,AE 1 (A3 Bo ls)),(10,Ai (ls.length:Int)),(11,Ai σ.2.1.2)]) (λσ=>[]) (λσ=>σ.1) (F,(0,0),()) hr (A5.c5 rfl rfl rfl rfl rfl A5.nil) sN (λσ=>EI F ls σ.1=some r) (λσ=>[(0,AE 1 (A3 Bo ls)),(3,Ai σ.1)]) (λσ=>[]) ?_ ?_))))))))))))
 ·rintro⟨hY,⟨hb,ha⟩,⟨⟩⟩ ht;refine B3 (l':=[(0,AE 1 (A3 Bo ls)),(3,Ai hb),(9,AE 1 (A3 Bo ls)),(10,Ai (ls.length:Int)),(11,Ai ha)]) (H':=[]) rfl rfl ?_;obtain⟨hu,rfl,hw,hg,hn⟩:=Ch ht;replace hg:EK ls hb ha=some hw:=hg;unfold EK at hg;refine Ah (wv (Cr rfl rfl) (Al (Ao (cz hg rfl (λc46 hx=>?_) (λc46 hy=>?_)))))
  ·refine Av (AH (Ao (AB (Ah (ck hx λhz h0=>wv (AU (enc:=Bo) (ys:=ls) Q7 CG rfl rfl hz) (wv (AJ CS rfl rfl) (wa rfl (AX (wm rfl (wm rfl (wv (AL (ys:=Ax ls ha) (enc:=Ae) BM rfl) (ck h0 λh1 h2=>wv (Bk rfl rfl h1) (wa rfl (AX (wm rfl (wv (Cr rfl rfl) (Al (ck h2 λh3 h4=>Gk (b:=decide ((hb+((Ax ls ha).length:Int))<0)) rfl (Bool.not_eq_eq_eq_not.1 h3) (Av (A8 ?_))))))))))))))))))));refine AH (Ak (ck h4 λh5 h6=>wv (Bk rfl rfl h5) (wm rfl (Aj ?_))));have h7:=Bc h6 hn;exact As (At (hu,(hb+((Ax ls ha).length:Int),ha+1),()) ⟨h7,VO _⟩ (A5.c5 rfl rfl rfl rfl rfl A5.nil) sN)
  ·refine Bs (A0 ?_);have h8:=BF hy hn hs;exact A0 (AS (At (hb,()) h8 (A5.c rfl (A5.c rfl A5.nil)) sN))
 ·rintro⟨hh,⟨⟩⟩ hi;refine Cj (l':=[(0,AE 1 (A3 Bo ls)),(3,Ai hh)]) (H':=[]) rfl rfl ?_;replace hi:EI F ls hh=some r:=hi;unfold EI at hi;refine AW (AH (Ah (wm rfl (ck hi λh9 hA=>ck hA λhB hC=>Cu (rs:=[rv (.slice none 0 0),Ai hh]) (Hin:=[]) (Hr:=[]) Tryz.call86 rfl (VF _) (Ul Ae hh h9 hB) rfl ?_))));rintro _ _ ⟨hD,rfl,rfl⟩;refine wa rfl (Al (Ao (Ah (wm rfl (wv (AL (ys:=ls) (enc:=Bo) Q7 rfl) (wv (r:=Ai 0) (A4 rfl) (Al (AB (ob hC λhE hG hH=>Bi (S:=Nat×((List (List Aa))×Int)×(Value)) (V:=((List (List Aa)))×(Value)) 2 (λσ=>BW (λσ=>EJ ls σ.1 σ.2) σ.1 σ.2.1=some hE) (λσ=>[(6,rv σ.2.2),(25,AE 1 (A3 Bo ls)),(26,Ai (ls.length:Int)),(27,Ai σ.2.1.2)]) (λσ=>[.row σ.2.2 28 1 (A3 Ae σ.2.1.1)]) (λσ=>σ.1) (F,(([]:List (List Aa)),0),hD) hG (A5.c rfl (A5.c rfl (A5.c rfl (A5.c rfl A5.nil)))) (sC sN) (λσ=>EH σ.1=some r) (λσ=>[(6,rv σ.2)]) (λσ=>[.row σ.2 28 1 (A3 Ae σ.1)]) ?_ ?_)))))))))
  ·rintro⟨hZ,⟨he,hf⟩,hl⟩ hI;refine B3 (l':=[(6,rv hl),(25,AE 1 (A3 Bo ls)),(26,Ai (ls.length:Int)),(27,Ai hf)]) (H':=[.row hl 28 1 (A3 Ae he)]) rfl rfl ?_;obtain⟨hJ,rfl,hK,hj,ho⟩:=Ch hI;replace hj:EJ ls he hf=some hK:=hj;unfold EJ at hj;refine Ah (wv (Cr rfl rfl) (Al (Ao (cz hj rfl (λhL hN=>?_) (λhL hO=>?_)))))
   ·refine Av (AH (Ao (AB (Ah (ck hN λhP hQ=>wv (AU (enc:=Bo) (ys:=ls) Q7 CG rfl rfl hP) (wv (AJ CS rfl rfl) (wa rfl (Al (Ak (wm rfl (wm rfl (ck hQ λhR hS=>Exists.elim O2 λinf hinf=>Cf (xs:=he) (ys:=Ax ls hf) (enc:=Ae) (i:=0) BM hinf.1 hinf.2.1 hinf.2.2.1 hinf.2.2.2 rfl rfl rfl rfl rfl (Ki.z rfl rfl) B5 Ej hR rfl (λhT=>?_)))))))))))));refine wa rfl (Aj (A8 (AH (Ak (ck hS λhU hV=>wv (Bk rfl rfl hU) (wm rfl (Aj ?_)))))));have hW:=Bc hV ho;exact As (At (hJ,(he++(Ax ls hf),hf+1),hT) ⟨hW,VO _⟩ (A5.c rfl (A5.c rfl (A5.c rfl (A5.c rfl A5.nil)))) (sC sN))
   ·refine Bs (A0 ?_);have hX:=BF hO ho hH;exact A0 (AS (At (he,hl) hX (A5.c rfl A5.nil) (sC sN)))
  ·rintro⟨hm,hp⟩ hk;refine Cj (l':=[(6,rv hp)]) (H':=[.row hp 28 1 (A3 Ae hm)]) rfl rfl ?_;replace hk:EH hm=some r:=hk;unfold EH at hk;refine AW (AH (Ah (wm rfl (wa rfl (Al (Aq (WK.freeze (i:=0) rfl (WK.up (d:=2) (r:=AE 1 (A3 Ae hm)) rfl (Up.fact (i:=0) rfl) ?_))))))));obtain rfl:=Am hk;exact Ap (By Tryz.results48 (A9 rfl)) (sS sN) ⟨rfl,rfl⟩
theorem Tg (F:Nat)(l:(List Ar))(r:(List Aa)×Int)(h:R9 F l=some r):Fn Tryz.prog GE 44 [AE 1 (A3 eS l)] [] (λR H=>R=CW [AE 4 (A3 Ab r.1),Ai r.2]∧H=[]):=by
 refine enter (n:=32) Tryz.func44 rfl Tryz.ntmps44 rfl (λw Z=>?_);unfold R9 at h;refine Ah (wa rfl (wa rfl (AX (wa rfl (Al (Ao (Ah (wm rfl (wv (AL (ys:=l) (enc:=eS) CR rfl) (wv (r:=Ai 0) (A4 rfl) (Al (AB (WC.nilrow (e:=28) (sz:=1) (ob h λhl hm hj=>Bi (S:=Nat×((List (List Aa))×Int)×(Value)) (V:=((List (List Aa)))×(Value)) 0 (λσ=>BW (λσ=>Ji F l σ.1 σ.2) σ.1 σ.2.1=some hl) (λσ=>[(4,rv σ.2.2),(9,AE 1 (A3 eS l)),(10,Ai (l.length:Int)),(11,Ai σ.2.1.2)]) (λσ=>[.row σ.2.2 28 1 (A3 Ae σ.2.1.1)]) (λσ=>σ.1) (F,(([]:List (List Aa)),0),(.slice none 0 0                            )) hm (A5.c rfl (A5.c rfl (A5.c rfl (A5.c rfl A5.nil)))) (sC sN) (λσ=>Jh F σ.1=some r) (λσ=>[(4,rv σ.2)]) (λσ=>[.row σ.2 28 1 (A3 Ae σ.1)]) ?_ ?_))))))))))))))
 ·rintro⟨hC,⟨ha,he⟩,v37⟩ hn;refine B3 (l':=[(4,rv v37),(9,AE 1 (A3 eS l)),(10,Ai (l.length:Int)),(11,Ai he)]) (H':=[.row v37 28 1 (A3 Ae ha)]) rfl rfl ?_;obtain⟨ho,rfl,hp,hf,hi⟩:=Ch hn;replace hf:Ji F l ha he=some hp:=hf;unfold Ji at hf;refine Ah (wv (Cr rfl rfl) (Al (Ao (cz hf rfl (λhq hr=>?_) (λhq hs=>?_)))))
  ·refine Av (AH (Ao (AB (Ah (ck hr λht hu=>wv (AU (enc:=eS) (ys:=l) CR CE rfl rfl ht) (wv (AJ CP rfl rfl) (wa rfl (AX (wm rfl (ob hu λhb hw hx=>Ct QH (KG F (Ax l he) hb hw) rfl (wm rfl (wv (A7 rfl rfl) (wv (A7 rfl rfl) (wa rfl (wa rfl (Al (Ao (Ah (wm rfl (wv (Bg rfl rfl) (Al ?_)))))))))))))))))))));refine cz hx rfl (λhy hz=>?_) (λhy h0=>?_)
   ·refine Ah (wm rfl (wa rfl (wa rfl (Al (Aq (Ac (An (Ac (Ac (AN ?_))))))))));have h1:=Bh hz hi hj;refine An (Ac (WK.up (d:=2) (r:=AE 4 (A3 Ab ([]:List Aa))) rfl (Up.le (DB.nil _)) ?_));obtain rfl:=Am h1;exact Ap (DA Tryz.results44 (A9 rfl) (A9 rfl)) (sS sN) ⟨rfl,rfl⟩
   ·refine Av (AH (Ak (wm rfl (wm rfl (AO (ys:=([hb.1]:List (List Aa))) (enc:=Ae) (css:=[[AE 4 (A3 Ab hb.1)]]) (xs:=[.tmp 24]) BM BY Mo rfl rfl rfl ⟨DX.one rfl (Up.refl _),trivial⟩ rfl B5 rfl rfl rfl (λhD=>?_))))));refine ck h0 λh2 h3=>Exists.elim O2 λinf hinf=>Cf (xs:=ha) (ys:=([hb.1]:List (List Aa))) (enc:=Ae) (i:=1) BM hinf.1 hinf.2.1 hinf.2.2.1 hinf.2.2.2 rfl rfl rfl rfl rfl (Ki.w (i:=0) rfl rfl) B5 Ej h2 rfl (λh4=>?_);refine wa rfl (Aj (A8 (AH (Ak (ck h3 λh5 h6=>wv (Bk rfl rfl h5) (wm rfl (Aj ?_)))))));have h7:=Bc h6 hi;exact As (At (ho,(ha++([hb.1]:List (List Aa)),he+1),h4) ⟨h7,VO _⟩ (A5.c rfl (A5.c rfl (A5.c rfl (A5.c rfl A5.nil)))) (sC (sS sN)))
  ·refine Bs (A0 ?_);have h8:=BF hs hi hj;exact A0 (AS (At (ha,v37) h8 (A5.c rfl A5.nil) (sC sN)))
 ·rintro⟨hg,hk⟩ hh;refine Cj (l':=[(4,rv hk)]) (H':=[.row hk 28 1 (A3 Ae hg)]) rfl rfl ?_;replace hh:Jh F hg=some r:=hh;unfold Jh at hh;refine AW (AH (Ah (wm rfl (WL.freeze (i:=0) rfl (WL.up (d:=28) (r:=AE 1 (A3 Ae hg)) rfl (Up.fact (i:=0) rfl) (ob hh λh9 hA hB=>Ct Tryz.call47 (Km F hg h9 hA) rfl (wv (A7 rfl rfl) (wv (A7 rfl rfl) (wa rfl (wa rfl (Al (Aq ?_))))))))))));obtain rfl:=Am hB;exact Ap (DA Tryz.results44 (A9 rfl) (A9 rfl)) (sS sN) ⟨rfl,rfl⟩
theorem NF (F:Nat)(f:Af)(r:(List (List Aa))×Int)(h:J3 F f=some r):Fn Tryz.prog GE 46 [Bv (Ad f)] [] (λR H=>R=CW [AE 1 (A3 Ae r.1),Ai r.2]∧H=[]):=by
 refine enter (n:=57) Tryz.func46 rfl Tryz.ntmps46 rfl (λw Z=>?_);unfold J3 at h;refine Ah (Bt rfl rfl (λb1=>?_));refine wa rfl (wa rfl (Al (Ao (Ah (vF AK rfl BZ (vL 0 Cb rfl (Al (AB (Ao (Ah (wv (Bx rfl rfl) (wa rfl (Al (cz h rfl (λc2 h3=>?_) (λc2 h8=>?_)))))))))))))))
 ·refine Av (AH (De rfl c2 (Ah (vF AK rfl CG (vL 0 CS rfl (ob h3 λr4 e6 h5=>Ct Tryz.call47 (Km F f.fValues r4 e6) rfl (wm rfl (wv (A7 rfl rfl) (wv (A7 rfl rfl) (wa rfl (wa rfl (AX (wm rfl (AO (ys:=([r4.1]:List (List Aa))) (enc:=Ae) (css:=[[AE 4 (A3 Ab r4.1)]]) (xs:=[.tmp 23]) BM BY Mo rfl rfl rfl ⟨DX.one rfl (Up.refl _),trivial⟩ rfl B5 rfl rfl rfl (λb7=>?_)))))))))))))));refine wm rfl (wa rfl (wa rfl (Al (Aq (An (Ac (WK.freeze (i:=0) rfl (WK.up (d:=2) (r:=AE 1 (A3 Ae ([r4.1]:List (List Aa)))) rfl (Up.fact (i:=0) rfl) ?_))))))));obtain rfl:=Am h5;exact Ap (DA QC (A9 rfl) (A9 rfl)) (sS (sS sN)) ⟨rfl,rfl⟩
 ·refine Ak (wv (Bx rfl rfl) (wa rfl (Al (cz h8 rfl (λc9 hg=>?_) (λc9 hh=>?_)))))
  ·refine Ah (vF AK rfl CG (vL 0 CS rfl (ob hg λha hi hj=>Ct Tryz.call47 (Km F f.fValues ha hi) rfl (wm rfl (wv (A7 rfl rfl) (wv (A7 rfl rfl) (wa rfl (wa rfl (AX (wm rfl (AO (ys:=([ha.1]:List (List Aa))) (enc:=Ae) (css:=[[AE 4 (A3 Ab ha.1)]]) (xs:=[.tmp 23]) BM BY Mo rfl rfl rfl ⟨DX.one rfl (Up.refl _),trivial⟩ rfl B5 rfl rfl rfl (λhx=>?_))))))))))));refine wm rfl (wa rfl (wa rfl (Al (Aq (An (Ac (WK.freeze (i:=0) rfl (WK.up (d:=2) (r:=AE 1 (A3 Ae ([ha.1]:List (List Aa)))) rfl (Up.fact (i:=0) rfl) ?_))))))));obtain rfl:=Am hj;exact Ap (DA QC (A9 rfl) (A9 rfl)) (sS (sS sN)) ⟨rfl,rfl⟩
  ·refine Ah (wv (Bx rfl rfl) (wa rfl (Al (cz hh rfl (λhk hl=>?_) (λhk hm=>?_)))))
   ·refine Ah (vF AK rfl CE (vL 0 CP rfl (ob hl λhb hn ho=>Ct QH (KG F f.fText hb hn) rfl (wm rfl (wv (A7 rfl rfl) (wv (A7 rfl rfl) (wa rfl (wa rfl (AX (wm rfl (AO (ys:=([hb.1]:List (List Aa))) (enc:=Ae) (css:=[[AE 4 (A3 Ab hb.1)]]) (xs:=[.tmp 34]) BM BY Mo rfl rfl rfl ⟨DX.one rfl (Up.refl _),trivial⟩ rfl B5 rfl rfl rfl (λhy=>?_))))))))))));refine wm rfl (wa rfl (wa rfl (Al (Aq (An (Ac (WK.freeze (i:=0) rfl (WK.up (d:=2) (r:=AE 1 (A3 Ae ([hb.1]:List (List Aa)))) rfl (Up.fact (i:=0) rfl) ?_))))))));obtain rfl:=Am ho;exact Ap (DA QC (A9 rfl) (A9 rfl)) (sS (sS sN)) ⟨rfl,rfl⟩
   ·refine Ah (wv (Bx rfl rfl) (wa rfl (Al (cz hm rfl (λhp hq=>?_) (λhp hr=>?_)))))
    ·refine Ah (vF AK rfl BH (vL 0 Cc rfl (ob hq λhe hs ht=>Ct Tryz.call85 (QS F f.fLow he hs) rfl (wm rfl (wv (A7 rfl rfl) (wv (A7 rfl rfl) (wa rfl (wa rfl (AX (vF AK rfl BH (vL 0 Cc rfl (ob ht λhf hu hw=>Ct Tryz.call85 (QS F f.fHigh hf hu) rfl (wm rfl (wv (A7 rfl rfl) (wv (A7 rfl rfl) (wa rfl (wa rfl (AX (wm rfl (wm rfl (AO (ys:=([he.1,hf.1]:List (List Aa))) (enc:=Ae) (css:=[[AE 4 (A3 Ab he.1)],[AE 4 (A3 Ab hf.1)]]) (xs:=[.tmp 51,.tmp 52]) BM BY Mo rfl rfl rfl ⟨DX.one rfl (Up.refl _),DX.one rfl (Up.refl _),trivial⟩ rfl B5 rfl rfl rfl (λhz=>?_))))))))))))))))))))));refine wm rfl (wm rfl (wv (Rv Tryz.underlying33 rfl rfl) (wa rfl (wa rfl (Al (Aq (An (Ac (WK.freeze (i:=0) rfl (WK.up (d:=2) (r:=AE 1 (A3 Ae ([he.1,hf.1]:List (List Aa)))) rfl (Up.fact (i:=0) rfl) ?_))))))))));obtain rfl:=Am hw;exact Ap (DA QC (A9 rfl) (A9 rfl)) (sS (sS sN)) ⟨rfl,rfl⟩
    ·refine Av (A8 (AH (Ah (wa rfl (wa rfl (Al (Aq (WK.up (d:=2) (r:=AE 1 (A3 Ae ([]:List (List Aa)))) rfl (Up.le (DB.nil _)) ?_))))))));obtain rfl:=Am hr;exact Ap (DA QC (A9 rfl) (A9 rfl)) (sS sN) ⟨rfl,rfl⟩
theorem Qn (F:Nat)(f:Af)(r:Ar×Int)(h:MH F f=some r):Fn Tryz.prog GE 19 [Bv (Ad f)] [] (λR H=>R=CW [rS r.1,Ai r.2]∧H=[]):=by
 refine enter (n:=61) Tryz.func19 rfl Tryz.ntmps19 rfl (λw Z=>?_);unfold MH at h;refine Ah (Bt rfl rfl (λb1=>?_));refine wv (r:=rS ([]:Ar)) (AD rfl) (wa rfl (Al (Ao (Ah (wv (AG (i:=0) BN B1 rfl rfl rfl rfl) (ob h λr2 e4 h3=>Ct QJ (HH F f r2 e4) rfl (wa rfl (AX (wm rfl (wv (Bg rfl rfl) (Al (cz h3 rfl (λc5 h6=>?_) (λc5 h7=>?_)))))))))))))
 ·refine Ah (wm rfl (wv (r:=rS ([]:Ar)) (AD rfl) (wa rfl (Al (Aq (Ac ?_))))));obtain rfl:=Am h6;exact Ap (DA P6 (A9 rfl) (A9 rfl)) (sS sN) ⟨rfl,rfl⟩
 ·refine Av (AH (Ah (vF AK rfl Gh (vL 0 Hx rfl (ob h7 λr8 hh h9=>Ct Tryz.call44 (Tg F f.fPath r8 hh) rfl (wm rfl (wv (A7 rfl rfl) (wv (A7 rfl rfl) (wa rfl (wa rfl (Al (Ao (Ah (wm rfl (wv (Bg rfl rfl) (Al (cz h9 rfl (λhi hj=>?_) (λhi hk=>?_))))))))))))))))))
  ·refine Ah (wm rfl (wv (r:=rS ([]:Ar)) (AD rfl) (wa rfl (Al (Aq (Ac ?_))))));obtain rfl:=Am hj;exact Ap (DA P6 (A9 rfl) (A9 rfl)) (sS sN) ⟨rfl,rfl⟩
  ·refine Av (AH (Ao (ob hk λhb hl hm=>ck hm λg17 hn=>ob hn λha ho hp=>Cz [1,5] [⟨[],AE 1 (A3 eS hb),0⟩,⟨[],rP b1 1,0⟩,⟨[1],Ai f.fOp,1⟩,⟨[0,2],Jm [rS (Ax hb f.fOp)],0⟩,⟨[3],rS (Ax hb f.fOp),0⟩,⟨[4],CW [AE 4 (A3 Ab ha.1),Ai ha.2],0⟩,⟨[5],CW [AE 4 (A3 Ab ha.1),Ai ha.2],0⟩,⟨[6],AE 4 (A3 Ab ha.1),0⟩,⟨[6],Ai ha.2,0⟩,⟨[7],AE 4 (A3 Ab ha.1),0⟩,⟨[8],Ai ha.2,0⟩] [7,6,1,5] ?_ ?_)))
   ·refine Dj rfl (λH=>Ec Tryz.call45 (NG hb hl) rfl) ?_;refine oq (AA AK rfl BZ rfl rfl) (of (Bb (i:=0) Cb rfl rfl rfl) (oq (AU (enc:=eS) (ys:=hb) CR CE rfl rfl g17) (oq (AJ CP rfl rfl) (Dj rfl (λH=>Ec QH (KG F (Ax hb f.fOp) ha ho) rfl) ?_))));refine oq (A4 rfl) (oq (A7 rfl rfl) (oq (A7 rfl rfl) (oq (AD rfl) (oq (AD rfl) ?_))));exact Cd
   refine AH (Ao (Ah (wm rfl (wv (Bg rfl rfl) (Al (cz hp rfl (λhq hr=>?_) (λhq hs=>?_)))))))
   ·refine Ah (wm rfl (wv (r:=rS ([]:Ar)) (AD rfl) (wa rfl (Al (Aq (Ac ?_))))));obtain rfl:=Am hr;exact Ap (DA P6 (A9 rfl) (A9 rfl)) (sS sN) ⟨rfl,rfl⟩
   ·refine Av (AH (Ah (wv (AG (i:=0) BN B1 rfl rfl rfl rfl) (ob hs λhe ht hu=>Ct Tryz.call46 (NF F f he ht) rfl (wm rfl (wv (A7 rfl rfl) (wv (A7 rfl rfl) (wa rfl (wa rfl (Al (Ao (Ah (wm rfl (wv (Bg rfl rfl) (Al (cz hu rfl (λhw hx=>?_) (λhw hy=>?_)))))))))))))))))
    ·refine Ah (wm rfl (wv (r:=rS ([]:Ar)) (AD rfl) (wa rfl (Al (Aq (Ac ?_))))));obtain rfl:=Am hx;exact Ap (DA P6 (A9 rfl) (A9 rfl)) (sS sN) ⟨rfl,rfl⟩
    ·refine Av (AH (Ah (wm rfl (wm rfl (AO (ys:=([r8.1,ha.1]:List (List Aa))) (enc:=Ae) (css:=[[AE 4 (A3 Ab r8.1)],[AE 4 (A3 Ab ha.1)]]) (xs:=[.tmp 45,.tmp 46]) BM BY Mo rfl rfl rfl ⟨DX.one rfl (Up.refl _),DX.one rfl (Up.refl _),trivial⟩ rfl B5 rfl rfl rfl (λhD=>?_))))));refine wm rfl (WL.freeze (i:=0) rfl (AO (ys:=([([r8.1,ha.1]:List (List Aa)),he.1]:List (List (List Aa)))) (enc:=Bo) (css:=[[AE 1 (A3 Ae ([r8.1,ha.1]:List (List Aa)))],[AE 1 (A3 Ae he.1)]]) (xs:=[.tmp 47,.tmp 48]) Q7 CG Tryz.zeroValue24 rfl rfl rfl ⟨DX.one rfl (Up.fact (i:=0) rfl),DX.one rfl (Up.refl _),trivial⟩ rfl Ie rfl rfl rfl (λhE=>?_)));refine WL.freeze (i:=0) rfl (WL.up (d:=49) (r:=AE 1 (A3 Bo ([([r8.1,ha.1]:List (List Aa)),he.1]:List (List (List Aa))))) rfl (Up.fact (i:=0) rfl) (ob hy λhf hz h0=>Ct Tryz.call48 (Oq F ([([r8.1,ha.1]:List (List Aa)),he.1]:List (List (List Aa))) hf hz) rfl (ob h0 λhg h1 h2=>Ct Tryz.call47 (Km F hf hg h1) rfl (wm rfl (wv (A7 rfl rfl) (wv (A7 rfl rfl) (wa rfl (wa rfl (Al (Ao (Ah (wm rfl (wv (Bg rfl rfl) (Al (cz h2 rfl (λh4 h5=>?_) (λh4 h8=>?_))))))))))))))))
     ·refine Ah (wm rfl (wv (r:=rS ([]:Ar)) (AD rfl) (wa rfl (Al (Aq (Ac ?_))))));obtain rfl:=Am h5;exact Ap (DA P6 (A9 rfl) (A9 rfl)) (sS (sS (sS sN))) ⟨rfl,rfl⟩
     ·refine Av (AH (Ah (wm rfl (ob h8 λhA hB hC=>Ct Tryz.call49 (PE F hg.1 hA hB) rfl (wv (A7 rfl rfl) (wv (A7 rfl rfl) (wa rfl (wa rfl (Al (Aq ?_))))))))));obtain rfl:=Am hC;exact Ap (DA P6 (A9 rfl) (A9 rfl)) (sS (sS (sS sN))) ⟨rfl,rfl⟩
theorem Qp (F:Nat)(f:Af)(l:(List (List Aa)))(r:Af×Bool)(h:MI F f l=some r):Fn Tryz.prog GE 58 [Bv (Ad f),AE 1 (A3 Ae l)] [] (λR H=>R=CW [Bv (Ad r.1),rB r.2]∧H=[]):=by
 refine enter (n:=87) Tryz.func58 rfl Tryz.ntmps58 rfl (λw Z=>?_);unfold MI at h;refine Ah (Bt rfl rfl (λb1=>?_));refine Ca (cs:=[rv (.slice none 0 0),Ai 0,rv (.slice none 0 0),rS ([]:Ar),Ai 0,Ai 0]) MY rfl rfl (λb2=>?_);refine wa rfl (AX (Oi rfl (λb3=>?_)));refine AO (ys:=([5]:List Int)) (enc:=BO) (css:=[[Ai 5]]) (xs:=[.const (.int .i64 5)]) KB Dw Sv rfl rfl rfl ⟨DX.one rfl (Up.refl _),trivial⟩ rfl Hh rfl rfl rfl (λb4=>?_);refine WL.freeze (i:=0) rfl (WL.up (d:=12) (r:=AE 1 (A3 BO ([5]:List Int))) rfl (Up.fact (i:=0) rfl) (GR (enc:=CI) (xs:=([]:List (Int×(List Int)))) (v:=([5]:List Int)) (i:=1) MZ Q8 rfl rfl rfl rfl rfl (H':=[.fact (.slice (some ⟨b4,0,none⟩) 1 1) (AE 1 (A3 BO ([5]:List Int))),.imap b3 (EP CI (([]:List (Int×(List Int)))++[(3,([5]:List Int))])),.blk b2 [rv (.slice none 0 0),Ai 0,rv (.slice none 0 0),rS ([]:Ar),Ai 0,Ai 0] 26,.blk b1 (Ad f) 26]) rfl (AO (ys:=([5]:List Int)) (enc:=BO) (css:=[[Ai 5]]) (xs:=[.const (.int .i64 5)]) KB Dw Sv rfl rfl rfl ⟨DX.one rfl (Up.refl _),trivial⟩ rfl Hh rfl rfl rfl (λb5=>?_))));refine WL.freeze (i:=0) rfl (WL.up (d:=13) (r:=AE 1 (A3 BO ([5]:List Int))) rfl (Up.fact (i:=0) rfl) (GR (enc:=CI) (xs:=([]:List (Int×(List Int)))++[(3,([5]:List Int))]) (v:=([5]:List Int)) (i:=2) MZ Q8 rfl rfl rfl rfl rfl (H':=[.fact (.slice (some ⟨b5,0,none⟩) 1 1) (AE 1 (A3 BO ([5]:List Int))),.fact (.slice (some ⟨b4,0,none⟩) 1 1) (AE 1 (A3 BO ([5]:List Int))),.imap b3 (EP CI ((([]:List (Int×(List Int)))++[(3,([5]:List Int))])++[(4,([5]:List Int))])),.blk b2 [rv (.slice none 0 0),Ai 0,rv (.slice none 0 0),rS ([]:Ar),Ai 0,Ai 0] 26,.blk b1 (Ad f) 26]) rfl (AO (ys:=([4]:List Int)) (enc:=BO) (css:=[[Ai 4]]) (xs:=[.const (.int .i64 4)]) KB Dw Sv rfl rfl rfl ⟨DX.one rfl (Up.refl _),trivial⟩ rfl Hh rfl rfl rfl (λb6=>?_))));refine WL.freeze (i:=0) rfl (WL.up (d:=14) (r:=AE 1 (A3 BO ([4]:List Int))) rfl (Up.fact (i:=0) rfl) (GR (enc:=CI) (xs:=(([]:List (Int×(List Int)))++[(3,([5]:List Int))])++[(4,([5]:List Int))]) (v:=([4]:List Int)) (i:=3) MZ Q8 rfl rfl rfl rfl rfl (H':=[.fact (.slice (some ⟨b6,0,none⟩) 1 1) (AE 1 (A3 BO ([4]:List Int))),.fact (.slice (some ⟨b5,0,none⟩) 1 1) (AE 1 (A3 BO ([5]:List Int))),.fact (.slice (some ⟨b4,0,none⟩) 1 1) (AE 1 (A3 BO ([5]:List Int))),.imap b3 (EP CI (((([]:List (Int×(List Int)))++[(3,([5]:List Int))])++[(4,([5]:List Int))])++[(5,([4]:List Int))])),.blk b2 [rv (.slice none 0 0),Ai 0,rv (.slice none 0 0),rS ([]:Ar),Ai 0,Ai 0] 26,.blk b1 (Ad f) 26]) rfl (AO (ys:=([3,3]:List Int)) (enc:=BO) (css:=[[Ai 3],[Ai 3]]) (xs:=[.const (.int .i64 3),.const (.int .i64 3)]) KB Dw Sv rfl rfl rfl ⟨DX.one rfl (Up.refl _),DX.one rfl (Up.refl _),trivial⟩ rfl Hh rfl rfl rfl (λb7=>?_))));refine WL.freeze (i:=0) rfl (WL.up (d:=15) (r:=AE 1 (A3 BO ([3,3]:List Int))) rfl (Up.fact (i:=0) rfl) (GR (enc:=CI) (xs:=((([]:List (Int×(List Int)))++[(3,([5]:List Int))])++[(4,([5]:List Int))])++[(5,([4]:List Int))]) (v:=([3,3]:List Int)) (i:=4) MZ Q8 rfl rfl rfl rfl rfl (H':=[.fact (.slice (some ⟨b7,0,none⟩) 2 2) (AE 1 (A3 BO ([3,3]:List Int))),.fact (.slice (some ⟨b6,0,none⟩) 1 1) (AE 1 (A3 BO ([4]:List Int))),.fact (.slice (some ⟨b5,0,none⟩) 1 1) (AE 1 (A3 BO ([5]:List Int))),.fact (.slice (some ⟨b4,0,none⟩) 1 1) (AE 1 (A3 BO ([5]:List Int))),.imap b3 (EP CI ((((([]:List (Int×(List Int)))++[(3,([5]:List Int))])++[(4,([5]:List Int))])++[(5,([4]:List Int))])++[(6,([3,3]:List Int))])),.blk b2 [rv (.slice none 0 0),Ai 0,rv (.slice none 0 0),rS ([]:Ar),Ai 0,Ai 0] 26,.blk b1 (Ad f) 26]) rfl (wm rfl (vF AK rfl BZ (vL 6 Cb rfl (wv (r:=AE 1 (A3 BO (EZ ((((([]:List (Int×(List Int)))++[(3,([5]:List Int))])++[(4,([5]:List Int))])++[(5,([4]:List Int))])++[(6,([3,3]:List Int))]) f.fOp ([]:(List Int))))) (TX (enc:=CI) (xs:=(((([]:List (Int×(List Int)))++[(3,([5]:List Int))])++[(4,([5]:List Int))])++[(5,([4]:List Int))])++[(6,([3,3]:List Int))]) (z:=([]:(List Int))) (i:=4) MZ Q8 Tryz.zeroValue110 N4 rfl rfl rfl) (wa rfl (Al (Ao (Ah (wm rfl (wv (AL (ys:=EZ ((((([]:List (Int×(List Int)))++[(3,([5]:List Int))])++[(4,([5]:List Int))])++[(5,([4]:List Int))])++[(6,([3,3]:List Int))]) f.fOp ([]:(List Int))) (enc:=BO) KB rfl) (wm rfl (wv (AL (ys:=l) (enc:=Ae) BM rfl) (wv (Bg rfl rfl) (Al (cz h rfl (λc8 h9=>?_) (λc8 hj=>?_))))))))))))))))))
 ·refine Ah (wv (AG (i:=6) BN B1 rfl rfl rfl rfl) (Ba (i:=5) B1 rfl rfl rfl (BB.c rfl) rfl rfl (cs':=[AE 1 (A3 eS f.fPath),Ai f.fOp,AE 1 (A3 Ae f.fValues),rS f.fText,Ai f.fLow,Ai f.fHigh]) rfl (H':=[.fact (.slice (some ⟨b7,0,none⟩) 2 2) (AE 1 (A3 BO ([3,3]:List Int))),.fact (.slice (some ⟨b6,0,none⟩) 1 1) (AE 1 (A3 BO ([4]:List Int))),.fact (.slice (some ⟨b5,0,none⟩) 1 1) (AE 1 (A3 BO ([5]:List Int))),.fact (.slice (some ⟨b4,0,none⟩) 1 1) (AE 1 (A3 BO ([5]:List Int))),.imap b3 (EP CI ((((([]:List (Int×(List Int)))++[(3,([5]:List Int))])++[(4,([5]:List Int))])++[(5,([4]:List Int))])++[(6,([3,3]:List Int))])),.blk b2 (Ad f) 26,.blk b1 (Ad f) 26]) rfl (wa rfl (Al (Aq (Ac ?_))))));obtain rfl:=Am h9;exact Ap (DA Od (DE (i:=5) BN B1 rfl rfl rfl) (A9 rfl)) (sS (sS (sS (sS (sS (sS (sS sN))))))) ⟨rfl,rfl⟩
 ·refine Av (AH (Ao (Ah (wm rfl (wv (AL (ys:=EZ ((((([]:List (Int×(List Int)))++[(3,([5]:List Int))])++[(4,([5]:List Int))])++[(5,([4]:List Int))])++[(6,([3,3]:List Int))]) f.fOp ([]:(List Int))) (enc:=BO) KB rfl) (wv (r:=Ai 0) (A4 rfl) (Al (AB (ob hj λhk hl hi=>Bi (S:=Nat×(Int)×(Unit)) (V:=(Unit)×(Unit)) 0 (λσ=>BW (λσ=>Hb f l σ) σ.1 σ.2.1=some hk) (λσ=>[(1,AE 1 (A3 Ae l)),(2,rP b1 0),(4,rP b2 0),(26,AE 1 (A3 BO (EZ ((((([]:List (Int×(List Int)))++[(3,([5]:List Int))])++[(4,([5]:List Int))])++[(5,([4]:List Int))])++[(6,([3,3]:List Int))]) f.fOp ([]:(List Int))))),(27,Ai ((EZ ((((([]:List (Int×(List Int)))++[(3,([5]:List Int))])++[(4,([5]:List Int))])++[(5,([4]:List Int))])++[(6,([3,3]:List Int))]) f.fOp ([]:(List Int))).length:Int)),(28,Ai σ.2.1)]) (λσ=>[.blk b2 [rv (.slice none 0 0),Ai 0,rv (.slice none 0 0),rS ([]:Ar),Ai 0,Ai 0] 26,.blk b1 (Ad f) 26]) (λσ=>σ.1) (F,0,()) hl (A5.c rfl (A5.c5 rfl rfl rfl rfl rfl A5.nil)) (sS (sS (sS (sS (sS (sC (sC sN))))))) (λσ=>Ha F f l =some r) (λσ=>[(1,AE 1 (A3 Ae l)),(2,rP b1 0),(4,rP b2 0)]) (λσ=>[.blk b2 [rv (.slice none 0 0),Ai 0,rv (.slice none 0 0),rS ([]:Ar),Ai 0,Ai 0] 26,.blk b1 (Ad f) 26]) ?_ ?_)))))))))
  ·rintro⟨gf,he,⟨⟩⟩ hm;refine B3 (l':=[(1,AE 1 (A3 Ae l)),(2,rP b1 0),(4,rP b2 0),(26,AE 1 (A3 BO (EZ ((((([]:List (Int×(List Int)))++[(3,([5]:List Int))])++[(4,([5]:List Int))])++[(5,([4]:List Int))])++[(6,([3,3]:List Int))]) f.fOp ([]:(List Int))))),(27,Ai ((EZ ((((([]:List (Int×(List Int)))++[(3,([5]:List Int))])++[(4,([5]:List Int))])++[(5,([4]:List Int))])++[(6,([3,3]:List Int))]) f.fOp ([]:(List Int))).length:Int)),(28,Ai he)]) (H':=[.blk b2 [rv (.slice none 0 0),Ai 0,rv (.slice none 0 0),rS ([]:Ar),Ai 0,Ai 0] 26,.blk b1 (Ad f) 26]) rfl rfl ?_;obtain⟨hn,rfl,ho,hf,hh⟩:=Ch hm;replace hf:Hb f l he=some ho:=hf;unfold Hb at hf;refine Ah (wv (Cr rfl rfl) (Al (Ao (cz hf rfl (λhp hq=>?_) (λhp hr=>?_)))))
   ·refine Av (AH (Ao (AB (Ah (wm rfl (ck hq λhs ht=>wv (AU (enc:=BO) (ys:=EZ ((((([]:List (Int×(List Int)))++[(3,([5]:List Int))])++[(4,([5]:List Int))])++[(5,([4]:List Int))])++[(6,([3,3]:List Int))]) f.fOp ([]:(List Int))) KB Dw rfl rfl hs) (wv (AJ DN rfl rfl) (wa rfl (wa rfl (AX (wm rfl (wm rfl (ck ht λhu hw=>wv (AU (enc:=Ae) (ys:=l) BM BY rfl rfl hu) (wv (AJ CC rfl rfl) (ck hw λhx hy=>wv (AU (enc:=Ab) (ys:=Ax l he) B0 BI rfl rfl hx) (wv (AQ B9 rfl Dw rfl rfl) (wv (AJ DN rfl rfl) (wm rfl (wv (Bg rfl rfl) (Al ?_))))))))))))))))))));refine cz hy rfl (λhz h0=>?_) (λhz h1=>?_)
    ·refine Ah (wv (AG (i:=1) BN B1 rfl rfl rfl rfl) (Ba (i:=0) B1 rfl rfl rfl (BB.c rfl) rfl rfl (cs':=[AE 1 (A3 eS f.fPath),Ai f.fOp,AE 1 (A3 Ae f.fValues),rS f.fText,Ai f.fLow,Ai f.fHigh]) rfl (H':=[.blk b2 (Ad f) 26,.blk b1 (Ad f) 26]) rfl (wa rfl (Al (Aq (An (Ac (Ac (AN ?_)))))))));have h2:=Bh h0 hh hi;refine An (Ac ?_);obtain rfl:=Am h2;exact Ap (DA Od (DE (i:=0) BN B1 rfl rfl rfl) (A9 rfl)) (sS (sS sN)) ⟨rfl,rfl⟩
    ·refine Av (A8 (AH (Ak (ck h1 λh3 h4=>wv (Bk rfl rfl h3) (wm rfl (Aj ?_))))));have h5:=Bc h4 hh;exact As (At (hn,he+1,()) ⟨h5,VO _⟩ (A5.c rfl (A5.c5 rfl rfl rfl rfl rfl A5.nil)) (sC (sC sN)))
   ·refine Bs (A0 ?_);have h6:=BF hr hh hi;exact A0 (AS (At ((),()) h6 (A5.c rfl (A5.c rfl (A5.c rfl A5.nil))) (sC (sC sN))))
  ·rintro⟨⟨⟩,⟨⟩⟩ hg;refine Cj (l':=[(1,AE 1 (A3 Ae l)),(2,rP b1 0),(4,rP b2 0)]) (H':=[.blk b2 [rv (.slice none 0 0),Ai 0,rv (.slice none 0 0),rS ([]:Ar),Ai 0,Ai 0] 26,.blk b1 (Ad f) 26]) rfl rfl ?_;replace hg:Ha F f l =some r:=hg;unfold Ha at hg;refine AW (AH (Ao (Ah (vF AK rfl BZ (vL 1 Cb rfl (Al (AB (Ao (Ah (wv (Bx rfl rfl) (wa rfl (Al (cz hg rfl (λc80 h7=>?_) (λc80 h8=>?_))))))))))))))
   ·refine Av (AH (De rfl c80 (Ah (wm rfl (ck h7 λhA hB=>wv (AU (enc:=Ae) (ys:=l) BM BY rfl rfl hA) (wv (AJ CC rfl rfl) (ob hB λha hC hD=>Ct Tryz.call56 (IG F (Ax l 0) ha hC) rfl (wm rfl (wv (A7 rfl rfl) (wv (A7 rfl rfl) (wa rfl (wa rfl (AX (wm rfl (vF AK rfl CG (Bu (i:=1) CG rfl rfl (B2 rfl) rfl rfl (cs':=[AE 1 (A3 eS f.fPath),Ai f.fOp,AE 1 (A3 Ae ha.1),rS f.fText,Ai f.fLow,Ai f.fHigh]) rfl (H':=[.blk b2 [rv (.slice none 0 0),Ai 0,rv (.slice none 0 0),rS ([]:Ar),Ai 0,Ai 0] 26,.blk b1 [AE 1 (A3 eS f.fPath),Ai f.fOp,AE 1 (A3 Ae ha.1),rS f.fText,Ai f.fLow,Ai f.fHigh] 26]) rfl (AX (wv (AG (i:=1) BN B1 rfl rfl rfl rfl) (wm rfl (wv (Bx rfl rfl) (Ba (i:=0) B1 rfl rfl rfl (BB.c rfl) rfl rfl (cs':=[AE 1 (A3 eS f.fPath),Ai f.fOp,AE 1 (A3 Ae ha.1),rS f.fText,Ai f.fLow,Ai f.fHigh]) rfl (H':=[.blk b2 [AE 1 (A3 eS f.fPath),Ai f.fOp,AE 1 (A3 Ae ha.1),rS f.fText,Ai f.fLow,Ai f.fHigh] 26,.blk b1 [AE 1 (A3 eS f.fPath),Ai f.fOp,AE 1 (A3 Ae ha.1),rS f.fText,Ai f.fLow,Ai f.fHigh] 26]) rfl ?_)))))))))))))))))))));refine wa rfl (Al (Aq (An (Ac ?_))));obtain rfl:=Am hD;exact Ap (DA Od (DE (i:=0) BN B1 rfl rfl rfl) (A9 rfl)) (sS (sS sN)) ⟨rfl,rfl⟩
   ·refine Ak (wv (Bx rfl rfl) (wa rfl (Al (cz h8 rfl (λhE hG=>?_) (λhE hH=>?_)))))
    ·refine Ah (wm rfl (ck hG λhI hJ=>wv (AU (enc:=Ae) (ys:=l) BM BY rfl rfl hI) (wv (AJ CC rfl rfl) (ob hJ λhb hK hL=>Ct Tryz.call56 (IG F (Ax l 0) hb hK) rfl (wm rfl (wv (A7 rfl rfl) (wv (A7 rfl rfl) (wa rfl (wa rfl (AX (wm rfl (vF AK rfl CG (Bu (i:=1) CG rfl rfl (B2 rfl) rfl rfl (cs':=[AE 1 (A3 eS f.fPath),Ai f.fOp,AE 1 (A3 Ae hb.1),rS f.fText,Ai f.fLow,Ai f.fHigh]) rfl (H':=[.blk b2 [rv (.slice none 0 0),Ai 0,rv (.slice none 0 0),rS ([]:Ar),Ai 0,Ai 0] 26,.blk b1 [AE 1 (A3 eS f.fPath),Ai f.fOp,AE 1 (A3 Ae hb.1),rS f.fText,Ai f.fLow,Ai f.fHigh] 26]) rfl (AX (wv (AG (i:=1) BN B1 rfl rfl rfl rfl) (wm rfl (wv (Bx rfl rfl) (Ba (i:=0) B1 rfl rfl rfl (BB.c rfl) rfl rfl (cs':=[AE 1 (A3 eS f.fPath),Ai f.fOp,AE 1 (A3 Ae hb.1),rS f.fText,Ai f.fLow,Ai f.fHigh]) rfl (H':=[.blk b2 [AE 1 (A3 eS f.fPath),Ai f.fOp,AE 1 (A3 Ae hb.1),rS f.fText,Ai f.fLow,Ai f.fHigh] 26,.blk b1 [AE 1 (A3 eS f.fPath),Ai f.fOp,AE 1 (A3 Ae hb.1),rS f.fText,Ai f.fLow,Ai f.fHigh] 26]) rfl (wa rfl (Al (Aq ?_)))))))))))))))))))));refine An (Ac ?_);obtain rfl:=Am hL;exact Ap (DA Od (DE (i:=0) BN B1 rfl rfl rfl) (A9 rfl)) (sS (sS sN)) ⟨rfl,rfl⟩
    ·refine Ah (wv (Bx rfl rfl) (wa rfl (Al (cz hH rfl (λhN hO=>?_) (λhN hP=>?_)))))
     ·refine Ak (wm rfl (ck hO λhQ hR=>wv (AU (enc:=Ae) (ys:=l) BM BY rfl rfl hQ) (wv (AJ CC rfl rfl) (ck hR λhS hT=>wv (AU (enc:=Ab) (ys:=Ax l 0) B0 BI rfl rfl hS) (wv (AQ B9 rfl CE rfl rfl) (wv (AJ CP rfl rfl) (vF AK rfl CE (Bu (i:=1) CE rfl rfl (B2 rfl) rfl rfl (cs':=[AE 1 (A3 eS f.fPath),Ai f.fOp,AE 1 (A3 Ae f.fValues),rS ((Ax (Ax l 0) 0).fStr),Ai f.fLow,Ai f.fHigh]) rfl (H':=[.blk b2 [rv (.slice none 0 0),Ai 0,rv (.slice none 0 0),rS ([]:Ar),Ai 0,Ai 0] 26,.blk b1 [AE 1 (A3 eS f.fPath),Ai f.fOp,AE 1 (A3 Ae f.fValues),rS ((Ax (Ax l 0) 0).fStr),Ai f.fLow,Ai f.fHigh] 26]) rfl (Aj (A8 (AH (Ah (wv (AG (i:=1) BN B1 rfl rfl rfl rfl) (Ba (i:=0) B1 rfl rfl rfl (BB.c rfl) rfl rfl (cs':=[AE 1 (A3 eS f.fPath),Ai f.fOp,AE 1 (A3 Ae f.fValues),rS ((Ax (Ax l 0) 0).fStr),Ai f.fLow,Ai f.fHigh]) rfl (H':=[.blk b2 [AE 1 (A3 eS f.fPath),Ai f.fOp,AE 1 (A3 Ae f.fValues),rS ((Ax (Ax l 0) 0).fStr),Ai f.fLow,Ai f.fHigh] 26,.blk b1 [AE 1 (A3 eS f.fPath),Ai f.fOp,AE 1 (A3 Ae f.fValues),rS ((Ax (Ax l 0) 0).fStr),Ai f.fLow,Ai f.fHigh] 26]) rfl (wa rfl (Al (Aq ?_)))))))))))))))));obtain rfl:=Am hT;exact Ap (DA Od (DE (i:=0) BN B1 rfl rfl rfl) (A9 rfl)) (sS (sS sN)) ⟨rfl,rfl⟩
     ·refine Ah (wv (Bx rfl rfl) (wa rfl (Al (cz hP rfl (λhU hV=>?_) (λhU hW=>?_)))))
      ·refine ck hV λhX hY=>ck hY λhZ ga=>ck ga λgb gc=>ck gc λgd ge=>Eh (H1:=[.blk b2 [rv (.slice none 0 0),Ai 0,rv (.slice none 0 0),rS ([]:Ar),Ai 0,Ai 0] 26,.blk b1 [AE 1 (A3 eS f.fPath),Ai f.fOp,AE 1 (A3 Ae f.fValues),rS f.fText,Ai ((Ax (Ax l 0) 0).fInt),Ai ((Ax (Ax l 1) 0).fInt)] 26]) [1,2,4] [⟨[],AE 1 (A3 Ae l),0⟩,⟨[0],Jm [AE 4 (A3 Ab (Ax l 0))],0⟩,⟨[1],AE 4 (A3 Ab (Ax l 0)),0⟩,⟨[2],Jm (Ab (Ax (Ax l 0) 0)),0⟩,⟨[3],Jm [Ai ((Ax (Ax l 0) 0).fInt),rS ((Ax (Ax l 0) 0).fStr),Ai ((Ax (Ax l 0) 0).fN)],0⟩,⟨[4],Ai ((Ax (Ax l 0) 0).fInt),0⟩,⟨[],AE 1 (A3 Ae l),0⟩,⟨[6],Jm [AE 4 (A3 Ab (Ax l 1))],0⟩,⟨[7],AE 4 (A3 Ab (Ax l 1)),0⟩,⟨[8],Jm (Ab (Ax (Ax l 1) 0)),0⟩,⟨[9],Jm [Ai ((Ax (Ax l 1) 0).fInt),rS ((Ax (Ax l 1) 0).fStr),Ai ((Ax (Ax l 1) 0).fN)],0⟩,⟨[10],Ai ((Ax (Ax l 1) 0).fInt),0⟩,⟨[],rP b1 4,0⟩,⟨[12,5],rv undef,2⟩,⟨[],rP b1 5,0⟩,⟨[14,11],rv undef,2⟩] (rle [(14,_),(2,[.blk b2 [rv (.slice none 0 0),Ai 0,rv (.slice none 0 0),rS ([]:Ar),Ai 0,Ai 0] 26,.blk b1 [AE 1 (A3 eS f.fPath),Ai f.fOp,AE 1 (A3 Ae f.fValues),rS f.fText,Ai ((Ax (Ax l 0) 0).fInt),Ai f.fHigh] 26]),(1,[.blk b2 [rv (.slice none 0 0),Ai 0,rv (.slice none 0 0),rS ([]:Ar),Ai 0,Ai 0] 26,.blk b1 [AE 1 (A3 eS f.fPath),Ai f.fOp,AE 1 (A3 Ae f.fValues),rS f.fText,Ai ((Ax (Ax l 0) 0).fInt),Ai ((Ax (Ax l 1) 0).fInt)] 26])]) [2,4] ?_ ?_
       ·refine oq (A4 rfl) (oq (AU (enc:=Ae) (ys:=l) BM BY rfl rfl hX) (oq (AJ CC rfl rfl) (oq (AU (enc:=Ab) (ys:=Ax l 0) B0 BI rfl rfl hZ) (oq (AQ B9 rfl BH rfl rfl) (oq (AJ Cc rfl rfl) (oq (A4 rfl) (oq (AU (enc:=Ae) (ys:=l) BM BY rfl rfl gb) (oq (AJ CC rfl rfl) (oq (AU (enc:=Ab) (ys:=Ax l 1) B0 BI rfl rfl gd) (oq (AQ B9 rfl BH rfl rfl) (oq (AJ Cc rfl rfl) (oq (AA AK rfl BH rfl rfl) (Hp rfl (LH (Ib (i:=1) BH rfl rfl (B2 rfl) rfl rfl (cs':=[AE 1 (A3 eS f.fPath),Ai f.fOp,AE 1 (A3 Ae f.fValues),rS f.fText,Ai ((Ax (Ax l 0) 0).fInt),Ai f.fHigh]) rfl (H':=[.blk b2 [rv (.slice none 0 0),Ai 0,rv (.slice none 0 0),rS ([]:Ar),Ai 0,Ai 0] 26,.blk b1 [AE 1 (A3 eS f.fPath),Ai f.fOp,AE 1 (A3 Ae f.fValues),rS f.fText,Ai ((Ax (Ax l 0) 0).fInt),Ai f.fHigh] 26]) rfl)) ?_)))))))))))));refine oq (AA AK rfl BH rfl rfl) (Hp rfl (LH (Ib (i:=1) BH rfl rfl (B2 rfl) rfl rfl (cs':=[AE 1 (A3 eS f.fPath),Ai f.fOp,AE 1 (A3 Ae f.fValues),rS f.fText,Ai ((Ax (Ax l 0) 0).fInt),Ai ((Ax (Ax l 1) 0).fInt)]) rfl (H':=[.blk b2 [rv (.slice none 0 0),Ai 0,rv (.slice none 0 0),rS ([]:Ar),Ai 0,Ai 0] 26,.blk b1 [AE 1 (A3 eS f.fPath),Ai f.fOp,AE 1 (A3 Ae f.fValues),rS f.fText,Ai ((Ax (Ax l 0) 0).fInt),Ai ((Ax (Ax l 1) 0).fInt)] 26]) rfl)) ?_);exact Cd
       refine A8 (AH (Ah (wv (AG (i:=1) BN B1 rfl rfl rfl rfl) (Ba (i:=0) B1 rfl rfl rfl (BB.c rfl) rfl rfl (cs':=[AE 1 (A3 eS f.fPath),Ai f.fOp,AE 1 (A3 Ae f.fValues),rS f.fText,Ai ((Ax (Ax l 0) 0).fInt),Ai ((Ax (Ax l 1) 0).fInt)]) rfl (H':=[.blk b2 [AE 1 (A3 eS f.fPath),Ai f.fOp,AE 1 (A3 Ae f.fValues),rS f.fText,Ai ((Ax (Ax l 0) 0).fInt),Ai ((Ax (Ax l 1) 0).fInt)] 26,.blk b1 [AE 1 (A3 eS f.fPath),Ai f.fOp,AE 1 (A3 Ae f.fValues),rS f.fText,Ai ((Ax (Ax l 0) 0).fInt),Ai ((Ax (Ax l 1) 0).fInt)] 26]) rfl (wa rfl (Al (Aq ?_)))))));obtain rfl:=Am ge;exact Ap (DA Od (DE (i:=0) BN B1 rfl rfl rfl) (A9 rfl)) (sS (sS sN)) ⟨rfl,rfl⟩
      ·refine Av (A8 (AH (Ah (wv (AG (i:=1) BN B1 rfl rfl rfl rfl) (Ba (i:=0) B1 rfl rfl rfl (BB.c rfl) rfl rfl (cs':=[AE 1 (A3 eS f.fPath),Ai f.fOp,AE 1 (A3 Ae f.fValues),rS f.fText,Ai f.fLow,Ai f.fHigh]) rfl (H':=[.blk b2 (Ad f) 26,.blk b1 (Ad f) 26]) rfl (wa rfl (Al (Aq ?_))))))));obtain rfl:=Am hW;exact Ap (DA Od (DE (i:=0) BN B1 rfl rfl rfl) (A9 rfl)) (sS (sS sN)) ⟨rfl,rfl⟩
theorem RA (F:Nat)(s:Ar)(r:Af×Int)(h:O4 F s=some r):Fn Tryz.prog GE 21 [rS s] [] (λR H=>R=CW [Bv (Ad r.1),Ai r.2]∧H=[]):=by
 refine enter (n:=125) Tryz.func21 rfl Tryz.ntmps21 rfl (λw Z=>?_);unfold O4 at h;refine Ah (Ca (cs:=[rv (.slice none 0 0),Ai 0,rv (.slice none 0 0),rS ([]:Ar),Ai 0,Ai 0]) MY rfl rfl (λb1=>?_));refine wa rfl (AX (wv (r:=Bv [rv (.slice none 0 0),Ai 0,rv (.slice none 0 0),rS ([]:Ar),Ai 0,Ai 0]) (Oz ) (Ca (cs:=[rv (.slice none 0 0),Ai 0,rv (.slice none 0 0),rS ([]:Ar),Ai 0,Ai 0]) MY rfl rfl (λb2=>?_))));refine Ba (i:=0) B1 rfl rfl rfl (BB.c rfl) rfl rfl (cs':=[rv (.slice none 0 0),Ai 0,rv (.slice none 0 0),rS ([]:Ar),Ai 0,Ai 0]) rfl (H':=[.blk b2 [rv (.slice none 0 0),Ai 0,rv (.slice none 0 0),rS ([]:Ar),Ai 0,Ai 0] 26,.blk b1 [rv (.slice none 0 0),Ai 0,rv (.slice none 0 0),rS ([]:Ar),Ai 0,Ai 0] 26]) rfl (AX (wm rfl (ob h λr3 e5 h4=>Ct Tryz.call55 (PF F s r3 e5) rfl (wm rfl (wv (A7 rfl rfl) (wv (A7 rfl rfl) (wa rfl (wa rfl (Al (Ao (Ah (wm rfl (wv (Bg rfl rfl) (Al (cz h4 rfl (λc6 h7=>?_) (λc6 h8=>?_))))))))))))))))
 ·refine Ah (wv (AG (i:=0) BN B1 rfl rfl rfl rfl) (wm rfl (Ba (i:=1) B1 rfl rfl rfl (BB.c rfl) rfl rfl (cs':=[rv (.slice none 0 0),Ai 0,rv (.slice none 0 0),rS ([]:Ar),Ai 0,Ai 0]) rfl (H':=[.blk b2 [rv (.slice none 0 0),Ai 0,rv (.slice none 0 0),rS ([]:Ar),Ai 0,Ai 0] 26,.blk b1 [rv (.slice none 0 0),Ai 0,rv (.slice none 0 0),rS ([]:Ar),Ai 0,Ai 0] 26]) rfl (wa rfl (Al (Aq (Ac (WK.upBlk (i:=1) (cs':=[AE 1 (A3 eS ([]:List Ar)),Ai 0,AE 1 (A3 Ae ([]:List (List Aa))),rS ([]:Ar),Ai 0,Ai 0]) rfl ⟨Up.le (DB.nil _),Up.refl _,Up.le (DB.nil _),Up.refl _,Up.refl _,Up.refl _,trivial⟩ ?_))))))));obtain rfl:=Am h7;exact Ap (DA Of (DE (i:=1) BN B1 rfl rfl rfl) (A9 rfl)) (sS (sS sN)) ⟨rfl,rfl⟩
 ·refine Av (AH (Ah (wm rfl (ob h8 λr9 hy hz=>Ct Tryz.call56 (IG F r3.1 r9 hy) rfl (wm rfl (wv (A7 rfl rfl) (wv (A7 rfl rfl) (wa rfl (wa rfl (Al (Ao (ck hz λh0 h1=>ck h1 λh2 h3=>ck h3 λg16 h5=>ck h5 λg18 h6=>ck h6 λh9 hA=>AM [(2,rP b1 0),(4,rP b2 0),(7,AE 1 (A3 Ae r9.1)),(60,rB ((!decide (r9.2=0))||((!decide (((Ax r3.1 0).fKind)=5))||((decide ((r9.1.length:Int)<2))||((!decide (((Ax (Ax r9.1 0) 0).fKind)=5))||(!decide (((Ax (Ax r9.1 1) 0).fKind)=4)))))))] [.blk b2 [rv (.slice none 0 0),Ai 0,rv (.slice none 0 0),rS ([]:Ar),Ai 0,Ai 0] 26,.blk b1 [rv (.slice none 0 0),Ai 0,rv (.slice none 0 0),rS ([]:Ar),Ai 0,Ai 0] 26] ?_ ?_))))))))))))
  ·refine Ak (wm rfl (wv (Bg rfl rfl) (wm rfl (AV (!decide (r9.2=0)) (λhf=>?_) (λhf=>?_)))))
   ·refine wf hf (wf hf (wf hf (wf hf (wf hf (wv (r:=rB true) (Ay rfl hf rfl) (wm rfl (wz rfl rfl (wz rfl rfl (wz rfl rfl (wv (r:=rB true) (Ay (b:=true) rfl rfl rfl) (wm rfl (wz rfl rfl (wz rfl rfl (wz rfl rfl (wz rfl rfl (wz rfl rfl (wz rfl rfl (wz rfl rfl (wv (r:=rB true) (Ay (b:=true) rfl rfl rfl) (wm rfl (wz rfl rfl (wz rfl rfl (wz rfl rfl ?_)))))))))))))))))))))));refine wz rfl rfl (wz rfl rfl (wz rfl rfl (wz rfl rfl (wv (r:=rB true) (Ay (b:=true) rfl rfl rfl) (Aj ?_)))));exact Cq hf
   ·refine wo hf (wm rfl (wo hf (wv (AU (enc:=Ab) (ys:=r3.1) B0 BI rfl rfl (C2 h0 hf)) (wo hf (wv (AQ B9 rfl Dw rfl rfl) (wo hf (wv (AJ DN rfl rfl) (wo hf (wv (Bg rfl rfl) (Co rfl hf rfl (wm rfl (AV (!decide (((Ax r3.1 0).fKind)=5)) (λhi=>?_) (λhi=>?_)))))))))))))
    ·refine wf hi (wf hi (wf hi (wv (r:=rB true) (Ay rfl hi rfl) (wm rfl (wz rfl rfl (wz rfl rfl (wz rfl rfl (wz rfl rfl (wz rfl rfl (wz rfl rfl (wz rfl rfl (wv (r:=rB true) (Ay (b:=true) rfl rfl rfl) (wm rfl (wz rfl rfl (wz rfl rfl (wz rfl rfl (wz rfl rfl (wz rfl rfl (wz rfl rfl (wz rfl rfl (wv (r:=rB true) (Ay (b:=true) rfl rfl rfl) (Aj ?_))))))))))))))))))))));exact Cq (And.intro hf hi)
    ·refine wo hi (wm rfl (wo hi (wv (AL (ys:=r9.1) (enc:=Ae) BM rfl) (wo hi (wv (Cr rfl rfl) (Co rfl hi rfl (wm rfl (AV (decide ((r9.1.length:Int)<2)) (λhe=>?_) (λhe=>?_)))))))))
     ·refine wf he (wf he (wf he (wf he (wf he (wf he (wf he (wv (r:=rB true) (Ay rfl he rfl) (wm rfl (wz rfl rfl (wz rfl rfl (wz rfl rfl (wz rfl rfl (wz rfl rfl (wz rfl rfl (wz rfl rfl (wv (r:=rB true) (Ay (b:=true) rfl rfl rfl) (Aj ?_)))))))))))))))));exact Cq (And.intro hf (And.intro hi he))
     ·refine wo he (wm rfl (wo he (wv (AU (enc:=Ae) (ys:=r9.1) BM BY rfl rfl (C2 (C2 (C2 h2 hf) hi) he)) (wo he (wv (AJ CC rfl rfl) (wo he (wv (AU (enc:=Ab) (ys:=Ax r9.1 0) B0 BI rfl rfl (C2 (C2 (C2 g16 hf) hi) he)) (wo he (wv (AQ B9 rfl Dw rfl rfl) (wo he (wv (AJ DN rfl rfl) (wo he (wv (Bg rfl rfl) (Co rfl he rfl (wm rfl (AV (!decide (((Ax (Ax r9.1 0) 0).fKind)=5)) (λhh=>?_) (λhh=>?_)))))))))))))))))
      ·refine wf hh (wf hh (wf hh (wf hh (wf hh (wf hh (wf hh (wv (r:=rB true) (Ay rfl hh rfl) (Aj ?_))))))));exact Cq (And.intro hf (And.intro hi (And.intro he hh)))
      ·refine wo hh (wm rfl (wo hh (wv (AU (enc:=Ae) (ys:=r9.1) BM BY rfl rfl (C2 (C2 (C2 (C2 g18 hf) hi) he) hh)) (wo hh (wv (AJ CC rfl rfl) (wo hh (wv (AU (enc:=Ab) (ys:=Ax r9.1 1) B0 BI rfl rfl (C2 (C2 (C2 (C2 h9 hf) hi) he) hh)) (wo hh (wv (AQ B9 rfl Dw rfl rfl) (wo hh (wv (AJ DN rfl rfl) (wo hh (wv (Bg rfl rfl) (Co rfl hh rfl (Aj ?_)))))))))))))));exact Cq (And.intro hf (And.intro hi (And.intro he hh)))
  refine cz hA rfl (λhB hC=>?_) (λhB hD=>?_)
  ·refine Ah (wv (AG (i:=0) BN B1 rfl rfl rfl rfl) (Ba (i:=1) B1 rfl rfl rfl (BB.c rfl) rfl rfl (cs':=[rv (.slice none 0 0),Ai 0,rv (.slice none 0 0),rS ([]:Ar),Ai 0,Ai 0]) rfl (H':=[.blk b2 [rv (.slice none 0 0),Ai 0,rv (.slice none 0 0),rS ([]:Ar),Ai 0,Ai 0] 26,.blk b1 [rv (.slice none 0 0),Ai 0,rv (.slice none 0 0),rS ([]:Ar),Ai 0,Ai 0] 26]) rfl (wa rfl (Al (Aq (Ac (WK.upBlk (i:=1) (cs':=[AE 1 (A3 eS ([]:List Ar)),Ai 0,AE 1 (A3 Ae ([]:List (List Aa))),rS ([]:Ar),Ai 0,Ai 0]) rfl ⟨Up.le (DB.nil _),Up.refl _,Up.le (DB.nil _),Up.refl _,Up.refl _,Up.refl _,trivial⟩ ?_)))))));obtain rfl:=Am hC;exact Ap (DA Of (DE (i:=1) BN B1 rfl rfl rfl) (A9 rfl)) (sS (sS sN)) ⟨rfl,rfl⟩
  ·refine Av (AH (Ah (Ca (cs:=[rv (.slice none 0 0),Ai 0,rv (.slice none 0 0),rS ([]:Ar),Ai 0,Ai 0]) MY rfl rfl (λhb=>?_))));refine AX (wm rfl (ck hD λhE hG=>wv (AU (enc:=Ae) (ys:=r9.1) BM BY rfl rfl hE) (wv (AJ CC rfl rfl) (ob hG λhg hH hI=>Ct Tryz.call56 (IG F (Ax r9.1 0) hg hH) rfl (wm rfl (wv (A7 rfl rfl) (wv (A7 rfl rfl) (wa rfl (wa rfl (Al (Ao (Ah (wm rfl (wv (Bg rfl rfl) (Al (cz hI rfl (λhJ hK=>?_) (λhJ hL=>?_)))))))))))))))))
   ·refine Ah (wv (AG (i:=1) BN B1 rfl rfl rfl rfl) (Ba (i:=2) B1 rfl rfl rfl (BB.c rfl) rfl rfl (cs':=[rv (.slice none 0 0),Ai 0,rv (.slice none 0 0),rS ([]:Ar),Ai 0,Ai 0]) rfl (H':=[.blk hb [rv (.slice none 0 0),Ai 0,rv (.slice none 0 0),rS ([]:Ar),Ai 0,Ai 0] 26,.blk b2 [rv (.slice none 0 0),Ai 0,rv (.slice none 0 0),rS ([]:Ar),Ai 0,Ai 0] 26,.blk b1 [rv (.slice none 0 0),Ai 0,rv (.slice none 0 0),rS ([]:Ar),Ai 0,Ai 0] 26]) rfl (wa rfl (Al (Aq (Ac (WK.upBlk (i:=2) (cs':=[AE 1 (A3 eS ([]:List Ar)),Ai 0,AE 1 (A3 Ae ([]:List (List Aa))),rS ([]:Ar),Ai 0,Ai 0]) rfl ⟨Up.le (DB.nil _),Up.refl _,Up.le (DB.nil _),Up.refl _,Up.refl _,Up.refl _,trivial⟩ ?_)))))));obtain rfl:=Am hK;exact Ap (DA Of (DE (i:=2) BN B1 rfl rfl rfl) (A9 rfl)) (sS (sS (sS sN))) ⟨rfl,rfl⟩
   ·refine Av (AH (Ao (Ah (wm rfl (wv (AL (ys:=hg.1) (enc:=Ae) BM rfl) (wv (r:=Ai 0) (A4 rfl) (Al (AB (WC.nilrow (e:=9) (sz:=1) (Mr (H2:=[.blk hb [rv (.slice none 0 0),Ai 0,rv (.slice none 0 0),rS ([]:Ar),Ai 0,Ai 0] 26,.blk b2 [rv (.slice none 0 0),Ai 0,rv (.slice none 0 0),rS ([]:Ar),Ai 0,Ai 0] 26,.blk b1 [rv (.slice none 0 0),Ai 0,rv (.slice none 0 0),rS ([]:Ar),Ai 0,Ai 0] 26,.row (.slice none 0 0         ) 9 1 (A3 eS ([]:List Ar))]) ((Az (i:=1) rfl).trans (VG _ ((Az (i:=1) rfl).trans (VG _ ((Az (i:=1) rfl).trans (VG _ (VF _))))))) (ob hL λhN hO hw=>Bi (S:=Nat×(Int×(List Ar))×(Value)) (V:=((List Ar))×(Value)) 0 (λσ=>BW (λσ=>HZ hg σ.1 σ.2) σ.1 σ.2.1=some hN) (λσ=>[(2,rP b1 0),(4,rP b2 0),(7,AE 1 (A3 Ae r9.1)),(8,rP hb 0),(72,AE 1 (A3 Ae hg.1)),(73,Ai (hg.1.length:Int)),(74,Ai σ.2.1.1)]) (λσ=>[.blk hb [rv σ.2.2,Ai 0,rv (.slice none 0 0),rS ([]:Ar),Ai 0,Ai 0] 26,.blk b2 [rv (.slice none 0 0),Ai 0,rv (.slice none 0 0),rS ([]:Ar),Ai 0,Ai 0] 26,.blk b1 [rv (.slice none 0 0),Ai 0,rv (.slice none 0 0),rS ([]:Ar),Ai 0,Ai 0] 26,.row σ.2.2 9 1 (A3 eS σ.2.1.2)]) (λσ=>σ.1) (F,(0,([]:List Ar)),(.slice none 0 0         )) hO (A5.c rfl (A5.c rfl (A5.c5 rfl rfl rfl rfl rfl A5.nil))) (sC (sC (sC (sC sN)))) (λσ=>HY F r9 σ.1=some r) (λσ=>[(2,rP b1 0),(4,rP b2 0),(7,AE 1 (A3 Ae r9.1)),(8,rP hb 0)]) (λσ=>[.blk hb [rv σ.2,Ai 0,rv (.slice none 0 0),rS ([]:Ar),Ai 0,Ai 0] 26,.blk b2 [rv (.slice none 0 0),Ai 0,rv (.slice none 0 0),rS ([]:Ar),Ai 0,Ai 0] 26,.blk b1 [rv (.slice none 0 0),Ai 0,rv (.slice none 0 0),rS ([]:Ar),Ai 0,Ai 0] 26,.row σ.2 9 1 (A3 eS σ.1)]) ?_ ?_)))))))))))
    ·rintro⟨g6,⟨hj,hm⟩,ho⟩ hP;refine B3 (l':=[(2,rP b1 0),(4,rP b2 0),(7,AE 1 (A3 Ae r9.1)),(8,rP hb 0),(72,AE 1 (A3 Ae hg.1)),(73,Ai (hg.1.length:Int)),(74,Ai hj)]) (H':=[.blk hb [rv ho,Ai 0,rv (.slice none 0 0),rS ([]:Ar),Ai 0,Ai 0] 26,.blk b2 [rv (.slice none 0 0),Ai 0,rv (.slice none 0 0),rS ([]:Ar),Ai 0,Ai 0] 26,.blk b1 [rv (.slice none 0 0),Ai 0,rv (.slice none 0 0),rS ([]:Ar),Ai 0,Ai 0] 26,.row ho 9 1 (A3 eS hm)]) rfl rfl ?_;obtain⟨hQ,rfl,hR,hr,ht⟩:=Ch hP;replace hr:HZ hg hj hm=some hR:=hr;unfold HZ at hr;refine Ah (wv (Cr rfl rfl) (Al (Ao (cz hr rfl (λhS hT=>?_) (λhS hU=>?_)))))
     ·refine Av (AH (Ao (AB (Ah (ck hT λhV hW=>wv (AU (enc:=Ae) (ys:=hg.1) BM BY rfl rfl hV) (wv (AJ CC rfl rfl) (wa rfl (Al (Ao (Ah (wm rfl (ck hW λhx hX=>wv (AU (enc:=Ab) (ys:=Ax hg.1 hj) B0 BI rfl rfl hx) (wv (AQ B9 rfl Dw rfl rfl) (wv (AJ DN rfl rfl) (wv (Bg rfl rfl) (Al (cz hX rfl (λhY hZ=>?_) (λhY ga=>?_))))))))))))))))))
      ·refine Ah (wv (AG (i:=1) BN B1 rfl rfl rfl rfl) (Ba (i:=2) B1 rfl rfl rfl (BB.c rfl) rfl rfl (cs':=[rv (.slice none 0 0),Ai 0,rv (.slice none 0 0),rS ([]:Ar),Ai 0,Ai 0]) rfl (H':=[.blk hb [rv ho,Ai 0,rv (.slice none 0 0),rS ([]:Ar),Ai 0,Ai 0] 26,.blk b2 [rv (.slice none 0 0),Ai 0,rv (.slice none 0 0),rS ([]:Ar),Ai 0,Ai 0] 26,.blk b1 [rv (.slice none 0 0),Ai 0,rv (.slice none 0 0),rS ([]:Ar),Ai 0,Ai 0] 26,.row ho 9 1 (A3 eS hm)]) rfl (wa rfl (Al (Aq (Ac (An (Ac (Ac (AN ?_))))))))));have gb:=Bh hZ ht hw;refine An (Ac (WK.upBlk (i:=2) (cs':=[AE 1 (A3 eS ([]:List Ar)),Ai 0,AE 1 (A3 Ae ([]:List (List Aa))),rS ([]:Ar),Ai 0,Ai 0]) rfl ⟨Up.le (DB.nil _),Up.refl _,Up.le (DB.nil _),Up.refl _,Up.refl _,Up.refl _,trivial⟩ ?_));obtain rfl:=Am gb;exact Ap (DA Of (DE (i:=2) BN B1 rfl rfl rfl) (A9 rfl)) (sS (sS (sS (sS sN)))) ⟨rfl,rfl⟩
      ·refine Av (AH (Kk 7 [2,4,7,8,11,72,73,74] [⟨[],rP hb 0,none,none,none⟩,⟨[0],rv ho,none,none,none⟩,⟨[],AE 4 (A3 Ab (Ax hg.1 hj)),none,none,none⟩,⟨[2],Jm (Ab (Ax (Ax hg.1 hj) 0)),none,none,none⟩,⟨[3],Jm [rS ((Ax (Ax hg.1 hj) 0).fStr),Ai ((Ax (Ax hg.1 hj) 0).fN)],none,none,none⟩,⟨[4],rS ((Ax (Ax hg.1 hj) 0).fStr),none,none,none⟩,⟨[5],AE 1 (A3 eS ([(Ax (Ax hg.1 hj) 0).fStr]:List Ar)),none,none,none⟩] ?_ (λβ=>?_)))
       ·refine Ma (AA AK rfl Gh rfl rfl) (Vo (Bb (i:=0) Hx rfl rfl rfl) (Ma (A4 rfl) (Ma (AU (enc:=Ab) (ys:=Ax hg.1 hj) B0 BI rfl rfl hx) (Ma (AQ B9 rfl CE rfl rfl) (Ma (AJ CP rfl rfl) (Vq (EY (ys:=([(Ax (Ax hg.1 hj) 0).fStr]:List Ar)) (enc:=eS) (css:=[[rS ((Ax (Ax hg.1 hj) 0).fStr)]]) (xs:=[.tmp 89]) CR CE UD rfl rfl rfl ⟨DX.one rfl (Up.refl _),trivial⟩ rfl HM rfl rfl) ?_))))));exact Vp
       refine Mq (H1:=[.blk hb [rv ho,Ai 0,rv (.slice none 0 0),rS ([]:Ar),Ai 0,Ai 0] 26,.blk b2 [rv (.slice none 0 0),Ai 0,rv (.slice none 0 0),rS ([]:Ar),Ai 0,Ai 0] 26,.blk b1 [rv (.slice none 0 0),Ai 0,rv (.slice none 0 0),rS ([]:Ar),Ai 0,Ai 0] 26,.row ho 9 1 (A3 eS hm)]) [84,85,86,87,88,89,90,2,4,7,8,11,72,73,74] ?_;refine ck ga λgc gd=>Exists.elim Vd λinf hinf=>Cf (xs:=hm) (ys:=([(Ax (Ax hg.1 hj) 0).fStr]:List Ar)) (enc:=eS) (i:=3) CR hinf.1 hinf.2.1 hinf.2.2.1 hinf.2.2.2 rfl rfl rfl rfl rfl (Ki.z rfl rfl) HM U5 gc rfl (λhp=>?_);refine vF AK rfl Gh (Bu (i:=1) Gh rfl rfl (C5 (i:=0) rfl) rfl rfl (cs':=[rv hp,Ai 0,rv (.slice none 0 0),rS ([]:Ar),Ai 0,Ai 0]) rfl (H':=[.row hp 9 1 (A3 eS (hm++([(Ax (Ax hg.1 hj) 0).fStr]:List Ar))),.blk hb [rv hp,Ai 0,rv (.slice none 0 0),rS ([]:Ar),Ai 0,Ai 0] 26,.blk b2 [rv (.slice none 0 0),Ai 0,rv (.slice none 0 0),rS ([]:Ar),Ai 0,Ai 0] 26,.blk b1 [rv (.slice none 0 0),Ai 0,rv (.slice none 0 0),rS ([]:Ar),Ai 0,Ai 0] 26]) rfl (Aj (A8 (AH (Ak (ck gd λge gf=>wv (Bk rfl rfl ge) (wm rfl (Aj (Cl (H2:=[.blk hb [rv hp,Ai 0,rv (.slice none 0 0),rS ([]:Ar),Ai 0,Ai 0] 26,.blk b2 [rv (.slice none 0 0),Ai 0,rv (.slice none 0 0),rS ([]:Ar),Ai 0,Ai 0] 26,.blk b1 [rv (.slice none 0 0),Ai 0,rv (.slice none 0 0),rS ([]:Ar),Ai 0,Ai 0] 26,.row hp 9 1 (A3 eS (hm++([(Ax (Ax hg.1 hj) 0).fStr]:List Ar)))]) ((Az (i:=1) rfl).trans (VG _ ((Az (i:=1) rfl).trans (VG _ ((Az (i:=1) rfl).trans (VG _ (VF _))))))) ?_)))))))));have gg:=Bc gf ht;exact As (At (hQ,(hj+1,hm++([(Ax (Ax hg.1 hj) 0).fStr]:List Ar)),hp) ⟨gg,VO _⟩ (A5.c rfl (A5.c rfl (A5.c5 rfl rfl rfl rfl rfl A5.nil))) (sC (sC (sC (sC sN)))))
     ·refine Bs (A0 ?_);have gh:=BF hU ht hw;exact A0 (AS (At (hm,ho) gh (A5.c rfl (A5.c rfl (A5.c rfl (A5.c rfl A5.nil)))) (sC (sC (sC (sC sN))))))
    ·rintro⟨hk,hl⟩ hs;refine Cj (l':=[(2,rP b1 0),(4,rP b2 0),(7,AE 1 (A3 Ae r9.1)),(8,rP hb 0)]) (H':=[.blk hb [rv hl,Ai 0,rv (.slice none 0 0),rS ([]:Ar),Ai 0,Ai 0] 26,.blk b2 [rv (.slice none 0 0),Ai 0,rv (.slice none 0 0),rS ([]:Ar),Ai 0,Ai 0] 26,.blk b1 [rv (.slice none 0 0),Ai 0,rv (.slice none 0 0),rS ([]:Ar),Ai 0,Ai 0] 26,.row hl 9 1 (A3 eS hk)]) rfl rfl ?_;replace hs:HY F r9 hk=some r:=hs;unfold HY at hs;refine AW (AH (Ao (ob hs λhu gi gj=>ck gj λgl gm=>ck gm λgp gq=>Kk 7 [2,4,7,8] [⟨[],AE 1 (A3 eS hu),none,none,none⟩,⟨[],AE 1 (A3 Ae r9.1),none,none,none⟩,⟨[1],Jm [AE 4 (A3 Ab (Ax r9.1 1))],none,none,none⟩,⟨[2],AE 4 (A3 Ab (Ax r9.1 1)),none,none,none⟩,⟨[3],Jm (Ab (Ax (Ax r9.1 1) 0)),none,none,none⟩,⟨[4],Jm [rS ((Ax (Ax r9.1 1) 0).fStr),Ai ((Ax (Ax r9.1 1) 0).fN)],none,none,none⟩,⟨[5],rS ((Ax (Ax r9.1 1) 0).fStr),none,none,none⟩] ?_ (λβ=>?_))))
     ·refine Vq (Ec Tryz.call45 (NG hu gi) rfl) (Ma (A4 rfl) (Ma (AU (enc:=Ae) (ys:=r9.1) BM BY rfl rfl gl) (Ma (AJ CC rfl rfl) (Ma (AU (enc:=Ab) (ys:=Ax r9.1 1) B0 BI rfl rfl gp) (Ma (AQ B9 rfl CE rfl rfl) (Ma (AJ CP rfl rfl) ?_))))));exact Vp
     refine Mq (H1:=[.blk hb [rv hl,Ai 0,rv (.slice none 0 0),rS ([]:Ar),Ai 0,Ai 0] 26,.blk b2 [rv (.slice none 0 0),Ai 0,rv (.slice none 0 0),rS ([]:Ar),Ai 0,Ai 0] 26,.blk b1 [rv (.slice none 0 0),Ai 0,rv (.slice none 0 0),rS ([]:Ar),Ai 0,Ai 0] 26,.row hl 9 1 (A3 eS hk)]) [94,95,96,97,98,99,100,2,4,7,8] ?_;refine ob gq λhq gr gs=>Ct Tryz.call57 (Oo F hu ((Ax (Ax r9.1 1) 0).fStr) hq gr) rfl (vF AK rfl BZ (Bu (i:=0) BZ rfl rfl (B2 rfl) rfl rfl (cs':=[rv hl,Ai hq,rv (.slice none 0 0),rS ([]:Ar),Ai 0,Ai 0]) rfl (H':=[.blk hb [rv hl,Ai hq,rv (.slice none 0 0),rS ([]:Ar),Ai 0,Ai 0] 26,.blk b2 [rv (.slice none 0 0),Ai 0,rv (.slice none 0 0),rS ([]:Ar),Ai 0,Ai 0] 26,.blk b1 [rv (.slice none 0 0),Ai 0,rv (.slice none 0 0),rS ([]:Ar),Ai 0,Ai 0] 26,.row hl 9 1 (A3 eS hk)]) rfl (Al (Ao (WC.freeze (i:=3) rfl (WC.upBlk (i:=1) (cs':=[AE 1 (A3 eS hk),Ai hq,AE 1 (A3 Ae ([]:List (List Aa))),rS ([]:Ar),Ai 0,Ai 0]) rfl ⟨Up.fact (i:=0) rfl,Up.refl _,Up.le (DB.nil _),Up.refl _,Up.refl _,Up.refl _,trivial⟩ (ck gs λgt gu=>ob gu λha gv gw=>Eh (H1:=[.fact hl (AE 1 (A3 eS hk)),.blk hb (Ad ha.1) 26,.blk b2 [rv (.slice none 0 0),Ai 0,rv (.slice none 0 0),rS ([]:Ar),Ai 0,Ai 0] 26,.blk b1 [rv (.slice none 0 0),Ai 0,rv (.slice none 0 0),rS ([]:Ar),Ai 0,Ai 0] 26]) [2,4,7,8] [⟨[],Bv [AE 1 (A3 eS hk),Ai hq,AE 1 (A3 Ae ([]:List (List Aa))),rS ([]:Ar),Ai 0,Ai 0],1⟩,⟨[],AE 1 (A3 Ae r9.1),0⟩,⟨[1],AE 1 (A3 Ae (List.drop (Bm 2) r9.1)),0⟩,⟨[0,2],CW [Bv (Ad ha.1),rB ha.2],0⟩,⟨[3],CW [Bv (Ad ha.1),rB ha.2],0⟩,⟨[4],Bv (Ad ha.1),0⟩,⟨[4],rB ha.2,0⟩,⟨[5],rv undef,2⟩,⟨[6],rB ha.2,0⟩] (rle [(8,_),(2,[.fact hl (AE 1 (A3 eS hk)),.blk hb (Ad ha.1) 26,.blk b2 [rv (.slice none 0 0),Ai 0,rv (.slice none 0 0),rS ([]:Ar),Ai 0,Ai 0] 26,.blk b1 [rv (.slice none 0 0),Ai 0,rv (.slice none 0 0),rS ([]:Ar),Ai 0,Ai 0] 26])]) [12,2,4,8] ?_ ?_)))))))
     ·refine of (AG (i:=1) BN B1 rfl rfl rfl rfl) (oq (A4 rfl) (oq (Dz BM BY rfl rfl gt) (Dj rfl (λH=>Ec Tryz.call58 (Qp F (Af.mk hk hq ([]:List (List Aa)) ([]:Ar) 0 0) (List.drop (Bm 2) r9.1) ha gv) rfl) ?_)));refine oq (A4 rfl) (oq (A7 rfl rfl) (oq (A7 rfl rfl) (Hp rfl (LH (CQ (i:=1) B1 rfl rfl rfl (BB.c rfl) rfl rfl (cs':=[AE 1 (A3 eS ha.1.fPath),Ai ha.1.fOp,AE 1 (A3 Ae ha.1.fValues),rS ha.1.fText,Ai ha.1.fLow,Ai ha.1.fHigh]) rfl (H':=[.fact hl (AE 1 (A3 eS hk)),.blk hb (Ad ha.1) 26,.blk b2 [rv (.slice none 0 0),Ai 0,rv (.slice none 0 0),rS ([]:Ar),Ai 0,Ai 0] 26,.blk b1 [rv (.slice none 0 0),Ai 0,rv (.slice none 0 0),rS ([]:Ar),Ai 0,Ai 0] 26]) rfl)) ?_)));refine oq (AD rfl) ?_;exact Cd
     refine AH (Ao (AM [(2,rP b1 0),(4,rP b2 0),(8,rP hb 0),(116,rB ((decide (ha.1.fOp<1))||(!ha.2)))] [.blk hb (Ad ha.1) 26,.blk b2 [rv (.slice none 0 0),Ai 0,rv (.slice none 0 0),rS ([]:Ar),Ai 0,Ai 0] 26,.blk b1 [rv (.slice none 0 0),Ai 0,rv (.slice none 0 0),rS ([]:Ar),Ai 0,Ai 0] 26] ?_ ?_))
     ·refine Ak (vF AK rfl BZ (vL 1 Cb rfl (wv (Cr rfl rfl) (wm rfl (AV (decide (ha.1.fOp<1)) (λhn=>?_) (λhn=>?_))))))
      ·refine wf hn (wf hn (wv (r:=rB true) (Ay rfl hn rfl) (Aj ?_)));exact Cq hn
      ·refine wo hn (wm rfl (wo hn (wv (Bz rfl) (Co rfl hn rfl (Aj ?_)))));exact Cq hn
     refine cz gw rfl (λgx gy=>?_) (λgx gz=>?_)
     ·refine Ah (wv (AG (i:=1) BN B1 rfl rfl rfl rfl) (Ba (i:=2) B1 rfl rfl rfl (BB.c rfl) rfl rfl (cs':=[rv (.slice none 0 0),Ai 0,rv (.slice none 0 0),rS ([]:Ar),Ai 0,Ai 0]) rfl (H':=[.blk hb (Ad ha.1) 26,.blk b2 [rv (.slice none 0 0),Ai 0,rv (.slice none 0 0),rS ([]:Ar),Ai 0,Ai 0] 26,.blk b1 [rv (.slice none 0 0),Ai 0,rv (.slice none 0 0),rS ([]:Ar),Ai 0,Ai 0] 26]) rfl (wa rfl (Al (Aq (Ac (WK.upBlk (i:=2) (cs':=[AE 1 (A3 eS ([]:List Ar)),Ai 0,AE 1 (A3 Ae ([]:List (List Aa))),rS ([]:Ar),Ai 0,Ai 0]) rfl ⟨Up.le (DB.nil _),Up.refl _,Up.le (DB.nil _),Up.refl _,Up.refl _,Up.refl _,trivial⟩ ?_)))))));obtain rfl:=Am gy;exact Ap (DA Of (DE (i:=2) BN B1 rfl rfl rfl) (A9 rfl)) (sS (sS (sS sN))) ⟨rfl,rfl⟩
     ·refine Av (AH (Ao (Ah (wv (AG (i:=0) BN B1 rfl rfl rfl rfl) (ob gz λg0 g1 g2=>Ct QJ (HH F ha.1 g0 g1) rfl (wa rfl (AX (wm rfl (wv (Bg rfl rfl) (Al (cz g2 rfl (λg3 g4=>?_) (λg3 g5=>?_))))))))))))
      ·refine Ah (wv (AG (i:=1) BN B1 rfl rfl rfl rfl) (wm rfl (Ba (i:=2) B1 rfl rfl rfl (BB.c rfl) rfl rfl (cs':=[rv (.slice none 0 0),Ai 0,rv (.slice none 0 0),rS ([]:Ar),Ai 0,Ai 0]) rfl (H':=[.blk hb (Ad ha.1) 26,.blk b2 [rv (.slice none 0 0),Ai 0,rv (.slice none 0 0),rS ([]:Ar),Ai 0,Ai 0] 26,.blk b1 [rv (.slice none 0 0),Ai 0,rv (.slice none 0 0),rS ([]:Ar),Ai 0,Ai 0] 26]) rfl (wa rfl (Al (Aq (Ac (WK.upBlk (i:=2) (cs':=[AE 1 (A3 eS ([]:List Ar)),Ai 0,AE 1 (A3 Ae ([]:List (List Aa))),rS ([]:Ar),Ai 0,Ai 0]) rfl ⟨Up.le (DB.nil _),Up.refl _,Up.le (DB.nil _),Up.refl _,Up.refl _,Up.refl _,trivial⟩ ?_))))))));obtain rfl:=Am g4;exact Ap (DA Of (DE (i:=2) BN B1 rfl rfl rfl) (A9 rfl)) (sS (sS (sS sN))) ⟨rfl,rfl⟩
      ·refine Av (AH (Ah (wv (AG (i:=0) BN B1 rfl rfl rfl rfl) (Ba (i:=2) B1 rfl rfl rfl (BB.c rfl) rfl rfl (cs':=[AE 1 (A3 eS ha.1.fPath),Ai ha.1.fOp,AE 1 (A3 Ae ha.1.fValues),rS ha.1.fText,Ai ha.1.fLow,Ai ha.1.fHigh]) rfl (H':=[.blk hb (Ad ha.1) 26,.blk b2 [rv (.slice none 0 0),Ai 0,rv (.slice none 0 0),rS ([]:Ar),Ai 0,Ai 0] 26,.blk b1 (Ad ha.1) 26]) rfl (wa rfl (Al (Aq ?_)))))));obtain rfl:=Am g5;exact Ap (DA Of (DE (i:=2) BN B1 rfl rfl rfl) (A9 rfl)) (sS (sS (sS sN))) ⟨rfl,rfl⟩
end Go.Proofs.YtghdglcmblpbeaaGreatDoor.Q
namespace Go.Proofs.YtghdglcmblpbeaaGreatDoor
open Go
set_option linter.unusedVariables false
def Er (a:(List Ar))(b:(List Ar))(ha:Int):Option (Stp (Int) (Out (Bool) (Unit))):=
 AP (decide (ha<(b.length:Int))) (AR (Cp ha (a.length:Int))<|AR (Cp ha (b.length:Int))<|AP (!decide ((Ax a ha)=(Ax b ha))) (some (.out (.ret false))) (AR (BL .i64 (ha+1))<|some (.next (ha+1)))) (some (.out (.go ())))
def Ep :Option (Bool):=
 some true
def DT (F:Nat)(a:(List Ar))(b:(List Ar)):Option (Bool):=
 AP (decide ((a.length:Int)<(b.length:Int))) (some false) (Bf (BW (λσ=>Er a b σ) F 0) (BV λν=>Ep ))
def EU (a:(List Aa))(b:(List Aa))(ha:Int):Option (Stp (Int) (Out (Bool) (Unit))):=
 AP (decide (ha<(a.length:Int))) (AR (Cp ha (a.length:Int))<|AR (Cp ha (b.length:Int))<|AP (!(decide (((Ax a ha).fKind)=((Ax b ha).fKind))&&decide (((Ax a ha).fInt)=((Ax b ha).fInt))&&decide (((Ax a ha).fStr)=((Ax b ha).fStr))&&decide (((Ax a ha).fN)=((Ax b ha).fN)))) (some (.out (.ret false))) (AR (BL .i64 (ha+1))<|some (.next (ha+1)))) (some (.out (.go ())))
def ET :Option (Bool):=
 some true
def Ly (F:Nat)(a:(List Aa))(b:(List Aa)):Option (Bool):=
 AP (!decide ((a.length:Int)=(b.length:Int))) (some false) (Bf (BW (λσ=>EU a b σ) F 0) (BV λν=>ET ))
def ES (F:Nat)(a:Af)(b:Af)(ha:Int):Option (Stp (Int) (Out (Bool) (Unit))):=
 AP (decide (ha<(a.fValues.length:Int))) (AR (Cp ha (a.fValues.length:Int))<|AR (Cp ha (b.fValues.length:Int))<|Bf (Ly F (Ax a.fValues ha) (Ax b.fValues ha)) λhb=>AP (!hb) (some (.out (.ret false))) (AR (BL .i64 (ha+1))<|some (.next (ha+1)))) (some (.out (.go ())))
def ER :Option (Bool):=
 some true
def Lx (F:Nat)(a:Af)(b:Af):Option (Bool):=
 AR (imp (!(!decide ((a.fPath.length:Int)=(b.fPath.length:Int)))) ((DT F a.fPath b.fPath).isSome))<|AP (((!decide ((a.fPath.length:Int)=(b.fPath.length:Int)))||((!(ov (DT F a.fPath b.fPath)))||((!decide (a.fOp=b.fOp))||((!decide ((a.fValues.length:Int)=(b.fValues.length:Int)))||((!decide (a.fText=b.fText))||((!decide (a.fLow=b.fLow))||(!decide (a.fHigh=b.fHigh))))))))) (some false) (Bf (BW (λσ=>ES F a b σ) F 0) (BV λν=>ER ))
def Cy (v:(List Aa))(ha:Int):Option (Stp (Int) (Out (Bool) (Unit))):=
 AP (decide (ha<(v.length:Int))) (AR (Cp ha (v.length:Int))<|AP (decide (5000<(((Ax v ha).fStr).length:Int))) (some (.out (.ret false))) (AR (BL .i64 (ha+1))<|some (.next (ha+1)))) (some (.out (.go ())))
def CK :Option (Bool):=
 some true
def Cm (F:Nat)(v:(List Aa)):Option (Bool):=
 AP (decide (300<(v.length:Int))) (some false) (Bf (BW (λσ=>Cy v σ) F 0) (BV λν=>CK ))
def D6 (F:Nat)(f:Af)(ha:Int):Option (Stp (Int) (Out (Bool) (Unit))):=
 AP (decide (ha<(f.fValues.length:Int))) (AR (Cp ha (f.fValues.length:Int))<|Bf (Cm F (Ax f.fValues ha)) λhb=>AP (!hb) (some (.out (.ret false))) (AR (BL .i64 (ha+1))<|some (.next (ha+1)))) (some (.out (.go ())))
def Ee :Option (Bool):=
 some true
def D7 (f:Af)(ha:Int):Option (Stp (Int) (Out (Bool) (Unit))):=
 AP (decide (ha<(f.fPath.length:Int))) (AR (Cp ha (f.fPath.length:Int))<|AP (decide (1000<((Ax f.fPath ha).length:Int))) (some (.out (.ret false))) (AR (BL .i64 (ha+1))<|some (.next (ha+1)))) (some (.out (.go ())))
def D5 (F:Nat)(f:Af):Option (Bool):=
 Bf (BW (λσ=>D6 F f σ) F 0) (BV λν=>Ee )
def Cn (F:Nat)(f:Af):Option (Bool):=
 AP (((decide (10<(f.fPath.length:Int)))||((decide (20<(f.fValues.length:Int)))||(decide (1000<(f.fText.length:Int)))))) (some false) (Bf (BW (λσ=>D7 f σ) F 0) (BV λν=>D5 F f ))
end Go.Proofs.YtghdglcmblpbeaaGreatDoor
namespace Go.Proofs.YtghdglcmblpbeaaGreatDoor.Q
open Go Go.RowKit
set_option linter.unusedVariables false
set_option linter.unusedSimpArgs false
set_option maxRecDepth 100000
set_option maxHeartbeats 4000000
theorem NL (F:Nat)(a:(List Ar))(b:(List Ar))(r:Bool)(h:DT F a b=some r):Fn Tryz.prog GE 63 [AE 1 (A3 eS a),AE 1 (A3 eS b)] [] (λR H=>R=rB r∧H=[]):=by
 refine enter (n:=26) Tryz.func63 rfl Tryz.ntmps63 rfl (λw Z=>?_);unfold DT at h;refine Ah (wa rfl (Al (Ao (Ah (wm rfl (wv (AL (ys:=a) (enc:=eS) CR rfl) (wm rfl (wv (AL (ys:=b) (enc:=eS) CR rfl) (wv (Cr rfl rfl) (Al (cz h rfl (λc1 h2=>?_) (λc1 h3=>?_))))))))))))
 ·refine Ah (wa rfl (Al (Aq (Ac ?_))));obtain rfl:=Am h2;exact Ap (By Tryz.results63 (A9 rfl)) sN ⟨rfl,rfl⟩
 ·refine Av (AH (Ao (Ah (wm rfl (wv (AL (ys:=b) (enc:=eS) CR rfl) (wv (r:=Ai 0) (A4 rfl) (Al (AB (ob h3 λhh hi hg=>Bi (S:=Nat×(Int)×(Unit)) (V:=(Unit)×(Unit)) 0 (λσ=>BW (λσ=>Er a b σ) σ.1 σ.2.1=some hh) (λσ=>[(0,AE 1 (A3 eS a)),(1,AE 1 (A3 eS b)),(12,Ai (b.length:Int)),(13,Ai σ.2.1)]) (λσ=>[]) (λσ=>σ.1) (F,0,()) hi (A5.c rfl (A5.c rfl (A5.c rfl (A5.c rfl A5.nil)))) sN (λσ=>Ep =some r) (λσ=>[]) (λσ=>[]) ?_ ?_)))))))))
  ·rintro⟨h4,ha,⟨⟩⟩ hj;refine B3 (l':=[(0,AE 1 (A3 eS a)),(1,AE 1 (A3 eS b)),(12,Ai (b.length:Int)),(13,Ai ha)]) (H':=[]) rfl rfl ?_;obtain⟨hk,rfl,hl,hb,hf⟩:=Ch hj;replace hb:Er a b ha=some hl:=hb;unfold Er at hb;refine Ah (wv (Cr rfl rfl) (Al (Ao (cz hb rfl (λhm hn=>?_) (λhm ho=>?_)))))
   ·refine Av (AH (Ao (AB (Ah (wm rfl (wa rfl (Al (Ao (ck hn λhp hq=>ck hq λhr hs=>Cz [0,1,5,12,13] [⟨[],AE 1 (A3 eS a),0⟩,⟨[],Ai ha,0⟩,⟨[0,1],Jm [rS (Ax a ha)],0⟩,⟨[2],rS (Ax a ha),0⟩,⟨[],AE 1 (A3 eS b),0⟩,⟨[],Ai ha,0⟩,⟨[4,5],Jm [rS (Ax b ha)],0⟩,⟨[6],rS (Ax b ha),0⟩,⟨[3,7],rB (!decide ((Ax a ha)=(Ax b ha))),0⟩] [24,0,1,12,13] ?_ ?_)))))))))
    ·refine oq (A4 rfl) (oq (A4 rfl) (oq (AU (enc:=eS) (ys:=a) CR CE rfl rfl hp) (oq (AJ CP rfl rfl) (oq (A4 rfl) (oq (A4 rfl) (oq (AU (enc:=eS) (ys:=b) CR CE rfl rfl hr) (oq (AJ CP rfl rfl) (oq (Ed rfl rfl) ?_))))))));exact Cd
    refine AH (cz hs rfl (λht hu=>?_) (λht hw=>?_))
    ·refine Ah (wa rfl (Al (Aq (An (Ac (Ac (AN ?_)))))));have hx:=Bh hu hf hg;refine An (Ac ?_);obtain rfl:=Am hx;exact Ap (By Tryz.results63 (A9 rfl)) sN ⟨rfl,rfl⟩
    ·refine Av (A8 (AH (Ak (ck hw λhy hz=>wv (Bk rfl rfl hy) (wm rfl (Aj ?_))))));have h0:=Bc hz hf;exact As (At (hk,ha+1,()) ⟨h0,VO _⟩ (A5.c rfl (A5.c rfl (A5.c rfl (A5.c rfl A5.nil)))) sN)
   ·refine Bs (A0 ?_);have h1:=BF ho hf hg;exact A0 (AS (At ((),()) h1 A5.nil sN))
  ·rintro⟨⟨⟩,⟨⟩⟩ he;refine Cj (l':=[]) (H':=[]) rfl rfl ?_;replace he:Ep =some r:=he;unfold Ep at he;refine AW (AH (Ah (wa rfl (Al (Aq ?_)))));obtain rfl:=Am he;exact Ap (By Tryz.results63 (A9 rfl)) sN ⟨rfl,rfl⟩
theorem O8 (F:Nat)(a:(List Aa))(b:(List Aa))(r:Bool)(h:Ly F a b=some r):Fn Tryz.prog GE 64 [AE 4 (A3 Ab a),AE 4 (A3 Ab b)] [] (λR H=>R=rB r∧H=[]):=by
 refine enter (n:=26) Tryz.func64 rfl Tryz.ntmps64 rfl (λw Z=>?_);unfold Ly at h;refine Ah (wa rfl (Al (Ao (Ah (wm rfl (wv (AL (ys:=a) (enc:=Ab) B0 rfl) (wm rfl (wv (AL (ys:=b) (enc:=Ab) B0 rfl) (wv (Bg rfl rfl) (Al (cz h rfl (λc1 h2=>?_) (λc1 h3=>?_))))))))))))
 ·refine Ah (wa rfl (Al (Aq (Ac ?_))));obtain rfl:=Am h2;exact Ap (By Tryz.results64 (A9 rfl)) sN ⟨rfl,rfl⟩
 ·refine Av (AH (Ao (Ah (wm rfl (wv (AL (ys:=a) (enc:=Ab) B0 rfl) (wv (r:=Ai 0) (A4 rfl) (Al (AB (ob h3 λhh hi hg=>Bi (S:=Nat×(Int)×(Unit)) (V:=(Unit)×(Unit)) 0 (λσ=>BW (λσ=>EU a b σ) σ.1 σ.2.1=some hh) (λσ=>[(0,AE 4 (A3 Ab a)),(1,AE 4 (A3 Ab b)),(12,Ai (a.length:Int)),(13,Ai σ.2.1)]) (λσ=>[]) (λσ=>σ.1) (F,0,()) hi (A5.c rfl (A5.c rfl (A5.c rfl (A5.c rfl A5.nil)))) sN (λσ=>ET =some r) (λσ=>[]) (λσ=>[]) ?_ ?_)))))))))
  ·rintro⟨h4,ha,⟨⟩⟩ hj;refine B3 (l':=[(0,AE 4 (A3 Ab a)),(1,AE 4 (A3 Ab b)),(12,Ai (a.length:Int)),(13,Ai ha)]) (H':=[]) rfl rfl ?_;obtain⟨hk,rfl,hl,hb,hf⟩:=Ch hj;replace hb:EU a b ha=some hl:=hb;unfold EU at hb;refine Ah (wv (Cr rfl rfl) (Al (Ao (cz hb rfl (λhm hn=>?_) (λhm ho=>?_)))))
   ·refine Av (AH (Ao (AB (Ah (wm rfl (wa rfl (Al (Ao (ck hn λhp hq=>ck hq λhr hs=>Cz [0,1,5,12,13] [⟨[],AE 4 (A3 Ab a),0⟩,⟨[],Ai ha,0⟩,⟨[0,1],Jm (Ab (Ax a ha)),0⟩,⟨[2],Bv (Ab (Ax a ha)),0⟩,⟨[],AE 4 (A3 Ab b),0⟩,⟨[],Ai ha,0⟩,⟨[4,5],Jm (Ab (Ax b ha)),0⟩,⟨[6],Bv (Ab (Ax b ha)),0⟩,⟨[3,7],rB (!(decide (((Ax a ha).fKind)=((Ax b ha).fKind))&&decide (((Ax a ha).fInt)=((Ax b ha).fInt))&&decide (((Ax a ha).fStr)=((Ax b ha).fStr))&&decide (((Ax a ha).fN)=((Ax b ha).fN)))),0⟩] [24,0,1,12,13] ?_ ?_)))))))))
    ·refine oq (A4 rfl) (oq (A4 rfl) (oq (AU (enc:=Ab) (ys:=a) B0 BI rfl rfl hp) (oq (DQ Ne BI rfl rfl rfl) (oq (A4 rfl) (oq (A4 rfl) (oq (AU (enc:=Ab) (ys:=b) B0 BI rfl rfl hr) (oq (DQ Ne BI rfl rfl rfl) (oq (JU rfl rfl) ?_))))))));exact Cd
    refine AH (cz hs rfl (λht hu=>?_) (λht hw=>?_))
    ·refine Ah (wa rfl (Al (Aq (An (Ac (Ac (AN ?_)))))));have hx:=Bh hu hf hg;refine An (Ac ?_);obtain rfl:=Am hx;exact Ap (By Tryz.results64 (A9 rfl)) sN ⟨rfl,rfl⟩
    ·refine Av (A8 (AH (Ak (ck hw λhy hz=>wv (Bk rfl rfl hy) (wm rfl (Aj ?_))))));have h0:=Bc hz hf;exact As (At (hk,ha+1,()) ⟨h0,VO _⟩ (A5.c rfl (A5.c rfl (A5.c rfl (A5.c rfl A5.nil)))) sN)
   ·refine Bs (A0 ?_);have h1:=BF ho hf hg;exact A0 (AS (At ((),()) h1 A5.nil sN))
  ·rintro⟨⟨⟩,⟨⟩⟩ he;refine Cj (l':=[]) (H':=[]) rfl rfl ?_;replace he:ET =some r:=he;unfold ET at he;refine AW (AH (Ah (wa rfl (Al (Aq ?_)))));obtain rfl:=Am he;exact Ap (By Tryz.results64 (A9 rfl)) sN ⟨rfl,rfl⟩
theorem O7 (F:Nat)(a:Af)(b:Af)(r:Bool)(h:Lx F a b=some r):Fn Tryz.prog GE 23 [Bv (Ad a),Bv (Ad b)] [] (λR H=>R=rB r∧H=[]):=by
 refine enter (n:=77) Tryz.func23 rfl Tryz.ntmps23 rfl (λw Z=>?_);unfold Lx at h;refine Ah (Bt rfl rfl (λb1=>?_));refine Bt rfl rfl (λb2=>?_);refine wa rfl (Al (Ao (ck h λg3 h4=>AM [(2,rP b1 0),(3,rP b2 0),(57,rB ((!decide ((a.fPath.length:Int)=(b.fPath.length:Int)))||((!(ov (DT F a.fPath b.fPath)))||((!decide (a.fOp=b.fOp))||((!decide ((a.fValues.length:Int)=(b.fValues.length:Int)))||((!decide (a.fText=b.fText))||((!decide (a.fLow=b.fLow))||(!decide (a.fHigh=b.fHigh)))))))))] [.blk b2 (Ad b) 26,.blk b1 (Ad a) 26] ?_ ?_)))
 ·refine Ak (vF AK rfl Gh (vL 1 Hx rfl (wv (AL (ys:=a.fPath) (enc:=eS) CR rfl) (vF AK rfl Gh (vL 0 Hx rfl (wv (AL (ys:=b.fPath) (enc:=eS) CR rfl) (wv (Bg rfl rfl) (wm rfl (AV (!decide ((a.fPath.length:Int)=(b.fPath.length:Int))) (λc5=>?_) (λc5=>?_))))))))))
  ·refine wf c5 (wf c5 (wf c5 (wf c5 (wf c5 (wf c5 (wv (r:=rB true) (Ay rfl c5 rfl) (wm rfl (wz rfl rfl (wz rfl rfl (wz rfl rfl (wz rfl rfl (wz rfl rfl (wv (r:=rB true) (Ay (b:=true) rfl rfl rfl) (wm rfl (wz rfl rfl (wz rfl rfl (wz rfl rfl (wz rfl rfl (wz rfl rfl (wz rfl rfl (wz rfl rfl (wv (r:=rB true) (Ay (b:=true) rfl rfl rfl) (wm rfl ?_)))))))))))))))))))))));refine wz rfl rfl (wz rfl rfl (wz rfl rfl (wz rfl rfl (wz rfl rfl (wv (r:=rB true) (Ay (b:=true) rfl rfl rfl) (wm rfl (wz rfl rfl (wz rfl rfl (wz rfl rfl (wz rfl rfl (wz rfl rfl (wv (r:=rB true) (Ay (b:=true) rfl rfl rfl) (wm rfl (wz rfl rfl (wz rfl rfl (wz rfl rfl (wz rfl rfl (wz rfl rfl (wv (r:=rB true) (Ay (b:=true) rfl rfl rfl) (Aj ?_))))))))))))))))))));exact Cq c5
  ·refine wo c5 (vF AK rfl Gh (wo c5 (vL 1 Hx rfl (wo c5 (vF AK rfl Gh (wo c5 (vL 0 Hx rfl (wo c5 (Ct Tryz.call63 (NL F a.fPath b.fPath (ov (DT F a.fPath b.fPath)) (EX (C2 g3 c5))) rfl (wo c5 (wv (Bz rfl) (Co rfl c5 rfl (wm rfl (AV (!(ov (DT F a.fPath b.fPath))) (λc6=>?_) (λc6=>?_)))))))))))))))
   ·refine wf c6 (wf c6 (wf c6 (wf c6 (wf c6 (wv (r:=rB true) (Ay rfl c6 rfl) (wm rfl (wz rfl rfl (wz rfl rfl (wz rfl rfl (wz rfl rfl (wz rfl rfl (wz rfl rfl (wz rfl rfl (wv (r:=rB true) (Ay (b:=true) rfl rfl rfl) (wm rfl (wz rfl rfl (wz rfl rfl (wz rfl rfl (wz rfl rfl (wz rfl rfl (wv (r:=rB true) (Ay (b:=true) rfl rfl rfl) (wm rfl (wz rfl rfl ?_)))))))))))))))))))))));refine wz rfl rfl (wz rfl rfl (wz rfl rfl (wz rfl rfl (wv (r:=rB true) (Ay (b:=true) rfl rfl rfl) (wm rfl (wz rfl rfl (wz rfl rfl (wz rfl rfl (wz rfl rfl (wz rfl rfl (wv (r:=rB true) (Ay (b:=true) rfl rfl rfl) (Aj ?_))))))))))));exact Cq (And.intro c5 c6)
   ·refine wo c6 (vF AK rfl BZ (wo c6 (vL 1 Cb rfl (wo c6 (vF AK rfl BZ (wo c6 (vL 0 Cb rfl (wo c6 (wv (Bg rfl rfl) (Co rfl c6 rfl (wm rfl (AV (!decide (a.fOp=b.fOp)) (λc7=>?_) (λc7=>?_)))))))))))))
    ·refine wf c7 (wf c7 (wf c7 (wf c7 (wf c7 (wf c7 (wf c7 (wv (r:=rB true) (Ay rfl c7 rfl) (wm rfl (wz rfl rfl (wz rfl rfl (wz rfl rfl (wz rfl rfl (wz rfl rfl (wv (r:=rB true) (Ay (b:=true) rfl rfl rfl) (wm rfl (wz rfl rfl (wz rfl rfl (wz rfl rfl (wz rfl rfl (wz rfl rfl (wv (r:=rB true) (Ay (b:=true) rfl rfl rfl) (wm rfl (wz rfl rfl ?_)))))))))))))))))))))));refine wz rfl rfl (wz rfl rfl (wz rfl rfl (wz rfl rfl (wv (r:=rB true) (Ay (b:=true) rfl rfl rfl) (Aj ?_)))));exact Cq (And.intro c5 (And.intro c6 c7))
    ·refine wo c7 (vF AK rfl CG (wo c7 (vL 1 CS rfl (wo c7 (wv (AL (ys:=a.fValues) (enc:=Ae) BM rfl) (wo c7 (vF AK rfl CG (wo c7 (vL 0 CS rfl (wo c7 (wv (AL (ys:=b.fValues) (enc:=Ae) BM rfl) (wo c7 (wv (Bg rfl rfl) (Co rfl c7 rfl (wm rfl (AV (!decide ((a.fValues.length:Int)=(b.fValues.length:Int))) (λc8=>?_) (λc8=>?_)))))))))))))))))
     ·refine wf c8 (wf c8 (wf c8 (wf c8 (wf c8 (wv (r:=rB true) (Ay rfl c8 rfl) (wm rfl (wz rfl rfl (wz rfl rfl (wz rfl rfl (wz rfl rfl (wz rfl rfl (wv (r:=rB true) (Ay (b:=true) rfl rfl rfl) (wm rfl (wz rfl rfl (wz rfl rfl (wz rfl rfl (wz rfl rfl (wz rfl rfl (wv (r:=rB true) (Ay (b:=true) rfl rfl rfl) (Aj ?_))))))))))))))))))));exact Cq (And.intro c5 (And.intro c6 (And.intro c7 c8)))
     ·refine wo c8 (vF AK rfl CE (wo c8 (vL 1 CP rfl (wo c8 (vF AK rfl CE (wo c8 (vL 0 CP rfl (wo c8 (wv (Ed rfl rfl) (Co rfl c8 rfl (wm rfl (AV (!decide (a.fText=b.fText)) (λc9=>?_) (λc9=>?_)))))))))))))
      ·refine wf c9 (wf c9 (wf c9 (wf c9 (wf c9 (wv (r:=rB true) (Ay rfl c9 rfl) (wm rfl (wz rfl rfl (wz rfl rfl (wz rfl rfl (wz rfl rfl (wz rfl rfl (wv (r:=rB true) (Ay (b:=true) rfl rfl rfl) (Aj ?_)))))))))))));exact Cq (And.intro c5 (And.intro c6 (And.intro c7 (And.intro c8 c9))))
      ·refine wo c9 (vF AK rfl BH (wo c9 (vL 1 Cc rfl (wo c9 (vF AK rfl BH (wo c9 (vL 0 Cc rfl (wo c9 (wv (Bg rfl rfl) (Co rfl c9 rfl (wm rfl (AV (!decide (a.fLow=b.fLow)) (λha=>?_) (λha=>?_)))))))))))))
       ·refine wf ha (wf ha (wf ha (wf ha (wf ha (wv (r:=rB true) (Ay rfl ha rfl) (Aj ?_))))));exact Cq (And.intro c5 (And.intro c6 (And.intro c7 (And.intro c8 (And.intro c9 ha)))))
       ·refine wo ha (vF AK rfl BH (wo ha (vL 1 Cc rfl (wo ha (vF AK rfl BH (wo ha (vL 0 Cc rfl (wo ha (wv (Bg rfl rfl) (Co rfl ha rfl (Aj ?_)))))))))));exact Cq (And.intro c5 (And.intro c6 (And.intro c7 (And.intro c8 (And.intro c9 ha)))))
 refine cz h4 rfl (λhi hj=>?_) (λhi hk=>?_)
 ·refine Ah (wa rfl (Al (Aq (Ac ?_))));obtain rfl:=Am hj;exact Ap (By Tryz.results23 (A9 rfl)) (sS (sS sN)) ⟨rfl,rfl⟩
 ·refine Av (AH (Ao (Ah (vF AK rfl CG (vL 1 CS rfl (wv (AL (ys:=a.fValues) (enc:=Ae) BM rfl) (wv (r:=Ai 0) (A4 rfl) (Al (AB (ob hk λhl hm hh=>Bi (S:=Nat×(Int)×(Unit)) (V:=(Unit)×(Unit)) 0 (λσ=>BW (λσ=>ES F a b σ) σ.1 σ.2.1=some hl) (λσ=>[(2,rP b1 0),(3,rP b2 0),(60,Ai (a.fValues.length:Int)),(61,Ai σ.2.1)]) (λσ=>[.blk b2 (Ad b) 26,.blk b1 (Ad a) 26]) (λσ=>σ.1) (F,0,()) hm (A5.c rfl (A5.c rfl (A5.c rfl (A5.c rfl A5.nil)))) (sC (sC sN)) (λσ=>ER =some r) (λσ=>[]) (λσ=>[]) ?_ ?_))))))))))
  ·rintro⟨hA,hb,⟨⟩⟩ hn;refine B3 (l':=[(2,rP b1 0),(3,rP b2 0),(60,Ai (a.fValues.length:Int)),(61,Ai hb)]) (H':=[.blk b2 (Ad b) 26,.blk b1 (Ad a) 26]) rfl rfl ?_;obtain⟨ho,rfl,hp,he,hg⟩:=Ch hn;replace he:ES F a b hb=some hp:=he;unfold ES at he;refine Ah (wv (Cr rfl rfl) (Al (Ao (cz he rfl (λhq hr=>?_) (λhq hs=>?_)))))
   ·refine Av (AH (Ao (AB (Ah (wm rfl (wa rfl (Al (Ao (ck hr λht hu=>ck hu λhw hx=>Kk 10 [2,3,5,60,61] [⟨[],rP b1 2,none,none,none⟩,⟨[0],AE 1 (A3 Ae a.fValues),none,none,none⟩,⟨[],Ai hb,none,none,none⟩,⟨[1,2],Jm [AE 4 (A3 Ab (Ax a.fValues hb))],none,none,none⟩,⟨[3],AE 4 (A3 Ab (Ax a.fValues hb)),none,none,none⟩,⟨[],rP b2 2,none,none,none⟩,⟨[5],AE 1 (A3 Ae b.fValues),none,none,none⟩,⟨[],Ai hb,none,none,none⟩,⟨[6,7],Jm [AE 4 (A3 Ab (Ax b.fValues hb))],none,none,none⟩,⟨[8],AE 4 (A3 Ab (Ax b.fValues hb)),none,none,none⟩] ?_ (λβ=>?_))))))))))
    ·refine Ma (AA AK rfl CG rfl rfl) (Vo (Bb (i:=1) CS rfl rfl rfl) (Ma (A4 rfl) (Ma (AU (enc:=Ae) (ys:=a.fValues) BM BY rfl rfl ht) (Ma (AJ CC rfl rfl) (Ma (AA AK rfl CG rfl rfl) (Vo (Bb (i:=0) CS rfl rfl rfl) (Ma (A4 rfl) (Ma (AU (enc:=Ae) (ys:=b.fValues) BM BY rfl rfl hw) (Ma (AJ CC rfl rfl) ?_)))))))));exact Vp
    refine Mq (H1:=[.blk b2 (Ad b) 26,.blk b1 (Ad a) 26]) [64,65,66,67,68,69,70,71,72,73,2,3,5,60,61] ?_;refine ob hx λhy hz h0=>Ct Tryz.call64 (O8 F (Ax a.fValues hb) (Ax b.fValues hb) hy hz) rfl (wv (Bz rfl) (Al (cz h0 rfl (λh1 h2=>?_) (λh1 h3=>?_))))
    ·refine Ah (wa rfl (Al (Aq (An (Ac (Ac (AN ?_)))))));have h5:=Bh h2 hg hh;refine An (Ac ?_);obtain rfl:=Am h5;exact Ap (By Tryz.results23 (A9 rfl)) (sS (sS sN)) ⟨rfl,rfl⟩
    ·refine Av (A8 (AH (Ak (ck h3 λh6 h7=>wv (Bk rfl rfl h6) (wm rfl (Aj ?_))))));have h8:=Bc h7 hg;exact As (At (ho,hb+1,()) ⟨h8,VO _⟩ (A5.c rfl (A5.c rfl (A5.c rfl (A5.c rfl A5.nil)))) (sC (sC sN)))
   ·refine Bs (A0 ?_);have h9:=BF hs hg hh;exact A0 (AS (At ((),()) h9 A5.nil (sS (sS sN))))
  ·rintro⟨⟨⟩,⟨⟩⟩ hf;refine Cj (l':=[]) (H':=[]) rfl rfl ?_;replace hf:ER =some r:=hf;unfold ER at hf;refine AW (AH (Ah (wa rfl (Al (Aq ?_)))));obtain rfl:=Am hf;exact Ap (By Tryz.results23 (A9 rfl)) sN ⟨rfl,rfl⟩
theorem Ht (F:Nat)(v:(List Aa))(r:Bool)(h:Cm F v=some r):Fn Tryz.prog GE 11 [AE 4 (A3 Ab v)] [] (λR H=>R=rB r∧H=[]):=by
 refine enter (n:=20) Tryz.func11 rfl Tryz.ntmps11 rfl (λw Z=>?_);unfold Cm at h;refine Ah (wa rfl (Al (Ao (Ah (wm rfl (wv (AL (ys:=v) (enc:=Ab) B0 rfl) (wv (Dh rfl rfl) (Al (cz h rfl (λc1 h2=>?_) (λc1 h3=>?_))))))))))
 ·refine Ah (wa rfl (Al (Aq (Ac ?_))));obtain rfl:=Am h2;exact Ap (By Tryz.results11 (A9 rfl)) sN ⟨rfl,rfl⟩
 ·refine Av (AH (Ao (Ah (wm rfl (wv (AL (ys:=v) (enc:=Ab) B0 rfl) (wv (r:=Ai 0) (A4 rfl) (Al (AB (ob h3 λhh hi hg=>Bi (S:=Nat×(Int)×(Unit)) (V:=(Unit)×(Unit)) 0 (λσ=>BW (λσ=>Cy v σ) σ.1 σ.2.1=some hh) (λσ=>[(0,AE 4 (A3 Ab v)),(8,Ai (v.length:Int)),(9,Ai σ.2.1)]) (λσ=>[]) (λσ=>σ.1) (F,0,()) hi (A5.c rfl (A5.c rfl (A5.c rfl A5.nil))) sN (λσ=>CK =some r) (λσ=>[]) (λσ=>[]) ?_ ?_)))))))))
  ·rintro⟨hz,he,⟨⟩⟩ hj;refine B3 (l':=[(0,AE 4 (A3 Ab v)),(8,Ai (v.length:Int)),(9,Ai he)]) (H':=[]) rfl rfl ?_;obtain⟨hk,rfl,t37,ha,hf⟩:=Ch hj;replace ha:Cy v he=some t37:=ha;unfold Cy at ha;refine Ah (wv (Cr rfl rfl) (Al (Ao (cz ha rfl (λhl hm=>?_) (λhl hn=>?_)))))
   ·refine Av (AH (Ao (AB (Ah (wm rfl (wa rfl (AX (wm rfl (wm rfl (ck hm λho hp=>wv (AU (enc:=Ab) (ys:=v) B0 BI rfl rfl ho) (wv (AQ B9 rfl CE rfl rfl) (wv (AJ CP rfl rfl) (wv (BK DJ rfl) (wv (Dh rfl rfl) (Al (cz hp rfl (λhq hr=>?_) (λhq hs=>?_)))))))))))))))))
    ·refine Ah (wa rfl (Al (Aq (An (Ac (Ac (AN ?_)))))));have ht:=Bh hr hf hg;refine An (Ac ?_);obtain rfl:=Am ht;exact Ap (By Tryz.results11 (A9 rfl)) sN ⟨rfl,rfl⟩
    ·refine Av (A8 (AH (Ak (ck hs λhu hw=>wv (Bk rfl rfl hu) (wm rfl (Aj ?_))))));have hx:=Bc hw hf;exact As (At (hk,he+1,()) ⟨hx,VO _⟩ (A5.c rfl (A5.c rfl (A5.c rfl A5.nil))) sN)
   ·refine Bs (A0 ?_);have hy:=BF hn hf hg;exact A0 (AS (At ((),()) hy A5.nil sN))
  ·rintro⟨⟨⟩,⟨⟩⟩ hb;refine Cj (l':=[]) (H':=[]) rfl rfl ?_;replace hb:CK =some r:=hb;unfold CK at hb;refine AW (AH (Ah (wa rfl (Al (Aq ?_)))));obtain rfl:=Am hb;exact Ap (By Tryz.results11 (A9 rfl)) sN ⟨rfl,rfl⟩
theorem Lw (F:Nat)(f:Af)(r:Bool)(h:Cn F f=some r):Fn Tryz.prog GE 9 [Bv (Ad f)] [] (λR H=>R=rB r∧H=[]):=by
 refine enter (n:=49) Tryz.func9 rfl Tryz.ntmps9 rfl (λw Z=>?_);unfold Cn at h;refine Ah (Bt rfl rfl (λb1=>?_));refine wa rfl (Al (Ao (AM [(1,rP b1 0),(20,rB ((decide (10<(f.fPath.length:Int)))||((decide (20<(f.fValues.length:Int)))||(decide (1000<(f.fText.length:Int))))))] [.blk b1 (Ad f) 26] ?_ ?_)))
 ·refine Ak (vF AK rfl Gh (vL 0 Hx rfl (wv (AL (ys:=f.fPath) (enc:=eS) CR rfl) (wv (Dh rfl rfl) (wm rfl (AV (decide (10<(f.fPath.length:Int))) (λc2=>?_) (λc2=>?_)))))))
  ·refine wf c2 (wf c2 (wf c2 (wf c2 (wv (r:=rB true) (Ay rfl c2 rfl) (wm rfl (wz rfl rfl (wz rfl rfl (wz rfl rfl (wz rfl rfl (wv (r:=rB true) (Ay (b:=true) rfl rfl rfl) (Aj ?_)))))))))));exact Cq c2
  ·refine wo c2 (vF AK rfl CG (wo c2 (vL 0 CS rfl (wo c2 (wv (AL (ys:=f.fValues) (enc:=Ae) BM rfl) (wo c2 (wv (Dh rfl rfl) (Co rfl c2 rfl (wm rfl (AV (decide (20<(f.fValues.length:Int))) (λc3=>?_) (λc3=>?_)))))))))))
   ·refine wf c3 (wf c3 (wf c3 (wf c3 (wv (r:=rB true) (Ay rfl c3 rfl) (Aj ?_)))));exact Cq (And.intro c2 c3)
   ·refine wo c3 (vF AK rfl CE (wo c3 (vL 0 CP rfl (wo c3 (wv (BK DJ rfl) (wo c3 (wv (Dh rfl rfl) (Co rfl c3 rfl (Aj ?_)))))))));exact Cq (And.intro c2 c3)
 refine cz h rfl (λc4 h5=>?_) (λc4 h6=>?_)
 ·refine Ah (wa rfl (Al (Aq (Ac ?_))));obtain rfl:=Am h5;exact Ap (By Vl (A9 rfl)) (sS sN) ⟨rfl,rfl⟩
 ·refine Av (AH (Ao (Ah (vF AK rfl Gh (vL 0 Hx rfl (wv (AL (ys:=f.fPath) (enc:=eS) CR rfl) (wv (r:=Ai 0) (A4 rfl) (Al (AB (ob h6 λhm hn hk=>Bi (S:=Nat×(Int)×(Unit)) (V:=(Unit)×(Unit)) 0 (λσ=>BW (λσ=>D7 f σ) σ.1 σ.2.1=some hm) (λσ=>[(1,rP b1 0),(23,Ai (f.fPath.length:Int)),(24,Ai σ.2.1)]) (λσ=>[.blk b1 (Ad f) 26]) (λσ=>σ.1) (F,0,()) hn (A5.c rfl (A5.c rfl (A5.c rfl A5.nil))) (sC sN) (λσ=>D5 F f =some r) (λσ=>[(1,rP b1 0)]) (λσ=>[.blk b1 (Ad f) 26]) ?_ ?_))))))))))
  ·rintro⟨hT,hh,⟨⟩⟩ ho;refine B3 (l':=[(1,rP b1 0),(23,Ai (f.fPath.length:Int)),(24,Ai hh)]) (H':=[.blk b1 (Ad f) 26]) rfl rfl ?_;obtain⟨hp,rfl,hq,ha,hi⟩:=Ch ho;replace ha:D7 f hh=some hq:=ha;unfold D7 at ha;refine Ah (wv (Cr rfl rfl) (Al (Ao (cz ha rfl (λc46 hr=>?_) (λc46 hs=>?_)))))
   ·refine Av (AH (Ao (AB (Ah (wm rfl (wa rfl (AX (vF AK rfl Gh (vL 0 Hx rfl (wm rfl (ck hr λht hu=>wv (AU (enc:=eS) (ys:=f.fPath) CR CE rfl rfl ht) (wv (AJ CP rfl rfl) (wv (BK DJ rfl) (wv (Dh rfl rfl) (Al (cz hu rfl (λhw hx=>?_) (λhw hy=>?_)))))))))))))))))
    ·refine Ah (wa rfl (Al (Aq (An (Ac (Ac (AN ?_)))))));have hz:=Bh hx hi hk;refine An (Ac ?_);obtain rfl:=Am hz;exact Ap (By Vl (A9 rfl)) (sS sN) ⟨rfl,rfl⟩
    ·refine Av (A8 (AH (Ak (ck hy λh0 h1=>wv (Bk rfl rfl h0) (wm rfl (Aj ?_))))));have h2:=Bc h1 hi;exact As (At (hp,hh+1,()) ⟨h2,VO _⟩ (A5.c rfl (A5.c rfl (A5.c rfl A5.nil))) (sC sN))
   ·refine Bs (A0 ?_);have h3:=BF hs hi hk;exact A0 (AS (At ((),()) h3 (A5.c rfl A5.nil) (sC sN)))
  ·rintro⟨⟨⟩,⟨⟩⟩ hb;refine Cj (l':=[(1,rP b1 0)]) (H':=[.blk b1 (Ad f) 26]) rfl rfl ?_;replace hb:D5 F f =some r:=hb;unfold D5 at hb;refine AW (AH (Ao (Ah (vF AK rfl CG (vL 0 CS rfl (wv (AL (ys:=f.fValues) (enc:=Ae) BM rfl) (wv (r:=Ai 0) (A4 rfl) (Al (AB (ob hb λh4 h7 hl=>Bi (S:=Nat×(Int)×(Unit)) (V:=(Unit)×(Unit)) 2 (λσ=>BW (λσ=>D6 F f σ) σ.1 σ.2.1=some h4) (λσ=>[(1,rP b1 0),(37,Ai (f.fValues.length:Int)),(38,Ai σ.2.1)]) (λσ=>[.blk b1 (Ad f) 26]) (λσ=>σ.1) (F,0,()) h7 (A5.c rfl (A5.c rfl (A5.c rfl A5.nil))) (sC sN) (λσ=>Ee =some r) (λσ=>[]) (λσ=>[]) ?_ ?_))))))))))
   ·rintro⟨hU,he,⟨⟩⟩ h8;refine B3 (l':=[(1,rP b1 0),(37,Ai (f.fValues.length:Int)),(38,Ai he)]) (H':=[.blk b1 (Ad f) 26]) rfl rfl ?_;obtain⟨h9,rfl,hA,hf,hj⟩:=Ch h8;replace hf:D6 F f he=some hA:=hf;unfold D6 at hf;refine Ah (wv (Cr rfl rfl) (Al (Ao (cz hf rfl (λhB hC=>?_) (λhB hD=>?_)))))
    ·refine Av (AH (Ao (AB (Ah (wm rfl (wa rfl (AX (vF AK rfl CG (vL 0 CS rfl (wm rfl (ck hC λhE hG=>wv (AU (enc:=Ae) (ys:=f.fValues) BM BY rfl rfl hE) (wv (AJ CC rfl rfl) (ob hG λhH hI hJ=>Ct Tryz.call11 (Ht F (Ax f.fValues he) hH hI) rfl (wv (Bz rfl) (Al (cz hJ rfl (λhK hL=>?_) (λhK hN=>?_)))))))))))))))))
     ·refine Ah (wa rfl (Al (Aq (An (Ac (Ac (AN ?_)))))));have hO:=Bh hL hj hl;refine An (Ac ?_);obtain rfl:=Am hO;exact Ap (By Vl (A9 rfl)) (sS sN) ⟨rfl,rfl⟩
     ·refine Av (A8 (AH (Ak (ck hN λhP hQ=>wv (Bk rfl rfl hP) (wm rfl (Aj ?_))))));have hR:=Bc hQ hj;exact As (At (h9,he+1,()) ⟨hR,VO _⟩ (A5.c rfl (A5.c rfl (A5.c rfl A5.nil))) (sC sN))
    ·refine Bs (A0 ?_);have hS:=BF hD hj hl;exact A0 (AS (At ((),()) hS A5.nil (sS sN)))
   ·rintro⟨⟨⟩,⟨⟩⟩ hg;refine Cj (l':=[]) (H':=[]) rfl rfl ?_;replace hg:Ee =some r:=hg;unfold Ee at hg;refine AW (AH (Ah (wa rfl (Al (Aq ?_)))));obtain rfl:=Am hg;exact Ap (By Vl (A9 rfl)) sN ⟨rfl,rfl⟩
end Go.Proofs.YtghdglcmblpbeaaGreatDoor.Q
namespace Go.Proofs.YtghdglcmblpbeaaGreatDoor
open Go
set_option linter.unusedVariables false
def IV (n:Int):Option ((List Aa)):=
 some ([(Aa.mk 3 n ([]:Ar) 0)]:List Aa)
def CT (F:Nat) :Option (Bool):=
 Bf (MH F (Af.mk ([([97]:Ar)]:List Ar) 6 ([]:List (List Aa)) ([]:Ar) 1 5)) λr4=>Bf (O4 F ([91,91,34,97,34,93,44,34,114,97,110,103,101,34,44,49,44,53,93]:Ar)) λr7=>Bf (IV 2) λha=>Bf (Gc F (Af.mk ([([97]:Ar)]:List Ar) 6 ([]:List (List Aa)) ([]:Ar) 1 5) ([(Aa.mk 6 0 ([]:Ar) 1),(Aa.mk 4 0 ([97]:Ar) 0),(Aa.mk 3 3 ([]:Ar) 0)]:List Aa)) λhb=>AR (hb)<|Bf (IV 3) λhe=>Bf (Gc F (Af.mk ([([97]:Ar)]:List Ar) 6 ([]:List (List Aa)) ([]:Ar) 1 5) he) λhf=>AR (!hf)<|AR (decide (r4.1=([91,91,34,97,34,93,44,34,114,97,110,103,101,34,44,49,44,53,93]:Ar)))<|AR (decide (r4.2=0))<|AR (decide (r7.2=0))<|Bf (Lx F (Af.mk ([([97]:Ar)]:List Ar) 6 ([]:List (List Aa)) ([]:Ar) 1 5) r7.1) λhg=>AR (hg)<|Bf (Cs F (Af.mk ([([97]:Ar)]:List Ar) 6 ([]:List (List Aa)) ([]:Ar) 2 3) (Af.mk ([([97]:Ar)]:List Ar) 6 ([]:List (List Aa)) ([]:Ar) 1 5)) λhh=>AR (hh)<|Bf (Cs F (Af.mk ([([97]:Ar)]:List Ar) 6 ([]:List (List Aa)) ([]:Ar) 2 3) (Af.mk ([([97]:Ar)]:List Ar) 4 ([ha]:List (List Aa)) ([]:Ar) 0 0)) λhi=>AR (!hi)<|Bf (O5 F ([]:List Af) ([(Aa.mk 6 0 ([]:Ar) 1),(Aa.mk 4 0 ([97]:Ar) 0),(Aa.mk 3 3 ([]:Ar) 0)]:List Aa)) λhj=>some hj
def HF (F:Nat)(a:Af)(b:Af)(v:(List Aa)):Option (Bool):=
 AR ((Cn F a).isSome)<|AR (imp (!(!(ov (Cn F a)))) ((Cn F b).isSome))<|AR (imp (!(!(ov (Cn F a)))) (imp (!(!(ov (Cn F b)))) ((Cm F v).isSome)))<|AP (((!(ov (Cn F a)))||((!(ov (Cn F b)))||(!(ov (Cm F v)))))) (Bf (CT F) λha=>some ha) (AR ((Cs F a b).isSome)<|AR (imp (!(ov (Cs F a b))) ((CT F).isSome))<|AR (imp (!(!(ov (Cs F a b)))) ((Gc F a v).isSome))<|AR (imp (!(!(ov (Cs F a b)))) (imp (!(ov (Gc F a v))) ((CT F).isSome)))<|AR (imp (!(!(ov (Cs F a b)))) (imp (!(!(ov (Gc F a v)))) ((Gc F b v).isSome)))<|AR (imp (!(!(ov (Cs F a b)))) (imp (!(!(ov (Gc F a v)))) (imp ((ov (Gc F b v))) ((CT F).isSome))))<|some (bif !(ov (Cs F a b)) then(ov (CT F)) else(bif !(ov (Gc F a v)) then(ov (CT F)) else((ov (Gc F b v))&&(ov (CT F))))))
end Go.Proofs.YtghdglcmblpbeaaGreatDoor
namespace Go.Proofs.YtghdglcmblpbeaaGreatDoor.Q
open Go Go.RowKit
set_option linter.unusedVariables false
set_option linter.unusedSimpArgs false
set_option maxRecDepth 100000
set_option maxHeartbeats 4000000
theorem Ke {n:Nat}{c:Cx}{l:Fr}{H:List Ent}{d:Option Nat}{ty:TypeId}{pos:String}{af:Array Edge}{g:Option (Nat×Bool)}{x0:Operand}{r0:Rp}(h0:ev l x0=some r0)(u0:r0.one=true){x1:Operand}{r1:Rp}(h1:ev l x1=some r1)(u1:r1.one=true){x2:Operand}{r2:Rp}(h2:ev l x2=some r2)(u2:r2.one=true):Bn Tryz.prog n c l H { dst:=d,op:=.build 26 #[(0,x0),(1,x1),(2,x2)],type:=ty,pos:=pos,after:=af,guard:=g } (Bv [r0,r1,r2,rS ([]:Ar),Ai 0,Ai 0]):=λa w Z ha _=>by
  have p0:=ha.ev h0;have c0:=B8 (r0.hone u0 Z _ p0);have p1:=ha.ev h1;have c1:=B8 (r1.hone u1 Z _ p1);have p2:=ha.ev h2;have c2:=B8 (r2.hone u2 Z _ p2);have hb:Tryz.prog.built 26 [(0,a.eval x0),(1,a.eval x1),(2,a.eval x2)]=some #[a.eval x0,a.eval x1,a.eval x2,(.string ⟨#[]⟩),(.int .i64 0),(.int .i64 0)]:=by
    rw[MP];generalize a.eval x0=v0 at *;generalize a.eval x1=v1 at *;generalize a.eval x2=v2 at *;simp[Instr.fill,c0,c1,c2]
  refine⟨.agg #[a.eval x0,a.eval x1,a.eval x2,(.string ⟨#[]⟩),(.int .i64 0),(.int .i64 0)],⟨[a.eval x0,a.eval x1,a.eval x2,(.string ⟨#[]⟩),(.int .i64 0),(.int .i64 0)],rfl,p0,p1,p2,rfl,rfl,rfl,trivial⟩,?_⟩;have:=run_build w 26 #[(0,a.eval x0),(1,a.eval x1),(2,a.eval x2)] _ (by simpa using hb);simp[execOp,this]
theorem EM {n:Nat}{c:Cx}{l:Fr}{H:List Ent}{d:Option Nat}{ty:TypeId}{pos:String}{af:Array Edge}{g:Option (Nat×Bool)}{x0:Operand}{r0:Rp}(h0:ev l x0=some r0)(u0:r0.one=true){x1:Operand}{r1:Rp}(h1:ev l x1=some r1)(u1:r1.one=true){x4:Operand}{r4:Rp}(h4:ev l x4=some r4)(u4:r4.one=true){x5:Operand}{r5:Rp}(h5:ev l x5=some r5)(u5:r5.one=true):Bn Tryz.prog n c l H { dst:=d,op:=.build 26 #[(0,x0),(1,x1),(4,x4),(5,x5)],type:=ty,pos:=pos,after:=af,guard:=g } (Bv [r0,r1,rv (.slice none 0 0),rS ([]:Ar),r4,r5]):=λa w Z ha _=>by
  have p0:=ha.ev h0;have c0:=B8 (r0.hone u0 Z _ p0);have p1:=ha.ev h1;have c1:=B8 (r1.hone u1 Z _ p1);have p4:=ha.ev h4;have c4:=B8 (r4.hone u4 Z _ p4);have p5:=ha.ev h5;have c5:=B8 (r5.hone u5 Z _ p5);have hb:Tryz.prog.built 26 [(0,a.eval x0),(1,a.eval x1),(4,a.eval x4),(5,a.eval x5)]=some #[a.eval x0,a.eval x1,((.slice none 0 0)),(.string ⟨#[]⟩),a.eval x4,a.eval x5]:=by
    rw[MP];generalize a.eval x0=v0 at *;generalize a.eval x1=v1 at *;generalize a.eval x4=v4 at *;generalize a.eval x5=v5 at *;simp[Instr.fill,c0,c1,c4,c5]
  refine⟨.agg #[a.eval x0,a.eval x1,((.slice none 0 0)),(.string ⟨#[]⟩),a.eval x4,a.eval x5],⟨[a.eval x0,a.eval x1,((.slice none 0 0)),(.string ⟨#[]⟩),a.eval x4,a.eval x5],rfl,p0,p1,rfl,rfl,p4,p5,trivial⟩,?_⟩;have:=run_build w 26 #[(0,a.eval x0),(1,a.eval x1),(4,a.eval x4),(5,a.eval x5)] _ (by simpa using hb);simp[execOp,this]
theorem Ll (n:Int)(r:(List Aa))(h:IV n=some r):Fn Tryz.prog GE 28 [Ai n] [] (λR H=>R=AE 4 (A3 Ab r)∧H=[]):=by
 refine enter (n:=6) Tryz.func28 rfl Tryz.ntmps28 rfl (λw Z=>?_);unfold IV at h;refine Ah (wa rfl (AX (wm rfl (wv (r:=Bv [Ai 3,Ai n,rS ([]:Ar),Ai 0]) (Dr rfl rfl rfl rfl) (AO (ys:=([(Aa.mk 3 n ([]:Ar) 0)]:List Aa)) (enc:=Ab) (css:=[[Ai 3,Ai n,rS ([]:Ar),Ai 0]]) (xs:=[.tmp 4]) B0 BI Ic rfl rfl rfl ⟨DX.agg ⟨Up.refl _,Up.refl _,Up.refl _,Up.refl _,trivial⟩,trivial⟩ rfl AY rfl rfl rfl (λb1=>?_))))));refine wa rfl (Al (Aq (WK.freeze (i:=0) rfl (WK.up (d:=2) (r:=AE 4 (A3 Ab ([(Aa.mk 3 n ([]:Ar) 0)]:List Aa))) rfl (Up.fact (i:=0) rfl) ?_))));obtain rfl:=Am h;exact Ap (By Tryz.results28 (A9 rfl)) (sS sN) ⟨rfl,rfl⟩
theorem IW (F:Nat)  (r:Bool)(h:CT F=some r):Fn Tryz.prog GE 12 [] [] (λR H=>R=rB r∧H=[]):=by
 refine enter (n:=71) Tryz.func12 rfl Tryz.ntmps12 rfl (λw Z=>?_);unfold CT at h;refine Ah (wa rfl (AX (AO (ys:=([([97]:Ar)]:List Ar)) (enc:=eS) (css:=[[rS ([97]:Ar)]]) (xs:=[.const (.string ⟨#[97]⟩)]) CR CE UD rfl rfl rfl ⟨DX.one rfl (Up.refl _),trivial⟩ rfl HM rfl rfl rfl (λb1=>?_))));refine wv (r:=Bv [rv (.slice (some ⟨b1,0,none⟩) 1 1),Ai 6,rv (.slice none 0 0),rS ([]:Ar),Ai 1,Ai 5]) (EM rfl rfl rfl rfl rfl rfl rfl rfl) (Ca (cs:=[rv (.slice none 0 0),Ai 0,rv (.slice none 0 0),rS ([]:Ar),Ai 0,Ai 0]) MY rfl rfl (λb2=>?_));refine Ba (i:=0) B1 rfl rfl rfl ⟨(C5 (i:=1) rfl),(B2 rfl),(B2 rfl),(B2 rfl),(B2 rfl),(B2 rfl),trivial⟩ rfl rfl (cs':=[rv (.slice (some ⟨b1,0,none⟩) 1 1),Ai 6,rv (.slice none 0 0),rS ([]:Ar),Ai 1,Ai 5]) rfl (H':=[.blk b2 [rv (.slice (some ⟨b1,0,none⟩) 1 1),Ai 6,rv (.slice none 0 0),rS ([]:Ar),Ai 1,Ai 5] 26,.row (.slice (some ⟨b1,0,none⟩) 1 1) 9 1 (A3 eS ([([97]:Ar)]:List Ar))]) rfl (AX (wv (r:=Bv [Ai 6,Ai 0,rS ([]:Ar),Ai 1]) (Ij rfl rfl rfl rfl) (wv (r:=Bv [Ai 4,Ai 0,rS ([97]:Ar),Ai 0]) (DW rfl rfl rfl rfl) (wv (r:=Bv [Ai 3,Ai 3,rS ([]:Ar),Ai 0]) (Dr rfl rfl rfl rfl) (AO (ys:=([(Aa.mk 6 0 ([]:Ar) 1),(Aa.mk 4 0 ([97]:Ar) 0),(Aa.mk 3 3 ([]:Ar) 0)]:List Aa)) (enc:=Ab) (css:=[[Ai 6,Ai 0,rS ([]:Ar),Ai 1],[Ai 4,Ai 0,rS ([97]:Ar),Ai 0],[Ai 3,Ai 3,rS ([]:Ar),Ai 0]]) (xs:=[.tmp 11,.tmp 12,.tmp 13]) B0 BI Ic rfl rfl rfl ⟨DX.agg ⟨Up.refl _,Up.refl _,Up.refl _,Up.refl _,trivial⟩,DX.agg ⟨Up.refl _,Up.refl _,Up.refl _,Up.refl _,trivial⟩,DX.agg ⟨Up.refl _,Up.refl _,Up.refl _,Up.refl _,trivial⟩,trivial⟩ rfl AY rfl rfl rfl (λb3=>?_))))));refine wa rfl (AX (wv (AG (i:=1) BN B1 rfl rfl rfl rfl) (WL.freeze (i:=2) rfl (WL.up (d:=16) (r:=Bv [AE 1 (A3 eS ([([97]:Ar)]:List Ar)),Ai 6,rv (.slice none 0 0),rS ([]:Ar),Ai 1,Ai 5]) rfl (Up.agg ⟨Up.fact (i:=0) rfl,Up.refl _,Up.refl _,Up.refl _,Up.refl _,Up.refl _,trivial⟩) (WL.up (d:=16) (r:=Bv [AE 1 (A3 eS ([([97]:Ar)]:List Ar)),Ai 6,AE 1 (A3 Ae ([]:List (List Aa))),rS ([]:Ar),Ai 1,Ai 5]) rfl (Up.agg ⟨Up.refl _,Up.refl _,Up.le (DB.nil _),Up.refl _,Up.refl _,Up.refl _,trivial⟩) (ob h λr4 e6 h5=>Ct Tryz.call19 (Qn F (Af.mk ([([97]:Ar)]:List Ar) 6 ([]:List (List Aa)) ([]:Ar) 1 5) r4 e6) rfl (wm rfl (wv (A7 rfl rfl) (wv (A7 rfl rfl) (wa rfl (wa rfl (AX (ob h5 λr7 e9 h8=>Ct Tryz.call21 (RA F ([91,91,34,97,34,93,44,34,114,97,110,103,101,34,44,49,44,53,93]:Ar) r7 e9) rfl (wm rfl (wv (A7 rfl rfl) (wv (A7 rfl rfl) (Ca (cs:=[rv (.slice none 0 0),Ai 0,rv (.slice none 0 0),rS ([]:Ar),Ai 0,Ai 0]) MY rfl rfl (λhq=>?_))))))))))))))))));refine Ba (i:=0) B1 rfl rfl rfl (BB.c rfl) rfl rfl (cs':=[AE 1 (A3 eS r7.1.fPath),Ai r7.1.fOp,AE 1 (A3 Ae r7.1.fValues),rS r7.1.fText,Ai r7.1.fLow,Ai r7.1.fHigh]) rfl (H':=[.blk hq (Ad r7.1) 26,.fact (.slice (some ⟨b1,0,none⟩) 1 1) (AE 1 (A3 eS ([([97]:Ar)]:List Ar))),.row (.slice (some ⟨b3,0,none⟩) 3 3) 54 4 (A3 Ab ([(Aa.mk 6 0 ([]:Ar) 1),(Aa.mk 4 0 ([97]:Ar) 0),(Aa.mk 3 3 ([]:Ar) 0)]:List Aa)),.blk b2 [rv (.slice (some ⟨b1,0,none⟩) 1 1),Ai 6,rv (.slice none 0 0),rS ([]:Ar),Ai 1,Ai 5] 26]) rfl (wa rfl (AX (AO (ys:=([([97]:Ar)]:List Ar)) (enc:=eS) (css:=[[rS ([97]:Ar)]]) (xs:=[.const (.string ⟨#[97]⟩)]) CR CE UD rfl rfl rfl ⟨DX.one rfl (Up.refl _),trivial⟩ rfl HM rfl rfl rfl (λhb=>?_))));refine wv (r:=Bv [rv (.slice (some ⟨hb,0,none⟩) 1 1),Ai 6,rv (.slice none 0 0),rS ([]:Ar),Ai 2,Ai 3]) (EM rfl rfl rfl rfl rfl rfl rfl rfl) (Ca (cs:=[rv (.slice none 0 0),Ai 0,rv (.slice none 0 0),rS ([]:Ar),Ai 0,Ai 0]) MY rfl rfl (λhx=>?_));refine Ba (i:=0) B1 rfl rfl rfl ⟨(C5 (i:=1) rfl),(B2 rfl),(B2 rfl),(B2 rfl),(B2 rfl),(B2 rfl),trivial⟩ rfl rfl (cs':=[rv (.slice (some ⟨hb,0,none⟩) 1 1),Ai 6,rv (.slice none 0 0),rS ([]:Ar),Ai 2,Ai 3]) rfl (H':=[.blk hx [rv (.slice (some ⟨hb,0,none⟩) 1 1),Ai 6,rv (.slice none 0 0),rS ([]:Ar),Ai 2,Ai 3] 26,.row (.slice (some ⟨hb,0,none⟩) 1 1) 9 1 (A3 eS ([([97]:Ar)]:List Ar)),.blk hq (Ad r7.1) 26,.fact (.slice (some ⟨b1,0,none⟩) 1 1) (AE 1 (A3 eS ([([97]:Ar)]:List Ar))),.row (.slice (some ⟨b3,0,none⟩) 3 3) 54 4 (A3 Ab ([(Aa.mk 6 0 ([]:Ar) 1),(Aa.mk 4 0 ([97]:Ar) 0),(Aa.mk 3 3 ([]:Ar) 0)]:List Aa)),.blk b2 [rv (.slice (some ⟨b1,0,none⟩) 1 1),Ai 6,rv (.slice none 0 0),rS ([]:Ar),Ai 1,Ai 5] 26]) rfl (AX (AO (ys:=([([97]:Ar)]:List Ar)) (enc:=eS) (css:=[[rS ([97]:Ar)]]) (xs:=[.const (.string ⟨#[97]⟩)]) CR CE UD rfl rfl rfl ⟨DX.one rfl (Up.refl _),trivial⟩ rfl HM rfl rfl rfl (λhm=>?_)));refine ob h8 λha hy hz=>Ct Tryz.call28 (Ll 2 ha hy) rfl (AO (ys:=([ha]:List (List Aa))) (enc:=Ae) (css:=[[AE 4 (A3 Ab ha)]]) (xs:=[.tmp 27]) BM BY Mo rfl rfl rfl ⟨DX.one rfl (Up.refl _),trivial⟩ rfl B5 rfl rfl rfl (λhn=>?_));refine wv (r:=Bv [rv (.slice (some ⟨hm,0,none⟩) 1 1),Ai 4,rv (.slice (some ⟨hn,0,none⟩) 1 1),rS ([]:Ar),Ai 0,Ai 0]) (Ke rfl rfl rfl rfl rfl rfl) (Ca (cs:=[rv (.slice none 0 0),Ai 0,rv (.slice none 0 0),rS ([]:Ar),Ai 0,Ai 0]) MY rfl rfl (λh0=>?_));refine Ba (i:=0) B1 rfl rfl rfl ⟨(C5 (i:=2) rfl),(B2 rfl),(C5 (i:=1) rfl),(B2 rfl),(B2 rfl),(B2 rfl),trivial⟩ rfl rfl (cs':=[rv (.slice (some ⟨hm,0,none⟩) 1 1),Ai 4,rv (.slice (some ⟨hn,0,none⟩) 1 1),rS ([]:Ar),Ai 0,Ai 0]) rfl (H':=[.blk h0 [rv (.slice (some ⟨hm,0,none⟩) 1 1),Ai 4,rv (.slice (some ⟨hn,0,none⟩) 1 1),rS ([]:Ar),Ai 0,Ai 0] 26,.row (.slice (some ⟨hn,0,none⟩) 1 1) 28 1 (A3 Ae ([ha]:List (List Aa))),.row (.slice (some ⟨hm,0,none⟩) 1 1) 9 1 (A3 eS ([([97]:Ar)]:List Ar)),.blk hx [rv (.slice (some ⟨hb,0,none⟩) 1 1),Ai 6,rv (.slice none 0 0),rS ([]:Ar),Ai 2,Ai 3] 26,.row (.slice (some ⟨hb,0,none⟩) 1 1) 9 1 (A3 eS ([([97]:Ar)]:List Ar)),.blk hq (Ad r7.1) 26,.fact (.slice (some ⟨b1,0,none⟩) 1 1) (AE 1 (A3 eS ([([97]:Ar)]:List Ar))),.row (.slice (some ⟨b3,0,none⟩) 3 3) 54 4 (A3 Ab ([(Aa.mk 6 0 ([]:Ar) 1),(Aa.mk 4 0 ([97]:Ar) 0),(Aa.mk 3 3 ([]:Ar) 0)]:List Aa)),.blk b2 [rv (.slice (some ⟨b1,0,none⟩) 1 1),Ai 6,rv (.slice none 0 0),rS ([]:Ar),Ai 1,Ai 5] 26]) rfl (Al (Ao (WC.upBlk (i:=8) (cs':=[AE 1 (A3 eS ([([97]:Ar)]:List Ar)),Ai 6,AE 1 (A3 Ae ([]:List (List Aa))),rS ([]:Ar),Ai 1,Ai 5]) rfl ⟨Up.fact (i:=6) rfl,Up.refl _,Up.le (DB.nil _),Up.refl _,Up.refl _,Up.refl _,trivial⟩ (WC.freeze (i:=4) rfl (WC.upBlk (i:=4) (cs':=[AE 1 (A3 eS ([([97]:Ar)]:List Ar)),Ai 6,AE 1 (A3 Ae ([]:List (List Aa))),rS ([]:Ar),Ai 2,Ai 3]) rfl ⟨Up.fact (i:=0) rfl,Up.refl _,Up.le (DB.nil _),Up.refl _,Up.refl _,Up.refl _,trivial⟩ (WC.freeze (i:=3) rfl (WC.freeze (i:=3) rfl (WC.upBlk (i:=3) (cs':=[AE 1 (A3 eS ([([97]:Ar)]:List Ar)),Ai 4,AE 1 (A3 Ae ([ha]:List (List Aa))),rS ([]:Ar),Ai 0,Ai 0]) rfl ⟨Up.fact (i:=1) rfl,Up.refl _,Up.fact (i:=0) rfl,Up.refl _,Up.refl _,Up.refl _,trivial⟩ (WC.freeze (i:=7) rfl (WC.up (d:=2) (r:=AE 4 (A3 Ab ([(Aa.mk 6 0 ([]:Ar) 1),(Aa.mk 4 0 ([97]:Ar) 0),(Aa.mk 3 3 ([]:Ar) 0)]:List Aa))) rfl (Up.fact (i:=0) rfl) (ob hz λhf h1 h2=>ck h2 λhg h3=>ob h3 λhr h4 h6=>ob h6 λhh h7 h9=>ck h9 λhs hA=>ck hA λht hB=>ck hB λhu hC=>ck hC λho hD=>ob hD λhi hE hG=>ck hG λhp hH=>ob hH λhj hI hJ=>ck hJ λhk hK=>ob hK λhe hL hN=>?_)))))))))));refine ck hN λhw hO=>ob hO λhl hP hQ=>Cz [1,2,3,4,5,6,7,8] [⟨[],Bv [AE 1 (A3 eS ([([97]:Ar)]:List Ar)),Ai 6,AE 1 (A3 Ae ([]:List (List Aa))),rS ([]:Ar),Ai 1,Ai 5],1⟩,⟨[],AE 4 (A3 Ab ([(Aa.mk 6 0 ([]:Ar) 1),(Aa.mk 4 0 ([97]:Ar) 0),(Aa.mk 3 3 ([]:Ar) 0)]:List Aa)),0⟩,⟨[0,1],rB hf,0⟩,⟨[2],rB hf,0⟩,⟨[3],Bv [AE 1 (A3 eS ([([97]:Ar)]:List Ar)),Ai 6,AE 1 (A3 Ae ([]:List (List Aa))),rS ([]:Ar),Ai 1,Ai 5],1⟩,⟨[3],AE 4 (A3 Ab hr),0⟩,⟨[4,5,3],rB hh,0⟩,⟨[6,3],rB (!hh),0⟩,⟨[3,7],rB (!hh),0⟩,⟨[8],rB (!hh),0⟩,⟨[9],rS r4.1,0⟩,⟨[10,9],rB (decide (r4.1=([91,91,34,97,34,93,44,34,114,97,110,103,101,34,44,49,44,53,93]:Ar))),0⟩,⟨[9,11],rB (decide (r4.1=([91,91,34,97,34,93,44,34,114,97,110,103,101,34,44,49,44,53,93]:Ar))),0⟩,⟨[12],rB (decide (r4.1=([91,91,34,97,34,93,44,34,114,97,110,103,101,34,44,49,44,53,93]:Ar))),0⟩,⟨[13],Ai r4.2,0⟩,⟨[14,13],rB (decide (r4.2=0)),0⟩,⟨[13,15],rB (decide (r4.2=0)),0⟩,⟨[16],rB (decide (r4.2=0)),0⟩,⟨[17],Ai r7.2,0⟩,⟨[18,17],rB (decide (r7.2=0)),0⟩,⟨[17,19],rB (decide (r7.2=0)),0⟩,⟨[20],rB (decide (r7.2=0)),0⟩,⟨[21],Bv [AE 1 (A3 eS ([([97]:Ar)]:List Ar)),Ai 6,AE 1 (A3 Ae ([]:List (List Aa))),rS ([]:Ar),Ai 1,Ai 5],1⟩,⟨[21],Bv (Ad r7.1),1⟩,⟨[22,23,21],rB hi,0⟩,⟨[21,24],rB hi,0⟩,⟨[25],rB hi,0⟩,⟨[26],Bv [AE 1 (A3 eS ([([97]:Ar)]:List Ar)),Ai 6,AE 1 (A3 Ae ([]:List (List Aa))),rS ([]:Ar),Ai 2,Ai 3],1⟩,⟨[26],Bv [AE 1 (A3 eS ([([97]:Ar)]:List Ar)),Ai 6,AE 1 (A3 Ae ([]:List (List Aa))),rS ([]:Ar),Ai 1,Ai 5],1⟩,⟨[27,28,26],rB hj,0⟩,⟨[26,29],rB hj,0⟩,⟨[30],rB hj,0⟩,⟨[31],Bv [AE 1 (A3 eS ([([97]:Ar)]:List Ar)),Ai 6,AE 1 (A3 Ae ([]:List (List Aa))),rS ([]:Ar),Ai 2,Ai 3],1⟩,⟨[31],Bv [AE 1 (A3 eS ([([97]:Ar)]:List Ar)),Ai 4,AE 1 (A3 Ae ([ha]:List (List Aa))),rS ([]:Ar),Ai 0,Ai 0],1⟩,⟨[32,33,31],rB he,0⟩,⟨[34,31],rB (!he),0⟩,⟨[31,35],rB (!he),0⟩,⟨[36],rB (!he),0⟩,⟨[37],AE 4 (A3 Ab ([(Aa.mk 6 0 ([]:Ar) 1),(Aa.mk 4 0 ([97]:Ar) 0),(Aa.mk 3 3 ([]:Ar) 0)]:List Aa)),0⟩,⟨[38,37],rB hl,0⟩,⟨[37,39],rB hl,0⟩,⟨[40],rB hl,0⟩] [0] ?_ ?_
 ·refine of (AG (i:=8) BN B1 rfl rfl rfl rfl) (oq (A4 rfl) (Dj rfl (λH=>Ec QI (Lp F (Af.mk ([([97]:Ar)]:List Ar) 6 ([]:List (List Aa)) ([]:Ar) 1 5) ([(Aa.mk 6 0 ([]:Ar) 1),(Aa.mk 4 0 ([97]:Ar) 0),(Aa.mk 3 3 ([]:Ar) 0)]:List Aa) hf h1) rfl) ?_));refine oq (A4 rfl) (on hg (of (AG (i:=8) BN B1 rfl rfl rfl rfl) (Dj rfl (λH=>Ii (b:=hf) rfl rfl hg (Ec Tryz.call28 (Ll 3 hr h4) rfl)) ?_)));refine Dj rfl (λH=>Ii (b:=hf) rfl rfl hg (Ec QI (Lp F (Af.mk ([([97]:Ar)]:List Ar) 6 ([]:List (List Aa)) ([]:Ar) 1 5) hr hh h7) rfl)) ?_;refine on hg (oq (Bz rfl) (oq (Ay rfl hg rfl) (oq (A4 rfl) (on hs (oq (A4 rfl) (on hs (oq (Hq rfl rfl) (oq (Ay rfl hs rfl) (oq (A4 rfl) (on ht (oq (A4 rfl) (on ht (oq (Bx rfl rfl) (oq (Ay rfl ht rfl) (oq (A4 rfl) (on hu (oq (A4 rfl) (on hu (oq (Bx rfl rfl) (oq (Ay rfl hu rfl) (oq (A4 rfl) (on ho (of (AG (i:=8) BN B1 rfl rfl rfl rfl) ?_)))))))))))))))))))))));refine on ho (of (AG (i:=6) BN B1 rfl rfl rfl rfl) (Dj rfl (λH=>Ii (b:=decide (r7.2=0)) rfl rfl ho (Ec Tryz.call23 (O7 F (Af.mk ([([97]:Ar)]:List Ar) 6 ([]:List (List Aa)) ([]:Ar) 1 5) r7.1 hi hE) rfl)) ?_));refine oq (Ay rfl ho rfl) (oq (A4 rfl) (on hp (of (AG (i:=5) BN B1 rfl rfl rfl rfl) (on hp (of (AG (i:=8) BN B1 rfl rfl rfl rfl) (Dj rfl (λH=>Ii (b:=hi) rfl rfl hp (Ec Tryz.call24 (Ix F (Af.mk ([([97]:Ar)]:List Ar) 6 ([]:List (List Aa)) ([]:Ar) 2 3) (Af.mk ([([97]:Ar)]:List Ar) 6 ([]:List (List Aa)) ([]:Ar) 1 5) hj hI) rfl)) ?_))))));refine oq (Ay rfl hp rfl) (oq (A4 rfl) (on hk (of (AG (i:=5) BN B1 rfl rfl rfl rfl) (on hk (of (AG (i:=4) BN B1 rfl rfl rfl rfl) (Dj rfl (λH=>Ii (b:=hj) rfl rfl hk (Ec Tryz.call24 (Ix F (Af.mk ([([97]:Ar)]:List Ar) 6 ([]:List (List Aa)) ([]:Ar) 2 3) (Af.mk ([([97]:Ar)]:List Ar) 4 ([ha]:List (List Aa)) ([]:Ar) 0 0) he hL) rfl)) ?_))))));refine on hk (oq (Bz rfl) (oq (Ay rfl hk rfl) (oq (A4 rfl) (on hw (oq (A4 rfl) (Dj rfl (λH=>Ii (b:=!he) rfl rfl hw (IQ (rs:=[rv (.slice none 0 0),AE 4 (A3 Ab ([(Aa.mk 6 0 ([]:Ar) 1),(Aa.mk 4 0 ([97]:Ar) 0),(Aa.mk 3 3 ([]:Ar) 0)]:List Aa))]) (r:=rB hl) Tryz.call17 rfl (Fn.args (RG F ([]:List Af) ([(Aa.mk 6 0 ([]:Ar) 1),(Aa.mk 4 0 ([97]:Ar) 0),(Aa.mk 3 3 ([]:Ar) 0)]:List Aa) hl hP) ⟨DB.nil _,DB.refl _,trivial⟩) rfl)) ?_))))));refine oq (Ay rfl hw rfl) (oq (AD rfl) ?_);exact Cd
 refine AH (Aq ?_);obtain rfl:=Am hQ;exact Ap (By Tryz.results12 (A9 rfl)) (sS (sS (sS (sS (sS (sS (sS (sS (sS sN))))))))) ⟨rfl,rfl⟩
theorem O1 (F:Nat)(a:Af)(b:Af)(v:(List Aa))(r:Bool)(h:HF F a b v=some r):Fn Tryz.prog GE 6 [Bv (Ad a),Bv (Ad b),AE 4 (A3 Ab v)] [] (λR H=>R=rB r∧H=[]):=by
 refine enter (n:=39) Tryz.func6 rfl Tryz.ntmps6 rfl (λw Z=>?_);unfold HF at h;refine Ah (Bt rfl rfl (λb1=>?_));refine Bt rfl rfl (λb2=>?_);refine wa rfl (Al (Ao (ck h λg3 h4=>ck h4 λg5 h6=>ck h6 λg7 h8=>AM [(2,AE 4 (A3 Ab v)),(3,rP b1 0),(4,rP b2 0),(19,rB ((!(ov (Cn F a)))||((!(ov (Cn F b)))||(!(ov (Cm F v))))))] [.blk b2 (Ad b) 26,.blk b1 (Ad a) 26] ?_ ?_)))
 ·refine Ak (wv (AG (i:=1) BN B1 rfl rfl rfl rfl) (Ct Tryz.call9 (Lw F a (ov (Cn F a)) (EX g3)) rfl (wv (Bz rfl) (wm rfl (AV (!(ov (Cn F a))) (λc9=>?_) (λc9=>?_))))))
  ·refine wf c9 (wf c9 (wf c9 (wv (r:=rB true) (Ay rfl c9 rfl) (wm rfl (wz rfl rfl (wz rfl rfl (wz rfl rfl (wv (r:=rB true) (Ay (b:=true) rfl rfl rfl) (Aj ?_)))))))));exact Cq c9
  ·refine wo c9 (wv (AG (i:=0) BN B1 rfl rfl rfl rfl) (wo c9 (Ct Tryz.call9 (Lw F b (ov (Cn F b)) (EX (C2 g5 c9))) rfl (wo c9 (wv (Bz rfl) (Co rfl c9 rfl (wm rfl (AV (!(ov (Cn F b))) (λhe=>?_) (λhe=>?_)))))))))
   ·refine wf he (wf he (wf he (wv (r:=rB true) (Ay rfl he rfl) (Aj ?_))));exact Cq (And.intro c9 he)
   ·refine wo he (wm rfl (wo he (Ct Tryz.call11 (Ht F v (ov (Cm F v)) (EX (C2 (C2 g7 c9) he))) rfl (wo he (wv (Bz rfl) (Co rfl he rfl (Aj ?_)))))));exact Cq (And.intro c9 he)
 refine cz h8 rfl (λhg hh=>?_) (λhg hi=>?_)
 ·refine Ah (ob hh λhj hk hl=>Ct Tryz.call12 (IW F hj hk) rfl (wa rfl (Al (Aq (Ac ?_)))));obtain rfl:=Am hl;exact Ap (By Tryz.results6 (A9 rfl)) (sS (sS sN)) ⟨rfl,rfl⟩
 ·refine Av (AH (ck hi λg17 hm=>ck hm λg19 hn=>ck hn λho hp=>ck hp λhq hr=>ck hr λhs ht=>ck ht λhu hw=>AM [(6,rB (bif !(ov (Cs F a b)) then(ov (CT F)) else(bif !(ov (Gc F a v)) then(ov (CT F)) else((ov (Gc F b v))&&(ov (CT F))))))] [] ?_ ?_))
  ·refine Ak (wv (AG (i:=1) BN B1 rfl rfl rfl rfl) (wv (AG (i:=0) BN B1 rfl rfl rfl rfl) (Ct Tryz.call24 (Ix F a b (ov (Cs F a b)) (EX g17)) rfl (wv (Bz rfl) (wm rfl (AV (!(ov (Cs F a b))) (λha=>?_) (λha=>?_)))))))
   ·refine wf ha (wf ha (wf ha (wf ha (wv (r:=rB true) (Ay rfl ha rfl) (wm rfl (wz rfl rfl (wz rfl rfl (wz rfl rfl (wv (r:=rB true) (Ay (b:=true) rfl rfl rfl) (wm rfl (AI (b:=true) rfl rfl rfl (Ct Tryz.call12 (IW F (ov (CT F)) (EX (D3 g19 ha))) rfl (wv (r:=rB (ov (CT F))) (Ay (b:=true) rfl rfl rfl) (wa rfl (Aj ?_)))))))))))))));exact Cq ha
   ·refine wo ha (wv (AG (i:=1) BN B1 rfl rfl rfl rfl) (wo ha (wm rfl (wo ha (Ct QI (Lp F a v (ov (Gc F a v)) (EX (C2 ho ha))) rfl (wo ha (wv (Bz rfl) (Co rfl ha rfl (wm rfl (AV (!(ov (Gc F a v))) (λhb=>?_) (λhb=>?_)))))))))))
    ·refine wf hb (wf hb (wf hb (wv (r:=rB true) (Ay rfl hb rfl) (wm rfl (AI (b:=true) rfl rfl rfl (Ct Tryz.call12 (IW F (ov (CT F)) (EX (D3 (C2 hq ha) hb))) rfl (wv (r:=rB (ov (CT F))) (Ay (b:=true) rfl rfl rfl) (wa rfl (Aj ?_)))))))));exact Cq (And.intro ha hb)
    ·refine wo hb (wv (AG (i:=0) BN B1 rfl rfl rfl rfl) (wo hb (wm rfl (wo hb (Ct QI (Lp F b v (ov (Gc F b v)) (EX (C2 (C2 hs ha) hb))) rfl (Co rfl hb rfl (wm rfl (AV ((ov (Gc F b v))) (λhf=>?_) (λhf=>?_)))))))))
     ·refine wo hf (Ct Tryz.call12 (IW F (ov (CT F)) (EX (D3 (C2 (C2 hu ha) hb) hf))) rfl (C7 rfl hf rfl (wa rfl (Aj ?_))));exact Cq (And.intro ha (And.intro hb hf))
     ·refine wf hf (wv (r:=rB false) (Aw rfl hf rfl) (wa rfl (Aj ?_)));exact Cq (And.intro ha (And.intro hb hf))
  refine Aq ?_;obtain rfl:=Am hw;exact Ap (By Tryz.results6 (A9 rfl)) sN ⟨rfl,rfl⟩
end Go.Proofs.YtghdglcmblpbeaaGreatDoor.Q
namespace Go.Proofs.YtghdglcmblpbeaaGreatDoor.lawFilterImplies
open Go
set_option linter.unusedVariables false
def PV (y:Aa):Bool:=(BL .i64) y.fKind&&(BL .i64) y.fInt&&SN y.fStr&&(BL .i64) y.fN
def SO (y:Af):Bool:=(λys:(List Ar)=>ys.all SN&&decide (ys.length≤9223372036854775807)) y.fPath&&(BL .i64) y.fOp&&(λys:(List (List Aa))=>ys.all (λys:(List Aa)=>ys.all PV&&decide (ys.length≤9223372036854775807))&&decide (ys.length≤9223372036854775807)) y.fValues&&SN y.fText&&(BL .i64) y.fLow&&(BL .i64) y.fHigh
def VD:Prop:=∀(y0:Af) (y1:Af) (y2:(List Aa)) (o0:SO y0=true) (o1:SO y1=true) (o2:(λys:(List Aa)=>ys.all PV&&decide (ys.length≤9223372036854775807)) y2=true),∃F,HF F y0 y1 y2=some true
end Go.Proofs.YtghdglcmblpbeaaGreatDoor.lawFilterImplies
namespace Go.Proofs.YtghdglcmblpbeaaGreatDoor
open Go
set_option linter.unusedVariables false
set_option linter.unusedSimpArgs false
def Sr (c:UInt8):Bool:=decide (32≤c.toNat)&&decide (c.toNat≤126)
theorem T5 {s:Ar}{x:Int}{c:UInt8}(h:s[x.toNat]? =some c):BX s x=(c.toNat:Int):=by simp[BX,h]
theorem LE {α:Type}{p:α→Bool}{s:List α}{k:Nat}{c:α}(h:s[k]? =some c):(s.take (k+1)).all p=((s.take k).all p&&p c):=by
 rw[List.take_add_one,h];simp
theorem MR {α:Type}{p:α→Bool}{s:List α}{k:Nat}{c:α}(h:s[k]? =some c)(hp:p c=false):s.all p=false:=by
 rw[List.all_eq_false];exact⟨c,VX h,by simp[hp]⟩
theorem Ng {F:Nat}{s:Ar}(hF:s.length<F)(hs:s.length≤9223372036854775807):I8 F s=some (s.all Sr):=by
 obtain⟨o,h1,h2⟩:=M8 (body:=λσ=>Gm s σ) (λx=>0≤x∧x≤(s.length:Int)∧(s.take x.toNat).all Sr=true) (λx=>s.length-x.toNat)
  (λo=>BV (λ_=>Gl) o=some (s.all Sr)) (λx ⟨h0,hl,ha⟩=>by
   unfold Gm
   by_cases hx:x<(s.length:Int)
   ·obtain⟨c,hc⟩:∃c,s[x.toNat]? =some c:=⟨s[x.toNat]'(by omega),VP (by omega)⟩
    rw[Bd (by simpa using hx),BG h0 hx,T5 hc]
    cases ho:Sr c with
    | false=>
     refine .inr ⟨.ret false,?_,?_⟩
     ·rw[Bd];simp only[Sr,Bool.and_eq_false_iff,VI] at ho;simp only[Ww,VH];omega
     ·simp[BV,MR hc ho]
    | true=>
     refine .inl ⟨x+1,?_,⟨by omega,by omega,?_⟩,by omega⟩
     ·rw[AT,Bp (by omega) (by omega)];simp only[Sr,VJ,VH] at ho;simp only[Wa,VI];omega
     ·rw[show(x+1).toNat=x.toNat+1 from by omega,LE hc,ha,ho];rfl
   ·refine .inr ⟨.go (),by rw[AT (by simpa using hx)],?_⟩;rw[show x.toNat=s.length from by omega,List.take_length] at ha;simp[BV,Gl,ha]) F 0 ⟨by omega,by omega,by simp⟩ (by simpa using hF)
 unfold I8;rw[Be h1,h2]
theorem M3 (F:Nat)(s:Ar):M4 F s=I8 F s:=rfl
theorem PP {F:Nat}{s:Ar}(hF:s.length<F)(hs:s.length≤9223372036854775807):M4 F s=some (s.all Sr):=by rw[M3];exact Ng hF hs
def pl (c:Aa):Bool:=
 bif decide (c.fKind=1) then(decide (c.fInt=0)&&(decide (c.fStr=[])&&decide (c.fN=0))) else
 bif decide (c.fKind=2) then((decide (c.fInt=0)||decide (c.fInt=1))&&(decide (c.fStr=[])&&decide (c.fN=0))) else
 bif decide (c.fKind=3) then(decide (c.fStr=[])&&decide (c.fN=0)) else
 bif decide (c.fKind=4) then(decide (c.fInt=0)&&(decide (c.fN=0)&&c.fStr.all Sr)) else
 bif decide (c.fKind=5) then(decide (c.fInt=0)&&(decide (c.fStr=[])&&decide (0≤c.fN))) else
 bif decide (c.fKind=6) then(decide (c.fInt=0)&&(decide (c.fStr=[])&&decide (0≤c.fN))) else false
theorem Du {α:Type}{p:Bool}{x y:Option α}{a b:α}(h:x=some a)(h':y=some b):AP p x y=some (bif p then a else b):=by cases p<;>simp[AP,h,h']
theorem PB {F:Nat}{c:Aa}(hF:c.fStr.length<F)(hs:c.fStr.length≤9223372036854775807):KO F c=some (pl c):=by
 unfold KO pl;rw[Ng hF hs];refine Du rfl (Du ?_ (Du rfl (Du ?_ (Du rfl (Du rfl rfl)))))
 ·cases h:decide (c.fInt=0)<;>simp
 ·simp[imp,AR,ov]
def Ka:List A6→List A6
 | []=>[]
 | e::S=>bif decide (1<e.fLeft) then⟨e.fPairs,e.fLeft-1,e.fPairs,e.fLast,e.fStarted⟩::S else Ka S
theorem K6 {α:Type}[Inhabited α](xs:List α)(e:α):Ax (xs++[e]) (xs.length:Int)=e:=by simp[Ax]
theorem IL {α:Type}(xs:List α)(e e':α):List.set (xs++[e]) (Int.toNat (xs.length:Int)) e'=xs++[e']:=by simp
theorem IU {α:Type}(xs:List α)(e:α):((xs++[e]).length:Int)-1=(xs.length:Int):=by simp
theorem PI {α:Type}(xs:List α)(e:α):List.take (Int.toNat (xs.length:Int)) (xs++[e])=xs:=by simp
theorem JQ:∀(S:List A6) (F:Nat),S.length<F→(∀e∈S,1≤e.fLeft∧e.fLeft≤9223372036854775807)→S.length≤4611686018427387904→
  ∃o,BW (λσ=>Db σ) F S.reverse=some o∧BV (λν=>Dy ν) o=some (Ka S).reverse
 | [],F+1,_,_,_=>⟨.go [],by simp[BW,Db,AP],by simp[BV,Dy,Ka]⟩
 | e::S,F+1,hF,hb,hl=>by
  obtain⟨h1,h2⟩:=hb e (by simp);simp only[VM] at hF hl;have hx:S.reverse.length=S.length:=by simp
  generalize hxs:S.reverse=xs at hx;have hr:(e::S).reverse=xs++[e]:=by simp[hxs]
  rw[hr];have hb1:Db (xs++[e])=bif decide (1<e.fLeft) then some (.out (.ret (xs++[⟨e.fPairs,e.fLeft-1,e.fPairs,e.fLast,e.fStarted⟩]))) else some (.next xs):=by
   unfold Db;rw[Bd (by simp)];simp only[IU,K6,IL,Jn];rw[Bp (by omega) (by omega),BG (by omega) (by simp;omega),Bp (by omega) (by omega)]
   cases hd:decide (1<e.fLeft) with
   | true=>
    rw[Bd (by simp at hd ⊢;omega)];rfl
   | false=>
    rw[AT (by simp at hd ⊢;omega),Bp (by omega) (by omega),Hi (by omega) (by simp;omega),PI];rfl
  rw[BW,hb1]
  cases hd:decide (1<e.fLeft) with
  | true=>exact⟨_,rfl,by simp[BV,Dy,Ka,hd,hxs]⟩
  | false=>
   obtain⟨o,ho1,ho2⟩:=JQ S F (by omega) (λe he=>hb e (by simp[he])) (by omega);rw[hxs] at ho1;exact⟨o,ho1,by rw[ho2];simp[Ka,hd]⟩
theorem KP {S:List A6}{F:Nat}(hF:S.length<F)(hb:∀e∈S,1≤e.fLeft∧e.fLeft≤9223372036854775807)(hl:S.length≤4611686018427387904):II F S.reverse=some (Ka S).reverse:=by
 obtain⟨o,h1,h2⟩:=JQ S F hF hb hl;unfold II;rw[Be h1,h2]
def Js (s:Ar):Int:=s.length+2+s.count 34+s.count 92
theorem KL {s:Ar}(hs:s.length≤1152921504606846976):HS s=some (Js s):=by
 have h1:s.count 34≤s.length:=List.count_le_length;have h2:s.count 92≤s.length:=List.count_le_length;unfold HS Lib.countByte;rw[Bp (by omega) (by omega),Bp (by omega) (by omega),Bp (by omega) (by omega)];rfl
def TP (c:Aa):Int:=
 bif decide (c.fKind=1) then 4 else bif decide (c.fKind=2) then IntKind.wrap .i64 (5-c.fInt) else bif decide (c.fKind=3) then((Lib.itoa c.fInt).length:Int) else
 bif decide (c.fKind=4) then Js c.fStr else IntKind.wrap .i64 (2+max 0 (IntKind.wrap .i64 (c.fN-1)))
theorem Nh {c:Aa}(hs:c.fStr.length≤1152921504606846976)(hi:BL .i64 c.fInt=true):Ni c=some (TP c):=by
 unfold Ni TP;rw[KL hs];refine Du rfl (Du rfl (Du ?_ (Du rfl rfl)));rw[CA hi]
def Hy (d:Nat)(sh:AC)(c:Aa):AC:=
 ⟨max sh.fDepth ((d:Int)+1),IntKind.wrap .i64 (sh.fBytes+TP c),sh.fOutside||(decide (c.fKind=3)&&!(decide ((-1000000000000)≤c.fInt)&&decide (c.fInt≤1000000000000))),sh.fLong||decide (200<(c.fStr.length:Int))⟩
def UK (sh:AC)(c:Aa):AC:=⟨sh.fDepth,IntKind.wrap .i64 (sh.fBytes+(Js c.fStr+1)),sh.fOutside,sh.fLong||decide (200<(c.fStr.length:Int))⟩
def Jz:List A6→Bool
 | []=>false
 | e::_=>e.fKey
abbrev MV:=List A6×Int×AC
abbrev TJ:=Out (Int×AC×Bool) AC
def Oc (n:Int)(S:List A6)(i:Int)(sh:AC)(c:Aa):Stp MV TJ:=
 bif !pl c then .out (.ret (0,sh,false)) else
 match S with
 | e::S'=>
  bif e.fKey then
   bif !decide (c.fKind=4)||(e.fStarted&&(CH c.fStr e.fLast||decide (c.fStr=e.fLast))) then .out (.ret (0,sh,false))
   else .next ((⟨e.fPairs,e.fLeft,false,c.fStr,true⟩::S').reverse,i+1,UK sh c)
  else bif decide (0<c.fN) then
   bif decide (n<c.fN) then .out (.ret (0,Hy S.length sh c,false))
   else .next ((⟨decide (c.fKind=6),c.fN,decide (c.fKind=6),[],false⟩::S).reverse,i+1,Hy S.length sh c)
  else bif decide (Ka S=[]) then .out (.ret (i+1,Hy S.length sh c,true)) else .next ((Ka S).reverse,i+1,Hy S.length sh c)
 | []=>
  bif decide (0<c.fN) then
   bif decide (n<c.fN) then .out (.ret (0,Hy 0 sh c,false))
   else .next ([⟨decide (c.fKind=6),c.fN,decide (c.fKind=6),[],false⟩],i+1,Hy 0 sh c)
  else .out (.ret (i+1,Hy 0 sh c,true))
theorem L2 {S:List A6}:decide (((Ka S).reverse.length:Int)=0)=decide (Ka S=[]):=by
 rw[Wi];simp
theorem Ve {α:Type}{xs:List α}{e x:α}{M:Nat}(h:xs.length+1≤M)(hM2:(M+2)*48≤140737488355328):En 48 ((xs++[e]).length+([x]:List α).length)=true:=by
 refine VN (Nat.le_trans (Nat.mul_le_mul_right 48 ?_) hM2);rw[VU,Wx,Wx];omega
set_option maxHeartbeats 600000 in
theorem Nl {F:Nat}{v:List Aa}{S:List A6}{i:Int}{sh:AC}{c:Aa}(h0:0≤i)(hc:v[i.toNat]? =some c){M:Nat}(hM:M≤1152921504606846976)(hM2:(M+2)*48≤140737488355328)(hv:v.length≤M)(hS:S.length≤M)(hF:M<F)
  (hs:c.fStr.length≤M) (hi:BL .i64 c.fInt=true) (hb:∀e∈S,1≤e.fLeft∧e.fLeft≤9223372036854775807):Da F v S.reverse i sh=some (Oc v.length S i sh c):=by
 have hil:i.toNat<v.length:=(List.getElem?_eq_some_iff.1 hc).1;have hat:Ax v i=c:=by simp[Ax,hc]
 unfold Da Oc;rw[Bd (by simp;omega),BG h0 (by omega),hat,PB (by omega) (by omega),Be rfl]
 cases hp:pl c with
 | false=>rw[Bd (by simp)];rfl
 | true=>
  rw[AT (by simp)]
  cases S with
  | nil=>
   rw[CA (by simp[imp]),CA (by simp[imp]),AT (by simp),Bp (by simp) (by simp),Nh (by omega) hi,Be rfl,CA (by simp[imp,Bj])];simp only[Bj,ov,Wh,VT,VK]
   cases hn:decide (0<c.fN) with
   | true=>
    rw[Bd rfl]
    cases hm:decide ((v.length:Int)<c.fN) with
    | true=>rw[Bd rfl];simp[Hy]
    | false=>rw[AT rfl,CA (by simp[En])];unfold Dn;rw[Bp (by omega) (by omega)];simp[Hy]
   | false=>
    rw[AT rfl,Be (KP (S:=[]) (by simp;omega) (by simp) (by simp)),Bd (by simp[Ka]),Bp (by omega) (by omega)];simp[Hy]
  | cons e S'=>
   have hx:S'.reverse.length=S'.length:=by simp
   generalize hxs:S'.reverse=xs at hx;have hr:(e::S').reverse=xs++[e]:=by simp[hxs]
   simp only[VM] at hS;have hlen:((xs++[e]).length:Int)=(xs.length:Int)+1:=by simp
   rw[hr,CA (by simp only[imp,IU];rw[NC (by omega) (by omega)];simp),CA (by simp only[imp,IU];rw[Ui (by omega) (by omega)];simp)];rw[IU,K6]
   cases hk:e.fKey with
   | true=>
    rw[Bd (by simp),Bp (by omega) (by omega),BG (by omega) (by omega)];simp only[hk,VT,VK,VR]
    cases ht : !decide (c.fKind=4)||(e.fStarted&&(CH c.fStr e.fLast||decide (c.fStr=e.fLast))) with
    | true=>rw[Bd rfl];rfl
    | false=>
     rw[AT rfl,IL,Jn,K6,IL,Jn,K6,IL,Jn,KL (by omega),Be rfl,Bp (by unfold Js;omega) (by unfold Js;have:=@List.count_le_length UInt8 _ 34 c.fStr;have:=@List.count_le_length UInt8 _ 92 c.fStr;omega)];unfold Dn;rw[Bp (by omega) (by omega)];simp[UK,hxs]
   | false=>
    rw[AT (by simp),hlen,Bp (by omega) (by omega),Nh (by omega) hi,Be rfl,CA (by simp[imp,Bj])];simp only[hk,Bj,ov,Wh,VT,VK,VR]
    cases hn:decide (0<c.fN) with
    | true=>
     rw[Bd rfl]
     cases hm:decide ((v.length:Int)<c.fN) with
     | true=>rw[Bd rfl];simp[Hy,hx]
     | false=>rw[AT rfl,CA (Ve (by omega) hM2)];unfold Dn;rw[Bp (by omega) (by omega)];simp[Hy,hx,hxs]
    | false=>
     have hcl:=KP (S:=e::S') (F:=F) (by simp;omega) hb (by simp;omega);rw[hr] at hcl;rw[AT rfl,hcl,Be rfl,L2]
     cases hq:decide (Ka (e::S')=[]) with
     | true=>rw[Bd rfl,Bp (by omega) (by omega)];simp[Hy,hx]
     | false=>rw[AT rfl];unfold Dn;rw[Bp (by omega) (by omega)];simp[Hy,hx]
section
variable {S O : Type} {body : S → Option (Stp S O)} {s t u : S} {o : O}
def Dv (body:S→Option (Stp S O))(s t:S):Prop:=∃k,∀n,BW body (n+k) s=BW body n t
def Fin (body:S→Option (Stp S O))(s:S)(o:O):Prop:=∃k,∀n,BW body (n+k) s=some o
theorem Dv.refl (s:S):Dv body s s:=⟨0,λ_=>rfl⟩
theorem Dv.trans (h:Dv body s t)(h':Dv body t u):Dv body s u:=by
 obtain⟨k,hk⟩:=h;obtain⟨j,hj⟩:=h';exact⟨j+k,λn=>by rw[← Nat.add_assoc,hk,hj]⟩
theorem Dv.step (h:body s=some (.next t)):Dv body s t:=⟨1,λn=>by rw[BW,h]⟩
theorem Fin.step (h:body s=some (.out o)):Fin body s o:=⟨1,λn=>by rw[BW,h]⟩
theorem Dv.fin (h:Dv body s t)(h':Fin body t o):Fin body s o:=by
 obtain⟨k,hk⟩:=h;obtain⟨j,hj⟩:=h';exact⟨j+k,λn=>by rw[← Nat.add_assoc,hk,hj]⟩
end
inductive Fo where
 | nil
 | cell (k:Option Ar) (c:Aa) (r:Fo)
 | node (k:Option Ar) (c:Aa) (kids r:Fo)
def BJ:Option Ar→List Aa
 | none=>[]
 | some s=>[⟨4,0,s,0⟩]
def Fo.flat:Fo→List Aa
 | .nil=>[]
 | .cell k c r=>BJ k++c::r.flat
 | .node k c kids r=>BJ k++c::(kids.flat++r.flat)
def Fo.cnt:Fo→Nat
 | .nil=>0
 | .cell _ _ r=>r.cnt+1
 | .node _ _ _ r=>r.cnt+1
def Cw (m:Bool)(last:Option Ar):Option Ar→Bool
 | none=>!m
 | some s=>m&&s.all Sr&&(match last with
  | none=>true
  | some p=>!(CH s p||decide (s=p)))
def Fo.wf:Bool→Option Ar→Fo→Bool
 | _,_,.nil=>true
 | m,last,.cell k c r=>Cw m last k&&pl c&&!decide (0<c.fN)&&r.wf m k
 | m,last,.node k c kids r=>Cw m last k&&pl c&&decide (0<c.fN)&&decide (c.fN=kids.cnt)&&kids.wf (decide (c.fKind=6)) none&&r.wf m k
def JS (k:Option Ar)(sh:AC):AC:=match k with
 | none=>sh
 | some s=>UK sh ⟨4,0,s,0⟩
def Fo.sh (d:Nat):AC→Fo→AC
 | s,.nil=>s
 | s,.cell k c r=>r.sh d (Hy d (JS k s) c)
 | s,.node k c kids r=>r.sh d (kids.sh (d+1) (Hy d (JS k s) c))
def Gf (body:MV→Option (Stp MV TJ))(s:MV)(S:List A6)(i:Int)(sh:AC):Prop:=
 if Ka S=[] then Fin body s (.ret (i,sh,true)) else Dv body s ((Ka S).reverse,i,sh)
theorem Gf.of {body:MV→Option (Stp MV TJ)}{s t:MV}{S:List A6}{i:Int}{sh:AC}(h:Dv body s t)(h':Gf body t S i sh):Gf body s S i sh:=by
 unfold Gf at *
 split
 ·rename_i e;rw[if_pos e] at h';exact h.fin h'
 ·rename_i e;rw[W1 e] at h';exact h.trans h'
theorem Gf.pop {body:MV→Option (Stp MV TJ)}{s:MV}{e:A6}{S:List A6}{i:Int}{sh:AC}(h:Gf body s (e::S) i sh)(h1:e.fLeft=1):Gf body s S i sh:=by
 have:Ka (e::S)=Ka S:=by simp[Ka,h1]
 unfold Gf at *;rw[this] at h;exact h
theorem Gf.more {body:MV→Option (Stp MV TJ)}{s:MV}{e:A6}{S:List A6}{i:Int}{sh:AC}(h:Gf body s (e::S) i sh)(h1:1<e.fLeft):Dv body s ((⟨e.fPairs,e.fLeft-1,e.fPairs,e.fLast,e.fStarted⟩::S).reverse,i,sh):=by
 have:Ka (e::S)=⟨e.fPairs,e.fLeft-1,e.fPairs,e.fLast,e.fStarted⟩::S:=by simp[Ka,h1]
 unfold Gf at *;rw[this,W1 (by simp)] at h;exact h
structure P2 (F M:Nat) (v:List Aa):Prop where
 hM:M≤1152921504606846976
 hM2:(M+2)*48≤140737488355328
 hv:v.length≤M
 hF:M<F
 hc:∀c∈v,c.fStr.length≤M∧BL .i64 c.fInt=true∧c.fN≤9223372036854775807
abbrev N6 (F:Nat)(v:List Aa):MV→Option (Stp MV TJ):=λσ=>Da F v σ.1 σ.2.1 σ.2.2
def Dc (S:List A6):Prop:=∀e∈S,1≤e.fLeft∧e.fLeft≤9223372036854775807
section
variable {F M : Nat} {v : List Aa} {S : List A6} {i : Int} {sh : AC} {c : Aa} {r : List Aa} {e : A6}
theorem Ds (h0:0≤i)(h:v.drop i.toNat=c::r):v[i.toNat]? =some c∧v.drop (i+1).toNat=r∧i<v.length:=by
 have h1:(v.drop i.toNat)[0]? =some c:=by rw[h];rfl
 have h2:v[i.toNat]? =some c:=by simpa using h1
 have h3:=(List.getElem?_eq_some_iff.1 h2).1;refine⟨h2,?_,by omega⟩;rw[show(i+1).toNat=i.toNat+1 from by omega,← List.drop_drop,h];rfl
theorem round (hA:P2 F M v)(h0:0≤i)(h:v.drop i.toNat=c::r)(hS:(S.length:Int)≤i)(hb:Dc S):N6 F v (S.reverse,i,sh)=some (Oc v.length S i sh c):=by
 obtain⟨h1,_,h3⟩:=Ds h0 h;obtain⟨a,b,_⟩:=hA.hc c (VX h1);have:=hA.hv;exact Nl h0 h1 hA.hM hA.hM2 hA.hv (by omega) hA.hF a b hb
def Em (e:A6):Option Ar→A6
 | none=>e
 | some s=>⟨e.fPairs,e.fLeft,false,s,true⟩
def HE (e:A6):Option Ar→Prop
 | none=>e.fStarted=false
 | some p=>e.fStarted=true∧e.fLast=p
theorem Ln (hA:P2 F M v)(h0:0≤i){k last:Option Ar}(h:v.drop i.toNat=BJ k++r)(hS:(S.length:Int)+1≤i)(hb:Dc (e::S))(hk:Cw e.fKey last k=true)(hl:HE e last) :
  Dv (N6 F v) ((e::S).reverse,i,sh) ((Em e k::S).reverse,i+(BJ k).length,JS k sh):=by
 cases k with
 | none=>simpa[Em,BJ,JS] using Dv.refl _
 | some s=>
  simp only[Cw,VJ] at hk;obtain⟨⟨hm,hok⟩,hcmp⟩:=hk;refine Dv.step ?_;rw[round hA h0 (by simpa[BJ] using h) (by simpa using hS) hb];have hp:pl ⟨4,0,s,0⟩=true:=by simp[pl,hok]
  have ht:(e.fStarted&&(CH s e.fLast||decide (s=e.fLast)))=false:=by
   cases last with
   | none=>simp only[HE] at hl;rw[hl];rfl
   | some p=>obtain⟨h1,h2⟩:=hl;rw[h1,h2];simpa using hcmp
  simp only[Oc,hp,hm,ht,VT,VK,VR,decide_true,Wk,Bool.or_self];rfl
theorem Jy {k last:Option Ar}(hk:Cw e.fKey last k=true):(Em e k).fKey=false:=by
 cases k with
 | none=>simpa[Em,Cw] using hk
 | some s=>rfl
theorem It (k:Option Ar):(Em e k).fLeft=e.fLeft∧(Em e k).fPairs=e.fPairs:=by cases k<;>exact⟨rfl,rfl⟩
theorem Jx (hA:P2 F M v)(h0:0≤i)(h:v.drop i.toNat=c::r)(hS:(S.length:Int)≤i)(hb:Dc S)(hk:Jz S=false)(hp:pl c=true)(hn:decide (0<c.fN)=false) :
  Gf (N6 F v) (S.reverse,i,sh) S (i+1) (Hy S.length sh c):=by
 have hr:=round (sh:=sh) hA h0 h hS hb;unfold Gf
 cases S with
 | nil=>
  rw[if_pos (by simp[Ka])];refine Fin.step ?_;rw[hr];simp[Oc,hp,hn]
 | cons e S=>
  simp only[Jz] at hk
  split
  ·rename_i hc
   refine Fin.step ?_;rw[hr];simp[Oc,hp,hn,hk,hc]
  ·rename_i hc
   refine Dv.step ?_;rw[hr];simp[Oc,hp,hn,hk,hc]
theorem HV (hA:P2 F M v)(h0:0≤i)(h:v.drop i.toNat=c::r)(hS:(S.length:Int)≤i)(hb:Dc S)(hk:Jz S=false)(hp:pl c=true)(hn:decide (0<c.fN)=true)(hv:c.fN≤v.length) :
  Dv (N6 F v) (S.reverse,i,sh) ((⟨decide (c.fKind=6),c.fN,decide (c.fKind=6),[],false⟩::S).reverse,i+1,Hy S.length sh c):=by
 have hr:=round (sh:=sh) hA h0 h hS hb;have hv':decide ((v.length:Int)<c.fN)=false:=by simpa using hv
 refine Dv.step ?_;rw[hr]
 cases S with
 | nil=>simp only[Oc,hp,hn,hv',VT,VK,VR];rfl
 | cons e S=>
  simp only[Jz] at hk;simp only[Oc,hp,hn,hv',hk,VT,VK,VR]
theorem CL:∀f:Fo,f.cnt≤f.flat.length
 | .nil=>VZ _
 | .cell k c r=>by have:=CL r;simp[Fo.cnt,Fo.flat];omega
 | .node k c kids r=>by have:=CL r;simp[Fo.cnt,Fo.flat];omega
theorem Dt {α:Type}{v xs r:List α}{i:Int}(h0:0≤i)(h:v.drop i.toNat=xs++r):v.drop (i+xs.length).toNat=r:=by
 rw[show(i+(xs.length:Int)).toNat=i.toNat+xs.length from by omega,← List.drop_drop,h,List.drop_left]
theorem Nr (hA:P2 F M v){e':A6}{s:MV}{k:Option Ar}{r':Fo}
  (ih:∀(e:A6) (S:List A6) (i:Int) (sh:AC) (last:Option Ar) (r:List Aa),1≤r'.cnt→r'.wf e.fPairs last=true→e.fKey=e.fPairs→e.fLeft=r'.cnt→HE e last→(e.fPairs=false→last=none)→v.drop i.toNat=r'.flat++r→0≤i→(S.length:Int)+1≤i→Dc S→
   Gf (N6 F v) ((e::S).reverse,i,sh) S (i+r'.flat.length) (r'.sh (S.length+1) sh))
  (hd:Gf (N6 F v) s (e'::S) i sh) (hl:e'.fLeft=r'.cnt+1) (hw:r'.wf e'.fPairs k=true) (hk:HE e' k) (hm:e'.fPairs=false→k=none) (hv:v.drop i.toNat=r'.flat++r) (h0:0≤i) (hS:(S.length:Int)+1≤i) (hb:Dc S) :
  Gf (N6 F v) s S (i+r'.flat.length) (r'.sh (S.length+1) sh):=by
 by_cases h1:r'.cnt=0
 ·cases r' with
  | nil=>simpa[Fo.flat,Fo.sh] using hd.pop (by rw[hl];rfl)
  | cell _ _ _=>simp[Fo.cnt] at h1
  | node _ _ _ _=>simp[Fo.cnt] at h1
 ·have:=hd.more (by omega);refine Gf.of this (ih _ S i sh k r (by omega) hw rfl (by simp only;omega) ?_ hm hv h0 hS hb)
  cases k with
  | none=>exact hk
  | some p=>exact hk
theorem Iu {k last:Option Ar}(hl:HE e last)(hm:e.fPairs=false→last=none)(hk:Cw e.fPairs last k=true):HE (Em e k) k∧((Em e k).fPairs=false→k=none):=by
 cases k with
 | none=>
  have:e.fPairs=false:=by simpa[Cw] using hk
  rw[hm this] at hl;exact⟨hl,λ_=>rfl⟩
 | some s=>
  refine⟨⟨rfl,rfl⟩,λh=>?_⟩;have h:e.fPairs=false:=h;simp[Cw,h] at hk
theorem JW (hA:P2 F M v):∀(f:Fo) (e:A6) (S:List A6) (i:Int) (sh:AC) (last:Option Ar) (r:List Aa),1≤f.cnt→f.wf e.fPairs last=true→e.fKey=e.fPairs→e.fLeft=f.cnt→HE e last→(e.fPairs=false→last=none)→v.drop i.toNat=f.flat++r→0≤i→(S.length:Int)+1≤i→Dc S→
   Gf (N6 F v) ((e::S).reverse,i,sh) S (i+f.flat.length) (f.sh (S.length+1) sh):=by
 have hmax:∀(i:Int) (xs:List Aa),0≤i→v.drop i.toNat=xs→xs.length≤v.length:=λi xs _ h=>by rw[← h,List.length_drop];omega
 intro f
 induction f with
 | nil=>intro e S i sh last r h1;simp[Fo.cnt] at h1
 | cell k c r' ih=>
  intro e S i sh last r h1 hw hk hl hlo hm hv h0 hS hb;simp only[Fo.wf,VJ,VV] at hw;obtain⟨⟨⟨w1,w2⟩,w3⟩,w4⟩:=hw;simp only[Fo.flat,Wy,List.cons_append] at hv;have hcnt:=hmax i _ h0 hv;have hcf:=CL r';simp only[VU,VM] at hcnt;have hvM:=hA.hv;have hMM:=hA.hM;simp only[Fo.cnt] at hl;have hb':Dc (e::S):=λx hx=>by
   rcases List.mem_cons.1 hx with rfl | hx
   ·constructor<;>omega
   ·exact hb x hx
  have hkr:=Ln (sh:=sh) hA h0 hv hS hb' (by rw[hk];exact w1) hlo;have hv1:=Dt h0 hv;obtain⟨kl,kp⟩:=It (e:=e) k;have hbk:Dc (Em e k::S):=λx hx=>by
   rcases List.mem_cons.1 hx with rfl | hx
   ·rw[kl];exact hb' e (by simp)
   ·exact hb x hx
  have hd:=Jx (sh:=JS k sh) hA (by omega) hv1 (by simp only[VM];omega) hbk (Jy (by rw[hk];exact w1)) w2 w3;obtain⟨q1,q2⟩:=Iu hlo hm w1;have hv2:=(Ds (by omega) hv1).2.1;have:=Nr hA ih (hd.of hkr) (by rw[kl,hl];rfl) (by rw[kp];exact w4) q1 q2 hv2 (by omega) (by omega) hb;simp only[Fo.flat,Fo.sh,VU,VM];rw[show i+((((BJ k).length+(r'.flat.length+1):Nat)):Int)=i+(BJ k).length+1+r'.flat.length from by omega];exact this
 | node k c kids r' ihk ih=>
  intro e S i sh last r h1 hw hk hl hlo hm hv h0 hS hb;simp only[Fo.wf,VJ,VH] at hw;obtain⟨⟨⟨⟨⟨w1,w2⟩,w3⟩,w5⟩,w6⟩,w4⟩:=hw;simp only[Fo.flat,Wy,List.cons_append] at hv;have hcnt:=hmax i _ h0 hv;have hcf:=CL r';have hck:=CL kids;simp only[VU,VM] at hcnt;have hvM:=hA.hv;have hMM:=hA.hM;simp only[Fo.cnt] at hl;have hb':Dc (e::S):=λx hx=>by
   rcases List.mem_cons.1 hx with rfl | hx
   ·constructor<;>omega
   ·exact hb x hx
  have hkr:=Ln (sh:=sh) hA h0 hv hS hb' (by rw[hk];exact w1) hlo;have hv1:=Dt h0 hv;obtain⟨kl,kp⟩:=It (e:=e) k;have hbk:Dc (Em e k::S):=λx hx=>by
   rcases List.mem_cons.1 hx with rfl | hx
   ·rw[kl];exact hb' e (by simp)
   ·exact hb x hx
  have hn:=HV (sh:=JS k sh) hA (by omega) hv1 (by simp only[VM];omega) hbk (Jy (by rw[hk];exact w1)) w2 (by simpa using w3) (by omega);have hv2:=(Ds (by omega) hv1).2.1;have hd:=ihk ⟨decide (c.fKind=6),c.fN,decide (c.fKind=6),[],false⟩ (Em e k::S) (i+(BJ k).length+1) (Hy (S.length+1) (JS k sh) c) none _ (by omega) w6 rfl w5 rfl (λ_=>rfl) hv2 (by omega) (by simp only[VM];omega) hbk;obtain⟨q1,q2⟩:=Iu hlo hm w1;have hv3:=Dt (by omega) hv2;have:=Nr hA ih ((hd.of hn).of hkr) (by rw[kl,hl];rfl) (by rw[kp];exact w4) q1 q2 hv3 (by omega) (by omega) hb;simp only[Fo.flat,Fo.sh,VU,VM];rw[show i+((((BJ k).length+(kids.flat.length+r'.flat.length+1):Nat)):Int)=i+(BJ k).length+1+kids.flat.length+r'.flat.length from by omega];exact this
end
theorem IT {S O:Type}{body:S→Option (Stp S O)}{o:O}:∀{n:Nat} {s:S} (k:Nat),BW body n s=some o→BW body (n+k) s=some o
 | 0,s,k,h=>by cases h
 | n+1,s,k,h=>by
  rw[show n+1+k=n+k+1 from by omega,BW];rw[BW] at h
  cases hb:body s with
  | none=>rw[hb] at h;cases h
  | some t=>
   rw[hb] at h
   cases t with
   | next s'=>exact IT k h
   | out o'=>exact h
theorem Fin.eq {S O:Type}{body:S→Option (Stp S O)}{s:S}{o o':O}{n:Nat}(h:Fin body s o)(h':BW body n s=some o'):o'=o:=by
 obtain⟨k,hk⟩:=h;have:=IT k h';rw[hk n] at this;exact(Am this).symm
theorem Mk:∀{S:List A6},Dc S→Dc (Ka S)∧(Ka S).length≤S.length
 | [],h=>⟨h,VZ _⟩
 | e::S,h=>by
  have hS:Dc S:=λx hx=>h x (by simp[hx]);have he:=h e (by simp);unfold Ka
  cases hd:decide (1<e.fLeft) with
  | true=>
   simp only[VH] at hd;refine⟨λx hx=>?_,by simp⟩;rcases List.mem_cons.1 hx with rfl | hx
   ·simp only;omega
   ·exact hS x hx
  | false=>
   obtain⟨h1,h2⟩:=Mk hS;exact⟨h1,by simp only[VK,VM];omega⟩
theorem Rz {n:Int}{S:List A6}{i:Int}{sh:AC}{c:Aa}{σ:MV}(hb:Dc S)(hS:(S.length:Int)≤i)(hN:c.fN≤9223372036854775807)(h:Oc n S i sh c = .next σ):∃S' sh',σ=(S'.reverse,i+1,sh')∧Dc S'∧(S'.length:Int)≤i+1:=by
 unfold Oc at h
 cases hp:pl c with
 | false=>simp[hp] at h
 | true=>
  simp only[hp,VT,VK] at h
  cases S with
  | nil=>
   simp only at h
   cases hn:decide (0<c.fN) with
   | false=>simp[hn] at h
   | true=>
    simp only[hn,VR] at h
    cases hm:decide (n<c.fN) with
    | true=>simp[hm] at h
    | false=>
     simp only[hm,VK,Stp.next.injEq] at h;refine⟨[_],_,h.symm,λx hx=>?_,by simp at hS ⊢;omega⟩;simp only[Wd] at hx;subst hx;simp only[VH] at hn;exact⟨by simp only;omega,hN⟩
  | cons e S=>
   have he:=hb e (by simp);have hbS:Dc S:=λx hx=>hb x (by simp[hx]);simp only[VM] at hS
   cases hk:e.fKey with
   | true=>
    simp only[hk,VR] at h
    cases hq:(!decide (c.fKind=4)||(e.fStarted&&(CH c.fStr e.fLast||decide (c.fStr=e.fLast)))) with
    | true=>rw[hq] at h;simp at h
    | false=>
     rw[hq] at h;simp only[VK,Stp.next.injEq] at h;refine⟨_::S,_,h.symm,λx hx=>?_,by simp only[VM];omega⟩;rcases List.mem_cons.1 hx with rfl | hx
     ·exact he
     ·exact hbS x hx
   | false=>
    simp only[hk,VK] at h
    cases hn:decide (0<c.fN) with
    | true=>
     simp only[hn,VR] at h
     cases hm:decide (n<c.fN) with
     | true=>simp[hm] at h
     | false=>
      simp only[hm,VK,Stp.next.injEq] at h;refine⟨_::e::S,_,h.symm,λx hx=>?_,by simp only[VM];omega⟩;rcases List.mem_cons.1 hx with rfl | hx
      ·simp only[VH] at hn;exact⟨by simp only;omega,hN⟩
      ·exact hb x hx
    | false=>
     simp only[hn,VK] at h
     cases hq:decide (Ka (e::S)=[]) with
     | true=>rw[hq] at h;simp at h
     | false=>
      rw[hq] at h;simp only[VK,Stp.next.injEq] at h;obtain⟨h1,h2⟩:=Mk hb;simp only[VM] at h2;exact⟨_,_,h.symm,h1,by omega⟩
theorem Li {F M:Nat}{v:List Aa}(hA:P2 F M v):∃o,BW (N6 F v) F (([]:List A6),0,(⟨0,0,false,false⟩:AC))=some o∧True:=by
 refine M8 (λσ=>∃S i sh,σ=(S.reverse,i,sh)∧Dc S∧(S.length:Int)≤i∧0≤i∧i≤v.length) (λσ=>v.length-σ.2.1.toNat) (λ_=>True) (λσ hI=>?_) F _ ⟨[],0,_,rfl,(λx hx=>by cases hx),Wr _,Wr _,by omega⟩ (by have:=hA.hv;have:=hA.hF;simp;omega);obtain⟨S,i,sh,rfl,hb,hS,h0,hi⟩:=hI
 by_cases hx:i<v.length
 ·obtain⟨c,hc⟩:∃c,v[i.toNat]? =some c:=⟨v[i.toNat]'(by omega),VP (by omega)⟩
  have hdr:v.drop i.toNat=c::v.drop (i.toNat+1):=by rw[List.drop_eq_getElem_cons (by omega)];congr 1;exact(List.getElem?_eq_some_iff.1 hc).2
  have hr:=round (sh:=sh) hA h0 hdr hS hb
  cases hl:Oc v.length S i sh c with
  | next τ=>
   obtain⟨S',sh',rfl,h1,h2⟩:=Rz hb hS (hA.hc c (VX hc)).2.2 hl;exact .inl ⟨_,by rw[hr,hl],⟨S',i+1,sh',rfl,h1,h2,by omega,by omega⟩,by simp only;omega⟩
  | out o=>exact .inr ⟨o,by rw[hr,hl],trivial⟩
 ·refine .inr ⟨.go sh,?_,trivial⟩;show Da F v S.reverse i sh=_;unfold Da;rw[AT (by simpa using hx)]
def Fo.one:Fo→Bool
 | .cell none _ .nil=>true
 | .node none _ _ .nil=>true
 | _=>false
def KT:AC:=⟨0,0,false,false⟩
theorem Ry {F M:Nat}{v:List Aa}(hA:P2 F M v){f:Fo}(h1:f.one=true)(hw:f.wf false none=true){r:List Aa}(hv:v=f.flat++r):Fin (N6 F v) ([],0,KT) (.ret (f.flat.length,f.sh 0 KT,true)):=by
 have h0:v.drop (0:Int).toNat=f.flat++r:=by rw[hv];rfl
 have hlen:f.flat.length≤v.length:=by rw[hv];simp
 cases f with
 | nil=>cases h1
 | cell k c r'=>
  cases k with
  | some s=>cases h1
  | none=>
   cases r' with
   | nil=>
    simp only[Fo.wf,VJ,VV] at hw;have:=Jx (S:=[]) (sh:=KT) hA (Wr 0) h0 (by simp) (λx hx=>by cases hx) rfl hw.1.1.2 hw.1.2;unfold Gf at this;rw[if_pos (show Ka []=[] from rfl)] at this;simpa[Fo.flat,Fo.sh,BJ,JS] using this
   | cell _ _ _=>cases h1
   | node _ _ _ _=>cases h1
 | node k c kids r'=>
  cases k with
  | some s=>cases h1
  | none=>
   cases r' with
   | nil=>
    simp only[Fo.wf,VJ,VH] at hw;obtain⟨⟨⟨⟨⟨w1,w2⟩,w3⟩,w5⟩,w6⟩,w4⟩:=hw;have hck:=CL kids;simp only[Fo.flat,BJ,List.nil_append,Wz,VM] at hlen;have hvM:=hA.hv;have hMM:=hA.hM;have hn:=HV (S:=[]) (sh:=KT) hA (Wr 0) h0 (by simp) (λx hx=>by cases hx) rfl w2 (by simpa using w3) (by omega);have hv2:=(Ds (Wr 0) h0).2.1;have hd:=JW hA kids ⟨decide (c.fKind=6),c.fN,decide (c.fKind=6),[],false⟩ [] (0+1) (Hy 0 KT c) none r (by omega) w6 rfl w5 rfl (λ_=>rfl) (by rw[hv2];simp[Fo.flat]) (by omega) (by simp) (λx hx=>by cases hx);unfold Gf at hd;rw[if_pos (show Ka []=[] from rfl)] at hd;have:=hn.fin hd;have e:((0:Int)+1+kids.flat.length)=((Fo.node none c kids .nil).flat.length:Int):=by simp[Fo.flat,BJ];omega
    rw[e] at this;exact this
   | cell _ _ _=>cases h1
   | node _ _ _ _=>cases h1
theorem N5 {F M:Nat}{v:List Aa}(hA:P2 F M v){f:Fo}(h1:f.one=true)(hw:f.wf false none=true){r:List Aa}(hv:v=f.flat++r):DK F v=some ((f.flat.length:Int),f.sh 0 KT,true):=by
 obtain⟨o,ho,_⟩:=Li hA;have e:=(Ry hA h1 hw hv).eq ho;subst e;unfold DK;rw[Be ho];rfl
def GV (m:Bool)(last:Option Ar)(xs:List Aa):Option (Option Ar×List Aa):=
 bif m then match xs with
  | []=>none
  | c::r=>bif pl c&&decide (c.fKind=4)&&Cw true last (some c.fStr) then some (some c.fStr,r) else none
 else some (none,xs)
def GC:Nat→Bool→Option Ar→Nat→List Aa→Option (Fo×List Aa)
 | 0,_,_,_,_=>none
 | _+1,_,_,0,xs=>some (.nil,xs)
 | F+1,m,last,k+1,xs=>
  match GV m last xs with
  | none=>none
  | some (_,[])=>none
  | some (key,c::xs')=>
   bif !pl c then none else
   bif decide (0<c.fN) then
    match GC F (decide (c.fKind=6)) none c.fN.toNat xs' with
    | none=>none
    | some (kids,ys)=>match GC F m key k ys with
     | none=>none
     | some (r,zs)=>some (.node key c kids r,zs)
   else match GC F m key k xs' with
    | none=>none
    | some (r,zs)=>some (.cell key c r,zs)
theorem M6 {c:Aa}(hp:pl c=true)(hk:c.fKind=4):c=⟨4,0,c.fStr,0⟩∧c.fStr.all Sr=true:=by
 cases c
 simp only at hk;subst hk;simp[pl] at hp;obtain⟨h1,h2,h3⟩:=hp;subst h1;subst h2;exact⟨rfl,by simpa using h3⟩
theorem Kt {m:Bool}{last key:Option Ar}{xs r:List Aa}(h:GV m last xs=some (key,r)):xs=BJ key++r∧Cw m last key=true:=by
 unfold GV at h
 cases m with
 | false=>cases h;exact⟨rfl,rfl⟩
 | true=>
  simp only[VR] at h
  cases xs with
  | nil=>cases h
  | cons c r'=>
   simp only at h
   cases hb:(pl c&&decide (c.fKind=4)&&Cw true last (some c.fStr)) with
   | false=>rw[hb] at h;cases h
   | true=>
    rw[hb] at h;simp only[VJ,VH] at hb
    cases h
    exact⟨by rw[(M6 hb.1.1 hb.1.2).1];rfl,hb.2⟩
theorem EW:∀(F:Nat) (m:Bool) (last:Option Ar) (k:Nat) (xs:List Aa) (f:Fo) (ys:List Aa),GC F m last k xs=some (f,ys)→xs=f.flat++ys∧f.wf m last=true∧f.cnt=k
 | 0,_,_,_,_,_,_,h=>by cases h
 | F+1,m,last,0,xs,f,ys,h=>by cases h;exact⟨rfl,rfl,rfl⟩
 | F+1,m,last,k+1,xs,f,ys,h=>by
  rw[GC] at h
  cases hk:GV m last xs with
  | none=>rw[hk] at h;cases h
  | some p=>
   obtain⟨key,r⟩:=p;obtain⟨h1,h2⟩:=Kt hk;rw[hk] at h
   cases r with
   | nil=>cases h
   | cons c xs'=>
    simp only at h
    cases hp:pl c with
    | false=>rw[hp] at h;cases h
    | true=>
     rw[hp] at h;simp only[VT,VK] at h
     cases hn:decide (0<c.fN) with
     | true=>
      rw[hn] at h;simp only[VR] at h
      cases hq:GC F (decide (c.fKind=6)) none c.fN.toNat xs' with
      | none=>rw[hq] at h;cases h
      | some q=>
       obtain⟨kids,zs⟩:=q;rw[hq] at h;simp only at h
       cases hr:GC F m key k zs with
       | none=>rw[hr] at h;cases h
       | some q2=>
        obtain⟨r2,us⟩:=q2;rw[hr] at h;cases h;obtain⟨a1,a2,a3⟩:=EW F _ _ _ _ _ _ hq;obtain⟨b1,b2,b3⟩:=EW F _ _ _ _ _ _ hr;refine⟨by rw[h1,a1,b1];simp[Fo.flat],?_,by simp[Fo.cnt,b3]⟩;simp only[VH] at hn;simp only[Fo.wf,h2,hp,a2,b2,Wl,VW,VJ,VH];omega
     | false=>
      rw[hn] at h;simp only[VK] at h
      cases hr:GC F m key k xs' with
      | none=>rw[hr] at h;cases h
      | some q2=>
       obtain⟨r2,us⟩:=q2;rw[hr] at h;cases h;obtain⟨b1,b2,b3⟩:=EW F _ _ _ _ _ _ hr;exact⟨by rw[h1,b1];simp[Fo.flat],by simp[Fo.wf,h2,hp,b2,hn],by simp[Fo.cnt,b3]⟩
theorem Gs:∀(F F':Nat) (m:Bool) (last:Option Ar) (k:Nat) (xs:List Aa),xs.length<F→xs.length<F'→GC F m last k xs=GC F' m last k xs
 | 0,_,_,_,_,_,h,_=>by omega
 | _+1,0,_,_,_,_,_,h=>by omega
 | F+1,F'+1,m,last,0,xs,_,_=>rfl
 | F+1,F'+1,m,last,k+1,xs,h,h'=>by
  rw[GC,GC]
  cases hk:GV m last xs with
  | none=>rfl
  | some p=>
   obtain⟨key,r⟩:=p;obtain⟨h1,h2⟩:=Kt hk
   cases r with
   | nil=>rfl
   | cons c xs'=>
    have hl:xs'.length<xs.length:=by rw[h1];simp;omega
    simp only
    cases hp:pl c with
    | false=>rfl
    | true=>
     simp only[VT,VK]
     cases hn:decide (0<c.fN) with
     | true=>
      simp only[VR];rw[Gs F F' _ _ _ xs' (by omega) (by omega)]
      cases hq:GC F' (decide (c.fKind=6)) none c.fN.toNat xs' with
      | none=>rfl
      | some q=>
       obtain⟨kids,zs⟩:=q;have:=(EW _ _ _ _ _ _ _ hq).1;have hz:zs.length≤xs'.length:=by rw[this];simp
       simp only;rw[Gs F F' m key k zs (by omega) (by omega)]
     | false=>
      simp only[VK];rw[Gs F F' m key k xs' (by omega) (by omega)]
def OG {S:Type}(body:S→Option (Stp S TJ))(s:S):Prop:=∃sh',Fin body s (.ret (0,sh',false))∨Fin body s (.go sh')
theorem Dv.bad {S:Type}{body:S→Option (Stp S TJ)}{s t:S}(h:Dv body s t)(h':OG body t):OG body s:=by
 obtain⟨sh',h' | h'⟩:=h'
 ·exact⟨sh',.inl (h.fin h')⟩
 ·exact⟨sh',.inr (h.fin h')⟩
section
variable {F M : Nat} {v : List Aa}
theorem OG.end_ {S:List A6}{i:Int}{sh:AC}(h0:0≤i)(h:v.drop i.toNat=[]):OG (N6 F v) (S.reverse,i,sh):=by
 refine⟨sh,.inr (Fin.step ?_)⟩;show Da F v S.reverse i sh=_;unfold Da;rw[AT];have:v.length≤i.toNat:=by simpa using h
 simp;omega
theorem OG.pl_ (hA:P2 F M v){S:List A6}{i:Int}{sh:AC}{c:Aa}{r:List Aa}(h0:0≤i)(h:v.drop i.toNat=c::r)(hS:(S.length:Int)≤i)(hb:Dc S)(hp:pl c=false):OG (N6 F v) (S.reverse,i,sh):=by
 refine⟨sh,.inl (Fin.step ?_)⟩;rw[round hA h0 h hS hb];simp[Oc,hp]
theorem O3 (hA:P2 F M v):∀(P:Nat) (k:Nat) (e:A6) (S:List A6) (i:Int) (sh:AC) (last:Option Ar) (xs:List Aa),xs.length<P→GC P e.fPairs last (k+1) xs=none→e.fKey=e.fPairs→e.fLeft=(k:Int)+1→(k:Int)+1≤9223372036854775807→HE e last→(e.fPairs=false→last=none)→v.drop i.toNat=xs→0≤i→(S.length:Int)+1≤i→Dc S→
  OG (N6 F v) ((e::S).reverse,i,sh):=by
 intro P
 induction P with
 | zero=>intro k e S i sh last xs h;omega
 | succ P ih=>
  intro k e S i sh last xs hP hn hk hl hkm hlo hm hv h0 hS hb;have hb':Dc (e::S):=λx hx=>by
   rcases List.mem_cons.1 hx with rfl | hx
   ·constructor<;>omega
   ·exact hb x hx
  rw[GC] at hn
  cases hq:GV e.fPairs last xs with
  | none=>
   unfold GV at hq
   cases hpr:e.fPairs with
   | false=>rw[hpr] at hq;cases hq
   | true=>
    rw[hpr] at hq hk;simp only[VR] at hq
    cases xs with
    | nil=>exact OG.end_ h0 hv
    | cons c r=>
     simp only at hq
     cases hp:pl c with
     | false=>exact OG.pl_ hA h0 hv (by simpa using hS) hb' hp
     | true=>
      refine⟨sh,.inl (Fin.step ?_)⟩;rw[round hA h0 hv (by simpa using hS) hb'];have ht:(!decide (c.fKind=4)||(e.fStarted&&(CH c.fStr e.fLast||decide (c.fStr=e.fLast))))=true:=by
       rw[hp] at hq
       cases h4:decide (c.fKind=4) with
       | false=>rfl
       | true=>
        rw[h4] at hq;simp only[Bool.and_self,VW] at hq;have hok:=(M6 hp (by simpa using h4)).2
        cases last with
        | none=>simp[Cw,hok] at hq
        | some p=>
         obtain⟨q1,q2⟩:=hlo;rw[q1,q2]
         cases hc:(CH c.fStr p||decide (c.fStr=p)) with
         | true=>rfl
         | false=>simp[Cw,hok,hc] at hq
      simp only[Oc,hp,hk,ht,VT,VK,VR]
  | some q=>
   obtain⟨key,r⟩:=q;obtain⟨h1,h2⟩:=Kt hq;rw[hq] at hn;have hkr:=Ln (sh:=sh) hA h0 (by rw[hv];exact h1) hS hb' (by rw[hk];exact h2) hlo;have hv1:=Dt h0 (hv.trans h1);obtain⟨kl,kp⟩:=It (e:=e) key;obtain⟨q1,q2⟩:=Iu hlo hm h2;have hbk:Dc (Em e key::S):=λx hx=>by
    rcases List.mem_cons.1 hx with rfl | hx
    ·rw[kl];exact hb' e (by simp)
    ·exact hb x hx
   refine hkr.bad ?_
   cases r with
   | nil=>exact OG.end_ (by omega) hv1
   | cons c xs'=>
    have hlen:xs'.length+1≤xs.length:=by rw[h1];simp
    have hvl:xs.length≤v.length:=by rw[← hv,List.length_drop];omega
    have hvM:=hA.hv;have hMM:=hA.hM;have hkk:=Jy (e:=e) (last:=last) (k:=key) (by rw[hk];exact h2);simp only at hn;have hSk:(((Em e key::S).length:Nat):Int)≤i+(BJ key).length:=by simp only[VM];omega
    cases hp:pl c with
    | false=>exact OG.pl_ hA (by omega) hv1 hSk hbk hp
    | true=>
     rw[hp] at hn;simp only[VT,VK] at hn;obtain⟨g1,g2,g3⟩:=Ds (by omega) hv1;have hcN:=(hA.hc c (VX g1)).2.2;have more:∀(s:MV) (j:Int) (sh':AC) (zs:List Aa),Gf (N6 F v) s (Em e key::S) j sh'→v.drop j.toNat=zs→zs.length<P→0≤j→(S.length:Int)+1≤j→GC P e.fPairs key k zs=none→OG (N6 F v) s:=λs j sh' zs hd hz hzl hj hSj hnone=>by
      cases k with
      | zero=>
       cases P with
       | zero=>omega
       | succ P=>cases hnone
      | succ k=>
       have:=hd.more (by rw[kl];omega);refine this.bad (ih k _ S j sh' key zs hzl (by rw[kp];exact hnone) rfl (by simp only[kl];omega) (by omega) ?_ (by simpa using q2) hz hj hSj hb)
       cases key with
       | none=>exact q1
       | some p=>exact q1
     cases hN:decide (0<c.fN) with
     | true=>
      rw[hN] at hn;simp only[VR] at hn;simp only[VH] at hN
      by_cases hbig:c.fN≤v.length
      ·have hnd:=HV (sh:=JS key sh) hA (by omega) hv1 hSk hbk (by simpa[Jz] using hkk) hp (by simpa using hN) hbig;refine hnd.bad ?_
       cases hks:GC P (decide (c.fKind=6)) none c.fN.toNat xs' with
       | none=>
        obtain⟨n',hn'⟩:∃n',c.fN.toNat=n'+1:=⟨c.fN.toNat-1,by omega⟩
        rw[hn'] at hks;exact ih n' _ _ _ _ none xs' (by omega) hks rfl (by simp only;omega) (by omega) rfl (λ_=>rfl) g2 (by omega) (by simp only[VM];omega) hbk
       | some q=>
        obtain⟨kids,zs⟩:=q;rw[hks] at hn;simp only at hn;have hn2:GC P e.fPairs key k zs=none:=by
         cases hz:GC P e.fPairs key k zs with
         | none=>rfl
         | some q=>rw[hz] at hn;cases hn
        obtain⟨a1,a2,a3⟩:=EW _ _ _ _ _ _ _ hks;have hd:=JW hA kids ⟨decide (c.fKind=6),c.fN,decide (c.fKind=6),[],false⟩ (Em e key::S) (i+(BJ key).length+1) (Hy (S.length+1) (JS key sh) c) none zs (by omega) a2 rfl (by simp only;omega) rfl (λ_=>rfl) (by rw[g2];exact a1) (by omega) (by simp only[VM];omega) hbk;have hz:v.drop (i+(BJ key).length+1+kids.flat.length).toNat=zs:=Dt (by omega) (g2.trans a1);have hzl:zs.length≤xs'.length:=by rw[a1];simp
        exact more _ _ _ zs hd hz (by omega) (by omega) (by omega) hn2
      ·refine⟨Hy (Em e key::S).length (JS key sh) c,.inl (Fin.step ?_)⟩;rw[round hA (by omega) hv1 hSk hbk];have hbig':decide ((v.length:Int)<c.fN)=true:=by simpa using hbig
       simp only[Oc,hp,hkk,hbig',hN,VT,VK,VR,decide_true]
     | false=>
      rw[hN] at hn;simp only[VK] at hn;have hn2:GC P e.fPairs key k xs'=none:=by
       cases hz:GC P e.fPairs key k xs' with
       | none=>rfl
       | some q=>rw[hz] at hn;cases hn
      have hd:=Jx (sh:=JS key sh) hA (by omega) hv1 hSk hbk (by simpa[Jz] using hkk) hp hN;exact more _ _ _ xs' hd g2 (by omega) (by omega) (by omega) hn2
def GW (xs:List Aa):Option (Fo×List Aa):=GC (xs.length+1) false none 1 xs
theorem OW {P:Nat}{xs ys:List Aa}{f:Fo}(h:GC P false none 1 xs=some (f,ys)):f.one=true:=by
 obtain⟨h1,h2,h3⟩:=EW _ _ _ _ _ _ _ h
 cases f with
 | nil=>cases h3
 | cell k c r=>
  cases r with
  | nil=>
   cases k with
   | none=>rfl
   | some s=>simp[Fo.wf,Cw] at h2
  | cell _ _ _=>simp[Fo.cnt] at h3
  | node _ _ _ _=>simp[Fo.cnt] at h3
 | node k c kids r=>
  cases r with
  | nil=>
   cases k with
   | none=>rfl
   | some s=>simp[Fo.wf,Cw] at h2
  | cell _ _ _=>simp[Fo.cnt] at h3
  | node _ _ _ _=>simp[Fo.cnt] at h3
theorem Qc (hA:P2 F M v)(h:GW v=none):OG (N6 F v) ([],0,KT):=by
 have hlf:Dc []:=λx hx=>by cases hx
 unfold GW at h;rw[GC] at h;simp only[GV,VK] at h
 cases v with
 | nil=>exact OG.end_ (S:=[]) (Wr 0) rfl
 | cons c xs'=>
  have hv1:(c::xs').drop (0:Int).toNat=c::xs':=rfl;have hvM:=hA.hv;have hMM:=hA.hM;simp only at h
  cases hp:pl c with
  | false=>exact OG.pl_ (S:=[]) hA (Wr 0) hv1 (by simp) hlf hp
  | true=>
   rw[hp] at h;simp only[VT,VK] at h;have hcN:=(hA.hc c (by simp)).2.2
   cases hN:decide (0<c.fN) with
   | true=>
    rw[hN] at h;simp only[VR] at h;simp only[VH] at hN
    by_cases hbig:c.fN≤(c::xs').length
    ·have hnd:=HV (S:=[]) (sh:=KT) hA (Wr 0) hv1 (by simp) hlf rfl hp (by simpa using hN) hbig;refine hnd.bad ?_
     cases hks:GC (c::xs').length (decide (c.fKind=6)) none c.fN.toNat xs' with
     | none=>
      obtain⟨n',hn'⟩:∃n',c.fN.toNat=n'+1:=⟨c.fN.toNat-1,by omega⟩
      rw[hn'] at hks;exact O3 hA (c::xs').length n' ⟨decide (c.fKind=6),c.fN,decide (c.fKind=6),[],false⟩ [] (0+1) _ none xs' (by simp) hks rfl (by simp only;omega) (by omega) rfl (λ_=>rfl) rfl (by omega) (by simp) hlf
     | some q=>rw[hks] at h;cases h
    ·refine⟨Hy 0 KT c,.inl (Fin.step ?_)⟩;rw[show N6 F (c::xs') (([]:List A6),0,KT)=_ from round (S:=[]) hA (Wr 0) hv1 (by simp) hlf];have hbig':decide (((c::xs').length:Int)<c.fN)=true:=by simpa using hbig
     simp only[Oc,hp,hbig',hN,VT,VK,VR,decide_true]
   | false=>rw[hN] at h;cases h
theorem ST (hA:P2 F M v):(∃f ys,GW v=some (f,ys)∧DK F v=some ((f.flat.length:Int),f.sh 0 KT,true))∨(GW v=none∧∃sh',DK F v=some (0,sh',false)):=by
 cases h:GW v with
 | some q=>
  obtain⟨f,ys⟩:=q;obtain⟨h1,h2,h3⟩:=EW _ _ _ _ _ _ _ h;exact .inl ⟨f,ys,rfl,N5 hA (OW h) h2 h1⟩
 | none=>
  refine .inr ⟨rfl,?_⟩;obtain⟨o,ho,_⟩:=Li hA;obtain⟨sh',hb | hb⟩:=Qc hA h
  ·have e:=hb.eq ho;subst e;exact⟨sh',by unfold DK;rw[Be ho];rfl⟩
  ·have e:=hb.eq ho;subst e;exact⟨sh',by unfold DK;rw[Be ho];rfl⟩
end
theorem HQ {x:Int}(h : -9223372036854775808≤x)(h':x≤9223372036854775807):IntKind.wrap .i64 x=x:=by
 simp only[IntKind.wrap,IntKind.bits,IntKind.signed];simp;omega
def Fo.dep:Fo→Nat
 | .nil=>0
 | .cell _ _ r=>max 1 r.dep
 | .node _ _ kids r=>max (kids.dep+1) r.dep
theorem Et (k:Option Ar)(s:AC):(JS k s).fDepth=s.fDepth∧(JS k s).fOutside=s.fOutside∧(JS k s).fLong=(s.fLong||(BJ k).any λc=>decide (200<(c.fStr.length:Int))):=by
 cases k with
 | none=>simp[JS,BJ]
 | some x=>simp[JS,UK,BJ]
theorem IJ:∀(f:Fo) (d:Nat) (s:AC),(d:Int)≤s.fDepth→(f.sh d s).fDepth=max s.fDepth ((d:Int)+f.dep)
 | .nil,d,s,h=>by simp only[Fo.sh,Fo.dep];omega
 | .cell k c r,d,s,h=>by
  have hk:=(Et k s).1;have e:(Hy d (JS k s) c).fDepth=max s.fDepth ((d:Int)+1):=by rw[Hy,hk]
  rw[Fo.sh,IJ r d _ (by rw[e];omega),e,Fo.dep];omega
 | .node k c kids r,d,s,h=>by
  have hk:=(Et k s).1;have e:(Hy d (JS k s) c).fDepth=max s.fDepth ((d:Int)+1):=by rw[Hy,hk]
  have e2:=IJ kids (d+1) (Hy d (JS k s) c) (by rw[e];omega);rw[e] at e2;rw[Fo.sh,IJ r d _ (by rw[e2];omega),e2,Fo.dep];omega
def LG (c:Aa):Bool:=decide (c.fKind=3)&&!(decide ((-1000000000000)≤c.fInt)&&decide (c.fInt≤1000000000000))
def JV (c:Aa):Bool:=decide (200<(c.fStr.length:Int))
theorem N8 (k:Option Ar):(BJ k).any LG=false:=by cases k<;>simp[BJ,LG]
theorem Mz:∀(f:Fo) (d:Nat) (s:AC),(f.sh d s).fOutside=(s.fOutside||f.flat.any LG)
 | .nil,d,s=>by simp[Fo.sh,Fo.flat]
 | .cell k c r,d,s=>by
  rw[Fo.sh,Mz r,Hy,(Et k s).2.1];simp only[Fo.flat,List.any_append,List.any_cons,N8,VY,Bool.or_assoc];rfl
 | .node k c kids r,d,s=>by
  rw[Fo.sh,Mz r,Mz kids,Hy,(Et k s).2.1];simp only[Fo.flat,List.any_append,List.any_cons,N8,VY,Bool.or_assoc];rfl
theorem Kr:∀(f:Fo) (d:Nat) (s:AC),(f.sh d s).fLong=(s.fLong||f.flat.any JV)
 | .nil,d,s=>by simp[Fo.sh,Fo.flat]
 | .cell k c r,d,s=>by
  rw[Fo.sh,Kr r,Hy,(Et k s).2.2];simp only[Fo.flat,List.any_append,List.any_cons,Bool.or_assoc];rfl
 | .node k c kids r,d,s=>by
  rw[Fo.sh,Kr r,Kr kids,Hy,(Et k s).2.2];simp only[Fo.flat,List.any_append,List.any_cons,Bool.or_assoc];rfl
def Ss (c:Aa):Int:=
 bif decide (c.fKind=1) then 4 else bif decide (c.fKind=2) then 5-c.fInt else bif decide (c.fKind=3) then((Lib.itoa c.fInt).length:Int) else
 bif decide (c.fKind=4) then Js c.fStr else 2
def MA:Option Ar→Int
 | none=>0
 | some s=>Js s+1
def Fo.byt:Fo→Int
 | .nil=>0
 | .cell k c r=>MA k+Ss c+r.byt
 | .node k c kids r=>MA k+(c.fN+1)+kids.byt+r.byt
theorem KX (s:Ar):2≤Js s:=by unfold Js;omega
theorem Kw (k:Option Ar):0≤MA k:=by
 cases k with
 | none=>exact Wr 0
 | some s=>have:=KX s;simp only[MA];omega
theorem Pe {c:Aa}(hp:pl c=true):0≤Ss c:=by
 unfold Ss
 cases h1:decide (c.fKind=1) with
 | true=>simp
 | false=>
  cases h2:decide (c.fKind=2) with
  | true=>
   simp[pl,h1,h2] at hp;simp only[VK,VR];omega
  | false=>
   cases h3:decide (c.fKind=3) with
   | true=>simp
   | false=>
    cases h4:decide (c.fKind=4) with
    | true=>have:=KX c.fStr;simp only[VK,VR];omega
    | false=>simp
theorem Rk {c:Aa}(hp:pl c=true):0≤c.fN:=by
 simp only[pl,← Bool.decide_or] at hp
 cases h1:decide (c.fKind=1)<;>cases h2:decide (c.fKind=2)<;>cases h3:decide (c.fKind=3)<;>cases h4:decide (c.fKind=4)<;>cases h5:decide (c.fKind=5)<;>cases h6:decide (c.fKind=6)<;>simp[h1,h2,h3,h4,h5,h6] at hp<;>omega
theorem SH {c:Aa}(hp:pl c=true)(hn:0<c.fN):(c.fKind=5∨c.fKind=6)∧c.fInt=0∧c.fStr=[]:=by
 cases h1:decide (c.fKind=1)<;>cases h2:decide (c.fKind=2)<;>cases h3:decide (c.fKind=3)<;>cases h4:decide (c.fKind=4)<;>cases h5:decide (c.fKind=5)<;>cases h6:decide (c.fKind=6)<;>simp[pl,h1,h2,h3,h4,h5,h6] at hp<;>(simp only[VH,VI] at *;first | omega | exact⟨by omega,hp.1,hp.2.1⟩)
theorem QV {c:Aa}(hp:pl c=true)(hn:decide (0<c.fN)=false):TP c=Ss c:=by
 have hN:=Rk hp;have h0:c.fN=0:=by simp only[VI] at hn;omega
 unfold TP Ss;rw[h0]
 cases h1:decide (c.fKind=1) with
 | true=>rfl
 | false=>
  cases h2:decide (c.fKind=2) with
  | true=>
   simp[pl,h1,h2] at hp;simp only[VK,VR];exact HQ (by omega) (by omega)
  | false=>rfl
theorem QU {c:Aa}(hp:pl c=true)(hn:0<c.fN)(hm:c.fN≤9223372036854775000):TP c=c.fN+1:=by
 obtain⟨hk,_,_⟩:=SH hp hn;unfold TP;rw[VL (by omega),VL (by omega),VL (by omega),VL (by omega)];simp only[VK];rw[HQ (x:=c.fN-1) (by omega) (by omega),HQ (by omega) (by omega)];omega
theorem Hj:∀{f:Fo} {m:Bool} {l:Option Ar},f.wf m l=true→0≤f.byt
 | .nil,_,_,_=>Wr 0
 | .cell k c r,m,l,h=>by
  simp only[Fo.wf,VJ] at h;have h1:=Hj h.2;have h2:=Pe h.1.1.2;have h3:=Kw k;simp only[Fo.byt];omega
 | .node k c kids r,m,l,h=>by
  simp only[Fo.wf,VJ,VH] at h;have h1:=Hj h.2;have h2:=Hj h.1.2;have h3:=Kw k;simp only[Fo.byt];omega
theorem LU (k:Option Ar)(s:AC)(h0:0≤s.fBytes)(h:s.fBytes+MA k≤9223372036854775807):(JS k s).fBytes=s.fBytes+MA k:=by
 cases k with
 | none=>simp[JS,MA]
 | some x=>
  have:=KX x;simp only[MA] at h;simp only[JS,UK,MA];exact HQ (by omega) (by omega)
theorem IK:∀(f:Fo) (m:Bool) (l:Option Ar) (d:Nat) (s:AC),f.wf m l=true→0≤s.fBytes→s.fBytes+f.byt≤9223372036854775000→(f.sh d s).fBytes=s.fBytes+f.byt
 | .nil,_,_,d,s,_,_,_=>by simp[Fo.sh,Fo.byt]
 | .cell k c r,m,l,d,s,hw,h0,h=>by
  simp only[Fo.wf,VJ,VV] at hw;obtain⟨⟨⟨w1,w2⟩,w3⟩,w4⟩:=hw;have h1:=Hj w4;have h2:=Pe w2;have h3:=Kw k;simp only[Fo.byt] at h;have e1:=LU k s h0 (by omega);have e:(Hy d (JS k s) c).fBytes=s.fBytes+MA k+Ss c:=by
   rw[Hy,e1,QV w2 w3];exact HQ (by omega) (by omega)
  rw[Fo.sh,IK r _ _ d _ w4 (by rw[e];omega) (by rw[e];omega),e,Fo.byt];omega
 | .node k c kids r,m,l,d,s,hw,h0,h=>by
  simp only[Fo.wf,VJ,VH] at hw;obtain⟨⟨⟨⟨⟨w1,w2⟩,w3⟩,w5⟩,w6⟩,w4⟩:=hw;have h1:=Hj w4;have h2:=Hj w6;have h3:=Kw k;simp only[Fo.byt] at h;have e1:=LU k s h0 (by omega);have e:(Hy d (JS k s) c).fBytes=s.fBytes+MA k+(c.fN+1):=by
   rw[Hy,e1,QU w2 w3 (by omega)];exact HQ (by omega) (by omega)
  have e2:=IK kids _ _ (d+1) (Hy d (JS k s) c) w6 (by rw[e];omega) (by rw[e];omega);rw[Fo.sh,IK r _ _ d _ w4 (by rw[e2,e];omega) (by rw[e2,e];omega),e2,e,Fo.byt];omega
def U1 (s:Ar):Ar:=s.flatMap λc=>bif (decide (c=34)||decide (c=92)) then[92,c] else[c]
def SF (s:Ar):Ar:=34::(U1 s++[34])
theorem NM:∀s:Ar,(U1 s).length=s.length+s.count 34+s.count 92
 | []=>rfl
 | c::s=>by
  have ih:=NM s;unfold U1 at ih ⊢;rw[List.flatMap_cons,VU,ih]
  by_cases h1:c=34
  ·subst h1;simp;omega
  ·by_cases h2:c=92
   ·subst h2;simp;omega
   ·simp[h1,h2,List.count_cons];omega
theorem Nu (s:Ar):((SF s).length:Int)=Js s:=by
 simp only[SF,VM,VU,NM,Wv,Js];omega
def R0 (c:Aa):Ar:=
 bif decide (c.fKind=1) then[110,117,108,108] else
 bif decide (c.fKind=2) then(bif decide (c.fInt=1) then[116,114,117,101] else[102,97,108,115,101]) else
 bif decide (c.fKind=3) then Lib.itoa c.fInt else
 bif decide (c.fKind=4) then SF c.fStr else
 bif decide (c.fKind=6) then[123,125] else[91,93]
def Uf:Option Ar→Ar
 | none=>[]
 | some s=>SF s++[58]
def V1 (c:Aa)(s:Ar):Ar:=bif decide (c.fKind=6) then 123::(s++[125]) else 91::(s++[93])
def Ot (first:Bool):Ar:=bif first then[] else[44]
def Fo.txt:Bool→Fo→Ar
 | _,.nil=>[]
 | b,.cell k c r=>Ot b++Uf k++R0 c++r.txt false
 | b,.node k c kids r=>Ot b++Uf k++V1 c (kids.txt true)++r.txt false
theorem Pf (k:Option Ar):((Uf k).length:Int)=MA k:=by
 cases k with
 | none=>rfl
 | some s=>simp only[Uf,VU,MA,Wx];have:=Nu s;omega
theorem Qd {c:Aa}(hp:pl c=true):((R0 c).length:Int)=Ss c:=by
  unfold R0 Ss
  cases h1:decide (c.fKind=1) with
  | true=>rfl
  | false=>
    cases h2:decide (c.fKind=2) with
    | true=>
      simp[pl,h1,h2] at hp;simp only[VK,VR]
      cases h7:decide (c.fInt=1) with
      | true=>simp only[VH] at h7;simp[h7]
      | false=>
                 simp only[VI] at h7;have:c.fInt=0:=by omega
                 simp[this]
    | false=>
      cases h3:decide (c.fKind=3) with
      | true=>rfl
      | false=>
        cases h4:decide (c.fKind=4) with
        | true=>simpa using Nu c.fStr
        | false=>cases h6:decide (c.fKind=6)<;>rfl
theorem Px (c:Aa)(s:Ar):(V1 c s).length=s.length+2:=by
 unfold V1
 cases decide (c.fKind=6)<;>simp
theorem Ko:∀(f:Fo) (m:Bool) (l:Option Ar) (b:Bool),f.wf m l=true→((f.txt b).length:Int)=f.byt+(bif b then((f.cnt-1:Nat):Int) else(f.cnt:Int))
 | .nil,m,l,b,_=>by cases b<;>rfl
 | .cell k c r,m,l,b,hw=>by
  simp only[Fo.wf,VJ,VV] at hw;obtain⟨⟨⟨w1,w2⟩,w3⟩,w4⟩:=hw;have ih:=Ko r _ _ false w4;have a:=Pf k;have d:=Qd w2;simp only[VK] at ih
  cases b<;>simp only[Fo.txt,Fo.byt,Fo.cnt,Ot,VR,VK,VU,Wv,Wx]<;>omega
 | .node k c kids r,m,l,b,hw=>by
  simp only[Fo.wf,VJ,VH] at hw;obtain⟨⟨⟨⟨⟨w1,w2⟩,w3⟩,w5⟩,w6⟩,w4⟩:=hw;have ih:=Ko r _ _ false w4;have ih2:=Ko kids _ _ true w6;have a:=Pf k;have d:=Px c (kids.txt true);simp only[VK,VR] at ih ih2
  cases b<;>simp only[Fo.txt,Fo.byt,Fo.cnt,Ot,VR,VK,VU,Wv,Wx]<;>omega
def Fo.put (k:Option Ar):Fo→Fo→Fo
 | .cell _ c _,r=>.cell k c r
 | .node _ c kids _,r=>.node k c kids r
 | .nil,_=>.nil
theorem Ri (P:Nat)(m:Bool)(last:Option Ar)(k:Nat)(xs:List Aa):GC (P+2) m last (k+1) xs =
  match GV m last xs with
  | none=>none
  | some (key,ys)=>match GC (P+2) false none 1 ys with
   | none=>none
   | some (f,zs)=>match GC (P+1) m key k zs with
    | none=>none
    | some (r,us)=>some (f.put key r,us):=by
 rw[GC]
 cases hk:GV m last xs with
 | none=>rfl
 | some p=>
  obtain⟨key,ys⟩:=p;simp only;rw[GC];simp only[GV,VK]
  cases ys with
  | nil=>rfl
  | cons c ys=>
   simp only
   cases hp:pl c with
   | false=>rfl
   | true=>
    simp only[VT,VK]
    cases hn:decide (0<c.fN) with
    | true=>
     simp only[VR]
     cases hq:GC (P+1) (decide (c.fKind=6)) none c.fN.toNat ys with
     | none=>rfl
     | some q=>
      obtain⟨kids,zs⟩:=q;simp only[GC]
      cases hr:GC (P+1) m key k zs with
      | none=>rfl
      | some q=>obtain⟨a,b⟩:=q;rfl
    | false=>
     simp only[VK,GC]
     cases hr:GC (P+1) m key k ys with
     | none=>rfl
     | some q=>obtain⟨a,b⟩:=q;rfl
def KY (m:Bool)(last:Option Ar)(k:Nat)(xs:List Aa):Option (Fo×List Aa):=GC (xs.length+1) m last k xs
theorem Jt (m:Bool)(last:Option Ar)(xs:List Aa):KY m last 0 xs=some (.nil,xs):=rfl
theorem Ew (m:Bool)(last:Option Ar)(k:Nat)(xs:List Aa):KY m last (k+1) xs =
  match GV m last xs with
  | none=>none
  | some (key,ys)=>match GW ys with
   | none=>none
   | some (f,zs)=>match KY m key k zs with
    | none=>none
    | some (r,us)=>some (f.put key r,us):=by
 unfold KY GW;rw[Gs (xs.length+1) (xs.length+2) m last (k+1) xs (by omega) (by omega),Ri]
 cases hk:GV m last xs with
 | none=>rfl
 | some p=>
  obtain⟨key,ys⟩:=p;have h1:=(Kt hk).1;have hy:ys.length≤xs.length:=by rw[h1];simp
  simp only;rw[Gs (xs.length+2) (ys.length+1) false none 1 ys (by omega) (by omega)]
  cases hf:GC (ys.length+1) false none 1 ys with
  | none=>rfl
  | some q=>
   obtain⟨f,zs⟩:=q;have h2:=(EW _ _ _ _ _ _ _ hf).1;have hz:zs.length≤ys.length:=by rw[h2];simp
   simp only;rw[Gs (xs.length+1) (zs.length+1) m key k zs (by omega) (by omega)]
   all_goals (cases GC (zs.length+1) m key k zs<;>rfl)
theorem Lh {S O:Type}{body:S→Option (Stp S O)}{n:Nat}{s s':S}{o:O}(h:body s=some (.next s'))(h':BW body n s'=some o):BW body (n+1) s=some o:=by rw[BW,h];exact h'
theorem DM {S O:Type}{body:S→Option (Stp S O)}{n:Nat}{s:S}{o:O}(h:body s=some (.out o)):BW body (n+1) s=some o:=by rw[BW,h]
theorem Rj:GW []=none:=rfl
theorem Gt (c:Aa)(r:List Aa):GW (c::r)=bif !pl c then none else bif decide (0<c.fN) then(match KY (decide (c.fKind=6)) none c.fN.toNat r with
  | none=>none
  | some (kids,zs)=>some (.node none c kids .nil,zs)) else some (.cell none c .nil,r):=by
 unfold GW;rw[GC];simp only[GV,VK]
 cases hp:pl c with
 | false=>rfl
 | true=>
  simp only[VT,VK]
  cases hn:decide (0<c.fN) with
  | true=>
   simp only[VR];unfold KY;rw[VM]
   cases hq:GC (r.length+1) (decide (c.fKind=6)) none c.fN.toNat r with
   | none=>rfl
   | some q=>obtain⟨kids,zs⟩:=q;rfl
  | false=>rfl
theorem Nv {f:Fo}(h:f.one=true)(key:Option Ar)(r:Fo):(f.put key r).flat=BJ key++(f.flat++r.flat):=by
 cases f with
 | nil=>cases h
 | cell k c r'=>
  cases k with
  | some s=>cases h
  | none=>cases r' with
   | nil=>simp[Fo.put,Fo.flat,BJ]
   | cell _ _ _=>cases h
   | node _ _ _ _=>cases h
 | node k c kids r'=>
  cases k with
  | some s=>cases h
  | none=>cases r' with
   | nil=>simp[Fo.put,Fo.flat,BJ]
   | cell _ _ _=>cases h
   | node _ _ _ _=>cases h
theorem Nz {f:Fo}(h:f.one=true):1≤f.flat.length:=by
 cases f with
 | nil=>cases h
 | cell k c r'=>simp[Fo.flat];omega
 | node k c kids r'=>simp[Fo.flat];omega
theorem IN {xs ys:List Aa}{f:Fo}(h:GW xs=some (f,ys)):xs=f.flat++ys∧f.wf false none=true∧f.one=true:=
 ⟨(EW _ _ _ _ _ _ _ h).1,(EW _ _ _ _ _ _ _ h).2.1,OW h⟩
def Ik (v:List Aa)(i:Int):Int:=match GW (v.drop i.toNat) with
 | none=>-1
 | some (f,_)=>i+f.flat.length
def IR (m:Bool)(last:Option Ar)(v:List Aa)(i:Int)(k:Nat):Int:=match KY m last k (v.drop i.toNat) with
 | none=>-1
 | some (f,_)=>i+f.flat.length
theorem Mc {v:List Aa}{i:Int}(h0:0≤i)(h1:i≤v.length):Ik v i = -1∨(i<Ik v i∧Ik v i≤v.length):=by
 unfold Ik
 cases h:GW (v.drop i.toNat) with
 | none=>exact .inl rfl
 | some q=>
  obtain⟨f,ys⟩:=q;obtain⟨h2,_,h3⟩:=IN h;have:=Nz h3;have hl:(v.drop i.toNat).length=f.flat.length+ys.length:=by rw[h2];simp
  rw[List.length_drop] at hl
  right;simp only;omega
structure Vr (F M:Nat) (v:List Aa):Prop where
 hM:M≤1152921504606846976
 hv:v.length≤M
 hF:M<F
 hc:∀c∈v,c.fStr.length≤M
theorem PR (ok:Bool){i:Int}(h0:0≤i)(h1:i≤1152921504606846976):C0 ok i=some (bif ok then i+1 else -1):=by
 unfold C0
 cases ok
 ·rfl
 ·rw[Bd rfl,Bp (by omega) (by omega)];rfl
theorem OV {F:Nat}{c:Aa}(hF:c.fStr.length<F)(hs:c.fStr.length≤1152921504606846976):Rh F c=some (decide (c.fKind=4)&&pl c):=by
 unfold Rh;rw[PP hF (by omega)];simp only[Option.isSome_some,ov,Wh,imp,We,AR,VR]
 cases h4:decide (c.fKind=4) with
 | false=>rfl
 | true=>
  simp only[VH] at h4;simp[pl,h4]
theorem K7 {v:List Aa}{i:Int}{c:Aa}{r:List Aa}(h0:0≤i)(h:v.drop i.toNat=c::r):Ax v i=c:=by
 have:=(Ds h0 h).1;simp[Ax,this]
section
variable {M : Nat} {v : List Aa}
theorem Ih {F:Nat}(hA:Vr F M v){g:List Aa→Int→Option Int}{n:Int}(hn:n≤9223372036854775807):∀(L:Nat) (i x:Int),0≤i→i≤v.length→0≤x→x≤n→(∀j,i≤j→j≤v.length→g v j=some (Ik v j))→v.length-i.toNat<L→
  ∃o,BW (λσ=>Df v n g σ.1 σ.2) L (i,x)=some o∧BV (λν=>GU ν) o=some (IR false none v i (n-x).toNat)
 | 0,i,x,_,_,_,_,_,h=>by omega
 | L+1,i,x,h0,h1,hx,hxn,hg,hL=>by
  cases hxl:decide (x<n) with
  | false=>
   refine⟨.go i,DM (by show Df v n g i x=_;unfold Df;rw[AT hxl]),?_⟩;simp only[VI] at hxl;rw[show(n-x).toNat=0 from by omega];simp[BV,GU,IR,Jt,Fo.flat]
  | true=>
   have hb:Df v n g i x=AP (decide (Ik v i<0)) (some (.out (.ret (-1)))) (AR (BL .i64 (x+1))<|some (.next (Ik v i,x+1))):=by unfold Df;rw[Bd hxl,hg i (Wr i) h1,Be rfl]
   simp only[VH] at hxl;obtain⟨k,hk⟩:∃k,(n-x).toNat=k+1:=⟨(n-x).toNat-1,by omega⟩
   rw[hk];have e:IR false none v i (k+1)=bif decide (Ik v i<0) then -1 else IR false none v (Ik v i) k:=by
    unfold IR;rw[Ew];simp only[GV,VK]
    cases hp:GW (v.drop i.toNat) with
    | none=>simp[Ik,hp]
    | some q=>
     obtain⟨f,ys⟩:=q;obtain⟨q1,q2,q3⟩:=IN hp;have hi:Ik v i=i+f.flat.length:=by simp[Ik,hp]
     have hd:v.drop (Ik v i).toNat=ys:=by rw[hi];exact Dt h0 q1
     rw[hd,VL (by omega)];simp only[VK]
     cases hr:KY false none k ys with
     | none=>rfl
     | some q=>
      obtain⟨r,zs⟩:=q;simp only[Nv q3,BJ,List.nil_append,VU,hi];omega
   rw[e];rcases Mc (v:=v) h0 h1 with hneg | ⟨hlt,hle⟩
   ·exact⟨.ret (-1),DM (hb.trans (by rw[hneg,Bd (by decide)])),by rw[hneg];rfl⟩
   ·have hM:=hA.hM;have hvM:=hA.hv;obtain⟨o,ho1,ho2⟩:=Ih hA hn L (Ik v i) (x+1) (by omega) hle (by omega) (by omega) (λj hj=>hg j (by omega)) (by omega);exact⟨o,Lh (hb.trans (by rw[AT (VL (by omega)),Bp (by omega) (by omega)])) ho1,by rw[ho2,show(n-(x+1)).toNat=k from by omega,VL (by omega)];rfl⟩
theorem KV {F:Nat}(hA:Vr F M v){g:List Aa→Int→Option Int}{n:Int}(hn:n≤9223372036854775807):∀(L:Nat) (i x:Int) (last:Ar),0≤i→i≤v.length→0≤x→x≤n→(∀j,i≤j→j≤v.length→g v j=some (Ik v j))→v.length-i.toNat<L→
  ∃o,BW (λσ=>D1 F v n g σ.1 σ.2.1 σ.2.2) L (i,last,x)=some o∧BV (λν=>Jr ν) o=some (IR true (bif decide (0<x) then some last else none) v i (n-x).toNat)
 | 0,i,x,_,_,_,_,_,_,h=>by omega
 | L+1,i,x,last,h0,h1,hx,hxn,hg,hL=>by
  have hM:=hA.hM;have hvM:=hA.hv;have hMF:=hA.hF
  cases hxl:decide (x<n) with
  | false=>
   refine⟨.go i,DM (by show D1 F v n g i last x=_;unfold D1;rw[AT hxl]),?_⟩;simp only[VI] at hxl;rw[show(n-x).toNat=0 from by omega];simp[BV,Jr,IR,Jt,Fo.flat]
  | true=>
   have hxl':=hxl;simp only[VH] at hxl;obtain⟨k,hk⟩:∃k,(n-x).toNat=k+1:=⟨(n-x).toNat-1,by omega⟩
   rw[hk]
   cases hd:v.drop i.toNat with
   | nil=>
    have hl:v.length≤i.toNat:=by simpa using hd
    refine⟨.ret (-1),DM (by
     show D1 F v n g i last x=_;unfold D1;rw[Bd hxl',CA (by simp[imp,show(v.length:Int)≤i from by omega]),CA (by simp[imp,show(v.length:Int)≤i from by omega]),Bd (by simp[show(v.length:Int)≤i from by omega])]),?_⟩
    simp[BV,IR,hd,Ew,GV]
   | cons c r=>
    obtain⟨g1,g2,g3⟩:=Ds h0 hd;have hcM:=hA.hc c (VX g1);have hat:=K7 h0 hd;have hnl:decide ((v.length:Int)≤i)=false:=by simp;omega
    have hb:D1 F v n g i last x=AP (!(decide (c.fKind=4)&&pl c)||decide (0<x)&&(CH c.fStr last||decide (c.fStr=last))) (some (.out (.ret (-1)))) (Bf (g v (i+1)) λha=>AP (decide (ha<0)) (some (.out (.ret (-1)))) (AR (BL .i64 (x+1))<|some (.next (ha,c.fStr,x+1)))):=by
     unfold D1;rw[Bd hxl',CA (by simp only[imp];rw[Ui h0 g3];simp),hat,OV (by omega) (by omega),CA (by simp[imp])];simp only[hnl,ov,Wh,VY];rw[BG h0 g3,Bp (by omega) (by omega)]
    have hpk:GV true (bif decide (0<x) then some last else none) (c::r)=bif (!(decide (c.fKind=4)&&pl c)||decide (0<x)&&(CH c.fStr last||decide (c.fStr=last))) then none else some (some c.fStr,r):=by
     simp only[GV,VR]
     cases h4:decide (c.fKind=4) with
     | false=>simp
     | true=>
      cases hp:pl c with
      | false=>simp
      | true=>
       have hok:=(M6 hp (by simpa using h4)).2
       cases h0x:decide (0<x) with
       | false=>simp[Cw,hok]
       | true=>cases hs:(CH c.fStr last||decide (c.fStr=last))<;>simp[Cw,hok,hs]
    cases ht:(!(decide (c.fKind=4)&&pl c)||decide (0<x)&&(CH c.fStr last||decide (c.fStr=last))) with
    | true=>
     rw[ht] at hpk;refine⟨.ret (-1),DM (hb.trans (Bd ht)),?_⟩;simp only[IR,hd,Ew,hpk,VR];rfl
    | false=>
     rw[ht] at hpk;rw[AT ht,hg (i+1) (by omega) (by omega),Be rfl] at hb;have e:IR true (bif decide (0<x) then some last else none) v i (k+1)=bif decide (Ik v (i+1)<0) then -1 else IR true (some c.fStr) v (Ik v (i+1)) k:=by
      unfold IR;rw[hd,Ew,hpk];simp only[VK];have hx:Ik v (i+1)=match GW r with | none=>-1 | some (f,_)=>i+1+f.flat.length:=by unfold Ik;rw[g2]
      cases hp:GW r with
      | none=>rw[hp] at hx;simp[hx]
      | some q=>
       obtain⟨f,ys⟩:=q;obtain⟨q1,q2,q3⟩:=IN hp;rw[hp] at hx;simp only at hx;have hd2:v.drop (Ik v (i+1)).toNat=ys:=by rw[hx];exact Dt (by omega) (g2.trans q1)
       rw[hd2,VL (by omega)];simp only[VK]
       cases hr:KY true (some c.fStr) k ys with
       | none=>rfl
       | some q=>
        obtain⟨r',zs⟩:=q;simp only[Nv q3,BJ,VU,VM,Wv,hx];omega
     rw[e];rcases Mc (v:=v) (i:=i+1) (by omega) (by omega) with hneg | ⟨hlt,hle⟩
     ·exact⟨.ret (-1),DM (hb.trans (by rw[hneg,Bd (by decide)])),by rw[hneg];rfl⟩
     ·obtain⟨o,ho1,ho2⟩:=KV hA hn L (Ik v (i+1)) (x+1) c.fStr (by omega) hle (by omega) (by omega) (λj hj=>hg j (by omega)) (by omega);exact⟨o,Lh (hb.trans (by rw[AT (VL (by omega)),Bp (by omega) (by omega)])) ho1,by rw[ho2,show(n-(x+1)).toNat=k from by omega,VN (show(0:Int)<x+1 from by omega),VL (by omega)];rfl⟩
theorem N3 {i:Int}{c:Aa}{r:List Aa}(h0:0≤i)(hd:v.drop i.toNat=c::r)(hp:pl c=true):Ik v i=IR (decide (c.fKind=6)) none v (i+1) c.fN.toNat:=by
 have g2:=(Ds h0 hd).2.1;have hN:=Rk hp;unfold Ik IR;rw[hd,Gt,g2,hp];simp only[VT,VK]
 cases hn:decide (0<c.fN) with
 | true=>
  simp only[VR]
  cases hq:KY (decide (c.fKind=6)) none c.fN.toNat r with
  | none=>rfl
  | some q=>
   obtain⟨kids,zs⟩:=q;simp only[Fo.flat,BJ,List.nil_append,VM,Wz];omega
 | false=>
  simp only[VI] at hn;rw[show c.fN.toNat=0 from by omega,Jt];simp[Fo.flat,BJ]
theorem Rg (hA:Vr (M+1) M v)(hN:∀c∈v,c.fN≤9223372036854775807):∀(d F:Nat) (i:Int),0≤i→i≤v.length→v.length-i.toNat=d→M+2*d+3<F→LW F v i=some (Ik v i):=by
 have hM:=hA.hM;have hvM:=hA.hv;intro d
 induction d using Nat.strongRecOn with
 | ind d ih=>
  intro F i h0 h1 hd hF;obtain⟨F,rfl⟩:∃G,F=G+1:=⟨F-1,by omega⟩
  obtain⟨F,rfl⟩:∃G,F=G+1:=⟨F-1,by omega⟩
  rw[LW];unfold Rf
  cases hdr:v.drop i.toNat with
  | nil=>
   have hl:v.length≤i.toNat:=by simpa using hdr
   rw[Bd (by simp;omega)];simp[Ik,hdr,Rj]
  | cons c r=>
   obtain⟨g1,g2,g3⟩:=Ds h0 hdr;have hcM:=hA.hc c (VX g1);have hcN:=hN c (VX g1);rw[AT (by simp;omega),BG h0 g3,K7 h0 hdr];simp only[PR _ h0 (show i≤1152921504606846976 by omega),Option.isSome_some,ov,Wh,imp,We,CA (x:=_) (rfl:true=true)];have hg:∀j,i+1≤j→j≤v.length→LW F v j=some (Ik v j):=λj hj hj2=>ih (v.length-j.toNat) (by omega) F j (by omega) hj2 rfl (by omega);have hpl0:pl c=false→Ik v i = -1:=λhp=>by simp[Ik,hdr,Gt,hp]
   have hleaf:pl c=true→c.fN=0→Ik v i=i+1:=λhp h0'=>by simp[Ik,hdr,Gt,hp,h0',Fo.flat,BJ]
   have hscal:∀b:Bool,pl c=b→(b=true→c.fN=0)→Ik v i=bif b then i+1 else -1:=λb hb hz=>by
    cases b
    ·exact hpl0 hb
    ·exact hleaf hb (hz rfl)
   by_cases k1:c.fKind=1
   ·rw[Bd (by simp[k1])];have hp:pl c=(decide (c.fInt=0)&&(decide (c.fStr=[])&&decide (c.fN=0))):=by simp[pl,k1]
    rw[hscal _ hp (λh=>by simp at h;exact h.2.2)]
    cases decide (c.fInt=0)<;>cases decide (c.fStr=[])<;>cases decide (c.fN=0)<;>rfl
   rw[AT (by simp[k1])]
   by_cases k2:c.fKind=2
   ·rw[Bd (by simp[k2])];have hp:pl c=((decide (c.fInt=0)||decide (c.fInt=1))&&(decide (c.fStr=[])&&decide (c.fN=0))):=by simp[pl,k2]
    rw[hscal _ hp (λh=>by simp at h;exact h.2.2)]
    cases decide (c.fInt=0)<;>cases decide (c.fInt=1)<;>cases decide (c.fStr=[])<;>cases decide (c.fN=0)<;>rfl
   rw[AT (by simp[k2])]
   by_cases k3:c.fKind=3
   ·rw[Bd (by simp[k3])];have hp:pl c=(decide (c.fStr=[])&&decide (c.fN=0)):=by simp[pl,k3]
    rw[hscal _ hp (λh=>by simp at h;exact h.2)]
    cases decide (c.fStr=[])<;>cases decide (c.fN=0)<;>rfl
   rw[AT (by simp[k3])]
   by_cases k4:c.fKind=4
   ·rw[Bd (by simp[k4]),OV (by omega) (by omega),Be rfl,Be rfl];rw[VN k4,VW,hscal (pl c) rfl (λhp=>by have:=(M6 hp k4).1;rw[this])]
   rw[AT (by simp[k4])]
   by_cases k5:c.fKind=5
   ·have hp:pl c=(decide (c.fInt=0)&&(decide (c.fStr=[])&&decide (0≤c.fN))):=by simp[pl,k5]
    rw[show(decide (c.fKind=5)&&(decide (c.fInt=0)&&(decide (c.fStr=[])&&decide (0≤c.fN))))=pl c from by rw[hp,VN k5,VW]];have k5' : ¬ c.fKind=6:=by omega
    cases hb:pl c with
    | false=>rw[AT rfl,AT (by simp[k5]),hpl0 hb]
    | true=>
     have hn0:=Rk hb;rw[Bd rfl,Bp (by omega) (by omega),LX];unfold KW;obtain⟨o,ho1,ho2⟩:=Ih (F:=F) ⟨hM,hvM,by omega,hA.hc⟩ hcN F (i+1) 0 (by omega) (by omega) (Wr 0) hn0 hg (by omega);rw[Be ho1,ho2,Be rfl,N3 h0 hdr hb,VL k5',Int.sub_zero]
   rw[AT (by simp[k5])]
   by_cases k6:c.fKind=6
   ·have hp:pl c=(decide (c.fInt=0)&&(decide (c.fStr=[])&&decide (0≤c.fN))):=by simp[pl,k6]
    rw[show(decide (c.fKind=6)&&(decide (c.fInt=0)&&(decide (c.fStr=[])&&decide (0≤c.fN))))=pl c from by rw[hp,VN k6,VW]]
    cases hb:pl c with
    | false=>rw[AT rfl,hpl0 hb]
    | true=>
     have hn0:=Rk hb;rw[Bd rfl,Bp (by omega) (by omega),Re];unfold OU;obtain⟨o,ho1,ho2⟩:=KV (F:=F) ⟨hM,hvM,by omega,hA.hc⟩ hcN F (i+1) 0 [] (by omega) (by omega) (Wr 0) hn0 hg (by omega);rw[Be ho1,ho2,Be rfl,N3 h0 hdr hb,VN k6,Int.sub_zero];rfl
   ·rw[AT (by simp[k6]),hpl0 (by simp[pl,k1,k2,k3,k4,k5,k6])]
end
theorem OX {m:Bool}{last key:Option Ar}{r:List Aa}(h:Cw m last key=true):GV m last (BJ key++r)=some (key,r):=by
 cases key with
 | none=>
  have:m=false:=by simpa[Cw] using h
  subst this;rfl
 | some s=>
  have h':=h;simp only[Cw,VJ] at h;obtain⟨⟨h1,h2⟩,h3⟩:=h;subst h1;have hp:pl ⟨4,0,s,0⟩=true:=by simp[pl,h2]
  show(bif pl ⟨4,0,s,0⟩&&decide ((4:Int)=4)&&Cw true last (some s) then _ else _)=_;rw[hp,h'];rfl
theorem Ku:∀(f:Fo) (m:Bool) (last:Option Ar) (ys:List Aa),f.wf m last=true→KY m last f.cnt (f.flat++ys)=some (f,ys)
 | .nil,_,_,_,_=>rfl
 | .cell k c r,m,last,ys,hw=>by
  simp only[Fo.wf,VJ,VV] at hw;obtain⟨⟨⟨w1,w2⟩,w3⟩,w4⟩:=hw;simp only[Fo.cnt,Fo.flat,Wy,List.cons_append];rw[Ew,OX w1];simp only[Gt,w2,w3,VT,VK,Ku r m k ys w4,Fo.put]
 | .node k c kids r,m,last,ys,hw=>by
  simp only[Fo.wf,VJ,VH] at hw;obtain⟨⟨⟨⟨⟨w1,w2⟩,w3⟩,w5⟩,w6⟩,w4⟩:=hw;simp only[Fo.cnt,Fo.flat,Wy,List.cons_append];rw[Ew,OX w1];have e:c.fN.toNat=kids.cnt:=by omega
  simp only[Gt,w2,VN w3,VT,VK,VR,e,Ku kids _ none (r.flat++ys) w6,Ku r m k ys w4,Fo.put]
theorem SG {f:Fo}{ys:List Aa}(h1:f.one=true)(hw:f.wf false none=true):GW (f.flat++ys)=some (f,ys):=by
 have:=Ku f false none ys hw;have hc:f.cnt=1:=by
  cases f with
  | nil=>cases h1
  | cell k c r=>cases k with
   | some _=>cases h1
   | none=>cases r with
    | nil=>rfl
    | _=>cases h1
  | node k c kids r=>cases k with
   | some _=>cases h1
   | none=>cases r with
    | nil=>rfl
    | _=>cases h1
 rw[hc] at this;exact this
structure Ef (M:Nat) (v:List Aa):Prop where
 hM:M≤1000000000
 hv:v.length≤M
 hc:∀c∈v,c.fStr.length≤M∧BL .i64 c.fInt=true∧c.fN≤9223372036854775807
theorem Ef.lk {M F:Nat}{v:List Aa}(h:Ef M v)(hF:M<F):P2 F M v:=⟨by have:=h.hM;omega,by have:=h.hM;omega,h.hv,hF,h.hc⟩
theorem Ef.rf {M F:Nat}{v:List Aa}(h:Ef M v)(hF:M<F):Vr F M v:=⟨by have:=h.hM;omega,h.hv,hF,λc hc=>(h.hc c hc).1⟩
theorem Ef.drop {M:Nat}{v:List Aa}(h:Ef M v)(k:Nat):Ef M (v.drop k):=⟨h.hM,by have:=h.hv;rw[List.length_drop];omega,λc hc=>h.hc c (List.mem_of_mem_drop hc)⟩
theorem Ef.take {M:Nat}{v:List Aa}(h:Ef M v)(k:Nat):Ef M (v.take k):=⟨h.hM,by have:=h.hv;rw[List.length_take];omega,λc hc=>h.hc c (List.mem_of_mem_take hc)⟩
def whole (v:List Aa):Option Fo:=match GW v with
 | some (f,[])=>some f
 | _=>none
theorem Oh {v:List Aa}{f:Fo}(h:whole v=some f):v=f.flat∧f.wf false none=true∧f.one=true:=by
 unfold whole at h
 cases hp:GW v with
 | none=>rw[hp] at h;cases h
 | some q=>
  obtain⟨g,ys⟩:=q;rw[hp] at h
  cases ys with
  | cons _ _=>cases h
  | nil=>
   cases h
   obtain⟨h1,h2,h3⟩:=IN hp;exact⟨by simpa using h1,h2,h3⟩
theorem QK {f:Fo}(h1:f.one=true)(hw:f.wf false none=true):whole f.flat=some f:=by
 have:=SG (ys:=[]) h1 hw;rw[Wz] at this;simp[whole,this]
def NN (f:Fo):Int:=
 bif f.flat.any LG then 2 else bif f.flat.any JV||(decide (200<f.flat.length)||(decide (8<f.dep)||decide (4000<(f.txt true).length))) then 3 else 0
def CD (v:List Aa):Int:=match whole v with
 | none=>1
 | some f=>NN f
theorem Pa {f:Fo}(h1:f.one=true):f.cnt=1:=by
 cases f with
 | nil=>cases h1
 | cell k c r=>cases k with
  | some _=>cases h1
  | none=>cases r with
   | nil=>rfl
   | _=>cases h1
 | node k c kids r=>cases k with
  | some _=>cases h1
  | none=>cases r with
   | nil=>rfl
   | _=>cases h1
theorem M5 (s:Ar):Js s≤2*s.length+2+s.length:=by
 have h1:s.count 34≤s.length:=List.count_le_length;have h2:s.count 92≤s.length:=List.count_le_length;unfold Js;omega
theorem TZ {c:Aa}{M:Nat}(hp:pl c=true)(hs:c.fStr.length≤M)(hi:(Lib.itoa c.fInt).length≤21):Ss c≤3*M+21:=by
 have:=M5 c.fStr;unfold Ss
 cases h1:decide (c.fKind=1) with
 | true=>simp only[VR];omega
 | false=>
  cases h2:decide (c.fKind=2) with
  | true=>
   simp[pl,h1,h2] at hp;simp only[VK,VR];omega
  | false=>
   cases h3:decide (c.fKind=3) with
   | true=>simp only[VK,VR];omega
   | false=>cases h4:decide (c.fKind=4)<;>simp only[VK,VR]<;>omega
theorem MO {M:Nat}:∀{f:Fo} {m:Bool} {l:Option Ar},f.wf m l=true→(∀c∈f.flat,c.fStr.length≤M∧BL .i64 c.fInt=true∧c.fN≤9223372036854775807)→f.byt+f.cnt≤(3*M+24)*f.flat.length
 | .nil,_,_,_,_=>by simp[Fo.byt,Fo.flat,Fo.cnt]
 | .cell k c r,m,l,hw,hc=>by
  simp only[Fo.wf,VJ,VV] at hw;obtain⟨⟨⟨w1,w2⟩,w3⟩,w4⟩:=hw;simp only[Fo.flat] at hc;have ih:=MO w4 (λx hx=>hc x (by simp[hx]));obtain⟨c1,c2,c3⟩:=hc c (by simp);have i64:=Je c2;have hl:=TZ w2 c1 (Lib.itoa_length_le c.fInt i64.1 i64.2);have hk:MA k≤(3*M+24)*(BJ k).length:=by
   cases k with
   | none=>simp[MA,BJ]
   | some s=>
    have:=(hc ⟨4,0,s,0⟩ (by simp[BJ])).1;have h2:=M5 s;simp only at this;simp only[MA,BJ,Wx];omega
  simp only[Fo.byt,Fo.flat,Fo.cnt,VU,VM];have e:((3*(M:Int)+24)*(((BJ k).length+(r.flat.length+1):Nat):Int))=(3*(M:Int)+24)*(BJ k).length+((3*(M:Int)+24)*r.flat.length+(3*(M:Int)+24)):=by
   push_cast;rw[Int.mul_add,Int.mul_add,Int.mul_one]
  rw[e]
  push_cast at *
  omega
 | .node k c kids r,m,l,hw,hc=>by
  simp only[Fo.wf,VJ,VH] at hw;obtain⟨⟨⟨⟨⟨w1,w2⟩,w3⟩,w5⟩,w6⟩,w4⟩:=hw;simp only[Fo.flat] at hc;have ih:=MO w4 (λx hx=>hc x (by simp[hx]));have ih2:=MO w6 (λx hx=>hc x (by simp[hx]));have hcf:=CL kids;have hk:MA k≤(3*M+24)*(BJ k).length:=by
   cases k with
   | none=>simp[MA,BJ]
   | some s=>
    have:=(hc ⟨4,0,s,0⟩ (by simp[BJ])).1;have h2:=M5 s;simp only at this;simp only[MA,BJ,Wx];omega
  simp only[Fo.byt,Fo.flat,Fo.cnt,VU,VM];have e:((3*(M:Int)+24)*(((BJ k).length+(kids.flat.length+r.flat.length+1):Nat):Int))=(3*(M:Int)+24)*(BJ k).length+((3*(M:Int)+24)*kids.flat.length+(3*(M:Int)+24)*r.flat.length+(3*(M:Int)+24)):=by
   push_cast;rw[Int.mul_add,Int.mul_add,Int.mul_add,Int.mul_one]
  rw[e]
  push_cast at *
  omega
theorem Qz {M:Nat}(hM:M≤1000000){f:Fo}{m:Bool}{l:Option Ar}(hw:f.wf m l=true)(hl:f.flat.length≤M)(hc:∀c∈f.flat,c.fStr.length≤M∧BL .i64 c.fInt=true∧c.fN≤9223372036854775807):f.byt≤4000000000000:=by
 have:=MO (M:=M) hw hc;have h2:(3*M+24)*f.flat.length≤(3*1000000+24)*1000000:=Nat.mul_le_mul (by omega) (by omega);have h3:(((3*M+24)*f.flat.length:Nat):Int)=(3*(M:Int)+24)*f.flat.length:=by push_cast;rfl
 omega
theorem Gn {M F:Nat}{v:List Aa}(hA:Ef M v)(hM:M≤1000000)(hF:M<F):CO F v=some (CD v):=by
 unfold CO CD whole;have hvM:=hA.hv;rcases ST (hA.lk hF) with⟨f,ys,hp,hl⟩ | ⟨hp,sh',hl⟩
 ·rw[hl,Be rfl,hp];obtain⟨h1,h2,h3⟩:=IN hp;have hlen:v.length=f.flat.length+ys.length:=by rw[h1];simp
  cases ys with
  | cons c r=>
   rw[Bd];simp only[VM] at hlen;simp;omega
  | nil=>
   simp only[Wv,Nat.add_zero] at hlen;rw[AT (by simp[hlen])];have hc:∀c∈f.flat,c.fStr.length≤M∧BL .i64 c.fInt=true∧c.fN≤9223372036854775807:=λc hc=>hA.hc c (by rw[h1];simp[hc]);have hb:=Qz hM h2 (by omega) hc;have hb0:=Hj h2;have e1:(f.sh 0 KT).fOutside=f.flat.any LG:=by rw[Mz];rfl
   have e2:(f.sh 0 KT).fLong=f.flat.any JV:=by rw[Kr];rfl
   have e3:(f.sh 0 KT).fDepth=f.dep:=by rw[IJ f 0 KT (by simp[KT])];simp[KT]
   have e4:(f.sh 0 KT).fBytes=(f.txt true).length:=by
    rw[IK f false none 0 KT h2 (by simp[KT]) (by simp[KT];omega),Ko f false none true h2,Pa h3];simp[KT]
   simp only;rw[e1,e2,e3,e4,hlen];unfold NN
   cases f.flat.any LG with
   | true=>rw[Bd rfl];rfl
   | false=>
    rw[AT rfl];have a1:decide ((200:Int)<(f.flat.length:Int))=decide (200<f.flat.length):=by rw[Wi];simp;omega
    have a2:decide ((8:Int)<(f.dep:Int))=decide (8<f.dep):=by rw[Wi];simp;omega
    have a3:decide ((4000:Int)<((f.txt true).length:Int))=decide (4000<(f.txt true).length):=by rw[Wi];simp;omega
    rw[a1,a2,a3]
    cases(f.flat.any JV||(decide (200<f.flat.length)||(decide (8<f.dep)||decide (4000<(f.txt true).length))))<;>rfl
 ·rw[hl,Be rfl,hp];rfl
theorem ON {c:Aa}(hp:pl c=true)(hn:decide (0<c.fN)=false):(Fo.cell none c .nil).wf false none=true:=by simp[Fo.wf,Cw,hp,hn]
theorem OM {c:Aa}{kids:Fo}(hp:pl c=true)(hn:0<c.fN)(hk:c.fN=kids.cnt)(hw:kids.wf (decide (c.fKind=6)) none=true):(Fo.node none c kids .nil).wf false none=true:=by simp[Fo.wf,Cw,hp,hn,hk,hw];omega
section
variable {M : Nat} {v : List Aa}
theorem Ef.next (hA:Ef M v){F:Nat}(hF:3*M+3<F){p:Int}(h0:0≤p)(h1:p≤v.length):LW F v p=some (Ik v p):=by
 have hM:=hA.hM;have hvM:=hA.hv;exact Rg (hA.rf (VO M)) (λc hc=>(hA.hc c hc).2.2) (v.length-p.toNat) F p h0 h1 rfl (by omega)
theorem SV {m:Bool}{last key:Option Ar}(h:Cw m last key=true):((BJ key).length:Int)=bif m then 1 else 0:=by
  cases key with
  | none=>
            have:m=false:=by simpa[Cw] using h
            subst this;rfl
  | some s=>simp only[Cw,VJ] at h;rw[h.1.1];rfl
end
theorem OY {R V:Type}(K:V→Option R)(v:V):BV K (.go v)=K v:=rfl
theorem KZ {R V:Type}(K:V→Option R)(r:R):BV K (.ret r)=some r:=rfl
section
variable {M : Nat} {v : List Aa}
end
section
variable {M : Nat} {v : List Aa}
theorem Dg {α:Type}[Inhabited α](a:α):ov (some a)=a:=rfl
end
section
variable {M : Nat}
end
section
variable {M : Nat}
end
def Ra (v:List Aa):Bool:=!decide (300<v.length)&&v.all λc=>!decide (300<c.fStr.length)
def Ju (c:Aa):Bool:=BL .i64 c.fKind&&BL .i64 c.fInt&&SN c.fStr&&BL .i64 c.fN
theorem Ef.of {v:List Aa}(hs:Ra v=true)(hc:v.all Ju=true):Ef 300 v:=by
 unfold Ra at hs;simp only[VJ,VV,VI,Wn] at hs hc;refine⟨by decide,by omega,λc h=>?_⟩;obtain h1:=hs.2 c h;obtain h2:=hc c h;unfold Ju at h2;simp only[VJ] at h2;exact⟨by omega,h2.1.1.2,(Je h2.2).2⟩
theorem MD (a:Bool):imp a true=true:=by cases a<;>rfl
section
variable {M : Nat}
end
theorem Qv {α:Type}{n:Nat}{x:Option α}(h:n≤1000000000):AR (En 40 n) x=x:=CA (VN (by omega))
theorem I2 {α:Type}[Inhabited α]{l:List α}{x:Int}(h0:0≤x)(h:x<l.length):Ax l x∈l:=by
 have:l[x.toNat]? =some (l[x.toNat]'(by omega)):=VP (by omega);simp only[Ax,this,Wh];exact List.getElem_mem _
open Go Go.RowKit
def TS (a b:Int):Int:=bif decide (a<b) then -1 else bif decide (b<a) then 1 else 0
def MN:Option Ar→Option Ar→Int
 | some a,some b=>Lib.compareBytes a b
 | _,_=>0
def Tx (c d:Aa)(kids:Int):Int:=
 bif !decide (c.fKind=d.fKind) then TS c.fKind d.fKind
 else bif decide (c.fKind=4) then Lib.compareBytes c.fStr d.fStr
 else bif !decide (c.fKind=5)&&!decide (c.fKind=6) then TS c.fInt d.fInt
 else bif !decide (kids=0) then kids else TS c.fN d.fN
def JR (a b:Int):Int:=bif !decide (a=0) then a else b
def Fo.cmp:Fo→Fo→Int
 | .cell k c r,.cell l d s=>JR (MN k l) (JR (Tx c d 0) (r.cmp s))
 | .cell k c r,.node l d g s=>JR (MN k l) (JR (Tx c d 0) (r.cmp s))
 | .node k c f r,.cell l d s=>JR (MN k l) (JR (Tx c d 0) (r.cmp s))
 | .node k c f r,.node l d g s=>JR (MN k l) (JR (Tx c d (f.cmp g)) (r.cmp s))
 | _,_=>0
theorem Nj (F:Nat)(a b:List Aa):LP F a b=Nt F a b:=by
 have e:Kq F a b=Nt F a b:=rfl;unfold LP;rw[e]
 cases Nt F a b<;>rfl
def Fo.hd:Fo→Option (Option Ar×Aa×Fo×Fo)
 | .nil=>none
 | .cell k c r=>some (k,c,.nil,r)
 | .node k c kids r=>some (k,c,kids,r)
structure Hd (m:Bool) (last:Option Ar) (f:Fo) (k:Option Ar) (c:Aa) (kids r:Fo):Prop where
 key:Cw m last k=true
 pl:pl c=true
 n:c.fN=kids.cnt
 kw:kids.wf (decide (c.fKind=6)) none=true
 rest:r.wf m k=true
 flat:f.flat=BJ k++c::(kids.flat++r.flat)
 cnt:f.cnt=r.cnt+1
theorem TG {m:Bool}{last:Option Ar}{f:Fo}(hw:f.wf m last=true):(f = .nil)∨∃k c kids r,f.hd=some (k,c,kids,r)∧Hd m last f k c kids r:=by
 cases f with
 | nil=>exact .inl rfl
 | cell k c r=>
  simp only[Fo.wf,VJ,VV] at hw;obtain⟨⟨⟨w1,w2⟩,w3⟩,w4⟩:=hw;have:=Rk w2;refine .inr ⟨k,c,.nil,r,rfl,w1,w2,?_,rfl,w4,by simp[Fo.flat],rfl⟩;simp at w3;simp[Fo.cnt];omega
 | node k c kids r=>
  simp only[Fo.wf,VJ,VH] at hw;obtain⟨⟨⟨⟨⟨w1,w2⟩,w3⟩,w5⟩,w6⟩,w4⟩:=hw;exact .inr ⟨k,c,kids,r,rfl,w1,w2,w5,w6,w4,rfl,rfl⟩
section
variable {M : Nat} {a b : List Aa}
end
theorem Uk {m:Bool}{last k:Option Ar}{f kids r:Fo}{c:Aa}(hf:f.hd=some (k,c,kids,r))(hw:f.wf m last=true):∃f1:Fo,f1.one=true∧f1.wf false none=true∧f1.flat=c::kids.flat:=by
 cases f with
 | nil=>simp[Fo.hd] at hf
 | cell k' c' r'=>
  simp[Fo.hd] at hf;obtain⟨rfl,rfl,rfl,rfl⟩:=hf;simp only[Fo.wf,VJ,VV] at hw;obtain⟨⟨⟨w1,w2⟩,w3⟩,w4⟩:=hw;exact⟨.cell none c' .nil,rfl,ON w2 w3,rfl⟩
 | node k' c' kids' r'=>
  simp[Fo.hd] at hf;obtain⟨rfl,rfl,rfl,rfl⟩:=hf;simp only[Fo.wf,VJ,VH] at hw;obtain⟨⟨⟨⟨⟨w1,w2⟩,w3⟩,w5⟩,w6⟩,w4⟩:=hw;exact⟨.node none c' kids' .nil,rfl,OM w2 w3 w5 w6,by simp[Fo.flat,BJ]⟩
section
variable {M : Nat} {a b : List Aa}
end
theorem RO {f:Fo}(h:f.cnt=0):f = .nil:=by
 cases f with
 | nil=>rfl
 | cell k c r=>simp[Fo.cnt] at h
 | node k c a r=>simp[Fo.cnt] at h
section
variable {M : Nat} {a b : List Aa}
theorem Hd.drop {v:List Aa}{m:Bool}{last k:Option Ar}{f kids r:Fo}{c:Aa}{ys:List Aa}{p:Int}(H:Hd m last f k c kids r)(h0:0≤p)(hd:v.drop p.toNat=f.flat++ys) :
  v.drop (p+(BJ k).length).toNat=c::(kids.flat++(r.flat++ys))∧v.drop (p+(BJ k).length+1).toNat=kids.flat++(r.flat++ys)∧v.drop (p+(BJ k).length+((c::kids.flat).length:Int)).toNat=r.flat++ys∧(∀s,k=some s→(Ax v p).fStr=s)∧p<v.length:=by
 rw[H.flat] at hd;have hd2:v.drop p.toNat=BJ k++((c::kids.flat)++(r.flat++ys)):=by rw[hd];simp
 have hd1:=Dt h0 hd2;refine⟨hd1,(Ds (by omega) hd1).2.1,Dt (by omega) hd1,λs e=>?_,?_⟩
 ·subst e;have:v.drop p.toNat=⟨4,0,s,0⟩::((c::kids.flat)++(r.flat++ys)):=by simpa[BJ] using hd2
  rw[K7 h0 this]
 ·have:=congrArg List.length hd2;rw[List.length_drop] at this;simp only[VU,VM] at this;omega
end
theorem Rx {S O:Type}{body:S→Option (Stp S O)}{n:Nat}{s:S}(h:body s=none):BW body (n+1) s=none:=by rw[BW,h]
theorem Ua {S O:Type}{body:S→Option (Stp S O)}{n:Nat}{s s':S}(h:body s=some (.next s')):BW body (n+1) s=BW body n s':=by rw[BW,h]
section
variable {S : Type}
def pB (F:Nat)(v:List Aa)(Y:Ar→List Aa→S→Option (Bool×S))(p x:Int)(s:S):Option (Stp (Int×Int×S) (Out S S)):=
 AP (decide (x<((Ax v 0).fN))) (AP (decide (((Ax v 0).fKind)=6)) (AR (Cp p (v.length:Int))<|AR (BL .i64 (p+1))<|AR (EB (p+1) (v.length:Int))<|Bf (DK F (List.drop (Int.toNat (p+1)) v)) λq=>AR (BL .i64 ((p+1)+q.1))<|AR (EB (p+1) ((p+1)+q.1))<|AR (EB ((p+1)+q.1) (v.length:Int))<|Bf (Y ((Ax v p).fStr) (List.take (Int.toNat ((p+1)+q.1)-Int.toNat (p+1)) (List.drop (Int.toNat (p+1)) v)) s) λr=>AP (!r.1) (some (.out (.ret r.2))) (AR (BL .i64 (x+1))<|some (.next ((p+1)+q.1,x+1,r.2)))) (AR (EB p (v.length:Int))<|Bf (DK F (List.drop (Int.toNat p) v)) λq=>AR (BL .i64 (p+q.1))<|AR (EB p (p+q.1))<|AR (EB (p+q.1) (v.length:Int))<|Bf (Y ([]:Ar) (List.take (Int.toNat (p+q.1)-Int.toNat p) (List.drop (Int.toNat p) v)) s) λr=>AP (!r.1) (some (.out (.ret r.2))) (AR (BL .i64 (x+1))<|some (.next (p+q.1,x+1,r.2))))) (some (.out (.go s)))
def E7:Option Ar→Ar
 | none=>[]
 | some s=>s
def UG {T:Type}(y:Option (Bool×S))(go:S→Option T)(stop:S→Option T):Option T:=match y with
 | none=>none
 | some (b,s)=>bif b then go s else stop s
theorem Lc {T:Type}{y:Option (Bool×S)}{go:S→Option T}{stop:S→Option T}{b:Bool}{s:S}(h:y=some (b,s)):UG y go stop=bif b then go s else stop s:=by subst h;rfl
def Gb (Y:Ar→List Aa→S→Option (Bool×S)):Fo→S→Option (Out S S)
 | .nil,s=>some (.go s)
 | .cell k c r,s=>UG (Y (E7 k) [c] s) (Gb Y r) (λs=>some (.ret s))
 | .node k c kids r,s=>UG (Y (E7 k) (c::kids.flat) s) (Gb Y r) (λs=>some (.ret s))
variable {Y : Ar → List Aa → S → Option (Bool × S)}
theorem Qh {f kids r:Fo}{k:Option Ar}{c:Aa}{s:S}(h:f.hd=some (k,c,kids,r)):Gb Y f s=UG (Y (E7 k) (c::kids.flat) s) (Gb Y r) (λs=>some (.ret s)):=by
 cases f<;>simp[Fo.hd] at h<;>obtain⟨rfl,rfl,rfl,rfl⟩:=h<;>simp[Gb,Fo.flat]
section
variable {M : Nat} {v : List Aa}
theorem Rq {F:Nat}{c:Aa}{p x:Int}{s:S}{k last:Option Ar}{f1:Fo}{ys:List Aa}(hA:Ef M v)(hF:M<F)(hpc:Ax v 0=c)(hx:x<c.fN)(hx0:0≤x)(hcN:c.fN≤9223372036854775807)(h0:0≤p)(hk:Cw (decide (c.fKind=6)) last k=true)
  (hd:v.drop p.toNat=BJ k++(f1.flat++ys)) (h1:f1.one=true) (hw:f1.wf false none=true) :
  pB F v Y p x s=UG (Y (E7 k) f1.flat s) (λs'=>some (.next (p+(BJ k).length+f1.flat.length,x+1,s'))) (λs'=>some (.out (.ret s'))):=by
 have hM:=hA.hM;have hvM:=hA.hv;have hd1:=Dt h0 hd;have hkl:=SV hk;have hfl:=Nz h1;have hll:(v.drop (p+(BJ k).length).toNat).length=f1.flat.length+ys.length:=by rw[hd1];simp
 rw[List.length_drop] at hll;have hlook:DK F (v.drop (p+(BJ k).length).toNat)=some ((f1.flat.length:Int),f1.sh 0 KT,true):=N5 ((hA.drop _).lk hF) h1 hw hd1;have htake:List.take (Int.toNat (p+(BJ k).length+(f1.flat.length:Int))-Int.toNat (p+(BJ k).length)) (v.drop (p+(BJ k).length).toNat)=f1.flat:=by
  rw[hd1,show Int.toNat (p+(BJ k).length+(f1.flat.length:Int))-Int.toNat (p+(BJ k).length)=f1.flat.length from by omega,List.take_left]
 have hmono:0≤p+(BJ k).length+f1.flat.length:=by omega
 have fin:∀(y:Option (Bool×S)) (q:Int),(Bf y λr=>AP (!r.1) (some (Stp.out (Out.ret r.2))) (AR (BL .i64 (x+1))<|some (.next (q,x+1,r.2))))=UG y (λs'=>some (.next (q,x+1,s'))) (λs'=>some (Stp.out (Out.ret (V:=S) s'))):=λy q=>by
  cases y with
  | none=>rfl
  | some r=>
   obtain⟨b,s'⟩:=r;rw[Be rfl,Lc rfl]
   cases b with
   | false=>rfl
   | true=>rw[AT (p:=!true) rfl,Bp (by omega) (by omega)];rfl
 unfold pB;rw[hpc,Bd (VN hx)]
 cases hm:decide (c.fKind=6) with
 | true=>
  rw[hm] at hk hkl
  cases k with
  | none=>simp[Cw] at hk
  | some t=>
   have e1:((BJ (some t)).length:Int)=1:=rfl;rw[e1] at hlook htake hll hmono ⊢;have hats:(Ax v p).fStr=t:=by
    have:v.drop p.toNat=⟨4,0,t,0⟩::(f1.flat++ys):=by simpa[BJ] using hd
    rw[K7 h0 this]
   have hin:p<v.length:=by omega
   rw[Bd rfl,BG h0 hin,Bp (by omega) (by omega),Hi (by omega) (by omega),hlook,Be rfl,Bp (by omega) (by omega),Hi (by omega) (by omega),Hi (by omega) (by omega),htake,hats,fin];rfl
 | false=>
  rw[hm] at hk hkl
  cases k with
  | some t=>simp[Cw] at hk
  | none=>
   have e1:((BJ none).length:Int)=0:=rfl;rw[e1,Int.add_zero] at hlook htake hll hmono ⊢;rw[AT rfl,Hi (by omega) (by omega),hlook,Be rfl,Bp (by omega) (by omega),Hi (by omega) (by omega),Hi (by omega) (by omega),htake,fin];rfl
theorem PT {F:Nat}{c:Aa}(hA:Ef M v)(hF:M<F)(hpc:Ax v 0=c)(hcN:c.fN≤9223372036854775807):∀(n:Nat) (f:Fo) (L:Nat) (p x:Int) (s:S) (last:Option Ar) (ys:List Aa),f.flat.length<n→f.wf (decide (c.fKind=6)) last=true→v.drop p.toNat=f.flat++ys→0≤p→c.fN=x+f.cnt→0≤x→f.cnt<L→
  BW (λσ=>pB F v Y σ.1 σ.2.1 σ.2.2) L (p,x,s)=Gb Y f s:=by
 intro n
 induction n with
 | zero=>intro f L p x s last ys h;omega
 | succ n ih=>
  intro f L p x s last ys hn hw hd h0 hN hx hL;obtain⟨L,rfl⟩:∃K,L=K+1:=⟨L-1,by omega⟩
  rcases TG hw with rfl | ⟨k,d,kf,r,hf,Hf⟩
  ·have hx' : ¬ x<c.fN:=by simp only[Fo.cnt] at hN;omega
   refine DM ?_;show pB F v Y p x s=_;unfold pB;rw[hpc,AT (VL hx')]
  ·obtain⟨a1,a2,a3,a4,a5⟩:=Hf.drop h0 hd;obtain⟨f1,o1,w1,e1⟩:=Uk hf hw;have cf:=Hf.cnt;have lf:=congrArg List.length Hf.flat;simp only[VU,VM] at lf;have hd2:v.drop p.toNat=BJ k++(f1.flat++(r.flat++ys)):=by rw[hd,Hf.flat,e1];simp
   have hb:=Rq (Y:=Y) (s:=s) hA hF hpc (x:=x) (by omega) hx hcN h0 Hf.key hd2 o1 w1;rw[Qh hf]
   cases hy:Y (E7 k) (d::kf.flat) s with
   | none=>
    rw[e1,hy] at hb;exact Rx hb
   | some q=>
    obtain⟨b,s'⟩:=q;rw[e1,hy] at hb
    cases b with
    | false=>exact DM hb
    | true=>exact(Ua hb).trans (ih r L _ (x+1) s' k ys (by omega) Hf.rest a3 (by omega) (by omega) (by omega) (by omega))
theorem Ro {F:Nat}{c:Aa}{f:Fo}(hA:Ef M v)(hF:M<F)(hv:v=c::f.flat)(hn:c.fN=f.cnt)(hw:f.wf (decide (c.fKind=6)) none=true)(s:S):BW (λσ=>pB F v Y σ.1 σ.2.1 σ.2.2) F (1,0,s)=Gb Y f s:=by
 have hvM:=hA.hv;have hl:v.length=f.flat.length+1:=by rw[hv];simp
 have hcf:=CL f;exact PT hA hF (by rw[hv];rfl) (hA.hc c (by rw[hv];simp)).2.2 (f.flat.length+1) f F 1 0 s none [] (by omega) hw (by rw[hv];simp) (by decide) (by omega) (Wr 0) (by omega)
end
end
def Fo.keys:Fo→List Ar
 | .nil=>[]
 | .cell k _ r=>E7 k::r.keys
 | .node k _ _ r=>E7 k::r.keys
def Fo.vals:Fo→List (List Aa)
 | .nil=>[]
 | .cell _ c r=>[c]::r.vals
 | .node _ c kids r=>(c::kids.flat)::r.vals
structure V3 (M:Nat) (c:Aa) (kf:Fo):Prop where
 pl:pl c=true
 n:c.fN=kf.cnt
 wf:kf.wf (decide (c.fKind=6)) none=true
 ck:Ef M (c::kf.flat)
section
variable {M : Nat}
theorem Ef.sub {a b:List Aa}(h:Ef M a)(hl:b.length≤a.length)(hm:∀x∈b,x∈a):Ef M b:=⟨h.hM,by have:=h.hv;omega,λc hc=>h.hc c (hm c hc)⟩
theorem Hd.v {m:Bool}{last k:Option Ar}{f kids r:Fo}{c:Aa}(H:Hd m last f k c kids r)(hA:Ef M f.flat):V3 M c kids∧Ef M r.flat:=by
 have e:=H.flat;have l:=congrArg List.length e;simp only[VU,VM] at l;refine⟨⟨H.pl,H.n,H.kw,hA.sub (by simp only[VM];omega) (λx hx=>?_)⟩,hA.sub (by omega) (λx hx=>?_)⟩
 ·rw[e];simp only[List.mem_append,Wu] at hx ⊢;rcases hx with hx | hx
  ·exact .inr (.inl hx)
  ·exact .inr (.inr (.inl hx))
 ·rw[e];simp only[List.mem_append,Wu];exact .inr (.inr (.inr hx))
theorem MQ {α:Type}[Inhabited α](a b:List α)(x:α){i:Int}(h:i=(a.length:Int)):Ax (a++x::b) i=x:=by subst h;simp[Ax]
theorem TU {f:Fo}(h1:f.one=true)(hw:f.wf false none=true)(hA:Ef M f.flat):∃c kf,f.flat=c::kf.flat∧f.hd=some (none,c,kf,.nil)∧V3 M c kf:=by
 rcases TG hw with h | ⟨k,c,kf,r,hf,Hf⟩
 ·subst h;cases h1
 have cf:=Hf.cnt;rw[Pa h1] at cf;obtain rfl:=RO (f:=r) (by omega);have hk:k=none:=by
  have:=Hf.key
  cases k with
  | none=>rfl
  | some _=>simp[Cw] at this
 subst hk;exact⟨c,kf,by rw[Hf.flat];simp[BJ,Fo.flat],hf,(Hf.v hA).1⟩
variable {a b : List Aa}
end
def UM {α:Type}(v:List Aa)(bad:Int→α)(good:Aa→Fo→α):α:=bif !decide (CD v=0) then bad (CD v) else match whole v with
 | some f=>(match f.hd with
  | some (_,c,kf,_)=>good c kf
  | none=>bad 1)
 | none=>bad 1
structure V2 (M:Nat) (v:List Aa) (c:Aa) (kf:Fo):Prop where
 e:v=c::kf.flat
 vok:V3 M c kf
 ok:CD v=0
 on:∀(α:Type) (bad:Int→α) (good:Aa→Fo→α),UM v bad good=good c kf
 f:∃f:Fo,whole v=some f∧f.one=true∧f.wf false none=true∧f.hd=some (none,c,kf,.nil)∧NN f=0
theorem H4 {M:Nat}{v:List Aa}(hA:Ef M v):(¬ CD v=0∧∀(α:Type) (bad:Int→α) (good:Aa→Fo→α),UM v bad good=bad (CD v))∨∃c kf,V2 M v c kf:=by
 by_cases h:CD v=0
 ·refine .inr ?_;have h':=h;unfold CD at h
  cases hw:whole v with
  | none=>rw[hw] at h;cases h
  | some f=>
   rw[hw] at h;obtain⟨x1,x2,x3⟩:=Oh hw;subst x1;obtain⟨c,kf,e1,e2,e3⟩:=TU x3 x2 hA;refine⟨c,kf,e1,e3,h',λα bad good=>?_,f,hw,x3,x2,e2,h⟩;unfold UM;rw[VN h',hw];simp only[e2];rfl
 ·refine .inl ⟨h,λα bad good=>?_⟩;unfold UM;rw[VL h];rfl
def Fo.find (key:Ar):Fo→Option (List Aa)
 | .nil=>none
 | .cell k c r=>bif decide (E7 k=key) then some [c] else r.find key
 | .node k c kids r=>bif decide (E7 k=key) then some (c::kids.flat) else r.find key
def GY (v:List Aa)(key:Ar):List Aa×Int:=UM v (λe=>([],e)) λc kf=>bif !decide (c.fKind=6) then([],7) else(match kf.find key with
 | some x=>(x,0)
 | none=>([],5))
theorem J8 {x:List Aa}(h:x.length≤1000000000):I0 x=some x:=by
 unfold I0;rw[Qv (by simp;omega)];rfl
theorem Iv (key:Ar):∀(g:Fo),g.flat.length≤1000000000→Gb (λk x s=>H8 k x key s) g []=some (match g.find key with
  | some x=>.ret x
  | none=>.go [])
 | .nil,_=>rfl
 | .cell k c r,h1=>by
  simp only[Fo.flat,VU,VM] at h1;have:H8 (E7 k) [c] key []=some (!decide (E7 k=key),bif decide (E7 k=key) then[c] else[]):=by
   unfold H8
   cases decide (E7 k=key) with
   | true=>rw[Bd rfl,J8 (by simp),Be rfl,CA (by simp)];rfl
   | false=>rfl
  rw[Gb,Lc this,Fo.find]
  cases decide (E7 k=key) with
  | true=>rfl
  | false=>exact Iv key r (by omega)
 | .node k c kids r,h1=>by
  simp only[Fo.flat,VU,VM] at h1;have:H8 (E7 k) (c::kids.flat) key []=some (!decide (E7 k=key),bif decide (E7 k=key) then c::kids.flat else[]):=by
   unfold H8
   cases decide (E7 k=key) with
   | true=>rw[Bd rfl,J8 (by simp;omega),Be rfl,CA (by simp)];rfl
   | false=>rfl
  rw[Gb,Lc this,Fo.find]
  cases decide (E7 k=key) with
  | true=>rfl
  | false=>exact Iv key r (by omega)
theorem Jg (key:Ar):∀(g:Fo) (x:List Aa),g.find key=some x→0<x.length∧x.length≤g.flat.length∧∀y∈x,y∈g.flat
 | .nil,x,h=>by cases h
 | .cell k c r,x,h=>by
  rw[Fo.find] at h
  cases hk:decide (E7 k=key) with
  | true=>rw[hk] at h;cases h;simp[Fo.flat];omega
  | false=>
   rw[hk] at h;obtain⟨a,b,c'⟩:=Jg key r x h;refine⟨a,by simp[Fo.flat];omega,λy hy=>?_⟩;simp[Fo.flat,c' y hy]
 | .node k c kids r,x,h=>by
  rw[Fo.find] at h
  cases hk:decide (E7 k=key) with
  | true=>
   rw[hk] at h;cases h;refine⟨by simp,by simp[Fo.flat];omega,λy hy=>?_⟩;simp only[Wu] at hy;simp only[Fo.flat,List.mem_append,Wu];rcases hy with hy | hy
   ·exact .inr (.inl hy)
   ·exact .inr (.inr (.inl hy))
  | false=>
   rw[hk] at h;obtain⟨a,b,c'⟩:=Jg key r x h;refine⟨a,by simp[Fo.flat];omega,λy hy=>?_⟩;simp[Fo.flat,c' y hy]
section
variable {M : Nat} {v : List Aa}
theorem S9 (hA:Ef M v)(hM:M≤1000000){F:Nat}(hF:M<F)(key:Ar):QT F v key=some (GY v key):=by
 have hvM:=hA.hv;unfold QT GY;rw[Gn hA hM hF,Be rfl];rcases H4 hA with⟨h,on⟩ | ⟨c,kf,V⟩
 ·rw[VL h,Bd (p:=!false) rfl,on]
 ·obtain⟨e,v1,ok,on,_⟩:=V;rw[on,ok,AT (by rfl)];have hl:v.length=kf.flat.length+1:=by rw[e];simp
  rw[BG (Wr 0) (by omega),show Ax v 0=c by rw[e];rfl]
  cases h6:decide (c.fKind=6) with
  | false=>rfl
  | true=>
   rw[AT (p:=!true) rfl];have hp:=Ro (Y:=λk x s=>H8 k x key s) (F:=F) hA hF e v1.n v1.wf [];rw[Iv key kf (by omega)] at hp;have eB:(λ(σ:Int×Int×List Aa)=>H7 F v key σ.1 σ.2.1 σ.2.2)=λσ=>pB F v (λk x s=>H8 k x key s) σ.1 σ.2.1 σ.2.2:=rfl;have hP:Nm F v key []=some ((kf.find key).getD []):=by
    unfold Nm;rw[BG (Wr 0) (by omega),eB,Be hp]
    cases kf.find key<;>rfl
   rw[hP,Be rfl]
   cases hf:kf.find key with
   | none=>rfl
   | some x=>
    obtain⟨a,_,_⟩:=Jg key kf x hf
    cases x with
    | nil=>cases a
    | cons y r=>rfl
theorem ME (hA:Ef M v)(key:Ar):Ef M (GY v key).1:=by
 have hn:Ef M []:=⟨hA.hM,Wq _,λc hc=>by cases hc⟩
 unfold GY;rcases H4 hA with⟨h,on⟩ | ⟨c,kf,V⟩
 ·rw[on];exact hn
 ·obtain⟨e,v1,ok,on,_⟩:=V;rw[on]
  cases decide (c.fKind=6) with
  | false=>exact hn
  | true=>
   cases hf:kf.find key with
   | none=>exact hn
   | some x=>
    obtain⟨a,b,d⟩:=Jg key kf x hf;refine hA.sub (by rw[e];show x.length≤_;simp only[VM];omega) (λy hy=>?_);rw[e];exact List.mem_cons_of_mem _ (d y hy)
end
def Gu:List Ar→List Aa→List Aa×Int
 | [],out=>(out,0)
 | k::ks,out=>bif !decide ((GY out k).2=0) then([],(GY out k).2) else Gu ks (GY out k).1
def DL (v:List Aa)(path:List Ar):List Aa×Int:=bif !decide (CD v=0) then([],CD v) else Gu path v
def RT (v:List Aa):List Aa×Int:=bif !decide (CD v=0) then([],CD v) else(v,0)
section
variable {M : Nat} {v : List Aa}
theorem Nn (hA:Ef M v)(hM:M≤1000000){F:Nat}(hF:M<F):DZ F v=some (RT v):=by
 unfold DZ RT;rw[Gn hA hM hF,Be rfl]
 by_cases h:CD v=0
 ·rw[AT (by simp[h]),VN h];rfl
 ·rw[Bd (by simp[h]),VL h];rfl
theorem PC (hM:M≤1000000){F:Nat}(hF:M<F){path:List Ar}:∀(ks:List Ar) (L:Nat) (x:Int) (pre:List Ar) (out:List Aa),path=pre++ks→x=(pre.length:Int)→ks.length<L→x+ks.length≤1000000000→Ef M out→
  ∃o,BW (λσ=>DC F path σ.1 σ.2) L (out,x)=some o∧BV (λν=>H6 ν) o=some (Gu ks out):=by
 intro ks
 induction ks with
 | nil=>
  intro L x pre out e hx hL hb hA;obtain⟨L,rfl⟩:∃K,L=K+1:=⟨L-1,by omega⟩
  have hbd:DC F path out x=some (.out (.go out)):=by unfold DC;rw[AT (VL (by rw[e,hx];simp))]
  exact⟨.go out,DM hbd,rfl⟩
 | cons k ks ih=>
  intro L x pre out e hx hL hb hA;simp only[VM] at hL hb;obtain⟨L,rfl⟩:∃K,L=K+1:=⟨L-1,by omega⟩
  have hl:(path.length:Int)=x+1+ks.length:=by rw[e,VU,VM];omega
  have hbd:DC F path out x=some (bif !decide ((GY out k).2=0) then .out (.ret ([],(GY out k).2)) else .next ((GY out k).1,x+1)):=by
   unfold DC;rw[hl,Bd (VN (by omega)),BG (by omega) (by omega),e,MQ pre ks k hx,S9 hA hM hF,Be rfl,Bp (by omega) (by omega)]
   cases decide ((GY out k).2=0)<;>rfl
  rw[Gu]
  cases hk:decide ((GY out k).2=0) with
  | false=>rw[hk] at hbd;exact⟨_,DM hbd,rfl⟩
  | true=>
   rw[hk] at hbd;obtain⟨o,h1,h2⟩:=ih L (x+1) (pre++[k]) (GY out k).1 (by rw[e];simp) (by simp;omega) (by omega) (by omega) (ME hA k);exact⟨o,Lh hbd h1,h2⟩
theorem QR (hA:Ef M v)(hM:M≤1000000){F:Nat}{path:List Ar}(hF:M<F)(hp:path.length<F)(hp2:path.length≤1000000000):Nk F v path=some (DL v path):=by
 have hvM:=hA.hv;unfold Nk DL;rw[Gn hA hM hF,Be rfl]
 by_cases h:CD v=0
 ·obtain⟨o,h1,h2⟩:=PC hM hF (path:=path) path F 0 [] v rfl rfl hp (by omega) hA;rw[AT (by simp[h]),VN h,J8 (by omega),Be rfl,Be h1,h2];rfl
 ·rw[Bd (by simp[h]),VL h];rfl
theorem Nx:∀(ks:List Ar) {out:List Aa},Ef M out→Ef M (Gu ks out).1
 | [],out,h=>h
 | k::ks,out,h=>by
  rw[Gu]
  cases decide ((GY out k).2=0) with
  | false=>exact⟨h.hM,Wq _,λc hc=>by cases hc⟩
  | true=>exact Nx ks (ME h k)
theorem Rn (hA:Ef M v)(path:List Ar):Ef M (DL v path).1:=by
 unfold DL
 cases decide (CD v=0) with
 | false=>exact⟨hA.hM,Wq _,λc hc=>by cases hc⟩
 | true=>exact Nx path hA
end
theorem J9 {α β:Type}{p:Bool}{a:β}{x:Option α}:AR (imp p (some a).isSome) x=x:=CA (MD p)
theorem RQ {α β:Type}{p q:Bool}{a:β}{x:Option α}:AR (imp p (imp q (some a).isSome)) x=x:=CA (by rw[show(some a).isSome=true from rfl,MD,MD])
def Vn {R:Type}(i:Int):Option R→Stp Int (Out R Unit)
 | some r=>.out (.ret r)
 | none=>.next (i+1)
def Ov {R:Type}:Option R→Out R Unit
 | some r=>.ret r
 | none=>.go ()
theorem HD {α R:Type}[Inhabited α]{l:List α}{t:α→Option R}{body:Int→Option (Stp Int (Out R Unit))}
  (hs:∀x:Int,0≤x→x<(l.length:Int)→body x=some (Vn x (t (Ax l x)))) (he:∀x:Int,¬ x<(l.length:Int)→body x=some (.out (.go ()))) {F:Nat} (hF:l.length<F) :
  BW body F 0=some (Ov (l.findSome? t)):=by
 have key:∀(suf pre:List α) (F:Nat),l=pre++suf→suf.length<F→BW body F (pre.length:Int)=some (Ov (suf.findSome? t)):=by
  intro suf
  induction suf with
  | nil=>
   intro pre F e hF;obtain⟨n,rfl⟩:∃n,F=n+1:=⟨F-1,by omega⟩
   exact DM (he _ (by rw[e];simp))
  | cons a r ih=>
   intro pre F e hF;simp only[VM] at hF;obtain⟨n,rfl⟩:∃n,F=n+1:=⟨F-1,by omega⟩
   have h1:=hs (pre.length:Int) (by omega) (by rw[e];simp;omega);have h2:Ax l (pre.length:Int)=a:=by rw[e];exact MQ pre r a rfl
   rw[h2] at h1
   cases ht:t a with
   | some q=>
    rw[ht] at h1;rw[List.findSome?_cons,ht];exact DM h1
   | none=>
    rw[ht] at h1;rw[List.findSome?_cons,ht];have h3:=ih (pre++[a]) n (by rw[e];simp) (by omega);refine Lh h1 ?_;rw[show((pre.length:Int)+1)=((pre++[a]).length:Int) from by simp];exact h3
 exact key l [] F rfl hF
def eO (e:Int):Option Int:=bif decide (e=0) then none else some e
def bO {R:Type}(b:Bool)(r:R):Option R:=bif b then some r else none
theorem RP {x e:Int}:AP (!decide (e=0)) (some (.out (.ret e))) (some (.next (x+1)))=(some (Vn x (eO e)):Option (Stp Int (Out Int Unit))):=by
 unfold eO;cases decide (e=0)<;>rfl
theorem E9 {R:Type}{x:Int}{b:Bool}{r:R}:AP b (some (.out (.ret r))) (some (.next (x+1)))=(some (Vn x (bO b r)):Option (Stp Int (Out R Unit))):=by
 cases b<;>rfl
theorem Ky {α R:Type}{p:α→Bool}{r:R}:∀l:List α,l.findSome? (λa=>bO (p a) r)=bO (l.any p) r
 | []=>rfl
 | a::l=>by
  rw[List.findSome?_cons,List.any_cons,Ky l]
  cases p a<;>rfl
theorem OZ {R:Type}{b:Bool}{r q:R}:BV (λ_=>some q) (Ov (bO b r))=some (bif b then r else q):=by cases b<;>rfl
theorem Rb {F:Nat}{a b:List Aa}(hF:a.length<F)(ha:a.length≤1000000000):Nt F a b=some (decide (a=b)):=by
 unfold Nt
 by_cases hl:a.length=b.length
 ·rw[AT (by simp[hl])];have h1:∀(k:Nat),k≤a.length→∃o,BW (λσ=>Gr a b σ) (a.length-k+1) (k:Int)=some o∧BV (λ_=>Ns) o=some (decide (a.drop k=b.drop k)):=by
   intro k;generalize hd:a.length-k=d
   induction d generalizing k with
   | zero=>
    intro hk;have:k=a.length:=by omega
    subst this;refine⟨.go (),DM (by unfold Gr;rw[AT (VL (by omega))]),?_⟩;rw[OY,List.drop_length,hl,List.drop_length];rfl
   | succ d ih=>
    intro hk;have hka:k<a.length:=by omega
    have hkb:k<b.length:=by omega
    have ea:Ax a (k:Int)=a[k]:=by simp[Ax,hka]
    have eb:Ax b (k:Int)=b[k]:=by simp[Ax,hkb]
    have da:=List.drop_eq_getElem_cons hka;have db:=List.drop_eq_getElem_cons hkb;have hc:(decide (a[k].fKind=b[k].fKind)&&decide (a[k].fInt=b[k].fInt)&&decide (a[k].fStr=b[k].fStr)&&decide (a[k].fN=b[k].fN))=decide (a[k]=b[k]):=by
     rw[Wi];simp only[VJ,VH];constructor
     ·rintro⟨⟨⟨h1,h2⟩,h3⟩,h4⟩;generalize a[k]=u at *;generalize b[k]=v at *
      cases u;cases v;simp_all
     ·intro h;rw[h];simp
    have hb:Gr a b (k:Int)=AP (!decide (a[k]=b[k])) (some (.out (.ret false))) (some (.next ((k:Int)+1))):=by
     unfold Gr;rw[Bd (VN (by omega)),BG (by omega) (by omega),BG (by omega) (by omega),ea,eb,hc,Bp (by omega) (by omega)]
    cases he:decide (a[k]=b[k]) with
    | false=>
     refine⟨.ret false,DM (hb.trans (by rw[he];rfl)),?_⟩;rw[KZ,da,db];simp only[VI] at he;rw[VL (by intro h;exact he (List.cons.inj h).1)]
    | true=>
     obtain⟨o,h2,h3⟩:=ih (k+1) (by omega) (by omega);simp only[VH] at he;refine⟨o,Lh (hb.trans (by rw[VN he];rfl)) h2,?_⟩;rw[h3,da,db,he];simp only[List.cons.injEq,true_and]
  obtain⟨o,h2,h3⟩:=h1 0 (Wq _);replace h2:BW (λσ=>Gr a b σ) (a.length-0+1) 0=some o:=h2;obtain⟨k,rfl⟩:∃k,F=(a.length-0+1)+k:=⟨F-(a.length+1),by omega⟩
  rw[Be (IT k h2),h3];rfl
 ·rw[Bd (by simp;omega),VL (λh=>hl (by rw[h]))]
theorem P9 {F:Nat}{a b:List Aa}(hF:a.length<F)(ha:a.length≤1000000000):LP F a b=some (decide (a=b)):=by rw[Nj];exact Rb hF ha
def QW (s:Ar):Int:=CD [⟨4,0,s,0⟩]
theorem RS (v:List Aa):(RT v).2=CD v:=by
 unfold RT
 by_cases h:CD v=0
 ·rw[VN h];exact h.symm
 ·rw[VL h];rfl
theorem Ef.str {K:Nat}{s:Ar}(hs:s.length≤K)(hK:1≤K)(hK2:K≤1000000):Ef K [⟨4,0,s,0⟩]:=⟨by omega,hK,λc hc=>by
 have:c=⟨4,0,s,0⟩:=by simpa using hc
 subst this;exact⟨hs,(by decide:BL .i64 0=true),(by decide:(0:Int)≤9223372036854775807)⟩⟩
theorem OO {K F:Nat}{s:Ar}(hs:s.length≤K)(hK:1≤K)(hK2:K≤1000000)(hF:K<F):Mu F s=some (RT [⟨4,0,s,0⟩]):=by
 unfold Mu;rw[Nn (Ef.str hs hK hK2) hK2 hF,Be rfl]
def TT (a:Option Int)(b:Int):Int:=match a with
 | some e=>e
 | none=>b
def TE (a b c d e g h i:Bool):Bool:=(a||b||c)&&(d||e)&&(g||h&&i)
def KU (f:Af):Int:=bif TE (decide (f.fOp=3)) (decide (f.fOp=4)) (decide (f.fValues.length=0)) (decide (f.fOp=5)) (decide (f.fText=[])) (decide (f.fOp=6)) (decide (f.fLow=0)) (decide (f.fHigh=0)) then 0 else 1
def Vx (n:Int):Bool:=decide (-1000000000000≤n)&&decide (n≤1000000000000)
def U8 (f:Af):Bool:=!Vx f.fLow||(!Vx f.fHigh||decide (f.fHigh<f.fLow))
def SK (f:Af):Int:=
 bif (decide (f.fOp=3)||decide (f.fOp=4)) then(bif (decide ((f.fValues.length:Int)<1)||decide (8<(f.fValues.length:Int))) then 3 else TT (f.fValues.findSome? λv=>eO (CD v)) (KU f))
 else bif decide (f.fOp=5) then TT (eO (QW f.fText)) (KU f)
 else bif decide (f.fOp=6) then(bif U8 f then 2 else KU f)
 else KU f
def I1 (f:Af):Int:=bif decide (4<(f.fPath.length:Int)) then 3 else TT (f.fPath.findSome? λs=>eO (QW s)) (bif (decide (f.fOp<1)||decide (6<f.fOp)) then 7 else SK f)
def jB (x:Bool):Option Int:=AP x (some 1) (some 0)
theorem PN:∀a b c d e g h i:Bool,(Bf (some (a||b)) λr=>AP (!r) (AP (!c) (jB true) (AP (!d) (AP (!e) (jB true) (AP (!g) (AP (!h) (jB true) (jB (!i))) (jB false))) (AP (!g) (AP (!h) (jB true) (jB (!i))) (jB false)))) (AP (!d) (AP (!e) (jB true) (AP (!g) (AP (!h) (jB true) (jB (!i))) (jB false))) (AP (!g) (AP (!h) (jB true) (jB (!i))) (jB false))))=some (bif TE a b c d e g h i then(0:Int) else 1):=by decide
def Nq (f:Af):Option Int:=Bf (Eo f.fOp) λr=>AP (!r) (AP (decide (0<(f.fValues.length:Int))) (jB true) (AP (!decide (f.fOp=5)) (AP (!decide (f.fText=([]:Ar))) (jB true) (AP (!decide (f.fOp=6)) (AP (!decide (f.fLow=0)) (jB true) (jB (!decide (f.fHigh=0)))) (jB false))) (AP (!decide (f.fOp=6)) (AP (!decide (f.fLow=0)) (jB true) (jB (!decide (f.fHigh=0)))) (jB false)))) (AP (!decide (f.fOp=5)) (AP (!decide (f.fText=([]:Ar))) (jB true) (AP (!decide (f.fOp=6)) (AP (!decide (f.fLow=0)) (jB true) (jB (!decide (f.fHigh=0)))) (jB false))) (AP (!decide (f.fOp=6)) (AP (!decide (f.fLow=0)) (jB true) (jB (!decide (f.fHigh=0)))) (jB false)))
theorem HA (f:Af):Nq f=some (KU f):=by
 have h:=PN (decide (f.fOp=3)) (decide (f.fOp=4)) (decide (f.fValues.length=0)) (decide (f.fOp=5)) (decide (f.fText=[])) (decide (f.fOp=6)) (decide (f.fLow=0)) (decide (f.fHigh=0));have e:decide (0<(f.fValues.length:Int)) = !decide (f.fValues.length=0):=by rw[Wi,VV,VH,VI];omega
 unfold Nq Eo;rw[e];exact h
structure FA (K:Nat) (f:Af):Prop where
 path:f.fPath.length≤1000
 keys:∀s∈f.fPath,s.length≤K
 vals:f.fValues.length≤1000
 val:∀v∈f.fValues,Ef K v
 text:f.fText.length≤K
 K1:1≤K
 K2:K≤1000000
section
variable {K : Nat} {f : Af}
theorem Qr (hA:FA K f){F:Nat}(hF:K+2000<F):BW (λσ=>DS F f σ) F 0=some (Ov (f.fPath.findSome? λs=>eO (QW s))):=by
 have hp:=hA.path;refine HD (λx h0 hx=>?_) (λx hx=>by unfold DS;rw[AT (VL hx)]) (by omega);unfold DS;rw[Bd (VN hx),BG h0 hx,OO (hA.keys _ (I2 h0 hx)) hA.K1 hA.K2 (by omega),Be rfl,Bp (by omega) (by omega),RS];exact RP
theorem Mg (hA:FA K f){F:Nat}(hF:K+2000<F):BW (λσ=>DR F f σ) F 0=some (Ov (f.fValues.findSome? λv=>eO (CD v))):=by
 have hp:=hA.vals;refine HD (λx h0 hx=>?_) (λx hx=>by unfold DR;rw[AT (VL hx)]) (by omega);unfold DR;rw[Bd (VN hx),BG h0 hx,Gn (hA.val _ (I2 h0 hx)) hA.K2 (by omega),Be rfl,Bp (by omega) (by omega)];exact RP
theorem Qq (hA:FA K f){F:Nat}(hF:K+2000<F):BW (λσ=>G8 F f σ) F 0=some (Ov (f.fValues.findSome? λv=>eO (CD v))):=Mg hA hF
theorem La {a:Option Int}{b:Int}{k:Option Int}(h:k=some b):BV (λ_=>k) (Ov a)=some (TT a b):=by subst h;cases a<;>rfl
theorem Tw {e b:Int}{k:Option Int}(h:k=some b):AP (!decide (e=0)) (some e) k=some (TT (eO e) b):=by
 subst h;unfold eO;cases decide (e=0)<;>rfl
theorem Md (n:Int):Bj n=some (Vx n):=rfl
theorem J4 (hA:FA K f){F:Nat}(hF:K+2000<F):C3 F f=some (I1 f):=by
 have h2:G6 f=some (KU f):=HA f;have h4:G5 f=some (KU f):=HA f;unfold C3 I1
 cases h1:decide (4<(f.fPath.length:Int)) with
 | true=>rfl
 | false=>
  rw[AT (by rfl),Be (Qr hA hF),La (b:=bif (decide (f.fOp<1)||decide (6<f.fOp)) then 7 else SK f)]
  ·rfl
  ·unfold G7
   cases h0:(decide (f.fOp<1)||decide (6<f.fOp)) with
   | true=>rfl
   | false=>
    rw[AT (by rfl),VK];unfold SK
    cases h3:decide (f.fOp=3) with
    | true=>
     rw[Bd (by rfl),Wj,VR]
     cases hn:(decide ((f.fValues.length:Int)<1)||decide (8<(f.fValues.length:Int))) with
     | true=>rfl
     | false=>rw[AT (by rfl),Be (Mg hA hF),La h2];rfl
    | false=>
     rw[AT (by rfl),VY]
     cases h4':decide (f.fOp=4) with
     | true=>
      rw[Bd (by rfl),VR]
      cases hn:(decide ((f.fValues.length:Int)<1)||decide (8<(f.fValues.length:Int))) with
      | true=>rfl
      | false=>rw[AT (by rfl),Be (Qq hA hF),La h4];rfl
     | false=>
      rw[AT (by rfl),VK]
      cases h5:decide (f.fOp=5) with
      | true=>
       rw[Bd (by rfl),VR,OO hA.text hA.K1 hA.K2 (by omega),Be rfl,RS];refine Tw (Eq.trans ?_ (HA f));unfold Nq;rw[h5];rfl
      | false=>
       rw[AT (by rfl),VK]
       cases h6:decide (f.fOp=6) with
       | true=>
        rw[Bd (by rfl),VR,Md,Md,CA (by rfl),J9,Dg,Dg]
        change AP (U8 f) _ _=_
        cases hb:U8 f with
        | true=>rfl
        | false=>
         rw[AT (by rfl),VK];refine Eq.trans ?_ (HA f);unfold Nq;rw[h5,h6];rfl
       | false=>
        rw[AT (by rfl),VK];refine Eq.trans ?_ (HA f);unfold Nq;rw[h5,h6];rfl
end
theorem Pv {f:Fo}(h1:f.flat.any LG=false)(h2:f.flat.any JV=false)(h3:f.flat.length≤200)(h4:f.dep≤8)(h5:(f.txt true).length≤4000):NN f=0:=by
 unfold NN;rw[h1,h2,VL (by omega),VL (by omega),VL (by omega)];rfl
theorem RK {f:Fo}(h:NN f=0):f.flat.any LG=false∧f.flat.any JV=false∧f.flat.length≤200∧f.dep≤8∧(f.txt true).length≤4000:=by
 unfold NN at h
 cases h1:f.flat.any LG with
 | true=>rw[h1] at h;cases h
 | false=>
  rw[h1] at h
  cases h2:(f.flat.any JV||(decide (200<f.flat.length)||(decide (8<f.dep)||decide (4000<(f.txt true).length)))) with
  | true=>rw[h2] at h;cases h
  | false=>
   simp only[Wa,VI] at h2;exact⟨rfl,h2.1,by omega,by omega,by omega⟩
theorem Pu {f:Fo}(h1:f.one=true)(hw:f.wf false none=true)(he:NN f=0):CD f.flat=0:=by
 unfold CD;rw[QK h1 hw];exact he
theorem Ip:∀(f:Fo) (m:Bool) (last:Option Ar) (b:Bool),f.wf m last=true→f.flat.any LG=false→f.flat.any JV=false→f.flat.length≤200→f.dep≤8→(f.txt b).length≤4000→∀y∈f.vals,CD y=0
 | .nil,m,last,b,hw,h1,h2,h3,h4,h5=>λy hy=>by simp[Fo.vals] at hy
 | .cell k c r,m,last,b,hw,h1,h2,h3,h4,h5=>λy hy=>by
  simp only[Fo.wf,VJ,VV] at hw;obtain⟨⟨⟨w1,w2⟩,w3⟩,w4⟩:=hw;simp only[Fo.flat,List.any_append,List.any_cons,Wa] at h1 h2;simp only[Fo.flat,Fo.dep,Fo.txt,VU,VM] at h3 h4 h5;simp only[Fo.vals,Wu] at hy;rcases hy with rfl | hy
  ·have hf:(Fo.cell none c .nil).flat=[c]:=by simp[Fo.flat,BJ]
   rw[← hf];refine Pu rfl (ON w2 w3) (Pv ?_ ?_ ?_ ?_ ?_)
   ·rw[hf];simp[h1.2.1]
   ·rw[hf];simp[h2.2.1]
   ·rw[hf];simp
   ·simp[Fo.dep]
   ·simp[Fo.txt,Ot,Uf];omega
  ·exact Ip r m k false w4 h1.2.2 h2.2.2 (by omega) (by omega) (by omega) y hy
 | .node k c kids r,m,last,b,hw,h1,h2,h3,h4,h5=>λy hy=>by
  simp only[Fo.wf,VJ,VH] at hw;obtain⟨⟨⟨⟨⟨w1,w2⟩,w3⟩,w5⟩,w6⟩,w4⟩:=hw;simp only[Fo.flat,List.any_append,List.any_cons,Wa] at h1 h2;simp only[Fo.flat,Fo.dep,Fo.txt,VU,VM] at h3 h4 h5;simp only[Fo.vals,Wu] at hy;rcases hy with rfl | hy
  ·have hf:(Fo.node none c kids .nil).flat=c::kids.flat:=by simp[Fo.flat,BJ]
   rw[← hf];refine Pu rfl (OM w2 w3 w5 w6) (Pv ?_ ?_ ?_ ?_ ?_)
   ·rw[hf];simp only[List.any_cons,h1.2.1,h1.2.2.1];rfl
   ·rw[hf];simp only[List.any_cons,h2.2.1,h2.2.2.1];rfl
   ·rw[hf];simp only[VM];omega
   ·simp only[Fo.dep];omega
   ·simp only[Fo.txt,Ot,Uf,VR,List.nil_append,Wz];omega
  ·exact Ip r m k false w4 h1.2.2.2 h2.2.2.2 (by omega) (by omega) (by omega) y hy
theorem V2.vals {M:Nat}{v:List Aa}{c:Aa}{kf:Fo}(V:V2 M v c kf):∀y∈kf.vals,CD y=0:=by
 obtain⟨f,x1,x2,x3,x4,x5⟩:=V.f;obtain⟨h1,h2,h3,h4,h5⟩:=RK x5;have hw:=V.vok.wf
 cases f with
 | nil=>cases x2
 | cell k c' r=>
  simp[Fo.hd] at x4;obtain⟨_,_,rfl,_⟩:=x4;intro y hy;simp[Fo.vals] at hy
 | node k c' kids r=>
  simp[Fo.hd] at x4;obtain⟨rfl,rfl,rfl,rfl⟩:=x4;simp only[Fo.flat,BJ,List.nil_append,Wz,List.any_cons,Wa] at h1 h2;simp only[Fo.flat,BJ,List.nil_append,Wz,VM] at h3;simp only[Fo.dep] at h4;have hb:=Px c' (kids.txt true);simp only[Fo.txt,Ot,Uf,VR,List.nil_append,Wz] at h5;exact Ip kids _ none true hw h1.2 h2.2 (by omega) (by omega) (by omega)
section
variable {M : Nat} {v x : List Aa} {key : Ar}
end
theorem D2 {α:Type}[Inhabited α]{l:List α}{t:α→Bool}{body:Int→Option (Stp Int (Out Int Unit))}
  (hs:∀x:Int,0≤x→x<(l.length:Int)→body x=some (Vn x (bO (t (Ax l x)) x))) (he:∀x:Int,¬ x<(l.length:Int)→body x=some (.out (.go ()))) {F:Nat} (hF:l.length<F) :
  (Bf (Bf (BW body F 0) (BV λ_=>some (-1))) λr=>some (decide (0≤r)))=some (l.any t):=by
 have key:∀(suf pre:List α) (F:Nat),l=pre++suf→suf.length<F→∃o,BW body F (pre.length:Int)=some o∧(Bf (BV (λ_=>some (-1)) o) λr=>some (decide (0≤r)))=some (suf.any t):=by
  intro suf
  induction suf with
  | nil=>
   intro pre F e hF;obtain⟨n,rfl⟩:∃n,F=n+1:=⟨F-1,by omega⟩
   exact⟨.go (),DM (he _ (by rw[e];simp)),rfl⟩
  | cons a r ih=>
   intro pre F e hF;simp only[VM] at hF;obtain⟨n,rfl⟩:∃n,F=n+1:=⟨F-1,by omega⟩
   have h1:=hs (pre.length:Int) (by omega) (by rw[e];simp;omega);have h2:Ax l (pre.length:Int)=a:=by rw[e];exact MQ pre r a rfl
   rw[h2] at h1
   cases ht:t a with
   | true=>
    rw[ht] at h1;refine⟨.ret (pre.length:Int),DM h1,?_⟩;rw[KZ,Be rfl,List.any_cons,ht,VN (by omega)];rfl
   | false=>
    rw[ht] at h1;obtain⟨o,h3,h4⟩:=ih (pre++[a]) n (by rw[e];simp) (by omega);refine⟨o,Lh h1 ?_,?_⟩
    ·rw[show((pre.length:Int)+1)=((pre++[a]).length:Int) from by simp];exact h3
    ·rw[h4,List.any_cons,ht];rfl
 obtain⟨o,h1,h2⟩:=key l [] F rfl hF;rw[show(0:Int)=(([]:List α).length:Int) from rfl,Be h1];exact h2
def Ei (x:List Aa)(l:List (List Aa)):Bool:=l.any λy=>decide (y=x)
def Kd (s p:Ar):Bool:=decide (p.length≤s.length)&&decide (s.take p.length=p)
def H0 (x:List Aa)(p:Ar):Bool:=decide ((Ax x 0).fKind=4)&&Kd (Ax x 0).fStr p
def Gj (x:List Aa)(lo hi:Int):Bool:=decide ((Ax x 0).fKind=3)&&(decide (lo≤(Ax x 0).fInt)&&decide ((Ax x 0).fInt≤hi))
def Lb (f:Af)(x:List Aa):Bool:=
 bif decide (f.fOp=1) then true else bif decide (f.fOp=3) then Ei x f.fValues else bif decide (f.fOp=4) then !Ei x f.fValues else bif decide (f.fOp=5) then H0 x f.fText else bif decide (f.fOp=6) then Gj x f.fLow f.fHigh else false
def SL (f:Af)(v:List Aa):Bool:=bif !decide ((DL v f.fPath).2=0) then decide (f.fOp=2) else Lb f (DL v f.fPath).1
def PU (f:Af)(v:List Aa):Bool:=decide (I1 f=0)&&(decide (CD v=0)&&SL f v)
section
variable {K : Nat} {v : List Aa}
theorem J1 (key:Ar):∀(g:Fo) (x:List Aa),g.find key=some x→x∈g.vals
 | .nil,x,h=>by cases h
 | .cell k c r,x,h=>by
  rw[Fo.find] at h
  cases hk:decide (E7 k=key) with
  | true=>rw[hk] at h;cases h;simp[Fo.vals]
  | false=>rw[hk] at h;simp[Fo.vals,J1 key r x h]
 | .node k c kids r,x,h=>by
  rw[Fo.find] at h
  cases hk:decide (E7 k=key) with
  | true=>rw[hk] at h;cases h;simp[Fo.vals]
  | false=>rw[hk] at h;simp[Fo.vals,J1 key r x h]
theorem Tf (hA:Ef K v){key:Ar}(h0:(GY v key).2=0):CD (GY v key).1=0:=by
 unfold GY at *;rcases H4 hA with⟨h,on⟩ | ⟨c,kf,V⟩
 ·rw[on] at h0;exact absurd h0 h
 ·rw[V.on] at *
  cases h6:decide (c.fKind=6) with
  | false=>rw[h6] at h0;cases h0
  | true=>
   rw[h6] at h0
   cases hf:kf.find key with
   | none=>rw[hf] at h0;cases h0
   | some x=>exact V.vals x (J1 key kf x hf)
theorem Nw:∀(ks:List Ar) {out:List Aa},Ef K out→CD out=0→(Gu ks out).2=0→CD (Gu ks out).1=0
 | [],out,_,h,_=>h
 | k::ks,out,hA,h,h0=>by
  rw[Gu] at *
  cases hk:decide ((GY out k).2=0) with
  | false=>
   rw[hk] at h0;exact absurd h0 (of_decide_eq_false hk)
  | true=>
   rw[hk] at h0;exact Nw ks (ME hA k) (Tf hA (Wc hk)) h0
theorem Rm (hA:Ef K v){path:List Ar}(h0:(DL v path).2=0):CD (DL v path).1=0:=by
 unfold DL at *
 cases hv:decide (CD v=0) with
 | false=>rw[hv] at h0;exact absurd h0 (of_decide_eq_false hv)
 | true=>rw[hv] at h0;exact Nw path hA (Wc hv) h0
theorem Me (s p:Ar):CJ s p=some (Kd s p):=by
 unfold CJ EG Kd;have e:decide ((p.length:Int)≤(s.length:Int))=decide (p.length≤s.length):=by rw[Wi];simp
 rw[e]
 cases h:decide (p.length≤s.length) with
 | false=>rfl
 | true=>rw[CA (by rw[Uj (by omega) (by have:=Wc h;omega)];rfl),Be rfl];rfl
theorem Iy (hA:Ef K v)(h:CD v=0)(p:Ar):Hc v p=some (H0 v p):=by
 rcases H4 hA with⟨h',_⟩ | ⟨c,kf,V⟩
 ·exact absurd h h'
 ·have hl:0<v.length:=by rw[V.e];simp
  unfold Hc H0;rw[Me,BG (by omega) (by omega),J9,Dg]
theorem Iw (hA:Ef K v)(h:CD v=0)(lo hi:Int):GZ v lo hi=some (Gj v lo hi):=by
 rcases H4 hA with⟨h',_⟩ | ⟨c,kf,V⟩
 ·exact absurd h h'
 ·have hl:0<v.length:=by rw[V.e];simp
  unfold GZ Gj;rw[BG (by omega) (by omega)]
theorem G9 {x:List Aa}{l:List (List Aa)}{F:Nat}(hl:l.length≤1000)(hF:K+1000<F)(hK:K≤1000000)(h:∀y∈l,Ef K y):He F l x=some (Ei x l):=by
 have:RU F l x=some (Ei x l):=by
  unfold RU Ta;refine D2 (λi h0 hi=>?_) (λi hi=>by unfold HX;rw[AT (VL hi)]) (by omega);have hm:=h _ (I2 h0 hi);have hv:=hm.hv;unfold HX K3;rw[Bd (VN hi),BG h0 hi,P9 (by omega) (by omega),Be rfl,Be rfl,Bp (by omega) (by omega)];exact E9
 unfold He;rw[this,Be rfl]
variable {f : Af}
theorem RB (hf:FA K f)(hA:Ef K v){F:Nat}(hF:4*K+2000<F):JX F f v=some (SL f v):=by
 have hp:=hf.path;have hK:=hf.K2;have hl:=hf.vals;unfold JX SL;rw[QR hA hK (by omega) (by omega) (by omega),Be rfl]
 cases he:decide ((DL v f.fPath).2=0) with
 | false=>rfl
 | true=>
  have hok:=Rm hA (Wc he);have hck:=Rn hA f.fPath;rw[AT (by rfl)];show _=some (Lb f _);unfold Lb
  cases h1:decide (f.fOp=1) with
  | true=>rfl
  | false=>
   rw[AT (by rfl),VK]
   cases h3:decide (f.fOp=3) with
   | true=>
    rw[Bd (by rfl),VR,G9 (by omega) (by omega) hK hf.val,Be rfl]
    cases Ei _ _<;>rfl
   | false=>
    rw[AT (by rfl),VK]
    cases h4:decide (f.fOp=4) with
    | true=>
     rw[Bd (by rfl),VR,G9 (by omega) (by omega) hK hf.val,Be rfl]
     cases Ei _ _<;>rfl
    | false=>
     rw[AT (by rfl),VK]
     cases h5:decide (f.fOp=5) with
     | true=>rw[Bd (by rfl),VR,Iy hck hok,Be rfl]
     | false=>
      rw[AT (by rfl),VK]
      cases h6:decide (f.fOp=6) with
      | true=>rw[Bd (by rfl),VR,Iw hck hok,Be rfl]
      | false=>rfl
theorem Pr (hf:FA K f)(hA:Ef K v){F:Nat}(hF:4*K+2000<F):Gc F f v=some (PU f v):=by
 have hK:=hf.K2;unfold Gc PU;rw[J4 hf (by omega),Gn hA hK (by omega),RB hf hA hF,CA (by rfl),J9,RQ,Dg,Dg,Dg]
theorem K4 (h:I1 f=0):1≤f.fOp∧f.fOp≤6:=by
 unfold I1 at h
 cases h1:decide (4<(f.fPath.length:Int)) with
 | true=>rw[h1] at h;cases h
 | false=>
  rw[h1,VK] at h
  cases h2:f.fPath.findSome? λs=>eO (QW s) with
  | some e=>
   rw[h2] at h;have:e=0:=h;subst this;obtain⟨s,_,h3⟩:=List.exists_of_findSome?_eq_some h2;unfold eO at h3
   cases h4:decide (QW s=0) with
   | true=>rw[h4] at h3;cases h3
   | false=>rw[h4] at h3;exact absurd (Option.some.inj h3) (of_decide_eq_false h4)
  | none=>
   rw[h2] at h
   cases h3:(decide (f.fOp<1)||decide (6<f.fOp)) with
   | true=>rw[h3] at h;cases h
   | false=>simp only[Wa,VI] at h3;omega
end
theorem OS {F:Nat}{a b:List Ar}(hF:a.length<F)(ha:a.length≤1000000000):DD F a b=some (decide (a=b)):=by
 unfold DD
 by_cases hl:a.length=b.length
 ·rw[AT (by simp[hl])];have h1:∀(k:Nat),k≤a.length→∃o,BW (λσ=>C9 a b σ) (a.length-k+1) (k:Int)=some o∧BV (λ_=>Eb) o=some (decide (a.drop k=b.drop k)):=by
   intro k;generalize hd:a.length-k=d
   induction d generalizing k with
   | zero=>
    intro hk;have:k=a.length:=by omega
    subst this;refine⟨.go (),DM (by unfold C9;rw[AT (VL (by omega))]),?_⟩;rw[OY,List.drop_length,hl,List.drop_length];rfl
   | succ d ih=>
    intro hk;have hka:k<a.length:=by omega
    have hkb:k<b.length:=by omega
    have ea:Ax a (k:Int)=a[k]:=by simp[Ax,hka]
    have eb:Ax b (k:Int)=b[k]:=by simp[Ax,hkb]
    have da:=List.drop_eq_getElem_cons hka;have db:=List.drop_eq_getElem_cons hkb;have hb:C9 a b (k:Int)=AP (!decide (a[k]=b[k])) (some (.out (.ret false))) (some (.next ((k:Int)+1))):=by
     unfold C9;rw[Bd (VN (by omega)),BG (by omega) (by omega),BG (by omega) (by omega),ea,eb,Bp (by omega) (by omega)]
    cases he:decide (a[k]=b[k]) with
    | false=>
     refine⟨.ret false,DM (hb.trans (by rw[he];rfl)),?_⟩;rw[KZ,da,db];simp only[VI] at he;rw[VL (by intro h;exact he (List.cons.inj h).1)]
    | true=>
     obtain⟨o,h2,h3⟩:=ih (k+1) (by omega) (by omega);simp only[VH] at he;refine⟨o,Lh (hb.trans (by rw[VN he];rfl)) h2,?_⟩;rw[h3,da,db,he];simp only[List.cons.injEq,true_and]
  obtain⟨o,h2,h3⟩:=h1 0 (Wq _);replace h2:BW (λσ=>C9 a b σ) (a.length-0+1) 0=some o:=h2;obtain⟨k,rfl⟩:∃k,F=(a.length-0+1)+k:=⟨F-(a.length+1),by omega⟩
  rw[Be (IT k h2),h3];rfl
 ·rw[Bd (by simp;omega),VL (λh=>hl (by rw[h]))]
def On (a b:List Ar):Bool:=decide (b.length≤a.length)&&decide (a.take b.length=b)
def U0 (a b:List Ar):Bool:=decide (b.length<a.length)&&decide (a.take b.length=b)
theorem JY {F:Nat}{a b:List Ar}(hF:a.length<F)(ha:a.length≤1000000000):G4 F a b=some (U0 a b):=by
 unfold G4 U0;have e:decide ((b.length:Int)<(a.length:Int))=decide (b.length<a.length):=by rw[Wi];simp
 rw[e,OS (by rw[List.length_take];omega) (by rw[List.length_take];omega),J9,Dg]
 cases h:decide (b.length<a.length) with
 | false=>rfl
 | true=>rw[CA (by rw[Uj (by omega) (by have:=Wc h;omega)];rfl)];rfl
def Sf (p3 p4 p5 p6 A B W:Bool):Bool:=(p3&&!A)||((p4&&A)||((p5&&!B)||(p6&&!W)))
def Jk (b:Af)(v:List Aa):Bool:=Sf (decide (b.fOp=3)) (decide (b.fOp=4)) (decide (b.fOp=5)) (decide (b.fOp=6)) (Ei v b.fValues) (H0 v b.fText) (Gj v b.fLow b.fHigh)
def Jl (a:Af)(v:List Aa):Bool:=(decide (a.fOp=1))||(bif decide (a.fOp=4) then((!Ei v a.fValues)||(bif decide (a.fOp=5) then((H0 v a.fText)||((decide (a.fOp=6))&&(Gj v a.fLow a.fHigh))) else((decide (a.fOp=6))&&(Gj v a.fLow a.fHigh)))) else(bif decide (a.fOp=5) then((H0 v a.fText)||((decide (a.fOp=6))&&(Gj v a.fLow a.fHigh))) else((decide (a.fOp=6))&&(Gj v a.fLow a.fHigh))))
def PK (a b:Af):Bool:=
 bif (decide (b.fOp=1)||(decide (b.fOp=2)||decide (a.fOp=2))) then decide (a.fOp=2) ==decide (b.fOp=2)
 else bif decide (a.fOp=3) then !a.fValues.any (Jk b)
 else bif decide (b.fOp=4) then !b.fValues.any (Jl a)
 else bif decide (b.fOp=5) then decide (a.fOp=5)&&Kd a.fText b.fText
 else decide (b.fOp=6)&&(decide (a.fOp=6)&&(decide (b.fLow≤a.fLow)&&decide (a.fHigh≤b.fHigh)))
def R3 (a b:Af):Bool:=decide (I1 a=0)&&(decide (I1 b=0)&&
 (bif decide (b.fPath.length<a.fPath.length) then On a.fPath b.fPath&&(decide (b.fOp=1)&&!decide (a.fOp=2))
 else bif decide (a.fPath.length<b.fPath.length) then On b.fPath a.fPath&&(decide (a.fOp=2)&&decide (b.fOp=2))
 else On a.fPath b.fPath&&PK a b))
section
variable {K : Nat} {a b : Af}
theorem Tt {α:Type}{g:α→Int}{l:List α}(h:TT (l.findSome? λx=>eO (g x)) 0=0):∀x∈l,g x=0:=by
 intro x hx
 cases hs:l.findSome? λx=>eO (g x) with
 | none=>
  have:=List.findSome?_eq_none_iff.1 hs x hx;unfold eO at this
  cases h4:decide (g x=0) with
  | true=>exact Wc h4
  | false=>rw[h4] at this;cases this
 | some e=>
  rw[hs] at h;have:e=0:=h;subst this;obtain⟨s,_,h3⟩:=List.exists_of_findSome?_eq_some hs;unfold eO at h3
  cases h4:decide (g s=0) with
  | true=>rw[h4] at h3;cases h3
  | false=>rw[h4] at h3;exact absurd (Option.some.inj h3) (of_decide_eq_false h4)
theorem Ny {o:Option Int}{k:Int}(h:TT o k=0)(ho:∀e,o=some e→¬ e=0):o=none∧k=0:=by
 cases o with
 | none=>exact⟨rfl,h⟩
 | some e=>exact absurd h (ho e rfl)
theorem TI {α:Type}{g:α→Int}{l:List α}:∀e,(l.findSome? λx=>eO (g x))=some e→¬ e=0:=λe h he=>by
 subst he;obtain⟨s,_,h3⟩:=List.exists_of_findSome?_eq_some h;unfold eO at h3
 cases h4:decide (g s=0) with
 | true=>rw[h4] at h3;cases h3
 | false=>rw[h4] at h3;exact absurd (Option.some.inj h3) (of_decide_eq_false h4)
theorem Ml (h:I1 a=0)(ho:a.fOp=3∨a.fOp=4):0<a.fValues.length∧∀v∈a.fValues,CD v=0:=by
 unfold I1 at h
 cases h1:decide (4<(a.fPath.length:Int)) with
 | true=>rw[h1] at h;cases h
 | false=>
  rw[h1,VK] at h;obtain⟨_,h⟩:=Ny h TI
  cases h3:(decide (a.fOp<1)||decide (6<a.fOp)) with
  | true=>rw[h3] at h;cases h
  | false=>
   rw[h3,VK] at h;unfold SK at h;rw[show(decide (a.fOp=3)||decide (a.fOp=4))=true from by simpa using ho,VR] at h
   cases h4:(decide ((a.fValues.length:Int)<1)||decide (8<(a.fValues.length:Int))) with
   | true=>rw[h4] at h;cases h
   | false=>
    rw[h4,VK] at h;obtain⟨h5,_⟩:=Ny h TI;simp only[Wa,VI] at h4;exact⟨by omega,Tt (g:=CD) (by rw[h5];rfl)⟩
theorem Ql (ha:FA K a)(hb:FA K b){F:Nat}(hF:4*K+2000<F):Lt F b a=some (!b.fValues.any λv=>!Ei v a.fValues):=by
 have hK:=ha.K2;have hl:=ha.vals;have hlb:=hb.vals;have:NV F b.fValues a=some (b.fValues.any λv=>!Ei v a.fValues):=by
  unfold NV Pj;refine D2 (λi h0 hi=>?_) (λi hi=>by unfold Gy;rw[AT (VL hi)]) (by omega);unfold Gy To;rw[Bd (VN hi),BG h0 hi,G9 (by omega) (by omega) hK ha.val,Be rfl,Be rfl,Bp (by omega) (by omega)];exact E9
 unfold Lt;rw[this,Be rfl]
theorem Qk (ha:FA K a)(hb:FA K b){F:Nat}(hF:4*K+2000<F):Ls F a b=some (!a.fValues.any λv=>Ei v b.fValues):=by
 have hK:=ha.K2;have hl:=ha.vals;have hlb:=hb.vals;have:NU F a.fValues b=some (a.fValues.any λv=>Ei v b.fValues):=by
  unfold NU Pi;refine D2 (λi h0 hi=>?_) (λi hi=>by unfold Gx;rw[AT (VL hi)]) (by omega);unfold Gx Tn;rw[Bd (VN hi),BG h0 hi,G9 (by omega) (by omega) hK hb.val,Be rfl,Be rfl,Bp (by omega) (by omega)];exact E9
 unfold Ls;rw[this,Be rfl]
theorem Qj (hb:FA K b)(hv:∀v∈b.fValues,CD v=0){F:Nat}(hF:4*K+2000<F):Lr F b a=some (!b.fValues.any λv=>H0 v a.fText):=by
 have hlb:=hb.vals;have:NT F b.fValues a=some (b.fValues.any λv=>H0 v a.fText):=by
  unfold NT Ph;refine D2 (λi h0 hi=>?_) (λi hi=>by unfold Gw;rw[AT (VL hi)]) (by omega);have hm:=I2 h0 hi;unfold Gw Tm;rw[Bd (VN hi),BG h0 hi,Iy (hb.val _ hm) (hv _ hm),Be rfl,Be rfl,Bp (by omega) (by omega)];exact E9
 unfold Lr;rw[this,Be rfl]
theorem Qi (hb:FA K b)(hv:∀v∈b.fValues,CD v=0){F:Nat}(hF:4*K+2000<F):Lq F b a=some (!b.fValues.any λv=>Gj v a.fLow a.fHigh):=by
 have hlb:=hb.vals;have:NS F b.fValues a=some (b.fValues.any λv=>Gj v a.fLow a.fHigh):=by
  unfold NS Pg;refine D2 (λi h0 hi=>?_) (λi hi=>by unfold Gv;rw[AT (VL hi)]) (by omega);have hm:=I2 h0 hi;unfold Gv Tl;rw[Bd (VN hi),BG h0 hi,Iw (hb.val _ hm) (hv _ hm),Be rfl,Be rfl,Bp (by omega) (by omega)];exact E9
 unfold Lq;rw[this,Be rfl]
theorem RJ (ha:FA K a)(hb:FA K b){F:Nat}(hF:4*K+2000<F):NK F a b=some (decide (a.fOp=3)&&!a.fValues.any λv=>!Ei v b.fValues):=by
 have hK:=ha.K2;have hl:=ha.vals;have hlb:=hb.vals;have:NY F a.fValues b=some (a.fValues.any λv=>!Ei v b.fValues):=by
  unfold NY Pn;refine D2 (λi h0 hi=>?_) (λi hi=>by unfold G1;rw[AT (VL hi)]) (by omega);unfold G1 Ts Tk;rw[Bd (VN hi),BG h0 hi,G9 (by omega) (by omega) hK hb.val,Be rfl,Be rfl,Be rfl,Bp (by omega) (by omega)];exact E9
 unfold NK;rw[this]
 cases decide (a.fOp=3)<;>rfl
theorem RI (ha:FA K a)(hv:a.fOp=3→∀v∈a.fValues,CD v=0){F:Nat}(hF:4*K+2000<F):Mh F a b=some (decide (a.fOp=3)&&!a.fValues.any λv=>!H0 v b.fText):=by
 have hl:=ha.vals;unfold Mh
 cases h3:decide (a.fOp=3) with
 | false=>rfl
 | true=>
  have:NX F a.fValues b=some (a.fValues.any λv=>!H0 v b.fText):=by
   unfold NX Pm;refine D2 (λi h0 hi=>?_) (λi hi=>by unfold G0;rw[AT (VL hi)]) (by omega);have hm:=I2 h0 hi;unfold G0 Tr Tj;rw[Bd (VN hi),BG h0 hi,Iy (ha.val _ hm) (hv (Wc h3) _ hm),Be rfl,Be rfl,Be rfl,Bp (by omega) (by omega)];exact E9
  rw[this];rfl
theorem RH (ha:FA K a)(hv:a.fOp=3→∀v∈a.fValues,CD v=0){F:Nat}(hF:4*K+2000<F):Lv F a b=some (decide (a.fOp=3)&&!a.fValues.any λv=>!Gj v b.fLow b.fHigh):=by
 have hl:=ha.vals;unfold Lv
 cases h3:decide (a.fOp=3) with
 | false=>rfl
 | true=>
  have:NW F a.fValues b=some (a.fValues.any λv=>!Gj v b.fLow b.fHigh):=by
   unfold NW Pk;refine D2 (λi h0 hi=>?_) (λi hi=>by unfold Gz;rw[AT (VL hi)]) (by omega);have hm:=I2 h0 hi;unfold Gz Tq Ti;rw[Bd (VN hi),BG h0 hi,Iw (ha.val _ hm) (hv (Wc h3) _ hm),Be rfl,Be rfl,Be rfl,Bp (by omega) (by omega)];exact E9
  rw[this];rfl
theorem Se (b:Af)(h:b.fOp=3):Jk b=λv=>!Ei v b.fValues:=by funext v;simp[Jk,Sf,h]
theorem Sd (b:Af)(h:b.fOp=4):Jk b=λv=>Ei v b.fValues:=by funext v;simp[Jk,Sf,h]
theorem Sc (b:Af)(h:b.fOp=5):Jk b=λv=>!H0 v b.fText:=by funext v;simp[Jk,Sf,h]
theorem Sb (b:Af)(h:b.fOp=6):Jk b=λv=>!Gj v b.fLow b.fHigh:=by funext v;simp[Jk,Sf,h]
theorem Sj (a:Af)(h:a.fOp=1):Jl a=λv=>true:=by funext v;simp[Jl,h]
theorem Si (a:Af)(h:a.fOp=4):Jl a=λv=>!Ei v a.fValues:=by funext v;simp[Jl,h]
theorem Sh (a:Af)(h:a.fOp=5):Jl a=λv=>H0 v a.fText:=by funext v;simp[Jl,h]
theorem Sg (a:Af)(h:a.fOp=6):Jl a=λv=>Gj v a.fLow a.fHigh:=by funext v;simp[Jl,h]
theorem Sm {α:Type}{l:List α}(h:0<l.length):(l.any λ_=>true)=true:=by
 cases l with
 | nil=>simp at h
 | cons x r=>rfl
theorem NI (ha:FA K a)(hb:FA K b)(ca:I1 a=0)(cb:I1 b=0){F:Nat}(hF:4*K+2000<F):HG F a b=some (PK a b):=by
 have oa:=K4 ca;have ob:=K4 cb;have va:a.fOp=3→∀v∈a.fValues,CD v=0:=λh=>(Ml ca (.inl h)).2;unfold HG PK;rw[RJ ha hb hF,RI ha va hF,RH ha va hF];have hcases:b.fOp=1∨b.fOp=2∨b.fOp=3∨b.fOp=4∨b.fOp=5∨b.fOp=6:=by omega
 have acases:a.fOp=1∨a.fOp=2∨a.fOp=3∨a.fOp=4∨a.fOp=5∨a.fOp=6:=by omega
 rcases hcases with h | h | h | h | h | h
 ·rw[h];rcases acases with h' | h' | h' | h' | h' | h'<;>rw[h']<;>rfl
 ·rw[h];rcases acases with h' | h' | h' | h' | h' | h'<;>rw[h']<;>rfl
 ·rw[Se b h,h];rcases acases with h' | h' | h' | h' | h' | h'<;>rw[h']<;>rfl
 ·have vb:=Ml cb (.inr h);unfold Ia;rw[Ql ha hb hF,Qk ha hb hF,Qj hb vb.2 hF,Qi hb vb.2 hF,Sd b h,h];rcases acases with h' | h' | h' | h' | h' | h'
  ·rw[Sj a h',h',Sm vb.1];rfl
  ·rw[h'];rfl
  ·rw[h'];rfl
  ·rw[Si a h',h'];rfl
  ·rw[Sh a h',h'];rfl
  ·rw[Sg a h',h'];rfl
 ·rw[Sc b h,Me,h];rcases acases with h' | h' | h' | h' | h' | h'
  ·rw[h'];rfl
  ·rw[h'];rfl
  ·rw[h'];rfl
  ·rw[h'];rfl
  ·rw[h'];show AP (Kd a.fText b.fText) (some true) (some false)=some (Kd a.fText b.fText)
   cases Kd a.fText b.fText<;>rfl
  ·rw[h'];rfl
 ·rw[Sb b h,h];rcases acases with h' | h' | h' | h' | h' | h'
  ·rw[h'];rfl
  ·rw[h'];rfl
  ·rw[h'];rfl
  ·rw[h'];rfl
  ·rw[h'];rfl
  ·rw[h'];show AP (decide (b.fLow≤a.fLow)) (AP (decide (a.fHigh≤b.fHigh)) (some true) (some false)) (some false)=some (decide (b.fLow≤a.fLow)&&decide (a.fHigh≤b.fHigh))
   cases decide (b.fLow≤a.fLow)<;>cases decide (a.fHigh≤b.fHigh)<;>rfl
theorem NH (ha:FA K a)(hb:FA K b){F:Nat}(hF:4*K+2000<F):Cs F a b=some (R3 a b):=by
 have hpa:=ha.path;have hpb:=hb.path;unfold Cs R3;rw[J4 ha (by omega),J4 hb (by omega),CA (by rfl),J9,Dg,Dg]
 cases hca:decide (I1 a=0) with
 | false=>rfl
 | true=>
  cases hcb:decide (I1 b=0) with
  | false=>rfl
  | true=>
   have ca:=Wc hca;have cb:=Wc hcb;rw[AT (by rfl),VW,VW,OS (by omega) (by omega),Be rfl,NI ha hb ca cb hF,JY (by omega) (by omega),JY (by omega) (by omega)];unfold On U0
   by_cases h1:a.fPath=b.fPath
   ·rw[VN h1,Bd (by rfl),Be rfl,h1,VL (Nat.lt_irrefl _),VN (VZ _),List.take_length,VN rfl];rfl
   ·rw[VL h1,AT (by rfl),Be rfl,Be rfl]
    by_cases h2:b.fPath.length<a.fPath.length
    ·rw[VN h2,VN (show b.fPath.length≤a.fPath.length by omega),VL (show ¬ a.fPath.length<b.fPath.length by omega)]
     cases decide (a.fPath.take b.fPath.length=b.fPath)<;>rfl
    ·by_cases h3:a.fPath.length<b.fPath.length
     ·rw[VL h2,VN h3,VN (show a.fPath.length≤b.fPath.length by omega)]
      cases decide (b.fPath.take a.fPath.length=a.fPath)<;>rfl
     ·have h4:a.fPath.length=b.fPath.length:=by omega
      rw[VL h2,VL h3,VN (show b.fPath.length≤a.fPath.length by omega),← h4,List.take_length,VL h1];rfl
theorem Ou {s p q:Ar}(h:Kd s p=true)(h':Kd p q=true):Kd s q=true:=by
 unfold Kd at *;simp only[VJ,VH] at *;obtain⟨h1,h2⟩:=h;obtain⟨h3,h4⟩:=h';refine⟨by omega,?_⟩;have h5:(s.take p.length).take q.length=q:=by rw[h2,h4]
 rw[List.take_take,Nat.min_eq_left h3] at h5;exact h5
theorem LZ:∀(ks rs:List Ar) (out:List Aa),(Gu (ks++rs) out).2=0→(Gu ks out).2=0
 | [],_,_,_=>rfl
 | k::ks,rs,out,h=>by
  rw[List.cons_append,Gu] at h;rw[Gu]
  cases hk:decide ((GY out k).2=0) with
  | false=>rw[hk] at h;exact h
  | true=>rw[hk] at h;exact LZ ks rs _ h
theorem LY {ks ls:List Ar}{v:List Aa}(h:ls.take ks.length=ks)(h0:(DL v ls).2=0):(DL v ks).2=0:=by
 unfold DL at *
 cases hv:decide (CD v=0) with
 | false=>rw[hv] at h0;exact h0
 | true=>
  rw[hv] at h0;rw[← W0 ks.length ls,h] at h0;exact LZ ks _ v h0
theorem EN {α:Type}{p:α→Bool}{l:List α}(h:(!l.any p)=true){x:α}(hx:x∈l):p x=false:=by
 rw[VV] at h
 cases hp:p x with
 | false=>rfl
 | true=>rw[List.any_eq_true.2 ⟨x,hx,hp⟩] at h;cases h
theorem HC {x:List Aa}{l:List (List Aa)}:Ei x l=true↔x∈l:=by
 unfold Ei;simp
theorem PJ {x:List Aa}(ca:I1 a=0)(cb:I1 b=0)(ht:PK a b=true)(h:Lb a x=true):Lb b x=true:=by
 have oa:=K4 ca;have ob:=K4 cb;have hcases:b.fOp=1∨b.fOp=2∨b.fOp=3∨b.fOp=4∨b.fOp=5∨b.fOp=6:=by omega
 have acases:a.fOp=1∨a.fOp=2∨a.fOp=3∨a.fOp=4∨a.fOp=5∨a.fOp=6:=by omega
 unfold PK at ht;unfold Lb at h ⊢;rcases hcases with hb | hb | hb | hb | hb | hb
 ·rw[hb];rfl
 ·rw[hb] at ht;rcases acases with h' | h' | h' | h' | h' | h'<;>rw[h'] at ht h<;>first | exact absurd (show false=true from ht) Bool.false_ne_true | exact absurd (show false=true from h) Bool.false_ne_true
 ·rw[Se b hb,hb] at ht;rw[hb];rcases acases with h' | h' | h' | h' | h' | h'
  ·rw[h'] at ht;cases ht
  ·rw[h'] at ht;cases ht
  ·rw[h'] at ht h;have:=EN (p:=λv=>!Ei v b.fValues) ht (HC.1 h);simpa using this
  ·rw[h'] at ht;cases ht
  ·rw[h'] at ht;cases ht
  ·rw[h'] at ht;cases ht
 ·rw[Sd b hb,hb] at ht;rw[hb];show(!Ei x b.fValues)=true
  cases hm:Ei x b.fValues with
  | false=>rfl
  | true=>
   have hmem:=HC.1 hm;exfalso;rcases acases with h' | h' | h' | h' | h' | h'
   ·rw[Sj a h',h'] at ht;have:=EN (p:=λ_=>true) ht hmem;cases this
   ·rw[h'] at ht;cases ht
   ·rw[h'] at ht h;have h2:=EN (p:=λv=>Ei v b.fValues) ht (HC.1 h);rw[hm] at h2;cases h2
   ·rw[Si a h',h'] at ht;rw[h'] at h;have h2:=EN (p:=λv=>!Ei v a.fValues) ht hmem;have h3:(!Ei x a.fValues)=true:=h;rw[h3] at h2;cases h2
   ·rw[Sh a h',h'] at ht;rw[h'] at h;have h2:=EN (p:=λv=>H0 v a.fText) ht hmem;have h3:H0 x a.fText=true:=h;rw[h3] at h2;cases h2
   ·rw[Sg a h',h'] at ht;rw[h'] at h;have h2:=EN (p:=λv=>Gj v a.fLow a.fHigh) ht hmem;have h3:Gj x a.fLow a.fHigh=true:=h;rw[h3] at h2;cases h2
 ·rw[Sc b hb,hb] at ht;rw[hb];show H0 x b.fText=true;rcases acases with h' | h' | h' | h' | h' | h'
  ·rw[h'] at ht;cases ht
  ·rw[h'] at ht;cases ht
  ·rw[h'] at ht h;have:=EN (p:=λv=>!H0 v b.fText) ht (HC.1 h);simpa using this
  ·rw[h'] at ht;cases ht
  ·rw[h'] at ht h;have h2:Kd a.fText b.fText=true:=ht;have h3:H0 x a.fText=true:=h;unfold H0 at *;rw[VJ] at *;exact⟨h3.1,Ou h3.2 h2⟩
  ·rw[h'] at ht;cases ht
 ·rw[Sb b hb,hb] at ht;rw[hb];show Gj x b.fLow b.fHigh=true;rcases acases with h' | h' | h' | h' | h' | h'
  ·rw[h'] at ht;cases ht
  ·rw[h'] at ht;cases ht
  ·rw[h'] at ht h;have:=EN (p:=λv=>!Gj v b.fLow b.fHigh) ht (HC.1 h);simpa using this
  ·rw[h'] at ht;cases ht
  ·rw[h'] at ht;cases ht
  ·rw[h'] at ht h;have h2:(decide (b.fLow≤a.fLow)&&decide (a.fHigh≤b.fHigh))=true:=ht;have h3:Gj x a.fLow a.fHigh=true:=h;unfold Gj at *;simp only[VJ,VH] at *;omega
theorem UL {x:List Aa}(h:a.fOp=2):Lb a x=false:=by unfold Lb;rw[h];rfl
theorem Qf {v:List Aa}(h:R3 a b=true)(h1:PU a v=true):PU b v=true:=by
 unfold R3 at h;unfold PU at h1 ⊢;simp only[VJ,VH] at h h1;obtain⟨ca,cb,h⟩:=h;obtain⟨_,hv,h1⟩:=h1;rw[VN cb,VN hv,VW,VW];unfold SL at h1 ⊢
 by_cases h2:b.fPath.length<a.fPath.length
 ·rw[VN h2,VR] at h;unfold On at h;simp only[VJ,VH,VV,VI] at h;obtain⟨⟨_,h3⟩,h4,h5⟩:=h;have h6:(DL v a.fPath).2=0:=by
   cases he:decide ((DL v a.fPath).2=0) with
   | true=>exact Wc he
   | false=>rw[he] at h1;exact absurd (Wc h1) h5
  rw[VN (LY h3 h6)];show Lb b _=true;unfold Lb;rw[h4];rfl
 ·rw[VL h2,VK] at h
  by_cases h3:a.fPath.length<b.fPath.length
  ·rw[VN h3,VR] at h;unfold On at h;simp only[VJ,VH] at h;obtain⟨⟨_,h4⟩,h5,h6⟩:=h
   cases he:decide ((DL v b.fPath).2=0) with
   | true=>
    rw[VN (LY h4 (Wc he))] at h1;have h7:Lb a (DL v a.fPath).1=true:=h1;rw[UL h5] at h7;cases h7
   | false=>exact VN h6
  ·rw[VL h3,VK] at h;unfold On at h;rw[VJ,VJ,VH,VH] at h;obtain⟨⟨_,h4⟩,h5⟩:=h;have hp:a.fPath=b.fPath:=by rw[← h4,List.take_of_length_le (by omega)]
   rw[← hp]
   cases he:decide ((DL v a.fPath).2=0) with
   | true=>
    rw[he] at h1;exact PJ ca cb h5 h1
   | false=>
    rw[he] at h1;have h6:a.fOp=2:=Wc h1;unfold PK at h5;rw[VN h6,We,We,VR] at h5;show decide (b.fOp=2)=true
    cases hb:decide (b.fOp=2) with
    | true=>rfl
    | false=>rw[hb] at h5;cases h5
end
def TD (v:List Aa):Bool:=!decide (300<(v.length:Int))&&v.all λc=>!decide (5000<(c.fStr.length:Int))
def TQ (f:Af):Bool:=!(decide (10<(f.fPath.length:Int))||(decide (20<(f.fValues.length:Int))||decide (1000<(f.fText.length:Int))))&&(f.fPath.all (λs=>!decide (1000<(s.length:Int)))&&f.fValues.all TD)
def V7 (l:List Af):Bool:=!decide (40<(l.length:Int))&&l.all TQ
theorem T7 {α:Type}{p:α→Bool}(l:List α):(bif l.any (λa=>!p a) then false else true)=l.all p:=by
 rw[List.all_eq_not_any_not];cases l.any _<;>rfl
theorem Py {α:Type}{p:α→Bool}(l:List α):(l.all λa=>!p a) = !l.any p:=by
 induction l with
 | nil=>rfl
 | cons a r ih=>rw[List.all_cons,List.any_cons,ih,Bool.not_or]
theorem GA {F:Nat}{v:List Aa}(hF:300<F):Cm F v=some (TD v):=by
 unfold Cm TD
 cases h:decide (300<(v.length:Int)) with
 | true=>rfl
 | false=>
  simp only[VI] at h;rw[AT (by rfl),Be (HD (t:=λc:Aa=>bO (decide (5000<(c.fStr.length:Int))) false) (l:=v) (λi h0 hi=>?_) (λi hi=>by unfold Cy;rw[AT (VL hi)]) (by omega)),Ky]
  ·unfold CK;rw[OZ,Wb,VW,Py]
   cases List.any v _<;>rfl
  ·unfold Cy;rw[Bd (VN hi),BG h0 hi,Bp (by omega) (by omega)];exact E9
theorem JZ {F:Nat}{f:Af}(hF:300<F):Cn F f=some (TQ f):=by
 unfold Cn TQ
 cases h:(decide (10<(f.fPath.length:Int))||(decide (20<(f.fValues.length:Int))||decide (1000<(f.fText.length:Int)))) with
 | true=>rfl
 | false=>
  simp only[Wa,VI] at h;rw[AT (by rfl),Wb,VW,Be (HD (t:=λs:Ar=>bO (decide (1000<(s.length:Int))) false) (l:=f.fPath) (λi h0 hi=>?_) (λi hi=>by unfold D7;rw[AT (VL hi)]) (by omega)),Ky]
  ·have h2:D5 F f=some (f.fValues.all TD):=by
    unfold D5;rw[Be (HD (t:=λv=>bO (!TD v) false) (l:=f.fValues) (λi h0 hi=>?_) (λi hi=>by unfold D6;rw[AT (VL hi)]) (by omega)),Ky]
    ·unfold Ee;rw[OZ,T7]
    ·unfold D6;rw[Bd (VN hi),BG h0 hi,GA hF,Be rfl,Bp (by omega) (by omega)];exact E9
   rw[h2,Py]
   cases List.any f.fPath _<;>rfl
  ·unfold D7;rw[Bd (VN hi),BG h0 hi,Bp (by omega) (by omega)];exact E9
def UO (y:Af):Bool:=(λys:(List Ar)=>ys.all SN&&decide (ys.length≤9223372036854775807)) y.fPath&&(BL .i64) y.fOp&&(λys:(List (List Aa))=>ys.all (λys:(List Aa)=>ys.all Ju&&decide (ys.length≤9223372036854775807))&&decide (ys.length≤9223372036854775807)) y.fValues&&SN y.fText&&(BL .i64) y.fLow&&(BL .i64) y.fHigh
theorem Ef.sm {v:List Aa}(hs:TD v=true)(hc:v.all Ju=true):Ef 5000 v:=by
 unfold TD at hs;simp only[VJ,VV,VI,Wn] at hs hc;refine⟨by decide,by omega,λc h=>?_⟩;have h1:=hs.2 c h;have h2:=hc c h;unfold Ju at h2;simp only[VJ] at h2;exact⟨by omega,h2.1.1.2,(Je h2.2).2⟩
theorem FA.sm {f:Af}(hs:TQ f=true)(ho:UO f=true):FA 5000 f:=by
 unfold TQ at hs;unfold UO at ho;simp only[VJ,VV,Wa,VI,Wn] at hs ho;obtain⟨⟨a1,a2,a3⟩,a4,a5⟩:=hs;refine⟨by omega,λs h=>?_,by omega,λv h=>Ef.sm (a5 v h) ?_,by omega,by decide,by decide⟩
 ·have:=a4 s h;omega
 ·have:=(ho.1.1.1.2.1 v h).1;exact List.all_eq_true.2 this
theorem FAs.sm {l:List Af}(hs:V7 l=true)(ho:l.all UO=true):(∀f∈l,FA 5000 f)∧l.length≤40:=by
 unfold V7 at hs;simp only[VJ,VV,VI,Wn] at hs ho;exact⟨λf h=>FA.sm (hs.2 f h) (ho f h),by omega⟩
theorem Sk:CT 40000=some true:=by decide +kernel
end Go.Proofs.YtghdglcmblpbeaaGreatDoor
namespace Go.Proofs.YtghdglcmblpbeaaGreatDoor
open Go
set_option linter.unusedVariables false
set_option linter.unusedSimpArgs false
theorem M9 {a b:Af}{v:List Aa}(ha:UO a=true)(hb:UO b=true)(hv:v.all Ju=true):HF 40000 a b v=some true:=by
 unfold HF;rw[JZ (by omega),JZ (by omega),GA (by omega),Sk,CA (by rfl),J9,RQ,Dg,Dg,Dg]
 cases h1:TQ a with
 | false=>rfl
 | true=>
  cases h2:TQ b with
  | false=>rfl
  | true=>
   cases h3:TD v with
   | false=>rfl
   | true=>
    have fa:=FA.sm h1 ha;have fb:=FA.sm h2 hb;have va:=Ef.sm h3 hv;rw[AT (by rfl),NH fa fb (by omega),Pr fa va (by omega),Pr fb va (by omega)];simp only[Option.isSome_some,MD,CA,Dg]
    cases hi:R3 a b with
    | false=>rfl
    | true=>
     cases ho:PU a v with
     | false=>rfl
     | true=>rw[Qf hi ho];rfl
end Go.Proofs.YtghdglcmblpbeaaGreatDoor
namespace Go.Proofs.YtghdglcmblpbeaaGreatDoor.lawFilterImplies
open Go
theorem V9:VD:=λ_ _ _ h1 h2 h3=>⟨40000,M9 h1 h2 (Bool.and_eq_true_iff.1 h3).1⟩
end Go.Proofs.YtghdglcmblpbeaaGreatDoor.lawFilterImplies
