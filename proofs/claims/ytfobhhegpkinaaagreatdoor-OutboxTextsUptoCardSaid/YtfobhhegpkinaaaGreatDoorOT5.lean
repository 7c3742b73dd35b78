/-
  Texts of the proof, put together: WOd, POe, WOe, OkOutboxTexts, LvA, LvB, LvC, LvD, LvE, LvF, LvG, LvH, LvI, LvJ, LvK.
-/
import Derived.Test.YtfobhhegpkinaaaGreatDoorOT4
import GoSem.ClaimData
namespace Go.Proofs.YtfobhhegpkinaaaGreatDoor.Q
open Go Go.RowKit
set_option linter.unusedVariables false
set_option linter.unusedSimpArgs false
set_option maxRecDepth 100000
set_option maxHeartbeats 4000000
@[reducible] def Ao (x:(List Ac)):Rp:=AY 4 (A4 Ab x)
theorem Gy (Z:Fz):(Ao ([]:(List Ac))).p Z (.slice none 0 0):=Rb.nil _ _
@[reducible] def Cf (x:Aj):List Rp:=[AY 4 (A4 Ab x.fValue),At x.fVersion]
@[reducible] def Au (x:Aj):Rp:=BQ (Cf x)
theorem Ga (Z:Fz):(Au (Aj.mk ([]:(List Ac)) 0)).p Z (.agg #[(.slice none 0 0),(.int .i64 0)]):=⟨[.slice none 0 0,.int .i64 0],rfl,Rb.nil _ _,rfl,trivial⟩
@[reducible] def Ad (x:(List (Al×Aj))):Rp:=Mg (AF Au x)
theorem Dd (Z:Fz):(Ad ([]:(List (Al×Aj)))).p Z (.map none):=Ym _
theorem YT (parts:List (Nat×Value)):Tryz.prog.built 59 parts=Instr.fill (λi=>(#[(0,1),(1,1),(2,1),(3,1),(4,1)]:Array (Nat×Nat))[i]?) #[(.bool false),((.slice none 0 0)),((.map none)),((.map none)),((.slice none 0 0))] parts:=by kernel_rfl
theorem Nj {n:Nat}{c:Cx}{l:Fr}{H:List Ent}{d:Option Nat}{ty:TypeId}{pos:String}{af:Array Edge}{g:Option (Nat×Bool)}{x0:Operand}{r0:Rp}(h0:ev l x0=some r0)(u0:r0.one=true){x2:Operand}{r2:Rp}(h2:ev l x2=some r2)(u2:r2.one=true){x3:Operand}{r3:Rp}(h3:ev l x3=some r3)(u3:r3.one=true):B0 Tryz.prog n c l H { dst:=d,op:=.build 59 #[(0,x0),(2,x2),(3,x3)],type:=ty,pos:=pos,after:=af,guard:=g } (BQ [r0,rv (.slice none 0 0),r2,r3,rv (.slice none 0 0)]):=λa w Z ha _=>by
  have p0:=ha.ev h0;have c0:=B6 (r0.hone u0 Z _ p0);have p2:=ha.ev h2;have c2:=B6 (r2.hone u2 Z _ p2);have p3:=ha.ev h3;have c3:=B6 (r3.hone u3 Z _ p3);have hb:Tryz.prog.built 59 [(0,a.eval x0),(2,a.eval x2),(3,a.eval x3)]=some #[a.eval x0,((.slice none 0 0)),a.eval x2,a.eval x3,((.slice none 0 0))]:=by
    rw[YT];generalize a.eval x0=v0 at *;generalize a.eval x2=v2 at *;generalize a.eval x3=v3 at *;simp[Instr.fill,c0,c2,c3]
  refine⟨.agg #[a.eval x0,((.slice none 0 0)),a.eval x2,a.eval x3,((.slice none 0 0))],⟨[a.eval x0,((.slice none 0 0)),a.eval x2,a.eval x3,((.slice none 0 0))],rfl,p0,rfl,p2,p3,rfl,trivial⟩,?_⟩;have:=run_build w 59 #[(0,a.eval x0),(2,a.eval x2),(3,a.eval x3)] _ (by simpa using hb);simp[execOp,this]
theorem YQ (parts:List (Nat×Value)):Tryz.prog.built 90 parts=Instr.fill (λi=>(#[(0,1),(1,1)]:Array (Nat×Nat))[i]?) #[((.slice none 0 0)),(.int .i64 0)] parts:=by kernel_rfl
theorem KT {n:Nat}{c:Cx}{l:Fr}{H:List Ent}{d:Option Nat}{ty:TypeId}{pos:String}{af:Array Edge}{g:Option (Nat×Bool)}{x0:Operand}{r0:Rp}(h0:ev l x0=some r0)(u0:r0.one=true){x1:Operand}{r1:Rp}(h1:ev l x1=some r1)(u1:r1.one=true):B0 Tryz.prog n c l H { dst:=d,op:=.build 90 #[(0,x0),(1,x1)],type:=ty,pos:=pos,after:=af,guard:=g } (BQ [r0,r1]):=λa w Z ha _=>by
  have p0:=ha.ev h0;have c0:=B6 (r0.hone u0 Z _ p0);have p1:=ha.ev h1;have c1:=B6 (r1.hone u1 Z _ p1);have hb:Tryz.prog.built 90 [(0,a.eval x0),(1,a.eval x1)]=some #[a.eval x0,a.eval x1]:=by
    rw[YQ];generalize a.eval x0=v0 at *;generalize a.eval x1=v1 at *;simp[Instr.fill,c0,c1]
  refine⟨.agg #[a.eval x0,a.eval x1],⟨[a.eval x0,a.eval x1],rfl,p0,p1,trivial⟩,?_⟩;have:=run_build w 90 #[(0,a.eval x0),(1,a.eval x1)] _ (by simpa using hb);simp[execOp,this]
theorem V6 (ha:Value)(ys:(List Al))(r:(List Al))(h:QP ys=some r):Fn Tryz.prog GE 43 [rv ha] [.row ha 9 1 (A4 eS ys)] (λR H=>∃u0:Value,R=rv u0∧H=[.row u0 9 1 (A4 eS r),.row ha 9 1 (A4 eS ys)]):=by
 refine enter (n:=8) Tryz.func43 Aa Tryz.ntmps43 Aa (λw Z=>?_);unfold QP at h;refine Ak (wa Aa (Av (An (Ak (wm Aa (wv (r:=rBx (λb=>b=true→A4 eS ys=[])) (P8 0 Cn Aa Aa) (Av (NJ Aa (λc1=>?_) (λc1=>?_)))))))))
 ·have e2:ys=[]:=List.map_eq_nil_iff.1 (c1 rfl);have h3:some ([]:List Al)=some r:=by rw[e2] at h;exact(Sw h).2
  refine Ak (wa Aa (Av (A1 (Ae (WK.nilrow (e:=9) (sz:=1) ?_)))));obtain rfl:=A5 h3;exact A0 (BJ Tryz.results43 (AM Aa)) (sC (sC sN)) ⟨(.slice none 0 0         ),Aa,Aa⟩
 ·refine Ay (AP (Ak (Bb (ys:=([]:List Al)) (enc:=eS) (css:=[]) (xs:=[]) Cn Cv PW Aa Aa Aa trivial Aa CY Aa Aa Aa (λb4=>?_))));refine wm Aa (ck h λg6 h7=>Exists.elim MX λinf hinf=>Cb (xs:=([]:List Al)) (ys:=ys) (enc:=eS) (i:=0) Cn hinf.1 hinf.2.1 hinf.2.2.1 hinf.2.2.2 Aa Aa Aa Aa Aa (If.w (i:=1) Aa Aa) CY JT g6 Aa (λv5=>?_));refine wa Aa (Av (A1 ?_));obtain rfl:=A5 h7;exact A0 (BJ Tryz.results43 (AM Aa)) (sC (sC sN)) ⟨v5,Aa,Aa⟩
theorem V7 (ha:Value)(ys:(List A3))(r:(List A3))(h:QQ ys=some r):Fn Tryz.prog GE 71 [rv ha] [.row ha 67 8 (A4 Af ys)] (λR H=>∃u0:Value,R=rv u0∧H=[.row u0 67 8 (A4 Af r),.row ha 67 8 (A4 Af ys)]):=by
 refine enter (n:=8) Tryz.func71 Aa Tryz.ntmps71 Aa (λw Z=>?_);unfold QQ at h;refine Ak (wa Aa (Av (An (Ak (wm Aa (wv (r:=rBx (λb=>b=true→A4 Af ys=[])) (P8 0 EU Aa Aa) (Av (NJ Aa (λc1=>?_) (λc1=>?_)))))))))
 ·have e2:ys=[]:=List.map_eq_nil_iff.1 (c1 rfl);have h3:some ([]:List A3)=some r:=by rw[e2] at h;exact(Sw h).2
  refine Ak (wa Aa (Av (A1 (Ae (WK.nilrow (e:=67) (sz:=8) ?_)))));obtain rfl:=A5 h3;exact A0 (BJ Tryz.results71 (AM Aa)) (sC (sC sN)) ⟨(.slice none 0 0                                                                   ),Aa,Aa⟩
 ·refine Ay (AP (Ak (Bb (ys:=([]:List A3)) (enc:=Af) (css:=[]) (xs:=[]) EU J1 Us Aa Aa Aa trivial Aa C1 Aa Aa Aa (λb4=>?_))));refine wm Aa (ck h λg6 h7=>Exists.elim O8 λinf hinf=>Cb (xs:=([]:List A3)) (ys:=ys) (enc:=Af) (i:=0) EU hinf.1 hinf.2.1 hinf.2.2.1 hinf.2.2.2 Aa Aa Aa Aa Aa (If.w (i:=1) Aa Aa) C1 D8 g6 Aa (λv5=>?_));refine wa Aa (Av (A1 ?_));obtain rfl:=A5 h7;exact A0 (BJ Tryz.results71 (AM Aa)) (sC (sC sN)) ⟨v5,Aa,Aa⟩
theorem WN  (r:AR)(h:Yx=some r):Fn Tryz.prog GE 9 [] [] (λR H=>∃u0:Nat,∃u0_1:Value,∃u0_2:Nat,∃u0_3:Nat,∃u0_4:Value,R=rP u0 0∧H=[.blk u0 [rB r.fMade,rv u0_1,rv (.map (some u0_2)),rv (.map (some u0_3)),rv u0_4] 59,.row u0_1 9 1 (A4 eS r.fEvents),.map u0_2 (AF Ao r.fResults),.map u0_3 (AF Ad r.fKeys),.row u0_4 67 8 (A4 Af r.fPending)]):=by
 refine enter (n:=5) Tryz.func9 Aa Tryz.ntmps9 Aa (λw Z=>?_);unfold Yx at h;refine Ak (wa Aa (Bs (Kg Aa (λb1=>?_))));refine Kg Aa (λb2=>?_);refine wv (r:=BQ [rB true,rv (.slice none 0 0),rv (.map (some b1)),rv (.map (some b2)),rv (.slice none 0 0)]) (Nj Aa Aa Aa Aa Aa Aa) (C3 Aa Aa (λb3=>?_));refine wa Aa (Av (A1 (WK.nilrow (e:=9) (sz:=1) (WK.nilrow (e:=67) (sz:=8) (BU (H2:=[.blk b3 [rB true,rv (.slice none 0 0),rv (.map (some b1)),rv (.map (some b2)),rv (.slice none 0 0)] 59,.row (.slice none 0 0         ) 9 1 (A4 eS ([]:List Al)),.map b1 (AF Ao ([]:List (Al×(List Ac)))),.map b2 (AF Ad ([]:List (Al×(List (Al×Aj))))),.row (.slice none 0 0                                                                   ) 67 8 (A4 Af ([]:List A3))]) ((As (i:=2) Aa).trans (Abp _ ((As (i:=1) Aa).trans (Abp _ ((As (i:=2) Aa).trans (Abp _ ((As (i:=1) Aa).trans (Abp _ (Abq _))))))))) ?_)))));obtain rfl:=A5 h;exact A0 (BJ Tryz.results9 (AM Aa)) (sC (sC (sC (sC (sC sN))))) ⟨b3,(.slice none 0 0         ),b1,b2,(.slice none 0 0                                                                   ),Aa,Aa⟩
theorem RL  (r:Bool)(h:PA=some r):Fn Tryz.prog GE 40 [rv (.pointer none)] [] (λR H=>R=rB r∧H=[]):=by
 refine enter (n:=11) Tryz.func40 Aa Tryz.ntmps40 Aa (λw Z=>?_);unfold PA at h;refine Ak (wa Aa (Av (AH [(2,rB false)] [] ?_ ?_)))
 ·refine Ai (wm Aa (wv (r:=rB false) (RG ⟨_,Tryz.underlying24⟩ Aa) (wm Aa (wz Aa Aa (wz Aa Aa (wz Aa Aa (wz Aa Aa (wv (r:=rB false) (A8 (b:=false) Aa Aa Aa) (wa Aa (Am ?_))))))))));exact wt
 refine A1 ?_;obtain rfl:=A5 h;exact A0 (BJ Tryz.results40 (AM Aa)) sN ⟨Aa,Aa⟩
theorem G8 (ha:Nat)(hb:Value)(hd:Nat)(he:Nat)(hf:Value)(o:AR)(r:Bool)(h:Ib o=some r):Fn Tryz.prog GE 40 [rP ha 0] [.blk ha [rB o.fMade,rv hb,rv (.map (some hd)),rv (.map (some he)),rv hf] 59] (λR H=>R=rB r∧H=[.blk ha [rB o.fMade,rv hb,rv (.map (some hd)),rv (.map (some he)),rv hf] 59]):=by
 refine enter (n:=11) Tryz.func40 Aa Tryz.ntmps40 Aa (λw Z=>?_);unfold Ib at h;refine Ak (wa Aa (Av (AH [(2,rB o.fMade)] [.blk ha [rB o.fMade,rv hb,rv (.map (some hd)),rv (.map (some he)),rv hf] 59] ?_ ?_)))
 ·refine Ai (wm Aa (wv (r:=rB true) (UZ ⟨_,Tryz.underlying24⟩ Aa) (wm Aa (AE (b:=true) Aa Aa Aa (wm Aa (AE (b:=true) Aa Aa Aa (wv (AB Aa) (AE (b:=true) Aa Aa Aa (vF Gn Aa I9 (AE (b:=true) Aa Aa Aa (vL 0 U4 Aa (wv (r:=rB o.fMade) (A2 (b:=true) Aa Aa Aa) (wa Aa (Am ?_))))))))))))));exact wt
 refine A1 ?_;obtain rfl:=A5 h;exact A0 (BJ Tryz.results40 (AM Aa)) (sC sN) ⟨Aa,Aa⟩
theorem WP (F:Nat)(hd:Nat)(keys:(List (Al×Aj)))(l:(List Ar))(r:Int×(List (Al×Aj)))(h:Tf F keys l=some r):Fn Tryz.prog GE 65 [rv (.map (some hd)),AY 4 (A4 Ah l)] [.map hd (AF Au keys)] (λR H=>R=At r.1∧H=[.map hd (AF Au r.2)]):=by
 refine enter (n:=39) Tryz.func65 Aa Tryz.ntmps65 Aa (λw Z=>?_);unfold Tf at h;refine Ak (wa Aa (Av (An (Ak (wm Aa (wv (Bq (ys:=l) (enc:=Ah) EV Aa) (wv (r:=At 0) (Aq Aa) (Av (AJ (ob h λho hp hm=>Bu (S:=Nat×(Int×(List (Al×Aj)))×(Unit)) (V:=((List (Al×Aj)))×(Unit)) 0 (λσ=>Ci (λσ=>Ky l σ.1 σ.2) σ.1 σ.2.1=some ho) (λσ=>[(0,rv (.map (some hd))),(7,AY 4 (A4 Ah l)),(8,At (l.length:Int)),(9,At σ.2.1.1)]) (λσ=>[.map hd (AF Au σ.2.1.2)]) (λσ=>σ.1) (F,(0,keys),()) hp (AL.c Aa (AL.c Aa (AL.c Aa (AL.c Aa AL.nil)))) (sC sN) (λσ=>Kx σ.1=some r) (λσ=>[]) (λσ=>[.map hd (AF Au σ.1)]) ?_ ?_))))))))))
 ·rintro⟨hG,⟨ha,hb⟩,⟨⟩⟩ hq;refine BW (l':=[(0,rv (.map (some hd))),(7,AY 4 (A4 Ah l)),(8,At (l.length:Int)),(9,At ha)]) (H':=[.map hd (AF Au hb)]) Aa Aa ?_;obtain⟨hr,rfl,hj,hg,hk⟩:=C4 hq;replace hg:Ky l ha hb=some hj:=hg;unfold Ky at hg;refine Ak (wv (C0 Aa Aa) (Av (An (cz hg Aa (λhs ht=>?_) (λhs hu=>?_)))))
  ·refine Ay (AP (Dm (S:=((List (Al×Aj)))×(Unit)) (λσ=>Hd ha σ.1=some hj) (λσ=>[(0,rv (.map (some hd))),(7,AY 4 (A4 Ah l)),(8,At (l.length:Int)),(9,At ha)]) (λσ=>[.map hd (AF Au σ.1)]) ?_ ?_))
   ·refine AJ (Ak (ck ht λhw hx=>wv (By (enc:=Ah) (ys:=l) EV Dl Aa Aa hw) (wv (Di H9 Dl Aa Aa Aa) (Cc (cs:=[At 0,rS ([]:Al),rv (.slice none 0 0),At 0]) Lt Aa Aa (λhf=>?_)))));refine Br (i:=0) Dl Aa Aa Aa (Cq.c Aa) Aa Aa (cs':=[At ((Ap l ha).fKind),rS ((Ap l ha).fKey),AY 4 (A4 Ab ((Ap l ha).fValue)),At ((Ap l ha).fDelay)]) Aa (H':=[.blk hf (Ah (Ap l ha)) 65,.map hd (AF Au hb)]) Aa (Bs (vF BP Aa D4 (vL 0 D5 Aa (Av (AJ (Ak (wv (B5 Aa Aa) (wa Aa (Av (cz hx Aa (λhy hz=>?_) (λhy h0=>?_)))))))))))
    ·refine An (ob hz λhe h1 h2=>ck h2 λh3 h4=>Db 13 [0,6,7,8,9] [⟨[],rv (.map (some hd)),none,none,none⟩,⟨[],rP hf 1,none,none,none⟩,⟨[1],rS ((Ap l ha).fKey),none,none,none⟩,⟨[],rP hf 2,none,none,none⟩,⟨[3],AY 4 (A4 Ab ((Ap l ha).fValue)),none,none,none⟩,⟨[4],AY 4 (A4 Ab he),none,none,none⟩,⟨[],rv (.map (some hd)),none,none,none⟩,⟨[],rP hf 1,none,none,none⟩,⟨[7],rS ((Ap l ha).fKey),none,none,none⟩,⟨[6,8],BQ (Cf (BL hb ((Ap l ha).fKey) (Aj.mk ([]:(List Ac)) 0))),none,none,none⟩,⟨[9],At ((BL hb ((Ap l ha).fKey) (Aj.mk ([]:(List Ac)) 0)).fVersion),none,none,none⟩,⟨[10],At (((BL hb ((Ap l ha).fKey) (Aj.mk ([]:(List Ac)) 0)).fVersion)+1),none,none,none⟩,⟨[5,11],BQ [AY 4 (A4 Ab he),At (((BL hb ((Ap l ha).fKey) (Aj.mk ([]:(List Ac)) 0)).fVersion)+1)],none,none,none⟩] ?_ (λβ=>?_))
     ·refine CL (Aq Aa) (CL (A9 BP Aa Cv Aa Aa) (Gi (AT (i:=0) CD Aa Aa Aa) (CL (A9 BP Aa C5 Aa Aa) (Gi (AT (i:=0) Dt Aa Aa Aa) (KS (Em SD (H4 ((Ap l ha).fValue) he h1) Aa) (CL (Aq Aa) (CL (A9 BP Aa Cv Aa Aa) (Gi (AT (i:=0) CD Aa Aa Aa) (Gi (Mx (enc:=Au) (xs:=hb) (z:=Aj.mk ([]:(List Ac)) 0) (i:=1) Lu Cu Ur Ga Aa Aa Aa) (CL (TR XP Aa CM Aa Aa) (CL (Bz Aa Aa h3) (CL (KT Aa Aa Aa Aa) ?_))))))))))));exact Pb
     refine Dg (H1:=[.blk hf (Ah (Ap l ha)) 65,.map hd (AF Au hb)]) [17,18,19,20,21,22,23,24,25,26,27,28,29,0,6,7,8,9] ?_;refine HD (enc:=Au) (xs:=hb) (v:=(Aj.mk he (((BL hb ((Ap l ha).fKey) (Aj.mk ([]:(List Ac)) 0)).fVersion)+1))) (i:=1) Lu Cu Aa Aa Aa Aa (H':=[.blk hf (Ah (Ap l ha)) 65,.map hd (AF Au (mset hb ((Ap l ha).fKey) (Aj.mk he (((BL hb ((Ap l ha).fKey) (Aj.mk ([]:(List Ac)) 0)).fVersion)+1))))]) Aa (Bs (wm Aa (wv (r:=At ((mset hb ((Ap l ha).fKey) (Aj.mk he (((BL hb ((Ap l ha).fKey) (Aj.mk ([]:(List Ac)) 0)).fVersion)+1))).length:Int)) (WD (N:=(mset hb ((Ap l ha).fKey) (Aj.mk he (((BL hb ((Ap l ha).fKey) (Aj.mk ([]:(List Ac)) 0)).fVersion)+1))).length) (i:=1) Lu Aa Aa (GC _ _)) (wv (CI Aa Aa) (Av (cz h4 Aa (λh5 h6=>?_) (λh5 h7=>?_)))))))
     ·refine Ak (wa Aa (Av (A1 (AC (AC (Ae (Ae (Bj ?_))))))));have h8:=BB h6 hk hm;refine AC (Ae ?_);obtain rfl:=A5 h8;exact A0 (BJ XR (AM Aa)) (sS (sC sN)) ⟨Aa,Aa⟩
     ·exact Ay (AG (AG (Aw (AI (mset hb ((Ap l ha).fKey) (Aj.mk he (((BL hb ((Ap l ha).fKey) (Aj.mk ([]:(List Ac)) 0)).fVersion)+1)),()) h7 (AL.c Aa (AL.c Aa (AL.c Aa (AL.c Aa AL.nil)))) (sS (sC sN))))))
    ·refine Ak (wv (B5 Aa Aa) (wa Aa (Av (cz h0 Aa (λc171 h9=>?_) (λc171 hA=>?_)))))
     ·exact Ai (wm Aa (vF BP Aa Cv (vL 0 CD Aa (TA (enc:=Au) (xs:=hb) (i:=1) Lu Cu Aa Aa Aa (H':=[.blk hf (Ah (Ap l ha)) 65,.map hd (AF Au (mdel hb ((Ap l ha).fKey)))]) Aa (Am (AG (AG (Aw (AI (mdel hb ((Ap l ha).fKey),()) h9 (AL.c Aa (AL.c Aa (AL.c Aa (AL.c Aa AL.nil)))) (sS (sC sN)))))))))))
     ·exact Ay (AG (AG (Aw (AI (hb,()) hA (AL.c Aa (AL.c Aa (AL.c Aa (AL.c Aa AL.nil)))) (sS (sC sN))))))
   ·rintro⟨hl,⟨⟩⟩ hh;refine BW (l':=[(0,rv (.map (some hd))),(7,AY 4 (A4 Ah l)),(8,At (l.length:Int)),(9,At ha)]) (H':=[.map hd (AF Au hl)]) Aa Aa ?_;replace hh:Hd ha hl=some hj:=hh;unfold Hd at hh;refine Ai (ck hh λhB hC=>wv (Bz Aa Aa hB) (wm Aa (Am ?_)));have hD:=Bk hC hk;exact Aw (AI (hr,(ha+1,hl),()) ⟨hD,Aby _⟩ (AL.c Aa (AL.c Aa (AL.c Aa (AL.c Aa AL.nil)))) (sC sN))
  ·refine Bx (A6 ?_);have hE:=BX hu hk hm;exact A6 (Be (AI (hb,()) hE AL.nil (sC sN)))
 ·rintro⟨hn,⟨⟩⟩ hi;refine Cy (l':=[]) (H':=[.map hd (AF Au hn)]) Aa Aa ?_;replace hi:Kx hn=some r:=hi;unfold Kx at hi;refine Bc (AP (Ak (wa Aa (Av (A1 ?_)))));obtain rfl:=A5 hi;exact A0 (BJ XR (AM Aa)) (sC sN) ⟨Aa,Aa⟩
theorem Yy (ha:Nat)(x:A3)(id:Al)(r:Bool)(h:WR x id=some r):Fn Tryz.prog GE 69 [BQ (Af x),rP ha 0] [.blk ha [rS id] 9] (λR H=>R=rB r∧H=[.blk ha [rS id] 9]):=by
 refine enter (n:=8) Tryz.func69 Aa Tryz.ntmps69 Aa (λw Z=>?_);unfold WR at h;refine Ak (C3 Aa Aa (λb1=>?_));refine wa Aa (Bs (vF SA Aa Cv (vL 0 CD Aa (vL 1 CD Aa (wv (EZ Aa Aa) (wa Aa (Av (A1 ?_))))))));obtain rfl:=A5 h;exact A0 (BJ Tryz.results69 (AM Aa)) (sS (sC sN)) ⟨Aa,Aa⟩
theorem Xn (F:Nat)(hb:Value)(hd:Nat)(ys:(List A3))(id:Al)(r:Int)(h:Tm F ys id=some r):Fn Tryz.prog GE 68 [rv hb,rv (.func (.func 69) #[] #[(.pointer (some ⟨hd,0,none⟩))])] [.row hb 67 8 (A4 Af ys),.blk hd [rS id] 9] (λR H=>R=At r∧H=[.row hb 67 8 (A4 Af ys),.blk hd [rS id] 9]):=by
 refine enter (n:=19) Tryz.func68 Aa Tryz.ntmps68 Aa (λw Z=>?_);unfold Tm at h;refine Ak (wa Aa (Av (An (Ak (wm Aa (wv (Ch (ys:=ys) (enc:=Af) (i:=0) EU Aa Aa) (wv (r:=At 0) (Aq Aa) (Av (AJ (ob h λhj hk hh=>Bu (S:=Nat×(Int)×(Unit)) (V:=(Unit)×(Unit)) 0 (λσ=>Ci (λσ=>K6 ys id σ) σ.1 σ.2.1=some hj) (λσ=>[(0,rv hb),(1,rv (.func (.func 69) #[] #[(.pointer (some ⟨hd,0,none⟩))])),(7,At (ys.length:Int)),(8,At σ.2.1)]) (λσ=>[.row hb 67 8 (A4 Af ys),.blk hd [rS id] 9]) (λσ=>σ.1) (F,0,()) hk (AL.c Aa (AL.c Aa (AL.c Aa (AL.c Aa AL.nil)))) (sC (sC sN)) (λσ=>K5 =some r) (λσ=>[]) (λσ=>[.row hb 67 8 (A4 Af ys),.blk hd [rS id] 9]) ?_ ?_))))))))))
 ·rintro⟨h4,ha,⟨⟩⟩ hl;refine BW (l':=[(0,rv hb),(1,rv (.func (.func 69) #[] #[(.pointer (some ⟨hd,0,none⟩))])),(7,At (ys.length:Int)),(8,At ha)]) (H':=[.row hb 67 8 (A4 Af ys),.blk hd [rS id] 9]) Aa Aa ?_;obtain⟨hm,rfl,hn,he,hg⟩:=C4 hl;replace he:K6 ys id ha=some hn:=he;unfold K6 at he;refine Ak (wv (C0 Aa Aa) (Av (An (cz he Aa (λho hp=>?_) (λho hq=>?_)))))
  ·refine Ay (AP (An (AJ (Ak (wm Aa (wa Aa (Bs (wm Aa (wm Aa (wm Aa (ck hp λhi hr=>wv (r:=rv (E1 8 hb (B4 ha) 0)) (En (i:=0) EU J1 Aa Aa Aa (BO hi)) (wv (r:=BQ [rS ((Ap ys ha).fID),rS ((Ap ys ha).fTenant),rS ((Ap ys ha).fCause),At ((Ap ys ha).fAt),At (((Ap ys ha).fEffect).fKind),rS (((Ap ys ha).fEffect).fKey),AY 4 (A4 Ab (((Ap ys ha).fEffect).fValue)),At (((Ap ys ha).fEffect).fDelay)]) (Ks (enc:=Af) (ys:=ys) (i:=0) (j:=ha) Tryz.isAgg67 J1 Aa Aa hi Aa Aa) (ob hr λhs ht hu=>Qc (rs:=[BQ [rS ((Ap ys ha).fID),rS ((Ap ys ha).fTenant),rS ((Ap ys ha).fCause),At ((Ap ys ha).fAt),At (((Ap ys ha).fEffect).fKind),rS (((Ap ys ha).fEffect).fKey),AY 4 (A4 Ab (((Ap ys ha).fEffect).fValue)),At (((Ap ys ha).fEffect).fDelay)]]) (Hin:=[.blk hd [rS id] 9]) (Hr:=[.row hb 67 8 (A4 Af ys)]) Tryz.call69 Aa Aa ((As (i:=1) Aa).trans (Abp _ (Abq _))) (Yy hd (A3.mk ((Ap ys ha).fID) ((Ap ys ha).fTenant) ((Ap ys ha).fCause) ((Ap ys ha).fAt) ((Ap ys ha).fEffect)) id hs ht) Aa ?_)))))))))))));rintro _ _ ⟨rfl,rfl⟩;refine Av (cz hu Aa (λhw hx=>?_) (λhw hy=>?_))
   ·refine Ak (wm Aa (wa Aa (Av (A1 (AC (Ae (Ae (Bj ?_))))))));have hz:=BB hx hg hh;refine AC (Ae (BU (H2:=[.row hb 67 8 (A4 Af ys),.blk hd [rS id] 9]) ((As (i:=1) Aa).trans (Abp _ (Abq _))) ?_));obtain rfl:=A5 hz;exact A0 (BJ Tryz.results68 (AM Aa)) (sC (sC sN)) ⟨Aa,Aa⟩
   ·refine Ay (AG (AP (Ai (ck hy λh0 h1=>wv (Bz Aa Aa h0) (wm Aa (Am (BU (H2:=[.row hb 67 8 (A4 Af ys),.blk hd [rS id] 9]) ((As (i:=1) Aa).trans (Abp _ (Abq _))) ?_)))))));have h2:=Bk h1 hg;exact Aw (AI (hm,ha+1,()) ⟨h2,Aby _⟩ (AL.c Aa (AL.c Aa (AL.c Aa (AL.c Aa AL.nil)))) (sC (sC sN)))
  ·refine Bx (A6 ?_);have h3:=BX hq hg hh;exact A6 (Be (AI ((),()) h3 AL.nil (sC (sC sN))))
 ·rintro⟨⟨⟩,⟨⟩⟩ hf;refine Cy (l':=[]) (H':=[.row hb 67 8 (A4 Af ys),.blk hd [rS id] 9]) Aa Aa ?_;replace hf:K5 =some r:=hf;unfold K5 at hf;refine Bc (AP (Ak (wv (r:=At (-1)) (Az Aa) (Av (A1 ?_)))));obtain rfl:=A5 hf;exact A0 (BJ Tryz.results68 (AM Aa)) (sC (sC sN)) ⟨Aa,Aa⟩
theorem V2 (ha:Value)(ys:(List A3))(i:Int)(j:Int)(r:(List A3))(h:QN ys i j=some r):Fn Tryz.prog GE 70 [rv ha,At i,At j] [.row ha 67 8 (A4 Af ys)] (λR H=>∃u0:Value,R=rv u0∧H=[.row u0 67 8 (A4 Af r)]):=by
 refine enter (n:=33) Tryz.func70 Aa Tryz.ntmps70 Aa (λw Z=>?_);unfold QN at h;refine Ak (wa Aa (Bs (wm Aa (wm Aa (wm Aa (wm Aa (wv (Ch (ys:=ys) (enc:=Af) (i:=0) EU Aa Aa) (ck h λg1 h2=>ck h2 λg3 h4=>ck h4 λg5 h6=>wv (r:=Aak) (Q0 (i:=0) EU J1 Aa Aa Aa Aa Aa g1 g3 g5) (Av (An (Ak (wm Aa (wm Aa (wv (B5 Aa Aa) (Av (cz h6 Aa (λc7 h8=>?_) (λc7 h9=>?_)))))))))))))))))
 ·refine Ak (wm Aa (wa Aa (Av (A1 (Ae ?_)))));obtain rfl:=A5 h8;exact A0 (BJ Tryz.results70 (AM Aa)) (sC sN) ⟨ha,Aa,Aa⟩
 ·refine Ay (AP (Ak (wm Aa (wv (Ch (ys:=ys) (enc:=Af) (i:=0) EU Aa Aa) (wa Aa (Av (An (ck h9 λhd he=>Db 6 [0,1,2,7] [⟨[],rv ha,none,none,none⟩,⟨[],At i,none,none,none⟩,⟨[0,1],rv (II ha (B4 i)),none,none,none⟩,⟨[],rv ha,none,none,none⟩,⟨[],At j,none,none,none⟩,⟨[3,4],rv (Im 8 ha (B4 j)),none,none,none⟩] ?_ (λβ=>?_)))))))))
  ·refine CL (Aq Aa) (CL (Aq Aa) (Gi (Z4 (i:=0) EU J1 Aa Aa Aa hd) (CL (Aq Aa) (CL (Aq Aa) (Gi (Z2 (i:=0) EU J1 Aa Aa Aa g3) ?_)))));exact Pb
  refine Dg (H1:=[.row ha 67 8 (A4 Af ys)]) [20,21,22,23,24,25,0,1,2,7] ?_;obtain⟨_,hinf12⟩:=O8;refine XW (ys:=ys) (enc:=Af) (i:=0) (a0:=i) (b0:=j) EU hinf12.1 hinf12.2.2.1 Aa Aa Aa Aa C1 D8 g1 g3 Aa (wa Aa (Bs (wm Aa (wm Aa (wv (r:=At ((B4 i+(ys.length-B4 j):Nat):Int)) (WG (i:=0) (k:=B4 i+(ys.length-B4 j)) (ys:=List.take (B4 i) ys++List.drop (B4 j) ys++List.drop (B4 i+(ys.length-B4 j)) ys) (enc:=Af) EU Aa (Rv g1 g3) Aa) (wm Aa (ck he λhb hf=>wv (r:=rv (Im 8 ha (B4 ((B4 i+(ys.length-B4 j):Nat):Int)))) (WI (i:=0) (k:=B4 i+(ys.length-B4 j)) (ys:=List.take (B4 i) ys++List.drop (B4 j) ys++List.drop (B4 i+(ys.length-B4 j)) ys) (enc:=Af) EU J1 Aa Aa Aa Aa (Yd g1 g3) hb) (Qe (ys:=List.take (B4 i) ys++List.drop (B4 j) ys++List.drop (B4 i+(ys.length-B4 j)) ys) (enc:=Af) (i:=0) (z0:=A3.mk ([]:Al) ([]:Al) ([]:Al) 0 (Ar.mk 0 ([]:Al) ([]:(List Ac)) 0)) EU Us Aa Aa Aa (by decide) (λZ=>⟨Aa,Aa,Aa,Aa,Aa,Aa,Rb.nil _ _,Aa,trivial⟩) Aa Aa Aa (Ye g1 g3 hb) (H':=[.row ha 67 8 (A4 Af (List.take (B4 ((B4 i+(ys.length-B4 j):Nat):Int)) (List.take (B4 i) ys++List.drop (B4 j) ys++List.drop (B4 i+(ys.length-B4 j)) ys)++List.replicate ((List.take (B4 i) ys++List.drop (B4 j) ys++List.drop (B4 i+(ys.length-B4 j)) ys).length-B4 ((B4 i+(ys.length-B4 j):Nat):Int)) (A3.mk ([]:Al) ([]:Al) ([]:Al) 0 (Ar.mk 0 ([]:Al) ([]:(List Ac)) 0))))]) Aa (Bs (wm Aa (wa Aa (Av (A1 (WK.cut (ys:=List.take (B4 ((B4 i+(ys.length-B4 j):Nat):Int)) (List.take (B4 i) ys++List.drop (B4 j) ys++List.drop (B4 i+(ys.length-B4 j)) ys)++List.replicate ((List.take (B4 i) ys++List.drop (B4 j) ys++List.drop (B4 i+(ys.length-B4 j)) ys).length-B4 ((B4 i+(ys.length-B4 j):Nat):Int)) (A3.mk ([]:Al) ([]:Al) ([]:Al) 0 (Ar.mk 0 ([]:Al) ([]:(List Ac)) 0))) (enc:=Af) 0 (B4 i+(ys.length-B4 j)) Aa (ZP (Rv g1 g3)) ?_))))))))))))));obtain rfl:=A5 hf;exact A0 (BJ Tryz.results70 (AM Aa)) (sC sN) ⟨(II ha (B4 i+(ys.length-B4 j))),Aa,Aa⟩
theorem Vb (hf:Nat)(ha:Value)(hb:Nat)(hd:Nat)(he:Value)(o:AR)(event:Al)(r:(List Ac)×Bool)(h:Q3 o event=some r):Fn Tryz.prog GE 13 [rP hf 0,rS event] [.blk hf [rB o.fMade,rv ha,rv (.map (some hb)),rv (.map (some hd)),rv he] 59,.row ha 9 1 (A4 eS o.fEvents),.map hb (AF Ao o.fResults),.map hd (AF Ad o.fKeys),.row he 67 8 (A4 Af o.fPending)] (λR H=>R=C7 [AY 4 (A4 Ab r.1),rB r.2]∧H=[.blk hf [rB o.fMade,rv ha,rv (.map (some hb)),rv (.map (some hd)),rv he] 59,.row ha 9 1 (A4 eS o.fEvents),.map hb (AF Ao o.fResults),.map hd (AF Ad o.fKeys),.row he 67 8 (A4 Af o.fPending)]):=by
 refine enter (n:=23) Tryz.func13 Aa Tryz.ntmps13 Aa (λw Z=>?_);unfold Q3 at h;refine Ak (wa Aa (wa Aa (Av (An (Ak (wm Aa (ob h λr1 e3 h2=>DX (Hr:=[.row ha 9 1 (A4 eS o.fEvents),.map hb (AF Ao o.fResults),.map hd (AF Ad o.fKeys),.row he 67 8 (A4 Af o.fPending)]) PY (G8 hf ha hb hd he o r1 e3) Aa (Abq _) Aa ?_)))))));rintro _ _ ⟨rfl,rfl⟩;refine wv (BE Aa) (Av (cz h2 Aa (λc4 h5=>?_) (λc4 h6=>?_)))
 ·refine Ak (wa Aa (wa Aa (Av (A1 (Ae (WK.up (d:=4) (r:=AY 4 (A4 Ab ([]:List Ac))) Aa (Up.le (KZ.nil _)) ?_))))));obtain rfl:=A5 h5;exact A0 (DJ Tryz.results13 (AM Aa) (AM Aa)) (sC (sC (sC (sC (sC sN))))) ⟨Aa,Aa⟩
 ·refine Ay (AP (Ak (wm Aa (wv (AB Aa) (vF Gn Aa VN (vL 0 VV Aa (wm Aa (wv (r:=C7 [AY 4 (A4 Ab (BL o.fResults event ([]:(List Ac)))),rB (Gj o.fResults event)]) (Q1 (enc:=Ao) (xs:=o.fResults) (z:=([]:(List Ac))) (i:=2) VL Cu Zm Gy Aa Aa Aa) (wm Aa (wv (AA Aa Aa) (wv (AA Aa Aa) (wa Aa (wa Aa (Bs (wm Aa (ob h6 λr7 e9 h8=>CG SD (H4 (BL o.fResults event ([]:(List Ac))) r7 e9) Aa (wm Aa (wa Aa (wa Aa (Av (A1 ?_)))))))))))))))))))));obtain rfl:=A5 h8;exact A0 (DJ Tryz.results13 (AM Aa) (AM Aa)) (sC (sC (sC (sC (sC sN))))) ⟨Aa,Aa⟩
theorem Ll (F:Nat)(hh:Nat)(hd:Value)(he:Nat)(hf:Nat)(hb:Value)(o:AR)(r:(List A3))(h:JO F o=some r):Fn Tryz.prog GE 20 [rP hh 0] [.blk hh [rB o.fMade,rv hd,rv (.map (some he)),rv (.map (some hf)),rv hb] 59,.row hd 9 1 (A4 eS o.fEvents),.map he (AF Ao o.fResults),.map hf (AF Ad o.fKeys),.row hb 67 8 (A4 Af o.fPending)] (λR H=>R=AY 8 (A4 Af r)∧H=[.blk hh [rB o.fMade,rv hd,rv (.map (some he)),rv (.map (some hf)),rv hb] 59,.row hd 9 1 (A4 eS o.fEvents),.map he (AF Ao o.fResults),.map hf (AF Ad o.fKeys),.row hb 67 8 (A4 Af o.fPending)]):=by
 refine enter (n:=28) Tryz.func20 Aa Tryz.ntmps20 Aa (λw Z=>?_);unfold JO at h;refine Ak (wa Aa (Av (An (Ak (wm Aa (ob h λr1 e3 h2=>DX (Hr:=[.row hd 9 1 (A4 eS o.fEvents),.map he (AF Ao o.fResults),.map hf (AF Ad o.fKeys),.row hb 67 8 (A4 Af o.fPending)]) PY (G8 hh hd he hf hb o r1 e3) Aa (Abq _) Aa ?_))))));rintro _ _ ⟨rfl,rfl⟩;refine wv (BE Aa) (Av (cz h2 Aa (λc4 h5=>?_) (λc4 h6=>?_)))
 ·refine Ak (wa Aa (Av (A1 (Ae (WK.up (d:=2) (r:=AY 8 (A4 Af ([]:List A3))) Aa (Up.le (KZ.nil _)) ?_)))));obtain rfl:=A5 h5;exact A0 (BJ Tryz.results20 (AM Aa)) (sC (sC (sC (sC (sC sN))))) ⟨Aa,Aa⟩
 ·refine Ay (AP (Ak (wa Aa (Av (An (Ak (wm Aa (wv (AB Aa) (vF Gn Aa NC (vL 0 SE Aa (wv (Ch (ys:=o.fPending) (enc:=Af) (i:=4) EU Aa Aa) (wv (r:=At 0) (Aq Aa) (Av (AJ (WC.nilrow (e:=67) (sz:=8) (GO (H2:=[.blk hh [rB o.fMade,rv hd,rv (.map (some he)),rv (.map (some hf)),rv hb] 59,.row hd 9 1 (A4 eS o.fEvents),.map he (AF Ao o.fResults),.map hf (AF Ad o.fKeys),.row hb 67 8 (A4 Af o.fPending),.row (.slice none 0 0                                                                   ) 67 8 (A4 Af ([]:List A3))]) ((As (i:=1) Aa).trans (Abp _ ((As (i:=1) Aa).trans (Abp _ ((As (i:=1) Aa).trans (Abp _ ((As (i:=1) Aa).trans (Abp _ ((As (i:=1) Aa).trans (Abp _ (Abq _))))))))))) (ob h6 λhr hs ht=>Bu (S:=Nat×((List A3)×Int)×(Value)) (V:=((List A3))×(Value)) 0 (λσ=>Ci (λσ=>HI o σ.1 σ.2) σ.1 σ.2.1=some hr) (λσ=>[(3,rv σ.2.2),(12,rv hb),(13,At (o.fPending.length:Int)),(14,At σ.2.1.2)]) (λσ=>[.blk hh [rB o.fMade,rv hd,rv (.map (some he)),rv (.map (some hf)),rv hb] 59,.row hd 9 1 (A4 eS o.fEvents),.map he (AF Ao o.fResults),.map hf (AF Ad o.fKeys),.row hb 67 8 (A4 Af o.fPending),.row σ.2.2 67 8 (A4 Af σ.2.1.1)]) (λσ=>σ.1) (F,(([]:List A3),0),(.slice none 0 0                                                                   )) hs (AL.c Aa (AL.c Aa (AL.c Aa (AL.c Aa AL.nil)))) (sC (sC (sC (sC (sC (sC sN)))))) (λσ=>HH σ.1=some r) (λσ=>[(3,rv σ.2)]) (λσ=>[.blk hh [rB o.fMade,rv hd,rv (.map (some he)),rv (.map (some hf)),rv hb] 59,.row hd 9 1 (A4 eS o.fEvents),.map he (AF Ao o.fResults),.map hf (AF Ad o.fKeys),.row hb 67 8 (A4 Af o.fPending),.row σ.2 67 8 (A4 Af σ.1)]) ?_ ?_)))))))))))))))))
  ·rintro⟨hE,⟨hi,ha⟩,hj⟩ hu;refine BW (l':=[(3,rv hj),(12,rv hb),(13,At (o.fPending.length:Int)),(14,At ha)]) (H':=[.blk hh [rB o.fMade,rv hd,rv (.map (some he)),rv (.map (some hf)),rv hb] 59,.row hd 9 1 (A4 eS o.fEvents),.map he (AF Ao o.fResults),.map hf (AF Ad o.fKeys),.row hb 67 8 (A4 Af o.fPending),.row hj 67 8 (A4 Af hi)]) Aa Aa ?_;obtain⟨hw,rfl,hx,hk,ho⟩:=C4 hu;replace hk:HI o hi ha=some hx:=hk;unfold HI at hk;refine Ak (wv (C0 Aa Aa) (Av (An (cz hk Aa (λhy hz=>?_) (λhy h0=>?_)))))
   ·refine Ay (AP (An (AJ (Ak (ck hz λhp h1=>wv (r:=rv (E1 8 hb (B4 ha) 0)) (En (i:=4) EU J1 Aa Aa Aa (BO hp)) (wv (r:=BQ [rS ((Ap o.fPending ha).fID),rS ((Ap o.fPending ha).fTenant),rS ((Ap o.fPending ha).fCause),At ((Ap o.fPending ha).fAt),At (((Ap o.fPending ha).fEffect).fKind),rS (((Ap o.fPending ha).fEffect).fKey),AY 4 (A4 Ab (((Ap o.fPending ha).fEffect).fValue)),At (((Ap o.fPending ha).fEffect).fDelay)]) (Ks (enc:=Af) (ys:=o.fPending) (i:=4) (j:=ha) Tryz.isAgg67 J1 Aa Aa hp Aa Aa) (Cc (cs:=[rS ([]:Al),rS ([]:Al),rS ([]:Al),At 0,At 0,rS ([]:Al),rv (.slice none 0 0),At 0]) Us Aa Aa (λhm=>?_))))))));refine Br (i:=0) J1 Aa Aa Aa (Cq.c Aa) Aa Aa (cs':=[rS ((Ap o.fPending ha).fID),rS ((Ap o.fPending ha).fTenant),rS ((Ap o.fPending ha).fCause),At ((Ap o.fPending ha).fAt),At (((Ap o.fPending ha).fEffect).fKind),rS (((Ap o.fPending ha).fEffect).fKey),AY 4 (A4 Ab (((Ap o.fPending ha).fEffect).fValue)),At (((Ap o.fPending ha).fEffect).fDelay)]) Aa (H':=[.blk hm [rS ((Ap o.fPending ha).fID),rS ((Ap o.fPending ha).fTenant),rS ((Ap o.fPending ha).fCause),At ((Ap o.fPending ha).fAt),At (((Ap o.fPending ha).fEffect).fKind),rS (((Ap o.fPending ha).fEffect).fKey),AY 4 (A4 Ab (((Ap o.fPending ha).fEffect).fValue)),At (((Ap o.fPending ha).fEffect).fDelay)] 67,.blk hh [rB o.fMade,rv hd,rv (.map (some he)),rv (.map (some hf)),rv hb] 59,.row hd 9 1 (A4 eS o.fEvents),.map he (AF Ao o.fResults),.map hf (AF Ad o.fKeys),.row hb 67 8 (A4 Af o.fPending),.row hj 67 8 (A4 Af hi)]) Aa (Bs (vF SA Aa Dl (wv (Bf (i:=0) H9 Dl Aa Aa Aa Aa) (ob h1 λhg h3 h4=>CG Tryz.call44 (Tb ((Ap o.fPending ha).fEffect) hg h3) Aa (vF SA Aa Dl (Br (i:=0) Dl Aa Aa Aa (Cq.c Aa) Aa Aa (cs':=[rS ((Ap o.fPending ha).fID),rS ((Ap o.fPending ha).fTenant),rS ((Ap o.fPending ha).fCause),At ((Ap o.fPending ha).fAt),At hg.fKind,rS hg.fKey,AY 4 (A4 Ab hg.fValue),At hg.fDelay]) Aa (H':=[.blk hm [rS ((Ap o.fPending ha).fID),rS ((Ap o.fPending ha).fTenant),rS ((Ap o.fPending ha).fCause),At ((Ap o.fPending ha).fAt),At hg.fKind,rS hg.fKey,AY 4 (A4 Ab hg.fValue),At hg.fDelay] 67,.blk hh [rB o.fMade,rv hd,rv (.map (some he)),rv (.map (some hf)),rv hb] 59,.row hd 9 1 (A4 eS o.fEvents),.map he (AF Ao o.fResults),.map hf (AF Ad o.fKeys),.row hb 67 8 (A4 Af o.fPending),.row hj 67 8 (A4 Af hi)]) Aa (Av (Ai (wm Aa (wv (Bf (i:=0) Tryz.isAgg67 J1 Aa Aa Aa Aa) (Bb (ys:=([(A3.mk ((Ap o.fPending ha).fID) ((Ap o.fPending ha).fTenant) ((Ap o.fPending ha).fCause) ((Ap o.fPending ha).fAt) hg)]:List A3)) (enc:=Af) (css:=[[rS ((Ap o.fPending ha).fID),rS ((Ap o.fPending ha).fTenant),rS ((Ap o.fPending ha).fCause),At ((Ap o.fPending ha).fAt),At hg.fKind,rS hg.fKey,AY 4 (A4 Ab hg.fValue),At hg.fDelay]]) (xs:=[.tmp 23]) EU J1 Us Aa Aa Aa ⟨D1.agg ⟨Up.refl _,Up.refl _,Up.refl _,Up.refl _,Up.refl _,Up.refl _,Up.refl _,Up.refl _,trivial⟩,trivial⟩ Aa C1 Aa Aa Aa (λh7=>?_))))))))))));refine ck h4 λh8 h9=>Exists.elim O8 λinf hinf=>Cb (xs:=hi) (ys:=([(A3.mk ((Ap o.fPending ha).fID) ((Ap o.fPending ha).fTenant) ((Ap o.fPending ha).fCause) ((Ap o.fPending ha).fAt) hg)]:List A3)) (enc:=Af) (i:=7) EU hinf.1 hinf.2.1 hinf.2.2.1 hinf.2.2.2 Aa Aa Aa Aa Aa (If.w (i:=0) Aa Aa) C1 D8 h8 Aa (λv76=>?_);refine wa Aa (Am (AG (AP (Ai (ck h9 λhA hB=>wv (Bz Aa Aa hA) (wm Aa (Am (BU (H2:=[.blk hh [rB o.fMade,rv hd,rv (.map (some he)),rv (.map (some hf)),rv hb] 59,.row hd 9 1 (A4 eS o.fEvents),.map he (AF Ao o.fResults),.map hf (AF Ad o.fKeys),.row hb 67 8 (A4 Af o.fPending),.row v76 67 8 (A4 Af (hi++([(A3.mk ((Ap o.fPending ha).fID) ((Ap o.fPending ha).fTenant) ((Ap o.fPending ha).fCause) ((Ap o.fPending ha).fAt) hg)]:List A3))),.row (.slice (some ⟨h7,0,none⟩) 1 1) 67 8 (A4 Af ([(A3.mk ((Ap o.fPending ha).fID) ((Ap o.fPending ha).fTenant) ((Ap o.fPending ha).fCause) ((Ap o.fPending ha).fAt) hg)]:List A3)),.blk hm [rS ((Ap o.fPending ha).fID),rS ((Ap o.fPending ha).fTenant),rS ((Ap o.fPending ha).fCause),At ((Ap o.fPending ha).fAt),At hg.fKind,rS hg.fKey,AY 4 (A4 Ab hg.fValue),At hg.fDelay] 67]) ((As (i:=3) Aa).trans (Abp _ ((As (i:=3) Aa).trans (Abp _ ((As (i:=3) Aa).trans (Abp _ ((As (i:=3) Aa).trans (Abp _ ((As (i:=3) Aa).trans (Abp _ (Abq _))))))))))) ?_))))))));have hC:=Bk hB ho;exact Aw (AI (hw,(hi++([(A3.mk ((Ap o.fPending ha).fID) ((Ap o.fPending ha).fTenant) ((Ap o.fPending ha).fCause) ((Ap o.fPending ha).fAt) hg)]:List A3),ha+1),v76) ⟨hC,Aby _⟩ (AL.c Aa (AL.c Aa (AL.c Aa (AL.c Aa AL.nil)))) (sC (sC (sC (sC (sC (sC (sS (sS sN)))))))))
   ·refine Bx (A6 ?_);have hD:=BX h0 ho ht;exact A6 (Be (AI (hi,hj) hD (AL.c Aa AL.nil) (sC (sC (sC (sC (sC (sC sN))))))))
  ·rintro⟨hn,hq⟩ hl;refine Cy (l':=[(3,rv hq)]) (H':=[.blk hh [rB o.fMade,rv hd,rv (.map (some he)),rv (.map (some hf)),rv hb] 59,.row hd 9 1 (A4 eS o.fEvents),.map he (AF Ao o.fResults),.map hf (AF Ad o.fKeys),.row hb 67 8 (A4 Af o.fPending),.row hq 67 8 (A4 Af hn)]) Aa Aa ?_;replace hl:HH hn=some r:=hl;unfold HH at hl;refine Bc (AP (Ak (wm Aa (wa Aa (Av (A1 (WK.freeze (i:=5) Aa (WK.up (d:=2) (r:=AY 8 (A4 Af hn)) Aa (Up.fact (i:=0) Aa) ?_))))))));obtain rfl:=A5 hl;exact A0 (BJ Tryz.results20 (AM Aa)) (sS (sC (sC (sC (sC (sC sN)))))) ⟨Aa,Aa⟩
theorem Vd (hf:Nat)(ha:Value)(hb:Nat)(hd:Nat)(he:Value)(o:AR)(r:(List Al))(h:Q7 o=some r):Fn Tryz.prog GE 17 [rP hf 0] [.blk hf [rB o.fMade,rv ha,rv (.map (some hb)),rv (.map (some hd)),rv he] 59,.row ha 9 1 (A4 eS o.fEvents),.map hb (AF Ao o.fResults),.map hd (AF Ad o.fKeys),.row he 67 8 (A4 Af o.fPending)] (λR H=>R=AY 1 (A4 eS r)∧H=[.blk hf [rB o.fMade,rv ha,rv (.map (some hb)),rv (.map (some hd)),rv he] 59,.row ha 9 1 (A4 eS o.fEvents),.map hb (AF Ao o.fResults),.map hd (AF Ad o.fKeys),.row he 67 8 (A4 Af o.fPending)]):=by
 refine enter (n:=11) Tryz.func17 Aa Tryz.ntmps17 Aa (λw Z=>?_);unfold Q7 at h;refine Ak (wa Aa (Av (An (Ak (wm Aa (ob h λr1 e3 h2=>DX (Hr:=[.row ha 9 1 (A4 eS o.fEvents),.map hb (AF Ao o.fResults),.map hd (AF Ad o.fKeys),.row he 67 8 (A4 Af o.fPending)]) PY (G8 hf ha hb hd he o r1 e3) Aa (Abq _) Aa ?_))))));rintro _ _ ⟨rfl,rfl⟩;refine wv (BE Aa) (Av (cz h2 Aa (λc4 h5=>?_) (λc4 h6=>?_)))
 ·refine Ak (wa Aa (Av (A1 (Ae (WK.up (d:=2) (r:=AY 1 (A4 eS ([]:List Al))) Aa (Up.le (KZ.nil _)) ?_)))));obtain rfl:=A5 h5;exact A0 (BJ Tryz.results17 (AM Aa)) (sC (sC (sC (sC (sC sN))))) ⟨Aa,Aa⟩
 ·refine Ay (AP (Ak (wm Aa (wv (AB Aa) (vF Gn Aa GN (vL 0 Mj Aa (ob h6 λr7 e9 h8=>DX (Hr:=[.blk hf [rB o.fMade,rv ha,rv (.map (some hb)),rv (.map (some hd)),rv he] 59,.map hb (AF Ao o.fResults),.map hd (AF Ad o.fKeys),.row he 67 8 (A4 Af o.fPending)]) Tryz.call43 (V6 ha o.fEvents r7 e9) Aa ((As (i:=1) Aa).trans (Abp _ (Abq _))) Aa ?_)))))));rintro _ _ ⟨hg,rfl,rfl⟩;refine wa Aa (Av (A1 (WK.freeze (i:=0) Aa (WK.up (d:=2) (r:=AY 1 (A4 eS r7)) Aa (Up.fact (i:=0) Aa) (BU (H2:=[.blk hf [rB o.fMade,rv ha,rv (.map (some hb)),rv (.map (some hd)),rv he] 59,.row ha 9 1 (A4 eS o.fEvents),.map hb (AF Ao o.fResults),.map hd (AF Ad o.fKeys),.row he 67 8 (A4 Af o.fPending),.fact hg (AY 1 (A4 eS r7))]) ((As (i:=2) Aa).trans (Abp _ ((As (i:=1) Aa).trans (Abp _ ((As (i:=1) Aa).trans (Abp _ ((As (i:=1) Aa).trans (Abp _ ((As (i:=1) Aa).trans (Abp _ (Abq _))))))))))) ?_)))));obtain rfl:=A5 h8;exact A0 (BJ Tryz.results17 (AM Aa)) (sC (sC (sC (sC (sC (sS sN)))))) ⟨Aa,Aa⟩
theorem Tg (F:Nat)(hf:Nat)(ha:Value)(hb:Nat)(hd:Nat)(he:Value)(o:AR)(id:Al)(r:Int×AR)(h:WS F o id=some r):Fn Tryz.prog GE 36 [rP hf 0,rS id] [.blk hf [rB o.fMade,rv ha,rv (.map (some hb)),rv (.map (some hd)),rv he] 59,.row ha 9 1 (A4 eS o.fEvents),.map hb (AF Ao o.fResults),.map hd (AF Ad o.fKeys),.row he 67 8 (A4 Af o.fPending)] (λR H=>∃w0_1:Value,∃w0_4:Value,R=At r.1∧H=[.blk hf [rB r.2.fMade,rv w0_1,rv (.map (some hb)),rv (.map (some hd)),rv w0_4] 59,.row w0_1 9 1 (A4 eS r.2.fEvents),.map hb (AF Ao r.2.fResults),.map hd (AF Ad r.2.fKeys),.row w0_4 67 8 (A4 Af r.2.fPending)]):=by
 refine enter (n:=29) Tryz.func36 Aa Tryz.ntmps36 Aa (λw Z=>?_);unfold WS at h;refine Ak (VZ Aa (BD Aa) Aa (λb1=>?_));refine wa Aa (Av (An (Ak (wm Aa (ob h λr2 e4 h3=>DX (Hr:=[.blk b1 [rS id] 9,.row ha 9 1 (A4 eS o.fEvents),.map hb (AF Ao o.fResults),.map hd (AF Ad o.fKeys),.row he 67 8 (A4 Af o.fPending)]) PY (G8 hf ha hb hd he o r2 e4) Aa ((As (i:=1) Aa).trans (Abp _ (Abq _))) Aa ?_)))));rintro _ _ ⟨rfl,rfl⟩;refine wv (BE Aa) (Av (cz h3 Aa (λc5 h6=>?_) (λc5 h7=>?_)))
 ·refine Ak (wa Aa (Av (A1 (Ae ?_))));obtain rfl:=A5 h6;exact A0 (BJ Tryz.results36 (AM Aa)) (sC (sS (sC (sC (sC (sC sN)))))) ⟨ha,he,Aa,Aa⟩
 ·refine Ay (AP (Ak (wm Aa (wv (AB Aa) (vF Gn Aa NC (vL 0 SE Aa (wv (r:=rv (.func (.func 69) #[] #[(.pointer (some ⟨b1,0,none⟩))])) (Lk Aa) (ob h7 λr8 hj h9=>DX (Hr:=[.blk hf [rB o.fMade,rv ha,rv (.map (some hb)),rv (.map (some hd)),rv he] 59,.row ha 9 1 (A4 eS o.fEvents),.map hb (AF Ao o.fResults),.map hd (AF Ad o.fKeys)]) Tryz.call68 (Xn F he b1 o.fPending id r8 hj) Aa ((As (i:=5) Aa).trans (Abp _ ((As (i:=1) Aa).trans (Abp _ (Abq _))))) Aa ?_))))))));rintro _ _ ⟨rfl,rfl⟩;refine wa Aa (Av (An (Ak (wm Aa (wv (C0 Aa Aa) (Av (cz h9 Aa (λhk hl=>?_) (λhk hm=>?_))))))))
  ·refine Ak (wa Aa (Av (A1 (Ae (BU (H2:=[.blk hf [rB o.fMade,rv ha,rv (.map (some hb)),rv (.map (some hd)),rv he] 59,.row ha 9 1 (A4 eS o.fEvents),.map hb (AF Ao o.fResults),.map hd (AF Ad o.fKeys),.row he 67 8 (A4 Af o.fPending),.blk b1 [rS id] 9]) ((As (i:=2) Aa).trans (Abp _ ((As (i:=2) Aa).trans (Abp _ ((As (i:=2) Aa).trans (Abp _ ((As (i:=2) Aa).trans (Abp _ (Abq _))))))))) ?_)))));obtain rfl:=A5 hl;exact A0 (BJ Tryz.results36 (AM Aa)) (sC (sC (sC (sC (sC (sS sN)))))) ⟨ha,he,Aa,Aa⟩
  ·refine Ay (AP (Ak (wm Aa (wm Aa (wv (AB Aa) (vF Gn Aa NC (vL 2 SE Aa (ob hm λhi hn ho=>DX (Hr:=[.blk b1 [rS id] 9,.blk hf [rB o.fMade,rv ha,rv (.map (some hb)),rv (.map (some hd)),rv he] 59,.row ha 9 1 (A4 eS o.fEvents),.map hb (AF Ao o.fResults),.map hd (AF Ad o.fKeys)]) Tryz.call71 (V7 he o.fPending hi hn) Aa (Abq _) Aa ?_))))))));rintro _ _ ⟨hp,rfl,rfl⟩;refine wm Aa (wm Aa (ck ho λg18 hq=>wv (Bz Aa Aa g18) (ob hq λhh hr hs=>DX (Hr:=[.row he 67 8 (A4 Af o.fPending),.blk b1 [rS id] 9,.blk hf [rB o.fMade,rv ha,rv (.map (some hb)),rv (.map (some hd)),rv he] 59,.row ha 9 1 (A4 eS o.fEvents),.map hb (AF Ao o.fResults),.map hd (AF Ad o.fKeys)]) Tryz.call70 (V2 hp hi r8 (r8+1) hh hr) Aa (Abq _) Aa ?_)));rintro _ _ ⟨hg,rfl,rfl⟩;refine wv (AB Aa) (vF Gn Aa NC (BA (i:=3) NC Aa Aa (CB (i:=0) Aa) Aa Aa (cs':=[rB o.fMade,rv ha,rv (.map (some hb)),rv (.map (some hd)),rv hg]) Aa (H':=[.row hg 67 8 (A4 Af hh),.row he 67 8 (A4 Af o.fPending),.blk b1 [rS id] 9,.blk hf [rB o.fMade,rv ha,rv (.map (some hb)),rv (.map (some hd)),rv hg] 59,.row ha 9 1 (A4 eS o.fEvents),.map hb (AF Ao o.fResults),.map hd (AF Ad o.fKeys)]) Aa (Bs (wa Aa (Av (A1 (BU (H2:=[.blk hf [rB o.fMade,rv ha,rv (.map (some hb)),rv (.map (some hd)),rv hg] 59,.row ha 9 1 (A4 eS o.fEvents),.map hb (AF Ao o.fResults),.map hd (AF Ad o.fKeys),.row hg 67 8 (A4 Af hh),.row he 67 8 (A4 Af o.fPending),.blk b1 [rS id] 9]) ((As (i:=3) Aa).trans (Abp _ ((As (i:=3) Aa).trans (Abp _ ((As (i:=3) Aa).trans (Abp _ ((As (i:=3) Aa).trans (Abp _ (Abq _))))))))) ?_)))))));obtain rfl:=A5 hs;exact A0 (BJ Tryz.results36 (AM Aa)) (sC (sC (sC (sC (sC (sS (sS sN))))))) ⟨ha,hg,Aa,Aa⟩
theorem Ow (F:Nat)(hh:Nat)(hb:Value)(hd:Nat)(he:Nat)(hf:Value)(o:AR)(tenant:Al)(r:(List BN))(h:Ox F o tenant=some r):Fn Tryz.prog GE 23 [rP hh 0,rS tenant] [.blk hh [rB o.fMade,rv hb,rv (.map (some hd)),rv (.map (some he)),rv hf] 59,.row hb 9 1 (A4 eS o.fEvents),.map hd (AF Ao o.fResults),.map he (AF Ad o.fKeys),.row hf 67 8 (A4 Af o.fPending)] (λR H=>R=AY 3 (A4 Cw r)∧H=[.blk hh [rB o.fMade,rv hb,rv (.map (some hd)),rv (.map (some he)),rv hf] 59,.row hb 9 1 (A4 eS o.fEvents),.map hd (AF Ao o.fResults),.map he (AF Ad o.fKeys),.row hf 67 8 (A4 Af o.fPending)]):=by
 refine enter (n:=56) Tryz.func23 Aa Tryz.ntmps23 Aa (λw Z=>?_);unfold Ox at h;refine Ak (wa Aa (Av (An (Ak (wm Aa (ob h λr1 e3 h2=>DX (Hr:=[.row hb 9 1 (A4 eS o.fEvents),.map hd (AF Ao o.fResults),.map he (AF Ad o.fKeys),.row hf 67 8 (A4 Af o.fPending)]) PY (G8 hh hb hd he hf o r1 e3) Aa (Abq _) Aa ?_))))));rintro _ _ ⟨rfl,rfl⟩;refine wv (BE Aa) (Av (cz h2 Aa (λc4 h5=>?_) (λc4 h6=>?_)))
 ·refine Ak (wa Aa (Av (A1 (Ae (WK.up (d:=4) (r:=AY 3 (A4 Cw ([]:List BN))) Aa (Up.le (KZ.nil _)) ?_)))));obtain rfl:=A5 h5;exact A0 (BJ Tryz.results23 (AM Aa)) (sC (sC (sC (sC (sC sN))))) ⟨Aa,Aa⟩
 ·refine Ay (AP (Ak (wa Aa (Av (An (Ak (wm Aa (wv (AB Aa) (vF Gn Aa Uu (vL 0 U3 Aa (wm Aa (wv (r:=Mg (AF Au (BL o.fKeys tenant ([]:(List (Al×Aj)))))) (Mx (enc:=Ad) (xs:=o.fKeys) (z:=([]:(List (Al×Aj)))) (i:=3) Ut Cu XM Dd Aa Aa Aa) (NK Lu Aa Aa (λb7=>?_))))))))))))));refine Av (AJ (WC.nilrow (e:=9) (sz:=1) (GO (H2:=[.itz b7 (AF Au (BL o.fKeys tenant ([]:(List (Al×Aj))))) (AF Au (BL o.fKeys tenant ([]:(List (Al×Aj))))) none,.blk hh [rB o.fMade,rv hb,rv (.map (some hd)),rv (.map (some he)),rv hf] 59,.row hb 9 1 (A4 eS o.fEvents),.map hd (AF Ao o.fResults),.map he (AF Ad o.fKeys),.row hf 67 8 (A4 Af o.fPending),.row (.slice none 0 0         ) 9 1 (A4 eS ([]:List Al))]) ((As (i:=1) Aa).trans (Abp _ ((As (i:=1) Aa).trans (Abp _ ((As (i:=1) Aa).trans (Abp _ ((As (i:=1) Aa).trans (Abp _ ((As (i:=1) Aa).trans (Abp _ ((As (i:=1) Aa).trans (Abp _ (Abq _))))))))))))) ?_)));have hB:=Ti h6;refine Bu (S:=(List (Al×Aj))×((List Al))×(Value)) (V:=((List Al))×(Value)) 0 (λσ=>∀qo:List (Al×Aj),qo.Perm σ.1→B3 (Tj (λpe τ=>Kv pe.1 pe.2 τ) qo σ.2.1) (BS λν=>Hc F o tenant ν)=some r) (λσ=>[(0,rP hh 0),(1,rS tenant),(4,rv (.slice none 0 0)),(5,rv σ.2.2),(20,rP b7 0)]) (λσ=>[.itz b7 (AF Au (BL o.fKeys tenant ([]:(List (Al×Aj))))) (AF Au σ.1) none,.blk hh [rB o.fMade,rv hb,rv (.map (some hd)),rv (.map (some he)),rv hf] 59,.row hb 9 1 (A4 eS o.fEvents),.map hd (AF Ao o.fResults),.map he (AF Ad o.fKeys),.row hf 67 8 (A4 Af o.fPending),.row σ.2.2 9 1 (A4 eS σ.2.1)]) (λσ=>σ.1.length) (BL o.fKeys tenant ([]:(List (Al×Aj))),([]:List Al),(.slice none 0 0         )) hB (AL.c5 Aa Aa Aa Aa Aa AL.nil) (sC (sC (sC (sC (sC (sC (sC sN))))))) (λσ=>Hc F o tenant σ.1=some r) (λσ=>[(0,rP hh 0),(1,rS tenant),(4,rv (.slice none 0 0)),(5,rv σ.2)]) (λσ=>[.blk hh [rB o.fMade,rv hb,rv (.map (some hd)),rv (.map (some he)),rv hf] 59,.row hb 9 1 (A4 eS o.fEvents),.map hd (AF Ao o.fResults),.map he (AF Ad o.fKeys),.row hf 67 8 (A4 Af o.fPending),.row σ.2 9 1 (A4 eS σ.1)]) ?_ ?_
  ·rintro⟨h0,hl,hq⟩ h1;refine BW (l':=[(0,rP hh 0),(1,rS tenant),(4,rv (.slice none 0 0)),(5,rv hq),(20,rP b7 0)]) (H':=[.itz b7 (AF Au (BL o.fKeys tenant ([]:(List (Al×Aj))))) (AF Au h0) none,.blk hh [rB o.fMade,rv hb,rv (.map (some hd)),rv (.map (some he)),rv hf] 59,.row hb 9 1 (A4 eS o.fEvents),.map hd (AF Ao o.fResults),.map he (AF Ad o.fKeys),.row hf 67 8 (A4 Af o.fPending),.row hq 9 1 (A4 eS hl)]) Aa Aa (Ak (Qb (enc:=Au) (ys:=h0) (i:=0) Aa Aa Aa (λhy=>?_) (λp hw h3=>?_)))
   ·have hC:Hc F o tenant hl=some r:=QD h1 hy;exact wv (AA Aa Aa) (Av (An (D2 Aa Aa (Bx (A6 (A6 (Be (AI (hl,hq) hC (AL.c Aa (AL.c Aa (AL.c Aa (AL.c Aa AL.nil)))) (sS (sC (sC (sC (sC (sC (sC sN)))))))))))))))
   ·obtain⟨hi,hx⟩:=p;obtain⟨hD,hr,hE⟩:=Xh h1 h3;replace hr:Kv hi hx hl=some hD:=hr;unfold Kv at hr;refine SG (H':=[.itz b7 (AF Au (BL o.fKeys tenant ([]:(List (Al×Aj))))) (AF Au hw) (some (hi,Au hx)),.blk hh [rB o.fMade,rv hb,rv (.map (some hd)),rv (.map (some he)),rv hf] 59,.row hb 9 1 (A4 eS o.fEvents),.map hd (AF Ao o.fResults),.map he (AF Ad o.fKeys),.row hf 67 8 (A4 Af o.fPending),.row hq 9 1 (A4 eS hl)]) Aa (wv (AA Aa Aa) (Av (An (DH Aa Aa (Ay (AP (AJ (Ak (wv (r:=C7 [rS hi,BQ (Cf hx)]) (Ou (i:=0) Aa Aa) (wv (AA Aa Aa) (wa Aa (Av (Ai (wm Aa (wm Aa (Bb (ys:=([hi]:List Al)) (enc:=eS) (css:=[[rS hi]]) (xs:=[.tmp 26]) Cn Cv PW Aa Aa Aa ⟨D1.one Aa (Up.refl _),trivial⟩ Aa CY Aa Aa Aa (λhG=>?_)))))))))))))))));refine ck hr λhH hI=>Exists.elim MX λinf hinf=>Cb (xs:=hl) (ys:=([hi]:List Al)) (enc:=eS) (i:=7) Cn hinf.1 hinf.2.1 hinf.2.2.1 hinf.2.2.2 Aa Aa Aa Aa Aa (If.w (i:=0) Aa Aa) CY JT hH Aa (λh4=>?_);refine wa Aa (Am (AG (WK.uncurz (i:=2) Aa (BU (H2:=[.itz b7 (AF Au (BL o.fKeys tenant ([]:(List (Al×Aj))))) (AF Au hw) none,.blk hh [rB o.fMade,rv hb,rv (.map (some hd)),rv (.map (some he)),rv hf] 59,.row hb 9 1 (A4 eS o.fEvents),.map hd (AF Ao o.fResults),.map he (AF Ad o.fKeys),.row hf 67 8 (A4 Af o.fPending),.row h4 9 1 (A4 eS (hl++([hi]:List Al))),.row (.slice (some ⟨hG,0,none⟩) 1 1) 9 1 (A4 eS ([hi]:List Al))]) ((As (i:=2) Aa).trans (Abp _ ((As (i:=2) Aa).trans (Abp _ ((As (i:=2) Aa).trans (Abp _ ((As (i:=2) Aa).trans (Abp _ ((As (i:=2) Aa).trans (Abp _ ((As (i:=2) Aa).trans (Abp _ (Abq _))))))))))))) ?_))));have hJ:=M0 hI hE;exact Aw (AI (hw,hl++([hi]:List Al),h4) ⟨hJ,Qy h3⟩ (AL.c5 Aa Aa Aa Aa Aa AL.nil) (sC (sC (sC (sC (sC (sC (sC (sS sN)))))))))
  ·rintro⟨ha,hn⟩ hs;refine Cy (l':=[(0,rP hh 0),(1,rS tenant),(4,rv (.slice none 0 0)),(5,rv hn)]) (H':=[.blk hh [rB o.fMade,rv hb,rv (.map (some hd)),rv (.map (some he)),rv hf] 59,.row hb 9 1 (A4 eS o.fEvents),.map hd (AF Ao o.fResults),.map he (AF Ad o.fKeys),.row hf 67 8 (A4 Af o.fPending),.row hn 9 1 (A4 eS ha)]) Aa Aa ?_;replace hs:Hc F o tenant ha=some r:=hs;unfold Hc at hs;refine Bc (AP (Ak (wa Aa (Av (An (Ak (wm Aa (ck hs λhK hL=>Cm (rs:=[rv hn]) (Hin:=[.row hn 9 1 (A4 eS ha)]) (Hr:=[.blk hh [rB o.fMade,rv hb,rv (.map (some hd)),rv (.map (some he)),rv hf] 59,.row hb 9 1 (A4 eS o.fEvents),.map hd (AF Ao o.fResults),.map he (AF Ad o.fKeys),.row hf 67 8 (A4 Af o.fPending)]) Tryz.call45 Aa ((As (i:=5) Aa).trans (Abp _ (Abq _))) (Vs hn ha hK) Aa ?_))))))));rintro _ _ ⟨hj,rfl,rfl⟩;refine wv (Ch (ys:=BH ha) (enc:=eS) (i:=0) Cn Aa Aa) (wv (r:=At 0) (Aq Aa) (Av (AJ (WC.nilrow (e:=75) (sz:=3) (GO (H2:=[.row hj 9 1 (A4 eS (BH ha)),.blk hh [rB o.fMade,rv hb,rv (.map (some hd)),rv (.map (some he)),rv hf] 59,.row hb 9 1 (A4 eS o.fEvents),.map hd (AF Ao o.fResults),.map he (AF Ad o.fKeys),.row hf 67 8 (A4 Af o.fPending),.row (.slice none 0 0                                                                           ) 75 3 (A4 Cw ([]:List BN)),.row hn 9 1 (A4 eS ha)]) ((As (i:=1) Aa).trans (Abp _ ((As (i:=2) Aa).trans (Abp _ ((As (i:=2) Aa).trans (Abp _ ((As (i:=2) Aa).trans (Abp _ ((As (i:=2) Aa).trans (Abp _ ((As (i:=2) Aa).trans (Abp _ (Abq _))))))))))))) (ob hL λhN hO hP=>Bu (S:=Nat×((List BN)×Int)×(Value)) (V:=((List BN))×(Value)) 2 (λσ=>Ci (λσ=>Ku o tenant ha σ.1 σ.2) σ.1 σ.2.1=some hN) (λσ=>[(0,rP hh 0),(1,rS tenant),(7,rv σ.2.2),(30,rv hj),(31,At ((BH ha).length:Int)),(32,At σ.2.1.2)]) (λσ=>[.row hj 9 1 (A4 eS (BH ha)),.blk hh [rB o.fMade,rv hb,rv (.map (some hd)),rv (.map (some he)),rv hf] 59,.row hb 9 1 (A4 eS o.fEvents),.map hd (AF Ao o.fResults),.map he (AF Ad o.fKeys),.row hf 67 8 (A4 Af o.fPending),.row σ.2.2 75 3 (A4 Cw σ.2.1.1)]) (λσ=>σ.1) (F,(([]:List BN),0),(.slice none 0 0                                                                           )) hO (AL.c Aa (AL.c5 Aa Aa Aa Aa Aa AL.nil)) (sC (sC (sC (sC (sC (sC (sC (sS sN)))))))) (λσ=>Kt σ.1=some r) (λσ=>[(7,rv σ.2)]) (λσ=>[.blk hh [rB o.fMade,rv hb,rv (.map (some hd)),rv (.map (some he)),rv hf] 59,.row hb 9 1 (A4 eS o.fEvents),.map hd (AF Ao o.fResults),.map he (AF Ad o.fKeys),.row hf 67 8 (A4 Af o.fPending),.row σ.2 75 3 (A4 Cw σ.1)]) ?_ ?_))))))
   ·rintro⟨gf,⟨hm,hg⟩,ho⟩ hQ;refine BW (l':=[(0,rP hh 0),(1,rS tenant),(7,rv ho),(30,rv hj),(31,At ((BH ha).length:Int)),(32,At hg)]) (H':=[.row hj 9 1 (A4 eS (BH ha)),.blk hh [rB o.fMade,rv hb,rv (.map (some hd)),rv (.map (some he)),rv hf] 59,.row hb 9 1 (A4 eS o.fEvents),.map hd (AF Ao o.fResults),.map he (AF Ad o.fKeys),.row hf 67 8 (A4 Af o.fPending),.row ho 75 3 (A4 Cw hm)]) Aa Aa ?_;obtain⟨hR,rfl,hS,ht,h7⟩:=C4 hQ;replace ht:Ku o tenant ha hm hg=some hS:=ht;unfold Ku at ht;refine Ak (wv (C0 Aa Aa) (Av (An (cz ht Aa (λhT hU=>?_) (λhT hV=>?_)))))
    ·refine Ay (AP (An (AJ (Ak (ck hU λh8 hW=>wv (r:=rv (E1 1 hj (B4 hg) 0)) (En (i:=0) Cn Cv Aa Aa Aa (BO h8)) (wv (r:=rS (Ap (BH ha) hg)) (GG (enc:=eS) (ys:=BH ha) (i:=0) (j:=hg) CD Aa Aa h8 Aa) (wa Aa (Bs (wm Aa (wv (AB Aa) (vF Gn Aa Uu (vL 1 U3 Aa (wm Aa (wv (r:=Mg (AF Au (BL o.fKeys tenant ([]:(List (Al×Aj)))))) (Mx (enc:=Ad) (xs:=o.fKeys) (z:=([]:(List (Al×Aj)))) (i:=4) Ut Cu XM Dd Aa Aa Aa) (wm Aa (wv (r:=BQ (Cf (BL (BL o.fKeys tenant ([]:(List (Al×Aj)))) (Ap (BH ha) hg) (Aj.mk ([]:(List Ac)) 0)))) (WE (enc:=Au) (xs:=BL o.fKeys tenant ([]:(List (Al×Aj)))) (z:=Aj.mk ([]:(List Ac)) 0) Lu Cu Ur Ga Aa Aa) (Cc (cs:=[rv (.slice none 0 0),At 0]) Ur Aa Aa (λhp=>?_))))))))))))))))));refine Br (i:=0) VM Aa Aa Aa (Cq.c Aa) Aa Aa (cs':=[AY 4 (A4 Ab ((BL (BL o.fKeys tenant ([]:(List (Al×Aj)))) (Ap (BH ha) hg) (Aj.mk ([]:(List Ac)) 0)).fValue)),At ((BL (BL o.fKeys tenant ([]:(List (Al×Aj)))) (Ap (BH ha) hg) (Aj.mk ([]:(List Ac)) 0)).fVersion)]) Aa (H':=[.blk hp (Cf (BL (BL o.fKeys tenant ([]:(List (Al×Aj)))) (Ap (BH ha) hg) (Aj.mk ([]:(List Ac)) 0))) 90,.row hj 9 1 (A4 eS (BH ha)),.blk hh [rB o.fMade,rv hb,rv (.map (some hd)),rv (.map (some he)),rv hf] 59,.row hb 9 1 (A4 eS o.fEvents),.map hd (AF Ao o.fResults),.map he (AF Ad o.fKeys),.row hf 67 8 (A4 Af o.fPending),.row ho 75 3 (A4 Cw hm)]) Aa (Av (ob hW λhk hX hY=>Db 9 [0,1,7,9,10,30,31,32] [⟨[],rv ho,none,none,none⟩,⟨[],rS (Ap (BH ha) hg),none,none,none⟩,⟨[],rP hp 0,none,none,none⟩,⟨[2],AY 4 (A4 Ab ((BL (BL o.fKeys tenant ([]:(List (Al×Aj)))) (Ap (BH ha) hg) (Aj.mk ([]:(List Ac)) 0)).fValue)),none,none,none⟩,⟨[3],AY 4 (A4 Ab hk),none,none,none⟩,⟨[],rP hp 1,none,none,none⟩,⟨[5],At ((BL (BL o.fKeys tenant ([]:(List (Al×Aj)))) (Ap (BH ha) hg) (Aj.mk ([]:(List Ac)) 0)).fVersion),none,none,none⟩,⟨[1,4,6],BQ [rS (Ap (BH ha) hg),AY 4 (A4 Ab hk),At ((BL (BL o.fKeys tenant ([]:(List (Al×Aj)))) (Ap (BH ha) hg) (Aj.mk ([]:(List Ac)) 0)).fVersion)],none,none,none⟩,⟨[7],AY 3 (A4 Cw ([(BN.mk (Ap (BH ha) hg) hk ((BL (BL o.fKeys tenant ([]:(List (Al×Aj)))) (Ap (BH ha) hg) (Aj.mk ([]:(List Ac)) 0)).fVersion))]:List BN)),none,none,none⟩] ?_ (λβ=>?_)))
     ·refine CL (Aq Aa) (CL (Aq Aa) (CL (A9 XP Aa C5 Aa Aa) (Gi (AT (i:=0) Dt Aa Aa Aa) (KS (Em SD (H4 ((BL (BL o.fKeys tenant ([]:(List (Al×Aj)))) (Ap (BH ha) hg) (Aj.mk ([]:(List Ac)) 0)).fValue) hk hX) Aa) (CL (A9 XP Aa C6 Aa Aa) (Gi (AT (i:=0) CM Aa Aa Aa) (CL (Ni Aa Aa Aa Aa Aa Aa) (KS (Ck (ys:=([(BN.mk (Ap (BH ha) hg) hk ((BL (BL o.fKeys tenant ([]:(List (Al×Aj)))) (Ap (BH ha) hg) (Aj.mk ([]:(List Ac)) 0)).fVersion))]:List BN)) (enc:=Cw) (css:=[[rS (Ap (BH ha) hg),AY 4 (A4 Ab hk),At ((BL (BL o.fKeys tenant ([]:(List (Al×Aj)))) (Ap (BH ha) hg) (Aj.mk ([]:(List Ac)) 0)).fVersion)]]) (xs:=[.tmp 51]) SB Tryz.sizeOf75 Tryz.zeroValue75 Aa Aa Aa ⟨D1.agg ⟨Up.refl _,Up.refl _,Up.refl _,trivial⟩,trivial⟩ Aa KY Aa Aa) ?_))))))));exact Pb
     refine Dg (H1:=[.blk hp (Cf (BL (BL o.fKeys tenant ([]:(List (Al×Aj)))) (Ap (BH ha) hg) (Aj.mk ([]:(List Ac)) 0))) 90,.row hj 9 1 (A4 eS (BH ha)),.blk hh [rB o.fMade,rv hb,rv (.map (some hd)),rv (.map (some he)),rv hf] 59,.row hb 9 1 (A4 eS o.fEvents),.map hd (AF Ao o.fResults),.map he (AF Ad o.fKeys),.row hf 67 8 (A4 Af o.fPending),.row ho 75 3 (A4 Cw hm)]) [44,45,46,47,48,49,50,51,52,0,1,7,9,10,30,31,32] ?_;refine ck hY λhZ ga=>Exists.elim ZF λinf hinf=>Cb (xs:=hm) (ys:=([(BN.mk (Ap (BH ha) hg) hk ((BL (BL o.fKeys tenant ([]:(List (Al×Aj)))) (Ap (BH ha) hg) (Aj.mk ([]:(List Ac)) 0)).fVersion))]:List BN)) (enc:=Cw) (i:=7) SB hinf.1 hinf.2.1 hinf.2.2.1 hinf.2.2.2 Aa Aa Aa Aa Aa (If.z Aa Aa) KY Pk hZ Aa (λh9=>?_);refine wa Aa (Am (AG (AP (Ai (ck ga λgb gc=>wv (Bz Aa Aa gb) (wm Aa (Am (BU (H2:=[.row hj 9 1 (A4 eS (BH ha)),.blk hh [rB o.fMade,rv hb,rv (.map (some hd)),rv (.map (some he)),rv hf] 59,.row hb 9 1 (A4 eS o.fEvents),.map hd (AF Ao o.fResults),.map he (AF Ad o.fKeys),.row hf 67 8 (A4 Af o.fPending),.row h9 75 3 (A4 Cw (hm++([(BN.mk (Ap (BH ha) hg) hk ((BL (BL o.fKeys tenant ([]:(List (Al×Aj)))) (Ap (BH ha) hg) (Aj.mk ([]:(List Ac)) 0)).fVersion))]:List BN))),.blk hp (Cf (BL (BL o.fKeys tenant ([]:(List (Al×Aj)))) (Ap (BH ha) hg) (Aj.mk ([]:(List Ac)) 0))) 90]) ((As (i:=2) Aa).trans (Abp _ ((As (i:=2) Aa).trans (Abp _ ((As (i:=2) Aa).trans (Abp _ ((As (i:=2) Aa).trans (Abp _ ((As (i:=2) Aa).trans (Abp _ ((As (i:=2) Aa).trans (Abp _ (Abq _))))))))))))) ?_))))))));have gd:=Bk gc h7;exact Aw (AI (hR,(hm++([(BN.mk (Ap (BH ha) hg) hk ((BL (BL o.fKeys tenant ([]:(List (Al×Aj)))) (Ap (BH ha) hg) (Aj.mk ([]:(List Ac)) 0)).fVersion))]:List BN),hg+1),h9) ⟨gd,Aby _⟩ (AL.c Aa (AL.c5 Aa Aa Aa Aa Aa AL.nil)) (sC (sC (sC (sC (sC (sC (sC (sS sN)))))))))
    ·refine Bx (A6 ?_);have ge:=BX hV h7 hP;exact A6 (Be (AI (hm,ho) ge (AL.c Aa AL.nil) (sS (sC (sC (sC (sC (sC (sC sN)))))))))
   ·rintro⟨hz,hA⟩ hu;refine Cy (l':=[(7,rv hA)]) (H':=[.blk hh [rB o.fMade,rv hb,rv (.map (some hd)),rv (.map (some he)),rv hf] 59,.row hb 9 1 (A4 eS o.fEvents),.map hd (AF Ao o.fResults),.map he (AF Ad o.fKeys),.row hf 67 8 (A4 Af o.fPending),.row hA 75 3 (A4 Cw hz)]) Aa Aa ?_;replace hu:Kt hz=some r:=hu;unfold Kt at hu;refine Bc (AP (Ak (wm Aa (wa Aa (Av (A1 (WK.freeze (i:=5) Aa (WK.up (d:=4) (r:=AY 3 (A4 Cw hz)) Aa (Up.fact (i:=0) Aa) ?_))))))));obtain rfl:=A5 hu;exact A0 (BJ Tryz.results23 (AM Aa)) (sS (sC (sC (sC (sC (sC sN)))))) ⟨Aa,Aa⟩
theorem Vf (F:Nat)(hd:Nat)(hg:Value)(ha:Nat)(hb:Nat)(he:Value)(o:AR)(c:AS)(r:Bool×Int×AR)(h:Q9 F o c=some r):Fn Tryz.prog GE 35 [rP hd 0,BQ (AV c)] [.blk hd [rB o.fMade,rv hg,rv (.map (some ha)),rv (.map (some hb)),rv he] 59,.row hg 9 1 (A4 eS o.fEvents),.map ha (AF Ao o.fResults),.map hb (AF Ad o.fKeys),.row he 67 8 (A4 Af o.fPending)] (λR H=>∃w0_1:Value,∃w0_4:Value,R=C7 [rB r.1,At r.2.1]∧H=[.blk hd [rB r.2.2.fMade,rv w0_1,rv (.map (some ha)),rv (.map (some hb)),rv w0_4] 59,.row w0_1 9 1 (A4 eS r.2.2.fEvents),.map ha (AF Ao r.2.2.fResults),.map hb (AF Ad r.2.2.fKeys),.row w0_4 67 8 (A4 Af r.2.2.fPending)]):=by
 refine enter (n:=131) Tryz.func35 Aa Tryz.ntmps35 Aa (λw Z=>?_);unfold Q9 at h;refine Ak (C3 Aa Aa (λb1=>?_));refine wa Aa (wa Aa (Av (An (Ak (wm Aa (ob h λr2 e4 h3=>DX (Hr:=[.blk b1 (AV c) 34,.row hg 9 1 (A4 eS o.fEvents),.map ha (AF Ao o.fResults),.map hb (AF Ad o.fKeys),.row he 67 8 (A4 Af o.fPending)]) PY (G8 hd hg ha hb he o r2 e4) Aa ((As (i:=1) Aa).trans (Abp _ (Abq _))) Aa ?_))))));rintro _ _ ⟨rfl,rfl⟩;refine wv (BE Aa) (Av (cz h3 Aa (λc5 h6=>?_) (λc5 h7=>?_)))
 ·refine Ak (wa Aa (wa Aa (Av (A1 (Ae ?_)))));obtain rfl:=A5 h6;exact A0 (DJ Mi (AM Aa) (AM Aa)) (sC (sS (sC (sC (sC (sC sN)))))) ⟨hg,he,Aa,Aa⟩
 ·refine Ay (AP (An (Ak (wv (Bf (i:=1) Gh Ec Aa Aa Aa Aa) (ob h7 λr8 hI h9=>CG U2 (O0 F c r8 hI) Aa (wa Aa (Bs (wm Aa (wv (BT Aa Aa) (Av (cz h9 Aa (λhJ hK=>?_) (λhJ hL=>?_))))))))))))
  ·refine Ak (wm Aa (wa Aa (wa Aa (Av (A1 (Ae ?_))))));obtain rfl:=A5 hK;exact A0 (DJ Mi (AM Aa) (AM Aa)) (sC (sS (sC (sC (sC (sC sN)))))) ⟨hg,he,Aa,Aa⟩
  ·refine Ay (AP (An (An (Do [0,3] [⟨[],rP hd 0,0⟩,⟨[0],rP hd 0,0⟩,⟨[1],rP hd 2,0⟩,⟨[2],rv (.map (some ha)),1⟩,⟨[],rP b1 0,0⟩,⟨[4],rS c.fEvent,1⟩,⟨[3,5],C7 [AY 4 (A4 Ab (BL o.fResults c.fEvent ([]:(List Ac)))),rB (Gj o.fResults c.fEvent)],1⟩,⟨[6],C7 [AY 4 (A4 Ab (BL o.fResults c.fEvent ([]:(List Ac)))),rB (Gj o.fResults c.fEvent)],0⟩,⟨[7],AY 4 (A4 Ab (BL o.fResults c.fEvent ([]:(List Ac)))),0⟩,⟨[7],rB (Gj o.fResults c.fEvent),0⟩,⟨[8],AY 4 (A4 Ab (BL o.fResults c.fEvent ([]:(List Ac)))),0⟩,⟨[9],rB (Gj o.fResults c.fEvent),0⟩] [8,0,3] ?_ ?_))))
   ·refine oq (Aq Aa) (oq (AB Aa) (oq (A9 Gn Aa VN Aa Aa) (of (AT (i:=0) VV Aa Aa Aa) (oq (A9 Cl Aa Cv Aa Aa) (of (AT (i:=1) CD Aa Aa Aa) (of (Q1 (enc:=Ao) (xs:=o.fResults) (z:=([]:(List Ac))) (i:=3) VL Cu Zm Gy Aa Aa Aa) (oq (Aq Aa) (oq (AA Aa Aa) (oq (AA Aa Aa) (oq (Az Aa) (oq (Az Aa) ?_)))))))))));exact CN
   refine AP (Ak (wm Aa (Av (cz hL Aa (λhN hO=>?_) (λhN hP=>?_)))))
   ·refine Ak (wa Aa (wa Aa (Av (A1 (Ae ?_)))));obtain rfl:=A5 hO;exact A0 (DJ Mi (AM Aa) (AM Aa)) (sC (sS (sC (sC (sC (sC sN)))))) ⟨hg,he,Aa,Aa⟩
   ·refine Ay (AP (An (Ak (wm Aa (wv (AB Aa) (vF Gn Aa GN (vL 0 Mj Aa (wv (Ch (ys:=o.fEvents) (enc:=eS) (i:=2) Cn Aa Aa) (wv (GH Aa Aa) (Av (cz hP Aa (λhQ hR=>?_) (λhQ hS=>?_))))))))))))
    ·refine Ak (wa Aa (wa Aa (Av (A1 (Ae ?_)))));obtain rfl:=A5 hR;exact A0 (DJ Mi (AM Aa) (AM Aa)) (sC (sS (sC (sC (sC (sC sN)))))) ⟨hg,he,Aa,Aa⟩
    ·refine Ay (AP (Ak (Kg Aa (λhj=>?_))));refine wa Aa (Av (An (An (Db 7 [0,3,9] [⟨[],rP hd 0,none,none,none⟩,⟨[0],rP hd 0,none,none,none⟩,⟨[1],rP hd 3,none,none,none⟩,⟨[2],rv (.map (some hb)),none,none,none⟩,⟨[],rP b1 1,none,none,none⟩,⟨[4],rS c.fTenant,none,none,none⟩,⟨[3,5],Mg (AF Au (BL o.fKeys c.fTenant ([]:(List (Al×Aj))))),none,none,none⟩] ?_ (λβ=>?_)))))
     ·refine CL (Aq Aa) (CL (AB Aa) (CL (A9 Gn Aa Uu Aa Aa) (Gi (AT (i:=1) U3 Aa Aa Aa) (CL (A9 Cl Aa Cv Aa Aa) (Gi (AT (i:=2) CD Aa Aa Aa) (Gi (Mx (enc:=Ad) (xs:=o.fKeys) (z:=([]:(List (Al×Aj)))) (i:=5) Ut Cu XM Dd Aa Aa Aa) ?_))))));exact Pb
     refine Dg (H1:=[.map hj (AF Au ([]:List (Al×Aj))),.blk hd [rB o.fMade,rv hg,rv (.map (some ha)),rv (.map (some hb)),rv he] 59,.blk b1 (AV c) 34,.row hg 9 1 (A4 eS o.fEvents),.map ha (AF Ao o.fResults),.map hb (AF Ad o.fKeys),.row he 67 8 (A4 Af o.fPending)]) [43,44,45,46,47,48,49,0,3,9] ?_;refine NK Lu Aa Aa (λhr=>?_);refine Av (AJ ?_);have hT:=Ti hS;refine Bu (S:=(List (Al×Aj))×((List (Al×Aj)))×(Unit)) (V:=((List (Al×Aj)))×(Unit)) 0 (λσ=>∀qo:List (Al×Aj),qo.Perm σ.1→B3 (Tj (λpe τ=>IW pe.1 pe.2 τ) qo σ.2.1) (BS λν=>Gv F o c ν)=some r) (λσ=>[(0,rP hd 0),(3,rP b1 0),(9,rv (.map (some hj))),(50,rP hr 0)]) (λσ=>[.itz hr (AF Au (BL o.fKeys c.fTenant ([]:(List (Al×Aj))))) (AF Au σ.1) none,.map hj (AF Au σ.2.1),.blk hd [rB o.fMade,rv hg,rv (.map (some ha)),rv (.map (some hb)),rv he] 59,.blk b1 (AV c) 34,.row hg 9 1 (A4 eS o.fEvents),.map ha (AF Ao o.fResults),.map hb (AF Ad o.fKeys),.row he 67 8 (A4 Af o.fPending)]) (λσ=>σ.1.length) (BL o.fKeys c.fTenant ([]:(List (Al×Aj))),([]:List (Al×Aj)),()) hT (AL.c Aa (AL.c Aa (AL.c Aa (AL.c Aa AL.nil)))) (sC (sC (sC (sC (sC (sC (sC (sC sN)))))))) (λσ=>Gv F o c σ.1=some r) (λσ=>[(0,rP hd 0),(3,rP b1 0),(9,rv (.map (some hj)))]) (λσ=>[.map hj (AF Au σ.1),.blk hd [rB o.fMade,rv hg,rv (.map (some ha)),rv (.map (some hb)),rv he] 59,.blk b1 (AV c) 34,.row hg 9 1 (A4 eS o.fEvents),.map ha (AF Ao o.fResults),.map hb (AF Ad o.fKeys),.row he 67 8 (A4 Af o.fPending)]) ?_ ?_
     ·rintro⟨hC,hp,⟨⟩⟩ hD;refine BW (l':=[(0,rP hd 0),(3,rP b1 0),(9,rv (.map (some hj))),(50,rP hr 0)]) (H':=[.itz hr (AF Au (BL o.fKeys c.fTenant ([]:(List (Al×Aj))))) (AF Au hC) none,.map hj (AF Au hp),.blk hd [rB o.fMade,rv hg,rv (.map (some ha)),rv (.map (some hb)),rv he] 59,.blk b1 (AV c) 34,.row hg 9 1 (A4 eS o.fEvents),.map ha (AF Ao o.fResults),.map hb (AF Ad o.fKeys),.row he 67 8 (A4 Af o.fPending)]) Aa Aa (Ak (Qb (enc:=Au) (ys:=hC) (i:=0) Aa Aa Aa (λhy=>?_) (λp hw hE=>?_)))
      ·have hU:Gv F o c hp=some r:=QD hD hy;exact wv (AA Aa Aa) (Av (An (D2 Aa Aa (Bx (A6 (A6 (Be (AI (hp,()) hU (AL.c Aa (AL.c Aa (AL.c Aa AL.nil))) (sS (sC (sC (sC (sC (sC (sC (sC sN))))))))))))))))
      ·obtain⟨hs,hn⟩:=p;obtain⟨hV,hx,hW⟩:=Xh hD hE;replace hx:IW hs hn hp=some hV:=hx;unfold IW at hx;refine SG (H':=[.itz hr (AF Au (BL o.fKeys c.fTenant ([]:(List (Al×Aj))))) (AF Au hw) (some (hs,Au hn)),.map hj (AF Au hp),.blk hd [rB o.fMade,rv hg,rv (.map (some ha)),rv (.map (some hb)),rv he] 59,.blk b1 (AV c) 34,.row hg 9 1 (A4 eS o.fEvents),.map ha (AF Ao o.fResults),.map hb (AF Ad o.fKeys),.row he 67 8 (A4 Af o.fPending)]) Aa (wv (AA Aa Aa) (Av (An (DH Aa Aa (Ay (AP (AJ (Ak (wv (r:=C7 [rS hs,BQ (Cf hn)]) (Ou (i:=0) Aa Aa) (wv (AA Aa Aa) (wv (AA Aa Aa) (Cc (cs:=[rv (.slice none 0 0),At 0]) Ur Aa Aa (λhG=>?_)))))))))))));refine wa Aa (Br (i:=0) VM Aa Aa Aa (Cq.c Aa) Aa Aa (cs':=[AY 4 (A4 Ab hn.fValue),At hn.fVersion]) Aa (H':=[.blk hG (Cf hn) 90,.itz hr (AF Au (BL o.fKeys c.fTenant ([]:(List (Al×Aj))))) (AF Au hw) (some (hs,Au hn)),.map hj (AF Au hp),.blk hd [rB o.fMade,rv hg,rv (.map (some ha)),rv (.map (some hb)),rv he] 59,.blk b1 (AV c) 34,.row hg 9 1 (A4 eS o.fEvents),.map ha (AF Ao o.fResults),.map hb (AF Ad o.fKeys),.row he 67 8 (A4 Af o.fPending)]) Aa (Av (Ai (wm Aa (wm Aa (wv (Bf (i:=0) Tryz.isAgg90 VM Aa Aa Aa Aa) (HD (enc:=Au) (xs:=hp) (v:=hn) (i:=2) Lu Cu Aa Aa Aa Aa (H':=[.blk hG (Cf hn) 90,.itz hr (AF Au (BL o.fKeys c.fTenant ([]:(List (Al×Aj))))) (AF Au hw) (some (hs,Au hn)),.map hj (AF Au (mset hp hs hn)),.blk hd [rB o.fMade,rv hg,rv (.map (some ha)),rv (.map (some hb)),rv he] 59,.blk b1 (AV c) 34,.row hg 9 1 (A4 eS o.fEvents),.map ha (AF Ao o.fResults),.map hb (AF Ad o.fKeys),.row he 67 8 (A4 Af o.fPending)]) Aa (Am (AG (WK.uncurz (i:=1) Aa ?_))))))))));have hX:=M0 hx hW;exact Aw (AI (hw,mset hp hs hn,()) ⟨hX,Qy hE⟩ (AL.c Aa (AL.c Aa (AL.c Aa (AL.c Aa AL.nil)))) (sS (sC (sC (sC (sC (sC (sC (sC (sC sN))))))))))
     ·rintro⟨h4,⟨⟩⟩ hz;refine Cy (l':=[(0,rP hd 0),(3,rP b1 0),(9,rv (.map (some hj)))]) (H':=[.map hj (AF Au h4),.blk hd [rB o.fMade,rv hg,rv (.map (some ha)),rv (.map (some hb)),rv he] 59,.blk b1 (AV c) 34,.row hg 9 1 (A4 eS o.fEvents),.map ha (AF Ao o.fResults),.map hb (AF Ad o.fKeys),.row he 67 8 (A4 Af o.fPending)]) Aa Aa ?_;replace hz:Gv F o c h4=some r:=hz;unfold Gv at hz;refine Bc (AP (An (Ak (wm Aa (vF Cl Aa H8 (vL 2 J2 Aa (ob hz λhi hY hZ=>DX (Hr:=[.blk hd [rB o.fMade,rv hg,rv (.map (some ha)),rv (.map (some hb)),rv he] 59,.blk b1 (AV c) 34,.row hg 9 1 (A4 eS o.fEvents),.map ha (AF Ao o.fResults),.map hb (AF Ad o.fKeys),.row he 67 8 (A4 Af o.fPending)]) Tryz.call65 (WP F hj h4 c.fEffects hi hY) Aa (Abq _) Aa ?_)))))));rintro _ _ ⟨rfl,rfl⟩;refine wa Aa (Bs (wm Aa (wv (BT Aa Aa) (Av (cz hZ Aa (λga gb=>?_) (λga gc=>?_))))))
      ·refine Ak (wm Aa (wa Aa (wa Aa (Av (A1 (Ae ?_))))));obtain rfl:=A5 gb;exact A0 (DJ Mi (AM Aa) (AM Aa)) (sS (sC (sS (sC (sC (sC (sC sN))))))) ⟨hg,he,Aa,Aa⟩
      ·refine Ay (AP (An (Db 7 [0,3,9] [⟨[],rP hd 0,none,none,none⟩,⟨[0],rP hd 0,none,none,none⟩,⟨[1],rP hd 3,none,none,none⟩,⟨[2],rv (.map (some hb)),none,none,none⟩,⟨[],rP b1 1,none,none,none⟩,⟨[4],rS c.fTenant,none,none,none⟩,⟨[],rv (.map (some hj)),none,none,none⟩] ?_ (λβ=>?_))))
       ·refine CL (Aq Aa) (CL (AB Aa) (CL (A9 Gn Aa Uu Aa Aa) (Gi (AT (i:=1) U3 Aa Aa Aa) (CL (A9 Cl Aa Cv Aa Aa) (Gi (AT (i:=2) CD Aa Aa Aa) (CL (Aq Aa) ?_))))));exact Pb
       refine Dg (H1:=[.map hj (AF Au hi.2),.blk hd [rB o.fMade,rv hg,rv (.map (some ha)),rv (.map (some hb)),rv he] 59,.blk b1 (AV c) 34,.row hg 9 1 (A4 eS o.fEvents),.map ha (AF Ao o.fResults),.map hb (AF Ad o.fKeys),.row he 67 8 (A4 Af o.fPending)]) [66,67,68,69,70,71,72,0,3,9] ?_;refine WL.freezeM (i:=0) Aa (WL.up (d:=72) (r:=Mg (AF Au hi.2)) Aa (Up.fact (i:=0) Aa) (HD (enc:=Ad) (xs:=o.fKeys) (v:=hi.2) (i:=5) Ut Cu Aa Aa Aa Aa (H':=[.fact (.map (some hj)) (Mg (AF Au hi.2)),.blk hd [rB o.fMade,rv hg,rv (.map (some ha)),rv (.map (some hb)),rv he] 59,.blk b1 (AV c) 34,.row hg 9 1 (A4 eS o.fEvents),.map ha (AF Ao o.fResults),.map hb (AF Ad (mset o.fKeys c.fTenant hi.2)),.row he 67 8 (A4 Af o.fPending)]) Aa (Av (An (ck gc λgd ge=>Exists.elim MX λinf hinf=>NI 9 8 [0,3] [] [{ deps:=[],r:=λ_=>rP hd 0 },{ deps:=[],r:=λ_=>rP hd 0 },{ deps:=[1],r:=λ_=>rP hd 0 },{ deps:=[2],r:=λ_=>rP hd 1 },{ deps:=[3],r:=λ_=>rv hg },{ deps:=[],r:=λ_=>rP b1 0 },{ deps:=[5],r:=λ_=>rS c.fEvent },{ deps:=[6],r:=λ_=>AY 1 (A4 eS ([c.fEvent]:List Al)) },{ deps:=[4,7],r:=λhf=>rv hf,dyn:=true }] (λhf=>[.row hf 9 1 (A4 eS (o.fEvents++([c.fEvent]:List Al))),.fact (.map (some hj)) (Mg (AF Au hi.2)),.blk hd [rB o.fMade,rv hg,rv (.map (some ha)),rv (.map (some hb)),rv he] 59,.blk b1 (AV c) 34,.map ha (AF Ao o.fResults),.map hb (AF Ad (mset o.fKeys c.fTenant hi.2)),.row he 67 8 (A4 Af o.fPending)]) ?_ (λhf=>?_))))))
       ·refine J7 (Aq Aa) (J7 (Aq Aa) (J7 (AB Aa) (J7 (A9 Gn Aa GN Aa Aa) (TN (fun {hf}=>Ez (AT (i:=1) Mj Aa Aa Aa)) (fun {hf}=>Ez (AT (i:=2) Mj Aa Aa Aa)) (J7 (A9 Cl Aa Cv Aa Aa) (TN (fun {hf}=>Ez (AT (i:=2) CD Aa Aa Aa)) (fun {hf}=>Ez (AT (i:=3) CD Aa Aa Aa)) (Zv (Ck (ys:=([c.fEvent]:List Al)) (enc:=eS) (css:=[[rS c.fEvent]]) (xs:=[.tmp 79]) Cn Cv PW Aa Aa Aa ⟨D1.one Aa (Up.refl _),trivial⟩ Aa CY Aa Aa) (oxx (JC (xs:=o.fEvents) (ys:=([c.fEvent]:List Al)) (enc:=eS) (i:=3) Cn hinf.1 hinf.2.1 hinf.2.2.1 hinf.2.2.2 Aa Aa Aa Aa Aa (If.z Aa Aa) CY JT gd) ?_))))))));exact oxe
       refine Dg (H1:=[.row hf 9 1 (A4 eS (o.fEvents++([c.fEvent]:List Al))),.fact (.map (some hj)) (Mg (AF Au hi.2)),.blk hd [rB o.fMade,rv hg,rv (.map (some ha)),rv (.map (some hb)),rv he] 59,.blk b1 (AV c) 34,.map ha (AF Ao o.fResults),.map hb (AF Ad (mset o.fKeys c.fTenant hi.2)),.row he 67 8 (A4 Af o.fPending)]) [73,74,75,76,77,78,79,80,81,0,3] ?_;refine wv (AB Aa) (vF Gn Aa GN (BA (i:=2) GN Aa Aa (CB (i:=0) Aa) Aa Aa (cs':=[rB o.fMade,rv hf,rv (.map (some ha)),rv (.map (some hb)),rv he]) Aa (H':=[.row hf 9 1 (A4 eS (o.fEvents++([c.fEvent]:List Al))),.fact (.map (some hj)) (Mg (AF Au hi.2)),.blk hd [rB o.fMade,rv hf,rv (.map (some ha)),rv (.map (some hb)),rv he] 59,.blk b1 (AV c) 34,.map ha (AF Ao o.fResults),.map hb (AF Ad (mset o.fKeys c.fTenant hi.2)),.row he 67 8 (A4 Af o.fPending)]) Aa (Av (An (ob ge λhl gf gg=>Db 9 [0,3] [⟨[],rP hd 0,none,none,none⟩,⟨[0],rP hd 0,none,none,none⟩,⟨[1],rP hd 2,none,none,none⟩,⟨[2],rv (.map (some ha)),none,none,none⟩,⟨[],rP b1 0,none,none,none⟩,⟨[4],rS c.fEvent,none,none,none⟩,⟨[],rP b1 3,none,none,none⟩,⟨[6],AY 4 (A4 Ab c.fResult),none,none,none⟩,⟨[7],AY 4 (A4 Ab hl),none,none,none⟩] ?_ (λβ=>?_))))))
       ·refine CL (Aq Aa) (CL (AB Aa) (CL (A9 Gn Aa VN Aa Aa) (Gi (AT (i:=2) VV Aa Aa Aa) (CL (A9 Cl Aa Cv Aa Aa) (Gi (AT (i:=3) CD Aa Aa Aa) (CL (A9 Cl Aa C5 Aa Aa) (Gi (AT (i:=3) Dt Aa Aa Aa) (KS (Em SD (H4 c.fResult hl gf) Aa) ?_))))))));exact Pb
       refine Dg (H1:=[.row hf 9 1 (A4 eS (o.fEvents++([c.fEvent]:List Al))),.fact (.map (some hj)) (Mg (AF Au hi.2)),.blk hd [rB o.fMade,rv hf,rv (.map (some ha)),rv (.map (some hb)),rv he] 59,.blk b1 (AV c) 34,.map ha (AF Ao o.fResults),.map hb (AF Ad (mset o.fKeys c.fTenant hi.2)),.row he 67 8 (A4 Af o.fPending)]) [84,85,86,87,88,89,90,91,92,0,3] ?_;refine HD (enc:=Ao) (xs:=o.fResults) (v:=hl) (i:=4) VL Cu Aa Aa Aa Aa (H':=[.row hf 9 1 (A4 eS (o.fEvents++([c.fEvent]:List Al))),.fact (.map (some hj)) (Mg (AF Au hi.2)),.blk hd [rB o.fMade,rv hf,rv (.map (some ha)),rv (.map (some hb)),rv he] 59,.blk b1 (AV c) 34,.map ha (AF Ao (mset o.fResults c.fEvent hl)),.map hb (AF Ad (mset o.fKeys c.fTenant hi.2)),.row he 67 8 (A4 Af o.fPending)]) Aa (Av (An (Ak (vF Cl Aa H8 (vL 3 J2 Aa (wv (Bq (ys:=c.fEffects) (enc:=Ah) EV Aa) (wv (r:=At 0) (Aq Aa) (Av (AJ (ob gg λgh gi gj=>Bu (S:=Nat×(Int×(List A3))×(Value)) (V:=((List A3))×(Value)) 2 (λσ=>Ci (λσ=>IV c σ.1 σ.2) σ.1 σ.2.1=some gh) (λσ=>[(0,rP hd 0),(3,rP b1 0),(94,AY 4 (A4 Ah c.fEffects)),(95,At (c.fEffects.length:Int)),(96,At σ.2.1.1)]) (λσ=>[.row hf 9 1 (A4 eS (o.fEvents++([c.fEvent]:List Al))),.blk hd [rB o.fMade,rv hf,rv (.map (some ha)),rv (.map (some hb)),rv σ.2.2] 59,.blk b1 (AV c) 34,.map ha (AF Ao (mset o.fResults c.fEvent hl)),.map hb (AF Ad (mset o.fKeys c.fTenant hi.2)),.row σ.2.2 67 8 (A4 Af σ.2.1.2)]) (λσ=>σ.1) (F,(0,o.fPending),he) gi (AL.c5 Aa Aa Aa Aa Aa AL.nil) (sC (sS (sC (sC (sC (sC (sC sN))))))) (λσ=>IU o c hi hl σ.1=some r) (λσ=>[]) (λσ=>[.row hf 9 1 (A4 eS (o.fEvents++([c.fEvent]:List Al))),.blk hd [rB o.fMade,rv hf,rv (.map (some ha)),rv (.map (some hb)),rv σ.2] 59,.map ha (AF Ao (mset o.fResults c.fEvent hl)),.map hb (AF Ad (mset o.fKeys c.fTenant hi.2)),.row σ.2 67 8 (A4 Af σ.1)]) ?_ ?_))))))))))
       ·rintro⟨gC,⟨hh,ho⟩,hq⟩ gl;refine BW (l':=[(0,rP hd 0),(3,rP b1 0),(94,AY 4 (A4 Ah c.fEffects)),(95,At (c.fEffects.length:Int)),(96,At hh)]) (H':=[.row hf 9 1 (A4 eS (o.fEvents++([c.fEvent]:List Al))),.blk hd [rB o.fMade,rv hf,rv (.map (some ha)),rv (.map (some hb)),rv hq] 59,.blk b1 (AV c) 34,.map ha (AF Ao (mset o.fResults c.fEvent hl)),.map hb (AF Ad (mset o.fKeys c.fTenant hi.2)),.row hq 67 8 (A4 Af ho)]) Aa Aa ?_;obtain⟨gm,rfl,h5,h0,hH⟩:=C4 gl;replace h0:IV c hh ho=some h5:=h0;unfold IV at h0;refine Ak (wv (C0 Aa Aa) (Av (An (cz h0 Aa (λgp gq=>?_) (λgp gr=>?_)))))
        ·refine Ay (AP (Dm (S:=((List A3))×(Value)) (λσ=>Hw hh σ.1=some h5) (λσ=>[(0,rP hd 0),(3,rP b1 0),(94,AY 4 (A4 Ah c.fEffects)),(95,At (c.fEffects.length:Int)),(96,At hh)]) (λσ=>[.row hf 9 1 (A4 eS (o.fEvents++([c.fEvent]:List Al))),.blk hd [rB o.fMade,rv hf,rv (.map (some ha)),rv (.map (some hb)),rv σ.2] 59,.blk b1 (AV c) 34,.map ha (AF Ao (mset o.fResults c.fEvent hl)),.map hb (AF Ad (mset o.fKeys c.fTenant hi.2)),.row σ.2 67 8 (A4 Af σ.1)]) ?_ ?_))
         ·refine AJ (Ak (wm Aa (ck gq λgs gt=>wv (By (enc:=Ah) (ys:=c.fEffects) EV Dl Aa Aa gs) (wv (Di H9 Dl Aa Aa Aa) (Cc (cs:=[At 0,rS ([]:Al),rv (.slice none 0 0),At 0]) Lt Aa Aa (λht=>?_))))));refine wa Aa (Br (i:=0) Dl Aa Aa Aa (Cq.c Aa) Aa Aa (cs':=[At ((Ap c.fEffects hh).fKind),rS ((Ap c.fEffects hh).fKey),AY 4 (A4 Ab ((Ap c.fEffects hh).fValue)),At ((Ap c.fEffects hh).fDelay)]) Aa (H':=[.blk ht (Ah (Ap c.fEffects hh)) 65,.row hf 9 1 (A4 eS (o.fEvents++([c.fEvent]:List Al))),.blk hd [rB o.fMade,rv hf,rv (.map (some ha)),rv (.map (some hb)),rv hq] 59,.blk b1 (AV c) 34,.map ha (AF Ao (mset o.fResults c.fEvent hl)),.map hb (AF Ad (mset o.fKeys c.fTenant hi.2)),.row hq 67 8 (A4 Af ho)]) Aa (Bs (vF BP Aa D4 (vL 0 D5 Aa (ob gt λgu gv gw=>CG Tryz.call66 (HJ ((Ap c.fEffects hh).fKind) gu gv) Aa (Av (cz gw Aa (λgx gy=>?_) (λgx gz=>?_))))))))
          ·refine Ak (vF Cl Aa Cv (vL 3 CD Aa (wm Aa (ck gy λg0 g1=>ck g1 λg2 g3=>Cz (rs:=[rS c.fEvent,At hh]) (r:=C7 [rS (BY c.fEvent hh),At (Cg c.fEvent hh)]) Tryz.call67 Aa (N8 c.fEvent hh g0 g2) Aa Aa (wm Aa (wv (AA Aa Aa) (wv (AA Aa Aa) (wa Aa (wa Aa (Av (ob g3 λhm g4 g5=>ck g5 λg6 g7=>Exists.elim O8 λinf hinf=>NI 17 16 [0,3,14,15,94,95,96] [] [{ deps:=[],r:=λ_=>rP hd 0 },{ deps:=[],r:=λ_=>rP hd 0 },{ deps:=[1],r:=λ_=>rP hd 0 },{ deps:=[2],r:=λ_=>rP hd 4 },{ deps:=[3],r:=λ_=>rv hq },{ deps:=[],r:=λ_=>rS (BY c.fEvent hh) },{ deps:=[],r:=λ_=>rP b1 1 },{ deps:=[6],r:=λ_=>rS c.fTenant },{ deps:=[],r:=λ_=>rP b1 0 },{ deps:=[8],r:=λ_=>rS c.fEvent },{ deps:=[],r:=λ_=>rP b1 5 },{ deps:=[10],r:=λ_=>At c.fAt },{ deps:=[],r:=λ_=>BQ (Ah (Ap c.fEffects hh)) },{ deps:=[12],r:=λ_=>BQ (Ah hm) },{ deps:=[5,7,9,11,13],r:=λ_=>BQ [rS (BY c.fEvent hh),rS c.fTenant,rS c.fEvent,At c.fAt,At hm.fKind,rS hm.fKey,AY 4 (A4 Ab hm.fValue),At hm.fDelay] },{ deps:=[14],r:=λ_=>AY 8 (A4 Af ([(A3.mk (BY c.fEvent hh) c.fTenant c.fEvent c.fAt hm)]:List A3)) },{ deps:=[4,15],r:=λhk=>rv hk,dyn:=true }] (λhk=>[.row hk 67 8 (A4 Af (ho++([(A3.mk (BY c.fEvent hh) c.fTenant c.fEvent c.fAt hm)]:List A3))),.blk ht (Ah (Ap c.fEffects hh)) 65,.row hf 9 1 (A4 eS (o.fEvents++([c.fEvent]:List Al))),.blk hd [rB o.fMade,rv hf,rv (.map (some ha)),rv (.map (some hb)),rv hq] 59,.blk b1 (AV c) 34,.map ha (AF Ao (mset o.fResults c.fEvent hl)),.map hb (AF Ad (mset o.fKeys c.fTenant hi.2))]) ?_ (λhk=>?_))))))))))))
           ·refine J7 (Aq Aa) (J7 (Aq Aa) (J7 (AB Aa) (J7 (A9 Gn Aa NC Aa Aa) (TN (fun {hk}=>Ez (AT (i:=2) SE Aa Aa Aa)) (fun {hk}=>Ez (AT (i:=3) SE Aa Aa Aa)) (J7 (Aq Aa) (J7 (A9 Cl Aa Cv Aa Aa) (TN (fun {hk}=>Ez (AT (i:=3) CD Aa Aa Aa)) (fun {hk}=>Ez (AT (i:=4) CD Aa Aa Aa)) (J7 (A9 Cl Aa Cv Aa Aa) (TN (fun {hk}=>Ez (AT (i:=3) CD Aa Aa Aa)) (fun {hk}=>Ez (AT (i:=4) CD Aa Aa Aa)) (J7 (A9 Cl Aa C6 Aa Aa) (TN (fun {hk}=>Ez (AT (i:=3) CM Aa Aa Aa)) (fun {hk}=>Ez (AT (i:=4) CM Aa Aa Aa)) (TN (fun {hk}=>Ez (Bf (i:=0) H9 Dl Aa Aa Aa Aa)) (fun {hk}=>Ez (Bf (i:=1) H9 Dl Aa Aa Aa Aa)) (Zv (Em Tryz.call44 (Tb (Ap c.fEffects hh) hm g4) Aa) (J7 (GK Aa Aa Aa Aa Aa Aa Aa Aa Aa) (Zv (Ck (ys:=([(A3.mk (BY c.fEvent hh) c.fTenant c.fEvent c.fAt hm)]:List A3)) (enc:=Af) (css:=[[rS (BY c.fEvent hh),rS c.fTenant,rS c.fEvent,At c.fAt,At hm.fKind,rS hm.fKey,AY 4 (A4 Ab hm.fValue),At hm.fDelay]]) (xs:=[.tmp 125]) EU J1 Us Aa Aa Aa ⟨D1.agg ⟨Up.refl _,Up.refl _,Up.refl _,Up.refl _,Up.refl _,Up.refl _,Up.refl _,Up.refl _,trivial⟩,trivial⟩ Aa C1 Aa Aa) (oxx (JC (xs:=ho) (ys:=([(A3.mk (BY c.fEvent hh) c.fTenant c.fEvent c.fAt hm)]:List A3)) (enc:=Af) (i:=6) EU hinf.1 hinf.2.1 hinf.2.2.1 hinf.2.2.2 Aa Aa Aa Aa Aa (If.z Aa Aa) C1 D8 g6) ?_))))))))))))))));exact oxe
           refine Dg (H1:=[.row hk 67 8 (A4 Af (ho++([(A3.mk (BY c.fEvent hh) c.fTenant c.fEvent c.fAt hm)]:List A3))),.blk ht (Ah (Ap c.fEffects hh)) 65,.row hf 9 1 (A4 eS (o.fEvents++([c.fEvent]:List Al))),.blk hd [rB o.fMade,rv hf,rv (.map (some ha)),rv (.map (some hb)),rv hq] 59,.blk b1 (AV c) 34,.map ha (AF Ao (mset o.fResults c.fEvent hl)),.map hb (AF Ad (mset o.fKeys c.fTenant hi.2))]) [111,112,113,114,115,116,117,118,119,120,121,122,123,124,125,126,127,0,3,14,15,94,95,96] ?_;exact wv (AB Aa) (vF Gn Aa NC (BA (i:=3) NC Aa Aa (CB (i:=0) Aa) Aa Aa (cs':=[rB o.fMade,rv hf,rv (.map (some ha)),rv (.map (some hb)),rv hk]) Aa (H':=[.row hk 67 8 (A4 Af (ho++([(A3.mk (BY c.fEvent hh) c.fTenant c.fEvent c.fAt hm)]:List A3))),.blk ht (Ah (Ap c.fEffects hh)) 65,.row hf 9 1 (A4 eS (o.fEvents++([c.fEvent]:List Al))),.blk hd [rB o.fMade,rv hf,rv (.map (some ha)),rv (.map (some hb)),rv hk] 59,.blk b1 (AV c) 34,.map ha (AF Ao (mset o.fResults c.fEvent hl)),.map hb (AF Ad (mset o.fKeys c.fTenant hi.2))]) Aa (Am (AG (BU (H2:=[.row hf 9 1 (A4 eS (o.fEvents++([c.fEvent]:List Al))),.blk hd [rB o.fMade,rv hf,rv (.map (some ha)),rv (.map (some hb)),rv hk] 59,.blk b1 (AV c) 34,.map ha (AF Ao (mset o.fResults c.fEvent hl)),.map hb (AF Ad (mset o.fKeys c.fTenant hi.2)),.row hk 67 8 (A4 Af (ho++([(A3.mk (BY c.fEvent hh) c.fTenant c.fEvent c.fAt hm)]:List A3))),.blk ht (Ah (Ap c.fEffects hh)) 65]) ((As (i:=2) Aa).trans (Abp _ ((As (i:=2) Aa).trans (Abp _ ((As (i:=2) Aa).trans (Abp _ ((As (i:=2) Aa).trans (Abp _ ((As (i:=2) Aa).trans (Abp _ (Abq _))))))))))) (Aw (AI (ho++([(A3.mk (BY c.fEvent hh) c.fTenant c.fEvent c.fAt hm)]:List A3),hk) g7 (AL.c5 Aa Aa Aa Aa Aa AL.nil) (sC (sC (sC (sC (sC (sC (sS sN))))))))))))))
          ·exact Ay (AG (Aw (AI (ho,hq) gz (AL.c5 Aa Aa Aa Aa Aa AL.nil) (sS (sC (sC (sC (sC (sC (sC sN))))))))))
         ·rintro⟨h8,hA⟩ h1;refine BW (l':=[(0,rP hd 0),(3,rP b1 0),(94,AY 4 (A4 Ah c.fEffects)),(95,At (c.fEffects.length:Int)),(96,At hh)]) (H':=[.row hf 9 1 (A4 eS (o.fEvents++([c.fEvent]:List Al))),.blk hd [rB o.fMade,rv hf,rv (.map (some ha)),rv (.map (some hb)),rv hA] 59,.blk b1 (AV c) 34,.map ha (AF Ao (mset o.fResults c.fEvent hl)),.map hb (AF Ad (mset o.fKeys c.fTenant hi.2)),.row hA 67 8 (A4 Af h8)]) Aa Aa ?_;replace h1:Hw hh h8=some h5:=h1;unfold Hw at h1;refine Ai (ck h1 λg8 g9=>wv (Bz Aa Aa g8) (wm Aa (Am ?_)));have gA:=Bk g9 hH;exact Aw (AI (gm,(hh+1,h8),hA) ⟨gA,Aby _⟩ (AL.c5 Aa Aa Aa Aa Aa AL.nil) (sC (sC (sC (sC (sC (sC sN)))))))
        ·refine Bx (A6 ?_);have gB:=BX gr hH gj;exact A6 (Be (AI (ho,hq) gB AL.nil (sC (sC (sS (sC (sC (sC sN))))))))
       ·rintro⟨hB,hu⟩ h2;refine Cy (l':=[]) (H':=[.row hf 9 1 (A4 eS (o.fEvents++([c.fEvent]:List Al))),.blk hd [rB o.fMade,rv hf,rv (.map (some ha)),rv (.map (some hb)),rv hu] 59,.map ha (AF Ao (mset o.fResults c.fEvent hl)),.map hb (AF Ad (mset o.fKeys c.fTenant hi.2)),.row hu 67 8 (A4 Af hB)]) Aa Aa ?_;replace h2:IU o c hi hl hB=some r:=h2;unfold IU at h2;refine Bc (AP (Ak (wa Aa (wa Aa (Av (A1 (BU (H2:=[.blk hd [rB o.fMade,rv hf,rv (.map (some ha)),rv (.map (some hb)),rv hu] 59,.row hf 9 1 (A4 eS (o.fEvents++([c.fEvent]:List Al))),.map ha (AF Ao (mset o.fResults c.fEvent hl)),.map hb (AF Ad (mset o.fKeys c.fTenant hi.2)),.row hu 67 8 (A4 Af hB)]) ((As (i:=1) Aa).trans (Abp _ (Abq _))) ?_)))))));obtain rfl:=A5 h2;exact A0 (DJ Mi (AM Aa) (AM Aa)) (sC (sC (sC (sC (sC sN))))) ⟨hf,hu,Aa,Aa⟩
theorem N1 (F:Nat)(hf:Nat)(ha:Value)(hd:Nat)(he:Nat)(hb:Value)(o:AR)(rc:Al)(r:Int×AR)(h:PB F o rc=some r):Fn Tryz.prog GE 33 [rP hf 0,rS rc] [.blk hf [rB o.fMade,rv ha,rv (.map (some hd)),rv (.map (some he)),rv hb] 59,.row ha 9 1 (A4 eS o.fEvents),.map hd (AF Ao o.fResults),.map he (AF Ad o.fKeys),.row hb 67 8 (A4 Af o.fPending)] (λR H=>∃w0_1:Value,∃w0_4:Value,R=At r.1∧H=[.blk hf [rB r.2.fMade,rv w0_1,rv (.map (some hd)),rv (.map (some he)),rv w0_4] 59,.row w0_1 9 1 (A4 eS r.2.fEvents),.map hd (AF Ao r.2.fResults),.map he (AF Ad r.2.fKeys),.row w0_4 67 8 (A4 Af r.2.fPending)]):=by
 refine enter (n:=107) Tryz.func33 Aa Tryz.ntmps33 Aa (λw Z=>?_);unfold PB at h;refine Ak (wa Aa (Av (An (Ak (wm Aa (ob h λr1 e3 h2=>DX (Hr:=[.row ha 9 1 (A4 eS o.fEvents),.map hd (AF Ao o.fResults),.map he (AF Ad o.fKeys),.row hb 67 8 (A4 Af o.fPending)]) PY (G8 hf ha hd he hb o r1 e3) Aa (Abq _) Aa ?_))))));rintro _ _ ⟨rfl,rfl⟩;refine wv (BE Aa) (Av (cz h2 Aa (λc4 h5=>?_) (λc4 h6=>?_)))
 ·refine Ak (wa Aa (Av (A1 (Ae ?_))));obtain rfl:=A5 h5;exact A0 (BJ Uy (AM Aa)) (sC (sC (sC (sC (sC sN))))) ⟨ha,hb,Aa,Aa⟩
 ·refine Ay (AP (Ak (wm Aa (ob h6 λr7 e9 h8=>CG Tryz.call62 (Xz F rc r7 e9) Aa (wm Aa (wv (AA Aa Aa) (wv (AA Aa Aa) (wa Aa (wa Aa (Bs (wa Aa (Av (An (Ak (wm Aa (wv (Bq (ys:=r7.1) (enc:=eS) Cn Aa) (wv (r:=At 0) (Aq Aa) (Av (AJ (WC.nilrow (e:=42) (sz:=1) (GO (H2:=[.blk hf [rB o.fMade,rv ha,rv (.map (some hd)),rv (.map (some he)),rv hb] 59,.row ha 9 1 (A4 eS o.fEvents),.map hd (AF Ao o.fResults),.map he (AF Ad o.fKeys),.row hb 67 8 (A4 Af o.fPending),.row (.slice none 0 0                                          ) 42 1 (A4 Bm ([]:List (List Al)))]) ((As (i:=1) Aa).trans (Abp _ ((As (i:=1) Aa).trans (Abp _ ((As (i:=1) Aa).trans (Abp _ ((As (i:=1) Aa).trans (Abp _ ((As (i:=1) Aa).trans (Abp _ (Abq _))))))))))) (ob h8 λh1 h3 hx=>?_))))))))))))))))))))));refine Bu (S:=Nat×((List (List Al))×Int)×(Value)) (V:=((List (List Al)))×(Value)) 0 (λσ=>Ci (λσ=>LP F o r7 σ.1 σ.2) σ.1 σ.2.1=some h1) (λσ=>[(0,rP hf 0),(1,rS rc),(7,rv σ.2.2),(28,AY 1 (A4 eS r7.1)),(29,At (r7.1.length:Int)),(30,At σ.2.1.2)]) (λσ=>[.blk hf [rB o.fMade,rv ha,rv (.map (some hd)),rv (.map (some he)),rv hb] 59,.row ha 9 1 (A4 eS o.fEvents),.map hd (AF Ao o.fResults),.map he (AF Ad o.fKeys),.row hb 67 8 (A4 Af o.fPending),.row σ.2.2 42 1 (A4 Bm σ.2.1.1)]) (λσ=>σ.1) (F,(([]:List (List Al)),0),(.slice none 0 0                                          )) h3 (AL.c Aa (AL.c5 Aa Aa Aa Aa Aa AL.nil)) (sC (sC (sC (sC (sC (sC sN)))))) (λσ=>LO F o rc σ.1=some r) (λσ=>[(0,rP hf 0),(1,rS rc),(7,rv σ.2)]) (λσ=>[.blk hf [rB o.fMade,rv ha,rv (.map (some hd)),rv (.map (some he)),rv hb] 59,.row ha 9 1 (A4 eS o.fEvents),.map hd (AF Ao o.fResults),.map he (AF Ad o.fKeys),.row hb 67 8 (A4 Af o.fPending),.row σ.2 42 1 (A4 Bm σ.1)]) ?_ ?_
  ·rintro⟨gx,⟨hn,ho⟩,v46⟩ h4;refine BW (l':=[(0,rP hf 0),(1,rS rc),(7,rv v46),(28,AY 1 (A4 eS r7.1)),(29,At (r7.1.length:Int)),(30,At ho)]) (H':=[.blk hf [rB o.fMade,rv ha,rv (.map (some hd)),rv (.map (some he)),rv hb] 59,.row ha 9 1 (A4 eS o.fEvents),.map hd (AF Ao o.fResults),.map he (AF Ad o.fKeys),.row hb 67 8 (A4 Af o.fPending),.row v46 42 1 (A4 Bm hn)]) Aa Aa ?_;obtain⟨h7,rfl,t70,hp,hw⟩:=C4 h4;replace hp:LP F o r7 hn ho=some t70:=hp;unfold LP at hp;refine Ak (wv (C0 Aa Aa) (Av (An (cz hp Aa (λc76 h9=>?_) (λc76 hA=>?_)))))
   ·refine Ay (AP (An (AJ (Ak (ck h9 λhB hC=>wv (By (enc:=eS) (ys:=r7.1) Cn Cv Aa Aa hB) (wv (Bg CD Aa Aa) (wa Aa (Bs (wm Aa (ob hC λhm hD hE=>CG Tryz.call63 (Vz F (Ap r7.1 ho) hm hD) Aa (wm Aa (wv (AA Aa Aa) (wv (AA Aa Aa) (wa Aa (wa Aa (Av (An (Ak (wm Aa (wv (BT Aa Aa) (Av ?_)))))))))))))))))))));refine cz hE Aa (λhG hH=>?_) (λhG hI=>?_)
    ·refine Ak (wa Aa (Av (A1 (Ae (AC (Ae (Ae (Bj ?_))))))));have hJ:=BB hH hw hx;refine AC (Ae ?_);obtain rfl:=A5 hJ;exact A0 (BJ Uy (AM Aa)) (sC (sC (sC (sC (sC (sS sN)))))) ⟨ha,hb,Aa,Aa⟩
    ·refine Ay (AP (Ai (wm Aa (wm Aa (Bb (ys:=([hm.1]:List (List Al))) (enc:=Bm) (css:=[[AY 1 (A4 eS hm.1)]]) (xs:=[.tmp 42]) Hg GN PX Aa Aa Aa ⟨D1.one Aa (Up.refl _),trivial⟩ Aa CZ Aa Aa Aa (λhK=>?_))))));refine ck hI λhL hN=>Exists.elim QF λinf hinf=>Cb (xs:=hn) (ys:=([hm.1]:List (List Al))) (enc:=Bm) (i:=6) Hg hinf.1 hinf.2.1 hinf.2.2.1 hinf.2.2.2 Aa Aa Aa Aa Aa (If.w (i:=0) Aa Aa) CZ Jj hL Aa (λhy=>?_);refine wa Aa (Am (AG (AP (Ai (ck hN λhO hP=>wv (Bz Aa Aa hO) (wm Aa (Am (BU (H2:=[.blk hf [rB o.fMade,rv ha,rv (.map (some hd)),rv (.map (some he)),rv hb] 59,.row ha 9 1 (A4 eS o.fEvents),.map hd (AF Ao o.fResults),.map he (AF Ad o.fKeys),.row hb 67 8 (A4 Af o.fPending),.row hy 42 1 (A4 Bm (hn++([hm.1]:List (List Al)))),.row (.slice (some ⟨hK,0,none⟩) 1 1) 42 1 (A4 Bm ([hm.1]:List (List Al)))]) ((As (i:=2) Aa).trans (Abp _ ((As (i:=2) Aa).trans (Abp _ ((As (i:=2) Aa).trans (Abp _ ((As (i:=2) Aa).trans (Abp _ ((As (i:=2) Aa).trans (Abp _ (Abq _))))))))))) ?_))))))));have hQ:=Bk hP hw;exact Aw (AI (h7,(hn++([hm.1]:List (List Al)),ho+1),hy) ⟨hQ,Aby _⟩ (AL.c Aa (AL.c5 Aa Aa Aa Aa Aa AL.nil)) (sC (sC (sC (sC (sC (sC (sS sN))))))))
   ·refine Bx (A6 ?_);have hR:=BX hA hw hx;exact A6 (Be (AI (hn,v46) hR (AL.c Aa (AL.c Aa (AL.c Aa AL.nil))) (sC (sC (sC (sC (sC (sC sN))))))))
  ·rintro⟨hg,hj⟩ hq;refine Cy (l':=[(0,rP hf 0),(1,rS rc),(7,rv hj)]) (H':=[.blk hf [rB o.fMade,rv ha,rv (.map (some hd)),rv (.map (some he)),rv hb] 59,.row ha 9 1 (A4 eS o.fEvents),.map hd (AF Ao o.fResults),.map he (AF Ad o.fKeys),.row hb 67 8 (A4 Af o.fPending),.row hj 42 1 (A4 Bm hg)]) Aa Aa ?_;replace hq:LO F o rc hg=some r:=hq;unfold LO at hq;refine Bc (AP (An (ck hq λhz hS=>AH [(0,rP hf 0),(1,rS rc),(7,rv hj),(55,rB ((decide ((hg.length:Int)=1))&&(decide (((Ap hg 0).length:Int)=2))))] [.blk hf [rB o.fMade,rv ha,rv (.map (some hd)),rv (.map (some he)),rv hb] 59,.row ha 9 1 (A4 eS o.fEvents),.map hd (AF Ao o.fResults),.map he (AF Ad o.fKeys),.row hb 67 8 (A4 Af o.fPending),.row hj 42 1 (A4 Bm hg)] ?_ ?_)))
   ·refine Ai (wm Aa (wv (Ch (ys:=hg) (enc:=Bm) (i:=5) Hg Aa Aa) (wv (B5 Aa Aa) (wm Aa (AO (decide ((hg.length:Int)=1)) (λhh=>?_) (λhh=>?_))))))
    ·refine wo hh (wm Aa (wo hh (wv (r:=rv (E1 1 hj (B4 0) 0)) (En (i:=5) Hg GN Aa Aa Aa (BO (Cr hz hh))) (wo hh (wv (r:=AY 1 (A4 eS (Ap hg 0))) (GG (enc:=Bm) (ys:=hg) (i:=5) (j:=0) Mj Aa Aa (Cr hz hh) Aa) (wo hh (wv (Bq (ys:=Ap hg 0) (enc:=eS) Cn Aa) (wo hh (wv (B5 Aa Aa) (Er Aa hh Aa (Am ?_)))))))))));exact BV hh
    ·refine wf hh (wf hh (wf hh (wf hh (wf hh (wv (r:=rB false) (A8 Aa hh Aa) (Am ?_))))));exact BV hh
   refine cz hS Aa (λhT hU=>?_) (λhT hV=>?_)
   ·refine An (Ak (wm Aa (ck hU λhr hW=>wv (r:=rv (E1 1 hj (B4 0) 0)) (En (i:=5) Hg GN Aa Aa Aa (BO hr)) (wv (r:=AY 1 (A4 eS (Ap hg 0))) (GG (enc:=Bm) (ys:=hg) (i:=5) (j:=0) Mj Aa Aa hr Aa) (ck hW λh0 hX=>wv (By (enc:=eS) (ys:=Ap hg 0) Cn Cv Aa Aa h0) (wv (Bg CD Aa Aa) (ob hX λhs hY hZ=>CG Tryz.call29 (IQ F (Ap (Ap hg 0) 1) hs hY) Aa (wm Aa (wv (AA Aa Aa) (wv (AA Aa Aa) (wa Aa (wa Aa (Av (AH [(0,rP hf 0),(7,rv hj),(71,rB ((!decide (hs.2=0))||(!decide (hs.1=rc))))] [.blk hf [rB o.fMade,rv ha,rv (.map (some hd)),rv (.map (some he)),rv hb] 59,.row ha 9 1 (A4 eS o.fEvents),.map hd (AF Ao o.fResults),.map he (AF Ad o.fKeys),.row hb 67 8 (A4 Af o.fPending),.row hj 42 1 (A4 Bm hg)] ?_ ?_))))))))))))))
    ·refine Ai (wm Aa (wv (BT Aa Aa) (wm Aa (AO (!decide (hs.2=0)) (λhk=>?_) (λhk=>?_)))))
     ·refine wf hk (wf hk (wf hk (wv (r:=rB true) (A2 Aa hk Aa) (Am ?_))));exact BV hk
     ·refine wo hk (wm Aa (wo hk (wm Aa (wo hk (wv (I0 Aa Aa) (E2 Aa hk Aa (Am ?_)))))));exact BV hk
    refine cz hZ Aa (λga gb=>?_) (λga gc=>?_)
    ·refine Ak (wa Aa (Av (A1 (Ae (Ae ?_)))));obtain rfl:=A5 gb;exact A0 (BJ Uy (AM Aa)) (sC (sC (sC (sC (sC (sS sN)))))) ⟨ha,hb,Aa,Aa⟩
    ·refine Ay (AP (Ak (wm Aa (wm Aa (wv (r:=rv (E1 1 hj (B4 0) 0)) (En (i:=5) Hg GN Aa Aa Aa (BO hr)) (wv (r:=AY 1 (A4 eS (Ap hg 0))) (GG (enc:=Bm) (ys:=hg) (i:=5) (j:=0) Mj Aa Aa hr Aa) (wv (By (enc:=eS) (ys:=Ap hg 0) Cn Cv Aa Aa h0) (wv (Bg CD Aa Aa) (ob gc λgd ge gf=>DX (Hr:=[.row hj 42 1 (A4 Bm hg)]) Tryz.call36 (Tg F hf ha hd he hb o (Ap (Ap hg 0) 1) gd ge) Aa (Abq _) Aa ?_)))))))));rintro _ _ ⟨gg,gh,rfl,rfl⟩;refine Bs (wa Aa (Av (A1 (Ae ?_))));obtain rfl:=A5 gf;exact A0 (BJ Uy (AM Aa)) (sC (sC (sC (sC (sC (sS sN)))))) ⟨gg,gh,Aa,Aa⟩
   ·refine Ay (AP (Ak (wm Aa (WL.freeze (i:=5) Aa (WL.up (d:=80) (r:=AY 1 (A4 Bm hg)) Aa (Up.fact (i:=0) Aa) (ob hV λhi gi gj=>CG Tryz.call64 (Ve F hg hi gi) Aa (wm Aa (wv (AA Aa Aa) (wv (AA Aa Aa) (Cc (cs:=[rS ([]:Al),rS ([]:Al),At 0,rv (.slice none 0 0),rv (.slice none 0 0),At 0]) XO Aa Aa (λht=>?_)))))))))));refine Br (i:=0) Ec Aa Aa Aa (Cq.c Aa) Aa Aa (cs':=[rS hi.1.fEvent,rS hi.1.fTenant,At hi.1.fAttempt,AY 4 (A4 Ab hi.1.fResult),AY 4 (A4 Ah hi.1.fEffects),At hi.1.fAt]) Aa (H':=[.blk ht (AV hi.1) 34,.fact hj (AY 1 (A4 Bm hg)),.blk hf [rB o.fMade,rv ha,rv (.map (some hd)),rv (.map (some he)),rv hb] 59,.row ha 9 1 (A4 eS o.fEvents),.map hd (AF Ao o.fResults),.map he (AF Ad o.fKeys),.row hb 67 8 (A4 Af o.fPending)]) Aa (wa Aa (Av (An (Ak (wv (Bf (i:=0) Gh Ec Aa Aa Aa Aa) (ob gj λhu gl gm=>CG Tryz.call25 (PC F hi.1 hu gl) Aa (wm Aa (wv (AA Aa Aa) (wv (AA Aa Aa) (wa Aa (wa Aa (Av (AH [(0,rP hf 0),(14,rP ht 0),(99,rB ((!hi.2)||((!decide (hu.2=0))||(!decide (hu.1=rc)))))] [.blk ht (AV hi.1) 34,.blk hf [rB o.fMade,rv ha,rv (.map (some hd)),rv (.map (some he)),rv hb] 59,.row ha 9 1 (A4 eS o.fEvents),.map hd (AF Ao o.fResults),.map he (AF Ad o.fKeys),.row hb 67 8 (A4 Af o.fPending)] ?_ ?_)))))))))))))
    ·refine Ai (wm Aa (wv (BE Aa) (wm Aa (AO (!hi.2) (λhl=>?_) (λhl=>?_)))))
     ·refine wf hl (wf hl (wv (r:=rB true) (A2 Aa hl Aa) (wm Aa (wz Aa Aa (wz Aa Aa (wz Aa Aa (wv (r:=rB true) (A2 (b:=true) Aa Aa Aa) (Am ?_))))))));exact BV hl
     ·refine wo hl (wm Aa (wo hl (wv (BT Aa Aa) (E2 Aa hl Aa (wm Aa (AO (!decide (hu.2=0)) (λc127=>?_) (λc127=>?_)))))))
      ·refine wf c127 (wf c127 (wf c127 (wv (r:=rB true) (A2 Aa c127 Aa) (Am ?_))));exact BV (And.intro hl c127)
      ·refine wo c127 (wm Aa (wo c127 (wm Aa (wo c127 (wv (I0 Aa Aa) (E2 Aa c127 Aa (Am ?_)))))));exact BV (And.intro hl c127)
    refine cz gm Aa (λgp gq=>?_) (λgp gr=>?_)
    ·refine Ak (wa Aa (Av (A1 (Ae ?_))));obtain rfl:=A5 gq;exact A0 (BJ Uy (AM Aa)) (sS (sC (sC (sC (sC (sC sN)))))) ⟨ha,hb,Aa,Aa⟩
    ·refine Ay (AP (Ak (wm Aa (wv (Bf (i:=0) Gh Ec Aa Aa Aa Aa) (ob gr λgs gt gu=>DX (Hr:=[.blk ht (AV hi.1) 34]) Tryz.call35 (Vf F hf ha hd he hb o hi.1 gs gt) Aa ((As (i:=1) Aa).trans (Abp _ ((As (i:=1) Aa).trans (Abp _ ((As (i:=1) Aa).trans (Abp _ ((As (i:=1) Aa).trans (Abp _ ((As (i:=1) Aa).trans (Abp _ (Abq _))))))))))) Aa ?_)))));rintro _ _ ⟨gv,gw,rfl,rfl⟩;refine wm Aa (wv (AA Aa Aa) (wv (AA Aa Aa) (wa Aa (wa Aa (Bs (wm Aa (wa Aa (Av (A1 ?_)))))))));obtain rfl:=A5 gu;exact A0 (BJ Uy (AM Aa)) (sC (sC (sC (sC (sC (sS sN)))))) ⟨gv,gw,Aa,Aa⟩
end Go.Proofs.YtfobhhegpkinaaaGreatDoor.Q
namespace Go.Proofs.YtfobhhegpkinaaaGreatDoor
open Go
set_option linter.unusedVariables false
def IY (F:Nat)(c:AS)(ha:Int):Option (Stp (Int) (Out (Int) (Unit))):=
 B2 (decide (ha<(c.fEffects.length:Int))) (Ba (CP ha (c.fEffects.length:Int))<|B3 (Kw F c.fEvent (Ap c.fEffects ha) ha) λhb=>B2 (!decide (hb=0)) (some (.out (.ret hb))) (Ba (BF .i64 (ha+1))<|some (.next (ha+1)))) (some (.out (.go ())))
def IX :Option (Int):=
 some 0
def LR (F:Nat)(c:AS):Option (Int):=
 B2 (((!(HR c.fEvent))||(!(Dx c.fTenant)))) (some 4) (Ba (imp (!(decide (c.fAttempt<1))) (imp (!(decide (1073741824<c.fAttempt))) ((BR c.fAt).isSome)))<|B2 (((decide (c.fAttempt<1))||((decide (1073741824<c.fAttempt))||(!(ov (BR c.fAt)))))) (some 2) (B3 (IG F c.fResult) λha=>B2 (!decide (ha=0)) (some ha) (B2 (decide (32<(c.fEffects.length:Int))) (some 3) (B3 (Ci (λσ=>IY F c σ) F 0) (BS λν=>IX )))))
def HL (F:Nat)(c:AS)(hb:(List (List Al)))(ha:Int):Option (Stp ((List (List Al))×Int) (Out (Al×Int) ((List (List Al))))):=
 B2 (decide (ha<(c.fEffects.length:Int))) (Ba (CP ha (c.fEffects.length:Int))<|Ba (BF .i64 ((Ap c.fEffects ha).fKind))<|Ba (BF .i64 ((Ap c.fEffects ha).fDelay))<|B3 (MS F ((Ap c.fEffects ha).fValue)) λhd=>Ba (CX 24 (hb.length+([([Lib.itoa ((Ap c.fEffects ha).fKind),(Ap c.fEffects ha).fKey,Lib.itoa ((Ap c.fEffects ha).fDelay),hd]:List Al)]:List (List Al)).length))<|Ba (BF .i64 (ha+1))<|some (.next (hb++([([Lib.itoa ((Ap c.fEffects ha).fKind),(Ap c.fEffects ha).fKey,Lib.itoa ((Ap c.fEffects ha).fDelay),hd]:List Al)]:List (List Al)),ha+1))) (some (.out (.go hb)))
def HK (F:Nat)(hb:(List (List Al))):Option (Al×Int):=
 B3 (Ov F hb) λha=>some (ha.1,ha.2)
def Oy (F:Nat)(c:AS):Option (Al×Int):=
 B3 (LR F c) λr2=>B2 (!decide (r2=0)) (some (([]:Al),r2)) (Ba (BF .i64 c.fAttempt)<|Ba (BF .i64 c.fAt)<|B3 (MS F c.fResult) λha=>B3 (Ci (λσ=>HL F c σ.1 σ.2) F (([([([99,111,109,109,105,116]:Al),c.fEvent,c.fTenant,Lib.itoa c.fAttempt,Lib.itoa c.fAt,ha]:List Al)]:List (List Al)),0)) (BS λν=>HK F ν))
def Gx (ha:Int)(hb:(List (Al×Aj))):Option (Stp (Int×(List (Al×Aj))) (Out (Int×(List (Al×Aj))) ((List (Al×Aj))))):=
 Ba (BF .i64 (ha+1))<|some (.next (ha+1,hb))
def Ja (l:(List Ar))(ha:Int)(hb:(List (Al×Aj))):Option (Stp (Int×(List (Al×Aj))) (Out (Int×(List (Al×Aj))) ((List (Al×Aj))))):=
 B2 (decide (ha<(l.length:Int))) (Ba (CP ha (l.length:Int))<|B2 (decide (((Ap l ha).fKind)=1)) (B3 (Jk ((Ap l ha).fValue)) λhd=>Ba (BF .i64 (((BL hb ((Ap l ha).fKey) (Aj.mk ([]:(List Ac)) 0)).fVersion)+1))<|B2 (decide (256<((mset hb ((Ap l ha).fKey) (Aj.mk hd (((BL hb ((Ap l ha).fKey) (Aj.mk ([]:(List Ac)) 0)).fVersion)+1))).length:Int))) (some (.out (.ret (3,mset hb ((Ap l ha).fKey) (Aj.mk hd (((BL hb ((Ap l ha).fKey) (Aj.mk ([]:(List Ac)) 0)).fVersion)+1)))))) (Gx ha (mset hb ((Ap l ha).fKey) (Aj.mk hd (((BL hb ((Ap l ha).fKey) (Aj.mk ([]:(List Ac)) 0)).fVersion)+1))))) (B2 (decide (((Ap l ha).fKind)=2)) (Gx ha (mdel hb ((Ap l ha).fKey))) (Gx ha hb))) (some (.out (.go hb)))
def IZ (ha:(List (Al×Aj))):Option (Int×(List (Al×Aj))):=
 some (0,ha)
def QA (F:Nat)(keys:(List (Al×Aj)))(l:(List Ar)):Option (Int×(List (Al×Aj))):=
 B3 (Ci (λσ=>Ja l σ.1 σ.2) F (0,keys)) (BS λν=>IZ ν)
def GA (ha:Int)(hb:(List A3)):Option (Stp (Int×(List A3)) (Out (Bool×Int×AR) ((List A3)))):=
 Ba (BF .i64 (ha+1))<|some (.next (ha+1,hb))
def HN (c:AS)(ha:Int)(hb:(List A3)):Option (Stp (Int×(List A3)) (Out (Bool×Int×AR) ((List A3)))):=
 B2 (decide (ha<(c.fEffects.length:Int))) (Ba (CP ha (c.fEffects.length:Int))<|B3 (EO ((Ap c.fEffects ha).fKind)) λhe=>B2 (he) (Ba (CX 1 c.fEvent.length)<|Ba (BF .i64 ha)<|B3 (WM (Ap c.fEffects ha)) λhd=>Ba (CX 112 (hb.length+([(A3.mk (BY c.fEvent ha) c.fTenant c.fEvent c.fAt hd)]:List A3).length))<|GA ha (hb++([(A3.mk (BY c.fEvent ha) c.fTenant c.fEvent c.fAt hd)]:List A3))) (GA ha hb)) (some (.out (.go hb)))
def HM (o:AR)(c:AS)(ha:Int×(List (Al×Aj)))(hb:(List Ac))(hd:(List A3)):Option (Bool×Int×AR):=
 some (true,0,(AR.mk o.fMade (o.fEvents++([c.fEvent]:List Al)) (mset o.fResults c.fEvent hb) (mset o.fKeys c.fTenant ha.2) hd))
def HO (ha:Al)(hb:Aj)(hd:(List (Al×Aj))):Option (Stp ((List (Al×Aj))) (Out (Bool×Int×AR) ((List (Al×Aj))))):=
 some (.next (mset hd ha hb))
def EP (F:Nat)(o:AR)(c:AS)(hb:(List (Al×Aj))):Option (Bool×Int×AR):=
 B3 (QA F hb c.fEffects) λha=>B2 (!decide (ha.1=0)) (some (false,ha.1,o)) (Ba (CX 16 (o.fEvents.length+([c.fEvent]:List Al).length))<|B3 (Jk c.fResult) λhd=>B3 (Ci (λσ=>HN c σ.1 σ.2) F (0,o.fPending)) (BS λν=>HM o c ha hd ν))
def LQ (F:Nat)(o:AR)(c:AS):Option (Bool×Int×AR):=
 B3 (Ib o) λr2=>B2 (!r2) (some (false,10,o)) (B3 (LR F c) λr8=>B2 (!decide (r8=0)) (some (false,r8,o)) (B2 (Gj o.fResults c.fEvent) (some (false,0,o)) (B2 (decide (4000≤(o.fEvents.length:Int))) (some (false,3,o)) (WZ (BL o.fKeys c.fTenant ([]:(List (Al×Aj)))) λord=>B3 (Tj (λpe τ=>HO pe.1 pe.2 τ) ord ([]:List (Al×Aj))) (BS λν=>EP F o c ν)))))
def JP (c:AS):Option (Bool×Int):=
 some (false,10)
def Hy (F:Nat) :Option (Bool):=
 B3 (He 7) λr1=>B3 (He 1) λr4=>B3 (He 2) λr7=>B3 (Yx) λhp=>B3 (LQ F hp (AS.mk ([101,49]:Al) ([116]:Al) 1 r1 ([(Ar.mk 1 ([107]:Al) r4 0),(Ar.mk 3 ([115]:Al) r7 0)]:List Ar) 5)) λhf=>B3 (LQ F hf.2.2 (AS.mk ([101,49]:Al) ([116]:Al) 1 r1 ([(Ar.mk 1 ([107]:Al) r4 0),(Ar.mk 3 ([115]:Al) r7 0)]:List Ar) 5)) λha=>B3 (Ox F ha.2.2 ([116]:Al)) λhd=>B3 (JO F ha.2.2) λhb=>Ba (!(!decide (hf.2.1=0)))<|Ba (!(!decide (ha.2.1=0)))<|Ba (!(!hf.1))<|Ba (!ha.1)<|Ba (!(!decide ((hd.length:Int)=1)))<|Ba (CP 0 (hd.length:Int))<|Ba (!(!decide (((Ap hd 0).fKey)=([107]:Al))))<|Ba (!(!decide (((Ap hd 0).fVersion)=1)))<|Ba (!(!decide ((hb.length:Int)=1)))<|Ba (CP 0 (hb.length:Int))<|Ba (!(!decide (((Ap hb 0).fID)=([101,49,46,49]:Al))))<|Ba (!(!decide (((Ap hb 0).fCause)=([101,49]:Al))))<|Ba (!(!decide (((Ap hb 0).fAt)=5)))<|Ba (!(!decide ((((Ap hb 0).fEffect).fKey)=([115]:Al))))<|B3 (Q3 ha.2.2 ([101,49]:Al)) λhi=>Ba (!(!hi.2))<|B3 (He 7) λhq=>B3 (Wt F hi.1 hq) λhr=>Ba (!(!hr))<|B3 (WS F ha.2.2 ([101,49,46,49]:Al)) λhj=>Ba (!(!decide (hj.1=0)))<|B3 (WS F hj.2 ([101,49,46,49]:Al)) λhe=>Ba (!(!decide (he.1=5)))<|B3 (JO F he.2) λhs=>Ba (!(!decide ((hs.length:Int)=0)))<|B3 (Q7 he.2) λht=>B3 (Tp F ht ([([101,49]:Al)]:List Al)) λhu=>Ba (!(!hu))<|B3 (Oy F (AS.mk ([101,49]:Al) ([116]:Al) 1 r1 ([(Ar.mk 1 ([107]:Al) r4 0),(Ar.mk 3 ([115]:Al) r7 0)]:List Ar) 5)) λhg=>B3 (EH F ([101,49,46,49]:Al)) λhk=>B3 (Yx) λhw=>Ba (!(!decide (hg.2=0)))<|Ba (!(!decide (hk.2=0)))<|B3 (PB F hw hg.1) λhl=>Ba (!(!decide (hl.1=0)))<|B3 (PB F hl.2 hk.1) λhm=>Ba (!(!decide (hm.1=0)))<|B3 (PB F hm.2 hg.1) λhn=>Ba (!(!decide (hn.1=0)))<|B3 (PB F hn.2 ([120]:Al)) λhh=>Ba (!(!decide (hh.1=13)))<|B3 (JO F hh.2) λhx=>Ba (!(!decide ((hx.length:Int)=0)))<|B3 (Ox F hh.2 ([116]:Al)) λhy=>Ba (!(!decide ((hy.length:Int)=1)))<|Ba (CP 1 (([(Ar.mk 1 ([107]:Al) r4 0),(Ar.mk 3 ([115]:Al) r7 0)]:List Ar).length:Int))<|Ls (List.set ([(Ar.mk 1 ([107]:Al) r4 0),(Ar.mk 3 ([115]:Al) r7 0)]:List Ar) (Int.toNat 1) (Ar.mk ((Ap ([(Ar.mk 1 ([107]:Al) r4 0),(Ar.mk 3 ([115]:Al) r7 0)]:List Ar) 1).fKind) ([83]:Al) ((Ap ([(Ar.mk 1 ([107]:Al) r4 0),(Ar.mk 3 ([115]:Al) r7 0)]:List Ar) 1).fValue) ((Ap ([(Ar.mk 1 ([107]:Al) r4 0),(Ar.mk 3 ([115]:Al) r7 0)]:List Ar) 1).fDelay))) λho=>B3 (JP (AS.mk ([101,49]:Al) ([116]:Al) 1 r1 ho 5)) λhz=>Ba (decide (hz.2=10))<|B3 (LR F (AS.mk ([101,49]:Al) ([116]:Al) 1 r1 ho 5)) λh0=>Ba (decide (h0=4))<|B3 (Ox F he.2 ([117]:Al)) λh1=>some (decide ((h1.length:Int)=0))
def LX (F:Nat)(c:AS)(id:Al):Option (Bool):=
 B3 (IR F c) λr2=>B3 (GY F c) λr5=>Ba (imp (!(!decide (r2.2=r5.2))) (imp (!(!decide (r2.1=r5.1))) ((Gw F c).isSome)))<|Ba (imp (!(!decide (r2.2=r5.2))) (imp (!(!decide (r2.1=r5.1))) ((DW F c).isSome)))<|B2 (((!decide (r2.2=r5.2))||((!decide (r2.1=r5.1))||(!decide ((ov (Gw F c))=(ov (DW F c))))))) (some false) (B3 (EH F id) λha=>B3 (EW F id) λhb=>Ba (imp (decide (ha.2=hb.2)) (imp (decide (ha.1=hb.1)) ((Hy F).isSome)))<|some ((decide (ha.2=hb.2))&&((decide (ha.1=hb.1))&&(ov (Hy F)))))
end Go.Proofs.YtfobhhegpkinaaaGreatDoor
namespace Go.Proofs.YtfobhhegpkinaaaGreatDoor.Q
open Go Go.RowKit
set_option linter.unusedVariables false
set_option linter.unusedSimpArgs false
set_option maxRecDepth 100000
set_option maxHeartbeats 4000000
theorem J6 {n:Nat}{c:Cx}{l:Fr}{H:List Ent}{d:Option Nat}{ty:TypeId}{pos:String}{af:Array Edge}{g:Option (Nat×Bool)}{x0:Operand}{r0:Rp}(h0:ev l x0=some r0)(u0:r0.one=true){x1:Operand}{r1:Rp}(h1:ev l x1=some r1)(u1:r1.one=true){x2:Operand}{r2:Rp}(h2:ev l x2=some r2)(u2:r2.one=true){x3:Operand}{r3:Rp}(h3:ev l x3=some r3)(u3:r3.one=true){x4:Operand}{r4:Rp}(h4:ev l x4=some r4)(u4:r4.one=true){x5:Operand}{r5:Rp}(h5:ev l x5=some r5)(u5:r5.one=true):B0 Tryz.prog n c l H { dst:=d,op:=.build 34 #[(0,x0),(1,x1),(2,x2),(3,x3),(4,x4),(5,x5)],type:=ty,pos:=pos,after:=af,guard:=g } (BQ [r0,r1,r2,r3,r4,r5]):=λa w Z ha _=>by
  have p0:=ha.ev h0;have c0:=B6 (r0.hone u0 Z _ p0);have p1:=ha.ev h1;have c1:=B6 (r1.hone u1 Z _ p1);have p2:=ha.ev h2;have c2:=B6 (r2.hone u2 Z _ p2);have p3:=ha.ev h3;have c3:=B6 (r3.hone u3 Z _ p3);have p4:=ha.ev h4;have c4:=B6 (r4.hone u4 Z _ p4);have p5:=ha.ev h5;have c5:=B6 (r5.hone u5 Z _ p5);have hb:Tryz.prog.built 34 [(0,a.eval x0),(1,a.eval x1),(2,a.eval x2),(3,a.eval x3),(4,a.eval x4),(5,a.eval x5)]=some #[a.eval x0,a.eval x1,a.eval x2,a.eval x3,a.eval x4,a.eval x5]:=by
    rw[YU];generalize a.eval x0=v0 at *;generalize a.eval x1=v1 at *;generalize a.eval x2=v2 at *;generalize a.eval x3=v3 at *;generalize a.eval x4=v4 at *;generalize a.eval x5=v5 at *;simp[Instr.fill,c0,c1,c2,c3,c4,c5]
  refine⟨.agg #[a.eval x0,a.eval x1,a.eval x2,a.eval x3,a.eval x4,a.eval x5],⟨[a.eval x0,a.eval x1,a.eval x2,a.eval x3,a.eval x4,a.eval x5],rfl,p0,p1,p2,p3,p4,p5,trivial⟩,?_⟩;have:=run_build w 34 #[(0,a.eval x0),(1,a.eval x1),(2,a.eval x2),(3,a.eval x3),(4,a.eval x4),(5,a.eval x5)] _ (by simpa using hb);simp[execOp,this]
theorem Js {n:Nat}{c:Cx}{l:Fr}{H:List Ent}{d:Option Nat}{ty:TypeId}{pos:String}{af:Array Edge}{g:Option (Nat×Bool)}{x0:Operand}{r0:Rp}(h0:ev l x0=some r0)(u0:r0.one=true){x1:Operand}{r1:Rp}(h1:ev l x1=some r1)(u1:r1.one=true){x2:Operand}{r2:Rp}(h2:ev l x2=some r2)(u2:r2.one=true):B0 Tryz.prog n c l H { dst:=d,op:=.build 65 #[(0,x0),(1,x1),(2,x2)],type:=ty,pos:=pos,after:=af,guard:=g } (BQ [r0,r1,r2,At 0]):=λa w Z ha _=>by
  have p0:=ha.ev h0;have c0:=B6 (r0.hone u0 Z _ p0);have p1:=ha.ev h1;have c1:=B6 (r1.hone u1 Z _ p1);have p2:=ha.ev h2;have c2:=B6 (r2.hone u2 Z _ p2);have hb:Tryz.prog.built 65 [(0,a.eval x0),(1,a.eval x1),(2,a.eval x2)]=some #[a.eval x0,a.eval x1,a.eval x2,(.int .i64 0)]:=by
    rw[Uj];generalize a.eval x0=v0 at *;generalize a.eval x1=v1 at *;generalize a.eval x2=v2 at *;simp[Instr.fill,c0,c1,c2]
  refine⟨.agg #[a.eval x0,a.eval x1,a.eval x2,(.int .i64 0)],⟨[a.eval x0,a.eval x1,a.eval x2,(.int .i64 0)],rfl,p0,p1,p2,rfl,trivial⟩,?_⟩;have:=run_build w 65 #[(0,a.eval x0),(1,a.eval x1),(2,a.eval x2)] _ (by simpa using hb);simp[execOp,this]
theorem Mz (F:Nat)(ha:Value)(c:AS)(r:Int)(h:LR F c=some r):Fn Tryz.prog GE 27 [BQ [rS c.fEvent,rS c.fTenant,At c.fAttempt,AY 4 (A4 Ab c.fResult),rv ha,At c.fAt]] [.row ha 65 4 (A4 Ah c.fEffects)] (λR H=>R=At r∧H=[.row ha 65 4 (A4 Ah c.fEffects)]):=by
 refine enter (n:=58) Tryz.func27 Aa Tryz.ntmps27 Aa (λw Z=>?_);unfold LR at h;refine Ak (C3 Aa Aa (λb1=>?_));refine wa Aa (Av (An (AH [(1,rP b1 0),(16,rB ((!(HR c.fEvent))||(!(Dx c.fTenant))))] [.blk b1 [rS c.fEvent,rS c.fTenant,At c.fAttempt,AY 4 (A4 Ab c.fResult),rv ha,At c.fAt] 34,.row ha 65 4 (A4 Ah c.fEffects)] ?_ ?_)))
 ·refine Ai (vF Cl Aa Cv (vL 0 CD Aa (Cz (rs:=[rS c.fEvent]) (r:=rB (HR c.fEvent)) VT Aa (YA c.fEvent) Aa Aa (wv (BE Aa) (wm Aa (AO (!(HR c.fEvent)) (λc2=>?_) (λc2=>?_)))))))
  ·refine wf c2 (wf c2 (wf c2 (wf c2 (wv (r:=rB true) (A2 Aa c2 Aa) (Am ?_)))));exact BV c2
  ·refine wo c2 (vF Cl Aa Cv (wo c2 (vL 0 CD Aa (wo c2 (Cz (rs:=[rS c.fTenant]) (r:=rB (Dx c.fTenant)) Tryz.call53 Aa (Th c.fTenant) Aa Aa (wo c2 (wv (BE Aa) (E2 Aa c2 Aa (Am ?_)))))))));exact BV c2
 refine cz h Aa (λc3 h4=>?_) (λc3 h5=>?_)
 ·refine Ak (wa Aa (Av (A1 (Ae ?_))));obtain rfl:=A5 h4;exact A0 (BJ Nf (AM Aa)) (sS (sC sN)) ⟨Aa,Aa⟩
 ·refine Ay (AP (An (ck h5 λg6 h7=>AH [(1,rP b1 0),(30,rB ((decide (c.fAttempt<1))||((decide (1073741824<c.fAttempt))||(!(ov (BR c.fAt))))))] [.blk b1 [rS c.fEvent,rS c.fTenant,At c.fAttempt,AY 4 (A4 Ab c.fResult),rv ha,At c.fAt] 34,.row ha 65 4 (A4 Ah c.fEffects)] ?_ ?_)))
  ·refine Ai (vF Cl Aa C6 (vL 0 CM Aa (wv (C0 Aa Aa) (wm Aa (AO (decide (c.fAttempt<1)) (λc8=>?_) (λc8=>?_))))))
   ·refine wf c8 (wf c8 (wf c8 (wv (r:=rB true) (A2 Aa c8 Aa) (wm Aa (wz Aa Aa (wz Aa Aa (wz Aa Aa (wz Aa Aa (wv (r:=rB true) (A2 (b:=true) Aa Aa Aa) (Am ?_))))))))));exact BV c8
   ·refine wo c8 (vF Cl Aa C6 (wo c8 (vL 0 CM Aa (wo c8 (wv (CI Aa Aa) (E2 Aa c8 Aa (wm Aa (AO (decide (1073741824<c.fAttempt)) (λc9=>?_) (λc9=>?_)))))))))
    ·refine wf c9 (wf c9 (wf c9 (wf c9 (wv (r:=rB true) (A2 Aa c9 Aa) (Am ?_)))));exact BV (And.intro c8 c9)
    ·refine wo c9 (vF Cl Aa C6 (wo c9 (vL 0 CM Aa (wo c9 (CG U1 (Gt c.fAt (ov (BR c.fAt)) (E4 (CE (CE g6 c8) c9))) Aa (wo c9 (wv (BE Aa) (E2 Aa c9 Aa (Am ?_)))))))));exact BV (And.intro c8 c9)
  refine cz h7 Aa (λhi hj=>?_) (λhi hk=>?_)
  ·refine Ak (wa Aa (Av (A1 (Ae ?_))));obtain rfl:=A5 hj;exact A0 (BJ Nf (AM Aa)) (sS (sC sN)) ⟨Aa,Aa⟩
  ·refine Ay (AP (An (Ak (vF Cl Aa C5 (vL 0 Dt Aa (ob hk λhl hm hn=>CG VS (JF F c.fResult hl hm) Aa (wa Aa (Bs (wm Aa (wv (BT Aa Aa) (Av (cz hn Aa (λho hp=>?_) (λho hq=>?_)))))))))))))
   ·refine Ak (wm Aa (wa Aa (Av (A1 (Ae ?_)))));obtain rfl:=A5 hp;exact A0 (BJ Nf (AM Aa)) (sS (sC sN)) ⟨Aa,Aa⟩
   ·refine Ay (AP (An (Ak (vF Cl Aa H8 (vL 0 J2 Aa (wv (Ch (ys:=c.fEffects) (enc:=Ah) (i:=1) EV Aa Aa) (wv (CI Aa Aa) (Av (cz hq Aa (λhr hs=>?_) (λhr ht=>?_))))))))))
    ·refine Ak (wa Aa (Av (A1 (Ae ?_))));obtain rfl:=A5 hs;exact A0 (BJ Nf (AM Aa)) (sS (sC sN)) ⟨Aa,Aa⟩
    ·refine Ay (AP (An (Ak (vF Cl Aa H8 (vL 0 J2 Aa (wv (Ch (ys:=c.fEffects) (enc:=Ah) (i:=1) EV Aa Aa) (wv (r:=At 0) (Aq Aa) (Av (AJ (ob ht λhu hw hg=>Bu (S:=Nat×(Int)×(Unit)) (V:=(Unit)×(Unit)) 0 (λσ=>Ci (λσ=>IY F c σ) σ.1 σ.2.1=some hu) (λσ=>[(1,rP b1 0),(42,rv ha),(43,At (c.fEffects.length:Int)),(44,At σ.2.1)]) (λσ=>[.blk b1 [rS c.fEvent,rS c.fTenant,At c.fAttempt,AY 4 (A4 Ab c.fResult),rv ha,At c.fAt] 34,.row ha 65 4 (A4 Ah c.fEffects)]) (λσ=>σ.1) (F,0,()) hw (AL.c Aa (AL.c Aa (AL.c Aa (AL.c Aa AL.nil)))) (sC (sC sN)) (λσ=>IX =some r) (λσ=>[]) (λσ=>[.row ha 65 4 (A4 Ah c.fEffects)]) ?_ ?_))))))))))
     ·rintro⟨hK,hb,⟨⟩⟩ hx;refine BW (l':=[(1,rP b1 0),(42,rv ha),(43,At (c.fEffects.length:Int)),(44,At hb)]) (H':=[.blk b1 [rS c.fEvent,rS c.fTenant,At c.fAttempt,AY 4 (A4 Ab c.fResult),rv ha,At c.fAt] 34,.row ha 65 4 (A4 Ah c.fEffects)]) Aa Aa ?_;obtain⟨hy,rfl,hz,hd,hf⟩:=C4 hx;replace hd:IY F c hb=some hz:=hd;unfold IY at hd;refine Ak (wv (C0 Aa Aa) (Av (An (cz hd Aa (λh0 h1=>?_) (λh0 h2=>?_)))))
      ·refine Ay (AP (An (AJ (Ak (wm Aa (ck h1 λhh h3=>wv (r:=rv (E1 4 ha (B4 hb) 0)) (En (i:=1) EV Dl Aa Aa Aa (BO hh)) (wv (r:=BQ (Ah (Ap c.fEffects hb))) (Ks (enc:=Ah) (ys:=c.fEffects) (i:=1) (j:=hb) H9 Dl Aa Aa hh Aa Aa) (Cc (cs:=[At 0,rS ([]:Al),rv (.slice none 0 0),At 0]) Lt Aa Aa (λh6=>?_)))))))));refine wa Aa (Br (i:=0) Dl Aa Aa Aa (Cq.c Aa) Aa Aa (cs':=[At ((Ap c.fEffects hb).fKind),rS ((Ap c.fEffects hb).fKey),AY 4 (A4 Ab ((Ap c.fEffects hb).fValue)),At ((Ap c.fEffects hb).fDelay)]) Aa (H':=[.blk h6 (Ah (Ap c.fEffects hb)) 65,.blk b1 [rS c.fEvent,rS c.fTenant,At c.fAttempt,AY 4 (A4 Ab c.fResult),rv ha,At c.fAt] 34,.row ha 65 4 (A4 Ah c.fEffects)]) Aa (Bs (vF Cl Aa Cv (vL 1 CD Aa (wv (Bf (i:=0) H9 Dl Aa Aa Aa Aa) (wm Aa (ob h3 λh8 h9 hA=>CG Tryz.call56 (PD F c.fEvent (Ap c.fEffects hb) hb h8 h9) Aa (wa Aa (Bs (wm Aa (wv (BT Aa Aa) (Av (cz hA Aa (λhB hC=>?_) (λhB hD=>?_))))))))))))))
       ·refine Ak (wm Aa (wa Aa (Av (A1 (AC (Ae (Ae (Bj ?_))))))));have hE:=BB hC hf hg;refine AC (Ae ?_);obtain rfl:=A5 hE;exact A0 (BJ Nf (AM Aa)) (sS (sS (sC sN))) ⟨Aa,Aa⟩
       ·refine Ay (AG (AP (Ai (ck hD λhG hH=>wv (Bz Aa Aa hG) (wm Aa (Am ?_))))));have hI:=Bk hH hf;exact Aw (AI (hy,hb+1,()) ⟨hI,Aby _⟩ (AL.c Aa (AL.c Aa (AL.c Aa (AL.c Aa AL.nil)))) (sS (sC (sC sN))))
      ·refine Bx (A6 ?_);have hJ:=BX h2 hf hg;exact A6 (Be (AI ((),()) hJ AL.nil (sS (sC sN))))
     ·rintro⟨⟨⟩,⟨⟩⟩ he;refine Cy (l':=[]) (H':=[.row ha 65 4 (A4 Ah c.fEffects)]) Aa Aa ?_;replace he:IX =some r:=he;unfold IX at he;refine Bc (AP (Ak (wa Aa (Av (A1 ?_)))));obtain rfl:=A5 he;exact A0 (BJ Nf (AM Aa)) (sC sN) ⟨Aa,Aa⟩
theorem Td (F:Nat)(hb:Value)(c:AS)(r:Al×Int)(h:Oy F c=some r):Fn Tryz.prog GE 25 [BQ [rS c.fEvent,rS c.fTenant,At c.fAttempt,AY 4 (A4 Ab c.fResult),rv hb,At c.fAt]] [.row hb 65 4 (A4 Ah c.fEffects)] (λR H=>R=C7 [rS r.1,At r.2]∧H=[.row hb 65 4 (A4 Ah c.fEffects)]):=by
 refine enter (n:=55) Tryz.func25 Aa Tryz.ntmps25 Aa (λw Z=>?_);unfold Oy at h;refine Ak (C3 Aa Aa (λb1=>?_));refine wv (r:=rS ([]:Al)) (Az Aa) (wa Aa (Av (An (Ak (wv (Bf (i:=0) Gh Ec Aa Aa Aa Aa) (ob h λr2 e4 h3=>DX (Hr:=[.blk b1 [rS c.fEvent,rS c.fTenant,At c.fAttempt,AY 4 (A4 Ab c.fResult),rv hb,At c.fAt] 34]) U2 (Mz F hb c r2 e4) Aa ((As (i:=1) Aa).trans (Abp _ (Abq _))) Aa ?_))))));rintro _ _ ⟨rfl,rfl⟩;refine wa Aa (Bs (wm Aa (wv (BT Aa Aa) (Av (cz h3 Aa (λc5 h6=>?_) (λc5 h7=>?_))))))
 ·refine Ak (wm Aa (wv (r:=rS ([]:Al)) (Az Aa) (wa Aa (Av (A1 (Ae ?_))))));obtain rfl:=A5 h6;exact A0 (DJ XT (AM Aa) (AM Aa)) (sC (sS sN)) ⟨Aa,Aa⟩
 ·refine Ay (AP (An (ck h7 λg8 h9=>ck h9 λhp hq=>ob hq λhe hr hs=>Db 13 [1] [⟨[],rP b1 0,none,none,none⟩,⟨[0],rS c.fEvent,none,none,none⟩,⟨[],rP b1 1,none,none,none⟩,⟨[2],rS c.fTenant,none,none,none⟩,⟨[],rP b1 2,none,none,none⟩,⟨[4],At c.fAttempt,none,none,none⟩,⟨[5],rS (Lib.itoa c.fAttempt),none,none,none⟩,⟨[],rP b1 5,none,none,none⟩,⟨[7],At c.fAt,none,none,none⟩,⟨[8],rS (Lib.itoa c.fAt),none,none,none⟩,⟨[],rP b1 3,none,none,none⟩,⟨[10],AY 4 (A4 Ab c.fResult),none,none,none⟩,⟨[11],rS he,none,none,none⟩] ?_ (λβ=>?_))))
  ·refine CL (A9 Cl Aa Cv Aa Aa) (Gi (AT (i:=1) CD Aa Aa Aa) (CL (A9 Cl Aa Cv Aa Aa) (Gi (AT (i:=1) CD Aa Aa Aa) (CL (A9 Cl Aa C6 Aa Aa) (Gi (AT (i:=1) CM Aa Aa Aa) (KS (Dw (rs:=[At c.fAttempt]) (r:=rS (Lib.itoa c.fAttempt)) NE Aa (E6 c.fAttempt g8) Aa) (CL (A9 Cl Aa C6 Aa Aa) (Gi (AT (i:=1) CM Aa Aa Aa) (KS (Dw (rs:=[At c.fAt]) (r:=rS (Lib.itoa c.fAt)) NE Aa (E6 c.fAt hp) Aa) (CL (A9 Cl Aa C5 Aa Aa) (Gi (AT (i:=1) Dt Aa Aa Aa) (KS (Em Tryz.call47 (N0 F c.fResult he hr) Aa) ?_))))))))))));exact Pb
  refine Dg (H1:=[.row hb 65 4 (A4 Ah c.fEffects),.blk b1 [rS c.fEvent,rS c.fTenant,At c.fAttempt,AY 4 (A4 Ab c.fResult),rv hb,At c.fAt] 34]) [13,14,15,16,17,18,19,20,21,22,23,24,25,1] ?_;refine Bb (ys:=([([99,111,109,109,105,116]:Al),c.fEvent,c.fTenant,Lib.itoa c.fAttempt,Lib.itoa c.fAt,he]:List Al)) (enc:=eS) (css:=[[rS ([99,111,109,109,105,116]:Al)],[rS c.fEvent],[rS c.fTenant],[rS (Lib.itoa c.fAttempt)],[rS (Lib.itoa c.fAt)],[rS he]]) (xs:=[.const (.string ⟨#[99,111,109,109,105,116]⟩),.tmp 14,.tmp 16,.tmp 19,.tmp 22,.tmp 25]) Cn Cv PW Aa Aa Aa ⟨D1.one Aa (Up.refl _),D1.one Aa (Up.refl _),D1.one Aa (Up.refl _),D1.one Aa (Up.refl _),D1.one Aa (Up.refl _),D1.one Aa (Up.refl _),trivial⟩ Aa CY Aa Aa Aa (λht=>?_);refine WL.freeze (i:=0) Aa (Bb (ys:=([([([99,111,109,109,105,116]:Al),c.fEvent,c.fTenant,Lib.itoa c.fAttempt,Lib.itoa c.fAt,he]:List Al)]:List (List Al))) (enc:=Bm) (css:=[[AY 1 (A4 eS ([([99,111,109,109,105,116]:Al),c.fEvent,c.fTenant,Lib.itoa c.fAttempt,Lib.itoa c.fAt,he]:List Al))]]) (xs:=[.tmp 26]) Hg GN PX Aa Aa Aa ⟨D1.one Aa (Up.fact (i:=0) Aa),trivial⟩ Aa CZ Aa Aa Aa (λhl=>?_));refine wa Aa (Av (An (Ak (vF Cl Aa H8 (vL 3 J2 Aa (wv (Ch (ys:=c.fEffects) (enc:=Ah) (i:=2) EV Aa Aa) (wv (r:=At 0) (Aq Aa) (Av (AJ (GO (H2:=[.row hb 65 4 (A4 Ah c.fEffects),.row (.slice (some ⟨hl,0,none⟩) 1 1) 42 1 (A4 Bm ([([([99,111,109,109,105,116]:Al),c.fEvent,c.fTenant,Lib.itoa c.fAttempt,Lib.itoa c.fAt,he]:List Al)]:List (List Al))),.fact (.slice (some ⟨ht,0,none⟩) 6 6) (AY 1 (A4 eS ([([99,111,109,109,105,116]:Al),c.fEvent,c.fTenant,Lib.itoa c.fAttempt,Lib.itoa c.fAt,he]:List Al))),.blk b1 [rS c.fEvent,rS c.fTenant,At c.fAttempt,AY 4 (A4 Ab c.fResult),rv hb,At c.fAt] 34]) ((As (i:=2) Aa).trans (Abp _ (Abq _))) (ob hs λhu hw hx=>Bu (S:=Nat×((List (List Al))×Int)×(Value)) (V:=((List (List Al)))×(Value)) 0 (λσ=>Ci (λσ=>HL F c σ.1 σ.2) σ.1 σ.2.1=some hu) (λσ=>[(5,rv σ.2.2),(29,rv hb),(30,At (c.fEffects.length:Int)),(31,At σ.2.1.2)]) (λσ=>[.row hb 65 4 (A4 Ah c.fEffects),.row σ.2.2 42 1 (A4 Bm σ.2.1.1)]) (λσ=>σ.1) (F,(([([([99,111,109,109,105,116]:Al),c.fEvent,c.fTenant,Lib.itoa c.fAttempt,Lib.itoa c.fAt,he]:List Al)]:List (List Al)),0),(.slice (some ⟨hl,0,none⟩) 1 1)) hw (AL.c Aa (AL.c Aa (AL.c Aa (AL.c Aa AL.nil)))) (sC (sC (sS (sS sN)))) (λσ=>HK F σ.1=some r) (λσ=>[(5,rv σ.2)]) (λσ=>[.row hb 65 4 (A4 Ah c.fEffects),.row σ.2 42 1 (A4 Bm σ.1)]) ?_ ?_)))))))))))
  ·rintro⟨hP,⟨hf,ha⟩,hh⟩ hy;refine BW (l':=[(5,rv hh),(29,rv hb),(30,At (c.fEffects.length:Int)),(31,At ha)]) (H':=[.row hb 65 4 (A4 Ah c.fEffects),.row hh 42 1 (A4 Bm hf)]) Aa Aa ?_;obtain⟨hz,rfl,t80,hi,hm⟩:=C4 hy;replace hi:HL F c hf ha=some t80:=hi;unfold HL at hi;refine Ak (wv (C0 Aa Aa) (Av (An (cz hi Aa (λh0 h1=>?_) (λh0 h2=>?_)))))
   ·refine Ay (AP (An (AJ (Ak (ck h1 λhn h4=>wv (r:=rv (E1 4 hb (B4 ha) 0)) (En (i:=0) EV Dl Aa Aa Aa (BO hn)) (wv (r:=BQ (Ah (Ap c.fEffects ha))) (Ks (enc:=Ah) (ys:=c.fEffects) (i:=0) (j:=ha) H9 Dl Aa Aa hn Aa Aa) (Cc (cs:=[At 0,rS ([]:Al),rv (.slice none 0 0),At 0]) Lt Aa Aa (λhg=>?_))))))));refine Br (i:=0) Dl Aa Aa Aa (Cq.c Aa) Aa Aa (cs':=[At ((Ap c.fEffects ha).fKind),rS ((Ap c.fEffects ha).fKey),AY 4 (A4 Ab ((Ap c.fEffects ha).fValue)),At ((Ap c.fEffects ha).fDelay)]) Aa (H':=[.blk hg (Ah (Ap c.fEffects ha)) 65,.row hb 65 4 (A4 Ah c.fEffects),.row hh 42 1 (A4 Bm hf)]) Aa (Av (ck h4 λh5 h8=>ck h8 λhA hB=>ob hB λhd hC hD=>Db 14 [5,7,29,30,31] [⟨[],rv hh,none,none,none⟩,⟨[],rP hg 0,none,none,none⟩,⟨[1],At ((Ap c.fEffects ha).fKind),none,none,none⟩,⟨[2],rS (Lib.itoa ((Ap c.fEffects ha).fKind)),none,none,none⟩,⟨[],rP hg 1,none,none,none⟩,⟨[4],rS ((Ap c.fEffects ha).fKey),none,none,none⟩,⟨[],rP hg 3,none,none,none⟩,⟨[6],At ((Ap c.fEffects ha).fDelay),none,none,none⟩,⟨[7],rS (Lib.itoa ((Ap c.fEffects ha).fDelay)),none,none,none⟩,⟨[],rP hg 2,none,none,none⟩,⟨[9],AY 4 (A4 Ab ((Ap c.fEffects ha).fValue)),none,none,none⟩,⟨[10],rS hd,none,none,none⟩,⟨[3,5,8,11],AY 1 (A4 eS ([Lib.itoa ((Ap c.fEffects ha).fKind),(Ap c.fEffects ha).fKey,Lib.itoa ((Ap c.fEffects ha).fDelay),hd]:List Al)),none,none,none⟩,⟨[12],AY 1 (A4 Bm ([([Lib.itoa ((Ap c.fEffects ha).fKind),(Ap c.fEffects ha).fKey,Lib.itoa ((Ap c.fEffects ha).fDelay),hd]:List Al)]:List (List Al))),none,none,none⟩] ?_ (λβ=>?_)))
    ·refine CL (Aq Aa) (CL (A9 BP Aa D4 Aa Aa) (Gi (AT (i:=0) D5 Aa Aa Aa) (KS (Dw (rs:=[At ((Ap c.fEffects ha).fKind)]) (r:=rS (Lib.itoa ((Ap c.fEffects ha).fKind))) NE Aa (E6 ((Ap c.fEffects ha).fKind) h5) Aa) (CL (A9 BP Aa Cv Aa Aa) (Gi (AT (i:=0) CD Aa Aa Aa) (CL (A9 BP Aa C6 Aa Aa) (Gi (AT (i:=0) CM Aa Aa Aa) (KS (Dw (rs:=[At ((Ap c.fEffects ha).fDelay)]) (r:=rS (Lib.itoa ((Ap c.fEffects ha).fDelay))) NE Aa (E6 ((Ap c.fEffects ha).fDelay) hA) Aa) (CL (A9 BP Aa C5 Aa Aa) (Gi (AT (i:=0) Dt Aa Aa Aa) (KS (Em Tryz.call47 (N0 F ((Ap c.fEffects ha).fValue) hd hC) Aa) (KS (Ck (ys:=([Lib.itoa ((Ap c.fEffects ha).fKind),(Ap c.fEffects ha).fKey,Lib.itoa ((Ap c.fEffects ha).fDelay),hd]:List Al)) (enc:=eS) (css:=[[rS (Lib.itoa ((Ap c.fEffects ha).fKind))],[rS ((Ap c.fEffects ha).fKey)],[rS (Lib.itoa ((Ap c.fEffects ha).fDelay))],[rS hd]]) (xs:=[.tmp 38,.tmp 40,.tmp 43,.tmp 46]) Cn Cv PW Aa Aa Aa ⟨D1.one Aa (Up.refl _),D1.one Aa (Up.refl _),D1.one Aa (Up.refl _),D1.one Aa (Up.refl _),trivial⟩ Aa CY Aa Aa) (KS (Ck (ys:=([([Lib.itoa ((Ap c.fEffects ha).fKind),(Ap c.fEffects ha).fKey,Lib.itoa ((Ap c.fEffects ha).fDelay),hd]:List Al)]:List (List Al))) (enc:=Bm) (css:=[[AY 1 (A4 eS ([Lib.itoa ((Ap c.fEffects ha).fKind),(Ap c.fEffects ha).fKey,Lib.itoa ((Ap c.fEffects ha).fDelay),hd]:List Al))]]) (xs:=[.tmp 47]) Hg GN PX Aa Aa Aa ⟨D1.one Aa (Up.refl _),trivial⟩ Aa CZ Aa Aa) ?_)))))))))))));exact Pb
    refine Dg (H1:=[.blk hg (Ah (Ap c.fEffects ha)) 65,.row hb 65 4 (A4 Ah c.fEffects),.row hh 42 1 (A4 Bm hf)]) [35,36,37,38,39,40,41,42,43,44,45,46,47,48,5,7,29,30,31] ?_;refine ck hD λhE hG=>Exists.elim QF λinf hinf=>Cb (xs:=hf) (ys:=([([Lib.itoa ((Ap c.fEffects ha).fKind),(Ap c.fEffects ha).fKey,Lib.itoa ((Ap c.fEffects ha).fDelay),hd]:List Al)]:List (List Al))) (enc:=Bm) (i:=2) Hg hinf.1 hinf.2.1 hinf.2.2.1 hinf.2.2.2 Aa Aa Aa Aa Aa (If.z Aa Aa) CZ Jj hE Aa (λho=>?_);refine wa Aa (Am (AG (AP (Ai (ck hG λhH hI=>wv (Bz Aa Aa hH) (wm Aa (Am (BU (H2:=[.row hb 65 4 (A4 Ah c.fEffects),.row ho 42 1 (A4 Bm (hf++([([Lib.itoa ((Ap c.fEffects ha).fKind),(Ap c.fEffects ha).fKey,Lib.itoa ((Ap c.fEffects ha).fDelay),hd]:List Al)]:List (List Al)))),.blk hg (Ah (Ap c.fEffects ha)) 65]) ((As (i:=2) Aa).trans (Abp _ (Abq _))) ?_))))))));have hJ:=Bk hI hm;exact Aw (AI (hz,(hf++([([Lib.itoa ((Ap c.fEffects ha).fKind),(Ap c.fEffects ha).fKey,Lib.itoa ((Ap c.fEffects ha).fDelay),hd]:List Al)]:List (List Al)),ha+1),ho) ⟨hJ,Aby _⟩ (AL.c Aa (AL.c Aa (AL.c Aa (AL.c Aa AL.nil)))) (sC (sC (sS sN))))
   ·refine Bx (A6 ?_);have hK:=BX h2 hm hx;exact A6 (Be (AI (hf,hh) hK (AL.c Aa AL.nil) (sC (sC sN))))
  ·rintro⟨hj,v76⟩ hk;refine Cy (l':=[(5,rv v76)]) (H':=[.row hb 65 4 (A4 Ah c.fEffects),.row v76 42 1 (A4 Bm hj)]) Aa Aa ?_;replace hk:HK F hj=some r:=hk;unfold HK at hk;refine Bc (AP (Ak (wm Aa (WL.freeze (i:=1) Aa (WL.up (d:=51) (r:=AY 1 (A4 Bm hj)) Aa (Up.fact (i:=0) Aa) (ob hk λhL hN hO=>CG Tryz.call48 (Q6 F hj hL hN) Aa (wv (AA Aa Aa) (wv (AA Aa Aa) (wa Aa (wa Aa (Av (A1 ?_))))))))))));obtain rfl:=A5 hO;exact A0 (DJ XT (AM Aa) (AM Aa)) (sS (sC sN)) ⟨Aa,Aa⟩
theorem Vg (F:Nat)(hd:Nat)(he:Value)(keys:(List (Al×Aj)))(l:(List Ar))(r:Int×(List (Al×Aj)))(h:QA F keys l=some r):Fn Tryz.prog GE 65 [rv (.map (some hd)),rv he] [.map hd (AF Au keys),.row he 65 4 (A4 Ah l)] (λR H=>R=At r.1∧H=[.map hd (AF Au r.2),.row he 65 4 (A4 Ah l)]):=by
 refine enter (n:=39) Tryz.func65 Aa Tryz.ntmps65 Aa (λw Z=>?_);unfold QA at h;refine Ak (wa Aa (Av (An (Ak (wm Aa (wv (Ch (ys:=l) (enc:=Ah) (i:=1) EV Aa Aa) (wv (r:=At 0) (Aq Aa) (Av (AJ (ob h λhq hr hn=>Bu (S:=Nat×(Int×(List (Al×Aj)))×(Unit)) (V:=((List (Al×Aj)))×(Unit)) 0 (λσ=>Ci (λσ=>Ja l σ.1 σ.2) σ.1 σ.2.1=some hq) (λσ=>[(0,rv (.map (some hd))),(7,rv he),(8,At (l.length:Int)),(9,At σ.2.1.1)]) (λσ=>[.map hd (AF Au σ.2.1.2),.row he 65 4 (A4 Ah l)]) (λσ=>σ.1) (F,(0,keys),()) hr (AL.c Aa (AL.c Aa (AL.c Aa (AL.c Aa AL.nil)))) (sC (sC sN)) (λσ=>IZ σ.1=some r) (λσ=>[]) (λσ=>[.map hd (AF Au σ.1),.row he 65 4 (A4 Ah l)]) ?_ ?_))))))))))
 ·rintro⟨hH,⟨ha,hb⟩,⟨⟩⟩ hs;refine BW (l':=[(0,rv (.map (some hd))),(7,rv he),(8,At (l.length:Int)),(9,At ha)]) (H':=[.map hd (AF Au hb),.row he 65 4 (A4 Ah l)]) Aa Aa ?_;obtain⟨ht,rfl,hk,hh,hl⟩:=C4 hs;replace hh:Ja l ha hb=some hk:=hh;unfold Ja at hh;refine Ak (wv (C0 Aa Aa) (Av (An (cz hh Aa (λhu hw=>?_) (λhu hx=>?_)))))
  ·refine Ay (AP (Dm (S:=((List (Al×Aj)))×(Unit)) (λσ=>Gx ha σ.1=some hk) (λσ=>[(0,rv (.map (some hd))),(7,rv he),(8,At (l.length:Int)),(9,At ha)]) (λσ=>[.map hd (AF Au σ.1),.row he 65 4 (A4 Ah l)]) ?_ ?_))
   ·refine AJ (Ak (ck hw λho hy=>wv (r:=rv (E1 4 he (B4 ha) 0)) (En (i:=1) EV Dl Aa Aa Aa (BO ho)) (wv (r:=BQ (Ah (Ap l ha))) (Ks (enc:=Ah) (ys:=l) (i:=1) (j:=ha) H9 Dl Aa Aa ho Aa Aa) (Cc (cs:=[At 0,rS ([]:Al),rv (.slice none 0 0),At 0]) Lt Aa Aa (λhg=>?_)))));refine Br (i:=0) Dl Aa Aa Aa (Cq.c Aa) Aa Aa (cs':=[At ((Ap l ha).fKind),rS ((Ap l ha).fKey),AY 4 (A4 Ab ((Ap l ha).fValue)),At ((Ap l ha).fDelay)]) Aa (H':=[.blk hg (Ah (Ap l ha)) 65,.map hd (AF Au hb),.row he 65 4 (A4 Ah l)]) Aa (Bs (vF BP Aa D4 (vL 0 D5 Aa (Av (AJ (Ak (wv (B5 Aa Aa) (wa Aa (Av (cz hy Aa (λhz h0=>?_) (λhz h1=>?_)))))))))))
    ·refine An (ob h0 λhf h2 h3=>ck h3 λh4 h5=>Db 13 [0,6,7,8,9] [⟨[],rv (.map (some hd)),none,none,none⟩,⟨[],rP hg 1,none,none,none⟩,⟨[1],rS ((Ap l ha).fKey),none,none,none⟩,⟨[],rP hg 2,none,none,none⟩,⟨[3],AY 4 (A4 Ab ((Ap l ha).fValue)),none,none,none⟩,⟨[4],AY 4 (A4 Ab hf),none,none,none⟩,⟨[],rv (.map (some hd)),none,none,none⟩,⟨[],rP hg 1,none,none,none⟩,⟨[7],rS ((Ap l ha).fKey),none,none,none⟩,⟨[6,8],BQ (Cf (BL hb ((Ap l ha).fKey) (Aj.mk ([]:(List Ac)) 0))),none,none,none⟩,⟨[9],At ((BL hb ((Ap l ha).fKey) (Aj.mk ([]:(List Ac)) 0)).fVersion),none,none,none⟩,⟨[10],At (((BL hb ((Ap l ha).fKey) (Aj.mk ([]:(List Ac)) 0)).fVersion)+1),none,none,none⟩,⟨[5,11],BQ [AY 4 (A4 Ab hf),At (((BL hb ((Ap l ha).fKey) (Aj.mk ([]:(List Ac)) 0)).fVersion)+1)],none,none,none⟩] ?_ (λβ=>?_))
     ·refine CL (Aq Aa) (CL (A9 BP Aa Cv Aa Aa) (Gi (AT (i:=0) CD Aa Aa Aa) (CL (A9 BP Aa C5 Aa Aa) (Gi (AT (i:=0) Dt Aa Aa Aa) (KS (Em SD (H4 ((Ap l ha).fValue) hf h2) Aa) (CL (Aq Aa) (CL (A9 BP Aa Cv Aa Aa) (Gi (AT (i:=0) CD Aa Aa Aa) (Gi (Mx (enc:=Au) (xs:=hb) (z:=Aj.mk ([]:(List Ac)) 0) (i:=1) Lu Cu Ur Ga Aa Aa Aa) (CL (TR XP Aa CM Aa Aa) (CL (Bz Aa Aa h4) (CL (KT Aa Aa Aa Aa) ?_))))))))))));exact Pb
     refine Dg (H1:=[.blk hg (Ah (Ap l ha)) 65,.map hd (AF Au hb),.row he 65 4 (A4 Ah l)]) [17,18,19,20,21,22,23,24,25,26,27,28,29,0,6,7,8,9] ?_;refine HD (enc:=Au) (xs:=hb) (v:=(Aj.mk hf (((BL hb ((Ap l ha).fKey) (Aj.mk ([]:(List Ac)) 0)).fVersion)+1))) (i:=1) Lu Cu Aa Aa Aa Aa (H':=[.blk hg (Ah (Ap l ha)) 65,.map hd (AF Au (mset hb ((Ap l ha).fKey) (Aj.mk hf (((BL hb ((Ap l ha).fKey) (Aj.mk ([]:(List Ac)) 0)).fVersion)+1)))),.row he 65 4 (A4 Ah l)]) Aa (Bs (wm Aa (wv (r:=At ((mset hb ((Ap l ha).fKey) (Aj.mk hf (((BL hb ((Ap l ha).fKey) (Aj.mk ([]:(List Ac)) 0)).fVersion)+1))).length:Int)) (WD (N:=(mset hb ((Ap l ha).fKey) (Aj.mk hf (((BL hb ((Ap l ha).fKey) (Aj.mk ([]:(List Ac)) 0)).fVersion)+1))).length) (i:=1) Lu Aa Aa (GC _ _)) (wv (CI Aa Aa) (Av (cz h5 Aa (λh6 h7=>?_) (λh6 h8=>?_)))))))
     ·refine Ak (wa Aa (Av (A1 (AC (AC (Ae (Ae (Bj ?_))))))));have h9:=BB h7 hl hn;refine AC (Ae ?_);obtain rfl:=A5 h9;exact A0 (BJ XR (AM Aa)) (sS (sC (sC sN))) ⟨Aa,Aa⟩
     ·exact Ay (AG (AG (Aw (AI (mset hb ((Ap l ha).fKey) (Aj.mk hf (((BL hb ((Ap l ha).fKey) (Aj.mk ([]:(List Ac)) 0)).fVersion)+1)),()) h8 (AL.c Aa (AL.c Aa (AL.c Aa (AL.c Aa AL.nil)))) (sS (sC (sC sN)))))))
    ·refine Ak (wv (B5 Aa Aa) (wa Aa (Av (cz h1 Aa (λc171 hA=>?_) (λc171 hB=>?_)))))
     ·exact Ai (wm Aa (vF BP Aa Cv (vL 0 CD Aa (TA (enc:=Au) (xs:=hb) (i:=1) Lu Cu Aa Aa Aa (H':=[.blk hg (Ah (Ap l ha)) 65,.map hd (AF Au (mdel hb ((Ap l ha).fKey))),.row he 65 4 (A4 Ah l)]) Aa (Am (AG (AG (Aw (AI (mdel hb ((Ap l ha).fKey),()) hA (AL.c Aa (AL.c Aa (AL.c Aa (AL.c Aa AL.nil)))) (sS (sC (sC sN))))))))))))
     ·exact Ay (AG (AG (Aw (AI (hb,()) hB (AL.c Aa (AL.c Aa (AL.c Aa (AL.c Aa AL.nil)))) (sS (sC (sC sN)))))))
   ·rintro⟨hm,⟨⟩⟩ hi;refine BW (l':=[(0,rv (.map (some hd))),(7,rv he),(8,At (l.length:Int)),(9,At ha)]) (H':=[.map hd (AF Au hm),.row he 65 4 (A4 Ah l)]) Aa Aa ?_;replace hi:Gx ha hm=some hk:=hi;unfold Gx at hi;refine Ai (ck hi λhC hD=>wv (Bz Aa Aa hC) (wm Aa (Am ?_)));have hE:=Bk hD hl;exact Aw (AI (ht,(ha+1,hm),()) ⟨hE,Aby _⟩ (AL.c Aa (AL.c Aa (AL.c Aa (AL.c Aa AL.nil)))) (sC (sC sN)))
  ·refine Bx (A6 ?_);have hG:=BX hx hl hn;exact A6 (Be (AI (hb,()) hG AL.nil (sC (sC sN))))
 ·rintro⟨hp,⟨⟩⟩ hj;refine Cy (l':=[]) (H':=[.map hd (AF Au hp),.row he 65 4 (A4 Ah l)]) Aa Aa ?_;replace hj:IZ hp=some r:=hj;unfold IZ at hj;refine Bc (AP (Ak (wa Aa (Av (A1 ?_)))));obtain rfl:=A5 hj;exact A0 (BJ XR (AM Aa)) (sC (sC sN)) ⟨Aa,Aa⟩
theorem Oz (F:Nat)(he:Nat)(hg:Value)(ha:Nat)(hb:Nat)(hf:Value)(hd:Value)(o:AR)(c:AS)(r:Bool×Int×AR)(h:LQ F o c=some r):Fn Tryz.prog GE 35 [rP he 0,BQ [rS c.fEvent,rS c.fTenant,At c.fAttempt,AY 4 (A4 Ab c.fResult),rv hd,At c.fAt]] [.blk he [rB o.fMade,rv hg,rv (.map (some ha)),rv (.map (some hb)),rv hf] 59,.row hg 9 1 (A4 eS o.fEvents),.map ha (AF Ao o.fResults),.map hb (AF Ad o.fKeys),.row hf 67 8 (A4 Af o.fPending),.row hd 65 4 (A4 Ah c.fEffects)] (λR H=>∃w0_1:Value,∃w0_4:Value,R=C7 [rB r.1,At r.2.1]∧H=[.blk he [rB r.2.2.fMade,rv w0_1,rv (.map (some ha)),rv (.map (some hb)),rv w0_4] 59,.row w0_1 9 1 (A4 eS r.2.2.fEvents),.map ha (AF Ao r.2.2.fResults),.map hb (AF Ad r.2.2.fKeys),.row w0_4 67 8 (A4 Af r.2.2.fPending),.row hd 65 4 (A4 Ah c.fEffects)]):=by
 refine enter (n:=131) Tryz.func35 Aa Tryz.ntmps35 Aa (λw Z=>?_);unfold LQ at h;refine Ak (C3 Aa Aa (λb1=>?_));refine wa Aa (wa Aa (Av (An (Ak (wm Aa (ob h λr2 e4 h3=>DX (Hr:=[.blk b1 [rS c.fEvent,rS c.fTenant,At c.fAttempt,AY 4 (A4 Ab c.fResult),rv hd,At c.fAt] 34,.row hg 9 1 (A4 eS o.fEvents),.map ha (AF Ao o.fResults),.map hb (AF Ad o.fKeys),.row hf 67 8 (A4 Af o.fPending),.row hd 65 4 (A4 Ah c.fEffects)]) PY (G8 he hg ha hb hf o r2 e4) Aa ((As (i:=1) Aa).trans (Abp _ (Abq _))) Aa ?_))))));rintro _ _ ⟨rfl,rfl⟩;refine wv (BE Aa) (Av (cz h3 Aa (λc5 h6=>?_) (λc5 h7=>?_)))
 ·refine Ak (wa Aa (wa Aa (Av (A1 (Ae ?_)))));obtain rfl:=A5 h6;exact A0 (DJ Mi (AM Aa) (AM Aa)) (sC (sS (sC (sC (sC (sC (sC sN))))))) ⟨hg,hf,Aa,Aa⟩
 ·refine Ay (AP (An (Ak (wv (Bf (i:=1) Gh Ec Aa Aa Aa Aa) (ob h7 λr8 hK h9=>DX (Hr:=[.blk he [rB o.fMade,rv hg,rv (.map (some ha)),rv (.map (some hb)),rv hf] 59,.blk b1 [rS c.fEvent,rS c.fTenant,At c.fAttempt,AY 4 (A4 Ab c.fResult),rv hd,At c.fAt] 34,.row hg 9 1 (A4 eS o.fEvents),.map ha (AF Ao o.fResults),.map hb (AF Ad o.fKeys),.row hf 67 8 (A4 Af o.fPending)]) U2 (Mz F hd c r8 hK) Aa ((As (i:=6) Aa).trans (Abp _ (Abq _))) Aa ?_)))));rintro _ _ ⟨rfl,rfl⟩;refine wa Aa (Bs (wm Aa (wv (BT Aa Aa) (Av (cz h9 Aa (λhL hN=>?_) (λhL hO=>?_))))))
  ·refine Ak (wm Aa (wa Aa (wa Aa (Av (A1 (Ae (BU (H2:=[.blk he [rB o.fMade,rv hg,rv (.map (some ha)),rv (.map (some hb)),rv hf] 59,.row hg 9 1 (A4 eS o.fEvents),.map ha (AF Ao o.fResults),.map hb (AF Ad o.fKeys),.row hf 67 8 (A4 Af o.fPending),.row hd 65 4 (A4 Ah c.fEffects),.blk b1 [rS c.fEvent,rS c.fTenant,At c.fAttempt,AY 4 (A4 Ab c.fResult),rv hd,At c.fAt] 34]) ((As (i:=1) Aa).trans (Abp _ ((As (i:=2) Aa).trans (Abp _ ((As (i:=2) Aa).trans (Abp _ ((As (i:=2) Aa).trans (Abp _ ((As (i:=2) Aa).trans (Abp _ (Abq _))))))))))) ?_)))))));obtain rfl:=A5 hN;exact A0 (DJ Mi (AM Aa) (AM Aa)) (sC (sC (sC (sC (sC (sC (sS sN))))))) ⟨hg,hf,Aa,Aa⟩
  ·refine Ay (AP (An (An (Do [0,3] [⟨[],rP he 0,0⟩,⟨[0],rP he 0,0⟩,⟨[1],rP he 2,0⟩,⟨[2],rv (.map (some ha)),1⟩,⟨[],rP b1 0,0⟩,⟨[4],rS c.fEvent,1⟩,⟨[3,5],C7 [AY 4 (A4 Ab (BL o.fResults c.fEvent ([]:(List Ac)))),rB (Gj o.fResults c.fEvent)],1⟩,⟨[6],C7 [AY 4 (A4 Ab (BL o.fResults c.fEvent ([]:(List Ac)))),rB (Gj o.fResults c.fEvent)],0⟩,⟨[7],AY 4 (A4 Ab (BL o.fResults c.fEvent ([]:(List Ac)))),0⟩,⟨[7],rB (Gj o.fResults c.fEvent),0⟩,⟨[8],AY 4 (A4 Ab (BL o.fResults c.fEvent ([]:(List Ac)))),0⟩,⟨[9],rB (Gj o.fResults c.fEvent),0⟩] [8,0,3] ?_ ?_))))
   ·refine oq (Aq Aa) (oq (AB Aa) (oq (A9 Gn Aa VN Aa Aa) (of (AT (i:=1) VV Aa Aa Aa) (oq (A9 Cl Aa Cv Aa Aa) (of (AT (i:=2) CD Aa Aa Aa) (of (Q1 (enc:=Ao) (xs:=o.fResults) (z:=([]:(List Ac))) (i:=4) VL Cu Zm Gy Aa Aa Aa) (oq (Aq Aa) (oq (AA Aa Aa) (oq (AA Aa Aa) (oq (Az Aa) (oq (Az Aa) ?_)))))))))));exact CN
   refine AP (Ak (wm Aa (Av (cz hO Aa (λhP hQ=>?_) (λhP hR=>?_)))))
   ·refine Ak (wa Aa (wa Aa (Av (A1 (Ae (BU (H2:=[.blk he [rB o.fMade,rv hg,rv (.map (some ha)),rv (.map (some hb)),rv hf] 59,.row hg 9 1 (A4 eS o.fEvents),.map ha (AF Ao o.fResults),.map hb (AF Ad o.fKeys),.row hf 67 8 (A4 Af o.fPending),.row hd 65 4 (A4 Ah c.fEffects),.blk b1 [rS c.fEvent,rS c.fTenant,At c.fAttempt,AY 4 (A4 Ab c.fResult),rv hd,At c.fAt] 34]) ((As (i:=1) Aa).trans (Abp _ ((As (i:=2) Aa).trans (Abp _ ((As (i:=2) Aa).trans (Abp _ ((As (i:=2) Aa).trans (Abp _ ((As (i:=2) Aa).trans (Abp _ (Abq _))))))))))) ?_))))));obtain rfl:=A5 hQ;exact A0 (DJ Mi (AM Aa) (AM Aa)) (sC (sC (sC (sC (sC (sC (sS sN))))))) ⟨hg,hf,Aa,Aa⟩
   ·refine Ay (AP (An (Ak (wm Aa (wv (AB Aa) (vF Gn Aa GN (vL 1 Mj Aa (wv (Ch (ys:=o.fEvents) (enc:=eS) (i:=3) Cn Aa Aa) (wv (GH Aa Aa) (Av (cz hR Aa (λhS hT=>?_) (λhS hU=>?_))))))))))))
    ·refine Ak (wa Aa (wa Aa (Av (A1 (Ae (BU (H2:=[.blk he [rB o.fMade,rv hg,rv (.map (some ha)),rv (.map (some hb)),rv hf] 59,.row hg 9 1 (A4 eS o.fEvents),.map ha (AF Ao o.fResults),.map hb (AF Ad o.fKeys),.row hf 67 8 (A4 Af o.fPending),.row hd 65 4 (A4 Ah c.fEffects),.blk b1 [rS c.fEvent,rS c.fTenant,At c.fAttempt,AY 4 (A4 Ab c.fResult),rv hd,At c.fAt] 34]) ((As (i:=1) Aa).trans (Abp _ ((As (i:=2) Aa).trans (Abp _ ((As (i:=2) Aa).trans (Abp _ ((As (i:=2) Aa).trans (Abp _ ((As (i:=2) Aa).trans (Abp _ (Abq _))))))))))) ?_))))));obtain rfl:=A5 hT;exact A0 (DJ Mi (AM Aa) (AM Aa)) (sC (sC (sC (sC (sC (sC (sS sN))))))) ⟨hg,hf,Aa,Aa⟩
    ·refine Ay (AP (Ak (Kg Aa (λhk=>?_))));refine wa Aa (Av (An (An (Db 7 [0,3,9] [⟨[],rP he 0,none,none,none⟩,⟨[0],rP he 0,none,none,none⟩,⟨[1],rP he 3,none,none,none⟩,⟨[2],rv (.map (some hb)),none,none,none⟩,⟨[],rP b1 1,none,none,none⟩,⟨[4],rS c.fTenant,none,none,none⟩,⟨[3,5],Mg (AF Au (BL o.fKeys c.fTenant ([]:(List (Al×Aj))))),none,none,none⟩] ?_ (λβ=>?_)))))
     ·refine CL (Aq Aa) (CL (AB Aa) (CL (A9 Gn Aa Uu Aa Aa) (Gi (AT (i:=2) U3 Aa Aa Aa) (CL (A9 Cl Aa Cv Aa Aa) (Gi (AT (i:=3) CD Aa Aa Aa) (Gi (Mx (enc:=Ad) (xs:=o.fKeys) (z:=([]:(List (Al×Aj)))) (i:=6) Ut Cu XM Dd Aa Aa Aa) ?_))))));exact Pb
     refine Dg (H1:=[.map hk (AF Au ([]:List (Al×Aj))),.row hd 65 4 (A4 Ah c.fEffects),.blk he [rB o.fMade,rv hg,rv (.map (some ha)),rv (.map (some hb)),rv hf] 59,.blk b1 [rS c.fEvent,rS c.fTenant,At c.fAttempt,AY 4 (A4 Ab c.fResult),rv hd,At c.fAt] 34,.row hg 9 1 (A4 eS o.fEvents),.map ha (AF Ao o.fResults),.map hb (AF Ad o.fKeys),.row hf 67 8 (A4 Af o.fPending)]) [43,44,45,46,47,48,49,0,3,9] ?_;refine NK Lu Aa Aa (λhs=>?_);refine Av (AJ ?_);have hV:=Ti hU;refine Bu (S:=(List (Al×Aj))×((List (Al×Aj)))×(Unit)) (V:=((List (Al×Aj)))×(Unit)) 0 (λσ=>∀qo:List (Al×Aj),qo.Perm σ.1→B3 (Tj (λpe τ=>HO pe.1 pe.2 τ) qo σ.2.1) (BS λν=>EP F o c ν)=some r) (λσ=>[(0,rP he 0),(3,rP b1 0),(9,rv (.map (some hk))),(50,rP hs 0)]) (λσ=>[.itz hs (AF Au (BL o.fKeys c.fTenant ([]:(List (Al×Aj))))) (AF Au σ.1) none,.map hk (AF Au σ.2.1),.row hd 65 4 (A4 Ah c.fEffects),.blk he [rB o.fMade,rv hg,rv (.map (some ha)),rv (.map (some hb)),rv hf] 59,.blk b1 [rS c.fEvent,rS c.fTenant,At c.fAttempt,AY 4 (A4 Ab c.fResult),rv hd,At c.fAt] 34,.row hg 9 1 (A4 eS o.fEvents),.map ha (AF Ao o.fResults),.map hb (AF Ad o.fKeys),.row hf 67 8 (A4 Af o.fPending)]) (λσ=>σ.1.length) (BL o.fKeys c.fTenant ([]:(List (Al×Aj))),([]:List (Al×Aj)),()) hV (AL.c Aa (AL.c Aa (AL.c Aa (AL.c Aa AL.nil)))) (sC (sC (sC (sC (sC (sC (sC (sC (sC sN))))))))) (λσ=>EP F o c σ.1=some r) (λσ=>[(0,rP he 0),(3,rP b1 0),(9,rv (.map (some hk)))]) (λσ=>[.map hk (AF Au σ.1),.row hd 65 4 (A4 Ah c.fEffects),.blk he [rB o.fMade,rv hg,rv (.map (some ha)),rv (.map (some hb)),rv hf] 59,.blk b1 [rS c.fEvent,rS c.fTenant,At c.fAttempt,AY 4 (A4 Ab c.fResult),rv hd,At c.fAt] 34,.row hg 9 1 (A4 eS o.fEvents),.map ha (AF Ao o.fResults),.map hb (AF Ad o.fKeys),.row hf 67 8 (A4 Af o.fPending)]) ?_ ?_
     ·rintro⟨hD,hq,⟨⟩⟩ hE;refine BW (l':=[(0,rP he 0),(3,rP b1 0),(9,rv (.map (some hk))),(50,rP hs 0)]) (H':=[.itz hs (AF Au (BL o.fKeys c.fTenant ([]:(List (Al×Aj))))) (AF Au hD) none,.map hk (AF Au hq),.row hd 65 4 (A4 Ah c.fEffects),.blk he [rB o.fMade,rv hg,rv (.map (some ha)),rv (.map (some hb)),rv hf] 59,.blk b1 [rS c.fEvent,rS c.fTenant,At c.fAttempt,AY 4 (A4 Ab c.fResult),rv hd,At c.fAt] 34,.row hg 9 1 (A4 eS o.fEvents),.map ha (AF Ao o.fResults),.map hb (AF Ad o.fKeys),.row hf 67 8 (A4 Af o.fPending)]) Aa Aa (Ak (Qb (enc:=Au) (ys:=hD) (i:=0) Aa Aa Aa (λhy=>?_) (λp hx hG=>?_)))
      ·have hW:EP F o c hq=some r:=QD hE hy;exact wv (AA Aa Aa) (Av (An (D2 Aa Aa (Bx (A6 (A6 (Be (AI (hq,()) hW (AL.c Aa (AL.c Aa (AL.c Aa AL.nil))) (sS (sC (sC (sC (sC (sC (sC (sC (sC sN)))))))))))))))))
      ·obtain⟨ht,ho⟩:=p;obtain⟨hX,hz,hY⟩:=Xh hE hG;replace hz:HO ht ho hq=some hX:=hz;unfold HO at hz;refine SG (H':=[.itz hs (AF Au (BL o.fKeys c.fTenant ([]:(List (Al×Aj))))) (AF Au hx) (some (ht,Au ho)),.map hk (AF Au hq),.row hd 65 4 (A4 Ah c.fEffects),.blk he [rB o.fMade,rv hg,rv (.map (some ha)),rv (.map (some hb)),rv hf] 59,.blk b1 [rS c.fEvent,rS c.fTenant,At c.fAttempt,AY 4 (A4 Ab c.fResult),rv hd,At c.fAt] 34,.row hg 9 1 (A4 eS o.fEvents),.map ha (AF Ao o.fResults),.map hb (AF Ad o.fKeys),.row hf 67 8 (A4 Af o.fPending)]) Aa (wv (AA Aa Aa) (Av (An (DH Aa Aa (Ay (AP (AJ (Ak (wv (r:=C7 [rS ht,BQ (Cf ho)]) (Ou (i:=0) Aa Aa) (wv (AA Aa Aa) (wv (AA Aa Aa) (Cc (cs:=[rv (.slice none 0 0),At 0]) Ur Aa Aa (λhH=>?_)))))))))))));refine wa Aa (Br (i:=0) VM Aa Aa Aa (Cq.c Aa) Aa Aa (cs':=[AY 4 (A4 Ab ho.fValue),At ho.fVersion]) Aa (H':=[.blk hH (Cf ho) 90,.itz hs (AF Au (BL o.fKeys c.fTenant ([]:(List (Al×Aj))))) (AF Au hx) (some (ht,Au ho)),.map hk (AF Au hq),.row hd 65 4 (A4 Ah c.fEffects),.blk he [rB o.fMade,rv hg,rv (.map (some ha)),rv (.map (some hb)),rv hf] 59,.blk b1 [rS c.fEvent,rS c.fTenant,At c.fAttempt,AY 4 (A4 Ab c.fResult),rv hd,At c.fAt] 34,.row hg 9 1 (A4 eS o.fEvents),.map ha (AF Ao o.fResults),.map hb (AF Ad o.fKeys),.row hf 67 8 (A4 Af o.fPending)]) Aa (Av (Ai (wm Aa (wm Aa (wv (Bf (i:=0) Tryz.isAgg90 VM Aa Aa Aa Aa) (HD (enc:=Au) (xs:=hq) (v:=ho) (i:=2) Lu Cu Aa Aa Aa Aa (H':=[.blk hH (Cf ho) 90,.itz hs (AF Au (BL o.fKeys c.fTenant ([]:(List (Al×Aj))))) (AF Au hx) (some (ht,Au ho)),.map hk (AF Au (mset hq ht ho)),.row hd 65 4 (A4 Ah c.fEffects),.blk he [rB o.fMade,rv hg,rv (.map (some ha)),rv (.map (some hb)),rv hf] 59,.blk b1 [rS c.fEvent,rS c.fTenant,At c.fAttempt,AY 4 (A4 Ab c.fResult),rv hd,At c.fAt] 34,.row hg 9 1 (A4 eS o.fEvents),.map ha (AF Ao o.fResults),.map hb (AF Ad o.fKeys),.row hf 67 8 (A4 Af o.fPending)]) Aa (Am (AG (WK.uncurz (i:=1) Aa ?_))))))))));have hZ:=M0 hz hY;exact Aw (AI (hx,mset hq ht ho,()) ⟨hZ,Qy hG⟩ (AL.c Aa (AL.c Aa (AL.c Aa (AL.c Aa AL.nil)))) (sS (sC (sC (sC (sC (sC (sC (sC (sC (sC sN)))))))))))
     ·rintro⟨h5,⟨⟩⟩ h0;refine Cy (l':=[(0,rP he 0),(3,rP b1 0),(9,rv (.map (some hk)))]) (H':=[.map hk (AF Au h5),.row hd 65 4 (A4 Ah c.fEffects),.blk he [rB o.fMade,rv hg,rv (.map (some ha)),rv (.map (some hb)),rv hf] 59,.blk b1 [rS c.fEvent,rS c.fTenant,At c.fAttempt,AY 4 (A4 Ab c.fResult),rv hd,At c.fAt] 34,.row hg 9 1 (A4 eS o.fEvents),.map ha (AF Ao o.fResults),.map hb (AF Ad o.fKeys),.row hf 67 8 (A4 Af o.fPending)]) Aa Aa ?_;replace h0:EP F o c h5=some r:=h0;unfold EP at h0;refine Bc (AP (An (Ak (wm Aa (vF Cl Aa H8 (vL 3 J2 Aa (ob h0 λhj ga gb=>DX (Hr:=[.blk he [rB o.fMade,rv hg,rv (.map (some ha)),rv (.map (some hb)),rv hf] 59,.blk b1 [rS c.fEvent,rS c.fTenant,At c.fAttempt,AY 4 (A4 Ab c.fResult),rv hd,At c.fAt] 34,.row hg 9 1 (A4 eS o.fEvents),.map ha (AF Ao o.fResults),.map hb (AF Ad o.fKeys),.row hf 67 8 (A4 Af o.fPending)]) Tryz.call65 (Vg F hk hd h5 c.fEffects hj ga) Aa (Abq _) Aa ?_)))))));rintro _ _ ⟨rfl,rfl⟩;refine wa Aa (Bs (wm Aa (wv (BT Aa Aa) (Av (cz gb Aa (λgc gd=>?_) (λgc ge=>?_))))))
      ·refine Ak (wm Aa (wa Aa (wa Aa (Av (A1 (Ae (BU (H2:=[.blk he [rB o.fMade,rv hg,rv (.map (some ha)),rv (.map (some hb)),rv hf] 59,.row hg 9 1 (A4 eS o.fEvents),.map ha (AF Ao o.fResults),.map hb (AF Ad o.fKeys),.row hf 67 8 (A4 Af o.fPending),.row hd 65 4 (A4 Ah c.fEffects),.map hk (AF Au hj.2),.blk b1 [rS c.fEvent,rS c.fTenant,At c.fAttempt,AY 4 (A4 Ab c.fResult),rv hd,At c.fAt] 34]) ((As (i:=2) Aa).trans (Abp _ ((As (i:=3) Aa).trans (Abp _ ((As (i:=3) Aa).trans (Abp _ ((As (i:=3) Aa).trans (Abp _ ((As (i:=3) Aa).trans (Abp _ ((As (i:=1) Aa).trans (Abp _ (Abq _))))))))))))) ?_)))))));obtain rfl:=A5 gd;exact A0 (DJ Mi (AM Aa) (AM Aa)) (sC (sC (sC (sC (sC (sC (sS (sS sN)))))))) ⟨hg,hf,Aa,Aa⟩
      ·refine Ay (AP (An (Db 7 [0,3,9] [⟨[],rP he 0,none,none,none⟩,⟨[0],rP he 0,none,none,none⟩,⟨[1],rP he 3,none,none,none⟩,⟨[2],rv (.map (some hb)),none,none,none⟩,⟨[],rP b1 1,none,none,none⟩,⟨[4],rS c.fTenant,none,none,none⟩,⟨[],rv (.map (some hk)),none,none,none⟩] ?_ (λβ=>?_))))
       ·refine CL (Aq Aa) (CL (AB Aa) (CL (A9 Gn Aa Uu Aa Aa) (Gi (AT (i:=2) U3 Aa Aa Aa) (CL (A9 Cl Aa Cv Aa Aa) (Gi (AT (i:=3) CD Aa Aa Aa) (CL (Aq Aa) ?_))))));exact Pb
       refine Dg (H1:=[.map hk (AF Au hj.2),.row hd 65 4 (A4 Ah c.fEffects),.blk he [rB o.fMade,rv hg,rv (.map (some ha)),rv (.map (some hb)),rv hf] 59,.blk b1 [rS c.fEvent,rS c.fTenant,At c.fAttempt,AY 4 (A4 Ab c.fResult),rv hd,At c.fAt] 34,.row hg 9 1 (A4 eS o.fEvents),.map ha (AF Ao o.fResults),.map hb (AF Ad o.fKeys),.row hf 67 8 (A4 Af o.fPending)]) [66,67,68,69,70,71,72,0,3,9] ?_;refine WL.freezeM (i:=0) Aa (WL.up (d:=72) (r:=Mg (AF Au hj.2)) Aa (Up.fact (i:=0) Aa) (HD (enc:=Ad) (xs:=o.fKeys) (v:=hj.2) (i:=6) Ut Cu Aa Aa Aa Aa (H':=[.fact (.map (some hk)) (Mg (AF Au hj.2)),.row hd 65 4 (A4 Ah c.fEffects),.blk he [rB o.fMade,rv hg,rv (.map (some ha)),rv (.map (some hb)),rv hf] 59,.blk b1 [rS c.fEvent,rS c.fTenant,At c.fAttempt,AY 4 (A4 Ab c.fResult),rv hd,At c.fAt] 34,.row hg 9 1 (A4 eS o.fEvents),.map ha (AF Ao o.fResults),.map hb (AF Ad (mset o.fKeys c.fTenant hj.2)),.row hf 67 8 (A4 Af o.fPending)]) Aa (Av (An (ck ge λgf gg=>Exists.elim MX λinf hinf=>NI 9 8 [0,3] [] [{ deps:=[],r:=λ_=>rP he 0 },{ deps:=[],r:=λ_=>rP he 0 },{ deps:=[1],r:=λ_=>rP he 0 },{ deps:=[2],r:=λ_=>rP he 1 },{ deps:=[3],r:=λ_=>rv hg },{ deps:=[],r:=λ_=>rP b1 0 },{ deps:=[5],r:=λ_=>rS c.fEvent },{ deps:=[6],r:=λ_=>AY 1 (A4 eS ([c.fEvent]:List Al)) },{ deps:=[4,7],r:=λhh=>rv hh,dyn:=true }] (λhh=>[.row hh 9 1 (A4 eS (o.fEvents++([c.fEvent]:List Al))),.fact (.map (some hk)) (Mg (AF Au hj.2)),.row hd 65 4 (A4 Ah c.fEffects),.blk he [rB o.fMade,rv hg,rv (.map (some ha)),rv (.map (some hb)),rv hf] 59,.blk b1 [rS c.fEvent,rS c.fTenant,At c.fAttempt,AY 4 (A4 Ab c.fResult),rv hd,At c.fAt] 34,.map ha (AF Ao o.fResults),.map hb (AF Ad (mset o.fKeys c.fTenant hj.2)),.row hf 67 8 (A4 Af o.fPending)]) ?_ (λhh=>?_))))))
       ·refine J7 (Aq Aa) (J7 (Aq Aa) (J7 (AB Aa) (J7 (A9 Gn Aa GN Aa Aa) (TN (fun {hh}=>Ez (AT (i:=2) Mj Aa Aa Aa)) (fun {hh}=>Ez (AT (i:=3) Mj Aa Aa Aa)) (J7 (A9 Cl Aa Cv Aa Aa) (TN (fun {hh}=>Ez (AT (i:=3) CD Aa Aa Aa)) (fun {hh}=>Ez (AT (i:=4) CD Aa Aa Aa)) (Zv (Ck (ys:=([c.fEvent]:List Al)) (enc:=eS) (css:=[[rS c.fEvent]]) (xs:=[.tmp 79]) Cn Cv PW Aa Aa Aa ⟨D1.one Aa (Up.refl _),trivial⟩ Aa CY Aa Aa) (oxx (JC (xs:=o.fEvents) (ys:=([c.fEvent]:List Al)) (enc:=eS) (i:=4) Cn hinf.1 hinf.2.1 hinf.2.2.1 hinf.2.2.2 Aa Aa Aa Aa Aa (If.z Aa Aa) CY JT gf) ?_))))))));exact oxe
       refine Dg (H1:=[.row hh 9 1 (A4 eS (o.fEvents++([c.fEvent]:List Al))),.fact (.map (some hk)) (Mg (AF Au hj.2)),.row hd 65 4 (A4 Ah c.fEffects),.blk he [rB o.fMade,rv hg,rv (.map (some ha)),rv (.map (some hb)),rv hf] 59,.blk b1 [rS c.fEvent,rS c.fTenant,At c.fAttempt,AY 4 (A4 Ab c.fResult),rv hd,At c.fAt] 34,.map ha (AF Ao o.fResults),.map hb (AF Ad (mset o.fKeys c.fTenant hj.2)),.row hf 67 8 (A4 Af o.fPending)]) [73,74,75,76,77,78,79,80,81,0,3] ?_;refine wv (AB Aa) (vF Gn Aa GN (BA (i:=3) GN Aa Aa (CB (i:=0) Aa) Aa Aa (cs':=[rB o.fMade,rv hh,rv (.map (some ha)),rv (.map (some hb)),rv hf]) Aa (H':=[.row hh 9 1 (A4 eS (o.fEvents++([c.fEvent]:List Al))),.fact (.map (some hk)) (Mg (AF Au hj.2)),.row hd 65 4 (A4 Ah c.fEffects),.blk he [rB o.fMade,rv hh,rv (.map (some ha)),rv (.map (some hb)),rv hf] 59,.blk b1 [rS c.fEvent,rS c.fTenant,At c.fAttempt,AY 4 (A4 Ab c.fResult),rv hd,At c.fAt] 34,.map ha (AF Ao o.fResults),.map hb (AF Ad (mset o.fKeys c.fTenant hj.2)),.row hf 67 8 (A4 Af o.fPending)]) Aa (Av (An (ob gg λhm gh gi=>Db 9 [0,3] [⟨[],rP he 0,none,none,none⟩,⟨[0],rP he 0,none,none,none⟩,⟨[1],rP he 2,none,none,none⟩,⟨[2],rv (.map (some ha)),none,none,none⟩,⟨[],rP b1 0,none,none,none⟩,⟨[4],rS c.fEvent,none,none,none⟩,⟨[],rP b1 3,none,none,none⟩,⟨[6],AY 4 (A4 Ab c.fResult),none,none,none⟩,⟨[7],AY 4 (A4 Ab hm),none,none,none⟩] ?_ (λβ=>?_))))))
       ·refine CL (Aq Aa) (CL (AB Aa) (CL (A9 Gn Aa VN Aa Aa) (Gi (AT (i:=3) VV Aa Aa Aa) (CL (A9 Cl Aa Cv Aa Aa) (Gi (AT (i:=4) CD Aa Aa Aa) (CL (A9 Cl Aa C5 Aa Aa) (Gi (AT (i:=4) Dt Aa Aa Aa) (KS (Em SD (H4 c.fResult hm gh) Aa) ?_))))))));exact Pb
       refine Dg (H1:=[.row hh 9 1 (A4 eS (o.fEvents++([c.fEvent]:List Al))),.fact (.map (some hk)) (Mg (AF Au hj.2)),.row hd 65 4 (A4 Ah c.fEffects),.blk he [rB o.fMade,rv hh,rv (.map (some ha)),rv (.map (some hb)),rv hf] 59,.blk b1 [rS c.fEvent,rS c.fTenant,At c.fAttempt,AY 4 (A4 Ab c.fResult),rv hd,At c.fAt] 34,.map ha (AF Ao o.fResults),.map hb (AF Ad (mset o.fKeys c.fTenant hj.2)),.row hf 67 8 (A4 Af o.fPending)]) [84,85,86,87,88,89,90,91,92,0,3] ?_;refine HD (enc:=Ao) (xs:=o.fResults) (v:=hm) (i:=5) VL Cu Aa Aa Aa Aa (H':=[.row hh 9 1 (A4 eS (o.fEvents++([c.fEvent]:List Al))),.fact (.map (some hk)) (Mg (AF Au hj.2)),.row hd 65 4 (A4 Ah c.fEffects),.blk he [rB o.fMade,rv hh,rv (.map (some ha)),rv (.map (some hb)),rv hf] 59,.blk b1 [rS c.fEvent,rS c.fTenant,At c.fAttempt,AY 4 (A4 Ab c.fResult),rv hd,At c.fAt] 34,.map ha (AF Ao (mset o.fResults c.fEvent hm)),.map hb (AF Ad (mset o.fKeys c.fTenant hj.2)),.row hf 67 8 (A4 Af o.fPending)]) Aa (Av (An (Ak (vF Cl Aa H8 (vL 4 J2 Aa (wv (Ch (ys:=c.fEffects) (enc:=Ah) (i:=2) EV Aa Aa) (wv (r:=At 0) (Aq Aa) (Av (AJ (ob gi λgj gl gm=>Bu (S:=Nat×(Int×(List A3))×(Value)) (V:=((List A3))×(Value)) 2 (λσ=>Ci (λσ=>HN c σ.1 σ.2) σ.1 σ.2.1=some gj) (λσ=>[(0,rP he 0),(3,rP b1 0),(94,rv hd),(95,At (c.fEffects.length:Int)),(96,At σ.2.1.1)]) (λσ=>[.row hh 9 1 (A4 eS (o.fEvents++([c.fEvent]:List Al))),.row hd 65 4 (A4 Ah c.fEffects),.blk he [rB o.fMade,rv hh,rv (.map (some ha)),rv (.map (some hb)),rv σ.2.2] 59,.blk b1 [rS c.fEvent,rS c.fTenant,At c.fAttempt,AY 4 (A4 Ab c.fResult),rv hd,At c.fAt] 34,.map ha (AF Ao (mset o.fResults c.fEvent hm)),.map hb (AF Ad (mset o.fKeys c.fTenant hj.2)),.row σ.2.2 67 8 (A4 Af σ.2.1.2)]) (λσ=>σ.1) (F,(0,o.fPending),hf) gl (AL.c5 Aa Aa Aa Aa Aa AL.nil) (sC (sS (sC (sC (sC (sC (sC (sC sN)))))))) (λσ=>HM o c hj hm σ.1=some r) (λσ=>[]) (λσ=>[.row hh 9 1 (A4 eS (o.fEvents++([c.fEvent]:List Al))),.row hd 65 4 (A4 Ah c.fEffects),.blk he [rB o.fMade,rv hh,rv (.map (some ha)),rv (.map (some hb)),rv σ.2] 59,.map ha (AF Ao (mset o.fResults c.fEvent hm)),.map hb (AF Ad (mset o.fKeys c.fTenant hj.2)),.row σ.2 67 8 (A4 Af σ.1)]) ?_ ?_))))))))))
       ·rintro⟨gD,⟨hi,hp⟩,hr⟩ gp;refine BW (l':=[(0,rP he 0),(3,rP b1 0),(94,rv hd),(95,At (c.fEffects.length:Int)),(96,At hi)]) (H':=[.row hh 9 1 (A4 eS (o.fEvents++([c.fEvent]:List Al))),.row hd 65 4 (A4 Ah c.fEffects),.blk he [rB o.fMade,rv hh,rv (.map (some ha)),rv (.map (some hb)),rv hr] 59,.blk b1 [rS c.fEvent,rS c.fTenant,At c.fAttempt,AY 4 (A4 Ab c.fResult),rv hd,At c.fAt] 34,.map ha (AF Ao (mset o.fResults c.fEvent hm)),.map hb (AF Ad (mset o.fKeys c.fTenant hj.2)),.row hr 67 8 (A4 Af hp)]) Aa Aa ?_;obtain⟨gq,rfl,h8,h1,hI⟩:=C4 gp;replace h1:HN c hi hp=some h8:=h1;unfold HN at h1;refine Ak (wv (C0 Aa Aa) (Av (An (cz h1 Aa (λgr gs=>?_) (λgr gt=>?_)))))
        ·refine Ay (AP (Dm (S:=((List A3))×(Value)) (λσ=>GA hi σ.1=some h8) (λσ=>[(0,rP he 0),(3,rP b1 0),(94,rv hd),(95,At (c.fEffects.length:Int)),(96,At hi)]) (λσ=>[.row hh 9 1 (A4 eS (o.fEvents++([c.fEvent]:List Al))),.row hd 65 4 (A4 Ah c.fEffects),.blk he [rB o.fMade,rv hh,rv (.map (some ha)),rv (.map (some hb)),rv σ.2] 59,.blk b1 [rS c.fEvent,rS c.fTenant,At c.fAttempt,AY 4 (A4 Ab c.fResult),rv hd,At c.fAt] 34,.map ha (AF Ao (mset o.fResults c.fEvent hm)),.map hb (AF Ad (mset o.fKeys c.fTenant hj.2)),.row σ.2 67 8 (A4 Af σ.1)]) ?_ ?_))
         ·refine AJ (Ak (wm Aa (ck gs λhJ gu=>wv (r:=rv (E1 4 hd (B4 hi) 0)) (En (i:=1) EV Dl Aa Aa Aa (BO hJ)) (wv (r:=BQ (Ah (Ap c.fEffects hi))) (Ks (enc:=Ah) (ys:=c.fEffects) (i:=1) (j:=hi) H9 Dl Aa Aa hJ Aa Aa) (Cc (cs:=[At 0,rS ([]:Al),rv (.slice none 0 0),At 0]) Lt Aa Aa (λhu=>?_))))));refine wa Aa (Br (i:=0) Dl Aa Aa Aa (Cq.c Aa) Aa Aa (cs':=[At ((Ap c.fEffects hi).fKind),rS ((Ap c.fEffects hi).fKey),AY 4 (A4 Ab ((Ap c.fEffects hi).fValue)),At ((Ap c.fEffects hi).fDelay)]) Aa (H':=[.blk hu (Ah (Ap c.fEffects hi)) 65,.row hh 9 1 (A4 eS (o.fEvents++([c.fEvent]:List Al))),.row hd 65 4 (A4 Ah c.fEffects),.blk he [rB o.fMade,rv hh,rv (.map (some ha)),rv (.map (some hb)),rv hr] 59,.blk b1 [rS c.fEvent,rS c.fTenant,At c.fAttempt,AY 4 (A4 Ab c.fResult),rv hd,At c.fAt] 34,.map ha (AF Ao (mset o.fResults c.fEvent hm)),.map hb (AF Ad (mset o.fKeys c.fTenant hj.2)),.row hr 67 8 (A4 Af hp)]) Aa (Bs (vF BP Aa D4 (vL 0 D5 Aa (ob gu λgv gw gx=>CG Tryz.call66 (HJ ((Ap c.fEffects hi).fKind) gv gw) Aa (Av (cz gx Aa (λgy gz=>?_) (λgy g0=>?_))))))))
          ·refine Ak (vF Cl Aa Cv (vL 4 CD Aa (wm Aa (ck gz λg1 g2=>ck g2 λg3 g4=>Cz (rs:=[rS c.fEvent,At hi]) (r:=C7 [rS (BY c.fEvent hi),At (Cg c.fEvent hi)]) Tryz.call67 Aa (N8 c.fEvent hi g1 g3) Aa Aa (wm Aa (wv (AA Aa Aa) (wv (AA Aa Aa) (wa Aa (wa Aa (Av (ob g4 λhn g5 g6=>ck g6 λg7 g8=>Exists.elim O8 λinf hinf=>NI 17 16 [0,3,14,15,94,95,96] [] [{ deps:=[],r:=λ_=>rP he 0 },{ deps:=[],r:=λ_=>rP he 0 },{ deps:=[1],r:=λ_=>rP he 0 },{ deps:=[2],r:=λ_=>rP he 4 },{ deps:=[3],r:=λ_=>rv hr },{ deps:=[],r:=λ_=>rS (BY c.fEvent hi) },{ deps:=[],r:=λ_=>rP b1 1 },{ deps:=[6],r:=λ_=>rS c.fTenant },{ deps:=[],r:=λ_=>rP b1 0 },{ deps:=[8],r:=λ_=>rS c.fEvent },{ deps:=[],r:=λ_=>rP b1 5 },{ deps:=[10],r:=λ_=>At c.fAt },{ deps:=[],r:=λ_=>BQ (Ah (Ap c.fEffects hi)) },{ deps:=[12],r:=λ_=>BQ (Ah hn) },{ deps:=[5,7,9,11,13],r:=λ_=>BQ [rS (BY c.fEvent hi),rS c.fTenant,rS c.fEvent,At c.fAt,At hn.fKind,rS hn.fKey,AY 4 (A4 Ab hn.fValue),At hn.fDelay] },{ deps:=[14],r:=λ_=>AY 8 (A4 Af ([(A3.mk (BY c.fEvent hi) c.fTenant c.fEvent c.fAt hn)]:List A3)) },{ deps:=[4,15],r:=λhl=>rv hl,dyn:=true }] (λhl=>[.row hl 67 8 (A4 Af (hp++([(A3.mk (BY c.fEvent hi) c.fTenant c.fEvent c.fAt hn)]:List A3))),.blk hu (Ah (Ap c.fEffects hi)) 65,.row hh 9 1 (A4 eS (o.fEvents++([c.fEvent]:List Al))),.row hd 65 4 (A4 Ah c.fEffects),.blk he [rB o.fMade,rv hh,rv (.map (some ha)),rv (.map (some hb)),rv hr] 59,.blk b1 [rS c.fEvent,rS c.fTenant,At c.fAttempt,AY 4 (A4 Ab c.fResult),rv hd,At c.fAt] 34,.map ha (AF Ao (mset o.fResults c.fEvent hm)),.map hb (AF Ad (mset o.fKeys c.fTenant hj.2))]) ?_ (λhl=>?_))))))))))))
           ·refine J7 (Aq Aa) (J7 (Aq Aa) (J7 (AB Aa) (J7 (A9 Gn Aa NC Aa Aa) (TN (fun {hl}=>Ez (AT (i:=3) SE Aa Aa Aa)) (fun {hl}=>Ez (AT (i:=4) SE Aa Aa Aa)) (J7 (Aq Aa) (J7 (A9 Cl Aa Cv Aa Aa) (TN (fun {hl}=>Ez (AT (i:=4) CD Aa Aa Aa)) (fun {hl}=>Ez (AT (i:=5) CD Aa Aa Aa)) (J7 (A9 Cl Aa Cv Aa Aa) (TN (fun {hl}=>Ez (AT (i:=4) CD Aa Aa Aa)) (fun {hl}=>Ez (AT (i:=5) CD Aa Aa Aa)) (J7 (A9 Cl Aa C6 Aa Aa) (TN (fun {hl}=>Ez (AT (i:=4) CM Aa Aa Aa)) (fun {hl}=>Ez (AT (i:=5) CM Aa Aa Aa)) (TN (fun {hl}=>Ez (Bf (i:=0) H9 Dl Aa Aa Aa Aa)) (fun {hl}=>Ez (Bf (i:=1) H9 Dl Aa Aa Aa Aa)) (Zv (Em Tryz.call44 (Tb (Ap c.fEffects hi) hn g5) Aa) (J7 (GK Aa Aa Aa Aa Aa Aa Aa Aa Aa) (Zv (Ck (ys:=([(A3.mk (BY c.fEvent hi) c.fTenant c.fEvent c.fAt hn)]:List A3)) (enc:=Af) (css:=[[rS (BY c.fEvent hi),rS c.fTenant,rS c.fEvent,At c.fAt,At hn.fKind,rS hn.fKey,AY 4 (A4 Ab hn.fValue),At hn.fDelay]]) (xs:=[.tmp 125]) EU J1 Us Aa Aa Aa ⟨D1.agg ⟨Up.refl _,Up.refl _,Up.refl _,Up.refl _,Up.refl _,Up.refl _,Up.refl _,Up.refl _,trivial⟩,trivial⟩ Aa C1 Aa Aa) (oxx (JC (xs:=hp) (ys:=([(A3.mk (BY c.fEvent hi) c.fTenant c.fEvent c.fAt hn)]:List A3)) (enc:=Af) (i:=7) EU hinf.1 hinf.2.1 hinf.2.2.1 hinf.2.2.2 Aa Aa Aa Aa Aa (If.z Aa Aa) C1 D8 g7) ?_))))))))))))))));exact oxe
           refine Dg (H1:=[.row hl 67 8 (A4 Af (hp++([(A3.mk (BY c.fEvent hi) c.fTenant c.fEvent c.fAt hn)]:List A3))),.blk hu (Ah (Ap c.fEffects hi)) 65,.row hh 9 1 (A4 eS (o.fEvents++([c.fEvent]:List Al))),.row hd 65 4 (A4 Ah c.fEffects),.blk he [rB o.fMade,rv hh,rv (.map (some ha)),rv (.map (some hb)),rv hr] 59,.blk b1 [rS c.fEvent,rS c.fTenant,At c.fAttempt,AY 4 (A4 Ab c.fResult),rv hd,At c.fAt] 34,.map ha (AF Ao (mset o.fResults c.fEvent hm)),.map hb (AF Ad (mset o.fKeys c.fTenant hj.2))]) [111,112,113,114,115,116,117,118,119,120,121,122,123,124,125,126,127,0,3,14,15,94,95,96] ?_;exact wv (AB Aa) (vF Gn Aa NC (BA (i:=4) NC Aa Aa (CB (i:=0) Aa) Aa Aa (cs':=[rB o.fMade,rv hh,rv (.map (some ha)),rv (.map (some hb)),rv hl]) Aa (H':=[.row hl 67 8 (A4 Af (hp++([(A3.mk (BY c.fEvent hi) c.fTenant c.fEvent c.fAt hn)]:List A3))),.blk hu (Ah (Ap c.fEffects hi)) 65,.row hh 9 1 (A4 eS (o.fEvents++([c.fEvent]:List Al))),.row hd 65 4 (A4 Ah c.fEffects),.blk he [rB o.fMade,rv hh,rv (.map (some ha)),rv (.map (some hb)),rv hl] 59,.blk b1 [rS c.fEvent,rS c.fTenant,At c.fAttempt,AY 4 (A4 Ab c.fResult),rv hd,At c.fAt] 34,.map ha (AF Ao (mset o.fResults c.fEvent hm)),.map hb (AF Ad (mset o.fKeys c.fTenant hj.2))]) Aa (Am (AG (BU (H2:=[.row hh 9 1 (A4 eS (o.fEvents++([c.fEvent]:List Al))),.row hd 65 4 (A4 Ah c.fEffects),.blk he [rB o.fMade,rv hh,rv (.map (some ha)),rv (.map (some hb)),rv hl] 59,.blk b1 [rS c.fEvent,rS c.fTenant,At c.fAttempt,AY 4 (A4 Ab c.fResult),rv hd,At c.fAt] 34,.map ha (AF Ao (mset o.fResults c.fEvent hm)),.map hb (AF Ad (mset o.fKeys c.fTenant hj.2)),.row hl 67 8 (A4 Af (hp++([(A3.mk (BY c.fEvent hi) c.fTenant c.fEvent c.fAt hn)]:List A3))),.blk hu (Ah (Ap c.fEffects hi)) 65]) ((As (i:=2) Aa).trans (Abp _ ((As (i:=2) Aa).trans (Abp _ ((As (i:=2) Aa).trans (Abp _ ((As (i:=2) Aa).trans (Abp _ ((As (i:=2) Aa).trans (Abp _ ((As (i:=2) Aa).trans (Abp _ (Abq _))))))))))))) (Aw (AI (hp++([(A3.mk (BY c.fEvent hi) c.fTenant c.fEvent c.fAt hn)]:List A3),hl) g8 (AL.c5 Aa Aa Aa Aa Aa AL.nil) (sC (sC (sC (sC (sC (sC (sC (sS sN)))))))))))))))
          ·exact Ay (AG (Aw (AI (hp,hr) g0 (AL.c5 Aa Aa Aa Aa Aa AL.nil) (sS (sC (sC (sC (sC (sC (sC (sC sN)))))))))))
         ·rintro⟨hA,hB⟩ h2;refine BW (l':=[(0,rP he 0),(3,rP b1 0),(94,rv hd),(95,At (c.fEffects.length:Int)),(96,At hi)]) (H':=[.row hh 9 1 (A4 eS (o.fEvents++([c.fEvent]:List Al))),.row hd 65 4 (A4 Ah c.fEffects),.blk he [rB o.fMade,rv hh,rv (.map (some ha)),rv (.map (some hb)),rv hB] 59,.blk b1 [rS c.fEvent,rS c.fTenant,At c.fAttempt,AY 4 (A4 Ab c.fResult),rv hd,At c.fAt] 34,.map ha (AF Ao (mset o.fResults c.fEvent hm)),.map hb (AF Ad (mset o.fKeys c.fTenant hj.2)),.row hB 67 8 (A4 Af hA)]) Aa Aa ?_;replace h2:GA hi hA=some h8:=h2;unfold GA at h2;refine Ai (ck h2 λg9 gA=>wv (Bz Aa Aa g9) (wm Aa (Am ?_)));have gB:=Bk gA hI;exact Aw (AI (gq,(hi+1,hA),hB) ⟨gB,Aby _⟩ (AL.c5 Aa Aa Aa Aa Aa AL.nil) (sC (sC (sC (sC (sC (sC (sC sN))))))))
        ·refine Bx (A6 ?_);have gC:=BX gt hI gm;exact A6 (Be (AI (hp,hr) gC AL.nil (sC (sC (sC (sS (sC (sC (sC sN)))))))))
       ·rintro⟨hC,hw⟩ h4;refine Cy (l':=[]) (H':=[.row hh 9 1 (A4 eS (o.fEvents++([c.fEvent]:List Al))),.row hd 65 4 (A4 Ah c.fEffects),.blk he [rB o.fMade,rv hh,rv (.map (some ha)),rv (.map (some hb)),rv hw] 59,.map ha (AF Ao (mset o.fResults c.fEvent hm)),.map hb (AF Ad (mset o.fKeys c.fTenant hj.2)),.row hw 67 8 (A4 Af hC)]) Aa Aa ?_;replace h4:HM o c hj hm hC=some r:=h4;unfold HM at h4;refine Bc (AP (Ak (wa Aa (wa Aa (Av (A1 (BU (H2:=[.blk he [rB o.fMade,rv hh,rv (.map (some ha)),rv (.map (some hb)),rv hw] 59,.row hh 9 1 (A4 eS (o.fEvents++([c.fEvent]:List Al))),.map ha (AF Ao (mset o.fResults c.fEvent hm)),.map hb (AF Ad (mset o.fKeys c.fTenant hj.2)),.row hw 67 8 (A4 Af hC),.row hd 65 4 (A4 Ah c.fEffects)]) ((As (i:=2) Aa).trans (Abp _ ((As (i:=0) Aa).trans (Abp _ ((As (i:=1) Aa).trans (Abp _ ((As (i:=1) Aa).trans (Abp _ ((As (i:=1) Aa).trans (Abp _ (Abq _))))))))))) ?_)))))));obtain rfl:=A5 h4;exact A0 (DJ Mi (AM Aa) (AM Aa)) (sC (sC (sC (sC (sC (sC sN)))))) ⟨hh,hw,Aa,Aa⟩
theorem Pg (ha:Value)(c:AS)(r:Bool×Int)(h:JP c=some r):Fn Tryz.prog GE 35 [rv (.pointer none),BQ [rS c.fEvent,rS c.fTenant,At c.fAttempt,AY 4 (A4 Ab c.fResult),rv ha,At c.fAt]] [.row ha 65 4 (A4 Ah c.fEffects)] (λR H=>R=C7 [rB r.1,At r.2]∧H=[.row ha 65 4 (A4 Ah c.fEffects)]):=by
 refine enter (n:=131) Tryz.func35 Aa Tryz.ntmps35 Aa (λw Z=>?_);unfold JP at h;refine Ak (C3 Aa Aa (λb1=>?_));refine wa Aa (wa Aa (Av (An (Ak (wm Aa (CG PY (RL false Aa) Aa (wv (BE Aa) (Av (DH Aa (Gm Aa) (Ak (wa Aa (wa Aa (Av (A1 (Ae ?_)))))))))))))));obtain rfl:=A5 h;exact A0 (DJ Mi (AM Aa) (AM Aa)) (sS (sC sN)) ⟨Aa,Aa⟩
theorem Tk (F:Nat)  (r:Bool)(h:Hy F=some r):Fn Tryz.prog GE 8 [] [] (λR H=>R=rB r∧H=[]):=by
 refine enter (n:=215) Tryz.func8 Aa Tryz.ntmps8 Aa (λw Z=>?_);unfold Hy at h;refine Ak (wa Aa (Bs (ob h λr1 e3 h2=>CG Tryz.call34 (HQ 7 r1 e3) Aa (ob h2 λr4 e6 h5=>CG Tryz.call34 (HQ 1 r4 e6) Aa (wv (r:=BQ [At 1,rS ([107]:Al),AY 4 (A4 Ab r4),At 0]) (Js Aa Aa Aa Aa Aa Aa) (ob h5 λr7 e9 h8=>CG Tryz.call34 (HQ 2 r7 e9) Aa (wv (r:=BQ [At 3,rS ([115]:Al),AY 4 (A4 Ab r7),At 0]) (Js Aa Aa Aa Aa Aa Aa) (Bb (ys:=([(Ar.mk 1 ([107]:Al) r4 0),(Ar.mk 3 ([115]:Al) r7 0)]:List Ar)) (enc:=Ah) (css:=[[At 1,rS ([107]:Al),AY 4 (A4 Ab r4),At 0],[At 3,rS ([115]:Al),AY 4 (A4 Ab r7),At 0]]) (xs:=[.tmp 17,.tmp 19]) EV Dl Lt Aa Aa Aa ⟨D1.agg ⟨Up.refl _,Up.refl _,Up.refl _,Up.refl _,trivial⟩,D1.agg ⟨Up.refl _,Up.refl _,Up.refl _,Up.refl _,trivial⟩,trivial⟩ Aa D3 Aa Aa Aa (λhb=>?_)))))))));refine wv (r:=BQ [rS ([101,49]:Al),rS ([116]:Al),At 1,AY 4 (A4 Ab r1),rv (.slice (some ⟨hb,0,none⟩) 2 2),At 5]) (J6 Aa Aa Aa Aa Aa Aa Aa Aa Aa Aa Aa Aa) (Cc (cs:=[rS ([]:Al),rS ([]:Al),At 0,rv (.slice none 0 0),rv (.slice none 0 0),At 0]) XO Aa Aa (λhj=>?_));refine Br (i:=0) Ec Aa Aa Aa ⟨(BD Aa),(BD Aa),(BD Aa),(BD Aa),(CB (i:=1) Aa),(BD Aa),trivial⟩ Aa Aa (cs':=[rS ([101,49]:Al),rS ([116]:Al),At 1,AY 4 (A4 Ab r1),rv (.slice (some ⟨hb,0,none⟩) 2 2),At 5]) Aa (H':=[.blk hj [rS ([101,49]:Al),rS ([116]:Al),At 1,AY 4 (A4 Ab r1),rv (.slice (some ⟨hb,0,none⟩) 2 2),At 5] 34,.row (.slice (some ⟨hb,0,none⟩) 2 2) 65 4 (A4 Ah ([(Ar.mk 1 ([107]:Al) r4 0),(Ar.mk 3 ([115]:Al) r7 0)]:List Ar))]) Aa (Bs (ob h8 λgf gp gq=>DX (Hr:=[.blk hj [rS ([101,49]:Al),rS ([116]:Al),At 1,AY 4 (A4 Ab r1),rv (.slice (some ⟨hb,0,none⟩) 2 2),At 5] 34,.row (.slice (some ⟨hb,0,none⟩) 2 2) 65 4 (A4 Ah ([(Ar.mk 1 ([107]:Al) r4 0),(Ar.mk 3 ([115]:Al) r7 0)]:List Ar))]) Tryz.call9 (WN gf gp) Aa (Abq _) Aa ?_));rintro _ _ ⟨hl,gr,he,hf,gs,rfl,rfl⟩;refine wa Aa (Bs (wm Aa (wv (Bf (i:=5) Gh Ec Aa Aa Aa Aa) (ob gq λhu gt gu=>DX (Hr:=[.blk hj [rS ([101,49]:Al),rS ([116]:Al),At 1,AY 4 (A4 Ab r1),rv (.slice (some ⟨hb,0,none⟩) 2 2),At 5] 34]) Tryz.call35 (Oz F hl gr he hf gs (.slice (some ⟨hb,0,none⟩) 2 2) gf (AS.mk ([101,49]:Al) ([116]:Al) 1 r1 ([(Ar.mk 1 ([107]:Al) r4 0),(Ar.mk 3 ([115]:Al) r7 0)]:List Ar) 5) hu gt) Aa ((As (i:=0) Aa).trans (Abp _ ((As (i:=0) Aa).trans (Abp _ ((As (i:=0) Aa).trans (Abp _ ((As (i:=0) Aa).trans (Abp _ ((As (i:=0) Aa).trans (Abp _ ((As (i:=1) Aa).trans (Abp _ (Abq _))))))))))))) Aa ?_))));rintro _ _ ⟨gv,v24,rfl,rfl⟩;refine wm Aa (wv (AA Aa Aa) (wv (AA Aa Aa) (wa Aa (wa Aa (Bs (wm Aa (wv (Bf (i:=6) Gh Ec Aa Aa Aa Aa) (ob gu λhm gw gx=>DX (Hr:=[.blk hj [rS ([101,49]:Al),rS ([116]:Al),At 1,AY 4 (A4 Ab r1),rv (.slice (some ⟨hb,0,none⟩) 2 2),At 5] 34]) Tryz.call35 (Oz F hl gv he hf v24 (.slice (some ⟨hb,0,none⟩) 2 2) hu.2.2 (AS.mk ([101,49]:Al) ([116]:Al) 1 r1 ([(Ar.mk 1 ([107]:Al) r4 0),(Ar.mk 3 ([115]:Al) r7 0)]:List Ar) 5) hm gw) Aa (Abq _) Aa ?_))))))));rintro _ _ ⟨hP,hQ,rfl,rfl⟩;refine wm Aa (wv (AA Aa Aa) (wv (AA Aa Aa) (wa Aa (wa Aa (Bs (wm Aa (ob gx λhk gy gz=>DX (Hr:=[.row (.slice (some ⟨hb,0,none⟩) 2 2) 65 4 (A4 Ah ([(Ar.mk 1 ([107]:Al) r4 0),(Ar.mk 3 ([115]:Al) r7 0)]:List Ar)),.blk hj [rS ([101,49]:Al),rS ([116]:Al),At 1,AY 4 (A4 Ab r1),rv (.slice (some ⟨hb,0,none⟩) 2 2),At 5] 34]) Tryz.call23 (Ow F hl hP he hf hQ hm.2.2 ([116]:Al) hk gy) Aa (Abq _) Aa ?_)))))));rintro _ _ ⟨rfl,rfl⟩;refine wa Aa (Bs (wm Aa (ob gz λhd g0 g1=>DX (Hr:=[.row (.slice (some ⟨hb,0,none⟩) 2 2) 65 4 (A4 Ah ([(Ar.mk 1 ([107]:Al) r4 0),(Ar.mk 3 ([115]:Al) r7 0)]:List Ar)),.blk hj [rS ([101,49]:Al),rS ([116]:Al),At 1,AY 4 (A4 Ab r1),rv (.slice (some ⟨hb,0,none⟩) 2 2),At 5] 34]) Tryz.call20 (Ll F hl hP he hf hQ hm.2.2 hd g0) Aa (Abq _) Aa ?_)));rintro _ _ ⟨rfl,rfl⟩;refine wa Aa (Av (An (Ak (wm Aa (wv (BT Aa Aa) (wm Aa (ck g1 λhZ g2=>AE (b:=!decide (hu.2.1=0)) Aa Aa (Bool.not_eq_eq_eq_not.1 hZ) (wm Aa (AE (b:=!decide (hu.2.1=0)) Aa Aa (Bool.not_eq_eq_eq_not.1 hZ) (wv (BT Aa Aa) (wv (r:=rB (!decide (hm.2.1=0))) (A8 (b:=!decide (hu.2.1=0)) Aa (Bool.not_eq_eq_eq_not.1 hZ) Aa) (wm Aa (ck g2 λga g3=>AE (b:=!decide (hm.2.1=0)) Aa Aa (Bool.not_eq_eq_eq_not.1 ga) (wm Aa (AE (b:=!decide (hm.2.1=0)) Aa Aa (Bool.not_eq_eq_eq_not.1 ga) (wv (BE Aa) (wv (r:=rB (!hu.1)) (A8 (b:=!decide (hm.2.1=0)) Aa (Bool.not_eq_eq_eq_not.1 ga) Aa) (wm Aa (ck g3 λgg g4=>AE (b:=!hu.1) Aa Aa (Bool.not_eq_eq_eq_not.1 gg) (wm Aa ?_))))))))))))))))))));refine wv (r:=rB hm.1) (A8 (b:=!hu.1) Aa (Bool.not_eq_eq_eq_not.1 gg) Aa) (wm Aa (ck g4 λhR g5=>AE (b:=hm.1) Aa Aa (Bool.not_eq_eq_eq_not.1 hR) (wm Aa (AE (b:=hm.1) Aa Aa (Bool.not_eq_eq_eq_not.1 hR) (wv (Bq (ys:=hk) (enc:=Cw) SB Aa) (AE (b:=hm.1) Aa Aa (Bool.not_eq_eq_eq_not.1 hR) (wv (BT Aa Aa) (wv (r:=rB (!decide ((hk.length:Int)=1))) (A8 (b:=hm.1) Aa (Bool.not_eq_eq_eq_not.1 hR) Aa) (wm Aa (ck g5 λh6 g6=>AE (b:=!decide ((hk.length:Int)=1)) Aa Aa (Bool.not_eq_eq_eq_not.1 h6) (wm Aa (AE (b:=!decide ((hk.length:Int)=1)) Aa Aa (Bool.not_eq_eq_eq_not.1 h6) (ck g6 λgh g7=>wv (By (enc:=Cw) (ys:=hk) SB Tryz.sizeOf75 Aa Aa gh) (AE (b:=!decide ((hk.length:Int)=1)) Aa Aa (Bool.not_eq_eq_eq_not.1 h6) (wv (Bi Tryz.underlying75 Aa Cv Aa Aa) (AE (b:=!decide ((hk.length:Int)=1)) Aa Aa (Bool.not_eq_eq_eq_not.1 h6) (wv (Bg CD Aa Aa) (AE (b:=!decide ((hk.length:Int)=1)) Aa Aa (Bool.not_eq_eq_eq_not.1 h6) (wv (I0 Aa Aa) (wv (r:=rB (!decide (((Ap hk 0).fKey)=([107]:Al)))) (A8 (b:=!decide ((hk.length:Int)=1)) Aa (Bool.not_eq_eq_eq_not.1 h6) Aa) ?_))))))))))))))))))));refine wm Aa (ck g7 λh7 g8=>AE (b:=!decide (((Ap hk 0).fKey)=([107]:Al))) Aa Aa (Bool.not_eq_eq_eq_not.1 h7) (wm Aa (AE (b:=!decide (((Ap hk 0).fKey)=([107]:Al))) Aa Aa (Bool.not_eq_eq_eq_not.1 h7) (wv (By (enc:=Cw) (ys:=hk) SB Tryz.sizeOf75 Aa Aa gh) (AE (b:=!decide (((Ap hk 0).fKey)=([107]:Al))) Aa Aa (Bool.not_eq_eq_eq_not.1 h7) (wv (Bi Tryz.underlying75 Aa C6 Aa Aa) (AE (b:=!decide (((Ap hk 0).fKey)=([107]:Al))) Aa Aa (Bool.not_eq_eq_eq_not.1 h7) (wv (Bg CM Aa Aa) (AE (b:=!decide (((Ap hk 0).fKey)=([107]:Al))) Aa Aa (Bool.not_eq_eq_eq_not.1 h7) (wv (BT Aa Aa) (wv (r:=rB (!decide (((Ap hk 0).fVersion)=1))) (A8 (b:=!decide (((Ap hk 0).fKey)=([107]:Al))) Aa (Bool.not_eq_eq_eq_not.1 h7) Aa) (wm Aa (ck g8 λhS g9=>AE (b:=!decide (((Ap hk 0).fVersion)=1)) Aa Aa (Bool.not_eq_eq_eq_not.1 hS) (wm Aa (AE (b:=!decide (((Ap hk 0).fVersion)=1)) Aa Aa (Bool.not_eq_eq_eq_not.1 hS) (wv (Bq (ys:=hd) (enc:=Af) EU Aa) (AE (b:=!decide (((Ap hk 0).fVersion)=1)) Aa Aa (Bool.not_eq_eq_eq_not.1 hS) (wv (BT Aa Aa) (wv (r:=rB (!decide ((hd.length:Int)=1))) (A8 (b:=!decide (((Ap hk 0).fVersion)=1)) Aa (Bool.not_eq_eq_eq_not.1 hS) Aa) (wm Aa (ck g9 λh9 gA=>?_)))))))))))))))))))));refine AE (b:=!decide ((hd.length:Int)=1)) Aa Aa (Bool.not_eq_eq_eq_not.1 h9) (wm Aa (AE (b:=!decide ((hd.length:Int)=1)) Aa Aa (Bool.not_eq_eq_eq_not.1 h9) (ck gA λhT gB=>wv (By (enc:=Af) (ys:=hd) EU J1 Aa Aa hT) (AE (b:=!decide ((hd.length:Int)=1)) Aa Aa (Bool.not_eq_eq_eq_not.1 h9) (wv (Bi SA Aa Cv Aa Aa) (AE (b:=!decide ((hd.length:Int)=1)) Aa Aa (Bool.not_eq_eq_eq_not.1 h9) (wv (Bg CD Aa Aa) (AE (b:=!decide ((hd.length:Int)=1)) Aa Aa (Bool.not_eq_eq_eq_not.1 h9) (wv (I0 Aa Aa) (wv (r:=rB (!decide (((Ap hd 0).fID)=([101,49,46,49]:Al)))) (A8 (b:=!decide ((hd.length:Int)=1)) Aa (Bool.not_eq_eq_eq_not.1 h9) Aa) (wm Aa (ck gB λhA gC=>AE (b:=!decide (((Ap hd 0).fID)=([101,49,46,49]:Al))) Aa Aa (Bool.not_eq_eq_eq_not.1 hA) (wm Aa (AE (b:=!decide (((Ap hd 0).fID)=([101,49,46,49]:Al))) Aa Aa (Bool.not_eq_eq_eq_not.1 hA) (wv (By (enc:=Af) (ys:=hd) EU J1 Aa Aa hT) (AE (b:=!decide (((Ap hd 0).fID)=([101,49,46,49]:Al))) Aa Aa (Bool.not_eq_eq_eq_not.1 hA) (wv (Bi SA Aa Cv Aa Aa) (AE (b:=!decide (((Ap hd 0).fID)=([101,49,46,49]:Al))) Aa Aa (Bool.not_eq_eq_eq_not.1 hA) (wv (Bg CD Aa Aa) (AE (b:=!decide (((Ap hd 0).fID)=([101,49,46,49]:Al))) Aa Aa (Bool.not_eq_eq_eq_not.1 hA) (wv (I0 Aa Aa) ?_)))))))))))))))))))));refine wv (r:=rB (!decide (((Ap hd 0).fCause)=([101,49]:Al)))) (A8 (b:=!decide (((Ap hd 0).fID)=([101,49,46,49]:Al))) Aa (Bool.not_eq_eq_eq_not.1 hA) Aa) (wm Aa (ck gC λhB gD=>AE (b:=!decide (((Ap hd 0).fCause)=([101,49]:Al))) Aa Aa (Bool.not_eq_eq_eq_not.1 hB) (wm Aa (AE (b:=!decide (((Ap hd 0).fCause)=([101,49]:Al))) Aa Aa (Bool.not_eq_eq_eq_not.1 hB) (wv (By (enc:=Af) (ys:=hd) EU J1 Aa Aa hT) (AE (b:=!decide (((Ap hd 0).fCause)=([101,49]:Al))) Aa Aa (Bool.not_eq_eq_eq_not.1 hB) (wv (Bi SA Aa C6 Aa Aa) (AE (b:=!decide (((Ap hd 0).fCause)=([101,49]:Al))) Aa Aa (Bool.not_eq_eq_eq_not.1 hB) (wv (Bg CM Aa Aa) (AE (b:=!decide (((Ap hd 0).fCause)=([101,49]:Al))) Aa Aa (Bool.not_eq_eq_eq_not.1 hB) (wv (BT Aa Aa) (wv (r:=rB (!decide (((Ap hd 0).fAt)=5))) (A8 (b:=!decide (((Ap hd 0).fCause)=([101,49]:Al))) Aa (Bool.not_eq_eq_eq_not.1 hB) Aa) (wm Aa (ck gD λh0 gE=>AE (b:=!decide (((Ap hd 0).fAt)=5)) Aa Aa (Bool.not_eq_eq_eq_not.1 h0) (wm Aa (AE (b:=!decide (((Ap hd 0).fAt)=5)) Aa Aa (Bool.not_eq_eq_eq_not.1 h0) (wv (By (enc:=Af) (ys:=hd) EU J1 Aa Aa hT) (AE (b:=!decide (((Ap hd 0).fAt)=5)) Aa Aa (Bool.not_eq_eq_eq_not.1 h0) (wv (Bi SA Aa Dl Aa Aa) (AE (b:=!decide (((Ap hd 0).fAt)=5)) Aa Aa (Bool.not_eq_eq_eq_not.1 h0) (wv (Bi BP Aa Cv Aa Aa) ?_)))))))))))))))))))));refine AE (b:=!decide (((Ap hd 0).fAt)=5)) Aa Aa (Bool.not_eq_eq_eq_not.1 h0) (wv (Bg CD Aa Aa) (AE (b:=!decide (((Ap hd 0).fAt)=5)) Aa Aa (Bool.not_eq_eq_eq_not.1 h0) (wv (I0 Aa Aa) (wv (r:=rB (!decide ((((Ap hd 0).fEffect).fKey)=([115]:Al)))) (A8 (b:=!decide (((Ap hd 0).fAt)=5)) Aa (Bool.not_eq_eq_eq_not.1 h0) Aa) (Av (ck gE λgF gG=>D2 (b:=!decide ((((Ap hd 0).fEffect).fKey)=([115]:Al))) Aa (Bool.not_eq_eq_eq_not.1 gF) (Ay (AP (Ak (wm Aa (ob gG λh1 gH gI=>DX (Hr:=[.row (.slice (some ⟨hb,0,none⟩) 2 2) 65 4 (A4 Ah ([(Ar.mk 1 ([107]:Al) r4 0),(Ar.mk 3 ([115]:Al) r7 0)]:List Ar)),.blk hj [rS ([101,49]:Al),rS ([116]:Al),At 1,AY 4 (A4 Ab r1),rv (.slice (some ⟨hb,0,none⟩) 2 2),At 5] 34]) Tryz.call13 (Vb hl hP he hf hQ hm.2.2 ([101,49]:Al) h1 gH) Aa (Abq _) Aa ?_)))))))))));rintro _ _ ⟨rfl,rfl⟩;refine wm Aa (wv (AA Aa Aa) (wv (AA Aa Aa) (wa Aa (wa Aa (Av (An (Ak (wm Aa (wv (BE Aa) (wm Aa (ck gI λhG gJ=>AE (b:=!h1.2) Aa Aa (Bool.not_eq_eq_eq_not.1 hG) (wm Aa (AE (b:=!h1.2) Aa Aa (Bool.not_eq_eq_eq_not.1 hG) (ob gJ λgi gK gL=>CG Tryz.call34 (HQ 7 gi gK) Aa (AE (b:=!h1.2) Aa Aa (Bool.not_eq_eq_eq_not.1 hG) (ob gL λhC gM gN=>CG Tryz.call15 (Yl F h1.1 gi hC gM) Aa (AE (b:=!h1.2) Aa Aa (Bool.not_eq_eq_eq_not.1 hG) (wv (BE Aa) (wv (r:=rB (!hC)) (A8 (b:=!h1.2) Aa (Bool.not_eq_eq_eq_not.1 hG) Aa) (wm Aa ?_))))))))))))))))))));refine ck gN λhU gO=>AE (b:=!hC) Aa Aa (Bool.not_eq_eq_eq_not.1 hU) (wm Aa (AE (b:=!hC) Aa Aa (Bool.not_eq_eq_eq_not.1 hU) (ob gO λh3 gP gQ=>DX (Hr:=[.row (.slice (some ⟨hb,0,none⟩) 2 2) 65 4 (A4 Ah ([(Ar.mk 1 ([107]:Al) r4 0),(Ar.mk 3 ([115]:Al) r7 0)]:List Ar)),.blk hj [rS ([101,49]:Al),rS ([116]:Al),At 1,AY 4 (A4 Ab r1),rv (.slice (some ⟨hb,0,none⟩) 2 2),At 5] 34]) Tryz.call36 (Tg F hl hP he hf hQ hm.2.2 ([101,49,46,49]:Al) h3 gP) Aa (Abq _) Aa ?_)));rintro _ _ ⟨v80,gR,rfl,rfl⟩;refine AE (b:=!hC) Aa Aa (Bool.not_eq_eq_eq_not.1 hU) (wv (BT Aa Aa) (wv (r:=rB (!decide (h3.1=0))) (A8 (b:=!hC) Aa (Bool.not_eq_eq_eq_not.1 hU) Aa) (wm Aa (ck gQ λhV gS=>AE (b:=!decide (h3.1=0)) Aa Aa (Bool.not_eq_eq_eq_not.1 hV) (wm Aa (AE (b:=!decide (h3.1=0)) Aa Aa (Bool.not_eq_eq_eq_not.1 hV) (ob gS λha gT gU=>DX (Hr:=[.row (.slice (some ⟨hb,0,none⟩) 2 2) 65 4 (A4 Ah ([(Ar.mk 1 ([107]:Al) r4 0),(Ar.mk 3 ([115]:Al) r7 0)]:List Ar)),.blk hj [rS ([101,49]:Al),rS ([116]:Al),At 1,AY 4 (A4 Ab r1),rv (.slice (some ⟨hb,0,none⟩) 2 2),At 5] 34]) Tryz.call36 (Tg F hl v80 he hf gR h3.2 ([101,49,46,49]:Al) ha gT) Aa (Abq _) Aa ?_)))))));rintro _ _ ⟨hh,hi,rfl,rfl⟩;refine AE (b:=!decide (h3.1=0)) Aa Aa (Bool.not_eq_eq_eq_not.1 hV) (wv (BT Aa Aa) (wv (r:=rB (!decide (ha.1=5))) (A8 (b:=!decide (h3.1=0)) Aa (Bool.not_eq_eq_eq_not.1 hV) Aa) (wm Aa (ck gU λhH gV=>AE (b:=!decide (ha.1=5)) Aa Aa (Bool.not_eq_eq_eq_not.1 hH) (wm Aa (AE (b:=!decide (ha.1=5)) Aa Aa (Bool.not_eq_eq_eq_not.1 hH) (ob gV λht gW gX=>DX (Hr:=[.row (.slice (some ⟨hb,0,none⟩) 2 2) 65 4 (A4 Ah ([(Ar.mk 1 ([107]:Al) r4 0),(Ar.mk 3 ([115]:Al) r7 0)]:List Ar)),.blk hj [rS ([101,49]:Al),rS ([116]:Al),At 1,AY 4 (A4 Ab r1),rv (.slice (some ⟨hb,0,none⟩) 2 2),At 5] 34]) Tryz.call20 (Ll F hl hh he hf hi ha.2 ht gW) Aa (Abq _) Aa ?_)))))));rintro _ _ ⟨rfl,rfl⟩;refine AE (b:=!decide (ha.1=5)) Aa Aa (Bool.not_eq_eq_eq_not.1 hH) (wv (Bq (ys:=ht) (enc:=Af) EU Aa) (AE (b:=!decide (ha.1=5)) Aa Aa (Bool.not_eq_eq_eq_not.1 hH) (wv (BT Aa Aa) (wv (r:=rB (!decide ((ht.length:Int)=0))) (A8 (b:=!decide (ha.1=5)) Aa (Bool.not_eq_eq_eq_not.1 hH) Aa) (wm Aa (ck gX λhD gY=>AE (b:=!decide ((ht.length:Int)=0)) Aa Aa (Bool.not_eq_eq_eq_not.1 hD) (wm Aa (AE (b:=!decide ((ht.length:Int)=0)) Aa Aa (Bool.not_eq_eq_eq_not.1 hD) (ob gY λgj gZ ca=>DX (Hr:=[.row (.slice (some ⟨hb,0,none⟩) 2 2) 65 4 (A4 Ah ([(Ar.mk 1 ([107]:Al) r4 0),(Ar.mk 3 ([115]:Al) r7 0)]:List Ar)),.blk hj [rS ([101,49]:Al),rS ([116]:Al),At 1,AY 4 (A4 Ab r1),rv (.slice (some ⟨hb,0,none⟩) 2 2),At 5] 34]) Tryz.call17 (Vd hl hh he hf hi ha.2 gj gZ) Aa (Abq _) Aa ?_)))))))));rintro _ _ ⟨rfl,rfl⟩;refine AE (b:=!decide ((ht.length:Int)=0)) Aa Aa (Bool.not_eq_eq_eq_not.1 hD) (Bb (ys:=([([101,49]:Al)]:List Al)) (enc:=eS) (css:=[[rS ([101,49]:Al)]]) (xs:=[.const (.string ⟨#[101,49]⟩)]) Cn Cv PW Aa Aa Aa ⟨D1.one Aa (Up.refl _),trivial⟩ Aa CY Aa Aa Aa (λhp=>?_));refine AE (b:=!decide ((ht.length:Int)=0)) Aa Aa (Bool.not_eq_eq_eq_not.1 hD) (WL.freeze (i:=0) Aa (WL.up (d:=137) (r:=AY 1 (A4 eS ([([101,49]:Al)]:List Al))) Aa (Up.fact (i:=0) Aa) (ob ca λgb cb cc=>CG Tryz.call16 (Xp F gj ([([101,49]:Al)]:List Al) gb cb) Aa (AE (b:=!decide ((ht.length:Int)=0)) Aa Aa (Bool.not_eq_eq_eq_not.1 hD) (wv (BE Aa) (wv (r:=rB (!gb)) (A8 (b:=!decide ((ht.length:Int)=0)) Aa (Bool.not_eq_eq_eq_not.1 hD) Aa) (Av (ck cc λcd ce=>D2 (b:=!gb) Aa (Bool.not_eq_eq_eq_not.1 cd) (Ay (AP (Ak (wv (Bf (i:=7) Gh Ec Aa Aa Aa Aa) (ob ce λhE cf cg=>DX (Hr:=[.fact (.slice (some ⟨hp,0,none⟩) 1 1) (AY 1 (A4 eS ([([101,49]:Al)]:List Al))),.blk hl [rB ha.2.fMade,rv hh,rv (.map (some he)),rv (.map (some hf)),rv hi] 59,.row hh 9 1 (A4 eS ha.2.fEvents),.map he (AF Ao ha.2.fResults),.map hf (AF Ad ha.2.fKeys),.row hi 67 8 (A4 Af ha.2.fPending),.blk hj [rS ([101,49]:Al),rS ([116]:Al),At 1,AY 4 (A4 Ab r1),rv (.slice (some ⟨hb,0,none⟩) 2 2),At 5] 34]) Tryz.call25 (Td F (.slice (some ⟨hb,0,none⟩) 2 2) (AS.mk ([101,49]:Al) ([116]:Al) 1 r1 ([(Ar.mk 1 ([107]:Al) r4 0),(Ar.mk 3 ([115]:Al) r7 0)]:List Ar) 5) hE cf) Aa ((As (i:=6) Aa).trans (Abp _ (Abq _))) Aa ?_)))))))))))));rintro _ _ ⟨rfl,rfl⟩;refine wm Aa (wv (AA Aa Aa) (wv (AA Aa Aa) (wa Aa (wa Aa (Bs (ob cg λhw ch ci=>CG Tryz.call29 (IQ F ([101,49,46,49]:Al) hw ch) Aa (wm Aa (wv (AA Aa Aa) (wv (AA Aa Aa) (wa Aa (wa Aa (Bs (ob ci λgl cj cl=>DX (Hr:=[.row (.slice (some ⟨hb,0,none⟩) 2 2) 65 4 (A4 Ah ([(Ar.mk 1 ([107]:Al) r4 0),(Ar.mk 3 ([115]:Al) r7 0)]:List Ar)),.fact (.slice (some ⟨hp,0,none⟩) 1 1) (AY 1 (A4 eS ([([101,49]:Al)]:List Al))),.blk hl [rB ha.2.fMade,rv hh,rv (.map (some he)),rv (.map (some hf)),rv hi] 59,.row hh 9 1 (A4 eS ha.2.fEvents),.map he (AF Ao ha.2.fResults),.map hf (AF Ad ha.2.fKeys),.row hi 67 8 (A4 Af ha.2.fPending),.blk hj [rS ([101,49]:Al),rS ([116]:Al),At 1,AY 4 (A4 Ab r1),rv (.slice (some ⟨hb,0,none⟩) 2 2),At 5] 34]) Tryz.call9 (WN gl cj) Aa (Abq _) Aa ?_)))))))))))));rintro _ _ ⟨hq,cm,hn,ho,cn,rfl,rfl⟩;refine wa Aa (Av (An (Ak (wm Aa (wv (BT Aa Aa) (wm Aa (ck cl λgc co=>AE (b:=!decide (hE.2=0)) Aa Aa (Bool.not_eq_eq_eq_not.1 gc) (wm Aa (AE (b:=!decide (hE.2=0)) Aa Aa (Bool.not_eq_eq_eq_not.1 gc) (wv (BT Aa Aa) (wv (r:=rB (!decide (hw.2=0))) (A8 (b:=!decide (hE.2=0)) Aa (Bool.not_eq_eq_eq_not.1 gc) Aa) (wm Aa (ck co λhI cp=>AE (b:=!decide (hw.2=0)) Aa Aa (Bool.not_eq_eq_eq_not.1 hI) (wm Aa (AE (b:=!decide (hw.2=0)) Aa Aa (Bool.not_eq_eq_eq_not.1 hI) (wm Aa (AE (b:=!decide (hw.2=0)) Aa Aa (Bool.not_eq_eq_eq_not.1 hI) (ob cp λhx cq cr=>DX (Hr:=[.row (.slice (some ⟨hb,0,none⟩) 2 2) 65 4 (A4 Ah ([(Ar.mk 1 ([107]:Al) r4 0),(Ar.mk 3 ([115]:Al) r7 0)]:List Ar)),.fact (.slice (some ⟨hp,0,none⟩) 1 1) (AY 1 (A4 eS ([([101,49]:Al)]:List Al))),.blk hl [rB ha.2.fMade,rv hh,rv (.map (some he)),rv (.map (some hf)),rv hi] 59,.row hh 9 1 (A4 eS ha.2.fEvents),.map he (AF Ao ha.2.fResults),.map hf (AF Ad ha.2.fKeys),.row hi 67 8 (A4 Af ha.2.fPending),.blk hj [rS ([101,49]:Al),rS ([116]:Al),At 1,AY 4 (A4 Ab r1),rv (.slice (some ⟨hb,0,none⟩) 2 2),At 5] 34]) Tryz.call33 (N1 F hq cm hn ho cn gl hE.1 hx cq) Aa (Abq _) Aa ?_))))))))))))))))));rintro _ _ ⟨ct,v127,rfl,rfl⟩;refine AE (b:=!decide (hw.2=0)) Aa Aa (Bool.not_eq_eq_eq_not.1 hI) (wv (BT Aa Aa) (wv (r:=rB (!decide (hx.1=0))) (A8 (b:=!decide (hw.2=0)) Aa (Bool.not_eq_eq_eq_not.1 hI) Aa) (wm Aa (ck cr λhJ cu=>AE (b:=!decide (hx.1=0)) Aa Aa (Bool.not_eq_eq_eq_not.1 hJ) (wm Aa (AE (b:=!decide (hx.1=0)) Aa Aa (Bool.not_eq_eq_eq_not.1 hJ) (wm Aa (AE (b:=!decide (hx.1=0)) Aa Aa (Bool.not_eq_eq_eq_not.1 hJ) (ob cu λhy cv cw=>DX (Hr:=[.row (.slice (some ⟨hb,0,none⟩) 2 2) 65 4 (A4 Ah ([(Ar.mk 1 ([107]:Al) r4 0),(Ar.mk 3 ([115]:Al) r7 0)]:List Ar)),.fact (.slice (some ⟨hp,0,none⟩) 1 1) (AY 1 (A4 eS ([([101,49]:Al)]:List Al))),.blk hl [rB ha.2.fMade,rv hh,rv (.map (some he)),rv (.map (some hf)),rv hi] 59,.row hh 9 1 (A4 eS ha.2.fEvents),.map he (AF Ao ha.2.fResults),.map hf (AF Ad ha.2.fKeys),.row hi 67 8 (A4 Af ha.2.fPending),.blk hj [rS ([101,49]:Al),rS ([116]:Al),At 1,AY 4 (A4 Ab r1),rv (.slice (some ⟨hb,0,none⟩) 2 2),At 5] 34]) Tryz.call33 (N1 F hq ct hn ho v127 hx.2 hw.1 hy cv) Aa (Abq _) Aa ?_)))))))));rintro _ _ ⟨cx,cy,rfl,rfl⟩;refine AE (b:=!decide (hx.1=0)) Aa Aa (Bool.not_eq_eq_eq_not.1 hJ) (wv (BT Aa Aa) (wv (r:=rB (!decide (hy.1=0))) (A8 (b:=!decide (hx.1=0)) Aa (Bool.not_eq_eq_eq_not.1 hJ) Aa) (wm Aa (ck cw λhK cz=>AE (b:=!decide (hy.1=0)) Aa Aa (Bool.not_eq_eq_eq_not.1 hK) (wm Aa (AE (b:=!decide (hy.1=0)) Aa Aa (Bool.not_eq_eq_eq_not.1 hK) (wm Aa (AE (b:=!decide (hy.1=0)) Aa Aa (Bool.not_eq_eq_eq_not.1 hK) (ob cz λh4 c0 c1=>DX (Hr:=[.row (.slice (some ⟨hb,0,none⟩) 2 2) 65 4 (A4 Ah ([(Ar.mk 1 ([107]:Al) r4 0),(Ar.mk 3 ([115]:Al) r7 0)]:List Ar)),.fact (.slice (some ⟨hp,0,none⟩) 1 1) (AY 1 (A4 eS ([([101,49]:Al)]:List Al))),.blk hl [rB ha.2.fMade,rv hh,rv (.map (some he)),rv (.map (some hf)),rv hi] 59,.row hh 9 1 (A4 eS ha.2.fEvents),.map he (AF Ao ha.2.fResults),.map hf (AF Ad ha.2.fKeys),.row hi 67 8 (A4 Af ha.2.fPending),.blk hj [rS ([101,49]:Al),rS ([116]:Al),At 1,AY 4 (A4 Ab r1),rv (.slice (some ⟨hb,0,none⟩) 2 2),At 5] 34]) Tryz.call33 (N1 F hq cx hn ho cy hy.2 hE.1 h4 c0) Aa (Abq _) Aa ?_)))))))));rintro _ _ ⟨c2,c3,rfl,rfl⟩;refine AE (b:=!decide (hy.1=0)) Aa Aa (Bool.not_eq_eq_eq_not.1 hK) (wv (BT Aa Aa) (wv (r:=rB (!decide (h4.1=0))) (A8 (b:=!decide (hy.1=0)) Aa (Bool.not_eq_eq_eq_not.1 hK) Aa) (wm Aa (ck c1 λhW c4=>AE (b:=!decide (h4.1=0)) Aa Aa (Bool.not_eq_eq_eq_not.1 hW) (wm Aa (AE (b:=!decide (h4.1=0)) Aa Aa (Bool.not_eq_eq_eq_not.1 hW) (ob c4 λhg c6 c7=>DX (Hr:=[.row (.slice (some ⟨hb,0,none⟩) 2 2) 65 4 (A4 Ah ([(Ar.mk 1 ([107]:Al) r4 0),(Ar.mk 3 ([115]:Al) r7 0)]:List Ar)),.fact (.slice (some ⟨hp,0,none⟩) 1 1) (AY 1 (A4 eS ([([101,49]:Al)]:List Al))),.blk hl [rB ha.2.fMade,rv hh,rv (.map (some he)),rv (.map (some hf)),rv hi] 59,.row hh 9 1 (A4 eS ha.2.fEvents),.map he (AF Ao ha.2.fResults),.map hf (AF Ad ha.2.fKeys),.row hi 67 8 (A4 Af ha.2.fPending),.blk hj [rS ([101,49]:Al),rS ([116]:Al),At 1,AY 4 (A4 Ab r1),rv (.slice (some ⟨hb,0,none⟩) 2 2),At 5] 34]) Tryz.call33 (N1 F hq c2 hn ho c3 h4.2 ([120]:Al) hg c6) Aa (Abq _) Aa ?_)))))));rintro _ _ ⟨hr,hs,rfl,rfl⟩;refine AE (b:=!decide (h4.1=0)) Aa Aa (Bool.not_eq_eq_eq_not.1 hW) (wv (BT Aa Aa) (wv (r:=rB (!decide (hg.1=13))) (A8 (b:=!decide (h4.1=0)) Aa (Bool.not_eq_eq_eq_not.1 hW) Aa) (wm Aa (ck c7 λhL c8=>AE (b:=!decide (hg.1=13)) Aa Aa (Bool.not_eq_eq_eq_not.1 hL) (wm Aa (AE (b:=!decide (hg.1=13)) Aa Aa (Bool.not_eq_eq_eq_not.1 hL) (ob c8 λhz c9 cA=>DX (Hr:=[.row (.slice (some ⟨hb,0,none⟩) 2 2) 65 4 (A4 Ah ([(Ar.mk 1 ([107]:Al) r4 0),(Ar.mk 3 ([115]:Al) r7 0)]:List Ar)),.fact (.slice (some ⟨hp,0,none⟩) 1 1) (AY 1 (A4 eS ([([101,49]:Al)]:List Al))),.blk hl [rB ha.2.fMade,rv hh,rv (.map (some he)),rv (.map (some hf)),rv hi] 59,.row hh 9 1 (A4 eS ha.2.fEvents),.map he (AF Ao ha.2.fResults),.map hf (AF Ad ha.2.fKeys),.row hi 67 8 (A4 Af ha.2.fPending),.blk hj [rS ([101,49]:Al),rS ([116]:Al),At 1,AY 4 (A4 Ab r1),rv (.slice (some ⟨hb,0,none⟩) 2 2),At 5] 34]) Tryz.call20 (Ll F hq hr hn ho hs hg.2 hz c9) Aa (Abq _) Aa ?_)))))));rintro _ _ ⟨rfl,rfl⟩;refine AE (b:=!decide (hg.1=13)) Aa Aa (Bool.not_eq_eq_eq_not.1 hL) (wv (Bq (ys:=hz) (enc:=Af) EU Aa) (AE (b:=!decide (hg.1=13)) Aa Aa (Bool.not_eq_eq_eq_not.1 hL) (wv (BT Aa Aa) (wv (r:=rB (!decide ((hz.length:Int)=0))) (A8 (b:=!decide (hg.1=13)) Aa (Bool.not_eq_eq_eq_not.1 hL) Aa) (wm Aa (ck cA λhN cB=>AE (b:=!decide ((hz.length:Int)=0)) Aa Aa (Bool.not_eq_eq_eq_not.1 hN) (wm Aa (AE (b:=!decide ((hz.length:Int)=0)) Aa Aa (Bool.not_eq_eq_eq_not.1 hN) (ob cB λhX cC cD=>DX (Hr:=[.row (.slice (some ⟨hb,0,none⟩) 2 2) 65 4 (A4 Ah ([(Ar.mk 1 ([107]:Al) r4 0),(Ar.mk 3 ([115]:Al) r7 0)]:List Ar)),.fact (.slice (some ⟨hp,0,none⟩) 1 1) (AY 1 (A4 eS ([([101,49]:Al)]:List Al))),.blk hl [rB ha.2.fMade,rv hh,rv (.map (some he)),rv (.map (some hf)),rv hi] 59,.row hh 9 1 (A4 eS ha.2.fEvents),.map he (AF Ao ha.2.fResults),.map hf (AF Ad ha.2.fKeys),.row hi 67 8 (A4 Af ha.2.fPending),.blk hj [rS ([101,49]:Al),rS ([116]:Al),At 1,AY 4 (A4 Ab r1),rv (.slice (some ⟨hb,0,none⟩) 2 2),At 5] 34]) Tryz.call23 (Ow F hq hr hn ho hs hg.2 ([116]:Al) hX cC) Aa (Abq _) Aa ?_)))))))));rintro _ _ ⟨rfl,rfl⟩;refine AE (b:=!decide ((hz.length:Int)=0)) Aa Aa (Bool.not_eq_eq_eq_not.1 hN) (wv (Bq (ys:=hX) (enc:=Cw) SB Aa) (AE (b:=!decide ((hz.length:Int)=0)) Aa Aa (Bool.not_eq_eq_eq_not.1 hN) (wv (BT Aa Aa) (wv (r:=rB (!decide ((hX.length:Int)=1))) (A8 (b:=!decide ((hz.length:Int)=0)) Aa (Bool.not_eq_eq_eq_not.1 hN) Aa) (Av (ck cD λcE cF=>D2 (b:=!decide ((hX.length:Int)=1)) Aa (Bool.not_eq_eq_eq_not.1 cE) (Ay (AP (Ak (vF Cl Aa H8 (vL 12 J2 Aa (ck cF λgd cG=>wv (r:=rv (E1 4 (.slice (some ⟨hb,0,none⟩) 2 2) (B4 1) 0)) (En (i:=5) EV Dl Aa Aa Aa (BO gd)) (wv (r:=rv (E1 4 (.slice (some ⟨hb,0,none⟩) 2 2) (B4 1) 1)) (EF (k:=5) BP Aa Cv Aa (BO gd) Aa Aa Aa) (IH (enc:=Ah) (ys:=([(Ar.mk 1 ([107]:Al) r4 0),(Ar.mk 3 ([115]:Al) r7 0)]:List Ar)) (y':=(Ar.mk ((Ap ([(Ar.mk 1 ([107]:Al) r4 0),(Ar.mk 3 ([115]:Al) r7 0)]:List Ar) 1).fKind) ([83]:Al) ((Ap ([(Ar.mk 1 ([107]:Al) r4 0),(Ar.mk 3 ([115]:Al) r7 0)]:List Ar) 1).fValue) ((Ap ([(Ar.mk 1 ([107]:Al) r4 0),(Ar.mk 3 ([115]:Al) r7 0)]:List Ar) 1).fDelay))) (i:=5) (j:=1) Cv Aa Aa (BD Aa) Aa gd Aa Aa (H':=[.blk hq [rB hg.2.fMade,rv hr,rv (.map (some hn)),rv (.map (some ho)),rv hs] 59,.row hr 9 1 (A4 eS hg.2.fEvents),.map hn (AF Ao hg.2.fResults),.map ho (AF Ad hg.2.fKeys),.row hs 67 8 (A4 Af hg.2.fPending),.row (.slice (some ⟨hb,0,none⟩) 2 2) 65 4 (A4 Ah (List.set ([(Ar.mk 1 ([107]:Al) r4 0),(Ar.mk 3 ([115]:Al) r7 0)]:List Ar) (B4 1) (Ar.mk ((Ap ([(Ar.mk 1 ([107]:Al) r4 0),(Ar.mk 3 ([115]:Al) r7 0)]:List Ar) 1).fKind) ([83]:Al) ((Ap ([(Ar.mk 1 ([107]:Al) r4 0),(Ar.mk 3 ([115]:Al) r7 0)]:List Ar) 1).fValue) ((Ap ([(Ar.mk 1 ([107]:Al) r4 0),(Ar.mk 3 ([115]:Al) r7 0)]:List Ar) 1).fDelay)))),.fact (.slice (some ⟨hp,0,none⟩) 1 1) (AY 1 (A4 eS ([([101,49]:Al)]:List Al))),.blk hl [rB ha.2.fMade,rv hh,rv (.map (some he)),rv (.map (some hf)),rv hi] 59,.row hh 9 1 (A4 eS ha.2.fEvents),.map he (AF Ao ha.2.fResults),.map hf (AF Ad ha.2.fKeys),.row hi 67 8 (A4 Af ha.2.fPending),.blk hj [rS ([101,49]:Al),rS ([116]:Al),At 1,AY 4 (A4 Ab r1),rv (.slice (some ⟨hb,0,none⟩) 2 2),At 5] 34]) Aa (bd cG λge cH cI=>?_)))))))))))))));rw[← cH];refine Bs (wa Aa (Bs (wm Aa (wv (Bf (i:=12) Gh Ec Aa Aa Aa Aa) (ob cI λcJ cK cL=>DX (Hr:=[.blk hq [rB hg.2.fMade,rv hr,rv (.map (some hn)),rv (.map (some ho)),rv hs] 59,.row hr 9 1 (A4 eS hg.2.fEvents),.map hn (AF Ao hg.2.fResults),.map ho (AF Ad hg.2.fKeys),.row hs 67 8 (A4 Af hg.2.fPending),.fact (.slice (some ⟨hp,0,none⟩) 1 1) (AY 1 (A4 eS ([([101,49]:Al)]:List Al))),.blk hl [rB ha.2.fMade,rv hh,rv (.map (some he)),rv (.map (some hf)),rv hi] 59,.row hh 9 1 (A4 eS ha.2.fEvents),.map he (AF Ao ha.2.fResults),.map hf (AF Ad ha.2.fKeys),.row hi 67 8 (A4 Af ha.2.fPending),.blk hj [rS ([101,49]:Al),rS ([116]:Al),At 1,AY 4 (A4 Ab r1),rv (.slice (some ⟨hb,0,none⟩) 2 2),At 5] 34]) Tryz.call35 (Pg (.slice (some ⟨hb,0,none⟩) 2 2) (AS.mk ([101,49]:Al) ([116]:Al) 1 r1 ge 5) cJ cK) Aa ((As (i:=5) Aa).trans (Abp _ (Abq _))) Aa ?_)))));rintro _ _ ⟨rfl,rfl⟩;refine wm Aa (wv (AA Aa Aa) (wv (AA Aa Aa) (wa Aa (Bs (wm Aa (wv (B5 Aa Aa) (wm Aa (ck cL λhY cM=>wo hY (wv (Bf (i:=12) Gh Ec Aa Aa Aa Aa) (wo hY (ob cM λcN cO cP=>DX (Hr:=[.blk hq [rB hg.2.fMade,rv hr,rv (.map (some hn)),rv (.map (some ho)),rv hs] 59,.row hr 9 1 (A4 eS hg.2.fEvents),.map hn (AF Ao hg.2.fResults),.map ho (AF Ad hg.2.fKeys),.row hs 67 8 (A4 Af hg.2.fPending),.fact (.slice (some ⟨hp,0,none⟩) 1 1) (AY 1 (A4 eS ([([101,49]:Al)]:List Al))),.blk hl [rB ha.2.fMade,rv hh,rv (.map (some he)),rv (.map (some hf)),rv hi] 59,.row hh 9 1 (A4 eS ha.2.fEvents),.map he (AF Ao ha.2.fResults),.map hf (AF Ad ha.2.fKeys),.row hi 67 8 (A4 Af ha.2.fPending),.blk hj [rS ([101,49]:Al),rS ([116]:Al),At 1,AY 4 (A4 Ab r1),rv (.slice (some ⟨hb,0,none⟩) 2 2),At 5] 34]) U2 (Mz F (.slice (some ⟨hb,0,none⟩) 2 2) (AS.mk ([101,49]:Al) ([116]:Al) 1 r1 ge 5) cN cO) Aa (Abq _) Aa ?_)))))))))));rintro _ _ ⟨rfl,rfl⟩;refine wo hY (wv (B5 Aa Aa) (Er Aa hY Aa (wm Aa (ck cP λhO cQ=>wo hO (wm Aa (wo hO (ob cQ λgm cR cS=>DX (Hr:=[.row (.slice (some ⟨hb,0,none⟩) 2 2) 65 4 (A4 Ah ge),.blk hq [rB hg.2.fMade,rv hr,rv (.map (some hn)),rv (.map (some ho)),rv hs] 59,.row hr 9 1 (A4 eS hg.2.fEvents),.map hn (AF Ao hg.2.fResults),.map ho (AF Ad hg.2.fKeys),.row hs 67 8 (A4 Af hg.2.fPending),.fact (.slice (some ⟨hp,0,none⟩) 1 1) (AY 1 (A4 eS ([([101,49]:Al)]:List Al))),.blk hj [rS ([101,49]:Al),rS ([116]:Al),At 1,AY 4 (A4 Ab r1),rv (.slice (some ⟨hb,0,none⟩) 2 2),At 5] 34]) Tryz.call23 (Ow F hl hh he hf hi ha.2 ([117]:Al) gm cR) Aa ((As (i:=7) Aa).trans (Abp _ ((As (i:=7) Aa).trans (Abp _ ((As (i:=7) Aa).trans (Abp _ ((As (i:=7) Aa).trans (Abp _ ((As (i:=7) Aa).trans (Abp _ (Abq _))))))))))) Aa ?_)))))));rintro _ _ ⟨rfl,rfl⟩;refine wo hO (wv (Bq (ys:=gm) (enc:=Cw) SB Aa) (wo hO (wv (B5 Aa Aa) (Er Aa hO Aa (wa Aa (Av (A1 ?_)))))));obtain rfl:=A5 cS;exact A0 (BJ Tryz.results8 (AM Aa)) (sS (sS (sS (sS (sS (sS (sS (sS (sS (sS (sS (sS (sS sN))))))))))))) ⟨Aa,Aa⟩
theorem Vq (F:Nat)(c:AS)(id:Al)(r:Bool)(h:LX F c id=some r):Fn Tryz.prog GE 4 [BQ (AV c),rS id] [] (λR H=>R=rB r∧H=[]):=by
 refine enter (n:=55) Tryz.func4 Aa Tryz.ntmps4 Aa (λw Z=>?_);unfold LX at h;refine Ak (C3 Aa Aa (λb1=>?_));refine wa Aa (Bs (wv (Bf (i:=0) Gh Ec Aa Aa Aa Aa) (ob h λr2 e4 h3=>CG Tryz.call25 (PC F c r2 e4) Aa (wm Aa (wv (AA Aa Aa) (wv (AA Aa Aa) (wa Aa (wa Aa (Bs (wv (Bf (i:=0) Gh Ec Aa Aa Aa Aa) (ob h3 λr5 e7 h6=>CG Tryz.call26 (R6 F c r5 e7) Aa (wm Aa (wv (AA Aa Aa) (wv (AA Aa Aa) (wa Aa (wa Aa (Av (An (ck h6 λg8 h9=>ck h9 λhh hi=>AH [(1,rS id),(33,rB ((!decide (r2.2=r5.2))||((!decide (r2.1=r5.1))||(!decide ((ov (Gw F c))=(ov (DW F c)))))))] [] ?_ ?_)))))))))))))))))))
 ·refine AO (!decide (r2.2=r5.2)) (λha=>?_) (λha=>?_)
  ·refine Do [1,2,5,6,7,8] [⟨[],At r2.2,0⟩,⟨[],At r5.2,0⟩,⟨[0,1],rB (!decide (r2.2=r5.2)),0⟩,⟨[2],rB (!decide (r2.2=r5.2)),0⟩,⟨[3],rv undef,0⟩,⟨[3],rv undef,0⟩,⟨[4,5,3],rv undef,0⟩,⟨[3,6],rB true,0⟩,⟨[7],rB true,0⟩,⟨[8],rv undef,0⟩,⟨[9,8],rv undef,0⟩,⟨[8],rv undef,0⟩,⟨[11,8],rv undef,0⟩,⟨[10,12,8],rv undef,0⟩,⟨[8,13],rB true,0⟩] [33,1] ?_ ?_
   ·refine oq (Aq Aa) (oq (Aq Aa) (oq (BT Aa Aa) (oq (Aq Aa) (oz ha (oz ha (oz ha (oq (A2 (b:=!decide (r2.2=r5.2)) Aa ha Aa) (oq (Aq Aa) (oz Aa (oz Aa (oz Aa (oz Aa (oz Aa (oq (A2 (b:=true) Aa Aa Aa) ?_))))))))))))));exact CN
   exact BV ha
  ·refine AO (!decide (r2.1=r5.1)) (λhb=>?_) (λhb=>?_)
   ·refine Do [1,2,5,6,7,8] [⟨[],At r2.2,0⟩,⟨[],At r5.2,0⟩,⟨[0,1],rB (!decide (r2.2=r5.2)),0⟩,⟨[2],rB (!decide (r2.2=r5.2)),0⟩,⟨[3],rS r2.1,0⟩,⟨[3],rS r5.1,0⟩,⟨[4,5,3],rB (!decide (r2.1=r5.1)),0⟩,⟨[3,6],rB (!decide (r2.1=r5.1)),0⟩,⟨[7],rB (!decide (r2.1=r5.1)),0⟩,⟨[8],rv undef,0⟩,⟨[9,8],rv undef,0⟩,⟨[8],rv undef,0⟩,⟨[11,8],rv undef,0⟩,⟨[10,12,8],rv undef,0⟩,⟨[8,13],rB true,0⟩] [33,1] ?_ ?_
    ·refine oq (Aq Aa) (oq (Aq Aa) (oq (BT Aa Aa) (oq (Aq Aa) (on ha (oq (Aq Aa) (on ha (oq (Aq Aa) (on ha (oq (I0 Aa Aa) (oq (A8 Aa ha Aa) (oq (Aq Aa) (oz hb (oz hb (oz hb (oz hb (oz hb (oq (A2 (b:=!decide (r2.1=r5.1)) Aa hb Aa) ?_)))))))))))))))));exact CN
    exact BV (And.intro ha hb)
   ·refine Do [1,2,5,6,7,8] [⟨[],At r2.2,0⟩,⟨[],At r5.2,0⟩,⟨[0,1],rB (!decide (r2.2=r5.2)),0⟩,⟨[2],rB (!decide (r2.2=r5.2)),0⟩,⟨[3],rS r2.1,0⟩,⟨[3],rS r5.1,0⟩,⟨[4,5,3],rB (!decide (r2.1=r5.1)),0⟩,⟨[3,6],rB (!decide (r2.1=r5.1)),0⟩,⟨[7],rB (!decide (r2.1=r5.1)),0⟩,⟨[8],BQ (AV c),1⟩,⟨[9,8],At (ov (Gw F c)),0⟩,⟨[8],BQ (AV c),1⟩,⟨[11,8],At (ov (DW F c)),0⟩,⟨[10,12,8],rB (!decide ((ov (Gw F c))=(ov (DW F c)))),0⟩,⟨[8,13],rB (!decide ((ov (Gw F c))=(ov (DW F c)))),0⟩] [33,1] ?_ ?_
    ·refine oq (Aq Aa) (oq (Aq Aa) (oq (BT Aa Aa) (oq (Aq Aa) (on ha (oq (Aq Aa) (on ha (oq (Aq Aa) (on ha (oq (I0 Aa Aa) (oq (A8 Aa ha Aa) (oq (Aq Aa) (on hb (of (Bf (i:=0) Gh Ec Aa Aa Aa Aa) (Hu Aa (λH=>P7 (b:=!decide (r2.1=r5.1)) Aa Aa hb (Em U2 (O0 F c (ov (Gw F c)) (E4 (CE (CE g8 ha) hb))) Aa)) ?_))))))))))))));refine on hb (of (Bf (i:=0) Gh Ec Aa Aa Aa Aa) (Hu Aa (λH=>P7 (b:=!decide (r2.1=r5.1)) Aa Aa hb (Em Tryz.call28 (Ok F c (ov (DW F c)) (E4 (CE (CE hh ha) hb))) Aa)) ?_));refine on hb (oq (BT Aa Aa) (oq (A8 Aa hb Aa) ?_));exact CN
    exact BV (And.intro ha hb)
 refine cz hi Aa (λhj hk=>?_) (λhj hl=>?_)
 ·refine Ak (wa Aa (Av (A1 (Ae ?_))));obtain rfl:=A5 hk;exact A0 (BJ Tryz.results4 (AM Aa)) sN ⟨Aa,Aa⟩
 ·refine Ay (AP (Ak (wm Aa (ob hl λhf hm hn=>CG Tryz.call29 (IQ F id hf hm) Aa (wm Aa (wv (AA Aa Aa) (wv (AA Aa Aa) (wa Aa (wa Aa (Bs (wm Aa (ob hn λhg ho hp=>CG Tryz.call30 (Oj F id hg ho) Aa (wm Aa (wv (AA Aa Aa) (wv (AA Aa Aa) (wa Aa (wa Aa (Av (ck hp λhq hr=>AH [(4,rB ((decide (hf.2=hg.2))&&((decide (hf.1=hg.1))&&(ov (Hy F)))))] [] ?_ ?_)))))))))))))))))))
  ·refine Ai (wm Aa (wm Aa (wv (B5 Aa Aa) (wm Aa (AO (decide (hf.2=hg.2)) (λhd=>?_) (λhd=>?_))))))
   ·refine wo hd (wm Aa (wo hd (wm Aa (wo hd (wv (EZ Aa Aa) (Er Aa hd Aa (wm Aa (AO (decide (hf.1=hg.1)) (λhe=>?_) (λhe=>?_)))))))))
    ·refine wo he (CG Tryz.call8 (Tk F (ov (Hy F)) (E4 (Cr (Cr hq hd) he))) Aa (Er Aa he Aa (wa Aa (Am ?_))));exact BV (And.intro hd he)
    ·refine wf he (wv (r:=rB false) (A8 Aa he Aa) (wa Aa (Am ?_)));exact BV (And.intro hd he)
   ·refine wf hd (wf hd (wf hd (wv (r:=rB false) (A8 Aa hd Aa) (wm Aa (wz Aa Aa (wv (r:=rB false) (A8 (b:=false) Aa Aa Aa) (wa Aa (Am ?_))))))));exact BV hd
  refine A1 ?_;obtain rfl:=A5 hr;exact A0 (BJ Tryz.results4 (AM Aa)) sN ⟨Aa,Aa⟩
end Go.Proofs.YtfobhhegpkinaaaGreatDoor.Q
namespace Go.Proofs.YtfobhhegpkinaaaGreatDoor.lawOutboxTexts
open Go
set_option linter.unusedVariables false
def W7 (y:Ac):Bool:=(BF .i64) y.fKind&&(BF .i64) y.fInt&&Mw y.fStr&&(BF .i64) y.fN
def Ys (y:Ar):Bool:=(BF .i64) y.fKind&&Mw y.fKey&&(λys:(List Ac)=>ys.all W7&&decide (ys.length≤1048576)) y.fValue&&(BF .i64) y.fDelay
def Z1 (y:AS):Bool:=Mw y.fEvent&&Mw y.fTenant&&(BF .i64) y.fAttempt&&(λys:(List Ac)=>ys.all W7&&decide (ys.length≤1048576)) y.fResult&&(λys:(List Ar)=>ys.all Ys&&decide (ys.length≤1048576)) y.fEffects&&(BF .i64) y.fAt
def Law:Prop:=∀(y0:AS) (y1:Al) (o0:Z1 y0=true) (o1:Mw y1=true),∃F,LX F y0 y1=some true
end Go.Proofs.YtfobhhegpkinaaaGreatDoor.lawOutboxTexts
namespace Go.Proofs.YtfobhhegpkinaaaGreatDoor
open Go
set_option linter.unusedVariables false
set_option linter.unusedSimpArgs false
def XK (c:UInt8):Bool:=decide (32≤c.toNat)&&decide (c.toNat≤126)
theorem N9 {s:Al}{x:Int}{c:UInt8}(h:s[x.toNat]? =some c):B1 s x=(c.toNat:Int):=by simp[B1,h]
theorem OY {α:Type}{p:α→Bool}{s:List α}{k:Nat}{c:α}(h:s[k]? =some c):(s.take (k+1)).all p=((s.take k).all p&&p c):=by
 rw[List.take_add_one,h];simp
theorem QV {α:Type}{p:α→Bool}{s:List α}{k:Nat}{c:α}(h:s[k]? =some c)(hp:p c=false):s.all p=false:=by
 rw[List.all_eq_false];exact⟨c,AbA h,by simp[hp]⟩
theorem Rn {F:Nat}{s:Al}(hF:s.length<F)(hs:s.length≤9223372036854775807):Lx F s=some (s.all XK):=by
 obtain⟨o,h1,h2⟩:=Jb (body:=λσ=>Ij s σ) (λx=>0≤x∧x≤(s.length:Int)∧(s.take x.toNat).all XK=true) (λx=>s.length-x.toNat)
  (λo=>BS (λ_=>Ii) o=some (s.all XK)) (λx ⟨h0,hl,ha⟩=>by
   unfold Ij
   by_cases hx:x<(s.length:Int)
   ·obtain⟨c,hc⟩:∃c,s[x.toNat]? =some c:=⟨s[x.toNat]'(by omega),Abz (by omega)⟩
    rw[Bh (by simpa using hx),BC h0 hx,N9 hc]
    cases ho:XK c with
    | false=>
     refine .inr ⟨.ret false,?_,?_⟩
     ·rw[Bh];simp only[XK,Acd,Abn] at ho;simp only[AbR,Abo];omega
     ·simp[BS,QV hc ho]
    | true=>
     refine .inl ⟨x+1,?_,⟨by omega,by omega,?_⟩,by omega⟩
     ·rw[AZ,AW (by omega) (by omega)];simp only[XK,Abv,Abo] at ho;simp only[AbT,Abn];omega
     ·rw[show(x+1).toNat=x.toNat+1 from by omega,OY hc,ha,ho];rfl
   ·refine .inr ⟨.go (),by rw[AZ (by simpa using hx)],?_⟩;rw[show x.toNat=s.length from by omega,List.take_length] at ha;simp[BS,Ii,ha]) F 0 ⟨by omega,by omega,by simp⟩ (by simpa using hF)
 unfold Lx;rw[B7 h1,h2]
theorem Qr (F:Nat)(s:Al):JJ F s=Lx F s:=rfl
theorem UJ {F:Nat}{s:Al}(hF:s.length<F)(hs:s.length≤9223372036854775807):JJ F s=some (s.all XK):=by rw[Qr];exact Rn hF hs
def pl (c:Ac):Bool:=
 bif decide (c.fKind=1) then(decide (c.fInt=0)&&(decide (c.fStr=[])&&decide (c.fN=0))) else
 bif decide (c.fKind=2) then((decide (c.fInt=0)||decide (c.fInt=1))&&(decide (c.fStr=[])&&decide (c.fN=0))) else
 bif decide (c.fKind=3) then(decide (c.fStr=[])&&decide (c.fN=0)) else
 bif decide (c.fKind=4) then(decide (c.fInt=0)&&(decide (c.fN=0)&&c.fStr.all XK)) else
 bif decide (c.fKind=5) then(decide (c.fInt=0)&&(decide (c.fStr=[])&&decide (0≤c.fN))) else
 bif decide (c.fKind=6) then(decide (c.fInt=0)&&(decide (c.fStr=[])&&decide (0≤c.fN))) else false
theorem E7 {α:Type}{p:Bool}{x y:Option α}{a b:α}(h:x=some a)(h':y=some b):B2 p x y=some (bif p then a else b):=by cases p<;>simp[B2,h,h']
theorem U8 {F:Nat}{c:Ac}(hF:c.fStr.length<F)(hs:c.fStr.length≤9223372036854775807):NT F c=some (pl c):=by
 unfold NT pl;rw[Rn hF hs];refine E7 rfl (E7 ?_ (E7 rfl (E7 ?_ (E7 rfl (E7 rfl rfl)))))
 ·cases h:decide (c.fInt=0)<;>simp
 ·simp[imp,Ba,ov]
def Nb:List AN→List AN
 | []=>[]
 | e::S=>bif decide (1<e.fLeft) then⟨e.fPairs,e.fLeft-1,e.fPairs,e.fLast,e.fStarted⟩::S else Nb S
theorem NA {α:Type}[Inhabited α](xs:List α)(e:α):Ap (xs++[e]) (xs.length:Int)=e:=by simp[Ap]
theorem L8 {α:Type}(xs:List α)(e e':α):List.set (xs++[e]) (Int.toNat (xs.length:Int)) e'=xs++[e']:=by simp
theorem LW {α:Type}(xs:List α)(e:α):((xs++[e]).length:Int)-1=(xs.length:Int):=by simp
theorem UE {α:Type}(xs:List α)(e:α):List.take (Int.toNat (xs.length:Int)) (xs++[e])=xs:=by simp
theorem ML:∀(S:List AN) (F:Nat),S.length<F→(∀e∈S,1≤e.fLeft∧e.fLeft≤9223372036854775807)→S.length≤4611686018427387904→
  ∃o,Ci (λσ=>Ef σ) F S.reverse=some o∧BS (λν=>ED ν) o=some (Nb S).reverse
 | [],F+1,_,_,_=>⟨.go [],by simp[Ci,Ef,B2],by simp[BS,ED,Nb]⟩
 | e::S,F+1,hF,hb,hl=>by
  obtain⟨h1,h2⟩:=hb e (by simp);simp only[AbB] at hF hl;have hx:S.reverse.length=S.length:=by simp
  generalize hxs:S.reverse=xs at hx;have hr:(e::S).reverse=xs++[e]:=by simp[hxs]
  rw[hr];have hb1:Ef (xs++[e])=bif decide (1<e.fLeft) then some (.out (.ret (xs++[⟨e.fPairs,e.fLeft-1,e.fPairs,e.fLast,e.fStarted⟩]))) else some (.next xs):=by
   unfold Ef;rw[Bh (by simp)];simp only[LW,NA,L8,Ls];rw[AW (by omega) (by omega),BC (by omega) (by simp;omega),AW (by omega) (by omega)]
   cases hd:decide (1<e.fLeft) with
   | true=>
    rw[Bh (by simp at hd ⊢;omega)];rfl
   | false=>
    rw[AZ (by simp at hd ⊢;omega),AW (by omega) (by omega),Gf (by omega) (by simp;omega),UE];rfl
  rw[Ci,hb1]
  cases hd:decide (1<e.fLeft) with
  | true=>exact⟨_,rfl,by simp[BS,ED,Nb,hd,hxs]⟩
  | false=>
   obtain⟨o,ho1,ho2⟩:=ML S F (by omega) (λe he=>hb e (by simp[he])) (by omega);rw[hxs] at ho1;exact⟨o,ho1,by rw[ho2];simp[Nb,hd]⟩
theorem NV {S:List AN}{F:Nat}(hF:S.length<F)(hb:∀e∈S,1≤e.fLeft∧e.fLeft≤9223372036854775807)(hl:S.length≤4611686018427387904):L5 F S.reverse=some (Nb S).reverse:=by
 obtain⟨o,h1,h2⟩:=ML S F hF hb hl;unfold L5;rw[B7 h1,h2]
def Mu (s:Al):Int:=s.length+2+s.count 34+s.count 92
theorem NR {s:Al}(hs:s.length≤1152921504606846976):Ki s=some (Mu s):=by
 have h1:s.count 34≤s.length:=List.count_le_length;have h2:s.count 92≤s.length:=List.count_le_length;unfold Ki Lib.countByte;rw[AW (by omega) (by omega),AW (by omega) (by omega),AW (by omega) (by omega)];rfl
def Zr (c:Ac):Int:=
 bif decide (c.fKind=1) then 4 else bif decide (c.fKind=2) then IntKind.wrap .i64 (5-c.fInt) else bif decide (c.fKind=3) then((Lib.itoa c.fInt).length:Int) else
 bif decide (c.fKind=4) then Mu c.fStr else IntKind.wrap .i64 (2+max 0 (IntKind.wrap .i64 (c.fN-1)))
theorem Ro {c:Ac}(hs:c.fStr.length≤1152921504606846976)(hi:BF .i64 c.fInt=true):Rq c=some (Zr c):=by
 unfold Rq Zr;rw[NR hs];refine E7 rfl (E7 rfl (E7 ?_ (E7 rfl rfl)));rw[Da hi]
def J5 (d:Nat)(sh:AU)(c:Ac):AU:=
 ⟨max sh.fDepth ((d:Int)+1),IntKind.wrap .i64 (sh.fBytes+Zr c),sh.fOutside||(decide (c.fKind=3)&&!(decide ((-1000000000000)≤c.fInt)&&decide (c.fInt≤1000000000000))),sh.fLong||decide (200<(c.fStr.length:Int))⟩
def shk (sh:AU)(c:Ac):AU:=⟨sh.fDepth,IntKind.wrap .i64 (sh.fBytes+(Mu c.fStr+1)),sh.fOutside,sh.fLong||decide (200<(c.fStr.length:Int))⟩
def M6:List AN→Bool
 | []=>false
 | e::_=>e.fKey
abbrev Rc:=List AN×Int×AU
abbrev Zk:=Out (Int×AU×Bool) AU
def S9 (n:Int)(S:List AN)(i:Int)(sh:AU)(c:Ac):Stp Rc Zk:=
 bif !pl c then .out (.ret (0,sh,false)) else
 match S with
 | e::S'=>
  bif e.fKey then
   bif !decide (c.fKind=4)||(e.fStarted&&(CA c.fStr e.fLast||decide (c.fStr=e.fLast))) then .out (.ret (0,sh,false))
   else .next ((⟨e.fPairs,e.fLeft,false,c.fStr,true⟩::S').reverse,i+1,shk sh c)
  else bif decide (0<c.fN) then
   bif decide (n<c.fN) then .out (.ret (0,J5 S.length sh c,false))
   else .next ((⟨decide (c.fKind=6),c.fN,decide (c.fKind=6),[],false⟩::S).reverse,i+1,J5 S.length sh c)
  else bif decide (Nb S=[]) then .out (.ret (i+1,J5 S.length sh c,true)) else .next ((Nb S).reverse,i+1,J5 S.length sh c)
 | []=>
  bif decide (0<c.fN) then
   bif decide (n<c.fN) then .out (.ret (0,J5 0 sh c,false))
   else .next ([⟨decide (c.fKind=6),c.fN,decide (c.fKind=6),[],false⟩],i+1,J5 0 sh c)
  else .out (.ret (i+1,J5 0 sh c,true))
theorem OH {S:List AN}:decide (((Nb S).reverse.length:Int)=0)=decide (Nb S=[]):=by
 rw[AbN];simp
theorem Aa1 {α:Type}{xs:List α}{e x:α}{M:Nat}(h:xs.length+1≤M)(hM2:(M+2)*48≤140737488355328):CX 48 ((xs++[e]).length+([x]:List α).length)=true:=by
 refine Abt (Nat.le_trans (Nat.mul_le_mul_right 48 ?_) hM2);rw[Abr,AbP,AbP];omega
set_option maxHeartbeats 600000 in
theorem Rs {F:Nat}{v:List Ac}{S:List AN}{i:Int}{sh:AU}{c:Ac}(h0:0≤i)(hc:v[i.toNat]? =some c){M:Nat}(hM:M≤1152921504606846976)(hM2:(M+2)*48≤140737488355328)(hv:v.length≤M)(hS:S.length≤M)(hF:M<F)
  (hs:c.fStr.length≤M) (hi:BF .i64 c.fInt=true) (hb:∀e∈S,1≤e.fLeft∧e.fLeft≤9223372036854775807):Ee F v S.reverse i sh=some (S9 v.length S i sh c):=by
 have hil:i.toNat<v.length:=(List.getElem?_eq_some_iff.1 hc).1;have hat:Ap v i=c:=by simp[Ap,hc]
 unfold Ee S9;rw[Bh (by simp;omega),BC h0 (by omega),hat,U8 (by omega) (by omega),B7 rfl]
 cases hp:pl c with
 | false=>rw[Bh (by simp)];rfl
 | true=>
  rw[AZ (by simp)]
  cases S with
  | nil=>
   rw[Da (by simp[imp]),Da (by simp[imp]),AZ (by simp),AW (by simp) (by simp),Ro (by omega) hi,B7 rfl,Da (by simp[imp,Ca])];simp only[Ca,ov,AbO,Abw,Abu]
   cases hn:decide (0<c.fN) with
   | true=>
    rw[Bh rfl]
    cases hm:decide ((v.length:Int)<c.fN) with
    | true=>rw[Bh rfl];simp[J5]
    | false=>rw[AZ rfl,Da (by simp[CX])];unfold E3;rw[AW (by omega) (by omega)];simp[J5]
   | false=>
    rw[AZ rfl,B7 (NV (S:=[]) (by simp;omega) (by simp) (by simp)),Bh (by simp[Nb]),AW (by omega) (by omega)];simp[J5]
  | cons e S'=>
   have hx:S'.reverse.length=S'.length:=by simp
   generalize hxs:S'.reverse=xs at hx;have hr:(e::S').reverse=xs++[e]:=by simp[hxs]
   simp only[AbB] at hS;have hlen:((xs++[e]).length:Int)=(xs.length:Int)+1:=by simp
   rw[hr,Da (by simp only[imp,LW];rw[Hz (by omega) (by omega)];simp),Da (by simp only[imp,LW];rw[Tn (by omega) (by omega)];simp)];rw[LW,NA]
   cases hk:e.fKey with
   | true=>
    rw[Bh (by simp),AW (by omega) (by omega),BC (by omega) (by omega)];simp only[hk,Abw,Abu,Ab0]
    cases ht : !decide (c.fKind=4)||(e.fStarted&&(CA c.fStr e.fLast||decide (c.fStr=e.fLast))) with
    | true=>rw[Bh rfl];rfl
    | false=>
     rw[AZ rfl,L8,Ls,NA,L8,Ls,NA,L8,Ls,NR (by omega),B7 rfl,AW (by unfold Mu;omega) (by unfold Mu;have:=@List.count_le_length UInt8 _ 34 c.fStr;have:=@List.count_le_length UInt8 _ 92 c.fStr;omega)];unfold E3;rw[AW (by omega) (by omega)];simp[shk,hxs]
   | false=>
    rw[AZ (by simp),hlen,AW (by omega) (by omega),Ro (by omega) hi,B7 rfl,Da (by simp[imp,Ca])];simp only[hk,Ca,ov,AbO,Abw,Abu,Ab0]
    cases hn:decide (0<c.fN) with
    | true=>
     rw[Bh rfl]
     cases hm:decide ((v.length:Int)<c.fN) with
     | true=>rw[Bh rfl];simp[J5,hx]
     | false=>rw[AZ rfl,Da (Aa1 (by omega) hM2)];unfold E3;rw[AW (by omega) (by omega)];simp[J5,hx,hxs]
    | false=>
     have hcl:=NV (S:=e::S') (F:=F) (by simp;omega) hb (by simp;omega);rw[hr] at hcl;rw[AZ rfl,hcl,B7 rfl,OH]
     cases hq:decide (Nb (e::S')=[]) with
     | true=>rw[Bh rfl,AW (by omega) (by omega)];simp[J5,hx]
     | false=>rw[AZ rfl];unfold E3;rw[AW (by omega) (by omega)];simp[J5,hx]
section
variable {S O : Type} {body : S → Option (Stp S O)} {s t u : S} {o : O}
def E9 (body:S→Option (Stp S O))(s t:S):Prop:=∃k,∀n,Ci body (n+k) s=Ci body n t
def Fin (body:S→Option (Stp S O))(s:S)(o:O):Prop:=∃k,∀n,Ci body (n+k) s=some o
theorem E9.refl (s:S):E9 body s s:=⟨0,λ_=>rfl⟩
theorem E9.trans (h:E9 body s t)(h':E9 body t u):E9 body s u:=by
 obtain⟨k,hk⟩:=h;obtain⟨j,hj⟩:=h';exact⟨j+k,λn=>by rw[← Nat.add_assoc,hk,hj]⟩
theorem E9.step (h:body s=some (.next t)):E9 body s t:=⟨1,λn=>by rw[Ci,h]⟩
theorem Fin.step (h:body s=some (.out o)):Fin body s o:=⟨1,λn=>by rw[Ci,h]⟩
theorem E9.fin (h:E9 body s t)(h':Fin body t o):Fin body s o:=by
 obtain⟨k,hk⟩:=h;obtain⟨j,hj⟩:=h';exact⟨j+k,λn=>by rw[← Nat.add_assoc,hk,hj]⟩
end
inductive Fo where
 | nil
 | cell (k:Option Al) (c:Ac) (r:Fo)
 | node (k:Option Al) (c:Ac) (kids r:Fo)
def BM:Option Al→List Ac
 | none=>[]
 | some s=>[⟨4,0,s,0⟩]
def Fo.flat:Fo→List Ac
 | .nil=>[]
 | .cell k c r=>BM k++c::r.flat
 | .node k c kids r=>BM k++c::(kids.flat++r.flat)
def Fo.cnt:Fo→Nat
 | .nil=>0
 | .cell _ _ r=>r.cnt+1
 | .node _ _ _ r=>r.cnt+1
def CO (m:Bool)(last:Option Al):Option Al→Bool
 | none=>!m
 | some s=>m&&s.all XK&&(match last with
  | none=>true
  | some p=>!(CA s p||decide (s=p)))
def Fo.wf:Bool→Option Al→Fo→Bool
 | _,_,.nil=>true
 | m,last,.cell k c r=>CO m last k&&pl c&&!decide (0<c.fN)&&r.wf m k
 | m,last,.node k c kids r=>CO m last k&&pl c&&decide (0<c.fN)&&decide (c.fN=kids.cnt)&&kids.wf (decide (c.fKind=6)) none&&r.wf m k
def MN (k:Option Al)(sh:AU):AU:=match k with
 | none=>sh
 | some s=>shk sh ⟨4,0,s,0⟩
def Fo.sh (d:Nat):AU→Fo→AU
 | s,.nil=>s
 | s,.cell k c r=>r.sh d (J5 d (MN k s) c)
 | s,.node k c kids r=>r.sh d (kids.sh (d+1) (J5 d (MN k s) c))
def Ig (body:Rc→Option (Stp Rc Zk))(s:Rc)(S:List AN)(i:Int)(sh:AU):Prop:=
 if Nb S=[] then Fin body s (.ret (i,sh,true)) else E9 body s ((Nb S).reverse,i,sh)
theorem Ig.of {body:Rc→Option (Stp Rc Zk)}{s t:Rc}{S:List AN}{i:Int}{sh:AU}(h:E9 body s t)(h':Ig body t S i sh):Ig body s S i sh:=by
 unfold Ig at *
 split
 ·rename_i e;rw[Aci e] at h';exact h.fin h'
 ·rename_i e;rw[Aca e] at h';exact h.trans h'
theorem Ig.pop {body:Rc→Option (Stp Rc Zk)}{s:Rc}{e:AN}{S:List AN}{i:Int}{sh:AU}(h:Ig body s (e::S) i sh)(h1:e.fLeft=1):Ig body s S i sh:=by
 have:Nb (e::S)=Nb S:=by simp[Nb,h1]
 unfold Ig at *;rw[this] at h;exact h
theorem Ig.more {body:Rc→Option (Stp Rc Zk)}{s:Rc}{e:AN}{S:List AN}{i:Int}{sh:AU}(h:Ig body s (e::S) i sh)(h1:1<e.fLeft):E9 body s ((⟨e.fPairs,e.fLeft-1,e.fPairs,e.fLast,e.fStarted⟩::S).reverse,i,sh):=by
 have:Nb (e::S)=⟨e.fPairs,e.fLeft-1,e.fPairs,e.fLast,e.fStarted⟩::S:=by simp[Nb,h1]
 unfold Ig at *;rw[this,Aca (by simp)] at h;exact h
structure Uo (F M:Nat) (v:List Ac):Prop where
 hM:M≤1152921504606846976
 hM2:(M+2)*48≤140737488355328
 hv:v.length≤M
 hF:M<F
 hc:∀c∈v,c.fStr.length≤M∧BF .i64 c.fInt=true∧c.fN≤9223372036854775807
abbrev RT (F:Nat)(v:List Ac):Rc→Option (Stp Rc Zk):=λσ=>Ee F v σ.1 σ.2.1 σ.2.2
def Ep (S:List AN):Prop:=∀e∈S,1≤e.fLeft∧e.fLeft≤9223372036854775807
section
variable {F M : Nat} {v : List Ac} {S : List AN} {i : Int} {sh : AU} {c : Ac} {r : List Ac} {e : AN}
theorem CF (h0:0≤i)(h:v.drop i.toNat=c::r):v[i.toNat]? =some c∧v.drop (i+1).toNat=r∧i<v.length:=by
 have h1:(v.drop i.toNat)[0]? =some c:=by rw[h];rfl
 have h2:v[i.toNat]? =some c:=by simpa using h1
 have h3:=(List.getElem?_eq_some_iff.1 h2).1;refine⟨h2,?_,by omega⟩;rw[show(i+1).toNat=i.toNat+1 from by omega,← List.drop_drop,h];rfl
theorem round (hA:Uo F M v)(h0:0≤i)(h:v.drop i.toNat=c::r)(hS:(S.length:Int)≤i)(hb:Ep S):RT F v (S.reverse,i,sh)=some (S9 v.length S i sh c):=by
 obtain⟨h1,_,h3⟩:=CF h0 h;obtain⟨a,b,_⟩:=hA.hc c (AbA h1);have:=hA.hv;exact Rs h0 h1 hA.hM hA.hM2 hA.hv (by omega) hA.hF a b hb
def GL (e:AN):Option Al→AN
 | none=>e
 | some s=>⟨e.fPairs,e.fLeft,false,s,true⟩
def JQ (e:AN):Option Al→Prop
 | none=>e.fStarted=false
 | some p=>e.fStarted=true∧e.fLast=p
theorem O6 (hA:Uo F M v)(h0:0≤i){k last:Option Al}(h:v.drop i.toNat=BM k++r)(hS:(S.length:Int)+1≤i)(hb:Ep (e::S))(hk:CO e.fKey last k=true)(hl:JQ e last) :
  E9 (RT F v) ((e::S).reverse,i,sh) ((GL e k::S).reverse,i+(BM k).length,MN k sh):=by
 cases k with
 | none=>simpa[GL,BM,MN] using E9.refl _
 | some s=>
  simp only[CO,Abv] at hk;obtain⟨⟨hm,hok⟩,hcmp⟩:=hk;refine E9.step ?_;rw[round hA h0 (by simpa[BM] using h) (by simpa using hS) hb];have hp:pl ⟨4,0,s,0⟩=true:=by simp[pl,hok]
  have ht:(e.fStarted&&(CA s e.fLast||decide (s=e.fLast)))=false:=by
   cases last with
   | none=>simp only[JQ] at hl;rw[hl];rfl
   | some p=>obtain⟨h1,h2⟩:=hl;rw[h1,h2];simpa using hcmp
  simp only[S9,hp,hm,ht,Abw,Abu,Ab0,decide_true,Ab9,Bool.or_self];rfl
theorem M5 {k last:Option Al}(hk:CO e.fKey last k=true):(GL e k).fKey=false:=by
 cases k with
 | none=>simpa[GL,CO] using hk
 | some s=>rfl
theorem Lm (k:Option Al):(GL e k).fLeft=e.fLeft∧(GL e k).fPairs=e.fPairs:=by cases k<;>exact⟨rfl,rfl⟩
theorem M3 (hA:Uo F M v)(h0:0≤i)(h:v.drop i.toNat=c::r)(hS:(S.length:Int)≤i)(hb:Ep S)(hk:M6 S=false)(hp:pl c=true)(hn:decide (0<c.fN)=false) :
  Ig (RT F v) (S.reverse,i,sh) S (i+1) (J5 S.length sh c):=by
 have hr:=round (sh:=sh) hA h0 h hS hb;unfold Ig
 cases S with
 | nil=>
  rw[Aci (by simp[Nb])];refine Fin.step ?_;rw[hr];simp[S9,hp,hn]
 | cons e S=>
  simp only[M6] at hk
  split
  ·rename_i hc
   refine Fin.step ?_;rw[hr];simp[S9,hp,hn,hk,hc]
  ·rename_i hc
   refine E9.step ?_;rw[hr];simp[S9,hp,hn,hk,hc]
theorem K1 (hA:Uo F M v)(h0:0≤i)(h:v.drop i.toNat=c::r)(hS:(S.length:Int)≤i)(hb:Ep S)(hk:M6 S=false)(hp:pl c=true)(hn:decide (0<c.fN)=true)(hv:c.fN≤v.length) :
  E9 (RT F v) (S.reverse,i,sh) ((⟨decide (c.fKind=6),c.fN,decide (c.fKind=6),[],false⟩::S).reverse,i+1,J5 S.length sh c):=by
 have hr:=round (sh:=sh) hA h0 h hS hb;have hv':decide ((v.length:Int)<c.fN)=false:=by simpa using hv
 refine E9.step ?_;rw[hr]
 cases S with
 | nil=>simp only[S9,hp,hn,hv',Abw,Abu,Ab0];rfl
 | cons e S=>
  simp only[M6] at hk;simp only[S9,hp,hn,hv',hk,Abw,Abu,Ab0]
theorem CK:∀f:Fo,f.cnt≤f.flat.length
 | .nil=>AbI _
 | .cell k c r=>by have:=CK r;simp[Fo.cnt,Fo.flat];omega
 | .node k c kids r=>by have:=CK r;simp[Fo.cnt,Fo.flat];omega
theorem CV {α:Type}{v xs r:List α}{i:Int}(h0:0≤i)(h:v.drop i.toNat=xs++r):v.drop (i+xs.length).toNat=r:=by
 rw[show(i+(xs.length:Int)).toNat=i.toNat+xs.length from by omega,← List.drop_drop,h,List.drop_left]
theorem Rz (hA:Uo F M v){e':AN}{s:Rc}{k:Option Al}{r':Fo}
  (ih:∀(e:AN) (S:List AN) (i:Int) (sh:AU) (last:Option Al) (r:List Ac),1≤r'.cnt→r'.wf e.fPairs last=true→e.fKey=e.fPairs→e.fLeft=r'.cnt→JQ e last→(e.fPairs=false→last=none)→v.drop i.toNat=r'.flat++r→0≤i→(S.length:Int)+1≤i→Ep S→
   Ig (RT F v) ((e::S).reverse,i,sh) S (i+r'.flat.length) (r'.sh (S.length+1) sh))
  (hd:Ig (RT F v) s (e'::S) i sh) (hl:e'.fLeft=r'.cnt+1) (hw:r'.wf e'.fPairs k=true) (hk:JQ e' k) (hm:e'.fPairs=false→k=none) (hv:v.drop i.toNat=r'.flat++r) (h0:0≤i) (hS:(S.length:Int)+1≤i) (hb:Ep S) :
  Ig (RT F v) s S (i+r'.flat.length) (r'.sh (S.length+1) sh):=by
 by_cases h1:r'.cnt=0
 ·cases r' with
  | nil=>simpa[Fo.flat,Fo.sh] using hd.pop (by rw[hl];rfl)
  | cell _ _ _=>simp[Fo.cnt] at h1
  | node _ _ _ _=>simp[Fo.cnt] at h1
 ·have:=hd.more (by omega);refine Ig.of this (ih _ S i sh k r (by omega) hw rfl (by simp only;omega) ?_ hm hv h0 hS hb)
  cases k with
  | none=>exact hk
  | some p=>exact hk
theorem Ln {k last:Option Al}(hl:JQ e last)(hm:e.fPairs=false→last=none)(hk:CO e.fPairs last k=true):JQ (GL e k) k∧((GL e k).fPairs=false→k=none):=by
 cases k with
 | none=>
  have:e.fPairs=false:=by simpa[CO] using hk
  rw[hm this] at hl;exact⟨hl,λ_=>rfl⟩
 | some s=>
  refine⟨⟨rfl,rfl⟩,λh=>?_⟩;have h:e.fPairs=false:=h;simp[CO,h] at hk
theorem MZ (hA:Uo F M v):∀(f:Fo) (e:AN) (S:List AN) (i:Int) (sh:AU) (last:Option Al) (r:List Ac),1≤f.cnt→f.wf e.fPairs last=true→e.fKey=e.fPairs→e.fLeft=f.cnt→JQ e last→(e.fPairs=false→last=none)→v.drop i.toNat=f.flat++r→0≤i→(S.length:Int)+1≤i→Ep S→
   Ig (RT F v) ((e::S).reverse,i,sh) S (i+f.flat.length) (f.sh (S.length+1) sh):=by
 have hmax:∀(i:Int) (xs:List Ac),0≤i→v.drop i.toNat=xs→xs.length≤v.length:=λi xs _ h=>by rw[← h,AbS];omega
 intro f
 induction f with
 | nil=>intro e S i sh last r h1;simp[Fo.cnt] at h1
 | cell k c r' ih=>
  intro e S i sh last r h1 hw hk hl hlo hm hv h0 hS hb;simp only[Fo.wf,Abv,AbE] at hw;obtain⟨⟨⟨w1,w2⟩,w3⟩,w4⟩:=hw;simp only[Fo.flat,AbM,Ach] at hv;have hcnt:=hmax i _ h0 hv;have hcf:=CK r';simp only[Abr,AbB] at hcnt;have hvM:=hA.hv;have hMM:=hA.hM;simp only[Fo.cnt] at hl;have hb':Ep (e::S):=λx hx=>by
   rcases List.mem_cons.1 hx with rfl | hx
   ·constructor<;>omega
   ·exact hb x hx
  have hkr:=O6 (sh:=sh) hA h0 hv hS hb' (by rw[hk];exact w1) hlo;have hv1:=CV h0 hv;obtain⟨kl,kp⟩:=Lm (e:=e) k;have hbk:Ep (GL e k::S):=λx hx=>by
   rcases List.mem_cons.1 hx with rfl | hx
   ·rw[kl];exact hb' e (by simp)
   ·exact hb x hx
  have hd:=M3 (sh:=MN k sh) hA (by omega) hv1 (by simp only[AbB];omega) hbk (M5 (by rw[hk];exact w1)) w2 w3;obtain⟨q1,q2⟩:=Ln hlo hm w1;have hv2:=(CF (by omega) hv1).2.1;have:=Rz hA ih (hd.of hkr) (by rw[kl,hl];rfl) (by rw[kp];exact w4) q1 q2 hv2 (by omega) (by omega) hb;simp only[Fo.flat,Fo.sh,Abr,AbB];rw[show i+((((BM k).length+(r'.flat.length+1):Nat)):Int)=i+(BM k).length+1+r'.flat.length from by omega];exact this
 | node k c kids r' ihk ih=>
  intro e S i sh last r h1 hw hk hl hlo hm hv h0 hS hb;simp only[Fo.wf,Abv,Abo] at hw;obtain⟨⟨⟨⟨⟨w1,w2⟩,w3⟩,w5⟩,w6⟩,w4⟩:=hw;simp only[Fo.flat,AbM,Ach] at hv;have hcnt:=hmax i _ h0 hv;have hcf:=CK r';have hck:=CK kids;simp only[Abr,AbB] at hcnt;have hvM:=hA.hv;have hMM:=hA.hM;simp only[Fo.cnt] at hl;have hb':Ep (e::S):=λx hx=>by
   rcases List.mem_cons.1 hx with rfl | hx
   ·constructor<;>omega
   ·exact hb x hx
  have hkr:=O6 (sh:=sh) hA h0 hv hS hb' (by rw[hk];exact w1) hlo;have hv1:=CV h0 hv;obtain⟨kl,kp⟩:=Lm (e:=e) k;have hbk:Ep (GL e k::S):=λx hx=>by
   rcases List.mem_cons.1 hx with rfl | hx
   ·rw[kl];exact hb' e (by simp)
   ·exact hb x hx
  have hn:=K1 (sh:=MN k sh) hA (by omega) hv1 (by simp only[AbB];omega) hbk (M5 (by rw[hk];exact w1)) w2 (by simpa using w3) (by omega);have hv2:=(CF (by omega) hv1).2.1;have hd:=ihk ⟨decide (c.fKind=6),c.fN,decide (c.fKind=6),[],false⟩ (GL e k::S) (i+(BM k).length+1) (J5 (S.length+1) (MN k sh) c) none _ (by omega) w6 rfl w5 rfl (λ_=>rfl) hv2 (by omega) (by simp only[AbB];omega) hbk;obtain⟨q1,q2⟩:=Ln hlo hm w1;have hv3:=CV (by omega) hv2;have:=Rz hA ih ((hd.of hn).of hkr) (by rw[kl,hl];rfl) (by rw[kp];exact w4) q1 q2 hv3 (by omega) (by omega) hb;simp only[Fo.flat,Fo.sh,Abr,AbB];rw[show i+((((BM k).length+(kids.flat.length+r'.flat.length+1):Nat)):Int)=i+(BM k).length+1+kids.flat.length+r'.flat.length from by omega];exact this
end
theorem RR {S O:Type}{body:S→Option (Stp S O)}{o:O}:∀{n:Nat} {s:S} (k:Nat),Ci body n s=some o→Ci body (n+k) s=some o
 | 0,s,k,h=>by cases h
 | n+1,s,k,h=>by
  rw[show n+1+k=n+k+1 from by omega,Ci];rw[Ci] at h
  cases hb:body s with
  | none=>rw[hb] at h;cases h
  | some t=>
   rw[hb] at h
   cases t with
   | next s'=>exact RR k h
   | out o'=>exact h
theorem Fin.eq {S O:Type}{body:S→Option (Stp S O)}{s:S}{o o':O}{n:Nat}(h:Fin body s o)(h':Ci body n s=some o'):o'=o:=by
 obtain⟨k,hk⟩:=h;have:=RR k h';rw[hk n] at this;exact(A5 this).symm
theorem PV:∀{S:List AN},Ep S→Ep (Nb S)∧(Nb S).length≤S.length
 | [],h=>⟨h,AbI _⟩
 | e::S,h=>by
  have hS:Ep S:=λx hx=>h x (by simp[hx]);have he:=h e (by simp);unfold Nb
  cases hd:decide (1<e.fLeft) with
  | true=>
   simp only[Abo] at hd;refine⟨λx hx=>?_,by simp⟩;rcases List.mem_cons.1 hx with rfl | hx
   ·simp only;omega
   ·exact hS x hx
  | false=>
   obtain⟨h1,h2⟩:=PV hS;exact⟨h1,by simp only[Abu,AbB];omega⟩
theorem Xg {n:Int}{S:List AN}{i:Int}{sh:AU}{c:Ac}{σ:Rc}(hb:Ep S)(hS:(S.length:Int)≤i)(hN:c.fN≤9223372036854775807)(h:S9 n S i sh c = .next σ):∃S' sh',σ=(S'.reverse,i+1,sh')∧Ep S'∧(S'.length:Int)≤i+1:=by
 unfold S9 at h
 cases hp:pl c with
 | false=>simp[hp] at h
 | true=>
  simp only[hp,Abw,Abu] at h
  cases S with
  | nil=>
   simp only at h
   cases hn:decide (0<c.fN) with
   | false=>simp[hn] at h
   | true=>
    simp only[hn,Ab0] at h
    cases hm:decide (n<c.fN) with
    | true=>simp[hm] at h
    | false=>
     simp only[hm,Abu,Stp.next.injEq] at h;refine⟨[_],_,h.symm,λx hx=>?_,by simp at hS ⊢;omega⟩;simp only[AbJ] at hx;subst hx;simp only[Abo] at hn;exact⟨by simp only;omega,hN⟩
  | cons e S=>
   have he:=hb e (by simp);have hbS:Ep S:=λx hx=>hb x (by simp[hx]);simp only[AbB] at hS
   cases hk:e.fKey with
   | true=>
    simp only[hk,Ab0] at h
    cases hq:(!decide (c.fKind=4)||(e.fStarted&&(CA c.fStr e.fLast||decide (c.fStr=e.fLast)))) with
    | true=>rw[hq] at h;simp at h
    | false=>
     rw[hq] at h;simp only[Abu,Stp.next.injEq] at h;refine⟨_::S,_,h.symm,λx hx=>?_,by simp only[AbB];omega⟩;rcases List.mem_cons.1 hx with rfl | hx
     ·exact he
     ·exact hbS x hx
   | false=>
    simp only[hk,Abu] at h
    cases hn:decide (0<c.fN) with
    | true=>
     simp only[hn,Ab0] at h
     cases hm:decide (n<c.fN) with
     | true=>simp[hm] at h
     | false=>
      simp only[hm,Abu,Stp.next.injEq] at h;refine⟨_::e::S,_,h.symm,λx hx=>?_,by simp only[AbB];omega⟩;rcases List.mem_cons.1 hx with rfl | hx
      ·simp only[Abo] at hn;exact⟨by simp only;omega,hN⟩
      ·exact hb x hx
    | false=>
     simp only[hn,Abu] at h
     cases hq:decide (Nb (e::S)=[]) with
     | true=>rw[hq] at h;simp at h
     | false=>
      rw[hq] at h;simp only[Abu,Stp.next.injEq] at h;obtain⟨h1,h2⟩:=PV hb;simp only[AbB] at h2;exact⟨_,_,h.symm,h1,by omega⟩
theorem O4 {F M:Nat}{v:List Ac}(hA:Uo F M v):∃o,Ci (RT F v) F (([]:List AN),0,(⟨0,0,false,false⟩:AU))=some o∧True:=by
 refine Jb (λσ=>∃S i sh,σ=(S.reverse,i,sh)∧Ep S∧(S.length:Int)≤i∧0≤i∧i≤v.length) (λσ=>v.length-σ.2.1.toNat) (λ_=>True) (λσ hI=>?_) F _ ⟨[],0,_,rfl,(λx hx=>by cases hx),AbG _,AbG _,by omega⟩ (by have:=hA.hv;have:=hA.hF;simp;omega);obtain⟨S,i,sh,rfl,hb,hS,h0,hi⟩:=hI
 by_cases hx:i<v.length
 ·obtain⟨c,hc⟩:∃c,v[i.toNat]? =some c:=⟨v[i.toNat]'(by omega),Abz (by omega)⟩
  have hdr:v.drop i.toNat=c::v.drop (i.toNat+1):=by rw[List.drop_eq_getElem_cons (by omega)];congr 1;exact(List.getElem?_eq_some_iff.1 hc).2
  have hr:=round (sh:=sh) hA h0 hdr hS hb
  cases hl:S9 v.length S i sh c with
  | next τ=>
   obtain⟨S',sh',rfl,h1,h2⟩:=Xg hb hS (hA.hc c (AbA hc)).2.2 hl;exact .inl ⟨_,by rw[hr,hl],⟨S',i+1,sh',rfl,h1,h2,by omega,by omega⟩,by simp only;omega⟩
  | out o=>exact .inr ⟨o,by rw[hr,hl],trivial⟩
 ·refine .inr ⟨.go sh,?_,trivial⟩;show Ee F v S.reverse i sh=_;unfold Ee;rw[AZ (by simpa using hx)]
def Fo.one:Fo→Bool
 | .cell none _ .nil=>true
 | .node none _ _ .nil=>true
 | _=>false
def Ob:AU:=⟨0,0,false,false⟩
theorem Xf {F M:Nat}{v:List Ac}(hA:Uo F M v){f:Fo}(h1:f.one=true)(hw:f.wf false none=true){r:List Ac}(hv:v=f.flat++r):Fin (RT F v) ([],0,Ob) (.ret (f.flat.length,f.sh 0 Ob,true)):=by
 have h0:v.drop (0:Int).toNat=f.flat++r:=by rw[hv];rfl
 have hlen:f.flat.length≤v.length:=by rw[hv];simp
 cases f with
 | nil=>cases h1
 | cell k c r'=>
  cases k with
  | some s=>cases h1
  | none=>
   cases r' with
   | nil=>
    simp only[Fo.wf,Abv,AbE] at hw;have:=M3 (S:=[]) (sh:=Ob) hA (AbG 0) h0 (by simp) (λx hx=>by cases hx) rfl hw.1.1.2 hw.1.2;unfold Ig at this;rw[Aci (show Nb []=[] from rfl)] at this;simpa[Fo.flat,Fo.sh,BM,MN] using this
   | cell _ _ _=>cases h1
   | node _ _ _ _=>cases h1
 | node k c kids r'=>
  cases k with
  | some s=>cases h1
  | none=>
   cases r' with
   | nil=>
    simp only[Fo.wf,Abv,Abo] at hw;obtain⟨⟨⟨⟨⟨w1,w2⟩,w3⟩,w5⟩,w6⟩,w4⟩:=hw;have hck:=CK kids;simp only[Fo.flat,BM,Acb,AbZ,AbB] at hlen;have hvM:=hA.hv;have hMM:=hA.hM;have hn:=K1 (S:=[]) (sh:=Ob) hA (AbG 0) h0 (by simp) (λx hx=>by cases hx) rfl w2 (by simpa using w3) (by omega);have hv2:=(CF (AbG 0) h0).2.1;have hd:=MZ hA kids ⟨decide (c.fKind=6),c.fN,decide (c.fKind=6),[],false⟩ [] (0+1) (J5 0 Ob c) none r (by omega) w6 rfl w5 rfl (λ_=>rfl) (by rw[hv2];simp[Fo.flat]) (by omega) (by simp) (λx hx=>by cases hx);unfold Ig at hd;rw[Aci (show Nb []=[] from rfl)] at hd;have:=hn.fin hd;have e:((0:Int)+1+kids.flat.length)=((Fo.node none c kids .nil).flat.length:Int):=by simp[Fo.flat,BM];omega
    rw[e] at this;exact this
   | cell _ _ _=>cases h1
   | node _ _ _ _=>cases h1
theorem RS {F M:Nat}{v:List Ac}(hA:Uo F M v){f:Fo}(h1:f.one=true)(hw:f.wf false none=true){r:List Ac}(hv:v=f.flat++r):Jr F v=some ((f.flat.length:Int),f.sh 0 Ob,true):=by
 obtain⟨o,ho,_⟩:=O4 hA;have e:=(Xf hA h1 hw hv).eq ho;subst e;unfold Jr;rw[B7 ho];rfl
def IL (m:Bool)(last:Option Al)(xs:List Ac):Option (Option Al×List Ac):=
 bif m then match xs with
  | []=>none
  | c::r=>bif pl c&&decide (c.fKind=4)&&CO true last (some c.fStr) then some (some c.fStr,r) else none
 else some (none,xs)
def IA:Nat→Bool→Option Al→Nat→List Ac→Option (Fo×List Ac)
 | 0,_,_,_,_=>none
 | _+1,_,_,0,xs=>some (.nil,xs)
 | F+1,m,last,k+1,xs=>
  match IL m last xs with
  | none=>none
  | some (_,[])=>none
  | some (key,c::xs')=>
   bif !pl c then none else
   bif decide (0<c.fN) then
    match IA F (decide (c.fKind=6)) none c.fN.toNat xs' with
    | none=>none
    | some (kids,ys)=>match IA F m key k ys with
     | none=>none
     | some (r,zs)=>some (.node key c kids r,zs)
   else match IA F m key k xs' with
    | none=>none
    | some (r,zs)=>some (.cell key c r,zs)
theorem Qx {c:Ac}(hp:pl c=true)(hk:c.fKind=4):c=⟨4,0,c.fStr,0⟩∧c.fStr.all XK=true:=by
 cases c
 simp only at hk;subst hk;simp[pl] at hp;obtain⟨h1,h2,h3⟩:=hp;subst h1;subst h2;exact⟨rfl,by simpa using h3⟩
theorem Nw {m:Bool}{last key:Option Al}{xs r:List Ac}(h:IL m last xs=some (key,r)):xs=BM key++r∧CO m last key=true:=by
 unfold IL at h
 cases m with
 | false=>cases h;exact⟨rfl,rfl⟩
 | true=>
  simp only[Ab0] at h
  cases xs with
  | nil=>cases h
  | cons c r'=>
   simp only at h
   cases hb:(pl c&&decide (c.fKind=4)&&CO true last (some c.fStr)) with
   | false=>rw[hb] at h;cases h
   | true=>
    rw[hb] at h;simp only[Abv,Abo] at hb
    cases h
    exact⟨by rw[(Qx hb.1.1 hb.1.2).1];rfl,hb.2⟩
theorem HZ:∀(F:Nat) (m:Bool) (last:Option Al) (k:Nat) (xs:List Ac) (f:Fo) (ys:List Ac),IA F m last k xs=some (f,ys)→xs=f.flat++ys∧f.wf m last=true∧f.cnt=k
 | 0,_,_,_,_,_,_,h=>by cases h
 | F+1,m,last,0,xs,f,ys,h=>by cases h;exact⟨rfl,rfl,rfl⟩
 | F+1,m,last,k+1,xs,f,ys,h=>by
  rw[IA] at h
  cases hk:IL m last xs with
  | none=>rw[hk] at h;cases h
  | some p=>
   obtain⟨key,r⟩:=p;obtain⟨h1,h2⟩:=Nw hk;rw[hk] at h
   cases r with
   | nil=>cases h
   | cons c xs'=>
    simp only at h
    cases hp:pl c with
    | false=>rw[hp] at h;cases h
    | true=>
     rw[hp] at h;simp only[Abw,Abu] at h
     cases hn:decide (0<c.fN) with
     | true=>
      rw[hn] at h;simp only[Ab0] at h
      cases hq:IA F (decide (c.fKind=6)) none c.fN.toNat xs' with
      | none=>rw[hq] at h;cases h
      | some q=>
       obtain⟨kids,zs⟩:=q;rw[hq] at h;simp only at h
       cases hr:IA F m key k zs with
       | none=>rw[hr] at h;cases h
       | some q2=>
        obtain⟨r2,us⟩:=q2;rw[hr] at h;cases h;obtain⟨a1,a2,a3⟩:=HZ F _ _ _ _ _ _ hq;obtain⟨b1,b2,b3⟩:=HZ F _ _ _ _ _ _ hr;refine⟨by rw[h1,a1,b1];simp[Fo.flat],?_,by simp[Fo.cnt,b3]⟩;simp only[Abo] at hn;simp only[Fo.wf,h2,hp,a2,b2,Ab8,Ab1,Abv,Abo];omega
     | false=>
      rw[hn] at h;simp only[Abu] at h
      cases hr:IA F m key k xs' with
      | none=>rw[hr] at h;cases h
      | some q2=>
       obtain⟨r2,us⟩:=q2;rw[hr] at h;cases h;obtain⟨b1,b2,b3⟩:=HZ F _ _ _ _ _ _ hr;exact⟨by rw[h1,b1];simp[Fo.flat],by simp[Fo.wf,h2,hp,b2,hn],by simp[Fo.cnt,b3]⟩
theorem Iv:∀(F F':Nat) (m:Bool) (last:Option Al) (k:Nat) (xs:List Ac),xs.length<F→xs.length<F'→IA F m last k xs=IA F' m last k xs
 | 0,_,_,_,_,_,h,_=>by omega
 | _+1,0,_,_,_,_,_,h=>by omega
 | F+1,F'+1,m,last,0,xs,_,_=>rfl
 | F+1,F'+1,m,last,k+1,xs,h,h'=>by
  rw[IA,IA]
  cases hk:IL m last xs with
  | none=>rfl
  | some p=>
   obtain⟨key,r⟩:=p;obtain⟨h1,h2⟩:=Nw hk
   cases r with
   | nil=>rfl
   | cons c xs'=>
    have hl:xs'.length<xs.length:=by rw[h1];simp;omega
    simp only
    cases hp:pl c with
    | false=>rfl
    | true=>
     simp only[Abw,Abu]
     cases hn:decide (0<c.fN) with
     | true=>
      simp only[Ab0];rw[Iv F F' _ _ _ xs' (by omega) (by omega)]
      cases hq:IA F' (decide (c.fKind=6)) none c.fN.toNat xs' with
      | none=>rfl
      | some q=>
       obtain⟨kids,zs⟩:=q;have:=(HZ _ _ _ _ _ _ _ hq).1;have hz:zs.length≤xs'.length:=by rw[this];simp
       simp only;rw[Iv F F' m key k zs (by omega) (by omega)]
     | false=>
      simp only[Abu];rw[Iv F F' m key k xs' (by omega) (by omega)]
def Tz {S:Type}(body:S→Option (Stp S Zk))(s:S):Prop:=∃sh',Fin body s (.ret (0,sh',false))∨Fin body s (.go sh')
theorem E9.bad {S:Type}{body:S→Option (Stp S Zk)}{s t:S}(h:E9 body s t)(h':Tz body t):Tz body s:=by
 obtain⟨sh',h' | h'⟩:=h'
 ·exact⟨sh',.inl (h.fin h')⟩
 ·exact⟨sh',.inr (h.fin h')⟩
section
variable {F M : Nat} {v : List Ac}
theorem Tz.end_ {S:List AN}{i:Int}{sh:AU}(h0:0≤i)(h:v.drop i.toNat=[]):Tz (RT F v) (S.reverse,i,sh):=by
 refine⟨sh,.inr (Fin.step ?_)⟩;show Ee F v S.reverse i sh=_;unfold Ee;rw[AZ];have:v.length≤i.toNat:=by simpa using h
 simp;omega
theorem Tz.pl_ (hA:Uo F M v){S:List AN}{i:Int}{sh:AU}{c:Ac}{r:List Ac}(h0:0≤i)(h:v.drop i.toNat=c::r)(hS:(S.length:Int)≤i)(hb:Ep S)(hp:pl c=false):Tz (RT F v) (S.reverse,i,sh):=by
 refine⟨sh,.inl (Fin.step ?_)⟩;rw[round hA h0 h hS hb];simp[S9,hp]
theorem Tq (hA:Uo F M v):∀(P:Nat) (k:Nat) (e:AN) (S:List AN) (i:Int) (sh:AU) (last:Option Al) (xs:List Ac),xs.length<P→IA P e.fPairs last (k+1) xs=none→e.fKey=e.fPairs→e.fLeft=(k:Int)+1→(k:Int)+1≤9223372036854775807→JQ e last→(e.fPairs=false→last=none)→v.drop i.toNat=xs→0≤i→(S.length:Int)+1≤i→Ep S→
  Tz (RT F v) ((e::S).reverse,i,sh):=by
 intro P
 induction P with
 | zero=>intro k e S i sh last xs h;omega
 | succ P ih=>
  intro k e S i sh last xs hP hn hk hl hkm hlo hm hv h0 hS hb;have hb':Ep (e::S):=λx hx=>by
   rcases List.mem_cons.1 hx with rfl | hx
   ·constructor<;>omega
   ·exact hb x hx
  rw[IA] at hn
  cases hq:IL e.fPairs last xs with
  | none=>
   unfold IL at hq
   cases hpr:e.fPairs with
   | false=>rw[hpr] at hq;cases hq
   | true=>
    rw[hpr] at hq hk;simp only[Ab0] at hq
    cases xs with
    | nil=>exact Tz.end_ h0 hv
    | cons c r=>
     simp only at hq
     cases hp:pl c with
     | false=>exact Tz.pl_ hA h0 hv (by simpa using hS) hb' hp
     | true=>
      refine⟨sh,.inl (Fin.step ?_)⟩;rw[round hA h0 hv (by simpa using hS) hb'];have ht:(!decide (c.fKind=4)||(e.fStarted&&(CA c.fStr e.fLast||decide (c.fStr=e.fLast))))=true:=by
       rw[hp] at hq
       cases h4:decide (c.fKind=4) with
       | false=>rfl
       | true=>
        rw[h4] at hq;simp only[Bool.and_self,Ab1] at hq;have hok:=(Qx hp (by simpa using h4)).2
        cases last with
        | none=>simp[CO,hok] at hq
        | some p=>
         obtain⟨q1,q2⟩:=hlo;rw[q1,q2]
         cases hc:(CA c.fStr p||decide (c.fStr=p)) with
         | true=>rfl
         | false=>simp[CO,hok,hc] at hq
      simp only[S9,hp,hk,ht,Abw,Abu,Ab0]
  | some q=>
   obtain⟨key,r⟩:=q;obtain⟨h1,h2⟩:=Nw hq;rw[hq] at hn;have hkr:=O6 (sh:=sh) hA h0 (by rw[hv];exact h1) hS hb' (by rw[hk];exact h2) hlo;have hv1:=CV h0 (hv.trans h1);obtain⟨kl,kp⟩:=Lm (e:=e) key;obtain⟨q1,q2⟩:=Ln hlo hm h2;have hbk:Ep (GL e key::S):=λx hx=>by
    rcases List.mem_cons.1 hx with rfl | hx
    ·rw[kl];exact hb' e (by simp)
    ·exact hb x hx
   refine hkr.bad ?_
   cases r with
   | nil=>exact Tz.end_ (by omega) hv1
   | cons c xs'=>
    have hlen:xs'.length+1≤xs.length:=by rw[h1];simp
    have hvl:xs.length≤v.length:=by rw[← hv,AbS];omega
    have hvM:=hA.hv;have hMM:=hA.hM;have hkk:=M5 (e:=e) (last:=last) (k:=key) (by rw[hk];exact h2);simp only at hn;have hSk:(((GL e key::S).length:Nat):Int)≤i+(BM key).length:=by simp only[AbB];omega
    cases hp:pl c with
    | false=>exact Tz.pl_ hA (by omega) hv1 hSk hbk hp
    | true=>
     rw[hp] at hn;simp only[Abw,Abu] at hn;obtain⟨g1,g2,g3⟩:=CF (by omega) hv1;have hcN:=(hA.hc c (AbA g1)).2.2;have more:∀(s:Rc) (j:Int) (sh':AU) (zs:List Ac),Ig (RT F v) s (GL e key::S) j sh'→v.drop j.toNat=zs→zs.length<P→0≤j→(S.length:Int)+1≤j→IA P e.fPairs key k zs=none→Tz (RT F v) s:=λs j sh' zs hd hz hzl hj hSj hnone=>by
      cases k with
      | zero=>
       cases P with
       | zero=>omega
       | succ P=>cases hnone
      | succ k=>
       have:=hd.more (by rw[kl];omega);refine this.bad (ih k _ S j sh' key zs hzl (by rw[kp];exact hnone) rfl (by simp only[kl];omega) (by omega) ?_ (by simpa using q2) hz hj hSj hb)
       cases key with
       | none=>exact q1
       | some p=>exact q1
     cases hN:decide (0<c.fN) with
     | true=>
      rw[hN] at hn;simp only[Ab0] at hn;simp only[Abo] at hN
      by_cases hbig:c.fN≤v.length
      ·have hnd:=K1 (sh:=MN key sh) hA (by omega) hv1 hSk hbk (by simpa[M6] using hkk) hp (by simpa using hN) hbig;refine hnd.bad ?_
       cases hks:IA P (decide (c.fKind=6)) none c.fN.toNat xs' with
       | none=>
        obtain⟨n',hn'⟩:∃n',c.fN.toNat=n'+1:=⟨c.fN.toNat-1,by omega⟩
        rw[hn'] at hks;exact ih n' _ _ _ _ none xs' (by omega) hks rfl (by simp only;omega) (by omega) rfl (λ_=>rfl) g2 (by omega) (by simp only[AbB];omega) hbk
       | some q=>
        obtain⟨kids,zs⟩:=q;rw[hks] at hn;simp only at hn;have hn2:IA P e.fPairs key k zs=none:=by
         cases hz:IA P e.fPairs key k zs with
         | none=>rfl
         | some q=>rw[hz] at hn;cases hn
        obtain⟨a1,a2,a3⟩:=HZ _ _ _ _ _ _ _ hks;have hd:=MZ hA kids ⟨decide (c.fKind=6),c.fN,decide (c.fKind=6),[],false⟩ (GL e key::S) (i+(BM key).length+1) (J5 (S.length+1) (MN key sh) c) none zs (by omega) a2 rfl (by simp only;omega) rfl (λ_=>rfl) (by rw[g2];exact a1) (by omega) (by simp only[AbB];omega) hbk;have hz:v.drop (i+(BM key).length+1+kids.flat.length).toNat=zs:=CV (by omega) (g2.trans a1);have hzl:zs.length≤xs'.length:=by rw[a1];simp
        exact more _ _ _ zs hd hz (by omega) (by omega) (by omega) hn2
      ·refine⟨J5 (GL e key::S).length (MN key sh) c,.inl (Fin.step ?_)⟩;rw[round hA (by omega) hv1 hSk hbk];have hbig':decide ((v.length:Int)<c.fN)=true:=by simpa using hbig
       simp only[S9,hp,hkk,hbig',hN,Abw,Abu,Ab0,decide_true]
     | false=>
      rw[hN] at hn;simp only[Abu] at hn;have hn2:IA P e.fPairs key k xs'=none:=by
       cases hz:IA P e.fPairs key k xs' with
       | none=>rfl
       | some q=>rw[hz] at hn;cases hn
      have hd:=M3 (sh:=MN key sh) hA (by omega) hv1 hSk hbk (by simpa[M6] using hkk) hp hN;exact more _ _ _ xs' hd g2 (by omega) (by omega) (by omega) hn2
def Ix (xs:List Ac):Option (Fo×List Ac):=IA (xs.length+1) false none 1 xs
theorem TI {P:Nat}{xs ys:List Ac}{f:Fo}(h:IA P false none 1 xs=some (f,ys)):f.one=true:=by
 obtain⟨h1,h2,h3⟩:=HZ _ _ _ _ _ _ _ h
 cases f with
 | nil=>cases h3
 | cell k c r=>
  cases r with
  | nil=>
   cases k with
   | none=>rfl
   | some s=>simp[Fo.wf,CO] at h2
  | cell _ _ _=>simp[Fo.cnt] at h3
  | node _ _ _ _=>simp[Fo.cnt] at h3
 | node k c kids r=>
  cases r with
  | nil=>
   cases k with
   | none=>rfl
   | some s=>simp[Fo.wf,CO] at h2
  | cell _ _ _=>simp[Fo.cnt] at h3
  | node _ _ _ _=>simp[Fo.cnt] at h3
theorem Vp (hA:Uo F M v)(h:Ix v=none):Tz (RT F v) ([],0,Ob):=by
 have hlf:Ep []:=λx hx=>by cases hx
 unfold Ix at h;rw[IA] at h;simp only[IL,Abu] at h
 cases v with
 | nil=>exact Tz.end_ (S:=[]) (AbG 0) rfl
 | cons c xs'=>
  have hv1:(c::xs').drop (0:Int).toNat=c::xs':=rfl;have hvM:=hA.hv;have hMM:=hA.hM;simp only at h
  cases hp:pl c with
  | false=>exact Tz.pl_ (S:=[]) hA (AbG 0) hv1 (by simp) hlf hp
  | true=>
   rw[hp] at h;simp only[Abw,Abu] at h;have hcN:=(hA.hc c (by simp)).2.2
   cases hN:decide (0<c.fN) with
   | true=>
    rw[hN] at h;simp only[Ab0] at h;simp only[Abo] at hN
    by_cases hbig:c.fN≤(c::xs').length
    ·have hnd:=K1 (S:=[]) (sh:=Ob) hA (AbG 0) hv1 (by simp) hlf rfl hp (by simpa using hN) hbig;refine hnd.bad ?_
     cases hks:IA (c::xs').length (decide (c.fKind=6)) none c.fN.toNat xs' with
     | none=>
      obtain⟨n',hn'⟩:∃n',c.fN.toNat=n'+1:=⟨c.fN.toNat-1,by omega⟩
      rw[hn'] at hks;exact Tq hA (c::xs').length n' ⟨decide (c.fKind=6),c.fN,decide (c.fKind=6),[],false⟩ [] (0+1) _ none xs' (by simp) hks rfl (by simp only;omega) (by omega) rfl (λ_=>rfl) rfl (by omega) (by simp) hlf
     | some q=>rw[hks] at h;cases h
    ·refine⟨J5 0 Ob c,.inl (Fin.step ?_)⟩;rw[show RT F (c::xs') (([]:List AN),0,Ob)=_ from round (S:=[]) hA (AbG 0) hv1 (by simp) hlf];have hbig':decide (((c::xs').length:Int)<c.fN)=true:=by simpa using hbig
     simp only[S9,hp,hbig',hN,Abw,Abu,Ab0,decide_true]
   | false=>rw[hN] at h;cases h
theorem Y3 (hA:Uo F M v):(∃f ys,Ix v=some (f,ys)∧Jr F v=some ((f.flat.length:Int),f.sh 0 Ob,true))∨(Ix v=none∧∃sh',Jr F v=some (0,sh',false)):=by
 cases h:Ix v with
 | some q=>
  obtain⟨f,ys⟩:=q;obtain⟨h1,h2,h3⟩:=HZ _ _ _ _ _ _ _ h;exact .inl ⟨f,ys,rfl,RS hA (TI h) h2 h1⟩
 | none=>
  refine .inr ⟨rfl,?_⟩;obtain⟨o,ho,_⟩:=O4 hA;obtain⟨sh',hb | hb⟩:=Vp hA h
  ·have e:=hb.eq ho;subst e;exact⟨sh',by unfold Jr;rw[B7 ho];rfl⟩
  ·have e:=hb.eq ho;subst e;exact⟨sh',by unfold Jr;rw[B7 ho];rfl⟩
end
theorem Ka {x:Int}(h : -9223372036854775808≤x)(h':x≤9223372036854775807):IntKind.wrap .i64 x=x:=by
 simp only[IntKind.wrap,IntKind.bits,IntKind.signed];simp;omega
def Fo.dep:Fo→Nat
 | .nil=>0
 | .cell _ _ r=>max 1 r.dep
 | .node _ _ kids r=>max (kids.dep+1) r.dep
theorem GV (k:Option Al)(s:AU):(MN k s).fDepth=s.fDepth∧(MN k s).fOutside=s.fOutside∧(MN k s).fLong=(s.fLong||(BM k).any λc=>decide (200<(c.fStr.length:Int))):=by
 cases k with
 | none=>simp[MN,BM]
 | some x=>simp[MN,shk,BM]
theorem L6:∀(f:Fo) (d:Nat) (s:AU),(d:Int)≤s.fDepth→(f.sh d s).fDepth=max s.fDepth ((d:Int)+f.dep)
 | .nil,d,s,h=>by simp only[Fo.sh,Fo.dep];omega
 | .cell k c r,d,s,h=>by
  have hk:=(GV k s).1;have e:(J5 d (MN k s) c).fDepth=max s.fDepth ((d:Int)+1):=by rw[J5,hk]
  rw[Fo.sh,L6 r d _ (by rw[e];omega),e,Fo.dep];omega
 | .node k c kids r,d,s,h=>by
  have hk:=(GV k s).1;have e:(J5 d (MN k s) c).fDepth=max s.fDepth ((d:Int)+1):=by rw[J5,hk]
  have e2:=L6 kids (d+1) (J5 d (MN k s) c) (by rw[e];omega);rw[e] at e2;rw[Fo.sh,L6 r d _ (by rw[e2];omega),e2,Fo.dep];omega
def KK (c:Ac):Bool:=decide (c.fKind=3)&&!(decide ((-1000000000000)≤c.fInt)&&decide (c.fInt≤1000000000000))
def Jv (c:Ac):Bool:=decide (200<(c.fStr.length:Int))
theorem RY (k:Option Al):(BM k).any KK=false:=by cases k<;>simp[BM,KK]
theorem Qk:∀(f:Fo) (d:Nat) (s:AU),(f.sh d s).fOutside=(s.fOutside||f.flat.any KK)
 | .nil,d,s=>by simp[Fo.sh,Fo.flat]
 | .cell k c r,d,s=>by
  rw[Fo.sh,Qk r,J5,(GV k s).2.1];simp only[Fo.flat,List.any_append,List.any_cons,RY,Ab2,Bool.or_assoc];rfl
 | .node k c kids r,d,s=>by
  rw[Fo.sh,Qk r,Qk kids,J5,(GV k s).2.1];simp only[Fo.flat,List.any_append,List.any_cons,RY,Ab2,Bool.or_assoc];rfl
theorem Nt:∀(f:Fo) (d:Nat) (s:AU),(f.sh d s).fLong=(s.fLong||f.flat.any Jv)
 | .nil,d,s=>by simp[Fo.sh,Fo.flat]
 | .cell k c r,d,s=>by
  rw[Fo.sh,Nt r,J5,(GV k s).2.2];simp only[Fo.flat,List.any_append,List.any_cons,Bool.or_assoc];rfl
 | .node k c kids r,d,s=>by
  rw[Fo.sh,Nt r,Nt kids,J5,(GV k s).2.2];simp only[Fo.flat,List.any_append,List.any_cons,Bool.or_assoc];rfl
def VI (c:Ac):Int:=
 bif decide (c.fKind=1) then 4 else bif decide (c.fKind=2) then 5-c.fInt else bif decide (c.fKind=3) then((Lib.itoa c.fInt).length:Int) else
 bif decide (c.fKind=4) then Mu c.fStr else 2
def QE:Option Al→Int
 | none=>0
 | some s=>Mu s+1
def Fo.byt:Fo→Int
 | .nil=>0
 | .cell k c r=>QE k+VI c+r.byt
 | .node k c kids r=>QE k+(c.fN+1)+kids.byt+r.byt
theorem LK (s:Al):2≤Mu s:=by unfold Mu;omega
theorem N3 (k:Option Al):0≤QE k:=by
 cases k with
 | none=>exact AbG 0
 | some s=>have:=LK s;simp only[QE];omega
theorem TY {c:Ac}(hp:pl c=true):0≤VI c:=by
 unfold VI
 cases h1:decide (c.fKind=1) with
 | true=>simp
 | false=>
  cases h2:decide (c.fKind=2) with
  | true=>
   simp[pl,h1,h2] at hp;simp only[Abu,Ab0];omega
  | false=>
   cases h3:decide (c.fKind=3) with
   | true=>simp
   | false=>
    cases h4:decide (c.fKind=4) with
    | true=>have:=LK c.fStr;simp only[Abu,Ab0];omega
    | false=>simp
theorem Yp {c:Ac}(hp:pl c=true):0≤c.fN:=by
 simp only[pl,← Bool.decide_or] at hp
 cases h1:decide (c.fKind=1)<;>cases h2:decide (c.fKind=2)<;>cases h3:decide (c.fKind=3)<;>cases h4:decide (c.fKind=4)<;>cases h5:decide (c.fKind=5)<;>cases h6:decide (c.fKind=6)<;>simp[h1,h2,h3,h4,h5,h6] at hp<;>omega
theorem IM {c:Ac}(hp:pl c=true)(hn:0<c.fN):(c.fKind=5∨c.fKind=6)∧c.fInt=0∧c.fStr=[]:=by
 cases h1:decide (c.fKind=1)<;>cases h2:decide (c.fKind=2)<;>cases h3:decide (c.fKind=3)<;>cases h4:decide (c.fKind=4)<;>cases h5:decide (c.fKind=5)<;>cases h6:decide (c.fKind=6)<;>simp[pl,h1,h2,h3,h4,h5,h6] at hp<;>(simp only[Abo,Abn] at *;first | omega | exact⟨by omega,hp.1,hp.2.1⟩)
theorem Wh {c:Ac}(hp:pl c=true)(hn:decide (0<c.fN)=false):Zr c=VI c:=by
 have hN:=Yp hp;have h0:c.fN=0:=by simp only[Abn] at hn;omega
 unfold Zr VI;rw[h0]
 cases h1:decide (c.fKind=1) with
 | true=>rfl
 | false=>
  cases h2:decide (c.fKind=2) with
  | true=>
   simp[pl,h1,h2] at hp;simp only[Abu,Ab0];exact Ka (by omega) (by omega)
  | false=>rfl
theorem Wg {c:Ac}(hp:pl c=true)(hn:0<c.fN)(hm:c.fN≤9223372036854775000):Zr c=c.fN+1:=by
 obtain⟨hk,_,_⟩:=IM hp hn;unfold Zr;rw[Abs (by omega),Abs (by omega),Abs (by omega),Abs (by omega)];simp only[Abu];rw[Ka (x:=c.fN-1) (by omega) (by omega),Ka (by omega) (by omega)];omega
theorem HT:∀{f:Fo} {m:Bool} {l:Option Al},f.wf m l=true→0≤f.byt
 | .nil,_,_,_=>AbG 0
 | .cell k c r,m,l,h=>by
  simp only[Fo.wf,Abv] at h;have h1:=HT h.2;have h2:=TY h.1.1.2;have h3:=N3 k;simp only[Fo.byt];omega
 | .node k c kids r,m,l,h=>by
  simp only[Fo.wf,Abv,Abo] at h;have h1:=HT h.2;have h2:=HT h.1.2;have h3:=N3 k;simp only[Fo.byt];omega
theorem Pw (k:Option Al)(s:AU)(h0:0≤s.fBytes)(h:s.fBytes+QE k≤9223372036854775807):(MN k s).fBytes=s.fBytes+QE k:=by
 cases k with
 | none=>simp[MN,QE]
 | some x=>
  have:=LK x;simp only[QE] at h;simp only[MN,shk,QE];exact Ka (by omega) (by omega)
theorem L7:∀(f:Fo) (m:Bool) (l:Option Al) (d:Nat) (s:AU),f.wf m l=true→0≤s.fBytes→s.fBytes+f.byt≤9223372036854775000→(f.sh d s).fBytes=s.fBytes+f.byt
 | .nil,_,_,d,s,_,_,_=>by simp[Fo.sh,Fo.byt]
 | .cell k c r,m,l,d,s,hw,h0,h=>by
  simp only[Fo.wf,Abv,AbE] at hw;obtain⟨⟨⟨w1,w2⟩,w3⟩,w4⟩:=hw;have h1:=HT w4;have h2:=TY w2;have h3:=N3 k;simp only[Fo.byt] at h;have e1:=Pw k s h0 (by omega);have e:(J5 d (MN k s) c).fBytes=s.fBytes+QE k+VI c:=by
   rw[J5,e1,Wh w2 w3];exact Ka (by omega) (by omega)
  rw[Fo.sh,L7 r _ _ d _ w4 (by rw[e];omega) (by rw[e];omega),e,Fo.byt];omega
 | .node k c kids r,m,l,d,s,hw,h0,h=>by
  simp only[Fo.wf,Abv,Abo] at hw;obtain⟨⟨⟨⟨⟨w1,w2⟩,w3⟩,w5⟩,w6⟩,w4⟩:=hw;have h1:=HT w4;have h2:=HT w6;have h3:=N3 k;simp only[Fo.byt] at h;have e1:=Pw k s h0 (by omega);have e:(J5 d (MN k s) c).fBytes=s.fBytes+QE k+(c.fN+1):=by
   rw[J5,e1,Wg w2 w3 (by omega)];exact Ka (by omega) (by omega)
  have e2:=L7 kids _ _ (d+1) (J5 d (MN k s) c) w6 (by rw[e];omega) (by rw[e];omega);rw[Fo.sh,L7 r _ _ d _ w4 (by rw[e2,e];omega) (by rw[e2,e];omega),e2,e,Fo.byt];omega
def GF (s:Al):Al:=s.flatMap λc=>bif (decide (c=34)||decide (c=92)) then[92,c] else[c]
def G6 (s:Al):Al:=34::(GF s++[34])
theorem Mb:∀s:Al,(GF s).length=s.length+s.count 34+s.count 92
 | []=>rfl
 | c::s=>by
  have ih:=Mb s;unfold GF at ih ⊢;rw[Acj,Abr,ih]
  by_cases h1:c=34
  ·subst h1;simp;omega
  ·by_cases h2:c=92
   ·subst h2;simp;omega
   ·simp[h1,h2,List.count_cons];omega
theorem R9 (s:Al):((G6 s).length:Int)=Mu s:=by
 simp only[G6,AbB,Abr,Mb,Acf,Mu];omega
def Gb (c:Ac):Al:=
 bif decide (c.fKind=1) then[110,117,108,108] else
 bif decide (c.fKind=2) then(bif decide (c.fInt=1) then[116,114,117,101] else[102,97,108,115,101]) else
 bif decide (c.fKind=3) then Lib.itoa c.fInt else
 bif decide (c.fKind=4) then G6 c.fStr else
 bif decide (c.fKind=6) then[123,125] else[91,93]
def J8:Option Al→Al
 | none=>[]
 | some s=>G6 s++[58]
def OU (c:Ac)(s:Al):Al:=bif decide (c.fKind=6) then 123::(s++[125]) else 91::(s++[93])
def Eg (first:Bool):Al:=bif first then[] else[44]
def Fo.txt:Bool→Fo→Al
 | _,.nil=>[]
 | b,.cell k c r=>Eg b++J8 k++Gb c++r.txt false
 | b,.node k c kids r=>Eg b++J8 k++OU c (kids.txt true)++r.txt false
theorem TZ (k:Option Al):((J8 k).length:Int)=QE k:=by
 cases k with
 | none=>rfl
 | some s=>simp only[J8,Abr,QE,AbP];have:=R9 s;omega
theorem PK {c:Ac}(hp:pl c=true):((Gb c).length:Int)=VI c:=by
  unfold Gb VI
  cases h1:decide (c.fKind=1) with
  | true=>rfl
  | false=>
    cases h2:decide (c.fKind=2) with
    | true=>
      simp[pl,h1,h2] at hp;simp only[Abu,Ab0]
      cases h7:decide (c.fInt=1) with
      | true=>simp only[Abo] at h7;simp[h7]
      | false=>
                 simp only[Abn] at h7;have:c.fInt=0:=by omega
                 simp[this]
    | false=>
      cases h3:decide (c.fKind=3) with
      | true=>rfl
      | false=>
        cases h4:decide (c.fKind=4) with
        | true=>simpa using R9 c.fStr
        | false=>cases h6:decide (c.fKind=6)<;>rfl
theorem Jl (c:Ac)(s:Al):(OU c s).length=s.length+2:=by
 unfold OU
 cases decide (c.fKind=6)<;>simp
theorem HE:∀(f:Fo) (m:Bool) (l:Option Al) (b:Bool),f.wf m l=true→((f.txt b).length:Int)=f.byt+(bif b then((f.cnt-1:Nat):Int) else(f.cnt:Int))
 | .nil,m,l,b,_=>by cases b<;>rfl
 | .cell k c r,m,l,b,hw=>by
  simp only[Fo.wf,Abv,AbE] at hw;obtain⟨⟨⟨w1,w2⟩,w3⟩,w4⟩:=hw;have ih:=HE r _ _ false w4;have a:=TZ k;have d:=PK w2;simp only[Abu] at ih
  cases b<;>simp only[Fo.txt,Fo.byt,Fo.cnt,Eg,Ab0,Abu,Abr,Acf,AbP]<;>omega
 | .node k c kids r,m,l,b,hw=>by
  simp only[Fo.wf,Abv,Abo] at hw;obtain⟨⟨⟨⟨⟨w1,w2⟩,w3⟩,w5⟩,w6⟩,w4⟩:=hw;have ih:=HE r _ _ false w4;have ih2:=HE kids _ _ true w6;have a:=TZ k;have d:=Jl c (kids.txt true);simp only[Abu,Ab0] at ih ih2
  cases b<;>simp only[Fo.txt,Fo.byt,Fo.cnt,Eg,Ab0,Abu,Abr,Acf,AbP]<;>omega
def Fo.put (k:Option Al):Fo→Fo→Fo
 | .cell _ c _,r=>.cell k c r
 | .node _ c kids _,r=>.node k c kids r
 | .nil,_=>.nil
theorem W1 (P:Nat)(m:Bool)(last:Option Al)(k:Nat)(xs:List Ac):IA (P+2) m last (k+1) xs =
  match IL m last xs with
  | none=>none
  | some (key,ys)=>match IA (P+2) false none 1 ys with
   | none=>none
   | some (f,zs)=>match IA (P+1) m key k zs with
    | none=>none
    | some (r,us)=>some (f.put key r,us):=by
 rw[IA]
 cases hk:IL m last xs with
 | none=>rfl
 | some p=>
  obtain⟨key,ys⟩:=p;simp only;rw[IA];simp only[IL,Abu]
  cases ys with
  | nil=>rfl
  | cons c ys=>
   simp only
   cases hp:pl c with
   | false=>rfl
   | true=>
    simp only[Abw,Abu]
    cases hn:decide (0<c.fN) with
    | true=>
     simp only[Ab0]
     cases hq:IA (P+1) (decide (c.fKind=6)) none c.fN.toNat ys with
     | none=>rfl
     | some q=>
      obtain⟨kids,zs⟩:=q;simp only[IA]
      cases hr:IA (P+1) m key k zs with
      | none=>rfl
      | some q=>obtain⟨a,b⟩:=q;rfl
    | false=>
     simp only[Abu,IA]
     cases hr:IA (P+1) m key k ys with
     | none=>rfl
     | some q=>obtain⟨a,b⟩:=q;rfl
def Oo (m:Bool)(last:Option Al)(k:Nat)(xs:List Ac):Option (Fo×List Ac):=IA (xs.length+1) m last k xs
theorem Mv (m:Bool)(last:Option Al)(xs:List Ac):Oo m last 0 xs=some (.nil,xs):=rfl
theorem Hb (m:Bool)(last:Option Al)(k:Nat)(xs:List Ac):Oo m last (k+1) xs =
  match IL m last xs with
  | none=>none
  | some (key,ys)=>match Ix ys with
   | none=>none
   | some (f,zs)=>match Oo m key k zs with
    | none=>none
    | some (r,us)=>some (f.put key r,us):=by
 unfold Oo Ix;rw[Iv (xs.length+1) (xs.length+2) m last (k+1) xs (by omega) (by omega),W1]
 cases hk:IL m last xs with
 | none=>rfl
 | some p=>
  obtain⟨key,ys⟩:=p;have h1:=(Nw hk).1;have hy:ys.length≤xs.length:=by rw[h1];simp
  simp only;rw[Iv (xs.length+2) (ys.length+1) false none 1 ys (by omega) (by omega)]
  cases hf:IA (ys.length+1) false none 1 ys with
  | none=>rfl
  | some q=>
   obtain⟨f,zs⟩:=q;have h2:=(HZ _ _ _ _ _ _ _ hf).1;have hz:zs.length≤ys.length:=by rw[h2];simp
   simp only;rw[Iv (xs.length+1) (zs.length+1) m key k zs (by omega) (by omega)]
   all_goals (cases IA (zs.length+1) m key k zs<;>rfl)
theorem MV {S O:Type}{body:S→Option (Stp S O)}{n:Nat}{s s':S}{o:O}(h:body s=some (.next s'))(h':Ci body n s'=some o):Ci body (n+1) s=some o:=by rw[Ci,h];exact h'
theorem Ju {S O:Type}{body:S→Option (Stp S O)}{n:Nat}{s:S}{o:O}(h:body s=some (.out o)):Ci body (n+1) s=some o:=by rw[Ci,h]
theorem RB:Ix []=none:=rfl
theorem Iw (c:Ac)(r:List Ac):Ix (c::r)=bif !pl c then none else bif decide (0<c.fN) then(match Oo (decide (c.fKind=6)) none c.fN.toNat r with
  | none=>none
  | some (kids,zs)=>some (.node none c kids .nil,zs)) else some (.cell none c .nil,r):=by
 unfold Ix;rw[IA];simp only[IL,Abu]
 cases hp:pl c with
 | false=>rfl
 | true=>
  simp only[Abw,Abu]
  cases hn:decide (0<c.fN) with
  | true=>
   simp only[Ab0];unfold Oo;rw[AbB]
   cases hq:IA (r.length+1) (decide (c.fKind=6)) none c.fN.toNat r with
   | none=>rfl
   | some q=>obtain⟨kids,zs⟩:=q;rfl
  | false=>rfl
theorem RA {f:Fo}(h:f.one=true)(key:Option Al)(r:Fo):(f.put key r).flat=BM key++(f.flat++r.flat):=by
 cases f with
 | nil=>cases h
 | cell k c r'=>
  cases k with
  | some s=>cases h
  | none=>cases r' with
   | nil=>simp[Fo.put,Fo.flat,BM]
   | cell _ _ _=>cases h
   | node _ _ _ _=>cases h
 | node k c kids r'=>
  cases k with
  | some s=>cases h
  | none=>cases r' with
   | nil=>simp[Fo.put,Fo.flat,BM]
   | cell _ _ _=>cases h
   | node _ _ _ _=>cases h
theorem RD {f:Fo}(h:f.one=true):1≤f.flat.length:=by
 cases f with
 | nil=>cases h
 | cell k c r'=>simp[Fo.flat];omega
 | node k c kids r'=>simp[Fo.flat];omega
theorem Kq {xs ys:List Ac}{f:Fo}(h:Ix xs=some (f,ys)):xs=f.flat++ys∧f.wf false none=true∧f.one=true:=
 ⟨(HZ _ _ _ _ _ _ _ h).1,(HZ _ _ _ _ _ _ _ h).2.1,TI h⟩
def Jt (v:List Ac)(i:Int):Int:=match Ix (v.drop i.toNat) with
 | none=>-1
 | some (f,_)=>i+f.flat.length
def LS (m:Bool)(last:Option Al)(v:List Ac)(i:Int)(k:Nat):Int:=match Oo m last k (v.drop i.toNat) with
 | none=>-1
 | some (f,_)=>i+f.flat.length
theorem PF {v:List Ac}{i:Int}(h0:0≤i)(h1:i≤v.length):Jt v i = -1∨(i<Jt v i∧Jt v i≤v.length):=by
 unfold Jt
 cases h:Ix (v.drop i.toNat) with
 | none=>exact .inl rfl
 | some q=>
  obtain⟨f,ys⟩:=q;obtain⟨h2,_,h3⟩:=Kq h;have:=RD h3;have hl:(v.drop i.toNat).length=f.flat.length+ys.length:=by rw[h2];simp
  rw[AbS] at hl
  right;simp only;omega
structure RfA (F M:Nat) (v:List Ac):Prop where
 hM:M≤1152921504606846976
 hv:v.length≤M
 hF:M<F
 hc:∀c∈v,c.fStr.length≤M
theorem UR (ok:Bool){i:Int}(h0:0≤i)(h1:i≤1152921504606846976):Cd ok i=some (bif ok then i+1 else -1):=by
 unfold Cd
 cases ok
 ·rfl
 ·rw[Bh rfl,AW (by omega) (by omega)];rfl
theorem TH {F:Nat}{c:Ac}(hF:c.fStr.length<F)(hs:c.fStr.length≤1152921504606846976):Pa F c=some (decide (c.fKind=4)&&pl c):=by
 unfold Pa;rw[UJ hF (by omega)];simp only[Option.isSome_some,ov,AbO,imp,AbC,Ba,Ab0]
 cases h4:decide (c.fKind=4) with
 | false=>rfl
 | true=>
  simp only[Abo] at h4;simp[pl,h4]
theorem D9 {v:List Ac}{i:Int}{c:Ac}{r:List Ac}(h0:0≤i)(h:v.drop i.toNat=c::r):Ap v i=c:=by
 have:=(CF h0 h).1;simp[Ap,this]
section
variable {M : Nat} {v : List Ac}
theorem KQ {F:Nat}(hA:RfA F M v){g:List Ac→Int→Option Int}{n:Int}(hn:n≤9223372036854775807):∀(L:Nat) (i x:Int),0≤i→i≤v.length→0≤x→x≤n→(∀j,i≤j→j≤v.length→g v j=some (Jt v j))→v.length-i.toNat<L→
  ∃o,Ci (λσ=>Dp v n g σ.1 σ.2) L (i,x)=some o∧BS (λν=>Et ν) o=some (LS false none v i (n-x).toNat)
 | 0,i,x,_,_,_,_,_,h=>by omega
 | L+1,i,x,h0,h1,hx,hxn,hg,hL=>by
  cases hxl:decide (x<n) with
  | false=>
   refine⟨.go i,Ju (by show Dp v n g i x=_;unfold Dp;rw[AZ hxl]),?_⟩;simp only[Abn] at hxl;rw[show(n-x).toNat=0 from by omega];simp[BS,Et,LS,Mv,Fo.flat]
  | true=>
   have hb:Dp v n g i x=B2 (decide (Jt v i<0)) (some (.out (.ret (-1)))) (Ba (BF .i64 (x+1))<|some (.next (Jt v i,x+1))):=by unfold Dp;rw[Bh hxl,hg i (AbG i) h1,B7 rfl]
   simp only[Abo] at hxl;obtain⟨k,hk⟩:∃k,(n-x).toNat=k+1:=⟨(n-x).toNat-1,by omega⟩
   rw[hk];have e:LS false none v i (k+1)=bif decide (Jt v i<0) then -1 else LS false none v (Jt v i) k:=by
    unfold LS;rw[Hb];simp only[IL,Abu]
    cases hp:Ix (v.drop i.toNat) with
    | none=>simp[Jt,hp]
    | some q=>
     obtain⟨f,ys⟩:=q;obtain⟨q1,q2,q3⟩:=Kq hp;have hi:Jt v i=i+f.flat.length:=by simp[Jt,hp]
     have hd:v.drop (Jt v i).toNat=ys:=by rw[hi];exact CV h0 q1
     rw[hd,Abs (by omega)];simp only[Abu]
     cases hr:Oo false none k ys with
     | none=>rfl
     | some q=>
      obtain⟨r,zs⟩:=q;simp only[RA q3,BM,Acb,Abr,hi];omega
   rw[e];rcases PF (v:=v) h0 h1 with hneg | ⟨hlt,hle⟩
   ·exact⟨.ret (-1),Ju (hb.trans (by rw[hneg,Bh (by decide)])),by rw[hneg];rfl⟩
   ·have hM:=hA.hM;have hvM:=hA.hv;obtain⟨o,ho1,ho2⟩:=KQ hA hn L (Jt v i) (x+1) (by omega) hle (by omega) (by omega) (λj hj=>hg j (by omega)) (by omega);exact⟨o,MV (hb.trans (by rw[AZ (Abs (by omega)),AW (by omega) (by omega)])) ho1,by rw[ho2,show(n-(x+1)).toNat=k from by omega,Abs (by omega)];rfl⟩
theorem Oh {F:Nat}(hA:RfA F M v){g:List Ac→Int→Option Int}{n:Int}(hn:n≤9223372036854775807):∀(L:Nat) (i x:Int) (last:Al),0≤i→i≤v.length→0≤x→x≤n→(∀j,i≤j→j≤v.length→g v j=some (Jt v j))→v.length-i.toNat<L→
  ∃o,Ci (λσ=>DK F v n g σ.1 σ.2.1 σ.2.2) L (i,last,x)=some o∧BS (λν=>GX ν) o=some (LS true (bif decide (0<x) then some last else none) v i (n-x).toNat)
 | 0,i,x,_,_,_,_,_,_,h=>by omega
 | L+1,i,x,last,h0,h1,hx,hxn,hg,hL=>by
  have hM:=hA.hM;have hvM:=hA.hv;have hMF:=hA.hF
  cases hxl:decide (x<n) with
  | false=>
   refine⟨.go i,Ju (by show DK F v n g i last x=_;unfold DK;rw[AZ hxl]),?_⟩;simp only[Abn] at hxl;rw[show(n-x).toNat=0 from by omega];simp[BS,GX,LS,Mv,Fo.flat]
  | true=>
   have hxl':=hxl;simp only[Abo] at hxl;obtain⟨k,hk⟩:∃k,(n-x).toNat=k+1:=⟨(n-x).toNat-1,by omega⟩
   rw[hk]
   cases hd:v.drop i.toNat with
   | nil=>
    have hl:v.length≤i.toNat:=by simpa using hd
    refine⟨.ret (-1),Ju (by
     show DK F v n g i last x=_;unfold DK;rw[Bh hxl',Da (by simp[imp,show(v.length:Int)≤i from by omega]),Da (by simp[imp,show(v.length:Int)≤i from by omega]),Bh (by simp[show(v.length:Int)≤i from by omega])]),?_⟩
    simp[BS,LS,hd,Hb,IL]
   | cons c r=>
    obtain⟨g1,g2,g3⟩:=CF h0 hd;have hcM:=hA.hc c (AbA g1);have hat:=D9 h0 hd;have hnl:decide ((v.length:Int)≤i)=false:=by simp;omega
    have hb:DK F v n g i last x=B2 (!(decide (c.fKind=4)&&pl c)||decide (0<x)&&(CA c.fStr last||decide (c.fStr=last))) (some (.out (.ret (-1)))) (B3 (g v (i+1)) λha=>B2 (decide (ha<0)) (some (.out (.ret (-1)))) (Ba (BF .i64 (x+1))<|some (.next (ha,c.fStr,x+1)))):=by
     unfold DK;rw[Bh hxl',Da (by simp only[imp];rw[Tn h0 g3];simp),hat,TH (by omega) (by omega),Da (by simp[imp])];simp only[hnl,ov,AbO,Ab2];rw[BC h0 g3,AW (by omega) (by omega)]
    have hpk:IL true (bif decide (0<x) then some last else none) (c::r)=bif (!(decide (c.fKind=4)&&pl c)||decide (0<x)&&(CA c.fStr last||decide (c.fStr=last))) then none else some (some c.fStr,r):=by
     simp only[IL,Ab0]
     cases h4:decide (c.fKind=4) with
     | false=>simp
     | true=>
      cases hp:pl c with
      | false=>simp
      | true=>
       have hok:=(Qx hp (by simpa using h4)).2
       cases h0x:decide (0<x) with
       | false=>simp[CO,hok]
       | true=>cases hs:(CA c.fStr last||decide (c.fStr=last))<;>simp[CO,hok,hs]
    cases ht:(!(decide (c.fKind=4)&&pl c)||decide (0<x)&&(CA c.fStr last||decide (c.fStr=last))) with
    | true=>
     rw[ht] at hpk;refine⟨.ret (-1),Ju (hb.trans (Bh ht)),?_⟩;simp only[LS,hd,Hb,hpk,Ab0];rfl
    | false=>
     rw[ht] at hpk;rw[AZ ht,hg (i+1) (by omega) (by omega),B7 rfl] at hb;have e:LS true (bif decide (0<x) then some last else none) v i (k+1)=bif decide (Jt v (i+1)<0) then -1 else LS true (some c.fStr) v (Jt v (i+1)) k:=by
      unfold LS;rw[hd,Hb,hpk];simp only[Abu];have hx:Jt v (i+1)=match Ix r with | none=>-1 | some (f,_)=>i+1+f.flat.length:=by unfold Jt;rw[g2]
      cases hp:Ix r with
      | none=>rw[hp] at hx;simp[hx]
      | some q=>
       obtain⟨f,ys⟩:=q;obtain⟨q1,q2,q3⟩:=Kq hp;rw[hp] at hx;simp only at hx;have hd2:v.drop (Jt v (i+1)).toNat=ys:=by rw[hx];exact CV (by omega) (g2.trans q1)
       rw[hd2,Abs (by omega)];simp only[Abu]
       cases hr:Oo true (some c.fStr) k ys with
       | none=>rfl
       | some q=>
        obtain⟨r',zs⟩:=q;simp only[RA q3,BM,Abr,AbB,Acf,hx];omega
     rw[e];rcases PF (v:=v) (i:=i+1) (by omega) (by omega) with hneg | ⟨hlt,hle⟩
     ·exact⟨.ret (-1),Ju (hb.trans (by rw[hneg,Bh (by decide)])),by rw[hneg];rfl⟩
     ·obtain⟨o,ho1,ho2⟩:=Oh hA hn L (Jt v (i+1)) (x+1) c.fStr (by omega) hle (by omega) (by omega) (λj hj=>hg j (by omega)) (by omega);exact⟨o,MV (hb.trans (by rw[AZ (Abs (by omega)),AW (by omega) (by omega)])) ho1,by rw[ho2,show(n-(x+1)).toNat=k from by omega,Abt (show(0:Int)<x+1 from by omega),Abs (by omega)];rfl⟩
theorem RN {i:Int}{c:Ac}{r:List Ac}(h0:0≤i)(hd:v.drop i.toNat=c::r)(hp:pl c=true):Jt v i=LS (decide (c.fKind=6)) none v (i+1) c.fN.toNat:=by
 have g2:=(CF h0 hd).2.1;have hN:=Yp hp;unfold Jt LS;rw[hd,Iw,g2,hp];simp only[Abw,Abu]
 cases hn:decide (0<c.fN) with
 | true=>
  simp only[Ab0]
  cases hq:Oo (decide (c.fKind=6)) none c.fN.toNat r with
  | none=>rfl
  | some q=>
   obtain⟨kids,zs⟩:=q;simp only[Fo.flat,BM,Acb,AbB,AbZ];omega
 | false=>
  simp only[Abn] at hn;rw[show c.fN.toNat=0 from by omega,Mv];simp[Fo.flat,BM]
theorem R4 (hA:RfA (M+1) M v)(hN:∀c∈v,c.fN≤9223372036854775807):∀(d F:Nat) (i:Int),0≤i→i≤v.length→v.length-i.toNat=d→M+2*d+3<F→DL F v i=some (Jt v i):=by
 have hM:=hA.hM;have hvM:=hA.hv;intro d
 induction d using Nat.strongRecOn with
 | ind d ih=>
  intro F i h0 h1 hd hF;obtain⟨F,rfl⟩:∃G,F=G+1:=⟨F-1,by omega⟩
  obtain⟨F,rfl⟩:∃G,F=G+1:=⟨F-1,by omega⟩
  rw[DL];unfold Qt
  cases hdr:v.drop i.toNat with
  | nil=>
   have hl:v.length≤i.toNat:=by simpa using hdr
   rw[Bh (by simp;omega)];simp[Jt,hdr,RB]
  | cons c r=>
   obtain⟨g1,g2,g3⟩:=CF h0 hdr;have hcM:=hA.hc c (AbA g1);have hcN:=hN c (AbA g1);rw[AZ (by simp;omega),BC h0 g3,D9 h0 hdr];simp only[UR _ h0 (show i≤1152921504606846976 by omega),Option.isSome_some,ov,AbO,imp,AbC,Da (x:=_) (rfl:true=true)];have hg:∀j,i+1≤j→j≤v.length→DL F v j=some (Jt v j):=λj hj hj2=>ih (v.length-j.toNat) (by omega) F j (by omega) hj2 rfl (by omega);have hpl0:pl c=false→Jt v i = -1:=λhp=>by simp[Jt,hdr,Iw,hp]
   have hleaf:pl c=true→c.fN=0→Jt v i=i+1:=λhp h0'=>by simp[Jt,hdr,Iw,hp,h0',Fo.flat,BM]
   have hscal:∀b:Bool,pl c=b→(b=true→c.fN=0)→Jt v i=bif b then i+1 else -1:=λb hb hz=>by
    cases b
    ·exact hpl0 hb
    ·exact hleaf hb (hz rfl)
   by_cases k1:c.fKind=1
   ·rw[Bh (by simp[k1])];have hp:pl c=(decide (c.fInt=0)&&(decide (c.fStr=[])&&decide (c.fN=0))):=by simp[pl,k1]
    rw[hscal _ hp (λh=>by simp at h;exact h.2.2)]
    cases decide (c.fInt=0)<;>cases decide (c.fStr=[])<;>cases decide (c.fN=0)<;>rfl
   rw[AZ (by simp[k1])]
   by_cases k2:c.fKind=2
   ·rw[Bh (by simp[k2])];have hp:pl c=((decide (c.fInt=0)||decide (c.fInt=1))&&(decide (c.fStr=[])&&decide (c.fN=0))):=by simp[pl,k2]
    rw[hscal _ hp (λh=>by simp at h;exact h.2.2)]
    cases decide (c.fInt=0)<;>cases decide (c.fInt=1)<;>cases decide (c.fStr=[])<;>cases decide (c.fN=0)<;>rfl
   rw[AZ (by simp[k2])]
   by_cases k3:c.fKind=3
   ·rw[Bh (by simp[k3])];have hp:pl c=(decide (c.fStr=[])&&decide (c.fN=0)):=by simp[pl,k3]
    rw[hscal _ hp (λh=>by simp at h;exact h.2)]
    cases decide (c.fStr=[])<;>cases decide (c.fN=0)<;>rfl
   rw[AZ (by simp[k3])]
   by_cases k4:c.fKind=4
   ·rw[Bh (by simp[k4]),TH (by omega) (by omega),B7 rfl,B7 rfl];rw[Abt k4,Ab1,hscal (pl c) rfl (λhp=>by have:=(Qx hp k4).1;rw[this])]
   rw[AZ (by simp[k4])]
   by_cases k5:c.fKind=5
   ·have hp:pl c=(decide (c.fInt=0)&&(decide (c.fStr=[])&&decide (0≤c.fN))):=by simp[pl,k5]
    rw[show(decide (c.fKind=5)&&(decide (c.fInt=0)&&(decide (c.fStr=[])&&decide (0≤c.fN))))=pl c from by rw[hp,Abt k5,Ab1]];have k5' : ¬ c.fKind=6:=by omega
    cases hb:pl c with
    | false=>rw[AZ rfl,AZ (by simp[k5]),hpl0 hb]
    | true=>
     have hn0:=Yp hb;rw[Bh rfl,AW (by omega) (by omega),GZ];unfold IK;obtain⟨o,ho1,ho2⟩:=KQ (F:=F) ⟨hM,hvM,by omega,hA.hc⟩ hcN F (i+1) 0 (by omega) (by omega) (AbG 0) hn0 hg (by omega);rw[B7 ho1,ho2,B7 rfl,RN h0 hdr hb,Abs k5',Int.sub_zero]
   rw[AZ (by simp[k5])]
   by_cases k6:c.fKind=6
   ·have hp:pl c=(decide (c.fInt=0)&&(decide (c.fStr=[])&&decide (0≤c.fN))):=by simp[pl,k6]
    rw[show(decide (c.fKind=6)&&(decide (c.fInt=0)&&(decide (c.fStr=[])&&decide (0≤c.fN))))=pl c from by rw[hp,Abt k6,Ab1]]
    cases hb:pl c with
    | false=>rw[AZ rfl,hpl0 hb]
    | true=>
     have hn0:=Yp hb;rw[Bh rfl,AW (by omega) (by omega),Mq];unfold Nv;obtain⟨o,ho1,ho2⟩:=Oh (F:=F) ⟨hM,hvM,by omega,hA.hc⟩ hcN F (i+1) 0 [] (by omega) (by omega) (AbG 0) hn0 hg (by omega);rw[B7 ho1,ho2,B7 rfl,RN h0 hdr hb,Abt k6,Int.sub_zero];rfl
   ·rw[AZ (by simp[k6]),hpl0 (by simp[pl,k1,k2,k3,k4,k5,k6])]
theorem ST (hA:RfA (M+1) M v)(hN:∀c∈v,c.fN≤9223372036854775807){F:Nat}(hF:3*M+3<F):LD F v=some (decide (Jt v 0=v.length)):=by
 have hvM:=hA.hv;unfold LD;rw[R4 hA hN v.length F 0 (AbG 0) (by omega) (by simp) (by omega)];simp only[imp,Option.isSome_some,AbC,Da,ov,AbO]
 cases v with
 | nil=>simp[Jt,RB]
 | cons c r=>
  rw[show decide (0<((c::r).length:Int))=true from by simp,Ab1]
  first | done | rfl
end
theorem TJ {m:Bool}{last key:Option Al}{r:List Ac}(h:CO m last key=true):IL m last (BM key++r)=some (key,r):=by
 cases key with
 | none=>
  have:m=false:=by simpa[CO] using h
  subst this;rfl
 | some s=>
  have h':=h;simp only[CO,Abv] at h;obtain⟨⟨h1,h2⟩,h3⟩:=h;subst h1;have hp:pl ⟨4,0,s,0⟩=true:=by simp[pl,h2]
  show(bif pl ⟨4,0,s,0⟩&&decide ((4:Int)=4)&&CO true last (some s) then _ else _)=_;rw[hp,h'];rfl
theorem Nx:∀(f:Fo) (m:Bool) (last:Option Al) (ys:List Ac),f.wf m last=true→Oo m last f.cnt (f.flat++ys)=some (f,ys)
 | .nil,_,_,_,_=>rfl
 | .cell k c r,m,last,ys,hw=>by
  simp only[Fo.wf,Abv,AbE] at hw;obtain⟨⟨⟨w1,w2⟩,w3⟩,w4⟩:=hw;simp only[Fo.cnt,Fo.flat,AbM,Ach];rw[Hb,TJ w1];simp only[Iw,w2,w3,Abw,Abu,Nx r m k ys w4,Fo.put]
 | .node k c kids r,m,last,ys,hw=>by
  simp only[Fo.wf,Abv,Abo] at hw;obtain⟨⟨⟨⟨⟨w1,w2⟩,w3⟩,w5⟩,w6⟩,w4⟩:=hw;simp only[Fo.cnt,Fo.flat,AbM,Ach];rw[Hb,TJ w1];have e:c.fN.toNat=kids.cnt:=by omega
  simp only[Iw,w2,Abt w3,Abw,Abu,Ab0,e,Nx kids _ none (r.flat++ys) w6,Nx r m k ys w4,Fo.put]
theorem Yo {f:Fo}{ys:List Ac}(h1:f.one=true)(hw:f.wf false none=true):Ix (f.flat++ys)=some (f,ys):=by
 have:=Nx f false none ys hw;have hc:f.cnt=1:=by
  cases f with
  | nil=>cases h1
  | cell k c r=>cases k with
   | some _=>cases h1
   | none=>cases r with
    | nil=>rfl
    | _=>cases h1
  | node k c kids r=>cases k with
   | some _=>cases h1
   | none=>cases r with
    | nil=>rfl
    | _=>cases h1
 rw[hc] at this;exact this
structure J0 (M:Nat) (v:List Ac):Prop where
 hM:M≤1000000000
 hv:v.length≤M
 hc:∀c∈v,c.fStr.length≤M∧BF .i64 c.fInt=true∧c.fN≤9223372036854775807
theorem J0.lk {M F:Nat}{v:List Ac}(h:J0 M v)(hF:M<F):Uo F M v:=⟨by have:=h.hM;omega,by have:=h.hM;omega,h.hv,hF,h.hc⟩
theorem J0.rf {M F:Nat}{v:List Ac}(h:J0 M v)(hF:M<F):RfA F M v:=⟨by have:=h.hM;omega,h.hv,hF,λc hc=>(h.hc c hc).1⟩
theorem J0.drop {M:Nat}{v:List Ac}(h:J0 M v)(k:Nat):J0 M (v.drop k):=⟨h.hM,by have:=h.hv;rw[AbS];omega,λc hc=>h.hc c (List.mem_of_mem_drop hc)⟩
theorem J0.take {M:Nat}{v:List Ac}(h:J0 M v)(k:Nat):J0 M (v.take k):=⟨h.hM,by have:=h.hv;rw[AbY];omega,λc hc=>h.hc c (List.mem_of_mem_take hc)⟩
def whole (v:List Ac):Option Fo:=match Ix v with
 | some (f,[])=>some f
 | _=>none
theorem IC {v:List Ac}{f:Fo}(h:whole v=some f):v=f.flat∧f.wf false none=true∧f.one=true:=by
 unfold whole at h
 cases hp:Ix v with
 | none=>rw[hp] at h;cases h
 | some q=>
  obtain⟨g,ys⟩:=q;rw[hp] at h
  cases ys with
  | cons _ _=>cases h
  | nil=>
   cases h
   obtain⟨h1,h2,h3⟩:=Kq hp;exact⟨by simpa using h1,h2,h3⟩
def Mc (f:Fo):Int:=
 bif f.flat.any KK then 2 else bif f.flat.any Jv||(decide (200<f.flat.length)||(decide (8<f.dep)||decide (4000<(f.txt true).length))) then 3 else 0
def Ji (v:List Ac):Int:=match whole v with
 | none=>1
 | some f=>Mc f
theorem Nz {f:Fo}(h1:f.one=true):f.cnt=1:=by
 cases f with
 | nil=>cases h1
 | cell k c r=>cases k with
  | some _=>cases h1
  | none=>cases r with
   | nil=>rfl
   | _=>cases h1
 | node k c kids r=>cases k with
  | some _=>cases h1
  | none=>cases r with
   | nil=>rfl
   | _=>cases h1
theorem Qw (s:Al):Mu s≤2*s.length+2+s.length:=by
 have h1:s.count 34≤s.length:=List.count_le_length;have h2:s.count 92≤s.length:=List.count_le_length;unfold Mu;omega
theorem Z8 {c:Ac}{M:Nat}(hp:pl c=true)(hs:c.fStr.length≤M)(hi:(Lib.itoa c.fInt).length≤21):VI c≤3*M+21:=by
 have:=Qw c.fStr;unfold VI
 cases h1:decide (c.fKind=1) with
 | true=>simp only[Ab0];omega
 | false=>
  cases h2:decide (c.fKind=2) with
  | true=>
   simp[pl,h1,h2] at hp;simp only[Abu,Ab0];omega
  | false=>
   cases h3:decide (c.fKind=3) with
   | true=>simp only[Abu,Ab0];omega
   | false=>cases h4:decide (c.fKind=4)<;>simp only[Abu,Ab0]<;>omega
theorem QS {M:Nat}:∀{f:Fo} {m:Bool} {l:Option Al},f.wf m l=true→(∀c∈f.flat,c.fStr.length≤M∧BF .i64 c.fInt=true∧c.fN≤9223372036854775807)→f.byt+f.cnt≤(3*M+24)*f.flat.length
 | .nil,_,_,_,_=>by simp[Fo.byt,Fo.flat,Fo.cnt]
 | .cell k c r,m,l,hw,hc=>by
  simp only[Fo.wf,Abv,AbE] at hw;obtain⟨⟨⟨w1,w2⟩,w3⟩,w4⟩:=hw;simp only[Fo.flat] at hc;have ih:=QS w4 (λx hx=>hc x (by simp[hx]));obtain⟨c1,c2,c3⟩:=hc c (by simp);have i64:=G2 c2;have hl:=Z8 w2 c1 (Lib.itoa_length_le c.fInt i64.1 i64.2);have hk:QE k≤(3*M+24)*(BM k).length:=by
   cases k with
   | none=>simp[QE,BM]
   | some s=>
    have:=(hc ⟨4,0,s,0⟩ (by simp[BM])).1;have h2:=Qw s;simp only at this;simp only[QE,BM,AbP];omega
  simp only[Fo.byt,Fo.flat,Fo.cnt,Abr,AbB];have e:((3*(M:Int)+24)*(((BM k).length+(r.flat.length+1):Nat):Int))=(3*(M:Int)+24)*(BM k).length+((3*(M:Int)+24)*r.flat.length+(3*(M:Int)+24)):=by
   push_cast;rw[Int.mul_add,Int.mul_add,Int.mul_one]
  rw[e]
  push_cast at *
  omega
 | .node k c kids r,m,l,hw,hc=>by
  simp only[Fo.wf,Abv,Abo] at hw;obtain⟨⟨⟨⟨⟨w1,w2⟩,w3⟩,w5⟩,w6⟩,w4⟩:=hw;simp only[Fo.flat] at hc;have ih:=QS w4 (λx hx=>hc x (by simp[hx]));have ih2:=QS w6 (λx hx=>hc x (by simp[hx]));have hcf:=CK kids;have hk:QE k≤(3*M+24)*(BM k).length:=by
   cases k with
   | none=>simp[QE,BM]
   | some s=>
    have:=(hc ⟨4,0,s,0⟩ (by simp[BM])).1;have h2:=Qw s;simp only at this;simp only[QE,BM,AbP];omega
  simp only[Fo.byt,Fo.flat,Fo.cnt,Abr,AbB];have e:((3*(M:Int)+24)*(((BM k).length+(kids.flat.length+r.flat.length+1):Nat):Int))=(3*(M:Int)+24)*(BM k).length+((3*(M:Int)+24)*kids.flat.length+(3*(M:Int)+24)*r.flat.length+(3*(M:Int)+24)):=by
   push_cast;rw[Int.mul_add,Int.mul_add,Int.mul_add,Int.mul_one]
  rw[e]
  push_cast at *
  omega
theorem KH {M:Nat}(hM:M≤2000000){f:Fo}{m:Bool}{l:Option Al}(hw:f.wf m l=true)(hl:f.flat.length≤M)(hc:∀c∈f.flat,c.fStr.length≤M∧BF .i64 c.fInt=true∧c.fN≤9223372036854775807):f.byt≤16000000000000:=by
 have:=QS (M:=M) hw hc;have h2:(3*M+24)*f.flat.length≤(3*2000000+24)*2000000:=Nat.mul_le_mul (by omega) (by omega);have h3:(((3*M+24)*f.flat.length:Nat):Int)=(3*(M:Int)+24)*f.flat.length:=by push_cast;rfl
 omega
theorem Ml {M F:Nat}{v:List Ac}(hA:J0 M v)(hM:M≤2000000)(hF:M<F):IG F v=some (Ji v):=by
 unfold IG Ji whole;have hvM:=hA.hv;rcases Y3 (hA.lk hF) with⟨f,ys,hp,hl⟩ | ⟨hp,sh',hl⟩
 ·rw[hl,B7 rfl,hp];obtain⟨h1,h2,h3⟩:=Kq hp;have hlen:v.length=f.flat.length+ys.length:=by rw[h1];simp
  cases ys with
  | cons c r=>
   rw[Bh];simp only[AbB] at hlen;simp;omega
  | nil=>
   simp only[Acf,Nat.add_zero] at hlen;rw[AZ (by simp[hlen])];have hc:∀c∈f.flat,c.fStr.length≤M∧BF .i64 c.fInt=true∧c.fN≤9223372036854775807:=λc hc=>hA.hc c (by rw[h1];simp[hc]);have hb:=KH hM h2 (by omega) hc;have hb0:=HT h2;have e1:(f.sh 0 Ob).fOutside=f.flat.any KK:=by rw[Qk];rfl
   have e2:(f.sh 0 Ob).fLong=f.flat.any Jv:=by rw[Nt];rfl
   have e3:(f.sh 0 Ob).fDepth=f.dep:=by rw[L6 f 0 Ob (by simp[Ob])];simp[Ob]
   have e4:(f.sh 0 Ob).fBytes=(f.txt true).length:=by
    rw[L7 f false none 0 Ob h2 (by simp[Ob]) (by simp[Ob];omega),HE f false none true h2,Nz h3];simp[Ob]
   simp only;rw[e1,e2,e3,e4,hlen];unfold Mc
   cases f.flat.any KK with
   | true=>rw[Bh rfl];rfl
   | false=>
    rw[AZ rfl];have a1:decide ((200:Int)<(f.flat.length:Int))=decide (200<f.flat.length):=by rw[AbN];simp;omega
    have a2:decide ((8:Int)<(f.dep:Int))=decide (8<f.dep):=by rw[AbN];simp;omega
    have a3:decide ((4000:Int)<((f.txt true).length:Int))=decide (4000<(f.txt true).length):=by rw[AbN];simp;omega
    rw[a1,a2,a3]
    cases(f.flat.any Jv||(decide (200<f.flat.length)||(decide (8<f.dep)||decide (4000<(f.txt true).length))))<;>rfl
 ·rw[hl,B7 rfl,hp];rfl
theorem QB {v:List Ac}{p:Int}{f:Fo}{ys:List Ac}(h1:f.one=true)(hw:f.wf false none=true)(hd:v.drop p.toNat=f.flat++ys):Jt v p=p+f.flat.length:=by
 unfold Jt;rw[hd,Yo h1 hw]
theorem Qa {c:Ac}(hp:pl c=true)(hn:decide (0<c.fN)=false):(Fo.cell none c .nil).wf false none=true:=by simp[Fo.wf,CO,hp,hn]
theorem PZ {c:Ac}{kids:Fo}(hp:pl c=true)(hn:0<c.fN)(hk:c.fN=kids.cnt)(hw:kids.wf (decide (c.fKind=6)) none=true):(Fo.node none c kids .nil).wf false none=true:=by simp[Fo.wf,CO,hp,hn,hk,hw];omega
section
variable {M : Nat} {v : List Ac}
theorem J0.next (hA:J0 M v){F:Nat}(hF:3*M+3<F){p:Int}(h0:0≤p)(h1:p≤v.length):DL F v p=some (Jt v p):=by
 have hM:=hA.hM;have hvM:=hA.hv;exact R4 (hA.rf (Aby M)) (λc hc=>(hA.hc c hc).2.2) (v.length-p.toNat) F p h0 h1 rfl (by omega)
theorem LC {F:Nat}{p:Int}{c:Ac}{r:List Ac}(h0:0≤p)(hpM:p≤1152921504606846976)(hd:v.drop p.toNat=c::r)(hp:pl c=true)(hn:decide (0<c.fN)=false):Dz (F+2) v p=some 1:=by
 obtain⟨g1,g2,g3⟩:=CF h0 hd;rw[Dz];unfold Iq;rw[BC h0 g3,D9 h0 hd]
 cases hk:(!decide (c.fKind=5)&&!decide (c.fKind=6)) with
 | true=>rw[Bh rfl]
 | false=>
  rw[AZ rfl,AW (by omega) (by omega),B7 (Ju (o:=.go 0) (by
   show Dn (F+1) v p _ 0 (p+1) 0=_;unfold Dn;rw[D9 h0 hd,AZ hn]))]
  simp only[BS,Ej];rw[AW (by omega) (by omega)];rfl
theorem P2 {F:Nat}{i:Int}{rec:List Ac→Int→Option Int}{most at_ x L:Int}{m:Bool}{p q:Int}{pc:Ac}(hpc:Ap v i=pc)(hm:decide (pc.fKind=6)=m)(hx:x<pc.fN)(hx0:0≤x)(hpcN:pc.fN≤9223372036854775807)
  (ha0:0≤at_) (haM:at_≤1152921504606846976) (hp:p=bif m then at_+1 else at_) (hr:rec v p=some L) (hq:DL F v p=some q):Dn F v i rec most at_ x=some (.next (max most L,q,x+1)):=by
 unfold Dn;rw[hpc,Bh (by simpa using hx),hm]
 cases m with
 | true=>
  simp only[Ab0] at hp;rw[Bh rfl,AW (by omega) (by omega),← hp,hr,B7 rfl]
  cases hl:decide (most<L) with
  | true=>rw[Bh rfl,hq,B7 rfl,AW (by omega) (by omega),Int.max_eq_right (by simp at hl;omega)]
  | false=>rw[AZ rfl,hq,B7 rfl,AW (by omega) (by omega),Int.max_eq_left (by simp at hl;omega)]
 | false=>
  simp only[Abu] at hp;rw[AZ rfl,← hp,hr,B7 rfl]
  cases hl:decide (most<L) with
  | true=>rw[Bh rfl,hq,B7 rfl,AW (by omega) (by omega),Int.max_eq_right (by simp at hl;omega)]
  | false=>rw[AZ rfl,hq,B7 rfl,AW (by omega) (by omega),Int.max_eq_left (by simp at hl;omega)]
theorem LY {m:Bool}{last key:Option Al}(h:CO m last key=true):((BM key).length:Int)=bif m then 1 else 0:=by
  cases key with
  | none=>
            have:m=false:=by simpa[CO] using h
            subst this;rfl
  | some s=>simp only[CO,Abv] at h;rw[h.1.1];rfl
theorem R5 (hA:J0 M v):∀(g:Fo) (F L:Nat) (i at_ x most:Int) (m:Bool) (last:Option Al) (ys:List Ac) (pc:Ac),Ap v i=pc→decide (pc.fKind=6)=m→pc.fN≤9223372036854775807→g.wf m last=true→v.drop at_.toNat=g.flat++ys→0≤at_→at_≤v.length→pc.fN=x+g.cnt→0≤x→0≤most→most≤1152921504606846976→g.cnt<L→3*M+5+g.flat.length<F→
  ∃o,Ci (λσ=>Dn F v i (Dz F) σ.1 σ.2.1 σ.2.2) L (most,at_,x)=some o∧BS (λν=>Ej ν) o=some (max most (g.dep:Int)+1):=by
 have hM:=hA.hM;have hvM:=hA.hv;have fin:∀(F L:Nat) (i at_ x most:Int) (pc:Ac),Ap v i=pc→pc.fN≤x→0≤most→most≤1152921504606846976→0<L→∃o,Ci (λσ=>Dn F v i (Dz F) σ.1 σ.2.1 σ.2.2) L (most,at_,x)=some o∧BS (λν=>Ej ν) o=some (most+1):=λF L i at_ x most pc hpc hx h0 hb hL=>by
  obtain⟨L,rfl⟩:∃K,L=K+1:=⟨L-1,by omega⟩
  refine⟨.go most,Ju (by show Dn F v i _ most at_ x=_;unfold Dn;rw[hpc,AZ (by simp;omega)]),?_⟩;simp only[BS,Ej];rw[AW (by omega) (by omega)]
 have depM:∀g:Fo,g.dep≤g.flat.length:=by
  intro g
  induction g with
  | nil=>simp[Fo.dep]
  | cell k c r ih=>simp[Fo.dep,Fo.flat];omega
  | node k c kids r ih1 ih2=>simp[Fo.dep,Fo.flat];omega
 intro g
 induction g with
 | nil=>
  intro F L i at_ x most m last ys pc hpc hm hpN hw hd h0 h1 hN hx hmo hmM hL hF;obtain⟨o,h1,h2⟩:=fin F L i at_ x most pc hpc (by simp[Fo.cnt] at hN;omega) hmo hmM (by omega);exact⟨o,h1,by rw[h2];simp only[Fo.dep];congr 2<;>omega⟩
 | cell k c r ih=>
  intro F L i at_ x most m last ys pc hpc hm hpN hw hd h0 h1 hN hx hmo hmM hL hF;simp only[Fo.wf,Abv,AbE] at hw;obtain⟨⟨⟨w1,w2⟩,w3⟩,w4⟩:=hw;simp only[Fo.flat,AbM,Ach] at hd;simp only[Fo.cnt] at hN hL;simp only[Fo.flat,Abr,AbB] at hF;obtain⟨L,rfl⟩:∃K,L=K+1:=⟨L-1,by omega⟩
  obtain⟨F,rfl⟩:∃K,F=K+2:=⟨F-2,by omega⟩
  have hd1:=CV h0 hd;have hkl:=LY w1;obtain⟨g1,g2,g3⟩:=CF (by omega) hd1;have hlen:at_+(BM k).length=bif m then at_+1 else at_:=by rw[hkl];cases m<;>simp
  have hq:=hA.next (F:=F+2) (by omega) (p:=at_+(BM k).length) (by omega) (by omega);rw[QB (f:=.cell none c .nil) (ys:=r.flat++ys) rfl (Qa w2 w3) hd1] at hq;have hb:=P2 (most:=most) (x:=x) hpc hm (by omega) hx hpN h0 (by omega) hlen (LC (F:=F) (by omega) (by omega) hd1 w2 w3) hq;have hdd:=depM r;obtain⟨o,ho1,ho2⟩:=ih (F+2) L i (at_+(BM k).length+((Fo.cell none c .nil).flat.length:Int)) (x+1) (max most 1) m k ys pc hpc hm hpN w4 (by rw[show(Fo.cell none c .nil).flat.length=1 from rfl];exact g2) (by omega) (by rw[show(Fo.cell none c .nil).flat.length=1 from rfl];omega) (by omega) (by omega) (by omega) (by omega) (by omega) (by omega);refine⟨o,MV hb ho1,?_⟩;rw[ho2,Fo.dep];congr 2<;>omega
 | node k c kids r ihk ih=>
  intro F L i at_ x most m last ys pc hpc hm hpN hw hd h0 h1 hN hx hmo hmM hL hF;simp only[Fo.wf,Abv,Abo] at hw;obtain⟨⟨⟨⟨⟨w1,w2⟩,w3⟩,w5⟩,w6⟩,w4⟩:=hw;simp only[Fo.flat,AbM,Ach] at hd;simp only[Fo.cnt] at hN hL;simp only[Fo.flat,Abr,AbB] at hF;obtain⟨L,rfl⟩:∃K,L=K+1:=⟨L-1,by omega⟩
  obtain⟨F,rfl⟩:∃K,F=K+1:=⟨F-1,by omega⟩
  have hd1:=CV h0 hd;have hkl:=LY w1;obtain⟨g1,g2,g3⟩:=CF (by omega) hd1;have hcN:=(hA.hc c (AbA g1)).2.2;have hlen:at_+(BM k).length=bif m then at_+1 else at_:=by rw[hkl];cases m<;>simp
  have hq:=hA.next (F:=F+1) (by omega) (p:=at_+(BM k).length) (by omega) (by omega);have hfl:(Fo.node none c kids .nil).flat=c::kids.flat:=by simp[Fo.flat,BM]
  rw[QB (f:=.node none c kids .nil) (ys:=r.flat++ys) rfl (PZ w2 w3 w5 w6) (by rw[hd1,hfl];simp)] at hq;have hdk:=depM kids;have hdd:=depM r;have hcf:=CK kids;have hvl:(v.drop (at_+(BM k).length+1).toNat).length=kids.flat.length+(r.flat.length+ys.length):=by rw[g2];simp
  rw[AbS] at hvl;have hrec:Dz (F+1) v (at_+(BM k).length)=some ((kids.dep:Int)+1):=by
   rw[Dz];unfold Iq;rw[BC (by omega) g3,D9 (by omega) hd1];have ha:=(IM w2 w3).1;rw[AZ (by simp;omega),AW (by omega) (by omega)];obtain⟨o,ho1,ho2⟩:=ihk F F (at_+(BM k).length) (at_+(BM k).length+1) 0 0 _ none (r.flat++ys) c (D9 (by omega) hd1) rfl hcN w6 (by rw[g2]) (by omega) (by omega) (by omega) (AbG 0) (AbG 0) (by omega) (by omega) (by omega);rw[B7 ho1,ho2];congr 2<;>omega
  have hb:=P2 (most:=most) (x:=x) hpc hm (by omega) hx hpN h0 (by omega) hlen hrec hq;obtain⟨o,ho1,ho2⟩:=ih (F+1) L i (at_+(BM k).length+((Fo.node none c kids .nil).flat.length:Int)) (x+1) (max most ((kids.dep:Int)+1)) m k ys pc hpc hm hpN w4 (by
   have:=CV (by omega) g2;rw[hfl,AbB,show at_+(BM k).length+((kids.flat.length+1:Nat):Int)=at_+(BM k).length+1+kids.flat.length from by omega];exact this) (by omega) (by rw[hfl,AbB];omega) (by omega) (by omega) (by omega) (by omega) (by omega) (by omega)
  refine⟨o,MV hb ho1,?_⟩;rw[ho2,Fo.dep];congr 2<;>omega
theorem SS (hA:J0 M v){F:Nat}{p:Int}{f:Fo}{ys:List Ac}(h0:0≤p)(h1:f.one=true)(hw:f.wf false none=true)(hd:v.drop p.toNat=f.flat++ys)(hF:3*M+6+f.flat.length<F):Dz F v p=some (f.dep:Int):=by
 have hM:=hA.hM;have hvM:=hA.hv
 cases f with
 | nil=>cases h1
 | cell k c r=>
  cases k with
  | some s=>cases h1
  | none=>
   cases r with
   | nil=>
    simp only[Fo.wf,Abv,AbE] at hw;obtain⟨F,rfl⟩:∃K,F=K+2:=⟨F-2,by omega⟩
    have hd':v.drop p.toNat=c::ys:=by simpa[Fo.flat,BM] using hd
    rw[LC h0 (by have:=(CF h0 hd').2.2;omega) hd' hw.1.1.2 hw.1.2];rfl
   | cell _ _ _=>cases h1
   | node _ _ _ _=>cases h1
 | node k c kids r=>
  cases k with
  | some s=>cases h1
  | none=>
   cases r with
   | nil=>
    simp only[Fo.wf,Abv,Abo] at hw;obtain⟨⟨⟨⟨⟨w1,w2⟩,w3⟩,w5⟩,w6⟩,w4⟩:=hw;have hd':v.drop p.toNat=c::(kids.flat++ys):=by simpa[Fo.flat,BM] using hd
    obtain⟨g1,g2,g3⟩:=CF h0 hd';have hcN:=(hA.hc c (AbA g1)).2.2;have hcf:=CK kids;simp only[Fo.flat,BM,Acb,AbZ,AbB] at hF;obtain⟨F,rfl⟩:∃K,F=K+1:=⟨F-1,by omega⟩
    rw[Dz];unfold Iq;have ha:=(IM w2 w3).1;rw[BC h0 g3,D9 h0 hd',AZ (by simp;omega),AW (by omega) (by omega)];obtain⟨o,ho1,ho2⟩:=R5 hA kids F F p (p+1) 0 0 _ none ys c (D9 h0 hd') rfl hcN w6 g2 (by omega) (by omega) (by omega) (AbG 0) (AbG 0) (by omega) (by omega) (by omega);rw[B7 ho1,ho2];simp only[Fo.dep];congr 1<;>omega
   | cell _ _ _=>cases h1
   | node _ _ _ _=>cases h1
end
def Nl (c:UInt8):Al:=bif (decide (c=34)||decide (c=92)) then[92,c] else[c]
theorem M7 {s:Al}{k:Nat}{c:UInt8}(h:s[k]? =some c):GF (s.take (k+1))=GF (s.take k)++Nl c:=by
 rw[List.take_add_one,h];simp[GF,List.flatMap_append,Nl]
theorem Sl (s:Al):(GF s).length≤3*s.length:=by
 rw[Mb];have h1:s.count 34≤s.length:=List.count_le_length;have h2:s.count 92≤s.length:=List.count_le_length;omega
theorem SO {s:Al}{x:Int}{c:UInt8}(h0:0≤x)(h:s[x.toNat]? =some c):List.take (Int.toNat (x+1)-Int.toNat x) (List.drop (Int.toNat x) s)=[c]:=by
 have hl:=(List.getElem?_eq_some_iff.1 h).1;have hc:=(List.getElem?_eq_some_iff.1 h).2;rw[show Int.toNat (x+1)-Int.toNat x=1 from by omega,List.drop_eq_getElem_cons hl,hc];rfl
theorem Zi {s:Al}{x:Int}{c:UInt8}(h:s[x.toNat]? =some c):decide (B1 s x=34)=decide (c=34):=by
 rw[N9 h,AbN,decide_eq_true_iff,decide_eq_true_iff,← UInt8.toNat_inj];show _↔c.toNat=34;omega
theorem Zh {s:Al}{x:Int}{c:UInt8}(h:s[x.toNat]? =some c):decide (B1 s x=92)=decide (c=92):=by
 rw[N9 h,AbN,decide_eq_true_iff,decide_eq_true_iff,← UInt8.toNat_inj];show _↔c.toNat=92;omega
theorem Qq {s out:Al}{x:Int}{c:UInt8}(h0:0≤x)(hx:x<(s.length:Int))(hs:s.length≤1152921504606846976)(ho:out.length≤3*s.length+1)(hc:s[x.toNat]? =some c):Dv s out x=some (.next (out++Nl c,x+1)):=by
 unfold Dv Nl;rw[Bh (Abt hx),BC h0 hx,Zi hc,Zh hc,SO h0 hc];have l1:(([92]:Al).length:Int)=1:=rfl;have l2:(([c]:Al).length:Int)=1:=rfl
 cases hq:(decide (c=34)||decide (c=92)) with
 | true=>
  have l3:((out++([92]:Al)).length:Int)=out.length+1:=by rw[Abr,AbP,Int.natCast_add];rfl
  rw[Bh rfl,l1,l2,l3,AW (by omega) (by omega),AW (by omega) (by omega),Gf (by omega) (by omega),Gf (by omega) (by omega),AW (by omega) (by omega),AbM];rfl
 | false=>
  rw[AZ rfl,l2,AW (by omega) (by omega),Gf (by omega) (by omega),Gf (by omega) (by omega),AW (by omega) (by omega)];rfl
theorem EY {R V:Type}(K:V→Option R)(v:V):BS K (.go v)=K v:=rfl
theorem RC {R V:Type}(K:V→Option R)(r:R):BS K (.ret r)=some r:=rfl
theorem R3 {s out:Al}{x:Int}(hx : ¬ x<(s.length:Int)):Dv s out x=some (.out (.go out)):=by
 unfold Dv;rw[AZ (Abs hx)]
theorem UI {out:Al}(h:out.length≤4611686018427387904):DR out=some (out++[34]):=by
 unfold DR;have l1:(([34]:Al).length:Int)=1:=rfl;rw[l1,AW (by omega) (by omega)]
theorem Li {F:Nat}{s:Al}(hF:s.length<F)(hs:s.length≤1152921504606846976):IJ F s=some (G6 s):=by
 obtain⟨o,h1,h2⟩:=Jb (body:=λσ=>Dv s σ.1 σ.2) (λσ=>0≤σ.2∧σ.2≤(s.length:Int)∧σ.1=34::GF (s.take σ.2.toNat)) (λσ=>s.length-σ.2.toNat)
  (λo=>BS (λν=>DR ν) o=some (G6 s)) (λσ ⟨h0,hl,ha⟩=>by
   obtain⟨out,x⟩:=σ;simp only at h0 hl ha;show(∃s',Dv s out x=_∧_)∨∃o,Dv s out x=_∧_;have hb:=Sl (s.take x.toNat);have hb2:(s.take x.toNat).length≤s.length:=by rw[AbY];omega
   have hol:out.length≤3*s.length+1:=by rw[ha,AbB];omega
   by_cases hx:x<(s.length:Int)
   ·obtain⟨c,hc⟩:∃c,s[x.toNat]? =some c:=⟨s[x.toNat]'(by omega),Abz (by omega)⟩
    have a1:0≤x+1:=by omega
    have a2:x+1≤s.length:=by omega
    have a3:s.length-(x+1).toNat<s.length-x.toNat:=by omega
    have a4:out++Nl c=34::GF (s.take (x+1).toNat):=by rw[show(x+1).toNat=x.toNat+1 from by omega,M7 hc,ha];rfl
    exact .inl ⟨(out++Nl c,x+1),Qq h0 hx hs hol hc,⟨a1,a2,a4⟩,a3⟩
   ·have e:x.toNat=s.length:=by omega
    have hk:DR out=some (out++[34]):=UI (by omega);have hf:out++[34]=G6 s:=by rw[ha,e,List.take_length];rfl
    exact .inr ⟨.go out,R3 hx,(EY (λν=>DR ν) out).trans (hk.trans (congrArg some hf))⟩) F ([34],0) ⟨AbG 0,by show(0:Int)≤s.length;omega,by show([34]:Al)=34::GF (s.take 0);simp[GF]⟩ (by show s.length-0<F;omega)
 unfold IJ;rw[B7 h1,h2]
section
variable {M : Nat} {v : List Ac}
theorem Aa9 (a b c d e:Al):(((a++b)++c)++d)++e=a++(b++(c++d)++e):=by simp
theorem AaA (a b c d:Al):((a++b)++c)++d=a++([]++(b++c)++d):=by simp
theorem AaB (a b c:Al):(a++b)++c=a++(b++[]++c):=by simp
theorem AaC (a b:Al):a++b=a++([]++[]++b):=by simp
theorem Y5 (a:Al)(c:UInt8):((a++[c]).length:Int)=a.length+1:=by rw[Abr,AbP,Int.natCast_add];rfl
theorem RU (a b:Al):((a++b).length:Int)=a.length+b.length:=by rw[Abr,Int.natCast_add]
theorem Py {F:Nat}{i:Int}{rec:List Ac→Int→Option Al}{out tx:Al}{at_ x:Int}{m:Bool}{p q:Int}{pc:Ac}{key:Option Al}{last:Option Al}(hpc:Ap v i=pc)(hm:decide (pc.fKind=6)=m)(hx:x<pc.fN)(hx0:0≤x)(hpcN:pc.fN≤9223372036854775807)
  (ha0:0≤at_) (haM:at_<v.length) (hvM:(v.length:Int)≤1152921504606846976) (hk:CO m last key=true) (hkey:∀s,key=some s→(Ap v at_).fStr=s∧s.length<F∧s.length≤1152921504606846976) (hp:p=bif m then at_+1 else at_) (hr:rec v p=some tx) (hq:DL F v p=some q)
  (hlen:((out++(Eg (decide (x=0))++J8 key++tx)).length:Int)≤4611686018427387904):Ei F v i rec out at_ x=some (.next (out++(Eg (decide (x=0))++J8 key++tx),q,x+1)):=by
 have hb:(([44]:Al).length:Int)=1:=rfl;have hd:(([58]:Al).length:Int)=1:=rfl;have hx1:Ba (BF .i64 (x+1)) (some (Stp.next (out++(Eg (decide (x=0))++J8 key++tx),q,x+1)):Option (Stp (Al×Int×Int) (Out Al Al)))=some (Stp.next (out++(Eg (decide (x=0))++J8 key++tx),q,x+1)):=AW (by omega) (by omega);unfold Ei;rw[hpc,Bh (Abt hx),hm]
 cases ha:decide (x=0) with
 | true=>
  rw[ha] at hx1 hlen;simp only[Abo] at ha;rw[AZ (Abs (by omega))]
  cases m with
  | true=>
   cases key with
   | none=>simp[CO] at hk
   | some s=>
    obtain⟨e1,e2,e3⟩:=hkey s rfl;simp only[Ab0] at hp;have e:((out++G6 s)++[58])++tx=out++(Eg true++J8 (some s)++tx):=AaA _ _ _ _;rw[← e] at hx1 hlen ⊢;have h1:=RU ((out++G6 s)++[58]) tx;have h2:=Y5 (out++G6 s) 58;have h3:=RU out (G6 s);rw[Bh rfl,BC ha0 haM,e1,Li e2 e3,B7 rfl,AW (by omega) (by omega),hd,AW (by omega) (by omega),AW (by omega) (by omega),← hp,hr,B7 rfl,AW (by omega) (by omega),hq,B7 rfl,hx1]
  | false=>
   cases key with
   | some s=>simp[CO] at hk
   | none=>
    simp only[Abu] at hp;have e:out++tx=out++(Eg true++J8 none++tx):=AaC _ _;rw[← e] at hx1 hlen ⊢;have h1:=RU out tx;rw[AZ rfl,← hp,hr,B7 rfl,AW (by omega) (by omega),hq,B7 rfl,hx1]
 | false=>
  rw[ha] at hx1 hlen;simp only[Abn] at ha;rw[Bh (Abt (by omega))]
  cases m with
  | true=>
   cases key with
   | none=>simp[CO] at hk
   | some s=>
    obtain⟨e1,e2,e3⟩:=hkey s rfl;simp only[Ab0] at hp;have e:(((out++[44])++G6 s)++[58])++tx=out++(Eg false++J8 (some s)++tx):=Aa9 _ _ _ _ _;rw[← e] at hx1 hlen ⊢;have h1:=RU (((out++[44])++G6 s)++[58]) tx;have h2:=Y5 ((out++[44])++G6 s) 58;have h3:=RU (out++[44]) (G6 s);have h4:=Y5 out 44;rw[hb,AW (by omega) (by omega),Bh rfl,BC ha0 haM,e1,Li e2 e3,B7 rfl,AW (by omega) (by omega),hd,AW (by omega) (by omega),AW (by omega) (by omega),← hp,hr,B7 rfl,AW (by omega) (by omega),hq,B7 rfl,hx1]
  | false=>
   cases key with
   | some s=>simp[CO] at hk
   | none=>
    simp only[Abu] at hp;have e:(out++[44])++tx=out++(Eg false++J8 none++tx):=AaB _ _ _;rw[← e] at hx1 hlen ⊢;have h1:=RU (out++[44]) tx;have h4:=Y5 out 44;rw[hb,AW (by omega) (by omega),AZ rfl,← hp,hr,B7 rfl,AW (by omega) (by omega),hq,B7 rfl,hx1]
theorem TG {i:Int}{pc:Ac}{out:Al}(hpc:Ap v i=pc)(h:out.length≤4611686018427387904):Hq v i out=some (OU pc out):=by
 unfold Hq OU;have l1:(([123]:Al).length:Int)=1:=rfl;have l2:(([91]:Al).length:Int)=1:=rfl;have l3:(([125]:Al).length:Int)=1:=rfl;have l4:(([93]:Al).length:Int)=1:=rfl;have h1:=RU [123] out;have h2:=RU [91] out;rw[hpc]
 cases hk:decide (pc.fKind=6) with
 | true=>rw[Bh rfl,AW (by omega) (by omega),AW (by omega) (by omega)];rfl
 | false=>rw[AZ rfl,AW (by omega) (by omega),AW (by omega) (by omega)];rfl
theorem Of {F:Nat}{p:Int}{c:Ac}{r:List Ac}(h0:0≤p)(hpM:p≤1152921504606846976)(hd:v.drop p.toNat=c::r)(hp:pl c=true)(hn:decide (0<c.fN)=false)(hs:c.fStr.length<F+1)(hs2:c.fStr.length≤1152921504606846976)(hi:BF .i64 c.fInt=true):G4 (F+2) v p=some (Gb c):=by
 obtain⟨g1,g2,g3⟩:=CF h0 hd;rw[G4];unfold Mo Gb;rw[BC h0 g3,D9 h0 hd]
 cases k1:decide (c.fKind=1) with
 | true=>rw[Bh rfl];rfl
 | false=>
 rw[AZ rfl]
 cases k2:decide (c.fKind=2) with
 | true=>rw[Bh rfl];cases decide (c.fInt=1)<;>rfl
 | false=>
 rw[AZ rfl]
 cases k3:decide (c.fKind=3) with
 | true=>rw[Bh rfl,Da hi];rfl
 | false=>
 rw[AZ rfl]
 cases k4:decide (c.fKind=4) with
 | true=>rw[Bh rfl,Li hs hs2,B7 rfl];rfl
 | false=>
 have hgo:Ei (F+1) v p (G4 (F+1)) [] (p+1) 0=some (.out (.go [])):=by
  unfold Ei;rw[D9 h0 hd,AZ hn]
 rw[AZ rfl,AW (by omega) (by omega),B7 (Ju (o:=.go []) hgo),EY,TG (D9 h0 hd) (by simp)];simp only[Abu,OU]
 cases decide (c.fKind=6)<;>rfl
end
end Go.Proofs.YtfobhhegpkinaaaGreatDoor
