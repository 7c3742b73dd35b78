/-
  Texts of the proof, put together: WNc, PNd, WNd, OkEntityCodes, LvA, LvB, LvC, LvD, LvE, LvF, LvG, LvH, LvI, LvJ, LvK, LvL, LvM, LvN, LdA, LdB, LdC, LdD, LdE.
-/
import Derived.Test.YtogdediiodmnbaaGreatDoorEC4
import GoSem.ClaimData
namespace Go.Proofs.YtogdediiodmnbaaGreatDoor.Q
open Go Go.RowKit
set_option linter.unusedVariables false
set_option linter.unusedSimpArgs false
set_option maxRecDepth 100000
set_option maxHeartbeats 4000000
@[reducible] def Aw (kc:Nat) (x:A9):(Value→List Rp)×List (List Rp):=(λr=>[AX 4 (A1 Ac x.fState),rv r,Ak x.fDone],A1 (eP kc) x.fCalls)
theorem WV:∃inf,Tryz.prog.info? 94=some inf∧inf.zero=some (.pointer none)∧inf.size=1∧inf.bytes=8:=by
  have key:(Tryz.prog.info? 94).map (λi=>(i.zero,i.size,i.bytes))=some (some (.pointer none),1,8):=by kernel_rfl
  obtain⟨inf,h1,h2⟩:=Option.map_eq_some_iff.1 key;simp only[Prod.mk.injEq] at h2;exact⟨inf,h1,h2.1,h2.2.1,h2.2.2⟩
theorem YP (parts:List (Nat×Value)):Tryz.prog.built 68 parts=Instr.fill (λi=>(#[(0,1),(1,1),(2,1)]:Array (Nat×Nat))[i]?) #[(.int .i64 0),((.map none)),((.map none))] parts:=by kernel_rfl
theorem OK {n:Nat}{c:Cx}{l:Fr}{H:List Ent}{d:Option Nat}{ty:TypeId}{pos:String}{af:Array Edge}{g:Option (Nat×Bool)}{x1:Operand}{r1:Rp}(h1:ev l x1=some r1)(u1:r1.one=true){x2:Operand}{r2:Rp}(h2:ev l x2=some r2)(u2:r2.one=true):B1 Tryz.prog n c l H { dst:=d,op:=.build 68 #[(1,x1),(2,x2)],type:=ty,pos:=pos,after:=af,guard:=g } (Bq [Ak 0,r1,r2]):=λa w Z ha _=>by
  have p1:=ha.ev h1;have c1:=BM (r1.hone u1 Z _ p1);have p2:=ha.ev h2;have c2:=BM (r2.hone u2 Z _ p2);have hb:Tryz.prog.built 68 [(1,a.eval x1),(2,a.eval x2)]=some #[(.int .i64 0),a.eval x1,a.eval x2]:=by
    rw[YP];generalize a.eval x1=v1 at *;generalize a.eval x2=v2 at *;simp[Instr.fill,c1,c2]
  refine⟨.agg #[(.int .i64 0),a.eval x1,a.eval x2],⟨[(.int .i64 0),a.eval x1,a.eval x2],rfl,rfl,p1,p2,trivial⟩,?_⟩;have:=run_build w 68 #[(1,a.eval x1),(2,a.eval x2)] _ (by simpa using hb);simp[execOp,this]
theorem YO (parts:List (Nat×Value)):Tryz.prog.built 93 parts=Instr.fill (λi=>(#[(0,1),(1,1),(2,1)]:Array (Nat×Nat))[i]?) #[((.slice none 0 0)),((.slice none 0 0)),(.int .i64 0)] parts:=by kernel_rfl
theorem Rs {n:Nat}{c:Cx}{l:Fr}{H:List Ent}{d:Option Nat}{ty:TypeId}{pos:String}{af:Array Edge}{g:Option (Nat×Bool)}{x0:Operand}{r0:Rp}(h0:ev l x0=some r0)(u0:r0.one=true):B1 Tryz.prog n c l H { dst:=d,op:=.build 93 #[(0,x0)],type:=ty,pos:=pos,after:=af,guard:=g } (Bq [r0,rv (.slice none 0 0),Ak 0]):=λa w Z ha _=>by
  have p0:=ha.ev h0;have c0:=BM (r0.hone u0 Z _ p0);have hb:Tryz.prog.built 93 [(0,a.eval x0)]=some #[a.eval x0,((.slice none 0 0)),(.int .i64 0)]:=by
    rw[YO];generalize a.eval x0=v0 at *;simp[Instr.fill,c0]
  refine⟨.agg #[a.eval x0,((.slice none 0 0)),(.int .i64 0)],⟨[a.eval x0,((.slice none 0 0)),(.int .i64 0)],rfl,p0,rfl,rfl,trivial⟩,?_⟩;have:=run_build w 93 #[(0,a.eval x0)] _ (by simpa using hb);simp[execOp,this]
theorem Z5  (r:(Bf×(List A9)×(List AV)))(h:Z6=some r):Fn Tryz.prog GE 18 [] [] (λR H=>∃u0:Nat,∃u0_1:Nat,∃u0_2:Nat,∃u0_p1:Value,∃u0_p2:Value,R=rP u0 0∧H=[.blk u0 [Ak r.1.fNow,rv (.map (some u0_1)),rv (.map (some u0_2))] 68,.map u0_1 (Ba (mP u0_1) r.1.fEntities),.map u0_2 (Ba (mP u0_2) r.1.fCalls),.poolw u0_1 u0_p1 93 94 1 (A1 (Aw u0_2) r.2.1) none,.pool u0_2 u0_p2 44 (A1 A5 r.2.2)]):=by
 refine enter (n:=5) Tryz.func18 Aa Tryz.ntmps18 Aa (λw Z=>?_);unfold Z6 at h;refine Af (wa Aa (Bs (Na (e:=93) (re:=94) (rz:=1) Aa (λb1=>?_))));refine N6 (e:=44) Aa (λb2=>?_);refine wv (r:=Bq [Ak 0,rv (.map (some b1)),rv (.map (some b2))]) (OK Aa Aa Aa Aa) (Ci Aa Aa (λb3=>?_));refine wa Aa (Ao (As (BO (H2:=[.blk b3 [Ak 0,rv (.map (some b1)),rv (.map (some b2))] 68,.map b1 (Ba (mP b1) ([]:List (Ae×Int))),.map b2 (Ba (mP b2) ([]:List (Ae×Int))),.poolw b1 (.tuple #[]) 93 94 1 (A1 (Aw b2) ([]:List A9)) none,.pool b2 (.tuple #[]) 44 (A1 A5 ([]:List AV))]) ((Al (i:=0) Aa).trans (Abe _ ((Al (i:=3) Aa).trans (Abe _ ((Al (i:=1) Aa).trans (Abe _ ((Al (i:=1) Aa).trans (Abe _ (Abg _))))))))) ?_)));obtain rfl:=At h;exact Ar (BY Tryz.results18 (AB Aa)) (sC (sC (sC (sC (sC sN))))) ⟨b3,b1,b2,(.tuple #[]),(.tuple #[]),Aa,Aa⟩
theorem LD (ha:Nat)(hb:Nat)(hd:Nat)(d:Bf)(r:Bool)(h:Zg d=some r):Fn Tryz.prog GE 51 [rP ha 0] [.blk ha [Ak d.fNow,rv (.map (some hb)),rv (.map (some hd))] 68] (λR H=>R=rB r∧H=[.blk ha [Ak d.fNow,rv (.map (some hb)),rv (.map (some hd))] 68]):=by
 refine enter (n:=12) Tryz.func51 Aa Tryz.ntmps51 Aa (λw Z=>?_);unfold Zg at h;refine Af (wa Aa (Ao (AG [(2,rB true)] [.blk ha [Ak d.fNow,rv (.map (some hb)),rv (.map (some hd))] 68] ?_ ?_)))
 ·refine Ah (wm Aa (wv (r:=rB true) (UH ⟨_,Tryz.underlying41⟩ Aa) (wm Aa (Bp (b:=true) Aa Aa Aa (wm Aa (Bp (b:=true) Aa Aa Aa (wv (A4 Aa) (Bp (b:=true) Aa Aa Aa (vF J2 Aa Q2 (Bp (b:=true) Aa Aa Aa (vL 0 Q9 Aa (Bp (b:=true) Aa Aa Aa (wv (r:=rB true) (UI (v:=some hb) RX Aa) (wv (r:=rB true) (Ax (b:=true) Aa Aa Aa) (wa Aa (Aj ?_))))))))))))))));exact wt
 refine As ?_;obtain rfl:=At h;exact Ar (BY Tryz.results51 (AB Aa)) (sC sN) ⟨Aa,Aa⟩
theorem Mq (F:Nat)(hd:Nat)(hb:Nat)(ha:Nat)(hi:Value)(hh:Value)(d:Bf)(d_p1:(List A9))(d_p2:(List AV))(op:A0)(now:Int)(r:Int×Bf×(List A9)×(List AV))(h:LB F d d_p1 d_p2 op now=some r):Fn Tryz.prog GE 20 [rP hd 0,Bq (Ay op),Ak now] [.blk hd [Ak d.fNow,rv (.map (some hb)),rv (.map (some ha))] 68,.map hb (Ba (mP hb) d.fEntities),.map ha (Ba (mP ha) d.fCalls),.poolw hb hi 93 94 1 (A1 (Aw ha) d_p1) none,.pool ha hh 44 (A1 A5 d_p2)] (λR H=>∃w0_p1:Value,∃w0_p2:Value,R=Ak r.1∧H=[.blk hd [Ak r.2.1.fNow,rv (.map (some hb)),rv (.map (some ha))] 68,.map hb (Ba (mP hb) r.2.1.fEntities),.map ha (Ba (mP ha) r.2.1.fCalls),.poolw hb w0_p1 93 94 1 (A1 (Aw ha) r.2.2.1) none,.pool ha w0_p2 44 (A1 A5 r.2.2.2)]):=by
 refine enter (n:=121) Tryz.func20 Aa Tryz.ntmps20 Aa (λw Z=>?_);unfold LB at h;refine Af (Ci Aa Aa (λb1=>?_));refine wa Aa (Ao (Ai (Af (wm Aa (GX (Hr:=[.blk b1 (Ay op) 25,.map hb (Ba (mP hb) d.fEntities),.map ha (Ba (mP ha) d.fCalls),.poolw hb hi 93 94 1 (A1 (Aw ha) d_p1) none,.pool ha hh 44 (A1 A5 d_p2)]) V8 (LD hd hb ha d true Aa) Aa ((Al (i:=1) Aa).trans (Abe _ (Abg _))) Aa ?_)))));rintro _ _ ⟨rfl,rfl⟩;refine wv (BW Aa) (Ao (EB Aa (EH Aa) (Ap (AJ (Ai (Af (wv (Bw (i:=1) Em C6 Aa Aa Aa Aa) (ob h λr2 e4 h3=>Cn Tryz.call43 (LG F op r2 e4) Aa (wa Aa (Bs (wm Aa (wv (CR Aa Aa) (Ao (cz h3 Aa (λc5 h6=>?_) (λc5 h7=>?_)))))))))))))))
 ·refine Af (wm Aa (wa Aa (Ao (As (Ad ?_)))));obtain rfl:=At h6;exact Ar (BY Q5 (AB Aa)) (sC (sS (sC (sC (sC (sC sN)))))) ⟨hi,hh,Aa,Aa⟩
 ·refine Ap (AJ (Ai (AG [(0,rP hd 0),(2,Ak now),(4,rP b1 0),(26,rB ((decide (now<0))||(decide (1073741824<now))))] [.blk hd [Ak d.fNow,rv (.map (some hb)),rv (.map (some ha))] 68,.blk b1 (Ay op) 25,.map hb (Ba (mP hb) d.fEntities),.map ha (Ba (mP ha) d.fCalls),.poolw hb hi 93 94 1 (A1 (Aw ha) d_p1) none,.pool ha hh 44 (A1 A5 d_p2)] ?_ ?_)))
  ·refine Ah (wm Aa (wv (Ch Aa Aa) (wm Aa (AO (decide (now<0)) (λc8=>?_) (λc8=>?_)))))
   ·refine wf c8 (wf c8 (wv (r:=rB true) (Ax Aa c8 Aa) (Aj ?_)));exact Cc c8
   ·refine wo c8 (wm Aa (wo c8 (wv (Cv Aa Aa) (Ea Aa c8 Aa (Aj ?_)))));exact Cc c8
  refine cz h7 Aa (λc9 h2=>?_) (λc9 h4=>?_)
  ·refine Af (wa Aa (Ao (As (Ad ?_))));obtain rfl:=At h2;exact Ar (BY Q5 (AB Aa)) (sC (sS (sC (sC (sC (sC sN)))))) ⟨hi,hh,Aa,Aa⟩
  ·refine Ap (AJ (Ai (Af (wm Aa (wm Aa (wv (A4 Aa) (vF J2 Aa Ct (vL 0 Dm Aa (wv (Ch Aa Aa) (Ao (cz h4 Aa (λh5 h8=>?_) (λh5 h9=>?_))))))))))))
   ·refine Af (wa Aa (Ao (As (Ad ?_))));obtain rfl:=At h8;exact Ar (BY Q5 (AB Aa)) (sC (sS (sC (sC (sC (sC sN)))))) ⟨hi,hh,Aa,Aa⟩
   ·refine Ap (AJ (Ai (Ai (Df [0,2,4] [⟨[],rP hd 0,0⟩,⟨[0],rP hd 0,0⟩,⟨[1],rP hd 2,0⟩,⟨[2],rv (.map (some ha)),1⟩,⟨[],rP b1 1,0⟩,⟨[4],rS op.fID,1⟩,⟨[3,5],Cs [HZ ha (AN d.fCalls op.fID (-1)) 0,rB (C2 d.fCalls op.fID)],1⟩,⟨[6],Cs [HZ ha (AN d.fCalls op.fID (-1)) 0,rB (C2 d.fCalls op.fID)],0⟩,⟨[7],HZ ha (AN d.fCalls op.fID (-1)) 0,0⟩,⟨[7],rB (C2 d.fCalls op.fID),0⟩,⟨[8],HZ ha (AN d.fCalls op.fID (-1)) 0,0⟩,⟨[9],rB (C2 d.fCalls op.fID),0⟩] [8,9,0,2,4] ?_ ?_))))
    ·refine oq (Aq Aa) (oq (A4 Aa) (oq (AC J2 Aa XM Aa Aa) (of (Bj (i:=0) XS Aa Aa Aa) (oq (AC Cw Aa CG Aa Aa) (of (Bj (i:=1) CV Aa Aa Aa) (of (Kh (enc:=(mP ha)) (xs:=d.fCalls) (z:=(-1)) (i:=3) XI BZ Zr (WE ha) Aa Aa Aa) (oq (Aq Aa) (oq (AA Aa Aa) (oq (AA Aa Aa) (oq (Av Aa) (oq (Av Aa) ?_)))))))))));exact CE
    refine AJ (Af (wm Aa (Ao (cz h9 Aa (λhA hB=>?_) (λhA hC=>?_)))))
    ·refine Ai (Ai (ck hB λg17 hD=>ck hD λg19 hE=>CK 5 [0,2,4,8] [⟨[],HZ ha (AN d.fCalls op.fID (-1)) 0,none,none,none⟩,⟨[0],HZ ha (AN d.fCalls op.fID (-1)) 0,none,none,none⟩,⟨[1],HZ ha (AN d.fCalls op.fID (-1)) 0,none,none,none⟩,⟨[2],Bq (Ay ((Am d_p2 (AN d.fCalls op.fID (-1))).fOp)),none,none,none⟩,⟨[],Bq (Ay op),none,none,none⟩] ?_ (λβ=>?_)))
     ·refine Cu (Aq Aa) (Cu (EG Aa g17) (Cu (PQ Ma Aa C6 Aa g17 Aa) (KT (Ki (enc:=A5) (xs:=d_p2) (j:=5) Em C6 Aa Aa g19 Aa Aa) (KT (Bw (i:=1) Em C6 Aa Aa Aa Aa) ?_))));exact O6
     refine Dp (H1:=[.blk hd [Ak d.fNow,rv (.map (some hb)),rv (.map (some ha))] 68,.blk b1 (Ay op) 25,.map hb (Ba (mP hb) d.fEntities),.map ha (Ba (mP ha) d.fCalls),.poolw hb hi 93 94 1 (A1 (Aw ha) d_p1) none,.pool ha hh 44 (A1 A5 d_p2)]) [44,45,46,47,48,0,2,4,8] ?_;refine ob hE λhG hH hI=>Cn Tryz.call53 (Yv F ((Am d_p2 (AN d.fCalls op.fID (-1))).fOp) op hG hH) Aa (wv (BW Aa) (Ao (cz hI Aa (λhJ hK=>?_) (λhJ hL=>?_))))
     ·refine Af (wa Aa (Ao (As (Ad (Ad ?_)))));obtain rfl:=At hK;exact Ar (BY Q5 (AB Aa)) (sC (sS (sC (sC (sC (sC sN)))))) ⟨hi,hh,Aa,Aa⟩
     ·refine Ap (AJ (Af (wm Aa (wm Aa (wv (A4 Aa) (vF J2 Aa Ct (BC (i:=0) Ct Aa Aa (Cl Aa) Aa Aa (cs':=[Ak now,rv (.map (some hb)),rv (.map (some ha))]) Aa (H':=[.blk hd [Ak now,rv (.map (some hb)),rv (.map (some ha))] 68,.blk b1 (Ay op) 25,.map hb (Ba (mP hb) d.fEntities),.map ha (Ba (mP ha) d.fCalls),.poolw hb hi 93 94 1 (A1 (Aw ha) d_p1) none,.pool ha hh 44 (A1 A5 d_p2)]) Aa (Bs (wa Aa (Ao (As (Ad ?_))))))))))));obtain rfl:=At hL;exact Ar (BY Q5 (AB Aa)) (sC (sS (sC (sC (sC (sC sN)))))) ⟨hi,hh,Aa,Aa⟩
    ·refine Ap (AJ (Ai (Df [0,2,4] [⟨[],rP hd 0,0⟩,⟨[0],rP hd 0,0⟩,⟨[1],rP hd 1,0⟩,⟨[2],rv (.map (some hb)),1⟩,⟨[],rP b1 0,0⟩,⟨[4],rS op.fEntity,1⟩,⟨[3,5],Cs [HZ hb (AN d.fEntities op.fEntity (-1)) 0,rB (C2 d.fEntities op.fEntity)],1⟩,⟨[6],Cs [HZ hb (AN d.fEntities op.fEntity (-1)) 0,rB (C2 d.fEntities op.fEntity)],0⟩,⟨[7],HZ hb (AN d.fEntities op.fEntity (-1)) 0,0⟩,⟨[7],rB (C2 d.fEntities op.fEntity),0⟩,⟨[8],HZ hb (AN d.fEntities op.fEntity (-1)) 0,0⟩,⟨[9],rB (C2 d.fEntities op.fEntity),0⟩] [10,11,0,2,4] ?_ ?_)))
     ·refine oq (Aq Aa) (oq (A4 Aa) (oq (AC J2 Aa Q2 Aa Aa) (of (Bj (i:=0) Q9 Aa Aa Aa) (oq (AC Cw Aa CG Aa Aa) (of (Bj (i:=1) CV Aa Aa Aa) (of (Kh (enc:=(mP hb)) (xs:=d.fEntities) (z:=(-1)) (i:=2) RX BZ XG (WE hb) Aa Aa Aa) (oq (Aq Aa) (oq (AA Aa Aa) (oq (AA Aa Aa) (oq (Av Aa) (oq (Av Aa) ?_)))))))))));exact CE
     refine AJ (Ai (AG [(0,rP hd 0),(2,Ak now),(4,rP b1 0),(10,HZ hb (AN d.fEntities op.fEntity (-1)) 0),(11,rB (C2 d.fEntities op.fEntity)),(82,rB ((decide ((d.fCalls.length:Int)=256))||((!(C2 d.fEntities op.fEntity))&&(decide ((d.fEntities.length:Int)=256)))))] [.blk hd [Ak d.fNow,rv (.map (some hb)),rv (.map (some ha))] 68,.blk b1 (Ay op) 25,.map hb (Ba (mP hb) d.fEntities),.map ha (Ba (mP ha) d.fCalls),.poolw hb hi 93 94 1 (A1 (Aw ha) d_p1) none,.pool ha hh 44 (A1 A5 d_p2)] ?_ ?_))
     ·refine Ah (wm Aa (wv (A4 Aa) (vF J2 Aa XM (vL 0 XS Aa (wv (r:=Ak (d.fCalls.length:Int)) (Ww (N:=d.fCalls.length) (i:=3) XI Aa Aa (JL _ _)) (wv (BE Aa Aa) (wm Aa (AO (decide ((d.fCalls.length:Int)=256)) (λhk=>?_) (λhk=>?_)))))))))
      ·refine wf hk (wf hk (wf hk (wu (wu (wu (wu (wu (wu (wf hk (wv (r:=rB true) (Ax Aa hk Aa) (Aj ?_)))))))))));exact Cc hk
      ·refine wo hk (wm Aa (wo hk (wv (BW Aa) (wo hk (wm Aa (AO (!(C2 d.fEntities op.fEntity)) (λhj=>?_) (λhj=>?_)))))))
       ·refine wo hj (wm Aa (wo hj (wv (A4 Aa) (wo hj (vF J2 Aa Q2 (wo hj (vL 0 Q9 Aa (wo hj (wv (r:=Ak (d.fEntities.length:Int)) (Ww (N:=d.fEntities.length) (i:=2) RX Aa Aa (JL _ _)) (wo hj (wv (BE Aa Aa) (wo hk (En Aa hj Aa (Ea Aa hk Aa (Aj ?_)))))))))))))));exact Cc (And.intro hk hj)
       ·refine wf hj (wf hj (wf hj (wf hj (wf hj (wf hj (wo hk (wv (r:=rB false) (A7 Aa hj Aa) (Ea Aa hk Aa (Aj ?_)))))))));exact Cc (And.intro hk hj)
     refine cz hC Aa (λhN hO=>?_) (λhN hP=>?_)
     ·refine Af (wa Aa (Ao (As (Ad ?_))));obtain rfl:=At hO;exact Ar (BY Q5 (AB Aa)) (sC (sS (sC (sC (sC (sC sN)))))) ⟨hi,hh,Aa,Aa⟩
     ·refine Ap (AJ (Ai (Af (wm Aa (wv (BW Aa) (Ao (cz hP Aa (λhQ hR=>?_) (λhQ hS=>?_))))))))
      ·refine Af (ob hR λhe hT hU=>Cn Tryz.call54 (P7 he hT) Aa (wv (r:=Bq [AX 4 (A1 Ac he),rv (.slice none 0 0),Ak 0]) (Rs Aa Aa) (Ci Aa Aa (λhw=>?_))));refine wa Aa (Ao (CK 7 [0,2,4,10] [⟨[],rP hd 0,none,none,none⟩,⟨[0],rP hd 0,none,none,none⟩,⟨[1],rP hd 1,none,none,none⟩,⟨[2],rv (.map (some hb)),none,none,none⟩,⟨[],rP b1 0,none,none,none⟩,⟨[4],rS op.fEntity,none,none,none⟩,⟨[],rP hw 0,none,none,none⟩] ?_ (λβ=>?_)))
       ·refine Cu (Aq Aa) (Cu (A4 Aa) (Cu (AC J2 Aa Q2 Aa Aa) (KT (Bj (i:=1) Q9 Aa Aa Aa) (Cu (AC Cw Aa CG Aa Aa) (KT (Bj (i:=2) CV Aa Aa Aa) (Cu (Aq Aa) ?_))))));exact O6
       refine Dp (H1:=[.blk hw [AX 4 (A1 Ac he),rv (.slice none 0 0),Ak 0] 93,.blk hd [Ak d.fNow,rv (.map (some hb)),rv (.map (some ha))] 68,.blk b1 (Ay op) 25,.map hb (Ba (mP hb) d.fEntities),.map ha (Ba (mP ha) d.fCalls),.poolw hb hi 93 94 1 (A1 (Aw ha) d_p1) none,.pool ha hh 44 (A1 A5 d_p2)]) [88,89,90,91,92,93,94,0,2,4,10] ?_;refine WL.nilrow (e:=94) (sz:=1) (WL.adoptW (encw:=(Aw ha)) (xs:=d_p1) (y:=(A9.mk he ([]:List Int) 0)) (Hr:=[.blk hd [Ak d.fNow,rv (.map (some hb)),rv (.map (some ha))] 68,.blk b1 (Ay op) 25,.map hb (Ba (mP hb) d.fEntities),.map ha (Ba (mP ha) d.fCalls),.pool ha hh 44 (A1 A5 d_p2)]) ((Al (i:=1) Aa).trans (Abe _ ((Al (i:=0) Aa).trans (Abe _ ((Al (i:=4) Aa).trans (Abe _ (Abg _))))))) [10,94] ⟨Aa,Aa,trivial⟩ Aa Aa (λhp=>?_));refine Nl (enc:=(mP hb)) (xs:=d.fEntities) (v:=(d_p1.length:Int)) (i:=3) RX BZ Aa Aa Aa Aa (H':=[.poolw hb hp 93 94 1 (A1 (Aw ha) (d_p1++[(A9.mk he ([]:List Int) 0)])) none,.blk hd [Ak d.fNow,rv (.map (some hb)),rv (.map (some ha))] 68,.blk b1 (Ay op) 25,.map hb (Ba (mP hb) (By d.fEntities op.fEntity (d_p1.length:Int))),.map ha (Ba (mP ha) d.fCalls),.pool ha hh 44 (A1 A5 d_p2)]) Aa (Bs (wm Aa (wm Aa (wv (A4 Aa) (vF J2 Aa Ct (BC (i:=1) Ct Aa Aa (Cl Aa) Aa Aa (cs':=[Ak now,rv (.map (some hb)),rv (.map (some ha))]) Aa (H':=[.poolw hb hp 93 94 1 (A1 (Aw ha) (d_p1++[(A9.mk he ([]:List Int) 0)])) none,.blk hd [Ak now,rv (.map (some hb)),rv (.map (some ha))] 68,.blk b1 (Ay op) 25,.map hb (Ba (mP hb) (By d.fEntities op.fEntity (d_p1.length:Int))),.map ha (Ba (mP ha) d.fCalls),.pool ha hh 44 (A1 A5 d_p2)]) Aa (Bs (wv (Bw (i:=2) Em C6 Aa Aa Aa Aa) (ob hU λhf hV hW=>Cn Tryz.call55 (Oa F op hf hV) Aa (wm Aa (wv (r:=Bq [rS hf.fEntity,rS hf.fID,rS hf.fOp,AX 1 (A1 An hf.fArgs),Ak 0,rv (.slice none 0 0),Ak now,Ak (-1)]) (Jx Aa Aa Aa Aa Aa) (Ci Aa Aa (λhx=>?_)))))))))))));refine wa Aa (Bs (wm Aa (wm Aa (ck hW λhy hX=>WL.takeout (encw:=(Aw ha)) (xs:=d_p1++[(A9.mk he ([]:List Int) 0)]) (i:=(d_p1.length:Int)) (Hr:=[.blk hx [rS hf.fEntity,rS hf.fID,rS hf.fOp,AX 1 (A1 An hf.fArgs),Ak 0,rv (.slice none 0 0),Ak now,Ak (-1)] 44,.blk hd [Ak now,rv (.map (some hb)),rv (.map (some ha))] 68,.blk b1 (Ay op) 25,.map hb (Ba (mP hb) (By d.fEntities op.fEntity (d_p1.length:Int))),.map ha (Ba (mP ha) d.fCalls),.pool ha hh 44 (A1 A5 d_p2)]) ((Al (i:=1) Aa).trans (Abe _ (Abg _))) hy [10,94,104,105] ⟨Aa,Aa,Aa,Aa,trivial⟩ (λhl hn=>?_)))));refine P3 (H':=[.blk hl [AX 4 (A1 Ac ((Am (d_p1++[(A9.mk he ([]:List Int) 0)]) (d_p1.length:Int)).fState)),rv hn,Ak ((Am (d_p1++[(A9.mk he ([]:List Int) 0)]) (d_p1.length:Int)).fDone)] 93,.row hn 94 1 (A1 (eP ha) ((Am (d_p1++[(A9.mk he ([]:List Int) 0)]) (d_p1.length:Int)).fCalls)),.poolw hb hp 93 94 1 (A1 (Aw ha) (d_p1++[(A9.mk he ([]:List Int) 0)])) (some (B6 (d_p1.length:Int),(hl,hn))),.blk hx [rS hf.fEntity,rS hf.fID,rS hf.fOp,AX 1 (A1 An hf.fArgs),Ak 0,rv (.slice none 0 0),Ak now,Ak (-1)] 44,.blk hd [Ak now,rv (.map (some hb)),rv (.map (some ha))] 68,.blk b1 (Ay op) 25,.map hb (Ba (mP hb) (By d.fEntities op.fEntity (d_p1.length:Int))),.map ha (Ba (mP ha) d.fCalls),.pool ha hh 44 (A1 A5 d_p2)]) Aa (wv (A4 Aa) (vF Lg Aa P2 (vL 0 V9 Aa (wm Aa (WL.upBlk (i:=3) (cs':=[rS hf.fEntity,rS hf.fID,rS hf.fOp,AX 1 (A1 An hf.fArgs),Ak 0,AX 4 (A1 Ac ([]:List Ab)),Ak now,Ak (-1)]) Aa ⟨Up.refl _,Up.refl _,Up.refl _,Up.refl _,Up.refl _,Up.le (DZ.nil _),Up.refl _,Up.refl _,trivial⟩ (WL.adopt (enc:=A5) (xs:=d_p2) (y:=(AV.mk hf (Bk.mk 0 ([]:List Ab)) now (-1))) (Hr:=[.blk hl [AX 4 (A1 Ac ((Am (d_p1++[(A9.mk he ([]:List Int) 0)]) (d_p1.length:Int)).fState)),rv hn,Ak ((Am (d_p1++[(A9.mk he ([]:List Int) 0)]) (d_p1.length:Int)).fDone)] 93,.row hn 94 1 (A1 (eP ha) ((Am (d_p1++[(A9.mk he ([]:List Int) 0)]) (d_p1.length:Int)).fCalls)),.poolw hb hp 93 94 1 (A1 (Aw ha) (d_p1++[(A9.mk he ([]:List Int) 0)])) (some (B6 (d_p1.length:Int),(hl,hn))),.blk hd [Ak now,rv (.map (some hb)),rv (.map (some ha))] 68,.blk b1 (Ay op) 25,.map hb (Ba (mP hb) (By d.fEntities op.fEntity (d_p1.length:Int))),.map ha (Ba (mP ha) d.fCalls)]) ((Al (i:=3) Aa).trans (Abe _ ((Al (i:=7) Aa).trans (Abe _ (Abg _))))) [12,103,109] ⟨Aa,Aa,Aa,trivial⟩ Aa (λhs=>?_)))))));refine AQ (ys:=([(d_p2.length:Int)]:List Int)) (enc:=(eP ha)) (css:=[[HZ ha (d_p2.length:Int) 0]]) (xs:=[.tmp 109]) Qy XL Zr Aa Aa Aa ⟨Eo.one Aa (Up.refl _),trivial⟩ Aa (Qe ha) Aa Aa Aa (λht=>?_);refine ck hX λhY hZ=>Exists.elim WV λinf hinf=>BL (xs:=(Am (d_p1++[(A9.mk he ([]:List Int) 0)]) (d_p1.length:Int)).fCalls) (ys:=([(d_p2.length:Int)]:List Int)) (enc:=(eP ha)) (i:=3) Qy hinf.1 hinf.2.1 hinf.2.2.1 hinf.2.2.2 Aa Aa Aa Aa Aa (I5.w (i:=0) Aa Aa) (Qe ha) (Xr ha) hY Aa (λhq=>?_);refine wv (A4 Aa) (vF Lg Aa P2 (BC (i:=3) P2 Aa Aa (Dj (i:=0) Aa) Aa Aa (cs':=[AX 4 (A1 Ac ((Am (d_p1++[(A9.mk he ([]:List Int) 0)]) (d_p1.length:Int)).fState)),rv hq,Ak ((Am (d_p1++[(A9.mk he ([]:List Int) 0)]) (d_p1.length:Int)).fDone)]) Aa (H':=[.row hq 94 1 (A1 (eP ha) (((Am (d_p1++[(A9.mk he ([]:List Int) 0)]) (d_p1.length:Int)).fCalls)++([(d_p2.length:Int)]:List Int))),.row (.slice (some ⟨ht,0,none⟩) 1 1) 94 1 (A1 (eP ha) ([(d_p2.length:Int)]:List Int)),.pool ha hs 44 (A1 A5 (d_p2++[(AV.mk hf (Bk.mk 0 ([]:List Ab)) now (-1))])),.blk hl [AX 4 (A1 Ac ((Am (d_p1++[(A9.mk he ([]:List Int) 0)]) (d_p1.length:Int)).fState)),rv hq,Ak ((Am (d_p1++[(A9.mk he ([]:List Int) 0)]) (d_p1.length:Int)).fDone)] 93,.poolw hb hp 93 94 1 (A1 (Aw ha) (d_p1++[(A9.mk he ([]:List Int) 0)])) (some (B6 (d_p1.length:Int),(hl,hn))),.blk hd [Ak now,rv (.map (some hb)),rv (.map (some ha))] 68,.blk b1 (Ay op) 25,.map hb (Ba (mP hb) (By d.fEntities op.fEntity (d_p1.length:Int))),.map ha (Ba (mP ha) d.fCalls)]) Aa (Ao (Ai (CK 7 [0,4,12] [⟨[],rP hd 0,none,none,none⟩,⟨[0],rP hd 0,none,none,none⟩,⟨[1],rP hd 2,none,none,none⟩,⟨[2],rv (.map (some ha)),none,none,none⟩,⟨[],rP b1 1,none,none,none⟩,⟨[4],rS op.fID,none,none,none⟩,⟨[],HZ ha (d_p2.length:Int) 0,none,none,none⟩] ?_ (λβ=>?_))))))
       ·refine Cu (Aq Aa) (Cu (A4 Aa) (Cu (AC J2 Aa XM Aa Aa) (KT (Bj (i:=5) XS Aa Aa Aa) (Cu (AC Cw Aa CG Aa Aa) (KT (Bj (i:=6) CV Aa Aa Aa) (Cu (Aq Aa) ?_))))));exact O6
       refine Dp (H1:=[.row hq 94 1 (A1 (eP ha) (((Am (d_p1++[(A9.mk he ([]:List Int) 0)]) (d_p1.length:Int)).fCalls)++([(d_p2.length:Int)]:List Int))),.row (.slice (some ⟨ht,0,none⟩) 1 1) 94 1 (A1 (eP ha) ([(d_p2.length:Int)]:List Int)),.pool ha hs 44 (A1 A5 (d_p2++[(AV.mk hf (Bk.mk 0 ([]:List Ab)) now (-1))])),.blk hl [AX 4 (A1 Ac ((Am (d_p1++[(A9.mk he ([]:List Int) 0)]) (d_p1.length:Int)).fState)),rv hq,Ak ((Am (d_p1++[(A9.mk he ([]:List Int) 0)]) (d_p1.length:Int)).fDone)] 93,.poolw hb hp 93 94 1 (A1 (Aw ha) (d_p1++[(A9.mk he ([]:List Int) 0)])) (some (B6 (d_p1.length:Int),(hl,hn))),.blk hd [Ak now,rv (.map (some hb)),rv (.map (some ha))] 68,.blk b1 (Ay op) 25,.map hb (Ba (mP hb) (By d.fEntities op.fEntity (d_p1.length:Int))),.map ha (Ba (mP ha) d.fCalls)]) [114,115,116,117,118,119,120,0,4,12] ?_;refine Nl (enc:=(mP ha)) (xs:=d.fCalls) (v:=(d_p2.length:Int)) (i:=8) XI BZ Aa Aa Aa Aa (H':=[.row hq 94 1 (A1 (eP ha) (((Am (d_p1++[(A9.mk he ([]:List Int) 0)]) (d_p1.length:Int)).fCalls)++([(d_p2.length:Int)]:List Int))),.row (.slice (some ⟨ht,0,none⟩) 1 1) 94 1 (A1 (eP ha) ([(d_p2.length:Int)]:List Int)),.pool ha hs 44 (A1 A5 (d_p2++[(AV.mk hf (Bk.mk 0 ([]:List Ab)) now (-1))])),.blk hl [AX 4 (A1 Ac ((Am (d_p1++[(A9.mk he ([]:List Int) 0)]) (d_p1.length:Int)).fState)),rv hq,Ak ((Am (d_p1++[(A9.mk he ([]:List Int) 0)]) (d_p1.length:Int)).fDone)] 93,.poolw hb hp 93 94 1 (A1 (Aw ha) (d_p1++[(A9.mk he ([]:List Int) 0)])) (some (B6 (d_p1.length:Int),(hl,hn))),.blk hd [Ak now,rv (.map (some hb)),rv (.map (some ha))] 68,.blk b1 (Ay op) 25,.map hb (Ba (mP hb) (By d.fEntities op.fEntity (d_p1.length:Int))),.map ha (Ba (mP ha) (By d.fCalls op.fID (d_p2.length:Int)))]) Aa (Bs (wa Aa (Ao (As (WK.putback (y:=(A9.mk ((Am (d_p1++[(A9.mk he ([]:List Int) 0)]) (d_p1.length:Int)).fState) (((Am (d_p1++[(A9.mk he ([]:List Int) 0)]) (d_p1.length:Int)).fCalls)++([(d_p2.length:Int)]:List Int)) ((Am (d_p1++[(A9.mk he ([]:List Int) 0)]) (d_p1.length:Int)).fDone))) (encw:=(Aw ha)) (xs:=d_p1++[(A9.mk he ([]:List Int) 0)]) (i:=(d_p1.length:Int)) (Hr:=[.row (.slice (some ⟨ht,0,none⟩) 1 1) 94 1 (A1 (eP ha) ([(d_p2.length:Int)]:List Int)),.pool ha hs 44 (A1 A5 (d_p2++[(AV.mk hf (Bk.mk 0 ([]:List Ab)) now (-1))])),.blk hd [Ak now,rv (.map (some hb)),rv (.map (some ha))] 68,.blk b1 (Ay op) 25,.map hb (Ba (mP hb) (By d.fEntities op.fEntity (d_p1.length:Int))),.map ha (Ba (mP ha) (By d.fCalls op.fID (d_p2.length:Int)))]) ((Al (i:=3) Aa).trans (Abe _ ((Al (i:=0) Aa).trans (Abe _ ((Al (i:=2) Aa).trans (Abe _ (Abg _))))))) hy [] trivial Aa Aa (λv53=>?_))))));refine BO (H2:=[.blk hd [Ak now,rv (.map (some hb)),rv (.map (some ha))] 68,.map hb (Ba (mP hb) (By d.fEntities op.fEntity (d_p1.length:Int))),.map ha (Ba (mP ha) (By d.fCalls op.fID (d_p2.length:Int))),.poolw hb v53 93 94 1 (A1 (Aw ha) (List.set (d_p1++[(A9.mk he ([]:List Int) 0)]) (B6 (d_p1.length:Int)) (A9.mk ((Am (d_p1++[(A9.mk he ([]:List Int) 0)]) (d_p1.length:Int)).fState) (((Am (d_p1++[(A9.mk he ([]:List Int) 0)]) (d_p1.length:Int)).fCalls)++([(d_p2.length:Int)]:List Int)) ((Am (d_p1++[(A9.mk he ([]:List Int) 0)]) (d_p1.length:Int)).fDone)))) none,.pool ha hs 44 (A1 A5 (d_p2++[(AV.mk hf (Bk.mk 0 ([]:List Ab)) now (-1))])),.row (.slice (some ⟨ht,0,none⟩) 1 1) 94 1 (A1 (eP ha) ([(d_p2.length:Int)]:List Int)),.blk b1 (Ay op) 25]) ((Al (i:=3) Aa).trans (Abe _ ((Al (i:=4) Aa).trans (Abe _ ((Al (i:=4) Aa).trans (Abe _ ((Al (i:=0) Aa).trans (Abe _ ((Al (i:=1) Aa).trans (Abe _ (Abg _))))))))))) ?_;obtain rfl:=At hZ;exact Ar (BY Q5 (AB Aa)) (sC (sC (sC (sC (sC (sS (sS sN))))))) ⟨v53,hs,Aa,Aa⟩
      ·refine Ap (AJ (Af (wm Aa (wm Aa (wv (A4 Aa) (vF J2 Aa Ct (BC (i:=0) Ct Aa Aa (Cl Aa) Aa Aa (cs':=[Ak now,rv (.map (some hb)),rv (.map (some ha))]) Aa (H':=[.blk hd [Ak now,rv (.map (some hb)),rv (.map (some ha))] 68,.blk b1 (Ay op) 25,.map hb (Ba (mP hb) d.fEntities),.map ha (Ba (mP ha) d.fCalls),.poolw hb hi 93 94 1 (A1 (Aw ha) d_p1) none,.pool ha hh 44 (A1 A5 d_p2)]) Aa (Bs (wv (Bw (i:=1) Em C6 Aa Aa Aa Aa) (ob hS λhg ga gb=>Cn Tryz.call55 (Oa F op hg ga) Aa (wm Aa (wv (r:=Bq [rS hg.fEntity,rS hg.fID,rS hg.fOp,AX 1 (A1 An hg.fArgs),Ak 0,rv (.slice none 0 0),Ak now,Ak (-1)]) (Jx Aa Aa Aa Aa Aa) (Ci Aa Aa (λhz=>?_))))))))))))));refine wa Aa (Bs (wm Aa (wm Aa (ck gb λh0 gc=>WL.takeout (encw:=(Aw ha)) (xs:=d_p1) (i:=AN d.fEntities op.fEntity (-1)) (Hr:=[.blk hz [rS hg.fEntity,rS hg.fID,rS hg.fOp,AX 1 (A1 An hg.fArgs),Ak 0,rv (.slice none 0 0),Ak now,Ak (-1)] 44,.blk hd [Ak now,rv (.map (some hb)),rv (.map (some ha))] 68,.blk b1 (Ay op) 25,.map hb (Ba (mP hb) d.fEntities),.map ha (Ba (mP ha) d.fCalls),.pool ha hh 44 (A1 A5 d_p2)]) ((Al (i:=5) Aa).trans (Abe _ (Abg _))) h0 [10,104,105] ⟨Aa,Aa,Aa,trivial⟩ (λhm ho=>?_)))));refine P3 (H':=[.blk hm [AX 4 (A1 Ac ((Am d_p1 (AN d.fEntities op.fEntity (-1))).fState)),rv ho,Ak ((Am d_p1 (AN d.fEntities op.fEntity (-1))).fDone)] 93,.row ho 94 1 (A1 (eP ha) ((Am d_p1 (AN d.fEntities op.fEntity (-1))).fCalls)),.poolw hb hi 93 94 1 (A1 (Aw ha) d_p1) (some (B6 (AN d.fEntities op.fEntity (-1)),(hm,ho))),.blk hz [rS hg.fEntity,rS hg.fID,rS hg.fOp,AX 1 (A1 An hg.fArgs),Ak 0,rv (.slice none 0 0),Ak now,Ak (-1)] 44,.blk hd [Ak now,rv (.map (some hb)),rv (.map (some ha))] 68,.blk b1 (Ay op) 25,.map hb (Ba (mP hb) d.fEntities),.map ha (Ba (mP ha) d.fCalls),.pool ha hh 44 (A1 A5 d_p2)]) Aa (wv (A4 Aa) (vF Lg Aa P2 (vL 0 V9 Aa (wm Aa (WL.upBlk (i:=3) (cs':=[rS hg.fEntity,rS hg.fID,rS hg.fOp,AX 1 (A1 An hg.fArgs),Ak 0,AX 4 (A1 Ac ([]:List Ab)),Ak now,Ak (-1)]) Aa ⟨Up.refl _,Up.refl _,Up.refl _,Up.refl _,Up.refl _,Up.le (DZ.nil _),Up.refl _,Up.refl _,trivial⟩ (WL.adopt (enc:=A5) (xs:=d_p2) (y:=(AV.mk hg (Bk.mk 0 ([]:List Ab)) now (-1))) (Hr:=[.blk hm [AX 4 (A1 Ac ((Am d_p1 (AN d.fEntities op.fEntity (-1))).fState)),rv ho,Ak ((Am d_p1 (AN d.fEntities op.fEntity (-1))).fDone)] 93,.row ho 94 1 (A1 (eP ha) ((Am d_p1 (AN d.fEntities op.fEntity (-1))).fCalls)),.poolw hb hi 93 94 1 (A1 (Aw ha) d_p1) (some (B6 (AN d.fEntities op.fEntity (-1)),(hm,ho))),.blk hd [Ak now,rv (.map (some hb)),rv (.map (some ha))] 68,.blk b1 (Ay op) 25,.map hb (Ba (mP hb) d.fEntities),.map ha (Ba (mP ha) d.fCalls)]) ((Al (i:=3) Aa).trans (Abe _ ((Al (i:=7) Aa).trans (Abe _ (Abg _))))) [12,103,109] ⟨Aa,Aa,Aa,trivial⟩ Aa (λv64=>?_)))))));refine AQ (ys:=([(d_p2.length:Int)]:List Int)) (enc:=(eP ha)) (css:=[[HZ ha (d_p2.length:Int) 0]]) (xs:=[.tmp 109]) Qy XL Zr Aa Aa Aa ⟨Eo.one Aa (Up.refl _),trivial⟩ Aa (Qe ha) Aa Aa Aa (λhu=>?_);refine ck gc λgd ge=>Exists.elim WV λinf hinf=>BL (xs:=(Am d_p1 (AN d.fEntities op.fEntity (-1))).fCalls) (ys:=([(d_p2.length:Int)]:List Int)) (enc:=(eP ha)) (i:=3) Qy hinf.1 hinf.2.1 hinf.2.2.1 hinf.2.2.2 Aa Aa Aa Aa Aa (I5.w (i:=0) Aa Aa) (Qe ha) (Xr ha) gd Aa (λhr=>?_);refine wv (A4 Aa) (vF Lg Aa P2 (BC (i:=3) P2 Aa Aa (Dj (i:=0) Aa) Aa Aa (cs':=[AX 4 (A1 Ac ((Am d_p1 (AN d.fEntities op.fEntity (-1))).fState)),rv hr,Ak ((Am d_p1 (AN d.fEntities op.fEntity (-1))).fDone)]) Aa (H':=[.row hr 94 1 (A1 (eP ha) (((Am d_p1 (AN d.fEntities op.fEntity (-1))).fCalls)++([(d_p2.length:Int)]:List Int))),.row (.slice (some ⟨hu,0,none⟩) 1 1) 94 1 (A1 (eP ha) ([(d_p2.length:Int)]:List Int)),.pool ha v64 44 (A1 A5 (d_p2++[(AV.mk hg (Bk.mk 0 ([]:List Ab)) now (-1))])),.blk hm [AX 4 (A1 Ac ((Am d_p1 (AN d.fEntities op.fEntity (-1))).fState)),rv hr,Ak ((Am d_p1 (AN d.fEntities op.fEntity (-1))).fDone)] 93,.poolw hb hi 93 94 1 (A1 (Aw ha) d_p1) (some (B6 (AN d.fEntities op.fEntity (-1)),(hm,ho))),.blk hd [Ak now,rv (.map (some hb)),rv (.map (some ha))] 68,.blk b1 (Ay op) 25,.map hb (Ba (mP hb) d.fEntities),.map ha (Ba (mP ha) d.fCalls)]) Aa (Ao (Ai (CK 7 [0,4,12] [⟨[],rP hd 0,none,none,none⟩,⟨[0],rP hd 0,none,none,none⟩,⟨[1],rP hd 2,none,none,none⟩,⟨[2],rv (.map (some ha)),none,none,none⟩,⟨[],rP b1 1,none,none,none⟩,⟨[4],rS op.fID,none,none,none⟩,⟨[],HZ ha (d_p2.length:Int) 0,none,none,none⟩] ?_ (λβ=>?_))))))
       ·refine Cu (Aq Aa) (Cu (A4 Aa) (Cu (AC J2 Aa XM Aa Aa) (KT (Bj (i:=5) XS Aa Aa Aa) (Cu (AC Cw Aa CG Aa Aa) (KT (Bj (i:=6) CV Aa Aa Aa) (Cu (Aq Aa) ?_))))));exact O6
       refine Dp (H1:=[.row hr 94 1 (A1 (eP ha) (((Am d_p1 (AN d.fEntities op.fEntity (-1))).fCalls)++([(d_p2.length:Int)]:List Int))),.row (.slice (some ⟨hu,0,none⟩) 1 1) 94 1 (A1 (eP ha) ([(d_p2.length:Int)]:List Int)),.pool ha v64 44 (A1 A5 (d_p2++[(AV.mk hg (Bk.mk 0 ([]:List Ab)) now (-1))])),.blk hm [AX 4 (A1 Ac ((Am d_p1 (AN d.fEntities op.fEntity (-1))).fState)),rv hr,Ak ((Am d_p1 (AN d.fEntities op.fEntity (-1))).fDone)] 93,.poolw hb hi 93 94 1 (A1 (Aw ha) d_p1) (some (B6 (AN d.fEntities op.fEntity (-1)),(hm,ho))),.blk hd [Ak now,rv (.map (some hb)),rv (.map (some ha))] 68,.blk b1 (Ay op) 25,.map hb (Ba (mP hb) d.fEntities),.map ha (Ba (mP ha) d.fCalls)]) [114,115,116,117,118,119,120,0,4,12] ?_;refine Nl (enc:=(mP ha)) (xs:=d.fCalls) (v:=(d_p2.length:Int)) (i:=8) XI BZ Aa Aa Aa Aa (H':=[.row hr 94 1 (A1 (eP ha) (((Am d_p1 (AN d.fEntities op.fEntity (-1))).fCalls)++([(d_p2.length:Int)]:List Int))),.row (.slice (some ⟨hu,0,none⟩) 1 1) 94 1 (A1 (eP ha) ([(d_p2.length:Int)]:List Int)),.pool ha v64 44 (A1 A5 (d_p2++[(AV.mk hg (Bk.mk 0 ([]:List Ab)) now (-1))])),.blk hm [AX 4 (A1 Ac ((Am d_p1 (AN d.fEntities op.fEntity (-1))).fState)),rv hr,Ak ((Am d_p1 (AN d.fEntities op.fEntity (-1))).fDone)] 93,.poolw hb hi 93 94 1 (A1 (Aw ha) d_p1) (some (B6 (AN d.fEntities op.fEntity (-1)),(hm,ho))),.blk hd [Ak now,rv (.map (some hb)),rv (.map (some ha))] 68,.blk b1 (Ay op) 25,.map hb (Ba (mP hb) d.fEntities),.map ha (Ba (mP ha) (By d.fCalls op.fID (d_p2.length:Int)))]) Aa (Bs (wa Aa (Ao (As (WK.putback (y:=(A9.mk ((Am d_p1 (AN d.fEntities op.fEntity (-1))).fState) (((Am d_p1 (AN d.fEntities op.fEntity (-1))).fCalls)++([(d_p2.length:Int)]:List Int)) ((Am d_p1 (AN d.fEntities op.fEntity (-1))).fDone))) (encw:=(Aw ha)) (xs:=d_p1) (i:=AN d.fEntities op.fEntity (-1)) (Hr:=[.row (.slice (some ⟨hu,0,none⟩) 1 1) 94 1 (A1 (eP ha) ([(d_p2.length:Int)]:List Int)),.pool ha v64 44 (A1 A5 (d_p2++[(AV.mk hg (Bk.mk 0 ([]:List Ab)) now (-1))])),.blk hd [Ak now,rv (.map (some hb)),rv (.map (some ha))] 68,.blk b1 (Ay op) 25,.map hb (Ba (mP hb) d.fEntities),.map ha (Ba (mP ha) (By d.fCalls op.fID (d_p2.length:Int)))]) ((Al (i:=3) Aa).trans (Abe _ ((Al (i:=0) Aa).trans (Abe _ ((Al (i:=2) Aa).trans (Abe _ (Abg _))))))) h0 [] trivial Aa Aa (λh1=>?_))))));refine BO (H2:=[.blk hd [Ak now,rv (.map (some hb)),rv (.map (some ha))] 68,.map hb (Ba (mP hb) d.fEntities),.map ha (Ba (mP ha) (By d.fCalls op.fID (d_p2.length:Int))),.poolw hb h1 93 94 1 (A1 (Aw ha) (List.set d_p1 (B6 (AN d.fEntities op.fEntity (-1))) (A9.mk ((Am d_p1 (AN d.fEntities op.fEntity (-1))).fState) (((Am d_p1 (AN d.fEntities op.fEntity (-1))).fCalls)++([(d_p2.length:Int)]:List Int)) ((Am d_p1 (AN d.fEntities op.fEntity (-1))).fDone)))) none,.pool ha v64 44 (A1 A5 (d_p2++[(AV.mk hg (Bk.mk 0 ([]:List Ab)) now (-1))])),.row (.slice (some ⟨hu,0,none⟩) 1 1) 94 1 (A1 (eP ha) ([(d_p2.length:Int)]:List Int)),.blk b1 (Ay op) 25]) ((Al (i:=3) Aa).trans (Abe _ ((Al (i:=4) Aa).trans (Abe _ ((Al (i:=4) Aa).trans (Abe _ ((Al (i:=0) Aa).trans (Abe _ ((Al (i:=1) Aa).trans (Abe _ (Abg _))))))))))) ?_;obtain rfl:=At ge;exact Ar (BY Q5 (AB Aa)) (sC (sC (sC (sC (sC (sS (sS sN))))))) ⟨h1,v64,Aa,Aa⟩
theorem T7 (F:Nat)(hi:Nat)(hb:Nat)(ha:Nat)(hk:Value)(hg:Value)(d:Bf)(d_p1:(List A9))(d_p2:(List AV))(e:Ae)(now:Int)(r:AV×Bool×Bf×(List A9)×(List AV))(h:T8 F d d_p1 d_p2 e now=some r):Fn Tryz.prog GE 19 [rP hi 0,rS e,Ak now] [.blk hi [Ak d.fNow,rv (.map (some hb)),rv (.map (some ha))] 68,.map hb (Ba (mP hb) d.fEntities),.map ha (Ba (mP ha) d.fCalls),.poolw hb hk 93 94 1 (A1 (Aw ha) d_p1) none,.pool ha hg 44 (A1 A5 d_p2)] (λR H=>∃w0_p1:Value,∃w0_p2:Value,R=Cs [Bq (A5 r.1),rB r.2.1]∧H=[.blk hi [Ak r.2.2.1.fNow,rv (.map (some hb)),rv (.map (some ha))] 68,.map hb (Ba (mP hb) r.2.2.1.fEntities),.map ha (Ba (mP ha) r.2.2.1.fCalls),.poolw hb w0_p1 93 94 1 (A1 (Aw ha) r.2.2.2.1) none,.pool ha w0_p2 44 (A1 A5 r.2.2.2.2)]):=by
 refine enter (n:=107) Tryz.func19 Aa Tryz.ntmps19 Aa (λw Z=>?_);unfold T8 at h;refine Af (Ce (cs:=[rS ([]:Ae),rS ([]:Ae),rS ([]:Ae),rv (.slice none 0 0),Ak 0,rv (.slice none 0 0),Ak 0,Ak 0]) Ua Aa Aa (λb1=>?_));refine wa Aa (Ao (Ai (D8 (S:=(Bool)×(Unit)) (λσ=>JJ F d d_p1 d_p2 e now σ.1=some r) (λσ=>[(0,rP hi 0),(1,rS e),(2,Ak now),(6,rP b1 0),(28,rB σ.1)]) (λσ=>[.blk hi [Ak d.fNow,rv (.map (some hb)),rv (.map (some ha))] 68,.blk b1 [rS ([]:Ae),rS ([]:Ae),rS ([]:Ae),rv (.slice none 0 0),Ak 0,rv (.slice none 0 0),Ak 0,Ak 0] 44,.map hb (Ba (mP hb) d.fEntities),.map ha (Ba (mP ha) d.fCalls),.poolw hb hk 93 94 1 (A1 (Aw ha) d_p1) none,.pool ha hg 44 (A1 A5 d_p2)]) ?_ ?_)))
 ·refine Ah (wm Aa (GX (Hr:=[.blk b1 [rS ([]:Ae),rS ([]:Ae),rS ([]:Ae),rv (.slice none 0 0),Ak 0,rv (.slice none 0 0),Ak 0,Ak 0] 44,.map hb (Ba (mP hb) d.fEntities),.map ha (Ba (mP ha) d.fCalls),.poolw hb hk 93 94 1 (A1 (Aw ha) d_p1) none,.pool ha hg 44 (A1 A5 d_p2)]) V8 (LD hi hb ha d true Aa) Aa ((Al (i:=1) Aa).trans (Abe _ (Abg _))) Aa ?_));rintro _ _ ⟨rfl,rfl⟩;refine wv (BW Aa) (wm Aa (Bp (b:=!true) Aa Aa (EH Aa) (wm Aa (Bp (b:=!true) Aa Aa (EH Aa) (wm Aa (Bp (b:=!true) Aa Aa (EH Aa) (wv (A4 Aa) (Bp (b:=!true) Aa Aa (EH Aa) (vF J2 Aa Ct (Bp (b:=!true) Aa Aa (EH Aa) (vL 0 Dm Aa (Bp (b:=!true) Aa Aa (EH Aa) (wv (Ch Aa Aa) (wv (r:=rB (decide (now<d.fNow))) (A7 (b:=!true) Aa (EH Aa) Aa) (wm Aa (bz h (λc6 h7=>?_) (λc6 h8=>?_)))))))))))))))))
  ·exact wf c6 (wf c6 (wv (r:=rB true) (Ax Aa c6 Aa) (Aj (Au (AD (true,()) h7 (AM.c5 Aa Aa Aa Aa Aa AM.nil) (sC (sC (sC (sC (sC (sC sN)))))))))))
  ·exact wo c6 (wm Aa (wo c6 (wv (Cv Aa Aa) (Ea Aa c6 Aa (Aj (Au (AD (decide (1073741824<now),()) h8 (AM.c5 Aa Aa Aa Aa Aa AM.nil) (sC (sC (sC (sC (sC (sC sN)))))))))))))
 ·rintro⟨x5,⟨⟩⟩ h9;refine Cd (l':=[(0,rP hi 0),(1,rS e),(2,Ak now),(6,rP b1 0),(28,rB x5)]) (H':=[.blk hi [Ak d.fNow,rv (.map (some hb)),rv (.map (some ha))] 68,.blk b1 [rS ([]:Ae),rS ([]:Ae),rS ([]:Ae),rv (.slice none 0 0),Ak 0,rv (.slice none 0 0),Ak 0,Ak 0] 44,.map hb (Ba (mP hb) d.fEntities),.map ha (Ba (mP ha) d.fCalls),.poolw hb hk 93 94 1 (A1 (Aw ha) d_p1) none,.pool ha hg 44 (A1 A5 d_p2)]) Aa Aa ?_;replace h9:JJ F d d_p1 d_p2 e now x5=some r:=h9;unfold JJ at h9;refine cz h9 Aa (λht hu=>?_) (λht hw=>?_)
  ·refine Af (wv (r:=Bq [rS ([]:Ae),rS ([]:Ae),rS ([]:Ae),rv (.slice none 0 0),Ak 0,rv (.slice none 0 0),Ak 0,Ak 0]) (Jl ) (AP (i:=1) Ir Aa Aa Aa (Bx.c Aa) Aa Aa (cs':=[rS ([]:Ae),rS ([]:Ae),rS ([]:Ae),rv (.slice none 0 0),Ak 0,rv (.slice none 0 0),Ak 0,Ak 0]) Aa (H':=[.blk hi [Ak d.fNow,rv (.map (some hb)),rv (.map (some ha))] 68,.blk b1 [rS ([]:Ae),rS ([]:Ae),rS ([]:Ae),rv (.slice none 0 0),Ak 0,rv (.slice none 0 0),Ak 0,Ak 0] 44,.map hb (Ba (mP hb) d.fEntities),.map ha (Ba (mP ha) d.fCalls),.poolw hb hk 93 94 1 (A1 (Aw ha) d_p1) none,.pool ha hg 44 (A1 A5 d_p2)]) Aa (wa Aa (Ao (As (Ad (WK.upBlk (i:=1) (cs':=[rS ([]:Ae),rS ([]:Ae),rS ([]:Ae),AX 1 (A1 An ([]:List (List Ab))),Ak 0,AX 4 (A1 Ac ([]:List Ab)),Ak 0,Ak 0]) Aa ⟨Up.refl _,Up.refl _,Up.refl _,Up.le (DZ.nil _),Up.refl _,Up.le (DZ.nil _),Up.refl _,Up.refl _,trivial⟩ ?_)))))));obtain rfl:=At hu;exact Ar (CS V6 (Cy (i:=1) OA Ir Aa Aa Aa) (AB Aa)) (sC (sS (sC (sC (sC (sC sN)))))) ⟨hk,hg,Aa,Aa⟩
  ·refine Ap (AJ (Af (wm Aa (wv (A4 Aa) (vF J2 Aa Q2 (vL 0 Q9 Aa (wm Aa (wv (r:=Cs [HZ hb (AN d.fEntities e (-1)) 0,rB (C2 d.fEntities e)]) (Kh (enc:=(mP hb)) (xs:=d.fEntities) (z:=(-1)) (i:=2) RX BZ XG (WE hb) Aa Aa Aa) (wm Aa (wv (AA Aa Aa) (wv (AA Aa Aa) (wa Aa (wa Aa (Ao (Ai (Ai (bz hw (λhj hx=>?_) (λhj hy=>?_))))))))))))))))))
   ·refine ck hx λg15 hz=>WC.takeout (encw:=(Aw ha)) (xs:=d_p1) (i:=AN d.fEntities e (-1)) (Hr:=[.blk hi [Ak d.fNow,rv (.map (some hb)),rv (.map (some ha))] 68,.blk b1 [rS ([]:Ae),rS ([]:Ae),rS ([]:Ae),rv (.slice none 0 0),Ak 0,rv (.slice none 0 0),Ak 0,Ak 0] 44,.map hb (Ba (mP hb) d.fEntities),.map ha (Ba (mP ha) d.fCalls),.pool ha hg 44 (A1 A5 d_p2)]) ((Al (i:=4) Aa).trans (Abe _ (Abg _))) g15 [8,37] ⟨Aa,Aa,trivial⟩ (λhe hf=>?_);refine Cd (l':=_) (H':=[.blk he [AX 4 (A1 Ac ((Am d_p1 (AN d.fEntities e (-1))).fState)),rv hf,Ak ((Am d_p1 (AN d.fEntities e (-1))).fDone)] 93,.row hf 94 1 (A1 (eP ha) ((Am d_p1 (AN d.fEntities e (-1))).fCalls)),.poolw hb hk 93 94 1 (A1 (Aw ha) d_p1) (some (B6 (AN d.fEntities e (-1)),(he,hf))),.blk hi [Ak d.fNow,rv (.map (some hb)),rv (.map (some ha))] 68,.blk b1 [rS ([]:Ae),rS ([]:Ae),rS ([]:Ae),rv (.slice none 0 0),Ak 0,rv (.slice none 0 0),Ak 0,Ak 0] 44,.map hb (Ba (mP hb) d.fEntities),.map ha (Ba (mP ha) d.fCalls),.pool ha hg 44 (A1 A5 d_p2)]) Aa Aa (Df [0,2,6,8,9] [⟨[],rB (C2 d.fEntities e),0⟩,⟨[0],rB (!(C2 d.fEntities e)),0⟩,⟨[1],rB (!(C2 d.fEntities e)),0⟩,⟨[2],rP he 0,0⟩,⟨[3,2],rP he 0,0⟩,⟨[4,2],rP he 2,0⟩,⟨[5,2],Ak ((Am d_p1 (AN d.fEntities e (-1))).fDone),1⟩,⟨[2],rP he 0,0⟩,⟨[7,2],rP he 0,0⟩,⟨[8,2],rP he 1,0⟩,⟨[9,2],rv hf,1⟩,⟨[10,2],Ak (((Am d_p1 (AN d.fEntities e (-1))).fCalls).length:Int),1⟩,⟨[6,11,2],rB (decide (((Am d_p1 (AN d.fEntities e (-1))).fDone)=(((Am d_p1 (AN d.fEntities e (-1))).fCalls).length:Int))),0⟩,⟨[2,12],rB (decide (((Am d_p1 (AN d.fEntities e (-1))).fDone)=(((Am d_p1 (AN d.fEntities e (-1))).fCalls).length:Int))),0⟩] [52,0,2,6,8] ?_ ?_)
    ·refine oq (Aq Aa) (oq (BW Aa) (oq (Aq Aa) (DH Aa (λH=>Ie (b:=!(C2 d.fEntities e)) Aa Aa (EH hj) (KR (Aq Aa))) ?_)));refine DH Aa (λH=>Ie (b:=!(C2 d.fEntities e)) Aa Aa (EH hj) (KR (A4 Aa))) ?_;refine DH Aa (λH=>Ie (b:=!(C2 d.fEntities e)) Aa Aa (EH hj) (KR (AC Lg Aa Ct Aa Aa))) ?_;refine T2 Aa (Ie (b:=!(C2 d.fEntities e)) Aa Aa (EH hj) (KR (Bj (i:=0) Dm Aa Aa Aa))) ?_;refine DH Aa (λH=>Ie (b:=!(C2 d.fEntities e)) Aa Aa (EH hj) (KR (Aq Aa))) ?_;refine DH Aa (λH=>Ie (b:=!(C2 d.fEntities e)) Aa Aa (EH hj) (KR (A4 Aa))) ?_;refine DH Aa (λH=>Ie (b:=!(C2 d.fEntities e)) Aa Aa (EH hj) (KR (AC Lg Aa P2 Aa Aa))) ?_;refine T2 Aa (Ie (b:=!(C2 d.fEntities e)) Aa Aa (EH hj) (KR (Bj (i:=0) V9 Aa Aa Aa))) ?_;refine T2 Aa (Ie (b:=!(C2 d.fEntities e)) Aa Aa (EH hj) (KR (D4 (ys:=(Am d_p1 (AN d.fEntities e (-1))).fCalls) (enc:=(eP ha)) (i:=1) Qy Aa Aa))) ?_;refine DH Aa (λH=>Ie (b:=!(C2 d.fEntities e)) Aa Aa (EH hj) (KR (BE Aa Aa))) ?_;refine oq (A7 (b:=!(C2 d.fEntities e)) Aa (EH hj) Aa) ?_;exact CE
    refine AJ (cz hz Aa (λh0 h1=>?_) (λh0 h2=>?_))
    ·refine Af (wv (r:=Bq [rS ([]:Ae),rS ([]:Ae),rS ([]:Ae),rv (.slice none 0 0),Ak 0,rv (.slice none 0 0),Ak 0,Ak 0]) (Jl ) (AP (i:=4) Ir Aa Aa Aa (Bx.c Aa) Aa Aa (cs':=[rS ([]:Ae),rS ([]:Ae),rS ([]:Ae),rv (.slice none 0 0),Ak 0,rv (.slice none 0 0),Ak 0,Ak 0]) Aa (H':=[.blk he [AX 4 (A1 Ac ((Am d_p1 (AN d.fEntities e (-1))).fState)),rv hf,Ak ((Am d_p1 (AN d.fEntities e (-1))).fDone)] 93,.row hf 94 1 (A1 (eP ha) ((Am d_p1 (AN d.fEntities e (-1))).fCalls)),.poolw hb hk 93 94 1 (A1 (Aw ha) d_p1) (some (B6 (AN d.fEntities e (-1)),(he,hf))),.blk hi [Ak d.fNow,rv (.map (some hb)),rv (.map (some ha))] 68,.blk b1 [rS ([]:Ae),rS ([]:Ae),rS ([]:Ae),rv (.slice none 0 0),Ak 0,rv (.slice none 0 0),Ak 0,Ak 0] 44,.map hb (Ba (mP hb) d.fEntities),.map ha (Ba (mP ha) d.fCalls),.pool ha hg 44 (A1 A5 d_p2)]) Aa (wa Aa (Ao (As (Ad (WK.putsame (encw:=(Aw ha)) (xs:=d_p1) (i:=AN d.fEntities e (-1)) (Hr:=[.blk hi [Ak d.fNow,rv (.map (some hb)),rv (.map (some ha))] 68,.blk b1 [rS ([]:Ae),rS ([]:Ae),rS ([]:Ae),rv (.slice none 0 0),Ak 0,rv (.slice none 0 0),Ak 0,Ak 0] 44,.map hb (Ba (mP hb) d.fEntities),.map ha (Ba (mP ha) d.fCalls),.pool ha hg 44 (A1 A5 d_p2)]) (Abg _) g15 [8] ⟨Aa,trivial⟩ Aa Aa (WK.upBlk (i:=2) (cs':=[rS ([]:Ae),rS ([]:Ae),rS ([]:Ae),AX 1 (A1 An ([]:List (List Ab))),Ak 0,AX 4 (A1 Ac ([]:List Ab)),Ak 0,Ak 0]) Aa ⟨Up.refl _,Up.refl _,Up.refl _,Up.le (DZ.nil _),Up.refl _,Up.le (DZ.nil _),Up.refl _,Up.refl _,trivial⟩ (BO (H2:=[.blk hi [Ak d.fNow,rv (.map (some hb)),rv (.map (some ha))] 68,.map hb (Ba (mP hb) d.fEntities),.map ha (Ba (mP ha) d.fCalls),.poolw hb hk 93 94 1 (A1 (Aw ha) d_p1) none,.pool ha hg 44 (A1 A5 d_p2),.blk b1 [rS ([]:Ae),rS ([]:Ae),rS ([]:Ae),AX 1 (A1 An ([]:List (List Ab))),Ak 0,AX 4 (A1 Ac ([]:List Ab)),Ak 0,Ak 0] 44]) ((Al (i:=1) Aa).trans (Abe _ ((Al (i:=2) Aa).trans (Abe _ ((Al (i:=2) Aa).trans (Abe _ ((Al (i:=0) Aa).trans (Abe _ ((Al (i:=1) Aa).trans (Abe _ (Abg _))))))))))) ?_)))))))));obtain rfl:=At h1;exact Ar (CS V6 (Cy (i:=5) OA Ir Aa Aa Aa) (AB Aa)) (sC (sC (sC (sC (sC (sS sN)))))) ⟨hk,hg,Aa,Aa⟩
    ·refine Ap (AJ (Ai (ck h2 λhq h3=>Df [0,2,6,8] [⟨[],rP he 0,0⟩,⟨[0],rP he 0,0⟩,⟨[1],rP he 1,0⟩,⟨[2],rv hf,1⟩,⟨[],rP he 0,0⟩,⟨[4],rP he 0,0⟩,⟨[5],rP he 2,0⟩,⟨[6],Ak ((Am d_p1 (AN d.fEntities e (-1))).fDone),1⟩,⟨[3,7],rv (GL 1 hf (B6 ((Am d_p1 (AN d.fEntities e (-1))).fDone)) 0),1⟩,⟨[8],HZ ha (Am ((Am d_p1 (AN d.fEntities e (-1))).fCalls) ((Am d_p1 (AN d.fEntities e (-1))).fDone)) 0,1⟩,⟨[9],HZ ha (Am ((Am d_p1 (AN d.fEntities e (-1))).fCalls) ((Am d_p1 (AN d.fEntities e (-1))).fDone)) 0,0⟩] [10,0,2,6,8] ?_ ?_)))
     ·refine oq (Aq Aa) (oq (A4 Aa) (oq (AC Lg Aa P2 Aa Aa) (of (Bj (i:=0) V9 Aa Aa Aa) (oq (Aq Aa) (oq (A4 Aa) (oq (AC Lg Aa Ct Aa Aa) (of (Bj (i:=0) Dm Aa Aa Aa) (of (JH (i:=1) Qy XL Aa Aa Aa (Cg hq)) (of (Iy (enc:=(eP ha)) (ys:=(Am d_p1 (AN d.fEntities e (-1))).fCalls) (i:=1) (j:=(Am d_p1 (AN d.fEntities e (-1))).fDone) Tryz.isAgg94 Aa Aa hq Aa) (oq (Av Aa) ?_))))))))));exact CE
     refine AJ (Ai (ck h3 λhp h4=>ck h4 λhr h5=>ob h5 λhd h6 hA=>CK 16 [0,2,6,8,10] [⟨[],rP he 0,none,none,none⟩,⟨[0],rP he 0,none,none,none⟩,⟨[1],rP he 0,none,none,none⟩,⟨[2],AX 4 (A1 Ac ((Am d_p1 (AN d.fEntities e (-1))).fState)),none,none,none⟩,⟨[],HZ ha (Am ((Am d_p1 (AN d.fEntities e (-1))).fCalls) ((Am d_p1 (AN d.fEntities e (-1))).fDone)) 0,none,none,none⟩,⟨[4],HZ ha (Am ((Am d_p1 (AN d.fEntities e (-1))).fCalls) ((Am d_p1 (AN d.fEntities e (-1))).fDone)) 0,none,none,none⟩,⟨[5],HZ ha (Am ((Am d_p1 (AN d.fEntities e (-1))).fCalls) ((Am d_p1 (AN d.fEntities e (-1))).fDone)) 0,none,none,none⟩,⟨[6],Bq (Ay ((Am d_p2 (Am ((Am d_p1 (AN d.fEntities e (-1))).fCalls) ((Am d_p1 (AN d.fEntities e (-1))).fDone))).fOp)),none,none,none⟩,⟨[3,7],Cs [AX 4 (A1 Ac hd.1),Bq (AZ hd.2.1),Ak hd.2.2],none,none,none⟩,⟨[8],Cs [AX 4 (A1 Ac hd.1),Bq (AZ hd.2.1),Ak hd.2.2],none,none,none⟩,⟨[9],AX 4 (A1 Ac hd.1),none,none,none⟩,⟨[9],Bq (AZ hd.2.1),none,none,none⟩,⟨[9],Ak hd.2.2,none,none,none⟩,⟨[],rv undef,some ([Ak 0,rv (.slice none 0 0)],31),some (15,[Ak hd.2.1.fErr,AX 4 (A1 Ac hd.2.1.fValue)]),none⟩,⟨[10],AX 4 (A1 Ac hd.1),none,none,none⟩,⟨[11],rv undef,none,none,some 13⟩] ?_ (λβ=>?_)))
     ·refine Cu (Aq Aa) (Cu (A4 Aa) (Cu (AC Lg Aa CA Aa Aa) (KT (Bj (i:=0) Ep Aa Aa Aa) (Cu (Aq Aa) (Cu (EG Aa hp) (Cu (PQ Ma Aa C6 Aa hp Aa) (KT (Ki (enc:=A5) (xs:=d_p2) (j:=7) Em C6 Aa Aa hr Aa Aa) (Qt (If Tryz.call13 (Aam F ((Am d_p1 (AN d.fEntities e (-1))).fState) ((Am d_p2 (Am ((Am d_p1 (AN d.fEntities e (-1))).fCalls) ((Am d_p1 (AN d.fEntities e (-1))).fDone))).fOp) hd h6) Aa) (Cu (Aq Aa) (Cu (AA Aa Aa) (Cu (AA Aa Aa) (Cu (AA Aa Aa) (Z3 (O2 (cs:=[Ak 0,rv (.slice none 0 0)]) O8 Aa) (Cu (Av Aa) (oas (fun {hm hh}=>Rl (Eg (i:=0) Dc Aa Aa Aa (Bx.c Aa) Aa Aa (cs':=[Ak hd.2.1.fErr,AX 4 (A1 Ac hd.2.1.fValue)]) Aa (H':=.blk hm (AZ hd.2.1) 31::hh) Aa)) ?_)))))))))))))));exact O6
     refine Dp (H1:=[.blk he [AX 4 (A1 Ac ((Am d_p1 (AN d.fEntities e (-1))).fState)),rv hf,Ak ((Am d_p1 (AN d.fEntities e (-1))).fDone)] 93,.row hf 94 1 (A1 (eP ha) ((Am d_p1 (AN d.fEntities e (-1))).fCalls)),.poolw hb hk 93 94 1 (A1 (Aw ha) d_p1) (some (B6 (AN d.fEntities e (-1)),(he,hf))),.blk hi [Ak d.fNow,rv (.map (some hb)),rv (.map (some ha))] 68,.blk b1 [rS ([]:Ae),rS ([]:Ae),rS ([]:Ae),rv (.slice none 0 0),Ak 0,rv (.slice none 0 0),Ak 0,Ak 0] 44,.map hb (Ba (mP hb) d.fEntities),.map ha (Ba (mP ha) d.fCalls),.pool ha hg 44 (A1 A5 d_p2),.blk (β 13) (AZ hd.2.1) 31]) [65,66,67,68,69,70,71,72,73,64,74,75,76,12,11,0,2,6,8,10] ?_;generalize β 13=hm;refine wa Aa (Ao (Ai (Af (wm Aa (wv (CR Aa Aa) (Ao (cz hA Aa (λhB hC=>?_) (λhB hD=>?_))))))))
     ·refine Af (wv (r:=Bq [rS ([]:Ae),rS ([]:Ae),rS ([]:Ae),rv (.slice none 0 0),Ak 0,rv (.slice none 0 0),Ak 0,Ak 0]) (Jl ) (AP (i:=4) Ir Aa Aa Aa (Bx.c Aa) Aa Aa (cs':=[rS ([]:Ae),rS ([]:Ae),rS ([]:Ae),rv (.slice none 0 0),Ak 0,rv (.slice none 0 0),Ak 0,Ak 0]) Aa (H':=[.blk he [AX 4 (A1 Ac ((Am d_p1 (AN d.fEntities e (-1))).fState)),rv hf,Ak ((Am d_p1 (AN d.fEntities e (-1))).fDone)] 93,.row hf 94 1 (A1 (eP ha) ((Am d_p1 (AN d.fEntities e (-1))).fCalls)),.poolw hb hk 93 94 1 (A1 (Aw ha) d_p1) (some (B6 (AN d.fEntities e (-1)),(he,hf))),.blk hi [Ak d.fNow,rv (.map (some hb)),rv (.map (some ha))] 68,.blk b1 [rS ([]:Ae),rS ([]:Ae),rS ([]:Ae),rv (.slice none 0 0),Ak 0,rv (.slice none 0 0),Ak 0,Ak 0] 44,.map hb (Ba (mP hb) d.fEntities),.map ha (Ba (mP ha) d.fCalls),.pool ha hg 44 (A1 A5 d_p2),.blk hm (AZ hd.2.1) 31]) Aa (wa Aa (Ao (As (Ad (WK.putsame (encw:=(Aw ha)) (xs:=d_p1) (i:=AN d.fEntities e (-1)) (Hr:=[.blk hi [Ak d.fNow,rv (.map (some hb)),rv (.map (some ha))] 68,.blk b1 [rS ([]:Ae),rS ([]:Ae),rS ([]:Ae),rv (.slice none 0 0),Ak 0,rv (.slice none 0 0),Ak 0,Ak 0] 44,.map hb (Ba (mP hb) d.fEntities),.map ha (Ba (mP ha) d.fCalls),.pool ha hg 44 (A1 A5 d_p2),.blk hm (AZ hd.2.1) 31]) (Abg _) g15 [8,65,66,67] ⟨Aa,Aa,Aa,Aa,trivial⟩ Aa Aa (WK.upBlk (i:=2) (cs':=[rS ([]:Ae),rS ([]:Ae),rS ([]:Ae),AX 1 (A1 An ([]:List (List Ab))),Ak 0,AX 4 (A1 Ac ([]:List Ab)),Ak 0,Ak 0]) Aa ⟨Up.refl _,Up.refl _,Up.refl _,Up.le (DZ.nil _),Up.refl _,Up.le (DZ.nil _),Up.refl _,Up.refl _,trivial⟩ (BO (H2:=[.blk hi [Ak d.fNow,rv (.map (some hb)),rv (.map (some ha))] 68,.map hb (Ba (mP hb) d.fEntities),.map ha (Ba (mP ha) d.fCalls),.poolw hb hk 93 94 1 (A1 (Aw ha) d_p1) none,.pool ha hg 44 (A1 A5 d_p2),.blk b1 [rS ([]:Ae),rS ([]:Ae),rS ([]:Ae),AX 1 (A1 An ([]:List (List Ab))),Ak 0,AX 4 (A1 Ac ([]:List Ab)),Ak 0,Ak 0] 44,.blk hm (AZ hd.2.1) 31]) ((Al (i:=1) Aa).trans (Abe _ ((Al (i:=2) Aa).trans (Abe _ ((Al (i:=2) Aa).trans (Abe _ ((Al (i:=0) Aa).trans (Abe _ ((Al (i:=1) Aa).trans (Abe _ (Abg _))))))))))) ?_)))))))));obtain rfl:=At hC;exact Ar (CS V6 (Cy (i:=5) OA Ir Aa Aa Aa) (AB Aa)) (sC (sC (sC (sC (sC (sS (sS sN))))))) ⟨hk,hg,Aa,Aa⟩
     ·refine Ap (AJ (Af (wm Aa (wm Aa (wv (A4 Aa) (vF Lg Aa CA (BC (i:=0) CA Aa Aa (Cl Aa) Aa Aa (cs':=[AX 4 (A1 Ac hd.1),rv hf,Ak ((Am d_p1 (AN d.fEntities e (-1))).fDone)]) Aa (H':=[.blk he [AX 4 (A1 Ac hd.1),rv hf,Ak ((Am d_p1 (AN d.fEntities e (-1))).fDone)] 93,.row hf 94 1 (A1 (eP ha) ((Am d_p1 (AN d.fEntities e (-1))).fCalls)),.poolw hb hk 93 94 1 (A1 (Aw ha) d_p1) (some (B6 (AN d.fEntities e (-1)),(he,hf))),.blk hi [Ak d.fNow,rv (.map (some hb)),rv (.map (some ha))] 68,.blk b1 [rS ([]:Ae),rS ([]:Ae),rS ([]:Ae),rv (.slice none 0 0),Ak 0,rv (.slice none 0 0),Ak 0,Ak 0] 44,.map hb (Ba (mP hb) d.fEntities),.map ha (Ba (mP ha) d.fCalls),.pool ha hg 44 (A1 A5 d_p2),.blk hm (AZ hd.2.1) 31]) Aa (Bs (wm Aa (wv (A4 Aa) (vF Lg Aa Ct (vL 0 Dm Aa (ck hD λhE hG=>wv (Bh Aa Aa hE) (wv (A4 Aa) (vF Lg Aa Ct (BC (i:=0) Ct Aa Aa (Cl Aa) Aa Aa (cs':=[AX 4 (A1 Ac hd.1),rv hf,Ak (((Am d_p1 (AN d.fEntities e (-1))).fDone)+1)]) Aa (H':=[.blk he [AX 4 (A1 Ac hd.1),rv hf,Ak (((Am d_p1 (AN d.fEntities e (-1))).fDone)+1)] 93,.row hf 94 1 (A1 (eP ha) ((Am d_p1 (AN d.fEntities e (-1))).fCalls)),.poolw hb hk 93 94 1 (A1 (Aw ha) d_p1) (some (B6 (AN d.fEntities e (-1)),(he,hf))),.blk hi [Ak d.fNow,rv (.map (some hb)),rv (.map (some ha))] 68,.blk b1 [rS ([]:Ae),rS ([]:Ae),rS ([]:Ae),rv (.slice none 0 0),Ak 0,rv (.slice none 0 0),Ak 0,Ak 0] 44,.map hb (Ba (mP hb) d.fEntities),.map ha (Ba (mP ha) d.fCalls),.pool ha hg 44 (A1 A5 d_p2),.blk hm (AZ hd.2.1) 31]) Aa (Bs (wm Aa (wm Aa (wv (A4 Aa) (vF J2 Aa Ct (BC (i:=3) Ct Aa Aa (Cl Aa) Aa Aa (cs':=[Ak now,rv (.map (some hb)),rv (.map (some ha))]) Aa (H':=[.blk he [AX 4 (A1 Ac hd.1),rv hf,Ak (((Am d_p1 (AN d.fEntities e (-1))).fDone)+1)] 93,.row hf 94 1 (A1 (eP ha) ((Am d_p1 (AN d.fEntities e (-1))).fCalls)),.poolw hb hk 93 94 1 (A1 (Aw ha) d_p1) (some (B6 (AN d.fEntities e (-1)),(he,hf))),.blk hi [Ak now,rv (.map (some hb)),rv (.map (some ha))] 68,.blk b1 [rS ([]:Ae),rS ([]:Ae),rS ([]:Ae),rv (.slice none 0 0),Ak 0,rv (.slice none 0 0),Ak 0,Ak 0] 44,.map hb (Ba (mP hb) d.fEntities),.map ha (Ba (mP ha) d.fCalls),.pool ha hg 44 (A1 A5 d_p2),.blk hm (AZ hd.2.1) 31]) Aa ?_))))))))))))))))))))));refine Bs (wm Aa (wm Aa (wv (Bw (i:=8) HY Dc Aa Aa Aa Aa) (wm Aa (wv (r:=HZ ha (Am ((Am d_p1 (AN d.fEntities e (-1))).fCalls) ((Am d_p1 (AN d.fEntities e (-1))).fDone)) 0) (EG Aa hp) (wv (r:=HZ ha (Am ((Am d_p1 (AN d.fEntities e (-1))).fCalls) ((Am d_p1 (AN d.fEntities e (-1))).fDone)) 4) (PQ Ma Aa Dc Aa hp Aa) (Sl (enc:=A5) (xs:=d_p2) (y':=(AV.mk ((Am d_p2 (Am ((Am d_p1 (AN d.fEntities e (-1))).fCalls) ((Am d_p1 (AN d.fEntities e (-1))).fDone))).fOp) hd.2.1 ((Am d_p2 (Am ((Am d_p1 (AN d.fEntities e (-1))).fCalls) ((Am d_p1 (AN d.fEntities e (-1))).fDone))).fFrom) ((Am d_p2 (Am ((Am d_p1 (AN d.fEntities e (-1))).fCalls) ((Am d_p1 (AN d.fEntities e (-1))).fDone))).fTo))) (j:=7) Dc Aa Aa Aa (Bx.c Aa) Aa hr Aa Aa (H':=[.blk he [AX 4 (A1 Ac hd.1),rv hf,Ak (((Am d_p1 (AN d.fEntities e (-1))).fDone)+1)] 93,.row hf 94 1 (A1 (eP ha) ((Am d_p1 (AN d.fEntities e (-1))).fCalls)),.poolw hb hk 93 94 1 (A1 (Aw ha) d_p1) (some (B6 (AN d.fEntities e (-1)),(he,hf))),.blk hi [Ak now,rv (.map (some hb)),rv (.map (some ha))] 68,.blk b1 [rS ([]:Ae),rS ([]:Ae),rS ([]:Ae),rv (.slice none 0 0),Ak 0,rv (.slice none 0 0),Ak 0,Ak 0] 44,.map hb (Ba (mP hb) d.fEntities),.map ha (Ba (mP ha) d.fCalls),.pool ha hg 44 (A1 A5 (List.set d_p2 (B6 (Am ((Am d_p1 (AN d.fEntities e (-1))).fCalls) ((Am d_p1 (AN d.fEntities e (-1))).fDone))) (AV.mk ((Am d_p2 (Am ((Am d_p1 (AN d.fEntities e (-1))).fCalls) ((Am d_p1 (AN d.fEntities e (-1))).fDone))).fOp) hd.2.1 ((Am d_p2 (Am ((Am d_p1 (AN d.fEntities e (-1))).fCalls) ((Am d_p1 (AN d.fEntities e (-1))).fDone))).fFrom) ((Am d_p2 (Am ((Am d_p1 (AN d.fEntities e (-1))).fCalls) ((Am d_p1 (AN d.fEntities e (-1))).fDone))).fTo)))),.blk hm (AZ hd.2.1) 31]) Aa (bd hG λho hH hI=>?_))))))));rw[← hH];refine wv (r:=HZ ha (Am ((Am d_p1 (AN d.fEntities e (-1))).fCalls) ((Am d_p1 (AN d.fEntities e (-1))).fDone)) 0) (EG Aa hp) (wv (r:=HZ ha (Am ((Am d_p1 (AN d.fEntities e (-1))).fCalls) ((Am d_p1 (AN d.fEntities e (-1))).fDone)) 7) (PQ Ma Aa Ct Aa hp Aa) (ck hI λhJ hK=>Uo (enc:=A5) (xs:=ho) (y':=(AV.mk ((Am ho (Am ((Am d_p1 (AN d.fEntities e (-1))).fCalls) ((Am d_p1 (AN d.fEntities e (-1))).fDone))).fOp) ((Am ho (Am ((Am d_p1 (AN d.fEntities e (-1))).fCalls) ((Am d_p1 (AN d.fEntities e (-1))).fDone))).fAnswer) ((Am ho (Am ((Am d_p1 (AN d.fEntities e (-1))).fCalls) ((Am d_p1 (AN d.fEntities e (-1))).fDone))).fFrom) now)) (j:=7) Ct Aa Aa (Cl Aa) Aa hJ Aa Aa (H':=[.blk he [AX 4 (A1 Ac hd.1),rv hf,Ak (((Am d_p1 (AN d.fEntities e (-1))).fDone)+1)] 93,.row hf 94 1 (A1 (eP ha) ((Am d_p1 (AN d.fEntities e (-1))).fCalls)),.poolw hb hk 93 94 1 (A1 (Aw ha) d_p1) (some (B6 (AN d.fEntities e (-1)),(he,hf))),.blk hi [Ak now,rv (.map (some hb)),rv (.map (some ha))] 68,.blk b1 [rS ([]:Ae),rS ([]:Ae),rS ([]:Ae),rv (.slice none 0 0),Ak 0,rv (.slice none 0 0),Ak 0,Ak 0] 44,.map hb (Ba (mP hb) d.fEntities),.map ha (Ba (mP ha) d.fCalls),.pool ha hg 44 (A1 A5 (List.set ho (B6 (Am ((Am d_p1 (AN d.fEntities e (-1))).fCalls) ((Am d_p1 (AN d.fEntities e (-1))).fDone))) (AV.mk ((Am ho (Am ((Am d_p1 (AN d.fEntities e (-1))).fCalls) ((Am d_p1 (AN d.fEntities e (-1))).fDone))).fOp) ((Am ho (Am ((Am d_p1 (AN d.fEntities e (-1))).fCalls) ((Am d_p1 (AN d.fEntities e (-1))).fDone))).fAnswer) ((Am ho (Am ((Am d_p1 (AN d.fEntities e (-1))).fCalls) ((Am d_p1 (AN d.fEntities e (-1))).fDone))).fFrom) now))),.blk hm (AZ hd.2.1) 31]) Aa (bd hK λhl hL hN=>?_)));rw[← hL];refine Bs (wm Aa (wv (r:=HZ ha (Am ((Am d_p1 (AN d.fEntities e (-1))).fCalls) ((Am d_p1 (AN d.fEntities e (-1))).fDone)) 0) (EG Aa hp) (ck hN λhO hP=>wv (r:=Bq [rS (((Am hl (Am ((Am d_p1 (AN d.fEntities e (-1))).fCalls) ((Am d_p1 (AN d.fEntities e (-1))).fDone))).fOp).fEntity),rS (((Am hl (Am ((Am d_p1 (AN d.fEntities e (-1))).fCalls) ((Am d_p1 (AN d.fEntities e (-1))).fDone))).fOp).fID),rS (((Am hl (Am ((Am d_p1 (AN d.fEntities e (-1))).fCalls) ((Am d_p1 (AN d.fEntities e (-1))).fDone))).fOp).fOp),AX 1 (A1 An (((Am hl (Am ((Am d_p1 (AN d.fEntities e (-1))).fCalls) ((Am d_p1 (AN d.fEntities e (-1))).fDone))).fOp).fArgs)),Ak (((Am hl (Am ((Am d_p1 (AN d.fEntities e (-1))).fCalls) ((Am d_p1 (AN d.fEntities e (-1))).fDone))).fAnswer).fErr),AX 4 (A1 Ac (((Am hl (Am ((Am d_p1 (AN d.fEntities e (-1))).fCalls) ((Am d_p1 (AN d.fEntities e (-1))).fDone))).fAnswer).fValue)),Ak ((Am hl (Am ((Am d_p1 (AN d.fEntities e (-1))).fCalls) ((Am d_p1 (AN d.fEntities e (-1))).fDone))).fFrom),Ak ((Am hl (Am ((Am d_p1 (AN d.fEntities e (-1))).fCalls) ((Am d_p1 (AN d.fEntities e (-1))).fDone))).fTo)]) (Ki (enc:=A5) (xs:=hl) (j:=7) OA Ir Aa Aa hO Aa Aa) (ob hP λhn hQ hR=>Cn Tryz.call52 (Pf F (AV.mk ((Am hl (Am ((Am d_p1 (AN d.fEntities e (-1))).fCalls) ((Am d_p1 (AN d.fEntities e (-1))).fDone))).fOp) ((Am hl (Am ((Am d_p1 (AN d.fEntities e (-1))).fCalls) ((Am d_p1 (AN d.fEntities e (-1))).fDone))).fAnswer) ((Am hl (Am ((Am d_p1 (AN d.fEntities e (-1))).fCalls) ((Am d_p1 (AN d.fEntities e (-1))).fDone))).fFrom) ((Am hl (Am ((Am d_p1 (AN d.fEntities e (-1))).fCalls) ((Am d_p1 (AN d.fEntities e (-1))).fDone))).fTo)) hn hQ) Aa (AP (i:=4) Ir Aa Aa Aa (Bx.c Aa) Aa Aa (cs':=[rS hn.fOp.fEntity,rS hn.fOp.fID,rS hn.fOp.fOp,AX 1 (A1 An hn.fOp.fArgs),Ak hn.fAnswer.fErr,AX 4 (A1 Ac hn.fAnswer.fValue),Ak hn.fFrom,Ak hn.fTo]) Aa (H':=[.blk he [AX 4 (A1 Ac hd.1),rv hf,Ak (((Am d_p1 (AN d.fEntities e (-1))).fDone)+1)] 93,.row hf 94 1 (A1 (eP ha) ((Am d_p1 (AN d.fEntities e (-1))).fCalls)),.poolw hb hk 93 94 1 (A1 (Aw ha) d_p1) (some (B6 (AN d.fEntities e (-1)),(he,hf))),.blk hi [Ak now,rv (.map (some hb)),rv (.map (some ha))] 68,.blk b1 (A5 hn) 44,.map hb (Ba (mP hb) d.fEntities),.map ha (Ba (mP ha) d.fCalls),.pool ha hg 44 (A1 A5 hl),.blk hm (AZ hd.2.1) 31]) Aa (wa Aa (Ao (As (WK.putback (y:=(A9.mk hd.1 ((Am d_p1 (AN d.fEntities e (-1))).fCalls) (((Am d_p1 (AN d.fEntities e (-1))).fDone)+1))) (encw:=(Aw ha)) (xs:=d_p1) (i:=AN d.fEntities e (-1)) (Hr:=[.blk hi [Ak now,rv (.map (some hb)),rv (.map (some ha))] 68,.blk b1 (A5 hn) 44,.map hb (Ba (mP hb) d.fEntities),.map ha (Ba (mP ha) d.fCalls),.pool ha hg 44 (A1 A5 hl),.blk hm (AZ hd.2.1) 31]) (Abg _) g15 [8,65,66,67,80,82,83,84,85,89] ⟨Aa,Aa,Aa,Aa,Aa,Aa,Aa,Aa,Aa,Aa,trivial⟩ Aa Aa (λhs=>?_))))))))));refine BO (H2:=[.blk hi [Ak now,rv (.map (some hb)),rv (.map (some ha))] 68,.map hb (Ba (mP hb) d.fEntities),.map ha (Ba (mP ha) d.fCalls),.poolw hb hs 93 94 1 (A1 (Aw ha) (List.set d_p1 (B6 (AN d.fEntities e (-1))) (A9.mk hd.1 ((Am d_p1 (AN d.fEntities e (-1))).fCalls) (((Am d_p1 (AN d.fEntities e (-1))).fDone)+1)))) none,.pool ha hg 44 (A1 A5 hl),.blk b1 (A5 hn) 44,.blk hm (AZ hd.2.1) 31]) ((Al (i:=1) Aa).trans (Abe _ ((Al (i:=2) Aa).trans (Abe _ ((Al (i:=2) Aa).trans (Abe _ ((Al (i:=0) Aa).trans (Abe _ ((Al (i:=1) Aa).trans (Abe _ (Abg _))))))))))) ?_;obtain rfl:=At hR;exact Ar (CS V6 (Cy (i:=5) OA Ir Aa Aa Aa) (AB Aa)) (sC (sC (sC (sC (sC (sS (sS sN))))))) ⟨hs,hg,Aa,Aa⟩
   ·refine Df [0,2,6,8,9] [⟨[],rB (C2 d.fEntities e),0⟩,⟨[0],rB (!(C2 d.fEntities e)),0⟩,⟨[1],rB (!(C2 d.fEntities e)),0⟩,⟨[2],rv undef,0⟩,⟨[3,2],rv undef,0⟩,⟨[4,2],rv undef,0⟩,⟨[5,2],rv undef,0⟩,⟨[2],rv undef,0⟩,⟨[7,2],rv undef,0⟩,⟨[8,2],rv undef,0⟩,⟨[9,2],rv undef,0⟩,⟨[10,2],rv undef,0⟩,⟨[6,11,2],rv undef,0⟩,⟨[2,12],rB true,0⟩] [52,0,2,6,8] ?_ ?_
    ·refine oq (Aq Aa) (oq (BW Aa) (oq (Aq Aa) (DH Aa (λH=>HL (b:=!(C2 d.fEntities e)) Aa Aa (IO hj)) ?_)));refine DH Aa (λH=>HL (b:=!(C2 d.fEntities e)) Aa Aa (IO hj)) ?_;refine DH Aa (λH=>HL (b:=!(C2 d.fEntities e)) Aa Aa (IO hj)) ?_;refine DH Aa (λH=>HL (b:=!(C2 d.fEntities e)) Aa Aa (IO hj)) ?_;refine DH Aa (λH=>HL (b:=!(C2 d.fEntities e)) Aa Aa (IO hj)) ?_;refine DH Aa (λH=>HL (b:=!(C2 d.fEntities e)) Aa Aa (IO hj)) ?_;refine DH Aa (λH=>HL (b:=!(C2 d.fEntities e)) Aa Aa (IO hj)) ?_;refine DH Aa (λH=>HL (b:=!(C2 d.fEntities e)) Aa Aa (IO hj)) ?_;refine DH Aa (λH=>HL (b:=!(C2 d.fEntities e)) Aa Aa (IO hj)) ?_;refine DH Aa (λH=>HL (b:=!(C2 d.fEntities e)) Aa Aa (IO hj)) ?_;refine oq (Ax (b:=!(C2 d.fEntities e)) Aa (IO hj) Aa) ?_;exact CE
    refine AJ (Ef Aa Aa (Af (wv (r:=Bq [rS ([]:Ae),rS ([]:Ae),rS ([]:Ae),rv (.slice none 0 0),Ak 0,rv (.slice none 0 0),Ak 0,Ak 0]) (Jl ) (AP (i:=1) Ir Aa Aa Aa (Bx.c Aa) Aa Aa (cs':=[rS ([]:Ae),rS ([]:Ae),rS ([]:Ae),rv (.slice none 0 0),Ak 0,rv (.slice none 0 0),Ak 0,Ak 0]) Aa (H':=[.blk hi [Ak d.fNow,rv (.map (some hb)),rv (.map (some ha))] 68,.blk b1 [rS ([]:Ae),rS ([]:Ae),rS ([]:Ae),rv (.slice none 0 0),Ak 0,rv (.slice none 0 0),Ak 0,Ak 0] 44,.map hb (Ba (mP hb) d.fEntities),.map ha (Ba (mP ha) d.fCalls),.poolw hb hk 93 94 1 (A1 (Aw ha) d_p1) none,.pool ha hg 44 (A1 A5 d_p2)]) Aa (wa Aa (Ao (As (Ad (WK.upBlk (i:=1) (cs':=[rS ([]:Ae),rS ([]:Ae),rS ([]:Ae),AX 1 (A1 An ([]:List (List Ab))),Ak 0,AX 4 (A1 Ac ([]:List Ab)),Ak 0,Ak 0]) Aa ⟨Up.refl _,Up.refl _,Up.refl _,Up.le (DZ.nil _),Up.refl _,Up.le (DZ.nil _),Up.refl _,Up.refl _,trivial⟩ ?_)))))))));obtain rfl:=At hy;exact Ar (CS V6 (Cy (i:=1) OA Ir Aa Aa Aa) (AB Aa)) (sC (sS (sC (sC (sC (sC sN)))))) ⟨hk,hg,Aa,Aa⟩
theorem W2 (hd:Nat)(hb:Nat)(ha:Nat)(hf:Value)(he:Value)(d:Bf)(d_p1:(List A9))(d_p2:(List AV))(e:Ae)(r:(List Ab))(h:SG d d_p1 d_p2 e=some r):Fn Tryz.prog GE 21 [rP hd 0,rS e] [.blk hd [Ak d.fNow,rv (.map (some hb)),rv (.map (some ha))] 68,.map hb (Ba (mP hb) d.fEntities),.map ha (Ba (mP ha) d.fCalls),.poolw hb hf 93 94 1 (A1 (Aw ha) d_p1) none,.pool ha he 44 (A1 A5 d_p2)] (λR H=>R=AX 4 (A1 Ac r)∧H=[.blk hd [Ak d.fNow,rv (.map (some hb)),rv (.map (some ha))] 68,.map hb (Ba (mP hb) d.fEntities),.map ha (Ba (mP ha) d.fCalls),.poolw hb hf 93 94 1 (A1 (Aw ha) d_p1) none,.pool ha he 44 (A1 A5 d_p2)]):=by
 refine enter (n:=25) Tryz.func21 Aa Tryz.ntmps21 Aa (λw Z=>?_);unfold SG at h;refine Af (wa Aa (Ao (Ai (Af (wm Aa (GX (Hr:=[.map hb (Ba (mP hb) d.fEntities),.map ha (Ba (mP ha) d.fCalls),.poolw hb hf 93 94 1 (A1 (Aw ha) d_p1) none,.pool ha he 44 (A1 A5 d_p2)]) V8 (LD hd hb ha d true Aa) Aa (Abg _) Aa ?_))))));rintro _ _ ⟨rfl,rfl⟩;refine Ao (Ef Aa Aa (Af (wm Aa (wv (A4 Aa) (vF J2 Aa Q2 (vL 0 Q9 Aa (wm Aa (wv (r:=Cs [HZ hb (AN d.fEntities e (-1)) 0,rB (C2 d.fEntities e)]) (Kh (enc:=(mP hb)) (xs:=d.fEntities) (z:=(-1)) (i:=1) RX BZ XG (WE hb) Aa Aa Aa) (wm Aa (wv (AA Aa Aa) (wv (AA Aa Aa) (wa Aa (wa Aa (Bs (wm Aa (Ao (cz h Aa (λc1 h2=>?_) (λc1 hg=>?_))))))))))))))))))
 ·refine Af (wm Aa (ck h2 λg3 h4=>WL.takeout (encw:=(Aw ha)) (xs:=d_p1) (i:=AN d.fEntities e (-1)) (Hr:=[.blk hd [Ak d.fNow,rv (.map (some hb)),rv (.map (some ha))] 68,.map hb (Ba (mP hb) d.fEntities),.map ha (Ba (mP ha) d.fCalls),.pool ha he 44 (A1 A5 d_p2)]) ((Al (i:=3) Aa).trans (Abe _ (Abg _))) g3 [5,16,19] ⟨Aa,Aa,Aa,trivial⟩ (λb5 v6=>?_)));refine P3 (H':=[.blk b5 [AX 4 (A1 Ac ((Am d_p1 (AN d.fEntities e (-1))).fState)),rv v6,Ak ((Am d_p1 (AN d.fEntities e (-1))).fDone)] 93,.row v6 94 1 (A1 (eP ha) ((Am d_p1 (AN d.fEntities e (-1))).fCalls)),.poolw hb hf 93 94 1 (A1 (Aw ha) d_p1) (some (B6 (AN d.fEntities e (-1)),(b5,v6))),.blk hd [Ak d.fNow,rv (.map (some hb)),rv (.map (some ha))] 68,.map hb (Ba (mP hb) d.fEntities),.map ha (Ba (mP ha) d.fCalls),.pool ha he 44 (A1 A5 d_p2)]) Aa (wv (A4 Aa) (vF Lg Aa CA (vL 0 Ep Aa (ob h4 λr7 e9 h8=>Cn MZ (Ec ((Am d_p1 (AN d.fEntities e (-1))).fState) r7 e9) Aa (wa Aa (Ao (As (Ad (WK.putsame (encw:=(Aw ha)) (xs:=d_p1) (i:=AN d.fEntities e (-1)) (Hr:=[.blk hd [Ak d.fNow,rv (.map (some hb)),rv (.map (some ha))] 68,.map hb (Ba (mP hb) d.fEntities),.map ha (Ba (mP ha) d.fCalls),.pool ha he 44 (A1 A5 d_p2)]) (Abg _) g3 [5,16,19,20,21] ⟨Aa,Aa,Aa,Aa,Aa,trivial⟩ Aa Aa (BO (H2:=[.blk hd [Ak d.fNow,rv (.map (some hb)),rv (.map (some ha))] 68,.map hb (Ba (mP hb) d.fEntities),.map ha (Ba (mP ha) d.fCalls),.poolw hb hf 93 94 1 (A1 (Aw ha) d_p1) none,.pool ha he 44 (A1 A5 d_p2)]) ((Al (i:=1) Aa).trans (Abe _ ((Al (i:=1) Aa).trans (Abe _ ((Al (i:=1) Aa).trans (Abe _ (Abg _))))))) ?_))))))))));obtain rfl:=At h8;exact Ar (BY Tryz.results21 (AB Aa)) (sC (sC (sC (sC (sC sN))))) ⟨Aa,Aa⟩
 ·refine Ap (AJ (Af (ob hg λhh hi hj=>Cn Tryz.call54 (P7 hh hi) Aa (wa Aa (Ao (As ?_))))));obtain rfl:=At hj;exact Ar (BY Tryz.results21 (AB Aa)) (sC (sC (sC (sC (sC sN))))) ⟨Aa,Aa⟩
theorem W7 (F:Nat)(he:Nat)(hb:Nat)(ha:Nat)(hh:Value)(hg:Value)(d:Bf)(d_p1:(List A9))(d_p2:(List AV))(e:Ae)(r:(List AV))(h:SL F d d_p1 d_p2 e=some r):Fn Tryz.prog GE 23 [rP he 0,rS e] [.blk he [Ak d.fNow,rv (.map (some hb)),rv (.map (some ha))] 68,.map hb (Ba (mP hb) d.fEntities),.map ha (Ba (mP ha) d.fCalls),.poolw hb hh 93 94 1 (A1 (Aw ha) d_p1) none,.pool ha hg 44 (A1 A5 d_p2)] (λR H=>R=AX 8 (A1 A5 r)∧H=[.blk he [Ak d.fNow,rv (.map (some hb)),rv (.map (some ha))] 68,.map hb (Ba (mP hb) d.fEntities),.map ha (Ba (mP ha) d.fCalls),.poolw hb hh 93 94 1 (A1 (Aw ha) d_p1) none,.pool ha hg 44 (A1 A5 d_p2)]):=by
 refine enter (n:=42) Tryz.func23 Aa Tryz.ntmps23 Aa (λw Z=>?_);unfold SL at h;refine Af (wa Aa (Ao (Ai (Af (wm Aa (GX (Hr:=[.map hb (Ba (mP hb) d.fEntities),.map ha (Ba (mP ha) d.fCalls),.poolw hb hh 93 94 1 (A1 (Aw ha) d_p1) none,.pool ha hg 44 (A1 A5 d_p2)]) V8 (LD he hb ha d true Aa) Aa (Abg _) Aa ?_))))));rintro _ _ ⟨rfl,rfl⟩;refine wv (BW Aa) (Ao (EB Aa (EH Aa) (Ap (AJ (Af (wm Aa (wv (A4 Aa) (vF J2 Aa Q2 (vL 0 Q9 Aa (wm Aa (wv (r:=Cs [HZ hb (AN d.fEntities e (-1)) 0,rB (C2 d.fEntities e)]) (Kh (enc:=(mP hb)) (xs:=d.fEntities) (z:=(-1)) (i:=1) RX BZ XG (WE hb) Aa Aa Aa) (wm Aa (wv (AA Aa Aa) (wv (AA Aa Aa) (wa Aa (wa Aa (Ao (Ai (Af (wm Aa (wv (BW Aa) (Ao (cz h Aa (λc1 h2=>?_) (λc1 h3=>?_))))))))))))))))))))))))
 ·refine Af (wa Aa (Ao (As (Ad (WK.up (d:=4) (r:=AX 8 (A1 A5 ([]:List AV))) Aa (Up.le (DZ.nil _)) ?_)))));obtain rfl:=At h2;exact Ar (BY Tryz.results23 (AB Aa)) (sC (sC (sC (sC (sC sN))))) ⟨Aa,Aa⟩
 ·refine Ap (AJ (Af (wa Aa (Ao (Ai (Af (wm Aa (ck h3 λg4 h5=>WL.takeout (encw:=(Aw ha)) (xs:=d_p1) (i:=AN d.fEntities e (-1)) (Hr:=[.blk he [Ak d.fNow,rv (.map (some hb)),rv (.map (some ha))] 68,.map hb (Ba (mP hb) d.fEntities),.map ha (Ba (mP ha) d.fCalls),.pool ha hg 44 (A1 A5 d_p2)]) ((Al (i:=3) Aa).trans (Abe _ (Abg _))) g4 [5,20,24] ⟨Aa,Aa,Aa,trivial⟩ (λb6 v7=>?_)))))))));refine P3 (H':=[.blk b6 [AX 4 (A1 Ac ((Am d_p1 (AN d.fEntities e (-1))).fState)),rv v7,Ak ((Am d_p1 (AN d.fEntities e (-1))).fDone)] 93,.row v7 94 1 (A1 (eP ha) ((Am d_p1 (AN d.fEntities e (-1))).fCalls)),.poolw hb hh 93 94 1 (A1 (Aw ha) d_p1) (some (B6 (AN d.fEntities e (-1)),(b6,v7))),.blk he [Ak d.fNow,rv (.map (some hb)),rv (.map (some ha))] 68,.map hb (Ba (mP hb) d.fEntities),.map ha (Ba (mP ha) d.fCalls),.pool ha hg 44 (A1 A5 d_p2)]) Aa (wv (A4 Aa) (vF Lg Aa P2 (vL 0 V9 Aa (wv (D4 (ys:=(Am d_p1 (AN d.fEntities e (-1))).fCalls) (enc:=(eP ha)) (i:=1) Qy Aa Aa) (wv (r:=Ak 0) (Aq Aa) (Ao (AL (WC.nilrow (e:=44) (sz:=8) (GH (H2:=[.blk b6 [AX 4 (A1 Ac ((Am d_p1 (AN d.fEntities e (-1))).fState)),rv v7,Ak ((Am d_p1 (AN d.fEntities e (-1))).fDone)] 93,.row v7 94 1 (A1 (eP ha) ((Am d_p1 (AN d.fEntities e (-1))).fCalls)),.poolw hb hh 93 94 1 (A1 (Aw ha) d_p1) (some (B6 (AN d.fEntities e (-1)),(b6,v7))),.blk he [Ak d.fNow,rv (.map (some hb)),rv (.map (some ha))] 68,.map hb (Ba (mP hb) d.fEntities),.map ha (Ba (mP ha) d.fCalls),.pool ha hg 44 (A1 A5 d_p2),.row (.slice none 0 0                                            ) 44 8 (A1 A5 ([]:List AV))]) ((Al (i:=1) Aa).trans (Abe _ ((Al (i:=1) Aa).trans (Abe _ ((Al (i:=1) Aa).trans (Abe _ ((Al (i:=1) Aa).trans (Abe _ ((Al (i:=1) Aa).trans (Abe _ ((Al (i:=1) Aa).trans (Abe _ ((Al (i:=1) Aa).trans (Abe _ (Abg _))))))))))))))) (ob h5 λhq hr hs=>B4 (S:=Nat×((List AV)×Int)×(Value)) (V:=((List AV))×(Value)) 0 (λσ=>Ca (λσ=>Kq F d d_p1 d_p2 e σ.1 σ.2) σ.1 σ.2.1=some hq) (λσ=>[(7,rv σ.2.2),(27,rv v7),(28,Ak (((Am d_p1 (AN d.fEntities e (-1))).fCalls).length:Int)),(29,Ak σ.2.1.2)]) (λσ=>[.blk b6 [AX 4 (A1 Ac ((Am d_p1 (AN d.fEntities e (-1))).fState)),rv v7,Ak ((Am d_p1 (AN d.fEntities e (-1))).fDone)] 93,.row v7 94 1 (A1 (eP ha) ((Am d_p1 (AN d.fEntities e (-1))).fCalls)),.poolw hb hh 93 94 1 (A1 (Aw ha) d_p1) (some (B6 (AN d.fEntities e (-1)),(b6,v7))),.blk he [Ak d.fNow,rv (.map (some hb)),rv (.map (some ha))] 68,.map hb (Ba (mP hb) d.fEntities),.map ha (Ba (mP ha) d.fCalls),.pool ha hg 44 (A1 A5 d_p2),.row σ.2.2 44 8 (A1 A5 σ.2.1.1)]) (λσ=>σ.1) (F,(([]:List AV),0),(.slice none 0 0                                            )) hr (AM.c Aa (AM.c Aa (AM.c Aa (AM.c Aa AM.nil)))) (sC (sC (sC (sC (sC (sC (sC (sC sN)))))))) (λσ=>Ko σ.1=some r) (λσ=>[(7,rv σ.2)]) (λσ=>[.blk b6 [AX 4 (A1 Ac ((Am d_p1 (AN d.fEntities e (-1))).fState)),rv v7,Ak ((Am d_p1 (AN d.fEntities e (-1))).fDone)] 93,.row v7 94 1 (A1 (eP ha) ((Am d_p1 (AN d.fEntities e (-1))).fCalls)),.poolw hb hh 93 94 1 (A1 (Aw ha) d_p1) (some (B6 (AN d.fEntities e (-1)),(b6,v7))),.blk he [Ak d.fNow,rv (.map (some hb)),rv (.map (some ha))] 68,.map hb (Ba (mP hb) d.fEntities),.map ha (Ba (mP ha) d.fCalls),.pool ha hg 44 (A1 A5 d_p2),.row σ.2 44 8 (A1 A5 σ.1)]) ?_ ?_))))))))))
  ·rintro⟨hI,⟨hi,hd⟩,v46⟩ ht;refine Cd (l':=[(7,rv v46),(27,rv v7),(28,Ak (((Am d_p1 (AN d.fEntities e (-1))).fCalls).length:Int)),(29,Ak hd)]) (H':=[.blk b6 [AX 4 (A1 Ac ((Am d_p1 (AN d.fEntities e (-1))).fState)),rv v7,Ak ((Am d_p1 (AN d.fEntities e (-1))).fDone)] 93,.row v7 94 1 (A1 (eP ha) ((Am d_p1 (AN d.fEntities e (-1))).fCalls)),.poolw hb hh 93 94 1 (A1 (Aw ha) d_p1) (some (B6 (AN d.fEntities e (-1)),(b6,v7))),.blk he [Ak d.fNow,rv (.map (some hb)),rv (.map (some ha))] 68,.map hb (Ba (mP hb) d.fEntities),.map ha (Ba (mP ha) d.fCalls),.pool ha hg 44 (A1 A5 d_p2),.row v46 44 8 (A1 A5 hi)]) Aa Aa ?_;obtain⟨hu,rfl,hw,hk,hn⟩:=Cz ht;replace hk:Kq F d d_p1 d_p2 e hi hd=some hw:=hk;unfold Kq at hk;refine Af (wv (Ch Aa Aa) (Ao (Ai (cz hk Aa (λhx hy=>?_) (λhx hz=>?_)))))
   ·refine Ap (AJ (Ai (AL (Af (ck hy λho h0=>wv (r:=rv (GL 1 v7 (B6 hd) 0)) (JH (i:=1) Qy XL Aa Aa Aa (Cg ho)) (wv (r:=HZ ha (Am ((Am d_p1 (AN d.fEntities e (-1))).fCalls) hd) 0) (Iy (enc:=(eP ha)) (ys:=(Am d_p1 (AN d.fEntities e (-1))).fCalls) (i:=1) (j:=hd) Tryz.isAgg94 Aa Aa ho Aa) (wa Aa (Ao (Ah (wm Aa (wm Aa (ck h0 λh1 h4=>wv (r:=HZ ha (Am ((Am d_p1 (AN d.fEntities e (-1))).fCalls) hd) 0) (EG Aa h1) (ck h4 λh6 h7=>wv (r:=Bq [rS (((Am d_p2 (Am ((Am d_p1 (AN d.fEntities e (-1))).fCalls) hd)).fOp).fEntity),rS (((Am d_p2 (Am ((Am d_p1 (AN d.fEntities e (-1))).fCalls) hd)).fOp).fID),rS (((Am d_p2 (Am ((Am d_p1 (AN d.fEntities e (-1))).fCalls) hd)).fOp).fOp),AX 1 (A1 An (((Am d_p2 (Am ((Am d_p1 (AN d.fEntities e (-1))).fCalls) hd)).fOp).fArgs)),Ak (((Am d_p2 (Am ((Am d_p1 (AN d.fEntities e (-1))).fCalls) hd)).fAnswer).fErr),AX 4 (A1 Ac (((Am d_p2 (Am ((Am d_p1 (AN d.fEntities e (-1))).fCalls) hd)).fAnswer).fValue)),Ak ((Am d_p2 (Am ((Am d_p1 (AN d.fEntities e (-1))).fCalls) hd)).fFrom),Ak ((Am d_p2 (Am ((Am d_p1 (AN d.fEntities e (-1))).fCalls) hd)).fTo)]) (Ki (enc:=A5) (xs:=d_p2) (j:=6) OA Ir Aa Aa h6 Aa Aa) (ob h7 λhf h8 h9=>Cn Tryz.call52 (Pf F (AV.mk ((Am d_p2 (Am ((Am d_p1 (AN d.fEntities e (-1))).fCalls) hd)).fOp) ((Am d_p2 (Am ((Am d_p1 (AN d.fEntities e (-1))).fCalls) hd)).fAnswer) ((Am d_p2 (Am ((Am d_p1 (AN d.fEntities e (-1))).fCalls) hd)).fFrom) ((Am d_p2 (Am ((Am d_p1 (AN d.fEntities e (-1))).fCalls) hd)).fTo)) hf h8) Aa (AQ (ys:=([hf]:List AV)) (enc:=A5) (css:=[[rS hf.fOp.fEntity,rS hf.fOp.fID,rS hf.fOp.fOp,AX 1 (A1 An hf.fOp.fArgs),Ak hf.fAnswer.fErr,AX 4 (A1 Ac hf.fAnswer.fValue),Ak hf.fFrom,Ak hf.fTo]]) (xs:=[.tmp 37]) XJ Ir Ua Aa Aa Aa ⟨Eo.agg ⟨Up.refl _,Up.refl _,Up.refl _,Up.refl _,Up.refl _,Up.refl _,Up.refl _,Up.refl _,trivial⟩,trivial⟩ Aa KH Aa Aa Aa (λhA=>?_))))))))))))))));refine ck h9 λhB hC=>Exists.elim ZE λinf hinf=>BL (xs:=hi) (ys:=([hf]:List AV)) (enc:=A5) (i:=8) XJ hinf.1 hinf.2.1 hinf.2.2.1 hinf.2.2.2 Aa Aa Aa Aa Aa (I5.w (i:=0) Aa Aa) KH OM hB Aa (λhp=>?_);refine wa Aa (Aj (AF (AJ (Ah (ck hC λhD hE=>wv (Bh Aa Aa hD) (wm Aa (Aj (BO (H2:=[.blk b6 [AX 4 (A1 Ac ((Am d_p1 (AN d.fEntities e (-1))).fState)),rv v7,Ak ((Am d_p1 (AN d.fEntities e (-1))).fDone)] 93,.row v7 94 1 (A1 (eP ha) ((Am d_p1 (AN d.fEntities e (-1))).fCalls)),.poolw hb hh 93 94 1 (A1 (Aw ha) d_p1) (some (B6 (AN d.fEntities e (-1)),(b6,v7))),.blk he [Ak d.fNow,rv (.map (some hb)),rv (.map (some ha))] 68,.map hb (Ba (mP hb) d.fEntities),.map ha (Ba (mP ha) d.fCalls),.pool ha hg 44 (A1 A5 d_p2),.row hp 44 8 (A1 A5 (hi++([hf]:List AV))),.row (.slice (some ⟨hA,0,none⟩) 1 1) 44 8 (A1 A5 ([hf]:List AV))]) ((Al (i:=2) Aa).trans (Abe _ ((Al (i:=2) Aa).trans (Abe _ ((Al (i:=2) Aa).trans (Abe _ ((Al (i:=2) Aa).trans (Abe _ ((Al (i:=2) Aa).trans (Abe _ ((Al (i:=2) Aa).trans (Abe _ ((Al (i:=2) Aa).trans (Abe _ (Abg _))))))))))))))) ?_))))))));have hG:=Bg hE hn;exact Au (AD (hu,(hi++([hf]:List AV),hd+1),hp) ⟨hG,Abo _⟩ (AM.c Aa (AM.c Aa (AM.c Aa (AM.c Aa AM.nil)))) (sC (sC (sC (sC (sC (sC (sC (sC (sS sN))))))))))
   ·refine BB (A2 ?_);have hH:=Cb hz hn hs;exact A2 (Bn (AD (hi,v46) hH (AM.c Aa AM.nil) (sC (sC (sC (sC (sC (sC (sC (sC sN))))))))))
  ·rintro⟨hj,hl⟩ hm;refine C4 (l':=[(7,rv hl)]) (H':=[.blk b6 [AX 4 (A1 Ac ((Am d_p1 (AN d.fEntities e (-1))).fState)),rv v7,Ak ((Am d_p1 (AN d.fEntities e (-1))).fDone)] 93,.row v7 94 1 (A1 (eP ha) ((Am d_p1 (AN d.fEntities e (-1))).fCalls)),.poolw hb hh 93 94 1 (A1 (Aw ha) d_p1) (some (B6 (AN d.fEntities e (-1)),(b6,v7))),.blk he [Ak d.fNow,rv (.map (some hb)),rv (.map (some ha))] 68,.map hb (Ba (mP hb) d.fEntities),.map ha (Ba (mP ha) d.fCalls),.pool ha hg 44 (A1 A5 d_p2),.row hl 44 8 (A1 A5 hj)]) Aa Aa ?_;replace hm:Ko hj=some r:=hm;unfold Ko at hm;refine Bi (AJ (Af (wm Aa (wa Aa (Ao (As (WK.putsame (encw:=(Aw ha)) (xs:=d_p1) (i:=AN d.fEntities e (-1)) (Hr:=[.blk he [Ak d.fNow,rv (.map (some hb)),rv (.map (some ha))] 68,.map hb (Ba (mP hb) d.fEntities),.map ha (Ba (mP ha) d.fCalls),.pool ha hg 44 (A1 A5 d_p2),.row hl 44 8 (A1 A5 hj)]) (Abg _) g4 [] trivial Aa Aa (WK.freeze (i:=5) Aa (WK.up (d:=4) (r:=AX 8 (A1 A5 hj)) Aa (Up.fact (i:=0) Aa) (BO (H2:=[.blk he [Ak d.fNow,rv (.map (some hb)),rv (.map (some ha))] 68,.map hb (Ba (mP hb) d.fEntities),.map ha (Ba (mP ha) d.fCalls),.poolw hb hh 93 94 1 (A1 (Aw ha) d_p1) none,.pool ha hg 44 (A1 A5 d_p2),.fact hl (AX 8 (A1 A5 hj))]) ((Al (i:=2) Aa).trans (Abe _ ((Al (i:=2) Aa).trans (Abe _ ((Al (i:=2) Aa).trans (Abe _ ((Al (i:=1) Aa).trans (Abe _ ((Al (i:=1) Aa).trans (Abe _ (Abg _))))))))))) ?_))))))))));obtain rfl:=At hm;exact Ar (BY Tryz.results23 (AB Aa)) (sC (sC (sC (sC (sC (sS sN)))))) ⟨Aa,Aa⟩
theorem SE (F:Nat)(he:Nat)(hb:Nat)(ha:Nat)(hf:Value)(hg:Value)(d:Bf)(d_p1:(List A9))(d_p2:(List AV))(e:Ae)(r:(List Ae))(h:NX F d d_p1 d_p2 e=some r):Fn Tryz.prog GE 22 [rP he 0,rS e] [.blk he [Ak d.fNow,rv (.map (some hb)),rv (.map (some ha))] 68,.map hb (Ba (mP hb) d.fEntities),.map ha (Ba (mP ha) d.fCalls),.poolw hb hf 93 94 1 (A1 (Aw ha) d_p1) none,.pool ha hg 44 (A1 A5 d_p2)] (λR H=>R=AX 1 (A1 eS r)∧H=[.blk he [Ak d.fNow,rv (.map (some hb)),rv (.map (some ha))] 68,.map hb (Ba (mP hb) d.fEntities),.map ha (Ba (mP ha) d.fCalls),.poolw hb hf 93 94 1 (A1 (Aw ha) d_p1) none,.pool ha hg 44 (A1 A5 d_p2)]):=by
 refine enter (n:=27) Tryz.func22 Aa Tryz.ntmps22 Aa (λw Z=>?_);unfold NX at h;refine Af (wa Aa (Bs (wa Aa (Ao (Ai (Af (wm Aa (wm Aa (ob h λr1 e3 h2=>GX (Hr:=[]) Tryz.call23 (W7 F he hb ha hf hg d d_p1 d_p2 e r1 e3) Aa (Abg _) Aa ?_)))))))));rintro _ _ ⟨rfl,rfl⟩;refine wv (Bv (ys:=r1) (enc:=A5) XJ Aa) (wv (r:=Ak 0) (Aq Aa) (Ao (AL (WC.nilrow (e:=9) (sz:=1) (GH (H2:=[.blk he [Ak d.fNow,rv (.map (some hb)),rv (.map (some ha))] 68,.map hb (Ba (mP hb) d.fEntities),.map ha (Ba (mP ha) d.fCalls),.poolw hb hf 93 94 1 (A1 (Aw ha) d_p1) none,.pool ha hg 44 (A1 A5 d_p2),.row (.slice none 0 0         ) 9 1 (A1 eS ([]:List Ae))]) ((Al (i:=1) Aa).trans (Abe _ ((Al (i:=1) Aa).trans (Abe _ ((Al (i:=1) Aa).trans (Abe _ ((Al (i:=1) Aa).trans (Abe _ ((Al (i:=1) Aa).trans (Abe _ (Abg _))))))))))) (ob h2 λhu hw hx=>B4 (S:=Nat×((List Ae)×Int)×(Value)) (V:=((List Ae))×(Value)) 0 (λσ=>Ca (λσ=>Ij r1 σ.1 σ.2) σ.1 σ.2.1=some hu) (λσ=>[(5,rv σ.2.2),(10,AX 8 (A1 A5 r1)),(11,Ak (r1.length:Int)),(12,Ak σ.2.1.2)]) (λσ=>[.blk he [Ak d.fNow,rv (.map (some hb)),rv (.map (some ha))] 68,.map hb (Ba (mP hb) d.fEntities),.map ha (Ba (mP ha) d.fCalls),.poolw hb hf 93 94 1 (A1 (Aw ha) d_p1) none,.pool ha hg 44 (A1 A5 d_p2),.row σ.2.2 9 1 (A1 eS σ.2.1.1)]) (λσ=>σ.1) (F,(([]:List Ae),0),(.slice none 0 0         )) hw (AM.c Aa (AM.c Aa (AM.c Aa (AM.c Aa AM.nil)))) (sC (sC (sC (sC (sC (sC sN)))))) (λσ=>Ii σ.1=some r) (λσ=>[(5,rv σ.2)]) (λσ=>[.blk he [Ak d.fNow,rv (.map (some hb)),rv (.map (some ha))] 68,.map hb (Ba (mP hb) d.fEntities),.map ha (Ba (mP ha) d.fCalls),.poolw hb hf 93 94 1 (A1 (Aw ha) d_p1) none,.pool ha hg 44 (A1 A5 d_p2),.row σ.2 9 1 (A1 eS σ.1)]) ?_ ?_))))))
 ·rintro⟨hG,⟨hh,hd⟩,hi⟩ hy;refine Cd (l':=[(5,rv hi),(10,AX 8 (A1 A5 r1)),(11,Ak (r1.length:Int)),(12,Ak hd)]) (H':=[.blk he [Ak d.fNow,rv (.map (some hb)),rv (.map (some ha))] 68,.map hb (Ba (mP hb) d.fEntities),.map ha (Ba (mP ha) d.fCalls),.poolw hb hf 93 94 1 (A1 (Aw ha) d_p1) none,.pool ha hg 44 (A1 A5 d_p2),.row hi 9 1 (A1 eS hh)]) Aa Aa ?_;obtain⟨hz,rfl,hm,hj,hq⟩:=Cz hy;replace hj:Ij r1 hh hd=some hm:=hj;unfold Ij at hj;refine Af (wv (Ch Aa Aa) (Ao (Ai (cz hj Aa (λc127 h0=>?_) (λc127 h1=>?_)))))
  ·refine Ap (AJ (D8 (S:=((List Ae))×(Value)) (λσ=>GT hd σ.1=some hm) (λσ=>[(5,rv σ.2),(10,AX 8 (A1 A5 r1)),(11,Ak (r1.length:Int)),(12,Ak hd)]) (λσ=>[.blk he [Ak d.fNow,rv (.map (some hb)),rv (.map (some ha))] 68,.map hb (Ba (mP hb) d.fEntities),.map ha (Ba (mP ha) d.fCalls),.poolw hb hf 93 94 1 (A1 (Aw ha) d_p1) none,.pool ha hg 44 (A1 A5 d_p2),.row σ.2 9 1 (A1 eS σ.1)]) ?_ ?_))
   ·refine AL (Af (ck h0 λh3 h4=>wv (B3 (enc:=A5) (ys:=r1) XJ Ir Aa Aa h3) (wv (DI OA Ir Aa Aa Aa) (Ce (cs:=[rS ([]:Ae),rS ([]:Ae),rS ([]:Ae),rv (.slice none 0 0),Ak 0,rv (.slice none 0 0),Ak 0,Ak 0]) Ua Aa Aa (λhr=>?_)))));refine AP (i:=0) Ir Aa Aa Aa (Bx.c Aa) Aa Aa (cs':=[rS (((Am r1 hd).fOp).fEntity),rS (((Am r1 hd).fOp).fID),rS (((Am r1 hd).fOp).fOp),AX 1 (A1 An (((Am r1 hd).fOp).fArgs)),Ak (((Am r1 hd).fAnswer).fErr),AX 4 (A1 Ac (((Am r1 hd).fAnswer).fValue)),Ak ((Am r1 hd).fFrom),Ak ((Am r1 hd).fTo)]) Aa (H':=[.blk hr [rS (((Am r1 hd).fOp).fEntity),rS (((Am r1 hd).fOp).fID),rS (((Am r1 hd).fOp).fOp),AX 1 (A1 An (((Am r1 hd).fOp).fArgs)),Ak (((Am r1 hd).fAnswer).fErr),AX 4 (A1 Ac (((Am r1 hd).fAnswer).fValue)),Ak ((Am r1 hd).fFrom),Ak ((Am r1 hd).fTo)] 44,.blk he [Ak d.fNow,rv (.map (some hb)),rv (.map (some ha))] 68,.map hb (Ba (mP hb) d.fEntities),.map ha (Ba (mP ha) d.fCalls),.poolw hb hf 93 94 1 (A1 (Aw ha) d_p1) none,.pool ha hg 44 (A1 A5 d_p2),.row hi 9 1 (A1 eS hh)]) Aa (Bs (vF Ma Aa Ct (vL 0 Dm Aa (wv (BE Aa Aa) (Ao (cz h4 Aa (λh5 h6=>?_) (λh5 h7=>?_)))))))
    ·refine Ah (wm Aa (vF Ma Aa C6 (vF Cw Aa CG (vL 0 CV Aa (AQ (ys:=([((Am r1 hd).fOp).fID]:List Ae)) (enc:=eS) (css:=[[rS (((Am r1 hd).fOp).fID)]]) (xs:=[.tmp 22]) Db CG XC Aa Aa Aa ⟨Eo.one Aa (Up.refl _),trivial⟩ Aa Gb Aa Aa Aa (λh8=>?_))))));refine ck h6 λh9 hA=>Exists.elim RC λinf hinf=>BL (xs:=hh) (ys:=([((Am r1 hd).fOp).fID]:List Ae)) (enc:=eS) (i:=7) Db hinf.1 hinf.2.1 hinf.2.2.1 hinf.2.2.2 Aa Aa Aa Aa Aa (I5.w (i:=0) Aa Aa) Gb Oq h9 Aa (λhs=>?_);exact wa Aa (Aj (AF (BO (H2:=[.blk he [Ak d.fNow,rv (.map (some hb)),rv (.map (some ha))] 68,.map hb (Ba (mP hb) d.fEntities),.map ha (Ba (mP ha) d.fCalls),.poolw hb hf 93 94 1 (A1 (Aw ha) d_p1) none,.pool ha hg 44 (A1 A5 d_p2),.row hs 9 1 (A1 eS (hh++([((Am r1 hd).fOp).fID]:List Ae))),.row (.slice (some ⟨h8,0,none⟩) 1 1) 9 1 (A1 eS ([((Am r1 hd).fOp).fID]:List Ae)),.blk hr [rS (((Am r1 hd).fOp).fEntity),rS (((Am r1 hd).fOp).fID),rS (((Am r1 hd).fOp).fOp),AX 1 (A1 An (((Am r1 hd).fOp).fArgs)),Ak (((Am r1 hd).fAnswer).fErr),AX 4 (A1 Ac (((Am r1 hd).fAnswer).fValue)),Ak ((Am r1 hd).fFrom),Ak ((Am r1 hd).fTo)] 44]) ((Al (i:=3) Aa).trans (Abe _ ((Al (i:=3) Aa).trans (Abe _ ((Al (i:=3) Aa).trans (Abe _ ((Al (i:=3) Aa).trans (Abe _ ((Al (i:=3) Aa).trans (Abe _ (Abg _))))))))))) (Au (AD (hh++([((Am r1 hd).fOp).fID]:List Ae),hs) hA (AM.c Aa (AM.c Aa (AM.c Aa (AM.c Aa AM.nil)))) (sC (sC (sC (sC (sC (sC (sS (sS sN)))))))))))))
    ·exact Ap (AF (Au (AD (hh,hi) h7 (AM.c Aa (AM.c Aa (AM.c Aa (AM.c Aa AM.nil)))) (sS (sC (sC (sC (sC (sC (sC sN))))))))))
   ·rintro⟨hn,ho⟩ hk;refine Cd (l':=[(5,rv ho),(10,AX 8 (A1 A5 r1)),(11,Ak (r1.length:Int)),(12,Ak hd)]) (H':=[.blk he [Ak d.fNow,rv (.map (some hb)),rv (.map (some ha))] 68,.map hb (Ba (mP hb) d.fEntities),.map ha (Ba (mP ha) d.fCalls),.poolw hb hf 93 94 1 (A1 (Aw ha) d_p1) none,.pool ha hg 44 (A1 A5 d_p2),.row ho 9 1 (A1 eS hn)]) Aa Aa ?_;replace hk:GT hd hn=some hm:=hk;unfold GT at hk;refine Ah (ck hk λhB hC=>wv (Bh Aa Aa hB) (wm Aa (Aj ?_)));have hD:=Bg hC hq;exact Au (AD (hz,(hn,hd+1),ho) ⟨hD,Abo _⟩ (AM.c Aa (AM.c Aa (AM.c Aa (AM.c Aa AM.nil)))) (sC (sC (sC (sC (sC (sC sN)))))))
  ·refine BB (A2 ?_);have hE:=Cb h1 hq hx;exact A2 (Bn (AD (hh,hi) hE (AM.c Aa AM.nil) (sC (sC (sC (sC (sC (sC sN))))))))
 ·rintro⟨hp,ht⟩ hl;refine C4 (l':=[(5,rv ht)]) (H':=[.blk he [Ak d.fNow,rv (.map (some hb)),rv (.map (some ha))] 68,.map hb (Ba (mP hb) d.fEntities),.map ha (Ba (mP ha) d.fCalls),.poolw hb hf 93 94 1 (A1 (Aw ha) d_p1) none,.pool ha hg 44 (A1 A5 d_p2),.row ht 9 1 (A1 eS hp)]) Aa Aa ?_;replace hl:Ii hp=some r:=hl;unfold Ii at hl;refine Bi (AJ (Af (wm Aa (wa Aa (Ao (As (WK.freeze (i:=5) Aa (WK.up (d:=4) (r:=AX 1 (A1 eS hp)) Aa (Up.fact (i:=0) Aa) ?_))))))));obtain rfl:=At hl;exact Ar (BY Tryz.results22 (AB Aa)) (sS (sC (sC (sC (sC (sC sN)))))) ⟨Aa,Aa⟩
theorem W5 (hd:Nat)(ha:Nat)(hb:Nat)(he:Value)(hf:Value)(d:Bf)(d_p1:(List A9))(d_p2:(List AV))(r:(List Ae))(h:SI d d_p1 d_p2=some r):Fn Tryz.prog GE 24 [rP hd 0] [.blk hd [Ak d.fNow,rv (.map (some ha)),rv (.map (some hb))] 68,.map ha (Ba (mP ha) d.fEntities),.map hb (Ba (mP hb) d.fCalls),.poolw ha he 93 94 1 (A1 (Aw hb) d_p1) none,.pool hb hf 44 (A1 A5 d_p2)] (λR H=>R=AX 1 (A1 eS r)∧H=[.blk hd [Ak d.fNow,rv (.map (some ha)),rv (.map (some hb))] 68,.map ha (Ba (mP ha) d.fEntities),.map hb (Ba (mP hb) d.fCalls),.poolw ha he 93 94 1 (A1 (Aw hb) d_p1) none,.pool hb hf 44 (A1 A5 d_p2)]):=by
 refine enter (n:=12) Tryz.func24 Aa Tryz.ntmps24 Aa (λw Z=>?_);unfold SI at h;refine Af (wa Aa (Ao (Ai (Af (wm Aa (GX (Hr:=[.map ha (Ba (mP ha) d.fEntities),.map hb (Ba (mP hb) d.fCalls),.poolw ha he 93 94 1 (A1 (Aw hb) d_p1) none,.pool hb hf 44 (A1 A5 d_p2)]) V8 (LD hd ha hb d true Aa) Aa (Abg _) Aa ?_))))));rintro _ _ ⟨rfl,rfl⟩;refine wv (BW Aa) (Ao (EB Aa (EH Aa) (Ap (AJ (Af (wm Aa (wv (A4 Aa) (vF J2 Aa Q2 (vL 0 Q9 Aa (CB (rs:=[rv (.map (some ha))]) (Hin:=[]) (Hr:=[.blk hd [Ak d.fNow,rv (.map (some ha)),rv (.map (some hb))] 68,.map ha (Ba (mP ha) d.fEntities),.map hb (Ba (mP hb) d.fCalls),.poolw ha he 93 94 1 (A1 (Aw hb) d_p1) none,.pool hb hf 44 (A1 A5 d_p2)]) Tryz.call57 Aa (Abg _) (SN ha) Aa ?_))))))))));rintro _ _ ⟨b1,rfl,rfl⟩;refine ck h λg2 h3=>CB (rs:=[rv (.func (.func 92) #[] #[(.pointer (some ⟨b1,0,none⟩))])]) (Hin:=[.blk b1 [rv (.map (some ha))] 65,.map ha (Ba (mP ha) d.fEntities)]) (Hr:=[.blk hd [Ak d.fNow,rv (.map (some ha)),rv (.map (some hb))] 68,.map hb (Ba (mP hb) d.fCalls),.poolw ha he 93 94 1 (A1 (Aw hb) d_p1) none,.pool hb hf 44 (A1 A5 d_p2)]) Tryz.call56 Aa ((Al (i:=0) Aa).trans (Abe _ ((Al (i:=1) Aa).trans (Abe _ (Abg _))))) (QO (mP ha) d.fEntities b1 ha g2) Aa ?_;rintro _ _ ⟨v4,rfl,rfl⟩;refine wa Aa (Ao (As (WK.freeze (i:=0) Aa (WK.up (d:=2) (r:=AX 1 (A1 eS (Ph d.fEntities))) Aa (Up.fact (i:=0) Aa) (BO (H2:=[.blk hd [Ak d.fNow,rv (.map (some ha)),rv (.map (some hb))] 68,.map ha (Ba (mP ha) d.fEntities),.map hb (Ba (mP hb) d.fCalls),.poolw ha he 93 94 1 (A1 (Aw hb) d_p1) none,.pool hb hf 44 (A1 A5 d_p2),.fact v4 (AX 1 (A1 eS (Ph d.fEntities))),.blk b1 [rv (.map (some ha))] 65]) ((Al (i:=3) Aa).trans (Abe _ ((Al (i:=2) Aa).trans (Abe _ ((Al (i:=2) Aa).trans (Abe _ ((Al (i:=2) Aa).trans (Abe _ ((Al (i:=2) Aa).trans (Abe _ (Abg _))))))))))) ?_)))));obtain rfl:=At h3;exact Ar (BY Tryz.results24 (AB Aa)) (sC (sC (sC (sC (sC (sS (sS sN))))))) ⟨Aa,Aa⟩
end Go.Proofs.YtogdediiodmnbaaGreatDoor.Q
namespace Go.Proofs.YtogdediiodmnbaaGreatDoor
open Go
set_option linter.unusedVariables false
def GU (F:Nat) :Option (Bool):=
 B0 (Z6) λr1=>B0 (Oj ([97]:Ae) 1) λr9=>B0 (LB F r1.1 r1.2.1 r1.2.2 r9 5) λhd=>AY (!(!decide (hd.1=0)))<|B0 (Oj ([98]:Ae) 2) λhh=>B0 (LB F hd.2.1 hd.2.2.1 hd.2.2.2 hh 5) λhe=>AY (!(!decide (he.1=0)))<|B0 (Oj ([98]:Ae) 1) λhi=>B0 (LB F he.2.1 he.2.2.1 he.2.2.2 hi 5) λhb=>AY (!(!decide (hb.1=19)))<|B0 (NX F hb.2.1 hb.2.2.1 hb.2.2.2 ([120]:Ae)) λhj=>B0 (T8 F hb.2.1 hb.2.2.1 hb.2.2.2 ([120]:Ae) 6) λhf=>B0 (T8 F hf.2.2.1 hf.2.2.2.1 hf.2.2.2.2 ([120]:Ae) 7) λha=>B0 (SG ha.2.2.1 ha.2.2.2.1 ha.2.2.2.2 ([120]:Ae)) λhg=>B0 (PW F hj ([([97]:Ae),([98]:Ae)]:List Ae)) λhk=>AY (hk)<|AY (hf.2.1)<|AY (ha.2.1)<|AY (decide (ha.1.fTo=7))<|AY (decide ((ha.1.fAnswer.fValue.length:Int)=1))<|AY (Cp 0 (ha.1.fAnswer.fValue.length:Int))<|AY (decide (((Am ha.1.fAnswer.fValue 0).fInt)=3))<|AY (decide ((hg.length:Int)=1))<|AY (Cp 0 (hg.length:Int))<|AY (decide (((Am hg 0).fInt)=3))<|B0 (SI ha.2.2.1 ha.2.2.2.1 ha.2.2.2.2) λhl=>B0 (PW F hl ([([120]:Ae)]:List Ae)) λhm=>some hm
def LK (F:Nat)(op:A0)(now:Int)(rec:Ae):Option (Bool):=
 AY ((Jo F op).isSome)<|Bl (((!(ov (Jo F op)))||(decide (2000<(rec.length:Int))))) (B0 (GU F) λr7=>some r7) (B0 (LE F op now) λhd=>B0 (II F op now) λhe=>B0 (LF F rec) λha=>B0 (IJ F rec) λhb=>AY (imp (decide (hd.1=he.1)) (imp (decide (hd.2=he.2)) ((GI F ha.1 hb.1).isSome)))<|AY (imp (decide (hd.1=he.1)) (imp (decide (hd.2=he.2)) (imp ((ov (GI F ha.1 hb.1))) (imp (decide (ha.2.1=hb.2.1)) (imp (decide (ha.2.2=hb.2.2)) ((GU F).isSome))))))<|some ((decide (hd.1=he.1))&&((decide (hd.2=he.2))&&((ov (GI F ha.1 hb.1))&&((decide (ha.2.1=hb.2.1))&&((decide (ha.2.2=hb.2.2))&&(ov (GU F))))))))
end Go.Proofs.YtogdediiodmnbaaGreatDoor
namespace Go.Proofs.YtogdediiodmnbaaGreatDoor.Q
open Go Go.RowKit
set_option linter.unusedVariables false
set_option linter.unusedSimpArgs false
set_option maxRecDepth 100000
set_option maxHeartbeats 4000000
theorem Oh (F:Nat)  (r:Bool)(h:GU F=some r):Fn Tryz.prog GE 12 [] [] (λR H=>R=rB r∧H=[]):=by
 refine enter (n:=87) Tryz.func12 Aa Tryz.ntmps12 Aa (λw Z=>?_);unfold GU at h;refine Af (wa Aa (Bs (ob h λr1 e3 h2=>GX (Hr:=[]) Tryz.call18 (Z5 r1 e3) Aa (Abg _) Aa ?_)));rintro _ _ ⟨b4,b5,b6,v7,v8,rfl,rfl⟩;refine wa Aa (Ao (Ai (Af (wm Aa (ob h2 λr9 hz h0=>Cn Tryz.call42 (Oi ([97]:Ae) 1 r9 hz) Aa (ob h0 λhe h1 h3=>GX (Hr:=[]) Tryz.call20 (Mq F b4 b5 b6 v7 v8 r1.1 r1.2.1 r1.2.2 r9 5 he h1) Aa (Abg _) Aa ?_))))));rintro _ _ ⟨h4,h5,rfl,rfl⟩;refine wv (CR Aa Aa) (wm Aa (ck h3 λg17 h6=>Bp (b:=!decide (he.1=0)) Aa Aa (Bool.not_eq_eq_eq_not.1 g17) (wm Aa (Bp (b:=!decide (he.1=0)) Aa Aa (Bool.not_eq_eq_eq_not.1 g17) (ob h6 λhr h7 h8=>Cn Tryz.call42 (Oi ([98]:Ae) 2 hr h7) Aa (Bp (b:=!decide (he.1=0)) Aa Aa (Bool.not_eq_eq_eq_not.1 g17) (ob h8 λhd h9 hA=>GX (Hr:=[]) Tryz.call20 (Mq F b4 b5 b6 h4 h5 he.2.1 he.2.2.1 he.2.2.2 hr 5 hd h9) Aa (Abg _) Aa ?_)))))));rintro _ _ ⟨hB,v26,rfl,rfl⟩;refine Bp (b:=!decide (he.1=0)) Aa Aa (Bool.not_eq_eq_eq_not.1 g17) (wv (CR Aa Aa) (wv (r:=rB (!decide (hd.1=0))) (A7 (b:=!decide (he.1=0)) Aa (Bool.not_eq_eq_eq_not.1 g17) Aa) (wm Aa (ck hA λhj hC=>Bp (b:=!decide (hd.1=0)) Aa Aa (Bool.not_eq_eq_eq_not.1 hj) (wm Aa (Bp (b:=!decide (hd.1=0)) Aa Aa (Bool.not_eq_eq_eq_not.1 hj) (ob hC λhs hD hE=>Cn Tryz.call42 (Oi ([98]:Ae) 1 hs hD) Aa (Bp (b:=!decide (hd.1=0)) Aa Aa (Bool.not_eq_eq_eq_not.1 hj) (ob hE λhf hG hH=>GX (Hr:=[]) Tryz.call20 (Mq F b4 b5 b6 hB v26 hd.2.1 hd.2.2.1 hd.2.2.2 hs 5 hf hG) Aa (Abg _) Aa ?_)))))))));rintro _ _ ⟨v35,v36,rfl,rfl⟩;refine Bp (b:=!decide (hd.1=0)) Aa Aa (Bool.not_eq_eq_eq_not.1 hj) (wv (CR Aa Aa) (wv (r:=rB (!decide (hf.1=19))) (A7 (b:=!decide (hd.1=0)) Aa (Bool.not_eq_eq_eq_not.1 hj) Aa) (Ao (ck hH λhI hJ=>EB (b:=!decide (hf.1=19)) Aa (Bool.not_eq_eq_eq_not.1 hI) (Ap (AJ (Af (wm Aa (ob hJ λht hK hL=>GX (Hr:=[]) Tryz.call22 (SE F b4 b5 b6 v35 v36 hf.2.1 hf.2.2.1 hf.2.2.2 ([120]:Ae) ht hK) Aa (Abg _) Aa ?_)))))))));rintro _ _ ⟨rfl,rfl⟩;refine wa Aa (Bs (wm Aa (ob hL λhb hN hO=>GX (Hr:=[]) Tryz.call19 (T7 F b4 b5 b6 v35 v36 hf.2.1 hf.2.2.1 hf.2.2.2 ([120]:Ae) 6 hb hN) Aa (Abg _) Aa ?_)));rintro _ _ ⟨hu,v46,rfl,rfl⟩;refine wm Aa (wv (AA Aa Aa) (wv (AA Aa Aa) (Ce (cs:=[rS ([]:Ae),rS ([]:Ae),rS ([]:Ae),rv (.slice none 0 0),Ak 0,rv (.slice none 0 0),Ak 0,Ak 0]) Ua Aa Aa (λhk=>?_))));refine AP (i:=0) Ir Aa Aa Aa (Bx.c Aa) Aa Aa (cs':=[rS hb.1.fOp.fEntity,rS hb.1.fOp.fID,rS hb.1.fOp.fOp,AX 1 (A1 An hb.1.fOp.fArgs),Ak hb.1.fAnswer.fErr,AX 4 (A1 Ac hb.1.fAnswer.fValue),Ak hb.1.fFrom,Ak hb.1.fTo]) Aa (H':=[.blk hk (A5 hb.1) 44,.blk b4 [Ak hb.2.2.1.fNow,rv (.map (some b5)),rv (.map (some b6))] 68,.map b5 (Ba (mP b5) hb.2.2.1.fEntities),.map b6 (Ba (mP b6) hb.2.2.1.fCalls),.poolw b5 hu 93 94 1 (A1 (Aw b6) hb.2.2.2.1) none,.pool b6 v46 44 (A1 A5 hb.2.2.2.2)]) Aa (wa Aa (Bs (wm Aa (ob hO λha hP hQ=>GX (Hr:=[.blk hk (A5 hb.1) 44]) Tryz.call19 (T7 F b4 b5 b6 hu v46 hb.2.2.1 hb.2.2.2.1 hb.2.2.2.2 ([120]:Ae) 7 ha hP) Aa ((Al (i:=1) Aa).trans (Abe _ ((Al (i:=1) Aa).trans (Abe _ ((Al (i:=1) Aa).trans (Abe _ ((Al (i:=1) Aa).trans (Abe _ ((Al (i:=1) Aa).trans (Abe _ (Abg _))))))))))) Aa ?_))));rintro _ _ ⟨v51,ho,rfl,rfl⟩;refine wm Aa (wv (AA Aa Aa) (wv (AA Aa Aa) (Ce (cs:=[rS ([]:Ae),rS ([]:Ae),rS ([]:Ae),rv (.slice none 0 0),Ak 0,rv (.slice none 0 0),Ak 0,Ak 0]) Ua Aa Aa (λhp=>?_))));refine AP (i:=0) Ir Aa Aa Aa (Bx.c Aa) Aa Aa (cs':=[rS ha.1.fOp.fEntity,rS ha.1.fOp.fID,rS ha.1.fOp.fOp,AX 1 (A1 An ha.1.fOp.fArgs),Ak ha.1.fAnswer.fErr,AX 4 (A1 Ac ha.1.fAnswer.fValue),Ak ha.1.fFrom,Ak ha.1.fTo]) Aa (H':=[.blk hp (A5 ha.1) 44,.blk b4 [Ak ha.2.2.1.fNow,rv (.map (some b5)),rv (.map (some b6))] 68,.map b5 (Ba (mP b5) ha.2.2.1.fEntities),.map b6 (Ba (mP b6) ha.2.2.1.fCalls),.poolw b5 v51 93 94 1 (A1 (Aw b6) ha.2.2.2.1) none,.pool b6 ho 44 (A1 A5 ha.2.2.2.2),.blk hk (A5 hb.1) 44]) Aa (wa Aa (Bs (wm Aa (ob hQ λhq hR hS=>GX (Hr:=[.blk hp (A5 ha.1) 44,.blk hk (A5 hb.1) 44]) Tryz.call21 (W2 b4 b5 b6 v51 ho ha.2.2.1 ha.2.2.2.1 ha.2.2.2.2 ([120]:Ae) hq hR) Aa ((Al (i:=1) Aa).trans (Abe _ ((Al (i:=1) Aa).trans (Abe _ ((Al (i:=1) Aa).trans (Abe _ ((Al (i:=1) Aa).trans (Abe _ ((Al (i:=1) Aa).trans (Abe _ (Abg _))))))))))) Aa ?_))));rintro _ _ ⟨rfl,rfl⟩;refine wa Aa (Bs (wm Aa (AQ (ys:=([([97]:Ae),([98]:Ae)]:List Ae)) (enc:=eS) (css:=[[rS ([97]:Ae)],[rS ([98]:Ae)]]) (xs:=[.const (.string ⟨#[97]⟩),.const (.string ⟨#[98]⟩)]) Db CG XC Aa Aa Aa ⟨Eo.one Aa (Up.refl _),Eo.one Aa (Up.refl _),trivial⟩ Aa Gb Aa Aa Aa (λhT=>?_))));refine WL.freeze (i:=0) Aa (WL.up (d:=40) (r:=AX 1 (A1 eS ([([97]:Ae),([98]:Ae)]:List Ae))) Aa (Up.fact (i:=0) Aa) (ob hS λhU hV hW=>Cn Tryz.call25 (R5 F ht ([([97]:Ae),([98]:Ae)]:List Ae) hU hV) Aa (wm Aa (ck hW λhw hX=>wo hw (wm Aa (En Aa hw Aa (wm Aa (ck hX λhx hY=>wo hx (wm Aa (En Aa hx Aa (wm Aa (ck hY λhm hZ=>wo hm (vF Ma Aa Ct (wo hm (vL 6 Dm Aa (wo hm (wv (BE Aa Aa) (En Aa hm Aa (wm Aa ?_)))))))))))))))))));refine ck hZ λhh ga=>wo hh (vF Ma Aa Dc (wo hh (vF XK Aa CA (wo hh (vL 6 Ep Aa (wo hh (wv (Bv (ys:=ha.1.fAnswer.fValue) (enc:=Ac) BK Aa) (wo hh (wv (BE Aa Aa) (En Aa hh Aa (wm Aa (ck ga λhg gb=>wo hg (vF Ma Aa Dc (wo hg (vF XK Aa CA (wo hg (vL 6 Ep Aa (wo hg (ck gb λgc gd=>wv (B3 (enc:=Ac) (ys:=ha.1.fAnswer.fValue) BK BU Aa Aa gc) (wo hg ?_))))))))))))))))))));refine wv (BG BA Aa Ct Aa Aa) (wo hg (wv (Bo Dm Aa Aa) (wo hg (wv (BE Aa Aa) (En Aa hg Aa (wm Aa (ck gd λhn ge=>wo hn (wm Aa (wo hn (wv (Bv (ys:=hq) (enc:=Ac) BK Aa) (wo hn (wv (BE Aa Aa) (En Aa hn Aa (wm Aa (ck ge λhi gf=>wo hi (wm Aa (wo hi (ck gf λgg gh=>wv (B3 (enc:=Ac) (ys:=hq) BK BU Aa Aa gg) (wo hi (wv (BG BA Aa Ct Aa Aa) ?_))))))))))))))))))));refine wo hi (wv (Bo Dm Aa Aa) (wo hi (wv (BE Aa Aa) (En Aa hi Aa (wm Aa (ck gh λhl gi=>wo hl (wm Aa (wo hl (ob gi λhy gj gl=>GX (Hr:=[.fact (.slice (some ⟨hT,0,none⟩) 2 2) (AX 1 (A1 eS ([([97]:Ae),([98]:Ae)]:List Ae))),.blk hp (A5 ha.1) 44,.blk hk (A5 hb.1) 44]) Tryz.call24 (W5 b4 b5 b6 v51 ho ha.2.2.1 ha.2.2.2.1 ha.2.2.2.2 hy gj) Aa ((Al (i:=1) Aa).trans (Abe _ ((Al (i:=1) Aa).trans (Abe _ ((Al (i:=1) Aa).trans (Abe _ ((Al (i:=1) Aa).trans (Abe _ ((Al (i:=1) Aa).trans (Abe _ (Abg _))))))))))) Aa ?_)))))))));rintro _ _ ⟨rfl,rfl⟩;refine wo hl (AQ (ys:=([([120]:Ae)]:List Ae)) (enc:=eS) (css:=[[rS ([120]:Ae)]]) (xs:=[.const (.string ⟨#[120]⟩)]) Db CG XC Aa Aa Aa ⟨Eo.one Aa (Up.refl _),trivial⟩ Aa Gb Aa Aa Aa (λgr=>?_));refine wo hl (WL.freeze (i:=0) Aa (WL.up (d:=84) (r:=AX 1 (A1 eS ([([120]:Ae)]:List Ae))) Aa (Up.fact (i:=0) Aa) (ob gl λgm gp gq=>Cn Tryz.call25 (R5 F hy ([([120]:Ae)]:List Ae) gm gp) Aa (En Aa hl Aa (wa Aa (Ao (As ?_)))))));obtain rfl:=At gq;exact Ar (BY Tryz.results12 (AB Aa)) (sS (sS (sS (sS (sS (sS (sS (sS (sS sN))))))))) ⟨Aa,Aa⟩
theorem UY (F:Nat)(op:A0)(now:Int)(rec:Ae)(r:Bool)(h:LK F op now rec=some r):Fn Tryz.prog GE 8 [Bq (Ay op),Ak now,rS rec] [] (λR H=>R=rB r∧H=[]):=by
 refine enter (n:=76) Tryz.func8 Aa Tryz.ntmps8 Aa (λw Z=>?_);unfold LK at h;refine Af (Ci Aa Aa (λb1=>?_));refine wa Aa (Ao (Ai (ck h λg2 h3=>AG [(1,Ak now),(2,rS rec),(3,rP b1 0),(24,rB ((!(ov (Jo F op)))||(decide (2000<(rec.length:Int)))))] [.blk b1 (Ay op) 25] ?_ ?_)))
 ·refine Ah (wv (Bw (i:=0) Em C6 Aa Aa Aa Aa) (Cn Tryz.call11 (WM F op (ov (Jo F op)) (GQ g2)) Aa (wv (BW Aa) (wm Aa (AO (!(ov (Jo F op))) (λc4=>?_) (λc4=>?_))))))
  ·refine wf c4 (wf c4 (wf c4 (wv (r:=rB true) (Ax Aa c4 Aa) (Aj ?_))));exact Cc c4
  ·refine wo c4 (wm Aa (wo c4 (wv (Bm BZ Aa) (wo c4 (wv (Cv Aa Aa) (Ea Aa c4 Aa (Aj ?_)))))));exact Cc c4
 refine cz h3 Aa (λc5 h6=>?_) (λc5 hl=>?_)
 ·refine Af (ob h6 λr7 e9 h8=>Cn Tryz.call12 (Oh F r7 e9) Aa (wa Aa (Ao (As (Ad ?_)))));obtain rfl:=At h8;exact Ar (BY Tryz.results8 (AB Aa)) (sS sN) ⟨Aa,Aa⟩
 ·refine Ap (AJ (Af (wv (Bw (i:=0) Em C6 Aa Aa Aa Aa) (wm Aa (ob hl λhi hm hn=>Cn Tryz.call37 (UO F op now hi hm) Aa (wm Aa (wv (AA Aa Aa) (wv (AA Aa Aa) (wa Aa (wa Aa (Bs (wv (Bw (i:=0) Em C6 Aa Aa Aa Aa) (wm Aa (ob hn λhj ho hp=>Cn Tryz.call38 (Ra F op now hj ho) Aa (wm Aa (wv (AA Aa Aa) (wv (AA Aa Aa) (wa Aa (wa Aa (Bs (wm Aa ?_)))))))))))))))))))));refine ob hp λhd hq hr=>Cn Tryz.call39 (UP F rec hd hq) Aa (wm Aa (wv (AA Aa Aa) (wv (AA Aa Aa) (wv (AA Aa Aa) (Ce (cs:=[rS ([]:Ae),rS ([]:Ae),rS ([]:Ae),rv (.slice none 0 0)]) Qw Aa Aa (λhk=>?_))))));refine AP (i:=0) C6 Aa Aa Aa (Bx.c Aa) Aa Aa (cs':=[rS hd.1.fEntity,rS hd.1.fID,rS hd.1.fOp,AX 1 (A1 An hd.1.fArgs)]) Aa (H':=[.blk hk (Ay hd.1) 25,.blk b1 (Ay op) 25]) Aa (wa Aa (wa Aa (Bs (wm Aa (ob hr λhe hs ht=>Cn Tryz.call40 (Rc F rec he hs) Aa (wm Aa (wv (AA Aa Aa) (wv (AA Aa Aa) (wv (AA Aa Aa) (Ce (cs:=[rS ([]:Ae),rS ([]:Ae),rS ([]:Ae),rv (.slice none 0 0)]) Qw Aa Aa (λhu=>?_)))))))))));refine AP (i:=0) C6 Aa Aa Aa (Bx.c Aa) Aa Aa (cs':=[rS he.1.fEntity,rS he.1.fID,rS he.1.fOp,AX 1 (A1 An he.1.fArgs)]) Aa (H':=[.blk hu (Ay he.1) 25,.blk hk (Ay hd.1) 25,.blk b1 (Ay op) 25]) Aa (wa Aa (wa Aa (Ao (ck ht λhw hx=>ck hx λhy hz=>AG [(6,rB ((decide (hi.1=hj.1))&&((decide (hi.2=hj.2))&&((ov (GI F hd.1 he.1))&&((decide (hd.2.1=he.2.1))&&((decide (hd.2.2=he.2.2))&&(ov (GU F))))))))] [] ?_ ?_))))
  ·refine Ah (wm Aa (wm Aa (wv (DN Aa Aa) (wm Aa (AO (decide (hi.1=hj.1)) (λha=>?_) (λha=>?_))))))
   ·refine wo ha (wm Aa (wo ha (wm Aa (wo ha (wv (BE Aa Aa) (En Aa ha Aa (wm Aa (AO (decide (hi.2=hj.2)) (λhb=>?_) (λhb=>?_)))))))))
    ·refine wo hb (wv (Bw (i:=1) Em C6 Aa Aa Aa Aa) (wo hb (wv (Bw (i:=0) Em C6 Aa Aa Aa Aa) (wo hb (Cn Tryz.call41 (Uw F hd.1 he.1 (ov (GI F hd.1 he.1)) (GQ (Cr (Cr hw ha) hb))) Aa (En Aa hb Aa (wm Aa (AO ((ov (GI F hd.1 he.1))) (λhf=>?_) (λhf=>?_)))))))))
     ·refine wo hf (wm Aa (wo hf (wm Aa (wo hf (wv (BE Aa Aa) (En Aa hf Aa (wm Aa (AO (decide (hd.2.1=he.2.1)) (λhg=>?_) (λhg=>?_)))))))))
      ·refine wo hg (wm Aa (wo hg (wm Aa (wo hg (wv (BE Aa Aa) (En Aa hg Aa (wm Aa (AO (decide (hd.2.2=he.2.2)) (λhh=>?_) (λhh=>?_)))))))))
       ·refine wo hh (Cn Tryz.call12 (Oh F (ov (GU F)) (GQ (Cr (Cr (Cr (Cr (Cr hy ha) hb) hf) hg) hh))) Aa (En Aa hh Aa (wa Aa (Aj ?_))));exact Cc (And.intro ha (And.intro hb (And.intro hf (And.intro hg hh))))
       ·refine wf hh (wv (r:=rB false) (A7 Aa hh Aa) (wa Aa (Aj ?_)));exact Cc (And.intro ha (And.intro hb (And.intro hf (And.intro hg hh))))
      ·refine wf hg (wf hg (wf hg (wv (r:=rB false) (A7 Aa hg Aa) (wm Aa (wz Aa Aa (wv (r:=rB false) (A7 (b:=false) Aa Aa Aa) (wa Aa (Aj ?_))))))));exact Cc (And.intro ha (And.intro hb (And.intro hf hg)))
     ·refine wf hf (wf hf (wf hf (wv (r:=rB false) (A7 Aa hf Aa) (wm Aa (wz Aa Aa (wz Aa Aa (wz Aa Aa (wv (r:=rB false) (A7 (b:=false) Aa Aa Aa) (wm Aa (wz Aa Aa (wv (r:=rB false) (A7 (b:=false) Aa Aa Aa) (wa Aa (Aj ?_)))))))))))));exact Cc (And.intro ha (And.intro hb hf))
    ·refine wf hb (wf hb (wf hb (wv (r:=rB false) (A7 Aa hb Aa) (wm Aa (wz Aa Aa (wz Aa Aa (wz Aa Aa (wv (r:=rB false) (A7 (b:=false) Aa Aa Aa) (wm Aa (wz Aa Aa (wz Aa Aa (wz Aa Aa (wv (r:=rB false) (A7 (b:=false) Aa Aa Aa) (wm Aa (wz Aa Aa (wv (r:=rB false) (A7 (b:=false) Aa Aa Aa) (wa Aa (Aj ?_))))))))))))))))));exact Cc (And.intro ha hb)
   ·refine wf ha (wf ha (wf ha (wv (r:=rB false) (A7 Aa ha Aa) (wm Aa (wz Aa Aa (wz Aa Aa (wz Aa Aa (wv (r:=rB false) (A7 (b:=false) Aa Aa Aa) (wm Aa (wz Aa Aa (wz Aa Aa (wz Aa Aa (wv (r:=rB false) (A7 (b:=false) Aa Aa Aa) (wm Aa (wz Aa Aa (wz Aa Aa (wz Aa Aa (wv (r:=rB false) (A7 (b:=false) Aa Aa Aa) (wm Aa (wz Aa Aa (wv (r:=rB false) (A7 (b:=false) Aa Aa Aa) (wa Aa (Aj ?_)))))))))))))))))))))));exact Cc ha
  refine As ?_;obtain rfl:=At hz;exact Ar (BY Tryz.results8 (AB Aa)) sN ⟨Aa,Aa⟩
end Go.Proofs.YtogdediiodmnbaaGreatDoor.Q
namespace Go.Proofs.YtogdediiodmnbaaGreatDoor.lawEntityCodes
open Go
set_option linter.unusedVariables false
def Wp (y:Ab):Bool:=(B2 .i64) y.fKind&&(B2 .i64) y.fInt&&XE y.fStr&&(B2 .i64) y.fN
def Wq (y:A0):Bool:=XE y.fEntity&&XE y.fID&&XE y.fOp&&(λys:(List (List Ab))=>ys.all (λys:(List Ab)=>ys.all Wp&&decide (ys.length≤9223372036854775807))&&decide (ys.length≤9223372036854775807)) y.fArgs
def Law:Prop:=∀(y0:A0) (y1:Int) (y2:Ae) (o0:Wq y0=true) (o1:(B2 .i64) y1=true) (o2:XE y2=true),∃F,LK F y0 y1 y2=some true
end Go.Proofs.YtogdediiodmnbaaGreatDoor.lawEntityCodes
namespace Go.Proofs.YtogdediiodmnbaaGreatDoor
open Go
set_option linter.unusedVariables false
set_option linter.unusedSimpArgs false
def KD (c:UInt8):Bool:=decide (32≤c.toNat)&&decide (c.toNat≤126)
theorem Du {s:Ae}{x:Int}{c:UInt8}(h:s[x.toNat]? =some c):Be s x=(c.toNat:Int):=by simp[Be,h]
theorem OF {α:Type}{p:α→Bool}{s:List α}{k:Nat}{c:α}(h:s[k]? =some c):(s.take (k+1)).all p=((s.take k).all p&&p c):=by
 rw[List.take_add_one,h];simp
theorem Ql {α:Type}{p:α→Bool}{s:List α}{k:Nat}{c:α}(h:s[k]? =some c)(hp:p c=false):s.all p=false:=by
 rw[List.all_eq_false];exact⟨c,Abs h,by simp[hp]⟩
theorem QA {F:Nat}{s:Ae}(hF:s.length<F)(hs:s.length≤9223372036854775807):Lk F s=some (s.all KD):=by
 obtain⟨o,h1,h2⟩:=Ik (body:=λσ=>I8 s σ) (λx=>0≤x∧x≤(s.length:Int)∧(s.take x.toNat).all KD=true) (λx=>s.length-x.toNat)
  (λo=>BT (λ_=>I7) o=some (s.all KD)) (λx ⟨h0,hl,ha⟩=>by
   unfold I8
   by_cases hx:x<(s.length:Int)
   ·obtain⟨c,hc⟩:∃c,s[x.toNat]? =some c:=⟨s[x.toNat]'(by omega),Abn (by omega)⟩
    rw[AK (by simpa using hx),Br h0 hx,Du hc]
    cases ho:KD c with
    | false=>
     refine .inr ⟨.ret false,?_,?_⟩
     ·rw[AK];simp only[KD,AbG,Abc] at ho;simp only[AbC,Abd];omega
     ·simp[BT,Ql hc ho]
    | true=>
     refine .inl ⟨x+1,?_,⟨by omega,by omega,?_⟩,by omega⟩
     ·rw[A8,AI (by omega) (by omega)];simp only[KD,Abk,Abd] at ho;simp only[Ab1,Abc];omega
     ·rw[show(x+1).toNat=x.toNat+1 from by omega,OF hc,ha,ho];rfl
   ·refine .inr ⟨.go (),by rw[A8 (by simpa using hx)],?_⟩;rw[show x.toNat=s.length from by omega,List.take_length] at ha;simp[BT,I7,ha]) F 0 ⟨by omega,by omega,by simp⟩ (by simpa using hF)
 unfold Lk;rw[AU h1,h2]
theorem PG (F:Nat)(s:Ae):JD F s=Lk F s:=rfl
theorem Uz {F:Nat}{s:Ae}(hF:s.length<F)(hs:s.length≤9223372036854775807):JD F s=some (s.all KD):=by rw[PG];exact QA hF hs
def pl (c:Ab):Bool:=
 bif decide (c.fKind=1) then(decide (c.fInt=0)&&(decide (c.fStr=[])&&decide (c.fN=0))) else
 bif decide (c.fKind=2) then((decide (c.fInt=0)||decide (c.fInt=1))&&(decide (c.fStr=[])&&decide (c.fN=0))) else
 bif decide (c.fKind=3) then(decide (c.fStr=[])&&decide (c.fN=0)) else
 bif decide (c.fKind=4) then(decide (c.fInt=0)&&(decide (c.fN=0)&&c.fStr.all KD)) else
 bif decide (c.fKind=5) then(decide (c.fInt=0)&&(decide (c.fStr=[])&&decide (0≤c.fN))) else
 bif decide (c.fKind=6) then(decide (c.fInt=0)&&(decide (c.fStr=[])&&decide (0≤c.fN))) else false
theorem ES {α:Type}{p:Bool}{x y:Option α}{a b:α}(h:x=some a)(h':y=some b):Bl p x y=some (bif p then a else b):=by cases p<;>simp[Bl,h,h']
theorem Uk {F:Nat}{c:Ab}(hF:c.fStr.length<F)(hs:c.fStr.length≤9223372036854775807):NC F c=some (pl c):=by
 unfold NC pl;rw[QA hF hs];refine ES rfl (ES ?_ (ES rfl (ES ?_ (ES rfl (ES rfl rfl)))))
 ·cases h:decide (c.fInt=0)<;>simp
 ·simp[imp,AY,ov]
def MW:List AH→List AH
 | []=>[]
 | e::S=>bif decide (1<e.fLeft) then⟨e.fPairs,e.fLeft-1,e.fPairs,e.fLast,e.fStarted⟩::S else MW S
theorem N2 {α:Type}[Inhabited α](xs:List α)(e:α):Am (xs++[e]) (xs.length:Int)=e:=by simp[Am]
theorem Lu {α:Type}(xs:List α)(e e':α):List.set (xs++[e]) (Int.toNat (xs.length:Int)) e'=xs++[e']:=by simp
theorem LJ {α:Type}(xs:List α)(e:α):((xs++[e]).length:Int)-1=(xs.length:Int):=by simp
theorem Us {α:Type}(xs:List α)(e:α):List.take (Int.toNat (xs.length:Int)) (xs++[e])=xs:=by simp
theorem MJ:∀(S:List AH) (F:Nat),S.length<F→(∀e∈S,1≤e.fLeft∧e.fLeft≤9223372036854775807)→S.length≤4611686018427387904→
  ∃o,Ca (λσ=>Ew σ) F S.reverse=some o∧BT (λν=>EZ ν) o=some (MW S).reverse
 | [],F+1,_,_,_=>⟨.go [],by simp[Ca,Ew,Bl],by simp[BT,EZ,MW]⟩
 | e::S,F+1,hF,hb,hl=>by
  obtain⟨h1,h2⟩:=hb e (by simp);simp only[Abf] at hF hl;have hx:S.reverse.length=S.length:=by simp
  generalize hxs:S.reverse=xs at hx;have hr:(e::S).reverse=xs++[e]:=by simp[hxs]
  rw[hr];have hb1:Ew (xs++[e])=bif decide (1<e.fLeft) then some (.out (.ret (xs++[⟨e.fPairs,e.fLeft-1,e.fPairs,e.fLast,e.fStarted⟩]))) else some (.next xs):=by
   unfold Ew;rw[AK (by simp)];simp only[LJ,N2,Lu,Lc];rw[AI (by omega) (by omega),Br (by omega) (by simp;omega),AI (by omega) (by omega)]
   cases hd:decide (1<e.fLeft) with
   | true=>
    rw[AK (by simp at hd ⊢;omega)];rfl
   | false=>
    rw[A8 (by simp at hd ⊢;omega),AI (by omega) (by omega),C1 (by omega) (by simp;omega),Us];rfl
  rw[Ca,hb1]
  cases hd:decide (1<e.fLeft) with
  | true=>exact⟨_,rfl,by simp[BT,EZ,MW,hd,hxs]⟩
  | false=>
   obtain⟨o,ho1,ho2⟩:=MJ S F (by omega) (λe he=>hb e (by simp[he])) (by omega);rw[hxs] at ho1;exact⟨o,ho1,by rw[ho2];simp[MW,hd]⟩
theorem NE {S:List AH}{F:Nat}(hF:S.length<F)(hb:∀e∈S,1≤e.fLeft∧e.fLeft≤9223372036854775807)(hl:S.length≤4611686018427387904):Lp F S.reverse=some (MW S).reverse:=by
 obtain⟨o,h1,h2⟩:=MJ S F hF hb hl;unfold Lp;rw[AU h1,h2]
def Ml (s:Ae):Int:=s.length+2+s.count 34+s.count 92
theorem NA {s:Ae}(hs:s.length≤1152921504606846976):Kb s=some (Ml s):=by
 have h1:s.count 34≤s.length:=List.count_le_length;have h2:s.count 92≤s.length:=List.count_le_length;unfold Kb Lib.countByte;rw[AI (by omega) (by omega),AI (by omega) (by omega),AI (by omega) (by omega)];rfl
def Zx (c:Ab):Int:=
 bif decide (c.fKind=1) then 4 else bif decide (c.fKind=2) then IntKind.wrap .i64 (5-c.fInt) else bif decide (c.fKind=3) then((Lib.itoa c.fInt).length:Int) else
 bif decide (c.fKind=4) then Ml c.fStr else IntKind.wrap .i64 (2+max 0 (IntKind.wrap .i64 (c.fN-1)))
theorem QB {c:Ab}(hs:c.fStr.length≤1152921504606846976)(hi:B2 .i64 c.fInt=true):QC c=some (Zx c):=by
 unfold QC Zx;rw[NA hs];refine ES rfl (ES rfl (ES ?_ (ES rfl rfl)));rw[BS hi]
def J3 (d:Nat)(sh:AT)(c:Ab):AT:=
 ⟨max sh.fDepth ((d:Int)+1),IntKind.wrap .i64 (sh.fBytes+Zx c),sh.fOutside||(decide (c.fKind=3)&&!(decide ((-1000000000000)≤c.fInt)&&decide (c.fInt≤1000000000000))),sh.fLong||decide (200<(c.fStr.length:Int))⟩
def shk (sh:AT)(c:Ab):AT:=⟨sh.fDepth,IntKind.wrap .i64 (sh.fBytes+(Ml c.fStr+1)),sh.fOutside,sh.fLong||decide (200<(c.fStr.length:Int))⟩
def Mw:List AH→Bool
 | []=>false
 | e::_=>e.fKey
abbrev Qu:=List AH×Int×AT
abbrev Zo:=Out (Int×AT×Bool) AT
def RT (n:Int)(S:List AH)(i:Int)(sh:AT)(c:Ab):Stp Qu Zo:=
 bif !pl c then .out (.ret (0,sh,false)) else
 match S with
 | e::S'=>
  bif e.fKey then
   bif !decide (c.fKind=4)||(e.fStarted&&(CW c.fStr e.fLast||decide (c.fStr=e.fLast))) then .out (.ret (0,sh,false))
   else .next ((⟨e.fPairs,e.fLeft,false,c.fStr,true⟩::S').reverse,i+1,shk sh c)
  else bif decide (0<c.fN) then
   bif decide (n<c.fN) then .out (.ret (0,J3 S.length sh c,false))
   else .next ((⟨decide (c.fKind=6),c.fN,decide (c.fKind=6),[],false⟩::S).reverse,i+1,J3 S.length sh c)
  else bif decide (MW S=[]) then .out (.ret (i+1,J3 S.length sh c,true)) else .next ((MW S).reverse,i+1,J3 S.length sh c)
 | []=>
  bif decide (0<c.fN) then
   bif decide (n<c.fN) then .out (.ret (0,J3 0 sh c,false))
   else .next ([⟨decide (c.fKind=6),c.fN,decide (c.fKind=6),[],false⟩],i+1,J3 0 sh c)
  else .out (.ret (i+1,J3 0 sh c,true))
theorem Ou {S:List AH}:decide (((MW S).reverse.length:Int)=0)=decide (MW S=[]):=by
 rw[Abu];simp
theorem Aas {α:Type}{xs:List α}{e x:α}{M:Nat}(h:xs.length+1≤M)(hM2:(M+2)*48≤140737488355328):Dz 48 ((xs++[e]).length+([x]:List α).length)=true:=by
 refine Abm (Nat.le_trans (Nat.mul_le_mul_right 48 ?_) hM2);rw[Abl,Ab8,Ab8];omega
set_option maxHeartbeats 600000 in
theorem QI {F:Nat}{v:List Ab}{S:List AH}{i:Int}{sh:AT}{c:Ab}(h0:0≤i)(hc:v[i.toNat]? =some c){M:Nat}(hM:M≤1152921504606846976)(hM2:(M+2)*48≤140737488355328)(hv:v.length≤M)(hS:S.length≤M)(hF:M<F)
  (hs:c.fStr.length≤M) (hi:B2 .i64 c.fInt=true) (hb:∀e∈S,1≤e.fLeft∧e.fLeft≤9223372036854775807):Ev F v S.reverse i sh=some (RT v.length S i sh c):=by
 have hil:i.toNat<v.length:=(List.getElem?_eq_some_iff.1 hc).1;have hat:Am v i=c:=by simp[Am,hc]
 unfold Ev RT;rw[AK (by simp;omega),Br h0 (by omega),hat,Uk (by omega) (by omega),AU rfl]
 cases hp:pl c with
 | false=>rw[AK (by simp)];rfl
 | true=>
  rw[A8 (by simp)]
  cases S with
  | nil=>
   rw[BS (by simp[imp]),BS (by simp[imp]),A8 (by simp),AI (by simp) (by simp),QB (by omega) hi,AU rfl,BS (by simp[imp,BQ])];simp only[BQ,ov,AbI,Abq,Abh]
   cases hn:decide (0<c.fN) with
   | true=>
    rw[AK rfl]
    cases hm:decide ((v.length:Int)<c.fN) with
    | true=>rw[AK rfl];simp[J3]
    | false=>rw[A8 rfl,BS (by simp[Dz])];unfold EN;rw[AI (by omega) (by omega)];simp[J3]
   | false=>
    rw[A8 rfl,AU (NE (S:=[]) (by simp;omega) (by simp) (by simp)),AK (by simp[MW]),AI (by omega) (by omega)];simp[J3]
  | cons e S'=>
   have hx:S'.reverse.length=S'.length:=by simp
   generalize hxs:S'.reverse=xs at hx;have hr:(e::S').reverse=xs++[e]:=by simp[hxs]
   simp only[Abf] at hS;have hlen:((xs++[e]).length:Int)=(xs.length:Int)+1:=by simp
   rw[hr,BS (by simp only[imp,LJ];rw[HQ (by omega) (by omega)];simp),BS (by simp only[imp,LJ];rw[LO (by omega) (by omega)];simp)];rw[LJ,N2]
   cases hk:e.fKey with
   | true=>
    rw[AK (by simp),AI (by omega) (by omega),Br (by omega) (by omega)];simp only[hk,Abq,Abh,Abj]
    cases ht : !decide (c.fKind=4)||(e.fStarted&&(CW c.fStr e.fLast||decide (c.fStr=e.fLast))) with
    | true=>rw[AK rfl];rfl
    | false=>
     rw[A8 rfl,Lu,Lc,N2,Lu,Lc,N2,Lu,Lc,NA (by omega),AU rfl,AI (by unfold Ml;omega) (by unfold Ml;have:=@List.count_le_length UInt8 _ 34 c.fStr;have:=@List.count_le_length UInt8 _ 92 c.fStr;omega)];unfold EN;rw[AI (by omega) (by omega)];simp[shk,hxs]
   | false=>
    rw[A8 (by simp),hlen,AI (by omega) (by omega),QB (by omega) hi,AU rfl,BS (by simp[imp,BQ])];simp only[hk,BQ,ov,AbI,Abq,Abh,Abj]
    cases hn:decide (0<c.fN) with
    | true=>
     rw[AK rfl]
     cases hm:decide ((v.length:Int)<c.fN) with
     | true=>rw[AK rfl];simp[J3,hx]
     | false=>rw[A8 rfl,BS (Aas (by omega) hM2)];unfold EN;rw[AI (by omega) (by omega)];simp[J3,hx,hxs]
    | false=>
     have hcl:=NE (S:=e::S') (F:=F) (by simp;omega) hb (by simp;omega);rw[hr] at hcl;rw[A8 rfl,hcl,AU rfl,Ou]
     cases hq:decide (MW (e::S')=[]) with
     | true=>rw[AK rfl,AI (by omega) (by omega)];simp[J3,hx]
     | false=>rw[A8 rfl];unfold EN;rw[AI (by omega) (by omega)];simp[J3,hx]
section
variable {S O : Type} {body : S → Option (Stp S O)} {s t u : S} {o : O}
def EU (body:S→Option (Stp S O))(s t:S):Prop:=∃k,∀n,Ca body (n+k) s=Ca body n t
def Fin (body:S→Option (Stp S O))(s:S)(o:O):Prop:=∃k,∀n,Ca body (n+k) s=some o
theorem EU.refl (s:S):EU body s s:=⟨0,λ_=>rfl⟩
theorem EU.trans (h:EU body s t)(h':EU body t u):EU body s u:=by
 obtain⟨k,hk⟩:=h;obtain⟨j,hj⟩:=h';exact⟨j+k,λn=>by rw[← Nat.add_assoc,hk,hj]⟩
theorem EU.step (h:body s=some (.next t)):EU body s t:=⟨1,λn=>by rw[Ca,h]⟩
theorem Fin.step (h:body s=some (.out o)):Fin body s o:=⟨1,λn=>by rw[Ca,h]⟩
theorem EU.fin (h:EU body s t)(h':Fin body t o):Fin body s o:=by
 obtain⟨k,hk⟩:=h;obtain⟨j,hj⟩:=h';exact⟨j+k,λn=>by rw[← Nat.add_assoc,hk,hj]⟩
end
inductive Fo where
 | nil
 | cell (k:Option Ae) (c:Ab) (r:Fo)
 | node (k:Option Ae) (c:Ab) (kids r:Fo)
def B8:Option Ae→List Ab
 | none=>[]
 | some s=>[⟨4,0,s,0⟩]
def Fo.flat:Fo→List Ab
 | .nil=>[]
 | .cell k c r=>B8 k++c::r.flat
 | .node k c kids r=>B8 k++c::(kids.flat++r.flat)
def Fo.cnt:Fo→Nat
 | .nil=>0
 | .cell _ _ r=>r.cnt+1
 | .node _ _ _ r=>r.cnt+1
def BH (m:Bool)(last:Option Ae):Option Ae→Bool
 | none=>!m
 | some s=>m&&s.all KD&&(match last with
  | none=>true
  | some p=>!(CW s p||decide (s=p)))
def Fo.wf:Bool→Option Ae→Fo→Bool
 | _,_,.nil=>true
 | m,last,.cell k c r=>BH m last k&&pl c&&!decide (0<c.fN)&&r.wf m k
 | m,last,.node k c kids r=>BH m last k&&pl c&&decide (0<c.fN)&&decide (c.fN=kids.cnt)&&kids.wf (decide (c.fKind=6)) none&&r.wf m k
def MK (k:Option Ae)(sh:AT):AT:=match k with
 | none=>sh
 | some s=>shk sh ⟨4,0,s,0⟩
def Fo.sh (d:Nat):AT→Fo→AT
 | s,.nil=>s
 | s,.cell k c r=>r.sh d (J3 d (MK k s) c)
 | s,.node k c kids r=>r.sh d (kids.sh (d+1) (J3 d (MK k s) c))
def I3 (body:Qu→Option (Stp Qu Zo))(s:Qu)(S:List AH)(i:Int)(sh:AT):Prop:=
 if MW S=[] then Fin body s (.ret (i,sh,true)) else EU body s ((MW S).reverse,i,sh)
theorem I3.of {body:Qu→Option (Stp Qu Zo)}{s t:Qu}{S:List AH}{i:Int}{sh:AT}(h:EU body s t)(h':I3 body t S i sh):I3 body s S i sh:=by
 unfold I3 at *
 split
 ·rename_i e;rw[AbB e] at h';exact h.fin h'
 ·rename_i e;rw[Ab6 e] at h';exact h.trans h'
theorem I3.pop {body:Qu→Option (Stp Qu Zo)}{s:Qu}{e:AH}{S:List AH}{i:Int}{sh:AT}(h:I3 body s (e::S) i sh)(h1:e.fLeft=1):I3 body s S i sh:=by
 have:MW (e::S)=MW S:=by simp[MW,h1]
 unfold I3 at *;rw[this] at h;exact h
theorem I3.more {body:Qu→Option (Stp Qu Zo)}{s:Qu}{e:AH}{S:List AH}{i:Int}{sh:AT}(h:I3 body s (e::S) i sh)(h1:1<e.fLeft):EU body s ((⟨e.fPairs,e.fLeft-1,e.fPairs,e.fLast,e.fStarted⟩::S).reverse,i,sh):=by
 have:MW (e::S)=⟨e.fPairs,e.fLeft-1,e.fPairs,e.fLast,e.fStarted⟩::S:=by simp[MW,h1]
 unfold I3 at *;rw[this,Ab6 (by simp)] at h;exact h
structure TX (F M:Nat) (v:List Ab):Prop where
 hM:M≤1152921504606846976
 hM2:(M+2)*48≤140737488355328
 hv:v.length≤M
 hF:M<F
 hc:∀c∈v,c.fStr.length≤M∧B2 .i64 c.fInt=true∧c.fN≤9223372036854775807
abbrev R3 (F:Nat)(v:List Ab):Qu→Option (Stp Qu Zo):=λσ=>Ev F v σ.1 σ.2.1 σ.2.2
def E8 (S:List AH):Prop:=∀e∈S,1≤e.fLeft∧e.fLeft≤9223372036854775807
section
variable {F M : Nat} {v : List Ab} {S : List AH} {i : Int} {sh : AT} {c : Ab} {r : List Ab} {e : AH}
theorem C3 (h0:0≤i)(h:v.drop i.toNat=c::r):v[i.toNat]? =some c∧v.drop (i+1).toNat=r∧i<v.length:=by
 have h1:(v.drop i.toNat)[0]? =some c:=by rw[h];rfl
 have h2:v[i.toNat]? =some c:=by simpa using h1
 have h3:=(List.getElem?_eq_some_iff.1 h2).1;refine⟨h2,?_,by omega⟩;rw[show(i+1).toNat=i.toNat+1 from by omega,← List.drop_drop,h];rfl
theorem round (hA:TX F M v)(h0:0≤i)(h:v.drop i.toNat=c::r)(hS:(S.length:Int)≤i)(hb:E8 S):R3 F v (S.reverse,i,sh)=some (RT v.length S i sh c):=by
 obtain⟨h1,_,h3⟩:=C3 h0 h;obtain⟨a,b,_⟩:=hA.hc c (Abs h1);have:=hA.hv;exact QI h0 h1 hA.hM hA.hM2 hA.hv (by omega) hA.hF a b hb
def He (e:AH):Option Ae→AH
 | none=>e
 | some s=>⟨e.fPairs,e.fLeft,false,s,true⟩
def JM (e:AH):Option Ae→Prop
 | none=>e.fStarted=false
 | some p=>e.fStarted=true∧e.fLast=p
theorem Ok (hA:TX F M v)(h0:0≤i){k last:Option Ae}(h:v.drop i.toNat=B8 k++r)(hS:(S.length:Int)+1≤i)(hb:E8 (e::S))(hk:BH e.fKey last k=true)(hl:JM e last) :
  EU (R3 F v) ((e::S).reverse,i,sh) ((He e k::S).reverse,i+(B8 k).length,MK k sh):=by
 cases k with
 | none=>simpa[He,B8,MK] using EU.refl _
 | some s=>
  simp only[BH,Abk] at hk;obtain⟨⟨hm,hok⟩,hcmp⟩:=hk;refine EU.step ?_;rw[round hA h0 (by simpa[B8] using h) (by simpa using hS) hb];have hp:pl ⟨4,0,s,0⟩=true:=by simp[pl,hok]
  have ht:(e.fStarted&&(CW s e.fLast||decide (s=e.fLast)))=false:=by
   cases last with
   | none=>simp only[JM] at hl;rw[hl];rfl
   | some p=>obtain⟨h1,h2⟩:=hl;rw[h1,h2];simpa using hcmp
  simp only[RT,hp,hm,ht,Abq,Abh,Abj,decide_true,Ab2,Bool.or_self];rfl
theorem Mv {k last:Option Ae}(hk:BH e.fKey last k=true):(He e k).fKey=false:=by
 cases k with
 | none=>simpa[He,BH] using hk
 | some s=>rfl
theorem KX (k:Option Ae):(He e k).fLeft=e.fLeft∧(He e k).fPairs=e.fPairs:=by cases k<;>exact⟨rfl,rfl⟩
theorem Mt (hA:TX F M v)(h0:0≤i)(h:v.drop i.toNat=c::r)(hS:(S.length:Int)≤i)(hb:E8 S)(hk:Mw S=false)(hp:pl c=true)(hn:decide (0<c.fN)=false) :
  I3 (R3 F v) (S.reverse,i,sh) S (i+1) (J3 S.length sh c):=by
 have hr:=round (sh:=sh) hA h0 h hS hb;unfold I3
 cases S with
 | nil=>
  rw[AbB (by simp[MW])];refine Fin.step ?_;rw[hr];simp[RT,hp,hn]
 | cons e S=>
  simp only[Mw] at hk
  split
  ·rename_i hc
   refine Fin.step ?_;rw[hr];simp[RT,hp,hn,hk,hc]
  ·rename_i hc
   refine EU.step ?_;rw[hr];simp[RT,hp,hn,hk,hc]
theorem Kj (hA:TX F M v)(h0:0≤i)(h:v.drop i.toNat=c::r)(hS:(S.length:Int)≤i)(hb:E8 S)(hk:Mw S=false)(hp:pl c=true)(hn:decide (0<c.fN)=true)(hv:c.fN≤v.length) :
  EU (R3 F v) (S.reverse,i,sh) ((⟨decide (c.fKind=6),c.fN,decide (c.fKind=6),[],false⟩::S).reverse,i+1,J3 S.length sh c):=by
 have hr:=round (sh:=sh) hA h0 h hS hb;have hv':decide ((v.length:Int)<c.fN)=false:=by simpa using hv
 refine EU.step ?_;rw[hr]
 cases S with
 | nil=>simp only[RT,hp,hn,hv',Abq,Abh,Abj];rfl
 | cons e S=>
  simp only[Mw] at hk;simp only[RT,hp,hn,hv',hk,Abq,Abh,Abj]
theorem C0:∀f:Fo,f.cnt≤f.flat.length
 | .nil=>AbA _
 | .cell k c r=>by have:=C0 r;simp[Fo.cnt,Fo.flat];omega
 | .node k c kids r=>by have:=C0 r;simp[Fo.cnt,Fo.flat];omega
theorem CN {α:Type}{v xs r:List α}{i:Int}(h0:0≤i)(h:v.drop i.toNat=xs++r):v.drop (i+xs.length).toNat=r:=by
 rw[show(i+(xs.length:Int)).toNat=i.toNat+xs.length from by omega,← List.drop_drop,h,List.drop_left]
theorem QR (hA:TX F M v){e':AH}{s:Qu}{k:Option Ae}{r':Fo}
  (ih:∀(e:AH) (S:List AH) (i:Int) (sh:AT) (last:Option Ae) (r:List Ab),1≤r'.cnt→r'.wf e.fPairs last=true→e.fKey=e.fPairs→e.fLeft=r'.cnt→JM e last→(e.fPairs=false→last=none)→v.drop i.toNat=r'.flat++r→0≤i→(S.length:Int)+1≤i→E8 S→
   I3 (R3 F v) ((e::S).reverse,i,sh) S (i+r'.flat.length) (r'.sh (S.length+1) sh))
  (hd:I3 (R3 F v) s (e'::S) i sh) (hl:e'.fLeft=r'.cnt+1) (hw:r'.wf e'.fPairs k=true) (hk:JM e' k) (hm:e'.fPairs=false→k=none) (hv:v.drop i.toNat=r'.flat++r) (h0:0≤i) (hS:(S.length:Int)+1≤i) (hb:E8 S) :
  I3 (R3 F v) s S (i+r'.flat.length) (r'.sh (S.length+1) sh):=by
 by_cases h1:r'.cnt=0
 ·cases r' with
  | nil=>simpa[Fo.flat,Fo.sh] using hd.pop (by rw[hl];rfl)
  | cell _ _ _=>simp[Fo.cnt] at h1
  | node _ _ _ _=>simp[Fo.cnt] at h1
 ·have:=hd.more (by omega);refine I3.of this (ih _ S i sh k r (by omega) hw rfl (by simp only;omega) ?_ hm hv h0 hS hb)
  cases k with
  | none=>exact hk
  | some p=>exact hk
theorem KY {k last:Option Ae}(hl:JM e last)(hm:e.fPairs=false→last=none)(hk:BH e.fPairs last k=true):JM (He e k) k∧((He e k).fPairs=false→k=none):=by
 cases k with
 | none=>
  have:e.fPairs=false:=by simpa[BH] using hk
  rw[hm this] at hl;exact⟨hl,λ_=>rfl⟩
 | some s=>
  refine⟨⟨rfl,rfl⟩,λh=>?_⟩;have h:e.fPairs=false:=h;simp[BH,h] at hk
theorem MU (hA:TX F M v):∀(f:Fo) (e:AH) (S:List AH) (i:Int) (sh:AT) (last:Option Ae) (r:List Ab),1≤f.cnt→f.wf e.fPairs last=true→e.fKey=e.fPairs→e.fLeft=f.cnt→JM e last→(e.fPairs=false→last=none)→v.drop i.toNat=f.flat++r→0≤i→(S.length:Int)+1≤i→E8 S→
   I3 (R3 F v) ((e::S).reverse,i,sh) S (i+f.flat.length) (f.sh (S.length+1) sh):=by
 have hmax:∀(i:Int) (xs:List Ab),0≤i→v.drop i.toNat=xs→xs.length≤v.length:=λi xs _ h=>by rw[← h,AbK];omega
 intro f
 induction f with
 | nil=>intro e S i sh last r h1;simp[Fo.cnt] at h1
 | cell k c r' ih=>
  intro e S i sh last r h1 hw hk hl hlo hm hv h0 hS hb;simp only[Fo.wf,Abk,Abz] at hw;obtain⟨⟨⟨w1,w2⟩,w3⟩,w4⟩:=hw;simp only[Fo.flat,Ab7,AbY] at hv;have hcnt:=hmax i _ h0 hv;have hcf:=C0 r';simp only[Abl,Abf] at hcnt;have hvM:=hA.hv;have hMM:=hA.hM;simp only[Fo.cnt] at hl;have hb':E8 (e::S):=λx hx=>by
   rcases List.mem_cons.1 hx with rfl | hx
   ·constructor<;>omega
   ·exact hb x hx
  have hkr:=Ok (sh:=sh) hA h0 hv hS hb' (by rw[hk];exact w1) hlo;have hv1:=CN h0 hv;obtain⟨kl,kp⟩:=KX (e:=e) k;have hbk:E8 (He e k::S):=λx hx=>by
   rcases List.mem_cons.1 hx with rfl | hx
   ·rw[kl];exact hb' e (by simp)
   ·exact hb x hx
  have hd:=Mt (sh:=MK k sh) hA (by omega) hv1 (by simp only[Abf];omega) hbk (Mv (by rw[hk];exact w1)) w2 w3;obtain⟨q1,q2⟩:=KY hlo hm w1;have hv2:=(C3 (by omega) hv1).2.1;have:=QR hA ih (hd.of hkr) (by rw[kl,hl];rfl) (by rw[kp];exact w4) q1 q2 hv2 (by omega) (by omega) hb;simp only[Fo.flat,Fo.sh,Abl,Abf];rw[show i+((((B8 k).length+(r'.flat.length+1):Nat)):Int)=i+(B8 k).length+1+r'.flat.length from by omega];exact this
 | node k c kids r' ihk ih=>
  intro e S i sh last r h1 hw hk hl hlo hm hv h0 hS hb;simp only[Fo.wf,Abk,Abd] at hw;obtain⟨⟨⟨⟨⟨w1,w2⟩,w3⟩,w5⟩,w6⟩,w4⟩:=hw;simp only[Fo.flat,Ab7,AbY] at hv;have hcnt:=hmax i _ h0 hv;have hcf:=C0 r';have hck:=C0 kids;simp only[Abl,Abf] at hcnt;have hvM:=hA.hv;have hMM:=hA.hM;simp only[Fo.cnt] at hl;have hb':E8 (e::S):=λx hx=>by
   rcases List.mem_cons.1 hx with rfl | hx
   ·constructor<;>omega
   ·exact hb x hx
  have hkr:=Ok (sh:=sh) hA h0 hv hS hb' (by rw[hk];exact w1) hlo;have hv1:=CN h0 hv;obtain⟨kl,kp⟩:=KX (e:=e) k;have hbk:E8 (He e k::S):=λx hx=>by
   rcases List.mem_cons.1 hx with rfl | hx
   ·rw[kl];exact hb' e (by simp)
   ·exact hb x hx
  have hn:=Kj (sh:=MK k sh) hA (by omega) hv1 (by simp only[Abf];omega) hbk (Mv (by rw[hk];exact w1)) w2 (by simpa using w3) (by omega);have hv2:=(C3 (by omega) hv1).2.1;have hd:=ihk ⟨decide (c.fKind=6),c.fN,decide (c.fKind=6),[],false⟩ (He e k::S) (i+(B8 k).length+1) (J3 (S.length+1) (MK k sh) c) none _ (by omega) w6 rfl w5 rfl (λ_=>rfl) hv2 (by omega) (by simp only[Abf];omega) hbk;obtain⟨q1,q2⟩:=KY hlo hm w1;have hv3:=CN (by omega) hv2;have:=QR hA ih ((hd.of hn).of hkr) (by rw[kl,hl];rfl) (by rw[kp];exact w4) q1 q2 hv3 (by omega) (by omega) hb;simp only[Fo.flat,Fo.sh,Abl,Abf];rw[show i+((((B8 k).length+(kids.flat.length+r'.flat.length+1):Nat)):Int)=i+(B8 k).length+1+kids.flat.length+r'.flat.length from by omega];exact this
end
theorem R1 {S O:Type}{body:S→Option (Stp S O)}{o:O}:∀{n:Nat} {s:S} (k:Nat),Ca body n s=some o→Ca body (n+k) s=some o
 | 0,s,k,h=>by cases h
 | n+1,s,k,h=>by
  rw[show n+1+k=n+k+1 from by omega,Ca];rw[Ca] at h
  cases hb:body s with
  | none=>rw[hb] at h;cases h
  | some t=>
   rw[hb] at h
   cases t with
   | next s'=>exact R1 k h
   | out o'=>exact h
theorem Fin.eq {S O:Type}{body:S→Option (Stp S O)}{s:S}{o o':O}{n:Nat}(h:Fin body s o)(h':Ca body n s=some o'):o'=o:=by
 obtain⟨k,hk⟩:=h;have:=R1 k h';rw[hk n] at this;exact(At this).symm
theorem Pw:∀{S:List AH},E8 S→E8 (MW S)∧(MW S).length≤S.length
 | [],h=>⟨h,AbA _⟩
 | e::S,h=>by
  have hS:E8 S:=λx hx=>h x (by simp[hx]);have he:=h e (by simp);unfold MW
  cases hd:decide (1<e.fLeft) with
  | true=>
   simp only[Abd] at hd;refine⟨λx hx=>?_,by simp⟩;rcases List.mem_cons.1 hx with rfl | hx
   ·simp only;omega
   ·exact hS x hx
  | false=>
   obtain⟨h1,h2⟩:=Pw hS;exact⟨h1,by simp only[Abh,Abf];omega⟩
theorem WG {n:Int}{S:List AH}{i:Int}{sh:AT}{c:Ab}{σ:Qu}(hb:E8 S)(hS:(S.length:Int)≤i)(hN:c.fN≤9223372036854775807)(h:RT n S i sh c = .next σ):∃S' sh',σ=(S'.reverse,i+1,sh')∧E8 S'∧(S'.length:Int)≤i+1:=by
 unfold RT at h
 cases hp:pl c with
 | false=>simp[hp] at h
 | true=>
  simp only[hp,Abq,Abh] at h
  cases S with
  | nil=>
   simp only at h
   cases hn:decide (0<c.fN) with
   | false=>simp[hn] at h
   | true=>
    simp only[hn,Abj] at h
    cases hm:decide (n<c.fN) with
    | true=>simp[hm] at h
    | false=>
     simp only[hm,Abh,Stp.next.injEq] at h;refine⟨[_],_,h.symm,λx hx=>?_,by simp at hS ⊢;omega⟩;simp only[AbD] at hx;subst hx;simp only[Abd] at hn;exact⟨by simp only;omega,hN⟩
  | cons e S=>
   have he:=hb e (by simp);have hbS:E8 S:=λx hx=>hb x (by simp[hx]);simp only[Abf] at hS
   cases hk:e.fKey with
   | true=>
    simp only[hk,Abj] at h
    cases hq:(!decide (c.fKind=4)||(e.fStarted&&(CW c.fStr e.fLast||decide (c.fStr=e.fLast)))) with
    | true=>rw[hq] at h;simp at h
    | false=>
     rw[hq] at h;simp only[Abh,Stp.next.injEq] at h;refine⟨_::S,_,h.symm,λx hx=>?_,by simp only[Abf];omega⟩;rcases List.mem_cons.1 hx with rfl | hx
     ·exact he
     ·exact hbS x hx
   | false=>
    simp only[hk,Abh] at h
    cases hn:decide (0<c.fN) with
    | true=>
     simp only[hn,Abj] at h
     cases hm:decide (n<c.fN) with
     | true=>simp[hm] at h
     | false=>
      simp only[hm,Abh,Stp.next.injEq] at h;refine⟨_::e::S,_,h.symm,λx hx=>?_,by simp only[Abf];omega⟩;rcases List.mem_cons.1 hx with rfl | hx
      ·simp only[Abd] at hn;exact⟨by simp only;omega,hN⟩
      ·exact hb x hx
    | false=>
     simp only[hn,Abh] at h
     cases hq:decide (MW (e::S)=[]) with
     | true=>rw[hq] at h;simp at h
     | false=>
      rw[hq] at h;simp only[Abh,Stp.next.injEq] at h;obtain⟨h1,h2⟩:=Pw hb;simp only[Abf] at h2;exact⟨_,_,h.symm,h1,by omega⟩
theorem Oe {F M:Nat}{v:List Ab}(hA:TX F M v):∃o,Ca (R3 F v) F (([]:List AH),0,(⟨0,0,false,false⟩:AT))=some o∧True:=by
 refine Ik (λσ=>∃S i sh,σ=(S.reverse,i,sh)∧E8 S∧(S.length:Int)≤i∧0≤i∧i≤v.length) (λσ=>v.length-σ.2.1.toNat) (λ_=>True) (λσ hI=>?_) F _ ⟨[],0,_,rfl,(λx hx=>by cases hx),Ab9 _,Ab9 _,by omega⟩ (by have:=hA.hv;have:=hA.hF;simp;omega);obtain⟨S,i,sh,rfl,hb,hS,h0,hi⟩:=hI
 by_cases hx:i<v.length
 ·obtain⟨c,hc⟩:∃c,v[i.toNat]? =some c:=⟨v[i.toNat]'(by omega),Abn (by omega)⟩
  have hdr:v.drop i.toNat=c::v.drop (i.toNat+1):=by rw[List.drop_eq_getElem_cons (by omega)];congr 1;exact(List.getElem?_eq_some_iff.1 hc).2
  have hr:=round (sh:=sh) hA h0 hdr hS hb
  cases hl:RT v.length S i sh c with
  | next τ=>
   obtain⟨S',sh',rfl,h1,h2⟩:=WG hb hS (hA.hc c (Abs hc)).2.2 hl;exact .inl ⟨_,by rw[hr,hl],⟨S',i+1,sh',rfl,h1,h2,by omega,by omega⟩,by simp only;omega⟩
  | out o=>exact .inr ⟨o,by rw[hr,hl],trivial⟩
 ·refine .inr ⟨.go sh,?_,trivial⟩;show Ev F v S.reverse i sh=_;unfold Ev;rw[A8 (by simpa using hx)]
def Fo.one:Fo→Bool
 | .cell none _ .nil=>true
 | .node none _ _ .nil=>true
 | _=>false
def NH:AT:=⟨0,0,false,false⟩
theorem WF {F M:Nat}{v:List Ab}(hA:TX F M v){f:Fo}(h1:f.one=true)(hw:f.wf false none=true){r:List Ab}(hv:v=f.flat++r):Fin (R3 F v) ([],0,NH) (.ret (f.flat.length,f.sh 0 NH,true)):=by
 have h0:v.drop (0:Int).toNat=f.flat++r:=by rw[hv];rfl
 have hlen:f.flat.length≤v.length:=by rw[hv];simp
 cases f with
 | nil=>cases h1
 | cell k c r'=>
  cases k with
  | some s=>cases h1
  | none=>
   cases r' with
   | nil=>
    simp only[Fo.wf,Abk,Abz] at hw;have:=Mt (S:=[]) (sh:=NH) hA (Ab9 0) h0 (by simp) (λx hx=>by cases hx) rfl hw.1.1.2 hw.1.2;unfold I3 at this;rw[AbB (show MW []=[] from rfl)] at this;simpa[Fo.flat,Fo.sh,B8,MK] using this
   | cell _ _ _=>cases h1
   | node _ _ _ _=>cases h1
 | node k c kids r'=>
  cases k with
  | some s=>cases h1
  | none=>
   cases r' with
   | nil=>
    simp only[Fo.wf,Abk,Abd] at hw;obtain⟨⟨⟨⟨⟨w1,w2⟩,w3⟩,w5⟩,w6⟩,w4⟩:=hw;have hck:=C0 kids;simp only[Fo.flat,B8,AbU,AbL,Abf] at hlen;have hvM:=hA.hv;have hMM:=hA.hM;have hn:=Kj (S:=[]) (sh:=NH) hA (Ab9 0) h0 (by simp) (λx hx=>by cases hx) rfl w2 (by simpa using w3) (by omega);have hv2:=(C3 (Ab9 0) h0).2.1;have hd:=MU hA kids ⟨decide (c.fKind=6),c.fN,decide (c.fKind=6),[],false⟩ [] (0+1) (J3 0 NH c) none r (by omega) w6 rfl w5 rfl (λ_=>rfl) (by rw[hv2];simp[Fo.flat]) (by omega) (by simp) (λx hx=>by cases hx);unfold I3 at hd;rw[AbB (show MW []=[] from rfl)] at hd;have:=hn.fin hd;have e:((0:Int)+1+kids.flat.length)=((Fo.node none c kids .nil).flat.length:Int):=by simp[Fo.flat,B8];omega
    rw[e] at this;exact this
   | cell _ _ _=>cases h1
   | node _ _ _ _=>cases h1
theorem R2 {F M:Nat}{v:List Ab}(hA:TX F M v){f:Fo}(h1:f.one=true)(hw:f.wf false none=true){r:List Ab}(hv:v=f.flat++r):Jw F v=some ((f.flat.length:Int),f.sh 0 NH,true):=by
 obtain⟨o,ho,_⟩:=Oe hA;have e:=(WF hA h1 hw hv).eq ho;subst e;unfold Jw;rw[AU ho];rfl
def IN (m:Bool)(last:Option Ae)(xs:List Ab):Option (Option Ae×List Ab):=
 bif m then match xs with
  | []=>none
  | c::r=>bif pl c&&decide (c.fKind=4)&&BH true last (some c.fStr) then some (some c.fStr,r) else none
 else some (none,xs)
def IX:Nat→Bool→Option Ae→Nat→List Ab→Option (Fo×List Ab)
 | 0,_,_,_,_=>none
 | _+1,_,_,0,xs=>some (.nil,xs)
 | F+1,m,last,k+1,xs=>
  match IN m last xs with
  | none=>none
  | some (_,[])=>none
  | some (key,c::xs')=>
   bif !pl c then none else
   bif decide (0<c.fN) then
    match IX F (decide (c.fKind=6)) none c.fN.toNat xs' with
    | none=>none
    | some (kids,ys)=>match IX F m key k ys with
     | none=>none
     | some (r,zs)=>some (.node key c kids r,zs)
   else match IX F m key k xs' with
    | none=>none
    | some (r,zs)=>some (.cell key c r,zs)
theorem PO {c:Ab}(hp:pl c=true)(hk:c.fKind=4):c=⟨4,0,c.fStr,0⟩∧c.fStr.all KD=true:=by
 cases c
 simp only at hk;subst hk;simp[pl] at hp;obtain⟨h1,h2,h3⟩:=hp;subst h1;subst h2;exact⟨rfl,by simpa using h3⟩
theorem Nq {m:Bool}{last key:Option Ae}{xs r:List Ab}(h:IN m last xs=some (key,r)):xs=B8 key++r∧BH m last key=true:=by
 unfold IN at h
 cases m with
 | false=>cases h;exact⟨rfl,rfl⟩
 | true=>
  simp only[Abj] at h
  cases xs with
  | nil=>cases h
  | cons c r'=>
   simp only at h
   cases hb:(pl c&&decide (c.fKind=4)&&BH true last (some c.fStr)) with
   | false=>rw[hb] at h;cases h
   | true=>
    rw[hb] at h;simp only[Abk,Abd] at hb
    cases h
    exact⟨by rw[(PO hb.1.1 hb.1.2).1];rfl,hb.2⟩
theorem Iw:∀(F:Nat) (m:Bool) (last:Option Ae) (k:Nat) (xs:List Ab) (f:Fo) (ys:List Ab),IX F m last k xs=some (f,ys)→xs=f.flat++ys∧f.wf m last=true∧f.cnt=k
 | 0,_,_,_,_,_,_,h=>by cases h
 | F+1,m,last,0,xs,f,ys,h=>by cases h;exact⟨rfl,rfl,rfl⟩
 | F+1,m,last,k+1,xs,f,ys,h=>by
  rw[IX] at h
  cases hk:IN m last xs with
  | none=>rw[hk] at h;cases h
  | some p=>
   obtain⟨key,r⟩:=p;obtain⟨h1,h2⟩:=Nq hk;rw[hk] at h
   cases r with
   | nil=>cases h
   | cons c xs'=>
    simp only at h
    cases hp:pl c with
    | false=>rw[hp] at h;cases h
    | true=>
     rw[hp] at h;simp only[Abq,Abh] at h
     cases hn:decide (0<c.fN) with
     | true=>
      rw[hn] at h;simp only[Abj] at h
      cases hq:IX F (decide (c.fKind=6)) none c.fN.toNat xs' with
      | none=>rw[hq] at h;cases h
      | some q=>
       obtain⟨kids,zs⟩:=q;rw[hq] at h;simp only at h
       cases hr:IX F m key k zs with
       | none=>rw[hr] at h;cases h
       | some q2=>
        obtain⟨r2,us⟩:=q2;rw[hr] at h;cases h;obtain⟨a1,a2,a3⟩:=Iw F _ _ _ _ _ _ hq;obtain⟨b1,b2,b3⟩:=Iw F _ _ _ _ _ _ hr;refine⟨by rw[h1,a1,b1];simp[Fo.flat],?_,by simp[Fo.cnt,b3]⟩;simp only[Abd] at hn;simp only[Fo.wf,h2,hp,a2,b2,Abx,Abp,Abk,Abd];omega
     | false=>
      rw[hn] at h;simp only[Abh] at h
      cases hr:IX F m key k xs' with
      | none=>rw[hr] at h;cases h
      | some q2=>
       obtain⟨r2,us⟩:=q2;rw[hr] at h;cases h;obtain⟨b1,b2,b3⟩:=Iw F _ _ _ _ _ _ hr;exact⟨by rw[h1,b1];simp[Fo.flat],by simp[Fo.wf,h2,hp,b2,hn],by simp[Fo.cnt,b3]⟩
theorem IM:∀(F F':Nat) (m:Bool) (last:Option Ae) (k:Nat) (xs:List Ab),xs.length<F→xs.length<F'→IX F m last k xs=IX F' m last k xs
 | 0,_,_,_,_,_,h,_=>by omega
 | _+1,0,_,_,_,_,_,h=>by omega
 | F+1,F'+1,m,last,0,xs,_,_=>rfl
 | F+1,F'+1,m,last,k+1,xs,h,h'=>by
  rw[IX,IX]
  cases hk:IN m last xs with
  | none=>rfl
  | some p=>
   obtain⟨key,r⟩:=p;obtain⟨h1,h2⟩:=Nq hk
   cases r with
   | nil=>rfl
   | cons c xs'=>
    have hl:xs'.length<xs.length:=by rw[h1];simp;omega
    simp only
    cases hp:pl c with
    | false=>rfl
    | true=>
     simp only[Abq,Abh]
     cases hn:decide (0<c.fN) with
     | true=>
      simp only[Abj];rw[IM F F' _ _ _ xs' (by omega) (by omega)]
      cases hq:IX F' (decide (c.fKind=6)) none c.fN.toNat xs' with
      | none=>rfl
      | some q=>
       obtain⟨kids,zs⟩:=q;have:=(Iw _ _ _ _ _ _ _ hq).1;have hz:zs.length≤xs'.length:=by rw[this];simp
       simp only;rw[IM F F' m key k zs (by omega) (by omega)]
     | false=>
      simp only[Abh];rw[IM F F' m key k xs' (by omega) (by omega)]
def Td {S:Type}(body:S→Option (Stp S Zo))(s:S):Prop:=∃sh',Fin body s (.ret (0,sh',false))∨Fin body s (.go sh')
theorem EU.bad {S:Type}{body:S→Option (Stp S Zo)}{s t:S}(h:EU body s t)(h':Td body t):Td body s:=by
 obtain⟨sh',h' | h'⟩:=h'
 ·exact⟨sh',.inl (h.fin h')⟩
 ·exact⟨sh',.inr (h.fin h')⟩
section
variable {F M : Nat} {v : List Ab}
theorem Td.end_ {S:List AH}{i:Int}{sh:AT}(h0:0≤i)(h:v.drop i.toNat=[]):Td (R3 F v) (S.reverse,i,sh):=by
 refine⟨sh,.inr (Fin.step ?_)⟩;show Ev F v S.reverse i sh=_;unfold Ev;rw[A8];have:v.length≤i.toNat:=by simpa using h
 simp;omega
theorem Td.pl_ (hA:TX F M v){S:List AH}{i:Int}{sh:AT}{c:Ab}{r:List Ab}(h0:0≤i)(h:v.drop i.toNat=c::r)(hS:(S.length:Int)≤i)(hb:E8 S)(hp:pl c=false):Td (R3 F v) (S.reverse,i,sh):=by
 refine⟨sh,.inl (Fin.step ?_)⟩;rw[round hA h0 h hS hb];simp[RT,hp]
theorem SU (hA:TX F M v):∀(P:Nat) (k:Nat) (e:AH) (S:List AH) (i:Int) (sh:AT) (last:Option Ae) (xs:List Ab),xs.length<P→IX P e.fPairs last (k+1) xs=none→e.fKey=e.fPairs→e.fLeft=(k:Int)+1→(k:Int)+1≤9223372036854775807→JM e last→(e.fPairs=false→last=none)→v.drop i.toNat=xs→0≤i→(S.length:Int)+1≤i→E8 S→
  Td (R3 F v) ((e::S).reverse,i,sh):=by
 intro P
 induction P with
 | zero=>intro k e S i sh last xs h;omega
 | succ P ih=>
  intro k e S i sh last xs hP hn hk hl hkm hlo hm hv h0 hS hb;have hb':E8 (e::S):=λx hx=>by
   rcases List.mem_cons.1 hx with rfl | hx
   ·constructor<;>omega
   ·exact hb x hx
  rw[IX] at hn
  cases hq:IN e.fPairs last xs with
  | none=>
   unfold IN at hq
   cases hpr:e.fPairs with
   | false=>rw[hpr] at hq;cases hq
   | true=>
    rw[hpr] at hq hk;simp only[Abj] at hq
    cases xs with
    | nil=>exact Td.end_ h0 hv
    | cons c r=>
     simp only at hq
     cases hp:pl c with
     | false=>exact Td.pl_ hA h0 hv (by simpa using hS) hb' hp
     | true=>
      refine⟨sh,.inl (Fin.step ?_)⟩;rw[round hA h0 hv (by simpa using hS) hb'];have ht:(!decide (c.fKind=4)||(e.fStarted&&(CW c.fStr e.fLast||decide (c.fStr=e.fLast))))=true:=by
       rw[hp] at hq
       cases h4:decide (c.fKind=4) with
       | false=>rfl
       | true=>
        rw[h4] at hq;simp only[Bool.and_self,Abp] at hq;have hok:=(PO hp (by simpa using h4)).2
        cases last with
        | none=>simp[BH,hok] at hq
        | some p=>
         obtain⟨q1,q2⟩:=hlo;rw[q1,q2]
         cases hc:(CW c.fStr p||decide (c.fStr=p)) with
         | true=>rfl
         | false=>simp[BH,hok,hc] at hq
      simp only[RT,hp,hk,ht,Abq,Abh,Abj]
  | some q=>
   obtain⟨key,r⟩:=q;obtain⟨h1,h2⟩:=Nq hq;rw[hq] at hn;have hkr:=Ok (sh:=sh) hA h0 (by rw[hv];exact h1) hS hb' (by rw[hk];exact h2) hlo;have hv1:=CN h0 (hv.trans h1);obtain⟨kl,kp⟩:=KX (e:=e) key;obtain⟨q1,q2⟩:=KY hlo hm h2;have hbk:E8 (He e key::S):=λx hx=>by
    rcases List.mem_cons.1 hx with rfl | hx
    ·rw[kl];exact hb' e (by simp)
    ·exact hb x hx
   refine hkr.bad ?_
   cases r with
   | nil=>exact Td.end_ (by omega) hv1
   | cons c xs'=>
    have hlen:xs'.length+1≤xs.length:=by rw[h1];simp
    have hvl:xs.length≤v.length:=by rw[← hv,AbK];omega
    have hvM:=hA.hv;have hMM:=hA.hM;have hkk:=Mv (e:=e) (last:=last) (k:=key) (by rw[hk];exact h2);simp only at hn;have hSk:(((He e key::S).length:Nat):Int)≤i+(B8 key).length:=by simp only[Abf];omega
    cases hp:pl c with
    | false=>exact Td.pl_ hA (by omega) hv1 hSk hbk hp
    | true=>
     rw[hp] at hn;simp only[Abq,Abh] at hn;obtain⟨g1,g2,g3⟩:=C3 (by omega) hv1;have hcN:=(hA.hc c (Abs g1)).2.2;have more:∀(s:Qu) (j:Int) (sh':AT) (zs:List Ab),I3 (R3 F v) s (He e key::S) j sh'→v.drop j.toNat=zs→zs.length<P→0≤j→(S.length:Int)+1≤j→IX P e.fPairs key k zs=none→Td (R3 F v) s:=λs j sh' zs hd hz hzl hj hSj hnone=>by
      cases k with
      | zero=>
       cases P with
       | zero=>omega
       | succ P=>cases hnone
      | succ k=>
       have:=hd.more (by rw[kl];omega);refine this.bad (ih k _ S j sh' key zs hzl (by rw[kp];exact hnone) rfl (by simp only[kl];omega) (by omega) ?_ (by simpa using q2) hz hj hSj hb)
       cases key with
       | none=>exact q1
       | some p=>exact q1
     cases hN:decide (0<c.fN) with
     | true=>
      rw[hN] at hn;simp only[Abj] at hn;simp only[Abd] at hN
      by_cases hbig:c.fN≤v.length
      ·have hnd:=Kj (sh:=MK key sh) hA (by omega) hv1 hSk hbk (by simpa[Mw] using hkk) hp (by simpa using hN) hbig;refine hnd.bad ?_
       cases hks:IX P (decide (c.fKind=6)) none c.fN.toNat xs' with
       | none=>
        obtain⟨n',hn'⟩:∃n',c.fN.toNat=n'+1:=⟨c.fN.toNat-1,by omega⟩
        rw[hn'] at hks;exact ih n' _ _ _ _ none xs' (by omega) hks rfl (by simp only;omega) (by omega) rfl (λ_=>rfl) g2 (by omega) (by simp only[Abf];omega) hbk
       | some q=>
        obtain⟨kids,zs⟩:=q;rw[hks] at hn;simp only at hn;have hn2:IX P e.fPairs key k zs=none:=by
         cases hz:IX P e.fPairs key k zs with
         | none=>rfl
         | some q=>rw[hz] at hn;cases hn
        obtain⟨a1,a2,a3⟩:=Iw _ _ _ _ _ _ _ hks;have hd:=MU hA kids ⟨decide (c.fKind=6),c.fN,decide (c.fKind=6),[],false⟩ (He e key::S) (i+(B8 key).length+1) (J3 (S.length+1) (MK key sh) c) none zs (by omega) a2 rfl (by simp only;omega) rfl (λ_=>rfl) (by rw[g2];exact a1) (by omega) (by simp only[Abf];omega) hbk;have hz:v.drop (i+(B8 key).length+1+kids.flat.length).toNat=zs:=CN (by omega) (g2.trans a1);have hzl:zs.length≤xs'.length:=by rw[a1];simp
        exact more _ _ _ zs hd hz (by omega) (by omega) (by omega) hn2
      ·refine⟨J3 (He e key::S).length (MK key sh) c,.inl (Fin.step ?_)⟩;rw[round hA (by omega) hv1 hSk hbk];have hbig':decide ((v.length:Int)<c.fN)=true:=by simpa using hbig
       simp only[RT,hp,hkk,hbig',hN,Abq,Abh,Abj,decide_true]
     | false=>
      rw[hN] at hn;simp only[Abh] at hn;have hn2:IX P e.fPairs key k xs'=none:=by
       cases hz:IX P e.fPairs key k xs' with
       | none=>rfl
       | some q=>rw[hz] at hn;cases hn
      have hd:=Mt (sh:=MK key sh) hA (by omega) hv1 hSk hbk (by simpa[Mw] using hkk) hp hN;exact more _ _ _ xs' hd g2 (by omega) (by omega) (by omega) hn2
def Ix (xs:List Ab):Option (Fo×List Ab):=IX (xs.length+1) false none 1 xs
theorem Tw {P:Nat}{xs ys:List Ab}{f:Fo}(h:IX P false none 1 xs=some (f,ys)):f.one=true:=by
 obtain⟨h1,h2,h3⟩:=Iw _ _ _ _ _ _ _ h
 cases f with
 | nil=>cases h3
 | cell k c r=>
  cases r with
  | nil=>
   cases k with
   | none=>rfl
   | some s=>simp[Fo.wf,BH] at h2
  | cell _ _ _=>simp[Fo.cnt] at h3
  | node _ _ _ _=>simp[Fo.cnt] at h3
 | node k c kids r=>
  cases r with
  | nil=>
   cases k with
   | none=>rfl
   | some s=>simp[Fo.wf,BH] at h2
  | cell _ _ _=>simp[Fo.cnt] at h3
  | node _ _ _ _=>simp[Fo.cnt] at h3
theorem UW (hA:TX F M v)(h:Ix v=none):Td (R3 F v) ([],0,NH):=by
 have hlf:E8 []:=λx hx=>by cases hx
 unfold Ix at h;rw[IX] at h;simp only[IN,Abh] at h
 cases v with
 | nil=>exact Td.end_ (S:=[]) (Ab9 0) rfl
 | cons c xs'=>
  have hv1:(c::xs').drop (0:Int).toNat=c::xs':=rfl;have hvM:=hA.hv;have hMM:=hA.hM;simp only at h
  cases hp:pl c with
  | false=>exact Td.pl_ (S:=[]) hA (Ab9 0) hv1 (by simp) hlf hp
  | true=>
   rw[hp] at h;simp only[Abq,Abh] at h;have hcN:=(hA.hc c (by simp)).2.2
   cases hN:decide (0<c.fN) with
   | true=>
    rw[hN] at h;simp only[Abj] at h;simp only[Abd] at hN
    by_cases hbig:c.fN≤(c::xs').length
    ·have hnd:=Kj (S:=[]) (sh:=NH) hA (Ab9 0) hv1 (by simp) hlf rfl hp (by simpa using hN) hbig;refine hnd.bad ?_
     cases hks:IX (c::xs').length (decide (c.fKind=6)) none c.fN.toNat xs' with
     | none=>
      obtain⟨n',hn'⟩:∃n',c.fN.toNat=n'+1:=⟨c.fN.toNat-1,by omega⟩
      rw[hn'] at hks;exact SU hA (c::xs').length n' ⟨decide (c.fKind=6),c.fN,decide (c.fKind=6),[],false⟩ [] (0+1) _ none xs' (by simp) hks rfl (by simp only;omega) (by omega) rfl (λ_=>rfl) rfl (by omega) (by simp) hlf
     | some q=>rw[hks] at h;cases h
    ·refine⟨J3 0 NH c,.inl (Fin.step ?_)⟩;rw[show R3 F (c::xs') (([]:List AH),0,NH)=_ from round (S:=[]) hA (Ab9 0) hv1 (by simp) hlf];have hbig':decide (((c::xs').length:Int)<c.fN)=true:=by simpa using hbig
     simp only[RT,hp,hbig',hN,Abq,Abh,Abj,decide_true]
   | false=>rw[hN] at h;cases h
theorem Y1 (hA:TX F M v):(∃f ys,Ix v=some (f,ys)∧Jw F v=some ((f.flat.length:Int),f.sh 0 NH,true))∨(Ix v=none∧∃sh',Jw F v=some (0,sh',false)):=by
 cases h:Ix v with
 | some q=>
  obtain⟨f,ys⟩:=q;obtain⟨h1,h2,h3⟩:=Iw _ _ _ _ _ _ _ h;exact .inl ⟨f,ys,rfl,R2 hA (Tw h) h2 h1⟩
 | none=>
  refine .inr ⟨rfl,?_⟩;obtain⟨o,ho,_⟩:=Oe hA;obtain⟨sh',hb | hb⟩:=UW hA h
  ·have e:=hb.eq ho;subst e;exact⟨sh',by unfold Jw;rw[AU ho];rfl⟩
  ·have e:=hb.eq ho;subst e;exact⟨sh',by unfold Jw;rw[AU ho];rfl⟩
end
theorem JV {x:Int}(h : -9223372036854775808≤x)(h':x≤9223372036854775807):IntKind.wrap .i64 x=x:=by
 simp only[IntKind.wrap,IntKind.bits,IntKind.signed];simp;omega
def Fo.dep:Fo→Nat
 | .nil=>0
 | .cell _ _ r=>max 1 r.dep
 | .node _ _ kids r=>max (kids.dep+1) r.dep
theorem Hx (k:Option Ae)(s:AT):(MK k s).fDepth=s.fDepth∧(MK k s).fOutside=s.fOutside∧(MK k s).fLong=(s.fLong||(B8 k).any λc=>decide (200<(c.fStr.length:Int))):=by
 cases k with
 | none=>simp[MK,B8]
 | some x=>simp[MK,shk,B8]
theorem Ls:∀(f:Fo) (d:Nat) (s:AT),(d:Int)≤s.fDepth→(f.sh d s).fDepth=max s.fDepth ((d:Int)+f.dep)
 | .nil,d,s,h=>by simp only[Fo.sh,Fo.dep];omega
 | .cell k c r,d,s,h=>by
  have hk:=(Hx k s).1;have e:(J3 d (MK k s) c).fDepth=max s.fDepth ((d:Int)+1):=by rw[J3,hk]
  rw[Fo.sh,Ls r d _ (by rw[e];omega),e,Fo.dep];omega
 | .node k c kids r,d,s,h=>by
  have hk:=(Hx k s).1;have e:(J3 d (MK k s) c).fDepth=max s.fDepth ((d:Int)+1):=by rw[J3,hk]
  have e2:=Ls kids (d+1) (J3 d (MK k s) c) (by rw[e];omega);rw[e] at e2;rw[Fo.sh,Ls r d _ (by rw[e2];omega),e2,Fo.dep];omega
def Co (c:Ab):Bool:=decide (c.fKind=3)&&!(decide ((-1000000000000)≤c.fInt)&&decide (c.fInt≤1000000000000))
def Il (c:Ab):Bool:=decide (200<(c.fStr.length:Int))
theorem Ol (k:Option Ae):(B8 k).any Co=false:=by cases k<;>simp[B8,Co]
theorem PB:∀(f:Fo) (d:Nat) (s:AT),(f.sh d s).fOutside=(s.fOutside||f.flat.any Co)
 | .nil,d,s=>by simp[Fo.sh,Fo.flat]
 | .cell k c r,d,s=>by
  rw[Fo.sh,PB r,J3,(Hx k s).2.1];simp only[Fo.flat,List.any_append,List.any_cons,Ol,Abt,Bool.or_assoc];rfl
 | .node k c kids r,d,s=>by
  rw[Fo.sh,PB r,PB kids,J3,(Hx k s).2.1];simp only[Fo.flat,List.any_append,List.any_cons,Ol,Abt,Bool.or_assoc];rfl
theorem Nm:∀(f:Fo) (d:Nat) (s:AT),(f.sh d s).fLong=(s.fLong||f.flat.any Il)
 | .nil,d,s=>by simp[Fo.sh,Fo.flat]
 | .cell k c r,d,s=>by
  rw[Fo.sh,Nm r,J3,(Hx k s).2.2];simp only[Fo.flat,List.any_append,List.any_cons,Bool.or_assoc];rfl
 | .node k c kids r,d,s=>by
  rw[Fo.sh,Nm r,Nm kids,J3,(Hx k s).2.2];simp only[Fo.flat,List.any_append,List.any_cons,Bool.or_assoc];rfl
def Vz (c:Ab):Int:=
 bif decide (c.fKind=1) then 4 else bif decide (c.fKind=2) then 5-c.fInt else bif decide (c.fKind=3) then((Lib.itoa c.fInt).length:Int) else
 bif decide (c.fKind=4) then Ml c.fStr else 2
def PX:Option Ae→Int
 | none=>0
 | some s=>Ml s+1
def Fo.byt:Fo→Int
 | .nil=>0
 | .cell k c r=>PX k+Vz c+r.byt
 | .node k c kids r=>PX k+(c.fN+1)+kids.byt+r.byt
theorem L5 (s:Ae):2≤Ml s:=by unfold Ml;omega
theorem Ny (k:Option Ae):0≤PX k:=by
 cases k with
 | none=>exact Ab9 0
 | some s=>have:=L5 s;simp only[PX];omega
theorem TB {c:Ab}(hp:pl c=true):0≤Vz c:=by
 unfold Vz
 cases h1:decide (c.fKind=1) with
 | true=>simp
 | false=>
  cases h2:decide (c.fKind=2) with
  | true=>
   simp[pl,h1,h2] at hp;simp only[Abh,Abj];omega
  | false=>
   cases h3:decide (c.fKind=3) with
   | true=>simp
   | false=>
    cases h4:decide (c.fKind=4) with
    | true=>have:=L5 c.fStr;simp only[Abh,Abj];omega
    | false=>simp
theorem Yk {c:Ab}(hp:pl c=true):0≤c.fN:=by
 simp only[pl,← Bool.decide_or] at hp
 cases h1:decide (c.fKind=1)<;>cases h2:decide (c.fKind=2)<;>cases h3:decide (c.fKind=3)<;>cases h4:decide (c.fKind=4)<;>cases h5:decide (c.fKind=5)<;>cases h6:decide (c.fKind=6)<;>simp[h1,h2,h3,h4,h5,h6] at hp<;>omega
theorem Ji {c:Ab}(hp:pl c=true)(hn:0<c.fN):(c.fKind=5∨c.fKind=6)∧c.fInt=0∧c.fStr=[]:=by
 cases h1:decide (c.fKind=1)<;>cases h2:decide (c.fKind=2)<;>cases h3:decide (c.fKind=3)<;>cases h4:decide (c.fKind=4)<;>cases h5:decide (c.fKind=5)<;>cases h6:decide (c.fKind=6)<;>simp[pl,h1,h2,h3,h4,h5,h6] at hp<;>(simp only[Abd,Abc] at *;first | omega | exact⟨by omega,hp.1,hp.2.1⟩)
theorem VM {c:Ab}(hp:pl c=true)(hn:decide (0<c.fN)=false):Zx c=Vz c:=by
 have hN:=Yk hp;have h0:c.fN=0:=by simp only[Abc] at hn;omega
 unfold Zx Vz;rw[h0]
 cases h1:decide (c.fKind=1) with
 | true=>rfl
 | false=>
  cases h2:decide (c.fKind=2) with
  | true=>
   simp[pl,h1,h2] at hp;simp only[Abh,Abj];exact JV (by omega) (by omega)
  | false=>rfl
theorem VL {c:Ab}(hp:pl c=true)(hn:0<c.fN)(hm:c.fN≤9223372036854775000):Zx c=c.fN+1:=by
 obtain⟨hk,_,_⟩:=Ji hp hn;unfold Zx;rw[Abi (by omega),Abi (by omega),Abi (by omega),Abi (by omega)];simp only[Abh];rw[JV (x:=c.fN-1) (by omega) (by omega),JV (by omega) (by omega)];omega
theorem Ip:∀{f:Fo} {m:Bool} {l:Option Ae},f.wf m l=true→0≤f.byt
 | .nil,_,_,_=>Ab9 0
 | .cell k c r,m,l,h=>by
  simp only[Fo.wf,Abk] at h;have h1:=Ip h.2;have h2:=TB h.1.1.2;have h3:=Ny k;simp only[Fo.byt];omega
 | .node k c kids r,m,l,h=>by
  simp only[Fo.wf,Abk,Abd] at h;have h1:=Ip h.2;have h2:=Ip h.1.2;have h3:=Ny k;simp only[Fo.byt];omega
theorem OY (k:Option Ae)(s:AT)(h0:0≤s.fBytes)(h:s.fBytes+PX k≤9223372036854775807):(MK k s).fBytes=s.fBytes+PX k:=by
 cases k with
 | none=>simp[MK,PX]
 | some x=>
  have:=L5 x;simp only[PX] at h;simp only[MK,shk,PX];exact JV (by omega) (by omega)
theorem Lt:∀(f:Fo) (m:Bool) (l:Option Ae) (d:Nat) (s:AT),f.wf m l=true→0≤s.fBytes→s.fBytes+f.byt≤9223372036854775000→(f.sh d s).fBytes=s.fBytes+f.byt
 | .nil,_,_,d,s,_,_,_=>by simp[Fo.sh,Fo.byt]
 | .cell k c r,m,l,d,s,hw,h0,h=>by
  simp only[Fo.wf,Abk,Abz] at hw;obtain⟨⟨⟨w1,w2⟩,w3⟩,w4⟩:=hw;have h1:=Ip w4;have h2:=TB w2;have h3:=Ny k;simp only[Fo.byt] at h;have e1:=OY k s h0 (by omega);have e:(J3 d (MK k s) c).fBytes=s.fBytes+PX k+Vz c:=by
   rw[J3,e1,VM w2 w3];exact JV (by omega) (by omega)
  rw[Fo.sh,Lt r _ _ d _ w4 (by rw[e];omega) (by rw[e];omega),e,Fo.byt];omega
 | .node k c kids r,m,l,d,s,hw,h0,h=>by
  simp only[Fo.wf,Abk,Abd] at hw;obtain⟨⟨⟨⟨⟨w1,w2⟩,w3⟩,w5⟩,w6⟩,w4⟩:=hw;have h1:=Ip w4;have h2:=Ip w6;have h3:=Ny k;simp only[Fo.byt] at h;have e1:=OY k s h0 (by omega);have e:(J3 d (MK k s) c).fBytes=s.fBytes+PX k+(c.fN+1):=by
   rw[J3,e1,VL w2 w3 (by omega)];exact JV (by omega) (by omega)
  have e2:=Lt kids _ _ (d+1) (J3 d (MK k s) c) w6 (by rw[e];omega) (by rw[e];omega);rw[Fo.sh,Lt r _ _ d _ w4 (by rw[e2,e];omega) (by rw[e2,e];omega),e2,e,Fo.byt];omega
def Gx (s:Ae):Ae:=s.flatMap λc=>bif (decide (c=34)||decide (c=92)) then[92,c] else[c]
def G0 (s:Ae):Ae:=34::(Gx s++[34])
theorem LT:∀s:Ae,(Gx s).length=s.length+s.count 34+s.count 92
 | []=>rfl
 | c::s=>by
  have ih:=LT s;unfold Gx at ih ⊢;rw[List.flatMap_cons,Abl,ih]
  by_cases h1:c=34
  ·subst h1;simp;omega
  ·by_cases h2:c=92
   ·subst h2;simp;omega
   ·simp[h1,h2,List.count_cons];omega
theorem Re (s:Ae):((G0 s).length:Int)=Ml s:=by
 simp only[G0,Abf,Abl,LT,AbP,Ml];omega
def EI (c:Ab):Ae:=
 bif decide (c.fKind=1) then[110,117,108,108] else
 bif decide (c.fKind=2) then(bif decide (c.fInt=1) then[116,114,117,101] else[102,97,108,115,101]) else
 bif decide (c.fKind=3) then Lib.itoa c.fInt else
 bif decide (c.fKind=4) then G0 c.fStr else
 bif decide (c.fKind=6) then[123,125] else[91,93]
def Ia:Option Ae→Ae
 | none=>[]
 | some s=>G0 s++[58]
def Ox (c:Ab)(s:Ae):Ae:=bif decide (c.fKind=6) then 123::(s++[125]) else 91::(s++[93])
def Dv (first:Bool):Ae:=bif first then[] else[44]
def Fo.txt:Bool→Fo→Ae
 | _,.nil=>[]
 | b,.cell k c r=>Dv b++Ia k++EI c++r.txt false
 | b,.node k c kids r=>Dv b++Ia k++Ox c (kids.txt true)++r.txt false
theorem TE (k:Option Ae):((Ia k).length:Int)=PX k:=by
 cases k with
 | none=>rfl
 | some s=>simp only[Ia,Abl,PX,Ab8];have:=Re s;omega
theorem Pm {c:Ab}(hp:pl c=true):((EI c).length:Int)=Vz c:=by
  unfold EI Vz
  cases h1:decide (c.fKind=1) with
  | true=>rfl
  | false=>
    cases h2:decide (c.fKind=2) with
    | true=>
      simp[pl,h1,h2] at hp;simp only[Abh,Abj]
      cases h7:decide (c.fInt=1) with
      | true=>simp only[Abd] at h7;simp[h7]
      | false=>
                 simp only[Abc] at h7;have:c.fInt=0:=by omega
                 simp[this]
    | false=>
      cases h3:decide (c.fKind=3) with
      | true=>rfl
      | false=>
        cases h4:decide (c.fKind=4) with
        | true=>simpa using Re c.fStr
        | false=>cases h6:decide (c.fKind=6)<;>rfl
theorem Jp (c:Ab)(s:Ae):(Ox c s).length=s.length+2:=by
 unfold Ox
 cases decide (c.fKind=6)<;>simp
theorem Ib:∀(f:Fo) (m:Bool) (l:Option Ae) (b:Bool),f.wf m l=true→((f.txt b).length:Int)=f.byt+(bif b then((f.cnt-1:Nat):Int) else(f.cnt:Int))
 | .nil,m,l,b,_=>by cases b<;>rfl
 | .cell k c r,m,l,b,hw=>by
  simp only[Fo.wf,Abk,Abz] at hw;obtain⟨⟨⟨w1,w2⟩,w3⟩,w4⟩:=hw;have ih:=Ib r _ _ false w4;have a:=TE k;have d:=Pm w2;simp only[Abh] at ih
  cases b<;>simp only[Fo.txt,Fo.byt,Fo.cnt,Dv,Abj,Abh,Abl,AbP,Ab8]<;>omega
 | .node k c kids r,m,l,b,hw=>by
  simp only[Fo.wf,Abk,Abd] at hw;obtain⟨⟨⟨⟨⟨w1,w2⟩,w3⟩,w5⟩,w6⟩,w4⟩:=hw;have ih:=Ib r _ _ false w4;have ih2:=Ib kids _ _ true w6;have a:=TE k;have d:=Jp c (kids.txt true);simp only[Abh,Abj] at ih ih2
  cases b<;>simp only[Fo.txt,Fo.byt,Fo.cnt,Dv,Abj,Abh,Abl,AbP,Ab8]<;>omega
def Fo.put (k:Option Ae):Fo→Fo→Fo
 | .cell _ c _,r=>.cell k c r
 | .node _ c kids _,r=>.node k c kids r
 | .nil,_=>.nil
theorem Wj (P:Nat)(m:Bool)(last:Option Ae)(k:Nat)(xs:List Ab):IX (P+2) m last (k+1) xs =
  match IN m last xs with
  | none=>none
  | some (key,ys)=>match IX (P+2) false none 1 ys with
   | none=>none
   | some (f,zs)=>match IX (P+1) m key k zs with
    | none=>none
    | some (r,us)=>some (f.put key r,us):=by
 rw[IX]
 cases hk:IN m last xs with
 | none=>rfl
 | some p=>
  obtain⟨key,ys⟩:=p;simp only;rw[IX];simp only[IN,Abh]
  cases ys with
  | nil=>rfl
  | cons c ys=>
   simp only
   cases hp:pl c with
   | false=>rfl
   | true=>
    simp only[Abq,Abh]
    cases hn:decide (0<c.fN) with
    | true=>
     simp only[Abj]
     cases hq:IX (P+1) (decide (c.fKind=6)) none c.fN.toNat ys with
     | none=>rfl
     | some q=>
      obtain⟨kids,zs⟩:=q;simp only[IX]
      cases hr:IX (P+1) m key k zs with
      | none=>rfl
      | some q=>obtain⟨a,b⟩:=q;rfl
    | false=>
     simp only[Abh,IX]
     cases hr:IX (P+1) m key k ys with
     | none=>rfl
     | some q=>obtain⟨a,b⟩:=q;rfl
def Nc (m:Bool)(last:Option Ae)(k:Nat)(xs:List Ab):Option (Fo×List Ab):=IX (xs.length+1) m last k xs
theorem Mm (m:Bool)(last:Option Ae)(xs:List Ab):Nc m last 0 xs=some (.nil,xs):=rfl
theorem Gl (m:Bool)(last:Option Ae)(k:Nat)(xs:List Ab):Nc m last (k+1) xs =
  match IN m last xs with
  | none=>none
  | some (key,ys)=>match Ix ys with
   | none=>none
   | some (f,zs)=>match Nc m key k zs with
    | none=>none
    | some (r,us)=>some (f.put key r,us):=by
 unfold Nc Ix;rw[IM (xs.length+1) (xs.length+2) m last (k+1) xs (by omega) (by omega),Wj]
 cases hk:IN m last xs with
 | none=>rfl
 | some p=>
  obtain⟨key,ys⟩:=p;have h1:=(Nq hk).1;have hy:ys.length≤xs.length:=by rw[h1];simp
  simp only;rw[IM (xs.length+2) (ys.length+1) false none 1 ys (by omega) (by omega)]
  cases hf:IX (ys.length+1) false none 1 ys with
  | none=>rfl
  | some q=>
   obtain⟨f,zs⟩:=q;have h2:=(Iw _ _ _ _ _ _ _ hf).1;have hz:zs.length≤ys.length:=by rw[h2];simp
   simp only;rw[IM (xs.length+1) (zs.length+1) m key k zs (by omega) (by omega)]
   all_goals (cases IX (zs.length+1) m key k zs<;>rfl)
theorem G7 {S O:Type}{body:S→Option (Stp S O)}{n:Nat}{s s':S}{o:O}(h:body s=some (.next s'))(h':Ca body n s'=some o):Ca body (n+1) s=some o:=by rw[Ca,h];exact h'
theorem De {S O:Type}{body:S→Option (Stp S O)}{n:Nat}{s:S}{o:O}(h:body s=some (.out o)):Ca body (n+1) s=some o:=by rw[Ca,h]
theorem Rf:Ix []=none:=rfl
theorem GD (c:Ab)(r:List Ab):Ix (c::r)=bif !pl c then none else bif decide (0<c.fN) then(match Nc (decide (c.fKind=6)) none c.fN.toNat r with
  | none=>none
  | some (kids,zs)=>some (.node none c kids .nil,zs)) else some (.cell none c .nil,r):=by
 unfold Ix;rw[IX];simp only[IN,Abh]
 cases hp:pl c with
 | false=>rfl
 | true=>
  simp only[Abq,Abh]
  cases hn:decide (0<c.fN) with
  | true=>
   simp only[Abj];unfold Nc;rw[Abf]
   cases hq:IX (r.length+1) (decide (c.fKind=6)) none c.fN.toNat r with
   | none=>rfl
   | some q=>obtain⟨kids,zs⟩:=q;rfl
  | false=>rfl
theorem EO {f:Fo}(h:f.one=true)(key:Option Ae)(r:Fo):(f.put key r).flat=B8 key++(f.flat++r.flat):=by
 cases f with
 | nil=>cases h
 | cell k c r'=>
  cases k with
  | some s=>cases h
  | none=>cases r' with
   | nil=>simp[Fo.put,Fo.flat,B8]
   | cell _ _ _=>cases h
   | node _ _ _ _=>cases h
 | node k c kids r'=>
  cases k with
  | some s=>cases h
  | none=>cases r' with
   | nil=>simp[Fo.put,Fo.flat,B8]
   | cell _ _ _=>cases h
   | node _ _ _ _=>cases h
theorem Rk {f:Fo}(h:f.one=true):1≤f.flat.length:=by
 cases f with
 | nil=>cases h
 | cell k c r'=>simp[Fo.flat];omega
 | node k c kids r'=>simp[Fo.flat];omega
theorem Kf {xs ys:List Ab}{f:Fo}(h:Ix xs=some (f,ys)):xs=f.flat++ys∧f.wf false none=true∧f.one=true:=
 ⟨(Iw _ _ _ _ _ _ _ h).1,(Iw _ _ _ _ _ _ _ h).2.1,Tw h⟩
def Jz (v:List Ab)(i:Int):Int:=match Ix (v.drop i.toNat) with
 | none=>-1
 | some (f,_)=>i+f.flat.length
def LA (m:Bool)(last:Option Ae)(v:List Ab)(i:Int)(k:Nat):Int:=match Nc m last k (v.drop i.toNat) with
 | none=>-1
 | some (f,_)=>i+f.flat.length
theorem Pe {v:List Ab}{i:Int}(h0:0≤i)(h1:i≤v.length):Jz v i = -1∨(i<Jz v i∧Jz v i≤v.length):=by
 unfold Jz
 cases h:Ix (v.drop i.toNat) with
 | none=>exact .inl rfl
 | some q=>
  obtain⟨f,ys⟩:=q;obtain⟨h2,_,h3⟩:=Kf h;have:=Rk h3;have hl:(v.drop i.toNat).length=f.flat.length+ys.length:=by rw[h2];simp
  rw[AbK] at hl
  right;simp only;omega
structure RfA (F M:Nat) (v:List Ab):Prop where
 hM:M≤1152921504606846976
 hv:v.length≤M
 hF:M<F
 hc:∀c∈v,c.fStr.length≤M
theorem UB (ok:Bool){i:Int}(h0:0≤i)(h1:i≤1152921504606846976):BV ok i=some (bif ok then i+1 else -1):=by
 unfold BV
 cases ok
 ·rfl
 ·rw[AK rfl,AI (by omega) (by omega)];rfl
theorem Tq {F:Nat}{c:Ab}(hF:c.fStr.length<F)(hs:c.fStr.length≤1152921504606846976):OI F c=some (decide (c.fKind=4)&&pl c):=by
 unfold OI;rw[Uz hF (by omega)];simp only[Option.isSome_some,ov,AbI,imp,Ab4,AY,Abj]
 cases h4:decide (c.fKind=4) with
 | false=>rfl
 | true=>
  simp only[Abd] at h4;simp[pl,h4]
theorem D7 {v:List Ab}{i:Int}{c:Ab}{r:List Ab}(h0:0≤i)(h:v.drop i.toNat=c::r):Am v i=c:=by
 have:=(C3 h0 h).1;simp[Am,this]
section
variable {M : Nat} {v : List Ab}
theorem KC {F:Nat}(hA:RfA F M v){g:List Ab→Int→Option Int}{n:Int}(hn:n≤9223372036854775807):∀(L:Nat) (i x:Int),0≤i→i≤v.length→0≤x→x≤n→(∀j,i≤j→j≤v.length→g v j=some (Jz v j))→v.length-i.toNat<L→
  ∃o,Ca (λσ=>Dg v n g σ.1 σ.2) L (i,x)=some o∧BT (λν=>ED ν) o=some (LA false none v i (n-x).toNat)
 | 0,i,x,_,_,_,_,_,h=>by omega
 | L+1,i,x,h0,h1,hx,hxn,hg,hL=>by
  cases hxl:decide (x<n) with
  | false=>
   refine⟨.go i,De (by show Dg v n g i x=_;unfold Dg;rw[A8 hxl]),?_⟩;simp only[Abc] at hxl;rw[show(n-x).toNat=0 from by omega];simp[BT,ED,LA,Mm,Fo.flat]
  | true=>
   have hb:Dg v n g i x=Bl (decide (Jz v i<0)) (some (.out (.ret (-1)))) (AY (B2 .i64 (x+1))<|some (.next (Jz v i,x+1))):=by unfold Dg;rw[AK hxl,hg i (Ab9 i) h1,AU rfl]
   simp only[Abd] at hxl;obtain⟨k,hk⟩:∃k,(n-x).toNat=k+1:=⟨(n-x).toNat-1,by omega⟩
   rw[hk];have e:LA false none v i (k+1)=bif decide (Jz v i<0) then -1 else LA false none v (Jz v i) k:=by
    unfold LA;rw[Gl];simp only[IN,Abh]
    cases hp:Ix (v.drop i.toNat) with
    | none=>simp[Jz,hp]
    | some q=>
     obtain⟨f,ys⟩:=q;obtain⟨q1,q2,q3⟩:=Kf hp;have hi:Jz v i=i+f.flat.length:=by simp[Jz,hp]
     have hd:v.drop (Jz v i).toNat=ys:=by rw[hi];exact CN h0 q1
     rw[hd,Abi (by omega)];simp only[Abh]
     cases hr:Nc false none k ys with
     | none=>rfl
     | some q=>
      obtain⟨r,zs⟩:=q;simp only[EO q3,B8,AbU,Abl,hi];omega
   rw[e];rcases Pe (v:=v) h0 h1 with hneg | ⟨hlt,hle⟩
   ·exact⟨.ret (-1),De (hb.trans (by rw[hneg,AK (by decide)])),by rw[hneg];rfl⟩
   ·have hM:=hA.hM;have hvM:=hA.hv;obtain⟨o,ho1,ho2⟩:=KC hA hn L (Jz v i) (x+1) (by omega) hle (by omega) (by omega) (λj hj=>hg j (by omega)) (by omega);exact⟨o,G7 (hb.trans (by rw[A8 (Abi (by omega)),AI (by omega) (by omega)])) ho1,by rw[ho2,show(n-(x+1)).toNat=k from by omega,Abi (by omega)];rfl⟩
theorem NK {F:Nat}(hA:RfA F M v){g:List Ab→Int→Option Int}{n:Int}(hn:n≤9223372036854775807):∀(L:Nat) (i x:Int) (last:Ae),0≤i→i≤v.length→0≤x→x≤n→(∀j,i≤j→j≤v.length→g v j=some (Jz v j))→v.length-i.toNat<L→
  ∃o,Ca (λσ=>DG F v n g σ.1 σ.2.1 σ.2.2) L (i,last,x)=some o∧BT (λν=>Hz ν) o=some (LA true (bif decide (0<x) then some last else none) v i (n-x).toNat)
 | 0,i,x,_,_,_,_,_,_,h=>by omega
 | L+1,i,x,last,h0,h1,hx,hxn,hg,hL=>by
  have hM:=hA.hM;have hvM:=hA.hv;have hMF:=hA.hF
  cases hxl:decide (x<n) with
  | false=>
   refine⟨.go i,De (by show DG F v n g i last x=_;unfold DG;rw[A8 hxl]),?_⟩;simp only[Abc] at hxl;rw[show(n-x).toNat=0 from by omega];simp[BT,Hz,LA,Mm,Fo.flat]
  | true=>
   have hxl':=hxl;simp only[Abd] at hxl;obtain⟨k,hk⟩:∃k,(n-x).toNat=k+1:=⟨(n-x).toNat-1,by omega⟩
   rw[hk]
   cases hd:v.drop i.toNat with
   | nil=>
    have hl:v.length≤i.toNat:=by simpa using hd
    refine⟨.ret (-1),De (by
     show DG F v n g i last x=_;unfold DG;rw[AK hxl',BS (by simp[imp,show(v.length:Int)≤i from by omega]),BS (by simp[imp,show(v.length:Int)≤i from by omega]),AK (by simp[show(v.length:Int)≤i from by omega])]),?_⟩
    simp[BT,LA,hd,Gl,IN]
   | cons c r=>
    obtain⟨g1,g2,g3⟩:=C3 h0 hd;have hcM:=hA.hc c (Abs g1);have hat:=D7 h0 hd;have hnl:decide ((v.length:Int)≤i)=false:=by simp;omega
    have hb:DG F v n g i last x=Bl (!(decide (c.fKind=4)&&pl c)||decide (0<x)&&(CW c.fStr last||decide (c.fStr=last))) (some (.out (.ret (-1)))) (B0 (g v (i+1)) λha=>Bl (decide (ha<0)) (some (.out (.ret (-1)))) (AY (B2 .i64 (x+1))<|some (.next (ha,c.fStr,x+1)))):=by
     unfold DG;rw[AK hxl',BS (by simp only[imp];rw[LO h0 g3];simp),hat,Tq (by omega) (by omega),BS (by simp[imp])];simp only[hnl,ov,AbI,Abt];rw[Br h0 g3,AI (by omega) (by omega)]
    have hpk:IN true (bif decide (0<x) then some last else none) (c::r)=bif (!(decide (c.fKind=4)&&pl c)||decide (0<x)&&(CW c.fStr last||decide (c.fStr=last))) then none else some (some c.fStr,r):=by
     simp only[IN,Abj]
     cases h4:decide (c.fKind=4) with
     | false=>simp
     | true=>
      cases hp:pl c with
      | false=>simp
      | true=>
       have hok:=(PO hp (by simpa using h4)).2
       cases h0x:decide (0<x) with
       | false=>simp[BH,hok]
       | true=>cases hs:(CW c.fStr last||decide (c.fStr=last))<;>simp[BH,hok,hs]
    cases ht:(!(decide (c.fKind=4)&&pl c)||decide (0<x)&&(CW c.fStr last||decide (c.fStr=last))) with
    | true=>
     rw[ht] at hpk;refine⟨.ret (-1),De (hb.trans (AK ht)),?_⟩;simp only[LA,hd,Gl,hpk,Abj];rfl
    | false=>
     rw[ht] at hpk;rw[A8 ht,hg (i+1) (by omega) (by omega),AU rfl] at hb;have e:LA true (bif decide (0<x) then some last else none) v i (k+1)=bif decide (Jz v (i+1)<0) then -1 else LA true (some c.fStr) v (Jz v (i+1)) k:=by
      unfold LA;rw[hd,Gl,hpk];simp only[Abh];have hx:Jz v (i+1)=match Ix r with | none=>-1 | some (f,_)=>i+1+f.flat.length:=by unfold Jz;rw[g2]
      cases hp:Ix r with
      | none=>rw[hp] at hx;simp[hx]
      | some q=>
       obtain⟨f,ys⟩:=q;obtain⟨q1,q2,q3⟩:=Kf hp;rw[hp] at hx;simp only at hx;have hd2:v.drop (Jz v (i+1)).toNat=ys:=by rw[hx];exact CN (by omega) (g2.trans q1)
       rw[hd2,Abi (by omega)];simp only[Abh]
       cases hr:Nc true (some c.fStr) k ys with
       | none=>rfl
       | some q=>
        obtain⟨r',zs⟩:=q;simp only[EO q3,B8,Abl,Abf,AbP,hx];omega
     rw[e];rcases Pe (v:=v) (i:=i+1) (by omega) (by omega) with hneg | ⟨hlt,hle⟩
     ·exact⟨.ret (-1),De (hb.trans (by rw[hneg,AK (by decide)])),by rw[hneg];rfl⟩
     ·obtain⟨o,ho1,ho2⟩:=NK hA hn L (Jz v (i+1)) (x+1) c.fStr (by omega) hle (by omega) (by omega) (λj hj=>hg j (by omega)) (by omega);exact⟨o,G7 (hb.trans (by rw[A8 (Abi (by omega)),AI (by omega) (by omega)])) ho1,by rw[ho2,show(n-(x+1)).toNat=k from by omega,Abm (show(0:Int)<x+1 from by omega),Abi (by omega)];rfl⟩
theorem Rt {i:Int}{c:Ab}{r:List Ab}(h0:0≤i)(hd:v.drop i.toNat=c::r)(hp:pl c=true):Jz v i=LA (decide (c.fKind=6)) none v (i+1) c.fN.toNat:=by
 have g2:=(C3 h0 hd).2.1;have hN:=Yk hp;unfold Jz LA;rw[hd,GD,g2,hp];simp only[Abq,Abh]
 cases hn:decide (0<c.fN) with
 | true=>
  simp only[Abj]
  cases hq:Nc (decide (c.fKind=6)) none c.fN.toNat r with
  | none=>rfl
  | some q=>
   obtain⟨kids,zs⟩:=q;simp only[Fo.flat,B8,AbU,Abf,AbL];omega
 | false=>
  simp only[Abc] at hn;rw[show c.fN.toNat=0 from by omega,Mm];simp[Fo.flat,B8]
theorem QY (hA:RfA (M+1) M v)(hN:∀c∈v,c.fN≤9223372036854775807):∀(d F:Nat) (i:Int),0≤i→i≤v.length→v.length-i.toNat=d→M+2*d+3<F→DM F v i=some (Jz v i):=by
 have hM:=hA.hM;have hvM:=hA.hv;intro d
 induction d using Nat.strongRecOn with
 | ind d ih=>
  intro F i h0 h1 hd hF;obtain⟨F,rfl⟩:∃G,F=G+1:=⟨F-1,by omega⟩
  obtain⟨F,rfl⟩:∃G,F=G+1:=⟨F-1,by omega⟩
  rw[DM];unfold PH
  cases hdr:v.drop i.toNat with
  | nil=>
   have hl:v.length≤i.toNat:=by simpa using hdr
   rw[AK (by simp;omega)];simp[Jz,hdr,Rf]
  | cons c r=>
   obtain⟨g1,g2,g3⟩:=C3 h0 hdr;have hcM:=hA.hc c (Abs g1);have hcN:=hN c (Abs g1);rw[A8 (by simp;omega),Br h0 g3,D7 h0 hdr];simp only[UB _ h0 (show i≤1152921504606846976 by omega),Option.isSome_some,ov,AbI,imp,Ab4,BS (x:=_) (rfl:true=true)];have hg:∀j,i+1≤j→j≤v.length→DM F v j=some (Jz v j):=λj hj hj2=>ih (v.length-j.toNat) (by omega) F j (by omega) hj2 rfl (by omega);have hpl0:pl c=false→Jz v i = -1:=λhp=>by simp[Jz,hdr,GD,hp]
   have hleaf:pl c=true→c.fN=0→Jz v i=i+1:=λhp h0'=>by simp[Jz,hdr,GD,hp,h0',Fo.flat,B8]
   have hscal:∀b:Bool,pl c=b→(b=true→c.fN=0)→Jz v i=bif b then i+1 else -1:=λb hb hz=>by
    cases b
    ·exact hpl0 hb
    ·exact hleaf hb (hz rfl)
   by_cases k1:c.fKind=1
   ·rw[AK (by simp[k1])];have hp:pl c=(decide (c.fInt=0)&&(decide (c.fStr=[])&&decide (c.fN=0))):=by simp[pl,k1]
    rw[hscal _ hp (λh=>by simp at h;exact h.2.2)]
    cases decide (c.fInt=0)<;>cases decide (c.fStr=[])<;>cases decide (c.fN=0)<;>rfl
   rw[A8 (by simp[k1])]
   by_cases k2:c.fKind=2
   ·rw[AK (by simp[k2])];have hp:pl c=((decide (c.fInt=0)||decide (c.fInt=1))&&(decide (c.fStr=[])&&decide (c.fN=0))):=by simp[pl,k2]
    rw[hscal _ hp (λh=>by simp at h;exact h.2.2)]
    cases decide (c.fInt=0)<;>cases decide (c.fInt=1)<;>cases decide (c.fStr=[])<;>cases decide (c.fN=0)<;>rfl
   rw[A8 (by simp[k2])]
   by_cases k3:c.fKind=3
   ·rw[AK (by simp[k3])];have hp:pl c=(decide (c.fStr=[])&&decide (c.fN=0)):=by simp[pl,k3]
    rw[hscal _ hp (λh=>by simp at h;exact h.2)]
    cases decide (c.fStr=[])<;>cases decide (c.fN=0)<;>rfl
   rw[A8 (by simp[k3])]
   by_cases k4:c.fKind=4
   ·rw[AK (by simp[k4]),Tq (by omega) (by omega),AU rfl,AU rfl];rw[Abm k4,Abp,hscal (pl c) rfl (λhp=>by have:=(PO hp k4).1;rw[this])]
   rw[A8 (by simp[k4])]
   by_cases k5:c.fKind=5
   ·have hp:pl c=(decide (c.fInt=0)&&(decide (c.fStr=[])&&decide (0≤c.fN))):=by simp[pl,k5]
    rw[show(decide (c.fKind=5)&&(decide (c.fInt=0)&&(decide (c.fStr=[])&&decide (0≤c.fN))))=pl c from by rw[hp,Abm k5,Abp]];have k5' : ¬ c.fKind=6:=by omega
    cases hb:pl c with
    | false=>rw[A8 rfl,A8 (by simp[k5]),hpl0 hb]
    | true=>
     have hn0:=Yk hb;rw[AK rfl,AI (by omega) (by omega),H0];unfold Jg;obtain⟨o,ho1,ho2⟩:=KC (F:=F) ⟨hM,hvM,by omega,hA.hc⟩ hcN F (i+1) 0 (by omega) (by omega) (Ab9 0) hn0 hg (by omega);rw[AU ho1,ho2,AU rfl,Rt h0 hdr hb,Abi k5',Int.sub_zero]
   rw[A8 (by simp[k5])]
   by_cases k6:c.fKind=6
   ·have hp:pl c=(decide (c.fInt=0)&&(decide (c.fStr=[])&&decide (0≤c.fN))):=by simp[pl,k6]
    rw[show(decide (c.fKind=6)&&(decide (c.fInt=0)&&(decide (c.fStr=[])&&decide (0≤c.fN))))=pl c from by rw[hp,Abm k6,Abp]]
    cases hb:pl c with
    | false=>rw[A8 rfl,hpl0 hb]
    | true=>
     have hn0:=Yk hb;rw[AK rfl,AI (by omega) (by omega),Mj];unfold No;obtain⟨o,ho1,ho2⟩:=NK (F:=F) ⟨hM,hvM,by omega,hA.hc⟩ hcN F (i+1) 0 [] (by omega) (by omega) (Ab9 0) hn0 hg (by omega);rw[AU ho1,ho2,AU rfl,Rt h0 hdr hb,Abm k6,Int.sub_zero];rfl
   ·rw[A8 (by simp[k6]),hpl0 (by simp[pl,k1,k2,k3,k4,k5,k6])]
theorem S3 (hA:RfA (M+1) M v)(hN:∀c∈v,c.fN≤9223372036854775807){F:Nat}(hF:3*M+3<F):Lz F v=some (decide (Jz v 0=v.length)):=by
 have hvM:=hA.hv;unfold Lz;rw[QY hA hN v.length F 0 (Ab9 0) (by omega) (by simp) (by omega)];simp only[imp,Option.isSome_some,Ab4,BS,ov,AbI]
 cases v with
 | nil=>simp[Jz,Rf]
 | cons c r=>
  rw[show decide (0<((c::r).length:Int))=true from by simp,Abp]
  first | done | rfl
end
theorem PM {m:Bool}{last key:Option Ae}{r:List Ab}(h:BH m last key=true):IN m last (B8 key++r)=some (key,r):=by
 cases key with
 | none=>
  have:m=false:=by simpa[BH] using h
  subst this;rfl
 | some s=>
  have h':=h;simp only[BH,Abk] at h;obtain⟨⟨h1,h2⟩,h3⟩:=h;subst h1;have hp:pl ⟨4,0,s,0⟩=true:=by simp[pl,h2]
  show(bif pl ⟨4,0,s,0⟩&&decide ((4:Int)=4)&&BH true last (some s) then _ else _)=_;rw[hp,h'];rfl
theorem Ns:∀(f:Fo) (m:Bool) (last:Option Ae) (ys:List Ab),f.wf m last=true→Nc m last f.cnt (f.flat++ys)=some (f,ys)
 | .nil,_,_,_,_=>rfl
 | .cell k c r,m,last,ys,hw=>by
  simp only[Fo.wf,Abk,Abz] at hw;obtain⟨⟨⟨w1,w2⟩,w3⟩,w4⟩:=hw;simp only[Fo.cnt,Fo.flat,Ab7,AbY];rw[Gl,PM w1];simp only[GD,w2,w3,Abq,Abh,Ns r m k ys w4,Fo.put]
 | .node k c kids r,m,last,ys,hw=>by
  simp only[Fo.wf,Abk,Abd] at hw;obtain⟨⟨⟨⟨⟨w1,w2⟩,w3⟩,w5⟩,w6⟩,w4⟩:=hw;simp only[Fo.cnt,Fo.flat,Ab7,AbY];rw[Gl,PM w1];have e:c.fN.toNat=kids.cnt:=by omega
  simp only[GD,w2,Abm w3,Abq,Abh,Abj,e,Ns kids _ none (r.flat++ys) w6,Ns r m k ys w4,Fo.put]
theorem Ty {f:Fo}{ys:List Ab}(h1:f.one=true)(hw:f.wf false none=true):Ix (f.flat++ys)=some (f,ys):=by
 have:=Ns f false none ys hw;have hc:f.cnt=1:=by
  cases f with
  | nil=>cases h1
  | cell k c r=>cases k with
   | some _=>cases h1
   | none=>cases r with
    | nil=>rfl
    | _=>cases h1
  | node k c kids r=>cases k with
   | some _=>cases h1
   | none=>cases r with
    | nil=>rfl
    | _=>cases h1
 rw[hc] at this;exact this
structure IY (M:Nat) (v:List Ab):Prop where
 hM:M≤1000000000
 hv:v.length≤M
 hc:∀c∈v,c.fStr.length≤M∧B2 .i64 c.fInt=true∧c.fN≤9223372036854775807
theorem IY.lk {M F:Nat}{v:List Ab}(h:IY M v)(hF:M<F):TX F M v:=⟨by have:=h.hM;omega,by have:=h.hM;omega,h.hv,hF,h.hc⟩
theorem IY.rf {M F:Nat}{v:List Ab}(h:IY M v)(hF:M<F):RfA F M v:=⟨by have:=h.hM;omega,h.hv,hF,λc hc=>(h.hc c hc).1⟩
theorem IY.drop {M:Nat}{v:List Ab}(h:IY M v)(k:Nat):IY M (v.drop k):=⟨h.hM,by have:=h.hv;rw[AbK];omega,λc hc=>h.hc c (List.mem_of_mem_drop hc)⟩
theorem IY.take {M:Nat}{v:List Ab}(h:IY M v)(k:Nat):IY M (v.take k):=⟨h.hM,by have:=h.hv;rw[List.length_take];omega,λc hc=>h.hc c (List.mem_of_mem_take hc)⟩
def whole (v:List Ab):Option Fo:=match Ix v with
 | some (f,[])=>some f
 | _=>none
theorem KJ {v:List Ab}{f:Fo}(h:whole v=some f):v=f.flat∧f.wf false none=true∧f.one=true:=by
 unfold whole at h
 cases hp:Ix v with
 | none=>rw[hp] at h;cases h
 | some q=>
  obtain⟨g,ys⟩:=q;rw[hp] at h
  cases ys with
  | cons _ _=>cases h
  | nil=>
   cases h
   obtain⟨h1,h2,h3⟩:=Kf hp;exact⟨by simpa using h1,h2,h3⟩
theorem Li {f:Fo}(h1:f.one=true)(hw:f.wf false none=true):whole f.flat=some f:=by
 have:=Ty (ys:=[]) h1 hw;rw[AbL] at this;simp[whole,this]
def Gq (f:Fo):Int:=
 bif f.flat.any Co then 2 else bif f.flat.any Il||(decide (200<f.flat.length)||(decide (8<f.dep)||decide (4000<(f.txt true).length))) then 3 else 0
def Hv (v:List Ab):Int:=match whole v with
 | none=>1
 | some f=>Gq f
theorem L7 {f:Fo}(h1:f.one=true):f.cnt=1:=by
 cases f with
 | nil=>cases h1
 | cell k c r=>cases k with
  | some _=>cases h1
  | none=>cases r with
   | nil=>rfl
   | _=>cases h1
 | node k c kids r=>cases k with
  | some _=>cases h1
  | none=>cases r with
   | nil=>rfl
   | _=>cases h1
theorem PL (s:Ae):Ml s≤2*s.length+2+s.length:=by
 have h1:s.count 34≤s.length:=List.count_le_length;have h2:s.count 92≤s.length:=List.count_le_length;unfold Ml;omega
theorem Z8 {c:Ab}{M:Nat}(hp:pl c=true)(hs:c.fStr.length≤M)(hi:(Lib.itoa c.fInt).length≤21):Vz c≤3*M+21:=by
 have:=PL c.fStr;unfold Vz
 cases h1:decide (c.fKind=1) with
 | true=>simp only[Abj];omega
 | false=>
  cases h2:decide (c.fKind=2) with
  | true=>
   simp[pl,h1,h2] at hp;simp only[Abh,Abj];omega
  | false=>
   cases h3:decide (c.fKind=3) with
   | true=>simp only[Abh,Abj];omega
   | false=>cases h4:decide (c.fKind=4)<;>simp only[Abh,Abj]<;>omega
theorem Qg {M:Nat}:∀{f:Fo} {m:Bool} {l:Option Ae},f.wf m l=true→(∀c∈f.flat,c.fStr.length≤M∧B2 .i64 c.fInt=true∧c.fN≤9223372036854775807)→f.byt+f.cnt≤(3*M+24)*f.flat.length
 | .nil,_,_,_,_=>by simp[Fo.byt,Fo.flat,Fo.cnt]
 | .cell k c r,m,l,hw,hc=>by
  simp only[Fo.wf,Abk,Abz] at hw;obtain⟨⟨⟨w1,w2⟩,w3⟩,w4⟩:=hw;simp only[Fo.flat] at hc;have ih:=Qg w4 (λx hx=>hc x (by simp[hx]));obtain⟨c1,c2,c3⟩:=hc c (by simp);have i64:=GK c2;have hl:=Z8 w2 c1 (Lib.itoa_length_le c.fInt i64.1 i64.2);have hk:PX k≤(3*M+24)*(B8 k).length:=by
   cases k with
   | none=>simp[PX,B8]
   | some s=>
    have:=(hc ⟨4,0,s,0⟩ (by simp[B8])).1;have h2:=PL s;simp only at this;simp only[PX,B8,Ab8];omega
  simp only[Fo.byt,Fo.flat,Fo.cnt,Abl,Abf];have e:((3*(M:Int)+24)*(((B8 k).length+(r.flat.length+1):Nat):Int))=(3*(M:Int)+24)*(B8 k).length+((3*(M:Int)+24)*r.flat.length+(3*(M:Int)+24)):=by
   push_cast;rw[Int.mul_add,Int.mul_add,Int.mul_one]
  rw[e]
  push_cast at *
  omega
 | .node k c kids r,m,l,hw,hc=>by
  simp only[Fo.wf,Abk,Abd] at hw;obtain⟨⟨⟨⟨⟨w1,w2⟩,w3⟩,w5⟩,w6⟩,w4⟩:=hw;simp only[Fo.flat] at hc;have ih:=Qg w4 (λx hx=>hc x (by simp[hx]));have ih2:=Qg w6 (λx hx=>hc x (by simp[hx]));have hcf:=C0 kids;have hk:PX k≤(3*M+24)*(B8 k).length:=by
   cases k with
   | none=>simp[PX,B8]
   | some s=>
    have:=(hc ⟨4,0,s,0⟩ (by simp[B8])).1;have h2:=PL s;simp only at this;simp only[PX,B8,Ab8];omega
  simp only[Fo.byt,Fo.flat,Fo.cnt,Abl,Abf];have e:((3*(M:Int)+24)*(((B8 k).length+(kids.flat.length+r.flat.length+1):Nat):Int))=(3*(M:Int)+24)*(B8 k).length+((3*(M:Int)+24)*kids.flat.length+(3*(M:Int)+24)*r.flat.length+(3*(M:Int)+24)):=by
   push_cast;rw[Int.mul_add,Int.mul_add,Int.mul_add,Int.mul_one]
  rw[e]
  push_cast at *
  omega
theorem K3 {M:Nat}(hM:M≤1000000){f:Fo}{m:Bool}{l:Option Ae}(hw:f.wf m l=true)(hl:f.flat.length≤M)(hc:∀c∈f.flat,c.fStr.length≤M∧B2 .i64 c.fInt=true∧c.fN≤9223372036854775807):f.byt≤4000000000000:=by
 have:=Qg (M:=M) hw hc;have h2:(3*M+24)*f.flat.length≤(3*1000000+24)*1000000:=Nat.mul_le_mul (by omega) (by omega);have h3:(((3*M+24)*f.flat.length:Nat):Int)=(3*(M:Int)+24)*f.flat.length:=by push_cast;rfl
 omega
theorem Mc {M F:Nat}{v:List Ab}(hA:IY M v)(hM:M≤1000000)(hF:M<F):JA F v=some (Hv v):=by
 unfold JA Hv whole;have hvM:=hA.hv;rcases Y1 (hA.lk hF) with⟨f,ys,hp,hl⟩ | ⟨hp,sh',hl⟩
 ·rw[hl,AU rfl,hp];obtain⟨h1,h2,h3⟩:=Kf hp;have hlen:v.length=f.flat.length+ys.length:=by rw[h1];simp
  cases ys with
  | cons c r=>
   rw[AK];simp only[Abf] at hlen;simp;omega
  | nil=>
   simp only[AbP,Nat.add_zero] at hlen;rw[A8 (by simp[hlen])];have hc:∀c∈f.flat,c.fStr.length≤M∧B2 .i64 c.fInt=true∧c.fN≤9223372036854775807:=λc hc=>hA.hc c (by rw[h1];simp[hc]);have hb:=K3 hM h2 (by omega) hc;have hb0:=Ip h2;have e1:(f.sh 0 NH).fOutside=f.flat.any Co:=by rw[PB];rfl
   have e2:(f.sh 0 NH).fLong=f.flat.any Il:=by rw[Nm];rfl
   have e3:(f.sh 0 NH).fDepth=f.dep:=by rw[Ls f 0 NH (by simp[NH])];simp[NH]
   have e4:(f.sh 0 NH).fBytes=(f.txt true).length:=by
    rw[Lt f false none 0 NH h2 (by simp[NH]) (by simp[NH];omega),Ib f false none true h2,L7 h3];simp[NH]
   simp only;rw[e1,e2,e3,e4,hlen];unfold Gq
   cases f.flat.any Co with
   | true=>rw[AK rfl];rfl
   | false=>
    rw[A8 rfl];have a1:decide ((200:Int)<(f.flat.length:Int))=decide (200<f.flat.length):=by rw[Abu];simp;omega
    have a2:decide ((8:Int)<(f.dep:Int))=decide (8<f.dep):=by rw[Abu];simp;omega
    have a3:decide ((4000:Int)<((f.txt true).length:Int))=decide (4000<(f.txt true).length):=by rw[Abu];simp;omega
    rw[a1,a2,a3]
    cases(f.flat.any Il||(decide (200<f.flat.length)||(decide (8<f.dep)||decide (4000<(f.txt true).length))))<;>rfl
 ·rw[hl,AU rfl,hp];rfl
theorem PS {v:List Ab}{p:Int}{f:Fo}{ys:List Ab}(h1:f.one=true)(hw:f.wf false none=true)(hd:v.drop p.toNat=f.flat++ys):Jz v p=p+f.flat.length:=by
 unfold Jz;rw[hd,Ty h1 hw]
theorem P5 {c:Ab}(hp:pl c=true)(hn:decide (0<c.fN)=false):(Fo.cell none c .nil).wf false none=true:=by simp[Fo.wf,BH,hp,hn]
theorem P4 {c:Ab}{kids:Fo}(hp:pl c=true)(hn:0<c.fN)(hk:c.fN=kids.cnt)(hw:kids.wf (decide (c.fKind=6)) none=true):(Fo.node none c kids .nil).wf false none=true:=by simp[Fo.wf,BH,hp,hn,hk,hw];omega
section
variable {M : Nat} {v : List Ab}
theorem IY.next (hA:IY M v){F:Nat}(hF:3*M+3<F){p:Int}(h0:0≤p)(h1:p≤v.length):DM F v p=some (Jz v p):=by
 have hM:=hA.hM;have hvM:=hA.hv;exact QY (hA.rf (Abo M)) (λc hc=>(hA.hc c hc).2.2) (v.length-p.toNat) F p h0 h1 rfl (by omega)
theorem Ly {F:Nat}{p:Int}{c:Ab}{r:List Ab}(h0:0≤p)(hpM:p≤1152921504606846976)(hd:v.drop p.toNat=c::r)(hp:pl c=true)(hn:decide (0<c.fN)=false):Dr (F+2) v p=some 1:=by
 obtain⟨g1,g2,g3⟩:=C3 h0 hd;rw[Dr];unfold IH;rw[Br h0 g3,D7 h0 hd]
 cases hk:(!decide (c.fKind=5)&&!decide (c.fKind=6)) with
 | true=>rw[AK rfl]
 | false=>
  rw[A8 rfl,AI (by omega) (by omega),AU (De (o:=.go 0) (by
   show CY (F+1) v p _ 0 (p+1) 0=_;unfold CY;rw[D7 h0 hd,A8 hn]))]
  simp only[BT,E1];rw[AI (by omega) (by omega)];rfl
theorem Pc {F:Nat}{i:Int}{rec:List Ab→Int→Option Int}{most at_ x L:Int}{m:Bool}{p q:Int}{pc:Ab}(hpc:Am v i=pc)(hm:decide (pc.fKind=6)=m)(hx:x<pc.fN)(hx0:0≤x)(hpcN:pc.fN≤9223372036854775807)
  (ha0:0≤at_) (haM:at_≤1152921504606846976) (hp:p=bif m then at_+1 else at_) (hr:rec v p=some L) (hq:DM F v p=some q):CY F v i rec most at_ x=some (.next (max most L,q,x+1)):=by
 unfold CY;rw[hpc,AK (by simpa using hx),hm]
 cases m with
 | true=>
  simp only[Abj] at hp;rw[AK rfl,AI (by omega) (by omega),← hp,hr,AU rfl]
  cases hl:decide (most<L) with
  | true=>rw[AK rfl,hq,AU rfl,AI (by omega) (by omega),Int.max_eq_right (by simp at hl;omega)]
  | false=>rw[A8 rfl,hq,AU rfl,AI (by omega) (by omega),Int.max_eq_left (by simp at hl;omega)]
 | false=>
  simp only[Abh] at hp;rw[A8 rfl,← hp,hr,AU rfl]
  cases hl:decide (most<L) with
  | true=>rw[AK rfl,hq,AU rfl,AI (by omega) (by omega),Int.max_eq_right (by simp at hl;omega)]
  | false=>rw[A8 rfl,hq,AU rfl,AI (by omega) (by omega),Int.max_eq_left (by simp at hl;omega)]
theorem LL {m:Bool}{last key:Option Ae}(h:BH m last key=true):((B8 key).length:Int)=bif m then 1 else 0:=by
  cases key with
  | none=>
            have:m=false:=by simpa[BH] using h
            subst this;rfl
  | some s=>simp only[BH,Abk] at h;rw[h.1.1];rfl
theorem QZ (hA:IY M v):∀(g:Fo) (F L:Nat) (i at_ x most:Int) (m:Bool) (last:Option Ae) (ys:List Ab) (pc:Ab),Am v i=pc→decide (pc.fKind=6)=m→pc.fN≤9223372036854775807→g.wf m last=true→v.drop at_.toNat=g.flat++ys→0≤at_→at_≤v.length→pc.fN=x+g.cnt→0≤x→0≤most→most≤1152921504606846976→g.cnt<L→3*M+5+g.flat.length<F→
  ∃o,Ca (λσ=>CY F v i (Dr F) σ.1 σ.2.1 σ.2.2) L (most,at_,x)=some o∧BT (λν=>E1 ν) o=some (max most (g.dep:Int)+1):=by
 have hM:=hA.hM;have hvM:=hA.hv;have fin:∀(F L:Nat) (i at_ x most:Int) (pc:Ab),Am v i=pc→pc.fN≤x→0≤most→most≤1152921504606846976→0<L→∃o,Ca (λσ=>CY F v i (Dr F) σ.1 σ.2.1 σ.2.2) L (most,at_,x)=some o∧BT (λν=>E1 ν) o=some (most+1):=λF L i at_ x most pc hpc hx h0 hb hL=>by
  obtain⟨L,rfl⟩:∃K,L=K+1:=⟨L-1,by omega⟩
  refine⟨.go most,De (by show CY F v i _ most at_ x=_;unfold CY;rw[hpc,A8 (by simp;omega)]),?_⟩;simp only[BT,E1];rw[AI (by omega) (by omega)]
 have depM:∀g:Fo,g.dep≤g.flat.length:=by
  intro g
  induction g with
  | nil=>simp[Fo.dep]
  | cell k c r ih=>simp[Fo.dep,Fo.flat];omega
  | node k c kids r ih1 ih2=>simp[Fo.dep,Fo.flat];omega
 intro g
 induction g with
 | nil=>
  intro F L i at_ x most m last ys pc hpc hm hpN hw hd h0 h1 hN hx hmo hmM hL hF;obtain⟨o,h1,h2⟩:=fin F L i at_ x most pc hpc (by simp[Fo.cnt] at hN;omega) hmo hmM (by omega);exact⟨o,h1,by rw[h2];simp only[Fo.dep];congr 2<;>omega⟩
 | cell k c r ih=>
  intro F L i at_ x most m last ys pc hpc hm hpN hw hd h0 h1 hN hx hmo hmM hL hF;simp only[Fo.wf,Abk,Abz] at hw;obtain⟨⟨⟨w1,w2⟩,w3⟩,w4⟩:=hw;simp only[Fo.flat,Ab7,AbY] at hd;simp only[Fo.cnt] at hN hL;simp only[Fo.flat,Abl,Abf] at hF;obtain⟨L,rfl⟩:∃K,L=K+1:=⟨L-1,by omega⟩
  obtain⟨F,rfl⟩:∃K,F=K+2:=⟨F-2,by omega⟩
  have hd1:=CN h0 hd;have hkl:=LL w1;obtain⟨g1,g2,g3⟩:=C3 (by omega) hd1;have hlen:at_+(B8 k).length=bif m then at_+1 else at_:=by rw[hkl];cases m<;>simp
  have hq:=hA.next (F:=F+2) (by omega) (p:=at_+(B8 k).length) (by omega) (by omega);rw[PS (f:=.cell none c .nil) (ys:=r.flat++ys) rfl (P5 w2 w3) hd1] at hq;have hb:=Pc (most:=most) (x:=x) hpc hm (by omega) hx hpN h0 (by omega) hlen (Ly (F:=F) (by omega) (by omega) hd1 w2 w3) hq;have hdd:=depM r;obtain⟨o,ho1,ho2⟩:=ih (F+2) L i (at_+(B8 k).length+((Fo.cell none c .nil).flat.length:Int)) (x+1) (max most 1) m k ys pc hpc hm hpN w4 (by rw[show(Fo.cell none c .nil).flat.length=1 from rfl];exact g2) (by omega) (by rw[show(Fo.cell none c .nil).flat.length=1 from rfl];omega) (by omega) (by omega) (by omega) (by omega) (by omega) (by omega);refine⟨o,G7 hb ho1,?_⟩;rw[ho2,Fo.dep];congr 2<;>omega
 | node k c kids r ihk ih=>
  intro F L i at_ x most m last ys pc hpc hm hpN hw hd h0 h1 hN hx hmo hmM hL hF;simp only[Fo.wf,Abk,Abd] at hw;obtain⟨⟨⟨⟨⟨w1,w2⟩,w3⟩,w5⟩,w6⟩,w4⟩:=hw;simp only[Fo.flat,Ab7,AbY] at hd;simp only[Fo.cnt] at hN hL;simp only[Fo.flat,Abl,Abf] at hF;obtain⟨L,rfl⟩:∃K,L=K+1:=⟨L-1,by omega⟩
  obtain⟨F,rfl⟩:∃K,F=K+1:=⟨F-1,by omega⟩
  have hd1:=CN h0 hd;have hkl:=LL w1;obtain⟨g1,g2,g3⟩:=C3 (by omega) hd1;have hcN:=(hA.hc c (Abs g1)).2.2;have hlen:at_+(B8 k).length=bif m then at_+1 else at_:=by rw[hkl];cases m<;>simp
  have hq:=hA.next (F:=F+1) (by omega) (p:=at_+(B8 k).length) (by omega) (by omega);have hfl:(Fo.node none c kids .nil).flat=c::kids.flat:=by simp[Fo.flat,B8]
  rw[PS (f:=.node none c kids .nil) (ys:=r.flat++ys) rfl (P4 w2 w3 w5 w6) (by rw[hd1,hfl];simp)] at hq;have hdk:=depM kids;have hdd:=depM r;have hcf:=C0 kids;have hvl:(v.drop (at_+(B8 k).length+1).toNat).length=kids.flat.length+(r.flat.length+ys.length):=by rw[g2];simp
  rw[AbK] at hvl;have hrec:Dr (F+1) v (at_+(B8 k).length)=some ((kids.dep:Int)+1):=by
   rw[Dr];unfold IH;rw[Br (by omega) g3,D7 (by omega) hd1];have ha:=(Ji w2 w3).1;rw[A8 (by simp;omega),AI (by omega) (by omega)];obtain⟨o,ho1,ho2⟩:=ihk F F (at_+(B8 k).length) (at_+(B8 k).length+1) 0 0 _ none (r.flat++ys) c (D7 (by omega) hd1) rfl hcN w6 (by rw[g2]) (by omega) (by omega) (by omega) (Ab9 0) (Ab9 0) (by omega) (by omega) (by omega);rw[AU ho1,ho2];congr 2<;>omega
  have hb:=Pc (most:=most) (x:=x) hpc hm (by omega) hx hpN h0 (by omega) hlen hrec hq;obtain⟨o,ho1,ho2⟩:=ih (F+1) L i (at_+(B8 k).length+((Fo.node none c kids .nil).flat.length:Int)) (x+1) (max most ((kids.dep:Int)+1)) m k ys pc hpc hm hpN w4 (by
   have:=CN (by omega) g2;rw[hfl,Abf,show at_+(B8 k).length+((kids.flat.length+1:Nat):Int)=at_+(B8 k).length+1+kids.flat.length from by omega];exact this) (by omega) (by rw[hfl,Abf];omega) (by omega) (by omega) (by omega) (by omega) (by omega) (by omega)
  refine⟨o,G7 hb ho1,?_⟩;rw[ho2,Fo.dep];congr 2<;>omega
theorem S2 (hA:IY M v){F:Nat}{p:Int}{f:Fo}{ys:List Ab}(h0:0≤p)(h1:f.one=true)(hw:f.wf false none=true)(hd:v.drop p.toNat=f.flat++ys)(hF:3*M+6+f.flat.length<F):Dr F v p=some (f.dep:Int):=by
 have hM:=hA.hM;have hvM:=hA.hv
 cases f with
 | nil=>cases h1
 | cell k c r=>
  cases k with
  | some s=>cases h1
  | none=>
   cases r with
   | nil=>
    simp only[Fo.wf,Abk,Abz] at hw;obtain⟨F,rfl⟩:∃K,F=K+2:=⟨F-2,by omega⟩
    have hd':v.drop p.toNat=c::ys:=by simpa[Fo.flat,B8] using hd
    rw[Ly h0 (by have:=(C3 h0 hd').2.2;omega) hd' hw.1.1.2 hw.1.2];rfl
   | cell _ _ _=>cases h1
   | node _ _ _ _=>cases h1
 | node k c kids r=>
  cases k with
  | some s=>cases h1
  | none=>
   cases r with
   | nil=>
    simp only[Fo.wf,Abk,Abd] at hw;obtain⟨⟨⟨⟨⟨w1,w2⟩,w3⟩,w5⟩,w6⟩,w4⟩:=hw;have hd':v.drop p.toNat=c::(kids.flat++ys):=by simpa[Fo.flat,B8] using hd
    obtain⟨g1,g2,g3⟩:=C3 h0 hd';have hcN:=(hA.hc c (Abs g1)).2.2;have hcf:=C0 kids;simp only[Fo.flat,B8,AbU,AbL,Abf] at hF;obtain⟨F,rfl⟩:∃K,F=K+1:=⟨F-1,by omega⟩
    rw[Dr];unfold IH;have ha:=(Ji w2 w3).1;rw[Br h0 g3,D7 h0 hd',A8 (by simp;omega),AI (by omega) (by omega)];obtain⟨o,ho1,ho2⟩:=QZ hA kids F F p (p+1) 0 0 _ none ys c (D7 h0 hd') rfl hcN w6 g2 (by omega) (by omega) (by omega) (Ab9 0) (Ab9 0) (by omega) (by omega) (by omega);rw[AU ho1,ho2];simp only[Fo.dep];congr 1<;>omega
   | cell _ _ _=>cases h1
   | node _ _ _ _=>cases h1
end
def Ne (c:UInt8):Ae:=bif (decide (c=34)||decide (c=92)) then[92,c] else[c]
theorem My {s:Ae}{k:Nat}{c:UInt8}(h:s[k]? =some c):Gx (s.take (k+1))=Gx (s.take k)++Ne c:=by
 rw[List.take_add_one,h];simp[Gx,List.flatMap_append,Ne]
theorem RG (s:Ae):(Gx s).length≤3*s.length:=by
 rw[LT];have h1:s.count 34≤s.length:=List.count_le_length;have h2:s.count 92≤s.length:=List.count_le_length;omega
theorem Sn {s:Ae}{x:Int}{c:UInt8}(h0:0≤x)(h:s[x.toNat]? =some c):List.take (Int.toNat (x+1)-Int.toNat x) (List.drop (Int.toNat x) s)=[c]:=by
 have hl:=(List.getElem?_eq_some_iff.1 h).1;have hc:=(List.getElem?_eq_some_iff.1 h).2;rw[show Int.toNat (x+1)-Int.toNat x=1 from by omega,List.drop_eq_getElem_cons hl,hc];rfl
theorem Zk {s:Ae}{x:Int}{c:UInt8}(h:s[x.toNat]? =some c):decide (Be s x=34)=decide (c=34):=by
 rw[Du h,Abu,decide_eq_true_iff,decide_eq_true_iff,← AbX];show _↔c.toNat=34;omega
theorem Zj {s:Ae}{x:Int}{c:UInt8}(h:s[x.toNat]? =some c):decide (Be s x=92)=decide (c=92):=by
 rw[Du h,Abu,decide_eq_true_iff,decide_eq_true_iff,← AbX];show _↔c.toNat=92;omega
theorem PF {s out:Ae}{x:Int}{c:UInt8}(h0:0≤x)(hx:x<(s.length:Int))(hs:s.length≤1152921504606846976)(ho:out.length≤3*s.length+1)(hc:s[x.toNat]? =some c):Dq s out x=some (.next (out++Ne c,x+1)):=by
 unfold Dq Ne;rw[AK (Abm hx),Br h0 hx,Zk hc,Zj hc,Sn h0 hc];have l1:(([92]:Ae).length:Int)=1:=rfl;have l2:(([c]:Ae).length:Int)=1:=rfl
 cases hq:(decide (c=34)||decide (c=92)) with
 | true=>
  have l3:((out++([92]:Ae)).length:Int)=out.length+1:=by rw[Abl,Ab8,Int.natCast_add];rfl
  rw[AK rfl,l1,l2,l3,AI (by omega) (by omega),AI (by omega) (by omega),C1 (by omega) (by omega),C1 (by omega) (by omega),AI (by omega) (by omega),Ab7];rfl
 | false=>
  rw[A8 rfl,l2,AI (by omega) (by omega),C1 (by omega) (by omega),C1 (by omega) (by omega),AI (by omega) (by omega)];rfl
theorem Di {R V:Type}(K:V→Option R)(v:V):BT K (.go v)=K v:=rfl
theorem L6 {R V:Type}(K:V→Option R)(r:R):BT K (.ret r)=some r:=rfl
theorem QW {s out:Ae}{x:Int}(hx : ¬ x<(s.length:Int)):Dq s out x=some (.out (.go out)):=by
 unfold Dq;rw[A8 (Abi hx)]
theorem Uy {out:Ae}(h:out.length≤4611686018427387904):DV out=some (out++[34]):=by
 unfold DV;have l1:(([34]:Ae).length:Int)=1:=rfl;rw[l1,AI (by omega) (by omega)]
theorem KP {F:Nat}{s:Ae}(hF:s.length<F)(hs:s.length≤1152921504606846976):Jf F s=some (G0 s):=by
 obtain⟨o,h1,h2⟩:=Ik (body:=λσ=>Dq s σ.1 σ.2) (λσ=>0≤σ.2∧σ.2≤(s.length:Int)∧σ.1=34::Gx (s.take σ.2.toNat)) (λσ=>s.length-σ.2.toNat)
  (λo=>BT (λν=>DV ν) o=some (G0 s)) (λσ ⟨h0,hl,ha⟩=>by
   obtain⟨out,x⟩:=σ;simp only at h0 hl ha;show(∃s',Dq s out x=_∧_)∨∃o,Dq s out x=_∧_;have hb:=RG (s.take x.toNat);have hb2:(s.take x.toNat).length≤s.length:=by rw[List.length_take];omega
   have hol:out.length≤3*s.length+1:=by rw[ha,Abf];omega
   by_cases hx:x<(s.length:Int)
   ·obtain⟨c,hc⟩:∃c,s[x.toNat]? =some c:=⟨s[x.toNat]'(by omega),Abn (by omega)⟩
    have a1:0≤x+1:=by omega
    have a2:x+1≤s.length:=by omega
    have a3:s.length-(x+1).toNat<s.length-x.toNat:=by omega
    have a4:out++Ne c=34::Gx (s.take (x+1).toNat):=by rw[show(x+1).toNat=x.toNat+1 from by omega,My hc,ha];rfl
    exact .inl ⟨(out++Ne c,x+1),PF h0 hx hs hol hc,⟨a1,a2,a4⟩,a3⟩
   ·have e:x.toNat=s.length:=by omega
    have hk:DV out=some (out++[34]):=Uy (by omega);have hf:out++[34]=G0 s:=by rw[ha,e,List.take_length];rfl
    exact .inr ⟨.go out,QW hx,(Di (λν=>DV ν) out).trans (hk.trans (congrArg some hf))⟩) F ([34],0) ⟨Ab9 0,by show(0:Int)≤s.length;omega,by show([34]:Ae)=34::Gx (s.take 0);simp[Gx]⟩ (by show s.length-0<F;omega)
 unfold Jf;rw[AU h1,h2]
section
variable {M : Nat} {v : List Ab}
theorem Aay (a b c d e:Ae):(((a++b)++c)++d)++e=a++(b++(c++d)++e):=by simp
theorem Aaz (a b c d:Ae):((a++b)++c)++d=a++([]++(b++c)++d):=by simp
theorem Aa0 (a b c:Ae):(a++b)++c=a++(b++[]++c):=by simp
theorem Aa1 (a b:Ae):a++b=a++([]++[]++b):=by simp
theorem Y2 (a:Ae)(c:UInt8):((a++[c]).length:Int)=a.length+1:=by rw[Abl,Ab8,Int.natCast_add];rfl
theorem R4 (a b:Ae):((a++b).length:Int)=a.length+b.length:=by rw[Abl,Int.natCast_add]
theorem OZ {F:Nat}{i:Int}{rec:List Ab→Int→Option Ae}{out tx:Ae}{at_ x:Int}{m:Bool}{p q:Int}{pc:Ab}{key:Option Ae}{last:Option Ae}(hpc:Am v i=pc)(hm:decide (pc.fKind=6)=m)(hx:x<pc.fN)(hx0:0≤x)(hpcN:pc.fN≤9223372036854775807)
  (ha0:0≤at_) (haM:at_<v.length) (hvM:(v.length:Int)≤1152921504606846976) (hk:BH m last key=true) (hkey:∀s,key=some s→(Am v at_).fStr=s∧s.length<F∧s.length≤1152921504606846976) (hp:p=bif m then at_+1 else at_) (hr:rec v p=some tx) (hq:DM F v p=some q)
  (hlen:((out++(Dv (decide (x=0))++Ia key++tx)).length:Int)≤4611686018427387904):E0 F v i rec out at_ x=some (.next (out++(Dv (decide (x=0))++Ia key++tx),q,x+1)):=by
 have hb:(([44]:Ae).length:Int)=1:=rfl;have hd:(([58]:Ae).length:Int)=1:=rfl;have hx1:AY (B2 .i64 (x+1)) (some (Stp.next (out++(Dv (decide (x=0))++Ia key++tx),q,x+1)):Option (Stp (Ae×Int×Int) (Out Ae Ae)))=some (Stp.next (out++(Dv (decide (x=0))++Ia key++tx),q,x+1)):=AI (by omega) (by omega);unfold E0;rw[hpc,AK (Abm hx),hm]
 cases ha:decide (x=0) with
 | true=>
  rw[ha] at hx1 hlen;simp only[Abd] at ha;rw[A8 (Abi (by omega))]
  cases m with
  | true=>
   cases key with
   | none=>simp[BH] at hk
   | some s=>
    obtain⟨e1,e2,e3⟩:=hkey s rfl;simp only[Abj] at hp;have e:((out++G0 s)++[58])++tx=out++(Dv true++Ia (some s)++tx):=Aaz _ _ _ _;rw[← e] at hx1 hlen ⊢;have h1:=R4 ((out++G0 s)++[58]) tx;have h2:=Y2 (out++G0 s) 58;have h3:=R4 out (G0 s);rw[AK rfl,Br ha0 haM,e1,KP e2 e3,AU rfl,AI (by omega) (by omega),hd,AI (by omega) (by omega),AI (by omega) (by omega),← hp,hr,AU rfl,AI (by omega) (by omega),hq,AU rfl,hx1]
  | false=>
   cases key with
   | some s=>simp[BH] at hk
   | none=>
    simp only[Abh] at hp;have e:out++tx=out++(Dv true++Ia none++tx):=Aa1 _ _;rw[← e] at hx1 hlen ⊢;have h1:=R4 out tx;rw[A8 rfl,← hp,hr,AU rfl,AI (by omega) (by omega),hq,AU rfl,hx1]
 | false=>
  rw[ha] at hx1 hlen;simp only[Abc] at ha;rw[AK (Abm (by omega))]
  cases m with
  | true=>
   cases key with
   | none=>simp[BH] at hk
   | some s=>
    obtain⟨e1,e2,e3⟩:=hkey s rfl;simp only[Abj] at hp;have e:(((out++[44])++G0 s)++[58])++tx=out++(Dv false++Ia (some s)++tx):=Aay _ _ _ _ _;rw[← e] at hx1 hlen ⊢;have h1:=R4 (((out++[44])++G0 s)++[58]) tx;have h2:=Y2 ((out++[44])++G0 s) 58;have h3:=R4 (out++[44]) (G0 s);have h4:=Y2 out 44;rw[hb,AI (by omega) (by omega),AK rfl,Br ha0 haM,e1,KP e2 e3,AU rfl,AI (by omega) (by omega),hd,AI (by omega) (by omega),AI (by omega) (by omega),← hp,hr,AU rfl,AI (by omega) (by omega),hq,AU rfl,hx1]
  | false=>
   cases key with
   | some s=>simp[BH] at hk
   | none=>
    simp only[Abh] at hp;have e:(out++[44])++tx=out++(Dv false++Ia none++tx):=Aa0 _ _ _;rw[← e] at hx1 hlen ⊢;have h1:=R4 (out++[44]) tx;have h4:=Y2 out 44;rw[hb,AI (by omega) (by omega),A8 rfl,← hp,hr,AU rfl,AI (by omega) (by omega),hq,AU rfl,hx1]
theorem Tp {i:Int}{pc:Ab}{out:Ae}(hpc:Am v i=pc)(h:out.length≤4611686018427387904):HI v i out=some (Ox pc out):=by
 unfold HI Ox;have l1:(([123]:Ae).length:Int)=1:=rfl;have l2:(([91]:Ae).length:Int)=1:=rfl;have l3:(([125]:Ae).length:Int)=1:=rfl;have l4:(([93]:Ae).length:Int)=1:=rfl;have h1:=R4 [123] out;have h2:=R4 [91] out;rw[hpc]
 cases hk:decide (pc.fKind=6) with
 | true=>rw[AK rfl,AI (by omega) (by omega),AI (by omega) (by omega)];rfl
 | false=>rw[A8 rfl,AI (by omega) (by omega),AI (by omega) (by omega)];rfl
theorem NJ {F:Nat}{p:Int}{c:Ab}{r:List Ab}(h0:0≤p)(hpM:p≤1152921504606846976)(hd:v.drop p.toNat=c::r)(hp:pl c=true)(hn:decide (0<c.fN)=false)(hs:c.fStr.length<F+1)(hs2:c.fStr.length≤1152921504606846976)(hi:B2 .i64 c.fInt=true):GP (F+2) v p=some (EI c):=by
 obtain⟨g1,g2,g3⟩:=C3 h0 hd;rw[GP];unfold Mg EI;rw[Br h0 g3,D7 h0 hd]
 cases k1:decide (c.fKind=1) with
 | true=>rw[AK rfl];rfl
 | false=>
 rw[A8 rfl]
 cases k2:decide (c.fKind=2) with
 | true=>rw[AK rfl];cases decide (c.fInt=1)<;>rfl
 | false=>
 rw[A8 rfl]
 cases k3:decide (c.fKind=3) with
 | true=>rw[AK rfl,BS hi];rfl
 | false=>
 rw[A8 rfl]
 cases k4:decide (c.fKind=4) with
 | true=>rw[AK rfl,KP hs hs2,AU rfl];rfl
 | false=>
 have hgo:E0 (F+1) v p (GP (F+1)) [] (p+1) 0=some (.out (.go [])):=by
  unfold E0;rw[D7 h0 hd,A8 hn]
 rw[A8 rfl,AI (by omega) (by omega),AU (De (o:=.go []) hgo),Di,Tp (D7 h0 hd) (by simp)];simp only[Abh,Ox]
 cases decide (c.fKind=6)<;>rfl
end
section
variable {M : Nat} {v : List Ab}
theorem Hu {α:Type}[Inhabited α](a:α):ov (some a)=a:=rfl
theorem WO {at_:Int}{k:Option Ae}{r:List Ab}(h0:0≤at_)(hA:IY M v){F:Nat}(hF:M<F)(hd:v.drop at_.toNat=B8 k++r):∀s,k=some s→(Am v at_).fStr=s∧s.length<F∧s.length≤1152921504606846976:=λs e=>by
 subst e;have hd':v.drop at_.toNat=⟨4,0,s,0⟩::r:=by simpa[B8] using hd
 have h1:=D7 h0 hd';have h2:=(hA.hc _ (Abs (C3 h0 hd').1)).1;have hM:=hA.hM;simp only at h2;exact⟨by rw[h1],by omega,by omega⟩
theorem QS (hA:IY M v):∀(g:Fo) (F L:Nat) (i at_ x:Int) (out:Ae) (m:Bool) (last:Option Ae) (ys:List Ab) (pc:Ab),Am v i=pc→decide (pc.fKind=6)=m→pc.fN≤9223372036854775807→g.wf m last=true→v.drop at_.toNat=g.flat++ys→0≤at_→at_≤v.length→pc.fN=x+g.cnt→0≤x→(out++g.txt (decide (x=0))).length≤4611686018427387904→g.cnt<L→3*M+5+g.flat.length<F→
  ∃o,Ca (λσ=>E0 F v i (GP F) σ.1 σ.2.1 σ.2.2) L (out,at_,x)=some o∧BT (λν=>HI v i ν) o=some (Ox pc (out++g.txt (decide (x=0)))):=by
 have hM:=hA.hM;have hvM:=hA.hv;intro g
 induction g with
 | nil=>
  intro F L i at_ x out m last ys pc hpc hm hpN hw hd h0 h1 hN hx hlen hL hF;obtain⟨L,rfl⟩:∃K,L=K+1:=⟨L-1,by omega⟩
  have hgo:E0 F v i (GP F) out at_ x=some (.out (.go out)):=by
   simp only[Fo.cnt] at hN;unfold E0;rw[hpc,A8 (Abi (by omega))]
  refine⟨.go out,De hgo,?_⟩;simp only[Fo.txt,AbL] at hlen ⊢;rw[Di,Tp hpc hlen]
 | cell k c r ih=>
  intro F L i at_ x out m last ys pc hpc hm hpN hw hd h0 h1 hN hx hlen hL hF;simp only[Fo.wf,Abk,Abz] at hw;obtain⟨⟨⟨w1,w2⟩,w3⟩,w4⟩:=hw;simp only[Fo.flat,Ab7,AbY] at hd;simp only[Fo.cnt] at hN hL;simp only[Fo.flat,Abl,Abf] at hF;obtain⟨L,rfl⟩:∃K,L=K+1:=⟨L-1,by omega⟩
  obtain⟨F,rfl⟩:∃K,F=K+2:=⟨F-2,by omega⟩
  have hd1:=CN h0 hd;have hkl:=LL w1;obtain⟨g1,g2,g3⟩:=C3 (by omega) hd1;have hcM:=hA.hc c (Abs g1);have hp:at_+(B8 k).length=bif m then at_+1 else at_:=by rw[hkl];cases m<;>simp
  have hq:=hA.next (F:=F+2) (by omega) (p:=at_+(B8 k).length) (by omega) (by omega);rw[PS (f:=.cell none c .nil) (ys:=r.flat++ys) rfl (P5 w2 w3) hd1] at hq;have e:out++(Fo.cell k c r).txt (decide (x=0))=(out++(Dv (decide (x=0))++Ia k++EI c))++r.txt (decide (x+1=0)):=by
   rw[Abi (show ¬ x+1=0 by omega)];simp[Fo.txt]
  rw[e] at hlen ⊢;have hl2:((out++(Dv (decide (x=0))++Ia k++EI c)).length:Int)≤4611686018427387904:=by rw[Abl] at hlen;omega
  have hat:at_<v.length:=by omega
  have hb:=OZ hpc hm (by omega) hx hpN h0 hat (by omega) w1 (WO h0 hA (F:=F+2) (by omega) hd) hp (NJ (F:=F) (by omega) (by omega) hd1 w2 w3 (by omega) (by omega) hcM.2.1) hq hl2;obtain⟨o,ho1,ho2⟩:=ih (F+2) L i (at_+(B8 k).length+((Fo.cell none c .nil).flat.length:Int)) (x+1) (out++(Dv (decide (x=0))++Ia k++EI c)) m k ys pc hpc hm hpN w4 (by rw[show(Fo.cell none c .nil).flat.length=1 from rfl];exact g2) (by omega) (by rw[show(Fo.cell none c .nil).flat.length=1 from rfl];omega) (by omega) (by omega) hlen (by omega) (by omega);exact⟨o,G7 hb ho1,ho2⟩
 | node k c kids r ihk ih=>
  intro F L i at_ x out m last ys pc hpc hm hpN hw hd h0 h1 hN hx hlen hL hF;simp only[Fo.wf,Abk,Abd] at hw;obtain⟨⟨⟨⟨⟨w1,w2⟩,w3⟩,w5⟩,w6⟩,w4⟩:=hw;simp only[Fo.flat,Ab7,AbY] at hd;simp only[Fo.cnt] at hN hL;simp only[Fo.flat,Abl,Abf] at hF;obtain⟨L,rfl⟩:∃K,L=K+1:=⟨L-1,by omega⟩
  obtain⟨F,rfl⟩:∃K,F=K+1:=⟨F-1,by omega⟩
  have hd1:=CN h0 hd;have hkl:=LL w1;obtain⟨g1,g2,g3⟩:=C3 (by omega) hd1;have hcN:=(hA.hc c (Abs g1)).2.2;have hp:at_+(B8 k).length=bif m then at_+1 else at_:=by rw[hkl];cases m<;>simp
  have hq:=hA.next (F:=F+1) (by omega) (p:=at_+(B8 k).length) (by omega) (by omega);have hfl:(Fo.node none c kids .nil).flat=c::kids.flat:=by simp[Fo.flat,B8]
  rw[PS (f:=.node none c kids .nil) (ys:=r.flat++ys) rfl (P4 w2 w3 w5 w6) (by rw[hd1,hfl];simp)] at hq;have hcf:=C0 kids;have hvl:(v.drop (at_+(B8 k).length+1).toNat).length=kids.flat.length+(r.flat.length+ys.length):=by rw[g2];simp
  rw[AbK] at hvl;have e:out++(Fo.node k c kids r).txt (decide (x=0))=(out++(Dv (decide (x=0))++Ia k++Ox c (kids.txt true)))++r.txt (decide (x+1=0)):=by
   rw[Abi (show ¬ x+1=0 by omega)];simp[Fo.txt]
  rw[e] at hlen ⊢;have hl2:((out++(Dv (decide (x=0))++Ia k++Ox c (kids.txt true))).length:Int)≤4611686018427387904:=by rw[Abl] at hlen;omega
  have hl3:(kids.txt true).length≤4611686018427387904:=by
   have:=Jp c (kids.txt true);rw[Abl,Abl] at hl2;omega
  have hat:at_<v.length:=by omega
  have hrec:GP (F+1) v (at_+(B8 k).length)=some (Ox c (kids.txt true)):=by
   rw[GP];unfold Mg;have ha:=(Ji w2 w3).1;rw[Br (by omega) g3,D7 (by omega) hd1,A8 (Abi (by omega)),A8 (Abi (by omega)),A8 (Abi (by omega)),A8 (Abi (by omega)),AI (by omega) (by omega)];obtain⟨o,ho1,ho2⟩:=ihk F F (at_+(B8 k).length) (at_+(B8 k).length+1) 0 [] _ none (r.flat++ys) c (D7 (by omega) hd1) rfl hcN w6 (by rw[g2]) (by omega) (by omega) (by omega) (Ab9 0) hl3 (by omega) (by omega);rw[AU ho1,ho2];rfl
  have hb:=OZ hpc hm (by omega) hx hpN h0 hat (by omega) w1 (WO h0 hA (F:=F+1) (by omega) hd) hp hrec hq hl2;obtain⟨o,ho1,ho2⟩:=ih (F+1) L i (at_+(B8 k).length+((Fo.node none c kids .nil).flat.length:Int)) (x+1) (out++(Dv (decide (x=0))++Ia k++Ox c (kids.txt true))) m k ys pc hpc hm hpN w4 (by
   have:=CN (by omega) g2;rw[hfl,Abf,show at_+(B8 k).length+((kids.flat.length+1:Nat):Int)=at_+(B8 k).length+1+kids.flat.length from by omega];exact this) (by omega) (by rw[hfl,Abf];omega) (by omega) (by omega) hlen (by omega) (by omega)
  exact⟨o,G7 hb ho1,ho2⟩
theorem QT (hA:IY M v){F:Nat}{p:Int}{f:Fo}{ys:List Ab}(h0:0≤p)(h1:f.one=true)(hw:f.wf false none=true)(hd:v.drop p.toNat=f.flat++ys)(hF:3*M+6+f.flat.length<F)(hlen:(f.txt true).length≤4611686018427387904):GP F v p=some (f.txt true):=by
 have hM:=hA.hM;have hvM:=hA.hv
 cases f with
 | nil=>cases h1
 | cell k c r=>
  cases k with
  | some s=>cases h1
  | none=>
   cases r with
   | nil=>
    simp only[Fo.wf,Abk,Abz] at hw;obtain⟨F,rfl⟩:∃K,F=K+2:=⟨F-2,by omega⟩
    have hd':v.drop p.toNat=c::ys:=by simpa[Fo.flat,B8] using hd
    have hcM:=hA.hc c (Abs (C3 h0 hd').1);rw[NJ h0 (by have:=(C3 h0 hd').2.2;omega) hd' hw.1.1.2 hw.1.2 (by omega) (by omega) hcM.2.1];simp[Fo.txt,Dv,Ia]
   | cell _ _ _=>cases h1
   | node _ _ _ _=>cases h1
 | node k c kids r=>
  cases k with
  | some s=>cases h1
  | none=>
   cases r with
   | nil=>
    simp only[Fo.wf,Abk,Abd] at hw;obtain⟨⟨⟨⟨⟨w1,w2⟩,w3⟩,w5⟩,w6⟩,w4⟩:=hw;have hd':v.drop p.toNat=c::(kids.flat++ys):=by simpa[Fo.flat,B8] using hd
    obtain⟨g1,g2,g3⟩:=C3 h0 hd';have hcN:=(hA.hc c (Abs g1)).2.2;have hcf:=C0 kids;simp only[Fo.flat,B8,AbU,AbL,Abf] at hF;have et:(Fo.node none c kids .nil).txt true=Ox c (kids.txt true):=by simp[Fo.txt,Dv,Ia]
    rw[et] at hlen ⊢;have hbl:=Jp c (kids.txt true);obtain⟨F,rfl⟩:∃K,F=K+1:=⟨F-1,by omega⟩
    rw[GP];unfold Mg;have ha:=(Ji w2 w3).1;rw[Br h0 g3,D7 h0 hd',A8 (Abi (by omega)),A8 (Abi (by omega)),A8 (Abi (by omega)),A8 (Abi (by omega)),AI (by omega) (by omega)];obtain⟨o,ho1,ho2⟩:=QS hA kids F F p (p+1) 0 [] _ none ys c (D7 h0 hd') rfl hcN w6 g2 (by omega) (by omega) (by omega) (Ab9 0) (by show(kids.txt true).length≤_;omega) (by omega) (by omega);rw[AU ho1,ho2];rfl
   | cell _ _ _=>cases h1
   | node _ _ _ _=>cases h1
theorem U9 {F:Nat}{K:Option Int}(hF:v.length<F)(hv:v.length≤1152921504606846976):B0 (Ca (λσ=>EF v σ) F 0) (BT λ_=>K)=bif v.any Co then some 2 else K:=by
 obtain⟨o,h1,h2⟩:=Ik (body:=λσ=>EF v σ) (λx=>0≤x∧x≤(v.length:Int)∧(v.take x.toNat).any Co=false) (λx=>v.length-x.toNat)
  (λo=>BT (λ_=>K) o=bif v.any Co then some 2 else K) (λx ⟨h0,hl,ha⟩=>by
   by_cases hx:x<(v.length:Int)
   ·obtain⟨c,hc⟩:∃c,v[x.toNat]? =some c:=⟨v[x.toNat]'(by omega),Abn (by omega)⟩
    have hat:Am v x=c:=by simp[Am,hc]
    have ho:(decide (c.fKind=3)&&(decide (c.fInt<(-1000000000000))||decide (1000000000000<c.fInt)))=Co c:=by
     unfold Co
     cases decide (c.fKind=3) with
     | false=>rfl
     | true=>
      rw[Abp,Abp,Abu];simp only[AbC,Abd,Abz,AbG,Abc];omega
    have hb:EF v x=Bl (Co c) (some (.out (.ret 2))) (some (.next (x+1))):=by
     unfold EF;rw[AK (Abm hx),Br h0 hx,hat,ho,AI (by omega) (by omega)]
    cases hq:Co c with
    | true=>
     refine .inr ⟨.ret 2,hb.trans (AK hq),?_⟩;have:v.any Co=true:=List.any_eq_true.2 ⟨c,Abs hc,hq⟩;rw[L6,this];rfl
    | false=>
     have a3:(v.take (x+1).toNat).any Co=false:=by
      rw[show(x+1).toNat=x.toNat+1 from by omega,List.take_add_one,hc,List.any_append,ha];simp[hq]
     exact .inl ⟨x+1,hb.trans (A8 hq),⟨by omega,by omega,a3⟩,by omega⟩
   ·refine .inr ⟨.go (),by unfold EF;rw[A8 (Abi hx)],?_⟩;rw[show x.toNat=v.length from by omega,List.take_length] at ha;rw[Di,ha];rfl) F 0 ⟨Ab9 0,by omega,by simp⟩ (by simpa using hF)
 rw[AU h1,h2]
theorem U8 {F:Nat}{K:Option Int}(hF:v.length<F)(hv:v.length≤1152921504606846976):B0 (Ca (λσ=>EE v σ) F 0) (BT λ_=>K)=bif v.any Il then some 3 else K:=by
 obtain⟨o,h1,h2⟩:=Ik (body:=λσ=>EE v σ) (λx=>0≤x∧x≤(v.length:Int)∧(v.take x.toNat).any Il=false) (λx=>v.length-x.toNat)
  (λo=>BT (λ_=>K) o=bif v.any Il then some 3 else K) (λx ⟨h0,hl,ha⟩=>by
   by_cases hx:x<(v.length:Int)
   ·obtain⟨c,hc⟩:∃c,v[x.toNat]? =some c:=⟨v[x.toNat]'(by omega),Abn (by omega)⟩
    have hat:Am v x=c:=by simp[Am,hc]
    have hb:EE v x=Bl (Il c) (some (.out (.ret 3))) (some (.next (x+1))):=by
     unfold EE;rw[AK (Abm hx),Br h0 hx,hat,AI (by omega) (by omega)];rfl
    cases hq:Il c with
    | true=>
     refine .inr ⟨.ret 3,hb.trans (AK hq),?_⟩;have:v.any Il=true:=List.any_eq_true.2 ⟨c,Abs hc,hq⟩;rw[L6,this];rfl
    | false=>
     have a3:(v.take (x+1).toNat).any Il=false:=by
      rw[show(x+1).toNat=x.toNat+1 from by omega,List.take_add_one,hc,List.any_append,ha];simp[hq]
     exact .inl ⟨x+1,hb.trans (A8 hq),⟨by omega,by omega,a3⟩,by omega⟩
   ·refine .inr ⟨.go (),by unfold EE;rw[A8 (Abi hx)],?_⟩;rw[show x.toNat=v.length from by omega,List.take_length] at ha;rw[Di,ha];rfl) F 0 ⟨Ab9 0,by omega,by simp⟩ (by simpa using hF)
 rw[AU h1,h2]
theorem Qb:decide (Jz v 0=v.length)=(whole v).isSome:=by
 unfold Jz whole;rw[show v.drop (0:Int).toNat=v from rfl]
 cases hp:Ix v with
 | none=>simp
 | some q=>
  obtain⟨f,ys⟩:=q;have h1:=(Kf hp).1;have hl:v.length=f.flat.length+ys.length:=by rw[h1];simp
  cases ys with
  | nil=>simp at hl ⊢;omega
  | cons c r=>simp at hl ⊢;omega
theorem Mk (hA:IY M v)(hM:M≤1000000){F:Nat}(hF:4*M+6<F):KQ F v=some (Hv v):=by
 have hvM:=hA.hv;unfold KQ;rw[S3 (hA.rf (Abo M)) (λc hc=>(hA.hc c hc).2.2) (by omega),AU rfl,Qb];unfold Hv
 cases hwh:whole v with
 | none=>rfl
 | some f=>
  obtain⟨h1,h2,h3⟩:=KJ hwh;rw[A8 (p:=!(some f).isSome) rfl]
  change _=some (Gq f)
  have hl:v.length=f.flat.length:=by rw[h1]
  have hc:∀c∈f.flat,c.fStr.length≤M∧B2 .i64 c.fInt=true∧c.fN≤9223372036854775807:=λc hc=>hA.hc c (by rw[h1];exact hc);have hb:=K3 hM h2 (by omega) hc;have htl:((f.txt true).length:Int)=f.byt:=by rw[Ib f false none true h2,L7 h3];simp
  have hd0:v.drop (0:Int).toNat=f.flat++[]:=by rw[AbL];exact h1
  rw[U9 (by omega) (by omega)];unfold Gq IL;rw[S2 hA (Ab9 0) h3 h2 hd0 (by omega),BS (by simp[imp]),U8 (by omega) (by omega)];unfold IK;rw[QT hA (Ab9 0) h3 h2 hd0 (by omega) (by omega),AU rfl];rw[Hu,hl,← h1];have a1:decide ((200:Int)<(v.length:Int))=decide (200<v.length):=by rw[Abu];simp;omega
  have a2:decide ((8:Int)<(f.dep:Int))=decide (8<f.dep):=by rw[Abu];simp;omega
  have a3:decide ((4000:Int)<((f.txt true).length:Int))=decide (4000<(f.txt true).length):=by rw[Abu];simp;omega
  rw[a1,a2,a3]
  cases v.any Co<;>cases v.any Il<;>cases decide (200<v.length)<;>cases decide (8<f.dep)<;>cases decide (4000<(f.txt true).length)<;>rfl
end
theorem Dt {α:Type}{n:Nat}{x:Option α}(h:n≤140737488355328):AY (Dz 1 n) x=x:=BS (Abm (by omega))
theorem G8 {α β:Type}(a:α)(k:α→Option β):Lc a k=k a:=rfl
theorem Ha {α:Type}{n:Int}{x:Option α}(h:0≤n)(h':n≤255):AY (B2 .u8 n) x=x:=BS (Y6 h h')
theorem X4 {s:Ae}{x:Int}{c:UInt8}(h:s[x.toNat]? =some c):UInt8.ofNat (Int.toNat (Be s x))=c∧0≤Be s x∧Be s x≤255:=by
 have:=UInt8.toNat_lt c;rw[Du h];refine⟨?_,by omega,by omega⟩;rw[← AbX];simp
theorem QG {s l:Ae}{x:Int}{c:UInt8}(h0:0≤x)(hx:x<(s.length:Int))(hs:s.length≤1152921504606846976)(hl:l.length+2≤140737488355328)(hc:s[x.toNat]? =some c):DE s x l=some (.next (x+1,l++Ne c)):=by
 obtain⟨b1,b2,b3⟩:=X4 hc;unfold DE Ne;rw[AK (Abm hx),Br h0 hx,Zk hc,Zj hc];have l1:(l++[UInt8.ofNat (Int.toNat 92)]).length=l.length+1:=by simp
 cases hq:(decide (c=34)||decide (c=92)) with
 | true=>
  rw[AK rfl,Dt (by omega),Ha (by decide) (by decide),G8,l1,Dt (by omega),Ha b2 b3,G8,b1,AI (by omega) (by omega),Ab7];rfl
 | false=>
  rw[A8 rfl,Dt (by omega),Ha b2 b3,G8,b1,AI (by omega) (by omega)];rfl
theorem VI {l:Ae}(h:l.length+1≤140737488355328):Ge l=some (l++[34]):=by
 unfold Ge;rw[Dt h,G8];rfl
theorem Mb {F:Nat}{l s:Ae}(hF:s.length<F)(hl:(l++G0 s).length≤140737488355328):KL F l s=some (l++G0 s):=by
 have hq:(G0 s).length=(Gx s).length+2:=by simp[G0]
 rw[Abl,hq] at hl;have hesc:∀k,(Gx (s.take k)).length≤(Gx s).length:=λk=>by
  have:Gx s=Gx (s.take k)++Gx (s.drop k):=by rw[Gx,Gx,Gx,← List.flatMap_append,Aca]
  rw[this,Abl];omega
 have hsl:s.length≤(Gx s).length:=by rw[LT];omega
 obtain⟨o,h1,h2⟩:=Ik (body:=λσ=>DE s σ.1 σ.2) (λσ=>0≤σ.1∧σ.1≤(s.length:Int)∧σ.2=l++[34]++Gx (s.take σ.1.toNat)) (λσ=>s.length-σ.1.toNat)
  (λo=>BT (λν=>Ge ν) o=some (l++G0 s)) (λσ ⟨h0,hlx,ha⟩=>by
   obtain⟨x,out⟩:=σ;simp only at h0 hlx ha;show(∃s',DE s x out=_∧_)∨∃o,DE s x out=_∧_;have hol:out.length=l.length+1+(Gx (s.take x.toNat)).length:=by rw[ha];simp;omega
   have he:=hesc x.toNat
   by_cases hx:x<(s.length:Int)
   ·obtain⟨c,hc⟩:∃c,s[x.toNat]? =some c:=⟨s[x.toNat]'(by omega),Abn (by omega)⟩
    have he2:=hesc (x.toNat+1);rw[My hc,Abl] at he2;have hc1:1≤(Ne c).length:=by unfold Ne;cases(decide (c=34)||decide (c=92))<;>simp
    have a1:0≤x+1:=by omega
    have a2:x+1≤s.length:=by omega
    have a3:s.length-(x+1).toNat<s.length-x.toNat:=by omega
    have a4:out++Ne c=l++[34]++Gx (s.take (x+1).toNat):=by rw[show(x+1).toNat=x.toNat+1 from by omega,My hc,ha,Ab7]
    exact .inl ⟨(x+1,out++Ne c),QG h0 hx (by omega) (by omega) hc,⟨a1,a2,a4⟩,a3⟩
   ·have e:x.toNat=s.length:=by omega
    rw[e,List.take_length] at ha;have hf:out++[34]=l++G0 s:=by rw[ha];simp[G0]
    have hgo:DE s x out=some (.out (.go out)):=by unfold DE;rw[A8 (Abi hx)]
    exact .inr ⟨.go out,hgo,(Di (λν=>Ge ν) out).trans ((VI (by omega)).trans (congrArg some hf))⟩) F (0,l++[34]) ⟨Ab9 0,by show(0:Int)≤s.length;omega,by show l++[34]=l++[34]++Gx (s.take 0);simp[Gx]⟩ (by show s.length-0<F;omega)
 unfold KL;rw[Dt (by omega),Ha (by decide) (by decide),G8];have hb:[UInt8.ofNat (Int.toNat 34)]=([34]:Ae):=rfl;rw[hb,AU h1,h2]
theorem N7 {F:Nat}{l key:Ae}{x:List Ab}{first:Bool}{c:Ab}{k last:Option Ae}{tx:Ae}(hk:BH (decide (c.fKind=6)) last k=true)(hkey:∀s,k=some s→key=s∧s.length<F)
  (hlen:(l++(Dv first++Ia k++tx)).length≤140737488355328) (hw:∀l':Ae,(l'++tx).length≤140737488355328→GA F l' x=some (l'++tx)):EW (F+1) key x first l c=some (true,false,l++(Dv first++Ia k++tx)):=by
 rw[EW];unfold Lj;have hb:[UInt8.ofNat (Int.toNat 44)]=([44]:Ae):=rfl;have ha:[UInt8.ofNat (Int.toNat 58)]=([58]:Ae):=rfl;have hlen':=hlen;simp only[Abl] at hlen'
 cases first with
 | true=>
  rw[A8 (p:=!true) rfl]
  cases hm:decide (c.fKind=6) with
  | true=>
   rw[hm] at hk
   cases k with
   | none=>simp[BH] at hk
   | some s=>
    obtain⟨e1,e2⟩:=hkey s rfl;subst e1;simp only[Ia,Abl,Ab8] at hlen';have h1:(l++G0 key).length≤140737488355328:=by rw[Abl];omega
    have e:((l++G0 key)++[58])++tx=l++(Dv true++Ia (some key)++tx):=Aaz _ _ _ _;rw[← e] at hlen ⊢;rw[AK rfl,Mb e2 h1,AU rfl,Dt (by rw[Abl];omega),Ha (by decide) (by decide),G8,ha,hw _ hlen,AU rfl]
  | false=>
   rw[hm] at hk
   cases k with
   | some s=>simp[BH] at hk
   | none=>
    have e:l++tx=l++(Dv true++Ia none++tx):=Aa1 _ _;rw[← e] at hlen ⊢;rw[A8 rfl,hw _ hlen,AU rfl]
 | false=>
  simp only[Dv,Abh,Ab8] at hlen';rw[AK (p:=!false) rfl,Dt (by omega),Ha (by decide) (by decide),G8,hb]
  cases hm:decide (c.fKind=6) with
  | true=>
   rw[hm] at hk
   cases k with
   | none=>simp[BH] at hk
   | some s=>
    obtain⟨e1,e2⟩:=hkey s rfl;subst e1;simp only[Ia,Abl,Ab8] at hlen';have h1:((l++[44])++G0 key).length≤140737488355328:=by simp only[Abl,Ab8];omega
    have e:(((l++[44])++G0 key)++[58])++tx=l++(Dv false++Ia (some key)++tx):=Aay _ _ _ _ _;rw[← e] at hlen ⊢;rw[AK rfl,Mb e2 h1,AU rfl,Dt (by simp only[Abl,Ab8];omega),Ha (by decide) (by decide),G8,ha,hw _ hlen,AU rfl]
  | false=>
   rw[hm] at hk
   cases k with
   | some s=>simp[BH] at hk
   | none=>
    have e:(l++[44])++tx=l++(Dv false++Ia none++tx):=Aa0 _ _ _;rw[← e] at hlen ⊢;rw[A8 rfl,hw _ hlen,AU rfl]
section
variable {M : Nat}
theorem ND {F:Nat}{v:List Ab}{c:Ab}{at_ x:Int}{first:Bool}{l l2:Ae}{k last:Option Ae}{f1:Fo}{ys:List Ab}(hA:IY M v)(hF:M<F)(hpc:Am v 0=c)(hx:x<c.fN)(hx0:0≤x)(hcN:c.fN≤9223372036854775807)(h0:0≤at_)(hk:BH (decide (c.fKind=6)) last k=true)
  (hd:v.drop at_.toNat=B8 k++(f1.flat++ys)) (h1:f1.one=true) (hw:f1.wf false none=true) (hr:∀key,(∀s,k=some s→key=s)→EW F key f1.flat first l c=some (true,false,l2)) :
  DT F v c (EW F) at_ x first l=some (.next (at_+(B8 k).length+f1.flat.length,x+1,false,l2)):=by
 have hM:=hA.hM;have hvM:=hA.hv;have hd1:=CN h0 hd;have hkl:=LL hk;have hfl:=Rk h1;have hll:(v.drop (at_+(B8 k).length).toNat).length=f1.flat.length+ys.length:=by rw[hd1];simp
 rw[AbK] at hll;have hlook:Jw F (v.drop (at_+(B8 k).length).toNat)=some ((f1.flat.length:Int),f1.sh 0 NH,true):=R2 ((hA.drop _).lk hF) h1 hw hd1;have htake:List.take (Int.toNat (at_+(B8 k).length+(f1.flat.length:Int))-Int.toNat (at_+(B8 k).length)) (v.drop (at_+(B8 k).length).toNat)=f1.flat:=by
  rw[hd1,show Int.toNat (at_+(B8 k).length+(f1.flat.length:Int))-Int.toNat (at_+(B8 k).length)=f1.flat.length from by omega,List.take_left]
 have hmono:0≤at_+(B8 k).length+f1.flat.length:=by omega
 unfold DT;rw[hpc,AK (Abm hx)]
 cases hm:decide (c.fKind=6) with
 | true=>
  rw[hm] at hk hkl
  cases k with
  | none=>simp[BH] at hk
  | some s=>
   have e1:((B8 (some s)).length:Int)=1:=rfl;rw[e1] at hlook htake hll hmono ⊢;have hats:(Am v at_).fStr=s:=by
    have:v.drop at_.toNat=⟨4,0,s,0⟩::(f1.flat++ys):=by simpa[B8] using hd
    rw[D7 h0 this]
   have hin:at_<v.length:=by omega
   rw[AK rfl,Br h0 hin,AI (by omega) (by omega),C1 (by omega) (by omega),hlook,AU rfl,AI (by omega) (by omega),C1 (by omega) (by omega),C1 (by omega) (by omega),htake,hats,hr s (λs' h=>by cases h;rfl),AU rfl];rw[A8 (p:=!true) rfl,AI (by omega) (by omega)]
 | false=>
  rw[hm] at hk hkl
  cases k with
  | some s=>simp[BH] at hk
  | none=>
   have e1:((B8 none).length:Int)=0:=rfl;rw[e1,Int.add_zero] at hlook htake hll hmono ⊢;rw[A8 rfl,C1 (by omega) (by omega),hlook,AU rfl,AI (by omega) (by omega),C1 (by omega) (by omega),C1 (by omega) (by omega),htake,hr [] (λs' h=>by cases h),AU rfl];rw[A8 (p:=!true) rfl,AI (by omega) (by omega)]
end
section
variable {M : Nat}
theorem ET (l:Ae)(c:UInt8):(l++[c]).length=l.length+1:=by rw[Abl,Ab8]
theorem KK {F:Nat}{l p:Ae}{v:List Ab}{c:Ab}{rf:Ae→(List Ab)→Bool→Ae→Ab→Option (Bool×Bool×Ae)}{rp:(List Ab)→Bool→Ae→Ab→Option (Bool×Ae)}(hc:Am v 0=c)(hv:0<v.length)(hk:c.fKind=5∨c.fKind=6)(hlen:(l++Ox c p).length≤140737488355328)
  (hp:∀l':Ae,l'.length=l.length+1→∃b,rp v true l' c=some (b,l'++p)):Ka F rf rp l v=some (l++Ox c p):=by
 have hbl:=Jp c p;rw[Abl,hbl] at hlen;have i0:(0:Int)<(v.length:Int):=by omega
 unfold Ka;rw[Br (Ab9 0) i0,hc,A8 (Abi (by omega)),A8 (Abi (by omega)),A8 (Abi (by omega)),A8 (Abi (by omega))];have b1:[UInt8.ofNat (Int.toNat (Be ([123,125]:Ae) 0))]=([123]:Ae):=rfl;have b2:[UInt8.ofNat (Int.toNat (Be ([123,125]:Ae) 1))]=([125]:Ae):=rfl;have b3:[UInt8.ofNat (Int.toNat (Be ([91,93]:Ae) 0))]=([91]:Ae):=rfl;have b4:[UInt8.ofNat (Int.toNat (Be ([91,93]:Ae) 1))]=([93]:Ae):=rfl;have c1:Be ([123,125]:Ae) 0=123:=rfl;have c2:Be ([123,125]:Ae) 1=125:=rfl;have c3:Be ([91,93]:Ae) 0=91:=rfl;have c4:Be ([91,93]:Ae) 1=93:=rfl;have n2:(([123,125]:Ae).length:Int)=2:=rfl;have n3:(([91,93]:Ae).length:Int)=2:=rfl
 cases h6:decide (c.fKind=6) with
 | true=>
  obtain⟨b,hb⟩:=hp _ (ET l 123);rw[AK rfl,n2,Br (by decide) (by decide),Dt (by omega),b1,b2,c1,c2,Ha (by decide) (by decide),G8,hb,AU rfl,Br (by decide) (by decide)];have e:((l++[123])++p).length=l.length+1+p.length:=by rw[Abl,ET]
  rw[e,Dt (by omega),Ha (by decide) (by decide),G8];simp[Ox,h6]
 | false=>
  obtain⟨b,hb⟩:=hp _ (ET l 91);rw[A8 rfl,n3,Br (by decide) (by decide),Dt (by omega),b3,b4,c3,c4,Ha (by decide) (by decide),G8,hb,AU rfl,Br (by decide) (by decide)];have e:((l++[91])++p).length=l.length+1+p.length:=by rw[Abl,ET]
  rw[e,Dt (by omega),Ha (by decide) (by decide),G8];simp[Ox,h6]
theorem MH {F:Nat}{v:List Ab}{c:Ab}{at_ x:Int}{first:Bool}{l:Ae}{rf:Ae→(List Ab)→Bool→Ae→Ab→Option (Bool×Bool×Ae)}(hc:Am v 0=c)(hx : ¬ x<c.fN):DT F v c rf at_ x first l=some (.out (.go (first,l))):=by
 unfold DT;rw[hc,A8 (Abi hx)]
theorem MG {F:Nat}{l:Ae}{c:Ab}(hp:pl c=true)(hn:decide (0<c.fN)=false)(hs:c.fStr.length<F+2)(hi:B2 .i64 c.fInt=true)(hlen:(l++EI c).length≤140737488355328):GA (F+3) l [c]=some (l++EI c):=by
 rw[GA];have hat:Am [c] 0=c:=rfl;have i0:(0:Int)<(([c]:List Ab).length:Int):=by simp
 have hN : ¬ (0:Int)<c.fN:=by simpa using hn
 by_cases ha:c.fKind=5∨c.fKind=6
 ·have el:EI c=Ox c []:=by
   have k1:decide (c.fKind=1)=false:=Abi (by omega);have k2:decide (c.fKind=2)=false:=Abi (by omega);have k3:decide (c.fKind=3)=false:=Abi (by omega);have k4:decide (c.fKind=4)=false:=Abi (by omega);unfold EI Ox;rw[k1,k2,k3,k4];rfl
  rw[el] at hlen ⊢;refine KK hat (by simp) ha hlen (λl' hl'=>⟨true,?_⟩);rw[Hj];unfold I6;rw[Br (Ab9 0) i0,AU (De (o:=.go (true,l')) (MH hat hN)),Di,AbL];rfl
 ·unfold Ka EI;unfold EI at hlen;rw[Br (Ab9 0) i0,hat]
  cases k1:decide (c.fKind=1) with
  | true=>
   rw[k1] at hlen;simp only[Abj] at hlen;rw[AK rfl,Dt (by rw[Abl] at hlen;exact hlen),G8];rfl
  | false=>
  rw[k1] at hlen;simp only[Abh] at hlen;rw[A8 rfl]
  cases k2:decide (c.fKind=2) with
  | true=>
   rw[k2] at hlen;simp only[Abj] at hlen;rw[AK rfl];simp[pl,k1,k2] at hp;simp only[Abl] at hlen;rcases hp.1 with h0 | h1
   ·rw[h0] at hlen ⊢;have a:Am ([([102,97,108,115,101]:Ae),([116,114,117,101]:Ae)]:List Ae) 0=[102,97,108,115,101]:=rfl;have hlen2:l.length+([102,97,108,115,101]:Ae).length≤140737488355328:=hlen;rw[Br (by decide) (by decide),a,Dt hlen2,G8];rfl
   ·rw[h1] at hlen ⊢;have a:Am ([([102,97,108,115,101]:Ae),([116,114,117,101]:Ae)]:List Ae) 1=[116,114,117,101]:=rfl;have hlen2:l.length+([116,114,117,101]:Ae).length≤140737488355328:=hlen;rw[Br (by decide) (by decide),a,Dt hlen2,G8];rfl
  | false=>
  rw[k2] at hlen;simp only[Abh] at hlen;rw[A8 rfl]
  cases k3:decide (c.fKind=3) with
  | true=>
   rw[k3] at hlen;simp only[Abj,Abl] at hlen;rw[AK rfl,BS hi,Dt hlen,G8];rfl
  | false=>
  rw[k3] at hlen;simp only[Abh] at hlen;rw[A8 rfl]
  cases k4:decide (c.fKind=4) with
  | true=>
   rw[k4] at hlen;simp only[Abj] at hlen;rw[AK rfl,Mb hs hlen,AU rfl];rfl
  | false=>
   exfalso;simp only[Abc] at k1 k2 k3 k4;simp[pl,k1,k2,k3,k4,show ¬ c.fKind=5 by omega,show ¬ c.fKind=6 by omega] at hp
theorem IY.mem {v:List Ab}(hA:IY M v){p:Int}{a b:List Ab}(h:v.drop p.toNat=a++b):IY M a:=by
 have:=(hA.drop p.toNat).take a.length
 rwa [h,List.take_left] at this
theorem OD:∀(g:Fo) (v:List Ab) (c:Ab) (F L:Nat) (at_ x:Int) (first:Bool) (l:Ae) (m:Bool) (last:Option Ae) (ys:List Ab),IY M v→Am v 0=c→decide (c.fKind=6)=m→c.fN≤9223372036854775807→g.wf m last=true→v.drop at_.toNat=g.flat++ys→0≤at_→c.fN=x+g.cnt→0≤x→(l++g.txt first).length≤140737488355328→g.cnt<L→M+5+3*g.flat.length<F→
  ∃o b,Ca (λσ=>DT F v c (EW F) σ.1 σ.2.1 σ.2.2.1 σ.2.2.2) L (at_,x,first,l)=some o∧BT (λν=>HD ν.1 ν.2) o=some (b,l++g.txt first):=by
 intro g
 induction g with
 | nil=>
  intro v c F L at_ x first l m last ys hA hpc hm hcN hw hd h0 hN hx hlen hL hF
  obtain⟨L,rfl⟩:∃K,L=K+1:=⟨L-1,by omega⟩
  simp only[Fo.cnt] at hN;have hx' : ¬ x<c.fN:=by omega
  refine⟨.go (first,l),first,De (MH hpc hx'),?_⟩;rw[Di,Fo.txt,AbL];rfl
 | cell k cc r ih=>
  intro v c F L at_ x first l m last ys hA hpc hm hcN hw hd h0 hN hx hlen hL hF
  simp only[Fo.wf,Abk,Abz] at hw;obtain⟨⟨⟨w1,w2⟩,w3⟩,w4⟩:=hw;have hd2:v.drop at_.toNat=B8 k++((Fo.cell none cc .nil).flat++(r.flat++ys)):=by rw[hd];simp[Fo.flat,B8]
  have hd1:=CN h0 hd2;simp only[Fo.cnt] at hN hL;simp only[Fo.flat,Abl,Abf] at hF;obtain⟨L,rfl⟩:∃K,L=K+1:=⟨L-1,by omega⟩
  obtain⟨F,rfl⟩:∃K,F=K+4:=⟨F-4,by omega⟩
  have hAe:=hA.mem hd1;have hcM:=hAe.hc cc (by simp[Fo.flat,B8]);have e:l++(Fo.cell k cc r).txt first=(l++(Dv first++Ia k++EI cc))++r.txt false:=by simp[Fo.txt]
  rw[e] at hlen ⊢;have hl2:(l++(Dv first++Ia k++EI cc)).length≤140737488355328:=by rw[Abl] at hlen;omega
  have hb:=ND (F:=F+4) (last:=last) hA (by omega) hpc (by omega) hx hcN h0 (by rw[hm];exact w1) hd2 rfl (P5 w2 w3) (first:=first) (l:=l) (λkey hkey=>
   N7 (last:=last) (by rw[hm];exact w1) (λs hs=>⟨hkey s hs,by
    have hM:=hA.hM;subst hs;have:=(hA.hc ⟨4,0,s,0⟩ (List.mem_of_mem_drop (by rw[hd2];simp[B8]))).1;simp only at this;omega⟩) hl2 (λl' hl'=>MG (F:=F) w2 w3 (by omega) hcM.2.1 hl'))
  obtain⟨o,b,ho1,ho2⟩:=ih v c (F+4) L (at_+(B8 k).length+((Fo.cell none cc .nil).flat.length:Int)) (x+1) false (l++(Dv first++Ia k++EI cc)) m k ys hA hpc hm hcN w4 (CN (by omega) hd1) (by omega) (by omega) (by omega) hlen (by omega) (by omega);exact⟨o,b,G7 hb ho1,ho2⟩
 | node k cc kids r ihk ih=>
  intro v c F L at_ x first l m last ys hA hpc hm hcN hw hd h0 hN hx hlen hL hF
  simp only[Fo.wf,Abk,Abd] at hw;obtain⟨⟨⟨⟨⟨w1,w2⟩,w3⟩,w5⟩,w6⟩,w4⟩:=hw;have hd2:v.drop at_.toNat=B8 k++((Fo.node none cc kids .nil).flat++(r.flat++ys)):=by rw[hd];simp[Fo.flat,B8]
  have hd1:=CN h0 hd2;simp only[Fo.cnt] at hN hL;simp only[Fo.flat,Abl,Abf] at hF;obtain⟨L,rfl⟩:∃K,L=K+1:=⟨L-1,by omega⟩
  obtain⟨F,rfl⟩:∃K,F=K+3:=⟨F-3,by omega⟩
  have hAe:=hA.mem hd1;have hfl:(Fo.node none cc kids .nil).flat=cc::kids.flat:=by simp[Fo.flat,B8]
  have hcM:=hAe.hc cc (by rw[hfl];simp);have hcf:=C0 kids;have e:l++(Fo.node k cc kids r).txt first=(l++(Dv first++Ia k++Ox cc (kids.txt true)))++r.txt false:=by simp[Fo.txt]
  rw[e] at hlen ⊢;have hl2:(l++(Dv first++Ia k++Ox cc (kids.txt true))).length≤140737488355328:=by rw[Abl] at hlen;omega
  have hb:=ND (F:=F+3) (last:=last) hA (by omega) hpc (by omega) hx hcN h0 (by rw[hm];exact w1) hd2 rfl (P4 w2 w3 w5 w6) (first:=first) (l:=l) (λkey hkey=>
   N7 (last:=last) (by rw[hm];exact w1) (λs hs=>⟨hkey s hs,by
    have hM:=hA.hM;subst hs;have:=(hA.hc ⟨4,0,s,0⟩ (List.mem_of_mem_drop (by rw[hd2];simp[B8]))).1;simp only at this;omega⟩) hl2 (λl' hl'=>by
     rw[GA];have hat:Am (Fo.node none cc kids .nil).flat 0=cc:=by rw[hfl];rfl
     have hlen0:0<(Fo.node none cc kids .nil).flat.length:=by rw[hfl];simp
     have hbl:=Jp cc (kids.txt true);rw[Abl,hbl] at hl';have hb:∀l2:Ae,l2.length=l'.length+1→∃b,Hj (F+1) (Fo.node none cc kids .nil).flat true l2 cc=some (b,l2++kids.txt true):=λl2 hl2'=>by
       rw[Hj];unfold I6;have i0:(0:Int)<((Fo.node none cc kids .nil).flat.length:Int):=by omega
       obtain⟨o,b,ho1,ho2⟩:=ihk (Fo.node none cc kids .nil).flat cc F F 1 0 true l2 _ none [] hAe hat rfl hcM.2.2 w6 (by rw[hfl];simp) (by decide) (by omega) (Ab9 0) (by rw[Abl];omega) (by omega) (by omega);exact⟨b,by rw[Br (Ab9 0) i0,AU ho1,ho2]⟩
     exact KK hat hlen0 (Ji w2 w3).1 (by rw[Abl,hbl];exact hl') hb))
  obtain⟨o,b,ho1,ho2⟩:=ih v c (F+3) L (at_+(B8 k).length+((Fo.node none cc kids .nil).flat.length:Int)) (x+1) false (l++(Dv first++Ia k++Ox cc (kids.txt true))) m k ys hA hpc hm hcN w4 (CN (by omega) hd1) (by omega) (by omega) (by omega) hlen (by omega) (by omega);exact⟨o,b,G7 hb ho1,ho2⟩
theorem Uh {f:Fo}{F:Nat}{l:Ae}(hA:IY M f.flat)(h1:f.one=true)(hw:f.wf false none=true)(hF:M+8+3*f.flat.length<F)(hlen:(l++f.txt true).length≤140737488355328):GA F l f.flat=some (l++f.txt true):=by
 have hM:=hA.hM;have hvM:=hA.hv
 cases f with
 | nil=>cases h1
 | cell k c r=>
  cases k with
  | some s=>cases h1
  | none=>
   cases r with
   | nil=>
    simp only[Fo.wf,Abk,Abz] at hw;have hfl:(Fo.cell none c .nil).flat=[c]:=by simp[Fo.flat,B8]
    have hcM:=hA.hc c (by rw[hfl];simp);have et:(Fo.cell none c .nil).txt true=EI c:=by simp[Fo.txt,Dv,Ia]
    rw[et] at hlen ⊢;obtain⟨F,rfl⟩:∃K,F=K+3:=⟨F-3,by omega⟩
    rw[hfl];exact MG hw.1.1.2 hw.1.2 (by omega) hcM.2.1 hlen
   | cell _ _ _=>cases h1
   | node _ _ _ _=>cases h1
 | node k c kids r=>
  cases k with
  | some s=>cases h1
  | none=>
   cases r with
   | nil=>
    simp only[Fo.wf,Abk,Abd] at hw;obtain⟨⟨⟨⟨⟨w1,w2⟩,w3⟩,w5⟩,w6⟩,w4⟩:=hw;have hfl:(Fo.node none c kids .nil).flat=c::kids.flat:=by simp[Fo.flat,B8]
    have hcM:=hA.hc c (by rw[hfl];simp);have et:(Fo.node none c kids .nil).txt true=Ox c (kids.txt true):=by simp[Fo.txt,Dv,Ia]
    rw[et] at hlen ⊢;have hcf:=C0 kids;have hat:Am (Fo.node none c kids .nil).flat 0=c:=by rw[hfl];rfl
    have hlen0:0<(Fo.node none c kids .nil).flat.length:=by rw[hfl];simp
    have hl1:(Fo.node none c kids .nil).flat.length=kids.flat.length+1:=by rw[hfl];simp
    have hbl:=Jp c (kids.txt true);obtain⟨F,rfl⟩:∃K,F=K+2:=⟨F-2,by omega⟩
    rw[GA];refine KK hat hlen0 (Ji w2 w3).1 hlen (λl2 hl2=>?_);rw[Abl,hbl] at hlen;rw[Hj];unfold I6;have i0:(0:Int)<((Fo.node none c kids .nil).flat.length:Int):=by omega
    obtain⟨o,b,ho1,ho2⟩:=OD kids (Fo.node none c kids .nil).flat c F F 1 0 true l2 _ none [] hA hat rfl hcM.2.2 w6 (by rw[hfl];simp) (by decide) (by omega) (Ab9 0) (by rw[Abl];omega) (by omega) (by omega);exact⟨b,by rw[Br (Ab9 0) i0,AU ho1,ho2]⟩
   | cell _ _ _=>cases h1
   | node _ _ _ _=>cases h1
def Nf (v:List Ab):Ae×Int:=match whole v with
 | none=>([],1)
 | some f=>bif decide (Gq f=0) then(f.txt true,0) else([],Gq f)
theorem Y4 (n:Int):Lib.itoa n≠[]:=by
 unfold Lib.itoa
 split
 ·simp
 ·intro h;have:=congrArg List.length h;rw[Lib.decDigits_length] at this;have:=Lib.nDigits_pos n.toNat;simp at *;omega
theorem Yb {f:Fo}(hw:f.wf false none=true)(h1:f.one=true):0<(f.txt true).length:=by
 have e:=Ib f false none true hw
 cases f with
 | nil=>cases h1
 | cell k c r=>
  have h2:=Ip hw;simp only[Fo.txt,Abl];simp only[Fo.wf,Abk] at hw;have hp:=hw.1.1.2;have:0<(EI c).length:=by
   have hl:=Pm hp;have:0<Vz c:=by
    unfold Vz
    cases h1:decide (c.fKind=1) with
    | true=>simp
    | false=>
     cases h2:decide (c.fKind=2) with
     | true=>
      simp[pl,h1,h2] at hp;simp only[Abh,Abj];omega
     | false=>
      cases h3:decide (c.fKind=3) with
      | true=>
       simp only[Abh,Abj];have:Lib.itoa c.fInt≠[]:=Y4 _;have:=List.length_pos_iff.2 this;omega
      | false=>
       cases h4:decide (c.fKind=4) with
       | true=>have:=L5 c.fStr;simp only[Abh,Abj];omega
       | false=>simp
   omega
  omega
 | node k c kids r=>
  have:=Jp c (kids.txt true);simp only[Fo.txt,Abl];omega
theorem Sj {v:List Ab}(hA:IY M v)(hM:M≤1000000){F:Nat}(hF:4*M+8<F):Ln F v=some (Nf v):=by
 have hvM:=hA.hv;unfold Ln Nf;rw[Mc hA hM (by omega),AU rfl];unfold Hv
 cases hwh:whole v with
 | none=>rfl
 | some f=>
  change Bl (!decide (Gq f=0)) _ _=some (bif decide (Gq f=0) then(f.txt true,0) else([],Gq f))
  cases he:decide (Gq f=0) with
  | false=>rw[AK (p:=!false) rfl];rfl
  | true=>
   obtain⟨h1,h2,h3⟩:=KJ hwh;have hl:v.length=f.flat.length:=by rw[h1]
   have hc:∀c∈f.flat,c.fStr.length≤M∧B2 .i64 c.fInt=true∧c.fN≤9223372036854775807:=λc hc=>hA.hc c (by rw[h1];exact hc);have hb:=K3 hM h2 (by omega) hc;have htl:((f.txt true).length:Int)=f.byt:=by rw[Ib f false none true h2,L7 h3];simp
   have hA':IY M f.flat:=by rw[← h1];exact hA
   have hw:=Uh (F:=F) (l:=[]) hA' h3 h2 (by omega) (by rw[AbU];omega);rw[A8 (p:=!true) rfl,h1,hw,AU rfl,AbU,BS (Abm (Yb h2 h3))];rfl
end
def pre:Ae→Ae→Option Ae
 | [],s=>some s
 | c::w,d::s=>bif decide (c=d) then pre w s else none
 | _::_,[]=>none
def CM (strict:Bool):Ae→Option (Ae×Ae)
 | []=>none
 | c::r=>
  bif decide (c=34) then some ([],r) else
  bif strict&&!KD c then none else
  bif decide (c=92) then(match r with
   | []=>none
   | d::r'=>bif decide (d=34)||decide (d=92) then(match CM strict r' with
    | none=>none
    | some (t,u)=>some (d::t,u)) else none)
  else(match CM strict r with
   | none=>none
   | some (t,u)=>some (c::t,u))
def CI (c:UInt8):Bool:=decide (48≤c.toNat)&&decide (c.toNat≤57)
def BX:Ae→Ae×Ae
 | []=>([],[])
 | c::r=>bif CI c then(c::(BX r).1,(BX r).2) else([],c::r)
def HM (d:Ae):Int:=d.foldl (λn c=>10*n+((c.toNat:Int)-48)) 0
def K7 (neg:Bool)(d:Ae):Int:=
 bif decide (18<d.length) then(bif neg then -2000000000000 else 2000000000000) else bif neg then -(HM d) else HM d
def Ed (neg:Bool)(d:Ae):Bool:=!decide (d=[])&&!(decide (d.head? =some 48)&&(decide (1<d.length)||neg))
def IP (s:Ae):Option (Fo×Ae):=
 let neg:=decide (s.head? =some 45)
 let r:=bif neg then s.tail else s
 bif Ed neg (BX r).1 then some (.cell none ⟨3,K7 neg (BX r).1,[],0⟩ .nil,(BX r).2) else none
def lf (k i:Int)(t:Ae):Fo:=.cell none ⟨k,i,t,0⟩ .nil
def nd (m:Bool)(g:Fo):Fo:=bif decide (g.cnt=0) then .cell none ⟨bif m then 6 else 5,0,[],0⟩ .nil else .node none ⟨bif m then 6 else 5,0,[],(g.cnt:Int)⟩ g .nil
def Bu (m:Bool):UInt8:=bif m then 125 else 93
def DL (strict m:Bool)(last:Option Ae)(s:Ae):Option (Option Ae×Ae):=
 bif m then(match s with
  | []=>none
  | c::r=>bif decide (c=34) then(match CM strict r with
   | none=>none
   | some (k,u)=>bif strict&&!BH true last (some k) then none else(match u with
    | []=>none
    | d::u'=>bif decide (d=58) then some (some k,u') else none)) else none)
 else some (none,s)
mutual
def GY (strict:Bool):Nat→Ae→Option (Fo×Ae)
 | 0,_=>none
 | F+1,s=>
  match pre [110,117,108,108] s with
  | some r=>some (lf 1 0 [],r)
  | none=>match pre [116,114,117,101] s with
   | some r=>some (lf 2 1 [],r)
   | none=>match pre [102,97,108,115,101] s with
    | some r=>some (lf 2 0 [],r)
    | none=>match s with
     | []=>none
     | c::r=>
      bif decide (c=34) then(match CM strict r with
       | none=>none
       | some (t,u)=>some (lf 4 0 t,u)) else
      bif decide (c=91)||decide (c=123) then(match r with
       | []=>none
       | d::r'=>bif decide (d=Bu (decide (c=123))) then some (nd (decide (c=123)) .nil,r') else(match DA strict F (decide (c=123)) none (d::r') with
        | none=>none
        | some (g,u)=>some (nd (decide (c=123)) g,u))) else
      IP (c::r)
def DA (strict:Bool):Nat→Bool→Option Ae→Ae→Option (Fo×Ae)
 | 0,_,_,_=>none
 | F+1,m,last,s=>
  match DL strict m last s with
  | none=>none
  | some (key,s1)=>match GY strict F s1 with
   | none=>none
   | some (f,s2)=>match s2 with
    | []=>none
    | c::s3=>
     bif decide (c=Bu m) then some (f.put key .nil,s3) else
     bif decide (c=44) then(match DA strict F m key s3 with
      | none=>none
      | some (g,u)=>some (f.put key g,u)) else none
end
theorem EP (strict:Bool)(F:Nat)(s:Ae):GY strict (F+1) s =
  match pre [110,117,108,108] s with
  | some r=>some (lf 1 0 [],r)
  | none=>match pre [116,114,117,101] s with
   | some r=>some (lf 2 1 [],r)
   | none=>match pre [102,97,108,115,101] s with
    | some r=>some (lf 2 0 [],r)
    | none=>match s with
     | []=>none
     | c::r=>
      bif decide (c=34) then(match CM strict r with
       | none=>none
       | some (t,u)=>some (lf 4 0 t,u)) else
      bif decide (c=91)||decide (c=123) then(match r with
       | []=>none
       | d::r'=>bif decide (d=Bu (decide (c=123))) then some (nd (decide (c=123)) .nil,r') else(match DA strict F (decide (c=123)) none (d::r') with
        | none=>none
        | some (g,u)=>some (nd (decide (c=123)) g,u))) else
      IP (c::r):=by
 rw[GY.eq_def]
theorem Dy (strict:Bool)(F:Nat)(m:Bool)(last:Option Ae)(s:Ae):DA strict (F+1) m last s =
  match DL strict m last s with
  | none=>none
  | some (key,s1)=>match GY strict F s1 with
   | none=>none
   | some (f,s2)=>match s2 with
    | []=>none
    | c::s3=>
     bif decide (c=Bu m) then some (f.put key .nil,s3) else
     bif decide (c=44) then(match DA strict F m key s3 with
      | none=>none
      | some (g,u)=>some (f.put key g,u)) else none:=by
 rw[DA.eq_def]
theorem Dh:∀{w s r:Ae},pre w s=some r→s=w++r
 | [],s,r,h=>by cases h;rfl
 | c::w,[],r,h=>by cases h
 | c::w,d::s,r,h=>by
  rw[pre] at h
  cases hc:decide (c=d) with
  | false=>rw[hc] at h;cases h
  | true=>
   rw[hc] at h;simp only[Abd] at hc;rw[hc,Dh h];rfl
theorem EC (b:Bool)(c:UInt8)(r:Ae):CM b (c::r) =
  bif decide (c=34) then some ([],r) else
  bif b&&!KD c then none else
  bif decide (c=92) then(match r with
   | []=>none
   | d::r'=>bif decide (d=34)||decide (d=92) then(match CM b r' with
    | none=>none
    | some (t,u)=>some (d::t,u)) else none)
  else(match CM b r with
   | none=>none
   | some (t,u)=>some (c::t,u)):=by
 rw[CM.eq_def]
 cases r<;>rfl
theorem IE (b:Bool):∀(n:Nat) (s t u:Ae),s.length=n→CM b s=some (t,u)→u.length<s.length:=by
 intro n
 induction n using Nat.strongRecOn with
 | ind n ih=>
  intro s t u hn h
  cases s with
  | nil=>cases h
  | cons c r=>
   simp only[Abf] at hn ⊢;rw[EC] at h
   cases h1:decide (c=34) with
   | true=>rw[h1] at h;cases h;omega
   | false=>
    rw[h1] at h;simp only[Abh] at h
    cases h2:(b&&!KD c) with
    | true=>rw[h2] at h;cases h
    | false=>
     rw[h2] at h;simp only[Abh] at h
     cases h3:decide (c=92) with
     | true=>
      rw[h3] at h
      cases r with
      | nil=>cases h
      | cons d r'=>
       simp only[Abj] at h
       cases h4:(decide (d=34)||decide (d=92)) with
       | false=>rw[h4] at h;cases h
       | true=>
        rw[h4] at h;simp only[Abj] at h
        cases h5:CM b r' with
        | none=>rw[h5] at h;cases h
        | some q=>
         obtain⟨t',u'⟩:=q;rw[h5] at h;cases h;simp only[Abf] at hn ⊢;have:=ih r'.length (by omega) r' t' u rfl h5;omega
     | false=>
      rw[h3] at h;simp only[Abh] at h
      cases h5:CM b r with
      | none=>rw[h5] at h;cases h
      | some q=>
       obtain⟨t',u'⟩:=q;rw[h5] at h;cases h;have:=ih r.length (by omega) r t' u rfl h5;omega
theorem In:∀s:Ae,s=(BX s).1++(BX s).2
 | []=>rfl
 | c::r=>by
  have:=In r;rw[BX]
  cases CI c with
  | true=>simp only[Abj,AbY];rw[← this]
  | false=>rfl
theorem Om {s u:Ae}{f:Fo}(h:IP s=some (f,u)):u.length<s.length:=by
 unfold IP at h;simp only at h
 cases hc:Ed (decide (s.head? =some 45)) (BX (bif decide (s.head? =some 45) then s.tail else s)).1 with
 | false=>rw[hc] at h;cases h
 | true=>
  rw[hc] at h;simp only[Abj,Option.some.injEq,Prod.mk.injEq] at h;obtain⟨_,h⟩:=h;have e:=congrArg List.length (In (bif decide (s.head? =some 45) then s.tail else s));rw[Abl,h] at e;have h1:0<(BX (bif decide (s.head? =some 45) then s.tail else s)).1.length:=by
   unfold Ed at hc;simp only[Abk,Abz,Abc] at hc;exact List.length_pos_iff.2 hc.1
  have h2:(bif decide (s.head? =some 45) then s.tail else s).length≤s.length:=by
   cases decide (s.head? =some 45)<;>simp
  omega
theorem R8 {b m:Bool}{last key:Option Ae}{s u:Ae}(h:DL b m last s=some (key,u)):u.length≤s.length:=by
 unfold DL at h
 cases m with
 | false=>cases h;exact AbA _
 | true=>
  simp only[Abj] at h
  cases s with
  | nil=>cases h
  | cons c r=>
   simp only at h
   cases h1:decide (c=34) with
   | false=>rw[h1] at h;cases h
   | true=>
    rw[h1] at h;simp only[Abj] at h
    cases h2:CM b r with
    | none=>rw[h2] at h;cases h
    | some q=>
     obtain⟨k,w⟩:=q;have:=IE b _ r k w rfl h2;rw[h2] at h;simp only at h
     cases h3:(b&&!BH true last (some k)) with
     | true=>rw[h3] at h;cases h
     | false=>
      rw[h3] at h;simp only[Abh] at h
      cases w with
      | nil=>cases h
      | cons d w'=>
       simp only at h
       cases h4:decide (d=58) with
       | false=>rw[h4] at h;cases h
       | true=>rw[h4] at h;cases h;simp only[Abf] at this ⊢;omega
theorem Wy (m:Bool)(g:Fo):(nd m g).one=true:=by
 unfold nd
 cases decide (g.cnt=0)<;>rfl
theorem WU {s u:Ae}{f:Fo}(h:IP s=some (f,u)):f.one=true:=by
 unfold IP at h;simp only at h
 cases hc:Ed (decide (s.head? =some 45)) (BX (bif decide (s.head? =some 45) then s.tail else s)).1 with
 | false=>rw[hc] at h;cases h
 | true=>rw[hc] at h;cases h;rfl
theorem DW (b:Bool):∀F:Nat,(∀s f u,GY b F s=some (f,u)→u.length<s.length∧f.one=true)∧(∀m last s g u,DA b F m last s=some (g,u)→u.length<s.length∧1≤g.cnt)
 | 0=>⟨(λs f u h=>by rw[GY.eq_def] at h;cases h),(λm last s g u h=>by rw[DA.eq_def] at h;cases h)⟩
 | F+1=>by
  obtain⟨ih1,ih2⟩:=DW b F;constructor
  ·intro s f u h;rw[EP] at h
   cases h1:pre [110,117,108,108] s with
   | some r=>rw[h1] at h;cases h;rw[Dh h1];exact⟨by simp;omega,rfl⟩
   | none=>
   rw[h1] at h;simp only at h
   cases h2:pre [116,114,117,101] s with
   | some r=>rw[h2] at h;cases h;rw[Dh h2];exact⟨by simp;omega,rfl⟩
   | none=>
   rw[h2] at h;simp only at h
   cases h3:pre [102,97,108,115,101] s with
   | some r=>rw[h3] at h;cases h;rw[Dh h3];exact⟨by simp;omega,rfl⟩
   | none=>
   rw[h3] at h;simp only at h
   cases s with
   | nil=>cases h
   | cons c r=>
   simp only at h
   cases h4:decide (c=34) with
   | true=>
    rw[h4] at h;simp only[Abj] at h
    cases h5:CM b r with
    | none=>rw[h5] at h;cases h
    | some q=>
     obtain⟨t,w⟩:=q;rw[h5] at h;cases h;have:=IE b _ r t u rfl h5;exact⟨by simp only[Abf];omega,rfl⟩
   | false=>
   rw[h4] at h;simp only[Abh] at h
   cases h5:(decide (c=91)||decide (c=123)) with
   | false=>rw[h5] at h;simp only[Abh] at h;exact⟨Om h,WU h⟩
   | true=>
   rw[h5] at h;simp only[Abj] at h
   cases r with
   | nil=>cases h
   | cons d r'=>
   simp only at h
   cases h6:decide (d=Bu (decide (c=123))) with
   | true=>rw[h6] at h;cases h;exact⟨by simp only[Abf];omega,Wy _ _⟩
   | false=>
   rw[h6] at h;simp only[Abh] at h
   cases h7:DA b F (decide (c=123)) none (d::r') with
   | none=>rw[h7] at h;cases h
   | some q=>
    obtain⟨g,w⟩:=q;rw[h7] at h;cases h;have:=(ih2 _ _ _ _ _ h7).1;exact⟨by simp only[Abf] at this ⊢;omega,Wy _ _⟩
  ·intro m last s g u h;rw[Dy] at h
   cases h1:DL b m last s with
   | none=>rw[h1] at h;cases h
   | some q=>
   obtain⟨key,s1⟩:=q;have l1:=R8 h1;rw[h1] at h;simp only at h
   cases h2:GY b F s1 with
   | none=>rw[h2] at h;cases h
   | some q=>
   obtain⟨f,s2⟩:=q;obtain⟨l2,o2⟩:=ih1 _ _ _ h2;rw[h2] at h;simp only at h
   cases s2 with
   | nil=>cases h
   | cons c s3=>
   simp only[Abf] at l2;have hput:∀r:Fo,1≤(f.put key r).cnt:=λr=>by
    cases f with
    | nil=>cases o2
    | cell _ _ _=>simp[Fo.put,Fo.cnt]
    | node _ _ _ _=>simp[Fo.put,Fo.cnt]
   simp only at h
   cases h3:decide (c=Bu m) with
   | true=>rw[h3] at h;cases h;exact⟨by omega,hput _⟩
   | false=>
   rw[h3] at h;simp only[Abh] at h
   cases h4:decide (c=44) with
   | false=>rw[h4] at h;cases h
   | true=>
   rw[h4] at h;simp only[Abj] at h
   cases h5:DA b F m key s3 with
   | none=>rw[h5] at h;cases h
   | some q=>
    obtain⟨g',w⟩:=q;rw[h5] at h;cases h;have:=(ih2 _ _ _ _ _ h5).1;exact⟨by omega,hput _⟩
def Do (acc:Nat)(d:Ae):Nat:=d.foldl (λn c=>10*n+(c.toNat-48)) acc
theorem Kk:∀(d:Ae) (a:Nat),a≤Do a d
 | [],a=>AbA _
 | c::d,a=>by
  have:=Kk d (10*a+(c.toNat-48));show a≤Do (10*a+(c.toNat-48)) d;omega
theorem W0:∀(d:Ae) (a:Nat),1≤a→10 ^ d.length≤Do a d
 | [],a,h=>by simpa[Do] using h
 | c::d,a,h=>by
  have hm:∀(d:Ae) (a b:Nat),a≤b→Do a d≤Do b d:=by
   intro d
   induction d with
   | nil=>intro a b h;exact h
   | cons c d ih=>intro a b h;show Do (10*a+(c.toNat-48)) d≤Do (10*b+(c.toNat-48)) d;exact ih _ _ (by omega)
  have hs:∀(d:Ae) (a:Nat),10 ^ d.length*a≤Do a d:=by
   intro d
   induction d with
   | nil=>intro a;simp[Do]
   | cons c d ih=>
    intro a;have:=ih (10*a+(c.toNat-48));show 10 ^ (d.length+1)*a≤Do (10*a+(c.toNat-48)) d;refine Nat.le_trans ?_ this;rw[Nat.pow_succ,Nat.mul_assoc];exact Nat.mul_le_mul_left _ (by omega)
  exact Nat.le_trans (Nat.le_mul_of_pos_right _ h) (hs (c::d) a)
theorem JI:∀(d:Ae) (a:Nat),d.all CI=true→d.foldl (λn c=>10*n+((c.toNat:Int)-48)) (a:Int)=(Do a d:Int)
 | [],a,_=>rfl
 | c::d,a,h=>by
  simp only[AbS,Abk] at h;have hc:48≤c.toNat:=by have:=h.1;simp[CI] at this;omega
  have:=JI d (10*a+(c.toNat-48)) h.2;show d.foldl _ (10*(a:Int)+((c.toNat:Int)-48))=(Do (10*a+(c.toNat-48)) d:Int);rw[← this]
  congr 1
  omega
theorem Wm:∀(d:Ae) (a:Nat),d.all CI=true→Lib.parseUint10 a d = .ok (Do a d)∨(Lib.parseUint10 a d = .range∧1000000000000<Do a d)
 | [],a,_=>.inl rfl
 | c::d,a,h=>by
  simp only[AbS,Abk] at h;have hc:48≤c.toNat∧c.toNat≤57:=by have:=h.1;simp[CI] at this;omega
  have hm:=Kk d (10*a+(c.toNat-48));have e:Do a (c::d)=Do (10*a+(c.toNat-48)) d:=rfl;rw[e];unfold Lib.parseUint10;rw[AbB hc]
  split
  ·exact .inr ⟨rfl,by omega⟩
  ·split
   ·exact .inr ⟨rfl,by omega⟩
   ·rw[show a*10+(c.toNat-48)=10*a+(c.toNat-48) from by omega];exact Wm d _ h.2
theorem Pz:∀(d:Ae) (i:Nat),BD DK i d=d.all CI
 | [],_=>rfl
 | c::d,i=>by
  rw[BD,AbS,Pz d]
  congr 1
  simp only[DK,CI];rw[Abu];simp only[Abz,Ab1,Abc,Abk,Abd];omega
def IB (neg:Bool)(d:Ae):Ae:=bif neg then 45::d else d
theorem WY {d:Ae}(hd:d.all CI=true) : ¬ d.head? =some 45:=by
 cases d with
 | nil=>simp
 | cons c d=>
  simp only[AbS,Abk] at hd;have:=hd.1;intro e;simp only[List.head?_cons,Option.some.injEq] at e;subst e;simp[CI] at this
theorem Ut (s:Ae):Hk s=decide (s.head? =some 45):=by
 cases s with
 | nil=>rfl
 | cons c r=>
  have:Be (c::r) 0=c.toNat:=Du rfl;unfold Hk;rw[this,Abu];simp only[Abk,Abd,List.head?_cons,Option.some.injEq,← AbX,Abf];show _∧(c.toNat:Int)=45↔c.toNat=45;omega
theorem Xt {neg:Bool}{d:Ae}(hd:d.all CI=true):Ei (IB neg d)=d:=by
 unfold Ei;rw[Ut]
 cases neg with
 | true=>rfl
 | false=>
  have:=WY hd;show(if decide (d.head? =some 45)=true then d.drop 1 else d)=d;rw[Ab6 (by simpa using this)]
theorem Xx {neg:Bool}{d:Ae}(hd:d.all CI=true):G3 (IB neg d)=Ed neg d:=by
 unfold G3 Ed;rw[Xt hd,Pz,hd,Abx]
 cases d with
 | nil=>simp
 | cons c r=>
  have hb:Be (c::r) 0=c.toNat:=Du rfl;have h1:decide (c::r=([]:Ae))=false:=by simp
  have h2:decide (Be (c::r) 0=48)=decide ((c::r).head? =some 48):=by
   rw[hb,Abu];simp only[Abd,List.head?_cons,Option.some.injEq,← AbX];show(c.toNat:Int)=48↔c.toNat=48;omega
  rw[h1,h2,Abt,Aby,Abp]
  cases ha:decide ((c::r).head? =some 48) with
  | false=>rfl
  | true=>
   simp only[Abd,List.head?_cons,Option.some.injEq] at ha;subst ha
   cases neg with
   | true=>simp[IB]
   | false=>
    cases r with
    | nil=>simp[IB]
    | cons a r=>simp[IB]
theorem X6 {neg:Bool}{d:Ae}(hd:d.all CI=true)(hne:d≠[]):Lib.atoiAll (IB neg d)=(bif neg then Lib.signed (Lib.parseUint10 0 d) else Lib.signless (Lib.parseUint10 0 d)):=by
 cases neg with
 | true=>
  simp only[IB,Abj];rw[Lib.atoiAll_minus,Lib.parseMag,Ab6 hne]
 | false=>
  cases d with
  | nil=>exact absurd rfl hne
  | cons c r=>
   have hc:=hd;simp only[AbS,Abk] at hc;have ha:48≤c.toNat:=by have:=hc.1;simp[CI] at this;omega
   simp only[IB,Abh];rw[Lib.atoiAll_plain c r (by omega) (by omega),Lib.parseMag,Ab6 hne]
theorem UE {neg:Bool}{d:Ae}(hd:d.all CI=true):(Ed neg d=false∧BR (IB neg d)=1)∨(Ed neg d=true∧Co ⟨3,K7 neg d,[],0⟩=false∧BR (IB neg d)=0∧B7 (IB neg d)=K7 neg d)∨(Ed neg d=true∧Co ⟨3,K7 neg d,[],0⟩=true∧BR (IB neg d)=2∧B7 (IB neg d)=0):=by
 unfold BR B7;rw[Xx hd]
 cases hc:Ed neg d with
 | false=>exact .inl ⟨rfl,rfl⟩
 | true=>
  right
  have hc':=hc;unfold Ed at hc';simp only[Abk,Abz,Abc] at hc';have hne:=hc'.1;rw[AbB rfl,AbB rfl,X6 hd hne];have hnum:HM d=(Do 0 d:Int):=JI d 0 hd;have hbig:18<d.length→1000000000000<Do 0 d:=λhl=>by
   cases d with
   | nil=>simp at hl
   | cons c r=>
    have hc1:=hd;simp only[AbS,Abk] at hc1;have he:48≤c.toNat:=by have:=hc1.1;simp[CI] at this;omega
    have hne48 : ¬ c=48:=by
     intro e;have:=hc'.2;subst e;simp only[Abf] at hl;have h1r:1<r.length+1:=by omega
     simp[h1r] at this
    have hf:49≤c.toNat:=by
     have : ¬ c.toNat=48:=λe=>hne48 (UInt8.toNat_inj.1 (by rw[e];rfl));omega
    have:=W0 r (10*0+(c.toNat-48)) (by omega);have ha:10 ^ 18≤10 ^ r.length:=Nat.pow_le_pow_right (by decide) (by simp at hl;omega);have e:Do 0 (c::r)=Do (10*0+(c.toNat-48)) r:=rfl;rw[e];have:(1000000000000:Nat)<10 ^ 18:=by decide
    omega
  have hout:Co ⟨3,K7 neg d,[],0⟩=decide (1000000000000<Do 0 d):=by
   unfold Co K7;rw[hnum]
   cases ha:decide (18<d.length) with
   | true=>
    simp only[Abd] at ha;rw[Abm (hbig ha)]
    cases neg<;>rfl
   | false=>
    rw[Abu]
    cases neg<;>simp<;>omega
  rw[hout];rcases Wm d 0 hd with hu | ⟨hu,hg⟩
  ·rw[hu]
   cases hg:decide (1000000000000<Do 0 d) with
   | false=>
    simp only[Abc] at hg;have ha:decide (18<d.length)=false:=by
     rw[Abc];intro h;have:=hbig h;omega
    refine .inl ⟨rfl,rfl,?_,?_⟩
    ·cases neg with
     | true=>simp only[Abj,Lib.signed];rw[Ab6 (by omega)];simp only;rw[AbB (by unfold DS;simp;omega)]
     | false=>simp only[Abh,Lib.signless];rw[Ab6 (by omega)];simp only;rw[AbB (by unfold DS;simp;omega)]
    ·unfold K7;rw[ha,hnum]
     cases neg with
     | true=>simp only[Abj,Abh,Lib.signed];rw[Ab6 (by omega)];simp only;rw[AbB (by unfold DS;simp;omega)]
     | false=>simp only[Abh,Lib.signless];rw[Ab6 (by omega)];simp only;rw[AbB (by unfold DS;simp;omega)]
   | true=>
    simp only[Abd] at hg;refine .inr ⟨rfl,rfl,?_,?_⟩
    ·cases neg with
     | true=>
      simp only[Abj,Lib.signed]
      by_cases hb:9223372036854775808<Do 0 d
      ·rw[AbB hb]
      ·rw[Ab6 hb];simp only;rw[Ab6 (by unfold DS;simp;omega)]
     | false=>
      simp only[Abh,Lib.signless]
      by_cases hb:9223372036854775808≤Do 0 d
      ·rw[AbB hb]
      ·rw[Ab6 hb];simp only;rw[Ab6 (by unfold DS;simp;omega)]
    ·cases neg with
     | true=>
      simp only[Abj,Lib.signed]
      by_cases hb:9223372036854775808<Do 0 d
      ·rw[AbB hb]
      ·rw[Ab6 hb];simp only;rw[Ab6 (by unfold DS;simp;omega)]
     | false=>
      simp only[Abh,Lib.signless]
      by_cases hb:9223372036854775808≤Do 0 d
      ·rw[AbB hb]
      ·rw[Ab6 hb];simp only;rw[Ab6 (by unfold DS;simp;omega)]
  ·rw[hu,Abm hg];refine .inr ⟨rfl,rfl,?_,?_⟩<;>cases neg<;>rfl
def Ee (u S:Ae):Prop:=∃p,S=p++u
theorem Ee.len {u S:Ae}(h:Ee u S):u.length≤S.length:=by obtain⟨p,rfl⟩:=h;simp
theorem Ee.tail {c:UInt8}{r S:Ae}(h:Ee (c::r) S):Ee r S:=by obtain⟨p,rfl⟩:=h;exact⟨p++[c],by simp⟩
theorem Ee.app {w r S:Ae}(h:Ee (w++r) S):Ee r S:=by obtain⟨p,rfl⟩:=h;exact⟨p++w,by simp⟩
theorem Ee.drop {u S:Ae}(h:Ee u S):S.drop (Int.toNat ((S.length:Int)-u.length))=u:=by
 obtain⟨p,rfl⟩:=h;rw[show Int.toNat (((p++u).length:Int)-u.length)=p.length from by rw[Abl];omega,List.drop_left]
theorem Ee.get {c:UInt8}{r S:Ae}(h:Ee (c::r) S):S[(Int.toNat ((S.length:Int)-(c::r).length))]? =some c:=by
 have:=h.drop;have h2:(S.drop (Int.toNat ((S.length:Int)-(c::r).length)))[0]? =some c:=by rw[this];rfl
 simpa using h2
def DJ (S u:Ae)(cs:List Ab)(g:Bool):Az:=⟨S,(S.length:Int)-u.length,cs,g⟩
theorem Tz:∀(w r:Ae),pre w (w++r)=some r
 | [],r=>rfl
 | c::w,r=>by
  show(bif decide (c=c) then pre w (w++r) else none)=some r;rw[Abm rfl];exact Tz w r
theorem NP (w s:Ae):(decide ((w.length:Int)≤(s.length:Int))&&decide (List.take (Int.toNat (w.length:Int)) s=w))=(pre w s).isSome:=by
 cases h:pre w s with
 | some r=>
  have:=Dh h;subst this;simp;omega
 | none=>
  rw[Abu];simp only[Abk,Abd,Option.isSome_none,Abv,iff_false,not_and];intro hl e;have:s=w++s.drop w.length:=by
   conv=>lhs;rw[← Aca w.length s]
   rw[show Int.toNat (w.length:Int)=w.length from by omega] at e;rw[e]
  rw[this,Tz] at h
  cases h
theorem LP (s w:Ae):H6 s w=some (pre w s).isSome:=by
 unfold H6 Ic;rw[← NP];have:imp (decide ((w.length:Int)≤(s.length:Int))) (HX (w.length:Int) (s.length:Int))=true:=by
  cases hd:decide ((w.length:Int)≤(s.length:Int)) with
  | false=>rfl
  | true=>simp only[imp];rw[Y7 (by omega) (by simpa using hd)];rfl
 rw[BS this];rfl
theorem Dd {S u w:Ae}{cs:List Ab}{g:Bool}(hS:S.length≤100000)(h:Ee u S):Es (DJ S u cs g) w=match pre w u with
  | some r=>some (true,DJ S r cs g)
  | none=>some (false,DJ S u cs g):=by
 have hl:=h.len;unfold Es DJ;simp only;rw[C1 (by omega) (by omega),h.drop,LP,AU rfl]
 cases hp:pre w u with
 | none=>rfl
 | some r=>
  have e:=Dh hp;have el:u.length=w.length+r.length:=by rw[e];simp
  rw[A8 (p:=!(some r).isSome) rfl,AI (by omega) (by omega),show(S.length:Int)-u.length+w.length=S.length-r.length from by omega]
theorem Jh (c:UInt8)(u:Ae):pre [c] u=match u with
  | []=>none
  | d::r=>bif decide (d=c) then some r else none:=by
 cases u with
 | nil=>rfl
 | cons d r=>
  show(bif decide (c=d) then some r else none)=_;have:decide (c=d)=decide (d=c):=by rw[Abu];simp only[Abd];exact eq_comm
  rw[this]
theorem Wr (A:Ae):Qs (D9 A)=A:=by
 induction A with
 | nil=>rfl
 | cons c A ih=>
  show UInt8.ofNat (Int.toNat (c.toNat:Int))::Qs (D9 A)=c::A;rw[ih,← (show UInt8.ofNat c.toNat=c from by simp)];simp
theorem Yd:∀(n:Nat) (s t u:Ae),s.length=n→CM true s=some (t,u)→t.all KD=true:=by
 intro n
 induction n using Nat.strongRecOn with
 | ind n ih=>
  intro s t u hn h
  cases s with
  | nil=>cases h
  | cons c r=>
   simp only[Abf] at hn;rw[EC] at h
   cases h1:decide (c=34) with
   | true=>rw[h1] at h;cases h;rfl
   | false=>
    rw[h1] at h;simp only[Abh,Abp] at h
    cases h2:KD c with
    | false=>rw[h2] at h;cases h
    | true=>
     rw[h2] at h;simp only[Abq,Abh] at h
     cases h3:decide (c=92) with
     | true=>
      rw[h3] at h
      cases r with
      | nil=>cases h
      | cons d r'=>
       simp only[Abj] at h
       cases h4:(decide (d=34)||decide (d=92)) with
       | false=>rw[h4] at h;cases h
       | true=>
        rw[h4] at h;simp only[Abj] at h
        cases h5:CM true r' with
        | none=>rw[h5] at h;cases h
        | some q=>
         obtain⟨t',u'⟩:=q;rw[h5] at h;cases h;simp only[Abf] at hn;have:=ih r'.length (by omega) r' t' u rfl h5;have hd:KD d=true:=by
          simp only[AbC,Abd] at h4;rcases h4 with e | e<;>subst e<;>rfl
         simp[hd,this]
     | false=>
      rw[h3] at h;simp only[Abh] at h
      cases h5:CM true r with
      | none=>rw[h5] at h;cases h
      | some q=>
       obtain⟨t',u'⟩:=q;rw[h5] at h;cases h;have:=ih r.length (by omega) r t' u rfl h5;simp[h2,this]
theorem Yp {c:UInt8}:(decide ((c.toNat:Int)<32)||decide (126<(c.toNat:Int))) = !KD c:=by
 unfold KD;rw[Abu];simp only[AbC,Abd,Abz,AbG,Abc];omega
theorem Pp (c:UInt8):decide ((c.toNat:Int)=34)=decide (c=34):=by
 rw[Abu,decide_eq_true_iff,decide_eq_true_iff,← AbX];show _↔c.toNat=34;omega
theorem TG (c:UInt8):decide ((c.toNat:Int)=92)=decide (c=92):=by
 rw[Abu,decide_eq_true_iff,decide_eq_true_iff,← AbX];show _↔c.toNat=92;omega
theorem VK (A:Ae)(c:UInt8):D9 A++([(c.toNat:Int)]:List Int)=D9 (A++[c]):=by simp[D9]
theorem Uj {S:Ae}{cs:List Ab}{g b:Bool}{p:Int}(hS:S.length≤100000):∀(n L:Nat) (u A:Ae),u.length=n→Ee u S→n<L→A.length≤S.length-n→
  ∃o,Ca (λσ=>EL (b,⟨S,p,cs,g⟩) σ.1 σ.2) L (D9 A,(S.length:Int)-u.length)=some o∧((∃t w,CM true u=some (t,w)∧Ee w S∧BT (λν=>I9 (b,⟨S,p,cs,g⟩) ν) o=some (A++t,true,DJ S w cs g))∨(CM true u=none∧∃q',BT (λν=>I9 (b,⟨S,p,cs,g⟩) ν) o=some ([],false,q'))):=by
 intro n
 induction n using Nat.strongRecOn with
 | ind n ih=>
  intro L u A hn hs hL hA;obtain⟨L,rfl⟩:∃K,L=K+1:=⟨L-1,by omega⟩
  have hsl:=hs.len
  cases u with
  | nil=>
   have hgo:EL (b,⟨S,p,cs,g⟩) (D9 A) ((S.length:Int)-([]:Ae).length)=some (.out (.go ((S.length:Int)-([]:Ae).length))):=by
    unfold EL;rw[A8 (Abi (by simp))]
   exact⟨_,De hgo,.inr ⟨rfl,_,rfl⟩⟩
  | cons c r=>
   have hb:Be S ((S.length:Int)-(c::r).length)=c.toNat:=Du hs.get;have hpos:(S.length:Int)-(c::r).length+1=S.length-r.length:=by rw[Abf];omega
   simp only[Abf] at hn hsl;have hlt:(S.length:Int)-(c::r).length<S.length:=by rw[Abf];omega
   have h0:0≤(S.length:Int)-(c::r).length:=by rw[Abf];omega
   have hb1:EL (b,⟨S,p,cs,g⟩) (D9 A) ((S.length:Int)-(c::r).length)=Bl (decide (c=34)) (some (.out (.ret (A,true,DJ S r cs g)))) (Bl (!KD c) (some (.out (.ret ([],false,DJ S r cs g)))) (Bl (decide (c=92)) (AY (imp (!(decide ((S.length:Int)≤S.length-r.length))) (Cp (S.length-r.length) (S.length:Int)))<|Bl (((decide ((S.length:Int)≤S.length-r.length))||((!decide ((Be S (S.length-r.length))=34))&&(!decide ((Be S (S.length-r.length))=92))))) (some (.out (.ret ([],false,DJ S r cs g)))) (AY (Cp (S.length-r.length) (S.length:Int))<|AY (B2 .i64 (((S.length:Int)-r.length)+1))<|Gs (D9 A) (Be S (S.length-r.length)) (((S.length:Int)-r.length)+1))) (Gs (D9 A) (c.toNat:Int) ((S.length:Int)-r.length)))):=by
    unfold EL;simp only;rw[AK (Abm hlt),Br h0 hlt,hb,hpos,AI (by omega) (by omega),Pp,TG,Yp,Wr];rfl
   have hj:∀(x:UInt8) (y:Int),Gs (D9 A) (x.toNat:Int) y=some (.next (D9 (A++[x]),y)):=λx y=>by
    unfold Gs;rw[Dt (by simp[D9];omega),VK]
   rw[EC]
   cases h1:decide (c=34) with
   | true=>
    rw[h1] at hb1;exact⟨.ret (A,true,DJ S r cs g),De hb1,.inl ⟨[],r,rfl,hs.tail,by rw[L6,AbL]⟩⟩
   | false=>
    rw[h1,A8 rfl] at hb1;simp only[Abh,Abp]
    cases h2:KD c with
    | false=>
     rw[h2,AK (p:=!false) rfl] at hb1;exact⟨_,De hb1,.inr ⟨rfl,_,rfl⟩⟩
    | true=>
     rw[h2,A8 (p:=!true) rfl] at hb1;simp only[Abq,Abh]
     cases h3:decide (c=92) with
     | true=>
      rw[h3,AK rfl] at hb1
      cases r with
      | nil=>
       have e:decide ((S.length:Int)≤S.length-([]:Ae).length)=true:=by simp
       rw[e,BS (p:=imp (!true) _) rfl,AK (p:=true||_) rfl] at hb1;exact⟨_,De hb1,.inr ⟨rfl,_,rfl⟩⟩
      | cons d r'=>
       simp only[Abf] at hn hsl;have hbd:Be S ((S.length:Int)-(d::r').length)=d.toNat:=Du hs.tail.get;have hlt2:(S.length:Int)-(d::r').length<S.length:=by rw[Abf];omega
       have ha:0≤(S.length:Int)-(d::r').length:=by rw[Abf];omega
       have hpos2:(S.length:Int)-(d::r').length+1=S.length-r'.length:=by rw[Abf];omega
       have e:decide ((S.length:Int)≤S.length-(d::r').length)=false:=Abi (by omega);rw[e,LO ha hlt2,hbd,hpos2,Pp,TG,BS (p:=imp (!false) true) rfl] at hb1;simp only[Abj]
       cases h4:(decide (d=34)||decide (d=92)) with
       | false=>
        have e4:(false||(!decide (d=34)&&!decide (d=92)))=true:=by rw[← Bool.not_or,h4];rfl
        rw[AK e4] at hb1;exact⟨_,De hb1,.inr ⟨rfl,_,rfl⟩⟩
       | true=>
        have e4:(false||(!decide (d=34)&&!decide (d=92)))=false:=by rw[← Bool.not_or,h4];rfl
        rw[A8 e4,BS rfl,AI (by omega) (by omega),hj] at hb1;obtain⟨o,ho1,ho2⟩:=ih r'.length (by omega) L r' (A++[d]) rfl hs.tail.tail (by omega) (by rw[ET];omega);refine⟨o,G7 hb1 ho1,?_⟩;simp only[Abj];rcases ho2 with⟨t,w,q1,q2,q3⟩ | ⟨q1,q2⟩
        ·rw[q1];exact .inl ⟨d::t,w,rfl,q2,by rw[q3];simp⟩
        ·rw[q1];exact .inr ⟨rfl,q2⟩
     | false=>
      rw[h3,A8 rfl,hj] at hb1;obtain⟨o,ho1,ho2⟩:=ih r.length (by omega) L r (A++[c]) rfl hs.tail (by omega) (by rw[ET];omega);refine⟨o,G7 hb1 ho1,?_⟩;simp only[Abh];rcases ho2 with⟨t,w,q1,q2,q3⟩ | ⟨q1,q2⟩
      ·rw[q1];exact .inl ⟨c::t,w,rfl,q2,by rw[q3];simp⟩
      ·rw[q1];exact .inr ⟨rfl,q2⟩
theorem QD {F:Nat}{S u:Ae}{cs:List Ab}{g:Bool}(hS:S.length≤100000)(h:Ee u S)(hF:S.length<F) :
  (∃r t w,u=34::r∧CM true r=some (t,w)∧Ee w S∧N8 F (DJ S u cs g)=some (t,true,DJ S w cs g))∨((∀r,u=34::r→CM true r=none)∧∃q',N8 F (DJ S u cs g)=some ([],false,q')):=by
 unfold N8;rw[Dd hS h,Jh]
 cases u with
 | nil=>exact .inr ⟨(λr e=>by cases e),_,rfl⟩
 | cons c r=>
  simp only
  cases hc:decide (c=34) with
  | false=>
   simp only[Abc] at hc;exact .inr ⟨(λr' e=>by cases e;exact absurd rfl hc),_,rfl⟩
  | true=>
   simp only[Abd] at hc;subst hc;have hl:=h.len;simp only[Abf] at hl;simp only[Abj];rw[AU rfl,A8 (p:=!true) rfl];obtain⟨o,ho1,ho2⟩:=Uj (b:=true) (cs:=cs) (g:=g) (p:=(S.length:Int)-r.length) hS r.length F r [] rfl h.tail (by omega) (AbJ _);have ho1':Ca (λσ=>EL (true,DJ S r cs g) σ.1 σ.2) F ([],(S.length:Int)-r.length)=some o:=ho1;rw[show(true,DJ S r cs g).2.fAt=(S.length:Int)-r.length from rfl,AU ho1'];rcases ho2 with⟨t,w,q1,q2,q3⟩ | ⟨q1,q',q2⟩
   ·exact .inl ⟨r,t,w,rfl,q1,q2,q3⟩
   ·exact .inr ⟨(λr' e=>by cases e;exact q1),q',q2⟩
def CU (c:Ab):Ab:=bif Co c then⟨3,0,[],0⟩ else c
theorem IT:∀s:Ae,(BX s).1.all CI=true
 | []=>rfl
 | c::r=>by
  rw[BX]
  cases h:CI c with
  | true=>simp only[Abj,AbS,h,IT r];rfl
  | false=>rfl
theorem TP {c:UInt8}:(decide (48≤(c.toNat:Int))&&decide ((c.toNat:Int)≤57))=CI c:=by
 unfold CI;rw[Abu];simp only[Abk,Abd];omega
theorem OR {S:Ae}{cs:List Ab}{g b:Bool}{p:Int}(hS:S.length≤100000):∀(u:Ae) (L:Nat),Ee u S→u.length<L→
  Ca (λσ=>EM (b,⟨S,p,cs,g⟩) σ) L ((S.length:Int)-u.length)=some (.go ((S.length:Int)-(BX u).2.length))
 | [],L,hs,hL=>by
  obtain⟨L,rfl⟩:∃K,L=K+1:=⟨L-1,by omega⟩
  refine De ?_;show EM _ _=_;unfold EM;have e:decide ((S.length:Int)-([]:Ae).length<(S.length:Int))=false:=by simp
  simp only;rw[e,BS (p:=imp false _) rfl,A8 (p:=false&&_) rfl];rfl
 | c::r,L,hs,hL=>by
  obtain⟨L,rfl⟩:∃K,L=K+1:=⟨L-1,by omega⟩
  have hsl:=hs.len;have hb:Be S ((S.length:Int)-(c::r).length)=c.toNat:=Du hs.get;have hpos:(S.length:Int)-(c::r).length+1=S.length-r.length:=by rw[Abf];omega
  simp only[Abf] at hsl hL;have hlt:(S.length:Int)-(c::r).length<S.length:=by rw[Abf];omega
  have h0:0≤(S.length:Int)-(c::r).length:=by rw[Abf];omega
  have hb1:EM (b,⟨S,p,cs,g⟩) ((S.length:Int)-(c::r).length)=Bl (CI c) (some (.next ((S.length:Int)-r.length))) (some (.out (.go ((S.length:Int)-(c::r).length)))):=by
   unfold EM;simp only;rw[Abm hlt,LO h0 hlt,BS (p:=imp true true) rfl,hb,TP,hpos,AI (by omega) (by omega),Abp]
  rw[BX]
  cases hd:CI c with
  | true=>
   rw[hd] at hb1;exact G7 hb1 (OR hS r L hs.tail (by omega))
  | false=>
   rw[hd] at hb1;exact De hb1
theorem QF {F:Nat}{S u:Ae}{cs:List Ab}{g:Bool}(hS:S.length≤100000)(h:Ee u S)(hF:S.length<F)(hcs:cs.length≤100000) :
  (∃f w,IP u=some (f,w)∧Ee w S∧N9 F (DJ S u cs g)=some (true,DJ S w (cs++f.flat.map CU) (g||f.flat.any Co)))∨(IP u=none∧∃q',N9 F (DJ S u cs g)=some (false,q')):=by
 have hl:=h.len;have hneg:∃neg r b,neg=decide (u.head? =some 45)∧r=(bif neg then u.tail else u)∧Es (DJ S u cs g) [45]=some (b,DJ S r cs g)∧u=(bif neg then 45::r else r):=by
  rw[Dd hS h,Jh]
  cases u with
  | nil=>exact⟨false,[],false,rfl,rfl,rfl,rfl⟩
  | cons c r=>
   simp only[List.head?_cons,Option.some.injEq]
   cases hc:decide (c=45) with
   | true=>simp only[Abd] at hc;subst hc;exact⟨true,r,true,rfl,rfl,rfl,rfl⟩
   | false=>exact⟨false,c::r,false,rfl,rfl,rfl,rfl⟩
 obtain⟨neg,r,b,e1,e2,e3,e4⟩:=hneg;have hr:Ee r S:=by
  rw[e4] at h
  cases neg with
  | true=>exact h.tail
  | false=>exact h
 have hrl:=hr.len;have hd:=IT r;have hsplit:=In r;have hlen:r.length=(BX r).1.length+(BX r).2.length:=by conv=>lhs;rw[hsplit,Abl]
 have hw:Ee (BX r).2 S:=by rw[hsplit] at hr;exact hr.app
 have hut:u=IB neg (BX r).1++(BX r).2:=by
  rw[e4]
  cases neg with
  | true=>show 45::r=45::((BX r).1++(BX r).2);rw[← hsplit]
  | false=>exact hsplit
 have hul:u.length=(IB neg (BX r).1).length+(BX r).2.length:=by conv=>lhs;rw[hut,Abl]
 have hslice:List.take (Int.toNat ((S.length:Int)-(BX r).2.length)-Int.toNat ((S.length:Int)-u.length)) (List.drop (Int.toNat ((S.length:Int)-u.length)) S)=IB neg (BX r).1:=by
  rw[h.drop,show Int.toNat ((S.length:Int)-(BX r).2.length)-Int.toNat ((S.length:Int)-u.length)=(IB neg (BX r).1).length from by omega]
  conv=>lhs;rw[hut]
  rw[List.take_left]
 have hlop:Ca (λσ=>EM (b,DJ S r cs g) σ) F ((S.length:Int)-r.length)=some (.go ((S.length:Int)-(BX r).2.length)):=OR hS r F hr (by omega);have hrun:N9 F (DJ S u cs g)=Bl (((decide ((BR (IB neg (BX r).1))=1))||(decide ((S.length:Int)-r.length=(S.length:Int)-(BX r).2.length)))) (some (false,DJ S (BX r).2 cs g)) (some (true,DJ S (BX r).2 (cs++[⟨3,B7 (IB neg (BX r).1),[],0⟩]) (g||!decide (BR (IB neg (BX r).1)=0)))):=by
  unfold N9;rw[e3,AU rfl,show(b,DJ S r cs g).2.fAt=(S.length:Int)-r.length from rfl,AU hlop,Di];unfold J9;rw[show(DJ S u cs g).fAt=(S.length:Int)-u.length from rfl,show(b,DJ S r cs g).2.fS=S from rfl,show(b,DJ S r cs g).2.fAt=(S.length:Int)-r.length from rfl,C1 (by omega) (by omega),C1 (by omega) (by omega),hslice,Dt (by omega),BS (p:=Dz 40 _) (Abm (by
   show(cs.length+1)*40≤140737488355328;omega))]
  rfl
 rw[hrun];unfold IP;simp only;rw[← e1,← e2];rcases UE (neg:=neg) hd with⟨p1,p2⟩ | ⟨p1,p2,p3,p4⟩ | ⟨p1,p2,p3,p4⟩
 ·rw[p1,p2];exact .inr ⟨rfl,_,rfl⟩
 ·have hne:(BX r).1≠[]:=by
   intro e;rw[e] at p1
   cases neg<;>cases p1
  have hpos:0<(BX r).1.length:=List.length_pos_iff.2 hne;rw[p1,p3,p4,Abi (show ¬ (S.length:Int)-r.length=(S.length:Int)-(BX r).2.length by omega)];refine .inl ⟨_,_,rfl,hw,?_⟩;simp[Fo.flat,B8,CU,p2,Bl]
 ·have hne:(BX r).1≠[]:=by
   intro e;rw[e] at p1
   cases neg<;>cases p1
  have hpos:0<(BX r).1.length:=List.length_pos_iff.2 hne;rw[p1,p3,p4,Abi (show ¬ (S.length:Int)-r.length=(S.length:Int)-(BX r).2.length by omega)];refine .inl ⟨_,_,rfl,hw,?_⟩;simp[Fo.flat,B8,CU,p2,Bl]
def VQ (strict:Bool)(s:Ae):Option (Fo×Ae):=
 match pre [110,117,108,108] s with
 | some r=>some (lf 1 0 [],r)
 | none=>match pre [116,114,117,101] s with
  | some r=>some (lf 2 1 [],r)
  | none=>match pre [102,97,108,115,101] s with
   | some r=>some (lf 2 0 [],r)
   | none=>match s with
    | []=>none
    | c::r=>bif decide (c=34) then(match CM strict r with
     | none=>none
     | some (t,u)=>some (lf 4 0 t,u)) else IP (c::r)
theorem Wn (b:Bool)(F:Nat){s:Ae}(h:∀c r,s=c::r→(decide (c=91)||decide (c=123))=false):GY b (F+1) s=VQ b s:=by
 rw[EP];unfold VQ
 cases pre [110,117,108,108] s with
 | some r=>rfl
 | none=>
 cases pre [116,114,117,101] s with
 | some r=>rfl
 | none=>
 cases pre [102,97,108,115,101] s with
 | some r=>rfl
 | none=>
 cases s with
 | nil=>rfl
 | cons c r=>
  simp only;rw[h c r rfl];rfl
theorem QE {F:Nat}{S u:Ae}{cs:List Ab}{g:Bool}(hS:S.length≤100000)(h:Ee u S)(hF:S.length<F)(hcs:cs.length≤100000) :
  (∃f w,VQ true u=some (f,w)∧Ee w S∧IA F (DJ S u cs g)=some (true,DJ S w (cs++f.flat.map CU) (g||f.flat.any Co)))∨(VQ true u=none∧∃q',IA F (DJ S u cs g)=some (false,q')):=by
 have hA:∀c:Ab,Dz 40 (cs.length+([c]:List Ab).length)=true:=λc=>Abm (by show(cs.length+1)*40≤140737488355328;omega);unfold IA VQ;rw[Dd hS h]
 cases h1:pre [110,117,108,108] u with
 | some r=>
  have hr:Ee r S:=by rw[Dh h1] at h;exact h.app
  refine .inl ⟨_,r,rfl,hr,?_⟩;simp only;rw[AU rfl,AK rfl];show AY (Dz 40 (cs.length+([⟨1,0,[],0⟩]:List Ab).length)) (some (true,DJ S r (cs++[⟨1,0,[],0⟩]) g))=_;rw[BS (hA _)];simp[lf,Fo.flat,B8,CU,Co]
 | none=>
 simp only;rw[AU rfl,A8 rfl,show(false,DJ S u cs g).2=DJ S u cs g from rfl,Dd hS h]
 cases h2:pre [116,114,117,101] u with
 | some r=>
  have hr:Ee r S:=by rw[Dh h2] at h;exact h.app
  refine .inl ⟨_,r,rfl,hr,?_⟩;simp only;rw[AU rfl,AK rfl];show AY (Dz 40 (cs.length+([⟨2,1,[],0⟩]:List Ab).length)) (some (true,DJ S r (cs++[⟨2,1,[],0⟩]) g))=_;rw[BS (hA _)];simp[lf,Fo.flat,B8,CU,Co]
 | none=>
 simp only;rw[AU rfl,A8 rfl,show(false,DJ S u cs g).2=DJ S u cs g from rfl,Dd hS h]
 cases h3:pre [102,97,108,115,101] u with
 | some r=>
  have hr:Ee r S:=by rw[Dh h3] at h;exact h.app
  refine .inl ⟨_,r,rfl,hr,?_⟩;simp only;rw[AU rfl,AK rfl];show AY (Dz 40 (cs.length+([⟨2,0,[],0⟩]:List Ab).length)) (some (true,DJ S r (cs++[⟨2,0,[],0⟩]) g))=_;rw[BS (hA _)];simp[lf,Fo.flat,B8,CU,Co]
 | none=>
 have hl:=h.len;simp only;rw[AU rfl,A8 rfl,show(false,DJ S u cs g).2=DJ S u cs g from rfl,show(DJ S u cs g).fAt=(S.length:Int)-u.length from rfl,show(DJ S u cs g).fS=S from rfl,C1 (by omega) (by omega),h.drop,LP,AU rfl,Jh]
 cases u with
 | nil=>
  simp only;rw[A8 (p:=(none:Option Ae).isSome) rfl];rcases QF (g:=g) hS h hF hcs with⟨f,w,q1,q2,q3⟩ | ⟨q1,q',q2⟩
  ·exact absurd (Om q1) (by simp)
  ·rw[q2];exact .inr ⟨trivial,_,rfl⟩
 | cons c r=>
  simp only
  cases hc:decide (c=34) with
  | true=>
   simp only[Abj];rw[AK (p:=(some r).isSome) rfl];simp only[Abd] at hc;subst hc;rcases QD (cs:=cs) (g:=g) hS h hF with⟨r',t,w,q1,q2,q3,q4⟩ | ⟨q1,q',q2⟩
   ·cases q1
    rw[q2,q4,AU rfl,A8 (p:=!true) rfl];refine .inl ⟨_,w,rfl,q3,?_⟩;simp only;show AY (Dz 40 (cs.length+([⟨4,0,t,0⟩]:List Ab).length)) (some (true,DJ S w (cs++[⟨4,0,t,0⟩]) g))=_;rw[BS (hA _)];simp[lf,Fo.flat,B8,CU,Co]
   ·rw[q1 r rfl,q2,AU rfl];exact .inr ⟨rfl,_,rfl⟩
  | false=>
   simp only[Abh];rw[A8 (p:=(none:Option Ae).isSome) rfl];rcases QF (g:=g) hS h hF hcs with⟨f,w,q1,q2,q3⟩ | ⟨q1,q',q2⟩
   ·rw[q3,AU rfl];exact .inl ⟨f,w,q1,q2,rfl⟩
   ·rw[q2,AU rfl];exact .inr ⟨q1,_,rfl⟩
theorem Np {f:Fo}(h:f.one=true)(key:Option Ae)(r:Fo):(f.put key r).cnt=r.cnt+1:=by
 cases f with
 | nil=>cases h
 | cell _ _ _=>rfl
 | node _ _ _ _=>rfl
theorem Jm (m:Bool)(g:Fo)(h:g.cnt=0→g = .nil):(nd m g).flat=⟨bif m then 6 else 5,0,[],(g.cnt:Int)⟩::g.flat:=by
 unfold nd
 cases hd:decide (g.cnt=0) with
 | true=>
  simp only[Abd] at hd;rw[h hd];rfl
 | false=>simp[Fo.flat,B8]
theorem Io {g:Fo}(h:g.cnt=0):g = .nil:=by
 cases g with
 | nil=>rfl
 | cell _ _ _=>simp[Fo.cnt] at h
 | node _ _ _ _=>simp[Fo.cnt] at h
theorem Pn {b m:Bool}{last key:Option Ae}{s u:Ae}(h:DL b m last s=some (key,u)):(B8 key).length+u.length≤s.length:=by
 unfold DL at h
 cases m with
 | false=>cases h;simp[B8]
 | true=>
  simp only[Abj] at h
  cases s with
  | nil=>cases h
  | cons c r=>
   simp only at h
   cases h1:decide (c=34) with
   | false=>rw[h1] at h;cases h
   | true=>
    rw[h1] at h;simp only[Abj] at h
    cases h2:CM b r with
    | none=>rw[h2] at h;cases h
    | some q=>
     obtain⟨k,w⟩:=q;have:=IE b _ r k w rfl h2;rw[h2] at h;simp only at h
     cases h3:(b&&!BH true last (some k)) with
     | true=>rw[h3] at h;cases h
     | false=>
      rw[h3] at h;simp only[Abh] at h
      cases w with
      | nil=>cases h
      | cons d w'=>
       simp only at h
       cases h4:decide (d=58) with
       | false=>rw[h4] at h;cases h
       | true=>rw[h4] at h;cases h;simp only[Abf,B8,AbP] at this ⊢;omega
theorem E4 (b:Bool):∀F:Nat,(∀s f u,GY b F s=some (f,u)→f.flat.length+u.length≤s.length)∧(∀m last s g u,DA b F m last s=some (g,u)→g.flat.length+u.length+1≤s.length)
 | 0=>⟨(λs f u h=>by rw[GY.eq_def] at h;cases h),(λm last s g u h=>by rw[DA.eq_def] at h;cases h)⟩
 | F+1=>by
  obtain⟨ih1,ih2⟩:=E4 b F;have lfl:∀k i t,(lf k i t).flat.length=1:=λ_ _ _=>rfl;constructor
  ·intro s f u h;rw[EP] at h
   cases h1:pre [110,117,108,108] s with
   | some r=>rw[h1] at h;cases h;rw[Dh h1,lfl];simp;omega
   | none=>
   rw[h1] at h;simp only at h
   cases h2:pre [116,114,117,101] s with
   | some r=>rw[h2] at h;cases h;rw[Dh h2,lfl];simp;omega
   | none=>
   rw[h2] at h;simp only at h
   cases h3:pre [102,97,108,115,101] s with
   | some r=>rw[h3] at h;cases h;rw[Dh h3,lfl];simp;omega
   | none=>
   rw[h3] at h;simp only at h
   cases s with
   | nil=>cases h
   | cons c r=>
   simp only at h
   cases h4:decide (c=34) with
   | true=>
    rw[h4] at h;simp only[Abj] at h
    cases h5:CM b r with
    | none=>rw[h5] at h;cases h
    | some q=>
     obtain⟨t,w⟩:=q;rw[h5] at h;cases h;have:=IE b _ r t u rfl h5;rw[lfl];simp only[Abf];omega
   | false=>
   rw[h4] at h;simp only[Abh] at h
   cases h5:(decide (c=91)||decide (c=123)) with
   | false=>
    rw[h5] at h;simp only[Abh] at h;have h6:=Om h;have h7:f.flat.length=1:=by
     unfold IP at h;simp only at h
     cases hc:Ed (decide ((c::r).head? =some 45)) (BX (bif decide ((c::r).head? =some 45) then(c::r).tail else c::r)).1 with
     | false=>rw[hc] at h;cases h
     | true=>rw[hc] at h;cases h;rfl
    omega
   | true=>
   rw[h5] at h;simp only[Abj] at h
   cases r with
   | nil=>cases h
   | cons d r'=>
   simp only at h
   cases h6:decide (d=Bu (decide (c=123))) with
   | true=>rw[h6] at h;cases h;rw[Jm _ _ Io];simp[Fo.flat];omega
   | false=>
   rw[h6] at h;simp only[Abh] at h
   cases h7:DA b F (decide (c=123)) none (d::r') with
   | none=>rw[h7] at h;cases h
   | some q=>
    obtain⟨g,w⟩:=q;rw[h7] at h;cases h;have:=ih2 _ _ _ _ _ h7;rw[Jm _ _ Io];simp only[Abf] at this ⊢;omega
  ·intro m last s g u h;rw[Dy] at h
   cases h1:DL b m last s with
   | none=>rw[h1] at h;cases h
   | some q=>
   obtain⟨key,s1⟩:=q;have l1:=Pn h1;rw[h1] at h;simp only at h
   cases h2:GY b F s1 with
   | none=>rw[h2] at h;cases h
   | some q=>
   obtain⟨f,s2⟩:=q;have l2:=ih1 _ _ _ h2;have o2:=((DW b F).1 _ _ _ h2).2;rw[h2] at h;simp only at h
   cases s2 with
   | nil=>cases h
   | cons c s3=>
   simp only[Abf] at l2;simp only at h
   cases h3:decide (c=Bu m) with
   | true=>rw[h3] at h;cases h;rw[EO o2,Abl,Abl];simp only[Fo.flat,AbP];omega
   | false=>
   rw[h3] at h;simp only[Abh] at h
   cases h4:decide (c=44) with
   | false=>rw[h4] at h;cases h
   | true=>
   rw[h4] at h;simp only[Abj] at h
   cases h5:DA b F m key s3 with
   | none=>rw[h5] at h;cases h
   | some q=>
    obtain⟨g',w⟩:=q;rw[h5] at h;cases h;have:=ih2 _ _ _ _ _ h5;rw[EO o2,Abl,Abl];omega
theorem Tk {α:Type}(xs D:List α)(a b:α):List.set (xs++a::D) (Int.toNat (xs.length:Int)) b=xs++b::D:=by
 rw[show Int.toNat (xs.length:Int)=xs.length from by omega,List.set_append_right _ _ (AbA _)];simp
theorem X8 {α:Type}[Inhabited α](xs D:List α)(a:α):Am (xs++a::D) (xs.length:Int)=a:=by simp[Am]
def VOk (F P:Nat)(S u:Ae)(cs:List Ab)(g:Bool):Prop:=
 (∃f w,GY true P u=some (f,w)∧Ee w S∧CC F (DJ S u cs g)=some (true,DJ S w (cs++f.flat.map CU) (g||f.flat.any Co)))∨(GY true P u=none∧∃q',CC F (DJ S u cs g)=some (false,q'))
abbrev YW (F:Nat)(x16:List Ab):Int×Ae×Int×List Ab×Bool→Option (Stp (Int×Ae×Int×List Ab×Bool) (Out (Bool×Az) Unit)):=λσ=>EY (CC F) x16 σ.1 σ.2.1 σ.2.2.1 σ.2.2.2.1 σ.2.2.2.2
abbrev Zp (F:Nat)(x16:List Ab):Ae×Int×Ae×Int×List Ab×Bool→Option (Stp (Ae×Int×Ae×Int×List Ab×Bool) (Out (Bool×Az) Unit)):=λσ=>EX F (CC F) x16 σ.1 σ.2.1 σ.2.2.1 σ.2.2.2.1 σ.2.2.2.2.1 σ.2.2.2.2.2
def Vv (P:Nat)(m:Bool)(last:Option Ae)(S u:Ae)(x16 D:List Ab)(k:Int)(g:Bool)(o:Out (Bool×Az) Unit):Prop:=
 (∃G w,DA true P m last u=some (G,w)∧Ee w S∧o = .ret (true,DJ S w (x16++⟨bif m then 6 else 5,0,[],k-1+(G.cnt:Int)⟩::(D++G.flat.map CU)) (g||G.flat.any Co)))∨(DA true P m last u=none∧∃q',o = .ret (false,q'))
theorem YF (k:Option Ae):(B8 k).map CU=B8 k∧(B8 k).any Co=false:=by
 cases k with
 | none=>exact⟨rfl,rfl⟩
 | some s=>exact⟨by simp[B8,CU,Co],by simp[B8,Co]⟩
theorem Vv.join {P:Nat}{m:Bool}{last key:Option Ae}{S u s1 s2:Ae}{x16 D:List Ab}{k:Int}{g:Bool}{o:Out (Bool×Az) Unit}{f:Fo}(hk:DL true m last u=some (key,s1))(hf:GY true P s1=some (f,s2))(ho:f.one=true)
  (h:(∃s3,s2=Bu m::s3∧Ee s3 S∧o = .ret (true,DJ S s3 (x16++⟨bif m then 6 else 5,0,[],k⟩::(D++(B8 key++f.flat.map CU))) (g||f.flat.any Co)))∨(∃s3,s2=44::s3∧Vv P m key S s3 x16 (D++(B8 key++f.flat.map CU)) (k+1) (g||f.flat.any Co) o)∨((∀c s3,s2=c::s3→decide (c=Bu m)=false∧decide (c=44)=false)∧∃q',o = .ret (false,q'))):Vv (P+1) m last S u x16 D k g o:=by
 obtain⟨fk1,fk2⟩:=YF key;unfold Vv;rw[Dy,hk];simp only[hf];have ha:decide ((44:UInt8)=Bu m)=false:=by cases m<;>rfl
 rcases h with⟨s3,rfl,h1,h2⟩ | ⟨s3,rfl,h⟩ | ⟨h1,h2⟩
 ·simp only[decide_true,Abj];refine .inl ⟨_,s3,rfl,h1,?_⟩;rw[h2,Np ho,EO ho];simp only[Fo.flat,Fo.cnt,AbL,Acc,List.any_append,fk1,fk2,Abt]
  congr 6
  omega
 ·simp only[ha,Abh,decide_true,Abj];rcases h with⟨G,w,q1,q2,q3⟩ | ⟨q1,q2⟩
  ·rw[q1];refine .inl ⟨_,w,rfl,q2,?_⟩;rw[q3,Np ho,EO ho];simp only[Acc,List.any_append,fk1,fk2,Abt,Bool.or_assoc,Ab7]
   congr 6
   omega
  ·rw[q1];exact .inr ⟨rfl,q2⟩
 ·refine .inr ⟨?_,h2⟩
  cases s2 with
  | nil=>rfl
  | cons c s3=>
   obtain⟨a,b⟩:=h1 c s3 rfl;simp only[a,b,Abh]
end Go.Proofs.YtogdediiodmnbaaGreatDoor
