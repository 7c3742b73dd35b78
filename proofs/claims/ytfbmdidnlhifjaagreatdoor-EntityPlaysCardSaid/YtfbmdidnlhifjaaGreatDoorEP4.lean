/-
  Texts of the proof, put together: QKs, WNc, PNd, WNd, PNe, WNe, OkEntityPlays, LvA, LvB, LvC, LvD, LvE, LvF, LvG, LvH, LvI, LvJ, LvK, LvL, LnS.
-/
import Derived.Test.YtfbmdidnlhifjaaGreatDoorEP3
import GoSem.ClaimData
namespace Go.Proofs.YtfbmdidnlhifjaaGreatDoor.Q
open Go Go.RowKit Go.Maps Go.Sort Go.Shelf Go.Proofs
set_option linter.unusedVariables false
set_option maxHeartbeats 1000000
theorem Qc {Z:Fz}{v:Value}{vs:List Value}(h:Bj Z [rv v] vs):vs=[v]:=Bj.eq_rv (us:=[v]) h
theorem RZ {T:Type}(enc:T→Rp)(xs:List (Aq×T)):(AG enc xs).map (·.1)=xs.map (·.1):=by simp[AG]
theorem Qy (b:Nat):Fn Tryz.prog GE 50 [rv (.map (some b))] [] (λR H=>∃k:Nat,R=rv (.func (.func 74) #[] #[.pointer (some ⟨k,0,none⟩)])∧H=[.blk k [rv (.map (some b))] 65]):=λw Z vs hv hs=>by
 have e:=Qc hv;subst e;have hc:Calls Tryz.prog 50 #[.map (some b)] w (λe w'=>e = .returned (.func (.func 74) #[] #[.pointer (some ⟨w.heap.size,0,none⟩)])∧w'=w.alloc (.cells #[.map (some b)] 65)):=callsIn_wide.1 (AnyZ.keys_in Tryz.keys50 Fence.wide 5 trivial rfl (some b) w);refine hc.mono ?_;rintro e w' ⟨rfl,rfl⟩;exact⟨_,_,_,Z,rfl,⟨w.heap.size,rfl,rfl⟩,rfl,hs.alloc _ ⟨[.map (some b)],by simpa using heap_alloc_new w _,rfl,trivial⟩ rfl⟩
theorem Qa (m:Nat):AnyZ.SortsIn Tryz.prog Tryz.sorted49_ren Fence.wide m:=
  ⟨λblk off cap ss W hH hblk hsz=>callsIn_wide.2 (AnyM.slices_Sort_string Tryz.sort73 blk off cap ss W hH hblk hsz),
   λp cap W=>callsIn_wide.2 (AnyM.slices_Sort_string_none Tryz.sort73 p cap W)⟩
theorem OM {T:Type}(enc:T→Rp)(xs:List (Aq×T))(k b:Nat)(hk:M1 xs=true):Fn Tryz.prog GE 49 [rv (.func (.func 74) #[] #[.pointer (some ⟨k,0,none⟩)])] [.blk k [rv (.map (some b))] 65,.map b (AG enc xs)] (λR H=>∃v:Value,R=rv v∧H=[.row v 9 1 ((Ls xs).map eS),.blk k [rv (.map (some b))] 65,.map b (AG enc xs)]):=λw Z vs hv hs=>by
 have e:=Qc hv;subst e;obtain⟨us,h1,h2⟩:=hs.ent (i:=0) rfl;have e2:=Qc h2;subst e2;obtain⟨es,ck,h3,h4⟩:=hs.ent (i:=1) rfl;unfold M1 at hk;simp only[Xf,Xc,X1] at hk;have hlen:(AG enc xs).length=xs.length:=I7 enc xs;have hkl:∀p∈AG enc xs,p.1.length≤maxLen:=λp hp=>by
  obtain⟨y,hy,rfl⟩:=List.mem_map.1 hp;have:=hk.2 y hy;have e:maxLen=9223372036854775807:=rfl;rw[e];simpa[Ub] using this
 obtain⟨D0,d1,d2,d3⟩:=U7 (k:=9) Tryz.underlying9 h3 h4 hkl (by rw[hlen];have:=hk.1;have e:maxLen=9223372036854775807:=rfl;omega);have hkb:k<w.heap.size:=(Array.getElem?_eq_some_iff.1 h1).1;have hcell:w.cell? ⟨k,0,none⟩=some (.map (some b)):=by simp[World.cell?,h1]
 have hseq:SeqGives Fence.wide 2 Tryz.prog 74 #[.pointer (some ⟨k,0,none⟩)] encStr (λss=>ss.Perm (strKeys D0)) (Maps.size D0) w:=
  AnyZ.keys_gives (ρ:=Tryz.keys50_ren) { Tryz.keys50 with } Fence.wide _ trivial rfl (by omega) k b es.size D0 w hkb hcell d1
 have hc:=AnyZ.sorted_in Tryz.sorted49 Fence.wide 5 trivial trivial trivial trivial rfl (by omega) (Qa _) (enters_of Tryz.func73 (by kernel_rfl) rfl) 74 #[.pointer (some ⟨k,0,none⟩)] trivial (enters_of Tryz.func74 (by kernel_rfl) rfl) _ (Maps.size D0) (by rw[d3,hlen];have:=hk.1;have e:maxLen=9223372036854775807:=rfl;omega) (by rw[d3,hlen];exact hk.1) w hseq;refine(callsIn_wide.1 hc).mono ?_;rintro e w' ⟨v,ss,rfl,hS,hrow,hnil,hb⟩;have hp:ss.Perm (xs.map (·.1)):=hS.trans (by rw[← RZ enc xs];exact d2);have e1:ss.mergeSort (λx y=>decide (x≤y))=Ls xs:=mergeSort_of_perm hp;have e3:ss.length=(Ls xs).length:=by rw[← e1,List.length_mergeSort]
 rw[e1,e3] at hrow;exact⟨_,v,_,Z,rfl,⟨v,rfl,rfl⟩,rfl,hs.newrow hb hrow⟩
open Go Go.RowKit
set_option linter.unusedSimpArgs false
set_option maxRecDepth 100000
set_option maxHeartbeats 4000000
@[reducible] def Ak (kc:Nat) (x:As):(Value→List Rp)×List (List Rp):=(λr=>[AD 4 (Ap Ab x.fState),rv r,Aj x.fDone],Ap (eP kc) x.fCalls)
theorem TD:∃inf,Tryz.prog.info? 88=some inf∧inf.zero=some (.pointer none)∧inf.size=1∧inf.bytes=8:=by
  have key:(Tryz.prog.info? 88).map (λi=>(i.zero,i.size,i.bytes))=some (some (.pointer none),1,8):=by kernel_rfl
  obtain⟨inf,h1,h2⟩:=Option.map_eq_some_iff.1 key;simp only[Prod.mk.injEq] at h2;exact⟨inf,h1,h2.1,h2.2.1,h2.2.2⟩
theorem UX (parts:List (Nat×Value)):Tryz.prog.built 68 parts=Instr.fill (λi=>(#[(0,1),(1,1),(2,1)]:Array (Nat×Nat))[i]?) #[(.int .i64 0),((.map none)),((.map none))] parts:=by kernel_rfl
theorem MQ {n:Nat}{c:Cx}{l:Fr}{H:List Ent}{d:Option Nat}{ty:TypeId}{pos:String}{af:Array Edge}{g:Option (Nat×Bool)}{x1:Operand}{r1:Rp}(h1:ev l x1=some r1)(u1:r1.one=true){x2:Operand}{r2:Rp}(h2:ev l x2=some r2)(u2:r2.one=true):Bw Tryz.prog n c l H { dst:=d,op:=.build 68 #[(1,x1),(2,x2)],type:=ty,pos:=pos,after:=af,guard:=g } (Bd [Aj 0,r1,r2]):=λa w Z ha _=>by
  have p1:=ha.ev h1;have c1:=BN (r1.hone u1 Z _ p1);have p2:=ha.ev h2;have c2:=BN (r2.hone u2 Z _ p2);have hb:Tryz.prog.built 68 [(1,a.eval x1),(2,a.eval x2)]=some #[(.int .i64 0),a.eval x1,a.eval x2]:=by
    rw[UX];generalize a.eval x1=v1 at *;generalize a.eval x2=v2 at *;simp[Instr.fill,c1,c2]
  refine⟨.agg #[(.int .i64 0),a.eval x1,a.eval x2],⟨[(.int .i64 0),a.eval x1,a.eval x2],rfl,rfl,p1,p2,trivial⟩,?_⟩;have:=run_build w 68 #[(1,a.eval x1),(2,a.eval x2)] _ (by simpa using hb);simp[execOp,this]
theorem UW (parts:List (Nat×Value)):Tryz.prog.built 87 parts=Instr.fill (λi=>(#[(0,1),(1,1),(2,1)]:Array (Nat×Nat))[i]?) #[((.slice none 0 0)),((.slice none 0 0)),(.int .i64 0)] parts:=by kernel_rfl
theorem Pf {n:Nat}{c:Cx}{l:Fr}{H:List Ent}{d:Option Nat}{ty:TypeId}{pos:String}{af:Array Edge}{g:Option (Nat×Bool)}{x0:Operand}{r0:Rp}(h0:ev l x0=some r0)(u0:r0.one=true):Bw Tryz.prog n c l H { dst:=d,op:=.build 87 #[(0,x0)],type:=ty,pos:=pos,after:=af,guard:=g } (Bd [r0,rv (.slice none 0 0),Aj 0]):=λa w Z ha _=>by
  have p0:=ha.ev h0;have c0:=BN (r0.hone u0 Z _ p0);have hb:Tryz.prog.built 87 [(0,a.eval x0)]=some #[a.eval x0,((.slice none 0 0)),(.int .i64 0)]:=by
    rw[UW];generalize a.eval x0=v0 at *;simp[Instr.fill,c0]
  refine⟨.agg #[a.eval x0,((.slice none 0 0)),(.int .i64 0)],⟨[a.eval x0,((.slice none 0 0)),(.int .i64 0)],rfl,p0,rfl,rfl,trivial⟩,?_⟩;have:=run_build w 87 #[(0,a.eval x0)] _ (by simpa using hb);simp[execOp,this]
theorem Tu  (r:(A5×(List As)×(List Al)))(h:Tv=some r):Fn Tryz.prog GE 16 [] [] (λR H=>∃u0:Nat,∃u0_1:Nat,∃u0_2:Nat,∃u0_p1:Value,∃u0_p2:Value,R=rP u0 0∧H=[.blk u0 [Aj r.1.fNow,rv (.map (some u0_1)),rv (.map (some u0_2))] 68,.map u0_1 (AG (mP u0_1) r.1.fEntities),.map u0_2 (AG (mP u0_2) r.1.fCalls),.poolw u0_1 u0_p1 87 88 1 (Ap (Ak u0_2) r.2.1) none,.pool u0_2 u0_p2 44 (Ap Ad r.2.2)]):=by
 refine enter (n:=5) Tryz.func16 Aa Tryz.ntmps16 Aa (λw Z=>?_);unfold Tv at h;refine An (wa Aa (B4 (L0 (e:=87) (re:=88) (rz:=1) Aa (λb1=>?_))));refine LU (e:=44) Aa (λb2=>?_);refine wv (r:=Bd [Aj 0,rv (.map (some b1)),rv (.map (some b2))]) (MQ Aa Aa Aa Aa) (BH Aa Aa (λb3=>?_));refine wa Aa (Ax (A0 (BV (H2:=[.blk b3 [Aj 0,rv (.map (some b1)),rv (.map (some b2))] 68,.map b1 (AG (mP b1) ([]:List (Aq×Int))),.map b2 (AG (mP b2) ([]:List (Aq×Int))),.poolw b1 (.tuple #[]) 87 88 1 (Ap (Ak b2) ([]:List As)) none,.pool b2 (.tuple #[]) 44 (Ap Ad ([]:List Al))]) ((Ae (i:=0) Aa).trans (WZ _ ((Ae (i:=3) Aa).trans (WZ _ ((Ae (i:=1) Aa).trans (WZ _ ((Ae (i:=1) Aa).trans (WZ _ (Xd _))))))))) ?_)));obtain rfl:=A2 h;exact Az (BI Tryz.results16 (AR Aa)) (sC (sC (sC (sC (sC sN))))) ⟨b3,b1,b2,(.tuple #[]),(.tuple #[]),Aa,Aa⟩
theorem IZ (ha:Nat)(hb:Nat)(hd:Nat)(d:A5)(r:Bool)(h:Vm d=some r):Fn Tryz.prog GE 44 [rP ha 0] [.blk ha [Aj d.fNow,rv (.map (some hb)),rv (.map (some hd))] 68] (λR H=>R=rB r∧H=[.blk ha [Aj d.fNow,rv (.map (some hb)),rv (.map (some hd))] 68]):=by
 refine enter (n:=12) Tryz.func44 Aa Tryz.ntmps44 Aa (λw Z=>?_);unfold Vm at h;refine An (wa Aa (Ax (AU [(2,rB true)] [.blk ha [Aj d.fNow,rv (.map (some hb)),rv (.map (some hd))] 68] ?_ ?_)))
 ·refine Au (wm Aa (wv (r:=rB true) (RL ⟨_,Tryz.underlying41⟩ Aa) (wm Aa (Bz (b:=true) Aa Aa Aa (wm Aa (Bz (b:=true) Aa Aa Aa (wv (AK Aa) (Bz (b:=true) Aa Aa Aa (vF HH Aa O9 (Bz (b:=true) Aa Aa Aa (vL 0 OE Aa (Bz (b:=true) Aa Aa Aa (wv (r:=rB true) (RM (v:=some hb) PP Aa) (wv (r:=rB true) (Ar (b:=true) Aa Aa Aa) (wa Aa (At ?_))))))))))))))));exact wt
 refine A0 ?_;obtain rfl:=A2 h;exact Az (BI Tryz.results44 (AR Aa)) (sC sN) ⟨Aa,Aa⟩
theorem IX (F:Nat)(hd:Nat)(hb:Nat)(ha:Nat)(hi:Value)(hh:Value)(d:A5)(d_p1:(List As))(d_p2:(List Al))(op:A6)(now:Int)(r:Int×A5×(List As)×(List Al))(h:Dy F d d_p1 d_p2 op now=some r):Fn Tryz.prog GE 18 [rP hd 0,Bd (Am op),Aj now] [.blk hd [Aj d.fNow,rv (.map (some hb)),rv (.map (some ha))] 68,.map hb (AG (mP hb) d.fEntities),.map ha (AG (mP ha) d.fCalls),.poolw hb hi 87 88 1 (Ap (Ak ha) d_p1) none,.pool ha hh 44 (Ap Ad d_p2)] (λR H=>∃w0_p1:Value,∃w0_p2:Value,R=Aj r.1∧H=[.blk hd [Aj r.2.1.fNow,rv (.map (some hb)),rv (.map (some ha))] 68,.map hb (AG (mP hb) r.2.1.fEntities),.map ha (AG (mP ha) r.2.1.fCalls),.poolw hb w0_p1 87 88 1 (Ap (Ak ha) r.2.2.1) none,.pool ha w0_p2 44 (Ap Ad r.2.2.2)]):=by
 refine enter (n:=121) Tryz.func18 Aa Tryz.ntmps18 Aa (λw Z=>?_);unfold Dy at h;refine An (BH Aa Aa (λb1=>?_));refine wa Aa (Ax (Av (An (wm Aa (ER (Hr:=[.blk b1 (Am op) 25,.map hb (AG (mP hb) d.fEntities),.map ha (AG (mP ha) d.fCalls),.poolw hb hi 87 88 1 (Ap (Ak ha) d_p1) none,.pool ha hh 44 (Ap Ad d_p2)]) Ry (IZ hd hb ha d true Aa) Aa ((Ae (i:=1) Aa).trans (WZ _ (Xd _))) Aa ?_)))));rintro _ _ ⟨rfl,rfl⟩;refine wv (B8 Aa) (Ax (EV Aa (Eg Aa) (A1 (AT (Av (An (wv (Bf (i:=1) Es Cc Aa Aa Aa Aa) (ob h λr2 e4 h3=>Cl Tryz.call36 (Pp F op r2 e4) Aa (wa Aa (B4 (wm Aa (wv (Dp Aa Aa) (Ax (cz h3 Aa (λc5 h6=>?_) (λc5 h7=>?_)))))))))))))))
 ·refine An (wm Aa (wa Aa (Ax (A0 (Ah ?_)))));obtain rfl:=A2 h6;exact Az (BI OC (AR Aa)) (sC (sS (sC (sC (sC (sC sN)))))) ⟨hi,hh,Aa,Aa⟩
 ·refine A1 (AT (Av (AU [(0,rP hd 0),(2,Aj now),(4,rP b1 0),(26,rB ((decide (now<0))||(decide (1073741824<now))))] [.blk hd [Aj d.fNow,rv (.map (some hb)),rv (.map (some ha))] 68,.blk b1 (Am op) 25,.map hb (AG (mP hb) d.fEntities),.map ha (AG (mP ha) d.fCalls),.poolw hb hi 87 88 1 (Ap (Ak ha) d_p1) none,.pool ha hh 44 (Ap Ad d_p2)] ?_ ?_)))
  ·refine Au (wm Aa (wv (C2 Aa Aa) (wm Aa (AY (decide (now<0)) (λc8=>?_) (λc8=>?_)))))
   ·refine wf c8 (wf c8 (wv (r:=rB true) (Ar Aa c8 Aa) (At ?_)));exact Cg c8
   ·refine wo c8 (wm Aa (wo c8 (wv (DQ Aa Aa) (DB Aa c8 Aa (At ?_)))));exact Cg c8
  refine cz h7 Aa (λc9 h2=>?_) (λc9 h4=>?_)
  ·refine An (wa Aa (Ax (A0 (Ah ?_))));obtain rfl:=A2 h2;exact Az (BI OC (AR Aa)) (sC (sS (sC (sC (sC (sC sN)))))) ⟨hi,hh,Aa,Aa⟩
  ·refine A1 (AT (Av (An (wm Aa (wm Aa (wv (AK Aa) (vF HH Aa C1 (vL 0 Dm Aa (wv (C2 Aa Aa) (Ax (cz h4 Aa (λh5 h8=>?_) (λh5 h9=>?_))))))))))))
   ·refine An (wa Aa (Ax (A0 (Ah ?_))));obtain rfl:=A2 h8;exact Az (BI OC (AR Aa)) (sC (sS (sC (sC (sC (sC sN)))))) ⟨hi,hh,Aa,Aa⟩
   ·refine A1 (AT (Av (Av (Df [0,2,4] [⟨[],rP hd 0,0⟩,⟨[0],rP hd 0,0⟩,⟨[1],rP hd 2,0⟩,⟨[2],rv (.map (some ha)),1⟩,⟨[],rP b1 1,0⟩,⟨[4],rS op.fID,1⟩,⟨[3,5],Dk [Gp ha (AE d.fCalls op.fID (-1)) 0,rB (BB d.fCalls op.fID)],1⟩,⟨[6],Dk [Gp ha (AE d.fCalls op.fID (-1)) 0,rB (BB d.fCalls op.fID)],0⟩,⟨[7],Gp ha (AE d.fCalls op.fID (-1)) 0,0⟩,⟨[7],rB (BB d.fCalls op.fID),0⟩,⟨[8],Gp ha (AE d.fCalls op.fID (-1)) 0,0⟩,⟨[9],rB (BB d.fCalls op.fID),0⟩] [8,9,0,2,4] ?_ ?_))))
    ·refine oq (Ay Aa) (oq (AK Aa) (oq (AS HH Aa SA Aa Aa) (of (B1 (i:=0) SI Aa Aa Aa) (oq (AS BG Aa CF Aa Aa) (of (B1 (i:=1) CZ Aa Aa Aa) (of (HT (enc:=(mP ha)) (xs:=d.fCalls) (z:=(-1)) (i:=3) S7 Gn Ue (Sb ha) Aa Aa Aa) (oq (Ay Aa) (oq (AO Aa Aa) (oq (AO Aa Aa) (oq (AV Aa) (oq (AV Aa) ?_)))))))))));exact Di
    refine AT (An (wm Aa (Ax (cz h9 Aa (λhA hB=>?_) (λhA hC=>?_)))))
    ·refine Av (Av (ck hB λg17 hD=>ck hD λg19 hE=>Cu 5 [0,2,4,8] [⟨[],Gp ha (AE d.fCalls op.fID (-1)) 0,none,none,none⟩,⟨[0],Gp ha (AE d.fCalls op.fID (-1)) 0,none,none,none⟩,⟨[1],Gp ha (AE d.fCalls op.fID (-1)) 0,none,none,none⟩,⟨[2],Bd (Am ((Af d_p2 (AE d.fCalls op.fID (-1))).fOp)),none,none,none⟩,⟨[],Bd (Am op),none,none,none⟩] ?_ (λβ=>?_)))
     ·refine C5 (Ay Aa) (C5 (Dd Aa g17) (C5 (Mm C3 Aa Cc Aa g17 Aa) (Ii (HC (enc:=Ad) (xs:=d_p2) (j:=5) Es Cc Aa Aa g19 Aa Aa) (Ii (Bf (i:=1) Es Cc Aa Aa Aa Aa) ?_))));exact Ml
     refine C4 (H1:=[.blk hd [Aj d.fNow,rv (.map (some hb)),rv (.map (some ha))] 68,.blk b1 (Am op) 25,.map hb (AG (mP hb) d.fEntities),.map ha (AG (mP ha) d.fCalls),.poolw hb hi 87 88 1 (Ap (Ak ha) d_p1) none,.pool ha hh 44 (Ap Ad d_p2)]) [44,45,46,47,48,0,2,4,8] ?_;refine ob hE λhG hH hI=>Cl Tryz.call46 (UC F ((Af d_p2 (AE d.fCalls op.fID (-1))).fOp) op hG hH) Aa (wv (B8 Aa) (Ax (cz hI Aa (λhJ hK=>?_) (λhJ hL=>?_))))
     ·refine An (wa Aa (Ax (A0 (Ah (Ah ?_)))));obtain rfl:=A2 hK;exact Az (BI OC (AR Aa)) (sC (sS (sC (sC (sC (sC sN)))))) ⟨hi,hh,Aa,Aa⟩
     ·refine A1 (AT (An (wm Aa (wm Aa (wv (AK Aa) (vF HH Aa C1 (Cm (i:=0) C1 Aa Aa (C7 Aa) Aa Aa (cs':=[Aj now,rv (.map (some hb)),rv (.map (some ha))]) Aa (H':=[.blk hd [Aj now,rv (.map (some hb)),rv (.map (some ha))] 68,.blk b1 (Am op) 25,.map hb (AG (mP hb) d.fEntities),.map ha (AG (mP ha) d.fCalls),.poolw hb hi 87 88 1 (Ap (Ak ha) d_p1) none,.pool ha hh 44 (Ap Ad d_p2)]) Aa (B4 (wa Aa (Ax (A0 (Ah ?_))))))))))));obtain rfl:=A2 hL;exact Az (BI OC (AR Aa)) (sC (sS (sC (sC (sC (sC sN)))))) ⟨hi,hh,Aa,Aa⟩
    ·refine A1 (AT (Av (Df [0,2,4] [⟨[],rP hd 0,0⟩,⟨[0],rP hd 0,0⟩,⟨[1],rP hd 1,0⟩,⟨[2],rv (.map (some hb)),1⟩,⟨[],rP b1 0,0⟩,⟨[4],rS op.fEntity,1⟩,⟨[3,5],Dk [Gp hb (AE d.fEntities op.fEntity (-1)) 0,rB (BB d.fEntities op.fEntity)],1⟩,⟨[6],Dk [Gp hb (AE d.fEntities op.fEntity (-1)) 0,rB (BB d.fEntities op.fEntity)],0⟩,⟨[7],Gp hb (AE d.fEntities op.fEntity (-1)) 0,0⟩,⟨[7],rB (BB d.fEntities op.fEntity),0⟩,⟨[8],Gp hb (AE d.fEntities op.fEntity (-1)) 0,0⟩,⟨[9],rB (BB d.fEntities op.fEntity),0⟩] [10,11,0,2,4] ?_ ?_)))
     ·refine oq (Ay Aa) (oq (AK Aa) (oq (AS HH Aa O9 Aa Aa) (of (B1 (i:=0) OE Aa Aa Aa) (oq (AS BG Aa CF Aa Aa) (of (B1 (i:=1) CZ Aa Aa Aa) (of (HT (enc:=(mP hb)) (xs:=d.fEntities) (z:=(-1)) (i:=2) PP Gn Uf (Sb hb) Aa Aa Aa) (oq (Ay Aa) (oq (AO Aa Aa) (oq (AO Aa Aa) (oq (AV Aa) (oq (AV Aa) ?_)))))))))));exact Di
     refine AT (Av (AU [(0,rP hd 0),(2,Aj now),(4,rP b1 0),(10,Gp hb (AE d.fEntities op.fEntity (-1)) 0),(11,rB (BB d.fEntities op.fEntity)),(82,rB ((decide ((d.fCalls.length:Int)=256))||((!(BB d.fEntities op.fEntity))&&(decide ((d.fEntities.length:Int)=256)))))] [.blk hd [Aj d.fNow,rv (.map (some hb)),rv (.map (some ha))] 68,.blk b1 (Am op) 25,.map hb (AG (mP hb) d.fEntities),.map ha (AG (mP ha) d.fCalls),.poolw hb hi 87 88 1 (Ap (Ak ha) d_p1) none,.pool ha hh 44 (Ap Ad d_p2)] ?_ ?_))
     ·refine Au (wm Aa (wv (AK Aa) (vF HH Aa SA (vL 0 SI Aa (wv (r:=Aj (d.fCalls.length:Int)) (Tq (N:=d.fCalls.length) (i:=3) S7 Aa Aa (I7 _ _)) (wv (B5 Aa Aa) (wm Aa (AY (decide ((d.fCalls.length:Int)=256)) (λhk=>?_) (λhk=>?_)))))))))
      ·refine wf hk (wf hk (wf hk (wu (wu (wu (wu (wu (wu (wf hk (wv (r:=rB true) (Ar Aa hk Aa) (At ?_)))))))))));exact Cg hk
      ·refine wo hk (wm Aa (wo hk (wv (B8 Aa) (wo hk (wm Aa (AY (!(BB d.fEntities op.fEntity)) (λhj=>?_) (λhj=>?_)))))))
       ·refine wo hj (wm Aa (wo hj (wv (AK Aa) (wo hj (vF HH Aa O9 (wo hj (vL 0 OE Aa (wo hj (wv (r:=Aj (d.fEntities.length:Int)) (Tq (N:=d.fEntities.length) (i:=2) PP Aa Aa (I7 _ _)) (wo hj (wv (B5 Aa Aa) (wo hk (EP Aa hj Aa (DB Aa hk Aa (At ?_)))))))))))))));exact Cg (And.intro hk hj)
       ·refine wf hj (wf hj (wf hj (wf hj (wf hj (wf hj (wo hk (wv (r:=rB false) (AH Aa hj Aa) (DB Aa hk Aa (At ?_)))))))));exact Cg (And.intro hk hj)
     refine cz hC Aa (λhN hO=>?_) (λhN hP=>?_)
     ·refine An (wa Aa (Ax (A0 (Ah ?_))));obtain rfl:=A2 hO;exact Az (BI OC (AR Aa)) (sC (sS (sC (sC (sC (sC sN)))))) ⟨hi,hh,Aa,Aa⟩
     ·refine A1 (AT (Av (An (wm Aa (wv (B8 Aa) (Ax (cz hP Aa (λhQ hR=>?_) (λhQ hS=>?_))))))))
      ·refine An (ob hR λhe hT hU=>Cl Tryz.call47 (NL he hT) Aa (wv (r:=Bd [AD 4 (Ap Ab he),rv (.slice none 0 0),Aj 0]) (Pf Aa Aa) (BH Aa Aa (λhw=>?_))));refine wa Aa (Ax (Cu 7 [0,2,4,10] [⟨[],rP hd 0,none,none,none⟩,⟨[0],rP hd 0,none,none,none⟩,⟨[1],rP hd 1,none,none,none⟩,⟨[2],rv (.map (some hb)),none,none,none⟩,⟨[],rP b1 0,none,none,none⟩,⟨[4],rS op.fEntity,none,none,none⟩,⟨[],rP hw 0,none,none,none⟩] ?_ (λβ=>?_)))
       ·refine C5 (Ay Aa) (C5 (AK Aa) (C5 (AS HH Aa O9 Aa Aa) (Ii (B1 (i:=1) OE Aa Aa Aa) (C5 (AS BG Aa CF Aa Aa) (Ii (B1 (i:=2) CZ Aa Aa Aa) (C5 (Ay Aa) ?_))))));exact Ml
       refine C4 (H1:=[.blk hw [AD 4 (Ap Ab he),rv (.slice none 0 0),Aj 0] 87,.blk hd [Aj d.fNow,rv (.map (some hb)),rv (.map (some ha))] 68,.blk b1 (Am op) 25,.map hb (AG (mP hb) d.fEntities),.map ha (AG (mP ha) d.fCalls),.poolw hb hi 87 88 1 (Ap (Ak ha) d_p1) none,.pool ha hh 44 (Ap Ad d_p2)]) [88,89,90,91,92,93,94,0,2,4,10] ?_;refine WL.nilrow (e:=88) (sz:=1) (WL.adoptW (encw:=(Ak ha)) (xs:=d_p1) (y:=(As.mk he ([]:List Int) 0)) (Hr:=[.blk hd [Aj d.fNow,rv (.map (some hb)),rv (.map (some ha))] 68,.blk b1 (Am op) 25,.map hb (AG (mP hb) d.fEntities),.map ha (AG (mP ha) d.fCalls),.pool ha hh 44 (Ap Ad d_p2)]) ((Ae (i:=1) Aa).trans (WZ _ ((Ae (i:=0) Aa).trans (WZ _ ((Ae (i:=4) Aa).trans (WZ _ (Xd _))))))) [10,94] ⟨Aa,Aa,trivial⟩ Aa Aa (λhp=>?_));refine L8 (enc:=(mP hb)) (xs:=d.fEntities) (v:=(d_p1.length:Int)) (i:=3) PP Gn Aa Aa Aa Aa (H':=[.poolw hb hp 87 88 1 (Ap (Ak ha) (d_p1++[(As.mk he ([]:List Int) 0)])) none,.blk hd [Aj d.fNow,rv (.map (some hb)),rv (.map (some ha))] 68,.blk b1 (Am op) 25,.map hb (AG (mP hb) (mset d.fEntities op.fEntity (d_p1.length:Int))),.map ha (AG (mP ha) d.fCalls),.pool ha hh 44 (Ap Ad d_p2)]) Aa (B4 (wm Aa (wm Aa (wv (AK Aa) (vF HH Aa C1 (Cm (i:=1) C1 Aa Aa (C7 Aa) Aa Aa (cs':=[Aj now,rv (.map (some hb)),rv (.map (some ha))]) Aa (H':=[.poolw hb hp 87 88 1 (Ap (Ak ha) (d_p1++[(As.mk he ([]:List Int) 0)])) none,.blk hd [Aj now,rv (.map (some hb)),rv (.map (some ha))] 68,.blk b1 (Am op) 25,.map hb (AG (mP hb) (mset d.fEntities op.fEntity (d_p1.length:Int))),.map ha (AG (mP ha) d.fCalls),.pool ha hh 44 (Ap Ad d_p2)]) Aa (B4 (wv (Bf (i:=2) Es Cc Aa Aa Aa Aa) (ob hU λhf hV hW=>Cl Tryz.call48 (Mo F op hf hV) Aa (wm Aa (wv (r:=Bd [rS hf.fEntity,rS hf.fID,rS hf.fOp,AD 1 (Ap Ai hf.fArgs),Aj 0,rv (.slice none 0 0),Aj now,Aj (-1)]) (Gq Aa Aa Aa Aa Aa) (BH Aa Aa (λhx=>?_)))))))))))));refine wa Aa (B4 (wm Aa (wm Aa (ck hW λhy hX=>WL.takeout (encw:=(Ak ha)) (xs:=d_p1++[(As.mk he ([]:List Int) 0)]) (i:=(d_p1.length:Int)) (Hr:=[.blk hx [rS hf.fEntity,rS hf.fID,rS hf.fOp,AD 1 (Ap Ai hf.fArgs),Aj 0,rv (.slice none 0 0),Aj now,Aj (-1)] 44,.blk hd [Aj now,rv (.map (some hb)),rv (.map (some ha))] 68,.blk b1 (Am op) 25,.map hb (AG (mP hb) (mset d.fEntities op.fEntity (d_p1.length:Int))),.map ha (AG (mP ha) d.fCalls),.pool ha hh 44 (Ap Ad d_p2)]) ((Ae (i:=1) Aa).trans (WZ _ (Xd _))) hy [10,94,104,105] ⟨Aa,Aa,Aa,Aa,trivial⟩ (λhl hn=>?_)))));refine NI (H':=[.blk hl [AD 4 (Ap Ab ((Af (d_p1++[(As.mk he ([]:List Int) 0)]) (d_p1.length:Int)).fState)),rv hn,Aj ((Af (d_p1++[(As.mk he ([]:List Int) 0)]) (d_p1.length:Int)).fDone)] 87,.row hn 88 1 (Ap (eP ha) ((Af (d_p1++[(As.mk he ([]:List Int) 0)]) (d_p1.length:Int)).fCalls)),.poolw hb hp 87 88 1 (Ap (Ak ha) (d_p1++[(As.mk he ([]:List Int) 0)])) (some (BU (d_p1.length:Int),(hl,hn))),.blk hx [rS hf.fEntity,rS hf.fID,rS hf.fOp,AD 1 (Ap Ai hf.fArgs),Aj 0,rv (.slice none 0 0),Aj now,Aj (-1)] 44,.blk hd [Aj now,rv (.map (some hb)),rv (.map (some ha))] 68,.blk b1 (Am op) 25,.map hb (AG (mP hb) (mset d.fEntities op.fEntity (d_p1.length:Int))),.map ha (AG (mP ha) d.fCalls),.pool ha hh 44 (Ap Ad d_p2)]) Aa (wv (AK Aa) (vF JP Aa NH (vL 0 SH Aa (wm Aa (WL.upBlk (i:=3) (cs':=[rS hf.fEntity,rS hf.fID,rS hf.fOp,AD 1 (Ap Ai hf.fArgs),Aj 0,AD 4 (Ap Ab ([]:List Ac)),Aj now,Aj (-1)]) Aa ⟨Up.refl _,Up.refl _,Up.refl _,Up.refl _,Up.refl _,Up.le (Gx.nil _),Up.refl _,Up.refl _,trivial⟩ (WL.adopt (enc:=Ad) (xs:=d_p2) (y:=(Al.mk hf (A8.mk 0 ([]:List Ac)) now (-1))) (Hr:=[.blk hl [AD 4 (Ap Ab ((Af (d_p1++[(As.mk he ([]:List Int) 0)]) (d_p1.length:Int)).fState)),rv hn,Aj ((Af (d_p1++[(As.mk he ([]:List Int) 0)]) (d_p1.length:Int)).fDone)] 87,.row hn 88 1 (Ap (eP ha) ((Af (d_p1++[(As.mk he ([]:List Int) 0)]) (d_p1.length:Int)).fCalls)),.poolw hb hp 87 88 1 (Ap (Ak ha) (d_p1++[(As.mk he ([]:List Int) 0)])) (some (BU (d_p1.length:Int),(hl,hn))),.blk hd [Aj now,rv (.map (some hb)),rv (.map (some ha))] 68,.blk b1 (Am op) 25,.map hb (AG (mP hb) (mset d.fEntities op.fEntity (d_p1.length:Int))),.map ha (AG (mP ha) d.fCalls)]) ((Ae (i:=3) Aa).trans (WZ _ ((Ae (i:=7) Aa).trans (WZ _ (Xd _))))) [12,103,109] ⟨Aa,Aa,Aa,trivial⟩ Aa (λhs=>?_)))))));refine Bl (ys:=([(d_p2.length:Int)]:List Int)) (enc:=(eP ha)) (css:=[[Gp ha (d_p2.length:Int) 0]]) (xs:=[.tmp 109]) O5 Ug Ue Aa Aa Aa ⟨Jm.one Aa (Up.refl _),trivial⟩ Aa (Om ha) Aa Aa Aa (λht=>?_);refine ck hX λhY hZ=>Exists.elim TD λinf hinf=>Da (xs:=(Af (d_p1++[(As.mk he ([]:List Int) 0)]) (d_p1.length:Int)).fCalls) (ys:=([(d_p2.length:Int)]:List Int)) (enc:=(eP ha)) (i:=3) O5 hinf.1 hinf.2.1 hinf.2.2.1 hinf.2.2.2 Aa Aa Aa Aa Aa (MK.w (i:=0) Aa Aa) (Om ha) (TR ha) hY Aa (λhq=>?_);refine wv (AK Aa) (vF JP Aa NH (Cm (i:=3) NH Aa Aa (IT (i:=0) Aa) Aa Aa (cs':=[AD 4 (Ap Ab ((Af (d_p1++[(As.mk he ([]:List Int) 0)]) (d_p1.length:Int)).fState)),rv hq,Aj ((Af (d_p1++[(As.mk he ([]:List Int) 0)]) (d_p1.length:Int)).fDone)]) Aa (H':=[.row hq 88 1 (Ap (eP ha) (((Af (d_p1++[(As.mk he ([]:List Int) 0)]) (d_p1.length:Int)).fCalls)++([(d_p2.length:Int)]:List Int))),.row (.slice (some ⟨ht,0,none⟩) 1 1) 88 1 (Ap (eP ha) ([(d_p2.length:Int)]:List Int)),.pool ha hs 44 (Ap Ad (d_p2++[(Al.mk hf (A8.mk 0 ([]:List Ac)) now (-1))])),.blk hl [AD 4 (Ap Ab ((Af (d_p1++[(As.mk he ([]:List Int) 0)]) (d_p1.length:Int)).fState)),rv hq,Aj ((Af (d_p1++[(As.mk he ([]:List Int) 0)]) (d_p1.length:Int)).fDone)] 87,.poolw hb hp 87 88 1 (Ap (Ak ha) (d_p1++[(As.mk he ([]:List Int) 0)])) (some (BU (d_p1.length:Int),(hl,hn))),.blk hd [Aj now,rv (.map (some hb)),rv (.map (some ha))] 68,.blk b1 (Am op) 25,.map hb (AG (mP hb) (mset d.fEntities op.fEntity (d_p1.length:Int))),.map ha (AG (mP ha) d.fCalls)]) Aa (Ax (Av (Cu 7 [0,4,12] [⟨[],rP hd 0,none,none,none⟩,⟨[0],rP hd 0,none,none,none⟩,⟨[1],rP hd 2,none,none,none⟩,⟨[2],rv (.map (some ha)),none,none,none⟩,⟨[],rP b1 1,none,none,none⟩,⟨[4],rS op.fID,none,none,none⟩,⟨[],Gp ha (d_p2.length:Int) 0,none,none,none⟩] ?_ (λβ=>?_))))))
       ·refine C5 (Ay Aa) (C5 (AK Aa) (C5 (AS HH Aa SA Aa Aa) (Ii (B1 (i:=5) SI Aa Aa Aa) (C5 (AS BG Aa CF Aa Aa) (Ii (B1 (i:=6) CZ Aa Aa Aa) (C5 (Ay Aa) ?_))))));exact Ml
       refine C4 (H1:=[.row hq 88 1 (Ap (eP ha) (((Af (d_p1++[(As.mk he ([]:List Int) 0)]) (d_p1.length:Int)).fCalls)++([(d_p2.length:Int)]:List Int))),.row (.slice (some ⟨ht,0,none⟩) 1 1) 88 1 (Ap (eP ha) ([(d_p2.length:Int)]:List Int)),.pool ha hs 44 (Ap Ad (d_p2++[(Al.mk hf (A8.mk 0 ([]:List Ac)) now (-1))])),.blk hl [AD 4 (Ap Ab ((Af (d_p1++[(As.mk he ([]:List Int) 0)]) (d_p1.length:Int)).fState)),rv hq,Aj ((Af (d_p1++[(As.mk he ([]:List Int) 0)]) (d_p1.length:Int)).fDone)] 87,.poolw hb hp 87 88 1 (Ap (Ak ha) (d_p1++[(As.mk he ([]:List Int) 0)])) (some (BU (d_p1.length:Int),(hl,hn))),.blk hd [Aj now,rv (.map (some hb)),rv (.map (some ha))] 68,.blk b1 (Am op) 25,.map hb (AG (mP hb) (mset d.fEntities op.fEntity (d_p1.length:Int))),.map ha (AG (mP ha) d.fCalls)]) [114,115,116,117,118,119,120,0,4,12] ?_;refine L8 (enc:=(mP ha)) (xs:=d.fCalls) (v:=(d_p2.length:Int)) (i:=8) S7 Gn Aa Aa Aa Aa (H':=[.row hq 88 1 (Ap (eP ha) (((Af (d_p1++[(As.mk he ([]:List Int) 0)]) (d_p1.length:Int)).fCalls)++([(d_p2.length:Int)]:List Int))),.row (.slice (some ⟨ht,0,none⟩) 1 1) 88 1 (Ap (eP ha) ([(d_p2.length:Int)]:List Int)),.pool ha hs 44 (Ap Ad (d_p2++[(Al.mk hf (A8.mk 0 ([]:List Ac)) now (-1))])),.blk hl [AD 4 (Ap Ab ((Af (d_p1++[(As.mk he ([]:List Int) 0)]) (d_p1.length:Int)).fState)),rv hq,Aj ((Af (d_p1++[(As.mk he ([]:List Int) 0)]) (d_p1.length:Int)).fDone)] 87,.poolw hb hp 87 88 1 (Ap (Ak ha) (d_p1++[(As.mk he ([]:List Int) 0)])) (some (BU (d_p1.length:Int),(hl,hn))),.blk hd [Aj now,rv (.map (some hb)),rv (.map (some ha))] 68,.blk b1 (Am op) 25,.map hb (AG (mP hb) (mset d.fEntities op.fEntity (d_p1.length:Int))),.map ha (AG (mP ha) (mset d.fCalls op.fID (d_p2.length:Int)))]) Aa (B4 (wa Aa (Ax (A0 (WK.putback (y:=(As.mk ((Af (d_p1++[(As.mk he ([]:List Int) 0)]) (d_p1.length:Int)).fState) (((Af (d_p1++[(As.mk he ([]:List Int) 0)]) (d_p1.length:Int)).fCalls)++([(d_p2.length:Int)]:List Int)) ((Af (d_p1++[(As.mk he ([]:List Int) 0)]) (d_p1.length:Int)).fDone))) (encw:=(Ak ha)) (xs:=d_p1++[(As.mk he ([]:List Int) 0)]) (i:=(d_p1.length:Int)) (Hr:=[.row (.slice (some ⟨ht,0,none⟩) 1 1) 88 1 (Ap (eP ha) ([(d_p2.length:Int)]:List Int)),.pool ha hs 44 (Ap Ad (d_p2++[(Al.mk hf (A8.mk 0 ([]:List Ac)) now (-1))])),.blk hd [Aj now,rv (.map (some hb)),rv (.map (some ha))] 68,.blk b1 (Am op) 25,.map hb (AG (mP hb) (mset d.fEntities op.fEntity (d_p1.length:Int))),.map ha (AG (mP ha) (mset d.fCalls op.fID (d_p2.length:Int)))]) ((Ae (i:=3) Aa).trans (WZ _ ((Ae (i:=0) Aa).trans (WZ _ ((Ae (i:=2) Aa).trans (WZ _ (Xd _))))))) hy [] trivial Aa Aa (λv53=>?_))))));refine BV (H2:=[.blk hd [Aj now,rv (.map (some hb)),rv (.map (some ha))] 68,.map hb (AG (mP hb) (mset d.fEntities op.fEntity (d_p1.length:Int))),.map ha (AG (mP ha) (mset d.fCalls op.fID (d_p2.length:Int))),.poolw hb v53 87 88 1 (Ap (Ak ha) (List.set (d_p1++[(As.mk he ([]:List Int) 0)]) (BU (d_p1.length:Int)) (As.mk ((Af (d_p1++[(As.mk he ([]:List Int) 0)]) (d_p1.length:Int)).fState) (((Af (d_p1++[(As.mk he ([]:List Int) 0)]) (d_p1.length:Int)).fCalls)++([(d_p2.length:Int)]:List Int)) ((Af (d_p1++[(As.mk he ([]:List Int) 0)]) (d_p1.length:Int)).fDone)))) none,.pool ha hs 44 (Ap Ad (d_p2++[(Al.mk hf (A8.mk 0 ([]:List Ac)) now (-1))])),.row (.slice (some ⟨ht,0,none⟩) 1 1) 88 1 (Ap (eP ha) ([(d_p2.length:Int)]:List Int)),.blk b1 (Am op) 25]) ((Ae (i:=3) Aa).trans (WZ _ ((Ae (i:=4) Aa).trans (WZ _ ((Ae (i:=4) Aa).trans (WZ _ ((Ae (i:=0) Aa).trans (WZ _ ((Ae (i:=1) Aa).trans (WZ _ (Xd _))))))))))) ?_;obtain rfl:=A2 hZ;exact Az (BI OC (AR Aa)) (sC (sC (sC (sC (sC (sS (sS sN))))))) ⟨v53,hs,Aa,Aa⟩
      ·refine A1 (AT (An (wm Aa (wm Aa (wv (AK Aa) (vF HH Aa C1 (Cm (i:=0) C1 Aa Aa (C7 Aa) Aa Aa (cs':=[Aj now,rv (.map (some hb)),rv (.map (some ha))]) Aa (H':=[.blk hd [Aj now,rv (.map (some hb)),rv (.map (some ha))] 68,.blk b1 (Am op) 25,.map hb (AG (mP hb) d.fEntities),.map ha (AG (mP ha) d.fCalls),.poolw hb hi 87 88 1 (Ap (Ak ha) d_p1) none,.pool ha hh 44 (Ap Ad d_p2)]) Aa (B4 (wv (Bf (i:=1) Es Cc Aa Aa Aa Aa) (ob hS λhg ga gb=>Cl Tryz.call48 (Mo F op hg ga) Aa (wm Aa (wv (r:=Bd [rS hg.fEntity,rS hg.fID,rS hg.fOp,AD 1 (Ap Ai hg.fArgs),Aj 0,rv (.slice none 0 0),Aj now,Aj (-1)]) (Gq Aa Aa Aa Aa Aa) (BH Aa Aa (λhz=>?_))))))))))))));refine wa Aa (B4 (wm Aa (wm Aa (ck gb λh0 gc=>WL.takeout (encw:=(Ak ha)) (xs:=d_p1) (i:=AE d.fEntities op.fEntity (-1)) (Hr:=[.blk hz [rS hg.fEntity,rS hg.fID,rS hg.fOp,AD 1 (Ap Ai hg.fArgs),Aj 0,rv (.slice none 0 0),Aj now,Aj (-1)] 44,.blk hd [Aj now,rv (.map (some hb)),rv (.map (some ha))] 68,.blk b1 (Am op) 25,.map hb (AG (mP hb) d.fEntities),.map ha (AG (mP ha) d.fCalls),.pool ha hh 44 (Ap Ad d_p2)]) ((Ae (i:=5) Aa).trans (WZ _ (Xd _))) h0 [10,104,105] ⟨Aa,Aa,Aa,trivial⟩ (λhm ho=>?_)))));refine NI (H':=[.blk hm [AD 4 (Ap Ab ((Af d_p1 (AE d.fEntities op.fEntity (-1))).fState)),rv ho,Aj ((Af d_p1 (AE d.fEntities op.fEntity (-1))).fDone)] 87,.row ho 88 1 (Ap (eP ha) ((Af d_p1 (AE d.fEntities op.fEntity (-1))).fCalls)),.poolw hb hi 87 88 1 (Ap (Ak ha) d_p1) (some (BU (AE d.fEntities op.fEntity (-1)),(hm,ho))),.blk hz [rS hg.fEntity,rS hg.fID,rS hg.fOp,AD 1 (Ap Ai hg.fArgs),Aj 0,rv (.slice none 0 0),Aj now,Aj (-1)] 44,.blk hd [Aj now,rv (.map (some hb)),rv (.map (some ha))] 68,.blk b1 (Am op) 25,.map hb (AG (mP hb) d.fEntities),.map ha (AG (mP ha) d.fCalls),.pool ha hh 44 (Ap Ad d_p2)]) Aa (wv (AK Aa) (vF JP Aa NH (vL 0 SH Aa (wm Aa (WL.upBlk (i:=3) (cs':=[rS hg.fEntity,rS hg.fID,rS hg.fOp,AD 1 (Ap Ai hg.fArgs),Aj 0,AD 4 (Ap Ab ([]:List Ac)),Aj now,Aj (-1)]) Aa ⟨Up.refl _,Up.refl _,Up.refl _,Up.refl _,Up.refl _,Up.le (Gx.nil _),Up.refl _,Up.refl _,trivial⟩ (WL.adopt (enc:=Ad) (xs:=d_p2) (y:=(Al.mk hg (A8.mk 0 ([]:List Ac)) now (-1))) (Hr:=[.blk hm [AD 4 (Ap Ab ((Af d_p1 (AE d.fEntities op.fEntity (-1))).fState)),rv ho,Aj ((Af d_p1 (AE d.fEntities op.fEntity (-1))).fDone)] 87,.row ho 88 1 (Ap (eP ha) ((Af d_p1 (AE d.fEntities op.fEntity (-1))).fCalls)),.poolw hb hi 87 88 1 (Ap (Ak ha) d_p1) (some (BU (AE d.fEntities op.fEntity (-1)),(hm,ho))),.blk hd [Aj now,rv (.map (some hb)),rv (.map (some ha))] 68,.blk b1 (Am op) 25,.map hb (AG (mP hb) d.fEntities),.map ha (AG (mP ha) d.fCalls)]) ((Ae (i:=3) Aa).trans (WZ _ ((Ae (i:=7) Aa).trans (WZ _ (Xd _))))) [12,103,109] ⟨Aa,Aa,Aa,trivial⟩ Aa (λv64=>?_)))))));refine Bl (ys:=([(d_p2.length:Int)]:List Int)) (enc:=(eP ha)) (css:=[[Gp ha (d_p2.length:Int) 0]]) (xs:=[.tmp 109]) O5 Ug Ue Aa Aa Aa ⟨Jm.one Aa (Up.refl _),trivial⟩ Aa (Om ha) Aa Aa Aa (λhu=>?_);refine ck gc λgd ge=>Exists.elim TD λinf hinf=>Da (xs:=(Af d_p1 (AE d.fEntities op.fEntity (-1))).fCalls) (ys:=([(d_p2.length:Int)]:List Int)) (enc:=(eP ha)) (i:=3) O5 hinf.1 hinf.2.1 hinf.2.2.1 hinf.2.2.2 Aa Aa Aa Aa Aa (MK.w (i:=0) Aa Aa) (Om ha) (TR ha) gd Aa (λhr=>?_);refine wv (AK Aa) (vF JP Aa NH (Cm (i:=3) NH Aa Aa (IT (i:=0) Aa) Aa Aa (cs':=[AD 4 (Ap Ab ((Af d_p1 (AE d.fEntities op.fEntity (-1))).fState)),rv hr,Aj ((Af d_p1 (AE d.fEntities op.fEntity (-1))).fDone)]) Aa (H':=[.row hr 88 1 (Ap (eP ha) (((Af d_p1 (AE d.fEntities op.fEntity (-1))).fCalls)++([(d_p2.length:Int)]:List Int))),.row (.slice (some ⟨hu,0,none⟩) 1 1) 88 1 (Ap (eP ha) ([(d_p2.length:Int)]:List Int)),.pool ha v64 44 (Ap Ad (d_p2++[(Al.mk hg (A8.mk 0 ([]:List Ac)) now (-1))])),.blk hm [AD 4 (Ap Ab ((Af d_p1 (AE d.fEntities op.fEntity (-1))).fState)),rv hr,Aj ((Af d_p1 (AE d.fEntities op.fEntity (-1))).fDone)] 87,.poolw hb hi 87 88 1 (Ap (Ak ha) d_p1) (some (BU (AE d.fEntities op.fEntity (-1)),(hm,ho))),.blk hd [Aj now,rv (.map (some hb)),rv (.map (some ha))] 68,.blk b1 (Am op) 25,.map hb (AG (mP hb) d.fEntities),.map ha (AG (mP ha) d.fCalls)]) Aa (Ax (Av (Cu 7 [0,4,12] [⟨[],rP hd 0,none,none,none⟩,⟨[0],rP hd 0,none,none,none⟩,⟨[1],rP hd 2,none,none,none⟩,⟨[2],rv (.map (some ha)),none,none,none⟩,⟨[],rP b1 1,none,none,none⟩,⟨[4],rS op.fID,none,none,none⟩,⟨[],Gp ha (d_p2.length:Int) 0,none,none,none⟩] ?_ (λβ=>?_))))))
       ·refine C5 (Ay Aa) (C5 (AK Aa) (C5 (AS HH Aa SA Aa Aa) (Ii (B1 (i:=5) SI Aa Aa Aa) (C5 (AS BG Aa CF Aa Aa) (Ii (B1 (i:=6) CZ Aa Aa Aa) (C5 (Ay Aa) ?_))))));exact Ml
       refine C4 (H1:=[.row hr 88 1 (Ap (eP ha) (((Af d_p1 (AE d.fEntities op.fEntity (-1))).fCalls)++([(d_p2.length:Int)]:List Int))),.row (.slice (some ⟨hu,0,none⟩) 1 1) 88 1 (Ap (eP ha) ([(d_p2.length:Int)]:List Int)),.pool ha v64 44 (Ap Ad (d_p2++[(Al.mk hg (A8.mk 0 ([]:List Ac)) now (-1))])),.blk hm [AD 4 (Ap Ab ((Af d_p1 (AE d.fEntities op.fEntity (-1))).fState)),rv hr,Aj ((Af d_p1 (AE d.fEntities op.fEntity (-1))).fDone)] 87,.poolw hb hi 87 88 1 (Ap (Ak ha) d_p1) (some (BU (AE d.fEntities op.fEntity (-1)),(hm,ho))),.blk hd [Aj now,rv (.map (some hb)),rv (.map (some ha))] 68,.blk b1 (Am op) 25,.map hb (AG (mP hb) d.fEntities),.map ha (AG (mP ha) d.fCalls)]) [114,115,116,117,118,119,120,0,4,12] ?_;refine L8 (enc:=(mP ha)) (xs:=d.fCalls) (v:=(d_p2.length:Int)) (i:=8) S7 Gn Aa Aa Aa Aa (H':=[.row hr 88 1 (Ap (eP ha) (((Af d_p1 (AE d.fEntities op.fEntity (-1))).fCalls)++([(d_p2.length:Int)]:List Int))),.row (.slice (some ⟨hu,0,none⟩) 1 1) 88 1 (Ap (eP ha) ([(d_p2.length:Int)]:List Int)),.pool ha v64 44 (Ap Ad (d_p2++[(Al.mk hg (A8.mk 0 ([]:List Ac)) now (-1))])),.blk hm [AD 4 (Ap Ab ((Af d_p1 (AE d.fEntities op.fEntity (-1))).fState)),rv hr,Aj ((Af d_p1 (AE d.fEntities op.fEntity (-1))).fDone)] 87,.poolw hb hi 87 88 1 (Ap (Ak ha) d_p1) (some (BU (AE d.fEntities op.fEntity (-1)),(hm,ho))),.blk hd [Aj now,rv (.map (some hb)),rv (.map (some ha))] 68,.blk b1 (Am op) 25,.map hb (AG (mP hb) d.fEntities),.map ha (AG (mP ha) (mset d.fCalls op.fID (d_p2.length:Int)))]) Aa (B4 (wa Aa (Ax (A0 (WK.putback (y:=(As.mk ((Af d_p1 (AE d.fEntities op.fEntity (-1))).fState) (((Af d_p1 (AE d.fEntities op.fEntity (-1))).fCalls)++([(d_p2.length:Int)]:List Int)) ((Af d_p1 (AE d.fEntities op.fEntity (-1))).fDone))) (encw:=(Ak ha)) (xs:=d_p1) (i:=AE d.fEntities op.fEntity (-1)) (Hr:=[.row (.slice (some ⟨hu,0,none⟩) 1 1) 88 1 (Ap (eP ha) ([(d_p2.length:Int)]:List Int)),.pool ha v64 44 (Ap Ad (d_p2++[(Al.mk hg (A8.mk 0 ([]:List Ac)) now (-1))])),.blk hd [Aj now,rv (.map (some hb)),rv (.map (some ha))] 68,.blk b1 (Am op) 25,.map hb (AG (mP hb) d.fEntities),.map ha (AG (mP ha) (mset d.fCalls op.fID (d_p2.length:Int)))]) ((Ae (i:=3) Aa).trans (WZ _ ((Ae (i:=0) Aa).trans (WZ _ ((Ae (i:=2) Aa).trans (WZ _ (Xd _))))))) h0 [] trivial Aa Aa (λh1=>?_))))));refine BV (H2:=[.blk hd [Aj now,rv (.map (some hb)),rv (.map (some ha))] 68,.map hb (AG (mP hb) d.fEntities),.map ha (AG (mP ha) (mset d.fCalls op.fID (d_p2.length:Int))),.poolw hb h1 87 88 1 (Ap (Ak ha) (List.set d_p1 (BU (AE d.fEntities op.fEntity (-1))) (As.mk ((Af d_p1 (AE d.fEntities op.fEntity (-1))).fState) (((Af d_p1 (AE d.fEntities op.fEntity (-1))).fCalls)++([(d_p2.length:Int)]:List Int)) ((Af d_p1 (AE d.fEntities op.fEntity (-1))).fDone)))) none,.pool ha v64 44 (Ap Ad (d_p2++[(Al.mk hg (A8.mk 0 ([]:List Ac)) now (-1))])),.row (.slice (some ⟨hu,0,none⟩) 1 1) 88 1 (Ap (eP ha) ([(d_p2.length:Int)]:List Int)),.blk b1 (Am op) 25]) ((Ae (i:=3) Aa).trans (WZ _ ((Ae (i:=4) Aa).trans (WZ _ ((Ae (i:=4) Aa).trans (WZ _ ((Ae (i:=0) Aa).trans (WZ _ ((Ae (i:=1) Aa).trans (WZ _ (Xd _))))))))))) ?_;obtain rfl:=A2 ge;exact Az (BI OC (AR Aa)) (sC (sC (sC (sC (sC (sS (sS sN))))))) ⟨h1,v64,Aa,Aa⟩
theorem Oe (F:Nat)(hi:Nat)(hb:Nat)(ha:Nat)(hk:Value)(hg:Value)(d:A5)(d_p1:(List As))(d_p2:(List Al))(e:Aq)(now:Int)(r:Al×Bool×A5×(List As)×(List Al))(h:I5 F d d_p1 d_p2 e now=some r):Fn Tryz.prog GE 17 [rP hi 0,rS e,Aj now] [.blk hi [Aj d.fNow,rv (.map (some hb)),rv (.map (some ha))] 68,.map hb (AG (mP hb) d.fEntities),.map ha (AG (mP ha) d.fCalls),.poolw hb hk 87 88 1 (Ap (Ak ha) d_p1) none,.pool ha hg 44 (Ap Ad d_p2)] (λR H=>∃w0_p1:Value,∃w0_p2:Value,R=Dk [Bd (Ad r.1),rB r.2.1]∧H=[.blk hi [Aj r.2.2.1.fNow,rv (.map (some hb)),rv (.map (some ha))] 68,.map hb (AG (mP hb) r.2.2.1.fEntities),.map ha (AG (mP ha) r.2.2.1.fCalls),.poolw hb w0_p1 87 88 1 (Ap (Ak ha) r.2.2.2.1) none,.pool ha w0_p2 44 (Ap Ad r.2.2.2.2)]):=by
 refine enter (n:=107) Tryz.func17 Aa Tryz.ntmps17 Aa (λw Z=>?_);unfold I5 at h;refine An (B3 (cs:=[rS ([]:Aq),rS ([]:Aq),rS ([]:Aq),rv (.slice none 0 0),Aj 0,rv (.slice none 0 0),Aj 0,Aj 0]) KB Aa Aa (λb1=>?_));refine wa Aa (Ax (Av (Co (S:=(Bool)×(Unit)) (λσ=>DS F d d_p1 d_p2 e now σ.1=some r) (λσ=>[(0,rP hi 0),(1,rS e),(2,Aj now),(6,rP b1 0),(28,rB σ.1)]) (λσ=>[.blk hi [Aj d.fNow,rv (.map (some hb)),rv (.map (some ha))] 68,.blk b1 [rS ([]:Aq),rS ([]:Aq),rS ([]:Aq),rv (.slice none 0 0),Aj 0,rv (.slice none 0 0),Aj 0,Aj 0] 44,.map hb (AG (mP hb) d.fEntities),.map ha (AG (mP ha) d.fCalls),.poolw hb hk 87 88 1 (Ap (Ak ha) d_p1) none,.pool ha hg 44 (Ap Ad d_p2)]) ?_ ?_)))
 ·refine Au (wm Aa (ER (Hr:=[.blk b1 [rS ([]:Aq),rS ([]:Aq),rS ([]:Aq),rv (.slice none 0 0),Aj 0,rv (.slice none 0 0),Aj 0,Aj 0] 44,.map hb (AG (mP hb) d.fEntities),.map ha (AG (mP ha) d.fCalls),.poolw hb hk 87 88 1 (Ap (Ak ha) d_p1) none,.pool ha hg 44 (Ap Ad d_p2)]) Ry (IZ hi hb ha d true Aa) Aa ((Ae (i:=1) Aa).trans (WZ _ (Xd _))) Aa ?_));rintro _ _ ⟨rfl,rfl⟩;refine wv (B8 Aa) (wm Aa (Bz (b:=!true) Aa Aa (Eg Aa) (wm Aa (Bz (b:=!true) Aa Aa (Eg Aa) (wm Aa (Bz (b:=!true) Aa Aa (Eg Aa) (wv (AK Aa) (Bz (b:=!true) Aa Aa (Eg Aa) (vF HH Aa C1 (Bz (b:=!true) Aa Aa (Eg Aa) (vL 0 Dm Aa (Bz (b:=!true) Aa Aa (Eg Aa) (wv (C2 Aa Aa) (wv (r:=rB (decide (now<d.fNow))) (AH (b:=!true) Aa (Eg Aa) Aa) (wm Aa (bz h (λc6 h7=>?_) (λc6 h8=>?_)))))))))))))))))
  ·exact wf c6 (wf c6 (wv (r:=rB true) (Ar Aa c6 Aa) (At (AC (AA (true,()) h7 (AJ.c5 Aa Aa Aa Aa Aa AJ.nil) (sC (sC (sC (sC (sC (sC sN)))))))))))
  ·exact wo c6 (wm Aa (wo c6 (wv (DQ Aa Aa) (DB Aa c6 Aa (At (AC (AA (decide (1073741824<now),()) h8 (AJ.c5 Aa Aa Aa Aa Aa AJ.nil) (sC (sC (sC (sC (sC (sC sN)))))))))))))
 ·rintro⟨x5,⟨⟩⟩ h9;refine BM (l':=[(0,rP hi 0),(1,rS e),(2,Aj now),(6,rP b1 0),(28,rB x5)]) (H':=[.blk hi [Aj d.fNow,rv (.map (some hb)),rv (.map (some ha))] 68,.blk b1 [rS ([]:Aq),rS ([]:Aq),rS ([]:Aq),rv (.slice none 0 0),Aj 0,rv (.slice none 0 0),Aj 0,Aj 0] 44,.map hb (AG (mP hb) d.fEntities),.map ha (AG (mP ha) d.fCalls),.poolw hb hk 87 88 1 (Ap (Ak ha) d_p1) none,.pool ha hg 44 (Ap Ad d_p2)]) Aa Aa ?_;replace h9:DS F d d_p1 d_p2 e now x5=some r:=h9;unfold DS at h9;refine cz h9 Aa (λhu hw=>?_) (λhu hx=>?_)
  ·refine An (wv (r:=Bd [rS ([]:Aq),rS ([]:Aq),rS ([]:Aq),rv (.slice none 0 0),Aj 0,rv (.slice none 0 0),Aj 0,Aj 0]) (Gb ) (AF (i:=1) BL Aa Aa Aa (Be.c Aa) Aa Aa (cs':=[rS ([]:Aq),rS ([]:Aq),rS ([]:Aq),rv (.slice none 0 0),Aj 0,rv (.slice none 0 0),Aj 0,Aj 0]) Aa (H':=[.blk hi [Aj d.fNow,rv (.map (some hb)),rv (.map (some ha))] 68,.blk b1 [rS ([]:Aq),rS ([]:Aq),rS ([]:Aq),rv (.slice none 0 0),Aj 0,rv (.slice none 0 0),Aj 0,Aj 0] 44,.map hb (AG (mP hb) d.fEntities),.map ha (AG (mP ha) d.fCalls),.poolw hb hk 87 88 1 (Ap (Ak ha) d_p1) none,.pool ha hg 44 (Ap Ad d_p2)]) Aa (wa Aa (Ax (A0 (Ah (WK.upBlk (i:=1) (cs':=[rS ([]:Aq),rS ([]:Aq),rS ([]:Aq),AD 1 (Ap Ai ([]:List (List Ac))),Aj 0,AD 4 (Ap Ab ([]:List Ac)),Aj 0,Aj 0]) Aa ⟨Up.refl _,Up.refl _,Up.refl _,Up.le (Gx.nil _),Up.refl _,Up.le (Gx.nil _),Up.refl _,Up.refl _,trivial⟩ ?_)))))));obtain rfl:=A2 hw;exact Az (Ix SE (BO (i:=1) In BL Aa Aa Aa) (AR Aa)) (sC (sS (sC (sC (sC (sC sN)))))) ⟨hk,hg,Aa,Aa⟩
  ·refine A1 (AT (An (wm Aa (wv (AK Aa) (vF HH Aa O9 (vL 0 OE Aa (wm Aa (wv (r:=Dk [Gp hb (AE d.fEntities e (-1)) 0,rB (BB d.fEntities e)]) (HT (enc:=(mP hb)) (xs:=d.fEntities) (z:=(-1)) (i:=2) PP Gn Uf (Sb hb) Aa Aa Aa) (wm Aa (wv (AO Aa Aa) (wv (AO Aa Aa) (wa Aa (wa Aa (Ax (Av (Av (bz hx (λhj hy=>?_) (λhj hz=>?_))))))))))))))))))
   ·refine ck hy λhq h0=>WC.takeout (encw:=(Ak ha)) (xs:=d_p1) (i:=AE d.fEntities e (-1)) (Hr:=[.blk hi [Aj d.fNow,rv (.map (some hb)),rv (.map (some ha))] 68,.blk b1 [rS ([]:Aq),rS ([]:Aq),rS ([]:Aq),rv (.slice none 0 0),Aj 0,rv (.slice none 0 0),Aj 0,Aj 0] 44,.map hb (AG (mP hb) d.fEntities),.map ha (AG (mP ha) d.fCalls),.pool ha hg 44 (Ap Ad d_p2)]) ((Ae (i:=4) Aa).trans (WZ _ (Xd _))) hq [8,37] ⟨Aa,Aa,trivial⟩ (λhe hf=>?_);refine BM (l':=_) (H':=[.blk he [AD 4 (Ap Ab ((Af d_p1 (AE d.fEntities e (-1))).fState)),rv hf,Aj ((Af d_p1 (AE d.fEntities e (-1))).fDone)] 87,.row hf 88 1 (Ap (eP ha) ((Af d_p1 (AE d.fEntities e (-1))).fCalls)),.poolw hb hk 87 88 1 (Ap (Ak ha) d_p1) (some (BU (AE d.fEntities e (-1)),(he,hf))),.blk hi [Aj d.fNow,rv (.map (some hb)),rv (.map (some ha))] 68,.blk b1 [rS ([]:Aq),rS ([]:Aq),rS ([]:Aq),rv (.slice none 0 0),Aj 0,rv (.slice none 0 0),Aj 0,Aj 0] 44,.map hb (AG (mP hb) d.fEntities),.map ha (AG (mP ha) d.fCalls),.pool ha hg 44 (Ap Ad d_p2)]) Aa Aa (Df [0,2,6,8,9] [⟨[],rB (BB d.fEntities e),0⟩,⟨[0],rB (!(BB d.fEntities e)),0⟩,⟨[1],rB (!(BB d.fEntities e)),0⟩,⟨[2],rP he 0,0⟩,⟨[3,2],rP he 0,0⟩,⟨[4,2],rP he 2,0⟩,⟨[5,2],Aj ((Af d_p1 (AE d.fEntities e (-1))).fDone),1⟩,⟨[2],rP he 0,0⟩,⟨[7,2],rP he 0,0⟩,⟨[8,2],rP he 1,0⟩,⟨[9,2],rv hf,1⟩,⟨[10,2],Aj (((Af d_p1 (AE d.fEntities e (-1))).fCalls).length:Int),1⟩,⟨[6,11,2],rB (decide (((Af d_p1 (AE d.fEntities e (-1))).fDone)=(((Af d_p1 (AE d.fEntities e (-1))).fCalls).length:Int))),0⟩,⟨[2,12],rB (decide (((Af d_p1 (AE d.fEntities e (-1))).fDone)=(((Af d_p1 (AE d.fEntities e (-1))).fCalls).length:Int))),0⟩] [52,0,2,6,8] ?_ ?_)
    ·refine oq (Ay Aa) (oq (B8 Aa) (oq (Ay Aa) (CV Aa (λH=>Dh (b:=!(BB d.fEntities e)) Aa Aa (Eg hj) (CU (Ay Aa))) ?_)));refine CV Aa (λH=>Dh (b:=!(BB d.fEntities e)) Aa Aa (Eg hj) (CU (AK Aa))) ?_;refine CV Aa (λH=>Dh (b:=!(BB d.fEntities e)) Aa Aa (Eg hj) (CU (AS JP Aa C1 Aa Aa))) ?_;refine QW Aa (Dh (b:=!(BB d.fEntities e)) Aa Aa (Eg hj) (CU (B1 (i:=0) Dm Aa Aa Aa))) ?_;refine CV Aa (λH=>Dh (b:=!(BB d.fEntities e)) Aa Aa (Eg hj) (CU (Ay Aa))) ?_;refine CV Aa (λH=>Dh (b:=!(BB d.fEntities e)) Aa Aa (Eg hj) (CU (AK Aa))) ?_;refine CV Aa (λH=>Dh (b:=!(BB d.fEntities e)) Aa Aa (Eg hj) (CU (AS JP Aa NH Aa Aa))) ?_;refine QW Aa (Dh (b:=!(BB d.fEntities e)) Aa Aa (Eg hj) (CU (B1 (i:=0) SH Aa Aa Aa))) ?_;refine QW Aa (Dh (b:=!(BB d.fEntities e)) Aa Aa (Eg hj) (CU (Ca (ys:=(Af d_p1 (AE d.fEntities e (-1))).fCalls) (enc:=(eP ha)) (i:=1) O5 Aa Aa))) ?_;refine CV Aa (λH=>Dh (b:=!(BB d.fEntities e)) Aa Aa (Eg hj) (CU (B5 Aa Aa))) ?_;refine oq (AH (b:=!(BB d.fEntities e)) Aa (Eg hj) Aa) ?_;exact Di
    refine AT (cz h0 Aa (λh1 h2=>?_) (λh1 h3=>?_))
    ·refine An (wv (r:=Bd [rS ([]:Aq),rS ([]:Aq),rS ([]:Aq),rv (.slice none 0 0),Aj 0,rv (.slice none 0 0),Aj 0,Aj 0]) (Gb ) (AF (i:=4) BL Aa Aa Aa (Be.c Aa) Aa Aa (cs':=[rS ([]:Aq),rS ([]:Aq),rS ([]:Aq),rv (.slice none 0 0),Aj 0,rv (.slice none 0 0),Aj 0,Aj 0]) Aa (H':=[.blk he [AD 4 (Ap Ab ((Af d_p1 (AE d.fEntities e (-1))).fState)),rv hf,Aj ((Af d_p1 (AE d.fEntities e (-1))).fDone)] 87,.row hf 88 1 (Ap (eP ha) ((Af d_p1 (AE d.fEntities e (-1))).fCalls)),.poolw hb hk 87 88 1 (Ap (Ak ha) d_p1) (some (BU (AE d.fEntities e (-1)),(he,hf))),.blk hi [Aj d.fNow,rv (.map (some hb)),rv (.map (some ha))] 68,.blk b1 [rS ([]:Aq),rS ([]:Aq),rS ([]:Aq),rv (.slice none 0 0),Aj 0,rv (.slice none 0 0),Aj 0,Aj 0] 44,.map hb (AG (mP hb) d.fEntities),.map ha (AG (mP ha) d.fCalls),.pool ha hg 44 (Ap Ad d_p2)]) Aa (wa Aa (Ax (A0 (Ah (WK.putsame (encw:=(Ak ha)) (xs:=d_p1) (i:=AE d.fEntities e (-1)) (Hr:=[.blk hi [Aj d.fNow,rv (.map (some hb)),rv (.map (some ha))] 68,.blk b1 [rS ([]:Aq),rS ([]:Aq),rS ([]:Aq),rv (.slice none 0 0),Aj 0,rv (.slice none 0 0),Aj 0,Aj 0] 44,.map hb (AG (mP hb) d.fEntities),.map ha (AG (mP ha) d.fCalls),.pool ha hg 44 (Ap Ad d_p2)]) (Xd _) hq [8] ⟨Aa,trivial⟩ Aa Aa (WK.upBlk (i:=2) (cs':=[rS ([]:Aq),rS ([]:Aq),rS ([]:Aq),AD 1 (Ap Ai ([]:List (List Ac))),Aj 0,AD 4 (Ap Ab ([]:List Ac)),Aj 0,Aj 0]) Aa ⟨Up.refl _,Up.refl _,Up.refl _,Up.le (Gx.nil _),Up.refl _,Up.le (Gx.nil _),Up.refl _,Up.refl _,trivial⟩ (BV (H2:=[.blk hi [Aj d.fNow,rv (.map (some hb)),rv (.map (some ha))] 68,.map hb (AG (mP hb) d.fEntities),.map ha (AG (mP ha) d.fCalls),.poolw hb hk 87 88 1 (Ap (Ak ha) d_p1) none,.pool ha hg 44 (Ap Ad d_p2),.blk b1 [rS ([]:Aq),rS ([]:Aq),rS ([]:Aq),AD 1 (Ap Ai ([]:List (List Ac))),Aj 0,AD 4 (Ap Ab ([]:List Ac)),Aj 0,Aj 0] 44]) ((Ae (i:=1) Aa).trans (WZ _ ((Ae (i:=2) Aa).trans (WZ _ ((Ae (i:=2) Aa).trans (WZ _ ((Ae (i:=0) Aa).trans (WZ _ ((Ae (i:=1) Aa).trans (WZ _ (Xd _))))))))))) ?_)))))))));obtain rfl:=A2 h2;exact Az (Ix SE (BO (i:=5) In BL Aa Aa Aa) (AR Aa)) (sC (sC (sC (sC (sC (sS sN)))))) ⟨hk,hg,Aa,Aa⟩
    ·refine A1 (AT (Av (ck h3 λhr h4=>Df [0,2,6,8] [⟨[],rP he 0,0⟩,⟨[0],rP he 0,0⟩,⟨[1],rP he 1,0⟩,⟨[2],rv hf,1⟩,⟨[],rP he 0,0⟩,⟨[4],rP he 0,0⟩,⟨[5],rP he 2,0⟩,⟨[6],Aj ((Af d_p1 (AE d.fEntities e (-1))).fDone),1⟩,⟨[3,7],rv (C0 1 hf (BU ((Af d_p1 (AE d.fEntities e (-1))).fDone)) 0),1⟩,⟨[8],Gp ha (Af ((Af d_p1 (AE d.fEntities e (-1))).fCalls) ((Af d_p1 (AE d.fEntities e (-1))).fDone)) 0,1⟩,⟨[9],Gp ha (Af ((Af d_p1 (AE d.fEntities e (-1))).fCalls) ((Af d_p1 (AE d.fEntities e (-1))).fDone)) 0,0⟩] [10,0,2,6,8] ?_ ?_)))
     ·refine oq (Ay Aa) (oq (AK Aa) (oq (AS JP Aa NH Aa Aa) (of (B1 (i:=0) SH Aa Aa Aa) (oq (Ay Aa) (oq (AK Aa) (oq (AS JP Aa C1 Aa Aa) (of (B1 (i:=0) Dm Aa Aa Aa) (of (Cd (i:=1) O5 Ug Aa Aa Aa (AX hr)) (of (Cs (enc:=(eP ha)) (ys:=(Af d_p1 (AE d.fEntities e (-1))).fCalls) (i:=1) (j:=(Af d_p1 (AE d.fEntities e (-1))).fDone) Tryz.isAgg88 Aa Aa hr Aa) (oq (AV Aa) ?_))))))))));exact Di
     refine AT (Av (ck h4 λhp h5=>ck h5 λhs h6=>ob h6 λhd hA hB=>Cu 16 [0,2,6,8,10] [⟨[],rP he 0,none,none,none⟩,⟨[0],rP he 0,none,none,none⟩,⟨[1],rP he 0,none,none,none⟩,⟨[2],AD 4 (Ap Ab ((Af d_p1 (AE d.fEntities e (-1))).fState)),none,none,none⟩,⟨[],Gp ha (Af ((Af d_p1 (AE d.fEntities e (-1))).fCalls) ((Af d_p1 (AE d.fEntities e (-1))).fDone)) 0,none,none,none⟩,⟨[4],Gp ha (Af ((Af d_p1 (AE d.fEntities e (-1))).fCalls) ((Af d_p1 (AE d.fEntities e (-1))).fDone)) 0,none,none,none⟩,⟨[5],Gp ha (Af ((Af d_p1 (AE d.fEntities e (-1))).fCalls) ((Af d_p1 (AE d.fEntities e (-1))).fDone)) 0,none,none,none⟩,⟨[6],Bd (Am ((Af d_p2 (Af ((Af d_p1 (AE d.fEntities e (-1))).fCalls) ((Af d_p1 (AE d.fEntities e (-1))).fDone))).fOp)),none,none,none⟩,⟨[3,7],Dk [AD 4 (Ap Ab hd.1),Bd (Ao hd.2.1),Aj hd.2.2],none,none,none⟩,⟨[8],Dk [AD 4 (Ap Ab hd.1),Bd (Ao hd.2.1),Aj hd.2.2],none,none,none⟩,⟨[9],AD 4 (Ap Ab hd.1),none,none,none⟩,⟨[9],Bd (Ao hd.2.1),none,none,none⟩,⟨[9],Aj hd.2.2,none,none,none⟩,⟨[],rv undef,some ([Aj 0,rv (.slice none 0 0)],31),some (15,[Aj hd.2.1.fErr,AD 4 (Ap Ab hd.2.1.fValue)]),none⟩,⟨[10],AD 4 (Ap Ab hd.1),none,none,none⟩,⟨[11],rv undef,none,none,some 13⟩] ?_ (λβ=>?_)))
     ·refine C5 (Ay Aa) (C5 (AK Aa) (C5 (AS JP Aa D9 Aa Aa) (Ii (B1 (i:=0) EE Aa Aa Aa) (C5 (Ay Aa) (C5 (Dd Aa hp) (C5 (Mm C3 Aa Cc Aa hp Aa) (Ii (HC (enc:=Ad) (xs:=d_p2) (j:=7) Es Cc Aa Aa hs Aa Aa) (Oc (D7 Tryz.call11 (VV F ((Af d_p1 (AE d.fEntities e (-1))).fState) ((Af d_p2 (Af ((Af d_p1 (AE d.fEntities e (-1))).fCalls) ((Af d_p1 (AE d.fEntities e (-1))).fDone))).fOp) hd hA) Aa) (C5 (Ay Aa) (C5 (AO Aa Aa) (C5 (AO Aa Aa) (C5 (AO Aa Aa) (VU (PI (cs:=[Aj 0,rv (.slice none 0 0)]) GL Aa) (C5 (AV Aa) (WW (fun {hm hh}=>Pc (D2 (i:=0) Bs Aa Aa Aa (Be.c Aa) Aa Aa (cs':=[Aj hd.2.1.fErr,AD 4 (Ap Ab hd.2.1.fValue)]) Aa (H':=.blk hm (Ao hd.2.1) 31::hh) Aa)) ?_)))))))))))))));exact Ml
     refine C4 (H1:=[.blk he [AD 4 (Ap Ab ((Af d_p1 (AE d.fEntities e (-1))).fState)),rv hf,Aj ((Af d_p1 (AE d.fEntities e (-1))).fDone)] 87,.row hf 88 1 (Ap (eP ha) ((Af d_p1 (AE d.fEntities e (-1))).fCalls)),.poolw hb hk 87 88 1 (Ap (Ak ha) d_p1) (some (BU (AE d.fEntities e (-1)),(he,hf))),.blk hi [Aj d.fNow,rv (.map (some hb)),rv (.map (some ha))] 68,.blk b1 [rS ([]:Aq),rS ([]:Aq),rS ([]:Aq),rv (.slice none 0 0),Aj 0,rv (.slice none 0 0),Aj 0,Aj 0] 44,.map hb (AG (mP hb) d.fEntities),.map ha (AG (mP ha) d.fCalls),.pool ha hg 44 (Ap Ad d_p2),.blk (β 13) (Ao hd.2.1) 31]) [65,66,67,68,69,70,71,72,73,64,74,75,76,12,11,0,2,6,8,10] ?_;generalize β 13=hm;refine wa Aa (Ax (Av (An (wm Aa (wv (Dp Aa Aa) (Ax (cz hB Aa (λhC hD=>?_) (λhC hE=>?_))))))))
     ·refine An (wv (r:=Bd [rS ([]:Aq),rS ([]:Aq),rS ([]:Aq),rv (.slice none 0 0),Aj 0,rv (.slice none 0 0),Aj 0,Aj 0]) (Gb ) (AF (i:=4) BL Aa Aa Aa (Be.c Aa) Aa Aa (cs':=[rS ([]:Aq),rS ([]:Aq),rS ([]:Aq),rv (.slice none 0 0),Aj 0,rv (.slice none 0 0),Aj 0,Aj 0]) Aa (H':=[.blk he [AD 4 (Ap Ab ((Af d_p1 (AE d.fEntities e (-1))).fState)),rv hf,Aj ((Af d_p1 (AE d.fEntities e (-1))).fDone)] 87,.row hf 88 1 (Ap (eP ha) ((Af d_p1 (AE d.fEntities e (-1))).fCalls)),.poolw hb hk 87 88 1 (Ap (Ak ha) d_p1) (some (BU (AE d.fEntities e (-1)),(he,hf))),.blk hi [Aj d.fNow,rv (.map (some hb)),rv (.map (some ha))] 68,.blk b1 [rS ([]:Aq),rS ([]:Aq),rS ([]:Aq),rv (.slice none 0 0),Aj 0,rv (.slice none 0 0),Aj 0,Aj 0] 44,.map hb (AG (mP hb) d.fEntities),.map ha (AG (mP ha) d.fCalls),.pool ha hg 44 (Ap Ad d_p2),.blk hm (Ao hd.2.1) 31]) Aa (wa Aa (Ax (A0 (Ah (WK.putsame (encw:=(Ak ha)) (xs:=d_p1) (i:=AE d.fEntities e (-1)) (Hr:=[.blk hi [Aj d.fNow,rv (.map (some hb)),rv (.map (some ha))] 68,.blk b1 [rS ([]:Aq),rS ([]:Aq),rS ([]:Aq),rv (.slice none 0 0),Aj 0,rv (.slice none 0 0),Aj 0,Aj 0] 44,.map hb (AG (mP hb) d.fEntities),.map ha (AG (mP ha) d.fCalls),.pool ha hg 44 (Ap Ad d_p2),.blk hm (Ao hd.2.1) 31]) (Xd _) hq [8,65,66,67] ⟨Aa,Aa,Aa,Aa,trivial⟩ Aa Aa (WK.upBlk (i:=2) (cs':=[rS ([]:Aq),rS ([]:Aq),rS ([]:Aq),AD 1 (Ap Ai ([]:List (List Ac))),Aj 0,AD 4 (Ap Ab ([]:List Ac)),Aj 0,Aj 0]) Aa ⟨Up.refl _,Up.refl _,Up.refl _,Up.le (Gx.nil _),Up.refl _,Up.le (Gx.nil _),Up.refl _,Up.refl _,trivial⟩ (BV (H2:=[.blk hi [Aj d.fNow,rv (.map (some hb)),rv (.map (some ha))] 68,.map hb (AG (mP hb) d.fEntities),.map ha (AG (mP ha) d.fCalls),.poolw hb hk 87 88 1 (Ap (Ak ha) d_p1) none,.pool ha hg 44 (Ap Ad d_p2),.blk b1 [rS ([]:Aq),rS ([]:Aq),rS ([]:Aq),AD 1 (Ap Ai ([]:List (List Ac))),Aj 0,AD 4 (Ap Ab ([]:List Ac)),Aj 0,Aj 0] 44,.blk hm (Ao hd.2.1) 31]) ((Ae (i:=1) Aa).trans (WZ _ ((Ae (i:=2) Aa).trans (WZ _ ((Ae (i:=2) Aa).trans (WZ _ ((Ae (i:=0) Aa).trans (WZ _ ((Ae (i:=1) Aa).trans (WZ _ (Xd _))))))))))) ?_)))))))));obtain rfl:=A2 hD;exact Az (Ix SE (BO (i:=5) In BL Aa Aa Aa) (AR Aa)) (sC (sC (sC (sC (sC (sS (sS sN))))))) ⟨hk,hg,Aa,Aa⟩
     ·refine A1 (AT (An (wm Aa (wm Aa (wv (AK Aa) (vF JP Aa D9 (Cm (i:=0) D9 Aa Aa (C7 Aa) Aa Aa (cs':=[AD 4 (Ap Ab hd.1),rv hf,Aj ((Af d_p1 (AE d.fEntities e (-1))).fDone)]) Aa (H':=[.blk he [AD 4 (Ap Ab hd.1),rv hf,Aj ((Af d_p1 (AE d.fEntities e (-1))).fDone)] 87,.row hf 88 1 (Ap (eP ha) ((Af d_p1 (AE d.fEntities e (-1))).fCalls)),.poolw hb hk 87 88 1 (Ap (Ak ha) d_p1) (some (BU (AE d.fEntities e (-1)),(he,hf))),.blk hi [Aj d.fNow,rv (.map (some hb)),rv (.map (some ha))] 68,.blk b1 [rS ([]:Aq),rS ([]:Aq),rS ([]:Aq),rv (.slice none 0 0),Aj 0,rv (.slice none 0 0),Aj 0,Aj 0] 44,.map hb (AG (mP hb) d.fEntities),.map ha (AG (mP ha) d.fCalls),.pool ha hg 44 (Ap Ad d_p2),.blk hm (Ao hd.2.1) 31]) Aa (B4 (wm Aa (wv (AK Aa) (vF JP Aa C1 (vL 0 Dm Aa (ck hE λhG hH=>wv (B0 Aa Aa hG) (wv (AK Aa) (vF JP Aa C1 (Cm (i:=0) C1 Aa Aa (C7 Aa) Aa Aa (cs':=[AD 4 (Ap Ab hd.1),rv hf,Aj (((Af d_p1 (AE d.fEntities e (-1))).fDone)+1)]) Aa (H':=[.blk he [AD 4 (Ap Ab hd.1),rv hf,Aj (((Af d_p1 (AE d.fEntities e (-1))).fDone)+1)] 87,.row hf 88 1 (Ap (eP ha) ((Af d_p1 (AE d.fEntities e (-1))).fCalls)),.poolw hb hk 87 88 1 (Ap (Ak ha) d_p1) (some (BU (AE d.fEntities e (-1)),(he,hf))),.blk hi [Aj d.fNow,rv (.map (some hb)),rv (.map (some ha))] 68,.blk b1 [rS ([]:Aq),rS ([]:Aq),rS ([]:Aq),rv (.slice none 0 0),Aj 0,rv (.slice none 0 0),Aj 0,Aj 0] 44,.map hb (AG (mP hb) d.fEntities),.map ha (AG (mP ha) d.fCalls),.pool ha hg 44 (Ap Ad d_p2),.blk hm (Ao hd.2.1) 31]) Aa (B4 (wm Aa (wm Aa (wv (AK Aa) (vF HH Aa C1 (Cm (i:=3) C1 Aa Aa (C7 Aa) Aa Aa (cs':=[Aj now,rv (.map (some hb)),rv (.map (some ha))]) Aa (H':=[.blk he [AD 4 (Ap Ab hd.1),rv hf,Aj (((Af d_p1 (AE d.fEntities e (-1))).fDone)+1)] 87,.row hf 88 1 (Ap (eP ha) ((Af d_p1 (AE d.fEntities e (-1))).fCalls)),.poolw hb hk 87 88 1 (Ap (Ak ha) d_p1) (some (BU (AE d.fEntities e (-1)),(he,hf))),.blk hi [Aj now,rv (.map (some hb)),rv (.map (some ha))] 68,.blk b1 [rS ([]:Aq),rS ([]:Aq),rS ([]:Aq),rv (.slice none 0 0),Aj 0,rv (.slice none 0 0),Aj 0,Aj 0] 44,.map hb (AG (mP hb) d.fEntities),.map ha (AG (mP ha) d.fCalls),.pool ha hg 44 (Ap Ad d_p2),.blk hm (Ao hd.2.1) 31]) Aa ?_))))))))))))))))))))));refine B4 (wm Aa (wm Aa (wv (Bf (i:=8) Cw Bs Aa Aa Aa Aa) (wm Aa (wv (r:=Gp ha (Af ((Af d_p1 (AE d.fEntities e (-1))).fCalls) ((Af d_p1 (AE d.fEntities e (-1))).fDone)) 0) (Dd Aa hp) (wv (r:=Gp ha (Af ((Af d_p1 (AE d.fEntities e (-1))).fCalls) ((Af d_p1 (AE d.fEntities e (-1))).fDone)) 4) (Mm C3 Aa Bs Aa hp Aa) (PX (enc:=Ad) (xs:=d_p2) (y':=(Al.mk ((Af d_p2 (Af ((Af d_p1 (AE d.fEntities e (-1))).fCalls) ((Af d_p1 (AE d.fEntities e (-1))).fDone))).fOp) hd.2.1 ((Af d_p2 (Af ((Af d_p1 (AE d.fEntities e (-1))).fCalls) ((Af d_p1 (AE d.fEntities e (-1))).fDone))).fFrom) ((Af d_p2 (Af ((Af d_p1 (AE d.fEntities e (-1))).fCalls) ((Af d_p1 (AE d.fEntities e (-1))).fDone))).fTo))) (j:=7) Bs Aa Aa Aa (Be.c Aa) Aa hs Aa Aa (H':=[.blk he [AD 4 (Ap Ab hd.1),rv hf,Aj (((Af d_p1 (AE d.fEntities e (-1))).fDone)+1)] 87,.row hf 88 1 (Ap (eP ha) ((Af d_p1 (AE d.fEntities e (-1))).fCalls)),.poolw hb hk 87 88 1 (Ap (Ak ha) d_p1) (some (BU (AE d.fEntities e (-1)),(he,hf))),.blk hi [Aj now,rv (.map (some hb)),rv (.map (some ha))] 68,.blk b1 [rS ([]:Aq),rS ([]:Aq),rS ([]:Aq),rv (.slice none 0 0),Aj 0,rv (.slice none 0 0),Aj 0,Aj 0] 44,.map hb (AG (mP hb) d.fEntities),.map ha (AG (mP ha) d.fCalls),.pool ha hg 44 (Ap Ad (List.set d_p2 (BU (Af ((Af d_p1 (AE d.fEntities e (-1))).fCalls) ((Af d_p1 (AE d.fEntities e (-1))).fDone))) (Al.mk ((Af d_p2 (Af ((Af d_p1 (AE d.fEntities e (-1))).fCalls) ((Af d_p1 (AE d.fEntities e (-1))).fDone))).fOp) hd.2.1 ((Af d_p2 (Af ((Af d_p1 (AE d.fEntities e (-1))).fCalls) ((Af d_p1 (AE d.fEntities e (-1))).fDone))).fFrom) ((Af d_p2 (Af ((Af d_p1 (AE d.fEntities e (-1))).fCalls) ((Af d_p1 (AE d.fEntities e (-1))).fDone))).fTo)))),.blk hm (Ao hd.2.1) 31]) Aa (bd hH λho hI hJ=>?_))))))));rw[← hI];refine wv (r:=Gp ha (Af ((Af d_p1 (AE d.fEntities e (-1))).fCalls) ((Af d_p1 (AE d.fEntities e (-1))).fDone)) 0) (Dd Aa hp) (wv (r:=Gp ha (Af ((Af d_p1 (AE d.fEntities e (-1))).fCalls) ((Af d_p1 (AE d.fEntities e (-1))).fDone)) 7) (Mm C3 Aa C1 Aa hp Aa) (ck hJ λhK hL=>R3 (enc:=Ad) (xs:=ho) (y':=(Al.mk ((Af ho (Af ((Af d_p1 (AE d.fEntities e (-1))).fCalls) ((Af d_p1 (AE d.fEntities e (-1))).fDone))).fOp) ((Af ho (Af ((Af d_p1 (AE d.fEntities e (-1))).fCalls) ((Af d_p1 (AE d.fEntities e (-1))).fDone))).fAnswer) ((Af ho (Af ((Af d_p1 (AE d.fEntities e (-1))).fCalls) ((Af d_p1 (AE d.fEntities e (-1))).fDone))).fFrom) now)) (j:=7) C1 Aa Aa (C7 Aa) Aa hK Aa Aa (H':=[.blk he [AD 4 (Ap Ab hd.1),rv hf,Aj (((Af d_p1 (AE d.fEntities e (-1))).fDone)+1)] 87,.row hf 88 1 (Ap (eP ha) ((Af d_p1 (AE d.fEntities e (-1))).fCalls)),.poolw hb hk 87 88 1 (Ap (Ak ha) d_p1) (some (BU (AE d.fEntities e (-1)),(he,hf))),.blk hi [Aj now,rv (.map (some hb)),rv (.map (some ha))] 68,.blk b1 [rS ([]:Aq),rS ([]:Aq),rS ([]:Aq),rv (.slice none 0 0),Aj 0,rv (.slice none 0 0),Aj 0,Aj 0] 44,.map hb (AG (mP hb) d.fEntities),.map ha (AG (mP ha) d.fCalls),.pool ha hg 44 (Ap Ad (List.set ho (BU (Af ((Af d_p1 (AE d.fEntities e (-1))).fCalls) ((Af d_p1 (AE d.fEntities e (-1))).fDone))) (Al.mk ((Af ho (Af ((Af d_p1 (AE d.fEntities e (-1))).fCalls) ((Af d_p1 (AE d.fEntities e (-1))).fDone))).fOp) ((Af ho (Af ((Af d_p1 (AE d.fEntities e (-1))).fCalls) ((Af d_p1 (AE d.fEntities e (-1))).fDone))).fAnswer) ((Af ho (Af ((Af d_p1 (AE d.fEntities e (-1))).fCalls) ((Af d_p1 (AE d.fEntities e (-1))).fDone))).fFrom) now))),.blk hm (Ao hd.2.1) 31]) Aa (bd hL λhl hN hO=>?_)));rw[← hN];refine B4 (wm Aa (wv (r:=Gp ha (Af ((Af d_p1 (AE d.fEntities e (-1))).fCalls) ((Af d_p1 (AE d.fEntities e (-1))).fDone)) 0) (Dd Aa hp) (ck hO λhP hQ=>wv (r:=Bd [rS (((Af hl (Af ((Af d_p1 (AE d.fEntities e (-1))).fCalls) ((Af d_p1 (AE d.fEntities e (-1))).fDone))).fOp).fEntity),rS (((Af hl (Af ((Af d_p1 (AE d.fEntities e (-1))).fCalls) ((Af d_p1 (AE d.fEntities e (-1))).fDone))).fOp).fID),rS (((Af hl (Af ((Af d_p1 (AE d.fEntities e (-1))).fCalls) ((Af d_p1 (AE d.fEntities e (-1))).fDone))).fOp).fOp),AD 1 (Ap Ai (((Af hl (Af ((Af d_p1 (AE d.fEntities e (-1))).fCalls) ((Af d_p1 (AE d.fEntities e (-1))).fDone))).fOp).fArgs)),Aj (((Af hl (Af ((Af d_p1 (AE d.fEntities e (-1))).fCalls) ((Af d_p1 (AE d.fEntities e (-1))).fDone))).fAnswer).fErr),AD 4 (Ap Ab (((Af hl (Af ((Af d_p1 (AE d.fEntities e (-1))).fCalls) ((Af d_p1 (AE d.fEntities e (-1))).fDone))).fAnswer).fValue)),Aj ((Af hl (Af ((Af d_p1 (AE d.fEntities e (-1))).fCalls) ((Af d_p1 (AE d.fEntities e (-1))).fDone))).fFrom),Aj ((Af hl (Af ((Af d_p1 (AE d.fEntities e (-1))).fCalls) ((Af d_p1 (AE d.fEntities e (-1))).fDone))).fTo)]) (HC (enc:=Ad) (xs:=hl) (j:=7) In BL Aa Aa hP Aa Aa) (ob hQ λhn hR hS=>Cl Tryz.call45 (KR F (Al.mk ((Af hl (Af ((Af d_p1 (AE d.fEntities e (-1))).fCalls) ((Af d_p1 (AE d.fEntities e (-1))).fDone))).fOp) ((Af hl (Af ((Af d_p1 (AE d.fEntities e (-1))).fCalls) ((Af d_p1 (AE d.fEntities e (-1))).fDone))).fAnswer) ((Af hl (Af ((Af d_p1 (AE d.fEntities e (-1))).fCalls) ((Af d_p1 (AE d.fEntities e (-1))).fDone))).fFrom) ((Af hl (Af ((Af d_p1 (AE d.fEntities e (-1))).fCalls) ((Af d_p1 (AE d.fEntities e (-1))).fDone))).fTo)) hn hR) Aa (AF (i:=4) BL Aa Aa Aa (Be.c Aa) Aa Aa (cs':=[rS hn.fOp.fEntity,rS hn.fOp.fID,rS hn.fOp.fOp,AD 1 (Ap Ai hn.fOp.fArgs),Aj hn.fAnswer.fErr,AD 4 (Ap Ab hn.fAnswer.fValue),Aj hn.fFrom,Aj hn.fTo]) Aa (H':=[.blk he [AD 4 (Ap Ab hd.1),rv hf,Aj (((Af d_p1 (AE d.fEntities e (-1))).fDone)+1)] 87,.row hf 88 1 (Ap (eP ha) ((Af d_p1 (AE d.fEntities e (-1))).fCalls)),.poolw hb hk 87 88 1 (Ap (Ak ha) d_p1) (some (BU (AE d.fEntities e (-1)),(he,hf))),.blk hi [Aj now,rv (.map (some hb)),rv (.map (some ha))] 68,.blk b1 (Ad hn) 44,.map hb (AG (mP hb) d.fEntities),.map ha (AG (mP ha) d.fCalls),.pool ha hg 44 (Ap Ad hl),.blk hm (Ao hd.2.1) 31]) Aa (wa Aa (Ax (A0 (WK.putback (y:=(As.mk hd.1 ((Af d_p1 (AE d.fEntities e (-1))).fCalls) (((Af d_p1 (AE d.fEntities e (-1))).fDone)+1))) (encw:=(Ak ha)) (xs:=d_p1) (i:=AE d.fEntities e (-1)) (Hr:=[.blk hi [Aj now,rv (.map (some hb)),rv (.map (some ha))] 68,.blk b1 (Ad hn) 44,.map hb (AG (mP hb) d.fEntities),.map ha (AG (mP ha) d.fCalls),.pool ha hg 44 (Ap Ad hl),.blk hm (Ao hd.2.1) 31]) (Xd _) hq [8,65,66,67,80,82,83,84,85,89] ⟨Aa,Aa,Aa,Aa,Aa,Aa,Aa,Aa,Aa,Aa,trivial⟩ Aa Aa (λht=>?_))))))))));refine BV (H2:=[.blk hi [Aj now,rv (.map (some hb)),rv (.map (some ha))] 68,.map hb (AG (mP hb) d.fEntities),.map ha (AG (mP ha) d.fCalls),.poolw hb ht 87 88 1 (Ap (Ak ha) (List.set d_p1 (BU (AE d.fEntities e (-1))) (As.mk hd.1 ((Af d_p1 (AE d.fEntities e (-1))).fCalls) (((Af d_p1 (AE d.fEntities e (-1))).fDone)+1)))) none,.pool ha hg 44 (Ap Ad hl),.blk b1 (Ad hn) 44,.blk hm (Ao hd.2.1) 31]) ((Ae (i:=1) Aa).trans (WZ _ ((Ae (i:=2) Aa).trans (WZ _ ((Ae (i:=2) Aa).trans (WZ _ ((Ae (i:=0) Aa).trans (WZ _ ((Ae (i:=1) Aa).trans (WZ _ (Xd _))))))))))) ?_;obtain rfl:=A2 hS;exact Az (Ix SE (BO (i:=5) In BL Aa Aa Aa) (AR Aa)) (sC (sC (sC (sC (sC (sS (sS sN))))))) ⟨ht,hg,Aa,Aa⟩
   ·refine Df [0,2,6,8,9] [⟨[],rB (BB d.fEntities e),0⟩,⟨[0],rB (!(BB d.fEntities e)),0⟩,⟨[1],rB (!(BB d.fEntities e)),0⟩,⟨[2],rv undef,0⟩,⟨[3,2],rv undef,0⟩,⟨[4,2],rv undef,0⟩,⟨[5,2],rv undef,0⟩,⟨[2],rv undef,0⟩,⟨[7,2],rv undef,0⟩,⟨[8,2],rv undef,0⟩,⟨[9,2],rv undef,0⟩,⟨[10,2],rv undef,0⟩,⟨[6,11,2],rv undef,0⟩,⟨[2,12],rB true,0⟩] [52,0,2,6,8] ?_ ?_
    ·refine oq (Ay Aa) (oq (B8 Aa) (oq (Ay Aa) (CV Aa (λH=>CY (b:=!(BB d.fEntities e)) Aa Aa (I4 hj)) ?_)));refine CV Aa (λH=>CY (b:=!(BB d.fEntities e)) Aa Aa (I4 hj)) ?_;refine CV Aa (λH=>CY (b:=!(BB d.fEntities e)) Aa Aa (I4 hj)) ?_;refine CV Aa (λH=>CY (b:=!(BB d.fEntities e)) Aa Aa (I4 hj)) ?_;refine CV Aa (λH=>CY (b:=!(BB d.fEntities e)) Aa Aa (I4 hj)) ?_;refine CV Aa (λH=>CY (b:=!(BB d.fEntities e)) Aa Aa (I4 hj)) ?_;refine CV Aa (λH=>CY (b:=!(BB d.fEntities e)) Aa Aa (I4 hj)) ?_;refine CV Aa (λH=>CY (b:=!(BB d.fEntities e)) Aa Aa (I4 hj)) ?_;refine CV Aa (λH=>CY (b:=!(BB d.fEntities e)) Aa Aa (I4 hj)) ?_;refine CV Aa (λH=>CY (b:=!(BB d.fEntities e)) Aa Aa (I4 hj)) ?_;refine oq (Ar (b:=!(BB d.fEntities e)) Aa (I4 hj) Aa) ?_;exact Di
    refine AT (G7 Aa Aa (An (wv (r:=Bd [rS ([]:Aq),rS ([]:Aq),rS ([]:Aq),rv (.slice none 0 0),Aj 0,rv (.slice none 0 0),Aj 0,Aj 0]) (Gb ) (AF (i:=1) BL Aa Aa Aa (Be.c Aa) Aa Aa (cs':=[rS ([]:Aq),rS ([]:Aq),rS ([]:Aq),rv (.slice none 0 0),Aj 0,rv (.slice none 0 0),Aj 0,Aj 0]) Aa (H':=[.blk hi [Aj d.fNow,rv (.map (some hb)),rv (.map (some ha))] 68,.blk b1 [rS ([]:Aq),rS ([]:Aq),rS ([]:Aq),rv (.slice none 0 0),Aj 0,rv (.slice none 0 0),Aj 0,Aj 0] 44,.map hb (AG (mP hb) d.fEntities),.map ha (AG (mP ha) d.fCalls),.poolw hb hk 87 88 1 (Ap (Ak ha) d_p1) none,.pool ha hg 44 (Ap Ad d_p2)]) Aa (wa Aa (Ax (A0 (Ah (WK.upBlk (i:=1) (cs':=[rS ([]:Aq),rS ([]:Aq),rS ([]:Aq),AD 1 (Ap Ai ([]:List (List Ac))),Aj 0,AD 4 (Ap Ab ([]:List Ac)),Aj 0,Aj 0]) Aa ⟨Up.refl _,Up.refl _,Up.refl _,Up.le (Gx.nil _),Up.refl _,Up.le (Gx.nil _),Up.refl _,Up.refl _,trivial⟩ ?_)))))))));obtain rfl:=A2 hz;exact Az (Ix SE (BO (i:=1) In BL Aa Aa Aa) (AR Aa)) (sC (sS (sC (sC (sC (sC sN)))))) ⟨hk,hg,Aa,Aa⟩
theorem Ko (hd:Nat)(hb:Nat)(ha:Nat)(hf:Value)(he:Value)(d:A5)(d_p1:(List As))(d_p2:(List Al))(e:Aq)(r:(List Ac))(h:HX d d_p1 d_p2 e=some r):Fn Tryz.prog GE 19 [rP hd 0,rS e] [.blk hd [Aj d.fNow,rv (.map (some hb)),rv (.map (some ha))] 68,.map hb (AG (mP hb) d.fEntities),.map ha (AG (mP ha) d.fCalls),.poolw hb hf 87 88 1 (Ap (Ak ha) d_p1) none,.pool ha he 44 (Ap Ad d_p2)] (λR H=>R=AD 4 (Ap Ab r)∧H=[.blk hd [Aj d.fNow,rv (.map (some hb)),rv (.map (some ha))] 68,.map hb (AG (mP hb) d.fEntities),.map ha (AG (mP ha) d.fCalls),.poolw hb hf 87 88 1 (Ap (Ak ha) d_p1) none,.pool ha he 44 (Ap Ad d_p2)]):=by
 refine enter (n:=25) Tryz.func19 Aa Tryz.ntmps19 Aa (λw Z=>?_);unfold HX at h;refine An (wa Aa (Ax (Av (An (wm Aa (ER (Hr:=[.map hb (AG (mP hb) d.fEntities),.map ha (AG (mP ha) d.fCalls),.poolw hb hf 87 88 1 (Ap (Ak ha) d_p1) none,.pool ha he 44 (Ap Ad d_p2)]) Ry (IZ hd hb ha d true Aa) Aa (Xd _) Aa ?_))))));rintro _ _ ⟨rfl,rfl⟩;refine Ax (G7 Aa Aa (An (wm Aa (wv (AK Aa) (vF HH Aa O9 (vL 0 OE Aa (wm Aa (wv (r:=Dk [Gp hb (AE d.fEntities e (-1)) 0,rB (BB d.fEntities e)]) (HT (enc:=(mP hb)) (xs:=d.fEntities) (z:=(-1)) (i:=1) PP Gn Uf (Sb hb) Aa Aa Aa) (wm Aa (wv (AO Aa Aa) (wv (AO Aa Aa) (wa Aa (wa Aa (B4 (wm Aa (Ax (cz h Aa (λc1 h2=>?_) (λc1 hg=>?_))))))))))))))))))
 ·refine An (wm Aa (ck h2 λg3 h4=>WL.takeout (encw:=(Ak ha)) (xs:=d_p1) (i:=AE d.fEntities e (-1)) (Hr:=[.blk hd [Aj d.fNow,rv (.map (some hb)),rv (.map (some ha))] 68,.map hb (AG (mP hb) d.fEntities),.map ha (AG (mP ha) d.fCalls),.pool ha he 44 (Ap Ad d_p2)]) ((Ae (i:=3) Aa).trans (WZ _ (Xd _))) g3 [5,16,19] ⟨Aa,Aa,Aa,trivial⟩ (λb5 v6=>?_)));refine NI (H':=[.blk b5 [AD 4 (Ap Ab ((Af d_p1 (AE d.fEntities e (-1))).fState)),rv v6,Aj ((Af d_p1 (AE d.fEntities e (-1))).fDone)] 87,.row v6 88 1 (Ap (eP ha) ((Af d_p1 (AE d.fEntities e (-1))).fCalls)),.poolw hb hf 87 88 1 (Ap (Ak ha) d_p1) (some (BU (AE d.fEntities e (-1)),(b5,v6))),.blk hd [Aj d.fNow,rv (.map (some hb)),rv (.map (some ha))] 68,.map hb (AG (mP hb) d.fEntities),.map ha (AG (mP ha) d.fCalls),.pool ha he 44 (Ap Ad d_p2)]) Aa (wv (AK Aa) (vF JP Aa D9 (vL 0 EE Aa (ob h4 λr7 e9 h8=>Cl Lz (D1 ((Af d_p1 (AE d.fEntities e (-1))).fState) r7 e9) Aa (wa Aa (Ax (A0 (Ah (WK.putsame (encw:=(Ak ha)) (xs:=d_p1) (i:=AE d.fEntities e (-1)) (Hr:=[.blk hd [Aj d.fNow,rv (.map (some hb)),rv (.map (some ha))] 68,.map hb (AG (mP hb) d.fEntities),.map ha (AG (mP ha) d.fCalls),.pool ha he 44 (Ap Ad d_p2)]) (Xd _) g3 [5,16,19,20,21] ⟨Aa,Aa,Aa,Aa,Aa,trivial⟩ Aa Aa (BV (H2:=[.blk hd [Aj d.fNow,rv (.map (some hb)),rv (.map (some ha))] 68,.map hb (AG (mP hb) d.fEntities),.map ha (AG (mP ha) d.fCalls),.poolw hb hf 87 88 1 (Ap (Ak ha) d_p1) none,.pool ha he 44 (Ap Ad d_p2)]) ((Ae (i:=1) Aa).trans (WZ _ ((Ae (i:=1) Aa).trans (WZ _ ((Ae (i:=1) Aa).trans (WZ _ (Xd _))))))) ?_))))))))));obtain rfl:=A2 h8;exact Az (BI Tryz.results19 (AR Aa)) (sC (sC (sC (sC (sC sN))))) ⟨Aa,Aa⟩
 ·refine A1 (AT (An (ob hg λhh hi hj=>Cl Tryz.call47 (NL hh hi) Aa (wa Aa (Ax (A0 ?_))))));obtain rfl:=A2 hj;exact Az (BI Tryz.results19 (AR Aa)) (sC (sC (sC (sC (sC sN))))) ⟨Aa,Aa⟩
theorem Kr (F:Nat)(he:Nat)(hb:Nat)(ha:Nat)(hh:Value)(hg:Value)(d:A5)(d_p1:(List As))(d_p2:(List Al))(e:Aq)(r:(List Al))(h:HZ F d d_p1 d_p2 e=some r):Fn Tryz.prog GE 21 [rP he 0,rS e] [.blk he [Aj d.fNow,rv (.map (some hb)),rv (.map (some ha))] 68,.map hb (AG (mP hb) d.fEntities),.map ha (AG (mP ha) d.fCalls),.poolw hb hh 87 88 1 (Ap (Ak ha) d_p1) none,.pool ha hg 44 (Ap Ad d_p2)] (λR H=>R=AD 8 (Ap Ad r)∧H=[.blk he [Aj d.fNow,rv (.map (some hb)),rv (.map (some ha))] 68,.map hb (AG (mP hb) d.fEntities),.map ha (AG (mP ha) d.fCalls),.poolw hb hh 87 88 1 (Ap (Ak ha) d_p1) none,.pool ha hg 44 (Ap Ad d_p2)]):=by
 refine enter (n:=42) Tryz.func21 Aa Tryz.ntmps21 Aa (λw Z=>?_);unfold HZ at h;refine An (wa Aa (Ax (Av (An (wm Aa (ER (Hr:=[.map hb (AG (mP hb) d.fEntities),.map ha (AG (mP ha) d.fCalls),.poolw hb hh 87 88 1 (Ap (Ak ha) d_p1) none,.pool ha hg 44 (Ap Ad d_p2)]) Ry (IZ he hb ha d true Aa) Aa (Xd _) Aa ?_))))));rintro _ _ ⟨rfl,rfl⟩;refine wv (B8 Aa) (Ax (EV Aa (Eg Aa) (A1 (AT (An (wm Aa (wv (AK Aa) (vF HH Aa O9 (vL 0 OE Aa (wm Aa (wv (r:=Dk [Gp hb (AE d.fEntities e (-1)) 0,rB (BB d.fEntities e)]) (HT (enc:=(mP hb)) (xs:=d.fEntities) (z:=(-1)) (i:=1) PP Gn Uf (Sb hb) Aa Aa Aa) (wm Aa (wv (AO Aa Aa) (wv (AO Aa Aa) (wa Aa (wa Aa (Ax (Av (An (wm Aa (wv (B8 Aa) (Ax (cz h Aa (λc1 h2=>?_) (λc1 h3=>?_))))))))))))))))))))))))
 ·refine An (wa Aa (Ax (A0 (Ah (WK.up (d:=4) (r:=AD 8 (Ap Ad ([]:List Al))) Aa (Up.le (Gx.nil _)) ?_)))));obtain rfl:=A2 h2;exact Az (BI Tryz.results21 (AR Aa)) (sC (sC (sC (sC (sC sN))))) ⟨Aa,Aa⟩
 ·refine A1 (AT (An (wa Aa (Ax (Av (An (wm Aa (ck h3 λg4 h5=>WL.takeout (encw:=(Ak ha)) (xs:=d_p1) (i:=AE d.fEntities e (-1)) (Hr:=[.blk he [Aj d.fNow,rv (.map (some hb)),rv (.map (some ha))] 68,.map hb (AG (mP hb) d.fEntities),.map ha (AG (mP ha) d.fCalls),.pool ha hg 44 (Ap Ad d_p2)]) ((Ae (i:=3) Aa).trans (WZ _ (Xd _))) g4 [5,20,24] ⟨Aa,Aa,Aa,trivial⟩ (λb6 v7=>?_)))))))));refine NI (H':=[.blk b6 [AD 4 (Ap Ab ((Af d_p1 (AE d.fEntities e (-1))).fState)),rv v7,Aj ((Af d_p1 (AE d.fEntities e (-1))).fDone)] 87,.row v7 88 1 (Ap (eP ha) ((Af d_p1 (AE d.fEntities e (-1))).fCalls)),.poolw hb hh 87 88 1 (Ap (Ak ha) d_p1) (some (BU (AE d.fEntities e (-1)),(b6,v7))),.blk he [Aj d.fNow,rv (.map (some hb)),rv (.map (some ha))] 68,.map hb (AG (mP hb) d.fEntities),.map ha (AG (mP ha) d.fCalls),.pool ha hg 44 (Ap Ad d_p2)]) Aa (wv (AK Aa) (vF JP Aa NH (vL 0 SH Aa (wv (Ca (ys:=(Af d_p1 (AE d.fEntities e (-1))).fCalls) (enc:=(eP ha)) (i:=1) O5 Aa Aa) (wv (r:=Aj 0) (Ay Aa) (Ax (AN (WC.nilrow (e:=44) (sz:=8) (Gy (H2:=[.blk b6 [AD 4 (Ap Ab ((Af d_p1 (AE d.fEntities e (-1))).fState)),rv v7,Aj ((Af d_p1 (AE d.fEntities e (-1))).fDone)] 87,.row v7 88 1 (Ap (eP ha) ((Af d_p1 (AE d.fEntities e (-1))).fCalls)),.poolw hb hh 87 88 1 (Ap (Ak ha) d_p1) (some (BU (AE d.fEntities e (-1)),(b6,v7))),.blk he [Aj d.fNow,rv (.map (some hb)),rv (.map (some ha))] 68,.map hb (AG (mP hb) d.fEntities),.map ha (AG (mP ha) d.fCalls),.pool ha hg 44 (Ap Ad d_p2),.row (.slice none 0 0                                            ) 44 8 (Ap Ad ([]:List Al))]) ((Ae (i:=1) Aa).trans (WZ _ ((Ae (i:=1) Aa).trans (WZ _ ((Ae (i:=1) Aa).trans (WZ _ ((Ae (i:=1) Aa).trans (WZ _ ((Ae (i:=1) Aa).trans (WZ _ ((Ae (i:=1) Aa).trans (WZ _ ((Ae (i:=1) Aa).trans (WZ _ (Xd _))))))))))))))) (ob h5 λhq hr hs=>Bv (S:=Nat×((List Al)×Int)×(Value)) (V:=((List Al))×(Value)) 0 (λσ=>BW (λσ=>E7 F d d_p1 d_p2 e σ.1 σ.2) σ.1 σ.2.1=some hq) (λσ=>[(7,rv σ.2.2),(27,rv v7),(28,Aj (((Af d_p1 (AE d.fEntities e (-1))).fCalls).length:Int)),(29,Aj σ.2.1.2)]) (λσ=>[.blk b6 [AD 4 (Ap Ab ((Af d_p1 (AE d.fEntities e (-1))).fState)),rv v7,Aj ((Af d_p1 (AE d.fEntities e (-1))).fDone)] 87,.row v7 88 1 (Ap (eP ha) ((Af d_p1 (AE d.fEntities e (-1))).fCalls)),.poolw hb hh 87 88 1 (Ap (Ak ha) d_p1) (some (BU (AE d.fEntities e (-1)),(b6,v7))),.blk he [Aj d.fNow,rv (.map (some hb)),rv (.map (some ha))] 68,.map hb (AG (mP hb) d.fEntities),.map ha (AG (mP ha) d.fCalls),.pool ha hg 44 (Ap Ad d_p2),.row σ.2.2 44 8 (Ap Ad σ.2.1.1)]) (λσ=>σ.1) (F,(([]:List Al),0),(.slice none 0 0                                            )) hr (AJ.c Aa (AJ.c Aa (AJ.c Aa (AJ.c Aa AJ.nil)))) (sC (sC (sC (sC (sC (sC (sC (sC sN)))))))) (λσ=>Jc σ.1=some r) (λσ=>[(7,rv σ.2)]) (λσ=>[.blk b6 [AD 4 (Ap Ab ((Af d_p1 (AE d.fEntities e (-1))).fState)),rv v7,Aj ((Af d_p1 (AE d.fEntities e (-1))).fDone)] 87,.row v7 88 1 (Ap (eP ha) ((Af d_p1 (AE d.fEntities e (-1))).fCalls)),.poolw hb hh 87 88 1 (Ap (Ak ha) d_p1) (some (BU (AE d.fEntities e (-1)),(b6,v7))),.blk he [Aj d.fNow,rv (.map (some hb)),rv (.map (some ha))] 68,.map hb (AG (mP hb) d.fEntities),.map ha (AG (mP ha) d.fCalls),.pool ha hg 44 (Ap Ad d_p2),.row σ.2 44 8 (Ap Ad σ.1)]) ?_ ?_))))))))))
  ·rintro⟨hI,⟨hi,hd⟩,v46⟩ ht;refine BM (l':=[(7,rv v46),(27,rv v7),(28,Aj (((Af d_p1 (AE d.fEntities e (-1))).fCalls).length:Int)),(29,Aj hd)]) (H':=[.blk b6 [AD 4 (Ap Ab ((Af d_p1 (AE d.fEntities e (-1))).fState)),rv v7,Aj ((Af d_p1 (AE d.fEntities e (-1))).fDone)] 87,.row v7 88 1 (Ap (eP ha) ((Af d_p1 (AE d.fEntities e (-1))).fCalls)),.poolw hb hh 87 88 1 (Ap (Ak ha) d_p1) (some (BU (AE d.fEntities e (-1)),(b6,v7))),.blk he [Aj d.fNow,rv (.map (some hb)),rv (.map (some ha))] 68,.map hb (AG (mP hb) d.fEntities),.map ha (AG (mP ha) d.fCalls),.pool ha hg 44 (Ap Ad d_p2),.row v46 44 8 (Ap Ad hi)]) Aa Aa ?_;obtain⟨hu,rfl,hw,hk,hn⟩:=Cz ht;replace hk:E7 F d d_p1 d_p2 e hi hd=some hw:=hk;unfold E7 at hk;refine An (wv (C2 Aa Aa) (Ax (Av (cz hk Aa (λhx hy=>?_) (λhx hz=>?_)))))
   ·refine A1 (AT (Av (AN (An (ck hy λho h0=>wv (r:=rv (C0 1 v7 (BU hd) 0)) (Cd (i:=1) O5 Ug Aa Aa Aa (AX ho)) (wv (r:=Gp ha (Af ((Af d_p1 (AE d.fEntities e (-1))).fCalls) hd) 0) (Cs (enc:=(eP ha)) (ys:=(Af d_p1 (AE d.fEntities e (-1))).fCalls) (i:=1) (j:=hd) Tryz.isAgg88 Aa Aa ho Aa) (wa Aa (Ax (Au (wm Aa (wm Aa (ck h0 λh1 h4=>wv (r:=Gp ha (Af ((Af d_p1 (AE d.fEntities e (-1))).fCalls) hd) 0) (Dd Aa h1) (ck h4 λh6 h7=>wv (r:=Bd [rS (((Af d_p2 (Af ((Af d_p1 (AE d.fEntities e (-1))).fCalls) hd)).fOp).fEntity),rS (((Af d_p2 (Af ((Af d_p1 (AE d.fEntities e (-1))).fCalls) hd)).fOp).fID),rS (((Af d_p2 (Af ((Af d_p1 (AE d.fEntities e (-1))).fCalls) hd)).fOp).fOp),AD 1 (Ap Ai (((Af d_p2 (Af ((Af d_p1 (AE d.fEntities e (-1))).fCalls) hd)).fOp).fArgs)),Aj (((Af d_p2 (Af ((Af d_p1 (AE d.fEntities e (-1))).fCalls) hd)).fAnswer).fErr),AD 4 (Ap Ab (((Af d_p2 (Af ((Af d_p1 (AE d.fEntities e (-1))).fCalls) hd)).fAnswer).fValue)),Aj ((Af d_p2 (Af ((Af d_p1 (AE d.fEntities e (-1))).fCalls) hd)).fFrom),Aj ((Af d_p2 (Af ((Af d_p1 (AE d.fEntities e (-1))).fCalls) hd)).fTo)]) (HC (enc:=Ad) (xs:=d_p2) (j:=6) In BL Aa Aa h6 Aa Aa) (ob h7 λhf h8 h9=>Cl Tryz.call45 (KR F (Al.mk ((Af d_p2 (Af ((Af d_p1 (AE d.fEntities e (-1))).fCalls) hd)).fOp) ((Af d_p2 (Af ((Af d_p1 (AE d.fEntities e (-1))).fCalls) hd)).fAnswer) ((Af d_p2 (Af ((Af d_p1 (AE d.fEntities e (-1))).fCalls) hd)).fFrom) ((Af d_p2 (Af ((Af d_p1 (AE d.fEntities e (-1))).fCalls) hd)).fTo)) hf h8) Aa (Bl (ys:=([hf]:List Al)) (enc:=Ad) (css:=[[rS hf.fOp.fEntity,rS hf.fOp.fID,rS hf.fOp.fOp,AD 1 (Ap Ai hf.fOp.fArgs),Aj hf.fAnswer.fErr,AD 4 (Ap Ab hf.fAnswer.fValue),Aj hf.fFrom,Aj hf.fTo]]) (xs:=[.tmp 37]) Cn BL KB Aa Aa Aa ⟨Jm.agg ⟨Up.refl _,Up.refl _,Up.refl _,Up.refl _,Up.refl _,Up.refl _,Up.refl _,Up.refl _,trivial⟩,trivial⟩ Aa CL Aa Aa Aa (λhA=>?_))))))))))))))));refine ck h9 λhB hC=>Exists.elim Q2 λinf hinf=>Da (xs:=hi) (ys:=([hf]:List Al)) (enc:=Ad) (i:=8) Cn hinf.1 hinf.2.1 hinf.2.2.1 hinf.2.2.2 Aa Aa Aa Aa Aa (MK.w (i:=0) Aa Aa) CL Hq hB Aa (λhp=>?_);refine wa Aa (At (AL (AT (Au (ck hC λhD hE=>wv (B0 Aa Aa hD) (wm Aa (At (BV (H2:=[.blk b6 [AD 4 (Ap Ab ((Af d_p1 (AE d.fEntities e (-1))).fState)),rv v7,Aj ((Af d_p1 (AE d.fEntities e (-1))).fDone)] 87,.row v7 88 1 (Ap (eP ha) ((Af d_p1 (AE d.fEntities e (-1))).fCalls)),.poolw hb hh 87 88 1 (Ap (Ak ha) d_p1) (some (BU (AE d.fEntities e (-1)),(b6,v7))),.blk he [Aj d.fNow,rv (.map (some hb)),rv (.map (some ha))] 68,.map hb (AG (mP hb) d.fEntities),.map ha (AG (mP ha) d.fCalls),.pool ha hg 44 (Ap Ad d_p2),.row hp 44 8 (Ap Ad (hi++([hf]:List Al))),.row (.slice (some ⟨hA,0,none⟩) 1 1) 44 8 (Ap Ad ([hf]:List Al))]) ((Ae (i:=2) Aa).trans (WZ _ ((Ae (i:=2) Aa).trans (WZ _ ((Ae (i:=2) Aa).trans (WZ _ ((Ae (i:=2) Aa).trans (WZ _ ((Ae (i:=2) Aa).trans (WZ _ ((Ae (i:=2) Aa).trans (WZ _ ((Ae (i:=2) Aa).trans (WZ _ (Xd _))))))))))))))) ?_))))))));have hG:=Bn hE hn;exact AC (AA (hu,(hi++([hf]:List Al),hd+1),hp) ⟨hG,Xi _⟩ (AJ.c Aa (AJ.c Aa (AJ.c Aa (AJ.c Aa AJ.nil)))) (sC (sC (sC (sC (sC (sC (sC (sC (sS sN))))))))))
   ·refine By (A4 ?_);have hH:=BQ hz hn hs;exact A4 (Bi (AA (hi,v46) hH (AJ.c Aa AJ.nil) (sC (sC (sC (sC (sC (sC (sC (sC sN))))))))))
  ·rintro⟨hj,hl⟩ hm;refine Cy (l':=[(7,rv hl)]) (H':=[.blk b6 [AD 4 (Ap Ab ((Af d_p1 (AE d.fEntities e (-1))).fState)),rv v7,Aj ((Af d_p1 (AE d.fEntities e (-1))).fDone)] 87,.row v7 88 1 (Ap (eP ha) ((Af d_p1 (AE d.fEntities e (-1))).fCalls)),.poolw hb hh 87 88 1 (Ap (Ak ha) d_p1) (some (BU (AE d.fEntities e (-1)),(b6,v7))),.blk he [Aj d.fNow,rv (.map (some hb)),rv (.map (some ha))] 68,.map hb (AG (mP hb) d.fEntities),.map ha (AG (mP ha) d.fCalls),.pool ha hg 44 (Ap Ad d_p2),.row hl 44 8 (Ap Ad hj)]) Aa Aa ?_;replace hm:Jc hj=some r:=hm;unfold Jc at hm;refine Bk (AT (An (wm Aa (wa Aa (Ax (A0 (WK.putsame (encw:=(Ak ha)) (xs:=d_p1) (i:=AE d.fEntities e (-1)) (Hr:=[.blk he [Aj d.fNow,rv (.map (some hb)),rv (.map (some ha))] 68,.map hb (AG (mP hb) d.fEntities),.map ha (AG (mP ha) d.fCalls),.pool ha hg 44 (Ap Ad d_p2),.row hl 44 8 (Ap Ad hj)]) (Xd _) g4 [] trivial Aa Aa (WK.freeze (i:=5) Aa (WK.up (d:=4) (r:=AD 8 (Ap Ad hj)) Aa (Up.fact (i:=0) Aa) (BV (H2:=[.blk he [Aj d.fNow,rv (.map (some hb)),rv (.map (some ha))] 68,.map hb (AG (mP hb) d.fEntities),.map ha (AG (mP ha) d.fCalls),.poolw hb hh 87 88 1 (Ap (Ak ha) d_p1) none,.pool ha hg 44 (Ap Ad d_p2),.fact hl (AD 8 (Ap Ad hj))]) ((Ae (i:=2) Aa).trans (WZ _ ((Ae (i:=2) Aa).trans (WZ _ ((Ae (i:=2) Aa).trans (WZ _ ((Ae (i:=1) Aa).trans (WZ _ ((Ae (i:=1) Aa).trans (WZ _ (Xd _))))))))))) ?_))))))))));obtain rfl:=A2 hm;exact Az (BI Tryz.results21 (AR Aa)) (sC (sC (sC (sC (sC (sS sN)))))) ⟨Aa,Aa⟩
theorem HV (F:Nat)(he:Nat)(hb:Nat)(ha:Nat)(hf:Value)(hg:Value)(d:A5)(d_p1:(List As))(d_p2:(List Al))(e:Aq)(r:(List Aq))(h:EJ F d d_p1 d_p2 e=some r):Fn Tryz.prog GE 20 [rP he 0,rS e] [.blk he [Aj d.fNow,rv (.map (some hb)),rv (.map (some ha))] 68,.map hb (AG (mP hb) d.fEntities),.map ha (AG (mP ha) d.fCalls),.poolw hb hf 87 88 1 (Ap (Ak ha) d_p1) none,.pool ha hg 44 (Ap Ad d_p2)] (λR H=>R=AD 1 (Ap eS r)∧H=[.blk he [Aj d.fNow,rv (.map (some hb)),rv (.map (some ha))] 68,.map hb (AG (mP hb) d.fEntities),.map ha (AG (mP ha) d.fCalls),.poolw hb hf 87 88 1 (Ap (Ak ha) d_p1) none,.pool ha hg 44 (Ap Ad d_p2)]):=by
 refine enter (n:=27) Tryz.func20 Aa Tryz.ntmps20 Aa (λw Z=>?_);unfold EJ at h;refine An (wa Aa (B4 (wa Aa (Ax (Av (An (wm Aa (wm Aa (ob h λr1 e3 h2=>ER (Hr:=[]) Tryz.call21 (Kr F he hb ha hf hg d d_p1 d_p2 e r1 e3) Aa (Xd _) Aa ?_)))))))));rintro _ _ ⟨rfl,rfl⟩;refine wv (Bo (ys:=r1) (enc:=Ad) Cn Aa) (wv (r:=Aj 0) (Ay Aa) (Ax (AN (WC.nilrow (e:=9) (sz:=1) (Gy (H2:=[.blk he [Aj d.fNow,rv (.map (some hb)),rv (.map (some ha))] 68,.map hb (AG (mP hb) d.fEntities),.map ha (AG (mP ha) d.fCalls),.poolw hb hf 87 88 1 (Ap (Ak ha) d_p1) none,.pool ha hg 44 (Ap Ad d_p2),.row (.slice none 0 0         ) 9 1 (Ap eS ([]:List Aq))]) ((Ae (i:=1) Aa).trans (WZ _ ((Ae (i:=1) Aa).trans (WZ _ ((Ae (i:=1) Aa).trans (WZ _ ((Ae (i:=1) Aa).trans (WZ _ ((Ae (i:=1) Aa).trans (WZ _ (Xd _))))))))))) (ob h2 λhu hw hx=>Bv (S:=Nat×((List Aq)×Int)×(Value)) (V:=((List Aq))×(Value)) 0 (λσ=>BW (λσ=>Dt r1 σ.1 σ.2) σ.1 σ.2.1=some hu) (λσ=>[(5,rv σ.2.2),(10,AD 8 (Ap Ad r1)),(11,Aj (r1.length:Int)),(12,Aj σ.2.1.2)]) (λσ=>[.blk he [Aj d.fNow,rv (.map (some hb)),rv (.map (some ha))] 68,.map hb (AG (mP hb) d.fEntities),.map ha (AG (mP ha) d.fCalls),.poolw hb hf 87 88 1 (Ap (Ak ha) d_p1) none,.pool ha hg 44 (Ap Ad d_p2),.row σ.2.2 9 1 (Ap eS σ.2.1.1)]) (λσ=>σ.1) (F,(([]:List Aq),0),(.slice none 0 0         )) hw (AJ.c Aa (AJ.c Aa (AJ.c Aa (AJ.c Aa AJ.nil)))) (sC (sC (sC (sC (sC (sC sN)))))) (λσ=>Hd σ.1=some r) (λσ=>[(5,rv σ.2)]) (λσ=>[.blk he [Aj d.fNow,rv (.map (some hb)),rv (.map (some ha))] 68,.map hb (AG (mP hb) d.fEntities),.map ha (AG (mP ha) d.fCalls),.poolw hb hf 87 88 1 (Ap (Ak ha) d_p1) none,.pool ha hg 44 (Ap Ad d_p2),.row σ.2 9 1 (Ap eS σ.1)]) ?_ ?_))))))
 ·rintro⟨hH,⟨hh,hd⟩,hi⟩ hy;refine BM (l':=[(5,rv hi),(10,AD 8 (Ap Ad r1)),(11,Aj (r1.length:Int)),(12,Aj hd)]) (H':=[.blk he [Aj d.fNow,rv (.map (some hb)),rv (.map (some ha))] 68,.map hb (AG (mP hb) d.fEntities),.map ha (AG (mP ha) d.fCalls),.poolw hb hf 87 88 1 (Ap (Ak ha) d_p1) none,.pool ha hg 44 (Ap Ad d_p2),.row hi 9 1 (Ap eS hh)]) Aa Aa ?_;obtain⟨hz,rfl,hm,hj,hq⟩:=Cz hy;replace hj:Dt r1 hh hd=some hm:=hj;unfold Dt at hj;refine An (wv (C2 Aa Aa) (Ax (Av (cz hj Aa (λh0 h1=>?_) (λh0 h3=>?_)))))
  ·refine A1 (AT (Co (S:=((List Aq))×(Value)) (λσ=>E4 hd σ.1=some hm) (λσ=>[(5,rv σ.2),(10,AD 8 (Ap Ad r1)),(11,Aj (r1.length:Int)),(12,Aj hd)]) (λσ=>[.blk he [Aj d.fNow,rv (.map (some hb)),rv (.map (some ha))] 68,.map hb (AG (mP hb) d.fEntities),.map ha (AG (mP ha) d.fCalls),.poolw hb hf 87 88 1 (Ap (Ak ha) d_p1) none,.pool ha hg 44 (Ap Ad d_p2),.row σ.2 9 1 (Ap eS σ.1)]) ?_ ?_))
   ·refine AN (An (ck h1 λh4 h5=>wv (Bh (enc:=Ad) (ys:=r1) Cn BL Aa Aa h4) (wv (B6 In BL Aa Aa Aa) (B3 (cs:=[rS ([]:Aq),rS ([]:Aq),rS ([]:Aq),rv (.slice none 0 0),Aj 0,rv (.slice none 0 0),Aj 0,Aj 0]) KB Aa Aa (λhr=>?_)))));refine AF (i:=0) BL Aa Aa Aa (Be.c Aa) Aa Aa (cs':=[rS (((Af r1 hd).fOp).fEntity),rS (((Af r1 hd).fOp).fID),rS (((Af r1 hd).fOp).fOp),AD 1 (Ap Ai (((Af r1 hd).fOp).fArgs)),Aj (((Af r1 hd).fAnswer).fErr),AD 4 (Ap Ab (((Af r1 hd).fAnswer).fValue)),Aj ((Af r1 hd).fFrom),Aj ((Af r1 hd).fTo)]) Aa (H':=[.blk hr [rS (((Af r1 hd).fOp).fEntity),rS (((Af r1 hd).fOp).fID),rS (((Af r1 hd).fOp).fOp),AD 1 (Ap Ai (((Af r1 hd).fOp).fArgs)),Aj (((Af r1 hd).fAnswer).fErr),AD 4 (Ap Ab (((Af r1 hd).fAnswer).fValue)),Aj ((Af r1 hd).fFrom),Aj ((Af r1 hd).fTo)] 44,.blk he [Aj d.fNow,rv (.map (some hb)),rv (.map (some ha))] 68,.map hb (AG (mP hb) d.fEntities),.map ha (AG (mP ha) d.fCalls),.poolw hb hf 87 88 1 (Ap (Ak ha) d_p1) none,.pool ha hg 44 (Ap Ad d_p2),.row hi 9 1 (Ap eS hh)]) Aa (B4 (vF C3 Aa C1 (vL 0 Dm Aa (wv (B5 Aa Aa) (Ax (cz h5 Aa (λh6 h7=>?_) (λh6 h8=>?_)))))))
    ·refine Au (wm Aa (vF C3 Aa Cc (vF BG Aa CF (vL 0 CZ Aa (Bl (ys:=([((Af r1 hd).fOp).fID]:List Aq)) (enc:=eS) (css:=[[rS (((Af r1 hd).fOp).fID)]]) (xs:=[.tmp 22]) DX CF Vh Aa Aa Aa ⟨Jm.one Aa (Up.refl _),trivial⟩ Aa EN Aa Aa Aa (λh9=>?_))))));refine ck h7 λhA hB=>Exists.elim Nx λinf hinf=>Da (xs:=hh) (ys:=([((Af r1 hd).fOp).fID]:List Aq)) (enc:=eS) (i:=7) DX hinf.1 hinf.2.1 hinf.2.2.1 hinf.2.2.2 Aa Aa Aa Aa Aa (MK.w (i:=0) Aa Aa) EN Lb hA Aa (λhs=>?_);exact wa Aa (At (AL (BV (H2:=[.blk he [Aj d.fNow,rv (.map (some hb)),rv (.map (some ha))] 68,.map hb (AG (mP hb) d.fEntities),.map ha (AG (mP ha) d.fCalls),.poolw hb hf 87 88 1 (Ap (Ak ha) d_p1) none,.pool ha hg 44 (Ap Ad d_p2),.row hs 9 1 (Ap eS (hh++([((Af r1 hd).fOp).fID]:List Aq))),.row (.slice (some ⟨h9,0,none⟩) 1 1) 9 1 (Ap eS ([((Af r1 hd).fOp).fID]:List Aq)),.blk hr [rS (((Af r1 hd).fOp).fEntity),rS (((Af r1 hd).fOp).fID),rS (((Af r1 hd).fOp).fOp),AD 1 (Ap Ai (((Af r1 hd).fOp).fArgs)),Aj (((Af r1 hd).fAnswer).fErr),AD 4 (Ap Ab (((Af r1 hd).fAnswer).fValue)),Aj ((Af r1 hd).fFrom),Aj ((Af r1 hd).fTo)] 44]) ((Ae (i:=3) Aa).trans (WZ _ ((Ae (i:=3) Aa).trans (WZ _ ((Ae (i:=3) Aa).trans (WZ _ ((Ae (i:=3) Aa).trans (WZ _ ((Ae (i:=3) Aa).trans (WZ _ (Xd _))))))))))) (AC (AA (hh++([((Af r1 hd).fOp).fID]:List Aq),hs) hB (AJ.c Aa (AJ.c Aa (AJ.c Aa (AJ.c Aa AJ.nil)))) (sC (sC (sC (sC (sC (sC (sS (sS sN)))))))))))))
    ·exact A1 (AL (AC (AA (hh,hi) h8 (AJ.c Aa (AJ.c Aa (AJ.c Aa (AJ.c Aa AJ.nil)))) (sS (sC (sC (sC (sC (sC (sC sN))))))))))
   ·rintro⟨hn,ho⟩ hk;refine BM (l':=[(5,rv ho),(10,AD 8 (Ap Ad r1)),(11,Aj (r1.length:Int)),(12,Aj hd)]) (H':=[.blk he [Aj d.fNow,rv (.map (some hb)),rv (.map (some ha))] 68,.map hb (AG (mP hb) d.fEntities),.map ha (AG (mP ha) d.fCalls),.poolw hb hf 87 88 1 (Ap (Ak ha) d_p1) none,.pool ha hg 44 (Ap Ad d_p2),.row ho 9 1 (Ap eS hn)]) Aa Aa ?_;replace hk:E4 hd hn=some hm:=hk;unfold E4 at hk;refine Au (ck hk λhC hD=>wv (B0 Aa Aa hC) (wm Aa (At ?_)));have hE:=Bn hD hq;exact AC (AA (hz,(hn,hd+1),ho) ⟨hE,Xi _⟩ (AJ.c Aa (AJ.c Aa (AJ.c Aa (AJ.c Aa AJ.nil)))) (sC (sC (sC (sC (sC (sC sN)))))))
  ·refine By (A4 ?_);have hG:=BQ h3 hq hx;exact A4 (Bi (AA (hh,hi) hG (AJ.c Aa AJ.nil) (sC (sC (sC (sC (sC (sC sN))))))))
 ·rintro⟨hp,ht⟩ hl;refine Cy (l':=[(5,rv ht)]) (H':=[.blk he [Aj d.fNow,rv (.map (some hb)),rv (.map (some ha))] 68,.map hb (AG (mP hb) d.fEntities),.map ha (AG (mP ha) d.fCalls),.poolw hb hf 87 88 1 (Ap (Ak ha) d_p1) none,.pool ha hg 44 (Ap Ad d_p2),.row ht 9 1 (Ap eS hp)]) Aa Aa ?_;replace hl:Hd hp=some r:=hl;unfold Hd at hl;refine Bk (AT (An (wm Aa (wa Aa (Ax (A0 (WK.freeze (i:=5) Aa (WK.up (d:=4) (r:=AD 1 (Ap eS hp)) Aa (Up.fact (i:=0) Aa) ?_))))))));obtain rfl:=A2 hl;exact Az (BI Tryz.results20 (AR Aa)) (sS (sC (sC (sC (sC (sC sN)))))) ⟨Aa,Aa⟩
theorem KU (F:Nat)(hd:Nat)(hb:Nat)(ha:Nat)(he:Value)(hf:Value)(d:A5)(d_p1:(List As))(d_p2:(List Al))(id:Aq)(r:A8×Bool)(h:He F d d_p1 d_p2 id=some r):Fn Tryz.prog GE 28 [rP hd 0,rS id] [.blk hd [Aj d.fNow,rv (.map (some hb)),rv (.map (some ha))] 68,.map hb (AG (mP hb) d.fEntities),.map ha (AG (mP ha) d.fCalls),.poolw hb he 87 88 1 (Ap (Ak ha) d_p1) none,.pool ha hf 44 (Ap Ad d_p2)] (λR H=>R=Dk [Bd (Ao r.1),rB r.2]∧H=[.blk hd [Aj d.fNow,rv (.map (some hb)),rv (.map (some ha))] 68,.map hb (AG (mP hb) d.fEntities),.map ha (AG (mP ha) d.fCalls),.poolw hb he 87 88 1 (Ap (Ak ha) d_p1) none,.pool ha hf 44 (Ap Ad d_p2)]):=by
 refine enter (n:=36) Tryz.func28 Aa Tryz.ntmps28 Aa (λw Z=>?_);unfold He at h;refine An (B3 (cs:=[Aj 0,rv (.slice none 0 0)]) GL Aa Aa (λb1=>?_));refine wa Aa (Ax (Av (An (wm Aa (ER (Hr:=[.blk b1 [Aj 0,rv (.slice none 0 0)] 31,.map hb (AG (mP hb) d.fEntities),.map ha (AG (mP ha) d.fCalls),.poolw hb he 87 88 1 (Ap (Ak ha) d_p1) none,.pool ha hf 44 (Ap Ad d_p2)]) Ry (IZ hd hb ha d true Aa) Aa ((Ae (i:=1) Aa).trans (WZ _ (Xd _))) Aa ?_)))));rintro _ _ ⟨rfl,rfl⟩;refine wv (B8 Aa) (Ax (EV Aa (Eg Aa) (A1 (AT (An (wm Aa (wv (AK Aa) (vF HH Aa SA (vL 0 SI Aa (wm Aa (wv (r:=Dk [Gp ha (AE d.fCalls id (-1)) 0,rB (BB d.fCalls id)]) (HT (enc:=(mP ha)) (xs:=d.fCalls) (z:=(-1)) (i:=3) S7 Gn Ue (Sb ha) Aa Aa Aa) (wm Aa (wv (AO Aa Aa) (wv (AO Aa Aa) (wa Aa (wa Aa (Ax (Av (ck h λg2 h3=>ck h3 λg4 h5=>AU [(4,rP b1 0),(6,Gp ha (AE d.fCalls id (-1)) 0),(29,rB ((!(BB d.fCalls id))||(decide (((Af d_p2 (AE d.fCalls id (-1))).fTo)=(-1)))))] [.blk hd [Aj d.fNow,rv (.map (some hb)),rv (.map (some ha))] 68,.blk b1 [Aj 0,rv (.slice none 0 0)] 31,.map hb (AG (mP hb) d.fEntities),.map ha (AG (mP ha) d.fCalls),.poolw hb he 87 88 1 (Ap (Ak ha) d_p1) none,.pool ha hf 44 (Ap Ad d_p2)] ?_ ?_)))))))))))))))))))
 ·refine Au (wm Aa (wv (B8 Aa) (wm Aa (AY (!(BB d.fCalls id)) (λc6=>?_) (λc6=>?_)))))
  ·refine wf c6 (wf c6 (wf c6 (wf c6 (wf c6 (wv (r:=rB true) (Ar Aa c6 Aa) (At ?_))))));exact Cg c6
  ·refine wo c6 (wm Aa (wo c6 (wv (r:=Gp ha (AE d.fCalls id (-1)) 0) (Dd Aa (Dj g2 c6)) (wo c6 (wv (r:=Gp ha (AE d.fCalls id (-1)) 7) (Mm C3 Aa C1 Aa (Dj g2 c6) Aa) (wo c6 (wv (r:=Aj ((Af d_p2 (AE d.fCalls id (-1))).fTo)) (Tr (enc:=Ad) (xs:=d_p2) (j:=5) Dm Aa Aa (Dj g4 c6) Aa) (wo c6 (wv (B5 Aa Aa) (DB Aa c6 Aa (At ?_)))))))))));exact Cg c6
 refine cz h5 Aa (λc7 h8=>?_) (λc7 h9=>?_)
 ·refine An (wv (r:=Bd [Aj 0,rv (.slice none 0 0)]) (Gc ) (AF (i:=1) Bs Aa Aa Aa (Be.c Aa) Aa Aa (cs':=[Aj 0,rv (.slice none 0 0)]) Aa (H':=[.blk hd [Aj d.fNow,rv (.map (some hb)),rv (.map (some ha))] 68,.blk b1 [Aj 0,rv (.slice none 0 0)] 31,.map hb (AG (mP hb) d.fEntities),.map ha (AG (mP ha) d.fCalls),.poolw hb he 87 88 1 (Ap (Ak ha) d_p1) none,.pool ha hf 44 (Ap Ad d_p2)]) Aa (wa Aa (Ax (A0 (Ah (WK.upBlk (i:=1) (cs':=[Aj 0,AD 4 (Ap Ab ([]:List Ac))]) Aa ⟨Up.refl _,Up.le (Gx.nil _),trivial⟩ ?_)))))));obtain rfl:=A2 h8;exact Az (Ix Tryz.results28 (BO (i:=1) Cw Bs Aa Aa Aa) (AR Aa)) (sC (sS (sC (sC (sC (sC sN)))))) ⟨Aa,Aa⟩
 ·refine A1 (AT (An (wm Aa (ck h9 λhh hi=>wv (r:=Gp ha (AE d.fCalls id (-1)) 0) (Dd Aa hh) (ck hi λhj hk=>wv (r:=Bd [rS (((Af d_p2 (AE d.fCalls id (-1))).fOp).fEntity),rS (((Af d_p2 (AE d.fCalls id (-1))).fOp).fID),rS (((Af d_p2 (AE d.fCalls id (-1))).fOp).fOp),AD 1 (Ap Ai (((Af d_p2 (AE d.fCalls id (-1))).fOp).fArgs)),Aj (((Af d_p2 (AE d.fCalls id (-1))).fAnswer).fErr),AD 4 (Ap Ab (((Af d_p2 (AE d.fCalls id (-1))).fAnswer).fValue)),Aj ((Af d_p2 (AE d.fCalls id (-1))).fFrom),Aj ((Af d_p2 (AE d.fCalls id (-1))).fTo)]) (HC (enc:=Ad) (xs:=d_p2) (j:=5) In BL Aa Aa hj Aa Aa) (ob hk λhg hl hm=>Cl Tryz.call45 (KR F (Al.mk ((Af d_p2 (AE d.fCalls id (-1))).fOp) ((Af d_p2 (AE d.fCalls id (-1))).fAnswer) ((Af d_p2 (AE d.fCalls id (-1))).fFrom) ((Af d_p2 (AE d.fCalls id (-1))).fTo)) hg hl) Aa (wv (r:=Bd (Ao hg.fAnswer)) (Pe C3 Aa Cw Bs Aa Aa) (AF (i:=1) Bs Aa Aa Aa (Be.c Aa) Aa Aa (cs':=[Aj hg.fAnswer.fErr,AD 4 (Ap Ab hg.fAnswer.fValue)]) Aa (H':=[.blk hd [Aj d.fNow,rv (.map (some hb)),rv (.map (some ha))] 68,.blk b1 (Ao hg.fAnswer) 31,.map hb (AG (mP hb) d.fEntities),.map ha (AG (mP ha) d.fCalls),.poolw hb he 87 88 1 (Ap (Ak ha) d_p1) none,.pool ha hf 44 (Ap Ad d_p2)]) Aa (wa Aa (Ax (A0 ?_)))))))))));obtain rfl:=A2 hm;exact Az (Ix Tryz.results28 (BO (i:=1) Cw Bs Aa Aa Aa) (AR Aa)) (sC (sS (sC (sC (sC (sC sN)))))) ⟨Aa,Aa⟩
theorem Kq (hd:Nat)(ha:Nat)(hb:Nat)(he:Value)(hf:Value)(d:A5)(d_p1:(List As))(d_p2:(List Al))(r:(List Aq))(h:HY d d_p1 d_p2=some r):Fn Tryz.prog GE 22 [rP hd 0] [.blk hd [Aj d.fNow,rv (.map (some ha)),rv (.map (some hb))] 68,.map ha (AG (mP ha) d.fEntities),.map hb (AG (mP hb) d.fCalls),.poolw ha he 87 88 1 (Ap (Ak hb) d_p1) none,.pool hb hf 44 (Ap Ad d_p2)] (λR H=>R=AD 1 (Ap eS r)∧H=[.blk hd [Aj d.fNow,rv (.map (some ha)),rv (.map (some hb))] 68,.map ha (AG (mP ha) d.fEntities),.map hb (AG (mP hb) d.fCalls),.poolw ha he 87 88 1 (Ap (Ak hb) d_p1) none,.pool hb hf 44 (Ap Ad d_p2)]):=by
 refine enter (n:=12) Tryz.func22 Aa Tryz.ntmps22 Aa (λw Z=>?_);unfold HY at h;refine An (wa Aa (Ax (Av (An (wm Aa (ER (Hr:=[.map ha (AG (mP ha) d.fEntities),.map hb (AG (mP hb) d.fCalls),.poolw ha he 87 88 1 (Ap (Ak hb) d_p1) none,.pool hb hf 44 (Ap Ad d_p2)]) Ry (IZ hd ha hb d true Aa) Aa (Xd _) Aa ?_))))));rintro _ _ ⟨rfl,rfl⟩;refine wv (B8 Aa) (Ax (EV Aa (Eg Aa) (A1 (AT (An (wm Aa (wv (AK Aa) (vF HH Aa O9 (vL 0 OE Aa (HJ (rs:=[rv (.map (some ha))]) (Hin:=[]) (Hr:=[.blk hd [Aj d.fNow,rv (.map (some ha)),rv (.map (some hb))] 68,.map ha (AG (mP ha) d.fEntities),.map hb (AG (mP hb) d.fCalls),.poolw ha he 87 88 1 (Ap (Ak hb) d_p1) none,.pool hb hf 44 (Ap Ad d_p2)]) Tryz.call50 Aa (Xd _) (Qy ha) Aa ?_))))))))));rintro _ _ ⟨b1,rfl,rfl⟩;refine ck h λg2 h3=>HJ (rs:=[rv (.func (.func 74) #[] #[(.pointer (some ⟨b1,0,none⟩))])]) (Hin:=[.blk b1 [rv (.map (some ha))] 65,.map ha (AG (mP ha) d.fEntities)]) (Hr:=[.blk hd [Aj d.fNow,rv (.map (some ha)),rv (.map (some hb))] 68,.map hb (AG (mP hb) d.fCalls),.poolw ha he 87 88 1 (Ap (Ak hb) d_p1) none,.pool hb hf 44 (Ap Ad d_p2)]) Tryz.call49 Aa ((Ae (i:=0) Aa).trans (WZ _ ((Ae (i:=1) Aa).trans (WZ _ (Xd _))))) (OM (mP ha) d.fEntities b1 ha g2) Aa ?_;rintro _ _ ⟨v4,rfl,rfl⟩;refine wa Aa (Ax (A0 (WK.freeze (i:=0) Aa (WK.up (d:=2) (r:=AD 1 (Ap eS (Ls d.fEntities))) Aa (Up.fact (i:=0) Aa) (BV (H2:=[.blk hd [Aj d.fNow,rv (.map (some ha)),rv (.map (some hb))] 68,.map ha (AG (mP ha) d.fEntities),.map hb (AG (mP hb) d.fCalls),.poolw ha he 87 88 1 (Ap (Ak hb) d_p1) none,.pool hb hf 44 (Ap Ad d_p2),.fact v4 (AD 1 (Ap eS (Ls d.fEntities))),.blk b1 [rv (.map (some ha))] 65]) ((Ae (i:=3) Aa).trans (WZ _ ((Ae (i:=2) Aa).trans (WZ _ ((Ae (i:=2) Aa).trans (WZ _ ((Ae (i:=2) Aa).trans (WZ _ ((Ae (i:=2) Aa).trans (WZ _ (Xd _))))))))))) ?_)))));obtain rfl:=A2 h3;exact Az (BI Tryz.results22 (AR Aa)) (sC (sC (sC (sC (sC (sS (sS sN))))))) ⟨Aa,Aa⟩
end Go.Proofs.YtfbmdidnlhifjaaGreatDoor.Q
namespace Go.Proofs.YtfbmdidnlhifjaaGreatDoor
open Go
set_option linter.unusedVariables false
def IB (F:Nat) :Option (Bool):=
 Bt (Tv) λr1=>Bt (M0 ([97]:Aq) 1) λr9=>Bt (Dy F r1.1 r1.2.1 r1.2.2 r9 5) λhd=>Br (!(!decide (hd.1=0)))<|Bt (M0 ([98]:Aq) 2) λhh=>Bt (Dy F hd.2.1 hd.2.2.1 hd.2.2.2 hh 5) λhe=>Br (!(!decide (he.1=0)))<|Bt (M0 ([98]:Aq) 1) λhi=>Bt (Dy F he.2.1 he.2.2.1 he.2.2.2 hi 5) λhb=>Br (!(!decide (hb.1=19)))<|Bt (EJ F hb.2.1 hb.2.2.1 hb.2.2.2 ([120]:Aq)) λhj=>Bt (I5 F hb.2.1 hb.2.2.1 hb.2.2.2 ([120]:Aq) 6) λhf=>Bt (I5 F hf.2.2.1 hf.2.2.2.1 hf.2.2.2.2 ([120]:Aq) 7) λha=>Bt (HX ha.2.2.1 ha.2.2.2.1 ha.2.2.2.2 ([120]:Aq)) λhg=>Bt (Ev F hj ([([97]:Aq),([98]:Aq)]:List Aq)) λhk=>Br (hk)<|Br (hf.2.1)<|Br (ha.2.1)<|Br (decide (ha.1.fTo=7))<|Br (decide ((ha.1.fAnswer.fValue.length:Int)=1))<|Br (Ct 0 (ha.1.fAnswer.fValue.length:Int))<|Br (decide (((Af ha.1.fAnswer.fValue 0).fInt)=3))<|Br (decide ((hg.length:Int)=1))<|Br (Ct 0 (hg.length:Int))<|Br (decide (((Af hg 0).fInt)=3))<|Bt (HY ha.2.2.1 ha.2.2.2.1 ha.2.2.2.2) λhl=>Bt (Ev F hl ([([120]:Aq)]:List Aq)) λhm=>some hm
end Go.Proofs.YtfbmdidnlhifjaaGreatDoor
namespace Go.Proofs.YtfbmdidnlhifjaaGreatDoor.Q
open Go Go.RowKit
set_option linter.unusedVariables false
set_option linter.unusedSimpArgs false
set_option maxRecDepth 100000
set_option maxHeartbeats 4000000
theorem My (F:Nat)  (r:Bool)(h:IB F=some r):Fn Tryz.prog GE 10 [] [] (λR H=>R=rB r∧H=[]):=by
 refine enter (n:=87) Tryz.func10 Aa Tryz.ntmps10 Aa (λw Z=>?_);unfold IB at h;refine An (wa Aa (B4 (ob h λr1 e3 h2=>ER (Hr:=[]) Tryz.call16 (Tu r1 e3) Aa (Xd _) Aa ?_)));rintro _ _ ⟨b4,b5,b6,v7,v8,rfl,rfl⟩;refine wa Aa (Ax (Av (An (wm Aa (ob h2 λr9 hz h0=>Cl Tryz.call35 (Mz ([97]:Aq) 1 r9 hz) Aa (ob h0 λhe h1 h3=>ER (Hr:=[]) Tryz.call18 (IX F b4 b5 b6 v7 v8 r1.1 r1.2.1 r1.2.2 r9 5 he h1) Aa (Xd _) Aa ?_))))));rintro _ _ ⟨h4,h5,rfl,rfl⟩;refine wv (Dp Aa Aa) (wm Aa (ck h3 λg17 h6=>Bz (b:=!decide (he.1=0)) Aa Aa (Bool.not_eq_eq_eq_not.1 g17) (wm Aa (Bz (b:=!decide (he.1=0)) Aa Aa (Bool.not_eq_eq_eq_not.1 g17) (ob h6 λhr h7 h8=>Cl Tryz.call35 (Mz ([98]:Aq) 2 hr h7) Aa (Bz (b:=!decide (he.1=0)) Aa Aa (Bool.not_eq_eq_eq_not.1 g17) (ob h8 λhd h9 hA=>ER (Hr:=[]) Tryz.call18 (IX F b4 b5 b6 h4 h5 he.2.1 he.2.2.1 he.2.2.2 hr 5 hd h9) Aa (Xd _) Aa ?_)))))));rintro _ _ ⟨hB,v26,rfl,rfl⟩;refine Bz (b:=!decide (he.1=0)) Aa Aa (Bool.not_eq_eq_eq_not.1 g17) (wv (Dp Aa Aa) (wv (r:=rB (!decide (hd.1=0))) (AH (b:=!decide (he.1=0)) Aa (Bool.not_eq_eq_eq_not.1 g17) Aa) (wm Aa (ck hA λhj hC=>Bz (b:=!decide (hd.1=0)) Aa Aa (Bool.not_eq_eq_eq_not.1 hj) (wm Aa (Bz (b:=!decide (hd.1=0)) Aa Aa (Bool.not_eq_eq_eq_not.1 hj) (ob hC λhs hD hE=>Cl Tryz.call35 (Mz ([98]:Aq) 1 hs hD) Aa (Bz (b:=!decide (hd.1=0)) Aa Aa (Bool.not_eq_eq_eq_not.1 hj) (ob hE λhf hG hH=>ER (Hr:=[]) Tryz.call18 (IX F b4 b5 b6 hB v26 hd.2.1 hd.2.2.1 hd.2.2.2 hs 5 hf hG) Aa (Xd _) Aa ?_)))))))));rintro _ _ ⟨v35,v36,rfl,rfl⟩;refine Bz (b:=!decide (hd.1=0)) Aa Aa (Bool.not_eq_eq_eq_not.1 hj) (wv (Dp Aa Aa) (wv (r:=rB (!decide (hf.1=19))) (AH (b:=!decide (hd.1=0)) Aa (Bool.not_eq_eq_eq_not.1 hj) Aa) (Ax (ck hH λhI hJ=>EV (b:=!decide (hf.1=19)) Aa (Bool.not_eq_eq_eq_not.1 hI) (A1 (AT (An (wm Aa (ob hJ λht hK hL=>ER (Hr:=[]) Tryz.call20 (HV F b4 b5 b6 v35 v36 hf.2.1 hf.2.2.1 hf.2.2.2 ([120]:Aq) ht hK) Aa (Xd _) Aa ?_)))))))));rintro _ _ ⟨rfl,rfl⟩;refine wa Aa (B4 (wm Aa (ob hL λhb hN hO=>ER (Hr:=[]) Tryz.call17 (Oe F b4 b5 b6 v35 v36 hf.2.1 hf.2.2.1 hf.2.2.2 ([120]:Aq) 6 hb hN) Aa (Xd _) Aa ?_)));rintro _ _ ⟨hu,v46,rfl,rfl⟩;refine wm Aa (wv (AO Aa Aa) (wv (AO Aa Aa) (B3 (cs:=[rS ([]:Aq),rS ([]:Aq),rS ([]:Aq),rv (.slice none 0 0),Aj 0,rv (.slice none 0 0),Aj 0,Aj 0]) KB Aa Aa (λhk=>?_))));refine AF (i:=0) BL Aa Aa Aa (Be.c Aa) Aa Aa (cs':=[rS hb.1.fOp.fEntity,rS hb.1.fOp.fID,rS hb.1.fOp.fOp,AD 1 (Ap Ai hb.1.fOp.fArgs),Aj hb.1.fAnswer.fErr,AD 4 (Ap Ab hb.1.fAnswer.fValue),Aj hb.1.fFrom,Aj hb.1.fTo]) Aa (H':=[.blk hk (Ad hb.1) 44,.blk b4 [Aj hb.2.2.1.fNow,rv (.map (some b5)),rv (.map (some b6))] 68,.map b5 (AG (mP b5) hb.2.2.1.fEntities),.map b6 (AG (mP b6) hb.2.2.1.fCalls),.poolw b5 hu 87 88 1 (Ap (Ak b6) hb.2.2.2.1) none,.pool b6 v46 44 (Ap Ad hb.2.2.2.2)]) Aa (wa Aa (B4 (wm Aa (ob hO λha hP hQ=>ER (Hr:=[.blk hk (Ad hb.1) 44]) Tryz.call17 (Oe F b4 b5 b6 hu v46 hb.2.2.1 hb.2.2.2.1 hb.2.2.2.2 ([120]:Aq) 7 ha hP) Aa ((Ae (i:=1) Aa).trans (WZ _ ((Ae (i:=1) Aa).trans (WZ _ ((Ae (i:=1) Aa).trans (WZ _ ((Ae (i:=1) Aa).trans (WZ _ ((Ae (i:=1) Aa).trans (WZ _ (Xd _))))))))))) Aa ?_))));rintro _ _ ⟨v51,ho,rfl,rfl⟩;refine wm Aa (wv (AO Aa Aa) (wv (AO Aa Aa) (B3 (cs:=[rS ([]:Aq),rS ([]:Aq),rS ([]:Aq),rv (.slice none 0 0),Aj 0,rv (.slice none 0 0),Aj 0,Aj 0]) KB Aa Aa (λhp=>?_))));refine AF (i:=0) BL Aa Aa Aa (Be.c Aa) Aa Aa (cs':=[rS ha.1.fOp.fEntity,rS ha.1.fOp.fID,rS ha.1.fOp.fOp,AD 1 (Ap Ai ha.1.fOp.fArgs),Aj ha.1.fAnswer.fErr,AD 4 (Ap Ab ha.1.fAnswer.fValue),Aj ha.1.fFrom,Aj ha.1.fTo]) Aa (H':=[.blk hp (Ad ha.1) 44,.blk b4 [Aj ha.2.2.1.fNow,rv (.map (some b5)),rv (.map (some b6))] 68,.map b5 (AG (mP b5) ha.2.2.1.fEntities),.map b6 (AG (mP b6) ha.2.2.1.fCalls),.poolw b5 v51 87 88 1 (Ap (Ak b6) ha.2.2.2.1) none,.pool b6 ho 44 (Ap Ad ha.2.2.2.2),.blk hk (Ad hb.1) 44]) Aa (wa Aa (B4 (wm Aa (ob hQ λhq hR hS=>ER (Hr:=[.blk hp (Ad ha.1) 44,.blk hk (Ad hb.1) 44]) Tryz.call19 (Ko b4 b5 b6 v51 ho ha.2.2.1 ha.2.2.2.1 ha.2.2.2.2 ([120]:Aq) hq hR) Aa ((Ae (i:=1) Aa).trans (WZ _ ((Ae (i:=1) Aa).trans (WZ _ ((Ae (i:=1) Aa).trans (WZ _ ((Ae (i:=1) Aa).trans (WZ _ ((Ae (i:=1) Aa).trans (WZ _ (Xd _))))))))))) Aa ?_))));rintro _ _ ⟨rfl,rfl⟩;refine wa Aa (B4 (wm Aa (Bl (ys:=([([97]:Aq),([98]:Aq)]:List Aq)) (enc:=eS) (css:=[[rS ([97]:Aq)],[rS ([98]:Aq)]]) (xs:=[.const (.string ⟨#[97]⟩),.const (.string ⟨#[98]⟩)]) DX CF Vh Aa Aa Aa ⟨Jm.one Aa (Up.refl _),Jm.one Aa (Up.refl _),trivial⟩ Aa EN Aa Aa Aa (λhT=>?_))));refine WL.freeze (i:=0) Aa (WL.up (d:=40) (r:=AD 1 (Ap eS ([([97]:Aq),([98]:Aq)]:List Aq))) Aa (Up.fact (i:=0) Aa) (ob hS λhU hV hW=>Cl OD (Gl F ht ([([97]:Aq),([98]:Aq)]:List Aq) hU hV) Aa (wm Aa (ck hW λhw hX=>wo hw (wm Aa (EP Aa hw Aa (wm Aa (ck hX λhx hY=>wo hx (wm Aa (EP Aa hx Aa (wm Aa (ck hY λhm hZ=>wo hm (vF C3 Aa C1 (wo hm (vL 6 Dm Aa (wo hm (wv (B5 Aa Aa) (EP Aa hm Aa (wm Aa ?_)))))))))))))))))));refine ck hZ λhh ga=>wo hh (vF C3 Aa Bs (wo hh (vF O7 Aa D9 (wo hh (vL 6 EE Aa (wo hh (wv (Bo (ys:=ha.1.fAnswer.fValue) (enc:=Ab) Ci Aa) (wo hh (wv (B5 Aa Aa) (EP Aa hh Aa (wm Aa (ck ga λhg gb=>wo hg (vF C3 Aa Bs (wo hg (vF O7 Aa D9 (wo hg (vL 6 EE Aa (wo hg (ck gb λgc gd=>wv (Bh (enc:=Ab) (ys:=ha.1.fAnswer.fValue) Ci Cp Aa Aa gc) (wo hg ?_))))))))))))))))))));refine wv (AQ Bx Aa C1 Aa Aa) (wo hg (wv (Bg Dm Aa Aa) (wo hg (wv (B5 Aa Aa) (EP Aa hg Aa (wm Aa (ck gd λhn ge=>wo hn (wm Aa (wo hn (wv (Bo (ys:=hq) (enc:=Ab) Ci Aa) (wo hn (wv (B5 Aa Aa) (EP Aa hn Aa (wm Aa (ck ge λhi gf=>wo hi (wm Aa (wo hi (ck gf λgg gh=>wv (Bh (enc:=Ab) (ys:=hq) Ci Cp Aa Aa gg) (wo hi (wv (AQ Bx Aa C1 Aa Aa) ?_))))))))))))))))))));refine wo hi (wv (Bg Dm Aa Aa) (wo hi (wv (B5 Aa Aa) (EP Aa hi Aa (wm Aa (ck gh λhl gi=>wo hl (wm Aa (wo hl (ob gi λhy gj gl=>ER (Hr:=[.fact (.slice (some ⟨hT,0,none⟩) 2 2) (AD 1 (Ap eS ([([97]:Aq),([98]:Aq)]:List Aq))),.blk hp (Ad ha.1) 44,.blk hk (Ad hb.1) 44]) Tryz.call22 (Kq b4 b5 b6 v51 ho ha.2.2.1 ha.2.2.2.1 ha.2.2.2.2 hy gj) Aa ((Ae (i:=1) Aa).trans (WZ _ ((Ae (i:=1) Aa).trans (WZ _ ((Ae (i:=1) Aa).trans (WZ _ ((Ae (i:=1) Aa).trans (WZ _ ((Ae (i:=1) Aa).trans (WZ _ (Xd _))))))))))) Aa ?_)))))))));rintro _ _ ⟨rfl,rfl⟩;refine wo hl (Bl (ys:=([([120]:Aq)]:List Aq)) (enc:=eS) (css:=[[rS ([120]:Aq)]]) (xs:=[.const (.string ⟨#[120]⟩)]) DX CF Vh Aa Aa Aa ⟨Jm.one Aa (Up.refl _),trivial⟩ Aa EN Aa Aa Aa (λgr=>?_));refine wo hl (WL.freeze (i:=0) Aa (WL.up (d:=84) (r:=AD 1 (Ap eS ([([120]:Aq)]:List Aq))) Aa (Up.fact (i:=0) Aa) (ob gl λgm gp gq=>Cl OD (Gl F hy ([([120]:Aq)]:List Aq) gm gp) Aa (EP Aa hl Aa (wa Aa (Ax (A0 ?_)))))));obtain rfl:=A2 gq;exact Az (BI Tryz.results10 (AR Aa)) (sS (sS (sS (sS (sS (sS (sS (sS (sS sN))))))))) ⟨Aa,Aa⟩
end Go.Proofs.YtfbmdidnlhifjaaGreatDoor.Q
namespace Go.Proofs.YtfbmdidnlhifjaaGreatDoor
open Go
set_option linter.unusedVariables false
def CR (hb:Int)(ha:Int×A5×(List As)×(List Al))(hd:Int×Aw)(he:Bool):Option (Stp (Int×Int×(List Al)×Int×(List (Aq×Int))×(List (Aq×Int))×(List As)×(List Al)) (Out (Bool) ((List As)×(List Al)))):=
 Bq (he) (some (.out (.ret false))) (Br (Cj .i64 (hb+1))<|some (.next (hb+1,hd.2.fTime,hd.2.fL,ha.2.1.fNow,ha.2.1.fEntities,ha.2.1.fCalls,ha.2.2.1,ha.2.2.2)))
def CQ (hb:Int)(ha:Al×Bool×A5×(List As)×(List Al))(hd:Al×Bool×Aw)(he:Bool):Option (Stp (Int×Int×(List Al)×Int×(List (Aq×Int))×(List (Aq×Int))×(List As)×(List Al)) (Out (Bool) ((List As)×(List Al)))):=
 Bq (he) (some (.out (.ret false))) (Br (Cj .i64 (hb+1))<|some (.next (hb+1,hd.2.2.fTime,hd.2.2.fL,ha.2.2.1.fNow,ha.2.2.1.fEntities,ha.2.2.1.fCalls,ha.2.2.2.1,ha.2.2.2.2)))
def CP (ha:Int)(hb:Int)(hd:(List Al))(he:Int)(hf:(List (Aq×Int)))(hg:(List (Aq×Int)))(hh:(List As))(hi:(List Al))(hj:Bool):Option (Stp (Int×Int×(List Al)×Int×(List (Aq×Int))×(List (Aq×Int))×(List As)×(List Al)) (Out (Bool) ((List As)×(List Al)))):=
 Bq (hj) (some (.out (.ret false))) (Br (Cj .i64 (ha+1))<|some (.next (ha+1,hb,hd,he,hf,hg,hh,hi)))
def C6 (F:Nat)(l:(List Bu))(ha:Int)(hh:Int)(hi:(List Al))(hj:Int)(hk:(List (Aq×Int)))(hl:(List (Aq×Int)))(hf:(List As))(hg:(List Al)):Option (Stp (Int×Int×(List Al)×Int×(List (Aq×Int))×(List (Aq×Int))×(List As)×(List Al)) (Out (Bool) ((List As)×(List Al)))):=
 Bq (decide (ha<(l.length:Int))) (Br (Ct ha (l.length:Int))<|Bq (decide (((Af l ha).fKind)=0)) (Bt (Dy F (A5.mk hj hk hl) hf hg ((Af l ha).fOp) ((Af l ha).fNow)) λhd=>Bt (DL F (Aw.mk hh hi) ((Af l ha).fOp) ((Af l ha).fNow)) λhm=>Bq (!decide (hd.1=hm.1)) (some (.out (.ret false))) (Bt (He F hd.2.1 hd.2.2.1 hd.2.2.2 (((Af l ha).fOp).fID)) λhn=>Bt (GQ F hm.2 (((Af l ha).fOp).fID)) λho=>Bt (HX hd.2.1 hd.2.2.1 hd.2.2.2 (((Af l ha).fOp).fEntity)) λht=>Bt (G1 F hm.2 (((Af l ha).fOp).fEntity)) λhu=>Bt (Gj F ht hu) λhw=>Bq (!hw) (CR ha hd hm true) (Bt (EJ F hd.2.1 hd.2.2.1 hd.2.2.2 (((Af l ha).fOp).fEntity)) λhx=>Bt (Ey F hm.2 (((Af l ha).fOp).fEntity)) λhy=>Bt (Ev F hx hy) λhz=>Bq (!hz) (CR ha hd hm true) (Bt (HZ F hd.2.1 hd.2.2.1 hd.2.2.2 (((Af l ha).fOp).fEntity)) λh0=>Bt (GY F hm.2 (((Af l ha).fOp).fEntity)) λh1=>Bt (EM F h0 h1) λh2=>Bq (!h2) (CR ha hd hm true) (Bt (HY hd.2.1 hd.2.2.1 hd.2.2.2) λh3=>Bt (G2 F hm.2) λh4=>Bt (Ev F h3 h4) λh5=>Bq (!h5) (CR ha hd hm true) (Bq (!(hn.2 ==ho.2)) (CR ha hd hm true) (Bt (BD F hn.1 ho.1) λh6=>CR ha hd hm (!h6)))))))) (Bq (decide (((Af l ha).fKind)=1)) (Bt (I5 F (A5.mk hj hk hl) hf hg (((Af l ha).fOp).fEntity) ((Af l ha).fNow)) λhb=>Bt (Hl F (Aw.mk hh hi) (((Af l ha).fOp).fEntity) ((Af l ha).fNow)) λhe=>Br (imp (!(!(hb.2.1 ==he.2.1))) ((EM F ([hb.1]:List Al) ([he.1]:List Al)).isSome))<|Bq (((!(hb.2.1 ==he.2.1))||(!(ov (EM F ([hb.1]:List Al) ([he.1]:List Al)))))) (some (.out (.ret false))) (Bt (He F hb.2.2.1 hb.2.2.2.1 hb.2.2.2.2 (((Af l ha).fOp).fID)) λhp=>Bt (GQ F he.2.2 (((Af l ha).fOp).fID)) λhq=>Bt (HX hb.2.2.1 hb.2.2.2.1 hb.2.2.2.2 (((Af l ha).fOp).fEntity)) λh7=>Bt (G1 F he.2.2 (((Af l ha).fOp).fEntity)) λh8=>Bt (Gj F h7 h8) λh9=>Bq (!h9) (CQ ha hb he true) (Bt (EJ F hb.2.2.1 hb.2.2.2.1 hb.2.2.2.2 (((Af l ha).fOp).fEntity)) λhA=>Bt (Ey F he.2.2 (((Af l ha).fOp).fEntity)) λhB=>Bt (Ev F hA hB) λhC=>Bq (!hC) (CQ ha hb he true) (Bt (HZ F hb.2.2.1 hb.2.2.2.1 hb.2.2.2.2 (((Af l ha).fOp).fEntity)) λhD=>Bt (GY F he.2.2 (((Af l ha).fOp).fEntity)) λhE=>Bt (EM F hD hE) λhG=>Bq (!hG) (CQ ha hb he true) (Bt (HY hb.2.2.1 hb.2.2.2.1 hb.2.2.2.2) λhH=>Bt (G2 F he.2.2) λhI=>Bt (Ev F hH hI) λhJ=>Bq (!hJ) (CQ ha hb he true) (Bq (!(hp.2 ==hq.2)) (CQ ha hb he true) (Bt (BD F hp.1 hq.1) λhK=>CQ ha hb he (!hK)))))))) (Bt (He F (A5.mk hj hk hl) hf hg (((Af l ha).fOp).fID)) λhr=>Bt (GQ F (Aw.mk hh hi) (((Af l ha).fOp).fID)) λhs=>Bt (HX (A5.mk hj hk hl) hf hg (((Af l ha).fOp).fEntity)) λhL=>Bt (G1 F (Aw.mk hh hi) (((Af l ha).fOp).fEntity)) λhN=>Bt (Gj F hL hN) λhO=>Bq (!hO) (CP ha hh hi hj hk hl hf hg true) (Bt (EJ F (A5.mk hj hk hl) hf hg (((Af l ha).fOp).fEntity)) λhP=>Bt (Ey F (Aw.mk hh hi) (((Af l ha).fOp).fEntity)) λhQ=>Bt (Ev F hP hQ) λhR=>Bq (!hR) (CP ha hh hi hj hk hl hf hg true) (Bt (HZ F (A5.mk hj hk hl) hf hg (((Af l ha).fOp).fEntity)) λhS=>Bt (GY F (Aw.mk hh hi) (((Af l ha).fOp).fEntity)) λhT=>Bt (EM F hS hT) λhU=>Bq (!hU) (CP ha hh hi hj hk hl hf hg true) (Bt (HY (A5.mk hj hk hl) hf hg) λhV=>Bt (G2 F (Aw.mk hh hi)) λhW=>Bt (Ev F hV hW) λhX=>Bq (!hX) (CP ha hh hi hj hk hl hf hg true) (Bq (!(hr.2 ==hs.2)) (CP ha hh hi hj hk hl hf hg true) (Bt (BD F hr.1 hs.1) λhY=>CP ha hh hi hj hk hl hf hg (!hY))))))))) (some (.out (.go (hf,hg))))
def GT (F:Nat)(hb:(List As))(hd:(List Al)):Option (Bool):=
 Bt (IB F) λha=>some ha
def Ku (F:Nat)(l:(List Bu)):Option (Bool):=
 Bt (IA F l) λr1=>Bq (!r1) (Bt (IB F) λr6=>some r6) (Bt (Tv) λha=>Bt (NV) λhb=>Bt (BW (λσ=>C6 F l σ.1 σ.2.1 σ.2.2.1 σ.2.2.2.1 σ.2.2.2.2.1 σ.2.2.2.2.2.1 σ.2.2.2.2.2.2.1 σ.2.2.2.2.2.2.2) F (0,hb.fTime,hb.fL,ha.1.fNow,ha.1.fEntities,ha.1.fCalls,ha.2.1,ha.2.2)) (Cf λν=>GT F ν.1 ν.2))
end Go.Proofs.YtfbmdidnlhifjaaGreatDoor
namespace Go.Proofs.YtfbmdidnlhifjaaGreatDoor.Q
open Go Go.RowKit
set_option linter.unusedVariables false
set_option linter.unusedSimpArgs false
set_option maxRecDepth 100000
set_option maxHeartbeats 4000000
theorem Sg (F:Nat)(l:(List Bu))(r:Bool)(h:Ku F l=some r):Fn Tryz.prog GE 5 [AD 6 (Ap Bp l)] [] (λR H=>R=rB r∧H=[]):=by
 refine enter (n:=145) Tryz.func5 Aa Tryz.ntmps5 Aa (λw Z=>?_);unfold Ku at h;refine An (wa Aa (Ax (Av (An (wm Aa (ob h λr1 e3 h2=>Cl Tryz.call15 (Qz F l r1 e3) Aa (wv (B8 Aa) (Ax (cz h2 Aa (λc4 h5=>?_) (λc4 h9=>?_))))))))))
 ·refine An (ob h5 λr6 e8 h7=>Cl Tryz.call10 (My F r6 e8) Aa (wa Aa (Ax (A0 (Ah ?_)))));obtain rfl:=A2 h7;exact Az (BI Vt (AR Aa)) sN ⟨Aa,Aa⟩
 ·refine A1 (AT (An (ob h9 λhD gU gV=>ER (Hr:=[]) Tryz.call16 (Tu hD gU) Aa (Xd _) Aa ?_)));rintro _ _ ⟨hg,hd,hb,gw,gx,rfl,rfl⟩;refine ob gV λgh gW gX=>ER (Hr:=[.blk hg [Aj hD.1.fNow,rv (.map (some hd)),rv (.map (some hb))] 68,.map hd (AG (mP hd) hD.1.fEntities),.map hb (AG (mP hb) hD.1.fCalls),.poolw hd gw 87 88 1 (Ap (Ak hb) hD.2.1) none,.pool hb gx 44 (Ap Ad hD.2.2)]) Tryz.call25 (Td gh gW) Aa (Xd _) Aa ?_;rintro _ _ ⟨hh,gy,rfl,rfl⟩;refine wa Aa (wa Aa (Ax (Av (An (wm Aa (wv (Bo (ys:=l) (enc:=Bp) S8 Aa) (wv (r:=Aj 0) (Ay Aa) (Ax (AN (Gy (H2:=[.blk hh [Aj gh.fTime,rv gy] 98,.blk hg [Aj hD.1.fNow,rv (.map (some hd)),rv (.map (some hb))] 68,.map hd (AG (mP hd) hD.1.fEntities),.map hb (AG (mP hb) hD.1.fCalls),.poolw hd gw 87 88 1 (Ap (Ak hb) hD.2.1) none,.pool hb gx 44 (Ap Ad hD.2.2),.row gy 44 8 (Ap Ad gh.fL)]) ((Ae (i:=0) Aa).trans (WZ _ ((Ae (i:=1) Aa).trans (WZ _ ((Ae (i:=1) Aa).trans (WZ _ ((Ae (i:=1) Aa).trans (WZ _ ((Ae (i:=1) Aa).trans (WZ _ ((Ae (i:=1) Aa).trans (WZ _ (Xd _))))))))))))) (ob gX λgY gZ gg=>Bv (S:=Nat×(Int×Int×(List Al)×Int×(List (Aq×Int))×(List (Aq×Int))×(List As)×(List Al))×(Value×Value×Value)) (V:=((List As)×(List Al))×(Value×Value)) 0 (λσ=>BW (λσ=>C6 F l σ.1 σ.2.1 σ.2.2.1 σ.2.2.2.1 σ.2.2.2.2.1 σ.2.2.2.2.2.1 σ.2.2.2.2.2.2.1 σ.2.2.2.2.2.2.2) σ.1 σ.2.1=some gY) (λσ=>[(0,AD 6 (Ap Bp l)),(3,rP hg 0),(4,rP hh 0),(23,Aj (l.length:Int)),(24,Aj σ.2.1.1)]) (λσ=>[.blk hh [Aj σ.2.1.2.1,rv σ.2.2.1] 98,.blk hg [Aj σ.2.1.2.2.2.1,rv (.map (some hd)),rv (.map (some hb))] 68,.map hd (AG (mP hd) σ.2.1.2.2.2.2.1),.map hb (AG (mP hb) σ.2.1.2.2.2.2.2.1),.poolw hd σ.2.2.2.1 87 88 1 (Ap (Ak hb) σ.2.1.2.2.2.2.2.2.1) none,.pool hb σ.2.2.2.2 44 (Ap Ad σ.2.1.2.2.2.2.2.2.2),.row σ.2.2.1 44 8 (Ap Ad σ.2.1.2.2.1)]) (λσ=>σ.1) (F,(0,gh.fTime,gh.fL,hD.1.fNow,hD.1.fEntities,hD.1.fCalls,hD.2.1,hD.2.2),(gy,gw,gx)) gZ (AJ.c5 Aa Aa Aa Aa Aa AJ.nil) (sC (sC (sC (sC (sC (sC (sC sN))))))) (λσ=>GT F σ.1.1 σ.1.2=some r) (λσ=>[]) (λσ=>[.poolw hd σ.2.1 87 88 1 (Ap (Ak hb) σ.1.1) none,.pool hb σ.2.2 44 (Ap Ad σ.1.2)]) ?_ ?_)))))))))))
  ·rintro⟨bm,⟨ha,hn,ho,hs,ht,hu,hp,hq⟩,⟨hk,hw,hx⟩⟩ ca;refine BM (l':=[(0,AD 6 (Ap Bp l)),(3,rP hg 0),(4,rP hh 0),(23,Aj (l.length:Int)),(24,Aj ha)]) (H':=[.blk hh [Aj hn,rv hk] 98,.blk hg [Aj hs,rv (.map (some hd)),rv (.map (some hb))] 68,.map hd (AG (mP hd) ht),.map hb (AG (mP hb) hu),.poolw hd hw 87 88 1 (Ap (Ak hb) hp) none,.pool hb hx 44 (Ap Ad hq),.row hk 44 8 (Ap Ad ho)]) Aa Aa ?_;obtain⟨gz,rfl,gc,gm,hV⟩:=Cz ca;replace gm:C6 F l ha hn ho hs ht hu hp hq=some gc:=gm;unfold C6 at gm;refine An (wv (C2 Aa Aa) (Ax (Av (cz gm Aa (λcb cc=>?_) (λcb cd=>?_)))))
   ·refine A1 (AT (Av (AN (An (wm Aa (wa Aa (B4 (wm Aa (wm Aa (ck cc λce cf=>wv (Bh (enc:=Bp) (ys:=l) S8 Uh Aa Aa ce) (wv (B6 Tryz.isAgg39 Uh Aa Aa Aa) (B3 (cs:=[Aj 0,rS ([]:Aq),rS ([]:Aq),rS ([]:Aq),rv (.slice none 0 0),Aj 0]) Tryz.zeroValue39 Aa Aa (λhj=>?_)))))))))))));refine AF (i:=0) Uh Aa Aa Aa (Be.c Aa) Aa Aa (cs':=[Aj ((Af l ha).fKind),rS (((Af l ha).fOp).fEntity),rS (((Af l ha).fOp).fID),rS (((Af l ha).fOp).fOp),AD 1 (Ap Ai (((Af l ha).fOp).fArgs)),Aj ((Af l ha).fNow)]) Aa (H':=[.blk hj [Aj ((Af l ha).fKind),rS (((Af l ha).fOp).fEntity),rS (((Af l ha).fOp).fID),rS (((Af l ha).fOp).fOp),AD 1 (Ap Ai (((Af l ha).fOp).fArgs)),Aj ((Af l ha).fNow)] 39,.blk hh [Aj hn,rv hk] 98,.blk hg [Aj hs,rv (.map (some hd)),rv (.map (some hb))] 68,.map hd (AG (mP hd) ht),.map hb (AG (mP hb) hu),.poolw hd hw 87 88 1 (Ap (Ak hb) hp) none,.pool hb hx 44 (Ap Ad hq),.row hk 44 8 (Ap Ad ho)]) Aa (B4 (vF Jy Aa Cc (vF BG Aa CF (vL 0 CZ Aa (wa Aa (Ax (Av (An (vF Jy Aa C1 (vL 0 Dm Aa (Ax (AN (An (wv (B5 Aa Aa) (wa Aa (Ax (cz cf Aa (λcg ch=>?_) (λcg ci=>?_))))))))))))))))))
    ·refine Av (ob ch λhf cj cl=>PW 11 [5] [0,3,4,6,7,23,24] [] [{ deps:=[],r:=λ_=>rP hg 0 },{ deps:=[],r:=λ_=>rP hj 1 },{ deps:=[1],r:=λ_=>Bd (Am ((Af l ha).fOp)),fx:=true },{ deps:=[],r:=λ_=>rP hj 5 },{ deps:=[3],r:=λ_=>Aj ((Af l ha).fNow),fx:=true },{ deps:=[0,2,4],r:=λ_=>Aj hf.1 },{ deps:=[],r:=λ_=>rP hh 0 },{ deps:=[],r:=λ_=>rP hj 1 },{ deps:=[7],r:=λ_=>Bd (Am ((Af l ha).fOp)) },{ deps:=[],r:=λ_=>rP hj 5 },{ deps:=[9],r:=λ_=>Aj ((Af l ha).fNow) }] [λ_=>[.blk hj [Aj ((Af l ha).fKind),rS (((Af l ha).fOp).fEntity),rS (((Af l ha).fOp).fID),rS (((Af l ha).fOp).fOp),AD 1 (Ap Ai (((Af l ha).fOp).fArgs)),Aj ((Af l ha).fNow)] 39,.blk hh [Aj hn,rv hk] 98,.blk hg [Aj hs,rv (.map (some hd)),rv (.map (some hb))] 68,.map hd (AG (mP hd) ht),.map hb (AG (mP hb) hu),.poolw hd hw 87 88 1 (Ap (Ak hb) hp) none,.pool hb hx 44 (Ap Ad hq),.row hk 44 8 (Ap Ad ho)],λu=>[.blk hg [Aj hf.2.1.fNow,rv (.map (some hd)),rv (.map (some hb))] 68,.map hd (AG (mP hd) hf.2.1.fEntities),.map hb (AG (mP hb) hf.2.1.fCalls),.poolw hd (u 0 0).1 87 88 1 (Ap (Ak hb) hf.2.2.1) none,.pool hb (u 0 1).1 44 (Ap Ad hf.2.2.2),.blk hj [Aj ((Af l ha).fKind),rS (((Af l ha).fOp).fEntity),rS (((Af l ha).fOp).fID),rS (((Af l ha).fOp).fOp),AD 1 (Ap Ai (((Af l ha).fOp).fArgs)),Aj ((Af l ha).fNow)] 39,.blk hh [Aj hn,rv hk] 98,.row hk 44 8 (Ap Ad ho)]] ⟨Io,Io,Io,Io,Io,Io,Io,Io,Io,Io,Io,trivial⟩ ?_ (λu=>?_))
     ·exact Lo (fun {u _}=>CU (Ay rfl)) (Lo (fun {u _}=>CU (AS Jy rfl Cc rfl rfl)) (Vj (fun {u}=>CU (Bf (i:=0) Es Cc rfl rfl rfl rfl)) (Lo (fun {u _}=>CU (AS Jy rfl C1 rfl rfl)) (Vj (fun {u}=>CU (B1 (i:=0) Dm rfl rfl rfl)) (WS 0 (fun {u}=>Vu (Hin:=[.blk hg [Aj hs,rv (.map (some hd)),rv (.map (some hb))] 68,.map hd (AG (mP hd) ht),.map hb (AG (mP hb) hu),.poolw hd hw 87 88 1 (Ap (Ak hb) hp) none,.pool hb hx 44 (Ap Ad hq)]) (Hr:=[.blk hj [Aj ((Af l ha).fKind),rS (((Af l ha).fOp).fEntity),rS (((Af l ha).fOp).fID),rS (((Af l ha).fOp).fOp),AD 1 (Ap Ai (((Af l ha).fOp).fArgs)),Aj ((Af l ha).fNow)] 39,.blk hh [Aj hn,rv hk] 98,.row hk 44 8 (Ap Ad ho)]) Tryz.call18 rfl ((Ae (i:=2) rfl).trans (WZ _ ((Ae (i:=2) rfl).trans (WZ _ ((Ae (i:=2) rfl).trans (WZ _ ((Ae (i:=2) rfl).trans (WZ _ ((Ae (i:=2) rfl).trans (WZ _ (Xd _))))))))))) (IX F hg hd hb hw hx (A5.mk hs ht hu) hp hq ((Af l ha).fOp) ((Af l ha).fNow) hf cj) (by rintro _ _ ⟨h0,h1,rfl,rfl⟩;exact⟨ux u 0 [(h0,0),(h1,0)],Wq,rfl,rfl⟩)) (Lo (fun {u _}=>CU (Ay rfl)) (Lo (fun {u _}=>CU (AS Jy rfl Cc rfl rfl)) (WO (fun {u}=>⟨CU (Bf (i:=0) Es Cc rfl rfl rfl rfl),CU (Bf (i:=5) Es Cc rfl rfl rfl rfl),trivial⟩) (Lo (fun {u _}=>CU (AS Jy rfl C1 rfl rfl)) (WO (fun {u}=>⟨CU (B1 (i:=0) Dm rfl rfl rfl),CU (B1 (i:=5) Dm rfl rfl rfl),trivial⟩) (W3)))))))))))
     refine C4 (H1:=[.blk hg [Aj hf.2.1.fNow,rv (.map (some hd)),rv (.map (some hb))] 68,.map hd (AG (mP hd) hf.2.1.fEntities),.map hb (AG (mP hb) hf.2.1.fCalls),.poolw hd (u 0 0).1 87 88 1 (Ap (Ak hb) hf.2.2.1) none,.pool hb (u 0 1).1 44 (Ap Ad hf.2.2.2),.blk hj [Aj ((Af l ha).fKind),rS (((Af l ha).fOp).fEntity),rS (((Af l ha).fOp).fID),rS (((Af l ha).fOp).fOp),AD 1 (Ap Ai (((Af l ha).fOp).fArgs)),Aj ((Af l ha).fNow)] 39,.blk hh [Aj hn,rv hk] 98,.row hk 44 8 (Ap Ad ho)]) [38,39,40,41,42,43,44,45,46,47,48,0,3,4,6,7,23,24] ?_;refine WL.sub (l':=[(38,rP hg 0),(39,rP hj 1),(40,Bd (Am ((Af l ha).fOp))),(41,rP hj 5),(42,Aj ((Af l ha).fNow)),(43,Aj hf.1),(44,rP hh 0),(45,rP hj 1),(46,Bd (Am ((Af l ha).fOp))),(47,rP hj 5),(48,Aj ((Af l ha).fNow)),(0,AD 6 (Ap Bp l)),(3,rP hg 0),(4,rP hh 0),(6,rP hj 0),(7,rS (((Af l ha).fOp).fEntity)),(23,Aj (l.length:Int)),(24,Aj ha)]) (AJ.c Aa (AJ.c Aa (AJ.c Aa (AJ.c5 Aa Aa Aa Aa Aa (AJ.c5 Aa Aa Aa Aa Aa (AJ.c5 Aa Aa Aa Aa Aa AJ.nil)))))) (List.Sublist.refl _) ?_;generalize(u 0 0).1=h0;generalize(u 0 1).1=h1;refine ob cl λhl cm cn=>ER (Hr:=[.blk hg [Aj hf.2.1.fNow,rv (.map (some hd)),rv (.map (some hb))] 68,.map hd (AG (mP hd) hf.2.1.fEntities),.map hb (AG (mP hb) hf.2.1.fCalls),.poolw hd h0 87 88 1 (Ap (Ak hb) hf.2.2.1) none,.pool hb h1 44 (Ap Ad hf.2.2.2),.blk hj [Aj ((Af l ha).fKind),rS (((Af l ha).fOp).fEntity),rS (((Af l ha).fOp).fID),rS (((Af l ha).fOp).fOp),AD 1 (Ap Ai (((Af l ha).fOp).fArgs)),Aj ((Af l ha).fNow)] 39]) Tryz.call26 (Qh F hh hk (Aw.mk hn ho) ((Af l ha).fOp) ((Af l ha).fNow) hl cm) Aa ((Ae (i:=6) Aa).trans (WZ _ ((Ae (i:=6) Aa).trans (WZ _ (Xd _))))) Aa ?_;rintro _ _ ⟨hr,rfl,rfl⟩;refine wv (Dp Aa Aa) (Ax (cz cn Aa (λco cp=>?_) (λco cq=>?_)))
     ·refine An (wa Aa (Ax (A0 (A9 (Ah (A9 (Ah (Ah (Bm ?_)))))))));have cr:=B9 cp hV gg;refine A9 (Ah ?_);obtain rfl:=A2 cr;exact Az (BI Vt (AR Aa)) (sS (sS (sS (sS (sS (sS (sS (sS sN)))))))) ⟨Aa,Aa⟩
     ·refine A1 (AL (AT (An (wm Aa (vF Jy Aa Cc (vF BG Aa CF (vL 7 CZ Aa (ob cq λhE ct cu=>ER (Hr:=[.blk hh [Aj hl.2.fTime,rv hr] 98,.row hr 44 8 (Ap Ad hl.2.fL),.blk hj [Aj ((Af l ha).fKind),rS (((Af l ha).fOp).fEntity),rS (((Af l ha).fOp).fID),rS (((Af l ha).fOp).fOp),AD 1 (Ap Ai (((Af l ha).fOp).fArgs)),Aj ((Af l ha).fNow)] 39]) Tryz.call28 (KU F hg hd hb h0 h1 hf.2.1 hf.2.2.1 hf.2.2.2 (((Af l ha).fOp).fID) hE ct) Aa ((Ae (i:=2) Aa).trans (WZ _ ((Ae (i:=2) Aa).trans (WZ _ ((Ae (i:=2) Aa).trans (WZ _ ((Ae (i:=2) Aa).trans (WZ _ ((Ae (i:=2) Aa).trans (WZ _ (Xd _))))))))))) Aa ?_))))))));rintro _ _ ⟨rfl,rfl⟩;refine wm Aa (wv (AO Aa Aa) (wv (AO Aa Aa) (B3 (cs:=[Aj 0,rv (.slice none 0 0)]) GL Aa Aa (λhP=>?_))));refine AF (i:=0) Bs Aa Aa Aa (Be.c Aa) Aa Aa (cs':=[Aj hE.1.fErr,AD 4 (Ap Ab hE.1.fValue)]) Aa (H':=[.blk hP (Ao hE.1) 31,.blk hg [Aj hf.2.1.fNow,rv (.map (some hd)),rv (.map (some hb))] 68,.map hd (AG (mP hd) hf.2.1.fEntities),.map hb (AG (mP hb) hf.2.1.fCalls),.poolw hd h0 87 88 1 (Ap (Ak hb) hf.2.2.1) none,.pool hb h1 44 (Ap Ad hf.2.2.2),.blk hh [Aj hl.2.fTime,rv hr] 98,.row hr 44 8 (Ap Ad hl.2.fL),.blk hj [Aj ((Af l ha).fKind),rS (((Af l ha).fOp).fEntity),rS (((Af l ha).fOp).fID),rS (((Af l ha).fOp).fOp),AD 1 (Ap Ai (((Af l ha).fOp).fArgs)),Aj ((Af l ha).fNow)] 39]) Aa (wa Aa (B4 (wm Aa (vF Jy Aa Cc (vF BG Aa CF (vL 8 CZ Aa (ob cu λhL cv cw=>ER (Hr:=[.blk hP (Ao hE.1) 31,.blk hg [Aj hf.2.1.fNow,rv (.map (some hd)),rv (.map (some hb))] 68,.map hd (AG (mP hd) hf.2.1.fEntities),.map hb (AG (mP hb) hf.2.1.fCalls),.poolw hd h0 87 88 1 (Ap (Ak hb) hf.2.2.1) none,.pool hb h1 44 (Ap Ad hf.2.2.2),.blk hj [Aj ((Af l ha).fKind),rS (((Af l ha).fOp).fEntity),rS (((Af l ha).fOp).fID),rS (((Af l ha).fOp).fOp),AD 1 (Ap Ai (((Af l ha).fOp).fArgs)),Aj ((Af l ha).fNow)] 39]) Tryz.call29 (J7 F hh hr hl.2 (((Af l ha).fOp).fID) hL cv) Aa ((Ae (i:=6) Aa).trans (WZ _ ((Ae (i:=6) Aa).trans (WZ _ (Xd _))))) Aa ?_)))))));rintro _ _ ⟨rfl,rfl⟩;refine wm Aa (wv (AO Aa Aa) (wv (AO Aa Aa) (B3 (cs:=[Aj 0,rv (.slice none 0 0)]) GL Aa Aa (λhW=>?_))));refine AF (i:=0) Bs Aa Aa Aa (Be.c Aa) Aa Aa (cs':=[Aj hL.1.fErr,AD 4 (Ap Ab hL.1.fValue)]) Aa (H':=[.blk hW (Ao hL.1) 31,.blk hh [Aj hl.2.fTime,rv hr] 98,.row hr 44 8 (Ap Ad hl.2.fL),.blk hP (Ao hE.1) 31,.blk hg [Aj hf.2.1.fNow,rv (.map (some hd)),rv (.map (some hb))] 68,.map hd (AG (mP hd) hf.2.1.fEntities),.map hb (AG (mP hb) hf.2.1.fCalls),.poolw hd h0 87 88 1 (Ap (Ak hb) hf.2.2.1) none,.pool hb h1 44 (Ap Ad hf.2.2.2),.blk hj [Aj ((Af l ha).fKind),rS (((Af l ha).fOp).fEntity),rS (((Af l ha).fOp).fID),rS (((Af l ha).fOp).fOp),AD 1 (Ap Ai (((Af l ha).fOp).fArgs)),Aj ((Af l ha).fNow)] 39]) Aa (wa Aa (Ax (Co (S:=(Bool)×(Unit)) (λσ=>CR ha hf hl σ.1=some gc) (λσ=>[(0,AD 6 (Ap Bp l)),(3,rP hg 0),(4,rP hh 0),(23,Aj (l.length:Int)),(24,Aj ha),(142,rB σ.1)]) (λσ=>[.blk hh [Aj hl.2.fTime,rv hr] 98,.row hr 44 8 (Ap Ad hl.2.fL),.blk hg [Aj hf.2.1.fNow,rv (.map (some hd)),rv (.map (some hb))] 68,.map hd (AG (mP hd) hf.2.1.fEntities),.map hb (AG (mP hb) hf.2.1.fCalls),.poolw hd h0 87 88 1 (Ap (Ak hb) hf.2.2.1) none,.pool hb h1 44 (Ap Ad hf.2.2.2)]) ?_ ?_)))
      ·refine Au (wm Aa (wm Aa (ob cw λg4 cx cy=>ER (Hr:=[.blk hW (Ao hL.1) 31,.blk hh [Aj hl.2.fTime,rv hr] 98,.row hr 44 8 (Ap Ad hl.2.fL),.blk hP (Ao hE.1) 31,.blk hj [Aj ((Af l ha).fKind),rS (((Af l ha).fOp).fEntity),rS (((Af l ha).fOp).fID),rS (((Af l ha).fOp).fOp),AD 1 (Ap Ai (((Af l ha).fOp).fArgs)),Aj ((Af l ha).fNow)] 39]) Tryz.call19 (Ko hg hd hb h0 h1 hf.2.1 hf.2.2.1 hf.2.2.2 (((Af l ha).fOp).fEntity) g4 cx) Aa ((Ae (i:=4) Aa).trans (WZ _ ((Ae (i:=4) Aa).trans (WZ _ ((Ae (i:=4) Aa).trans (WZ _ ((Ae (i:=4) Aa).trans (WZ _ ((Ae (i:=4) Aa).trans (WZ _ (Xd _))))))))))) Aa ?_)));rintro _ _ ⟨rfl,rfl⟩;refine wm Aa (wm Aa (ob cy λg5 c0 c1=>ER (Hr:=[.blk hg [Aj hf.2.1.fNow,rv (.map (some hd)),rv (.map (some hb))] 68,.map hd (AG (mP hd) hf.2.1.fEntities),.map hb (AG (mP hb) hf.2.1.fCalls),.poolw hd h0 87 88 1 (Ap (Ak hb) hf.2.2.1) none,.pool hb h1 44 (Ap Ad hf.2.2.2),.blk hW (Ao hL.1) 31,.blk hP (Ao hE.1) 31,.blk hj [Aj ((Af l ha).fKind),rS (((Af l ha).fOp).fEntity),rS (((Af l ha).fOp).fID),rS (((Af l ha).fOp).fOp),AD 1 (Ap Ai (((Af l ha).fOp).fArgs)),Aj ((Af l ha).fNow)] 39]) Tryz.call30 (IO F hh hr hl.2 (((Af l ha).fOp).fEntity) g5 c0) Aa ((Ae (i:=6) Aa).trans (WZ _ ((Ae (i:=6) Aa).trans (WZ _ (Xd _))))) Aa ?_));rintro _ _ ⟨rfl,rfl⟩;refine ob c1 λc2 c3 c6=>Cl PU (HK F g4 g5 c2 c3) Aa (wv (B8 Aa) (wm Aa (bz c6 (λh3 c7=>?_) (λh3 c8=>?_))))
       ·refine wf h3 (wf h3 (wf h3 (wf h3 (wf h3 (wf h3 (wf h3 (wf h3 (wv (r:=rB true) (Ar Aa h3 Aa) (wm Aa (wz Aa Aa (wz Aa Aa (wz Aa Aa (wz Aa Aa (wz Aa Aa (wz Aa Aa (wz Aa Aa (wz Aa Aa (wv (r:=rB true) (Ar (b:=true) Aa Aa Aa) (wm Aa (wz Aa Aa (wz Aa Aa (wz Aa Aa (wz Aa Aa ?_)))))))))))))))))))))));exact wz Aa Aa (wz Aa Aa (wv (r:=rB true) (Ar (b:=true) Aa Aa Aa) (wm Aa (wz Aa Aa (wz Aa Aa (wz Aa Aa (wv (r:=rB true) (Ar (b:=true) Aa Aa Aa) (wm Aa (wz Aa Aa (wz Aa Aa (wz Aa Aa (wz Aa Aa (wv (r:=rB true) (Ar (b:=true) Aa Aa Aa) (At (AC (AA (true,()) c7 (AJ.c Aa (AJ.c5 Aa Aa Aa Aa Aa AJ.nil)) (sC (sC (sC (sC (sC (sC (sC (sS (sS (sS sN))))))))))))))))))))))))))
       ·refine wo h3 (wm Aa (wo h3 (wm Aa (wo h3 (ob c8 λg6 c9 cA=>ER (Hr:=[.blk hh [Aj hl.2.fTime,rv hr] 98,.row hr 44 8 (Ap Ad hl.2.fL),.blk hW (Ao hL.1) 31,.blk hP (Ao hE.1) 31,.blk hj [Aj ((Af l ha).fKind),rS (((Af l ha).fOp).fEntity),rS (((Af l ha).fOp).fID),rS (((Af l ha).fOp).fOp),AD 1 (Ap Ai (((Af l ha).fOp).fArgs)),Aj ((Af l ha).fNow)] 39]) Tryz.call20 (HV F hg hd hb h0 h1 hf.2.1 hf.2.2.1 hf.2.2.2 (((Af l ha).fOp).fEntity) g6 c9) Aa ((Ae (i:=2) Aa).trans (WZ _ ((Ae (i:=2) Aa).trans (WZ _ ((Ae (i:=2) Aa).trans (WZ _ ((Ae (i:=2) Aa).trans (WZ _ ((Ae (i:=2) Aa).trans (WZ _ (Xd _))))))))))) Aa ?_)))));rintro _ _ ⟨rfl,rfl⟩;refine wo h3 (wm Aa (wo h3 (wm Aa (wo h3 (ob cA λgd cB cC=>ER (Hr:=[.blk hg [Aj hf.2.1.fNow,rv (.map (some hd)),rv (.map (some hb))] 68,.map hd (AG (mP hd) hf.2.1.fEntities),.map hb (AG (mP hb) hf.2.1.fCalls),.poolw hd h0 87 88 1 (Ap (Ak hb) hf.2.2.1) none,.pool hb h1 44 (Ap Ad hf.2.2.2),.blk hW (Ao hL.1) 31,.blk hP (Ao hE.1) 31,.blk hj [Aj ((Af l ha).fKind),rS (((Af l ha).fOp).fEntity),rS (((Af l ha).fOp).fID),rS (((Af l ha).fOp).fOp),AD 1 (Ap Ai (((Af l ha).fOp).fArgs)),Aj ((Af l ha).fNow)] 39]) Tryz.call31 (Iz F hh hr hl.2 (((Af l ha).fOp).fEntity) gd cB) Aa ((Ae (i:=5) Aa).trans (WZ _ ((Ae (i:=5) Aa).trans (WZ _ (Xd _))))) Aa ?_)))));rintro _ _ ⟨gp,rfl,rfl⟩;refine wo h3 (WL.freeze (i:=0) Aa (WL.up (d:=110) (r:=AD 1 (Ap eS gd)) Aa (Up.fact (i:=0) Aa) (ob cC λcD cE cF=>Cl OD (Gl F g6 gd cD cE) Aa (wo h3 (wv (B8 Aa) (DB Aa h3 Aa (wm Aa (bz cF (λh4 cG=>?_) (λh4 cH=>?_)))))))))
        ·refine wf h4 (wf h4 (wf h4 (wf h4 (wf h4 (wf h4 (wf h4 (wf h4 (wv (r:=rB true) (Ar Aa h4 Aa) (wm Aa (wz Aa Aa (wz Aa Aa (wz Aa Aa (wz Aa Aa (wz Aa Aa (wz Aa Aa (wv (r:=rB true) (Ar (b:=true) Aa Aa Aa) (wm Aa (wz Aa Aa (wz Aa Aa (wz Aa Aa (wv (r:=rB true) (Ar (b:=true) Aa Aa Aa) (wm Aa (wz Aa Aa ?_)))))))))))))))))))))));exact wz Aa Aa (wz Aa Aa (wz Aa Aa (wv (r:=rB true) (Ar (b:=true) Aa Aa Aa) (At (AC (AA (true,()) cG (AJ.c Aa (AJ.c5 Aa Aa Aa Aa Aa AJ.nil)) (sS (sC (sC (sC (sC (sC (sC (sC (sS (sS (sS sN)))))))))))))))))
        ·refine wo h4 (wm Aa (wo h4 (wm Aa (wo h4 (ob cH λg7 cI cJ=>ER (Hr:=[.fact gp (AD 1 (Ap eS gd)),.blk hh [Aj hl.2.fTime,rv hr] 98,.row hr 44 8 (Ap Ad hl.2.fL),.blk hW (Ao hL.1) 31,.blk hP (Ao hE.1) 31,.blk hj [Aj ((Af l ha).fKind),rS (((Af l ha).fOp).fEntity),rS (((Af l ha).fOp).fID),rS (((Af l ha).fOp).fOp),AD 1 (Ap Ai (((Af l ha).fOp).fArgs)),Aj ((Af l ha).fNow)] 39]) Tryz.call21 (Kr F hg hd hb h0 h1 hf.2.1 hf.2.2.1 hf.2.2.2 (((Af l ha).fOp).fEntity) g7 cI) Aa ((Ae (i:=3) Aa).trans (WZ _ ((Ae (i:=3) Aa).trans (WZ _ ((Ae (i:=3) Aa).trans (WZ _ ((Ae (i:=3) Aa).trans (WZ _ ((Ae (i:=3) Aa).trans (WZ _ (Xd _))))))))))) Aa ?_)))));rintro _ _ ⟨rfl,rfl⟩;refine wo h4 (wm Aa (wo h4 (wm Aa (wo h4 (ob cJ λgi cK cL=>ER (Hr:=[.blk hg [Aj hf.2.1.fNow,rv (.map (some hd)),rv (.map (some hb))] 68,.map hd (AG (mP hd) hf.2.1.fEntities),.map hb (AG (mP hb) hf.2.1.fCalls),.poolw hd h0 87 88 1 (Ap (Ak hb) hf.2.2.1) none,.pool hb h1 44 (Ap Ad hf.2.2.2),.fact gp (AD 1 (Ap eS gd)),.blk hW (Ao hL.1) 31,.blk hP (Ao hE.1) 31,.blk hj [Aj ((Af l ha).fKind),rS (((Af l ha).fOp).fEntity),rS (((Af l ha).fOp).fID),rS (((Af l ha).fOp).fOp),AD 1 (Ap Ai (((Af l ha).fOp).fArgs)),Aj ((Af l ha).fNow)] 39]) Tryz.call32 (KJ F hh hr hl.2 (((Af l ha).fOp).fEntity) gi cK) Aa ((Ae (i:=6) Aa).trans (WZ _ ((Ae (i:=6) Aa).trans (WZ _ (Xd _))))) Aa ?_)))));rintro _ _ ⟨g8,rfl,rfl⟩;refine wo h4 (WL.freeze (i:=0) Aa (WL.up (d:=120) (r:=AD 8 (Ap Ad gi)) Aa (Up.fact (i:=0) Aa) (ob cL λcM cN cO=>Cl Tryz.call24 (Kv F g7 gi cM cN) Aa (wo h4 (wv (B8 Aa) (DB Aa h4 Aa (wm Aa (bz cO (λhI cP=>?_) (λhI cQ=>?_)))))))))
         ·exact wf hI (wf hI (wf hI (wf hI (wf hI (wf hI (wv (r:=rB true) (Ar Aa hI Aa) (wm Aa (wz Aa Aa (wz Aa Aa (wz Aa Aa (wv (r:=rB true) (Ar (b:=true) Aa Aa Aa) (wm Aa (wz Aa Aa (wz Aa Aa (wz Aa Aa (wz Aa Aa (wv (r:=rB true) (Ar (b:=true) Aa Aa Aa) (At (AC (AA (true,()) cP (AJ.c Aa (AJ.c5 Aa Aa Aa Aa Aa AJ.nil)) (sS (sC (sC (sC (sC (sC (sC (sC (sS (sS (sS (sS sN))))))))))))))))))))))))))))))))
         ·refine wo hI (wm Aa (wo hI (ob cQ λg9 cR cS=>ER (Hr:=[.fact g8 (AD 8 (Ap Ad gi)),.blk hh [Aj hl.2.fTime,rv hr] 98,.row hr 44 8 (Ap Ad hl.2.fL),.fact gp (AD 1 (Ap eS gd)),.blk hW (Ao hL.1) 31,.blk hP (Ao hE.1) 31,.blk hj [Aj ((Af l ha).fKind),rS (((Af l ha).fOp).fEntity),rS (((Af l ha).fOp).fID),rS (((Af l ha).fOp).fOp),AD 1 (Ap Ai (((Af l ha).fOp).fArgs)),Aj ((Af l ha).fNow)] 39]) Tryz.call22 (Kq hg hd hb h0 h1 hf.2.1 hf.2.2.1 hf.2.2.2 g9 cR) Aa ((Ae (i:=3) Aa).trans (WZ _ ((Ae (i:=3) Aa).trans (WZ _ ((Ae (i:=3) Aa).trans (WZ _ ((Ae (i:=3) Aa).trans (WZ _ ((Ae (i:=3) Aa).trans (WZ _ (Xd _))))))))))) Aa ?_)));rintro _ _ ⟨rfl,rfl⟩;refine wo hI (wm Aa (wo hI (ob cS λg0 cT cU=>ER (Hr:=[.blk hg [Aj hf.2.1.fNow,rv (.map (some hd)),rv (.map (some hb))] 68,.map hd (AG (mP hd) hf.2.1.fEntities),.map hb (AG (mP hb) hf.2.1.fCalls),.poolw hd h0 87 88 1 (Ap (Ak hb) hf.2.2.1) none,.pool hb h1 44 (Ap Ad hf.2.2.2),.fact g8 (AD 8 (Ap Ad gi)),.fact gp (AD 1 (Ap eS gd)),.blk hW (Ao hL.1) 31,.blk hP (Ao hE.1) 31,.blk hj [Aj ((Af l ha).fKind),rS (((Af l ha).fOp).fEntity),rS (((Af l ha).fOp).fID),rS (((Af l ha).fOp).fOp),AD 1 (Ap Ai (((Af l ha).fOp).fArgs)),Aj ((Af l ha).fNow)] 39]) Tryz.call33 (IP F hh hr hl.2 g0 cT) Aa ((Ae (i:=6) Aa).trans (WZ _ ((Ae (i:=6) Aa).trans (WZ _ (Xd _))))) Aa ?_)));rintro _ _ ⟨bn,rfl,rfl⟩;refine wo hI (WL.freeze (i:=0) Aa (WL.up (d:=128) (r:=AD 1 (Ap eS g0)) Aa (Up.fact (i:=0) Aa) (ob cU λcV cW cX=>Cl OD (Gl F g9 g0 cV cW) Aa (wo hI (wv (B8 Aa) (DB Aa hI Aa (wm Aa (bz cX (λhX cY=>?_) (λhX cZ=>?_)))))))))
          ·exact wf hX (wf hX (wf hX (wv (r:=rB true) (Ar Aa hX Aa) (wm Aa (wz Aa Aa (wz Aa Aa (wz Aa Aa (wz Aa Aa (wv (r:=rB true) (Ar (b:=true) Aa Aa Aa) (At (AC (AA (true,()) cY (AJ.c Aa (AJ.c5 Aa Aa Aa Aa Aa AJ.nil)) (sS (sC (sC (sC (sC (sC (sC (sC (sS (sS (sS (sS (sS sN)))))))))))))))))))))))))
          ·refine wo hX (wm Aa (wo hX (wm Aa (wo hX (wv (r:=rB (!(hE.2 ==hL.2))) (Pg Wt Aa Aa) (DB Aa hX Aa (wm Aa (bz cZ (λhQ xa=>?_) (λhQ xb=>?_)))))))))
           ·exact wf hQ (wf hQ (wf hQ (wf hQ (wv (r:=rB true) (Ar Aa hQ Aa) (At (AC (AA (true,()) xa (AJ.c Aa (AJ.c5 Aa Aa Aa Aa Aa AJ.nil)) (sS (sC (sC (sC (sC (sC (sC (sC (sS (sS (sS (sS (sS sN))))))))))))))))))))
           ·exact wo hQ (wv (Bf (i:=11) Cw Bs Aa Aa Aa Aa) (wo hQ (wv (Bf (i:=10) Cw Bs Aa Aa Aa Aa) (wo hQ (ob xb λgA xc xd=>Cl Rz (Gd F hE.1 hL.1 gA xc) Aa (wo hQ (wv (B8 Aa) (DB Aa hQ Aa (At (AC (AA (!gA,()) xd (AJ.c Aa (AJ.c5 Aa Aa Aa Aa Aa AJ.nil)) (sS (sC (sC (sC (sC (sC (sC (sC (sS (sS (sS (sS (sS sN))))))))))))))))))))))))
      ·rintro⟨gB,⟨⟩⟩ gq;refine BM (l':=[(0,AD 6 (Ap Bp l)),(3,rP hg 0),(4,rP hh 0),(23,Aj (l.length:Int)),(24,Aj ha),(142,rB gB)]) (H':=[.blk hh [Aj hl.2.fTime,rv hr] 98,.row hr 44 8 (Ap Ad hl.2.fL),.blk hg [Aj hf.2.1.fNow,rv (.map (some hd)),rv (.map (some hb))] 68,.map hd (AG (mP hd) hf.2.1.fEntities),.map hb (AG (mP hb) hf.2.1.fCalls),.poolw hd h0 87 88 1 (Ap (Ak hb) hf.2.2.1) none,.pool hb h1 44 (Ap Ad hf.2.2.2)]) Aa Aa ?_;replace gq:CR ha hf hl gB=some gc:=gq;unfold CR at gq;refine cz gq Aa (λxe xf=>?_) (λxe xg=>?_)
       ·refine An (wa Aa (Ax (A0 (A9 (Ah (Ah (Bm ?_)))))));have xh:=B9 xf hV gg;refine A9 (Ah ?_);obtain rfl:=A2 xh;exact Az (BI Vt (AR Aa)) (sS (sS (sS (sS (sS (sS (sS sN))))))) ⟨Aa,Aa⟩
       ·refine A1 (AL (AT (Au (ck xg λxi xj=>wv (B0 Aa Aa xi) (wm Aa (At (BV (H2:=[.blk hh [Aj hl.2.fTime,rv hr] 98,.blk hg [Aj hf.2.1.fNow,rv (.map (some hd)),rv (.map (some hb))] 68,.map hd (AG (mP hd) hf.2.1.fEntities),.map hb (AG (mP hb) hf.2.1.fCalls),.poolw hd h0 87 88 1 (Ap (Ak hb) hf.2.2.1) none,.pool hb h1 44 (Ap Ad hf.2.2.2),.row hr 44 8 (Ap Ad hl.2.fL)]) ((Ae (i:=0) Aa).trans (WZ _ ((Ae (i:=1) Aa).trans (WZ _ ((Ae (i:=1) Aa).trans (WZ _ ((Ae (i:=1) Aa).trans (WZ _ ((Ae (i:=1) Aa).trans (WZ _ ((Ae (i:=1) Aa).trans (WZ _ (Xd _))))))))))))) ?_)))))));have xk:=Bn xj hV;exact AC (AA (gz,(ha+1,hl.2.fTime,hl.2.fL,hf.2.1.fNow,hf.2.1.fEntities,hf.2.1.fCalls,hf.2.2.1,hf.2.2.2),(hr,h0,h1)) ⟨xk,Xi _⟩ (AJ.c5 Aa Aa Aa Aa Aa AJ.nil) (sC (sC (sC (sC (sC (sC (sC sN))))))))
    ·refine An (wv (B5 Aa Aa) (wa Aa (Ax (cz ci Aa (λxl xm=>?_) (λxl xn=>?_)))))
     ·refine An (wm Aa (wm Aa (vF Jy Aa C1 (vL 0 Dm Aa (ob xm λhe xo xp=>ER (Hr:=[.blk hj [Aj ((Af l ha).fKind),rS (((Af l ha).fOp).fEntity),rS (((Af l ha).fOp).fID),rS (((Af l ha).fOp).fOp),AD 1 (Ap Ai (((Af l ha).fOp).fArgs)),Aj ((Af l ha).fNow)] 39,.blk hh [Aj hn,rv hk] 98,.row hk 44 8 (Ap Ad ho)]) Tryz.call17 (Oe F hg hd hb hw hx (A5.mk hs ht hu) hp hq (((Af l ha).fOp).fEntity) ((Af l ha).fNow) he xo) Aa ((Ae (i:=2) Aa).trans (WZ _ ((Ae (i:=2) Aa).trans (WZ _ ((Ae (i:=2) Aa).trans (WZ _ ((Ae (i:=2) Aa).trans (WZ _ ((Ae (i:=2) Aa).trans (WZ _ (Xd _))))))))))) Aa ?_)))));rintro _ _ ⟨hy,hz,rfl,rfl⟩;refine wm Aa (wv (AO Aa Aa) (wv (AO Aa Aa) (B3 (cs:=[rS ([]:Aq),rS ([]:Aq),rS ([]:Aq),rv (.slice none 0 0),Aj 0,rv (.slice none 0 0),Aj 0,Aj 0]) KB Aa Aa (λg1=>?_))));refine AF (i:=0) BL Aa Aa Aa (Be.c Aa) Aa Aa (cs':=[rS he.1.fOp.fEntity,rS he.1.fOp.fID,rS he.1.fOp.fOp,AD 1 (Ap Ai he.1.fOp.fArgs),Aj he.1.fAnswer.fErr,AD 4 (Ap Ab he.1.fAnswer.fValue),Aj he.1.fFrom,Aj he.1.fTo]) Aa (H':=[.blk g1 (Ad he.1) 44,.blk hg [Aj he.2.2.1.fNow,rv (.map (some hd)),rv (.map (some hb))] 68,.map hd (AG (mP hd) he.2.2.1.fEntities),.map hb (AG (mP hb) he.2.2.1.fCalls),.poolw hd hy 87 88 1 (Ap (Ak hb) he.2.2.2.1) none,.pool hb hz 44 (Ap Ad he.2.2.2.2),.blk hj [Aj ((Af l ha).fKind),rS (((Af l ha).fOp).fEntity),rS (((Af l ha).fOp).fID),rS (((Af l ha).fOp).fOp),AD 1 (Ap Ai (((Af l ha).fOp).fArgs)),Aj ((Af l ha).fNow)] 39,.blk hh [Aj hn,rv hk] 98,.row hk 44 8 (Ap Ad ho)]) Aa (wa Aa (B4 (wm Aa (wm Aa (vF Jy Aa C1 (vL 6 Dm Aa (ob xp λhi xq xr=>ER (Hr:=[.blk g1 (Ad he.1) 44,.blk hg [Aj he.2.2.1.fNow,rv (.map (some hd)),rv (.map (some hb))] 68,.map hd (AG (mP hd) he.2.2.1.fEntities),.map hb (AG (mP hb) he.2.2.1.fCalls),.poolw hd hy 87 88 1 (Ap (Ak hb) he.2.2.2.1) none,.pool hb hz 44 (Ap Ad he.2.2.2.2),.blk hj [Aj ((Af l ha).fKind),rS (((Af l ha).fOp).fEntity),rS (((Af l ha).fOp).fID),rS (((Af l ha).fOp).fOp),AD 1 (Ap Ai (((Af l ha).fOp).fArgs)),Aj ((Af l ha).fNow)] 39]) Tryz.call27 (Tg F hh hk (Aw.mk hn ho) (((Af l ha).fOp).fEntity) ((Af l ha).fNow) hi xq) Aa ((Ae (i:=7) Aa).trans (WZ _ ((Ae (i:=7) Aa).trans (WZ _ (Xd _))))) Aa ?_)))))));rintro _ _ ⟨hm,rfl,rfl⟩;refine wm Aa (wv (AO Aa Aa) (wv (AO Aa Aa) (B3 (cs:=[rS ([]:Aq),rS ([]:Aq),rS ([]:Aq),rv (.slice none 0 0),Aj 0,rv (.slice none 0 0),Aj 0,Aj 0]) KB Aa Aa (λxt=>?_))));refine AF (i:=0) BL Aa Aa Aa (Be.c Aa) Aa Aa (cs':=[rS hi.1.fOp.fEntity,rS hi.1.fOp.fID,rS hi.1.fOp.fOp,AD 1 (Ap Ai hi.1.fOp.fArgs),Aj hi.1.fAnswer.fErr,AD 4 (Ap Ab hi.1.fAnswer.fValue),Aj hi.1.fFrom,Aj hi.1.fTo]) Aa (H':=[.blk xt (Ad hi.1) 44,.blk hh [Aj hi.2.2.fTime,rv hm] 98,.row hm 44 8 (Ap Ad hi.2.2.fL),.blk g1 (Ad he.1) 44,.blk hg [Aj he.2.2.1.fNow,rv (.map (some hd)),rv (.map (some hb))] 68,.map hd (AG (mP hd) he.2.2.1.fEntities),.map hb (AG (mP hb) he.2.2.1.fCalls),.poolw hd hy 87 88 1 (Ap (Ak hb) he.2.2.2.1) none,.pool hb hz 44 (Ap Ad he.2.2.2.2),.blk hj [Aj ((Af l ha).fKind),rS (((Af l ha).fOp).fEntity),rS (((Af l ha).fOp).fID),rS (((Af l ha).fOp).fOp),AD 1 (Ap Ai (((Af l ha).fOp).fArgs)),Aj ((Af l ha).fNow)] 39]) Aa (wa Aa (Ax (ck xr λxu xv=>AU [(0,AD 6 (Ap Bp l)),(3,rP hg 0),(4,rP hh 0),(6,rP hj 0),(7,rS (((Af l ha).fOp).fEntity)),(23,Aj (l.length:Int)),(24,Aj ha),(79,rB ((!(he.2.1 ==hi.2.1))||(!(ov (EM F ([he.1]:List Al) ([hi.1]:List Al))))))] [.blk hh [Aj hi.2.2.fTime,rv hm] 98,.row hm 44 8 (Ap Ad hi.2.2.fL),.blk hg [Aj he.2.2.1.fNow,rv (.map (some hd)),rv (.map (some hb))] 68,.map hd (AG (mP hd) he.2.2.1.fEntities),.map hb (AG (mP hb) he.2.2.1.fCalls),.poolw hd hy 87 88 1 (Ap (Ak hb) he.2.2.2.1) none,.pool hb hz 44 (Ap Ad he.2.2.2.2),.blk hj [Aj ((Af l ha).fKind),rS (((Af l ha).fOp).fEntity),rS (((Af l ha).fOp).fID),rS (((Af l ha).fOp).fOp),AD 1 (Ap Ai (((Af l ha).fOp).fArgs)),Aj ((Af l ha).fNow)] 39] ?_ ?_)))
      ·refine Au (wm Aa (wm Aa (wv (r:=rB (!(he.2.1 ==hi.2.1))) (Pg Wt Aa Aa) (wm Aa (AY (!(he.2.1 ==hi.2.1)) (λhC=>?_) (λhC=>?_))))))
       ·refine wf hC (wf hC (wf hC (wf hC (wf hC (wf hC (wv (r:=rB true) (Ar Aa hC Aa) (At ?_)))))));exact Cg hC
       ·refine wo hC (wv (Bf (i:=3) In BL Aa Aa Aa Aa) (wo hC (Bl (ys:=([he.1]:List Al)) (enc:=Ad) (css:=[[rS he.1.fOp.fEntity,rS he.1.fOp.fID,rS he.1.fOp.fOp,AD 1 (Ap Ai he.1.fOp.fArgs),Aj he.1.fAnswer.fErr,AD 4 (Ap Ab he.1.fAnswer.fValue),Aj he.1.fFrom,Aj he.1.fTo]]) (xs:=[.tmp 73]) Cn BL KB Aa Aa Aa ⟨Jm.agg ⟨Up.refl _,Up.refl _,Up.refl _,Up.refl _,Up.refl _,Up.refl _,Up.refl _,Up.refl _,trivial⟩,trivial⟩ Aa CL Aa Aa Aa (λbo=>?_))));refine wo hC (wv (Bf (i:=1) In BL Aa Aa Aa Aa) (wo hC (Bl (ys:=([hi.1]:List Al)) (enc:=Ad) (css:=[[rS hi.1.fOp.fEntity,rS hi.1.fOp.fID,rS hi.1.fOp.fOp,AD 1 (Ap Ai hi.1.fOp.fArgs),Aj hi.1.fAnswer.fErr,AD 4 (Ap Ab hi.1.fAnswer.fValue),Aj hi.1.fFrom,Aj hi.1.fTo]]) (xs:=[.tmp 75]) Cn BL KB Aa Aa Aa ⟨Jm.agg ⟨Up.refl _,Up.refl _,Up.refl _,Up.refl _,Up.refl _,Up.refl _,Up.refl _,Up.refl _,trivial⟩,trivial⟩ Aa CL Aa Aa Aa (λbp=>?_))));refine wo hC (WL.freeze (i:=1) Aa (WL.up (d:=74) (r:=AD 8 (Ap Ad ([he.1]:List Al))) Aa (Up.fact (i:=0) Aa) (WL.freeze (i:=1) Aa (WL.up (d:=76) (r:=AD 8 (Ap Ad ([hi.1]:List Al))) Aa (Up.fact (i:=0) Aa) (Cl Tryz.call24 (Kv F ([he.1]:List Al) ([hi.1]:List Al) (ov (EM F ([he.1]:List Al) ([hi.1]:List Al))) (EQ (Dj xu hC))) Aa (wo hC (wv (B8 Aa) (DB Aa hC Aa (At ?_)))))))));exact Cg hC
      refine cz xv Aa (λxw xx=>?_) (λxw xy=>?_)
      ·refine An (wa Aa (Ax (A0 (A9 (Ah (A9 (Ah (Ah (Bm ?_)))))))));have xz:=B9 xx hV gg;refine A9 (Ah ?_);obtain rfl:=A2 xz;exact Az (BI Vt (AR Aa)) (sS (sS (sS (sS (sS (sS (sS (sS sN)))))))) ⟨Aa,Aa⟩
      ·refine A1 (AL (AT (An (wm Aa (vF Jy Aa Cc (vF BG Aa CF (vL 7 CZ Aa (ob xy λhG x0 x1=>ER (Hr:=[.blk hh [Aj hi.2.2.fTime,rv hm] 98,.row hm 44 8 (Ap Ad hi.2.2.fL),.blk hj [Aj ((Af l ha).fKind),rS (((Af l ha).fOp).fEntity),rS (((Af l ha).fOp).fID),rS (((Af l ha).fOp).fOp),AD 1 (Ap Ai (((Af l ha).fOp).fArgs)),Aj ((Af l ha).fNow)] 39]) Tryz.call28 (KU F hg hd hb hy hz he.2.2.1 he.2.2.2.1 he.2.2.2.2 (((Af l ha).fOp).fID) hG x0) Aa ((Ae (i:=2) Aa).trans (WZ _ ((Ae (i:=2) Aa).trans (WZ _ ((Ae (i:=2) Aa).trans (WZ _ ((Ae (i:=2) Aa).trans (WZ _ ((Ae (i:=2) Aa).trans (WZ _ (Xd _))))))))))) Aa ?_))))))));rintro _ _ ⟨rfl,rfl⟩;refine wm Aa (wv (AO Aa Aa) (wv (AO Aa Aa) (B3 (cs:=[Aj 0,rv (.slice none 0 0)]) GL Aa Aa (λhR=>?_))));refine AF (i:=0) Bs Aa Aa Aa (Be.c Aa) Aa Aa (cs':=[Aj hG.1.fErr,AD 4 (Ap Ab hG.1.fValue)]) Aa (H':=[.blk hR (Ao hG.1) 31,.blk hg [Aj he.2.2.1.fNow,rv (.map (some hd)),rv (.map (some hb))] 68,.map hd (AG (mP hd) he.2.2.1.fEntities),.map hb (AG (mP hb) he.2.2.1.fCalls),.poolw hd hy 87 88 1 (Ap (Ak hb) he.2.2.2.1) none,.pool hb hz 44 (Ap Ad he.2.2.2.2),.blk hh [Aj hi.2.2.fTime,rv hm] 98,.row hm 44 8 (Ap Ad hi.2.2.fL),.blk hj [Aj ((Af l ha).fKind),rS (((Af l ha).fOp).fEntity),rS (((Af l ha).fOp).fID),rS (((Af l ha).fOp).fOp),AD 1 (Ap Ai (((Af l ha).fOp).fArgs)),Aj ((Af l ha).fNow)] 39]) Aa (wa Aa (B4 (wm Aa (vF Jy Aa Cc (vF BG Aa CF (vL 8 CZ Aa (ob x1 λhN x2 x3=>ER (Hr:=[.blk hR (Ao hG.1) 31,.blk hg [Aj he.2.2.1.fNow,rv (.map (some hd)),rv (.map (some hb))] 68,.map hd (AG (mP hd) he.2.2.1.fEntities),.map hb (AG (mP hb) he.2.2.1.fCalls),.poolw hd hy 87 88 1 (Ap (Ak hb) he.2.2.2.1) none,.pool hb hz 44 (Ap Ad he.2.2.2.2),.blk hj [Aj ((Af l ha).fKind),rS (((Af l ha).fOp).fEntity),rS (((Af l ha).fOp).fID),rS (((Af l ha).fOp).fOp),AD 1 (Ap Ai (((Af l ha).fOp).fArgs)),Aj ((Af l ha).fNow)] 39]) Tryz.call29 (J7 F hh hm hi.2.2 (((Af l ha).fOp).fID) hN x2) Aa ((Ae (i:=6) Aa).trans (WZ _ ((Ae (i:=6) Aa).trans (WZ _ (Xd _))))) Aa ?_)))))));rintro _ _ ⟨rfl,rfl⟩;refine wm Aa (wv (AO Aa Aa) (wv (AO Aa Aa) (B3 (cs:=[Aj 0,rv (.slice none 0 0)]) GL Aa Aa (λhY=>?_))));refine AF (i:=0) Bs Aa Aa Aa (Be.c Aa) Aa Aa (cs':=[Aj hN.1.fErr,AD 4 (Ap Ab hN.1.fValue)]) Aa (H':=[.blk hY (Ao hN.1) 31,.blk hh [Aj hi.2.2.fTime,rv hm] 98,.row hm 44 8 (Ap Ad hi.2.2.fL),.blk hR (Ao hG.1) 31,.blk hg [Aj he.2.2.1.fNow,rv (.map (some hd)),rv (.map (some hb))] 68,.map hd (AG (mP hd) he.2.2.1.fEntities),.map hb (AG (mP hb) he.2.2.1.fCalls),.poolw hd hy 87 88 1 (Ap (Ak hb) he.2.2.2.1) none,.pool hb hz 44 (Ap Ad he.2.2.2.2),.blk hj [Aj ((Af l ha).fKind),rS (((Af l ha).fOp).fEntity),rS (((Af l ha).fOp).fID),rS (((Af l ha).fOp).fOp),AD 1 (Ap Ai (((Af l ha).fOp).fArgs)),Aj ((Af l ha).fNow)] 39]) Aa (wa Aa (Ax (Co (S:=(Bool)×(Unit)) (λσ=>CQ ha he hi σ.1=some gc) (λσ=>[(0,AD 6 (Ap Bp l)),(3,rP hg 0),(4,rP hh 0),(23,Aj (l.length:Int)),(24,Aj ha),(142,rB σ.1)]) (λσ=>[.blk hh [Aj hi.2.2.fTime,rv hm] 98,.row hm 44 8 (Ap Ad hi.2.2.fL),.blk hg [Aj he.2.2.1.fNow,rv (.map (some hd)),rv (.map (some hb))] 68,.map hd (AG (mP hd) he.2.2.1.fEntities),.map hb (AG (mP hb) he.2.2.1.fCalls),.poolw hd hy 87 88 1 (Ap (Ak hb) he.2.2.2.1) none,.pool hb hz 44 (Ap Ad he.2.2.2.2)]) ?_ ?_)))
       ·refine Au (wm Aa (wm Aa (ob x3 λgC x4 x5=>ER (Hr:=[.blk hY (Ao hN.1) 31,.blk hh [Aj hi.2.2.fTime,rv hm] 98,.row hm 44 8 (Ap Ad hi.2.2.fL),.blk hR (Ao hG.1) 31,.blk hj [Aj ((Af l ha).fKind),rS (((Af l ha).fOp).fEntity),rS (((Af l ha).fOp).fID),rS (((Af l ha).fOp).fOp),AD 1 (Ap Ai (((Af l ha).fOp).fArgs)),Aj ((Af l ha).fNow)] 39]) Tryz.call19 (Ko hg hd hb hy hz he.2.2.1 he.2.2.2.1 he.2.2.2.2 (((Af l ha).fOp).fEntity) gC x4) Aa ((Ae (i:=4) Aa).trans (WZ _ ((Ae (i:=4) Aa).trans (WZ _ ((Ae (i:=4) Aa).trans (WZ _ ((Ae (i:=4) Aa).trans (WZ _ ((Ae (i:=4) Aa).trans (WZ _ (Xd _))))))))))) Aa ?_)));rintro _ _ ⟨rfl,rfl⟩;refine wm Aa (wm Aa (ob x5 λgD x6 x7=>ER (Hr:=[.blk hg [Aj he.2.2.1.fNow,rv (.map (some hd)),rv (.map (some hb))] 68,.map hd (AG (mP hd) he.2.2.1.fEntities),.map hb (AG (mP hb) he.2.2.1.fCalls),.poolw hd hy 87 88 1 (Ap (Ak hb) he.2.2.2.1) none,.pool hb hz 44 (Ap Ad he.2.2.2.2),.blk hY (Ao hN.1) 31,.blk hR (Ao hG.1) 31,.blk hj [Aj ((Af l ha).fKind),rS (((Af l ha).fOp).fEntity),rS (((Af l ha).fOp).fID),rS (((Af l ha).fOp).fOp),AD 1 (Ap Ai (((Af l ha).fOp).fArgs)),Aj ((Af l ha).fNow)] 39]) Tryz.call30 (IO F hh hm hi.2.2 (((Af l ha).fOp).fEntity) gD x6) Aa ((Ae (i:=6) Aa).trans (WZ _ ((Ae (i:=6) Aa).trans (WZ _ (Xd _))))) Aa ?_));rintro _ _ ⟨rfl,rfl⟩;refine ob x7 λx8 x9 xA=>Cl PU (HK F gC gD x8 x9) Aa (wv (B8 Aa) (wm Aa (bz xA (λh6 xB=>?_) (λh6 xC=>?_))))
        ·refine wf h6 (wf h6 (wf h6 (wf h6 (wf h6 (wf h6 (wf h6 (wf h6 (wv (r:=rB true) (Ar Aa h6 Aa) (wm Aa (wz Aa Aa (wz Aa Aa (wz Aa Aa (wz Aa Aa (wz Aa Aa (wz Aa Aa (wz Aa Aa (wz Aa Aa (wv (r:=rB true) (Ar (b:=true) Aa Aa Aa) (wm Aa (wz Aa Aa (wz Aa Aa (wz Aa Aa (wz Aa Aa ?_)))))))))))))))))))))));exact wz Aa Aa (wz Aa Aa (wv (r:=rB true) (Ar (b:=true) Aa Aa Aa) (wm Aa (wz Aa Aa (wz Aa Aa (wz Aa Aa (wv (r:=rB true) (Ar (b:=true) Aa Aa Aa) (wm Aa (wz Aa Aa (wz Aa Aa (wz Aa Aa (wz Aa Aa (wv (r:=rB true) (Ar (b:=true) Aa Aa Aa) (At (AC (AA (true,()) xB (AJ.c Aa (AJ.c5 Aa Aa Aa Aa Aa AJ.nil)) (sC (sC (sC (sC (sC (sC (sC (sS (sS (sS sN))))))))))))))))))))))))))
        ·refine wo h6 (wm Aa (wo h6 (wm Aa (wo h6 (ob xC λgE xD xE=>ER (Hr:=[.blk hh [Aj hi.2.2.fTime,rv hm] 98,.row hm 44 8 (Ap Ad hi.2.2.fL),.blk hY (Ao hN.1) 31,.blk hR (Ao hG.1) 31,.blk hj [Aj ((Af l ha).fKind),rS (((Af l ha).fOp).fEntity),rS (((Af l ha).fOp).fID),rS (((Af l ha).fOp).fOp),AD 1 (Ap Ai (((Af l ha).fOp).fArgs)),Aj ((Af l ha).fNow)] 39]) Tryz.call20 (HV F hg hd hb hy hz he.2.2.1 he.2.2.2.1 he.2.2.2.2 (((Af l ha).fOp).fEntity) gE xD) Aa ((Ae (i:=2) Aa).trans (WZ _ ((Ae (i:=2) Aa).trans (WZ _ ((Ae (i:=2) Aa).trans (WZ _ ((Ae (i:=2) Aa).trans (WZ _ ((Ae (i:=2) Aa).trans (WZ _ (Xd _))))))))))) Aa ?_)))));rintro _ _ ⟨rfl,rfl⟩;refine wo h6 (wm Aa (wo h6 (wm Aa (wo h6 (ob xE λge xF xG=>ER (Hr:=[.blk hg [Aj he.2.2.1.fNow,rv (.map (some hd)),rv (.map (some hb))] 68,.map hd (AG (mP hd) he.2.2.1.fEntities),.map hb (AG (mP hb) he.2.2.1.fCalls),.poolw hd hy 87 88 1 (Ap (Ak hb) he.2.2.2.1) none,.pool hb hz 44 (Ap Ad he.2.2.2.2),.blk hY (Ao hN.1) 31,.blk hR (Ao hG.1) 31,.blk hj [Aj ((Af l ha).fKind),rS (((Af l ha).fOp).fEntity),rS (((Af l ha).fOp).fID),rS (((Af l ha).fOp).fOp),AD 1 (Ap Ai (((Af l ha).fOp).fArgs)),Aj ((Af l ha).fNow)] 39]) Tryz.call31 (Iz F hh hm hi.2.2 (((Af l ha).fOp).fEntity) ge xF) Aa ((Ae (i:=5) Aa).trans (WZ _ ((Ae (i:=5) Aa).trans (WZ _ (Xd _))))) Aa ?_)))));rintro _ _ ⟨gr,rfl,rfl⟩;refine wo h6 (WL.freeze (i:=0) Aa (WL.up (d:=110) (r:=AD 1 (Ap eS ge)) Aa (Up.fact (i:=0) Aa) (ob xG λxH xI xJ=>Cl OD (Gl F gE ge xH xI) Aa (wo h6 (wv (B8 Aa) (DB Aa h6 Aa (wm Aa (bz xJ (λh8 xK=>?_) (λh8 xL=>?_)))))))))
         ·refine wf h8 (wf h8 (wf h8 (wf h8 (wf h8 (wf h8 (wf h8 (wf h8 (wv (r:=rB true) (Ar Aa h8 Aa) (wm Aa (wz Aa Aa (wz Aa Aa (wz Aa Aa (wz Aa Aa (wz Aa Aa (wz Aa Aa (wv (r:=rB true) (Ar (b:=true) Aa Aa Aa) (wm Aa (wz Aa Aa (wz Aa Aa (wz Aa Aa (wv (r:=rB true) (Ar (b:=true) Aa Aa Aa) (wm Aa (wz Aa Aa ?_)))))))))))))))))))))));exact wz Aa Aa (wz Aa Aa (wz Aa Aa (wv (r:=rB true) (Ar (b:=true) Aa Aa Aa) (At (AC (AA (true,()) xK (AJ.c Aa (AJ.c5 Aa Aa Aa Aa Aa AJ.nil)) (sS (sC (sC (sC (sC (sC (sC (sC (sS (sS (sS sN)))))))))))))))))
         ·refine wo h8 (wm Aa (wo h8 (wm Aa (wo h8 (ob xL λgF xM xN=>ER (Hr:=[.fact gr (AD 1 (Ap eS ge)),.blk hh [Aj hi.2.2.fTime,rv hm] 98,.row hm 44 8 (Ap Ad hi.2.2.fL),.blk hY (Ao hN.1) 31,.blk hR (Ao hG.1) 31,.blk hj [Aj ((Af l ha).fKind),rS (((Af l ha).fOp).fEntity),rS (((Af l ha).fOp).fID),rS (((Af l ha).fOp).fOp),AD 1 (Ap Ai (((Af l ha).fOp).fArgs)),Aj ((Af l ha).fNow)] 39]) Tryz.call21 (Kr F hg hd hb hy hz he.2.2.1 he.2.2.2.1 he.2.2.2.2 (((Af l ha).fOp).fEntity) gF xM) Aa ((Ae (i:=3) Aa).trans (WZ _ ((Ae (i:=3) Aa).trans (WZ _ ((Ae (i:=3) Aa).trans (WZ _ ((Ae (i:=3) Aa).trans (WZ _ ((Ae (i:=3) Aa).trans (WZ _ (Xd _))))))))))) Aa ?_)))));rintro _ _ ⟨rfl,rfl⟩;refine wo h8 (wm Aa (wo h8 (wm Aa (wo h8 (ob xN λgj xO xP=>ER (Hr:=[.blk hg [Aj he.2.2.1.fNow,rv (.map (some hd)),rv (.map (some hb))] 68,.map hd (AG (mP hd) he.2.2.1.fEntities),.map hb (AG (mP hb) he.2.2.1.fCalls),.poolw hd hy 87 88 1 (Ap (Ak hb) he.2.2.2.1) none,.pool hb hz 44 (Ap Ad he.2.2.2.2),.fact gr (AD 1 (Ap eS ge)),.blk hY (Ao hN.1) 31,.blk hR (Ao hG.1) 31,.blk hj [Aj ((Af l ha).fKind),rS (((Af l ha).fOp).fEntity),rS (((Af l ha).fOp).fID),rS (((Af l ha).fOp).fOp),AD 1 (Ap Ai (((Af l ha).fOp).fArgs)),Aj ((Af l ha).fNow)] 39]) Tryz.call32 (KJ F hh hm hi.2.2 (((Af l ha).fOp).fEntity) gj xO) Aa ((Ae (i:=6) Aa).trans (WZ _ ((Ae (i:=6) Aa).trans (WZ _ (Xd _))))) Aa ?_)))));rintro _ _ ⟨gG,rfl,rfl⟩;refine wo h8 (WL.freeze (i:=0) Aa (WL.up (d:=120) (r:=AD 8 (Ap Ad gj)) Aa (Up.fact (i:=0) Aa) (ob xP λxQ xR xS=>Cl Tryz.call24 (Kv F gF gj xQ xR) Aa (wo h8 (wv (B8 Aa) (DB Aa h8 Aa (wm Aa (bz xS (λhJ xT=>?_) (λhJ xU=>?_)))))))))
          ·exact wf hJ (wf hJ (wf hJ (wf hJ (wf hJ (wf hJ (wv (r:=rB true) (Ar Aa hJ Aa) (wm Aa (wz Aa Aa (wz Aa Aa (wz Aa Aa (wv (r:=rB true) (Ar (b:=true) Aa Aa Aa) (wm Aa (wz Aa Aa (wz Aa Aa (wz Aa Aa (wz Aa Aa (wv (r:=rB true) (Ar (b:=true) Aa Aa Aa) (At (AC (AA (true,()) xT (AJ.c Aa (AJ.c5 Aa Aa Aa Aa Aa AJ.nil)) (sS (sC (sC (sC (sC (sC (sC (sC (sS (sS (sS (sS sN))))))))))))))))))))))))))))))))
          ·refine wo hJ (wm Aa (wo hJ (ob xU λgH xV xW=>ER (Hr:=[.fact gG (AD 8 (Ap Ad gj)),.blk hh [Aj hi.2.2.fTime,rv hm] 98,.row hm 44 8 (Ap Ad hi.2.2.fL),.fact gr (AD 1 (Ap eS ge)),.blk hY (Ao hN.1) 31,.blk hR (Ao hG.1) 31,.blk hj [Aj ((Af l ha).fKind),rS (((Af l ha).fOp).fEntity),rS (((Af l ha).fOp).fID),rS (((Af l ha).fOp).fOp),AD 1 (Ap Ai (((Af l ha).fOp).fArgs)),Aj ((Af l ha).fNow)] 39]) Tryz.call22 (Kq hg hd hb hy hz he.2.2.1 he.2.2.2.1 he.2.2.2.2 gH xV) Aa ((Ae (i:=3) Aa).trans (WZ _ ((Ae (i:=3) Aa).trans (WZ _ ((Ae (i:=3) Aa).trans (WZ _ ((Ae (i:=3) Aa).trans (WZ _ ((Ae (i:=3) Aa).trans (WZ _ (Xd _))))))))))) Aa ?_)));rintro _ _ ⟨rfl,rfl⟩;refine wo hJ (wm Aa (wo hJ (ob xW λg2 xX xY=>ER (Hr:=[.blk hg [Aj he.2.2.1.fNow,rv (.map (some hd)),rv (.map (some hb))] 68,.map hd (AG (mP hd) he.2.2.1.fEntities),.map hb (AG (mP hb) he.2.2.1.fCalls),.poolw hd hy 87 88 1 (Ap (Ak hb) he.2.2.2.1) none,.pool hb hz 44 (Ap Ad he.2.2.2.2),.fact gG (AD 8 (Ap Ad gj)),.fact gr (AD 1 (Ap eS ge)),.blk hY (Ao hN.1) 31,.blk hR (Ao hG.1) 31,.blk hj [Aj ((Af l ha).fKind),rS (((Af l ha).fOp).fEntity),rS (((Af l ha).fOp).fID),rS (((Af l ha).fOp).fOp),AD 1 (Ap Ai (((Af l ha).fOp).fArgs)),Aj ((Af l ha).fNow)] 39]) Tryz.call33 (IP F hh hm hi.2.2 g2 xX) Aa ((Ae (i:=6) Aa).trans (WZ _ ((Ae (i:=6) Aa).trans (WZ _ (Xd _))))) Aa ?_)));rintro _ _ ⟨bq,rfl,rfl⟩;refine wo hJ (WL.freeze (i:=0) Aa (WL.up (d:=128) (r:=AD 1 (Ap eS g2)) Aa (Up.fact (i:=0) Aa) (ob xY λxZ va vb=>Cl OD (Gl F gH g2 xZ va) Aa (wo hJ (wv (B8 Aa) (DB Aa hJ Aa (wm Aa (bz vb (λhZ vc=>?_) (λhZ vd=>?_)))))))))
           ·exact wf hZ (wf hZ (wf hZ (wv (r:=rB true) (Ar Aa hZ Aa) (wm Aa (wz Aa Aa (wz Aa Aa (wz Aa Aa (wz Aa Aa (wv (r:=rB true) (Ar (b:=true) Aa Aa Aa) (At (AC (AA (true,()) vc (AJ.c Aa (AJ.c5 Aa Aa Aa Aa Aa AJ.nil)) (sS (sC (sC (sC (sC (sC (sC (sC (sS (sS (sS (sS (sS sN)))))))))))))))))))))))))
           ·refine wo hZ (wm Aa (wo hZ (wm Aa (wo hZ (wv (r:=rB (!(hG.2 ==hN.2))) (Pg Wt Aa Aa) (DB Aa hZ Aa (wm Aa (bz vd (λhS ve=>?_) (λhS vf=>?_)))))))))
            ·exact wf hS (wf hS (wf hS (wf hS (wv (r:=rB true) (Ar Aa hS Aa) (At (AC (AA (true,()) ve (AJ.c Aa (AJ.c5 Aa Aa Aa Aa Aa AJ.nil)) (sS (sC (sC (sC (sC (sC (sC (sC (sS (sS (sS (sS (sS sN))))))))))))))))))))
            ·exact wo hS (wv (Bf (i:=11) Cw Bs Aa Aa Aa Aa) (wo hS (wv (Bf (i:=10) Cw Bs Aa Aa Aa Aa) (wo hS (ob vf λgI vg vh=>Cl Rz (Gd F hG.1 hN.1 gI vg) Aa (wo hS (wv (B8 Aa) (DB Aa hS Aa (At (AC (AA (!gI,()) vh (AJ.c Aa (AJ.c5 Aa Aa Aa Aa Aa AJ.nil)) (sS (sC (sC (sC (sC (sC (sC (sC (sS (sS (sS (sS (sS sN))))))))))))))))))))))))
       ·rintro⟨gJ,⟨⟩⟩ gs;refine BM (l':=[(0,AD 6 (Ap Bp l)),(3,rP hg 0),(4,rP hh 0),(23,Aj (l.length:Int)),(24,Aj ha),(142,rB gJ)]) (H':=[.blk hh [Aj hi.2.2.fTime,rv hm] 98,.row hm 44 8 (Ap Ad hi.2.2.fL),.blk hg [Aj he.2.2.1.fNow,rv (.map (some hd)),rv (.map (some hb))] 68,.map hd (AG (mP hd) he.2.2.1.fEntities),.map hb (AG (mP hb) he.2.2.1.fCalls),.poolw hd hy 87 88 1 (Ap (Ak hb) he.2.2.2.1) none,.pool hb hz 44 (Ap Ad he.2.2.2.2)]) Aa Aa ?_;replace gs:CQ ha he hi gJ=some gc:=gs;unfold CQ at gs;refine cz gs Aa (λvi vj=>?_) (λvi vk=>?_)
        ·refine An (wa Aa (Ax (A0 (A9 (Ah (Ah (Bm ?_)))))));have vl:=B9 vj hV gg;refine A9 (Ah ?_);obtain rfl:=A2 vl;exact Az (BI Vt (AR Aa)) (sS (sS (sS (sS (sS (sS (sS sN))))))) ⟨Aa,Aa⟩
        ·refine A1 (AL (AT (Au (ck vk λvm vn=>wv (B0 Aa Aa vm) (wm Aa (At (BV (H2:=[.blk hh [Aj hi.2.2.fTime,rv hm] 98,.blk hg [Aj he.2.2.1.fNow,rv (.map (some hd)),rv (.map (some hb))] 68,.map hd (AG (mP hd) he.2.2.1.fEntities),.map hb (AG (mP hb) he.2.2.1.fCalls),.poolw hd hy 87 88 1 (Ap (Ak hb) he.2.2.2.1) none,.pool hb hz 44 (Ap Ad he.2.2.2.2),.row hm 44 8 (Ap Ad hi.2.2.fL)]) ((Ae (i:=0) Aa).trans (WZ _ ((Ae (i:=1) Aa).trans (WZ _ ((Ae (i:=1) Aa).trans (WZ _ ((Ae (i:=1) Aa).trans (WZ _ ((Ae (i:=1) Aa).trans (WZ _ ((Ae (i:=1) Aa).trans (WZ _ (Xd _))))))))))))) ?_)))))));have vo:=Bn vn hV;exact AC (AA (gz,(ha+1,hi.2.2.fTime,hi.2.2.fL,he.2.2.1.fNow,he.2.2.1.fEntities,he.2.2.1.fCalls,he.2.2.2.1,he.2.2.2.2),(hm,hy,hz)) ⟨vo,Xi _⟩ (AJ.c5 Aa Aa Aa Aa Aa AJ.nil) (sC (sC (sC (sC (sC (sC (sC sN))))))))
     ·refine A1 (AL (AT (An (wm Aa (vF Jy Aa Cc (vF BG Aa CF (vL 0 CZ Aa (ob xn λhH vp vq=>ER (Hr:=[.blk hj [Aj ((Af l ha).fKind),rS (((Af l ha).fOp).fEntity),rS (((Af l ha).fOp).fID),rS (((Af l ha).fOp).fOp),AD 1 (Ap Ai (((Af l ha).fOp).fArgs)),Aj ((Af l ha).fNow)] 39,.blk hh [Aj hn,rv hk] 98,.row hk 44 8 (Ap Ad ho)]) Tryz.call28 (KU F hg hd hb hw hx (A5.mk hs ht hu) hp hq (((Af l ha).fOp).fID) hH vp) Aa ((Ae (i:=2) Aa).trans (WZ _ ((Ae (i:=2) Aa).trans (WZ _ ((Ae (i:=2) Aa).trans (WZ _ ((Ae (i:=2) Aa).trans (WZ _ ((Ae (i:=2) Aa).trans (WZ _ (Xd _))))))))))) Aa ?_))))))));rintro _ _ ⟨rfl,rfl⟩;refine wm Aa (wv (AO Aa Aa) (wv (AO Aa Aa) (B3 (cs:=[Aj 0,rv (.slice none 0 0)]) GL Aa Aa (λhT=>?_))));refine AF (i:=0) Bs Aa Aa Aa (Be.c Aa) Aa Aa (cs':=[Aj hH.1.fErr,AD 4 (Ap Ab hH.1.fValue)]) Aa (H':=[.blk hT (Ao hH.1) 31,.blk hg [Aj hs,rv (.map (some hd)),rv (.map (some hb))] 68,.map hd (AG (mP hd) ht),.map hb (AG (mP hb) hu),.poolw hd hw 87 88 1 (Ap (Ak hb) hp) none,.pool hb hx 44 (Ap Ad hq),.blk hj [Aj ((Af l ha).fKind),rS (((Af l ha).fOp).fEntity),rS (((Af l ha).fOp).fID),rS (((Af l ha).fOp).fOp),AD 1 (Ap Ai (((Af l ha).fOp).fArgs)),Aj ((Af l ha).fNow)] 39,.blk hh [Aj hn,rv hk] 98,.row hk 44 8 (Ap Ad ho)]) Aa (wa Aa (B4 (wm Aa (vF Jy Aa Cc (vF BG Aa CF (vL 6 CZ Aa (ob vq λhO vr vs=>ER (Hr:=[.blk hT (Ao hH.1) 31,.blk hg [Aj hs,rv (.map (some hd)),rv (.map (some hb))] 68,.map hd (AG (mP hd) ht),.map hb (AG (mP hb) hu),.poolw hd hw 87 88 1 (Ap (Ak hb) hp) none,.pool hb hx 44 (Ap Ad hq),.blk hj [Aj ((Af l ha).fKind),rS (((Af l ha).fOp).fEntity),rS (((Af l ha).fOp).fID),rS (((Af l ha).fOp).fOp),AD 1 (Ap Ai (((Af l ha).fOp).fArgs)),Aj ((Af l ha).fNow)] 39]) Tryz.call29 (J7 F hh hk (Aw.mk hn ho) (((Af l ha).fOp).fID) hO vr) Aa ((Ae (i:=7) Aa).trans (WZ _ ((Ae (i:=7) Aa).trans (WZ _ (Xd _))))) Aa ?_)))))));rintro _ _ ⟨rfl,rfl⟩;refine wm Aa (wv (AO Aa Aa) (wv (AO Aa Aa) (B3 (cs:=[Aj 0,rv (.slice none 0 0)]) GL Aa Aa (λga=>?_))));refine AF (i:=0) Bs Aa Aa Aa (Be.c Aa) Aa Aa (cs':=[Aj hO.1.fErr,AD 4 (Ap Ab hO.1.fValue)]) Aa (H':=[.blk ga (Ao hO.1) 31,.blk hh [Aj hn,rv hk] 98,.row hk 44 8 (Ap Ad ho),.blk hT (Ao hH.1) 31,.blk hg [Aj hs,rv (.map (some hd)),rv (.map (some hb))] 68,.map hd (AG (mP hd) ht),.map hb (AG (mP hb) hu),.poolw hd hw 87 88 1 (Ap (Ak hb) hp) none,.pool hb hx 44 (Ap Ad hq),.blk hj [Aj ((Af l ha).fKind),rS (((Af l ha).fOp).fEntity),rS (((Af l ha).fOp).fID),rS (((Af l ha).fOp).fOp),AD 1 (Ap Ai (((Af l ha).fOp).fArgs)),Aj ((Af l ha).fNow)] 39]) Aa (wa Aa (Ax (Co (S:=(Bool)×(Unit)) (λσ=>CP ha hn ho hs ht hu hp hq σ.1=some gc) (λσ=>[(0,AD 6 (Ap Bp l)),(3,rP hg 0),(4,rP hh 0),(23,Aj (l.length:Int)),(24,Aj ha),(142,rB σ.1)]) (λσ=>[.blk hh [Aj hn,rv hk] 98,.row hk 44 8 (Ap Ad ho),.blk hg [Aj hs,rv (.map (some hd)),rv (.map (some hb))] 68,.map hd (AG (mP hd) ht),.map hb (AG (mP hb) hu),.poolw hd hw 87 88 1 (Ap (Ak hb) hp) none,.pool hb hx 44 (Ap Ad hq)]) ?_ ?_)))
      ·refine Au (wm Aa (wm Aa (ob vs λgK vt vu=>ER (Hr:=[.blk ga (Ao hO.1) 31,.blk hh [Aj hn,rv hk] 98,.row hk 44 8 (Ap Ad ho),.blk hT (Ao hH.1) 31,.blk hj [Aj ((Af l ha).fKind),rS (((Af l ha).fOp).fEntity),rS (((Af l ha).fOp).fID),rS (((Af l ha).fOp).fOp),AD 1 (Ap Ai (((Af l ha).fOp).fArgs)),Aj ((Af l ha).fNow)] 39]) Tryz.call19 (Ko hg hd hb hw hx (A5.mk hs ht hu) hp hq (((Af l ha).fOp).fEntity) gK vt) Aa ((Ae (i:=4) Aa).trans (WZ _ ((Ae (i:=4) Aa).trans (WZ _ ((Ae (i:=4) Aa).trans (WZ _ ((Ae (i:=4) Aa).trans (WZ _ ((Ae (i:=4) Aa).trans (WZ _ (Xd _))))))))))) Aa ?_)));rintro _ _ ⟨rfl,rfl⟩;refine wm Aa (wm Aa (ob vu λgL vv vw=>ER (Hr:=[.blk hg [Aj hs,rv (.map (some hd)),rv (.map (some hb))] 68,.map hd (AG (mP hd) ht),.map hb (AG (mP hb) hu),.poolw hd hw 87 88 1 (Ap (Ak hb) hp) none,.pool hb hx 44 (Ap Ad hq),.blk ga (Ao hO.1) 31,.blk hT (Ao hH.1) 31,.blk hj [Aj ((Af l ha).fKind),rS (((Af l ha).fOp).fEntity),rS (((Af l ha).fOp).fID),rS (((Af l ha).fOp).fOp),AD 1 (Ap Ai (((Af l ha).fOp).fArgs)),Aj ((Af l ha).fNow)] 39]) Tryz.call30 (IO F hh hk (Aw.mk hn ho) (((Af l ha).fOp).fEntity) gL vv) Aa ((Ae (i:=6) Aa).trans (WZ _ ((Ae (i:=6) Aa).trans (WZ _ (Xd _))))) Aa ?_));rintro _ _ ⟨rfl,rfl⟩;refine ob vw λvx vy vz=>Cl PU (HK F gK gL vx vy) Aa (wv (B8 Aa) (wm Aa (bz vz (λhA v0=>?_) (λhA v1=>?_))))
       ·refine wf hA (wf hA (wf hA (wf hA (wf hA (wf hA (wf hA (wf hA (wv (r:=rB true) (Ar Aa hA Aa) (wm Aa (wz Aa Aa (wz Aa Aa (wz Aa Aa (wz Aa Aa (wz Aa Aa (wz Aa Aa (wz Aa Aa (wz Aa Aa (wv (r:=rB true) (Ar (b:=true) Aa Aa Aa) (wm Aa (wz Aa Aa (wz Aa Aa (wz Aa Aa (wz Aa Aa ?_)))))))))))))))))))))));exact wz Aa Aa (wz Aa Aa (wv (r:=rB true) (Ar (b:=true) Aa Aa Aa) (wm Aa (wz Aa Aa (wz Aa Aa (wz Aa Aa (wv (r:=rB true) (Ar (b:=true) Aa Aa Aa) (wm Aa (wz Aa Aa (wz Aa Aa (wz Aa Aa (wz Aa Aa (wv (r:=rB true) (Ar (b:=true) Aa Aa Aa) (At (AC (AA (true,()) v0 (AJ.c Aa (AJ.c5 Aa Aa Aa Aa Aa AJ.nil)) (sC (sC (sC (sC (sC (sC (sC (sS (sS (sS sN))))))))))))))))))))))))))
       ·refine wo hA (wm Aa (wo hA (wm Aa (wo hA (ob v1 λgM v2 v3=>ER (Hr:=[.blk hh [Aj hn,rv hk] 98,.row hk 44 8 (Ap Ad ho),.blk ga (Ao hO.1) 31,.blk hT (Ao hH.1) 31,.blk hj [Aj ((Af l ha).fKind),rS (((Af l ha).fOp).fEntity),rS (((Af l ha).fOp).fID),rS (((Af l ha).fOp).fOp),AD 1 (Ap Ai (((Af l ha).fOp).fArgs)),Aj ((Af l ha).fNow)] 39]) Tryz.call20 (HV F hg hd hb hw hx (A5.mk hs ht hu) hp hq (((Af l ha).fOp).fEntity) gM v2) Aa ((Ae (i:=2) Aa).trans (WZ _ ((Ae (i:=2) Aa).trans (WZ _ ((Ae (i:=2) Aa).trans (WZ _ ((Ae (i:=2) Aa).trans (WZ _ ((Ae (i:=2) Aa).trans (WZ _ (Xd _))))))))))) Aa ?_)))));rintro _ _ ⟨rfl,rfl⟩;refine wo hA (wm Aa (wo hA (wm Aa (wo hA (ob v3 λgf v4 v5=>ER (Hr:=[.blk hg [Aj hs,rv (.map (some hd)),rv (.map (some hb))] 68,.map hd (AG (mP hd) ht),.map hb (AG (mP hb) hu),.poolw hd hw 87 88 1 (Ap (Ak hb) hp) none,.pool hb hx 44 (Ap Ad hq),.blk ga (Ao hO.1) 31,.blk hT (Ao hH.1) 31,.blk hj [Aj ((Af l ha).fKind),rS (((Af l ha).fOp).fEntity),rS (((Af l ha).fOp).fID),rS (((Af l ha).fOp).fOp),AD 1 (Ap Ai (((Af l ha).fOp).fArgs)),Aj ((Af l ha).fNow)] 39]) Tryz.call31 (Iz F hh hk (Aw.mk hn ho) (((Af l ha).fOp).fEntity) gf v4) Aa ((Ae (i:=5) Aa).trans (WZ _ ((Ae (i:=5) Aa).trans (WZ _ (Xd _))))) Aa ?_)))));rintro _ _ ⟨gt,rfl,rfl⟩;refine wo hA (WL.freeze (i:=0) Aa (WL.up (d:=110) (r:=AD 1 (Ap eS gf)) Aa (Up.fact (i:=0) Aa) (ob v5 λv6 v7 v8=>Cl OD (Gl F gM gf v6 v7) Aa (wo hA (wv (B8 Aa) (DB Aa hA Aa (wm Aa (bz v8 (λhB v9=>?_) (λhB vA=>?_)))))))))
        ·refine wf hB (wf hB (wf hB (wf hB (wf hB (wf hB (wf hB (wf hB (wv (r:=rB true) (Ar Aa hB Aa) (wm Aa (wz Aa Aa (wz Aa Aa (wz Aa Aa (wz Aa Aa (wz Aa Aa (wz Aa Aa (wv (r:=rB true) (Ar (b:=true) Aa Aa Aa) (wm Aa (wz Aa Aa (wz Aa Aa (wz Aa Aa (wv (r:=rB true) (Ar (b:=true) Aa Aa Aa) (wm Aa (wz Aa Aa ?_)))))))))))))))))))))));exact wz Aa Aa (wz Aa Aa (wz Aa Aa (wv (r:=rB true) (Ar (b:=true) Aa Aa Aa) (At (AC (AA (true,()) v9 (AJ.c Aa (AJ.c5 Aa Aa Aa Aa Aa AJ.nil)) (sS (sC (sC (sC (sC (sC (sC (sC (sS (sS (sS sN)))))))))))))))))
        ·refine wo hB (wm Aa (wo hB (wm Aa (wo hB (ob vA λgN vB vC=>ER (Hr:=[.fact gt (AD 1 (Ap eS gf)),.blk hh [Aj hn,rv hk] 98,.row hk 44 8 (Ap Ad ho),.blk ga (Ao hO.1) 31,.blk hT (Ao hH.1) 31,.blk hj [Aj ((Af l ha).fKind),rS (((Af l ha).fOp).fEntity),rS (((Af l ha).fOp).fID),rS (((Af l ha).fOp).fOp),AD 1 (Ap Ai (((Af l ha).fOp).fArgs)),Aj ((Af l ha).fNow)] 39]) Tryz.call21 (Kr F hg hd hb hw hx (A5.mk hs ht hu) hp hq (((Af l ha).fOp).fEntity) gN vB) Aa ((Ae (i:=3) Aa).trans (WZ _ ((Ae (i:=3) Aa).trans (WZ _ ((Ae (i:=3) Aa).trans (WZ _ ((Ae (i:=3) Aa).trans (WZ _ ((Ae (i:=3) Aa).trans (WZ _ (Xd _))))))))))) Aa ?_)))));rintro _ _ ⟨rfl,rfl⟩;refine wo hB (wm Aa (wo hB (wm Aa (wo hB (ob vC λgl vD vE=>ER (Hr:=[.blk hg [Aj hs,rv (.map (some hd)),rv (.map (some hb))] 68,.map hd (AG (mP hd) ht),.map hb (AG (mP hb) hu),.poolw hd hw 87 88 1 (Ap (Ak hb) hp) none,.pool hb hx 44 (Ap Ad hq),.fact gt (AD 1 (Ap eS gf)),.blk ga (Ao hO.1) 31,.blk hT (Ao hH.1) 31,.blk hj [Aj ((Af l ha).fKind),rS (((Af l ha).fOp).fEntity),rS (((Af l ha).fOp).fID),rS (((Af l ha).fOp).fOp),AD 1 (Ap Ai (((Af l ha).fOp).fArgs)),Aj ((Af l ha).fNow)] 39]) Tryz.call32 (KJ F hh hk (Aw.mk hn ho) (((Af l ha).fOp).fEntity) gl vD) Aa ((Ae (i:=6) Aa).trans (WZ _ ((Ae (i:=6) Aa).trans (WZ _ (Xd _))))) Aa ?_)))));rintro _ _ ⟨gO,rfl,rfl⟩;refine wo hB (WL.freeze (i:=0) Aa (WL.up (d:=120) (r:=AD 8 (Ap Ad gl)) Aa (Up.fact (i:=0) Aa) (ob vE λvG vH vI=>Cl Tryz.call24 (Kv F gN gl vG vH) Aa (wo hB (wv (B8 Aa) (DB Aa hB Aa (wm Aa (bz vI (λhK vJ=>?_) (λhK vK=>?_)))))))))
         ·exact wf hK (wf hK (wf hK (wf hK (wf hK (wf hK (wv (r:=rB true) (Ar Aa hK Aa) (wm Aa (wz Aa Aa (wz Aa Aa (wz Aa Aa (wv (r:=rB true) (Ar (b:=true) Aa Aa Aa) (wm Aa (wz Aa Aa (wz Aa Aa (wz Aa Aa (wz Aa Aa (wv (r:=rB true) (Ar (b:=true) Aa Aa Aa) (At (AC (AA (true,()) vJ (AJ.c Aa (AJ.c5 Aa Aa Aa Aa Aa AJ.nil)) (sS (sC (sC (sC (sC (sC (sC (sC (sS (sS (sS (sS sN))))))))))))))))))))))))))))))))
         ·refine wo hK (wm Aa (wo hK (ob vK λgP vM vN=>ER (Hr:=[.fact gO (AD 8 (Ap Ad gl)),.blk hh [Aj hn,rv hk] 98,.row hk 44 8 (Ap Ad ho),.fact gt (AD 1 (Ap eS gf)),.blk ga (Ao hO.1) 31,.blk hT (Ao hH.1) 31,.blk hj [Aj ((Af l ha).fKind),rS (((Af l ha).fOp).fEntity),rS (((Af l ha).fOp).fID),rS (((Af l ha).fOp).fOp),AD 1 (Ap Ai (((Af l ha).fOp).fArgs)),Aj ((Af l ha).fNow)] 39]) Tryz.call22 (Kq hg hd hb hw hx (A5.mk hs ht hu) hp hq gP vM) Aa ((Ae (i:=3) Aa).trans (WZ _ ((Ae (i:=3) Aa).trans (WZ _ ((Ae (i:=3) Aa).trans (WZ _ ((Ae (i:=3) Aa).trans (WZ _ ((Ae (i:=3) Aa).trans (WZ _ (Xd _))))))))))) Aa ?_)));rintro _ _ ⟨rfl,rfl⟩;refine wo hK (wm Aa (wo hK (ob vN λg3 vO vP=>ER (Hr:=[.blk hg [Aj hs,rv (.map (some hd)),rv (.map (some hb))] 68,.map hd (AG (mP hd) ht),.map hb (AG (mP hb) hu),.poolw hd hw 87 88 1 (Ap (Ak hb) hp) none,.pool hb hx 44 (Ap Ad hq),.fact gO (AD 8 (Ap Ad gl)),.fact gt (AD 1 (Ap eS gf)),.blk ga (Ao hO.1) 31,.blk hT (Ao hH.1) 31,.blk hj [Aj ((Af l ha).fKind),rS (((Af l ha).fOp).fEntity),rS (((Af l ha).fOp).fID),rS (((Af l ha).fOp).fOp),AD 1 (Ap Ai (((Af l ha).fOp).fArgs)),Aj ((Af l ha).fNow)] 39]) Tryz.call33 (IP F hh hk (Aw.mk hn ho) g3 vO) Aa ((Ae (i:=6) Aa).trans (WZ _ ((Ae (i:=6) Aa).trans (WZ _ (Xd _))))) Aa ?_)));rintro _ _ ⟨br,rfl,rfl⟩;refine wo hK (WL.freeze (i:=0) Aa (WL.up (d:=128) (r:=AD 1 (Ap eS g3)) Aa (Up.fact (i:=0) Aa) (ob vP λvQ vR vS=>Cl OD (Gl F gP g3 vQ vR) Aa (wo hK (wv (B8 Aa) (DB Aa hK Aa (wm Aa (bz vS (λgb vT=>?_) (λgb vU=>?_)))))))))
          ·exact wf gb (wf gb (wf gb (wv (r:=rB true) (Ar Aa gb Aa) (wm Aa (wz Aa Aa (wz Aa Aa (wz Aa Aa (wz Aa Aa (wv (r:=rB true) (Ar (b:=true) Aa Aa Aa) (At (AC (AA (true,()) vT (AJ.c Aa (AJ.c5 Aa Aa Aa Aa Aa AJ.nil)) (sS (sC (sC (sC (sC (sC (sC (sC (sS (sS (sS (sS (sS sN)))))))))))))))))))))))))
          ·refine wo gb (wm Aa (wo gb (wm Aa (wo gb (wv (r:=rB (!(hH.2 ==hO.2))) (Pg Wt Aa Aa) (DB Aa gb Aa (wm Aa (bz vU (λhU vV=>?_) (λhU vW=>?_)))))))))
           ·exact wf hU (wf hU (wf hU (wf hU (wv (r:=rB true) (Ar Aa hU Aa) (At (AC (AA (true,()) vV (AJ.c Aa (AJ.c5 Aa Aa Aa Aa Aa AJ.nil)) (sS (sC (sC (sC (sC (sC (sC (sC (sS (sS (sS (sS (sS sN))))))))))))))))))))
           ·exact wo hU (wv (Bf (i:=11) Cw Bs Aa Aa Aa Aa) (wo hU (wv (Bf (i:=10) Cw Bs Aa Aa Aa Aa) (wo hU (ob vW λgQ vX vY=>Cl Rz (Gd F hH.1 hO.1 gQ vX) Aa (wo hU (wv (B8 Aa) (DB Aa hU Aa (At (AC (AA (!gQ,()) vY (AJ.c Aa (AJ.c5 Aa Aa Aa Aa Aa AJ.nil)) (sS (sC (sC (sC (sC (sC (sC (sC (sS (sS (sS (sS (sS sN))))))))))))))))))))))))
      ·rintro⟨gR,⟨⟩⟩ gu;refine BM (l':=[(0,AD 6 (Ap Bp l)),(3,rP hg 0),(4,rP hh 0),(23,Aj (l.length:Int)),(24,Aj ha),(142,rB gR)]) (H':=[.blk hh [Aj hn,rv hk] 98,.row hk 44 8 (Ap Ad ho),.blk hg [Aj hs,rv (.map (some hd)),rv (.map (some hb))] 68,.map hd (AG (mP hd) ht),.map hb (AG (mP hb) hu),.poolw hd hw 87 88 1 (Ap (Ak hb) hp) none,.pool hb hx 44 (Ap Ad hq)]) Aa Aa ?_;replace gu:CP ha hn ho hs ht hu hp hq gR=some gc:=gu;unfold CP at gu;refine cz gu Aa (λvZ ba=>?_) (λvZ bb=>?_)
       ·refine An (wa Aa (Ax (A0 (A9 (Ah (Ah (Bm ?_)))))));have bc:=B9 ba hV gg;refine A9 (Ah ?_);obtain rfl:=A2 bc;exact Az (BI Vt (AR Aa)) (sS (sS (sS (sS (sS (sS (sS sN))))))) ⟨Aa,Aa⟩
       ·refine A1 (AL (AT (Au (ck bb λbd be=>wv (B0 Aa Aa bd) (wm Aa (At (BV (H2:=[.blk hh [Aj hn,rv hk] 98,.blk hg [Aj hs,rv (.map (some hd)),rv (.map (some hb))] 68,.map hd (AG (mP hd) ht),.map hb (AG (mP hb) hu),.poolw hd hw 87 88 1 (Ap (Ak hb) hp) none,.pool hb hx 44 (Ap Ad hq),.row hk 44 8 (Ap Ad ho)]) ((Ae (i:=0) Aa).trans (WZ _ ((Ae (i:=1) Aa).trans (WZ _ ((Ae (i:=1) Aa).trans (WZ _ ((Ae (i:=1) Aa).trans (WZ _ ((Ae (i:=1) Aa).trans (WZ _ ((Ae (i:=1) Aa).trans (WZ _ (Xd _))))))))))))) ?_)))))));have bf:=Bn be hV;exact AC (AA (gz,(ha+1,hn,ho,hs,ht,hu,hp,hq),(hk,hw,hx)) ⟨bf,Xi _⟩ (AJ.c5 Aa Aa Aa Aa Aa AJ.nil) (sC (sC (sC (sC (sC (sC (sC sN))))))))
   ·refine By (A4 ?_);have bg:=BQ cd hV gg;exact A4 (Bi (AA ((hp,hq),(hw,hx)) bg AJ.nil (sS (sS (sS (sS (sC (sC (sS sN)))))))))
  ·rintro⟨⟨gS,gT⟩,⟨bh,bi⟩⟩ gv;refine Cy (l':=[]) (H':=[.poolw hd bh 87 88 1 (Ap (Ak hb) gS) none,.pool hb bi 44 (Ap Ad gT)]) Aa Aa ?_;replace gv:GT F gS gT=some r:=gv;unfold GT at gv;refine Bk (AT (An (ob gv λbj bk bl=>Cl Tryz.call10 (My F bj bk) Aa (wa Aa (Ax (A0 ?_))))));obtain rfl:=A2 bl;exact Az (BI Vt (AR Aa)) (sS (sS sN)) ⟨Aa,Aa⟩
end Go.Proofs.YtfbmdidnlhifjaaGreatDoor.Q
namespace Go.Proofs.YtfbmdidnlhifjaaGreatDoor.lawEntityPlays
open Go
set_option linter.unusedVariables false
def Tn (y:Ac):Bool:=(Cj .i64) y.fKind&&(Cj .i64) y.fInt&&Ub y.fStr&&(Cj .i64) y.fN
def UA (y:A6):Bool:=Ub y.fEntity&&Ub y.fID&&Ub y.fOp&&(λys:(List (List Ac))=>ys.all (λys:(List Ac)=>ys.all Tn&&decide (ys.length≤9223372036854775807))&&decide (ys.length≤9223372036854775807)) y.fArgs
def Qq (y:Bu):Bool:=(Cj .i64) y.fKind&&UA y.fOp&&(Cj .i64) y.fNow
def WX:Prop:=∀(y0:(List Bu)) (o0:(λys:(List Bu)=>ys.all Qq&&decide (ys.length≤9223372036854775807)) y0=true),∃F,Ku F y0=some true
end Go.Proofs.YtfbmdidnlhifjaaGreatDoor.lawEntityPlays
namespace Go.Proofs.YtfbmdidnlhifjaaGreatDoor
open Go
set_option linter.unusedVariables false
set_option linter.unusedSimpArgs false
def Ua (c:UInt8):Bool:=decide (32≤c.toNat)&&decide (c.toNat≤126)
theorem Or {s:Aq}{x:Int}{c:UInt8}(h:s[x.toNat]? =some c):K7 s x=(c.toNat:Int):=by simp[K7,h]
theorem MM {α:Type}{p:α→Bool}{s:List α}{k:Nat}{c:α}(h:s[k]? =some c):(s.take (k+1)).all p=((s.take k).all p&&p c):=by
 rw[List.take_add_one,h];simp
theorem Ov {α:Type}{p:α→Bool}{s:List α}{k:Nat}{c:α}(h:s[k]? =some c)(hp:p c=false):s.all p=false:=by
 rw[List.all_eq_false];exact⟨c,Xk h,by simp[hp]⟩
theorem OG {F:Nat}{s:Aq}(hF:s.length<F)(hs:s.length≤9223372036854775807):JT F s=some (s.all Ua):=by
 obtain⟨o,h1,h2⟩:=Gi (body:=λσ=>Hy s σ) (λx=>0≤x∧x≤(s.length:Int)∧(s.take x.toNat).all Ua=true) (λx=>s.length-x.toNat)
  (λo=>Cf (λ_=>Hx) o=some (s.all Ua)) (λx ⟨h0,hl,ha⟩=>by
   unfold Hy
   by_cases hx:x<(s.length:Int)
   ·obtain⟨c,hc⟩:∃c,s[x.toNat]? =some c:=⟨s[x.toNat]'(by omega),Xg (by omega)⟩
    rw[AI (by simpa using hx),AZ h0 hx,Or hc]
    cases ho:Ua c with
    | false=>
     refine .inr ⟨.ret false,?_,?_⟩
     ·rw[AI];simp only[Ua,Bool.and_eq_false_iff,Xe] at ho;simp only[X2,Xc];omega
     ·simp[Cf,Ov hc ho]
    | true=>
     refine .inl ⟨x+1,?_,⟨by omega,by omega,?_⟩,by omega⟩
     ·rw[A3,AP (by omega) (by omega)];simp only[Ua,Xf,Xc] at ho;simp only[X8,Xe];omega
     ·rw[show(x+1).toNat=x.toNat+1 from by omega,MM hc,ha,ho];rfl
   ·refine .inr ⟨.go (),by rw[A3 (by simpa using hx)],?_⟩;rw[show x.toNat=s.length from by omega,XU] at ha;simp[Cf,Hx,ha]) F 0 ⟨by omega,by omega,by simp⟩ (by simpa using hF)
 unfold JT;rw[AW h1,h2]
theorem NS (F:Nat)(s:Aq):Iy F s=JT F s:=rfl
theorem R9 {F:Nat}{s:Aq}(hF:s.length<F)(hs:s.length≤9223372036854775807):Iy F s=some (s.all Ua):=by rw[NS];exact OG hF hs
def pl (c:Ac):Bool:=
 bif decide (c.fKind=1) then(decide (c.fInt=0)&&(decide (c.fStr=[])&&decide (c.fN=0))) else
 bif decide (c.fKind=2) then((decide (c.fInt=0)||decide (c.fInt=1))&&(decide (c.fStr=[])&&decide (c.fN=0))) else
 bif decide (c.fKind=3) then(decide (c.fStr=[])&&decide (c.fN=0)) else
 bif decide (c.fKind=4) then(decide (c.fInt=0)&&(decide (c.fN=0)&&c.fStr.all Ua)) else
 bif decide (c.fKind=5) then(decide (c.fInt=0)&&(decide (c.fStr=[])&&decide (0≤c.fN))) else
 bif decide (c.fKind=6) then(decide (c.fInt=0)&&(decide (c.fStr=[])&&decide (0≤c.fN))) else false
theorem Ep {α:Type}{p:Bool}{x y:Option α}{a b:α}(h:x=some a)(h':y=some b):Bq p x y=some (bif p then a else b):=by cases p<;>simp[Bq,h,h']
theorem R1 {F:Nat}{c:Ac}(hF:c.fStr.length<F)(hs:c.fStr.length≤9223372036854775807):LW F c=some (pl c):=by
 unfold LW pl;rw[OG hF hs];refine Ep rfl (Ep ?_ (Ep rfl (Ep ?_ (Ep rfl (Ep rfl rfl)))))
 ·cases h:decide (c.fInt=0)<;>simp
 ·simp[imp,Br,ov]
def Lw:List AB→List AB
 | []=>[]
 | e::S=>bif decide (1<e.fLeft) then⟨e.fPairs,e.fLeft-1,e.fPairs,e.fLast,e.fStarted⟩::S else Lw S
theorem LM {α:Type}[Inhabited α](xs:List α)(e:α):Af (xs++[e]) (xs.length:Int)=e:=by simp[Af]
theorem Ka {α:Type}(xs:List α)(e e':α):List.set (xs++[e]) (Int.toNat (xs.length:Int)) e'=xs++[e']:=by simp
theorem Ks {α:Type}(xs:List α)(e:α):((xs++[e]).length:Int)-1=(xs.length:Int):=by simp
theorem R4 {α:Type}(xs:List α)(e:α):List.take (Int.toNat (xs.length:Int)) (xs++[e])=xs:=by simp
theorem Lj:∀(S:List AB) (F:Nat),S.length<F→(∀e∈S,1≤e.fLeft∧e.fLeft≤9223372036854775807)→S.length≤4611686018427387904→
  ∃o,BW (λσ=>DD σ) F S.reverse=some o∧Cf (λν=>Et ν) o=some (Lw S).reverse
 | [],F+1,_,_,_=>⟨.go [],by simp[BW,DD,Bq],by simp[Cf,Et,Lw]⟩
 | e::S,F+1,hF,hb,hl=>by
  obtain⟨h1,h2⟩:=hb e (by simp);simp only[Xj] at hF hl;have hx:S.reverse.length=S.length:=by simp
  generalize hxs:S.reverse=xs at hx;have hr:(e::S).reverse=xs++[e]:=by simp[hxs]
  rw[hr];have hb1:DD (xs++[e])=bif decide (1<e.fLeft) then some (.out (.ret (xs++[⟨e.fPairs,e.fLeft-1,e.fPairs,e.fLast,e.fStarted⟩]))) else some (.next xs):=by
   unfold DD;rw[AI (by simp)];simp only[Ks,LM,Ka,NC];rw[AP (by omega) (by omega),AZ (by omega) (by simp;omega),AP (by omega) (by omega)]
   cases hd:decide (1<e.fLeft) with
   | true=>
    rw[AI (by simp at hd ⊢;omega)];rfl
   | false=>
    rw[A3 (by simp at hd ⊢;omega),AP (by omega) (by omega),Id (by omega) (by simp;omega),R4];rfl
  rw[BW,hb1]
  cases hd:decide (1<e.fLeft) with
  | true=>exact⟨_,rfl,by simp[Cf,Et,Lw,hd,hxs]⟩
  | false=>
   obtain⟨o,ho1,ho2⟩:=Lj S F (by omega) (λe he=>hb e (by simp[he])) (by omega);rw[hxs] at ho1;exact⟨o,ho1,by rw[ho2];simp[Lw,hd]⟩
theorem LX {S:List AB}{F:Nat}(hF:S.length<F)(hb:∀e∈S,1≤e.fLeft∧e.fLeft≤9223372036854775807)(hl:S.length≤4611686018427387904):JW F S.reverse=some (Lw S).reverse:=by
 obtain⟨o,h1,h2⟩:=Lj S F hF hb hl;unfold JW;rw[AW h1,h2]
def KM (s:Aq):Int:=s.length+2+s.count 34+s.count 92
theorem LV {s:Aq}(hs:s.length≤1152921504606846976):IJ s=some (KM s):=by
 have h1:s.count 34≤s.length:=List.count_le_length;have h2:s.count 92≤s.length:=List.count_le_length;unfold IJ Lib.countByte;rw[AP (by omega) (by omega),AP (by omega) (by omega),AP (by omega) (by omega)];rfl
def V0 (c:Ac):Int:=
 bif decide (c.fKind=1) then 4 else bif decide (c.fKind=2) then IntKind.wrap .i64 (5-c.fInt) else bif decide (c.fKind=3) then((Lib.itoa c.fInt).length:Int) else
 bif decide (c.fKind=4) then KM c.fStr else IntKind.wrap .i64 (2+max 0 (IntKind.wrap .i64 (c.fN-1)))
theorem OH {c:Ac}(hs:c.fStr.length≤1152921504606846976)(hi:Cj .i64 c.fInt=true):OI c=some (V0 c):=by
 unfold OI V0;rw[LV hs];refine Ep rfl (Ep rfl (Ep ?_ (Ep rfl rfl)));rw[BP hi]
def Ip (d:Nat)(sh:AM)(c:Ac):AM:=
 ⟨max sh.fDepth ((d:Int)+1),IntKind.wrap .i64 (sh.fBytes+V0 c),sh.fOutside||(decide (c.fKind=3)&&!(decide ((-1000000000000)≤c.fInt)&&decide (c.fInt≤1000000000000))),sh.fLong||decide (200<(c.fStr.length:Int))⟩
def VQ (sh:AM)(c:Ac):AM:=⟨sh.fDepth,IntKind.wrap .i64 (sh.fBytes+(KM c.fStr+1)),sh.fOutside,sh.fLong||decide (200<(c.fStr.length:Int))⟩
def KZ:List AB→Bool
 | []=>false
 | e::_=>e.fKey
abbrev O1:=List AB×Int×AM
abbrev Vr:=Out (Int×AM×Bool) AM
def PM (n:Int)(S:List AB)(i:Int)(sh:AM)(c:Ac):Stp O1 Vr:=
 bif !pl c then .out (.ret (0,sh,false)) else
 match S with
 | e::S'=>
  bif e.fKey then
   bif !decide (c.fKind=4)||(e.fStarted&&(Ce c.fStr e.fLast||decide (c.fStr=e.fLast))) then .out (.ret (0,sh,false))
   else .next ((⟨e.fPairs,e.fLeft,false,c.fStr,true⟩::S').reverse,i+1,VQ sh c)
  else bif decide (0<c.fN) then
   bif decide (n<c.fN) then .out (.ret (0,Ip S.length sh c,false))
   else .next ((⟨decide (c.fKind=6),c.fN,decide (c.fKind=6),[],false⟩::S).reverse,i+1,Ip S.length sh c)
  else bif decide (Lw S=[]) then .out (.ret (i+1,Ip S.length sh c,true)) else .next ((Lw S).reverse,i+1,Ip S.length sh c)
 | []=>
  bif decide (0<c.fN) then
   bif decide (n<c.fN) then .out (.ret (0,Ip 0 sh c,false))
   else .next ([⟨decide (c.fKind=6),c.fN,decide (c.fKind=6),[],false⟩],i+1,Ip 0 sh c)
  else .out (.ret (i+1,Ip 0 sh c,true))
theorem MA {S:List AB}:decide (((Lw S).reverse.length:Int)=0)=decide (Lw S=[]):=by
 rw[Xt];simp
theorem Wg {α:Type}{xs:List α}{e x:α}{M:Nat}(h:xs.length+1≤M)(hM2:(M+2)*48≤140737488355328):L4 48 ((xs++[e]).length+([x]:List α).length)=true:=by
 refine Xb (Nat.le_trans (Nat.mul_le_mul_right 48 ?_) hM2);rw[Xm,XD,XD];omega
set_option maxHeartbeats 600000 in
theorem OJ {F:Nat}{v:List Ac}{S:List AB}{i:Int}{sh:AM}{c:Ac}(h0:0≤i)(hc:v[i.toNat]? =some c){M:Nat}(hM:M≤1152921504606846976)(hM2:(M+2)*48≤140737488355328)(hv:v.length≤M)(hS:S.length≤M)(hF:M<F)
  (hs:c.fStr.length≤M) (hi:Cj .i64 c.fInt=true) (hb:∀e∈S,1≤e.fLeft∧e.fLeft≤9223372036854775807):DC F v S.reverse i sh=some (PM v.length S i sh c):=by
 have hil:i.toNat<v.length:=(List.getElem?_eq_some_iff.1 hc).1;have hat:Af v i=c:=by simp[Af,hc]
 unfold DC PM;rw[AI (by simp;omega),AZ h0 (by omega),hat,R1 (by omega) (by omega),AW rfl]
 cases hp:pl c with
 | false=>rw[AI (by simp)];rfl
 | true=>
  rw[A3 (by simp)]
  cases S with
  | nil=>
   rw[BP (by simp[imp]),BP (by simp[imp]),A3 (by simp),AP (by simp) (by simp),OH (by omega) hi,AW rfl,BP (by simp[imp,B2])];simp only[B2,ov,Xy,Xs,Xl]
   cases hn:decide (0<c.fN) with
   | true=>
    rw[AI rfl]
    cases hm:decide ((v.length:Int)<c.fN) with
    | true=>rw[AI rfl];simp[Ip]
    | false=>rw[A3 rfl,BP (by simp[L4])];unfold En;rw[AP (by omega) (by omega)];simp[Ip]
   | false=>
    rw[A3 rfl,AW (LX (S:=[]) (by simp;omega) (by simp) (by simp)),AI (by simp[Lw]),AP (by omega) (by omega)];simp[Ip]
  | cons e S'=>
   have hx:S'.reverse.length=S'.length:=by simp
   generalize hxs:S'.reverse=xs at hx;have hr:(e::S').reverse=xs++[e]:=by simp[hxs]
   simp only[Xj] at hS;have hlen:((xs++[e]).length:Int)=(xs.length:Int)+1:=by simp
   rw[hr,BP (by simp only[imp,Ks];rw[Kw (by omega) (by omega)];simp),BP (by simp only[imp,Ks];rw[MU (by omega) (by omega)];simp)];rw[Ks,LM]
   cases hk:e.fKey with
   | true=>
    rw[AI (by simp),AP (by omega) (by omega),AZ (by omega) (by omega)];simp only[hk,Xs,Xl,Xp]
    cases ht : !decide (c.fKind=4)||(e.fStarted&&(Ce c.fStr e.fLast||decide (c.fStr=e.fLast))) with
    | true=>rw[AI rfl];rfl
    | false=>
     rw[A3 rfl,Ka,NC,LM,Ka,NC,LM,Ka,NC,LV (by omega),AW rfl,AP (by unfold KM;omega) (by unfold KM;have:=@List.count_le_length UInt8 _ 34 c.fStr;have:=@List.count_le_length UInt8 _ 92 c.fStr;omega)];unfold En;rw[AP (by omega) (by omega)];simp[VQ,hxs]
   | false=>
    rw[A3 (by simp),hlen,AP (by omega) (by omega),OH (by omega) hi,AW rfl,BP (by simp[imp,B2])];simp only[hk,B2,ov,Xy,Xs,Xl,Xp]
    cases hn:decide (0<c.fN) with
    | true=>
     rw[AI rfl]
     cases hm:decide ((v.length:Int)<c.fN) with
     | true=>rw[AI rfl];simp[Ip,hx]
     | false=>rw[A3 rfl,BP (Wg (by omega) hM2)];unfold En;rw[AP (by omega) (by omega)];simp[Ip,hx,hxs]
    | false=>
     have hcl:=LX (S:=e::S') (F:=F) (by simp;omega) hb (by simp;omega);rw[hr] at hcl;rw[A3 rfl,hcl,AW rfl,MA]
     cases hq:decide (Lw (e::S')=[]) with
     | true=>rw[AI rfl,AP (by omega) (by omega)];simp[Ip,hx]
     | false=>rw[A3 rfl];unfold En;rw[AP (by omega) (by omega)];simp[Ip,hx]
section
variable {S O : Type} {body : S → Option (Stp S O)} {s t u : S} {o : O}
def Eq (body:S→Option (Stp S O))(s t:S):Prop:=∃k,∀n,BW body (n+k) s=BW body n t
def Fin (body:S→Option (Stp S O))(s:S)(o:O):Prop:=∃k,∀n,BW body (n+k) s=some o
theorem Eq.refl (s:S):Eq body s s:=⟨0,λ_=>rfl⟩
theorem Eq.trans (h:Eq body s t)(h':Eq body t u):Eq body s u:=by
 obtain⟨k,hk⟩:=h;obtain⟨j,hj⟩:=h';exact⟨j+k,λn=>by rw[← Nat.add_assoc,hk,hj]⟩
theorem Eq.step (h:body s=some (.next t)):Eq body s t:=⟨1,λn=>by rw[BW,h]⟩
theorem Fin.step (h:body s=some (.out o)):Fin body s o:=⟨1,λn=>by rw[BW,h]⟩
theorem Eq.fin (h:Eq body s t)(h':Fin body t o):Fin body s o:=by
 obtain⟨k,hk⟩:=h;obtain⟨j,hj⟩:=h';exact⟨j+k,λn=>by rw[← Nat.add_assoc,hk,hj]⟩
end
inductive Fo where
 | nil
 | cell (k:Option Aq) (c:Ac) (r:Fo)
 | node (k:Option Aq) (c:Ac) (kids r:Fo)
def BK:Option Aq→List Ac
 | none=>[]
 | some s=>[⟨4,0,s,0⟩]
def Fo.flat:Fo→List Ac
 | .nil=>[]
 | .cell k c r=>BK k++c::r.flat
 | .node k c kids r=>BK k++c::(kids.flat++r.flat)
def Fo.cnt:Fo→Nat
 | .nil=>0
 | .cell _ _ r=>r.cnt+1
 | .node _ _ _ r=>r.cnt+1
def CH (m:Bool)(last:Option Aq):Option Aq→Bool
 | none=>!m
 | some s=>m&&s.all Ua&&(match last with
  | none=>true
  | some p=>!(Ce s p||decide (s=p)))
def Fo.wf:Bool→Option Aq→Fo→Bool
 | _,_,.nil=>true
 | m,last,.cell k c r=>CH m last k&&pl c&&!decide (0<c.fN)&&r.wf m k
 | m,last,.node k c kids r=>CH m last k&&pl c&&decide (0<c.fN)&&decide (c.fN=kids.cnt)&&kids.wf (decide (c.fKind=6)) none&&r.wf m k
def Ll (k:Option Aq)(sh:AM):AM:=match k with
 | none=>sh
 | some s=>VQ sh ⟨4,0,s,0⟩
def Fo.sh (d:Nat):AM→Fo→AM
 | s,.nil=>s
 | s,.cell k c r=>r.sh d (Ip d (Ll k s) c)
 | s,.node k c kids r=>r.sh d (kids.sh (d+1) (Ip d (Ll k s) c))
def Hu (body:O1→Option (Stp O1 Vr))(s:O1)(S:List AB)(i:Int)(sh:AM):Prop:=
 if Lw S=[] then Fin body s (.ret (i,sh,true)) else Eq body s ((Lw S).reverse,i,sh)
theorem Hu.of {body:O1→Option (Stp O1 Vr)}{s t:O1}{S:List AB}{i:Int}{sh:AM}(h:Eq body s t)(h':Hu body t S i sh):Hu body s S i sh:=by
 unfold Hu at *
 split
 ·rename_i e;rw[Xr e] at h';exact h.fin h'
 ·rename_i e;rw[Xn e] at h';exact h.trans h'
theorem Hu.pop {body:O1→Option (Stp O1 Vr)}{s:O1}{e:AB}{S:List AB}{i:Int}{sh:AM}(h:Hu body s (e::S) i sh)(h1:e.fLeft=1):Hu body s S i sh:=by
 have:Lw (e::S)=Lw S:=by simp[Lw,h1]
 unfold Hu at *;rw[this] at h;exact h
theorem Hu.more {body:O1→Option (Stp O1 Vr)}{s:O1}{e:AB}{S:List AB}{i:Int}{sh:AM}(h:Hu body s (e::S) i sh)(h1:1<e.fLeft):Eq body s ((⟨e.fPairs,e.fLeft-1,e.fPairs,e.fLast,e.fStarted⟩::S).reverse,i,sh):=by
 have:Lw (e::S)=⟨e.fPairs,e.fLeft-1,e.fPairs,e.fLast,e.fStarted⟩::S:=by simp[Lw,h1]
 unfold Hu at *;rw[this,Xn (by simp)] at h;exact h
structure Rt (F M:Nat) (v:List Ac):Prop where
 hM:M≤1152921504606846976
 hM2:(M+2)*48≤140737488355328
 hv:v.length≤M
 hF:M<F
 hc:∀c∈v,c.fStr.length≤M∧Cj .i64 c.fInt=true∧c.fN≤9223372036854775807
abbrev Pv (F:Nat)(v:List Ac):O1→Option (Stp O1 Vr):=λσ=>DC F v σ.1 σ.2.1 σ.2.2
def DT (S:List AB):Prop:=∀e∈S,1≤e.fLeft∧e.fLeft≤9223372036854775807
section
variable {F M : Nat} {v : List Ac} {S : List AB} {i : Int} {sh : AM} {c : Ac} {r : List Ac} {e : AB}
theorem Ck (h0:0≤i)(h:v.drop i.toNat=c::r):v[i.toNat]? =some c∧v.drop (i+1).toNat=r∧i<v.length:=by
 have h1:(v.drop i.toNat)[0]? =some c:=by rw[h];rfl
 have h2:v[i.toNat]? =some c:=by simpa using h1
 have h3:=(List.getElem?_eq_some_iff.1 h2).1;refine⟨h2,?_,by omega⟩;rw[show(i+1).toNat=i.toNat+1 from by omega,← List.drop_drop,h];rfl
theorem round (hA:Rt F M v)(h0:0≤i)(h:v.drop i.toNat=c::r)(hS:(S.length:Int)≤i)(hb:DT S):Pv F v (S.reverse,i,sh)=some (PM v.length S i sh c):=by
 obtain⟨h1,_,h3⟩:=Ck h0 h;obtain⟨a,b,_⟩:=hA.hc c (Xk h1);have:=hA.hv;exact OJ h0 h1 hA.hM hA.hM2 hA.hv (by omega) hA.hF a b hb
def Gw (e:AB):Option Aq→AB
 | none=>e
 | some s=>⟨e.fPairs,e.fLeft,false,s,true⟩
def I9 (e:AB):Option Aq→Prop
 | none=>e.fStarted=false
 | some p=>e.fStarted=true∧e.fLast=p
theorem M3 (hA:Rt F M v)(h0:0≤i){k last:Option Aq}(h:v.drop i.toNat=BK k++r)(hS:(S.length:Int)+1≤i)(hb:DT (e::S))(hk:CH e.fKey last k=true)(hl:I9 e last) :
  Eq (Pv F v) ((e::S).reverse,i,sh) ((Gw e k::S).reverse,i+(BK k).length,Ll k sh):=by
 cases k with
 | none=>simpa[Gw,BK,Ll] using Eq.refl _
 | some s=>
  simp only[CH,Xf] at hk;obtain⟨⟨hm,hok⟩,hcmp⟩:=hk;refine Eq.step ?_;rw[round hA h0 (by simpa[BK] using h) (by simpa using hS) hb];have hp:pl ⟨4,0,s,0⟩=true:=by simp[pl,hok]
  have ht:(e.fStarted&&(Ce s e.fLast||decide (s=e.fLast)))=false:=by
   cases last with
   | none=>simp only[I9] at hl;rw[hl];rfl
   | some p=>obtain⟨h1,h2⟩:=hl;rw[h1,h2];simpa using hcmp
  simp only[PM,hp,hm,ht,Xs,Xl,Xp,decide_true,XT,Bool.or_self];rfl
theorem KY {k last:Option Aq}(hk:CH e.fKey last k=true):(Gw e k).fKey=false:=by
 cases k with
 | none=>simpa[Gw,CH] using hk
 | some s=>rfl
theorem JC (k:Option Aq):(Gw e k).fLeft=e.fLeft∧(Gw e k).fPairs=e.fPairs:=by cases k<;>exact⟨rfl,rfl⟩
theorem KW (hA:Rt F M v)(h0:0≤i)(h:v.drop i.toNat=c::r)(hS:(S.length:Int)≤i)(hb:DT S)(hk:KZ S=false)(hp:pl c=true)(hn:decide (0<c.fN)=false) :
  Hu (Pv F v) (S.reverse,i,sh) S (i+1) (Ip S.length sh c):=by
 have hr:=round (sh:=sh) hA h0 h hS hb;unfold Hu
 cases S with
 | nil=>
  rw[Xr (by simp[Lw])];refine Fin.step ?_;rw[hr];simp[PM,hp,hn]
 | cons e S=>
  simp only[KZ] at hk
  split
  ·rename_i hc
   refine Fin.step ?_;rw[hr];simp[PM,hp,hn,hk,hc]
  ·rename_i hc
   refine Eq.step ?_;rw[hr];simp[PM,hp,hn,hk,hc]
theorem IW (hA:Rt F M v)(h0:0≤i)(h:v.drop i.toNat=c::r)(hS:(S.length:Int)≤i)(hb:DT S)(hk:KZ S=false)(hp:pl c=true)(hn:decide (0<c.fN)=true)(hv:c.fN≤v.length) :
  Eq (Pv F v) (S.reverse,i,sh) ((⟨decide (c.fKind=6),c.fN,decide (c.fKind=6),[],false⟩::S).reverse,i+1,Ip S.length sh c):=by
 have hr:=round (sh:=sh) hA h0 h hS hb;have hv':decide ((v.length:Int)<c.fN)=false:=by simpa using hv
 refine Eq.step ?_;rw[hr]
 cases S with
 | nil=>simp only[PM,hp,hn,hv',Xs,Xl,Xp];rfl
 | cons e S=>
  simp only[KZ] at hk;simp only[PM,hp,hn,hv',hk,Xs,Xl,Xp]
theorem CA:∀f:Fo,f.cnt≤f.flat.length
 | .nil=>Xq _
 | .cell k c r=>by have:=CA r;simp[Fo.cnt,Fo.flat];omega
 | .node k c kids r=>by have:=CA r;simp[Fo.cnt,Fo.flat];omega
theorem Dq {α:Type}{v xs r:List α}{i:Int}(h0:0≤i)(h:v.drop i.toNat=xs++r):v.drop (i+xs.length).toNat=r:=by
 rw[show(i+(xs.length:Int)).toNat=i.toNat+xs.length from by omega,← List.drop_drop,h,List.drop_left]
theorem OP (hA:Rt F M v){e':AB}{s:O1}{k:Option Aq}{r':Fo}
  (ih:∀(e:AB) (S:List AB) (i:Int) (sh:AM) (last:Option Aq) (r:List Ac),1≤r'.cnt→r'.wf e.fPairs last=true→e.fKey=e.fPairs→e.fLeft=r'.cnt→I9 e last→(e.fPairs=false→last=none)→v.drop i.toNat=r'.flat++r→0≤i→(S.length:Int)+1≤i→DT S→
   Hu (Pv F v) ((e::S).reverse,i,sh) S (i+r'.flat.length) (r'.sh (S.length+1) sh))
  (hd:Hu (Pv F v) s (e'::S) i sh) (hl:e'.fLeft=r'.cnt+1) (hw:r'.wf e'.fPairs k=true) (hk:I9 e' k) (hm:e'.fPairs=false→k=none) (hv:v.drop i.toNat=r'.flat++r) (h0:0≤i) (hS:(S.length:Int)+1≤i) (hb:DT S) :
  Hu (Pv F v) s S (i+r'.flat.length) (r'.sh (S.length+1) sh):=by
 by_cases h1:r'.cnt=0
 ·cases r' with
  | nil=>simpa[Fo.flat,Fo.sh] using hd.pop (by rw[hl];rfl)
  | cell _ _ _=>simp[Fo.cnt] at h1
  | node _ _ _ _=>simp[Fo.cnt] at h1
 ·have:=hd.more (by omega);refine Hu.of this (ih _ S i sh k r (by omega) hw rfl (by simp only;omega) ?_ hm hv h0 hS hb)
  cases k with
  | none=>exact hk
  | some p=>exact hk
theorem JD {k last:Option Aq}(hl:I9 e last)(hm:e.fPairs=false→last=none)(hk:CH e.fPairs last k=true):I9 (Gw e k) k∧((Gw e k).fPairs=false→k=none):=by
 cases k with
 | none=>
  have:e.fPairs=false:=by simpa[CH] using hk
  rw[hm this] at hl;exact⟨hl,λ_=>rfl⟩
 | some s=>
  refine⟨⟨rfl,rfl⟩,λh=>?_⟩;have h:e.fPairs=false:=h;simp[CH,h] at hk
theorem Lv (hA:Rt F M v):∀(f:Fo) (e:AB) (S:List AB) (i:Int) (sh:AM) (last:Option Aq) (r:List Ac),1≤f.cnt→f.wf e.fPairs last=true→e.fKey=e.fPairs→e.fLeft=f.cnt→I9 e last→(e.fPairs=false→last=none)→v.drop i.toNat=f.flat++r→0≤i→(S.length:Int)+1≤i→DT S→
   Hu (Pv F v) ((e::S).reverse,i,sh) S (i+f.flat.length) (f.sh (S.length+1) sh):=by
 have hmax:∀(i:Int) (xs:List Ac),0≤i→v.drop i.toNat=xs→xs.length≤v.length:=λi xs _ h=>by rw[← h,List.length_drop];omega
 intro f
 induction f with
 | nil=>intro e S i sh last r h1;simp[Fo.cnt] at h1
 | cell k c r' ih=>
  intro e S i sh last r h1 hw hk hl hlo hm hv h0 hS hb;simp only[Fo.wf,Xf,Xz] at hw;obtain⟨⟨⟨w1,w2⟩,w3⟩,w4⟩:=hw;simp only[Fo.flat,Xw,XN] at hv;have hcnt:=hmax i _ h0 hv;have hcf:=CA r';simp only[Xm,Xj] at hcnt;have hvM:=hA.hv;have hMM:=hA.hM;simp only[Fo.cnt] at hl;have hb':DT (e::S):=λx hx=>by
   rcases List.mem_cons.1 hx with rfl | hx
   ·constructor<;>omega
   ·exact hb x hx
  have hkr:=M3 (sh:=sh) hA h0 hv hS hb' (by rw[hk];exact w1) hlo;have hv1:=Dq h0 hv;obtain⟨kl,kp⟩:=JC (e:=e) k;have hbk:DT (Gw e k::S):=λx hx=>by
   rcases List.mem_cons.1 hx with rfl | hx
   ·rw[kl];exact hb' e (by simp)
   ·exact hb x hx
  have hd:=KW (sh:=Ll k sh) hA (by omega) hv1 (by simp only[Xj];omega) hbk (KY (by rw[hk];exact w1)) w2 w3;obtain⟨q1,q2⟩:=JD hlo hm w1;have hv2:=(Ck (by omega) hv1).2.1;have:=OP hA ih (hd.of hkr) (by rw[kl,hl];rfl) (by rw[kp];exact w4) q1 q2 hv2 (by omega) (by omega) hb;simp only[Fo.flat,Fo.sh,Xm,Xj];rw[show i+((((BK k).length+(r'.flat.length+1):Nat)):Int)=i+(BK k).length+1+r'.flat.length from by omega];exact this
 | node k c kids r' ihk ih=>
  intro e S i sh last r h1 hw hk hl hlo hm hv h0 hS hb;simp only[Fo.wf,Xf,Xc] at hw;obtain⟨⟨⟨⟨⟨w1,w2⟩,w3⟩,w5⟩,w6⟩,w4⟩:=hw;simp only[Fo.flat,Xw,XN] at hv;have hcnt:=hmax i _ h0 hv;have hcf:=CA r';have hck:=CA kids;simp only[Xm,Xj] at hcnt;have hvM:=hA.hv;have hMM:=hA.hM;simp only[Fo.cnt] at hl;have hb':DT (e::S):=λx hx=>by
   rcases List.mem_cons.1 hx with rfl | hx
   ·constructor<;>omega
   ·exact hb x hx
  have hkr:=M3 (sh:=sh) hA h0 hv hS hb' (by rw[hk];exact w1) hlo;have hv1:=Dq h0 hv;obtain⟨kl,kp⟩:=JC (e:=e) k;have hbk:DT (Gw e k::S):=λx hx=>by
   rcases List.mem_cons.1 hx with rfl | hx
   ·rw[kl];exact hb' e (by simp)
   ·exact hb x hx
  have hn:=IW (sh:=Ll k sh) hA (by omega) hv1 (by simp only[Xj];omega) hbk (KY (by rw[hk];exact w1)) w2 (by simpa using w3) (by omega);have hv2:=(Ck (by omega) hv1).2.1;have hd:=ihk ⟨decide (c.fKind=6),c.fN,decide (c.fKind=6),[],false⟩ (Gw e k::S) (i+(BK k).length+1) (Ip (S.length+1) (Ll k sh) c) none _ (by omega) w6 rfl w5 rfl (λ_=>rfl) hv2 (by omega) (by simp only[Xj];omega) hbk;obtain⟨q1,q2⟩:=JD hlo hm w1;have hv3:=Dq (by omega) hv2;have:=OP hA ih ((hd.of hn).of hkr) (by rw[kl,hl];rfl) (by rw[kp];exact w4) q1 q2 hv3 (by omega) (by omega) hb;simp only[Fo.flat,Fo.sh,Xm,Xj];rw[show i+((((BK k).length+(kids.flat.length+r'.flat.length+1):Nat)):Int)=i+(BK k).length+1+kids.flat.length+r'.flat.length from by omega];exact this
end
theorem Pu {S O:Type}{body:S→Option (Stp S O)}{o:O}:∀{n:Nat} {s:S} (k:Nat),BW body n s=some o→BW body (n+k) s=some o
 | 0,s,k,h=>by cases h
 | n+1,s,k,h=>by
  rw[show n+1+k=n+k+1 from by omega,BW];rw[BW] at h
  cases hb:body s with
  | none=>rw[hb] at h;cases h
  | some t=>
   rw[hb] at h
   cases t with
   | next s'=>exact Pu k h
   | out o'=>exact h
theorem Fin.eq {S O:Type}{body:S→Option (Stp S O)}{s:S}{o o':O}{n:Nat}(h:Fin body s o)(h':BW body n s=some o'):o'=o:=by
 obtain⟨k,hk⟩:=h;have:=Pu k h';rw[hk n] at this;exact(A2 this).symm
theorem N8:∀{S:List AB},DT S→DT (Lw S)∧(Lw S).length≤S.length
 | [],h=>⟨h,Xq _⟩
 | e::S,h=>by
  have hS:DT S:=λx hx=>h x (by simp[hx]);have he:=h e (by simp);unfold Lw
  cases hd:decide (1<e.fLeft) with
  | true=>
   simp only[Xc] at hd;refine⟨λx hx=>?_,by simp⟩;rcases List.mem_cons.1 hx with rfl | hx
   ·simp only;omega
   ·exact hS x hx
  | false=>
   obtain⟨h1,h2⟩:=N8 hS;exact⟨h1,by simp only[Xl,Xj];omega⟩
theorem T3 {n:Int}{S:List AB}{i:Int}{sh:AM}{c:Ac}{σ:O1}(hb:DT S)(hS:(S.length:Int)≤i)(hN:c.fN≤9223372036854775807)(h:PM n S i sh c = .next σ):∃S' sh',σ=(S'.reverse,i+1,sh')∧DT S'∧(S'.length:Int)≤i+1:=by
 unfold PM at h
 cases hp:pl c with
 | false=>simp[hp] at h
 | true=>
  simp only[hp,Xs,Xl] at h
  cases S with
  | nil=>
   simp only at h
   cases hn:decide (0<c.fN) with
   | false=>simp[hn] at h
   | true=>
    simp only[hn,Xp] at h
    cases hm:decide (n<c.fN) with
    | true=>simp[hm] at h
    | false=>
     simp only[hm,Xl,Stp.next.injEq] at h;refine⟨[_],_,h.symm,λx hx=>?_,by simp at hS ⊢;omega⟩;simp only[Xu] at hx;subst hx;simp only[Xc] at hn;exact⟨by simp only;omega,hN⟩
  | cons e S=>
   have he:=hb e (by simp);have hbS:DT S:=λx hx=>hb x (by simp[hx]);simp only[Xj] at hS
   cases hk:e.fKey with
   | true=>
    simp only[hk,Xp] at h
    cases hq:(!decide (c.fKind=4)||(e.fStarted&&(Ce c.fStr e.fLast||decide (c.fStr=e.fLast)))) with
    | true=>rw[hq] at h;simp at h
    | false=>
     rw[hq] at h;simp only[Xl,Stp.next.injEq] at h;refine⟨_::S,_,h.symm,λx hx=>?_,by simp only[Xj];omega⟩;rcases List.mem_cons.1 hx with rfl | hx
     ·exact he
     ·exact hbS x hx
   | false=>
    simp only[hk,Xl] at h
    cases hn:decide (0<c.fN) with
    | true=>
     simp only[hn,Xp] at h
     cases hm:decide (n<c.fN) with
     | true=>simp[hm] at h
     | false=>
      simp only[hm,Xl,Stp.next.injEq] at h;refine⟨_::e::S,_,h.symm,λx hx=>?_,by simp only[Xj];omega⟩;rcases List.mem_cons.1 hx with rfl | hx
      ·simp only[Xc] at hn;exact⟨by simp only;omega,hN⟩
      ·exact hb x hx
    | false=>
     simp only[hn,Xl] at h
     cases hq:decide (Lw (e::S)=[]) with
     | true=>rw[hq] at h;simp at h
     | false=>
      rw[hq] at h;simp only[Xl,Stp.next.injEq] at h;obtain⟨h1,h2⟩:=N8 hb;simp only[Xj] at h2;exact⟨_,_,h.symm,h1,by omega⟩
theorem Mu {F M:Nat}{v:List Ac}(hA:Rt F M v):∃o,BW (Pv F v) F (([]:List AB),0,(⟨0,0,false,false⟩:AM))=some o∧True:=by
 refine Gi (λσ=>∃S i sh,σ=(S.reverse,i,sh)∧DT S∧(S.length:Int)≤i∧0≤i∧i≤v.length) (λσ=>v.length-σ.2.1.toNat) (λ_=>True) (λσ hI=>?_) F _ ⟨[],0,_,rfl,(λx hx=>by cases hx),Xx _,Xx _,by omega⟩ (by have:=hA.hv;have:=hA.hF;simp;omega);obtain⟨S,i,sh,rfl,hb,hS,h0,hi⟩:=hI
 by_cases hx:i<v.length
 ·obtain⟨c,hc⟩:∃c,v[i.toNat]? =some c:=⟨v[i.toNat]'(by omega),Xg (by omega)⟩
  have hdr:v.drop i.toNat=c::v.drop (i.toNat+1):=by rw[List.drop_eq_getElem_cons (by omega)];congr 1;exact(List.getElem?_eq_some_iff.1 hc).2
  have hr:=round (sh:=sh) hA h0 hdr hS hb
  cases hl:PM v.length S i sh c with
  | next τ=>
   obtain⟨S',sh',rfl,h1,h2⟩:=T3 hb hS (hA.hc c (Xk hc)).2.2 hl;exact .inl ⟨_,by rw[hr,hl],⟨S',i+1,sh',rfl,h1,h2,by omega,by omega⟩,by simp only;omega⟩
  | out o=>exact .inr ⟨o,by rw[hr,hl],trivial⟩
 ·refine .inr ⟨.go sh,?_,trivial⟩;show DC F v S.reverse i sh=_;unfold DC;rw[A3 (by simpa using hx)]
def Fo.one:Fo→Bool
 | .cell none _ .nil=>true
 | .node none _ _ .nil=>true
 | _=>false
def MI:AM:=⟨0,0,false,false⟩
theorem T2 {F M:Nat}{v:List Ac}(hA:Rt F M v){f:Fo}(h1:f.one=true)(hw:f.wf false none=true){r:List Ac}(hv:v=f.flat++r):Fin (Pv F v) ([],0,MI) (.ret (f.flat.length,f.sh 0 MI,true)):=by
 have h0:v.drop (0:Int).toNat=f.flat++r:=by rw[hv];rfl
 have hlen:f.flat.length≤v.length:=by rw[hv];simp
 cases f with
 | nil=>cases h1
 | cell k c r'=>
  cases k with
  | some s=>cases h1
  | none=>
   cases r' with
   | nil=>
    simp only[Fo.wf,Xf,Xz] at hw;have:=KW (S:=[]) (sh:=MI) hA (Xx 0) h0 (by simp) (λx hx=>by cases hx) rfl hw.1.1.2 hw.1.2;unfold Hu at this;rw[Xr (show Lw []=[] from rfl)] at this;simpa[Fo.flat,Fo.sh,BK,Ll] using this
   | cell _ _ _=>cases h1
   | node _ _ _ _=>cases h1
 | node k c kids r'=>
  cases k with
  | some s=>cases h1
  | none=>
   cases r' with
   | nil=>
    simp only[Fo.wf,Xf,Xc] at hw;obtain⟨⟨⟨⟨⟨w1,w2⟩,w3⟩,w5⟩,w6⟩,w4⟩:=hw;have hck:=CA kids;simp only[Fo.flat,BK,XI,XB,Xj] at hlen;have hvM:=hA.hv;have hMM:=hA.hM;have hn:=IW (S:=[]) (sh:=MI) hA (Xx 0) h0 (by simp) (λx hx=>by cases hx) rfl w2 (by simpa using w3) (by omega);have hv2:=(Ck (Xx 0) h0).2.1;have hd:=Lv hA kids ⟨decide (c.fKind=6),c.fN,decide (c.fKind=6),[],false⟩ [] (0+1) (Ip 0 MI c) none r (by omega) w6 rfl w5 rfl (λ_=>rfl) (by rw[hv2];simp[Fo.flat]) (by omega) (by simp) (λx hx=>by cases hx);unfold Hu at hd;rw[Xr (show Lw []=[] from rfl)] at hd;have:=hn.fin hd;have e:((0:Int)+1+kids.flat.length)=((Fo.node none c kids .nil).flat.length:Int):=by simp[Fo.flat,BK];omega
    rw[e] at this;exact this
   | cell _ _ _=>cases h1
   | node _ _ _ _=>cases h1
theorem T1 {F M:Nat}{v:List Ac}(hA:Rt F M v){f:Fo}(h1:f.one=true)(hw:f.wf false none=true){r:List Ac}(hv:v=f.flat++r):JV F v=some ((f.flat.length:Int),f.sh 0 MI,true):=by
 obtain⟨o,ho,_⟩:=Mu hA;have e:=(T2 hA h1 hw hv).eq ho;subst e;unfold JV;rw[AW ho];rfl
def HP (m:Bool)(last:Option Aq)(xs:List Ac):Option (Option Aq×List Ac):=
 bif m then match xs with
  | []=>none
  | c::r=>bif pl c&&decide (c.fKind=4)&&CH true last (some c.fStr) then some (some c.fStr,r) else none
 else some (none,xs)
def HG:Nat→Bool→Option Aq→Nat→List Ac→Option (Fo×List Ac)
 | 0,_,_,_,_=>none
 | _+1,_,_,0,xs=>some (.nil,xs)
 | F+1,m,last,k+1,xs=>
  match HP m last xs with
  | none=>none
  | some (_,[])=>none
  | some (key,c::xs')=>
   bif !pl c then none else
   bif decide (0<c.fN) then
    match HG F (decide (c.fKind=6)) none c.fN.toNat xs' with
    | none=>none
    | some (kids,ys)=>match HG F m key k ys with
     | none=>none
     | some (r,zs)=>some (.node key c kids r,zs)
   else match HG F m key k xs' with
    | none=>none
    | some (r,zs)=>some (.cell key c r,zs)
theorem NZ {c:Ac}(hp:pl c=true)(hk:c.fKind=4):c=⟨4,0,c.fStr,0⟩∧c.fStr.all Ua=true:=by
 cases c
 simp only at hk;subst hk;simp[pl] at hp;obtain⟨h1,h2,h3⟩:=hp;subst h1;subst h2;exact⟨rfl,by simpa using h3⟩
theorem LE {m:Bool}{last key:Option Aq}{xs r:List Ac}(h:HP m last xs=some (key,r)):xs=BK key++r∧CH m last key=true:=by
 unfold HP at h
 cases m with
 | false=>cases h;exact⟨rfl,rfl⟩
 | true=>
  simp only[Xp] at h
  cases xs with
  | nil=>cases h
  | cons c r'=>
   simp only at h
   cases hb:(pl c&&decide (c.fKind=4)&&CH true last (some c.fStr)) with
   | false=>rw[hb] at h;cases h
   | true=>
    rw[hb] at h;simp only[Xf,Xc] at hb
    cases h
    exact⟨by rw[(NZ hb.1.1 hb.1.2).1];rfl,hb.2⟩
theorem Hm:∀(F:Nat) (m:Bool) (last:Option Aq) (k:Nat) (xs:List Ac) (f:Fo) (ys:List Ac),HG F m last k xs=some (f,ys)→xs=f.flat++ys∧f.wf m last=true∧f.cnt=k
 | 0,_,_,_,_,_,_,h=>by cases h
 | F+1,m,last,0,xs,f,ys,h=>by cases h;exact⟨rfl,rfl,rfl⟩
 | F+1,m,last,k+1,xs,f,ys,h=>by
  rw[HG] at h
  cases hk:HP m last xs with
  | none=>rw[hk] at h;cases h
  | some p=>
   obtain⟨key,r⟩:=p;obtain⟨h1,h2⟩:=LE hk;rw[hk] at h
   cases r with
   | nil=>cases h
   | cons c xs'=>
    simp only at h
    cases hp:pl c with
    | false=>rw[hp] at h;cases h
    | true=>
     rw[hp] at h;simp only[Xs,Xl] at h
     cases hn:decide (0<c.fN) with
     | true=>
      rw[hn] at h;simp only[Xp] at h
      cases hq:HG F (decide (c.fKind=6)) none c.fN.toNat xs' with
      | none=>rw[hq] at h;cases h
      | some q=>
       obtain⟨kids,zs⟩:=q;rw[hq] at h;simp only at h
       cases hr:HG F m key k zs with
       | none=>rw[hr] at h;cases h
       | some q2=>
        obtain⟨r2,us⟩:=q2;rw[hr] at h;cases h;obtain⟨a1,a2,a3⟩:=Hm F _ _ _ _ _ _ hq;obtain⟨b1,b2,b3⟩:=Hm F _ _ _ _ _ _ hr;refine⟨by rw[h1,a1,b1];simp[Fo.flat],?_,by simp[Fo.cnt,b3]⟩;simp only[Xc] at hn;simp only[Fo.wf,h2,hp,a2,b2,XP,X7,Xf,Xc];omega
     | false=>
      rw[hn] at h;simp only[Xl] at h
      cases hr:HG F m key k xs' with
      | none=>rw[hr] at h;cases h
      | some q2=>
       obtain⟨r2,us⟩:=q2;rw[hr] at h;cases h;obtain⟨b1,b2,b3⟩:=Hm F _ _ _ _ _ _ hr;exact⟨by rw[h1,b1];simp[Fo.flat],by simp[Fo.wf,h2,hp,b2,hn],by simp[Fo.cnt,b3]⟩
theorem H9:∀(F F':Nat) (m:Bool) (last:Option Aq) (k:Nat) (xs:List Ac),xs.length<F→xs.length<F'→HG F m last k xs=HG F' m last k xs
 | 0,_,_,_,_,_,h,_=>by omega
 | _+1,0,_,_,_,_,_,h=>by omega
 | F+1,F'+1,m,last,0,xs,_,_=>rfl
 | F+1,F'+1,m,last,k+1,xs,h,h'=>by
  rw[HG,HG]
  cases hk:HP m last xs with
  | none=>rfl
  | some p=>
   obtain⟨key,r⟩:=p;obtain⟨h1,h2⟩:=LE hk
   cases r with
   | nil=>rfl
   | cons c xs'=>
    have hl:xs'.length<xs.length:=by rw[h1];simp;omega
    simp only
    cases hp:pl c with
    | false=>rfl
    | true=>
     simp only[Xs,Xl]
     cases hn:decide (0<c.fN) with
     | true=>
      simp only[Xp];rw[H9 F F' _ _ _ xs' (by omega) (by omega)]
      cases hq:HG F' (decide (c.fKind=6)) none c.fN.toNat xs' with
      | none=>rfl
      | some q=>
       obtain⟨kids,zs⟩:=q;have:=(Hm _ _ _ _ _ _ _ hq).1;have hz:zs.length≤xs'.length:=by rw[this];simp
       simp only;rw[H9 F F' m key k zs (by omega) (by omega)]
     | false=>
      simp only[Xl];rw[H9 F F' m key k xs' (by omega) (by omega)]
def QG {S:Type}(body:S→Option (Stp S Vr))(s:S):Prop:=∃sh',Fin body s (.ret (0,sh',false))∨Fin body s (.go sh')
theorem Eq.bad {S:Type}{body:S→Option (Stp S Vr)}{s t:S}(h:Eq body s t)(h':QG body t):QG body s:=by
 obtain⟨sh',h' | h'⟩:=h'
 ·exact⟨sh',.inl (h.fin h')⟩
 ·exact⟨sh',.inr (h.fin h')⟩
section
variable {F M : Nat} {v : List Ac}
theorem QG.end_ {S:List AB}{i:Int}{sh:AM}(h0:0≤i)(h:v.drop i.toNat=[]):QG (Pv F v) (S.reverse,i,sh):=by
 refine⟨sh,.inr (Fin.step ?_)⟩;show DC F v S.reverse i sh=_;unfold DC;rw[A3];have:v.length≤i.toNat:=by simpa using h
 simp;omega
theorem QG.pl_ (hA:Rt F M v){S:List AB}{i:Int}{sh:AM}{c:Ac}{r:List Ac}(h0:0≤i)(h:v.drop i.toNat=c::r)(hS:(S.length:Int)≤i)(hb:DT S)(hp:pl c=false):QG (Pv F v) (S.reverse,i,sh):=by
 refine⟨sh,.inl (Fin.step ?_)⟩;rw[round hA h0 h hS hb];simp[PM,hp]
theorem Q5 (hA:Rt F M v):∀(P:Nat) (k:Nat) (e:AB) (S:List AB) (i:Int) (sh:AM) (last:Option Aq) (xs:List Ac),xs.length<P→HG P e.fPairs last (k+1) xs=none→e.fKey=e.fPairs→e.fLeft=(k:Int)+1→(k:Int)+1≤9223372036854775807→I9 e last→(e.fPairs=false→last=none)→v.drop i.toNat=xs→0≤i→(S.length:Int)+1≤i→DT S→
  QG (Pv F v) ((e::S).reverse,i,sh):=by
 intro P
 induction P with
 | zero=>intro k e S i sh last xs h;omega
 | succ P ih=>
  intro k e S i sh last xs hP hn hk hl hkm hlo hm hv h0 hS hb;have hb':DT (e::S):=λx hx=>by
   rcases List.mem_cons.1 hx with rfl | hx
   ·constructor<;>omega
   ·exact hb x hx
  rw[HG] at hn
  cases hq:HP e.fPairs last xs with
  | none=>
   unfold HP at hq
   cases hpr:e.fPairs with
   | false=>rw[hpr] at hq;cases hq
   | true=>
    rw[hpr] at hq hk;simp only[Xp] at hq
    cases xs with
    | nil=>exact QG.end_ h0 hv
    | cons c r=>
     simp only at hq
     cases hp:pl c with
     | false=>exact QG.pl_ hA h0 hv (by simpa using hS) hb' hp
     | true=>
      refine⟨sh,.inl (Fin.step ?_)⟩;rw[round hA h0 hv (by simpa using hS) hb'];have ht:(!decide (c.fKind=4)||(e.fStarted&&(Ce c.fStr e.fLast||decide (c.fStr=e.fLast))))=true:=by
       rw[hp] at hq
       cases h4:decide (c.fKind=4) with
       | false=>rfl
       | true=>
        rw[h4] at hq;simp only[Bool.and_self,X7] at hq;have hok:=(NZ hp (by simpa using h4)).2
        cases last with
        | none=>simp[CH,hok] at hq
        | some p=>
         obtain⟨q1,q2⟩:=hlo;rw[q1,q2]
         cases hc:(Ce c.fStr p||decide (c.fStr=p)) with
         | true=>rfl
         | false=>simp[CH,hok,hc] at hq
      simp only[PM,hp,hk,ht,Xs,Xl,Xp]
  | some q=>
   obtain⟨key,r⟩:=q;obtain⟨h1,h2⟩:=LE hq;rw[hq] at hn;have hkr:=M3 (sh:=sh) hA h0 (by rw[hv];exact h1) hS hb' (by rw[hk];exact h2) hlo;have hv1:=Dq h0 (hv.trans h1);obtain⟨kl,kp⟩:=JC (e:=e) key;obtain⟨q1,q2⟩:=JD hlo hm h2;have hbk:DT (Gw e key::S):=λx hx=>by
    rcases List.mem_cons.1 hx with rfl | hx
    ·rw[kl];exact hb' e (by simp)
    ·exact hb x hx
   refine hkr.bad ?_
   cases r with
   | nil=>exact QG.end_ (by omega) hv1
   | cons c xs'=>
    have hlen:xs'.length+1≤xs.length:=by rw[h1];simp
    have hvl:xs.length≤v.length:=by rw[← hv,List.length_drop];omega
    have hvM:=hA.hv;have hMM:=hA.hM;have hkk:=KY (e:=e) (last:=last) (k:=key) (by rw[hk];exact h2);simp only at hn;have hSk:(((Gw e key::S).length:Nat):Int)≤i+(BK key).length:=by simp only[Xj];omega
    cases hp:pl c with
    | false=>exact QG.pl_ hA (by omega) hv1 hSk hbk hp
    | true=>
     rw[hp] at hn;simp only[Xs,Xl] at hn;obtain⟨g1,g2,g3⟩:=Ck (by omega) hv1;have hcN:=(hA.hc c (Xk g1)).2.2;have more:∀(s:O1) (j:Int) (sh':AM) (zs:List Ac),Hu (Pv F v) s (Gw e key::S) j sh'→v.drop j.toNat=zs→zs.length<P→0≤j→(S.length:Int)+1≤j→HG P e.fPairs key k zs=none→QG (Pv F v) s:=λs j sh' zs hd hz hzl hj hSj hnone=>by
      cases k with
      | zero=>
       cases P with
       | zero=>omega
       | succ P=>cases hnone
      | succ k=>
       have:=hd.more (by rw[kl];omega);refine this.bad (ih k _ S j sh' key zs hzl (by rw[kp];exact hnone) rfl (by simp only[kl];omega) (by omega) ?_ (by simpa using q2) hz hj hSj hb)
       cases key with
       | none=>exact q1
       | some p=>exact q1
     cases hN:decide (0<c.fN) with
     | true=>
      rw[hN] at hn;simp only[Xp] at hn;simp only[Xc] at hN
      by_cases hbig:c.fN≤v.length
      ·have hnd:=IW (sh:=Ll key sh) hA (by omega) hv1 hSk hbk (by simpa[KZ] using hkk) hp (by simpa using hN) hbig;refine hnd.bad ?_
       cases hks:HG P (decide (c.fKind=6)) none c.fN.toNat xs' with
       | none=>
        obtain⟨n',hn'⟩:∃n',c.fN.toNat=n'+1:=⟨c.fN.toNat-1,by omega⟩
        rw[hn'] at hks;exact ih n' _ _ _ _ none xs' (by omega) hks rfl (by simp only;omega) (by omega) rfl (λ_=>rfl) g2 (by omega) (by simp only[Xj];omega) hbk
       | some q=>
        obtain⟨kids,zs⟩:=q;rw[hks] at hn;simp only at hn;have hn2:HG P e.fPairs key k zs=none:=by
         cases hz:HG P e.fPairs key k zs with
         | none=>rfl
         | some q=>rw[hz] at hn;cases hn
        obtain⟨a1,a2,a3⟩:=Hm _ _ _ _ _ _ _ hks;have hd:=Lv hA kids ⟨decide (c.fKind=6),c.fN,decide (c.fKind=6),[],false⟩ (Gw e key::S) (i+(BK key).length+1) (Ip (S.length+1) (Ll key sh) c) none zs (by omega) a2 rfl (by simp only;omega) rfl (λ_=>rfl) (by rw[g2];exact a1) (by omega) (by simp only[Xj];omega) hbk;have hz:v.drop (i+(BK key).length+1+kids.flat.length).toNat=zs:=Dq (by omega) (g2.trans a1);have hzl:zs.length≤xs'.length:=by rw[a1];simp
        exact more _ _ _ zs hd hz (by omega) (by omega) (by omega) hn2
      ·refine⟨Ip (Gw e key::S).length (Ll key sh) c,.inl (Fin.step ?_)⟩;rw[round hA (by omega) hv1 hSk hbk];have hbig':decide ((v.length:Int)<c.fN)=true:=by simpa using hbig
       simp only[PM,hp,hkk,hbig',hN,Xs,Xl,Xp,decide_true]
     | false=>
      rw[hN] at hn;simp only[Xl] at hn;have hn2:HG P e.fPairs key k xs'=none:=by
       cases hz:HG P e.fPairs key k xs' with
       | none=>rfl
       | some q=>rw[hz] at hn;cases hn
      have hd:=KW (sh:=Ll key sh) hA (by omega) hv1 hSk hbk (by simpa[KZ] using hkk) hp hN;exact more _ _ _ xs' hd g2 (by omega) (by omega) (by omega) hn2
def HB (xs:List Ac):Option (Fo×List Ac):=HG (xs.length+1) false none 1 xs
theorem QR {P:Nat}{xs ys:List Ac}{f:Fo}(h:HG P false none 1 xs=some (f,ys)):f.one=true:=by
 obtain⟨h1,h2,h3⟩:=Hm _ _ _ _ _ _ _ h
 cases f with
 | nil=>cases h3
 | cell k c r=>
  cases r with
  | nil=>
   cases k with
   | none=>rfl
   | some s=>simp[Fo.wf,CH] at h2
  | cell _ _ _=>simp[Fo.cnt] at h3
  | node _ _ _ _=>simp[Fo.cnt] at h3
 | node k c kids r=>
  cases r with
  | nil=>
   cases k with
   | none=>rfl
   | some s=>simp[Fo.wf,CH] at h2
  | cell _ _ _=>simp[Fo.cnt] at h3
  | node _ _ _ _=>simp[Fo.cnt] at h3
theorem Sd (hA:Rt F M v)(h:HB v=none):QG (Pv F v) ([],0,MI):=by
 have hlf:DT []:=λx hx=>by cases hx
 unfold HB at h;rw[HG] at h;simp only[HP,Xl] at h
 cases v with
 | nil=>exact QG.end_ (S:=[]) (Xx 0) rfl
 | cons c xs'=>
  have hv1:(c::xs').drop (0:Int).toNat=c::xs':=rfl;have hvM:=hA.hv;have hMM:=hA.hM;simp only at h
  cases hp:pl c with
  | false=>exact QG.pl_ (S:=[]) hA (Xx 0) hv1 (by simp) hlf hp
  | true=>
   rw[hp] at h;simp only[Xs,Xl] at h;have hcN:=(hA.hc c (by simp)).2.2
   cases hN:decide (0<c.fN) with
   | true=>
    rw[hN] at h;simp only[Xp] at h;simp only[Xc] at hN
    by_cases hbig:c.fN≤(c::xs').length
    ·have hnd:=IW (S:=[]) (sh:=MI) hA (Xx 0) hv1 (by simp) hlf rfl hp (by simpa using hN) hbig;refine hnd.bad ?_
     cases hks:HG (c::xs').length (decide (c.fKind=6)) none c.fN.toNat xs' with
     | none=>
      obtain⟨n',hn'⟩:∃n',c.fN.toNat=n'+1:=⟨c.fN.toNat-1,by omega⟩
      rw[hn'] at hks;exact Q5 hA (c::xs').length n' ⟨decide (c.fKind=6),c.fN,decide (c.fKind=6),[],false⟩ [] (0+1) _ none xs' (by simp) hks rfl (by simp only;omega) (by omega) rfl (λ_=>rfl) rfl (by omega) (by simp) hlf
     | some q=>rw[hks] at h;cases h
    ·refine⟨Ip 0 MI c,.inl (Fin.step ?_)⟩;rw[show Pv F (c::xs') (([]:List AB),0,MI)=_ from round (S:=[]) hA (Xx 0) hv1 (by simp) hlf];have hbig':decide (((c::xs').length:Int)<c.fN)=true:=by simpa using hbig
     simp only[PM,hp,hbig',hN,Xs,Xl,Xp,decide_true]
   | false=>rw[hN] at h;cases h
theorem UI (hA:Rt F M v):(∃f ys,HB v=some (f,ys)∧JV F v=some ((f.flat.length:Int),f.sh 0 MI,true))∨(HB v=none∧∃sh',JV F v=some (0,sh',false)):=by
 cases h:HB v with
 | some q=>
  obtain⟨f,ys⟩:=q;obtain⟨h1,h2,h3⟩:=Hm _ _ _ _ _ _ _ h;exact .inl ⟨f,ys,rfl,T1 hA (QR h) h2 h1⟩
 | none=>
  refine .inr ⟨rfl,?_⟩;obtain⟨o,ho,_⟩:=Mu hA;obtain⟨sh',hb | hb⟩:=Sd hA h
  ·have e:=hb.eq ho;subst e;exact⟨sh',by unfold JV;rw[AW ho];rfl⟩
  ·have e:=hb.eq ho;subst e;exact⟨sh',by unfold JV;rw[AW ho];rfl⟩
end
theorem II {x:Int}(h : -9223372036854775808≤x)(h':x≤9223372036854775807):IntKind.wrap .i64 x=x:=by
 simp only[IntKind.wrap,IntKind.bits,IntKind.signed];simp;omega
def Fo.dep:Fo→Nat
 | .nil=>0
 | .cell _ _ r=>max 1 r.dep
 | .node _ _ kids r=>max (kids.dep+1) r.dep
theorem G9 (k:Option Aq)(s:AM):(Ll k s).fDepth=s.fDepth∧(Ll k s).fOutside=s.fOutside∧(Ll k s).fLong=(s.fLong||(BK k).any λc=>decide (200<(c.fStr.length:Int))):=by
 cases k with
 | none=>simp[Ll,BK]
 | some x=>simp[Ll,VQ,BK]
theorem JY:∀(f:Fo) (d:Nat) (s:AM),(d:Int)≤s.fDepth→(f.sh d s).fDepth=max s.fDepth ((d:Int)+f.dep)
 | .nil,d,s,h=>by simp only[Fo.sh,Fo.dep];omega
 | .cell k c r,d,s,h=>by
  have hk:=(G9 k s).1;have e:(Ip d (Ll k s) c).fDepth=max s.fDepth ((d:Int)+1):=by rw[Ip,hk]
  rw[Fo.sh,JY r d _ (by rw[e];omega),e,Fo.dep];omega
 | .node k c kids r,d,s,h=>by
  have hk:=(G9 k s).1;have e:(Ip d (Ll k s) c).fDepth=max s.fDepth ((d:Int)+1):=by rw[Ip,hk]
  have e2:=JY kids (d+1) (Ip d (Ll k s) c) (by rw[e];omega);rw[e] at e2;rw[Fo.sh,JY r d _ (by rw[e2];omega),e2,Fo.dep];omega
def GX (c:Ac):Bool:=decide (c.fKind=3)&&!(decide ((-1000000000000)≤c.fInt)&&decide (c.fInt≤1000000000000))
def Gv (c:Ac):Bool:=decide (200<(c.fStr.length:Int))
theorem P0 (k:Option Aq):(BK k).any GX=false:=by cases k<;>simp[BK,GX]
theorem NO:∀(f:Fo) (d:Nat) (s:AM),(f.sh d s).fOutside=(s.fOutside||f.flat.any GX)
 | .nil,d,s=>by simp[Fo.sh,Fo.flat]
 | .cell k c r,d,s=>by
  rw[Fo.sh,NO r,Ip,(G9 k s).2.1];simp only[Fo.flat,List.any_append,List.any_cons,P0,X4,Bool.or_assoc];rfl
 | .node k c kids r,d,s=>by
  rw[Fo.sh,NO r,NO kids,Ip,(G9 k s).2.1];simp only[Fo.flat,List.any_append,List.any_cons,P0,X4,Bool.or_assoc];rfl
theorem L9:∀(f:Fo) (d:Nat) (s:AM),(f.sh d s).fLong=(s.fLong||f.flat.any Gv)
 | .nil,d,s=>by simp[Fo.sh,Fo.flat]
 | .cell k c r,d,s=>by
  rw[Fo.sh,L9 r,Ip,(G9 k s).2.2];simp only[Fo.flat,List.any_append,List.any_cons,Bool.or_assoc];rfl
 | .node k c kids r,d,s=>by
  rw[Fo.sh,L9 r,L9 kids,Ip,(G9 k s).2.2];simp only[Fo.flat,List.any_append,List.any_cons,Bool.or_assoc];rfl
def Uc (c:Ac):Int:=
 bif decide (c.fKind=1) then 4 else bif decide (c.fKind=2) then 5-c.fInt else bif decide (c.fKind=3) then((Lib.itoa c.fInt).length:Int) else
 bif decide (c.fKind=4) then KM c.fStr else 2
def Oh:Option Aq→Int
 | none=>0
 | some s=>KM s+1
def Fo.byt:Fo→Int
 | .nil=>0
 | .cell k c r=>Oh k+Uc c+r.byt
 | .node k c kids r=>Oh k+(c.fN+1)+kids.byt+r.byt
theorem Mh (s:Aq):2≤KM s:=by unfold KM;omega
theorem LJ (k:Option Aq):0≤Oh k:=by
 cases k with
 | none=>exact Xx 0
 | some s=>have:=Mh s;simp only[Oh];omega
theorem QZ {c:Ac}(hp:pl c=true):0≤Uc c:=by
 unfold Uc
 cases h1:decide (c.fKind=1) with
 | true=>simp
 | false=>
  cases h2:decide (c.fKind=2) with
  | true=>
   simp[pl,h1,h2] at hp;simp only[Xl,Xp];omega
  | false=>
   cases h3:decide (c.fKind=3) with
   | true=>simp
   | false=>
    cases h4:decide (c.fKind=4) with
    | true=>have:=Mh c.fStr;simp only[Xl,Xp];omega
    | false=>simp
theorem U5 {c:Ac}(hp:pl c=true):0≤c.fN:=by
 simp only[pl,← Bool.decide_or] at hp
 cases h1:decide (c.fKind=1)<;>cases h2:decide (c.fKind=2)<;>cases h3:decide (c.fKind=3)<;>cases h4:decide (c.fKind=4)<;>cases h5:decide (c.fKind=5)<;>cases h6:decide (c.fKind=6)<;>simp[h1,h2,h3,h4,h5,h6] at hp<;>omega
theorem Kj {c:Ac}(hp:pl c=true)(hn:0<c.fN):(c.fKind=5∨c.fKind=6)∧c.fInt=0∧c.fStr=[]:=by
 cases h1:decide (c.fKind=1)<;>cases h2:decide (c.fKind=2)<;>cases h3:decide (c.fKind=3)<;>cases h4:decide (c.fKind=4)<;>cases h5:decide (c.fKind=5)<;>cases h6:decide (c.fKind=6)<;>simp[pl,h1,h2,h3,h4,h5,h6] at hp<;>(simp only[Xc,Xe] at *;first | omega | exact⟨by omega,hp.1,hp.2.1⟩)
theorem SR {c:Ac}(hp:pl c=true)(hn:decide (0<c.fN)=false):V0 c=Uc c:=by
 have hN:=U5 hp;have h0:c.fN=0:=by simp only[Xe] at hn;omega
 unfold V0 Uc;rw[h0]
 cases h1:decide (c.fKind=1) with
 | true=>rfl
 | false=>
  cases h2:decide (c.fKind=2) with
  | true=>
   simp[pl,h1,h2] at hp;simp only[Xl,Xp];exact II (by omega) (by omega)
  | false=>rfl
theorem SQ {c:Ac}(hp:pl c=true)(hn:0<c.fN)(hm:c.fN≤9223372036854775000):V0 c=c.fN+1:=by
 obtain⟨hk,_,_⟩:=Kj hp hn;unfold V0;rw[Xa (by omega),Xa (by omega),Xa (by omega),Xa (by omega)];simp only[Xl];rw[II (x:=c.fN-1) (by omega) (by omega),II (by omega) (by omega)];omega
theorem Ie:∀{f:Fo} {m:Bool} {l:Option Aq},f.wf m l=true→0≤f.byt
 | .nil,_,_,_=>Xx 0
 | .cell k c r,m,l,h=>by
  simp only[Fo.wf,Xf] at h;have h1:=Ie h.2;have h2:=QZ h.1.1.2;have h3:=LJ k;simp only[Fo.byt];omega
 | .node k c kids r,m,l,h=>by
  simp only[Fo.wf,Xf,Xc] at h;have h1:=Ie h.2;have h2:=Ie h.1.2;have h3:=LJ k;simp only[Fo.byt];omega
theorem Nh (k:Option Aq)(s:AM)(h0:0≤s.fBytes)(h:s.fBytes+Oh k≤9223372036854775807):(Ll k s).fBytes=s.fBytes+Oh k:=by
 cases k with
 | none=>simp[Ll,Oh]
 | some x=>
  have:=Mh x;simp only[Oh] at h;simp only[Ll,VQ,Oh];exact II (by omega) (by omega)
theorem JZ:∀(f:Fo) (m:Bool) (l:Option Aq) (d:Nat) (s:AM),f.wf m l=true→0≤s.fBytes→s.fBytes+f.byt≤9223372036854775000→(f.sh d s).fBytes=s.fBytes+f.byt
 | .nil,_,_,d,s,_,_,_=>by simp[Fo.sh,Fo.byt]
 | .cell k c r,m,l,d,s,hw,h0,h=>by
  simp only[Fo.wf,Xf,Xz] at hw;obtain⟨⟨⟨w1,w2⟩,w3⟩,w4⟩:=hw;have h1:=Ie w4;have h2:=QZ w2;have h3:=LJ k;simp only[Fo.byt] at h;have e1:=Nh k s h0 (by omega);have e:(Ip d (Ll k s) c).fBytes=s.fBytes+Oh k+Uc c:=by
   rw[Ip,e1,SR w2 w3];exact II (by omega) (by omega)
  rw[Fo.sh,JZ r _ _ d _ w4 (by rw[e];omega) (by rw[e];omega),e,Fo.byt];omega
 | .node k c kids r,m,l,d,s,hw,h0,h=>by
  simp only[Fo.wf,Xf,Xc] at hw;obtain⟨⟨⟨⟨⟨w1,w2⟩,w3⟩,w5⟩,w6⟩,w4⟩:=hw;have h1:=Ie w4;have h2:=Ie w6;have h3:=LJ k;simp only[Fo.byt] at h;have e1:=Nh k s h0 (by omega);have e:(Ip d (Ll k s) c).fBytes=s.fBytes+Oh k+(c.fN+1):=by
   rw[Ip,e1,SQ w2 w3 (by omega)];exact II (by omega) (by omega)
  have e2:=JZ kids _ _ (d+1) (Ip d (Ll k s) c) w6 (by rw[e];omega) (by rw[e];omega);rw[Fo.sh,JZ r _ _ d _ w4 (by rw[e2,e];omega) (by rw[e2,e];omega),e2,e,Fo.byt];omega
def M7 (s:Aq):Aq:=s.flatMap λc=>bif (decide (c=34)||decide (c=92)) then[92,c] else[c]
def J8 (s:Aq):Aq:=34::(M7 s++[34])
theorem M6:∀s:Aq,(M7 s).length=s.length+s.count 34+s.count 92
 | []=>rfl
 | c::s=>by
  have ih:=M6 s;unfold M7 at ih ⊢;rw[List.flatMap_cons,Xm,ih]
  by_cases h1:c=34
  ·subst h1;simp;omega
  ·by_cases h2:c=92
   ·subst h2;simp;omega
   ·simp[h1,h2,List.count_cons];omega
theorem OX (s:Aq):((J8 s).length:Int)=KM s:=by
 simp only[J8,Xj,Xm,M6,XA,KM];omega
def Kt (c:Ac):Aq:=
 bif decide (c.fKind=1) then[110,117,108,108] else
 bif decide (c.fKind=2) then(bif decide (c.fInt=1) then[116,114,117,101] else[102,97,108,115,101]) else
 bif decide (c.fKind=3) then Lib.itoa c.fInt else
 bif decide (c.fKind=4) then J8 c.fStr else
 bif decide (c.fKind=6) then[123,125] else[91,93]
def MR:Option Aq→Aq
 | none=>[]
 | some s=>J8 s++[58]
def S4 (c:Ac)(s:Aq):Aq:=bif decide (c.fKind=6) then 123::(s++[125]) else 91::(s++[93])
def Hj (first:Bool):Aq:=bif first then[] else[44]
def Fo.txt:Bool→Fo→Aq
 | _,.nil=>[]
 | b,.cell k c r=>Hj b++MR k++Kt c++r.txt false
 | b,.node k c kids r=>Hj b++MR k++S4 c (kids.txt true)++r.txt false
theorem Ra (k:Option Aq):((MR k).length:Int)=Oh k:=by
 cases k with
 | none=>rfl
 | some s=>simp only[MR,Xm,Oh,XD];have:=OX s;omega
theorem Se {c:Ac}(hp:pl c=true):((Kt c).length:Int)=Uc c:=by
  unfold Kt Uc
  cases h1:decide (c.fKind=1) with
  | true=>rfl
  | false=>
    cases h2:decide (c.fKind=2) with
    | true=>
      simp[pl,h1,h2] at hp;simp only[Xl,Xp]
      cases h7:decide (c.fInt=1) with
      | true=>simp only[Xc] at h7;simp[h7]
      | false=>
                 simp only[Xe] at h7;have:c.fInt=0:=by omega
                 simp[this]
    | false=>
      cases h3:decide (c.fKind=3) with
      | true=>rfl
      | false=>
        cases h4:decide (c.fKind=4) with
        | true=>simpa using OX c.fStr
        | false=>cases h6:decide (c.fKind=6)<;>rfl
theorem Oq (c:Ac)(s:Aq):(S4 c s).length=s.length+2:=by
 unfold S4
 cases decide (c.fKind=6)<;>simp
theorem JX:∀(f:Fo) (m:Bool) (l:Option Aq) (b:Bool),f.wf m l=true→((f.txt b).length:Int)=f.byt+(bif b then((f.cnt-1:Nat):Int) else(f.cnt:Int))
 | .nil,m,l,b,_=>by cases b<;>rfl
 | .cell k c r,m,l,b,hw=>by
  simp only[Fo.wf,Xf,Xz] at hw;obtain⟨⟨⟨w1,w2⟩,w3⟩,w4⟩:=hw;have ih:=JX r _ _ false w4;have a:=Ra k;have d:=Se w2;simp only[Xl] at ih
  cases b<;>simp only[Fo.txt,Fo.byt,Fo.cnt,Hj,Xp,Xl,Xm,XA,XD]<;>omega
 | .node k c kids r,m,l,b,hw=>by
  simp only[Fo.wf,Xf,Xc] at hw;obtain⟨⟨⟨⟨⟨w1,w2⟩,w3⟩,w5⟩,w6⟩,w4⟩:=hw;have ih:=JX r _ _ false w4;have ih2:=JX kids _ _ true w6;have a:=Ra k;have d:=Oq c (kids.txt true);simp only[Xl,Xp] at ih ih2
  cases b<;>simp only[Fo.txt,Fo.byt,Fo.cnt,Hj,Xp,Xl,Xm,XA,XD]<;>omega
def Fo.put (k:Option Aq):Fo→Fo→Fo
 | .cell _ c _,r=>.cell k c r
 | .node _ c kids _,r=>.node k c kids r
 | .nil,_=>.nil
theorem Th (P:Nat)(m:Bool)(last:Option Aq)(k:Nat)(xs:List Ac):HG (P+2) m last (k+1) xs =
  match HP m last xs with
  | none=>none
  | some (key,ys)=>match HG (P+2) false none 1 ys with
   | none=>none
   | some (f,zs)=>match HG (P+1) m key k zs with
    | none=>none
    | some (r,us)=>some (f.put key r,us):=by
 rw[HG]
 cases hk:HP m last xs with
 | none=>rfl
 | some p=>
  obtain⟨key,ys⟩:=p;simp only;rw[HG];simp only[HP,Xl]
  cases ys with
  | nil=>rfl
  | cons c ys=>
   simp only
   cases hp:pl c with
   | false=>rfl
   | true=>
    simp only[Xs,Xl]
    cases hn:decide (0<c.fN) with
    | true=>
     simp only[Xp]
     cases hq:HG (P+1) (decide (c.fKind=6)) none c.fN.toNat ys with
     | none=>rfl
     | some q=>
      obtain⟨kids,zs⟩:=q;simp only[HG]
      cases hr:HG (P+1) m key k zs with
      | none=>rfl
      | some q=>obtain⟨a,b⟩:=q;rfl
    | false=>
     simp only[Xl,HG]
     cases hr:HG (P+1) m key k ys with
     | none=>rfl
     | some q=>obtain⟨a,b⟩:=q;rfl
def Mi (m:Bool)(last:Option Aq)(k:Nat)(xs:List Ac):Option (Fo×List Ac):=HG (xs.length+1) m last k xs
theorem KN (m:Bool)(last:Option Aq)(xs:List Ac):Mi m last 0 xs=some (.nil,xs):=rfl
theorem GD (m:Bool)(last:Option Aq)(k:Nat)(xs:List Ac):Mi m last (k+1) xs =
  match HP m last xs with
  | none=>none
  | some (key,ys)=>match HB ys with
   | none=>none
   | some (f,zs)=>match Mi m key k zs with
    | none=>none
    | some (r,us)=>some (f.put key r,us):=by
 unfold Mi HB;rw[H9 (xs.length+1) (xs.length+2) m last (k+1) xs (by omega) (by omega),Th]
 cases hk:HP m last xs with
 | none=>rfl
 | some p=>
  obtain⟨key,ys⟩:=p;have h1:=(LE hk).1;have hy:ys.length≤xs.length:=by rw[h1];simp
  simp only;rw[H9 (xs.length+2) (ys.length+1) false none 1 ys (by omega) (by omega)]
  cases hf:HG (ys.length+1) false none 1 ys with
  | none=>rfl
  | some q=>
   obtain⟨f,zs⟩:=q;have h2:=(Hm _ _ _ _ _ _ _ hf).1;have hz:zs.length≤ys.length:=by rw[h2];simp
   simp only;rw[H9 (xs.length+1) (zs.length+1) m key k zs (by omega) (by omega)]
   all_goals (cases HG (zs.length+1) m key k zs<;>rfl)
theorem Nv {S O:Type}{body:S→Option (Stp S O)}{n:Nat}{s s':S}{o:O}(h:body s=some (.next s'))(h':BW body n s'=some o):BW body (n+1) s=some o:=by rw[BW,h];exact h'
theorem Jv {S O:Type}{body:S→Option (Stp S O)}{n:Nat}{s:S}{o:O}(h:body s=some (.out o)):BW body (n+1) s=some o:=by rw[BW,h]
theorem OZ:HB []=none:=rfl
theorem HA (c:Ac)(r:List Ac):HB (c::r)=bif !pl c then none else bif decide (0<c.fN) then(match Mi (decide (c.fKind=6)) none c.fN.toNat r with
  | none=>none
  | some (kids,zs)=>some (.node none c kids .nil,zs)) else some (.cell none c .nil,r):=by
 unfold HB;rw[HG];simp only[HP,Xl]
 cases hp:pl c with
 | false=>rfl
 | true=>
  simp only[Xs,Xl]
  cases hn:decide (0<c.fN) with
  | true=>
   simp only[Xp];unfold Mi;rw[Xj]
   cases hq:HG (r.length+1) (decide (c.fKind=6)) none c.fN.toNat r with
   | none=>rfl
   | some q=>obtain⟨kids,zs⟩:=q;rfl
  | false=>rfl
theorem OY {f:Fo}(h:f.one=true)(key:Option Aq)(r:Fo):(f.put key r).flat=BK key++(f.flat++r.flat):=by
 cases f with
 | nil=>cases h
 | cell k c r'=>
  cases k with
  | some s=>cases h
  | none=>cases r' with
   | nil=>simp[Fo.put,Fo.flat,BK]
   | cell _ _ _=>cases h
   | node _ _ _ _=>cases h
 | node k c kids r'=>
  cases k with
  | some s=>cases h
  | none=>cases r' with
   | nil=>simp[Fo.put,Fo.flat,BK]
   | cell _ _ _=>cases h
   | node _ _ _ _=>cases h
theorem Tk {f:Fo}(h:f.one=true):1≤f.flat.length:=by
 cases f with
 | nil=>cases h
 | cell k c r'=>simp[Fo.flat];omega
 | node k c kids r'=>simp[Fo.flat];omega
theorem IQ {xs ys:List Ac}{f:Fo}(h:HB xs=some (f,ys)):xs=f.flat++ys∧f.wf false none=true∧f.one=true:=
 ⟨(Hm _ _ _ _ _ _ _ h).1,(Hm _ _ _ _ _ _ _ h).2.1,QR h⟩
def Ij (v:List Ac)(i:Int):Int:=match HB (v.drop i.toNat) with
 | none=>-1
 | some (f,_)=>i+f.flat.length
def Kl (m:Bool)(last:Option Aq)(v:List Ac)(i:Int)(k:Nat):Int:=match Mi m last k (v.drop i.toNat) with
 | none=>-1
 | some (f,_)=>i+f.flat.length
theorem Nr {v:List Ac}{i:Int}(h0:0≤i)(h1:i≤v.length):Ij v i = -1∨(i<Ij v i∧Ij v i≤v.length):=by
 unfold Ij
 cases h:HB (v.drop i.toNat) with
 | none=>exact .inl rfl
 | some q=>
  obtain⟨f,ys⟩:=q;obtain⟨h2,_,h3⟩:=IQ h;have:=Tk h3;have hl:(v.drop i.toNat).length=f.flat.length+ys.length:=by rw[h2];simp
  rw[List.length_drop] at hl
  right;simp only;omega
structure Wr (F M:Nat) (v:List Ac):Prop where
 hM:M≤1152921504606846976
 hv:v.length≤M
 hF:M<F
 hc:∀c∈v,c.fStr.length≤M
theorem RH (ok:Bool){i:Int}(h0:0≤i)(h1:i≤1152921504606846976):B7 ok i=some (bif ok then i+1 else -1):=by
 unfold B7
 cases ok
 ·rfl
 ·rw[AI rfl,AP (by omega) (by omega)];rfl
theorem QO {F:Nat}{c:Ac}(hF:c.fStr.length<F)(hs:c.fStr.length≤1152921504606846976):MO F c=some (decide (c.fKind=4)&&pl c):=by
 unfold MO;rw[R9 hF (by omega)];simp only[Option.isSome_some,ov,Xy,imp,XO,Br,Xp]
 cases h4:decide (c.fKind=4) with
 | false=>rfl
 | true=>
  simp only[Xc] at h4;simp[pl,h4]
theorem Dl {v:List Ac}{i:Int}{c:Ac}{r:List Ac}(h0:0≤i)(h:v.drop i.toNat=c::r):Af v i=c:=by
 have:=(Ck h0 h).1;simp[Af,this]
section
variable {M : Nat} {v : List Ac}
theorem Jr {F:Nat}(hA:Wr F M v){g:List Ac→Int→Option Int}{n:Int}(hn:n≤9223372036854775807):∀(L:Nat) (i x:Int),0≤i→i≤v.length→0≤x→x≤n→(∀j,i≤j→j≤v.length→g v j=some (Ij v j))→v.length-i.toNat<L→
  ∃o,BW (λσ=>CI v n g σ.1 σ.2) L (i,x)=some o∧Cf (λν=>Ea ν) o=some (Kl false none v i (n-x).toNat)
 | 0,i,x,_,_,_,_,_,h=>by omega
 | L+1,i,x,h0,h1,hx,hxn,hg,hL=>by
  cases hxl:decide (x<n) with
  | false=>
   refine⟨.go i,Jv (by show CI v n g i x=_;unfold CI;rw[A3 hxl]),?_⟩;simp only[Xe] at hxl;rw[show(n-x).toNat=0 from by omega];simp[Cf,Ea,Kl,KN,Fo.flat]
  | true=>
   have hb:CI v n g i x=Bq (decide (Ij v i<0)) (some (.out (.ret (-1)))) (Br (Cj .i64 (x+1))<|some (.next (Ij v i,x+1))):=by unfold CI;rw[AI hxl,hg i (Xx i) h1,AW rfl]
   simp only[Xc] at hxl;obtain⟨k,hk⟩:∃k,(n-x).toNat=k+1:=⟨(n-x).toNat-1,by omega⟩
   rw[hk];have e:Kl false none v i (k+1)=bif decide (Ij v i<0) then -1 else Kl false none v (Ij v i) k:=by
    unfold Kl;rw[GD];simp only[HP,Xl]
    cases hp:HB (v.drop i.toNat) with
    | none=>simp[Ij,hp]
    | some q=>
     obtain⟨f,ys⟩:=q;obtain⟨q1,q2,q3⟩:=IQ hp;have hi:Ij v i=i+f.flat.length:=by simp[Ij,hp]
     have hd:v.drop (Ij v i).toNat=ys:=by rw[hi];exact Dq h0 q1
     rw[hd,Xa (by omega)];simp only[Xl]
     cases hr:Mi false none k ys with
     | none=>rfl
     | some q=>
      obtain⟨r,zs⟩:=q;simp only[OY q3,BK,XI,Xm,hi];omega
   rw[e];rcases Nr (v:=v) h0 h1 with hneg | ⟨hlt,hle⟩
   ·exact⟨.ret (-1),Jv (hb.trans (by rw[hneg,AI (by decide)])),by rw[hneg];rfl⟩
   ·have hM:=hA.hM;have hvM:=hA.hv;obtain⟨o,ho1,ho2⟩:=Jr hA hn L (Ij v i) (x+1) (by omega) hle (by omega) (by omega) (λj hj=>hg j (by omega)) (by omega);exact⟨o,Nv (hb.trans (by rw[A3 (Xa (by omega)),AP (by omega) (by omega)])) ho1,by rw[ho2,show(n-(x+1)).toNat=k from by omega,Xa (by omega)];rfl⟩
theorem Md {F:Nat}(hA:Wr F M v){g:List Ac→Int→Option Int}{n:Int}(hn:n≤9223372036854775807):∀(L:Nat) (i x:Int) (last:Aq),0≤i→i≤v.length→0≤x→x≤n→(∀j,i≤j→j≤v.length→g v j=some (Ij v j))→v.length-i.toNat<L→
  ∃o,BW (λσ=>Do F v n g σ.1 σ.2.1 σ.2.2) L (i,last,x)=some o∧Cf (λν=>GB ν) o=some (Kl true (bif decide (0<x) then some last else none) v i (n-x).toNat)
 | 0,i,x,_,_,_,_,_,_,h=>by omega
 | L+1,i,x,last,h0,h1,hx,hxn,hg,hL=>by
  have hM:=hA.hM;have hvM:=hA.hv;have hMF:=hA.hF
  cases hxl:decide (x<n) with
  | false=>
   refine⟨.go i,Jv (by show Do F v n g i last x=_;unfold Do;rw[A3 hxl]),?_⟩;simp only[Xe] at hxl;rw[show(n-x).toNat=0 from by omega];simp[Cf,GB,Kl,KN,Fo.flat]
  | true=>
   have hxl':=hxl;simp only[Xc] at hxl;obtain⟨k,hk⟩:∃k,(n-x).toNat=k+1:=⟨(n-x).toNat-1,by omega⟩
   rw[hk]
   cases hd:v.drop i.toNat with
   | nil=>
    have hl:v.length≤i.toNat:=by simpa using hd
    refine⟨.ret (-1),Jv (by
     show Do F v n g i last x=_;unfold Do;rw[AI hxl',BP (by simp[imp,show(v.length:Int)≤i from by omega]),BP (by simp[imp,show(v.length:Int)≤i from by omega]),AI (by simp[show(v.length:Int)≤i from by omega])]),?_⟩
    simp[Cf,Kl,hd,GD,HP]
   | cons c r=>
    obtain⟨g1,g2,g3⟩:=Ck h0 hd;have hcM:=hA.hc c (Xk g1);have hat:=Dl h0 hd;have hnl:decide ((v.length:Int)≤i)=false:=by simp;omega
    have hb:Do F v n g i last x=Bq (!(decide (c.fKind=4)&&pl c)||decide (0<x)&&(Ce c.fStr last||decide (c.fStr=last))) (some (.out (.ret (-1)))) (Bt (g v (i+1)) λha=>Bq (decide (ha<0)) (some (.out (.ret (-1)))) (Br (Cj .i64 (x+1))<|some (.next (ha,c.fStr,x+1)))):=by
     unfold Do;rw[AI hxl',BP (by simp only[imp];rw[MU h0 g3];simp),hat,QO (by omega) (by omega),BP (by simp[imp])];simp only[hnl,ov,Xy,X4];rw[AZ h0 g3,AP (by omega) (by omega)]
    have hpk:HP true (bif decide (0<x) then some last else none) (c::r)=bif (!(decide (c.fKind=4)&&pl c)||decide (0<x)&&(Ce c.fStr last||decide (c.fStr=last))) then none else some (some c.fStr,r):=by
     simp only[HP,Xp]
     cases h4:decide (c.fKind=4) with
     | false=>simp
     | true=>
      cases hp:pl c with
      | false=>simp
      | true=>
       have hok:=(NZ hp (by simpa using h4)).2
       cases h0x:decide (0<x) with
       | false=>simp[CH,hok]
       | true=>cases hs:(Ce c.fStr last||decide (c.fStr=last))<;>simp[CH,hok,hs]
    cases ht:(!(decide (c.fKind=4)&&pl c)||decide (0<x)&&(Ce c.fStr last||decide (c.fStr=last))) with
    | true=>
     rw[ht] at hpk;refine⟨.ret (-1),Jv (hb.trans (AI ht)),?_⟩;simp only[Kl,hd,GD,hpk,Xp];rfl
    | false=>
     rw[ht] at hpk;rw[A3 ht,hg (i+1) (by omega) (by omega),AW rfl] at hb;have e:Kl true (bif decide (0<x) then some last else none) v i (k+1)=bif decide (Ij v (i+1)<0) then -1 else Kl true (some c.fStr) v (Ij v (i+1)) k:=by
      unfold Kl;rw[hd,GD,hpk];simp only[Xl];have hx:Ij v (i+1)=match HB r with | none=>-1 | some (f,_)=>i+1+f.flat.length:=by unfold Ij;rw[g2]
      cases hp:HB r with
      | none=>rw[hp] at hx;simp[hx]
      | some q=>
       obtain⟨f,ys⟩:=q;obtain⟨q1,q2,q3⟩:=IQ hp;rw[hp] at hx;simp only at hx;have hd2:v.drop (Ij v (i+1)).toNat=ys:=by rw[hx];exact Dq (by omega) (g2.trans q1)
       rw[hd2,Xa (by omega)];simp only[Xl]
       cases hr:Mi true (some c.fStr) k ys with
       | none=>rfl
       | some q=>
        obtain⟨r',zs⟩:=q;simp only[OY q3,BK,Xm,Xj,XA,hx];omega
     rw[e];rcases Nr (v:=v) (i:=i+1) (by omega) (by omega) with hneg | ⟨hlt,hle⟩
     ·exact⟨.ret (-1),Jv (hb.trans (by rw[hneg,AI (by decide)])),by rw[hneg];rfl⟩
     ·obtain⟨o,ho1,ho2⟩:=Md hA hn L (Ij v (i+1)) (x+1) c.fStr (by omega) hle (by omega) (by omega) (λj hj=>hg j (by omega)) (by omega);exact⟨o,Nv (hb.trans (by rw[A3 (Xa (by omega)),AP (by omega) (by omega)])) ho1,by rw[ho2,show(n-(x+1)).toNat=k from by omega,Xb (show(0:Int)<x+1 from by omega),Xa (by omega)];rfl⟩
theorem Ph {i:Int}{c:Ac}{r:List Ac}(h0:0≤i)(hd:v.drop i.toNat=c::r)(hp:pl c=true):Ij v i=Kl (decide (c.fKind=6)) none v (i+1) c.fN.toNat:=by
 have g2:=(Ck h0 hd).2.1;have hN:=U5 hp;unfold Ij Kl;rw[hd,HA,g2,hp];simp only[Xs,Xl]
 cases hn:decide (0<c.fN) with
 | true=>
  simp only[Xp]
  cases hq:Mi (decide (c.fKind=6)) none c.fN.toNat r with
  | none=>rfl
  | some q=>
   obtain⟨kids,zs⟩:=q;simp only[Fo.flat,BK,XI,Xj,XB];omega
 | false=>
  simp only[Xe] at hn;rw[show c.fN.toNat=0 from by omega,KN];simp[Fo.flat,BK]
theorem OT (hA:Wr (M+1) M v)(hN:∀c∈v,c.fN≤9223372036854775807):∀(d F:Nat) (i:Int),0≤i→i≤v.length→v.length-i.toNat=d→M+2*d+3<F→Ds F v i=some (Ij v i):=by
 have hM:=hA.hM;have hvM:=hA.hv;intro d
 induction d using Nat.strongRecOn with
 | ind d ih=>
  intro F i h0 h1 hd hF;obtain⟨F,rfl⟩:∃G,F=G+1:=⟨F-1,by omega⟩
  obtain⟨F,rfl⟩:∃G,F=G+1:=⟨F-1,by omega⟩
  rw[Ds];unfold NU
  cases hdr:v.drop i.toNat with
  | nil=>
   have hl:v.length≤i.toNat:=by simpa using hdr
   rw[AI (by simp;omega)];simp[Ij,hdr,OZ]
  | cons c r=>
   obtain⟨g1,g2,g3⟩:=Ck h0 hdr;have hcM:=hA.hc c (Xk g1);have hcN:=hN c (Xk g1);rw[A3 (by simp;omega),AZ h0 g3,Dl h0 hdr];simp only[RH _ h0 (show i≤1152921504606846976 by omega),Option.isSome_some,ov,Xy,imp,XO,BP (x:=_) (rfl:true=true)];have hg:∀j,i+1≤j→j≤v.length→Ds F v j=some (Ij v j):=λj hj hj2=>ih (v.length-j.toNat) (by omega) F j (by omega) hj2 rfl (by omega);have hpl0:pl c=false→Ij v i = -1:=λhp=>by simp[Ij,hdr,HA,hp]
   have hleaf:pl c=true→c.fN=0→Ij v i=i+1:=λhp h0'=>by simp[Ij,hdr,HA,hp,h0',Fo.flat,BK]
   have hscal:∀b:Bool,pl c=b→(b=true→c.fN=0)→Ij v i=bif b then i+1 else -1:=λb hb hz=>by
    cases b
    ·exact hpl0 hb
    ·exact hleaf hb (hz rfl)
   by_cases k1:c.fKind=1
   ·rw[AI (by simp[k1])];have hp:pl c=(decide (c.fInt=0)&&(decide (c.fStr=[])&&decide (c.fN=0))):=by simp[pl,k1]
    rw[hscal _ hp (λh=>by simp at h;exact h.2.2)]
    cases decide (c.fInt=0)<;>cases decide (c.fStr=[])<;>cases decide (c.fN=0)<;>rfl
   rw[A3 (by simp[k1])]
   by_cases k2:c.fKind=2
   ·rw[AI (by simp[k2])];have hp:pl c=((decide (c.fInt=0)||decide (c.fInt=1))&&(decide (c.fStr=[])&&decide (c.fN=0))):=by simp[pl,k2]
    rw[hscal _ hp (λh=>by simp at h;exact h.2.2)]
    cases decide (c.fInt=0)<;>cases decide (c.fInt=1)<;>cases decide (c.fStr=[])<;>cases decide (c.fN=0)<;>rfl
   rw[A3 (by simp[k2])]
   by_cases k3:c.fKind=3
   ·rw[AI (by simp[k3])];have hp:pl c=(decide (c.fStr=[])&&decide (c.fN=0)):=by simp[pl,k3]
    rw[hscal _ hp (λh=>by simp at h;exact h.2)]
    cases decide (c.fStr=[])<;>cases decide (c.fN=0)<;>rfl
   rw[A3 (by simp[k3])]
   by_cases k4:c.fKind=4
   ·rw[AI (by simp[k4]),QO (by omega) (by omega),AW rfl,AW rfl];rw[Xb k4,X7,hscal (pl c) rfl (λhp=>by have:=(NZ hp k4).1;rw[this])]
   rw[A3 (by simp[k4])]
   by_cases k5:c.fKind=5
   ·have hp:pl c=(decide (c.fInt=0)&&(decide (c.fStr=[])&&decide (0≤c.fN))):=by simp[pl,k5]
    rw[show(decide (c.fKind=5)&&(decide (c.fInt=0)&&(decide (c.fStr=[])&&decide (0≤c.fN))))=pl c from by rw[hp,Xb k5,X7]];have k5' : ¬ c.fKind=6:=by omega
    cases hb:pl c with
    | false=>rw[A3 rfl,A3 (by simp[k5]),hpl0 hb]
    | true=>
     have hn0:=U5 hb;rw[AI rfl,AP (by omega) (by omega),GC];unfold HN;obtain⟨o,ho1,ho2⟩:=Jr (F:=F) ⟨hM,hvM,by omega,hA.hc⟩ hcN F (i+1) 0 (by omega) (by omega) (Xx 0) hn0 hg (by omega);rw[AW ho1,ho2,AW rfl,Ph h0 hdr hb,Xa k5',Int.sub_zero]
   rw[A3 (by simp[k5])]
   by_cases k6:c.fKind=6
   ·have hp:pl c=(decide (c.fInt=0)&&(decide (c.fStr=[])&&decide (0≤c.fN))):=by simp[pl,k6]
    rw[show(decide (c.fKind=6)&&(decide (c.fInt=0)&&(decide (c.fStr=[])&&decide (0≤c.fN))))=pl c from by rw[hp,Xb k6,X7]]
    cases hb:pl c with
    | false=>rw[A3 rfl,hpl0 hb]
    | true=>
     have hn0:=U5 hb;rw[AI rfl,AP (by omega) (by omega),KI];unfold LC;obtain⟨o,ho1,ho2⟩:=Md (F:=F) ⟨hM,hvM,by omega,hA.hc⟩ hcN F (i+1) 0 [] (by omega) (by omega) (Xx 0) hn0 hg (by omega);rw[AW ho1,ho2,AW rfl,Ph h0 hdr hb,Xb k6,Int.sub_zero];rfl
   ·rw[A3 (by simp[k6]),hpl0 (by simp[pl,k1,k2,k3,k4,k5,k6])]
theorem Qg (hA:Wr (M+1) M v)(hN:∀c∈v,c.fN≤9223372036854775807){F:Nat}(hF:3*M+3<F):Kg F v=some (decide (Ij v 0=v.length)):=by
 have hvM:=hA.hv;unfold Kg;rw[OT hA hN v.length F 0 (Xx 0) (by omega) (by simp) (by omega)];simp only[imp,Option.isSome_some,XO,BP,ov,Xy]
 cases v with
 | nil=>simp[Ij,OZ]
 | cons c r=>
  rw[show decide (0<((c::r).length:Int))=true from by simp,X7]
  first | done | rfl
end
theorem QS {m:Bool}{last key:Option Aq}{r:List Ac}(h:CH m last key=true):HP m last (BK key++r)=some (key,r):=by
 cases key with
 | none=>
  have:m=false:=by simpa[CH] using h
  subst this;rfl
 | some s=>
  have h':=h;simp only[CH,Xf] at h;obtain⟨⟨h1,h2⟩,h3⟩:=h;subst h1;have hp:pl ⟨4,0,s,0⟩=true:=by simp[pl,h2]
  show(bif pl ⟨4,0,s,0⟩&&decide ((4:Int)=4)&&CH true last (some s) then _ else _)=_;rw[hp,h'];rfl
theorem LF:∀(f:Fo) (m:Bool) (last:Option Aq) (ys:List Ac),f.wf m last=true→Mi m last f.cnt (f.flat++ys)=some (f,ys)
 | .nil,_,_,_,_=>rfl
 | .cell k c r,m,last,ys,hw=>by
  simp only[Fo.wf,Xf,Xz] at hw;obtain⟨⟨⟨w1,w2⟩,w3⟩,w4⟩:=hw;simp only[Fo.cnt,Fo.flat,Xw,XN];rw[GD,QS w1];simp only[HA,w2,w3,Xs,Xl,LF r m k ys w4,Fo.put]
 | .node k c kids r,m,last,ys,hw=>by
  simp only[Fo.wf,Xf,Xc] at hw;obtain⟨⟨⟨⟨⟨w1,w2⟩,w3⟩,w5⟩,w6⟩,w4⟩:=hw;simp only[Fo.cnt,Fo.flat,Xw,XN];rw[GD,QS w1];have e:c.fN.toNat=kids.cnt:=by omega
  simp only[HA,w2,Xb w3,Xs,Xl,Xp,e,LF kids _ none (r.flat++ys) w6,LF r m k ys w4,Fo.put]
theorem QT {f:Fo}{ys:List Ac}(h1:f.one=true)(hw:f.wf false none=true):HB (f.flat++ys)=some (f,ys):=by
 have:=LF f false none ys hw;have hc:f.cnt=1:=by
  cases f with
  | nil=>cases h1
  | cell k c r=>cases k with
   | some _=>cases h1
   | none=>cases r with
    | nil=>rfl
    | _=>cases h1
  | node k c kids r=>cases k with
   | some _=>cases h1
   | none=>cases r with
    | nil=>rfl
    | _=>cases h1
 rw[hc] at this;exact this
structure JM (M:Nat) (v:List Ac):Prop where
 hM:M≤1000000000
 hv:v.length≤M
 hc:∀c∈v,c.fStr.length≤M∧Cj .i64 c.fInt=true∧c.fN≤9223372036854775807
theorem JM.lk {M F:Nat}{v:List Ac}(h:JM M v)(hF:M<F):Rt F M v:=⟨by have:=h.hM;omega,by have:=h.hM;omega,h.hv,hF,h.hc⟩
theorem JM.rf {M F:Nat}{v:List Ac}(h:JM M v)(hF:M<F):Wr F M v:=⟨by have:=h.hM;omega,h.hv,hF,λc hc=>(h.hc c hc).1⟩
theorem JM.drop {M:Nat}{v:List Ac}(h:JM M v)(k:Nat):JM M (v.drop k):=⟨h.hM,by have:=h.hv;rw[List.length_drop];omega,λc hc=>h.hc c (List.mem_of_mem_drop hc)⟩
theorem JM.take {M:Nat}{v:List Ac}(h:JM M v)(k:Nat):JM M (v.take k):=⟨h.hM,by have:=h.hv;rw[List.length_take];omega,λc hc=>h.hc c (List.mem_of_mem_take hc)⟩
def whole (v:List Ac):Option Fo:=match HB v with
 | some (f,[])=>some f
 | _=>none
theorem LT {v:List Ac}{f:Fo}(h:whole v=some f):v=f.flat∧f.wf false none=true∧f.one=true:=by
 unfold whole at h
 cases hp:HB v with
 | none=>rw[hp] at h;cases h
 | some q=>
  obtain⟨g,ys⟩:=q;rw[hp] at h
  cases ys with
  | cons _ _=>cases h
  | nil=>
   cases h
   obtain⟨h1,h2,h3⟩:=IQ hp;exact⟨by simpa using h1,h2,h3⟩
theorem SK {f:Fo}(h1:f.one=true)(hw:f.wf false none=true):whole f.flat=some f:=by
 have:=QT (ys:=[]) h1 hw;rw[XB] at this;simp[whole,this]
def Q6 (f:Fo):Int:=
 bif f.flat.any GX then 2 else bif f.flat.any Gv||(decide (200<f.flat.length)||(decide (8<f.dep)||decide (4000<(f.txt true).length))) then 3 else 0
def Gf (v:List Ac):Int:=match whole v with
 | none=>1
 | some f=>Q6 f
theorem QV {f:Fo}(h1:f.one=true):f.cnt=1:=by
 cases f with
 | nil=>cases h1
 | cell k c r=>cases k with
  | some _=>cases h1
  | none=>cases r with
   | nil=>rfl
   | _=>cases h1
 | node k c kids r=>cases k with
  | some _=>cases h1
  | none=>cases r with
   | nil=>rfl
   | _=>cases h1
theorem NY (s:Aq):KM s≤2*s.length+2+s.length:=by
 have h1:s.count 34≤s.length:=List.count_le_length;have h2:s.count 92≤s.length:=List.count_le_length;unfold KM;omega
theorem V8 {c:Ac}{M:Nat}(hp:pl c=true)(hs:c.fStr.length≤M)(hi:(Lib.itoa c.fInt).length≤21):Uc c≤3*M+21:=by
 have:=NY c.fStr;unfold Uc
 cases h1:decide (c.fKind=1) with
 | true=>simp only[Xp];omega
 | false=>
  cases h2:decide (c.fKind=2) with
  | true=>
   simp[pl,h1,h2] at hp;simp only[Xl,Xp];omega
  | false=>
   cases h3:decide (c.fKind=3) with
   | true=>simp only[Xl,Xp];omega
   | false=>cases h4:decide (c.fKind=4)<;>simp only[Xl,Xp]<;>omega
theorem On {M:Nat}:∀{f:Fo} {m:Bool} {l:Option Aq},f.wf m l=true→(∀c∈f.flat,c.fStr.length≤M∧Cj .i64 c.fInt=true∧c.fN≤9223372036854775807)→f.byt+f.cnt≤(3*M+24)*f.flat.length
 | .nil,_,_,_,_=>by simp[Fo.byt,Fo.flat,Fo.cnt]
 | .cell k c r,m,l,hw,hc=>by
  simp only[Fo.wf,Xf,Xz] at hw;obtain⟨⟨⟨w1,w2⟩,w3⟩,w4⟩:=hw;simp only[Fo.flat] at hc;have ih:=On w4 (λx hx=>hc x (by simp[hx]));obtain⟨c1,c2,c3⟩:=hc c (by simp);have i64:=Ic c2;have hl:=V8 w2 c1 (Lib.itoa_length_le c.fInt i64.1 i64.2);have hk:Oh k≤(3*M+24)*(BK k).length:=by
   cases k with
   | none=>simp[Oh,BK]
   | some s=>
    have:=(hc ⟨4,0,s,0⟩ (by simp[BK])).1;have h2:=NY s;simp only at this;simp only[Oh,BK,XD];omega
  simp only[Fo.byt,Fo.flat,Fo.cnt,Xm,Xj];have e:((3*(M:Int)+24)*(((BK k).length+(r.flat.length+1):Nat):Int))=(3*(M:Int)+24)*(BK k).length+((3*(M:Int)+24)*r.flat.length+(3*(M:Int)+24)):=by
   push_cast;rw[Int.mul_add,Int.mul_add,Int.mul_one]
  rw[e]
  push_cast at *
  omega
 | .node k c kids r,m,l,hw,hc=>by
  simp only[Fo.wf,Xf,Xc] at hw;obtain⟨⟨⟨⟨⟨w1,w2⟩,w3⟩,w5⟩,w6⟩,w4⟩:=hw;simp only[Fo.flat] at hc;have ih:=On w4 (λx hx=>hc x (by simp[hx]));have ih2:=On w6 (λx hx=>hc x (by simp[hx]));have hcf:=CA kids;have hk:Oh k≤(3*M+24)*(BK k).length:=by
   cases k with
   | none=>simp[Oh,BK]
   | some s=>
    have:=(hc ⟨4,0,s,0⟩ (by simp[BK])).1;have h2:=NY s;simp only at this;simp only[Oh,BK,XD];omega
  simp only[Fo.byt,Fo.flat,Fo.cnt,Xm,Xj];have e:((3*(M:Int)+24)*(((BK k).length+(kids.flat.length+r.flat.length+1):Nat):Int))=(3*(M:Int)+24)*(BK k).length+((3*(M:Int)+24)*kids.flat.length+(3*(M:Int)+24)*r.flat.length+(3*(M:Int)+24)):=by
   push_cast;rw[Int.mul_add,Int.mul_add,Int.mul_add,Int.mul_one]
  rw[e]
  push_cast at *
  omega
theorem NB {M:Nat}(hM:M≤1000000){f:Fo}{m:Bool}{l:Option Aq}(hw:f.wf m l=true)(hl:f.flat.length≤M)(hc:∀c∈f.flat,c.fStr.length≤M∧Cj .i64 c.fInt=true∧c.fN≤9223372036854775807):f.byt≤4000000000000:=by
 have:=On (M:=M) hw hc;have h2:(3*M+24)*f.flat.length≤(3*1000000+24)*1000000:=Nat.mul_le_mul (by omega) (by omega);have h3:(((3*M+24)*f.flat.length:Nat):Int)=(3*(M:Int)+24)*f.flat.length:=by push_cast;rfl
 omega
theorem Nc {M F:Nat}{v:List Ac}(hA:JM M v)(hM:M≤1000000)(hF:M<F):KD F v=some (Gf v):=by
 unfold KD Gf whole;have hvM:=hA.hv;rcases UI (hA.lk hF) with⟨f,ys,hp,hl⟩ | ⟨hp,sh',hl⟩
 ·rw[hl,AW rfl,hp];obtain⟨h1,h2,h3⟩:=IQ hp;have hlen:v.length=f.flat.length+ys.length:=by rw[h1];simp
  cases ys with
  | cons c r=>
   rw[AI];simp only[Xj] at hlen;simp;omega
  | nil=>
   simp only[XA,Nat.add_zero] at hlen;rw[A3 (by simp[hlen])];have hc:∀c∈f.flat,c.fStr.length≤M∧Cj .i64 c.fInt=true∧c.fN≤9223372036854775807:=λc hc=>hA.hc c (by rw[h1];simp[hc]);have hb:=NB hM h2 (by omega) hc;have hb0:=Ie h2;have e1:(f.sh 0 MI).fOutside=f.flat.any GX:=by rw[NO];rfl
   have e2:(f.sh 0 MI).fLong=f.flat.any Gv:=by rw[L9];rfl
   have e3:(f.sh 0 MI).fDepth=f.dep:=by rw[JY f 0 MI (by simp[MI])];simp[MI]
   have e4:(f.sh 0 MI).fBytes=(f.txt true).length:=by
    rw[JZ f false none 0 MI h2 (by simp[MI]) (by simp[MI];omega),JX f false none true h2,QV h3];simp[MI]
   simp only;rw[e1,e2,e3,e4,hlen];unfold Q6
   cases f.flat.any GX with
   | true=>rw[AI rfl];rfl
   | false=>
    rw[A3 rfl];have a1:decide ((200:Int)<(f.flat.length:Int))=decide (200<f.flat.length):=by rw[Xt];simp;omega
    have a2:decide ((8:Int)<(f.dep:Int))=decide (8<f.dep):=by rw[Xt];simp;omega
    have a3:decide ((4000:Int)<((f.txt true).length:Int))=decide (4000<(f.txt true).length):=by rw[Xt];simp;omega
    rw[a1,a2,a3]
    cases(f.flat.any Gv||(decide (200<f.flat.length)||(decide (8<f.dep)||decide (4000<(f.txt true).length))))<;>rfl
 ·rw[hl,AW rfl,hp];rfl
theorem Od {v:List Ac}{p:Int}{f:Fo}{ys:List Ac}(h1:f.one=true)(hw:f.wf false none=true)(hd:v.drop p.toNat=f.flat++ys):Ij v p=p+f.flat.length:=by
 unfold Ij;rw[hd,QT h1 hw]
theorem QJ {c:Ac}(hp:pl c=true)(hn:decide (0<c.fN)=false):(Fo.cell none c .nil).wf false none=true:=by simp[Fo.wf,CH,hp,hn]
theorem QI {c:Ac}{kids:Fo}(hp:pl c=true)(hn:0<c.fN)(hk:c.fN=kids.cnt)(hw:kids.wf (decide (c.fKind=6)) none=true):(Fo.node none c kids .nil).wf false none=true:=by simp[Fo.wf,CH,hp,hn,hk,hw];omega
section
variable {M : Nat} {v : List Ac}
theorem JM.next (hA:JM M v){F:Nat}(hF:3*M+3<F){p:Int}(h0:0≤p)(h1:p≤v.length):Ds F v p=some (Ij v p):=by
 have hM:=hA.hM;have hvM:=hA.hv;exact OT (hA.rf (Xi M)) (λc hc=>(hA.hc c hc).2.2) (v.length-p.toNat) F p h0 h1 rfl (by omega)
theorem Kf {F:Nat}{p:Int}{c:Ac}{r:List Ac}(h0:0≤p)(hpM:p≤1152921504606846976)(hd:v.drop p.toNat=c::r)(hp:pl c=true)(hn:decide (0<c.fN)=false):CS (F+2) v p=some 1:=by
 obtain⟨g1,g2,g3⟩:=Ck h0 hd;rw[CS];unfold H5;rw[AZ h0 g3,Dl h0 hd]
 cases hk:(!decide (c.fKind=5)&&!decide (c.fKind=6)) with
 | true=>rw[AI rfl]
 | false=>
  rw[A3 rfl,AP (by omega) (by omega),AW (Jv (o:=.go 0) (by
   show CD (F+1) v p _ 0 (p+1) 0=_;unfold CD;rw[Dl h0 hd,A3 hn]))]
  simp only[Cf,DI];rw[AP (by omega) (by omega)];rfl
theorem Nl {F:Nat}{i:Int}{rec:List Ac→Int→Option Int}{most at_ x L:Int}{m:Bool}{p q:Int}{pc:Ac}(hpc:Af v i=pc)(hm:decide (pc.fKind=6)=m)(hx:x<pc.fN)(hx0:0≤x)(hpcN:pc.fN≤9223372036854775807)
  (ha0:0≤at_) (haM:at_≤1152921504606846976) (hp:p=bif m then at_+1 else at_) (hr:rec v p=some L) (hq:Ds F v p=some q):CD F v i rec most at_ x=some (.next (max most L,q,x+1)):=by
 unfold CD;rw[hpc,AI (by simpa using hx),hm]
 cases m with
 | true=>
  simp only[Xp] at hp;rw[AI rfl,AP (by omega) (by omega),← hp,hr,AW rfl]
  cases hl:decide (most<L) with
  | true=>rw[AI rfl,hq,AW rfl,AP (by omega) (by omega),Int.max_eq_right (by simp at hl;omega)]
  | false=>rw[A3 rfl,hq,AW rfl,AP (by omega) (by omega),Int.max_eq_left (by simp at hl;omega)]
 | false=>
  simp only[Xl] at hp;rw[A3 rfl,← hp,hr,AW rfl]
  cases hl:decide (most<L) with
  | true=>rw[AI rfl,hq,AW rfl,AP (by omega) (by omega),Int.max_eq_right (by simp at hl;omega)]
  | false=>rw[A3 rfl,hq,AW rfl,AP (by omega) (by omega),Int.max_eq_left (by simp at hl;omega)]
theorem LI {m:Bool}{last key:Option Aq}(h:CH m last key=true):((BK key).length:Int)=bif m then 1 else 0:=by
  cases key with
  | none=>
            have:m=false:=by simpa[CH] using h
            subst this;rfl
  | some s=>simp only[CH,Xf] at h;rw[h.1.1];rfl
theorem OU (hA:JM M v):∀(g:Fo) (F L:Nat) (i at_ x most:Int) (m:Bool) (last:Option Aq) (ys:List Ac) (pc:Ac),Af v i=pc→decide (pc.fKind=6)=m→pc.fN≤9223372036854775807→g.wf m last=true→v.drop at_.toNat=g.flat++ys→0≤at_→at_≤v.length→pc.fN=x+g.cnt→0≤x→0≤most→most≤1152921504606846976→g.cnt<L→3*M+5+g.flat.length<F→
  ∃o,BW (λσ=>CD F v i (CS F) σ.1 σ.2.1 σ.2.2) L (most,at_,x)=some o∧Cf (λν=>DI ν) o=some (max most (g.dep:Int)+1):=by
 have hM:=hA.hM;have hvM:=hA.hv;have fin:∀(F L:Nat) (i at_ x most:Int) (pc:Ac),Af v i=pc→pc.fN≤x→0≤most→most≤1152921504606846976→0<L→∃o,BW (λσ=>CD F v i (CS F) σ.1 σ.2.1 σ.2.2) L (most,at_,x)=some o∧Cf (λν=>DI ν) o=some (most+1):=λF L i at_ x most pc hpc hx h0 hb hL=>by
  obtain⟨L,rfl⟩:∃K,L=K+1:=⟨L-1,by omega⟩
  refine⟨.go most,Jv (by show CD F v i _ most at_ x=_;unfold CD;rw[hpc,A3 (by simp;omega)]),?_⟩;simp only[Cf,DI];rw[AP (by omega) (by omega)]
 have depM:∀g:Fo,g.dep≤g.flat.length:=by
  intro g
  induction g with
  | nil=>simp[Fo.dep]
  | cell k c r ih=>simp[Fo.dep,Fo.flat];omega
  | node k c kids r ih1 ih2=>simp[Fo.dep,Fo.flat];omega
 intro g
 induction g with
 | nil=>
  intro F L i at_ x most m last ys pc hpc hm hpN hw hd h0 h1 hN hx hmo hmM hL hF;obtain⟨o,h1,h2⟩:=fin F L i at_ x most pc hpc (by simp[Fo.cnt] at hN;omega) hmo hmM (by omega);exact⟨o,h1,by rw[h2];simp only[Fo.dep];congr 2<;>omega⟩
 | cell k c r ih=>
  intro F L i at_ x most m last ys pc hpc hm hpN hw hd h0 h1 hN hx hmo hmM hL hF;simp only[Fo.wf,Xf,Xz] at hw;obtain⟨⟨⟨w1,w2⟩,w3⟩,w4⟩:=hw;simp only[Fo.flat,Xw,XN] at hd;simp only[Fo.cnt] at hN hL;simp only[Fo.flat,Xm,Xj] at hF;obtain⟨L,rfl⟩:∃K,L=K+1:=⟨L-1,by omega⟩
  obtain⟨F,rfl⟩:∃K,F=K+2:=⟨F-2,by omega⟩
  have hd1:=Dq h0 hd;have hkl:=LI w1;obtain⟨g1,g2,g3⟩:=Ck (by omega) hd1;have hlen:at_+(BK k).length=bif m then at_+1 else at_:=by rw[hkl];cases m<;>simp
  have hq:=hA.next (F:=F+2) (by omega) (p:=at_+(BK k).length) (by omega) (by omega);rw[Od (f:=.cell none c .nil) (ys:=r.flat++ys) rfl (QJ w2 w3) hd1] at hq;have hb:=Nl (most:=most) (x:=x) hpc hm (by omega) hx hpN h0 (by omega) hlen (Kf (F:=F) (by omega) (by omega) hd1 w2 w3) hq;have hdd:=depM r;obtain⟨o,ho1,ho2⟩:=ih (F+2) L i (at_+(BK k).length+((Fo.cell none c .nil).flat.length:Int)) (x+1) (max most 1) m k ys pc hpc hm hpN w4 (by rw[show(Fo.cell none c .nil).flat.length=1 from rfl];exact g2) (by omega) (by rw[show(Fo.cell none c .nil).flat.length=1 from rfl];omega) (by omega) (by omega) (by omega) (by omega) (by omega) (by omega);refine⟨o,Nv hb ho1,?_⟩;rw[ho2,Fo.dep];congr 2<;>omega
 | node k c kids r ihk ih=>
  intro F L i at_ x most m last ys pc hpc hm hpN hw hd h0 h1 hN hx hmo hmM hL hF;simp only[Fo.wf,Xf,Xc] at hw;obtain⟨⟨⟨⟨⟨w1,w2⟩,w3⟩,w5⟩,w6⟩,w4⟩:=hw;simp only[Fo.flat,Xw,XN] at hd;simp only[Fo.cnt] at hN hL;simp only[Fo.flat,Xm,Xj] at hF;obtain⟨L,rfl⟩:∃K,L=K+1:=⟨L-1,by omega⟩
  obtain⟨F,rfl⟩:∃K,F=K+1:=⟨F-1,by omega⟩
  have hd1:=Dq h0 hd;have hkl:=LI w1;obtain⟨g1,g2,g3⟩:=Ck (by omega) hd1;have hcN:=(hA.hc c (Xk g1)).2.2;have hlen:at_+(BK k).length=bif m then at_+1 else at_:=by rw[hkl];cases m<;>simp
  have hq:=hA.next (F:=F+1) (by omega) (p:=at_+(BK k).length) (by omega) (by omega);have hfl:(Fo.node none c kids .nil).flat=c::kids.flat:=by simp[Fo.flat,BK]
  rw[Od (f:=.node none c kids .nil) (ys:=r.flat++ys) rfl (QI w2 w3 w5 w6) (by rw[hd1,hfl];simp)] at hq;have hdk:=depM kids;have hdd:=depM r;have hcf:=CA kids;have hvl:(v.drop (at_+(BK k).length+1).toNat).length=kids.flat.length+(r.flat.length+ys.length):=by rw[g2];simp
  rw[List.length_drop] at hvl;have hrec:CS (F+1) v (at_+(BK k).length)=some ((kids.dep:Int)+1):=by
   rw[CS];unfold H5;rw[AZ (by omega) g3,Dl (by omega) hd1];have ha:=(Kj w2 w3).1;rw[A3 (by simp;omega),AP (by omega) (by omega)];obtain⟨o,ho1,ho2⟩:=ihk F F (at_+(BK k).length) (at_+(BK k).length+1) 0 0 _ none (r.flat++ys) c (Dl (by omega) hd1) rfl hcN w6 (by rw[g2]) (by omega) (by omega) (by omega) (Xx 0) (Xx 0) (by omega) (by omega) (by omega);rw[AW ho1,ho2];congr 2<;>omega
  have hb:=Nl (most:=most) (x:=x) hpc hm (by omega) hx hpN h0 (by omega) hlen hrec hq;obtain⟨o,ho1,ho2⟩:=ih (F+1) L i (at_+(BK k).length+((Fo.node none c kids .nil).flat.length:Int)) (x+1) (max most ((kids.dep:Int)+1)) m k ys pc hpc hm hpN w4 (by
   have:=Dq (by omega) g2;rw[hfl,Xj,show at_+(BK k).length+((kids.flat.length+1:Nat):Int)=at_+(BK k).length+1+kids.flat.length from by omega];exact this) (by omega) (by rw[hfl,Xj];omega) (by omega) (by omega) (by omega) (by omega) (by omega) (by omega)
  refine⟨o,Nv hb ho1,?_⟩;rw[ho2,Fo.dep];congr 2<;>omega
theorem Qf (hA:JM M v){F:Nat}{p:Int}{f:Fo}{ys:List Ac}(h0:0≤p)(h1:f.one=true)(hw:f.wf false none=true)(hd:v.drop p.toNat=f.flat++ys)(hF:3*M+6+f.flat.length<F):CS F v p=some (f.dep:Int):=by
 have hM:=hA.hM;have hvM:=hA.hv
 cases f with
 | nil=>cases h1
 | cell k c r=>
  cases k with
  | some s=>cases h1
  | none=>
   cases r with
   | nil=>
    simp only[Fo.wf,Xf,Xz] at hw;obtain⟨F,rfl⟩:∃K,F=K+2:=⟨F-2,by omega⟩
    have hd':v.drop p.toNat=c::ys:=by simpa[Fo.flat,BK] using hd
    rw[Kf h0 (by have:=(Ck h0 hd').2.2;omega) hd' hw.1.1.2 hw.1.2];rfl
   | cell _ _ _=>cases h1
   | node _ _ _ _=>cases h1
 | node k c kids r=>
  cases k with
  | some s=>cases h1
  | none=>
   cases r with
   | nil=>
    simp only[Fo.wf,Xf,Xc] at hw;obtain⟨⟨⟨⟨⟨w1,w2⟩,w3⟩,w5⟩,w6⟩,w4⟩:=hw;have hd':v.drop p.toNat=c::(kids.flat++ys):=by simpa[Fo.flat,BK] using hd
    obtain⟨g1,g2,g3⟩:=Ck h0 hd';have hcN:=(hA.hc c (Xk g1)).2.2;have hcf:=CA kids;simp only[Fo.flat,BK,XI,XB,Xj] at hF;obtain⟨F,rfl⟩:∃K,F=K+1:=⟨F-1,by omega⟩
    rw[CS];unfold H5;have ha:=(Kj w2 w3).1;rw[AZ h0 g3,Dl h0 hd',A3 (by simp;omega),AP (by omega) (by omega)];obtain⟨o,ho1,ho2⟩:=OU hA kids F F p (p+1) 0 0 _ none ys c (Dl h0 hd') rfl hcN w6 g2 (by omega) (by omega) (by omega) (Xx 0) (Xx 0) (by omega) (by omega) (by omega);rw[AW ho1,ho2];simp only[Fo.dep];congr 1<;>omega
   | cell _ _ _=>cases h1
   | node _ _ _ _=>cases h1
end
def Sl (c:UInt8):Aq:=bif (decide (c=34)||decide (c=92)) then[92,c] else[c]
theorem Sk {s:Aq}{k:Nat}{c:UInt8}(h:s[k]? =some c):M7 (s.take (k+1))=M7 (s.take k)++Sl c:=by
 rw[List.take_add_one,h];simp[M7,List.flatMap_append,Sl]
theorem P9 (s:Aq):(M7 s).length≤3*s.length:=by
 rw[M6];have h1:s.count 34≤s.length:=List.count_le_length;have h2:s.count 92≤s.length:=List.count_le_length;omega
theorem PZ {s:Aq}{x:Int}{c:UInt8}(h0:0≤x)(h:s[x.toNat]? =some c):List.take (Int.toNat (x+1)-Int.toNat x) (List.drop (Int.toNat x) s)=[c]:=by
 have hl:=(List.getElem?_eq_some_iff.1 h).1;have hc:=(List.getElem?_eq_some_iff.1 h).2;rw[show Int.toNat (x+1)-Int.toNat x=1 from by omega,List.drop_eq_getElem_cons hl,hc];rfl
theorem Wn {s:Aq}{x:Int}{c:UInt8}(h:s[x.toNat]? =some c):decide (K7 s x=34)=decide (c=34):=by
 rw[Or h,Xt,decide_eq_true_iff,decide_eq_true_iff,← UInt8.toNat_inj];show _↔c.toNat=34;omega
theorem Wm {s:Aq}{x:Int}{c:UInt8}(h:s[x.toNat]? =some c):decide (K7 s x=92)=decide (c=92):=by
 rw[Or h,Xt,decide_eq_true_iff,decide_eq_true_iff,← UInt8.toNat_inj];show _↔c.toNat=92;omega
theorem NR {s out:Aq}{x:Int}{c:UInt8}(h0:0≤x)(hx:x<(s.length:Int))(hs:s.length≤1152921504606846976)(ho:out.length≤3*s.length+1)(hc:s[x.toNat]? =some c):CN s out x=some (.next (out++Sl c,x+1)):=by
 unfold CN Sl;rw[AI (Xb hx),AZ h0 hx,Wn hc,Wm hc,PZ h0 hc];have l1:(([92]:Aq).length:Int)=1:=rfl;have l2:(([c]:Aq).length:Int)=1:=rfl
 cases hq:(decide (c=34)||decide (c=92)) with
 | true=>
  have l3:((out++([92]:Aq)).length:Int)=out.length+1:=by rw[Xm,XD,Int.natCast_add];rfl
  rw[AI rfl,l1,l2,l3,AP (by omega) (by omega),AP (by omega) (by omega),Id (by omega) (by omega),Id (by omega) (by omega),AP (by omega) (by omega),Xw];rfl
 | false=>
  rw[A3 rfl,l2,AP (by omega) (by omega),Id (by omega) (by omega),Id (by omega) (by omega),AP (by omega) (by omega)];rfl
theorem Dc {R V:Type}(K:V→Option R)(v:V):Cf K (.go v)=K v:=rfl
theorem Mj {R V:Type}(K:V→Option R)(r:R):Cf K (.ret r)=some r:=rfl
theorem OS {s out:Aq}{x:Int}(hx : ¬ x<(s.length:Int)):CN s out x=some (.out (.go out)):=by
 unfold CN;rw[A3 (Xa hx)]
theorem R8 {out:Aq}(h:out.length≤4611686018427387904):Dw out=some (out++[34]):=by
 unfold Dw;have l1:(([34]:Aq).length:Int)=1:=rfl;rw[l1,AP (by omega) (by omega)]
theorem J5 {F:Nat}{s:Aq}(hF:s.length<F)(hs:s.length≤1152921504606846976):HM F s=some (J8 s):=by
 obtain⟨o,h1,h2⟩:=Gi (body:=λσ=>CN s σ.1 σ.2) (λσ=>0≤σ.2∧σ.2≤(s.length:Int)∧σ.1=34::M7 (s.take σ.2.toNat)) (λσ=>s.length-σ.2.toNat)
  (λo=>Cf (λν=>Dw ν) o=some (J8 s)) (λσ ⟨h0,hl,ha⟩=>by
   obtain⟨out,x⟩:=σ;simp only at h0 hl ha;show(∃s',CN s out x=_∧_)∨∃o,CN s out x=_∧_;have hb:=P9 (s.take x.toNat);have hb2:(s.take x.toNat).length≤s.length:=by rw[List.length_take];omega
   have hol:out.length≤3*s.length+1:=by rw[ha,Xj];omega
   by_cases hx:x<(s.length:Int)
   ·obtain⟨c,hc⟩:∃c,s[x.toNat]? =some c:=⟨s[x.toNat]'(by omega),Xg (by omega)⟩
    have a1:0≤x+1:=by omega
    have a2:x+1≤s.length:=by omega
    have a3:s.length-(x+1).toNat<s.length-x.toNat:=by omega
    have a4:out++Sl c=34::M7 (s.take (x+1).toNat):=by rw[show(x+1).toNat=x.toNat+1 from by omega,Sk hc,ha];rfl
    exact .inl ⟨(out++Sl c,x+1),NR h0 hx hs hol hc,⟨a1,a2,a4⟩,a3⟩
   ·have e:x.toNat=s.length:=by omega
    have hk:Dw out=some (out++[34]):=R8 (by omega);have hf:out++[34]=J8 s:=by rw[ha,e,XU];rfl
    exact .inr ⟨.go out,OS hx,(Dc (λν=>Dw ν) out).trans (hk.trans (congrArg some hf))⟩) F ([34],0) ⟨Xx 0,by show(0:Int)≤s.length;omega,by show([34]:Aq)=34::M7 (s.take 0);simp[M7]⟩ (by show s.length-0<F;omega)
 unfold HM;rw[AW h1,h2]
section
variable {M : Nat} {v : List Ac}
theorem WA (a b c d e:Aq):(((a++b)++c)++d)++e=a++(b++(c++d)++e):=by simp
theorem WB (a b c d:Aq):((a++b)++c)++d=a++([]++(b++c)++d):=by simp
theorem WD (a b c:Aq):(a++b)++c=a++(b++[]++c):=by simp
theorem WE (a b:Aq):a++b=a++([]++[]++b):=by simp
theorem UJ (a:Aq)(c:UInt8):((a++[c]).length:Int)=a.length+1:=by rw[Xm,XD,Int.natCast_add];rfl
theorem Pw (a b:Aq):((a++b).length:Int)=a.length+b.length:=by rw[Xm,Int.natCast_add]
theorem Ni {F:Nat}{i:Int}{rec:List Ac→Int→Option Aq}{out tx:Aq}{at_ x:Int}{m:Bool}{p q:Int}{pc:Ac}{key:Option Aq}{last:Option Aq}(hpc:Af v i=pc)(hm:decide (pc.fKind=6)=m)(hx:x<pc.fN)(hx0:0≤x)(hpcN:pc.fN≤9223372036854775807)
  (ha0:0≤at_) (haM:at_<v.length) (hvM:(v.length:Int)≤1152921504606846976) (hk:CH m last key=true) (hkey:∀s,key=some s→(Af v at_).fStr=s∧s.length<F∧s.length≤1152921504606846976) (hp:p=bif m then at_+1 else at_) (hr:rec v p=some tx) (hq:Ds F v p=some q)
  (hlen:((out++(Hj (decide (x=0))++MR key++tx)).length:Int)≤4611686018427387904):DH F v i rec out at_ x=some (.next (out++(Hj (decide (x=0))++MR key++tx),q,x+1)):=by
 have hb:(([44]:Aq).length:Int)=1:=rfl;have hd:(([58]:Aq).length:Int)=1:=rfl;have hx1:Br (Cj .i64 (x+1)) (some (Stp.next (out++(Hj (decide (x=0))++MR key++tx),q,x+1)):Option (Stp (Aq×Int×Int) (Out Aq Aq)))=some (Stp.next (out++(Hj (decide (x=0))++MR key++tx),q,x+1)):=AP (by omega) (by omega);unfold DH;rw[hpc,AI (Xb hx),hm]
 cases ha:decide (x=0) with
 | true=>
  rw[ha] at hx1 hlen;simp only[Xc] at ha;rw[A3 (Xa (by omega))]
  cases m with
  | true=>
   cases key with
   | none=>simp[CH] at hk
   | some s=>
    obtain⟨e1,e2,e3⟩:=hkey s rfl;simp only[Xp] at hp;have e:((out++J8 s)++[58])++tx=out++(Hj true++MR (some s)++tx):=WB _ _ _ _;rw[← e] at hx1 hlen ⊢;have h1:=Pw ((out++J8 s)++[58]) tx;have h2:=UJ (out++J8 s) 58;have h3:=Pw out (J8 s);rw[AI rfl,AZ ha0 haM,e1,J5 e2 e3,AW rfl,AP (by omega) (by omega),hd,AP (by omega) (by omega),AP (by omega) (by omega),← hp,hr,AW rfl,AP (by omega) (by omega),hq,AW rfl,hx1]
  | false=>
   cases key with
   | some s=>simp[CH] at hk
   | none=>
    simp only[Xl] at hp;have e:out++tx=out++(Hj true++MR none++tx):=WE _ _;rw[← e] at hx1 hlen ⊢;have h1:=Pw out tx;rw[A3 rfl,← hp,hr,AW rfl,AP (by omega) (by omega),hq,AW rfl,hx1]
 | false=>
  rw[ha] at hx1 hlen;simp only[Xe] at ha;rw[AI (Xb (by omega))]
  cases m with
  | true=>
   cases key with
   | none=>simp[CH] at hk
   | some s=>
    obtain⟨e1,e2,e3⟩:=hkey s rfl;simp only[Xp] at hp;have e:(((out++[44])++J8 s)++[58])++tx=out++(Hj false++MR (some s)++tx):=WA _ _ _ _ _;rw[← e] at hx1 hlen ⊢;have h1:=Pw (((out++[44])++J8 s)++[58]) tx;have h2:=UJ ((out++[44])++J8 s) 58;have h3:=Pw (out++[44]) (J8 s);have h4:=UJ out 44;rw[hb,AP (by omega) (by omega),AI rfl,AZ ha0 haM,e1,J5 e2 e3,AW rfl,AP (by omega) (by omega),hd,AP (by omega) (by omega),AP (by omega) (by omega),← hp,hr,AW rfl,AP (by omega) (by omega),hq,AW rfl,hx1]
  | false=>
   cases key with
   | some s=>simp[CH] at hk
   | none=>
    simp only[Xl] at hp;have e:(out++[44])++tx=out++(Hj false++MR none++tx):=WD _ _ _;rw[← e] at hx1 hlen ⊢;have h1:=Pw (out++[44]) tx;have h4:=UJ out 44;rw[hb,AP (by omega) (by omega),A3 rfl,← hp,hr,AW rfl,AP (by omega) (by omega),hq,AW rfl,hx1]
theorem QN {i:Int}{pc:Ac}{out:Aq}(hpc:Af v i=pc)(h:out.length≤4611686018427387904):GO v i out=some (S4 pc out):=by
 unfold GO S4;have l1:(([123]:Aq).length:Int)=1:=rfl;have l2:(([91]:Aq).length:Int)=1:=rfl;have l3:(([125]:Aq).length:Int)=1:=rfl;have l4:(([93]:Aq).length:Int)=1:=rfl;have h1:=Pw [123] out;have h2:=Pw [91] out;rw[hpc]
 cases hk:decide (pc.fKind=6) with
 | true=>rw[AI rfl,AP (by omega) (by omega),AP (by omega) (by omega)];rfl
 | false=>rw[A3 rfl,AP (by omega) (by omega),AP (by omega) (by omega)];rfl
theorem Ma {F:Nat}{p:Int}{c:Ac}{r:List Ac}(h0:0≤p)(hpM:p≤1152921504606846976)(hd:v.drop p.toNat=c::r)(hp:pl c=true)(hn:decide (0<c.fN)=false)(hs:c.fStr.length<F+1)(hs2:c.fStr.length≤1152921504606846976)(hi:Cj .i64 c.fInt=true):Gu (F+2) v p=some (Kt c):=by
 obtain⟨g1,g2,g3⟩:=Ck h0 hd;rw[Gu];unfold KG Kt;rw[AZ h0 g3,Dl h0 hd]
 cases k1:decide (c.fKind=1) with
 | true=>rw[AI rfl];rfl
 | false=>
 rw[A3 rfl]
 cases k2:decide (c.fKind=2) with
 | true=>rw[AI rfl];cases decide (c.fInt=1)<;>rfl
 | false=>
 rw[A3 rfl]
 cases k3:decide (c.fKind=3) with
 | true=>rw[AI rfl,BP hi];rfl
 | false=>
 rw[A3 rfl]
 cases k4:decide (c.fKind=4) with
 | true=>rw[AI rfl,J5 hs hs2,AW rfl];rfl
 | false=>
 have hgo:DH (F+1) v p (Gu (F+1)) [] (p+1) 0=some (.out (.go [])):=by
  unfold DH;rw[Dl h0 hd,A3 hn]
 rw[A3 rfl,AP (by omega) (by omega),AW (Jv (o:=.go []) hgo),Dc,QN (Dl h0 hd) (by simp)];simp only[Xl,S4]
 cases decide (c.fKind=6)<;>rfl
end
section
variable {M : Nat} {v : List Ac}
theorem IR {α:Type}[Inhabited α](a:α):ov (some a)=a:=rfl
theorem T8 {at_:Int}{k:Option Aq}{r:List Ac}(h0:0≤at_)(hA:JM M v){F:Nat}(hF:M<F)(hd:v.drop at_.toNat=BK k++r):∀s,k=some s→(Af v at_).fStr=s∧s.length<F∧s.length≤1152921504606846976:=λs e=>by
 subst e;have hd':v.drop at_.toNat=⟨4,0,s,0⟩::r:=by simpa[BK] using hd
 have h1:=Dl h0 hd';have h2:=(hA.hc _ (Xk (Ck h0 hd').1)).1;have hM:=hA.hM;simp only at h2;exact⟨by rw[h1],by omega,by omega⟩
theorem OR (hA:JM M v):∀(g:Fo) (F L:Nat) (i at_ x:Int) (out:Aq) (m:Bool) (last:Option Aq) (ys:List Ac) (pc:Ac),Af v i=pc→decide (pc.fKind=6)=m→pc.fN≤9223372036854775807→g.wf m last=true→v.drop at_.toNat=g.flat++ys→0≤at_→at_≤v.length→pc.fN=x+g.cnt→0≤x→(out++g.txt (decide (x=0))).length≤4611686018427387904→g.cnt<L→3*M+5+g.flat.length<F→
  ∃o,BW (λσ=>DH F v i (Gu F) σ.1 σ.2.1 σ.2.2) L (out,at_,x)=some o∧Cf (λν=>GO v i ν) o=some (S4 pc (out++g.txt (decide (x=0)))):=by
 have hM:=hA.hM;have hvM:=hA.hv;intro g
 induction g with
 | nil=>
  intro F L i at_ x out m last ys pc hpc hm hpN hw hd h0 h1 hN hx hlen hL hF;obtain⟨L,rfl⟩:∃K,L=K+1:=⟨L-1,by omega⟩
  have hgo:DH F v i (Gu F) out at_ x=some (.out (.go out)):=by
   simp only[Fo.cnt] at hN;unfold DH;rw[hpc,A3 (Xa (by omega))]
  refine⟨.go out,Jv hgo,?_⟩;simp only[Fo.txt,XB] at hlen ⊢;rw[Dc,QN hpc hlen]
 | cell k c r ih=>
  intro F L i at_ x out m last ys pc hpc hm hpN hw hd h0 h1 hN hx hlen hL hF;simp only[Fo.wf,Xf,Xz] at hw;obtain⟨⟨⟨w1,w2⟩,w3⟩,w4⟩:=hw;simp only[Fo.flat,Xw,XN] at hd;simp only[Fo.cnt] at hN hL;simp only[Fo.flat,Xm,Xj] at hF;obtain⟨L,rfl⟩:∃K,L=K+1:=⟨L-1,by omega⟩
  obtain⟨F,rfl⟩:∃K,F=K+2:=⟨F-2,by omega⟩
  have hd1:=Dq h0 hd;have hkl:=LI w1;obtain⟨g1,g2,g3⟩:=Ck (by omega) hd1;have hcM:=hA.hc c (Xk g1);have hp:at_+(BK k).length=bif m then at_+1 else at_:=by rw[hkl];cases m<;>simp
  have hq:=hA.next (F:=F+2) (by omega) (p:=at_+(BK k).length) (by omega) (by omega);rw[Od (f:=.cell none c .nil) (ys:=r.flat++ys) rfl (QJ w2 w3) hd1] at hq;have e:out++(Fo.cell k c r).txt (decide (x=0))=(out++(Hj (decide (x=0))++MR k++Kt c))++r.txt (decide (x+1=0)):=by
   rw[Xa (show ¬ x+1=0 by omega)];simp[Fo.txt]
  rw[e] at hlen ⊢;have hl2:((out++(Hj (decide (x=0))++MR k++Kt c)).length:Int)≤4611686018427387904:=by rw[Xm] at hlen;omega
  have hat:at_<v.length:=by omega
  have hb:=Ni hpc hm (by omega) hx hpN h0 hat (by omega) w1 (T8 h0 hA (F:=F+2) (by omega) hd) hp (Ma (F:=F) (by omega) (by omega) hd1 w2 w3 (by omega) (by omega) hcM.2.1) hq hl2;obtain⟨o,ho1,ho2⟩:=ih (F+2) L i (at_+(BK k).length+((Fo.cell none c .nil).flat.length:Int)) (x+1) (out++(Hj (decide (x=0))++MR k++Kt c)) m k ys pc hpc hm hpN w4 (by rw[show(Fo.cell none c .nil).flat.length=1 from rfl];exact g2) (by omega) (by rw[show(Fo.cell none c .nil).flat.length=1 from rfl];omega) (by omega) (by omega) hlen (by omega) (by omega);exact⟨o,Nv hb ho1,ho2⟩
 | node k c kids r ihk ih=>
  intro F L i at_ x out m last ys pc hpc hm hpN hw hd h0 h1 hN hx hlen hL hF;simp only[Fo.wf,Xf,Xc] at hw;obtain⟨⟨⟨⟨⟨w1,w2⟩,w3⟩,w5⟩,w6⟩,w4⟩:=hw;simp only[Fo.flat,Xw,XN] at hd;simp only[Fo.cnt] at hN hL;simp only[Fo.flat,Xm,Xj] at hF;obtain⟨L,rfl⟩:∃K,L=K+1:=⟨L-1,by omega⟩
  obtain⟨F,rfl⟩:∃K,F=K+1:=⟨F-1,by omega⟩
  have hd1:=Dq h0 hd;have hkl:=LI w1;obtain⟨g1,g2,g3⟩:=Ck (by omega) hd1;have hcN:=(hA.hc c (Xk g1)).2.2;have hp:at_+(BK k).length=bif m then at_+1 else at_:=by rw[hkl];cases m<;>simp
  have hq:=hA.next (F:=F+1) (by omega) (p:=at_+(BK k).length) (by omega) (by omega);have hfl:(Fo.node none c kids .nil).flat=c::kids.flat:=by simp[Fo.flat,BK]
  rw[Od (f:=.node none c kids .nil) (ys:=r.flat++ys) rfl (QI w2 w3 w5 w6) (by rw[hd1,hfl];simp)] at hq;have hcf:=CA kids;have hvl:(v.drop (at_+(BK k).length+1).toNat).length=kids.flat.length+(r.flat.length+ys.length):=by rw[g2];simp
  rw[List.length_drop] at hvl;have e:out++(Fo.node k c kids r).txt (decide (x=0))=(out++(Hj (decide (x=0))++MR k++S4 c (kids.txt true)))++r.txt (decide (x+1=0)):=by
   rw[Xa (show ¬ x+1=0 by omega)];simp[Fo.txt]
  rw[e] at hlen ⊢;have hl2:((out++(Hj (decide (x=0))++MR k++S4 c (kids.txt true))).length:Int)≤4611686018427387904:=by rw[Xm] at hlen;omega
  have hl3:(kids.txt true).length≤4611686018427387904:=by
   have:=Oq c (kids.txt true);rw[Xm,Xm] at hl2;omega
  have hat:at_<v.length:=by omega
  have hrec:Gu (F+1) v (at_+(BK k).length)=some (S4 c (kids.txt true)):=by
   rw[Gu];unfold KG;have ha:=(Kj w2 w3).1;rw[AZ (by omega) g3,Dl (by omega) hd1,A3 (Xa (by omega)),A3 (Xa (by omega)),A3 (Xa (by omega)),A3 (Xa (by omega)),AP (by omega) (by omega)];obtain⟨o,ho1,ho2⟩:=ihk F F (at_+(BK k).length) (at_+(BK k).length+1) 0 [] _ none (r.flat++ys) c (Dl (by omega) hd1) rfl hcN w6 (by rw[g2]) (by omega) (by omega) (by omega) (Xx 0) hl3 (by omega) (by omega);rw[AW ho1,ho2];rfl
  have hb:=Ni hpc hm (by omega) hx hpN h0 hat (by omega) w1 (T8 h0 hA (F:=F+1) (by omega) hd) hp hrec hq hl2;obtain⟨o,ho1,ho2⟩:=ih (F+1) L i (at_+(BK k).length+((Fo.node none c kids .nil).flat.length:Int)) (x+1) (out++(Hj (decide (x=0))++MR k++S4 c (kids.txt true))) m k ys pc hpc hm hpN w4 (by
   have:=Dq (by omega) g2;rw[hfl,Xj,show at_+(BK k).length+((kids.flat.length+1:Nat):Int)=at_+(BK k).length+1+kids.flat.length from by omega];exact this) (by omega) (by rw[hfl,Xj];omega) (by omega) (by omega) hlen (by omega) (by omega)
  exact⟨o,Nv hb ho1,ho2⟩
theorem SY (hA:JM M v){F:Nat}{p:Int}{f:Fo}{ys:List Ac}(h0:0≤p)(h1:f.one=true)(hw:f.wf false none=true)(hd:v.drop p.toNat=f.flat++ys)(hF:3*M+6+f.flat.length<F)(hlen:(f.txt true).length≤4611686018427387904):Gu F v p=some (f.txt true):=by
 have hM:=hA.hM;have hvM:=hA.hv
 cases f with
 | nil=>cases h1
 | cell k c r=>
  cases k with
  | some s=>cases h1
  | none=>
   cases r with
   | nil=>
    simp only[Fo.wf,Xf,Xz] at hw;obtain⟨F,rfl⟩:∃K,F=K+2:=⟨F-2,by omega⟩
    have hd':v.drop p.toNat=c::ys:=by simpa[Fo.flat,BK] using hd
    have hcM:=hA.hc c (Xk (Ck h0 hd').1);rw[Ma h0 (by have:=(Ck h0 hd').2.2;omega) hd' hw.1.1.2 hw.1.2 (by omega) (by omega) hcM.2.1];simp[Fo.txt,Hj,MR]
   | cell _ _ _=>cases h1
   | node _ _ _ _=>cases h1
 | node k c kids r=>
  cases k with
  | some s=>cases h1
  | none=>
   cases r with
   | nil=>
    simp only[Fo.wf,Xf,Xc] at hw;obtain⟨⟨⟨⟨⟨w1,w2⟩,w3⟩,w5⟩,w6⟩,w4⟩:=hw;have hd':v.drop p.toNat=c::(kids.flat++ys):=by simpa[Fo.flat,BK] using hd
    obtain⟨g1,g2,g3⟩:=Ck h0 hd';have hcN:=(hA.hc c (Xk g1)).2.2;have hcf:=CA kids;simp only[Fo.flat,BK,XI,XB,Xj] at hF;have et:(Fo.node none c kids .nil).txt true=S4 c (kids.txt true):=by simp[Fo.txt,Hj,MR]
    rw[et] at hlen ⊢;have hbl:=Oq c (kids.txt true);obtain⟨F,rfl⟩:∃K,F=K+1:=⟨F-1,by omega⟩
    rw[Gu];unfold KG;have ha:=(Kj w2 w3).1;rw[AZ h0 g3,Dl h0 hd',A3 (Xa (by omega)),A3 (Xa (by omega)),A3 (Xa (by omega)),A3 (Xa (by omega)),AP (by omega) (by omega)];obtain⟨o,ho1,ho2⟩:=OR hA kids F F p (p+1) 0 [] _ none ys c (Dl h0 hd') rfl hcN w6 g2 (by omega) (by omega) (by omega) (Xx 0) (by show(kids.txt true).length≤_;omega) (by omega) (by omega);rw[AW ho1,ho2];rfl
   | cell _ _ _=>cases h1
   | node _ _ _ _=>cases h1
theorem RF {F:Nat}{K:Option Int}(hF:v.length<F)(hv:v.length≤1152921504606846976):Bt (BW (λσ=>Ed v σ) F 0) (Cf λ_=>K)=bif v.any GX then some 2 else K:=by
 obtain⟨o,h1,h2⟩:=Gi (body:=λσ=>Ed v σ) (λx=>0≤x∧x≤(v.length:Int)∧(v.take x.toNat).any GX=false) (λx=>v.length-x.toNat)
  (λo=>Cf (λ_=>K) o=bif v.any GX then some 2 else K) (λx ⟨h0,hl,ha⟩=>by
   by_cases hx:x<(v.length:Int)
   ·obtain⟨c,hc⟩:∃c,v[x.toNat]? =some c:=⟨v[x.toNat]'(by omega),Xg (by omega)⟩
    have hat:Af v x=c:=by simp[Af,hc]
    have ho:(decide (c.fKind=3)&&(decide (c.fInt<(-1000000000000))||decide (1000000000000<c.fInt)))=GX c:=by
     unfold GX
     cases decide (c.fKind=3) with
     | false=>rfl
     | true=>
      rw[X7,X7,Xt];simp only[X2,Xc,Xz,Bool.and_eq_false_iff,Xe];omega
    have hb:Ed v x=Bq (GX c) (some (.out (.ret 2))) (some (.next (x+1))):=by
     unfold Ed;rw[AI (Xb hx),AZ h0 hx,hat,ho,AP (by omega) (by omega)]
    cases hq:GX c with
    | true=>
     refine .inr ⟨.ret 2,hb.trans (AI hq),?_⟩;have:v.any GX=true:=List.any_eq_true.2 ⟨c,Xk hc,hq⟩;rw[Mj,this];rfl
    | false=>
     have a3:(v.take (x+1).toNat).any GX=false:=by
      rw[show(x+1).toNat=x.toNat+1 from by omega,List.take_add_one,hc,List.any_append,ha];simp[hq]
     exact .inl ⟨x+1,hb.trans (A3 hq),⟨by omega,by omega,a3⟩,by omega⟩
   ·refine .inr ⟨.go (),by unfold Ed;rw[A3 (Xa hx)],?_⟩;rw[show x.toNat=v.length from by omega,XU] at ha;rw[Dc,ha];rfl) F 0 ⟨Xx 0,by omega,by simp⟩ (by simpa using hF)
 rw[AW h1,h2]
theorem RE {F:Nat}{K:Option Int}(hF:v.length<F)(hv:v.length≤1152921504606846976):Bt (BW (λσ=>Ec v σ) F 0) (Cf λ_=>K)=bif v.any Gv then some 3 else K:=by
 obtain⟨o,h1,h2⟩:=Gi (body:=λσ=>Ec v σ) (λx=>0≤x∧x≤(v.length:Int)∧(v.take x.toNat).any Gv=false) (λx=>v.length-x.toNat)
  (λo=>Cf (λ_=>K) o=bif v.any Gv then some 3 else K) (λx ⟨h0,hl,ha⟩=>by
   by_cases hx:x<(v.length:Int)
   ·obtain⟨c,hc⟩:∃c,v[x.toNat]? =some c:=⟨v[x.toNat]'(by omega),Xg (by omega)⟩
    have hat:Af v x=c:=by simp[Af,hc]
    have hb:Ec v x=Bq (Gv c) (some (.out (.ret 3))) (some (.next (x+1))):=by
     unfold Ec;rw[AI (Xb hx),AZ h0 hx,hat,AP (by omega) (by omega)];rfl
    cases hq:Gv c with
    | true=>
     refine .inr ⟨.ret 3,hb.trans (AI hq),?_⟩;have:v.any Gv=true:=List.any_eq_true.2 ⟨c,Xk hc,hq⟩;rw[Mj,this];rfl
    | false=>
     have a3:(v.take (x+1).toNat).any Gv=false:=by
      rw[show(x+1).toNat=x.toNat+1 from by omega,List.take_add_one,hc,List.any_append,ha];simp[hq]
     exact .inl ⟨x+1,hb.trans (A3 hq),⟨by omega,by omega,a3⟩,by omega⟩
   ·refine .inr ⟨.go (),by unfold Ec;rw[A3 (Xa hx)],?_⟩;rw[show x.toNat=v.length from by omega,XU] at ha;rw[Dc,ha];rfl) F 0 ⟨Xx 0,by omega,by simp⟩ (by simpa using hF)
 rw[AW h1,h2]
theorem Ok:decide (Ij v 0=v.length)=(whole v).isSome:=by
 unfold Ij whole;rw[show v.drop (0:Int).toNat=v from rfl]
 cases hp:HB v with
 | none=>simp
 | some q=>
  obtain⟨f,ys⟩:=q;have h1:=(IQ hp).1;have hl:v.length=f.flat.length+ys.length:=by rw[h1];simp
  cases ys with
  | nil=>simp at hl ⊢;omega
  | cons c r=>simp at hl ⊢;omega
theorem KK (hA:JM M v)(hM:M≤1000000){F:Nat}(hF:4*M+6<F):I1 F v=some (Gf v):=by
 have hvM:=hA.hv;unfold I1;rw[Qg (hA.rf (Xi M)) (λc hc=>(hA.hc c hc).2.2) (by omega),AW rfl,Ok];unfold Gf
 cases hwh:whole v with
 | none=>rfl
 | some f=>
  obtain⟨h1,h2,h3⟩:=LT hwh;rw[A3 (p:=!(some f).isSome) rfl]
  change _=some (Q6 f)
  have hl:v.length=f.flat.length:=by rw[h1]
  have hc:∀c∈f.flat,c.fStr.length≤M∧Cj .i64 c.fInt=true∧c.fN≤9223372036854775807:=λc hc=>hA.hc c (by rw[h1];exact hc);have hb:=NB hM h2 (by omega) hc;have htl:((f.txt true).length:Int)=f.byt:=by rw[JX f false none true h2,QV h3];simp
  have hd0:v.drop (0:Int).toNat=f.flat++[]:=by rw[XB];exact h1
  rw[RF (by omega) (by omega)];unfold Q6 H7;rw[Qf hA (Xx 0) h3 h2 hd0 (by omega),BP (by simp[imp]),RE (by omega) (by omega)];unfold H6;rw[SY hA (Xx 0) h3 h2 hd0 (by omega) (by omega),AW rfl];rw[IR,hl,← h1];have a1:decide ((200:Int)<(v.length:Int))=decide (200<v.length):=by rw[Xt];simp;omega
  have a2:decide ((8:Int)<(f.dep:Int))=decide (8<f.dep):=by rw[Xt];simp;omega
  have a3:decide ((4000:Int)<((f.txt true).length:Int))=decide (4000<(f.txt true).length):=by rw[Xt];simp;omega
  rw[a1,a2,a3]
  cases v.any GX<;>cases v.any Gv<;>cases decide (200<v.length)<;>cases decide (8<f.dep)<;>cases decide (4000<(f.txt true).length)<;>rfl
end
def HS (c:Ac):Bool:=Cj .i64 c.fKind&&Cj .i64 c.fInt&&Ub c.fStr&&Cj .i64 c.fN
theorem Kx (a:Bool):imp a true=true:=by cases a<;>rfl
theorem Sm {f:Fo}(h:Q6 f=0):f.flat.any GX=false∧f.flat.any Gv=false∧f.flat.length≤200∧f.dep≤8∧(f.txt true).length≤4000:=by
 unfold Q6 at h
 cases h1:f.flat.any GX with
 | true=>rw[h1] at h;cases h
 | false=>
  rw[h1] at h
  cases h2:(f.flat.any Gv||(decide (200<f.flat.length)||(decide (8<f.dep)||decide (4000<(f.txt true).length)))) with
  | true=>rw[h2] at h;cases h
  | false=>
   simp only[X8,Xe] at h2;exact⟨rfl,h2.1,by omega,by omega,by omega⟩
theorem NM {α:Type}{a b:List α}{n:Nat}(h:a.take n=b.take n)(h1:a.length≤n)(h2:b.length≤n):a=b:=by
 rw[List.take_of_length_le h1,List.take_of_length_le h2] at h;exact h
theorem Iv {F:Nat}{a b:List Ac}(hF:a.length<F)(hv:a.length≤1152921504606846976):Gz F a b=some (decide (a=b)):=by
 unfold Gz
 by_cases hl:(a.length:Int)=(b.length:Int)
 ·rw[A3 (by simp[hl])];obtain⟨o,h1,h2⟩:=Gi (body:=λσ=>DF a b σ) (λx=>0≤x∧x≤(a.length:Int)∧a.take x.toNat=b.take x.toNat) (λx=>a.length-x.toNat) (λo=>Cf (λ_=>GM) o=some (decide (a=b))) (λx ⟨h0,hx,ht⟩=>by
   by_cases h:x<(a.length:Int)
   ·have hb:x<(b.length:Int):=by omega
    obtain⟨c,hc⟩:∃c,a[x.toNat]? =some c:=⟨a[x.toNat]'(by omega),Xg (by omega)⟩
    obtain⟨d,hd⟩:∃d,b[x.toNat]? =some d:=⟨b[x.toNat]'(by omega),Xg (by omega)⟩
    have ac:Af a x=c:=by simp[Af,hc]
    have bd:Af b x=d:=by simp[Af,hd]
    have heq:(decide (c.fKind=d.fKind)&&decide (c.fInt=d.fInt)&&decide (c.fStr=d.fStr)&&decide (c.fN=d.fN))=decide (c=d):=by
     cases c;cases d
     rw[Xt];simp only[Ac.mk.injEq,Xf,Xc];constructor
     ·rintro⟨⟨⟨h1,h2⟩,h3⟩,h4⟩;exact⟨h1,h2,h3,h4⟩
     ·rintro⟨h1,h2,h3,h4⟩;exact⟨⟨⟨h1,h2⟩,h3⟩,h4⟩
    have hb1:DF a b x=Bq (!decide (c=d)) (some (.out (.ret false))) (some (.next (x+1))):=by
     unfold DF;rw[AI (Xb h),AZ h0 h,AZ h0 hb,ac,bd,heq,AP (by omega) (by omega)]
    by_cases hcd:c=d
    ·refine .inl ⟨x+1,hb1.trans (by rw[A3 (by simp[hcd])]),⟨by omega,by omega,?_⟩,by omega⟩;rw[show(x+1).toNat=x.toNat+1 from by omega,List.take_add_one,List.take_add_one,ht,hc,hd,hcd]
    ·refine .inr ⟨.ret false,hb1.trans (by rw[AI (by simp[hcd])]),?_⟩;rw[Mj,Xa];intro e;subst e;rw[hc] at hd;cases hd;exact hcd rfl
   ·refine .inr ⟨.go (),by unfold DF;rw[A3 (Xa h)],?_⟩;rw[Dc,Xb (NM ht (by omega) (by omega))];rfl) F 0 ⟨Xx 0,by omega,rfl⟩ (by show a.length-0<F;omega)
  rw[AW h1,h2]
 ·rw[AI (by simp[hl]),Xa];intro e;subst e;exact hl rfl
theorem IK {F:Nat}{a b:List Ac}(hF:a.length<F)(hv:a.length≤1152921504606846976):Gj F a b=some (decide (a=b)):=(show Gj F a b=Gz F a b from rfl).trans (Iv hF hv)
theorem Dz {α:Type}{n:Nat}{x:Option α}(h:n≤1000000000):Br (L4 16 n) x=x:=BP (Xb (by omega))
theorem QA {α:Type}{n:Nat}{x:Option α}(h:n≤1000000000):Br (L4 24 n) x=x:=BP (Xb (by omega))
end Go.Proofs.YtfbmdidnlhifjaaGreatDoor
