/-
  Texts of the proof, put together: WNb, QK, PNc, Qw, Iter, QKs, WNc, PNd, Qy, WNd, PNe, WNe, OkEntitySerializes, LvA, LvB, LvC, LvD, LvE, LvF, LvG, LvH, LvI, LvJ.
-/
import Derived.Test.YtfbmdidnlhifjaaGreatDoorES2
import Derived.Sort.KeysCollected
import Derived.Shelf.SlIter.Nil
import Derived.Shelf.SortM.Plain
import Derived.Shelf.SortM.SortNone
import Derived.Test.YtfbmdidnlhifjaaGreatDoorProg
import Derived.LoopN
import GoSem.ClaimData
namespace Go.Proofs.YtfbmdidnlhifjaaGreatDoor.Q
open Go Go.RowKit
set_option linter.unusedVariables false
set_option linter.unusedSimpArgs false
set_option maxRecDepth 100000
set_option maxHeartbeats 4000000
@[reducible] def AT (x:Bd):List Rp:=[Am x.fKind,rS x.fOp.fEntity,rS x.fOp.fID,rS x.fOp.fOp,AL 1 (Au An x.fOp.fArgs),Am x.fNow]
theorem II (x:Bd):(AT x).length=6:=rfl
theorem TJ:∃inf,Tryz.prog.info? 44=some inf∧inf.zero=some (.agg #[(.string ⟨#[]⟩),(.string ⟨#[]⟩),(.string ⟨#[]⟩),(.slice none 0 0),(.int .i64 0),(.slice none 0 0),(.int .i64 0),(.int .i64 0)])∧inf.size=8∧inf.bytes=120:=by
  have key:(Tryz.prog.info? 44).map (λi=>(i.zero,i.size,i.bytes))=some (some (.agg #[(.string ⟨#[]⟩),(.string ⟨#[]⟩),(.string ⟨#[]⟩),(.slice none 0 0),(.int .i64 0),(.slice none 0 0),(.int .i64 0),(.int .i64 0)]),8,120):=by kernel_rfl
  obtain⟨inf,h1,h2⟩:=Option.map_eq_some_iff.1 key;simp only[Prod.mk.injEq] at h2;exact⟨inf,h1,h2.1,h2.2.1,h2.2.2⟩
theorem Td (parts:List (Nat×Value)):Tryz.prog.built 25 parts=Instr.fill (λi=>(#[(0,1),(1,1),(2,1),(3,1)]:Array (Nat×Nat))[i]?) #[(.string ⟨#[]⟩),(.string ⟨#[]⟩),(.string ⟨#[]⟩),((.slice none 0 0))] parts:=by kernel_rfl
theorem I7 {n:Nat}{c:Cx}{l:Fr}{H:List Ent}{d:Option Nat}{ty:TypeId}{pos:String}{af:Array Edge}{g:Option (Nat×Bool)}{x0:Operand}{r0:Rp}(h0:ev l x0=some r0)(u0:r0.one=true){x1:Operand}{r1:Rp}(h1:ev l x1=some r1)(u1:r1.one=true){x2:Operand}{r2:Rp}(h2:ev l x2=some r2)(u2:r2.one=true){x3:Operand}{r3:Rp}(h3:ev l x3=some r3)(u3:r3.one=true):Bk Tryz.prog n c l H { dst:=d,op:=.build 25 #[(0,x0),(1,x1),(2,x2),(3,x3)],type:=ty,pos:=pos,after:=af,guard:=g } (Bc [r0,r1,r2,r3]):=λa w Z ha _=>by
  have p0:=ha.ev h0;have c0:=Bw (r0.hone u0 Z _ p0);have p1:=ha.ev h1;have c1:=Bw (r1.hone u1 Z _ p1);have p2:=ha.ev h2;have c2:=Bw (r2.hone u2 Z _ p2);have p3:=ha.ev h3;have c3:=Bw (r3.hone u3 Z _ p3);have hb:Tryz.prog.built 25 [(0,a.eval x0),(1,a.eval x1),(2,a.eval x2),(3,a.eval x3)]=some #[a.eval x0,a.eval x1,a.eval x2,a.eval x3]:=by
    rw[Td];generalize a.eval x0=v0 at *;generalize a.eval x1=v1 at *;generalize a.eval x2=v2 at *;generalize a.eval x3=v3 at *;simp[Instr.fill,c0,c1,c2,c3]
  refine⟨.agg #[a.eval x0,a.eval x1,a.eval x2,a.eval x3],⟨[a.eval x0,a.eval x1,a.eval x2,a.eval x3],rfl,p0,p1,p2,p3,trivial⟩,?_⟩;have:=run_build w 25 #[(0,a.eval x0),(1,a.eval x1),(2,a.eval x2),(3,a.eval x3)] _ (by simpa using hb);simp[execOp,this]
theorem P0 (parts:List (Nat×Value)):Tryz.prog.built 44 parts=Instr.fill (λi=>(#[(0,4),(4,2),(6,1),(7,1)]:Array (Nat×Nat))[i]?) #[(.string ⟨#[]⟩),(.string ⟨#[]⟩),(.string ⟨#[]⟩),((.slice none 0 0)),(.int .i64 0),((.slice none 0 0)),(.int .i64 0),(.int .i64 0)] parts:=by kernel_rfl
theorem Gt {n:Nat}{c:Cx}{l:Fr}{H:List Ent}{d:Option Nat}{ty:TypeId}{pos:String}{af:Array Edge}{g:Option (Nat×Bool)}:Bk Tryz.prog n c l H { dst:=d,op:=.build 44 #[],type:=ty,pos:=pos,after:=af,guard:=g } (Bc [rS ([]:Ak),rS ([]:Ak),rS ([]:Ak),rv (.slice none 0 0),Am 0,rv (.slice none 0 0),Am 0,Am 0]):=λa w Z ha _=>by
  have hb:Tryz.prog.built 44 []=some #[(.string ⟨#[]⟩),(.string ⟨#[]⟩),(.string ⟨#[]⟩),((.slice none 0 0)),(.int .i64 0),((.slice none 0 0)),(.int .i64 0),(.int .i64 0)]:=by
    rw[P0];simp[Instr.fill,Value.cells]
  refine⟨.agg #[(.string ⟨#[]⟩),(.string ⟨#[]⟩),(.string ⟨#[]⟩),((.slice none 0 0)),(.int .i64 0),((.slice none 0 0)),(.int .i64 0),(.int .i64 0)],⟨[(.string ⟨#[]⟩),(.string ⟨#[]⟩),(.string ⟨#[]⟩),((.slice none 0 0)),(.int .i64 0),((.slice none 0 0)),(.int .i64 0),(.int .i64 0)],rfl,rfl,rfl,rfl,rfl,rfl,rfl,rfl,rfl,trivial⟩,?_⟩;have:=run_build w 44 #[] _ (by simpa using hb);simp[execOp,this]
theorem G5 {n:Nat}{c:Cx}{l:Fr}{H:List Ent}{d:Option Nat}{ty:TypeId}{pos:String}{af:Array Edge}{g:Option (Nat×Bool)}{x0:Operand}{r0_0 r0_1 r0_2 r0_3:Rp}(h0:ev l x0=some (Bc [r0_0,r0_1,r0_2,r0_3])){x2:Operand}{r2:Rp}(h2:ev l x2=some r2)(u2:r2.one=true){x3:Operand}{r3:Rp}(h3:ev l x3=some r3)(u3:r3.one=true):Bk Tryz.prog n c l H { dst:=d,op:=.build 44 #[(0,x0),(2,x2),(3,x3)],type:=ty,pos:=pos,after:=af,guard:=g } (Bc [r0_0,r0_1,r0_2,r0_3,Am 0,rv (.slice none 0 0),r2,r3]):=λa w Z ha _=>by
  obtain⟨us0,e0,q0⟩:=ha.ev h0;obtain⟨y0_0,y0_1,y0_2,y0_3,rfl,q0⟩:=AS.d4 q0;have p2:=ha.ev h2;have c2:=Bw (r2.hone u2 Z _ p2);have p3:=ha.ev h3;have c3:=Bw (r3.hone u3 Z _ p3);have cg:∀cs:Array Value,(Value.agg cs).cells=cs:=λ_=>rfl;have hb:Tryz.prog.built 44 [(0,a.eval x0),(2,a.eval x2),(3,a.eval x3)]=some #[y0_0,y0_1,y0_2,y0_3,(.int .i64 0),((.slice none 0 0)),a.eval x2,a.eval x3]:=by
    rw[P0];generalize a.eval x2=v2 at *;generalize a.eval x3=v3 at *;simp[Instr.fill,e0,c2,c3,cg]
  refine⟨.agg #[y0_0,y0_1,y0_2,y0_3,(.int .i64 0),((.slice none 0 0)),a.eval x2,a.eval x3],⟨[y0_0,y0_1,y0_2,y0_3,(.int .i64 0),((.slice none 0 0)),a.eval x2,a.eval x3],rfl,q0.1,q0.2.1,q0.2.2.1,q0.2.2.2.1,rfl,rfl,p2,p3,trivial⟩,?_⟩;have:=run_build w 44 #[(0,a.eval x0),(2,a.eval x2),(3,a.eval x3)] _ (by simpa using hb);simp[execOp,this]
theorem K4 (id:Ak)(n:Int)(r:Ar)(h:K5 id n=some r):Fn Tryz.prog GE 35 [rS id,Am n] [] (λR H=>R=Bc (Av r)∧H=[]):=by
 refine enter (n:=11) Tryz.func35 Aa Tryz.ntmps35 Aa (λw Z=>?_);unfold K5 at h;refine Ap (BM (cs:=[rS ([]:Ak),rS ([]:Ak),rS ([]:Ak),rv (.slice none 0 0)]) Tryz.zeroValue25 Aa Aa (λb1=>?_));refine BF (wm Aa (wm Aa (wv (r:=Bc [Am 3,Am n,rS ([]:Ak),Am 0]) (EM Aa Aa Aa Aa) (Bm (ys:=([(Ab.mk 3 n ([]:Ak) 0)]:List Ab)) (enc:=Ac) (css:=[[Am 3,Am n,rS ([]:Ak),Am 0]]) (xs:=[.tmp 7]) Cy CW KQ Aa Aa Aa ⟨JV.agg ⟨Up.refl _,Up.refl _,Up.refl _,Up.refl _,trivial⟩,trivial⟩ Aa BG Aa Aa Aa (λb2=>?_)))));refine WL.freeze (i:=0) Aa (Bm (ys:=([([(Ab.mk 3 n ([]:Ak) 0)]:List Ab)]:List (List Ab))) (enc:=An) (css:=[[AL 4 (Au Ac ([(Ab.mk 3 n ([]:Ak) 0)]:List Ab))]]) (xs:=[.tmp 8]) Es DW Tryz.zeroValue22 Aa Aa Aa ⟨JV.one Aa (Up.fact (i:=0) Aa),trivial⟩ Aa Db Aa Aa Aa (λb3=>?_));refine wv (r:=Bc [rS ([120]:Ak),rS id,rS ([97,100,100]:Ak),rv (.slice (some ⟨b3,0,none⟩) 1 1)]) (I7 Aa Aa Aa Aa Aa Aa Aa Aa) (AG (i:=2) D5 Aa Aa Aa ⟨(BZ Aa),(BZ Aa),(BZ Aa),(I4 (i:=0) Aa),trivial⟩ Aa Aa (cs':=[rS ([120]:Ak),rS id,rS ([97,100,100]:Ak),rv (.slice (some ⟨b3,0,none⟩) 1 1)]) Aa (H':=[.row (.slice (some ⟨b3,0,none⟩) 1 1) 22 1 (Au An ([([(Ab.mk 3 n ([]:Ak) 0)]:List Ab)]:List (List Ab))),.fact (.slice (some ⟨b2,0,none⟩) 1 1) (AL 4 (Au Ac ([(Ab.mk 3 n ([]:Ak) 0)]:List Ab))),.blk b1 [rS ([120]:Ak),rS id,rS ([97,100,100]:Ak),rv (.slice (some ⟨b3,0,none⟩) 1 1)] 25]) Aa (A4 (A8 (WK.freeze (i:=0) Aa (WK.upBlk (i:=2) (cs':=[rS ([120]:Ak),rS id,rS ([97,100,100]:Ak),AL 1 (Au An ([([(Ab.mk 3 n ([]:Ak) 0)]:List Ab)]:List (List Ab)))]) Aa ⟨Up.refl _,Up.refl _,Up.refl _,Up.fact (i:=0) Aa,trivial⟩ ?_)))));obtain rfl:=A9 h;exact A7 (Ci Tryz.results35 (BX (i:=2) Ii D5 Aa Aa Aa)) (sS (sS (sS sN))) ⟨Aa,Aa⟩
theorem Nz (F:Nat)(a:(List Ak))(b:(List Ak))(r:Bool)(h:Ml F a b=some r):Fn Tryz.prog GE 23 [AL 1 (Au eS a),AL 1 (Au eS b)] [] (λR H=>R=rB r∧H=[]):=by
 refine enter (n:=26) Tryz.func23 Aa Tryz.ntmps23 Aa (λw Z=>?_);unfold Ml at h;refine Ap (wa Aa (A4 (A2 (Ap (wm Aa (wv (Bl (ys:=a) (enc:=eS) LH Aa) (wm Aa (wv (Bl (ys:=b) (enc:=eS) LH Aa) (wv (Ey Aa Aa) (A4 (cz h Aa (λc1 h2=>?_) (λc1 h3=>?_))))))))))))
 ·refine Ap (wa Aa (A4 (A8 (Al ?_))));obtain rfl:=A9 h2;exact A7 (Ci Tryz.results23 (AV Aa)) sN ⟨Aa,Aa⟩
 ·refine AD (Be (A2 (Ap (wm Aa (wv (Bl (ys:=a) (enc:=eS) LH Aa) (wv (r:=Am 0) (Ay Aa) (A4 (AX (ob h3 λhg hh hf=>BP (S:=Nat×(Int)×(Unit)) (V:=(Unit)×(Unit)) 0 (λσ=>BD (λσ=>Hz a b σ) σ.1 σ.2.1=some hg) (λσ=>[(0,AL 1 (Au eS a)),(1,AL 1 (Au eS b)),(12,Am (a.length:Int)),(13,Am σ.2.1)]) (λσ=>[]) (λσ=>σ.1) (F,0,()) hh (AZ.c Aa (AZ.c Aa (AZ.c Aa (AZ.c Aa AZ.nil)))) sN (λσ=>Hy =some r) (λσ=>[]) (λσ=>[]) ?_ ?_)))))))))
  ·rintro⟨h1,ha,⟨⟩⟩ hi;refine C4 (l':=[(0,AL 1 (Au eS a)),(1,AL 1 (Au eS b)),(12,Am (a.length:Int)),(13,Am ha)]) (H':=[]) Aa Aa ?_;obtain⟨hj,rfl,hk,hb,he⟩:=DR hi;replace hb:Hz a b ha=some hk:=hb;unfold Hz at hb;refine Ap (wv (E8 Aa Aa) (A4 (A2 (cz hb Aa (λhl hm=>?_) (λhl hn=>?_)))))
   ·refine AD (Be (A2 (AX (Ap (wm Aa (wa Aa (A4 (A2 (ck hm λho hp=>ck hp λhq hr=>Et [0,1,5,12,13] [⟨[],AL 1 (Au eS a),0⟩,⟨[],Am ha,0⟩,⟨[0,1],Lt [rS (Ae a ha)],0⟩,⟨[2],rS (Ae a ha),0⟩,⟨[],AL 1 (Au eS b),0⟩,⟨[],Am ha,0⟩,⟨[4,5],Lt [rS (Ae b ha)],0⟩,⟨[6],rS (Ae b ha),0⟩,⟨[3,7],rB (!decide ((Ae a ha)=(Ae b ha))),0⟩] [24,0,1,12,13] ?_ ?_)))))))))
    ·refine oq (Ay Aa) (oq (Ay Aa) (oq (By (enc:=eS) (ys:=a) LH Eh Aa Aa ho) (oq (Bs EI Aa Aa) (oq (Ay Aa) (oq (Ay Aa) (oq (By (enc:=eS) (ys:=b) LH Eh Aa Aa hq) (oq (Bs EI Aa Aa) (oq (Ru Aa Aa) ?_))))))));exact Dk
    refine Be (cz hr Aa (λhs ht=>?_) (λhs hu=>?_))
    ·refine Ap (wa Aa (A4 (A8 (AM (Al (Al (B0 ?_)))))));have hw:=Cj ht he hf;refine AM (Al ?_);obtain rfl:=A9 hw;exact A7 (Ci Tryz.results23 (AV Aa)) sN ⟨Aa,Aa⟩
    ·refine AD (Bi (Be (AB (ck hu λhx hy=>wv (Cz Aa Aa hx) (wm Aa (A5 ?_))))));have hz:=BQ hy he;exact AO (AY (hj,ha+1,()) ⟨hz,Vn _⟩ (AZ.c Aa (AZ.c Aa (AZ.c Aa (AZ.c Aa AZ.nil)))) sN)
   ·refine BL (AE ?_);have h0:=CB hn he hf;exact AE (B1 (AY ((),()) h0 AZ.nil sN))
  ·rintro⟨⟨⟩,⟨⟩⟩ hd;refine DK (l':=[]) (H':=[]) Aa Aa ?_;replace hd:Hy =some r:=hd;unfold Hy at hd;refine Bv (Be (Ap (wa Aa (A4 (A8 ?_)))));obtain rfl:=A9 hd;exact A7 (Ci Tryz.results23 (AV Aa)) sN ⟨Aa,Aa⟩
theorem RE (F:Nat)(v:(List Ab))(r:Bool)(h:K1 F v=some r):Fn Tryz.prog GE 8 [AL 4 (Au Ac v)] [] (λR H=>R=rB r∧H=[]):=by
 refine enter (n:=20) Tryz.func8 Aa Tryz.ntmps8 Aa (λw Z=>?_);unfold K1 at h;refine Ap (wa Aa (A4 (A2 (Ap (wm Aa (wv (Bl (ys:=v) (enc:=Ac) Cy Aa) (wv (Ez Aa Aa) (A4 (cz h Aa (λc1 h2=>?_) (λc1 h3=>?_))))))))))
 ·refine Ap (wa Aa (A4 (A8 (Al ?_))));obtain rfl:=A9 h2;exact A7 (Ci Tryz.results8 (AV Aa)) sN ⟨Aa,Aa⟩
 ·refine AD (Be (A2 (Ap (wm Aa (wv (Bl (ys:=v) (enc:=Ac) Cy Aa) (wv (r:=Am 0) (Ay Aa) (A4 (AX (ob h3 λhg hh hf=>BP (S:=Nat×(Int)×(Unit)) (V:=(Unit)×(Unit)) 0 (λσ=>BD (λσ=>Eq v σ) σ.1 σ.2.1=some hg) (λσ=>[(0,AL 4 (Au Ac v)),(8,Am (v.length:Int)),(9,Am σ.2.1)]) (λσ=>[]) (λσ=>σ.1) (F,0,()) hh (AZ.c Aa (AZ.c Aa (AZ.c Aa AZ.nil))) sN (λσ=>H3 =some r) (λσ=>[]) (λσ=>[]) ?_ ?_)))))))))
  ·rintro⟨hy,hd,⟨⟩⟩ hi;refine C4 (l':=[(0,AL 4 (Au Ac v)),(8,Am (v.length:Int)),(9,Am hd)]) (H':=[]) Aa Aa ?_;obtain⟨hj,rfl,t37,ha,he⟩:=DR hi;replace ha:Eq v hd=some t37:=ha;unfold Eq at ha;refine Ap (wv (E8 Aa Aa) (A4 (A2 (cz ha Aa (λhk hl=>?_) (λhk hm=>?_)))))
   ·refine AD (Be (A2 (AX (Ap (wm Aa (wa Aa (BF (wm Aa (wm Aa (ck hl λhn ho=>wv (By (enc:=Ac) (ys:=v) Cy CW Aa Aa hn) (wv (Bn BS Aa Eh Aa Aa) (wv (Bs EI Aa Aa) (wv (CS G1 Aa) (wv (Ez Aa Aa) (A4 (cz ho Aa (λhp hq=>?_) (λhp hr=>?_)))))))))))))))))
    ·refine Ap (wa Aa (A4 (A8 (AM (Al (Al (B0 ?_)))))));have hs:=Cj hq he hf;refine AM (Al ?_);obtain rfl:=A9 hs;exact A7 (Ci Tryz.results8 (AV Aa)) sN ⟨Aa,Aa⟩
    ·refine AD (Bi (Be (AB (ck hr λht hu=>wv (Cz Aa Aa ht) (wm Aa (A5 ?_))))));have hw:=BQ hu he;exact AO (AY (hj,hd+1,()) ⟨hw,Vn _⟩ (AZ.c Aa (AZ.c Aa (AZ.c Aa AZ.nil))) sN)
   ·refine BL (AE ?_);have hx:=CB hm he hf;exact AE (B1 (AY ((),()) hx AZ.nil sN))
  ·rintro⟨⟨⟩,⟨⟩⟩ hb;refine DK (l':=[]) (H':=[]) Aa Aa ?_;replace hb:H3 =some r:=hb;unfold H3 at hb;refine Bv (Be (Ap (wa Aa (A4 (A8 ?_)))));obtain rfl:=A9 hb;exact A7 (Ci Tryz.results8 (AV Aa)) sN ⟨Aa,Aa⟩
theorem RD (F:Nat)(op:Ar)(r:Bool)(h:K0 F op=some r):Fn Tryz.prog GE 9 [Bc (Av op)] [] (λR H=>R=rB r∧H=[]):=by
 refine enter (n:=40) Tryz.func9 Aa Tryz.ntmps9 Aa (λw Z=>?_);unfold K0 at h;refine Ap (BJ Aa Aa (λb1=>?_));refine wa Aa (A4 (A2 (AW [(1,rP b1 0),(25,rB ((decide (100<(op.fEntity.length:Int)))||((decide (100<(op.fID.length:Int)))||((decide (100<(op.fOp.length:Int)))||(decide (4<(op.fArgs.length:Int)))))))] [.blk b1 (Av op) 25] ?_ ?_)))
 ·refine AB (vF Cs Aa Eh (vL 0 EI Aa (wv (CS G1 Aa) (wv (Ez Aa Aa) (wm Aa (Bb (decide (100<(op.fEntity.length:Int))) (λc2=>?_) (λc2=>?_)))))))
  ·refine wf c2 (wf c2 (wf c2 (wf c2 (wv (r:=rB true) (A6 Aa c2 Aa) (wm Aa (wz Aa Aa (wz Aa Aa (wz Aa Aa (wz Aa Aa (wv (r:=rB true) (A6 (b:=true) Aa Aa Aa) (wm Aa (wz Aa Aa (wz Aa Aa (wz Aa Aa (wz Aa Aa (wv (r:=rB true) (A6 (b:=true) Aa Aa Aa) (A5 ?_)))))))))))))))));exact Dc c2
  ·refine wo c2 (vF Cs Aa Eh (wo c2 (vL 0 EI Aa (wo c2 (wv (CS G1 Aa) (wo c2 (wv (Ez Aa Aa) (Ju Aa c2 Aa (wm Aa (Bb (decide (100<(op.fID.length:Int))) (λc3=>?_) (λc3=>?_)))))))))))
   ·refine wf c3 (wf c3 (wf c3 (wf c3 (wv (r:=rB true) (A6 Aa c3 Aa) (wm Aa (wz Aa Aa (wz Aa Aa (wz Aa Aa (wz Aa Aa (wv (r:=rB true) (A6 (b:=true) Aa Aa Aa) (A5 ?_)))))))))));exact Dc (And.intro c2 c3)
   ·refine wo c3 (vF Cs Aa Eh (wo c3 (vL 0 EI Aa (wo c3 (wv (CS G1 Aa) (wo c3 (wv (Ez Aa Aa) (Ju Aa c3 Aa (wm Aa (Bb (decide (100<(op.fOp.length:Int))) (λc4=>?_) (λc4=>?_)))))))))))
    ·refine wf c4 (wf c4 (wf c4 (wf c4 (wv (r:=rB true) (A6 Aa c4 Aa) (A5 ?_)))));exact Dc (And.intro c2 (And.intro c3 c4))
    ·refine wo c4 (vF Cs Aa GD (wo c4 (vL 0 IP Aa (wo c4 (wv (Bl (ys:=op.fArgs) (enc:=An) Es Aa) (wo c4 (wv (Ez Aa Aa) (Ju Aa c4 Aa (A5 ?_)))))))));exact Dc (And.intro c2 (And.intro c3 c4))
 refine cz h Aa (λc5 h6=>?_) (λc5 h7=>?_)
 ·refine Ap (wa Aa (A4 (A8 (Al ?_))));obtain rfl:=A9 h6;exact A7 (Ci Tryz.results9 (AV Aa)) (sS sN) ⟨Aa,Aa⟩
 ·refine AD (Be (A2 (Ap (vF Cs Aa GD (vL 0 IP Aa (wv (Bl (ys:=op.fArgs) (enc:=An) Es Aa) (wv (r:=Am 0) (Ay Aa) (A4 (AX (ob h7 λhg hh hf=>BP (S:=Nat×(Int)×(Unit)) (V:=(Unit)×(Unit)) 0 (λσ=>BD (λσ=>Ep F op σ) σ.1 σ.2.1=some hg) (λσ=>[(1,rP b1 0),(28,Am (op.fArgs.length:Int)),(29,Am σ.2.1)]) (λσ=>[.blk b1 (Av op) 25]) (λσ=>σ.1) (F,0,()) hh (AZ.c Aa (AZ.c Aa (AZ.c Aa AZ.nil))) (sC sN) (λσ=>H0 =some r) (λσ=>[]) (λσ=>[]) ?_ ?_))))))))))
  ·rintro⟨h2,ha,⟨⟩⟩ hi;refine C4 (l':=[(1,rP b1 0),(28,Am (op.fArgs.length:Int)),(29,Am ha)]) (H':=[.blk b1 (Av op) 25]) Aa Aa ?_;obtain⟨hj,rfl,hk,hb,he⟩:=DR hi;replace hb:Ep F op ha=some hk:=hb;unfold Ep at hb;refine Ap (wv (E8 Aa Aa) (A4 (A2 (cz hb Aa (λhl hm=>?_) (λhl hn=>?_)))))
   ·refine AD (Be (A2 (AX (Ap (wm Aa (wa Aa (BF (vF Cs Aa GD (vL 0 IP Aa (wm Aa (ck hm λho hp=>wv (By (enc:=An) (ys:=op.fArgs) Es DW Aa Aa ho) (wv (Bs Gh Aa Aa) (ob hp λhq hr hs=>DI Tryz.call8 (RE F (Ae op.fArgs ha) hq hr) Aa (wv (Cd Aa) (A4 (cz hs Aa (λht hu=>?_) (λht hw=>?_)))))))))))))))))
    ·refine Ap (wa Aa (A4 (A8 (AM (Al (Al (B0 ?_)))))));have hx:=Cj hu he hf;refine AM (Al ?_);obtain rfl:=A9 hx;exact A7 (Ci Tryz.results9 (AV Aa)) (sS sN) ⟨Aa,Aa⟩
    ·refine AD (Bi (Be (AB (ck hw λhy hz=>wv (Cz Aa Aa hy) (wm Aa (A5 ?_))))));have h0:=BQ hz he;exact AO (AY (hj,ha+1,()) ⟨h0,Vn _⟩ (AZ.c Aa (AZ.c Aa (AZ.c Aa AZ.nil))) (sC sN))
   ·refine BL (AE ?_);have h1:=CB hn he hf;exact AE (B1 (AY ((),()) h1 AZ.nil (sS sN)))
  ·rintro⟨⟨⟩,⟨⟩⟩ hd;refine DK (l':=[]) (H':=[]) Aa Aa ?_;replace hd:H0 =some r:=hd;unfold H0 at hd;refine Bv (Be (Ap (wa Aa (A4 (A8 ?_)))));obtain rfl:=A9 hd;exact A7 (Ci Tryz.results9 (AV Aa)) sN ⟨Aa,Aa⟩
theorem Oy (F:Nat)(l:(List Bd))(r:Bool)(h:D3 F l=some r):Fn Tryz.prog GE 15 [AL 6 (Au AT l)] [] (λR H=>R=rB r∧H=[]):=by
 refine enter (n:=20) Tryz.func15 Aa Tryz.ntmps15 Aa (λw Z=>?_);unfold D3 at h;refine Ap (wa Aa (A4 (A2 (Ap (wm Aa (wv (Bl (ys:=l) (enc:=AT) LI Aa) (wv (Ez Aa Aa) (A4 (cz h Aa (λc1 h2=>?_) (λc1 h3=>?_))))))))))
 ·refine Ap (wa Aa (A4 (A8 (Al ?_))));obtain rfl:=A9 h2;exact A7 (Ci Tryz.results15 (AV Aa)) sN ⟨Aa,Aa⟩
 ·refine AD (Be (A2 (Ap (wm Aa (wv (Bl (ys:=l) (enc:=AT) LI Aa) (wv (r:=Am 0) (Ay Aa) (A4 (AX (ob h3 λhg hh hf=>BP (S:=Nat×(Int)×(Unit)) (V:=(Unit)×(Unit)) 0 (λσ=>BD (λσ=>Ds F l σ) σ.1 σ.2.1=some hg) (λσ=>[(0,AL 6 (Au AT l)),(8,Am (l.length:Int)),(9,Am σ.2.1)]) (λσ=>[]) (λσ=>σ.1) (F,0,()) hh (AZ.c Aa (AZ.c Aa (AZ.c Aa AZ.nil))) sN (λσ=>EG =some r) (λσ=>[]) (λσ=>[]) ?_ ?_)))))))))
  ·rintro⟨h1,ha,⟨⟩⟩ hi;refine C4 (l':=[(0,AL 6 (Au AT l)),(8,Am (l.length:Int)),(9,Am ha)]) (H':=[]) Aa Aa ?_;obtain⟨hj,rfl,t46,hb,he⟩:=DR hi;replace hb:Ds F l ha=some t46:=hb;unfold Ds at hb;refine Ap (wv (E8 Aa Aa) (A4 (A2 (cz hb Aa (λhk hl=>?_) (λhk hm=>?_)))))
   ·refine AD (Be (A2 (AX (Ap (wm Aa (wa Aa (BF (wm Aa (wm Aa (ck hl λhn ho=>wv (By (enc:=AT) (ys:=l) LI PC Aa Aa hn) (wv (Bn PB Aa D5 Aa Aa) (wv (CR Ii D5 Aa Aa Aa) (ob ho λhp hq hr=>DI Tryz.call9 (RD F ((Ae l ha).fOp) hp hq) Aa (wv (Cd Aa) (A4 (cz hr Aa (λhs ht=>?_) (λhs hu=>?_)))))))))))))))))
    ·refine Ap (wa Aa (A4 (A8 (AM (Al (Al (B0 ?_)))))));have hw:=Cj ht he hf;refine AM (Al ?_);obtain rfl:=A9 hw;exact A7 (Ci Tryz.results15 (AV Aa)) sN ⟨Aa,Aa⟩
    ·refine AD (Bi (Be (AB (ck hu λhx hy=>wv (Cz Aa Aa hx) (wm Aa (A5 ?_))))));have hz:=BQ hy he;exact AO (AY (hj,ha+1,()) ⟨hz,Vn _⟩ (AZ.c Aa (AZ.c Aa (AZ.c Aa AZ.nil))) sN)
   ·refine BL (AE ?_);have h0:=CB hm he hf;exact AE (B1 (AY ((),()) h0 AZ.nil sN))
  ·rintro⟨⟨⟩,⟨⟩⟩ hd;refine DK (l':=[]) (H':=[]) Aa Aa ?_;replace hd:EG =some r:=hd;unfold EG at hd;refine Bv (Be (Ap (wa Aa (A4 (A8 ?_)))));obtain rfl:=A9 hd;exact A7 (Ci Tryz.results15 (AV Aa)) sN ⟨Aa,Aa⟩
theorem K3 (F:Nat)(a:Ax)(b:Ax)(r:Bool)(h:Cm F a b=some r):Fn Tryz.prog GE 14 [Bc (A0 a),Bc (A0 b)] [] (λR H=>R=rB r∧H=[]):=by
 refine enter (n:=17) Tryz.func14 Aa Tryz.ntmps14 Aa (λw Z=>?_);unfold Cm at h;refine Ap (BJ Aa Aa (λb1=>?_));refine BJ Aa Aa (λb2=>?_);refine wa Aa (A4 (ck h λg3 h4=>AW [(4,rB ((decide (a.fErr=b.fErr))&&(ov (E9 F a.fValue b.fValue))))] [] ?_ ?_))
 ·refine AB (vF MA Aa Tryz.sizeOf29 (vL 1 Tryz.isAgg29 Aa (vF MA Aa Tryz.sizeOf29 (vL 0 Tryz.isAgg29 Aa (wv (BV Aa Aa) (wm Aa (Bb (decide (a.fErr=b.fErr)) (λc5=>?_) (λc5=>?_))))))))
  ·refine wo c5 (vF MA Aa DW (wo c5 (vL 1 Gh Aa (wo c5 (vF MA Aa DW (wo c5 (vL 0 Gh Aa (wo c5 (DI Tryz.call13 (OS F a.fValue b.fValue (ov (E9 F a.fValue b.fValue)) (Oi (GW g3 c5))) Aa (Ij Aa c5 Aa (wa Aa (A5 ?_))))))))))));exact Dc c5
  ·refine wf c5 (wf c5 (wf c5 (wf c5 (wf c5 (wv (r:=rB false) (AP Aa c5 Aa) (wa Aa (A5 ?_)))))));exact Dc c5
 refine A8 ?_;obtain rfl:=A9 h4;exact A7 (Ci Tryz.results14 (AV Aa)) sN ⟨Aa,Aa⟩
end Go.Proofs.YtfbmdidnlhifjaaGreatDoor.Q
namespace Go.Proofs.YtfbmdidnlhifjaaGreatDoor
open Go
def O0 {T:Type}(xs:List (Ak×T)):Bool:=decide (xs.length*16≤140737488355328)&&xs.all λp=>Sk p.1
def Ly {T:Type}(xs:List (Ak×T)):List Ak:=(xs.map (·.1)).mergeSort λx y=>decide (x≤y)
end Go.Proofs.YtfbmdidnlhifjaaGreatDoor
namespace Go.Proofs.YtfbmdidnlhifjaaGreatDoor.Q
open Go Go.RowKit Go.ChangeMaps
set_option linter.unusedVariables false
set_option linter.unusedSimpArgs false
def RU:Value→Option (DataW Unit×List MemPlace):=λ_=>some (.nil,[])
theorem T8 {P:Program}{k:TypeId}(hkt:P.underlying k=some .string){e:MapEntry}{s:Ak}(he:e.key = .string (B s))(hs:s.length≤maxLen):WideElems.rd P k RU e=some (.string s,.nil):=by
 obtain⟨key,val,born⟩:=e;simp only at he;subst he;exact WideElems.rd_mk (yv:=(.nil,[])) (by simp[keyOf,hkt,mapKey,B];exact hs) rfl
theorem If.rgs {P:Program}{k:TypeId}(hkt:P.underlying k=some .string){Z:Fz}:∀{f:List (Ak×Rp)} {es:List MapEntry},If Z f es→(∀p∈f,p.1.length≤maxLen)→es.map (WideElems.rg P k RU)=f.map (λp=>(Lit.string p.1,(.nil:DataW Unit)))∧(∀x∈es,∃y,WideElems.rd P k RU x=some y)∧es.map (·.key)=f.map λp=>Value.string (B p.1)
 | [],[],_,_=>⟨rfl,(λ_ h=>by cases h),rfl⟩
 | p::f,e::es,⟨⟨h1,_⟩,h2⟩,hk=>by
  obtain⟨a1,a2,a3⟩:=If.rgs hkt h2 λq hq=>hk q (List.mem_cons_of_mem _ hq);have hr:=T8 hkt h1 (hk p (List.mem_cons_self ..));refine⟨?_,λx hx=>?_,?_⟩
  ·rw[V0,V0,a1,WideElems.rg_of hr]
  ·rcases List.mem_cons.1 hx with rfl | hx
   ·exact⟨_,hr⟩
   ·exact a2 x hx
  ·rw[V0,V0,a3,h1]
theorem SC {P:Program}{k:TypeId}(hkt:P.underlying k=some .string){w:World}{Z:Fz}{b:Nat}{m:List (Ak×Rp)}{es:Array MapEntry}{ck:Nat}(hb:w.heap[b]? =some (.map es ck))(hm:DU Z m es.toList ck)(hk:∀p∈m,p.1.length≤maxLen)(hsz:m.length≤maxLen) :
  ∃D0:DataW Unit,w.ownsMap P k RU b es.size D0∧(strKeys D0).Perm (m.map (·.1))∧Maps.size D0=m.length:=by
 obtain⟨h1,h2,h3,f,h4,h5⟩:=hm;obtain⟨a1,a2,a3⟩:=If.rgs hkt h5 λp hp=>hk p (h4.subset hp);have hlen:es.size=m.length:=by
  have e:=congrArg List.length a3;simp only[Vg,Array.length_toList] at e;rw[e];exact h4.length_eq
 have hkey:es.toList.Pairwise (λx y=>x.key≠y.key):=by
  have e:(es.toList.map (·.key)).Nodup:=by
   rw[a3];have hf:(f.map (·.1)).Nodup:=(h4.map _).nodup_iff.2 h1;have:f.map (λp=>Value.string (B p.1))=(f.map (·.1)).map λs=>Value.string (B s):=by rw[VK];rfl
   rw[this];refine List.Pairwise.map _ (λx y hxy e=>hxy ?_) hf;simp[B] at e;exact e
  exact List.pairwise_map.1 e
 refine⟨.map ((es.toList.map (WideElems.rg P k RU)).foldr DataW.insert []),⟨es,ck,hb,⟨by rw[hlen];exact hsz,(MapKept.stamped_iff es ck).2 ⟨h3,h2,hkey⟩,a2⟩,Vh _,rfl⟩,?_,?_⟩
 ·show(((es.toList.map (WideElems.rg P k RU)).foldr DataW.insert []).map λp=>strOf p.1).Perm _;rw[a1];refine((WideShapes.sorted_perm _).map _).trans ?_;rw[VK];exact h4.map _
 ·show((es.toList.map (WideElems.rg P k RU)).foldr DataW.insert []).length=_;rw[length_sorted,Vg,Array.length_toList,hlen]
theorem Og {w:World}{a b:Nat}{e:TypeId}{sz n:Nat}{v:Value}{us:List Value}(h:w.ownsRow a e sz v n us)(hb:b≤a):w.ownsRow b e sz v n us:=by
 refine⟨h.1,?_⟩;rcases h.2 with hn | ⟨g,cap,cur,rfl,hg,rest⟩
 ·exact .inl hn
 ·exact .inr ⟨g,cap,cur,rfl,Nat.le_trans hb hg,rest⟩
theorem Nd {w:World}{a:Nat}{e:TypeId}{sz n:Nat}{v:Value}{us:List Value}(h:w.ownsRow a e sz v n us):∀k∈v.ownBlock.toList,a≤k:=by
 rcases h.2 with⟨rfl,_⟩ | ⟨g,cap,cur,rfl,hg,rest⟩
 ·intro k hk;simp[Value.ownBlock] at hk
 ·intro k hk;simp[Value.ownBlock] at hk;omega
theorem St.newrow {c:Cx}{H:List Ent}{Z:Fz}{w w':World}(h:St c H Z w)(hb:Below w.heap.size w w'){v:Value}{e:TypeId}{ys:List Ak}(hr:w'.ownsRow w.heap.size e 1 v ys.length (ys.map Go.Proofs.encStr)):St c (.row v e 1 (ys.map eS)::H) Z w':=by
 refine h.add hb.os hb.tape hb.output hb.size (λk hk=>hb.block k hk) ⟨λc hc=>?_,ys.map Go.Proofs.encStr,?_,?_⟩ (λk hk=>Nd hr k hk)
 ·obtain⟨y,_,rfl⟩:=List.mem_map.1 hc;rfl
 ·rw[Vg];exact Og hr (Vw _)
 ·clear hr
  induction ys with
  | nil=>exact trivial
  | cons y r ih=>exact⟨by show Go.Proofs.encStr y=Value.string (B y);rfl,ih⟩
end Go.Proofs.YtfbmdidnlhifjaaGreatDoor.Q
namespace Go.Proofs.YtfbmdidnlhifjaaGreatDoor
open Go
set_option linter.unusedVariables false
structure Aq where
 fNow:Int
 fEntities:(List (Ak×Int))
 fCalls:(List (Ak×Int))
 deriving DecidableEq,Inhabited
structure Ah where
 fState:(List Ab)
 fCalls:(List Int)
 fDone:Int
 deriving DecidableEq,Inhabited
def R0 :Option ((Aq×(List Ah)×(List Ai))):=
 some ((Aq.mk 0 ([]:List (Ak×Int)) ([]:List (Ak×Int))),([]:List Ah),([]:List Ai))
def Tt (d:Aq):Option (Bool):=
 some true
def Cv (F:Nat)(d:Aq)(d_p1:(List Ah))(d_p2:(List Ai))(op:Ar)(now:Int):Option (Int×Aq×(List Ah)×(List Ai)):=
 Bp (Jh F op) λr2=>Bg (!decide (r2=0)) (some (r2,d,d_p1,d_p2)) (Bg (((decide (now<0))||(decide (1073741824<now)))) (some (2,d,d_p1,d_p2)) (Bg (decide (now<d.fNow)) (some (11,d,d_p1,d_p2)) (Bg (Bq d.fCalls op.fID) (Ba (decide (0≤(Aw d.fCalls op.fID (-1))))<|Ba (BK (Aw d.fCalls op.fID (-1)) (d_p2.length:Int))<|Bp (Np F ((Ae d_p2 (Aw d.fCalls op.fID (-1))).fOp) op) λhb=>Bg (!hb) (some (19,d,d_p1,d_p2)) (some (0,(Aq.mk now d.fEntities d.fCalls),d_p1,d_p2))) (Bg (((decide ((d.fCalls.length:Int)=256))||((!(Bq d.fEntities op.fEntity))&&(decide ((d.fEntities.length:Int)=256))))) (some (3,d,d_p1,d_p2)) (Bg (!(Bq d.fEntities op.fEntity)) (Bp (Lj) λha=>Bp (HV F op) λhd=>Ba (BK (d_p1.length:Int) ((d_p1++[(Ah.mk ha ([]:List Int) 0)]).length:Int))<|Ba (Lb 8 (((Ae (d_p1++[(Ah.mk ha ([]:List Int) 0)]) (d_p1.length:Int)).fCalls).length+([(d_p2.length:Int)]:List Int).length))<|some (0,(Aq.mk now (mset d.fEntities op.fEntity (d_p1.length:Int)) (mset d.fCalls op.fID (d_p2.length:Int))),List.set (d_p1++[(Ah.mk ha ([]:List Int) 0)]) (Int.toNat (d_p1.length:Int)) (Ah.mk ((Ae (d_p1++[(Ah.mk ha ([]:List Int) 0)]) (d_p1.length:Int)).fState) (((Ae (d_p1++[(Ah.mk ha ([]:List Int) 0)]) (d_p1.length:Int)).fCalls)++([(d_p2.length:Int)]:List Int)) ((Ae (d_p1++[(Ah.mk ha ([]:List Int) 0)]) (d_p1.length:Int)).fDone)),d_p2++[(Ai.mk hd (Ax.mk 0 ([]:List Ab)) now (-1))])) (Bp (HV F op) λhe=>Ba (BK (Aw d.fEntities op.fEntity (-1)) (d_p1.length:Int))<|Ba (Lb 8 (((Ae d_p1 (Aw d.fEntities op.fEntity (-1))).fCalls).length+([(d_p2.length:Int)]:List Int).length))<|some (0,(Aq.mk now d.fEntities (mset d.fCalls op.fID (d_p2.length:Int))),List.set d_p1 (Int.toNat (Aw d.fEntities op.fEntity (-1))) (Ah.mk ((Ae d_p1 (Aw d.fEntities op.fEntity (-1))).fState) (((Ae d_p1 (Aw d.fEntities op.fEntity (-1))).fCalls)++([(d_p2.length:Int)]:List Int)) ((Ae d_p1 (Aw d.fEntities op.fEntity (-1))).fDone)),d_p2++[(Ai.mk he (Ax.mk 0 ([]:List Ab)) now (-1))])))))))
def CH (F:Nat)(d:Aq)(d_p1:(List Ah))(d_p2:(List Ai))(e:Ak)(now:Int)(x5:Bool):Option (Ai×Bool×Aq×(List Ah)×(List Ai)):=
 Bg (x5) (some ((Ai.mk (Ar.mk ([]:Ak) ([]:Ak) ([]:Ak) ([]:List (List Ab))) (Ax.mk 0 ([]:List Ab)) 0 0),false,d,d_p1,d_p2)) (Bg (Bq d.fEntities e) (Ba (BK (Aw d.fEntities e (-1)) (d_p1.length:Int))<|Bg (decide (((Ae d_p1 (Aw d.fEntities e (-1))).fDone)=(((Ae d_p1 (Aw d.fEntities e (-1))).fCalls).length:Int))) (some ((Ai.mk (Ar.mk ([]:Ak) ([]:Ak) ([]:Ak) ([]:List (List Ab))) (Ax.mk 0 ([]:List Ab)) 0 0),false,d,d_p1,d_p2)) (Ba (BK ((Ae d_p1 (Aw d.fEntities e (-1))).fDone) (((Ae d_p1 (Aw d.fEntities e (-1))).fCalls).length:Int))<|Ba (decide (0≤(Ae ((Ae d_p1 (Aw d.fEntities e (-1))).fCalls) ((Ae d_p1 (Aw d.fEntities e (-1))).fDone))))<|Ba (BK (Ae ((Ae d_p1 (Aw d.fEntities e (-1))).fCalls) ((Ae d_p1 (Aw d.fEntities e (-1))).fDone)) (d_p2.length:Int))<|Bp (TW F ((Ae d_p1 (Aw d.fEntities e (-1))).fState) ((Ae d_p2 (Ae ((Ae d_p1 (Aw d.fEntities e (-1))).fCalls) ((Ae d_p1 (Aw d.fEntities e (-1))).fDone))).fOp)) λhd=>Bg (!decide (hd.2.2=0)) (some ((Ai.mk (Ar.mk ([]:Ak) ([]:Ak) ([]:Ak) ([]:List (List Ab))) (Ax.mk 0 ([]:List Ab)) 0 0),false,d,d_p1,d_p2)) (Ba (BB .i64 (((Ae d_p1 (Aw d.fEntities e (-1))).fDone)+1))<|NI (List.set d_p2 (Int.toNat (Ae ((Ae d_p1 (Aw d.fEntities e (-1))).fCalls) ((Ae d_p1 (Aw d.fEntities e (-1))).fDone))) (Ai.mk ((Ae d_p2 (Ae ((Ae d_p1 (Aw d.fEntities e (-1))).fCalls) ((Ae d_p1 (Aw d.fEntities e (-1))).fDone))).fOp) hd.2.1 ((Ae d_p2 (Ae ((Ae d_p1 (Aw d.fEntities e (-1))).fCalls) ((Ae d_p1 (Aw d.fEntities e (-1))).fDone))).fFrom) ((Ae d_p2 (Ae ((Ae d_p1 (Aw d.fEntities e (-1))).fCalls) ((Ae d_p1 (Aw d.fEntities e (-1))).fDone))).fTo))) λhb=>Ba (BK (Ae ((Ae d_p1 (Aw d.fEntities e (-1))).fCalls) ((Ae d_p1 (Aw d.fEntities e (-1))).fDone)) (hb.length:Int))<|NI (List.set hb (Int.toNat (Ae ((Ae d_p1 (Aw d.fEntities e (-1))).fCalls) ((Ae d_p1 (Aw d.fEntities e (-1))).fDone))) (Ai.mk ((Ae hb (Ae ((Ae d_p1 (Aw d.fEntities e (-1))).fCalls) ((Ae d_p1 (Aw d.fEntities e (-1))).fDone))).fOp) ((Ae hb (Ae ((Ae d_p1 (Aw d.fEntities e (-1))).fCalls) ((Ae d_p1 (Aw d.fEntities e (-1))).fDone))).fAnswer) ((Ae hb (Ae ((Ae d_p1 (Aw d.fEntities e (-1))).fCalls) ((Ae d_p1 (Aw d.fEntities e (-1))).fDone))).fFrom) now)) λha=>Ba (BK (Ae ((Ae d_p1 (Aw d.fEntities e (-1))).fCalls) ((Ae d_p1 (Aw d.fEntities e (-1))).fDone)) (ha.length:Int))<|Bp (D2 F (Ai.mk ((Ae ha (Ae ((Ae d_p1 (Aw d.fEntities e (-1))).fCalls) ((Ae d_p1 (Aw d.fEntities e (-1))).fDone))).fOp) ((Ae ha (Ae ((Ae d_p1 (Aw d.fEntities e (-1))).fCalls) ((Ae d_p1 (Aw d.fEntities e (-1))).fDone))).fAnswer) ((Ae ha (Ae ((Ae d_p1 (Aw d.fEntities e (-1))).fCalls) ((Ae d_p1 (Aw d.fEntities e (-1))).fDone))).fFrom) ((Ae ha (Ae ((Ae d_p1 (Aw d.fEntities e (-1))).fCalls) ((Ae d_p1 (Aw d.fEntities e (-1))).fDone))).fTo))) λhe=>some (he,true,(Aq.mk now d.fEntities d.fCalls),List.set d_p1 (Int.toNat (Aw d.fEntities e (-1))) (Ah.mk hd.1 ((Ae d_p1 (Aw d.fEntities e (-1))).fCalls) (((Ae d_p1 (Aw d.fEntities e (-1))).fDone)+1)),ha)))) (some ((Ai.mk (Ar.mk ([]:Ak) ([]:Ak) ([]:Ak) ([]:List (List Ab))) (Ax.mk 0 ([]:List Ab)) 0 0),false,d,d_p1,d_p2)))
def GP (F:Nat)(d:Aq)(d_p1:(List Ah))(d_p2:(List Ai))(e:Ak)(now:Int):Option (Ai×Bool×Aq×(List Ah)×(List Ai)):=
 Bg (decide (now<d.fNow)) (CH F d d_p1 d_p2 e now true) (CH F d d_p1 d_p2 e now (decide (1073741824<now)))
def HU (d:Aq)(d_p1:(List Ah))(d_p2:(List Ai))(e:Ak):Option ((List Ab)):=
 Bg (Bq d.fEntities e) (Ba (BK (Aw d.fEntities e (-1)) (d_p1.length:Int))<|Bp (Cr ((Ae d_p1 (Aw d.fEntities e (-1))).fState)) λr7=>some r7) (Bp (Lj) λha=>some ha)
def Dq (F:Nat)(d:Aq)(d_p1:(List Ah))(d_p2:(List Ai))(e:Ak)(hb:(List Ai))(ha:Int):Option (Stp ((List Ai)×Int) (Out ((List Ai)) ((List Ai)))):=
 Bg (decide (ha<(((Ae d_p1 (Aw d.fEntities e (-1))).fCalls).length:Int))) (Ba (BK ha (((Ae d_p1 (Aw d.fEntities e (-1))).fCalls).length:Int))<|Ba (decide (0≤(Ae ((Ae d_p1 (Aw d.fEntities e (-1))).fCalls) ha)))<|Ba (BK (Ae ((Ae d_p1 (Aw d.fEntities e (-1))).fCalls) ha) (d_p2.length:Int))<|Bp (D2 F (Ai.mk ((Ae d_p2 (Ae ((Ae d_p1 (Aw d.fEntities e (-1))).fCalls) ha)).fOp) ((Ae d_p2 (Ae ((Ae d_p1 (Aw d.fEntities e (-1))).fCalls) ha)).fAnswer) ((Ae d_p2 (Ae ((Ae d_p1 (Aw d.fEntities e (-1))).fCalls) ha)).fFrom) ((Ae d_p2 (Ae ((Ae d_p1 (Aw d.fEntities e (-1))).fCalls) ha)).fTo))) λhd=>Ba (Lb 120 (hb.length+([hd]:List Ai).length))<|Ba (BB .i64 (ha+1))<|some (.next (hb++([hd]:List Ai),ha+1))) (some (.out (.go hb)))
def Hv (ha:(List Ai)):Option ((List Ai)):=
 some ha
def HW (F:Nat)(d:Aq)(d_p1:(List Ah))(d_p2:(List Ai))(e:Ak):Option ((List Ai)):=
 Bg (!(Bq d.fEntities e)) (some ([]:List Ai)) (Ba (BK (Aw d.fEntities e (-1)) (d_p1.length:Int))<|Bp (BD (λσ=>Dq F d d_p1 d_p2 e σ.1 σ.2) F (([]:List Ai),0)) (B9 λν=>Hv ν))
def DQ (ha:Int)(hb:(List Ak)):Option (Stp ((List Ak)×Int) (Out ((List Ak)) ((List Ak)))):=
 Ba (BB .i64 (ha+1))<|some (.next (hb,ha+1))
def EF (r1:(List Ai))(hb:(List Ak))(ha:Int):Option (Stp ((List Ak)×Int) (Out ((List Ak)) ((List Ak)))):=
 Bg (decide (ha<(r1.length:Int))) (Ba (BK ha (r1.length:Int))<|Bg (decide (((Ae r1 ha).fTo)=(-1))) (Ba (Lb 16 (hb.length+([((Ae r1 ha).fOp).fID]:List Ak).length))<|DQ ha (hb++([((Ae r1 ha).fOp).fID]:List Ak))) (DQ ha hb)) (some (.out (.go hb)))
def EE (ha:(List Ak)):Option ((List Ak)):=
 some ha
def Ko (F:Nat)(d:Aq)(d_p1:(List Ah))(d_p2:(List Ai))(e:Ak):Option ((List Ak)):=
 Bp (HW F d d_p1 d_p2 e) λr1=>Bp (BD (λσ=>EF r1 σ.1 σ.2) F (([]:List Ak),0)) (B9 λν=>EE ν)
def Hw (F:Nat)(d:Aq)(d_p1:(List Ah))(d_p2:(List Ai))(id:Ak):Option (Ax×Bool):=
 Ba (imp (!(!(Bq d.fCalls id))) (decide (0≤(Aw d.fCalls id (-1)))))<|Ba (imp (!(!(Bq d.fCalls id))) (BK (Aw d.fCalls id (-1)) (d_p2.length:Int)))<|Bg (((!(Bq d.fCalls id))||(decide (((Ae d_p2 (Aw d.fCalls id (-1))).fTo)=(-1))))) (some ((Ax.mk 0 ([]:List Ab)),false)) (Ba (decide (0≤(Aw d.fCalls id (-1))))<|Ba (BK (Aw d.fCalls id (-1)) (d_p2.length:Int))<|Bp (D2 F (Ai.mk ((Ae d_p2 (Aw d.fCalls id (-1))).fOp) ((Ae d_p2 (Aw d.fCalls id (-1))).fAnswer) ((Ae d_p2 (Aw d.fCalls id (-1))).fFrom) ((Ae d_p2 (Aw d.fCalls id (-1))).fTo))) λha=>some (ha.fAnswer,true))
def Ou (d:Aq)(d_p1:(List Ah))(d_p2:(List Ai)):Option ((List Ak)):=
 Ba (O0 d.fEntities)<|some (Ly d.fEntities)
end Go.Proofs.YtfbmdidnlhifjaaGreatDoor
namespace Go.Proofs.YtfbmdidnlhifjaaGreatDoor.Q
open Go Go.RowKit
set_option linter.unusedVariables false
set_option linter.unusedSimpArgs false
set_option linter.unusedSectionVars false
section
variable {P : Program} {n : Nat} {c : Cx} {ops : Array Oper} {Q : Exit → Act → World → Prop} {rest : List Oper} {l : Fr} {H H' Hr : List Ent} {d k b rz : Nat} {ty t e re : TypeId} {pos : String} {af : Array Edge} {pv r : Value} {cs : List Rp} {ys : List (List Rp)} {K : Act → World → Prop} {cx : Code}
theorem N7 {ps:List (Nat×Value)}{i:Nat}{p:Nat×Value}(h:ps[i]? =some p):(L3 ps).Perm ((p.1::p.2.ownBlock.toList)++L3 (ps.eraseIdx i)):=by
 have:ps.Perm (p::ps.eraseIdx i):=by
  induction ps generalizing i with
  | nil=>cases h
  | cons x r ih=>
   cases i with
   | zero=>simp at h;subst h;exact UY _
   | succ i=>
    simp at h;exact((ih h).cons x).trans (List.Perm.swap p x _)
 exact this.flatMap_right _
theorem SX {ps:List (Nat×Value)}{i:Nat}{p q:Nat×Value}(h:ps[i]? =some p):(L3 (ps.set i q)).Perm ((q.1::q.2.ownBlock.toList)++L3 (ps.eraseIdx i)):=by
 have hi:=(List.getElem?_eq_some_iff.1 h).1;have h1:=N7 (ps:=ps.set i q) (i:=i) (p:=q) (by simp[hi]);have h2:(ps.set i q).eraseIdx i=ps.eraseIdx i:=by
  refine List.ext_getElem? λj=>?_;rw[List.getElem?_eraseIdx,List.getElem?_eraseIdx]
  split
  ·rw[List.getElem?_set_ne (by omega)]
  ·rw[List.getElem?_set_ne (by omega)]
 rw[h2] at h1;exact h1
theorem Pv (ps:List (Nat×Value))(q:Nat×Value):L3 (ps++[q])=L3 ps++(q.1::q.2.ownBlock.toList):=by
 unfold L3;rw[List.flatMap_append];simp
section
variable {Z : Fz} {w : World} {xs : List ((Value → List Rp) × List (List Rp))}
theorem St.takeout (h:St c (.poolw k pv e re rz xs none::Hr) Z w){i:Nat}(hi:i<xs.length) :
  ∃b r,Z.nm k i=some b∧St c (.blk b (xs[i].1 r) e::.row r re rz xs[i].2::.poolw k pv e re rz xs (some (i,(b,r)))::Hr) Z w:=by
 obtain⟨hl,hn,hm,_,hx⟩:=h.has (.poolw k pv e re rz xs none) (by simp);have hp:(CX pv)[i]? =some (CX pv)[i]:=UW (by omega);generalize(CX pv)[i]=p at hp;obtain⟨b,r⟩:=p;have hperm:=N7 hp;have hnd:=hperm.nodup hn;have hd:=List.pairwise_cons.1 h.dis;have gd:=List.pairwise_cons.1 h.gst.dis;obtain⟨⟨us,h1,h2⟩,h3,vs,h4,h5⟩:=hx i (b,r) xs[i] hp (UW hi) (λo ho=>by cases ho);rw[List.nodup_append] at hnd;have hin:∀q,q∈(b::r.ownBlock.toList)∨q∈L3 ((CX pv).eraseIdx i)→q∈(Ent.poolw k pv e re rz xs none).foot:=λq hq=>hperm.symm.subset (List.mem_append.2 hq);have fb:∀q∈(Ent.blk b (xs[i].1 r) e).foot,q∈(Ent.poolw k pv e re rz xs none).foot:=λq hq=>hin q (.inl (by simp[Ent.foot] at hq;simp[hq]));have fr:∀q∈(Ent.row r re rz xs[i].2).foot,q∈(Ent.poolw k pv e re rz xs none).foot:=λq hq=>hin q (.inl (List.mem_cons_of_mem _ hq));have fo:∀q∈(Ent.poolw k pv e re rz xs (some (i,(b,r)))).foot,q∈(Ent.poolw k pv e re rz xs none).foot:=λq hq=>hin q (.inr hq);have hmem:∀en∈(.blk b (xs[i].1 r) e::.row r re rz xs[i].2::.poolw k pv e re rz xs (some (i,(b,r)))::Hr:List Ent),(∀q∈en.foot,q∈(Ent.poolw k pv e re rz xs none).foot)∨en∈Hr:=λen he=>by
  simp only[V4] at he;rcases he with rfl | rfl | rfl | he
  ·exact .inl fb
  ·exact .inl fr
  ·exact .inl fo
  ·exact .inr he
 have hgk:∀en∈(.blk b (xs[i].1 r) e::.row r re rz xs[i].2::.poolw k pv e re rz xs (some (i,(b,r)))::Hr:List Ent),∀q∈en.gk,∃en'∈(.poolw k pv e re rz xs none::Hr:List Ent),q∈en'.gk∧en'.gn=en.gn:=λen he q hq=>by
  simp only[V4] at he;rcases he with rfl | rfl | rfl | he
  ·cases hq
  ·cases hq
  ·exact⟨_,List.mem_cons_self ..,hq,rfl⟩
  ·exact⟨en,List.mem_cons_of_mem _ he,hq,rfl⟩
 refine⟨b,r,hm i _ hp,{ h with has:=λen he=>?_,own:=λen he q hq=>?_,dis:=?_,zdis:=λen he q hq=>?_,gst:=⟨λen he q hq=>?_,λen he q hq=>?_,?_,h.gst.new,λen he q hq j hj=>?_⟩ }⟩
 ·simp only[V4] at he;rcases he with rfl | rfl | rfl | he
  ·exact⟨us,h1,h2⟩
  ·exact⟨h3,vs,h4,h5⟩
  ·exact⟨hl,hnd.2.1,hm,λo ho=>by cases ho;exact hp,λj p x hj hxj hne=>hx j p x hj hxj (λo ho=>by cases ho)⟩
  ·exact h.has en (List.mem_cons_of_mem _ he)
 ·rcases hmem en he with h6 | h6
  ·exact h.own _ (List.mem_cons_self ..) q (h6 q hq)
  ·exact h.own en (List.mem_cons_of_mem _ h6) q hq
 ·have hbr:=List.nodup_cons.1 hnd.1;refine List.pairwise_cons.2 ⟨λen he q hq hq'=>?_,List.pairwise_cons.2 ⟨λen he q hq hq'=>?_,List.pairwise_cons.2 ⟨λen he q hq hq'=>hd.1 en he q (fo q hq) hq',hd.2⟩⟩⟩
  ·have e1:q=b:=by simpa[Ent.foot] using hq
   subst e1;simp only[V4] at he;rcases he with rfl | rfl | he
   ·exact hbr.1 hq'
   ·exact hnd.2.2 q (List.mem_cons_self ..) q hq' rfl
   ·exact hd.1 en he q (fb q hq) hq'
  ·simp only[V4] at he;rcases he with rfl | he
   ·exact hnd.2.2 q (List.mem_cons_of_mem _ hq) q hq' rfl
   ·exact hd.1 en he q (fr q hq) hq'
 ·rcases hmem en he with h6 | h6
  ·exact h.zdis _ (List.mem_cons_self ..) q (h6 q hq)
  ·exact h.zdis en (List.mem_cons_of_mem _ h6) q hq
 ·obtain⟨en',h6,h7,_⟩:=hgk en he q hq;exact h.gst.own en' h6 q h7
 ·obtain⟨en',h6,h7,_⟩:=hgk en he q hq;exact h.gst.sz en' h6 q h7
 ·exact List.pairwise_cons.2 ⟨λ_ _ _ hq=>(by cases hq),List.pairwise_cons.2 ⟨λ_ _ _ hq=>(by cases hq),List.pairwise_cons.2 ⟨gd.1,gd.2⟩⟩⟩
 ·obtain⟨en',h6,h7,h8⟩:=hgk en he q hq;exact h.gst.cap en' h6 q h7 j (by rw[h8];exact hj)
theorem St.putback {i:Nat}{r0:Value}{y:(Value→List Rp)×List (List Rp)}(h:St c (.blk b cs e::.row r re rz ys::.poolw k pv e re rz xs (some (i,(b,r0)))::Hr) Z w)(hcs:y.1 r=cs)(hys:y.2=ys){pv':Value}(hpv:CX pv'=(CX pv).set i (b,r)) :
  Z.nm k i=some b∧St c (.poolw k pv' e re rz (xs.set i y) none::Hr) Z w:=by
 obtain⟨us,h1,h2⟩:=h.has (.blk b cs e) (by simp);obtain⟨h3,vs,h4,h5⟩:=h.has (.row r re rz ys) (by simp);obtain⟨hl,hn,hm,ho,hx⟩:=h.has (.poolw k pv e re rz xs (some (i,(b,r0)))) (by simp);have hp:(CX pv)[i]? =some (b,r0):=ho _ rfl;have hi:i<(CX pv).length:=(List.getElem?_eq_some_iff.1 hp).1;have hd:=List.pairwise_cons.1 h.dis;have hd2:=List.pairwise_cons.1 hd.2;have hd3:=List.pairwise_cons.1 hd2.2;have gd:=List.pairwise_cons.1 (List.pairwise_cons.1 (List.pairwise_cons.1 h.gst.dis).2).2;have hperm:=SX (q:=(b,r)) hp;have hback:∀q∈(Ent.poolw k pv' e re rz (xs.set i y) none).foot,q=b∨q∈r.ownBlock.toList∨q∈(Ent.poolw k pv e re rz xs (some (i,(b,r0)))).foot:=λq hq=>by
  have h6:q∈L3 ((CX pv).set i (b,r)):=by rw[← hpv];exact hq
  rcases List.mem_append.1 (hperm.subset h6) with h7 | h7
  ·rcases List.mem_cons.1 h7 with h8 | h8
   ·exact .inl h8
   ·exact .inr (.inl h8)
  ·exact .inr (.inr h7)
 have hbr:b ∉ r.ownBlock.toList:=λhb=>hd.1 (.row r re rz ys) (by simp) b (by simp[Ent.foot]) hb;have hbo:b ∉ (Ent.poolw k pv e re rz xs (some (i,(b,r0)))).foot:=λhb=>hd.1 (.poolw k pv e re rz xs (some (i,(b,r0)))) (by simp) b (by simp[Ent.foot]) hb;have hro:∀q∈r.ownBlock.toList,q ∉ (Ent.poolw k pv e re rz xs (some (i,(b,r0)))).foot:=λq hq hq'=>hd2.1 (.poolw k pv e re rz xs (some (i,(b,r0)))) (by simp) q hq hq';have hrn:(r.ownBlock.toList).Nodup:=by cases r.ownBlock<;>simp
 refine⟨hm i _ hp,{ h with has:=λen he=>?_,own:=λen he q hq=>?_,dis:=List.pairwise_cons.2 ⟨λen he q hq hq'=>?_,hd3.2⟩,zdis:=λen he q hq=>?_,gst:=⟨λen he q hq=>?_,λen he q hq=>?_,List.pairwise_cons.2 ⟨gd.1,gd.2⟩,h.gst.new,λen he q hq j hj=>?_⟩ }⟩
 ·rcases List.mem_cons.1 he with rfl | he
  ·refine⟨by rw[hpv];simpa using hl,?_,λj p hj=>?_,λo ho=>(by cases ho),λj p x hj hxj _=>?_⟩
   ·show(L3 (CX pv')).Nodup;rw[hpv];refine hperm.symm.nodup ?_;rw[List.nodup_append];exact⟨List.nodup_cons.2 ⟨hbr,hrn⟩,hn,λq hq q' hq' e=>by
     subst e;rcases List.mem_cons.1 hq with rfl | hq
     ·exact hbo hq'
     ·exact hro q hq hq'⟩
   ·rw[hpv,VG] at hj
    split at hj
    ·rename_i e1;subst e1;simp[hi] at hj;subst hj;exact(hm i _ hp:Z.nm k i=some b)
    ·exact hm j p hj
   ·rw[hpv,VG] at hj;rw[VG] at hxj
    by_cases e1:i=j
    ·subst e1;rw[Vi rfl,Vi hi] at hj;rw[Vi rfl,Vi (by omega)] at hxj
     cases hj;cases hxj
     subst hcs;subst hys;exact⟨⟨us,h1,h2⟩,h3,vs,h4,h5⟩
    ·rw[Ve e1] at hj hxj;exact hx j p x hj hxj (λo ho=>by cases ho;exact e1)
  ·exact h.has en (by simp[he])
 ·rcases List.mem_cons.1 he with rfl | he
  ·rcases hback q hq with rfl | h6 | h6
   ·exact h.own (.blk q cs e) (by simp) q (by simp[Ent.foot])
   ·exact h.own (.row r re rz ys) (by simp) q h6
   ·exact h.own (.poolw k pv e re rz xs (some (i,(b,r0)))) (by simp) q h6
  ·exact h.own en (by simp[he]) q hq
 ·rcases hback q hq with rfl | h6 | h6
  ·exact hd.1 en (by simp[he]) q (by simp[Ent.foot]) hq'
  ·exact hd2.1 en (by simp[he]) q h6 hq'
  ·exact hd3.1 en he q h6 hq'
 ·rcases List.mem_cons.1 he with rfl | he
  ·rcases hback q hq with rfl | h6 | h6
   ·exact h.zdis (.blk q cs e) (by simp) q (by simp[Ent.foot])
   ·exact h.zdis (.row r re rz ys) (by simp) q h6
   ·exact h.zdis (.poolw k pv e re rz xs (some (i,(b,r0)))) (by simp) q h6
  ·exact h.zdis en (by simp[he]) q hq
 ·rcases List.mem_cons.1 he with rfl | he
  ·exact h.gst.own (.poolw k pv e re rz xs (some (i,(b,r0)))) (by simp) q hq
  ·exact h.gst.own en (by simp[he]) q hq
 ·rcases List.mem_cons.1 he with rfl | he
  ·exact h.gst.sz (.poolw k pv e re rz xs (some (i,(b,r0)))) (by simp) q hq
  ·exact h.gst.sz en (by simp[he]) q hq
 ·rcases List.mem_cons.1 he with rfl | he
  ·refine h.gst.cap (.poolw k pv e re rz xs (some (i,(b,r0)))) (by simp) q hq j ?_;have:(CX pv').length≤j:=hj;rw[hpv,VB] at this;exact this
  ·exact h.gst.cap en (by simp[he]) q hq j hj
theorem St.putsame {i:Nat}(hi:i<xs.length)(h:St c (.blk b (xs[i].1 r) e::.row r re rz xs[i].2::.poolw k pv e re rz xs (some (i,(b,r)))::Hr) Z w):Z.nm k i=some b∧St c (.poolw k pv e re rz xs none::Hr) Z w:=by
 obtain⟨hl,hn,hm,ho,hx⟩:=h.has (.poolw k pv e re rz xs (some (i,(b,r)))) (by simp);have hp:(CX pv)[i]? =some (b,r):=ho _ rfl;have h1:=St.putback (y:=xs[i]) (pv':=pv) h rfl rfl (by
  refine(List.ext_getElem? λj=>?_);rw[VG]
  split
  ·rename_i e1;subst e1
   have:=(List.getElem?_eq_some_iff.1 hp).1;rw[Vi this,hp]
  ·rfl)
 rw[List.set_getElem_self] at h1;exact h1
theorem St.adoptW {y:(Value→List Rp)×List (List Rp)}(h:St c (.blk b cs e::.row r re rz ys::.poolw k pv e re rz xs none::Hr) Z w)(hcs:y.1 r=cs)(hys:y.2=ys){pv':Value}(hpv:CX pv'=CX pv++[(b,r)]) :
  ∃Z',Fz.le Z Z'∧Z'.nm k xs.length=some b∧St c (.poolw k pv' e re rz (xs++[y]) none::Hr) Z' w:=by
 obtain⟨us,h1,h2⟩:=h.has (.blk b cs e) (by simp);obtain⟨h3,vs,h4,h5⟩:=h.has (.row r re rz ys) (by simp);obtain⟨hl,hn,hm,ho,hx⟩:=h.has (.poolw k pv e re rz xs none) (by simp);have hd:=List.pairwise_cons.1 h.dis;have hd2:=List.pairwise_cons.1 hd.2;have hd3:=List.pairwise_cons.1 hd2.2;have gd:=List.pairwise_cons.1 (List.pairwise_cons.1 (List.pairwise_cons.1 h.gst.dis).2).2;have hcap:=h.gst.cap (.poolw k pv e re rz xs none) (by simp) k (by simp[Ent.gk]);have hksz:=h.gst.sz (.poolw k pv e re rz xs none) (by simp) k (by simp[Ent.gk]);have hkown:=h.gst.own (.poolw k pv e re rz xs none) (by simp) k (by simp[Ent.gk])
 let Z':Fz:=⟨Z.f,λq i=>if q=k∧i=xs.length then some b else Z.nm q i⟩
 have hnew:Z'.nm k xs.length=some b:=by simp[Z']
 have hle:Fz.le Z Z':=⟨λ_ _ h=>h,λq i b' hq=>by
  by_cases hqi:q=k∧i=xs.length
  ·obtain⟨rfl,rfl⟩:=hqi;rw[hcap _ (by simp[Ent.gn,hl])] at hq;cases hq
  ·simpa[Z',hqi] using hq⟩
 have hbr:b ∉ r.ownBlock.toList:=λhb=>hd.1 (.row r re rz ys) (by simp) b (by simp[Ent.foot]) hb;have hbo:b ∉ (Ent.poolw k pv e re rz xs none).foot:=λhb=>hd.1 (.poolw k pv e re rz xs none) (by simp) b (by simp[Ent.foot]) hb;have hro:∀q∈r.ownBlock.toList,q ∉ (Ent.poolw k pv e re rz xs none).foot:=λq hq hq'=>hd2.1 (.poolw k pv e re rz xs none) (by simp) q hq hq';have hrn:(r.ownBlock.toList).Nodup:=by cases r.ownBlock<;>simp
 have hback:∀q∈(Ent.poolw k pv' e re rz (xs++[y]) none).foot,q=b∨q∈r.ownBlock.toList∨q∈(Ent.poolw k pv e re rz xs none).foot:=λq hq=>by
  have h6:q∈L3 (CX pv++[(b,r)]):=by rw[← hpv];exact hq
  rw[Pv] at h6;rcases List.mem_append.1 h6 with h7 | h7
  ·exact .inr (.inr h7)
  ·rcases List.mem_cons.1 h7 with h8 | h8
   ·exact .inl h8
   ·exact .inr (.inl h8)
 refine⟨Z',hle,hnew,{ h with has:=λen he=>?_,own:=λen he q hq=>?_,dis:=List.pairwise_cons.2 ⟨λen he q hq hq'=>?_,hd3.2⟩,frz:=⟨λb o hb=>h.frz.f b o hb,λq i b' hq=>?_⟩,le:=h.le.trans hle,new:=λb o hb=>h.new b o hb,zdis:=λen he q hq=>?_,env:=h.emono hle h.env,gst:=⟨λen he q hq=>?_,λen he q hq=>?_,List.pairwise_cons.2 ⟨gd.1,gd.2⟩,λq i b' hq=>?_,λen he q hq i hi=>?_⟩ }⟩
 ·rcases List.mem_cons.1 he with rfl | he
  ·refine⟨by rw[hpv];simp[hl],?_,λj p hj=>?_,λo ho=>(by cases ho),λj p x hj hxj _=>?_⟩
   ·show(L3 (CX pv')).Nodup;rw[hpv,Pv,List.nodup_append];exact⟨hn,List.nodup_cons.2 ⟨hbr,hrn⟩,λq hq q' hq' e=>by
     subst e;rcases List.mem_cons.1 hq' with rfl | hq'
     ·exact hbo hq
     ·exact hro q hq' hq⟩
   ·rw[hpv] at hj
    by_cases hjl:j<(CX pv).length
    ·rw[Vp hjl] at hj;exact hle.nm k j _ (hm j p hj)
    ·have hj2:j=(CX pv).length:=by have:=(List.getElem?_eq_some_iff.1 hj).1;simp at this;omega
     subst hj2;simp at hj;subst hj;rw[hl];exact hnew
   ·rw[hpv] at hj
    by_cases hjl:j<(CX pv).length
    ·rw[Vp hjl] at hj;rw[Vp (by omega)] at hxj;obtain⟨⟨us',g1,g2⟩,g3,vs',g4,g5⟩:=hx j p x hj hxj (λo ho=>by cases ho);exact⟨⟨us',g1,g2.mono hle⟩,g3,vs',g4,g5.mono hle⟩
    ·have hj2:j=(CX pv).length:=by have:=(List.getElem?_eq_some_iff.1 hj).1;simp at this;omega
     subst hj2;simp at hj;subst hj;rw[hl] at hxj;simp at hxj;subst hxj;subst hcs;subst hys;exact⟨⟨us,h1,h2.mono hle⟩,h3,vs,h4,h5.mono hle⟩
  ·exact Ent.keep (h.has en (by simp[he])) hle λ_ _=>rfl
 ·rcases List.mem_cons.1 he with rfl | he
  ·rcases hback q hq with rfl | h6 | h6
   ·exact h.own (.blk q cs e) (by simp) q (by simp[Ent.foot])
   ·exact h.own (.row r re rz ys) (by simp) q h6
   ·exact h.own (.poolw k pv e re rz xs none) (by simp) q h6
  ·exact h.own en (by simp[he]) q hq
 ·rcases hback q hq with rfl | h6 | h6
  ·exact hd.1 en (by simp[he]) q (by simp[Ent.foot]) hq'
  ·exact hd2.1 en (by simp[he]) q h6 hq'
  ·exact hd3.1 en he q h6 hq'
 ·by_cases hqi:q=k∧i=xs.length
  ·rw[hqi.1];exact hksz
  ·exact h.frz.nm q i b' (by simpa[Z',hqi] using hq)
 ·rcases List.mem_cons.1 he with rfl | he
  ·rcases hback q hq with rfl | h6 | h6
   ·exact h.zdis (.blk q cs e) (by simp) q (by simp[Ent.foot])
   ·exact h.zdis (.row r re rz ys) (by simp) q h6
   ·exact h.zdis (.poolw k pv e re rz xs none) (by simp) q h6
  ·exact h.zdis en (by simp[he]) q hq
 ·rcases List.mem_cons.1 he with rfl | he
  ·simp[Ent.gk] at hq;subst hq;exact hkown
  ·exact h.gst.own en (by simp[he]) q hq
 ·rcases List.mem_cons.1 he with rfl | he
  ·simp[Ent.gk] at hq;subst hq;exact hksz
  ·exact h.gst.sz en (by simp[he]) q hq
 ·by_cases hqi:q=k∧i=xs.length
  ·rw[hqi.1];exact .inr hkown
  ·exact h.gst.new q i b' (by simpa[Z',hqi] using hq)
 ·rcases List.mem_cons.1 he with rfl | he
  ·simp[Ent.gk] at hq;subst hq;have hi':(CX pv').length≤i:=hi;rw[hpv,Vd] at hi';simp at hi';have hne : ¬ i=xs.length:=by omega
   simp only[Z',hne,and_false,if_false];exact hcap i (by simp[Ent.gn];omega)
  ·have hqk:q≠k:=λe1=>gd.1 en he k (by simp[Ent.gk]) (e1▸hq);simp only[Z',hqk,false_and,if_false];exact h.gst.cap en (by simp[he]) q hq i hi
end
def To (l:Fr)(k:Nat)(i:Int):List Nat→Prop
 | []=>True
 | d::ds=>look l d=some (DX k i 0)∧To l k i ds
def Ut (b:Nat):List Nat→Fr→Fr
 | [],l=>l
 | d::ds,l=>(d,rv (.pointer (some ⟨b,0,none⟩)))::Ut b ds l
def Tg (k:Nat)(i:Int):List Nat→Fr→Fr
 | [],l=>l
 | d::ds,l=>(d,DX k i 0)::Tg k i ds l
theorem OF {Z:Fz}{a:Act}{i:Int}{l:Fr}(ha:Cf n l a Z)(h0:0≤i)(hn:Z.nm k i.toNat=some b):∀{ds:List Nat},To l k i ds→Cf n (Ut b ds l) a Z
 | [],_=>ha
 | d::ds,⟨h1,h2⟩=>by
  have h3:=OF ha h0 hn h2;refine⟨h3.size,h3.defers,λj u hj=>?_⟩;rw[Ut,B3] at hj
  split at hj
  ·rename_i e;subst e;simp at hj;subst hj
   obtain⟨v,h4,h5⟩:=ha.tm d _ h1
   change LG k i 0 Z v at h5
   unfold LG at h5;rw[Ve (by omega)] at h5;obtain⟨b',g1,g2⟩:=h5;rw[hn] at g1;obtain rfl:=Option.some.inj g1;exact⟨v,h4,g2⟩
  ·exact h3.tm j u hj
theorem Ia {Z:Fz}{a:Act}{i:Int}{l:Fr}(ha:Cf n l a Z)(h0:0≤i)(hn:Z.nm k i.toNat=some b):∀{ds:List Nat},IL l b ds→Cf n (Tg k i ds l) a Z
 | [],_=>ha
 | d::ds,⟨h1,h2⟩=>by
  have h3:=Ia ha h0 hn h2;refine⟨h3.size,h3.defers,λj u hj=>?_⟩;rw[Tg,B3] at hj
  split at hj
  ·rename_i e;subst e;simp at hj;subst hj
   obtain⟨v,h4,h5⟩:=ha.tm d _ h1;refine⟨v,h4,?_⟩;show LG k i 0 Z v;unfold LG;rw[Ve (by omega)];exact⟨b,hn,h5⟩
  ·exact h3.tm j u hj
section
variable {β : Type} [Inhabited β] {xs : List β} {encw : β → (Value → List Rp) × List (List Rp)} {i : Int} {y : β}
theorem St.takeoutE {Z:Fz}{w:World}(hw:St c H Z w)(hp:H.Perm (.poolw k pv e re rz (xs.map encw) none::Hr))(hg:BK i (xs.length:Int)=true) :
  ∃b r,0≤i∧Z.nm k i.toNat=some b∧St c (.blk b ((encw (Ae xs i)).1 r) e::.row r re rz (encw (Ae xs i)).2::.poolw k pv e re rz (xs.map encw) (some (i.toNat,(b,r)))::Hr) Z w:=by
 have h0:=(BC hg).1;have h1:i.toNat<xs.length:=by have:=(BC hg).2;omega
 obtain⟨b,r,h2,h3⟩:=(hw.perm hp).takeout (i:=i.toNat) (by simpa using h1);have e1:(xs.map encw)[i.toNat]'(by simpa using h1)=encw (Ae xs i):=by simp[Ae,h1]
 rw[e1] at h3;exact⟨b,r,h0,h2,h3⟩
theorem WL.takeout (hp:H.Perm (.poolw k pv e re rz (xs.map encw) none::Hr))(hg:BK i (xs.length:Int)=true)(ds:List Nat)(hd:To l k i ds)
  (h:∀b r,WL P n c ops Q rest (Ut b ds l) (.blk b ((encw (Ae xs i)).1 r) e::.row r re rz (encw (Ae xs i)).2::.poolw k pv e re rz (xs.map encw) (some (i.toNat,(b,r)))::Hr)):WL P n c ops Q rest l H:=λa w Z ha hw=>by
 obtain⟨b,r,h0,h1,h2⟩:=St.takeoutE hw hp hg;exact h b r a w Z (OF ha h0 h1 hd) h2
theorem WC.takeout (hp:H.Perm (.poolw k pv e re rz (xs.map encw) none::Hr))(hg:BK i (xs.length:Int)=true)(ds:List Nat)(hd:To l k i ds)
  (h:∀b r,WC P n c cx Q (Ut b ds l) (.blk b ((encw (Ae xs i)).1 r) e::.row r re rz (encw (Ae xs i)).2::.poolw k pv e re rz (xs.map encw) (some (i.toNat,(b,r)))::Hr)):WC P n c cx Q l H:=λa w Z ha hw=>by
 obtain⟨b,r,h0,h1,h2⟩:=St.takeoutE hw hp hg;exact h b r a w Z (OF ha h0 h1 hd) h2
theorem St.putbackE {Z:Fz}{w:World}{r0:Value}(hw:St c H Z w)(hp:H.Perm (.blk b cs e::.row r re rz ys::.poolw k pv e re rz (xs.map encw) (some (i.toNat,(b,r0)))::Hr))(hcs:(encw y).1 r=cs)(hys:(encw y).2=ys) :
  ∃pv',Z.nm k i.toNat=some b∧St c (.poolw k pv' e re rz ((xs.set i.toNat y).map encw) none::Hr) Z w:=by
 obtain⟨h1,h2⟩:=(hw.perm hp).putback (y:=encw y) (pv':=SI ((CX pv).set i.toNat (b,r))) hcs hys (OY _);rw[← List.map_set] at h2;exact⟨_,h1,h2⟩
theorem WL.putback {r0:Value}(hp:H.Perm (.blk b cs e::.row r re rz ys::.poolw k pv e re rz (xs.map encw) (some (i.toNat,(b,r0)))::Hr))(hg:BK i (xs.length:Int)=true)(ds:List Nat)(hd:IL l b ds)(hcs:(encw y).1 r=cs)(hys:(encw y).2=ys)
  (h:∀pv',WL P n c ops Q rest (Tg k i ds l) (.poolw k pv' e re rz ((xs.set i.toNat y).map encw) none::Hr)):WL P n c ops Q rest l H:=λa w Z ha hw=>by
 obtain⟨pv',h1,h2⟩:=St.putbackE hw hp hcs hys;exact h pv' a w Z (Ia ha (BC hg).1 h1 hd) h2
theorem WC.putback {r0:Value}(hp:H.Perm (.blk b cs e::.row r re rz ys::.poolw k pv e re rz (xs.map encw) (some (i.toNat,(b,r0)))::Hr))(hg:BK i (xs.length:Int)=true)(ds:List Nat)(hd:IL l b ds)(hcs:(encw y).1 r=cs)(hys:(encw y).2=ys)
  (h:∀pv',WC P n c cx Q (Tg k i ds l) (.poolw k pv' e re rz ((xs.set i.toNat y).map encw) none::Hr)):WC P n c cx Q l H:=λa w Z ha hw=>by
 obtain⟨pv',h1,h2⟩:=St.putbackE hw hp hcs hys;exact h pv' a w Z (Ia ha (BC hg).1 h1 hd) h2
theorem WK.putback {r0:Value}(hp:H.Perm (.blk b cs e::.row r re rz ys::.poolw k pv e re rz (xs.map encw) (some (i.toNat,(b,r0)))::Hr))(hg:BK i (xs.length:Int)=true)(ds:List Nat)(hd:IL l b ds)(hcs:(encw y).1 r=cs)(hys:(encw y).2=ys)
  (h:∀pv',WK n c K (Tg k i ds l) (.poolw k pv' e re rz ((xs.set i.toNat y).map encw) none::Hr)):WK n c K l H:=λa w Z ha hw=>by
 obtain⟨pv',h1,h2⟩:=St.putbackE hw hp hcs hys;exact h pv' a w Z (Ia ha (BC hg).1 h1 hd) h2
theorem St.putsameE {Z:Fz}{w:World}(hw:St c H Z w)(hp:H.Perm (.blk b cs e::.row r re rz ys::.poolw k pv e re rz (xs.map encw) (some (i.toNat,(b,r)))::Hr))(hg:BK i (xs.length:Int)=true)(hcs:(encw (Ae xs i)).1 r=cs)(hys:(encw (Ae xs i)).2=ys) :
  Z.nm k i.toNat=some b∧St c (.poolw k pv e re rz (xs.map encw) none::Hr) Z w:=by
 have h1:i.toNat<xs.length:=by have:=BC hg;omega
 have e1:(xs.map encw)[i.toNat]'(by simpa using h1)=encw (Ae xs i):=by simp[Ae,h1]
 subst hcs;subst hys;have h2:=hw.perm hp;rw[← e1] at h2;exact St.putsame (by simpa using h1) h2
theorem WL.putsame (hp:H.Perm (.blk b cs e::.row r re rz ys::.poolw k pv e re rz (xs.map encw) (some (i.toNat,(b,r)))::Hr))(hg:BK i (xs.length:Int)=true)(ds:List Nat)(hd:IL l b ds)(hcs:(encw (Ae xs i)).1 r=cs)(hys:(encw (Ae xs i)).2=ys)
  (h:WL P n c ops Q rest (Tg k i ds l) (.poolw k pv e re rz (xs.map encw) none::Hr)):WL P n c ops Q rest l H:=λa w Z ha hw=>by
 obtain⟨h1,h2⟩:=St.putsameE hw hp hg hcs hys;exact h a w Z (Ia ha (BC hg).1 h1 hd) h2
theorem WC.putsame (hp:H.Perm (.blk b cs e::.row r re rz ys::.poolw k pv e re rz (xs.map encw) (some (i.toNat,(b,r)))::Hr))(hg:BK i (xs.length:Int)=true)(ds:List Nat)(hd:IL l b ds)(hcs:(encw (Ae xs i)).1 r=cs)(hys:(encw (Ae xs i)).2=ys)
  (h:WC P n c cx Q (Tg k i ds l) (.poolw k pv e re rz (xs.map encw) none::Hr)):WC P n c cx Q l H:=λa w Z ha hw=>by
 obtain⟨h1,h2⟩:=St.putsameE hw hp hg hcs hys;exact h a w Z (Ia ha (BC hg).1 h1 hd) h2
theorem WK.putsame (hp:H.Perm (.blk b cs e::.row r re rz ys::.poolw k pv e re rz (xs.map encw) (some (i.toNat,(b,r)))::Hr))(hg:BK i (xs.length:Int)=true)(ds:List Nat)(hd:IL l b ds)(hcs:(encw (Ae xs i)).1 r=cs)(hys:(encw (Ae xs i)).2=ys)
  (h:WK n c K (Tg k i ds l) (.poolw k pv e re rz (xs.map encw) none::Hr)):WK n c K l H:=λa w Z ha hw=>by
 obtain⟨h1,h2⟩:=St.putsameE hw hp hg hcs hys;exact h a w Z (Ia ha (BC hg).1 h1 hd) h2
theorem St.adoptWE {Z:Fz}{w:World}(hw:St c H Z w)(hp:H.Perm (.blk b cs e::.row r re rz ys::.poolw k pv e re rz (xs.map encw) none::Hr))(hcs:(encw y).1 r=cs)(hys:(encw y).2=ys) :
  ∃Z' pv',Fz.le Z Z'∧Z'.nm k xs.length=some b∧St c (.poolw k pv' e re rz ((xs++[y]).map encw) none::Hr) Z' w:=by
 obtain⟨Z',h1,h2,h3⟩:=(hw.perm hp).adoptW (y:=encw y) (pv':=SI (CX pv++[(b,r)])) hcs hys (OY _);rw[Vg] at h2;exact⟨Z',_,h1,h2,by rw[VJ];exact h3⟩
theorem WL.adoptW (hp:H.Perm (.blk b cs e::.row r re rz ys::.poolw k pv e re rz (xs.map encw) none::Hr))(ds:List Nat)(hd:IL l b ds)(hcs:(encw y).1 r=cs)(hys:(encw y).2=ys)
  (h:∀pv',WL P n c ops Q rest (Tx k xs.length ds l) (.poolw k pv' e re rz ((xs++[y]).map encw) none::Hr)):WL P n c ops Q rest l H:=λa w Z ha hw=>by
 obtain⟨Z',pv',h1,h2,h3⟩:=St.adoptWE hw hp hcs hys;exact h pv' a w Z' (Jp (ha.mono h1) h2 hd) h3
theorem WC.adoptW (hp:H.Perm (.blk b cs e::.row r re rz ys::.poolw k pv e re rz (xs.map encw) none::Hr))(ds:List Nat)(hd:IL l b ds)(hcs:(encw y).1 r=cs)(hys:(encw y).2=ys)
  (h:∀pv',WC P n c cx Q (Tx k xs.length ds l) (.poolw k pv' e re rz ((xs++[y]).map encw) none::Hr)):WC P n c cx Q l H:=λa w Z ha hw=>by
 obtain⟨Z',pv',h1,h2,h3⟩:=St.adoptWE hw hp hcs hys;exact h pv' a w Z' (Jp (ha.mono h1) h2 hd) h3
end
theorem GL:CX (.tuple #[])=[]:=rfl
theorem JC (hn:Nat.blt d n=true)(h:∀b,WL P n c ops Q rest ((d,rv (.map (some b)))::l) (.poolw b (.tuple #[]) e re rz [] none::.map b []::H)) :
  WL P n c ops Q ({ dst:=some d,op:=.makeMap t none,type:=ty,pos:=pos,after:=af,guard:=none }::rest) l H:=
 IQ (λa w Z ha hw=>by
  have h1:=hw.alloc (.map #[] 0) (e:=.map w.heap.size []) ⟨#[],0,by simpa using heap_alloc_new w _,by simp,by simp,by simp,[],UY _,trivial⟩ rfl;refine⟨_,w.alloc (.map #[] 0),_,_,Z,by simp[execOp,run_makeMap],Fz.le.refl _,rfl,?_,h w.heap.size⟩;have hz:∀i,Z.nm w.heap.size i=none:=λi=>by
   cases hq:Z.nm w.heap.size i with
   | none=>rfl
   | some b=>have:=hw.frz.nm _ _ _ hq;omega
  have hold:∀en∈(Ent.map w.heap.size []::H),∀q∈en.gk,q<w.heap.size:=λen he q hq=>by
   rcases List.mem_cons.1 he with rfl | he
   ·simp[Ent.gk] at hq
   ·exact hw.gst.sz en he q hq
  have hf:∀q,q ∉ (Ent.poolw w.heap.size (.tuple #[]) e re rz [] none).foot:=λq hq=>by simp[Ent.foot,GL,Oj,L3] at hq
  refine { h1 with has:=λen he=>?_,own:=λen he q hq=>?_,dis:=List.pairwise_cons.2 ⟨λen he q hq=>absurd hq (hf q),h1.dis⟩,zdis:=λen he q hq=>?_,gst:=⟨λen he q hq=>?_,λen he q hq=>?_,List.pairwise_cons.2 ⟨λen he q hq hq'=>?_,h1.gst.dis⟩,h1.gst.new,λen he q hq i hi=>?_⟩ }
  ·rcases List.mem_cons.1 he with rfl | he
   ·exact⟨by simp[GL],by simp[GL,Oj,L3],by simp[GL],λo ho=>(by cases ho),by simp[GL]⟩
   ·exact h1.has en he
  ·rcases List.mem_cons.1 he with rfl | he
   ·exact absurd hq (hf q)
   ·exact h1.own en he q hq
  ·rcases List.mem_cons.1 he with rfl | he
   ·exact absurd hq (hf q)
   ·exact h1.zdis en he q hq
  ·rcases List.mem_cons.1 he with rfl | he
   ·simp[Ent.gk] at hq;subst hq;exact .inl hw.size
   ·exact h1.gst.own en he q hq
  ·rcases List.mem_cons.1 he with rfl | he
   ·simp[Ent.gk] at hq;subst hq;simp
   ·exact h1.gst.sz en he q hq
  ·simp[Ent.gk] at hq;subst hq;have:=hold en he _ hq';omega
  ·rcases List.mem_cons.1 he with rfl | he
   ·simp[Ent.gk] at hq;subst hq;exact hz i
   ·exact h1.gst.cap en he q hq i hi) hn
end
end Go.Proofs.YtfbmdidnlhifjaaGreatDoor.Q
namespace Go.Proofs
open Go.Shelf
def Tryz.sort73_ren:Go.Shelf.Ren:=⟨fun | 6=>73 | 8=>89 | 9=>88 | 19=>113 | 20=>114 | 21=>104 | 22=>105 | 23=>106 | 24=>107 | 25=>108 | 26=>109 | 27=>110 | 28=>111 | 29=>112 | 36=>120 | 31=>121 | 32=>122 | 37=>123 | 38=>124 | 39=>125 | 41=>131 | n=>n,fun | 27=>49 | 29=>9 | 3=>3 | 32=>134 | 26=>49 | 0=>0 | 44=>149 | 46=>151 | 4=>4 | 36=>142 | 35=>141 | 41=>101 | 5=>5 | 9=>9 | 53=>155 | 57=>159 | 63=>166 | 64=>167 | n=>n,fun | n=>n⟩
theorem Tryz.sort73:Go.Proofs.SlLaysM.n6 Tryz.prog Tryz.sort73_ren:={
 mixed:=by kernel_rfl
 f6:=⟨Tryz.f73.name,by decide,Tryz.func73.trans (congrArg some (by kernel_rfl))⟩
 f8:=Tryz.func89.trans (congrArg some (by kernel_rfl))
 f9:=⟨Tryz.f88.name,by decide,Tryz.func88.trans (congrArg some (by kernel_rfl))⟩
 f19:=Tryz.func113.trans (congrArg some (by kernel_rfl))
 f20:=Tryz.func114.trans (congrArg some (by kernel_rfl))
 f21:=⟨Tryz.f104.name,by decide,Tryz.func104.trans (congrArg some (by kernel_rfl))⟩
 f22:=⟨Tryz.f105.name,by decide,Tryz.func105.trans (congrArg some (by kernel_rfl))⟩
 f23:=⟨Tryz.f106.name,by decide,Tryz.func106.trans (congrArg some (by kernel_rfl))⟩
 f24:=⟨Tryz.f107.name,by decide,Tryz.func107.trans (congrArg some (by kernel_rfl))⟩
 f25:=⟨Tryz.f108.name,by decide,Tryz.func108.trans (congrArg some (by kernel_rfl))⟩
 f26:=⟨Tryz.f109.name,by decide,Tryz.func109.trans (congrArg some (by kernel_rfl))⟩
 f27:=⟨Tryz.f110.name,by decide,Tryz.func110.trans (congrArg some (by kernel_rfl))⟩
 f28:=⟨Tryz.f111.name,by decide,Tryz.func111.trans (congrArg some (by kernel_rfl))⟩
 f29:=⟨Tryz.f112.name,by decide,Tryz.func112.trans (congrArg some (by kernel_rfl))⟩
 f31:=Tryz.func121.trans (congrArg some (by kernel_rfl))
 f32:=Tryz.func122.trans (congrArg some (by kernel_rfl))
 f36:=⟨Tryz.f120.name,by decide,Tryz.func120.trans (congrArg some (by kernel_rfl))⟩
 f37:=⟨Tryz.f123.name,by decide,Tryz.func123.trans (congrArg some (by kernel_rfl))⟩
 f38:=⟨Tryz.f124.name,by decide,Tryz.func124.trans (congrArg some (by kernel_rfl))⟩
 f39:=⟨Tryz.f125.name,by decide,Tryz.func125.trans (congrArg some (by kernel_rfl))⟩
 f41:=⟨Tryz.f131.name,by decide,Tryz.func131.trans (congrArg some (by kernel_rfl))⟩
 t0:=Tryz.underlying0
 a0:=Tryz.isAgg0
 z0:=Tryz.sizeOf0
 v0:=Tryz.zeroValue0
 t3:=Tryz.underlying3
 a3:=Tryz.isAgg3
 z3:=Tryz.sizeOf3
 v3:=Tryz.zeroValue3
 t4:=Tryz.underlying4
 a4:=Tryz.isAgg4
 z4:=Tryz.sizeOf4
 v4:=Tryz.zeroValue4
 t5:=Tryz.underlying5
 a5:=Tryz.isAgg5
 z5:=Tryz.sizeOf5
 v5:=Tryz.zeroValue5
 t9:=Tryz.underlying9
 a9:=Tryz.isAgg9
 z9:=Tryz.sizeOf9
 v9:=Tryz.zeroValue9
 t26:=Tryz.underlying49
 a26:=Tryz.isAgg49
 z26:=Tryz.sizeOf49
 v26:=Tryz.zeroValue49
 t27:=Tryz.underlying49
 a27:=Tryz.isAgg49
 z27:=Tryz.sizeOf49
 v27:=Tryz.zeroValue49
 t29:=Tryz.underlying9
 a29:=Tryz.isAgg9
 z29:=Tryz.sizeOf9
 v29:=Tryz.zeroValue9
 t32:=Tryz.underlying134
 a32:=Tryz.isAgg134
 z32:=Tryz.sizeOf134
 v32:=Tryz.zeroValue134
 t35:=Tryz.underlying141
 a35:=Tryz.isAgg141
 z35:=Tryz.sizeOf141
 v35:=Tryz.zeroValue141
 t36:=Tryz.underlying142
 a36:=Tryz.isAgg142
 z36:=Tryz.sizeOf142
 v36:=Tryz.zeroValue142
 t41:=Tryz.underlying101
 a41:=Tryz.isAgg101
 z41:=Tryz.sizeOf101
 v41:=Tryz.zeroValue101
 t44:=Tryz.underlying149
 a44:=Tryz.isAgg149
 z44:=Tryz.sizeOf149
 v44:=Tryz.zeroValue149
 t46:=Tryz.underlying151
 a46:=Tryz.isAgg151
 z46:=Tryz.sizeOf151
 v46:=Tryz.zeroValue151
 t53:=Tryz.underlying155
 a53:=Tryz.isAgg155
 z53:=Tryz.sizeOf155
 v53:=Tryz.zeroValue155
 t57:=Tryz.underlying159
 a57:=Tryz.isAgg159
 z57:=Tryz.sizeOf159
 v57:=Tryz.zeroValue159
 t63:=Tryz.underlying166
 a63:=Tryz.isAgg166
 z63:=Tryz.sizeOf166
 v63:=Tryz.zeroValue166
 t64:=Tryz.underlying167
 a64:=Tryz.isAgg167
 z64:=Tryz.sizeOf167
 v64:=Tryz.zeroValue167 }
def Tryz.sorted49_ren:Go.Shelf.Ren:=⟨fun | 6=>49 | 8=>72 | 9=>73 | 11=>87 | 13=>89 | 12=>88 | 23=>113 | 24=>114 | 14=>104 | 15=>105 | 16=>106 | 17=>107 | 18=>108 | 19=>109 | 20=>110 | 21=>111 | 22=>112 | 25=>120 | 26=>121 | 27=>122 | 28=>123 | 29=>124 | 30=>125 | 31=>131 | n=>n,fun | 26=>9 | 28=>95 | 24=>49 | 0=>0 | 3=>3 | 37=>134 | 48=>149 | 50=>151 | 4=>4 | 40=>142 | 39=>141 | 45=>101 | 5=>5 | 9=>9 | 51=>155 | 55=>159 | 57=>166 | 58=>167 | 33=>103 | n=>n,fun | n=>n⟩
theorem Tryz.sorted49:Go.Proofs.SlLaysZ.n6 Tryz.prog Tryz.sorted49_ren:={
 mixed:=by kernel_rfl
 f6:=⟨Tryz.f49.name,by decide,Tryz.func49.trans (congrArg some (by kernel_rfl))⟩
 f8:=⟨Tryz.f72.name,by decide,Tryz.func72.trans (congrArg some (by kernel_rfl))⟩
 f11:=⟨Tryz.f87.name,by decide,Tryz.func87.trans (congrArg some (by kernel_rfl))⟩
 t0:=Tryz.underlying0
 a0:=Tryz.isAgg0
 z0:=Tryz.sizeOf0
 v0:=Tryz.zeroValue0
 t24:=Tryz.underlying49
 a24:=Tryz.isAgg49
 z24:=Tryz.sizeOf49
 v24:=Tryz.zeroValue49
 t26:=Tryz.underlying9
 a26:=Tryz.isAgg9
 z26:=Tryz.sizeOf9
 v26:=Tryz.zeroValue9
 t28:=Tryz.underlying95
 a28:=Tryz.isAgg95
 z28:=Tryz.sizeOf95
 v28:=Tryz.zeroValue95
 i26:=by kernel_rfl }
def Tryz.keys50_ren:Go.Shelf.Ren:=⟨fun | 7=>50 | 10=>74 | n=>n,fun | 23=>65 | 26=>9 | 3=>83 | 28=>95 | 0=>0 | 27=>94 | 33=>103 | 4=>4 | n=>n,fun | n=>n⟩
theorem Tryz.keys50:Go.Proofs.SlLaysZ.n7 Tryz.prog Tryz.keys50_ren:={
 mixed:=by kernel_rfl
 f7:=⟨Tryz.f50.name,by decide,Tryz.func50.trans (congrArg some (by kernel_rfl))⟩
 f10:=⟨Tryz.f74.name,by decide,Tryz.func74.trans (congrArg some (by kernel_rfl))⟩
 t0:=Tryz.underlying0
 a0:=Tryz.isAgg0
 z0:=Tryz.sizeOf0
 v0:=Tryz.zeroValue0
 t4:=Tryz.underlying4
 a4:=Tryz.isAgg4
 z4:=Tryz.sizeOf4
 v4:=Tryz.zeroValue4
 t23:=Tryz.underlying65
 a23:=Tryz.isAgg65
 z23:=Tryz.sizeOf65
 v23:=Tryz.zeroValue65
 t26:=Tryz.underlying9
 a26:=Tryz.isAgg9
 z26:=Tryz.sizeOf9
 v26:=Tryz.zeroValue9
 t27:=Tryz.underlying94
 a27:=Tryz.isAgg94
 z27:=Tryz.sizeOf94
 v27:=Tryz.zeroValue94
 t28:=Tryz.underlying95
 a28:=Tryz.isAgg95
 z28:=Tryz.sizeOf95
 v28:=Tryz.zeroValue95
 t33:=Tryz.underlying103
 a33:=Tryz.isAgg103
 z33:=Tryz.sizeOf103
 v33:=Tryz.zeroValue103 }
end Go.Proofs
namespace Go.Proofs.YtfbmdidnlhifjaaGreatDoor.Q
open Go Go.RowKit Go.Maps Go.Sort Go.Shelf Go.Proofs
set_option linter.unusedVariables false
set_option maxHeartbeats 1000000
theorem NX {Z:Fz}{v:Value}{vs:List Value}(h:AS Z [rv v] vs):vs=[v]:=AS.eq_rv (us:=[v]) h
theorem Qn {T:Type}(enc:T→Rp)(xs:List (Ak×T)):(A1 enc xs).map (·.1)=xs.map (·.1):=by simp[A1]
theorem Ox (b:Nat):Fn Tryz.prog GE 50 [rv (.map (some b))] [] (λR H=>∃k:Nat,R=rv (.func (.func 74) #[] #[.pointer (some ⟨k,0,none⟩)])∧H=[.blk k [rv (.map (some b))] 65]):=λw Z vs hv hs=>by
 have e:=NX hv;subst e;have hc:Calls Tryz.prog 50 #[.map (some b)] w (λe w'=>e = .returned (.func (.func 74) #[] #[.pointer (some ⟨w.heap.size,0,none⟩)])∧w'=w.alloc (.cells #[.map (some b)] 65)):=callsIn_wide.1 (AnyZ.keys_in Tryz.keys50 Fence.wide 5 trivial rfl (some b) w);refine hc.mono ?_;rintro e w' ⟨rfl,rfl⟩;exact⟨_,_,_,Z,rfl,⟨w.heap.size,rfl,rfl⟩,rfl,hs.alloc _ ⟨[.map (some b)],by simpa using heap_alloc_new w _,rfl,trivial⟩ rfl⟩
theorem NV (m:Nat):AnyZ.SortsIn Tryz.prog Tryz.sorted49_ren Fence.wide m:=
  ⟨λblk off cap ss W hH hblk hsz=>callsIn_wide.2 (AnyM.slices_Sort_string Tryz.sort73 blk off cap ss W hH hblk hsz),
   λp cap W=>callsIn_wide.2 (AnyM.slices_Sort_string_none Tryz.sort73 p cap W)⟩
theorem MN {T:Type}(enc:T→Rp)(xs:List (Ak×T))(k b:Nat)(hk:O0 xs=true):Fn Tryz.prog GE 49 [rv (.func (.func 74) #[] #[.pointer (some ⟨k,0,none⟩)])] [.blk k [rv (.map (some b))] 65,.map b (A1 enc xs)] (λR H=>∃v:Value,R=rv v∧H=[.row v 9 1 ((Ly xs).map eS),.blk k [rv (.map (some b))] 65,.map b (A1 enc xs)]):=λw Z vs hv hs=>by
 have e:=NX hv;subst e;obtain⟨us,h1,h2⟩:=hs.ent (i:=0) rfl;have e2:=NX h2;subst e2;obtain⟨es,ck,h3,h4⟩:=hs.ent (i:=1) rfl;unfold O0 at hk;simp only[UX,UU,V1] at hk;have hlen:(A1 enc xs).length=xs.length:=GR enc xs;have hkl:∀p∈A1 enc xs,p.1.length≤maxLen:=λp hp=>by
  obtain⟨y,hy,rfl⟩:=List.mem_map.1 hp;have:=hk.2 y hy;have e:maxLen=9223372036854775807:=rfl;rw[e];simpa[Sk] using this
 obtain⟨D0,d1,d2,d3⟩:=SC (k:=9) Tryz.underlying9 h3 h4 hkl (by rw[hlen];have:=hk.1;have e:maxLen=9223372036854775807:=rfl;omega);have hkb:k<w.heap.size:=(Array.getElem?_eq_some_iff.1 h1).1;have hcell:w.cell? ⟨k,0,none⟩=some (.map (some b)):=by simp[World.cell?,h1]
 have hseq:SeqGives Fence.wide 2 Tryz.prog 74 #[.pointer (some ⟨k,0,none⟩)] encStr (λss=>ss.Perm (strKeys D0)) (Maps.size D0) w:=
  AnyZ.keys_gives (ρ:=Tryz.keys50_ren) { Tryz.keys50 with } Fence.wide _ trivial rfl (by omega) k b es.size D0 w hkb hcell d1
 have hc:=AnyZ.sorted_in Tryz.sorted49 Fence.wide 5 trivial trivial trivial trivial rfl (by omega) (NV _) (enters_of Tryz.func73 (by kernel_rfl) rfl) 74 #[.pointer (some ⟨k,0,none⟩)] trivial (enters_of Tryz.func74 (by kernel_rfl) rfl) _ (Maps.size D0) (by rw[d3,hlen];have:=hk.1;have e:maxLen=9223372036854775807:=rfl;omega) (by rw[d3,hlen];exact hk.1) w hseq;refine(callsIn_wide.1 hc).mono ?_;rintro e w' ⟨v,ss,rfl,hS,hrow,hnil,hb⟩;have hp:ss.Perm (xs.map (·.1)):=hS.trans (by rw[← Qn enc xs];exact d2);have e1:ss.mergeSort (λx y=>decide (x≤y))=Ly xs:=mergeSort_of_perm hp;have e3:ss.length=(Ly xs).length:=by rw[← e1,List.length_mergeSort]
 rw[e1,e3] at hrow;exact⟨_,v,_,Z,rfl,⟨v,rfl,rfl⟩,rfl,hs.newrow hb hrow⟩
open Go Go.RowKit
set_option linter.unusedSimpArgs false
set_option maxRecDepth 100000
set_option maxHeartbeats 4000000
@[reducible] def Ad (kc:Nat) (x:Ah):(Value→List Rp)×List (List Rp):=(λr=>[AL 4 (Au Ac x.fState),rv r,Am x.fDone],Au (eP kc) x.fCalls)
theorem RJ:∃inf,Tryz.prog.info? 88=some inf∧inf.zero=some (.pointer none)∧inf.size=1∧inf.bytes=8:=by
  have key:(Tryz.prog.info? 88).map (λi=>(i.zero,i.size,i.bytes))=some (some (.pointer none),1,8):=by kernel_rfl
  obtain⟨inf,h1,h2⟩:=Option.map_eq_some_iff.1 key;simp only[Prod.mk.injEq] at h2;exact⟨inf,h1,h2.1,h2.2.1,h2.2.2⟩
theorem Tc (parts:List (Nat×Value)):Tryz.prog.built 68 parts=Instr.fill (λi=>(#[(0,1),(1,1),(2,1)]:Array (Nat×Nat))[i]?) #[(.int .i64 0),((.map none)),((.map none))] parts:=by kernel_rfl
theorem KV {n:Nat}{c:Cx}{l:Fr}{H:List Ent}{d:Option Nat}{ty:TypeId}{pos:String}{af:Array Edge}{g:Option (Nat×Bool)}{x1:Operand}{r1:Rp}(h1:ev l x1=some r1)(u1:r1.one=true){x2:Operand}{r2:Rp}(h2:ev l x2=some r2)(u2:r2.one=true):Bk Tryz.prog n c l H { dst:=d,op:=.build 68 #[(1,x1),(2,x2)],type:=ty,pos:=pos,after:=af,guard:=g } (Bc [Am 0,r1,r2]):=λa w Z ha _=>by
  have p1:=ha.ev h1;have c1:=Bw (r1.hone u1 Z _ p1);have p2:=ha.ev h2;have c2:=Bw (r2.hone u2 Z _ p2);have hb:Tryz.prog.built 68 [(1,a.eval x1),(2,a.eval x2)]=some #[(.int .i64 0),a.eval x1,a.eval x2]:=by
    rw[Tc];generalize a.eval x1=v1 at *;generalize a.eval x2=v2 at *;simp[Instr.fill,c1,c2]
  refine⟨.agg #[(.int .i64 0),a.eval x1,a.eval x2],⟨[(.int .i64 0),a.eval x1,a.eval x2],rfl,rfl,p1,p2,trivial⟩,?_⟩;have:=run_build w 68 #[(1,a.eval x1),(2,a.eval x2)] _ (by simpa using hb);simp[execOp,this]
theorem Tb (parts:List (Nat×Value)):Tryz.prog.built 87 parts=Instr.fill (λi=>(#[(0,1),(1,1),(2,1)]:Array (Nat×Nat))[i]?) #[((.slice none 0 0)),((.slice none 0 0)),(.int .i64 0)] parts:=by kernel_rfl
theorem Ni {n:Nat}{c:Cx}{l:Fr}{H:List Ent}{d:Option Nat}{ty:TypeId}{pos:String}{af:Array Edge}{g:Option (Nat×Bool)}{x0:Operand}{r0:Rp}(h0:ev l x0=some r0)(u0:r0.one=true):Bk Tryz.prog n c l H { dst:=d,op:=.build 87 #[(0,x0)],type:=ty,pos:=pos,after:=af,guard:=g } (Bc [r0,rv (.slice none 0 0),Am 0]):=λa w Z ha _=>by
  have p0:=ha.ev h0;have c0:=Bw (r0.hone u0 Z _ p0);have hb:Tryz.prog.built 87 [(0,a.eval x0)]=some #[a.eval x0,((.slice none 0 0)),(.int .i64 0)]:=by
    rw[Tb];generalize a.eval x0=v0 at *;simp[Instr.fill,c0]
  refine⟨.agg #[a.eval x0,((.slice none 0 0)),(.int .i64 0)],⟨[a.eval x0,((.slice none 0 0)),(.int .i64 0)],rfl,p0,rfl,rfl,trivial⟩,?_⟩;have:=run_build w 87 #[(0,a.eval x0)] _ (by simpa using hb);simp[execOp,this]
theorem Rz  (r:(Aq×(List Ah)×(List Ai)))(h:R0=some r):Fn Tryz.prog GE 16 [] [] (λR H=>∃u0:Nat,∃u0_1:Nat,∃u0_2:Nat,∃u0_p1:Value,∃u0_p2:Value,R=rP u0 0∧H=[.blk u0 [Am r.1.fNow,rv (.map (some u0_1)),rv (.map (some u0_2))] 68,.map u0_1 (A1 (mP u0_1) r.1.fEntities),.map u0_2 (A1 (mP u0_2) r.1.fCalls),.poolw u0_1 u0_p1 87 88 1 (Au (Ad u0_2) r.2.1) none,.pool u0_2 u0_p2 44 (Au Af r.2.2)]):=by
 refine enter (n:=5) Tryz.func16 Aa Tryz.ntmps16 Aa (λw Z=>?_);unfold R0 at h;refine Ap (wa Aa (BF (JC (e:=87) (re:=88) (rz:=1) Aa (λb1=>?_))));refine JZ (e:=44) Aa (λb2=>?_);refine wv (r:=Bc [Am 0,rv (.map (some b1)),rv (.map (some b2))]) (KV Aa Aa Aa Aa) (BJ Aa Aa (λb3=>?_));refine wa Aa (A4 (A8 (C2 (H2:=[.blk b3 [Am 0,rv (.map (some b1)),rv (.map (some b2))] 68,.map b1 (A1 (mP b1) ([]:List (Ak×Int))),.map b2 (A1 (mP b2) ([]:List (Ak×Int))),.poolw b1 (.tuple #[]) 87 88 1 (Au (Ad b2) ([]:List Ah)) none,.pool b2 (.tuple #[]) 44 (Au Af ([]:List Ai))]) ((Aj (i:=0) Aa).trans (US _ ((Aj (i:=3) Aa).trans (US _ ((Aj (i:=1) Aa).trans (US _ ((Aj (i:=1) Aa).trans (US _ (UY _))))))))) ?_)));obtain rfl:=A9 h;exact A7 (Ci Tryz.results16 (AV Aa)) (sC (sC (sC (sC (sC sN))))) ⟨b3,b1,b2,(.tuple #[]),(.tuple #[]),Aa,Aa⟩
theorem Hq (ha:Nat)(hb:Nat)(hd:Nat)(d:Aq)(r:Bool)(h:Tt d=some r):Fn Tryz.prog GE 44 [rP ha 0] [.blk ha [Am d.fNow,rv (.map (some hb)),rv (.map (some hd))] 68] (λR H=>R=rB r∧H=[.blk ha [Am d.fNow,rv (.map (some hb)),rv (.map (some hd))] 68]):=by
 refine enter (n:=12) Tryz.func44 Aa Tryz.ntmps44 Aa (λw Z=>?_);unfold Tt at h;refine Ap (wa Aa (A4 (AW [(2,rB true)] [.blk ha [Am d.fNow,rv (.map (some hb)),rv (.map (some hd))] 68] ?_ ?_)))
 ·refine AB (wm Aa (wv (r:=rB true) (Qa ⟨_,Tryz.underlying41⟩ Aa) (wm Aa (Bo (b:=true) Aa Aa Aa (wm Aa (Bo (b:=true) Aa Aa Aa (wv (AU Aa) (Bo (b:=true) Aa Aa Aa (vF Gg Aa MC (Bo (b:=true) Aa Aa Aa (vL 0 MF Aa (Bo (b:=true) Aa Aa Aa (wv (r:=rB true) (Qb (v:=some hb) NP Aa) (wv (r:=rB true) (A6 (b:=true) Aa Aa Aa) (wa Aa (A5 ?_))))))))))))))));exact wt
 refine A8 ?_;obtain rfl:=A9 h;exact A7 (Ci Tryz.results44 (AV Aa)) (sC sN) ⟨Aa,Aa⟩
theorem Hn (F:Nat)(hd:Nat)(hb:Nat)(ha:Nat)(hi:Value)(hh:Value)(d:Aq)(d_p1:(List Ah))(d_p2:(List Ai))(op:Ar)(now:Int)(r:Int×Aq×(List Ah)×(List Ai))(h:Cv F d d_p1 d_p2 op now=some r):Fn Tryz.prog GE 18 [rP hd 0,Bc (Av op),Am now] [.blk hd [Am d.fNow,rv (.map (some hb)),rv (.map (some ha))] 68,.map hb (A1 (mP hb) d.fEntities),.map ha (A1 (mP ha) d.fCalls),.poolw hb hi 87 88 1 (Au (Ad ha) d_p1) none,.pool ha hh 44 (Au Af d_p2)] (λR H=>∃w0_p1:Value,∃w0_p2:Value,R=Am r.1∧H=[.blk hd [Am r.2.1.fNow,rv (.map (some hb)),rv (.map (some ha))] 68,.map hb (A1 (mP hb) r.2.1.fEntities),.map ha (A1 (mP ha) r.2.1.fCalls),.poolw hb w0_p1 87 88 1 (Au (Ad ha) r.2.2.1) none,.pool ha w0_p2 44 (Au Af r.2.2.2)]):=by
 refine enter (n:=121) Tryz.func18 Aa Tryz.ntmps18 Aa (λw Z=>?_);unfold Cv at h;refine Ap (BJ Aa Aa (λb1=>?_));refine wa Aa (A4 (A2 (Ap (wm Aa (JY (Hr:=[.blk b1 (Av op) 25,.map hb (A1 (mP hb) d.fEntities),.map ha (A1 (mP ha) d.fCalls),.poolw hb hi 87 88 1 (Au (Ad ha) d_p1) none,.pool ha hh 44 (Au Af d_p2)]) PE (Hq hd hb ha d true Aa) Aa ((Aj (i:=1) Aa).trans (US _ (UY _))) Aa ?_)))));rintro _ _ ⟨rfl,rfl⟩;refine wv (Cd Aa) (A4 (DA Aa (CV Aa) (AD (Be (A2 (Ap (wv (Bf (i:=1) Ii D5 Aa Aa Aa Aa) (ob h λr2 e4 h3=>DI Tryz.call36 (Nq F op r2 e4) Aa (wa Aa (BF (wm Aa (wv (Ey Aa Aa) (A4 (cz h3 Aa (λc5 h6=>?_) (λc5 h7=>?_)))))))))))))))
 ·refine Ap (wm Aa (wa Aa (A4 (A8 (Al ?_)))));obtain rfl:=A9 h6;exact A7 (Ci ME (AV Aa)) (sC (sS (sC (sC (sC (sC sN)))))) ⟨hi,hh,Aa,Aa⟩
 ·refine AD (Be (A2 (AW [(0,rP hd 0),(2,Am now),(4,rP b1 0),(26,rB ((decide (now<0))||(decide (1073741824<now))))] [.blk hd [Am d.fNow,rv (.map (some hb)),rv (.map (some ha))] 68,.blk b1 (Av op) 25,.map hb (A1 (mP hb) d.fEntities),.map ha (A1 (mP ha) d.fCalls),.poolw hb hi 87 88 1 (Au (Ad ha) d_p1) none,.pool ha hh 44 (Au Af d_p2)] ?_ ?_)))
  ·refine AB (wm Aa (wv (E8 Aa Aa) (wm Aa (Bb (decide (now<0)) (λc8=>?_) (λc8=>?_)))))
   ·refine wf c8 (wf c8 (wv (r:=rB true) (A6 Aa c8 Aa) (A5 ?_)));exact Dc c8
   ·refine wo c8 (wm Aa (wo c8 (wv (Ez Aa Aa) (Ju Aa c8 Aa (A5 ?_)))));exact Dc c8
  refine cz h7 Aa (λc9 h2=>?_) (λc9 h4=>?_)
  ·refine Ap (wa Aa (A4 (A8 (Al ?_))));obtain rfl:=A9 h2;exact A7 (Ci ME (AV Aa)) (sC (sS (sC (sC (sC (sC sN)))))) ⟨hi,hh,Aa,Aa⟩
  ·refine AD (Be (A2 (Ap (wm Aa (wm Aa (wv (AU Aa) (vF Gg Aa C7 (vL 0 Ei Aa (wv (E8 Aa Aa) (A4 (cz h4 Aa (λh5 h8=>?_) (λh5 h9=>?_))))))))))))
   ·refine Ap (wa Aa (A4 (A8 (Al ?_))));obtain rfl:=A9 h8;exact A7 (Ci ME (AV Aa)) (sC (sS (sC (sC (sC (sC sN)))))) ⟨hi,hh,Aa,Aa⟩
   ·refine AD (Be (A2 (A2 (Et [0,2,4] [⟨[],rP hd 0,0⟩,⟨[0],rP hd 0,0⟩,⟨[1],rP hd 2,0⟩,⟨[2],rv (.map (some ha)),1⟩,⟨[],rP b1 1,0⟩,⟨[4],rS op.fID,1⟩,⟨[3,5],CP [DX ha (Aw d.fCalls op.fID (-1)) 0,rB (Bq d.fCalls op.fID)],1⟩,⟨[6],CP [DX ha (Aw d.fCalls op.fID (-1)) 0,rB (Bq d.fCalls op.fID)],0⟩,⟨[7],DX ha (Aw d.fCalls op.fID (-1)) 0,0⟩,⟨[7],rB (Bq d.fCalls op.fID),0⟩,⟨[8],DX ha (Aw d.fCalls op.fID (-1)) 0,0⟩,⟨[9],rB (Bq d.fCalls op.fID),0⟩] [8,9,0,2,4] ?_ ?_))))
    ·refine oq (Ay Aa) (oq (AU Aa) (oq (AR Gg Aa QI Aa Aa) (of (B5 (i:=0) QN Aa Aa Aa) (oq (AR Cs Aa Eh Aa Aa) (of (B5 (i:=1) EI Aa Aa Aa) (of (Gr (enc:=(mP ha)) (xs:=d.fCalls) (z:=(-1)) (i:=3) QG G1 Sn (Qp ha) Aa Aa Aa) (oq (Ay Aa) (oq (AN Aa Aa) (oq (AN Aa Aa) (oq (AQ Aa) (oq (AQ Aa) ?_)))))))))));exact Dk
    refine Be (Ap (wm Aa (A4 (cz h9 Aa (λhA hB=>?_) (λhA hC=>?_)))))
    ·refine A2 (A2 (ck hB λg17 hD=>ck hD λg19 hE=>C3 5 [0,2,4,8] [⟨[],DX ha (Aw d.fCalls op.fID (-1)) 0,none,none,none⟩,⟨[0],DX ha (Aw d.fCalls op.fID (-1)) 0,none,none,none⟩,⟨[1],DX ha (Aw d.fCalls op.fID (-1)) 0,none,none,none⟩,⟨[2],Bc (Av ((Ae d_p2 (Aw d.fCalls op.fID (-1))).fOp)),none,none,none⟩,⟨[],Bc (Av op),none,none,none⟩] ?_ (λβ=>?_)))
     ·refine CG (Ay Aa) (CG (Ck Aa g17) (CG (Kn E6 Aa D5 Aa g17 Aa) (Km (Ga (enc:=Af) (xs:=d_p2) (j:=5) Ii D5 Aa Aa g19 Aa Aa) (Km (Bf (i:=1) Ii D5 Aa Aa Aa Aa) ?_))));exact Pg
     refine Dy (H1:=[.blk hd [Am d.fNow,rv (.map (some hb)),rv (.map (some ha))] 68,.blk b1 (Av op) 25,.map hb (A1 (mP hb) d.fEntities),.map ha (A1 (mP ha) d.fCalls),.poolw hb hi 87 88 1 (Au (Ad ha) d_p1) none,.pool ha hh 44 (Au Af d_p2)]) [44,45,46,47,48,0,2,4,8] ?_;refine ob hE λhG hH hI=>DI Tryz.call46 (SH F ((Ae d_p2 (Aw d.fCalls op.fID (-1))).fOp) op hG hH) Aa (wv (Cd Aa) (A4 (cz hI Aa (λhJ hK=>?_) (λhJ hL=>?_))))
     ·refine Ap (wa Aa (A4 (A8 (Al (Al ?_)))));obtain rfl:=A9 hK;exact A7 (Ci ME (AV Aa)) (sC (sS (sC (sC (sC (sC sN)))))) ⟨hi,hh,Aa,Aa⟩
     ·refine AD (Be (Ap (wm Aa (wm Aa (wv (AU Aa) (vF Gg Aa C7 (BO (i:=0) C7 Aa Aa (BZ Aa) Aa Aa (cs':=[Am now,rv (.map (some hb)),rv (.map (some ha))]) Aa (H':=[.blk hd [Am now,rv (.map (some hb)),rv (.map (some ha))] 68,.blk b1 (Av op) 25,.map hb (A1 (mP hb) d.fEntities),.map ha (A1 (mP ha) d.fCalls),.poolw hb hi 87 88 1 (Au (Ad ha) d_p1) none,.pool ha hh 44 (Au Af d_p2)]) Aa (BF (wa Aa (A4 (A8 (Al ?_))))))))))));obtain rfl:=A9 hL;exact A7 (Ci ME (AV Aa)) (sC (sS (sC (sC (sC (sC sN)))))) ⟨hi,hh,Aa,Aa⟩
    ·refine AD (Be (A2 (Et [0,2,4] [⟨[],rP hd 0,0⟩,⟨[0],rP hd 0,0⟩,⟨[1],rP hd 1,0⟩,⟨[2],rv (.map (some hb)),1⟩,⟨[],rP b1 0,0⟩,⟨[4],rS op.fEntity,1⟩,⟨[3,5],CP [DX hb (Aw d.fEntities op.fEntity (-1)) 0,rB (Bq d.fEntities op.fEntity)],1⟩,⟨[6],CP [DX hb (Aw d.fEntities op.fEntity (-1)) 0,rB (Bq d.fEntities op.fEntity)],0⟩,⟨[7],DX hb (Aw d.fEntities op.fEntity (-1)) 0,0⟩,⟨[7],rB (Bq d.fEntities op.fEntity),0⟩,⟨[8],DX hb (Aw d.fEntities op.fEntity (-1)) 0,0⟩,⟨[9],rB (Bq d.fEntities op.fEntity),0⟩] [10,11,0,2,4] ?_ ?_)))
     ·refine oq (Ay Aa) (oq (AU Aa) (oq (AR Gg Aa MC Aa Aa) (of (B5 (i:=0) MF Aa Aa Aa) (oq (AR Cs Aa Eh Aa Aa) (of (B5 (i:=1) EI Aa Aa Aa) (of (Gr (enc:=(mP hb)) (xs:=d.fEntities) (z:=(-1)) (i:=2) NP G1 So (Qp hb) Aa Aa Aa) (oq (Ay Aa) (oq (AN Aa Aa) (oq (AN Aa Aa) (oq (AQ Aa) (oq (AQ Aa) ?_)))))))))));exact Dk
     refine Be (A2 (AW [(0,rP hd 0),(2,Am now),(4,rP b1 0),(10,DX hb (Aw d.fEntities op.fEntity (-1)) 0),(11,rB (Bq d.fEntities op.fEntity)),(82,rB ((decide ((d.fCalls.length:Int)=256))||((!(Bq d.fEntities op.fEntity))&&(decide ((d.fEntities.length:Int)=256)))))] [.blk hd [Am d.fNow,rv (.map (some hb)),rv (.map (some ha))] 68,.blk b1 (Av op) 25,.map hb (A1 (mP hb) d.fEntities),.map ha (A1 (mP ha) d.fCalls),.poolw hb hi 87 88 1 (Au (Ad ha) d_p1) none,.pool ha hh 44 (Au Af d_p2)] ?_ ?_))
     ·refine AB (wm Aa (wv (AU Aa) (vF Gg Aa QI (vL 0 QN Aa (wv (r:=Am (d.fCalls.length:Int)) (Rv (N:=d.fCalls.length) (i:=3) QG Aa Aa (GR _ _)) (wv (BV Aa Aa) (wm Aa (Bb (decide ((d.fCalls.length:Int)=256)) (λhk=>?_) (λhk=>?_)))))))))
      ·refine wf hk (wf hk (wf hk (wu (wu (wu (wu (wu (wu (wf hk (wv (r:=rB true) (A6 Aa hk Aa) (A5 ?_)))))))))));exact Dc hk
      ·refine wo hk (wm Aa (wo hk (wv (Cd Aa) (wo hk (wm Aa (Bb (!(Bq d.fEntities op.fEntity)) (λhj=>?_) (λhj=>?_)))))))
       ·refine wo hj (wm Aa (wo hj (wv (AU Aa) (wo hj (vF Gg Aa MC (wo hj (vL 0 MF Aa (wo hj (wv (r:=Am (d.fEntities.length:Int)) (Rv (N:=d.fEntities.length) (i:=2) NP Aa Aa (GR _ _)) (wo hj (wv (BV Aa Aa) (wo hk (Ij Aa hj Aa (Ju Aa hk Aa (A5 ?_)))))))))))))));exact Dc (And.intro hk hj)
       ·refine wf hj (wf hj (wf hj (wf hj (wf hj (wf hj (wo hk (wv (r:=rB false) (AP Aa hj Aa) (Ju Aa hk Aa (A5 ?_)))))))));exact Dc (And.intro hk hj)
     refine cz hC Aa (λhN hO=>?_) (λhN hP=>?_)
     ·refine Ap (wa Aa (A4 (A8 (Al ?_))));obtain rfl:=A9 hO;exact A7 (Ci ME (AV Aa)) (sC (sS (sC (sC (sC (sC sN)))))) ⟨hi,hh,Aa,Aa⟩
     ·refine AD (Be (A2 (Ap (wm Aa (wv (Cd Aa) (A4 (cz hP Aa (λhQ hR=>?_) (λhQ hS=>?_))))))))
      ·refine Ap (ob hR λhe hT hU=>DI Tryz.call47 (LO he hT) Aa (wv (r:=Bc [AL 4 (Au Ac he),rv (.slice none 0 0),Am 0]) (Ni Aa Aa) (BJ Aa Aa (λhw=>?_))));refine wa Aa (A4 (C3 7 [0,2,4,10] [⟨[],rP hd 0,none,none,none⟩,⟨[0],rP hd 0,none,none,none⟩,⟨[1],rP hd 1,none,none,none⟩,⟨[2],rv (.map (some hb)),none,none,none⟩,⟨[],rP b1 0,none,none,none⟩,⟨[4],rS op.fEntity,none,none,none⟩,⟨[],rP hw 0,none,none,none⟩] ?_ (λβ=>?_)))
       ·refine CG (Ay Aa) (CG (AU Aa) (CG (AR Gg Aa MC Aa Aa) (Km (B5 (i:=1) MF Aa Aa Aa) (CG (AR Cs Aa Eh Aa Aa) (Km (B5 (i:=2) EI Aa Aa Aa) (CG (Ay Aa) ?_))))));exact Pg
       refine Dy (H1:=[.blk hw [AL 4 (Au Ac he),rv (.slice none 0 0),Am 0] 87,.blk hd [Am d.fNow,rv (.map (some hb)),rv (.map (some ha))] 68,.blk b1 (Av op) 25,.map hb (A1 (mP hb) d.fEntities),.map ha (A1 (mP ha) d.fCalls),.poolw hb hi 87 88 1 (Au (Ad ha) d_p1) none,.pool ha hh 44 (Au Af d_p2)]) [88,89,90,91,92,93,94,0,2,4,10] ?_;refine WL.nilrow (e:=88) (sz:=1) (WL.adoptW (encw:=(Ad ha)) (xs:=d_p1) (y:=(Ah.mk he ([]:List Int) 0)) (Hr:=[.blk hd [Am d.fNow,rv (.map (some hb)),rv (.map (some ha))] 68,.blk b1 (Av op) 25,.map hb (A1 (mP hb) d.fEntities),.map ha (A1 (mP ha) d.fCalls),.pool ha hh 44 (Au Af d_p2)]) ((Aj (i:=1) Aa).trans (US _ ((Aj (i:=0) Aa).trans (US _ ((Aj (i:=4) Aa).trans (US _ (UY _))))))) [10,94] ⟨Aa,Aa,trivial⟩ Aa Aa (λhp=>?_));refine JJ (enc:=(mP hb)) (xs:=d.fEntities) (v:=(d_p1.length:Int)) (i:=3) NP G1 Aa Aa Aa Aa (H':=[.poolw hb hp 87 88 1 (Au (Ad ha) (d_p1++[(Ah.mk he ([]:List Int) 0)])) none,.blk hd [Am d.fNow,rv (.map (some hb)),rv (.map (some ha))] 68,.blk b1 (Av op) 25,.map hb (A1 (mP hb) (mset d.fEntities op.fEntity (d_p1.length:Int))),.map ha (A1 (mP ha) d.fCalls),.pool ha hh 44 (Au Af d_p2)]) Aa (BF (wm Aa (wm Aa (wv (AU Aa) (vF Gg Aa C7 (BO (i:=1) C7 Aa Aa (BZ Aa) Aa Aa (cs':=[Am now,rv (.map (some hb)),rv (.map (some ha))]) Aa (H':=[.poolw hb hp 87 88 1 (Au (Ad ha) (d_p1++[(Ah.mk he ([]:List Int) 0)])) none,.blk hd [Am now,rv (.map (some hb)),rv (.map (some ha))] 68,.blk b1 (Av op) 25,.map hb (A1 (mP hb) (mset d.fEntities op.fEntity (d_p1.length:Int))),.map ha (A1 (mP ha) d.fCalls),.pool ha hh 44 (Au Af d_p2)]) Aa (BF (wv (Bf (i:=2) Ii D5 Aa Aa Aa Aa) (ob hU λhf hV hW=>DI Tryz.call48 (Kr F op hf hV) Aa (wm Aa (wv (r:=Bc [rS hf.fEntity,rS hf.fID,rS hf.fOp,AL 1 (Au An hf.fArgs),Am 0,rv (.slice none 0 0),Am now,Am (-1)]) (G5 Aa Aa Aa Aa Aa) (BJ Aa Aa (λhx=>?_)))))))))))));refine wa Aa (BF (wm Aa (wm Aa (ck hW λhy hX=>WL.takeout (encw:=(Ad ha)) (xs:=d_p1++[(Ah.mk he ([]:List Int) 0)]) (i:=(d_p1.length:Int)) (Hr:=[.blk hx [rS hf.fEntity,rS hf.fID,rS hf.fOp,AL 1 (Au An hf.fArgs),Am 0,rv (.slice none 0 0),Am now,Am (-1)] 44,.blk hd [Am now,rv (.map (some hb)),rv (.map (some ha))] 68,.blk b1 (Av op) 25,.map hb (A1 (mP hb) (mset d.fEntities op.fEntity (d_p1.length:Int))),.map ha (A1 (mP ha) d.fCalls),.pool ha hh 44 (Au Af d_p2)]) ((Aj (i:=1) Aa).trans (US _ (UY _))) hy [10,94,104,105] ⟨Aa,Aa,Aa,Aa,trivial⟩ (λhl hn=>?_)))));refine LL (H':=[.blk hl [AL 4 (Au Ac ((Ae (d_p1++[(Ah.mk he ([]:List Int) 0)]) (d_p1.length:Int)).fState)),rv hn,Am ((Ae (d_p1++[(Ah.mk he ([]:List Int) 0)]) (d_p1.length:Int)).fDone)] 87,.row hn 88 1 (Au (eP ha) ((Ae (d_p1++[(Ah.mk he ([]:List Int) 0)]) (d_p1.length:Int)).fCalls)),.poolw hb hp 87 88 1 (Au (Ad ha) (d_p1++[(Ah.mk he ([]:List Int) 0)])) (some (CN (d_p1.length:Int),(hl,hn))),.blk hx [rS hf.fEntity,rS hf.fID,rS hf.fOp,AL 1 (Au An hf.fArgs),Am 0,rv (.slice none 0 0),Am now,Am (-1)] 44,.blk hd [Am now,rv (.map (some hb)),rv (.map (some ha))] 68,.blk b1 (Av op) 25,.map hb (A1 (mP hb) (mset d.fEntities op.fEntity (d_p1.length:Int))),.map ha (A1 (mP ha) d.fCalls),.pool ha hh 44 (Au Af d_p2)]) Aa (wv (AU Aa) (vF Ig Aa LJ (vL 0 QM Aa (wm Aa (WL.upBlk (i:=3) (cs':=[rS hf.fEntity,rS hf.fID,rS hf.fOp,AL 1 (Au An hf.fArgs),Am 0,AL 4 (Au Ac ([]:List Ab)),Am now,Am (-1)]) Aa ⟨Up.refl _,Up.refl _,Up.refl _,Up.refl _,Up.refl _,Up.le (GB.nil _),Up.refl _,Up.refl _,trivial⟩ (WL.adopt (enc:=Af) (xs:=d_p2) (y:=(Ai.mk hf (Ax.mk 0 ([]:List Ab)) now (-1))) (Hr:=[.blk hl [AL 4 (Au Ac ((Ae (d_p1++[(Ah.mk he ([]:List Int) 0)]) (d_p1.length:Int)).fState)),rv hn,Am ((Ae (d_p1++[(Ah.mk he ([]:List Int) 0)]) (d_p1.length:Int)).fDone)] 87,.row hn 88 1 (Au (eP ha) ((Ae (d_p1++[(Ah.mk he ([]:List Int) 0)]) (d_p1.length:Int)).fCalls)),.poolw hb hp 87 88 1 (Au (Ad ha) (d_p1++[(Ah.mk he ([]:List Int) 0)])) (some (CN (d_p1.length:Int),(hl,hn))),.blk hd [Am now,rv (.map (some hb)),rv (.map (some ha))] 68,.blk b1 (Av op) 25,.map hb (A1 (mP hb) (mset d.fEntities op.fEntity (d_p1.length:Int))),.map ha (A1 (mP ha) d.fCalls)]) ((Aj (i:=3) Aa).trans (US _ ((Aj (i:=7) Aa).trans (US _ (UY _))))) [12,103,109] ⟨Aa,Aa,Aa,trivial⟩ Aa (λhs=>?_)))))));refine Bm (ys:=([(d_p2.length:Int)]:List Int)) (enc:=(eP ha)) (css:=[[DX ha (d_p2.length:Int) 0]]) (xs:=[.tmp 109]) M8 Sq Sn Aa Aa Aa ⟨JV.one Aa (Up.refl _),trivial⟩ Aa (Mt ha) Aa Aa Aa (λht=>?_);refine ck hX λhY hZ=>Exists.elim RJ λinf hinf=>DL (xs:=(Ae (d_p1++[(Ah.mk he ([]:List Int) 0)]) (d_p1.length:Int)).fCalls) (ys:=([(d_p2.length:Int)]:List Int)) (enc:=(eP ha)) (i:=3) M8 hinf.1 hinf.2.1 hinf.2.2.1 hinf.2.2.2 Aa Aa Aa Aa Aa (P5.w (i:=0) Aa Aa) (Mt ha) (RZ ha) hY Aa (λhq=>?_);refine wv (AU Aa) (vF Ig Aa LJ (BO (i:=3) LJ Aa Aa (I4 (i:=0) Aa) Aa Aa (cs':=[AL 4 (Au Ac ((Ae (d_p1++[(Ah.mk he ([]:List Int) 0)]) (d_p1.length:Int)).fState)),rv hq,Am ((Ae (d_p1++[(Ah.mk he ([]:List Int) 0)]) (d_p1.length:Int)).fDone)]) Aa (H':=[.row hq 88 1 (Au (eP ha) (((Ae (d_p1++[(Ah.mk he ([]:List Int) 0)]) (d_p1.length:Int)).fCalls)++([(d_p2.length:Int)]:List Int))),.row (.slice (some ⟨ht,0,none⟩) 1 1) 88 1 (Au (eP ha) ([(d_p2.length:Int)]:List Int)),.pool ha hs 44 (Au Af (d_p2++[(Ai.mk hf (Ax.mk 0 ([]:List Ab)) now (-1))])),.blk hl [AL 4 (Au Ac ((Ae (d_p1++[(Ah.mk he ([]:List Int) 0)]) (d_p1.length:Int)).fState)),rv hq,Am ((Ae (d_p1++[(Ah.mk he ([]:List Int) 0)]) (d_p1.length:Int)).fDone)] 87,.poolw hb hp 87 88 1 (Au (Ad ha) (d_p1++[(Ah.mk he ([]:List Int) 0)])) (some (CN (d_p1.length:Int),(hl,hn))),.blk hd [Am now,rv (.map (some hb)),rv (.map (some ha))] 68,.blk b1 (Av op) 25,.map hb (A1 (mP hb) (mset d.fEntities op.fEntity (d_p1.length:Int))),.map ha (A1 (mP ha) d.fCalls)]) Aa (A4 (A2 (C3 7 [0,4,12] [⟨[],rP hd 0,none,none,none⟩,⟨[0],rP hd 0,none,none,none⟩,⟨[1],rP hd 2,none,none,none⟩,⟨[2],rv (.map (some ha)),none,none,none⟩,⟨[],rP b1 1,none,none,none⟩,⟨[4],rS op.fID,none,none,none⟩,⟨[],DX ha (d_p2.length:Int) 0,none,none,none⟩] ?_ (λβ=>?_))))))
       ·refine CG (Ay Aa) (CG (AU Aa) (CG (AR Gg Aa QI Aa Aa) (Km (B5 (i:=5) QN Aa Aa Aa) (CG (AR Cs Aa Eh Aa Aa) (Km (B5 (i:=6) EI Aa Aa Aa) (CG (Ay Aa) ?_))))));exact Pg
       refine Dy (H1:=[.row hq 88 1 (Au (eP ha) (((Ae (d_p1++[(Ah.mk he ([]:List Int) 0)]) (d_p1.length:Int)).fCalls)++([(d_p2.length:Int)]:List Int))),.row (.slice (some ⟨ht,0,none⟩) 1 1) 88 1 (Au (eP ha) ([(d_p2.length:Int)]:List Int)),.pool ha hs 44 (Au Af (d_p2++[(Ai.mk hf (Ax.mk 0 ([]:List Ab)) now (-1))])),.blk hl [AL 4 (Au Ac ((Ae (d_p1++[(Ah.mk he ([]:List Int) 0)]) (d_p1.length:Int)).fState)),rv hq,Am ((Ae (d_p1++[(Ah.mk he ([]:List Int) 0)]) (d_p1.length:Int)).fDone)] 87,.poolw hb hp 87 88 1 (Au (Ad ha) (d_p1++[(Ah.mk he ([]:List Int) 0)])) (some (CN (d_p1.length:Int),(hl,hn))),.blk hd [Am now,rv (.map (some hb)),rv (.map (some ha))] 68,.blk b1 (Av op) 25,.map hb (A1 (mP hb) (mset d.fEntities op.fEntity (d_p1.length:Int))),.map ha (A1 (mP ha) d.fCalls)]) [114,115,116,117,118,119,120,0,4,12] ?_;refine JJ (enc:=(mP ha)) (xs:=d.fCalls) (v:=(d_p2.length:Int)) (i:=8) QG G1 Aa Aa Aa Aa (H':=[.row hq 88 1 (Au (eP ha) (((Ae (d_p1++[(Ah.mk he ([]:List Int) 0)]) (d_p1.length:Int)).fCalls)++([(d_p2.length:Int)]:List Int))),.row (.slice (some ⟨ht,0,none⟩) 1 1) 88 1 (Au (eP ha) ([(d_p2.length:Int)]:List Int)),.pool ha hs 44 (Au Af (d_p2++[(Ai.mk hf (Ax.mk 0 ([]:List Ab)) now (-1))])),.blk hl [AL 4 (Au Ac ((Ae (d_p1++[(Ah.mk he ([]:List Int) 0)]) (d_p1.length:Int)).fState)),rv hq,Am ((Ae (d_p1++[(Ah.mk he ([]:List Int) 0)]) (d_p1.length:Int)).fDone)] 87,.poolw hb hp 87 88 1 (Au (Ad ha) (d_p1++[(Ah.mk he ([]:List Int) 0)])) (some (CN (d_p1.length:Int),(hl,hn))),.blk hd [Am now,rv (.map (some hb)),rv (.map (some ha))] 68,.blk b1 (Av op) 25,.map hb (A1 (mP hb) (mset d.fEntities op.fEntity (d_p1.length:Int))),.map ha (A1 (mP ha) (mset d.fCalls op.fID (d_p2.length:Int)))]) Aa (BF (wa Aa (A4 (A8 (WK.putback (y:=(Ah.mk ((Ae (d_p1++[(Ah.mk he ([]:List Int) 0)]) (d_p1.length:Int)).fState) (((Ae (d_p1++[(Ah.mk he ([]:List Int) 0)]) (d_p1.length:Int)).fCalls)++([(d_p2.length:Int)]:List Int)) ((Ae (d_p1++[(Ah.mk he ([]:List Int) 0)]) (d_p1.length:Int)).fDone))) (encw:=(Ad ha)) (xs:=d_p1++[(Ah.mk he ([]:List Int) 0)]) (i:=(d_p1.length:Int)) (Hr:=[.row (.slice (some ⟨ht,0,none⟩) 1 1) 88 1 (Au (eP ha) ([(d_p2.length:Int)]:List Int)),.pool ha hs 44 (Au Af (d_p2++[(Ai.mk hf (Ax.mk 0 ([]:List Ab)) now (-1))])),.blk hd [Am now,rv (.map (some hb)),rv (.map (some ha))] 68,.blk b1 (Av op) 25,.map hb (A1 (mP hb) (mset d.fEntities op.fEntity (d_p1.length:Int))),.map ha (A1 (mP ha) (mset d.fCalls op.fID (d_p2.length:Int)))]) ((Aj (i:=3) Aa).trans (US _ ((Aj (i:=0) Aa).trans (US _ ((Aj (i:=2) Aa).trans (US _ (UY _))))))) hy [] trivial Aa Aa (λv53=>?_))))));refine C2 (H2:=[.blk hd [Am now,rv (.map (some hb)),rv (.map (some ha))] 68,.map hb (A1 (mP hb) (mset d.fEntities op.fEntity (d_p1.length:Int))),.map ha (A1 (mP ha) (mset d.fCalls op.fID (d_p2.length:Int))),.poolw hb v53 87 88 1 (Au (Ad ha) (List.set (d_p1++[(Ah.mk he ([]:List Int) 0)]) (CN (d_p1.length:Int)) (Ah.mk ((Ae (d_p1++[(Ah.mk he ([]:List Int) 0)]) (d_p1.length:Int)).fState) (((Ae (d_p1++[(Ah.mk he ([]:List Int) 0)]) (d_p1.length:Int)).fCalls)++([(d_p2.length:Int)]:List Int)) ((Ae (d_p1++[(Ah.mk he ([]:List Int) 0)]) (d_p1.length:Int)).fDone)))) none,.pool ha hs 44 (Au Af (d_p2++[(Ai.mk hf (Ax.mk 0 ([]:List Ab)) now (-1))])),.row (.slice (some ⟨ht,0,none⟩) 1 1) 88 1 (Au (eP ha) ([(d_p2.length:Int)]:List Int)),.blk b1 (Av op) 25]) ((Aj (i:=3) Aa).trans (US _ ((Aj (i:=4) Aa).trans (US _ ((Aj (i:=4) Aa).trans (US _ ((Aj (i:=0) Aa).trans (US _ ((Aj (i:=1) Aa).trans (US _ (UY _))))))))))) ?_;obtain rfl:=A9 hZ;exact A7 (Ci ME (AV Aa)) (sC (sC (sC (sC (sC (sS (sS sN))))))) ⟨v53,hs,Aa,Aa⟩
      ·refine AD (Be (Ap (wm Aa (wm Aa (wv (AU Aa) (vF Gg Aa C7 (BO (i:=0) C7 Aa Aa (BZ Aa) Aa Aa (cs':=[Am now,rv (.map (some hb)),rv (.map (some ha))]) Aa (H':=[.blk hd [Am now,rv (.map (some hb)),rv (.map (some ha))] 68,.blk b1 (Av op) 25,.map hb (A1 (mP hb) d.fEntities),.map ha (A1 (mP ha) d.fCalls),.poolw hb hi 87 88 1 (Au (Ad ha) d_p1) none,.pool ha hh 44 (Au Af d_p2)]) Aa (BF (wv (Bf (i:=1) Ii D5 Aa Aa Aa Aa) (ob hS λhg ga gb=>DI Tryz.call48 (Kr F op hg ga) Aa (wm Aa (wv (r:=Bc [rS hg.fEntity,rS hg.fID,rS hg.fOp,AL 1 (Au An hg.fArgs),Am 0,rv (.slice none 0 0),Am now,Am (-1)]) (G5 Aa Aa Aa Aa Aa) (BJ Aa Aa (λhz=>?_))))))))))))));refine wa Aa (BF (wm Aa (wm Aa (ck gb λh0 gc=>WL.takeout (encw:=(Ad ha)) (xs:=d_p1) (i:=Aw d.fEntities op.fEntity (-1)) (Hr:=[.blk hz [rS hg.fEntity,rS hg.fID,rS hg.fOp,AL 1 (Au An hg.fArgs),Am 0,rv (.slice none 0 0),Am now,Am (-1)] 44,.blk hd [Am now,rv (.map (some hb)),rv (.map (some ha))] 68,.blk b1 (Av op) 25,.map hb (A1 (mP hb) d.fEntities),.map ha (A1 (mP ha) d.fCalls),.pool ha hh 44 (Au Af d_p2)]) ((Aj (i:=5) Aa).trans (US _ (UY _))) h0 [10,104,105] ⟨Aa,Aa,Aa,trivial⟩ (λhm ho=>?_)))));refine LL (H':=[.blk hm [AL 4 (Au Ac ((Ae d_p1 (Aw d.fEntities op.fEntity (-1))).fState)),rv ho,Am ((Ae d_p1 (Aw d.fEntities op.fEntity (-1))).fDone)] 87,.row ho 88 1 (Au (eP ha) ((Ae d_p1 (Aw d.fEntities op.fEntity (-1))).fCalls)),.poolw hb hi 87 88 1 (Au (Ad ha) d_p1) (some (CN (Aw d.fEntities op.fEntity (-1)),(hm,ho))),.blk hz [rS hg.fEntity,rS hg.fID,rS hg.fOp,AL 1 (Au An hg.fArgs),Am 0,rv (.slice none 0 0),Am now,Am (-1)] 44,.blk hd [Am now,rv (.map (some hb)),rv (.map (some ha))] 68,.blk b1 (Av op) 25,.map hb (A1 (mP hb) d.fEntities),.map ha (A1 (mP ha) d.fCalls),.pool ha hh 44 (Au Af d_p2)]) Aa (wv (AU Aa) (vF Ig Aa LJ (vL 0 QM Aa (wm Aa (WL.upBlk (i:=3) (cs':=[rS hg.fEntity,rS hg.fID,rS hg.fOp,AL 1 (Au An hg.fArgs),Am 0,AL 4 (Au Ac ([]:List Ab)),Am now,Am (-1)]) Aa ⟨Up.refl _,Up.refl _,Up.refl _,Up.refl _,Up.refl _,Up.le (GB.nil _),Up.refl _,Up.refl _,trivial⟩ (WL.adopt (enc:=Af) (xs:=d_p2) (y:=(Ai.mk hg (Ax.mk 0 ([]:List Ab)) now (-1))) (Hr:=[.blk hm [AL 4 (Au Ac ((Ae d_p1 (Aw d.fEntities op.fEntity (-1))).fState)),rv ho,Am ((Ae d_p1 (Aw d.fEntities op.fEntity (-1))).fDone)] 87,.row ho 88 1 (Au (eP ha) ((Ae d_p1 (Aw d.fEntities op.fEntity (-1))).fCalls)),.poolw hb hi 87 88 1 (Au (Ad ha) d_p1) (some (CN (Aw d.fEntities op.fEntity (-1)),(hm,ho))),.blk hd [Am now,rv (.map (some hb)),rv (.map (some ha))] 68,.blk b1 (Av op) 25,.map hb (A1 (mP hb) d.fEntities),.map ha (A1 (mP ha) d.fCalls)]) ((Aj (i:=3) Aa).trans (US _ ((Aj (i:=7) Aa).trans (US _ (UY _))))) [12,103,109] ⟨Aa,Aa,Aa,trivial⟩ Aa (λv64=>?_)))))));refine Bm (ys:=([(d_p2.length:Int)]:List Int)) (enc:=(eP ha)) (css:=[[DX ha (d_p2.length:Int) 0]]) (xs:=[.tmp 109]) M8 Sq Sn Aa Aa Aa ⟨JV.one Aa (Up.refl _),trivial⟩ Aa (Mt ha) Aa Aa Aa (λhu=>?_);refine ck gc λgd ge=>Exists.elim RJ λinf hinf=>DL (xs:=(Ae d_p1 (Aw d.fEntities op.fEntity (-1))).fCalls) (ys:=([(d_p2.length:Int)]:List Int)) (enc:=(eP ha)) (i:=3) M8 hinf.1 hinf.2.1 hinf.2.2.1 hinf.2.2.2 Aa Aa Aa Aa Aa (P5.w (i:=0) Aa Aa) (Mt ha) (RZ ha) gd Aa (λhr=>?_);refine wv (AU Aa) (vF Ig Aa LJ (BO (i:=3) LJ Aa Aa (I4 (i:=0) Aa) Aa Aa (cs':=[AL 4 (Au Ac ((Ae d_p1 (Aw d.fEntities op.fEntity (-1))).fState)),rv hr,Am ((Ae d_p1 (Aw d.fEntities op.fEntity (-1))).fDone)]) Aa (H':=[.row hr 88 1 (Au (eP ha) (((Ae d_p1 (Aw d.fEntities op.fEntity (-1))).fCalls)++([(d_p2.length:Int)]:List Int))),.row (.slice (some ⟨hu,0,none⟩) 1 1) 88 1 (Au (eP ha) ([(d_p2.length:Int)]:List Int)),.pool ha v64 44 (Au Af (d_p2++[(Ai.mk hg (Ax.mk 0 ([]:List Ab)) now (-1))])),.blk hm [AL 4 (Au Ac ((Ae d_p1 (Aw d.fEntities op.fEntity (-1))).fState)),rv hr,Am ((Ae d_p1 (Aw d.fEntities op.fEntity (-1))).fDone)] 87,.poolw hb hi 87 88 1 (Au (Ad ha) d_p1) (some (CN (Aw d.fEntities op.fEntity (-1)),(hm,ho))),.blk hd [Am now,rv (.map (some hb)),rv (.map (some ha))] 68,.blk b1 (Av op) 25,.map hb (A1 (mP hb) d.fEntities),.map ha (A1 (mP ha) d.fCalls)]) Aa (A4 (A2 (C3 7 [0,4,12] [⟨[],rP hd 0,none,none,none⟩,⟨[0],rP hd 0,none,none,none⟩,⟨[1],rP hd 2,none,none,none⟩,⟨[2],rv (.map (some ha)),none,none,none⟩,⟨[],rP b1 1,none,none,none⟩,⟨[4],rS op.fID,none,none,none⟩,⟨[],DX ha (d_p2.length:Int) 0,none,none,none⟩] ?_ (λβ=>?_))))))
       ·refine CG (Ay Aa) (CG (AU Aa) (CG (AR Gg Aa QI Aa Aa) (Km (B5 (i:=5) QN Aa Aa Aa) (CG (AR Cs Aa Eh Aa Aa) (Km (B5 (i:=6) EI Aa Aa Aa) (CG (Ay Aa) ?_))))));exact Pg
       refine Dy (H1:=[.row hr 88 1 (Au (eP ha) (((Ae d_p1 (Aw d.fEntities op.fEntity (-1))).fCalls)++([(d_p2.length:Int)]:List Int))),.row (.slice (some ⟨hu,0,none⟩) 1 1) 88 1 (Au (eP ha) ([(d_p2.length:Int)]:List Int)),.pool ha v64 44 (Au Af (d_p2++[(Ai.mk hg (Ax.mk 0 ([]:List Ab)) now (-1))])),.blk hm [AL 4 (Au Ac ((Ae d_p1 (Aw d.fEntities op.fEntity (-1))).fState)),rv hr,Am ((Ae d_p1 (Aw d.fEntities op.fEntity (-1))).fDone)] 87,.poolw hb hi 87 88 1 (Au (Ad ha) d_p1) (some (CN (Aw d.fEntities op.fEntity (-1)),(hm,ho))),.blk hd [Am now,rv (.map (some hb)),rv (.map (some ha))] 68,.blk b1 (Av op) 25,.map hb (A1 (mP hb) d.fEntities),.map ha (A1 (mP ha) d.fCalls)]) [114,115,116,117,118,119,120,0,4,12] ?_;refine JJ (enc:=(mP ha)) (xs:=d.fCalls) (v:=(d_p2.length:Int)) (i:=8) QG G1 Aa Aa Aa Aa (H':=[.row hr 88 1 (Au (eP ha) (((Ae d_p1 (Aw d.fEntities op.fEntity (-1))).fCalls)++([(d_p2.length:Int)]:List Int))),.row (.slice (some ⟨hu,0,none⟩) 1 1) 88 1 (Au (eP ha) ([(d_p2.length:Int)]:List Int)),.pool ha v64 44 (Au Af (d_p2++[(Ai.mk hg (Ax.mk 0 ([]:List Ab)) now (-1))])),.blk hm [AL 4 (Au Ac ((Ae d_p1 (Aw d.fEntities op.fEntity (-1))).fState)),rv hr,Am ((Ae d_p1 (Aw d.fEntities op.fEntity (-1))).fDone)] 87,.poolw hb hi 87 88 1 (Au (Ad ha) d_p1) (some (CN (Aw d.fEntities op.fEntity (-1)),(hm,ho))),.blk hd [Am now,rv (.map (some hb)),rv (.map (some ha))] 68,.blk b1 (Av op) 25,.map hb (A1 (mP hb) d.fEntities),.map ha (A1 (mP ha) (mset d.fCalls op.fID (d_p2.length:Int)))]) Aa (BF (wa Aa (A4 (A8 (WK.putback (y:=(Ah.mk ((Ae d_p1 (Aw d.fEntities op.fEntity (-1))).fState) (((Ae d_p1 (Aw d.fEntities op.fEntity (-1))).fCalls)++([(d_p2.length:Int)]:List Int)) ((Ae d_p1 (Aw d.fEntities op.fEntity (-1))).fDone))) (encw:=(Ad ha)) (xs:=d_p1) (i:=Aw d.fEntities op.fEntity (-1)) (Hr:=[.row (.slice (some ⟨hu,0,none⟩) 1 1) 88 1 (Au (eP ha) ([(d_p2.length:Int)]:List Int)),.pool ha v64 44 (Au Af (d_p2++[(Ai.mk hg (Ax.mk 0 ([]:List Ab)) now (-1))])),.blk hd [Am now,rv (.map (some hb)),rv (.map (some ha))] 68,.blk b1 (Av op) 25,.map hb (A1 (mP hb) d.fEntities),.map ha (A1 (mP ha) (mset d.fCalls op.fID (d_p2.length:Int)))]) ((Aj (i:=3) Aa).trans (US _ ((Aj (i:=0) Aa).trans (US _ ((Aj (i:=2) Aa).trans (US _ (UY _))))))) h0 [] trivial Aa Aa (λh1=>?_))))));refine C2 (H2:=[.blk hd [Am now,rv (.map (some hb)),rv (.map (some ha))] 68,.map hb (A1 (mP hb) d.fEntities),.map ha (A1 (mP ha) (mset d.fCalls op.fID (d_p2.length:Int))),.poolw hb h1 87 88 1 (Au (Ad ha) (List.set d_p1 (CN (Aw d.fEntities op.fEntity (-1))) (Ah.mk ((Ae d_p1 (Aw d.fEntities op.fEntity (-1))).fState) (((Ae d_p1 (Aw d.fEntities op.fEntity (-1))).fCalls)++([(d_p2.length:Int)]:List Int)) ((Ae d_p1 (Aw d.fEntities op.fEntity (-1))).fDone)))) none,.pool ha v64 44 (Au Af (d_p2++[(Ai.mk hg (Ax.mk 0 ([]:List Ab)) now (-1))])),.row (.slice (some ⟨hu,0,none⟩) 1 1) 88 1 (Au (eP ha) ([(d_p2.length:Int)]:List Int)),.blk b1 (Av op) 25]) ((Aj (i:=3) Aa).trans (US _ ((Aj (i:=4) Aa).trans (US _ ((Aj (i:=4) Aa).trans (US _ ((Aj (i:=0) Aa).trans (US _ ((Aj (i:=1) Aa).trans (US _ (UY _))))))))))) ?_;obtain rfl:=A9 ge;exact A7 (Ci ME (AV Aa)) (sC (sC (sC (sC (sC (sS (sS sN))))))) ⟨h1,v64,Aa,Aa⟩
theorem Mi (F:Nat)(hi:Nat)(hb:Nat)(ha:Nat)(hk:Value)(hg:Value)(d:Aq)(d_p1:(List Ah))(d_p2:(List Ai))(e:Ak)(now:Int)(r:Ai×Bool×Aq×(List Ah)×(List Ai))(h:GP F d d_p1 d_p2 e now=some r):Fn Tryz.prog GE 17 [rP hi 0,rS e,Am now] [.blk hi [Am d.fNow,rv (.map (some hb)),rv (.map (some ha))] 68,.map hb (A1 (mP hb) d.fEntities),.map ha (A1 (mP ha) d.fCalls),.poolw hb hk 87 88 1 (Au (Ad ha) d_p1) none,.pool ha hg 44 (Au Af d_p2)] (λR H=>∃w0_p1:Value,∃w0_p2:Value,R=CP [Bc (Af r.1),rB r.2.1]∧H=[.blk hi [Am r.2.2.1.fNow,rv (.map (some hb)),rv (.map (some ha))] 68,.map hb (A1 (mP hb) r.2.2.1.fEntities),.map ha (A1 (mP ha) r.2.2.1.fCalls),.poolw hb w0_p1 87 88 1 (Au (Ad ha) r.2.2.2.1) none,.pool ha w0_p2 44 (Au Af r.2.2.2.2)]):=by
 refine enter (n:=107) Tryz.func17 Aa Tryz.ntmps17 Aa (λw Z=>?_);unfold GP at h;refine Ap (BM (cs:=[rS ([]:Ak),rS ([]:Ak),rS ([]:Ak),rv (.slice none 0 0),Am 0,rv (.slice none 0 0),Am 0,Am 0]) NO Aa Aa (λb1=>?_));refine wa Aa (A4 (A2 (Dd (S:=(Bool)×(Unit)) (λσ=>CH F d d_p1 d_p2 e now σ.1=some r) (λσ=>[(0,rP hi 0),(1,rS e),(2,Am now),(6,rP b1 0),(28,rB σ.1)]) (λσ=>[.blk hi [Am d.fNow,rv (.map (some hb)),rv (.map (some ha))] 68,.blk b1 [rS ([]:Ak),rS ([]:Ak),rS ([]:Ak),rv (.slice none 0 0),Am 0,rv (.slice none 0 0),Am 0,Am 0] 44,.map hb (A1 (mP hb) d.fEntities),.map ha (A1 (mP ha) d.fCalls),.poolw hb hk 87 88 1 (Au (Ad ha) d_p1) none,.pool ha hg 44 (Au Af d_p2)]) ?_ ?_)))
 ·refine AB (wm Aa (JY (Hr:=[.blk b1 [rS ([]:Ak),rS ([]:Ak),rS ([]:Ak),rv (.slice none 0 0),Am 0,rv (.slice none 0 0),Am 0,Am 0] 44,.map hb (A1 (mP hb) d.fEntities),.map ha (A1 (mP ha) d.fCalls),.poolw hb hk 87 88 1 (Au (Ad ha) d_p1) none,.pool ha hg 44 (Au Af d_p2)]) PE (Hq hi hb ha d true Aa) Aa ((Aj (i:=1) Aa).trans (US _ (UY _))) Aa ?_));rintro _ _ ⟨rfl,rfl⟩;refine wv (Cd Aa) (wm Aa (Bo (b:=!true) Aa Aa (CV Aa) (wm Aa (Bo (b:=!true) Aa Aa (CV Aa) (wm Aa (Bo (b:=!true) Aa Aa (CV Aa) (wv (AU Aa) (Bo (b:=!true) Aa Aa (CV Aa) (vF Gg Aa C7 (Bo (b:=!true) Aa Aa (CV Aa) (vL 0 Ei Aa (Bo (b:=!true) Aa Aa (CV Aa) (wv (E8 Aa Aa) (wv (r:=rB (decide (now<d.fNow))) (AP (b:=!true) Aa (CV Aa) Aa) (wm Aa (bz h (λc6 h7=>?_) (λc6 h8=>?_)))))))))))))))))
  ·exact wf c6 (wf c6 (wv (r:=rB true) (A6 Aa c6 Aa) (A5 (AO (AY (true,()) h7 (AZ.c5 Aa Aa Aa Aa Aa AZ.nil) (sC (sC (sC (sC (sC (sC sN)))))))))))
  ·exact wo c6 (wm Aa (wo c6 (wv (Ez Aa Aa) (Ju Aa c6 Aa (A5 (AO (AY (decide (1073741824<now),()) h8 (AZ.c5 Aa Aa Aa Aa Aa AZ.nil) (sC (sC (sC (sC (sC (sC sN)))))))))))))
 ·rintro⟨x5,⟨⟩⟩ h9;refine C4 (l':=[(0,rP hi 0),(1,rS e),(2,Am now),(6,rP b1 0),(28,rB x5)]) (H':=[.blk hi [Am d.fNow,rv (.map (some hb)),rv (.map (some ha))] 68,.blk b1 [rS ([]:Ak),rS ([]:Ak),rS ([]:Ak),rv (.slice none 0 0),Am 0,rv (.slice none 0 0),Am 0,Am 0] 44,.map hb (A1 (mP hb) d.fEntities),.map ha (A1 (mP ha) d.fCalls),.poolw hb hk 87 88 1 (Au (Ad ha) d_p1) none,.pool ha hg 44 (Au Af d_p2)]) Aa Aa ?_;replace h9:CH F d d_p1 d_p2 e now x5=some r:=h9;unfold CH at h9;refine cz h9 Aa (λhu hw=>?_) (λhu hx=>?_)
  ·refine Ap (wv (r:=Bc [rS ([]:Ak),rS ([]:Ak),rS ([]:Ak),rv (.slice none 0 0),Am 0,rv (.slice none 0 0),Am 0,Am 0]) (Gt ) (AG (i:=1) DV Aa Aa Aa (Bh.c Aa) Aa Aa (cs':=[rS ([]:Ak),rS ([]:Ak),rS ([]:Ak),rv (.slice none 0 0),Am 0,rv (.slice none 0 0),Am 0,Am 0]) Aa (H':=[.blk hi [Am d.fNow,rv (.map (some hb)),rv (.map (some ha))] 68,.blk b1 [rS ([]:Ak),rS ([]:Ak),rS ([]:Ak),rv (.slice none 0 0),Am 0,rv (.slice none 0 0),Am 0,Am 0] 44,.map hb (A1 (mP hb) d.fEntities),.map ha (A1 (mP ha) d.fCalls),.poolw hb hk 87 88 1 (Au (Ad ha) d_p1) none,.pool ha hg 44 (Au Af d_p2)]) Aa (wa Aa (A4 (A8 (Al (WK.upBlk (i:=1) (cs':=[rS ([]:Ak),rS ([]:Ak),rS ([]:Ak),AL 1 (Au An ([]:List (List Ab))),Am 0,AL 4 (Au Ac ([]:List Ab)),Am 0,Am 0]) Aa ⟨Up.refl _,Up.refl _,Up.refl _,Up.le (GB.nil _),Up.refl _,Up.le (GB.nil _),Up.refl _,Up.refl _,trivial⟩ ?_)))))));obtain rfl:=A9 hw;exact A7 (JM QL (BX (i:=1) JB DV Aa Aa Aa) (AV Aa)) (sC (sS (sC (sC (sC (sC sN)))))) ⟨hk,hg,Aa,Aa⟩
  ·refine AD (Be (Ap (wm Aa (wv (AU Aa) (vF Gg Aa MC (vL 0 MF Aa (wm Aa (wv (r:=CP [DX hb (Aw d.fEntities e (-1)) 0,rB (Bq d.fEntities e)]) (Gr (enc:=(mP hb)) (xs:=d.fEntities) (z:=(-1)) (i:=2) NP G1 So (Qp hb) Aa Aa Aa) (wm Aa (wv (AN Aa Aa) (wv (AN Aa Aa) (wa Aa (wa Aa (A4 (A2 (A2 (bz hx (λhj hy=>?_) (λhj hz=>?_))))))))))))))))))
   ·refine ck hy λhq h0=>WC.takeout (encw:=(Ad ha)) (xs:=d_p1) (i:=Aw d.fEntities e (-1)) (Hr:=[.blk hi [Am d.fNow,rv (.map (some hb)),rv (.map (some ha))] 68,.blk b1 [rS ([]:Ak),rS ([]:Ak),rS ([]:Ak),rv (.slice none 0 0),Am 0,rv (.slice none 0 0),Am 0,Am 0] 44,.map hb (A1 (mP hb) d.fEntities),.map ha (A1 (mP ha) d.fCalls),.pool ha hg 44 (Au Af d_p2)]) ((Aj (i:=4) Aa).trans (US _ (UY _))) hq [8,37] ⟨Aa,Aa,trivial⟩ (λhe hf=>?_);refine C4 (l':=_) (H':=[.blk he [AL 4 (Au Ac ((Ae d_p1 (Aw d.fEntities e (-1))).fState)),rv hf,Am ((Ae d_p1 (Aw d.fEntities e (-1))).fDone)] 87,.row hf 88 1 (Au (eP ha) ((Ae d_p1 (Aw d.fEntities e (-1))).fCalls)),.poolw hb hk 87 88 1 (Au (Ad ha) d_p1) (some (CN (Aw d.fEntities e (-1)),(he,hf))),.blk hi [Am d.fNow,rv (.map (some hb)),rv (.map (some ha))] 68,.blk b1 [rS ([]:Ak),rS ([]:Ak),rS ([]:Ak),rv (.slice none 0 0),Am 0,rv (.slice none 0 0),Am 0,Am 0] 44,.map hb (A1 (mP hb) d.fEntities),.map ha (A1 (mP ha) d.fCalls),.pool ha hg 44 (Au Af d_p2)]) Aa Aa (Et [0,2,6,8,9] [⟨[],rB (Bq d.fEntities e),0⟩,⟨[0],rB (!(Bq d.fEntities e)),0⟩,⟨[1],rB (!(Bq d.fEntities e)),0⟩,⟨[2],rP he 0,0⟩,⟨[3,2],rP he 0,0⟩,⟨[4,2],rP he 2,0⟩,⟨[5,2],Am ((Ae d_p1 (Aw d.fEntities e (-1))).fDone),1⟩,⟨[2],rP he 0,0⟩,⟨[7,2],rP he 0,0⟩,⟨[8,2],rP he 1,0⟩,⟨[9,2],rv hf,1⟩,⟨[10,2],Am (((Ae d_p1 (Aw d.fEntities e (-1))).fCalls).length:Int),1⟩,⟨[6,11,2],rB (decide (((Ae d_p1 (Aw d.fEntities e (-1))).fDone)=(((Ae d_p1 (Aw d.fEntities e (-1))).fCalls).length:Int))),0⟩,⟨[2,12],rB (decide (((Ae d_p1 (Aw d.fEntities e (-1))).fDone)=(((Ae d_p1 (Aw d.fEntities e (-1))).fCalls).length:Int))),0⟩] [52,0,2,6,8] ?_ ?_)
    ·refine oq (Ay Aa) (oq (Cd Aa) (oq (Ay Aa) (CU Aa (λH=>EC (b:=!(Bq d.fEntities e)) Aa Aa (CV hj) (I6 (Ay Aa))) ?_)));refine CU Aa (λH=>EC (b:=!(Bq d.fEntities e)) Aa Aa (CV hj) (I6 (AU Aa))) ?_;refine CU Aa (λH=>EC (b:=!(Bq d.fEntities e)) Aa Aa (CV hj) (I6 (AR Ig Aa C7 Aa Aa))) ?_;refine Pf Aa (EC (b:=!(Bq d.fEntities e)) Aa Aa (CV hj) (I6 (B5 (i:=0) Ei Aa Aa Aa))) ?_;refine CU Aa (λH=>EC (b:=!(Bq d.fEntities e)) Aa Aa (CV hj) (I6 (Ay Aa))) ?_;refine CU Aa (λH=>EC (b:=!(Bq d.fEntities e)) Aa Aa (CV hj) (I6 (AU Aa))) ?_;refine CU Aa (λH=>EC (b:=!(Bq d.fEntities e)) Aa Aa (CV hj) (I6 (AR Ig Aa LJ Aa Aa))) ?_;refine Pf Aa (EC (b:=!(Bq d.fEntities e)) Aa Aa (CV hj) (I6 (B5 (i:=0) QM Aa Aa Aa))) ?_;refine Pf Aa (EC (b:=!(Bq d.fEntities e)) Aa Aa (CV hj) (I6 (DO (ys:=(Ae d_p1 (Aw d.fEntities e (-1))).fCalls) (enc:=(eP ha)) (i:=1) M8 Aa Aa))) ?_;refine CU Aa (λH=>EC (b:=!(Bq d.fEntities e)) Aa Aa (CV hj) (I6 (BV Aa Aa))) ?_;refine oq (AP (b:=!(Bq d.fEntities e)) Aa (CV hj) Aa) ?_;exact Dk
    refine Be (cz h0 Aa (λh1 h2=>?_) (λh1 h3=>?_))
    ·refine Ap (wv (r:=Bc [rS ([]:Ak),rS ([]:Ak),rS ([]:Ak),rv (.slice none 0 0),Am 0,rv (.slice none 0 0),Am 0,Am 0]) (Gt ) (AG (i:=4) DV Aa Aa Aa (Bh.c Aa) Aa Aa (cs':=[rS ([]:Ak),rS ([]:Ak),rS ([]:Ak),rv (.slice none 0 0),Am 0,rv (.slice none 0 0),Am 0,Am 0]) Aa (H':=[.blk he [AL 4 (Au Ac ((Ae d_p1 (Aw d.fEntities e (-1))).fState)),rv hf,Am ((Ae d_p1 (Aw d.fEntities e (-1))).fDone)] 87,.row hf 88 1 (Au (eP ha) ((Ae d_p1 (Aw d.fEntities e (-1))).fCalls)),.poolw hb hk 87 88 1 (Au (Ad ha) d_p1) (some (CN (Aw d.fEntities e (-1)),(he,hf))),.blk hi [Am d.fNow,rv (.map (some hb)),rv (.map (some ha))] 68,.blk b1 [rS ([]:Ak),rS ([]:Ak),rS ([]:Ak),rv (.slice none 0 0),Am 0,rv (.slice none 0 0),Am 0,Am 0] 44,.map hb (A1 (mP hb) d.fEntities),.map ha (A1 (mP ha) d.fCalls),.pool ha hg 44 (Au Af d_p2)]) Aa (wa Aa (A4 (A8 (Al (WK.putsame (encw:=(Ad ha)) (xs:=d_p1) (i:=Aw d.fEntities e (-1)) (Hr:=[.blk hi [Am d.fNow,rv (.map (some hb)),rv (.map (some ha))] 68,.blk b1 [rS ([]:Ak),rS ([]:Ak),rS ([]:Ak),rv (.slice none 0 0),Am 0,rv (.slice none 0 0),Am 0,Am 0] 44,.map hb (A1 (mP hb) d.fEntities),.map ha (A1 (mP ha) d.fCalls),.pool ha hg 44 (Au Af d_p2)]) (UY _) hq [8] ⟨Aa,trivial⟩ Aa Aa (WK.upBlk (i:=2) (cs':=[rS ([]:Ak),rS ([]:Ak),rS ([]:Ak),AL 1 (Au An ([]:List (List Ab))),Am 0,AL 4 (Au Ac ([]:List Ab)),Am 0,Am 0]) Aa ⟨Up.refl _,Up.refl _,Up.refl _,Up.le (GB.nil _),Up.refl _,Up.le (GB.nil _),Up.refl _,Up.refl _,trivial⟩ (C2 (H2:=[.blk hi [Am d.fNow,rv (.map (some hb)),rv (.map (some ha))] 68,.map hb (A1 (mP hb) d.fEntities),.map ha (A1 (mP ha) d.fCalls),.poolw hb hk 87 88 1 (Au (Ad ha) d_p1) none,.pool ha hg 44 (Au Af d_p2),.blk b1 [rS ([]:Ak),rS ([]:Ak),rS ([]:Ak),AL 1 (Au An ([]:List (List Ab))),Am 0,AL 4 (Au Ac ([]:List Ab)),Am 0,Am 0] 44]) ((Aj (i:=1) Aa).trans (US _ ((Aj (i:=2) Aa).trans (US _ ((Aj (i:=2) Aa).trans (US _ ((Aj (i:=0) Aa).trans (US _ ((Aj (i:=1) Aa).trans (US _ (UY _))))))))))) ?_)))))))));obtain rfl:=A9 h2;exact A7 (JM QL (BX (i:=5) JB DV Aa Aa Aa) (AV Aa)) (sC (sC (sC (sC (sC (sS sN)))))) ⟨hk,hg,Aa,Aa⟩
    ·refine AD (Be (A2 (ck h3 λhr h4=>Et [0,2,6,8] [⟨[],rP he 0,0⟩,⟨[0],rP he 0,0⟩,⟨[1],rP he 1,0⟩,⟨[2],rv hf,1⟩,⟨[],rP he 0,0⟩,⟨[4],rP he 0,0⟩,⟨[5],rP he 2,0⟩,⟨[6],Am ((Ae d_p1 (Aw d.fEntities e (-1))).fDone),1⟩,⟨[3,7],rv (Ed 1 hf (CN ((Ae d_p1 (Aw d.fEntities e (-1))).fDone)) 0),1⟩,⟨[8],DX ha (Ae ((Ae d_p1 (Aw d.fEntities e (-1))).fCalls) ((Ae d_p1 (Aw d.fEntities e (-1))).fDone)) 0,1⟩,⟨[9],DX ha (Ae ((Ae d_p1 (Aw d.fEntities e (-1))).fCalls) ((Ae d_p1 (Aw d.fEntities e (-1))).fDone)) 0,0⟩] [10,0,2,6,8] ?_ ?_)))
     ·refine oq (Ay Aa) (oq (AU Aa) (oq (AR Ig Aa LJ Aa Aa) (of (B5 (i:=0) QM Aa Aa Aa) (oq (Ay Aa) (oq (AU Aa) (oq (AR Ig Aa C7 Aa Aa) (of (B5 (i:=0) Ei Aa Aa Aa) (of (Jb (i:=1) M8 Sq Aa Aa Aa (Bz hr)) (of (EL (enc:=(eP ha)) (ys:=(Ae d_p1 (Aw d.fEntities e (-1))).fCalls) (i:=1) (j:=(Ae d_p1 (Aw d.fEntities e (-1))).fDone) Tryz.isAgg88 Aa Aa hr Aa) (oq (AQ Aa) ?_))))))))));exact Dk
     refine Be (A2 (ck h4 λhp h5=>ck h5 λhs h6=>ob h6 λhd hA hB=>C3 16 [0,2,6,8,10] [⟨[],rP he 0,none,none,none⟩,⟨[0],rP he 0,none,none,none⟩,⟨[1],rP he 0,none,none,none⟩,⟨[2],AL 4 (Au Ac ((Ae d_p1 (Aw d.fEntities e (-1))).fState)),none,none,none⟩,⟨[],DX ha (Ae ((Ae d_p1 (Aw d.fEntities e (-1))).fCalls) ((Ae d_p1 (Aw d.fEntities e (-1))).fDone)) 0,none,none,none⟩,⟨[4],DX ha (Ae ((Ae d_p1 (Aw d.fEntities e (-1))).fCalls) ((Ae d_p1 (Aw d.fEntities e (-1))).fDone)) 0,none,none,none⟩,⟨[5],DX ha (Ae ((Ae d_p1 (Aw d.fEntities e (-1))).fCalls) ((Ae d_p1 (Aw d.fEntities e (-1))).fDone)) 0,none,none,none⟩,⟨[6],Bc (Av ((Ae d_p2 (Ae ((Ae d_p1 (Aw d.fEntities e (-1))).fCalls) ((Ae d_p1 (Aw d.fEntities e (-1))).fDone))).fOp)),none,none,none⟩,⟨[3,7],CP [AL 4 (Au Ac hd.1),Bc (A0 hd.2.1),Am hd.2.2],none,none,none⟩,⟨[8],CP [AL 4 (Au Ac hd.1),Bc (A0 hd.2.1),Am hd.2.2],none,none,none⟩,⟨[9],AL 4 (Au Ac hd.1),none,none,none⟩,⟨[9],Bc (A0 hd.2.1),none,none,none⟩,⟨[9],Am hd.2.2,none,none,none⟩,⟨[],rv undef,some ([Am 0,rv (.slice none 0 0)],31),some (15,[Am hd.2.1.fErr,AL 4 (Au Ac hd.2.1.fValue)]),none⟩,⟨[10],AL 4 (Au Ac hd.1),none,none,none⟩,⟨[11],rv undef,none,none,some 13⟩] ?_ (λβ=>?_)))
     ·refine CG (Ay Aa) (CG (AU Aa) (CG (AR Ig Aa DW Aa Aa) (Km (B5 (i:=0) Gh Aa Aa Aa) (CG (Ay Aa) (CG (Ck Aa hp) (CG (Kn E6 Aa D5 Aa hp Aa) (Km (Ga (enc:=Af) (xs:=d_p2) (j:=7) Ii D5 Aa Aa hs Aa Aa) (Ol (G4 Tryz.call11 (Tu F ((Ae d_p1 (Aw d.fEntities e (-1))).fState) ((Ae d_p2 (Ae ((Ae d_p1 (Aw d.fEntities e (-1))).fCalls) ((Ae d_p1 (Aw d.fEntities e (-1))).fDone))).fOp) hd hA) Aa) (CG (Ay Aa) (CG (AN Aa Aa) (CG (AN Aa Aa) (CG (AN Aa Aa) (Uc (NL (cs:=[Am 0,rv (.slice none 0 0)]) IO Aa) (CG (AQ Aa) (UN (fun {hm hh}=>Nf (C1 (i:=0) BA Aa Aa Aa (Bh.c Aa) Aa Aa (cs':=[Am hd.2.1.fErr,AL 4 (Au Ac hd.2.1.fValue)]) Aa (H':=.blk hm (A0 hd.2.1) 31::hh) Aa)) ?_)))))))))))))));exact Pg
     refine Dy (H1:=[.blk he [AL 4 (Au Ac ((Ae d_p1 (Aw d.fEntities e (-1))).fState)),rv hf,Am ((Ae d_p1 (Aw d.fEntities e (-1))).fDone)] 87,.row hf 88 1 (Au (eP ha) ((Ae d_p1 (Aw d.fEntities e (-1))).fCalls)),.poolw hb hk 87 88 1 (Au (Ad ha) d_p1) (some (CN (Aw d.fEntities e (-1)),(he,hf))),.blk hi [Am d.fNow,rv (.map (some hb)),rv (.map (some ha))] 68,.blk b1 [rS ([]:Ak),rS ([]:Ak),rS ([]:Ak),rv (.slice none 0 0),Am 0,rv (.slice none 0 0),Am 0,Am 0] 44,.map hb (A1 (mP hb) d.fEntities),.map ha (A1 (mP ha) d.fCalls),.pool ha hg 44 (Au Af d_p2),.blk (β 13) (A0 hd.2.1) 31]) [65,66,67,68,69,70,71,72,73,64,74,75,76,12,11,0,2,6,8,10] ?_;generalize β 13=hm;refine wa Aa (A4 (A2 (Ap (wm Aa (wv (Ey Aa Aa) (A4 (cz hB Aa (λhC hD=>?_) (λhC hE=>?_))))))))
     ·refine Ap (wv (r:=Bc [rS ([]:Ak),rS ([]:Ak),rS ([]:Ak),rv (.slice none 0 0),Am 0,rv (.slice none 0 0),Am 0,Am 0]) (Gt ) (AG (i:=4) DV Aa Aa Aa (Bh.c Aa) Aa Aa (cs':=[rS ([]:Ak),rS ([]:Ak),rS ([]:Ak),rv (.slice none 0 0),Am 0,rv (.slice none 0 0),Am 0,Am 0]) Aa (H':=[.blk he [AL 4 (Au Ac ((Ae d_p1 (Aw d.fEntities e (-1))).fState)),rv hf,Am ((Ae d_p1 (Aw d.fEntities e (-1))).fDone)] 87,.row hf 88 1 (Au (eP ha) ((Ae d_p1 (Aw d.fEntities e (-1))).fCalls)),.poolw hb hk 87 88 1 (Au (Ad ha) d_p1) (some (CN (Aw d.fEntities e (-1)),(he,hf))),.blk hi [Am d.fNow,rv (.map (some hb)),rv (.map (some ha))] 68,.blk b1 [rS ([]:Ak),rS ([]:Ak),rS ([]:Ak),rv (.slice none 0 0),Am 0,rv (.slice none 0 0),Am 0,Am 0] 44,.map hb (A1 (mP hb) d.fEntities),.map ha (A1 (mP ha) d.fCalls),.pool ha hg 44 (Au Af d_p2),.blk hm (A0 hd.2.1) 31]) Aa (wa Aa (A4 (A8 (Al (WK.putsame (encw:=(Ad ha)) (xs:=d_p1) (i:=Aw d.fEntities e (-1)) (Hr:=[.blk hi [Am d.fNow,rv (.map (some hb)),rv (.map (some ha))] 68,.blk b1 [rS ([]:Ak),rS ([]:Ak),rS ([]:Ak),rv (.slice none 0 0),Am 0,rv (.slice none 0 0),Am 0,Am 0] 44,.map hb (A1 (mP hb) d.fEntities),.map ha (A1 (mP ha) d.fCalls),.pool ha hg 44 (Au Af d_p2),.blk hm (A0 hd.2.1) 31]) (UY _) hq [8,65,66,67] ⟨Aa,Aa,Aa,Aa,trivial⟩ Aa Aa (WK.upBlk (i:=2) (cs':=[rS ([]:Ak),rS ([]:Ak),rS ([]:Ak),AL 1 (Au An ([]:List (List Ab))),Am 0,AL 4 (Au Ac ([]:List Ab)),Am 0,Am 0]) Aa ⟨Up.refl _,Up.refl _,Up.refl _,Up.le (GB.nil _),Up.refl _,Up.le (GB.nil _),Up.refl _,Up.refl _,trivial⟩ (C2 (H2:=[.blk hi [Am d.fNow,rv (.map (some hb)),rv (.map (some ha))] 68,.map hb (A1 (mP hb) d.fEntities),.map ha (A1 (mP ha) d.fCalls),.poolw hb hk 87 88 1 (Au (Ad ha) d_p1) none,.pool ha hg 44 (Au Af d_p2),.blk b1 [rS ([]:Ak),rS ([]:Ak),rS ([]:Ak),AL 1 (Au An ([]:List (List Ab))),Am 0,AL 4 (Au Ac ([]:List Ab)),Am 0,Am 0] 44,.blk hm (A0 hd.2.1) 31]) ((Aj (i:=1) Aa).trans (US _ ((Aj (i:=2) Aa).trans (US _ ((Aj (i:=2) Aa).trans (US _ ((Aj (i:=0) Aa).trans (US _ ((Aj (i:=1) Aa).trans (US _ (UY _))))))))))) ?_)))))))));obtain rfl:=A9 hD;exact A7 (JM QL (BX (i:=5) JB DV Aa Aa Aa) (AV Aa)) (sC (sC (sC (sC (sC (sS (sS sN))))))) ⟨hk,hg,Aa,Aa⟩
     ·refine AD (Be (Ap (wm Aa (wm Aa (wv (AU Aa) (vF Ig Aa DW (BO (i:=0) DW Aa Aa (BZ Aa) Aa Aa (cs':=[AL 4 (Au Ac hd.1),rv hf,Am ((Ae d_p1 (Aw d.fEntities e (-1))).fDone)]) Aa (H':=[.blk he [AL 4 (Au Ac hd.1),rv hf,Am ((Ae d_p1 (Aw d.fEntities e (-1))).fDone)] 87,.row hf 88 1 (Au (eP ha) ((Ae d_p1 (Aw d.fEntities e (-1))).fCalls)),.poolw hb hk 87 88 1 (Au (Ad ha) d_p1) (some (CN (Aw d.fEntities e (-1)),(he,hf))),.blk hi [Am d.fNow,rv (.map (some hb)),rv (.map (some ha))] 68,.blk b1 [rS ([]:Ak),rS ([]:Ak),rS ([]:Ak),rv (.slice none 0 0),Am 0,rv (.slice none 0 0),Am 0,Am 0] 44,.map hb (A1 (mP hb) d.fEntities),.map ha (A1 (mP ha) d.fCalls),.pool ha hg 44 (Au Af d_p2),.blk hm (A0 hd.2.1) 31]) Aa (BF (wm Aa (wv (AU Aa) (vF Ig Aa C7 (vL 0 Ei Aa (ck hE λhG hH=>wv (Cz Aa Aa hG) (wv (AU Aa) (vF Ig Aa C7 (BO (i:=0) C7 Aa Aa (BZ Aa) Aa Aa (cs':=[AL 4 (Au Ac hd.1),rv hf,Am (((Ae d_p1 (Aw d.fEntities e (-1))).fDone)+1)]) Aa (H':=[.blk he [AL 4 (Au Ac hd.1),rv hf,Am (((Ae d_p1 (Aw d.fEntities e (-1))).fDone)+1)] 87,.row hf 88 1 (Au (eP ha) ((Ae d_p1 (Aw d.fEntities e (-1))).fCalls)),.poolw hb hk 87 88 1 (Au (Ad ha) d_p1) (some (CN (Aw d.fEntities e (-1)),(he,hf))),.blk hi [Am d.fNow,rv (.map (some hb)),rv (.map (some ha))] 68,.blk b1 [rS ([]:Ak),rS ([]:Ak),rS ([]:Ak),rv (.slice none 0 0),Am 0,rv (.slice none 0 0),Am 0,Am 0] 44,.map hb (A1 (mP hb) d.fEntities),.map ha (A1 (mP ha) d.fCalls),.pool ha hg 44 (Au Af d_p2),.blk hm (A0 hd.2.1) 31]) Aa (BF (wm Aa (wm Aa (wv (AU Aa) (vF Gg Aa C7 (BO (i:=3) C7 Aa Aa (BZ Aa) Aa Aa (cs':=[Am now,rv (.map (some hb)),rv (.map (some ha))]) Aa (H':=[.blk he [AL 4 (Au Ac hd.1),rv hf,Am (((Ae d_p1 (Aw d.fEntities e (-1))).fDone)+1)] 87,.row hf 88 1 (Au (eP ha) ((Ae d_p1 (Aw d.fEntities e (-1))).fCalls)),.poolw hb hk 87 88 1 (Au (Ad ha) d_p1) (some (CN (Aw d.fEntities e (-1)),(he,hf))),.blk hi [Am now,rv (.map (some hb)),rv (.map (some ha))] 68,.blk b1 [rS ([]:Ak),rS ([]:Ak),rS ([]:Ak),rv (.slice none 0 0),Am 0,rv (.slice none 0 0),Am 0,Am 0] 44,.map hb (A1 (mP hb) d.fEntities),.map ha (A1 (mP ha) d.fCalls),.pool ha hg 44 (Au Af d_p2),.blk hm (A0 hd.2.1) 31]) Aa ?_))))))))))))))))))))));refine BF (wm Aa (wm Aa (wv (Bf (i:=8) Dx BA Aa Aa Aa Aa) (wm Aa (wv (r:=DX ha (Ae ((Ae d_p1 (Aw d.fEntities e (-1))).fCalls) ((Ae d_p1 (Aw d.fEntities e (-1))).fDone)) 0) (Ck Aa hp) (wv (r:=DX ha (Ae ((Ae d_p1 (Aw d.fEntities e (-1))).fCalls) ((Ae d_p1 (Aw d.fEntities e (-1))).fDone)) 4) (Kn E6 Aa BA Aa hp Aa) (NS (enc:=Af) (xs:=d_p2) (y':=(Ai.mk ((Ae d_p2 (Ae ((Ae d_p1 (Aw d.fEntities e (-1))).fCalls) ((Ae d_p1 (Aw d.fEntities e (-1))).fDone))).fOp) hd.2.1 ((Ae d_p2 (Ae ((Ae d_p1 (Aw d.fEntities e (-1))).fCalls) ((Ae d_p1 (Aw d.fEntities e (-1))).fDone))).fFrom) ((Ae d_p2 (Ae ((Ae d_p1 (Aw d.fEntities e (-1))).fCalls) ((Ae d_p1 (Aw d.fEntities e (-1))).fDone))).fTo))) (j:=7) BA Aa Aa Aa (Bh.c Aa) Aa hs Aa Aa (H':=[.blk he [AL 4 (Au Ac hd.1),rv hf,Am (((Ae d_p1 (Aw d.fEntities e (-1))).fDone)+1)] 87,.row hf 88 1 (Au (eP ha) ((Ae d_p1 (Aw d.fEntities e (-1))).fCalls)),.poolw hb hk 87 88 1 (Au (Ad ha) d_p1) (some (CN (Aw d.fEntities e (-1)),(he,hf))),.blk hi [Am now,rv (.map (some hb)),rv (.map (some ha))] 68,.blk b1 [rS ([]:Ak),rS ([]:Ak),rS ([]:Ak),rv (.slice none 0 0),Am 0,rv (.slice none 0 0),Am 0,Am 0] 44,.map hb (A1 (mP hb) d.fEntities),.map ha (A1 (mP ha) d.fCalls),.pool ha hg 44 (Au Af (List.set d_p2 (CN (Ae ((Ae d_p1 (Aw d.fEntities e (-1))).fCalls) ((Ae d_p1 (Aw d.fEntities e (-1))).fDone))) (Ai.mk ((Ae d_p2 (Ae ((Ae d_p1 (Aw d.fEntities e (-1))).fCalls) ((Ae d_p1 (Aw d.fEntities e (-1))).fDone))).fOp) hd.2.1 ((Ae d_p2 (Ae ((Ae d_p1 (Aw d.fEntities e (-1))).fCalls) ((Ae d_p1 (Aw d.fEntities e (-1))).fDone))).fFrom) ((Ae d_p2 (Ae ((Ae d_p1 (Aw d.fEntities e (-1))).fCalls) ((Ae d_p1 (Aw d.fEntities e (-1))).fDone))).fTo)))),.blk hm (A0 hd.2.1) 31]) Aa (bd hH λho hI hJ=>?_))))))));rw[← hI];refine wv (r:=DX ha (Ae ((Ae d_p1 (Aw d.fEntities e (-1))).fCalls) ((Ae d_p1 (Aw d.fEntities e (-1))).fDone)) 0) (Ck Aa hp) (wv (r:=DX ha (Ae ((Ae d_p1 (Aw d.fEntities e (-1))).fCalls) ((Ae d_p1 (Aw d.fEntities e (-1))).fDone)) 7) (Kn E6 Aa C7 Aa hp Aa) (ck hJ λhK hL=>PI (enc:=Af) (xs:=ho) (y':=(Ai.mk ((Ae ho (Ae ((Ae d_p1 (Aw d.fEntities e (-1))).fCalls) ((Ae d_p1 (Aw d.fEntities e (-1))).fDone))).fOp) ((Ae ho (Ae ((Ae d_p1 (Aw d.fEntities e (-1))).fCalls) ((Ae d_p1 (Aw d.fEntities e (-1))).fDone))).fAnswer) ((Ae ho (Ae ((Ae d_p1 (Aw d.fEntities e (-1))).fCalls) ((Ae d_p1 (Aw d.fEntities e (-1))).fDone))).fFrom) now)) (j:=7) C7 Aa Aa (BZ Aa) Aa hK Aa Aa (H':=[.blk he [AL 4 (Au Ac hd.1),rv hf,Am (((Ae d_p1 (Aw d.fEntities e (-1))).fDone)+1)] 87,.row hf 88 1 (Au (eP ha) ((Ae d_p1 (Aw d.fEntities e (-1))).fCalls)),.poolw hb hk 87 88 1 (Au (Ad ha) d_p1) (some (CN (Aw d.fEntities e (-1)),(he,hf))),.blk hi [Am now,rv (.map (some hb)),rv (.map (some ha))] 68,.blk b1 [rS ([]:Ak),rS ([]:Ak),rS ([]:Ak),rv (.slice none 0 0),Am 0,rv (.slice none 0 0),Am 0,Am 0] 44,.map hb (A1 (mP hb) d.fEntities),.map ha (A1 (mP ha) d.fCalls),.pool ha hg 44 (Au Af (List.set ho (CN (Ae ((Ae d_p1 (Aw d.fEntities e (-1))).fCalls) ((Ae d_p1 (Aw d.fEntities e (-1))).fDone))) (Ai.mk ((Ae ho (Ae ((Ae d_p1 (Aw d.fEntities e (-1))).fCalls) ((Ae d_p1 (Aw d.fEntities e (-1))).fDone))).fOp) ((Ae ho (Ae ((Ae d_p1 (Aw d.fEntities e (-1))).fCalls) ((Ae d_p1 (Aw d.fEntities e (-1))).fDone))).fAnswer) ((Ae ho (Ae ((Ae d_p1 (Aw d.fEntities e (-1))).fCalls) ((Ae d_p1 (Aw d.fEntities e (-1))).fDone))).fFrom) now))),.blk hm (A0 hd.2.1) 31]) Aa (bd hL λhl hN hO=>?_)));rw[← hN];refine BF (wm Aa (wv (r:=DX ha (Ae ((Ae d_p1 (Aw d.fEntities e (-1))).fCalls) ((Ae d_p1 (Aw d.fEntities e (-1))).fDone)) 0) (Ck Aa hp) (ck hO λhP hQ=>wv (r:=Bc [rS (((Ae hl (Ae ((Ae d_p1 (Aw d.fEntities e (-1))).fCalls) ((Ae d_p1 (Aw d.fEntities e (-1))).fDone))).fOp).fEntity),rS (((Ae hl (Ae ((Ae d_p1 (Aw d.fEntities e (-1))).fCalls) ((Ae d_p1 (Aw d.fEntities e (-1))).fDone))).fOp).fID),rS (((Ae hl (Ae ((Ae d_p1 (Aw d.fEntities e (-1))).fCalls) ((Ae d_p1 (Aw d.fEntities e (-1))).fDone))).fOp).fOp),AL 1 (Au An (((Ae hl (Ae ((Ae d_p1 (Aw d.fEntities e (-1))).fCalls) ((Ae d_p1 (Aw d.fEntities e (-1))).fDone))).fOp).fArgs)),Am (((Ae hl (Ae ((Ae d_p1 (Aw d.fEntities e (-1))).fCalls) ((Ae d_p1 (Aw d.fEntities e (-1))).fDone))).fAnswer).fErr),AL 4 (Au Ac (((Ae hl (Ae ((Ae d_p1 (Aw d.fEntities e (-1))).fCalls) ((Ae d_p1 (Aw d.fEntities e (-1))).fDone))).fAnswer).fValue)),Am ((Ae hl (Ae ((Ae d_p1 (Aw d.fEntities e (-1))).fCalls) ((Ae d_p1 (Aw d.fEntities e (-1))).fDone))).fFrom),Am ((Ae hl (Ae ((Ae d_p1 (Aw d.fEntities e (-1))).fCalls) ((Ae d_p1 (Aw d.fEntities e (-1))).fDone))).fTo)]) (Ga (enc:=Af) (xs:=hl) (j:=7) JB DV Aa Aa hP Aa Aa) (ob hQ λhn hR hS=>DI Tryz.call45 (Jf F (Ai.mk ((Ae hl (Ae ((Ae d_p1 (Aw d.fEntities e (-1))).fCalls) ((Ae d_p1 (Aw d.fEntities e (-1))).fDone))).fOp) ((Ae hl (Ae ((Ae d_p1 (Aw d.fEntities e (-1))).fCalls) ((Ae d_p1 (Aw d.fEntities e (-1))).fDone))).fAnswer) ((Ae hl (Ae ((Ae d_p1 (Aw d.fEntities e (-1))).fCalls) ((Ae d_p1 (Aw d.fEntities e (-1))).fDone))).fFrom) ((Ae hl (Ae ((Ae d_p1 (Aw d.fEntities e (-1))).fCalls) ((Ae d_p1 (Aw d.fEntities e (-1))).fDone))).fTo)) hn hR) Aa (AG (i:=4) DV Aa Aa Aa (Bh.c Aa) Aa Aa (cs':=[rS hn.fOp.fEntity,rS hn.fOp.fID,rS hn.fOp.fOp,AL 1 (Au An hn.fOp.fArgs),Am hn.fAnswer.fErr,AL 4 (Au Ac hn.fAnswer.fValue),Am hn.fFrom,Am hn.fTo]) Aa (H':=[.blk he [AL 4 (Au Ac hd.1),rv hf,Am (((Ae d_p1 (Aw d.fEntities e (-1))).fDone)+1)] 87,.row hf 88 1 (Au (eP ha) ((Ae d_p1 (Aw d.fEntities e (-1))).fCalls)),.poolw hb hk 87 88 1 (Au (Ad ha) d_p1) (some (CN (Aw d.fEntities e (-1)),(he,hf))),.blk hi [Am now,rv (.map (some hb)),rv (.map (some ha))] 68,.blk b1 (Af hn) 44,.map hb (A1 (mP hb) d.fEntities),.map ha (A1 (mP ha) d.fCalls),.pool ha hg 44 (Au Af hl),.blk hm (A0 hd.2.1) 31]) Aa (wa Aa (A4 (A8 (WK.putback (y:=(Ah.mk hd.1 ((Ae d_p1 (Aw d.fEntities e (-1))).fCalls) (((Ae d_p1 (Aw d.fEntities e (-1))).fDone)+1))) (encw:=(Ad ha)) (xs:=d_p1) (i:=Aw d.fEntities e (-1)) (Hr:=[.blk hi [Am now,rv (.map (some hb)),rv (.map (some ha))] 68,.blk b1 (Af hn) 44,.map hb (A1 (mP hb) d.fEntities),.map ha (A1 (mP ha) d.fCalls),.pool ha hg 44 (Au Af hl),.blk hm (A0 hd.2.1) 31]) (UY _) hq [8,65,66,67,80,82,83,84,85,89] ⟨Aa,Aa,Aa,Aa,Aa,Aa,Aa,Aa,Aa,Aa,trivial⟩ Aa Aa (λht=>?_))))))))));refine C2 (H2:=[.blk hi [Am now,rv (.map (some hb)),rv (.map (some ha))] 68,.map hb (A1 (mP hb) d.fEntities),.map ha (A1 (mP ha) d.fCalls),.poolw hb ht 87 88 1 (Au (Ad ha) (List.set d_p1 (CN (Aw d.fEntities e (-1))) (Ah.mk hd.1 ((Ae d_p1 (Aw d.fEntities e (-1))).fCalls) (((Ae d_p1 (Aw d.fEntities e (-1))).fDone)+1)))) none,.pool ha hg 44 (Au Af hl),.blk b1 (Af hn) 44,.blk hm (A0 hd.2.1) 31]) ((Aj (i:=1) Aa).trans (US _ ((Aj (i:=2) Aa).trans (US _ ((Aj (i:=2) Aa).trans (US _ ((Aj (i:=0) Aa).trans (US _ ((Aj (i:=1) Aa).trans (US _ (UY _))))))))))) ?_;obtain rfl:=A9 hS;exact A7 (JM QL (BX (i:=5) JB DV Aa Aa Aa) (AV Aa)) (sC (sC (sC (sC (sC (sS (sS sN))))))) ⟨ht,hg,Aa,Aa⟩
   ·refine Et [0,2,6,8,9] [⟨[],rB (Bq d.fEntities e),0⟩,⟨[0],rB (!(Bq d.fEntities e)),0⟩,⟨[1],rB (!(Bq d.fEntities e)),0⟩,⟨[2],rv undef,0⟩,⟨[3,2],rv undef,0⟩,⟨[4,2],rv undef,0⟩,⟨[5,2],rv undef,0⟩,⟨[2],rv undef,0⟩,⟨[7,2],rv undef,0⟩,⟨[8,2],rv undef,0⟩,⟨[9,2],rv undef,0⟩,⟨[10,2],rv undef,0⟩,⟨[6,11,2],rv undef,0⟩,⟨[2,12],rB true,0⟩] [52,0,2,6,8] ?_ ?_
    ·refine oq (Ay Aa) (oq (Cd Aa) (oq (Ay Aa) (CU Aa (λH=>Ex (b:=!(Bq d.fEntities e)) Aa Aa (GO hj)) ?_)));refine CU Aa (λH=>Ex (b:=!(Bq d.fEntities e)) Aa Aa (GO hj)) ?_;refine CU Aa (λH=>Ex (b:=!(Bq d.fEntities e)) Aa Aa (GO hj)) ?_;refine CU Aa (λH=>Ex (b:=!(Bq d.fEntities e)) Aa Aa (GO hj)) ?_;refine CU Aa (λH=>Ex (b:=!(Bq d.fEntities e)) Aa Aa (GO hj)) ?_;refine CU Aa (λH=>Ex (b:=!(Bq d.fEntities e)) Aa Aa (GO hj)) ?_;refine CU Aa (λH=>Ex (b:=!(Bq d.fEntities e)) Aa Aa (GO hj)) ?_;refine CU Aa (λH=>Ex (b:=!(Bq d.fEntities e)) Aa Aa (GO hj)) ?_;refine CU Aa (λH=>Ex (b:=!(Bq d.fEntities e)) Aa Aa (GO hj)) ?_;refine CU Aa (λH=>Ex (b:=!(Bq d.fEntities e)) Aa Aa (GO hj)) ?_;refine oq (A6 (b:=!(Bq d.fEntities e)) Aa (GO hj) Aa) ?_;exact Dk
    refine Be (ES Aa Aa (Ap (wv (r:=Bc [rS ([]:Ak),rS ([]:Ak),rS ([]:Ak),rv (.slice none 0 0),Am 0,rv (.slice none 0 0),Am 0,Am 0]) (Gt ) (AG (i:=1) DV Aa Aa Aa (Bh.c Aa) Aa Aa (cs':=[rS ([]:Ak),rS ([]:Ak),rS ([]:Ak),rv (.slice none 0 0),Am 0,rv (.slice none 0 0),Am 0,Am 0]) Aa (H':=[.blk hi [Am d.fNow,rv (.map (some hb)),rv (.map (some ha))] 68,.blk b1 [rS ([]:Ak),rS ([]:Ak),rS ([]:Ak),rv (.slice none 0 0),Am 0,rv (.slice none 0 0),Am 0,Am 0] 44,.map hb (A1 (mP hb) d.fEntities),.map ha (A1 (mP ha) d.fCalls),.poolw hb hk 87 88 1 (Au (Ad ha) d_p1) none,.pool ha hg 44 (Au Af d_p2)]) Aa (wa Aa (A4 (A8 (Al (WK.upBlk (i:=1) (cs':=[rS ([]:Ak),rS ([]:Ak),rS ([]:Ak),AL 1 (Au An ([]:List (List Ab))),Am 0,AL 4 (Au Ac ([]:List Ab)),Am 0,Am 0]) Aa ⟨Up.refl _,Up.refl _,Up.refl _,Up.le (GB.nil _),Up.refl _,Up.le (GB.nil _),Up.refl _,Up.refl _,trivial⟩ ?_)))))))));obtain rfl:=A9 hz;exact A7 (JM QL (BX (i:=1) JB DV Aa Aa Aa) (AV Aa)) (sC (sS (sC (sC (sC (sC sN)))))) ⟨hk,hg,Aa,Aa⟩
theorem Nn (hd:Nat)(hb:Nat)(ha:Nat)(hf:Value)(he:Value)(d:Aq)(d_p1:(List Ah))(d_p2:(List Ai))(e:Ak)(r:(List Ab))(h:HU d d_p1 d_p2 e=some r):Fn Tryz.prog GE 19 [rP hd 0,rS e] [.blk hd [Am d.fNow,rv (.map (some hb)),rv (.map (some ha))] 68,.map hb (A1 (mP hb) d.fEntities),.map ha (A1 (mP ha) d.fCalls),.poolw hb hf 87 88 1 (Au (Ad ha) d_p1) none,.pool ha he 44 (Au Af d_p2)] (λR H=>R=AL 4 (Au Ac r)∧H=[.blk hd [Am d.fNow,rv (.map (some hb)),rv (.map (some ha))] 68,.map hb (A1 (mP hb) d.fEntities),.map ha (A1 (mP ha) d.fCalls),.poolw hb hf 87 88 1 (Au (Ad ha) d_p1) none,.pool ha he 44 (Au Af d_p2)]):=by
 refine enter (n:=25) Tryz.func19 Aa Tryz.ntmps19 Aa (λw Z=>?_);unfold HU at h;refine Ap (wa Aa (A4 (A2 (Ap (wm Aa (JY (Hr:=[.map hb (A1 (mP hb) d.fEntities),.map ha (A1 (mP ha) d.fCalls),.poolw hb hf 87 88 1 (Au (Ad ha) d_p1) none,.pool ha he 44 (Au Af d_p2)]) PE (Hq hd hb ha d true Aa) Aa (UY _) Aa ?_))))));rintro _ _ ⟨rfl,rfl⟩;refine A4 (ES Aa Aa (Ap (wm Aa (wv (AU Aa) (vF Gg Aa MC (vL 0 MF Aa (wm Aa (wv (r:=CP [DX hb (Aw d.fEntities e (-1)) 0,rB (Bq d.fEntities e)]) (Gr (enc:=(mP hb)) (xs:=d.fEntities) (z:=(-1)) (i:=1) NP G1 So (Qp hb) Aa Aa Aa) (wm Aa (wv (AN Aa Aa) (wv (AN Aa Aa) (wa Aa (wa Aa (BF (wm Aa (A4 (cz h Aa (λc1 h2=>?_) (λc1 hg=>?_))))))))))))))))))
 ·refine Ap (wm Aa (ck h2 λg3 h4=>WL.takeout (encw:=(Ad ha)) (xs:=d_p1) (i:=Aw d.fEntities e (-1)) (Hr:=[.blk hd [Am d.fNow,rv (.map (some hb)),rv (.map (some ha))] 68,.map hb (A1 (mP hb) d.fEntities),.map ha (A1 (mP ha) d.fCalls),.pool ha he 44 (Au Af d_p2)]) ((Aj (i:=3) Aa).trans (US _ (UY _))) g3 [5,16,19] ⟨Aa,Aa,Aa,trivial⟩ (λb5 v6=>?_)));refine LL (H':=[.blk b5 [AL 4 (Au Ac ((Ae d_p1 (Aw d.fEntities e (-1))).fState)),rv v6,Am ((Ae d_p1 (Aw d.fEntities e (-1))).fDone)] 87,.row v6 88 1 (Au (eP ha) ((Ae d_p1 (Aw d.fEntities e (-1))).fCalls)),.poolw hb hf 87 88 1 (Au (Ad ha) d_p1) (some (CN (Aw d.fEntities e (-1)),(b5,v6))),.blk hd [Am d.fNow,rv (.map (some hb)),rv (.map (some ha))] 68,.map hb (A1 (mP hb) d.fEntities),.map ha (A1 (mP ha) d.fCalls),.pool ha he 44 (Au Af d_p2)]) Aa (wv (AU Aa) (vF Ig Aa DW (vL 0 Gh Aa (ob h4 λr7 e9 h8=>DI J9 (C0 ((Ae d_p1 (Aw d.fEntities e (-1))).fState) r7 e9) Aa (wa Aa (A4 (A8 (Al (WK.putsame (encw:=(Ad ha)) (xs:=d_p1) (i:=Aw d.fEntities e (-1)) (Hr:=[.blk hd [Am d.fNow,rv (.map (some hb)),rv (.map (some ha))] 68,.map hb (A1 (mP hb) d.fEntities),.map ha (A1 (mP ha) d.fCalls),.pool ha he 44 (Au Af d_p2)]) (UY _) g3 [5,16,19,20,21] ⟨Aa,Aa,Aa,Aa,Aa,trivial⟩ Aa Aa (C2 (H2:=[.blk hd [Am d.fNow,rv (.map (some hb)),rv (.map (some ha))] 68,.map hb (A1 (mP hb) d.fEntities),.map ha (A1 (mP ha) d.fCalls),.poolw hb hf 87 88 1 (Au (Ad ha) d_p1) none,.pool ha he 44 (Au Af d_p2)]) ((Aj (i:=1) Aa).trans (US _ ((Aj (i:=1) Aa).trans (US _ ((Aj (i:=1) Aa).trans (US _ (UY _))))))) ?_))))))))));obtain rfl:=A9 h8;exact A7 (Ci Tryz.results19 (AV Aa)) (sC (sC (sC (sC (sC sN))))) ⟨Aa,Aa⟩
 ·refine AD (Be (Ap (ob hg λhh hi hj=>DI Tryz.call47 (LO hh hi) Aa (wa Aa (A4 (A8 ?_))))));obtain rfl:=A9 hj;exact A7 (Ci Tryz.results19 (AV Aa)) (sC (sC (sC (sC (sC sN))))) ⟨Aa,Aa⟩
theorem Nr (F:Nat)(he:Nat)(hb:Nat)(ha:Nat)(hh:Value)(hg:Value)(d:Aq)(d_p1:(List Ah))(d_p2:(List Ai))(e:Ak)(r:(List Ai))(h:HW F d d_p1 d_p2 e=some r):Fn Tryz.prog GE 21 [rP he 0,rS e] [.blk he [Am d.fNow,rv (.map (some hb)),rv (.map (some ha))] 68,.map hb (A1 (mP hb) d.fEntities),.map ha (A1 (mP ha) d.fCalls),.poolw hb hh 87 88 1 (Au (Ad ha) d_p1) none,.pool ha hg 44 (Au Af d_p2)] (λR H=>R=AL 8 (Au Af r)∧H=[.blk he [Am d.fNow,rv (.map (some hb)),rv (.map (some ha))] 68,.map hb (A1 (mP hb) d.fEntities),.map ha (A1 (mP ha) d.fCalls),.poolw hb hh 87 88 1 (Au (Ad ha) d_p1) none,.pool ha hg 44 (Au Af d_p2)]):=by
 refine enter (n:=42) Tryz.func21 Aa Tryz.ntmps21 Aa (λw Z=>?_);unfold HW at h;refine Ap (wa Aa (A4 (A2 (Ap (wm Aa (JY (Hr:=[.map hb (A1 (mP hb) d.fEntities),.map ha (A1 (mP ha) d.fCalls),.poolw hb hh 87 88 1 (Au (Ad ha) d_p1) none,.pool ha hg 44 (Au Af d_p2)]) PE (Hq he hb ha d true Aa) Aa (UY _) Aa ?_))))));rintro _ _ ⟨rfl,rfl⟩;refine wv (Cd Aa) (A4 (DA Aa (CV Aa) (AD (Be (Ap (wm Aa (wv (AU Aa) (vF Gg Aa MC (vL 0 MF Aa (wm Aa (wv (r:=CP [DX hb (Aw d.fEntities e (-1)) 0,rB (Bq d.fEntities e)]) (Gr (enc:=(mP hb)) (xs:=d.fEntities) (z:=(-1)) (i:=1) NP G1 So (Qp hb) Aa Aa Aa) (wm Aa (wv (AN Aa Aa) (wv (AN Aa Aa) (wa Aa (wa Aa (A4 (A2 (Ap (wm Aa (wv (Cd Aa) (A4 (cz h Aa (λc1 h2=>?_) (λc1 h3=>?_))))))))))))))))))))))))
 ·refine Ap (wa Aa (A4 (A8 (Al (WK.up (d:=4) (r:=AL 8 (Au Af ([]:List Ai))) Aa (Up.le (GB.nil _)) ?_)))));obtain rfl:=A9 h2;exact A7 (Ci Tryz.results21 (AV Aa)) (sC (sC (sC (sC (sC sN))))) ⟨Aa,Aa⟩
 ·refine AD (Be (Ap (wa Aa (A4 (A2 (Ap (wm Aa (ck h3 λg4 h5=>WL.takeout (encw:=(Ad ha)) (xs:=d_p1) (i:=Aw d.fEntities e (-1)) (Hr:=[.blk he [Am d.fNow,rv (.map (some hb)),rv (.map (some ha))] 68,.map hb (A1 (mP hb) d.fEntities),.map ha (A1 (mP ha) d.fCalls),.pool ha hg 44 (Au Af d_p2)]) ((Aj (i:=3) Aa).trans (US _ (UY _))) g4 [5,20,24] ⟨Aa,Aa,Aa,trivial⟩ (λb6 v7=>?_)))))))));refine LL (H':=[.blk b6 [AL 4 (Au Ac ((Ae d_p1 (Aw d.fEntities e (-1))).fState)),rv v7,Am ((Ae d_p1 (Aw d.fEntities e (-1))).fDone)] 87,.row v7 88 1 (Au (eP ha) ((Ae d_p1 (Aw d.fEntities e (-1))).fCalls)),.poolw hb hh 87 88 1 (Au (Ad ha) d_p1) (some (CN (Aw d.fEntities e (-1)),(b6,v7))),.blk he [Am d.fNow,rv (.map (some hb)),rv (.map (some ha))] 68,.map hb (A1 (mP hb) d.fEntities),.map ha (A1 (mP ha) d.fCalls),.pool ha hg 44 (Au Af d_p2)]) Aa (wv (AU Aa) (vF Ig Aa LJ (vL 0 QM Aa (wv (DO (ys:=(Ae d_p1 (Aw d.fEntities e (-1))).fCalls) (enc:=(eP ha)) (i:=1) M8 Aa Aa) (wv (r:=Am 0) (Ay Aa) (A4 (AX (WC.nilrow (e:=44) (sz:=8) (JI (H2:=[.blk b6 [AL 4 (Au Ac ((Ae d_p1 (Aw d.fEntities e (-1))).fState)),rv v7,Am ((Ae d_p1 (Aw d.fEntities e (-1))).fDone)] 87,.row v7 88 1 (Au (eP ha) ((Ae d_p1 (Aw d.fEntities e (-1))).fCalls)),.poolw hb hh 87 88 1 (Au (Ad ha) d_p1) (some (CN (Aw d.fEntities e (-1)),(b6,v7))),.blk he [Am d.fNow,rv (.map (some hb)),rv (.map (some ha))] 68,.map hb (A1 (mP hb) d.fEntities),.map ha (A1 (mP ha) d.fCalls),.pool ha hg 44 (Au Af d_p2),.row (.slice none 0 0                                            ) 44 8 (Au Af ([]:List Ai))]) ((Aj (i:=1) Aa).trans (US _ ((Aj (i:=1) Aa).trans (US _ ((Aj (i:=1) Aa).trans (US _ ((Aj (i:=1) Aa).trans (US _ ((Aj (i:=1) Aa).trans (US _ ((Aj (i:=1) Aa).trans (US _ ((Aj (i:=1) Aa).trans (US _ (UY _))))))))))))))) (ob h5 λhq hr hs=>BP (S:=Nat×((List Ai)×Int)×(Value)) (V:=((List Ai))×(Value)) 0 (λσ=>BD (λσ=>Dq F d d_p1 d_p2 e σ.1 σ.2) σ.1 σ.2.1=some hq) (λσ=>[(7,rv σ.2.2),(27,rv v7),(28,Am (((Ae d_p1 (Aw d.fEntities e (-1))).fCalls).length:Int)),(29,Am σ.2.1.2)]) (λσ=>[.blk b6 [AL 4 (Au Ac ((Ae d_p1 (Aw d.fEntities e (-1))).fState)),rv v7,Am ((Ae d_p1 (Aw d.fEntities e (-1))).fDone)] 87,.row v7 88 1 (Au (eP ha) ((Ae d_p1 (Aw d.fEntities e (-1))).fCalls)),.poolw hb hh 87 88 1 (Au (Ad ha) d_p1) (some (CN (Aw d.fEntities e (-1)),(b6,v7))),.blk he [Am d.fNow,rv (.map (some hb)),rv (.map (some ha))] 68,.map hb (A1 (mP hb) d.fEntities),.map ha (A1 (mP ha) d.fCalls),.pool ha hg 44 (Au Af d_p2),.row σ.2.2 44 8 (Au Af σ.2.1.1)]) (λσ=>σ.1) (F,(([]:List Ai),0),(.slice none 0 0                                            )) hr (AZ.c Aa (AZ.c Aa (AZ.c Aa (AZ.c Aa AZ.nil)))) (sC (sC (sC (sC (sC (sC (sC (sC sN)))))))) (λσ=>Hv σ.1=some r) (λσ=>[(7,rv σ.2)]) (λσ=>[.blk b6 [AL 4 (Au Ac ((Ae d_p1 (Aw d.fEntities e (-1))).fState)),rv v7,Am ((Ae d_p1 (Aw d.fEntities e (-1))).fDone)] 87,.row v7 88 1 (Au (eP ha) ((Ae d_p1 (Aw d.fEntities e (-1))).fCalls)),.poolw hb hh 87 88 1 (Au (Ad ha) d_p1) (some (CN (Aw d.fEntities e (-1)),(b6,v7))),.blk he [Am d.fNow,rv (.map (some hb)),rv (.map (some ha))] 68,.map hb (A1 (mP hb) d.fEntities),.map ha (A1 (mP ha) d.fCalls),.pool ha hg 44 (Au Af d_p2),.row σ.2 44 8 (Au Af σ.1)]) ?_ ?_))))))))))
  ·rintro⟨hI,⟨hi,hd⟩,v46⟩ ht;refine C4 (l':=[(7,rv v46),(27,rv v7),(28,Am (((Ae d_p1 (Aw d.fEntities e (-1))).fCalls).length:Int)),(29,Am hd)]) (H':=[.blk b6 [AL 4 (Au Ac ((Ae d_p1 (Aw d.fEntities e (-1))).fState)),rv v7,Am ((Ae d_p1 (Aw d.fEntities e (-1))).fDone)] 87,.row v7 88 1 (Au (eP ha) ((Ae d_p1 (Aw d.fEntities e (-1))).fCalls)),.poolw hb hh 87 88 1 (Au (Ad ha) d_p1) (some (CN (Aw d.fEntities e (-1)),(b6,v7))),.blk he [Am d.fNow,rv (.map (some hb)),rv (.map (some ha))] 68,.map hb (A1 (mP hb) d.fEntities),.map ha (A1 (mP ha) d.fCalls),.pool ha hg 44 (Au Af d_p2),.row v46 44 8 (Au Af hi)]) Aa Aa ?_;obtain⟨hu,rfl,hw,hk,hn⟩:=DR ht;replace hk:Dq F d d_p1 d_p2 e hi hd=some hw:=hk;unfold Dq at hk;refine Ap (wv (E8 Aa Aa) (A4 (A2 (cz hk Aa (λhx hy=>?_) (λhx hz=>?_)))))
   ·refine AD (Be (A2 (AX (Ap (ck hy λho h0=>wv (r:=rv (Ed 1 v7 (CN hd) 0)) (Jb (i:=1) M8 Sq Aa Aa Aa (Bz ho)) (wv (r:=DX ha (Ae ((Ae d_p1 (Aw d.fEntities e (-1))).fCalls) hd) 0) (EL (enc:=(eP ha)) (ys:=(Ae d_p1 (Aw d.fEntities e (-1))).fCalls) (i:=1) (j:=hd) Tryz.isAgg88 Aa Aa ho Aa) (wa Aa (A4 (AB (wm Aa (wm Aa (ck h0 λh1 h4=>wv (r:=DX ha (Ae ((Ae d_p1 (Aw d.fEntities e (-1))).fCalls) hd) 0) (Ck Aa h1) (ck h4 λh6 h7=>wv (r:=Bc [rS (((Ae d_p2 (Ae ((Ae d_p1 (Aw d.fEntities e (-1))).fCalls) hd)).fOp).fEntity),rS (((Ae d_p2 (Ae ((Ae d_p1 (Aw d.fEntities e (-1))).fCalls) hd)).fOp).fID),rS (((Ae d_p2 (Ae ((Ae d_p1 (Aw d.fEntities e (-1))).fCalls) hd)).fOp).fOp),AL 1 (Au An (((Ae d_p2 (Ae ((Ae d_p1 (Aw d.fEntities e (-1))).fCalls) hd)).fOp).fArgs)),Am (((Ae d_p2 (Ae ((Ae d_p1 (Aw d.fEntities e (-1))).fCalls) hd)).fAnswer).fErr),AL 4 (Au Ac (((Ae d_p2 (Ae ((Ae d_p1 (Aw d.fEntities e (-1))).fCalls) hd)).fAnswer).fValue)),Am ((Ae d_p2 (Ae ((Ae d_p1 (Aw d.fEntities e (-1))).fCalls) hd)).fFrom),Am ((Ae d_p2 (Ae ((Ae d_p1 (Aw d.fEntities e (-1))).fCalls) hd)).fTo)]) (Ga (enc:=Af) (xs:=d_p2) (j:=6) JB DV Aa Aa h6 Aa Aa) (ob h7 λhf h8 h9=>DI Tryz.call45 (Jf F (Ai.mk ((Ae d_p2 (Ae ((Ae d_p1 (Aw d.fEntities e (-1))).fCalls) hd)).fOp) ((Ae d_p2 (Ae ((Ae d_p1 (Aw d.fEntities e (-1))).fCalls) hd)).fAnswer) ((Ae d_p2 (Ae ((Ae d_p1 (Aw d.fEntities e (-1))).fCalls) hd)).fFrom) ((Ae d_p2 (Ae ((Ae d_p1 (Aw d.fEntities e (-1))).fCalls) hd)).fTo)) hf h8) Aa (Bm (ys:=([hf]:List Ai)) (enc:=Af) (css:=[[rS hf.fOp.fEntity,rS hf.fOp.fID,rS hf.fOp.fOp,AL 1 (Au An hf.fOp.fArgs),Am hf.fAnswer.fErr,AL 4 (Au Ac hf.fAnswer.fValue),Am hf.fFrom,Am hf.fTo]]) (xs:=[.tmp 37]) PA DV NO Aa Aa Aa ⟨JV.agg ⟨Up.refl _,Up.refl _,Up.refl _,Up.refl _,Up.refl _,Up.refl _,Up.refl _,Up.refl _,trivial⟩,trivial⟩ Aa HG Aa Aa Aa (λhA=>?_))))))))))))))));refine ck h9 λhB hC=>Exists.elim TJ λinf hinf=>DL (xs:=hi) (ys:=([hf]:List Ai)) (enc:=Af) (i:=8) PA hinf.1 hinf.2.1 hinf.2.2.1 hinf.2.2.2 Aa Aa Aa Aa Aa (P5.w (i:=0) Aa Aa) HG Ld hB Aa (λhp=>?_);refine wa Aa (A5 (Bi (Be (AB (ck hC λhD hE=>wv (Cz Aa Aa hD) (wm Aa (A5 (C2 (H2:=[.blk b6 [AL 4 (Au Ac ((Ae d_p1 (Aw d.fEntities e (-1))).fState)),rv v7,Am ((Ae d_p1 (Aw d.fEntities e (-1))).fDone)] 87,.row v7 88 1 (Au (eP ha) ((Ae d_p1 (Aw d.fEntities e (-1))).fCalls)),.poolw hb hh 87 88 1 (Au (Ad ha) d_p1) (some (CN (Aw d.fEntities e (-1)),(b6,v7))),.blk he [Am d.fNow,rv (.map (some hb)),rv (.map (some ha))] 68,.map hb (A1 (mP hb) d.fEntities),.map ha (A1 (mP ha) d.fCalls),.pool ha hg 44 (Au Af d_p2),.row hp 44 8 (Au Af (hi++([hf]:List Ai))),.row (.slice (some ⟨hA,0,none⟩) 1 1) 44 8 (Au Af ([hf]:List Ai))]) ((Aj (i:=2) Aa).trans (US _ ((Aj (i:=2) Aa).trans (US _ ((Aj (i:=2) Aa).trans (US _ ((Aj (i:=2) Aa).trans (US _ ((Aj (i:=2) Aa).trans (US _ ((Aj (i:=2) Aa).trans (US _ ((Aj (i:=2) Aa).trans (US _ (UY _))))))))))))))) ?_))))))));have hG:=BQ hE hn;exact AO (AY (hu,(hi++([hf]:List Ai),hd+1),hp) ⟨hG,Vn _⟩ (AZ.c Aa (AZ.c Aa (AZ.c Aa (AZ.c Aa AZ.nil)))) (sC (sC (sC (sC (sC (sC (sC (sC (sS sN))))))))))
   ·refine BL (AE ?_);have hH:=CB hz hn hs;exact AE (B1 (AY (hi,v46) hH (AZ.c Aa AZ.nil) (sC (sC (sC (sC (sC (sC (sC (sC sN))))))))))
  ·rintro⟨hj,hl⟩ hm;refine DK (l':=[(7,rv hl)]) (H':=[.blk b6 [AL 4 (Au Ac ((Ae d_p1 (Aw d.fEntities e (-1))).fState)),rv v7,Am ((Ae d_p1 (Aw d.fEntities e (-1))).fDone)] 87,.row v7 88 1 (Au (eP ha) ((Ae d_p1 (Aw d.fEntities e (-1))).fCalls)),.poolw hb hh 87 88 1 (Au (Ad ha) d_p1) (some (CN (Aw d.fEntities e (-1)),(b6,v7))),.blk he [Am d.fNow,rv (.map (some hb)),rv (.map (some ha))] 68,.map hb (A1 (mP hb) d.fEntities),.map ha (A1 (mP ha) d.fCalls),.pool ha hg 44 (Au Af d_p2),.row hl 44 8 (Au Af hj)]) Aa Aa ?_;replace hm:Hv hj=some r:=hm;unfold Hv at hm;refine Bv (Be (Ap (wm Aa (wa Aa (A4 (A8 (WK.putsame (encw:=(Ad ha)) (xs:=d_p1) (i:=Aw d.fEntities e (-1)) (Hr:=[.blk he [Am d.fNow,rv (.map (some hb)),rv (.map (some ha))] 68,.map hb (A1 (mP hb) d.fEntities),.map ha (A1 (mP ha) d.fCalls),.pool ha hg 44 (Au Af d_p2),.row hl 44 8 (Au Af hj)]) (UY _) g4 [] trivial Aa Aa (WK.freeze (i:=5) Aa (WK.up (d:=4) (r:=AL 8 (Au Af hj)) Aa (Up.fact (i:=0) Aa) (C2 (H2:=[.blk he [Am d.fNow,rv (.map (some hb)),rv (.map (some ha))] 68,.map hb (A1 (mP hb) d.fEntities),.map ha (A1 (mP ha) d.fCalls),.poolw hb hh 87 88 1 (Au (Ad ha) d_p1) none,.pool ha hg 44 (Au Af d_p2),.fact hl (AL 8 (Au Af hj))]) ((Aj (i:=2) Aa).trans (US _ ((Aj (i:=2) Aa).trans (US _ ((Aj (i:=2) Aa).trans (US _ ((Aj (i:=1) Aa).trans (US _ ((Aj (i:=1) Aa).trans (US _ (UY _))))))))))) ?_))))))))));obtain rfl:=A9 hm;exact A7 (Ci Tryz.results21 (AV Aa)) (sC (sC (sC (sC (sC (sS sN)))))) ⟨Aa,Aa⟩
theorem Or (F:Nat)(he:Nat)(hb:Nat)(ha:Nat)(hf:Value)(hg:Value)(d:Aq)(d_p1:(List Ah))(d_p2:(List Ai))(e:Ak)(r:(List Ak))(h:Ko F d d_p1 d_p2 e=some r):Fn Tryz.prog GE 20 [rP he 0,rS e] [.blk he [Am d.fNow,rv (.map (some hb)),rv (.map (some ha))] 68,.map hb (A1 (mP hb) d.fEntities),.map ha (A1 (mP ha) d.fCalls),.poolw hb hf 87 88 1 (Au (Ad ha) d_p1) none,.pool ha hg 44 (Au Af d_p2)] (λR H=>R=AL 1 (Au eS r)∧H=[.blk he [Am d.fNow,rv (.map (some hb)),rv (.map (some ha))] 68,.map hb (A1 (mP hb) d.fEntities),.map ha (A1 (mP ha) d.fCalls),.poolw hb hf 87 88 1 (Au (Ad ha) d_p1) none,.pool ha hg 44 (Au Af d_p2)]):=by
 refine enter (n:=27) Tryz.func20 Aa Tryz.ntmps20 Aa (λw Z=>?_);unfold Ko at h;refine Ap (wa Aa (BF (wa Aa (A4 (A2 (Ap (wm Aa (wm Aa (ob h λr1 e3 h2=>JY (Hr:=[]) Tryz.call21 (Nr F he hb ha hf hg d d_p1 d_p2 e r1 e3) Aa (UY _) Aa ?_)))))))));rintro _ _ ⟨rfl,rfl⟩;refine wv (Bl (ys:=r1) (enc:=Af) PA Aa) (wv (r:=Am 0) (Ay Aa) (A4 (AX (WC.nilrow (e:=9) (sz:=1) (JI (H2:=[.blk he [Am d.fNow,rv (.map (some hb)),rv (.map (some ha))] 68,.map hb (A1 (mP hb) d.fEntities),.map ha (A1 (mP ha) d.fCalls),.poolw hb hf 87 88 1 (Au (Ad ha) d_p1) none,.pool ha hg 44 (Au Af d_p2),.row (.slice none 0 0         ) 9 1 (Au eS ([]:List Ak))]) ((Aj (i:=1) Aa).trans (US _ ((Aj (i:=1) Aa).trans (US _ ((Aj (i:=1) Aa).trans (US _ ((Aj (i:=1) Aa).trans (US _ ((Aj (i:=1) Aa).trans (US _ (UY _))))))))))) (ob h2 λhu hw hx=>BP (S:=Nat×((List Ak)×Int)×(Value)) (V:=((List Ak))×(Value)) 0 (λσ=>BD (λσ=>EF r1 σ.1 σ.2) σ.1 σ.2.1=some hu) (λσ=>[(5,rv σ.2.2),(10,AL 8 (Au Af r1)),(11,Am (r1.length:Int)),(12,Am σ.2.1.2)]) (λσ=>[.blk he [Am d.fNow,rv (.map (some hb)),rv (.map (some ha))] 68,.map hb (A1 (mP hb) d.fEntities),.map ha (A1 (mP ha) d.fCalls),.poolw hb hf 87 88 1 (Au (Ad ha) d_p1) none,.pool ha hg 44 (Au Af d_p2),.row σ.2.2 9 1 (Au eS σ.2.1.1)]) (λσ=>σ.1) (F,(([]:List Ak),0),(.slice none 0 0         )) hw (AZ.c Aa (AZ.c Aa (AZ.c Aa (AZ.c Aa AZ.nil)))) (sC (sC (sC (sC (sC (sC sN)))))) (λσ=>EE σ.1=some r) (λσ=>[(5,rv σ.2)]) (λσ=>[.blk he [Am d.fNow,rv (.map (some hb)),rv (.map (some ha))] 68,.map hb (A1 (mP hb) d.fEntities),.map ha (A1 (mP ha) d.fCalls),.poolw hb hf 87 88 1 (Au (Ad ha) d_p1) none,.pool ha hg 44 (Au Af d_p2),.row σ.2 9 1 (Au eS σ.1)]) ?_ ?_))))))
 ·rintro⟨hH,⟨hh,hd⟩,hi⟩ hy;refine C4 (l':=[(5,rv hi),(10,AL 8 (Au Af r1)),(11,Am (r1.length:Int)),(12,Am hd)]) (H':=[.blk he [Am d.fNow,rv (.map (some hb)),rv (.map (some ha))] 68,.map hb (A1 (mP hb) d.fEntities),.map ha (A1 (mP ha) d.fCalls),.poolw hb hf 87 88 1 (Au (Ad ha) d_p1) none,.pool ha hg 44 (Au Af d_p2),.row hi 9 1 (Au eS hh)]) Aa Aa ?_;obtain⟨hz,rfl,hm,hj,hq⟩:=DR hy;replace hj:EF r1 hh hd=some hm:=hj;unfold EF at hj;refine Ap (wv (E8 Aa Aa) (A4 (A2 (cz hj Aa (λh0 h1=>?_) (λh0 h3=>?_)))))
  ·refine AD (Be (Dd (S:=((List Ak))×(Value)) (λσ=>DQ hd σ.1=some hm) (λσ=>[(5,rv σ.2),(10,AL 8 (Au Af r1)),(11,Am (r1.length:Int)),(12,Am hd)]) (λσ=>[.blk he [Am d.fNow,rv (.map (some hb)),rv (.map (some ha))] 68,.map hb (A1 (mP hb) d.fEntities),.map ha (A1 (mP ha) d.fCalls),.poolw hb hf 87 88 1 (Au (Ad ha) d_p1) none,.pool ha hg 44 (Au Af d_p2),.row σ.2 9 1 (Au eS σ.1)]) ?_ ?_))
   ·refine AX (Ap (ck h1 λh4 h5=>wv (By (enc:=Af) (ys:=r1) PA DV Aa Aa h4) (wv (CR JB DV Aa Aa Aa) (BM (cs:=[rS ([]:Ak),rS ([]:Ak),rS ([]:Ak),rv (.slice none 0 0),Am 0,rv (.slice none 0 0),Am 0,Am 0]) NO Aa Aa (λhr=>?_)))));refine AG (i:=0) DV Aa Aa Aa (Bh.c Aa) Aa Aa (cs':=[rS (((Ae r1 hd).fOp).fEntity),rS (((Ae r1 hd).fOp).fID),rS (((Ae r1 hd).fOp).fOp),AL 1 (Au An (((Ae r1 hd).fOp).fArgs)),Am (((Ae r1 hd).fAnswer).fErr),AL 4 (Au Ac (((Ae r1 hd).fAnswer).fValue)),Am ((Ae r1 hd).fFrom),Am ((Ae r1 hd).fTo)]) Aa (H':=[.blk hr [rS (((Ae r1 hd).fOp).fEntity),rS (((Ae r1 hd).fOp).fID),rS (((Ae r1 hd).fOp).fOp),AL 1 (Au An (((Ae r1 hd).fOp).fArgs)),Am (((Ae r1 hd).fAnswer).fErr),AL 4 (Au Ac (((Ae r1 hd).fAnswer).fValue)),Am ((Ae r1 hd).fFrom),Am ((Ae r1 hd).fTo)] 44,.blk he [Am d.fNow,rv (.map (some hb)),rv (.map (some ha))] 68,.map hb (A1 (mP hb) d.fEntities),.map ha (A1 (mP ha) d.fCalls),.poolw hb hf 87 88 1 (Au (Ad ha) d_p1) none,.pool ha hg 44 (Au Af d_p2),.row hi 9 1 (Au eS hh)]) Aa (BF (vF E6 Aa C7 (vL 0 Ei Aa (wv (BV Aa Aa) (A4 (cz h5 Aa (λh6 h7=>?_) (λh6 h8=>?_)))))))
    ·refine AB (wm Aa (vF E6 Aa D5 (vF Cs Aa Eh (vL 0 EI Aa (Bm (ys:=([((Ae r1 hd).fOp).fID]:List Ak)) (enc:=eS) (css:=[[rS (((Ae r1 hd).fOp).fID)]]) (xs:=[.tmp 22]) LH Eh U3 Aa Aa Aa ⟨JV.one Aa (Up.refl _),trivial⟩ Aa Mr Aa Aa Aa (λh9=>?_))))));refine ck h7 λhA hB=>Exists.elim Ui λinf hinf=>DL (xs:=hh) (ys:=([((Ae r1 hd).fOp).fID]:List Ak)) (enc:=eS) (i:=7) LH hinf.1 hinf.2.1 hinf.2.2.1 hinf.2.2.2 Aa Aa Aa Aa Aa (P5.w (i:=0) Aa Aa) Mr TP hA Aa (λhs=>?_);exact wa Aa (A5 (Bi (C2 (H2:=[.blk he [Am d.fNow,rv (.map (some hb)),rv (.map (some ha))] 68,.map hb (A1 (mP hb) d.fEntities),.map ha (A1 (mP ha) d.fCalls),.poolw hb hf 87 88 1 (Au (Ad ha) d_p1) none,.pool ha hg 44 (Au Af d_p2),.row hs 9 1 (Au eS (hh++([((Ae r1 hd).fOp).fID]:List Ak))),.row (.slice (some ⟨h9,0,none⟩) 1 1) 9 1 (Au eS ([((Ae r1 hd).fOp).fID]:List Ak)),.blk hr [rS (((Ae r1 hd).fOp).fEntity),rS (((Ae r1 hd).fOp).fID),rS (((Ae r1 hd).fOp).fOp),AL 1 (Au An (((Ae r1 hd).fOp).fArgs)),Am (((Ae r1 hd).fAnswer).fErr),AL 4 (Au Ac (((Ae r1 hd).fAnswer).fValue)),Am ((Ae r1 hd).fFrom),Am ((Ae r1 hd).fTo)] 44]) ((Aj (i:=3) Aa).trans (US _ ((Aj (i:=3) Aa).trans (US _ ((Aj (i:=3) Aa).trans (US _ ((Aj (i:=3) Aa).trans (US _ ((Aj (i:=3) Aa).trans (US _ (UY _))))))))))) (AO (AY (hh++([((Ae r1 hd).fOp).fID]:List Ak),hs) hB (AZ.c Aa (AZ.c Aa (AZ.c Aa (AZ.c Aa AZ.nil)))) (sC (sC (sC (sC (sC (sC (sS (sS sN)))))))))))))
    ·exact AD (Bi (AO (AY (hh,hi) h8 (AZ.c Aa (AZ.c Aa (AZ.c Aa (AZ.c Aa AZ.nil)))) (sS (sC (sC (sC (sC (sC (sC sN))))))))))
   ·rintro⟨hn,ho⟩ hk;refine C4 (l':=[(5,rv ho),(10,AL 8 (Au Af r1)),(11,Am (r1.length:Int)),(12,Am hd)]) (H':=[.blk he [Am d.fNow,rv (.map (some hb)),rv (.map (some ha))] 68,.map hb (A1 (mP hb) d.fEntities),.map ha (A1 (mP ha) d.fCalls),.poolw hb hf 87 88 1 (Au (Ad ha) d_p1) none,.pool ha hg 44 (Au Af d_p2),.row ho 9 1 (Au eS hn)]) Aa Aa ?_;replace hk:DQ hd hn=some hm:=hk;unfold DQ at hk;refine AB (ck hk λhC hD=>wv (Cz Aa Aa hC) (wm Aa (A5 ?_)));have hE:=BQ hD hq;exact AO (AY (hz,(hn,hd+1),ho) ⟨hE,Vn _⟩ (AZ.c Aa (AZ.c Aa (AZ.c Aa (AZ.c Aa AZ.nil)))) (sC (sC (sC (sC (sC (sC sN)))))))
  ·refine BL (AE ?_);have hG:=CB h3 hq hx;exact AE (B1 (AY (hh,hi) hG (AZ.c Aa AZ.nil) (sC (sC (sC (sC (sC (sC sN))))))))
 ·rintro⟨hp,ht⟩ hl;refine DK (l':=[(5,rv ht)]) (H':=[.blk he [Am d.fNow,rv (.map (some hb)),rv (.map (some ha))] 68,.map hb (A1 (mP hb) d.fEntities),.map ha (A1 (mP ha) d.fCalls),.poolw hb hf 87 88 1 (Au (Ad ha) d_p1) none,.pool ha hg 44 (Au Af d_p2),.row ht 9 1 (Au eS hp)]) Aa Aa ?_;replace hl:EE hp=some r:=hl;unfold EE at hl;refine Bv (Be (Ap (wm Aa (wa Aa (A4 (A8 (WK.freeze (i:=5) Aa (WK.up (d:=4) (r:=AL 1 (Au eS hp)) Aa (Up.fact (i:=0) Aa) ?_))))))));obtain rfl:=A9 hl;exact A7 (Ci Tryz.results20 (AV Aa)) (sS (sC (sC (sC (sC (sC sN)))))) ⟨Aa,Aa⟩
theorem Qg (F:Nat)(hd:Nat)(hb:Nat)(ha:Nat)(he:Value)(hf:Value)(d:Aq)(d_p1:(List Ah))(d_p2:(List Ai))(id:Ak)(r:Ax×Bool)(h:Hw F d d_p1 d_p2 id=some r):Fn Tryz.prog GE 28 [rP hd 0,rS id] [.blk hd [Am d.fNow,rv (.map (some hb)),rv (.map (some ha))] 68,.map hb (A1 (mP hb) d.fEntities),.map ha (A1 (mP ha) d.fCalls),.poolw hb he 87 88 1 (Au (Ad ha) d_p1) none,.pool ha hf 44 (Au Af d_p2)] (λR H=>R=CP [Bc (A0 r.1),rB r.2]∧H=[.blk hd [Am d.fNow,rv (.map (some hb)),rv (.map (some ha))] 68,.map hb (A1 (mP hb) d.fEntities),.map ha (A1 (mP ha) d.fCalls),.poolw hb he 87 88 1 (Au (Ad ha) d_p1) none,.pool ha hf 44 (Au Af d_p2)]):=by
 refine enter (n:=36) Tryz.func28 Aa Tryz.ntmps28 Aa (λw Z=>?_);unfold Hw at h;refine Ap (BM (cs:=[Am 0,rv (.slice none 0 0)]) IO Aa Aa (λb1=>?_));refine wa Aa (A4 (A2 (Ap (wm Aa (JY (Hr:=[.blk b1 [Am 0,rv (.slice none 0 0)] 31,.map hb (A1 (mP hb) d.fEntities),.map ha (A1 (mP ha) d.fCalls),.poolw hb he 87 88 1 (Au (Ad ha) d_p1) none,.pool ha hf 44 (Au Af d_p2)]) PE (Hq hd hb ha d true Aa) Aa ((Aj (i:=1) Aa).trans (US _ (UY _))) Aa ?_)))));rintro _ _ ⟨rfl,rfl⟩;refine wv (Cd Aa) (A4 (DA Aa (CV Aa) (AD (Be (Ap (wm Aa (wv (AU Aa) (vF Gg Aa QI (vL 0 QN Aa (wm Aa (wv (r:=CP [DX ha (Aw d.fCalls id (-1)) 0,rB (Bq d.fCalls id)]) (Gr (enc:=(mP ha)) (xs:=d.fCalls) (z:=(-1)) (i:=3) QG G1 Sn (Qp ha) Aa Aa Aa) (wm Aa (wv (AN Aa Aa) (wv (AN Aa Aa) (wa Aa (wa Aa (A4 (A2 (ck h λg2 h3=>ck h3 λg4 h5=>AW [(4,rP b1 0),(6,DX ha (Aw d.fCalls id (-1)) 0),(29,rB ((!(Bq d.fCalls id))||(decide (((Ae d_p2 (Aw d.fCalls id (-1))).fTo)=(-1)))))] [.blk hd [Am d.fNow,rv (.map (some hb)),rv (.map (some ha))] 68,.blk b1 [Am 0,rv (.slice none 0 0)] 31,.map hb (A1 (mP hb) d.fEntities),.map ha (A1 (mP ha) d.fCalls),.poolw hb he 87 88 1 (Au (Ad ha) d_p1) none,.pool ha hf 44 (Au Af d_p2)] ?_ ?_)))))))))))))))))))
 ·refine AB (wm Aa (wv (Cd Aa) (wm Aa (Bb (!(Bq d.fCalls id)) (λc6=>?_) (λc6=>?_)))))
  ·refine wf c6 (wf c6 (wf c6 (wf c6 (wf c6 (wv (r:=rB true) (A6 Aa c6 Aa) (A5 ?_))))));exact Dc c6
  ·refine wo c6 (wm Aa (wo c6 (wv (r:=DX ha (Aw d.fCalls id (-1)) 0) (Ck Aa (K8 g2 c6)) (wo c6 (wv (r:=DX ha (Aw d.fCalls id (-1)) 7) (Kn E6 Aa C7 Aa (K8 g2 c6) Aa) (wo c6 (wv (r:=Am ((Ae d_p2 (Aw d.fCalls id (-1))).fTo)) (Rw (enc:=Af) (xs:=d_p2) (j:=5) Ei Aa Aa (K8 g4 c6) Aa) (wo c6 (wv (BV Aa Aa) (Ju Aa c6 Aa (A5 ?_)))))))))));exact Dc c6
 refine cz h5 Aa (λc7 h8=>?_) (λc7 h9=>?_)
 ·refine Ap (wv (r:=Bc [Am 0,rv (.slice none 0 0)]) (HT ) (AG (i:=1) BA Aa Aa Aa (Bh.c Aa) Aa Aa (cs':=[Am 0,rv (.slice none 0 0)]) Aa (H':=[.blk hd [Am d.fNow,rv (.map (some hb)),rv (.map (some ha))] 68,.blk b1 [Am 0,rv (.slice none 0 0)] 31,.map hb (A1 (mP hb) d.fEntities),.map ha (A1 (mP ha) d.fCalls),.poolw hb he 87 88 1 (Au (Ad ha) d_p1) none,.pool ha hf 44 (Au Af d_p2)]) Aa (wa Aa (A4 (A8 (Al (WK.upBlk (i:=1) (cs':=[Am 0,AL 4 (Au Ac ([]:List Ab))]) Aa ⟨Up.refl _,Up.le (GB.nil _),trivial⟩ ?_)))))));obtain rfl:=A9 h8;exact A7 (JM Tryz.results28 (BX (i:=1) Dx BA Aa Aa Aa) (AV Aa)) (sC (sS (sC (sC (sC (sC sN)))))) ⟨Aa,Aa⟩
 ·refine AD (Be (Ap (wm Aa (ck h9 λhh hi=>wv (r:=DX ha (Aw d.fCalls id (-1)) 0) (Ck Aa hh) (ck hi λhj hk=>wv (r:=Bc [rS (((Ae d_p2 (Aw d.fCalls id (-1))).fOp).fEntity),rS (((Ae d_p2 (Aw d.fCalls id (-1))).fOp).fID),rS (((Ae d_p2 (Aw d.fCalls id (-1))).fOp).fOp),AL 1 (Au An (((Ae d_p2 (Aw d.fCalls id (-1))).fOp).fArgs)),Am (((Ae d_p2 (Aw d.fCalls id (-1))).fAnswer).fErr),AL 4 (Au Ac (((Ae d_p2 (Aw d.fCalls id (-1))).fAnswer).fValue)),Am ((Ae d_p2 (Aw d.fCalls id (-1))).fFrom),Am ((Ae d_p2 (Aw d.fCalls id (-1))).fTo)]) (Ga (enc:=Af) (xs:=d_p2) (j:=5) JB DV Aa Aa hj Aa Aa) (ob hk λhg hl hm=>DI Tryz.call45 (Jf F (Ai.mk ((Ae d_p2 (Aw d.fCalls id (-1))).fOp) ((Ae d_p2 (Aw d.fCalls id (-1))).fAnswer) ((Ae d_p2 (Aw d.fCalls id (-1))).fFrom) ((Ae d_p2 (Aw d.fCalls id (-1))).fTo)) hg hl) Aa (wv (r:=Bc (A0 hg.fAnswer)) (Nh E6 Aa Dx BA Aa Aa) (AG (i:=1) BA Aa Aa Aa (Bh.c Aa) Aa Aa (cs':=[Am hg.fAnswer.fErr,AL 4 (Au Ac hg.fAnswer.fValue)]) Aa (H':=[.blk hd [Am d.fNow,rv (.map (some hb)),rv (.map (some ha))] 68,.blk b1 (A0 hg.fAnswer) 31,.map hb (A1 (mP hb) d.fEntities),.map ha (A1 (mP ha) d.fCalls),.poolw hb he 87 88 1 (Au (Ad ha) d_p1) none,.pool ha hf 44 (Au Af d_p2)]) Aa (wa Aa (A4 (A8 ?_)))))))))));obtain rfl:=A9 hm;exact A7 (JM Tryz.results28 (BX (i:=1) Dx BA Aa Aa Aa) (AV Aa)) (sC (sS (sC (sC (sC (sC sN)))))) ⟨Aa,Aa⟩
theorem R1 (hd:Nat)(ha:Nat)(hb:Nat)(he:Value)(hf:Value)(d:Aq)(d_p1:(List Ah))(d_p2:(List Ai))(r:(List Ak))(h:Ou d d_p1 d_p2=some r):Fn Tryz.prog GE 22 [rP hd 0] [.blk hd [Am d.fNow,rv (.map (some ha)),rv (.map (some hb))] 68,.map ha (A1 (mP ha) d.fEntities),.map hb (A1 (mP hb) d.fCalls),.poolw ha he 87 88 1 (Au (Ad hb) d_p1) none,.pool hb hf 44 (Au Af d_p2)] (λR H=>R=AL 1 (Au eS r)∧H=[.blk hd [Am d.fNow,rv (.map (some ha)),rv (.map (some hb))] 68,.map ha (A1 (mP ha) d.fEntities),.map hb (A1 (mP hb) d.fCalls),.poolw ha he 87 88 1 (Au (Ad hb) d_p1) none,.pool hb hf 44 (Au Af d_p2)]):=by
 refine enter (n:=12) Tryz.func22 Aa Tryz.ntmps22 Aa (λw Z=>?_);unfold Ou at h;refine Ap (wa Aa (A4 (A2 (Ap (wm Aa (JY (Hr:=[.map ha (A1 (mP ha) d.fEntities),.map hb (A1 (mP hb) d.fCalls),.poolw ha he 87 88 1 (Au (Ad hb) d_p1) none,.pool hb hf 44 (Au Af d_p2)]) PE (Hq hd ha hb d true Aa) Aa (UY _) Aa ?_))))));rintro _ _ ⟨rfl,rfl⟩;refine wv (Cd Aa) (A4 (DA Aa (CV Aa) (AD (Be (Ap (wm Aa (wv (AU Aa) (vF Gg Aa MC (vL 0 MF Aa (Gi (rs:=[rv (.map (some ha))]) (Hin:=[]) (Hr:=[.blk hd [Am d.fNow,rv (.map (some ha)),rv (.map (some hb))] 68,.map ha (A1 (mP ha) d.fEntities),.map hb (A1 (mP hb) d.fCalls),.poolw ha he 87 88 1 (Au (Ad hb) d_p1) none,.pool hb hf 44 (Au Af d_p2)]) Tryz.call50 Aa (UY _) (Ox ha) Aa ?_))))))))));rintro _ _ ⟨b1,rfl,rfl⟩;refine ck h λg2 h3=>Gi (rs:=[rv (.func (.func 74) #[] #[(.pointer (some ⟨b1,0,none⟩))])]) (Hin:=[.blk b1 [rv (.map (some ha))] 65,.map ha (A1 (mP ha) d.fEntities)]) (Hr:=[.blk hd [Am d.fNow,rv (.map (some ha)),rv (.map (some hb))] 68,.map hb (A1 (mP hb) d.fCalls),.poolw ha he 87 88 1 (Au (Ad hb) d_p1) none,.pool hb hf 44 (Au Af d_p2)]) Tryz.call49 Aa ((Aj (i:=0) Aa).trans (US _ ((Aj (i:=1) Aa).trans (US _ (UY _))))) (MN (mP ha) d.fEntities b1 ha g2) Aa ?_;rintro _ _ ⟨v4,rfl,rfl⟩;refine wa Aa (A4 (A8 (WK.freeze (i:=0) Aa (WK.up (d:=2) (r:=AL 1 (Au eS (Ly d.fEntities))) Aa (Up.fact (i:=0) Aa) (C2 (H2:=[.blk hd [Am d.fNow,rv (.map (some ha)),rv (.map (some hb))] 68,.map ha (A1 (mP ha) d.fEntities),.map hb (A1 (mP hb) d.fCalls),.poolw ha he 87 88 1 (Au (Ad hb) d_p1) none,.pool hb hf 44 (Au Af d_p2),.fact v4 (AL 1 (Au eS (Ly d.fEntities))),.blk b1 [rv (.map (some ha))] 65]) ((Aj (i:=3) Aa).trans (US _ ((Aj (i:=2) Aa).trans (US _ ((Aj (i:=2) Aa).trans (US _ ((Aj (i:=2) Aa).trans (US _ ((Aj (i:=2) Aa).trans (US _ (UY _))))))))))) ?_)))));obtain rfl:=A9 h3;exact A7 (Ci Tryz.results22 (AV Aa)) (sC (sC (sC (sC (sC (sS (sS sN))))))) ⟨Aa,Aa⟩
end Go.Proofs.YtfbmdidnlhifjaaGreatDoor.Q
namespace Go.Proofs.YtfbmdidnlhifjaaGreatDoor
open Go
set_option linter.unusedVariables false
def GV (F:Nat) :Option (Bool):=
 Bp (R0) λr1=>Bp (K5 ([97]:Ak) 1) λr9=>Bp (Cv F r1.1 r1.2.1 r1.2.2 r9 5) λhd=>Ba (!(!decide (hd.1=0)))<|Bp (K5 ([98]:Ak) 2) λhh=>Bp (Cv F hd.2.1 hd.2.2.1 hd.2.2.2 hh 5) λhe=>Ba (!(!decide (he.1=0)))<|Bp (K5 ([98]:Ak) 1) λhi=>Bp (Cv F he.2.1 he.2.2.1 he.2.2.2 hi 5) λhb=>Ba (!(!decide (hb.1=19)))<|Bp (Ko F hb.2.1 hb.2.2.1 hb.2.2.2 ([120]:Ak)) λhj=>Bp (GP F hb.2.1 hb.2.2.1 hb.2.2.2 ([120]:Ak) 6) λhf=>Bp (GP F hf.2.2.1 hf.2.2.2.1 hf.2.2.2.2 ([120]:Ak) 7) λha=>Bp (HU ha.2.2.1 ha.2.2.2.1 ha.2.2.2.2 ([120]:Ak)) λhg=>Bp (Ml F hj ([([97]:Ak),([98]:Ak)]:List Ak)) λhk=>Ba (hk)<|Ba (hf.2.1)<|Ba (ha.2.1)<|Ba (decide (ha.1.fTo=7))<|Ba (decide ((ha.1.fAnswer.fValue.length:Int)=1))<|Ba (BK 0 (ha.1.fAnswer.fValue.length:Int))<|Ba (decide (((Ae ha.1.fAnswer.fValue 0).fInt)=3))<|Ba (decide ((hg.length:Int)=1))<|Ba (BK 0 (hg.length:Int))<|Ba (decide (((Ae hg 0).fInt)=3))<|Bp (Ou ha.2.2.1 ha.2.2.2.1 ha.2.2.2.2) λhl=>Bp (Ml F hl ([([120]:Ak)]:List Ak)) λhm=>some hm
end Go.Proofs.YtfbmdidnlhifjaaGreatDoor
namespace Go.Proofs.YtfbmdidnlhifjaaGreatDoor.Q
open Go Go.RowKit
set_option linter.unusedVariables false
section
variable {P : Program} {n : Nat} {c : Cx} {x : Code} {Q : Exit → Act → World → Prop} {l : Fr} {H : List Ent}
end
set_option linter.unusedSimpArgs false
set_option maxRecDepth 100000
set_option maxHeartbeats 4000000
theorem K2 (F:Nat)  (r:Bool)(h:GV F=some r):Fn Tryz.prog GE 10 [] [] (λR H=>R=rB r∧H=[]):=by
 refine enter (n:=87) Tryz.func10 Aa Tryz.ntmps10 Aa (λw Z=>?_);unfold GV at h;refine Ap (wa Aa (BF (ob h λr1 e3 h2=>JY (Hr:=[]) Tryz.call16 (Rz r1 e3) Aa (UY _) Aa ?_)));rintro _ _ ⟨b4,b5,b6,v7,v8,rfl,rfl⟩;refine wa Aa (A4 (A2 (Ap (wm Aa (ob h2 λr9 hz h0=>DI Tryz.call35 (K4 ([97]:Ak) 1 r9 hz) Aa (ob h0 λhe h1 h3=>JY (Hr:=[]) Tryz.call18 (Hn F b4 b5 b6 v7 v8 r1.1 r1.2.1 r1.2.2 r9 5 he h1) Aa (UY _) Aa ?_))))));rintro _ _ ⟨h4,h5,rfl,rfl⟩;refine wv (Ey Aa Aa) (wm Aa (ck h3 λg17 h6=>Bo (b:=!decide (he.1=0)) Aa Aa (Bool.not_eq_eq_eq_not.1 g17) (wm Aa (Bo (b:=!decide (he.1=0)) Aa Aa (Bool.not_eq_eq_eq_not.1 g17) (ob h6 λhr h7 h8=>DI Tryz.call35 (K4 ([98]:Ak) 2 hr h7) Aa (Bo (b:=!decide (he.1=0)) Aa Aa (Bool.not_eq_eq_eq_not.1 g17) (ob h8 λhd h9 hA=>JY (Hr:=[]) Tryz.call18 (Hn F b4 b5 b6 h4 h5 he.2.1 he.2.2.1 he.2.2.2 hr 5 hd h9) Aa (UY _) Aa ?_)))))));rintro _ _ ⟨hB,v26,rfl,rfl⟩;refine Bo (b:=!decide (he.1=0)) Aa Aa (Bool.not_eq_eq_eq_not.1 g17) (wv (Ey Aa Aa) (wv (r:=rB (!decide (hd.1=0))) (AP (b:=!decide (he.1=0)) Aa (Bool.not_eq_eq_eq_not.1 g17) Aa) (wm Aa (ck hA λhj hC=>Bo (b:=!decide (hd.1=0)) Aa Aa (Bool.not_eq_eq_eq_not.1 hj) (wm Aa (Bo (b:=!decide (hd.1=0)) Aa Aa (Bool.not_eq_eq_eq_not.1 hj) (ob hC λhs hD hE=>DI Tryz.call35 (K4 ([98]:Ak) 1 hs hD) Aa (Bo (b:=!decide (hd.1=0)) Aa Aa (Bool.not_eq_eq_eq_not.1 hj) (ob hE λhf hG hH=>JY (Hr:=[]) Tryz.call18 (Hn F b4 b5 b6 hB v26 hd.2.1 hd.2.2.1 hd.2.2.2 hs 5 hf hG) Aa (UY _) Aa ?_)))))))));rintro _ _ ⟨v35,v36,rfl,rfl⟩;refine Bo (b:=!decide (hd.1=0)) Aa Aa (Bool.not_eq_eq_eq_not.1 hj) (wv (Ey Aa Aa) (wv (r:=rB (!decide (hf.1=19))) (AP (b:=!decide (hd.1=0)) Aa (Bool.not_eq_eq_eq_not.1 hj) Aa) (A4 (ck hH λhI hJ=>DA (b:=!decide (hf.1=19)) Aa (Bool.not_eq_eq_eq_not.1 hI) (AD (Be (Ap (wm Aa (ob hJ λht hK hL=>JY (Hr:=[]) Tryz.call20 (Or F b4 b5 b6 v35 v36 hf.2.1 hf.2.2.1 hf.2.2.2 ([120]:Ak) ht hK) Aa (UY _) Aa ?_)))))))));rintro _ _ ⟨rfl,rfl⟩;refine wa Aa (BF (wm Aa (ob hL λhb hN hO=>JY (Hr:=[]) Tryz.call17 (Mi F b4 b5 b6 v35 v36 hf.2.1 hf.2.2.1 hf.2.2.2 ([120]:Ak) 6 hb hN) Aa (UY _) Aa ?_)));rintro _ _ ⟨hu,v46,rfl,rfl⟩;refine wm Aa (wv (AN Aa Aa) (wv (AN Aa Aa) (BM (cs:=[rS ([]:Ak),rS ([]:Ak),rS ([]:Ak),rv (.slice none 0 0),Am 0,rv (.slice none 0 0),Am 0,Am 0]) NO Aa Aa (λhk=>?_))));refine AG (i:=0) DV Aa Aa Aa (Bh.c Aa) Aa Aa (cs':=[rS hb.1.fOp.fEntity,rS hb.1.fOp.fID,rS hb.1.fOp.fOp,AL 1 (Au An hb.1.fOp.fArgs),Am hb.1.fAnswer.fErr,AL 4 (Au Ac hb.1.fAnswer.fValue),Am hb.1.fFrom,Am hb.1.fTo]) Aa (H':=[.blk hk (Af hb.1) 44,.blk b4 [Am hb.2.2.1.fNow,rv (.map (some b5)),rv (.map (some b6))] 68,.map b5 (A1 (mP b5) hb.2.2.1.fEntities),.map b6 (A1 (mP b6) hb.2.2.1.fCalls),.poolw b5 hu 87 88 1 (Au (Ad b6) hb.2.2.2.1) none,.pool b6 v46 44 (Au Af hb.2.2.2.2)]) Aa (wa Aa (BF (wm Aa (ob hO λha hP hQ=>JY (Hr:=[.blk hk (Af hb.1) 44]) Tryz.call17 (Mi F b4 b5 b6 hu v46 hb.2.2.1 hb.2.2.2.1 hb.2.2.2.2 ([120]:Ak) 7 ha hP) Aa ((Aj (i:=1) Aa).trans (US _ ((Aj (i:=1) Aa).trans (US _ ((Aj (i:=1) Aa).trans (US _ ((Aj (i:=1) Aa).trans (US _ ((Aj (i:=1) Aa).trans (US _ (UY _))))))))))) Aa ?_))));rintro _ _ ⟨v51,ho,rfl,rfl⟩;refine wm Aa (wv (AN Aa Aa) (wv (AN Aa Aa) (BM (cs:=[rS ([]:Ak),rS ([]:Ak),rS ([]:Ak),rv (.slice none 0 0),Am 0,rv (.slice none 0 0),Am 0,Am 0]) NO Aa Aa (λhp=>?_))));refine AG (i:=0) DV Aa Aa Aa (Bh.c Aa) Aa Aa (cs':=[rS ha.1.fOp.fEntity,rS ha.1.fOp.fID,rS ha.1.fOp.fOp,AL 1 (Au An ha.1.fOp.fArgs),Am ha.1.fAnswer.fErr,AL 4 (Au Ac ha.1.fAnswer.fValue),Am ha.1.fFrom,Am ha.1.fTo]) Aa (H':=[.blk hp (Af ha.1) 44,.blk b4 [Am ha.2.2.1.fNow,rv (.map (some b5)),rv (.map (some b6))] 68,.map b5 (A1 (mP b5) ha.2.2.1.fEntities),.map b6 (A1 (mP b6) ha.2.2.1.fCalls),.poolw b5 v51 87 88 1 (Au (Ad b6) ha.2.2.2.1) none,.pool b6 ho 44 (Au Af ha.2.2.2.2),.blk hk (Af hb.1) 44]) Aa (wa Aa (BF (wm Aa (ob hQ λhq hR hS=>JY (Hr:=[.blk hp (Af ha.1) 44,.blk hk (Af hb.1) 44]) Tryz.call19 (Nn b4 b5 b6 v51 ho ha.2.2.1 ha.2.2.2.1 ha.2.2.2.2 ([120]:Ak) hq hR) Aa ((Aj (i:=1) Aa).trans (US _ ((Aj (i:=1) Aa).trans (US _ ((Aj (i:=1) Aa).trans (US _ ((Aj (i:=1) Aa).trans (US _ ((Aj (i:=1) Aa).trans (US _ (UY _))))))))))) Aa ?_))));rintro _ _ ⟨rfl,rfl⟩;refine wa Aa (BF (wm Aa (Bm (ys:=([([97]:Ak),([98]:Ak)]:List Ak)) (enc:=eS) (css:=[[rS ([97]:Ak)],[rS ([98]:Ak)]]) (xs:=[.const (.string ⟨#[97]⟩),.const (.string ⟨#[98]⟩)]) LH Eh U3 Aa Aa Aa ⟨JV.one Aa (Up.refl _),JV.one Aa (Up.refl _),trivial⟩ Aa Mr Aa Aa Aa (λhT=>?_))));refine WL.freeze (i:=0) Aa (WL.up (d:=40) (r:=AL 1 (Au eS ([([97]:Ak),([98]:Ak)]:List Ak))) Aa (Up.fact (i:=0) Aa) (ob hS λhU hV hW=>DI Tryz.call23 (Nz F ht ([([97]:Ak),([98]:Ak)]:List Ak) hU hV) Aa (wm Aa (ck hW λhw hX=>wo hw (wm Aa (Ij Aa hw Aa (wm Aa (ck hX λhx hY=>wo hx (wm Aa (Ij Aa hx Aa (wm Aa (ck hY λhm hZ=>wo hm (vF E6 Aa C7 (wo hm (vL 6 Ei Aa (wo hm (wv (BV Aa Aa) (Ij Aa hm Aa (wm Aa ?_)))))))))))))))))));refine ck hZ λhh ga=>wo hh (vF E6 Aa BA (wo hh (vF MA Aa DW (wo hh (vL 6 Gh Aa (wo hh (wv (Bl (ys:=ha.1.fAnswer.fValue) (enc:=Ac) Cy Aa) (wo hh (wv (BV Aa Aa) (Ij Aa hh Aa (wm Aa (ck ga λhg gb=>wo hg (vF E6 Aa BA (wo hg (vF MA Aa DW (wo hg (vL 6 Gh Aa (wo hg (ck gb λgc gd=>wv (By (enc:=Ac) (ys:=ha.1.fAnswer.fValue) Cy CW Aa Aa gc) (wo hg ?_))))))))))))))))))));refine wv (Bn BS Aa C7 Aa Aa) (wo hg (wv (Bs Ei Aa Aa) (wo hg (wv (BV Aa Aa) (Ij Aa hg Aa (wm Aa (ck gd λhn ge=>wo hn (wm Aa (wo hn (wv (Bl (ys:=hq) (enc:=Ac) Cy Aa) (wo hn (wv (BV Aa Aa) (Ij Aa hn Aa (wm Aa (ck ge λhi gf=>wo hi (wm Aa (wo hi (ck gf λgg gh=>wv (By (enc:=Ac) (ys:=hq) Cy CW Aa Aa gg) (wo hi (wv (Bn BS Aa C7 Aa Aa) ?_))))))))))))))))))));refine wo hi (wv (Bs Ei Aa Aa) (wo hi (wv (BV Aa Aa) (Ij Aa hi Aa (wm Aa (ck gh λhl gi=>wo hl (wm Aa (wo hl (ob gi λhy gj gl=>JY (Hr:=[.fact (.slice (some ⟨hT,0,none⟩) 2 2) (AL 1 (Au eS ([([97]:Ak),([98]:Ak)]:List Ak))),.blk hp (Af ha.1) 44,.blk hk (Af hb.1) 44]) Tryz.call22 (R1 b4 b5 b6 v51 ho ha.2.2.1 ha.2.2.2.1 ha.2.2.2.2 hy gj) Aa ((Aj (i:=1) Aa).trans (US _ ((Aj (i:=1) Aa).trans (US _ ((Aj (i:=1) Aa).trans (US _ ((Aj (i:=1) Aa).trans (US _ ((Aj (i:=1) Aa).trans (US _ (UY _))))))))))) Aa ?_)))))))));rintro _ _ ⟨rfl,rfl⟩;refine wo hl (Bm (ys:=([([120]:Ak)]:List Ak)) (enc:=eS) (css:=[[rS ([120]:Ak)]]) (xs:=[.const (.string ⟨#[120]⟩)]) LH Eh U3 Aa Aa Aa ⟨JV.one Aa (Up.refl _),trivial⟩ Aa Mr Aa Aa Aa (λgr=>?_));refine wo hl (WL.freeze (i:=0) Aa (WL.up (d:=84) (r:=AL 1 (Au eS ([([120]:Ak)]:List Ak))) Aa (Up.fact (i:=0) Aa) (ob gl λgm gp gq=>DI Tryz.call23 (Nz F hy ([([120]:Ak)]:List Ak) gm gp) Aa (Ij Aa hl Aa (wa Aa (A4 (A8 ?_)))))));obtain rfl:=A9 gq;exact A7 (Ci Tryz.results10 (AV Aa)) (sS (sS (sS (sS (sS (sS (sS (sS (sS sN))))))))) ⟨Aa,Aa⟩
end Go.Proofs.YtfbmdidnlhifjaaGreatDoor.Q
namespace Go.Proofs.YtfbmdidnlhifjaaGreatDoor
open Go
set_option linter.unusedVariables false
def CK (ha:Int)(hb:Int)(hd:(List (Ak×Int)))(he:(List (Ak×Int)))(hf:(List Ah))(hg:(List Ai)):Option (Stp (Int×Int×(List (Ak×Int))×(List (Ak×Int))×(List Ah)×(List Ai)) (Out (Bool) (Int×(List (Ak×Int))×(List (Ak×Int))×(List Ah)×(List Ai)))):=
 Ba (BB .i64 (ha+1))<|some (.next (ha+1,hb,hd,he,hf,hg))
def CJ (ha:Int)(hb:(List Ab))(hd:Bool):Option (Stp ((List Ab)×Bool×Int) (Out (Bool) ((List Ab)))):=
 Ba (BB .i64 (ha+1))<|some (.next (hb,hd,ha+1))
def Dt (ha:Bool):Option (Bool):=
 some ha
def Ca (F:Nat)(name:Ak)(hh:Int)(hi:(List (Ak×Int)))(hj:(List (Ak×Int)))(hk:(List Ah))(hl:(List Ai))(hb:(List Ai))(hf:(List Ab))(hg:Bool)(ha:Int):Option (Stp ((List Ab)×Bool×Int) (Out (Bool) ((List Ab)))):=
 Bg (decide (ha<(hb.length:Int))) (Ba (BK ha (hb.length:Int))<|Bg (decide (((Ae hb ha).fTo)<0)) (CJ ha hf true) (Bp (TW F hf ((Ae hb ha).fOp)) λhd=>Ba (imp (!hg) (imp (!(!decide (hd.2.2=0))) ((Cm F hd.2.1 ((Ae hb ha).fAnswer)).isSome)))<|Bg ((hg||((!decide (hd.2.2=0))||((!(ov (Cm F hd.2.1 ((Ae hb ha).fAnswer))))||((decide (((Ae hb ha).fTo)<((Ae hb ha).fFrom)))||(!decide ((((Ae hb ha).fOp).fEntity)=name))))))) (some (.out (.ret false))) (Bp (Hw F (Aq.mk hh hi hj) hk hl (((Ae hb ha).fOp).fID)) λhe=>Ba (imp (!(!he.2)) ((Cm F hd.2.1 he.1).isSome))<|Bg (((!he.2)||(!(ov (Cm F hd.2.1 he.1))))) (some (.out (.ret false))) (CJ ha hd.1 hg)))) (some (.out (.go hf)))
def DS (F:Nat)(name:Ak)(ha:Int)(hb:(List (Ak×Int)))(hd:(List (Ak×Int)))(he:(List Ah))(hf:(List Ai))(hg:(List Ab)):Option (Bool):=
 Bp (HU (Aq.mk ha hb hd) he hf name) λhh=>Bp (E9 F hh hg) λhi=>Bg (hi) (Bp (GV F) λhj=>Dt hj) (Dt false)
def Cb (F:Nat)(l:(List Bd))(ha:Int)(he:Int)(hf:(List (Ak×Int)))(hg:(List (Ak×Int)))(hh:(List Ah))(hi:(List Ai)):Option (Stp (Int×Int×(List (Ak×Int))×(List (Ak×Int))×(List Ah)×(List Ai)) (Out (Bool) (Int×(List (Ak×Int))×(List (Ak×Int))×(List Ah)×(List Ai)))):=
 Bg (decide (ha<(l.length:Int))) (Ba (BK ha (l.length:Int))<|Bg (decide (((Ae l ha).fKind)=1)) (Bp (GP F (Aq.mk he hf hg) hh hi (((Ae l ha).fOp).fEntity) ((Ae l ha).fNow)) λhb=>CK ha hb.2.2.1.fNow hb.2.2.1.fEntities hb.2.2.1.fCalls hb.2.2.2.1 hb.2.2.2.2) (Bp (Cv F (Aq.mk he hf hg) hh hi ((Ae l ha).fOp) ((Ae l ha).fNow)) λhd=>CK ha hd.2.1.fNow hd.2.1.fEntities hd.2.1.fCalls hd.2.2.1 hd.2.2.2)) (some (.out (.go (he,hf,hg,hh,hi))))
def DT (F:Nat)(name:Ak)(ha:Int)(hb:(List (Ak×Int)))(hd:(List (Ak×Int)))(he:(List Ah))(hf:(List Ai)):Option (Bool):=
 Bp (HW F (Aq.mk ha hb hd) he hf name) λhg=>Bp (BD (λσ=>Ca F name ha hb hd he hf hg σ.1 σ.2.1 σ.2.2) F (([(Ab.mk 1 0 ([]:Ak) 0)]:List Ab),false,0)) (B9 λν=>DS F name ha hb hd he hf ν)
def GU (F:Nat)(l:(List Bd))(name:Ak):Option (Bool):=
 Ba ((D3 F l).isSome)<|Bg (((!(ov (D3 F l)))||(decide (100<(name.length:Int))))) (Bp (GV F) λr6=>some r6) (Bp (R0) λha=>Bp (BD (λσ=>Cb F l σ.1 σ.2.1 σ.2.2.1 σ.2.2.2.1 σ.2.2.2.2.1 σ.2.2.2.2.2) F (0,ha.1.fNow,ha.1.fEntities,ha.1.fCalls,ha.2.1,ha.2.2)) (B9 λν=>DT F name ν.1 ν.2.1 ν.2.2.1 ν.2.2.2.1 ν.2.2.2.2))
end Go.Proofs.YtfbmdidnlhifjaaGreatDoor
namespace Go.Proofs.YtfbmdidnlhifjaaGreatDoor.Q
open Go Go.RowKit
set_option linter.unusedVariables false
set_option linter.unusedSimpArgs false
set_option maxRecDepth 100000
set_option maxHeartbeats 4000000
theorem Oz (F:Nat)(l:(List Bd))(name:Ak)(r:Bool)(h:GU F l name=some r):Fn Tryz.prog GE 6 [AL 6 (Au AT l),rS name] [] (λR H=>R=rB r∧H=[]):=by
 refine enter (n:=136) Tryz.func6 Aa Tryz.ntmps6 Aa (λw Z=>?_);unfold GU at h;refine Ap (wa Aa (A4 (A2 (ck h λg1 h2=>AW [(0,AL 6 (Au AT l)),(1,rS name),(23,rB ((!(ov (D3 F l)))||(decide (100<(name.length:Int)))))] [] ?_ ?_))))
 ·refine AB (wm Aa (DI Tryz.call15 (Oy F l (ov (D3 F l)) (Oi g1)) Aa (wv (Cd Aa) (wm Aa (Bb (!(ov (D3 F l))) (λc3=>?_) (λc3=>?_))))))
  ·refine wf c3 (wf c3 (wf c3 (wv (r:=rB true) (A6 Aa c3 Aa) (A5 ?_))));exact Dc c3
  ·refine wo c3 (wm Aa (wo c3 (wv (CS G1 Aa) (wo c3 (wv (Ez Aa Aa) (Ju Aa c3 Aa (A5 ?_)))))));exact Dc c3
 refine cz h2 Aa (λc4 h5=>?_) (λc4 h9=>?_)
 ·refine Ap (ob h5 λr6 e8 h7=>DI Tryz.call10 (K2 F r6 e8) Aa (wa Aa (A4 (A8 (Al ?_)))));obtain rfl:=A9 h7;exact A7 (Ci Uw (AV Aa)) sN ⟨Aa,Aa⟩
 ·refine AD (Be (Ap (ob h9 λh3 gh gi=>JY (Hr:=[]) Tryz.call16 (Rz h3 gh) Aa (UY _) Aa ?_)));rintro _ _ ⟨hg,hb,ha,gj,gl,rfl,rfl⟩;refine wa Aa (A4 (A2 (Ap (wm Aa (wv (Bl (ys:=l) (enc:=AT) LI Aa) (wv (r:=Am 0) (Ay Aa) (A4 (AX (ob gi λgm gp gq=>BP (S:=Nat×(Int×Int×(List (Ak×Int))×(List (Ak×Int))×(List Ah)×(List Ai))×(Value×Value)) (V:=(Int×(List (Ak×Int))×(List (Ak×Int))×(List Ah)×(List Ai))×(Value×Value)) 0 (λσ=>BD (λσ=>Cb F l σ.1 σ.2.1 σ.2.2.1 σ.2.2.2.1 σ.2.2.2.2.1 σ.2.2.2.2.2) σ.1 σ.2.1=some gm) (λσ=>[(0,AL 6 (Au AT l)),(1,rS name),(5,rP hg 0),(27,Am (l.length:Int)),(28,Am σ.2.1.1)]) (λσ=>[.blk hg [Am σ.2.1.2.1,rv (.map (some hb)),rv (.map (some ha))] 68,.map hb (A1 (mP hb) σ.2.1.2.2.1),.map ha (A1 (mP ha) σ.2.1.2.2.2.1),.poolw hb σ.2.2.1 87 88 1 (Au (Ad ha) σ.2.1.2.2.2.2.1) none,.pool ha σ.2.2.2 44 (Au Af σ.2.1.2.2.2.2.2)]) (λσ=>σ.1) (F,(0,h3.1.fNow,h3.1.fEntities,h3.1.fCalls,h3.2.1,h3.2.2),(gj,gl)) gp (AZ.c5 Aa Aa Aa Aa Aa AZ.nil) (sC (sC (sC (sC (sC sN))))) (λσ=>DT F name σ.1.1 σ.1.2.1 σ.1.2.2.1 σ.1.2.2.2.1 σ.1.2.2.2.2=some r) (λσ=>[(1,rS name),(5,rP hg 0)]) (λσ=>[.blk hg [Am σ.1.1,rv (.map (some hb)),rv (.map (some ha))] 68,.map hb (A1 (mP hb) σ.1.2.1),.map ha (A1 (mP ha) σ.1.2.2.1),.poolw hb σ.2.1 87 88 1 (Au (Ad ha) σ.1.2.2.2.1) none,.pool ha σ.2.2 44 (Au Af σ.1.2.2.2.2)]) ?_ ?_)))))))))
  ·rintro⟨cx,⟨hf,hw,hx,hy,hz,h0⟩,⟨h4,h6⟩⟩ gr;refine C4 (l':=[(0,AL 6 (Au AT l)),(1,rS name),(5,rP hg 0),(27,Am (l.length:Int)),(28,Am hf)]) (H':=[.blk hg [Am hw,rv (.map (some hb)),rv (.map (some ha))] 68,.map hb (A1 (mP hb) hx),.map ha (A1 (mP ha) hy),.poolw hb h4 87 88 1 (Au (Ad ha) hz) none,.pool ha h6 44 (Au Af h0)]) Aa Aa ?_;obtain⟨gs,rfl,hQ,hH,gb⟩:=DR gr;replace hH:Cb F l hf hw hx hy hz h0=some hQ:=hH;unfold Cb at hH;refine Ap (wv (E8 Aa Aa) (A4 (A2 (cz hH Aa (λgt gu=>?_) (λgt gv=>?_)))))
   ·refine AD (Be (Dd (S:=(Int×(List (Ak×Int))×(List (Ak×Int))×(List Ah)×(List Ai))×(Value×Value)) (λσ=>CK hf σ.1.1 σ.1.2.1 σ.1.2.2.1 σ.1.2.2.2.1 σ.1.2.2.2.2=some hQ) (λσ=>[(0,AL 6 (Au AT l)),(1,rS name),(5,rP hg 0),(27,Am (l.length:Int)),(28,Am hf)]) (λσ=>[.blk hg [Am σ.1.1,rv (.map (some hb)),rv (.map (some ha))] 68,.map hb (A1 (mP hb) σ.1.2.1),.map ha (A1 (mP ha) σ.1.2.2.1),.poolw hb σ.2.1 87 88 1 (Au (Ad ha) σ.1.2.2.2.1) none,.pool ha σ.2.2 44 (Au Af σ.1.2.2.2.2)]) ?_ ?_))
    ·refine AX (Ap (wm Aa (wa Aa (BF (wm Aa (wm Aa (ck gu λhC gw=>wv (By (enc:=AT) (ys:=l) LI PC Aa Aa hC) (wv (Bn PB Aa C7 Aa Aa) (wv (Bs Ei Aa Aa) (wv (BV Aa Aa) (A4 (cz gw Aa (λgx gy=>?_) (λgx gz=>?_)))))))))))))
     ·refine OM (H1:=[.blk hg [Am hw,rv (.map (some hb)),rv (.map (some ha))] 68,.map hb (A1 (mP hb) hx),.map ha (A1 (mP ha) hy),.poolw hb h4 87 88 1 (Au (Ad ha) hz) none,.pool ha h6 44 (Au Af h0)]) 12 [0,1,5,6,27,28] [⟨[],rP hg 0,0⟩,⟨[],AL 6 (Au AT l),0⟩,⟨[],Am hf,0⟩,⟨[1,2],Lt [Am ((Ae l hf).fKind),rS (((Ae l hf).fOp).fEntity),rS (((Ae l hf).fOp).fID),rS (((Ae l hf).fOp).fOp),AL 1 (Au An (((Ae l hf).fOp).fArgs)),Am ((Ae l hf).fNow)],0⟩,⟨[3],Lt [rS (((Ae l hf).fOp).fEntity),rS (((Ae l hf).fOp).fID),rS (((Ae l hf).fOp).fOp),AL 1 (Au An (((Ae l hf).fOp).fArgs)),Am ((Ae l hf).fNow)],0⟩,⟨[4],Lt [rS (((Ae l hf).fOp).fEntity),rS (((Ae l hf).fOp).fID),rS (((Ae l hf).fOp).fOp),AL 1 (Au An (((Ae l hf).fOp).fArgs)),Am ((Ae l hf).fNow)],0⟩,⟨[5],rS (((Ae l hf).fOp).fEntity),0⟩,⟨[],AL 6 (Au AT l),0⟩,⟨[],Am hf,0⟩,⟨[7,8],Lt [Am ((Ae l hf).fKind),rS (((Ae l hf).fOp).fEntity),rS (((Ae l hf).fOp).fID),rS (((Ae l hf).fOp).fOp),AL 1 (Au An (((Ae l hf).fOp).fArgs)),Am ((Ae l hf).fNow)],0⟩,⟨[9],Lt [Am ((Ae l hf).fNow)],0⟩,⟨[10],Am ((Ae l hf).fNow),0⟩] (rle [(13,_)]) [37,38,39,40,41,42,43,44,45,46,47,48,0,1,5,6,27,28] ?_ ?_
      ·refine oq (Ay Aa) (oq (Ay Aa) (oq (Ay Aa) (oq (By (enc:=AT) (ys:=l) LI PC Aa Aa hC) (oq (Bn PB Aa D5 Aa Aa) (oq (Bn Cs Aa Eh Aa Aa) (oq (Bs EI Aa Aa) (oq (Ay Aa) (oq (Ay Aa) (oq (By (enc:=AT) (ys:=l) LI PC Aa Aa hC) (oq (Bn PB Aa C7 Aa Aa) (oq (Bs Ei Aa Aa) ?_)))))))))));exact Dk
      refine ob gy λh8 g0 g2=>JY (Hr:=[]) Tryz.call17 (Mi F hg hb ha h4 h6 (Aq.mk hw hx hy) hz h0 (((Ae l hf).fOp).fEntity) ((Ae l hf).fNow) h8 g0) Aa (UY _) Aa ?_;rintro _ _ ⟨v212,g3,rfl,rfl⟩;exact A5 (Bi (AO (AY ((h8.2.2.1.fNow,h8.2.2.1.fEntities,h8.2.2.1.fCalls,h8.2.2.2.1,h8.2.2.2.2),(v212,g3)) g2 (AZ.c5 Aa Aa Aa Aa Aa AZ.nil) (sC (sC (sC (sC (sC sN))))))))
     ·refine OM (H1:=[.blk hg [Am hw,rv (.map (some hb)),rv (.map (some ha))] 68,.map hb (A1 (mP hb) hx),.map ha (A1 (mP ha) hy),.poolw hb h4 87 88 1 (Au (Ad ha) hz) none,.pool ha h6 44 (Au Af h0)]) 11 [0,1,5,6,27,28] [⟨[],rP hg 0,0⟩,⟨[],AL 6 (Au AT l),0⟩,⟨[],Am hf,0⟩,⟨[1,2],Lt [Am ((Ae l hf).fKind),rS (((Ae l hf).fOp).fEntity),rS (((Ae l hf).fOp).fID),rS (((Ae l hf).fOp).fOp),AL 1 (Au An (((Ae l hf).fOp).fArgs)),Am ((Ae l hf).fNow)],0⟩,⟨[3],Lt [rS (((Ae l hf).fOp).fEntity),rS (((Ae l hf).fOp).fID),rS (((Ae l hf).fOp).fOp),AL 1 (Au An (((Ae l hf).fOp).fArgs)),Am ((Ae l hf).fNow)],0⟩,⟨[4],Bc (Av ((Ae l hf).fOp)),0⟩,⟨[],AL 6 (Au AT l),0⟩,⟨[],Am hf,0⟩,⟨[6,7],Lt [Am ((Ae l hf).fKind),rS (((Ae l hf).fOp).fEntity),rS (((Ae l hf).fOp).fID),rS (((Ae l hf).fOp).fOp),AL 1 (Au An (((Ae l hf).fOp).fArgs)),Am ((Ae l hf).fNow)],0⟩,⟨[8],Lt [Am ((Ae l hf).fNow)],0⟩,⟨[9],Am ((Ae l hf).fNow),0⟩] (rle [(12,_)]) [50,51,52,53,54,55,56,57,58,59,60,0,1,5,6,27,28] ?_ ?_
      ·refine oq (Ay Aa) (oq (Ay Aa) (oq (Ay Aa) (oq (By (enc:=AT) (ys:=l) LI PC Aa Aa hC) (oq (Bn PB Aa D5 Aa Aa) (oq (CR Ii D5 Aa Aa Aa) (oq (Ay Aa) (oq (Ay Aa) (oq (By (enc:=AT) (ys:=l) LI PC Aa Aa hC) (oq (Bn PB Aa C7 Aa Aa) (oq (Bs Ei Aa Aa) ?_))))))))));exact Dk
      refine ob gz λhA g4 g5=>JY (Hr:=[]) Tryz.call18 (Hn F hg hb ha h4 h6 (Aq.mk hw hx hy) hz h0 ((Ae l hf).fOp) ((Ae l hf).fNow) hA g4) Aa (UY _) Aa ?_;rintro _ _ ⟨g6,g7,rfl,rfl⟩;exact A5 (Bi (AO (AY ((hA.2.1.fNow,hA.2.1.fEntities,hA.2.1.fCalls,hA.2.2.1,hA.2.2.2),(g6,g7)) g5 (AZ.c5 Aa Aa Aa Aa Aa AZ.nil) (sC (sC (sC (sC (sC sN))))))))
    ·rintro⟨⟨hR,hS,hT,hU,hV⟩,⟨gc,gd⟩⟩ hI;refine C4 (l':=[(0,AL 6 (Au AT l)),(1,rS name),(5,rP hg 0),(27,Am (l.length:Int)),(28,Am hf)]) (H':=[.blk hg [Am hR,rv (.map (some hb)),rv (.map (some ha))] 68,.map hb (A1 (mP hb) hS),.map ha (A1 (mP ha) hT),.poolw hb gc 87 88 1 (Au (Ad ha) hU) none,.pool ha gd 44 (Au Af hV)]) Aa Aa ?_;replace hI:CK hf hR hS hT hU hV=some hQ:=hI;unfold CK at hI;refine AB (ck hI λg8 g9=>wv (Cz Aa Aa g8) (wm Aa (A5 ?_)));have gA:=BQ g9 gb;exact AO (AY (gs,(hf+1,hR,hS,hT,hU,hV),(gc,gd)) ⟨gA,Vn _⟩ (AZ.c5 Aa Aa Aa Aa Aa AZ.nil) (sC (sC (sC (sC (sC sN))))))
   ·refine BL (AE ?_);have gB:=CB gv gb gq;exact AE (B1 (AY ((hw,hx,hy,hz,h0),(h4,h6)) gB (AZ.c Aa (AZ.c Aa AZ.nil)) (sC (sC (sC (sC (sC sN)))))))
  ·rintro⟨⟨hj,hk,hl,hh,hi⟩,⟨ho,hp⟩⟩ hJ;refine DK (l':=[(1,rS name),(5,rP hg 0)]) (H':=[.blk hg [Am hj,rv (.map (some hb)),rv (.map (some ha))] 68,.map hb (A1 (mP hb) hk),.map ha (A1 (mP ha) hl),.poolw hb ho 87 88 1 (Au (Ad ha) hh) none,.pool ha hp 44 (Au Af hi)]) Aa Aa ?_;replace hJ:DT F name hj hk hl hh hi=some r:=hJ;unfold DT at hJ;refine Bv (Be (Ap (wv (r:=Bc [Am 1,Am 0,rS ([]:Ak),Am 0]) (GM Aa Aa) (Bm (ys:=([(Ab.mk 1 0 ([]:Ak) 0)]:List Ab)) (enc:=Ac) (css:=[[Am 1,Am 0,rS ([]:Ak),Am 0]]) (xs:=[.tmp 63]) Cy CW KQ Aa Aa Aa ⟨JV.agg ⟨Up.refl _,Up.refl _,Up.refl _,Up.refl _,trivial⟩,trivial⟩ Aa BG Aa Aa Aa (λgC=>?_)))));refine wa Aa (BF (wa Aa (A4 (A2 (Ap (wm Aa (wm Aa (ob hJ λhd gD gE=>JY (Hr:=[.row (.slice (some ⟨gC,0,none⟩) 1 1) 63 4 (Au Ac ([(Ab.mk 1 0 ([]:Ak) 0)]:List Ab))]) Tryz.call21 (Nr F hg hb ha ho hp (Aq.mk hj hk hl) hh hi name hd gD) Aa ((Aj (i:=1) Aa).trans (US _ ((Aj (i:=1) Aa).trans (US _ ((Aj (i:=1) Aa).trans (US _ ((Aj (i:=1) Aa).trans (US _ ((Aj (i:=1) Aa).trans (US _ (UY _))))))))))) Aa ?_))))))));rintro _ _ ⟨rfl,rfl⟩;refine wv (Bl (ys:=hd) (enc:=Af) PA Aa) (wv (r:=Am 0) (Ay Aa) (A4 (AX (WC.freeze (i:=5) Aa (WC.up (d:=7) (r:=AL 4 (Au Ac ([(Ab.mk 1 0 ([]:Ak) 0)]:List Ab))) Aa (Up.fact (i:=0) Aa) (ob gE λgF gG hW=>BP (S:=Nat×((List Ab)×Bool×Int)×(Unit)) (V:=((List Ab))×(Unit)) 2 (λσ=>BD (λσ=>Ca F name hj hk hl hh hi hd σ.1 σ.2.1 σ.2.2) σ.1 σ.2.1=some gF) (λσ=>[(1,rS name),(5,rP hg 0),(7,AL 4 (Au Ac σ.2.1.1)),(8,rB σ.2.1.2.1),(67,AL 8 (Au Af hd)),(68,Am (hd.length:Int)),(69,Am σ.2.1.2.2)]) (λσ=>[.blk hg [Am hj,rv (.map (some hb)),rv (.map (some ha))] 68,.map hb (A1 (mP hb) hk),.map ha (A1 (mP ha) hl),.poolw hb ho 87 88 1 (Au (Ad ha) hh) none,.pool ha hp 44 (Au Af hi)]) (λσ=>σ.1) (F,(([(Ab.mk 1 0 ([]:Ak) 0)]:List Ab),false,0),()) gG (AZ.c Aa (AZ.c Aa (AZ.c5 Aa Aa Aa Aa Aa AZ.nil))) (sS (sC (sC (sC (sC (sC sN)))))) (λσ=>DS F name hj hk hl hh hi σ.1=some r) (λσ=>[(1,rS name),(5,rP hg 0),(7,AL 4 (Au Ac σ.1))]) (λσ=>[.blk hg [Am hj,rv (.map (some hb)),rv (.map (some ha))] 68,.map hb (A1 (mP hb) hk),.map ha (A1 (mP ha) hl),.poolw hb ho 87 88 1 (Au (Ad ha) hh) none,.pool ha hp 44 (Au Af hi)]) ?_ ?_))))))
   ·rintro⟨cy,⟨hD,h1,he⟩,⟨⟩⟩ gH;refine C4 (l':=[(1,rS name),(5,rP hg 0),(7,AL 4 (Au Ac hD)),(8,rB h1),(67,AL 8 (Au Af hd)),(68,Am (hd.length:Int)),(69,Am he)]) (H':=[.blk hg [Am hj,rv (.map (some hb)),rv (.map (some ha))] 68,.map hb (A1 (mP hb) hk),.map ha (A1 (mP ha) hl),.poolw hb ho 87 88 1 (Au (Ad ha) hh) none,.pool ha hp 44 (Au Af hi)]) Aa Aa ?_;obtain⟨gI,rfl,hX,hK,hL⟩:=DR gH;replace hK:Ca F name hj hk hl hh hi hd hD h1 he=some hX:=hK;unfold Ca at hK;refine Ap (wv (E8 Aa Aa) (A4 (A2 (cz hK Aa (λgJ gK=>?_) (λgJ gL=>?_)))))
    ·refine AD (Be (Dd (S:=((List Ab)×Bool)×(Unit)) (λσ=>CJ he σ.1.1 σ.1.2=some hX) (λσ=>[(1,rS name),(5,rP hg 0),(7,AL 4 (Au Ac σ.1.1)),(8,rB σ.1.2),(67,AL 8 (Au Af hd)),(68,Am (hd.length:Int)),(69,Am he)]) (λσ=>[.blk hg [Am hj,rv (.map (some hb)),rv (.map (some ha))] 68,.map hb (A1 (mP hb) hk),.map ha (A1 (mP ha) hl),.poolw hb ho 87 88 1 (Au (Ad ha) hh) none,.pool ha hp 44 (Au Af hi)]) ?_ ?_))
     ·refine AX (Ap (ck gK λgM gN=>wv (By (enc:=Af) (ys:=hd) PA DV Aa Aa gM) (wv (CR JB DV Aa Aa Aa) (BM (cs:=[rS ([]:Ak),rS ([]:Ak),rS ([]:Ak),rv (.slice none 0 0),Am 0,rv (.slice none 0 0),Am 0,Am 0]) NO Aa Aa (λhB=>?_)))));refine AG (i:=0) DV Aa Aa Aa (Bh.c Aa) Aa Aa (cs':=[rS (((Ae hd he).fOp).fEntity),rS (((Ae hd he).fOp).fID),rS (((Ae hd he).fOp).fOp),AL 1 (Au An (((Ae hd he).fOp).fArgs)),Am (((Ae hd he).fAnswer).fErr),AL 4 (Au Ac (((Ae hd he).fAnswer).fValue)),Am ((Ae hd he).fFrom),Am ((Ae hd he).fTo)]) Aa (H':=[.blk hB [rS (((Ae hd he).fOp).fEntity),rS (((Ae hd he).fOp).fID),rS (((Ae hd he).fOp).fOp),AL 1 (Au An (((Ae hd he).fOp).fArgs)),Am (((Ae hd he).fAnswer).fErr),AL 4 (Au Ac (((Ae hd he).fAnswer).fValue)),Am ((Ae hd he).fFrom),Am ((Ae hd he).fTo)] 44,.blk hg [Am hj,rv (.map (some hb)),rv (.map (some ha))] 68,.map hb (A1 (mP hb) hk),.map ha (A1 (mP ha) hl),.poolw hb ho 87 88 1 (Au (Ad ha) hh) none,.pool ha hp 44 (Au Af hi)]) Aa (A4 (A2 (Ap (vF E6 Aa C7 (vL 0 Ei Aa (wv (E8 Aa Aa) (A4 (cz gN Aa (λgO gP=>?_) (λgO gQ=>?_)))))))))
      ·exact Ap (wa Aa (A4 (BL (AE (Bv (AO (AY ((hD,true),()) gP (AZ.c Aa (AZ.c Aa (AZ.c5 Aa Aa Aa Aa Aa AZ.nil))) (sS (sC (sC (sC (sC (sC sN)))))))))))))
      ·refine AD (Be (Ap (wm Aa (vF E6 Aa D5 (wv (Bf (i:=0) Ii D5 Aa Aa Aa Aa) (ob gQ λhm gR gS=>DI Tryz.call11 (Tu F hD ((Ae hd he).fOp) hm gR) Aa (wm Aa (wv (AN Aa Aa) (wv (AN Aa Aa) (wv (AN Aa Aa) (BM (cs:=[Am 0,rv (.slice none 0 0)]) IO Aa Aa (λhE=>?_))))))))))));refine wa Aa (AG (i:=0) BA Aa Aa Aa (Bh.c Aa) Aa Aa (cs':=[Am hm.2.1.fErr,AL 4 (Au Ac hm.2.1.fValue)]) Aa (H':=[.blk hE (A0 hm.2.1) 31,.blk hB [rS (((Ae hd he).fOp).fEntity),rS (((Ae hd he).fOp).fID),rS (((Ae hd he).fOp).fOp),AL 1 (Au An (((Ae hd he).fOp).fArgs)),Am (((Ae hd he).fAnswer).fErr),AL 4 (Au Ac (((Ae hd he).fAnswer).fValue)),Am ((Ae hd he).fFrom),Am ((Ae hd he).fTo)] 44,.blk hg [Am hj,rv (.map (some hb)),rv (.map (some ha))] 68,.map hb (A1 (mP hb) hk),.map ha (A1 (mP ha) hl),.poolw hb ho 87 88 1 (Au (Ad ha) hh) none,.pool ha hp 44 (Au Af hi)]) Aa (wa Aa (A4 (A2 (ck gS λgT gU=>AW [(1,rS name),(5,rP hg 0),(8,rB h1),(10,rP hB 0),(11,AL 4 (Au Ac hm.1)),(12,rP hE 0),(67,AL 8 (Au Af hd)),(68,Am (hd.length:Int)),(69,Am he),(109,rB (h1||((!decide (hm.2.2=0))||((!(ov (Cm F hm.2.1 ((Ae hd he).fAnswer))))||((decide (((Ae hd he).fTo)<((Ae hd he).fFrom)))||(!decide ((((Ae hd he).fOp).fEntity)=name)))))))] [.blk hE (A0 hm.2.1) 31,.blk hB [rS (((Ae hd he).fOp).fEntity),rS (((Ae hd he).fOp).fID),rS (((Ae hd he).fOp).fOp),AL 1 (Au An (((Ae hd he).fOp).fArgs)),Am (((Ae hd he).fAnswer).fErr),AL 4 (Au Ac (((Ae hd he).fAnswer).fValue)),Am ((Ae hd he).fFrom),Am ((Ae hd he).fTo)] 44,.blk hg [Am hj,rv (.map (some hb)),rv (.map (some ha))] 68,.map hb (A1 (mP hb) hk),.map ha (A1 (mP ha) hl),.poolw hb ho 87 88 1 (Au (Ad ha) hh) none,.pool ha hp 44 (Au Af hi)] ?_ ?_)))))
       ·refine AB (wm Aa (wm Aa (Bb (h1) (λht=>?_) (λht=>?_))))
        ·refine wf ht (wf ht (wv (r:=rB true) (A6 Aa ht Aa) (wm Aa (wz Aa Aa (wz Aa Aa (wz Aa Aa (wz Aa Aa (wz Aa Aa (wv (r:=rB true) (A6 (b:=true) Aa Aa Aa) (wm Aa (wz Aa Aa (wz Aa Aa (wz Aa Aa (wz Aa Aa (wz Aa Aa (wv (r:=rB true) (A6 (b:=true) Aa Aa Aa) (wm Aa (wz Aa Aa (wz Aa Aa (wz Aa Aa (wz Aa Aa (wz Aa Aa (wv (r:=rB true) (A6 (b:=true) Aa Aa Aa) ?_)))))))))))))))))))))));refine A5 ?_;exact Dc ht
        ·refine wo ht (wm Aa (wo ht (wv (Ey Aa Aa) (Ju Aa ht Aa (wm Aa (Bb (!decide (hm.2.2=0)) (λhn=>?_) (λhn=>?_)))))))
         ·refine wf hn (wf hn (wf hn (wf hn (wf hn (wv (r:=rB true) (A6 Aa hn Aa) (wm Aa (wz Aa Aa (wz Aa Aa (wz Aa Aa (wz Aa Aa (wz Aa Aa (wv (r:=rB true) (A6 (b:=true) Aa Aa Aa) (wm Aa (wz Aa Aa (wz Aa Aa (wz Aa Aa (wz Aa Aa (wz Aa Aa (wv (r:=rB true) (A6 (b:=true) Aa Aa Aa) (A5 ?_))))))))))))))))))));exact Dc (And.intro ht hn)
         ·refine wo hn (wv (Bf (i:=0) Dx BA Aa Aa Aa Aa) (wo hn (vF E6 Aa BA (wo hn (wv (Bf (i:=1) Dx BA Aa Aa Aa Aa) (wo hn (DI Tryz.call14 (K3 F hm.2.1 ((Ae hd he).fAnswer) (ov (Cm F hm.2.1 ((Ae hd he).fAnswer))) (Oi (K8 (K8 gT ht) hn))) Aa (wo hn (wv (Cd Aa) (Ju Aa hn Aa (wm Aa (Bb (!(ov (Cm F hm.2.1 ((Ae hd he).fAnswer)))) (λhq=>?_) (λhq=>?_)))))))))))))
          ·refine wf hq (wf hq (wf hq (wf hq (wf hq (wv (r:=rB true) (A6 Aa hq Aa) (wm Aa (wz Aa Aa (wz Aa Aa (wz Aa Aa (wz Aa Aa (wz Aa Aa (wv (r:=rB true) (A6 (b:=true) Aa Aa Aa) (A5 ?_)))))))))))));exact Dc (And.intro ht (And.intro hn hq))
          ·refine wo hq (vF E6 Aa C7 (wo hq (vL 1 Ei Aa (wo hq (vF E6 Aa C7 (wo hq (vL 1 Ei Aa (wo hq (wv (Ez Aa Aa) (Ju Aa hq Aa (wm Aa (Bb (decide (((Ae hd he).fTo)<((Ae hd he).fFrom))) (λhr=>?_) (λhr=>?_)))))))))))))
           ·refine wf hr (wf hr (wf hr (wf hr (wf hr (wv (r:=rB true) (A6 Aa hr Aa) (A5 ?_))))));exact Dc (And.intro ht (And.intro hn (And.intro hq hr)))
           ·refine wo hr (vF E6 Aa D5 (wo hr (vF Cs Aa Eh (wo hr (vL 1 EI Aa (wo hr (wm Aa (wo hr (wv (Ru Aa Aa) (Ju Aa hr Aa (A5 ?_)))))))))));exact Dc (And.intro ht (And.intro hn (And.intro hq hr)))
       refine cz gU Aa (λgV gW=>?_) (λgV gX=>?_)
       ·refine Ap (wa Aa (A4 (A8 (Al (AM (Al (Al (B0 ?_))))))));have gY:=Cj gW hL hW;refine AM (Al ?_);obtain rfl:=A9 gY;exact A7 (Ci Uw (AV Aa)) (sS (sS (sS (sS (sS (sS (sS sN))))))) ⟨Aa,Aa⟩
       ·refine AD (Be (Ap (wm Aa (vF E6 Aa D5 (vF Cs Aa Eh (vL 1 EI Aa (ob gX λhu gZ ca=>JY (Hr:=[.blk hE (A0 hm.2.1) 31,.blk hB [rS (((Ae hd he).fOp).fEntity),rS (((Ae hd he).fOp).fID),rS (((Ae hd he).fOp).fOp),AL 1 (Au An (((Ae hd he).fOp).fArgs)),Am (((Ae hd he).fAnswer).fErr),AL 4 (Au Ac (((Ae hd he).fAnswer).fValue)),Am ((Ae hd he).fFrom),Am ((Ae hd he).fTo)] 44]) Tryz.call28 (Qg F hg hb ha ho hp (Aq.mk hj hk hl) hh hi (((Ae hd he).fOp).fID) hu gZ) Aa ((Aj (i:=2) Aa).trans (US _ ((Aj (i:=2) Aa).trans (US _ ((Aj (i:=2) Aa).trans (US _ ((Aj (i:=2) Aa).trans (US _ ((Aj (i:=2) Aa).trans (US _ (UY _))))))))))) Aa ?_)))))));rintro _ _ ⟨rfl,rfl⟩;refine wm Aa (wv (AN Aa Aa) (wv (AN Aa Aa) (BM (cs:=[Am 0,rv (.slice none 0 0)]) IO Aa Aa (λcb=>?_))));refine AG (i:=0) BA Aa Aa Aa (Bh.c Aa) Aa Aa (cs':=[Am hu.1.fErr,AL 4 (Au Ac hu.1.fValue)]) Aa (H':=[.blk cb (A0 hu.1) 31,.blk hg [Am hj,rv (.map (some hb)),rv (.map (some ha))] 68,.map hb (A1 (mP hb) hk),.map ha (A1 (mP ha) hl),.poolw hb ho 87 88 1 (Au (Ad ha) hh) none,.pool ha hp 44 (Au Af hi),.blk hE (A0 hm.2.1) 31,.blk hB [rS (((Ae hd he).fOp).fEntity),rS (((Ae hd he).fOp).fID),rS (((Ae hd he).fOp).fOp),AL 1 (Au An (((Ae hd he).fOp).fArgs)),Am (((Ae hd he).fAnswer).fErr),AL 4 (Au Ac (((Ae hd he).fAnswer).fValue)),Am ((Ae hd he).fFrom),Am ((Ae hd he).fTo)] 44]) Aa (wa Aa (A4 (A2 (ck ca λcc cd=>AW [(1,rS name),(5,rP hg 0),(8,rB h1),(11,AL 4 (Au Ac hm.1)),(67,AL 8 (Au Af hd)),(68,Am (hd.length:Int)),(69,Am he),(125,rB ((!hu.2)||(!(ov (Cm F hm.2.1 hu.1)))))] [.blk hg [Am hj,rv (.map (some hb)),rv (.map (some ha))] 68,.map hb (A1 (mP hb) hk),.map ha (A1 (mP ha) hl),.poolw hb ho 87 88 1 (Au (Ad ha) hh) none,.pool ha hp 44 (Au Af hi)] ?_ ?_))))
        ·refine AB (wm Aa (wv (Cd Aa) (wm Aa (Bb (!hu.2) (λhs=>?_) (λhs=>?_)))))
         ·refine wf hs (wf hs (wf hs (wf hs (wv (r:=rB true) (A6 Aa hs Aa) (A5 ?_)))));exact Dc hs
         ·refine wo hs (wv (Bf (i:=6) Dx BA Aa Aa Aa Aa) (wo hs (wv (Bf (i:=0) Dx BA Aa Aa Aa Aa) (wo hs (DI Tryz.call14 (K3 F hm.2.1 hu.1 (ov (Cm F hm.2.1 hu.1)) (Oi (K8 cc hs))) Aa (wo hs (wv (Cd Aa) (Ju Aa hs Aa (A5 ?_)))))))));exact Dc hs
        refine cz cd Aa (λce cf=>?_) (λce cg=>?_)
        ·refine Ap (wa Aa (A4 (A8 (Al (AM (Al (Al (B0 ?_))))))));have ch:=Cj cf hL hW;refine AM (Al ?_);obtain rfl:=A9 ch;exact A7 (Ci Uw (AV Aa)) (sS (sS (sS (sS (sS sN))))) ⟨Aa,Aa⟩
        ·exact AD (Be (AB (wm Aa (wa Aa (A5 (Bi (AO (AY ((hm.1,h1),()) cg (AZ.c Aa (AZ.c Aa (AZ.c5 Aa Aa Aa Aa Aa AZ.nil))) (sC (sC (sC (sC (sC sN)))))))))))))
     ·rintro⟨⟨hY,hZ⟩,⟨⟩⟩ hN;refine C4 (l':=[(1,rS name),(5,rP hg 0),(7,AL 4 (Au Ac hY)),(8,rB hZ),(67,AL 8 (Au Af hd)),(68,Am (hd.length:Int)),(69,Am he)]) (H':=[.blk hg [Am hj,rv (.map (some hb)),rv (.map (some ha))] 68,.map hb (A1 (mP hb) hk),.map ha (A1 (mP ha) hl),.poolw hb ho 87 88 1 (Au (Ad ha) hh) none,.pool ha hp 44 (Au Af hi)]) Aa Aa ?_;replace hN:CJ he hY hZ=some hX:=hN;unfold CJ at hN;refine AB (ck hN λci cj=>wv (Cz Aa Aa ci) (wm Aa (A5 ?_)));have cl:=BQ cj hL;exact AO (AY (gI,(hY,hZ,he+1),()) ⟨cl,Vn _⟩ (AZ.c Aa (AZ.c Aa (AZ.c5 Aa Aa Aa Aa Aa AZ.nil))) (sC (sC (sC (sC (sC sN))))))
    ·refine BL (AE ?_);have cm:=CB gL hL hW;exact AE (B1 (AY (hD,()) cm (AZ.c Aa (AZ.c Aa (AZ.c Aa AZ.nil))) (sC (sC (sC (sC (sC sN)))))))
   ·rintro⟨ga,⟨⟩⟩ hO;refine DK (l':=[(1,rS name),(5,rP hg 0),(7,AL 4 (Au Ac ga))]) (H':=[.blk hg [Am hj,rv (.map (some hb)),rv (.map (some ha))] 68,.map hb (A1 (mP hb) hk),.map ha (A1 (mP ha) hl),.poolw hb ho 87 88 1 (Au (Ad ha) hh) none,.pool ha hp 44 (Au Af hi)]) Aa Aa ?_;replace hO:DS F name hj hk hl hh hi ga=some r:=hO;unfold DS at hO;refine Bv (Be (Dd (S:=(Bool)×(Unit)) (λσ=>Dt σ.1=some r) (λσ=>[(4,rB σ.1)]) (λσ=>[.poolw hb ho 87 88 1 (Au (Ad ha) hh) none,.pool ha hp 44 (Au Af hi)]) ?_ ?_))
    ·refine AB (wm Aa (wm Aa (ob hO λge cn co=>JY (Hr:=[]) Tryz.call19 (Nn hg hb ha ho hp (Aq.mk hj hk hl) hh hi name ge cn) Aa (UY _) Aa ?_)));rintro _ _ ⟨rfl,rfl⟩;refine wm Aa (ob co λcp cq cr=>DI Tryz.call13 (OS F ge ga cp cq) Aa (wm Aa (bz cr (λhG ct=>?_) (λhG cu=>?_))))
     ·exact wo hG (ob ct λgf cv cw=>DI Tryz.call10 (K2 F gf cv) Aa (Ij Aa hG Aa (wa Aa (A5 (AO (AY (gf,()) cw (AZ.c Aa AZ.nil) (sS (sS (sS (sC (sC sN)))))))))))
     ·exact wf hG (wv (r:=rB false) (AP Aa hG Aa) (wa Aa (A5 (AO (AY (false,()) cu (AZ.c Aa AZ.nil) (sS (sS (sS (sC (sC sN))))))))))
    ·rintro⟨gg,⟨⟩⟩ hP;refine C4 (l':=[(4,rB gg)]) (H':=[.poolw hb ho 87 88 1 (Au (Ad ha) hh) none,.pool ha hp 44 (Au Af hi)]) Aa Aa ?_;replace hP:Dt gg=some r:=hP;unfold Dt at hP;refine A8 ?_;obtain rfl:=A9 hP;exact A7 (Ci Uw (AV Aa)) (sS (sS sN)) ⟨Aa,Aa⟩
end Go.Proofs.YtfbmdidnlhifjaaGreatDoor.Q
namespace Go.Proofs.YtfbmdidnlhifjaaGreatDoor.lawEntitySerializes
open Go
set_option linter.unusedVariables false
def Rs (y:Ab):Bool:=(BB .i64) y.fKind&&(BB .i64) y.fInt&&Sk y.fStr&&(BB .i64) y.fN
def SF (y:Ar):Bool:=Sk y.fEntity&&Sk y.fID&&Sk y.fOp&&(λys:(List (List Ab))=>ys.all (λys:(List Ab)=>ys.all Rs&&decide (ys.length≤9223372036854775807))&&decide (ys.length≤9223372036854775807)) y.fArgs
def Ok (y:Bd):Bool:=(BB .i64) y.fKind&&SF y.fOp&&(BB .i64) y.fNow
def UP:Prop:=∀(y0:(List Bd)) (y1:Ak) (o0:(λys:(List Bd)=>ys.all Ok&&decide (ys.length≤9223372036854775807)) y0=true) (o1:Sk y1=true),∃F,GU F y0 y1=some true
end Go.Proofs.YtfbmdidnlhifjaaGreatDoor.lawEntitySerializes
namespace Go.Proofs.YtfbmdidnlhifjaaGreatDoor
open Go
set_option linter.unusedVariables false
set_option linter.unusedSimpArgs false
def Sj (c:UInt8):Bool:=decide (32≤c.toNat)&&decide (c.toNat≤126)
theorem Mx {s:Ak}{x:Int}{c:UInt8}(h:s[x.toNat]? =some c):KO s x=(c.toNat:Int):=by simp[KO,h]
theorem KS {α:Type}{p:α→Bool}{s:List α}{k:Nat}{c:α}(h:s[k]? =some c):(s.take (k+1)).all p=((s.take k).all p&&p c):=by
 rw[List.take_add_one,h];simp
theorem Mz {α:Type}{p:α→Bool}{s:List α}{k:Nat}{c:α}(h:s[k]? =some c)(hp:p c=false):s.all p=false:=by
 rw[List.all_eq_false];exact⟨c,Vb h,by simp[hp]⟩
theorem MG {F:Nat}{s:Ak}(hF:s.length<F)(hs:s.length≤9223372036854775807):Il F s=some (s.all Sj):=by
 obtain⟨o,h1,h2⟩:=DJ (body:=λσ=>EU s σ) (λx=>0≤x∧x≤(s.length:Int)∧(s.take x.toNat).all Sj=true) (λx=>s.length-x.toNat)
  (λo=>B9 (λ_=>ET) o=some (s.all Sj)) (λx ⟨h0,hl,ha⟩=>by
   unfold EU
   by_cases hx:x<(s.length:Int)
   ·obtain⟨c,hc⟩:∃c,s[x.toNat]? =some c:=⟨s[x.toNat]'(by omega),UW (by omega)⟩
    rw[Az (by simpa using hx),AH h0 hx,Mx hc]
    cases ho:Sj c with
    | false=>
     refine .inr ⟨.ret false,?_,?_⟩
     ·rw[Az];simp only[Sj,Bool.and_eq_false_iff,UV] at ho;simp only[V7,UU];omega
     ·simp[B9,Mz hc ho]
    | true=>
     refine .inl ⟨x+1,?_,⟨by omega,by omega,?_⟩,by omega⟩
     ·rw[Ao,AA (by omega) (by omega)];simp only[Sj,UX,UU] at ho;simp only[Vy,UV];omega
     ·rw[show(x+1).toNat=x.toNat+1 from by omega,KS hc,ha,ho];rfl
   ·refine .inr ⟨.go (),by rw[Ao (by simpa using hx)],?_⟩;rw[show x.toNat=s.length from by omega,List.take_length] at ha;simp[B9,ET,ha]) F 0 ⟨by omega,by omega,by simp⟩ (by simpa using hF)
 unfold Il;rw[AF h1,h2]
theorem LX (F:Nat)(s:Ak):LY F s=Il F s:=rfl
theorem PQ {F:Nat}{s:Ak}(hF:s.length<F)(hs:s.length≤9223372036854775807):LY F s=some (s.all Sj):=by rw[LX];exact MG hF hs
def pl (c:Ab):Bool:=
 bif decide (c.fKind=1) then(decide (c.fInt=0)&&(decide (c.fStr=[])&&decide (c.fN=0))) else
 bif decide (c.fKind=2) then((decide (c.fInt=0)||decide (c.fInt=1))&&(decide (c.fStr=[])&&decide (c.fN=0))) else
 bif decide (c.fKind=3) then(decide (c.fStr=[])&&decide (c.fN=0)) else
 bif decide (c.fKind=4) then(decide (c.fInt=0)&&(decide (c.fN=0)&&c.fStr.all Sj)) else
 bif decide (c.fKind=5) then(decide (c.fInt=0)&&(decide (c.fStr=[])&&decide (0≤c.fN))) else
 bif decide (c.fKind=6) then(decide (c.fInt=0)&&(decide (c.fStr=[])&&decide (0≤c.fN))) else false
theorem CZ {α:Type}{p:Bool}{x y:Option α}{a b:α}(h:x=some a)(h':y=some b):Bg p x y=some (bif p then a else b):=by cases p<;>simp[Bg,h,h']
theorem PG {F:Nat}{c:Ab}(hF:c.fStr.length<F)(hs:c.fStr.length≤9223372036854775807):Kb F c=some (pl c):=by
 unfold Kb pl;rw[MG hF hs];refine CZ rfl (CZ ?_ (CZ rfl (CZ ?_ (CZ rfl (CZ rfl rfl)))))
 ·cases h:decide (c.fInt=0)<;>simp
 ·simp[imp,Ba,ov]
def J6:List At→List At
 | []=>[]
 | e::S=>bif decide (1<e.fLeft) then⟨e.fPairs,e.fLeft-1,e.fPairs,e.fLast,e.fStarted⟩::S else J6 S
theorem JT {α:Type}[Inhabited α](xs:List α)(e:α):Ae (xs++[e]) (xs.length:Int)=e:=by simp[Ae]
theorem Is {α:Type}(xs:List α)(e e':α):List.set (xs++[e]) (Int.toNat (xs.length:Int)) e'=xs++[e']:=by simp
theorem IB {α:Type}(xs:List α)(e:α):((xs++[e]).length:Int)-1=(xs.length:Int):=by simp
theorem PJ {α:Type}(xs:List α)(e:α):List.take (Int.toNat (xs.length:Int)) (xs++[e])=xs:=by simp
theorem Jx:∀(S:List At) (F:Nat),S.length<F→(∀e∈S,1≤e.fLeft∧e.fLeft≤9223372036854775807)→S.length≤4611686018427387904→
  ∃o,BD (λσ=>C9 σ) F S.reverse=some o∧B9 (λν=>De ν) o=some (J6 S).reverse
 | [],F+1,_,_,_=>⟨.go [],by simp[BD,C9,Bg],by simp[B9,De,J6]⟩
 | e::S,F+1,hF,hb,hl=>by
  obtain⟨h1,h2⟩:=hb e (by simp);simp only[UZ] at hF hl;have hx:S.reverse.length=S.length:=by simp
  generalize hxs:S.reverse=xs at hx;have hr:(e::S).reverse=xs++[e]:=by simp[hxs]
  rw[hr];have hb1:C9 (xs++[e])=bif decide (1<e.fLeft) then some (.out (.ret (xs++[⟨e.fPairs,e.fLeft-1,e.fPairs,e.fLast,e.fStarted⟩]))) else some (.next xs):=by
   unfold C9;rw[Az (by simp)];simp only[IB,JT,Is,NI];rw[AA (by omega) (by omega),AH (by omega) (by simp;omega),AA (by omega) (by omega)]
   cases hd:decide (1<e.fLeft) with
   | true=>
    rw[Az (by simp at hd ⊢;omega)];rfl
   | false=>
    rw[Ao (by simp at hd ⊢;omega),AA (by omega) (by omega),Gy (by omega) (by simp;omega),PJ];rfl
  rw[BD,hb1]
  cases hd:decide (1<e.fLeft) with
  | true=>exact⟨_,rfl,by simp[B9,De,J6,hd,hxs]⟩
  | false=>
   obtain⟨o,ho1,ho2⟩:=Jx S F (by omega) (λe he=>hb e (by simp[he])) (by omega);rw[hxs] at ho1;exact⟨o,ho1,by rw[ho2];simp[J6,hd]⟩
theorem Kc {S:List At}{F:Nat}(hF:S.length<F)(hb:∀e∈S,1≤e.fLeft∧e.fLeft≤9223372036854775807)(hl:S.length≤4611686018427387904):Io F S.reverse=some (J6 S).reverse:=by
 obtain⟨o,h1,h2⟩:=Jx S F hF hb hl;unfold Io;rw[AF h1,h2]
def IY (s:Ak):Int:=s.length+2+s.count 34+s.count 92
theorem Ka {s:Ak}(hs:s.length≤1152921504606846976):Hh s=some (IY s):=by
 have h1:s.count 34≤s.length:=List.count_le_length;have h2:s.count 92≤s.length:=List.count_le_length;unfold Hh Lib.countByte;rw[AA (by omega) (by omega),AA (by omega) (by omega),AA (by omega) (by omega)];rfl
def T5 (c:Ab):Int:=
 bif decide (c.fKind=1) then 4 else bif decide (c.fKind=2) then IntKind.wrap .i64 (5-c.fInt) else bif decide (c.fKind=3) then((Lib.itoa c.fInt).length:Int) else
 bif decide (c.fKind=4) then IY c.fStr else IntKind.wrap .i64 (2+max 0 (IntKind.wrap .i64 (c.fN-1)))
theorem MH {c:Ab}(hs:c.fStr.length≤1152921504606846976)(hi:BB .i64 c.fInt=true):MI c=some (T5 c):=by
 unfold MI T5;rw[Ka hs];refine CZ rfl (CZ rfl (CZ ?_ (CZ rfl rfl)));rw[Bx hi]
def GA (d:Nat)(sh:A3)(c:Ab):A3:=
 ⟨max sh.fDepth ((d:Int)+1),IntKind.wrap .i64 (sh.fBytes+T5 c),sh.fOutside||(decide (c.fKind=3)&&!(decide ((-1000000000000)≤c.fInt)&&decide (c.fInt≤1000000000000))),sh.fLong||decide (200<(c.fStr.length:Int))⟩
def TZ (sh:A3)(c:Ab):A3:=⟨sh.fDepth,IntKind.wrap .i64 (sh.fBytes+(IY c.fStr+1)),sh.fOutside,sh.fLong||decide (200<(c.fStr.length:Int))⟩
def Jl:List At→Bool
 | []=>false
 | e::_=>e.fKey
abbrev M6:=List At×Int×A3
abbrev Tz:=Out (Int×A3×Bool) A3
def NM (n:Int)(S:List At)(i:Int)(sh:A3)(c:Ab):Stp M6 Tz:=
 bif !pl c then .out (.ret (0,sh,false)) else
 match S with
 | e::S'=>
  bif e.fKey then
   bif !decide (c.fKind=4)||(e.fStarted&&(BE c.fStr e.fLast||decide (c.fStr=e.fLast))) then .out (.ret (0,sh,false))
   else .next ((⟨e.fPairs,e.fLeft,false,c.fStr,true⟩::S').reverse,i+1,TZ sh c)
  else bif decide (0<c.fN) then
   bif decide (n<c.fN) then .out (.ret (0,GA S.length sh c,false))
   else .next ((⟨decide (c.fKind=6),c.fN,decide (c.fKind=6),[],false⟩::S).reverse,i+1,GA S.length sh c)
  else bif decide (J6 S=[]) then .out (.ret (i+1,GA S.length sh c,true)) else .next ((J6 S).reverse,i+1,GA S.length sh c)
 | []=>
  bif decide (0<c.fN) then
   bif decide (n<c.fN) then .out (.ret (0,GA 0 sh c,false))
   else .next ([⟨decide (c.fKind=6),c.fN,decide (c.fKind=6),[],false⟩],i+1,GA 0 sh c)
  else .out (.ret (i+1,GA 0 sh c,true))
theorem KH {S:List At}:decide (((J6 S).reverse.length:Int)=0)=decide (J6 S=[]):=by
 rw[Vl];simp
theorem Uj {α:Type}{xs:List α}{e x:α}{M:Nat}(h:xs.length+1≤M)(hM2:(M+2)*48≤140737488355328):Lb 48 ((xs++[e]).length+([x]:List α).length)=true:=by
 refine UT (Nat.le_trans (Nat.mul_le_mul_right 48 ?_) hM2);rw[Vd,V2,V2];omega
set_option maxHeartbeats 600000 in
theorem MJ {F:Nat}{v:List Ab}{S:List At}{i:Int}{sh:A3}{c:Ab}(h0:0≤i)(hc:v[i.toNat]? =some c){M:Nat}(hM:M≤1152921504606846976)(hM2:(M+2)*48≤140737488355328)(hv:v.length≤M)(hS:S.length≤M)(hF:M<F)
  (hs:c.fStr.length≤M) (hi:BB .i64 c.fInt=true) (hb:∀e∈S,1≤e.fLeft∧e.fLeft≤9223372036854775807):C8 F v S.reverse i sh=some (NM v.length S i sh c):=by
 have hil:i.toNat<v.length:=(List.getElem?_eq_some_iff.1 hc).1;have hat:Ae v i=c:=by simp[Ae,hc]
 unfold C8 NM;rw[Az (by simp;omega),AH h0 (by omega),hat,PG (by omega) (by omega),AF rfl]
 cases hp:pl c with
 | false=>rw[Az (by simp)];rfl
 | true=>
  rw[Ao (by simp)]
  cases S with
  | nil=>
   rw[Bx (by simp[imp]),Bx (by simp[imp]),Ao (by simp),AA (by simp) (by simp),MH (by omega) hi,AF rfl,Bx (by simp[imp,Bj])];simp only[Bj,ov,Vr,Vk,Va]
   cases hn:decide (0<c.fN) with
   | true=>
    rw[Az rfl]
    cases hm:decide ((v.length:Int)<c.fN) with
    | true=>rw[Az rfl];simp[GA]
    | false=>rw[Ao rfl,Bx (by simp[Lb])];unfold CY;rw[AA (by omega) (by omega)];simp[GA]
   | false=>
    rw[Ao rfl,AF (Kc (S:=[]) (by simp;omega) (by simp) (by simp)),Az (by simp[J6]),AA (by omega) (by omega)];simp[GA]
  | cons e S'=>
   have hx:S'.reverse.length=S'.length:=by simp
   generalize hxs:S'.reverse=xs at hx;have hr:(e::S').reverse=xs++[e]:=by simp[hxs]
   simp only[UZ] at hS;have hlen:((xs++[e]).length:Int)=(xs.length:Int)+1:=by simp
   rw[hr,Bx (by simp only[imp,IB];rw[ID (by omega) (by omega)];simp),Bx (by simp only[imp,IB];rw[La (by omega) (by omega)];simp)];rw[IB,JT]
   cases hk:e.fKey with
   | true=>
    rw[Az (by simp),AA (by omega) (by omega),AH (by omega) (by omega)];simp only[hk,Vk,Va,Vf]
    cases ht : !decide (c.fKind=4)||(e.fStarted&&(BE c.fStr e.fLast||decide (c.fStr=e.fLast))) with
    | true=>rw[Az rfl];rfl
    | false=>
     rw[Ao rfl,Is,NI,JT,Is,NI,JT,Is,NI,Ka (by omega),AF rfl,AA (by unfold IY;omega) (by unfold IY;have:=@List.count_le_length UInt8 _ 34 c.fStr;have:=@List.count_le_length UInt8 _ 92 c.fStr;omega)];unfold CY;rw[AA (by omega) (by omega)];simp[TZ,hxs]
   | false=>
    rw[Ao (by simp),hlen,AA (by omega) (by omega),MH (by omega) hi,AF rfl,Bx (by simp[imp,Bj])];simp only[hk,Bj,ov,Vr,Vk,Va,Vf]
    cases hn:decide (0<c.fN) with
    | true=>
     rw[Az rfl]
     cases hm:decide ((v.length:Int)<c.fN) with
     | true=>rw[Az rfl];simp[GA,hx]
     | false=>rw[Ao rfl,Bx (Uj (by omega) hM2)];unfold CY;rw[AA (by omega) (by omega)];simp[GA,hx,hxs]
    | false=>
     have hcl:=Kc (S:=e::S') (F:=F) (by simp;omega) hb (by simp;omega);rw[hr] at hcl;rw[Ao rfl,hcl,AF rfl,KH]
     cases hq:decide (J6 (e::S')=[]) with
     | true=>rw[Az rfl,AA (by omega) (by omega)];simp[GA,hx]
     | false=>rw[Ao rfl];unfold CY;rw[AA (by omega) (by omega)];simp[GA,hx]
section
variable {S O : Type} {body : S → Option (Stp S O)} {s t u : S} {o : O}
def Da (body:S→Option (Stp S O))(s t:S):Prop:=∃k,∀n,BD body (n+k) s=BD body n t
def Fin (body:S→Option (Stp S O))(s:S)(o:O):Prop:=∃k,∀n,BD body (n+k) s=some o
theorem Da.refl (s:S):Da body s s:=⟨0,λ_=>rfl⟩
theorem Da.trans (h:Da body s t)(h':Da body t u):Da body s u:=by
 obtain⟨k,hk⟩:=h;obtain⟨j,hj⟩:=h';exact⟨j+k,λn=>by rw[← Nat.add_assoc,hk,hj]⟩
theorem Da.step (h:body s=some (.next t)):Da body s t:=⟨1,λn=>by rw[BD,h]⟩
theorem Fin.step (h:body s=some (.out o)):Fin body s o:=⟨1,λn=>by rw[BD,h]⟩
theorem Da.fin (h:Da body s t)(h':Fin body t o):Fin body s o:=by
 obtain⟨k,hk⟩:=h;obtain⟨j,hj⟩:=h';exact⟨j+k,λn=>by rw[← Nat.add_assoc,hk,hj]⟩
end
inductive Fo where
 | nil
 | cell (k:Option Ak) (c:Ab) (r:Fo)
 | node (k:Option Ak) (c:Ab) (kids r:Fo)
def Bu:Option Ak→List Ab
 | none=>[]
 | some s=>[⟨4,0,s,0⟩]
def Fo.flat:Fo→List Ab
 | .nil=>[]
 | .cell k c r=>Bu k++c::r.flat
 | .node k c kids r=>Bu k++c::(kids.flat++r.flat)
def Fo.cnt:Fo→Nat
 | .nil=>0
 | .cell _ _ r=>r.cnt+1
 | .node _ _ _ r=>r.cnt+1
def BW (m:Bool)(last:Option Ak):Option Ak→Bool
 | none=>!m
 | some s=>m&&s.all Sj&&(match last with
  | none=>true
  | some p=>!(BE s p||decide (s=p)))
def Fo.wf:Bool→Option Ak→Fo→Bool
 | _,_,.nil=>true
 | m,last,.cell k c r=>BW m last k&&pl c&&!decide (0<c.fN)&&r.wf m k
 | m,last,.node k c kids r=>BW m last k&&pl c&&decide (0<c.fN)&&decide (c.fN=kids.cnt)&&kids.wf (decide (c.fKind=6)) none&&r.wf m k
def Jy (k:Option Ak)(sh:A3):A3:=match k with
 | none=>sh
 | some s=>TZ sh ⟨4,0,s,0⟩
def Fo.sh (d:Nat):A3→Fo→A3
 | s,.nil=>s
 | s,.cell k c r=>r.sh d (GA d (Jy k s) c)
 | s,.node k c kids r=>r.sh d (kids.sh (d+1) (GA d (Jy k s) c))
def EP (body:M6→Option (Stp M6 Tz))(s:M6)(S:List At)(i:Int)(sh:A3):Prop:=
 if J6 S=[] then Fin body s (.ret (i,sh,true)) else Da body s ((J6 S).reverse,i,sh)
theorem EP.of {body:M6→Option (Stp M6 Tz)}{s t:M6}{S:List At}{i:Int}{sh:A3}(h:Da body s t)(h':EP body t S i sh):EP body s S i sh:=by
 unfold EP at *
 split
 ·rename_i e;rw[Vi e] at h';exact h.fin h'
 ·rename_i e;rw[Ve e] at h';exact h.trans h'
theorem EP.pop {body:M6→Option (Stp M6 Tz)}{s:M6}{e:At}{S:List At}{i:Int}{sh:A3}(h:EP body s (e::S) i sh)(h1:e.fLeft=1):EP body s S i sh:=by
 have:J6 (e::S)=J6 S:=by simp[J6,h1]
 unfold EP at *;rw[this] at h;exact h
theorem EP.more {body:M6→Option (Stp M6 Tz)}{s:M6}{e:At}{S:List At}{i:Int}{sh:A3}(h:EP body s (e::S) i sh)(h1:1<e.fLeft):Da body s ((⟨e.fPairs,e.fLeft-1,e.fPairs,e.fLast,e.fStarted⟩::S).reverse,i,sh):=by
 have:J6 (e::S)=⟨e.fPairs,e.fLeft-1,e.fPairs,e.fLast,e.fStarted⟩::S:=by simp[J6,h1]
 unfold EP at *;rw[this,Ve (by simp)] at h;exact h
structure P7 (F M:Nat) (v:List Ab):Prop where
 hM:M≤1152921504606846976
 hM2:(M+2)*48≤140737488355328
 hv:v.length≤M
 hF:M<F
 hc:∀c∈v,c.fStr.length≤M∧BB .i64 c.fInt=true∧c.fN≤9223372036854775807
abbrev Nx (F:Nat)(v:List Ab):M6→Option (Stp M6 Tz):=λσ=>C8 F v σ.1 σ.2.1 σ.2.2
def CI (S:List At):Prop:=∀e∈S,1≤e.fLeft∧e.fLeft≤9223372036854775807
section
variable {F M : Nat} {v : List Ab} {S : List At} {i : Int} {sh : A3} {c : Ab} {r : List Ab} {e : At}
theorem B8 (h0:0≤i)(h:v.drop i.toNat=c::r):v[i.toNat]? =some c∧v.drop (i+1).toNat=r∧i<v.length:=by
 have h1:(v.drop i.toNat)[0]? =some c:=by rw[h];rfl
 have h2:v[i.toNat]? =some c:=by simpa using h1
 have h3:=(List.getElem?_eq_some_iff.1 h2).1;refine⟨h2,?_,by omega⟩;rw[show(i+1).toNat=i.toNat+1 from by omega,← List.drop_drop,h];rfl
theorem round (hA:P7 F M v)(h0:0≤i)(h:v.drop i.toNat=c::r)(hS:(S.length:Int)≤i)(hb:CI S):Nx F v (S.reverse,i,sh)=some (NM v.length S i sh c):=by
 obtain⟨h1,_,h3⟩:=B8 h0 h;obtain⟨a,b,_⟩:=hA.hc c (Vb h1);have:=hA.hv;exact MJ h0 h1 hA.hM hA.hM2 hA.hv (by omega) hA.hF a b hb
def Ec (e:At):Option Ak→At
 | none=>e
 | some s=>⟨e.fPairs,e.fLeft,false,s,true⟩
def GT (e:At):Option Ak→Prop
 | none=>e.fStarted=false
 | some p=>e.fStarted=true∧e.fLast=p
theorem K7 (hA:P7 F M v)(h0:0≤i){k last:Option Ak}(h:v.drop i.toNat=Bu k++r)(hS:(S.length:Int)+1≤i)(hb:CI (e::S))(hk:BW e.fKey last k=true)(hl:GT e last) :
  Da (Nx F v) ((e::S).reverse,i,sh) ((Ec e k::S).reverse,i+(Bu k).length,Jy k sh):=by
 cases k with
 | none=>simpa[Ec,Bu,Jy] using Da.refl _
 | some s=>
  simp only[BW,UX] at hk;obtain⟨⟨hm,hok⟩,hcmp⟩:=hk;refine Da.step ?_;rw[round hA h0 (by simpa[Bu] using h) (by simpa using hS) hb];have hp:pl ⟨4,0,s,0⟩=true:=by simp[pl,hok]
  have ht:(e.fStarted&&(BE s e.fLast||decide (s=e.fLast)))=false:=by
   cases last with
   | none=>simp only[GT] at hl;rw[hl];rfl
   | some p=>obtain⟨h1,h2⟩:=hl;rw[h1,h2];simpa using hcmp
  simp only[NM,hp,hm,ht,Vk,Va,Vf,decide_true,VM,Bool.or_self];rfl
theorem Jk {k last:Option Ak}(hk:BW e.fKey last k=true):(Ec e k).fKey=false:=by
 cases k with
 | none=>simpa[Ec,BW] using hk
 | some s=>rfl
theorem HX (k:Option Ak):(Ec e k).fLeft=e.fLeft∧(Ec e k).fPairs=e.fPairs:=by cases k<;>exact⟨rfl,rfl⟩
theorem Jj (hA:P7 F M v)(h0:0≤i)(h:v.drop i.toNat=c::r)(hS:(S.length:Int)≤i)(hb:CI S)(hk:Jl S=false)(hp:pl c=true)(hn:decide (0<c.fN)=false) :
  EP (Nx F v) (S.reverse,i,sh) S (i+1) (GA S.length sh c):=by
 have hr:=round (sh:=sh) hA h0 h hS hb;unfold EP
 cases S with
 | nil=>
  rw[Vi (by simp[J6])];refine Fin.step ?_;rw[hr];simp[NM,hp,hn]
 | cons e S=>
  simp only[Jl] at hk
  split
  ·rename_i hc
   refine Fin.step ?_;rw[hr];simp[NM,hp,hn,hk,hc]
  ·rename_i hc
   refine Da.step ?_;rw[hr];simp[NM,hp,hn,hk,hc]
theorem Hm (hA:P7 F M v)(h0:0≤i)(h:v.drop i.toNat=c::r)(hS:(S.length:Int)≤i)(hb:CI S)(hk:Jl S=false)(hp:pl c=true)(hn:decide (0<c.fN)=true)(hv:c.fN≤v.length) :
  Da (Nx F v) (S.reverse,i,sh) ((⟨decide (c.fKind=6),c.fN,decide (c.fKind=6),[],false⟩::S).reverse,i+1,GA S.length sh c):=by
 have hr:=round (sh:=sh) hA h0 h hS hb;have hv':decide ((v.length:Int)<c.fN)=false:=by simpa using hv
 refine Da.step ?_;rw[hr]
 cases S with
 | nil=>simp only[NM,hp,hn,hv',Vk,Va,Vf];rfl
 | cons e S=>
  simp only[Jl] at hk;simp only[NM,hp,hn,hv',hk,Vk,Va,Vf]
theorem BR:∀f:Fo,f.cnt≤f.flat.length
 | .nil=>Vh _
 | .cell k c r=>by have:=BR r;simp[Fo.cnt,Fo.flat];omega
 | .node k c kids r=>by have:=BR r;simp[Fo.cnt,Fo.flat];omega
theorem Cq {α:Type}{v xs r:List α}{i:Int}(h0:0≤i)(h:v.drop i.toNat=xs++r):v.drop (i+xs.length).toNat=r:=by
 rw[show(i+(xs.length:Int)).toNat=i.toNat+xs.length from by omega,← List.drop_drop,h,List.drop_left]
theorem MR (hA:P7 F M v){e':At}{s:M6}{k:Option Ak}{r':Fo}
  (ih:∀(e:At) (S:List At) (i:Int) (sh:A3) (last:Option Ak) (r:List Ab),1≤r'.cnt→r'.wf e.fPairs last=true→e.fKey=e.fPairs→e.fLeft=r'.cnt→GT e last→(e.fPairs=false→last=none)→v.drop i.toNat=r'.flat++r→0≤i→(S.length:Int)+1≤i→CI S→
   EP (Nx F v) ((e::S).reverse,i,sh) S (i+r'.flat.length) (r'.sh (S.length+1) sh))
  (hd:EP (Nx F v) s (e'::S) i sh) (hl:e'.fLeft=r'.cnt+1) (hw:r'.wf e'.fPairs k=true) (hk:GT e' k) (hm:e'.fPairs=false→k=none) (hv:v.drop i.toNat=r'.flat++r) (h0:0≤i) (hS:(S.length:Int)+1≤i) (hb:CI S) :
  EP (Nx F v) s S (i+r'.flat.length) (r'.sh (S.length+1) sh):=by
 by_cases h1:r'.cnt=0
 ·cases r' with
  | nil=>simpa[Fo.flat,Fo.sh] using hd.pop (by rw[hl];rfl)
  | cell _ _ _=>simp[Fo.cnt] at h1
  | node _ _ _ _=>simp[Fo.cnt] at h1
 ·have:=hd.more (by omega);refine EP.of this (ih _ S i sh k r (by omega) hw rfl (by simp only;omega) ?_ hm hv h0 hS hb)
  cases k with
  | none=>exact hk
  | some p=>exact hk
theorem HY {k last:Option Ak}(hl:GT e last)(hm:e.fPairs=false→last=none)(hk:BW e.fPairs last k=true):GT (Ec e k) k∧((Ec e k).fPairs=false→k=none):=by
 cases k with
 | none=>
  have:e.fPairs=false:=by simpa[BW] using hk
  rw[hm this] at hl;exact⟨hl,λ_=>rfl⟩
 | some s=>
  refine⟨⟨rfl,rfl⟩,λh=>?_⟩;have h:e.fPairs=false:=h;simp[BW,h] at hk
theorem J5 (hA:P7 F M v):∀(f:Fo) (e:At) (S:List At) (i:Int) (sh:A3) (last:Option Ak) (r:List Ab),1≤f.cnt→f.wf e.fPairs last=true→e.fKey=e.fPairs→e.fLeft=f.cnt→GT e last→(e.fPairs=false→last=none)→v.drop i.toNat=f.flat++r→0≤i→(S.length:Int)+1≤i→CI S→
   EP (Nx F v) ((e::S).reverse,i,sh) S (i+f.flat.length) (f.sh (S.length+1) sh):=by
 have hmax:∀(i:Int) (xs:List Ab),0≤i→v.drop i.toNat=xs→xs.length≤v.length:=λi xs _ h=>by rw[← h,List.length_drop];omega
 intro f
 induction f with
 | nil=>intro e S i sh last r h1;simp[Fo.cnt] at h1
 | cell k c r' ih=>
  intro e S i sh last r h1 hw hk hl hlo hm hv h0 hS hb;simp only[Fo.wf,UX,Vq] at hw;obtain⟨⟨⟨w1,w2⟩,w3⟩,w4⟩:=hw;simp only[Fo.flat,Vo,VD] at hv;have hcnt:=hmax i _ h0 hv;have hcf:=BR r';simp only[Vd,UZ] at hcnt;have hvM:=hA.hv;have hMM:=hA.hM;simp only[Fo.cnt] at hl;have hb':CI (e::S):=λx hx=>by
   rcases List.mem_cons.1 hx with rfl | hx
   ·constructor<;>omega
   ·exact hb x hx
  have hkr:=K7 (sh:=sh) hA h0 hv hS hb' (by rw[hk];exact w1) hlo;have hv1:=Cq h0 hv;obtain⟨kl,kp⟩:=HX (e:=e) k;have hbk:CI (Ec e k::S):=λx hx=>by
   rcases List.mem_cons.1 hx with rfl | hx
   ·rw[kl];exact hb' e (by simp)
   ·exact hb x hx
  have hd:=Jj (sh:=Jy k sh) hA (by omega) hv1 (by simp only[UZ];omega) hbk (Jk (by rw[hk];exact w1)) w2 w3;obtain⟨q1,q2⟩:=HY hlo hm w1;have hv2:=(B8 (by omega) hv1).2.1;have:=MR hA ih (hd.of hkr) (by rw[kl,hl];rfl) (by rw[kp];exact w4) q1 q2 hv2 (by omega) (by omega) hb;simp only[Fo.flat,Fo.sh,Vd,UZ];rw[show i+((((Bu k).length+(r'.flat.length+1):Nat)):Int)=i+(Bu k).length+1+r'.flat.length from by omega];exact this
 | node k c kids r' ihk ih=>
  intro e S i sh last r h1 hw hk hl hlo hm hv h0 hS hb;simp only[Fo.wf,UX,UU] at hw;obtain⟨⟨⟨⟨⟨w1,w2⟩,w3⟩,w5⟩,w6⟩,w4⟩:=hw;simp only[Fo.flat,Vo,VD] at hv;have hcnt:=hmax i _ h0 hv;have hcf:=BR r';have hck:=BR kids;simp only[Vd,UZ] at hcnt;have hvM:=hA.hv;have hMM:=hA.hM;simp only[Fo.cnt] at hl;have hb':CI (e::S):=λx hx=>by
   rcases List.mem_cons.1 hx with rfl | hx
   ·constructor<;>omega
   ·exact hb x hx
  have hkr:=K7 (sh:=sh) hA h0 hv hS hb' (by rw[hk];exact w1) hlo;have hv1:=Cq h0 hv;obtain⟨kl,kp⟩:=HX (e:=e) k;have hbk:CI (Ec e k::S):=λx hx=>by
   rcases List.mem_cons.1 hx with rfl | hx
   ·rw[kl];exact hb' e (by simp)
   ·exact hb x hx
  have hn:=Hm (sh:=Jy k sh) hA (by omega) hv1 (by simp only[UZ];omega) hbk (Jk (by rw[hk];exact w1)) w2 (by simpa using w3) (by omega);have hv2:=(B8 (by omega) hv1).2.1;have hd:=ihk ⟨decide (c.fKind=6),c.fN,decide (c.fKind=6),[],false⟩ (Ec e k::S) (i+(Bu k).length+1) (GA (S.length+1) (Jy k sh) c) none _ (by omega) w6 rfl w5 rfl (λ_=>rfl) hv2 (by omega) (by simp only[UZ];omega) hbk;obtain⟨q1,q2⟩:=HY hlo hm w1;have hv3:=Cq (by omega) hv2;have:=MR hA ih ((hd.of hn).of hkr) (by rw[kl,hl];rfl) (by rw[kp];exact w4) q1 q2 hv3 (by omega) (by omega) hb;simp only[Fo.flat,Fo.sh,Vd,UZ];rw[show i+((((Bu k).length+(kids.flat.length+r'.flat.length+1):Nat)):Int)=i+(Bu k).length+1+kids.flat.length+r'.flat.length from by omega];exact this
end
theorem Nw {S O:Type}{body:S→Option (Stp S O)}{o:O}:∀{n:Nat} {s:S} (k:Nat),BD body n s=some o→BD body (n+k) s=some o
 | 0,s,k,h=>by cases h
 | n+1,s,k,h=>by
  rw[show n+1+k=n+k+1 from by omega,BD];rw[BD] at h
  cases hb:body s with
  | none=>rw[hb] at h;cases h
  | some t=>
   rw[hb] at h
   cases t with
   | next s'=>exact Nw k h
   | out o'=>exact h
theorem Fin.eq {S O:Type}{body:S→Option (Stp S O)}{s:S}{o o':O}{n:Nat}(h:Fin body s o)(h':BD body n s=some o'):o'=o:=by
 obtain⟨k,hk⟩:=h;have:=Nw k h';rw[hk n] at this;exact(A9 this).symm
theorem LB:∀{S:List At},CI S→CI (J6 S)∧(J6 S).length≤S.length
 | [],h=>⟨h,Vh _⟩
 | e::S,h=>by
  have hS:CI S:=λx hx=>h x (by simp[hx]);have he:=h e (by simp);unfold J6
  cases hd:decide (1<e.fLeft) with
  | true=>
   simp only[UU] at hd;refine⟨λx hx=>?_,by simp⟩;rcases List.mem_cons.1 hx with rfl | hx
   ·simp only;omega
   ·exact hS x hx
  | false=>
   obtain⟨h1,h2⟩:=LB hS;exact⟨h1,by simp only[Va,UZ];omega⟩
theorem RA {n:Int}{S:List At}{i:Int}{sh:A3}{c:Ab}{σ:M6}(hb:CI S)(hS:(S.length:Int)≤i)(hN:c.fN≤9223372036854775807)(h:NM n S i sh c = .next σ):∃S' sh',σ=(S'.reverse,i+1,sh')∧CI S'∧(S'.length:Int)≤i+1:=by
 unfold NM at h
 cases hp:pl c with
 | false=>simp[hp] at h
 | true=>
  simp only[hp,Vk,Va] at h
  cases S with
  | nil=>
   simp only at h
   cases hn:decide (0<c.fN) with
   | false=>simp[hn] at h
   | true=>
    simp only[hn,Vf] at h
    cases hm:decide (n<c.fN) with
    | true=>simp[hm] at h
    | false=>
     simp only[hm,Va,Stp.next.injEq] at h;refine⟨[_],_,h.symm,λx hx=>?_,by simp at hS ⊢;omega⟩;simp only[Vj] at hx;subst hx;simp only[UU] at hn;exact⟨by simp only;omega,hN⟩
  | cons e S=>
   have he:=hb e (by simp);have hbS:CI S:=λx hx=>hb x (by simp[hx]);simp only[UZ] at hS
   cases hk:e.fKey with
   | true=>
    simp only[hk,Vf] at h
    cases hq:(!decide (c.fKind=4)||(e.fStarted&&(BE c.fStr e.fLast||decide (c.fStr=e.fLast)))) with
    | true=>rw[hq] at h;simp at h
    | false=>
     rw[hq] at h;simp only[Va,Stp.next.injEq] at h;refine⟨_::S,_,h.symm,λx hx=>?_,by simp only[UZ];omega⟩;rcases List.mem_cons.1 hx with rfl | hx
     ·exact he
     ·exact hbS x hx
   | false=>
    simp only[hk,Va] at h
    cases hn:decide (0<c.fN) with
    | true=>
     simp only[hn,Vf] at h
     cases hm:decide (n<c.fN) with
     | true=>simp[hm] at h
     | false=>
      simp only[hm,Va,Stp.next.injEq] at h;refine⟨_::e::S,_,h.symm,λx hx=>?_,by simp only[UZ];omega⟩;rcases List.mem_cons.1 hx with rfl | hx
      ·simp only[UU] at hn;exact⟨by simp only;omega,hN⟩
      ·exact hb x hx
    | false=>
     simp only[hn,Va] at h
     cases hq:decide (J6 (e::S)=[]) with
     | true=>rw[hq] at h;simp at h
     | false=>
      rw[hq] at h;simp only[Va,Stp.next.injEq] at h;obtain⟨h1,h2⟩:=LB hb;simp only[UZ] at h2;exact⟨_,_,h.symm,h1,by omega⟩
theorem Kw {F M:Nat}{v:List Ab}(hA:P7 F M v):∃o,BD (Nx F v) F (([]:List At),0,(⟨0,0,false,false⟩:A3))=some o∧True:=by
 refine DJ (λσ=>∃S i sh,σ=(S.reverse,i,sh)∧CI S∧(S.length:Int)≤i∧0≤i∧i≤v.length) (λσ=>v.length-σ.2.1.toNat) (λ_=>True) (λσ hI=>?_) F _ ⟨[],0,_,rfl,(λx hx=>by cases hx),Vm _,Vm _,by omega⟩ (by have:=hA.hv;have:=hA.hF;simp;omega);obtain⟨S,i,sh,rfl,hb,hS,h0,hi⟩:=hI
 by_cases hx:i<v.length
 ·obtain⟨c,hc⟩:∃c,v[i.toNat]? =some c:=⟨v[i.toNat]'(by omega),UW (by omega)⟩
  have hdr:v.drop i.toNat=c::v.drop (i.toNat+1):=by rw[List.drop_eq_getElem_cons (by omega)];congr 1;exact(List.getElem?_eq_some_iff.1 hc).2
  have hr:=round (sh:=sh) hA h0 hdr hS hb
  cases hl:NM v.length S i sh c with
  | next τ=>
   obtain⟨S',sh',rfl,h1,h2⟩:=RA hb hS (hA.hc c (Vb hc)).2.2 hl;exact .inl ⟨_,by rw[hr,hl],⟨S',i+1,sh',rfl,h1,h2,by omega,by omega⟩,by simp only;omega⟩
  | out o=>exact .inr ⟨o,by rw[hr,hl],trivial⟩
 ·refine .inr ⟨.go sh,?_,trivial⟩;show C8 F v S.reverse i sh=_;unfold C8;rw[Ao (by simpa using hx)]
def Fo.one:Fo→Bool
 | .cell none _ .nil=>true
 | .node none _ _ .nil=>true
 | _=>false
def KM:A3:=⟨0,0,false,false⟩
theorem R9 {F M:Nat}{v:List Ab}(hA:P7 F M v){f:Fo}(h1:f.one=true)(hw:f.wf false none=true){r:List Ab}(hv:v=f.flat++r):Fin (Nx F v) ([],0,KM) (.ret (f.flat.length,f.sh 0 KM,true)):=by
 have h0:v.drop (0:Int).toNat=f.flat++r:=by rw[hv];rfl
 have hlen:f.flat.length≤v.length:=by rw[hv];simp
 cases f with
 | nil=>cases h1
 | cell k c r'=>
  cases k with
  | some s=>cases h1
  | none=>
   cases r' with
   | nil=>
    simp only[Fo.wf,UX,Vq] at hw;have:=Jj (S:=[]) (sh:=KM) hA (Vm 0) h0 (by simp) (λx hx=>by cases hx) rfl hw.1.1.2 hw.1.2;unfold EP at this;rw[Vi (show J6 []=[] from rfl)] at this;simpa[Fo.flat,Fo.sh,Bu,Jy] using this
   | cell _ _ _=>cases h1
   | node _ _ _ _=>cases h1
 | node k c kids r'=>
  cases k with
  | some s=>cases h1
  | none=>
   cases r' with
   | nil=>
    simp only[Fo.wf,UX,UU] at hw;obtain⟨⟨⟨⟨⟨w1,w2⟩,w3⟩,w5⟩,w6⟩,w4⟩:=hw;have hck:=BR kids;simp only[Fo.flat,Bu,VI,Vz,UZ] at hlen;have hvM:=hA.hv;have hMM:=hA.hM;have hn:=Hm (S:=[]) (sh:=KM) hA (Vm 0) h0 (by simp) (λx hx=>by cases hx) rfl w2 (by simpa using w3) (by omega);have hv2:=(B8 (Vm 0) h0).2.1;have hd:=J5 hA kids ⟨decide (c.fKind=6),c.fN,decide (c.fKind=6),[],false⟩ [] (0+1) (GA 0 KM c) none r (by omega) w6 rfl w5 rfl (λ_=>rfl) (by rw[hv2];simp[Fo.flat]) (by omega) (by simp) (λx hx=>by cases hx);unfold EP at hd;rw[Vi (show J6 []=[] from rfl)] at hd;have:=hn.fin hd;have e:((0:Int)+1+kids.flat.length)=((Fo.node none c kids .nil).flat.length:Int):=by simp[Fo.flat,Bu];omega
    rw[e] at this;exact this
   | cell _ _ _=>cases h1
   | node _ _ _ _=>cases h1
theorem R8 {F M:Nat}{v:List Ab}(hA:P7 F M v){f:Fo}(h1:f.one=true)(hw:f.wf false none=true){r:List Ab}(hv:v=f.flat++r):In F v=some ((f.flat.length:Int),f.sh 0 KM,true):=by
 obtain⟨o,ho,_⟩:=Kw hA;have e:=(R9 hA h1 hw hv).eq ho;subst e;unfold In;rw[AF ho];rfl
def Gl (m:Bool)(last:Option Ak)(xs:List Ab):Option (Option Ak×List Ab):=
 bif m then match xs with
  | []=>none
  | c::r=>bif pl c&&decide (c.fKind=4)&&BW true last (some c.fStr) then some (some c.fStr,r) else none
 else some (none,xs)
def Ge:Nat→Bool→Option Ak→Nat→List Ab→Option (Fo×List Ab)
 | 0,_,_,_,_=>none
 | _+1,_,_,0,xs=>some (.nil,xs)
 | F+1,m,last,k+1,xs=>
  match Gl m last xs with
  | none=>none
  | some (_,[])=>none
  | some (key,c::xs')=>
   bif !pl c then none else
   bif decide (0<c.fN) then
    match Ge F (decide (c.fKind=6)) none c.fN.toNat xs' with
    | none=>none
    | some (kids,ys)=>match Ge F m key k ys with
     | none=>none
     | some (r,zs)=>some (.node key c kids r,zs)
   else match Ge F m key k xs' with
    | none=>none
    | some (r,zs)=>some (.cell key c r,zs)
theorem Mf {c:Ab}(hp:pl c=true)(hk:c.fKind=4):c=⟨4,0,c.fStr,0⟩∧c.fStr.all Sj=true:=by
 cases c
 simp only at hk;subst hk;simp[pl] at hp;obtain⟨h1,h2,h3⟩:=hp;subst h1;subst h2;exact⟨rfl,by simpa using h3⟩
theorem JN {m:Bool}{last key:Option Ak}{xs r:List Ab}(h:Gl m last xs=some (key,r)):xs=Bu key++r∧BW m last key=true:=by
 unfold Gl at h
 cases m with
 | false=>cases h;exact⟨rfl,rfl⟩
 | true=>
  simp only[Vf] at h
  cases xs with
  | nil=>cases h
  | cons c r'=>
   simp only at h
   cases hb:(pl c&&decide (c.fKind=4)&&BW true last (some c.fStr)) with
   | false=>rw[hb] at h;cases h
   | true=>
    rw[hb] at h;simp only[UX,UU] at hb
    cases h
    exact⟨by rw[(Mf hb.1.1 hb.1.2).1];rfl,hb.2⟩
theorem EK:∀(F:Nat) (m:Bool) (last:Option Ak) (k:Nat) (xs:List Ab) (f:Fo) (ys:List Ab),Ge F m last k xs=some (f,ys)→xs=f.flat++ys∧f.wf m last=true∧f.cnt=k
 | 0,_,_,_,_,_,_,h=>by cases h
 | F+1,m,last,0,xs,f,ys,h=>by cases h;exact⟨rfl,rfl,rfl⟩
 | F+1,m,last,k+1,xs,f,ys,h=>by
  rw[Ge] at h
  cases hk:Gl m last xs with
  | none=>rw[hk] at h;cases h
  | some p=>
   obtain⟨key,r⟩:=p;obtain⟨h1,h2⟩:=JN hk;rw[hk] at h
   cases r with
   | nil=>cases h
   | cons c xs'=>
    simp only at h
    cases hp:pl c with
    | false=>rw[hp] at h;cases h
    | true=>
     rw[hp] at h;simp only[Vk,Va] at h
     cases hn:decide (0<c.fN) with
     | true=>
      rw[hn] at h;simp only[Vf] at h
      cases hq:Ge F (decide (c.fKind=6)) none c.fN.toNat xs' with
      | none=>rw[hq] at h;cases h
      | some q=>
       obtain⟨kids,zs⟩:=q;rw[hq] at h;simp only at h
       cases hr:Ge F m key k zs with
       | none=>rw[hr] at h;cases h
       | some q2=>
        obtain⟨r2,us⟩:=q2;rw[hr] at h;cases h;obtain⟨a1,a2,a3⟩:=EK F _ _ _ _ _ _ hq;obtain⟨b1,b2,b3⟩:=EK F _ _ _ _ _ _ hr;refine⟨by rw[h1,a1,b1];simp[Fo.flat],?_,by simp[Fo.cnt,b3]⟩;simp only[UU] at hn;simp only[Fo.wf,h2,hp,a2,b2,VF,Vs,UX,UU];omega
     | false=>
      rw[hn] at h;simp only[Va] at h
      cases hr:Ge F m key k xs' with
      | none=>rw[hr] at h;cases h
      | some q2=>
       obtain⟨r2,us⟩:=q2;rw[hr] at h;cases h;obtain⟨b1,b2,b3⟩:=EK F _ _ _ _ _ _ hr;exact⟨by rw[h1,b1];simp[Fo.flat],by simp[Fo.wf,h2,hp,b2,hn],by simp[Fo.cnt,b3]⟩
theorem EX:∀(F F':Nat) (m:Bool) (last:Option Ak) (k:Nat) (xs:List Ab),xs.length<F→xs.length<F'→Ge F m last k xs=Ge F' m last k xs
 | 0,_,_,_,_,_,h,_=>by omega
 | _+1,0,_,_,_,_,_,h=>by omega
 | F+1,F'+1,m,last,0,xs,_,_=>rfl
 | F+1,F'+1,m,last,k+1,xs,h,h'=>by
  rw[Ge,Ge]
  cases hk:Gl m last xs with
  | none=>rfl
  | some p=>
   obtain⟨key,r⟩:=p;obtain⟨h1,h2⟩:=JN hk
   cases r with
   | nil=>rfl
   | cons c xs'=>
    have hl:xs'.length<xs.length:=by rw[h1];simp;omega
    simp only
    cases hp:pl c with
    | false=>rfl
    | true=>
     simp only[Vk,Va]
     cases hn:decide (0<c.fN) with
     | true=>
      simp only[Vf];rw[EX F F' _ _ _ xs' (by omega) (by omega)]
      cases hq:Ge F' (decide (c.fKind=6)) none c.fN.toNat xs' with
      | none=>rfl
      | some q=>
       obtain⟨kids,zs⟩:=q;have:=(EK _ _ _ _ _ _ _ hq).1;have hz:zs.length≤xs'.length:=by rw[this];simp
       simp only;rw[EX F F' m key k zs (by omega) (by omega)]
     | false=>
      simp only[Va];rw[EX F F' m key k xs' (by omega) (by omega)]
def OI {S:Type}(body:S→Option (Stp S Tz))(s:S):Prop:=∃sh',Fin body s (.ret (0,sh',false))∨Fin body s (.go sh')
theorem Da.bad {S:Type}{body:S→Option (Stp S Tz)}{s t:S}(h:Da body s t)(h':OI body t):OI body s:=by
 obtain⟨sh',h' | h'⟩:=h'
 ·exact⟨sh',.inl (h.fin h')⟩
 ·exact⟨sh',.inr (h.fin h')⟩
section
variable {F M : Nat} {v : List Ab}
theorem OI.end_ {S:List At}{i:Int}{sh:A3}(h0:0≤i)(h:v.drop i.toNat=[]):OI (Nx F v) (S.reverse,i,sh):=by
 refine⟨sh,.inr (Fin.step ?_)⟩;show C8 F v S.reverse i sh=_;unfold C8;rw[Ao];have:v.length≤i.toNat:=by simpa using h
 simp;omega
theorem OI.pl_ (hA:P7 F M v){S:List At}{i:Int}{sh:A3}{c:Ab}{r:List Ab}(h0:0≤i)(h:v.drop i.toNat=c::r)(hS:(S.length:Int)≤i)(hb:CI S)(hp:pl c=false):OI (Nx F v) (S.reverse,i,sh):=by
 refine⟨sh,.inl (Fin.step ?_)⟩;rw[round hA h0 h hS hb];simp[NM,hp]
theorem O6 (hA:P7 F M v):∀(P:Nat) (k:Nat) (e:At) (S:List At) (i:Int) (sh:A3) (last:Option Ak) (xs:List Ab),xs.length<P→Ge P e.fPairs last (k+1) xs=none→e.fKey=e.fPairs→e.fLeft=(k:Int)+1→(k:Int)+1≤9223372036854775807→GT e last→(e.fPairs=false→last=none)→v.drop i.toNat=xs→0≤i→(S.length:Int)+1≤i→CI S→
  OI (Nx F v) ((e::S).reverse,i,sh):=by
 intro P
 induction P with
 | zero=>intro k e S i sh last xs h;omega
 | succ P ih=>
  intro k e S i sh last xs hP hn hk hl hkm hlo hm hv h0 hS hb;have hb':CI (e::S):=λx hx=>by
   rcases List.mem_cons.1 hx with rfl | hx
   ·constructor<;>omega
   ·exact hb x hx
  rw[Ge] at hn
  cases hq:Gl e.fPairs last xs with
  | none=>
   unfold Gl at hq
   cases hpr:e.fPairs with
   | false=>rw[hpr] at hq;cases hq
   | true=>
    rw[hpr] at hq hk;simp only[Vf] at hq
    cases xs with
    | nil=>exact OI.end_ h0 hv
    | cons c r=>
     simp only at hq
     cases hp:pl c with
     | false=>exact OI.pl_ hA h0 hv (by simpa using hS) hb' hp
     | true=>
      refine⟨sh,.inl (Fin.step ?_)⟩;rw[round hA h0 hv (by simpa using hS) hb'];have ht:(!decide (c.fKind=4)||(e.fStarted&&(BE c.fStr e.fLast||decide (c.fStr=e.fLast))))=true:=by
       rw[hp] at hq
       cases h4:decide (c.fKind=4) with
       | false=>rfl
       | true=>
        rw[h4] at hq;simp only[Bool.and_self,Vs] at hq;have hok:=(Mf hp (by simpa using h4)).2
        cases last with
        | none=>simp[BW,hok] at hq
        | some p=>
         obtain⟨q1,q2⟩:=hlo;rw[q1,q2]
         cases hc:(BE c.fStr p||decide (c.fStr=p)) with
         | true=>rfl
         | false=>simp[BW,hok,hc] at hq
      simp only[NM,hp,hk,ht,Vk,Va,Vf]
  | some q=>
   obtain⟨key,r⟩:=q;obtain⟨h1,h2⟩:=JN hq;rw[hq] at hn;have hkr:=K7 (sh:=sh) hA h0 (by rw[hv];exact h1) hS hb' (by rw[hk];exact h2) hlo;have hv1:=Cq h0 (hv.trans h1);obtain⟨kl,kp⟩:=HX (e:=e) key;obtain⟨q1,q2⟩:=HY hlo hm h2;have hbk:CI (Ec e key::S):=λx hx=>by
    rcases List.mem_cons.1 hx with rfl | hx
    ·rw[kl];exact hb' e (by simp)
    ·exact hb x hx
   refine hkr.bad ?_
   cases r with
   | nil=>exact OI.end_ (by omega) hv1
   | cons c xs'=>
    have hlen:xs'.length+1≤xs.length:=by rw[h1];simp
    have hvl:xs.length≤v.length:=by rw[← hv,List.length_drop];omega
    have hvM:=hA.hv;have hMM:=hA.hM;have hkk:=Jk (e:=e) (last:=last) (k:=key) (by rw[hk];exact h2);simp only at hn;have hSk:(((Ec e key::S).length:Nat):Int)≤i+(Bu key).length:=by simp only[UZ];omega
    cases hp:pl c with
    | false=>exact OI.pl_ hA (by omega) hv1 hSk hbk hp
    | true=>
     rw[hp] at hn;simp only[Vk,Va] at hn;obtain⟨g1,g2,g3⟩:=B8 (by omega) hv1;have hcN:=(hA.hc c (Vb g1)).2.2;have more:∀(s:M6) (j:Int) (sh':A3) (zs:List Ab),EP (Nx F v) s (Ec e key::S) j sh'→v.drop j.toNat=zs→zs.length<P→0≤j→(S.length:Int)+1≤j→Ge P e.fPairs key k zs=none→OI (Nx F v) s:=λs j sh' zs hd hz hzl hj hSj hnone=>by
      cases k with
      | zero=>
       cases P with
       | zero=>omega
       | succ P=>cases hnone
      | succ k=>
       have:=hd.more (by rw[kl];omega);refine this.bad (ih k _ S j sh' key zs hzl (by rw[kp];exact hnone) rfl (by simp only[kl];omega) (by omega) ?_ (by simpa using q2) hz hj hSj hb)
       cases key with
       | none=>exact q1
       | some p=>exact q1
     cases hN:decide (0<c.fN) with
     | true=>
      rw[hN] at hn;simp only[Vf] at hn;simp only[UU] at hN
      by_cases hbig:c.fN≤v.length
      ·have hnd:=Hm (sh:=Jy key sh) hA (by omega) hv1 hSk hbk (by simpa[Jl] using hkk) hp (by simpa using hN) hbig;refine hnd.bad ?_
       cases hks:Ge P (decide (c.fKind=6)) none c.fN.toNat xs' with
       | none=>
        obtain⟨n',hn'⟩:∃n',c.fN.toNat=n'+1:=⟨c.fN.toNat-1,by omega⟩
        rw[hn'] at hks;exact ih n' _ _ _ _ none xs' (by omega) hks rfl (by simp only;omega) (by omega) rfl (λ_=>rfl) g2 (by omega) (by simp only[UZ];omega) hbk
       | some q=>
        obtain⟨kids,zs⟩:=q;rw[hks] at hn;simp only at hn;have hn2:Ge P e.fPairs key k zs=none:=by
         cases hz:Ge P e.fPairs key k zs with
         | none=>rfl
         | some q=>rw[hz] at hn;cases hn
        obtain⟨a1,a2,a3⟩:=EK _ _ _ _ _ _ _ hks;have hd:=J5 hA kids ⟨decide (c.fKind=6),c.fN,decide (c.fKind=6),[],false⟩ (Ec e key::S) (i+(Bu key).length+1) (GA (S.length+1) (Jy key sh) c) none zs (by omega) a2 rfl (by simp only;omega) rfl (λ_=>rfl) (by rw[g2];exact a1) (by omega) (by simp only[UZ];omega) hbk;have hz:v.drop (i+(Bu key).length+1+kids.flat.length).toNat=zs:=Cq (by omega) (g2.trans a1);have hzl:zs.length≤xs'.length:=by rw[a1];simp
        exact more _ _ _ zs hd hz (by omega) (by omega) (by omega) hn2
      ·refine⟨GA (Ec e key::S).length (Jy key sh) c,.inl (Fin.step ?_)⟩;rw[round hA (by omega) hv1 hSk hbk];have hbig':decide ((v.length:Int)<c.fN)=true:=by simpa using hbig
       simp only[NM,hp,hkk,hbig',hN,Vk,Va,Vf,decide_true]
     | false=>
      rw[hN] at hn;simp only[Va] at hn;have hn2:Ge P e.fPairs key k xs'=none:=by
       cases hz:Ge P e.fPairs key k xs' with
       | none=>rfl
       | some q=>rw[hz] at hn;cases hn
      have hd:=Jj (sh:=Jy key sh) hA (by omega) hv1 hSk hbk (by simpa[Jl] using hkk) hp hN;exact more _ _ _ xs' hd g2 (by omega) (by omega) (by omega) hn2
def EZ (xs:List Ab):Option (Fo×List Ab):=Ge (xs.length+1) false none 1 xs
theorem OZ {P:Nat}{xs ys:List Ab}{f:Fo}(h:Ge P false none 1 xs=some (f,ys)):f.one=true:=by
 obtain⟨h1,h2,h3⟩:=EK _ _ _ _ _ _ _ h
 cases f with
 | nil=>cases h3
 | cell k c r=>
  cases r with
  | nil=>
   cases k with
   | none=>rfl
   | some s=>simp[Fo.wf,BW] at h2
  | cell _ _ _=>simp[Fo.cnt] at h3
  | node _ _ _ _=>simp[Fo.cnt] at h3
 | node k c kids r=>
  cases r with
  | nil=>
   cases k with
   | none=>rfl
   | some s=>simp[Fo.wf,BW] at h2
  | cell _ _ _=>simp[Fo.cnt] at h3
  | node _ _ _ _=>simp[Fo.cnt] at h3
theorem Qs (hA:P7 F M v)(h:EZ v=none):OI (Nx F v) ([],0,KM):=by
 have hlf:CI []:=λx hx=>by cases hx
 unfold EZ at h;rw[Ge] at h;simp only[Gl,Va] at h
 cases v with
 | nil=>exact OI.end_ (S:=[]) (Vm 0) rfl
 | cons c xs'=>
  have hv1:(c::xs').drop (0:Int).toNat=c::xs':=rfl;have hvM:=hA.hv;have hMM:=hA.hM;simp only at h
  cases hp:pl c with
  | false=>exact OI.pl_ (S:=[]) hA (Vm 0) hv1 (by simp) hlf hp
  | true=>
   rw[hp] at h;simp only[Vk,Va] at h;have hcN:=(hA.hc c (by simp)).2.2
   cases hN:decide (0<c.fN) with
   | true=>
    rw[hN] at h;simp only[Vf] at h;simp only[UU] at hN
    by_cases hbig:c.fN≤(c::xs').length
    ·have hnd:=Hm (S:=[]) (sh:=KM) hA (Vm 0) hv1 (by simp) hlf rfl hp (by simpa using hN) hbig;refine hnd.bad ?_
     cases hks:Ge (c::xs').length (decide (c.fKind=6)) none c.fN.toNat xs' with
     | none=>
      obtain⟨n',hn'⟩:∃n',c.fN.toNat=n'+1:=⟨c.fN.toNat-1,by omega⟩
      rw[hn'] at hks;exact O6 hA (c::xs').length n' ⟨decide (c.fKind=6),c.fN,decide (c.fKind=6),[],false⟩ [] (0+1) _ none xs' (by simp) hks rfl (by simp only;omega) (by omega) rfl (λ_=>rfl) rfl (by omega) (by simp) hlf
     | some q=>rw[hks] at h;cases h
    ·refine⟨GA 0 KM c,.inl (Fin.step ?_)⟩;rw[show Nx F (c::xs') (([]:List At),0,KM)=_ from round (S:=[]) hA (Vm 0) hv1 (by simp) hlf];have hbig':decide (((c::xs').length:Int)<c.fN)=true:=by simpa using hbig
     simp only[NM,hp,hbig',hN,Vk,Va,Vf,decide_true]
   | false=>rw[hN] at h;cases h
theorem SN (hA:P7 F M v):(∃f ys,EZ v=some (f,ys)∧In F v=some ((f.flat.length:Int),f.sh 0 KM,true))∨(EZ v=none∧∃sh',In F v=some (0,sh',false)):=by
 cases h:EZ v with
 | some q=>
  obtain⟨f,ys⟩:=q;obtain⟨h1,h2,h3⟩:=EK _ _ _ _ _ _ _ h;exact .inl ⟨f,ys,rfl,R8 hA (OZ h) h2 h1⟩
 | none=>
  refine .inr ⟨rfl,?_⟩;obtain⟨o,ho,_⟩:=Kw hA;obtain⟨sh',hb | hb⟩:=Qs hA h
  ·have e:=hb.eq ho;subst e;exact⟨sh',by unfold In;rw[AF ho];rfl⟩
  ·have e:=hb.eq ho;subst e;exact⟨sh',by unfold In;rw[AF ho];rfl⟩
end
theorem Hf {x:Int}(h : -9223372036854775808≤x)(h':x≤9223372036854775807):IntKind.wrap .i64 x=x:=by
 simp only[IntKind.wrap,IntKind.bits,IntKind.signed];simp;omega
def Fo.dep:Fo→Nat
 | .nil=>0
 | .cell _ _ r=>max 1 r.dep
 | .node _ _ kids r=>max (kids.dep+1) r.dep
theorem Ej (k:Option Ak)(s:A3):(Jy k s).fDepth=s.fDepth∧(Jy k s).fOutside=s.fOutside∧(Jy k s).fLong=(s.fLong||(Bu k).any λc=>decide (200<(c.fStr.length:Int))):=by
 cases k with
 | none=>simp[Jy,Bu]
 | some x=>simp[Jy,TZ,Bu]
theorem Iq:∀(f:Fo) (d:Nat) (s:A3),(d:Int)≤s.fDepth→(f.sh d s).fDepth=max s.fDepth ((d:Int)+f.dep)
 | .nil,d,s,h=>by simp only[Fo.sh,Fo.dep];omega
 | .cell k c r,d,s,h=>by
  have hk:=(Ej k s).1;have e:(GA d (Jy k s) c).fDepth=max s.fDepth ((d:Int)+1):=by rw[GA,hk]
  rw[Fo.sh,Iq r d _ (by rw[e];omega),e,Fo.dep];omega
 | .node k c kids r,d,s,h=>by
  have hk:=(Ej k s).1;have e:(GA d (Jy k s) c).fDepth=max s.fDepth ((d:Int)+1):=by rw[GA,hk]
  have e2:=Iq kids (d+1) (GA d (Jy k s) c) (by rw[e];omega);rw[e] at e2;rw[Fo.sh,Iq r d _ (by rw[e2];omega),e2,Fo.dep];omega
def E7 (c:Ab):Bool:=decide (c.fKind=3)&&!(decide ((-1000000000000)≤c.fInt)&&decide (c.fInt≤1000000000000))
def Eb (c:Ab):Bool:=decide (200<(c.fStr.length:Int))
theorem N2 (k:Option Ak):(Bu k).any E7=false:=by cases k<;>simp[Bu,E7]
theorem LR:∀(f:Fo) (d:Nat) (s:A3),(f.sh d s).fOutside=(s.fOutside||f.flat.any E7)
 | .nil,d,s=>by simp[Fo.sh,Fo.flat]
 | .cell k c r,d,s=>by
  rw[Fo.sh,LR r,GA,(Ej k s).2.1];simp only[Fo.flat,List.any_append,List.any_cons,N2,Vv,Bool.or_assoc];rfl
 | .node k c kids r,d,s=>by
  rw[Fo.sh,LR r,LR kids,GA,(Ej k s).2.1];simp only[Fo.flat,List.any_append,List.any_cons,N2,Vv,Bool.or_assoc];rfl
theorem JK:∀(f:Fo) (d:Nat) (s:A3),(f.sh d s).fLong=(s.fLong||f.flat.any Eb)
 | .nil,d,s=>by simp[Fo.sh,Fo.flat]
 | .cell k c r,d,s=>by
  rw[Fo.sh,JK r,GA,(Ej k s).2.2];simp only[Fo.flat,List.any_append,List.any_cons,Bool.or_assoc];rfl
 | .node k c kids r,d,s=>by
  rw[Fo.sh,JK r,JK kids,GA,(Ej k s).2.2];simp only[Fo.flat,List.any_append,List.any_cons,Bool.or_assoc];rfl
def Sl (c:Ab):Int:=
 bif decide (c.fKind=1) then 4 else bif decide (c.fKind=2) then 5-c.fInt else bif decide (c.fKind=3) then((Lib.itoa c.fInt).length:Int) else
 bif decide (c.fKind=4) then IY c.fStr else 2
def Mn:Option Ak→Int
 | none=>0
 | some s=>IY s+1
def Fo.byt:Fo→Int
 | .nil=>0
 | .cell k c r=>Mn k+Sl c+r.byt
 | .node k c kids r=>Mn k+(c.fN+1)+kids.byt+r.byt
theorem Ki (s:Ak):2≤IY s:=by unfold IY;omega
theorem JR (k:Option Ak):0≤Mn k:=by
 cases k with
 | none=>exact Vm 0
 | some s=>have:=Ki s;simp only[Mn];omega
theorem Pj {c:Ab}(hp:pl c=true):0≤Sl c:=by
 unfold Sl
 cases h1:decide (c.fKind=1) with
 | true=>simp
 | false=>
  cases h2:decide (c.fKind=2) with
  | true=>
   simp[pl,h1,h2] at hp;simp only[Va,Vf];omega
  | false=>
   cases h3:decide (c.fKind=3) with
   | true=>simp
   | false=>
    cases h4:decide (c.fKind=4) with
    | true=>have:=Ki c.fStr;simp only[Va,Vf];omega
    | false=>simp
theorem SA {c:Ab}(hp:pl c=true):0≤c.fN:=by
 simp only[pl,← Bool.decide_or] at hp
 cases h1:decide (c.fKind=1)<;>cases h2:decide (c.fKind=2)<;>cases h3:decide (c.fKind=3)<;>cases h4:decide (c.fKind=4)<;>cases h5:decide (c.fKind=5)<;>cases h6:decide (c.fKind=6)<;>simp[h1,h2,h3,h4,h5,h6] at hp<;>omega
theorem I2 {c:Ab}(hp:pl c=true)(hn:0<c.fN):(c.fKind=5∨c.fKind=6)∧c.fInt=0∧c.fStr=[]:=by
 cases h1:decide (c.fKind=1)<;>cases h2:decide (c.fKind=2)<;>cases h3:decide (c.fKind=3)<;>cases h4:decide (c.fKind=4)<;>cases h5:decide (c.fKind=5)<;>cases h6:decide (c.fKind=6)<;>simp[pl,h1,h2,h3,h4,h5,h6] at hp<;>(simp only[UU,UV] at *;first | omega | exact⟨by omega,hp.1,hp.2.1⟩)
theorem QV {c:Ab}(hp:pl c=true)(hn:decide (0<c.fN)=false):T5 c=Sl c:=by
 have hN:=SA hp;have h0:c.fN=0:=by simp only[UV] at hn;omega
 unfold T5 Sl;rw[h0]
 cases h1:decide (c.fKind=1) with
 | true=>rfl
 | false=>
  cases h2:decide (c.fKind=2) with
  | true=>
   simp[pl,h1,h2] at hp;simp only[Va,Vf];exact Hf (by omega) (by omega)
  | false=>rfl
theorem QU {c:Ab}(hp:pl c=true)(hn:0<c.fN)(hm:c.fN≤9223372036854775000):T5 c=c.fN+1:=by
 obtain⟨hk,_,_⟩:=I2 hp hn;unfold T5;rw[UR (by omega),UR (by omega),UR (by omega),UR (by omega)];simp only[Va];rw[Hf (x:=c.fN-1) (by omega) (by omega),Hf (by omega) (by omega)];omega
theorem Gz:∀{f:Fo} {m:Bool} {l:Option Ak},f.wf m l=true→0≤f.byt
 | .nil,_,_,_=>Vm 0
 | .cell k c r,m,l,h=>by
  simp only[Fo.wf,UX] at h;have h1:=Gz h.2;have h2:=Pj h.1.1.2;have h3:=JR k;simp only[Fo.byt];omega
 | .node k c kids r,m,l,h=>by
  simp only[Fo.wf,UX,UU] at h;have h1:=Gz h.2;have h2:=Gz h.1.2;have h3:=JR k;simp only[Fo.byt];omega
theorem Ln (k:Option Ak)(s:A3)(h0:0≤s.fBytes)(h:s.fBytes+Mn k≤9223372036854775807):(Jy k s).fBytes=s.fBytes+Mn k:=by
 cases k with
 | none=>simp[Jy,Mn]
 | some x=>
  have:=Ki x;simp only[Mn] at h;simp only[Jy,TZ,Mn];exact Hf (by omega) (by omega)
theorem Ir:∀(f:Fo) (m:Bool) (l:Option Ak) (d:Nat) (s:A3),f.wf m l=true→0≤s.fBytes→s.fBytes+f.byt≤9223372036854775000→(f.sh d s).fBytes=s.fBytes+f.byt
 | .nil,_,_,d,s,_,_,_=>by simp[Fo.sh,Fo.byt]
 | .cell k c r,m,l,d,s,hw,h0,h=>by
  simp only[Fo.wf,UX,Vq] at hw;obtain⟨⟨⟨w1,w2⟩,w3⟩,w4⟩:=hw;have h1:=Gz w4;have h2:=Pj w2;have h3:=JR k;simp only[Fo.byt] at h;have e1:=Ln k s h0 (by omega);have e:(GA d (Jy k s) c).fBytes=s.fBytes+Mn k+Sl c:=by
   rw[GA,e1,QV w2 w3];exact Hf (by omega) (by omega)
  rw[Fo.sh,Ir r _ _ d _ w4 (by rw[e];omega) (by rw[e];omega),e,Fo.byt];omega
 | .node k c kids r,m,l,d,s,hw,h0,h=>by
  simp only[Fo.wf,UX,UU] at hw;obtain⟨⟨⟨⟨⟨w1,w2⟩,w3⟩,w5⟩,w6⟩,w4⟩:=hw;have h1:=Gz w4;have h2:=Gz w6;have h3:=JR k;simp only[Fo.byt] at h;have e1:=Ln k s h0 (by omega);have e:(GA d (Jy k s) c).fBytes=s.fBytes+Mn k+(c.fN+1):=by
   rw[GA,e1,QU w2 w3 (by omega)];exact Hf (by omega) (by omega)
  have e2:=Ir kids _ _ (d+1) (GA d (Jy k s) c) w6 (by rw[e];omega) (by rw[e];omega);rw[Fo.sh,Ir r _ _ d _ w4 (by rw[e2,e];omega) (by rw[e2,e];omega),e2,e,Fo.byt];omega
def KF (s:Ak):Ak:=s.flatMap λc=>bif (decide (c=34)||decide (c=92)) then[92,c] else[c]
def HS (s:Ak):Ak:=34::(KF s++[34])
theorem KE:∀s:Ak,(KF s).length=s.length+s.count 34+s.count 92
 | []=>rfl
 | c::s=>by
  have ih:=KE s;unfold KF at ih ⊢;rw[List.flatMap_cons,Vd,ih]
  by_cases h1:c=34
  ·subst h1;simp;omega
  ·by_cases h2:c=92
   ·subst h2;simp;omega
   ·simp[h1,h2,List.count_cons];omega
theorem Na (s:Ak):((HS s).length:Int)=IY s:=by
 simp only[HS,UZ,Vd,KE,Vx,IY];omega
def IC (c:Ab):Ak:=
 bif decide (c.fKind=1) then[110,117,108,108] else
 bif decide (c.fKind=2) then(bif decide (c.fInt=1) then[116,114,117,101] else[102,97,108,115,101]) else
 bif decide (c.fKind=3) then Lib.itoa c.fInt else
 bif decide (c.fKind=4) then HS c.fStr else
 bif decide (c.fKind=6) then[123,125] else[91,93]
def KX:Option Ak→Ak
 | none=>[]
 | some s=>HS s++[58]
def QE (c:Ab)(s:Ak):Ak:=bif decide (c.fKind=6) then 123::(s++[125]) else 91::(s++[93])
def EJ (first:Bool):Ak:=bif first then[] else[44]
def Fo.txt:Bool→Fo→Ak
 | _,.nil=>[]
 | b,.cell k c r=>EJ b++KX k++IC c++r.txt false
 | b,.node k c kids r=>EJ b++KX k++QE c (kids.txt true)++r.txt false
theorem Pk (k:Option Ak):((KX k).length:Int)=Mn k:=by
 cases k with
 | none=>rfl
 | some s=>simp only[KX,Vd,Mn,V2];have:=Na s;omega
theorem Qt {c:Ab}(hp:pl c=true):((IC c).length:Int)=Sl c:=by
  unfold IC Sl
  cases h1:decide (c.fKind=1) with
  | true=>rfl
  | false=>
    cases h2:decide (c.fKind=2) with
    | true=>
      simp[pl,h1,h2] at hp;simp only[Va,Vf]
      cases h7:decide (c.fInt=1) with
      | true=>simp only[UU] at h7;simp[h7]
      | false=>
                 simp only[UV] at h7;have:c.fInt=0:=by omega
                 simp[this]
    | false=>
      cases h3:decide (c.fKind=3) with
      | true=>rfl
      | false=>
        cases h4:decide (c.fKind=4) with
        | true=>simpa using Na c.fStr
        | false=>cases h6:decide (c.fKind=6)<;>rfl
theorem Mw (c:Ab)(s:Ak):(QE c s).length=s.length+2:=by
 unfold QE
 cases decide (c.fKind=6)<;>simp
theorem Ip:∀(f:Fo) (m:Bool) (l:Option Ak) (b:Bool),f.wf m l=true→((f.txt b).length:Int)=f.byt+(bif b then((f.cnt-1:Nat):Int) else(f.cnt:Int))
 | .nil,m,l,b,_=>by cases b<;>rfl
 | .cell k c r,m,l,b,hw=>by
  simp only[Fo.wf,UX,Vq] at hw;obtain⟨⟨⟨w1,w2⟩,w3⟩,w4⟩:=hw;have ih:=Ip r _ _ false w4;have a:=Pk k;have d:=Qt w2;simp only[Va] at ih
  cases b<;>simp only[Fo.txt,Fo.byt,Fo.cnt,EJ,Vf,Va,Vd,Vx,V2]<;>omega
 | .node k c kids r,m,l,b,hw=>by
  simp only[Fo.wf,UX,UU] at hw;obtain⟨⟨⟨⟨⟨w1,w2⟩,w3⟩,w5⟩,w6⟩,w4⟩:=hw;have ih:=Ip r _ _ false w4;have ih2:=Ip kids _ _ true w6;have a:=Pk k;have d:=Mw c (kids.txt true);simp only[Va,Vf] at ih ih2
  cases b<;>simp only[Fo.txt,Fo.byt,Fo.cnt,EJ,Vf,Va,Vd,Vx,V2]<;>omega
def Fo.put (k:Option Ak):Fo→Fo→Fo
 | .cell _ c _,r=>.cell k c r
 | .node _ c kids _,r=>.node k c kids r
 | .nil,_=>.nil
theorem Rl (P:Nat)(m:Bool)(last:Option Ak)(k:Nat)(xs:List Ab):Ge (P+2) m last (k+1) xs =
  match Gl m last xs with
  | none=>none
  | some (key,ys)=>match Ge (P+2) false none 1 ys with
   | none=>none
   | some (f,zs)=>match Ge (P+1) m key k zs with
    | none=>none
    | some (r,us)=>some (f.put key r,us):=by
 rw[Ge]
 cases hk:Gl m last xs with
 | none=>rfl
 | some p=>
  obtain⟨key,ys⟩:=p;simp only;rw[Ge];simp only[Gl,Va]
  cases ys with
  | nil=>rfl
  | cons c ys=>
   simp only
   cases hp:pl c with
   | false=>rfl
   | true=>
    simp only[Vk,Va]
    cases hn:decide (0<c.fN) with
    | true=>
     simp only[Vf]
     cases hq:Ge (P+1) (decide (c.fKind=6)) none c.fN.toNat ys with
     | none=>rfl
     | some q=>
      obtain⟨kids,zs⟩:=q;simp only[Ge]
      cases hr:Ge (P+1) m key k zs with
      | none=>rfl
      | some q=>obtain⟨a,b⟩:=q;rfl
    | false=>
     simp only[Va,Ge]
     cases hr:Ge (P+1) m key k ys with
     | none=>rfl
     | some q=>obtain⟨a,b⟩:=q;rfl
def Kj (m:Bool)(last:Option Ak)(k:Nat)(xs:List Ab):Option (Fo×List Ab):=Ge (xs.length+1) m last k xs
theorem IZ (m:Bool)(last:Option Ak)(xs:List Ab):Kj m last 0 xs=some (.nil,xs):=rfl
theorem En (m:Bool)(last:Option Ak)(k:Nat)(xs:List Ab):Kj m last (k+1) xs =
  match Gl m last xs with
  | none=>none
  | some (key,ys)=>match EZ ys with
   | none=>none
   | some (f,zs)=>match Kj m key k zs with
    | none=>none
    | some (r,us)=>some (f.put key r,us):=by
 unfold Kj EZ;rw[EX (xs.length+1) (xs.length+2) m last (k+1) xs (by omega) (by omega),Rl]
 cases hk:Gl m last xs with
 | none=>rfl
 | some p=>
  obtain⟨key,ys⟩:=p;have h1:=(JN hk).1;have hy:ys.length≤xs.length:=by rw[h1];simp
  simp only;rw[EX (xs.length+2) (ys.length+1) false none 1 ys (by omega) (by omega)]
  cases hf:Ge (ys.length+1) false none 1 ys with
  | none=>rfl
  | some q=>
   obtain⟨f,zs⟩:=q;have h2:=(EK _ _ _ _ _ _ _ hf).1;have hz:zs.length≤ys.length:=by rw[h2];simp
   simp only;rw[EX (xs.length+1) (zs.length+1) m key k zs (by omega) (by omega)]
   all_goals (cases Ge (zs.length+1) m key k zs<;>rfl)
theorem L0 {S O:Type}{body:S→Option (Stp S O)}{n:Nat}{s s':S}{o:O}(h:body s=some (.next s'))(h':BD body n s'=some o):BD body (n+1) s=some o:=by rw[BD,h];exact h'
theorem HF {S O:Type}{body:S→Option (Stp S O)}{n:Nat}{s:S}{o:O}(h:body s=some (.out o)):BD body (n+1) s=some o:=by rw[BD,h]
theorem Nc:EZ []=none:=rfl
theorem EY (c:Ab)(r:List Ab):EZ (c::r)=bif !pl c then none else bif decide (0<c.fN) then(match Kj (decide (c.fKind=6)) none c.fN.toNat r with
  | none=>none
  | some (kids,zs)=>some (.node none c kids .nil,zs)) else some (.cell none c .nil,r):=by
 unfold EZ;rw[Ge];simp only[Gl,Va]
 cases hp:pl c with
 | false=>rfl
 | true=>
  simp only[Vk,Va]
  cases hn:decide (0<c.fN) with
  | true=>
   simp only[Vf];unfold Kj;rw[UZ]
   cases hq:Ge (r.length+1) (decide (c.fKind=6)) none c.fN.toNat r with
   | none=>rfl
   | some q=>obtain⟨kids,zs⟩:=q;rfl
  | false=>rfl
theorem Nb {f:Fo}(h:f.one=true)(key:Option Ak)(r:Fo):(f.put key r).flat=Bu key++(f.flat++r.flat):=by
 cases f with
 | nil=>cases h
 | cell k c r'=>
  cases k with
  | some s=>cases h
  | none=>cases r' with
   | nil=>simp[Fo.put,Fo.flat,Bu]
   | cell _ _ _=>cases h
   | node _ _ _ _=>cases h
 | node k c kids r'=>
  cases k with
  | some s=>cases h
  | none=>cases r' with
   | nil=>simp[Fo.put,Fo.flat,Bu]
   | cell _ _ _=>cases h
   | node _ _ _ _=>cases h
theorem Ro {f:Fo}(h:f.one=true):1≤f.flat.length:=by
 cases f with
 | nil=>cases h
 | cell k c r'=>simp[Fo.flat];omega
 | node k c kids r'=>simp[Fo.flat];omega
theorem Hj {xs ys:List Ab}{f:Fo}(h:EZ xs=some (f,ys)):xs=f.flat++ys∧f.wf false none=true∧f.one=true:=
 ⟨(EK _ _ _ _ _ _ _ h).1,(EK _ _ _ _ _ _ _ h).2.1,OZ h⟩
def G6 (v:List Ab)(i:Int):Int:=match EZ (v.drop i.toNat) with
 | none=>-1
 | some (f,_)=>i+f.flat.length
def I8 (m:Bool)(last:Option Ak)(v:List Ab)(i:Int)(k:Nat):Int:=match Kj m last k (v.drop i.toNat) with
 | none=>-1
 | some (f,_)=>i+f.flat.length
theorem Lw {v:List Ab}{i:Int}(h0:0≤i)(h1:i≤v.length):G6 v i = -1∨(i<G6 v i∧G6 v i≤v.length):=by
 unfold G6
 cases h:EZ (v.drop i.toNat) with
 | none=>exact .inl rfl
 | some q=>
  obtain⟨f,ys⟩:=q;obtain⟨h2,_,h3⟩:=Hj h;have:=Ro h3;have hl:(v.drop i.toNat).length=f.flat.length+ys.length:=by rw[h2];simp
  rw[List.length_drop] at hl
  right;simp only;omega
structure Uu (F M:Nat) (v:List Ab):Prop where
 hM:M≤1152921504606846976
 hv:v.length≤M
 hF:M<F
 hc:∀c∈v,c.fStr.length≤M
theorem PW (ok:Bool){i:Int}(h0:0≤i)(h1:i≤1152921504606846976):Cc ok i=some (bif ok then i+1 else -1):=by
 unfold Cc
 cases ok
 ·rfl
 ·rw[Az rfl,AA (by omega) (by omega)];rfl
theorem OV {F:Nat}{c:Ab}(hF:c.fStr.length<F)(hs:c.fStr.length≤1152921504606846976):Rk F c=some (decide (c.fKind=4)&&pl c):=by
 unfold Rk;rw[PQ hF (by omega)];simp only[Option.isSome_some,ov,Vr,imp,VE,Ba,Vf]
 cases h4:decide (c.fKind=4) with
 | false=>rfl
 | true=>
  simp only[UU] at h4;simp[pl,h4]
theorem Co {v:List Ab}{i:Int}{c:Ab}{r:List Ab}(h0:0≤i)(h:v.drop i.toNat=c::r):Ae v i=c:=by
 have:=(B8 h0 h).1;simp[Ae,this]
section
variable {M : Nat} {v : List Ab}
theorem HB {F:Nat}(hA:Uu F M v){g:List Ab→Int→Option Int}{n:Int}(hn:n≤9223372036854775807):∀(L:Nat) (i x:Int),0≤i→i≤v.length→0≤x→x≤n→(∀j,i≤j→j≤v.length→g v j=some (G6 v j))→v.length-i.toNat<L→
  ∃o,BD (λσ=>CQ v n g σ.1 σ.2) L (i,x)=some o∧B9 (λν=>Gk ν) o=some (I8 false none v i (n-x).toNat)
 | 0,i,x,_,_,_,_,_,h=>by omega
 | L+1,i,x,h0,h1,hx,hxn,hg,hL=>by
  cases hxl:decide (x<n) with
  | false=>
   refine⟨.go i,HF (by show CQ v n g i x=_;unfold CQ;rw[Ao hxl]),?_⟩;simp only[UV] at hxl;rw[show(n-x).toNat=0 from by omega];simp[B9,Gk,I8,IZ,Fo.flat]
  | true=>
   have hb:CQ v n g i x=Bg (decide (G6 v i<0)) (some (.out (.ret (-1)))) (Ba (BB .i64 (x+1))<|some (.next (G6 v i,x+1))):=by unfold CQ;rw[Az hxl,hg i (Vm i) h1,AF rfl]
   simp only[UU] at hxl;obtain⟨k,hk⟩:∃k,(n-x).toNat=k+1:=⟨(n-x).toNat-1,by omega⟩
   rw[hk];have e:I8 false none v i (k+1)=bif decide (G6 v i<0) then -1 else I8 false none v (G6 v i) k:=by
    unfold I8;rw[En];simp only[Gl,Va]
    cases hp:EZ (v.drop i.toNat) with
    | none=>simp[G6,hp]
    | some q=>
     obtain⟨f,ys⟩:=q;obtain⟨q1,q2,q3⟩:=Hj hp;have hi:G6 v i=i+f.flat.length:=by simp[G6,hp]
     have hd:v.drop (G6 v i).toNat=ys:=by rw[hi];exact Cq h0 q1
     rw[hd,UR (by omega)];simp only[Va]
     cases hr:Kj false none k ys with
     | none=>rfl
     | some q=>
      obtain⟨r,zs⟩:=q;simp only[Nb q3,Bu,VI,Vd,hi];omega
   rw[e];rcases Lw (v:=v) h0 h1 with hneg | ⟨hlt,hle⟩
   ·exact⟨.ret (-1),HF (hb.trans (by rw[hneg,Az (by decide)])),by rw[hneg];rfl⟩
   ·have hM:=hA.hM;have hvM:=hA.hv;obtain⟨o,ho1,ho2⟩:=HB hA hn L (G6 v i) (x+1) (by omega) hle (by omega) (by omega) (λj hj=>hg j (by omega)) (by omega);exact⟨o,L0 (hb.trans (by rw[Ao (UR (by omega)),AA (by omega) (by omega)])) ho1,by rw[ho2,show(n-(x+1)).toNat=k from by omega,UR (by omega)];rfl⟩
theorem Kf {F:Nat}(hA:Uu F M v){g:List Ab→Int→Option Int}{n:Int}(hn:n≤9223372036854775807):∀(L:Nat) (i x:Int) (last:Ak),0≤i→i≤v.length→0≤x→x≤n→(∀j,i≤j→j≤v.length→g v j=some (G6 v j))→v.length-i.toNat<L→
  ∃o,BD (λσ=>Di F v n g σ.1 σ.2.1 σ.2.2) L (i,last,x)=some o∧B9 (λν=>IV ν) o=some (I8 true (bif decide (0<x) then some last else none) v i (n-x).toNat)
 | 0,i,x,_,_,_,_,_,_,h=>by omega
 | L+1,i,x,last,h0,h1,hx,hxn,hg,hL=>by
  have hM:=hA.hM;have hvM:=hA.hv;have hMF:=hA.hF
  cases hxl:decide (x<n) with
  | false=>
   refine⟨.go i,HF (by show Di F v n g i last x=_;unfold Di;rw[Ao hxl]),?_⟩;simp only[UV] at hxl;rw[show(n-x).toNat=0 from by omega];simp[B9,IV,I8,IZ,Fo.flat]
  | true=>
   have hxl':=hxl;simp only[UU] at hxl;obtain⟨k,hk⟩:∃k,(n-x).toNat=k+1:=⟨(n-x).toNat-1,by omega⟩
   rw[hk]
   cases hd:v.drop i.toNat with
   | nil=>
    have hl:v.length≤i.toNat:=by simpa using hd
    refine⟨.ret (-1),HF (by
     show Di F v n g i last x=_;unfold Di;rw[Az hxl',Bx (by simp[imp,show(v.length:Int)≤i from by omega]),Bx (by simp[imp,show(v.length:Int)≤i from by omega]),Az (by simp[show(v.length:Int)≤i from by omega])]),?_⟩
    simp[B9,I8,hd,En,Gl]
   | cons c r=>
    obtain⟨g1,g2,g3⟩:=B8 h0 hd;have hcM:=hA.hc c (Vb g1);have hat:=Co h0 hd;have hnl:decide ((v.length:Int)≤i)=false:=by simp;omega
    have hb:Di F v n g i last x=Bg (!(decide (c.fKind=4)&&pl c)||decide (0<x)&&(BE c.fStr last||decide (c.fStr=last))) (some (.out (.ret (-1)))) (Bp (g v (i+1)) λha=>Bg (decide (ha<0)) (some (.out (.ret (-1)))) (Ba (BB .i64 (x+1))<|some (.next (ha,c.fStr,x+1)))):=by
     unfold Di;rw[Az hxl',Bx (by simp only[imp];rw[La h0 g3];simp),hat,OV (by omega) (by omega),Bx (by simp[imp])];simp only[hnl,ov,Vr,Vv];rw[AH h0 g3,AA (by omega) (by omega)]
    have hpk:Gl true (bif decide (0<x) then some last else none) (c::r)=bif (!(decide (c.fKind=4)&&pl c)||decide (0<x)&&(BE c.fStr last||decide (c.fStr=last))) then none else some (some c.fStr,r):=by
     simp only[Gl,Vf]
     cases h4:decide (c.fKind=4) with
     | false=>simp
     | true=>
      cases hp:pl c with
      | false=>simp
      | true=>
       have hok:=(Mf hp (by simpa using h4)).2
       cases h0x:decide (0<x) with
       | false=>simp[BW,hok]
       | true=>cases hs:(BE c.fStr last||decide (c.fStr=last))<;>simp[BW,hok,hs]
    cases ht:(!(decide (c.fKind=4)&&pl c)||decide (0<x)&&(BE c.fStr last||decide (c.fStr=last))) with
    | true=>
     rw[ht] at hpk;refine⟨.ret (-1),HF (hb.trans (Az ht)),?_⟩;simp only[I8,hd,En,hpk,Vf];rfl
    | false=>
     rw[ht] at hpk;rw[Ao ht,hg (i+1) (by omega) (by omega),AF rfl] at hb;have e:I8 true (bif decide (0<x) then some last else none) v i (k+1)=bif decide (G6 v (i+1)<0) then -1 else I8 true (some c.fStr) v (G6 v (i+1)) k:=by
      unfold I8;rw[hd,En,hpk];simp only[Va];have hx:G6 v (i+1)=match EZ r with | none=>-1 | some (f,_)=>i+1+f.flat.length:=by unfold G6;rw[g2]
      cases hp:EZ r with
      | none=>rw[hp] at hx;simp[hx]
      | some q=>
       obtain⟨f,ys⟩:=q;obtain⟨q1,q2,q3⟩:=Hj hp;rw[hp] at hx;simp only at hx;have hd2:v.drop (G6 v (i+1)).toNat=ys:=by rw[hx];exact Cq (by omega) (g2.trans q1)
       rw[hd2,UR (by omega)];simp only[Va]
       cases hr:Kj true (some c.fStr) k ys with
       | none=>rfl
       | some q=>
        obtain⟨r',zs⟩:=q;simp only[Nb q3,Bu,Vd,UZ,Vx,hx];omega
     rw[e];rcases Lw (v:=v) (i:=i+1) (by omega) (by omega) with hneg | ⟨hlt,hle⟩
     ·exact⟨.ret (-1),HF (hb.trans (by rw[hneg,Az (by decide)])),by rw[hneg];rfl⟩
     ·obtain⟨o,ho1,ho2⟩:=Kf hA hn L (G6 v (i+1)) (x+1) c.fStr (by omega) hle (by omega) (by omega) (λj hj=>hg j (by omega)) (by omega);exact⟨o,L0 (hb.trans (by rw[Ao (UR (by omega)),AA (by omega) (by omega)])) ho1,by rw[ho2,show(n-(x+1)).toNat=k from by omega,UT (show(0:Int)<x+1 from by omega),UR (by omega)];rfl⟩
theorem Nj {i:Int}{c:Ab}{r:List Ab}(h0:0≤i)(hd:v.drop i.toNat=c::r)(hp:pl c=true):G6 v i=I8 (decide (c.fKind=6)) none v (i+1) c.fN.toNat:=by
 have g2:=(B8 h0 hd).2.1;have hN:=SA hp;unfold G6 I8;rw[hd,EY,g2,hp];simp only[Vk,Va]
 cases hn:decide (0<c.fN) with
 | true=>
  simp only[Vf]
  cases hq:Kj (decide (c.fKind=6)) none c.fN.toNat r with
  | none=>rfl
  | some q=>
   obtain⟨kids,zs⟩:=q;simp only[Fo.flat,Bu,VI,UZ,Vz];omega
 | false=>
  simp only[UV] at hn;rw[show c.fN.toNat=0 from by omega,IZ];simp[Fo.flat,Bu]
theorem MV (hA:Uu (M+1) M v)(hN:∀c∈v,c.fN≤9223372036854775807):∀(d F:Nat) (i:Int),0≤i→i≤v.length→v.length-i.toNat=d→M+2*d+3<F→D7 F v i=some (G6 v i):=by
 have hM:=hA.hM;have hvM:=hA.hv;intro d
 induction d using Nat.strongRecOn with
 | ind d ih=>
  intro F i h0 h1 hd hF;obtain⟨F,rfl⟩:∃G,F=G+1:=⟨F-1,by omega⟩
  obtain⟨F,rfl⟩:∃G,F=G+1:=⟨F-1,by omega⟩
  rw[D7];unfold Rj
  cases hdr:v.drop i.toNat with
  | nil=>
   have hl:v.length≤i.toNat:=by simpa using hdr
   rw[Az (by simp;omega)];simp[G6,hdr,Nc]
  | cons c r=>
   obtain⟨g1,g2,g3⟩:=B8 h0 hdr;have hcM:=hA.hc c (Vb g1);have hcN:=hN c (Vb g1);rw[Ao (by simp;omega),AH h0 g3,Co h0 hdr];simp only[PW _ h0 (show i≤1152921504606846976 by omega),Option.isSome_some,ov,Vr,imp,VE,Bx (x:=_) (rfl:true=true)];have hg:∀j,i+1≤j→j≤v.length→D7 F v j=some (G6 v j):=λj hj hj2=>ih (v.length-j.toNat) (by omega) F j (by omega) hj2 rfl (by omega);have hpl0:pl c=false→G6 v i = -1:=λhp=>by simp[G6,hdr,EY,hp]
   have hleaf:pl c=true→c.fN=0→G6 v i=i+1:=λhp h0'=>by simp[G6,hdr,EY,hp,h0',Fo.flat,Bu]
   have hscal:∀b:Bool,pl c=b→(b=true→c.fN=0)→G6 v i=bif b then i+1 else -1:=λb hb hz=>by
    cases b
    ·exact hpl0 hb
    ·exact hleaf hb (hz rfl)
   by_cases k1:c.fKind=1
   ·rw[Az (by simp[k1])];have hp:pl c=(decide (c.fInt=0)&&(decide (c.fStr=[])&&decide (c.fN=0))):=by simp[pl,k1]
    rw[hscal _ hp (λh=>by simp at h;exact h.2.2)]
    cases decide (c.fInt=0)<;>cases decide (c.fStr=[])<;>cases decide (c.fN=0)<;>rfl
   rw[Ao (by simp[k1])]
   by_cases k2:c.fKind=2
   ·rw[Az (by simp[k2])];have hp:pl c=((decide (c.fInt=0)||decide (c.fInt=1))&&(decide (c.fStr=[])&&decide (c.fN=0))):=by simp[pl,k2]
    rw[hscal _ hp (λh=>by simp at h;exact h.2.2)]
    cases decide (c.fInt=0)<;>cases decide (c.fInt=1)<;>cases decide (c.fStr=[])<;>cases decide (c.fN=0)<;>rfl
   rw[Ao (by simp[k2])]
   by_cases k3:c.fKind=3
   ·rw[Az (by simp[k3])];have hp:pl c=(decide (c.fStr=[])&&decide (c.fN=0)):=by simp[pl,k3]
    rw[hscal _ hp (λh=>by simp at h;exact h.2)]
    cases decide (c.fStr=[])<;>cases decide (c.fN=0)<;>rfl
   rw[Ao (by simp[k3])]
   by_cases k4:c.fKind=4
   ·rw[Az (by simp[k4]),OV (by omega) (by omega),AF rfl,AF rfl];rw[UT k4,Vs,hscal (pl c) rfl (λhp=>by have:=(Mf hp k4).1;rw[this])]
   rw[Ao (by simp[k4])]
   by_cases k5:c.fKind=5
   ·have hp:pl c=(decide (c.fInt=0)&&(decide (c.fStr=[])&&decide (0≤c.fN))):=by simp[pl,k5]
    rw[show(decide (c.fKind=5)&&(decide (c.fInt=0)&&(decide (c.fStr=[])&&decide (0≤c.fN))))=pl c from by rw[hp,UT k5,Vs]];have k5' : ¬ c.fKind=6:=by omega
    cases hb:pl c with
    | false=>rw[Ao rfl,Ao (by simp[k5]),hpl0 hb]
    | true=>
     have hn0:=SA hb;rw[Az rfl,AA (by omega) (by omega),Lq];unfold Kg;obtain⟨o,ho1,ho2⟩:=HB (F:=F) ⟨hM,hvM,by omega,hA.hc⟩ hcN F (i+1) 0 (by omega) (by omega) (Vm 0) hn0 hg (by omega);rw[AF ho1,ho2,AF rfl,Nj h0 hdr hb,UR k5',Int.sub_zero]
   rw[Ao (by simp[k5])]
   by_cases k6:c.fKind=6
   ·have hp:pl c=(decide (c.fInt=0)&&(decide (c.fStr=[])&&decide (0≤c.fN))):=by simp[pl,k6]
    rw[show(decide (c.fKind=6)&&(decide (c.fInt=0)&&(decide (c.fStr=[])&&decide (0≤c.fN))))=pl c from by rw[hp,UT k6,Vs]]
    cases hb:pl c with
    | false=>rw[Ao rfl,hpl0 hb]
    | true=>
     have hn0:=SA hb;rw[Az rfl,AA (by omega) (by omega),Ri];unfold OT;obtain⟨o,ho1,ho2⟩:=Kf (F:=F) ⟨hM,hvM,by omega,hA.hc⟩ hcN F (i+1) 0 [] (by omega) (by omega) (Vm 0) hn0 hg (by omega);rw[AF ho1,ho2,AF rfl,Nj h0 hdr hb,UT k6,Int.sub_zero];rfl
   ·rw[Ao (by simp[k6]),hpl0 (by simp[pl,k1,k2,k3,k4,k5,k6])]
theorem Oc (hA:Uu (M+1) M v)(hN:∀c∈v,c.fN≤9223372036854775807){F:Nat}(hF:3*M+3<F):LZ F v=some (decide (G6 v 0=v.length)):=by
 have hvM:=hA.hv;unfold LZ;rw[MV hA hN v.length F 0 (Vm 0) (by omega) (by simp) (by omega)];simp only[imp,Option.isSome_some,VE,Bx,ov,Vr]
 cases v with
 | nil=>simp[G6,Nc]
 | cons c r=>
  rw[show decide (0<((c::r).length:Int))=true from by simp,Vs]
  first | done | rfl
end
theorem Pa {m:Bool}{last key:Option Ak}{r:List Ab}(h:BW m last key=true):Gl m last (Bu key++r)=some (key,r):=by
 cases key with
 | none=>
  have:m=false:=by simpa[BW] using h
  subst this;rfl
 | some s=>
  have h':=h;simp only[BW,UX] at h;obtain⟨⟨h1,h2⟩,h3⟩:=h;subst h1;have hp:pl ⟨4,0,s,0⟩=true:=by simp[pl,h2]
  show(bif pl ⟨4,0,s,0⟩&&decide ((4:Int)=4)&&BW true last (some s) then _ else _)=_;rw[hp,h'];rfl
theorem JO:∀(f:Fo) (m:Bool) (last:Option Ak) (ys:List Ab),f.wf m last=true→Kj m last f.cnt (f.flat++ys)=some (f,ys)
 | .nil,_,_,_,_=>rfl
 | .cell k c r,m,last,ys,hw=>by
  simp only[Fo.wf,UX,Vq] at hw;obtain⟨⟨⟨w1,w2⟩,w3⟩,w4⟩:=hw;simp only[Fo.cnt,Fo.flat,Vo,VD];rw[En,Pa w1];simp only[EY,w2,w3,Vk,Va,JO r m k ys w4,Fo.put]
 | .node k c kids r,m,last,ys,hw=>by
  simp only[Fo.wf,UX,UU] at hw;obtain⟨⟨⟨⟨⟨w1,w2⟩,w3⟩,w5⟩,w6⟩,w4⟩:=hw;simp only[Fo.cnt,Fo.flat,Vo,VD];rw[En,Pa w1];have e:c.fN.toNat=kids.cnt:=by omega
  simp only[EY,w2,UT w3,Vk,Va,Vf,e,JO kids _ none (r.flat++ys) w6,JO r m k ys w4,Fo.put]
theorem Pb {f:Fo}{ys:List Ab}(h1:f.one=true)(hw:f.wf false none=true):EZ (f.flat++ys)=some (f,ys):=by
 have:=JO f false none ys hw;have hc:f.cnt=1:=by
  cases f with
  | nil=>cases h1
  | cell k c r=>cases k with
   | some _=>cases h1
   | none=>cases r with
    | nil=>rfl
    | _=>cases h1
  | node k c kids r=>cases k with
   | some _=>cases h1
   | none=>cases r with
    | nil=>rfl
    | _=>cases h1
 rw[hc] at this;exact this
structure Ie (M:Nat) (v:List Ab):Prop where
 hM:M≤1000000000
 hv:v.length≤M
 hc:∀c∈v,c.fStr.length≤M∧BB .i64 c.fInt=true∧c.fN≤9223372036854775807
theorem Ie.lk {M F:Nat}{v:List Ab}(h:Ie M v)(hF:M<F):P7 F M v:=⟨by have:=h.hM;omega,by have:=h.hM;omega,h.hv,hF,h.hc⟩
theorem Ie.rf {M F:Nat}{v:List Ab}(h:Ie M v)(hF:M<F):Uu F M v:=⟨by have:=h.hM;omega,h.hv,hF,λc hc=>(h.hc c hc).1⟩
theorem Ie.drop {M:Nat}{v:List Ab}(h:Ie M v)(k:Nat):Ie M (v.drop k):=⟨h.hM,by have:=h.hv;rw[List.length_drop];omega,λc hc=>h.hc c (List.mem_of_mem_drop hc)⟩
theorem Ie.take {M:Nat}{v:List Ab}(h:Ie M v)(k:Nat):Ie M (v.take k):=⟨h.hM,by have:=h.hv;rw[List.length_take];omega,λc hc=>h.hc c (List.mem_of_mem_take hc)⟩
def whole (v:List Ab):Option Fo:=match EZ v with
 | some (f,[])=>some f
 | _=>none
theorem JX {v:List Ab}{f:Fo}(h:whole v=some f):v=f.flat∧f.wf false none=true∧f.one=true:=by
 unfold whole at h
 cases hp:EZ v with
 | none=>rw[hp] at h;cases h
 | some q=>
  obtain⟨g,ys⟩:=q;rw[hp] at h
  cases ys with
  | cons _ _=>cases h
  | nil=>
   cases h
   obtain⟨h1,h2,h3⟩:=Hj hp;exact⟨by simpa using h1,h2,h3⟩
theorem QO {f:Fo}(h1:f.one=true)(hw:f.wf false none=true):whole f.flat=some f:=by
 have:=Pb (ys:=[]) h1 hw;rw[Vz] at this;simp[whole,this]
def O7 (f:Fo):Int:=
 bif f.flat.any E7 then 2 else bif f.flat.any Eb||(decide (200<f.flat.length)||(decide (8<f.dep)||decide (4000<(f.txt true).length))) then 3 else 0
def DF (v:List Ab):Int:=match whole v with
 | none=>1
 | some f=>O7 f
theorem Pe {f:Fo}(h1:f.one=true):f.cnt=1:=by
 cases f with
 | nil=>cases h1
 | cell k c r=>cases k with
  | some _=>cases h1
  | none=>cases r with
   | nil=>rfl
   | _=>cases h1
 | node k c kids r=>cases k with
  | some _=>cases h1
  | none=>cases r with
   | nil=>rfl
   | _=>cases h1
theorem Me (s:Ak):IY s≤2*s.length+2+s.length:=by
 have h1:s.count 34≤s.length:=List.count_le_length;have h2:s.count 92≤s.length:=List.count_le_length;unfold IY;omega
theorem TC {c:Ab}{M:Nat}(hp:pl c=true)(hs:c.fStr.length≤M)(hi:(Lib.itoa c.fInt).length≤21):Sl c≤3*M+21:=by
 have:=Me c.fStr;unfold Sl
 cases h1:decide (c.fKind=1) with
 | true=>simp only[Vf];omega
 | false=>
  cases h2:decide (c.fKind=2) with
  | true=>
   simp[pl,h1,h2] at hp;simp only[Va,Vf];omega
  | false=>
   cases h3:decide (c.fKind=3) with
   | true=>simp only[Va,Vf];omega
   | false=>cases h4:decide (c.fKind=4)<;>simp only[Va,Vf]<;>omega
theorem Mu {M:Nat}:∀{f:Fo} {m:Bool} {l:Option Ak},f.wf m l=true→(∀c∈f.flat,c.fStr.length≤M∧BB .i64 c.fInt=true∧c.fN≤9223372036854775807)→f.byt+f.cnt≤(3*M+24)*f.flat.length
 | .nil,_,_,_,_=>by simp[Fo.byt,Fo.flat,Fo.cnt]
 | .cell k c r,m,l,hw,hc=>by
  simp only[Fo.wf,UX,Vq] at hw;obtain⟨⟨⟨w1,w2⟩,w3⟩,w4⟩:=hw;simp only[Fo.flat] at hc;have ih:=Mu w4 (λx hx=>hc x (by simp[hx]));obtain⟨c1,c2,c3⟩:=hc c (by simp);have i64:=JS c2;have hl:=TC w2 c1 (Lib.itoa_length_le c.fInt i64.1 i64.2);have hk:Mn k≤(3*M+24)*(Bu k).length:=by
   cases k with
   | none=>simp[Mn,Bu]
   | some s=>
    have:=(hc ⟨4,0,s,0⟩ (by simp[Bu])).1;have h2:=Me s;simp only at this;simp only[Mn,Bu,V2];omega
  simp only[Fo.byt,Fo.flat,Fo.cnt,Vd,UZ];have e:((3*(M:Int)+24)*(((Bu k).length+(r.flat.length+1):Nat):Int))=(3*(M:Int)+24)*(Bu k).length+((3*(M:Int)+24)*r.flat.length+(3*(M:Int)+24)):=by
   push_cast;rw[Int.mul_add,Int.mul_add,Int.mul_one]
  rw[e]
  push_cast at *
  omega
 | .node k c kids r,m,l,hw,hc=>by
  simp only[Fo.wf,UX,UU] at hw;obtain⟨⟨⟨⟨⟨w1,w2⟩,w3⟩,w5⟩,w6⟩,w4⟩:=hw;simp only[Fo.flat] at hc;have ih:=Mu w4 (λx hx=>hc x (by simp[hx]));have ih2:=Mu w6 (λx hx=>hc x (by simp[hx]));have hcf:=BR kids;have hk:Mn k≤(3*M+24)*(Bu k).length:=by
   cases k with
   | none=>simp[Mn,Bu]
   | some s=>
    have:=(hc ⟨4,0,s,0⟩ (by simp[Bu])).1;have h2:=Me s;simp only at this;simp only[Mn,Bu,V2];omega
  simp only[Fo.byt,Fo.flat,Fo.cnt,Vd,UZ];have e:((3*(M:Int)+24)*(((Bu k).length+(kids.flat.length+r.flat.length+1):Nat):Int))=(3*(M:Int)+24)*(Bu k).length+((3*(M:Int)+24)*kids.flat.length+(3*(M:Int)+24)*r.flat.length+(3*(M:Int)+24)):=by
   push_cast;rw[Int.mul_add,Int.mul_add,Int.mul_add,Int.mul_one]
  rw[e]
  push_cast at *
  omega
theorem LE {M:Nat}(hM:M≤1000000){f:Fo}{m:Bool}{l:Option Ak}(hw:f.wf m l=true)(hl:f.flat.length≤M)(hc:∀c∈f.flat,c.fStr.length≤M∧BB .i64 c.fInt=true∧c.fN≤9223372036854775807):f.byt≤4000000000000:=by
 have:=Mu (M:=M) hw hc;have h2:(3*M+24)*f.flat.length≤(3*1000000+24)*1000000:=Nat.mul_le_mul (by omega) (by omega);have h3:(((3*M+24)*f.flat.length:Nat):Int)=(3*(M:Int)+24)*f.flat.length:=by push_cast;rfl
 omega
theorem Lk {M F:Nat}{v:List Ab}(hA:Ie M v)(hM:M≤1000000)(hF:M<F):IR F v=some (DF v):=by
 unfold IR DF whole;have hvM:=hA.hv;rcases SN (hA.lk hF) with⟨f,ys,hp,hl⟩ | ⟨hp,sh',hl⟩
 ·rw[hl,AF rfl,hp];obtain⟨h1,h2,h3⟩:=Hj hp;have hlen:v.length=f.flat.length+ys.length:=by rw[h1];simp
  cases ys with
  | cons c r=>
   rw[Az];simp only[UZ] at hlen;simp;omega
  | nil=>
   simp only[Vx,Nat.add_zero] at hlen;rw[Ao (by simp[hlen])];have hc:∀c∈f.flat,c.fStr.length≤M∧BB .i64 c.fInt=true∧c.fN≤9223372036854775807:=λc hc=>hA.hc c (by rw[h1];simp[hc]);have hb:=LE hM h2 (by omega) hc;have hb0:=Gz h2;have e1:(f.sh 0 KM).fOutside=f.flat.any E7:=by rw[LR];rfl
   have e2:(f.sh 0 KM).fLong=f.flat.any Eb:=by rw[JK];rfl
   have e3:(f.sh 0 KM).fDepth=f.dep:=by rw[Iq f 0 KM (by simp[KM])];simp[KM]
   have e4:(f.sh 0 KM).fBytes=(f.txt true).length:=by
    rw[Ir f false none 0 KM h2 (by simp[KM]) (by simp[KM];omega),Ip f false none true h2,Pe h3];simp[KM]
   simp only;rw[e1,e2,e3,e4,hlen];unfold O7
   cases f.flat.any E7 with
   | true=>rw[Az rfl];rfl
   | false=>
    rw[Ao rfl];have a1:decide ((200:Int)<(f.flat.length:Int))=decide (200<f.flat.length):=by rw[Vl];simp;omega
    have a2:decide ((8:Int)<(f.dep:Int))=decide (8<f.dep):=by rw[Vl];simp;omega
    have a3:decide ((4000:Int)<((f.txt true).length:Int))=decide (4000<(f.txt true).length):=by rw[Vl];simp;omega
    rw[a1,a2,a3]
    cases(f.flat.any Eb||(decide (200<f.flat.length)||(decide (8<f.dep)||decide (4000<(f.txt true).length))))<;>rfl
 ·rw[hl,AF rfl,hp];rfl
theorem Mh {v:List Ab}{p:Int}{f:Fo}{ys:List Ab}(h1:f.one=true)(hw:f.wf false none=true)(hd:v.drop p.toNat=f.flat++ys):G6 v p=p+f.flat.length:=by
 unfold G6;rw[hd,Pb h1 hw]
theorem OL {c:Ab}(hp:pl c=true)(hn:decide (0<c.fN)=false):(Fo.cell none c .nil).wf false none=true:=by simp[Fo.wf,BW,hp,hn]
theorem OK {c:Ab}{kids:Fo}(hp:pl c=true)(hn:0<c.fN)(hk:c.fN=kids.cnt)(hw:kids.wf (decide (c.fKind=6)) none=true):(Fo.node none c kids .nil).wf false none=true:=by simp[Fo.wf,BW,hp,hn,hk,hw];omega
section
variable {M : Nat} {v : List Ab}
theorem Ie.next (hA:Ie M v){F:Nat}(hF:3*M+3<F){p:Int}(h0:0≤p)(h1:p≤v.length):D7 F v p=some (G6 v p):=by
 have hM:=hA.hM;have hvM:=hA.hv;exact MV (hA.rf (Vn M)) (λc hc=>(hA.hc c hc).2.2) (v.length-p.toNat) F p h0 h1 rfl (by omega)
theorem I0 {F:Nat}{p:Int}{c:Ab}{r:List Ab}(h0:0≤p)(hpM:p≤1152921504606846976)(hd:v.drop p.toNat=c::r)(hp:pl c=true)(hn:decide (0<c.fN)=false):D1 (F+2) v p=some 1:=by
 obtain⟨g1,g2,g3⟩:=B8 h0 hd;rw[D1];unfold Iz;rw[AH h0 g3,Co h0 hd]
 cases hk:(!decide (c.fKind=5)&&!decide (c.fKind=6)) with
 | true=>rw[Az rfl]
 | false=>
  rw[Ao rfl,AA (by omega) (by omega),AF (HF (o:=.go 0) (by
   show Cu (F+1) v p _ 0 (p+1) 0=_;unfold Cu;rw[Co h0 hd,Ao hn]))]
  simp only[B9,Ev];rw[AA (by omega) (by omega)];rfl
theorem Lp {F:Nat}{i:Int}{rec:List Ab→Int→Option Int}{most at_ x L:Int}{m:Bool}{p q:Int}{pc:Ab}(hpc:Ae v i=pc)(hm:decide (pc.fKind=6)=m)(hx:x<pc.fN)(hx0:0≤x)(hpcN:pc.fN≤9223372036854775807)
  (ha0:0≤at_) (haM:at_≤1152921504606846976) (hp:p=bif m then at_+1 else at_) (hr:rec v p=some L) (hq:D7 F v p=some q):Cu F v i rec most at_ x=some (.next (max most L,q,x+1)):=by
 unfold Cu;rw[hpc,Az (by simpa using hx),hm]
 cases m with
 | true=>
  simp only[Vf] at hp;rw[Az rfl,AA (by omega) (by omega),← hp,hr,AF rfl]
  cases hl:decide (most<L) with
  | true=>rw[Az rfl,hq,AF rfl,AA (by omega) (by omega),Int.max_eq_right (by simp at hl;omega)]
  | false=>rw[Ao rfl,hq,AF rfl,AA (by omega) (by omega),Int.max_eq_left (by simp at hl;omega)]
 | false=>
  simp only[Va] at hp;rw[Ao rfl,← hp,hr,AF rfl]
  cases hl:decide (most<L) with
  | true=>rw[Az rfl,hq,AF rfl,AA (by omega) (by omega),Int.max_eq_right (by simp at hl;omega)]
  | false=>rw[Ao rfl,hq,AF rfl,AA (by omega) (by omega),Int.max_eq_left (by simp at hl;omega)]
theorem JQ {m:Bool}{last key:Option Ak}(h:BW m last key=true):((Bu key).length:Int)=bif m then 1 else 0:=by
  cases key with
  | none=>
            have:m=false:=by simpa[BW] using h
            subst this;rfl
  | some s=>simp only[BW,UX] at h;rw[h.1.1];rfl
theorem MW (hA:Ie M v):∀(g:Fo) (F L:Nat) (i at_ x most:Int) (m:Bool) (last:Option Ak) (ys:List Ab) (pc:Ab),Ae v i=pc→decide (pc.fKind=6)=m→pc.fN≤9223372036854775807→g.wf m last=true→v.drop at_.toNat=g.flat++ys→0≤at_→at_≤v.length→pc.fN=x+g.cnt→0≤x→0≤most→most≤1152921504606846976→g.cnt<L→3*M+5+g.flat.length<F→
  ∃o,BD (λσ=>Cu F v i (D1 F) σ.1 σ.2.1 σ.2.2) L (most,at_,x)=some o∧B9 (λν=>Ev ν) o=some (max most (g.dep:Int)+1):=by
 have hM:=hA.hM;have hvM:=hA.hv;have fin:∀(F L:Nat) (i at_ x most:Int) (pc:Ab),Ae v i=pc→pc.fN≤x→0≤most→most≤1152921504606846976→0<L→∃o,BD (λσ=>Cu F v i (D1 F) σ.1 σ.2.1 σ.2.2) L (most,at_,x)=some o∧B9 (λν=>Ev ν) o=some (most+1):=λF L i at_ x most pc hpc hx h0 hb hL=>by
  obtain⟨L,rfl⟩:∃K,L=K+1:=⟨L-1,by omega⟩
  refine⟨.go most,HF (by show Cu F v i _ most at_ x=_;unfold Cu;rw[hpc,Ao (by simp;omega)]),?_⟩;simp only[B9,Ev];rw[AA (by omega) (by omega)]
 have depM:∀g:Fo,g.dep≤g.flat.length:=by
  intro g
  induction g with
  | nil=>simp[Fo.dep]
  | cell k c r ih=>simp[Fo.dep,Fo.flat];omega
  | node k c kids r ih1 ih2=>simp[Fo.dep,Fo.flat];omega
 intro g
 induction g with
 | nil=>
  intro F L i at_ x most m last ys pc hpc hm hpN hw hd h0 h1 hN hx hmo hmM hL hF;obtain⟨o,h1,h2⟩:=fin F L i at_ x most pc hpc (by simp[Fo.cnt] at hN;omega) hmo hmM (by omega);exact⟨o,h1,by rw[h2];simp only[Fo.dep];congr 2<;>omega⟩
 | cell k c r ih=>
  intro F L i at_ x most m last ys pc hpc hm hpN hw hd h0 h1 hN hx hmo hmM hL hF;simp only[Fo.wf,UX,Vq] at hw;obtain⟨⟨⟨w1,w2⟩,w3⟩,w4⟩:=hw;simp only[Fo.flat,Vo,VD] at hd;simp only[Fo.cnt] at hN hL;simp only[Fo.flat,Vd,UZ] at hF;obtain⟨L,rfl⟩:∃K,L=K+1:=⟨L-1,by omega⟩
  obtain⟨F,rfl⟩:∃K,F=K+2:=⟨F-2,by omega⟩
  have hd1:=Cq h0 hd;have hkl:=JQ w1;obtain⟨g1,g2,g3⟩:=B8 (by omega) hd1;have hlen:at_+(Bu k).length=bif m then at_+1 else at_:=by rw[hkl];cases m<;>simp
  have hq:=hA.next (F:=F+2) (by omega) (p:=at_+(Bu k).length) (by omega) (by omega);rw[Mh (f:=.cell none c .nil) (ys:=r.flat++ys) rfl (OL w2 w3) hd1] at hq;have hb:=Lp (most:=most) (x:=x) hpc hm (by omega) hx hpN h0 (by omega) hlen (I0 (F:=F) (by omega) (by omega) hd1 w2 w3) hq;have hdd:=depM r;obtain⟨o,ho1,ho2⟩:=ih (F+2) L i (at_+(Bu k).length+((Fo.cell none c .nil).flat.length:Int)) (x+1) (max most 1) m k ys pc hpc hm hpN w4 (by rw[show(Fo.cell none c .nil).flat.length=1 from rfl];exact g2) (by omega) (by rw[show(Fo.cell none c .nil).flat.length=1 from rfl];omega) (by omega) (by omega) (by omega) (by omega) (by omega) (by omega);refine⟨o,L0 hb ho1,?_⟩;rw[ho2,Fo.dep];congr 2<;>omega
 | node k c kids r ihk ih=>
  intro F L i at_ x most m last ys pc hpc hm hpN hw hd h0 h1 hN hx hmo hmM hL hF;simp only[Fo.wf,UX,UU] at hw;obtain⟨⟨⟨⟨⟨w1,w2⟩,w3⟩,w5⟩,w6⟩,w4⟩:=hw;simp only[Fo.flat,Vo,VD] at hd;simp only[Fo.cnt] at hN hL;simp only[Fo.flat,Vd,UZ] at hF;obtain⟨L,rfl⟩:∃K,L=K+1:=⟨L-1,by omega⟩
  obtain⟨F,rfl⟩:∃K,F=K+1:=⟨F-1,by omega⟩
  have hd1:=Cq h0 hd;have hkl:=JQ w1;obtain⟨g1,g2,g3⟩:=B8 (by omega) hd1;have hcN:=(hA.hc c (Vb g1)).2.2;have hlen:at_+(Bu k).length=bif m then at_+1 else at_:=by rw[hkl];cases m<;>simp
  have hq:=hA.next (F:=F+1) (by omega) (p:=at_+(Bu k).length) (by omega) (by omega);have hfl:(Fo.node none c kids .nil).flat=c::kids.flat:=by simp[Fo.flat,Bu]
  rw[Mh (f:=.node none c kids .nil) (ys:=r.flat++ys) rfl (OK w2 w3 w5 w6) (by rw[hd1,hfl];simp)] at hq;have hdk:=depM kids;have hdd:=depM r;have hcf:=BR kids;have hvl:(v.drop (at_+(Bu k).length+1).toNat).length=kids.flat.length+(r.flat.length+ys.length):=by rw[g2];simp
  rw[List.length_drop] at hvl;have hrec:D1 (F+1) v (at_+(Bu k).length)=some ((kids.dep:Int)+1):=by
   rw[D1];unfold Iz;rw[AH (by omega) g3,Co (by omega) hd1];have ha:=(I2 w2 w3).1;rw[Ao (by simp;omega),AA (by omega) (by omega)];obtain⟨o,ho1,ho2⟩:=ihk F F (at_+(Bu k).length) (at_+(Bu k).length+1) 0 0 _ none (r.flat++ys) c (Co (by omega) hd1) rfl hcN w6 (by rw[g2]) (by omega) (by omega) (by omega) (Vm 0) (Vm 0) (by omega) (by omega) (by omega);rw[AF ho1,ho2];congr 2<;>omega
  have hb:=Lp (most:=most) (x:=x) hpc hm (by omega) hx hpN h0 (by omega) hlen hrec hq;obtain⟨o,ho1,ho2⟩:=ih (F+1) L i (at_+(Bu k).length+((Fo.node none c kids .nil).flat.length:Int)) (x+1) (max most ((kids.dep:Int)+1)) m k ys pc hpc hm hpN w4 (by
   have:=Cq (by omega) g2;rw[hfl,UZ,show at_+(Bu k).length+((kids.flat.length+1:Nat):Int)=at_+(Bu k).length+1+kids.flat.length from by omega];exact this) (by omega) (by rw[hfl,UZ];omega) (by omega) (by omega) (by omega) (by omega) (by omega) (by omega)
  refine⟨o,L0 hb ho1,?_⟩;rw[ho2,Fo.dep];congr 2<;>omega
theorem Ob (hA:Ie M v){F:Nat}{p:Int}{f:Fo}{ys:List Ab}(h0:0≤p)(h1:f.one=true)(hw:f.wf false none=true)(hd:v.drop p.toNat=f.flat++ys)(hF:3*M+6+f.flat.length<F):D1 F v p=some (f.dep:Int):=by
 have hM:=hA.hM;have hvM:=hA.hv
 cases f with
 | nil=>cases h1
 | cell k c r=>
  cases k with
  | some s=>cases h1
  | none=>
   cases r with
   | nil=>
    simp only[Fo.wf,UX,Vq] at hw;obtain⟨F,rfl⟩:∃K,F=K+2:=⟨F-2,by omega⟩
    have hd':v.drop p.toNat=c::ys:=by simpa[Fo.flat,Bu] using hd
    rw[I0 h0 (by have:=(B8 h0 hd').2.2;omega) hd' hw.1.1.2 hw.1.2];rfl
   | cell _ _ _=>cases h1
   | node _ _ _ _=>cases h1
 | node k c kids r=>
  cases k with
  | some s=>cases h1
  | none=>
   cases r with
   | nil=>
    simp only[Fo.wf,UX,UU] at hw;obtain⟨⟨⟨⟨⟨w1,w2⟩,w3⟩,w5⟩,w6⟩,w4⟩:=hw;have hd':v.drop p.toNat=c::(kids.flat++ys):=by simpa[Fo.flat,Bu] using hd
    obtain⟨g1,g2,g3⟩:=B8 h0 hd';have hcN:=(hA.hc c (Vb g1)).2.2;have hcf:=BR kids;simp only[Fo.flat,Bu,VI,Vz,UZ] at hF;obtain⟨F,rfl⟩:∃K,F=K+1:=⟨F-1,by omega⟩
    rw[D1];unfold Iz;have ha:=(I2 w2 w3).1;rw[AH h0 g3,Co h0 hd',Ao (by simp;omega),AA (by omega) (by omega)];obtain⟨o,ho1,ho2⟩:=MW hA kids F F p (p+1) 0 0 _ none ys c (Co h0 hd') rfl hcN w6 g2 (by omega) (by omega) (by omega) (Vm 0) (Vm 0) (by omega) (by omega) (by omega);rw[AF ho1,ho2];simp only[Fo.dep];congr 1<;>omega
   | cell _ _ _=>cases h1
   | node _ _ _ _=>cases h1
end
end Go.Proofs.YtfbmdidnlhifjaaGreatDoor
