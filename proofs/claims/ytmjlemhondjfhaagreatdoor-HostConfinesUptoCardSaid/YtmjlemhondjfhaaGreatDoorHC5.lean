/-
  Texts of the proof, put together: WHh, PHi, WHi, PHj, WHj, OkHostConfines, LvA, LvB, LvC, LvD, LvE, LvF, LvG, LvH, LvI, LvJ, LvK, LvL, LvM, LvN, LvO, LvP, LaB, LaC.
-/
import Derived.Test.YtmjlemhondjfhaaGreatDoorHC4
import GoSem.ClaimData
import Derived.Laws.BitsLemmas
namespace Go.Proofs.YtmjlemhondjfhaaGreatDoor.Q
open Go Go.RowKit
set_option linter.unusedVariables false
set_option linter.unusedSimpArgs false
set_option maxRecDepth 100000
set_option maxHeartbeats 4000000
@[reducible] def AE (x:AZ):List Rp:=[rS x.fName,rS x.fText,rS x.fPrevious,rB x.fRotated,A2 x.fUntil,A2 x.fSince,A2 x.fVersion,AJ 1 (A3 eS x.fBound)]
theorem D9 (x:AZ):(AE x).length=8:=rfl
theorem E2 (x:AZ):(AE x).all (·.one)=true:=rfl
theorem SC:∃inf,Tryz.prog.info? 169=some inf∧inf.zero=some (.agg #[(.string ⟨#[]⟩),(.string ⟨#[]⟩),(.string ⟨#[]⟩),(.bool false),(.int .i64 0),(.int .i64 0),(.int .i64 0),(.slice none 0 0)])∧inf.size=8∧inf.bytes=104:=by
  have key:(Tryz.prog.info? 169).map (λi=>(i.zero,i.size,i.bytes))=some (some (.agg #[(.string ⟨#[]⟩),(.string ⟨#[]⟩),(.string ⟨#[]⟩),(.bool false),(.int .i64 0),(.int .i64 0),(.int .i64 0),(.slice none 0 0)]),8,104):=by kernel_rfl
  obtain⟨inf,h1,h2⟩:=Option.map_eq_some_iff.1 key;simp only[Prod.mk.injEq] at h2;exact⟨inf,h1,h2.1,h2.2.1,h2.2.2⟩
theorem Aay (parts:List (Nat×Value)):Tryz.prog.built 165 parts=Instr.fill (λi=>(#[(0,1),(1,1)]:Array (Nat×Nat))[i]?) #[(.bool false),((.slice none 0 0))] parts:=by kernel_rfl
theorem Sw {n:Nat}{c:Cx}{l:Fr}{H:List Ent}{d:Option Nat}{ty:TypeId}{pos:String}{af:Array Edge}{g:Option (Nat×Bool)}{x0:Operand}{r0:Rp}(h0:ev l x0=some r0)(u0:r0.one=true):BD Tryz.prog n c l H { dst:=d,op:=.build 165 #[(0,x0)],type:=ty,pos:=pos,after:=af,guard:=g } (BB [r0,rv (.slice none 0 0)]):=λa w Z ha _=>by
  have p0:=ha.ev h0;have c0:=Bz (r0.hone u0 Z _ p0);have hb:Tryz.prog.built 165 [(0,a.eval x0)]=some #[a.eval x0,((.slice none 0 0))]:=by
    rw[Aay];generalize a.eval x0=v0 at *;simp[Instr.fill,c0]
  refine⟨.agg #[a.eval x0,((.slice none 0 0))],⟨[a.eval x0,((.slice none 0 0))],rfl,p0,rfl,trivial⟩,?_⟩;have:=run_build w 165 #[(0,a.eval x0)] _ (by simpa using hb);simp[execOp,this]
theorem Aax (parts:List (Nat×Value)):Tryz.prog.built 169 parts=Instr.fill (λi=>(#[(0,1),(1,1),(2,1),(3,1),(4,1),(5,1),(6,1),(7,1)]:Array (Nat×Nat))[i]?) #[(.string ⟨#[]⟩),(.string ⟨#[]⟩),(.string ⟨#[]⟩),(.bool false),(.int .i64 0),(.int .i64 0),(.int .i64 0),((.slice none 0 0))] parts:=by kernel_rfl
theorem NV {n:Nat}{c:Cx}{l:Fr}{H:List Ent}{d:Option Nat}{ty:TypeId}{pos:String}{af:Array Edge}{g:Option (Nat×Bool)}{x0:Operand}{r0:Rp}(h0:ev l x0=some r0)(u0:r0.one=true){x1:Operand}{r1:Rp}(h1:ev l x1=some r1)(u1:r1.one=true){x6:Operand}{r6:Rp}(h6:ev l x6=some r6)(u6:r6.one=true):BD Tryz.prog n c l H { dst:=d,op:=.build 169 #[(0,x0),(1,x1),(6,x6)],type:=ty,pos:=pos,after:=af,guard:=g } (BB [r0,r1,rS ([]:Ah),rB false,A2 0,A2 0,r6,rv (.slice none 0 0)]):=λa w Z ha _=>by
  have p0:=ha.ev h0;have c0:=Bz (r0.hone u0 Z _ p0);have p1:=ha.ev h1;have c1:=Bz (r1.hone u1 Z _ p1);have p6:=ha.ev h6;have c6:=Bz (r6.hone u6 Z _ p6);have hb:Tryz.prog.built 169 [(0,a.eval x0),(1,a.eval x1),(6,a.eval x6)]=some #[a.eval x0,a.eval x1,(.string ⟨#[]⟩),(.bool false),(.int .i64 0),(.int .i64 0),a.eval x6,((.slice none 0 0))]:=by
    rw[Aax];generalize a.eval x0=v0 at *;generalize a.eval x1=v1 at *;generalize a.eval x6=v6 at *;simp[Instr.fill,c0,c1,c6]
  refine⟨.agg #[a.eval x0,a.eval x1,(.string ⟨#[]⟩),(.bool false),(.int .i64 0),(.int .i64 0),a.eval x6,((.slice none 0 0))],⟨[a.eval x0,a.eval x1,(.string ⟨#[]⟩),(.bool false),(.int .i64 0),(.int .i64 0),a.eval x6,((.slice none 0 0))],rfl,p0,p1,rfl,rfl,rfl,rfl,p6,rfl,trivial⟩,?_⟩;have:=run_build w 169 #[(0,a.eval x0),(1,a.eval x1),(6,a.eval x6)] _ (by simpa using hb);simp[execOp,this]
theorem X8 (F:Nat)(s:Ah)(r:Bool)(h:MR F s=some r):Fn Tryz.prog GE 112 [rS s] [] (λR H=>R=rB r∧H=[]):=by
 refine enter (n:=28) Tryz.func112 Aa Tryz.ntmps112 Aa (λw Z=>?_);unfold MR at h;refine Ae (wa Aa (An (Al (Ae (wm Aa (wv (BO Dx Aa) (wv (r:=A2 0) (Ak Aa) (An (AF (ob h λhk hl hi=>B2 (S:=Nat×(Int)×(Unit)) (V:=(Unit)×(Unit)) 0 (λσ=>Cj (λσ=>G6 s σ) σ.1 σ.2.1=some hk) (λσ=>[(0,rS s),(5,A2 (s.length:Int)),(6,A2 σ.2.1)]) (λσ=>[]) (λσ=>σ.1) (F,0,()) hl (AM.c Aa (AM.c Aa (AM.c Aa AM.nil))) sN (λσ=>JY s =some r) (λσ=>[(0,rS s)]) (λσ=>[]) ?_ ?_))))))))))
 ·rintro⟨h2,he,⟨⟩⟩ hm;refine GZ ?_;obtain⟨hn,rfl,t37,hf,hh⟩:=Cu hm;replace hf:G6 s he=some t37:=hf;unfold G6 at hf;refine Ae (wv (C1 Aa Aa) (An (Al (cz hf Aa (λhp hq=>?_) (λhp hr=>?_)))))
  ·refine Ax (AS (Al (AF (Ae (wm Aa (wa Aa (An (ck hq λhj hs=>AC [(0,rS s),(5,A2 (s.length:Int)),(6,A2 he),(18,rB ((decide ((Cs s he)<33))||(decide (126<(Cs s he)))))] [] ?_ ?_))))))))
   ·refine Aj (wm Aa (wm Aa (wv (BR Dx Aa Aa hj) (wv (C1 Aa Aa) (wm Aa (AU (decide ((Cs s he)<33)) (λhb=>?_) (λhb=>?_)))))))
    ·refine wf hb (wf hb (wf hb (wf hb (wv (r:=rB true) (AB Aa hb Aa) (Am ?_)))));exact Cd hb
    refine wo hb (wm Aa (wo hb (wm Aa (wo hb (wv (BR Dx Aa Aa hj) (wo hb (wv (Ee Aa Aa) (II Aa hb Aa (Am ?_)))))))));exact Cd hb
   refine cz hs Aa (λht hu=>?_) (λht hw=>?_)
   ·refine Ae (wa Aa (An (Ap (A0 (Ac (Ac (Bu ?_)))))));have hx:=BF hu hh hi;refine A0 (Ac ?_);obtain rfl:=As hx;exact Ar (BE Tryz.results112 (AO Aa)) sN ⟨Aa,Aa⟩
   refine Ax (AH (AS (Aj (ck hw λhy hz=>wv (BA Aa Aa hy) (wm Aa (Am ?_))))));have h0:=Bw hz hh;exact A4 (AK (hn,he+1,()) ⟨h0,Afh _⟩ (AM.c Aa (AM.c Aa (AM.c Aa AM.nil))) sN)
  refine B4 (Ay ?_);have h1:=BP hr hh hi;exact Ay (Bn (AK ((),()) h1 (AM.c Aa AM.nil) sN))
 rintro⟨⟨⟩,⟨⟩⟩ hg;refine HE ?_;replace hg:JY s =some r:=hg;unfold JY at hg;refine Bm (AS (AC [(2,rB ((decide (1≤(s.length:Int)))&&(decide ((s.length:Int)≤200))))] [] ?_ ?_))
 ·refine Aj (wm Aa (wv (BO Dx Aa) (wv (EN Aa Aa) (wm Aa (AU (decide (1≤(s.length:Int))) (λhd=>?_) (λhd=>?_))))))
  ·refine wo hd (wm Aa (wo hd (wv (BO Dx Aa) (wo hd (wv (J9 Aa Aa) (Eb Aa hd Aa (wa Aa (Am ?_))))))));exact Cd hd
  refine wf hd (wf hd (wf hd (wv (r:=rB false) (Av Aa hd Aa) (wa Aa (Am ?_)))));exact Cd hd
 refine Ap ?_;obtain rfl:=As hg;exact Ar (BE Tryz.results112 (AO Aa)) sN ⟨Aa,Aa⟩
theorem YT (F:Nat)(l:(List Ah))(s:Ah)(r:Int×Bool)(h:PG F l s=some r):Fn Tryz.prog GE 114 [AJ 1 (A3 eS l),rS s] [] (λR H=>R=Dz [A2 r.1,rB r.2]∧H=[]):=by
 refine enter (n:=34) Tryz.func114 Aa Tryz.ntmps114 Aa (λw Z=>?_);unfold PG at h;refine Ae (wa Aa (wa Aa (Bv (wa Aa (An (Al (AF (ob h λhj hk hl=>B2 (S:=Nat×(Int)×(Unit)) (V:=(Int)×(Unit)) 0 (λσ=>Cj (λσ=>Ie l s σ) σ.1 σ.2.1=some hj) (λσ=>[(0,AJ 1 (A3 eS l)),(1,rS s),(6,A2 σ.2.1)]) (λσ=>[]) (λσ=>σ.1) (F,0,()) hk (AM.c Aa (AM.c Aa (AM.c Aa AM.nil))) sN (λσ=>Id l s σ.1=some r) (λσ=>[(0,AJ 1 (A3 eS l)),(1,rS s),(6,A2 σ.1)]) (λσ=>[]) ?_ ?_))))))))
 ·rintro⟨h2,he,⟨⟩⟩ hm;refine GZ ?_;obtain⟨hn,rfl,hp,hg,hi⟩:=Cu hm;replace hg:Ie l s he=some hp:=hg;unfold Ie at hg;refine Al (ck hg λhq hr=>AC [(0,AJ 1 (A3 eS l)),(1,rS s),(6,A2 he),(18,rB ((decide (he<(l.length:Int)))&&(Do (Ao l he) s)))] [] ?_ ?_)
  ·refine Aj (wm Aa (wm Aa (wv (Br (ys:=l) (enc:=eS) CQ Aa) (wv (C1 Aa Aa) (wm Aa (AU (decide (he<(l.length:Int))) (λhb=>?_) (λhb=>?_)))))))
   ·refine wo hb (wm Aa (wo hb (wm Aa (wo hb (wv (Bj (enc:=eS) (ys:=l) CQ CC Aa Aa (BY hq hb)) (wo hb (wv (AV Dp Aa Aa) (wo hb (wm Aa (wo hb (wv (Z1 Aa Aa) (Eb Aa hb Aa (Am ?_)))))))))))));exact Cd hb
   refine wf hb (wf hb (wf hb (wf hb (wf hb (wf hb (wv (r:=rB false) (Av Aa hb Aa) (Am ?_)))))));exact Cd hb
  refine cz hr Aa (λhs ht=>?_) (λhs hu=>?_)
  ·refine Ax (AS (AF (Aj (wm Aa (ck ht λhw hx=>wv (BA Aa Aa hw) (wa Aa (Am (AH ?_))))))));have hy:=Bw hx hi;exact A4 (AK (hn,he+1,()) ⟨hy,Afh _⟩ (AM.c Aa (AM.c Aa (AM.c Aa AM.nil))) sN)
  refine B4 (Ay ?_);have hz:=BP hu hi hl;exact Ay (Bn (AK (he,()) hz (AM.c Aa (AM.c Aa (AM.c Aa AM.nil))) sN))
 rintro⟨hf,⟨⟩⟩ hh;refine HE ?_;replace hh:Id l s hf=some r:=hh;unfold Id at hh;refine Bm (AS (ck hh λh0 h1=>AC [(4,A2 hf),(5,rB ((decide (hf<(l.length:Int)))&&(decide ((Ao l hf)=s))))] [] ?_ ?_))
 ·refine AU (decide (hf<(l.length:Int))) (λhd=>?_) (λhd=>?_)
  ·refine Dc [0,1,6] ?_;refine rq (Ak Aa) (rq (Ak Aa) (rq (Ak Aa) (rq (Br (ys:=l) (enc:=eS) CQ Aa) (rq (C1 Aa Aa) (rq (Ak Aa) (rg hd (Ak Aa) (rg hd (Ak Aa) (rg hd (Bj (enc:=eS) (ys:=l) CQ CC Aa Aa (BY h0 hd)) (rg hd (AV Dp Aa Aa) (rg hd (Ak Aa) (rg hd (Cy Aa Aa) (rq (AB Aa hd Aa) (rq (A5 Aa) (rq (A5 Aa) (re [4,5] ?_)))))))))))))));exact Cd hd
  refine Dc [0,1,6] ?_;refine rq (Ak Aa) (rq (Ak Aa) (rq (Ak Aa) (rq (Br (ys:=l) (enc:=eS) CQ Aa) (rq (C1 Aa Aa) (rq (Ak Aa) (rz hd (rz hd (rz hd (rz hd (rz hd (rz hd (rq (r:=rB false) (Av (b:=decide (hf<(l.length:Int))) Aa hd Aa) (rq (A5 Aa) (rq (A5 Aa) (re [4,5] ?_)))))))))))))));exact Cd hd
 refine Ap ?_;obtain rfl:=As h1;exact Ar (IO Tryz.results114 (AO Aa) (AO Aa)) sN ⟨Aa,Aa⟩
theorem YU  (r:Be)(h:AaQ=some r):Fn Tryz.prog GE 52 [] [] (λR H=>∃u0:Nat,∃u0_1:Value,R=rP u0 0∧H=[.blk u0 [rB r.fMade,rv u0_1] 165,.row u0_1 169 8 (A3 AE r.fSecrets)]):=by
 refine enter (n:=3) Tryz.func52 Aa Tryz.ntmps52 Aa (λw Z=>?_);unfold AaQ at h;refine Ae (wa Aa (Bv (wv (r:=BB [rB true,rv (.slice none 0 0)]) (Sw Aa Aa) (Ci Aa Aa (λb1=>?_)))));refine wa Aa (An (Ap (WK.nilrow (e:=169) (sz:=8) (Js [1] ?_))));obtain rfl:=As h;exact Ar (BE Tryz.results52 (AO Aa)) (sC (sC sN)) ⟨b1,(.slice none 0 0                                                                                                                                                                         ),Aa,Aa⟩
theorem Wk (F:Nat)(hg:Nat)(he:Value)(v:Be)(name:Ah)(r:Int×Bool)(h:Rr F v name=some r):Fn Tryz.prog GE 113 [rP hg 0,rS name] [.blk hg [rB v.fMade,rv he] 165,.row he 169 8 (A3 AE v.fSecrets)] (λR H=>R=Dz [A2 r.1,rB r.2]∧H=[.blk hg [rB v.fMade,rv he] 165,.row he 169 8 (A3 AE v.fSecrets)]):=by
 refine enter (n:=48) Tryz.func113 Aa Tryz.ntmps113 Aa (λw Z=>?_);unfold Rr at h;refine Ae (wa Aa (wa Aa (Bv (wa Aa (An (Al (AF (ob h λhn hp hq=>B2 (S:=Nat×(Int)×(Unit)) (V:=(Int)×(Unit)) 0 (λσ=>Cj (λσ=>Jx v name σ) σ.1 σ.2.1=some hn) (λσ=>[(0,rP hg 0),(1,rS name),(6,A2 σ.2.1)]) (λσ=>[.blk hg [rB v.fMade,rv he] 165,.row he 169 8 (A3 AE v.fSecrets)]) (λσ=>σ.1) (F,0,()) hp (AM.c Aa (AM.c Aa (AM.c Aa AM.nil))) (sC (sC sN)) (λσ=>Jw v name σ.1=some r) (λσ=>[(0,rP hg 0),(1,rS name),(6,A2 σ.1)]) (λσ=>[.blk hg [rB v.fMade,rv he] 165,.row he 169 8 (A3 AE v.fSecrets)]) ?_ ?_))))))))
 ·rintro⟨h4,hf,⟨⟩⟩ hr;refine GZ ?_;obtain⟨hs,rfl,ht,hi,hm⟩:=Cu hr;replace hi:Jx v name hf=some ht:=hi;unfold Jx at hi;refine Al (ck hi λhk hu=>AC [(0,rP hg 0),(1,rS name),(6,A2 hf),(25,rB ((decide (hf<(v.fSecrets.length:Int)))&&(Do ((Ao v.fSecrets hf).fName) name)))] [.blk hg [rB v.fMade,rv he] 165,.row he 169 8 (A3 AE v.fSecrets)] ?_ ?_)
  ·refine Aj (wm Aa (wm Aa (wv (AG Aa) (vF HN Aa Iq (vL 0 Jr Aa (wv (CN (ys:=v.fSecrets) (enc:=AE) (i:=1) H8 Aa Aa) (wv (C1 Aa Aa) (wm Aa (AU (decide (hf<(v.fSecrets.length:Int))) (λhb=>?_) (λhb=>?_))))))))))
   ·refine wo hb (wm Aa (wo hb (wv (AG Aa) (wo hb (vF HN Aa Iq (wo hb (vL 0 Jr Aa (wo hb (wm Aa (wo hb (wv (r:=rv (En 8 he (Ch hf) 0)) (Dr (i:=1) H8 LO Aa Aa Aa (BC (BY hk hb))) (wo hb (wv (r:=rv (En 8 he (Ch hf) 0)) (D4 (k:=1) P1 Aa CC Aa (BC (BY hk hb)) Aa Aa Aa) (wo hb (wv (r:=rS ((Ao v.fSecrets hf).fName)) (EM (enc:=AE) (ys:=v.fSecrets) (i:=1) (j:=hf) Dp Aa Aa (BY hk hb) Aa) (wo hb (wm Aa (wo hb (wv (Z1 Aa Aa) (Eb Aa hb Aa (Am ?_)))))))))))))))))))));exact Cd hb
   refine wf hb (wf hb (wf hb (wf hb (wf hb (wf hb (wf hb (wf hb (wf hb (wf hb (wv (r:=rB false) (Av Aa hb Aa) (Am ?_)))))))))));exact Cd hb
  refine cz hu Aa (λhw hx=>?_) (λhw hy=>?_)
  ·refine Ax (AS (AF (Aj (wm Aa (ck hx λhz h0=>wv (BA Aa Aa hz) (wa Aa (Am (AH ?_))))))));have h1:=Bw h0 hm;exact A4 (AK (hs,hf+1,()) ⟨h1,Afh _⟩ (AM.c Aa (AM.c Aa (AM.c Aa AM.nil))) (sC (sC sN)))
  refine B4 (Ay ?_);have h2:=BP hy hm hq;exact Ay (Bn (AK (hf,()) h2 (AM.c Aa (AM.c Aa (AM.c Aa AM.nil))) (sC (sC sN))))
 rintro⟨hh,⟨⟩⟩ hj;refine HE ?_;replace hj:Jw v name hh=some r:=hj;unfold Jw at hj;refine Bm (AS (ck hj λhl h3=>AC [(4,A2 hh),(5,rB ((decide (hh<(v.fSecrets.length:Int)))&&(decide (((Ao v.fSecrets hh).fName)=name))))] [.blk hg [rB v.fMade,rv he] 165,.row he 169 8 (A3 AE v.fSecrets)] ?_ ?_))
 ·refine AU (decide (hh<(v.fSecrets.length:Int))) (λhd=>?_) (λhd=>?_)
  ·refine Dc [0,1,6] ?_;refine rq (Ak Aa) (rq (Ak Aa) (rq (Ak Aa) (rq (AG Aa) (rq (Aq HN Aa Iq Aa Aa) (rq (Bc (i:=0) Jr Aa Aa Aa) (rq (CN (ys:=v.fSecrets) (enc:=AE) (i:=1) H8 Aa Aa) (rq (C1 Aa Aa) (rq (Ak Aa) (rg hd (Ak Aa) (rg hd (AG Aa) (rg hd (Aq HN Aa Iq Aa Aa) (rg hd (Bc (i:=0) Jr Aa Aa Aa) (rg hd (Ak Aa) (rg hd (r:=rv (En 8 he (Ch hh) 0)) (Dr (i:=1) H8 LO Aa Aa Aa (BC (BY hl hd))) (rg hd (r:=rv (En 8 he (Ch hh) 0)) (D4 (k:=1) P1 Aa CC Aa (BC (BY hl hd)) Aa Aa Aa) (rg hd (r:=rS ((Ao v.fSecrets hh).fName)) (EM (enc:=AE) (ys:=v.fSecrets) (i:=1) (j:=hh) Dp Aa Aa (BY hl hd) Aa) (rg hd (Ak Aa) (rg hd (Cy Aa Aa) (rq (AB Aa hd Aa) (rq (A5 Aa) (rq (A5 Aa) (re [4,5] ?_))))))))))))))))))))));exact Cd hd
  refine Dc [0,1,6] ?_;refine rq (Ak Aa) (rq (Ak Aa) (rq (Ak Aa) (rq (AG Aa) (rq (Aq HN Aa Iq Aa Aa) (rq (Bc (i:=0) Jr Aa Aa Aa) (rq (CN (ys:=v.fSecrets) (enc:=AE) (i:=1) H8 Aa Aa) (rq (C1 Aa Aa) (rq (Ak Aa) (rz hd (rz hd (rz hd (rz hd (rz hd (rz hd (rz hd (rz hd (rz hd (rz hd (rq (r:=rB false) (Av (b:=decide (hh<(v.fSecrets.length:Int))) Aa hd Aa) (rq (A5 Aa) (rq (A5 Aa) (re [4,5] ?_))))))))))))))))))))));exact Cd hd
 refine Ap ?_;obtain rfl:=As h3;exact Ar (IO Tryz.results113 (AO Aa) (AO Aa)) (sC (sC sN)) ⟨Aa,Aa⟩
theorem YR (F:Nat)(he:Nat)(hb:Value)(v:Be)(name:Ah)(text:Ah)(r:Int×Be)(h:X3 F v name text=some r):Fn Tryz.prog GE 53 [rP he 0,rS name,rS text] [.blk he [rB v.fMade,rv hb] 165,.row hb 169 8 (A3 AE v.fSecrets)] (λR H=>∃w0_1:Value,R=A2 r.1∧H=[.blk he [rB r.2.fMade,rv w0_1] 165,.row w0_1 169 8 (A3 AE r.2.fSecrets)]):=by
 refine enter (n:=64) Tryz.func53 Aa Tryz.ntmps53 Aa (λw Z=>?_);unfold X3 at h;refine Ae (wa Aa (An (Al (AC [(0,rP he 0),(1,rS name),(2,rS text),(18,rB (!v.fMade))] [.blk he [rB v.fMade,rv hb] 165,.row hb 169 8 (A3 AE v.fSecrets)] ?_ ?_))))
 ·refine Aj (wm Aa (wv (r:=rB false) (Kj ⟨_,Tryz.underlying41⟩ Aa) (wm Aa (Bd (b:=false) Aa Aa Aa (wm Aa (Bd (b:=false) Aa Aa Aa (wv (AG Aa) (Bd (b:=false) Aa Aa Aa (vF HN Aa Jp (Bd (b:=false) Aa Aa Aa (vL 0 Pe Aa (Bd (b:=false) Aa Aa Aa (wv (Cc Aa) (wv (r:=rB (!v.fMade)) (Av (b:=false) Aa Aa Aa) (Am ?_)))))))))))))));exact wt
 refine cz h Aa (λc1 h2=>?_) (λc1 h3=>?_)
 ·refine Ae (wa Aa (An (Ap (Ac ?_))));obtain rfl:=As h2;exact Ar (BE Xr (AO Aa)) (sC (sC sN)) ⟨hb,Aa,Aa⟩
 refine Ax (AS (Al (Ae (wm Aa (ck h3 λg4 h5=>Cp (rs:=[rS name]) (r:=rB (CK name)) Tryz.call100 Aa (WB name g4) Aa Aa (wv (Cc Aa) (An (cz h5 Aa (λc6 h7=>?_) (λc6 h8=>?_)))))))))
 ·refine Ae (wa Aa (An (Ap (Ac ?_))));obtain rfl:=As h7;exact Ar (BE Xr (AO Aa)) (sC (sC sN)) ⟨hb,Aa,Aa⟩
 refine Ax (AS (Al (Ae (wm Aa (ob h8 λr9 hg hh=>BX Tryz.call112 (X8 F text r9 hg) Aa (wv (Cc Aa) (An (cz hh Aa (λhi hj=>?_) (λhi hk=>?_)))))))))
 ·refine Ae (wa Aa (An (Ap (Ac ?_))));obtain rfl:=As hj;exact Ar (BE Xr (AO Aa)) (sC (sC sN)) ⟨hb,Aa,Aa⟩
 refine Ax (AS (Ae (wm Aa (wm Aa (ob hk λhd hl hm=>EX [0,0] Tryz.call113 (Wk F he hb v name hd hl) ?_)))));rintro _ _ ⟨rfl,rfl⟩;refine wm Aa (wv (A6 Aa Aa) (wv (A6 Aa Aa) (wa Aa (wa Aa (An (Al (Ae (wm Aa (An (cz hm Aa (λhn hp=>?_) (λhn hq=>?_)))))))))))
 ·refine Ae (wa Aa (An (Ap (Ac ?_))));obtain rfl:=As hp;exact Ar (BE Xr (AO Aa)) (sC (sC sN)) ⟨hb,Aa,Aa⟩
 refine Ax (AS (Al (Ae (wm Aa (wv (AG Aa) (vF HN Aa Iq (vL 0 Jr Aa (wv (CN (ys:=v.fSecrets) (enc:=AE) (i:=1) H8 Aa Aa) (wv (BI Aa Aa) (An (cz hq Aa (λc21 hr=>?_) (λc21 hs=>?_))))))))))))
 ·refine Ae (wa Aa (An (Ap (Ac ?_))));obtain rfl:=As hr;exact Ar (BE Xr (AO Aa)) (sC (sC sN)) ⟨hb,Aa,Aa⟩
 refine Ax (AS (Ae (wa Aa (Bv (wm Aa (wm Aa (wv (AG Aa) (vF HN Aa Iq (vL 0 Jr Aa (wm Aa (WL.freeze (i:=1) Aa (WL.up (d:=42) (r:=AJ 8 (A3 AE v.fSecrets)) Aa (Up.fact (i:=0) Aa) (ck hs λhf ht=>wv (r:=AJ 8 (A3 AE (List.take (Ch hd.1) v.fSecrets))) (Qi H8 LO Aa Aa hf) (WL.nilrow (e:=169) (sz:=8) (ck ht λhu hw=>Exists.elim SC λinf hinf=>Dn (xs:=([]:List AZ)) (ys:=List.take (Ch hd.1) v.fSecrets) (enc:=AE) (i:=0) H8 hinf.1 hinf.2.1 hinf.2.2.1 hinf.2.2.2 Aa Aa Aa Aa Aa (Ox.z Aa Aa) D9 E2 hu Aa (λh4=>?_))))))))))))))));refine wa Aa (Bv (wm Aa (wm Aa (wm Aa (wv (r:=BB [rS name,rS text,rS ([]:Ah),rB false,A2 0,A2 0,A2 1,rv (.slice none 0 0)]) (NV Aa Aa Aa Aa Aa Aa) (Bp (ys:=([(AZ.mk name text ([]:Ah) false 0 0 1 ([]:List Ah))]:List AZ)) (enc:=AE) (css:=[[rS name,rS text,rS ([]:Ah),rB false,A2 0,A2 0,A2 1,AJ 1 (A3 eS ([]:List Ah))]]) (xs:=[.tmp 49]) H8 LO Tryz.zeroValue169 Aa Aa Aa ⟨Gl.agg ⟨Up.refl _,Up.refl _,Up.refl _,Up.refl _,Up.refl _,Up.refl _,Up.refl _,Up.le (Hb.nil _),trivial⟩,trivial⟩ Aa D9 Aa Aa Aa (λh6=>?_)))))));refine ck hw λhx hy=>Exists.elim SC λinf hinf=>Dn (xs:=([]:List AZ)++(List.take (Ch hd.1) v.fSecrets)) (ys:=([(AZ.mk name text ([]:Ah) false 0 0 1 ([]:List Ah))]:List AZ)) (enc:=AE) (i:=1) H8 hinf.1 hinf.2.1 hinf.2.2.1 hinf.2.2.2 Aa Aa Aa Aa Aa (Ox.w (i:=0) Aa Aa) D9 E2 hx Aa (λh9=>?_);refine wa Aa (Bv (wm Aa (wm Aa (wv (AG Aa) (vF HN Aa Iq (vL 3 Jr Aa (wm Aa (WL.up (d:=56) (r:=AJ 8 (A3 AE v.fSecrets)) Aa (Up.fact (i:=2) Aa) (wv (r:=AJ 8 (A3 AE (List.drop (Ch hd.1) v.fSecrets))) (Ki H8 LO Aa Aa hf) (ck hy λhz h0=>Exists.elim SC λinf hinf=>Dn (xs:=(([]:List AZ)++(List.take (Ch hd.1) v.fSecrets))++([(AZ.mk name text ([]:Ah) false 0 0 1 ([]:List Ah))]:List AZ)) (ys:=List.drop (Ch hd.1) v.fSecrets) (enc:=AE) (i:=0) H8 hinf.1 hinf.2.1 hinf.2.2.1 hinf.2.2.2 Aa Aa Aa Aa Aa (Ox.z Aa Aa) D9 E2 hz Aa (λh1=>?_)))))))))));refine wa Aa (Bv (wm Aa (wm Aa (wv (AG Aa) (vF HN Aa Iq (us (i:=3) Iq Aa Aa (E7 (i:=0) Aa) Aa Aa ?_))))));refine Bv (wa Aa (An (Ap (Js [3] ?_))));obtain rfl:=As h0;exact Ar (BE Xr (AO Aa)) (sC (sC (sS (sS sN)))) ⟨h1,Aa,Aa⟩
theorem Wl (F:Nat)(he:Nat)(hb:Value)(v:Be)(name:Ah)(function:Ah)(r:Int×Be)(h:Ru F v name function=some r):Fn Tryz.prog GE 54 [rP he 0,rS name,rS function] [.blk he [rB v.fMade,rv hb] 165,.row hb 169 8 (A3 AE v.fSecrets)] (λR H=>∃w0_1:Value,R=A2 r.1∧H=[.blk he [rB r.2.fMade,rv w0_1] 165,.row w0_1 169 8 (A3 AE r.2.fSecrets)]):=by
 refine enter (n:=91) Tryz.func54 Aa Tryz.ntmps54 Aa (λw Z=>?_);unfold Ru at h;refine Ae (wa Aa (An (Al (AC [(0,rP he 0),(1,rS name),(2,rS function),(19,rB (!v.fMade))] [.blk he [rB v.fMade,rv hb] 165,.row hb 169 8 (A3 AE v.fSecrets)] ?_ ?_))))
 ·refine Aj (wm Aa (wv (r:=rB false) (Kj ⟨_,Tryz.underlying41⟩ Aa) (wm Aa (Bd (b:=false) Aa Aa Aa (wm Aa (Bd (b:=false) Aa Aa Aa (wv (AG Aa) (Bd (b:=false) Aa Aa Aa (vF HN Aa Jp (Bd (b:=false) Aa Aa Aa (vL 0 Pe Aa (Bd (b:=false) Aa Aa Aa (wv (Cc Aa) (wv (r:=rB (!v.fMade)) (Av (b:=false) Aa Aa Aa) (Am ?_)))))))))))))));exact wt
 refine cz h Aa (λc1 h2=>?_) (λc1 h3=>?_)
 ·refine Ae (wa Aa (An (Ap (Ac ?_))));obtain rfl:=As h2;exact Ar (BE Xq (AO Aa)) (sC (sC sN)) ⟨hb,Aa,Aa⟩
 refine Ax (AS (Ae (wm Aa (wm Aa (ob h3 λr4 e6 h5=>EX [0,0] Tryz.call113 (Wk F he hb v name r4 e6) ?_)))));rintro _ _ ⟨rfl,rfl⟩;refine wm Aa (wv (A6 Aa Aa) (wv (A6 Aa Aa) (wa Aa (wa Aa (An (Al (Ae (wm Aa (wv (Cc Aa) (An (cz h5 Aa (λc7 h8=>?_) (λc7 h9=>?_))))))))))))
 ·refine Ae (wa Aa (An (Ap (Ac ?_))));obtain rfl:=As h8;exact Ar (BE Xq (AO Aa)) (sC (sC sN)) ⟨hb,Aa,Aa⟩
 refine Ax (AS (Al (Ae (wm Aa (ck h9 λhg hh=>Cp (rs:=[rS function]) (r:=rB (CK function)) Tryz.call100 Aa (WB function hg) Aa Aa (wv (Cc Aa) (An (cz hh Aa (λhi hj=>?_) (λhi hk=>?_)))))))))
 ·refine Ae (wa Aa (An (Ap (Ac ?_))));obtain rfl:=As hj;exact Ar (BE Xq (AO Aa)) (sC (sC sN)) ⟨hb,Aa,Aa⟩
 refine Ax (AS (Ae (wm Aa (wv (AG Aa) (vF HN Aa Iq (vL 0 Jr Aa (wm Aa (ck hk λg15 hl=>wv (r:=rv (En 8 hb (Ch r4.1) 0)) (Dr (i:=1) H8 LO Aa Aa Aa (BC g15)) (wv (r:=rv (En 8 hb (Ch r4.1) 7)) (D4 (k:=1) P1 Aa Dm Aa (BC g15) Aa Aa Aa) (wv (r:=AJ 1 (A3 eS ((Ao v.fSecrets r4.1).fBound))) (EM (enc:=AE) (ys:=v.fSecrets) (i:=1) (j:=r4.1) G3 Aa Aa g15 Aa) (wm Aa (ob hl λhd hm hn=>BX Tryz.call114 (YT F ((Ao v.fSecrets r4.1).fBound) function hd hm) Aa (wm Aa (wv (A6 Aa Aa) (wv (A6 Aa Aa) (wa Aa (wa Aa (An (Al (Ae (wm Aa ?_)))))))))))))))))))));refine An (cz hn Aa (λc20 hp=>?_) (λc20 hq=>?_))
 ·refine Ae (wa Aa (An (Ap (Ac ?_))));obtain rfl:=As hp;exact Ar (BE Xq (AO Aa)) (sC (sC sN)) ⟨hb,Aa,Aa⟩
 refine Ax (AS (Al (Ae (wm Aa (wv (AG Aa) (vF HN Aa Iq (vL 0 Jr Aa (wm Aa (wv (r:=rv (En 8 hb (Ch r4.1) 0)) (Dr (i:=1) H8 LO Aa Aa Aa (BC g15)) (wv (r:=rv (En 8 hb (Ch r4.1) 7)) (D4 (k:=1) P1 Aa Dm Aa (BC g15) Aa Aa Aa) (wv (r:=AJ 1 (A3 eS ((Ao v.fSecrets r4.1).fBound))) (EM (enc:=AE) (ys:=v.fSecrets) (i:=1) (j:=r4.1) G3 Aa Aa g15 Aa) (wv (Br (ys:=(Ao v.fSecrets r4.1).fBound) (enc:=eS) CQ Aa) (wv (BI Aa Aa) (An (cz hq Aa (λhr hs=>?_) (λhr ht=>?_))))))))))))))))
 ·refine Ae (wa Aa (An (Ap (Ac ?_))));obtain rfl:=As hs;exact Ar (BE Xq (AO Aa)) (sC (sC sN)) ⟨hb,Aa,Aa⟩
 refine Ax (AS (Ae (wa Aa (Bv (wm Aa (wm Aa (wv (AG Aa) (vF HN Aa Iq (vL 0 Jr Aa (wm Aa (wv (r:=rv (En 8 hb (Ch r4.1) 0)) (Dr (i:=1) H8 LO Aa Aa Aa (BC g15)) (wv (r:=rv (En 8 hb (Ch r4.1) 7)) (D4 (k:=1) P1 Aa Dm Aa (BC g15) Aa Aa Aa) (wv (r:=AJ 1 (A3 eS ((Ao v.fSecrets r4.1).fBound))) (EM (enc:=AE) (ys:=v.fSecrets) (i:=1) (j:=r4.1) G3 Aa Aa g15 Aa) (wm Aa (ck ht λhf hu=>wv (r:=AJ 1 (A3 eS (List.take (Ch hd.1) ((Ao v.fSecrets r4.1).fBound)))) (Qi CQ CC Aa Aa hf) (WL.nilrow (e:=9) (sz:=1) (ck hu λhw hx=>Exists.elim OI λinf hinf=>Dn (xs:=([]:List Ah)) (ys:=List.take (Ch hd.1) ((Ao v.fSecrets r4.1).fBound)) (enc:=eS) (i:=0) CQ hinf.1 hinf.2.1 hinf.2.2.1 hinf.2.2.2 Aa Aa Aa Aa Aa (Ox.z Aa Aa) Eg M6 hw Aa (λhB=>?_))))))))))))))))));refine wa Aa (Bv (wm Aa (wm Aa (Bp (ys:=([function]:List Ah)) (enc:=eS) (css:=[[rS function]]) (xs:=[.tmp 68]) CQ CC Y7 Aa Aa Aa ⟨Gl.one Aa (Up.refl _),trivial⟩ Aa Eg Aa Aa Aa (λhy=>?_)))));refine ck hx λhz h0=>Exists.elim OI λinf hinf=>Dn (xs:=([]:List Ah)++(List.take (Ch hd.1) ((Ao v.fSecrets r4.1).fBound))) (ys:=([function]:List Ah)) (enc:=eS) (i:=1) CQ hinf.1 hinf.2.1 hinf.2.2.1 hinf.2.2.2 Aa Aa Aa Aa Aa (Ox.w (i:=0) Aa Aa) Eg M6 hz Aa (λhC=>?_);refine wa Aa (Bv (wm Aa (wm Aa (wv (AG Aa) (vF HN Aa Iq (vL 2 Jr Aa (wm Aa (wv (r:=rv (En 8 hb (Ch r4.1) 0)) (Dr (i:=3) H8 LO Aa Aa Aa (BC g15)) (wv (r:=rv (En 8 hb (Ch r4.1) 7)) (D4 (k:=3) P1 Aa Dm Aa (BC g15) Aa Aa Aa) (wv (r:=AJ 1 (A3 eS ((Ao v.fSecrets r4.1).fBound))) (EM (enc:=AE) (ys:=v.fSecrets) (i:=3) (j:=r4.1) G3 Aa Aa g15 Aa) (wm Aa (wv (r:=AJ 1 (A3 eS (List.drop (Ch hd.1) ((Ao v.fSecrets r4.1).fBound)))) (Ki CQ CC Aa Aa hf) (ck h0 λh1 h4=>Exists.elim OI λinf hinf=>Dn (xs:=(([]:List Ah)++(List.take (Ch hd.1) ((Ao v.fSecrets r4.1).fBound)))++([function]:List Ah)) (ys:=List.drop (Ch hd.1) ((Ao v.fSecrets r4.1).fBound)) (enc:=eS) (i:=0) CQ hinf.1 hinf.2.1 hinf.2.2.1 hinf.2.2.2 Aa Aa Aa Aa Aa (Ox.z Aa Aa) Eg M6 h1 Aa (λh6=>?_))))))))))))));refine wa Aa (Bv (wm Aa (wv (AG Aa) (vF HN Aa Iq (vL 2 Jr Aa (wm Aa (wm Aa (wv (r:=rv (En 8 hb (Ch r4.1) 0)) (Dr (i:=3) H8 LO Aa Aa Aa (BC g15)) (wv (r:=rv (En 8 hb (Ch r4.1) 7)) (D4 (k:=3) P1 Aa Dm Aa (BC g15) Aa Aa Aa) (WL.freeze (i:=0) Aa (WL.up (d:=88) (r:=AJ 1 (A3 eS (((([]:List Ah)++(List.take (Ch hd.1) ((Ao v.fSecrets r4.1).fBound)))++([function]:List Ah))++(List.drop (Ch hd.1) ((Ao v.fSecrets r4.1).fBound))))) Aa (Up.fact (i:=0) Aa) (JZ (enc:=AE) (ys:=v.fSecrets) (y':=(AZ.mk ((Ao v.fSecrets r4.1).fName) ((Ao v.fSecrets r4.1).fText) ((Ao v.fSecrets r4.1).fPrevious) ((Ao v.fSecrets r4.1).fRotated) ((Ao v.fSecrets r4.1).fUntil) ((Ao v.fSecrets r4.1).fSince) ((Ao v.fSecrets r4.1).fVersion) (((([]:List Ah)++(List.take (Ch hd.1) ((Ao v.fSecrets r4.1).fBound)))++([function]:List Ah))++(List.drop (Ch hd.1) ((Ao v.fSecrets r4.1).fBound))))) (i:=3) (j:=r4.1) Dm Aa Aa (BT Aa) Aa g15 Aa Aa (H':=[.fact h6 (AJ 1 (A3 eS (((([]:List Ah)++(List.take (Ch hd.1) ((Ao v.fSecrets r4.1).fBound)))++([function]:List Ah))++(List.drop (Ch hd.1) ((Ao v.fSecrets r4.1).fBound))))),.row (.slice (some ⟨hy,0,none⟩) 1 1) 9 1 (A3 eS ([function]:List Ah)),.blk he [rB v.fMade,rv hb] 165,.row hb 169 8 (A3 AE (List.set v.fSecrets (Ch r4.1) (AZ.mk ((Ao v.fSecrets r4.1).fName) ((Ao v.fSecrets r4.1).fText) ((Ao v.fSecrets r4.1).fPrevious) ((Ao v.fSecrets r4.1).fRotated) ((Ao v.fSecrets r4.1).fUntil) ((Ao v.fSecrets r4.1).fSince) ((Ao v.fSecrets r4.1).fVersion) (((([]:List Ah)++(List.take (Ch hd.1) ((Ao v.fSecrets r4.1).fBound)))++([function]:List Ah))++(List.drop (Ch hd.1) ((Ao v.fSecrets r4.1).fBound))))))]) Aa (bd h4 λhD h7 hA=>?_)))))))))))));rw[← h7];refine Bv (wa Aa (An (Ap ?_)));obtain rfl:=As hA;exact Ar (BE Xq (AO Aa)) (sS (sS (sC (sC sN)))) ⟨hb,Aa,Aa⟩
end Go.Proofs.YtmjlemhondjfhaaGreatDoor.Q
namespace Go.Proofs.YtmjlemhondjfhaaGreatDoor
open Go
set_option linter.unusedVariables false
structure Cl where
 fName:Ah
 fText:Ah
 fFunction:Ah
 deriving DecidableEq,Inhabited
structure B1 where
 fA:AT
 fItems:(List B3)
 fSecrets:(List Cl)
 fNone:Bool
 fL:(List AR)
 deriving DecidableEq,Inhabited
def DM (F:Nat)(x:B1)(hb:Int)(hd:Bool)(he:(List AZ))(hf:(List (Ah×Int)))(hg:(List AQ)):Option (Stp (Int×Bool×(List AZ)×(List (Ah×Int))×(List AQ)) (Out ((Bk×(List AQ))×Be) (Bool×(List AZ)×(List (Ah×Int))×(List AQ)))):=
 B0 (((decide (hb<(x.fSecrets.length:Int)))&&(decide (hb<20)))) (Bl (Cn hb (x.fSecrets.length:Int))<|Bs (PQ F (Bk.mk hf) hg ((Ao x.fSecrets hb).fName) ((Ao x.fSecrets hb).fText)) λhh=>Bs (X3 F (Be.mk hd he) ((Ao x.fSecrets hb).fName) ((Ao x.fSecrets hb).fText)) λhk=>Bs (Mq hh.2.1 hh.2.2 ((Ao x.fSecrets hb).fName) ((Ao x.fSecrets hb).fFunction)) λhi=>Bs (Ru F hk.2 ((Ao x.fSecrets hb).fName) ((Ao x.fSecrets hb).fFunction)) λhj=>Bl (BM .i64 (hb+1))<|some (.next (hb+1,hj.2.fMade,hj.2.fSecrets,hi.2.1.fSecrets,hi.2.2))) (some (.out (.go (hd,he,hf,hg))))
def IT (hb:Bool)(hd:(List AZ))(he:(List (Ah×Int)))(hf:(List AQ)):Option ((Bk×(List AQ))×Be):=
 some (((Bk.mk he),hf),(Be.mk hb hd))
def KZ (F:Nat)(x:B1):Option ((Bk×(List AQ))×Be):=
 B0 (x.fNone) (none) (Bs (T4) λr5=>Bs (AaQ) λhb=>Bs (Cj (λσ=>DM F x σ.1 σ.2.1 σ.2.2.1 σ.2.2.2.1 σ.2.2.2.2) F (0,hb.fMade,hb.fSecrets,r5.1.fSecrets,r5.2)) (Cf λν=>IT ν.1 ν.2.1 ν.2.2.1 ν.2.2.2))
def IV (F:Nat)(x:B1)(hb:Int)(hd:Bool)(he:(List AZ))(hf:(List (Ah×Int)))(hg:(List AQ)):Option (Stp (Int×Bool×(List AZ)×(List (Ah×Int))×(List AQ)) (Out (Unit×Unit) (Bool×(List AZ)×(List (Ah×Int))×(List AQ)))):=
 B0 (((decide (hb<(x.fSecrets.length:Int)))&&(decide (hb<20)))) (Bl (Cn hb (x.fSecrets.length:Int))<|Bs (PQ F (Bk.mk hf) hg ((Ao x.fSecrets hb).fName) ((Ao x.fSecrets hb).fText)) λhh=>Bs (X3 F (Be.mk hd he) ((Ao x.fSecrets hb).fName) ((Ao x.fSecrets hb).fText)) λhk=>Bs (Mq hh.2.1 hh.2.2 ((Ao x.fSecrets hb).fName) ((Ao x.fSecrets hb).fFunction)) λhi=>Bs (Ru F hk.2 ((Ao x.fSecrets hb).fName) ((Ao x.fSecrets hb).fFunction)) λhj=>Bl (BM .i64 (hb+1))<|some (.next (hb+1,hj.2.fMade,hj.2.fSecrets,hi.2.1.fSecrets,hi.2.2))) (some (.out (.go (hd,he,hf,hg))))
def IU (hb:Bool)(hd:(List AZ))(he:(List (Ah×Int)))(hf:(List AQ)):Option (Unit×Unit):=
 none
def La (F:Nat)(x:B1):Option (Unit×Unit):=
 B0 (x.fNone) (some ((),())) (Bs (T4) λr5=>Bs (AaQ) λhb=>Bs (Cj (λσ=>IV F x σ.1 σ.2.1 σ.2.2.1 σ.2.2.2.1 σ.2.2.2.2) F (0,hb.fMade,hb.fSecrets,r5.1.fSecrets,r5.2)) (Cf λν=>IU ν.1 ν.2.1 ν.2.2.1 ν.2.2.2))
def DW (F:Nat)(a:(List A9))(b:(List A9))(hb:Int):Option (Stp (Int) (Out (Bool) (Unit))):=
 B0 (decide (hb<(a.length:Int))) (Bl (Cn hb (a.length:Int))<|Bl (Cn hb (b.length:Int))<|Bl (imp (!(!decide (((Ao a hb).fKind)=((Ao b hb).fKind)))) (imp (!(!decide (((Ao a hb).fKey)=((Ao b hb).fKey)))) (imp (!(!decide (((Ao a hb).fDelay)=((Ao b hb).fDelay)))) ((Ky F ((Ao a hb).fValue) ((Ao b hb).fValue)).isSome))))<|B0 (((!decide (((Ao a hb).fKind)=((Ao b hb).fKind)))||((!decide (((Ao a hb).fKey)=((Ao b hb).fKey)))||((!decide (((Ao a hb).fDelay)=((Ao b hb).fDelay)))||(!(ov (Ky F ((Ao a hb).fValue) ((Ao b hb).fValue)))))))) (some (.out (.ret false))) (Bl (BM .i64 (hb+1))<|some (.next (hb+1)))) (some (.out (.go ())))
def Gt :Option (Bool):=
 some true
def GA (F:Nat)(a:(List A9))(b:(List A9)):Option (Bool):=
 B0 (!decide ((a.length:Int)=(b.length:Int))) (some false) (Bs (Cj (λσ=>DW F a b σ) F 0) (Cf λν=>Gt ))
def Gd (k:Int):Option (Ah):=
 B0 (decide (k=1)) (some ([112,117,116]:Ah)) (B0 (decide (k=2)) (some ([100,101,108,101,116,101]:Ah)) (B0 (decide (k=3)) (some ([115,101,110,100]:Ah)) (B0 (decide (k=4)) (some ([116,105,109,101,114]:Ah)) (some ([115,105,103,110,97,108]:Ah)))))
end Go.Proofs.YtmjlemhondjfhaaGreatDoor
namespace Go.Proofs.YtmjlemhondjfhaaGreatDoor.Q
open Go Go.RowKit
set_option linter.unusedVariables false
set_option linter.unusedSimpArgs false
set_option maxRecDepth 100000
set_option maxHeartbeats 4000000
@[reducible] def A8 (x:Cl):List Rp:=[rS x.fName,rS x.fText,rS x.fFunction]
theorem KB (x:Cl):(A8 x).length=3:=rfl
@[reducible] def Bi (x:B1):List Rp:=[rS x.fA.fTenant,rS x.fA.fFunction,AJ 1 (A3 eS x.fA.fOps),AJ 3 (A3 Ai x.fA.fPolicy),AJ 5 (A3 Au x.fA.fNet),A2 x.fA.fNow,AJ 3 (A3 BG x.fItems),AJ 3 (A3 A8 x.fSecrets),rB x.fNone,AJ 2 (A3 AN x.fL)]
theorem VA (F:Nat)(x:B1)(r:(Bk×(List AQ))×Be)(h:KZ F x=some r):Fn Tryz.prog GE 12 [BB (Bi x)] [] (λR H=>∃u0:Nat,∃u0_0:Nat,∃u0_p0:Value,∃u1:Nat,∃u1_1:Value,R=Dz [rP u0 0,rP u1 0]∧H=[.blk u0 [rv (.map (some u0_0))] 156,.map u0_0 (Bq (mP u0_0) r.1.1.fSecrets),.poolm u0_0 u0_p0 162 (A3 A7 r.1.2) none,.blk u1 [rB r.2.fMade,rv u1_1] 165,.row u1_1 169 8 (A3 AE r.2.fSecrets)]):=by
 refine enter (n:=80) Tryz.func12 Aa Tryz.ntmps12 Aa (λw Z=>?_);unfold KZ at h;refine Ae (Ci Aa Aa (λb1=>?_));refine wa Aa (wa Aa (An (Al (Ae (vF DG Aa Jp (vL 0 Pe Aa (An (cz h Aa (λc2 h3=>?_) (λc2 h4=>?_)))))))))
 ·exact Ae (wa rfl (wa rfl (An (Ap (Ac (nomatch h3))))))
 refine Ax (AS (Ae (ob h4 λr5 e7 h6=>EX [] Tryz.call48 (Si r5 e7) ?_)));rintro _ _ ⟨b8,b9,hu,rfl,rfl⟩;refine wa Aa (Bv (ob h6 λhk hx hy=>EX [] Tryz.call52 (YU hk hx) ?_));rintro _ _ ⟨hd,hr,rfl,rfl⟩;refine wa Aa (An (Al (Ae (wa Aa (An (AF (Lw (H2:=[.blk hd [rB hk.fMade,rv hr] 165,.blk b8 [rv (.map (some b9))] 156,.map b9 (Bq (mP b9) r5.1.fSecrets),.poolm b9 hu 162 (A3 A7 r5.2) none,.blk b1 (Bi x) 39,.row hr 169 8 (A3 AE hk.fSecrets)]) ((AW (i:=0) Aa).trans (Afj _ ((AW (i:=1) Aa).trans (Afj _ ((AW (i:=1) Aa).trans (Afj _ ((AW (i:=1) Aa).trans (Afj _ ((AW (i:=1) Aa).trans (Afj _ (Afl _))))))))))) (ob hy λhz h0 h1=>B2 (S:=Nat×(Int×Bool×(List AZ)×(List (Ah×Int))×(List AQ))×(Value×Value)) (V:=(Bool×(List AZ)×(List (Ah×Int))×(List AQ))×(Value×Value)) 0 (λσ=>Cj (λσ=>DM F x σ.1 σ.2.1 σ.2.2.1 σ.2.2.2.1 σ.2.2.2.2) σ.1 σ.2.1=some hz) (λσ=>[(1,rP b1 0),(4,rP b8 0),(5,rP hd 0),(6,A2 σ.2.1.1)]) (λσ=>[.blk hd [rB σ.2.1.2.1,rv σ.2.2.1] 165,.blk b8 [rv (.map (some b9))] 156,.map b9 (Bq (mP b9) σ.2.1.2.2.2.1),.poolm b9 σ.2.2.2 162 (A3 A7 σ.2.1.2.2.2.2) none,.blk b1 (Bi x) 39,.row σ.2.2.1 169 8 (A3 AE σ.2.1.2.2.1)]) (λσ=>σ.1) (F,(0,hk.fMade,hk.fSecrets,r5.1.fSecrets,r5.2),(hr,hu)) h0 (AM.c Aa (AM.c Aa (AM.c Aa (AM.c Aa AM.nil)))) (sC (sC (sC (sC (sC (sC sN)))))) (λσ=>IT σ.1.1 σ.1.2.1 σ.1.2.2.1 σ.1.2.2.2=some r) (λσ=>[(4,rP b8 0),(5,rP hd 0)]) (λσ=>[.blk hd [rB σ.1.1,rv σ.2.1] 165,.blk b8 [rv (.map (some b9))] 156,.map b9 (Bq (mP b9) σ.1.2.2.1),.poolm b9 σ.2.2 162 (A3 A7 σ.1.2.2.2) none,.row σ.2.1 169 8 (A3 AE σ.1.2.1)]) ?_ ?_))))))))
 ·rintro⟨hX,⟨hb,hh,hi,hl,hm⟩,⟨v72,v75⟩⟩ h2;refine GZ ?_;obtain⟨h5,rfl,h7,hp,hw⟩:=Cu h2;replace hp:DM F x hb hh hi hl hm=some h7:=hp;unfold DM at hp;refine Al (AC [(1,rP b1 0),(4,rP b8 0),(5,rP hd 0),(6,A2 hb),(19,rB ((decide (hb<(x.fSecrets.length:Int)))&&(decide (hb<20))))] [.blk hd [rB hh,rv v72] 165,.blk b8 [rv (.map (some b9))] 156,.map b9 (Bq (mP b9) hl),.poolm b9 v75 162 (A3 A7 hm) none,.blk b1 (Bi x) 39,.row v72 169 8 (A3 AE hi)] ?_ ?_)
  ·refine Aj (wm Aa (vF DG Aa K8 (vL 4 K9 Aa (wv (Br (ys:=x.fSecrets) (enc:=A8) K7 Aa) (wv (C1 Aa Aa) (wm Aa (AU (decide (hb<(x.fSecrets.length:Int))) (λhe=>?_) (λhe=>?_))))))))
   ·refine wo he (wm Aa (wo he (wv (C1 Aa Aa) (Eb Aa he Aa (Am ?_)))));exact Cd he
   refine wf he (wf he (wv (r:=rB false) (Av Aa he Aa) (Am ?_)));exact Cd he
  refine cz hp Aa (λh8 h9=>?_) (λh8 hA=>?_)
  ·refine Ax (AS (Al (AF (Al (ck h9 λhf hB=>E4 (H1:=[.blk hd [rB hh,rv v72] 165,.blk b8 [rv (.map (some b9))] 156,.map b9 (Bq (mP b9) hl),.poolm b9 v75 162 (A3 A7 hm) none,.blk b1 (Bi x) 39,.row v72 169 8 (A3 AE hi)]) 13 [1,4,5,6] [⟨[],rP b8 0,0⟩,⟨[],rP b1 7,0⟩,⟨[1],AJ 3 (A3 A8 x.fSecrets),1⟩,⟨[],A2 hb,0⟩,⟨[2,3],I0 (A8 (Ao x.fSecrets hb)),0⟩,⟨[4],I0 (A8 (Ao x.fSecrets hb)),0⟩,⟨[5],rS ((Ao x.fSecrets hb).fName),0⟩,⟨[],rP b1 7,0⟩,⟨[7],AJ 3 (A3 A8 x.fSecrets),1⟩,⟨[],A2 hb,0⟩,⟨[8,9],I0 (A8 (Ao x.fSecrets hb)),0⟩,⟨[10],I0 [rS ((Ao x.fSecrets hb).fText),rS ((Ao x.fSecrets hb).fFunction)],0⟩,⟨[11],rS ((Ao x.fSecrets hb).fText),0⟩] (rle [(14,_)]) [22,23,24,25,26,27,28,29,30,31,32,33,34,1,4,5,6] ?_ ?_)))))
   ·refine oq (Ak Aa) (oq (Aq DG Aa K8 Aa Aa) (of (Bc (i:=4) K9 Aa Aa Aa) (oq (Ak Aa) (oq (Bj (enc:=A8) (ys:=x.fSecrets) K7 HR Aa Aa hf) (oq (AI HP Aa CC Aa Aa) (oq (AV Dp Aa Aa) (oq (Aq DG Aa K8 Aa Aa) (of (Bc (i:=4) K9 Aa Aa Aa) (oq (Ak Aa) (oq (Bj (enc:=A8) (ys:=x.fSecrets) K7 HR Aa Aa hf) (oq (AI HP Aa CC Aa Aa) (oq (AV Dp Aa Aa) ?_))))))))))));exact D3
   refine ob hB λhg hC hD=>EX [1,1,1] Tryz.call49 (Sh F b8 b9 v75 (Bk.mk hl) hm ((Ao x.fSecrets hb).fName) ((Ao x.fSecrets hb).fText) hg hC) ?_;rintro _ _ ⟨hs,rfl,rfl⟩;refine An (Al (E4 (H1:=[.blk b8 [rv (.map (some b9))] 156,.map b9 (Bq (mP b9) hg.2.1.fSecrets),.poolm b9 hs 162 (A3 A7 hg.2.2) none,.blk hd [rB hh,rv v72] 165,.blk b1 (Bi x) 39,.row v72 169 8 (A3 AE hi)]) 13 [1,4,5,6] [⟨[],rP hd 0,0⟩,⟨[],rP b1 7,0⟩,⟨[1],AJ 3 (A3 A8 x.fSecrets),1⟩,⟨[],A2 hb,0⟩,⟨[2,3],I0 (A8 (Ao x.fSecrets hb)),0⟩,⟨[4],I0 (A8 (Ao x.fSecrets hb)),0⟩,⟨[5],rS ((Ao x.fSecrets hb).fName),0⟩,⟨[],rP b1 7,0⟩,⟨[7],AJ 3 (A3 A8 x.fSecrets),1⟩,⟨[],A2 hb,0⟩,⟨[8,9],I0 (A8 (Ao x.fSecrets hb)),0⟩,⟨[10],I0 [rS ((Ao x.fSecrets hb).fText),rS ((Ao x.fSecrets hb).fFunction)],0⟩,⟨[11],rS ((Ao x.fSecrets hb).fText),0⟩] (rle [(14,_)]) [36,37,38,39,40,41,42,43,44,45,46,47,48,1,4,5,6] ?_ ?_))
   ·refine oq (Ak Aa) (oq (Aq DG Aa K8 Aa Aa) (of (Bc (i:=4) K9 Aa Aa Aa) (oq (Ak Aa) (oq (Bj (enc:=A8) (ys:=x.fSecrets) K7 HR Aa Aa hf) (oq (AI HP Aa CC Aa Aa) (oq (AV Dp Aa Aa) (oq (Aq DG Aa K8 Aa Aa) (of (Bc (i:=4) K9 Aa Aa Aa) (oq (Ak Aa) (oq (Bj (enc:=A8) (ys:=x.fSecrets) K7 HR Aa Aa hf) (oq (AI HP Aa CC Aa Aa) (oq (AV Dp Aa Aa) ?_))))))))))));exact D3
   refine ob hD λhj hE hG=>EX [3,4] Tryz.call53 (YR F hd v72 (Be.mk hh hi) ((Ao x.fSecrets hb).fName) ((Ao x.fSecrets hb).fText) hj hE) ?_;rintro _ _ ⟨v127,rfl,rfl⟩;refine An (Al (E4 (H1:=[.blk hd [rB hj.2.fMade,rv v127] 165,.row v127 169 8 (A3 AE hj.2.fSecrets),.blk b8 [rv (.map (some b9))] 156,.map b9 (Bq (mP b9) hg.2.1.fSecrets),.poolm b9 hs 162 (A3 A7 hg.2.2) none,.blk b1 (Bi x) 39]) 13 [1,4,5,6] [⟨[],rP b8 0,0⟩,⟨[],rP b1 7,0⟩,⟨[1],AJ 3 (A3 A8 x.fSecrets),1⟩,⟨[],A2 hb,0⟩,⟨[2,3],I0 (A8 (Ao x.fSecrets hb)),0⟩,⟨[4],I0 (A8 (Ao x.fSecrets hb)),0⟩,⟨[5],rS ((Ao x.fSecrets hb).fName),0⟩,⟨[],rP b1 7,0⟩,⟨[7],AJ 3 (A3 A8 x.fSecrets),1⟩,⟨[],A2 hb,0⟩,⟨[8,9],I0 (A8 (Ao x.fSecrets hb)),0⟩,⟨[10],I0 [rS ((Ao x.fSecrets hb).fFunction)],0⟩,⟨[11],rS ((Ao x.fSecrets hb).fFunction),0⟩] (rle [(14,_)]) [50,51,52,53,54,55,56,57,58,59,60,61,62,1,4,5,6] ?_ ?_))
   ·refine oq (Ak Aa) (oq (Aq DG Aa K8 Aa Aa) (of (Bc (i:=5) K9 Aa Aa Aa) (oq (Ak Aa) (oq (Bj (enc:=A8) (ys:=x.fSecrets) K7 HR Aa Aa hf) (oq (AI HP Aa CC Aa Aa) (oq (AV Dp Aa Aa) (oq (Aq DG Aa K8 Aa Aa) (of (Bc (i:=5) K9 Aa Aa Aa) (oq (Ak Aa) (oq (Bj (enc:=A8) (ys:=x.fSecrets) K7 HR Aa Aa hf) (oq (AI HP Aa CC Aa Aa) (oq (AV Dp Aa Aa) ?_))))))))))));exact D3
   refine ob hG λhn hH hI=>EX [2,2,2] Tryz.call50 (PS b8 b9 hs hg.2.1 hg.2.2 ((Ao x.fSecrets hb).fName) ((Ao x.fSecrets hb).fFunction) hn hH) ?_;rintro _ _ ⟨v131,rfl,rfl⟩;refine An (E4 (H1:=[.blk b8 [rv (.map (some b9))] 156,.map b9 (Bq (mP b9) hn.2.1.fSecrets),.poolm b9 v131 162 (A3 A7 hn.2.2) none,.blk hd [rB hj.2.fMade,rv v127] 165,.row v127 169 8 (A3 AE hj.2.fSecrets),.blk b1 (Bi x) 39]) 13 [1,4,5,6] [⟨[],rP hd 0,0⟩,⟨[],rP b1 7,0⟩,⟨[1],AJ 3 (A3 A8 x.fSecrets),1⟩,⟨[],A2 hb,0⟩,⟨[2,3],I0 (A8 (Ao x.fSecrets hb)),0⟩,⟨[4],I0 (A8 (Ao x.fSecrets hb)),0⟩,⟨[5],rS ((Ao x.fSecrets hb).fName),0⟩,⟨[],rP b1 7,0⟩,⟨[7],AJ 3 (A3 A8 x.fSecrets),1⟩,⟨[],A2 hb,0⟩,⟨[8,9],I0 (A8 (Ao x.fSecrets hb)),0⟩,⟨[10],I0 [rS ((Ao x.fSecrets hb).fFunction)],0⟩,⟨[11],rS ((Ao x.fSecrets hb).fFunction),0⟩] (rle [(14,_)]) [64,65,66,67,68,69,70,71,72,73,74,75,76,1,4,5,6] ?_ ?_)
   ·refine oq (Ak Aa) (oq (Aq DG Aa K8 Aa Aa) (of (Bc (i:=5) K9 Aa Aa Aa) (oq (Ak Aa) (oq (Bj (enc:=A8) (ys:=x.fSecrets) K7 HR Aa Aa hf) (oq (AI HP Aa CC Aa Aa) (oq (AV Dp Aa Aa) (oq (Aq DG Aa K8 Aa Aa) (of (Bc (i:=5) K9 Aa Aa Aa) (oq (Ak Aa) (oq (Bj (enc:=A8) (ys:=x.fSecrets) K7 HR Aa Aa hf) (oq (AI HP Aa CC Aa Aa) (oq (AV Dp Aa Aa) ?_))))))))))));exact D3
   refine ob hI λht hJ hK=>EX [3,3] Tryz.call54 (Wl F hd v127 hj.2 ((Ao x.fSecrets hb).fName) ((Ao x.fSecrets hb).fFunction) ht hJ) ?_;rintro _ _ ⟨hL,rfl,rfl⟩;refine Am (AH (AS (Aj (wm Aa (ck hK λhN hO=>wv (BA Aa Aa hN) (wa Aa (Am (Js [0,1,1,1,1] ?_))))))));have hP:=Bw hO hw;exact A4 (AK (h5,(hb+1,ht.2.fMade,ht.2.fSecrets,hn.2.1.fSecrets,hn.2.2),(hL,v131)) ⟨hP,Afh _⟩ (AM.c Aa (AM.c Aa (AM.c Aa (AM.c Aa AM.nil)))) (sC (sC (sC (sC (sC (sC sN)))))))
  refine B4 (Ay ?_);have hQ:=BP hA hw h1;exact Ay (Bn (AK ((hh,hi,hl,hm),(v72,v75)) hQ (AM.c Aa (AM.c Aa AM.nil)) (sC (sC (sC (sC (sS (sC sN))))))))
 rintro⟨⟨hR,hS,hT,hU⟩,⟨hV,hW⟩⟩ hq;refine HE ?_;replace hq:IT hR hS hT hU=some r:=hq;unfold IT at hq;refine Bm (AS (Ae (wm Aa (wm Aa (wa Aa (wa Aa (An (Ap (Js [1,1,1] ?_)))))))));obtain rfl:=As hq;exact Ar (IO Tryz.results12 (AO Aa) (AO Aa)) (sC (sC (sC (sC (sC sN))))) ⟨b8,b9,hW,hd,hV,Aa,Aa⟩
theorem VB (F:Nat)(x:B1)(r:Unit×Unit)(h:La F x=some r):Fn Tryz.prog GE 12 [BB (Bi x)] [] (λR H=>R=Dz [rv (.pointer none),rv (.pointer none)]∧H=[]):=by
 refine enter (n:=80) Tryz.func12 Aa Tryz.ntmps12 Aa (λw Z=>?_);unfold La at h;refine Ae (Ci Aa Aa (λb1=>?_));refine wa Aa (wa Aa (An (Al (Ae (vF DG Aa Jp (vL 0 Pe Aa (An (cz h Aa (λc2 h3=>?_) (λc2 h4=>?_)))))))))
 ·refine Ae (wa Aa (wa Aa (An (Ap (Ac ?_)))));obtain rfl:=As h3;exact Ar (IO Tryz.results12 (AO Aa) (AO Aa)) (sS sN) ⟨Aa,Aa⟩
 refine Ax (AS (Ae (ob h4 λr5 e7 h6=>EX [] Tryz.call48 (Si r5 e7) ?_)));rintro _ _ ⟨b8,b9,hu,rfl,rfl⟩;refine wa Aa (Bv (ob h6 λhk hx hy=>EX [] Tryz.call52 (YU hk hx) ?_));rintro _ _ ⟨hd,hr,rfl,rfl⟩;refine wa Aa (An (Al (Ae (wa Aa (An (AF (Lw (H2:=[.blk hd [rB hk.fMade,rv hr] 165,.blk b8 [rv (.map (some b9))] 156,.map b9 (Bq (mP b9) r5.1.fSecrets),.poolm b9 hu 162 (A3 A7 r5.2) none,.blk b1 (Bi x) 39,.row hr 169 8 (A3 AE hk.fSecrets)]) ((AW (i:=0) Aa).trans (Afj _ ((AW (i:=1) Aa).trans (Afj _ ((AW (i:=1) Aa).trans (Afj _ ((AW (i:=1) Aa).trans (Afj _ ((AW (i:=1) Aa).trans (Afj _ (Afl _))))))))))) (ob hy λhz h0 h1=>B2 (S:=Nat×(Int×Bool×(List AZ)×(List (Ah×Int))×(List AQ))×(Value×Value)) (V:=(Bool×(List AZ)×(List (Ah×Int))×(List AQ))×(Value×Value)) 0 (λσ=>Cj (λσ=>IV F x σ.1 σ.2.1 σ.2.2.1 σ.2.2.2.1 σ.2.2.2.2) σ.1 σ.2.1=some hz) (λσ=>[(1,rP b1 0),(4,rP b8 0),(5,rP hd 0),(6,A2 σ.2.1.1)]) (λσ=>[.blk hd [rB σ.2.1.2.1,rv σ.2.2.1] 165,.blk b8 [rv (.map (some b9))] 156,.map b9 (Bq (mP b9) σ.2.1.2.2.2.1),.poolm b9 σ.2.2.2 162 (A3 A7 σ.2.1.2.2.2.2) none,.blk b1 (Bi x) 39,.row σ.2.2.1 169 8 (A3 AE σ.2.1.2.2.1)]) (λσ=>σ.1) (F,(0,hk.fMade,hk.fSecrets,r5.1.fSecrets,r5.2),(hr,hu)) h0 (AM.c Aa (AM.c Aa (AM.c Aa (AM.c Aa AM.nil)))) (sC (sC (sC (sC (sC (sC sN)))))) (λσ=>IU σ.1.1 σ.1.2.1 σ.1.2.2.1 σ.1.2.2.2=some r) (λσ=>[(4,rP b8 0),(5,rP hd 0)]) (λσ=>[.blk hd [rB σ.1.1,rv σ.2.1] 165,.blk b8 [rv (.map (some b9))] 156,.map b9 (Bq (mP b9) σ.1.2.2.1),.poolm b9 σ.2.2 162 (A3 A7 σ.1.2.2.2) none,.row σ.2.1 169 8 (A3 AE σ.1.2.1)]) ?_ ?_))))))))
 ·rintro⟨hV,⟨hb,hh,hi,hl,hm⟩,⟨v72,v75⟩⟩ h2;refine GZ ?_;obtain⟨h5,rfl,h7,hp,hw⟩:=Cu h2;replace hp:IV F x hb hh hi hl hm=some h7:=hp;unfold IV at hp;refine Al (AC [(1,rP b1 0),(4,rP b8 0),(5,rP hd 0),(6,A2 hb),(19,rB ((decide (hb<(x.fSecrets.length:Int)))&&(decide (hb<20))))] [.blk hd [rB hh,rv v72] 165,.blk b8 [rv (.map (some b9))] 156,.map b9 (Bq (mP b9) hl),.poolm b9 v75 162 (A3 A7 hm) none,.blk b1 (Bi x) 39,.row v72 169 8 (A3 AE hi)] ?_ ?_)
  ·refine Aj (wm Aa (vF DG Aa K8 (vL 4 K9 Aa (wv (Br (ys:=x.fSecrets) (enc:=A8) K7 Aa) (wv (C1 Aa Aa) (wm Aa (AU (decide (hb<(x.fSecrets.length:Int))) (λhe=>?_) (λhe=>?_))))))))
   ·refine wo he (wm Aa (wo he (wv (C1 Aa Aa) (Eb Aa he Aa (Am ?_)))));exact Cd he
   refine wf he (wf he (wv (r:=rB false) (Av Aa he Aa) (Am ?_)));exact Cd he
  refine cz hp Aa (λh8 h9=>?_) (λh8 hA=>?_)
  ·refine Ax (AS (Al (AF (Al (ck h9 λhf hB=>E4 (H1:=[.blk hd [rB hh,rv v72] 165,.blk b8 [rv (.map (some b9))] 156,.map b9 (Bq (mP b9) hl),.poolm b9 v75 162 (A3 A7 hm) none,.blk b1 (Bi x) 39,.row v72 169 8 (A3 AE hi)]) 13 [1,4,5,6] [⟨[],rP b8 0,0⟩,⟨[],rP b1 7,0⟩,⟨[1],AJ 3 (A3 A8 x.fSecrets),1⟩,⟨[],A2 hb,0⟩,⟨[2,3],I0 (A8 (Ao x.fSecrets hb)),0⟩,⟨[4],I0 (A8 (Ao x.fSecrets hb)),0⟩,⟨[5],rS ((Ao x.fSecrets hb).fName),0⟩,⟨[],rP b1 7,0⟩,⟨[7],AJ 3 (A3 A8 x.fSecrets),1⟩,⟨[],A2 hb,0⟩,⟨[8,9],I0 (A8 (Ao x.fSecrets hb)),0⟩,⟨[10],I0 [rS ((Ao x.fSecrets hb).fText),rS ((Ao x.fSecrets hb).fFunction)],0⟩,⟨[11],rS ((Ao x.fSecrets hb).fText),0⟩] (rle [(14,_)]) [22,23,24,25,26,27,28,29,30,31,32,33,34,1,4,5,6] ?_ ?_)))))
   ·refine oq (Ak Aa) (oq (Aq DG Aa K8 Aa Aa) (of (Bc (i:=4) K9 Aa Aa Aa) (oq (Ak Aa) (oq (Bj (enc:=A8) (ys:=x.fSecrets) K7 HR Aa Aa hf) (oq (AI HP Aa CC Aa Aa) (oq (AV Dp Aa Aa) (oq (Aq DG Aa K8 Aa Aa) (of (Bc (i:=4) K9 Aa Aa Aa) (oq (Ak Aa) (oq (Bj (enc:=A8) (ys:=x.fSecrets) K7 HR Aa Aa hf) (oq (AI HP Aa CC Aa Aa) (oq (AV Dp Aa Aa) ?_))))))))))));exact D3
   refine ob hB λhg hC hD=>EX [1,1,1] Tryz.call49 (Sh F b8 b9 v75 (Bk.mk hl) hm ((Ao x.fSecrets hb).fName) ((Ao x.fSecrets hb).fText) hg hC) ?_;rintro _ _ ⟨hs,rfl,rfl⟩;refine An (Al (E4 (H1:=[.blk b8 [rv (.map (some b9))] 156,.map b9 (Bq (mP b9) hg.2.1.fSecrets),.poolm b9 hs 162 (A3 A7 hg.2.2) none,.blk hd [rB hh,rv v72] 165,.blk b1 (Bi x) 39,.row v72 169 8 (A3 AE hi)]) 13 [1,4,5,6] [⟨[],rP hd 0,0⟩,⟨[],rP b1 7,0⟩,⟨[1],AJ 3 (A3 A8 x.fSecrets),1⟩,⟨[],A2 hb,0⟩,⟨[2,3],I0 (A8 (Ao x.fSecrets hb)),0⟩,⟨[4],I0 (A8 (Ao x.fSecrets hb)),0⟩,⟨[5],rS ((Ao x.fSecrets hb).fName),0⟩,⟨[],rP b1 7,0⟩,⟨[7],AJ 3 (A3 A8 x.fSecrets),1⟩,⟨[],A2 hb,0⟩,⟨[8,9],I0 (A8 (Ao x.fSecrets hb)),0⟩,⟨[10],I0 [rS ((Ao x.fSecrets hb).fText),rS ((Ao x.fSecrets hb).fFunction)],0⟩,⟨[11],rS ((Ao x.fSecrets hb).fText),0⟩] (rle [(14,_)]) [36,37,38,39,40,41,42,43,44,45,46,47,48,1,4,5,6] ?_ ?_))
   ·refine oq (Ak Aa) (oq (Aq DG Aa K8 Aa Aa) (of (Bc (i:=4) K9 Aa Aa Aa) (oq (Ak Aa) (oq (Bj (enc:=A8) (ys:=x.fSecrets) K7 HR Aa Aa hf) (oq (AI HP Aa CC Aa Aa) (oq (AV Dp Aa Aa) (oq (Aq DG Aa K8 Aa Aa) (of (Bc (i:=4) K9 Aa Aa Aa) (oq (Ak Aa) (oq (Bj (enc:=A8) (ys:=x.fSecrets) K7 HR Aa Aa hf) (oq (AI HP Aa CC Aa Aa) (oq (AV Dp Aa Aa) ?_))))))))))));exact D3
   refine ob hD λhj hE hG=>EX [3,4] Tryz.call53 (YR F hd v72 (Be.mk hh hi) ((Ao x.fSecrets hb).fName) ((Ao x.fSecrets hb).fText) hj hE) ?_;rintro _ _ ⟨v127,rfl,rfl⟩;refine An (Al (E4 (H1:=[.blk hd [rB hj.2.fMade,rv v127] 165,.row v127 169 8 (A3 AE hj.2.fSecrets),.blk b8 [rv (.map (some b9))] 156,.map b9 (Bq (mP b9) hg.2.1.fSecrets),.poolm b9 hs 162 (A3 A7 hg.2.2) none,.blk b1 (Bi x) 39]) 13 [1,4,5,6] [⟨[],rP b8 0,0⟩,⟨[],rP b1 7,0⟩,⟨[1],AJ 3 (A3 A8 x.fSecrets),1⟩,⟨[],A2 hb,0⟩,⟨[2,3],I0 (A8 (Ao x.fSecrets hb)),0⟩,⟨[4],I0 (A8 (Ao x.fSecrets hb)),0⟩,⟨[5],rS ((Ao x.fSecrets hb).fName),0⟩,⟨[],rP b1 7,0⟩,⟨[7],AJ 3 (A3 A8 x.fSecrets),1⟩,⟨[],A2 hb,0⟩,⟨[8,9],I0 (A8 (Ao x.fSecrets hb)),0⟩,⟨[10],I0 [rS ((Ao x.fSecrets hb).fFunction)],0⟩,⟨[11],rS ((Ao x.fSecrets hb).fFunction),0⟩] (rle [(14,_)]) [50,51,52,53,54,55,56,57,58,59,60,61,62,1,4,5,6] ?_ ?_))
   ·refine oq (Ak Aa) (oq (Aq DG Aa K8 Aa Aa) (of (Bc (i:=5) K9 Aa Aa Aa) (oq (Ak Aa) (oq (Bj (enc:=A8) (ys:=x.fSecrets) K7 HR Aa Aa hf) (oq (AI HP Aa CC Aa Aa) (oq (AV Dp Aa Aa) (oq (Aq DG Aa K8 Aa Aa) (of (Bc (i:=5) K9 Aa Aa Aa) (oq (Ak Aa) (oq (Bj (enc:=A8) (ys:=x.fSecrets) K7 HR Aa Aa hf) (oq (AI HP Aa CC Aa Aa) (oq (AV Dp Aa Aa) ?_))))))))))));exact D3
   refine ob hG λhn hH hI=>EX [2,2,2] Tryz.call50 (PS b8 b9 hs hg.2.1 hg.2.2 ((Ao x.fSecrets hb).fName) ((Ao x.fSecrets hb).fFunction) hn hH) ?_;rintro _ _ ⟨v131,rfl,rfl⟩;refine An (E4 (H1:=[.blk b8 [rv (.map (some b9))] 156,.map b9 (Bq (mP b9) hn.2.1.fSecrets),.poolm b9 v131 162 (A3 A7 hn.2.2) none,.blk hd [rB hj.2.fMade,rv v127] 165,.row v127 169 8 (A3 AE hj.2.fSecrets),.blk b1 (Bi x) 39]) 13 [1,4,5,6] [⟨[],rP hd 0,0⟩,⟨[],rP b1 7,0⟩,⟨[1],AJ 3 (A3 A8 x.fSecrets),1⟩,⟨[],A2 hb,0⟩,⟨[2,3],I0 (A8 (Ao x.fSecrets hb)),0⟩,⟨[4],I0 (A8 (Ao x.fSecrets hb)),0⟩,⟨[5],rS ((Ao x.fSecrets hb).fName),0⟩,⟨[],rP b1 7,0⟩,⟨[7],AJ 3 (A3 A8 x.fSecrets),1⟩,⟨[],A2 hb,0⟩,⟨[8,9],I0 (A8 (Ao x.fSecrets hb)),0⟩,⟨[10],I0 [rS ((Ao x.fSecrets hb).fFunction)],0⟩,⟨[11],rS ((Ao x.fSecrets hb).fFunction),0⟩] (rle [(14,_)]) [64,65,66,67,68,69,70,71,72,73,74,75,76,1,4,5,6] ?_ ?_)
   ·refine oq (Ak Aa) (oq (Aq DG Aa K8 Aa Aa) (of (Bc (i:=5) K9 Aa Aa Aa) (oq (Ak Aa) (oq (Bj (enc:=A8) (ys:=x.fSecrets) K7 HR Aa Aa hf) (oq (AI HP Aa CC Aa Aa) (oq (AV Dp Aa Aa) (oq (Aq DG Aa K8 Aa Aa) (of (Bc (i:=5) K9 Aa Aa Aa) (oq (Ak Aa) (oq (Bj (enc:=A8) (ys:=x.fSecrets) K7 HR Aa Aa hf) (oq (AI HP Aa CC Aa Aa) (oq (AV Dp Aa Aa) ?_))))))))))));exact D3
   refine ob hI λht hJ hK=>EX [3,3] Tryz.call54 (Wl F hd v127 hj.2 ((Ao x.fSecrets hb).fName) ((Ao x.fSecrets hb).fFunction) ht hJ) ?_;rintro _ _ ⟨hL,rfl,rfl⟩;refine Am (AH (AS (Aj (wm Aa (ck hK λhN hO=>wv (BA Aa Aa hN) (wa Aa (Am (Js [0,1,1,1,1] ?_))))))));have hP:=Bw hO hw;exact A4 (AK (h5,(hb+1,ht.2.fMade,ht.2.fSecrets,hn.2.1.fSecrets,hn.2.2),(hL,v131)) ⟨hP,Afh _⟩ (AM.c Aa (AM.c Aa (AM.c Aa (AM.c Aa AM.nil)))) (sC (sC (sC (sC (sC (sC sN)))))))
  refine B4 (Ay ?_);have hQ:=BP hA hw h1;exact Ay (Bn (AK ((hh,hi,hl,hm),(v72,v75)) hQ (AM.c Aa (AM.c Aa AM.nil)) (sC (sC (sC (sC (sS (sC sN))))))))
 rintro⟨⟨hR,hS,hT,hU⟩,⟨hW,hX⟩⟩ hq;refine HE ?_;replace hq:IU hR hS hT hU=some r:=hq;unfold IU at hq;exact Bm (AS (Ae (wm rfl (wm rfl (wa rfl (wa rfl (An (Ap (nomatch hq)))))))))
theorem Nr (F:Nat)(a:(List A9))(b:(List A9))(r:Bool)(h:GA F a b=some r):Fn Tryz.prog GE 17 [AJ 4 (A3 Aw a),AJ 4 (A3 Aw b)] [] (λR H=>R=rB r∧H=[]):=by
 refine enter (n:=68) Tryz.func17 Aa Tryz.ntmps17 Aa (λw Z=>?_);unfold GA at h;refine Ae (wa Aa (An (Al (Ae (wm Aa (wv (Br (ys:=a) (enc:=Aw) DA Aa) (wm Aa (wv (Br (ys:=b) (enc:=Aw) DA Aa) (wv (Ct Aa Aa) (An (cz h Aa (λc1 h2=>?_) (λc1 h3=>?_))))))))))))
 ·refine Ae (wa Aa (An (Ap (Ac ?_))));obtain rfl:=As h2;exact Ar (BE Tryz.results17 (AO Aa)) sN ⟨Aa,Aa⟩
 refine Ax (AS (Al (Ae (wa Aa (An (AF (ob h3 λhm hn hl=>B2 (S:=Nat×(Int)×(Unit)) (V:=(Unit)×(Unit)) 0 (λσ=>Cj (λσ=>DW F a b σ) σ.1 σ.2.1=some hm) (λσ=>[(0,AJ 4 (A3 Aw a)),(1,AJ 4 (A3 Aw b)),(5,A2 σ.2.1)]) (λσ=>[]) (λσ=>σ.1) (F,0,()) hn (AM.c Aa (AM.c Aa (AM.c Aa AM.nil))) sN (λσ=>Gt =some r) (λσ=>[]) (λσ=>[]) ?_ ?_)))))))
 ·rintro⟨h9,hf,⟨⟩⟩ hp;refine GZ ?_;obtain⟨hq,rfl,hr,hi,hk⟩:=Cu hp;replace hi:DW F a b hf=some hr:=hi;unfold DW at hi;refine Al (Ae (wm Aa (wm Aa (wv (Br (ys:=a) (enc:=Aw) DA Aa) (wv (C1 Aa Aa) (An (cz hi Aa (λhs ht=>?_) (λhs hu=>?_))))))))
  ·refine Ax (AS (Al (AF (ck ht λhg hw=>ck hw λhh hx=>ck hx λhy hz=>AC [(0,AJ 4 (A3 Aw a)),(1,AJ 4 (A3 Aw b)),(5,A2 hf),(67,rB ((!decide (((Ao a hf).fKind)=((Ao b hf).fKind)))||((!decide (((Ao a hf).fKey)=((Ao b hf).fKey)))||((!decide (((Ao a hf).fDelay)=((Ao b hf).fDelay)))||(!(ov (Ky F ((Ao a hf).fValue) ((Ao b hf).fValue))))))))] [] ?_ ?_))))
   ·refine AU (!decide (((Ao a hf).fKind)=((Ao b hf).fKind))) (λhb=>?_) (λhb=>?_)
    ·refine Dc [0,1,5] ?_;refine rq (Ak Aa) (rq (Ak Aa) (rq (Bj (enc:=Aw) (ys:=a) DA CE Aa Aa hg) (rq (AI CP Aa Ip Aa Aa) (rq (AV NG Aa Aa) (rq (Ak Aa) (rq (Ak Aa) (rq (Bj (enc:=Aw) (ys:=b) DA CE Aa Aa hh) (rq (AI CP Aa Ip Aa Aa) (rq (AV NG Aa Aa) (rq (Ct Aa Aa) (rq (Ak Aa) (rz hb (rz hb (rz hb (rz hb (rz hb (rz hb (rz hb (rz hb (rz hb (rz hb (rz hb (rq (r:=rB true) (AB (b:=!decide (((Ao a hf).fKind)=((Ao b hf).fKind))) Aa hb Aa) ?_)))))))))))))))))))))));refine rq (Ak Aa) (rz Aa (rz Aa (rz Aa (rz Aa (rz Aa (rz Aa (rz Aa (rz Aa (rz Aa (rz Aa (rz Aa (rq (r:=rB true) (AB (b:=true) Aa Aa Aa) (rq (Ak Aa) (rz Aa (rz Aa (rz Aa (rz Aa (rz Aa (rz Aa (rz Aa (rz Aa (rz Aa (rz Aa ?_)))))))))))))))))))))));refine rz Aa (rz Aa (rq (r:=rB true) (AB (b:=true) Aa Aa Aa) (re [67,0,1,5] ?_)));exact Cd hb
    refine AU (!decide (((Ao a hf).fKey)=((Ao b hf).fKey))) (λhd=>?_) (λhd=>?_)
    ·refine Dc [0,1,5] ?_;refine rq (Ak Aa) (rq (Ak Aa) (rq (Bj (enc:=Aw) (ys:=a) DA CE Aa Aa hg) (rq (AI CP Aa Ip Aa Aa) (rq (AV NG Aa Aa) (rq (Ak Aa) (rq (Ak Aa) (rq (Bj (enc:=Aw) (ys:=b) DA CE Aa Aa hh) (rq (AI CP Aa Ip Aa Aa) (rq (AV NG Aa Aa) (rq (Ct Aa Aa) (rq (Ak Aa) (rg hb (Ak Aa) (rg hb (Ak Aa) (rg hb (Bj (enc:=Aw) (ys:=a) DA CE Aa Aa hg) (rg hb (AI CP Aa CC Aa Aa) (rg hb (AV Dp Aa Aa) (rg hb (Ak Aa) (rg hb (Ak Aa) (rg hb (Bj (enc:=Aw) (ys:=b) DA CE Aa Aa hh) (rg hb (AI CP Aa CC Aa Aa) (rg hb (AV Dp Aa Aa) (rg hb (KQ Aa Aa) (rq (Av Aa hb Aa) ?_)))))))))))))))))))))));refine rq (Ak Aa) (rz hd (rz hd (rz hd (rz hd (rz hd (rz hd (rz hd (rz hd (rz hd (rz hd (rz hd (rq (r:=rB true) (AB (b:=!decide (((Ao a hf).fKey)=((Ao b hf).fKey))) Aa hd Aa) (rq (Ak Aa) (rz Aa (rz Aa (rz Aa (rz Aa (rz Aa (rz Aa (rz Aa (rz Aa (rz Aa (rz Aa ?_)))))))))))))))))))))));refine rz Aa (rz Aa (rq (r:=rB true) (AB (b:=true) Aa Aa Aa) (re [67,0,1,5] ?_)));exact Cd (And.intro hb hd)
    refine AU (!decide (((Ao a hf).fDelay)=((Ao b hf).fDelay))) (λhe=>?_) (λhe=>?_)
    ·refine Dc [0,1,5] ?_;refine rq (Ak Aa) (rq (Ak Aa) (rq (Bj (enc:=Aw) (ys:=a) DA CE Aa Aa hg) (rq (AI CP Aa Ip Aa Aa) (rq (AV NG Aa Aa) (rq (Ak Aa) (rq (Ak Aa) (rq (Bj (enc:=Aw) (ys:=b) DA CE Aa Aa hh) (rq (AI CP Aa Ip Aa Aa) (rq (AV NG Aa Aa) (rq (Ct Aa Aa) (rq (Ak Aa) (rg hb (Ak Aa) (rg hb (Ak Aa) (rg hb (Bj (enc:=Aw) (ys:=a) DA CE Aa Aa hg) (rg hb (AI CP Aa CC Aa Aa) (rg hb (AV Dp Aa Aa) (rg hb (Ak Aa) (rg hb (Ak Aa) (rg hb (Bj (enc:=Aw) (ys:=b) DA CE Aa Aa hh) (rg hb (AI CP Aa CC Aa Aa) (rg hb (AV Dp Aa Aa) (rg hb (KQ Aa Aa) (rq (Av Aa hb Aa) ?_)))))))))))))))))))))));refine rq (Ak Aa) (rg hd (Ak Aa) (rg hd (Ak Aa) (rg hd (Bj (enc:=Aw) (ys:=a) DA CE Aa Aa hg) (rg hd (AI CP Aa Dj Aa Aa) (rg hd (AV DQ Aa Aa) (rg hd (Ak Aa) (rg hd (Ak Aa) (rg hd (Bj (enc:=Aw) (ys:=b) DA CE Aa Aa hh) (rg hd (AI CP Aa Dj Aa Aa) (rg hd (AV DQ Aa Aa) (rg hd (Ct Aa Aa) (rq (Av Aa hd Aa) (rq (Ak Aa) (rz he (rz he (rz he (rz he (rz he (rz he (rz he (rz he (rz he (rz he ?_)))))))))))))))))))))));refine rz he (rz he (rq (r:=rB true) (AB (b:=!decide (((Ao a hf).fDelay)=((Ao b hf).fDelay))) Aa he Aa) (re [67,0,1,5] ?_)));exact Cd (And.intro hb (And.intro hd he))
    refine Dc [0,1,5] ?_;refine rq (Ak Aa) (rq (Ak Aa) (rq (Bj (enc:=Aw) (ys:=a) DA CE Aa Aa hg) (rq (AI CP Aa Ip Aa Aa) (rq (AV NG Aa Aa) (rq (Ak Aa) (rq (Ak Aa) (rq (Bj (enc:=Aw) (ys:=b) DA CE Aa Aa hh) (rq (AI CP Aa Ip Aa Aa) (rq (AV NG Aa Aa) (rq (Ct Aa Aa) (rq (Ak Aa) (rg hb (Ak Aa) (rg hb (Ak Aa) (rg hb (Bj (enc:=Aw) (ys:=a) DA CE Aa Aa hg) (rg hb (AI CP Aa CC Aa Aa) (rg hb (AV Dp Aa Aa) (rg hb (Ak Aa) (rg hb (Ak Aa) (rg hb (Bj (enc:=Aw) (ys:=b) DA CE Aa Aa hh) (rg hb (AI CP Aa CC Aa Aa) (rg hb (AV Dp Aa Aa) (rg hb (KQ Aa Aa) (rq (Av Aa hb Aa) ?_)))))))))))))))))))))));refine rq (Ak Aa) (rg hd (Ak Aa) (rg hd (Ak Aa) (rg hd (Bj (enc:=Aw) (ys:=a) DA CE Aa Aa hg) (rg hd (AI CP Aa Dj Aa Aa) (rg hd (AV DQ Aa Aa) (rg hd (Ak Aa) (rg hd (Ak Aa) (rg hd (Bj (enc:=Aw) (ys:=b) DA CE Aa Aa hh) (rg hd (AI CP Aa Dj Aa Aa) (rg hd (AV DQ Aa Aa) (rg hd (Ct Aa Aa) (rq (Av Aa hd Aa) (rq (Ak Aa) (rg he (Ak Aa) (rg he (Ak Aa) (rg he (Bj (enc:=Aw) (ys:=a) DA CE Aa Aa hg) (rg he (AI CP Aa C8 Aa Aa) (rg he (AV DP Aa Aa) (rg he (Ak Aa) (rg he (Ak Aa) (rg he (Bj (enc:=Aw) (ys:=b) DA CE Aa Aa hh) (rg he (AI CP Aa C8 Aa Aa) (rg he (AV DP Aa Aa) ?_)))))))))))))))))))))));refine ro he (CD YK (Nc F ((Ao a hf).fValue) ((Ao b hf).fValue) (ov (Ky F ((Ao a hf).fValue) ((Ao b hf).fValue))) (CY (Dd (Dd (Dd hy hb) hd) he))) Aa) (rg he (Cc Aa) (rq (Av Aa he Aa) (re [67,0,1,5] ?_)));exact Cd (And.intro hb (And.intro hd he))
   refine cz hz Aa (λc75 h0=>?_) (λc75 h1=>?_)
   ·refine Ae (wa Aa (An (Ap (A0 (Ac (Ac (Bu ?_)))))));have h4:=BF h0 hk hl;refine A0 (Ac ?_);obtain rfl:=As h4;exact Ar (BE Tryz.results17 (AO Aa)) sN ⟨Aa,Aa⟩
   refine Ax (AH (AS (Aj (wm Aa (ck h1 λh5 h6=>wv (BA Aa Aa h5) (wa Aa (Am ?_)))))));have h7:=Bw h6 hk;exact A4 (AK (hq,hf+1,()) ⟨h7,Afh _⟩ (AM.c Aa (AM.c Aa (AM.c Aa AM.nil))) sN)
  refine B4 (Ay ?_);have h8:=BP hu hk hl;exact Ay (Bn (AK ((),()) h8 AM.nil sN))
 rintro⟨⟨⟩,⟨⟩⟩ hj;refine HE ?_;replace hj:Gt =some r:=hj;unfold Gt at hj;refine Bm (AS (Ae (wa Aa (An (Ap ?_)))));obtain rfl:=As hj;exact Ar (BE Tryz.results17 (AO Aa)) sN ⟨Aa,Aa⟩
theorem Lb (k:Int)(r:Ah)(h:Gd k=some r):Fn Tryz.prog GE 20 [A2 k] [] (λR H=>R=rS r∧H=[]):=by
 refine enter (n:=11) Tryz.func20 Aa Tryz.ntmps20 Aa (λw Z=>?_);unfold Gd at h;refine Ae (wv (r:=rS ([]:Ah)) (A5 Aa) (An (Al (Ae (wm Aa (wv (BI Aa Aa) (An (cz h Aa (λc1 h2=>?_) (λc1 h3=>?_)))))))))
 ·refine Ae (wv (r:=rS ([112,117,116]:Ah)) (A5 Aa) (An (Ap (Ac ?_))));obtain rfl:=As h2;exact Ar (BE YH (AO Aa)) sN ⟨Aa,Aa⟩
 refine Ax (AS (Al (Ae (wm Aa (wv (BI Aa Aa) (An (cz h3 Aa (λc4 h5=>?_) (λc4 h6=>?_))))))))
 ·refine Ae (wv (r:=rS ([100,101,108,101,116,101]:Ah)) (A5 Aa) (An (Ap (Ac ?_))));obtain rfl:=As h5;exact Ar (BE YH (AO Aa)) sN ⟨Aa,Aa⟩
 refine Ax (AS (Al (Ae (wm Aa (wv (BI Aa Aa) (An (cz h6 Aa (λc7 h8=>?_) (λc7 h9=>?_))))))))
 ·refine Ae (wv (r:=rS ([115,101,110,100]:Ah)) (A5 Aa) (An (Ap (Ac ?_))));obtain rfl:=As h8;exact Ar (BE YH (AO Aa)) sN ⟨Aa,Aa⟩
 refine Ax (AS (Al (Ae (wm Aa (wv (BI Aa Aa) (An (cz h9 Aa (λhb hd=>?_) (λhb he=>?_))))))))
 ·refine Ae (wv (r:=rS ([116,105,109,101,114]:Ah)) (A5 Aa) (An (Ap (Ac ?_))));obtain rfl:=As hd;exact Ar (BE YH (AO Aa)) sN ⟨Aa,Aa⟩
 refine Ax (AS (Ae (wv (r:=rS ([115,105,103,110,97,108]:Ah)) (A5 Aa) (An (Ap ?_)))));obtain rfl:=As he;exact Ar (BE YH (AO Aa)) sN ⟨Aa,Aa⟩
end Go.Proofs.YtmjlemhondjfhaaGreatDoor.Q
namespace Go.Proofs.YtmjlemhondjfhaaGreatDoor
open Go
set_option linter.unusedVariables false
def DV (hb:Int)(hd:Int)(he:Bool)(hf:Ah)(hg:Ah)(hh:(List Ah))(hi:(List Ad))(hj:(List AD))(hk:Int)(hl:Int)(hm:(List A9))(hn:(List Ah))(hp:(List Ah))(hq:(List (Ah×(List Ab)))):Option (Stp (Int×Int×Bool×Ah×Ah×(List Ah)×(List Ad)×(List AD)×Int×Int×(List A9)×(List Ah)×(List Ah)×(List (Ah×(List Ab)))) (Out (Bool) (Int×Bool×Ah×Ah×(List Ah)×(List Ad)×(List AD)×Int×Int×(List A9)×(List Ah)×(List Ah)×(List (Ah×(List Ab)))))):=
 Bl (BM .i64 (hb+1))<|some (.next (hd,hb+1,he,hf,hg,hh,hi,hj,hk,hl,hm,hn,hp,hq))
def Cv (he:Int)(F:Nat)(hd:Int)(hb:BV×Az)(hf:Bool):Option (Stp (Int×Int×Bool×Ah×Ah×(List Ah)×(List Ad)×(List AD)×Int×Int×(List A9)×(List Ah)×(List Ah)×(List (Ah×(List Ab)))) (Out (Bool) (Int×Bool×Ah×Ah×(List Ah)×(List Ad)×(List AD)×Int×Int×(List A9)×(List Ah)×(List Ah)×(List (Ah×(List Ab)))))):=
 B0 (hf) (some (.out (.ret false))) (B0 (decide (hb.1.fErr=0)) (Bl (BM .i64 (hd+1))<|Bs (Mu F hb.1.fValue) λhg=>B0 (!decide (hg=0)) (some (.out (.ret false))) (DV he (hd+1) hb.2.fMade hb.2.fA.fTenant hb.2.fA.fFunction hb.2.fA.fOps hb.2.fA.fPolicy hb.2.fA.fNet hb.2.fA.fNow hb.2.fCalls hb.2.fEffects hb.2.fReads hb.2.fLog hb.2.fItems)) (DV he hd hb.2.fMade hb.2.fA.fTenant hb.2.fA.fFunction hb.2.fA.fOps hb.2.fA.fPolicy hb.2.fA.fNet hb.2.fA.fNow hb.2.fCalls hb.2.fEffects hb.2.fReads hb.2.fLog hb.2.fItems))
def De (F:Nat)(x:B1)(he:(List A9))(hd:Int):Option (Stp (Int) (Out (Bool) (Unit))):=
 B0 (decide (hd<(he.length:Int))) (Bl (Cn hd (he.length:Int))<|Bs (Gd ((Ao he hd).fKind)) λhb=>Bl ((Gg F x.fA.fOps hb).isSome)<|Bl (imp (!(!(ov (Gg F x.fA.fOps hb)))) ((Co x.fA.fTenant hb ((Ao he hd).fKey)).isSome))<|Bl (imp (!(!(ov (Gg F x.fA.fOps hb)))) ((D1 F x.fA.fPolicy hb (ov (Co x.fA.fTenant hb ((Ao he hd).fKey)))).isSome))<|B0 (((!(ov (Gg F x.fA.fOps hb)))||(!((ov (D1 F x.fA.fPolicy hb (ov (Co x.fA.fTenant hb ((Ao he hd).fKey))))).fAllowed)))) (some (.out (.ret false))) (Bl (BM .i64 (hd+1))<|some (.next (hd+1)))) (some (.out (.go ())))
def Ex (F:Nat)(hb:Int)(hd:(List A9)):Option (Bool):=
 Bl (imp (decide ((hd.length:Int)≤hb)) ((D5 F).isSome))<|some ((decide ((hd.length:Int)≤hb))&&(ov (D5 F)))
def Gs (F:Nat)(x:B1)(r4:(Bk×(List AQ))×Be)(he:Int)(hd:Int)(hf:Bool)(hg:Ah)(hh:Ah)(hi:(List Ah))(hj:(List Ad))(hk:(List AD))(hl:Int)(hm:Int)(hn:(List A9))(hp:(List Ah))(hq:(List Ah))(hr:(List (Ah×(List Ab)))):Option (Stp (Int×Int×Bool×Ah×Ah×(List Ah)×(List Ad)×(List AD)×Int×Int×(List A9)×(List Ah)×(List Ah)×(List (Ah×(List Ab)))) (Out (Bool) (Int×Bool×Ah×Ah×(List Ah)×(List Ad)×(List AD)×Int×Int×(List A9)×(List Ah)×(List Ah)×(List (Ah×(List Ab)))))):=
 B0 (decide (hd<(x.fL.length:Int))) (Bs (CH F (Az.mk hf (AT.mk hg hh hi hj hk hl) hr () hm hn hp hq)) λht=>Bs (Gk (Az.mk hf (AT.mk hg hh hi hj hk hl) hr () hm hn hp hq)) λhu=>Bl (Cn hd (x.fL.length:Int))<|Bs (Oi F (Az.mk hf (AT.mk hg hh hi hj hk hl) hr () hm hn hp hq) r4.1.1 r4.1.2 (Ao x.fL hd)) λhb=>Bs (ET F x.fA (Ao x.fL hd)) λhs=>B0 ((bif decide (32≤hd) then((!decide (hb.1.fErr=3))||((decide (hd<32))&&((!decide (hs=0))&&(!decide (hb.1.fErr=hs))))) else((decide (hd<32))&&((!decide (hs=0))&&(!decide (hb.1.fErr=hs)))))) (some (.out (.ret false))) (B0 (!decide (hb.1.fErr=0)) (B0 (!decide ((hb.1.fValue.length:Int)=0)) (Cv hd F he hb true) (Bs (CH F (Az.mk hb.2.fMade hb.2.fA hb.2.fItems () hb.2.fCalls hb.2.fEffects hb.2.fReads hb.2.fLog)) λhw=>Bs (GA F ht hw) λhx=>B0 (!hx) (Cv hd F he hb true) (Bs (Gk (Az.mk hb.2.fMade hb.2.fA hb.2.fItems () hb.2.fCalls hb.2.fEffects hb.2.fReads hb.2.fLog)) λhy=>Bs (Lg F hu hy) λhz=>Cv hd F he hb (!hz)))) (Cv hd F he hb false))) (some (.out (.go (he,hf,hg,hh,hi,hj,hk,hl,hm,hn,hp,hq,hr))))
def Ey (F:Nat)(x:B1)(hd:Int)(he:Bool)(hf:Ah)(hg:Ah)(hh:(List Ah))(hi:(List Ad))(hj:(List AD))(hk:Int)(hl:Int)(hm:(List A9))(hn:(List Ah))(hp:(List Ah))(hq:(List (Ah×(List Ab)))):Option (Bool):=
 Bs (CH F (Az.mk he (AT.mk hf hg hh hi hj hk) hq () hl hm hn hp)) λhb=>Bs (Cj (λσ=>De F x hb σ) F 0) (Cf λν=>Ex F hd hb )
def Gq (hb:Int)(hd:Int)(he:Bool)(hf:Ah)(hg:Ah)(hh:(List Ah))(hi:(List Ad))(hj:(List AD))(hk:Int)(hl:Int)(hm:(List A9))(hn:(List Ah))(hp:(List Ah))(hq:(List (Ah×(List Ab)))):Option (Stp (Int×Int×Bool×Ah×Ah×(List Ah)×(List Ad)×(List AD)×Int×Int×(List A9)×(List Ah)×(List Ah)×(List (Ah×(List Ab)))) (Out (Bool) (Int×Bool×Ah×Ah×(List Ah)×(List Ad)×(List AD)×Int×Int×(List A9)×(List Ah)×(List Ah)×(List (Ah×(List Ab)))))):=
 Bl (BM .i64 (hb+1))<|some (.next (hd,hb+1,he,hf,hg,hh,hi,hj,hk,hl,hm,hn,hp,hq))
def DU (he:Int)(F:Nat)(hd:Int)(hb:BV×Az)(hf:Bool):Option (Stp (Int×Int×Bool×Ah×Ah×(List Ah)×(List Ad)×(List AD)×Int×Int×(List A9)×(List Ah)×(List Ah)×(List (Ah×(List Ab)))) (Out (Bool) (Int×Bool×Ah×Ah×(List Ah)×(List Ad)×(List AD)×Int×Int×(List A9)×(List Ah)×(List Ah)×(List (Ah×(List Ab)))))):=
 B0 (hf) (some (.out (.ret false))) (B0 (decide (hb.1.fErr=0)) (Bl (BM .i64 (hd+1))<|Bs (Mu F hb.1.fValue) λhg=>B0 (!decide (hg=0)) (some (.out (.ret false))) (Gq he (hd+1) hb.2.fMade hb.2.fA.fTenant hb.2.fA.fFunction hb.2.fA.fOps hb.2.fA.fPolicy hb.2.fA.fNet hb.2.fA.fNow hb.2.fCalls hb.2.fEffects hb.2.fReads hb.2.fLog hb.2.fItems)) (Gq he hd hb.2.fMade hb.2.fA.fTenant hb.2.fA.fFunction hb.2.fA.fOps hb.2.fA.fPolicy hb.2.fA.fNet hb.2.fA.fNow hb.2.fCalls hb.2.fEffects hb.2.fReads hb.2.fLog hb.2.fItems))
def H6 (F:Nat)(x:B1)(he:(List A9))(hd:Int):Option (Stp (Int) (Out (Bool) (Unit))):=
 B0 (decide (hd<(he.length:Int))) (Bl (Cn hd (he.length:Int))<|Bs (Gd ((Ao he hd).fKind)) λhb=>Bl ((Gg F x.fA.fOps hb).isSome)<|Bl (imp (!(!(ov (Gg F x.fA.fOps hb)))) ((Co x.fA.fTenant hb ((Ao he hd).fKey)).isSome))<|Bl (imp (!(!(ov (Gg F x.fA.fOps hb)))) ((D1 F x.fA.fPolicy hb (ov (Co x.fA.fTenant hb ((Ao he hd).fKey)))).isSome))<|B0 (((!(ov (Gg F x.fA.fOps hb)))||(!((ov (D1 F x.fA.fPolicy hb (ov (Co x.fA.fTenant hb ((Ao he hd).fKey))))).fAllowed)))) (some (.out (.ret false))) (Bl (BM .i64 (hd+1))<|some (.next (hd+1)))) (some (.out (.go ())))
def H4 (F:Nat)(hb:Int)(hd:(List A9)):Option (Bool):=
 Bl (imp (decide ((hd.length:Int)≤hb)) ((D5 F).isSome))<|some ((decide ((hd.length:Int)≤hb))&&(ov (D5 F)))
def Gr (F:Nat)(x:B1)(he:Int)(hd:Int)(hf:Bool)(hg:Ah)(hh:Ah)(hi:(List Ah))(hj:(List Ad))(hk:(List AD))(hl:Int)(hm:Int)(hn:(List A9))(hp:(List Ah))(hq:(List Ah))(hr:(List (Ah×(List Ab)))):Option (Stp (Int×Int×Bool×Ah×Ah×(List Ah)×(List Ad)×(List AD)×Int×Int×(List A9)×(List Ah)×(List Ah)×(List (Ah×(List Ab)))) (Out (Bool) (Int×Bool×Ah×Ah×(List Ah)×(List Ad)×(List AD)×Int×Int×(List A9)×(List Ah)×(List Ah)×(List (Ah×(List Ab)))))):=
 B0 (decide (hd<(x.fL.length:Int))) (Bs (CH F (Az.mk hf (AT.mk hg hh hi hj hk hl) hr () hm hn hp hq)) λht=>Bs (Gk (Az.mk hf (AT.mk hg hh hi hj hk hl) hr () hm hn hp hq)) λhu=>Bl (Cn hd (x.fL.length:Int))<|Bs (Aae F (Az.mk hf (AT.mk hg hh hi hj hk hl) hr () hm hn hp hq) (Ao x.fL hd)) λhb=>Bs (ET F x.fA (Ao x.fL hd)) λhs=>B0 ((bif decide (32≤hd) then((!decide (hb.1.fErr=3))||((decide (hd<32))&&((!decide (hs=0))&&(!decide (hb.1.fErr=hs))))) else((decide (hd<32))&&((!decide (hs=0))&&(!decide (hb.1.fErr=hs)))))) (some (.out (.ret false))) (B0 (!decide (hb.1.fErr=0)) (B0 (!decide ((hb.1.fValue.length:Int)=0)) (DU hd F he hb true) (Bs (CH F (Az.mk hb.2.fMade hb.2.fA hb.2.fItems () hb.2.fCalls hb.2.fEffects hb.2.fReads hb.2.fLog)) λhw=>Bs (GA F ht hw) λhx=>B0 (!hx) (DU hd F he hb true) (Bs (Gk (Az.mk hb.2.fMade hb.2.fA hb.2.fItems () hb.2.fCalls hb.2.fEffects hb.2.fReads hb.2.fLog)) λhy=>Bs (Lg F hu hy) λhz=>DU hd F he hb (!hz)))) (DU hd F he hb false))) (some (.out (.go (he,hf,hg,hh,hi,hj,hk,hl,hm,hn,hp,hq,hr))))
def H5 (F:Nat)(x:B1)(hd:Int)(he:Bool)(hf:Ah)(hg:Ah)(hh:(List Ah))(hi:(List Ad))(hj:(List AD))(hk:Int)(hl:Int)(hm:(List A9))(hn:(List Ah))(hp:(List Ah))(hq:(List (Ah×(List Ab)))):Option (Bool):=
 Bs (CH F (Az.mk he (AT.mk hf hg hh hi hj hk) hq () hl hm hn hp)) λhb=>Bs (Cj (λσ=>H6 F x hb σ) F 0) (Cf λν=>H4 F hd hb )
def I8 (F:Nat)(x:B1):Option (Bool):=
 B0 (!x.fNone) (Bs (KZ F x) λr4=>B0 ((Lm F x.fA x.fItems).isSome) (Bs (Lm F x.fA x.fItems) λhb=>B0 (decide (50<(x.fL.length:Int))) (Bs (D5 F) λhe=>some he) (Bs (Cj (λσ=>Gs F x r4 σ.1 σ.2.1 σ.2.2.1 σ.2.2.2.1 σ.2.2.2.2.1 σ.2.2.2.2.2.1 σ.2.2.2.2.2.2.1 σ.2.2.2.2.2.2.2.1 σ.2.2.2.2.2.2.2.2.1 σ.2.2.2.2.2.2.2.2.2.1 σ.2.2.2.2.2.2.2.2.2.2.1 σ.2.2.2.2.2.2.2.2.2.2.2.1 σ.2.2.2.2.2.2.2.2.2.2.2.2.1 σ.2.2.2.2.2.2.2.2.2.2.2.2.2) F (0,0,hb.1.fMade,hb.1.fA.fTenant,hb.1.fA.fFunction,hb.1.fA.fOps,hb.1.fA.fPolicy,hb.1.fA.fNet,hb.1.fA.fNow,hb.1.fCalls,hb.1.fEffects,hb.1.fReads,hb.1.fLog,hb.1.fItems)) (Cf λν=>Ey F x ν.1 ν.2.1 ν.2.2.1 ν.2.2.2.1 ν.2.2.2.2.1 ν.2.2.2.2.2.1 ν.2.2.2.2.2.2.1 ν.2.2.2.2.2.2.2.1 ν.2.2.2.2.2.2.2.2.1 ν.2.2.2.2.2.2.2.2.2.1 ν.2.2.2.2.2.2.2.2.2.2.1 ν.2.2.2.2.2.2.2.2.2.2.2.1 ν.2.2.2.2.2.2.2.2.2.2.2.2))) (Bs (Q3 F x.fA x.fItems) λhf=>Bl (((!decide (hf.2=0))||(decide (50<(x.fL.length:Int)))))<|Bs (D5 F) λhg=>some hg)) (Bs (La F x) λhk=>B0 ((Lm F x.fA x.fItems).isSome) (Bs (Lm F x.fA x.fItems) λhd=>B0 (decide (50<(x.fL.length:Int))) (Bs (D5 F) λhh=>some hh) (Bs (Cj (λσ=>Gr F x σ.1 σ.2.1 σ.2.2.1 σ.2.2.2.1 σ.2.2.2.2.1 σ.2.2.2.2.2.1 σ.2.2.2.2.2.2.1 σ.2.2.2.2.2.2.2.1 σ.2.2.2.2.2.2.2.2.1 σ.2.2.2.2.2.2.2.2.2.1 σ.2.2.2.2.2.2.2.2.2.2.1 σ.2.2.2.2.2.2.2.2.2.2.2.1 σ.2.2.2.2.2.2.2.2.2.2.2.2.1 σ.2.2.2.2.2.2.2.2.2.2.2.2.2) F (0,0,hd.1.fMade,hd.1.fA.fTenant,hd.1.fA.fFunction,hd.1.fA.fOps,hd.1.fA.fPolicy,hd.1.fA.fNet,hd.1.fA.fNow,hd.1.fCalls,hd.1.fEffects,hd.1.fReads,hd.1.fLog,hd.1.fItems)) (Cf λν=>H5 F x ν.1 ν.2.1 ν.2.2.1 ν.2.2.2.1 ν.2.2.2.2.1 ν.2.2.2.2.2.1 ν.2.2.2.2.2.2.1 ν.2.2.2.2.2.2.2.1 ν.2.2.2.2.2.2.2.2.1 ν.2.2.2.2.2.2.2.2.2.1 ν.2.2.2.2.2.2.2.2.2.2.1 ν.2.2.2.2.2.2.2.2.2.2.2.1 ν.2.2.2.2.2.2.2.2.2.2.2.2))) (Bs (Q3 F x.fA x.fItems) λhi=>Bl (((!decide (hi.2=0))||(decide (50<(x.fL.length:Int)))))<|Bs (D5 F) λhj=>some hj))
end Go.Proofs.YtmjlemhondjfhaaGreatDoor
namespace Go.Proofs.YtmjlemhondjfhaaGreatDoor.Q
open Go Go.RowKit
set_option linter.unusedVariables false
set_option linter.unusedSimpArgs false
set_option maxRecDepth 100000
set_option maxHeartbeats 4000000
theorem S8 (F:Nat)(x:B1)(r:Bool)(h:I8 F x=some r):Fn Tryz.prog GE 4 [BB (Bi x)] [] (λR H=>R=rB r∧H=[]):=by
 refine enter (n:=164) Tryz.func4 Aa Tryz.ntmps4 Aa (λw Z=>?_);unfold I8 at h;refine Ae (Ci Aa Aa (λb1=>?_));refine wa Aa (Bv (wv (Bx (i:=0) Tryz.isAgg39 Tryz.sizeOf39 Aa Aa Aa Aa) (bz h (λc2 h3=>?_) (λc2 xi=>?_))))
 ·refine ob h3 λr4 e6 h5=>EX [] Tryz.call12 (VA F x r4 e6) ?_;rintro _ _ ⟨b7,b8,v9,ta,tb,rfl,rfl⟩;refine wm Aa (wv (A6 Aa Aa) (wv (A6 Aa Aa) (wa Aa (wa Aa (Bv (vF DG Aa DH (wv (Bx (i:=5) NH DH Aa Aa Aa Aa) (vF DG Aa Tryz.sizeOf35 (vL 5 Tryz.isAgg35 Aa (wm Aa (bz h5 (λxj xk=>?_) (λxj xl=>?_))))))))))))
  ·refine ob xk λhg xm xn=>EX [] Xw (SH F (some ⟨b7,0,none⟩) x.fA x.fItems hg xm) ?_;rintro _ _ ⟨hr,hm,hY,v20,v21,rfl,rfl⟩;refine wm Aa (wv (A6 Aa Aa) (wv (A6 Aa Aa) (wa Aa (wa Aa (An (Al (AC [(1,rP b1 0),(5,rP hr 0),(37,rB (decide (50<(x.fL.length:Int))))] [.blk hr [rB hg.1.fMade,rS hg.1.fA.fTenant,rS hg.1.fA.fFunction,AJ 1 (A3 eS hg.1.fA.fOps),AJ 3 (A3 Ai hg.1.fA.fPolicy),AJ 5 (A3 Au hg.1.fA.fNet),A2 hg.1.fA.fNow,rv (.map (some hm)),CU 40 (rP b7 0),A2 hg.1.fCalls,rv hY,rv v20,rv v21] 81,.map hm (Bq A1 hg.1.fItems),.row hY 60 4 (A3 Aw hg.1.fEffects),.row v20 9 1 (A3 eS hg.1.fReads),.row v21 9 1 (A3 eS hg.1.fLog),.blk b7 [rv (.map (some b8))] 156,.map b8 (Bq (mP b8) r4.1.1.fSecrets),.poolm b8 v9 162 (A3 A7 r4.1.2) none,.blk b1 (Bi x) 39] ?_ ?_)))))))
   ·refine Aj (wm Aa (wv (Ct Aa Aa) (wm Aa (Bd (b:=!decide (0=0)) Aa Aa (JA (by decide)) (vF DG Aa QR (Bd (b:=!decide (0=0)) Aa Aa (JA (by decide)) (vL 10 QT Aa (Bd (b:=!decide (0=0)) Aa Aa (JA (by decide)) (wv (Br (ys:=x.fL) (enc:=AN) QQ Aa) (Bd (b:=!decide (0=0)) Aa Aa (JA (by decide)) (wv (Ee Aa Aa) (wv (r:=rB (decide (50<(x.fL.length:Int)))) (Av (b:=!decide (0=0)) Aa (JA (by decide)) Aa) (Am ?_)))))))))))));exact wt
   refine cz xn Aa (λxo xp=>?_) (λxo xq=>?_)
   ·refine Ae (ob xp λxr xs xt=>BX Xx (Hh F xr xs) Aa (wa Aa (An (Ap (Ac ?_)))));obtain rfl:=As xt;exact Ar (BE Wa (AO Aa)) (sS (sS (sS (sS (sS (sS (sS (sS (sS sN))))))))) ⟨Aa,Aa⟩
   refine Ax (AS (Ae (wa Aa (An (Al (Ae (wa Aa (An (AF (Lw (H2:=[.blk hr [rB hg.1.fMade,rS hg.1.fA.fTenant,rS hg.1.fA.fFunction,AJ 1 (A3 eS hg.1.fA.fOps),AJ 3 (A3 Ai hg.1.fA.fPolicy),AJ 5 (A3 Au hg.1.fA.fNet),A2 hg.1.fA.fNow,rv (.map (some hm)),CU 40 (rP b7 0),A2 hg.1.fCalls,rv hY,rv v20,rv v21] 81,.map hm (Bq A1 hg.1.fItems),.blk b7 [rv (.map (some b8))] 156,.map b8 (Bq (mP b8) r4.1.1.fSecrets),.poolm b8 v9 162 (A3 A7 r4.1.2) none,.blk b1 (Bi x) 39,.row hY 60 4 (A3 Aw hg.1.fEffects),.row v20 9 1 (A3 eS hg.1.fReads),.row v21 9 1 (A3 eS hg.1.fLog)]) ((AW (i:=0) Aa).trans (Afj _ ((AW (i:=0) Aa).trans (Afj _ ((AW (i:=3) Aa).trans (Afj _ ((AW (i:=3) Aa).trans (Afj _ ((AW (i:=3) Aa).trans (Afj _ ((AW (i:=3) Aa).trans (Afj _ (Afl _))))))))))))) (ob xq λxu xv g9=>B2 (S:=Nat×(Int×Int×Bool×Ah×Ah×(List Ah)×(List Ad)×(List AD)×Int×Int×(List A9)×(List Ah)×(List Ah)×(List (Ah×(List Ab))))×(Value×Value×Value)) (V:=(Int×Bool×Ah×Ah×(List Ah)×(List Ad)×(List AD)×Int×Int×(List A9)×(List Ah)×(List Ah)×(List (Ah×(List Ab))))×(Value×Value×Value)) 0 (λσ=>Cj (λσ=>Gs F x r4 σ.1 σ.2.1 σ.2.2.1 σ.2.2.2.1 σ.2.2.2.2.1 σ.2.2.2.2.2.1 σ.2.2.2.2.2.2.1 σ.2.2.2.2.2.2.2.1 σ.2.2.2.2.2.2.2.2.1 σ.2.2.2.2.2.2.2.2.2.1 σ.2.2.2.2.2.2.2.2.2.2.1 σ.2.2.2.2.2.2.2.2.2.2.2.1 σ.2.2.2.2.2.2.2.2.2.2.2.2.1 σ.2.2.2.2.2.2.2.2.2.2.2.2.2) σ.1 σ.2.1=some xu) (λσ=>[(1,rP b1 0),(5,rP hr 0),(7,A2 σ.2.1.1),(8,A2 σ.2.1.2.1)]) (λσ=>[.blk hr [rB σ.2.1.2.2.1,rS σ.2.1.2.2.2.1,rS σ.2.1.2.2.2.2.1,AJ 1 (A3 eS σ.2.1.2.2.2.2.2.1),AJ 3 (A3 Ai σ.2.1.2.2.2.2.2.2.1),AJ 5 (A3 Au σ.2.1.2.2.2.2.2.2.2.1),A2 σ.2.1.2.2.2.2.2.2.2.2.1,rv (.map (some hm)),CU 40 (rP b7 0),A2 σ.2.1.2.2.2.2.2.2.2.2.2.1,rv σ.2.2.1,rv σ.2.2.2.1,rv σ.2.2.2.2] 81,.map hm (Bq A1 σ.2.1.2.2.2.2.2.2.2.2.2.2.2.2.2),.blk b7 [rv (.map (some b8))] 156,.map b8 (Bq (mP b8) r4.1.1.fSecrets),.poolm b8 v9 162 (A3 A7 r4.1.2) none,.blk b1 (Bi x) 39,.row σ.2.2.1 60 4 (A3 Aw σ.2.1.2.2.2.2.2.2.2.2.2.2.1),.row σ.2.2.2.1 9 1 (A3 eS σ.2.1.2.2.2.2.2.2.2.2.2.2.2.1),.row σ.2.2.2.2 9 1 (A3 eS σ.2.1.2.2.2.2.2.2.2.2.2.2.2.2.1)]) (λσ=>σ.1) (F,(0,0,hg.1.fMade,hg.1.fA.fTenant,hg.1.fA.fFunction,hg.1.fA.fOps,hg.1.fA.fPolicy,hg.1.fA.fNet,hg.1.fA.fNow,hg.1.fCalls,hg.1.fEffects,hg.1.fReads,hg.1.fLog,hg.1.fItems),(hY,v20,v21)) xv (AM.c Aa (AM.c Aa (AM.c Aa (AM.c Aa AM.nil)))) (sC (sC (sC (sC (sC (sC (sC (sC (sC sN))))))))) (λσ=>Ey F x σ.1.1 σ.1.2.1 σ.1.2.2.1 σ.1.2.2.2.1 σ.1.2.2.2.2.1 σ.1.2.2.2.2.2.1 σ.1.2.2.2.2.2.2.1 σ.1.2.2.2.2.2.2.2.1 σ.1.2.2.2.2.2.2.2.2.1 σ.1.2.2.2.2.2.2.2.2.2.1 σ.1.2.2.2.2.2.2.2.2.2.2.1 σ.1.2.2.2.2.2.2.2.2.2.2.2.1 σ.1.2.2.2.2.2.2.2.2.2.2.2.2=some r) (λσ=>[(1,rP b1 0),(5,rP hr 0),(7,A2 σ.1.1)]) (λσ=>[.blk hr [rB σ.1.2.1,rS σ.1.2.2.1,rS σ.1.2.2.2.1,AJ 1 (A3 eS σ.1.2.2.2.2.1),AJ 3 (A3 Ai σ.1.2.2.2.2.2.1),AJ 5 (A3 Au σ.1.2.2.2.2.2.2.1),A2 σ.1.2.2.2.2.2.2.2.1,rv (.map (some hm)),CU 40 (rP b7 0),A2 σ.1.2.2.2.2.2.2.2.2.1,rv σ.2.1,rv σ.2.2.1,rv σ.2.2.2] 81,.map hm (Bq A1 σ.1.2.2.2.2.2.2.2.2.2.2.2.2),.blk b7 [rv (.map (some b8))] 156,.map b8 (Bq (mP b8) r4.1.1.fSecrets),.poolm b8 v9 162 (A3 A7 r4.1.2) none,.blk b1 (Bi x) 39,.row σ.2.1 60 4 (A3 Aw σ.1.2.2.2.2.2.2.2.2.2.1),.row σ.2.2.1 9 1 (A3 eS σ.1.2.2.2.2.2.2.2.2.2.2.1),.row σ.2.2.2 9 1 (A3 eS σ.1.2.2.2.2.2.2.2.2.2.2.2.1)]) ?_ ?_)))))))))))
   ·rintro⟨tc,⟨hQ,hs,hZ,ga,gb,gc,gd,ge,gf,gg,gh,gi,gj,gl⟩,⟨gA,gB,gC⟩⟩ xw;refine GZ ?_;obtain⟨xx,rfl,gm,gD,gp⟩:=Cu xw;replace gD:Gs F x r4 hQ hs hZ ga gb gc gd ge gf gg gh gi gj gl=some gm:=gD;unfold Gs at gD;refine Al (Ae (wm Aa (vF DG Aa QR (vL 5 QT Aa (wv (Br (ys:=x.fL) (enc:=AN) QQ Aa) (wv (C1 Aa Aa) (An (cz gD Aa (λxy xz=>?_) (λxy x0=>?_)))))))))
    ·refine Ax (AS (G4 (S:=(Int×Bool×Ah×Ah×(List Ah)×(List Ad)×(List AD)×Int×Int×(List A9)×(List Ah)×(List Ah)×(List (Ah×(List Ab))))×(Value×Value×Value)) (λσ=>DV hs σ.1.1 σ.1.2.1 σ.1.2.2.1 σ.1.2.2.2.1 σ.1.2.2.2.2.1 σ.1.2.2.2.2.2.1 σ.1.2.2.2.2.2.2.1 σ.1.2.2.2.2.2.2.2.1 σ.1.2.2.2.2.2.2.2.2.1 σ.1.2.2.2.2.2.2.2.2.2.1 σ.1.2.2.2.2.2.2.2.2.2.2.1 σ.1.2.2.2.2.2.2.2.2.2.2.2.1 σ.1.2.2.2.2.2.2.2.2.2.2.2.2=some gm) (λσ=>[(1,rP b1 0),(5,rP hr 0),(7,A2 σ.1.1),(8,A2 hs)]) (λσ=>[.blk hr [rB σ.1.2.1,rS σ.1.2.2.1,rS σ.1.2.2.2.1,AJ 1 (A3 eS σ.1.2.2.2.2.1),AJ 3 (A3 Ai σ.1.2.2.2.2.2.1),AJ 5 (A3 Au σ.1.2.2.2.2.2.2.1),A2 σ.1.2.2.2.2.2.2.2.1,rv (.map (some hm)),CU 40 (rP b7 0),A2 σ.1.2.2.2.2.2.2.2.2.1,rv σ.2.1,rv σ.2.2.1,rv σ.2.2.2] 81,.map hm (Bq A1 σ.1.2.2.2.2.2.2.2.2.2.2.2.2),.blk b7 [rv (.map (some b8))] 156,.map b8 (Bq (mP b8) r4.1.1.fSecrets),.poolm b8 v9 162 (A3 A7 r4.1.2) none,.blk b1 (Bi x) 39,.row σ.2.1 60 4 (A3 Aw σ.1.2.2.2.2.2.2.2.2.2.1),.row σ.2.2.1 9 1 (A3 eS σ.1.2.2.2.2.2.2.2.2.2.2.1),.row σ.2.2.2 9 1 (A3 eS σ.1.2.2.2.2.2.2.2.2.2.2.2.1)]) ?_ ?_))
     ·refine AF (Ae (wm Aa (ob xz λgV x1 x2=>EX [0,0,4,4,4] Vd (GB F hr hm gA gB gC (some ⟨b7,0,none⟩) (Az.mk hZ (AT.mk ga gb gc gd ge gf) gl () gg gh gi gj) gV x1) ?_)));rintro _ _ ⟨rfl,rfl⟩;refine wa Aa (Bv (wm Aa (ob x2 λgW x3 x4=>EX [0,0,0,0,0] Xv (JN hr hm gA gB gC (some ⟨b7,0,none⟩) (Az.mk hZ (AT.mk ga gb gc gd ge gf) gl () gg gh gi gj) gW x3) ?_)));rintro _ _ ⟨rfl,rfl⟩;refine wa Aa (Bv (wm Aa (vF DG Aa QR (vL 8 QT Aa (wm Aa (ck x4 λcb x5=>wv (Bj (enc:=AN) (ys:=x.fL) QQ OQ Aa Aa cb) (wv (C9 Tp OQ Aa Aa Aa) (ob x5 λhb x6 x7=>EX [0,0,0,0,0,0,0,0] P6 (Ko F hr hm gA gB gC b7 b8 v9 (Az.mk hZ (AT.mk ga gb gc gd ge gf) gl () gg gh gi gj) r4.1.1 r4.1.2 (Ao x.fL hs) hb x6) ?_))))))));rintro _ _ ⟨hC,hD,hE,rfl,rfl⟩;refine BK (cs:=[A2 0,rv (.slice none 0 0)]) QP Aa Aa (λgq=>?_);refine Gy (i:=0) CV Aa Aa Aa (B6.c Aa) Aa Aa ?_;refine An (Al (JV 7 [1,5,7,8,9,10,11] [⟨[],rP b1 0,none,none,none⟩,⟨[0],BB (B9 x.fA),none,none,none⟩,⟨[],rP b1 9,none,none,none⟩,⟨[2],AJ 2 (A3 AN x.fL),none,none,none⟩,⟨[],A2 hs,none,none,none⟩,⟨[3,4],I0 (AN (Ao x.fL hs)),none,none,none⟩,⟨[5],BB (AN (Ao x.fL hs)),none,none,none⟩] ?_ (λβ=>?_)))
      ·refine Mw (Aq DG Aa DH Aa Aa) (SV (Bx (i:=9) NH DH Aa Aa Aa Aa) (Mw (Aq DG Aa QR Aa Aa) (SV (Bc (i:=9) QT Aa Aa Aa) (Mw (Ak Aa) (Mw (Bj (enc:=AN) (ys:=x.fL) QQ OQ Aa Aa cb) (Mw (C9 Tp OQ Aa Aa Aa) ?_))))));exact oae
      refine HF (H1:=[.blk gq (BN hb.1) 52,.blk hr [rB hb.2.fMade,rS hb.2.fA.fTenant,rS hb.2.fA.fFunction,AJ 1 (A3 eS hb.2.fA.fOps),AJ 3 (A3 Ai hb.2.fA.fPolicy),AJ 5 (A3 Au hb.2.fA.fNet),A2 hb.2.fA.fNow,rv (.map (some hm)),CU 40 (rP b7 0),A2 hb.2.fCalls,rv hC,rv hD,rv hE] 81,.map hm (Bq A1 hb.2.fItems),.row hC 60 4 (A3 Aw hb.2.fEffects),.row hD 9 1 (A3 eS hb.2.fReads),.row hE 9 1 (A3 eS hb.2.fLog),.blk b7 [rv (.map (some b8))] 156,.map b8 (Bq (mP b8) r4.1.1.fSecrets),.poolm b8 v9 162 (A3 A7 r4.1.2) none,.blk b1 (Bi x) 39]) [57,58,59,60,61,62,63,1,5,7,8,9,10,11] ?_;refine ob x7 λhR x8 x9=>BX yk8 (IF F x.fA (Ao x.fL hs) hR x8) Aa (wa Aa (An (Al (AC [(1,rP b1 0),(5,rP hr 0),(7,A2 hQ),(8,A2 hs),(9,AJ 4 (A3 Aw gV)),(10,AJ 1 (A3 eS gW)),(11,rP gq 0),(85,rB (bif decide (32≤hs) then((!decide (hb.1.fErr=3))||((decide (hs<32))&&((!decide (hR=0))&&(!decide (hb.1.fErr=hR))))) else((decide (hs<32))&&((!decide (hR=0))&&(!decide (hb.1.fErr=hR))))))] [.blk gq (BN hb.1) 52,.blk hr [rB hb.2.fMade,rS hb.2.fA.fTenant,rS hb.2.fA.fFunction,AJ 1 (A3 eS hb.2.fA.fOps),AJ 3 (A3 Ai hb.2.fA.fPolicy),AJ 5 (A3 Au hb.2.fA.fNet),A2 hb.2.fA.fNow,rv (.map (some hm)),CU 40 (rP b7 0),A2 hb.2.fCalls,rv hC,rv hD,rv hE] 81,.map hm (Bq A1 hb.2.fItems),.row hC 60 4 (A3 Aw hb.2.fEffects),.row hD 9 1 (A3 eS hb.2.fReads),.row hE 9 1 (A3 eS hb.2.fLog),.blk b7 [rv (.map (some b8))] 156,.map b8 (Bq (mP b8) r4.1.1.fSecrets),.poolm b8 v9 162 (A3 A7 r4.1.2) none,.blk b1 (Bi x) 39] ?_ ?_))))
      ·refine Aj (wm Aa (wv (EN Aa Aa) (wm Aa (AU (decide (32≤hs)) (λhy=>?_) (λhy=>?_)))))
       ·refine wo hy (vF HV Aa Mh (wo hy (vL 0 LL Aa (wo hy (wv (Ct Aa Aa) (Eb Aa hy Aa (wm Aa (AU (!decide (hb.1.fErr=3)) (λhi=>?_) (λhi=>?_)))))))))
        ·refine wf hi (wf hi (wf hi (wu (wu (wf hi (wf hi (wu (wu (wu (wu (wf hi (wv (r:=rB true) (AB Aa hi Aa) (Am ?_)))))))))))));exact Cd (And.intro hy hi)
        refine wo hi (wm Aa (wo hi (wv (C1 Aa Aa) (wo hi (wm Aa (AU (decide (hs<32)) (λhG=>?_) (λhG=>?_)))))))
        ·refine wo hG (wm Aa (wo hG (wv (Ct Aa Aa) (wo hi (Eb Aa hG Aa (wo hi (wm Aa (AU (!decide (hR=0)) (λh0=>?_) (λh0=>?_)))))))))
         ·refine wo h0 (vF HV Aa Mh (wo h0 (vL 0 LL Aa (wo h0 (wm Aa (wo h0 (wv (Ct Aa Aa) (wo hi (Eb Aa h0 Aa (II Aa hi Aa (Am ?_)))))))))));exact Cd (And.intro hy (And.intro hi (And.intro hG h0)))
         refine wf h0 (wf h0 (wf h0 (wf h0 (wo hi (wv (r:=rB false) (Av Aa h0 Aa) (II Aa hi Aa (Am ?_)))))));exact Cd (And.intro hy (And.intro hi (And.intro hG h0)))
        refine wf hG (wf hG (wo hi (wv (r:=rB false) (Av Aa hG Aa) (wo hi (wm Aa (wz Aa Aa (wz Aa Aa (wz Aa Aa (wz Aa Aa (wo hi (wv (r:=rB false) (Av (b:=false) Aa Aa Aa) (II Aa hi Aa (Am ?_)))))))))))));exact Cd (And.intro hy (And.intro hi hG))
       refine wf hy (wf hy (wf hy (wv (r:=rB false) (Av Aa hy Aa) (wm Aa (Bd (b:=false) Aa Aa Aa (wm Aa (Bd (b:=false) Aa Aa Aa (wv (C1 Aa Aa) (Bd (b:=false) Aa Aa Aa (wm Aa (AU (decide (hs<32)) (λhH=>?_) (λhH=>?_))))))))))))
       ·refine wo hH (wm Aa (wo hH (wv (Ct Aa Aa) (Bd (b:=false) Aa Aa Aa (Eb Aa hH Aa (Bd (b:=false) Aa Aa Aa (wm Aa (AU (!decide (hR=0)) (λh1=>?_) (λh1=>?_)))))))))
        ·refine wo h1 (vF HV Aa Mh (wo h1 (vL 0 LL Aa (wo h1 (wm Aa (wo h1 (wv (Ct Aa Aa) (Bd (b:=false) Aa Aa Aa (Eb Aa h1 Aa (wv (r:=rB (!decide (hb.1.fErr=hR))) (Av (b:=false) Aa Aa Aa) (Am ?_)))))))))));exact Cd (And.intro hy (And.intro hH h1))
        refine wf h1 (wf h1 (wf h1 (wf h1 (Bd (b:=false) Aa Aa Aa (wv (r:=rB false) (Av Aa h1 Aa) (wv (r:=rB false) (Av (b:=false) Aa Aa Aa) (Am ?_)))))));exact Cd (And.intro hy (And.intro hH h1))
       refine wf hH (wf hH (Bd (b:=false) Aa Aa Aa (wv (r:=rB false) (Av Aa hH Aa) (Bd (b:=false) Aa Aa Aa (wm Aa (wz Aa Aa (wz Aa Aa (wz Aa Aa (wz Aa Aa (Bd (b:=false) Aa Aa Aa (wv (r:=rB false) (Av (b:=false) Aa Aa Aa) (wv (r:=rB false) (Av (b:=false) Aa Aa Aa) (Am ?_)))))))))))));exact Cd (And.intro hy hH)
      refine cz x9 Aa (λxA xB=>?_) (λxA xC=>?_)
      ·refine Ae (wa Aa (An (Ap (Ac (A0 (Ac (Ac (Bu ?_))))))));have xD:=BF xB gp g9;refine A0 (Ac ?_);obtain rfl:=As xD;exact Ar (BE Wa (AO Aa)) (sS (sS (sS (sS (sS (sS (sS (sS (sS (sS sN)))))))))) ⟨Aa,Aa⟩
      refine Ax (AS (Al (G4 (S:=(Bool)×(Unit)) (λσ=>Cv hs F hQ hb σ.1=some gm) (λσ=>[(1,rP b1 0),(5,rP hr 0),(7,A2 hQ),(8,A2 hs),(11,rP gq 0),(108,rB σ.1)]) (λσ=>[.blk gq (BN hb.1) 52,.blk hr [rB hb.2.fMade,rS hb.2.fA.fTenant,rS hb.2.fA.fFunction,AJ 1 (A3 eS hb.2.fA.fOps),AJ 3 (A3 Ai hb.2.fA.fPolicy),AJ 5 (A3 Au hb.2.fA.fNet),A2 hb.2.fA.fNow,rv (.map (some hm)),CU 40 (rP b7 0),A2 hb.2.fCalls,rv hC,rv hD,rv hE] 81,.map hm (Bq A1 hb.2.fItems),.row hC 60 4 (A3 Aw hb.2.fEffects),.row hD 9 1 (A3 eS hb.2.fReads),.row hE 9 1 (A3 eS hb.2.fLog),.blk b7 [rv (.map (some b8))] 156,.map b8 (Bq (mP b8) r4.1.1.fSecrets),.poolm b8 v9 162 (A3 A7 r4.1.2) none,.blk b1 (Bi x) 39]) ?_ ?_)))
      ·refine Aj (vF HV Aa Mh (vL 0 LL Aa (wv (Ct Aa Aa) (wm Aa (bz xC (λhj xE=>?_) (λhj xF=>?_))))))
       ·refine wo hj (vF HV Aa C8 (wo hj (vL 0 DP Aa (wo hj (wv (Br (ys:=hb.1.fValue) (enc:=Af) CX Aa) (wo hj (wv (Ct Aa Aa) (wo hj (wm Aa (bz xE (λh2 xG=>?_) (λh2 xH=>?_)))))))))))
        ·exact wf h2 (wf h2 (wf h2 (wf h2 (wf h2 (wo hj (wv (r:=rB true) (AB Aa h2 Aa) (wo hj (wm Aa (wz Aa Aa (wz Aa Aa (wz Aa Aa (wz Aa Aa (wz Aa Aa (wo hj (wv (r:=rB true) (AB (b:=true) Aa Aa Aa) (Eb Aa hj Aa (Am (A4 (AK (true,()) xG (AM.c Aa (AM.c5 Aa Aa Aa Aa Aa AM.nil)) (sC (sC (sC (sC (sC (sC (sC (sC (sC (sC sN)))))))))))))))))))))))))))))
        refine wo h2 (wm Aa (wo h2 (wm Aa (wo h2 (ob xH λcc xI xJ=>EX [1,1,1,1,1] Vd (GB F hr hm hC hD hE (some ⟨b7,0,none⟩) (Az.mk hb.2.fMade hb.2.fA hb.2.fItems () hb.2.fCalls hb.2.fEffects hb.2.fReads hb.2.fLog) cc xI) ?_)))));rintro _ _ ⟨rfl,rfl⟩;refine wo h2 (ob xJ λxK xL xM=>BX Tryz.call17 (Nr F gV cc xK xL) Aa (wo h2 (wv (Cc Aa) (wo hj (II Aa h2 Aa (wo hj (wm Aa (bz xM (λh4 xN=>?_) (λh4 xO=>?_)))))))))
        ·refine wf h4 (wf h4 (wf h4 (wf h4 (wf h4 (wo hj (wv (r:=rB true) (AB Aa h4 Aa) (Eb Aa hj Aa (Am (Js [5] ?_)))))))));exact A4 (AK (true,()) xN (AM.c Aa (AM.c5 Aa Aa Aa Aa Aa AM.nil)) (sC (sC (sC (sC (sC (sC (sC (sC (sC (sC sN)))))))))))
        refine wo h4 (wm Aa (wo h4 (wm Aa (wo h4 (ob xO λcd xP xQ=>EX [0,0,0,0,0] Xv (JN hr hm hC hD hE (some ⟨b7,0,none⟩) (Az.mk hb.2.fMade hb.2.fA hb.2.fItems () hb.2.fCalls hb.2.fEffects hb.2.fReads hb.2.fLog) cd xP) ?_)))));rintro _ _ ⟨rfl,rfl⟩;refine wo h4 (ob xQ λce xR xS=>BX Tryz.call18 (Q1 F gW cd ce xR) Aa (wo h4 (wv (Cc Aa) (wo hj (II Aa h4 Aa (Eb Aa hj Aa (Am (Js [5] ?_))))))));exact A4 (AK (!ce,()) xS (AM.c Aa (AM.c5 Aa Aa Aa Aa Aa AM.nil)) (sC (sC (sC (sC (sC (sC (sC (sC (sC (sC sN)))))))))))
       exact wf hj (wf hj (wf hj (wf hj (wf hj (wu (wu (wu (wu (wu (wf hj (wf hj (wu (wu (wu (wu (wu (wf hj (wv (r:=rB false) (Av Aa hj Aa) (Am (A4 (AK (false,()) xF (AM.c Aa (AM.c5 Aa Aa Aa Aa Aa AM.nil)) (sC (sC (sC (sC (sC (sC (sC (sC (sC (sC sN)))))))))))))))))))))))))))))))
      rintro⟨xT,⟨⟩⟩ gE;refine GZ ?_;replace gE:Cv hs F hQ hb xT=some gm:=gE;unfold Cv at gE;refine cz gE Aa (λxU xV=>?_) (λxU xW=>?_)
      ·refine Ae (wa Aa (An (Ap (Ac (A0 (Ac (Ac (Bu ?_))))))));have xX:=BF xV gp g9;refine A0 (Ac ?_);obtain rfl:=As xX;exact Ar (BE Wa (AO Aa)) (sS (sS (sS (sS (sS (sS (sS (sS (sS (sS sN)))))))))) ⟨Aa,Aa⟩
      refine Ax (AS (Ae (vF HV Aa Mh (vL 0 LL Aa (wv (BI Aa Aa) (An (cz xW Aa (λxY xZ=>?_) (λxY va=>?_))))))))
      ·refine Ae (wm Aa (ck xZ λvb vc=>wv (BA Aa Aa vb) (wa Aa (Bv (vF HV Aa C8 (vL 0 DP Aa (ob vc λvd ve vf=>BX Tryz.call19 (TF F hb.1.fValue vd ve) Aa (wv (Ct Aa Aa) (An (cz vf Aa (λvg vh=>?_) (λvg vi=>?_)))))))))))
       ·refine Ae (wa Aa (An (Ap (A0 (Ac (Ac (Bu ?_)))))));have vj:=BF vh gp g9;refine A0 (Ac ?_);obtain rfl:=As vj;exact Ar (BE Wa (AO Aa)) (sS (sS (sS (sS (sS (sS (sS (sS (sS (sS sN)))))))))) ⟨Aa,Aa⟩
       refine Ax (AH (Js [1,1,4,4,4,4,1,1,1] ?_));exact A4 (AK ((hQ+1,hb.2.fMade,hb.2.fA.fTenant,hb.2.fA.fFunction,hb.2.fA.fOps,hb.2.fA.fPolicy,hb.2.fA.fNet,hb.2.fA.fNow,hb.2.fCalls,hb.2.fEffects,hb.2.fReads,hb.2.fLog,hb.2.fItems),(hC,hD,hE)) vi (AM.c Aa (AM.c Aa (AM.c Aa (AM.c Aa AM.nil)))) (sC (sC (sC (sC (sC (sC (sC (sC (sC (sS sN)))))))))))
      refine Ax (AH (Js [1,1,4,4,4,4,1,1,1] ?_));exact A4 (AK ((hQ,hb.2.fMade,hb.2.fA.fTenant,hb.2.fA.fFunction,hb.2.fA.fOps,hb.2.fA.fPolicy,hb.2.fA.fNet,hb.2.fA.fNow,hb.2.fCalls,hb.2.fEffects,hb.2.fReads,hb.2.fLog,hb.2.fItems),(hC,hD,hE)) va (AM.c Aa (AM.c Aa (AM.c Aa (AM.c Aa AM.nil)))) (sC (sC (sC (sC (sC (sC (sC (sC (sC (sS sN)))))))))))
     rintro⟨⟨cf,cg,ch,ci,cj,cl,cm,cn,co,cp,cq,cr,ct⟩,⟨vk,vl,vm⟩⟩ gF;refine GZ ?_;replace gF:DV hs cf cg ch ci cj cl cm cn co cp cq cr ct=some gm:=gF;unfold DV at gF;refine Aj (wm Aa (ck gF λvn vo=>wv (BA Aa Aa vn) (wa Aa (Am ?_))));have vp:=Bw vo gp;exact A4 (AK (xx,(cf,hs+1,cg,ch,ci,cj,cl,cm,cn,co,cp,cq,cr,ct),(vk,vl,vm)) ⟨vp,Afh _⟩ (AM.c Aa (AM.c Aa (AM.c Aa (AM.c Aa AM.nil)))) (sC (sC (sC (sC (sC (sC (sC (sC (sC sN))))))))))
    refine B4 (Ay ?_);have vq:=BP x0 gp g9;exact Ay (Bn (AK ((hQ,hZ,ga,gb,gc,gd,ge,gf,gg,gh,gi,gj,gl),(gA,gB,gC)) vq (AM.c Aa (AM.c Aa (AM.c Aa AM.nil))) (sC (sC (sC (sC (sC (sC (sC (sC (sC sN)))))))))))
   rintro⟨⟨hS,cu,cv,cw,cx,cy,c0,c1,c3,c4,c6,c7,c8⟩,⟨vr,vs,vt⟩⟩ gG;refine HE ?_;replace gG:Ey F x hS cu cv cw cx cy c0 c1 c3 c4 c6 c7 c8=some r:=gG;unfold Ey at gG;refine Bm (AS (Ae (wm Aa (ob gG λhp vu vv=>EX [0,0,4,4,4] Vd (GB F hr hm vr vs vt (some ⟨b7,0,none⟩) (Az.mk cu (AT.mk cv cw cx cy c0 c1) c8 () c3 c4 c6 c7) hp vu) ?_))));rintro _ _ ⟨rfl,rfl⟩;refine wa Aa (An (Al (Ae (wa Aa (An (AF (ob vv λvw vx c9=>B2 (S:=Nat×(Int)×(Unit)) (V:=(Unit)×(Unit)) 2 (λσ=>Cj (λσ=>De F x hp σ) σ.1 σ.2.1=some vw) (λσ=>[(1,rP b1 0),(7,A2 hS),(13,AJ 4 (A3 Aw hp)),(14,A2 σ.2.1)]) (λσ=>[.poolm b8 v9 162 (A3 A7 r4.1.2) none,.blk b1 (Bi x) 39]) (λσ=>σ.1) (F,0,()) vx (AM.c Aa (AM.c Aa (AM.c Aa (AM.c Aa AM.nil)))) (sS (sS (sS (sS (sS (sS (sS (sC (sC sN))))))))) (λσ=>Ex F hS hp =some r) (λσ=>[(7,A2 hS),(13,AJ 4 (A3 Aw hp))]) (λσ=>[.poolm b8 v9 162 (A3 A7 r4.1.2) none]) ?_ ?_)))))))
   ·rintro⟨td,hI,⟨⟩⟩ vy;refine GZ ?_;obtain⟨vz,rfl,v0,gH,gX⟩:=Cu vy;replace gH:De F x hp hI=some v0:=gH;unfold De at gH;refine Al (Ae (wm Aa (wm Aa (wv (Br (ys:=hp) (enc:=Aw) DA Aa) (wv (C1 Aa Aa) (An (cz gH Aa (λv1 v2=>?_) (λv1 v3=>?_))))))))
    ·refine Ax (AS (Al (AF (Ae (wm Aa (wm Aa (ck v2 λcA v4=>wv (Bj (enc:=Aw) (ys:=hp) DA CE Aa Aa cA) (wv (AI CP Aa Ip Aa Aa) (wv (AV NG Aa Aa) (ob v4 λhw v5 v6=>BX Tryz.call20 (Lb ((Ao hp hI).fKind) hw v5) Aa (wa Aa (An (ck v6 λcB v7=>ck v7 λv8 vA=>ck vA λvB vC=>AC [(1,rP b1 0),(7,A2 hS),(13,AJ 4 (A3 Aw hp)),(14,A2 hI),(156,rB ((!(ov (Gg F x.fA.fOps hw)))||(!((ov (D1 F x.fA.fPolicy hw (ov (Co x.fA.fTenant hw ((Ao hp hI).fKey))))).fAllowed))))] [.poolm b8 v9 162 (A3 A7 r4.1.2) none,.blk b1 (Bi x) 39] ?_ ?_)))))))))))))
     ·refine AU (!(ov (Gg F x.fA.fOps hw))) (λhe=>?_) (λhe=>?_)
      ·refine Dc [1,7,13,14,15] ?_;refine rq (Aq DG Aa DH Aa Aa) (rq (Aq DB Aa Dm Aa Aa) (rq (Bc (i:=1) G3 Aa Aa Aa) (rq (Ak Aa) (Jf (CD Tryz.call21 (Pv F x.fA.fOps hw (ov (Gg F x.fA.fOps hw)) (CY cB)) Aa) (rq (Cc Aa) (rq (Ak Aa) (rz he (rz he (rz he (rz he (rz he (rz he (rz he (rz he (rz he (rz he (rz he (rz he (rz he (rz he (rz he (rz he (rz he ?_)))))))))))))))))))))));refine rq (r:=rB true) (AB (b:=!(ov (Gg F x.fA.fOps hw))) Aa he Aa) (re [156,1,7,13,14] ?_);exact Cd he
      refine Dc [1,7,13,14,15] ?_;refine rq (Aq DG Aa DH Aa Aa) (rq (Aq DB Aa Dm Aa Aa) (rq (Bc (i:=1) G3 Aa Aa Aa) (rq (Ak Aa) (Jf (CD Tryz.call21 (Pv F x.fA.fOps hw (ov (Gg F x.fA.fOps hw)) (CY cB)) Aa) (rq (Cc Aa) (rq (Ak Aa) (rg he (Aq DG Aa DH Aa Aa) (rg he (Aq DB Aa KI Aa Aa) (rg he (Bc (i:=1) MG Aa Aa Aa) (rg he (Ak Aa) (rg he (Aq DG Aa DH Aa Aa) (rg he (Aq DB Aa CC Aa Aa) (rg he (Bc (i:=1) Dp Aa Aa Aa) (rg he (Ak Aa) (rg he (Ak Aa) (rg he (Ak Aa) (rg he (Bj (enc:=Aw) (ys:=hp) DA CE Aa Aa cA) (rg he (AI CP Aa CC Aa Aa) (rg he (AV Dp Aa Aa) (ro he (CD Tryz.call10 (IZ x.fA.fTenant hw ((Ao hp hI).fKey) (ov (Co x.fA.fTenant hw ((Ao hp hI).fKey))) (CY (Dd v8 he))) Aa) (ro he (CD Tryz.call22 (Mv F x.fA.fPolicy hw (ov (Co x.fA.fTenant hw ((Ao hp hI).fKey))) (ov (D1 F x.fA.fPolicy hw (ov (Co x.fA.fTenant hw ((Ao hp hI).fKey))))) (CY (Dd vB he))) Aa) (rg he (r:=rB ((ov (D1 F x.fA.fPolicy hw (ov (Co x.fA.fTenant hw ((Ao hp hI).fKey))))).fAllowed)) (L7 YC Aa Pe Aa Aa) (rg he (Cc Aa) ?_)))))))))))))))))))))));refine rq (Av Aa he Aa) (re [156,1,7,13,14] ?_);exact Cd he
     refine cz vC Aa (λvD vE=>?_) (λvD vG=>?_)
     ·refine Ae (wa Aa (An (Ap (A0 (Ac (Ac (Bu ?_)))))));have vH:=BF vE gX c9;refine A0 (Ac ?_);obtain rfl:=As vH;exact Ar (BE Wa (AO Aa)) (sS (sS sN)) ⟨Aa,Aa⟩
     refine Ax (AH (AS (Aj (wm Aa (ck vG λvI vJ=>wv (BA Aa Aa vI) (wa Aa (Am ?_)))))));have vK:=Bw vJ gX;exact A4 (AK (vz,hI+1,()) ⟨vK,Afh _⟩ (AM.c Aa (AM.c Aa (AM.c Aa (AM.c Aa AM.nil)))) (sC (sC sN)))
    refine B4 (Ay ?_);have vM:=BP v3 gX c9;exact Ay (Bn (AK ((),()) vM (AM.c Aa (AM.c Aa AM.nil)) (sC (sS sN))))
   rintro⟨⟨⟩,⟨⟩⟩ gI;refine HE ?_;replace gI:Ex F hS hp =some r:=gI;unfold Ex at gI;refine Bm (AS (ck gI λvN vO=>AC [(2,rB ((decide ((hp.length:Int)≤hS))&&(ov (D5 F))))] [.poolm b8 v9 162 (A3 A7 r4.1.2) none] ?_ ?_))
   ·refine Aj (wm Aa (wv (Br (ys:=hp) (enc:=Aw) DA Aa) (wm Aa (wv (J9 Aa Aa) (wm Aa (AU (decide ((hp.length:Int)≤hS)) (λhT=>?_) (λhT=>?_)))))))
    ·refine wo hT (BX Xx (Hh F (ov (D5 F)) (CY (BY vN hT))) Aa (Eb Aa hT Aa (wa Aa (Am ?_))));exact Cd hT
    refine wf hT (wv (r:=rB false) (Av Aa hT Aa) (wa Aa (Am ?_)));exact Cd hT
   refine Ap ?_;obtain rfl:=As vO;exact Ar (BE Wa (AO Aa)) (sS sN) ⟨Aa,Aa⟩
  refine ob xl λgJ vP vQ=>BX Xw (SI F (some ⟨b7,0,none⟩) x.fA x.fItems gJ vP) Aa (wm Aa (wv (A6 Aa Aa) (wv (A6 Aa Aa) (wa Aa (wa Aa (An (Al (AC [(1,rP b1 0),(5,rv (.pointer none)),(37,rB ((!decide (gJ.2=0))||(decide (50<(x.fL.length:Int)))))] [.poolm b8 v9 162 (A3 A7 r4.1.2) none,.blk b1 (Bi x) 39] ?_ ?_))))))))
  ·refine Aj (wm Aa (wv (Ct Aa Aa) (wm Aa (AU (!decide (gJ.2=0)) (λh6=>?_) (λh6=>?_)))))
   ·refine wf h6 (wf h6 (wf h6 (wf h6 (wv (r:=rB true) (AB Aa h6 Aa) (Am ?_)))));exact Cd h6
   refine wo h6 (vF DG Aa QR (wo h6 (vL 5 QT Aa (wo h6 (wv (Br (ys:=x.fL) (enc:=AN) QQ Aa) (wo h6 (wv (Ee Aa Aa) (II Aa h6 Aa (Am ?_)))))))));exact Cd h6
  refine ck vQ λvR vS=>CG (b:=((!decide (gJ.2=0))||(decide (50<(x.fL.length:Int))))) Aa vR (Ae (ob vS λvT vU vV=>BX Xx (Hh F vT vU) Aa (wa Aa (An (Ap (Ac ?_))))));obtain rfl:=As vV;exact Ar (BE Wa (AO Aa)) (sS (sS sN)) ⟨Aa,Aa⟩
 refine ob xi λvW vX vY=>BX Tryz.call12 (VB F x vW vX) Aa (wm Aa (wv (A6 Aa Aa) (wv (A6 Aa Aa) (wa Aa (wa Aa (Bv (vF DG Aa DH (wv (Bx (i:=0) NH DH Aa Aa Aa Aa) (vF DG Aa Tryz.sizeOf35 (vL 0 Tryz.isAgg35 Aa (wm Aa (bz vY (λvZ ba=>?_) (λvZ bb=>?_)))))))))))))
 ·refine ob ba λhh bc be=>EX [] Xw (SH F none x.fA x.fItems hh bc) ?_;rintro _ _ ⟨ht,hn,gr,gs,gt,rfl,rfl⟩;refine wm Aa (wv (A6 Aa Aa) (wv (A6 Aa Aa) (wa Aa (wa Aa (An (Al (AC [(1,rP b1 0),(5,rP ht 0),(37,rB (decide (50<(x.fL.length:Int))))] [.blk ht [rB hh.1.fMade,rS hh.1.fA.fTenant,rS hh.1.fA.fFunction,AJ 1 (A3 eS hh.1.fA.fOps),AJ 3 (A3 Ai hh.1.fA.fPolicy),AJ 5 (A3 Au hh.1.fA.fNet),A2 hh.1.fA.fNow,rv (.map (some hn)),CU 40 (rv (.pointer none)),A2 hh.1.fCalls,rv gr,rv gs,rv gt] 81,.map hn (Bq A1 hh.1.fItems),.row gr 60 4 (A3 Aw hh.1.fEffects),.row gs 9 1 (A3 eS hh.1.fReads),.row gt 9 1 (A3 eS hh.1.fLog),.blk b1 (Bi x) 39] ?_ ?_)))))))
  ·refine Aj (wm Aa (wv (Ct Aa Aa) (wm Aa (Bd (b:=!decide (0=0)) Aa Aa (JA (by decide)) (vF DG Aa QR (Bd (b:=!decide (0=0)) Aa Aa (JA (by decide)) (vL 5 QT Aa (Bd (b:=!decide (0=0)) Aa Aa (JA (by decide)) (wv (Br (ys:=x.fL) (enc:=AN) QQ Aa) (Bd (b:=!decide (0=0)) Aa Aa (JA (by decide)) (wv (Ee Aa Aa) (wv (r:=rB (decide (50<(x.fL.length:Int)))) (Av (b:=!decide (0=0)) Aa (JA (by decide)) Aa) (Am ?_)))))))))))));exact wt
  refine cz be Aa (λbf bg=>?_) (λbf bh=>?_)
  ·refine Ae (ob bg λbi bj bk=>BX Xx (Hh F bi bj) Aa (wa Aa (An (Ap (Ac ?_)))));obtain rfl:=As bk;exact Ar (BE Wa (AO Aa)) (sS (sS (sS (sS (sS (sS sN)))))) ⟨Aa,Aa⟩
  refine Ax (AS (Ae (wa Aa (An (Al (Ae (wa Aa (An (AF (Lw (H2:=[.blk ht [rB hh.1.fMade,rS hh.1.fA.fTenant,rS hh.1.fA.fFunction,AJ 1 (A3 eS hh.1.fA.fOps),AJ 3 (A3 Ai hh.1.fA.fPolicy),AJ 5 (A3 Au hh.1.fA.fNet),A2 hh.1.fA.fNow,rv (.map (some hn)),CU 40 (rv (.pointer none)),A2 hh.1.fCalls,rv gr,rv gs,rv gt] 81,.map hn (Bq A1 hh.1.fItems),.blk b1 (Bi x) 39,.row gr 60 4 (A3 Aw hh.1.fEffects),.row gs 9 1 (A3 eS hh.1.fReads),.row gt 9 1 (A3 eS hh.1.fLog)]) ((AW (i:=0) Aa).trans (Afj _ ((AW (i:=0) Aa).trans (Afj _ ((AW (i:=3) Aa).trans (Afj _ (Afl _))))))) (ob bh λbl bm gK=>B2 (S:=Nat×(Int×Int×Bool×Ah×Ah×(List Ah)×(List Ad)×(List AD)×Int×Int×(List A9)×(List Ah)×(List Ah)×(List (Ah×(List Ab))))×(Value×Value×Value)) (V:=(Int×Bool×Ah×Ah×(List Ah)×(List Ad)×(List AD)×Int×Int×(List A9)×(List Ah)×(List Ah)×(List (Ah×(List Ab))))×(Value×Value×Value)) 0 (λσ=>Cj (λσ=>Gr F x σ.1 σ.2.1 σ.2.2.1 σ.2.2.2.1 σ.2.2.2.2.1 σ.2.2.2.2.2.1 σ.2.2.2.2.2.2.1 σ.2.2.2.2.2.2.2.1 σ.2.2.2.2.2.2.2.2.1 σ.2.2.2.2.2.2.2.2.2.1 σ.2.2.2.2.2.2.2.2.2.2.1 σ.2.2.2.2.2.2.2.2.2.2.2.1 σ.2.2.2.2.2.2.2.2.2.2.2.2.1 σ.2.2.2.2.2.2.2.2.2.2.2.2.2) σ.1 σ.2.1=some bl) (λσ=>[(1,rP b1 0),(5,rP ht 0),(7,A2 σ.2.1.1),(8,A2 σ.2.1.2.1)]) (λσ=>[.blk ht [rB σ.2.1.2.2.1,rS σ.2.1.2.2.2.1,rS σ.2.1.2.2.2.2.1,AJ 1 (A3 eS σ.2.1.2.2.2.2.2.1),AJ 3 (A3 Ai σ.2.1.2.2.2.2.2.2.1),AJ 5 (A3 Au σ.2.1.2.2.2.2.2.2.2.1),A2 σ.2.1.2.2.2.2.2.2.2.2.1,rv (.map (some hn)),CU 40 (rv (.pointer none)),A2 σ.2.1.2.2.2.2.2.2.2.2.2.1,rv σ.2.2.1,rv σ.2.2.2.1,rv σ.2.2.2.2] 81,.map hn (Bq A1 σ.2.1.2.2.2.2.2.2.2.2.2.2.2.2.2),.blk b1 (Bi x) 39,.row σ.2.2.1 60 4 (A3 Aw σ.2.1.2.2.2.2.2.2.2.2.2.2.1),.row σ.2.2.2.1 9 1 (A3 eS σ.2.1.2.2.2.2.2.2.2.2.2.2.2.1),.row σ.2.2.2.2 9 1 (A3 eS σ.2.1.2.2.2.2.2.2.2.2.2.2.2.2.1)]) (λσ=>σ.1) (F,(0,0,hh.1.fMade,hh.1.fA.fTenant,hh.1.fA.fFunction,hh.1.fA.fOps,hh.1.fA.fPolicy,hh.1.fA.fNet,hh.1.fA.fNow,hh.1.fCalls,hh.1.fEffects,hh.1.fReads,hh.1.fLog,hh.1.fItems),(gr,gs,gt)) bm (AM.c Aa (AM.c Aa (AM.c Aa (AM.c Aa AM.nil)))) (sC (sC (sC (sC (sC (sC sN)))))) (λσ=>H5 F x σ.1.1 σ.1.2.1 σ.1.2.2.1 σ.1.2.2.2.1 σ.1.2.2.2.2.1 σ.1.2.2.2.2.2.1 σ.1.2.2.2.2.2.2.1 σ.1.2.2.2.2.2.2.2.1 σ.1.2.2.2.2.2.2.2.2.1 σ.1.2.2.2.2.2.2.2.2.2.1 σ.1.2.2.2.2.2.2.2.2.2.2.1 σ.1.2.2.2.2.2.2.2.2.2.2.2.1 σ.1.2.2.2.2.2.2.2.2.2.2.2.2=some r) (λσ=>[(1,rP b1 0),(5,rP ht 0),(7,A2 σ.1.1)]) (λσ=>[.blk ht [rB σ.1.2.1,rS σ.1.2.2.1,rS σ.1.2.2.2.1,AJ 1 (A3 eS σ.1.2.2.2.2.1),AJ 3 (A3 Ai σ.1.2.2.2.2.2.1),AJ 5 (A3 Au σ.1.2.2.2.2.2.2.1),A2 σ.1.2.2.2.2.2.2.2.1,rv (.map (some hn)),CU 40 (rv (.pointer none)),A2 σ.1.2.2.2.2.2.2.2.2.1,rv σ.2.1,rv σ.2.2.1,rv σ.2.2.2] 81,.map hn (Bq A1 σ.1.2.2.2.2.2.2.2.2.2.2.2.2),.blk b1 (Bi x) 39,.row σ.2.1 60 4 (A3 Aw σ.1.2.2.2.2.2.2.2.2.2.1),.row σ.2.2.1 9 1 (A3 eS σ.1.2.2.2.2.2.2.2.2.2.2.1),.row σ.2.2.2 9 1 (A3 eS σ.1.2.2.2.2.2.2.2.2.2.2.2.1)]) ?_ ?_)))))))))))
  ·rintro⟨te,⟨hU,hu,gu,gv,gw,gx,gy,gz,g0,g1,g2,g3,g4,g5⟩,⟨gL,gM,gN⟩⟩ bn;refine GZ ?_;obtain⟨bo,rfl,g6,gO,g7⟩:=Cu bn;replace gO:Gr F x hU hu gu gv gw gx gy gz g0 g1 g2 g3 g4 g5=some g6:=gO;unfold Gr at gO;refine Al (Ae (wm Aa (vF DG Aa QR (vL 2 QT Aa (wv (Br (ys:=x.fL) (enc:=AN) QQ Aa) (wv (C1 Aa Aa) (An (cz gO Aa (λbp bq=>?_) (λbp br=>?_)))))))))
   ·refine Ax (AS (G4 (S:=(Int×Bool×Ah×Ah×(List Ah)×(List Ad)×(List AD)×Int×Int×(List A9)×(List Ah)×(List Ah)×(List (Ah×(List Ab))))×(Value×Value×Value)) (λσ=>Gq hu σ.1.1 σ.1.2.1 σ.1.2.2.1 σ.1.2.2.2.1 σ.1.2.2.2.2.1 σ.1.2.2.2.2.2.1 σ.1.2.2.2.2.2.2.1 σ.1.2.2.2.2.2.2.2.1 σ.1.2.2.2.2.2.2.2.2.1 σ.1.2.2.2.2.2.2.2.2.2.1 σ.1.2.2.2.2.2.2.2.2.2.2.1 σ.1.2.2.2.2.2.2.2.2.2.2.2.1 σ.1.2.2.2.2.2.2.2.2.2.2.2.2=some g6) (λσ=>[(1,rP b1 0),(5,rP ht 0),(7,A2 σ.1.1),(8,A2 hu)]) (λσ=>[.blk ht [rB σ.1.2.1,rS σ.1.2.2.1,rS σ.1.2.2.2.1,AJ 1 (A3 eS σ.1.2.2.2.2.1),AJ 3 (A3 Ai σ.1.2.2.2.2.2.1),AJ 5 (A3 Au σ.1.2.2.2.2.2.2.1),A2 σ.1.2.2.2.2.2.2.2.1,rv (.map (some hn)),CU 40 (rv (.pointer none)),A2 σ.1.2.2.2.2.2.2.2.2.1,rv σ.2.1,rv σ.2.2.1,rv σ.2.2.2] 81,.map hn (Bq A1 σ.1.2.2.2.2.2.2.2.2.2.2.2.2),.blk b1 (Bi x) 39,.row σ.2.1 60 4 (A3 Aw σ.1.2.2.2.2.2.2.2.2.2.1),.row σ.2.2.1 9 1 (A3 eS σ.1.2.2.2.2.2.2.2.2.2.2.1),.row σ.2.2.2 9 1 (A3 eS σ.1.2.2.2.2.2.2.2.2.2.2.2.1)]) ?_ ?_))
    ·refine AF (Ae (wm Aa (ob bq λgY bs bt=>EX [0,0,1,1,1] Vd (GB F ht hn gL gM gN none (Az.mk gu (AT.mk gv gw gx gy gz g0) g5 () g1 g2 g3 g4) gY bs) ?_)));rintro _ _ ⟨rfl,rfl⟩;refine wa Aa (Bv (wm Aa (ob bt λgZ bu bv=>EX [0,0,0,0,0] Xv (JN ht hn gL gM gN none (Az.mk gu (AT.mk gv gw gx gy gz g0) g5 () g1 g2 g3 g4) gZ bu) ?_)));rintro _ _ ⟨rfl,rfl⟩;refine wa Aa (Bv (wm Aa (vF DG Aa QR (vL 5 QT Aa (wm Aa (ck bv λcC bw=>wv (Bj (enc:=AN) (ys:=x.fL) QQ OQ Aa Aa cC) (wv (C9 Tp OQ Aa Aa Aa) (ob bw λhd bx b0=>EX [0,0,0,0,0] P6 (Adi F ht hn gL gM gN (Az.mk gu (AT.mk gv gw gx gy gz g0) g5 () g1 g2 g3 g4) (Ao x.fL hu) hd bx) ?_))))))));rintro _ _ ⟨hJ,hK,hL,rfl,rfl⟩;refine BK (cs:=[A2 0,rv (.slice none 0 0)]) QP Aa Aa (λg8=>?_);refine Gy (i:=0) CV Aa Aa Aa (B6.c Aa) Aa Aa ?_;refine An (Al (JV 7 [1,5,7,8,9,10,11] [⟨[],rP b1 0,none,none,none⟩,⟨[0],BB (B9 x.fA),none,none,none⟩,⟨[],rP b1 9,none,none,none⟩,⟨[2],AJ 2 (A3 AN x.fL),none,none,none⟩,⟨[],A2 hu,none,none,none⟩,⟨[3,4],I0 (AN (Ao x.fL hu)),none,none,none⟩,⟨[5],BB (AN (Ao x.fL hu)),none,none,none⟩] ?_ (λβ=>?_)))
     ·refine Mw (Aq DG Aa DH Aa Aa) (SV (Bx (i:=6) NH DH Aa Aa Aa Aa) (Mw (Aq DG Aa QR Aa Aa) (SV (Bc (i:=6) QT Aa Aa Aa) (Mw (Ak Aa) (Mw (Bj (enc:=AN) (ys:=x.fL) QQ OQ Aa Aa cC) (Mw (C9 Tp OQ Aa Aa Aa) ?_))))));exact oae
     refine HF (H1:=[.blk g8 (BN hd.1) 52,.blk ht [rB hd.2.fMade,rS hd.2.fA.fTenant,rS hd.2.fA.fFunction,AJ 1 (A3 eS hd.2.fA.fOps),AJ 3 (A3 Ai hd.2.fA.fPolicy),AJ 5 (A3 Au hd.2.fA.fNet),A2 hd.2.fA.fNow,rv (.map (some hn)),CU 40 (rv (.pointer none)),A2 hd.2.fCalls,rv hJ,rv hK,rv hL] 81,.map hn (Bq A1 hd.2.fItems),.row hJ 60 4 (A3 Aw hd.2.fEffects),.row hK 9 1 (A3 eS hd.2.fReads),.row hL 9 1 (A3 eS hd.2.fLog),.blk b1 (Bi x) 39]) [57,58,59,60,61,62,63,1,5,7,8,9,10,11] ?_;refine ob b0 λhV b2 b3=>BX yk8 (IF F x.fA (Ao x.fL hu) hV b2) Aa (wa Aa (An (Al (AC [(1,rP b1 0),(5,rP ht 0),(7,A2 hU),(8,A2 hu),(9,AJ 4 (A3 Aw gY)),(10,AJ 1 (A3 eS gZ)),(11,rP g8 0),(85,rB (bif decide (32≤hu) then((!decide (hd.1.fErr=3))||((decide (hu<32))&&((!decide (hV=0))&&(!decide (hd.1.fErr=hV))))) else((decide (hu<32))&&((!decide (hV=0))&&(!decide (hd.1.fErr=hV))))))] [.blk g8 (BN hd.1) 52,.blk ht [rB hd.2.fMade,rS hd.2.fA.fTenant,rS hd.2.fA.fFunction,AJ 1 (A3 eS hd.2.fA.fOps),AJ 3 (A3 Ai hd.2.fA.fPolicy),AJ 5 (A3 Au hd.2.fA.fNet),A2 hd.2.fA.fNow,rv (.map (some hn)),CU 40 (rv (.pointer none)),A2 hd.2.fCalls,rv hJ,rv hK,rv hL] 81,.map hn (Bq A1 hd.2.fItems),.row hJ 60 4 (A3 Aw hd.2.fEffects),.row hK 9 1 (A3 eS hd.2.fReads),.row hL 9 1 (A3 eS hd.2.fLog),.blk b1 (Bi x) 39] ?_ ?_))))
     ·refine Aj (wm Aa (wv (EN Aa Aa) (wm Aa (AU (decide (32≤hu)) (λhz=>?_) (λhz=>?_)))))
      ·refine wo hz (vF HV Aa Mh (wo hz (vL 0 LL Aa (wo hz (wv (Ct Aa Aa) (Eb Aa hz Aa (wm Aa (AU (!decide (hd.1.fErr=3)) (λhk=>?_) (λhk=>?_)))))))))
       ·refine wf hk (wf hk (wf hk (wu (wu (wf hk (wf hk (wu (wu (wu (wu (wf hk (wv (r:=rB true) (AB Aa hk Aa) (Am ?_)))))))))))));exact Cd (And.intro hz hk)
       refine wo hk (wm Aa (wo hk (wv (C1 Aa Aa) (wo hk (wm Aa (AU (decide (hu<32)) (λhN=>?_) (λhN=>?_)))))))
       ·refine wo hN (wm Aa (wo hN (wv (Ct Aa Aa) (wo hk (Eb Aa hN Aa (wo hk (wm Aa (AU (!decide (hV=0)) (λh7=>?_) (λh7=>?_)))))))))
        ·refine wo h7 (vF HV Aa Mh (wo h7 (vL 0 LL Aa (wo h7 (wm Aa (wo h7 (wv (Ct Aa Aa) (wo hk (Eb Aa h7 Aa (II Aa hk Aa (Am ?_)))))))))));exact Cd (And.intro hz (And.intro hk (And.intro hN h7)))
        refine wf h7 (wf h7 (wf h7 (wf h7 (wo hk (wv (r:=rB false) (Av Aa h7 Aa) (II Aa hk Aa (Am ?_)))))));exact Cd (And.intro hz (And.intro hk (And.intro hN h7)))
       refine wf hN (wf hN (wo hk (wv (r:=rB false) (Av Aa hN Aa) (wo hk (wm Aa (wz Aa Aa (wz Aa Aa (wz Aa Aa (wz Aa Aa (wo hk (wv (r:=rB false) (Av (b:=false) Aa Aa Aa) (II Aa hk Aa (Am ?_)))))))))))));exact Cd (And.intro hz (And.intro hk hN))
      refine wf hz (wf hz (wf hz (wv (r:=rB false) (Av Aa hz Aa) (wm Aa (Bd (b:=false) Aa Aa Aa (wm Aa (Bd (b:=false) Aa Aa Aa (wv (C1 Aa Aa) (Bd (b:=false) Aa Aa Aa (wm Aa (AU (decide (hu<32)) (λhO=>?_) (λhO=>?_))))))))))))
      ·refine wo hO (wm Aa (wo hO (wv (Ct Aa Aa) (Bd (b:=false) Aa Aa Aa (Eb Aa hO Aa (Bd (b:=false) Aa Aa Aa (wm Aa (AU (!decide (hV=0)) (λh8=>?_) (λh8=>?_)))))))))
       ·refine wo h8 (vF HV Aa Mh (wo h8 (vL 0 LL Aa (wo h8 (wm Aa (wo h8 (wv (Ct Aa Aa) (Bd (b:=false) Aa Aa Aa (Eb Aa h8 Aa (wv (r:=rB (!decide (hd.1.fErr=hV))) (Av (b:=false) Aa Aa Aa) (Am ?_)))))))))));exact Cd (And.intro hz (And.intro hO h8))
       refine wf h8 (wf h8 (wf h8 (wf h8 (Bd (b:=false) Aa Aa Aa (wv (r:=rB false) (Av Aa h8 Aa) (wv (r:=rB false) (Av (b:=false) Aa Aa Aa) (Am ?_)))))));exact Cd (And.intro hz (And.intro hO h8))
      refine wf hO (wf hO (Bd (b:=false) Aa Aa Aa (wv (r:=rB false) (Av Aa hO Aa) (Bd (b:=false) Aa Aa Aa (wm Aa (wz Aa Aa (wz Aa Aa (wz Aa Aa (wz Aa Aa (Bd (b:=false) Aa Aa Aa (wv (r:=rB false) (Av (b:=false) Aa Aa Aa) (wv (r:=rB false) (Av (b:=false) Aa Aa Aa) (Am ?_)))))))))))));exact Cd (And.intro hz hO)
     refine cz b3 Aa (λb4 b5=>?_) (λb4 b6=>?_)
     ·refine Ae (wa Aa (An (Ap (Ac (A0 (Ac (Ac (Bu ?_))))))));have b9:=BF b5 g7 gK;refine A0 (Ac ?_);obtain rfl:=As b9;exact Ar (BE Wa (AO Aa)) (sS (sS (sS (sS (sS (sS (sS sN))))))) ⟨Aa,Aa⟩
     refine Ax (AS (Al (G4 (S:=(Bool)×(Unit)) (λσ=>DU hu F hU hd σ.1=some g6) (λσ=>[(1,rP b1 0),(5,rP ht 0),(7,A2 hU),(8,A2 hu),(11,rP g8 0),(108,rB σ.1)]) (λσ=>[.blk g8 (BN hd.1) 52,.blk ht [rB hd.2.fMade,rS hd.2.fA.fTenant,rS hd.2.fA.fFunction,AJ 1 (A3 eS hd.2.fA.fOps),AJ 3 (A3 Ai hd.2.fA.fPolicy),AJ 5 (A3 Au hd.2.fA.fNet),A2 hd.2.fA.fNow,rv (.map (some hn)),CU 40 (rv (.pointer none)),A2 hd.2.fCalls,rv hJ,rv hK,rv hL] 81,.map hn (Bq A1 hd.2.fItems),.row hJ 60 4 (A3 Aw hd.2.fEffects),.row hK 9 1 (A3 eS hd.2.fReads),.row hL 9 1 (A3 eS hd.2.fLog),.blk b1 (Bi x) 39]) ?_ ?_)))
     ·refine Aj (vF HV Aa Mh (vL 0 LL Aa (wv (Ct Aa Aa) (wm Aa (bz b6 (λhl bA=>?_) (λhl bB=>?_))))))
      ·refine wo hl (vF HV Aa C8 (wo hl (vL 0 DP Aa (wo hl (wv (Br (ys:=hd.1.fValue) (enc:=Af) CX Aa) (wo hl (wv (Ct Aa Aa) (wo hl (wm Aa (bz bA (λh9 bC=>?_) (λh9 bD=>?_)))))))))))
       ·exact wf h9 (wf h9 (wf h9 (wf h9 (wf h9 (wo hl (wv (r:=rB true) (AB Aa h9 Aa) (wo hl (wm Aa (wz Aa Aa (wz Aa Aa (wz Aa Aa (wz Aa Aa (wz Aa Aa (wo hl (wv (r:=rB true) (AB (b:=true) Aa Aa Aa) (Eb Aa hl Aa (Am (A4 (AK (true,()) bC (AM.c Aa (AM.c5 Aa Aa Aa Aa Aa AM.nil)) (sC (sC (sC (sC (sC (sC (sC sN))))))))))))))))))))))))))
       refine wo h9 (wm Aa (wo h9 (wm Aa (wo h9 (ob bD λcD bE bF=>EX [1,1,1,1,1] Vd (GB F ht hn hJ hK hL none (Az.mk hd.2.fMade hd.2.fA hd.2.fItems () hd.2.fCalls hd.2.fEffects hd.2.fReads hd.2.fLog) cD bE) ?_)))));rintro _ _ ⟨rfl,rfl⟩;refine wo h9 (ob bF λbG bH bI=>BX Tryz.call17 (Nr F gY cD bG bH) Aa (wo h9 (wv (Cc Aa) (wo hl (II Aa h9 Aa (wo hl (wm Aa (bz bI (λhA bJ=>?_) (λhA bK=>?_)))))))))
       ·refine wf hA (wf hA (wf hA (wf hA (wf hA (wo hl (wv (r:=rB true) (AB Aa hA Aa) (Eb Aa hl Aa (Am (Js [5] ?_)))))))));exact A4 (AK (true,()) bJ (AM.c Aa (AM.c5 Aa Aa Aa Aa Aa AM.nil)) (sC (sC (sC (sC (sC (sC (sC sN))))))))
       refine wo hA (wm Aa (wo hA (wm Aa (wo hA (ob bK λcE bL bM=>EX [0,0,0,0,0] Xv (JN ht hn hJ hK hL none (Az.mk hd.2.fMade hd.2.fA hd.2.fItems () hd.2.fCalls hd.2.fEffects hd.2.fReads hd.2.fLog) cE bL) ?_)))));rintro _ _ ⟨rfl,rfl⟩;refine wo hA (ob bM λcF bN bO=>BX Tryz.call18 (Q1 F gZ cE cF bN) Aa (wo hA (wv (Cc Aa) (wo hl (II Aa hA Aa (Eb Aa hl Aa (Am (Js [5] ?_))))))));exact A4 (AK (!cF,()) bO (AM.c Aa (AM.c5 Aa Aa Aa Aa Aa AM.nil)) (sC (sC (sC (sC (sC (sC (sC sN))))))))
      exact wf hl (wf hl (wf hl (wf hl (wf hl (wu (wu (wu (wu (wu (wf hl (wf hl (wu (wu (wu (wu (wu (wf hl (wv (r:=rB false) (Av Aa hl Aa) (Am (A4 (AK (false,()) bB (AM.c Aa (AM.c5 Aa Aa Aa Aa Aa AM.nil)) (sC (sC (sC (sC (sC (sC (sC sN))))))))))))))))))))))))))))
     rintro⟨bP,⟨⟩⟩ gP;refine GZ ?_;replace gP:DU hu F hU hd bP=some g6:=gP;unfold DU at gP;refine cz gP Aa (λbQ bR=>?_) (λbQ bS=>?_)
     ·refine Ae (wa Aa (An (Ap (Ac (A0 (Ac (Ac (Bu ?_))))))));have bT:=BF bR g7 gK;refine A0 (Ac ?_);obtain rfl:=As bT;exact Ar (BE Wa (AO Aa)) (sS (sS (sS (sS (sS (sS (sS sN))))))) ⟨Aa,Aa⟩
     refine Ax (AS (Ae (vF HV Aa Mh (vL 0 LL Aa (wv (BI Aa Aa) (An (cz bS Aa (λbU bV=>?_) (λbU bW=>?_))))))))
     ·refine Ae (wm Aa (ck bV λbX bY=>wv (BA Aa Aa bX) (wa Aa (Bv (vF HV Aa C8 (vL 0 DP Aa (ob bY λbZ ra rb=>BX Tryz.call19 (TF F hd.1.fValue bZ ra) Aa (wv (Ct Aa Aa) (An (cz rb Aa (λrc rd=>?_) (λrc rh=>?_)))))))))))
      ·refine Ae (wa Aa (An (Ap (A0 (Ac (Ac (Bu ?_)))))));have ri:=BF rd g7 gK;refine A0 (Ac ?_);obtain rfl:=As ri;exact Ar (BE Wa (AO Aa)) (sS (sS (sS (sS (sS (sS (sS sN))))))) ⟨Aa,Aa⟩
      refine Ax (AH (Js [1,1,4,1,1,1] ?_));exact A4 (AK ((hU+1,hd.2.fMade,hd.2.fA.fTenant,hd.2.fA.fFunction,hd.2.fA.fOps,hd.2.fA.fPolicy,hd.2.fA.fNet,hd.2.fA.fNow,hd.2.fCalls,hd.2.fEffects,hd.2.fReads,hd.2.fLog,hd.2.fItems),(hJ,hK,hL)) rh (AM.c Aa (AM.c Aa (AM.c Aa (AM.c Aa AM.nil)))) (sC (sC (sC (sC (sC (sC (sS sN))))))))
     refine Ax (AH (Js [1,1,4,1,1,1] ?_));exact A4 (AK ((hU,hd.2.fMade,hd.2.fA.fTenant,hd.2.fA.fFunction,hd.2.fA.fOps,hd.2.fA.fPolicy,hd.2.fA.fNet,hd.2.fA.fNow,hd.2.fCalls,hd.2.fEffects,hd.2.fReads,hd.2.fLog,hd.2.fItems),(hJ,hK,hL)) bW (AM.c Aa (AM.c Aa (AM.c Aa (AM.c Aa AM.nil)))) (sC (sC (sC (sC (sC (sC (sS sN))))))))
    rintro⟨⟨cG,cH,cI,cJ,cK,cL,cM,cN,cO,cP,cQ,cR,cS⟩,⟨rj,rk,rl⟩⟩ gQ;refine GZ ?_;replace gQ:Gq hu cG cH cI cJ cK cL cM cN cO cP cQ cR cS=some g6:=gQ;unfold Gq at gQ;refine Aj (wm Aa (ck gQ λrm rn=>wv (BA Aa Aa rm) (wa Aa (Am ?_))));have rp:=Bw rn g7;exact A4 (AK (bo,(cG,hu+1,cH,cI,cJ,cK,cL,cM,cN,cO,cP,cQ,cR,cS),(rj,rk,rl)) ⟨rp,Afh _⟩ (AM.c Aa (AM.c Aa (AM.c Aa (AM.c Aa AM.nil)))) (sC (sC (sC (sC (sC (sC sN)))))))
   refine B4 (Ay ?_);have rr:=BP br g7 gK;exact Ay (Bn (AK ((hU,gu,gv,gw,gx,gy,gz,g0,g1,g2,g3,g4,g5),(gL,gM,gN)) rr (AM.c Aa (AM.c Aa (AM.c Aa AM.nil))) (sC (sC (sC (sC (sC (sC sN))))))))
  rintro⟨⟨hW,cT,cU,cV,cW,cX,cY,cZ,xa,xb,xc,xd,xe⟩,⟨rs,rt,ru⟩⟩ gR;refine HE ?_;replace gR:H5 F x hW cT cU cV cW cX cY cZ xa xb xc xd xe=some r:=gR;unfold H5 at gR;refine Bm (AS (Ae (wm rfl (ob gR λhq rw rx=>EX [0,0,1,1,1] Vd (GB F ht hn rs rt ru none (Az.mk cT (AT.mk cU cV cW cX cY cZ) xe () xa xb xc xd) hq rw) ?_))));rintro _ _ ⟨rfl,rfl⟩;refine wa Aa (An (Al (Ae (wa Aa (An (AF (ob rx λry r0 xf=>B2 (S:=Nat×(Int)×(Unit)) (V:=(Unit)×(Unit)) 2 (λσ=>Cj (λσ=>H6 F x hq σ) σ.1 σ.2.1=some ry) (λσ=>[(1,rP b1 0),(7,A2 hW),(13,AJ 4 (A3 Aw hq)),(14,A2 σ.2.1)]) (λσ=>[.blk b1 (Bi x) 39]) (λσ=>σ.1) (F,0,()) r0 (AM.c Aa (AM.c Aa (AM.c Aa (AM.c Aa AM.nil)))) (sS (sS (sS (sS (sS (sC sN)))))) (λσ=>H4 F hW hq =some r) (λσ=>[(7,A2 hW),(13,AJ 4 (A3 Aw hq))]) (λσ=>[]) ?_ ?_)))))))
  ·rintro⟨tf,hP,⟨⟩⟩ r1;refine GZ ?_;obtain⟨r2,rfl,r3,gS,ca⟩:=Cu r1;replace gS:H6 F x hq hP=some r3:=gS;unfold H6 at gS;refine Al (Ae (wm Aa (wm Aa (wv (Br (ys:=hq) (enc:=Aw) DA Aa) (wv (C1 Aa Aa) (An (cz gS Aa (λr5 r6=>?_) (λr5 r7=>?_))))))))
   ·refine Ax (AS (Al (AF (Ae (wm Aa (wm Aa (ck r6 λxg r8=>wv (Bj (enc:=Aw) (ys:=hq) DA CE Aa Aa xg) (wv (AI CP Aa Ip Aa Aa) (wv (AV NG Aa Aa) (ob r8 λhx r9 rA=>BX Tryz.call20 (Lb ((Ao hq hP).fKind) hx r9) Aa (wa Aa (An (ck rA λxh rC=>ck rC λrD rE=>ck rE λrF rG=>AC [(1,rP b1 0),(7,A2 hW),(13,AJ 4 (A3 Aw hq)),(14,A2 hP),(156,rB ((!(ov (Gg F x.fA.fOps hx)))||(!((ov (D1 F x.fA.fPolicy hx (ov (Co x.fA.fTenant hx ((Ao hq hP).fKey))))).fAllowed))))] [.blk b1 (Bi x) 39] ?_ ?_)))))))))))))
    ·refine AU (!(ov (Gg F x.fA.fOps hx))) (λhf=>?_) (λhf=>?_)
     ·refine Dc [1,7,13,14,15] ?_;refine rq (Aq DG Aa DH Aa Aa) (rq (Aq DB Aa Dm Aa Aa) (rq (Bc (i:=0) G3 Aa Aa Aa) (rq (Ak Aa) (Jf (CD Tryz.call21 (Pv F x.fA.fOps hx (ov (Gg F x.fA.fOps hx)) (CY xh)) Aa) (rq (Cc Aa) (rq (Ak Aa) (rz hf (rz hf (rz hf (rz hf (rz hf (rz hf (rz hf (rz hf (rz hf (rz hf (rz hf (rz hf (rz hf (rz hf (rz hf (rz hf (rz hf ?_)))))))))))))))))))))));refine rq (r:=rB true) (AB (b:=!(ov (Gg F x.fA.fOps hx))) Aa hf Aa) (re [156,1,7,13,14] ?_);exact Cd hf
     refine Dc [1,7,13,14,15] ?_;refine rq (Aq DG Aa DH Aa Aa) (rq (Aq DB Aa Dm Aa Aa) (rq (Bc (i:=0) G3 Aa Aa Aa) (rq (Ak Aa) (Jf (CD Tryz.call21 (Pv F x.fA.fOps hx (ov (Gg F x.fA.fOps hx)) (CY xh)) Aa) (rq (Cc Aa) (rq (Ak Aa) (rg hf (Aq DG Aa DH Aa Aa) (rg hf (Aq DB Aa KI Aa Aa) (rg hf (Bc (i:=0) MG Aa Aa Aa) (rg hf (Ak Aa) (rg hf (Aq DG Aa DH Aa Aa) (rg hf (Aq DB Aa CC Aa Aa) (rg hf (Bc (i:=0) Dp Aa Aa Aa) (rg hf (Ak Aa) (rg hf (Ak Aa) (rg hf (Ak Aa) (rg hf (Bj (enc:=Aw) (ys:=hq) DA CE Aa Aa xg) (rg hf (AI CP Aa CC Aa Aa) (rg hf (AV Dp Aa Aa) (ro hf (CD Tryz.call10 (IZ x.fA.fTenant hx ((Ao hq hP).fKey) (ov (Co x.fA.fTenant hx ((Ao hq hP).fKey))) (CY (Dd rD hf))) Aa) (ro hf (CD Tryz.call22 (Mv F x.fA.fPolicy hx (ov (Co x.fA.fTenant hx ((Ao hq hP).fKey))) (ov (D1 F x.fA.fPolicy hx (ov (Co x.fA.fTenant hx ((Ao hq hP).fKey))))) (CY (Dd rF hf))) Aa) (rg hf (r:=rB ((ov (D1 F x.fA.fPolicy hx (ov (Co x.fA.fTenant hx ((Ao hq hP).fKey))))).fAllowed)) (L7 YC Aa Pe Aa Aa) (rg hf (Cc Aa) ?_)))))))))))))))))))))));refine rq (Av Aa hf Aa) (re [156,1,7,13,14] ?_);exact Cd hf
    refine cz rG Aa (λrH rI=>?_) (λrH rJ=>?_)
    ·refine Ae (wa Aa (An (Ap (A0 (Ac (Ac (Bu ?_)))))));have rK:=BF rI ca xf;refine A0 (Ac ?_);obtain rfl:=As rK;exact Ar (BE Wa (AO Aa)) (sS sN) ⟨Aa,Aa⟩
    refine Ax (AH (AS (Aj (wm Aa (ck rJ λrL rM=>wv (BA Aa Aa rL) (wa Aa (Am ?_)))))));have rN:=Bw rM ca;exact A4 (AK (r2,hP+1,()) ⟨rN,Afh _⟩ (AM.c Aa (AM.c Aa (AM.c Aa (AM.c Aa AM.nil)))) (sC sN))
   refine B4 (Ay ?_);have rO:=BP r7 ca xf;exact Ay (Bn (AK ((),()) rO (AM.c Aa (AM.c Aa AM.nil)) (sS sN)))
  rintro⟨⟨⟩,⟨⟩⟩ gT;refine HE ?_;replace gT:H4 F hW hq =some r:=gT;unfold H4 at gT;refine Bm (AS (ck gT λrQ rR=>AC [(2,rB ((decide ((hq.length:Int)≤hW))&&(ov (D5 F))))] [] ?_ ?_))
  ·refine Aj (wm Aa (wv (Br (ys:=hq) (enc:=Aw) DA Aa) (wm Aa (wv (J9 Aa Aa) (wm Aa (AU (decide ((hq.length:Int)≤hW)) (λhX=>?_) (λhX=>?_)))))))
   ·refine wo hX (BX Xx (Hh F (ov (D5 F)) (CY (BY rQ hX))) Aa (Eb Aa hX Aa (wa Aa (Am ?_))));exact Cd hX
   refine wf hX (wv (r:=rB false) (Av Aa hX Aa) (wa Aa (Am ?_)));exact Cd hX
  refine Ap ?_;obtain rfl:=As rR;exact Ar (BE Wa (AO Aa)) sN ⟨Aa,Aa⟩
 refine ob bb λgU rT rU=>BX Xw (SI F none x.fA x.fItems gU rT) Aa (wm Aa (wv (A6 Aa Aa) (wv (A6 Aa Aa) (wa Aa (wa Aa (An (Al (AC [(1,rP b1 0),(5,rv (.pointer none)),(37,rB ((!decide (gU.2=0))||(decide (50<(x.fL.length:Int)))))] [.blk b1 (Bi x) 39] ?_ ?_))))))))
 ·refine Aj (wm Aa (wv (Ct Aa Aa) (wm Aa (AU (!decide (gU.2=0)) (λhB=>?_) (λhB=>?_)))))
  ·refine wf hB (wf hB (wf hB (wf hB (wv (r:=rB true) (AB Aa hB Aa) (Am ?_)))));exact Cd hB
  refine wo hB (vF DG Aa QR (wo hB (vL 0 QT Aa (wo hB (wv (Br (ys:=x.fL) (enc:=AN) QQ Aa) (wo hB (wv (Ee Aa Aa) (II Aa hB Aa (Am ?_)))))))));exact Cd hB
 refine ck rU λrV rW=>CG (b:=((!decide (gU.2=0))||(decide (50<(x.fL.length:Int))))) Aa rV (Ae (ob rW λrX rY rZ=>BX Xx (Hh F rX rY) Aa (wa Aa (An (Ap (Ac ?_))))));obtain rfl:=As rZ;exact Ar (BE Wa (AO Aa)) (sS sN) ⟨Aa,Aa⟩
end Go.Proofs.YtmjlemhondjfhaaGreatDoor.Q
namespace Go.Proofs.YtmjlemhondjfhaaGreatDoor.lawHostConfines
open Go
set_option linter.unusedVariables false
def W6 (y:Ad):Bool:=(λ_=>true) y.fAllow&&(λys:(List Ah)=>ys.all Hg&&decide (ys.length≤1048576)) y.fActions&&(λys:(List Ah)=>ys.all Hg&&decide (ys.length≤1048576)) y.fResources
def W4 (y:AD):Bool:=(λ_=>true) y.fAllow&&(BM .i64) y.fAddr&&(BM .i64) y.fBits&&(BM .i64) y.fLow&&(BM .i64) y.fHigh
def AcL (y:AT):Bool:=Hg y.fTenant&&Hg y.fFunction&&(λys:(List Ah)=>ys.all Hg&&decide (ys.length≤1048576)) y.fOps&&(λys:(List Ad)=>ys.all W6&&decide (ys.length≤1048576)) y.fPolicy&&(λys:(List AD)=>ys.all W4&&decide (ys.length≤1048576)) y.fNet&&(BM .i64) y.fNow
def XW (y:Ab):Bool:=(BM .i64) y.fKind&&(BM .i64) y.fInt&&Hg y.fStr&&(BM .i64) y.fN
def Abn (y:B3):Bool:=Hg y.fKey&&(λys:(List Ab)=>ys.all XW&&decide (ys.length≤1048576)) y.fValue&&(BM .i64) y.fVersion
def W5 (y:Cl):Bool:=Hg y.fName&&Hg y.fText&&Hg y.fFunction
def Abo (y:AR):Bool:=Hg y.fOp&&(λys:(List (List Ab))=>ys.all (λys:(List Ab)=>ys.all XW&&decide (ys.length≤1048576))&&decide (ys.length≤1048576)) y.fArgs
def AcK (y:B1):Bool:=AcL y.fA&&(λys:(List B3)=>ys.all Abn&&decide (ys.length≤1048576)) y.fItems&&(λys:(List Cl)=>ys.all W5&&decide (ys.length≤1048576)) y.fSecrets&&(λ_=>true) y.fNone&&(λys:(List AR)=>ys.all Abo&&decide (ys.length≤1048576)) y.fL
def Law:Prop:=∀(y0:B1) (o0:AcK y0=true),∃F,I8 F y0=some true
end Go.Proofs.YtmjlemhondjfhaaGreatDoor.lawHostConfines
namespace Go.Proofs.YtmjlemhondjfhaaGreatDoor
open Go
set_option linter.unusedVariables false
set_option linter.unusedSimpArgs false
def okc (c:UInt8):Bool:=decide (32≤c.toNat)&&decide (c.toNat≤126)
theorem Pw {s:Ah}{x:Int}{c:UInt8}(h:s[x.toNat]? =some c):Cs s x=(c.toNat:Int):=by simp[Cs,h]
theorem QV {α:Type}{p:α→Bool}{s:List α}{k:Nat}{c:α}(h:s[k]? =some c):(s.take (k+1)).all p=((s.take k).all p&&p c):=by
 rw[List.take_add_one,h];simp
theorem SQ {α:Type}{p:α→Bool}{s:List α}{k:Nat}{c:α}(h:s[k]? =some c)(hp:p c=false):s.all p=false:=by
 rw[List.all_eq_false];exact⟨c,Afp h,by simp[hp]⟩
theorem Ts {F:Nat}{s:Ah}(hF:s.length<F)(hs:s.length≤9223372036854775807):MM F s=some (s.all okc):=by
 obtain⟨o,h1,h2⟩:=G0 (body:=λσ=>Jv s σ) (λx=>0≤x∧x≤(s.length:Int)∧(s.take x.toNat).all okc=true) (λx=>s.length-x.toNat)
  (λo=>Cf (λ_=>Ju) o=some (s.all okc)) (λx ⟨h0,hl,ha⟩=>by
   unfold Jv
   by_cases hx:x<(s.length:Int)
   ·obtain⟨c,hc⟩:∃c,s[x.toNat]? =some c:=⟨s[x.toNat]'(by omega),Aff (by omega)⟩
    rw[Bo (by simpa using hx),Bh h0 hx,Pw hc]
    cases ho:okc c with
    | false=>
     refine .inr ⟨.ret false,?_,?_⟩
     ·rw[Bo];simp only[okc,AfW,AeY] at ho;simp only[Af7,AeX];omega
     ·simp[Cf,SQ hc ho]
    | true=>
     refine .inl ⟨x+1,?_,⟨by omega,by omega,?_⟩,by omega⟩
     ·rw[Bg,AX (by omega) (by omega)];simp only[okc,Afb,AeX] at ho;simp only[AfF,AeY];omega
     ·rw[show(x+1).toNat=x.toNat+1 from by omega,QV hc,ha,ho];rfl
   ·refine .inr ⟨.go (),by rw[Bg (by simpa using hx)],?_⟩;rw[show x.toNat=s.length from by omega,AfR] at ha;simp[Cf,Ju,ha]) F 0 ⟨by omega,by omega,by simp⟩ (by simpa using hF)
 unfold MM;rw[BQ h1,h2]
theorem Sn (F:Nat)(s:Ah):KO F s=MM F s:=rfl
theorem XK {F:Nat}{s:Ah}(hF:s.length<F)(hs:s.length≤9223372036854775807):KO F s=some (s.all okc):=by rw[Sn];exact Ts hF hs
def pl (c:Ab):Bool:=
 bif decide (c.fKind=1) then(decide (c.fInt=0)&&(decide (c.fStr=[])&&decide (c.fN=0))) else
 bif decide (c.fKind=2) then((decide (c.fInt=0)||decide (c.fInt=1))&&(decide (c.fStr=[])&&decide (c.fN=0))) else
 bif decide (c.fKind=3) then(decide (c.fStr=[])&&decide (c.fN=0)) else
 bif decide (c.fKind=4) then(decide (c.fInt=0)&&(decide (c.fN=0)&&c.fStr.all okc)) else
 bif decide (c.fKind=5) then(decide (c.fInt=0)&&(decide (c.fStr=[])&&decide (0≤c.fN))) else
 bif decide (c.fKind=6) then(decide (c.fInt=0)&&(decide (c.fStr=[])&&decide (0≤c.fN))) else false
theorem Gu {α:Type}{p:Bool}{x y:Option α}{a b:α}(h:x=some a)(h':y=some b):B0 p x y=some (bif p then a else b):=by cases p<;>simp[B0,h,h']
theorem X4 {F:Nat}{c:Ab}(hF:c.fStr.length<F)(hs:c.fStr.length≤9223372036854775807):PF F c=some (pl c):=by
 unfold PF pl;rw[Ts hF hs];refine Gu rfl (Gu ?_ (Gu rfl (Gu ?_ (Gu rfl (Gu rfl rfl)))))
 ·cases h:decide (c.fInt=0)<;>simp
 ·simp[imp,Bl,ov]
def OO:List AP→List AP
 | []=>[]
 | e::S=>bif decide (1<e.fLeft) then⟨e.fPairs,e.fLeft-1,e.fPairs,e.fLast,e.fStarted⟩::S else OO S
theorem Px {α:Type}[Inhabited α](xs:List α)(e:α):Ao (xs++[e]) (xs.length:Int)=e:=by simp[Ao]
theorem MW {α:Type}(xs:List α)(e e':α):List.set (xs++[e]) (Int.toNat (xs.length:Int)) e'=xs++[e']:=by simp
theorem Nq {α:Type}(xs:List α)(e:α):((xs++[e]).length:Int)-1=(xs.length:Int):=by simp
theorem XA {α:Type}(xs:List α)(e:α):List.take (Int.toNat (xs.length:Int)) (xs++[e])=xs:=by simp
theorem O9:∀(S:List AP) (F:Nat),S.length<F→(∀e∈S,1≤e.fLeft∧e.fLeft≤9223372036854775807)→S.length≤4611686018427387904→
  ∃o,Cj (λσ=>EE σ) F S.reverse=some o∧Cf (λν=>G5 ν) o=some (OO S).reverse
 | [],F+1,_,_,_=>⟨.go [],by simp[Cj,EE,B0],by simp[Cf,G5,OO]⟩
 | e::S,F+1,hF,hb,hl=>by
  obtain⟨h1,h2⟩:=hb e (by simp);simp only[Afk] at hF hl;have hx:S.reverse.length=S.length:=by simp
  generalize hxs:S.reverse=xs at hx;have hr:(e::S).reverse=xs++[e]:=by simp[hxs]
  rw[hr];have hb1:EE (xs++[e])=bif decide (1<e.fLeft) then some (.out (.ret (xs++[⟨e.fPairs,e.fLeft-1,e.fPairs,e.fLast,e.fStarted⟩]))) else some (.next xs):=by
   unfold EE;rw[Bo (by simp)];simp only[Nq,Px,MW,KF];rw[AX (by omega) (by omega),Bh (by omega) (by simp;omega),AX (by omega) (by omega)]
   cases hd:decide (1<e.fLeft) with
   | true=>
    rw[Bo (by simp at hd ⊢;omega)];rfl
   | false=>
    rw[Bg (by simp at hd ⊢;omega),AX (by omega) (by omega),Df (by omega) (by simp;omega),XA];rfl
  rw[Cj,hb1]
  cases hd:decide (1<e.fLeft) with
  | true=>exact⟨_,rfl,by simp[Cf,G5,OO,hd,hxs]⟩
  | false=>
   obtain⟨o,ho1,ho2⟩:=O9 S F (by omega) (λe he=>hb e (by simp[he])) (by omega);rw[hxs] at ho1;exact⟨o,ho1,by rw[ho2];simp[OO,hd]⟩
theorem PI {S:List AP}{F:Nat}(hF:S.length<F)(hb:∀e∈S,1≤e.fLeft∧e.fLeft≤9223372036854775807)(hl:S.length≤4611686018427387904):MP F S.reverse=some (OO S).reverse:=by
 obtain⟨o,h1,h2⟩:=O9 S F hF hb hl;unfold MP;rw[BQ h1,h2]
def NS (s:Ah):Int:=s.length+2+s.count 34+s.count 92
theorem PD {s:Ah}(hs:s.length≤1152921504606846976):Lz s=some (NS s):=by
 have h1:s.count 34≤s.length:=List.count_le_length;have h2:s.count 92≤s.length:=List.count_le_length;unfold Lz Lib.countByte;rw[AX (by omega) (by omega),AX (by omega) (by omega),AX (by omega) (by omega)];rfl
def szc (c:Ab):Int:=
 bif decide (c.fKind=1) then 4 else bif decide (c.fKind=2) then IntKind.wrap .i64 (5-c.fInt) else bif decide (c.fKind=3) then((Lib.itoa c.fInt).length:Int) else
 bif decide (c.fKind=4) then NS c.fStr else IntKind.wrap .i64 (2+max 0 (IntKind.wrap .i64 (c.fN-1)))
theorem Tt {c:Ab}(hs:c.fStr.length≤1152921504606846976)(hi:BM .i64 c.fInt=true):Tu c=some (szc c):=by
 unfold Tu szc;rw[PD hs];refine Gu rfl (Gu rfl (Gu ?_ (Gu rfl rfl)));rw[Cr hi]
def KA (d:Nat)(sh:Bf)(c:Ab):Bf:=
 ⟨max sh.fDepth ((d:Int)+1),IntKind.wrap .i64 (sh.fBytes+szc c),sh.fOutside||(decide (c.fKind=3)&&!(decide ((-1000000000000)≤c.fInt)&&decide (c.fInt≤1000000000000))),sh.fLong||decide (200<(c.fStr.length:Int))⟩
def shk (sh:Bf)(c:Ab):Bf:=⟨sh.fDepth,IntKind.wrap .i64 (sh.fBytes+(NS c.fStr+1)),sh.fOutside,sh.fLong||decide (200<(c.fStr.length:Int))⟩
def Of:List AP→Bool
 | []=>false
 | e::_=>e.fKey
abbrev SZ:=List AP×Int×Bf
abbrev LkO:=Out (Int×Bf×Bool) Bf
def UX (n:Int)(S:List AP)(i:Int)(sh:Bf)(c:Ab):Stp SZ LkO:=
 bif !pl c then .out (.ret (0,sh,false)) else
 match S with
 | e::S'=>
  bif e.fKey then
   bif !decide (c.fKind=4)||(e.fStarted&&(Do c.fStr e.fLast||decide (c.fStr=e.fLast))) then .out (.ret (0,sh,false))
   else .next ((⟨e.fPairs,e.fLeft,false,c.fStr,true⟩::S').reverse,i+1,shk sh c)
  else bif decide (0<c.fN) then
   bif decide (n<c.fN) then .out (.ret (0,KA S.length sh c,false))
   else .next ((⟨decide (c.fKind=6),c.fN,decide (c.fKind=6),[],false⟩::S).reverse,i+1,KA S.length sh c)
  else bif decide (OO S=[]) then .out (.ret (i+1,KA S.length sh c,true)) else .next ((OO S).reverse,i+1,KA S.length sh c)
 | []=>
  bif decide (0<c.fN) then
   bif decide (n<c.fN) then .out (.ret (0,KA 0 sh c,false))
   else .next ([⟨decide (c.fKind=6),c.fN,decide (c.fKind=6),[],false⟩],i+1,KA 0 sh c)
  else .out (.ret (i+1,KA 0 sh c,true))
theorem QB {S:List AP}:decide (((OO S).reverse.length:Int)=0)=decide (OO S=[]):=by
 rw[AfB];simp
theorem AdZ {α:Type}{xs:List α}{e x:α}{M:Nat}(h:xs.length+1≤M)(hM2:(M+2)*48≤140737488355328):DE 48 ((xs++[e]).length+([x]:List α).length)=true:=by
 refine Afa (Nat.le_trans (Nat.mul_le_mul_right 48 ?_) hM2);rw[Afg,Af2,Af2];omega
set_option maxHeartbeats 600000 in
theorem Tw {F:Nat}{v:List Ab}{S:List AP}{i:Int}{sh:Bf}{c:Ab}(h0:0≤i)(hc:v[i.toNat]? =some c){M:Nat}(hM:M≤1152921504606846976)(hM2:(M+2)*48≤140737488355328)(hv:v.length≤M)(hS:S.length≤M)(hF:M<F)
  (hs:c.fStr.length≤M) (hi:BM .i64 c.fInt=true) (hb:∀e∈S,1≤e.fLeft∧e.fLeft≤9223372036854775807):ED F v S.reverse i sh=some (UX v.length S i sh c):=by
 have hil:i.toNat<v.length:=(List.getElem?_eq_some_iff.1 hc).1;have hat:Ao v i=c:=by simp[Ao,hc]
 unfold ED UX;rw[Bo (by simp;omega),Bh h0 (by omega),hat,X4 (by omega) (by omega),BQ rfl]
 cases hp:pl c with
 | false=>rw[Bo (by simp)];rfl
 | true=>
  rw[Bg (by simp)]
  cases S with
  | nil=>
   rw[Cr (by simp[imp]),Cr (by simp[imp]),Bg (by simp),AX (by simp) (by simp),Tt (by omega) hi,BQ rfl,Cr (by simp[imp,C2])];simp only[C2,ov,Af5,Afe,Afc]
   cases hn:decide (0<c.fN) with
   | true=>
    rw[Bo rfl]
    cases hm:decide ((v.length:Int)<c.fN) with
    | true=>rw[Bo rfl];simp[KA]
    | false=>rw[Bg rfl,Cr (by simp[DE])];unfold Gm;rw[AX (by omega) (by omega)];simp[KA]
   | false=>
    rw[Bg rfl,BQ (PI (S:=[]) (by simp;omega) (by simp) (by simp)),Bo (by simp[OO]),AX (by omega) (by omega)];simp[KA]
  | cons e S'=>
   have hx:S'.reverse.length=S'.length:=by simp
   generalize hxs:S'.reverse=xs at hx;have hr:(e::S').reverse=xs++[e]:=by simp[hxs]
   simp only[Afk] at hS;have hlen:((xs++[e]).length:Int)=(xs.length:Int)+1:=by simp
   rw[hr,Cr (by simp only[imp,Nq];rw[JI (by omega) (by omega)];simp),Cr (by simp only[imp,Nq];rw[Qx (by omega) (by omega)];simp)];rw[Nq,Px]
   cases hk:e.fKey with
   | true=>
    rw[Bo (by simp),AX (by omega) (by omega),Bh (by omega) (by omega)];simp only[hk,Afe,Afc,Afi]
    cases ht : !decide (c.fKind=4)||(e.fStarted&&(Do c.fStr e.fLast||decide (c.fStr=e.fLast))) with
    | true=>rw[Bo rfl];rfl
    | false=>
     rw[Bg rfl,MW,KF,Px,MW,KF,Px,MW,KF,PD (by omega),BQ rfl,AX (by unfold NS;omega) (by unfold NS;have:=@List.count_le_length UInt8 _ 34 c.fStr;have:=@List.count_le_length UInt8 _ 92 c.fStr;omega)];unfold Gm;rw[AX (by omega) (by omega)];simp[shk,hxs]
   | false=>
    rw[Bg (by simp),hlen,AX (by omega) (by omega),Tt (by omega) hi,BQ rfl,Cr (by simp[imp,C2])];simp only[hk,C2,ov,Af5,Afe,Afc,Afi]
    cases hn:decide (0<c.fN) with
    | true=>
     rw[Bo rfl]
     cases hm:decide ((v.length:Int)<c.fN) with
     | true=>rw[Bo rfl];simp[KA,hx]
     | false=>rw[Bg rfl,Cr (AdZ (by omega) hM2)];unfold Gm;rw[AX (by omega) (by omega)];simp[KA,hx,hxs]
    | false=>
     have hcl:=PI (S:=e::S') (F:=F) (by simp;omega) hb (by simp;omega);rw[hr] at hcl;rw[Bg rfl,hcl,BQ rfl,QB]
     cases hq:decide (OO (e::S')=[]) with
     | true=>rw[Bo rfl,AX (by omega) (by omega)];simp[KA,hx]
     | false=>rw[Bg rfl];unfold Gm;rw[AX (by omega) (by omega)];simp[KA,hx]
section
variable {S O : Type} {body : S → Option (Stp S O)} {s t u : S} {o : O}
def Gw (body:S→Option (Stp S O))(s t:S):Prop:=∃k,∀n,Cj body (n+k) s=Cj body n t
def Fin (body:S→Option (Stp S O))(s:S)(o:O):Prop:=∃k,∀n,Cj body (n+k) s=some o
theorem Gw.refl (s:S):Gw body s s:=⟨0,λ_=>rfl⟩
theorem Gw.trans (h:Gw body s t)(h':Gw body t u):Gw body s u:=by
 obtain⟨k,hk⟩:=h;obtain⟨j,hj⟩:=h';exact⟨j+k,λn=>by rw[← Nat.add_assoc,hk,hj]⟩
theorem Gw.step (h:body s=some (.next t)):Gw body s t:=⟨1,λn=>by rw[Cj,h]⟩
theorem Fin.step (h:body s=some (.out o)):Fin body s o:=⟨1,λn=>by rw[Cj,h]⟩
theorem Gw.fin (h:Gw body s t)(h':Fin body t o):Fin body s o:=by
 obtain⟨k,hk⟩:=h;obtain⟨j,hj⟩:=h';exact⟨j+k,λn=>by rw[← Nat.add_assoc,hk,hj]⟩
end
inductive Fo where
 | nil
 | cell (k:Option Ah) (c:Ab) (r:Fo)
 | node (k:Option Ah) (c:Ab) (kids r:Fo)
def BS:Option Ah→List Ab
 | none=>[]
 | some s=>[⟨4,0,s,0⟩]
def Fo.flat:Fo→List Ab
 | .nil=>[]
 | .cell k c r=>BS k++c::r.flat
 | .node k c kids r=>BS k++c::(kids.flat++r.flat)
def Fo.cnt:Fo→Nat
 | .nil=>0
 | .cell _ _ r=>r.cnt+1
 | .node _ _ _ r=>r.cnt+1
def CL (m:Bool)(last:Option Ah):Option Ah→Bool
 | none=>!m
 | some s=>m&&s.all okc&&(match last with
  | none=>true
  | some p=>!(Do s p||decide (s=p)))
def Fo.wf:Bool→Option Ah→Fo→Bool
 | _,_,.nil=>true
 | m,last,.cell k c r=>CL m last k&&pl c&&!decide (0<c.fN)&&r.wf m k
 | m,last,.node k c kids r=>CL m last k&&pl c&&decide (0<c.fN)&&decide (c.fN=kids.cnt)&&kids.wf (decide (c.fKind=6)) none&&r.wf m k
def OB (k:Option Ah)(sh:Bf):Bf:=match k with
 | none=>sh
 | some s=>shk sh ⟨4,0,s,0⟩
def Fo.sh (d:Nat):Bf→Fo→Bf
 | s,.nil=>s
 | s,.cell k c r=>r.sh d (KA d (OB k s) c)
 | s,.node k c kids r=>r.sh d (kids.sh (d+1) (KA d (OB k s) c))
def Jm (body:SZ→Option (Stp SZ LkO))(s:SZ)(S:List AP)(i:Int)(sh:Bf):Prop:=
 if OO S=[] then Fin body s (.ret (i,sh,true)) else Gw body s ((OO S).reverse,i,sh)
theorem Jm.of {body:SZ→Option (Stp SZ LkO)}{s t:SZ}{S:List AP}{i:Int}{sh:Bf}(h:Gw body s t)(h':Jm body t S i sh):Jm body s S i sh:=by
 unfold Jm at *
 split
 ·rename_i e;rw[AfP e] at h';exact h.fin h'
 ·rename_i e;rw[AfI e] at h';exact h.trans h'
theorem Jm.pop {body:SZ→Option (Stp SZ LkO)}{s:SZ}{e:AP}{S:List AP}{i:Int}{sh:Bf}(h:Jm body s (e::S) i sh)(h1:e.fLeft=1):Jm body s S i sh:=by
 have:OO (e::S)=OO S:=by simp[OO,h1]
 unfold Jm at *;rw[this] at h;exact h
theorem Jm.more {body:SZ→Option (Stp SZ LkO)}{s:SZ}{e:AP}{S:List AP}{i:Int}{sh:Bf}(h:Jm body s (e::S) i sh)(h1:1<e.fLeft):Gw body s ((⟨e.fPairs,e.fLeft-1,e.fPairs,e.fLast,e.fStarted⟩::S).reverse,i,sh):=by
 have:OO (e::S)=⟨e.fPairs,e.fLeft-1,e.fPairs,e.fLast,e.fStarted⟩::S:=by simp[OO,h1]
 unfold Jm at *;rw[this,AfI (by simp)] at h;exact h
structure Xk (F M:Nat) (v:List Ab):Prop where
 hM:M≤1152921504606846976
 hM2:(M+2)*48≤140737488355328
 hv:v.length≤M
 hF:M<F
 hc:∀c∈v,c.fStr.length≤M∧BM .i64 c.fInt=true∧c.fN≤9223372036854775807
abbrev Ul (F:Nat)(v:List Ab):SZ→Option (Stp SZ LkO):=λσ=>ED F v σ.1 σ.2.1 σ.2.2
def EP (S:List AP):Prop:=∀e∈S,1≤e.fLeft∧e.fLeft≤9223372036854775807
section
variable {F M : Nat} {v : List Ab} {S : List AP} {i : Int} {sh : Bf} {c : Ab} {r : List Ab} {e : AP}
theorem CB (h0:0≤i)(h:v.drop i.toNat=c::r):v[i.toNat]? =some c∧v.drop (i+1).toNat=r∧i<v.length:=by
 have h1:(v.drop i.toNat)[0]? =some c:=by rw[h];rfl
 have h2:v[i.toNat]? =some c:=by simpa using h1
 have h3:=(List.getElem?_eq_some_iff.1 h2).1;refine⟨h2,?_,by omega⟩;rw[show(i+1).toNat=i.toNat+1 from by omega,← List.drop_drop,h];rfl
theorem round (hA:Xk F M v)(h0:0≤i)(h:v.drop i.toNat=c::r)(hS:(S.length:Int)≤i)(hb:EP S):Ul F v (S.reverse,i,sh)=some (UX v.length S i sh c):=by
 obtain⟨h1,_,h3⟩:=CB h0 h;obtain⟨a,b,_⟩:=hA.hc c (Afp h1);have:=hA.hv;exact Tw h0 h1 hA.hM hA.hM2 hA.hv (by omega) hA.hF a b hb
def HT (e:AP):Option Ah→AP
 | none=>e
 | some s=>⟨e.fPairs,e.fLeft,false,s,true⟩
def KY (e:AP):Option Ah→Prop
 | none=>e.fStarted=false
 | some p=>e.fStarted=true∧e.fLast=p
theorem Qv (hA:Xk F M v)(h0:0≤i){k last:Option Ah}(h:v.drop i.toNat=BS k++r)(hS:(S.length:Int)+1≤i)(hb:EP (e::S))(hk:CL e.fKey last k=true)(hl:KY e last) :
  Gw (Ul F v) ((e::S).reverse,i,sh) ((HT e k::S).reverse,i+(BS k).length,OB k sh):=by
 cases k with
 | none=>simpa[HT,BS,OB] using Gw.refl _
 | some s=>
  simp only[CL,Afb] at hk;obtain⟨⟨hm,hok⟩,hcmp⟩:=hk;refine Gw.step ?_;rw[round hA h0 (by simpa[BS] using h) (by simpa using hS) hb];have hp:pl ⟨4,0,s,0⟩=true:=by simp[pl,hok]
  have ht:(e.fStarted&&(Do s e.fLast||decide (s=e.fLast)))=false:=by
   cases last with
   | none=>simp only[KY] at hl;rw[hl];rfl
   | some p=>obtain⟨h1,h2⟩:=hl;rw[h1,h2];simpa using hcmp
  simp only[UX,hp,hm,ht,Afe,Afc,Afi,decide_true,Afu,Bool.or_self];rfl
theorem Oe {k last:Option Ah}(hk:CL e.fKey last k=true):(HT e k).fKey=false:=by
 cases k with
 | none=>simpa[HT,CL] using hk
 | some s=>rfl
theorem M1 (k:Option Ah):(HT e k).fLeft=e.fLeft∧(HT e k).fPairs=e.fPairs:=by cases k<;>exact⟨rfl,rfl⟩
theorem Od (hA:Xk F M v)(h0:0≤i)(h:v.drop i.toNat=c::r)(hS:(S.length:Int)≤i)(hb:EP S)(hk:Of S=false)(hp:pl c=true)(hn:decide (0<c.fN)=false) :
  Jm (Ul F v) (S.reverse,i,sh) S (i+1) (KA S.length sh c):=by
 have hr:=round (sh:=sh) hA h0 h hS hb;unfold Jm
 cases S with
 | nil=>
  rw[AfP (by simp[OO])];refine Fin.step ?_;rw[hr];simp[UX,hp,hn]
 | cons e S=>
  simp only[Of] at hk
  split
  ·rename_i hc
   refine Fin.step ?_;rw[hr];simp[UX,hp,hn,hk,hc]
  ·rename_i hc
   refine Gw.step ?_;rw[hr];simp[UX,hp,hn,hk,hc]
theorem L8 (hA:Xk F M v)(h0:0≤i)(h:v.drop i.toNat=c::r)(hS:(S.length:Int)≤i)(hb:EP S)(hk:Of S=false)(hp:pl c=true)(hn:decide (0<c.fN)=true)(hv:c.fN≤v.length) :
  Gw (Ul F v) (S.reverse,i,sh) ((⟨decide (c.fKind=6),c.fN,decide (c.fKind=6),[],false⟩::S).reverse,i+1,KA S.length sh c):=by
 have hr:=round (sh:=sh) hA h0 h hS hb;have hv':decide ((v.length:Int)<c.fN)=false:=by simpa using hv
 refine Gw.step ?_;rw[hr]
 cases S with
 | nil=>simp only[UX,hp,hn,hv',Afe,Afc,Afi];rfl
 | cons e S=>
  simp only[Of] at hk;simp only[UX,hp,hn,hv',hk,Afe,Afc,Afi]
theorem CJ:∀f:Fo,f.cnt≤f.flat.length
 | .nil=>Afy _
 | .cell k c r=>by have:=CJ r;simp[Fo.cnt,Fo.flat];omega
 | .node k c kids r=>by have:=CJ r;simp[Fo.cnt,Fo.flat];omega
theorem CW {α:Type}{v xs r:List α}{i:Int}(h0:0≤i)(h:v.drop i.toNat=xs++r):v.drop (i+xs.length).toNat=r:=by
 rw[show(i+(xs.length:Int)).toNat=i.toNat+xs.length from by omega,← List.drop_drop,h,List.drop_left]
theorem T9 (hA:Xk F M v){e':AP}{s:SZ}{k:Option Ah}{r':Fo}
  (ih:∀(e:AP) (S:List AP) (i:Int) (sh:Bf) (last:Option Ah) (r:List Ab),1≤r'.cnt→r'.wf e.fPairs last=true→e.fKey=e.fPairs→e.fLeft=r'.cnt→KY e last→(e.fPairs=false→last=none)→v.drop i.toNat=r'.flat++r→0≤i→(S.length:Int)+1≤i→EP S→
   Jm (Ul F v) ((e::S).reverse,i,sh) S (i+r'.flat.length) (r'.sh (S.length+1) sh))
  (hd:Jm (Ul F v) s (e'::S) i sh) (hl:e'.fLeft=r'.cnt+1) (hw:r'.wf e'.fPairs k=true) (hk:KY e' k) (hm:e'.fPairs=false→k=none) (hv:v.drop i.toNat=r'.flat++r) (h0:0≤i) (hS:(S.length:Int)+1≤i) (hb:EP S) :
  Jm (Ul F v) s S (i+r'.flat.length) (r'.sh (S.length+1) sh):=by
 by_cases h1:r'.cnt=0
 ·cases r' with
  | nil=>simpa[Fo.flat,Fo.sh] using hd.pop (by rw[hl];rfl)
  | cell _ _ _=>simp[Fo.cnt] at h1
  | node _ _ _ _=>simp[Fo.cnt] at h1
 ·have:=hd.more (by omega);refine Jm.of this (ih _ S i sh k r (by omega) hw rfl (by simp only;omega) ?_ hm hv h0 hS hb)
  cases k with
  | none=>exact hk
  | some p=>exact hk
theorem M3 {k last:Option Ah}(hl:KY e last)(hm:e.fPairs=false→last=none)(hk:CL e.fPairs last k=true):KY (HT e k) k∧((HT e k).fPairs=false→k=none):=by
 cases k with
 | none=>
  have:e.fPairs=false:=by simpa[CL] using hk
  rw[hm this] at hl;exact⟨hl,λ_=>rfl⟩
 | some s=>
  refine⟨⟨rfl,rfl⟩,λh=>?_⟩;have h:e.fPairs=false:=h;simp[CL,h] at hk
theorem ON (hA:Xk F M v):∀(f:Fo) (e:AP) (S:List AP) (i:Int) (sh:Bf) (last:Option Ah) (r:List Ab),1≤f.cnt→f.wf e.fPairs last=true→e.fKey=e.fPairs→e.fLeft=f.cnt→KY e last→(e.fPairs=false→last=none)→v.drop i.toNat=f.flat++r→0≤i→(S.length:Int)+1≤i→EP S→
   Jm (Ul F v) ((e::S).reverse,i,sh) S (i+f.flat.length) (f.sh (S.length+1) sh):=by
 have hmax:∀(i:Int) (xs:List Ab),0≤i→v.drop i.toNat=xs→xs.length≤v.length:=λi xs _ h=>by rw[← h,AfJ];omega
 intro f
 induction f with
 | nil=>intro e S i sh last r h1;simp[Fo.cnt] at h1
 | cell k c r' ih=>
  intro e S i sh last r h1 hw hk hl hlo hm hv h0 hS hb;simp only[Fo.wf,Afb,Af0] at hw;obtain⟨⟨⟨w1,w2⟩,w3⟩,w4⟩:=hw;simp only[Fo.flat,AfG,AfL] at hv;have hcnt:=hmax i _ h0 hv;have hcf:=CJ r';simp only[Afg,Afk] at hcnt;have hvM:=hA.hv;have hMM:=hA.hM;simp only[Fo.cnt] at hl;have hb':EP (e::S):=λx hx=>by
   rcases List.mem_cons.1 hx with rfl | hx
   ·constructor<;>omega
   ·exact hb x hx
  have hkr:=Qv (sh:=sh) hA h0 hv hS hb' (by rw[hk];exact w1) hlo;have hv1:=CW h0 hv;obtain⟨kl,kp⟩:=M1 (e:=e) k;have hbk:EP (HT e k::S):=λx hx=>by
   rcases List.mem_cons.1 hx with rfl | hx
   ·rw[kl];exact hb' e (by simp)
   ·exact hb x hx
  have hd:=Od (sh:=OB k sh) hA (by omega) hv1 (by simp only[Afk];omega) hbk (Oe (by rw[hk];exact w1)) w2 w3;obtain⟨q1,q2⟩:=M3 hlo hm w1;have hv2:=(CB (by omega) hv1).2.1;have:=T9 hA ih (hd.of hkr) (by rw[kl,hl];rfl) (by rw[kp];exact w4) q1 q2 hv2 (by omega) (by omega) hb;simp only[Fo.flat,Fo.sh,Afg,Afk];rw[show i+((((BS k).length+(r'.flat.length+1):Nat)):Int)=i+(BS k).length+1+r'.flat.length from by omega];exact this
 | node k c kids r' ihk ih=>
  intro e S i sh last r h1 hw hk hl hlo hm hv h0 hS hb;simp only[Fo.wf,Afb,AeX] at hw;obtain⟨⟨⟨⟨⟨w1,w2⟩,w3⟩,w5⟩,w6⟩,w4⟩:=hw;simp only[Fo.flat,AfG,AfL] at hv;have hcnt:=hmax i _ h0 hv;have hcf:=CJ r';have hck:=CJ kids;simp only[Afg,Afk] at hcnt;have hvM:=hA.hv;have hMM:=hA.hM;simp only[Fo.cnt] at hl;have hb':EP (e::S):=λx hx=>by
   rcases List.mem_cons.1 hx with rfl | hx
   ·constructor<;>omega
   ·exact hb x hx
  have hkr:=Qv (sh:=sh) hA h0 hv hS hb' (by rw[hk];exact w1) hlo;have hv1:=CW h0 hv;obtain⟨kl,kp⟩:=M1 (e:=e) k;have hbk:EP (HT e k::S):=λx hx=>by
   rcases List.mem_cons.1 hx with rfl | hx
   ·rw[kl];exact hb' e (by simp)
   ·exact hb x hx
  have hn:=L8 (sh:=OB k sh) hA (by omega) hv1 (by simp only[Afk];omega) hbk (Oe (by rw[hk];exact w1)) w2 (by simpa using w3) (by omega);have hv2:=(CB (by omega) hv1).2.1;have hd:=ihk ⟨decide (c.fKind=6),c.fN,decide (c.fKind=6),[],false⟩ (HT e k::S) (i+(BS k).length+1) (KA (S.length+1) (OB k sh) c) none _ (by omega) w6 rfl w5 rfl (λ_=>rfl) hv2 (by omega) (by simp only[Afk];omega) hbk;obtain⟨q1,q2⟩:=M3 hlo hm w1;have hv3:=CW (by omega) hv2;have:=T9 hA ih ((hd.of hn).of hkr) (by rw[kl,hl];rfl) (by rw[kp];exact w4) q1 q2 hv3 (by omega) (by omega) hb;simp only[Fo.flat,Fo.sh,Afg,Afk];rw[show i+((((BS k).length+(kids.flat.length+r'.flat.length+1):Nat)):Int)=i+(BS k).length+1+kids.flat.length+r'.flat.length from by omega];exact this
end
theorem Ui {S O:Type}{body:S→Option (Stp S O)}{o:O}:∀{n:Nat} {s:S} (k:Nat),Cj body n s=some o→Cj body (n+k) s=some o
 | 0,s,k,h=>by cases h
 | n+1,s,k,h=>by
  rw[show n+1+k=n+k+1 from by omega,Cj];rw[Cj] at h
  cases hb:body s with
  | none=>rw[hb] at h;cases h
  | some t=>
   rw[hb] at h
   cases t with
   | next s'=>exact Ui k h
   | out o'=>exact h
theorem Fin.eq {S O:Type}{body:S→Option (Stp S O)}{s:S}{o o':O}{n:Nat}(h:Fin body s o)(h':Cj body n s=some o'):o'=o:=by
 obtain⟨k,hk⟩:=h;have:=Ui k h';rw[hk n] at this;exact(As this).symm
theorem RO:∀{S:List AP},EP S→EP (OO S)∧(OO S).length≤S.length
 | [],h=>⟨h,Afy _⟩
 | e::S,h=>by
  have hS:EP S:=λx hx=>h x (by simp[hx]);have he:=h e (by simp);unfold OO
  cases hd:decide (1<e.fLeft) with
  | true=>
   simp only[AeX] at hd;refine⟨λx hx=>?_,by simp⟩;rcases List.mem_cons.1 hx with rfl | hx
   ·simp only;omega
   ·exact hS x hx
  | false=>
   obtain⟨h1,h2⟩:=RO hS;exact⟨h1,by simp only[Afc,Afk];omega⟩
theorem ZH {n:Int}{S:List AP}{i:Int}{sh:Bf}{c:Ab}{σ:SZ}(hb:EP S)(hS:(S.length:Int)≤i)(hN:c.fN≤9223372036854775807)(h:UX n S i sh c = .next σ):∃S' sh',σ=(S'.reverse,i+1,sh')∧EP S'∧(S'.length:Int)≤i+1:=by
 unfold UX at h
 cases hp:pl c with
 | false=>simp[hp] at h
 | true=>
  simp only[hp,Afe,Afc] at h
  cases S with
  | nil=>
   simp only at h
   cases hn:decide (0<c.fN) with
   | false=>simp[hn] at h
   | true=>
    simp only[hn,Afi] at h
    cases hm:decide (n<c.fN) with
    | true=>simp[hm] at h
    | false=>
     simp only[hm,Afc,Stp.next.injEq] at h;refine⟨[_],_,h.symm,λx hx=>?_,by simp at hS ⊢;omega⟩;simp only[Af1] at hx;subst hx;simp only[AeX] at hn;exact⟨by simp only;omega,hN⟩
  | cons e S=>
   have he:=hb e (by simp);have hbS:EP S:=λx hx=>hb x (by simp[hx]);simp only[Afk] at hS
   cases hk:e.fKey with
   | true=>
    simp only[hk,Afi] at h
    cases hq:(!decide (c.fKind=4)||(e.fStarted&&(Do c.fStr e.fLast||decide (c.fStr=e.fLast)))) with
    | true=>rw[hq] at h;simp at h
    | false=>
     rw[hq] at h;simp only[Afc,Stp.next.injEq] at h;refine⟨_::S,_,h.symm,λx hx=>?_,by simp only[Afk];omega⟩;rcases List.mem_cons.1 hx with rfl | hx
     ·exact he
     ·exact hbS x hx
   | false=>
    simp only[hk,Afc] at h
    cases hn:decide (0<c.fN) with
    | true=>
     simp only[hn,Afi] at h
     cases hm:decide (n<c.fN) with
     | true=>simp[hm] at h
     | false=>
      simp only[hm,Afc,Stp.next.injEq] at h;refine⟨_::e::S,_,h.symm,λx hx=>?_,by simp only[Afk];omega⟩;rcases List.mem_cons.1 hx with rfl | hx
      ·simp only[AeX] at hn;exact⟨by simp only;omega,hN⟩
      ·exact hb x hx
    | false=>
     simp only[hn,Afc] at h
     cases hq:decide (OO (e::S)=[]) with
     | true=>rw[hq] at h;simp at h
     | false=>
      rw[hq] at h;simp only[Afc,Stp.next.injEq] at h;obtain⟨h1,h2⟩:=RO hb;simp only[Afk] at h2;exact⟨_,_,h.symm,h1,by omega⟩
theorem Qs {F M:Nat}{v:List Ab}(hA:Xk F M v):∃o,Cj (Ul F v) F (([]:List AP),0,(⟨0,0,false,false⟩:Bf))=some o∧True:=by
 refine G0 (λσ=>∃S i sh,σ=(S.reverse,i,sh)∧EP S∧(S.length:Int)≤i∧0≤i∧i≤v.length) (λσ=>v.length-σ.2.1.toNat) (λ_=>True) (λσ hI=>?_) F _ ⟨[],0,_,rfl,(λx hx=>by cases hx),Afz _,Afz _,by omega⟩ (by have:=hA.hv;have:=hA.hF;simp;omega);obtain⟨S,i,sh,rfl,hb,hS,h0,hi⟩:=hI
 by_cases hx:i<v.length
 ·obtain⟨c,hc⟩:∃c,v[i.toNat]? =some c:=⟨v[i.toNat]'(by omega),Aff (by omega)⟩
  have hdr:v.drop i.toNat=c::v.drop (i.toNat+1):=by rw[List.drop_eq_getElem_cons (by omega)];congr 1;exact(List.getElem?_eq_some_iff.1 hc).2
  have hr:=round (sh:=sh) hA h0 hdr hS hb
  cases hl:UX v.length S i sh c with
  | next τ=>
   obtain⟨S',sh',rfl,h1,h2⟩:=ZH hb hS (hA.hc c (Afp hc)).2.2 hl;exact .inl ⟨_,by rw[hr,hl],⟨S',i+1,sh',rfl,h1,h2,by omega,by omega⟩,by simp only;omega⟩
  | out o=>exact .inr ⟨o,by rw[hr,hl],trivial⟩
 ·refine .inr ⟨.go sh,?_,trivial⟩;show ED F v S.reverse i sh=_;unfold ED;rw[Bg (by simpa using hx)]
def Fo.one:Fo→Bool
 | .cell none _ .nil=>true
 | .node none _ _ .nil=>true
 | _=>false
def PO:Bf:=⟨0,0,false,false⟩
theorem ZG {F M:Nat}{v:List Ab}(hA:Xk F M v){f:Fo}(h1:f.one=true)(hw:f.wf false none=true){r:List Ab}(hv:v=f.flat++r):Fin (Ul F v) ([],0,PO) (.ret (f.flat.length,f.sh 0 PO,true)):=by
 have h0:v.drop (0:Int).toNat=f.flat++r:=by rw[hv];rfl
 have hlen:f.flat.length≤v.length:=by rw[hv];simp
 cases f with
 | nil=>cases h1
 | cell k c r'=>
  cases k with
  | some s=>cases h1
  | none=>
   cases r' with
   | nil=>
    simp only[Fo.wf,Afb,Af0] at hw;have:=Od (S:=[]) (sh:=PO) hA (Afz 0) h0 (by simp) (λx hx=>by cases hx) rfl hw.1.1.2 hw.1.2;unfold Jm at this;rw[AfP (show OO []=[] from rfl)] at this;simpa[Fo.flat,Fo.sh,BS,OB] using this
   | cell _ _ _=>cases h1
   | node _ _ _ _=>cases h1
 | node k c kids r'=>
  cases k with
  | some s=>cases h1
  | none=>
   cases r' with
   | nil=>
    simp only[Fo.wf,Afb,AeX] at hw;obtain⟨⟨⟨⟨⟨w1,w2⟩,w3⟩,w5⟩,w6⟩,w4⟩:=hw;have hck:=CJ kids;simp only[Fo.flat,BS,AfV,AfO,Afk] at hlen;have hvM:=hA.hv;have hMM:=hA.hM;have hn:=L8 (S:=[]) (sh:=PO) hA (Afz 0) h0 (by simp) (λx hx=>by cases hx) rfl w2 (by simpa using w3) (by omega);have hv2:=(CB (Afz 0) h0).2.1;have hd:=ON hA kids ⟨decide (c.fKind=6),c.fN,decide (c.fKind=6),[],false⟩ [] (0+1) (KA 0 PO c) none r (by omega) w6 rfl w5 rfl (λ_=>rfl) (by rw[hv2];simp[Fo.flat]) (by omega) (by simp) (λx hx=>by cases hx);unfold Jm at hd;rw[AfP (show OO []=[] from rfl)] at hd;have:=hn.fin hd;have e:((0:Int)+1+kids.flat.length)=((Fo.node none c kids .nil).flat.length:Int):=by simp[Fo.flat,BS];omega
    rw[e] at this;exact this
   | cell _ _ _=>cases h1
   | node _ _ _ _=>cases h1
theorem Uj {F M:Nat}{v:List Ab}(hA:Xk F M v){f:Fo}(h1:f.one=true)(hw:f.wf false none=true){r:List Ab}(hv:v=f.flat++r):Kx F v=some ((f.flat.length:Int),f.sh 0 PO,true):=by
 obtain⟨o,ho,_⟩:=Qs hA;have e:=(ZG hA h1 hw hv).eq ho;subst e;unfold Kx;rw[BQ ho];rfl
def Kf (m:Bool)(last:Option Ah)(xs:List Ab):Option (Option Ah×List Ab):=
 bif m then match xs with
  | []=>none
  | c::r=>bif pl c&&decide (c.fKind=4)&&CL true last (some c.fStr) then some (some c.fStr,r) else none
 else some (none,xs)
def JS:Nat→Bool→Option Ah→Nat→List Ab→Option (Fo×List Ab)
 | 0,_,_,_,_=>none
 | _+1,_,_,0,xs=>some (.nil,xs)
 | F+1,m,last,k+1,xs=>
  match Kf m last xs with
  | none=>none
  | some (_,[])=>none
  | some (key,c::xs')=>
   bif !pl c then none else
   bif decide (0<c.fN) then
    match JS F (decide (c.fKind=6)) none c.fN.toNat xs' with
    | none=>none
    | some (kids,ys)=>match JS F m key k ys with
     | none=>none
     | some (r,zs)=>some (.node key c kids r,zs)
   else match JS F m key k xs' with
    | none=>none
    | some (r,zs)=>some (.cell key c r,zs)
theorem Ss {c:Ab}(hp:pl c=true)(hk:c.fKind=4):c=⟨4,0,c.fStr,0⟩∧c.fStr.all okc=true:=by
 cases c
 simp only at hk;subst hk;simp[pl] at hp;obtain⟨h1,h2,h3⟩:=hp;subst h1;subst h2;exact⟨rfl,by simpa using h3⟩
theorem Pn {m:Bool}{last key:Option Ah}{xs r:List Ab}(h:Kf m last xs=some (key,r)):xs=BS key++r∧CL m last key=true:=by
 unfold Kf at h
 cases m with
 | false=>cases h;exact⟨rfl,rfl⟩
 | true=>
  simp only[Afi] at h
  cases xs with
  | nil=>cases h
  | cons c r'=>
   simp only at h
   cases hb:(pl c&&decide (c.fKind=4)&&CL true last (some c.fStr)) with
   | false=>rw[hb] at h;cases h
   | true=>
    rw[hb] at h;simp only[Afb,AeX] at hb
    cases h
    exact⟨by rw[(Ss hb.1.1 hb.1.2).1];rfl,hb.2⟩
theorem Jg:∀(F:Nat) (m:Bool) (last:Option Ah) (k:Nat) (xs:List Ab) (f:Fo) (ys:List Ab),JS F m last k xs=some (f,ys)→xs=f.flat++ys∧f.wf m last=true∧f.cnt=k
 | 0,_,_,_,_,_,_,h=>by cases h
 | F+1,m,last,0,xs,f,ys,h=>by cases h;exact⟨rfl,rfl,rfl⟩
 | F+1,m,last,k+1,xs,f,ys,h=>by
  rw[JS] at h
  cases hk:Kf m last xs with
  | none=>rw[hk] at h;cases h
  | some p=>
   obtain⟨key,r⟩:=p;obtain⟨h1,h2⟩:=Pn hk;rw[hk] at h
   cases r with
   | nil=>cases h
   | cons c xs'=>
    simp only at h
    cases hp:pl c with
    | false=>rw[hp] at h;cases h
    | true=>
     rw[hp] at h;simp only[Afe,Afc] at h
     cases hn:decide (0<c.fN) with
     | true=>
      rw[hn] at h;simp only[Afi] at h
      cases hq:JS F (decide (c.fKind=6)) none c.fN.toNat xs' with
      | none=>rw[hq] at h;cases h
      | some q=>
       obtain⟨kids,zs⟩:=q;rw[hq] at h;simp only at h
       cases hr:JS F m key k zs with
       | none=>rw[hr] at h;cases h
       | some q2=>
        obtain⟨r2,us⟩:=q2;rw[hr] at h;cases h;obtain⟨a1,a2,a3⟩:=Jg F _ _ _ _ _ _ hq;obtain⟨b1,b2,b3⟩:=Jg F _ _ _ _ _ _ hr;refine⟨by rw[h1,a1,b1];simp[Fo.flat],?_,by simp[Fo.cnt,b3]⟩;simp only[AeX] at hn;simp only[Fo.wf,h2,hp,a2,b2,Aft,Afo,Afb,AeX];omega
     | false=>
      rw[hn] at h;simp only[Afc] at h
      cases hr:JS F m key k xs' with
      | none=>rw[hr] at h;cases h
      | some q2=>
       obtain⟨r2,us⟩:=q2;rw[hr] at h;cases h;obtain⟨b1,b2,b3⟩:=Jg F _ _ _ _ _ _ hr;exact⟨by rw[h1,b1];simp[Fo.flat],by simp[Fo.wf,h2,hp,b2,hn],by simp[Fo.cnt,b3]⟩
theorem J4:∀(F F':Nat) (m:Bool) (last:Option Ah) (k:Nat) (xs:List Ab),xs.length<F→xs.length<F'→JS F m last k xs=JS F' m last k xs
 | 0,_,_,_,_,_,h,_=>by omega
 | _+1,0,_,_,_,_,_,h=>by omega
 | F+1,F'+1,m,last,0,xs,_,_=>rfl
 | F+1,F'+1,m,last,k+1,xs,h,h'=>by
  rw[JS,JS]
  cases hk:Kf m last xs with
  | none=>rfl
  | some p=>
   obtain⟨key,r⟩:=p;obtain⟨h1,h2⟩:=Pn hk
   cases r with
   | nil=>rfl
   | cons c xs'=>
    have hl:xs'.length<xs.length:=by rw[h1];simp;omega
    simp only
    cases hp:pl c with
    | false=>rfl
    | true=>
     simp only[Afe,Afc]
     cases hn:decide (0<c.fN) with
     | true=>
      simp only[Afi];rw[J4 F F' _ _ _ xs' (by omega) (by omega)]
      cases hq:JS F' (decide (c.fKind=6)) none c.fN.toNat xs' with
      | none=>rfl
      | some q=>
       obtain⟨kids,zs⟩:=q;have:=(Jg _ _ _ _ _ _ _ hq).1;have hz:zs.length≤xs'.length:=by rw[this];simp
       simp only;rw[J4 F F' m key k zs (by omega) (by omega)]
     | false=>
      simp only[Afc];rw[J4 F F' m key k xs' (by omega) (by omega)]
def VW {S:Type}(body:S→Option (Stp S LkO))(s:S):Prop:=∃sh',Fin body s (.ret (0,sh',false))∨Fin body s (.go sh')
theorem Gw.bad {S:Type}{body:S→Option (Stp S LkO)}{s t:S}(h:Gw body s t)(h':VW body t):VW body s:=by
 obtain⟨sh',h' | h'⟩:=h'
 ·exact⟨sh',.inl (h.fin h')⟩
 ·exact⟨sh',.inr (h.fin h')⟩
section
variable {F M : Nat} {v : List Ab}
theorem VW.end_ {S:List AP}{i:Int}{sh:Bf}(h0:0≤i)(h:v.drop i.toNat=[]):VW (Ul F v) (S.reverse,i,sh):=by
 refine⟨sh,.inr (Fin.step ?_)⟩;show ED F v S.reverse i sh=_;unfold ED;rw[Bg];have:v.length≤i.toNat:=by simpa using h
 simp;omega
theorem VW.pl_ (hA:Xk F M v){S:List AP}{i:Int}{sh:Bf}{c:Ab}{r:List Ab}(h0:0≤i)(h:v.drop i.toNat=c::r)(hS:(S.length:Int)≤i)(hb:EP S)(hp:pl c=false):VW (Ul F v) (S.reverse,i,sh):=by
 refine⟨sh,.inl (Fin.step ?_)⟩;rw[round hA h0 h hS hb];simp[UX,hp]
theorem VL (hA:Xk F M v):∀(P:Nat) (k:Nat) (e:AP) (S:List AP) (i:Int) (sh:Bf) (last:Option Ah) (xs:List Ab),xs.length<P→JS P e.fPairs last (k+1) xs=none→e.fKey=e.fPairs→e.fLeft=(k:Int)+1→(k:Int)+1≤9223372036854775807→KY e last→(e.fPairs=false→last=none)→v.drop i.toNat=xs→0≤i→(S.length:Int)+1≤i→EP S→
  VW (Ul F v) ((e::S).reverse,i,sh):=by
 intro P
 induction P with
 | zero=>intro k e S i sh last xs h;omega
 | succ P ih=>
  intro k e S i sh last xs hP hn hk hl hkm hlo hm hv h0 hS hb;have hb':EP (e::S):=λx hx=>by
   rcases List.mem_cons.1 hx with rfl | hx
   ·constructor<;>omega
   ·exact hb x hx
  rw[JS] at hn
  cases hq:Kf e.fPairs last xs with
  | none=>
   unfold Kf at hq
   cases hpr:e.fPairs with
   | false=>rw[hpr] at hq;cases hq
   | true=>
    rw[hpr] at hq hk;simp only[Afi] at hq
    cases xs with
    | nil=>exact VW.end_ h0 hv
    | cons c r=>
     simp only at hq
     cases hp:pl c with
     | false=>exact VW.pl_ hA h0 hv (by simpa using hS) hb' hp
     | true=>
      refine⟨sh,.inl (Fin.step ?_)⟩;rw[round hA h0 hv (by simpa using hS) hb'];have ht:(!decide (c.fKind=4)||(e.fStarted&&(Do c.fStr e.fLast||decide (c.fStr=e.fLast))))=true:=by
       rw[hp] at hq
       cases h4:decide (c.fKind=4) with
       | false=>rfl
       | true=>
        rw[h4] at hq;simp only[Bool.and_self,Afo] at hq;have hok:=(Ss hp (by simpa using h4)).2
        cases last with
        | none=>simp[CL,hok] at hq
        | some p=>
         obtain⟨q1,q2⟩:=hlo;rw[q1,q2]
         cases hc:(Do c.fStr p||decide (c.fStr=p)) with
         | true=>rfl
         | false=>simp[CL,hok,hc] at hq
      simp only[UX,hp,hk,ht,Afe,Afc,Afi]
  | some q=>
   obtain⟨key,r⟩:=q;obtain⟨h1,h2⟩:=Pn hq;rw[hq] at hn;have hkr:=Qv (sh:=sh) hA h0 (by rw[hv];exact h1) hS hb' (by rw[hk];exact h2) hlo;have hv1:=CW h0 (hv.trans h1);obtain⟨kl,kp⟩:=M1 (e:=e) key;obtain⟨q1,q2⟩:=M3 hlo hm h2;have hbk:EP (HT e key::S):=λx hx=>by
    rcases List.mem_cons.1 hx with rfl | hx
    ·rw[kl];exact hb' e (by simp)
    ·exact hb x hx
   refine hkr.bad ?_
   cases r with
   | nil=>exact VW.end_ (by omega) hv1
   | cons c xs'=>
    have hlen:xs'.length+1≤xs.length:=by rw[h1];simp
    have hvl:xs.length≤v.length:=by rw[← hv,AfJ];omega
    have hvM:=hA.hv;have hMM:=hA.hM;have hkk:=Oe (e:=e) (last:=last) (k:=key) (by rw[hk];exact h2);simp only at hn;have hSk:(((HT e key::S).length:Nat):Int)≤i+(BS key).length:=by simp only[Afk];omega
    cases hp:pl c with
    | false=>exact VW.pl_ hA (by omega) hv1 hSk hbk hp
    | true=>
     rw[hp] at hn;simp only[Afe,Afc] at hn;obtain⟨g1,g2,g3⟩:=CB (by omega) hv1;have hcN:=(hA.hc c (Afp g1)).2.2;have more:∀(s:SZ) (j:Int) (sh':Bf) (zs:List Ab),Jm (Ul F v) s (HT e key::S) j sh'→v.drop j.toNat=zs→zs.length<P→0≤j→(S.length:Int)+1≤j→JS P e.fPairs key k zs=none→VW (Ul F v) s:=λs j sh' zs hd hz hzl hj hSj hnone=>by
      cases k with
      | zero=>
       cases P with
       | zero=>omega
       | succ P=>cases hnone
      | succ k=>
       have:=hd.more (by rw[kl];omega);refine this.bad (ih k _ S j sh' key zs hzl (by rw[kp];exact hnone) rfl (by simp only[kl];omega) (by omega) ?_ (by simpa using q2) hz hj hSj hb)
       cases key with
       | none=>exact q1
       | some p=>exact q1
     cases hN:decide (0<c.fN) with
     | true=>
      rw[hN] at hn;simp only[Afi] at hn;simp only[AeX] at hN
      by_cases hbig:c.fN≤v.length
      ·have hnd:=L8 (sh:=OB key sh) hA (by omega) hv1 hSk hbk (by simpa[Of] using hkk) hp (by simpa using hN) hbig;refine hnd.bad ?_
       cases hks:JS P (decide (c.fKind=6)) none c.fN.toNat xs' with
       | none=>
        obtain⟨n',hn'⟩:∃n',c.fN.toNat=n'+1:=⟨c.fN.toNat-1,by omega⟩
        rw[hn'] at hks;exact ih n' _ _ _ _ none xs' (by omega) hks rfl (by simp only;omega) (by omega) rfl (λ_=>rfl) g2 (by omega) (by simp only[Afk];omega) hbk
       | some q=>
        obtain⟨kids,zs⟩:=q;rw[hks] at hn;simp only at hn;have hn2:JS P e.fPairs key k zs=none:=by
         cases hz:JS P e.fPairs key k zs with
         | none=>rfl
         | some q=>rw[hz] at hn;cases hn
        obtain⟨a1,a2,a3⟩:=Jg _ _ _ _ _ _ _ hks;have hd:=ON hA kids ⟨decide (c.fKind=6),c.fN,decide (c.fKind=6),[],false⟩ (HT e key::S) (i+(BS key).length+1) (KA (S.length+1) (OB key sh) c) none zs (by omega) a2 rfl (by simp only;omega) rfl (λ_=>rfl) (by rw[g2];exact a1) (by omega) (by simp only[Afk];omega) hbk;have hz:v.drop (i+(BS key).length+1+kids.flat.length).toNat=zs:=CW (by omega) (g2.trans a1);have hzl:zs.length≤xs'.length:=by rw[a1];simp
        exact more _ _ _ zs hd hz (by omega) (by omega) (by omega) hn2
      ·refine⟨KA (HT e key::S).length (OB key sh) c,.inl (Fin.step ?_)⟩;rw[round hA (by omega) hv1 hSk hbk];have hbig':decide ((v.length:Int)<c.fN)=true:=by simpa using hbig
       simp only[UX,hp,hkk,hbig',hN,Afe,Afc,Afi,decide_true]
     | false=>
      rw[hN] at hn;simp only[Afc] at hn;have hn2:JS P e.fPairs key k xs'=none:=by
       cases hz:JS P e.fPairs key k xs' with
       | none=>rfl
       | some q=>rw[hz] at hn;cases hn
      have hd:=Od (sh:=OB key sh) hA (by omega) hv1 hSk hbk (by simpa[Of] using hkk) hp hN;exact more _ _ _ xs' hd g2 (by omega) (by omega) (by omega) hn2
def J6 (xs:List Ab):Option (Fo×List Ab):=JS (xs.length+1) false none 1 xs
theorem Wz {P:Nat}{xs ys:List Ab}{f:Fo}(h:JS P false none 1 xs=some (f,ys)):f.one=true:=by
 obtain⟨h1,h2,h3⟩:=Jg _ _ _ _ _ _ _ h
 cases f with
 | nil=>cases h3
 | cell k c r=>
  cases r with
  | nil=>
   cases k with
   | none=>rfl
   | some s=>simp[Fo.wf,CL] at h2
  | cell _ _ _=>simp[Fo.cnt] at h3
  | node _ _ _ _=>simp[Fo.cnt] at h3
 | node k c kids r=>
  cases r with
  | nil=>
   cases k with
   | none=>rfl
   | some s=>simp[Fo.wf,CL] at h2
  | cell _ _ _=>simp[Fo.cnt] at h3
  | node _ _ _ _=>simp[Fo.cnt] at h3
theorem Yg (hA:Xk F M v)(h:J6 v=none):VW (Ul F v) ([],0,PO):=by
 have hlf:EP []:=λx hx=>by cases hx
 unfold J6 at h;rw[JS] at h;simp only[Kf,Afc] at h
 cases v with
 | nil=>exact VW.end_ (S:=[]) (Afz 0) rfl
 | cons c xs'=>
  have hv1:(c::xs').drop (0:Int).toNat=c::xs':=rfl;have hvM:=hA.hv;have hMM:=hA.hM;simp only at h
  cases hp:pl c with
  | false=>exact VW.pl_ (S:=[]) hA (Afz 0) hv1 (by simp) hlf hp
  | true=>
   rw[hp] at h;simp only[Afe,Afc] at h;have hcN:=(hA.hc c (by simp)).2.2
   cases hN:decide (0<c.fN) with
   | true=>
    rw[hN] at h;simp only[Afi] at h;simp only[AeX] at hN
    by_cases hbig:c.fN≤(c::xs').length
    ·have hnd:=L8 (S:=[]) (sh:=PO) hA (Afz 0) hv1 (by simp) hlf rfl hp (by simpa using hN) hbig;refine hnd.bad ?_
     cases hks:JS (c::xs').length (decide (c.fKind=6)) none c.fN.toNat xs' with
     | none=>
      obtain⟨n',hn'⟩:∃n',c.fN.toNat=n'+1:=⟨c.fN.toNat-1,by omega⟩
      rw[hn'] at hks;exact VL hA (c::xs').length n' ⟨decide (c.fKind=6),c.fN,decide (c.fKind=6),[],false⟩ [] (0+1) _ none xs' (by simp) hks rfl (by simp only;omega) (by omega) rfl (λ_=>rfl) rfl (by omega) (by simp) hlf
     | some q=>rw[hks] at h;cases h
    ·refine⟨KA 0 PO c,.inl (Fin.step ?_)⟩;rw[show Ul F (c::xs') (([]:List AP),0,PO)=_ from round (S:=[]) hA (Afz 0) hv1 (by simp) hlf];have hbig':decide (((c::xs').length:Int)<c.fN)=true:=by simpa using hbig
     simp only[UX,hp,hbig',hN,Afe,Afc,Afi,decide_true]
   | false=>rw[hN] at h;cases h
theorem Ab1 (hA:Xk F M v):(∃f ys,J6 v=some (f,ys)∧Kx F v=some ((f.flat.length:Int),f.sh 0 PO,true))∨(J6 v=none∧∃sh',Kx F v=some (0,sh',false)):=by
 cases h:J6 v with
 | some q=>
  obtain⟨f,ys⟩:=q;obtain⟨h1,h2,h3⟩:=Jg _ _ _ _ _ _ _ h;exact .inl ⟨f,ys,rfl,Uj hA (Wz h) h2 h1⟩
 | none=>
  refine .inr ⟨rfl,?_⟩;obtain⟨o,ho,_⟩:=Qs hA;obtain⟨sh',hb | hb⟩:=Yg hA h
  ·have e:=hb.eq ho;subst e;exact⟨sh',by unfold Kx;rw[BQ ho];rfl⟩
  ·have e:=hb.eq ho;subst e;exact⟨sh',by unfold Kx;rw[BQ ho];rfl⟩
end
theorem Lu {x:Int}(h : -9223372036854775808≤x)(h':x≤9223372036854775807):IntKind.wrap .i64 x=x:=by
 simp only[IntKind.wrap,IntKind.bits,IntKind.signed];simp;omega
def Fo.dep:Fo→Nat
 | .nil=>0
 | .cell _ _ r=>max 1 r.dep
 | .node _ _ kids r=>max (kids.dep+1) r.dep
theorem Ig (k:Option Ah)(s:Bf):(OB k s).fDepth=s.fDepth∧(OB k s).fOutside=s.fOutside∧(OB k s).fLong=(s.fLong||(BS k).any λc=>decide (200<(c.fStr.length:Int))):=by
 cases k with
 | none=>simp[OB,BS]
 | some x=>simp[OB,shk,BS]
theorem MU:∀(f:Fo) (d:Nat) (s:Bf),(d:Int)≤s.fDepth→(f.sh d s).fDepth=max s.fDepth ((d:Int)+f.dep)
 | .nil,d,s,h=>by simp only[Fo.sh,Fo.dep];omega
 | .cell k c r,d,s,h=>by
  have hk:=(Ig k s).1;have e:(KA d (OB k s) c).fDepth=max s.fDepth ((d:Int)+1):=by rw[KA,hk]
  rw[Fo.sh,MU r d _ (by rw[e];omega),e,Fo.dep];omega
 | .node k c kids r,d,s,h=>by
  have hk:=(Ig k s).1;have e:(KA d (OB k s) c).fDepth=max s.fDepth ((d:Int)+1):=by rw[KA,hk]
  have e2:=MU kids (d+1) (KA d (OB k s) c) (by rw[e];omega);rw[e] at e2;rw[Fo.sh,MU r d _ (by rw[e2];omega),e2,Fo.dep];omega
def KP (c:Ab):Bool:=decide (c.fKind=3)&&!(decide ((-1000000000000)≤c.fInt)&&decide (c.fInt≤1000000000000))
def JF (c:Ab):Bool:=decide (200<(c.fStr.length:Int))
theorem Uq (k:Option Ah):(BS k).any KP=false:=by cases k<;>simp[BS,KP]
theorem Sg:∀(f:Fo) (d:Nat) (s:Bf),(f.sh d s).fOutside=(s.fOutside||f.flat.any KP)
 | .nil,d,s=>by simp[Fo.sh,Fo.flat]
 | .cell k c r,d,s=>by
  rw[Fo.sh,Sg r,KA,(Ig k s).2.1];simp only[Fo.flat,List.any_append,List.any_cons,Uq,Afq,Bool.or_assoc];rfl
 | .node k c kids r,d,s=>by
  rw[Fo.sh,Sg r,Sg kids,KA,(Ig k s).2.1];simp only[Fo.flat,List.any_append,List.any_cons,Uq,Afq,Bool.or_assoc];rfl
theorem Pi:∀(f:Fo) (d:Nat) (s:Bf),(f.sh d s).fLong=(s.fLong||f.flat.any JF)
 | .nil,d,s=>by simp[Fo.sh,Fo.flat]
 | .cell k c r,d,s=>by
  rw[Fo.sh,Pi r,KA,(Ig k s).2.2];simp only[Fo.flat,List.any_append,List.any_cons,Bool.or_assoc];rfl
 | .node k c kids r,d,s=>by
  rw[Fo.sh,Pi r,Pi kids,KA,(Ig k s).2.2];simp only[Fo.flat,List.any_append,List.any_cons,Bool.or_assoc];rfl
def Y9 (c:Ab):Int:=
 bif decide (c.fKind=1) then 4 else bif decide (c.fKind=2) then 5-c.fInt else bif decide (c.fKind=3) then((Lib.itoa c.fInt).length:Int) else
 bif decide (c.fKind=4) then NS c.fStr else 2
def S9:Option Ah→Int
 | none=>0
 | some s=>NS s+1
def Fo.byt:Fo→Int
 | .nil=>0
 | .cell k c r=>S9 k+Y9 c+r.byt
 | .node k c kids r=>S9 k+(c.fN+1)+kids.byt+r.byt
theorem Nf (s:Ah):2≤NS s:=by unfold NS;omega
theorem Pu (k:Option Ah):0≤S9 k:=by
 cases k with
 | none=>exact Afz 0
 | some s=>have:=Nf s;simp only[S9];omega
theorem WG {c:Ab}(hp:pl c=true):0≤Y9 c:=by
 unfold Y9
 cases h1:decide (c.fKind=1) with
 | true=>simp
 | false=>
  cases h2:decide (c.fKind=2) with
  | true=>
   simp[pl,h1,h2] at hp;simp only[Afc,Afi];omega
  | false=>
   cases h3:decide (c.fKind=3) with
   | true=>simp
   | false=>
    cases h4:decide (c.fKind=4) with
    | true=>have:=Nf c.fStr;simp only[Afc,Afi];omega
    | false=>simp
theorem Abg {c:Ab}(hp:pl c=true):0≤c.fN:=by
 simp only[pl,← Bool.decide_or] at hp
 cases h1:decide (c.fKind=1)<;>cases h2:decide (c.fKind=2)<;>cases h3:decide (c.fKind=3)<;>cases h4:decide (c.fKind=4)<;>cases h5:decide (c.fKind=5)<;>cases h6:decide (c.fKind=6)<;>simp[h1,h2,h3,h4,h5,h6] at hp<;>omega
theorem Kg {c:Ab}(hp:pl c=true)(hn:0<c.fN):(c.fKind=5∨c.fKind=6)∧c.fInt=0∧c.fStr=[]:=by
 cases h1:decide (c.fKind=1)<;>cases h2:decide (c.fKind=2)<;>cases h3:decide (c.fKind=3)<;>cases h4:decide (c.fKind=4)<;>cases h5:decide (c.fKind=5)<;>cases h6:decide (c.fKind=6)<;>simp[pl,h1,h2,h3,h4,h5,h6] at hp<;>(simp only[AeX,AeY] at *;first | omega | exact⟨by omega,hp.1,hp.2.1⟩)
theorem YY {c:Ab}(hp:pl c=true)(hn:decide (0<c.fN)=false):szc c=Y9 c:=by
 have hN:=Abg hp;have h0:c.fN=0:=by simp only[AeY] at hn;omega
 unfold szc Y9;rw[h0]
 cases h1:decide (c.fKind=1) with
 | true=>rfl
 | false=>
  cases h2:decide (c.fKind=2) with
  | true=>
   simp[pl,h1,h2] at hp;simp only[Afc,Afi];exact Lu (by omega) (by omega)
  | false=>rfl
theorem YX {c:Ab}(hp:pl c=true)(hn:0<c.fN)(hm:c.fN≤9223372036854775000):szc c=c.fN+1:=by
 obtain⟨hk,_,_⟩:=Kg hp hn;unfold szc;rw[AeZ (by omega),AeZ (by omega),AeZ (by omega),AeZ (by omega)];simp only[Afc];rw[Lu (x:=c.fN-1) (by omega) (by omega),Lu (by omega) (by omega)];omega
theorem Jb:∀{f:Fo} {m:Bool} {l:Option Ah},f.wf m l=true→0≤f.byt
 | .nil,_,_,_=>Afz 0
 | .cell k c r,m,l,h=>by
  simp only[Fo.wf,Afb] at h;have h1:=Jb h.2;have h2:=WG h.1.1.2;have h3:=Pu k;simp only[Fo.byt];omega
 | .node k c kids r,m,l,h=>by
  simp only[Fo.wf,Afb,AeX] at h;have h1:=Jb h.2;have h2:=Jb h.1.2;have h3:=Pu k;simp only[Fo.byt];omega
theorem Rx (k:Option Ah)(s:Bf)(h0:0≤s.fBytes)(h:s.fBytes+S9 k≤9223372036854775807):(OB k s).fBytes=s.fBytes+S9 k:=by
 cases k with
 | none=>simp[OB,S9]
 | some x=>
  have:=Nf x;simp only[S9] at h;simp only[OB,shk,S9];exact Lu (by omega) (by omega)
theorem MV:∀(f:Fo) (m:Bool) (l:Option Ah) (d:Nat) (s:Bf),f.wf m l=true→0≤s.fBytes→s.fBytes+f.byt≤9223372036854775000→(f.sh d s).fBytes=s.fBytes+f.byt
 | .nil,_,_,d,s,_,_,_=>by simp[Fo.sh,Fo.byt]
 | .cell k c r,m,l,d,s,hw,h0,h=>by
  simp only[Fo.wf,Afb,Af0] at hw;obtain⟨⟨⟨w1,w2⟩,w3⟩,w4⟩:=hw;have h1:=Jb w4;have h2:=WG w2;have h3:=Pu k;simp only[Fo.byt] at h;have e1:=Rx k s h0 (by omega);have e:(KA d (OB k s) c).fBytes=s.fBytes+S9 k+Y9 c:=by
   rw[KA,e1,YY w2 w3];exact Lu (by omega) (by omega)
  rw[Fo.sh,MV r _ _ d _ w4 (by rw[e];omega) (by rw[e];omega),e,Fo.byt];omega
 | .node k c kids r,m,l,d,s,hw,h0,h=>by
  simp only[Fo.wf,Afb,AeX] at hw;obtain⟨⟨⟨⟨⟨w1,w2⟩,w3⟩,w5⟩,w6⟩,w4⟩:=hw;have h1:=Jb w4;have h2:=Jb w6;have h3:=Pu k;simp only[Fo.byt] at h;have e1:=Rx k s h0 (by omega);have e:(KA d (OB k s) c).fBytes=s.fBytes+S9 k+(c.fN+1):=by
   rw[KA,e1,YX w2 w3 (by omega)];exact Lu (by omega) (by omega)
  have e2:=MV kids _ _ (d+1) (KA d (OB k s) c) w6 (by rw[e];omega) (by rw[e];omega);rw[Fo.sh,MV r _ _ d _ w4 (by rw[e2,e];omega) (by rw[e2,e];omega),e2,e,Fo.byt];omega
def HD (s:Ah):Ah:=s.flatMap λc=>bif (decide (c=34)||decide (c=92)) then[92,c] else[c]
def HB (s:Ah):Ah:=34::(HD s++[34])
theorem N8:∀s:Ah,(HD s).length=s.length+s.count 34+s.count 92
 | []=>rfl
 | c::s=>by
  have ih:=N8 s;unfold HD at ih ⊢;rw[List.flatMap_cons,Afg,ih]
  by_cases h1:c=34
  ·subst h1;simp;omega
  ·by_cases h2:c=92
   ·subst h2;simp;omega
   ·simp[h1,h2,List.count_cons];omega
theorem TG (s:Ah):((HB s).length:Int)=NS s:=by
 simp only[HB,Afk,Afg,N8,AfM,NS];omega
def GU (c:Ab):Ah:=
 bif decide (c.fKind=1) then[110,117,108,108] else
 bif decide (c.fKind=2) then(bif decide (c.fInt=1) then[116,114,117,101] else[102,97,108,115,101]) else
 bif decide (c.fKind=3) then Lib.itoa c.fInt else
 bif decide (c.fKind=4) then HB c.fStr else
 bif decide (c.fKind=6) then[123,125] else[91,93]
def KE:Option Ah→Ah
 | none=>[]
 | some s=>HB s++[58]
def QN (c:Ab)(s:Ah):Ah:=bif decide (c.fKind=6) then 123::(s++[125]) else 91::(s++[93])
def EG (first:Bool):Ah:=bif first then[] else[44]
def Fo.txt:Bool→Fo→Ah
 | _,.nil=>[]
 | b,.cell k c r=>EG b++KE k++GU c++r.txt false
 | b,.node k c kids r=>EG b++KE k++QN c (kids.txt true)++r.txt false
theorem WH (k:Option Ah):((KE k).length:Int)=S9 k:=by
 cases k with
 | none=>rfl
 | some s=>simp only[KE,Afg,S9,Af2];have:=TG s;omega
theorem RA {c:Ab}(hp:pl c=true):((GU c).length:Int)=Y9 c:=by
  unfold GU Y9
  cases h1:decide (c.fKind=1) with
  | true=>rfl
  | false=>
    cases h2:decide (c.fKind=2) with
    | true=>
      simp[pl,h1,h2] at hp;simp only[Afc,Afi]
      cases h7:decide (c.fInt=1) with
      | true=>simp only[AeX] at h7;simp[h7]
      | false=>
                 simp only[AeY] at h7;have:c.fInt=0:=by omega
                 simp[this]
    | false=>
      cases h3:decide (c.fKind=3) with
      | true=>rfl
      | false=>
        cases h4:decide (c.fKind=4) with
        | true=>simpa using TG c.fStr
        | false=>cases h6:decide (c.fKind=6)<;>rfl
theorem Ks (c:Ab)(s:Ah):(QN c s).length=s.length+2:=by
 unfold QN
 cases decide (c.fKind=6)<;>simp
theorem Ka:∀(f:Fo) (m:Bool) (l:Option Ah) (b:Bool),f.wf m l=true→((f.txt b).length:Int)=f.byt+(bif b then((f.cnt-1:Nat):Int) else(f.cnt:Int))
 | .nil,m,l,b,_=>by cases b<;>rfl
 | .cell k c r,m,l,b,hw=>by
  simp only[Fo.wf,Afb,Af0] at hw;obtain⟨⟨⟨w1,w2⟩,w3⟩,w4⟩:=hw;have ih:=Ka r _ _ false w4;have a:=WH k;have d:=RA w2;simp only[Afc] at ih
  cases b<;>simp only[Fo.txt,Fo.byt,Fo.cnt,EG,Afi,Afc,Afg,AfM,Af2]<;>omega
 | .node k c kids r,m,l,b,hw=>by
  simp only[Fo.wf,Afb,AeX] at hw;obtain⟨⟨⟨⟨⟨w1,w2⟩,w3⟩,w5⟩,w6⟩,w4⟩:=hw;have ih:=Ka r _ _ false w4;have ih2:=Ka kids _ _ true w6;have a:=WH k;have d:=Ks c (kids.txt true);simp only[Afc,Afi] at ih ih2
  cases b<;>simp only[Fo.txt,Fo.byt,Fo.cnt,EG,Afi,Afc,Afg,AfM,Af2]<;>omega
def Fo.put (k:Option Ah):Fo→Fo→Fo
 | .cell _ c _,r=>.cell k c r
 | .node _ c kids _,r=>.node k c kids r
 | .nil,_=>.nil
theorem Zq (P:Nat)(m:Bool)(last:Option Ah)(k:Nat)(xs:List Ab):JS (P+2) m last (k+1) xs =
  match Kf m last xs with
  | none=>none
  | some (key,ys)=>match JS (P+2) false none 1 ys with
   | none=>none
   | some (f,zs)=>match JS (P+1) m key k zs with
    | none=>none
    | some (r,us)=>some (f.put key r,us):=by
 rw[JS]
 cases hk:Kf m last xs with
 | none=>rfl
 | some p=>
  obtain⟨key,ys⟩:=p;simp only;rw[JS];simp only[Kf,Afc]
  cases ys with
  | nil=>rfl
  | cons c ys=>
   simp only
   cases hp:pl c with
   | false=>rfl
   | true=>
    simp only[Afe,Afc]
    cases hn:decide (0<c.fN) with
    | true=>
     simp only[Afi]
     cases hq:JS (P+1) (decide (c.fKind=6)) none c.fN.toNat ys with
     | none=>rfl
     | some q=>
      obtain⟨kids,zs⟩:=q;simp only[JS]
      cases hr:JS (P+1) m key k zs with
      | none=>rfl
      | some q=>obtain⟨a,b⟩:=q;rfl
    | false=>
     simp only[Afc,JS]
     cases hr:JS (P+1) m key k ys with
     | none=>rfl
     | some q=>obtain⟨a,b⟩:=q;rfl
def Qa (m:Bool)(last:Option Ah)(k:Nat)(xs:List Ab):Option (Fo×List Ab):=JS (xs.length+1) m last k xs
theorem NT (m:Bool)(last:Option Ah)(xs:List Ab):Qa m last 0 xs=some (.nil,xs):=rfl
theorem Ik (m:Bool)(last:Option Ah)(k:Nat)(xs:List Ab):Qa m last (k+1) xs =
  match Kf m last xs with
  | none=>none
  | some (key,ys)=>match J6 ys with
   | none=>none
   | some (f,zs)=>match Qa m key k zs with
    | none=>none
    | some (r,us)=>some (f.put key r,us):=by
 unfold Qa J6;rw[J4 (xs.length+1) (xs.length+2) m last (k+1) xs (by omega) (by omega),Zq]
 cases hk:Kf m last xs with
 | none=>rfl
 | some p=>
  obtain⟨key,ys⟩:=p;have h1:=(Pn hk).1;have hy:ys.length≤xs.length:=by rw[h1];simp
  simp only;rw[J4 (xs.length+2) (ys.length+1) false none 1 ys (by omega) (by omega)]
  cases hf:JS (ys.length+1) false none 1 ys with
  | none=>rfl
  | some q=>
   obtain⟨f,zs⟩:=q;have h2:=(Jg _ _ _ _ _ _ _ hf).1;have hz:zs.length≤ys.length:=by rw[h2];simp
   simp only;rw[J4 (xs.length+1) (zs.length+1) m key k zs (by omega) (by omega)]
   all_goals (cases JS (zs.length+1) m key k zs<;>rfl)
theorem OH {S O:Type}{body:S→Option (Stp S O)}{n:Nat}{s s':S}{o:O}(h:body s=some (.next s'))(h':Cj body n s'=some o):Cj body (n+1) s=some o:=by rw[Cj,h];exact h'
theorem K2 {S O:Type}{body:S→Option (Stp S O)}{n:Nat}{s:S}{o:O}(h:body s=some (.out o)):Cj body (n+1) s=some o:=by rw[Cj,h]
theorem TI:J6 []=none:=rfl
theorem J5 (c:Ab)(r:List Ab):J6 (c::r)=bif !pl c then none else bif decide (0<c.fN) then(match Qa (decide (c.fKind=6)) none c.fN.toNat r with
  | none=>none
  | some (kids,zs)=>some (.node none c kids .nil,zs)) else some (.cell none c .nil,r):=by
 unfold J6;rw[JS];simp only[Kf,Afc]
 cases hp:pl c with
 | false=>rfl
 | true=>
  simp only[Afe,Afc]
  cases hn:decide (0<c.fN) with
  | true=>
   simp only[Afi];unfold Qa;rw[Afk]
   cases hq:JS (r.length+1) (decide (c.fKind=6)) none c.fN.toNat r with
   | none=>rfl
   | some q=>obtain⟨kids,zs⟩:=q;rfl
  | false=>rfl
theorem TH {f:Fo}(h:f.one=true)(key:Option Ah)(r:Fo):(f.put key r).flat=BS key++(f.flat++r.flat):=by
 cases f with
 | nil=>cases h
 | cell k c r'=>
  cases k with
  | some s=>cases h
  | none=>cases r' with
   | nil=>simp[Fo.put,Fo.flat,BS]
   | cell _ _ _=>cases h
   | node _ _ _ _=>cases h
 | node k c kids r'=>
  cases k with
  | some s=>cases h
  | none=>cases r' with
   | nil=>simp[Fo.put,Fo.flat,BS]
   | cell _ _ _=>cases h
   | node _ _ _ _=>cases h
theorem TM {f:Fo}(h:f.one=true):1≤f.flat.length:=by
 cases f with
 | nil=>cases h
 | cell k c r'=>simp[Fo.flat];omega
 | node k c kids r'=>simp[Fo.flat];omega
theorem L5 {xs ys:List Ab}{f:Fo}(h:J6 xs=some (f,ys)):xs=f.flat++ys∧f.wf false none=true∧f.one=true:=
 ⟨(Jg _ _ _ _ _ _ _ h).1,(Jg _ _ _ _ _ _ _ h).2.1,Wz h⟩
def K1 (v:List Ab)(i:Int):Int:=match J6 (v.drop i.toNat) with
 | none=>-1
 | some (f,_)=>i+f.flat.length
def Nl (m:Bool)(last:Option Ah)(v:List Ab)(i:Int)(k:Nat):Int:=match Qa m last k (v.drop i.toNat) with
 | none=>-1
 | some (f,_)=>i+f.flat.length
theorem R5 {v:List Ab}{i:Int}(h0:0≤i)(h1:i≤v.length):K1 v i = -1∨(i<K1 v i∧K1 v i≤v.length):=by
 unfold K1
 cases h:J6 (v.drop i.toNat) with
 | none=>exact .inl rfl
 | some q=>
  obtain⟨f,ys⟩:=q;obtain⟨h2,_,h3⟩:=L5 h;have:=TM h3;have hl:(v.drop i.toNat).length=f.flat.length+ys.length:=by rw[h2];simp
  rw[AfJ] at hl
  right;simp only;omega
structure RfA (F M:Nat) (v:List Ab):Prop where
 hM:M≤1152921504606846976
 hv:v.length≤M
 hF:M<F
 hc:∀c∈v,c.fStr.length≤M
theorem XS (ok:Bool){i:Int}(h0:0≤i)(h1:i≤1152921504606846976):Ce ok i=some (bif ok then i+1 else -1):=by
 unfold Ce
 cases ok
 ·rfl
 ·rw[Bo rfl,AX (by omega) (by omega)];rfl
theorem Wy {F:Nat}{c:Ab}(hF:c.fStr.length<F)(hs:c.fStr.length≤1152921504606846976):QY F c=some (decide (c.fKind=4)&&pl c):=by
 unfold QY;rw[XK hF (by omega)];simp only[Option.isSome_some,ov,Af5,imp,Afv,Bl,Afi]
 cases h4:decide (c.fKind=4) with
 | false=>rfl
 | true=>
  simp only[AeX] at h4;simp[pl,h4]
theorem DN {v:List Ab}{i:Int}{c:Ab}{r:List Ab}(h0:0≤i)(h:v.drop i.toNat=c::r):Ao v i=c:=by
 have:=(CB h0 h).1;simp[Ao,this]
section
variable {M : Nat} {v : List Ab}
theorem LT {F:Nat}(hA:RfA F M v){g:List Ab→Int→Option Int}{n:Int}(hn:n≤9223372036854775807):∀(L:Nat) (i x:Int),0≤i→i≤v.length→0≤x→x≤n→(∀j,i≤j→j≤v.length→g v j=some (K1 v j))→v.length-i.toNat<L→
  ∃o,Cj (λσ=>Dq v n g σ.1 σ.2) L (i,x)=some o∧Cf (λν=>EY ν) o=some (Nl false none v i (n-x).toNat)
 | 0,i,x,_,_,_,_,_,h=>by omega
 | L+1,i,x,h0,h1,hx,hxn,hg,hL=>by
  cases hxl:decide (x<n) with
  | false=>
   refine⟨.go i,K2 (by show Dq v n g i x=_;unfold Dq;rw[Bg hxl]),?_⟩;simp only[AeY] at hxl;rw[show(n-x).toNat=0 from by omega];simp[Cf,EY,Nl,NT,Fo.flat]
  | true=>
   have hb:Dq v n g i x=B0 (decide (K1 v i<0)) (some (.out (.ret (-1)))) (Bl (BM .i64 (x+1))<|some (.next (K1 v i,x+1))):=by unfold Dq;rw[Bo hxl,hg i (Afz i) h1,BQ rfl]
   simp only[AeX] at hxl;obtain⟨k,hk⟩:∃k,(n-x).toNat=k+1:=⟨(n-x).toNat-1,by omega⟩
   rw[hk];have e:Nl false none v i (k+1)=bif decide (K1 v i<0) then -1 else Nl false none v (K1 v i) k:=by
    unfold Nl;rw[Ik];simp only[Kf,Afc]
    cases hp:J6 (v.drop i.toNat) with
    | none=>simp[K1,hp]
    | some q=>
     obtain⟨f,ys⟩:=q;obtain⟨q1,q2,q3⟩:=L5 hp;have hi:K1 v i=i+f.flat.length:=by simp[K1,hp]
     have hd:v.drop (K1 v i).toNat=ys:=by rw[hi];exact CW h0 q1
     rw[hd,AeZ (by omega)];simp only[Afc]
     cases hr:Qa false none k ys with
     | none=>rfl
     | some q=>
      obtain⟨r,zs⟩:=q;simp only[TH q3,BS,AfV,Afg,hi];omega
   rw[e];rcases R5 (v:=v) h0 h1 with hneg | ⟨hlt,hle⟩
   ·exact⟨.ret (-1),K2 (hb.trans (by rw[hneg,Bo (by decide)])),by rw[hneg];rfl⟩
   ·have hM:=hA.hM;have hvM:=hA.hv;obtain⟨o,ho1,ho2⟩:=LT hA hn L (K1 v i) (x+1) (by omega) hle (by omega) (by omega) (λj hj=>hg j (by omega)) (by omega);exact⟨o,OH (hb.trans (by rw[Bg (AeZ (by omega)),AX (by omega) (by omega)])) ho1,by rw[ho2,show(n-(x+1)).toNat=k from by omega,AeZ (by omega)];rfl⟩
theorem PZ {F:Nat}(hA:RfA F M v){g:List Ab→Int→Option Int}{n:Int}(hn:n≤9223372036854775807):∀(L:Nat) (i x:Int) (last:Ah),0≤i→i≤v.length→0≤x→x≤n→(∀j,i≤j→j≤v.length→g v j=some (K1 v j))→v.length-i.toNat<L→
  ∃o,Cj (λσ=>Ed F v n g σ.1 σ.2.1 σ.2.2) L (i,last,x)=some o∧Cf (λν=>Ii ν) o=some (Nl true (bif decide (0<x) then some last else none) v i (n-x).toNat)
 | 0,i,x,_,_,_,_,_,_,h=>by omega
 | L+1,i,x,last,h0,h1,hx,hxn,hg,hL=>by
  have hM:=hA.hM;have hvM:=hA.hv;have hMF:=hA.hF
  cases hxl:decide (x<n) with
  | false=>
   refine⟨.go i,K2 (by show Ed F v n g i last x=_;unfold Ed;rw[Bg hxl]),?_⟩;simp only[AeY] at hxl;rw[show(n-x).toNat=0 from by omega];simp[Cf,Ii,Nl,NT,Fo.flat]
  | true=>
   have hxl':=hxl;simp only[AeX] at hxl;obtain⟨k,hk⟩:∃k,(n-x).toNat=k+1:=⟨(n-x).toNat-1,by omega⟩
   rw[hk]
   cases hd:v.drop i.toNat with
   | nil=>
    have hl:v.length≤i.toNat:=by simpa using hd
    refine⟨.ret (-1),K2 (by
     show Ed F v n g i last x=_;unfold Ed;rw[Bo hxl',Cr (by simp[imp,show(v.length:Int)≤i from by omega]),Cr (by simp[imp,show(v.length:Int)≤i from by omega]),Bo (by simp[show(v.length:Int)≤i from by omega])]),?_⟩
    simp[Cf,Nl,hd,Ik,Kf]
   | cons c r=>
    obtain⟨g1,g2,g3⟩:=CB h0 hd;have hcM:=hA.hc c (Afp g1);have hat:=DN h0 hd;have hnl:decide ((v.length:Int)≤i)=false:=by simp;omega
    have hb:Ed F v n g i last x=B0 (!(decide (c.fKind=4)&&pl c)||decide (0<x)&&(Do c.fStr last||decide (c.fStr=last))) (some (.out (.ret (-1)))) (Bs (g v (i+1)) λhe=>B0 (decide (he<0)) (some (.out (.ret (-1)))) (Bl (BM .i64 (x+1))<|some (.next (he,c.fStr,x+1)))):=by
     unfold Ed;rw[Bo hxl',Cr (by simp only[imp];rw[Qx h0 g3];simp),hat,Wy (by omega) (by omega),Cr (by simp[imp])];simp only[hnl,ov,Af5,Afq];rw[Bh h0 g3,AX (by omega) (by omega)]
    have hpk:Kf true (bif decide (0<x) then some last else none) (c::r)=bif (!(decide (c.fKind=4)&&pl c)||decide (0<x)&&(Do c.fStr last||decide (c.fStr=last))) then none else some (some c.fStr,r):=by
     simp only[Kf,Afi]
     cases h4:decide (c.fKind=4) with
     | false=>simp
     | true=>
      cases hp:pl c with
      | false=>simp
      | true=>
       have hok:=(Ss hp (by simpa using h4)).2
       cases h0x:decide (0<x) with
       | false=>simp[CL,hok]
       | true=>cases hs:(Do c.fStr last||decide (c.fStr=last))<;>simp[CL,hok,hs]
    cases ht:(!(decide (c.fKind=4)&&pl c)||decide (0<x)&&(Do c.fStr last||decide (c.fStr=last))) with
    | true=>
     rw[ht] at hpk;refine⟨.ret (-1),K2 (hb.trans (Bo ht)),?_⟩;simp only[Nl,hd,Ik,hpk,Afi];rfl
    | false=>
     rw[ht] at hpk;rw[Bg ht,hg (i+1) (by omega) (by omega),BQ rfl] at hb;have e:Nl true (bif decide (0<x) then some last else none) v i (k+1)=bif decide (K1 v (i+1)<0) then -1 else Nl true (some c.fStr) v (K1 v (i+1)) k:=by
      unfold Nl;rw[hd,Ik,hpk];simp only[Afc];have hx:K1 v (i+1)=match J6 r with | none=>-1 | some (f,_)=>i+1+f.flat.length:=by unfold K1;rw[g2]
      cases hp:J6 r with
      | none=>rw[hp] at hx;simp[hx]
      | some q=>
       obtain⟨f,ys⟩:=q;obtain⟨q1,q2,q3⟩:=L5 hp;rw[hp] at hx;simp only at hx;have hd2:v.drop (K1 v (i+1)).toNat=ys:=by rw[hx];exact CW (by omega) (g2.trans q1)
       rw[hd2,AeZ (by omega)];simp only[Afc]
       cases hr:Qa true (some c.fStr) k ys with
       | none=>rfl
       | some q=>
        obtain⟨r',zs⟩:=q;simp only[TH q3,BS,Afg,Afk,AfM,hx];omega
     rw[e];rcases R5 (v:=v) (i:=i+1) (by omega) (by omega) with hneg | ⟨hlt,hle⟩
     ·exact⟨.ret (-1),K2 (hb.trans (by rw[hneg,Bo (by decide)])),by rw[hneg];rfl⟩
     ·obtain⟨o,ho1,ho2⟩:=PZ hA hn L (K1 v (i+1)) (x+1) c.fStr (by omega) hle (by omega) (by omega) (λj hj=>hg j (by omega)) (by omega);exact⟨o,OH (hb.trans (by rw[Bg (AeZ (by omega)),AX (by omega) (by omega)])) ho1,by rw[ho2,show(n-(x+1)).toNat=k from by omega,Afa (show(0:Int)<x+1 from by omega),AeZ (by omega)];rfl⟩
theorem TY {i:Int}{c:Ab}{r:List Ab}(h0:0≤i)(hd:v.drop i.toNat=c::r)(hp:pl c=true):K1 v i=Nl (decide (c.fKind=6)) none v (i+1) c.fN.toNat:=by
 have g2:=(CB h0 hd).2.1;have hN:=Abg hp;unfold K1 Nl;rw[hd,J5,g2,hp];simp only[Afe,Afc]
 cases hn:decide (0<c.fN) with
 | true=>
  simp only[Afi]
  cases hq:Qa (decide (c.fKind=6)) none c.fN.toNat r with
  | none=>rfl
  | some q=>
   obtain⟨kids,zs⟩:=q;simp only[Fo.flat,BS,AfV,Afk,AfO];omega
 | false=>
  simp only[AeY] at hn;rw[show c.fN.toNat=0 from by omega,NT];simp[Fo.flat,BS]
theorem TD (hA:RfA (M+1) M v)(hN:∀c∈v,c.fN≤9223372036854775807):∀(d F:Nat) (i:Int),0≤i→i≤v.length→v.length-i.toNat=d→M+2*d+3<F→Ei F v i=some (K1 v i):=by
 have hM:=hA.hM;have hvM:=hA.hv;intro d
 induction d using Nat.strongRecOn with
 | ind d ih=>
  intro F i h0 h1 hd hF;obtain⟨F,rfl⟩:∃G,F=G+1:=⟨F-1,by omega⟩
  obtain⟨F,rfl⟩:∃G,F=G+1:=⟨F-1,by omega⟩
  rw[Ei];unfold So
  cases hdr:v.drop i.toNat with
  | nil=>
   have hl:v.length≤i.toNat:=by simpa using hdr
   rw[Bo (by simp;omega)];simp[K1,hdr,TI]
  | cons c r=>
   obtain⟨g1,g2,g3⟩:=CB h0 hdr;have hcM:=hA.hc c (Afp g1);have hcN:=hN c (Afp g1);rw[Bg (by simp;omega),Bh h0 g3,DN h0 hdr];simp only[XS _ h0 (show i≤1152921504606846976 by omega),Option.isSome_some,ov,Af5,imp,Afv,Cr (x:=_) (rfl:true=true)];have hg:∀j,i+1≤j→j≤v.length→Ei F v j=some (K1 v j):=λj hj hj2=>ih (v.length-j.toNat) (by omega) F j (by omega) hj2 rfl (by omega);have hpl0:pl c=false→K1 v i = -1:=λhp=>by simp[K1,hdr,J5,hp]
   have hleaf:pl c=true→c.fN=0→K1 v i=i+1:=λhp h0'=>by simp[K1,hdr,J5,hp,h0',Fo.flat,BS]
   have hscal:∀b:Bool,pl c=b→(b=true→c.fN=0)→K1 v i=bif b then i+1 else -1:=λb hb hz=>by
    cases b
    ·exact hpl0 hb
    ·exact hleaf hb (hz rfl)
   by_cases k1:c.fKind=1
   ·rw[Bo (by simp[k1])];have hp:pl c=(decide (c.fInt=0)&&(decide (c.fStr=[])&&decide (c.fN=0))):=by simp[pl,k1]
    rw[hscal _ hp (λh=>by simp at h;exact h.2.2)]
    cases decide (c.fInt=0)<;>cases decide (c.fStr=[])<;>cases decide (c.fN=0)<;>rfl
   rw[Bg (by simp[k1])]
   by_cases k2:c.fKind=2
   ·rw[Bo (by simp[k2])];have hp:pl c=((decide (c.fInt=0)||decide (c.fInt=1))&&(decide (c.fStr=[])&&decide (c.fN=0))):=by simp[pl,k2]
    rw[hscal _ hp (λh=>by simp at h;exact h.2.2)]
    cases decide (c.fInt=0)<;>cases decide (c.fInt=1)<;>cases decide (c.fStr=[])<;>cases decide (c.fN=0)<;>rfl
   rw[Bg (by simp[k2])]
   by_cases k3:c.fKind=3
   ·rw[Bo (by simp[k3])];have hp:pl c=(decide (c.fStr=[])&&decide (c.fN=0)):=by simp[pl,k3]
    rw[hscal _ hp (λh=>by simp at h;exact h.2)]
    cases decide (c.fStr=[])<;>cases decide (c.fN=0)<;>rfl
   rw[Bg (by simp[k3])]
   by_cases k4:c.fKind=4
   ·rw[Bo (by simp[k4]),Wy (by omega) (by omega),BQ rfl,BQ rfl];rw[Afa k4,Afo,hscal (pl c) rfl (λhp=>by have:=(Ss hp k4).1;rw[this])]
   rw[Bg (by simp[k4])]
   by_cases k5:c.fKind=5
   ·have hp:pl c=(decide (c.fInt=0)&&(decide (c.fStr=[])&&decide (0≤c.fN))):=by simp[pl,k5]
    rw[show(decide (c.fKind=5)&&(decide (c.fInt=0)&&(decide (c.fStr=[])&&decide (0≤c.fN))))=pl c from by rw[hp,Afa k5,Afo]];have k5' : ¬ c.fKind=6:=by omega
    cases hb:pl c with
    | false=>rw[Bg rfl,Bg (by simp[k5]),hpl0 hb]
    | true=>
     have hn0:=Abg hb;rw[Bo rfl,AX (by omega) (by omega),Ij];unfold Ke;obtain⟨o,ho1,ho2⟩:=LT (F:=F) ⟨hM,hvM,by omega,hA.hc⟩ hcN F (i+1) 0 (by omega) (by omega) (Afz 0) hn0 hg (by omega);rw[BQ ho1,ho2,BQ rfl,TY h0 hdr hb,AeZ k5',Int.sub_zero]
   rw[Bg (by simp[k5])]
   by_cases k6:c.fKind=6
   ·have hp:pl c=(decide (c.fInt=0)&&(decide (c.fStr=[])&&decide (0≤c.fN))):=by simp[pl,k6]
    rw[show(decide (c.fKind=6)&&(decide (c.fInt=0)&&(decide (c.fStr=[])&&decide (0≤c.fN))))=pl c from by rw[hp,Afa k6,Afo]]
    cases hb:pl c with
    | false=>rw[Bg rfl,hpl0 hb]
    | true=>
     have hn0:=Abg hb;rw[Bo rfl,AX (by omega) (by omega),NR];unfold Pm;obtain⟨o,ho1,ho2⟩:=PZ (F:=F) ⟨hM,hvM,by omega,hA.hc⟩ hcN F (i+1) 0 [] (by omega) (by omega) (Afz 0) hn0 hg (by omega);rw[BQ ho1,ho2,BQ rfl,TY h0 hdr hb,Afa k6,Int.sub_zero];rfl
   ·rw[Bg (by simp[k6]),hpl0 (by simp[pl,k1,k2,k3,k4,k5,k6])]
theorem Vy (hA:RfA (M+1) M v)(hN:∀c∈v,c.fN≤9223372036854775807){F:Nat}(hF:3*M+3<F):Ne F v=some (decide (K1 v 0=v.length)):=by
 have hvM:=hA.hv;unfold Ne;rw[TD hA hN v.length F 0 (Afz 0) (by omega) (by simp) (by omega)];simp only[imp,Option.isSome_some,Afv,Cr,ov,Af5]
 cases v with
 | nil=>simp[K1,TI]
 | cons c r=>
  rw[show decide (0<((c::r).length:Int))=true from by simp,Afo]
  first | done | rfl
end
theorem W0 {m:Bool}{last key:Option Ah}{r:List Ab}(h:CL m last key=true):Kf m last (BS key++r)=some (key,r):=by
 cases key with
 | none=>
  have:m=false:=by simpa[CL] using h
  subst this;rfl
 | some s=>
  have h':=h;simp only[CL,Afb] at h;obtain⟨⟨h1,h2⟩,h3⟩:=h;subst h1;have hp:pl ⟨4,0,s,0⟩=true:=by simp[pl,h2]
  show(bif pl ⟨4,0,s,0⟩&&decide ((4:Int)=4)&&CL true last (some s) then _ else _)=_;rw[hp,h'];rfl
theorem Po:∀(f:Fo) (m:Bool) (last:Option Ah) (ys:List Ab),f.wf m last=true→Qa m last f.cnt (f.flat++ys)=some (f,ys)
 | .nil,_,_,_,_=>rfl
 | .cell k c r,m,last,ys,hw=>by
  simp only[Fo.wf,Afb,Af0] at hw;obtain⟨⟨⟨w1,w2⟩,w3⟩,w4⟩:=hw;simp only[Fo.cnt,Fo.flat,AfG,AfL];rw[Ik,W0 w1];simp only[J5,w2,w3,Afe,Afc,Po r m k ys w4,Fo.put]
 | .node k c kids r,m,last,ys,hw=>by
  simp only[Fo.wf,Afb,AeX] at hw;obtain⟨⟨⟨⟨⟨w1,w2⟩,w3⟩,w5⟩,w6⟩,w4⟩:=hw;simp only[Fo.cnt,Fo.flat,AfG,AfL];rw[Ik,W0 w1];have e:c.fN.toNat=kids.cnt:=by omega
  simp only[J5,w2,Afa w3,Afe,Afc,Afi,e,Po kids _ none (r.flat++ys) w6,Po r m k ys w4,Fo.put]
theorem Abd {f:Fo}{ys:List Ab}(h1:f.one=true)(hw:f.wf false none=true):J6 (f.flat++ys)=some (f,ys):=by
 have:=Po f false none ys hw;have hc:f.cnt=1:=by
  cases f with
  | nil=>cases h1
  | cell k c r=>cases k with
   | some _=>cases h1
   | none=>cases r with
    | nil=>rfl
    | _=>cases h1
  | node k c kids r=>cases k with
   | some _=>cases h1
   | none=>cases r with
    | nil=>rfl
    | _=>cases h1
 rw[hc] at this;exact this
structure Gh (M:Nat) (v:List Ab):Prop where
 hM:M≤1000000000
 hv:v.length≤M
 hc:∀c∈v,c.fStr.length≤M∧BM .i64 c.fInt=true∧c.fN≤9223372036854775807
theorem Gh.lk {M F:Nat}{v:List Ab}(h:Gh M v)(hF:M<F):Xk F M v:=⟨by have:=h.hM;omega,by have:=h.hM;omega,h.hv,hF,h.hc⟩
theorem Gh.rf {M F:Nat}{v:List Ab}(h:Gh M v)(hF:M<F):RfA F M v:=⟨by have:=h.hM;omega,h.hv,hF,λc hc=>(h.hc c hc).1⟩
theorem Gh.drop {M:Nat}{v:List Ab}(h:Gh M v)(k:Nat):Gh M (v.drop k):=⟨h.hM,by have:=h.hv;rw[AfJ];omega,λc hc=>h.hc c (List.mem_of_mem_drop hc)⟩
theorem Gh.take {M:Nat}{v:List Ab}(h:Gh M v)(k:Nat):Gh M (v.take k):=⟨h.hM,by have:=h.hv;rw[AfS];omega,λc hc=>h.hc c (List.mem_of_mem_take hc)⟩
def whole (v:List Ab):Option Fo:=match J6 v with
 | some (f,[])=>some f
 | _=>none
theorem Mj {v:List Ab}{f:Fo}(h:whole v=some f):v=f.flat∧f.wf false none=true∧f.one=true:=by
 unfold whole at h
 cases hp:J6 v with
 | none=>rw[hp] at h;cases h
 | some q=>
  obtain⟨g,ys⟩:=q;rw[hp] at h
  cases ys with
  | cons _ _=>cases h
  | nil=>
   cases h
   obtain⟨h1,h2,h3⟩:=L5 hp;exact⟨by simpa using h1,h2,h3⟩
def Pa (f:Fo):Int:=
 bif f.flat.any KP then 2 else bif f.flat.any JF||(decide (200<f.flat.length)||(decide (8<f.dep)||decide (4000<(f.txt true).length))) then 3 else 0
def EU (v:List Ab):Int:=match whole v with
 | none=>1
 | some f=>Pa f
theorem Su {f:Fo}(h1:f.one=true):f.cnt=1:=by
 cases f with
 | nil=>cases h1
 | cell k c r=>cases k with
  | some _=>cases h1
  | none=>cases r with
   | nil=>rfl
   | _=>cases h1
 | node k c kids r=>cases k with
  | some _=>cases h1
  | none=>cases r with
   | nil=>rfl
   | _=>cases h1
theorem Sr (s:Ah):NS s≤2*s.length+2+s.length:=by
 have h1:s.count 34≤s.length:=List.count_le_length;have h2:s.count 92≤s.length:=List.count_le_length;unfold NS;omega
theorem AcW {c:Ab}{M:Nat}(hp:pl c=true)(hs:c.fStr.length≤M)(hi:(Lib.itoa c.fInt).length≤21):Y9 c≤3*M+21:=by
 have:=Sr c.fStr;unfold Y9
 cases h1:decide (c.fKind=1) with
 | true=>simp only[Afi];omega
 | false=>
  cases h2:decide (c.fKind=2) with
  | true=>
   simp[pl,h1,h2] at hp;simp only[Afc,Afi];omega
  | false=>
   cases h3:decide (c.fKind=3) with
   | true=>simp only[Afc,Afi];omega
   | false=>cases h4:decide (c.fKind=4)<;>simp only[Afc,Afi]<;>omega
theorem SN {M:Nat}:∀{f:Fo} {m:Bool} {l:Option Ah},f.wf m l=true→(∀c∈f.flat,c.fStr.length≤M∧BM .i64 c.fInt=true∧c.fN≤9223372036854775807)→f.byt+f.cnt≤(3*M+24)*f.flat.length
 | .nil,_,_,_,_=>by simp[Fo.byt,Fo.flat,Fo.cnt]
 | .cell k c r,m,l,hw,hc=>by
  simp only[Fo.wf,Afb,Af0] at hw;obtain⟨⟨⟨w1,w2⟩,w3⟩,w4⟩:=hw;simp only[Fo.flat] at hc;have ih:=SN w4 (λx hx=>hc x (by simp[hx]));obtain⟨c1,c2,c3⟩:=hc c (by simp);have i64:=IW c2;have hl:=AcW w2 c1 (Lib.itoa_length_le c.fInt i64.1 i64.2);have hk:S9 k≤(3*M+24)*(BS k).length:=by
   cases k with
   | none=>simp[S9,BS]
   | some s=>
    have:=(hc ⟨4,0,s,0⟩ (by simp[BS])).1;have h2:=Sr s;simp only at this;simp only[S9,BS,Af2];omega
  simp only[Fo.byt,Fo.flat,Fo.cnt,Afg,Afk];have e:((3*(M:Int)+24)*(((BS k).length+(r.flat.length+1):Nat):Int))=(3*(M:Int)+24)*(BS k).length+((3*(M:Int)+24)*r.flat.length+(3*(M:Int)+24)):=by
   push_cast;rw[Int.mul_add,Int.mul_add,Int.mul_one]
  rw[e]
  push_cast at *
  omega
 | .node k c kids r,m,l,hw,hc=>by
  simp only[Fo.wf,Afb,AeX] at hw;obtain⟨⟨⟨⟨⟨w1,w2⟩,w3⟩,w5⟩,w6⟩,w4⟩:=hw;simp only[Fo.flat] at hc;have ih:=SN w4 (λx hx=>hc x (by simp[hx]));have ih2:=SN w6 (λx hx=>hc x (by simp[hx]));have hcf:=CJ kids;have hk:S9 k≤(3*M+24)*(BS k).length:=by
   cases k with
   | none=>simp[S9,BS]
   | some s=>
    have:=(hc ⟨4,0,s,0⟩ (by simp[BS])).1;have h2:=Sr s;simp only at this;simp only[S9,BS,Af2];omega
  simp only[Fo.byt,Fo.flat,Fo.cnt,Afg,Afk];have e:((3*(M:Int)+24)*(((BS k).length+(kids.flat.length+r.flat.length+1):Nat):Int))=(3*(M:Int)+24)*(BS k).length+((3*(M:Int)+24)*kids.flat.length+(3*(M:Int)+24)*r.flat.length+(3*(M:Int)+24)):=by
   push_cast;rw[Int.mul_add,Int.mul_add,Int.mul_add,Int.mul_one]
  rw[e]
  push_cast at *
  omega
theorem Ot {M:Nat}(hM:M≤2000000){f:Fo}{m:Bool}{l:Option Ah}(hw:f.wf m l=true)(hl:f.flat.length≤M)(hc:∀c∈f.flat,c.fStr.length≤M∧BM .i64 c.fInt=true∧c.fN≤9223372036854775807):f.byt≤16000000000000:=by
 have:=SN (M:=M) hw hc;have h2:(3*M+24)*f.flat.length≤(3*2000000+24)*2000000:=Nat.mul_le_mul (by omega) (by omega);have h3:(((3*M+24)*f.flat.length:Nat):Int)=(3*(M:Int)+24)*f.flat.length:=by push_cast;rfl
 omega
theorem Rt {M F:Nat}{v:List Ab}(hA:Gh M v)(hM:M≤2000000)(hF:M<F):JX F v=some (EU v):=by
 unfold JX EU whole;have hvM:=hA.hv;rcases Ab1 (hA.lk hF) with⟨f,ys,hp,hl⟩ | ⟨hp,sh',hl⟩
 ·rw[hl,BQ rfl,hp];obtain⟨h1,h2,h3⟩:=L5 hp;have hlen:v.length=f.flat.length+ys.length:=by rw[h1];simp
  cases ys with
  | cons c r=>
   rw[Bo];simp only[Afk] at hlen;simp;omega
  | nil=>
   simp only[AfM,Nat.add_zero] at hlen;rw[Bg (by simp[hlen])];have hc:∀c∈f.flat,c.fStr.length≤M∧BM .i64 c.fInt=true∧c.fN≤9223372036854775807:=λc hc=>hA.hc c (by rw[h1];simp[hc]);have hb:=Ot hM h2 (by omega) hc;have hb0:=Jb h2;have e1:(f.sh 0 PO).fOutside=f.flat.any KP:=by rw[Sg];rfl
   have e2:(f.sh 0 PO).fLong=f.flat.any JF:=by rw[Pi];rfl
   have e3:(f.sh 0 PO).fDepth=f.dep:=by rw[MU f 0 PO (by simp[PO])];simp[PO]
   have e4:(f.sh 0 PO).fBytes=(f.txt true).length:=by
    rw[MV f false none 0 PO h2 (by simp[PO]) (by simp[PO];omega),Ka f false none true h2,Su h3];simp[PO]
   simp only;rw[e1,e2,e3,e4,hlen];unfold Pa
   cases f.flat.any KP with
   | true=>rw[Bo rfl];rfl
   | false=>
    rw[Bg rfl];have a1:decide ((200:Int)<(f.flat.length:Int))=decide (200<f.flat.length):=by rw[AfB];simp;omega
    have a2:decide ((8:Int)<(f.dep:Int))=decide (8<f.dep):=by rw[AfB];simp;omega
    have a3:decide ((4000:Int)<((f.txt true).length:Int))=decide (4000<(f.txt true).length):=by rw[AfB];simp;omega
    rw[a1,a2,a3]
    cases(f.flat.any JF||(decide (200<f.flat.length)||(decide (8<f.dep)||decide (4000<(f.txt true).length))))<;>rfl
 ·rw[hl,BQ rfl,hp];rfl
theorem S0 {v:List Ab}{p:Int}{f:Fo}{ys:List Ab}(h1:f.one=true)(hw:f.wf false none=true)(hd:v.drop p.toNat=f.flat++ys):K1 v p=p+f.flat.length:=by
 unfold K1;rw[hd,Abd h1 hw]
theorem RZ {c:Ab}(hp:pl c=true)(hn:decide (0<c.fN)=false):(Fo.cell none c .nil).wf false none=true:=by simp[Fo.wf,CL,hp,hn]
theorem RY {c:Ab}{kids:Fo}(hp:pl c=true)(hn:0<c.fN)(hk:c.fN=kids.cnt)(hw:kids.wf (decide (c.fKind=6)) none=true):(Fo.node none c kids .nil).wf false none=true:=by simp[Fo.wf,CL,hp,hn,hk,hw];omega
section
variable {M : Nat} {v : List Ab}
theorem Gh.next (hA:Gh M v){F:Nat}(hF:3*M+3<F){p:Int}(h0:0≤p)(h1:p≤v.length):Ei F v p=some (K1 v p):=by
 have hM:=hA.hM;have hvM:=hA.hv;exact TD (hA.rf (Afh M)) (λc hc=>(hA.hc c hc).2.2) (v.length-p.toNat) F p h0 h1 rfl (by omega)
theorem Nd {F:Nat}{p:Int}{c:Ab}{r:List Ab}(h0:0≤p)(hpM:p≤1152921504606846976)(hd:v.drop p.toNat=c::r)(hp:pl c=true)(hn:decide (0<c.fN)=false):D7 (F+2) v p=some 1:=by
 obtain⟨g1,g2,g3⟩:=CB h0 hd;rw[D7];unfold J1;rw[Bh h0 g3,DN h0 hd]
 cases hk:(!decide (c.fKind=5)&&!decide (c.fKind=6)) with
 | true=>rw[Bo rfl]
 | false=>
  rw[Bg rfl,AX (by omega) (by omega),BQ (K2 (o:=.go 0) (by
   show Dl (F+1) v p _ 0 (p+1) 0=_;unfold Dl;rw[DN h0 hd,Bg hn]))]
  simp only[Cf,EK];rw[AX (by omega) (by omega)];rfl
theorem R1 {F:Nat}{i:Int}{rec:List Ab→Int→Option Int}{most at_ x L:Int}{m:Bool}{p q:Int}{pc:Ab}(hpc:Ao v i=pc)(hm:decide (pc.fKind=6)=m)(hx:x<pc.fN)(hx0:0≤x)(hpcN:pc.fN≤9223372036854775807)
  (ha0:0≤at_) (haM:at_≤1152921504606846976) (hp:p=bif m then at_+1 else at_) (hr:rec v p=some L) (hq:Ei F v p=some q):Dl F v i rec most at_ x=some (.next (max most L,q,x+1)):=by
 unfold Dl;rw[hpc,Bo (by simpa using hx),hm]
 cases m with
 | true=>
  simp only[Afi] at hp;rw[Bo rfl,AX (by omega) (by omega),← hp,hr,BQ rfl]
  cases hl:decide (most<L) with
  | true=>rw[Bo rfl,hq,BQ rfl,AX (by omega) (by omega),Int.max_eq_right (by simp at hl;omega)]
  | false=>rw[Bg rfl,hq,BQ rfl,AX (by omega) (by omega),Int.max_eq_left (by simp at hl;omega)]
 | false=>
  simp only[Afc] at hp;rw[Bg rfl,← hp,hr,BQ rfl]
  cases hl:decide (most<L) with
  | true=>rw[Bo rfl,hq,BQ rfl,AX (by omega) (by omega),Int.max_eq_right (by simp at hl;omega)]
  | false=>rw[Bg rfl,hq,BQ rfl,AX (by omega) (by omega),Int.max_eq_left (by simp at hl;omega)]
theorem Nt {m:Bool}{last key:Option Ah}(h:CL m last key=true):((BS key).length:Int)=bif m then 1 else 0:=by
  cases key with
  | none=>
            have:m=false:=by simpa[CL] using h
            subst this;rfl
  | some s=>simp only[CL,Afb] at h;rw[h.1.1];rfl
theorem TE (hA:Gh M v):∀(g:Fo) (F L:Nat) (i at_ x most:Int) (m:Bool) (last:Option Ah) (ys:List Ab) (pc:Ab),Ao v i=pc→decide (pc.fKind=6)=m→pc.fN≤9223372036854775807→g.wf m last=true→v.drop at_.toNat=g.flat++ys→0≤at_→at_≤v.length→pc.fN=x+g.cnt→0≤x→0≤most→most≤1152921504606846976→g.cnt<L→3*M+5+g.flat.length<F→
  ∃o,Cj (λσ=>Dl F v i (D7 F) σ.1 σ.2.1 σ.2.2) L (most,at_,x)=some o∧Cf (λν=>EK ν) o=some (max most (g.dep:Int)+1):=by
 have hM:=hA.hM;have hvM:=hA.hv;have fin:∀(F L:Nat) (i at_ x most:Int) (pc:Ab),Ao v i=pc→pc.fN≤x→0≤most→most≤1152921504606846976→0<L→∃o,Cj (λσ=>Dl F v i (D7 F) σ.1 σ.2.1 σ.2.2) L (most,at_,x)=some o∧Cf (λν=>EK ν) o=some (most+1):=λF L i at_ x most pc hpc hx h0 hb hL=>by
  obtain⟨L,rfl⟩:∃K,L=K+1:=⟨L-1,by omega⟩
  refine⟨.go most,K2 (by show Dl F v i _ most at_ x=_;unfold Dl;rw[hpc,Bg (by simp;omega)]),?_⟩;simp only[Cf,EK];rw[AX (by omega) (by omega)]
 have depM:∀g:Fo,g.dep≤g.flat.length:=by
  intro g
  induction g with
  | nil=>simp[Fo.dep]
  | cell k c r ih=>simp[Fo.dep,Fo.flat];omega
  | node k c kids r ih1 ih2=>simp[Fo.dep,Fo.flat];omega
 intro g
 induction g with
 | nil=>
  intro F L i at_ x most m last ys pc hpc hm hpN hw hd h0 h1 hN hx hmo hmM hL hF;obtain⟨o,h1,h2⟩:=fin F L i at_ x most pc hpc (by simp[Fo.cnt] at hN;omega) hmo hmM (by omega);exact⟨o,h1,by rw[h2];simp only[Fo.dep];congr 2<;>omega⟩
 | cell k c r ih=>
  intro F L i at_ x most m last ys pc hpc hm hpN hw hd h0 h1 hN hx hmo hmM hL hF;simp only[Fo.wf,Afb,Af0] at hw;obtain⟨⟨⟨w1,w2⟩,w3⟩,w4⟩:=hw;simp only[Fo.flat,AfG,AfL] at hd;simp only[Fo.cnt] at hN hL;simp only[Fo.flat,Afg,Afk] at hF;obtain⟨L,rfl⟩:∃K,L=K+1:=⟨L-1,by omega⟩
  obtain⟨F,rfl⟩:∃K,F=K+2:=⟨F-2,by omega⟩
  have hd1:=CW h0 hd;have hkl:=Nt w1;obtain⟨g1,g2,g3⟩:=CB (by omega) hd1;have hlen:at_+(BS k).length=bif m then at_+1 else at_:=by rw[hkl];cases m<;>simp
  have hq:=hA.next (F:=F+2) (by omega) (p:=at_+(BS k).length) (by omega) (by omega);rw[S0 (f:=.cell none c .nil) (ys:=r.flat++ys) rfl (RZ w2 w3) hd1] at hq;have hb:=R1 (most:=most) (x:=x) hpc hm (by omega) hx hpN h0 (by omega) hlen (Nd (F:=F) (by omega) (by omega) hd1 w2 w3) hq;have hdd:=depM r;obtain⟨o,ho1,ho2⟩:=ih (F+2) L i (at_+(BS k).length+((Fo.cell none c .nil).flat.length:Int)) (x+1) (max most 1) m k ys pc hpc hm hpN w4 (by rw[show(Fo.cell none c .nil).flat.length=1 from rfl];exact g2) (by omega) (by rw[show(Fo.cell none c .nil).flat.length=1 from rfl];omega) (by omega) (by omega) (by omega) (by omega) (by omega) (by omega);refine⟨o,OH hb ho1,?_⟩;rw[ho2,Fo.dep];congr 2<;>omega
 | node k c kids r ihk ih=>
  intro F L i at_ x most m last ys pc hpc hm hpN hw hd h0 h1 hN hx hmo hmM hL hF;simp only[Fo.wf,Afb,AeX] at hw;obtain⟨⟨⟨⟨⟨w1,w2⟩,w3⟩,w5⟩,w6⟩,w4⟩:=hw;simp only[Fo.flat,AfG,AfL] at hd;simp only[Fo.cnt] at hN hL;simp only[Fo.flat,Afg,Afk] at hF;obtain⟨L,rfl⟩:∃K,L=K+1:=⟨L-1,by omega⟩
  obtain⟨F,rfl⟩:∃K,F=K+1:=⟨F-1,by omega⟩
  have hd1:=CW h0 hd;have hkl:=Nt w1;obtain⟨g1,g2,g3⟩:=CB (by omega) hd1;have hcN:=(hA.hc c (Afp g1)).2.2;have hlen:at_+(BS k).length=bif m then at_+1 else at_:=by rw[hkl];cases m<;>simp
  have hq:=hA.next (F:=F+1) (by omega) (p:=at_+(BS k).length) (by omega) (by omega);have hfl:(Fo.node none c kids .nil).flat=c::kids.flat:=by simp[Fo.flat,BS]
  rw[S0 (f:=.node none c kids .nil) (ys:=r.flat++ys) rfl (RY w2 w3 w5 w6) (by rw[hd1,hfl];simp)] at hq;have hdk:=depM kids;have hdd:=depM r;have hcf:=CJ kids;have hvl:(v.drop (at_+(BS k).length+1).toNat).length=kids.flat.length+(r.flat.length+ys.length):=by rw[g2];simp
  rw[AfJ] at hvl;have hrec:D7 (F+1) v (at_+(BS k).length)=some ((kids.dep:Int)+1):=by
   rw[D7];unfold J1;rw[Bh (by omega) g3,DN (by omega) hd1];have he:=(Kg w2 w3).1;rw[Bg (by simp;omega),AX (by omega) (by omega)];obtain⟨o,ho1,ho2⟩:=ihk F F (at_+(BS k).length) (at_+(BS k).length+1) 0 0 _ none (r.flat++ys) c (DN (by omega) hd1) rfl hcN w6 (by rw[g2]) (by omega) (by omega) (by omega) (Afz 0) (Afz 0) (by omega) (by omega) (by omega);rw[BQ ho1,ho2];congr 2<;>omega
  have hb:=R1 (most:=most) (x:=x) hpc hm (by omega) hx hpN h0 (by omega) hlen hrec hq;obtain⟨o,ho1,ho2⟩:=ih (F+1) L i (at_+(BS k).length+((Fo.node none c kids .nil).flat.length:Int)) (x+1) (max most ((kids.dep:Int)+1)) m k ys pc hpc hm hpN w4 (by
   have:=CW (by omega) g2;rw[hfl,Afk,show at_+(BS k).length+((kids.flat.length+1:Nat):Int)=at_+(BS k).length+1+kids.flat.length from by omega];exact this) (by omega) (by rw[hfl,Afk];omega) (by omega) (by omega) (by omega) (by omega) (by omega) (by omega)
  refine⟨o,OH hb ho1,?_⟩;rw[ho2,Fo.dep];congr 2<;>omega
theorem Vx (hA:Gh M v){F:Nat}{p:Int}{f:Fo}{ys:List Ab}(h0:0≤p)(h1:f.one=true)(hw:f.wf false none=true)(hd:v.drop p.toNat=f.flat++ys)(hF:3*M+6+f.flat.length<F):D7 F v p=some (f.dep:Int):=by
 have hM:=hA.hM;have hvM:=hA.hv
 cases f with
 | nil=>cases h1
 | cell k c r=>
  cases k with
  | some s=>cases h1
  | none=>
   cases r with
   | nil=>
    simp only[Fo.wf,Afb,Af0] at hw;obtain⟨F,rfl⟩:∃K,F=K+2:=⟨F-2,by omega⟩
    have hd':v.drop p.toNat=c::ys:=by simpa[Fo.flat,BS] using hd
    rw[Nd h0 (by have:=(CB h0 hd').2.2;omega) hd' hw.1.1.2 hw.1.2];rfl
   | cell _ _ _=>cases h1
   | node _ _ _ _=>cases h1
 | node k c kids r=>
  cases k with
  | some s=>cases h1
  | none=>
   cases r with
   | nil=>
    simp only[Fo.wf,Afb,AeX] at hw;obtain⟨⟨⟨⟨⟨w1,w2⟩,w3⟩,w5⟩,w6⟩,w4⟩:=hw;have hd':v.drop p.toNat=c::(kids.flat++ys):=by simpa[Fo.flat,BS] using hd
    obtain⟨g1,g2,g3⟩:=CB h0 hd';have hcN:=(hA.hc c (Afp g1)).2.2;have hcf:=CJ kids;simp only[Fo.flat,BS,AfV,AfO,Afk] at hF;obtain⟨F,rfl⟩:∃K,F=K+1:=⟨F-1,by omega⟩
    rw[D7];unfold J1;have hb:=(Kg w2 w3).1;rw[Bh h0 g3,DN h0 hd',Bg (by simp;omega),AX (by omega) (by omega)];obtain⟨o,ho1,ho2⟩:=TE hA kids F F p (p+1) 0 0 _ none ys c (DN h0 hd') rfl hcN w6 g2 (by omega) (by omega) (by omega) (Afz 0) (Afz 0) (by omega) (by omega) (by omega);rw[BQ ho1,ho2];simp only[Fo.dep];congr 1<;>omega
   | cell _ _ _=>cases h1
   | node _ _ _ _=>cases h1
end
def OZ (c:UInt8):Ah:=bif (decide (c=34)||decide (c=92)) then[92,c] else[c]
theorem Ok {s:Ah}{k:Nat}{c:UInt8}(h:s[k]? =some c):HD (s.take (k+1))=HD (s.take k)++OZ c:=by
 rw[List.take_add_one,h];simp[HD,List.flatMap_append,OZ]
theorem UF (s:Ah):(HD s).length≤3*s.length:=by
 rw[N8];have h1:s.count 34≤s.length:=List.count_le_length;have h2:s.count 92≤s.length:=List.count_le_length;omega
theorem Vl {s:Ah}{x:Int}{c:UInt8}(h0:0≤x)(h:s[x.toNat]? =some c):List.take (Int.toNat (x+1)-Int.toNat x) (List.drop (Int.toNat x) s)=[c]:=by
 have hl:=(List.getElem?_eq_some_iff.1 h).1;have hc:=(List.getElem?_eq_some_iff.1 h).2;rw[show Int.toNat (x+1)-Int.toNat x=1 from by omega,List.drop_eq_getElem_cons hl,hc];rfl
theorem Acv {s:Ah}{x:Int}{c:UInt8}(h:s[x.toNat]? =some c):decide (Cs s x=34)=decide (c=34):=by
 rw[Pw h,AfB,decide_eq_true_iff,decide_eq_true_iff,← UInt8.toNat_inj];show _↔c.toNat=34;omega
theorem Acu {s:Ah}{x:Int}{c:UInt8}(h:s[x.toNat]? =some c):decide (Cs s x=92)=decide (c=92):=by
 rw[Pw h,AfB,decide_eq_true_iff,decide_eq_true_iff,← UInt8.toNat_inj];show _↔c.toNat=92;omega
theorem Sm {s out:Ah}{x:Int}{c:UInt8}(h0:0≤x)(hx:x<(s.length:Int))(hs:s.length≤1152921504606846976)(ho:out.length≤3*s.length+1)(hc:s[x.toNat]? =some c):D0 s out x=some (.next (out++OZ c,x+1)):=by
 unfold D0 OZ;rw[Bo (Afa hx),Bh h0 hx,Acv hc,Acu hc,Vl h0 hc];have l1:(([92]:Ah).length:Int)=1:=rfl;have l2:(([c]:Ah).length:Int)=1:=rfl
 cases hq:(decide (c=34)||decide (c=92)) with
 | true=>
  have l3:((out++([92]:Ah)).length:Int)=out.length+1:=by rw[Afg,Af2,Int.natCast_add];rfl
  rw[Bo rfl,l1,l2,l3,AX (by omega) (by omega),AX (by omega) (by omega),Df (by omega) (by omega),Df (by omega) (by omega),AX (by omega) (by omega),AfG];rfl
 | false=>
  rw[Bg rfl,l2,AX (by omega) (by omega),Df (by omega) (by omega),Df (by omega) (by omega),AX (by omega) (by omega)];rfl
theorem IP {R V:Type}(K:V→Option R)(v:V):Cf K (.go v)=K v:=rfl
theorem TL {R V:Type}(K:V→Option R)(r:R):Cf K (.ret r)=some r:=rfl
theorem TC {s out:Ah}{x:Int}(hx : ¬ x<(s.length:Int)):D0 s out x=some (.out (.go out)):=by
 unfold D0;rw[Bg (AeZ hx)]
theorem XJ {out:Ah}(h:out.length≤4611686018427387904):Er out=some (out++[34]):=by
 unfold Er;have l1:(([34]:Ah).length:Int)=1:=rfl;rw[l1,AX (by omega) (by omega)]
theorem Mt {F:Nat}{s:Ah}(hF:s.length<F)(hs:s.length≤1152921504606846976):Kd F s=some (HB s):=by
 obtain⟨o,h1,h2⟩:=G0 (body:=λσ=>D0 s σ.1 σ.2) (λσ=>0≤σ.2∧σ.2≤(s.length:Int)∧σ.1=34::HD (s.take σ.2.toNat)) (λσ=>s.length-σ.2.toNat)
  (λo=>Cf (λν=>Er ν) o=some (HB s)) (λσ ⟨h0,hl,ha⟩=>by
   obtain⟨out,x⟩:=σ;simp only at h0 hl ha;show(∃s',D0 s out x=_∧_)∨∃o,D0 s out x=_∧_;have hb:=UF (s.take x.toNat);have hb2:(s.take x.toNat).length≤s.length:=by rw[AfS];omega
   have hol:out.length≤3*s.length+1:=by rw[ha,Afk];omega
   by_cases hx:x<(s.length:Int)
   ·obtain⟨c,hc⟩:∃c,s[x.toNat]? =some c:=⟨s[x.toNat]'(by omega),Aff (by omega)⟩
    have a1:0≤x+1:=by omega
    have a2:x+1≤s.length:=by omega
    have a3:s.length-(x+1).toNat<s.length-x.toNat:=by omega
    have a4:out++OZ c=34::HD (s.take (x+1).toNat):=by rw[show(x+1).toNat=x.toNat+1 from by omega,Ok hc,ha];rfl
    exact .inl ⟨(out++OZ c,x+1),Sm h0 hx hs hol hc,⟨a1,a2,a4⟩,a3⟩
   ·have e:x.toNat=s.length:=by omega
    have hk:Er out=some (out++[34]):=XJ (by omega);have hf:out++[34]=HB s:=by rw[ha,e,AfR];rfl
    exact .inr ⟨.go out,TC hx,(IP (λν=>Er ν) out).trans (hk.trans (congrArg some hf))⟩) F ([34],0) ⟨Afz 0,by show(0:Int)≤s.length;omega,by show([34]:Ah)=34::HD (s.take 0);simp[HD]⟩ (by show s.length-0<F;omega)
 unfold Kd;rw[BQ h1,h2]
section
variable {M : Nat} {v : List Ab}
theorem Aed (a b c d e:Ah):(((a++b)++c)++d)++e=a++(b++(c++d)++e):=by simp
theorem Aee (a b c d:Ah):((a++b)++c)++d=a++([]++(b++c)++d):=by simp
theorem Aef (a b c:Ah):(a++b)++c=a++(b++[]++c):=by simp
theorem Aeg (a b:Ah):a++b=a++([]++[]++b):=by simp
theorem Ab3 (a:Ah)(c:UInt8):((a++[c]).length:Int)=a.length+1:=by rw[Afg,Af2,Int.natCast_add];rfl
theorem Um (a b:Ah):((a++b).length:Int)=a.length+b.length:=by rw[Afg,Int.natCast_add]
theorem Rz {F:Nat}{i:Int}{rec:List Ab→Int→Option Ah}{out tx:Ah}{at_ x:Int}{m:Bool}{p q:Int}{pc:Ab}{key:Option Ah}{last:Option Ah}(hpc:Ao v i=pc)(hm:decide (pc.fKind=6)=m)(hx:x<pc.fN)(hx0:0≤x)(hpcN:pc.fN≤9223372036854775807)
  (ha0:0≤at_) (haM:at_<v.length) (hvM:(v.length:Int)≤1152921504606846976) (hk:CL m last key=true) (hkey:∀s,key=some s→(Ao v at_).fStr=s∧s.length<F∧s.length≤1152921504606846976) (hp:p=bif m then at_+1 else at_) (hr:rec v p=some tx) (hq:Ei F v p=some q)
  (hlen:((out++(EG (decide (x=0))++KE key++tx)).length:Int)≤4611686018427387904):EJ F v i rec out at_ x=some (.next (out++(EG (decide (x=0))++KE key++tx),q,x+1)):=by
 have hd:(([44]:Ah).length:Int)=1:=rfl;have he:(([58]:Ah).length:Int)=1:=rfl;have hx1:Bl (BM .i64 (x+1)) (some (Stp.next (out++(EG (decide (x=0))++KE key++tx),q,x+1)):Option (Stp (Ah×Int×Int) (Out Ah Ah)))=some (Stp.next (out++(EG (decide (x=0))++KE key++tx),q,x+1)):=AX (by omega) (by omega);unfold EJ;rw[hpc,Bo (Afa hx),hm]
 cases hb:decide (x=0) with
 | true=>
  rw[hb] at hx1 hlen;simp only[AeX] at hb;rw[Bg (AeZ (by omega))]
  cases m with
  | true=>
   cases key with
   | none=>simp[CL] at hk
   | some s=>
    obtain⟨e1,e2,e3⟩:=hkey s rfl;simp only[Afi] at hp;have e:((out++HB s)++[58])++tx=out++(EG true++KE (some s)++tx):=Aee _ _ _ _;rw[← e] at hx1 hlen ⊢;have h1:=Um ((out++HB s)++[58]) tx;have h2:=Ab3 (out++HB s) 58;have h3:=Um out (HB s);rw[Bo rfl,Bh ha0 haM,e1,Mt e2 e3,BQ rfl,AX (by omega) (by omega),he,AX (by omega) (by omega),AX (by omega) (by omega),← hp,hr,BQ rfl,AX (by omega) (by omega),hq,BQ rfl,hx1]
  | false=>
   cases key with
   | some s=>simp[CL] at hk
   | none=>
    simp only[Afc] at hp;have e:out++tx=out++(EG true++KE none++tx):=Aeg _ _;rw[← e] at hx1 hlen ⊢;have h1:=Um out tx;rw[Bg rfl,← hp,hr,BQ rfl,AX (by omega) (by omega),hq,BQ rfl,hx1]
 | false=>
  rw[hb] at hx1 hlen;simp only[AeY] at hb;rw[Bo (Afa (by omega))]
  cases m with
  | true=>
   cases key with
   | none=>simp[CL] at hk
   | some s=>
    obtain⟨e1,e2,e3⟩:=hkey s rfl;simp only[Afi] at hp;have e:(((out++[44])++HB s)++[58])++tx=out++(EG false++KE (some s)++tx):=Aed _ _ _ _ _;rw[← e] at hx1 hlen ⊢;have h1:=Um (((out++[44])++HB s)++[58]) tx;have h2:=Ab3 ((out++[44])++HB s) 58;have h3:=Um (out++[44]) (HB s);have h4:=Ab3 out 44;rw[hd,AX (by omega) (by omega),Bo rfl,Bh ha0 haM,e1,Mt e2 e3,BQ rfl,AX (by omega) (by omega),he,AX (by omega) (by omega),AX (by omega) (by omega),← hp,hr,BQ rfl,AX (by omega) (by omega),hq,BQ rfl,hx1]
  | false=>
   cases key with
   | some s=>simp[CL] at hk
   | none=>
    simp only[Afc] at hp;have e:(out++[44])++tx=out++(EG false++KE none++tx):=Aef _ _ _;rw[← e] at hx1 hlen ⊢;have h1:=Um (out++[44]) tx;have h4:=Ab3 out 44;rw[hd,AX (by omega) (by omega),Bg rfl,← hp,hr,BQ rfl,AX (by omega) (by omega),hq,BQ rfl,hx1]
theorem Wx {i:Int}{pc:Ab}{out:Ah}(hpc:Ao v i=pc)(h:out.length≤4611686018427387904):Iy v i out=some (QN pc out):=by
 unfold Iy QN;have l1:(([123]:Ah).length:Int)=1:=rfl;have l2:(([91]:Ah).length:Int)=1:=rfl;have l3:(([125]:Ah).length:Int)=1:=rfl;have l4:(([93]:Ah).length:Int)=1:=rfl;have h1:=Um [123] out;have h2:=Um [91] out;rw[hpc]
 cases hk:decide (pc.fKind=6) with
 | true=>rw[Bo rfl,AX (by omega) (by omega),AX (by omega) (by omega)];rfl
 | false=>rw[Bg rfl,AX (by omega) (by omega),AX (by omega) (by omega)];rfl
theorem PY {F:Nat}{p:Int}{c:Ab}{r:List Ab}(h0:0≤p)(hpM:p≤1152921504606846976)(hd:v.drop p.toNat=c::r)(hp:pl c=true)(hn:decide (0<c.fN)=false)(hs:c.fStr.length<F+1)(hs2:c.fStr.length≤1152921504606846976)(hi:BM .i64 c.fInt=true):HS (F+2) v p=some (GU c):=by
 obtain⟨g1,g2,g3⟩:=CB h0 hd;rw[HS];unfold NP GU;rw[Bh h0 g3,DN h0 hd]
 cases k1:decide (c.fKind=1) with
 | true=>rw[Bo rfl];rfl
 | false=>
 rw[Bg rfl]
 cases k2:decide (c.fKind=2) with
 | true=>rw[Bo rfl];cases decide (c.fInt=1)<;>rfl
 | false=>
 rw[Bg rfl]
 cases k3:decide (c.fKind=3) with
 | true=>rw[Bo rfl,Cr hi];rfl
 | false=>
 rw[Bg rfl]
 cases k4:decide (c.fKind=4) with
 | true=>rw[Bo rfl,Mt hs hs2,BQ rfl];rfl
 | false=>
 have hgo:EJ (F+1) v p (HS (F+1)) [] (p+1) 0=some (.out (.go [])):=by
  unfold EJ;rw[DN h0 hd,Bg hn]
 rw[Bg rfl,AX (by omega) (by omega),BQ (K2 (o:=.go []) hgo),IP,Wx (DN h0 hd) (by simp)];simp only[Afc,QN]
 cases decide (c.fKind=6)<;>rfl
end
section
variable {M : Nat} {v : List Ab}
theorem Es {α:Type}[Inhabited α](a:α):ov (some a)=a:=rfl
theorem ZL {at_:Int}{k:Option Ah}{r:List Ab}(h0:0≤at_)(hA:Gh M v){F:Nat}(hF:M<F)(hd:v.drop at_.toNat=BS k++r):∀s,k=some s→(Ao v at_).fStr=s∧s.length<F∧s.length≤1152921504606846976:=λs e=>by
 subst e;have hd':v.drop at_.toNat=⟨4,0,s,0⟩::r:=by simpa[BS] using hd
 have h1:=DN h0 hd';have h2:=(hA.hc _ (Afp (CB h0 hd').1)).1;have hM:=hA.hM;simp only at h2;exact⟨by rw[h1],by omega,by omega⟩
theorem TB (hA:Gh M v):∀(g:Fo) (F L:Nat) (i at_ x:Int) (out:Ah) (m:Bool) (last:Option Ah) (ys:List Ab) (pc:Ab),Ao v i=pc→decide (pc.fKind=6)=m→pc.fN≤9223372036854775807→g.wf m last=true→v.drop at_.toNat=g.flat++ys→0≤at_→at_≤v.length→pc.fN=x+g.cnt→0≤x→(out++g.txt (decide (x=0))).length≤4611686018427387904→g.cnt<L→3*M+5+g.flat.length<F→
  ∃o,Cj (λσ=>EJ F v i (HS F) σ.1 σ.2.1 σ.2.2) L (out,at_,x)=some o∧Cf (λν=>Iy v i ν) o=some (QN pc (out++g.txt (decide (x=0)))):=by
 have hM:=hA.hM;have hvM:=hA.hv;intro g
 induction g with
 | nil=>
  intro F L i at_ x out m last ys pc hpc hm hpN hw hd h0 h1 hN hx hlen hL hF;obtain⟨L,rfl⟩:∃K,L=K+1:=⟨L-1,by omega⟩
  have hgo:EJ F v i (HS F) out at_ x=some (.out (.go out)):=by
   simp only[Fo.cnt] at hN;unfold EJ;rw[hpc,Bg (AeZ (by omega))]
  refine⟨.go out,K2 hgo,?_⟩;simp only[Fo.txt,AfO] at hlen ⊢;rw[IP,Wx hpc hlen]
 | cell k c r ih=>
  intro F L i at_ x out m last ys pc hpc hm hpN hw hd h0 h1 hN hx hlen hL hF;simp only[Fo.wf,Afb,Af0] at hw;obtain⟨⟨⟨w1,w2⟩,w3⟩,w4⟩:=hw;simp only[Fo.flat,AfG,AfL] at hd;simp only[Fo.cnt] at hN hL;simp only[Fo.flat,Afg,Afk] at hF;obtain⟨L,rfl⟩:∃K,L=K+1:=⟨L-1,by omega⟩
  obtain⟨F,rfl⟩:∃K,F=K+2:=⟨F-2,by omega⟩
  have hd1:=CW h0 hd;have hkl:=Nt w1;obtain⟨g1,g2,g3⟩:=CB (by omega) hd1;have hcM:=hA.hc c (Afp g1);have hp:at_+(BS k).length=bif m then at_+1 else at_:=by rw[hkl];cases m<;>simp
  have hq:=hA.next (F:=F+2) (by omega) (p:=at_+(BS k).length) (by omega) (by omega);rw[S0 (f:=.cell none c .nil) (ys:=r.flat++ys) rfl (RZ w2 w3) hd1] at hq;have e:out++(Fo.cell k c r).txt (decide (x=0))=(out++(EG (decide (x=0))++KE k++GU c))++r.txt (decide (x+1=0)):=by
   rw[AeZ (show ¬ x+1=0 by omega)];simp[Fo.txt]
  rw[e] at hlen ⊢;have hl2:((out++(EG (decide (x=0))++KE k++GU c)).length:Int)≤4611686018427387904:=by rw[Afg] at hlen;omega
  have hat:at_<v.length:=by omega
  have hb:=Rz hpc hm (by omega) hx hpN h0 hat (by omega) w1 (ZL h0 hA (F:=F+2) (by omega) hd) hp (PY (F:=F) (by omega) (by omega) hd1 w2 w3 (by omega) (by omega) hcM.2.1) hq hl2;obtain⟨o,ho1,ho2⟩:=ih (F+2) L i (at_+(BS k).length+((Fo.cell none c .nil).flat.length:Int)) (x+1) (out++(EG (decide (x=0))++KE k++GU c)) m k ys pc hpc hm hpN w4 (by rw[show(Fo.cell none c .nil).flat.length=1 from rfl];exact g2) (by omega) (by rw[show(Fo.cell none c .nil).flat.length=1 from rfl];omega) (by omega) (by omega) hlen (by omega) (by omega);exact⟨o,OH hb ho1,ho2⟩
 | node k c kids r ihk ih=>
  intro F L i at_ x out m last ys pc hpc hm hpN hw hd h0 h1 hN hx hlen hL hF;simp only[Fo.wf,Afb,AeX] at hw;obtain⟨⟨⟨⟨⟨w1,w2⟩,w3⟩,w5⟩,w6⟩,w4⟩:=hw;simp only[Fo.flat,AfG,AfL] at hd;simp only[Fo.cnt] at hN hL;simp only[Fo.flat,Afg,Afk] at hF;obtain⟨L,rfl⟩:∃K,L=K+1:=⟨L-1,by omega⟩
  obtain⟨F,rfl⟩:∃K,F=K+1:=⟨F-1,by omega⟩
  have hd1:=CW h0 hd;have hkl:=Nt w1;obtain⟨g1,g2,g3⟩:=CB (by omega) hd1;have hcN:=(hA.hc c (Afp g1)).2.2;have hp:at_+(BS k).length=bif m then at_+1 else at_:=by rw[hkl];cases m<;>simp
  have hq:=hA.next (F:=F+1) (by omega) (p:=at_+(BS k).length) (by omega) (by omega);have hfl:(Fo.node none c kids .nil).flat=c::kids.flat:=by simp[Fo.flat,BS]
  rw[S0 (f:=.node none c kids .nil) (ys:=r.flat++ys) rfl (RY w2 w3 w5 w6) (by rw[hd1,hfl];simp)] at hq;have hcf:=CJ kids;have hvl:(v.drop (at_+(BS k).length+1).toNat).length=kids.flat.length+(r.flat.length+ys.length):=by rw[g2];simp
  rw[AfJ] at hvl;have e:out++(Fo.node k c kids r).txt (decide (x=0))=(out++(EG (decide (x=0))++KE k++QN c (kids.txt true)))++r.txt (decide (x+1=0)):=by
   rw[AeZ (show ¬ x+1=0 by omega)];simp[Fo.txt]
  rw[e] at hlen ⊢;have hl2:((out++(EG (decide (x=0))++KE k++QN c (kids.txt true))).length:Int)≤4611686018427387904:=by rw[Afg] at hlen;omega
  have hl3:(kids.txt true).length≤4611686018427387904:=by
   have:=Ks c (kids.txt true);rw[Afg,Afg] at hl2;omega
  have hat:at_<v.length:=by omega
  have hrec:HS (F+1) v (at_+(BS k).length)=some (QN c (kids.txt true)):=by
   rw[HS];unfold NP;have he:=(Kg w2 w3).1;rw[Bh (by omega) g3,DN (by omega) hd1,Bg (AeZ (by omega)),Bg (AeZ (by omega)),Bg (AeZ (by omega)),Bg (AeZ (by omega)),AX (by omega) (by omega)];obtain⟨o,ho1,ho2⟩:=ihk F F (at_+(BS k).length) (at_+(BS k).length+1) 0 [] _ none (r.flat++ys) c (DN (by omega) hd1) rfl hcN w6 (by rw[g2]) (by omega) (by omega) (by omega) (Afz 0) hl3 (by omega) (by omega);rw[BQ ho1,ho2];rfl
  have hb:=Rz hpc hm (by omega) hx hpN h0 hat (by omega) w1 (ZL h0 hA (F:=F+1) (by omega) hd) hp hrec hq hl2;obtain⟨o,ho1,ho2⟩:=ih (F+1) L i (at_+(BS k).length+((Fo.node none c kids .nil).flat.length:Int)) (x+1) (out++(EG (decide (x=0))++KE k++QN c (kids.txt true))) m k ys pc hpc hm hpN w4 (by
   have:=CW (by omega) g2;rw[hfl,Afk,show at_+(BS k).length+((kids.flat.length+1:Nat):Int)=at_+(BS k).length+1+kids.flat.length from by omega];exact this) (by omega) (by rw[hfl,Afk];omega) (by omega) (by omega) hlen (by omega) (by omega)
  exact⟨o,OH hb ho1,ho2⟩
theorem Zm (hA:Gh M v){F:Nat}{p:Int}{f:Fo}{ys:List Ab}(h0:0≤p)(h1:f.one=true)(hw:f.wf false none=true)(hd:v.drop p.toNat=f.flat++ys)(hF:3*M+6+f.flat.length<F)(hlen:(f.txt true).length≤4611686018427387904):HS F v p=some (f.txt true):=by
 have hM:=hA.hM;have hvM:=hA.hv
 cases f with
 | nil=>cases h1
 | cell k c r=>
  cases k with
  | some s=>cases h1
  | none=>
   cases r with
   | nil=>
    simp only[Fo.wf,Afb,Af0] at hw;obtain⟨F,rfl⟩:∃K,F=K+2:=⟨F-2,by omega⟩
    have hd':v.drop p.toNat=c::ys:=by simpa[Fo.flat,BS] using hd
    have hcM:=hA.hc c (Afp (CB h0 hd').1);rw[PY h0 (by have:=(CB h0 hd').2.2;omega) hd' hw.1.1.2 hw.1.2 (by omega) (by omega) hcM.2.1];simp[Fo.txt,EG,KE]
   | cell _ _ _=>cases h1
   | node _ _ _ _=>cases h1
 | node k c kids r=>
  cases k with
  | some s=>cases h1
  | none=>
   cases r with
   | nil=>
    simp only[Fo.wf,Afb,AeX] at hw;obtain⟨⟨⟨⟨⟨w1,w2⟩,w3⟩,w5⟩,w6⟩,w4⟩:=hw;have hd':v.drop p.toNat=c::(kids.flat++ys):=by simpa[Fo.flat,BS] using hd
    obtain⟨g1,g2,g3⟩:=CB h0 hd';have hcN:=(hA.hc c (Afp g1)).2.2;have hcf:=CJ kids;simp only[Fo.flat,BS,AfV,AfO,Afk] at hF;have et:(Fo.node none c kids .nil).txt true=QN c (kids.txt true):=by simp[Fo.txt,EG,KE]
    rw[et] at hlen ⊢;have hbl:=Ks c (kids.txt true);obtain⟨F,rfl⟩:∃K,F=K+1:=⟨F-1,by omega⟩
    rw[HS];unfold NP;have hb:=(Kg w2 w3).1;rw[Bh h0 g3,DN h0 hd',Bg (AeZ (by omega)),Bg (AeZ (by omega)),Bg (AeZ (by omega)),Bg (AeZ (by omega)),AX (by omega) (by omega)];obtain⟨o,ho1,ho2⟩:=TB hA kids F F p (p+1) 0 [] _ none ys c (DN h0 hd') rfl hcN w6 g2 (by omega) (by omega) (by omega) (Afz 0) (by show(kids.txt true).length≤_;omega) (by omega) (by omega);rw[BQ ho1,ho2];rfl
   | cell _ _ _=>cases h1
   | node _ _ _ _=>cases h1
theorem XQ {F:Nat}{K:Option Int}(hF:v.length<F)(hv:v.length≤1152921504606846976):Bs (Cj (λσ=>Ga v σ) F 0) (Cf λ_=>K)=bif v.any KP then some 2 else K:=by
 obtain⟨o,h1,h2⟩:=G0 (body:=λσ=>Ga v σ) (λx=>0≤x∧x≤(v.length:Int)∧(v.take x.toNat).any KP=false) (λx=>v.length-x.toNat)
  (λo=>Cf (λ_=>K) o=bif v.any KP then some 2 else K) (λx ⟨h0,hl,ha⟩=>by
   by_cases hx:x<(v.length:Int)
   ·obtain⟨c,hc⟩:∃c,v[x.toNat]? =some c:=⟨v[x.toNat]'(by omega),Aff (by omega)⟩
    have hat:Ao v x=c:=by simp[Ao,hc]
    have ho:(decide (c.fKind=3)&&(decide (c.fInt<(-1000000000000))||decide (1000000000000<c.fInt)))=KP c:=by
     unfold KP
     cases decide (c.fKind=3) with
     | false=>rfl
     | true=>
      rw[Afo,Afo,AfB];simp only[Af7,AeX,Af0,AfW,AeY];omega
    have hb:Ga v x=B0 (KP c) (some (.out (.ret 2))) (some (.next (x+1))):=by
     unfold Ga;rw[Bo (Afa hx),Bh h0 hx,hat,ho,AX (by omega) (by omega)]
    cases hq:KP c with
    | true=>
     refine .inr ⟨.ret 2,hb.trans (Bo hq),?_⟩;have:v.any KP=true:=List.any_eq_true.2 ⟨c,Afp hc,hq⟩;rw[TL,this];rfl
    | false=>
     have a3:(v.take (x+1).toNat).any KP=false:=by
      rw[show(x+1).toNat=x.toNat+1 from by omega,List.take_add_one,hc,List.any_append,ha];simp[hq]
     exact .inl ⟨x+1,hb.trans (Bg hq),⟨by omega,by omega,a3⟩,by omega⟩
   ·refine .inr ⟨.go (),by unfold Ga;rw[Bg (AeZ hx)],?_⟩;rw[show x.toNat=v.length from by omega,AfR] at ha;rw[IP,ha];rfl) F 0 ⟨Afz 0,by omega,by simp⟩ (by simpa using hF)
 rw[BQ h1,h2]
theorem XP {F:Nat}{K:Option Int}(hF:v.length<F)(hv:v.length≤1152921504606846976):Bs (Cj (λσ=>EZ v σ) F 0) (Cf λ_=>K)=bif v.any JF then some 3 else K:=by
 obtain⟨o,h1,h2⟩:=G0 (body:=λσ=>EZ v σ) (λx=>0≤x∧x≤(v.length:Int)∧(v.take x.toNat).any JF=false) (λx=>v.length-x.toNat)
  (λo=>Cf (λ_=>K) o=bif v.any JF then some 3 else K) (λx ⟨h0,hl,ha⟩=>by
   by_cases hx:x<(v.length:Int)
   ·obtain⟨c,hc⟩:∃c,v[x.toNat]? =some c:=⟨v[x.toNat]'(by omega),Aff (by omega)⟩
    have hat:Ao v x=c:=by simp[Ao,hc]
    have hb:EZ v x=B0 (JF c) (some (.out (.ret 3))) (some (.next (x+1))):=by
     unfold EZ;rw[Bo (Afa hx),Bh h0 hx,hat,AX (by omega) (by omega)];rfl
    cases hq:JF c with
    | true=>
     refine .inr ⟨.ret 3,hb.trans (Bo hq),?_⟩;have:v.any JF=true:=List.any_eq_true.2 ⟨c,Afp hc,hq⟩;rw[TL,this];rfl
    | false=>
     have a3:(v.take (x+1).toNat).any JF=false:=by
      rw[show(x+1).toNat=x.toNat+1 from by omega,List.take_add_one,hc,List.any_append,ha];simp[hq]
     exact .inl ⟨x+1,hb.trans (Bg hq),⟨by omega,by omega,a3⟩,by omega⟩
   ·refine .inr ⟨.go (),by unfold EZ;rw[Bg (AeZ hx)],?_⟩;rw[show x.toNat=v.length from by omega,AfR] at ha;rw[IP,ha];rfl) F 0 ⟨Afz 0,by omega,by simp⟩ (by simpa using hF)
 rw[BQ h1,h2]
theorem SK:decide (K1 v 0=v.length)=(whole v).isSome:=by
 unfold K1 whole;rw[show v.drop (0:Int).toNat=v from rfl]
 cases hp:J6 v with
 | none=>simp
 | some q=>
  obtain⟨f,ys⟩:=q;have h1:=(L5 hp).1;have hl:v.length=f.flat.length+ys.length:=by rw[h1];simp
  cases ys with
  | nil=>simp at hl ⊢;omega
  | cons c r=>simp at hl ⊢;omega
theorem XR (hA:Gh M v)(hM:M≤2000000){F:Nat}(hF:4*M+6<F):Mu F v=some (EU v):=by
 have hvM:=hA.hv;unfold Mu;rw[Vy (hA.rf (Afh M)) (λc hc=>(hA.hc c hc).2.2) (by omega),BQ rfl,SK];unfold EU
 cases hwh:whole v with
 | none=>rfl
 | some f=>
  obtain⟨h1,h2,h3⟩:=Mj hwh;rw[Bg (p:=!(some f).isSome) rfl]
  change _=some (Pa f)
  have hl:v.length=f.flat.length:=by rw[h1]
  have hc:∀c∈f.flat,c.fStr.length≤M∧BM .i64 c.fInt=true∧c.fN≤9223372036854775807:=λc hc=>hA.hc c (by rw[h1];exact hc);have hb:=Ot hM h2 (by omega) hc;have htl:((f.txt true).length:Int)=f.byt:=by rw[Ka f false none true h2,Su h3];simp
  have hd0:v.drop (0:Int).toNat=f.flat++[]:=by rw[AfO];exact h1
  rw[XQ (by omega) (by omega)];unfold Pa J3;rw[Vx hA (Afz 0) h3 h2 hd0 (by omega),Cr (by simp[imp]),XP (by omega) (by omega)];unfold J2;rw[Zm hA (Afz 0) h3 h2 hd0 (by omega) (by omega),BQ rfl];rw[Es,hl,← h1];have a1:decide ((200:Int)<(v.length:Int))=decide (200<v.length):=by rw[AfB];simp;omega
  have a2:decide ((8:Int)<(f.dep:Int))=decide (8<f.dep):=by rw[AfB];simp;omega
  have a3:decide ((4000:Int)<((f.txt true).length:Int))=decide (4000<(f.txt true).length):=by rw[AfB];simp;omega
  rw[a1,a2,a3]
  cases v.any KP<;>cases v.any JF<;>cases decide (200<v.length)<;>cases decide (8<f.dep)<;>cases decide (4000<(f.txt true).length)<;>rfl
end
theorem Ea {α:Type}{n:Nat}{x:Option α}(h:n≤140737488355328):Bl (DE 1 n) x=x:=Cr (Afa (by omega))
theorem HU {α β:Type}(a:α)(k:α→Option β):KF a k=k a:=rfl
theorem HL {α:Type}{n:Int}{x:Option α}(h:0≤n)(h':n≤255):Bl (BM .u8 n) x=x:=Cr (AbE h h')
theorem Aa2 {s:Ah}{x:Int}{c:UInt8}(h:s[x.toNat]? =some c):UInt8.ofNat (Int.toNat (Cs s x))=c∧0≤Cs s x∧Cs s x≤255:=by
 have:=UInt8.toNat_lt c;rw[Pw h];refine⟨?_,by omega,by omega⟩;rw[← UInt8.toNat_inj];simp
theorem Tv {s l:Ah}{x:Int}{c:UInt8}(h0:0≤x)(hx:x<(s.length:Int))(hs:s.length≤1152921504606846976)(hl:l.length+2≤140737488355328)(hc:s[x.toNat]? =some c):Ec s x l=some (.next (x+1,l++OZ c)):=by
 obtain⟨b1,b2,b3⟩:=Aa2 hc;unfold Ec OZ;rw[Bo (Afa hx),Bh h0 hx,Acv hc,Acu hc];have l1:(l++[UInt8.ofNat (Int.toNat 92)]).length=l.length+1:=by simp
 cases hq:(decide (c=34)||decide (c=92)) with
 | true=>
  rw[Bo rfl,Ea (by omega),HL (by decide) (by decide),HU,l1,Ea (by omega),HL b2 b3,HU,b1,AX (by omega) (by omega),AfG];rfl
 | false=>
  rw[Bg rfl,Ea (by omega),HL b2 b3,HU,b1,AX (by omega) (by omega)];rfl
theorem YQ {l:Ah}(h:l.length+1≤140737488355328):GJ l=some (l++[34]):=by
 unfold GJ;rw[Ea h,HU];rfl
theorem NJ {F:Nat}{l s:Ah}(hF:s.length<F)(hl:(l++HB s).length≤140737488355328):Ml F l s=some (l++HB s):=by
 have hq:(HB s).length=(HD s).length+2:=by simp[HB]
 rw[Afg,hq] at hl;have hesc:∀k,(HD (s.take k)).length≤(HD s).length:=λk=>by
  have:HD s=HD (s.take k)++HD (s.drop k):=by rw[HD,HD,HD,← List.flatMap_append,AfQ]
  rw[this,Afg];omega
 have hsl:s.length≤(HD s).length:=by rw[N8];omega
 obtain⟨o,h1,h2⟩:=G0 (body:=λσ=>Ec s σ.1 σ.2) (λσ=>0≤σ.1∧σ.1≤(s.length:Int)∧σ.2=l++[34]++HD (s.take σ.1.toNat)) (λσ=>s.length-σ.1.toNat)
  (λo=>Cf (λν=>GJ ν) o=some (l++HB s)) (λσ ⟨h0,hlx,ha⟩=>by
   obtain⟨x,out⟩:=σ;simp only at h0 hlx ha;show(∃s',Ec s x out=_∧_)∨∃o,Ec s x out=_∧_;have hol:out.length=l.length+1+(HD (s.take x.toNat)).length:=by rw[ha];simp;omega
   have he:=hesc x.toNat
   by_cases hx:x<(s.length:Int)
   ·obtain⟨c,hc⟩:∃c,s[x.toNat]? =some c:=⟨s[x.toNat]'(by omega),Aff (by omega)⟩
    have he2:=hesc (x.toNat+1);rw[Ok hc,Afg] at he2;have hc1:1≤(OZ c).length:=by unfold OZ;cases(decide (c=34)||decide (c=92))<;>simp
    have a1:0≤x+1:=by omega
    have a2:x+1≤s.length:=by omega
    have a3:s.length-(x+1).toNat<s.length-x.toNat:=by omega
    have a4:out++OZ c=l++[34]++HD (s.take (x+1).toNat):=by rw[show(x+1).toNat=x.toNat+1 from by omega,Ok hc,ha,AfG]
    exact .inl ⟨(x+1,out++OZ c),Tv h0 hx (by omega) (by omega) hc,⟨a1,a2,a4⟩,a3⟩
   ·have e:x.toNat=s.length:=by omega
    rw[e,AfR] at ha;have hf:out++[34]=l++HB s:=by rw[ha];simp[HB]
    have hgo:Ec s x out=some (.out (.go out)):=by unfold Ec;rw[Bg (AeZ hx)]
    exact .inr ⟨.go out,hgo,(IP (λν=>GJ ν) out).trans ((YQ (by omega)).trans (congrArg some hf))⟩) F (0,l++[34]) ⟨Afz 0,by show(0:Int)≤s.length;omega,by show l++[34]=l++[34]++HD (s.take 0);simp[HD]⟩ (by show s.length-0<F;omega)
 unfold Ml;rw[Ea (by omega),HL (by decide) (by decide),HU];have hb:[UInt8.ofNat (Int.toNat 34)]=([34]:Ah):=rfl;rw[hb,BQ h1,h2]
theorem PC {F:Nat}{l key:Ah}{x:List Ab}{first:Bool}{c:Ab}{k last:Option Ah}{tx:Ah}(hk:CL (decide (c.fKind=6)) last k=true)(hkey:∀s,k=some s→key=s∧s.length<F)
  (hlen:(l++(EG first++KE k++tx)).length≤140737488355328) (hw:∀l':Ah,(l'++tx).length≤140737488355328→Hf F l' x=some (l'++tx)):Gx (F+1) key x first l c=some (true,false,l++(EG first++KE k++tx)):=by
 rw[Gx];unfold ML;have hd:[UInt8.ofNat (Int.toNat 44)]=([44]:Ah):=rfl;have hb:[UInt8.ofNat (Int.toNat 58)]=([58]:Ah):=rfl;have hlen':=hlen;simp only[Afg] at hlen'
 cases first with
 | true=>
  rw[Bg (p:=!true) rfl]
  cases hm:decide (c.fKind=6) with
  | true=>
   rw[hm] at hk
   cases k with
   | none=>simp[CL] at hk
   | some s=>
    obtain⟨e1,e2⟩:=hkey s rfl;subst e1;simp only[KE,Afg,Af2] at hlen';have h1:(l++HB key).length≤140737488355328:=by rw[Afg];omega
    have e:((l++HB key)++[58])++tx=l++(EG true++KE (some key)++tx):=Aee _ _ _ _;rw[← e] at hlen ⊢;rw[Bo rfl,NJ e2 h1,BQ rfl,Ea (by rw[Afg];omega),HL (by decide) (by decide),HU,hb,hw _ hlen,BQ rfl]
  | false=>
   rw[hm] at hk
   cases k with
   | some s=>simp[CL] at hk
   | none=>
    have e:l++tx=l++(EG true++KE none++tx):=Aeg _ _;rw[← e] at hlen ⊢;rw[Bg rfl,hw _ hlen,BQ rfl]
 | false=>
  simp only[EG,Afc,Af2] at hlen';rw[Bo (p:=!false) rfl,Ea (by omega),HL (by decide) (by decide),HU,hd]
  cases hm:decide (c.fKind=6) with
  | true=>
   rw[hm] at hk
   cases k with
   | none=>simp[CL] at hk
   | some s=>
    obtain⟨e1,e2⟩:=hkey s rfl;subst e1;simp only[KE,Afg,Af2] at hlen';have h1:((l++[44])++HB key).length≤140737488355328:=by simp only[Afg,Af2];omega
    have e:(((l++[44])++HB key)++[58])++tx=l++(EG false++KE (some key)++tx):=Aed _ _ _ _ _;rw[← e] at hlen ⊢;rw[Bo rfl,NJ e2 h1,BQ rfl,Ea (by simp only[Afg,Af2];omega),HL (by decide) (by decide),HU,hb,hw _ hlen,BQ rfl]
  | false=>
   rw[hm] at hk
   cases k with
   | some s=>simp[CL] at hk
   | none=>
    have e:(l++[44])++tx=l++(EG false++KE none++tx):=Aef _ _ _;rw[← e] at hlen ⊢;rw[Bg rfl,hw _ hlen,BQ rfl]
section
variable {M : Nat}
theorem PH {F:Nat}{v:List Ab}{c:Ab}{at_ x:Int}{first:Bool}{l l2:Ah}{k last:Option Ah}{f1:Fo}{ys:List Ab}(hA:Gh M v)(hF:M<F)(hpc:Ao v 0=c)(hx:x<c.fN)(hx0:0≤x)(hcN:c.fN≤9223372036854775807)(h0:0≤at_)(hk:CL (decide (c.fKind=6)) last k=true)
  (hd:v.drop at_.toNat=BS k++(f1.flat++ys)) (h1:f1.one=true) (hw:f1.wf false none=true) (hr:∀key,(∀s,k=some s→key=s)→Gx F key f1.flat first l c=some (true,false,l2)) :
  Eq F v c (Gx F) at_ x first l=some (.next (at_+(BS k).length+f1.flat.length,x+1,false,l2)):=by
 have hM:=hA.hM;have hvM:=hA.hv;have hd1:=CW h0 hd;have hkl:=Nt hk;have hfl:=TM h1;have hll:(v.drop (at_+(BS k).length).toNat).length=f1.flat.length+ys.length:=by rw[hd1];simp
 rw[AfJ] at hll;have hlook:Kx F (v.drop (at_+(BS k).length).toNat)=some ((f1.flat.length:Int),f1.sh 0 PO,true):=Uj ((hA.drop _).lk hF) h1 hw hd1;have htake:List.take (Int.toNat (at_+(BS k).length+(f1.flat.length:Int))-Int.toNat (at_+(BS k).length)) (v.drop (at_+(BS k).length).toNat)=f1.flat:=by
  rw[hd1,show Int.toNat (at_+(BS k).length+(f1.flat.length:Int))-Int.toNat (at_+(BS k).length)=f1.flat.length from by omega,List.take_left]
 have hmono:0≤at_+(BS k).length+f1.flat.length:=by omega
 unfold Eq;rw[hpc,Bo (Afa hx)]
 cases hm:decide (c.fKind=6) with
 | true=>
  rw[hm] at hk hkl
  cases k with
  | none=>simp[CL] at hk
  | some s=>
   have e1:((BS (some s)).length:Int)=1:=rfl;rw[e1] at hlook htake hll hmono ⊢;have hats:(Ao v at_).fStr=s:=by
    have:v.drop at_.toNat=⟨4,0,s,0⟩::(f1.flat++ys):=by simpa[BS] using hd
    rw[DN h0 this]
   have hin:at_<v.length:=by omega
   rw[Bo rfl,Bh h0 hin,AX (by omega) (by omega),Df (by omega) (by omega),hlook,BQ rfl,AX (by omega) (by omega),Df (by omega) (by omega),Df (by omega) (by omega),htake,hats,hr s (λs' h=>by cases h;rfl),BQ rfl];rw[Bg (p:=!true) rfl,AX (by omega) (by omega)]
 | false=>
  rw[hm] at hk hkl
  cases k with
  | some s=>simp[CL] at hk
  | none=>
   have e1:((BS none).length:Int)=0:=rfl;rw[e1,Int.add_zero] at hlook htake hll hmono ⊢;rw[Bg rfl,Df (by omega) (by omega),hlook,BQ rfl,AX (by omega) (by omega),Df (by omega) (by omega),Df (by omega) (by omega),htake,hr [] (λs' h=>by cases h),BQ rfl];rw[Bg (p:=!true) rfl,AX (by omega) (by omega)]
end
section
variable {M : Nat}
theorem NC (l:Ah)(c:UInt8):(l++[c]).length=l.length+1:=by rw[Afg,Af2]
theorem Mk {F:Nat}{l p:Ah}{v:List Ab}{c:Ab}{rf:Ah→(List Ab)→Bool→Ah→Ab→Option (Bool×Bool×Ah)}{rp:(List Ab)→Bool→Ah→Ab→Option (Bool×Ah)}(hc:Ao v 0=c)(hv:0<v.length)(hk:c.fKind=5∨c.fKind=6)(hlen:(l++QN c p).length≤140737488355328)
  (hp:∀l':Ah,l'.length=l.length+1→∃b,rp v true l' c=some (b,l'++p)):Ly F rf rp l v=some (l++QN c p):=by
 have hbl:=Ks c p;rw[Afg,hbl] at hlen;have i0:(0:Int)<(v.length:Int):=by omega
 unfold Ly;rw[Bh (Afz 0) i0,hc,Bg (AeZ (by omega)),Bg (AeZ (by omega)),Bg (AeZ (by omega)),Bg (AeZ (by omega))];have b1:[UInt8.ofNat (Int.toNat (Cs ([123,125]:Ah) 0))]=([123]:Ah):=rfl;have b2:[UInt8.ofNat (Int.toNat (Cs ([123,125]:Ah) 1))]=([125]:Ah):=rfl;have b3:[UInt8.ofNat (Int.toNat (Cs ([91,93]:Ah) 0))]=([91]:Ah):=rfl;have b4:[UInt8.ofNat (Int.toNat (Cs ([91,93]:Ah) 1))]=([93]:Ah):=rfl;have c1:Cs ([123,125]:Ah) 0=123:=rfl;have c2:Cs ([123,125]:Ah) 1=125:=rfl;have c3:Cs ([91,93]:Ah) 0=91:=rfl;have c4:Cs ([91,93]:Ah) 1=93:=rfl;have n2:(([123,125]:Ah).length:Int)=2:=rfl;have n3:(([91,93]:Ah).length:Int)=2:=rfl
 cases h6:decide (c.fKind=6) with
 | true=>
  obtain⟨b,hb⟩:=hp _ (NC l 123);rw[Bo rfl,n2,Bh (by decide) (by decide),Ea (by omega),b1,b2,c1,c2,HL (by decide) (by decide),HU,hb,BQ rfl,Bh (by decide) (by decide)];have e:((l++[123])++p).length=l.length+1+p.length:=by rw[Afg,NC]
  rw[e,Ea (by omega),HL (by decide) (by decide),HU];simp[QN,h6]
 | false=>
  obtain⟨b,hb⟩:=hp _ (NC l 91);rw[Bg rfl,n3,Bh (by decide) (by decide),Ea (by omega),b3,b4,c3,c4,HL (by decide) (by decide),HU,hb,BQ rfl,Bh (by decide) (by decide)];have e:((l++[91])++p).length=l.length+1+p.length:=by rw[Afg,NC]
  rw[e,Ea (by omega),HL (by decide) (by decide),HU];simp[QN,h6]
theorem O8 {F:Nat}{v:List Ab}{c:Ab}{at_ x:Int}{first:Bool}{l:Ah}{rf:Ah→(List Ab)→Bool→Ah→Ab→Option (Bool×Bool×Ah)}(hc:Ao v 0=c)(hx : ¬ x<c.fN):Eq F v c rf at_ x first l=some (.out (.go (first,l))):=by
 unfold Eq;rw[hc,Bg (AeZ hx)]
theorem O7 {F:Nat}{l:Ah}{c:Ab}(hp:pl c=true)(hn:decide (0<c.fN)=false)(hs:c.fStr.length<F+2)(hi:BM .i64 c.fInt=true)(hlen:(l++GU c).length≤140737488355328):Hf (F+3) l [c]=some (l++GU c):=by
 rw[Hf];have hat:Ao [c] 0=c:=rfl;have i0:(0:Int)<(([c]:List Ab).length:Int):=by simp
 have hN : ¬ (0:Int)<c.fN:=by simpa using hn
 by_cases hb:c.fKind=5∨c.fKind=6
 ·have el:GU c=QN c []:=by
   have k1:decide (c.fKind=1)=false:=AeZ (by omega);have k2:decide (c.fKind=2)=false:=AeZ (by omega);have k3:decide (c.fKind=3)=false:=AeZ (by omega);have k4:decide (c.fKind=4)=false:=AeZ (by omega);unfold GU QN;rw[k1,k2,k3,k4];rfl
  rw[el] at hlen ⊢;refine Mk hat (by simp) hb hlen (λl' hl'=>⟨true,?_⟩);rw[HW];unfold Jt;rw[Bh (Afz 0) i0,BQ (K2 (o:=.go (true,l')) (O8 hat hN)),IP,AfO];rfl
 ·unfold Ly GU;unfold GU at hlen;rw[Bh (Afz 0) i0,hat]
  cases k1:decide (c.fKind=1) with
  | true=>
   rw[k1] at hlen;simp only[Afi] at hlen;rw[Bo rfl,Ea (by rw[Afg] at hlen;exact hlen),HU];rfl
  | false=>
  rw[k1] at hlen;simp only[Afc] at hlen;rw[Bg rfl]
  cases k2:decide (c.fKind=2) with
  | true=>
   rw[k2] at hlen;simp only[Afi] at hlen;rw[Bo rfl];simp[pl,k1,k2] at hp;simp only[Afg] at hlen;rcases hp.1 with h0 | h1
   ·rw[h0] at hlen ⊢;have a:Ao ([([102,97,108,115,101]:Ah),([116,114,117,101]:Ah)]:List Ah) 0=[102,97,108,115,101]:=rfl;have hlen2:l.length+([102,97,108,115,101]:Ah).length≤140737488355328:=hlen;rw[Bh (by decide) (by decide),a,Ea hlen2,HU];rfl
   ·rw[h1] at hlen ⊢;have a:Ao ([([102,97,108,115,101]:Ah),([116,114,117,101]:Ah)]:List Ah) 1=[116,114,117,101]:=rfl;have hlen2:l.length+([116,114,117,101]:Ah).length≤140737488355328:=hlen;rw[Bh (by decide) (by decide),a,Ea hlen2,HU];rfl
  | false=>
  rw[k2] at hlen;simp only[Afc] at hlen;rw[Bg rfl]
  cases k3:decide (c.fKind=3) with
  | true=>
   rw[k3] at hlen;simp only[Afi,Afg] at hlen;rw[Bo rfl,Cr hi,Ea hlen,HU];rfl
  | false=>
  rw[k3] at hlen;simp only[Afc] at hlen;rw[Bg rfl]
  cases k4:decide (c.fKind=4) with
  | true=>
   rw[k4] at hlen;simp only[Afi] at hlen;rw[Bo rfl,NJ hs hlen,BQ rfl];rfl
  | false=>
   exfalso;simp only[AeY] at k1 k2 k3 k4;simp[pl,k1,k2,k3,k4,show ¬ c.fKind=5 by omega,show ¬ c.fKind=6 by omega] at hp
theorem Gh.mem {v:List Ab}(hA:Gh M v){p:Int}{a b:List Ab}(h:v.drop p.toNat=a++b):Gh M a:=by
 have:=(hA.drop p.toNat).take a.length
 rwa [h,List.take_left] at this
theorem QU:∀(g:Fo) (v:List Ab) (c:Ab) (F L:Nat) (at_ x:Int) (first:Bool) (l:Ah) (m:Bool) (last:Option Ah) (ys:List Ab),Gh M v→Ao v 0=c→decide (c.fKind=6)=m→c.fN≤9223372036854775807→g.wf m last=true→v.drop at_.toNat=g.flat++ys→0≤at_→c.fN=x+g.cnt→0≤x→(l++g.txt first).length≤140737488355328→g.cnt<L→M+5+3*g.flat.length<F→
  ∃o b,Cj (λσ=>Eq F v c (Gx F) σ.1 σ.2.1 σ.2.2.1 σ.2.2.2) L (at_,x,first,l)=some o∧Cf (λν=>Iu ν.1 ν.2) o=some (b,l++g.txt first):=by
 intro g
 induction g with
 | nil=>
  intro v c F L at_ x first l m last ys hA hpc hm hcN hw hd h0 hN hx hlen hL hF
  obtain⟨L,rfl⟩:∃K,L=K+1:=⟨L-1,by omega⟩
  simp only[Fo.cnt] at hN;have hx' : ¬ x<c.fN:=by omega
  refine⟨.go (first,l),first,K2 (O8 hpc hx'),?_⟩;rw[IP,Fo.txt,AfO];rfl
 | cell k cc r ih=>
  intro v c F L at_ x first l m last ys hA hpc hm hcN hw hd h0 hN hx hlen hL hF
  simp only[Fo.wf,Afb,Af0] at hw;obtain⟨⟨⟨w1,w2⟩,w3⟩,w4⟩:=hw;have hd2:v.drop at_.toNat=BS k++((Fo.cell none cc .nil).flat++(r.flat++ys)):=by rw[hd];simp[Fo.flat,BS]
  have hd1:=CW h0 hd2;simp only[Fo.cnt] at hN hL;simp only[Fo.flat,Afg,Afk] at hF;obtain⟨L,rfl⟩:∃K,L=K+1:=⟨L-1,by omega⟩
  obtain⟨F,rfl⟩:∃K,F=K+4:=⟨F-4,by omega⟩
  have hAe:=hA.mem hd1;have hcM:=hAe.hc cc (by simp[Fo.flat,BS]);have e:l++(Fo.cell k cc r).txt first=(l++(EG first++KE k++GU cc))++r.txt false:=by simp[Fo.txt]
  rw[e] at hlen ⊢;have hl2:(l++(EG first++KE k++GU cc)).length≤140737488355328:=by rw[Afg] at hlen;omega
  have hb:=PH (F:=F+4) (last:=last) hA (by omega) hpc (by omega) hx hcN h0 (by rw[hm];exact w1) hd2 rfl (RZ w2 w3) (first:=first) (l:=l) (λkey hkey=>
   PC (last:=last) (by rw[hm];exact w1) (λs hs=>⟨hkey s hs,by
    have hM:=hA.hM;subst hs;have:=(hA.hc ⟨4,0,s,0⟩ (List.mem_of_mem_drop (by rw[hd2];simp[BS]))).1;simp only at this;omega⟩) hl2 (λl' hl'=>O7 (F:=F) w2 w3 (by omega) hcM.2.1 hl'))
  obtain⟨o,b,ho1,ho2⟩:=ih v c (F+4) L (at_+(BS k).length+((Fo.cell none cc .nil).flat.length:Int)) (x+1) false (l++(EG first++KE k++GU cc)) m k ys hA hpc hm hcN w4 (CW (by omega) hd1) (by omega) (by omega) (by omega) hlen (by omega) (by omega);exact⟨o,b,OH hb ho1,ho2⟩
 | node k cc kids r ihk ih=>
  intro v c F L at_ x first l m last ys hA hpc hm hcN hw hd h0 hN hx hlen hL hF
  simp only[Fo.wf,Afb,AeX] at hw;obtain⟨⟨⟨⟨⟨w1,w2⟩,w3⟩,w5⟩,w6⟩,w4⟩:=hw;have hd2:v.drop at_.toNat=BS k++((Fo.node none cc kids .nil).flat++(r.flat++ys)):=by rw[hd];simp[Fo.flat,BS]
  have hd1:=CW h0 hd2;simp only[Fo.cnt] at hN hL;simp only[Fo.flat,Afg,Afk] at hF;obtain⟨L,rfl⟩:∃K,L=K+1:=⟨L-1,by omega⟩
  obtain⟨F,rfl⟩:∃K,F=K+3:=⟨F-3,by omega⟩
  have hAe:=hA.mem hd1;have hfl:(Fo.node none cc kids .nil).flat=cc::kids.flat:=by simp[Fo.flat,BS]
  have hcM:=hAe.hc cc (by rw[hfl];simp);have hcf:=CJ kids;have e:l++(Fo.node k cc kids r).txt first=(l++(EG first++KE k++QN cc (kids.txt true)))++r.txt false:=by simp[Fo.txt]
  rw[e] at hlen ⊢;have hl2:(l++(EG first++KE k++QN cc (kids.txt true))).length≤140737488355328:=by rw[Afg] at hlen;omega
  have hb:=PH (F:=F+3) (last:=last) hA (by omega) hpc (by omega) hx hcN h0 (by rw[hm];exact w1) hd2 rfl (RY w2 w3 w5 w6) (first:=first) (l:=l) (λkey hkey=>
   PC (last:=last) (by rw[hm];exact w1) (λs hs=>⟨hkey s hs,by
    have hM:=hA.hM;subst hs;have:=(hA.hc ⟨4,0,s,0⟩ (List.mem_of_mem_drop (by rw[hd2];simp[BS]))).1;simp only at this;omega⟩) hl2 (λl' hl'=>by
     rw[Hf];have hat:Ao (Fo.node none cc kids .nil).flat 0=cc:=by rw[hfl];rfl
     have hlen0:0<(Fo.node none cc kids .nil).flat.length:=by rw[hfl];simp
     have hbl:=Ks cc (kids.txt true);rw[Afg,hbl] at hl';have hb:∀l2:Ah,l2.length=l'.length+1→∃b,HW (F+1) (Fo.node none cc kids .nil).flat true l2 cc=some (b,l2++kids.txt true):=λl2 hl2'=>by
       rw[HW];unfold Jt;have i0:(0:Int)<((Fo.node none cc kids .nil).flat.length:Int):=by omega
       obtain⟨o,b,ho1,ho2⟩:=ihk (Fo.node none cc kids .nil).flat cc F F 1 0 true l2 _ none [] hAe hat rfl hcM.2.2 w6 (by rw[hfl];simp) (by decide) (by omega) (Afz 0) (by rw[Afg];omega) (by omega) (by omega);exact⟨b,by rw[Bh (Afz 0) i0,BQ ho1,ho2]⟩
     exact Mk hat hlen0 (Kg w2 w3).1 (by rw[Afg,hbl];exact hl') hb))
  obtain⟨o,b,ho1,ho2⟩:=ih v c (F+3) L (at_+(BS k).length+((Fo.node none cc kids .nil).flat.length:Int)) (x+1) false (l++(EG first++KE k++QN cc (kids.txt true))) m k ys hA hpc hm hcN w4 (CW (by omega) hd1) (by omega) (by omega) (by omega) hlen (by omega) (by omega);exact⟨o,b,OH hb ho1,ho2⟩
theorem X1 {f:Fo}{F:Nat}{l:Ah}(hA:Gh M f.flat)(h1:f.one=true)(hw:f.wf false none=true)(hF:M+8+3*f.flat.length<F)(hlen:(l++f.txt true).length≤140737488355328):Hf F l f.flat=some (l++f.txt true):=by
 have hM:=hA.hM;have hvM:=hA.hv
 cases f with
 | nil=>cases h1
 | cell k c r=>
  cases k with
  | some s=>cases h1
  | none=>
   cases r with
   | nil=>
    simp only[Fo.wf,Afb,Af0] at hw;have hfl:(Fo.cell none c .nil).flat=[c]:=by simp[Fo.flat,BS]
    have hcM:=hA.hc c (by rw[hfl];simp);have et:(Fo.cell none c .nil).txt true=GU c:=by simp[Fo.txt,EG,KE]
    rw[et] at hlen ⊢;obtain⟨F,rfl⟩:∃K,F=K+3:=⟨F-3,by omega⟩
    rw[hfl];exact O7 hw.1.1.2 hw.1.2 (by omega) hcM.2.1 hlen
   | cell _ _ _=>cases h1
   | node _ _ _ _=>cases h1
 | node k c kids r=>
  cases k with
  | some s=>cases h1
  | none=>
   cases r with
   | nil=>
    simp only[Fo.wf,Afb,AeX] at hw;obtain⟨⟨⟨⟨⟨w1,w2⟩,w3⟩,w5⟩,w6⟩,w4⟩:=hw;have hfl:(Fo.node none c kids .nil).flat=c::kids.flat:=by simp[Fo.flat,BS]
    have hcM:=hA.hc c (by rw[hfl];simp);have et:(Fo.node none c kids .nil).txt true=QN c (kids.txt true):=by simp[Fo.txt,EG,KE]
    rw[et] at hlen ⊢;have hcf:=CJ kids;have hat:Ao (Fo.node none c kids .nil).flat 0=c:=by rw[hfl];rfl
    have hlen0:0<(Fo.node none c kids .nil).flat.length:=by rw[hfl];simp
    have hl1:(Fo.node none c kids .nil).flat.length=kids.flat.length+1:=by rw[hfl];simp
    have hbl:=Ks c (kids.txt true);obtain⟨F,rfl⟩:∃K,F=K+2:=⟨F-2,by omega⟩
    rw[Hf];refine Mk hat hlen0 (Kg w2 w3).1 hlen (λl2 hl2=>?_);rw[Afg,hbl] at hlen;rw[HW];unfold Jt;have i0:(0:Int)<((Fo.node none c kids .nil).flat.length:Int):=by omega
    obtain⟨o,b,ho1,ho2⟩:=QU kids (Fo.node none c kids .nil).flat c F F 1 0 true l2 _ none [] hA hat rfl hcM.2.2 w6 (by rw[hfl];simp) (by decide) (by omega) (Afz 0) (by rw[Afg];omega) (by omega) (by omega);exact⟨b,by rw[Bh (Afz 0) i0,BQ ho1,ho2]⟩
   | cell _ _ _=>cases h1
   | node _ _ _ _=>cases h1
def UJ (v:List Ab):Ah×Int:=match whole v with
 | none=>([],1)
 | some f=>bif decide (Pa f=0) then(f.txt true,0) else([],Pa f)
theorem AbA (n:Int):Lib.itoa n≠[]:=by
 unfold Lib.itoa
 split
 ·simp
 ·intro h;have:=congrArg List.length h;rw[Lib.decDigits_length] at this;have:=Lib.nDigits_pos n.toNat;simp at *;omega
theorem Wm {f:Fo}(hw:f.wf false none=true)(h1:f.one=true):0<(f.txt true).length:=by
 have e:=Ka f false none true hw
 cases f with
 | nil=>cases h1
 | cell k c r=>
  have h2:=Jb hw;simp only[Fo.txt,Afg];simp only[Fo.wf,Afb] at hw;have hp:=hw.1.1.2;have:0<(GU c).length:=by
   have hl:=RA hp;have:0<Y9 c:=by
    unfold Y9
    cases h1:decide (c.fKind=1) with
    | true=>simp
    | false=>
     cases h2:decide (c.fKind=2) with
     | true=>
      simp[pl,h1,h2] at hp;simp only[Afc,Afi];omega
     | false=>
      cases h3:decide (c.fKind=3) with
      | true=>
       simp only[Afc,Afi];have:Lib.itoa c.fInt≠[]:=AbA _;have:=List.length_pos_iff.2 this;omega
      | false=>
       cases h4:decide (c.fKind=4) with
       | true=>have:=Nf c.fStr;simp only[Afc,Afi];omega
       | false=>simp
   omega
  omega
 | node k c kids r=>
  have:=Ks c (kids.txt true);simp only[Fo.txt,Afg];omega
theorem Vj {v:List Ab}(hA:Gh M v)(hM:M≤2000000){F:Nat}(hF:4*M+8<F):JW F v=some (UJ v):=by
 have hvM:=hA.hv;unfold JW UJ;rw[Rt hA hM (by omega),BQ rfl];unfold EU
 cases hwh:whole v with
 | none=>rfl
 | some f=>
  change B0 (!decide (Pa f=0)) _ _=some (bif decide (Pa f=0) then(f.txt true,0) else([],Pa f))
  cases he:decide (Pa f=0) with
  | false=>rw[Bo (p:=!false) rfl];rfl
  | true=>
   obtain⟨h1,h2,h3⟩:=Mj hwh;have hl:v.length=f.flat.length:=by rw[h1]
   have hc:∀c∈f.flat,c.fStr.length≤M∧BM .i64 c.fInt=true∧c.fN≤9223372036854775807:=λc hc=>hA.hc c (by rw[h1];exact hc);have hb:=Ot hM h2 (by omega) hc;have htl:((f.txt true).length:Int)=f.byt:=by rw[Ka f false none true h2,Su h3];simp
   have hA':Gh M f.flat:=by rw[← h1];exact hA
   have hw:=X1 (F:=F) (l:=[]) hA' h3 h2 (by omega) (by rw[AfV];omega);rw[Bg (p:=!true) rfl,h1,hw,BQ rfl,AfV,Cr (Afa (Wm h2 h3))];rfl
end
def Zd (v:List Ab):Bool:=!decide (300<v.length)&&v.all λc=>!decide (300<c.fStr.length)
def Zy (c:Ab):Bool:=BM .i64 c.fKind&&BM .i64 c.fInt&&okS c.fStr&&BM .i64 c.fN
theorem Gh.of {v:List Ab}(hs:Zd v=true)(hc:v.all Zy=true):Gh 300 v:=by
 unfold Zd at hs;simp only[Afb,Af0,AeY,Af8] at hs hc;refine⟨by decide,by omega,λc h=>?_⟩;obtain h1:=hs.2 c h;obtain h2:=hc c h;unfold Zy at h2;simp only[Afb] at h2;exact⟨by omega,h2.1.1.2,(IW h2.2).2⟩
theorem Vv {F:Nat}{v:List Ab}(hF:v.length<F)(hv:v.length≤1152921504606846976):Ky F v v=some true:=by
 unfold Ky;rw[Bg (by simp)];obtain⟨o,h1,h2⟩:=G0 (body:=λσ=>Iz v v σ) (λx=>0≤x∧x≤(v.length:Int)) (λx=>v.length-x.toNat) (λo=>Cf (λ_=>KN) o=some true) (λx ⟨h0,hl⟩=>by
  by_cases hx:x<(v.length:Int)
  ·refine .inl ⟨x+1,?_,⟨by omega,by omega⟩,by omega⟩;unfold Iz;rw[Bo (Afa hx),Bh h0 hx,Bh h0 hx,Bg (by simp),AX (by omega) (by omega)]
  ·exact .inr ⟨.go (),by unfold Iz;rw[Bg (AeZ hx)],rfl⟩) F 0 ⟨Afz 0,by omega⟩ (by show v.length-0<F;omega)
 rw[BQ h1,h2]
section
variable {M : Nat}
end
theorem BU {α:Type}[Inhabited α]{l:List α}{i:Nat}(h:i<l.length):Ao l (i:Int)=l[i]:=by simp[Ao,h]
theorem Kr {α:Type}(p:Bool)(a b:α):B0 p (some a) (some b)=some (bif p then a else b):=by cases p<;>rfl
theorem Cg {α:Type}(a b:Option α):B0 true a b=a:=rfl
theorem B7 {α:Type}(a b:Option α):B0 false a b=b:=rfl
theorem CA {α:Type}(x:Option α):Bl true x=x:=rfl
theorem ZU (a:Bool):imp false a=true:=rfl
theorem CZ (a:Bool):imp a true=true:=by cases a<;>rfl
theorem AY {α β:Type}(a:α)(k:α→Option β):Bs (some a) k=k a:=rfl
theorem ZF {S O:Type}{body:S→Option (Stp S O)}{n:Nat}{s s':S}(h:body s=some (.next s')):Cj body (n+1) s=Cj body n s':=by rw[Cj,h]
theorem S7 {S O:Type}{body:S→Option (Stp S O)}{n:Nat}{s:S}{o:O}(h:body s=some (.out o)):Cj body (n+1) s=some o:=by rw[Cj,h]
theorem Ab0 {α R U:Type}{l:List α}{p:α→Bool}{ret:Nat→R}{body:Int→Option (Stp Int (Out R U))}{u:U}(hb:∀(i:Nat) (h:i<l.length),body (i:Int)=B0 (p l[i]) (some (.out (.ret (ret i)))) (some (.next ((i:Int)+1))))(he:body (l.length:Int)=some (.out (.go u))) :
  ∀(d n i:Nat),i+d=l.length→d<n→Cj body n (i:Int)=some (match (l.drop i).findIdx? p with | some j=>.ret (ret (i+j)) | none=>.go u):=by
 intro d
 induction d with
 | zero=>
  intro n i h hn;obtain⟨n,rfl⟩:∃m,n=m+1:=⟨n-1,by omega⟩
  obtain rfl:i=l.length:=by omega
  rw[Cj,he,List.drop_length];rfl
 | succ d ih=>
  intro n i h hn;obtain⟨n,rfl⟩:∃m,n=m+1:=⟨n-1,by omega⟩
  have hi:i<l.length:=by omega
  rw[Cj,hb i hi,List.drop_eq_getElem_cons hi,List.findIdx?_cons]
  cases hp:p l[i] with
  | true=>simp[B0]
  | false=>
   have:=ih n (i+1) (by omega) (by omega);simp only[B7];refine this.trans ?_
   cases(List.drop (i+1) l).findIdx? p with
   | none=>rfl
   | some j=>simp only[Option.map_some,Afm,Af3];rw[show i+1+j=i+(j+1) by omega]
theorem JE {α R U:Type}{l:List α}{p:α→Bool}{ret:Nat→R}{body:Int→Option (Stp Int (Out R U))}{u:U}{F:Nat}(hF:l.length<F)(hb:∀(i:Nat) (h:i<l.length),body (i:Int)=B0 (p l[i]) (some (.out (.ret (ret i)))) (some (.next ((i:Int)+1))))(he:body (l.length:Int)=some (.out (.go u))) :
  Cj body F 0=some (match l.findIdx? p with | some j=>.ret (ret j) | none=>.go u):=by
 have h:=Ab0 hb he l.length F 0 (by omega) hF;rw[List.drop_zero] at h;refine h.trans ?_
 cases l.findIdx? p with
 | none=>rfl
 | some j=>simp only[AfA]
def Uz {α:Type}(l:List α)(p:α→Bool):Int:=match l.findIdx? p with
 | some j=>(j:Int)
 | none=>-1
theorem ES {α:Type}(l:List α)(p:α→Bool):decide (0≤Uz l p)=l.any p:=by
 unfold Uz
 cases h:l.findIdx? p with
 | none=>
  have:l.any p=false:=by
   rw[List.any_eq_false];intro x hx;simpa using List.findIdx?_eq_none_iff.1 h x hx
  rw[this];rfl
 | some j=>
  obtain⟨hj,h1,_⟩:=List.findIdx?_eq_some_iff_getElem.1 h;rw[List.any_eq_true.2 ⟨l[j],List.getElem_mem hj,h1⟩];exact Afa (Int.natCast_nonneg j)
theorem Oc {α:Type}{l:List α}{p:α→Bool}{body:Int→Option (Stp Int (Out Int Unit))}{F:Nat}(hF:l.length<F)(hb:∀(i:Nat) (h:i<l.length),body (i:Int)=B0 (p l[i]) (some (.out (.ret (i:Int)))) (some (.next ((i:Int)+1))))(he:body (l.length:Int)=some (.out (.go ()))) :
  Bs (Cj body F 0) (Cf λ_=>some (-1))=some (Uz l p):=by
 rw[JE hF (ret:=λj:Nat=>(j:Int)) hb he,AY];unfold Uz
 cases l.findIdx? p<;>rfl
def PV {α β R:Type}(g:Nat→β→α→Out R β):Nat→β→List α→Out R β
 | _,acc,[]=>.go acc
 | i,acc,x::r=>match g i acc x with
  | .ret q=>.ret q
  | .go b=>PV g (i+1) b r
def AdF {R β U:Type}(f:β→U):Out R β→Out R U
 | .ret q=>.ret q
 | .go b=>.go (f b)
def AdQ {S R U β:Type}(mk:β→S):Out R β→Stp S (Out R U)
 | .ret q=>.out (.ret q)
 | .go b=>.next (mk b)
theorem ZE {α β R S U:Type}{l:List α}{mk:Nat→β→S}{body:S→Option (Stp S (Out R U))}{fin:β→U}(g:Nat→β→α→Out R β)(P:Nat→β→Prop)
  (hb:∀(i:Nat) (h:i<l.length) (acc:β),P i acc→body (mk i acc)=some (AdQ (mk (i+1)) (g i acc l[i]))∧∀b,g i acc l[i] = .go b→P (i+1) b)
  (he:∀acc,P l.length acc→body (mk l.length acc)=some (.out (.go (fin acc)))) :
  ∀(d i n:Nat) (acc:β),i+d=l.length→d<n→P i acc→Cj body n (mk i acc)=some (AdF fin (PV g i acc (l.drop i)))∧∀b,PV g i acc (l.drop i) = .go b→P l.length b:=by
 intro d
 induction d with
 | zero=>
  intro i n acc h hn hP;obtain⟨n,rfl⟩:∃m,n=m+1:=⟨n-1,by omega⟩
  obtain rfl:i=l.length:=by omega
  rw[Cj,he _ hP,List.drop_length];exact⟨rfl,λb hb=>by cases hb;exact hP⟩
 | succ d ih=>
  intro i n acc h hn hP;obtain⟨n,rfl⟩:∃m,n=m+1:=⟨n-1,by omega⟩
  have hi:i<l.length:=by omega
  obtain⟨h1,h2⟩:=hb i hi acc hP;rw[Cj,h1,List.drop_eq_getElem_cons hi,PV]
  cases hg:g i acc l[i] with
  | ret q=>exact⟨rfl,λb hb=>by cases hb⟩
  | go b=>exact ih (i+1) n b (by omega) (by omega) (h2 b hg)
theorem No {α β R S U:Type}{l:List α}{mk:Nat→β→S}{body:S→Option (Stp S (Out R U))}{fin:β→U}(g:Nat→β→α→Out R β)(P:Nat→β→Prop)
  (hb:∀(i:Nat) (h:i<l.length) (acc:β),P i acc→body (mk i acc)=some (AdQ (mk (i+1)) (g i acc l[i]))∧∀b,g i acc l[i] = .go b→P (i+1) b)
  (he:∀acc,P l.length acc→body (mk l.length acc)=some (.out (.go (fin acc)))) {F:Nat} (hF:l.length<F) {a:β} (hP:P 0 a) :
  Cj body F (mk 0 a)=some (AdF fin (PV g 0 a l))∧∀b,PV g 0 a l = .go b→P l.length b:=by
 have h:=ZE (fin:=fin) g P hb he l.length 0 F a (by omega) hF hP;rw[List.drop_zero] at h;exact h
theorem Mc (s w:Ah):Ef s w=some (Li s w):=by
 unfold Ef IL Li;have:imp (decide ((w.length:Int)≤(s.length:Int))) (K3 (w.length:Int) (s.length:Int))=true:=by
  cases hd:decide ((w.length:Int)≤(s.length:Int)) with
  | false=>rfl
  | true=>simp only[imp];rw[Add (by omega) (by simpa using hd)];rfl
 rw[Cr this,show Int.toNat (w.length:Int)=w.length from by omega];simp[Bs]
theorem KM {s x:Ah}(h:s.length≤1000000000)(hx:x.length≤1000):GK s x=some (Ji s x):=by
 unfold GK Ji;have e:decide (x.length≤s.length)=decide ((x.length:Int)≤(s.length:Int)):=by simp
 rw[e]
 cases hd:decide ((x.length:Int)≤(s.length:Int)) with
 | false=>rfl
 | true=>
  have hd':(x.length:Int)≤(s.length:Int):=AfC hd;rw[JI (by omega) (by omega),Add (by omega) (by omega),CZ,CA,CA,show Int.toNat ((s.length:Int)-(x.length:Int))=s.length-x.length from by omega]
theorem Qz {s:Ah}(h:s.length≤1000000000):E8 s=some (Ph s [42]):=by
 unfold E8 Kb HX Ph;rw[KM h (by decide),AY]
 cases hs:Ji s [42] with
 | false=>rfl
 | true=>
  have hl:(1:Int)≤(s.length:Int):=by have:=VF hs;simp only[Af2] at this;omega
  rw[Cg,show(([42]:Ah).length:Int)=1 from rfl,AX (by omega) (by omega),Df (by omega) (by omega),show Int.toNat ((s.length:Int)-1)=s.length-1 from by omega];rfl
theorem U0 {s:Ah}(h:s.length≤1000000000):Mb s=some (Ji s [42]):=by
 unfold Mb LB;rw[KM h (by decide)];rfl
theorem OJ {s:Ah}(h:s.length≤1000000000):JJ s=some (Qe s):=by
 unfold JJ;rw[Qz h,U0 h];simp only[Option.isSome_some,CZ,CA,Es];rfl
theorem U1 {q:Ah}(h:q.length≤1000000000)(s:Ah):Lf q s=some (V6 q s):=by
 unfold Lf V6;rw[OJ h,AY]
 cases Qe q with
 | false=>rfl
 | true=>
  simp only[Afe,B7,Afo];rw[U0 h,AY]
  cases Ji q [42] with
  | false=>rfl
  | true=>
   rw[Cg,Qz h,AY,Mc];rfl
structure Rg (s:Ad):Prop where
 a:s.fActions.length≤2000000
 r:s.fResources.length≤2000000
 sa:∀x∈s.fActions,x.length≤1000000000
 sr:∀x∈s.fResources,x.length≤1000000000
abbrev FB:Nat:=5000000
theorem RC {l:List Ah}(hl:l.length≤2000000)(hs:∀x∈l,x.length≤1000000000):Og FB l=some (l.any λx=>!Qe x):=by
 unfold Og WJ;have:=Oc (l:=l) (p:=λx=>!Qe x) (F:=FB) (body:=IA l) (by show l.length<5000000;omega) (λi h=>by
  unfold IA Nh;rw[Bo (Afa (by omega)),Bh (by omega) (by omega),BU h,OJ (hs _ (List.getElem_mem h)),AY,AY,AX (by omega) (by omega)]) (by unfold IA;rw[Bg (AeZ (by omega))])
 unfold Ld;rw[this,AY,ES]
theorem VG {l:List Ah}(hl:l.length≤2000000)(hs:∀x∈l,x.length≤1000000000)(s:Ah):Nv FB l s=some (l.any λx=>V6 x s):=by
 unfold Nv SA;have:=Oc (l:=l) (p:=λx=>V6 x s) (F:=FB) (body:=Hi l s) (by show l.length<5000000;omega) (λi h=>by
  unfold Hi Pq;rw[Bo (Afa (by omega)),Bh (by omega) (by omega),BU h,U1 (hs _ (List.getElem_mem h)),AY,AY,AX (by omega) (by omega)]) (by unfold Hi;rw[Bg (AeZ (by omega))])
 unfold JG;rw[this,AY,ES]
theorem R2 {l:List Ah}(hl:l.length≤2000000)(hs:∀x∈l,x.length≤1000000000)(s:Ah):GS FB l s=some (l.any λx=>V6 x s):=by
 unfold GS;rw[VG hl hs];rfl
def ZJ (l:List Ah):Bool:=decide ((l.length:Int)<1)||decide (8<(l.length:Int))
def Vz (s:Ad):Int:=bif ZJ s.fActions||ZJ s.fResources then 3 else bif (s.fActions.any λx=>!Qe x)||(s.fResources.any λx=>!Qe x) then 4 else 0
theorem Qc {s:Ad}(h:Rg s):Gz FB s=some (Vz s):=by
 unfold Gz I2 I1 Vz;rw[JE (l:=[s.fActions,s.fResources]) (p:=ZJ) (ret:=λ_=>(3:Int)) (u:=()) (body:=G8 s) (by show 2<5000000;omega) (λi hi=>by
  unfold G8;rw[Bo (Afa (by omega)),Bh (by omega) (by omega),BU hi,AX (by simp at hi;omega) (by simp at hi;omega)];rfl) (by unfold G8;rw[Bg (AeZ (by omega))]),AY]
 have e2:∀x∈[s.fActions,s.fResources],Og FB x=some (x.any λx=>!Qe x):=by
  intro x hx;simp only[AfH,List.not_mem_nil,or_false] at hx;rcases hx with rfl | rfl
  ·exact RC h.a h.sa
  ·exact RC h.r h.sr
 rw[JE (l:=[s.fActions,s.fResources]) (p:=λl=>l.any λx=>!Qe x) (ret:=λ_=>(4:Int)) (u:=()) (body:=G7 FB s) (by show 2<5000000;omega) (λi hi=>by
  unfold G7;rw[Bo (Afa (by omega)),Bh (by omega) (by omega),BU hi,e2 _ (List.getElem_mem hi),AY,AX (by simp at hi;omega) (by simp at hi;omega)]) (by unfold G7;rw[Bg (AeZ (by omega))]),AY]
 simp only[List.findIdx?_cons,List.findIdx?_nil]
 cases ZJ s.fActions<;>cases ZJ s.fResources<;>cases(s.fActions.any λx=>!Qe x)<;>cases(s.fResources.any λx=>!Qe x)<;>rfl
def VN (allow:Bool)(action resource:Ah)(x:Ad):Bool:=(x.fAllow ==allow)&&(decide (Vz x=0)&&((x.fActions.any λy=>V6 y action)&&(x.fResources.any λy=>V6 y resource)))
theorem V0 {x:Ad}(h:Rg x)(allow:Bool)(action resource:Ah):Ng FB x allow action resource=some (VN allow action resource x):=by
 unfold Ng;rw[Qc h,R2 h.a h.sa,R2 h.r h.sr];simp only[Option.isSome_some,CZ,CA,Es];rfl
def Abf (l:List Ad)(action resource:Ah):C3:=
 bif l.any (VN false action resource) then⟨false,Uz l (VN false action resource)⟩ else⟨l.any (VN true action resource),Uz l (VN true action resource)⟩
theorem Ur {l:List Ad}(hl:l.length≤2000000)(h:∀x∈l,Rg x)(allow:Bool)(action resource:Ah):Us FB l allow action resource=some (Uz l (VN allow action resource)):=by
 unfold Us Lc;exact Oc (l:=l) (p:=VN allow action resource) (F:=FB) (body:=I9 FB l allow action resource) (by show l.length<5000000;omega) (λi hi=>by
  unfold I9;rw[Bo (Afa (by omega)),Bh (by omega) (by omega),BU hi,V0 (h _ (List.getElem_mem hi)),AY,AX (by omega) (by omega)]) (by unfold I9;rw[Bg (AeZ (by omega))])
theorem OD {l:List Ad}(hl:l.length≤2000000)(h:∀x∈l,Rg x)(action resource:Ah):D1 FB l action resource=some (Abf l action resource):=by
 unfold D1 Qb Abf;rw[Ur hl h,Ur hl h];simp only[AY,ES,Kr]
def QM (n low high:Int):Bool:=decide (low≤n)&&decide (n≤high)
def Nb (bits:Int):Int:=HH .i64 1 (32-bits)-1
theorem T8 {bits:Int}(h:QM bits 0 32=true):0≤Nb bits∧Nb bits≤4294967295:=by
 unfold QM at h;simp only[Afb,AeX] at h;have key:∀k:Nat,k<33→0≤Nb (k:Int)∧Nb (k:Int)≤4294967295:=by decide +kernel
 have:=key bits.toNat (by omega)
 rwa [show((bits.toNat:Nat):Int)=bits from by omega] at this
theorem R6 {bits:Int}(h:QM bits 0 32=true):Et bits=some (Nb bits):=by
 have h1:=T8 h;unfold QM at h;simp only[Afb,AeX] at h;unfold Et;rw[AX (by omega) (by omega),Cr (Afa (by omega)),AX (by unfold Nb at h1;omega) (by unfold Nb at h1;omega)];rfl
def Yz (q:AD):Bool:=!QM q.fAddr 0 4294967295||(!QM q.fBits 0 32||(!QM q.fLow 1 65535||!QM q.fHigh q.fLow 65535))
def NY (q:AD):Int:=bif Yz q then 2 else bif !decide (ZV .i64 q.fAddr (Nb q.fBits)=0) then 1 else 0
theorem S4 (n a b:Int):DJ n a b=some (QM n a b):=rfl
theorem Qm (q:AD):DK q=some (NY q):=by
 unfold DK NY;simp only[S4,Option.isSome_some,CZ,CA,Es];rw[show((!QM q.fAddr 0 4294967295)||((!QM q.fBits 0 32)||((!QM q.fLow 1 65535)||(!QM q.fHigh q.fLow 65535))))=Yz q from rfl]
 cases hb:Yz q with
 | true=>rfl
 | false=>
  have h1:QM q.fBits 0 32=true:=by
   unfold Yz at hb;simp only[AfF,AfT] at hb;exact hb.2.1
  rw[B7,R6 h1,AY,Kr];rfl
def Z6 (addr port:Int)(q:AD):Bool:=decide (NY q=0)&&(QM addr q.fAddr (q.fAddr+Nb q.fBits)&&QM port q.fLow q.fHigh)
theorem XY {q:AD}(h:NY q=0):QM q.fAddr 0 4294967295=true∧QM q.fBits 0 32=true:=by
 unfold NY at h
 cases hb:Yz q with
 | true=>rw[hb] at h;cases h
 | false=>
  unfold Yz at hb;simp only[AfF,AfT] at hb;exact⟨hb.1,hb.2.1⟩
theorem S3 (q:AD)(addr port:Int):JB q addr port=some (Z6 addr port q):=by
 unfold JB Z6;rw[Qm];have e:decide (ov (some (NY q))=0)=decide (NY q=0):=rfl;rw[e]
 cases hd:decide (NY q=0) with
 | false=>simp only[ZU,CA,Afr,Option.isSome_some]
 | true=>
  simp only[Option.isSome_some,CZ,CA,S4,Es];obtain⟨h1,h2⟩:=XY (AfC hd);have h3:=T8 h2;unfold QM at h1;simp only[Afb,AeX] at h1;rw[R6 h2];simp only[Option.isSome_some,CZ,CA,Es];rw[JI (by omega) (by omega)];simp only[CZ,CA]
def AcO (l:List AD)(addr port:Int):C3:=match l.findIdx? (Z6 addr port) with
 | some j=>⟨(Ao l (j:Int)).fAllow,j⟩
 | none=>⟨false,-1⟩
theorem Ua {l:List AD}(hl:l.length≤2000000)(addr port:Int):HC FB l addr port=some (AcO l addr port):=by
 unfold HC AcO;rw[JE (l:=l) (p:=Z6 addr port) (ret:=λj:Nat=>(⟨(Ao l (j:Int)).fAllow,(j:Int)⟩:C3)) (u:=()) (body:=EO l addr port) (by show l.length<5000000;omega) (λi hi=>by
  unfold EO;rw[Bo (Afa (by omega)),Bh (by omega) (by omega),BU hi,S3,AY,AX (by omega) (by omega)]) (by unfold EO;rw[Bg (AeZ (by omega))]),AY]
 cases l.findIdx? (Z6 addr port)<;>rfl
def Dk:Ah→List Ah
 | []=>[[]]
 | c::r=>bif decide (c=46) then[]::Dk r else match Dk r with
  | p::ps=>(c::p)::ps
  | []=>[]
theorem Mn:∀s:Ah,(Dk s).length=Lib.countByte s 46+1
 | []=>rfl
 | c::r=>by
  have ih:=Mn r;unfold Lib.countByte at *;rw[Dk,List.count_cons]
  by_cases hc:c=46
  ·subst hc;simp[ih]
  ·rw[AeZ hc,Afc];have:(c ==46)=false:=by simp[hc]
   rw[this]
   cases h:Dk r with
   | nil=>rw[h] at ih;simp at ih
   | cons p ps=>rw[h] at ih;simpa using ih
theorem NL:∀{s:Ah},0≤Lib.indexByte s 46→Dk s=s.take (Lib.indexByte s 46).toNat::Dk (s.drop ((Lib.indexByte s 46).toNat+1))
 | [],h=>by simp[Lib.indexByte] at h
 | c::r,h=>by
  unfold Lib.indexByte at h ⊢
  by_cases hc:c=46
  ·subst hc;simp[Dk]
  ·have h1:(c ==46)=false:=by simp[hc]
   rw[h1] at h ⊢;simp only[Afm,Af3] at h ⊢;have hg:=(SD r 46).1;have h2:(Lib.indexByte r 46 == -1)=false:=by
    by_cases h3:Lib.indexByte r 46 = -1
    ·rw[h3] at h;simp at h
    ·simp[h3]
   rw[h2] at h ⊢;simp only[Afm,Af3] at h ⊢;have h3:0≤Lib.indexByte r 46:=by simp at h2;omega
   have ih:=NL h3;rw[Dk,AeZ hc,Afc,ih,show Int.toNat (Lib.indexByte r 46+1)=(Lib.indexByte r 46).toNat+1 from by omega];simp
theorem NK:∀{s:Ah},Lib.indexByte s 46<0→Dk s=[s]
 | [],h=>rfl
 | c::r,h=>by
  unfold Lib.indexByte at h
  by_cases hc:c=46
  ·subst hc;simp at h
  ·have h1:(c ==46)=false:=by simp[hc]
   rw[h1] at h;simp only[Afm,Af3] at h;have hg:=(SD r 46).1;have h3:Lib.indexByte r 46<0:=by
    by_cases h4:Lib.indexByte r 46 = -1
    ·omega
    ·rw[show(Lib.indexByte r 46 == -1)=false from by simp[h4]] at h;simp at h;omega
   rw[Dk,AeZ hc,Afc,NK h3]
theorem XH (x:Ah):PU x=some (Lib.indexByte x 46):=by
 unfold PU WI
 by_cases h:([46]:Ah)=x
 ·subst h;rfl
 ·rw[Bg (AeZ h),Bh (by decide) (by decide),AY];rfl
theorem QD {α β:Type}(a:α)(f:α→Option β):KF a f=f a:=rfl
theorem Vn (s:Ah)(hs:s.length≤1000000000):∀(k:Nat) (x:Ah) (dn:List Ah) (n:Nat),(Dk x).length=k+1→dn.length+k=Lib.countByte s 46→k<n→x.length≤1000000000→
  Bs (Cj (λσ=>CS s σ.1 σ.2.1 σ.2.2) n (x,(dn.length:Int),dn++List.replicate (k+1) ([]:Ah))) (Cf λν=>Em ν.1 ν.2.1 ν.2.2)=some (dn++Dk x):=by
 have hc:Lib.countByte s 46≤s.length:=List.count_le_length;have hmin:min ((Lib.countByte s 46:Int)+1) ((s.length:Int)+1)-1=(Lib.countByte s 46:Int):=by omega
 intro k
 induction k with
 | zero=>
  intro x dn n hl hk hn hx;obtain⟨n,rfl⟩:∃m,n=m+1:=⟨n-1,by omega⟩
  have h0:Lib.indexByte x 46<0:=by
   by_cases h:0≤Lib.indexByte x 46
   ·have:=NL h;rw[this] at hl;have h2:=Mn (x.drop ((Lib.indexByte x 46).toNat+1));simp only[Afk] at hl;omega
   ·omega
  have hbody:CS s x (dn.length:Int) (dn++List.replicate 1 ([]:Ah))=some (.out (.go (x,(dn.length:Int),dn++List.replicate 1 ([]:Ah)))):=by
   unfold CS;rw[hmin,Bg (AeZ (by omega))]
  rw[S7 (body:=λσ=>CS s σ.1 σ.2.1 σ.2.2) hbody,AY];show Em x (dn.length:Int) (dn++List.replicate 1 ([]:Ah))=_;unfold Em;rw[QD];have e1:List.set (dn++List.replicate 1 ([]:Ah)) (Int.toNat (dn.length:Int)) x=dn++[x]:=by
   rw[show Int.toNat (dn.length:Int)=dn.length from by omega];simp[List.set_append]
  rw[e1,Bh (by omega) (by simp;omega),AX (by omega) (by omega),Df (by omega) (by simp),NK h0,show Int.toNat ((dn.length:Int)+1)=(dn++[x]).length from by simp,AfR]
 | succ k ih=>
  intro x dn n hl hk hn hx;obtain⟨n,rfl⟩:∃m,n=m+1:=⟨n-1,by omega⟩
  have h0:0≤Lib.indexByte x 46:=by
   by_cases h:0≤Lib.indexByte x 46
   ·exact h
   ·rw[NK (by omega)] at hl;simp at hl
  have hb:=(SD x 46).2;have e:=NL h0;rw[e] at hl;simp only[Afk] at hl;have hd:(Dk (x.drop ((Lib.indexByte x 46).toNat+1))).length=k+1:=by omega
  have e1:List.set (dn++List.replicate (k+1+1) ([]:Ah)) (Int.toNat (dn.length:Int)) (List.take (Int.toNat (Lib.indexByte x 46+0)) x)=(dn++[x.take (Lib.indexByte x 46).toNat])++List.replicate (k+1) ([]:Ah):=by
   rw[show Int.toNat (dn.length:Int)=dn.length from by omega,show Lib.indexByte x 46+0=Lib.indexByte x 46 from by omega];rw[List.replicate_succ];simp[List.set_append]
  have hbody:CS s x (dn.length:Int) (dn++List.replicate (k+1+1) ([]:Ah))=some (.next (x.drop ((Lib.indexByte x 46).toNat+1),((dn++[x.take (Lib.indexByte x 46).toNat]).length:Int),(dn++[x.take (Lib.indexByte x 46).toNat])++List.replicate (k+1) ([]:Ah))):=by
   unfold CS;rw[hmin,Bo (Afa (by omega)),XH,AY,Bg (AeZ (by omega)),AX (by omega) (by omega),Df (by omega) (by omega),Bh (by omega) (by simp;omega)];rw[QD,e1,AX (by omega) (by omega),Df (by omega) (by omega),AX (by omega) (by omega)];rw[show Int.toNat (Lib.indexByte x 46+1)=(Lib.indexByte x 46).toNat+1 from by omega,show((dn.length:Int)+1)=((dn++[x.take (Lib.indexByte x 46).toNat]).length:Int) from by simp]
  have:=ih (x.drop ((Lib.indexByte x 46).toNat+1)) (dn++[x.take (Lib.indexByte x 46).toNat]) n hd (by simp;omega) (by omega) (by rw[AfJ];omega);rw[ZF (body:=λσ=>CS s σ.1 σ.2.1 σ.2.2) hbody];refine this.trans ?_;rw[e];simp
theorem XG {s:Ah}(hs:s.length≤2000000):PT FB s=some (Dk s):=by
 have hc:Lib.countByte s 46≤s.length:=List.count_le_length;unfold PT N4;rw[AX (by omega) (by omega),AX (by omega) (by omega),Cr (show DE 16 _=true from Afa (by omega)),Cr (Afa (by omega)),AX (by omega) (by omega)];have:=Vn s (by omega) (Lib.countByte s 46) s [] FB (Mn s) (by simp) (by show Lib.countByte s 46<5000000;omega) (by omega);rw[show Int.toNat (min ((Lib.countByte s 46:Int)+1) ((s.length:Int)+1))=Lib.countByte s 46+1 from by omega];rw[show Bs (Cj (λσ=>CS s σ.1 σ.2.1 σ.2.2) FB (s,0,List.replicate (Lib.countByte s 46+1) ([]:Ah))) (Cf λν=>Em ν.1 ν.2.1 ν.2.2)=some (Dk s) from this,AY]
theorem Kc:∀{s:Ah} {p:Ah},p∈Dk s→p.length≤s.length
 | [],p,h=>by simp[Dk] at h;subst h;simp
 | c::r,p,h=>by
  rw[Dk] at h
  by_cases hc:c=46
  ·rw[Afa hc,Afi] at h;rcases List.mem_cons.1 h with rfl | h
   ·simp
   ·have:=Kc h;simp;omega
  ·rw[AeZ hc,Afc] at h
   cases hr:Dk r with
   | nil=>rw[hr] at h;cases h
   | cons q qs=>
    rw[hr] at h;rcases List.mem_cons.1 h with rfl | h
    ·have:=Kc (s:=r) (p:=q) (by rw[hr];simp);simp;omega
    ·have:=Kc (s:=r) (p:=p) (by rw[hr];simp[h]);simp;omega
theorem Wf {n:Nat}(h:n<9223372036854775808):IntKind.i64.wrap (n:Int)=(n:Int):=by
 rw[IntKind.wrap_i64];omega
theorem Qy {a k:Nat}(h:a*2 ^ k<9223372036854775808)(hk:k≤64):HH .i64 (a:Int) (k:Int)=((a*2 ^ k:Nat):Int):=by
 unfold HH;have e:(a:Int)*2 ^ k=((a*2 ^ k:Nat):Int):=by simp
 rw[show min (Int.toNat (k:Int)) (IntKind.bits .i64)=k from by show min (Int.toNat (k:Int)) 64=k;omega,e,Wf h]
theorem SE {a b:Nat}(ha:a<4611686018427387904)(hb:b<4611686018427387904):UY .i64 (a:Int) (b:Int)=((a||| b:Nat):Int):=by
 unfold UY;have h1:a||| b<4611686018427387904:=Nat.or_lt_two_pow (n:=62) ha hb;rw[show(IntKind.bits .i64)=64 from rfl,BitVec.ofInt_natCast,BitVec.ofInt_natCast,BitVec.toNat_or,BitVec.toNat_ofNat,BitVec.toNat_ofNat,Nat.mod_eq_of_lt (by omega),Nat.mod_eq_of_lt (by omega)];exact Wf (by omega)
theorem V3 {a b k:Nat}(h:b<2 ^ k):a*2 ^ k||| b=a*2 ^ k+b:=by
 have:=Nat.shiftLeft_add_eq_or_of_lt h a;rw[Nat.shiftLeft_eq] at this;exact this.symm
theorem or4 {a b c d:Nat}(ha:a<256)(hb:b<256)(hc:c<256)(hd:d<256) :
  UY .i64 (UY .i64 (UY .i64 (HH .i64 (a:Int) 24) (HH .i64 (b:Int) 16)) (HH .i64 (c:Int) 8)) (d:Int)=(((a*256+b)*256+c)*256+d:Nat):=by
 rw[show(24:Int)=((24:Nat):Int) from rfl,show(16:Int)=((16:Nat):Int) from rfl,show(8:Int)=((8:Nat):Int) from rfl];rw[Qy (by omega) (by omega),Qy (by omega) (by omega),Qy (by omega) (by omega)];have e1:a*2 ^ 24||| b*2 ^ 16=a*2 ^ 24+b*2 ^ 16:=V3 (by omega);rw[SE (by omega) (by omega),e1,SE (by omega) (by omega)];have e2:(a*2 ^ 24+b*2 ^ 16)||| c*2 ^ 8=(a*2 ^ 24+b*2 ^ 16)+c*2 ^ 8:=by
  have:=V3 (a:=a*2 ^ 8+b) (b:=c*2 ^ 8) (k:=16) (by omega);rw[show(a*2 ^ 8+b)*2 ^ 16=a*2 ^ 24+b*2 ^ 16 from by omega] at this;exact this
 rw[e2,SE (by omega) (by omega)];have e3:(a*2 ^ 24+b*2 ^ 16+c*2 ^ 8)||| d=(a*2 ^ 24+b*2 ^ 16+c*2 ^ 8)+d:=by
  have:=V3 (a:=a*2 ^ 16+b*2 ^ 8+c) (b:=d) (k:=8) (by omega);rw[show(a*2 ^ 16+b*2 ^ 8+c)*2 ^ 8=a*2 ^ 24+b*2 ^ 16+c*2 ^ 8 from by omega] at this;exact this
 rw[e3];have e4:a*2 ^ 24+b*2 ^ 16+c*2 ^ 8+d=((a*256+b)*256+c)*256+d:=by omega
 rw[e4]
def TO (p:Ah):Bool:=decide (E1 p=0)&&QM (C7 p) 0 255
def YN (l:List Ah):Int:=l.foldl (λa p=>256*a+C7 p) 0
def Xh (s:Ah):Int×Int:=bif decide ((Dk s).length=4)&&(Dk s).all TO then(YN (Dk s),0) else(0,1)
theorem Wt {α β R:Type}(ok:α→Bool)(f:Nat→β→α→β)(q:R):∀(l:List α) (i:Nat) (a:β),l.all ok=false→PV (λi acc x=>bif ok x then Out.go (f i acc x) else Out.ret q) i a l=Out.ret q
 | [],i,a,h=>by simp at h
 | x::l,i,a,h=>by
  rw[PV]
  cases hx:ok x with
  | false=>rfl
  | true=>
   rw[List.all_cons,hx,Afo] at h;exact Wt ok f q l (i+1) _ h
theorem S5 {s:Ah}(hs:s.length≤2000000):JC FB s=some (Xh s):=by
 unfold JC Xh;rw[XG hs,AY];have hm:∀p∈Dk s,p.length≤2000000:=λp hp=>Nat.le_trans (Kc hp) hs;generalize Dk s=l at hm
 by_cases h4:l.length=4
 ·rw[Bg (by rw[Afa (by omega)];rfl),Afa h4,Afo];have hr:=(No (l:=l) (mk:=λi acc=>((i:Int),acc)) (body:=λσ=>DL l σ.1 σ.2) (fin:=λacc:List Int=>acc)
   (λi acc p=>bif TO p then(.go (acc.set i (C7 p)):Out (Int×Int) (List Int)) else .ret (0,1)) (λ_ acc=>acc.length=4) (λi h acc hP=>by
    refine⟨?_,λb hb=>?_⟩
    ·unfold DL;simp only;rw[Bo (Afa (by omega)),Bh (by omega) (by omega),BU h,Cr (show DE 1 l[i].length=true from Afa (by have:=hm _ (List.getElem_mem h);omega))];simp only[S4,Option.isSome_some,CZ,CA,Es];unfold TO
     cases decide (E1 l[i]=0) with
     | false=>rfl
     | true=>
      cases hi:QM (C7 l[i]) 0 255 with
      | false=>rfl
      | true=>
       simp only[Afe,Bool.or_self,B7,Bool.and_self,Afi];rw[Bh (by omega) (by omega),Bh (by omega) (by omega),AX (by omega) (by omega),show Int.toNat (i:Int)=i from by omega];rfl
    ·cases ho:TO l[i] with
     | false=>rw[ho] at hb;cases hb
     | true=>rw[ho] at hb;simp only[Afi,Out.go.injEq] at hb;subst hb;simpa using hP) (λacc hP=>by unfold DL;rw[Bg (AeZ (by omega))]) (F:=FB) (by show l.length<5000000;omega) (a:=List.replicate 4 (0:Int)) rfl).1
  rw[show Cj (λσ=>DL l σ.1 σ.2) FB (0,List.replicate 4 (0:Int))=_ from hr,AY]
  cases ha:l.all TO with
  | false=>
   have e:=Wt TO (λ(i:Nat) (acc:List Int) p=>acc.set i (C7 p)) ((0:Int),(1:Int)) l 0 (List.replicate 4 0) ha;rw[e];rfl
  | true=>
   match l,h4,ha with
   | [p0,p1,p2,p3],_,ha=>
    simp only[List.all_cons,List.all_nil,Aft,Afb] at ha;obtain⟨h0,h1,h2,h3⟩:=ha;simp only[PV,h0,h1,h2,h3,Afi];have bd:∀p,TO p=true→∃m:Nat,m<256∧C7 p=(m:Int):=λp hp=>by
     unfold TO QM at hp;simp only[Afb,AeX] at hp;exact⟨(C7 p).toNat,by omega,by omega⟩
    obtain⟨m0,b0,e0⟩:=bd p0 h0;obtain⟨m1,b1,e1⟩:=bd p1 h1;obtain⟨m2,b2,e2⟩:=bd p2 h2;obtain⟨m3,b3,e3⟩:=bd p3 h3;rw[e0,e1,e2,e3];show Gb [(m0:Int),(m1:Int),(m2:Int),(m3:Int)]=some (YN [p0,p1,p2,p3],0);unfold Gb YN;rw[Bh (by decide) (by decide),Bh (by decide) (by simp),Bh (by decide) (by decide),Bh (by decide) (by simp),Bh (by decide) (by decide),Bh (by decide) (by simp),Bh (by decide) (by decide),Bh (by decide) (by simp)];rw[show Ao [(m0:Int),(m1:Int),(m2:Int),(m3:Int)] 0=(m0:Int) from rfl,show Ao [(m0:Int),(m1:Int),(m2:Int),(m3:Int)] 1=(m1:Int) from rfl,show Ao [(m0:Int),(m1:Int),(m2:Int),(m3:Int)] 2=(m2:Int) from rfl,show Ao [(m0:Int),(m1:Int),(m2:Int),(m3:Int)] 3=(m3:Int) from rfl,or4 b0 b1 b2 b3];simp only[List.foldl,e0,e1,e2,e3]
    congr 2
    omega
 ·rw[Bo (by rw[AeZ (by omega)];rfl),AeZ h4];rfl
theorem ZN (x:Ah):Ut x=some (Lib.indexByte x 58):=by
 unfold Ut
 by_cases h:([58]:Ah)=x
 ·subst h;rfl
 ·rw[Bg (AeZ h),Bh (by decide) (by decide)];rfl
theorem AaV {s:Ah}(hs:s.length≤1000000000):Zj s=some (Ys s 58,UK s 58,Adq s 58):=by
 have hb:=SD s 58;unfold Zj Wr Ys UK Adq;rw[ZN,AY]
 by_cases h:0≤Lib.indexByte s 58
 ·rw[Bo (Afa h),Df (by omega) (by omega),AX (by omega) (by omega),Df (by omega) (by omega),AfP h,AfP h,Afa h];rfl
 ·rw[Bg (AeZ h),AfI h,AfI h,AeZ h];rfl
theorem AbT (s:Ah):(Ys s 58).length≤s.length∧(UK s 58).length≤s.length:=by
 unfold Ys UK;constructor
 ·split
  ·rw[AfS];omega
  ·exact Afy _
 ·split
  ·rw[AfJ];omega
  ·simp
def Aam (s:Ah)(is:Bool):Int×Int×Bool:=((Xh (Ys s 58)).1,C7 (UK s 58),is&&(Adq s 58&&(decide ((Xh (Ys s 58)).2=0)&&(decide (E1 (UK s 58)=0)&&(decide (1≤C7 (UK s 58))&&decide (C7 (UK s 58)≤65535))))))
theorem N3 {v:List Ab}(h:0<v.length)(hs:(Ao v 0).fStr.length≤2000000):Gf FB v=some (Aam (Ao v 0).fStr (decide ((Ao v 0).fKind=4))):=by
 unfold Gf IK;have hc:=AbT (Ao v 0).fStr;rw[Bh (by omega) (by omega),AY];simp only;rw[AaV (by omega),AY];simp only;rw[S5 (by omega),AY,Cr (show DE 1 _=true from Afa (by omega))];rfl
end Go.Proofs.YtmjlemhondjfhaaGreatDoor
