/-
  Texts of the proof, put together: WTb, PTc, WTc, PTd, WTd, OkTimerNil, LvA, LvB, LvC, LvD, LvE, LvF, LvG, LvH, LvI, LvJ, LvK, LvL, LvM, LvN, LvO, LvP, PO, LmA, LmB, LmS, LwTimerNil.
-/
import Derived.Test.YtkoiaconljdbeaaDoorTN2
import GoSem.ClaimData
namespace Go.Proofs.YtkoiaconljdbeaaDoor.Q
open Go Go.RowKit
set_option linter.unusedVariables false
set_option linter.unusedSimpArgs false
set_option maxRecDepth 100000
set_option maxHeartbeats 4000000
@[reducible] def CL (x:Aa):List Rp:=[rS x.fTimer.fID,rI .i64 x.fTimer.fAt,rS x.fTimer.fTenant,rS x.fTimer.fSource,B0 4 (List.map Ah x.fTimer.fBody),rB x.fTold]
@[reducible] def Ak (x:Aa):Rp:=AZ (CL x)
theorem BY (Z:Fz):(Ak (Aa.mk (Ab.mk ([]:Aj) 0 ([]:Aj) ([]:Aj) ([]:(List Ac))) false)).p Z (.agg #[(.string ⟨#[]⟩),(.int .i64 0),(.string ⟨#[]⟩),(.string ⟨#[]⟩),(.slice none 0 0),(.bool false)]):=⟨[.string ⟨#[]⟩,.int .i64 0,.string ⟨#[]⟩,.string ⟨#[]⟩,.slice none 0 0,.bool false],rfl,rfl,rfl,rfl,rfl,ID.nil _ _,rfl,trivial⟩
theorem Nh:∃inf,Tryd.prog.info? 33=some inf∧inf.zero=some (.agg #[(.string ⟨#[]⟩),(.int .i64 0),(.string ⟨#[]⟩),(.string ⟨#[]⟩),(.slice none 0 0)])∧inf.size=5∧inf.bytes=80:=by
  have key:(Tryd.prog.info? 33).map (λi=>(i.zero,i.size,i.bytes))=some (some (.agg #[(.string ⟨#[]⟩),(.int .i64 0),(.string ⟨#[]⟩),(.string ⟨#[]⟩),(.slice none 0 0)]),5,80):=by kernel_rfl
  obtain⟨inf,h1,h2⟩:=Option.map_eq_some_iff.1 key;simp only[Prod.mk.injEq] at h2;exact⟨inf,h1,h2.1,h2.2.1,h2.2.2⟩
theorem JB (parts:List (Nat×Value)):Tryd.prog.built 45 parts=Instr.fill (λi=>(#[(0,1)]:Array (Nat×Nat))[i]?) #[((.map none))] parts:=by kernel_rfl
theorem Im {n:Nat}{c:Cx}{l:Fr}{H:List Ent}{d:Option Nat}{ty:TypeId}{pos:String}{af:Array Edge}{g:Option (Nat×Bool)}{x0:Operand}{r0:Rp}(h0:ev l x0=some r0)(u0:r0.one=true):AO Tryd.prog n c l H { dst:=d,op:=.build 45 #[(0,x0)],type:=ty,pos:=pos,after:=af,guard:=g } (AZ [r0]):=λa w Z ha _=>by
  have p0:=ha.ev h0;have c0:=Bm (r0.hone u0 Z _ p0);have hb:Tryd.prog.built 45 [(0,a.eval x0)]=some #[a.eval x0]:=by
    rw[JB];generalize a.eval x0=v0 at *;simp[Instr.fill,c0]
  refine⟨.agg #[a.eval x0],⟨[a.eval x0],rfl,p0,trivial⟩,?_⟩;have:=run_build w 45 #[(0,a.eval x0)] _ (by simpa using hb);simp[execOp,this]
theorem Mv (parts:List (Nat×Value)):Tryd.prog.built 53 parts=Instr.fill (λi=>(#[(0,5),(5,1)]:Array (Nat×Nat))[i]?) #[(.string ⟨#[]⟩),(.int .i64 0),(.string ⟨#[]⟩),(.string ⟨#[]⟩),((.slice none 0 0)),(.bool false)] parts:=by kernel_rfl
theorem Il {n:Nat}{c:Cx}{l:Fr}{H:List Ent}{d:Option Nat}{ty:TypeId}{pos:String}{af:Array Edge}{g:Option (Nat×Bool)}{x0:Operand}{r0_0 r0_1 r0_2 r0_3 r0_4:Rp}(h0:ev l x0=some (AZ [r0_0,r0_1,r0_2,r0_3,r0_4])):AO Tryd.prog n c l H { dst:=d,op:=.build 53 #[(0,x0)],type:=ty,pos:=pos,after:=af,guard:=g } (AZ [r0_0,r0_1,r0_2,r0_3,r0_4,rB false]):=λa w Z ha _=>by
  obtain⟨us0,e0,q0⟩:=ha.ev h0;obtain⟨y0_0,y0_1,y0_2,y0_3,y0_4,rfl,q0⟩:=A8.d5 q0;have hb:Tryd.prog.built 53 [(0,a.eval x0)]=some #[y0_0,y0_1,y0_2,y0_3,y0_4,(.bool false)]:=by
    rw[Mv];simp[Instr.fill,e0,Value.cells]
  refine⟨.agg #[y0_0,y0_1,y0_2,y0_3,y0_4,(.bool false)],⟨[y0_0,y0_1,y0_2,y0_3,y0_4,(.bool false)],rfl,q0.1,q0.2.1,q0.2.2.1,q0.2.2.2.1,q0.2.2.2.2.1,rfl,trivial⟩,?_⟩;have:=run_build w 53 #[(0,a.eval x0)] _ (by simpa using hb);simp[execOp,this]
theorem MP  (r:Ax)(h:MQ=some r):Fn Tryd.prog GE 17 [] [] (λR H=>∃u0:Nat,∃u0_0:Nat,R=rv (.pointer (some ⟨u0,0,none⟩))∧H=[.blk u0 [rv (.map (some u0_0))] 45,.map u0_0 (AI Ak r.fTimers)]):=by
 refine enter (n:=4) Tryd.func17 rfl Tryd.ntmps17 rfl (λw Z=>?_);refine AU (l':=[]) (H':=[]) rfl rfl ?_;unfold MQ at h;refine Ao (wv (r:=rv (.pointer none)) (Ai rfl) (BZ (JK rfl (λb1=>?_))));refine wv (r:=AZ [rv (.map (some b1))]) (Im rfl rfl) (Bq rfl rfl (λb2=>?_));refine wa rfl (A2 (A1 ?_));obtain rfl:=A5 h;exact A0 (B3 Tryd.results17 (AM rfl)) (sC (sC sN)) ⟨b2,b1,rfl,rfl⟩
theorem CQ  (r:Bool)(h:HW=some r):Fn Tryd.prog GE 21 [rv (.pointer none)] [] (λR H=>R=rB r∧H=[]):=by
 refine enter (n:=12) Tryd.func21 rfl Tryd.ntmps21 rfl (λw Z=>?_);refine AU (l':=[(0,rv (.pointer none))]) (H':=[]) rfl rfl ?_;unfold HW at h;refine Ao (wv (r:=rB false) (Ai rfl) (A2 (AE [(2,rB false)] [] ?_ ?_)))
 ·refine Au (wm rfl (wv (r:=rB false) (Ii ⟨_,LE⟩ rfl) (wm rfl (Ad (b:=false) rfl rfl rfl rfl (Ad (b:=false) rfl rfl rfl rfl (Ad (b:=false) rfl rfl rfl rfl (Ad (b:=false) rfl rfl rfl rfl (Ad (b:=false) rfl rfl rfl rfl (wv (r:=rB false) (An (b:=false) rfl rfl rfl) (wa rfl (Aq ?_)))))))))));exact wt
 refine A1 ?_;obtain rfl:=A5 h;exact A0 (B3 Tryd.results21 (AM rfl)) sN ⟨rfl,rfl⟩
theorem C6 (ha:Nat)  (r:Bool)(h:GU=some r):Fn Tryd.prog GE 21 [rv (.pointer (some ⟨ha,0,none⟩))] [.blk ha [rv (.map none)] 45] (λR H=>R=rB r∧H=[.blk ha [rv (.map none)] 45]):=by
 refine enter (n:=12) Tryd.func21 rfl Tryd.ntmps21 rfl (λw Z=>?_);refine AU (l':=[(0,rv (.pointer (some ⟨ha,0,none⟩)))]) (H':=[.blk ha [rv (.map none)] 45]) rfl rfl ?_;unfold GU at h;refine Ao (wv (r:=rB false) (Ai rfl) (A2 (AE [(2,rB false)] [.blk ha [rv (.map none)] 45] ?_ ?_)))
 ·refine Au (wm rfl (wv (r:=rB true) (GY ⟨_,LE⟩ rfl) (wm rfl (A9 (b:=true) rfl rfl rfl (wm rfl (A9 (b:=true) rfl rfl rfl (wv (Bk rfl) (A9 (b:=true) rfl rfl rfl (wv (Ae EQ rfl ES rfl rfl) (A9 (b:=true) rfl rfl rfl (wv (A3 (i:=0) ET rfl rfl rfl) (A9 (b:=true) rfl rfl rfl (wv (r:=rB false) (GZ (v:=none) Gk rfl) (wv (r:=rB false) (As (b:=true) rfl rfl rfl) (wa rfl (Aq ?_))))))))))))))));exact wt
 refine A1 ?_;obtain rfl:=A5 h;exact A0 (B3 Tryd.results21 (AM rfl)) (sC sN) ⟨rfl,rfl⟩
theorem Em (hb:Nat)(ha:Nat)(q:Ax)(r:Bool×Ax)(h:Gt q=some r):Fn Tryd.prog GE 21 [rv (.pointer (some ⟨hb,0,none⟩))] [.blk hb [rv (.map (some ha))] 45,.map ha (AI Ak q.fTimers)] (λR H=>R=rB r.1∧H=[.blk hb [rv (.map (some ha))] 45,.map ha (AI Ak r.2.fTimers)]):=by
 refine enter (n:=12) Tryd.func21 rfl Tryd.ntmps21 rfl (λw Z=>?_);refine AU (l':=[(0,rv (.pointer (some ⟨hb,0,none⟩)))]) (H':=[.blk hb [rv (.map (some ha))] 45,.map ha (AI Ak q.fTimers)]) rfl rfl ?_;unfold Gt at h;refine Ao (wv (r:=rB false) (Ai rfl) (A2 (AE [(2,rB true)] [.blk hb [rv (.map (some ha))] 45,.map ha (AI Ak q.fTimers)] ?_ ?_)))
 ·refine Au (wm rfl (wv (r:=rB true) (GY ⟨_,LE⟩ rfl) (wm rfl (A9 (b:=true) rfl rfl rfl (wm rfl (A9 (b:=true) rfl rfl rfl (wv (Bk rfl) (A9 (b:=true) rfl rfl rfl (wv (Ae EQ rfl ES rfl rfl) (A9 (b:=true) rfl rfl rfl (wv (A3 (i:=0) ET rfl rfl rfl) (A9 (b:=true) rfl rfl rfl (wv (r:=rB true) (GZ (v:=some ha) Gk rfl) (wv (r:=rB true) (As (b:=true) rfl rfl rfl) (wa rfl (Aq ?_))))))))))))))));exact wt
 refine A1 ?_;obtain rfl:=A5 h;exact A0 (B3 Tryd.results21 (AM rfl)) (sC (sC sN)) ⟨rfl,rfl⟩
theorem Js (ha:Nat)(t:Ab)(now:Int)(r:Bool)(h:Jt t now=some r):Fn Tryd.prog GE 31 [AZ (Af t),rv (.pointer (some ⟨ha,0,none⟩))] [.blk ha [rI .i64 now] 3] (λR H=>R=rB r∧H=[.blk ha [rI .i64 now] 3]):=by
 refine enter (n:=8) Tryd.func31 rfl Tryd.ntmps31 rfl (λw Z=>?_);refine AU (l':=[(0,AZ (Af t)),(1,rv (.pointer (some ⟨ha,0,none⟩)))]) (H':=[.blk ha [rI .i64 now] 3]) rfl rfl ?_;unfold Jt at h;refine Ao (Bq rfl rfl (λb1=>?_));refine wv (r:=rB false) (Ai rfl) (BZ (wv (Ae Cu rfl CU rfl rfl) (wv (A3 (i:=0) Dg rfl rfl rfl) (wv (A3 (i:=1) Dg rfl rfl rfl) (wv (Dk rfl rfl) (wa rfl (A2 (A1 ?_))))))));obtain rfl:=A5 h;exact A0 (B3 Tryd.results31 (AM rfl)) (sS (sC sN)) ⟨rfl,rfl⟩
theorem Iw (F:Nat)(ha:Value)(hb:Nat)(ys:(List Ab))(now:Int)(r:Int)(h:EB F ys now=some r):Fn Tryd.prog GE 42 [rv ha,rv (.func (.func 31) #[] #[(.pointer (some ⟨hb,0,none⟩))])] [.row ha 33 5 (List.map Af ys),.blk hb [rI .i64 now] 3] (λR H=>R=rI .i64 r∧H=[.row ha 33 5 (List.map Af ys),.blk hb [rI .i64 now] 3]):=by
 refine enter (n:=19) Tryd.func42 rfl Tryd.ntmps42 rfl (λw Z=>?_);refine AU (l':=[(0,rv ha),(1,rv (.func (.func 31) #[] #[(.pointer (some ⟨hb,0,none⟩))]))]) (H':=[.row ha 33 5 (List.map Af ys),.blk hb [rI .i64 now] 3]) rfl rfl ?_;unfold EB at h;refine Ao (wv (r:=rI .i64 0) (Ai rfl) (A2 (Az (Ao (wm rfl (wv (Bi (ys:=ys) (enc:=Af) (i:=0) CG rfl rfl) (wv (r:=rI .i64 0) (Av rfl) (A2 (AW ?_)))))))));obtain⟨hn,ho,hj⟩:=AN h;refine Ci (S:=Nat×(Int)×(Unit)) (V:=(Unit)×(Unit)) 0 (λσ=>D3 (λσ=>CJ ys now σ) σ.1 σ.2.1=some hn) (λσ=>[(0,rv ha),(1,rv (.func (.func 31) #[] #[(.pointer (some ⟨hb,0,none⟩))])),(4,rI .i64 0),(7,rI .i64 (ys.length:Int)),(8,rI .i64 σ.2.1)]) (λσ=>[.row ha 33 5 (List.map Af ys),.blk hb [rI .i64 now] 3]) (λσ=>σ.1) (F,0,()) ho (AS.c5 rfl rfl rfl rfl rfl AS.nil) (sC (sC sN)) (λσ=>CI =some r) (λσ=>[(4,rI .i64 0)]) (λσ=>[.row ha 33 5 (List.map Af ys),.blk hb [rI .i64 now] 3]) ?_ ?_
 ·rintro⟨h4,hd,⟨⟩⟩ hp;refine AU (l':=[(0,rv ha),(1,rv (.func (.func 31) #[] #[(.pointer (some ⟨hb,0,none⟩))])),(4,rI .i64 0),(7,rI .i64 (ys.length:Int)),(8,rI .i64 hd)]) (H':=[.row ha 33 5 (List.map Af ys),.blk hb [rI .i64 now] 3]) rfl rfl ?_;obtain⟨hq,rfl,hr,he,hg⟩:=EN hp;replace he:CJ ys now hd=some hr:=he;unfold CJ at he;refine Ao (wv (GL rfl rfl) (A2 (Az (AC (b:=decide (hd<(ys.length:Int))) rfl (λhh=>?_) (λhh=>?_)))))
  ·have hs:=AP hh he;refine AG (Bd (Az (AW (Ao (wm rfl (wa rfl (BZ (wm rfl (wm rfl (wm rfl ?_))))))))));obtain⟨hk,ht⟩:=AK hs;refine wv (r:=rv (BR 5 ha (Int.toNat hd) 0)) (Cw (i:=0) CG BD rfl rfl rfl (AJ hk)) (wv (r:=AZ (Af (Ar ys hd))) (J1 (enc:=Af) (ys:=ys) (i:=0) (j:=hd) E4 BD rfl rfl hk rfl rfl) ?_);obtain⟨hl,hu,hm⟩:=AN ht;refine Jl (rs:=[AZ (Af (Ar ys hd))]) (Hin:=[.blk hb [rI .i64 now] 3]) (Hr:=[.row ha 33 5 (List.map Af ys)]) Tryd.call31 rfl rfl ((A6 (i:=1) rfl).trans (O9 _ (O6 _))) (Js hb (Ar ys hd) now hl hu) rfl ?_;rintro _ _ ⟨rfl,rfl⟩;refine A2 (AC (b:=hl) rfl (λhi=>?_) (λhi=>?_))
   ·have hw:=AP hi hm;refine Ao (wm rfl (wa rfl (A2 (A1 (AB (Am (Am (B6 ?_))))))));have hx:=CH hw hg hj;refine AB (Am (D8 (H2:=[.row ha 33 5 (List.map Af ys),.blk hb [rI .i64 now] 3]) ((A6 (i:=1) rfl).trans (O9 _ (O6 _))) ?_));obtain rfl:=A5 hx;exact A0 (B3 Tryd.results42 (AM rfl)) (sC (sC sN)) ⟨rfl,rfl⟩
   ·have hy:=AQ hi hm;refine AG (Ba (Bd (Au ?_)));obtain⟨hz,h0⟩:=AK hy;refine wv (CE rfl rfl hz) (wm rfl (Aq (D8 (H2:=[.row ha 33 5 (List.map Af ys),.blk hb [rI .i64 now] 3]) ((A6 (i:=1) rfl).trans (O9 _ (O6 _))) ?_)));have h1:=C8 h0 hg;exact Aw (AL (hq,hd+1,()) ⟨h1,Pc _⟩ (AS.c5 rfl rfl rfl rfl rfl AS.nil) (sC (sC sN)))
  ·have h2:=AQ hh he;refine BG (AF ?_);have h3:=Dx h2 hg hj;exact AF (B7 (AL ((),()) h3 (AS.c rfl AS.nil) (sC (sC sN))))
 ·rintro⟨⟨⟩,⟨⟩⟩ hf;refine Ei (l':=[(4,rI .i64 0)]) (H':=[.row ha 33 5 (List.map Af ys),.blk hb [rI .i64 now] 3]) rfl rfl ?_;replace hf:CI =some r:=hf;unfold CI at hf;refine Bp (Bd (Ao (wv (r:=rI .i64 (-1)) (Ai rfl) (A2 (A1 ?_)))));obtain rfl:=A5 hf;exact A0 (B3 Tryd.results42 (AM rfl)) (sC (sC sN)) ⟨rfl,rfl⟩
theorem HD (F:Nat)(hd:Value)(he:Nat)(ys:(List Ab))(now:Int)(r:(List Ab))(h:Eb F ys now=some r):Fn Tryd.prog GE 30 [rv hd,rv (.func (.func 31) #[] #[(.pointer (some ⟨he,0,none⟩))])] [.row hd 33 5 (List.map Af ys),.blk he [rI .i64 now] 3] (λR H=>∃u0:Value,R=rv u0∧H=[.row u0 33 5 (List.map Af r),.blk he [rI .i64 now] 3]):=by
 refine enter (n:=42) Tryd.func30 rfl Tryd.ntmps30 rfl (λw Z=>?_);refine AU (l':=[(0,rv hd),(1,rv (.func (.func 31) #[] #[(.pointer (some ⟨he,0,none⟩))]))]) (H':=[.row hd 33 5 (List.map Af ys),.blk he [rI .i64 now] 3]) rfl rfl ?_;unfold Eb at h;refine Ao (wv (r:=rv (.slice none 0 0)) (Ai rfl) (BZ (wm rfl (wm rfl ?_))));obtain⟨r1,e3,h2⟩:=AN h;refine Do (Hr:=[]) Tryd.call42 (Iw F hd he ys now r1 e3) rfl (O6 _) rfl ?_;rintro _ _ ⟨rfl,rfl⟩;refine wa rfl (A2 (Az (Ao (wm rfl (wv (Bj rfl rfl) (A2 (AC (b:=decide (r1=(-1))) rfl (λc4=>?_) (λc4=>?_))))))))
 ·have h5:=AP c4 h2;refine Ao (wm rfl (wa rfl (A2 (A1 (Am ?_)))));obtain rfl:=A5 h5;exact A0 (B3 Tryd.results30 (AM rfl)) (sC (sC sN)) ⟨hd,rfl,rfl⟩
 ·have h6:=AQ c4 h2;refine AG (Bd (Az (Ao (wm rfl ?_))));obtain⟨g7,h8⟩:=AK h6;refine wv (CE rfl rfl g7) (wa rfl (A2 (AW ?_)));obtain⟨h0,h1,h3⟩:=AN h8;refine Ci (S:=Nat×(Int×Int×(List Ab))×(Unit)) (V:=(Int×(List Ab))×(Unit)) 0 (λσ=>D3 (λσ=>C4 now σ.1 σ.2.1 σ.2.2) σ.1 σ.2.1=some h0) (λσ=>[(0,rv hd),(1,rv (.func (.func 31) #[] #[(.pointer (some ⟨he,0,none⟩))])),(4,rv (.slice none 0 0)),(5,rI .i64 σ.2.1.1),(6,rI .i64 σ.2.1.2.1)]) (λσ=>[.row hd 33 5 (List.map Af σ.2.1.2.2),.blk he [rI .i64 now] 3]) (λσ=>σ.1) (F,(r1,r1+1,ys),()) h1 (AS.c5 rfl rfl rfl rfl rfl AS.nil) (sC (sC sN)) (λσ=>C3 σ.1.1 σ.1.2=some r) (λσ=>[(0,rv hd),(4,rv (.slice none 0 0)),(5,rI .i64 σ.1.1)]) (λσ=>[.row hd 33 5 (List.map Af σ.1.2),.blk he [rI .i64 now] 3]) ?_ ?_
  ·rintro⟨hV,⟨hf,ha,hb⟩,⟨⟩⟩ h4;refine AU (l':=[(0,rv hd),(1,rv (.func (.func 31) #[] #[(.pointer (some ⟨he,0,none⟩))])),(4,rv (.slice none 0 0)),(5,rI .i64 hf),(6,rI .i64 ha)]) (H':=[.row hd 33 5 (List.map Af hb),.blk he [rI .i64 now] 3]) rfl rfl ?_;obtain⟨h7,rfl,hn,hh,hs⟩:=EN h4;replace hh:C4 now hf ha hb=some hn:=hh;unfold C4 at hh;refine Az (Ao (wm rfl (wm rfl (wv (Bi (ys:=hb) (enc:=Af) (i:=0) CG rfl rfl) (wv (GL rfl rfl) (A2 (AC (b:=decide (ha<(hb.length:Int))) rfl (λho=>?_) (λho=>?_))))))))
   ·have h9:=AP ho hh;refine AG (Bd (Cv (S:=(Int×Bool×Bool×(List Ab))×(Unit)) (λσ=>BT ha σ.1.1 σ.1.2.1 σ.1.2.2.1 σ.1.2.2.2=some hn) (λσ=>[(0,rv hd),(1,rv (.func (.func 31) #[] #[(.pointer (some ⟨he,0,none⟩))])),(4,rv (.slice none 0 0)),(5,rI .i64 σ.1.1),(6,rI .i64 ha),(16,rI .i64 ha),(17,rv hd),(18,rI .i64 (hb.length:Int)),(19,rB (decide (ha<(hb.length:Int)))),(22,rv hd),(23,rI .i64 ha),(25,AZ (Af (Ar hb ha))),(26,rv (.func (.func 31) #[] #[(.pointer (some ⟨he,0,none⟩))])),(27,AZ (Af (Ar hb ha))),(28,rB σ.1.2.1),(29,rB σ.1.2.2.1)]) (λσ=>[.blk he [rI .i64 now] 3,.row hd 33 5 (List.map Af σ.1.2.2.2)]) ?_ ?_))
    ·refine AW (Ao (wm rfl (wm rfl ?_)));obtain⟨ht,hA⟩:=AK h9;refine wv (r:=rv (BR 5 hd (Int.toNat ha) 0)) (Cw (i:=0) CG BD rfl rfl rfl (AJ ht)) (wv (r:=AZ (Af (Ar hb ha))) (J1 (enc:=Af) (ys:=hb) (i:=0) (j:=ha) E4 BD rfl rfl ht rfl rfl) (Cj (cs:=[rS ([]:Aj),rI .i64 0,rS ([]:Aj),rS ([]:Aj),rv (.slice none 0 0)]) Kw rfl rfl (λhp=>?_)));refine Bx (i:=0) BD rfl rfl rfl (Bv.c rfl) rfl rfl (cs':=[rS ((Ar hb ha).fID),rI .i64 ((Ar hb ha).fAt),rS ((Ar hb ha).fTenant),rS ((Ar hb ha).fSource),B0 4 (List.map Ah ((Ar hb ha).fBody))]) rfl (H':=[.blk hp (Af (Ar hb ha)) 33,.row hd 33 5 (List.map Af hb),.blk he [rI .i64 now] 3]) rfl (BZ (wm rfl (wv (AY (i:=0) E4 BD rfl rfl rfl rfl) ?_)));obtain⟨hg,hB,hu⟩:=AN hA;refine Jl (rs:=[AZ (Af (Ar hb ha))]) (Hin:=[.blk he [rI .i64 now] 3]) (Hr:=[.blk hp (Af (Ar hb ha)) 33,.row hd 33 5 (List.map Af hb)]) Tryd.call31 rfl rfl ((A6 (i:=2) rfl).trans (O9 _ (O6 _))) (Js he (Ar hb ha) now hg hB) rfl ?_;rintro _ _ ⟨rfl,rfl⟩;refine wv (Bt rfl) (A2 (AC (b:=!hg) rfl (λhq=>?_) (λhq=>?_)))
     ·have hC:=AP hq hu;refine Ao (wm rfl (wm rfl (wv (AY (i:=1) E4 BD rfl rfl rfl rfl) ?_)));obtain⟨hw,hD⟩:=AK hC;refine wv (r:=rv (BR 5 hd (Int.toNat hf) 0)) (Cw (i:=2) CG BD rfl rfl rfl (AJ hw)) (LO (enc:=Af) (ys:=hb) (y':=(Ar hb ha)) (i:=2) (j:=hf) BD rfl rfl (Bv.c rfl) rfl hw rfl rfl rfl (H':=[.blk he [rI .i64 now] 3,.blk hp (Af (Ar hb ha)) 33,.row hd 33 5 (List.map Af (List.set hb (Int.toNat hf) (Ar hb ha)))]) rfl ?_);obtain⟨hE,hG,hH⟩:=Hl hD;rw[← hG];refine A2 (Au (wm rfl ?_));obtain⟨hI,hJ⟩:=AK hH;exact wv (CE rfl rfl hI) (wa rfl (Aq (Ba (Aw (AL ((hf+1,hg,!hg,hE),()) hJ (AS.c rfl (AS.c5 rfl rfl rfl rfl rfl (AS.c5 rfl rfl rfl rfl rfl (AS.c5 rfl rfl rfl rfl rfl AS.nil)))) (sC (sS (sC sN))))))))
     ·have hK:=AQ hq hu;exact AG (Ba (Aw (AL ((hf,hg,!hg,hb),()) hK (AS.c rfl (AS.c5 rfl rfl rfl rfl rfl (AS.c5 rfl rfl rfl rfl rfl (AS.c5 rfl rfl rfl rfl rfl AS.nil)))) (sC (sS (sC sN))))))
    ·rintro⟨⟨hr,hx,hy,hk⟩,⟨⟩⟩ hl;refine AU (l':=[(0,rv hd),(1,rv (.func (.func 31) #[] #[(.pointer (some ⟨he,0,none⟩))])),(4,rv (.slice none 0 0)),(5,rI .i64 hr),(6,rI .i64 ha),(16,rI .i64 ha),(17,rv hd),(18,rI .i64 (hb.length:Int)),(19,rB (decide (ha<(hb.length:Int)))),(22,rv hd),(23,rI .i64 ha),(25,AZ (Af (Ar hb ha))),(26,rv (.func (.func 31) #[] #[(.pointer (some ⟨he,0,none⟩))])),(27,AZ (Af (Ar hb ha))),(28,rB hx),(29,rB hy)]) (H':=[.blk he [rI .i64 now] 3,.row hd 33 5 (List.map Af hk)]) rfl rfl ?_;replace hl:BT ha hr hx hy hk=some hn:=hl;unfold BT at hl;refine Au (wm rfl ?_);obtain⟨hL,hN⟩:=AK hl;refine wv (CE rfl rfl hL) (wa rfl (Aq (D8 (H2:=[.row hd 33 5 (List.map Af hk),.blk he [rI .i64 now] 3]) ((A6 (i:=1) rfl).trans (O9 _ (O6 _))) ?_)));have hO:=C8 hN hs;exact Aw (AL (h7,(hr,ha+1,hk),()) ⟨hO,Pc _⟩ (AS.c5 rfl rfl rfl rfl rfl AS.nil) (sC (sC sN)))
   ·have hP:=AQ ho hh;refine BG (AF ?_);have hQ:=Dx hP hs h3;exact AF (B7 (AL ((hf,hb),()) hQ (AS.c rfl (AS.c rfl (AS.c rfl AS.nil))) (sC (sC sN))))
  ·rintro⟨⟨hi,hj⟩,⟨⟩⟩ hm;refine Ei (l':=[(0,rv hd),(4,rv (.slice none 0 0)),(5,rI .i64 hi)]) (H':=[.row hd 33 5 (List.map Af hj),.blk he [rI .i64 now] 3]) rfl rfl ?_;replace hm:C3 hi hj=some r:=hm;unfold C3 at hm;refine Bp (Bd (Ao (wm rfl (wm rfl ?_))));obtain⟨hz,hR⟩:=AK hm;refine wv (r:=rv (Gy 5 hd (Int.toNat hi))) (MY (i:=0) CG BD rfl rfl rfl hz) (Ht (ys:=hj) (enc:=Af) (i:=0) (z0:=Ab.mk ([]:Aj) 0 ([]:Aj) ([]:Aj) ([]:(List Ac))) CG Kw rfl rfl rfl (by decide) (λZ=>⟨rfl,rfl,rfl,rfl,ID.nil _ _,trivial⟩) rfl rfl rfl hz (H':=[.row hd 33 5 (List.map Af (List.take (Int.toNat hi) hj++List.replicate (hj.length-Int.toNat hi) (Ab.mk ([]:Aj) 0 ([]:Aj) ([]:Aj) ([]:(List Ac))))),.blk he [rI .i64 now] 3]) rfl (BZ (wm rfl (wm rfl ?_))));obtain⟨hS,hT⟩:=AK hR;refine M8 (i:=0) CG BD rfl rfl rfl hS rfl (λhU=>?_);refine wa rfl (A2 (A1 ?_));obtain rfl:=A5 hT;exact A0 (B3 Tryd.results30 (AM rfl)) (sC (sC sN)) ⟨hU,rfl,rfl⟩
theorem Jq (hb:Nat)(ha:Nat)(q:Ax)(r:(List Ab)×Ax)(h:Jr q=some r):Fn Tryd.prog GE 9 [rv (.pointer (some ⟨hb,0,none⟩))] [.blk hb [rv (.map (some ha))] 45,.map ha (AI Ak q.fTimers)] (λR H=>∃u0:Value,R=rv u0∧H=[.row u0 33 5 (List.map Af r.1),.blk hb [rv (.map (some ha))] 45,.map ha (AI Ak r.2.fTimers)]):=by
 refine enter (n:=27) Tryd.func9 rfl Tryd.ntmps9 rfl (λw Z=>?_);refine AU (l':=[(0,rv (.pointer (some ⟨hb,0,none⟩)))]) (H':=[.blk hb [rv (.map (some ha))] 45,.map ha (AI Ak q.fTimers)]) rfl rfl ?_;unfold Jr at h;refine Ao (wv (r:=rv (.slice none 0 0)) (Ai rfl) (A2 (Az (Ao (wm rfl ?_)))));obtain⟨r1,e3,h2⟩:=AN h;refine Do (Hr:=[]) DV (Em hb ha q r1 e3) rfl (O6 _) rfl ?_;rintro _ _ ⟨rfl,rfl⟩;refine wv (Bt rfl) (A2 (AC (b:=!r1.1) rfl (λc4=>?_) (λc4=>?_)))
 ·have h5:=AP c4 h2;refine Ao (wv (r:=rv (.slice none 0 0)) (Ai rfl) (A2 (A1 (Am (WK.nilrow (e:=33) (sz:=5) ?_)))));obtain rfl:=A5 h5;exact A0 (B3 NO (AM rfl)) (sC (sC (sC sN))) ⟨(.slice none 0 0                                 ),rfl,rfl⟩
 ·have h6:=AQ c4 h2;refine AG (Bd (Ao (wv (r:=rv (.slice none 0 0)) (Ai rfl) (A2 (Az (Ao (wm rfl (wv (Bk rfl) (wv (Ae EQ rfl ES rfl rfl) (wv (A3 (i:=0) ET rfl rfl rfl) (LK (i:=1) Gk rfl rfl rfl (λb7=>?_))))))))))));refine A2 (AW (WC.nilrow (e:=33) (sz:=5) (Jk (H2:=[.blk hb [rv (.map (some ha))] 45,.mit ha b7 (AI Ak r1.2.fTimers) (AI Ak r1.2.fTimers) none,.row (.slice none 0 0                                 ) 33 5 (List.map Af ([]:List Ab))]) ((A6 (i:=1) rfl).trans (O9 _ ((A6 (i:=1) rfl).trans (O9 _ (O6 _))))) ?_)));have hr:=Lj h6;refine Ci (S:=(List (Aj×Aa))×((List Ab))×(Value)) (V:=((List Ab))×(Value)) 0 (λσ=>∀q:List (Aj×Aa),q.Perm σ.1→BF (Ln (λp τ=>En p.1 p.2 τ) q σ.2.1) (Cr λν=>Da r1 ν)=some r) (λσ=>[(2,rv (.slice none 0 0)),(3,rv σ.2.2),(13,rv (.pointer (some ⟨b7,0,none⟩)))]) (λσ=>[.blk hb [rv (.map (some ha))] 45,.mit ha b7 (AI Ak r1.2.fTimers) (AI Ak σ.1) none,.row σ.2.2 33 5 (List.map Af σ.2.1)]) (λσ=>σ.1.length) (r1.2.fTimers,([]:List Ab),(.slice none 0 0                                 )) hr (AS.c rfl (AS.c rfl (AS.c rfl AS.nil))) (sC (sC (sC sN))) (λσ=>Da r1 σ.1=some r) (λσ=>[(2,rv (.slice none 0 0)),(3,rv σ.2),(13,rv (.pointer (some ⟨b7,0,none⟩)))]) (λσ=>[.blk hb [rv (.map (some ha))] 45,.map ha (AI Ak r1.2.fTimers),.row σ.2 33 5 (List.map Af σ.1)]) ?_ ?_
  ·rintro⟨hm,hf,hg⟩ hn;refine AU (l':=[(2,rv (.slice none 0 0)),(3,rv hg),(13,rv (.pointer (some ⟨b7,0,none⟩)))]) (H':=[.blk hb [rv (.map (some ha))] 45,.mit ha b7 (AI Ak r1.2.fTimers) (AI Ak hm) none,.row hg 33 5 (List.map Af hf)]) rfl rfl (Ao (MM (enc:=Ak) (ys:=hm) (i:=1) rfl rfl rfl (λhy=>?_) (λp hh ho=>?_)))
   ·have hs:Da r1 hf=some r:=Mj hn hy;exact wv (AV rfl rfl) (A2 (Az (Ce rfl rfl (BG (AF (WK.unmit (i:=1) rfl (AF (B7 (AL (hf,hg) hs (AS.c rfl (AS.c rfl (AS.c rfl AS.nil))) (sC (sC (sC sN))))))))))))
   ·obtain⟨hi,hd⟩:=p;obtain⟨ht,hj,hu⟩:=N2 hn ho;replace hj:En hi hd hf=some ht:=hj;unfold En at hj;refine MK (H':=[.blk hb [rv (.map (some ha))] 45,.mit ha b7 (AI Ak r1.2.fTimers) (AI Ak hh) (some (hi,Ak hd)),.row hg 33 5 (List.map Af hf)]) rfl (wv (AV rfl rfl) (A2 (Az (Br rfl rfl (AG (Bd (AW (Ao (wv (r:=D1 [rS hi,AZ (CL hd)]) (Mg (i:=1) rfl rfl) (wv (AV rfl rfl) (Cj (cs:=[rS ([]:Aj),rI .i64 0,rS ([]:Aj),rS ([]:Aj),rv (.slice none 0 0),rB false]) HK rfl rfl (λhp=>?_))))))))))));refine Bx (i:=0) Kx rfl rfl rfl (Bv.c rfl) rfl rfl (cs':=[rS hd.fTimer.fID,rI .i64 hd.fTimer.fAt,rS hd.fTimer.fTenant,rS hd.fTimer.fSource,B0 4 (List.map Ah hd.fTimer.fBody),rB hd.fTold]) rfl (H':=[.blk hp (CL hd) 53,.blk hb [rv (.map (some ha))] 45,.mit ha b7 (AI Ak r1.2.fTimers) (AI Ak hh) (some (hi,Ak hd)),.row hg 33 5 (List.map Af hf)]) rfl (A2 (Au (wm rfl (wv (Ae JG rfl BD rfl rfl) (wv (AY (i:=0) E4 BD rfl rfl rfl rfl) ?_)))));obtain⟨he,hw,hx⟩:=AN hj;refine Eg Tryd.call22 (KC hd.fTimer he hw) rfl (BM (ys:=([he]:List Ab)) (enc:=Af) (css:=[[rS he.fID,rI .i64 he.fAt,rS he.fTenant,rS he.fSource,B0 4 (List.map Ah he.fBody)]]) (xs:=[.tmp 21]) CG BD Kw rfl rfl rfl ⟨M6.agg ⟨Up.refl _,Up.refl _,Up.refl _,Up.refl _,Up.refl _,trivial⟩,trivial⟩ rfl D5 rfl rfl rfl (λhz=>?_));obtain⟨h0,h1⟩:=AK hx;obtain⟨inf,hinf⟩:=Nh;refine Ej (xs:=hf) (ys:=([he]:List Ab)) (enc:=Af) (i:=4) CG hinf.1 hinf.2.1 hinf.2.2.1 hinf.2.2.2 rfl rfl rfl rfl rfl (LB.w (i:=0) rfl rfl) D5 D4 h0 rfl (λhq=>?_);refine wa rfl (Aq (Ba (WK.uncur (i:=4) rfl (D8 (H2:=[.blk hb [rv (.map (some ha))] 45,.mit ha b7 (AI Ak r1.2.fTimers) (AI Ak hh) none,.row hq 33 5 (List.map Af (hf++([he]:List Ab))),.row (.slice (some ⟨hz,0,none⟩) 1 1) 33 5 (List.map Af ([he]:List Ab)),.blk hp (CL hd) 53]) ((A6 (i:=3) rfl).trans (O9 _ ((A6 (i:=3) rfl).trans (O9 _ (O6 _))))) ?_))));have h3:=Kg h1 hu;exact Aw (AL (hh,hf++([he]:List Ab),hq) ⟨h3,LY ho⟩ (AS.c rfl (AS.c rfl (AS.c rfl AS.nil))) (sC (sC (sC (sS (sS sN))))))
  ·rintro⟨hl,v55⟩ hk;refine Ei (l':=[(2,rv (.slice none 0 0)),(3,rv v55),(13,rv (.pointer (some ⟨b7,0,none⟩)))]) (H':=[.blk hb [rv (.map (some ha))] 45,.map ha (AI Ak r1.2.fTimers),.row v55 33 5 (List.map Af hl)]) rfl rfl ?_;replace hk:Da r1 hl=some r:=hk;unfold Da at hk;refine Bp (Bd (Ao (wm rfl ?_)));obtain⟨h4,h7⟩:=AK hk;obtain⟨h8,h9⟩:=AK h7;refine CC (rs:=[rv v55,rv (.func (.func 24) #[] #[])]) (Hin:=[.row v55 33 5 (List.map Af hl)]) (Hr:=[.blk hb [rv (.map (some ha))] 45,.map ha (AI Ak r1.2.fTimers)]) Tryd.call23 rfl ((A6 (i:=2) rfl).trans (O9 _ (O6 _))) (LV h4 h8) rfl ?_;rintro _ _ ⟨rfl,rfl⟩;refine BZ (wm rfl (wa rfl (A2 (A1 ?_))));obtain rfl:=A5 h9;exact A0 (B3 NO (AM rfl)) (sC (sC (sC sN))) ⟨v55,rfl,rfl⟩
theorem KE (F:Nat)(hf:Nat)(he:Nat)(q:Ax)(now:Int)(r:(List Ab)×Ax)(h:LS F q now=some r):Fn Tryd.prog GE 10 [rv (.pointer (some ⟨hf,0,none⟩)),rI .i64 now] [.blk hf [rv (.map (some he))] 45,.map he (AI Ak q.fTimers)] (λR H=>∃u0:Value,R=rv u0∧H=[.row u0 33 5 (List.map Af r.1),.blk hf [rv (.map (some he))] 45,.map he (AI Ak r.2.fTimers)]):=by
 refine enter (n:=49) Tryd.func10 rfl Tryd.ntmps10 rfl (λw Z=>?_);refine AU (l':=[(0,rv (.pointer (some ⟨hf,0,none⟩))),(1,rI .i64 now)]) (H':=[.blk hf [rv (.map (some he))] 45,.map he (AI Ak q.fTimers)]) rfl rfl ?_;unfold LS at h;refine Ao (Jm rfl (B4 rfl) rfl (λb1=>?_));refine wv (r:=rv (.slice none 0 0)) (Ai rfl) (A2 (Az (Ao (wm rfl ?_))));obtain⟨r2,e4,h3⟩:=AN h;refine Do (Hr:=[.blk b1 [rI .i64 now] 3]) DV (Em hf he q r2 e4) rfl ((A6 (i:=1) rfl).trans (O9 _ ((A6 (i:=1) rfl).trans (O9 _ (O6 _))))) rfl ?_;rintro _ _ ⟨rfl,rfl⟩;refine wv (Bt rfl) (A2 (AC (b:=!r2.1) rfl (λc5=>?_) (λc5=>?_)))
 ·have h6:=AP c5 h3;refine Ao (wv (r:=rv (.slice none 0 0)) (Ai rfl) (A2 (A1 (Am (WK.nilrow (e:=33) (sz:=5) ?_)))));obtain rfl:=A5 h6;exact A0 (B3 LJ (AM rfl)) (sC (sC (sC (sS sN)))) ⟨(.slice none 0 0                                 ),rfl,rfl⟩
 ·have h7:=AQ c5 h3;refine AG (Bd (Az (Ao (wm rfl (wv (Bk rfl) (wv (Ae EQ rfl ES rfl rfl) (wv (A3 (i:=0) ET rfl rfl rfl) (CC (rs:=[rv (.map (some he))]) (Hin:=[]) (Hr:=[.blk hf [rv (.map (some he))] 45,.map he (AI Ak r2.2.fTimers),.blk b1 [rI .i64 now] 3]) Tryd.call29 rfl (O6 _) (IY he) rfl ?_))))))));rintro _ _ ⟨b8,rfl,rfl⟩;obtain⟨g9,hq⟩:=AK h7;refine CC (rs:=[rv (.func (.func 41) #[] #[(.pointer (some ⟨b8,0,none⟩))])]) (Hin:=[.blk b8 [rv (.map (some he))] 43,.map he (AI Ak r2.2.fTimers)]) (Hr:=[.blk hf [rv (.map (some he))] 45,.blk b1 [rI .i64 now] 3]) Tryd.call28 rfl ((A6 (i:=0) rfl).trans (O9 _ ((A6 (i:=1) rfl).trans (O9 _ (O6 _))))) (HE Ak r2.2.fTimers b8 he g9) rfl ?_;rintro _ _ ⟨hh,ha,rfl,hr,rfl⟩;have hs:=Lj hq ha hr;refine wv (Bi (ys:=ha) (enc:=eS) (i:=0) Tryd.underlying60 rfl rfl) (wv (r:=rI .i64 0) (Av rfl) (A2 (AW ?_)));obtain⟨ht,hu,hw⟩:=AN hs;refine Ci (S:=Nat×(Int×(List (Aj×Aa)))×(Unit)) (V:=((List (Aj×Aa)))×(Unit)) 0 (λσ=>D3 (λσ=>Gb now ha σ.1 σ.2) σ.1 σ.2.1=some ht) (λσ=>[(0,rv (.pointer (some ⟨hf,0,none⟩))),(3,rv (.pointer (some ⟨b1,0,none⟩))),(16,rv hh),(17,rI .i64 (ha.length:Int)),(18,rI .i64 σ.2.1.1)]) (λσ=>[.row hh 9 1 (List.map eS ha),.map he (AI Ak σ.2.1.2),.blk hf [rv (.map (some he))] 45,.blk b1 [rI .i64 now] 3]) (λσ=>σ.1) (F,(0,r2.2.fTimers),()) hu (AS.c5 rfl rfl rfl rfl rfl AS.nil) (sC (sS (sC (sC (sC sN))))) (λσ=>Ga F now σ.1=some r) (λσ=>[(0,rv (.pointer (some ⟨hf,0,none⟩))),(3,rv (.pointer (some ⟨b1,0,none⟩)))]) (λσ=>[.map he (AI Ak σ.1),.blk hf [rv (.map (some he))] 45,.blk b1 [rI .i64 now] 3]) ?_ ?_
  ·rintro⟨hI,⟨hd,hb⟩,⟨⟩⟩ hx;refine AU (l':=[(0,rv (.pointer (some ⟨hf,0,none⟩))),(3,rv (.pointer (some ⟨b1,0,none⟩))),(16,rv hh),(17,rI .i64 (ha.length:Int)),(18,rI .i64 hd)]) (H':=[.row hh 9 1 (List.map eS ha),.map he (AI Ak hb),.blk hf [rv (.map (some he))] 45,.blk b1 [rI .i64 now] 3]) rfl rfl ?_;obtain⟨hy,rfl,hz,hj,ho⟩:=EN hx;replace hj:Gb now ha hd hb=some hz:=hj;unfold Gb at hj;refine Ao (wv (GL rfl rfl) (A2 (Az (AC (b:=decide (hd<(ha.length:Int))) rfl (λhl=>?_) (λhl=>?_)))))
   ·have h0:=AP hl hj;refine AG (Bd (Az (AW (Ao ?_))));obtain⟨hp,h1⟩:=AK h0;refine wv (r:=rv (BR 1 hh (Int.toNat hd) 0)) (Cw (i:=0) Tryd.underlying60 DM rfl rfl rfl (AJ hp)) (wv (r:=rS (Ar ha hd)) (Cn (enc:=eS) (ys:=ha) (i:=0) (j:=hd) Ef rfl rfl hp rfl) (wa rfl (BZ (wm rfl (wv (Bk rfl) (wv (Ae EQ rfl ES rfl rfl) (wv (A3 (i:=2) ET rfl rfl rfl) (wm rfl (wv (r:=AZ [rS (((A7 hb (Ar ha hd) (Aa.mk (Ab.mk ([]:Aj) 0 ([]:Aj) ([]:Aj) ([]:(List Ac))) false)).fTimer).fID),rI .i64 (((A7 hb (Ar ha hd) (Aa.mk (Ab.mk ([]:Aj) 0 ([]:Aj) ([]:Aj) ([]:(List Ac))) false)).fTimer).fAt),rS (((A7 hb (Ar ha hd) (Aa.mk (Ab.mk ([]:Aj) 0 ([]:Aj) ([]:Aj) ([]:(List Ac))) false)).fTimer).fTenant),rS (((A7 hb (Ar ha hd) (Aa.mk (Ab.mk ([]:Aj) 0 ([]:Aj) ([]:Aj) ([]:(List Ac))) false)).fTimer).fSource),B0 4 (List.map Ah (((A7 hb (Ar ha hd) (Aa.mk (Ab.mk ([]:Aj) 0 ([]:Aj) ([]:Aj) ([]:(List Ac))) false)).fTimer).fBody)),rB ((A7 hb (Ar ha hd) (Aa.mk (Ab.mk ([]:Aj) 0 ([]:Aj) ([]:Aj) ([]:(List Ac))) false)).fTold)]) (Ld (enc:=Ak) (xs:=hb) (z:=Aa.mk (Ab.mk ([]:Aj) 0 ([]:Aj) ([]:Aj) ([]:(List Ac))) false) (i:=1) Gk EX HK BY rfl rfl rfl) (Cj (cs:=[rS ([]:Aj),rI .i64 0,rS ([]:Aj),rS ([]:Aj),rv (.slice none 0 0),rB false]) HK rfl rfl (λhi=>?_)))))))))));refine Bx (i:=0) Kx rfl rfl rfl (Bv.c rfl) rfl rfl (cs':=[rS (((A7 hb (Ar ha hd) (Aa.mk (Ab.mk ([]:Aj) 0 ([]:Aj) ([]:Aj) ([]:(List Ac))) false)).fTimer).fID),rI .i64 (((A7 hb (Ar ha hd) (Aa.mk (Ab.mk ([]:Aj) 0 ([]:Aj) ([]:Aj) ([]:(List Ac))) false)).fTimer).fAt),rS (((A7 hb (Ar ha hd) (Aa.mk (Ab.mk ([]:Aj) 0 ([]:Aj) ([]:Aj) ([]:(List Ac))) false)).fTimer).fTenant),rS (((A7 hb (Ar ha hd) (Aa.mk (Ab.mk ([]:Aj) 0 ([]:Aj) ([]:Aj) ([]:(List Ac))) false)).fTimer).fSource),B0 4 (List.map Ah (((A7 hb (Ar ha hd) (Aa.mk (Ab.mk ([]:Aj) 0 ([]:Aj) ([]:Aj) ([]:(List Ac))) false)).fTimer).fBody)),rB ((A7 hb (Ar ha hd) (Aa.mk (Ab.mk ([]:Aj) 0 ([]:Aj) ([]:Aj) ([]:(List Ac))) false)).fTold)]) rfl (H':=[.blk hi [rS (((A7 hb (Ar ha hd) (Aa.mk (Ab.mk ([]:Aj) 0 ([]:Aj) ([]:Aj) ([]:(List Ac))) false)).fTimer).fID),rI .i64 (((A7 hb (Ar ha hd) (Aa.mk (Ab.mk ([]:Aj) 0 ([]:Aj) ([]:Aj) ([]:(List Ac))) false)).fTimer).fAt),rS (((A7 hb (Ar ha hd) (Aa.mk (Ab.mk ([]:Aj) 0 ([]:Aj) ([]:Aj) ([]:(List Ac))) false)).fTimer).fTenant),rS (((A7 hb (Ar ha hd) (Aa.mk (Ab.mk ([]:Aj) 0 ([]:Aj) ([]:Aj) ([]:(List Ac))) false)).fTimer).fSource),B0 4 (List.map Ah (((A7 hb (Ar ha hd) (Aa.mk (Ab.mk ([]:Aj) 0 ([]:Aj) ([]:Aj) ([]:(List Ac))) false)).fTimer).fBody)),rB ((A7 hb (Ar ha hd) (Aa.mk (Ab.mk ([]:Aj) 0 ([]:Aj) ([]:Aj) ([]:(List Ac))) false)).fTold)] 53,.row hh 9 1 (List.map eS ha),.map he (AI Ak hb),.blk hf [rv (.map (some he))] 45,.blk b1 [rI .i64 now] 3]) rfl (A2 (AE [(0,rv (.pointer (some ⟨hf,0,none⟩))),(3,rv (.pointer (some ⟨b1,0,none⟩))),(6,rS (Ar ha hd)),(7,rv (.pointer (some ⟨hi,0,none⟩))),(16,rv hh),(17,rI .i64 (ha.length:Int)),(18,rI .i64 hd)] [.blk hi [rS (((A7 hb (Ar ha hd) (Aa.mk (Ab.mk ([]:Aj) 0 ([]:Aj) ([]:Aj) ([]:(List Ac))) false)).fTimer).fID),rI .i64 (((A7 hb (Ar ha hd) (Aa.mk (Ab.mk ([]:Aj) 0 ([]:Aj) ([]:Aj) ([]:(List Ac))) false)).fTimer).fAt),rS (((A7 hb (Ar ha hd) (Aa.mk (Ab.mk ([]:Aj) 0 ([]:Aj) ([]:Aj) ([]:(List Ac))) false)).fTimer).fTenant),rS (((A7 hb (Ar ha hd) (Aa.mk (Ab.mk ([]:Aj) 0 ([]:Aj) ([]:Aj) ([]:(List Ac))) false)).fTimer).fSource),B0 4 (List.map Ah (((A7 hb (Ar ha hd) (Aa.mk (Ab.mk ([]:Aj) 0 ([]:Aj) ([]:Aj) ([]:(List Ac))) false)).fTimer).fBody)),rB (((A7 hb (Ar ha hd) (Aa.mk (Ab.mk ([]:Aj) 0 ([]:Aj) ([]:Aj) ([]:(List Ac))) false)).fTold)||(decide ((((A7 hb (Ar ha hd) (Aa.mk (Ab.mk ([]:Aj) 0 ([]:Aj) ([]:Aj) ([]:(List Ac))) false)).fTimer).fAt)≤now)))] 53,.row hh 9 1 (List.map eS ha),.map he (AI Ak hb),.blk hf [rv (.map (some he))] 45,.blk b1 [rI .i64 now] 3] ?_ ?_))
    ·refine Au (wv (Ae JG rfl D7 rfl rfl) (wv (A3 (i:=0) K3 rfl rfl rfl) (wm rfl (AD ((A7 hb (Ar ha hd) (Aa.mk (Ab.mk ([]:Aj) 0 ([]:Aj) ([]:Aj) ([]:(List Ac))) false)).fTold) (λhg=>?_) (λhg=>?_)))))
     ·refine wf hg (wf hg (wf hg (wf hg (wf hg (wv (r:=rB true) (As (b:=(A7 hb (Ar ha hd) (Aa.mk (Ab.mk ([]:Aj) 0 ([]:Aj) ([]:Aj) ([]:(List Ac))) false)).fTold) rfl hg rfl) (wv (Ae JG rfl D7 rfl rfl) (BW (i:=0) D7 rfl rfl (B4 rfl) rfl rfl (cs':=[rS (((A7 hb (Ar ha hd) (Aa.mk (Ab.mk ([]:Aj) 0 ([]:Aj) ([]:Aj) ([]:(List Ac))) false)).fTimer).fID),rI .i64 (((A7 hb (Ar ha hd) (Aa.mk (Ab.mk ([]:Aj) 0 ([]:Aj) ([]:Aj) ([]:(List Ac))) false)).fTimer).fAt),rS (((A7 hb (Ar ha hd) (Aa.mk (Ab.mk ([]:Aj) 0 ([]:Aj) ([]:Aj) ([]:(List Ac))) false)).fTimer).fTenant),rS (((A7 hb (Ar ha hd) (Aa.mk (Ab.mk ([]:Aj) 0 ([]:Aj) ([]:Aj) ([]:(List Ac))) false)).fTimer).fSource),B0 4 (List.map Ah (((A7 hb (Ar ha hd) (Aa.mk (Ab.mk ([]:Aj) 0 ([]:Aj) ([]:Aj) ([]:(List Ac))) false)).fTimer).fBody)),rB true]) rfl (H':=[.blk hi [rS (((A7 hb (Ar ha hd) (Aa.mk (Ab.mk ([]:Aj) 0 ([]:Aj) ([]:Aj) ([]:(List Ac))) false)).fTimer).fID),rI .i64 (((A7 hb (Ar ha hd) (Aa.mk (Ab.mk ([]:Aj) 0 ([]:Aj) ([]:Aj) ([]:(List Ac))) false)).fTimer).fAt),rS (((A7 hb (Ar ha hd) (Aa.mk (Ab.mk ([]:Aj) 0 ([]:Aj) ([]:Aj) ([]:(List Ac))) false)).fTimer).fTenant),rS (((A7 hb (Ar ha hd) (Aa.mk (Ab.mk ([]:Aj) 0 ([]:Aj) ([]:Aj) ([]:(List Ac))) false)).fTimer).fSource),B0 4 (List.map Ah (((A7 hb (Ar ha hd) (Aa.mk (Ab.mk ([]:Aj) 0 ([]:Aj) ([]:Aj) ([]:(List Ac))) false)).fTimer).fBody)),rB true] 53,.row hh 9 1 (List.map eS ha),.map he (AI Ak hb),.blk hf [rv (.map (some he))] 45,.blk b1 [rI .i64 now] 3]) rfl (Aq (Dh (H':=[.blk hi [rS (((A7 hb (Ar ha hd) (Aa.mk (Ab.mk ([]:Aj) 0 ([]:Aj) ([]:Aj) ([]:(List Ac))) false)).fTimer).fID),rI .i64 (((A7 hb (Ar ha hd) (Aa.mk (Ab.mk ([]:Aj) 0 ([]:Aj) ([]:Aj) ([]:(List Ac))) false)).fTimer).fAt),rS (((A7 hb (Ar ha hd) (Aa.mk (Ab.mk ([]:Aj) 0 ([]:Aj) ([]:Aj) ([]:(List Ac))) false)).fTimer).fTenant),rS (((A7 hb (Ar ha hd) (Aa.mk (Ab.mk ([]:Aj) 0 ([]:Aj) ([]:Aj) ([]:(List Ac))) false)).fTimer).fSource),B0 4 (List.map Ah (((A7 hb (Ar ha hd) (Aa.mk (Ab.mk ([]:Aj) 0 ([]:Aj) ([]:Aj) ([]:(List Ac))) false)).fTimer).fBody)),rB (((A7 hb (Ar ha hd) (Aa.mk (Ab.mk ([]:Aj) 0 ([]:Aj) ([]:Aj) ([]:(List Ac))) false)).fTold)||(decide ((((A7 hb (Ar ha hd) (Aa.mk (Ab.mk ([]:Aj) 0 ([]:Aj) ([]:Aj) ([]:(List Ac))) false)).fTimer).fAt)≤now)))] 53,.row hh 9 1 (List.map eS ha),.map he (AI Ak hb),.blk hf [rv (.map (some he))] 45,.blk b1 [rI .i64 now] 3]) (by simp only[hg,ON,OJ,OR,OE,OP,OK,OS,OO,OF,OI,OY,OU]) ?_)))))))));exact wt
     ·refine wo hg (wv (Ae JG rfl BD rfl rfl) (wo hg (wv (Ae Cu rfl CU rfl rfl) (wo hg (wv (A3 (i:=0) Dg rfl rfl rfl) (wo hg (wv (A3 (i:=4) Dg rfl rfl rfl) (wo hg (wv (GM rfl rfl) (I8 rfl hg rfl (wv (Ae JG rfl D7 rfl rfl) (BW (i:=0) D7 rfl rfl (B4 rfl) rfl rfl (cs':=[rS (((A7 hb (Ar ha hd) (Aa.mk (Ab.mk ([]:Aj) 0 ([]:Aj) ([]:Aj) ([]:(List Ac))) false)).fTimer).fID),rI .i64 (((A7 hb (Ar ha hd) (Aa.mk (Ab.mk ([]:Aj) 0 ([]:Aj) ([]:Aj) ([]:(List Ac))) false)).fTimer).fAt),rS (((A7 hb (Ar ha hd) (Aa.mk (Ab.mk ([]:Aj) 0 ([]:Aj) ([]:Aj) ([]:(List Ac))) false)).fTimer).fTenant),rS (((A7 hb (Ar ha hd) (Aa.mk (Ab.mk ([]:Aj) 0 ([]:Aj) ([]:Aj) ([]:(List Ac))) false)).fTimer).fSource),B0 4 (List.map Ah (((A7 hb (Ar ha hd) (Aa.mk (Ab.mk ([]:Aj) 0 ([]:Aj) ([]:Aj) ([]:(List Ac))) false)).fTimer).fBody)),rB (decide ((((A7 hb (Ar ha hd) (Aa.mk (Ab.mk ([]:Aj) 0 ([]:Aj) ([]:Aj) ([]:(List Ac))) false)).fTimer).fAt)≤now))]) rfl (H':=[.blk hi [rS (((A7 hb (Ar ha hd) (Aa.mk (Ab.mk ([]:Aj) 0 ([]:Aj) ([]:Aj) ([]:(List Ac))) false)).fTimer).fID),rI .i64 (((A7 hb (Ar ha hd) (Aa.mk (Ab.mk ([]:Aj) 0 ([]:Aj) ([]:Aj) ([]:(List Ac))) false)).fTimer).fAt),rS (((A7 hb (Ar ha hd) (Aa.mk (Ab.mk ([]:Aj) 0 ([]:Aj) ([]:Aj) ([]:(List Ac))) false)).fTimer).fTenant),rS (((A7 hb (Ar ha hd) (Aa.mk (Ab.mk ([]:Aj) 0 ([]:Aj) ([]:Aj) ([]:(List Ac))) false)).fTimer).fSource),B0 4 (List.map Ah (((A7 hb (Ar ha hd) (Aa.mk (Ab.mk ([]:Aj) 0 ([]:Aj) ([]:Aj) ([]:(List Ac))) false)).fTimer).fBody)),rB (decide ((((A7 hb (Ar ha hd) (Aa.mk (Ab.mk ([]:Aj) 0 ([]:Aj) ([]:Aj) ([]:(List Ac))) false)).fTimer).fAt)≤now))] 53,.row hh 9 1 (List.map eS ha),.map he (AI Ak hb),.blk hf [rv (.map (some he))] 45,.blk b1 [rI .i64 now] 3]) rfl (Aq (Dh (H':=[.blk hi [rS (((A7 hb (Ar ha hd) (Aa.mk (Ab.mk ([]:Aj) 0 ([]:Aj) ([]:Aj) ([]:(List Ac))) false)).fTimer).fID),rI .i64 (((A7 hb (Ar ha hd) (Aa.mk (Ab.mk ([]:Aj) 0 ([]:Aj) ([]:Aj) ([]:(List Ac))) false)).fTimer).fAt),rS (((A7 hb (Ar ha hd) (Aa.mk (Ab.mk ([]:Aj) 0 ([]:Aj) ([]:Aj) ([]:(List Ac))) false)).fTimer).fTenant),rS (((A7 hb (Ar ha hd) (Aa.mk (Ab.mk ([]:Aj) 0 ([]:Aj) ([]:Aj) ([]:(List Ac))) false)).fTimer).fSource),B0 4 (List.map Ah (((A7 hb (Ar ha hd) (Aa.mk (Ab.mk ([]:Aj) 0 ([]:Aj) ([]:Aj) ([]:(List Ac))) false)).fTimer).fBody)),rB (((A7 hb (Ar ha hd) (Aa.mk (Ab.mk ([]:Aj) 0 ([]:Aj) ([]:Aj) ([]:(List Ac))) false)).fTold)||(decide ((((A7 hb (Ar ha hd) (Aa.mk (Ab.mk ([]:Aj) 0 ([]:Aj) ([]:Aj) ([]:(List Ac))) false)).fTimer).fAt)≤now)))] 53,.row hh 9 1 (List.map eS ha),.map he (AI Ak hb),.blk hf [rv (.map (some he))] 45,.blk b1 [rI .i64 now] 3]) (by simp only[hg,ON,OJ,OR,OE,OP,OK,OS,OO,OF,OI,OY,OU]) ?_))))))))))))));exact wt
    refine Hq 6 [0,3,6,7,16,17,18] [⟨[],rv (.pointer (some ⟨hf,0,none⟩)),none,none,none⟩,⟨[0],rv (.pointer (some ⟨hf,0,none⟩)),none,none,none⟩,⟨[1],rv (.pointer (some ⟨hf,0,none⟩)),none,none,none⟩,⟨[2],rv (.map (some he)),none,none,none⟩,⟨[],rS (Ar ha hd),none,none,none⟩,⟨[],AZ [rS (((A7 hb (Ar ha hd) (Aa.mk (Ab.mk ([]:Aj) 0 ([]:Aj) ([]:Aj) ([]:(List Ac))) false)).fTimer).fID),rI .i64 (((A7 hb (Ar ha hd) (Aa.mk (Ab.mk ([]:Aj) 0 ([]:Aj) ([]:Aj) ([]:(List Ac))) false)).fTimer).fAt),rS (((A7 hb (Ar ha hd) (Aa.mk (Ab.mk ([]:Aj) 0 ([]:Aj) ([]:Aj) ([]:(List Ac))) false)).fTimer).fTenant),rS (((A7 hb (Ar ha hd) (Aa.mk (Ab.mk ([]:Aj) 0 ([]:Aj) ([]:Aj) ([]:(List Ac))) false)).fTimer).fSource),B0 4 (List.map Ah (((A7 hb (Ar ha hd) (Aa.mk (Ab.mk ([]:Aj) 0 ([]:Aj) ([]:Aj) ([]:(List Ac))) false)).fTimer).fBody)),rB (((A7 hb (Ar ha hd) (Aa.mk (Ab.mk ([]:Aj) 0 ([]:Aj) ([]:Aj) ([]:(List Ac))) false)).fTold)||(decide ((((A7 hb (Ar ha hd) (Aa.mk (Ab.mk ([]:Aj) 0 ([]:Aj) ([]:Aj) ([]:(List Ac))) false)).fTimer).fAt)≤now)))],none,none,none⟩] ?_ (λβ=>?_)
    ·refine IA (Av rfl) (IA (Bk rfl) (IA (Ae EQ rfl ES rfl rfl) (MA (A3 (i:=3) ET rfl rfl rfl) (IA (Av rfl) (MA (AY (i:=0) Tryd.isAgg53 Kx rfl rfl rfl rfl) ?_)))));exact Of
    refine II (H1:=[.blk hi [rS (((A7 hb (Ar ha hd) (Aa.mk (Ab.mk ([]:Aj) 0 ([]:Aj) ([]:Aj) ([]:(List Ac))) false)).fTimer).fID),rI .i64 (((A7 hb (Ar ha hd) (Aa.mk (Ab.mk ([]:Aj) 0 ([]:Aj) ([]:Aj) ([]:(List Ac))) false)).fTimer).fAt),rS (((A7 hb (Ar ha hd) (Aa.mk (Ab.mk ([]:Aj) 0 ([]:Aj) ([]:Aj) ([]:(List Ac))) false)).fTimer).fTenant),rS (((A7 hb (Ar ha hd) (Aa.mk (Ab.mk ([]:Aj) 0 ([]:Aj) ([]:Aj) ([]:(List Ac))) false)).fTimer).fSource),B0 4 (List.map Ah (((A7 hb (Ar ha hd) (Aa.mk (Ab.mk ([]:Aj) 0 ([]:Aj) ([]:Aj) ([]:(List Ac))) false)).fTimer).fBody)),rB (((A7 hb (Ar ha hd) (Aa.mk (Ab.mk ([]:Aj) 0 ([]:Aj) ([]:Aj) ([]:(List Ac))) false)).fTold)||(decide ((((A7 hb (Ar ha hd) (Aa.mk (Ab.mk ([]:Aj) 0 ([]:Aj) ([]:Aj) ([]:(List Ac))) false)).fTimer).fAt)≤now)))] 53,.row hh 9 1 (List.map eS ha),.map he (AI Ak hb),.blk hf [rv (.map (some he))] 45,.blk b1 [rI .i64 now] 3]) [38,39,40,41,42,43,0,3,6,7,16,17,18] ?_;refine Jn (enc:=Ak) (xs:=hb) (v:=(Aa.mk ((A7 hb (Ar ha hd) (Aa.mk (Ab.mk ([]:Aj) 0 ([]:Aj) ([]:Aj) ([]:(List Ac))) false)).fTimer) (((A7 hb (Ar ha hd) (Aa.mk (Ab.mk ([]:Aj) 0 ([]:Aj) ([]:Aj) ([]:(List Ac))) false)).fTold)||(decide ((((A7 hb (Ar ha hd) (Aa.mk (Ab.mk ([]:Aj) 0 ([]:Aj) ([]:Aj) ([]:(List Ac))) false)).fTimer).fAt)≤now))))) (i:=2) Gk EX rfl rfl rfl rfl (H':=[.blk hi [rS (((A7 hb (Ar ha hd) (Aa.mk (Ab.mk ([]:Aj) 0 ([]:Aj) ([]:Aj) ([]:(List Ac))) false)).fTimer).fID),rI .i64 (((A7 hb (Ar ha hd) (Aa.mk (Ab.mk ([]:Aj) 0 ([]:Aj) ([]:Aj) ([]:(List Ac))) false)).fTimer).fAt),rS (((A7 hb (Ar ha hd) (Aa.mk (Ab.mk ([]:Aj) 0 ([]:Aj) ([]:Aj) ([]:(List Ac))) false)).fTimer).fTenant),rS (((A7 hb (Ar ha hd) (Aa.mk (Ab.mk ([]:Aj) 0 ([]:Aj) ([]:Aj) ([]:(List Ac))) false)).fTimer).fSource),B0 4 (List.map Ah (((A7 hb (Ar ha hd) (Aa.mk (Ab.mk ([]:Aj) 0 ([]:Aj) ([]:Aj) ([]:(List Ac))) false)).fTimer).fBody)),rB (((A7 hb (Ar ha hd) (Aa.mk (Ab.mk ([]:Aj) 0 ([]:Aj) ([]:Aj) ([]:(List Ac))) false)).fTold)||(decide ((((A7 hb (Ar ha hd) (Aa.mk (Ab.mk ([]:Aj) 0 ([]:Aj) ([]:Aj) ([]:(List Ac))) false)).fTimer).fAt)≤now)))] 53,.row hh 9 1 (List.map eS ha),.map he (AI Ak (mset hb (Ar ha hd) (Aa.mk ((A7 hb (Ar ha hd) (Aa.mk (Ab.mk ([]:Aj) 0 ([]:Aj) ([]:Aj) ([]:(List Ac))) false)).fTimer) (((A7 hb (Ar ha hd) (Aa.mk (Ab.mk ([]:Aj) 0 ([]:Aj) ([]:Aj) ([]:(List Ac))) false)).fTold)||(decide ((((A7 hb (Ar ha hd) (Aa.mk (Ab.mk ([]:Aj) 0 ([]:Aj) ([]:Aj) ([]:(List Ac))) false)).fTimer).fAt)≤now)))))),.blk hf [rv (.map (some he))] 45,.blk b1 [rI .i64 now] 3]) rfl (Aq (Ba (Bd (Au ?_))));obtain⟨h2,h4⟩:=AK h1;refine wv (CE rfl rfl h2) (wm rfl (Aq ?_));have h5:=C8 h4 ho;exact Aw (AL (hy,(hd+1,mset hb (Ar ha hd) (Aa.mk ((A7 hb (Ar ha hd) (Aa.mk (Ab.mk ([]:Aj) 0 ([]:Aj) ([]:Aj) ([]:(List Ac))) false)).fTimer) (((A7 hb (Ar ha hd) (Aa.mk (Ab.mk ([]:Aj) 0 ([]:Aj) ([]:Aj) ([]:(List Ac))) false)).fTold)||(decide ((((A7 hb (Ar ha hd) (Aa.mk (Ab.mk ([]:Aj) 0 ([]:Aj) ([]:Aj) ([]:(List Ac))) false)).fTimer).fAt)≤now))))),()) ⟨h5,Pc _⟩ (AS.c5 rfl rfl rfl rfl rfl AS.nil) (sS (sC (sC (sC (sC sN))))))
   ·have h8:=AQ hl hj;refine BG (AF ?_);have h9:=Dx h8 ho hw;exact AF (B7 (AL (hb,()) h9 (AS.c rfl (AS.c rfl AS.nil)) (sS (sC (sC (sC sN))))))
  ·rintro⟨hm,⟨⟩⟩ hk;refine Ei (l':=[(0,rv (.pointer (some ⟨hf,0,none⟩))),(3,rv (.pointer (some ⟨b1,0,none⟩)))]) (H':=[.map he (AI Ak hm),.blk hf [rv (.map (some he))] 45,.blk b1 [rI .i64 now] 3]) rfl rfl ?_;replace hk:Ga F now hm=some r:=hk;unfold Ga at hk;refine Bp (Bd (Ao (wm rfl ?_)));obtain⟨hn,hA,hB⟩:=AN hk;refine Do (Hr:=[.blk b1 [rI .i64 now] 3]) Ns (Jq hf he (Ax.mk hm) hn hA) rfl ((A6 (i:=1) rfl).trans (O9 _ (O6 _))) rfl ?_;rintro _ _ ⟨hC,rfl,rfl⟩;refine wv (r:=rv (.func (.func 31) #[] #[(.pointer (some ⟨b1,0,none⟩))])) (IU rfl) ?_;obtain⟨hD,hE,hG⟩:=AN hB;refine Do (Hr:=[.blk hf [rv (.map (some he))] 45,.map he (AI Ak hn.2.fTimers)]) Tryd.call30 (HD F hC b1 hn.1 now hD hE) rfl ((A6 (i:=0) rfl).trans (O9 _ ((A6 (i:=2) rfl).trans (O9 _ (O6 _))))) rfl ?_;rintro _ _ ⟨hH,rfl,rfl⟩;refine wa rfl (A2 (A1 ?_));obtain rfl:=A5 hG;exact A0 (B3 LJ (AM rfl)) (sC (sS (sC (sC sN)))) ⟨hH,rfl,rfl⟩
theorem Hu (F:Nat)(ha:Nat)(hb:Nat)(q:Ax)(t:Ab)(now:Int)(r:Int×Ax)(h:JP F q t now=some r):Fn Tryd.prog GE 15 [rv (.pointer (some ⟨ha,0,none⟩)),AZ (Af t),rI .i64 now] [.blk ha [rv (.map (some hb))] 45,.map hb (AI Ak q.fTimers)] (λR H=>R=rI .i64 r.1∧H=[.blk ha [rv (.map (some hb))] 45,.map hb (AI Ak r.2.fTimers)]):=by
 refine enter (n:=56) Tryd.func15 rfl Tryd.ntmps15 rfl (λw Z=>?_);refine AU (l':=[(0,rv (.pointer (some ⟨ha,0,none⟩))),(1,AZ (Af t)),(2,rI .i64 now)]) (H':=[.blk ha [rv (.map (some hb))] 45,.map hb (AI Ak q.fTimers)]) rfl rfl ?_;unfold JP at h;refine Ao (Bq rfl rfl (λb1=>?_));refine wv (r:=rI .i64 0) (Ai rfl) (A2 (Az (Ao (wm rfl ?_))));obtain⟨r2,e4,h3⟩:=AN h;refine Do (Hr:=[.blk b1 (Af t) 33]) DV (Em ha hb q r2 e4) rfl ((A6 (i:=1) rfl).trans (O9 _ ((A6 (i:=1) rfl).trans (O9 _ (O6 _))))) rfl ?_;rintro _ _ ⟨rfl,rfl⟩;refine wv (Bt rfl) (A2 (AC (b:=!r2.1) rfl (λc5=>?_) (λc5=>?_)))
 ·have h6:=AP c5 h3;refine Ao (wv (r:=rI .i64 10) (Ai rfl) (A2 (A1 (Am ?_))));obtain rfl:=A5 h6;exact A0 (B3 HO (AM rfl)) (sC (sC (sS sN))) ⟨rfl,rfl⟩
 ·have h7:=AQ c5 h3;refine AG (Bd (Az (Ao (wv (AY (i:=2) E4 BD rfl rfl rfl rfl) ?_))));obtain⟨r8,ho,h9⟩:=AN h7;refine Eg Tryd.call33 (KF F t r8 ho) rfl (wa rfl (BZ (wm rfl (wv (Ev rfl rfl) (A2 (AC (b:=!decide (r8=0)) rfl (λhf=>?_) (λhf=>?_)))))))
  ·have hp:=AP hf h9;refine Ao (wm rfl (wa rfl (A2 (A1 (Am ?_)))));obtain rfl:=A5 hp;exact A0 (B3 HO (AM rfl)) (sC (sC (sS sN))) ⟨rfl,rfl⟩
  ·have hq:=AQ hf h9;refine AG (Bd (Az (Hq 12 [0,2,4] [⟨[],rv (.pointer (some ⟨ha,0,none⟩)),none,none,none⟩,⟨[0],rv (.pointer (some ⟨ha,0,none⟩)),none,none,none⟩,⟨[1],rv (.pointer (some ⟨ha,0,none⟩)),none,none,none⟩,⟨[2],rv (.map (some hb)),none,none,none⟩,⟨[],rv (.pointer (some ⟨b1,0,none⟩)),none,none,none⟩,⟨[4],rS t.fID,none,none,none⟩,⟨[3,5],D1 [AZ [rS (((A7 r2.2.fTimers t.fID (Aa.mk (Ab.mk ([]:Aj) 0 ([]:Aj) ([]:Aj) ([]:(List Ac))) false)).fTimer).fID),rI .i64 (((A7 r2.2.fTimers t.fID (Aa.mk (Ab.mk ([]:Aj) 0 ([]:Aj) ([]:Aj) ([]:(List Ac))) false)).fTimer).fAt),rS (((A7 r2.2.fTimers t.fID (Aa.mk (Ab.mk ([]:Aj) 0 ([]:Aj) ([]:Aj) ([]:(List Ac))) false)).fTimer).fTenant),rS (((A7 r2.2.fTimers t.fID (Aa.mk (Ab.mk ([]:Aj) 0 ([]:Aj) ([]:Aj) ([]:(List Ac))) false)).fTimer).fSource),B0 4 (List.map Ah (((A7 r2.2.fTimers t.fID (Aa.mk (Ab.mk ([]:Aj) 0 ([]:Aj) ([]:Aj) ([]:(List Ac))) false)).fTimer).fBody)),rB ((A7 r2.2.fTimers t.fID (Aa.mk (Ab.mk ([]:Aj) 0 ([]:Aj) ([]:Aj) ([]:(List Ac))) false)).fTold)],rB (CD r2.2.fTimers t.fID)],none,none,none⟩,⟨[6],D1 [AZ [rS (((A7 r2.2.fTimers t.fID (Aa.mk (Ab.mk ([]:Aj) 0 ([]:Aj) ([]:Aj) ([]:(List Ac))) false)).fTimer).fID),rI .i64 (((A7 r2.2.fTimers t.fID (Aa.mk (Ab.mk ([]:Aj) 0 ([]:Aj) ([]:Aj) ([]:(List Ac))) false)).fTimer).fAt),rS (((A7 r2.2.fTimers t.fID (Aa.mk (Ab.mk ([]:Aj) 0 ([]:Aj) ([]:Aj) ([]:(List Ac))) false)).fTimer).fTenant),rS (((A7 r2.2.fTimers t.fID (Aa.mk (Ab.mk ([]:Aj) 0 ([]:Aj) ([]:Aj) ([]:(List Ac))) false)).fTimer).fSource),B0 4 (List.map Ah (((A7 r2.2.fTimers t.fID (Aa.mk (Ab.mk ([]:Aj) 0 ([]:Aj) ([]:Aj) ([]:(List Ac))) false)).fTimer).fBody)),rB ((A7 r2.2.fTimers t.fID (Aa.mk (Ab.mk ([]:Aj) 0 ([]:Aj) ([]:Aj) ([]:(List Ac))) false)).fTold)],rB (CD r2.2.fTimers t.fID)],none,none,none⟩,⟨[7],AZ [rS (((A7 r2.2.fTimers t.fID (Aa.mk (Ab.mk ([]:Aj) 0 ([]:Aj) ([]:Aj) ([]:(List Ac))) false)).fTimer).fID),rI .i64 (((A7 r2.2.fTimers t.fID (Aa.mk (Ab.mk ([]:Aj) 0 ([]:Aj) ([]:Aj) ([]:(List Ac))) false)).fTimer).fAt),rS (((A7 r2.2.fTimers t.fID (Aa.mk (Ab.mk ([]:Aj) 0 ([]:Aj) ([]:Aj) ([]:(List Ac))) false)).fTimer).fTenant),rS (((A7 r2.2.fTimers t.fID (Aa.mk (Ab.mk ([]:Aj) 0 ([]:Aj) ([]:Aj) ([]:(List Ac))) false)).fTimer).fSource),B0 4 (List.map Ah (((A7 r2.2.fTimers t.fID (Aa.mk (Ab.mk ([]:Aj) 0 ([]:Aj) ([]:Aj) ([]:(List Ac))) false)).fTimer).fBody)),rB ((A7 r2.2.fTimers t.fID (Aa.mk (Ab.mk ([]:Aj) 0 ([]:Aj) ([]:Aj) ([]:(List Ac))) false)).fTold)],none,none,none⟩,⟨[7],rB (CD r2.2.fTimers t.fID),none,none,none⟩,⟨[],rv undef,some ([rS ([]:Aj),rI .i64 0,rS ([]:Aj),rS ([]:Aj),rv (.slice none 0 0),rB false],53),some (11,[rS (((A7 r2.2.fTimers t.fID (Aa.mk (Ab.mk ([]:Aj) 0 ([]:Aj) ([]:Aj) ([]:(List Ac))) false)).fTimer).fID),rI .i64 (((A7 r2.2.fTimers t.fID (Aa.mk (Ab.mk ([]:Aj) 0 ([]:Aj) ([]:Aj) ([]:(List Ac))) false)).fTimer).fAt),rS (((A7 r2.2.fTimers t.fID (Aa.mk (Ab.mk ([]:Aj) 0 ([]:Aj) ([]:Aj) ([]:(List Ac))) false)).fTimer).fTenant),rS (((A7 r2.2.fTimers t.fID (Aa.mk (Ab.mk ([]:Aj) 0 ([]:Aj) ([]:Aj) ([]:(List Ac))) false)).fTimer).fSource),B0 4 (List.map Ah (((A7 r2.2.fTimers t.fID (Aa.mk (Ab.mk ([]:Aj) 0 ([]:Aj) ([]:Aj) ([]:(List Ac))) false)).fTimer).fBody)),rB ((A7 r2.2.fTimers t.fID (Aa.mk (Ab.mk ([]:Aj) 0 ([]:Aj) ([]:Aj) ([]:(List Ac))) false)).fTold)]),none⟩,⟨[8],rv undef,none,none,some 10⟩] ?_ (λβ=>?_))))
   ·refine IA (Av rfl) (IA (Bk rfl) (IA (Ae EQ rfl ES rfl rfl) (MA (A3 (i:=0) ET rfl rfl rfl) (IA (Ae Cu rfl DM rfl rfl) (MA (A3 (i:=2) Ef rfl rfl rfl) (MA (Jz (enc:=Ak) (xs:=r2.2.fTimers) (z:=Aa.mk (Ab.mk ([]:Aj) 0 ([]:Aj) ([]:Aj) ([]:(List Ac))) false) (i:=1) Gk EX HK BY rfl rfl rfl) (IA (Av rfl) (IA (AV rfl rfl) (IA (AV rfl rfl) (Ow (NJ (cs:=[rS ([]:Aj),rI .i64 0,rS ([]:Aj),rS ([]:Aj),rv (.slice none 0 0),rB false]) HK rfl) (Ov (fun {hk hh}=>Ig (BC (i:=0) Kx rfl rfl rfl (Bv.c rfl) rfl rfl (cs':=[rS (((A7 r2.2.fTimers t.fID (Aa.mk (Ab.mk ([]:Aj) 0 ([]:Aj) ([]:Aj) ([]:(List Ac))) false)).fTimer).fID),rI .i64 (((A7 r2.2.fTimers t.fID (Aa.mk (Ab.mk ([]:Aj) 0 ([]:Aj) ([]:Aj) ([]:(List Ac))) false)).fTimer).fAt),rS (((A7 r2.2.fTimers t.fID (Aa.mk (Ab.mk ([]:Aj) 0 ([]:Aj) ([]:Aj) ([]:(List Ac))) false)).fTimer).fTenant),rS (((A7 r2.2.fTimers t.fID (Aa.mk (Ab.mk ([]:Aj) 0 ([]:Aj) ([]:Aj) ([]:(List Ac))) false)).fTimer).fSource),B0 4 (List.map Ah (((A7 r2.2.fTimers t.fID (Aa.mk (Ab.mk ([]:Aj) 0 ([]:Aj) ([]:Aj) ([]:(List Ac))) false)).fTimer).fBody)),rB ((A7 r2.2.fTimers t.fID (Aa.mk (Ab.mk ([]:Aj) 0 ([]:Aj) ([]:Aj) ([]:(List Ac))) false)).fTold)]) rfl (H':=.blk hk [rS (((A7 r2.2.fTimers t.fID (Aa.mk (Ab.mk ([]:Aj) 0 ([]:Aj) ([]:Aj) ([]:(List Ac))) false)).fTimer).fID),rI .i64 (((A7 r2.2.fTimers t.fID (Aa.mk (Ab.mk ([]:Aj) 0 ([]:Aj) ([]:Aj) ([]:(List Ac))) false)).fTimer).fAt),rS (((A7 r2.2.fTimers t.fID (Aa.mk (Ab.mk ([]:Aj) 0 ([]:Aj) ([]:Aj) ([]:(List Ac))) false)).fTimer).fTenant),rS (((A7 r2.2.fTimers t.fID (Aa.mk (Ab.mk ([]:Aj) 0 ([]:Aj) ([]:Aj) ([]:(List Ac))) false)).fTimer).fSource),B0 4 (List.map Ah (((A7 r2.2.fTimers t.fID (Aa.mk (Ab.mk ([]:Aj) 0 ([]:Aj) ([]:Aj) ([]:(List Ac))) false)).fTimer).fBody)),rB ((A7 r2.2.fTimers t.fID (Aa.mk (Ab.mk ([]:Aj) 0 ([]:Aj) ([]:Aj) ([]:(List Ac))) false)).fTold)] 53::hh) rfl)) ?_)))))))))));exact Of
   refine II (H1:=[.blk ha [rv (.map (some hb))] 45,.map hb (AI Ak r2.2.fTimers),.blk b1 (Af t) 33,.blk (β 10) [rS (((A7 r2.2.fTimers t.fID (Aa.mk (Ab.mk ([]:Aj) 0 ([]:Aj) ([]:Aj) ([]:(List Ac))) false)).fTimer).fID),rI .i64 (((A7 r2.2.fTimers t.fID (Aa.mk (Ab.mk ([]:Aj) 0 ([]:Aj) ([]:Aj) ([]:(List Ac))) false)).fTimer).fAt),rS (((A7 r2.2.fTimers t.fID (Aa.mk (Ab.mk ([]:Aj) 0 ([]:Aj) ([]:Aj) ([]:(List Ac))) false)).fTimer).fTenant),rS (((A7 r2.2.fTimers t.fID (Aa.mk (Ab.mk ([]:Aj) 0 ([]:Aj) ([]:Aj) ([]:(List Ac))) false)).fTimer).fSource),B0 4 (List.map Ah (((A7 r2.2.fTimers t.fID (Aa.mk (Ab.mk ([]:Aj) 0 ([]:Aj) ([]:Aj) ([]:(List Ac))) false)).fTimer).fBody)),rB ((A7 r2.2.fTimers t.fID (Aa.mk (Ab.mk ([]:Aj) 0 ([]:Aj) ([]:Aj) ([]:(List Ac))) false)).fTold)] 53]) [19,20,21,22,23,24,25,18,26,27,8,0,2,4] ?_;generalize β 10=hk;refine wa rfl (A2 (Az (AW ?_)));obtain⟨hr,hl⟩:=AK hq;refine AE [(0,rv (.pointer (some ⟨ha,0,none⟩))),(4,rv (.pointer (some ⟨b1,0,none⟩))),(9,rB (CD r2.2.fTimers t.fID)),(28,rB ((!(ov (DO now)))||(decide (t.fAt<now))))] [.blk ha [rv (.map (some hb))] 45,.map hb (AI Ak r2.2.fTimers),.blk b1 (Af t) 33] ?_ ?_
   ·refine Au (wm rfl (Eg Tryd.call34 (Jp now (ov (DO now)) (If hr)) rfl (wv (Bt rfl) (wm rfl (AD (!(ov (DO now))) (λhd=>?_) (λhd=>?_))))))
    ·refine wf hd (wf hd (wf hd (wf hd (wv (r:=rB true) (As (b:=!(ov (DO now))) rfl hd rfl) (wa rfl (Aq ?_))))));exact CB hd
    ·refine wo hd (wv (Ae Cu rfl CU rfl rfl) (wo hd (wv (A3 (i:=2) Dg rfl rfl rfl) (wo hd (wm rfl (wo hd (wv (GL rfl rfl) (I8 rfl hd rfl (wa rfl (Aq ?_))))))))));exact CB hd
   refine AC (b:=((!(ov (DO now)))||(decide (t.fAt<now)))) rfl (λhg=>?_) (λhg=>?_)
   ·have hs:=AP hg hl;refine Ao (wv (r:=rI .i64 2) (Ai rfl) (A2 (A1 (AB (Am ?_)))));obtain rfl:=A5 hs;exact A0 (B3 HO (AM rfl)) (sC (sC (sS sN))) ⟨rfl,rfl⟩
   ·have hm:=AQ hg hl;refine Ao (wm rfl (wa rfl (A2 (AC (b:=CD r2.2.fTimers t.fID) rfl (λhi=>?_) (λhi=>?_)))))
    ·have ht:=AP hi hm;refine Ao (wv (r:=rI .i64 6) (Ai rfl) (A2 (A1 (AB (Am ?_)))));obtain rfl:=A5 ht;exact A0 (B3 HO (AM rfl)) (sC (sC (sS sN))) ⟨rfl,rfl⟩
    ·have hn:=AQ hi hm;refine Ao (wm rfl (wv (Bk rfl) (wv (Ae EQ rfl ES rfl rfl) (wv (A3 (i:=0) ET rfl rfl rfl) (wv (r:=rI .i64 (r2.2.fTimers.length:Int)) (Na (N:=r2.2.fTimers.length) (i:=1) Gk rfl rfl (D2 _ _)) (wv (GN rfl rfl) (wa rfl (A2 (AC (b:=decide (256≤(r2.2.fTimers.length:Int))) rfl (λhj=>?_) (λhj=>?_))))))))))
     ·have hu:=AP hj hn;refine Ao (wv (r:=rI .i64 3) (Ai rfl) (A2 (A1 (AB (Am ?_)))));obtain rfl:=A5 hu;exact A0 (B3 HO (AM rfl)) (sC (sC (sS sN))) ⟨rfl,rfl⟩
     ·have hw:=AQ hj hn;refine AG (Ba (Bd (Az ?_)));obtain⟨he,hx,hy⟩:=AN hw;refine Hq 9 [0,4] [⟨[],rv (.pointer (some ⟨ha,0,none⟩)),none,none,none⟩,⟨[0],rv (.pointer (some ⟨ha,0,none⟩)),none,none,none⟩,⟨[1],rv (.pointer (some ⟨ha,0,none⟩)),none,none,none⟩,⟨[2],rv (.map (some hb)),none,none,none⟩,⟨[],rv (.pointer (some ⟨b1,0,none⟩)),none,none,none⟩,⟨[4],rS t.fID,none,none,none⟩,⟨[],AZ (Af t),none,none,none⟩,⟨[6],AZ (Af he),none,none,none⟩,⟨[7],AZ [rS he.fID,rI .i64 he.fAt,rS he.fTenant,rS he.fSource,B0 4 (List.map Ah he.fBody),rB false],none,none,none⟩] ?_ (λβ=>?_)
      ·refine IA (Av rfl) (IA (Bk rfl) (IA (Ae EQ rfl ES rfl rfl) (MA (A3 (i:=0) ET rfl rfl rfl) (IA (Ae Cu rfl DM rfl rfl) (MA (A3 (i:=2) Ef rfl rfl rfl) (MA (AY (i:=2) E4 BD rfl rfl rfl rfl) (Ox (KX Tryd.call22 (KC t he hx) rfl) (IA (Il rfl) ?_))))))));exact Of
      refine II (H1:=[.blk ha [rv (.map (some hb))] 45,.map hb (AI Ak r2.2.fTimers),.blk b1 (Af t) 33]) [47,48,49,50,51,52,53,54,55,0,4] ?_;refine Jn (enc:=Ak) (xs:=r2.2.fTimers) (v:=(Aa.mk he false)) (i:=1) Gk EX rfl rfl rfl rfl (H':=[.blk ha [rv (.map (some hb))] 45,.map hb (AI Ak (mset r2.2.fTimers t.fID (Aa.mk he false))),.blk b1 (Af t) 33]) rfl (BZ (wv (r:=rI .i64 0) (Ai rfl) (A2 (A1 ?_))));obtain rfl:=A5 hy;exact A0 (B3 HO (AM rfl)) (sC (sC (sS sN))) ⟨rfl,rfl⟩
theorem KG (hb:Nat)(ha:Nat)(q:Ax)(id:Aj)(r:Int×Ax)(h:LT q id=some r):Fn Tryd.prog GE 13 [rv (.pointer (some ⟨hb,0,none⟩)),rS id] [.blk hb [rv (.map (some ha))] 45,.map ha (AI Ak q.fTimers)] (λR H=>R=rI .i64 r.1∧H=[.blk hb [rv (.map (some ha))] 45,.map ha (AI Ak r.2.fTimers)]):=by
 refine enter (n:=26) Tryd.func13 rfl Tryd.ntmps13 rfl (λw Z=>?_);refine AU (l':=[(0,rv (.pointer (some ⟨hb,0,none⟩))),(1,rS id)]) (H':=[.blk hb [rv (.map (some ha))] 45,.map ha (AI Ak q.fTimers)]) rfl rfl ?_;unfold LT at h;refine Ao (wv (r:=rI .i64 0) (Ai rfl) (A2 (Az (Ao (wm rfl ?_)))));obtain⟨r1,e3,h2⟩:=AN h;refine Do (Hr:=[]) DV (Em hb ha q r1 e3) rfl (O6 _) rfl ?_;rintro _ _ ⟨rfl,rfl⟩;refine wv (Bt rfl) (A2 (AC (b:=!r1.1) rfl (λc4=>?_) (λc4=>?_)))
 ·have h5:=AP c4 h2;refine Ao (wv (r:=rI .i64 10) (Ai rfl) (A2 (A1 (Am ?_))));obtain rfl:=A5 h5;exact A0 (B3 K2 (AM rfl)) (sC (sC sN)) ⟨rfl,rfl⟩
 ·have h6:=AQ c4 h2;refine AG (Bd (Az (Ao (wm rfl (wv (Bk rfl) (wv (Ae EQ rfl ES rfl rfl) (wv (A3 (i:=0) ET rfl rfl rfl) (wm rfl (wv (r:=D1 [AZ [rS (((A7 r1.2.fTimers id (Aa.mk (Ab.mk ([]:Aj) 0 ([]:Aj) ([]:Aj) ([]:(List Ac))) false)).fTimer).fID),rI .i64 (((A7 r1.2.fTimers id (Aa.mk (Ab.mk ([]:Aj) 0 ([]:Aj) ([]:Aj) ([]:(List Ac))) false)).fTimer).fAt),rS (((A7 r1.2.fTimers id (Aa.mk (Ab.mk ([]:Aj) 0 ([]:Aj) ([]:Aj) ([]:(List Ac))) false)).fTimer).fTenant),rS (((A7 r1.2.fTimers id (Aa.mk (Ab.mk ([]:Aj) 0 ([]:Aj) ([]:Aj) ([]:(List Ac))) false)).fTimer).fSource),B0 4 (List.map Ah (((A7 r1.2.fTimers id (Aa.mk (Ab.mk ([]:Aj) 0 ([]:Aj) ([]:Aj) ([]:(List Ac))) false)).fTimer).fBody)),rB ((A7 r1.2.fTimers id (Aa.mk (Ab.mk ([]:Aj) 0 ([]:Aj) ([]:Aj) ([]:(List Ac))) false)).fTold)],rB (CD r1.2.fTimers id)]) (Jz (enc:=Ak) (xs:=r1.2.fTimers) (z:=Aa.mk (Ab.mk ([]:Aj) 0 ([]:Aj) ([]:Aj) ([]:(List Ac))) false) (i:=1) Gk EX HK BY rfl rfl rfl) (wm rfl (wv (AV rfl rfl) (wv (AV rfl rfl) (Cj (cs:=[rS ([]:Aj),rI .i64 0,rS ([]:Aj),rS ([]:Aj),rv (.slice none 0 0),rB false]) HK rfl rfl (λb7=>?_))))))))))))));refine Bx (i:=0) Kx rfl rfl rfl (Bv.c rfl) rfl rfl (cs':=[rS (((A7 r1.2.fTimers id (Aa.mk (Ab.mk ([]:Aj) 0 ([]:Aj) ([]:Aj) ([]:(List Ac))) false)).fTimer).fID),rI .i64 (((A7 r1.2.fTimers id (Aa.mk (Ab.mk ([]:Aj) 0 ([]:Aj) ([]:Aj) ([]:(List Ac))) false)).fTimer).fAt),rS (((A7 r1.2.fTimers id (Aa.mk (Ab.mk ([]:Aj) 0 ([]:Aj) ([]:Aj) ([]:(List Ac))) false)).fTimer).fTenant),rS (((A7 r1.2.fTimers id (Aa.mk (Ab.mk ([]:Aj) 0 ([]:Aj) ([]:Aj) ([]:(List Ac))) false)).fTimer).fSource),B0 4 (List.map Ah (((A7 r1.2.fTimers id (Aa.mk (Ab.mk ([]:Aj) 0 ([]:Aj) ([]:Aj) ([]:(List Ac))) false)).fTimer).fBody)),rB ((A7 r1.2.fTimers id (Aa.mk (Ab.mk ([]:Aj) 0 ([]:Aj) ([]:Aj) ([]:(List Ac))) false)).fTold)]) rfl (H':=[.blk b7 [rS (((A7 r1.2.fTimers id (Aa.mk (Ab.mk ([]:Aj) 0 ([]:Aj) ([]:Aj) ([]:(List Ac))) false)).fTimer).fID),rI .i64 (((A7 r1.2.fTimers id (Aa.mk (Ab.mk ([]:Aj) 0 ([]:Aj) ([]:Aj) ([]:(List Ac))) false)).fTimer).fAt),rS (((A7 r1.2.fTimers id (Aa.mk (Ab.mk ([]:Aj) 0 ([]:Aj) ([]:Aj) ([]:(List Ac))) false)).fTimer).fTenant),rS (((A7 r1.2.fTimers id (Aa.mk (Ab.mk ([]:Aj) 0 ([]:Aj) ([]:Aj) ([]:(List Ac))) false)).fTimer).fSource),B0 4 (List.map Ah (((A7 r1.2.fTimers id (Aa.mk (Ab.mk ([]:Aj) 0 ([]:Aj) ([]:Aj) ([]:(List Ac))) false)).fTimer).fBody)),rB ((A7 r1.2.fTimers id (Aa.mk (Ab.mk ([]:Aj) 0 ([]:Aj) ([]:Aj) ([]:(List Ac))) false)).fTold)] 53,.blk hb [rv (.map (some ha))] 45,.map ha (AI Ak r1.2.fTimers)]) rfl (wa rfl (BZ (wm rfl (wv (Bt rfl) (A2 (AC (b:=!(CD r1.2.fTimers id)) rfl (λc8=>?_) (λc8=>?_)))))))
  ·have h9:=AP c8 h6;refine Ao (wv (r:=rI .i64 5) (Ai rfl) (A2 (A1 (Am ?_))));obtain rfl:=A5 h9;exact A0 (B3 K2 (AM rfl)) (sS (sC (sC sN))) ⟨rfl,rfl⟩
  ·have hd:=AQ c8 h6;refine AG (Bd (Ao (wm rfl (wv (Bk rfl) (wv (Ae EQ rfl ES rfl rfl) (wv (A3 (i:=1) ET rfl rfl rfl) (wm rfl (LP (enc:=Ak) (xs:=r1.2.fTimers) (i:=2) Gk EX rfl rfl rfl (H':=[.blk b7 [rS (((A7 r1.2.fTimers id (Aa.mk (Ab.mk ([]:Aj) 0 ([]:Aj) ([]:Aj) ([]:(List Ac))) false)).fTimer).fID),rI .i64 (((A7 r1.2.fTimers id (Aa.mk (Ab.mk ([]:Aj) 0 ([]:Aj) ([]:Aj) ([]:(List Ac))) false)).fTimer).fAt),rS (((A7 r1.2.fTimers id (Aa.mk (Ab.mk ([]:Aj) 0 ([]:Aj) ([]:Aj) ([]:(List Ac))) false)).fTimer).fTenant),rS (((A7 r1.2.fTimers id (Aa.mk (Ab.mk ([]:Aj) 0 ([]:Aj) ([]:Aj) ([]:(List Ac))) false)).fTimer).fSource),B0 4 (List.map Ah (((A7 r1.2.fTimers id (Aa.mk (Ab.mk ([]:Aj) 0 ([]:Aj) ([]:Aj) ([]:(List Ac))) false)).fTimer).fBody)),rB ((A7 r1.2.fTimers id (Aa.mk (Ab.mk ([]:Aj) 0 ([]:Aj) ([]:Aj) ([]:(List Ac))) false)).fTold)] 53,.blk hb [rv (.map (some ha))] 45,.map ha (AI Ak (mdel r1.2.fTimers id))]) rfl (BZ (wv (r:=rI .i64 0) (Ai rfl) (A2 (A1 ?_))))))))))));obtain rfl:=A5 hd;exact A0 (B3 K2 (AM rfl)) (sS (sC (sC sN))) ⟨rfl,rfl⟩
theorem JR (hd:Nat)(hb:Nat)(q:Ax)(id:Aj)(r:Int×Ax)(h:Hw q id=some r):Fn Tryd.prog GE 12 [rv (.pointer (some ⟨hd,0,none⟩)),rS id] [.blk hd [rv (.map (some hb))] 45,.map hb (AI Ak q.fTimers)] (λR H=>R=rI .i64 r.1∧H=[.blk hd [rv (.map (some hb))] 45,.map hb (AI Ak r.2.fTimers)]):=by
 refine enter (n:=19) Tryd.func12 rfl Tryd.ntmps12 rfl (λw Z=>?_);refine AU (l':=[(0,rv (.pointer (some ⟨hd,0,none⟩))),(1,rS id)]) (H':=[.blk hd [rv (.map (some hb))] 45,.map hb (AI Ak q.fTimers)]) rfl rfl ?_;unfold Hw at h;refine Ao (wv (r:=rI .i64 0) (Ai rfl) (A2 (Az (Cv (S:=(Bool×(List (Aj×Aa)))×(Unit)) (λσ=>CR id σ.1.1 σ.1.2=some r) (λσ=>[(0,rv (.pointer (some ⟨hd,0,none⟩))),(1,rS id),(4,rI .i64 0),(15,rB σ.1.1)]) (λσ=>[.blk hd [rv (.map (some hb))] 45,.map hb (AI Ak σ.1.2)]) ?_ ?_))))
 ·refine Au (wm rfl ?_);obtain⟨r9,hh,hg⟩:=AN h;refine Do (Hr:=[]) DV (Em hd hb q r9 hh) rfl (O6 _) rfl ?_;rintro _ _ ⟨rfl,rfl⟩;refine wm rfl (AD (r9.1) (λha=>?_) (λha=>?_))
  ·have hi:=AP ha hg;exact wo ha (wm rfl (wo ha (wv (Bk rfl) (wo ha (wv (Ae EQ rfl ES rfl rfl) (wo ha (wv (A3 (i:=0) ET rfl rfl rfl) (wo ha (wm rfl (wo ha (wv (r:=AZ [rS (((A7 r9.2.fTimers id (Aa.mk (Ab.mk ([]:Aj) 0 ([]:Aj) ([]:Aj) ([]:(List Ac))) false)).fTimer).fID),rI .i64 (((A7 r9.2.fTimers id (Aa.mk (Ab.mk ([]:Aj) 0 ([]:Aj) ([]:Aj) ([]:(List Ac))) false)).fTimer).fAt),rS (((A7 r9.2.fTimers id (Aa.mk (Ab.mk ([]:Aj) 0 ([]:Aj) ([]:Aj) ([]:(List Ac))) false)).fTimer).fTenant),rS (((A7 r9.2.fTimers id (Aa.mk (Ab.mk ([]:Aj) 0 ([]:Aj) ([]:Aj) ([]:(List Ac))) false)).fTimer).fSource),B0 4 (List.map Ah (((A7 r9.2.fTimers id (Aa.mk (Ab.mk ([]:Aj) 0 ([]:Aj) ([]:Aj) ([]:(List Ac))) false)).fTimer).fBody)),rB ((A7 r9.2.fTimers id (Aa.mk (Ab.mk ([]:Aj) 0 ([]:Aj) ([]:Aj) ([]:(List Ac))) false)).fTold)]) (Ld (enc:=Ak) (xs:=r9.2.fTimers) (z:=Aa.mk (Ab.mk ([]:Aj) 0 ([]:Aj) ([]:Aj) ([]:(List Ac))) false) (i:=1) Gk EX HK BY rfl rfl rfl) (wo ha (wv (r:=rB ((A7 r9.2.fTimers id (Aa.mk (Ab.mk ([]:Aj) 0 ([]:Aj) ([]:Aj) ([]:(List Ac))) false)).fTold)) (Mf JG rfl K3 rfl rfl) (DK rfl ha rfl (Aq (Aw (AL (((A7 r9.2.fTimers id (Aa.mk (Ab.mk ([]:Aj) 0 ([]:Aj) ([]:Aj) ([]:(List Ac))) false)).fTold,r9.2.fTimers),()) hi (AS.c rfl (AS.c rfl (AS.c rfl (AS.c rfl AS.nil)))) (sC (sC sN)))))))))))))))))))
  ·have hj:=AQ ha hg;exact wf ha (wf ha (wf ha (wf ha (wf ha (wf ha (wf ha (wv (r:=rB false) (An (b:=r9.1) rfl ha rfl) (Aq (Aw (AL ((false,r9.2.fTimers),()) hj (AS.c rfl (AS.c rfl (AS.c rfl (AS.c rfl AS.nil)))) (sC (sC sN))))))))))))
 ·rintro⟨⟨x7,x8⟩,⟨⟩⟩ he;refine AU (l':=[(0,rv (.pointer (some ⟨hd,0,none⟩))),(1,rS id),(4,rI .i64 0),(15,rB x7)]) (H':=[.blk hd [rv (.map (some hb))] 45,.map hb (AI Ak x8)]) rfl rfl ?_;replace he:CR id x7 x8=some r:=he;unfold CR at he;refine AC (b:=x7) rfl (λhf=>?_) (λhf=>?_)
  ·have hk:=AP hf he;refine Ao (wv (r:=rI .i64 10) (Ai rfl) (A2 (A1 (Am ?_))));obtain rfl:=A5 hk;exact A0 (B3 LI (AM rfl)) (sC (sC sN)) ⟨rfl,rfl⟩
  ·have hl:=AQ hf he;refine AG (Bd (Ao (wm rfl (wm rfl ?_))));obtain⟨hm,hn,ho⟩:=AN hl;refine Do (Hr:=[]) JJ (KG hd hb (Ax.mk x8) id hm hn) rfl (O6 _) rfl ?_;rintro _ _ ⟨rfl,rfl⟩;refine wa rfl (A2 (A1 ?_));obtain rfl:=A5 ho;exact A0 (B3 LI (AM rfl)) (sC (sC sN)) ⟨rfl,rfl⟩
theorem LR (hb:Nat)(ha:Nat)(q:Ax)(r:Int×Bool×Ax)(h:KD q=some r):Fn Tryd.prog GE 19 [rv (.pointer (some ⟨hb,0,none⟩))] [.blk hb [rv (.map (some ha))] 45,.map ha (AI Ak q.fTimers)] (λR H=>R=D1 [rI .i64 r.1,rB r.2.1]∧H=[.blk hb [rv (.map (some ha))] 45,.map ha (AI Ak r.2.2.fTimers)]):=by
 refine enter (n:=14) Tryd.func19 rfl Tryd.ntmps19 rfl (λw Z=>?_);refine AU (l':=[(0,rv (.pointer (some ⟨hb,0,none⟩)))]) (H':=[.blk hb [rv (.map (some ha))] 45,.map ha (AI Ak q.fTimers)]) rfl rfl ?_;unfold KD at h;refine Ao (wv (r:=rI .i64 0) (Ai rfl) (wv (r:=rB false) (Ai rfl) (BZ (wm rfl ?_))));obtain⟨r1,e3,h2⟩:=AN h;refine Do (Hr:=[]) Ns (Jq hb ha q r1 e3) rfl (O6 _) rfl ?_;rintro _ _ ⟨v4,rfl,rfl⟩;refine wa rfl (A2 (Az (Ao (wm rfl (wv (Bi (ys:=r1.1) (enc:=Af) (i:=0) CG rfl rfl) (wv (Bj rfl rfl) (A2 (AC (b:=decide ((r1.1.length:Int)=0)) rfl (λc5=>?_) (λc5=>?_)))))))))
 ·have h6:=AP c5 h2;refine Ao (wv (r:=rI .i64 0) (Ai rfl) (wv (r:=rB false) (Ai rfl) (A2 (A1 (Am ?_)))));obtain rfl:=A5 h6;exact A0 (MV JH (AM rfl) (AM rfl)) (sS (sC (sC sN))) ⟨rfl,rfl⟩
 ·have h7:=AQ c5 h2;refine AG (Bd (Ao (wm rfl ?_)));obtain⟨g8,h9⟩:=AK h7;refine wv (r:=rv (BR 5 v4 (Int.toNat 0) 0)) (Cw (i:=0) CG BD rfl rfl rfl (AJ g8)) (wv (r:=rv (BR 5 v4 (Int.toNat 0) 1)) (BK (k:=0) Cu rfl CU rfl (AJ g8) rfl rfl rfl) (wv (r:=rI .i64 ((Ar r1.1 0).fAt)) (Cn (enc:=Af) (ys:=r1.1) (i:=0) (j:=0) Dg rfl rfl g8 rfl) (wa rfl (wv (r:=rB true) (Ai rfl) (A2 (A1 ?_))))));obtain rfl:=A5 h9;exact A0 (MV JH (AM rfl) (AM rfl)) (sS (sC (sC sN))) ⟨rfl,rfl⟩
theorem Gu  (r:(List Ab))(h:C7=some r):Fn Tryd.prog GE 9 [rv (.pointer none)] [] (λR H=>∃u0:Value,R=rv u0∧H=[.row u0 33 5 (List.map Af r)]):=by
 refine enter (n:=27) Tryd.func9 rfl Tryd.ntmps9 rfl (λw Z=>?_);refine AU (l':=[(0,rv (.pointer none))]) (H':=[]) rfl rfl ?_;unfold C7 at h;refine Ao (wv (r:=rv (.slice none 0 0)) (Ai rfl) (A2 (Az (Ao (wm rfl (Eg DV (CQ false rfl) rfl (wv (Bt rfl) (A2 (Br rfl (EK rfl) (Ao (wv (r:=rv (.slice none 0 0)) (Ai rfl) (A2 (A1 (Am (WK.nilrow (e:=33) (sz:=5) ?_)))))))))))))));obtain rfl:=A5 h;exact A0 (B3 NO (AM rfl)) (sC sN) ⟨(.slice none 0 0                                 ),rfl,rfl⟩
theorem JQ (now:Int)(r:(List Ab))(h:Ck now=some r):Fn Tryd.prog GE 10 [rv (.pointer none),rI .i64 now] [] (λR H=>∃u0:Value,R=rv u0∧H=[.row u0 33 5 (List.map Af r)]):=by
 refine enter (n:=49) Tryd.func10 rfl Tryd.ntmps10 rfl (λw Z=>?_);refine AU (l':=[(0,rv (.pointer none)),(1,rI .i64 now)]) (H':=[]) rfl rfl ?_;unfold Ck at h;refine Ao (Jm rfl (B4 rfl) rfl (λb1=>?_));refine wv (r:=rv (.slice none 0 0)) (Ai rfl) (A2 (Az (Ao (wm rfl (Eg DV (CQ false rfl) rfl (wv (Bt rfl) (A2 (Br rfl (EK rfl) (Ao (wv (r:=rv (.slice none 0 0)) (Ai rfl) (A2 (A1 (Am (WK.nilrow (e:=33) (sz:=5) ?_))))))))))))));obtain rfl:=A5 h;exact A0 (B3 LJ (AM rfl)) (sC (sS sN)) ⟨(.slice none 0 0                                 ),rfl,rfl⟩
theorem JO (t:Ab)(now:Int)(r:Int)(h:BX t now=some r):Fn Tryd.prog GE 15 [rv (.pointer none),AZ (Af t),rI .i64 now] [] (λR H=>R=rI .i64 r∧H=[]):=by
 refine enter (n:=56) Tryd.func15 rfl Tryd.ntmps15 rfl (λw Z=>?_);refine AU (l':=[(0,rv (.pointer none)),(1,AZ (Af t)),(2,rI .i64 now)]) (H':=[]) rfl rfl ?_;unfold BX at h;refine Ao (Bq rfl rfl (λb1=>?_));refine wv (r:=rI .i64 0) (Ai rfl) (A2 (Az (Ao (wm rfl (Eg DV (CQ false rfl) rfl (wv (Bt rfl) (A2 (Br rfl (EK rfl) (Ao (wv (r:=rI .i64 10) (Ai rfl) (A2 (A1 (Am ?_)))))))))))));obtain rfl:=A5 h;exact A0 (B3 HO (AM rfl)) (sS sN) ⟨rfl,rfl⟩
theorem GV (id:Aj)(r:Int)(h:Cl id=some r):Fn Tryd.prog GE 13 [rv (.pointer none),rS id] [] (λR H=>R=rI .i64 r∧H=[]):=by
 refine enter (n:=26) Tryd.func13 rfl Tryd.ntmps13 rfl (λw Z=>?_);refine AU (l':=[(0,rv (.pointer none)),(1,rS id)]) (H':=[]) rfl rfl ?_;unfold Cl at h;refine Ao (wv (r:=rI .i64 0) (Ai rfl) (A2 (Az (Ao (wm rfl (Eg DV (CQ false rfl) rfl (wv (Bt rfl) (A2 (Br rfl (EK rfl) (Ao (wv (r:=rI .i64 10) (Ai rfl) (A2 (A1 (Am ?_))))))))))))));obtain rfl:=A5 h;exact A0 (B3 K2 (AM rfl)) sN ⟨rfl,rfl⟩
theorem Hv (id:Aj)(r:Int)(h:Bs id=some r):Fn Tryd.prog GE 12 [rv (.pointer none),rS id] [] (λR H=>R=rI .i64 r∧H=[]):=by
 refine enter (n:=19) Tryd.func12 rfl Tryd.ntmps12 rfl (λw Z=>?_);refine AU (l':=[(0,rv (.pointer none)),(1,rS id)]) (H':=[]) rfl rfl ?_;unfold Bs at h;refine Ao (wv (r:=rI .i64 0) (Ai rfl) (A2 (Az (AE [(0,rv (.pointer none)),(1,rS id),(15,rB false)] [] ?_ ?_))))
 ·refine Au (wm rfl (Eg DV (CQ false rfl) rfl (wm rfl (Ad (b:=false) rfl rfl rfl rfl (Ad (b:=false) rfl rfl rfl rfl (Ad (b:=false) rfl rfl rfl rfl (Ad (b:=false) rfl rfl rfl rfl (Ad (b:=false) rfl rfl rfl rfl (Ad (b:=false) rfl rfl rfl rfl (Ad (b:=false) rfl rfl rfl rfl (wv (r:=rB false) (An (b:=false) rfl rfl rfl) (Aq ?_))))))))))));exact wt
 refine Ce rfl rfl (AG (Bd (Ao (wm rfl (wm rfl ?_)))));obtain⟨r1,e3,h2⟩:=AN h;refine Eg JJ (GV id r1 e3) rfl (wa rfl (A2 (A1 ?_)));obtain rfl:=A5 h2;exact A0 (B3 LI (AM rfl)) sN ⟨rfl,rfl⟩
theorem IM  (r:Int×Bool)(h:Gs=some r):Fn Tryd.prog GE 19 [rv (.pointer none)] [] (λR H=>R=D1 [rI .i64 r.1,rB r.2]∧H=[]):=by
 refine enter (n:=14) Tryd.func19 rfl Tryd.ntmps19 rfl (λw Z=>?_);refine AU (l':=[(0,rv (.pointer none))]) (H':=[]) rfl rfl ?_;unfold Gs at h;refine Ao (wv (r:=rI .i64 0) (Ai rfl) (wv (r:=rB false) (Ai rfl) (BZ (wm rfl ?_))));obtain⟨r1,e3,h2⟩:=AN h;refine Do (Hr:=[]) Ns (Gu r1 e3) rfl (O6 _) rfl ?_;rintro _ _ ⟨v4,rfl,rfl⟩;refine wa rfl (A2 (Az (Ao (wm rfl (wv (Bi (ys:=r1) (enc:=Af) (i:=0) CG rfl rfl) (wv (Bj rfl rfl) (A2 (AC (b:=decide ((r1.length:Int)=0)) rfl (λc5=>?_) (λc5=>?_)))))))))
 ·have h6:=AP c5 h2;refine Ao (wv (r:=rI .i64 0) (Ai rfl) (wv (r:=rB false) (Ai rfl) (A2 (A1 (Am ?_)))));obtain rfl:=A5 h6;exact A0 (MV JH (AM rfl) (AM rfl)) (sS sN) ⟨rfl,rfl⟩
 ·have h7:=AQ c5 h2;refine AG (Bd (Ao (wm rfl ?_)));obtain⟨g8,h9⟩:=AK h7;refine wv (r:=rv (BR 5 v4 (Int.toNat 0) 0)) (Cw (i:=0) CG BD rfl rfl rfl (AJ g8)) (wv (r:=rv (BR 5 v4 (Int.toNat 0) 1)) (BK (k:=0) Cu rfl CU rfl (AJ g8) rfl rfl rfl) (wv (r:=rI .i64 ((Ar r1 0).fAt)) (Cn (enc:=Af) (ys:=r1) (i:=0) (j:=0) Dg rfl rfl g8 rfl) (wa rfl (wv (r:=rB true) (Ai rfl) (A2 (A1 ?_))))));obtain rfl:=A5 h9;exact A0 (MV JH (AM rfl) (AM rfl)) (sS sN) ⟨rfl,rfl⟩
theorem EJ (ha:Nat)  (r:(List Ab))(h:DA=some r):Fn Tryd.prog GE 9 [rv (.pointer (some ⟨ha,0,none⟩))] [.blk ha [rv (.map none)] 45] (λR H=>∃u0:Value,R=rv u0∧H=[.row u0 33 5 (List.map Af r),.blk ha [rv (.map none)] 45]):=by
 refine enter (n:=27) Tryd.func9 rfl Tryd.ntmps9 rfl (λw Z=>?_);refine AU (l':=[(0,rv (.pointer (some ⟨ha,0,none⟩)))]) (H':=[.blk ha [rv (.map none)] 45]) rfl rfl ?_;unfold DA at h;refine Ao (wv (r:=rv (.slice none 0 0)) (Ai rfl) (A2 (Az (Ao (wm rfl (Do (Hr:=[]) DV (C6 ha false rfl) rfl (O6 _) rfl ?_))))));rintro _ _ ⟨rfl,rfl⟩;refine wv (Bt rfl) (A2 (Br rfl (EK rfl) (Ao (wv (r:=rv (.slice none 0 0)) (Ai rfl) (A2 (A1 (Am (WK.nilrow (e:=33) (sz:=5) ?_))))))));obtain rfl:=A5 h;exact A0 (B3 NO (AM rfl)) (sC (sC sN)) ⟨(.slice none 0 0                                 ),rfl,rfl⟩
theorem IN (ha:Nat)(now:Int)(r:(List Ab))(h:Gv now=some r):Fn Tryd.prog GE 10 [rv (.pointer (some ⟨ha,0,none⟩)),rI .i64 now] [.blk ha [rv (.map none)] 45] (λR H=>∃u0:Value,R=rv u0∧H=[.row u0 33 5 (List.map Af r),.blk ha [rv (.map none)] 45]):=by
 refine enter (n:=49) Tryd.func10 rfl Tryd.ntmps10 rfl (λw Z=>?_);refine AU (l':=[(0,rv (.pointer (some ⟨ha,0,none⟩))),(1,rI .i64 now)]) (H':=[.blk ha [rv (.map none)] 45]) rfl rfl ?_;unfold Gv at h;refine Ao (Jm rfl (B4 rfl) rfl (λb1=>?_));refine wv (r:=rv (.slice none 0 0)) (Ai rfl) (A2 (Az (Ao (wm rfl (Do (Hr:=[.blk b1 [rI .i64 now] 3]) DV (C6 ha false rfl) rfl ((A6 (i:=1) rfl).trans (O9 _ (O6 _))) rfl ?_)))));rintro _ _ ⟨rfl,rfl⟩;refine wv (Bt rfl) (A2 (Br rfl (EK rfl) (Ao (wv (r:=rv (.slice none 0 0)) (Ai rfl) (A2 (A1 (Am (WK.nilrow (e:=33) (sz:=5) ?_))))))));obtain rfl:=A5 h;exact A0 (B3 LJ (AM rfl)) (sC (sC (sS sN))) ⟨(.slice none 0 0                                 ),rfl,rfl⟩
theorem IL (ha:Nat)(t:Ab)(now:Int)(r:Int)(h:Gr t now=some r):Fn Tryd.prog GE 15 [rv (.pointer (some ⟨ha,0,none⟩)),AZ (Af t),rI .i64 now] [.blk ha [rv (.map none)] 45] (λR H=>R=rI .i64 r∧H=[.blk ha [rv (.map none)] 45]):=by
 refine enter (n:=56) Tryd.func15 rfl Tryd.ntmps15 rfl (λw Z=>?_);refine AU (l':=[(0,rv (.pointer (some ⟨ha,0,none⟩))),(1,AZ (Af t)),(2,rI .i64 now)]) (H':=[.blk ha [rv (.map none)] 45]) rfl rfl ?_;unfold Gr at h;refine Ao (Bq rfl rfl (λb1=>?_));refine wv (r:=rI .i64 0) (Ai rfl) (A2 (Az (Ao (wm rfl (Do (Hr:=[.blk b1 (Af t) 33]) DV (C6 ha false rfl) rfl ((A6 (i:=1) rfl).trans (O9 _ (O6 _))) rfl ?_)))));rintro _ _ ⟨rfl,rfl⟩;refine wv (Bt rfl) (A2 (Br rfl (EK rfl) (Ao (wv (r:=rI .i64 10) (Ai rfl) (A2 (A1 (Am ?_)))))));obtain rfl:=A5 h;exact A0 (B3 HO (AM rfl)) (sC (sS sN)) ⟨rfl,rfl⟩
theorem Gw (ha:Nat)(id:Aj)(r:Int)(h:Eo id=some r):Fn Tryd.prog GE 13 [rv (.pointer (some ⟨ha,0,none⟩)),rS id] [.blk ha [rv (.map none)] 45] (λR H=>R=rI .i64 r∧H=[.blk ha [rv (.map none)] 45]):=by
 refine enter (n:=26) Tryd.func13 rfl Tryd.ntmps13 rfl (λw Z=>?_);refine AU (l':=[(0,rv (.pointer (some ⟨ha,0,none⟩))),(1,rS id)]) (H':=[.blk ha [rv (.map none)] 45]) rfl rfl ?_;unfold Eo at h;refine Ao (wv (r:=rI .i64 0) (Ai rfl) (A2 (Az (Ao (wm rfl (Do (Hr:=[]) DV (C6 ha false rfl) rfl (O6 _) rfl ?_))))));rintro _ _ ⟨rfl,rfl⟩;refine wv (Bt rfl) (A2 (Br rfl (EK rfl) (Ao (wv (r:=rI .i64 10) (Ai rfl) (A2 (A1 (Am ?_)))))));obtain rfl:=A5 h;exact A0 (B3 K2 (AM rfl)) (sC sN) ⟨rfl,rfl⟩
theorem GK (ha:Nat)(id:Aj)(r:Int)(h:Dw id=some r):Fn Tryd.prog GE 12 [rv (.pointer (some ⟨ha,0,none⟩)),rS id] [.blk ha [rv (.map none)] 45] (λR H=>R=rI .i64 r∧H=[.blk ha [rv (.map none)] 45]):=by
 refine enter (n:=19) Tryd.func12 rfl Tryd.ntmps12 rfl (λw Z=>?_);refine AU (l':=[(0,rv (.pointer (some ⟨ha,0,none⟩))),(1,rS id)]) (H':=[.blk ha [rv (.map none)] 45]) rfl rfl ?_;unfold Dw at h;refine Ao (wv (r:=rI .i64 0) (Ai rfl) (A2 (Az (Ao (wm rfl (Do (Hr:=[]) DV (C6 ha false rfl) rfl (O6 _) rfl ?_))))));rintro _ _ ⟨rfl,rfl⟩;refine wm rfl (Ad (b:=false) rfl rfl rfl rfl (Ad (b:=false) rfl rfl rfl rfl (Ad (b:=false) rfl rfl rfl rfl (Ad (b:=false) rfl rfl rfl rfl (Ad (b:=false) rfl rfl rfl rfl (Ad (b:=false) rfl rfl rfl rfl (Ad (b:=false) rfl rfl rfl rfl (wv (r:=rB false) (An (b:=false) rfl rfl rfl) (A2 (Ce rfl rfl (AG (Bd (Ao (wm rfl (wm rfl ?_)))))))))))))));obtain⟨r1,e3,h2⟩:=AN h;refine Do (Hr:=[]) JJ (Gw ha id r1 e3) rfl (O6 _) rfl ?_;rintro _ _ ⟨rfl,rfl⟩;refine wa rfl (A2 (A1 ?_));obtain rfl:=A5 h2;exact A0 (B3 LI (AM rfl)) (sC sN) ⟨rfl,rfl⟩
theorem HV (ha:Nat)  (r:Int×Bool)(h:E6=some r):Fn Tryd.prog GE 19 [rv (.pointer (some ⟨ha,0,none⟩))] [.blk ha [rv (.map none)] 45] (λR H=>R=D1 [rI .i64 r.1,rB r.2]∧H=[.blk ha [rv (.map none)] 45]):=by
 refine enter (n:=14) Tryd.func19 rfl Tryd.ntmps19 rfl (λw Z=>?_);refine AU (l':=[(0,rv (.pointer (some ⟨ha,0,none⟩)))]) (H':=[.blk ha [rv (.map none)] 45]) rfl rfl ?_;unfold E6 at h;refine Ao (wv (r:=rI .i64 0) (Ai rfl) (wv (r:=rB false) (Ai rfl) (BZ (wm rfl ?_))));obtain⟨r1,e3,h2⟩:=AN h;refine Do (Hr:=[]) Ns (EJ ha r1 e3) rfl (O6 _) rfl ?_;rintro _ _ ⟨v4,rfl,rfl⟩;refine wa rfl (A2 (Az (Ao (wm rfl (wv (Bi (ys:=r1) (enc:=Af) (i:=0) CG rfl rfl) (wv (Bj rfl rfl) (A2 (AC (b:=decide ((r1.length:Int)=0)) rfl (λc5=>?_) (λc5=>?_)))))))))
 ·have h6:=AP c5 h2;refine Ao (wv (r:=rI .i64 0) (Ai rfl) (wv (r:=rB false) (Ai rfl) (A2 (A1 (Am ?_)))));obtain rfl:=A5 h6;exact A0 (MV JH (AM rfl) (AM rfl)) (sS (sC sN)) ⟨rfl,rfl⟩
 ·have h7:=AQ c5 h2;refine AG (Bd (Ao (wm rfl ?_)));obtain⟨g8,h9⟩:=AK h7;refine wv (r:=rv (BR 5 v4 (Int.toNat 0) 0)) (Cw (i:=0) CG BD rfl rfl rfl (AJ g8)) (wv (r:=rv (BR 5 v4 (Int.toNat 0) 1)) (BK (k:=0) Cu rfl CU rfl (AJ g8) rfl rfl rfl) (wv (r:=rI .i64 ((Ar r1 0).fAt)) (Cn (enc:=Af) (ys:=r1) (i:=0) (j:=0) Dg rfl rfl g8 rfl) (wa rfl (wv (r:=rB true) (Ai rfl) (A2 (A1 ?_))))));obtain rfl:=A5 h9;exact A0 (MV JH (AM rfl) (AM rfl)) (sS (sC sN)) ⟨rfl,rfl⟩
end Go.Proofs.YtkoiaconljdbeaaDoor.Q
namespace Go.Proofs.YtkoiaconljdbeaaDoor
open Go
set_option linter.unusedVariables false
def CO (a:Ab)(b:Ab)(ha:Int):Option (Stp (Int) (Out (Bool) (Unit))):=
 BA (decide (ha<(a.fBody.length:Int))) (BB (Dp ha (a.fBody.length:Int))<|BB (Dp ha (b.fBody.length:Int))<|BA (!(decide (((Ar a.fBody ha).fKind)=((Ar b.fBody ha).fKind))&&decide (((Ar a.fBody ha).fInt)=((Ar b.fBody ha).fInt))&&decide (((Ar a.fBody ha).fStr)=((Ar b.fBody ha).fStr))&&decide (((Ar a.fBody ha).fN)=((Ar b.fBody ha).fN)))) (some (.out (.ret false))) (BB (Cs .i64 (ha+1))<|some (.next (ha+1)))) (some (.out (.go ())))
def JV :Option (Bool):=
 some true
def IS (F:Nat)(a:Ab)(b:Ab):Option (Bool):=
 BA (((!decide (a.fID=b.fID))||((!decide (a.fAt=b.fAt))||((!decide (a.fTenant=b.fTenant))||((!decide (a.fSource=b.fSource))||(!decide ((a.fBody.length:Int)=(b.fBody.length:Int)))))))) (some false) (BF (D3 (λσ=>CO a b σ) F 0) (Cr λν=>JV ))
def CN (F:Nat)(a:(List Ab))(b:(List Ab))(ha:Int):Option (Stp (Int) (Out (Bool) (Unit))):=
 BA (decide (ha<(a.length:Int))) (BB (Dp ha (a.length:Int))<|BB (Dp ha (b.length:Int))<|BF (IS F (Ar a ha) (Ar b ha)) λhb=>BA (!hb) (some (.out (.ret false))) (BB (Cs .i64 (ha+1))<|some (.next (ha+1)))) (some (.out (.go ())))
def JU :Option (Bool):=
 some true
def IR (F:Nat)(a:(List Ab))(b:(List Ab)):Option (Bool):=
 BA (!decide ((a.length:Int)=(b.length:Int))) (some false) (BF (D3 (λσ=>CN F a b σ) F 0) (Cr λν=>JU ))
def BN (t:Ab)(ha:Int):Option (Stp (Int) (Out (Bool) (Unit))):=
 BA (decide (ha<(t.fBody.length:Int))) (BB (Dp ha (t.fBody.length:Int))<|BA (decide (5000<(((Ar t.fBody ha).fStr).length:Int))) (some (.out (.ret false))) (BB (Cs .i64 (ha+1))<|some (.next (ha+1)))) (some (.out (.go ())))
def DB :Option (Bool):=
 some true
def G2 (F:Nat)(t:Ab):Option (Bool):=
 BA (((decide (300<(t.fID.length:Int)))||((decide (300<(t.fTenant.length:Int)))||((decide (300<(t.fSource.length:Int)))||(decide (300<(t.fBody.length:Int))))))) (some false) (BF (D3 (λσ=>BN t σ) F 0) (Cr λν=>DB ))
end Go.Proofs.YtkoiaconljdbeaaDoor
namespace Go.Proofs.YtkoiaconljdbeaaDoor.Q
open Go Go.RowKit
set_option linter.unusedVariables false
set_option linter.unusedSimpArgs false
set_option maxRecDepth 100000
set_option maxHeartbeats 4000000
theorem KO (F:Nat)(t:Ab)(r:Bool)(h:G2 F t=some r):Fn Tryd.prog GE 14 [AZ (Af t)] [] (λR H=>R=rB r∧H=[]):=by
 refine enter (n:=41) Tryd.func14 rfl Tryd.ntmps14 rfl (λw Z=>?_);refine AU (l':=[(0,AZ (Af t))]) (H':=[]) rfl rfl ?_;unfold G2 at h;refine Ao (Bq rfl rfl (λb1=>?_));refine wv (r:=rB false) (Ai rfl) (A2 (Az (AE [(1,rv (.pointer (some ⟨b1,0,none⟩))),(25,rB ((decide (300<(t.fID.length:Int)))||((decide (300<(t.fTenant.length:Int)))||((decide (300<(t.fSource.length:Int)))||(decide (300<(t.fBody.length:Int)))))))] [.blk b1 (Af t) 33] ?_ ?_)))
 ·refine Au (wv (Ae Cu rfl DM rfl rfl) (wv (A3 (i:=0) Ef rfl rfl rfl) (wv (BH EX rfl) (wv (Dk rfl rfl) (wm rfl (AD (decide (300<(t.fID.length:Int))) (λc2=>?_) (λc2=>?_)))))))
  ·refine wf c2 (wf c2 (wf c2 (wf c2 (wv (r:=rB true) (As (b:=decide (300<(t.fID.length:Int))) rfl c2 rfl) (wm rfl (Ad (b:=true) rfl rfl rfl rfl (Ad (b:=true) rfl rfl rfl rfl (Ad (b:=true) rfl rfl rfl rfl (Ad (b:=true) rfl rfl rfl rfl (wv (r:=rB true) (As (b:=true) rfl rfl rfl) (wm rfl (Ad (b:=true) rfl rfl rfl rfl (Ad (b:=true) rfl rfl rfl rfl (Ad (b:=true) rfl rfl rfl rfl (Ad (b:=true) rfl rfl rfl rfl (wv (r:=rB true) (As (b:=true) rfl rfl rfl) (Aq ?_)))))))))))))))));exact CB c2
  ·refine wo c2 (wv (Ae Cu rfl DM rfl rfl) (wo c2 (wv (A3 (i:=0) Ef rfl rfl rfl) (wo c2 (wv (BH EX rfl) (wo c2 (wv (Dk rfl rfl) (I8 rfl c2 rfl (wm rfl (AD (decide (300<(t.fTenant.length:Int))) (λc3=>?_) (λc3=>?_)))))))))))
   ·refine wf c3 (wf c3 (wf c3 (wf c3 (wv (r:=rB true) (As (b:=decide (300<(t.fTenant.length:Int))) rfl c3 rfl) (wm rfl (Ad (b:=true) rfl rfl rfl rfl (Ad (b:=true) rfl rfl rfl rfl (Ad (b:=true) rfl rfl rfl rfl (Ad (b:=true) rfl rfl rfl rfl (wv (r:=rB true) (As (b:=true) rfl rfl rfl) (Aq ?_)))))))))));exact CB (And.intro c2 c3)
   ·refine wo c3 (wv (Ae Cu rfl DM rfl rfl) (wo c3 (wv (A3 (i:=0) Ef rfl rfl rfl) (wo c3 (wv (BH EX rfl) (wo c3 (wv (Dk rfl rfl) (I8 rfl c3 rfl (wm rfl (AD (decide (300<(t.fSource.length:Int))) (λc4=>?_) (λc4=>?_)))))))))))
    ·refine wf c4 (wf c4 (wf c4 (wf c4 (wv (r:=rB true) (As (b:=decide (300<(t.fSource.length:Int))) rfl c4 rfl) (Aq ?_)))));exact CB (And.intro c2 (And.intro c3 c4))
    ·refine wo c4 (wv (Ae Cu rfl IG rfl rfl) (wo c4 (wv (A3 (i:=0) K4 rfl rfl rfl) (wo c4 (wv (C9 (ys:=t.fBody) (enc:=Ah) ER rfl) (wo c4 (wv (Dk rfl rfl) (I8 rfl c4 rfl (Aq ?_)))))))));exact CB (And.intro c2 (And.intro c3 c4))
 refine AC (b:=((decide (300<(t.fID.length:Int)))||((decide (300<(t.fTenant.length:Int)))||((decide (300<(t.fSource.length:Int)))||(decide (300<(t.fBody.length:Int))))))) rfl (λc5=>?_) (λc5=>?_)
 ·have h6:=AP c5 h;refine Ao (wv (r:=rB false) (Ai rfl) (A2 (A1 (Am ?_))));obtain rfl:=A5 h6;exact A0 (B3 Tryd.results14 (AM rfl)) (sS sN) ⟨rfl,rfl⟩
 ·have h7:=AQ c5 h;refine AG (Bd (Az (Ao (wv (Ae Cu rfl IG rfl rfl) (wv (A3 (i:=0) K4 rfl rfl rfl) (wv (C9 (ys:=t.fBody) (enc:=Ah) ER rfl) (wv (r:=rI .i64 0) (Av rfl) (A2 (AW ?_)))))))));obtain⟨hj,hk,hh⟩:=AN h7;refine Ci (S:=Nat×(Int)×(Unit)) (V:=(Unit)×(Unit)) 0 (λσ=>D3 (λσ=>BN t σ) σ.1 σ.2.1=some hj) (λσ=>[(1,rv (.pointer (some ⟨b1,0,none⟩))),(28,rI .i64 (t.fBody.length:Int)),(29,rI .i64 σ.2.1)]) (λσ=>[.blk b1 (Af t) 33]) (λσ=>σ.1) (F,0,()) hk (AS.c rfl (AS.c rfl (AS.c rfl AS.nil))) (sC sN) (λσ=>DB =some r) (λσ=>[]) (λσ=>[]) ?_ ?_
  ·rintro⟨hz,ha,⟨⟩⟩ hl;refine AU (l':=[(1,rv (.pointer (some ⟨b1,0,none⟩))),(28,rI .i64 (t.fBody.length:Int)),(29,rI .i64 ha)]) (H':=[.blk b1 (Af t) 33]) rfl rfl ?_;obtain⟨hm,rfl,hn,hb,he⟩:=EN hl;replace hb:BN t ha=some hn:=hb;unfold BN at hb;refine Ao (wv (GL rfl rfl) (A2 (Az (AC (b:=decide (ha<(t.fBody.length:Int))) rfl (λhf=>?_) (λhf=>?_)))))
   ·have ho:=AP hf hb;refine AG (Bd (Az (AW (Ao (wm rfl (wa rfl (BZ (wv (Ae Cu rfl IG rfl rfl) (wv (A3 (i:=0) K4 rfl rfl rfl) (wm rfl ?_))))))))));obtain⟨hp,hi⟩:=AK ho;refine wv (IV (enc:=Ah) (ys:=t.fBody) ER HL rfl rfl hp) (wv (DS B2 rfl DM rfl rfl) (wv (Le Ef rfl rfl) (wv (BH EX rfl) (wv (Dk rfl rfl) (A2 (AC (b:=decide (5000<(((Ar t.fBody ha).fStr).length:Int))) rfl (λhg=>?_) (λhg=>?_)))))))
    ·have hq:=AP hg hi;refine Ao (wv (r:=rB false) (Ai rfl) (A2 (A1 (AB (Am (Am (B6 ?_)))))));have hr:=CH hq he hh;refine AB (Am ?_);obtain rfl:=A5 hr;exact A0 (B3 Tryd.results14 (AM rfl)) (sS sN) ⟨rfl,rfl⟩
    ·have hs:=AQ hg hi;refine AG (Ba (Bd (Au ?_)));obtain⟨ht,hu⟩:=AK hs;refine wv (CE rfl rfl ht) (wm rfl (Aq ?_));have hw:=C8 hu he;exact Aw (AL (hm,ha+1,()) ⟨hw,Pc _⟩ (AS.c rfl (AS.c rfl (AS.c rfl AS.nil))) (sC sN))
   ·have hx:=AQ hf hb;refine BG (AF ?_);have hy:=Dx hx he hh;exact AF (B7 (AL ((),()) hy AS.nil (sS sN)))
  ·rintro⟨⟨⟩,⟨⟩⟩ hd;refine Ei (l':=[]) (H':=[]) rfl rfl ?_;replace hd:DB =some r:=hd;unfold DB at hd;refine Bp (Bd (Ao (wv (r:=rB true) (Ai rfl) (A2 (A1 ?_)))));obtain rfl:=A5 hd;exact A0 (B3 Tryd.results14 (AM rfl)) sN ⟨rfl,rfl⟩
end Go.Proofs.YtkoiaconljdbeaaDoor.Q
namespace Go.Proofs.YtkoiaconljdbeaaDoor
open Go
set_option linter.unusedVariables false
structure AH where
 fKind:Int
 fNow:Int
 fTimer:Ab
 deriving DecidableEq,Inhabited
def Nu (id:Aj)(n:Int):Option (Ab):=
 some (Ab.mk id n ([116]:Aj) ([115]:Aj) ([(Ac.mk 1 0 ([]:Aj) 0)]:List Ac))
def GA (F:Nat) :Option (Bool):=
 BF (MQ) λr1=>BF (Nu ([98]:Aj) 5) λr6=>BF (JP F r1 r6 0) λr9=>BB (!(!decide (r9.1=0)))<|BF (Nu ([97]:Aj) 5) λhi=>BF (JP F r9.2 hi 0) λhe=>BB (!(!decide (he.1=0)))<|BF (Nu ([99]:Aj) 3) λhj=>BF (JP F he.2 hj 0) λhf=>BB (!(!decide (hf.1=0)))<|BF (LS F hf.2 4) λha=>BF (LS F ha.2 5) λhb=>BF (KD hb.2) λhd=>BB (!(!decide ((ha.1.length:Int)=1)))<|BB (Dp 0 (ha.1.length:Int))<|BB (!(!decide (((Ar ha.1 0).fID)=([99]:Aj))))<|BB (!(!decide ((hb.1.length:Int)=3)))<|BB (Dp 1 (hb.1.length:Int))<|BB (!(!decide (((Ar hb.1 1).fID)=([97]:Aj))))<|BB (!(!decide (hd.1=3)))<|BB (!(!hd.2.1))<|BF (LT hd.2.2 ([99]:Aj)) λhg=>BB (decide (hg.1=0))<|BF (Hw hg.2 ([97]:Aj)) λhh=>BB (decide (hh.1=10))<|BF (Nu ([100]:Aj) 3) λhk=>BF (JP F hh.2 hk 4) λhl=>some (decide (hl.1=2))
def BO (F:Nat)(l:(List AH))(ha:Int):Option (Stp (Int) (Out (Bool) (Unit))):=
 BA (decide (ha<(l.length:Int))) (BB (Dp ha (l.length:Int))<|BF (G2 F ((Ar l ha).fTimer)) λhb=>BA (!hb) (some (.out (.ret false))) (BB (Cs .i64 (ha+1))<|some (.next (ha+1)))) (some (.out (.go ())))
def DD :Option (Bool):=
 some true
def G9 (F:Nat)(l:(List AH)):Option (Bool):=
 BA (decide (300<(l.length:Int))) (some false) (BF (D3 (λσ=>BO F l σ) F 0) (Cr λν=>DD ))
def E0 (o:AH):Option (Bool):=
 BF (Gs) λr2=>BB ((BX o.fTimer o.fNow).isSome)<|BB (imp (decide ((ov (BX o.fTimer o.fNow))=10)) ((Bs o.fTimer.fID).isSome))<|BB (imp (decide ((ov (BX o.fTimer o.fNow))=10)) (imp (decide ((ov (Bs o.fTimer.fID))=10)) ((Cl o.fTimer.fID).isSome)))<|BB (imp (decide ((ov (BX o.fTimer o.fNow))=10)) (imp (decide ((ov (Bs o.fTimer.fID))=10)) (imp (decide ((ov (Cl o.fTimer.fID))=10)) ((Ck o.fNow).isSome))))<|BB (imp (decide ((ov (BX o.fTimer o.fNow))=10)) (imp (decide ((ov (Bs o.fTimer.fID))=10)) (imp (decide ((ov (Cl o.fTimer.fID))=10)) (imp (decide (((ov (Ck o.fNow)).length:Int)=0)) (imp (decide (r2.1=0)) (imp (!r2.2) ((C7).isSome)))))))<|some ((decide ((ov (BX o.fTimer o.fNow))=10))&&((decide ((ov (Bs o.fTimer.fID))=10))&&((decide ((ov (Cl o.fTimer.fID))=10))&&((decide (((ov (Ck o.fNow)).length:Int)=0))&&((decide (r2.1=0))&&((!r2.2)&&(decide (((ov (C7)).length:Int)=0))))))))
def Bn (ha:Bool):Option (Bool):=
 some ha
def DE (o:AH):Option (Bool):=
 BF (E6) λr2=>BF (Gr o.fTimer o.fNow) λha=>BA (decide (ha=10)) (BF (Dw o.fTimer.fID) λhb=>BA (decide (hb=10)) (BF (Eo o.fTimer.fID) λhd=>BA (decide (hd=10)) (BF (Gv o.fNow) λhe=>BA (decide ((he.length:Int)=0)) (BA (decide (r2.1=0)) (BA (!r2.2) (BF (DA) λhf=>Bn (decide ((hf.length:Int)=0))) (Bn false)) (Bn false)) (Bn false)) (Bn false)) (Bn false)) (Bn false)
def DF (ha:Bool):Option (Bool):=
 some ha
def Lt (F:Nat)(o:AH):Option (Bool):=
 BF (G9 F ([o]:List AH)) λr3=>BA (!r3) (BF (GA F) λr8=>some r8) (BF (E0 o) λha=>BA (ha) (BF (DE o) λhb=>BA (hb) (BF (GA F) λhd=>DF hd) (DF false)) (DF false))
end Go.Proofs.YtkoiaconljdbeaaDoor
namespace Go.Proofs.YtkoiaconljdbeaaDoor.Q
open Go Go.RowKit
set_option linter.unusedVariables false
set_option linter.unusedSimpArgs false
set_option maxRecDepth 100000
set_option maxHeartbeats 4000000
@[reducible] def AA (x:AH):List Rp:=[rI .i64 x.fKind,rI .i64 x.fNow,rS x.fTimer.fID,rI .i64 x.fTimer.fAt,rS x.fTimer.fTenant,rS x.fTimer.fSource,B0 4 (List.map Ah x.fTimer.fBody)]
theorem E2 (x:AH):(AA x).length=7:=rfl
theorem Mw (parts:List (Nat×Value)):Tryd.prog.built 33 parts=Instr.fill (λi=>(#[(0,1),(1,1),(2,1),(3,1),(4,1)]:Array (Nat×Nat))[i]?) #[(.string ⟨#[]⟩),(.int .i64 0),(.string ⟨#[]⟩),(.string ⟨#[]⟩),((.slice none 0 0))] parts:=by kernel_rfl
theorem DL {n:Nat}{c:Cx}{l:Fr}{H:List Ent}{d:Option Nat}{ty:TypeId}{pos:String}{af:Array Edge}{g:Option (Nat×Bool)}{x0:Operand}{r0:Rp}(h0:ev l x0=some r0)(u0:r0.one=true){x1:Operand}{r1:Rp}(h1:ev l x1=some r1)(u1:r1.one=true){x2:Operand}{r2:Rp}(h2:ev l x2=some r2)(u2:r2.one=true){x3:Operand}{r3:Rp}(h3:ev l x3=some r3)(u3:r3.one=true){x4:Operand}{r4:Rp}(h4:ev l x4=some r4)(u4:r4.one=true):AO Tryd.prog n c l H { dst:=d,op:=.build 33 #[(0,x0),(1,x1),(2,x2),(3,x3),(4,x4)],type:=ty,pos:=pos,after:=af,guard:=g } (AZ [r0,r1,r2,r3,r4]):=λa w Z ha _=>by
  have p0:=ha.ev h0;have c0:=Bm (r0.hone u0 Z _ p0);have p1:=ha.ev h1;have c1:=Bm (r1.hone u1 Z _ p1);have p2:=ha.ev h2;have c2:=Bm (r2.hone u2 Z _ p2);have p3:=ha.ev h3;have c3:=Bm (r3.hone u3 Z _ p3);have p4:=ha.ev h4;have c4:=Bm (r4.hone u4 Z _ p4);have hb:Tryd.prog.built 33 [(0,a.eval x0),(1,a.eval x1),(2,a.eval x2),(3,a.eval x3),(4,a.eval x4)]=some #[a.eval x0,a.eval x1,a.eval x2,a.eval x3,a.eval x4]:=by
    rw[Mw];generalize a.eval x0=v0 at *;generalize a.eval x1=v1 at *;generalize a.eval x2=v2 at *;generalize a.eval x3=v3 at *;generalize a.eval x4=v4 at *;simp[Instr.fill,c0,c1,c2,c3,c4]
  refine⟨.agg #[a.eval x0,a.eval x1,a.eval x2,a.eval x3,a.eval x4],⟨[a.eval x0,a.eval x1,a.eval x2,a.eval x3,a.eval x4],rfl,p0,p1,p2,p3,p4,trivial⟩,?_⟩;have:=run_build w 33 #[(0,a.eval x0),(1,a.eval x1),(2,a.eval x2),(3,a.eval x3),(4,a.eval x4)] _ (by simpa using hb);simp[execOp,this]
theorem IW {n:Nat}{c:Cx}{l:Fr}{H:List Ent}{d:Option Nat}{ty:TypeId}{pos:String}{af:Array Edge}{g:Option (Nat×Bool)}:AO Tryd.prog n c l H { dst:=d,op:=.build 45 #[],type:=ty,pos:=pos,after:=af,guard:=g } (AZ [rv (.map none)]):=λa w Z ha _=>by
  have hb:Tryd.prog.built 45 []=some #[((.map none))]:=by
    rw[JB];simp[Instr.fill,Value.cells]
  refine⟨.agg #[((.map none))],⟨[((.map none))],rfl,rfl,trivial⟩,?_⟩;have:=run_build w 45 #[] _ (by simpa using hb);simp[execOp,this]
theorem Mu (parts:List (Nat×Value)):Tryd.prog.built 70 parts=Instr.fill (λi=>(#[(0,1),(1,1),(2,1),(3,1)]:Array (Nat×Nat))[i]?) #[(.int .i64 0),(.int .i64 0),(.string ⟨#[]⟩),(.int .i64 0)] parts:=by kernel_rfl
theorem Ik {n:Nat}{c:Cx}{l:Fr}{H:List Ent}{d:Option Nat}{ty:TypeId}{pos:String}{af:Array Edge}{g:Option (Nat×Bool)}{x0:Operand}{r0:Rp}(h0:ev l x0=some r0)(u0:r0.one=true):AO Tryd.prog n c l H { dst:=d,op:=.build 70 #[(0,x0)],type:=ty,pos:=pos,after:=af,guard:=g } (AZ [r0,rI .i64 0,rS ([]:Aj),rI .i64 0]):=λa w Z ha _=>by
  have p0:=ha.ev h0;have c0:=Bm (r0.hone u0 Z _ p0);have hb:Tryd.prog.built 70 [(0,a.eval x0)]=some #[a.eval x0,(.int .i64 0),(.string ⟨#[]⟩),(.int .i64 0)]:=by
    rw[Mu];generalize a.eval x0=v0 at *;simp[Instr.fill,c0]
  refine⟨.agg #[a.eval x0,(.int .i64 0),(.string ⟨#[]⟩),(.int .i64 0)],⟨[a.eval x0,(.int .i64 0),(.string ⟨#[]⟩),(.int .i64 0)],rfl,p0,rfl,rfl,rfl,trivial⟩,?_⟩;have:=run_build w 70 #[(0,a.eval x0)] _ (by simpa using hb);simp[execOp,this]
theorem J4 (id:Aj)(n:Int)(r:Ab)(h:Nu id n=some r):Fn Tryd.prog GE 18 [rS id,rI .i64 n] [] (λR H=>R=AZ (Af r)∧H=[]):=by
 refine enter (n:=10) Tryd.func18 rfl Tryd.ntmps18 rfl (λw Z=>?_);refine AU (l':=[(0,rS id),(1,rI .i64 n)]) (H':=[]) rfl rfl ?_;unfold Nu at h;refine Ao (Cj (cs:=[rS ([]:Aj),rI .i64 0,rS ([]:Aj),rS ([]:Aj),rv (.slice none 0 0)]) Kw rfl rfl (λb1=>?_));refine BZ (wm rfl (wm rfl (wv (r:=AZ [rI .i64 1,rI .i64 0,rS ([]:Aj),rI .i64 0]) (Ik rfl rfl) (BM (ys:=([(Ac.mk 1 0 ([]:Aj) 0)]:List Ac)) (enc:=Ah) (css:=[[rI .i64 1,rI .i64 0,rS ([]:Aj),rI .i64 0]]) (xs:=[.tmp 7]) ER HL MI rfl rfl rfl ⟨M6.agg ⟨Up.refl _,Up.refl _,Up.refl _,Up.refl _,trivial⟩,trivial⟩ rfl C2 rfl rfl rfl (λb2=>?_)))));refine wv (r:=AZ [rS id,rI .i64 n,rS ([116]:Aj),rS ([115]:Aj),rv (.slice (some ⟨b2,0,none⟩) 1 1)]) (DL rfl rfl rfl rfl rfl rfl rfl rfl rfl rfl) (Bx (i:=1) BD rfl rfl rfl ⟨(B4 rfl),(B4 rfl),(B4 rfl),(B4 rfl),(Mb (i:=0) rfl),trivial⟩ rfl rfl (cs':=[rS id,rI .i64 n,rS ([116]:Aj),rS ([115]:Aj),rv (.slice (some ⟨b2,0,none⟩) 1 1)]) rfl (H':=[.row (.slice (some ⟨b2,0,none⟩) 1 1) 70 4 (List.map Ah ([(Ac.mk 1 0 ([]:Aj) 0)]:List Ac)),.blk b1 [rS id,rI .i64 n,rS ([116]:Aj),rS ([115]:Aj),rv (.slice (some ⟨b2,0,none⟩) 1 1)] 33]) rfl (A2 (A1 (WK.freeze (i:=0) rfl (WK.upBlk (i:=1) (cs':=[rS id,rI .i64 n,rS ([116]:Aj),rS ([115]:Aj),B0 4 (List.map Ah ([(Ac.mk 1 0 ([]:Aj) 0)]:List Ac))]) rfl ⟨Up.refl _,Up.refl _,Up.refl _,Up.refl _,Up.fact (i:=0) rfl,trivial⟩ ?_)))));obtain rfl:=A5 h;exact A0 (B3 Tryd.results18 (G1 (i:=1) E4 BD rfl rfl rfl)) (sS (sS sN)) ⟨rfl,rfl⟩
theorem Iu (F:Nat)  (r:Bool)(h:GA F=some r):Fn Tryd.prog GE 7 [] [] (λR H=>R=rB r∧H=[]):=by
 refine enter (n:=80) Tryd.func7 rfl Tryd.ntmps7 rfl (λw Z=>?_);refine AU (l':=[]) (H':=[]) rfl rfl ?_;unfold GA at h;refine Ao (wv (r:=rB false) (Ai rfl) (BZ ?_));obtain⟨r1,e3,h2⟩:=AN h;refine Do (Hr:=[]) Tryd.call17 (MP r1 e3) rfl (O6 _) rfl ?_;rintro _ _ ⟨b4,b5,rfl,rfl⟩;refine wa rfl (A2 (Az (Ao (wm rfl (wv (r:=rB false) (MZ ⟨_,LE⟩ rfl) (wm rfl (A9 (b:=false) rfl rfl rfl (wm rfl (A9 (b:=false) rfl rfl rfl ?_)))))))));obtain⟨r6,e8,h7⟩:=AN h2;refine Eg Tryd.call18 (J4 ([98]:Aj) 5 r6 e8) rfl (A9 (b:=false) rfl rfl rfl ?_);obtain⟨r9,hx,hy⟩:=AN h7;refine Do (Hr:=[]) JI (Hu F b4 b5 r1 r6 0 r9 hx) rfl (O6 _) rfl ?_;rintro _ _ ⟨rfl,rfl⟩;refine A9 (b:=false) rfl rfl rfl (wv (Ev rfl rfl) (wv (r:=rB (!decide (r9.1=0))) (An (b:=false) rfl rfl rfl) (wm rfl ?_)));obtain⟨hh,hz⟩:=AK hy;refine A9 (b:=!decide (r9.1=0)) rfl rfl (Bool.not_eq_eq_eq_not.1 hh) (wm rfl (A9 (b:=!decide (r9.1=0)) rfl rfl (Bool.not_eq_eq_eq_not.1 hh) ?_));obtain⟨hr,h0,h1⟩:=AN hz;refine Eg Tryd.call18 (J4 ([97]:Aj) 5 hr h0) rfl (A9 (b:=!decide (r9.1=0)) rfl rfl (Bool.not_eq_eq_eq_not.1 hh) ?_);obtain⟨hd,h3,h4⟩:=AN h1;refine Do (Hr:=[]) JI (Hu F b4 b5 r9.2 hr 0 hd h3) rfl (O6 _) rfl ?_;rintro _ _ ⟨rfl,rfl⟩;refine A9 (b:=!decide (r9.1=0)) rfl rfl (Bool.not_eq_eq_eq_not.1 hh) (wv (Ev rfl rfl) (wv (r:=rB (!decide (hd.1=0))) (An (b:=!decide (r9.1=0)) rfl (Bool.not_eq_eq_eq_not.1 hh) rfl) (wm rfl ?_)));obtain⟨hi,h5⟩:=AK h4;refine A9 (b:=!decide (hd.1=0)) rfl rfl (Bool.not_eq_eq_eq_not.1 hi) (wm rfl (A9 (b:=!decide (hd.1=0)) rfl rfl (Bool.not_eq_eq_eq_not.1 hi) ?_));obtain⟨hs,h6,h8⟩:=AN h5;refine Eg Tryd.call18 (J4 ([99]:Aj) 3 hs h6) rfl (A9 (b:=!decide (hd.1=0)) rfl rfl (Bool.not_eq_eq_eq_not.1 hi) ?_);obtain⟨hk,h9,hA⟩:=AN h8;refine Do (Hr:=[]) JI (Hu F b4 b5 hd.2 hs 0 hk h9) rfl (O6 _) rfl ?_;rintro _ _ ⟨rfl,rfl⟩;refine A9 (b:=!decide (hd.1=0)) rfl rfl (Bool.not_eq_eq_eq_not.1 hi) (wv (Ev rfl rfl) (wv (r:=rB (!decide (hk.1=0))) (An (b:=!decide (hd.1=0)) rfl (Bool.not_eq_eq_eq_not.1 hi) rfl) (A2 ?_)));obtain⟨hB,hC⟩:=AK hA;refine Ce (b:=!decide (hk.1=0)) rfl (Bool.not_eq_eq_eq_not.1 hB) (AG (Bd (Ao (wm rfl ?_))));obtain⟨ha,hD,hE⟩:=AN hC;refine Do (Hr:=[]) Tryd.call10 (KE F b4 b5 hk.2 4 ha hD) rfl (O6 _) rfl ?_;rintro _ _ ⟨v33,rfl,rfl⟩;refine wa rfl (BZ (wm rfl ?_));obtain⟨hb,hG,hH⟩:=AN hE;refine Do (Hr:=[.row v33 33 5 (List.map Af ha.1)]) Tryd.call10 (KE F b4 b5 ha.2 5 hb hG) rfl ((A6 (i:=1) rfl).trans (O9 _ ((A6 (i:=1) rfl).trans (O9 _ (O6 _))))) rfl ?_;rintro _ _ ⟨v37,rfl,rfl⟩;refine wa rfl (BZ (wm rfl ?_));obtain⟨he,hI,hJ⟩:=AN hH;refine Do (Hr:=[.row v37 33 5 (List.map Af hb.1),.row v33 33 5 (List.map Af ha.1)]) Tryd.call19 (LR b4 b5 hb.2 he hI) rfl ((A6 (i:=1) rfl).trans (O9 _ ((A6 (i:=1) rfl).trans (O9 _ (O6 _))))) rfl ?_;rintro _ _ ⟨rfl,rfl⟩;refine wm rfl (wv (AV rfl rfl) (wv (AV rfl rfl) (wa rfl (wa rfl (A2 (Az (Ao (wm rfl (wv (Bi (ys:=ha.1) (enc:=Af) (i:=3) CG rfl rfl) (wv (Ev rfl rfl) (wm rfl ?_)))))))))));obtain⟨hf,hK⟩:=AK hJ;refine A9 (b:=!decide ((ha.1.length:Int)=1)) rfl rfl (Bool.not_eq_eq_eq_not.1 hf) (wm rfl (A9 (b:=!decide ((ha.1.length:Int)=1)) rfl rfl (Bool.not_eq_eq_eq_not.1 hf) ?_));obtain⟨hn,hL⟩:=AK hK;refine wv (r:=rv (BR 5 v33 (Int.toNat 0) 0)) (Cw (i:=3) CG BD rfl rfl rfl (AJ hn)) (A9 (b:=!decide ((ha.1.length:Int)=1)) rfl rfl (Bool.not_eq_eq_eq_not.1 hf) (wv (r:=rv (BR 5 v33 (Int.toNat 0) 0)) (BK (k:=3) Cu rfl DM rfl (AJ hn) rfl rfl rfl) (A9 (b:=!decide ((ha.1.length:Int)=1)) rfl rfl (Bool.not_eq_eq_eq_not.1 hf) (wv (r:=rS ((Ar ha.1 0).fID)) (Cn (enc:=Af) (ys:=ha.1) (i:=3) (j:=0) Ef rfl rfl hn rfl) (A9 (b:=!decide ((ha.1.length:Int)=1)) rfl rfl (Bool.not_eq_eq_eq_not.1 hf) (wv (Lc rfl rfl) (wv (r:=rB (!decide (((Ar ha.1 0).fID)=([99]:Aj)))) (An (b:=!decide ((ha.1.length:Int)=1)) rfl (Bool.not_eq_eq_eq_not.1 hf) rfl) (wm rfl ?_))))))));obtain⟨hl,hN⟩:=AK hL;refine A9 (b:=!decide (((Ar ha.1 0).fID)=([99]:Aj))) rfl rfl (Bool.not_eq_eq_eq_not.1 hl) (wm rfl (A9 (b:=!decide (((Ar ha.1 0).fID)=([99]:Aj))) rfl rfl (Bool.not_eq_eq_eq_not.1 hl) (wv (Bi (ys:=hb.1) (enc:=Af) (i:=2) CG rfl rfl) (A9 (b:=!decide (((Ar ha.1 0).fID)=([99]:Aj))) rfl rfl (Bool.not_eq_eq_eq_not.1 hl) (wv (Ev rfl rfl) (wv (r:=rB (!decide ((hb.1.length:Int)=3))) (An (b:=!decide (((Ar ha.1 0).fID)=([99]:Aj))) rfl (Bool.not_eq_eq_eq_not.1 hl) rfl) (wm rfl ?_)))))));obtain⟨hg,hO⟩:=AK hN;refine A9 (b:=!decide ((hb.1.length:Int)=3)) rfl rfl (Bool.not_eq_eq_eq_not.1 hg) (wm rfl (A9 (b:=!decide ((hb.1.length:Int)=3)) rfl rfl (Bool.not_eq_eq_eq_not.1 hg) ?_));obtain⟨ho,hP⟩:=AK hO;refine wv (r:=rv (BR 5 v37 (Int.toNat 1) 0)) (Cw (i:=2) CG BD rfl rfl rfl (AJ ho)) (A9 (b:=!decide ((hb.1.length:Int)=3)) rfl rfl (Bool.not_eq_eq_eq_not.1 hg) (wv (r:=rv (BR 5 v37 (Int.toNat 1) 0)) (BK (k:=2) Cu rfl DM rfl (AJ ho) rfl rfl rfl) (A9 (b:=!decide ((hb.1.length:Int)=3)) rfl rfl (Bool.not_eq_eq_eq_not.1 hg) (wv (r:=rS ((Ar hb.1 1).fID)) (Cn (enc:=Af) (ys:=hb.1) (i:=2) (j:=1) Ef rfl rfl ho rfl) (A9 (b:=!decide ((hb.1.length:Int)=3)) rfl rfl (Bool.not_eq_eq_eq_not.1 hg) (wv (Lc rfl rfl) (wv (r:=rB (!decide (((Ar hb.1 1).fID)=([97]:Aj)))) (An (b:=!decide ((hb.1.length:Int)=3)) rfl (Bool.not_eq_eq_eq_not.1 hg) rfl) (wm rfl ?_))))))));obtain⟨hp,hQ⟩:=AK hP;refine A9 (b:=!decide (((Ar hb.1 1).fID)=([97]:Aj))) rfl rfl (Bool.not_eq_eq_eq_not.1 hp) (wm rfl (A9 (b:=!decide (((Ar hb.1 1).fID)=([97]:Aj))) rfl rfl (Bool.not_eq_eq_eq_not.1 hp) (wv (Ev rfl rfl) (wv (r:=rB (!decide (he.1=3))) (An (b:=!decide (((Ar hb.1 1).fID)=([97]:Aj))) rfl (Bool.not_eq_eq_eq_not.1 hp) rfl) (wm rfl ?_)))));obtain⟨hq,hR⟩:=AK hQ;refine A9 (b:=!decide (he.1=3)) rfl rfl (Bool.not_eq_eq_eq_not.1 hq) (wm rfl (A9 (b:=!decide (he.1=3)) rfl rfl (Bool.not_eq_eq_eq_not.1 hq) (wv (Bt rfl) (wv (r:=rB (!he.2.1)) (An (b:=!decide (he.1=3)) rfl (Bool.not_eq_eq_eq_not.1 hq) rfl) (A2 ?_)))));obtain⟨hS,hT⟩:=AK hR;refine Ce (b:=!he.2.1) rfl (Bool.not_eq_eq_eq_not.1 hS) (AG (Bd (Ao (wm rfl ?_))));obtain⟨ht,hU,hV⟩:=AN hT;refine Do (Hr:=[.row v37 33 5 (List.map Af hb.1),.row v33 33 5 (List.map Af ha.1)]) JJ (KG b4 b5 he.2.2 ([99]:Aj) ht hU) rfl (O6 _) rfl ?_;rintro _ _ ⟨rfl,rfl⟩;refine wv (Bj rfl rfl) (wm rfl ?_);obtain⟨hm,hW⟩:=AK hV;refine wo hm (wm rfl (wo hm ?_));obtain⟨hu,hX,hY⟩:=AN hW;refine Do (Hr:=[.row v37 33 5 (List.map Af hb.1),.row v33 33 5 (List.map Af ha.1)]) Tryd.call12 (JR b4 b5 ht.2 ([97]:Aj) hu hX) rfl (O6 _) rfl ?_;rintro _ _ ⟨rfl,rfl⟩;refine wo hm (wv (Bj rfl rfl) (DK rfl hm rfl (wm rfl ?_)));obtain⟨hj,hZ⟩:=AK hY;refine wo hj (wm rfl (wo hj ?_));obtain⟨hw,ga,gb⟩:=AN hZ;refine Eg Tryd.call18 (J4 ([100]:Aj) 3 hw ga) rfl (wo hj ?_);obtain⟨gc,gd,ge⟩:=AN gb;refine Do (Hr:=[.row v37 33 5 (List.map Af hb.1),.row v33 33 5 (List.map Af ha.1)]) JI (Hu F b4 b5 hu.2 hw 4 gc gd) rfl (O6 _) rfl ?_;rintro _ _ ⟨rfl,rfl⟩;refine wo hj (wv (Bj rfl rfl) (DK rfl hj rfl (wa rfl (A2 (A1 ?_)))));obtain rfl:=A5 ge;exact A0 (B3 Tryd.results7 (AM rfl)) (sS (sS (sS (sS sN)))) ⟨rfl,rfl⟩
theorem Lq (F:Nat)(l:(List AH))(r:Bool)(h:G9 F l=some r):Fn Tryd.prog GE 6 [B0 7 (List.map AA l)] [] (λR H=>R=rB r∧H=[]):=by
 refine enter (n:=20) Tryd.func6 rfl Tryd.ntmps6 rfl (λw Z=>?_);refine AU (l':=[(0,B0 7 (List.map AA l))]) (H':=[]) rfl rfl ?_;unfold G9 at h;refine Ao (wv (r:=rB false) (Ai rfl) (A2 (Az (Ao (wm rfl (wv (C9 (ys:=l) (enc:=AA) LF rfl) (wv (Dk rfl rfl) (A2 (AC (b:=decide (300<(l.length:Int))) rfl (λc1=>?_) (λc1=>?_))))))))))
 ·have h2:=AP c1 h;refine Ao (wv (r:=rB false) (Ai rfl) (A2 (A1 (Am ?_))));obtain rfl:=A5 h2;exact A0 (B3 Tryd.results6 (AM rfl)) sN ⟨rfl,rfl⟩
 ·have h3:=AQ c1 h;refine AG (Bd (Az (Ao (wm rfl (wv (C9 (ys:=l) (enc:=AA) LF rfl) (wv (r:=rI .i64 0) (Av rfl) (A2 (AW ?_))))))));obtain⟨hk,hl,hh⟩:=AN h3;refine Ci (S:=Nat×(Int)×(Unit)) (V:=(Unit)×(Unit)) 0 (λσ=>D3 (λσ=>BO F l σ) σ.1 σ.2.1=some hk) (λσ=>[(0,B0 7 (List.map AA l)),(2,rB false),(8,rI .i64 (l.length:Int)),(9,rI .i64 σ.2.1)]) (λσ=>[]) (λσ=>σ.1) (F,0,()) hl (AS.c rfl (AS.c rfl (AS.c rfl (AS.c rfl AS.nil)))) sN (λσ=>DD =some r) (λσ=>[(2,rB false)]) (λσ=>[]) ?_ ?_
  ·rintro⟨h1,ha,⟨⟩⟩ hm;refine AU (l':=[(0,B0 7 (List.map AA l)),(2,rB false),(8,rI .i64 (l.length:Int)),(9,rI .i64 ha)]) (H':=[]) rfl rfl ?_;obtain⟨hn,rfl,t46,hb,he⟩:=EN hm;replace hb:BO F l ha=some t46:=hb;unfold BO at hb;refine Ao (wv (GL rfl rfl) (A2 (Az (AC (b:=decide (ha<(l.length:Int))) rfl (λhf=>?_) (λhf=>?_)))))
   ·have ho:=AP hf hb;refine AG (Bd (Az (AW (Ao (wm rfl (wa rfl (BZ (wm rfl (wm rfl ?_)))))))));obtain⟨hp,hq⟩:=AK ho;refine wv (IV (enc:=AA) (ys:=l) LF Ky rfl rfl hp) (wv (DS Gl rfl BD rfl rfl) (wv (Ha E4 BD rfl rfl rfl) ?_));obtain⟨hi,hr,hj⟩:=AN hq;refine Eg Tryd.call14 (KO F ((Ar l ha).fTimer) hi hr) rfl (wv (Bt rfl) (A2 (AC (b:=!hi) rfl (λhg=>?_) (λhg=>?_))))
    ·have hs:=AP hg hj;refine Ao (wv (r:=rB false) (Ai rfl) (A2 (A1 (AB (Am (Am (B6 ?_)))))));have ht:=CH hs he hh;refine AB (Am ?_);obtain rfl:=A5 ht;exact A0 (B3 Tryd.results6 (AM rfl)) sN ⟨rfl,rfl⟩
    ·have hu:=AQ hg hj;refine AG (Ba (Bd (Au ?_)));obtain⟨hw,hx⟩:=AK hu;refine wv (CE rfl rfl hw) (wm rfl (Aq ?_));have hy:=C8 hx he;exact Aw (AL (hn,ha+1,()) ⟨hy,Pc _⟩ (AS.c rfl (AS.c rfl (AS.c rfl (AS.c rfl AS.nil)))) sN)
   ·have hz:=AQ hf hb;refine BG (AF ?_);have h0:=Dx hz he hh;exact AF (B7 (AL ((),()) h0 (AS.c rfl AS.nil) sN))
  ·rintro⟨⟨⟩,⟨⟩⟩ hd;refine Ei (l':=[(2,rB false)]) (H':=[]) rfl rfl ?_;replace hd:DD =some r:=hd;unfold DD at hd;refine Bp (Bd (Ao (wv (r:=rB true) (Ai rfl) (A2 (A1 ?_)))));obtain rfl:=A5 hd;exact A0 (B3 Tryd.results6 (AM rfl)) sN ⟨rfl,rfl⟩
theorem Ja (o:AH)(r:Bool)(h:E0 o=some r):Fn Tryd.prog GE 16 [rv (.pointer none),AZ (AA o)] [] (λR H=>R=rB r∧H=[]):=by
 refine enter (n:=57) Tryd.func16 rfl Tryd.ntmps16 rfl (λw Z=>?_);refine AU (l':=[(0,rv (.pointer none)),(1,AZ (AA o))]) (H':=[]) rfl rfl ?_;unfold E0 at h;refine Ao (Bq rfl rfl (λb1=>?_));refine wv (r:=rB false) (Ai rfl) (BZ (wm rfl ?_));obtain⟨r2,e4,h3⟩:=AN h;refine Eg Tryd.call19 (IM r2 e4) rfl (wm rfl (wv (AV rfl rfl) (wv (AV rfl rfl) (wa rfl (wa rfl (A2 ?_))))));obtain⟨g5,h6⟩:=AK h3;obtain⟨g7,h8⟩:=AK h6;obtain⟨g9,hh⟩:=AK h8;obtain⟨hi,hj⟩:=AK hh;obtain⟨hk,hl⟩:=AK hj;refine AE [(4,rB ((decide ((ov (BX o.fTimer o.fNow))=10))&&((decide ((ov (Bs o.fTimer.fID))=10))&&((decide ((ov (Cl o.fTimer.fID))=10))&&((decide (((ov (Ck o.fNow)).length:Int)=0))&&((decide (r2.1=0))&&((!r2.2)&&(decide (((ov (C7)).length:Int)=0)))))))))] [] ?_ ?_
 ·refine Au (wm rfl (wv (Ae Gl rfl BD rfl rfl) (wv (AY (i:=0) E4 BD rfl rfl rfl rfl) (wv (Ae Gl rfl CU rfl rfl) (wv (A3 (i:=0) Dg rfl rfl rfl) (Eg JI (JO o.fTimer o.fNow (ov (BX o.fTimer o.fNow)) (If g5)) rfl (wv (Bj rfl rfl) (wm rfl (AD (decide ((ov (BX o.fTimer o.fNow))=10)) (λha=>?_) (λha=>?_))))))))))
  ·refine wo ha (wm rfl (wo ha (wv (Ae Gl rfl BD rfl rfl) (wo ha (wv (Ae Cu rfl DM rfl rfl) (wo ha (wv (A3 (i:=0) Ef rfl rfl rfl) (wo ha (Eg Tryd.call12 (Hv o.fTimer.fID (ov (Bs o.fTimer.fID)) (If (Cp g7 ha))) rfl (wo ha (wv (Bj rfl rfl) (DK rfl ha rfl (wm rfl (AD (decide ((ov (Bs o.fTimer.fID))=10)) (λhb=>?_) (λhb=>?_)))))))))))))))
   ·refine wo hb (wm rfl (wo hb (wv (Ae Gl rfl BD rfl rfl) (wo hb (wv (Ae Cu rfl DM rfl rfl) (wo hb (wv (A3 (i:=0) Ef rfl rfl rfl) (wo hb (Eg JJ (GV o.fTimer.fID (ov (Cl o.fTimer.fID)) (If (Cp (Cp g9 ha) hb))) rfl (wo hb (wv (Bj rfl rfl) (DK rfl hb rfl (wm rfl (AD (decide ((ov (Cl o.fTimer.fID))=10)) (λhd=>?_) (λhd=>?_)))))))))))))))
    ·refine wo hd (wm rfl (wo hd (wv (Ae Gl rfl CU rfl rfl) (wo hd (wv (A3 (i:=0) Dg rfl rfl rfl) (wo hd (Do (Hr:=[.blk b1 (AA o) 41]) Tryd.call10 (JQ o.fNow (ov (Ck o.fNow)) (If (Cp (Cp (Cp hi ha) hb) hd))) rfl (O6 _) rfl ?_)))))));rintro _ _ ⟨hm,rfl,rfl⟩;refine wo hd (wv (Bi (ys:=(ov (Ck o.fNow))) (enc:=Af) (i:=0) CG rfl rfl) (wo hd (wv (Bj rfl rfl) (DK rfl hd rfl (wm rfl (AD (decide (((ov (Ck o.fNow)).length:Int)=0)) (λhf=>?_) (λhf=>?_)))))))
     ·refine wo hf (wm rfl (wo hf (wv (Bj rfl rfl) (DK rfl hf rfl (wm rfl (AD (decide (r2.1=0)) (λhg=>?_) (λhg=>?_)))))))
      ·refine wo hg (wm rfl (wo hg (wv (Bt rfl) (DK rfl hg rfl (wm rfl (AD (!r2.2) (λhe=>?_) (λhe=>?_)))))))
       ·refine wo he (wm rfl (wo he (Do (Hr:=[.row hm 33 5 (List.map Af (ov (Ck o.fNow))),.blk b1 (AA o) 41]) Ns (Gu (ov (C7)) (If (Cp (Cp (Cp (Cp (Cp (Cp hk ha) hb) hd) hf) hg) he))) rfl (O6 _) rfl ?_)));rintro _ _ ⟨v22,rfl,rfl⟩;refine wo he (wv (Bi (ys:=(ov (C7))) (enc:=Af) (i:=0) CG rfl rfl) (wo he (wv (Bj rfl rfl) (DK rfl he rfl (wa rfl (Aq ?_))))));exact CB (And.intro ha (And.intro hb (And.intro hd (And.intro hf (And.intro hg he)))))
       ·refine wf he (wf he (wf he (wf he (wv (r:=rB false) (An (b:=!r2.2) rfl he rfl) (wa rfl (Aq ?_))))));exact CB (And.intro ha (And.intro hb (And.intro hd (And.intro hf (And.intro hg he)))))
      ·refine wf hg (wf hg (wv (r:=rB false) (An (b:=decide (r2.1=0)) rfl hg rfl) (wm rfl (Ad (b:=false) rfl rfl rfl rfl (Ad (b:=false) rfl rfl rfl rfl (Ad (b:=false) rfl rfl rfl rfl (Ad (b:=false) rfl rfl rfl rfl (wv (r:=rB false) (An (b:=false) rfl rfl rfl) (wa rfl (Aq ?_))))))))));exact CB (And.intro ha (And.intro hb (And.intro hd (And.intro hf hg))))
     ·refine wf hf (wf hf (wv (r:=rB false) (An (b:=decide (((ov (Ck o.fNow)).length:Int)=0)) rfl hf rfl) (wm rfl (Ad (b:=false) rfl rfl rfl rfl (Ad (b:=false) rfl rfl rfl rfl (wv (r:=rB false) (An (b:=false) rfl rfl rfl) (wm rfl (Ad (b:=false) rfl rfl rfl rfl (Ad (b:=false) rfl rfl rfl rfl (Ad (b:=false) rfl rfl rfl rfl (Ad (b:=false) rfl rfl rfl rfl (wv (r:=rB false) (An (b:=false) rfl rfl rfl) (wa rfl (Aq ?_))))))))))))));exact CB (And.intro ha (And.intro hb (And.intro hd hf)))
    ·refine wf hd (wf hd (wf hd (wf hd (wf hd (wf hd (wv (r:=rB false) (An (b:=decide ((ov (Cl o.fTimer.fID))=10)) rfl hd rfl) (wm rfl (Ad (b:=false) rfl rfl rfl rfl (Ad (b:=false) rfl rfl rfl rfl (wv (r:=rB false) (An (b:=false) rfl rfl rfl) (wm rfl (Ad (b:=false) rfl rfl rfl rfl (Ad (b:=false) rfl rfl rfl rfl (wv (r:=rB false) (An (b:=false) rfl rfl rfl) (wm rfl (Ad (b:=false) rfl rfl rfl rfl (Ad (b:=false) rfl rfl rfl rfl (Ad (b:=false) rfl rfl rfl rfl (Ad (b:=false) rfl rfl rfl rfl (wv (r:=rB false) (An (b:=false) rfl rfl rfl) (wa rfl (Aq ?_))))))))))))))))))))));exact CB (And.intro ha (And.intro hb hd))
   ·refine wf hb (wf hb (wf hb (wf hb (wf hb (wf hb (wv (r:=rB false) (An (b:=decide ((ov (Bs o.fTimer.fID))=10)) rfl hb rfl) (wm rfl (Ad (b:=false) rfl rfl rfl rfl (Ad (b:=false) rfl rfl rfl rfl (Ad (b:=false) rfl rfl rfl rfl (Ad (b:=false) rfl rfl rfl rfl (Ad (b:=false) rfl rfl rfl rfl (Ad (b:=false) rfl rfl rfl rfl (wv (r:=rB false) (An (b:=false) rfl rfl rfl) (wm rfl (Ad (b:=false) rfl rfl rfl rfl (Ad (b:=false) rfl rfl rfl rfl (wv (r:=rB false) (An (b:=false) rfl rfl rfl) (wm rfl (Ad (b:=false) rfl rfl rfl rfl (Ad (b:=false) rfl rfl rfl rfl (wv (r:=rB false) (An (b:=false) rfl rfl rfl) (wm rfl ?_)))))))))))))))))))))));refine Ad (b:=false) rfl rfl rfl rfl (Ad (b:=false) rfl rfl rfl rfl (Ad (b:=false) rfl rfl rfl rfl (Ad (b:=false) rfl rfl rfl rfl (wv (r:=rB false) (An (b:=false) rfl rfl rfl) (wa rfl (Aq ?_))))));exact CB (And.intro ha hb)
  ·refine wf ha (wf ha (wf ha (wf ha (wf ha (wf ha (wv (r:=rB false) (An (b:=decide ((ov (BX o.fTimer o.fNow))=10)) rfl ha rfl) (wm rfl (Ad (b:=false) rfl rfl rfl rfl (Ad (b:=false) rfl rfl rfl rfl (Ad (b:=false) rfl rfl rfl rfl (Ad (b:=false) rfl rfl rfl rfl (Ad (b:=false) rfl rfl rfl rfl (Ad (b:=false) rfl rfl rfl rfl (wv (r:=rB false) (An (b:=false) rfl rfl rfl) (wm rfl (Ad (b:=false) rfl rfl rfl rfl (Ad (b:=false) rfl rfl rfl rfl (Ad (b:=false) rfl rfl rfl rfl (Ad (b:=false) rfl rfl rfl rfl (Ad (b:=false) rfl rfl rfl rfl (Ad (b:=false) rfl rfl rfl rfl (wv (r:=rB false) (An (b:=false) rfl rfl rfl) (wm rfl ?_)))))))))))))))))))))));refine Ad (b:=false) rfl rfl rfl rfl (Ad (b:=false) rfl rfl rfl rfl (wv (r:=rB false) (An (b:=false) rfl rfl rfl) (wm rfl (Ad (b:=false) rfl rfl rfl rfl (Ad (b:=false) rfl rfl rfl rfl (wv (r:=rB false) (An (b:=false) rfl rfl rfl) (wm rfl (Ad (b:=false) rfl rfl rfl rfl (Ad (b:=false) rfl rfl rfl rfl (Ad (b:=false) rfl rfl rfl rfl (Ad (b:=false) rfl rfl rfl rfl (wv (r:=rB false) (An (b:=false) rfl rfl rfl) (wa rfl (Aq ?_))))))))))))));exact CB ha
 refine A1 ?_;obtain rfl:=A5 hl;exact A0 (B3 Tryd.results16 (AM rfl)) sN ⟨rfl,rfl⟩
theorem Is (he:Nat)(o:AH)(r:Bool)(h:DE o=some r):Fn Tryd.prog GE 16 [rv (.pointer (some ⟨he,0,none⟩)),AZ (AA o)] [.blk he [rv (.map none)] 45] (λR H=>R=rB r∧H=[.blk he [rv (.map none)] 45]):=by
 refine enter (n:=57) Tryd.func16 rfl Tryd.ntmps16 rfl (λw Z=>?_);refine AU (l':=[(0,rv (.pointer (some ⟨he,0,none⟩))),(1,AZ (AA o))]) (H':=[.blk he [rv (.map none)] 45]) rfl rfl ?_;unfold DE at h;refine Ao (Bq rfl rfl (λb1=>?_));refine wv (r:=rB false) (Ai rfl) (BZ (wm rfl ?_));obtain⟨r2,e4,h3⟩:=AN h;refine Do (Hr:=[.blk b1 (AA o) 41]) Tryd.call19 (HV he r2 e4) rfl ((A6 (i:=1) rfl).trans (O9 _ (O6 _))) rfl ?_;rintro _ _ ⟨rfl,rfl⟩;refine wm rfl (wv (AV rfl rfl) (wv (AV rfl rfl) (wa rfl (wa rfl (A2 (Cv (S:=(Bool)×(Unit)) (λσ=>Bn σ.1=some r) (λσ=>[(4,rB σ.1)]) (λσ=>[.blk he [rv (.map none)] 45]) ?_ ?_))))))
 ·refine Au (wm rfl (wv (Ae Gl rfl BD rfl rfl) (wv (AY (i:=1) E4 BD rfl rfl rfl rfl) (wv (Ae Gl rfl CU rfl rfl) (wv (A3 (i:=1) Dg rfl rfl rfl) ?_)))));obtain⟨hk,hw,ho⟩:=AN h3;refine Do (Hr:=[.blk b1 (AA o) 41]) JI (IL he o.fTimer o.fNow hk hw) rfl (O6 _) rfl ?_;rintro _ _ ⟨rfl,rfl⟩;refine wv (Bj rfl rfl) (wm rfl (AD (decide (hk=10)) (λha=>?_) (λha=>?_)))
  ·have hx:=AP ha ho;refine wo ha (wm rfl (wo ha (wv (Ae Gl rfl BD rfl rfl) (wo ha (wv (Ae Cu rfl DM rfl rfl) (wo ha (wv (A3 (i:=1) Ef rfl rfl rfl) (wo ha ?_))))))));obtain⟨hl,hy,hp⟩:=AN hx;refine Do (Hr:=[.blk b1 (AA o) 41]) Tryd.call12 (GK he o.fTimer.fID hl hy) rfl (O6 _) rfl ?_;rintro _ _ ⟨rfl,rfl⟩;refine wo ha (wv (Bj rfl rfl) (DK rfl ha rfl (wm rfl (AD (decide (hl=10)) (λhb=>?_) (λhb=>?_)))))
   ·have hz:=AP hb hp;refine wo hb (wm rfl (wo hb (wv (Ae Gl rfl BD rfl rfl) (wo hb (wv (Ae Cu rfl DM rfl rfl) (wo hb (wv (A3 (i:=1) Ef rfl rfl rfl) (wo hb ?_))))))));obtain⟨hm,h0,hq⟩:=AN hz;refine Do (Hr:=[.blk b1 (AA o) 41]) JJ (Gw he o.fTimer.fID hm h0) rfl (O6 _) rfl ?_;rintro _ _ ⟨rfl,rfl⟩;refine wo hb (wv (Bj rfl rfl) (DK rfl hb rfl (wm rfl (AD (decide (hm=10)) (λhd=>?_) (λhd=>?_)))))
    ·have h1:=AP hd hq;refine wo hd (wm rfl (wo hd (wv (Ae Gl rfl CU rfl rfl) (wo hd (wv (A3 (i:=1) Dg rfl rfl rfl) (wo hd ?_))))));obtain⟨hi,h2,hr⟩:=AN h1;refine Do (Hr:=[.blk b1 (AA o) 41]) Tryd.call10 (IN he o.fNow hi h2) rfl (O6 _) rfl ?_;rintro _ _ ⟨h4,rfl,rfl⟩;refine wo hd (wv (Bi (ys:=hi) (enc:=Af) (i:=0) CG rfl rfl) (wo hd (wv (Bj rfl rfl) (DK rfl hd rfl (wm rfl (AD (decide ((hi.length:Int)=0)) (λhg=>?_) (λhg=>?_)))))))
     ·have hs:=AP hg hr;refine wo hg (wm rfl (wo hg (wv (Bj rfl rfl) (DK rfl hg rfl (wm rfl (AD (decide (r2.1=0)) (λhh=>?_) (λhh=>?_)))))))
      ·have ht:=AP hh hs;refine wo hh (wm rfl (wo hh (wv (Bt rfl) (DK rfl hh rfl (wm rfl (AD (!r2.2) (λhf=>?_) (λhf=>?_)))))))
       ·have h5:=AP hf ht;refine wo hf (wm rfl (wo hf ?_));obtain⟨hn,h6,h7⟩:=AN h5;refine Do (Hr:=[.row h4 33 5 (List.map Af hi),.blk b1 (AA o) 41]) Ns (EJ he hn h6) rfl ((A6 (i:=1) rfl).trans (O9 _ (O6 _))) rfl ?_;rintro _ _ ⟨hE,rfl,rfl⟩;exact wo hf (wv (Bi (ys:=hn) (enc:=Af) (i:=0) CG rfl rfl) (wo hf (wv (Bj rfl rfl) (DK rfl hf rfl (wa rfl (Aq (Aw (AL (decide ((hn.length:Int)=0),()) h7 (AS.c rfl AS.nil) (sS (sC (sS (sS sN))))))))))))
       ·have h8:=AQ hf ht;exact wf hf (wf hf (wf hf (wf hf (wv (r:=rB false) (An (b:=!r2.2) rfl hf rfl) (wa rfl (Aq (Aw (AL (false,()) h8 (AS.c rfl AS.nil) (sS (sC (sS sN)))))))))))
      ·have h9:=AQ hh hs;exact wf hh (wf hh (wv (r:=rB false) (An (b:=decide (r2.1=0)) rfl hh rfl) (wm rfl (Ad (b:=false) rfl rfl rfl rfl (Ad (b:=false) rfl rfl rfl rfl (Ad (b:=false) rfl rfl rfl rfl (Ad (b:=false) rfl rfl rfl rfl (wv (r:=rB false) (An (b:=false) rfl rfl rfl) (wa rfl (Aq (Aw (AL (false,()) h9 (AS.c rfl AS.nil) (sS (sC (sS sN)))))))))))))))
     ·have hA:=AQ hg hr;exact wf hg (wf hg (wv (r:=rB false) (An (b:=decide ((hi.length:Int)=0)) rfl hg rfl) (wm rfl (Ad (b:=false) rfl rfl rfl rfl (Ad (b:=false) rfl rfl rfl rfl (wv (r:=rB false) (An (b:=false) rfl rfl rfl) (wm rfl (Ad (b:=false) rfl rfl rfl rfl (Ad (b:=false) rfl rfl rfl rfl (Ad (b:=false) rfl rfl rfl rfl (Ad (b:=false) rfl rfl rfl rfl (wv (r:=rB false) (An (b:=false) rfl rfl rfl) (wa rfl (Aq (Aw (AL (false,()) hA (AS.c rfl AS.nil) (sS (sC (sS sN)))))))))))))))))))
    ·have hB:=AQ hd hq;exact wf hd (wf hd (wf hd (wf hd (wf hd (wf hd (wv (r:=rB false) (An (b:=decide (hm=10)) rfl hd rfl) (wm rfl (Ad (b:=false) rfl rfl rfl rfl (Ad (b:=false) rfl rfl rfl rfl (wv (r:=rB false) (An (b:=false) rfl rfl rfl) (wm rfl (Ad (b:=false) rfl rfl rfl rfl (Ad (b:=false) rfl rfl rfl rfl (wv (r:=rB false) (An (b:=false) rfl rfl rfl) (wm rfl (Ad (b:=false) rfl rfl rfl rfl (Ad (b:=false) rfl rfl rfl rfl (Ad (b:=false) rfl rfl rfl rfl (Ad (b:=false) rfl rfl rfl rfl (wv (r:=rB false) (An (b:=false) rfl rfl rfl) (wa rfl (Aq (Aw (AL (false,()) hB (AS.c rfl AS.nil) (sC (sS sN))))))))))))))))))))))))))
   ·have hC:=AQ hb hp;refine wf hb (wf hb (wf hb (wf hb (wf hb (wf hb (wv (r:=rB false) (An (b:=decide (hl=10)) rfl hb rfl) (wm rfl (Ad (b:=false) rfl rfl rfl rfl (Ad (b:=false) rfl rfl rfl rfl (Ad (b:=false) rfl rfl rfl rfl (Ad (b:=false) rfl rfl rfl rfl (Ad (b:=false) rfl rfl rfl rfl (Ad (b:=false) rfl rfl rfl rfl (wv (r:=rB false) (An (b:=false) rfl rfl rfl) (wm rfl (Ad (b:=false) rfl rfl rfl rfl (Ad (b:=false) rfl rfl rfl rfl (wv (r:=rB false) (An (b:=false) rfl rfl rfl) (wm rfl (Ad (b:=false) rfl rfl rfl rfl (Ad (b:=false) rfl rfl rfl rfl (wv (r:=rB false) (An (b:=false) rfl rfl rfl) (wm rfl ?_)))))))))))))))))))))));exact Ad (b:=false) rfl rfl rfl rfl (Ad (b:=false) rfl rfl rfl rfl (Ad (b:=false) rfl rfl rfl rfl (Ad (b:=false) rfl rfl rfl rfl (wv (r:=rB false) (An (b:=false) rfl rfl rfl) (wa rfl (Aq (Aw (AL (false,()) hC (AS.c rfl AS.nil) (sC (sS sN))))))))))
  ·have hD:=AQ ha ho;refine wf ha (wf ha (wf ha (wf ha (wf ha (wf ha (wv (r:=rB false) (An (b:=decide (hk=10)) rfl ha rfl) (wm rfl (Ad (b:=false) rfl rfl rfl rfl (Ad (b:=false) rfl rfl rfl rfl (Ad (b:=false) rfl rfl rfl rfl (Ad (b:=false) rfl rfl rfl rfl (Ad (b:=false) rfl rfl rfl rfl (Ad (b:=false) rfl rfl rfl rfl (wv (r:=rB false) (An (b:=false) rfl rfl rfl) (wm rfl (Ad (b:=false) rfl rfl rfl rfl (Ad (b:=false) rfl rfl rfl rfl (Ad (b:=false) rfl rfl rfl rfl (Ad (b:=false) rfl rfl rfl rfl (Ad (b:=false) rfl rfl rfl rfl (Ad (b:=false) rfl rfl rfl rfl (wv (r:=rB false) (An (b:=false) rfl rfl rfl) (wm rfl ?_)))))))))))))))))))))));exact Ad (b:=false) rfl rfl rfl rfl (Ad (b:=false) rfl rfl rfl rfl (wv (r:=rB false) (An (b:=false) rfl rfl rfl) (wm rfl (Ad (b:=false) rfl rfl rfl rfl (Ad (b:=false) rfl rfl rfl rfl (wv (r:=rB false) (An (b:=false) rfl rfl rfl) (wm rfl (Ad (b:=false) rfl rfl rfl rfl (Ad (b:=false) rfl rfl rfl rfl (Ad (b:=false) rfl rfl rfl rfl (Ad (b:=false) rfl rfl rfl rfl (wv (r:=rB false) (An (b:=false) rfl rfl rfl) (wa rfl (Aq (Aw (AL (false,()) hD (AS.c rfl AS.nil) (sC (sS sN))))))))))))))))))
 ·rintro⟨hu,⟨⟩⟩ hj;refine AU (l':=[(4,rB hu)]) (H':=[.blk he [rv (.map none)] 45]) rfl rfl ?_;replace hj:Bn hu=some r:=hj;unfold Bn at hj;refine A1 ?_;obtain rfl:=A5 hj;exact A0 (B3 Tryd.results16 (AM rfl)) (sC sN) ⟨rfl,rfl⟩
theorem Nd (F:Nat)(o:AH)(r:Bool)(h:Lt F o=some r):Fn Tryd.prog GE 5 [AZ (AA o)] [] (λR H=>R=rB r∧H=[]):=by
 refine enter (n:=19) Tryd.func5 rfl Tryd.ntmps5 rfl (λw Z=>?_);refine AU (l':=[(0,AZ (AA o))]) (H':=[]) rfl rfl ?_;unfold Lt at h;refine Ao (Bq rfl rfl (λb1=>?_));refine wv (r:=rB false) (Ai rfl) (A2 (Az (Ao (wv (AY (i:=0) Tryd.isAgg41 Ky rfl rfl rfl rfl) (BM (ys:=([o]:List AH)) (enc:=AA) (css:=[[rI .i64 o.fKind,rI .i64 o.fNow,rS o.fTimer.fID,rI .i64 o.fTimer.fAt,rS o.fTimer.fTenant,rS o.fTimer.fSource,B0 4 (List.map Ah o.fTimer.fBody)]]) (xs:=[.tmp 3]) LF Ky Tryd.zeroValue41 rfl rfl rfl ⟨M6.agg ⟨Up.refl _,Up.refl _,Up.refl _,Up.refl _,Up.refl _,Up.refl _,Up.refl _,trivial⟩,trivial⟩ rfl E2 rfl rfl rfl (λb2=>?_))))));refine WL.freeze (i:=0) rfl (WL.up (d:=4) (r:=B0 7 (List.map AA ([o]:List AH))) rfl (Up.fact (i:=0) rfl) ?_);obtain⟨r3,e5,h4⟩:=AN h;refine Eg Tryd.call6 (Lq F ([o]:List AH) r3 e5) rfl (wv (Bt rfl) (A2 (AC (b:=!r3) rfl (λc6=>?_) (λc6=>?_))))
 ·have h7:=AP c6 h4;refine Ao ?_;obtain⟨r8,hk,h9⟩:=AN h7;refine Eg Tryd.call7 (Iu F r8 hk) rfl (wa rfl (A2 (A1 (Am ?_))));obtain rfl:=A5 h9;exact A0 (B3 Tryd.results5 (AM rfl)) (sS (sS sN)) ⟨rfl,rfl⟩
 ·have hl:=AQ c6 h4;refine AG (Bd (Cv (S:=(Bool)×(Unit)) (λσ=>DF σ.1=some r) (λσ=>[(2,rB σ.1)]) (λσ=>[]) ?_ ?_))
  ·refine Au (wv (AY (i:=1) Tryd.isAgg41 Ky rfl rfl rfl rfl) ?_);obtain⟨he,hm,hg⟩:=AN hl;refine Eg Tryd.call16 (Ja o he hm) rfl (wm rfl (AD (he) (λha=>?_) (λha=>?_)))
   ·have hn:=AP ha hg;refine wo ha (wv (r:=AZ [rv (.map none)]) (IW ) (wo ha (Bq rfl rfl (λho=>?_))));refine wo ha (wv (AY (i:=2) Tryd.isAgg41 Ky rfl rfl rfl rfl) (wo ha ?_));obtain⟨hf,hp,hh⟩:=AN hn;refine Do (Hr:=[.fact (.slice (some ⟨b2,0,none⟩) 1 1) (B0 7 (List.map AA ([o]:List AH))),.blk b1 (AA o) 41]) Tryd.call16 (Is ho o hf hp) rfl (O6 _) rfl ?_;rintro _ _ ⟨rfl,rfl⟩;refine DK rfl ha rfl (wm rfl (AD (hf) (λhb=>?_) (λhb=>?_)))
    ·have hq:=AP hb hh;refine wo hb ?_;obtain⟨hi,hr,hs⟩:=AN hq;exact Eg Tryd.call7 (Iu F hi hr) rfl (DK rfl hb rfl (wa rfl (Aq (Aw (AL (hi,()) hs (AS.c rfl AS.nil) (sS (sS (sS sN))))))))
    ·have ht:=AQ hb hh;exact wf hb (wv (r:=rB false) (An (b:=hf) rfl hb rfl) (wa rfl (Aq (Aw (AL (false,()) ht (AS.c rfl AS.nil) (sS (sS (sS sN))))))))
   ·have hu:=AQ ha hg;exact wf ha (wf ha (wf ha (wf ha (wv (r:=rB false) (An (b:=he) rfl ha rfl) (wm rfl (Ad (b:=false) rfl rfl rfl rfl (wv (r:=rB false) (An (b:=false) rfl rfl rfl) (wa rfl (Aq (Aw (AL (false,()) hu (AS.c rfl AS.nil) (sS (sS sN)))))))))))))
  ·rintro⟨hj,⟨⟩⟩ hd;refine AU (l':=[(2,rB hj)]) (H':=[]) rfl rfl ?_;replace hd:DF hj=some r:=hd;unfold DF at hd;refine A1 ?_;obtain rfl:=A5 hd;exact A0 (B3 Tryd.results5 (AM rfl)) sN ⟨rfl,rfl⟩
end Go.Proofs.YtkoiaconljdbeaaDoor.Q
namespace Go.Proofs.YtkoiaconljdbeaaDoor.lawTimerNil
open Go
set_option linter.unusedVariables false
def KZ (y:Ac):Bool:=(Cs .i64) y.fKind&&(Cs .i64) y.fInt&&LA y.fStr&&(Cs .i64) y.fN
def Md (y:Ab):Bool:=LA y.fID&&(Cs .i64) y.fAt&&LA y.fTenant&&LA y.fSource&&(λys:(List Ac)=>ys.all KZ&&decide (ys.length≤9223372036854775807)) y.fBody
def La (y:AH):Bool:=(Cs .i64) y.fKind&&(Cs .i64) y.fNow&&Md y.fTimer
def O1:Prop:=∀(y0:AH) (o0:La y0=true),∃F,Lt F y0=some true
end Go.Proofs.YtkoiaconljdbeaaDoor.lawTimerNil
namespace Go.Proofs.YtkoiaconljdbeaaDoor
open Go
set_option linter.unusedVariables false
set_option linter.unusedSimpArgs false
def M9 (c:UInt8):Bool:=decide (32≤c.toNat)&&decide (c.toNat≤126)
theorem Mx {s:Aj}{x:Int}{c:UInt8}(h:s[x.toNat]? =some c):IC s x=(c.toNat:Int):=by simp[IC,h]
theorem GJ {α:Type}{p:α→Bool}{s:List α}{k:Nat}{c:α}(h:s[k]? =some c):(s.take (k+1)).all p=((s.take k).all p&&p c):=by
 rw[List.take_add_one,h];simp
theorem HF {α:Type}{p:α→Bool}{s:List α}{k:Nat}{c:α}(h:s[k]? =some c)(hp:p c=false):s.all p=false:=by
 rw[List.all_eq_false];exact⟨c,OC h,by simp[hp]⟩
theorem K8 {F:Nat}{s:Aj}(hF:s.length<F)(hs:s.length≤9223372036854775807):EH F s=some (s.all M9):=by
 obtain⟨o,h1,h2⟩:=H7 (body:=λσ=>CY s σ) (λx=>0≤x∧x≤(s.length:Int)∧(s.take x.toNat).all M9=true) (λx=>s.length-x.toNat)
  (λo=>Cr (λ_=>CX) o=some (s.all M9)) (λx ⟨h0,hl,ha⟩=>by
   unfold CY
   by_cases hx:x<(s.length:Int)
   ·obtain⟨c,hc⟩:∃c,s[x.toNat]? =some c:=⟨s[x.toNat]'(by omega),O7 (by omega)⟩
    rw[Bz (by simpa using hx),C5 h0 hx,Mx hc]
    cases ho:M9 c with
    | false=>
     refine .inr ⟨.ret false,?_,?_⟩
     ·rw[Bz];simp only[M9,Bool.and_eq_false_iff,O4] at ho;simp only[Pi,O5];omega
     ·simp[Cr,HF hc ho]
    | true=>
     refine .inl ⟨x+1,?_,⟨by omega,by omega,?_⟩,by omega⟩
     ·rw[Bu,Bo (by omega) (by omega)];simp only[M9,OB,O5] at ho;simp only[Bool.or_eq_false_iff,O4];omega
     ·rw[show(x+1).toNat=x.toNat+1 from by omega,GJ hc,ha,ho];rfl
   ·refine .inr ⟨.go (),by rw[Bu (by simpa using hx)],?_⟩;rw[show x.toNat=s.length from by omega,List.take_length] at ha;simp[Cr,CX,ha]) F 0 ⟨by omega,by omega,by simp⟩ (by simpa using hF)
 unfold EH;rw[Ct h1,h2]
def pl (c:Ac):Bool:=
 bif decide (c.fKind=1) then(decide (c.fInt=0)&&(decide (c.fStr=[])&&decide (c.fN=0))) else
 bif decide (c.fKind=2) then((decide (c.fInt=0)||decide (c.fInt=1))&&(decide (c.fStr=[])&&decide (c.fN=0))) else
 bif decide (c.fKind=3) then(decide (c.fStr=[])&&decide (c.fN=0)) else
 bif decide (c.fKind=4) then(decide (c.fInt=0)&&(decide (c.fN=0)&&c.fStr.all M9)) else
 bif decide (c.fKind=5) then(decide (c.fInt=0)&&(decide (c.fStr=[])&&decide (0≤c.fN))) else
 bif decide (c.fKind=6) then(decide (c.fInt=0)&&(decide (c.fStr=[])&&decide (0≤c.fN))) else false
theorem BU {α:Type}{p:Bool}{x y:Option α}{a b:α}(h:x=some a)(h':y=some b):BA p x y=some (bif p then a else b):=by cases p<;>simp[BA,h,h']
theorem JL {F:Nat}{c:Ac}(hF:c.fStr.length<F)(hs:c.fStr.length≤9223372036854775807):Gn F c=some (pl c):=by
 unfold Gn pl;rw[K8 hF hs];refine BU rfl (BU ?_ (BU rfl (BU ?_ (BU rfl (BU rfl rfl)))))
 ·cases h:decide (c.fInt=0)<;>simp
 ·simp[imp,BB,ov]
def IB:List Ap→List Ap
 | []=>[]
 | e::S=>bif decide (1<e.fLeft) then⟨e.fPairs,e.fLeft-1,e.fPairs,e.fLast,e.fStarted⟩::S else IB S
theorem Gg {α:Type}[Inhabited α](xs:List α)(e:α):Ar (xs++[e]) (xs.length:Int)=e:=by simp[Ar]
theorem Es {α:Type}(xs:List α)(e e':α):List.set (xs++[e]) (Int.toNat (xs.length:Int)) e'=xs++[e']:=by simp
theorem Ez {α:Type}(xs:List α)(e:α):((xs++[e]).length:Int)-1=(xs.length:Int):=by simp
theorem JN {α:Type}(xs:List α)(e:α):List.take (Int.toNat (xs.length:Int)) (xs++[e])=xs:=by simp
theorem EI:∀(S:List Ap) (F:Nat),S.length<F→(∀e∈S,1≤e.fLeft∧e.fLeft≤9223372036854775807)→S.length≤4611686018427387904→
  ∃o,D3 (λσ=>BJ σ) F S.reverse=some o∧Cr (λν=>Ca ν) o=some (IB S).reverse
 | [],F+1,_,_,_=>⟨.go [],by simp[D3,BJ,BA],by simp[Cr,Ca,IB]⟩
 | e::S,F+1,hF,hb,hl=>by
  obtain⟨h1,h2⟩:=hb e (by simp);simp only[Pd] at hF hl;have hx:S.reverse.length=S.length:=by simp
  generalize hxs:S.reverse=xs at hx;have hr:(e::S).reverse=xs++[e]:=by simp[hxs]
  rw[hr];have hb1:BJ (xs++[e])=bif decide (1<e.fLeft) then some (.out (.ret (xs++[⟨e.fPairs,e.fLeft-1,e.fPairs,e.fLast,e.fStarted⟩]))) else some (.next xs):=by
   unfold BJ;rw[Bz (by simp)];simp only[Ez,Gg,Es,L6];rw[Bo (by omega) (by omega),C5 (by omega) (by simp;omega),Bo (by omega) (by omega)]
   cases hd:decide (1<e.fLeft) with
   | true=>
    rw[Bz (by simp at hd ⊢;omega)];rfl
   | false=>
    rw[Bu (by simp at hd ⊢;omega),Bo (by omega) (by omega),Mt (by omega) (by simp;omega),JN];rfl
  rw[D3,hb1]
  cases hd:decide (1<e.fLeft) with
  | true=>exact⟨_,rfl,by simp[Cr,Ca,IB,hd,hxs]⟩
  | false=>
   obtain⟨o,ho1,ho2⟩:=EI S F (by omega) (λe he=>hb e (by simp[he])) (by omega);rw[hxs] at ho1;exact⟨o,ho1,by rw[ho2];simp[IB,hd]⟩
theorem Gp {S:List Ap}{F:Nat}(hF:S.length<F)(hb:∀e∈S,1≤e.fLeft∧e.fLeft≤9223372036854775807)(hl:S.length≤4611686018427387904):El F S.reverse=some (IB S).reverse:=by
 obtain⟨o,h1,h2⟩:=EI S F hF hb hl;unfold El;rw[Ct h1,h2]
def KQ (s:Aj):Int:=s.length+2+s.count 34+s.count 92
theorem Gm {s:Aj}(hs:s.length≤1152921504606846976):D9 s=some (KQ s):=by
 have h1:s.count 34≤s.length:=List.count_le_length;have h2:s.count 92≤s.length:=List.count_le_length;unfold D9 Lib.countByte;rw[Bo (by omega) (by omega),Bo (by omega) (by omega),Bo (by omega) (by omega)];rfl
def NX (c:Ac):Int:=
 bif decide (c.fKind=1) then 4 else bif decide (c.fKind=2) then IntKind.wrap .i64 (5-c.fInt) else bif decide (c.fKind=3) then((Lib.itoa c.fInt).length:Int) else
 bif decide (c.fKind=4) then KQ c.fStr else IntKind.wrap .i64 (2+max 0 (IntKind.wrap .i64 (c.fN-1)))
theorem HS {c:Ac}(hs:c.fStr.length≤1152921504606846976)(hi:Cs .i64 c.fInt=true):HT c=some (NX c):=by
 unfold HT NX;rw[Gm hs];refine BU rfl (BU rfl (BU ?_ (BU rfl rfl)));rw[Dr hi]
def I9 (d:Nat)(sh:Ay)(c:Ac):Ay:=
 ⟨max sh.fDepth ((d:Int)+1),IntKind.wrap .i64 (sh.fBytes+NX c),sh.fOutside||(decide (c.fKind=3)&&!(decide ((-1000000000000)≤c.fInt)&&decide (c.fInt≤1000000000000))),sh.fLong||decide (200<(c.fStr.length:Int))⟩
def Oa (sh:Ay)(c:Ac):Ay:=⟨sh.fDepth,IntKind.wrap .i64 (sh.fBytes+(KQ c.fStr+1)),sh.fOutside,sh.fLong||decide (200<(c.fStr.length:Int))⟩
abbrev Kt:=List Ap×Int×Ay
abbrev NL:=Out (Int×Ay×Bool) Ay
def Og (n:Int)(S:List Ap)(i:Int)(sh:Ay)(c:Ac):Stp Kt NL:=
 bif !pl c then .out (.ret (0,sh,false)) else
 match S with
 | e::S'=>
  bif e.fKey then
   bif !decide (c.fKind=4)||(e.fStarted&&(Bh c.fStr e.fLast||decide (c.fStr=e.fLast))) then .out (.ret (0,sh,false))
   else .next ((⟨e.fPairs,e.fLeft,false,c.fStr,true⟩::S').reverse,i+1,Oa sh c)
  else bif decide (0<c.fN) then
   bif decide (n<c.fN) then .out (.ret (0,I9 S.length sh c,false))
   else .next ((⟨decide (c.fKind=6),c.fN,decide (c.fKind=6),[],false⟩::S).reverse,i+1,I9 S.length sh c)
  else bif decide (IB S=[]) then .out (.ret (i+1,I9 S.length sh c,true)) else .next ((IB S).reverse,i+1,I9 S.length sh c)
 | []=>
  bif decide (0<c.fN) then
   bif decide (n<c.fN) then .out (.ret (0,I9 0 sh c,false))
   else .next ([⟨decide (c.fKind=6),c.fN,decide (c.fKind=6),[],false⟩],i+1,I9 0 sh c)
  else .out (.ret (i+1,I9 0 sh c,true))
theorem GC {S:List Ap}:decide (((IB S).reverse.length:Int)=0)=decide (IB S=[]):=by
 rw[Pb];simp
theorem NG {α:Type}{xs:List α}{e x:α}{M:Nat}(h:xs.length+1≤M)(hM2:(M+2)*48≤140737488355328):Ni 48 ((xs++[e]).length+([x]:List α).length)=true:=by
 refine OW (Nat.le_trans (Nat.mul_le_mul_right 48 ?_) hM2);rw[Ph,List.length_singleton,List.length_singleton];omega
set_option maxHeartbeats 600000 in
theorem HU {F:Nat}{v:List Ac}{S:List Ap}{i:Int}{sh:Ay}{c:Ac}(h0:0≤i)(hc:v[i.toNat]? =some c){M:Nat}(hM:M≤1152921504606846976)(hM2:(M+2)*48≤140737488355328)(hv:v.length≤M)(hS:S.length≤M)(hF:M<F)
  (hs:c.fStr.length≤M) (hi:Cs .i64 c.fInt=true) (hb:∀e∈S,1≤e.fLeft∧e.fLeft≤9223372036854775807):CP F v S.reverse i sh=some (Og v.length S i sh c):=by
 have hil:i.toNat<v.length:=(List.getElem?_eq_some_iff.1 hc).1;have hat:Ar v i=c:=by simp[Ar,hc]
 unfold CP Og;rw[Bz (by simp;omega),C5 h0 (by omega),hat,JL (by omega) (by omega),Ct rfl]
 cases hp:pl c with
 | false=>rw[Bz (by simp)];rfl
 | true=>
  rw[Bu (by simp)]
  cases S with
  | nil=>
   rw[Dr (by simp[imp]),Dr (by simp[imp]),Bu (by simp),Bo (by simp) (by simp),HS (by omega) hi,Ct rfl,Dr (by simp[imp,AR])];simp only[AR,ov,OZ,OF,OU]
   cases hn:decide (0<c.fN) with
   | true=>
    rw[Bz rfl]
    cases hm:decide ((v.length:Int)<c.fN) with
    | true=>rw[Bz rfl];simp[I9]
    | false=>rw[Bu rfl,Dr (by simp[Ni])];unfold BS;rw[Bo (by omega) (by omega)];simp[I9]
   | false=>
    rw[Bu rfl,Ct (Gp (S:=[]) (by simp;omega) (by simp) (by simp)),Bz (by simp[IB]),Bo (by omega) (by omega)];simp[I9]
  | cons e S'=>
   have hx:S'.reverse.length=S'.length:=by simp
   generalize hxs:S'.reverse=xs at hx;have hr:(e::S').reverse=xs++[e]:=by simp[hxs]
   simp only[Pd] at hS;have hlen:((xs++[e]).length:Int)=(xs.length:Int)+1:=by simp
   rw[hr,Dr (by simp only[imp,Ez];rw[Ix (by omega) (by omega)];simp),Dr (by simp only[imp,Ez];rw[NF (by omega) (by omega)];simp)];rw[Ez,Gg]
   cases hk:e.fKey with
   | true=>
    rw[Bz (by simp),Bo (by omega) (by omega),C5 (by omega) (by omega)];simp only[hk,OF,OU,OY]
    cases ht : !decide (c.fKind=4)||(e.fStarted&&(Bh c.fStr e.fLast||decide (c.fStr=e.fLast))) with
    | true=>rw[Bz rfl];rfl
    | false=>
     rw[Bu rfl,Es,L6,Gg,Es,L6,Gg,Es,L6,Gm (by omega),Ct rfl,Bo (by unfold KQ;omega) (by unfold KQ;have:=@List.count_le_length UInt8 _ 34 c.fStr;have:=@List.count_le_length UInt8 _ 92 c.fStr;omega)];unfold BS;rw[Bo (by omega) (by omega)];simp[Oa,hxs]
   | false=>
    rw[Bu (by simp),hlen,Bo (by omega) (by omega),HS (by omega) hi,Ct rfl,Dr (by simp[imp,AR])];simp only[hk,AR,ov,OZ,OF,OU,OY]
    cases hn:decide (0<c.fN) with
    | true=>
     rw[Bz rfl]
     cases hm:decide ((v.length:Int)<c.fN) with
     | true=>rw[Bz rfl];simp[I9,hx]
     | false=>rw[Bu rfl,Dr (NG (by omega) hM2)];unfold BS;rw[Bo (by omega) (by omega)];simp[I9,hx,hxs]
    | false=>
     have hcl:=Gp (S:=e::S') (F:=F) (by simp;omega) hb (by simp;omega);rw[hr] at hcl;rw[Bu rfl,hcl,Ct rfl,GC]
     cases hq:decide (IB (e::S')=[]) with
     | true=>rw[Bz rfl,Bo (by omega) (by omega)];simp[I9,hx]
     | false=>rw[Bu rfl];unfold BS;rw[Bo (by omega) (by omega)];simp[I9,hx]
section
variable {S O : Type} {body : S → Option (Stp S O)} {s t u : S} {o : O}
def Df (body:S→Option (Stp S O))(s t:S):Prop:=∃k,∀n,D3 body (n+k) s=D3 body n t
def Fin (body:S→Option (Stp S O))(s:S)(o:O):Prop:=∃k,∀n,D3 body (n+k) s=some o
theorem Df.refl (s:S):Df body s s:=⟨0,λ_=>rfl⟩
theorem Df.trans (h:Df body s t)(h':Df body t u):Df body s u:=by
 obtain⟨k,hk⟩:=h;obtain⟨j,hj⟩:=h';exact⟨j+k,λn=>by rw[← Nat.add_assoc,hk,hj]⟩
theorem Df.step (h:body s=some (.next t)):Df body s t:=⟨1,λn=>by rw[D3,h]⟩
theorem Fin.step (h:body s=some (.out o)):Fin body s o:=⟨1,λn=>by rw[D3,h]⟩
theorem Df.fin (h:Df body s t)(h':Fin body t o):Fin body s o:=by
 obtain⟨k,hk⟩:=h;obtain⟨j,hj⟩:=h';exact⟨j+k,λn=>by rw[← Nat.add_assoc,hk,hj]⟩
end
inductive Fo where
 | nil
 | cell (k:Option Aj) (c:Ac) (r:Fo)
 | node (k:Option Aj) (c:Ac) (kids r:Fo)
def NE:Option Aj→List Ac
 | none=>[]
 | some s=>[⟨4,0,s,0⟩]
def Fo.flat:Fo→List Ac
 | .nil=>[]
 | .cell k c r=>NE k++c::r.flat
 | .node k c kids r=>NE k++c::(kids.flat++r.flat)
def Fo.cnt:Fo→Nat
 | .nil=>0
 | .cell _ _ r=>r.cnt+1
 | .node _ _ _ r=>r.cnt+1
def Lu (m:Bool)(last:Option Aj):Option Aj→Bool
 | none=>!m
 | some s=>m&&s.all M9&&(match last with
  | none=>true
  | some p=>!(Bh s p||decide (s=p)))
def Fo.wf:Bool→Option Aj→Fo→Bool
 | _,_,.nil=>true
 | m,last,.cell k c r=>Lu m last k&&pl c&&!decide (0<c.fN)&&r.wf m k
 | m,last,.node k c kids r=>Lu m last k&&pl c&&decide (0<c.fN)&&decide (c.fN=kids.cnt)&&kids.wf (decide (c.fKind=6)) none&&r.wf m k
def Oo (k:Option Aj)(sh:Ay):Ay:=match k with
 | none=>sh
 | some s=>Oa sh ⟨4,0,s,0⟩
def Fo.sh (d:Nat):Ay→Fo→Ay
 | s,.nil=>s
 | s,.cell k c r=>r.sh d (I9 d (Oo k s) c)
 | s,.node k c kids r=>r.sh d (kids.sh (d+1) (I9 d (Oo k s) c))
def Ji (body:Kt→Option (Stp Kt NL))(s:Kt)(S:List Ap)(i:Int)(sh:Ay):Prop:=
 if IB S=[] then Fin body s (.ret (i,sh,true)) else Df body s ((IB S).reverse,i,sh)
theorem Ji.of {body:Kt→Option (Stp Kt NL)}{s t:Kt}{S:List Ap}{i:Int}{sh:Ay}(h:Df body s t)(h':Ji body t S i sh):Ji body s S i sh:=by
 unfold Ji at *
 split
 ·rename_i e;rw[if_pos e] at h';exact h.fin h'
 ·rename_i e;rw[Pf e] at h';exact h.trans h'
theorem Ji.more {body:Kt→Option (Stp Kt NL)}{s:Kt}{e:Ap}{S:List Ap}{i:Int}{sh:Ay}(h:Ji body s (e::S) i sh)(h1:1<e.fLeft):Df body s ((⟨e.fPairs,e.fLeft-1,e.fPairs,e.fLast,e.fStarted⟩::S).reverse,i,sh):=by
 have:IB (e::S)=⟨e.fPairs,e.fLeft-1,e.fPairs,e.fLast,e.fStarted⟩::S:=by simp[IB,h1]
 unfold Ji at *;rw[this,Pf (by simp)] at h;exact h
structure O0 (F M:Nat) (v:List Ac):Prop where
 hM:M≤1152921504606846976
 hM2:(M+2)*48≤140737488355328
 hv:v.length≤M
 hF:M<F
 hc:∀c∈v,c.fStr.length≤M∧Cs .i64 c.fInt=true∧c.fN≤9223372036854775807
abbrev Oy (F:Nat)(v:List Ac):Kt→Option (Stp Kt NL):=λσ=>CP F v σ.1 σ.2.1 σ.2.2
def N4 (S:List Ap):Prop:=∀e∈S,1≤e.fLeft∧e.fLeft≤9223372036854775807
section
variable {F M : Nat} {v : List Ac} {S : List Ap} {i : Int} {sh : Ay} {c : Ac} {r : List Ac} {e : Ap}
theorem L2 (h0:0≤i)(h:v.drop i.toNat=c::r):v[i.toNat]? =some c∧v.drop (i+1).toNat=r∧i<v.length:=by
 have h1:(v.drop i.toNat)[0]? =some c:=by rw[h];rfl
 have h2:v[i.toNat]? =some c:=by simpa using h1
 have h3:=(List.getElem?_eq_some_iff.1 h2).1;refine⟨h2,?_,by omega⟩;rw[show(i+1).toNat=i.toNat+1 from by omega,← List.drop_drop,h];rfl
theorem round (hA:O0 F M v)(h0:0≤i)(h:v.drop i.toNat=c::r)(hS:(S.length:Int)≤i)(hb:N4 S):Oy F v (S.reverse,i,sh)=some (Og v.length S i sh c):=by
 obtain⟨h1,_,h3⟩:=L2 h0 h;obtain⟨a,b,_⟩:=hA.hc c (OC h1);have:=hA.hv;exact HU h0 h1 hA.hM hA.hM2 hA.hv (by omega) hA.hF a b hb
end
def Fo.one:Fo→Bool
 | .cell none _ .nil=>true
 | .node none _ _ .nil=>true
 | _=>false
def Ob (m:Bool)(last:Option Aj)(xs:List Ac):Option (Option Aj×List Ac):=
 bif m then match xs with
  | []=>none
  | c::r=>bif pl c&&decide (c.fKind=4)&&Lu true last (some c.fStr) then some (some c.fStr,r) else none
 else some (none,xs)
def NQ:Nat→Bool→Option Aj→Nat→List Ac→Option (Fo×List Ac)
 | 0,_,_,_,_=>none
 | _+1,_,_,0,xs=>some (.nil,xs)
 | F+1,m,last,k+1,xs=>
  match Ob m last xs with
  | none=>none
  | some (_,[])=>none
  | some (key,c::xs')=>
   bif !pl c then none else
   bif decide (0<c.fN) then
    match NQ F (decide (c.fKind=6)) none c.fN.toNat xs' with
    | none=>none
    | some (kids,ys)=>match NQ F m key k ys with
     | none=>none
     | some (r,zs)=>some (.node key c kids r,zs)
   else match NQ F m key k xs' with
    | none=>none
    | some (r,zs)=>some (.cell key c r,zs)
section
variable {F M : Nat} {v : List Ac}
def Oc (xs:List Ac):Option (Fo×List Ac):=NQ (xs.length+1) false none 1 xs
end
def Fo.put (k:Option Aj):Fo→Fo→Fo
 | .cell _ c _,r=>.cell k c r
 | .node _ c kids _,r=>.node k c kids r
 | .nil,_=>.nil
structure O3 (F M:Nat) (v:List Ac):Prop where
 hM:M≤1152921504606846976
 hv:v.length≤M
 hF:M<F
 hc:∀c∈v,c.fStr.length≤M
section
variable {M : Nat} {v : List Ac}
end
structure Kv (M:Nat) (v:List Ac):Prop where
 hM:M≤1000000000
 hv:v.length≤M
 hc:∀c∈v,c.fStr.length≤M∧Cs .i64 c.fInt=true∧c.fN≤9223372036854775807
theorem Kv.drop {M:Nat}{v:List Ac}(h:Kv M v)(k:Nat):Kv M (v.drop k):=⟨h.hM,by have:=h.hv;rw[List.length_drop];omega,λc hc=>h.hc c (List.mem_of_mem_drop hc)⟩
theorem Kv.take {M:Nat}{v:List Ac}(h:Kv M v)(k:Nat):Kv M (v.take k):=⟨h.hM,by have:=h.hv;rw[List.length_take];omega,λc hc=>h.hc c (List.mem_of_mem_take hc)⟩
def whole (v:List Ac):Option Fo:=match Oc v with
 | some (f,[])=>some f
 | _=>none
section
variable {M : Nat} {v : List Ac}
end
section
variable {M : Nat} {v : List Ac}
end
section
variable {M : Nat} {v : List Ac}
end
section
variable {M : Nat}
end
section
variable {M : Nat}
theorem Kv.mem {v:List Ac}(hA:Kv M v){p:Int}{a b:List Ac}(h:v.drop p.toNat=a++b):Kv M a:=by
 have:=(hA.drop p.toNat).take a.length
 rwa [h,List.take_left] at this
end
def KJ (v:List Ac):Bool:=!decide (300<v.length)&&v.all λc=>!decide (300<c.fStr.length)
def KY (c:Ac):Bool:=Cs .i64 c.fKind&&Cs .i64 c.fInt&&LA c.fStr&&Cs .i64 c.fN
theorem Kv.of {v:List Ac}(hs:KJ v=true)(hc:v.all KY=true):Kv 300 v:=by
 unfold KJ at hs;simp only[OB,Bool.not_eq_true',O4,OL] at hs hc;refine⟨by decide,by omega,λc h=>?_⟩;obtain h1:=hs.2 c h;obtain h2:=hc c h;unfold KY at h2;simp only[OB] at h2;exact⟨by omega,h2.1.1.2,(Gf h2.2).2⟩
section
variable {M : Nat}
end
section
variable {T : Type}
end
theorem Jy {R V:Type}(K:V→Option R)(v:V):Cr K (.go v)=K v:=rfl
theorem KT {R V:Type}(K:V→Option R)(r:R):Cr K (.ret r)=some r:=rfl
theorem Ex {α R U:Type}[Inhabited α](l:List α)(P:α→Prop)(B:R→Prop)(u:U)(body:Int→Option (Stp Int (Out R U)))
  (h1:∀(x:Int) (c:α),0≤x→x<(l.length:Int)→c∈l→Ar l x=c→(body x=some (.next (x+1))∧P c)∨∃q,body x=some (.out (.ret q))∧B q)
  (h2:body (l.length:Int)=some (.out (.go u))) {F:Nat} (hF:l.length<F) :
  ∃o,D3 body F 0=some o∧((∃q,o = .ret q∧B q)∨(o = .go u∧∀c∈l,P c)):=by
 refine H7 (λx=>0≤x∧x≤(l.length:Int)∧∀c∈l.take x.toNat,P c) (λx=>l.length-x.toNat) _ (λx ⟨h0,hl,ha⟩=>?_) F 0 ⟨Int.le_refl 0,by omega,by simp⟩ (by show l.length-0<F;omega)
 by_cases hx:x<(l.length:Int)
 ·obtain⟨c,hc⟩:∃c,l[x.toNat]? =some c:=⟨l[x.toNat]'(by omega),O7 (by omega)⟩
  have hat:Ar l x=c:=by simp[Ar,hc]
  rcases h1 x c h0 hx (OC hc) hat with⟨hb,hp⟩ | ⟨q,hb,hq⟩
  ·refine .inl ⟨x+1,hb,⟨by omega,by omega,λd hd=>?_⟩,by omega⟩;rw[show(x+1).toNat=x.toNat+1 from by omega,List.take_add_one,hc] at hd;simp only[Option.toList_some,List.mem_append,Pe,List.not_mem_nil,or_false] at hd;rcases hd with hd | rfl
   ·exact ha d hd
   ·exact hp
  ·exact .inr ⟨.ret q,hb,.inl ⟨q,rfl,hq⟩⟩
 ·have e:x=(l.length:Int):=by omega
  subst e;refine .inr ⟨.go u,h2,.inr ⟨rfl,λc hc=>ha c ?_⟩⟩;rw[show((l.length:Int)).toNat=l.length from by omega,List.take_length];exact hc
abbrev N3 (x y:Ab):Bool:=BI x.fAt y.fAt x.fID y.fID
abbrev EO (x y:Aa):Bool:=N3 x.fTimer y.fTimer
theorem N1:Nw EO:=Lm (λx:Aa=>x.fTimer.fAt) (λx=>x.fTimer.fID)
structure Nv (t:Ab):Prop where
 body:Kv 5000 t.fBody
 id:t.fID.length≤300
 ten:t.fTenant.length≤300
 src:t.fSource.length≤300
 len:t.fBody.length≤300
structure TI (ts:List Aa):Prop where
 srt:ts.Pairwise λa b=>EO a b=true
 ids:ts.Pairwise λa b=>a.fTimer.fID≠b.fTimer.fID
 len:ts.length≤256
 sm:∀x∈ts,Nv x.fTimer
structure IF (m:List (Aj×Aa)) (ts:List Aa):Prop where
 ms:Ms m
 pm:m.Perm (ts.map λx=>(x.fTimer.fID,x))
 ti:TI ts
def On (x:Aa)(now:Int):Aa:=⟨x.fTimer,x.fTold||decide (x.fTimer.fAt≤now)⟩
def My (ts:List Aa)(id:Aj):Bool:=ts.any λx=>decide (x.fTimer.fID=id)
def ME (ts:List Aa)(id:Aj):Bool:=ts.any λx=>decide (x.fTimer.fID=id)&&x.fTold
def NK (ts:List Aa)(id:Aj):List Aa:=ts.filter λx=>!decide (x.fTimer.fID=id)
def JD (ts:List Aa):List Ab:=ts.map (·.fTimer)
theorem TI.nil:TI []:=⟨List.Pairwise.nil,List.Pairwise.nil,by decide,λ_ h=>by cases h⟩
theorem IF.nil:IF [] []:=⟨Ms.nil,O6 _,TI.nil⟩
theorem IF.len {m:List (Aj×Aa)}{ts:List Aa}(h:IF m ts):m.length=ts.length:=by rw[h.pm.length_eq,OA]
theorem IF.mem {m:List (Aj×Aa)}{ts:List Aa}(h:IF m ts){p:Aj×Aa}(hp:p∈m):p.2∈ts∧p.1=p.2.fTimer.fID:=by
 obtain⟨x,hx,rfl⟩:=List.mem_map.1 (h.pm.subset hp);exact⟨hx,rfl⟩
theorem IF.get {m:List (Aj×Aa)}{ts:List Aa}(h:IF m ts)(id:Aj):(B8 m id=none∧My ts id=false∧ME ts id=false)∨∃x,B8 m id=some x∧x∈ts∧x.fTimer.fID=id∧My ts id=true∧ME ts id=x.fTold:=by
 cases hg:B8 m id with
 | none=>
  have hn:∀x∈ts,¬ x.fTimer.fID=id:=λx hx=>H5.1 hg _ (h.pm.symm.subset (List.mem_map.2 ⟨x,hx,rfl⟩));refine .inl ⟨rfl,List.any_eq_false.2 λx hx=>by simp[hn x hx],List.any_eq_false.2 λx hx=>by simp[hn x hx]⟩
 | some x=>
  obtain⟨hx,hid⟩:=h.mem (GO hg);simp only at hx hid;refine .inr ⟨x,rfl,hx,hid.symm,List.any_eq_true.2 ⟨x,hx,by simp[hid]⟩,?_⟩
  cases ht:x.fTold with
  | true=>exact List.any_eq_true.2 ⟨x,hx,by simp[hid,ht]⟩
  | false=>
   refine List.any_eq_false.2 λy hy=>?_
   by_cases e:y.fTimer.fID=id
   ·have:y=x:=by
     have h1:B8 m id=some y:=G6 h.ms.nodup (h.pm.symm.subset (List.mem_map.2 ⟨y,hy,by rw[e]⟩));rw[hg] at h1;exact(Option.some.inj h1).symm
    subst this;simp[ht]
   ·simp[e]
theorem TI.del {ts:List Aa}(h:TI ts)(id:Aj):TI (NK ts id):=⟨h.srt.sublist (List.filter_sublist ..),h.ids.sublist (List.filter_sublist ..),Nat.le_trans (List.length_filter_le ..) h.len,λx hx=>h.sm x (List.mem_filter.1 hx).1⟩
theorem IF.del {m:List (Aj×Aa)}{ts:List Aa}(h:IF m ts)(id:Aj):IF (mdel m id) (NK ts id):=by
 refine⟨h.ms.mdel id,?_,h.ti.del id⟩;have:=h.pm.filter λp=>!decide (p.1=id);rw[List.filter_map] at this;exact this
theorem TI.ins {ts:List Aa}(h:TI ts){t:Ab}(ht:Nv t)(hn:My ts t.fID=false)(hl:ts.length<256)(b:Bool):TI (Hz EO ⟨t,b⟩ ts):=by
 have hp:=Db EO ⟨t,b⟩ ts;have hne:∀x∈ts,¬ x.fTimer.fID=t.fID:=λx hx e=>by
  have:=List.any_eq_false.1 hn x hx;simp[e] at this
 have hids:(Hz EO ⟨t,b⟩ ts).Pairwise λa b=>a.fTimer.fID≠b.fTimer.fID:=
  (hp.pairwise_iff (fun {x y} h e=>h e.symm)).2 (List.pairwise_cons.2 ⟨λx hx e=>hne x hx e.symm,h.ids⟩)
 have hs:=Dz N1 ⟨t,b⟩ (h.srt.imp λh=>N1.asym _ _ h);refine⟨?_,hids,by rw[hp.length_eq];exact hl,λx hx=>?_⟩
 ·refine(hs.and hids).imp fun {x y} h=>?_
  cases h1:EO x y with
  | true=>rfl
  | false=>exact absurd (Ir h1 h.1).2 h.2
 ·rcases List.mem_cons.1 (hp.subset hx) with e | h1
  ·rw[e];exact ht
  ·exact h.sm x h1
theorem IF.ins {m:List (Aj×Aa)}{ts:List Aa}(h:IF m ts){t:Ab}(ht:Nv t)(hn:My ts t.fID=false)(hl:ts.length<256):IF (mset m t.fID ⟨t,false⟩) (Hz EO ⟨t,false⟩ ts):=by
 have hg:B8 m t.fID=none:=by
  rcases h.get t.fID with h1 | ⟨x,_,_,_,h1,_⟩
  ·exact h1.1
  ·rw[hn] at h1;cases h1
 refine⟨h.ms.mset _ _,?_,h.ti.ins ht hn hl false⟩;have e:mset m t.fID ⟨t,false⟩=mins t.fID ⟨t,false⟩ m:=by
  unfold mset CD;rw[hg];rfl
 rw[e];refine(EA _ _ m).trans ((h.pm.cons _).trans ?_);exact((Db EO ⟨t,false⟩ ts).map λx=>(x.fTimer.fID,x)).symm
theorem IF.keysOk {m:List (Aj×Aa)}{ts:List Aa}(h:IF m ts):keysOk m=true:=by
 unfold Go.Proofs.YtkoiaconljdbeaaDoor.keysOk;simp only[OB,O5,OL];have hl:=h.len;have h2:=h.ti.len;refine⟨by omega,λp hp=>?_⟩;obtain⟨h3,h4⟩:=h.mem hp;rw[h4];have:=(h.ti.sm _ h3).id;unfold LA;simp;omega
def NU (v:List Ac):Prop:=∀c∈v,Cs .i64 c.fInt=true∧c.fN≤9223372036854775807
theorem KP {F:Nat}(hF:5000<F){t:Ab}(ho:NU t.fBody):∃b,G2 F t=some b∧(b=true→Nv t):=by
 unfold G2
 cases hA:((decide (300<(t.fID.length:Int)))||((decide (300<(t.fTenant.length:Int)))||((decide (300<(t.fSource.length:Int)))||(decide (300<(t.fBody.length:Int)))))) with
 | true=>exact⟨false,Bz rfl,λh=>by cases h⟩
 | false=>
  simp only[Bool.or_eq_false_iff,O4] at hA;obtain⟨a1,a2,a3,a4⟩:=hA;rw[Bu rfl];obtain⟨o,h1,h2⟩:=Ex t.fBody (λc=>c.fStr.length≤5000) (λq=>q=false) () (λσ=>BN t σ) (λx c h0 hx hc hat=>by
   have e:BN t x=BA (decide (5000<(c.fStr.length:Int))) (some (.out (.ret false))) (some (.next (x+1))):=by
    unfold BN;rw[Bz (OW hx),C5 h0 hx,hat,Bo (by omega) (by omega)]
   cases hL:decide (5000<(c.fStr.length:Int)) with
   | false=>exact .inl ⟨e.trans (Bu hL),by simp at hL;omega⟩
   | true=>exact .inr ⟨false,e.trans (Bz hL),rfl⟩) (by
   show BN t _=_;unfold BN;rw[Bu (OT (by omega))]) (F:=F) (by omega)
  rw[Ct h1];rcases h2 with⟨q,rfl,rfl⟩ | ⟨rfl,h⟩
  ·exact⟨false,KT ..,λh=>by cases h⟩
  ·exact⟨true,by rw[Jy];rfl,λ_=>⟨⟨by decide,by omega,λc hc=>⟨h c hc,ho c hc⟩⟩,by omega,by omega,by omega,by omega⟩⟩
theorem Lr {F:Nat}(hF:5000<F){l:List AH}(ho:∀o∈l,NU o.fTimer.fBody):∃b,G9 F l=some b∧(b=true→l.length≤300∧∀o∈l,Nv o.fTimer):=by
 unfold G9
 cases hA:decide (300<(l.length:Int)) with
 | true=>exact⟨false,Bz rfl,λh=>by cases h⟩
 | false=>
  simp only[O4] at hA;rw[Bu rfl];obtain⟨o,h1,h2⟩:=Ex l (λc=>Nv c.fTimer) (λq=>q=false) () (λσ=>BO F l σ) (λx c h0 hx hc hat=>by
   obtain⟨b,hb,hs⟩:=KP hF (ho c hc);have e:BO F l x=BA (!b) (some (.out (.ret false))) (some (.next (x+1))):=by
    unfold BO;rw[Bz (OW hx),C5 h0 hx,hat,hb,Ct rfl,Bo (by omega) (by omega)]
   cases b with
   | true=>exact .inl ⟨e,hs rfl⟩
   | false=>exact .inr ⟨false,e,rfl⟩) (by
   show BO F l _=_;unfold BO;rw[Bu (OT (by omega))]) (F:=F) (by omega)
  rw[Ct h1];rcases h2 with⟨q,rfl,rfl⟩ | ⟨rfl,h⟩
  ·exact⟨false,KT ..,λh=>by cases h⟩
  ·exact⟨true,by rw[Jy];rfl,λ_=>⟨by omega,h⟩⟩
theorem Ic {F:Nat}{t:Ab}(hF:t.fBody.length<F)(hl:t.fBody.length≤100000):IS F t t=some true:=by
 unfold IS;rw[Bu (by simp)];obtain⟨o,h1,h2⟩:=Ex t.fBody (λ_=>True) (λ_=>False) () (λσ=>CO t t σ) (λx c h0 hx hc hat=>.inl ⟨by
  show CO t t x=_;unfold CO;rw[Bz (OW hx),C5 h0 hx,C5 h0 hx,Bu (by simp),Bo (by omega) (by omega)],trivial⟩) (by
  show CO t t _=_;unfold CO;rw[Bu (OT (by omega))]) hF
 rw[Ct h1];rcases h2 with⟨q,rfl,h⟩ | ⟨rfl,h⟩
 ·exact h.elim
 ·rw[Jy];rfl
theorem Ib {F:Nat}{l:List Ab}(hF:6000<F)(hl:l.length≤300)(hb:∀t∈l,t.fBody.length≤5000):IR F l l=some true:=by
 unfold IR;rw[Bu (by simp)];obtain⟨o,h1,h2⟩:=Ex l (λ_=>True) (λ_=>False) () (λσ=>CN F l l σ) (λx c h0 hx hc hat=>.inl ⟨by
  show CN F l l x=_;unfold CN;have:=hb c hc;rw[Bz (OW hx),C5 h0 hx,C5 h0 hx,hat,Ic (by omega) (by omega),Ct rfl,Bu (by rfl),Bo (by omega) (by omega)],trivial⟩) (by
  show CN F l l _=_;unfold CN;rw[Bu (OT (by omega))]) (F:=F) (by omega)
 rw[Ct h1];rcases h2 with⟨q,rfl,h⟩ | ⟨rfl,h⟩
 ·exact h.elim
 ·rw[Jy];rfl
theorem TI.llen {ts:List Aa}(h:TI ts):(JD ts).length≤256:=by unfold JD;rw[OA];exact h.len
theorem TI.lbody {ts:List Aa}(h:TI ts):∀t∈JD ts,t.fBody.length≤300:=λt ht=>by
 obtain⟨x,hx,rfl⟩:=List.mem_map.1 ht;exact(h.sm x hx).len
theorem TI.same {F:Nat}(hF:6000<F){ts:List Aa}(h:TI ts){l:List Ab}(hs:l.Sublist (JD ts)):IR F l l=some true:=
 Ib hF (by have:=hs.length_le;have:=h.llen;omega) λt ht=>Nat.le_trans (h.lbody t (hs.subset ht)) (by decide)
theorem Kh:GA 40000=some true:=by decide +kernel
end Go.Proofs.YtkoiaconljdbeaaDoor
namespace Go.Proofs.YtkoiaconljdbeaaDoor
open Go
set_option linter.unusedVariables false
theorem It (o:AH):E0 o=some true:=rfl
theorem H8 (o:AH):DE o=some true:=rfl
theorem Ls (o:AH)(ho:NU o.fTimer.fBody):Lt 40000 o=some true:=by
 obtain⟨b,hb,_⟩:=Lr (F:=40000) (by decide) (l:=[o]) (λx hx=>by rw[List.mem_singleton.1 hx];exact ho);unfold Lt;rw[hb,Ct rfl,Kh,It,Ct rfl,Ct rfl,H8,Ct rfl]
 cases b<;>rfl
end Go.Proofs.YtkoiaconljdbeaaDoor
namespace Go.Proofs.YtkoiaconljdbeaaDoor.lawTimerNil
open Go
set_option linter.unusedVariables false
theorem MX {o:AH}(h:La o=true):NU o.fTimer.fBody:=λc hc=>by
 unfold La at h;simp only[OB] at h;have h2:=h.2;unfold Md at h2;simp only[OB,OL] at h2;have h3:=h2.2.1 c hc;unfold KZ at h3;simp only[OB] at h3;exact⟨h3.1.1.2,(Gf h3.2).2⟩
theorem Or:O1:=λo h=>⟨40000,Ls o (MX h)⟩
end Go.Proofs.YtkoiaconljdbeaaDoor.lawTimerNil
