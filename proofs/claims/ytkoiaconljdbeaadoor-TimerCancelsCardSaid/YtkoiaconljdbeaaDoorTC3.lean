/-
  Texts of the proof, put together: WTb, PTc, WTc, PTd, WTd, OkTimerCancels, LvA, LvB, LvC, LvD, LvE, LvF, LvG, LvH, LvI, LvJ, LvK, LvL, LvM, LvN, LvO, LvP, PO, LmA, LmB, LmS, LmE, LwTimerCancels.
-/
import Derived.Test.YtkoiaconljdbeaaDoorTC2
import GoSem.ClaimData
namespace Go.Proofs.YtkoiaconljdbeaaDoor.Q
open Go Go.RowKit
set_option linter.unusedVariables false
set_option linter.unusedSimpArgs false
set_option maxRecDepth 100000
set_option maxHeartbeats 4000000
@[reducible] def CZ (x:Aa):List Rp:=[rS x.fTimer.fID,rI .i64 x.fTimer.fAt,rS x.fTimer.fTenant,rS x.fTimer.fSource,Bl 4 (List.map Af x.fTimer.fBody),rB x.fTold]
@[reducible] def Ah (x:Aa):Rp:=Ba (CZ x)
theorem Ck (Z:Fz):(Ah (Aa.mk (Ab.mk ([]:Ai) 0 ([]:Ai) ([]:Ai) ([]:(List Ac))) false)).p Z (.agg #[(.string ⟨#[]⟩),(.int .i64 0),(.string ⟨#[]⟩),(.string ⟨#[]⟩),(.slice none 0 0),(.bool false)]):=⟨[.string ⟨#[]⟩,.int .i64 0,.string ⟨#[]⟩,.string ⟨#[]⟩,.slice none 0 0,.bool false],rfl,rfl,rfl,rfl,rfl,JM.nil _ _,rfl,trivial⟩
theorem OG:∃inf,Tryd.prog.info? 33=some inf∧inf.zero=some (.agg #[(.string ⟨#[]⟩),(.int .i64 0),(.string ⟨#[]⟩),(.string ⟨#[]⟩),(.slice none 0 0)])∧inf.size=5∧inf.bytes=80:=by
  have key:(Tryd.prog.info? 33).map (λi=>(i.zero,i.size,i.bytes))=some (some (.agg #[(.string ⟨#[]⟩),(.int .i64 0),(.string ⟨#[]⟩),(.string ⟨#[]⟩),(.slice none 0 0)]),5,80):=by kernel_rfl
  obtain⟨inf,h1,h2⟩:=Option.map_eq_some_iff.1 key;simp only[Prod.mk.injEq] at h2;exact⟨inf,h1,h2.1,h2.2.1,h2.2.2⟩
theorem NS (parts:List (Nat×Value)):Tryd.prog.built 45 parts=Instr.fill (λi=>(#[(0,1)]:Array (Nat×Nat))[i]?) #[((.map none))] parts:=by kernel_rfl
theorem Jv {n:Nat}{c:Cx}{l:Fr}{H:List Ent}{d:Option Nat}{ty:TypeId}{pos:String}{af:Array Edge}{g:Option (Nat×Bool)}{x0:Operand}{r0:Rp}(h0:ev l x0=some r0)(u0:r0.one=true):AT Tryd.prog n c l H { dst:=d,op:=.build 45 #[(0,x0)],type:=ty,pos:=pos,after:=af,guard:=g } (Ba [r0]):=λa w Z ha _=>by
  have p0:=ha.ev h0;have c0:=Bq (r0.hone u0 Z _ p0);have hb:Tryd.prog.built 45 [(0,a.eval x0)]=some #[a.eval x0]:=by
    rw[NS];generalize a.eval x0=v0 at *;simp[Instr.fill,c0]
  refine⟨.agg #[a.eval x0],⟨[a.eval x0],rfl,p0,trivial⟩,?_⟩;have:=run_build w 45 #[(0,a.eval x0)] _ (by simpa using hb);simp[execOp,this]
theorem NR (parts:List (Nat×Value)):Tryd.prog.built 53 parts=Instr.fill (λi=>(#[(0,5),(5,1)]:Array (Nat×Nat))[i]?) #[(.string ⟨#[]⟩),(.int .i64 0),(.string ⟨#[]⟩),(.string ⟨#[]⟩),((.slice none 0 0)),(.bool false)] parts:=by kernel_rfl
theorem Ju {n:Nat}{c:Cx}{l:Fr}{H:List Ent}{d:Option Nat}{ty:TypeId}{pos:String}{af:Array Edge}{g:Option (Nat×Bool)}{x0:Operand}{r0_0 r0_1 r0_2 r0_3 r0_4:Rp}(h0:ev l x0=some (Ba [r0_0,r0_1,r0_2,r0_3,r0_4])):AT Tryd.prog n c l H { dst:=d,op:=.build 53 #[(0,x0)],type:=ty,pos:=pos,after:=af,guard:=g } (Ba [r0_0,r0_1,r0_2,r0_3,r0_4,rB false]):=λa w Z ha _=>by
  obtain⟨us0,e0,q0⟩:=ha.ev h0;obtain⟨y0_0,y0_1,y0_2,y0_3,y0_4,rfl,q0⟩:=A9.d5 q0;have hb:Tryd.prog.built 53 [(0,a.eval x0)]=some #[y0_0,y0_1,y0_2,y0_3,y0_4,(.bool false)]:=by
    rw[NR];simp[Instr.fill,e0,Value.cells]
  refine⟨.agg #[y0_0,y0_1,y0_2,y0_3,y0_4,(.bool false)],⟨[y0_0,y0_1,y0_2,y0_3,y0_4,(.bool false)],rfl,q0.1,q0.2.1,q0.2.2.1,q0.2.2.2.1,q0.2.2.2.2.1,rfl,trivial⟩,?_⟩;have:=run_build w 53 #[(0,a.eval x0)] _ (by simpa using hb);simp[execOp,this]
theorem Md  (r:Aq)(h:Me=some r):Fn Tryd.prog GE 17 [] [] (λR H=>∃u0:Nat,∃u0_0:Nat,R=rv (.pointer (some ⟨u0,0,none⟩))∧H=[.blk u0 [rv (.map (some u0_0))] 45,.map u0_0 (AI Ah r.fTimers)]):=by
 refine enter (n:=4) Tryd.func17 rfl Tryd.ntmps17 rfl (λw Z=>?_);refine Be (l':=[]) (H':=[]) rfl rfl ?_;unfold Me at h;refine At (wv (r:=rv (.pointer none)) (Am rfl) (C2 (KZ rfl (λb1=>?_))));refine wv (r:=Ba [rv (.map (some b1))]) (Jv rfl rfl) (Bz rfl rfl (λb2=>?_));refine wa rfl (A3 (A5 ?_));obtain rfl:=A8 h;exact A4 (B7 Tryd.results17 (AX rfl)) (sC (sC sN)) ⟨b2,b1,rfl,rfl⟩
theorem Gd (hb:Nat)(ha:Nat)(q:Aq)(r:Bool×Aq)(h:DN q=some r):Fn Tryd.prog GE 21 [rv (.pointer (some ⟨hb,0,none⟩))] [.blk hb [rv (.map (some ha))] 45,.map ha (AI Ah q.fTimers)] (λR H=>R=rB r.1∧H=[.blk hb [rv (.map (some ha))] 45,.map ha (AI Ah r.2.fTimers)]):=by
 refine enter (n:=12) Tryd.func21 rfl Tryd.ntmps21 rfl (λw Z=>?_);refine Be (l':=[(0,rv (.pointer (some ⟨hb,0,none⟩)))]) (H':=[.blk hb [rv (.map (some ha))] 45,.map ha (AI Ah q.fTimers)]) rfl rfl ?_;unfold DN at h;refine At (wv (r:=rB false) (Am rfl) (A3 (AH [(2,rB true)] [.blk hb [rv (.map (some ha))] 45,.map ha (AI Ah q.fTimers)] ?_ ?_)))
 ·refine Au (wm rfl (wv (r:=rB true) (Ii ⟨_,Nj⟩ rfl) (wm rfl (AF (b:=true) rfl rfl rfl (wm rfl (AF (b:=true) rfl rfl rfl (wv (Bt rfl) (AF (b:=true) rfl rfl rfl (wv (Ae Hj rfl Hk rfl rfl) (AF (b:=true) rfl rfl rfl (wv (Az (i:=0) Hl rfl rfl rfl) (AF (b:=true) rfl rfl rfl (wv (r:=rB true) (Lo (v:=some ha) HP rfl) (wv (r:=rB true) (Ap (b:=true) rfl rfl rfl) (wa rfl (Ar ?_))))))))))))))));exact wt
 refine A5 ?_;obtain rfl:=A8 h;exact A4 (B7 Tryd.results21 (AX rfl)) (sC (sC sN)) ⟨rfl,rfl⟩
theorem K3 (ha:Nat)(t:Ab)(now:Int)(r:Bool)(h:Hx t now=some r):Fn Tryd.prog GE 31 [Ba (Ad t),rv (.pointer (some ⟨ha,0,none⟩))] [.blk ha [rI .i64 now] 3] (λR H=>R=rB r∧H=[.blk ha [rI .i64 now] 3]):=by
 refine enter (n:=8) Tryd.func31 rfl Tryd.ntmps31 rfl (λw Z=>?_);refine Be (l':=[(0,Ba (Ad t)),(1,rv (.pointer (some ⟨ha,0,none⟩)))]) (H':=[.blk ha [rI .i64 now] 3]) rfl rfl ?_;unfold Hx at h;refine At (Bz rfl rfl (λb1=>?_));refine wv (r:=rB false) (Am rfl) (C2 (wv (Ae BD rfl CV rfl rfl) (wv (Az (i:=0) Dr rfl rfl rfl) (wv (Az (i:=1) Dr rfl rfl rfl) (wv (DE rfl rfl) (wa rfl (A3 (A5 ?_))))))));obtain rfl:=A8 h;exact A4 (B7 Tryd.results31 (AX rfl)) (sS (sC sN)) ⟨rfl,rfl⟩
theorem J7 (F:Nat)(ha:Value)(hb:Nat)(ys:(List Ab))(now:Int)(r:Int)(h:D5 F ys now=some r):Fn Tryd.prog GE 42 [rv ha,rv (.func (.func 31) #[] #[(.pointer (some ⟨hb,0,none⟩))])] [.row ha 33 5 (List.map Ad ys),.blk hb [rI .i64 now] 3] (λR H=>R=rI .i64 r∧H=[.row ha 33 5 (List.map Ad ys),.blk hb [rI .i64 now] 3]):=by
 refine enter (n:=19) Tryd.func42 rfl Tryd.ntmps42 rfl (λw Z=>?_);refine Be (l':=[(0,rv ha),(1,rv (.func (.func 31) #[] #[(.pointer (some ⟨hb,0,none⟩))]))]) (H':=[.row ha 33 5 (List.map Ad ys),.blk hb [rI .i64 now] 3]) rfl rfl ?_;unfold D5 at h;refine At (wv (r:=rI .i64 0) (Am rfl) (A3 (Ay (At (wm rfl (wv (BI (ys:=ys) (enc:=Ad) (i:=0) Dc rfl rfl) (wv (r:=rI .i64 0) (Aw rfl) (A3 (AP ?_)))))))));obtain⟨hn,ho,hj⟩:=AL h;refine BF (S:=Nat×(Int)×(Unit)) (V:=(Unit)×(Unit)) 0 (λσ=>Dm (λσ=>B2 ys now σ) σ.1 σ.2.1=some hn) (λσ=>[(0,rv ha),(1,rv (.func (.func 31) #[] #[(.pointer (some ⟨hb,0,none⟩))])),(4,rI .i64 0),(7,rI .i64 (ys.length:Int)),(8,rI .i64 σ.2.1)]) (λσ=>[.row ha 33 5 (List.map Ad ys),.blk hb [rI .i64 now] 3]) (λσ=>σ.1) (F,0,()) ho (AJ.c5 rfl rfl rfl rfl rfl AJ.nil) (sC (sC sN)) (λσ=>CX =some r) (λσ=>[(4,rI .i64 0)]) (λσ=>[.row ha 33 5 (List.map Ad ys),.blk hb [rI .i64 now] 3]) ?_ ?_
 ·rintro⟨h4,hd,⟨⟩⟩ hp;refine Be (l':=[(0,rv ha),(1,rv (.func (.func 31) #[] #[(.pointer (some ⟨hb,0,none⟩))])),(4,rI .i64 0),(7,rI .i64 (ys.length:Int)),(8,rI .i64 hd)]) (H':=[.row ha 33 5 (List.map Ad ys),.blk hb [rI .i64 now] 3]) rfl rfl ?_;obtain⟨hq,rfl,hr,he,hg⟩:=Ei hp;replace he:B2 ys now hd=some hr:=he;unfold B2 at he;refine At (wv (G1 rfl rfl) (A3 (Ay (A7 (b:=decide (hd<(ys.length:Int))) rfl (λhh=>?_) (λhh=>?_)))))
  ·have hs:=AN hh he;refine AD (Bb (Ay (AP (At (wm rfl (wa rfl (C2 (wm rfl (wm rfl (wm rfl ?_))))))))));obtain⟨hk,ht⟩:=AM hs;refine wv (r:=rv (Cz 5 ha (Int.toNat hd) 0)) (Di (i:=0) Dc BE rfl rfl rfl (AU hk)) (wv (r:=Ba (Ad (Ao ys hd))) (KD (enc:=Ad) (ys:=ys) (i:=0) (j:=hd) DX BE rfl rfl hk rfl rfl) ?_);obtain⟨hl,hu,hm⟩:=AL ht;refine Kx (rs:=[Ba (Ad (Ao ys hd))]) (Hin:=[.blk hb [rI .i64 now] 3]) (Hr:=[.row ha 33 5 (List.map Ad ys)]) Tryd.call31 rfl rfl ((Ax (i:=1) rfl).trans (Qb _ (PY _))) (K3 hb (Ao ys hd) now hl hu) rfl ?_;rintro _ _ ⟨rfl,rfl⟩;refine A3 (A7 (b:=hl) rfl (λhi=>?_) (λhi=>?_))
   ·have hw:=AN hi hm;refine At (wm rfl (wa rfl (A3 (A5 (AB (Ak (Ak (Bv ?_))))))));have hx:=C5 hw hg hj;refine AB (Ak (Et (H2:=[.row ha 33 5 (List.map Ad ys),.blk hb [rI .i64 now] 3]) ((Ax (i:=1) rfl).trans (Qb _ (PY _))) ?_));obtain rfl:=A8 hx;exact A4 (B7 Tryd.results42 (AX rfl)) (sC (sC sN)) ⟨rfl,rfl⟩
   ·have hy:=AO hi hm;refine AD (AV (Bb (Au ?_)));obtain⟨hz,h0⟩:=AM hy;refine wv (Cf rfl rfl hz) (wm rfl (Ar (Et (H2:=[.row ha 33 5 (List.map Ad ys),.blk hb [rI .i64 now] 3]) ((Ax (i:=1) rfl).trans (Qb _ (PY _))) ?_)));have h1:=BG h0 hg;exact A0 (AK (hq,hd+1,()) ⟨h1,Q0 _⟩ (AJ.c5 rfl rfl rfl rfl rfl AJ.nil) (sC (sC sN)))
  ·have h2:=AO hh he;refine B0 (AC ?_);have h3:=Dg h2 hg hj;exact AC (Bs (AK ((),()) h3 (AJ.c rfl AJ.nil) (sC (sC sN))))
 ·rintro⟨⟨⟩,⟨⟩⟩ hf;refine DL (l':=[(4,rI .i64 0)]) (H':=[.row ha 33 5 (List.map Ad ys),.blk hb [rI .i64 now] 3]) rfl rfl ?_;replace hf:CX =some r:=hf;unfold CX at hf;refine Bk (Bb (At (wv (r:=rI .i64 (-1)) (Am rfl) (A3 (A5 ?_)))));obtain rfl:=A8 hf;exact A4 (B7 Tryd.results42 (AX rfl)) (sC (sC sN)) ⟨rfl,rfl⟩
theorem IJ (F:Nat)(hd:Value)(he:Nat)(ys:(List Ab))(now:Int)(r:(List Ab))(h:Dl F ys now=some r):Fn Tryd.prog GE 30 [rv hd,rv (.func (.func 31) #[] #[(.pointer (some ⟨he,0,none⟩))])] [.row hd 33 5 (List.map Ad ys),.blk he [rI .i64 now] 3] (λR H=>∃u0:Value,R=rv u0∧H=[.row u0 33 5 (List.map Ad r),.blk he [rI .i64 now] 3]):=by
 refine enter (n:=42) Tryd.func30 rfl Tryd.ntmps30 rfl (λw Z=>?_);refine Be (l':=[(0,rv hd),(1,rv (.func (.func 31) #[] #[(.pointer (some ⟨he,0,none⟩))]))]) (H':=[.row hd 33 5 (List.map Ad ys),.blk he [rI .i64 now] 3]) rfl rfl ?_;unfold Dl at h;refine At (wv (r:=rv (.slice none 0 0)) (Am rfl) (C2 (wm rfl (wm rfl ?_))));obtain⟨r1,e3,h2⟩:=AL h;refine DS (Hr:=[]) Tryd.call42 (J7 F hd he ys now r1 e3) rfl (PY _) rfl ?_;rintro _ _ ⟨rfl,rfl⟩;refine wa rfl (A3 (Ay (At (wm rfl (wv (Bw rfl rfl) (A3 (A7 (b:=decide (r1=(-1))) rfl (λc4=>?_) (λc4=>?_))))))))
 ·have h5:=AN c4 h2;refine At (wm rfl (wa rfl (A3 (A5 (Ak ?_)))));obtain rfl:=A8 h5;exact A4 (B7 Tryd.results30 (AX rfl)) (sC (sC sN)) ⟨hd,rfl,rfl⟩
 ·have h6:=AO c4 h2;refine AD (Bb (Ay (At (wm rfl ?_))));obtain⟨g7,h8⟩:=AM h6;refine wv (Cf rfl rfl g7) (wa rfl (A3 (AP ?_)));obtain⟨h0,h1,h3⟩:=AL h8;refine BF (S:=Nat×(Int×Int×(List Ab))×(Unit)) (V:=(Int×(List Ab))×(Unit)) 0 (λσ=>Dm (λσ=>Bu now σ.1 σ.2.1 σ.2.2) σ.1 σ.2.1=some h0) (λσ=>[(0,rv hd),(1,rv (.func (.func 31) #[] #[(.pointer (some ⟨he,0,none⟩))])),(4,rv (.slice none 0 0)),(5,rI .i64 σ.2.1.1),(6,rI .i64 σ.2.1.2.1)]) (λσ=>[.row hd 33 5 (List.map Ad σ.2.1.2.2),.blk he [rI .i64 now] 3]) (λσ=>σ.1) (F,(r1,r1+1,ys),()) h1 (AJ.c5 rfl rfl rfl rfl rfl AJ.nil) (sC (sC sN)) (λσ=>Cg σ.1.1 σ.1.2=some r) (λσ=>[(0,rv hd),(4,rv (.slice none 0 0)),(5,rI .i64 σ.1.1)]) (λσ=>[.row hd 33 5 (List.map Ad σ.1.2),.blk he [rI .i64 now] 3]) ?_ ?_
  ·rintro⟨hV,⟨hf,ha,hb⟩,⟨⟩⟩ h4;refine Be (l':=[(0,rv hd),(1,rv (.func (.func 31) #[] #[(.pointer (some ⟨he,0,none⟩))])),(4,rv (.slice none 0 0)),(5,rI .i64 hf),(6,rI .i64 ha)]) (H':=[.row hd 33 5 (List.map Ad hb),.blk he [rI .i64 now] 3]) rfl rfl ?_;obtain⟨h7,rfl,hn,hh,hs⟩:=Ei h4;replace hh:Bu now hf ha hb=some hn:=hh;unfold Bu at hh;refine Ay (At (wm rfl (wm rfl (wv (BI (ys:=hb) (enc:=Ad) (i:=0) Dc rfl rfl) (wv (G1 rfl rfl) (A3 (A7 (b:=decide (ha<(hb.length:Int))) rfl (λho=>?_) (λho=>?_))))))))
   ·have h9:=AN ho hh;refine AD (Bb (Cm (S:=(Int×Bool×Bool×(List Ab))×(Unit)) (λσ=>B5 ha σ.1.1 σ.1.2.1 σ.1.2.2.1 σ.1.2.2.2=some hn) (λσ=>[(0,rv hd),(1,rv (.func (.func 31) #[] #[(.pointer (some ⟨he,0,none⟩))])),(4,rv (.slice none 0 0)),(5,rI .i64 σ.1.1),(6,rI .i64 ha),(16,rI .i64 ha),(17,rv hd),(18,rI .i64 (hb.length:Int)),(19,rB (decide (ha<(hb.length:Int)))),(22,rv hd),(23,rI .i64 ha),(25,Ba (Ad (Ao hb ha))),(26,rv (.func (.func 31) #[] #[(.pointer (some ⟨he,0,none⟩))])),(27,Ba (Ad (Ao hb ha))),(28,rB σ.1.2.1),(29,rB σ.1.2.2.1)]) (λσ=>[.blk he [rI .i64 now] 3,.row hd 33 5 (List.map Ad σ.1.2.2.2)]) ?_ ?_))
    ·refine AP (At (wm rfl (wm rfl ?_)));obtain⟨ht,hA⟩:=AM h9;refine wv (r:=rv (Cz 5 hd (Int.toNat ha) 0)) (Di (i:=0) Dc BE rfl rfl rfl (AU ht)) (wv (r:=Ba (Ad (Ao hb ha))) (KD (enc:=Ad) (ys:=hb) (i:=0) (j:=ha) DX BE rfl rfl ht rfl rfl) (C4 (cs:=[rS ([]:Ai),rI .i64 0,rS ([]:Ai),rS ([]:Ai),rv (.slice none 0 0)]) LN rfl rfl (λhp=>?_)));refine B1 (i:=0) BE rfl rfl rfl (Bx.c rfl) rfl rfl (cs':=[rS ((Ao hb ha).fID),rI .i64 ((Ao hb ha).fAt),rS ((Ao hb ha).fTenant),rS ((Ao hb ha).fSource),Bl 4 (List.map Af ((Ao hb ha).fBody))]) rfl (H':=[.blk hp (Ad (Ao hb ha)) 33,.row hd 33 5 (List.map Ad hb),.blk he [rI .i64 now] 3]) rfl (C2 (wm rfl (wv (Bc (i:=0) DX BE rfl rfl rfl rfl) ?_)));obtain⟨hg,hB,hu⟩:=AL hA;refine Kx (rs:=[Ba (Ad (Ao hb ha))]) (Hin:=[.blk he [rI .i64 now] 3]) (Hr:=[.blk hp (Ad (Ao hb ha)) 33,.row hd 33 5 (List.map Ad hb)]) Tryd.call31 rfl rfl ((Ax (i:=2) rfl).trans (Qb _ (PY _))) (K3 he (Ao hb ha) now hg hB) rfl ?_;rintro _ _ ⟨rfl,rfl⟩;refine wv (BQ rfl) (A3 (A7 (b:=!hg) rfl (λhq=>?_) (λhq=>?_)))
     ·have hC:=AN hq hu;refine At (wm rfl (wm rfl (wv (Bc (i:=1) DX BE rfl rfl rfl rfl) ?_)));obtain⟨hw,hD⟩:=AM hC;refine wv (r:=rv (Cz 5 hd (Int.toNat hf) 0)) (Di (i:=2) Dc BE rfl rfl rfl (AU hw)) (Nr (enc:=Ad) (ys:=hb) (y':=(Ao hb ha)) (i:=2) (j:=hf) BE rfl rfl (Bx.c rfl) rfl hw rfl rfl rfl (H':=[.blk he [rI .i64 now] 3,.blk hp (Ad (Ao hb ha)) 33,.row hd 33 5 (List.map Ad (List.set hb (Int.toNat hf) (Ao hb ha)))]) rfl ?_);obtain⟨hE,hG,hH⟩:=Iv hD;rw[← hG];refine A3 (Au (wm rfl ?_));obtain⟨hI,hJ⟩:=AM hH;exact wv (Cf rfl rfl hI) (wa rfl (Ar (AV (A0 (AK ((hf+1,hg,!hg,hE),()) hJ (AJ.c rfl (AJ.c5 rfl rfl rfl rfl rfl (AJ.c5 rfl rfl rfl rfl rfl (AJ.c5 rfl rfl rfl rfl rfl AJ.nil)))) (sC (sS (sC sN))))))))
     ·have hK:=AO hq hu;exact AD (AV (A0 (AK ((hf,hg,!hg,hb),()) hK (AJ.c rfl (AJ.c5 rfl rfl rfl rfl rfl (AJ.c5 rfl rfl rfl rfl rfl (AJ.c5 rfl rfl rfl rfl rfl AJ.nil)))) (sC (sS (sC sN))))))
    ·rintro⟨⟨hr,hx,hy,hk⟩,⟨⟩⟩ hl;refine Be (l':=[(0,rv hd),(1,rv (.func (.func 31) #[] #[(.pointer (some ⟨he,0,none⟩))])),(4,rv (.slice none 0 0)),(5,rI .i64 hr),(6,rI .i64 ha),(16,rI .i64 ha),(17,rv hd),(18,rI .i64 (hb.length:Int)),(19,rB (decide (ha<(hb.length:Int)))),(22,rv hd),(23,rI .i64 ha),(25,Ba (Ad (Ao hb ha))),(26,rv (.func (.func 31) #[] #[(.pointer (some ⟨he,0,none⟩))])),(27,Ba (Ad (Ao hb ha))),(28,rB hx),(29,rB hy)]) (H':=[.blk he [rI .i64 now] 3,.row hd 33 5 (List.map Ad hk)]) rfl rfl ?_;replace hl:B5 ha hr hx hy hk=some hn:=hl;unfold B5 at hl;refine Au (wm rfl ?_);obtain⟨hL,hN⟩:=AM hl;refine wv (Cf rfl rfl hL) (wa rfl (Ar (Et (H2:=[.row hd 33 5 (List.map Ad hk),.blk he [rI .i64 now] 3]) ((Ax (i:=1) rfl).trans (Qb _ (PY _))) ?_)));have hO:=BG hN hs;exact A0 (AK (h7,(hr,ha+1,hk),()) ⟨hO,Q0 _⟩ (AJ.c5 rfl rfl rfl rfl rfl AJ.nil) (sC (sC sN)))
   ·have hP:=AO ho hh;refine B0 (AC ?_);have hQ:=Dg hP hs h3;exact AC (Bs (AK ((hf,hb),()) hQ (AJ.c rfl (AJ.c rfl (AJ.c rfl AJ.nil))) (sC (sC sN))))
  ·rintro⟨⟨hi,hj⟩,⟨⟩⟩ hm;refine DL (l':=[(0,rv hd),(4,rv (.slice none 0 0)),(5,rI .i64 hi)]) (H':=[.row hd 33 5 (List.map Ad hj),.blk he [rI .i64 now] 3]) rfl rfl ?_;replace hm:Cg hi hj=some r:=hm;unfold Cg at hm;refine Bk (Bb (At (wm rfl (wm rfl ?_))));obtain⟨hz,hR⟩:=AM hm;refine wv (r:=rv (Hz 5 hd (Int.toNat hi))) (O9 (i:=0) Dc BE rfl rfl rfl hz) (I3 (ys:=hj) (enc:=Ad) (i:=0) (z0:=Ab.mk ([]:Ai) 0 ([]:Ai) ([]:Ai) ([]:(List Ac))) Dc LN rfl rfl rfl (by decide) (λZ=>⟨rfl,rfl,rfl,rfl,JM.nil _ _,trivial⟩) rfl rfl rfl hz (H':=[.row hd 33 5 (List.map Ad (List.take (Int.toNat hi) hj++List.replicate (hj.length-Int.toNat hi) (Ab.mk ([]:Ai) 0 ([]:Ai) ([]:Ai) ([]:(List Ac))))),.blk he [rI .i64 now] 3]) rfl (C2 (wm rfl (wm rfl ?_))));obtain⟨hS,hT⟩:=AM hR;refine Og (i:=0) Dc BE rfl rfl rfl hS rfl (λhU=>?_);refine wa rfl (A3 (A5 ?_));obtain rfl:=A8 hT;exact A4 (B7 Tryd.results30 (AX rfl)) (sC (sC sN)) ⟨hU,rfl,rfl⟩
theorem Ev (hb:Nat)(ha:Nat)(q:Aq)(r:(List Ab)×Aq)(h:EA q=some r):Fn Tryd.prog GE 9 [rv (.pointer (some ⟨hb,0,none⟩))] [.blk hb [rv (.map (some ha))] 45,.map ha (AI Ah q.fTimers)] (λR H=>∃u0:Value,R=rv u0∧H=[.row u0 33 5 (List.map Ad r.1),.blk hb [rv (.map (some ha))] 45,.map ha (AI Ah r.2.fTimers)]):=by
 refine enter (n:=27) Tryd.func9 rfl Tryd.ntmps9 rfl (λw Z=>?_);refine Be (l':=[(0,rv (.pointer (some ⟨hb,0,none⟩)))]) (H':=[.blk hb [rv (.map (some ha))] 45,.map ha (AI Ah q.fTimers)]) rfl rfl ?_;unfold EA at h;refine At (wv (r:=rv (.slice none 0 0)) (Am rfl) (A3 (Ay (At (wm rfl ?_)))));obtain⟨r1,e3,h2⟩:=AL h;refine DS (Hr:=[]) LR (Gd hb ha q r1 e3) rfl (PY _) rfl ?_;rintro _ _ ⟨rfl,rfl⟩;refine wv (BQ rfl) (A3 (A7 (b:=!r1.1) rfl (λc4=>?_) (λc4=>?_)))
 ·have h5:=AN c4 h2;refine At (wv (r:=rv (.slice none 0 0)) (Am rfl) (A3 (A5 (Ak (WK.nilrow (e:=33) (sz:=5) ?_)))));obtain rfl:=A8 h5;exact A4 (B7 Tryd.results9 (AX rfl)) (sC (sC (sC sN))) ⟨(.slice none 0 0                                 ),rfl,rfl⟩
 ·have h6:=AO c4 h2;refine AD (Bb (At (wv (r:=rv (.slice none 0 0)) (Am rfl) (A3 (Ay (At (wm rfl (wv (Bt rfl) (wv (Ae Hj rfl Hk rfl rfl) (wv (Az (i:=0) Hl rfl rfl rfl) (Nn (i:=1) HP rfl rfl rfl (λb7=>?_))))))))))));refine A3 (AP (WC.nilrow (e:=33) (sz:=5) (Kw (H2:=[.blk hb [rv (.map (some ha))] 45,.mit ha b7 (AI Ah r1.2.fTimers) (AI Ah r1.2.fTimers) none,.row (.slice none 0 0                                 ) 33 5 (List.map Ad ([]:List Ab))]) ((Ax (i:=1) rfl).trans (Qb _ ((Ax (i:=1) rfl).trans (Qb _ (PY _))))) ?_)));have hr:=MB h6;refine BF (S:=(List (Ai×Aa))×((List Ab))×(Value)) (V:=((List Ab))×(Value)) 0 (λσ=>∀q:List (Ai×Aa),q.Perm σ.1→B9 (KI (λp τ=>Df p.1 p.2 τ) q σ.2.1) (C7 λν=>De r1 ν)=some r) (λσ=>[(2,rv (.slice none 0 0)),(3,rv σ.2.2),(13,rv (.pointer (some ⟨b7,0,none⟩)))]) (λσ=>[.blk hb [rv (.map (some ha))] 45,.mit ha b7 (AI Ah r1.2.fTimers) (AI Ah σ.1) none,.row σ.2.2 33 5 (List.map Ad σ.2.1)]) (λσ=>σ.1.length) (r1.2.fTimers,([]:List Ab),(.slice none 0 0                                 )) hr (AJ.c rfl (AJ.c rfl (AJ.c rfl AJ.nil))) (sC (sC (sC sN))) (λσ=>De r1 σ.1=some r) (λσ=>[(2,rv (.slice none 0 0)),(3,rv σ.2),(13,rv (.pointer (some ⟨b7,0,none⟩)))]) (λσ=>[.blk hb [rv (.map (some ha))] 45,.map ha (AI Ah r1.2.fTimers),.row σ.2 33 5 (List.map Ad σ.1)]) ?_ ?_
  ·rintro⟨hm,hf,hg⟩ hn;refine Be (l':=[(2,rv (.slice none 0 0)),(3,rv hg),(13,rv (.pointer (some ⟨b7,0,none⟩)))]) (H':=[.blk hb [rv (.map (some ha))] 45,.mit ha b7 (AI Ah r1.2.fTimers) (AI Ah hm) none,.row hg 33 5 (List.map Ad hf)]) rfl rfl (At (Oz (enc:=Ah) (ys:=hm) (i:=1) rfl rfl rfl (λhy=>?_) (λp hh ho=>?_)))
   ·have hs:De r1 hf=some r:=NG hn hy;exact wv (Bh rfl rfl) (A3 (Ay (CD rfl rfl (B0 (AC (WK.unmit (i:=1) rfl (AC (Bs (AK (hf,hg) hs (AJ.c rfl (AJ.c rfl (AJ.c rfl AJ.nil))) (sC (sC (sC sN))))))))))))
   ·obtain⟨hi,hd⟩:=p;obtain⟨ht,hj,hu⟩:=Pd hn ho;replace hj:Df hi hd hf=some ht:=hj;unfold Df at hj;refine Ox (H':=[.blk hb [rv (.map (some ha))] 45,.mit ha b7 (AI Ah r1.2.fTimers) (AI Ah hh) (some (hi,Ah hd)),.row hg 33 5 (List.map Ad hf)]) rfl (wv (Bh rfl rfl) (A3 (Ay (Dx rfl rfl (AD (Bb (AP (At (wv (r:=EP [rS hi,Ba (CZ hd)]) (ND (i:=1) rfl rfl) (wv (Bh rfl rfl) (C4 (cs:=[rS ([]:Ai),rI .i64 0,rS ([]:Ai),rS ([]:Ai),rv (.slice none 0 0),rB false]) IV rfl rfl (λhp=>?_))))))))))));refine B1 (i:=0) LO rfl rfl rfl (Bx.c rfl) rfl rfl (cs':=[rS hd.fTimer.fID,rI .i64 hd.fTimer.fAt,rS hd.fTimer.fTenant,rS hd.fTimer.fSource,Bl 4 (List.map Af hd.fTimer.fBody),rB hd.fTold]) rfl (H':=[.blk hp (CZ hd) 53,.blk hb [rv (.map (some ha))] 45,.mit ha b7 (AI Ah r1.2.fTimers) (AI Ah hh) (some (hi,Ah hd)),.row hg 33 5 (List.map Ad hf)]) rfl (A3 (Au (wm rfl (wv (Ae KX rfl BE rfl rfl) (wv (Bc (i:=0) DX BE rfl rfl rfl rfl) ?_)))));obtain⟨he,hw,hx⟩:=AL hj;refine GX Tryd.call22 (Mb hd.fTimer he hw) rfl (C3 (ys:=([he]:List Ab)) (enc:=Ad) (css:=[[rS he.fID,rI .i64 he.fAt,rS he.fTenant,rS he.fSource,Bl 4 (List.map Af he.fBody)]]) (xs:=[.tmp 21]) Dc BE LN rfl rfl rfl ⟨Or.agg ⟨Up.refl _,Up.refl _,Up.refl _,Up.refl _,Up.refl _,trivial⟩,trivial⟩ rfl Em rfl rfl rfl (λhz=>?_));obtain⟨h0,h1⟩:=AM hx;obtain⟨inf,hinf⟩:=OG;refine EZ (xs:=hf) (ys:=([he]:List Ab)) (enc:=Ad) (i:=4) Dc hinf.1 hinf.2.1 hinf.2.2.1 hinf.2.2.2 rfl rfl rfl rfl rfl (Ng.w (i:=0) rfl rfl) Em El h0 rfl (λhq=>?_);refine wa rfl (Ar (AV (WK.uncur (i:=4) rfl (Et (H2:=[.blk hb [rv (.map (some ha))] 45,.mit ha b7 (AI Ah r1.2.fTimers) (AI Ah hh) none,.row hq 33 5 (List.map Ad (hf++([he]:List Ab))),.row (.slice (some ⟨hz,0,none⟩) 1 1) 33 5 (List.map Ad ([he]:List Ab)),.blk hp (CZ hd) 53]) ((Ax (i:=3) rfl).trans (Qb _ ((Ax (i:=3) rfl).trans (Qb _ (PY _))))) ?_))));have h3:=L2 h1 hu;exact A0 (AK (hh,hf++([he]:List Ab),hq) ⟨h3,N4 ho⟩ (AJ.c rfl (AJ.c rfl (AJ.c rfl AJ.nil))) (sC (sC (sC (sS (sS sN))))))
  ·rintro⟨hl,v55⟩ hk;refine DL (l':=[(2,rv (.slice none 0 0)),(3,rv v55),(13,rv (.pointer (some ⟨b7,0,none⟩)))]) (H':=[.blk hb [rv (.map (some ha))] 45,.map ha (AI Ah r1.2.fTimers),.row v55 33 5 (List.map Ad hl)]) rfl rfl ?_;replace hk:De r1 hl=some r:=hk;unfold De at hk;refine Bk (Bb (At (wm rfl ?_)));obtain⟨h4,h7⟩:=AM hk;obtain⟨h8,h9⟩:=AM h7;refine CP (rs:=[rv v55,rv (.func (.func 24) #[] #[])]) (Hin:=[.row v55 33 5 (List.map Ad hl)]) (Hr:=[.blk hb [rv (.map (some ha))] 45,.map ha (AI Ah r1.2.fTimers)]) Tryd.call23 rfl ((Ax (i:=2) rfl).trans (Qb _ (PY _))) (Nw h4 h8) rfl ?_;rintro _ _ ⟨rfl,rfl⟩;refine C2 (wm rfl (wa rfl (A3 (A5 ?_))));obtain rfl:=A8 h9;exact A4 (B7 Tryd.results9 (AX rfl)) (sC (sC (sC sN))) ⟨v55,rfl,rfl⟩
theorem JR (F:Nat)(hf:Nat)(he:Nat)(q:Aq)(now:Int)(r:(List Ab)×Aq)(h:JS F q now=some r):Fn Tryd.prog GE 10 [rv (.pointer (some ⟨hf,0,none⟩)),rI .i64 now] [.blk hf [rv (.map (some he))] 45,.map he (AI Ah q.fTimers)] (λR H=>∃u0:Value,R=rv u0∧H=[.row u0 33 5 (List.map Ad r.1),.blk hf [rv (.map (some he))] 45,.map he (AI Ah r.2.fTimers)]):=by
 refine enter (n:=49) Tryd.func10 rfl Tryd.ntmps10 rfl (λw Z=>?_);refine Be (l':=[(0,rv (.pointer (some ⟨hf,0,none⟩))),(1,rI .i64 now)]) (H':=[.blk hf [rv (.map (some he))] 45,.map he (AI Ah q.fTimers)]) rfl rfl ?_;unfold JS at h;refine At (Oh rfl (BL rfl) rfl (λb1=>?_));refine wv (r:=rv (.slice none 0 0)) (Am rfl) (A3 (Ay (At (wm rfl ?_))));obtain⟨r2,e4,h3⟩:=AL h;refine DS (Hr:=[.blk b1 [rI .i64 now] 3]) LR (Gd hf he q r2 e4) rfl ((Ax (i:=1) rfl).trans (Qb _ ((Ax (i:=1) rfl).trans (Qb _ (PY _))))) rfl ?_;rintro _ _ ⟨rfl,rfl⟩;refine wv (BQ rfl) (A3 (A7 (b:=!r2.1) rfl (λc5=>?_) (λc5=>?_)))
 ·have h6:=AN c5 h3;refine At (wv (r:=rv (.slice none 0 0)) (Am rfl) (A3 (A5 (Ak (WK.nilrow (e:=33) (sz:=5) ?_)))));obtain rfl:=A8 h6;exact A4 (B7 Tryd.results10 (AX rfl)) (sC (sC (sC (sS sN)))) ⟨(.slice none 0 0                                 ),rfl,rfl⟩
 ·have h7:=AO c5 h3;refine AD (Bb (Ay (At (wm rfl (wv (Bt rfl) (wv (Ae Hj rfl Hk rfl rfl) (wv (Az (i:=0) Hl rfl rfl rfl) (CP (rs:=[rv (.map (some he))]) (Hin:=[]) (Hr:=[.blk hf [rv (.map (some he))] 45,.map he (AI Ah r2.2.fTimers),.blk b1 [rI .i64 now] 3]) Tryd.call29 rfl (PY _) (Kg he) rfl ?_))))))));rintro _ _ ⟨b8,rfl,rfl⟩;obtain⟨g9,hq⟩:=AM h7;refine CP (rs:=[rv (.func (.func 41) #[] #[(.pointer (some ⟨b8,0,none⟩))])]) (Hin:=[.blk b8 [rv (.map (some he))] 43,.map he (AI Ah r2.2.fTimers)]) (Hr:=[.blk hf [rv (.map (some he))] 45,.blk b1 [rI .i64 now] 3]) Tryd.call28 rfl ((Ax (i:=0) rfl).trans (Qb _ ((Ax (i:=1) rfl).trans (Qb _ (PY _))))) (IK Ah r2.2.fTimers b8 he g9) rfl ?_;rintro _ _ ⟨hh,ha,rfl,hr,rfl⟩;have hs:=MB hq ha hr;refine wv (BI (ys:=ha) (enc:=eS) (i:=0) Tryd.underlying60 rfl rfl) (wv (r:=rI .i64 0) (Aw rfl) (A3 (AP ?_)));obtain⟨ht,hu,hw⟩:=AL hs;refine BF (S:=Nat×(Int×(List (Ai×Aa)))×(Unit)) (V:=((List (Ai×Aa)))×(Unit)) 0 (λσ=>Dm (λσ=>Do now ha σ.1 σ.2) σ.1 σ.2.1=some ht) (λσ=>[(0,rv (.pointer (some ⟨hf,0,none⟩))),(3,rv (.pointer (some ⟨b1,0,none⟩))),(16,rv hh),(17,rI .i64 (ha.length:Int)),(18,rI .i64 σ.2.1.1)]) (λσ=>[.row hh 9 1 (List.map eS ha),.map he (AI Ah σ.2.1.2),.blk hf [rv (.map (some he))] 45,.blk b1 [rI .i64 now] 3]) (λσ=>σ.1) (F,(0,r2.2.fTimers),()) hu (AJ.c5 rfl rfl rfl rfl rfl AJ.nil) (sC (sS (sC (sC (sC sN))))) (λσ=>Ge F now σ.1=some r) (λσ=>[(0,rv (.pointer (some ⟨hf,0,none⟩))),(3,rv (.pointer (some ⟨b1,0,none⟩)))]) (λσ=>[.map he (AI Ah σ.1),.blk hf [rv (.map (some he))] 45,.blk b1 [rI .i64 now] 3]) ?_ ?_
  ·rintro⟨hI,⟨hd,hb⟩,⟨⟩⟩ hx;refine Be (l':=[(0,rv (.pointer (some ⟨hf,0,none⟩))),(3,rv (.pointer (some ⟨b1,0,none⟩))),(16,rv hh),(17,rI .i64 (ha.length:Int)),(18,rI .i64 hd)]) (H':=[.row hh 9 1 (List.map eS ha),.map he (AI Ah hb),.blk hf [rv (.map (some he))] 45,.blk b1 [rI .i64 now] 3]) rfl rfl ?_;obtain⟨hy,rfl,hz,hj,ho⟩:=Ei hx;replace hj:Do now ha hd hb=some hz:=hj;unfold Do at hj;refine At (wv (G1 rfl rfl) (A3 (Ay (A7 (b:=decide (hd<(ha.length:Int))) rfl (λhl=>?_) (λhl=>?_)))))
   ·have h0:=AN hl hj;refine AD (Bb (Ay (AP (At ?_))));obtain⟨hp,h1⟩:=AM h0;refine wv (r:=rv (Cz 1 hh (Int.toNat hd) 0)) (Di (i:=0) Tryd.underlying60 DA rfl rfl rfl (AU hp)) (wv (r:=rS (Ao ha hd)) (CQ (enc:=eS) (ys:=ha) (i:=0) (j:=hd) DR rfl rfl hp rfl) (wa rfl (C2 (wm rfl (wv (Bt rfl) (wv (Ae Hj rfl Hk rfl rfl) (wv (Az (i:=2) Hl rfl rfl rfl) (wm rfl (wv (r:=Ba [rS (((A6 hb (Ao ha hd) (Aa.mk (Ab.mk ([]:Ai) 0 ([]:Ai) ([]:Ai) ([]:(List Ac))) false)).fTimer).fID),rI .i64 (((A6 hb (Ao ha hd) (Aa.mk (Ab.mk ([]:Ai) 0 ([]:Ai) ([]:Ai) ([]:(List Ac))) false)).fTimer).fAt),rS (((A6 hb (Ao ha hd) (Aa.mk (Ab.mk ([]:Ai) 0 ([]:Ai) ([]:Ai) ([]:(List Ac))) false)).fTimer).fTenant),rS (((A6 hb (Ao ha hd) (Aa.mk (Ab.mk ([]:Ai) 0 ([]:Ai) ([]:Ai) ([]:(List Ac))) false)).fTimer).fSource),Bl 4 (List.map Af (((A6 hb (Ao ha hd) (Aa.mk (Ab.mk ([]:Ai) 0 ([]:Ai) ([]:Ai) ([]:(List Ac))) false)).fTimer).fBody)),rB ((A6 hb (Ao ha hd) (Aa.mk (Ab.mk ([]:Ai) 0 ([]:Ai) ([]:Ai) ([]:(List Ac))) false)).fTold)]) (M5 (enc:=Ah) (xs:=hb) (z:=Aa.mk (Ab.mk ([]:Ai) 0 ([]:Ai) ([]:Ai) ([]:(List Ac))) false) (i:=1) HP GP IV Ck rfl rfl rfl) (C4 (cs:=[rS ([]:Ai),rI .i64 0,rS ([]:Ai),rS ([]:Ai),rv (.slice none 0 0),rB false]) IV rfl rfl (λhi=>?_)))))))))));refine B1 (i:=0) LO rfl rfl rfl (Bx.c rfl) rfl rfl (cs':=[rS (((A6 hb (Ao ha hd) (Aa.mk (Ab.mk ([]:Ai) 0 ([]:Ai) ([]:Ai) ([]:(List Ac))) false)).fTimer).fID),rI .i64 (((A6 hb (Ao ha hd) (Aa.mk (Ab.mk ([]:Ai) 0 ([]:Ai) ([]:Ai) ([]:(List Ac))) false)).fTimer).fAt),rS (((A6 hb (Ao ha hd) (Aa.mk (Ab.mk ([]:Ai) 0 ([]:Ai) ([]:Ai) ([]:(List Ac))) false)).fTimer).fTenant),rS (((A6 hb (Ao ha hd) (Aa.mk (Ab.mk ([]:Ai) 0 ([]:Ai) ([]:Ai) ([]:(List Ac))) false)).fTimer).fSource),Bl 4 (List.map Af (((A6 hb (Ao ha hd) (Aa.mk (Ab.mk ([]:Ai) 0 ([]:Ai) ([]:Ai) ([]:(List Ac))) false)).fTimer).fBody)),rB ((A6 hb (Ao ha hd) (Aa.mk (Ab.mk ([]:Ai) 0 ([]:Ai) ([]:Ai) ([]:(List Ac))) false)).fTold)]) rfl (H':=[.blk hi [rS (((A6 hb (Ao ha hd) (Aa.mk (Ab.mk ([]:Ai) 0 ([]:Ai) ([]:Ai) ([]:(List Ac))) false)).fTimer).fID),rI .i64 (((A6 hb (Ao ha hd) (Aa.mk (Ab.mk ([]:Ai) 0 ([]:Ai) ([]:Ai) ([]:(List Ac))) false)).fTimer).fAt),rS (((A6 hb (Ao ha hd) (Aa.mk (Ab.mk ([]:Ai) 0 ([]:Ai) ([]:Ai) ([]:(List Ac))) false)).fTimer).fTenant),rS (((A6 hb (Ao ha hd) (Aa.mk (Ab.mk ([]:Ai) 0 ([]:Ai) ([]:Ai) ([]:(List Ac))) false)).fTimer).fSource),Bl 4 (List.map Af (((A6 hb (Ao ha hd) (Aa.mk (Ab.mk ([]:Ai) 0 ([]:Ai) ([]:Ai) ([]:(List Ac))) false)).fTimer).fBody)),rB ((A6 hb (Ao ha hd) (Aa.mk (Ab.mk ([]:Ai) 0 ([]:Ai) ([]:Ai) ([]:(List Ac))) false)).fTold)] 53,.row hh 9 1 (List.map eS ha),.map he (AI Ah hb),.blk hf [rv (.map (some he))] 45,.blk b1 [rI .i64 now] 3]) rfl (A3 (AH [(0,rv (.pointer (some ⟨hf,0,none⟩))),(3,rv (.pointer (some ⟨b1,0,none⟩))),(6,rS (Ao ha hd)),(7,rv (.pointer (some ⟨hi,0,none⟩))),(16,rv hh),(17,rI .i64 (ha.length:Int)),(18,rI .i64 hd)] [.blk hi [rS (((A6 hb (Ao ha hd) (Aa.mk (Ab.mk ([]:Ai) 0 ([]:Ai) ([]:Ai) ([]:(List Ac))) false)).fTimer).fID),rI .i64 (((A6 hb (Ao ha hd) (Aa.mk (Ab.mk ([]:Ai) 0 ([]:Ai) ([]:Ai) ([]:(List Ac))) false)).fTimer).fAt),rS (((A6 hb (Ao ha hd) (Aa.mk (Ab.mk ([]:Ai) 0 ([]:Ai) ([]:Ai) ([]:(List Ac))) false)).fTimer).fTenant),rS (((A6 hb (Ao ha hd) (Aa.mk (Ab.mk ([]:Ai) 0 ([]:Ai) ([]:Ai) ([]:(List Ac))) false)).fTimer).fSource),Bl 4 (List.map Af (((A6 hb (Ao ha hd) (Aa.mk (Ab.mk ([]:Ai) 0 ([]:Ai) ([]:Ai) ([]:(List Ac))) false)).fTimer).fBody)),rB (((A6 hb (Ao ha hd) (Aa.mk (Ab.mk ([]:Ai) 0 ([]:Ai) ([]:Ai) ([]:(List Ac))) false)).fTold)||(decide ((((A6 hb (Ao ha hd) (Aa.mk (Ab.mk ([]:Ai) 0 ([]:Ai) ([]:Ai) ([]:(List Ac))) false)).fTimer).fAt)≤now)))] 53,.row hh 9 1 (List.map eS ha),.map he (AI Ah hb),.blk hf [rv (.map (some he))] 45,.blk b1 [rI .i64 now] 3] ?_ ?_))
    ·refine Au (wv (Ae KX rfl Er rfl rfl) (wv (Az (i:=0) LT rfl rfl rfl) (wm rfl (AG ((A6 hb (Ao ha hd) (Aa.mk (Ab.mk ([]:Ai) 0 ([]:Ai) ([]:Ai) ([]:(List Ac))) false)).fTold) (λhg=>?_) (λhg=>?_)))))
     ·refine wf hg (wf hg (wf hg (wf hg (wf hg (wv (r:=rB true) (Ap (b:=(A6 hb (Ao ha hd) (Aa.mk (Ab.mk ([]:Ai) 0 ([]:Ai) ([]:Ai) ([]:(List Ac))) false)).fTold) rfl hg rfl) (wv (Ae KX rfl Er rfl rfl) (Cj (i:=0) Er rfl rfl (BL rfl) rfl rfl (cs':=[rS (((A6 hb (Ao ha hd) (Aa.mk (Ab.mk ([]:Ai) 0 ([]:Ai) ([]:Ai) ([]:(List Ac))) false)).fTimer).fID),rI .i64 (((A6 hb (Ao ha hd) (Aa.mk (Ab.mk ([]:Ai) 0 ([]:Ai) ([]:Ai) ([]:(List Ac))) false)).fTimer).fAt),rS (((A6 hb (Ao ha hd) (Aa.mk (Ab.mk ([]:Ai) 0 ([]:Ai) ([]:Ai) ([]:(List Ac))) false)).fTimer).fTenant),rS (((A6 hb (Ao ha hd) (Aa.mk (Ab.mk ([]:Ai) 0 ([]:Ai) ([]:Ai) ([]:(List Ac))) false)).fTimer).fSource),Bl 4 (List.map Af (((A6 hb (Ao ha hd) (Aa.mk (Ab.mk ([]:Ai) 0 ([]:Ai) ([]:Ai) ([]:(List Ac))) false)).fTimer).fBody)),rB true]) rfl (H':=[.blk hi [rS (((A6 hb (Ao ha hd) (Aa.mk (Ab.mk ([]:Ai) 0 ([]:Ai) ([]:Ai) ([]:(List Ac))) false)).fTimer).fID),rI .i64 (((A6 hb (Ao ha hd) (Aa.mk (Ab.mk ([]:Ai) 0 ([]:Ai) ([]:Ai) ([]:(List Ac))) false)).fTimer).fAt),rS (((A6 hb (Ao ha hd) (Aa.mk (Ab.mk ([]:Ai) 0 ([]:Ai) ([]:Ai) ([]:(List Ac))) false)).fTimer).fTenant),rS (((A6 hb (Ao ha hd) (Aa.mk (Ab.mk ([]:Ai) 0 ([]:Ai) ([]:Ai) ([]:(List Ac))) false)).fTimer).fSource),Bl 4 (List.map Af (((A6 hb (Ao ha hd) (Aa.mk (Ab.mk ([]:Ai) 0 ([]:Ai) ([]:Ai) ([]:(List Ac))) false)).fTimer).fBody)),rB true] 53,.row hh 9 1 (List.map eS ha),.map he (AI Ah hb),.blk hf [rv (.map (some he))] 45,.blk b1 [rI .i64 now] 3]) rfl (Ar (DB (H':=[.blk hi [rS (((A6 hb (Ao ha hd) (Aa.mk (Ab.mk ([]:Ai) 0 ([]:Ai) ([]:Ai) ([]:(List Ac))) false)).fTimer).fID),rI .i64 (((A6 hb (Ao ha hd) (Aa.mk (Ab.mk ([]:Ai) 0 ([]:Ai) ([]:Ai) ([]:(List Ac))) false)).fTimer).fAt),rS (((A6 hb (Ao ha hd) (Aa.mk (Ab.mk ([]:Ai) 0 ([]:Ai) ([]:Ai) ([]:(List Ac))) false)).fTimer).fTenant),rS (((A6 hb (Ao ha hd) (Aa.mk (Ab.mk ([]:Ai) 0 ([]:Ai) ([]:Ai) ([]:(List Ac))) false)).fTimer).fSource),Bl 4 (List.map Af (((A6 hb (Ao ha hd) (Aa.mk (Ab.mk ([]:Ai) 0 ([]:Ai) ([]:Ai) ([]:(List Ac))) false)).fTimer).fBody)),rB (((A6 hb (Ao ha hd) (Aa.mk (Ab.mk ([]:Ai) 0 ([]:Ai) ([]:Ai) ([]:(List Ac))) false)).fTold)||(decide ((((A6 hb (Ao ha hd) (Aa.mk (Ab.mk ([]:Ai) 0 ([]:Ai) ([]:Ai) ([]:(List Ac))) false)).fTimer).fAt)≤now)))] 53,.row hh 9 1 (List.map eS ha),.map he (AI Ah hb),.blk hf [rv (.map (some he))] 45,.blk b1 [rI .i64 now] 3]) (by simp only[hg,Qs,Qu,Q2,Qn,Qx,Qv,Q3,Qw,Qk,Qt,Qj,Qc]) ?_)))))))));exact wt
     ·refine wo hg (wv (Ae KX rfl BE rfl rfl) (wo hg (wv (Ae BD rfl CV rfl rfl) (wo hg (wv (Az (i:=0) Dr rfl rfl rfl) (wo hg (wv (Az (i:=4) Dr rfl rfl rfl) (wo hg (wv (HU rfl rfl) (Hn rfl hg rfl (wv (Ae KX rfl Er rfl rfl) (Cj (i:=0) Er rfl rfl (BL rfl) rfl rfl (cs':=[rS (((A6 hb (Ao ha hd) (Aa.mk (Ab.mk ([]:Ai) 0 ([]:Ai) ([]:Ai) ([]:(List Ac))) false)).fTimer).fID),rI .i64 (((A6 hb (Ao ha hd) (Aa.mk (Ab.mk ([]:Ai) 0 ([]:Ai) ([]:Ai) ([]:(List Ac))) false)).fTimer).fAt),rS (((A6 hb (Ao ha hd) (Aa.mk (Ab.mk ([]:Ai) 0 ([]:Ai) ([]:Ai) ([]:(List Ac))) false)).fTimer).fTenant),rS (((A6 hb (Ao ha hd) (Aa.mk (Ab.mk ([]:Ai) 0 ([]:Ai) ([]:Ai) ([]:(List Ac))) false)).fTimer).fSource),Bl 4 (List.map Af (((A6 hb (Ao ha hd) (Aa.mk (Ab.mk ([]:Ai) 0 ([]:Ai) ([]:Ai) ([]:(List Ac))) false)).fTimer).fBody)),rB (decide ((((A6 hb (Ao ha hd) (Aa.mk (Ab.mk ([]:Ai) 0 ([]:Ai) ([]:Ai) ([]:(List Ac))) false)).fTimer).fAt)≤now))]) rfl (H':=[.blk hi [rS (((A6 hb (Ao ha hd) (Aa.mk (Ab.mk ([]:Ai) 0 ([]:Ai) ([]:Ai) ([]:(List Ac))) false)).fTimer).fID),rI .i64 (((A6 hb (Ao ha hd) (Aa.mk (Ab.mk ([]:Ai) 0 ([]:Ai) ([]:Ai) ([]:(List Ac))) false)).fTimer).fAt),rS (((A6 hb (Ao ha hd) (Aa.mk (Ab.mk ([]:Ai) 0 ([]:Ai) ([]:Ai) ([]:(List Ac))) false)).fTimer).fTenant),rS (((A6 hb (Ao ha hd) (Aa.mk (Ab.mk ([]:Ai) 0 ([]:Ai) ([]:Ai) ([]:(List Ac))) false)).fTimer).fSource),Bl 4 (List.map Af (((A6 hb (Ao ha hd) (Aa.mk (Ab.mk ([]:Ai) 0 ([]:Ai) ([]:Ai) ([]:(List Ac))) false)).fTimer).fBody)),rB (decide ((((A6 hb (Ao ha hd) (Aa.mk (Ab.mk ([]:Ai) 0 ([]:Ai) ([]:Ai) ([]:(List Ac))) false)).fTimer).fAt)≤now))] 53,.row hh 9 1 (List.map eS ha),.map he (AI Ah hb),.blk hf [rv (.map (some he))] 45,.blk b1 [rI .i64 now] 3]) rfl (Ar (DB (H':=[.blk hi [rS (((A6 hb (Ao ha hd) (Aa.mk (Ab.mk ([]:Ai) 0 ([]:Ai) ([]:Ai) ([]:(List Ac))) false)).fTimer).fID),rI .i64 (((A6 hb (Ao ha hd) (Aa.mk (Ab.mk ([]:Ai) 0 ([]:Ai) ([]:Ai) ([]:(List Ac))) false)).fTimer).fAt),rS (((A6 hb (Ao ha hd) (Aa.mk (Ab.mk ([]:Ai) 0 ([]:Ai) ([]:Ai) ([]:(List Ac))) false)).fTimer).fTenant),rS (((A6 hb (Ao ha hd) (Aa.mk (Ab.mk ([]:Ai) 0 ([]:Ai) ([]:Ai) ([]:(List Ac))) false)).fTimer).fSource),Bl 4 (List.map Af (((A6 hb (Ao ha hd) (Aa.mk (Ab.mk ([]:Ai) 0 ([]:Ai) ([]:Ai) ([]:(List Ac))) false)).fTimer).fBody)),rB (((A6 hb (Ao ha hd) (Aa.mk (Ab.mk ([]:Ai) 0 ([]:Ai) ([]:Ai) ([]:(List Ac))) false)).fTold)||(decide ((((A6 hb (Ao ha hd) (Aa.mk (Ab.mk ([]:Ai) 0 ([]:Ai) ([]:Ai) ([]:(List Ac))) false)).fTimer).fAt)≤now)))] 53,.row hh 9 1 (List.map eS ha),.map he (AI Ah hb),.blk hf [rv (.map (some he))] 45,.blk b1 [rI .i64 now] 3]) (by simp only[hg,Qs,Qu,Q2,Qn,Qx,Qv,Q3,Qw,Qk,Qt,Qj,Qc]) ?_))))))))))))));exact wt
    refine GV 6 [0,3,6,7,16,17,18] [⟨[],rv (.pointer (some ⟨hf,0,none⟩)),none,none,none⟩,⟨[0],rv (.pointer (some ⟨hf,0,none⟩)),none,none,none⟩,⟨[1],rv (.pointer (some ⟨hf,0,none⟩)),none,none,none⟩,⟨[2],rv (.map (some he)),none,none,none⟩,⟨[],rS (Ao ha hd),none,none,none⟩,⟨[],Ba [rS (((A6 hb (Ao ha hd) (Aa.mk (Ab.mk ([]:Ai) 0 ([]:Ai) ([]:Ai) ([]:(List Ac))) false)).fTimer).fID),rI .i64 (((A6 hb (Ao ha hd) (Aa.mk (Ab.mk ([]:Ai) 0 ([]:Ai) ([]:Ai) ([]:(List Ac))) false)).fTimer).fAt),rS (((A6 hb (Ao ha hd) (Aa.mk (Ab.mk ([]:Ai) 0 ([]:Ai) ([]:Ai) ([]:(List Ac))) false)).fTimer).fTenant),rS (((A6 hb (Ao ha hd) (Aa.mk (Ab.mk ([]:Ai) 0 ([]:Ai) ([]:Ai) ([]:(List Ac))) false)).fTimer).fSource),Bl 4 (List.map Af (((A6 hb (Ao ha hd) (Aa.mk (Ab.mk ([]:Ai) 0 ([]:Ai) ([]:Ai) ([]:(List Ac))) false)).fTimer).fBody)),rB (((A6 hb (Ao ha hd) (Aa.mk (Ab.mk ([]:Ai) 0 ([]:Ai) ([]:Ai) ([]:(List Ac))) false)).fTold)||(decide ((((A6 hb (Ao ha hd) (Aa.mk (Ab.mk ([]:Ai) 0 ([]:Ai) ([]:Ai) ([]:(List Ac))) false)).fTimer).fAt)≤now)))],none,none,none⟩] ?_ (λβ=>?_)
    ·refine Hc (Aw rfl) (Hc (Bt rfl) (Hc (Ae Hj rfl Hk rfl rfl) (Oj (Az (i:=3) Hl rfl rfl rfl) (Hc (Aw rfl) (Oj (Bc (i:=0) Tryd.isAgg53 LO rfl rfl rfl rfl) ?_)))));exact P0
    refine I1 (H1:=[.blk hi [rS (((A6 hb (Ao ha hd) (Aa.mk (Ab.mk ([]:Ai) 0 ([]:Ai) ([]:Ai) ([]:(List Ac))) false)).fTimer).fID),rI .i64 (((A6 hb (Ao ha hd) (Aa.mk (Ab.mk ([]:Ai) 0 ([]:Ai) ([]:Ai) ([]:(List Ac))) false)).fTimer).fAt),rS (((A6 hb (Ao ha hd) (Aa.mk (Ab.mk ([]:Ai) 0 ([]:Ai) ([]:Ai) ([]:(List Ac))) false)).fTimer).fTenant),rS (((A6 hb (Ao ha hd) (Aa.mk (Ab.mk ([]:Ai) 0 ([]:Ai) ([]:Ai) ([]:(List Ac))) false)).fTimer).fSource),Bl 4 (List.map Af (((A6 hb (Ao ha hd) (Aa.mk (Ab.mk ([]:Ai) 0 ([]:Ai) ([]:Ai) ([]:(List Ac))) false)).fTimer).fBody)),rB (((A6 hb (Ao ha hd) (Aa.mk (Ab.mk ([]:Ai) 0 ([]:Ai) ([]:Ai) ([]:(List Ac))) false)).fTold)||(decide ((((A6 hb (Ao ha hd) (Aa.mk (Ab.mk ([]:Ai) 0 ([]:Ai) ([]:Ai) ([]:(List Ac))) false)).fTimer).fAt)≤now)))] 53,.row hh 9 1 (List.map eS ha),.map he (AI Ah hb),.blk hf [rv (.map (some he))] 45,.blk b1 [rI .i64 now] 3]) [38,39,40,41,42,43,0,3,6,7,16,17,18] ?_;refine Ky (enc:=Ah) (xs:=hb) (v:=(Aa.mk ((A6 hb (Ao ha hd) (Aa.mk (Ab.mk ([]:Ai) 0 ([]:Ai) ([]:Ai) ([]:(List Ac))) false)).fTimer) (((A6 hb (Ao ha hd) (Aa.mk (Ab.mk ([]:Ai) 0 ([]:Ai) ([]:Ai) ([]:(List Ac))) false)).fTold)||(decide ((((A6 hb (Ao ha hd) (Aa.mk (Ab.mk ([]:Ai) 0 ([]:Ai) ([]:Ai) ([]:(List Ac))) false)).fTimer).fAt)≤now))))) (i:=2) HP GP rfl rfl rfl rfl (H':=[.blk hi [rS (((A6 hb (Ao ha hd) (Aa.mk (Ab.mk ([]:Ai) 0 ([]:Ai) ([]:Ai) ([]:(List Ac))) false)).fTimer).fID),rI .i64 (((A6 hb (Ao ha hd) (Aa.mk (Ab.mk ([]:Ai) 0 ([]:Ai) ([]:Ai) ([]:(List Ac))) false)).fTimer).fAt),rS (((A6 hb (Ao ha hd) (Aa.mk (Ab.mk ([]:Ai) 0 ([]:Ai) ([]:Ai) ([]:(List Ac))) false)).fTimer).fTenant),rS (((A6 hb (Ao ha hd) (Aa.mk (Ab.mk ([]:Ai) 0 ([]:Ai) ([]:Ai) ([]:(List Ac))) false)).fTimer).fSource),Bl 4 (List.map Af (((A6 hb (Ao ha hd) (Aa.mk (Ab.mk ([]:Ai) 0 ([]:Ai) ([]:Ai) ([]:(List Ac))) false)).fTimer).fBody)),rB (((A6 hb (Ao ha hd) (Aa.mk (Ab.mk ([]:Ai) 0 ([]:Ai) ([]:Ai) ([]:(List Ac))) false)).fTold)||(decide ((((A6 hb (Ao ha hd) (Aa.mk (Ab.mk ([]:Ai) 0 ([]:Ai) ([]:Ai) ([]:(List Ac))) false)).fTimer).fAt)≤now)))] 53,.row hh 9 1 (List.map eS ha),.map he (AI Ah (mset hb (Ao ha hd) (Aa.mk ((A6 hb (Ao ha hd) (Aa.mk (Ab.mk ([]:Ai) 0 ([]:Ai) ([]:Ai) ([]:(List Ac))) false)).fTimer) (((A6 hb (Ao ha hd) (Aa.mk (Ab.mk ([]:Ai) 0 ([]:Ai) ([]:Ai) ([]:(List Ac))) false)).fTold)||(decide ((((A6 hb (Ao ha hd) (Aa.mk (Ab.mk ([]:Ai) 0 ([]:Ai) ([]:Ai) ([]:(List Ac))) false)).fTimer).fAt)≤now)))))),.blk hf [rv (.map (some he))] 45,.blk b1 [rI .i64 now] 3]) rfl (Ar (AV (Bb (Au ?_))));obtain⟨h2,h4⟩:=AM h1;refine wv (Cf rfl rfl h2) (wm rfl (Ar ?_));have h5:=BG h4 ho;exact A0 (AK (hy,(hd+1,mset hb (Ao ha hd) (Aa.mk ((A6 hb (Ao ha hd) (Aa.mk (Ab.mk ([]:Ai) 0 ([]:Ai) ([]:Ai) ([]:(List Ac))) false)).fTimer) (((A6 hb (Ao ha hd) (Aa.mk (Ab.mk ([]:Ai) 0 ([]:Ai) ([]:Ai) ([]:(List Ac))) false)).fTold)||(decide ((((A6 hb (Ao ha hd) (Aa.mk (Ab.mk ([]:Ai) 0 ([]:Ai) ([]:Ai) ([]:(List Ac))) false)).fTimer).fAt)≤now))))),()) ⟨h5,Q0 _⟩ (AJ.c5 rfl rfl rfl rfl rfl AJ.nil) (sS (sC (sC (sC (sC sN))))))
   ·have h8:=AO hl hj;refine B0 (AC ?_);have h9:=Dg h8 ho hw;exact AC (Bs (AK (hb,()) h9 (AJ.c rfl (AJ.c rfl AJ.nil)) (sS (sC (sC (sC sN))))))
  ·rintro⟨hm,⟨⟩⟩ hk;refine DL (l':=[(0,rv (.pointer (some ⟨hf,0,none⟩))),(3,rv (.pointer (some ⟨b1,0,none⟩)))]) (H':=[.map he (AI Ah hm),.blk hf [rv (.map (some he))] 45,.blk b1 [rI .i64 now] 3]) rfl rfl ?_;replace hk:Ge F now hm=some r:=hk;unfold Ge at hk;refine Bk (Bb (At (wm rfl ?_)));obtain⟨hn,hA,hB⟩:=AL hk;refine DS (Hr:=[.blk b1 [rI .i64 now] 3]) OT (Ev hf he (Aq.mk hm) hn hA) rfl ((Ax (i:=1) rfl).trans (Qb _ (PY _))) rfl ?_;rintro _ _ ⟨hC,rfl,rfl⟩;refine wv (r:=rv (.func (.func 31) #[] #[(.pointer (some ⟨b1,0,none⟩))])) (Ke rfl) ?_;obtain⟨hD,hE,hG⟩:=AL hB;refine DS (Hr:=[.blk hf [rv (.map (some he))] 45,.map he (AI Ah hn.2.fTimers)]) Tryd.call30 (IJ F hC b1 hn.1 now hD hE) rfl ((Ax (i:=0) rfl).trans (Qb _ ((Ax (i:=2) rfl).trans (Qb _ (PY _))))) rfl ?_;rintro _ _ ⟨hH,rfl,rfl⟩;refine wa rfl (A3 (A5 ?_));obtain rfl:=A8 hG;exact A4 (B7 Tryd.results10 (AX rfl)) (sC (sS (sC (sC sN)))) ⟨hH,rfl,rfl⟩
theorem EI (F:Nat)(ha:Nat)(hb:Nat)(q:Aq)(t:Ab)(now:Int)(r:Int×Aq)(h:Hw F q t now=some r):Fn Tryd.prog GE 15 [rv (.pointer (some ⟨ha,0,none⟩)),Ba (Ad t),rI .i64 now] [.blk ha [rv (.map (some hb))] 45,.map hb (AI Ah q.fTimers)] (λR H=>R=rI .i64 r.1∧H=[.blk ha [rv (.map (some hb))] 45,.map hb (AI Ah r.2.fTimers)]):=by
 refine enter (n:=56) Tryd.func15 rfl Tryd.ntmps15 rfl (λw Z=>?_);refine Be (l':=[(0,rv (.pointer (some ⟨ha,0,none⟩))),(1,Ba (Ad t)),(2,rI .i64 now)]) (H':=[.blk ha [rv (.map (some hb))] 45,.map hb (AI Ah q.fTimers)]) rfl rfl ?_;unfold Hw at h;refine At (Bz rfl rfl (λb1=>?_));refine wv (r:=rI .i64 0) (Am rfl) (A3 (Ay (At (wm rfl ?_))));obtain⟨r2,e4,h3⟩:=AL h;refine DS (Hr:=[.blk b1 (Ad t) 33]) LR (Gd ha hb q r2 e4) rfl ((Ax (i:=1) rfl).trans (Qb _ ((Ax (i:=1) rfl).trans (Qb _ (PY _))))) rfl ?_;rintro _ _ ⟨rfl,rfl⟩;refine wv (BQ rfl) (A3 (A7 (b:=!r2.1) rfl (λc5=>?_) (λc5=>?_)))
 ·have h6:=AN c5 h3;refine At (wv (r:=rI .i64 10) (Am rfl) (A3 (A5 (Ak ?_))));obtain rfl:=A8 h6;exact A4 (B7 KY (AX rfl)) (sC (sC (sS sN))) ⟨rfl,rfl⟩
 ·have h7:=AO c5 h3;refine AD (Bb (Ay (At (wv (Bc (i:=2) DX BE rfl rfl rfl rfl) ?_))));obtain⟨r8,ho,h9⟩:=AL h7;refine GX Tryd.call33 (Mg F t r8 ho) rfl (wa rfl (C2 (wm rfl (wv (Dt rfl rfl) (A3 (A7 (b:=!decide (r8=0)) rfl (λhf=>?_) (λhf=>?_)))))))
  ·have hp:=AN hf h9;refine At (wm rfl (wa rfl (A3 (A5 (Ak ?_)))));obtain rfl:=A8 hp;exact A4 (B7 KY (AX rfl)) (sC (sC (sS sN))) ⟨rfl,rfl⟩
  ·have hq:=AO hf h9;refine AD (Bb (Ay (GV 12 [0,2,4] [⟨[],rv (.pointer (some ⟨ha,0,none⟩)),none,none,none⟩,⟨[0],rv (.pointer (some ⟨ha,0,none⟩)),none,none,none⟩,⟨[1],rv (.pointer (some ⟨ha,0,none⟩)),none,none,none⟩,⟨[2],rv (.map (some hb)),none,none,none⟩,⟨[],rv (.pointer (some ⟨b1,0,none⟩)),none,none,none⟩,⟨[4],rS t.fID,none,none,none⟩,⟨[3,5],EP [Ba [rS (((A6 r2.2.fTimers t.fID (Aa.mk (Ab.mk ([]:Ai) 0 ([]:Ai) ([]:Ai) ([]:(List Ac))) false)).fTimer).fID),rI .i64 (((A6 r2.2.fTimers t.fID (Aa.mk (Ab.mk ([]:Ai) 0 ([]:Ai) ([]:Ai) ([]:(List Ac))) false)).fTimer).fAt),rS (((A6 r2.2.fTimers t.fID (Aa.mk (Ab.mk ([]:Ai) 0 ([]:Ai) ([]:Ai) ([]:(List Ac))) false)).fTimer).fTenant),rS (((A6 r2.2.fTimers t.fID (Aa.mk (Ab.mk ([]:Ai) 0 ([]:Ai) ([]:Ai) ([]:(List Ac))) false)).fTimer).fSource),Bl 4 (List.map Af (((A6 r2.2.fTimers t.fID (Aa.mk (Ab.mk ([]:Ai) 0 ([]:Ai) ([]:Ai) ([]:(List Ac))) false)).fTimer).fBody)),rB ((A6 r2.2.fTimers t.fID (Aa.mk (Ab.mk ([]:Ai) 0 ([]:Ai) ([]:Ai) ([]:(List Ac))) false)).fTold)],rB (C8 r2.2.fTimers t.fID)],none,none,none⟩,⟨[6],EP [Ba [rS (((A6 r2.2.fTimers t.fID (Aa.mk (Ab.mk ([]:Ai) 0 ([]:Ai) ([]:Ai) ([]:(List Ac))) false)).fTimer).fID),rI .i64 (((A6 r2.2.fTimers t.fID (Aa.mk (Ab.mk ([]:Ai) 0 ([]:Ai) ([]:Ai) ([]:(List Ac))) false)).fTimer).fAt),rS (((A6 r2.2.fTimers t.fID (Aa.mk (Ab.mk ([]:Ai) 0 ([]:Ai) ([]:Ai) ([]:(List Ac))) false)).fTimer).fTenant),rS (((A6 r2.2.fTimers t.fID (Aa.mk (Ab.mk ([]:Ai) 0 ([]:Ai) ([]:Ai) ([]:(List Ac))) false)).fTimer).fSource),Bl 4 (List.map Af (((A6 r2.2.fTimers t.fID (Aa.mk (Ab.mk ([]:Ai) 0 ([]:Ai) ([]:Ai) ([]:(List Ac))) false)).fTimer).fBody)),rB ((A6 r2.2.fTimers t.fID (Aa.mk (Ab.mk ([]:Ai) 0 ([]:Ai) ([]:Ai) ([]:(List Ac))) false)).fTold)],rB (C8 r2.2.fTimers t.fID)],none,none,none⟩,⟨[7],Ba [rS (((A6 r2.2.fTimers t.fID (Aa.mk (Ab.mk ([]:Ai) 0 ([]:Ai) ([]:Ai) ([]:(List Ac))) false)).fTimer).fID),rI .i64 (((A6 r2.2.fTimers t.fID (Aa.mk (Ab.mk ([]:Ai) 0 ([]:Ai) ([]:Ai) ([]:(List Ac))) false)).fTimer).fAt),rS (((A6 r2.2.fTimers t.fID (Aa.mk (Ab.mk ([]:Ai) 0 ([]:Ai) ([]:Ai) ([]:(List Ac))) false)).fTimer).fTenant),rS (((A6 r2.2.fTimers t.fID (Aa.mk (Ab.mk ([]:Ai) 0 ([]:Ai) ([]:Ai) ([]:(List Ac))) false)).fTimer).fSource),Bl 4 (List.map Af (((A6 r2.2.fTimers t.fID (Aa.mk (Ab.mk ([]:Ai) 0 ([]:Ai) ([]:Ai) ([]:(List Ac))) false)).fTimer).fBody)),rB ((A6 r2.2.fTimers t.fID (Aa.mk (Ab.mk ([]:Ai) 0 ([]:Ai) ([]:Ai) ([]:(List Ac))) false)).fTold)],none,none,none⟩,⟨[7],rB (C8 r2.2.fTimers t.fID),none,none,none⟩,⟨[],rv undef,some ([rS ([]:Ai),rI .i64 0,rS ([]:Ai),rS ([]:Ai),rv (.slice none 0 0),rB false],53),some (11,[rS (((A6 r2.2.fTimers t.fID (Aa.mk (Ab.mk ([]:Ai) 0 ([]:Ai) ([]:Ai) ([]:(List Ac))) false)).fTimer).fID),rI .i64 (((A6 r2.2.fTimers t.fID (Aa.mk (Ab.mk ([]:Ai) 0 ([]:Ai) ([]:Ai) ([]:(List Ac))) false)).fTimer).fAt),rS (((A6 r2.2.fTimers t.fID (Aa.mk (Ab.mk ([]:Ai) 0 ([]:Ai) ([]:Ai) ([]:(List Ac))) false)).fTimer).fTenant),rS (((A6 r2.2.fTimers t.fID (Aa.mk (Ab.mk ([]:Ai) 0 ([]:Ai) ([]:Ai) ([]:(List Ac))) false)).fTimer).fSource),Bl 4 (List.map Af (((A6 r2.2.fTimers t.fID (Aa.mk (Ab.mk ([]:Ai) 0 ([]:Ai) ([]:Ai) ([]:(List Ac))) false)).fTimer).fBody)),rB ((A6 r2.2.fTimers t.fID (Aa.mk (Ab.mk ([]:Ai) 0 ([]:Ai) ([]:Ai) ([]:(List Ac))) false)).fTold)]),none⟩,⟨[8],rv undef,none,none,some 10⟩] ?_ (λβ=>?_))))
   ·refine Hc (Aw rfl) (Hc (Bt rfl) (Hc (Ae Hj rfl Hk rfl rfl) (Oj (Az (i:=0) Hl rfl rfl rfl) (Hc (Ae BD rfl DA rfl rfl) (Oj (Az (i:=2) DR rfl rfl rfl) (Oj (KB (enc:=Ah) (xs:=r2.2.fTimers) (z:=Aa.mk (Ab.mk ([]:Ai) 0 ([]:Ai) ([]:Ai) ([]:(List Ac))) false) (i:=1) HP GP IV Ck rfl rfl rfl) (Hc (Aw rfl) (Hc (Bh rfl rfl) (Hc (Bh rfl rfl) (PQ (Pt (cs:=[rS ([]:Ai),rI .i64 0,rS ([]:Ai),rS ([]:Ai),rv (.slice none 0 0),rB false]) IV rfl) (PP (fun {hk hh}=>Jq (BJ (i:=0) LO rfl rfl rfl (Bx.c rfl) rfl rfl (cs':=[rS (((A6 r2.2.fTimers t.fID (Aa.mk (Ab.mk ([]:Ai) 0 ([]:Ai) ([]:Ai) ([]:(List Ac))) false)).fTimer).fID),rI .i64 (((A6 r2.2.fTimers t.fID (Aa.mk (Ab.mk ([]:Ai) 0 ([]:Ai) ([]:Ai) ([]:(List Ac))) false)).fTimer).fAt),rS (((A6 r2.2.fTimers t.fID (Aa.mk (Ab.mk ([]:Ai) 0 ([]:Ai) ([]:Ai) ([]:(List Ac))) false)).fTimer).fTenant),rS (((A6 r2.2.fTimers t.fID (Aa.mk (Ab.mk ([]:Ai) 0 ([]:Ai) ([]:Ai) ([]:(List Ac))) false)).fTimer).fSource),Bl 4 (List.map Af (((A6 r2.2.fTimers t.fID (Aa.mk (Ab.mk ([]:Ai) 0 ([]:Ai) ([]:Ai) ([]:(List Ac))) false)).fTimer).fBody)),rB ((A6 r2.2.fTimers t.fID (Aa.mk (Ab.mk ([]:Ai) 0 ([]:Ai) ([]:Ai) ([]:(List Ac))) false)).fTold)]) rfl (H':=.blk hk [rS (((A6 r2.2.fTimers t.fID (Aa.mk (Ab.mk ([]:Ai) 0 ([]:Ai) ([]:Ai) ([]:(List Ac))) false)).fTimer).fID),rI .i64 (((A6 r2.2.fTimers t.fID (Aa.mk (Ab.mk ([]:Ai) 0 ([]:Ai) ([]:Ai) ([]:(List Ac))) false)).fTimer).fAt),rS (((A6 r2.2.fTimers t.fID (Aa.mk (Ab.mk ([]:Ai) 0 ([]:Ai) ([]:Ai) ([]:(List Ac))) false)).fTimer).fTenant),rS (((A6 r2.2.fTimers t.fID (Aa.mk (Ab.mk ([]:Ai) 0 ([]:Ai) ([]:Ai) ([]:(List Ac))) false)).fTimer).fSource),Bl 4 (List.map Af (((A6 r2.2.fTimers t.fID (Aa.mk (Ab.mk ([]:Ai) 0 ([]:Ai) ([]:Ai) ([]:(List Ac))) false)).fTimer).fBody)),rB ((A6 r2.2.fTimers t.fID (Aa.mk (Ab.mk ([]:Ai) 0 ([]:Ai) ([]:Ai) ([]:(List Ac))) false)).fTold)] 53::hh) rfl)) ?_)))))))))));exact P0
   refine I1 (H1:=[.blk ha [rv (.map (some hb))] 45,.map hb (AI Ah r2.2.fTimers),.blk b1 (Ad t) 33,.blk (β 10) [rS (((A6 r2.2.fTimers t.fID (Aa.mk (Ab.mk ([]:Ai) 0 ([]:Ai) ([]:Ai) ([]:(List Ac))) false)).fTimer).fID),rI .i64 (((A6 r2.2.fTimers t.fID (Aa.mk (Ab.mk ([]:Ai) 0 ([]:Ai) ([]:Ai) ([]:(List Ac))) false)).fTimer).fAt),rS (((A6 r2.2.fTimers t.fID (Aa.mk (Ab.mk ([]:Ai) 0 ([]:Ai) ([]:Ai) ([]:(List Ac))) false)).fTimer).fTenant),rS (((A6 r2.2.fTimers t.fID (Aa.mk (Ab.mk ([]:Ai) 0 ([]:Ai) ([]:Ai) ([]:(List Ac))) false)).fTimer).fSource),Bl 4 (List.map Af (((A6 r2.2.fTimers t.fID (Aa.mk (Ab.mk ([]:Ai) 0 ([]:Ai) ([]:Ai) ([]:(List Ac))) false)).fTimer).fBody)),rB ((A6 r2.2.fTimers t.fID (Aa.mk (Ab.mk ([]:Ai) 0 ([]:Ai) ([]:Ai) ([]:(List Ac))) false)).fTold)] 53]) [19,20,21,22,23,24,25,18,26,27,8,0,2,4] ?_;generalize β 10=hk;refine wa rfl (A3 (Ay (AP ?_)));obtain⟨hr,hl⟩:=AM hq;refine AH [(0,rv (.pointer (some ⟨ha,0,none⟩))),(4,rv (.pointer (some ⟨b1,0,none⟩))),(9,rB (C8 r2.2.fTimers t.fID)),(28,rB ((!(ov (DM now)))||(decide (t.fAt<now))))] [.blk ha [rv (.map (some hb))] 45,.map hb (AI Ah r2.2.fTimers),.blk b1 (Ad t) 33] ?_ ?_
   ·refine Au (wm rfl (GX Tryd.call34 (K1 now (ov (DM now)) (Mv hr)) rfl (wv (BQ rfl) (wm rfl (AG (!(ov (DM now))) (λhd=>?_) (λhd=>?_))))))
    ·refine wf hd (wf hd (wf hd (wf hd (wv (r:=rB true) (Ap (b:=!(ov (DM now))) rfl hd rfl) (wa rfl (Ar ?_))))));exact CM hd
    ·refine wo hd (wv (Ae BD rfl CV rfl rfl) (wo hd (wv (Az (i:=2) Dr rfl rfl rfl) (wo hd (wm rfl (wo hd (wv (G1 rfl rfl) (Hn rfl hd rfl (wa rfl (Ar ?_))))))))));exact CM hd
   refine A7 (b:=((!(ov (DM now)))||(decide (t.fAt<now)))) rfl (λhg=>?_) (λhg=>?_)
   ·have hs:=AN hg hl;refine At (wv (r:=rI .i64 2) (Am rfl) (A3 (A5 (AB (Ak ?_)))));obtain rfl:=A8 hs;exact A4 (B7 KY (AX rfl)) (sC (sC (sS sN))) ⟨rfl,rfl⟩
   ·have hm:=AO hg hl;refine At (wm rfl (wa rfl (A3 (A7 (b:=C8 r2.2.fTimers t.fID) rfl (λhi=>?_) (λhi=>?_)))))
    ·have ht:=AN hi hm;refine At (wv (r:=rI .i64 6) (Am rfl) (A3 (A5 (AB (Ak ?_)))));obtain rfl:=A8 ht;exact A4 (B7 KY (AX rfl)) (sC (sC (sS sN))) ⟨rfl,rfl⟩
    ·have hn:=AO hi hm;refine At (wm rfl (wv (Bt rfl) (wv (Ae Hj rfl Hk rfl rfl) (wv (Az (i:=0) Hl rfl rfl rfl) (wv (r:=rI .i64 (r2.2.fTimers.length:Int)) (OA (N:=r2.2.fTimers.length) (i:=1) HP rfl rfl (Eh _ _)) (wv (HV rfl rfl) (wa rfl (A3 (A7 (b:=decide (256≤(r2.2.fTimers.length:Int))) rfl (λhj=>?_) (λhj=>?_))))))))))
     ·have hu:=AN hj hn;refine At (wv (r:=rI .i64 3) (Am rfl) (A3 (A5 (AB (Ak ?_)))));obtain rfl:=A8 hu;exact A4 (B7 KY (AX rfl)) (sC (sC (sS sN))) ⟨rfl,rfl⟩
     ·have hw:=AO hj hn;refine AD (AV (Bb (Ay ?_)));obtain⟨he,hx,hy⟩:=AL hw;refine GV 9 [0,4] [⟨[],rv (.pointer (some ⟨ha,0,none⟩)),none,none,none⟩,⟨[0],rv (.pointer (some ⟨ha,0,none⟩)),none,none,none⟩,⟨[1],rv (.pointer (some ⟨ha,0,none⟩)),none,none,none⟩,⟨[2],rv (.map (some hb)),none,none,none⟩,⟨[],rv (.pointer (some ⟨b1,0,none⟩)),none,none,none⟩,⟨[4],rS t.fID,none,none,none⟩,⟨[],Ba (Ad t),none,none,none⟩,⟨[6],Ba (Ad he),none,none,none⟩,⟨[7],Ba [rS he.fID,rI .i64 he.fAt,rS he.fTenant,rS he.fSource,Bl 4 (List.map Af he.fBody),rB false],none,none,none⟩] ?_ (λβ=>?_)
      ·refine Hc (Aw rfl) (Hc (Bt rfl) (Hc (Ae Hj rfl Hk rfl rfl) (Oj (Az (i:=0) Hl rfl rfl rfl) (Hc (Ae BD rfl DA rfl rfl) (Oj (Az (i:=2) DR rfl rfl rfl) (Oj (Bc (i:=2) DX BE rfl rfl rfl rfl) (PR (Mz Tryd.call22 (Mb t he hx) rfl) (Hc (Ju rfl) ?_))))))));exact P0
      refine I1 (H1:=[.blk ha [rv (.map (some hb))] 45,.map hb (AI Ah r2.2.fTimers),.blk b1 (Ad t) 33]) [47,48,49,50,51,52,53,54,55,0,4] ?_;refine Ky (enc:=Ah) (xs:=r2.2.fTimers) (v:=(Aa.mk he false)) (i:=1) HP GP rfl rfl rfl rfl (H':=[.blk ha [rv (.map (some hb))] 45,.map hb (AI Ah (mset r2.2.fTimers t.fID (Aa.mk he false))),.blk b1 (Ad t) 33]) rfl (C2 (wv (r:=rI .i64 0) (Am rfl) (A3 (A5 ?_))));obtain rfl:=A8 hy;exact A4 (B7 KY (AX rfl)) (sC (sC (sS sN))) ⟨rfl,rfl⟩
theorem JT (hb:Nat)(ha:Nat)(q:Aq)(id:Ai)(r:Int×Aq)(h:JU q id=some r):Fn Tryd.prog GE 13 [rv (.pointer (some ⟨hb,0,none⟩)),rS id] [.blk hb [rv (.map (some ha))] 45,.map ha (AI Ah q.fTimers)] (λR H=>R=rI .i64 r.1∧H=[.blk hb [rv (.map (some ha))] 45,.map ha (AI Ah r.2.fTimers)]):=by
 refine enter (n:=26) Tryd.func13 rfl Tryd.ntmps13 rfl (λw Z=>?_);refine Be (l':=[(0,rv (.pointer (some ⟨hb,0,none⟩))),(1,rS id)]) (H':=[.blk hb [rv (.map (some ha))] 45,.map ha (AI Ah q.fTimers)]) rfl rfl ?_;unfold JU at h;refine At (wv (r:=rI .i64 0) (Am rfl) (A3 (Ay (At (wm rfl ?_)))));obtain⟨r1,e3,h2⟩:=AL h;refine DS (Hr:=[]) LR (Gd hb ha q r1 e3) rfl (PY _) rfl ?_;rintro _ _ ⟨rfl,rfl⟩;refine wv (BQ rfl) (A3 (A7 (b:=!r1.1) rfl (λc4=>?_) (λc4=>?_)))
 ·have h5:=AN c4 h2;refine At (wv (r:=rI .i64 10) (Am rfl) (A3 (A5 (Ak ?_))));obtain rfl:=A8 h5;exact A4 (B7 Tryd.results13 (AX rfl)) (sC (sC sN)) ⟨rfl,rfl⟩
 ·have h6:=AO c4 h2;refine AD (Bb (Ay (At (wm rfl (wv (Bt rfl) (wv (Ae Hj rfl Hk rfl rfl) (wv (Az (i:=0) Hl rfl rfl rfl) (wm rfl (wv (r:=EP [Ba [rS (((A6 r1.2.fTimers id (Aa.mk (Ab.mk ([]:Ai) 0 ([]:Ai) ([]:Ai) ([]:(List Ac))) false)).fTimer).fID),rI .i64 (((A6 r1.2.fTimers id (Aa.mk (Ab.mk ([]:Ai) 0 ([]:Ai) ([]:Ai) ([]:(List Ac))) false)).fTimer).fAt),rS (((A6 r1.2.fTimers id (Aa.mk (Ab.mk ([]:Ai) 0 ([]:Ai) ([]:Ai) ([]:(List Ac))) false)).fTimer).fTenant),rS (((A6 r1.2.fTimers id (Aa.mk (Ab.mk ([]:Ai) 0 ([]:Ai) ([]:Ai) ([]:(List Ac))) false)).fTimer).fSource),Bl 4 (List.map Af (((A6 r1.2.fTimers id (Aa.mk (Ab.mk ([]:Ai) 0 ([]:Ai) ([]:Ai) ([]:(List Ac))) false)).fTimer).fBody)),rB ((A6 r1.2.fTimers id (Aa.mk (Ab.mk ([]:Ai) 0 ([]:Ai) ([]:Ai) ([]:(List Ac))) false)).fTold)],rB (C8 r1.2.fTimers id)]) (KB (enc:=Ah) (xs:=r1.2.fTimers) (z:=Aa.mk (Ab.mk ([]:Ai) 0 ([]:Ai) ([]:Ai) ([]:(List Ac))) false) (i:=1) HP GP IV Ck rfl rfl rfl) (wm rfl (wv (Bh rfl rfl) (wv (Bh rfl rfl) (C4 (cs:=[rS ([]:Ai),rI .i64 0,rS ([]:Ai),rS ([]:Ai),rv (.slice none 0 0),rB false]) IV rfl rfl (λb7=>?_))))))))))))));refine B1 (i:=0) LO rfl rfl rfl (Bx.c rfl) rfl rfl (cs':=[rS (((A6 r1.2.fTimers id (Aa.mk (Ab.mk ([]:Ai) 0 ([]:Ai) ([]:Ai) ([]:(List Ac))) false)).fTimer).fID),rI .i64 (((A6 r1.2.fTimers id (Aa.mk (Ab.mk ([]:Ai) 0 ([]:Ai) ([]:Ai) ([]:(List Ac))) false)).fTimer).fAt),rS (((A6 r1.2.fTimers id (Aa.mk (Ab.mk ([]:Ai) 0 ([]:Ai) ([]:Ai) ([]:(List Ac))) false)).fTimer).fTenant),rS (((A6 r1.2.fTimers id (Aa.mk (Ab.mk ([]:Ai) 0 ([]:Ai) ([]:Ai) ([]:(List Ac))) false)).fTimer).fSource),Bl 4 (List.map Af (((A6 r1.2.fTimers id (Aa.mk (Ab.mk ([]:Ai) 0 ([]:Ai) ([]:Ai) ([]:(List Ac))) false)).fTimer).fBody)),rB ((A6 r1.2.fTimers id (Aa.mk (Ab.mk ([]:Ai) 0 ([]:Ai) ([]:Ai) ([]:(List Ac))) false)).fTold)]) rfl (H':=[.blk b7 [rS (((A6 r1.2.fTimers id (Aa.mk (Ab.mk ([]:Ai) 0 ([]:Ai) ([]:Ai) ([]:(List Ac))) false)).fTimer).fID),rI .i64 (((A6 r1.2.fTimers id (Aa.mk (Ab.mk ([]:Ai) 0 ([]:Ai) ([]:Ai) ([]:(List Ac))) false)).fTimer).fAt),rS (((A6 r1.2.fTimers id (Aa.mk (Ab.mk ([]:Ai) 0 ([]:Ai) ([]:Ai) ([]:(List Ac))) false)).fTimer).fTenant),rS (((A6 r1.2.fTimers id (Aa.mk (Ab.mk ([]:Ai) 0 ([]:Ai) ([]:Ai) ([]:(List Ac))) false)).fTimer).fSource),Bl 4 (List.map Af (((A6 r1.2.fTimers id (Aa.mk (Ab.mk ([]:Ai) 0 ([]:Ai) ([]:Ai) ([]:(List Ac))) false)).fTimer).fBody)),rB ((A6 r1.2.fTimers id (Aa.mk (Ab.mk ([]:Ai) 0 ([]:Ai) ([]:Ai) ([]:(List Ac))) false)).fTold)] 53,.blk hb [rv (.map (some ha))] 45,.map ha (AI Ah r1.2.fTimers)]) rfl (wa rfl (C2 (wm rfl (wv (BQ rfl) (A3 (A7 (b:=!(C8 r1.2.fTimers id)) rfl (λc8=>?_) (λc8=>?_)))))))
  ·have h9:=AN c8 h6;refine At (wv (r:=rI .i64 5) (Am rfl) (A3 (A5 (Ak ?_))));obtain rfl:=A8 h9;exact A4 (B7 Tryd.results13 (AX rfl)) (sS (sC (sC sN))) ⟨rfl,rfl⟩
  ·have hd:=AO c8 h6;refine AD (Bb (At (wm rfl (wv (Bt rfl) (wv (Ae Hj rfl Hk rfl rfl) (wv (Az (i:=1) Hl rfl rfl rfl) (wm rfl (Ns (enc:=Ah) (xs:=r1.2.fTimers) (i:=2) HP GP rfl rfl rfl (H':=[.blk b7 [rS (((A6 r1.2.fTimers id (Aa.mk (Ab.mk ([]:Ai) 0 ([]:Ai) ([]:Ai) ([]:(List Ac))) false)).fTimer).fID),rI .i64 (((A6 r1.2.fTimers id (Aa.mk (Ab.mk ([]:Ai) 0 ([]:Ai) ([]:Ai) ([]:(List Ac))) false)).fTimer).fAt),rS (((A6 r1.2.fTimers id (Aa.mk (Ab.mk ([]:Ai) 0 ([]:Ai) ([]:Ai) ([]:(List Ac))) false)).fTimer).fTenant),rS (((A6 r1.2.fTimers id (Aa.mk (Ab.mk ([]:Ai) 0 ([]:Ai) ([]:Ai) ([]:(List Ac))) false)).fTimer).fSource),Bl 4 (List.map Af (((A6 r1.2.fTimers id (Aa.mk (Ab.mk ([]:Ai) 0 ([]:Ai) ([]:Ai) ([]:(List Ac))) false)).fTimer).fBody)),rB ((A6 r1.2.fTimers id (Aa.mk (Ab.mk ([]:Ai) 0 ([]:Ai) ([]:Ai) ([]:(List Ac))) false)).fTold)] 53,.blk hb [rv (.map (some ha))] 45,.map ha (AI Ah (mdel r1.2.fTimers id))]) rfl (C2 (wv (r:=rI .i64 0) (Am rfl) (A3 (A5 ?_))))))))))));obtain rfl:=A8 hd;exact A4 (B7 Tryd.results13 (AX rfl)) (sS (sC (sC sN))) ⟨rfl,rfl⟩
theorem Ew (hd:Nat)(hb:Nat)(q:Aq)(id:Ai)(r:Int×Aq)(h:Dp q id=some r):Fn Tryd.prog GE 12 [rv (.pointer (some ⟨hd,0,none⟩)),rS id] [.blk hd [rv (.map (some hb))] 45,.map hb (AI Ah q.fTimers)] (λR H=>R=rI .i64 r.1∧H=[.blk hd [rv (.map (some hb))] 45,.map hb (AI Ah r.2.fTimers)]):=by
 refine enter (n:=19) Tryd.func12 rfl Tryd.ntmps12 rfl (λw Z=>?_);refine Be (l':=[(0,rv (.pointer (some ⟨hd,0,none⟩))),(1,rS id)]) (H':=[.blk hd [rv (.map (some hb))] 45,.map hb (AI Ah q.fTimers)]) rfl rfl ?_;unfold Dp at h;refine At (wv (r:=rI .i64 0) (Am rfl) (A3 (Ay (Cm (S:=(Bool×(List (Ai×Aa)))×(Unit)) (λσ=>CE id σ.1.1 σ.1.2=some r) (λσ=>[(0,rv (.pointer (some ⟨hd,0,none⟩))),(1,rS id),(4,rI .i64 0),(15,rB σ.1.1)]) (λσ=>[.blk hd [rv (.map (some hb))] 45,.map hb (AI Ah σ.1.2)]) ?_ ?_))))
 ·refine Au (wm rfl ?_);obtain⟨r9,hh,hg⟩:=AL h;refine DS (Hr:=[]) LR (Gd hd hb q r9 hh) rfl (PY _) rfl ?_;rintro _ _ ⟨rfl,rfl⟩;refine wm rfl (AG (r9.1) (λha=>?_) (λha=>?_))
  ·have hi:=AN ha hg;exact wo ha (wm rfl (wo ha (wv (Bt rfl) (wo ha (wv (Ae Hj rfl Hk rfl rfl) (wo ha (wv (Az (i:=0) Hl rfl rfl rfl) (wo ha (wm rfl (wo ha (wv (r:=Ba [rS (((A6 r9.2.fTimers id (Aa.mk (Ab.mk ([]:Ai) 0 ([]:Ai) ([]:Ai) ([]:(List Ac))) false)).fTimer).fID),rI .i64 (((A6 r9.2.fTimers id (Aa.mk (Ab.mk ([]:Ai) 0 ([]:Ai) ([]:Ai) ([]:(List Ac))) false)).fTimer).fAt),rS (((A6 r9.2.fTimers id (Aa.mk (Ab.mk ([]:Ai) 0 ([]:Ai) ([]:Ai) ([]:(List Ac))) false)).fTimer).fTenant),rS (((A6 r9.2.fTimers id (Aa.mk (Ab.mk ([]:Ai) 0 ([]:Ai) ([]:Ai) ([]:(List Ac))) false)).fTimer).fSource),Bl 4 (List.map Af (((A6 r9.2.fTimers id (Aa.mk (Ab.mk ([]:Ai) 0 ([]:Ai) ([]:Ai) ([]:(List Ac))) false)).fTimer).fBody)),rB ((A6 r9.2.fTimers id (Aa.mk (Ab.mk ([]:Ai) 0 ([]:Ai) ([]:Ai) ([]:(List Ac))) false)).fTold)]) (M5 (enc:=Ah) (xs:=r9.2.fTimers) (z:=Aa.mk (Ab.mk ([]:Ai) 0 ([]:Ai) ([]:Ai) ([]:(List Ac))) false) (i:=1) HP GP IV Ck rfl rfl rfl) (wo ha (wv (r:=rB ((A6 r9.2.fTimers id (Aa.mk (Ab.mk ([]:Ai) 0 ([]:Ai) ([]:Ai) ([]:(List Ac))) false)).fTold)) (NC KX rfl LT rfl rfl) (Hm rfl ha rfl (Ar (A0 (AK (((A6 r9.2.fTimers id (Aa.mk (Ab.mk ([]:Ai) 0 ([]:Ai) ([]:Ai) ([]:(List Ac))) false)).fTold,r9.2.fTimers),()) hi (AJ.c rfl (AJ.c rfl (AJ.c rfl (AJ.c rfl AJ.nil)))) (sC (sC sN)))))))))))))))))))
  ·have hj:=AO ha hg;exact wf ha (wf ha (wf ha (wf ha (wf ha (wf ha (wf ha (wv (r:=rB false) (A1 (b:=r9.1) rfl ha rfl) (Ar (A0 (AK ((false,r9.2.fTimers),()) hj (AJ.c rfl (AJ.c rfl (AJ.c rfl (AJ.c rfl AJ.nil)))) (sC (sC sN))))))))))))
 ·rintro⟨⟨x7,x8⟩,⟨⟩⟩ he;refine Be (l':=[(0,rv (.pointer (some ⟨hd,0,none⟩))),(1,rS id),(4,rI .i64 0),(15,rB x7)]) (H':=[.blk hd [rv (.map (some hb))] 45,.map hb (AI Ah x8)]) rfl rfl ?_;replace he:CE id x7 x8=some r:=he;unfold CE at he;refine A7 (b:=x7) rfl (λhf=>?_) (λhf=>?_)
  ·have hk:=AN hf he;refine At (wv (r:=rI .i64 10) (Am rfl) (A3 (A5 (Ak ?_))));obtain rfl:=A8 hk;exact A4 (B7 Tryd.results12 (AX rfl)) (sC (sC sN)) ⟨rfl,rfl⟩
  ·have hl:=AO hf he;refine AD (Bb (At (wm rfl (wm rfl ?_))));obtain⟨hm,hn,ho⟩:=AL hl;refine DS (Hr:=[]) Tryd.call13 (JT hd hb (Aq.mk x8) id hm hn) rfl (PY _) rfl ?_;rintro _ _ ⟨rfl,rfl⟩;refine wa rfl (A3 (A5 ?_));obtain rfl:=A8 ho;exact A4 (B7 Tryd.results12 (AX rfl)) (sC (sC sN)) ⟨rfl,rfl⟩
theorem Nt (hb:Nat)(ha:Nat)(q:Aq)(r:Int×Bool×Aq)(h:Mc q=some r):Fn Tryd.prog GE 19 [rv (.pointer (some ⟨hb,0,none⟩))] [.blk hb [rv (.map (some ha))] 45,.map ha (AI Ah q.fTimers)] (λR H=>R=EP [rI .i64 r.1,rB r.2.1]∧H=[.blk hb [rv (.map (some ha))] 45,.map ha (AI Ah r.2.2.fTimers)]):=by
 refine enter (n:=14) Tryd.func19 rfl Tryd.ntmps19 rfl (λw Z=>?_);refine Be (l':=[(0,rv (.pointer (some ⟨hb,0,none⟩)))]) (H':=[.blk hb [rv (.map (some ha))] 45,.map ha (AI Ah q.fTimers)]) rfl rfl ?_;unfold Mc at h;refine At (wv (r:=rI .i64 0) (Am rfl) (wv (r:=rB false) (Am rfl) (C2 (wm rfl ?_))));obtain⟨r1,e3,h2⟩:=AL h;refine DS (Hr:=[]) OT (Ev hb ha q r1 e3) rfl (PY _) rfl ?_;rintro _ _ ⟨v4,rfl,rfl⟩;refine wa rfl (A3 (Ay (At (wm rfl (wv (BI (ys:=r1.1) (enc:=Ad) (i:=0) Dc rfl rfl) (wv (Bw rfl rfl) (A3 (A7 (b:=decide ((r1.1.length:Int)=0)) rfl (λc5=>?_) (λc5=>?_)))))))))
 ·have h6:=AN c5 h2;refine At (wv (r:=rI .i64 0) (Am rfl) (wv (r:=rB false) (Am rfl) (A3 (A5 (Ak ?_)))));obtain rfl:=A8 h6;exact A4 (P9 Tryd.results19 (AX rfl) (AX rfl)) (sS (sC (sC sN))) ⟨rfl,rfl⟩
 ·have h7:=AO c5 h2;refine AD (Bb (At (wm rfl ?_)));obtain⟨g8,h9⟩:=AM h7;refine wv (r:=rv (Cz 5 v4 (Int.toNat 0) 0)) (Di (i:=0) Dc BE rfl rfl rfl (AU g8)) (wv (r:=rv (Cz 5 v4 (Int.toNat 0) 1)) (Co (k:=0) BD rfl CV rfl (AU g8) rfl rfl rfl) (wv (r:=rI .i64 ((Ao r1.1 0).fAt)) (CQ (enc:=Ad) (ys:=r1.1) (i:=0) (j:=0) Dr rfl rfl g8 rfl) (wa rfl (wv (r:=rB true) (Am rfl) (A3 (A5 ?_))))));obtain rfl:=A8 h9;exact A4 (P9 Tryd.results19 (AX rfl) (AX rfl)) (sS (sC (sC sN))) ⟨rfl,rfl⟩
end Go.Proofs.YtkoiaconljdbeaaDoor.Q
namespace Go.Proofs.YtkoiaconljdbeaaDoor
open Go
set_option linter.unusedVariables false
def Ca (a:Ab)(b:Ab)(ha:Int):Option (Stp (Int) (Out (Bool) (Unit))):=
 BA (decide (ha<(a.fBody.length:Int))) (BC (DU ha (a.fBody.length:Int))<|BC (DU ha (b.fBody.length:Int))<|BA (!(decide (((Ao a.fBody ha).fKind)=((Ao b.fBody ha).fKind))&&decide (((Ao a.fBody ha).fInt)=((Ao b.fBody ha).fInt))&&decide (((Ao a.fBody ha).fStr)=((Ao b.fBody ha).fStr))&&decide (((Ao a.fBody ha).fN)=((Ao b.fBody ha).fN)))) (some (.out (.ret false))) (BC (Cl .i64 (ha+1))<|some (.next (ha+1)))) (some (.out (.go ())))
def Ez :Option (Bool):=
 some true
def H3 (F:Nat)(a:Ab)(b:Ab):Option (Bool):=
 BA (((!decide (a.fID=b.fID))||((!decide (a.fAt=b.fAt))||((!decide (a.fTenant=b.fTenant))||((!decide (a.fSource=b.fSource))||(!decide ((a.fBody.length:Int)=(b.fBody.length:Int)))))))) (some false) (B9 (Dm (λσ=>Ca a b σ) F 0) (C7 λν=>Ez ))
def BZ (F:Nat)(a:(List Ab))(b:(List Ab))(ha:Int):Option (Stp (Int) (Out (Bool) (Unit))):=
 BA (decide (ha<(a.length:Int))) (BC (DU ha (a.length:Int))<|BC (DU ha (b.length:Int))<|B9 (H3 F (Ao a ha) (Ao b ha)) λhb=>BA (!hb) (some (.out (.ret false))) (BC (Cl .i64 (ha+1))<|some (.next (ha+1)))) (some (.out (.go ())))
def Ey :Option (Bool):=
 some true
def EQ (F:Nat)(a:(List Ab))(b:(List Ab)):Option (Bool):=
 BA (!decide ((a.length:Int)=(b.length:Int))) (some false) (B9 (Dm (λσ=>BZ F a b σ) F 0) (C7 λν=>Ey ))
def BY (t:Ab)(ha:Int):Option (Stp (Int) (Out (Bool) (Unit))):=
 BA (decide (ha<(t.fBody.length:Int))) (BC (DU ha (t.fBody.length:Int))<|BA (decide (5000<(((Ao t.fBody ha).fStr).length:Int))) (some (.out (.ret false))) (BC (Cl .i64 (ha+1))<|some (.next (ha+1)))) (some (.out (.go ())))
def Ex :Option (Bool):=
 some true
def Ds (F:Nat)(t:Ab):Option (Bool):=
 BA (((decide (300<(t.fID.length:Int)))||((decide (300<(t.fTenant.length:Int)))||((decide (300<(t.fSource.length:Int)))||(decide (300<(t.fBody.length:Int))))))) (some false) (B9 (Dm (λσ=>BY t σ) F 0) (C7 λν=>Ex ))
end Go.Proofs.YtkoiaconljdbeaaDoor
namespace Go.Proofs.YtkoiaconljdbeaaDoor.Q
open Go Go.RowKit
set_option linter.unusedVariables false
set_option linter.unusedSimpArgs false
set_option maxRecDepth 100000
set_option maxHeartbeats 4000000
theorem MZ {a0 b0:Int}{a1 b1:Int}{a2 b2:Ai}{a3 b3:Int}(w:World):(Op.equalIn 10000 70 (.agg #[.int .i64 a0,.int .i64 a1,.string (B a2),.int .i64 a3]) (.agg #[.int .i64 b0,.int .i64 b1,.string (B b2),.int .i64 b3])).run Tryd.prog w = .ok (decide (a0=b0)&&decide (a1=b1)&&decide (a2=b2)&&decide (a3=b3)) w:=by
  have hS:Tryd.prog.underlying 70=some (.struct (Tryd.prog.fieldsOf 70)):=by kernel_rfl
  have hp:Tryd.prog.stoodInHeld 70=false:=by kernel_rfl
  have u3:=P6;have ia3:=Dr;have so3:=CV;have u9:=GP;have ia9:=DR;have so9:=DA;have ha:=Tryd.underlying68;have hb:=Iz;have hd:=Iy;rw[show(10000:Nat)=9999+1 from rfl,run_equalIn_agg w 9999 70 _ _ hS hp];simp only[Program.fieldsOf,B4]
  go_simp
  simp only[BW]
  by_cases h0:a0=b0<;>by_cases h1:a1=b1<;>by_cases h2:a2=b2<;>by_cases h3:a3=b3<;>simp[h0,h1,h2,h3]
theorem Jw {n:Nat}{c:Cx}{l:Fr}{H:List Ent}{d:Option Nat}{ty rty:TypeId}{pos:String}{af:Array Edge}{g:Option (Nat×Bool)}{x y:Operand}{a0 b0:Int}{a1 b1:Int}{a2 b2:Ai}{a3 b3:Int}(hx:ev l x=some (Ba [rI .i64 a0,rI .i64 a1,rS a2,rI .i64 a3]))(hy:ev l y=some (Ba [rI .i64 b0,rI .i64 b1,rS b2,rI .i64 b3])):AT Tryd.prog n c l H { dst:=d,op:=.binOp .neq 70 x y rty,type:=ty,pos:=pos,after:=af,guard:=g } (rB (!(decide (a0=b0)&&decide (a1=b1)&&decide (a2=b2)&&decide (a3=b3)))):=λa w Z ha hw=>by
  obtain⟨us,e1,q1⟩:=ha.ev hx;obtain⟨vs,e2,q2⟩:=ha.ev hy;have k1:=A9.eq_rv (us:=[.int .i64 a0,.int .i64 a1,.string (B a2),.int .i64 a3]) q1;have k2:=A9.eq_rv (us:=[.int .i64 b0,.int .i64 b1,.string (B b2),.int .i64 b3]) q2;subst k1;subst k2;have hm:Tryd.prog.eqGuardType Tryd.prog.depth 70=false:=by kernel_rfl
  have hb:=MZ (a0:=a0) (a1:=a1) (a2:=a2) (a3:=a3) (b0:=b0) (b1:=b1) (b2:=b2) (b3:=b3) w;refine⟨.bool (!(decide (a0=b0)&&decide (a1=b1)&&decide (a2=b2)&&decide (a3=b3))),rfl,?_⟩;have hg:=run_eqGuard_agg (P:=Tryd.prog) w .neq 70 x y #[.int .i64 a0,.int .i64 a1,.string (B a2),.int .i64 a3] #[.int .i64 b0,.int .i64 b1,.string (B b2),.int .i64 b3] hm;simp only[execOp,e1,e2,Sem.run_bind,hg,Result.andThen_ok,run_neq_struct,hb,Sem.run_pure]
theorem Mq (F:Nat)(a:Ab)(b:Ab)(r:Bool)(h:H3 F a b=some r):Fn Tryd.prog GE 32 [Ba (Ad a),Ba (Ad b)] [] (λR H=>R=rB r∧H=[]):=by
 refine enter (n:=59) Tryd.func32 rfl Tryd.ntmps32 rfl (λw Z=>?_);refine Be (l':=[(0,Ba (Ad a)),(1,Ba (Ad b))]) (H':=[]) rfl rfl ?_;unfold H3 at h;refine At (Bz rfl rfl (λb1=>?_));refine Bz rfl rfl (λb2=>?_);refine wv (r:=rB false) (Am rfl) (A3 (Ay (AH [(2,rv (.pointer (some ⟨b1,0,none⟩))),(3,rv (.pointer (some ⟨b2,0,none⟩))),(40,rB ((!decide (a.fID=b.fID))||((!decide (a.fAt=b.fAt))||((!decide (a.fTenant=b.fTenant))||((!decide (a.fSource=b.fSource))||(!decide ((a.fBody.length:Int)=(b.fBody.length:Int))))))))] [.blk b2 (Ad b) 33,.blk b1 (Ad a) 33] ?_ ?_)))
 ·refine Au (wv (Ae BD rfl DA rfl rfl) (wv (Az (i:=1) DR rfl rfl rfl) (wv (Ae BD rfl DA rfl rfl) (wv (Az (i:=0) DR rfl rfl rfl) (wv (Ih rfl rfl) (wm rfl (AG (!decide (a.fID=b.fID)) (λc3=>?_) (λc3=>?_))))))))
  ·refine wf c3 (wf c3 (wf c3 (wf c3 (wf c3 (wv (r:=rB true) (Ap (b:=!decide (a.fID=b.fID)) rfl c3 rfl) (wm rfl (Aj (b:=true) rfl rfl rfl rfl (Aj (b:=true) rfl rfl rfl rfl (Aj (b:=true) rfl rfl rfl rfl (Aj (b:=true) rfl rfl rfl rfl (Aj (b:=true) rfl rfl rfl rfl (wv (r:=rB true) (Ap (b:=true) rfl rfl rfl) (wm rfl (Aj (b:=true) rfl rfl rfl rfl (Aj (b:=true) rfl rfl rfl rfl (Aj (b:=true) rfl rfl rfl rfl (Aj (b:=true) rfl rfl rfl rfl (Aj (b:=true) rfl rfl rfl rfl (wv (r:=rB true) (Ap (b:=true) rfl rfl rfl) (wm rfl (Aj (b:=true) rfl rfl rfl rfl (Aj (b:=true) rfl rfl rfl rfl (Aj (b:=true) rfl rfl rfl rfl ?_)))))))))))))))))))))));refine Aj (b:=true) rfl rfl rfl rfl (Aj (b:=true) rfl rfl rfl rfl (Aj (b:=true) rfl rfl rfl rfl (Aj (b:=true) rfl rfl rfl rfl (wv (r:=rB true) (Ap (b:=true) rfl rfl rfl) (Ar ?_)))));exact CM c3
  ·refine wo c3 (wv (Ae BD rfl CV rfl rfl) (wo c3 (wv (Az (i:=1) Dr rfl rfl rfl) (wo c3 (wv (Ae BD rfl CV rfl rfl) (wo c3 (wv (Az (i:=0) Dr rfl rfl rfl) (wo c3 (wv (Dt rfl rfl) (Hn rfl c3 rfl (wm rfl (AG (!decide (a.fAt=b.fAt)) (λc4=>?_) (λc4=>?_)))))))))))))
   ·refine wf c4 (wf c4 (wf c4 (wf c4 (wf c4 (wv (r:=rB true) (Ap (b:=!decide (a.fAt=b.fAt)) rfl c4 rfl) (wm rfl (Aj (b:=true) rfl rfl rfl rfl (Aj (b:=true) rfl rfl rfl rfl (Aj (b:=true) rfl rfl rfl rfl (Aj (b:=true) rfl rfl rfl rfl (Aj (b:=true) rfl rfl rfl rfl (wv (r:=rB true) (Ap (b:=true) rfl rfl rfl) (wm rfl (Aj (b:=true) rfl rfl rfl rfl (Aj (b:=true) rfl rfl rfl rfl (Aj (b:=true) rfl rfl rfl rfl (Aj (b:=true) rfl rfl rfl rfl (Aj (b:=true) rfl rfl rfl rfl (Aj (b:=true) rfl rfl rfl rfl (Aj (b:=true) rfl rfl rfl rfl (wv (r:=rB true) (Ap (b:=true) rfl rfl rfl) (Ar ?_))))))))))))))))))))));exact CM (And.intro c3 c4)
   ·refine wo c4 (wv (Ae BD rfl DA rfl rfl) (wo c4 (wv (Az (i:=1) DR rfl rfl rfl) (wo c4 (wv (Ae BD rfl DA rfl rfl) (wo c4 (wv (Az (i:=0) DR rfl rfl rfl) (wo c4 (wv (Ih rfl rfl) (Hn rfl c4 rfl (wm rfl (AG (!decide (a.fTenant=b.fTenant)) (λc5=>?_) (λc5=>?_)))))))))))))
    ·refine wf c5 (wf c5 (wf c5 (wf c5 (wf c5 (wv (r:=rB true) (Ap (b:=!decide (a.fTenant=b.fTenant)) rfl c5 rfl) (wm rfl (Aj (b:=true) rfl rfl rfl rfl (Aj (b:=true) rfl rfl rfl rfl (Aj (b:=true) rfl rfl rfl rfl (Aj (b:=true) rfl rfl rfl rfl (Aj (b:=true) rfl rfl rfl rfl (Aj (b:=true) rfl rfl rfl rfl (Aj (b:=true) rfl rfl rfl rfl (wv (r:=rB true) (Ap (b:=true) rfl rfl rfl) (Ar ?_)))))))))))))));exact CM (And.intro c3 (And.intro c4 c5))
    ·refine wo c5 (wv (Ae BD rfl DA rfl rfl) (wo c5 (wv (Az (i:=1) DR rfl rfl rfl) (wo c5 (wv (Ae BD rfl DA rfl rfl) (wo c5 (wv (Az (i:=0) DR rfl rfl rfl) (wo c5 (wv (Ih rfl rfl) (Hn rfl c5 rfl (wm rfl (AG (!decide (a.fSource=b.fSource)) (λc6=>?_) (λc6=>?_)))))))))))))
     ·refine wf c6 (wf c6 (wf c6 (wf c6 (wf c6 (wf c6 (wf c6 (wv (r:=rB true) (Ap (b:=!decide (a.fSource=b.fSource)) rfl c6 rfl) (Ar ?_))))))));exact CM (And.intro c3 (And.intro c4 (And.intro c5 c6)))
     ·refine wo c6 (wv (Ae BD rfl GR rfl rfl) (wo c6 (wv (Az (i:=1) HS rfl rfl rfl) (wo c6 (wv (Br (ys:=a.fBody) (enc:=Af) DW rfl) (wo c6 (wv (Ae BD rfl GR rfl rfl) (wo c6 (wv (Az (i:=0) HS rfl rfl rfl) (wo c6 (wv (Br (ys:=b.fBody) (enc:=Af) DW rfl) (wo c6 (wv (Dt rfl rfl) (Hn rfl c6 rfl (Ar ?_)))))))))))))));exact CM (And.intro c3 (And.intro c4 (And.intro c5 c6)))
 refine A7 (b:=((!decide (a.fID=b.fID))||((!decide (a.fAt=b.fAt))||((!decide (a.fTenant=b.fTenant))||((!decide (a.fSource=b.fSource))||(!decide ((a.fBody.length:Int)=(b.fBody.length:Int)))))))) rfl (λc7=>?_) (λc7=>?_)
 ·have h8:=AN c7 h;refine At (wv (r:=rB false) (Am rfl) (A3 (A5 (Ak ?_))));obtain rfl:=A8 h8;exact A4 (B7 Tryd.results32 (AX rfl)) (sS (sS sN)) ⟨rfl,rfl⟩
 ·have h9:=AO c7 h;refine AD (Bb (Ay (At (wv (Ae BD rfl GR rfl rfl) (wv (Az (i:=1) HS rfl rfl rfl) (wv (Br (ys:=a.fBody) (enc:=Af) DW rfl) (wv (r:=rI .i64 0) (Aw rfl) (A3 (AP ?_)))))))));obtain⟨hj,hk,hh⟩:=AL h9;refine BF (S:=Nat×(Int)×(Unit)) (V:=(Unit)×(Unit)) 0 (λσ=>Dm (λσ=>Ca a b σ) σ.1 σ.2.1=some hj) (λσ=>[(2,rv (.pointer (some ⟨b1,0,none⟩))),(3,rv (.pointer (some ⟨b2,0,none⟩))),(43,rI .i64 (a.fBody.length:Int)),(44,rI .i64 σ.2.1)]) (λσ=>[.blk b2 (Ad b) 33,.blk b1 (Ad a) 33]) (λσ=>σ.1) (F,0,()) hk (AJ.c rfl (AJ.c rfl (AJ.c rfl (AJ.c rfl AJ.nil)))) (sC (sC sN)) (λσ=>Ez =some r) (λσ=>[]) (λσ=>[]) ?_ ?_
  ·rintro⟨h1,ha,⟨⟩⟩ hl;refine Be (l':=[(2,rv (.pointer (some ⟨b1,0,none⟩))),(3,rv (.pointer (some ⟨b2,0,none⟩))),(43,rI .i64 (a.fBody.length:Int)),(44,rI .i64 ha)]) (H':=[.blk b2 (Ad b) 33,.blk b1 (Ad a) 33]) rfl rfl ?_;obtain⟨hm,rfl,hn,hb,he⟩:=Ei hl;replace hb:Ca a b ha=some hn:=hb;unfold Ca at hb;refine At (wv (G1 rfl rfl) (A3 (Ay (A7 (b:=decide (ha<(a.fBody.length:Int))) rfl (λhf=>?_) (λhf=>?_)))))
   ·have ho:=AN hf hb;refine AD (Bb (Ay (AP (At (wm rfl (wa rfl (A3 (Ay ?_))))))));obtain⟨hp,hq⟩:=AM ho;obtain⟨hr,hi⟩:=AM hq;refine I2 [2,3,5,43,44] [⟨[],rv (.pointer (some ⟨b1,4,none⟩)),0⟩,⟨[0],Bl 4 (List.map Af a.fBody),1⟩,⟨[],rI .i64 ha,0⟩,⟨[1,2],N0 (Af (Ao a.fBody ha)),0⟩,⟨[3],Ba (Af (Ao a.fBody ha)),0⟩,⟨[],rv (.pointer (some ⟨b2,4,none⟩)),0⟩,⟨[5],Bl 4 (List.map Af b.fBody),1⟩,⟨[],rI .i64 ha,0⟩,⟨[6,7],N0 (Af (Ao b.fBody ha)),0⟩,⟨[8],Ba (Af (Ao b.fBody ha)),0⟩,⟨[4,9],rB (!(decide (((Ao a.fBody ha).fKind)=((Ao b.fBody ha).fKind))&&decide (((Ao a.fBody ha).fInt)=((Ao b.fBody ha).fInt))&&decide (((Ao a.fBody ha).fStr)=((Ao b.fBody ha).fStr))&&decide (((Ao a.fBody ha).fN)=((Ao b.fBody ha).fN)))),0⟩] [47,48,49,50,51,52,53,54,55,56,57,2,3,43,44] ?_ ?_
    ·refine oq (Ae BD rfl GR rfl rfl) (of (Az (i:=1) HS rfl rfl rfl) (oq (Aw rfl) (oq (Dh (enc:=Af) (ys:=a.fBody) DW GQ rfl rfl hp) (oq (Cs LS GQ rfl rfl rfl) (oq (Ae BD rfl GR rfl rfl) (of (Az (i:=0) HS rfl rfl rfl) (oq (Aw rfl) (oq (Dh (enc:=Af) (ys:=b.fBody) DW GQ rfl rfl hr) (oq (Cs LS GQ rfl rfl rfl) (oq (Jw rfl rfl) ?_))))))))));exact Ee
    refine Bb (A7 (b:=!(decide (((Ao a.fBody ha).fKind)=((Ao b.fBody ha).fKind))&&decide (((Ao a.fBody ha).fInt)=((Ao b.fBody ha).fInt))&&decide (((Ao a.fBody ha).fStr)=((Ao b.fBody ha).fStr))&&decide (((Ao a.fBody ha).fN)=((Ao b.fBody ha).fN)))) rfl (λhg=>?_) (λhg=>?_))
    ·have hs:=AN hg hi;refine At (wv (r:=rB false) (Am rfl) (A3 (A5 (AB (Ak (Ak (Bv ?_)))))));have ht:=C5 hs he hh;refine AB (Ak ?_);obtain rfl:=A8 ht;exact A4 (B7 Tryd.results32 (AX rfl)) (sS (sS sN)) ⟨rfl,rfl⟩
    ·have hu:=AO hg hi;refine AD (AV (Bb (Au ?_)));obtain⟨hw,hx⟩:=AM hu;refine wv (Cf rfl rfl hw) (wm rfl (Ar ?_));have hy:=BG hx he;exact A0 (AK (hm,ha+1,()) ⟨hy,Q0 _⟩ (AJ.c rfl (AJ.c rfl (AJ.c rfl (AJ.c rfl AJ.nil)))) (sC (sC sN)))
   ·have hz:=AO hf hb;refine B0 (AC ?_);have h0:=Dg hz he hh;exact AC (Bs (AK ((),()) h0 AJ.nil (sS (sS sN))))
  ·rintro⟨⟨⟩,⟨⟩⟩ hd;refine DL (l':=[]) (H':=[]) rfl rfl ?_;replace hd:Ez =some r:=hd;unfold Ez at hd;refine Bk (Bb (At (wv (r:=rB true) (Am rfl) (A3 (A5 ?_)))));obtain rfl:=A8 hd;exact A4 (B7 Tryd.results32 (AX rfl)) sN ⟨rfl,rfl⟩
theorem Jk (F:Nat)(a:(List Ab))(b:(List Ab))(r:Bool)(h:EQ F a b=some r):Fn Tryd.prog GE 11 [Bl 5 (List.map Ad a),Bl 5 (List.map Ad b)] [] (λR H=>R=rB r∧H=[]):=by
 refine enter (n:=27) Tryd.func11 rfl Tryd.ntmps11 rfl (λw Z=>?_);refine Be (l':=[(0,Bl 5 (List.map Ad a)),(1,Bl 5 (List.map Ad b))]) (H':=[]) rfl rfl ?_;unfold EQ at h;refine At (wv (r:=rB false) (Am rfl) (A3 (Ay (At (wm rfl (wv (Br (ys:=a) (enc:=Ad) Dc rfl) (wm rfl (wv (Br (ys:=b) (enc:=Ad) Dc rfl) (wv (Dt rfl rfl) (A3 (A7 (b:=!decide ((a.length:Int)=(b.length:Int))) rfl (λc1=>?_) (λc1=>?_))))))))))))
 ·have h2:=AN c1 h;refine At (wv (r:=rB false) (Am rfl) (A3 (A5 (Ak ?_))));obtain rfl:=A8 h2;exact A4 (B7 Tryd.results11 (AX rfl)) sN ⟨rfl,rfl⟩
 ·have h3:=AO c1 h;refine AD (Bb (Ay (At (wm rfl (wv (Br (ys:=a) (enc:=Ad) Dc rfl) (wv (r:=rI .i64 0) (Aw rfl) (A3 (AP ?_))))))));obtain⟨hk,hl,hh⟩:=AL h3;refine BF (S:=Nat×(Int)×(Unit)) (V:=(Unit)×(Unit)) 0 (λσ=>Dm (λσ=>BZ F a b σ) σ.1 σ.2.1=some hk) (λσ=>[(0,Bl 5 (List.map Ad a)),(1,Bl 5 (List.map Ad b)),(12,rI .i64 (a.length:Int)),(13,rI .i64 σ.2.1)]) (λσ=>[]) (λσ=>σ.1) (F,0,()) hl (AJ.c rfl (AJ.c rfl (AJ.c rfl (AJ.c rfl AJ.nil)))) sN (λσ=>Ey =some r) (λσ=>[]) (λσ=>[]) ?_ ?_
  ·rintro⟨h6,ha,⟨⟩⟩ hm;refine Be (l':=[(0,Bl 5 (List.map Ad a)),(1,Bl 5 (List.map Ad b)),(12,rI .i64 (a.length:Int)),(13,rI .i64 ha)]) (H':=[]) rfl rfl ?_;obtain⟨hn,rfl,ho,hb,he⟩:=Ei hm;replace hb:BZ F a b ha=some ho:=hb;unfold BZ at hb;refine At (wv (G1 rfl rfl) (A3 (Ay (A7 (b:=decide (ha<(a.length:Int))) rfl (λhf=>?_) (λhf=>?_)))))
   ·have hp:=AN hf hb;refine AD (Bb (Ay (AP (At (wm rfl (wa rfl (A3 (Ay ?_))))))));obtain⟨hq,hr⟩:=AM hp;obtain⟨hs,ht⟩:=AM hr;refine GV 8 [0,1,5,12,13] [⟨[],Bl 5 (List.map Ad a),none,none,none⟩,⟨[],rI .i64 ha,none,none,none⟩,⟨[0,1],N0 (Ad (Ao a ha)),none,none,none⟩,⟨[2],Ba (Ad (Ao a ha)),none,none,none⟩,⟨[],Bl 5 (List.map Ad b),none,none,none⟩,⟨[],rI .i64 ha,none,none,none⟩,⟨[4,5],N0 (Ad (Ao b ha)),none,none,none⟩,⟨[6],Ba (Ad (Ao b ha)),none,none,none⟩] ?_ (λβ=>?_)
    ·refine Hc (Aw rfl) (Hc (Aw rfl) (Hc (Dh (enc:=Ad) (ys:=a) Dc BE rfl rfl hq) (Hc (Cs DX BE rfl rfl rfl) (Hc (Aw rfl) (Hc (Aw rfl) (Hc (Dh (enc:=Ad) (ys:=b) Dc BE rfl rfl hs) (Hc (Cs DX BE rfl rfl rfl) ?_)))))));exact P0
    refine I1 (H1:=[]) [16,17,18,19,20,21,22,23,0,1,5,12,13] ?_;obtain⟨hi,hu,hj⟩:=AL ht;refine GX Tryd.call32 (Mq F (Ao a ha) (Ao b ha) hi hu) rfl (wv (BQ rfl) (A3 (A7 (b:=!hi) rfl (λhg=>?_) (λhg=>?_))))
    ·have hw:=AN hg hj;refine At (wv (r:=rB false) (Am rfl) (A3 (A5 (AB (Ak (Ak (Bv ?_)))))));have hx:=C5 hw he hh;refine AB (Ak ?_);obtain rfl:=A8 hx;exact A4 (B7 Tryd.results11 (AX rfl)) sN ⟨rfl,rfl⟩
    ·have hy:=AO hg hj;refine AD (AV (Bb (Au ?_)));obtain⟨hz,h0⟩:=AM hy;refine wv (Cf rfl rfl hz) (wm rfl (Ar ?_));have h1:=BG h0 he;exact A0 (AK (hn,ha+1,()) ⟨h1,Q0 _⟩ (AJ.c rfl (AJ.c rfl (AJ.c rfl (AJ.c rfl AJ.nil)))) sN)
   ·have h4:=AO hf hb;refine B0 (AC ?_);have h5:=Dg h4 he hh;exact AC (Bs (AK ((),()) h5 AJ.nil sN))
  ·rintro⟨⟨⟩,⟨⟩⟩ hd;refine DL (l':=[]) (H':=[]) rfl rfl ?_;replace hd:Ey =some r:=hd;unfold Ey at hd;refine Bk (Bb (At (wv (r:=rB true) (Am rfl) (A3 (A5 ?_)))));obtain rfl:=A8 hd;exact A4 (B7 Tryd.results11 (AX rfl)) sN ⟨rfl,rfl⟩
theorem Ji (F:Nat)(t:Ab)(r:Bool)(h:Ds F t=some r):Fn Tryd.prog GE 14 [Ba (Ad t)] [] (λR H=>R=rB r∧H=[]):=by
 refine enter (n:=41) Tryd.func14 rfl Tryd.ntmps14 rfl (λw Z=>?_);refine Be (l':=[(0,Ba (Ad t))]) (H':=[]) rfl rfl ?_;unfold Ds at h;refine At (Bz rfl rfl (λb1=>?_));refine wv (r:=rB false) (Am rfl) (A3 (Ay (AH [(1,rv (.pointer (some ⟨b1,0,none⟩))),(25,rB ((decide (300<(t.fID.length:Int)))||((decide (300<(t.fTenant.length:Int)))||((decide (300<(t.fSource.length:Int)))||(decide (300<(t.fBody.length:Int)))))))] [.blk b1 (Ad t) 33] ?_ ?_)))
 ·refine Au (wv (Ae BD rfl DA rfl rfl) (wv (Az (i:=0) DR rfl rfl rfl) (wv (BM GP rfl) (wv (DE rfl rfl) (wm rfl (AG (decide (300<(t.fID.length:Int))) (λc2=>?_) (λc2=>?_)))))))
  ·refine wf c2 (wf c2 (wf c2 (wf c2 (wv (r:=rB true) (Ap (b:=decide (300<(t.fID.length:Int))) rfl c2 rfl) (wm rfl (Aj (b:=true) rfl rfl rfl rfl (Aj (b:=true) rfl rfl rfl rfl (Aj (b:=true) rfl rfl rfl rfl (Aj (b:=true) rfl rfl rfl rfl (wv (r:=rB true) (Ap (b:=true) rfl rfl rfl) (wm rfl (Aj (b:=true) rfl rfl rfl rfl (Aj (b:=true) rfl rfl rfl rfl (Aj (b:=true) rfl rfl rfl rfl (Aj (b:=true) rfl rfl rfl rfl (wv (r:=rB true) (Ap (b:=true) rfl rfl rfl) (Ar ?_)))))))))))))))));exact CM c2
  ·refine wo c2 (wv (Ae BD rfl DA rfl rfl) (wo c2 (wv (Az (i:=0) DR rfl rfl rfl) (wo c2 (wv (BM GP rfl) (wo c2 (wv (DE rfl rfl) (Hn rfl c2 rfl (wm rfl (AG (decide (300<(t.fTenant.length:Int))) (λc3=>?_) (λc3=>?_)))))))))))
   ·refine wf c3 (wf c3 (wf c3 (wf c3 (wv (r:=rB true) (Ap (b:=decide (300<(t.fTenant.length:Int))) rfl c3 rfl) (wm rfl (Aj (b:=true) rfl rfl rfl rfl (Aj (b:=true) rfl rfl rfl rfl (Aj (b:=true) rfl rfl rfl rfl (Aj (b:=true) rfl rfl rfl rfl (wv (r:=rB true) (Ap (b:=true) rfl rfl rfl) (Ar ?_)))))))))));exact CM (And.intro c2 c3)
   ·refine wo c3 (wv (Ae BD rfl DA rfl rfl) (wo c3 (wv (Az (i:=0) DR rfl rfl rfl) (wo c3 (wv (BM GP rfl) (wo c3 (wv (DE rfl rfl) (Hn rfl c3 rfl (wm rfl (AG (decide (300<(t.fSource.length:Int))) (λc4=>?_) (λc4=>?_)))))))))))
    ·refine wf c4 (wf c4 (wf c4 (wf c4 (wv (r:=rB true) (Ap (b:=decide (300<(t.fSource.length:Int))) rfl c4 rfl) (Ar ?_)))));exact CM (And.intro c2 (And.intro c3 c4))
    ·refine wo c4 (wv (Ae BD rfl GR rfl rfl) (wo c4 (wv (Az (i:=0) HS rfl rfl rfl) (wo c4 (wv (Br (ys:=t.fBody) (enc:=Af) DW rfl) (wo c4 (wv (DE rfl rfl) (Hn rfl c4 rfl (Ar ?_)))))))));exact CM (And.intro c2 (And.intro c3 c4))
 refine A7 (b:=((decide (300<(t.fID.length:Int)))||((decide (300<(t.fTenant.length:Int)))||((decide (300<(t.fSource.length:Int)))||(decide (300<(t.fBody.length:Int))))))) rfl (λc5=>?_) (λc5=>?_)
 ·have h6:=AN c5 h;refine At (wv (r:=rB false) (Am rfl) (A3 (A5 (Ak ?_))));obtain rfl:=A8 h6;exact A4 (B7 Tryd.results14 (AX rfl)) (sS sN) ⟨rfl,rfl⟩
 ·have h7:=AO c5 h;refine AD (Bb (Ay (At (wv (Ae BD rfl GR rfl rfl) (wv (Az (i:=0) HS rfl rfl rfl) (wv (Br (ys:=t.fBody) (enc:=Af) DW rfl) (wv (r:=rI .i64 0) (Aw rfl) (A3 (AP ?_)))))))));obtain⟨hj,hk,hh⟩:=AL h7;refine BF (S:=Nat×(Int)×(Unit)) (V:=(Unit)×(Unit)) 0 (λσ=>Dm (λσ=>BY t σ) σ.1 σ.2.1=some hj) (λσ=>[(1,rv (.pointer (some ⟨b1,0,none⟩))),(28,rI .i64 (t.fBody.length:Int)),(29,rI .i64 σ.2.1)]) (λσ=>[.blk b1 (Ad t) 33]) (λσ=>σ.1) (F,0,()) hk (AJ.c rfl (AJ.c rfl (AJ.c rfl AJ.nil))) (sC sN) (λσ=>Ex =some r) (λσ=>[]) (λσ=>[]) ?_ ?_
  ·rintro⟨hz,ha,⟨⟩⟩ hl;refine Be (l':=[(1,rv (.pointer (some ⟨b1,0,none⟩))),(28,rI .i64 (t.fBody.length:Int)),(29,rI .i64 ha)]) (H':=[.blk b1 (Ad t) 33]) rfl rfl ?_;obtain⟨hm,rfl,hn,hb,he⟩:=Ei hl;replace hb:BY t ha=some hn:=hb;unfold BY at hb;refine At (wv (G1 rfl rfl) (A3 (Ay (A7 (b:=decide (ha<(t.fBody.length:Int))) rfl (λhf=>?_) (λhf=>?_)))))
   ·have ho:=AN hf hb;refine AD (Bb (Ay (AP (At (wm rfl (wa rfl (C2 (wv (Ae BD rfl GR rfl rfl) (wv (Az (i:=0) HS rfl rfl rfl) (wm rfl ?_))))))))));obtain⟨hp,hi⟩:=AM ho;refine wv (Dh (enc:=Af) (ys:=t.fBody) DW GQ rfl rfl hp) (wv (CJ B4 rfl DA rfl rfl) (wv (H8 DR rfl rfl) (wv (BM GP rfl) (wv (DE rfl rfl) (A3 (A7 (b:=decide (5000<(((Ao t.fBody ha).fStr).length:Int))) rfl (λhg=>?_) (λhg=>?_)))))))
    ·have hq:=AN hg hi;refine At (wv (r:=rB false) (Am rfl) (A3 (A5 (AB (Ak (Ak (Bv ?_)))))));have hr:=C5 hq he hh;refine AB (Ak ?_);obtain rfl:=A8 hr;exact A4 (B7 Tryd.results14 (AX rfl)) (sS sN) ⟨rfl,rfl⟩
    ·have hs:=AO hg hi;refine AD (AV (Bb (Au ?_)));obtain⟨ht,hu⟩:=AM hs;refine wv (Cf rfl rfl ht) (wm rfl (Ar ?_));have hw:=BG hu he;exact A0 (AK (hm,ha+1,()) ⟨hw,Q0 _⟩ (AJ.c rfl (AJ.c rfl (AJ.c rfl AJ.nil))) (sC sN))
   ·have hx:=AO hf hb;refine B0 (AC ?_);have hy:=Dg hx he hh;exact AC (Bs (AK ((),()) hy AJ.nil (sS sN)))
  ·rintro⟨⟨⟩,⟨⟩⟩ hd;refine DL (l':=[]) (H':=[]) rfl rfl ?_;replace hd:Ex =some r:=hd;unfold Ex at hd;refine Bk (Bb (At (wv (r:=rB true) (Am rfl) (A3 (A5 ?_)))));obtain rfl:=A8 hd;exact A4 (B7 Tryd.results14 (AX rfl)) sN ⟨rfl,rfl⟩
end Go.Proofs.YtkoiaconljdbeaaDoor.Q
namespace Go.Proofs.YtkoiaconljdbeaaDoor
open Go
set_option linter.unusedVariables false
structure AE where
 fKind:Int
 fNow:Int
 fTimer:Ab
 deriving DecidableEq,Inhabited
def OV (id:Ai)(n:Int):Option (Ab):=
 some (Ab.mk id n ([116]:Ai) ([115]:Ai) ([(Ac.mk 1 0 ([]:Ai) 0)]:List Ac))
def G6 (F:Nat) :Option (Bool):=
 B9 (Me) λr1=>B9 (OV ([98]:Ai) 5) λr6=>B9 (Hw F r1 r6 0) λr9=>BC (!(!decide (r9.1=0)))<|B9 (OV ([97]:Ai) 5) λhi=>B9 (Hw F r9.2 hi 0) λhe=>BC (!(!decide (he.1=0)))<|B9 (OV ([99]:Ai) 3) λhj=>B9 (Hw F he.2 hj 0) λhf=>BC (!(!decide (hf.1=0)))<|B9 (JS F hf.2 4) λha=>B9 (JS F ha.2 5) λhb=>B9 (Mc hb.2) λhd=>BC (!(!decide ((ha.1.length:Int)=1)))<|BC (DU 0 (ha.1.length:Int))<|BC (!(!decide (((Ao ha.1 0).fID)=([99]:Ai))))<|BC (!(!decide ((hb.1.length:Int)=3)))<|BC (DU 1 (hb.1.length:Int))<|BC (!(!decide (((Ao hb.1 1).fID)=([97]:Ai))))<|BC (!(!decide (hd.1=3)))<|BC (!(!hd.2.1))<|B9 (JU hd.2.2 ([99]:Ai)) λhg=>BC (decide (hg.1=0))<|B9 (Dp hg.2 ([97]:Ai)) λhh=>BC (decide (hh.1=10))<|B9 (OV ([100]:Ai) 3) λhk=>B9 (Hw F hh.2 hk 4) λhl=>some (decide (hl.1=2))
def Cb (F:Nat)(l:(List AE))(ha:Int):Option (Stp (Int) (Out (Bool) (Unit))):=
 BA (decide (ha<(l.length:Int))) (BC (DU ha (l.length:Int))<|B9 (Ds F ((Ao l ha).fTimer)) λhb=>BA (!hb) (some (.out (.ret false))) (BC (Cl .i64 (ha+1))<|some (.next (ha+1)))) (some (.out (.go ())))
def E3 :Option (Bool):=
 some true
def CR (F:Nat)(l:(List AE)):Option (Bool):=
 BA (decide (300<(l.length:Int))) (some false) (B9 (Dm (λσ=>Cb F l σ) F 0) (C7 λν=>E3 ))
def Io (F:Nat)(q:Aq)(o:AE):Option (Int×Aq):=
 BA (decide (o.fKind=0)) (B9 (Hw F q o.fTimer o.fNow) λr4=>some (r4.1,r4.2)) (BA (decide (o.fKind=2)) (B9 (JU q o.fTimer.fID) λha=>some (ha.1,ha.2)) (BA (decide (o.fKind=3)) (B9 (Dp q o.fTimer.fID) λhb=>some (hb.1,hb.2)) (some (0,q))))
def Cq (F:Nat)(l:(List AE))(ha:Int)(hb:(List (Ai×Aa))):Option (Stp (Int×(List (Ai×Aa))) (Out (Aq) ((List (Ai×Aa))))):=
 BA (decide (ha<(l.length:Int))) (BC (DU ha (l.length:Int))<|BA (decide (((Ao l ha).fKind)=1)) (B9 (JS F (Aq.mk hb) ((Ao l ha).fNow)) λhd=>B9 (Io F hd.2 (AE.mk ((Ao l ha).fKind) ((Ao l ha).fNow) ((Ao l ha).fTimer))) λhe=>BC (Cl .i64 (ha+1))<|some (.next (ha+1,he.2.fTimers))) (B9 (Io F (Aq.mk hb) (AE.mk ((Ao l ha).fKind) ((Ao l ha).fNow) ((Ao l ha).fTimer))) λhf=>BC (Cl .i64 (ha+1))<|some (.next (ha+1,hf.2.fTimers)))) (some (.out (.go hb)))
def DG (ha:(List (Ai×Aa))):Option (Aq):=
 some (Aq.mk ha)
def Gs (F:Nat)(l:(List AE)):Option (Aq):=
 B9 (Me) λr1=>B9 (Dm (λσ=>Cq F l σ.1 σ.2) F (0,r1.fTimers)) (C7 λν=>DG ν)
def CN (ha:Bool)(hb:(List (Ai×Aa))):Option (Bool):=
 some ha
def Cu (ha:Bool):Option (Bool):=
 some ha
def BS (F:Nat)(t:Ab)(hb:(List Ab)×Aq)(hd:Bool)(he:(List (Ai×Aa))):Option (Bool):=
 BA (hd) (some false) (B9 (EA (Aq.mk he)) λha=>B9 (EQ F hb.1 ha.1) λhf=>BA (hf) (B9 (Dp ha.2 t.fID) λhg=>BA (decide (hg.1=5)) (B9 (G6 F) λhh=>Cu hh) (Cu false)) (Cu false))
def Ek (F:Nat)(l:(List AE))(t:Ab)(now:Int):Option (Bool):=
 BC ((CR F l).isSome)<|BC (imp (!(!(ov (CR F l)))) ((Ds F t).isSome))<|BA (((!(ov (CR F l)))||(!(ov (Ds F t))))) (B9 (G6 F) λr9=>some r9) (B9 (Gs F l) λhh=>B9 (EA hh) λha=>B9 (Hw F ha.2 t now) λhb=>BA (!decide (hb.1=0)) (B9 (EA hb.2) λhd=>B9 (EQ F ha.1 hd.1) λhi=>BA (hi) (B9 (G6 F) λhj=>CN hj hd.2.fTimers) (CN false hd.2.fTimers)) (B9 (EA hb.2) λhe=>BC (Cl .i64 ((ha.1.length:Int)+1))<|BA (!decide ((he.1.length:Int)=((ha.1.length:Int)+1))) (BS F t ha true he.2.fTimers) (B9 (Hw F he.2 t now) λhf=>BA (!decide (hf.1=6)) (BS F t ha true hf.2.fTimers) (B9 (Dp hf.2 t.fID) λhg=>BS F t ha (!decide (hg.1=0)) hg.2.fTimers))))
end Go.Proofs.YtkoiaconljdbeaaDoor
namespace Go.Proofs.YtkoiaconljdbeaaDoor.Q
open Go Go.RowKit
set_option linter.unusedVariables false
set_option linter.unusedSimpArgs false
set_option maxRecDepth 100000
set_option maxHeartbeats 4000000
@[reducible] def AA (x:AE):List Rp:=[rI .i64 x.fKind,rI .i64 x.fNow,rS x.fTimer.fID,rI .i64 x.fTimer.fAt,rS x.fTimer.fTenant,rS x.fTimer.fSource,Bl 4 (List.map Af x.fTimer.fBody)]
theorem Gv (x:AE):(AA x).length=7:=rfl
theorem NT (parts:List (Nat×Value)):Tryd.prog.built 33 parts=Instr.fill (λi=>(#[(0,1),(1,1),(2,1),(3,1),(4,1)]:Array (Nat×Nat))[i]?) #[(.string ⟨#[]⟩),(.int .i64 0),(.string ⟨#[]⟩),(.string ⟨#[]⟩),((.slice none 0 0))] parts:=by kernel_rfl
theorem E8 {n:Nat}{c:Cx}{l:Fr}{H:List Ent}{d:Option Nat}{ty:TypeId}{pos:String}{af:Array Edge}{g:Option (Nat×Bool)}{x0:Operand}{r0:Rp}(h0:ev l x0=some r0)(u0:r0.one=true){x1:Operand}{r1:Rp}(h1:ev l x1=some r1)(u1:r1.one=true){x2:Operand}{r2:Rp}(h2:ev l x2=some r2)(u2:r2.one=true){x3:Operand}{r3:Rp}(h3:ev l x3=some r3)(u3:r3.one=true){x4:Operand}{r4:Rp}(h4:ev l x4=some r4)(u4:r4.one=true):AT Tryd.prog n c l H { dst:=d,op:=.build 33 #[(0,x0),(1,x1),(2,x2),(3,x3),(4,x4)],type:=ty,pos:=pos,after:=af,guard:=g } (Ba [r0,r1,r2,r3,r4]):=λa w Z ha _=>by
  have p0:=ha.ev h0;have c0:=Bq (r0.hone u0 Z _ p0);have p1:=ha.ev h1;have c1:=Bq (r1.hone u1 Z _ p1);have p2:=ha.ev h2;have c2:=Bq (r2.hone u2 Z _ p2);have p3:=ha.ev h3;have c3:=Bq (r3.hone u3 Z _ p3);have p4:=ha.ev h4;have c4:=Bq (r4.hone u4 Z _ p4);have hb:Tryd.prog.built 33 [(0,a.eval x0),(1,a.eval x1),(2,a.eval x2),(3,a.eval x3),(4,a.eval x4)]=some #[a.eval x0,a.eval x1,a.eval x2,a.eval x3,a.eval x4]:=by
    rw[NT];generalize a.eval x0=v0 at *;generalize a.eval x1=v1 at *;generalize a.eval x2=v2 at *;generalize a.eval x3=v3 at *;generalize a.eval x4=v4 at *;simp[Instr.fill,c0,c1,c2,c3,c4]
  refine⟨.agg #[a.eval x0,a.eval x1,a.eval x2,a.eval x3,a.eval x4],⟨[a.eval x0,a.eval x1,a.eval x2,a.eval x3,a.eval x4],rfl,p0,p1,p2,p3,p4,trivial⟩,?_⟩;have:=run_build w 33 #[(0,a.eval x0),(1,a.eval x1),(2,a.eval x2),(3,a.eval x3),(4,a.eval x4)] _ (by simpa using hb);simp[execOp,this]
theorem NQ (parts:List (Nat×Value)):Tryd.prog.built 70 parts=Instr.fill (λi=>(#[(0,1),(1,1),(2,1),(3,1)]:Array (Nat×Nat))[i]?) #[(.int .i64 0),(.int .i64 0),(.string ⟨#[]⟩),(.int .i64 0)] parts:=by kernel_rfl
theorem Jt {n:Nat}{c:Cx}{l:Fr}{H:List Ent}{d:Option Nat}{ty:TypeId}{pos:String}{af:Array Edge}{g:Option (Nat×Bool)}{x0:Operand}{r0:Rp}(h0:ev l x0=some r0)(u0:r0.one=true):AT Tryd.prog n c l H { dst:=d,op:=.build 70 #[(0,x0)],type:=ty,pos:=pos,after:=af,guard:=g } (Ba [r0,rI .i64 0,rS ([]:Ai),rI .i64 0]):=λa w Z ha _=>by
  have p0:=ha.ev h0;have c0:=Bq (r0.hone u0 Z _ p0);have hb:Tryd.prog.built 70 [(0,a.eval x0)]=some #[a.eval x0,(.int .i64 0),(.string ⟨#[]⟩),(.int .i64 0)]:=by
    rw[NQ];generalize a.eval x0=v0 at *;simp[Instr.fill,c0]
  refine⟨.agg #[a.eval x0,(.int .i64 0),(.string ⟨#[]⟩),(.int .i64 0)],⟨[a.eval x0,(.int .i64 0),(.string ⟨#[]⟩),(.int .i64 0)],rfl,p0,rfl,rfl,rfl,trivial⟩,?_⟩;have:=run_build w 70 #[(0,a.eval x0)] _ (by simpa using hb);simp[execOp,this]
theorem KK (id:Ai)(n:Int)(r:Ab)(h:OV id n=some r):Fn Tryd.prog GE 18 [rS id,rI .i64 n] [] (λR H=>R=Ba (Ad r)∧H=[]):=by
 refine enter (n:=10) Tryd.func18 rfl Tryd.ntmps18 rfl (λw Z=>?_);refine Be (l':=[(0,rS id),(1,rI .i64 n)]) (H':=[]) rfl rfl ?_;unfold OV at h;refine At (C4 (cs:=[rS ([]:Ai),rI .i64 0,rS ([]:Ai),rS ([]:Ai),rv (.slice none 0 0)]) LN rfl rfl (λb1=>?_));refine C2 (wm rfl (wm rfl (wv (r:=Ba [rI .i64 1,rI .i64 0,rS ([]:Ai),rI .i64 0]) (Jt rfl rfl) (C3 (ys:=([(Ac.mk 1 0 ([]:Ai) 0)]:List Ac)) (enc:=Af) (css:=[[rI .i64 1,rI .i64 0,rS ([]:Ai),rI .i64 0]]) (xs:=[.tmp 7]) DW GQ Ov rfl rfl rfl ⟨Or.agg ⟨Up.refl _,Up.refl _,Up.refl _,Up.refl _,trivial⟩,trivial⟩ rfl CL rfl rfl rfl (λb2=>?_)))));refine wv (r:=Ba [rS id,rI .i64 n,rS ([116]:Ai),rS ([115]:Ai),rv (.slice (some ⟨b2,0,none⟩) 1 1)]) (E8 rfl rfl rfl rfl rfl rfl rfl rfl rfl rfl) (B1 (i:=1) BE rfl rfl rfl ⟨(BL rfl),(BL rfl),(BL rfl),(BL rfl),(N7 (i:=0) rfl),trivial⟩ rfl rfl (cs':=[rS id,rI .i64 n,rS ([116]:Ai),rS ([115]:Ai),rv (.slice (some ⟨b2,0,none⟩) 1 1)]) rfl (H':=[.row (.slice (some ⟨b2,0,none⟩) 1 1) 70 4 (List.map Af ([(Ac.mk 1 0 ([]:Ai) 0)]:List Ac)),.blk b1 [rS id,rI .i64 n,rS ([116]:Ai),rS ([115]:Ai),rv (.slice (some ⟨b2,0,none⟩) 1 1)] 33]) rfl (A3 (A5 (WK.freeze (i:=0) rfl (WK.upBlk (i:=1) (cs':=[rS id,rI .i64 n,rS ([116]:Ai),rS ([115]:Ai),Bl 4 (List.map Af ([(Ac.mk 1 0 ([]:Ai) 0)]:List Ac))]) rfl ⟨Up.refl _,Up.refl _,Up.refl _,Up.refl _,Up.fact (i:=0) rfl,trivial⟩ ?_)))));obtain rfl:=A8 h;exact A4 (B7 Tryd.results18 (H0 (i:=1) DX BE rfl rfl rfl)) (sS (sS sN)) ⟨rfl,rfl⟩
theorem HD (F:Nat)  (r:Bool)(h:G6 F=some r):Fn Tryd.prog GE 7 [] [] (λR H=>R=rB r∧H=[]):=by
 refine enter (n:=80) Tryd.func7 rfl Tryd.ntmps7 rfl (λw Z=>?_);refine Be (l':=[]) (H':=[]) rfl rfl ?_;unfold G6 at h;refine At (wv (r:=rB false) (Am rfl) (C2 ?_));obtain⟨r1,e3,h2⟩:=AL h;refine DS (Hr:=[]) Tryd.call17 (Md r1 e3) rfl (PY _) rfl ?_;rintro _ _ ⟨b4,b5,rfl,rfl⟩;refine wa rfl (A3 (Ay (At (wm rfl (wv (r:=rB false) (M4 ⟨_,Nj⟩ rfl) (wm rfl (AF (b:=false) rfl rfl rfl (wm rfl (AF (b:=false) rfl rfl rfl ?_)))))))));obtain⟨r6,e8,h7⟩:=AL h2;refine GX Tryd.call18 (KK ([98]:Ai) 5 r6 e8) rfl (AF (b:=false) rfl rfl rfl ?_);obtain⟨r9,hx,hy⟩:=AL h7;refine DS (Hr:=[]) JQ (EI F b4 b5 r1 r6 0 r9 hx) rfl (PY _) rfl ?_;rintro _ _ ⟨rfl,rfl⟩;refine AF (b:=false) rfl rfl rfl (wv (Dt rfl rfl) (wv (r:=rB (!decide (r9.1=0))) (A1 (b:=false) rfl rfl rfl) (wm rfl ?_)));obtain⟨hh,hz⟩:=AM hy;refine AF (b:=!decide (r9.1=0)) rfl rfl (Bool.not_eq_eq_eq_not.1 hh) (wm rfl (AF (b:=!decide (r9.1=0)) rfl rfl (Bool.not_eq_eq_eq_not.1 hh) ?_));obtain⟨hr,h0,h1⟩:=AL hz;refine GX Tryd.call18 (KK ([97]:Ai) 5 hr h0) rfl (AF (b:=!decide (r9.1=0)) rfl rfl (Bool.not_eq_eq_eq_not.1 hh) ?_);obtain⟨hd,h3,h4⟩:=AL h1;refine DS (Hr:=[]) JQ (EI F b4 b5 r9.2 hr 0 hd h3) rfl (PY _) rfl ?_;rintro _ _ ⟨rfl,rfl⟩;refine AF (b:=!decide (r9.1=0)) rfl rfl (Bool.not_eq_eq_eq_not.1 hh) (wv (Dt rfl rfl) (wv (r:=rB (!decide (hd.1=0))) (A1 (b:=!decide (r9.1=0)) rfl (Bool.not_eq_eq_eq_not.1 hh) rfl) (wm rfl ?_)));obtain⟨hi,h5⟩:=AM h4;refine AF (b:=!decide (hd.1=0)) rfl rfl (Bool.not_eq_eq_eq_not.1 hi) (wm rfl (AF (b:=!decide (hd.1=0)) rfl rfl (Bool.not_eq_eq_eq_not.1 hi) ?_));obtain⟨hs,h6,h8⟩:=AL h5;refine GX Tryd.call18 (KK ([99]:Ai) 3 hs h6) rfl (AF (b:=!decide (hd.1=0)) rfl rfl (Bool.not_eq_eq_eq_not.1 hi) ?_);obtain⟨hk,h9,hA⟩:=AL h8;refine DS (Hr:=[]) JQ (EI F b4 b5 hd.2 hs 0 hk h9) rfl (PY _) rfl ?_;rintro _ _ ⟨rfl,rfl⟩;refine AF (b:=!decide (hd.1=0)) rfl rfl (Bool.not_eq_eq_eq_not.1 hi) (wv (Dt rfl rfl) (wv (r:=rB (!decide (hk.1=0))) (A1 (b:=!decide (hd.1=0)) rfl (Bool.not_eq_eq_eq_not.1 hi) rfl) (A3 ?_)));obtain⟨hB,hC⟩:=AM hA;refine CD (b:=!decide (hk.1=0)) rfl (Bool.not_eq_eq_eq_not.1 hB) (AD (Bb (At (wm rfl ?_))));obtain⟨ha,hD,hE⟩:=AL hC;refine DS (Hr:=[]) Tryd.call10 (JR F b4 b5 hk.2 4 ha hD) rfl (PY _) rfl ?_;rintro _ _ ⟨v33,rfl,rfl⟩;refine wa rfl (C2 (wm rfl ?_));obtain⟨hb,hG,hH⟩:=AL hE;refine DS (Hr:=[.row v33 33 5 (List.map Ad ha.1)]) Tryd.call10 (JR F b4 b5 ha.2 5 hb hG) rfl ((Ax (i:=1) rfl).trans (Qb _ ((Ax (i:=1) rfl).trans (Qb _ (PY _))))) rfl ?_;rintro _ _ ⟨v37,rfl,rfl⟩;refine wa rfl (C2 (wm rfl ?_));obtain⟨he,hI,hJ⟩:=AL hH;refine DS (Hr:=[.row v37 33 5 (List.map Ad hb.1),.row v33 33 5 (List.map Ad ha.1)]) Tryd.call19 (Nt b4 b5 hb.2 he hI) rfl ((Ax (i:=1) rfl).trans (Qb _ ((Ax (i:=1) rfl).trans (Qb _ (PY _))))) rfl ?_;rintro _ _ ⟨rfl,rfl⟩;refine wm rfl (wv (Bh rfl rfl) (wv (Bh rfl rfl) (wa rfl (wa rfl (A3 (Ay (At (wm rfl (wv (BI (ys:=ha.1) (enc:=Ad) (i:=3) Dc rfl rfl) (wv (Dt rfl rfl) (wm rfl ?_)))))))))));obtain⟨hf,hK⟩:=AM hJ;refine AF (b:=!decide ((ha.1.length:Int)=1)) rfl rfl (Bool.not_eq_eq_eq_not.1 hf) (wm rfl (AF (b:=!decide ((ha.1.length:Int)=1)) rfl rfl (Bool.not_eq_eq_eq_not.1 hf) ?_));obtain⟨hn,hL⟩:=AM hK;refine wv (r:=rv (Cz 5 v33 (Int.toNat 0) 0)) (Di (i:=3) Dc BE rfl rfl rfl (AU hn)) (AF (b:=!decide ((ha.1.length:Int)=1)) rfl rfl (Bool.not_eq_eq_eq_not.1 hf) (wv (r:=rv (Cz 5 v33 (Int.toNat 0) 0)) (Co (k:=3) BD rfl DA rfl (AU hn) rfl rfl rfl) (AF (b:=!decide ((ha.1.length:Int)=1)) rfl rfl (Bool.not_eq_eq_eq_not.1 hf) (wv (r:=rS ((Ao ha.1 0).fID)) (CQ (enc:=Ad) (ys:=ha.1) (i:=3) (j:=0) DR rfl rfl hn rfl) (AF (b:=!decide ((ha.1.length:Int)=1)) rfl rfl (Bool.not_eq_eq_eq_not.1 hf) (wv (Ih rfl rfl) (wv (r:=rB (!decide (((Ao ha.1 0).fID)=([99]:Ai)))) (A1 (b:=!decide ((ha.1.length:Int)=1)) rfl (Bool.not_eq_eq_eq_not.1 hf) rfl) (wm rfl ?_))))))));obtain⟨hl,hN⟩:=AM hL;refine AF (b:=!decide (((Ao ha.1 0).fID)=([99]:Ai))) rfl rfl (Bool.not_eq_eq_eq_not.1 hl) (wm rfl (AF (b:=!decide (((Ao ha.1 0).fID)=([99]:Ai))) rfl rfl (Bool.not_eq_eq_eq_not.1 hl) (wv (BI (ys:=hb.1) (enc:=Ad) (i:=2) Dc rfl rfl) (AF (b:=!decide (((Ao ha.1 0).fID)=([99]:Ai))) rfl rfl (Bool.not_eq_eq_eq_not.1 hl) (wv (Dt rfl rfl) (wv (r:=rB (!decide ((hb.1.length:Int)=3))) (A1 (b:=!decide (((Ao ha.1 0).fID)=([99]:Ai))) rfl (Bool.not_eq_eq_eq_not.1 hl) rfl) (wm rfl ?_)))))));obtain⟨hg,hO⟩:=AM hN;refine AF (b:=!decide ((hb.1.length:Int)=3)) rfl rfl (Bool.not_eq_eq_eq_not.1 hg) (wm rfl (AF (b:=!decide ((hb.1.length:Int)=3)) rfl rfl (Bool.not_eq_eq_eq_not.1 hg) ?_));obtain⟨ho,hP⟩:=AM hO;refine wv (r:=rv (Cz 5 v37 (Int.toNat 1) 0)) (Di (i:=2) Dc BE rfl rfl rfl (AU ho)) (AF (b:=!decide ((hb.1.length:Int)=3)) rfl rfl (Bool.not_eq_eq_eq_not.1 hg) (wv (r:=rv (Cz 5 v37 (Int.toNat 1) 0)) (Co (k:=2) BD rfl DA rfl (AU ho) rfl rfl rfl) (AF (b:=!decide ((hb.1.length:Int)=3)) rfl rfl (Bool.not_eq_eq_eq_not.1 hg) (wv (r:=rS ((Ao hb.1 1).fID)) (CQ (enc:=Ad) (ys:=hb.1) (i:=2) (j:=1) DR rfl rfl ho rfl) (AF (b:=!decide ((hb.1.length:Int)=3)) rfl rfl (Bool.not_eq_eq_eq_not.1 hg) (wv (Ih rfl rfl) (wv (r:=rB (!decide (((Ao hb.1 1).fID)=([97]:Ai)))) (A1 (b:=!decide ((hb.1.length:Int)=3)) rfl (Bool.not_eq_eq_eq_not.1 hg) rfl) (wm rfl ?_))))))));obtain⟨hp,hQ⟩:=AM hP;refine AF (b:=!decide (((Ao hb.1 1).fID)=([97]:Ai))) rfl rfl (Bool.not_eq_eq_eq_not.1 hp) (wm rfl (AF (b:=!decide (((Ao hb.1 1).fID)=([97]:Ai))) rfl rfl (Bool.not_eq_eq_eq_not.1 hp) (wv (Dt rfl rfl) (wv (r:=rB (!decide (he.1=3))) (A1 (b:=!decide (((Ao hb.1 1).fID)=([97]:Ai))) rfl (Bool.not_eq_eq_eq_not.1 hp) rfl) (wm rfl ?_)))));obtain⟨hq,hR⟩:=AM hQ;refine AF (b:=!decide (he.1=3)) rfl rfl (Bool.not_eq_eq_eq_not.1 hq) (wm rfl (AF (b:=!decide (he.1=3)) rfl rfl (Bool.not_eq_eq_eq_not.1 hq) (wv (BQ rfl) (wv (r:=rB (!he.2.1)) (A1 (b:=!decide (he.1=3)) rfl (Bool.not_eq_eq_eq_not.1 hq) rfl) (A3 ?_)))));obtain⟨hS,hT⟩:=AM hR;refine CD (b:=!he.2.1) rfl (Bool.not_eq_eq_eq_not.1 hS) (AD (Bb (At (wm rfl ?_))));obtain⟨ht,hU,hV⟩:=AL hT;refine DS (Hr:=[.row v37 33 5 (List.map Ad hb.1),.row v33 33 5 (List.map Ad ha.1)]) Tryd.call13 (JT b4 b5 he.2.2 ([99]:Ai) ht hU) rfl (PY _) rfl ?_;rintro _ _ ⟨rfl,rfl⟩;refine wv (Bw rfl rfl) (wm rfl ?_);obtain⟨hm,hW⟩:=AM hV;refine wo hm (wm rfl (wo hm ?_));obtain⟨hu,hX,hY⟩:=AL hW;refine DS (Hr:=[.row v37 33 5 (List.map Ad hb.1),.row v33 33 5 (List.map Ad ha.1)]) Tryd.call12 (Ew b4 b5 ht.2 ([97]:Ai) hu hX) rfl (PY _) rfl ?_;rintro _ _ ⟨rfl,rfl⟩;refine wo hm (wv (Bw rfl rfl) (Hm rfl hm rfl (wm rfl ?_)));obtain⟨hj,hZ⟩:=AM hY;refine wo hj (wm rfl (wo hj ?_));obtain⟨hw,ga,gb⟩:=AL hZ;refine GX Tryd.call18 (KK ([100]:Ai) 3 hw ga) rfl (wo hj ?_);obtain⟨gc,gd,ge⟩:=AL gb;refine DS (Hr:=[.row v37 33 5 (List.map Ad hb.1),.row v33 33 5 (List.map Ad ha.1)]) JQ (EI F b4 b5 hu.2 hw 4 gc gd) rfl (PY _) rfl ?_;rintro _ _ ⟨rfl,rfl⟩;refine wo hj (wv (Bw rfl rfl) (Hm rfl hj rfl (wa rfl (A3 (A5 ?_)))));obtain rfl:=A8 ge;exact A4 (B7 Tryd.results7 (AX rfl)) (sS (sS (sS (sS sN)))) ⟨rfl,rfl⟩
theorem ML (F:Nat)(l:(List AE))(r:Bool)(h:CR F l=some r):Fn Tryd.prog GE 6 [Bl 7 (List.map AA l)] [] (λR H=>R=rB r∧H=[]):=by
 refine enter (n:=20) Tryd.func6 rfl Tryd.ntmps6 rfl (λw Z=>?_);refine Be (l':=[(0,Bl 7 (List.map AA l))]) (H':=[]) rfl rfl ?_;unfold CR at h;refine At (wv (r:=rB false) (Am rfl) (A3 (Ay (At (wm rfl (wv (Br (ys:=l) (enc:=AA) IW rfl) (wv (DE rfl rfl) (A3 (A7 (b:=decide (300<(l.length:Int))) rfl (λc1=>?_) (λc1=>?_))))))))))
 ·have h2:=AN c1 h;refine At (wv (r:=rB false) (Am rfl) (A3 (A5 (Ak ?_))));obtain rfl:=A8 h2;exact A4 (B7 Tryd.results6 (AX rfl)) sN ⟨rfl,rfl⟩
 ·have h3:=AO c1 h;refine AD (Bb (Ay (At (wm rfl (wv (Br (ys:=l) (enc:=AA) IW rfl) (wv (r:=rI .i64 0) (Aw rfl) (A3 (AP ?_))))))));obtain⟨hk,hl,hh⟩:=AL h3;refine BF (S:=Nat×(Int)×(Unit)) (V:=(Unit)×(Unit)) 0 (λσ=>Dm (λσ=>Cb F l σ) σ.1 σ.2.1=some hk) (λσ=>[(0,Bl 7 (List.map AA l)),(2,rB false),(8,rI .i64 (l.length:Int)),(9,rI .i64 σ.2.1)]) (λσ=>[]) (λσ=>σ.1) (F,0,()) hl (AJ.c rfl (AJ.c rfl (AJ.c rfl (AJ.c rfl AJ.nil)))) sN (λσ=>E3 =some r) (λσ=>[(2,rB false)]) (λσ=>[]) ?_ ?_
  ·rintro⟨h1,ha,⟨⟩⟩ hm;refine Be (l':=[(0,Bl 7 (List.map AA l)),(2,rB false),(8,rI .i64 (l.length:Int)),(9,rI .i64 ha)]) (H':=[]) rfl rfl ?_;obtain⟨hn,rfl,t46,hb,he⟩:=Ei hm;replace hb:Cb F l ha=some t46:=hb;unfold Cb at hb;refine At (wv (G1 rfl rfl) (A3 (Ay (A7 (b:=decide (ha<(l.length:Int))) rfl (λhf=>?_) (λhf=>?_)))))
   ·have ho:=AN hf hb;refine AD (Bb (Ay (AP (At (wm rfl (wa rfl (C2 (wm rfl (wm rfl ?_)))))))));obtain⟨hp,hq⟩:=AM ho;refine wv (Dh (enc:=AA) (ys:=l) IW JO rfl rfl hp) (wv (CJ HQ rfl BE rfl rfl) (wv (Cs DX BE rfl rfl rfl) ?_));obtain⟨hi,hr,hj⟩:=AL hq;refine GX Tryd.call14 (Ji F ((Ao l ha).fTimer) hi hr) rfl (wv (BQ rfl) (A3 (A7 (b:=!hi) rfl (λhg=>?_) (λhg=>?_))))
    ·have hs:=AN hg hj;refine At (wv (r:=rB false) (Am rfl) (A3 (A5 (AB (Ak (Ak (Bv ?_)))))));have ht:=C5 hs he hh;refine AB (Ak ?_);obtain rfl:=A8 ht;exact A4 (B7 Tryd.results6 (AX rfl)) sN ⟨rfl,rfl⟩
    ·have hu:=AO hg hj;refine AD (AV (Bb (Au ?_)));obtain⟨hw,hx⟩:=AM hu;refine wv (Cf rfl rfl hw) (wm rfl (Ar ?_));have hy:=BG hx he;exact A0 (AK (hn,ha+1,()) ⟨hy,Q0 _⟩ (AJ.c rfl (AJ.c rfl (AJ.c rfl (AJ.c rfl AJ.nil)))) sN)
   ·have hz:=AO hf hb;refine B0 (AC ?_);have h0:=Dg hz he hh;exact AC (Bs (AK ((),()) h0 (AJ.c rfl AJ.nil) sN))
  ·rintro⟨⟨⟩,⟨⟩⟩ hd;refine DL (l':=[(2,rB false)]) (H':=[]) rfl rfl ?_;replace hd:E3 =some r:=hd;unfold E3 at hd;refine Bk (Bb (At (wv (r:=rB true) (Am rfl) (A3 (A5 ?_)))));obtain rfl:=A8 hd;exact A4 (B7 Tryd.results6 (AX rfl)) sN ⟨rfl,rfl⟩
theorem KJ (F:Nat)(hb:Nat)(ha:Nat)(q:Aq)(o:AE)(r:Int×Aq)(h:Io F q o=some r):Fn Tryd.prog GE 20 [rv (.pointer (some ⟨hb,0,none⟩)),Ba (AA o)] [.blk hb [rv (.map (some ha))] 45,.map ha (AI Ah q.fTimers)] (λR H=>R=rI .i64 r.1∧H=[.blk hb [rv (.map (some ha))] 45,.map ha (AI Ah r.2.fTimers)]):=by
 refine enter (n:=30) Tryd.func20 rfl Tryd.ntmps20 rfl (λw Z=>?_);refine Be (l':=[(0,rv (.pointer (some ⟨hb,0,none⟩))),(1,Ba (AA o))]) (H':=[.blk hb [rv (.map (some ha))] 45,.map ha (AI Ah q.fTimers)]) rfl rfl ?_;unfold Io at h;refine At (Bz rfl rfl (λb1=>?_));refine wv (r:=rI .i64 0) (Am rfl) (A3 (Ay (At (wv (Ae HQ rfl CV rfl rfl) (wv (Az (i:=0) Dr rfl rfl rfl) (wv (Bw rfl rfl) (A3 (A7 (b:=decide (o.fKind=0)) rfl (λc2=>?_) (λc2=>?_)))))))))
 ·have h3:=AN c2 h;refine At (wm rfl (wv (Ae HQ rfl BE rfl rfl) (wv (Bc (i:=0) DX BE rfl rfl rfl rfl) (wv (Ae HQ rfl CV rfl rfl) (wv (Az (i:=0) Dr rfl rfl rfl) ?_)))));obtain⟨r4,e6,h5⟩:=AL h3;refine DS (Hr:=[.blk b1 (AA o) 41]) JQ (EI F hb ha q o.fTimer o.fNow r4 e6) rfl ((Ax (i:=1) rfl).trans (Qb _ ((Ax (i:=1) rfl).trans (Qb _ (PY _))))) rfl ?_;rintro _ _ ⟨rfl,rfl⟩;refine wa rfl (A3 (A5 (Ak ?_)));obtain rfl:=A8 h5;exact A4 (B7 Nm (AX rfl)) (sC (sC (sS sN))) ⟨rfl,rfl⟩
 ·have h7:=AO c2 h;refine AD (Bb (Ay (At (wv (Ae HQ rfl CV rfl rfl) (wv (Az (i:=0) Dr rfl rfl rfl) (wv (Bw rfl rfl) (A3 (A7 (b:=decide (o.fKind=2)) rfl (λc8=>?_) (λc8=>?_)))))))))
  ·have h9:=AN c8 h7;refine At (wm rfl (wv (Ae HQ rfl BE rfl rfl) (wv (Ae BD rfl DA rfl rfl) (wv (Az (i:=0) DR rfl rfl rfl) ?_))));obtain⟨hf,hg,hh⟩:=AL h9;refine DS (Hr:=[.blk b1 (AA o) 41]) Tryd.call13 (JT hb ha q o.fTimer.fID hf hg) rfl ((Ax (i:=1) rfl).trans (Qb _ ((Ax (i:=1) rfl).trans (Qb _ (PY _))))) rfl ?_;rintro _ _ ⟨rfl,rfl⟩;refine wa rfl (A3 (A5 (Ak ?_)));obtain rfl:=A8 hh;exact A4 (B7 Nm (AX rfl)) (sC (sC (sS sN))) ⟨rfl,rfl⟩
  ·have he:=AO c8 h7;refine AD (Bb (Ay (At (wv (Ae HQ rfl CV rfl rfl) (wv (Az (i:=0) Dr rfl rfl rfl) (wv (Bw rfl rfl) (A3 (A7 (b:=decide (o.fKind=3)) rfl (λhd=>?_) (λhd=>?_)))))))))
   ·have hi:=AN hd he;refine At (wm rfl (wv (Ae HQ rfl BE rfl rfl) (wv (Ae BD rfl DA rfl rfl) (wv (Az (i:=0) DR rfl rfl rfl) ?_))));obtain⟨hj,hk,hl⟩:=AL hi;refine DS (Hr:=[.blk b1 (AA o) 41]) Tryd.call12 (Ew hb ha q o.fTimer.fID hj hk) rfl ((Ax (i:=1) rfl).trans (Qb _ ((Ax (i:=1) rfl).trans (Qb _ (PY _))))) rfl ?_;rintro _ _ ⟨rfl,rfl⟩;refine wa rfl (A3 (A5 (Ak ?_)));obtain rfl:=A8 hl;exact A4 (B7 Nm (AX rfl)) (sC (sC (sS sN))) ⟨rfl,rfl⟩
   ·have hm:=AO hd he;refine AD (Bb (At (wv (r:=rI .i64 0) (Am rfl) (A3 (A5 ?_)))));obtain rfl:=A8 hm;exact A4 (B7 Nm (AX rfl)) (sS (sC (sC sN))) ⟨rfl,rfl⟩
theorem L5 (F:Nat)(l:(List AE))(r:Aq)(h:Gs F l=some r):Fn Tryd.prog GE 8 [Bl 7 (List.map AA l)] [] (λR H=>∃u0:Nat,∃u0_0:Nat,R=rv (.pointer (some ⟨u0,0,none⟩))∧H=[.blk u0 [rv (.map (some u0_0))] 45,.map u0_0 (AI Ah r.fTimers)]):=by
 refine enter (n:=36) Tryd.func8 rfl Tryd.ntmps8 rfl (λw Z=>?_);refine Be (l':=[(0,Bl 7 (List.map AA l))]) (H':=[]) rfl rfl ?_;unfold Gs at h;refine At (wv (r:=rv (.pointer none)) (Am rfl) (C2 ?_));obtain⟨r1,e3,h2⟩:=AL h;refine DS (Hr:=[]) Tryd.call17 (Md r1 e3) rfl (PY _) rfl ?_;rintro _ _ ⟨b4,b5,rfl,rfl⟩;refine wa rfl (A3 (Ay (At (wv (r:=rI .i64 0) (Am rfl) (A3 (AP ?_))))));obtain⟨hq,hr,hs⟩:=AL h2;refine BF (S:=Nat×(Int×(List (Ai×Aa)))×(Unit)) (V:=((List (Ai×Aa)))×(Unit)) 0 (λσ=>Dm (λσ=>Cq F l σ.1 σ.2) σ.1 σ.2.1=some hq) (λσ=>[(0,Bl 7 (List.map AA l)),(3,rv (.pointer (some ⟨b4,0,none⟩))),(4,rI .i64 σ.2.1.1)]) (λσ=>[.blk b4 [rv (.map (some b5))] 45,.map b5 (AI Ah σ.2.1.2)]) (λσ=>σ.1) (F,(0,r1.fTimers),()) hr (AJ.c rfl (AJ.c rfl (AJ.c rfl AJ.nil))) (sC (sC sN)) (λσ=>DG σ.1=some r) (λσ=>[(3,rv (.pointer (some ⟨b4,0,none⟩)))]) (λσ=>[.blk b4 [rv (.map (some b5))] 45,.map b5 (AI Ah σ.1)]) ?_ ?_
 ·rintro⟨hG,⟨ha,hd⟩,⟨⟩⟩ ht;refine Be (l':=[(0,Bl 7 (List.map AA l)),(3,rv (.pointer (some ⟨b4,0,none⟩))),(4,rI .i64 ha)]) (H':=[.blk b4 [rv (.map (some b5))] 45,.map b5 (AI Ah hd)]) rfl rfl ?_;obtain⟨hl,rfl,hu,he,hh⟩:=Ei ht;replace he:Cq F l ha hd=some hu:=he;unfold Cq at he;refine Ay (AH [(0,Bl 7 (List.map AA l)),(3,rv (.pointer (some ⟨b4,0,none⟩))),(4,rI .i64 ha),(13,rB (decide (ha<(l.length:Int))))] [.blk b4 [rv (.map (some b5))] 45,.map b5 (AI Ah hd)] ?_ ?_)
  ·refine Au (wm rfl (wm rfl (wv (Br (ys:=l) (enc:=AA) IW rfl) (wv (G1 rfl rfl) (wm rfl (AG (decide (ha<(l.length:Int))) (λhb=>?_) (λhb=>?_)))))))
   ·refine wo hb (wm rfl (wo hb (wv (r:=rB true) (Ii ⟨_,Nj⟩ rfl) (Hm rfl hb rfl (Ar ?_)))));exact CM hb
   ·refine wf hb (wf hb (wv (r:=rB false) (A1 (b:=decide (ha<(l.length:Int))) rfl hb rfl) (Ar ?_)));exact CM hb
  refine A7 (b:=decide (ha<(l.length:Int))) rfl (λhi=>?_) (λhi=>?_)
  ·have hw:=AN hi he;refine AD (Bb (Ay (AP (Ay (At (wm rfl (wm rfl ?_)))))));obtain⟨hf,hm⟩:=AM hw;refine wv (Dh (enc:=AA) (ys:=l) IW JO rfl rfl hf) (wv (CJ HQ rfl CV rfl rfl) (wv (H8 Dr rfl rfl) (wv (Bw rfl rfl) (A3 (A7 (b:=decide (((Ao l ha).fKind)=1)) rfl (λhj=>?_) (λhj=>?_))))))
   ·have hx:=AN hj hm;refine Au (wm rfl (wm rfl (wm rfl (wv (Dh (enc:=AA) (ys:=l) IW JO rfl rfl hf) (wv (CJ HQ rfl CV rfl rfl) (wv (H8 Dr rfl rfl) ?_))))));obtain⟨hk,hy,hz⟩:=AL hx;refine DS (Hr:=[]) Tryd.call10 (JR F b4 b5 (Aq.mk hd) ((Ao l ha).fNow) hk hy) rfl (PY _) rfl ?_;rintro _ _ ⟨h0,rfl,rfl⟩;refine A3 (Au (wm rfl (wm rfl (wm rfl (wv (Dh (enc:=AA) (ys:=l) IW JO rfl rfl hf) (wv (Cs Tryd.isAgg41 JO rfl rfl rfl) ?_))))));obtain⟨hn,h1,h3⟩:=AL hz;refine DS (Hr:=[.row h0 33 5 (List.map Ad hk.1)]) Tryd.call20 (KJ F b4 b5 hk.2 (AE.mk ((Ao l ha).fKind) ((Ao l ha).fNow) ((Ao l ha).fTimer)) hn h1) rfl ((Ax (i:=1) rfl).trans (Qb _ ((Ax (i:=1) rfl).trans (Qb _ (PY _))))) rfl ?_;rintro _ _ ⟨rfl,rfl⟩;refine Ar (AV (Bb (Au (wm rfl ?_))));obtain⟨h4,h5⟩:=AM h3;refine wv (Cf rfl rfl h4) (wa rfl (Ar ?_));have h6:=BG h5 hh;exact A0 (AK (hl,(ha+1,hn.2.fTimers),()) ⟨h6,Q0 _⟩ (AJ.c rfl (AJ.c rfl (AJ.c rfl AJ.nil))) (sC (sC (sS sN))))
   ·have h7:=AO hj hm;refine AD (Bb (Au (wm rfl (wm rfl (wm rfl (wv (Dh (enc:=AA) (ys:=l) IW JO rfl rfl hf) (wv (Cs Tryd.isAgg41 JO rfl rfl rfl) ?_)))))));obtain⟨ho,h8,h9⟩:=AL h7;refine DS (Hr:=[]) Tryd.call20 (KJ F b4 b5 (Aq.mk hd) (AE.mk ((Ao l ha).fKind) ((Ao l ha).fNow) ((Ao l ha).fTimer)) ho h8) rfl (PY _) rfl ?_;rintro _ _ ⟨rfl,rfl⟩;refine Ar (AV (Bb (Au (wm rfl ?_))));obtain⟨hA,hB⟩:=AM h9;refine wv (Cf rfl rfl hA) (wa rfl (Ar ?_));have hC:=BG hB hh;exact A0 (AK (hl,(ha+1,ho.2.fTimers),()) ⟨hC,Q0 _⟩ (AJ.c rfl (AJ.c rfl (AJ.c rfl AJ.nil))) (sC (sC sN)))
  ·have hD:=AO hi he;refine B0 (AC ?_);have hE:=Dg hD hh hs;exact AC (Bs (AK (hd,()) hE (AJ.c rfl AJ.nil) (sC (sC sN))))
 ·rintro⟨hp,⟨⟩⟩ hg;refine DL (l':=[(3,rv (.pointer (some ⟨b4,0,none⟩)))]) (H':=[.blk b4 [rv (.map (some b5))] 45,.map b5 (AI Ah hp)]) rfl rfl ?_;replace hg:DG hp=some r:=hg;unfold DG at hg;refine Bk (Bb (At (wm rfl (wa rfl (A3 (A5 ?_))))));obtain rfl:=A8 hg;exact A4 (B7 Tryd.results8 (AX rfl)) (sC (sC sN)) ⟨b4,b5,rfl,rfl⟩
theorem Kk (F:Nat)(l:(List AE))(t:Ab)(now:Int)(r:Bool)(h:Ek F l t now=some r):Fn Tryd.prog GE 4 [Bl 7 (List.map AA l),Ba (Ad t),rI .i64 now] [] (λR H=>R=rB r∧H=[]):=by
 refine enter (n:=73) Tryd.func4 rfl Tryd.ntmps4 rfl (λw Z=>?_);refine Be (l':=[(0,Bl 7 (List.map AA l)),(1,Ba (Ad t)),(2,rI .i64 now)]) (H':=[]) rfl rfl ?_;unfold Ek at h;refine At (Bz rfl rfl (λb1=>?_));refine wv (r:=rB false) (Am rfl) (A3 (Ay ?_));obtain⟨g2,h3⟩:=AM h;obtain⟨g4,h5⟩:=AM h3;refine AH [(0,Bl 7 (List.map AA l)),(2,rI .i64 now),(4,rv (.pointer (some ⟨b1,0,none⟩))),(17,rB ((!(ov (CR F l)))||(!(ov (Ds F t)))))] [.blk b1 (Ad t) 33] ?_ ?_
 ·refine Au (wm rfl (GX Tryd.call6 (ML F l (ov (CR F l)) (Mv g2)) rfl (wv (BQ rfl) (wm rfl (AG (!(ov (CR F l))) (λc6=>?_) (λc6=>?_))))))
  ·refine wf c6 (wf c6 (wf c6 (wv (r:=rB true) (Ap (b:=!(ov (CR F l))) rfl c6 rfl) (Ar ?_))));exact CM c6
  ·refine wo c6 (wv (Bc (i:=0) DX BE rfl rfl rfl rfl) (wo c6 (GX Tryd.call14 (Ji F t (ov (Ds F t)) (Mv (Om g4 c6))) rfl (wo c6 (wv (BQ rfl) (Hn rfl c6 rfl (Ar ?_)))))));exact CM c6
 refine A7 (b:=((!(ov (CR F l)))||(!(ov (Ds F t))))) rfl (λc7=>?_) (λc7=>?_)
 ·have h8:=AN c7 h5;refine At ?_;obtain⟨r9,hI,hJ⟩:=AL h8;refine GX Tryd.call7 (HD F r9 hI) rfl (wa rfl (A3 (A5 (Ak ?_))));obtain rfl:=A8 hJ;exact A4 (B7 Px (AX rfl)) (sS sN) ⟨rfl,rfl⟩
 ·have hK:=AO c7 h5;refine AD (Bb (At (wm rfl ?_)));obtain⟨h1,hL,hN⟩:=AL hK;refine DS (Hr:=[.blk b1 (Ad t) 33]) Tryd.call8 (L5 F l h1 hL) rfl (PY _) rfl ?_;rintro _ _ ⟨hb,hd,rfl,rfl⟩;refine wa rfl (A3 (Ay (At (wm rfl (wv (r:=rB false) (M4 ⟨_,Nj⟩ rfl) (A3 (CD rfl rfl (AD (Bb (At (wm rfl ?_)))))))))));obtain⟨ha,hO,hP⟩:=AL hN;refine DS (Hr:=[.blk b1 (Ad t) 33]) OT (Ev hb hd h1 ha hO) rfl (PY _) rfl ?_;rintro _ _ ⟨hk,rfl,rfl⟩;refine WL.freeze (i:=0) rfl (WL.up (d:=24) (r:=Bl 5 (List.map Ad ha.1)) rfl (Up.fact (i:=0) rfl) (wa rfl (C2 (wm rfl (wv (Bc (i:=3) DX BE rfl rfl rfl rfl) (wm rfl ?_))))));obtain⟨hp,hQ,h2⟩:=AL hP;refine DS (Hr:=[.fact hk (Bl 5 (List.map Ad ha.1)),.blk b1 (Ad t) 33]) JQ (EI F hb hd ha.2 t now hp hQ) rfl ((Ax (i:=1) rfl).trans (Qb _ ((Ax (i:=1) rfl).trans (Qb _ (PY _))))) rfl ?_;rintro _ _ ⟨rfl,rfl⟩;refine wa rfl (A3 (Ay (At (wm rfl (wv (Dt rfl rfl) (A3 (A7 (b:=!decide (hp.1=0)) rfl (λhs=>?_) (λhs=>?_))))))))
  ·have hR:=AN hs h2;refine Cm (S:=(Bool×(List (Ai×Aa)))×(Unit)) (λσ=>CN σ.1.1 σ.1.2=some r) (λσ=>[(2,rI .i64 now),(4,rv (.pointer (some ⟨b1,0,none⟩))),(6,rB σ.1.1),(7,rv (.pointer (some ⟨hb,0,none⟩))),(8,Bl 5 (List.map Ad ha.1))]) (λσ=>[.blk hb [rv (.map (some hd))] 45,.map hd (AI Ah σ.1.2),.blk b1 (Ad t) 33]) ?_ ?_
   ·refine Au (wm rfl (wm rfl ?_));obtain⟨hl,hS,hT⟩:=AL hR;refine DS (Hr:=[.fact hk (Bl 5 (List.map Ad ha.1)),.blk b1 (Ad t) 33]) OT (Ev hb hd hp.2 hl hS) rfl (PY _) rfl ?_;rintro _ _ ⟨v45,rfl,rfl⟩;refine WL.freeze (i:=0) rfl (WL.up (d:=33) (r:=Bl 5 (List.map Ad hl.1)) rfl (Up.fact (i:=0) rfl) ?_);obtain⟨ht,hU,h4⟩:=AL hT;refine GX Tryd.call11 (Jk F ha.1 hl.1 ht hU) rfl (wm rfl (AG (ht) (λhi=>?_) (λhi=>?_)))
    ·have hV:=AN hi h4;refine wo hi ?_;obtain⟨h6,hW,hX⟩:=AL hV;exact GX Tryd.call7 (HD F h6 hW) rfl (Hm rfl hi rfl (wa rfl (Ar (A0 (AK ((h6,hl.2.fTimers),()) hX (AJ.c5 rfl rfl rfl rfl rfl AJ.nil) (sS (sC (sC (sS (sC sN))))))))))
    ·have hY:=AO hi h4;exact wf hi (wv (r:=rB false) (A1 (b:=ht) rfl hi rfl) (wa rfl (Ar (A0 (AK ((false,hl.2.fTimers),()) hY (AJ.c5 rfl rfl rfl rfl rfl AJ.nil) (sS (sC (sC (sS (sC sN))))))))))
   ·rintro⟨⟨h7,h9⟩,⟨⟩⟩ hq;refine Be (l':=[(2,rI .i64 now),(4,rv (.pointer (some ⟨b1,0,none⟩))),(6,rB h7),(7,rv (.pointer (some ⟨hb,0,none⟩))),(8,Bl 5 (List.map Ad ha.1))]) (H':=[.blk hb [rv (.map (some hd))] 45,.map hd (AI Ah h9),.blk b1 (Ad t) 33]) rfl rfl ?_;replace hq:CN h7 h9=some r:=hq;unfold CN at hq;refine A5 (Ak ?_);obtain rfl:=A8 hq;exact A4 (B7 Px (AX rfl)) (sS (sS (sS sN))) ⟨rfl,rfl⟩
  ·have hZ:=AO hs h2;refine AD (Bb (Ay (Cm (S:=(Bool×(List (Ai×Aa)))×(Unit)) (λσ=>BS F t ha σ.1.1 σ.1.2=some r) (λσ=>[(4,rv (.pointer (some ⟨b1,0,none⟩))),(7,rv (.pointer (some ⟨hb,0,none⟩))),(8,Bl 5 (List.map Ad ha.1)),(58,rB σ.1.1)]) (λσ=>[.blk hb [rv (.map (some hd))] 45,.map hd (AI Ah σ.1.2),.blk b1 (Ad t) 33]) ?_ ?_)))
   ·refine Au (wm rfl ?_);obtain⟨hh,ga,gb⟩:=AL hZ;refine DS (Hr:=[.fact hk (Bl 5 (List.map Ad ha.1)),.blk b1 (Ad t) 33]) OT (Ev hb hd hp.2 hh ga) rfl (PY _) rfl ?_;rintro _ _ ⟨hA,rfl,rfl⟩;refine WL.freeze (i:=0) rfl (WL.up (d:=39) (r:=Bl 5 (List.map Ad hh.1)) rfl (Up.fact (i:=0) rfl) (wv (Br (ys:=hh.1) (enc:=Ad) Dc rfl) (wm rfl (wv (Br (ys:=ha.1) (enc:=Ad) Dc rfl) ?_))));obtain⟨gc,hB⟩:=AM gb;refine wv (Cf rfl rfl gc) (wv (Dt rfl rfl) (wm rfl (AG (!decide ((hh.1.length:Int)=((ha.1.length:Int)+1))) (λhe=>?_) (λhe=>?_))))
    ·have gd:=AN he hB;exact wf he (wf he (wf he (wf he (wf he (wv (r:=rB true) (Ap (b:=!decide ((hh.1.length:Int)=((ha.1.length:Int)+1))) rfl he rfl) (wm rfl (Aj (b:=true) rfl rfl rfl rfl (Aj (b:=true) rfl rfl rfl rfl (Aj (b:=true) rfl rfl rfl rfl (Aj (b:=true) rfl rfl rfl rfl (Aj (b:=true) rfl rfl rfl rfl (wv (r:=rB true) (Ap (b:=true) rfl rfl rfl) (Ar (A0 (AK ((true,hh.2.fTimers),()) gd (AJ.c rfl (AJ.c rfl (AJ.c rfl (AJ.c rfl AJ.nil)))) (sS (sC (sC (sS (sC sN))))))))))))))))))))
    ·have ge:=AO he hB;refine wo he (wm rfl (wo he (wv (Bc (i:=4) DX BE rfl rfl rfl rfl) (wo he (wm rfl (wo he ?_))))));obtain⟨hm,gf,hC⟩:=AL ge;refine DS (Hr:=[.fact hA (Bl 5 (List.map Ad hh.1)),.fact hk (Bl 5 (List.map Ad ha.1)),.blk b1 (Ad t) 33]) JQ (EI F hb hd hh.2 t now hm gf) rfl ((Ax (i:=1) rfl).trans (Qb _ ((Ax (i:=1) rfl).trans (Qb _ (PY _))))) rfl ?_;rintro _ _ ⟨rfl,rfl⟩;refine wo he (wv (Dt rfl rfl) (Hn rfl he rfl (wm rfl (AG (!decide (hm.1=6)) (λhf=>?_) (λhf=>?_)))))
     ·have gg:=AN hf hC;exact wf hf (wf hf (wf hf (wf hf (wf hf (wv (r:=rB true) (Ap (b:=!decide (hm.1=6)) rfl hf rfl) (Ar (A0 (AK ((true,hm.2.fTimers),()) gg (AJ.c rfl (AJ.c rfl (AJ.c rfl (AJ.c rfl AJ.nil)))) (sC (sC (sS (sS (sC sN)))))))))))))
     ·have gh:=AO hf hC;refine wo hf (wm rfl (wo hf (wv (Ae BD rfl DA rfl rfl) (wo hf (wv (Az (i:=4) DR rfl rfl rfl) (wo hf ?_))))));obtain⟨hu,gi,gj⟩:=AL gh;refine DS (Hr:=[.fact hA (Bl 5 (List.map Ad hh.1)),.fact hk (Bl 5 (List.map Ad ha.1)),.blk b1 (Ad t) 33]) Tryd.call12 (Ew hb hd hm.2 t.fID hu gi) rfl (PY _) rfl ?_;rintro _ _ ⟨rfl,rfl⟩;exact wo hf (wv (Dt rfl rfl) (Hn rfl hf rfl (Ar (A0 (AK ((!decide (hu.1=0),hu.2.fTimers),()) gj (AJ.c rfl (AJ.c rfl (AJ.c rfl (AJ.c rfl AJ.nil)))) (sC (sC (sS (sS (sC sN))))))))))
   ·rintro⟨⟨hw,hx⟩,⟨⟩⟩ hn;refine Be (l':=[(4,rv (.pointer (some ⟨b1,0,none⟩))),(7,rv (.pointer (some ⟨hb,0,none⟩))),(8,Bl 5 (List.map Ad ha.1)),(58,rB hw)]) (H':=[.blk hb [rv (.map (some hd))] 45,.map hd (AI Ah hx),.blk b1 (Ad t) 33]) rfl rfl ?_;replace hn:BS F t ha hw hx=some r:=hn;unfold BS at hn;refine A7 (b:=hw) rfl (λhy=>?_) (λhy=>?_)
    ·have gk:=AN hy hn;refine At (wv (r:=rB false) (Am rfl) (A3 (A5 (Ak ?_))));obtain rfl:=A8 gk;exact A4 (B7 Px (AX rfl)) (sS (sS (sS sN))) ⟨rfl,rfl⟩
    ·have gl:=AO hy hn;refine AD (Bb (Cm (S:=(Bool)×(Unit)) (λσ=>Cu σ.1=some r) (λσ=>[(6,rB σ.1)]) (λσ=>[]) ?_ ?_))
     ·refine Au (wm rfl (wm rfl ?_));obtain⟨ho,gm,gn⟩:=AL gl;refine DS (Hr:=[.blk b1 (Ad t) 33]) OT (Ev hb hd (Aq.mk hx) ho gm) rfl (PY _) rfl ?_;rintro _ _ ⟨gp,rfl,rfl⟩;refine WL.freeze (i:=0) rfl (WL.up (d:=61) (r:=Bl 5 (List.map Ad ho.1)) rfl (Up.fact (i:=0) rfl) ?_);obtain⟨hz,gq,hD⟩:=AL gn;refine GX Tryd.call11 (Jk F ha.1 ho.1 hz gq) rfl (wm rfl (AG (hz) (λhg=>?_) (λhg=>?_)))
      ·have gr:=AN hg hD;refine wo hg (wm rfl (wo hg (wv (Ae BD rfl DA rfl rfl) (wo hg (wv (Az (i:=3) DR rfl rfl rfl) (wo hg ?_))))));obtain⟨h0,gs,hE⟩:=AL gr;refine DS (Hr:=[.fact gp (Bl 5 (List.map Ad ho.1)),.blk b1 (Ad t) 33]) Tryd.call12 (Ew hb hd ho.2 t.fID h0 gs) rfl ((Ax (i:=1) rfl).trans (Qb _ ((Ax (i:=1) rfl).trans (Qb _ (PY _))))) rfl ?_;rintro _ _ ⟨rfl,rfl⟩;refine wo hg (wv (Bw rfl rfl) (Hm rfl hg rfl (wm rfl (AG (decide (h0.1=5)) (λhj=>?_) (λhj=>?_)))))
       ·have gt:=AN hj hE;refine wo hj ?_;obtain⟨hG,gu,gv⟩:=AL gt;exact GX Tryd.call7 (HD F hG gu) rfl (Hm rfl hj rfl (wa rfl (Ar (A0 (AK (hG,()) gv (AJ.c rfl AJ.nil) (sS (sS (sS (sS sN)))))))))
       ·have gw:=AO hj hE;exact wf hj (wv (r:=rB false) (A1 (b:=decide (h0.1=5)) rfl hj rfl) (wa rfl (Ar (A0 (AK (false,()) gw (AJ.c rfl AJ.nil) (sS (sS (sS (sS sN)))))))))
      ·have gx:=AO hg hD;exact wf hg (wf hg (wf hg (wf hg (wf hg (wv (r:=rB false) (A1 (b:=hz) rfl hg rfl) (wm rfl (Aj (b:=false) rfl rfl rfl rfl (wv (r:=rB false) (A1 (b:=false) rfl rfl rfl) (wa rfl (Ar (A0 (AK (false,()) gx (AJ.c rfl AJ.nil) (sS (sS (sS (sS sN))))))))))))))))
     ·rintro⟨hH,⟨⟩⟩ hr;refine Be (l':=[(6,rB hH)]) (H':=[]) rfl rfl ?_;replace hr:Cu hH=some r:=hr;unfold Cu at hr;refine A5 ?_;obtain rfl:=A8 hr;exact A4 (B7 Px (AX rfl)) sN ⟨rfl,rfl⟩
end Go.Proofs.YtkoiaconljdbeaaDoor.Q
namespace Go.Proofs.YtkoiaconljdbeaaDoor.lawTimerCancels
open Go
set_option linter.unusedVariables false
def M1 (y:Ac):Bool:=(Cl .i64) y.fKind&&(Cl .i64) y.fInt&&Nd y.fStr&&(Cl .i64) y.fN
def Lm (y:Ab):Bool:=Nd y.fID&&(Cl .i64) y.fAt&&Nd y.fTenant&&Nd y.fSource&&(λys:(List Ac)=>ys.all M1&&decide (ys.length≤9223372036854775807)) y.fBody
def Ll (y:AE):Bool:=(Cl .i64) y.fKind&&(Cl .i64) y.fNow&&Lm y.fTimer
def PT:Prop:=∀(y0:(List AE)) (y1:Ab) (y2:Int) (o0:(λys:(List AE)=>ys.all Ll&&decide (ys.length≤9223372036854775807)) y0=true) (o1:Lm y1=true) (o2:(Cl .i64) y2=true),∃F,Ek F y0 y1 y2=some true
end Go.Proofs.YtkoiaconljdbeaaDoor.lawTimerCancels
namespace Go.Proofs.YtkoiaconljdbeaaDoor
open Go
set_option linter.unusedVariables false
set_option linter.unusedSimpArgs false
def N9 (c:UInt8):Bool:=decide (32≤c.toNat)&&decide (c.toNat≤126)
theorem NV {s:Ai}{x:Int}{c:UInt8}(h:s[x.toNat]? =some c):JL s x=(c.toNat:Int):=by simp[JL,h]
theorem HT {α:Type}{p:α→Bool}{s:List α}{k:Nat}{c:α}(h:s[k]? =some c):(s.take (k+1)).all p=((s.take k).all p&&p c):=by
 rw[List.take_add_one,h];simp
theorem IN {α:Type}{p:α→Bool}{s:List α}{k:Nat}{c:α}(h:s[k]? =some c)(hp:p c=false):s.all p=false:=by
 rw[List.all_eq_false];exact⟨c,Qi h,by simp[hp]⟩
theorem LX {F:Nat}{s:Ai}(hF:s.length<F)(hs:s.length≤9223372036854775807):GF F s=some (s.all N9):=by
 obtain⟨o,h1,h2⟩:=Dq (body:=λσ=>Dz s σ) (λx=>0≤x∧x≤(s.length:Int)∧(s.take x.toNat).all N9=true) (λx=>s.length-x.toNat)
  (λo=>C7 (λ_=>Dy) o=some (s.all N9)) (λx ⟨h0,hl,ha⟩=>by
   unfold Dz
   by_cases hx:x<(s.length:Int)
   ·obtain⟨c,hc⟩:∃c,s[x.toNat]? =some c:=⟨s[x.toNat]'(by omega),PZ (by omega)⟩
    rw[AY (by simpa using hx),B8 h0 hx,NV hc]
    cases ho:N9 c with
    | false=>
     refine .inr ⟨.ret false,?_,?_⟩
     ·rw[AY];simp only[N9,Bool.and_eq_false_iff,PX] at ho;simp only[QH,PW];omega
     ·simp[C7,IN hc ho]
    | true=>
     refine .inl ⟨x+1,?_,⟨by omega,by omega,?_⟩,by omega⟩
     ·rw[AQ,Bd (by omega) (by omega)];simp only[N9,Qa,PW] at ho;simp only[Bool.or_eq_false_iff,PX];omega
     ·rw[show(x+1).toNat=x.toNat+1 from by omega,HT hc,ha,ho];rfl
   ·refine .inr ⟨.go (),by rw[AQ (by simpa using hx)],?_⟩;rw[show x.toNat=s.length from by omega,List.take_length] at ha;simp[C7,Dy,ha]) F 0 ⟨by omega,by omega,by simp⟩ (by simpa using hF)
 unfold GF;rw[AR h1,h2]
def pl (c:Ac):Bool:=
 bif decide (c.fKind=1) then(decide (c.fInt=0)&&(decide (c.fStr=[])&&decide (c.fN=0))) else
 bif decide (c.fKind=2) then((decide (c.fInt=0)||decide (c.fInt=1))&&(decide (c.fStr=[])&&decide (c.fN=0))) else
 bif decide (c.fKind=3) then(decide (c.fStr=[])&&decide (c.fN=0)) else
 bif decide (c.fKind=4) then(decide (c.fInt=0)&&(decide (c.fN=0)&&c.fStr.all N9)) else
 bif decide (c.fKind=5) then(decide (c.fInt=0)&&(decide (c.fStr=[])&&decide (0≤c.fN))) else
 bif decide (c.fKind=6) then(decide (c.fInt=0)&&(decide (c.fStr=[])&&decide (0≤c.fN))) else false
theorem Ch {α:Type}{p:Bool}{x y:Option α}{a b:α}(h:x=some a)(h':y=some b):BA p x y=some (bif p then a else b):=by cases p<;>simp[BA,h,h']
theorem La {F:Nat}{c:Ac}(hF:c.fStr.length<F)(hs:c.fStr.length≤9223372036854775807):Hq F c=some (pl c):=by
 unfold Hq pl;rw[LX hF hs];refine Ch rfl (Ch ?_ (Ch rfl (Ch ?_ (Ch rfl (Ch rfl rfl)))))
 ·cases h:decide (c.fInt=0)<;>simp
 ·simp[imp,BC,ov]
def GM:List An→List An
 | []=>[]
 | e::S=>bif decide (1<e.fLeft) then⟨e.fPairs,e.fLeft-1,e.fPairs,e.fLast,e.fStarted⟩::S else GM S
theorem Hf {α:Type}[Inhabited α](xs:List α)(e:α):Ao (xs++[e]) (xs.length:Int)=e:=by simp[Ao]
theorem Gj {α:Type}(xs:List α)(e e':α):List.set (xs++[e]) (Int.toNat (xs.length:Int)) e'=xs++[e']:=by simp
theorem Gr {α:Type}(xs:List α)(e:α):((xs++[e]).length:Int)-1=(xs.length:Int):=by simp
theorem Ld {α:Type}(xs:List α)(e:α):List.take (Int.toNat (xs.length:Int)) (xs++[e])=xs:=by simp
theorem GG:∀(S:List An) (F:Nat),S.length<F→(∀e∈S,1≤e.fLeft∧e.fLeft≤9223372036854775807)→S.length≤4611686018427387904→
  ∃o,Dm (λσ=>BP σ) F S.reverse=some o∧C7 (λν=>Cn ν) o=some (GM S).reverse
 | [],F+1,_,_,_=>⟨.go [],by simp[Dm,BP,BA],by simp[C7,Cn,GM]⟩
 | e::S,F+1,hF,hb,hl=>by
  obtain⟨h1,h2⟩:=hb e (by simp);simp only[Qh] at hF hl;have hx:S.reverse.length=S.length:=by simp
  generalize hxs:S.reverse=xs at hx;have hr:(e::S).reverse=xs++[e]:=by simp[hxs]
  rw[hr];have hb1:BP (xs++[e])=bif decide (1<e.fLeft) then some (.out (.ret (xs++[⟨e.fPairs,e.fLeft-1,e.fPairs,e.fLast,e.fStarted⟩]))) else some (.next xs):=by
   unfold BP;rw[AY (by simp)];simp only[Gr,Hf,Gj,LL];rw[Bd (by omega) (by omega),B8 (by omega) (by simp;omega),Bd (by omega) (by omega)]
   cases hd:decide (1<e.fLeft) with
   | true=>
    rw[AY (by simp at hd ⊢;omega)];rfl
   | false=>
    rw[AQ (by simp at hd ⊢;omega),Bd (by omega) (by omega),IL (by omega) (by simp;omega),Ld];rfl
  rw[Dm,hb1]
  cases hd:decide (1<e.fLeft) with
  | true=>exact⟨_,rfl,by simp[C7,Cn,GM,hd,hxs]⟩
  | false=>
   obtain⟨o,ho1,ho2⟩:=GG S F (by omega) (λe he=>hb e (by simp[he])) (by omega);rw[hxs] at ho1;exact⟨o,ho1,by rw[ho2];simp[GM,hd]⟩
theorem Ht {S:List An}{F:Nat}(hF:S.length<F)(hb:∀e∈S,1≤e.fLeft∧e.fLeft≤9223372036854775807)(hl:S.length≤4611686018427387904):Gc F S.reverse=some (GM S).reverse:=by
 obtain⟨o,h1,h2⟩:=GG S F hF hb hl;unfold Gc;rw[AR h1,h2]
def G0 (s:Ai):Int:=s.length+2+s.count 34+s.count 92
theorem Hp {s:Ai}(hs:s.length≤1152921504606846976):Eu s=some (G0 s):=by
 have h1:s.count 34≤s.length:=List.count_le_length;have h2:s.count 92≤s.length:=List.count_le_length;unfold Eu Lib.countByte;rw[Bd (by omega) (by omega),Bd (by omega) (by omega),Bd (by omega) (by omega)];rfl
def O2 (c:Ac):Int:=
 bif decide (c.fKind=1) then 4 else bif decide (c.fKind=2) then IntKind.wrap .i64 (5-c.fInt) else bif decide (c.fKind=3) then((Lib.itoa c.fInt).length:Int) else
 bif decide (c.fKind=4) then G0 c.fStr else IntKind.wrap .i64 (2+max 0 (IntKind.wrap .i64 (c.fN-1)))
theorem Ja {c:Ac}(hs:c.fStr.length≤1152921504606846976)(hi:Cl .i64 c.fInt=true):Jb c=some (O2 c):=by
 unfold Jb O2;rw[Hp hs];refine Ch rfl (Ch rfl (Ch ?_ (Ch rfl rfl)));rw[C0 hi]
def DT (d:Nat)(sh:As)(c:Ac):As:=
 ⟨max sh.fDepth ((d:Int)+1),IntKind.wrap .i64 (sh.fBytes+O2 c),sh.fOutside||(decide (c.fKind=3)&&!(decide ((-1000000000000)≤c.fInt)&&decide (c.fInt≤1000000000000))),sh.fLong||decide (200<(c.fStr.length:Int))⟩
def OY (sh:As)(c:Ac):As:=⟨sh.fDepth,IntKind.wrap .i64 (sh.fBytes+(G0 c.fStr+1)),sh.fOutside,sh.fLong||decide (200<(c.fStr.length:Int))⟩
def G8:List An→Bool
 | []=>false
 | e::_=>e.fKey
abbrev IS:=List An×Int×As
abbrev Oq:=Out (Int×As×Bool) As
def JK (n:Int)(S:List An)(i:Int)(sh:As)(c:Ac):Stp IS Oq:=
 bif !pl c then .out (.ret (0,sh,false)) else
 match S with
 | e::S'=>
  bif e.fKey then
   bif !decide (c.fKind=4)||(e.fStarted&&(Bj c.fStr e.fLast||decide (c.fStr=e.fLast))) then .out (.ret (0,sh,false))
   else .next ((⟨e.fPairs,e.fLeft,false,c.fStr,true⟩::S').reverse,i+1,OY sh c)
  else bif decide (0<c.fN) then
   bif decide (n<c.fN) then .out (.ret (0,DT S.length sh c,false))
   else .next ((⟨decide (c.fKind=6),c.fN,decide (c.fKind=6),[],false⟩::S).reverse,i+1,DT S.length sh c)
  else bif decide (GM S=[]) then .out (.ret (i+1,DT S.length sh c,true)) else .next ((GM S).reverse,i+1,DT S.length sh c)
 | []=>
  bif decide (0<c.fN) then
   bif decide (n<c.fN) then .out (.ret (0,DT 0 sh c,false))
   else .next ([⟨decide (c.fKind=6),c.fN,decide (c.fKind=6),[],false⟩],i+1,DT 0 sh c)
  else .out (.ret (i+1,DT 0 sh c,true))
theorem HH {S:List An}:decide (((GM S).reverse.length:Int)=0)=decide (GM S=[]):=by
 rw[Qy];simp
theorem Pp {α:Type}{xs:List α}{e x:α}{M:Nat}(h:xs.length+1≤M)(hM2:(M+2)*48≤140737488355328):NL 48 ((xs++[e]).length+([x]:List α).length)=true:=by
 refine Qg (Nat.le_trans (Nat.mul_le_mul_right 48 ?_) hM2);rw[Qm,QC,QC];omega
set_option maxHeartbeats 600000 in
theorem Jc {F:Nat}{v:List Ac}{S:List An}{i:Int}{sh:As}{c:Ac}(h0:0≤i)(hc:v[i.toNat]? =some c){M:Nat}(hM:M≤1152921504606846976)(hM2:(M+2)*48≤140737488355328)(hv:v.length≤M)(hS:S.length≤M)(hF:M<F)
  (hs:c.fStr.length≤M) (hi:Cl .i64 c.fInt=true) (hb:∀e∈S,1≤e.fLeft∧e.fLeft≤9223372036854775807):BO F v S.reverse i sh=some (JK v.length S i sh c):=by
 have hil:i.toNat<v.length:=(List.getElem?_eq_some_iff.1 hc).1;have hat:Ao v i=c:=by simp[Ao,hc]
 unfold BO JK;rw[AY (by simp;omega),B8 h0 (by omega),hat,La (by omega) (by omega),AR rfl]
 cases hp:pl c with
 | false=>rw[AY (by simp)];rfl
 | true=>
  rw[AQ (by simp)]
  cases S with
  | nil=>
   rw[C0 (by simp[imp]),C0 (by simp[imp]),AQ (by simp),Bd (by simp) (by simp),Ja (by omega) hi,AR rfl,C0 (by simp[imp,AS])];simp only[AS,ov,Q7,Qk,Qc]
   cases hn:decide (0<c.fN) with
   | true=>
    rw[AY rfl]
    cases hm:decide ((v.length:Int)<c.fN) with
    | true=>rw[AY rfl];simp[DT]
    | false=>rw[AQ rfl,C0 (by simp[NL])];unfold Ce;rw[Bd (by omega) (by omega)];simp[DT]
   | false=>
    rw[AQ rfl,AR (Ht (S:=[]) (by simp;omega) (by simp) (by simp)),AY (by simp[GM]),Bd (by omega) (by omega)];simp[DT]
  | cons e S'=>
   have hx:S'.reverse.length=S'.length:=by simp
   generalize hxs:S'.reverse=xs at hx;have hr:(e::S').reverse=xs++[e]:=by simp[hxs]
   simp only[Qh] at hS;have hlen:((xs++[e]).length:Int)=(xs.length:Int)+1:=by simp
   rw[hr,C0 (by simp only[imp,Gr];rw[J8 (by omega) (by omega)];simp),C0 (by simp only[imp,Gr];rw[Po (by omega) (by omega)];simp)];rw[Gr,Hf]
   cases hk:e.fKey with
   | true=>
    rw[AY (by simp),Bd (by omega) (by omega),B8 (by omega) (by omega)];simp only[hk,Qk,Qc,Qj]
    cases ht : !decide (c.fKind=4)||(e.fStarted&&(Bj c.fStr e.fLast||decide (c.fStr=e.fLast))) with
    | true=>rw[AY rfl];rfl
    | false=>
     rw[AQ rfl,Gj,LL,Hf,Gj,LL,Hf,Gj,LL,Hp (by omega),AR rfl,Bd (by unfold G0;omega) (by unfold G0;have:=@List.count_le_length UInt8 _ 34 c.fStr;have:=@List.count_le_length UInt8 _ 92 c.fStr;omega)];unfold Ce;rw[Bd (by omega) (by omega)];simp[OY,hxs]
   | false=>
    rw[AQ (by simp),hlen,Bd (by omega) (by omega),Ja (by omega) hi,AR rfl,C0 (by simp[imp,AS])];simp only[hk,AS,ov,Q7,Qk,Qc,Qj]
    cases hn:decide (0<c.fN) with
    | true=>
     rw[AY rfl]
     cases hm:decide ((v.length:Int)<c.fN) with
     | true=>rw[AY rfl];simp[DT,hx]
     | false=>rw[AQ rfl,C0 (Pp (by omega) hM2)];unfold Ce;rw[Bd (by omega) (by omega)];simp[DT,hx,hxs]
    | false=>
     have hcl:=Ht (S:=e::S') (F:=F) (by simp;omega) hb (by simp;omega);rw[hr] at hcl;rw[AQ rfl,hcl,AR rfl,HH]
     cases hq:decide (GM (e::S')=[]) with
     | true=>rw[AY rfl,Bd (by omega) (by omega)];simp[DT,hx]
     | false=>rw[AQ rfl];unfold Ce;rw[Bd (by omega) (by omega)];simp[DT,hx]
section
variable {S O : Type} {body : S → Option (Stp S O)} {s t u : S} {o : O}
def Ci (body:S→Option (Stp S O))(s t:S):Prop:=∃k,∀n,Dm body (n+k) s=Dm body n t
def Fin (body:S→Option (Stp S O))(s:S)(o:O):Prop:=∃k,∀n,Dm body (n+k) s=some o
theorem Ci.refl (s:S):Ci body s s:=⟨0,λ_=>rfl⟩
theorem Ci.trans (h:Ci body s t)(h':Ci body t u):Ci body s u:=by
 obtain⟨k,hk⟩:=h;obtain⟨j,hj⟩:=h';exact⟨j+k,λn=>by rw[← Nat.add_assoc,hk,hj]⟩
theorem Ci.step (h:body s=some (.next t)):Ci body s t:=⟨1,λn=>by rw[Dm,h]⟩
theorem Fin.step (h:body s=some (.out o)):Fin body s o:=⟨1,λn=>by rw[Dm,h]⟩
theorem Ci.fin (h:Ci body s t)(h':Fin body t o):Fin body s o:=by
 obtain⟨k,hk⟩:=h;obtain⟨j,hj⟩:=h';exact⟨j+k,λn=>by rw[← Nat.add_assoc,hk,hj]⟩
end
inductive Fo where
 | nil
 | cell (k:Option Ai) (c:Ac) (r:Fo)
 | node (k:Option Ai) (c:Ac) (kids r:Fo)
def BT:Option Ai→List Ac
 | none=>[]
 | some s=>[⟨4,0,s,0⟩]
def Fo.flat:Fo→List Ac
 | .nil=>[]
 | .cell k c r=>BT k++c::r.flat
 | .node k c kids r=>BT k++c::(kids.flat++r.flat)
def Fo.cnt:Fo→Nat
 | .nil=>0
 | .cell _ _ r=>r.cnt+1
 | .node _ _ _ r=>r.cnt+1
def CT (m:Bool)(last:Option Ai):Option Ai→Bool
 | none=>!m
 | some s=>m&&s.all N9&&(match last with
  | none=>true
  | some p=>!(Bj s p||decide (s=p)))
def Fo.wf:Bool→Option Ai→Fo→Bool
 | _,_,.nil=>true
 | m,last,.cell k c r=>CT m last k&&pl c&&!decide (0<c.fN)&&r.wf m k
 | m,last,.node k c kids r=>CT m last k&&pl c&&decide (0<c.fN)&&decide (c.fN=kids.cnt)&&kids.wf (decide (c.fKind=6)) none&&r.wf m k
def GI (k:Option Ai)(sh:As):As:=match k with
 | none=>sh
 | some s=>OY sh ⟨4,0,s,0⟩
def Fo.sh (d:Nat):As→Fo→As
 | s,.nil=>s
 | s,.cell k c r=>r.sh d (DT d (GI k s) c)
 | s,.node k c kids r=>r.sh d (kids.sh (d+1) (DT d (GI k s) c))
def Dv (body:IS→Option (Stp IS Oq))(s:IS)(S:List An)(i:Int)(sh:As):Prop:=
 if GM S=[] then Fin body s (.ret (i,sh,true)) else Ci body s ((GM S).reverse,i,sh)
theorem Dv.of {body:IS→Option (Stp IS Oq)}{s t:IS}{S:List An}{i:Int}{sh:As}(h:Ci body s t)(h':Dv body t S i sh):Dv body s S i sh:=by
 unfold Dv at *
 split
 ·rename_i e;rw[if_pos e] at h';exact h.fin h'
 ·rename_i e;rw[QE e] at h';exact h.trans h'
theorem Dv.pop {body:IS→Option (Stp IS Oq)}{s:IS}{e:An}{S:List An}{i:Int}{sh:As}(h:Dv body s (e::S) i sh)(h1:e.fLeft=1):Dv body s S i sh:=by
 have:GM (e::S)=GM S:=by simp[GM,h1]
 unfold Dv at *;rw[this] at h;exact h
theorem Dv.more {body:IS→Option (Stp IS Oq)}{s:IS}{e:An}{S:List An}{i:Int}{sh:As}(h:Dv body s (e::S) i sh)(h1:1<e.fLeft):Ci body s ((⟨e.fPairs,e.fLeft-1,e.fPairs,e.fLast,e.fStarted⟩::S).reverse,i,sh):=by
 have:GM (e::S)=⟨e.fPairs,e.fLeft-1,e.fPairs,e.fLast,e.fStarted⟩::S:=by simp[GM,h1]
 unfold Dv at *;rw[this,QE (by simp)] at h;exact h
structure KW (F M:Nat) (v:List Ac):Prop where
 hM:M≤1152921504606846976
 hM2:(M+2)*48≤140737488355328
 hv:v.length≤M
 hF:M<F
 hc:∀c∈v,c.fStr.length≤M∧Cl .i64 c.fInt=true∧c.fN≤9223372036854775807
abbrev J1 (F:Nat)(v:List Ac):IS→Option (Stp IS Oq):=λσ=>BO F v σ.1 σ.2.1 σ.2.2
def BR (S:List An):Prop:=∀e∈S,1≤e.fLeft∧e.fLeft≤9223372036854775807
section
variable {F M : Nat} {v : List Ac} {S : List An} {i : Int} {sh : As} {c : Ac} {r : List Ac} {e : An}
theorem En (h0:0≤i)(h:v.drop i.toNat=c::r):v[i.toNat]? =some c∧v.drop (i+1).toNat=r∧i<v.length:=by
 have h1:(v.drop i.toNat)[0]? =some c:=by rw[h];rfl
 have h2:v[i.toNat]? =some c:=by simpa using h1
 have h3:=(List.getElem?_eq_some_iff.1 h2).1;refine⟨h2,?_,by omega⟩;rw[show(i+1).toNat=i.toNat+1 from by omega,← List.drop_drop,h];rfl
theorem round (hA:KW F M v)(h0:0≤i)(h:v.drop i.toNat=c::r)(hS:(S.length:Int)≤i)(hb:BR S):J1 F v (S.reverse,i,sh)=some (JK v.length S i sh c):=by
 obtain⟨h1,_,h3⟩:=En h0 h;obtain⟨a,b,_⟩:=hA.hc c (Qi h1);have:=hA.hv;exact Jc h0 h1 hA.hM hA.hM2 hA.hv (by omega) hA.hF a b hb
def CS (e:An):Option Ai→An
 | none=>e
 | some s=>⟨e.fPairs,e.fLeft,false,s,true⟩
def Ej (e:An):Option Ai→Prop
 | none=>e.fStarted=false
 | some p=>e.fStarted=true∧e.fLast=p
theorem HE (hA:KW F M v)(h0:0≤i){k last:Option Ai}(h:v.drop i.toNat=BT k++r)(hS:(S.length:Int)+1≤i)(hb:BR (e::S))(hk:CT e.fKey last k=true)(hl:Ej e last) :
  Ci (J1 F v) ((e::S).reverse,i,sh) ((CS e k::S).reverse,i+(BT k).length,GI k sh):=by
 cases k with
 | none=>simpa[CS,BT,GI] using Ci.refl _
 | some s=>
  simp only[CT,Qa] at hk;obtain⟨⟨hm,hok⟩,hcmp⟩:=hk;refine Ci.step ?_;rw[round hA h0 (by simpa[BT] using h) (by simpa using hS) hb];have hp:pl ⟨4,0,s,0⟩=true:=by simp[pl,hok]
  have ht:(e.fStarted&&(Bj s e.fLast||decide (s=e.fLast)))=false:=by
   cases last with
   | none=>simp only[Ej] at hl;rw[hl];rfl
   | some p=>obtain⟨h1,h2⟩:=hl;rw[h1,h2];simpa using hcmp
  simp only[JK,hp,hm,ht,Qk,Qc,Qj,decide_true,Qw,Bool.or_self];rfl
theorem G7 {k last:Option Ai}(hk:CT e.fKey last k=true):(CS e k).fKey=false:=by
 cases k with
 | none=>simpa[CS,CT] using hk
 | some s=>rfl
theorem ER (k:Option Ai):(CS e k).fLeft=e.fLeft∧(CS e k).fPairs=e.fPairs:=by cases k<;>exact⟨rfl,rfl⟩
theorem G5 (hA:KW F M v)(h0:0≤i)(h:v.drop i.toNat=c::r)(hS:(S.length:Int)≤i)(hb:BR S)(hk:G8 S=false)(hp:pl c=true)(hn:decide (0<c.fN)=false) :
  Dv (J1 F v) (S.reverse,i,sh) S (i+1) (DT S.length sh c):=by
 have hr:=round (sh:=sh) hA h0 h hS hb;unfold Dv
 cases S with
 | nil=>
  rw[if_pos (by simp[GM])];refine Fin.step ?_;rw[hr];simp[JK,hp,hn]
 | cons e S=>
  simp only[G8] at hk
  split
  ·rename_i hc
   refine Fin.step ?_;rw[hr];simp[JK,hp,hn,hk,hc]
  ·rename_i hc
   refine Ci.step ?_;rw[hr];simp[JK,hp,hn,hk,hc]
theorem E0 (hA:KW F M v)(h0:0≤i)(h:v.drop i.toNat=c::r)(hS:(S.length:Int)≤i)(hb:BR S)(hk:G8 S=false)(hp:pl c=true)(hn:decide (0<c.fN)=true)(hv:c.fN≤v.length) :
  Ci (J1 F v) (S.reverse,i,sh) ((⟨decide (c.fKind=6),c.fN,decide (c.fKind=6),[],false⟩::S).reverse,i+1,DT S.length sh c):=by
 have hr:=round (sh:=sh) hA h0 h hS hb;have hv':decide ((v.length:Int)<c.fN)=false:=by simpa using hv
 refine Ci.step ?_;rw[hr]
 cases S with
 | nil=>simp only[JK,hp,hn,hv',Qk,Qc,Qj];rfl
 | cons e S=>
  simp only[G8] at hk;simp only[JK,hp,hn,hv',hk,Qk,Qc,Qj]
theorem BV:∀f:Fo,f.cnt≤f.flat.length
 | .nil=>Ql _
 | .cell k c r=>by have:=BV r;simp[Fo.cnt,Fo.flat];omega
 | .node k c kids r=>by have:=BV r;simp[Fo.cnt,Fo.flat];omega
theorem Eo {α:Type}{v xs r:List α}{i:Int}(h0:0≤i)(h:v.drop i.toNat=xs++r):v.drop (i+xs.length).toNat=r:=by
 rw[show(i+(xs.length:Int)).toNat=i.toNat+xs.length from by omega,← List.drop_drop,h,List.drop_left]
theorem Jh (hA:KW F M v){e':An}{s:IS}{k:Option Ai}{r':Fo}
  (ih:∀(e:An) (S:List An) (i:Int) (sh:As) (last:Option Ai) (r:List Ac),1≤r'.cnt→r'.wf e.fPairs last=true→e.fKey=e.fPairs→e.fLeft=r'.cnt→Ej e last→(e.fPairs=false→last=none)→v.drop i.toNat=r'.flat++r→0≤i→(S.length:Int)+1≤i→BR S→
   Dv (J1 F v) ((e::S).reverse,i,sh) S (i+r'.flat.length) (r'.sh (S.length+1) sh))
  (hd:Dv (J1 F v) s (e'::S) i sh) (hl:e'.fLeft=r'.cnt+1) (hw:r'.wf e'.fPairs k=true) (hk:Ej e' k) (hm:e'.fPairs=false→k=none) (hv:v.drop i.toNat=r'.flat++r) (h0:0≤i) (hS:(S.length:Int)+1≤i) (hb:BR S) :
  Dv (J1 F v) s S (i+r'.flat.length) (r'.sh (S.length+1) sh):=by
 by_cases h1:r'.cnt=0
 ·cases r' with
  | nil=>simpa[Fo.flat,Fo.sh] using hd.pop (by rw[hl];rfl)
  | cell _ _ _=>simp[Fo.cnt] at h1
  | node _ _ _ _=>simp[Fo.cnt] at h1
 ·have:=hd.more (by omega);refine Dv.of this (ih _ S i sh k r (by omega) hw rfl (by simp only;omega) ?_ hm hv h0 hS hb)
  cases k with
  | none=>exact hk
  | some p=>exact hk
theorem ES {k last:Option Ai}(hl:Ej e last)(hm:e.fPairs=false→last=none)(hk:CT e.fPairs last k=true):Ej (CS e k) k∧((CS e k).fPairs=false→k=none):=by
 cases k with
 | none=>
  have:e.fPairs=false:=by simpa[CT] using hk
  rw[hm this] at hl;exact⟨hl,λ_=>rfl⟩
 | some s=>
  refine⟨⟨rfl,rfl⟩,λh=>?_⟩;have h:e.fPairs=false:=h;simp[CT,h] at hk
theorem GL (hA:KW F M v):∀(f:Fo) (e:An) (S:List An) (i:Int) (sh:As) (last:Option Ai) (r:List Ac),1≤f.cnt→f.wf e.fPairs last=true→e.fKey=e.fPairs→e.fLeft=f.cnt→Ej e last→(e.fPairs=false→last=none)→v.drop i.toNat=f.flat++r→0≤i→(S.length:Int)+1≤i→BR S→
   Dv (J1 F v) ((e::S).reverse,i,sh) S (i+f.flat.length) (f.sh (S.length+1) sh):=by
 have hmax:∀(i:Int) (xs:List Ac),0≤i→v.drop i.toNat=xs→xs.length≤v.length:=λi xs _ h=>by rw[← h,List.length_drop];omega
 intro f
 induction f with
 | nil=>intro e S i sh last r h1;simp[Fo.cnt] at h1
 | cell k c r' ih=>
  intro e S i sh last r h1 hw hk hl hlo hm hv h0 hS hb;simp only[Fo.wf,Qa,Q9] at hw;obtain⟨⟨⟨w1,w2⟩,w3⟩,w4⟩:=hw;simp only[Fo.flat,QB,List.cons_append] at hv;have hcnt:=hmax i _ h0 hv;have hcf:=BV r';simp only[Qm,Qh] at hcnt;have hvM:=hA.hv;have hMM:=hA.hM;simp only[Fo.cnt] at hl;have hb':BR (e::S):=λx hx=>by
   rcases List.mem_cons.1 hx with rfl | hx
   ·constructor<;>omega
   ·exact hb x hx
  have hkr:=HE (sh:=sh) hA h0 hv hS hb' (by rw[hk];exact w1) hlo;have hv1:=Eo h0 hv;obtain⟨kl,kp⟩:=ER (e:=e) k;have hbk:BR (CS e k::S):=λx hx=>by
   rcases List.mem_cons.1 hx with rfl | hx
   ·rw[kl];exact hb' e (by simp)
   ·exact hb x hx
  have hd:=G5 (sh:=GI k sh) hA (by omega) hv1 (by simp only[Qh];omega) hbk (G7 (by rw[hk];exact w1)) w2 w3;obtain⟨q1,q2⟩:=ES hlo hm w1;have hv2:=(En (by omega) hv1).2.1;have:=Jh hA ih (hd.of hkr) (by rw[kl,hl];rfl) (by rw[kp];exact w4) q1 q2 hv2 (by omega) (by omega) hb;simp only[Fo.flat,Fo.sh,Qm,Qh];rw[show i+((((BT k).length+(r'.flat.length+1):Nat)):Int)=i+(BT k).length+1+r'.flat.length from by omega];exact this
 | node k c kids r' ihk ih=>
  intro e S i sh last r h1 hw hk hl hlo hm hv h0 hS hb;simp only[Fo.wf,Qa,PW] at hw;obtain⟨⟨⟨⟨⟨w1,w2⟩,w3⟩,w5⟩,w6⟩,w4⟩:=hw;simp only[Fo.flat,QB,List.cons_append] at hv;have hcnt:=hmax i _ h0 hv;have hcf:=BV r';have hck:=BV kids;simp only[Qm,Qh] at hcnt;have hvM:=hA.hv;have hMM:=hA.hM;simp only[Fo.cnt] at hl;have hb':BR (e::S):=λx hx=>by
   rcases List.mem_cons.1 hx with rfl | hx
   ·constructor<;>omega
   ·exact hb x hx
  have hkr:=HE (sh:=sh) hA h0 hv hS hb' (by rw[hk];exact w1) hlo;have hv1:=Eo h0 hv;obtain⟨kl,kp⟩:=ER (e:=e) k;have hbk:BR (CS e k::S):=λx hx=>by
   rcases List.mem_cons.1 hx with rfl | hx
   ·rw[kl];exact hb' e (by simp)
   ·exact hb x hx
  have hn:=E0 (sh:=GI k sh) hA (by omega) hv1 (by simp only[Qh];omega) hbk (G7 (by rw[hk];exact w1)) w2 (by simpa using w3) (by omega);have hv2:=(En (by omega) hv1).2.1;have hd:=ihk ⟨decide (c.fKind=6),c.fN,decide (c.fKind=6),[],false⟩ (CS e k::S) (i+(BT k).length+1) (DT (S.length+1) (GI k sh) c) none _ (by omega) w6 rfl w5 rfl (λ_=>rfl) hv2 (by omega) (by simp only[Qh];omega) hbk;obtain⟨q1,q2⟩:=ES hlo hm w1;have hv3:=Eo (by omega) hv2;have:=Jh hA ih ((hd.of hn).of hkr) (by rw[kl,hl];rfl) (by rw[kp];exact w4) q1 q2 hv3 (by omega) (by omega) hb;simp only[Fo.flat,Fo.sh,Qm,Qh];rw[show i+((((BT k).length+(kids.flat.length+r'.flat.length+1):Nat)):Int)=i+(BT k).length+1+kids.flat.length+r'.flat.length from by omega];exact this
end
theorem J0 {S O:Type}{body:S→Option (Stp S O)}{o:O}:∀{n:Nat} {s:S} (k:Nat),Dm body n s=some o→Dm body (n+k) s=some o
 | 0,s,k,h=>by cases h
 | n+1,s,k,h=>by
  rw[show n+1+k=n+k+1 from by omega,Dm];rw[Dm] at h
  cases hb:body s with
  | none=>rw[hb] at h;cases h
  | some t=>
   rw[hb] at h
   cases t with
   | next s'=>exact J0 k h
   | out o'=>exact h
theorem Fin.eq {S O:Type}{body:S→Option (Stp S O)}{s:S}{o o':O}{n:Nat}(h:Fin body s o)(h':Dm body n s=some o'):o'=o:=by
 obtain⟨k,hk⟩:=h;have:=J0 k h';rw[hk n] at this;exact(A8 this).symm
theorem It:∀{S:List An},BR S→BR (GM S)∧(GM S).length≤S.length
 | [],h=>⟨h,Ql _⟩
 | e::S,h=>by
  have hS:BR S:=λx hx=>h x (by simp[hx]);have he:=h e (by simp);unfold GM
  cases hd:decide (1<e.fLeft) with
  | true=>
   simp only[PW] at hd;refine⟨λx hx=>?_,by simp⟩;rcases List.mem_cons.1 hx with rfl | hx
   ·simp only;omega
   ·exact hS x hx
  | false=>
   obtain⟨h1,h2⟩:=It hS;exact⟨h1,by simp only[Qc,Qh];omega⟩
theorem MG {n:Int}{S:List An}{i:Int}{sh:As}{c:Ac}{σ:IS}(hb:BR S)(hS:(S.length:Int)≤i)(hN:c.fN≤9223372036854775807)(h:JK n S i sh c = .next σ):∃S' sh',σ=(S'.reverse,i+1,sh')∧BR S'∧(S'.length:Int)≤i+1:=by
 unfold JK at h
 cases hp:pl c with
 | false=>simp[hp] at h
 | true=>
  simp only[hp,Qk,Qc] at h
  cases S with
  | nil=>
   simp only at h
   cases hn:decide (0<c.fN) with
   | false=>simp[hn] at h
   | true=>
    simp only[hn,Qj] at h
    cases hm:decide (n<c.fN) with
    | true=>simp[hm] at h
    | false=>
     simp only[hm,Qc,Stp.next.injEq] at h;refine⟨[_],_,h.symm,λx hx=>?_,by simp at hS ⊢;omega⟩;simp only[Qq] at hx;subst hx;simp only[PW] at hn;exact⟨by simp only;omega,hN⟩
  | cons e S=>
   have he:=hb e (by simp);have hbS:BR S:=λx hx=>hb x (by simp[hx]);simp only[Qh] at hS
   cases hk:e.fKey with
   | true=>
    simp only[hk,Qj] at h
    cases hq:(!decide (c.fKind=4)||(e.fStarted&&(Bj c.fStr e.fLast||decide (c.fStr=e.fLast)))) with
    | true=>rw[hq] at h;simp at h
    | false=>
     rw[hq] at h;simp only[Qc,Stp.next.injEq] at h;refine⟨_::S,_,h.symm,λx hx=>?_,by simp only[Qh];omega⟩;rcases List.mem_cons.1 hx with rfl | hx
     ·exact he
     ·exact hbS x hx
   | false=>
    simp only[hk,Qc] at h
    cases hn:decide (0<c.fN) with
    | true=>
     simp only[hn,Qj] at h
     cases hm:decide (n<c.fN) with
     | true=>simp[hm] at h
     | false=>
      simp only[hm,Qc,Stp.next.injEq] at h;refine⟨_::e::S,_,h.symm,λx hx=>?_,by simp only[Qh];omega⟩;rcases List.mem_cons.1 hx with rfl | hx
      ·simp only[PW] at hn;exact⟨by simp only;omega,hN⟩
      ·exact hb x hx
    | false=>
     simp only[hn,Qc] at h
     cases hq:decide (GM (e::S)=[]) with
     | true=>rw[hq] at h;simp at h
     | false=>
      rw[hq] at h;simp only[Qc,Stp.next.injEq] at h;obtain⟨h1,h2⟩:=It hb;simp only[Qh] at h2;exact⟨_,_,h.symm,h1,by omega⟩
theorem HA {F M:Nat}{v:List Ac}(hA:KW F M v):∃o,Dm (J1 F v) F (([]:List An),0,(⟨0,0,false,false⟩:As))=some o∧True:=by
 refine Dq (λσ=>∃S i sh,σ=(S.reverse,i,sh)∧BR S∧(S.length:Int)≤i∧0≤i∧i≤v.length) (λσ=>v.length-σ.2.1.toNat) (λ_=>True) (λσ hI=>?_) F _ ⟨[],0,_,rfl,(λx hx=>by cases hx),Q4 _,Q4 _,by omega⟩ (by have:=hA.hv;have:=hA.hF;simp;omega);obtain⟨S,i,sh,rfl,hb,hS,h0,hi⟩:=hI
 by_cases hx:i<v.length
 ·obtain⟨c,hc⟩:∃c,v[i.toNat]? =some c:=⟨v[i.toNat]'(by omega),PZ (by omega)⟩
  have hdr:v.drop i.toNat=c::v.drop (i.toNat+1):=by rw[List.drop_eq_getElem_cons (by omega)];congr 1;exact(List.getElem?_eq_some_iff.1 hc).2
  have hr:=round (sh:=sh) hA h0 hdr hS hb
  cases hl:JK v.length S i sh c with
  | next τ=>
   obtain⟨S',sh',rfl,h1,h2⟩:=MG hb hS (hA.hc c (Qi hc)).2.2 hl;exact .inl ⟨_,by rw[hr,hl],⟨S',i+1,sh',rfl,h1,h2,by omega,by omega⟩,by simp only;omega⟩
  | out o=>exact .inr ⟨o,by rw[hr,hl],trivial⟩
 ·refine .inr ⟨.go sh,?_,trivial⟩;show BO F v S.reverse i sh=_;unfold BO;rw[AQ (by simpa using hx)]
def Fo.one:Fo→Bool
 | .cell none _ .nil=>true
 | .node none _ _ .nil=>true
 | _=>false
def HM:As:=⟨0,0,false,false⟩
theorem MF {F M:Nat}{v:List Ac}(hA:KW F M v){f:Fo}(h1:f.one=true)(hw:f.wf false none=true){r:List Ac}(hv:v=f.flat++r):Fin (J1 F v) ([],0,HM) (.ret (f.flat.length,f.sh 0 HM,true)):=by
 have h0:v.drop (0:Int).toNat=f.flat++r:=by rw[hv];rfl
 have hlen:f.flat.length≤v.length:=by rw[hv];simp
 cases f with
 | nil=>cases h1
 | cell k c r'=>
  cases k with
  | some s=>cases h1
  | none=>
   cases r' with
   | nil=>
    simp only[Fo.wf,Qa,Q9] at hw;have:=G5 (S:=[]) (sh:=HM) hA (Q4 0) h0 (by simp) (λx hx=>by cases hx) rfl hw.1.1.2 hw.1.2;unfold Dv at this;rw[if_pos (show GM []=[] from rfl)] at this;simpa[Fo.flat,Fo.sh,BT,GI] using this
   | cell _ _ _=>cases h1
   | node _ _ _ _=>cases h1
 | node k c kids r'=>
  cases k with
  | some s=>cases h1
  | none=>
   cases r' with
   | nil=>
    simp only[Fo.wf,Qa,PW] at hw;obtain⟨⟨⟨⟨⟨w1,w2⟩,w3⟩,w5⟩,w6⟩,w4⟩:=hw;have hck:=BV kids;simp only[Fo.flat,BT,List.nil_append,List.append_nil,Qh] at hlen;have hvM:=hA.hv;have hMM:=hA.hM;have hn:=E0 (S:=[]) (sh:=HM) hA (Q4 0) h0 (by simp) (λx hx=>by cases hx) rfl w2 (by simpa using w3) (by omega);have hv2:=(En (Q4 0) h0).2.1;have hd:=GL hA kids ⟨decide (c.fKind=6),c.fN,decide (c.fKind=6),[],false⟩ [] (0+1) (DT 0 HM c) none r (by omega) w6 rfl w5 rfl (λ_=>rfl) (by rw[hv2];simp[Fo.flat]) (by omega) (by simp) (λx hx=>by cases hx);unfold Dv at hd;rw[if_pos (show GM []=[] from rfl)] at hd;have:=hn.fin hd;have e:((0:Int)+1+kids.flat.length)=((Fo.node none c kids .nil).flat.length:Int):=by simp[Fo.flat,BT];omega
    rw[e] at this;exact this
   | cell _ _ _=>cases h1
   | node _ _ _ _=>cases h1
theorem ME {F M:Nat}{v:List Ac}(hA:KW F M v){f:Fo}(h1:f.one=true)(hw:f.wf false none=true){r:List Ac}(hv:v=f.flat++r):Gb F v=some ((f.flat.length:Int),f.sh 0 HM,true):=by
 obtain⟨o,ho,_⟩:=HA hA;have e:=(MF hA h1 hw hv).eq ho;subst e;unfold Gb;rw[AR ho];rfl
def JZ (m:Bool)(last:Option Ai)(xs:List Ac):Option (Option Ai×List Ac):=
 bif m then match xs with
  | []=>none
  | c::r=>bif pl c&&decide (c.fKind=4)&&CT true last (some c.fStr) then some (some c.fStr,r) else none
 else some (none,xs)
def If:Nat→Bool→Option Ai→Nat→List Ac→Option (Fo×List Ac)
 | 0,_,_,_,_=>none
 | _+1,_,_,0,xs=>some (.nil,xs)
 | F+1,m,last,k+1,xs=>
  match JZ m last xs with
  | none=>none
  | some (_,[])=>none
  | some (key,c::xs')=>
   bif !pl c then none else
   bif decide (0<c.fN) then
    match If F (decide (c.fKind=6)) none c.fN.toNat xs' with
    | none=>none
    | some (kids,ys)=>match If F m key k ys with
     | none=>none
     | some (r,zs)=>some (.node key c kids r,zs)
   else match If F m key k xs' with
    | none=>none
    | some (r,zs)=>some (.cell key c r,zs)
theorem Mr {c:Ac}(hp:pl c=true)(hk:c.fKind=4):c=⟨4,0,c.fStr,0⟩∧c.fStr.all N9=true:=by
 cases c
 simp only at hk;subst hk;simp[pl] at hp;obtain⟨h1,h2,h3⟩:=hp;subst h1;subst h2;exact⟨rfl,by simpa using h3⟩
theorem K9 {m:Bool}{last key:Option Ai}{xs r:List Ac}(h:JZ m last xs=some (key,r)):xs=BT key++r∧CT m last key=true:=by
 unfold JZ at h
 cases m with
 | false=>cases h;exact⟨rfl,rfl⟩
 | true=>
  simp only[Qj] at h
  cases xs with
  | nil=>cases h
  | cons c r'=>
   simp only at h
   cases hb:(pl c&&decide (c.fKind=4)&&CT true last (some c.fStr)) with
   | false=>rw[hb] at h;cases h
   | true=>
    rw[hb] at h;simp only[Qa,PW] at hb
    cases h
    exact⟨by rw[(Mr hb.1.1 hb.1.2).1];rfl,hb.2⟩
theorem Ed:∀(F:Nat) (m:Bool) (last:Option Ai) (k:Nat) (xs:List Ac) (f:Fo) (ys:List Ac),If F m last k xs=some (f,ys)→xs=f.flat++ys∧f.wf m last=true∧f.cnt=k
 | 0,_,_,_,_,_,_,h=>by cases h
 | F+1,m,last,0,xs,f,ys,h=>by cases h;exact⟨rfl,rfl,rfl⟩
 | F+1,m,last,k+1,xs,f,ys,h=>by
  rw[If] at h
  cases hk:JZ m last xs with
  | none=>rw[hk] at h;cases h
  | some p=>
   obtain⟨key,r⟩:=p;obtain⟨h1,h2⟩:=K9 hk;rw[hk] at h
   cases r with
   | nil=>cases h
   | cons c xs'=>
    simp only at h
    cases hp:pl c with
    | false=>rw[hp] at h;cases h
    | true=>
     rw[hp] at h;simp only[Qk,Qc] at h
     cases hn:decide (0<c.fN) with
     | true=>
      rw[hn] at h;simp only[Qj] at h
      cases hq:If F (decide (c.fKind=6)) none c.fN.toNat xs' with
      | none=>rw[hq] at h;cases h
      | some q=>
       obtain⟨kids,zs⟩:=q;rw[hq] at h;simp only at h
       cases hr:If F m key k zs with
       | none=>rw[hr] at h;cases h
       | some q2=>
        obtain⟨r2,us⟩:=q2;rw[hr] at h;cases h;obtain⟨a1,a2,a3⟩:=Ed F _ _ _ _ _ _ hq;obtain⟨b1,b2,b3⟩:=Ed F _ _ _ _ _ _ hr;refine⟨by rw[h1,a1,b1];simp[Fo.flat],?_,by simp[Fo.cnt,b3]⟩;simp only[PW] at hn;simp only[Fo.wf,h2,hp,a2,b2,Qx,Qs,Qa,PW];omega
     | false=>
      rw[hn] at h;simp only[Qc] at h
      cases hr:If F m key k xs' with
      | none=>rw[hr] at h;cases h
      | some q2=>
       obtain⟨r2,us⟩:=q2;rw[hr] at h;cases h;obtain⟨b1,b2,b3⟩:=Ed F _ _ _ _ _ _ hr;exact⟨by rw[h1,b1];simp[Fo.flat],by simp[Fo.wf,h2,hp,b2,hn],by simp[Fo.cnt,b3]⟩
def Ku {S:Type}(body:S→Option (Stp S Oq))(s:S):Prop:=∃sh',Fin body s (.ret (0,sh',false))∨Fin body s (.go sh')
theorem Ci.bad {S:Type}{body:S→Option (Stp S Oq)}{s t:S}(h:Ci body s t)(h':Ku body t):Ku body s:=by
 obtain⟨sh',h' | h'⟩:=h'
 ·exact⟨sh',.inl (h.fin h')⟩
 ·exact⟨sh',.inr (h.fin h')⟩
section
variable {F M : Nat} {v : List Ac}
theorem Ku.end_ {S:List An}{i:Int}{sh:As}(h0:0≤i)(h:v.drop i.toNat=[]):Ku (J1 F v) (S.reverse,i,sh):=by
 refine⟨sh,.inr (Fin.step ?_)⟩;show BO F v S.reverse i sh=_;unfold BO;rw[AQ];have:v.length≤i.toNat:=by simpa using h
 simp;omega
theorem Ku.pl_ (hA:KW F M v){S:List An}{i:Int}{sh:As}{c:Ac}{r:List Ac}(h0:0≤i)(h:v.drop i.toNat=c::r)(hS:(S.length:Int)≤i)(hb:BR S)(hp:pl c=false):Ku (J1 F v) (S.reverse,i,sh):=by
 refine⟨sh,.inl (Fin.step ?_)⟩;rw[round hA h0 h hS hb];simp[JK,hp]
theorem Km (hA:KW F M v):∀(P:Nat) (k:Nat) (e:An) (S:List An) (i:Int) (sh:As) (last:Option Ai) (xs:List Ac),xs.length<P→If P e.fPairs last (k+1) xs=none→e.fKey=e.fPairs→e.fLeft=(k:Int)+1→(k:Int)+1≤9223372036854775807→Ej e last→(e.fPairs=false→last=none)→v.drop i.toNat=xs→0≤i→(S.length:Int)+1≤i→BR S→
  Ku (J1 F v) ((e::S).reverse,i,sh):=by
 intro P
 induction P with
 | zero=>intro k e S i sh last xs h;omega
 | succ P ih=>
  intro k e S i sh last xs hP hn hk hl hkm hlo hm hv h0 hS hb;have hb':BR (e::S):=λx hx=>by
   rcases List.mem_cons.1 hx with rfl | hx
   ·constructor<;>omega
   ·exact hb x hx
  rw[If] at hn
  cases hq:JZ e.fPairs last xs with
  | none=>
   unfold JZ at hq
   cases hpr:e.fPairs with
   | false=>rw[hpr] at hq;cases hq
   | true=>
    rw[hpr] at hq hk;simp only[Qj] at hq
    cases xs with
    | nil=>exact Ku.end_ h0 hv
    | cons c r=>
     simp only at hq
     cases hp:pl c with
     | false=>exact Ku.pl_ hA h0 hv (by simpa using hS) hb' hp
     | true=>
      refine⟨sh,.inl (Fin.step ?_)⟩;rw[round hA h0 hv (by simpa using hS) hb'];have ht:(!decide (c.fKind=4)||(e.fStarted&&(Bj c.fStr e.fLast||decide (c.fStr=e.fLast))))=true:=by
       rw[hp] at hq
       cases h4:decide (c.fKind=4) with
       | false=>rfl
       | true=>
        rw[h4] at hq;simp only[Bool.and_self,Qs] at hq;have hok:=(Mr hp (by simpa using h4)).2
        cases last with
        | none=>simp[CT,hok] at hq
        | some p=>
         obtain⟨q1,q2⟩:=hlo;rw[q1,q2]
         cases hc:(Bj c.fStr p||decide (c.fStr=p)) with
         | true=>rfl
         | false=>simp[CT,hok,hc] at hq
      simp only[JK,hp,hk,ht,Qk,Qc,Qj]
  | some q=>
   obtain⟨key,r⟩:=q;obtain⟨h1,h2⟩:=K9 hq;rw[hq] at hn;have hkr:=HE (sh:=sh) hA h0 (by rw[hv];exact h1) hS hb' (by rw[hk];exact h2) hlo;have hv1:=Eo h0 (hv.trans h1);obtain⟨kl,kp⟩:=ER (e:=e) key;obtain⟨q1,q2⟩:=ES hlo hm h2;have hbk:BR (CS e key::S):=λx hx=>by
    rcases List.mem_cons.1 hx with rfl | hx
    ·rw[kl];exact hb' e (by simp)
    ·exact hb x hx
   refine hkr.bad ?_
   cases r with
   | nil=>exact Ku.end_ (by omega) hv1
   | cons c xs'=>
    have hlen:xs'.length+1≤xs.length:=by rw[h1];simp
    have hvl:xs.length≤v.length:=by rw[← hv,List.length_drop];omega
    have hvM:=hA.hv;have hMM:=hA.hM;have hkk:=G7 (e:=e) (last:=last) (k:=key) (by rw[hk];exact h2);simp only at hn;have hSk:(((CS e key::S).length:Nat):Int)≤i+(BT key).length:=by simp only[Qh];omega
    cases hp:pl c with
    | false=>exact Ku.pl_ hA (by omega) hv1 hSk hbk hp
    | true=>
     rw[hp] at hn;simp only[Qk,Qc] at hn;obtain⟨g1,g2,g3⟩:=En (by omega) hv1;have hcN:=(hA.hc c (Qi g1)).2.2;have more:∀(s:IS) (j:Int) (sh':As) (zs:List Ac),Dv (J1 F v) s (CS e key::S) j sh'→v.drop j.toNat=zs→zs.length<P→0≤j→(S.length:Int)+1≤j→If P e.fPairs key k zs=none→Ku (J1 F v) s:=λs j sh' zs hd hz hzl hj hSj hnone=>by
      cases k with
      | zero=>
       cases P with
       | zero=>omega
       | succ P=>cases hnone
      | succ k=>
       have:=hd.more (by rw[kl];omega);refine this.bad (ih k _ S j sh' key zs hzl (by rw[kp];exact hnone) rfl (by simp only[kl];omega) (by omega) ?_ (by simpa using q2) hz hj hSj hb)
       cases key with
       | none=>exact q1
       | some p=>exact q1
     cases hN:decide (0<c.fN) with
     | true=>
      rw[hN] at hn;simp only[Qj] at hn;simp only[PW] at hN
      by_cases hbig:c.fN≤v.length
      ·have hnd:=E0 (sh:=GI key sh) hA (by omega) hv1 hSk hbk (by simpa[G8] using hkk) hp (by simpa using hN) hbig;refine hnd.bad ?_
       cases hks:If P (decide (c.fKind=6)) none c.fN.toNat xs' with
       | none=>
        obtain⟨n',hn'⟩:∃n',c.fN.toNat=n'+1:=⟨c.fN.toNat-1,by omega⟩
        rw[hn'] at hks;exact ih n' _ _ _ _ none xs' (by omega) hks rfl (by simp only;omega) (by omega) rfl (λ_=>rfl) g2 (by omega) (by simp only[Qh];omega) hbk
       | some q=>
        obtain⟨kids,zs⟩:=q;rw[hks] at hn;simp only at hn;have hn2:If P e.fPairs key k zs=none:=by
         cases hz:If P e.fPairs key k zs with
         | none=>rfl
         | some q=>rw[hz] at hn;cases hn
        obtain⟨a1,a2,a3⟩:=Ed _ _ _ _ _ _ _ hks;have hd:=GL hA kids ⟨decide (c.fKind=6),c.fN,decide (c.fKind=6),[],false⟩ (CS e key::S) (i+(BT key).length+1) (DT (S.length+1) (GI key sh) c) none zs (by omega) a2 rfl (by simp only;omega) rfl (λ_=>rfl) (by rw[g2];exact a1) (by omega) (by simp only[Qh];omega) hbk;have hz:v.drop (i+(BT key).length+1+kids.flat.length).toNat=zs:=Eo (by omega) (g2.trans a1);have hzl:zs.length≤xs'.length:=by rw[a1];simp
        exact more _ _ _ zs hd hz (by omega) (by omega) (by omega) hn2
      ·refine⟨DT (CS e key::S).length (GI key sh) c,.inl (Fin.step ?_)⟩;rw[round hA (by omega) hv1 hSk hbk];have hbig':decide ((v.length:Int)<c.fN)=true:=by simpa using hbig
       simp only[JK,hp,hkk,hbig',hN,Qk,Qc,Qj,decide_true]
     | false=>
      rw[hN] at hn;simp only[Qc] at hn;have hn2:If P e.fPairs key k xs'=none:=by
       cases hz:If P e.fPairs key k xs' with
       | none=>rfl
       | some q=>rw[hz] at hn;cases hn
      have hd:=G5 (sh:=GI key sh) hA (by omega) hv1 hSk hbk (by simpa[G8] using hkk) hp hN;exact more _ _ _ xs' hd g2 (by omega) (by omega) (by omega) hn2
def Ka (xs:List Ac):Option (Fo×List Ac):=If (xs.length+1) false none 1 xs
theorem K8 {P:Nat}{xs ys:List Ac}{f:Fo}(h:If P false none 1 xs=some (f,ys)):f.one=true:=by
 obtain⟨h1,h2,h3⟩:=Ed _ _ _ _ _ _ _ h
 cases f with
 | nil=>cases h3
 | cell k c r=>
  cases r with
  | nil=>
   cases k with
   | none=>rfl
   | some s=>simp[Fo.wf,CT] at h2
  | cell _ _ _=>simp[Fo.cnt] at h3
  | node _ _ _ _=>simp[Fo.cnt] at h3
 | node k c kids r=>
  cases r with
  | nil=>
   cases k with
   | none=>rfl
   | some s=>simp[Fo.wf,CT] at h2
  | cell _ _ _=>simp[Fo.cnt] at h3
  | node _ _ _ _=>simp[Fo.cnt] at h3
theorem L3 (hA:KW F M v)(h:Ka v=none):Ku (J1 F v) ([],0,HM):=by
 have hlf:BR []:=λx hx=>by cases hx
 unfold Ka at h;rw[If] at h;simp only[JZ,Qc] at h
 cases v with
 | nil=>exact Ku.end_ (S:=[]) (Q4 0) rfl
 | cons c xs'=>
  have hv1:(c::xs').drop (0:Int).toNat=c::xs':=rfl;have hvM:=hA.hv;have hMM:=hA.hM;simp only at h
  cases hp:pl c with
  | false=>exact Ku.pl_ (S:=[]) hA (Q4 0) hv1 (by simp) hlf hp
  | true=>
   rw[hp] at h;simp only[Qk,Qc] at h;have hcN:=(hA.hc c (by simp)).2.2
   cases hN:decide (0<c.fN) with
   | true=>
    rw[hN] at h;simp only[Qj] at h;simp only[PW] at hN
    by_cases hbig:c.fN≤(c::xs').length
    ·have hnd:=E0 (S:=[]) (sh:=HM) hA (Q4 0) hv1 (by simp) hlf rfl hp (by simpa using hN) hbig;refine hnd.bad ?_
     cases hks:If (c::xs').length (decide (c.fKind=6)) none c.fN.toNat xs' with
     | none=>
      obtain⟨n',hn'⟩:∃n',c.fN.toNat=n'+1:=⟨c.fN.toNat-1,by omega⟩
      rw[hn'] at hks;exact Km hA (c::xs').length n' ⟨decide (c.fKind=6),c.fN,decide (c.fKind=6),[],false⟩ [] (0+1) _ none xs' (by simp) hks rfl (by simp only;omega) (by omega) rfl (λ_=>rfl) rfl (by omega) (by simp) hlf
     | some q=>rw[hks] at h;cases h
    ·refine⟨DT 0 HM c,.inl (Fin.step ?_)⟩;rw[show J1 F (c::xs') (([]:List An),0,HM)=_ from round (S:=[]) hA (Q4 0) hv1 (by simp) hlf];have hbig':decide (((c::xs').length:Int)<c.fN)=true:=by simpa using hbig
     simp only[JK,hp,hbig',hN,Qk,Qc,Qj,decide_true]
   | false=>rw[hN] at h;cases h
theorem NF (hA:KW F M v):(∃f ys,Ka v=some (f,ys)∧Gb F v=some ((f.flat.length:Int),f.sh 0 HM,true))∨(Ka v=none∧∃sh',Gb F v=some (0,sh',false)):=by
 cases h:Ka v with
 | some q=>
  obtain⟨f,ys⟩:=q;obtain⟨h1,h2,h3⟩:=Ed _ _ _ _ _ _ _ h;exact .inl ⟨f,ys,rfl,ME hA (K8 h) h2 h1⟩
 | none=>
  refine .inr ⟨rfl,?_⟩;obtain⟨o,ho,_⟩:=HA hA;obtain⟨sh',hb | hb⟩:=L3 hA h
  ·have e:=hb.eq ho;subst e;exact⟨sh',by unfold Gb;rw[AR ho];rfl⟩
  ·have e:=hb.eq ho;subst e;exact⟨sh',by unfold Gb;rw[AR ho];rfl⟩
end
theorem Es {x:Int}(h : -9223372036854775808≤x)(h':x≤9223372036854775807):IntKind.wrap .i64 x=x:=by
 simp only[IntKind.wrap,IntKind.bits,IntKind.signed];simp;omega
def Fo.dep:Fo→Nat
 | .nil=>0
 | .cell _ _ r=>max 1 r.dep
 | .node _ _ kids r=>max (kids.dep+1) r.dep
theorem Da (k:Option Ai)(s:As):(GI k s).fDepth=s.fDepth∧(GI k s).fOutside=s.fOutside∧(GI k s).fLong=(s.fLong||(BT k).any λc=>decide (200<(c.fStr.length:Int))):=by
 cases k with
 | none=>simp[GI,BT]
 | some x=>simp[GI,OY,BT]
theorem Gh:∀(f:Fo) (d:Nat) (s:As),(d:Int)≤s.fDepth→(f.sh d s).fDepth=max s.fDepth ((d:Int)+f.dep)
 | .nil,d,s,h=>by simp only[Fo.sh,Fo.dep];omega
 | .cell k c r,d,s,h=>by
  have hk:=(Da k s).1;have e:(DT d (GI k s) c).fDepth=max s.fDepth ((d:Int)+1):=by rw[DT,hk]
  rw[Fo.sh,Gh r d _ (by rw[e];omega),e,Fo.dep];omega
 | .node k c kids r,d,s,h=>by
  have hk:=(Da k s).1;have e:(DT d (GI k s) c).fDepth=max s.fDepth ((d:Int)+1):=by rw[DT,hk]
  have e2:=Gh kids (d+1) (DT d (GI k s) c) (by rw[e];omega);rw[e] at e2;rw[Fo.sh,Gh r d _ (by rw[e2];omega),e2,Fo.dep];omega
def Lk (c:Ac):Bool:=decide (c.fKind=3)&&!(decide ((-1000000000000)≤c.fInt)&&decide (c.fInt≤1000000000000))
def KH (c:Ac):Bool:=decide (200<(c.fStr.length:Int))
theorem J6 (k:Option Ai):(BT k).any Lk=false:=by cases k<;>simp[BT,Lk]
theorem I6:∀(f:Fo) (d:Nat) (s:As),(f.sh d s).fOutside=(s.fOutside||f.flat.any Lk)
 | .nil,d,s=>by simp[Fo.sh,Fo.flat]
 | .cell k c r,d,s=>by
  rw[Fo.sh,I6 r,DT,(Da k s).2.1];simp only[Fo.flat,List.any_append,List.any_cons,J6,Qn,Bool.or_assoc];rfl
 | .node k c kids r,d,s=>by
  rw[Fo.sh,I6 r,I6 kids,DT,(Da k s).2.1];simp only[Fo.flat,List.any_append,List.any_cons,J6,Qn,Bool.or_assoc];rfl
theorem GZ:∀(f:Fo) (d:Nat) (s:As),(f.sh d s).fLong=(s.fLong||f.flat.any KH)
 | .nil,d,s=>by simp[Fo.sh,Fo.flat]
 | .cell k c r,d,s=>by
  rw[Fo.sh,GZ r,DT,(Da k s).2.2];simp only[Fo.flat,List.any_append,List.any_cons,Bool.or_assoc];rfl
 | .node k c kids r,d,s=>by
  rw[Fo.sh,GZ r,GZ kids,DT,(Da k s).2.2];simp only[Fo.flat,List.any_append,List.any_cons,Bool.or_assoc];rfl
def Nf (c:Ac):Int:=
 bif decide (c.fKind=1) then 4 else bif decide (c.fKind=2) then 5-c.fInt else bif decide (c.fKind=3) then((Lib.itoa c.fInt).length:Int) else
 bif decide (c.fKind=4) then G0 c.fStr else 2
def IE:Option Ai→Int
 | none=>0
 | some s=>G0 s+1
def Fo.byt:Fo→Int
 | .nil=>0
 | .cell k c r=>IE k+Nf c+r.byt
 | .node k c kids r=>IE k+(c.fN+1)+kids.byt+r.byt
theorem H4 (s:Ai):2≤G0 s:=by unfold G0;omega
theorem He (k:Option Ai):0≤IE k:=by
 cases k with
 | none=>exact Q4 0
 | some s=>have:=H4 s;simp only[IE];omega
theorem KG {c:Ac}(hp:pl c=true):0≤Nf c:=by
 unfold Nf
 cases h1:decide (c.fKind=1) with
 | true=>simp
 | false=>
  cases h2:decide (c.fKind=2) with
  | true=>
   simp[pl,h1,h2] at hp;simp only[Qc,Qj];omega
  | false=>
   cases h3:decide (c.fKind=3) with
   | true=>simp
   | false=>
    cases h4:decide (c.fKind=4) with
    | true=>have:=H4 c.fStr;simp only[Qc,Qj];omega
    | false=>simp
theorem PA {c:Ac}(hp:pl c=true):0≤c.fN:=by
 simp only[pl,← Bool.decide_or] at hp
 cases h1:decide (c.fKind=1)<;>cases h2:decide (c.fKind=2)<;>cases h3:decide (c.fKind=3)<;>cases h4:decide (c.fKind=4)<;>cases h5:decide (c.fKind=5)<;>cases h6:decide (c.fKind=6)<;>simp[h1,h2,h3,h4,h5,h6] at hp<;>omega
theorem N3 {c:Ac}(hp:pl c=true)(hn:0<c.fN):(c.fKind=5∨c.fKind=6)∧c.fInt=0∧c.fStr=[]:=by
 cases h1:decide (c.fKind=1)<;>cases h2:decide (c.fKind=2)<;>cases h3:decide (c.fKind=3)<;>cases h4:decide (c.fKind=4)<;>cases h5:decide (c.fKind=5)<;>cases h6:decide (c.fKind=6)<;>simp[pl,h1,h2,h3,h4,h5,h6] at hp<;>(simp only[PW,PX] at *;first | omega | exact⟨by omega,hp.1,hp.2.1⟩)
theorem Mi {c:Ac}(hp:pl c=true)(hn:decide (0<c.fN)=false):O2 c=Nf c:=by
 have hN:=PA hp;have h0:c.fN=0:=by simp only[PX] at hn;omega
 unfold O2 Nf;rw[h0]
 cases h1:decide (c.fKind=1) with
 | true=>rfl
 | false=>
  cases h2:decide (c.fKind=2) with
  | true=>
   simp[pl,h1,h2] at hp;simp only[Qc,Qj];exact Es (by omega) (by omega)
  | false=>rfl
theorem Mh {c:Ac}(hp:pl c=true)(hn:0<c.fN)(hm:c.fN≤9223372036854775000):O2 c=c.fN+1:=by
 obtain⟨hk,_,_⟩:=N3 hp hn;unfold O2;rw[Qe (by omega),Qe (by omega),Qe (by omega),Qe (by omega)];simp only[Qc];rw[Es (x:=c.fN-1) (by omega) (by omega),Es (by omega) (by omega)];omega
theorem DH:∀{f:Fo} {m:Bool} {l:Option Ai},f.wf m l=true→0≤f.byt
 | .nil,_,_,_=>Q4 0
 | .cell k c r,m,l,h=>by
  simp only[Fo.wf,Qa] at h;have h1:=DH h.2;have h2:=KG h.1.1.2;have h3:=He k;simp only[Fo.byt];omega
 | .node k c kids r,m,l,h=>by
  simp only[Fo.wf,Qa,PW] at h;have h1:=DH h.2;have h2:=DH h.1.2;have h3:=He k;simp only[Fo.byt];omega
theorem Ie (k:Option Ai)(s:As)(h0:0≤s.fBytes)(h:s.fBytes+IE k≤9223372036854775807):(GI k s).fBytes=s.fBytes+IE k:=by
 cases k with
 | none=>simp[GI,IE]
 | some x=>
  have:=H4 x;simp only[IE] at h;simp only[GI,OY,IE];exact Es (by omega) (by omega)
theorem Gi:∀(f:Fo) (m:Bool) (l:Option Ai) (d:Nat) (s:As),f.wf m l=true→0≤s.fBytes→s.fBytes+f.byt≤9223372036854775000→(f.sh d s).fBytes=s.fBytes+f.byt
 | .nil,_,_,d,s,_,_,_=>by simp[Fo.sh,Fo.byt]
 | .cell k c r,m,l,d,s,hw,h0,h=>by
  simp only[Fo.wf,Qa,Q9] at hw;obtain⟨⟨⟨w1,w2⟩,w3⟩,w4⟩:=hw;have h1:=DH w4;have h2:=KG w2;have h3:=He k;simp only[Fo.byt] at h;have e1:=Ie k s h0 (by omega);have e:(DT d (GI k s) c).fBytes=s.fBytes+IE k+Nf c:=by
   rw[DT,e1,Mi w2 w3];exact Es (by omega) (by omega)
  rw[Fo.sh,Gi r _ _ d _ w4 (by rw[e];omega) (by rw[e];omega),e,Fo.byt];omega
 | .node k c kids r,m,l,d,s,hw,h0,h=>by
  simp only[Fo.wf,Qa,PW] at hw;obtain⟨⟨⟨⟨⟨w1,w2⟩,w3⟩,w5⟩,w6⟩,w4⟩:=hw;have h1:=DH w4;have h2:=DH w6;have h3:=He k;simp only[Fo.byt] at h;have e1:=Ie k s h0 (by omega);have e:(DT d (GI k s) c).fBytes=s.fBytes+IE k+(c.fN+1):=by
   rw[DT,e1,Mh w2 w3 (by omega)];exact Es (by omega) (by omega)
  have e2:=Gi kids _ _ (d+1) (DT d (GI k s) c) w6 (by rw[e];omega) (by rw[e];omega);rw[Fo.sh,Gi r _ _ d _ w4 (by rw[e2,e];omega) (by rw[e2,e];omega),e2,e,Fo.byt];omega
def OJ (s:Ai):Ai:=s.flatMap λc=>bif (decide (c=34)||decide (c=92)) then[92,c] else[c]
def N1 (s:Ai):Ai:=34::(OJ s++[34])
theorem JC:∀s:Ai,(OJ s).length=s.length+s.count 34+s.count 92
 | []=>rfl
 | c::s=>by
  have ih:=JC s;unfold OJ at ih ⊢;rw[List.flatMap_cons,Qm,ih]
  by_cases h1:c=34
  ·subst h1;simp;omega
  ·by_cases h2:c=92
   ·subst h2;simp;omega
   ·simp[h1,h2,List.count_cons];omega
theorem Jn (s:Ai):((N1 s).length:Int)=G0 s:=by
 simp only[N1,Qh,Qm,JC,QG,G0];omega
def MJ (c:Ac):Ai:=
 bif decide (c.fKind=1) then[110,117,108,108] else
 bif decide (c.fKind=2) then(bif decide (c.fInt=1) then[116,114,117,101] else[102,97,108,115,101]) else
 bif decide (c.fKind=3) then Lib.itoa c.fInt else
 bif decide (c.fKind=4) then N1 c.fStr else
 bif decide (c.fKind=6) then[123,125] else[91,93]
def P1:Option Ai→Ai
 | none=>[]
 | some s=>N1 s++[58]
def PH (c:Ac)(s:Ai):Ai:=bif decide (c.fKind=6) then 123::(s++[125]) else 91::(s++[93])
def Nx (first:Bool):Ai:=bif first then[] else[44]
def Fo.txt:Bool→Fo→Ai
 | _,.nil=>[]
 | b,.cell k c r=>Nx b++P1 k++MJ c++r.txt false
 | b,.node k c kids r=>Nx b++P1 k++PH c (kids.txt true)++r.txt false
theorem KL (k:Option Ai):((P1 k).length:Int)=IE k:=by
 cases k with
 | none=>rfl
 | some s=>simp only[P1,Qm,IE,QC];have:=Jn s;omega
theorem L4 {c:Ac}(hp:pl c=true):((MJ c).length:Int)=Nf c:=by
  unfold MJ Nf
  cases h1:decide (c.fKind=1) with
  | true=>rfl
  | false=>
    cases h2:decide (c.fKind=2) with
    | true=>
      simp[pl,h1,h2] at hp;simp only[Qc,Qj]
      cases h7:decide (c.fInt=1) with
      | true=>simp only[PW] at h7;simp[h7]
      | false=>
                 simp only[PX] at h7;have:c.fInt=0:=by omega
                 simp[this]
    | false=>
      cases h3:decide (c.fKind=3) with
      | true=>rfl
      | false=>
        cases h4:decide (c.fKind=4) with
        | true=>simpa using Jn c.fStr
        | false=>cases h6:decide (c.fKind=6)<;>rfl
theorem NU (c:Ac)(s:Ai):(PH c s).length=s.length+2:=by
 unfold PH
 cases decide (c.fKind=6)<;>simp
theorem GY:∀(f:Fo) (m:Bool) (l:Option Ai) (b:Bool),f.wf m l=true→((f.txt b).length:Int)=f.byt+(bif b then((f.cnt-1:Nat):Int) else(f.cnt:Int))
 | .nil,m,l,b,_=>by cases b<;>rfl
 | .cell k c r,m,l,b,hw=>by
  simp only[Fo.wf,Qa,Q9] at hw;obtain⟨⟨⟨w1,w2⟩,w3⟩,w4⟩:=hw;have ih:=GY r _ _ false w4;have a:=KL k;have d:=L4 w2;simp only[Qc] at ih
  cases b<;>simp only[Fo.txt,Fo.byt,Fo.cnt,Nx,Qj,Qc,Qm,QG,QC]<;>omega
 | .node k c kids r,m,l,b,hw=>by
  simp only[Fo.wf,Qa,PW] at hw;obtain⟨⟨⟨⟨⟨w1,w2⟩,w3⟩,w5⟩,w6⟩,w4⟩:=hw;have ih:=GY r _ _ false w4;have ih2:=GY kids _ _ true w6;have a:=KL k;have d:=NU c (kids.txt true);simp only[Qc,Qj] at ih ih2
  cases b<;>simp only[Fo.txt,Fo.byt,Fo.cnt,Nx,Qj,Qc,Qm,QG,QC]<;>omega
def Fo.put (k:Option Ai):Fo→Fo→Fo
 | .cell _ c _,r=>.cell k c r
 | .node _ c kids _,r=>.node k c kids r
 | .nil,_=>.nil
theorem N2 {xs ys:List Ac}{f:Fo}(h:Ka xs=some (f,ys)):xs=f.flat++ys∧f.wf false none=true∧f.one=true:=
 ⟨(Ed _ _ _ _ _ _ _ h).1,(Ed _ _ _ _ _ _ _ h).2.1,K8 h⟩
structure PV (F M:Nat) (v:List Ac):Prop where
 hM:M≤1152921504606846976
 hv:v.length≤M
 hF:M<F
 hc:∀c∈v,c.fStr.length≤M
section
variable {M : Nat} {v : List Ac}
end
structure Kt (M:Nat) (v:List Ac):Prop where
 hM:M≤1000000000
 hv:v.length≤M
 hc:∀c∈v,c.fStr.length≤M∧Cl .i64 c.fInt=true∧c.fN≤9223372036854775807
theorem Kt.lk {M F:Nat}{v:List Ac}(h:Kt M v)(hF:M<F):KW F M v:=⟨by have:=h.hM;omega,by have:=h.hM;omega,h.hv,hF,h.hc⟩
theorem Kt.drop {M:Nat}{v:List Ac}(h:Kt M v)(k:Nat):Kt M (v.drop k):=⟨h.hM,by have:=h.hv;rw[List.length_drop];omega,λc hc=>h.hc c (List.mem_of_mem_drop hc)⟩
theorem Kt.take {M:Nat}{v:List Ac}(h:Kt M v)(k:Nat):Kt M (v.take k):=⟨h.hM,by have:=h.hv;rw[List.length_take];omega,λc hc=>h.hc c (List.mem_of_mem_take hc)⟩
def whole (v:List Ac):Option Fo:=match Ka v with
 | some (f,[])=>some f
 | _=>none
def Pr (f:Fo):Int:=
 bif f.flat.any Lk then 2 else bif f.flat.any KH||(decide (200<f.flat.length)||(decide (8<f.dep)||decide (4000<(f.txt true).length))) then 3 else 0
def OK (v:List Ac):Int:=match whole v with
 | none=>1
 | some f=>Pr f
theorem N8 {f:Fo}(h1:f.one=true):f.cnt=1:=by
 cases f with
 | nil=>cases h1
 | cell k c r=>cases k with
  | some _=>cases h1
  | none=>cases r with
   | nil=>rfl
   | _=>cases h1
 | node k c kids r=>cases k with
  | some _=>cases h1
  | none=>cases r with
   | nil=>rfl
   | _=>cases h1
theorem IA (s:Ai):G0 s≤2*s.length+2+s.length:=by
 have h1:s.count 34≤s.length:=List.count_le_length;have h2:s.count 92≤s.length:=List.count_le_length;unfold G0;omega
theorem OC {c:Ac}{M:Nat}(hp:pl c=true)(hs:c.fStr.length≤M)(hi:(Lib.itoa c.fInt).length≤21):Nf c≤3*M+21:=by
 have:=IA c.fStr;unfold Nf
 cases h1:decide (c.fKind=1) with
 | true=>simp only[Qj];omega
 | false=>
  cases h2:decide (c.fKind=2) with
  | true=>
   simp[pl,h1,h2] at hp;simp only[Qc,Qj];omega
  | false=>
   cases h3:decide (c.fKind=3) with
   | true=>simp only[Qc,Qj];omega
   | false=>cases h4:decide (c.fKind=4)<;>simp only[Qc,Qj]<;>omega
theorem IM {M:Nat}:∀{f:Fo} {m:Bool} {l:Option Ai},f.wf m l=true→(∀c∈f.flat,c.fStr.length≤M∧Cl .i64 c.fInt=true∧c.fN≤9223372036854775807)→f.byt+f.cnt≤(3*M+24)*f.flat.length
 | .nil,_,_,_,_=>by simp[Fo.byt,Fo.flat,Fo.cnt]
 | .cell k c r,m,l,hw,hc=>by
  simp only[Fo.wf,Qa,Q9] at hw;obtain⟨⟨⟨w1,w2⟩,w3⟩,w4⟩:=hw;simp only[Fo.flat] at hc;have ih:=IM w4 (λx hx=>hc x (by simp[hx]));obtain⟨c1,c2,c3⟩:=hc c (by simp);have i64:=Gt c2;have hl:=OC w2 c1 (Lib.itoa_length_le c.fInt i64.1 i64.2);have hk:IE k≤(3*M+24)*(BT k).length:=by
   cases k with
   | none=>simp[IE,BT]
   | some s=>
    have:=(hc ⟨4,0,s,0⟩ (by simp[BT])).1;have h2:=IA s;simp only at this;simp only[IE,BT,QC];omega
  simp only[Fo.byt,Fo.flat,Fo.cnt,Qm,Qh];have e:((3*(M:Int)+24)*(((BT k).length+(r.flat.length+1):Nat):Int))=(3*(M:Int)+24)*(BT k).length+((3*(M:Int)+24)*r.flat.length+(3*(M:Int)+24)):=by
   push_cast;rw[Int.mul_add,Int.mul_add,Int.mul_one]
  rw[e]
  push_cast at *
  omega
 | .node k c kids r,m,l,hw,hc=>by
  simp only[Fo.wf,Qa,PW] at hw;obtain⟨⟨⟨⟨⟨w1,w2⟩,w3⟩,w5⟩,w6⟩,w4⟩:=hw;simp only[Fo.flat] at hc;have ih:=IM w4 (λx hx=>hc x (by simp[hx]));have ih2:=IM w6 (λx hx=>hc x (by simp[hx]));have hcf:=BV kids;have hk:IE k≤(3*M+24)*(BT k).length:=by
   cases k with
   | none=>simp[IE,BT]
   | some s=>
    have:=(hc ⟨4,0,s,0⟩ (by simp[BT])).1;have h2:=IA s;simp only at this;simp only[IE,BT,QC];omega
  simp only[Fo.byt,Fo.flat,Fo.cnt,Qm,Qh];have e:((3*(M:Int)+24)*(((BT k).length+(kids.flat.length+r.flat.length+1):Nat):Int))=(3*(M:Int)+24)*(BT k).length+((3*(M:Int)+24)*kids.flat.length+(3*(M:Int)+24)*r.flat.length+(3*(M:Int)+24)):=by
   push_cast;rw[Int.mul_add,Int.mul_add,Int.mul_add,Int.mul_one]
  rw[e]
  push_cast at *
  omega
theorem LG {M:Nat}(hM:M≤1000000){f:Fo}{m:Bool}{l:Option Ai}(hw:f.wf m l=true)(hl:f.flat.length≤M)(hc:∀c∈f.flat,c.fStr.length≤M∧Cl .i64 c.fInt=true∧c.fN≤9223372036854775807):f.byt≤4000000000000:=by
 have:=IM (M:=M) hw hc;have h2:(3*M+24)*f.flat.length≤(3*1000000+24)*1000000:=Nat.mul_le_mul (by omega) (by omega);have h3:(((3*M+24)*f.flat.length:Nat):Int)=(3*(M:Int)+24)*f.flat.length:=by push_cast;rfl
 omega
theorem Lc {M F:Nat}{v:List Ac}(hA:Kt M v)(hM:M≤1000000)(hF:M<F):Hu F v=some (OK v):=by
 unfold Hu OK whole;have hvM:=hA.hv;rcases NF (hA.lk hF) with⟨f,ys,hp,hl⟩ | ⟨hp,sh',hl⟩
 ·rw[hl,AR rfl,hp];obtain⟨h1,h2,h3⟩:=N2 hp;have hlen:v.length=f.flat.length+ys.length:=by rw[h1];simp
  cases ys with
  | cons c r=>
   rw[AY];simp only[Qh] at hlen;simp;omega
  | nil=>
   simp only[QG,Nat.add_zero] at hlen;rw[AQ (by simp[hlen])];have hc:∀c∈f.flat,c.fStr.length≤M∧Cl .i64 c.fInt=true∧c.fN≤9223372036854775807:=λc hc=>hA.hc c (by rw[h1];simp[hc]);have hb:=LG hM h2 (by omega) hc;have hb0:=DH h2;have e1:(f.sh 0 HM).fOutside=f.flat.any Lk:=by rw[I6];rfl
   have e2:(f.sh 0 HM).fLong=f.flat.any KH:=by rw[GZ];rfl
   have e3:(f.sh 0 HM).fDepth=f.dep:=by rw[Gh f 0 HM (by simp[HM])];simp[HM]
   have e4:(f.sh 0 HM).fBytes=(f.txt true).length:=by
    rw[Gi f false none 0 HM h2 (by simp[HM]) (by simp[HM];omega),GY f false none true h2,N8 h3];simp[HM]
   simp only;rw[e1,e2,e3,e4,hlen];unfold Pr
   cases f.flat.any Lk with
   | true=>rw[AY rfl];rfl
   | false=>
    rw[AQ rfl];have a1:decide ((200:Int)<(f.flat.length:Int))=decide (200<f.flat.length):=by rw[Qy];simp;omega
    have a2:decide ((8:Int)<(f.dep:Int))=decide (8<f.dep):=by rw[Qy];simp;omega
    have a3:decide ((4000:Int)<((f.txt true).length:Int))=decide (4000<(f.txt true).length):=by rw[Qy];simp;omega
    rw[a1,a2,a3]
    cases(f.flat.any KH||(decide (200<f.flat.length)||(decide (8<f.dep)||decide (4000<(f.txt true).length))))<;>rfl
 ·rw[hl,AR rfl,hp];rfl
section
variable {M : Nat} {v : List Ac}
end
section
variable {M : Nat} {v : List Ac}
end
section
variable {M : Nat} {v : List Ac}
end
theorem Ps {α β:Type}(a:α)(k:α→Option β):LL a k=k a:=rfl
section
variable {M : Nat}
end
section
variable {M : Nat}
theorem Kt.mem {v:List Ac}(hA:Kt M v){p:Int}{a b:List Ac}(h:v.drop p.toNat=a++b):Kt M a:=by
 have:=(hA.drop p.toNat).take a.length
 rwa [h,List.take_left] at this
end
def Ml (v:List Ac):Bool:=!decide (300<v.length)&&v.all λc=>!decide (300<c.fStr.length)
def M0 (c:Ac):Bool:=Cl .i64 c.fKind&&Cl .i64 c.fInt&&Nd c.fStr&&Cl .i64 c.fN
theorem Kt.of {v:List Ac}(hs:Ml v=true)(hc:v.all M0=true):Kt 300 v:=by
 unfold Ml at hs;simp only[Qa,Q9,PX,Qp] at hs hc;refine⟨by decide,by omega,λc h=>?_⟩;obtain h1:=hs.2 c h;obtain h2:=hc c h;unfold M0 at h2;simp only[Qa] at h2;exact⟨by omega,h2.1.1.2,(Gt h2.2).2⟩
section
variable {M : Nat}
end
theorem LD {α:Type}{n:Nat}{x:Option α}(h:n≤1000000000):BC (NL 40 n) x=x:=C0 (Qg (by omega))
section
variable {T : Type}
end
theorem Gm {R V:Type}(K:V→Option R)(v:V):C7 K (.go v)=K v:=rfl
theorem Kc {R V:Type}(K:V→Option R)(r:R):C7 K (.ret r)=some r:=rfl
theorem Kd {α:Type}[Inhabited α](a:α):ov (some a)=a:=rfl
theorem Gp {α R U:Type}[Inhabited α](l:List α)(P:α→Prop)(B:R→Prop)(u:U)(body:Int→Option (Stp Int (Out R U)))
  (h1:∀(x:Int) (c:α),0≤x→x<(l.length:Int)→c∈l→Ao l x=c→(body x=some (.next (x+1))∧P c)∨∃q,body x=some (.out (.ret q))∧B q)
  (h2:body (l.length:Int)=some (.out (.go u))) {F:Nat} (hF:l.length<F) :
  ∃o,Dm body F 0=some o∧((∃q,o = .ret q∧B q)∨(o = .go u∧∀c∈l,P c)):=by
 refine Dq (λx=>0≤x∧x≤(l.length:Int)∧∀c∈l.take x.toNat,P c) (λx=>l.length-x.toNat) _ (λx ⟨h0,hl,ha⟩=>?_) F 0 ⟨Q4 0,by omega,by simp⟩ (by show l.length-0<F;omega)
 by_cases hx:x<(l.length:Int)
 ·obtain⟨c,hc⟩:∃c,l[x.toNat]? =some c:=⟨l[x.toNat]'(by omega),PZ (by omega)⟩
  have hat:Ao l x=c:=by simp[Ao,hc]
  rcases h1 x c h0 hx (Qi hc) hat with⟨hb,hp⟩ | ⟨q,hb,hq⟩
  ·refine .inl ⟨x+1,hb,⟨by omega,by omega,λd hd=>?_⟩,by omega⟩;rw[show(x+1).toNat=x.toNat+1 from by omega,List.take_add_one,hc] at hd;simp only[Option.toList_some,List.mem_append,QA,List.not_mem_nil,or_false] at hd;rcases hd with hd | rfl
   ·exact ha d hd
   ·exact hp
  ·exact .inr ⟨.ret q,hb,.inl ⟨q,rfl,hq⟩⟩
 ·have e:x=(l.length:Int):=by omega
  subst e;refine .inr ⟨.go u,h2,.inr ⟨rfl,λc hc=>ha c ?_⟩⟩;rw[show((l.length:Int)).toNat=l.length from by omega,List.take_length];exact hc
abbrev MI (x y:Ab):Bool:=BN x.fAt y.fAt x.fID y.fID
abbrev CA (x y:Aa):Bool:=MI x.fTimer y.fTimer
theorem Pb:Oe MI:=Kh (λx:Ab=>x.fAt) (λx=>x.fID)
theorem Pc:Oe CA:=Kh (λx:Aa=>x.fTimer.fAt) (λx=>x.fTimer.fID)
structure LH (t:Ab):Prop where
 body:Kt 5000 t.fBody
 id:t.fID.length≤300
 ten:t.fTenant.length≤300
 src:t.fSource.length≤300
 len:t.fBody.length≤300
structure TI (ts:List Aa):Prop where
 srt:ts.Pairwise λa b=>CA a b=true
 ids:ts.Pairwise λa b=>a.fTimer.fID≠b.fTimer.fID
 len:ts.length≤256
 sm:∀x∈ts,LH x.fTimer
structure Ep (m:List (Ai×Aa)) (ts:List Aa):Prop where
 ms:Ms m
 pm:m.Perm (ts.map λx=>(x.fTimer.fID,x))
 ti:TI ts
def HW (t:Ab):Int:=bif !(MO t.fID) then 4 else bif !(decide (0≤t.fAt)&&decide (t.fAt≤1073741824)) then 2 else bif (!(Ct t.fTenant)||!(Ct t.fSource)) then 4 else OK t.fBody
def GH (x:Aa)(now:Int):Aa:=⟨x.fTimer,x.fTold||decide (x.fTimer.fAt≤now)⟩
def D9 (ts:List Aa)(id:Ai):Bool:=ts.any λx=>decide (x.fTimer.fID=id)
def GO (ts:List Aa)(id:Ai):Bool:=ts.any λx=>decide (x.fTimer.fID=id)&&x.fTold
def IO (ts:List Aa)(id:Ai):List Aa:=ts.filter λx=>!decide (x.fTimer.fID=id)
def Dn (ts:List Aa)(t:Ab)(now:Int):Int×List Aa:=
 bif !decide (HW t=0) then(HW t,ts) else bif (!(decide (0≤now)&&decide (now≤1073741824))||decide (t.fAt<now)) then(2,ts) else bif D9 ts t.fID then(6,ts) else bif decide (256≤ts.length) then(3,ts) else(0,Ec CA ⟨t,false⟩ ts)
def IP (ts:List Aa)(id:Ai):Int×List Aa:=bif !D9 ts id then(5,ts) else(0,IO ts id)
def CB (ts:List Aa)(id:Ai):Int×List Aa:=bif GO ts id then(10,ts) else IP ts id
def CU (ts:List Aa):List Ab:=ts.map (·.fTimer)
def PI (ts:List Aa)(now:Int):List Ab:=(CU ts).filter λt=>!decide (now<t.fAt)
def HL (ts:List Aa)(now:Int):List Aa:=ts.map λx=>GH x now
theorem TI.nil:TI []:=⟨List.Pairwise.nil,List.Pairwise.nil,by decide,λ_ h=>by cases h⟩
theorem Ep.nil:Ep [] []:=⟨Ms.nil,PY _,TI.nil⟩
theorem LB {v:List Ac}(h:v.length≤1000000):HI v=some v:=by
 unfold HI;rw[LD (by simp;omega)];rfl
theorem K2 {t:Ab}(h:LH t):Le t=some t:=by
 unfold Le;rw[LB (by have:=h.len;omega),AR rfl]
theorem Lf {F:Nat}(hF:5000<F){t:Ab}(h:LH t):Hy F t=some (HW t):=by
 unfold Hy HW DM;rw[AR rfl,Lc h.body (by decide) hF,AR rfl]
 cases MO t.fID with
 | false=>rfl
 | true=>
  cases(decide (0≤t.fAt)&&decide (t.fAt≤1073741824)) with
  | false=>rfl
  | true=>cases(!Ct t.fTenant||!Ct t.fSource)<;>rfl
theorem LC {α:Type}{n:Nat}{x:Option α}(h:n≤1000000000):BC (NL 80 n) x=x:=C0 (Qg (by omega))
theorem Gk {T:Type}{lt:T→T→Bool}:∀{xs:List T},xs.Pairwise (λa b=>lt a b=true)→D3 lt xs=true
 | [],_=>rfl
 | x::r,h=>by
  rw[List.pairwise_cons] at h;simp only[D3,Qa,Qp];exact⟨λy hy=>by rw[h.1 y hy];rfl,Gk h.2⟩
theorem O3 {T:Type}{lt:T→T→Bool}(L:Oe lt){xs:List T}(h:xs.Pairwise λa b=>lt a b=true):srt lt xs=xs:=(JW L (Gk h) (PY _) (h.imp λh=>L.asym _ _ h)).symm
theorem Id:∀(ord:List (Ai×Aa)) (s:List Ab),s.length+ord.length≤100000→(∀p∈ord,LH p.2.fTimer)→KI (λp τ=>Df p.1 p.2 τ) ord s=some (.go (s++ord.map λp=>p.2.fTimer))
 | [],s,_,_=>by simp[KI]
 | p::r,s,hl,h=>by
  simp only[Qh] at hl;have e:Df p.1 p.2 s=some (.next (s++[p.2.fTimer])):=by
   unfold Df;rw[K2 (h p (List.mem_cons_self ..)),AR rfl,LC (by simp;omega)]
  rw[KI,e];simp only;rw[Id r _ (by simp;omega) λq hq=>h q (List.mem_cons_of_mem _ hq)];simp
theorem Ep.len {m:List (Ai×Aa)}{ts:List Aa}(h:Ep m ts):m.length=ts.length:=by rw[h.pm.length_eq,Qf]
theorem Ep.mem {m:List (Ai×Aa)}{ts:List Aa}(h:Ep m ts){p:Ai×Aa}(hp:p∈m):p.2∈ts∧p.1=p.2.fTimer.fID:=by
 obtain⟨x,hx,rfl⟩:=List.mem_map.1 (h.pm.subset hp);exact⟨hx,rfl⟩
theorem TI.lst {ts:List Aa}(h:TI ts):(CU ts).Pairwise λa b=>MI a b=true:=List.pairwise_map.2 h.srt
theorem DZ {m:List (Ai×Aa)}{ts:List Aa}(h:Ep m ts):EA ⟨m⟩=some (CU ts,⟨m⟩):=by
 unfold EA DN;rw[AR rfl,AQ (by rfl)];dsimp only;refine MA λord ho=>?_;have hl:ord.length≤256:=by rw[ho.length_eq,h.len];exact h.ti.len
 rw[Id ord [] (by simp;omega) λp hp=>h.ti.sm _ (h.mem (ho.subset hp)).1,AR rfl,Gm];unfold De;have hp:(ord.map λp=>p.2.fTimer).Perm (CU ts):=by
  have:=((ho.trans h.pm).map λp=>p.2.fTimer)
  rwa [QD] at this
 rw[List.nil_append,C0 (JX (Gk h.ti.lst) hp),C0 (by rw[Qf];simp;omega),Lg Pb (Gk h.ti.lst) hp,O3 Pb h.ti.lst]
theorem E1 {T:Type}(m:List (Ai×T))(k:Ai):C8 m k=(Bf m k).isSome:=rfl
theorem Ep.get {m:List (Ai×Aa)}{ts:List Aa}(h:Ep m ts)(id:Ai):(Bf m id=none∧D9 ts id=false∧GO ts id=false)∨∃x,Bf m id=some x∧x∈ts∧x.fTimer.fID=id∧D9 ts id=true∧GO ts id=x.fTold:=by
 cases hg:Bf m id with
 | none=>
  have hn:∀x∈ts,¬ x.fTimer.fID=id:=λx hx=>DF.1 hg _ (h.pm.symm.subset (List.mem_map.2 ⟨x,hx,rfl⟩));refine .inl ⟨rfl,List.any_eq_false.2 λx hx=>by simp[hn x hx],List.any_eq_false.2 λx hx=>by simp[hn x hx]⟩
 | some x=>
  obtain⟨hx,hid⟩:=h.mem (CK hg);simp only at hx hid;refine .inr ⟨x,rfl,hx,hid.symm,List.any_eq_true.2 ⟨x,hx,by simp[hid]⟩,?_⟩
  cases ht:x.fTold with
  | true=>exact List.any_eq_true.2 ⟨x,hx,by simp[hid,ht]⟩
  | false=>
   refine List.any_eq_false.2 λy hy=>?_
   by_cases e:y.fTimer.fID=id
   ·have:y=x:=by
     have h1:Bf m id=some y:=Ef h.ms.nodup (h.pm.symm.subset (List.mem_map.2 ⟨y,hy,by rw[e]⟩));rw[hg] at h1;exact(Option.some.inj h1).symm
    subst this;simp[ht]
   ·simp[e]
theorem TI.del {ts:List Aa}(h:TI ts)(id:Ai):TI (IO ts id):=⟨h.srt.sublist (List.filter_sublist ..),h.ids.sublist (List.filter_sublist ..),Nat.le_trans (List.length_filter_le ..) h.len,λx hx=>h.sm x (List.mem_filter.1 hx).1⟩
theorem Ep.del {m:List (Ai×Aa)}{ts:List Aa}(h:Ep m ts)(id:Ai):Ep (mdel m id) (IO ts id):=by
 refine⟨h.ms.mdel id,?_,h.ti.del id⟩;have:=h.pm.filter λp=>!decide (p.1=id);rw[List.filter_map] at this;exact this
theorem TI.ins {ts:List Aa}(h:TI ts){t:Ab}(ht:LH t)(hn:D9 ts t.fID=false)(hl:ts.length<256)(b:Bool):TI (Ec CA ⟨t,b⟩ ts):=by
 have hp:=BX CA ⟨t,b⟩ ts;have hne:∀x∈ts,¬ x.fTimer.fID=t.fID:=λx hx e=>by
  have:=List.any_eq_false.1 hn x hx;simp[e] at this
 have hids:(Ec CA ⟨t,b⟩ ts).Pairwise λa b=>a.fTimer.fID≠b.fTimer.fID:=
  (hp.pairwise_iff (fun {x y} h e=>h e.symm)).2 (List.pairwise_cons.2 ⟨λx hx e=>hne x hx e.symm,h.ids⟩)
 have hs:=Eb Pc ⟨t,b⟩ (h.srt.imp λh=>Pc.asym _ _ h);refine⟨?_,hids,by rw[hp.length_eq];exact hl,λx hx=>?_⟩
 ·refine(hs.and hids).imp fun {x y} h=>?_
  cases h1:CA x y with
  | true=>rfl
  | false=>exact absurd (J3 h1 h.1).2 h.2
 ·rcases List.mem_cons.1 (hp.subset hx) with e | h1
  ·rw[e];exact ht
  ·exact h.sm x h1
theorem Ep.ins {m:List (Ai×Aa)}{ts:List Aa}(h:Ep m ts){t:Ab}(ht:LH t)(hn:D9 ts t.fID=false)(hl:ts.length<256):Ep (mset m t.fID ⟨t,false⟩) (Ec CA ⟨t,false⟩ ts):=by
 have hg:Bf m t.fID=none:=by
  rcases h.get t.fID with h1 | ⟨x,_,_,_,h1,_⟩
  ·exact h1.1
  ·rw[hn] at h1;cases h1
 refine⟨h.ms.mset _ _,?_,h.ti.ins ht hn hl false⟩;have e:mset m t.fID ⟨t,false⟩=mins t.fID ⟨t,false⟩ m:=by
  unfold mset C8;rw[hg];rfl
 rw[e];refine(G4 _ _ m).trans ((h.pm.cons _).trans ?_);exact((BX CA ⟨t,false⟩ ts).map λx=>(x.fTimer.fID,x)).symm
theorem I4 {F:Nat}(hF:5000<F){m:List (Ai×Aa)}{ts:List Aa}(h:Ep m ts){t:Ab}(ht:LH t)(now:Int):∃m',Hw F ⟨m⟩ t now=some ((Dn ts t now).1,⟨m'⟩)∧Ep m' (Dn ts t now).2:=by
 unfold Hw DN Dn DM;rw[AR rfl,AQ (by rfl),Lf hF ht,AR rfl];dsimp only
 cases h1 : !decide (HW t=0) with
 | true=>exact⟨m,rfl,h⟩
 | false=>
  rw[AQ rfl,C0 (by rfl),Kd]
  cases h2:(!(decide (0≤now)&&decide (now≤1073741824))||decide (t.fAt<now)) with
  | true=>exact⟨m,rfl,h⟩
  | false=>
   rw[AQ rfl];have hh:C8 m t.fID=D9 ts t.fID:=by
    rcases h.get t.fID with⟨h3,h4,_⟩ | ⟨x,h3,_,_,h4,_⟩
    ·rw[E1,h3,h4];rfl
    ·rw[E1,h3,h4];rfl
   rw[hh]
   cases h3:D9 ts t.fID with
   | true=>exact⟨m,rfl,h⟩
   | false=>
    have h5:decide (256≤(m.length:Int))=decide (256≤ts.length):=by rw[h.len,Qy];simp;omega
    rw[AQ rfl,h5]
    cases h4:decide (256≤ts.length) with
    | true=>exact⟨m,rfl,h⟩
    | false=>
     rw[AQ rfl,K2 ht,AR rfl];exact⟨_,rfl,h.ins ht h3 (by simpa using h4)⟩
theorem K4 {m:List (Ai×Aa)}{ts:List Aa}(h:Ep m ts)(id:Ai):∃m',JU ⟨m⟩ id=some ((IP ts id).1,⟨m'⟩)∧Ep m' (IP ts id).2:=by
 unfold JU DN IP;rw[AR rfl,AQ (by rfl)];dsimp only;have hh:C8 m id=D9 ts id:=by
  rcases h.get id with⟨h3,h4,_⟩ | ⟨x,h3,_,_,h4,_⟩
  ·rw[E1,h3,h4];rfl
  ·rw[E1,h3,h4];rfl
 rw[hh]
 cases D9 ts id with
 | false=>exact⟨m,rfl,h⟩
 | true=>exact⟨_,rfl,h.del id⟩
theorem EJ {m:List (Ai×Aa)}{ts:List Aa}(h:Ep m ts)(id:Ai):∃m',Dp ⟨m⟩ id=some ((CB ts id).1,⟨m'⟩)∧Ep m' (CB ts id).2:=by
 unfold Dp DN CB CE;rw[AR rfl,AY (by rfl)];dsimp only;have hh:(A6 m id (Aa.mk (Ab.mk ([]:Ai) 0 ([]:Ai) ([]:Ai) ([]:(List Ac))) false)).fTold=GO ts id:=by
  unfold A6;rcases h.get id with⟨h3,_,h4⟩ | ⟨x,h3,_,_,_,h4⟩
  ·rw[h3,h4];rfl
  ·rw[h3,h4];rfl
 rw[hh]
 cases GO ts id with
 | true=>exact⟨m,rfl,h⟩
 | false=>
  obtain⟨m',h1,h2⟩:=K4 h id;refine⟨m',?_,h2⟩;rw[AQ rfl,h1,AR rfl];rfl
theorem Dd {α:Type}{l:List α}{k:Nat}{c:α}(h:l[k]? =some c):l.take (k+1)=l.take k++[c]:=by
 rw[List.take_add_one,h];rfl
theorem MV {α:Type}{l l':List α}{k:Nat}(h:l.drop k=l'.drop k){c:α}(hc:l'[k]? =some c):l[k]? =some c:=by
 have:(l.drop k)[0]? =(l'.drop k)[0]?:=by rw[h]
 simpa[List.getElem?_drop,hc] using this
abbrev EF (now:Int)(t:Ab):Bool:=!decide (now<t.fAt)
theorem IF {F:Nat}{ys:List Ab}(hF:ys.length<F)(hl:ys.length≤100000)(now:Int):∃i:Int,D5 F ys now=some i∧((i = -1∧ys.filter (EF now)=ys)∨∃k:Nat,i=k∧k<ys.length∧(ys.take k).filter (EF now)=ys.take k∧∃c,ys[k]? =some c∧EF now c=false):=by
 obtain⟨o,h1,h2⟩:=Dq (body:=λσ=>B2 ys now σ) (λx=>0≤x∧x≤(ys.length:Int)∧(ys.take x.toNat).filter (EF now)=ys.take x.toNat) (λx=>ys.length-x.toNat)
  (λo=>(o = .go ()∧ys.filter (EF now)=ys)∨∃k:Nat,o = .ret (k:Int)∧k<ys.length∧(ys.take k).filter (EF now)=ys.take k∧∃c,ys[k]? =some c∧EF now c=false) (λx ⟨h0,hx,ha⟩=>by
   by_cases hlt:x<(ys.length:Int)
   ·obtain⟨c,hc⟩:∃c,ys[x.toNat]? =some c:=⟨ys[x.toNat]'(by omega),PZ (by omega)⟩
    have hat:Ao ys x=c:=by simp[Ao,hc]
    have hb:B2 ys now x=BA (decide (now<c.fAt)) (some (.out (.ret x))) (some (.next (x+1))):=by
     unfold B2 Hx;rw[AY (Qg hlt),B8 h0 hlt,hat,AR rfl,Bd (by omega) (by omega)]
    cases hq:decide (now<c.fAt) with
    | true=>
     refine .inr ⟨.ret x,hb.trans (AY hq),.inr ⟨x.toNat,by rw[show((x.toNat:Nat):Int)=x from by omega],by omega,ha,c,hc,by show(!decide (now<c.fAt))=false;rw[hq];rfl⟩⟩
    | false=>
     refine .inl ⟨x+1,hb.trans (AQ hq),⟨by omega,by omega,?_⟩,by omega⟩;rw[show(x+1).toNat=x.toNat+1 from by omega,Dd hc,List.filter_append,ha,List.filter_cons_of_pos (by show(!decide (now<c.fAt))=true;rw[hq];rfl)];rfl
   ·refine .inr ⟨.go (),by unfold B2;rw[AQ (Qe hlt)],.inl ⟨rfl,?_⟩⟩;rw[show x.toNat=ys.length from by omega,List.take_length] at ha;exact ha) F 0 ⟨Q4 0,by omega,by simp⟩ (by show ys.length-0<F;omega)
 unfold D5;rcases h2 with⟨rfl,h⟩ | ⟨k,rfl,h⟩
 ·exact⟨-1,by rw[AR h1,Gm];rfl,.inl ⟨rfl,h⟩⟩
 ·exact⟨k,by rw[AR h1,Kc],.inr ⟨k,rfl,h⟩⟩
theorem HY {F:Nat}{ys:List Ab}(hF:ys.length<F)(hl:ys.length≤100000)(now:Int):Dl F ys now=some (ys.filter (EF now)):=by
 unfold Dl;obtain⟨i,hi,hc⟩:=IF hF hl now;rw[hi,AR rfl];rcases hc with⟨rfl,h⟩ | ⟨k,rfl,hk,ht,c,hck,hq⟩
 ·rw[AY (by rfl),h]
 ·rw[AQ (Qe (by omega)),Bd (by omega) (by omega)];obtain⟨o,h1,h2⟩:=Dq (body:=λσ:Int×Int×List Ab=>Bu now σ.1 σ.2.1 σ.2.2) (λσ=>0≤σ.1∧σ.1<σ.2.1∧σ.2.1≤(ys.length:Int)∧σ.2.2.length=ys.length∧σ.2.2.take σ.1.toNat=(ys.take σ.2.1.toNat).filter (EF now)∧σ.2.2.drop σ.2.1.toNat=ys.drop σ.2.1.toNat) (λσ=>ys.length-σ.2.1.toNat)
   (λo=>∃ (a:Int) (zs:List Ab),o = .go (a,zs)∧0≤a∧a≤(ys.length:Int)∧zs.length=ys.length∧zs.take a.toNat=ys.filter (EF now)) (λ⟨a,b,zs⟩ ⟨h0,hab,hb,hzl,h3,h4⟩=>by
    dsimp only at h0 hab hb hzl h3 h4 ⊢
    by_cases hlt:b<(ys.length:Int)
    ·obtain⟨d,hd⟩:∃d,ys[b.toNat]? =some d:=⟨ys[b.toNat]'(by omega),PZ (by omega)⟩
     have hdz:zs[b.toNat]? =some d:=MV h4 hd;have hat:Ao zs b=d:=by simp[Ao,hdz]
     have hs:(ys.take (b+1).toNat)=ys.take b.toNat++[d]:=by rw[show(b+1).toNat=b.toNat+1 from by omega];exact Dd hd
     have hdr:zs.drop (b+1).toNat=ys.drop (b+1).toNat:=by
      rw[show(b+1).toNat=b.toNat+1 from by omega,← List.drop_drop,← List.drop_drop,h4]
     cases hp:decide (now<d.fAt) with
     | true=>
      refine .inl ⟨(a,b+1,zs),?_,⟨h0,by show a<b+1;omega,by show b+1≤_;omega,hzl,?_,hdr⟩,by show ys.length-(b+1).toNat<ys.length-b.toNat;omega⟩
      ·unfold Bu Hx B5;rw[AY (Qg (by omega)),B8 (by omega) (by omega),hat,AR rfl,hp,AQ (by rfl),Bd (by omega) (by omega)]
      ·dsimp only;rw[hs,List.filter_append,h3,List.filter_cons_of_neg (by show ¬ (!decide (now<d.fAt))=true;rw[hp];simp)];simp
     | false=>
      refine .inl ⟨(a+1,b+1,zs.set a.toNat d),?_,⟨by show 0≤a+1;omega,by show a+1<b+1;omega,by show b+1≤_;omega,by simpa using hzl,?_,?_⟩,by show ys.length-(b+1).toNat<ys.length-b.toNat;omega⟩
      ·unfold Bu Hx B5;rw[AY (Qg (by omega)),B8 (by omega) (by omega),hat,AR rfl,hp,AY (by rfl),B8 h0 (by omega),Ps,Bd (by omega) (by omega),Bd (by omega) (by omega)]
      ·dsimp only;rw[hs,List.filter_append,List.filter_cons_of_pos (by show(!decide (now<d.fAt))=true;rw[hp];rfl),← h3,show(a+1).toNat=a.toNat+1 from by omega,Dd (c:=d) (by rw[List.getElem?_set_self (by omega)])]
       congr 1
       rw[List.take_set_of_le (Ql _)]
      ·dsimp only;rw[← hdr,List.drop_set_of_lt (by omega)]
    ·have e:b=(ys.length:Int):=by omega
     refine .inr ⟨.go (a,zs),by unfold Bu;rw[AQ (Qe (by omega))],a,zs,rfl,h0,by omega,hzl,?_⟩;rw[h3,show b.toNat=ys.length from by omega,List.take_length]) F ((k:Int),(k:Int)+1,ys) ⟨by show(0:Int)≤k;omega,by show(k:Int)<k+1;omega,by show(k:Int)+1≤_;omega,rfl,by
     dsimp only;rw[show((k:Int)+1).toNat=k+1 from by omega,Dd hck,List.filter_append,ht,List.filter_cons_of_neg (by rw[hq];simp)];simp,rfl⟩ (by show ys.length-((k:Int)+1).toNat<F;omega)
  obtain⟨a,zs,rfl,ha,ha2,hzl,hz⟩:=h2;rw[AR h1,Gm];unfold Cg;dsimp only;have hlt:(zs.take a.toNat).length=a.toNat:=by rw[List.length_take];omega
  rw[IL ha (by omega),IL ha (by simp;omega),List.take_append_of_le_length (by omega),List.take_take,Nat.min_self,hz]
theorem Ep.tell {m:List (Ai×Aa)}{ts:List Aa}(h:Ep m ts)(now:Int):Ep (AI (λx=>GH x now) m) (HL ts now):=by
 refine⟨?_,?_,⟨List.pairwise_map.2 h.ti.srt,List.pairwise_map.2 h.ti.ids,by unfold HL;rw[Qf];exact h.ti.len,λx hx=>?_⟩⟩
 ·unfold Ms AI;exact List.pairwise_map.2 h.ms
 ·have:=h.pm.map λp:Ai×Aa=>(p.1,GH p.2 now)
  rw[QD] at this;unfold AI HL;rw[QD];exact this
 ·obtain⟨y,hy,rfl⟩:=List.mem_map.1 hx;exact h.ti.sm y hy
theorem Ep.keysOk {m:List (Ai×Aa)}{ts:List Aa}(h:Ep m ts):keysOk m=true:=by
 unfold Go.Proofs.YtkoiaconljdbeaaDoor.keysOk;simp only[Qa,PW,Qp];have hl:=h.len;have h2:=h.ti.len;refine⟨by omega,λp hp=>?_⟩;obtain⟨h3,h4⟩:=h.mem hp;rw[h4];have:=(h.ti.sm _ h3).id;unfold Nd;simp;omega
theorem Mf {F:Nat}{m:List (Ai×Aa)}{ts:List Aa}(h:Ep m ts)(now:Int){ks:List Ai}(hp:ks.Perm (m.map Prod.fst))(hF:256<F):Dm (λσ:Int×List (Ai×Aa)=>Do now ks σ.1 σ.2) F (0,m)=some (.go (AI (λx=>GH x now) m)):=by
 have hkl:ks.length≤256:=by rw[hp.length_eq,Qf,h.len];exact h.ti.len
 have hnd:ks.Nodup:=hp.nodup_iff.2 h.ms.nodup;obtain⟨o,h1,h2⟩:=Dq (body:=λσ:Int×List (Ai×Aa)=>Do now ks σ.1 σ.2) (λσ=>0≤σ.1∧σ.1≤(ks.length:Int)∧Ms σ.2∧∀k,Bf σ.2 k=bif (ks.take σ.1.toNat).contains k then(Bf m k).map (λx=>GH x now) else Bf m k) (λσ=>ks.length-σ.1.toNat)
  (λo=>o = .go (AI (λx=>GH x now) m)) (λ⟨i,mi⟩ ⟨h0,hi,hms,hg⟩=>by
   dsimp only at h0 hi hms hg ⊢
   by_cases hlt:i<(ks.length:Int)
   ·obtain⟨k,hk⟩:∃k,ks[i.toNat]? =some k:=⟨ks[i.toNat]'(by omega),PZ (by omega)⟩
    have hat:Ao ks i=k:=by simp[Ao,hk]
    have hkm:k∈m.map Prod.fst:=hp.subset (Qi hk);obtain⟨⟨k',x⟩,hx,rfl⟩:=List.mem_map.1 hkm;have hgk:Bf m k'=some x:=Ef h.ms.nodup hx;have hnt:(ks.take i.toNat).contains k'=false:=by
     cases hc:(ks.take i.toNat).contains k' with
     | false=>rfl
     | true=>
      obtain⟨j,hj⟩:=List.mem_iff_getElem?.1 (List.contains_iff_mem.1 hc);rw[Q5] at hj
      split at hj
      ·rename_i hji
       obtain⟨a1,a2⟩:=List.getElem?_eq_some_iff.1 hj;obtain⟨b1,b2⟩:=List.getElem?_eq_some_iff.1 hk;have:=(List.getElem_inj hnd).1 (a2.trans b2.symm);omega
      ·cases hj
    have hv:A6 mi k' (Aa.mk (Ab.mk ([]:Ai) 0 ([]:Ai) ([]:Ai) ([]:(List Ac))) false)=x:=by
     unfold A6;rw[hg k',hnt,Qc,hgk];rfl
    refine .inl ⟨(i+1,mset mi k' (GH x now)),?_,⟨by show 0≤i+1;omega,by show i+1≤_;omega,hms.mset _ _,λq=>?_⟩,by show ks.length-(i+1).toNat<ks.length-i.toNat;omega⟩
    ·unfold Do;rw[AY (Qg hlt),B8 h0 hlt,hat,hv,Bd (by omega) (by omega)];rfl
    ·dsimp only;rw[Lw,show(i+1).toNat=i.toNat+1 from by omega,Dd hk,hg q]
     by_cases e:q=k'
     ·subst e;rw[Qg rfl,Qj,hgk];simp
     ·rw[Qe e,Qc];have:(List.take i.toNat ks++[k']).contains q=(List.take i.toNat ks).contains q:=by
       rw[Qy];simp[e]
      rw[this]
   ·refine .inr ⟨.go mi,by unfold Do;rw[AQ (Qe hlt)],?_⟩
    congr 1
    refine Ms.ext hms ((h.tell now).ms) λk=>?_;rw[hg k,show i.toNat=ks.length from by omega,List.take_length,Eg]
    cases hgk:Bf m k with
    | none=>cases ks.contains k<;>rfl
    | some x=>
     have:ks.contains k=true:=List.contains_iff_mem.2 (hp.symm.subset (List.mem_map.2 ⟨_,CK hgk,rfl⟩));rw[this];rfl) F (0,m) ⟨Q4 0,by omega,h.ms,λk=>by simp⟩ (by show ks.length-0<F;omega)
 rw[h1,h2]
theorem Nu {F:Nat}(hF:256<F){m:List (Ai×Aa)}{ts:List Aa}(h:Ep m ts)(now:Int):∃m',JS F ⟨m⟩ now=some (PI ts now,⟨m'⟩)∧Ep m' (HL ts now):=by
 refine⟨AI (λx=>GH x now) m,?_,h.tell now⟩;unfold JS DN;rw[AR rfl,AQ (by rfl)];dsimp only;rw[C0 h.keysOk];refine MA λks hp=>?_;rw[AR (Mf h now hp hF),Gm];unfold Ge;have hal:CU (HL ts now)=CU ts:=by unfold CU HL;rw[QD];rfl
 have hll:(CU ts).length≤256:=by unfold CU;rw[Qf];exact h.ti.len
 rw[DZ (h.tell now),AR rfl,hal];dsimp only;rw[HY (by omega) (by omega),AR rfl];rfl
def OW (v:List Ac):Prop:=∀c∈v,Cl .i64 c.fInt=true∧c.fN≤9223372036854775807
theorem Jj {F:Nat}(hF:5000<F){t:Ab}(ho:OW t.fBody):∃b,Ds F t=some b∧(b=true→LH t):=by
 unfold Ds
 cases hA:((decide (300<(t.fID.length:Int)))||((decide (300<(t.fTenant.length:Int)))||((decide (300<(t.fSource.length:Int)))||(decide (300<(t.fBody.length:Int)))))) with
 | true=>exact⟨false,AY rfl,λh=>by cases h⟩
 | false=>
  simp only[Bool.or_eq_false_iff,PX] at hA;obtain⟨a1,a2,a3,a4⟩:=hA;rw[AQ rfl];obtain⟨o,h1,h2⟩:=Gp t.fBody (λc=>c.fStr.length≤5000) (λq=>q=false) () (λσ=>BY t σ) (λx c h0 hx hc hat=>by
   have e:BY t x=BA (decide (5000<(c.fStr.length:Int))) (some (.out (.ret false))) (some (.next (x+1))):=by
    unfold BY;rw[AY (Qg hx),B8 h0 hx,hat,Bd (by omega) (by omega)]
   cases hL:decide (5000<(c.fStr.length:Int)) with
   | false=>exact .inl ⟨e.trans (AQ hL),by simp at hL;omega⟩
   | true=>exact .inr ⟨false,e.trans (AY hL),rfl⟩) (by
   show BY t _=_;unfold BY;rw[AQ (Qe (by omega))]) (F:=F) (by omega)
  rw[AR h1];rcases h2 with⟨q,rfl,rfl⟩ | ⟨rfl,h⟩
  ·exact⟨false,Kc ..,λh=>by cases h⟩
  ·exact⟨true,by rw[Gm];rfl,λ_=>⟨⟨by decide,by omega,λc hc=>⟨h c hc,ho c hc⟩⟩,by omega,by omega,by omega,by omega⟩⟩
theorem MM {F:Nat}(hF:5000<F){l:List AE}(ho:∀o∈l,OW o.fTimer.fBody):∃b,CR F l=some b∧(b=true→l.length≤300∧∀o∈l,LH o.fTimer):=by
 unfold CR
 cases hA:decide (300<(l.length:Int)) with
 | true=>exact⟨false,AY rfl,λh=>by cases h⟩
 | false=>
  simp only[PX] at hA;rw[AQ rfl];obtain⟨o,h1,h2⟩:=Gp l (λc=>LH c.fTimer) (λq=>q=false) () (λσ=>Cb F l σ) (λx c h0 hx hc hat=>by
   obtain⟨b,hb,hs⟩:=Jj hF (ho c hc);have e:Cb F l x=BA (!b) (some (.out (.ret false))) (some (.next (x+1))):=by
    unfold Cb;rw[AY (Qg hx),B8 h0 hx,hat,hb,AR rfl,Bd (by omega) (by omega)]
   cases b with
   | true=>exact .inl ⟨e,hs rfl⟩
   | false=>exact .inr ⟨false,e,rfl⟩) (by
   show Cb F l _=_;unfold Cb;rw[AQ (Qe (by omega))]) (F:=F) (by omega)
  rw[AR h1];rcases h2 with⟨q,rfl,rfl⟩ | ⟨rfl,h⟩
  ·exact⟨false,Kc ..,λh=>by cases h⟩
  ·exact⟨true,by rw[Gm];rfl,λ_=>⟨by omega,h⟩⟩
theorem Jm {F:Nat}{t:Ab}(hF:t.fBody.length<F)(hl:t.fBody.length≤100000):H3 F t t=some true:=by
 unfold H3;rw[AQ (by simp)];obtain⟨o,h1,h2⟩:=Gp t.fBody (λ_=>True) (λ_=>False) () (λσ=>Ca t t σ) (λx c h0 hx hc hat=>.inl ⟨by
  show Ca t t x=_;unfold Ca;rw[AY (Qg hx),B8 h0 hx,B8 h0 hx,AQ (by simp),Bd (by omega) (by omega)],trivial⟩) (by
  show Ca t t _=_;unfold Ca;rw[AQ (Qe (by omega))]) hF
 rw[AR h1];rcases h2 with⟨q,rfl,h⟩ | ⟨rfl,h⟩
 ·exact h.elim
 ·rw[Gm];rfl
theorem Jl {F:Nat}{l:List Ab}(hF:6000<F)(hl:l.length≤300)(hb:∀t∈l,t.fBody.length≤5000):EQ F l l=some true:=by
 unfold EQ;rw[AQ (by simp)];obtain⟨o,h1,h2⟩:=Gp l (λ_=>True) (λ_=>False) () (λσ=>BZ F l l σ) (λx c h0 hx hc hat=>.inl ⟨by
  show BZ F l l x=_;unfold BZ;have:=hb c hc;rw[AY (Qg hx),B8 h0 hx,B8 h0 hx,hat,Jm (by omega) (by omega),AR rfl,AQ (by rfl),Bd (by omega) (by omega)],trivial⟩) (by
  show BZ F l l _=_;unfold BZ;rw[AQ (Qe (by omega))]) (F:=F) (by omega)
 rw[AR h1];rcases h2 with⟨q,rfl,h⟩ | ⟨rfl,h⟩
 ·exact h.elim
 ·rw[Gm];rfl
theorem TI.llen {ts:List Aa}(h:TI ts):(CU ts).length≤256:=by unfold CU;rw[Qf];exact h.len
theorem TI.lbody {ts:List Aa}(h:TI ts):∀t∈CU ts,t.fBody.length≤300:=λt ht=>by
 obtain⟨x,hx,rfl⟩:=List.mem_map.1 ht;exact(h.sm x hx).len
theorem TI.same {F:Nat}(hF:6000<F){ts:List Aa}(h:TI ts){l:List Ab}(hs:l.Sublist (CU ts)):EQ F l l=some true:=
 Jl hF (by have:=hs.length_le;have:=h.llen;omega) λt ht=>Nat.le_trans (h.lbody t (hs.subset ht)) (by decide)
def Pu (ts:List Aa)(o:AE):Int×List Aa:=
 bif decide (o.fKind=0) then Dn ts o.fTimer o.fNow else bif decide (o.fKind=2) then IP ts o.fTimer.fID else bif decide (o.fKind=3) then CB ts o.fTimer.fID else(0,ts)
theorem J4 {F:Nat}(hF:5000<F){m:List (Ai×Aa)}{ts:List Aa}(h:Ep m ts){o:AE}(ho:LH o.fTimer):∃m',Io F ⟨m⟩ o=some ((Pu ts o).1,⟨m'⟩)∧Ep m' (Pu ts o).2:=by
 unfold Io Pu
 cases decide (o.fKind=0) with
 | true=>
  obtain⟨m',h1,h2⟩:=I4 hF h ho o.fNow;exact⟨m',by rw[AY rfl,h1,AR rfl];rfl,h2⟩
 | false=>
  rw[AQ rfl]
  cases decide (o.fKind=2) with
  | true=>
   obtain⟨m',h1,h2⟩:=K4 h o.fTimer.fID;exact⟨m',by rw[AY rfl,h1,AR rfl];rfl,h2⟩
  | false=>
   rw[AQ rfl]
   cases decide (o.fKind=3) with
   | true=>
    obtain⟨m',h1,h2⟩:=EJ h o.fTimer.fID;exact⟨m',by rw[AY rfl,h1,AR rfl];rfl,h2⟩
   | false=>exact⟨m,rfl,h⟩
theorem E4:G6 40000=some true:=by decide +kernel
theorem ON {α:Type}[Inhabited α]{l:List α}{x:Int}(h0:0≤x)(h:x<(l.length:Int)):l[x.toNat]? =some (Ao l x):=by
 have hx:x.toNat<l.length:=by omega
 simp[Ao,hx]
def TV (ts:List Aa):Prop:=∀x∈ts,HW x.fTimer=0
theorem TV.set {ts:List Aa}(h:TV ts)(t:Ab)(now:Int):TV (Dn ts t now).2:=by
 unfold Dn
 cases h1 : !decide (HW t=0) with
 | true=>exact h
 | false=>
  cases(!(decide (0≤now)&&decide (now≤1073741824))||decide (t.fAt<now)) with
  | true=>exact h
  | false=>
   cases D9 ts t.fID with
   | true=>exact h
   | false=>
    cases decide (256≤ts.length) with
    | true=>exact h
    | false=>
     intro x hx;rcases List.mem_cons.1 ((BX CA ⟨t,false⟩ ts).subset hx) with rfl | hx
     ·simpa using h1
     ·exact h x hx
theorem TV.ack {ts:List Aa}(h:TV ts)(id:Ai):TV (IP ts id).2:=by
 unfold IP
 cases !D9 ts id with
 | true=>exact h
 | false=>exact λx hx=>h x (List.mem_filter.1 hx).1
theorem TV.cancel {ts:List Aa}(h:TV ts)(id:Ai):TV (CB ts id).2:=by
 unfold CB
 cases GO ts id with
 | true=>exact h
 | false=>exact h.ack id
theorem TV.do {ts:List Aa}(h:TV ts)(o:AE):TV (Pu ts o).2:=by
 unfold Pu
 cases decide (o.fKind=0) with
 | true=>exact h.set _ _
 | false=>
  cases decide (o.fKind=2) with
  | true=>exact h.ack _
  | false=>
   cases decide (o.fKind=3) with
   | true=>exact h.cancel _
   | false=>exact h
theorem TV.tell {ts:List Aa}(h:TV ts)(now:Int):TV (HL ts now):=λx hx=>by
 obtain⟨y,hy,rfl⟩:=List.mem_map.1 hx;exact h y hy
theorem Kj {F:Nat}(hF:6000<F){l:List AE}(hl:l.length≤300)(hs:∀o∈l,LH o.fTimer):∃m ts,Gs F l=some ⟨m⟩∧Ep m ts∧TV ts:=by
 unfold Gs;have hN:Me=some ⟨[]⟩:=rfl;rw[hN,AR rfl];obtain⟨o,h1,h2⟩:=Dq (body:=λσ:Int×List (Ai×Aa)=>Cq F l σ.1 σ.2) (λσ=>0≤σ.1∧σ.1≤(l.length:Int)∧∃ts,Ep σ.2 ts∧TV ts) (λσ=>l.length-σ.1.toNat) (λo=>∃m ts,o = .go m∧Ep m ts∧TV ts) (λ⟨x,m⟩ ⟨h0,hx,ts,h,hv⟩=>by
  dsimp only at h0 hx h ⊢
  by_cases hlt:x<(l.length:Int)
  ·have hg:=ON h0 hlt;have ho:LH (AE.mk ((Ao l x).fKind) ((Ao l x).fNow) ((Ao l x).fTimer)).fTimer:=hs _ (Qi hg);unfold Cq;rw[AY (Qg hlt),B8 h0 hlt]
   cases decide ((Ao l x).fKind=1) with
   | true=>
    obtain⟨m1,h3,h4⟩:=Nu (F:=F) (by omega) h (Ao l x).fNow;obtain⟨m2,h5,h6⟩:=J4 (F:=F) (by omega) h4 ho;refine .inl ⟨(x+1,m2),?_,⟨by show 0≤x+1;omega,by show x+1≤_;omega,_,h6,(hv.tell _).do _⟩,by show l.length-(x+1).toNat<l.length-x.toNat;omega⟩;rw[AY rfl,h3,AR rfl];dsimp only;rw[h5,AR rfl,Bd (by omega) (by omega)]
   | false=>
    obtain⟨m2,h5,h6⟩:=J4 (F:=F) (by omega) h ho;refine .inl ⟨(x+1,m2),?_,⟨by show 0≤x+1;omega,by show x+1≤_;omega,_,h6,hv.do _⟩,by show l.length-(x+1).toNat<l.length-x.toNat;omega⟩;rw[AQ rfl,h5,AR rfl,Bd (by omega) (by omega)]
  ·refine .inr ⟨.go m,?_,m,ts,rfl,h,hv⟩;unfold Cq;rw[AQ (Qe hlt)]) F (0,[]) ⟨Q4 0,by show(0:Int)≤_;omega,[],Ep.nil,λx hx=>by cases hx⟩ (by show l.length-0<F;omega)
 obtain⟨m,ts,rfl,h,hv⟩:=h2;exact⟨m,ts,by rw[AR h1,Gm];rfl,h,hv⟩
end Go.Proofs.YtkoiaconljdbeaaDoor
namespace Go.Proofs.YtkoiaconljdbeaaDoor
open Go
set_option linter.unusedVariables false
set_option linter.unusedSimpArgs false
theorem NX {ts:List Aa}{t:Ab}{now:Int}(h:(Dn ts t now).1≠0):(Dn ts t now).2=ts:=by
 unfold Dn at *
 cases h1 : !decide (HW t=0) with
 | true=>rfl
 | false=>
  rw[h1,Qc] at h
  cases h2:(!(decide (0≤now)&&decide (now≤1073741824))||decide (t.fAt<now)) with
  | true=>rfl
  | false=>
   rw[h2,Qc] at h
   cases h3:D9 ts t.fID with
   | true=>rfl
   | false=>
    rw[h3,Qc] at h
    cases h4:decide (256≤ts.length) with
    | true=>rfl
    | false=>rw[h4,Qc] at h;exact absurd rfl h
theorem NW {ts:List Aa}{t:Ab}{now:Int}(h:(Dn ts t now).1=0):HW t=0∧(!(decide (0≤now)&&decide (now≤1073741824))||decide (t.fAt<now))=false∧D9 ts t.fID=false∧ts.length<256∧(Dn ts t now).2=Ec CA ⟨t,false⟩ ts:=by
 unfold Dn at *
 cases h1 : !decide (HW t=0) with
 | true=>rw[h1] at h;simp at h1;exact absurd h h1
 | false=>
  rw[h1,Qc] at h
  cases h2:(!(decide (0≤now)&&decide (now≤1073741824))||decide (t.fAt<now)) with
  | true=>rw[h2] at h;cases h
  | false=>
   rw[h2,Qc] at h
   cases h3:D9 ts t.fID with
   | true=>rw[h3] at h;cases h
   | false=>
    rw[h3,Qc] at h
    cases h4:decide (256≤ts.length) with
    | true=>rw[h4] at h;cases h
    | false=>exact⟨by simpa using h1,rfl,rfl,by simpa using h4,rfl⟩
theorem KN (ts:List Aa)(t:Ab):D9 (Ec CA ⟨t,false⟩ ts) t.fID=true:=
 List.any_eq_true.2 ⟨⟨t,false⟩,(BX CA _ ts).symm.subset (List.mem_cons_self ..),by simp⟩
theorem Ma {ts:List Aa}{t:Ab}(h:D9 ts t.fID=false):GO (Ec CA ⟨t,false⟩ ts) t.fID=false:=
 List.any_eq_false.2 λy hy=>by
  rcases List.mem_cons.1 ((BX CA _ ts).subset hy) with rfl | hy
  ·simp
  ·have:=List.any_eq_false.1 h y hy;simp at this;simp[this]
theorem NO {ts:List Aa}{t:Ab}(h:D9 ts t.fID=false):IO (Ec CA ⟨t,false⟩ ts) t.fID=ts:=by
 have hn:∀y∈ts,(!decide (y.fTimer.fID=t.fID))=true:=λy hy=>by
  have:=List.any_eq_false.1 h y hy;simpa using this
 clear h
 induction ts with
 | nil=>simp[Ec,IO]
 | cons z r ih=>
  have hz:=hn z (List.mem_cons_self ..);have hr:=ih λy hy=>hn y (List.mem_cons_of_mem _ hy);rw[Ec]
  cases hq:CA z ⟨t,false⟩ with
  | true=>
   show IO (z::Ec CA ⟨t,false⟩ r) t.fID=z::r;unfold IO at *;rw[List.filter_cons_of_pos (by exact hz),hr]
  | false=>
   show IO (⟨t,false⟩::z::r) t.fID=z::r;unfold IO;rw[List.filter_cons_of_neg (by simp)];exact List.filter_eq_self.2 hn
theorem MP {ts:List Aa}{id:Ai}(h:D9 ts id=false):GO ts id=false:=
 List.any_eq_false.2 λy hy=>by
  have:=List.any_eq_false.1 h y hy;simp at this;simp[this]
theorem IC {l:List AE}{t:Ab}{now:Int}(ho:∀o∈l,OW o.fTimer.fBody)(hot:OW t.fBody):Ek 40000 l t now=some true:=by
 obtain⟨b,hb,hs⟩:=MM (F:=40000) (by decide) ho;obtain⟨c,hc,hst⟩:=Jj (F:=40000) (by decide) hot;unfold Ek;rw[hb,hc,C0 (by rfl),C0 (by simp[imp]),Kd,Kd]
 cases b with
 | false=>rw[AY (by rfl),E4,AR rfl]
 | true=>
  cases c with
  | false=>rw[AY (by rfl),E4,AR rfl]
  | true=>
   obtain⟨hl,hs⟩:=hs rfl;have ht:=hst rfl;obtain⟨m,ts,h1,h,_⟩:=Kj (F:=40000) (by decide) hl hs;rw[AQ (by rfl),h1,AR rfl,DZ h,AR rfl];obtain⟨m',h2,h3⟩:=I4 (F:=40000) (by decide) h ht now;dsimp only;rw[h2,AR rfl];dsimp only
   by_cases hz:(Dn ts t now).1=0
   ·obtain⟨e1,e2,e3,e4,e5⟩:=NW hz;have e6:=e3;rw[hz,AQ (by rfl),DZ h3,AR rfl];have hln:(CU (Dn ts t now).2).length=(CU ts).length+1:=by
     rw[e5];unfold CU;rw[Qf,(BX CA _ ts).length_eq,Qf];rfl
    have hll:=h.ti.llen;dsimp only;rw[Bd (by omega) (by omega),hln,AQ (by simp)];obtain⟨m2,h4,h5⟩:=I4 (F:=40000) (by decide) h3 ht now;have e7:Dn (Dn ts t now).2 t now=(6,(Dn ts t now).2):=by
     have hh:D9 (Dn ts t now).2 t.fID=true:=by rw[e5];exact KN ts t
     generalize(Dn ts t now).2=us at hh;unfold Dn;rw[e1,e2,hh];rfl
    rw[e7] at h4 h5;rw[h4,AR rfl,AQ (by rfl)];obtain⟨m3,h6,h7⟩:=EJ h5 t.fID;have e8:CB (6,(Dn ts t now).2).2 t.fID=(0,ts):=by
     show CB (Dn ts t now).2 t.fID=(0,ts);rw[e5];unfold CB IP;rw[Ma e3,KN,NO e3];rfl
    rw[e8] at h6 h7;dsimp only at h6 h7 ⊢;rw[h6,AR rfl];unfold BS;rw[AQ (by rfl)];dsimp only;rw[DZ h7,AR rfl,h.ti.same (by decide) (List.Sublist.refl _),AR rfl,AY rfl];obtain⟨m4,h8,h9⟩:=EJ h7 t.fID;have e9:CB ts t.fID=(5,ts):=by
     unfold CB IP;rw[MP e3,e3];rfl
    rw[e9] at h8;dsimp only at h8 ⊢;rw[h8,AR rfl,AY (by rfl),E4,AR rfl];rfl
   ·rw[AY (by simp[hz])];have e:=NX hz;rw[e] at h3;rw[DZ h3,AR rfl,h.ti.same (by decide) (List.Sublist.refl _),AR rfl,AY rfl,E4,AR rfl];rfl
end Go.Proofs.YtkoiaconljdbeaaDoor
namespace Go.Proofs.YtkoiaconljdbeaaDoor.lawTimerCancels
open Go
set_option linter.unusedVariables false
theorem Oi {t:Ab}(h2:Lm t=true):OW t.fBody:=λc hc=>by
 unfold Lm at h2;simp only[Qa,Qp] at h2;have h3:=h2.2.1 c hc;unfold M1 at h3;simp only[Qa] at h3;exact⟨h3.1.1.2,(Gt h3.2).2⟩
theorem O8 {o:AE}(h:Ll o=true):OW o.fTimer.fBody:=by
 unfold Ll at h;simp only[Qa] at h;exact Oi h.2
theorem PM:PT:=λl t now h ht _=>⟨40000,IC (λo ho=>O8 (by
 simp only[Qa,Qp] at h;exact h.1 o ho)) (Oi ht)⟩
end Go.Proofs.YtkoiaconljdbeaaDoor.lawTimerCancels
