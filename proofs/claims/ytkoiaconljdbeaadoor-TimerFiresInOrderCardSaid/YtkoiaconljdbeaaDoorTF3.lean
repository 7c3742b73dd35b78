/-
  Texts of the proof, put together: WTb, PTc, WTc, PTd, WTd, OkTimerFiresInOrder, LvA, LvB, LvC, LvD, LvE, LvF, LvG, LvH, LvI, LvJ, LvK, LvL, LvM, LvN, LvO, LvP, PO, LmA, LmB, LmS, LmE, LwTimerFires.
-/
import Derived.Test.YtkoiaconljdbeaaDoorTF2
import GoSem.ClaimData
namespace Go.Proofs.YtkoiaconljdbeaaDoor.Q
open Go Go.RowKit
set_option linter.unusedVariables false
set_option linter.unusedSimpArgs false
set_option maxRecDepth 100000
set_option maxHeartbeats 4000000
@[reducible] def Dm (x:Aa):List Rp:=[rS x.fTimer.fID,rI .i64 x.fTimer.fAt,rS x.fTimer.fTenant,rS x.fTimer.fSource,AV 4 (List.map Ae x.fTimer.fBody),rB x.fTold]
@[reducible] def Ah (x:Aa):Rp:=Bh (Dm x)
theorem Cy (Z:Fz):(Ah (Aa.mk (Ab.mk ([]:Ai) 0 ([]:Ai) ([]:Ai) ([]:(List Ad))) false)).p Z (.agg #[(.string ⟨#[]⟩),(.int .i64 0),(.string ⟨#[]⟩),(.string ⟨#[]⟩),(.slice none 0 0),(.bool false)]):=⟨[.string ⟨#[]⟩,.int .i64 0,.string ⟨#[]⟩,.string ⟨#[]⟩,.slice none 0 0,.bool false],rfl,rfl,rfl,rfl,rfl,Ke.nil _ _,rfl,trivial⟩
theorem OU:∃inf,Tryd.prog.info? 33=some inf∧inf.zero=some (.agg #[(.string ⟨#[]⟩),(.int .i64 0),(.string ⟨#[]⟩),(.string ⟨#[]⟩),(.slice none 0 0)])∧inf.size=5∧inf.bytes=80:=by
  have key:(Tryd.prog.info? 33).map (λi=>(i.zero,i.size,i.bytes))=some (some (.agg #[(.string ⟨#[]⟩),(.int .i64 0),(.string ⟨#[]⟩),(.string ⟨#[]⟩),(.slice none 0 0)]),5,80):=by kernel_rfl
  obtain⟨inf,h1,h2⟩:=Option.map_eq_some_iff.1 key;simp only[Prod.mk.injEq] at h2;exact⟨inf,h1,h2.1,h2.2.1,h2.2.2⟩
theorem Ok (parts:List (Nat×Value)):Tryd.prog.built 45 parts=Instr.fill (λi=>(#[(0,1)]:Array (Nat×Nat))[i]?) #[((.map none))] parts:=by kernel_rfl
theorem JC {n:Nat}{c:Cx}{l:Fr}{H:List Ent}{d:Option Nat}{ty:TypeId}{pos:String}{af:Array Edge}{g:Option (Nat×Bool)}{x0:Operand}{r0:Rp}(h0:ev l x0=some r0)(u0:r0.one=true):AS Tryd.prog n c l H { dst:=d,op:=.build 45 #[(0,x0)],type:=ty,pos:=pos,after:=af,guard:=g } (Bh [r0]):=λa w Z ha _=>by
  have p0:=ha.ev h0;have c0:=B0 (r0.hone u0 Z _ p0);have hb:Tryd.prog.built 45 [(0,a.eval x0)]=some #[a.eval x0]:=by
    rw[Ok];generalize a.eval x0=v0 at *;simp[Instr.fill,c0]
  refine⟨.agg #[a.eval x0],⟨[a.eval x0],rfl,p0,trivial⟩,?_⟩;have:=run_build w 45 #[(0,a.eval x0)] _ (by simpa using hb);simp[execOp,this]
theorem Oj (parts:List (Nat×Value)):Tryd.prog.built 53 parts=Instr.fill (λi=>(#[(0,5),(5,1)]:Array (Nat×Nat))[i]?) #[(.string ⟨#[]⟩),(.int .i64 0),(.string ⟨#[]⟩),(.string ⟨#[]⟩),((.slice none 0 0)),(.bool false)] parts:=by kernel_rfl
theorem JB {n:Nat}{c:Cx}{l:Fr}{H:List Ent}{d:Option Nat}{ty:TypeId}{pos:String}{af:Array Edge}{g:Option (Nat×Bool)}{x0:Operand}{r0_0 r0_1 r0_2 r0_3 r0_4:Rp}(h0:ev l x0=some (Bh [r0_0,r0_1,r0_2,r0_3,r0_4])):AS Tryd.prog n c l H { dst:=d,op:=.build 53 #[(0,x0)],type:=ty,pos:=pos,after:=af,guard:=g } (Bh [r0_0,r0_1,r0_2,r0_3,r0_4,rB false]):=λa w Z ha _=>by
  obtain⟨us0,e0,q0⟩:=ha.ev h0;obtain⟨y0_0,y0_1,y0_2,y0_3,y0_4,rfl,q0⟩:=AB.d5 q0;have hb:Tryd.prog.built 53 [(0,a.eval x0)]=some #[y0_0,y0_1,y0_2,y0_3,y0_4,(.bool false)]:=by
    rw[Oj];simp[Instr.fill,e0,Value.cells]
  refine⟨.agg #[y0_0,y0_1,y0_2,y0_3,y0_4,(.bool false)],⟨[y0_0,y0_1,y0_2,y0_3,y0_4,(.bool false)],rfl,q0.1,q0.2.1,q0.2.2.1,q0.2.2.2.1,q0.2.2.2.2.1,rfl,trivial⟩,?_⟩;have:=run_build w 53 #[(0,a.eval x0)] _ (by simpa using hb);simp[execOp,this]
theorem Mw  (r:Ar)(h:Mx=some r):Fn Tryd.prog GE 17 [] [] (λR H=>∃u0:Nat,∃u0_0:Nat,R=rv (.pointer (some ⟨u0,0,none⟩))∧H=[.blk u0 [rv (.map (some u0_0))] 45,.map u0_0 (AJ Ah r.fTimers)]):=by
 refine enter (n:=4) Tryd.func17 rfl Tryd.ntmps17 rfl (λw Z=>?_);refine Bj (l':=[]) (H':=[]) rfl rfl ?_;unfold Mx at h;refine As (wv (r:=rv (.pointer none)) (An rfl) (CF (Lo rfl (λb1=>?_))));refine wv (r:=Bh [rv (.map (some b1))]) (JC rfl rfl) (BM rfl rfl (λb2=>?_));refine wa rfl (A2 (A4 ?_));obtain rfl:=A8 h;exact A3 (BF Tryd.results17 (AZ rfl)) (sC (sC sN)) ⟨b2,b1,rfl,rfl⟩
theorem Gj (hb:Nat)(ha:Nat)(q:Ar)(r:Bool×Ar)(h:Ed q=some r):Fn Tryd.prog GE 21 [rv (.pointer (some ⟨hb,0,none⟩))] [.blk hb [rv (.map (some ha))] 45,.map ha (AJ Ah q.fTimers)] (λR H=>R=rB r.1∧H=[.blk hb [rv (.map (some ha))] 45,.map ha (AJ Ah r.2.fTimers)]):=by
 refine enter (n:=12) Tryd.func21 rfl Tryd.ntmps21 rfl (λw Z=>?_);refine Bj (l':=[(0,rv (.pointer (some ⟨hb,0,none⟩)))]) (H':=[.blk hb [rv (.map (some ha))] 45,.map ha (AJ Ah q.fTimers)]) rfl rfl ?_;unfold Ed at h;refine As (wv (r:=rB false) (An rfl) (A2 (AI [(2,rB true)] [.blk hb [rv (.map (some ha))] 45,.map ha (AJ Ah q.fTimers)] ?_ ?_)))
 ·refine Av (wm rfl (wv (r:=rB true) (I3 ⟨_,Nz⟩ rfl) (wm rfl (AF (b:=true) rfl rfl rfl (wm rfl (AF (b:=true) rfl rfl rfl (wv (B2 rfl) (AF (b:=true) rfl rfl rfl (wv (Af H3 rfl H4 rfl rfl) (AF (b:=true) rfl rfl rfl (wv (Az (i:=0) H5 rfl rfl rfl) (AF (b:=true) rfl rfl rfl (wv (r:=rB true) (L3 (v:=some ha) Ik rfl) (wv (r:=rB true) (Aq (b:=true) rfl rfl rfl) (wa rfl (Au ?_))))))))))))))));exact wt
 refine A4 ?_;obtain rfl:=A8 h;exact A3 (BF Tryd.results21 (AZ rfl)) (sC (sC sN)) ⟨rfl,rfl⟩
theorem KI (ha:Nat)(t:Ab)(now:Int)(r:Bool)(h:HD t now=some r):Fn Tryd.prog GE 31 [Bh (Ac t),rv (.pointer (some ⟨ha,0,none⟩))] [.blk ha [rI .i64 now] 3] (λR H=>R=rB r∧H=[.blk ha [rI .i64 now] 3]):=by
 refine enter (n:=8) Tryd.func31 rfl Tryd.ntmps31 rfl (λw Z=>?_);refine Bj (l':=[(0,Bh (Ac t)),(1,rv (.pointer (some ⟨ha,0,none⟩)))]) (H':=[.blk ha [rI .i64 now] 3]) rfl rfl ?_;unfold HD at h;refine As (BM rfl rfl (λb1=>?_));refine wv (r:=rB false) (An rfl) (CF (wv (Af Bx rfl Cu rfl rfl) (wv (Az (i:=0) CM rfl rfl rfl) (wv (Az (i:=1) CM rfl rfl rfl) (wv (Dh rfl rfl) (wa rfl (A2 (A4 ?_))))))));obtain rfl:=A8 h;exact A3 (BF Tryd.results31 (AZ rfl)) (sS (sC sN)) ⟨rfl,rfl⟩
theorem JO (F:Nat)(ha:Value)(hb:Nat)(ys:(List Ab))(now:Int)(r:Int)(h:DN F ys now=some r):Fn Tryd.prog GE 42 [rv ha,rv (.func (.func 31) #[] #[(.pointer (some ⟨hb,0,none⟩))])] [.row ha 33 5 (List.map Ac ys),.blk hb [rI .i64 now] 3] (λR H=>R=rI .i64 r∧H=[.row ha 33 5 (List.map Ac ys),.blk hb [rI .i64 now] 3]):=by
 refine enter (n:=19) Tryd.func42 rfl Tryd.ntmps42 rfl (λw Z=>?_);refine Bj (l':=[(0,rv ha),(1,rv (.func (.func 31) #[] #[(.pointer (some ⟨hb,0,none⟩))]))]) (H':=[.row ha 33 5 (List.map Ac ys),.blk hb [rI .i64 now] 3]) rfl rfl ?_;unfold DN at h;refine As (wv (r:=rI .i64 0) (An rfl) (A2 (Ax (As (wm rfl (wv (BT (ys:=ys) (enc:=Ac) (i:=0) Bs rfl rfl) (wv (r:=rI .i64 0) (Aj rfl) (A2 (AN ?_)))))))));obtain⟨hn,ho,hj⟩:=AR h;refine BL (S:=Nat×(Int)×(Unit)) (V:=(Unit)×(Unit)) 0 (λσ=>Dq (λσ=>BB ys now σ) σ.1 σ.2.1=some hn) (λσ=>[(0,rv ha),(1,rv (.func (.func 31) #[] #[(.pointer (some ⟨hb,0,none⟩))])),(4,rI .i64 0),(7,rI .i64 (ys.length:Int)),(8,rI .i64 σ.2.1)]) (λσ=>[.row ha 33 5 (List.map Ac ys),.blk hb [rI .i64 now] 3]) (λσ=>σ.1) (F,0,()) ho (AM.c5 rfl rfl rfl rfl rfl AM.nil) (sC (sC sN)) (λσ=>Dk =some r) (λσ=>[(4,rI .i64 0)]) (λσ=>[.row ha 33 5 (List.map Ac ys),.blk hb [rI .i64 now] 3]) ?_ ?_
 ·rintro⟨h4,hd,⟨⟩⟩ hp;refine Bj (l':=[(0,rv ha),(1,rv (.func (.func 31) #[] #[(.pointer (some ⟨hb,0,none⟩))])),(4,rI .i64 0),(7,rI .i64 (ys.length:Int)),(8,rI .i64 hd)]) (H':=[.row ha 33 5 (List.map Ac ys),.blk hb [rI .i64 now] 3]) rfl rfl ?_;obtain⟨hq,rfl,hr,he,hg⟩:=Ee hp;replace he:BB ys now hd=some hr:=he;unfold BB at he;refine As (wv (Dw rfl rfl) (A2 (Ax (A6 (b:=decide (hd<(ys.length:Int))) rfl (λhh=>?_) (λhh=>?_)))))
  ·have hs:=AO hh he;refine AC (Bd (Ax (AN (As (wm rfl (wa rfl (CF (wm rfl (wm rfl (wm rfl ?_))))))))));obtain⟨hk,ht⟩:=AK hs;refine wv (r:=rv (CC 5 ha (Int.toNat hd) 0)) (Dx (i:=0) Bs Bp rfl rfl rfl (AY hk)) (wv (r:=Bh (Ac (Ak ys hd))) (KR (enc:=Ac) (ys:=ys) (i:=0) (j:=hd) Gd Bp rfl rfl hk rfl rfl) ?_);obtain⟨hl,hu,hm⟩:=AR ht;refine KD (rs:=[Bh (Ac (Ak ys hd))]) (Hin:=[.blk hb [rI .i64 now] 3]) (Hr:=[.row ha 33 5 (List.map Ac ys)]) Tryd.call31 rfl rfl ((A1 (i:=1) rfl).trans (Qq _ (Qj _))) (KI hb (Ak ys hd) now hl hu) rfl ?_;rintro _ _ ⟨rfl,rfl⟩;refine A2 (A6 (b:=hl) rfl (λhi=>?_) (λhi=>?_))
   ·have hw:=AO hi hm;refine As (wm rfl (wa rfl (A2 (A4 (A9 (Al (Al (B1 ?_))))))));have hx:=Cw hw hg hj;refine A9 (Al (E5 (H2:=[.row ha 33 5 (List.map Ac ys),.blk hb [rI .i64 now] 3]) ((A1 (i:=1) rfl).trans (Qq _ (Qj _))) ?_));obtain rfl:=A8 hx;exact A3 (BF Tryd.results42 (AZ rfl)) (sC (sC sN)) ⟨rfl,rfl⟩
   ·have hy:=AP hi hm;refine AC (AT (Bd (Av ?_)));obtain⟨hz,h0⟩:=AK hy;refine wv (Cc rfl rfl hz) (wm rfl (Au (E5 (H2:=[.row ha 33 5 (List.map Ac ys),.blk hb [rI .i64 now] 3]) ((A1 (i:=1) rfl).trans (Qq _ (Qj _))) ?_)));have h1:=BN h0 hg;exact A0 (AQ (hq,hd+1,()) ⟨h1,QA _⟩ (AM.c5 rfl rfl rfl rfl rfl AM.nil) (sC (sC sN)))
  ·have h2:=AP hh he;refine B6 (AA ?_);have h3:=Dc h2 hg hj;exact AA (By (AQ ((),()) h3 (AM.c rfl AM.nil) (sC (sC sN))))
 ·rintro⟨⟨⟩,⟨⟩⟩ hf;refine DD (l':=[(4,rI .i64 0)]) (H':=[.row ha 33 5 (List.map Ac ys),.blk hb [rI .i64 now] 3]) rfl rfl ?_;replace hf:Dk =some r:=hf;unfold Dk at hf;refine Bq (Bd (As (wv (r:=rI .i64 (-1)) (An rfl) (A2 (A4 ?_)))));obtain rfl:=A8 hf;exact A3 (BF Tryd.results42 (AZ rfl)) (sC (sC sN)) ⟨rfl,rfl⟩
theorem Jd (F:Nat)(hd:Value)(he:Nat)(ys:(List Ab))(now:Int)(r:(List Ab))(h:D2 F ys now=some r):Fn Tryd.prog GE 30 [rv hd,rv (.func (.func 31) #[] #[(.pointer (some ⟨he,0,none⟩))])] [.row hd 33 5 (List.map Ac ys),.blk he [rI .i64 now] 3] (λR H=>∃u0:Value,R=rv u0∧H=[.row u0 33 5 (List.map Ac r),.blk he [rI .i64 now] 3]):=by
 refine enter (n:=42) Tryd.func30 rfl Tryd.ntmps30 rfl (λw Z=>?_);refine Bj (l':=[(0,rv hd),(1,rv (.func (.func 31) #[] #[(.pointer (some ⟨he,0,none⟩))]))]) (H':=[.row hd 33 5 (List.map Ac ys),.blk he [rI .i64 now] 3]) rfl rfl ?_;unfold D2 at h;refine As (wv (r:=rv (.slice none 0 0)) (An rfl) (CF (wm rfl (wm rfl ?_))));obtain⟨r1,e3,h2⟩:=AR h;refine Ej (Hr:=[]) Tryd.call42 (JO F hd he ys now r1 e3) rfl (Qj _) rfl ?_;rintro _ _ ⟨rfl,rfl⟩;refine wa rfl (A2 (Ax (As (wm rfl (wv (B4 rfl rfl) (A2 (A6 (b:=decide (r1=(-1))) rfl (λc4=>?_) (λc4=>?_))))))))
 ·have h5:=AO c4 h2;refine As (wm rfl (wa rfl (A2 (A4 (Al ?_)))));obtain rfl:=A8 h5;exact A3 (BF Tryd.results30 (AZ rfl)) (sC (sC sN)) ⟨hd,rfl,rfl⟩
 ·have h6:=AP c4 h2;refine AC (Bd (Ax (As (wm rfl ?_))));obtain⟨g7,h8⟩:=AK h6;refine wv (Cc rfl rfl g7) (wa rfl (A2 (AN ?_)));obtain⟨h0,h1,h3⟩:=AR h8;refine BL (S:=Nat×(Int×Int×(List Ab))×(Unit)) (V:=(Int×(List Ab))×(Unit)) 0 (λσ=>Dq (λσ=>B3 now σ.1 σ.2.1 σ.2.2) σ.1 σ.2.1=some h0) (λσ=>[(0,rv hd),(1,rv (.func (.func 31) #[] #[(.pointer (some ⟨he,0,none⟩))])),(4,rv (.slice none 0 0)),(5,rI .i64 σ.2.1.1),(6,rI .i64 σ.2.1.2.1)]) (λσ=>[.row hd 33 5 (List.map Ac σ.2.1.2.2),.blk he [rI .i64 now] 3]) (λσ=>σ.1) (F,(r1,r1+1,ys),()) h1 (AM.c5 rfl rfl rfl rfl rfl AM.nil) (sC (sC sN)) (λσ=>Cr σ.1.1 σ.1.2=some r) (λσ=>[(0,rv hd),(4,rv (.slice none 0 0)),(5,rI .i64 σ.1.1)]) (λσ=>[.row hd 33 5 (List.map Ac σ.1.2),.blk he [rI .i64 now] 3]) ?_ ?_
  ·rintro⟨hV,⟨hf,ha,hb⟩,⟨⟩⟩ h4;refine Bj (l':=[(0,rv hd),(1,rv (.func (.func 31) #[] #[(.pointer (some ⟨he,0,none⟩))])),(4,rv (.slice none 0 0)),(5,rI .i64 hf),(6,rI .i64 ha)]) (H':=[.row hd 33 5 (List.map Ac hb),.blk he [rI .i64 now] 3]) rfl rfl ?_;obtain⟨h7,rfl,hn,hh,hs⟩:=Ee h4;replace hh:B3 now hf ha hb=some hn:=hh;unfold B3 at hh;refine Ax (As (wm rfl (wm rfl (wv (BT (ys:=hb) (enc:=Ac) (i:=0) Bs rfl rfl) (wv (Dw rfl rfl) (A2 (A6 (b:=decide (ha<(hb.length:Int))) rfl (λho=>?_) (λho=>?_))))))))
   ·have h9:=AO ho hh;refine AC (Bd (CO (S:=(Int×Bool×Bool×(List Ab))×(Unit)) (λσ=>BG ha σ.1.1 σ.1.2.1 σ.1.2.2.1 σ.1.2.2.2=some hn) (λσ=>[(0,rv hd),(1,rv (.func (.func 31) #[] #[(.pointer (some ⟨he,0,none⟩))])),(4,rv (.slice none 0 0)),(5,rI .i64 σ.1.1),(6,rI .i64 ha),(16,rI .i64 ha),(17,rv hd),(18,rI .i64 (hb.length:Int)),(19,rB (decide (ha<(hb.length:Int)))),(22,rv hd),(23,rI .i64 ha),(25,Bh (Ac (Ak hb ha))),(26,rv (.func (.func 31) #[] #[(.pointer (some ⟨he,0,none⟩))])),(27,Bh (Ac (Ak hb ha))),(28,rB σ.1.2.1),(29,rB σ.1.2.2.1)]) (λσ=>[.blk he [rI .i64 now] 3,.row hd 33 5 (List.map Ac σ.1.2.2.2)]) ?_ ?_))
    ·refine AN (As (wm rfl (wm rfl ?_)));obtain⟨ht,hA⟩:=AK h9;refine wv (r:=rv (CC 5 hd (Int.toNat ha) 0)) (Dx (i:=0) Bs Bp rfl rfl rfl (AY ht)) (wv (r:=Bh (Ac (Ak hb ha))) (KR (enc:=Ac) (ys:=hb) (i:=0) (j:=ha) Gd Bp rfl rfl ht rfl rfl) (CH (cs:=[rS ([]:Ai),rI .i64 0,rS ([]:Ai),rS ([]:Ai),rv (.slice none 0 0)]) Me rfl rfl (λhp=>?_)));refine BA (i:=0) Bp rfl rfl rfl (B5.c rfl) rfl rfl (cs':=[rS ((Ak hb ha).fID),rI .i64 ((Ak hb ha).fAt),rS ((Ak hb ha).fTenant),rS ((Ak hb ha).fSource),AV 4 (List.map Ae ((Ak hb ha).fBody))]) rfl (H':=[.blk hp (Ac (Ak hb ha)) 33,.row hd 33 5 (List.map Ac hb),.blk he [rI .i64 now] 3]) rfl (CF (wm rfl (wv (Bo (i:=0) Gd Bp rfl rfl rfl rfl) ?_)));obtain⟨hg,hB,hu⟩:=AR hA;refine KD (rs:=[Bh (Ac (Ak hb ha))]) (Hin:=[.blk he [rI .i64 now] 3]) (Hr:=[.blk hp (Ac (Ak hb ha)) 33,.row hd 33 5 (List.map Ac hb)]) Tryd.call31 rfl rfl ((A1 (i:=2) rfl).trans (Qq _ (Qj _))) (KI he (Ak hb ha) now hg hB) rfl ?_;rintro _ _ ⟨rfl,rfl⟩;refine wv (BX rfl) (A2 (A6 (b:=!hg) rfl (λhq=>?_) (λhq=>?_)))
     ·have hC:=AO hq hu;refine As (wm rfl (wm rfl (wv (Bo (i:=1) Gd Bp rfl rfl rfl rfl) ?_)));obtain⟨hw,hD⟩:=AK hC;refine wv (r:=rv (CC 5 hd (Int.toNat hf) 0)) (Dx (i:=2) Bs Bp rfl rfl rfl (AY hw)) (N7 (enc:=Ac) (ys:=hb) (y':=(Ak hb ha)) (i:=2) (j:=hf) Bp rfl rfl (B5.c rfl) rfl hw rfl rfl rfl (H':=[.blk he [rI .i64 now] 3,.blk hp (Ac (Ak hb ha)) 33,.row hd 33 5 (List.map Ac (List.set hb (Int.toNat hf) (Ak hb ha)))]) rfl ?_);obtain⟨hE,hG,hH⟩:=IG hD;rw[← hG];refine A2 (Av (wm rfl ?_));obtain⟨hI,hJ⟩:=AK hH;exact wv (Cc rfl rfl hI) (wa rfl (Au (AT (A0 (AQ ((hf+1,hg,!hg,hE),()) hJ (AM.c rfl (AM.c5 rfl rfl rfl rfl rfl (AM.c5 rfl rfl rfl rfl rfl (AM.c5 rfl rfl rfl rfl rfl AM.nil)))) (sC (sS (sC sN))))))))
     ·have hK:=AP hq hu;exact AC (AT (A0 (AQ ((hf,hg,!hg,hb),()) hK (AM.c rfl (AM.c5 rfl rfl rfl rfl rfl (AM.c5 rfl rfl rfl rfl rfl (AM.c5 rfl rfl rfl rfl rfl AM.nil)))) (sC (sS (sC sN))))))
    ·rintro⟨⟨hr,hx,hy,hk⟩,⟨⟩⟩ hl;refine Bj (l':=[(0,rv hd),(1,rv (.func (.func 31) #[] #[(.pointer (some ⟨he,0,none⟩))])),(4,rv (.slice none 0 0)),(5,rI .i64 hr),(6,rI .i64 ha),(16,rI .i64 ha),(17,rv hd),(18,rI .i64 (hb.length:Int)),(19,rB (decide (ha<(hb.length:Int)))),(22,rv hd),(23,rI .i64 ha),(25,Bh (Ac (Ak hb ha))),(26,rv (.func (.func 31) #[] #[(.pointer (some ⟨he,0,none⟩))])),(27,Bh (Ac (Ak hb ha))),(28,rB hx),(29,rB hy)]) (H':=[.blk he [rI .i64 now] 3,.row hd 33 5 (List.map Ac hk)]) rfl rfl ?_;replace hl:BG ha hr hx hy hk=some hn:=hl;unfold BG at hl;refine Av (wm rfl ?_);obtain⟨hL,hN⟩:=AK hl;refine wv (Cc rfl rfl hL) (wa rfl (Au (E5 (H2:=[.row hd 33 5 (List.map Ac hk),.blk he [rI .i64 now] 3]) ((A1 (i:=1) rfl).trans (Qq _ (Qj _))) ?_)));have hO:=BN hN hs;exact A0 (AQ (h7,(hr,ha+1,hk),()) ⟨hO,QA _⟩ (AM.c5 rfl rfl rfl rfl rfl AM.nil) (sC (sC sN)))
   ·have hP:=AP ho hh;refine B6 (AA ?_);have hQ:=Dc hP hs h3;exact AA (By (AQ ((hf,hb),()) hQ (AM.c rfl (AM.c rfl (AM.c rfl AM.nil))) (sC (sC sN))))
  ·rintro⟨⟨hi,hj⟩,⟨⟩⟩ hm;refine DD (l':=[(0,rv hd),(4,rv (.slice none 0 0)),(5,rI .i64 hi)]) (H':=[.row hd 33 5 (List.map Ac hj),.blk he [rI .i64 now] 3]) rfl rfl ?_;replace hm:Cr hi hj=some r:=hm;unfold Cr at hm;refine Bq (Bd (As (wm rfl (wm rfl ?_))));obtain⟨hz,hR⟩:=AK hm;refine wv (r:=rv (HJ 5 hd (Int.toNat hi))) (ON (i:=0) Bs Bp rfl rfl rfl hz) (IN (ys:=hj) (enc:=Ac) (i:=0) (z0:=Ab.mk ([]:Ai) 0 ([]:Ai) ([]:Ai) ([]:(List Ad))) Bs Me rfl rfl rfl (by decide) (λZ=>⟨rfl,rfl,rfl,rfl,Ke.nil _ _,trivial⟩) rfl rfl rfl hz (H':=[.row hd 33 5 (List.map Ac (List.take (Int.toNat hi) hj++List.replicate (hj.length-Int.toNat hi) (Ab.mk ([]:Ai) 0 ([]:Ai) ([]:Ai) ([]:(List Ad))))),.blk he [rI .i64 now] 3]) rfl (CF (wm rfl (wm rfl ?_))));obtain⟨hS,hT⟩:=AK hR;refine Oy (i:=0) Bs Bp rfl rfl rfl hS rfl (λhU=>?_);refine wa rfl (A2 (A4 ?_));obtain rfl:=A8 hT;exact A3 (BF Tryd.results30 (AZ rfl)) (sC (sC sN)) ⟨hU,rfl,rfl⟩
theorem IP (hb:Nat)(ha:Nat)(q:Ar)(r:(List Ab)×Ar)(h:HC q=some r):Fn Tryd.prog GE 9 [rv (.pointer (some ⟨hb,0,none⟩))] [.blk hb [rv (.map (some ha))] 45,.map ha (AJ Ah q.fTimers)] (λR H=>∃u0:Value,R=rv u0∧H=[.row u0 33 5 (List.map Ac r.1),.blk hb [rv (.map (some ha))] 45,.map ha (AJ Ah r.2.fTimers)]):=by
 refine enter (n:=27) Tryd.func9 rfl Tryd.ntmps9 rfl (λw Z=>?_);refine Bj (l':=[(0,rv (.pointer (some ⟨hb,0,none⟩)))]) (H':=[.blk hb [rv (.map (some ha))] 45,.map ha (AJ Ah q.fTimers)]) rfl rfl ?_;unfold HC at h;refine As (wv (r:=rv (.slice none 0 0)) (An rfl) (A2 (Ax (As (wm rfl ?_)))));obtain⟨r1,e3,h2⟩:=AR h;refine Ej (Hr:=[]) Mi (Gj hb ha q r1 e3) rfl (Qj _) rfl ?_;rintro _ _ ⟨rfl,rfl⟩;refine wv (BX rfl) (A2 (A6 (b:=!r1.1) rfl (λc4=>?_) (λc4=>?_)))
 ·have h5:=AO c4 h2;refine As (wv (r:=rv (.slice none 0 0)) (An rfl) (A2 (A4 (Al (WK.nilrow (e:=33) (sz:=5) ?_)))));obtain rfl:=A8 h5;exact A3 (BF Tryd.results9 (AZ rfl)) (sC (sC (sC sN))) ⟨(.slice none 0 0                                 ),rfl,rfl⟩
 ·have h6:=AP c4 h2;refine AC (Bd (As (wv (r:=rv (.slice none 0 0)) (An rfl) (A2 (Ax (As (wm rfl (wv (B2 rfl) (wv (Af H3 rfl H4 rfl rfl) (wv (Az (i:=0) H5 rfl rfl rfl) (N3 (i:=1) Ik rfl rfl rfl (λb7=>?_))))))))))));refine A2 (AN (WC.nilrow (e:=33) (sz:=5) (KC (H2:=[.blk hb [rv (.map (some ha))] 45,.mit ha b7 (AJ Ah r1.2.fTimers) (AJ Ah r1.2.fTimers) none,.row (.slice none 0 0                                 ) 33 5 (List.map Ac ([]:List Ab))]) ((A1 (i:=1) rfl).trans (Qq _ ((A1 (i:=1) rfl).trans (Qq _ (Qj _))))) ?_)));have hr:=MS h6;refine BL (S:=(List (Ai×Aa))×((List Ab))×(Value)) (V:=((List Ab))×(Value)) 0 (λσ=>∀q:List (Ai×Aa),q.Perm σ.1→BK (KW (λp τ=>Du p.1 p.2 τ) q σ.2.1) (CE λν=>Dt r1 ν)=some r) (λσ=>[(2,rv (.slice none 0 0)),(3,rv σ.2.2),(13,rv (.pointer (some ⟨b7,0,none⟩)))]) (λσ=>[.blk hb [rv (.map (some ha))] 45,.mit ha b7 (AJ Ah r1.2.fTimers) (AJ Ah σ.1) none,.row σ.2.2 33 5 (List.map Ac σ.2.1)]) (λσ=>σ.1.length) (r1.2.fTimers,([]:List Ab),(.slice none 0 0                                 )) hr (AM.c rfl (AM.c rfl (AM.c rfl AM.nil))) (sC (sC (sC sN))) (λσ=>Dt r1 σ.1=some r) (λσ=>[(2,rv (.slice none 0 0)),(3,rv σ.2),(13,rv (.pointer (some ⟨b7,0,none⟩)))]) (λσ=>[.blk hb [rv (.map (some ha))] 45,.map ha (AJ Ah r1.2.fTimers),.row σ.2 33 5 (List.map Ac σ.1)]) ?_ ?_
  ·rintro⟨hm,hf,hg⟩ hn;refine Bj (l':=[(2,rv (.slice none 0 0)),(3,rv hg),(13,rv (.pointer (some ⟨b7,0,none⟩)))]) (H':=[.blk hb [rv (.map (some ha))] 45,.mit ha b7 (AJ Ah r1.2.fTimers) (AJ Ah hm) none,.row hg 33 5 (List.map Ac hf)]) rfl rfl (As (OD (enc:=Ah) (ys:=hm) (i:=1) rfl rfl rfl (λhy=>?_) (λp hh ho=>?_)))
   ·have hs:Dt r1 hf=some r:=NW hn hy;exact wv (Bm rfl rfl) (A2 (Ax (CP rfl rfl (B6 (AA (WK.unmit (i:=1) rfl (AA (By (AQ (hf,hg) hs (AM.c rfl (AM.c rfl (AM.c rfl AM.nil))) (sC (sC (sC sN))))))))))))
   ·obtain⟨hi,hd⟩:=p;obtain⟨ht,hj,hu⟩:=Ps hn ho;replace hj:Du hi hd hf=some ht:=hj;unfold Du at hj;refine OB (H':=[.blk hb [rv (.map (some ha))] 45,.mit ha b7 (AJ Ah r1.2.fTimers) (AJ Ah hh) (some (hi,Ah hd)),.row hg 33 5 (List.map Ac hf)]) rfl (wv (Bm rfl rfl) (A2 (Ax (DE rfl rfl (AC (Bd (AN (As (wv (r:=EV [rS hi,Bh (Dm hd)]) (NT (i:=1) rfl rfl) (wv (Bm rfl rfl) (CH (cs:=[rS ([]:Ai),rI .i64 0,rS ([]:Ai),rS ([]:Ai),rv (.slice none 0 0),rB false]) Jn rfl rfl (λhp=>?_))))))))))));refine BA (i:=0) Mf rfl rfl rfl (B5.c rfl) rfl rfl (cs':=[rS hd.fTimer.fID,rI .i64 hd.fTimer.fAt,rS hd.fTimer.fTenant,rS hd.fTimer.fSource,AV 4 (List.map Ae hd.fTimer.fBody),rB hd.fTold]) rfl (H':=[.blk hp (Dm hd) 53,.blk hb [rv (.map (some ha))] 45,.mit ha b7 (AJ Ah r1.2.fTimers) (AJ Ah hh) (some (hi,Ah hd)),.row hg 33 5 (List.map Ac hf)]) rfl (A2 (Av (wm rfl (wv (Af Ll rfl Bp rfl rfl) (wv (Bo (i:=0) Gd Bp rfl rfl rfl rfl) ?_)))));obtain⟨he,hw,hx⟩:=AR hj;refine Ig Tryd.call22 (Mu hd.fTimer he hw) rfl (CG (ys:=([he]:List Ab)) (enc:=Ac) (css:=[[rS he.fID,rI .i64 he.fAt,rS he.fTenant,rS he.fSource,AV 4 (List.map Ae he.fBody)]]) (xs:=[.tmp 21]) Bs Bp Me rfl rfl rfl ⟨O5.agg ⟨Up.refl _,Up.refl _,Up.refl _,Up.refl _,Up.refl _,trivial⟩,trivial⟩ rfl Ex rfl rfl rfl (λhz=>?_));obtain⟨h0,h1⟩:=AK hx;obtain⟨inf,hinf⟩:=OU;refine Gf (xs:=hf) (ys:=([he]:List Ab)) (enc:=Ac) (i:=4) Bs hinf.1 hinf.2.1 hinf.2.2.1 hinf.2.2.2 rfl rfl rfl rfl rfl (Nw.w (i:=0) rfl rfl) Ex Ew h0 rfl (λhq=>?_);refine wa rfl (Au (AT (WK.uncur (i:=4) rfl (E5 (H2:=[.blk hb [rv (.map (some ha))] 45,.mit ha b7 (AJ Ah r1.2.fTimers) (AJ Ah hh) none,.row hq 33 5 (List.map Ac (hf++([he]:List Ab))),.row (.slice (some ⟨hz,0,none⟩) 1 1) 33 5 (List.map Ac ([he]:List Ab)),.blk hp (Dm hd) 53]) ((A1 (i:=3) rfl).trans (Qq _ ((A1 (i:=3) rfl).trans (Qq _ (Qj _))))) ?_))));have h3:=LG h1 hu;exact A0 (AQ (hh,hf++([he]:List Ab),hq) ⟨h3,NJ ho⟩ (AM.c rfl (AM.c rfl (AM.c rfl AM.nil))) (sC (sC (sC (sS (sS sN))))))
  ·rintro⟨hl,v55⟩ hk;refine DD (l':=[(2,rv (.slice none 0 0)),(3,rv v55),(13,rv (.pointer (some ⟨b7,0,none⟩)))]) (H':=[.blk hb [rv (.map (some ha))] 45,.map ha (AJ Ah r1.2.fTimers),.row v55 33 5 (List.map Ac hl)]) rfl rfl ?_;replace hk:Dt r1 hl=some r:=hk;unfold Dt at hk;refine Bq (Bd (As (wm rfl ?_)));obtain⟨h4,h7⟩:=AK hk;obtain⟨h8,h9⟩:=AK h7;refine Db (rs:=[rv v55,rv (.func (.func 24) #[] #[])]) (Hin:=[.row v55 33 5 (List.map Ac hl)]) (Hr:=[.blk hb [rv (.map (some ha))] 45,.map ha (AJ Ah r1.2.fTimers)]) Tryd.call23 rfl ((A1 (i:=2) rfl).trans (Qq _ (Qj _))) (NC h4 h8) rfl ?_;rintro _ _ ⟨rfl,rfl⟩;refine CF (wm rfl (wa rfl (A2 (A4 ?_))));obtain rfl:=A8 h9;exact A3 (BF Tryd.results9 (AZ rfl)) (sC (sC (sC sN))) ⟨v55,rfl,rfl⟩
theorem G9 (F:Nat)(hf:Nat)(he:Nat)(q:Ar)(now:Int)(r:(List Ab)×Ar)(h:HE F q now=some r):Fn Tryd.prog GE 10 [rv (.pointer (some ⟨hf,0,none⟩)),rI .i64 now] [.blk hf [rv (.map (some he))] 45,.map he (AJ Ah q.fTimers)] (λR H=>∃u0:Value,R=rv u0∧H=[.row u0 33 5 (List.map Ac r.1),.blk hf [rv (.map (some he))] 45,.map he (AJ Ah r.2.fTimers)]):=by
 refine enter (n:=49) Tryd.func10 rfl Tryd.ntmps10 rfl (λw Z=>?_);refine Bj (l':=[(0,rv (.pointer (some ⟨hf,0,none⟩))),(1,rI .i64 now)]) (H':=[.blk hf [rv (.map (some he))] 45,.map he (AJ Ah q.fTimers)]) rfl rfl ?_;unfold HE at h;refine As (Oz rfl (BW rfl) rfl (λb1=>?_));refine wv (r:=rv (.slice none 0 0)) (An rfl) (A2 (Ax (As (wm rfl ?_))));obtain⟨r2,e4,h3⟩:=AR h;refine Ej (Hr:=[.blk b1 [rI .i64 now] 3]) Mi (Gj hf he q r2 e4) rfl ((A1 (i:=1) rfl).trans (Qq _ ((A1 (i:=1) rfl).trans (Qq _ (Qj _))))) rfl ?_;rintro _ _ ⟨rfl,rfl⟩;refine wv (BX rfl) (A2 (A6 (b:=!r2.1) rfl (λc5=>?_) (λc5=>?_)))
 ·have h6:=AO c5 h3;refine As (wv (r:=rv (.slice none 0 0)) (An rfl) (A2 (A4 (Al (WK.nilrow (e:=33) (sz:=5) ?_)))));obtain rfl:=A8 h6;exact A3 (BF Tryd.results10 (AZ rfl)) (sC (sC (sC (sS sN)))) ⟨(.slice none 0 0                                 ),rfl,rfl⟩
 ·have h7:=AP c5 h3;refine AC (Bd (Ax (As (wm rfl (wv (B2 rfl) (wv (Af H3 rfl H4 rfl rfl) (wv (Az (i:=0) H5 rfl rfl rfl) (Db (rs:=[rv (.map (some he))]) (Hin:=[]) (Hr:=[.blk hf [rv (.map (some he))] 45,.map he (AJ Ah r2.2.fTimers),.blk b1 [rI .i64 now] 3]) Tryd.call29 rfl (Qj _) (Kv he) rfl ?_))))))));rintro _ _ ⟨b8,rfl,rfl⟩;obtain⟨g9,hq⟩:=AK h7;refine Db (rs:=[rv (.func (.func 41) #[] #[(.pointer (some ⟨b8,0,none⟩))])]) (Hin:=[.blk b8 [rv (.map (some he))] 43,.map he (AJ Ah r2.2.fTimers)]) (Hr:=[.blk hf [rv (.map (some he))] 45,.blk b1 [rI .i64 now] 3]) Tryd.call28 rfl ((A1 (i:=0) rfl).trans (Qq _ ((A1 (i:=1) rfl).trans (Qq _ (Qj _))))) (Je Ah r2.2.fTimers b8 he g9) rfl ?_;rintro _ _ ⟨hh,ha,rfl,hr,rfl⟩;have hs:=MS hq ha hr;refine wv (BT (ys:=ha) (enc:=eS) (i:=0) Tryd.underlying60 rfl rfl) (wv (r:=rI .i64 0) (Aj rfl) (A2 (AN ?_)));obtain⟨ht,hu,hw⟩:=AR hs;refine BL (S:=Nat×(Int×(List (Ai×Aa)))×(Unit)) (V:=((List (Ai×Aa)))×(Unit)) 0 (λσ=>Dq (λσ=>D4 now ha σ.1 σ.2) σ.1 σ.2.1=some ht) (λσ=>[(0,rv (.pointer (some ⟨hf,0,none⟩))),(3,rv (.pointer (some ⟨b1,0,none⟩))),(16,rv hh),(17,rI .i64 (ha.length:Int)),(18,rI .i64 σ.2.1.1)]) (λσ=>[.row hh 9 1 (List.map eS ha),.map he (AJ Ah σ.2.1.2),.blk hf [rv (.map (some he))] 45,.blk b1 [rI .i64 now] 3]) (λσ=>σ.1) (F,(0,r2.2.fTimers),()) hu (AM.c5 rfl rfl rfl rfl rfl AM.nil) (sC (sS (sC (sC (sC sN))))) (λσ=>Gk F now σ.1=some r) (λσ=>[(0,rv (.pointer (some ⟨hf,0,none⟩))),(3,rv (.pointer (some ⟨b1,0,none⟩)))]) (λσ=>[.map he (AJ Ah σ.1),.blk hf [rv (.map (some he))] 45,.blk b1 [rI .i64 now] 3]) ?_ ?_
  ·rintro⟨hI,⟨hd,hb⟩,⟨⟩⟩ hx;refine Bj (l':=[(0,rv (.pointer (some ⟨hf,0,none⟩))),(3,rv (.pointer (some ⟨b1,0,none⟩))),(16,rv hh),(17,rI .i64 (ha.length:Int)),(18,rI .i64 hd)]) (H':=[.row hh 9 1 (List.map eS ha),.map he (AJ Ah hb),.blk hf [rv (.map (some he))] 45,.blk b1 [rI .i64 now] 3]) rfl rfl ?_;obtain⟨hy,rfl,hz,hj,ho⟩:=Ee hx;replace hj:D4 now ha hd hb=some hz:=hj;unfold D4 at hj;refine As (wv (Dw rfl rfl) (A2 (Ax (A6 (b:=decide (hd<(ha.length:Int))) rfl (λhl=>?_) (λhl=>?_)))))
   ·have h0:=AO hl hj;refine AC (Bd (Ax (AN (As ?_))));obtain⟨hp,h1⟩:=AK h0;refine wv (r:=rv (CC 1 hh (Int.toNat hd) 0)) (Dx (i:=0) Tryd.underlying60 DA rfl rfl rfl (AY hp)) (wv (r:=rS (Ak ha hd)) (Dd (enc:=eS) (ys:=ha) (i:=0) (j:=hd) DR rfl rfl hp rfl) (wa rfl (CF (wm rfl (wv (B2 rfl) (wv (Af H3 rfl H4 rfl rfl) (wv (Az (i:=2) H5 rfl rfl rfl) (wm rfl (wv (r:=Bh [rS (((A7 hb (Ak ha hd) (Aa.mk (Ab.mk ([]:Ai) 0 ([]:Ai) ([]:Ai) ([]:(List Ad))) false)).fTimer).fID),rI .i64 (((A7 hb (Ak ha hd) (Aa.mk (Ab.mk ([]:Ai) 0 ([]:Ai) ([]:Ai) ([]:(List Ad))) false)).fTimer).fAt),rS (((A7 hb (Ak ha hd) (Aa.mk (Ab.mk ([]:Ai) 0 ([]:Ai) ([]:Ai) ([]:(List Ad))) false)).fTimer).fTenant),rS (((A7 hb (Ak ha hd) (Aa.mk (Ab.mk ([]:Ai) 0 ([]:Ai) ([]:Ai) ([]:(List Ad))) false)).fTimer).fSource),AV 4 (List.map Ae (((A7 hb (Ak ha hd) (Aa.mk (Ab.mk ([]:Ai) 0 ([]:Ai) ([]:Ai) ([]:(List Ad))) false)).fTimer).fBody)),rB ((A7 hb (Ak ha hd) (Aa.mk (Ab.mk ([]:Ai) 0 ([]:Ai) ([]:Ai) ([]:(List Ad))) false)).fTold)]) (MM (enc:=Ah) (xs:=hb) (z:=Aa.mk (Ab.mk ([]:Ai) 0 ([]:Ai) ([]:Ai) ([]:(List Ad))) false) (i:=1) Ik Hb Jn Cy rfl rfl rfl) (CH (cs:=[rS ([]:Ai),rI .i64 0,rS ([]:Ai),rS ([]:Ai),rv (.slice none 0 0),rB false]) Jn rfl rfl (λhi=>?_)))))))))));refine BA (i:=0) Mf rfl rfl rfl (B5.c rfl) rfl rfl (cs':=[rS (((A7 hb (Ak ha hd) (Aa.mk (Ab.mk ([]:Ai) 0 ([]:Ai) ([]:Ai) ([]:(List Ad))) false)).fTimer).fID),rI .i64 (((A7 hb (Ak ha hd) (Aa.mk (Ab.mk ([]:Ai) 0 ([]:Ai) ([]:Ai) ([]:(List Ad))) false)).fTimer).fAt),rS (((A7 hb (Ak ha hd) (Aa.mk (Ab.mk ([]:Ai) 0 ([]:Ai) ([]:Ai) ([]:(List Ad))) false)).fTimer).fTenant),rS (((A7 hb (Ak ha hd) (Aa.mk (Ab.mk ([]:Ai) 0 ([]:Ai) ([]:Ai) ([]:(List Ad))) false)).fTimer).fSource),AV 4 (List.map Ae (((A7 hb (Ak ha hd) (Aa.mk (Ab.mk ([]:Ai) 0 ([]:Ai) ([]:Ai) ([]:(List Ad))) false)).fTimer).fBody)),rB ((A7 hb (Ak ha hd) (Aa.mk (Ab.mk ([]:Ai) 0 ([]:Ai) ([]:Ai) ([]:(List Ad))) false)).fTold)]) rfl (H':=[.blk hi [rS (((A7 hb (Ak ha hd) (Aa.mk (Ab.mk ([]:Ai) 0 ([]:Ai) ([]:Ai) ([]:(List Ad))) false)).fTimer).fID),rI .i64 (((A7 hb (Ak ha hd) (Aa.mk (Ab.mk ([]:Ai) 0 ([]:Ai) ([]:Ai) ([]:(List Ad))) false)).fTimer).fAt),rS (((A7 hb (Ak ha hd) (Aa.mk (Ab.mk ([]:Ai) 0 ([]:Ai) ([]:Ai) ([]:(List Ad))) false)).fTimer).fTenant),rS (((A7 hb (Ak ha hd) (Aa.mk (Ab.mk ([]:Ai) 0 ([]:Ai) ([]:Ai) ([]:(List Ad))) false)).fTimer).fSource),AV 4 (List.map Ae (((A7 hb (Ak ha hd) (Aa.mk (Ab.mk ([]:Ai) 0 ([]:Ai) ([]:Ai) ([]:(List Ad))) false)).fTimer).fBody)),rB ((A7 hb (Ak ha hd) (Aa.mk (Ab.mk ([]:Ai) 0 ([]:Ai) ([]:Ai) ([]:(List Ad))) false)).fTold)] 53,.row hh 9 1 (List.map eS ha),.map he (AJ Ah hb),.blk hf [rv (.map (some he))] 45,.blk b1 [rI .i64 now] 3]) rfl (A2 (AI [(0,rv (.pointer (some ⟨hf,0,none⟩))),(3,rv (.pointer (some ⟨b1,0,none⟩))),(6,rS (Ak ha hd)),(7,rv (.pointer (some ⟨hi,0,none⟩))),(16,rv hh),(17,rI .i64 (ha.length:Int)),(18,rI .i64 hd)] [.blk hi [rS (((A7 hb (Ak ha hd) (Aa.mk (Ab.mk ([]:Ai) 0 ([]:Ai) ([]:Ai) ([]:(List Ad))) false)).fTimer).fID),rI .i64 (((A7 hb (Ak ha hd) (Aa.mk (Ab.mk ([]:Ai) 0 ([]:Ai) ([]:Ai) ([]:(List Ad))) false)).fTimer).fAt),rS (((A7 hb (Ak ha hd) (Aa.mk (Ab.mk ([]:Ai) 0 ([]:Ai) ([]:Ai) ([]:(List Ad))) false)).fTimer).fTenant),rS (((A7 hb (Ak ha hd) (Aa.mk (Ab.mk ([]:Ai) 0 ([]:Ai) ([]:Ai) ([]:(List Ad))) false)).fTimer).fSource),AV 4 (List.map Ae (((A7 hb (Ak ha hd) (Aa.mk (Ab.mk ([]:Ai) 0 ([]:Ai) ([]:Ai) ([]:(List Ad))) false)).fTimer).fBody)),rB (((A7 hb (Ak ha hd) (Aa.mk (Ab.mk ([]:Ai) 0 ([]:Ai) ([]:Ai) ([]:(List Ad))) false)).fTold)||(decide ((((A7 hb (Ak ha hd) (Aa.mk (Ab.mk ([]:Ai) 0 ([]:Ai) ([]:Ai) ([]:(List Ad))) false)).fTimer).fAt)≤now)))] 53,.row hh 9 1 (List.map eS ha),.map he (AJ Ah hb),.blk hf [rv (.map (some he))] 45,.blk b1 [rI .i64 now] 3] ?_ ?_))
    ·refine Av (wv (Af Ll rfl E3 rfl rfl) (wv (Az (i:=0) Mm rfl rfl rfl) (wm rfl (AG ((A7 hb (Ak ha hd) (Aa.mk (Ab.mk ([]:Ai) 0 ([]:Ai) ([]:Ai) ([]:(List Ad))) false)).fTold) (λhg=>?_) (λhg=>?_)))))
     ·refine wf hg (wf hg (wf hg (wf hg (wf hg (wv (r:=rB true) (Aq (b:=(A7 hb (Ak ha hd) (Aa.mk (Ab.mk ([]:Ai) 0 ([]:Ai) ([]:Ai) ([]:(List Ad))) false)).fTold) rfl hg rfl) (wv (Af Ll rfl E3 rfl rfl) (Cv (i:=0) E3 rfl rfl (BW rfl) rfl rfl (cs':=[rS (((A7 hb (Ak ha hd) (Aa.mk (Ab.mk ([]:Ai) 0 ([]:Ai) ([]:Ai) ([]:(List Ad))) false)).fTimer).fID),rI .i64 (((A7 hb (Ak ha hd) (Aa.mk (Ab.mk ([]:Ai) 0 ([]:Ai) ([]:Ai) ([]:(List Ad))) false)).fTimer).fAt),rS (((A7 hb (Ak ha hd) (Aa.mk (Ab.mk ([]:Ai) 0 ([]:Ai) ([]:Ai) ([]:(List Ad))) false)).fTimer).fTenant),rS (((A7 hb (Ak ha hd) (Aa.mk (Ab.mk ([]:Ai) 0 ([]:Ai) ([]:Ai) ([]:(List Ad))) false)).fTimer).fSource),AV 4 (List.map Ae (((A7 hb (Ak ha hd) (Aa.mk (Ab.mk ([]:Ai) 0 ([]:Ai) ([]:Ai) ([]:(List Ad))) false)).fTimer).fBody)),rB true]) rfl (H':=[.blk hi [rS (((A7 hb (Ak ha hd) (Aa.mk (Ab.mk ([]:Ai) 0 ([]:Ai) ([]:Ai) ([]:(List Ad))) false)).fTimer).fID),rI .i64 (((A7 hb (Ak ha hd) (Aa.mk (Ab.mk ([]:Ai) 0 ([]:Ai) ([]:Ai) ([]:(List Ad))) false)).fTimer).fAt),rS (((A7 hb (Ak ha hd) (Aa.mk (Ab.mk ([]:Ai) 0 ([]:Ai) ([]:Ai) ([]:(List Ad))) false)).fTimer).fTenant),rS (((A7 hb (Ak ha hd) (Aa.mk (Ab.mk ([]:Ai) 0 ([]:Ai) ([]:Ai) ([]:(List Ad))) false)).fTimer).fSource),AV 4 (List.map Ae (((A7 hb (Ak ha hd) (Aa.mk (Ab.mk ([]:Ai) 0 ([]:Ai) ([]:Ai) ([]:(List Ad))) false)).fTimer).fBody)),rB true] 53,.row hh 9 1 (List.map eS ha),.map he (AJ Ah hb),.blk hf [rv (.map (some he))] 45,.blk b1 [rI .i64 now] 3]) rfl (Au (DS (H':=[.blk hi [rS (((A7 hb (Ak ha hd) (Aa.mk (Ab.mk ([]:Ai) 0 ([]:Ai) ([]:Ai) ([]:(List Ad))) false)).fTimer).fID),rI .i64 (((A7 hb (Ak ha hd) (Aa.mk (Ab.mk ([]:Ai) 0 ([]:Ai) ([]:Ai) ([]:(List Ad))) false)).fTimer).fAt),rS (((A7 hb (Ak ha hd) (Aa.mk (Ab.mk ([]:Ai) 0 ([]:Ai) ([]:Ai) ([]:(List Ad))) false)).fTimer).fTenant),rS (((A7 hb (Ak ha hd) (Aa.mk (Ab.mk ([]:Ai) 0 ([]:Ai) ([]:Ai) ([]:(List Ad))) false)).fTimer).fSource),AV 4 (List.map Ae (((A7 hb (Ak ha hd) (Aa.mk (Ab.mk ([]:Ai) 0 ([]:Ai) ([]:Ai) ([]:(List Ad))) false)).fTimer).fBody)),rB (((A7 hb (Ak ha hd) (Aa.mk (Ab.mk ([]:Ai) 0 ([]:Ai) ([]:Ai) ([]:(List Ad))) false)).fTold)||(decide ((((A7 hb (Ak ha hd) (Aa.mk (Ab.mk ([]:Ai) 0 ([]:Ai) ([]:Ai) ([]:(List Ad))) false)).fTimer).fAt)≤now)))] 53,.row hh 9 1 (List.map eS ha),.map he (AJ Ah hb),.blk hf [rv (.map (some he))] 45,.blk b1 [rI .i64 now] 3]) (by simp only[hg,Q4,Q6,QD,Qz,Q9,Q7,QG,Q8,Qw,Q5,Qv,Qr]) ?_)))))))));exact wt
     ·refine wo hg (wv (Af Ll rfl Bp rfl rfl) (wo hg (wv (Af Bx rfl Cu rfl rfl) (wo hg (wv (Az (i:=0) CM rfl rfl rfl) (wo hg (wv (Az (i:=4) CM rfl rfl rfl) (wo hg (wv (EW rfl rfl) (He rfl hg rfl (wv (Af Ll rfl E3 rfl rfl) (Cv (i:=0) E3 rfl rfl (BW rfl) rfl rfl (cs':=[rS (((A7 hb (Ak ha hd) (Aa.mk (Ab.mk ([]:Ai) 0 ([]:Ai) ([]:Ai) ([]:(List Ad))) false)).fTimer).fID),rI .i64 (((A7 hb (Ak ha hd) (Aa.mk (Ab.mk ([]:Ai) 0 ([]:Ai) ([]:Ai) ([]:(List Ad))) false)).fTimer).fAt),rS (((A7 hb (Ak ha hd) (Aa.mk (Ab.mk ([]:Ai) 0 ([]:Ai) ([]:Ai) ([]:(List Ad))) false)).fTimer).fTenant),rS (((A7 hb (Ak ha hd) (Aa.mk (Ab.mk ([]:Ai) 0 ([]:Ai) ([]:Ai) ([]:(List Ad))) false)).fTimer).fSource),AV 4 (List.map Ae (((A7 hb (Ak ha hd) (Aa.mk (Ab.mk ([]:Ai) 0 ([]:Ai) ([]:Ai) ([]:(List Ad))) false)).fTimer).fBody)),rB (decide ((((A7 hb (Ak ha hd) (Aa.mk (Ab.mk ([]:Ai) 0 ([]:Ai) ([]:Ai) ([]:(List Ad))) false)).fTimer).fAt)≤now))]) rfl (H':=[.blk hi [rS (((A7 hb (Ak ha hd) (Aa.mk (Ab.mk ([]:Ai) 0 ([]:Ai) ([]:Ai) ([]:(List Ad))) false)).fTimer).fID),rI .i64 (((A7 hb (Ak ha hd) (Aa.mk (Ab.mk ([]:Ai) 0 ([]:Ai) ([]:Ai) ([]:(List Ad))) false)).fTimer).fAt),rS (((A7 hb (Ak ha hd) (Aa.mk (Ab.mk ([]:Ai) 0 ([]:Ai) ([]:Ai) ([]:(List Ad))) false)).fTimer).fTenant),rS (((A7 hb (Ak ha hd) (Aa.mk (Ab.mk ([]:Ai) 0 ([]:Ai) ([]:Ai) ([]:(List Ad))) false)).fTimer).fSource),AV 4 (List.map Ae (((A7 hb (Ak ha hd) (Aa.mk (Ab.mk ([]:Ai) 0 ([]:Ai) ([]:Ai) ([]:(List Ad))) false)).fTimer).fBody)),rB (decide ((((A7 hb (Ak ha hd) (Aa.mk (Ab.mk ([]:Ai) 0 ([]:Ai) ([]:Ai) ([]:(List Ad))) false)).fTimer).fAt)≤now))] 53,.row hh 9 1 (List.map eS ha),.map he (AJ Ah hb),.blk hf [rv (.map (some he))] 45,.blk b1 [rI .i64 now] 3]) rfl (Au (DS (H':=[.blk hi [rS (((A7 hb (Ak ha hd) (Aa.mk (Ab.mk ([]:Ai) 0 ([]:Ai) ([]:Ai) ([]:(List Ad))) false)).fTimer).fID),rI .i64 (((A7 hb (Ak ha hd) (Aa.mk (Ab.mk ([]:Ai) 0 ([]:Ai) ([]:Ai) ([]:(List Ad))) false)).fTimer).fAt),rS (((A7 hb (Ak ha hd) (Aa.mk (Ab.mk ([]:Ai) 0 ([]:Ai) ([]:Ai) ([]:(List Ad))) false)).fTimer).fTenant),rS (((A7 hb (Ak ha hd) (Aa.mk (Ab.mk ([]:Ai) 0 ([]:Ai) ([]:Ai) ([]:(List Ad))) false)).fTimer).fSource),AV 4 (List.map Ae (((A7 hb (Ak ha hd) (Aa.mk (Ab.mk ([]:Ai) 0 ([]:Ai) ([]:Ai) ([]:(List Ad))) false)).fTimer).fBody)),rB (((A7 hb (Ak ha hd) (Aa.mk (Ab.mk ([]:Ai) 0 ([]:Ai) ([]:Ai) ([]:(List Ad))) false)).fTold)||(decide ((((A7 hb (Ak ha hd) (Aa.mk (Ab.mk ([]:Ai) 0 ([]:Ai) ([]:Ai) ([]:(List Ad))) false)).fTimer).fAt)≤now)))] 53,.row hh 9 1 (List.map eS ha),.map he (AJ Ah hb),.blk hf [rv (.map (some he))] 45,.blk b1 [rI .i64 now] 3]) (by simp only[hg,Q4,Q6,QD,Qz,Q9,Q7,QG,Q8,Qw,Q5,Qv,Qr]) ?_))))))))))))));exact wt
    refine Hj 6 [0,3,6,7,16,17,18] [⟨[],rv (.pointer (some ⟨hf,0,none⟩)),none,none,none⟩,⟨[0],rv (.pointer (some ⟨hf,0,none⟩)),none,none,none⟩,⟨[1],rv (.pointer (some ⟨hf,0,none⟩)),none,none,none⟩,⟨[2],rv (.map (some he)),none,none,none⟩,⟨[],rS (Ak ha hd),none,none,none⟩,⟨[],Bh [rS (((A7 hb (Ak ha hd) (Aa.mk (Ab.mk ([]:Ai) 0 ([]:Ai) ([]:Ai) ([]:(List Ad))) false)).fTimer).fID),rI .i64 (((A7 hb (Ak ha hd) (Aa.mk (Ab.mk ([]:Ai) 0 ([]:Ai) ([]:Ai) ([]:(List Ad))) false)).fTimer).fAt),rS (((A7 hb (Ak ha hd) (Aa.mk (Ab.mk ([]:Ai) 0 ([]:Ai) ([]:Ai) ([]:(List Ad))) false)).fTimer).fTenant),rS (((A7 hb (Ak ha hd) (Aa.mk (Ab.mk ([]:Ai) 0 ([]:Ai) ([]:Ai) ([]:(List Ad))) false)).fTimer).fSource),AV 4 (List.map Ae (((A7 hb (Ak ha hd) (Aa.mk (Ab.mk ([]:Ai) 0 ([]:Ai) ([]:Ai) ([]:(List Ad))) false)).fTimer).fBody)),rB (((A7 hb (Ak ha hd) (Aa.mk (Ab.mk ([]:Ai) 0 ([]:Ai) ([]:Ai) ([]:(List Ad))) false)).fTold)||(decide ((((A7 hb (Ak ha hd) (Aa.mk (Ab.mk ([]:Ai) 0 ([]:Ai) ([]:Ai) ([]:(List Ad))) false)).fTimer).fAt)≤now)))],none,none,none⟩] ?_ (λβ=>?_)
    ·refine Hu (Aj rfl) (Hu (B2 rfl) (Hu (Af H3 rfl H4 rfl rfl) (O0 (Az (i:=3) H5 rfl rfl rfl) (Hu (Aj rfl) (O0 (Bo (i:=0) Tryd.isAgg53 Mf rfl rfl rfl rfl) ?_)))));exact PC
    refine IM (H1:=[.blk hi [rS (((A7 hb (Ak ha hd) (Aa.mk (Ab.mk ([]:Ai) 0 ([]:Ai) ([]:Ai) ([]:(List Ad))) false)).fTimer).fID),rI .i64 (((A7 hb (Ak ha hd) (Aa.mk (Ab.mk ([]:Ai) 0 ([]:Ai) ([]:Ai) ([]:(List Ad))) false)).fTimer).fAt),rS (((A7 hb (Ak ha hd) (Aa.mk (Ab.mk ([]:Ai) 0 ([]:Ai) ([]:Ai) ([]:(List Ad))) false)).fTimer).fTenant),rS (((A7 hb (Ak ha hd) (Aa.mk (Ab.mk ([]:Ai) 0 ([]:Ai) ([]:Ai) ([]:(List Ad))) false)).fTimer).fSource),AV 4 (List.map Ae (((A7 hb (Ak ha hd) (Aa.mk (Ab.mk ([]:Ai) 0 ([]:Ai) ([]:Ai) ([]:(List Ad))) false)).fTimer).fBody)),rB (((A7 hb (Ak ha hd) (Aa.mk (Ab.mk ([]:Ai) 0 ([]:Ai) ([]:Ai) ([]:(List Ad))) false)).fTold)||(decide ((((A7 hb (Ak ha hd) (Aa.mk (Ab.mk ([]:Ai) 0 ([]:Ai) ([]:Ai) ([]:(List Ad))) false)).fTimer).fAt)≤now)))] 53,.row hh 9 1 (List.map eS ha),.map he (AJ Ah hb),.blk hf [rv (.map (some he))] 45,.blk b1 [rI .i64 now] 3]) [38,39,40,41,42,43,0,3,6,7,16,17,18] ?_;refine KE (enc:=Ah) (xs:=hb) (v:=(Aa.mk ((A7 hb (Ak ha hd) (Aa.mk (Ab.mk ([]:Ai) 0 ([]:Ai) ([]:Ai) ([]:(List Ad))) false)).fTimer) (((A7 hb (Ak ha hd) (Aa.mk (Ab.mk ([]:Ai) 0 ([]:Ai) ([]:Ai) ([]:(List Ad))) false)).fTold)||(decide ((((A7 hb (Ak ha hd) (Aa.mk (Ab.mk ([]:Ai) 0 ([]:Ai) ([]:Ai) ([]:(List Ad))) false)).fTimer).fAt)≤now))))) (i:=2) Ik Hb rfl rfl rfl rfl (H':=[.blk hi [rS (((A7 hb (Ak ha hd) (Aa.mk (Ab.mk ([]:Ai) 0 ([]:Ai) ([]:Ai) ([]:(List Ad))) false)).fTimer).fID),rI .i64 (((A7 hb (Ak ha hd) (Aa.mk (Ab.mk ([]:Ai) 0 ([]:Ai) ([]:Ai) ([]:(List Ad))) false)).fTimer).fAt),rS (((A7 hb (Ak ha hd) (Aa.mk (Ab.mk ([]:Ai) 0 ([]:Ai) ([]:Ai) ([]:(List Ad))) false)).fTimer).fTenant),rS (((A7 hb (Ak ha hd) (Aa.mk (Ab.mk ([]:Ai) 0 ([]:Ai) ([]:Ai) ([]:(List Ad))) false)).fTimer).fSource),AV 4 (List.map Ae (((A7 hb (Ak ha hd) (Aa.mk (Ab.mk ([]:Ai) 0 ([]:Ai) ([]:Ai) ([]:(List Ad))) false)).fTimer).fBody)),rB (((A7 hb (Ak ha hd) (Aa.mk (Ab.mk ([]:Ai) 0 ([]:Ai) ([]:Ai) ([]:(List Ad))) false)).fTold)||(decide ((((A7 hb (Ak ha hd) (Aa.mk (Ab.mk ([]:Ai) 0 ([]:Ai) ([]:Ai) ([]:(List Ad))) false)).fTimer).fAt)≤now)))] 53,.row hh 9 1 (List.map eS ha),.map he (AJ Ah (mset hb (Ak ha hd) (Aa.mk ((A7 hb (Ak ha hd) (Aa.mk (Ab.mk ([]:Ai) 0 ([]:Ai) ([]:Ai) ([]:(List Ad))) false)).fTimer) (((A7 hb (Ak ha hd) (Aa.mk (Ab.mk ([]:Ai) 0 ([]:Ai) ([]:Ai) ([]:(List Ad))) false)).fTold)||(decide ((((A7 hb (Ak ha hd) (Aa.mk (Ab.mk ([]:Ai) 0 ([]:Ai) ([]:Ai) ([]:(List Ad))) false)).fTimer).fAt)≤now)))))),.blk hf [rv (.map (some he))] 45,.blk b1 [rI .i64 now] 3]) rfl (Au (AT (Bd (Av ?_))));obtain⟨h2,h4⟩:=AK h1;refine wv (Cc rfl rfl h2) (wm rfl (Au ?_));have h5:=BN h4 ho;exact A0 (AQ (hy,(hd+1,mset hb (Ak ha hd) (Aa.mk ((A7 hb (Ak ha hd) (Aa.mk (Ab.mk ([]:Ai) 0 ([]:Ai) ([]:Ai) ([]:(List Ad))) false)).fTimer) (((A7 hb (Ak ha hd) (Aa.mk (Ab.mk ([]:Ai) 0 ([]:Ai) ([]:Ai) ([]:(List Ad))) false)).fTold)||(decide ((((A7 hb (Ak ha hd) (Aa.mk (Ab.mk ([]:Ai) 0 ([]:Ai) ([]:Ai) ([]:(List Ad))) false)).fTimer).fAt)≤now))))),()) ⟨h5,QA _⟩ (AM.c5 rfl rfl rfl rfl rfl AM.nil) (sS (sC (sC (sC (sC sN))))))
   ·have h8:=AP hl hj;refine B6 (AA ?_);have h9:=Dc h8 ho hw;exact AA (By (AQ (hb,()) h9 (AM.c rfl (AM.c rfl AM.nil)) (sS (sC (sC (sC sN))))))
  ·rintro⟨hm,⟨⟩⟩ hk;refine DD (l':=[(0,rv (.pointer (some ⟨hf,0,none⟩))),(3,rv (.pointer (some ⟨b1,0,none⟩)))]) (H':=[.map he (AJ Ah hm),.blk hf [rv (.map (some he))] 45,.blk b1 [rI .i64 now] 3]) rfl rfl ?_;replace hk:Gk F now hm=some r:=hk;unfold Gk at hk;refine Bq (Bd (As (wm rfl ?_)));obtain⟨hn,hA,hB⟩:=AR hk;refine Ej (Hr:=[.blk b1 [rI .i64 now] 3]) Tryd.call9 (IP hf he (Ar.mk hm) hn hA) rfl ((A1 (i:=1) rfl).trans (Qq _ (Qj _))) rfl ?_;rintro _ _ ⟨hC,rfl,rfl⟩;refine wv (r:=rv (.func (.func 31) #[] #[(.pointer (some ⟨b1,0,none⟩))])) (Kt rfl) ?_;obtain⟨hD,hE,hG⟩:=AR hB;refine Ej (Hr:=[.blk hf [rv (.map (some he))] 45,.map he (AJ Ah hn.2.fTimers)]) Tryd.call30 (Jd F hC b1 hn.1 now hD hE) rfl ((A1 (i:=0) rfl).trans (Qq _ ((A1 (i:=2) rfl).trans (Qq _ (Qj _))))) rfl ?_;rintro _ _ ⟨hH,rfl,rfl⟩;refine wa rfl (A2 (A4 ?_));obtain rfl:=A8 hG;exact A3 (BF Tryd.results10 (AZ rfl)) (sC (sS (sC (sC sN)))) ⟨hH,rfl,rfl⟩
theorem HB (F:Nat)(ha:Nat)(hb:Nat)(q:Ar)(t:Ab)(now:Int)(r:Int×Ar)(h:IO F q t now=some r):Fn Tryd.prog GE 15 [rv (.pointer (some ⟨ha,0,none⟩)),Bh (Ac t),rI .i64 now] [.blk ha [rv (.map (some hb))] 45,.map hb (AJ Ah q.fTimers)] (λR H=>R=rI .i64 r.1∧H=[.blk ha [rv (.map (some hb))] 45,.map hb (AJ Ah r.2.fTimers)]):=by
 refine enter (n:=56) Tryd.func15 rfl Tryd.ntmps15 rfl (λw Z=>?_);refine Bj (l':=[(0,rv (.pointer (some ⟨ha,0,none⟩))),(1,Bh (Ac t)),(2,rI .i64 now)]) (H':=[.blk ha [rv (.map (some hb))] 45,.map hb (AJ Ah q.fTimers)]) rfl rfl ?_;unfold IO at h;refine As (BM rfl rfl (λb1=>?_));refine wv (r:=rI .i64 0) (An rfl) (A2 (Ax (As (wm rfl ?_))));obtain⟨r2,e4,h3⟩:=AR h;refine Ej (Hr:=[.blk b1 (Ac t) 33]) Mi (Gj ha hb q r2 e4) rfl ((A1 (i:=1) rfl).trans (Qq _ ((A1 (i:=1) rfl).trans (Qq _ (Qj _))))) rfl ?_;rintro _ _ ⟨rfl,rfl⟩;refine wv (BX rfl) (A2 (A6 (b:=!r2.1) rfl (λc5=>?_) (λc5=>?_)))
 ·have h6:=AO c5 h3;refine As (wv (r:=rI .i64 10) (An rfl) (A2 (A4 (Al ?_))));obtain rfl:=A8 h6;exact A3 (BF Lm (AZ rfl)) (sC (sC (sS sN))) ⟨rfl,rfl⟩
 ·have h7:=AP c5 h3;refine AC (Bd (Ax (As (wv (Bo (i:=2) Gd Bp rfl rfl rfl rfl) ?_))));obtain⟨r8,ho,h9⟩:=AR h7;refine Ig Tryd.call33 (Mz F t r8 ho) rfl (wa rfl (CF (wm rfl (wv (D7 rfl rfl) (A2 (A6 (b:=!decide (r8=0)) rfl (λhf=>?_) (λhf=>?_)))))))
  ·have hp:=AO hf h9;refine As (wm rfl (wa rfl (A2 (A4 (Al ?_)))));obtain rfl:=A8 hp;exact A3 (BF Lm (AZ rfl)) (sC (sC (sS sN))) ⟨rfl,rfl⟩
  ·have hq:=AP hf h9;refine AC (Bd (Ax (Hj 12 [0,2,4] [⟨[],rv (.pointer (some ⟨ha,0,none⟩)),none,none,none⟩,⟨[0],rv (.pointer (some ⟨ha,0,none⟩)),none,none,none⟩,⟨[1],rv (.pointer (some ⟨ha,0,none⟩)),none,none,none⟩,⟨[2],rv (.map (some hb)),none,none,none⟩,⟨[],rv (.pointer (some ⟨b1,0,none⟩)),none,none,none⟩,⟨[4],rS t.fID,none,none,none⟩,⟨[3,5],EV [Bh [rS (((A7 r2.2.fTimers t.fID (Aa.mk (Ab.mk ([]:Ai) 0 ([]:Ai) ([]:Ai) ([]:(List Ad))) false)).fTimer).fID),rI .i64 (((A7 r2.2.fTimers t.fID (Aa.mk (Ab.mk ([]:Ai) 0 ([]:Ai) ([]:Ai) ([]:(List Ad))) false)).fTimer).fAt),rS (((A7 r2.2.fTimers t.fID (Aa.mk (Ab.mk ([]:Ai) 0 ([]:Ai) ([]:Ai) ([]:(List Ad))) false)).fTimer).fTenant),rS (((A7 r2.2.fTimers t.fID (Aa.mk (Ab.mk ([]:Ai) 0 ([]:Ai) ([]:Ai) ([]:(List Ad))) false)).fTimer).fSource),AV 4 (List.map Ae (((A7 r2.2.fTimers t.fID (Aa.mk (Ab.mk ([]:Ai) 0 ([]:Ai) ([]:Ai) ([]:(List Ad))) false)).fTimer).fBody)),rB ((A7 r2.2.fTimers t.fID (Aa.mk (Ab.mk ([]:Ai) 0 ([]:Ai) ([]:Ai) ([]:(List Ad))) false)).fTold)],rB (CJ r2.2.fTimers t.fID)],none,none,none⟩,⟨[6],EV [Bh [rS (((A7 r2.2.fTimers t.fID (Aa.mk (Ab.mk ([]:Ai) 0 ([]:Ai) ([]:Ai) ([]:(List Ad))) false)).fTimer).fID),rI .i64 (((A7 r2.2.fTimers t.fID (Aa.mk (Ab.mk ([]:Ai) 0 ([]:Ai) ([]:Ai) ([]:(List Ad))) false)).fTimer).fAt),rS (((A7 r2.2.fTimers t.fID (Aa.mk (Ab.mk ([]:Ai) 0 ([]:Ai) ([]:Ai) ([]:(List Ad))) false)).fTimer).fTenant),rS (((A7 r2.2.fTimers t.fID (Aa.mk (Ab.mk ([]:Ai) 0 ([]:Ai) ([]:Ai) ([]:(List Ad))) false)).fTimer).fSource),AV 4 (List.map Ae (((A7 r2.2.fTimers t.fID (Aa.mk (Ab.mk ([]:Ai) 0 ([]:Ai) ([]:Ai) ([]:(List Ad))) false)).fTimer).fBody)),rB ((A7 r2.2.fTimers t.fID (Aa.mk (Ab.mk ([]:Ai) 0 ([]:Ai) ([]:Ai) ([]:(List Ad))) false)).fTold)],rB (CJ r2.2.fTimers t.fID)],none,none,none⟩,⟨[7],Bh [rS (((A7 r2.2.fTimers t.fID (Aa.mk (Ab.mk ([]:Ai) 0 ([]:Ai) ([]:Ai) ([]:(List Ad))) false)).fTimer).fID),rI .i64 (((A7 r2.2.fTimers t.fID (Aa.mk (Ab.mk ([]:Ai) 0 ([]:Ai) ([]:Ai) ([]:(List Ad))) false)).fTimer).fAt),rS (((A7 r2.2.fTimers t.fID (Aa.mk (Ab.mk ([]:Ai) 0 ([]:Ai) ([]:Ai) ([]:(List Ad))) false)).fTimer).fTenant),rS (((A7 r2.2.fTimers t.fID (Aa.mk (Ab.mk ([]:Ai) 0 ([]:Ai) ([]:Ai) ([]:(List Ad))) false)).fTimer).fSource),AV 4 (List.map Ae (((A7 r2.2.fTimers t.fID (Aa.mk (Ab.mk ([]:Ai) 0 ([]:Ai) ([]:Ai) ([]:(List Ad))) false)).fTimer).fBody)),rB ((A7 r2.2.fTimers t.fID (Aa.mk (Ab.mk ([]:Ai) 0 ([]:Ai) ([]:Ai) ([]:(List Ad))) false)).fTold)],none,none,none⟩,⟨[7],rB (CJ r2.2.fTimers t.fID),none,none,none⟩,⟨[],rv undef,some ([rS ([]:Ai),rI .i64 0,rS ([]:Ai),rS ([]:Ai),rv (.slice none 0 0),rB false],53),some (11,[rS (((A7 r2.2.fTimers t.fID (Aa.mk (Ab.mk ([]:Ai) 0 ([]:Ai) ([]:Ai) ([]:(List Ad))) false)).fTimer).fID),rI .i64 (((A7 r2.2.fTimers t.fID (Aa.mk (Ab.mk ([]:Ai) 0 ([]:Ai) ([]:Ai) ([]:(List Ad))) false)).fTimer).fAt),rS (((A7 r2.2.fTimers t.fID (Aa.mk (Ab.mk ([]:Ai) 0 ([]:Ai) ([]:Ai) ([]:(List Ad))) false)).fTimer).fTenant),rS (((A7 r2.2.fTimers t.fID (Aa.mk (Ab.mk ([]:Ai) 0 ([]:Ai) ([]:Ai) ([]:(List Ad))) false)).fTimer).fSource),AV 4 (List.map Ae (((A7 r2.2.fTimers t.fID (Aa.mk (Ab.mk ([]:Ai) 0 ([]:Ai) ([]:Ai) ([]:(List Ad))) false)).fTimer).fBody)),rB ((A7 r2.2.fTimers t.fID (Aa.mk (Ab.mk ([]:Ai) 0 ([]:Ai) ([]:Ai) ([]:(List Ad))) false)).fTold)]),none⟩,⟨[8],rv undef,none,none,some 10⟩] ?_ (λβ=>?_))))
   ·refine Hu (Aj rfl) (Hu (B2 rfl) (Hu (Af H3 rfl H4 rfl rfl) (O0 (Az (i:=0) H5 rfl rfl rfl) (Hu (Af Bx rfl DA rfl rfl) (O0 (Az (i:=2) DR rfl rfl rfl) (O0 (KP (enc:=Ah) (xs:=r2.2.fTimers) (z:=Aa.mk (Ab.mk ([]:Ai) 0 ([]:Ai) ([]:Ai) ([]:(List Ad))) false) (i:=1) Ik Hb Jn Cy rfl rfl rfl) (Hu (Aj rfl) (Hu (Bm rfl rfl) (Hu (Bm rfl rfl) (Qb (P6 (cs:=[rS ([]:Ai),rI .i64 0,rS ([]:Ai),rS ([]:Ai),rv (.slice none 0 0),rB false]) Jn rfl) (Qa (fun {hk hh}=>J8 (BU (i:=0) Mf rfl rfl rfl (B5.c rfl) rfl rfl (cs':=[rS (((A7 r2.2.fTimers t.fID (Aa.mk (Ab.mk ([]:Ai) 0 ([]:Ai) ([]:Ai) ([]:(List Ad))) false)).fTimer).fID),rI .i64 (((A7 r2.2.fTimers t.fID (Aa.mk (Ab.mk ([]:Ai) 0 ([]:Ai) ([]:Ai) ([]:(List Ad))) false)).fTimer).fAt),rS (((A7 r2.2.fTimers t.fID (Aa.mk (Ab.mk ([]:Ai) 0 ([]:Ai) ([]:Ai) ([]:(List Ad))) false)).fTimer).fTenant),rS (((A7 r2.2.fTimers t.fID (Aa.mk (Ab.mk ([]:Ai) 0 ([]:Ai) ([]:Ai) ([]:(List Ad))) false)).fTimer).fSource),AV 4 (List.map Ae (((A7 r2.2.fTimers t.fID (Aa.mk (Ab.mk ([]:Ai) 0 ([]:Ai) ([]:Ai) ([]:(List Ad))) false)).fTimer).fBody)),rB ((A7 r2.2.fTimers t.fID (Aa.mk (Ab.mk ([]:Ai) 0 ([]:Ai) ([]:Ai) ([]:(List Ad))) false)).fTold)]) rfl (H':=.blk hk [rS (((A7 r2.2.fTimers t.fID (Aa.mk (Ab.mk ([]:Ai) 0 ([]:Ai) ([]:Ai) ([]:(List Ad))) false)).fTimer).fID),rI .i64 (((A7 r2.2.fTimers t.fID (Aa.mk (Ab.mk ([]:Ai) 0 ([]:Ai) ([]:Ai) ([]:(List Ad))) false)).fTimer).fAt),rS (((A7 r2.2.fTimers t.fID (Aa.mk (Ab.mk ([]:Ai) 0 ([]:Ai) ([]:Ai) ([]:(List Ad))) false)).fTimer).fTenant),rS (((A7 r2.2.fTimers t.fID (Aa.mk (Ab.mk ([]:Ai) 0 ([]:Ai) ([]:Ai) ([]:(List Ad))) false)).fTimer).fSource),AV 4 (List.map Ae (((A7 r2.2.fTimers t.fID (Aa.mk (Ab.mk ([]:Ai) 0 ([]:Ai) ([]:Ai) ([]:(List Ad))) false)).fTimer).fBody)),rB ((A7 r2.2.fTimers t.fID (Aa.mk (Ab.mk ([]:Ai) 0 ([]:Ai) ([]:Ai) ([]:(List Ad))) false)).fTold)] 53::hh) rfl)) ?_)))))))))));exact PC
   refine IM (H1:=[.blk ha [rv (.map (some hb))] 45,.map hb (AJ Ah r2.2.fTimers),.blk b1 (Ac t) 33,.blk (β 10) [rS (((A7 r2.2.fTimers t.fID (Aa.mk (Ab.mk ([]:Ai) 0 ([]:Ai) ([]:Ai) ([]:(List Ad))) false)).fTimer).fID),rI .i64 (((A7 r2.2.fTimers t.fID (Aa.mk (Ab.mk ([]:Ai) 0 ([]:Ai) ([]:Ai) ([]:(List Ad))) false)).fTimer).fAt),rS (((A7 r2.2.fTimers t.fID (Aa.mk (Ab.mk ([]:Ai) 0 ([]:Ai) ([]:Ai) ([]:(List Ad))) false)).fTimer).fTenant),rS (((A7 r2.2.fTimers t.fID (Aa.mk (Ab.mk ([]:Ai) 0 ([]:Ai) ([]:Ai) ([]:(List Ad))) false)).fTimer).fSource),AV 4 (List.map Ae (((A7 r2.2.fTimers t.fID (Aa.mk (Ab.mk ([]:Ai) 0 ([]:Ai) ([]:Ai) ([]:(List Ad))) false)).fTimer).fBody)),rB ((A7 r2.2.fTimers t.fID (Aa.mk (Ab.mk ([]:Ai) 0 ([]:Ai) ([]:Ai) ([]:(List Ad))) false)).fTold)] 53]) [19,20,21,22,23,24,25,18,26,27,8,0,2,4] ?_;generalize β 10=hk;refine wa rfl (A2 (Ax (AN ?_)));obtain⟨hr,hl⟩:=AK hq;refine AI [(0,rv (.pointer (some ⟨ha,0,none⟩))),(4,rv (.pointer (some ⟨b1,0,none⟩))),(9,rB (CJ r2.2.fTimers t.fID)),(28,rB ((!(ov (Ec now)))||(decide (t.fAt<now))))] [.blk ha [rv (.map (some hb))] 45,.map hb (AJ Ah r2.2.fTimers),.blk b1 (Ac t) 33] ?_ ?_
   ·refine Av (wm rfl (Ig Tryd.call34 (KG now (ov (Ec now)) (Iq hr)) rfl (wv (BX rfl) (wm rfl (AG (!(ov (Ec now))) (λhd=>?_) (λhd=>?_))))))
    ·refine wf hd (wf hd (wf hd (wf hd (wv (r:=rB true) (Aq (b:=!(ov (Ec now))) rfl hd rfl) (wa rfl (Au ?_))))));exact CD hd
    ·refine wo hd (wv (Af Bx rfl Cu rfl rfl) (wo hd (wv (Az (i:=2) CM rfl rfl rfl) (wo hd (wm rfl (wo hd (wv (Dw rfl rfl) (He rfl hd rfl (wa rfl (Au ?_))))))))));exact CD hd
   refine A6 (b:=((!(ov (Ec now)))||(decide (t.fAt<now)))) rfl (λhg=>?_) (λhg=>?_)
   ·have hs:=AO hg hl;refine As (wv (r:=rI .i64 2) (An rfl) (A2 (A4 (A9 (Al ?_)))));obtain rfl:=A8 hs;exact A3 (BF Lm (AZ rfl)) (sC (sC (sS sN))) ⟨rfl,rfl⟩
   ·have hm:=AP hg hl;refine As (wm rfl (wa rfl (A2 (A6 (b:=CJ r2.2.fTimers t.fID) rfl (λhi=>?_) (λhi=>?_)))))
    ·have ht:=AO hi hm;refine As (wv (r:=rI .i64 6) (An rfl) (A2 (A4 (A9 (Al ?_)))));obtain rfl:=A8 ht;exact A3 (BF Lm (AZ rfl)) (sC (sC (sS sN))) ⟨rfl,rfl⟩
    ·have hn:=AP hi hm;refine As (wm rfl (wv (B2 rfl) (wv (Af H3 rfl H4 rfl rfl) (wv (Az (i:=0) H5 rfl rfl rfl) (wv (r:=rI .i64 (r2.2.fTimers.length:Int)) (OO (N:=r2.2.fTimers.length) (i:=1) Ik rfl rfl (Eu _ _)) (wv (HR rfl rfl) (wa rfl (A2 (A6 (b:=decide (256≤(r2.2.fTimers.length:Int))) rfl (λhj=>?_) (λhj=>?_))))))))))
     ·have hu:=AO hj hn;refine As (wv (r:=rI .i64 3) (An rfl) (A2 (A4 (A9 (Al ?_)))));obtain rfl:=A8 hu;exact A3 (BF Lm (AZ rfl)) (sC (sC (sS sN))) ⟨rfl,rfl⟩
     ·have hw:=AP hj hn;refine AC (AT (Bd (Ax ?_)));obtain⟨he,hx,hy⟩:=AR hw;refine Hj 9 [0,4] [⟨[],rv (.pointer (some ⟨ha,0,none⟩)),none,none,none⟩,⟨[0],rv (.pointer (some ⟨ha,0,none⟩)),none,none,none⟩,⟨[1],rv (.pointer (some ⟨ha,0,none⟩)),none,none,none⟩,⟨[2],rv (.map (some hb)),none,none,none⟩,⟨[],rv (.pointer (some ⟨b1,0,none⟩)),none,none,none⟩,⟨[4],rS t.fID,none,none,none⟩,⟨[],Bh (Ac t),none,none,none⟩,⟨[6],Bh (Ac he),none,none,none⟩,⟨[7],Bh [rS he.fID,rI .i64 he.fAt,rS he.fTenant,rS he.fSource,AV 4 (List.map Ae he.fBody),rB false],none,none,none⟩] ?_ (λβ=>?_)
      ·refine Hu (Aj rfl) (Hu (B2 rfl) (Hu (Af H3 rfl H4 rfl rfl) (O0 (Az (i:=0) H5 rfl rfl rfl) (Hu (Af Bx rfl DA rfl rfl) (O0 (Az (i:=2) DR rfl rfl rfl) (O0 (Bo (i:=2) Gd Bp rfl rfl rfl rfl) (Qc (Gu Tryd.call22 (Mu t he hx) rfl) (Hu (JB rfl) ?_))))))));exact PC
      refine IM (H1:=[.blk ha [rv (.map (some hb))] 45,.map hb (AJ Ah r2.2.fTimers),.blk b1 (Ac t) 33]) [47,48,49,50,51,52,53,54,55,0,4] ?_;refine KE (enc:=Ah) (xs:=r2.2.fTimers) (v:=(Aa.mk he false)) (i:=1) Ik Hb rfl rfl rfl rfl (H':=[.blk ha [rv (.map (some hb))] 45,.map hb (AJ Ah (mset r2.2.fTimers t.fID (Aa.mk he false))),.blk b1 (Ac t) 33]) rfl (CF (wv (r:=rI .i64 0) (An rfl) (A2 (A4 ?_))));obtain rfl:=A8 hy;exact A3 (BF Lm (AZ rfl)) (sC (sC (sS sN))) ⟨rfl,rfl⟩
theorem HH (hb:Nat)(ha:Nat)(q:Ar)(id:Ai)(r:Int×Ar)(h:HI q id=some r):Fn Tryd.prog GE 13 [rv (.pointer (some ⟨hb,0,none⟩)),rS id] [.blk hb [rv (.map (some ha))] 45,.map ha (AJ Ah q.fTimers)] (λR H=>R=rI .i64 r.1∧H=[.blk hb [rv (.map (some ha))] 45,.map ha (AJ Ah r.2.fTimers)]):=by
 refine enter (n:=26) Tryd.func13 rfl Tryd.ntmps13 rfl (λw Z=>?_);refine Bj (l':=[(0,rv (.pointer (some ⟨hb,0,none⟩))),(1,rS id)]) (H':=[.blk hb [rv (.map (some ha))] 45,.map ha (AJ Ah q.fTimers)]) rfl rfl ?_;unfold HI at h;refine As (wv (r:=rI .i64 0) (An rfl) (A2 (Ax (As (wm rfl ?_)))));obtain⟨r1,e3,h2⟩:=AR h;refine Ej (Hr:=[]) Mi (Gj hb ha q r1 e3) rfl (Qj _) rfl ?_;rintro _ _ ⟨rfl,rfl⟩;refine wv (BX rfl) (A2 (A6 (b:=!r1.1) rfl (λc4=>?_) (λc4=>?_)))
 ·have h5:=AO c4 h2;refine As (wv (r:=rI .i64 10) (An rfl) (A2 (A4 (Al ?_))));obtain rfl:=A8 h5;exact A3 (BF Tryd.results13 (AZ rfl)) (sC (sC sN)) ⟨rfl,rfl⟩
 ·have h6:=AP c4 h2;refine AC (Bd (Ax (As (wm rfl (wv (B2 rfl) (wv (Af H3 rfl H4 rfl rfl) (wv (Az (i:=0) H5 rfl rfl rfl) (wm rfl (wv (r:=EV [Bh [rS (((A7 r1.2.fTimers id (Aa.mk (Ab.mk ([]:Ai) 0 ([]:Ai) ([]:Ai) ([]:(List Ad))) false)).fTimer).fID),rI .i64 (((A7 r1.2.fTimers id (Aa.mk (Ab.mk ([]:Ai) 0 ([]:Ai) ([]:Ai) ([]:(List Ad))) false)).fTimer).fAt),rS (((A7 r1.2.fTimers id (Aa.mk (Ab.mk ([]:Ai) 0 ([]:Ai) ([]:Ai) ([]:(List Ad))) false)).fTimer).fTenant),rS (((A7 r1.2.fTimers id (Aa.mk (Ab.mk ([]:Ai) 0 ([]:Ai) ([]:Ai) ([]:(List Ad))) false)).fTimer).fSource),AV 4 (List.map Ae (((A7 r1.2.fTimers id (Aa.mk (Ab.mk ([]:Ai) 0 ([]:Ai) ([]:Ai) ([]:(List Ad))) false)).fTimer).fBody)),rB ((A7 r1.2.fTimers id (Aa.mk (Ab.mk ([]:Ai) 0 ([]:Ai) ([]:Ai) ([]:(List Ad))) false)).fTold)],rB (CJ r1.2.fTimers id)]) (KP (enc:=Ah) (xs:=r1.2.fTimers) (z:=Aa.mk (Ab.mk ([]:Ai) 0 ([]:Ai) ([]:Ai) ([]:(List Ad))) false) (i:=1) Ik Hb Jn Cy rfl rfl rfl) (wm rfl (wv (Bm rfl rfl) (wv (Bm rfl rfl) (CH (cs:=[rS ([]:Ai),rI .i64 0,rS ([]:Ai),rS ([]:Ai),rv (.slice none 0 0),rB false]) Jn rfl rfl (λb7=>?_))))))))))))));refine BA (i:=0) Mf rfl rfl rfl (B5.c rfl) rfl rfl (cs':=[rS (((A7 r1.2.fTimers id (Aa.mk (Ab.mk ([]:Ai) 0 ([]:Ai) ([]:Ai) ([]:(List Ad))) false)).fTimer).fID),rI .i64 (((A7 r1.2.fTimers id (Aa.mk (Ab.mk ([]:Ai) 0 ([]:Ai) ([]:Ai) ([]:(List Ad))) false)).fTimer).fAt),rS (((A7 r1.2.fTimers id (Aa.mk (Ab.mk ([]:Ai) 0 ([]:Ai) ([]:Ai) ([]:(List Ad))) false)).fTimer).fTenant),rS (((A7 r1.2.fTimers id (Aa.mk (Ab.mk ([]:Ai) 0 ([]:Ai) ([]:Ai) ([]:(List Ad))) false)).fTimer).fSource),AV 4 (List.map Ae (((A7 r1.2.fTimers id (Aa.mk (Ab.mk ([]:Ai) 0 ([]:Ai) ([]:Ai) ([]:(List Ad))) false)).fTimer).fBody)),rB ((A7 r1.2.fTimers id (Aa.mk (Ab.mk ([]:Ai) 0 ([]:Ai) ([]:Ai) ([]:(List Ad))) false)).fTold)]) rfl (H':=[.blk b7 [rS (((A7 r1.2.fTimers id (Aa.mk (Ab.mk ([]:Ai) 0 ([]:Ai) ([]:Ai) ([]:(List Ad))) false)).fTimer).fID),rI .i64 (((A7 r1.2.fTimers id (Aa.mk (Ab.mk ([]:Ai) 0 ([]:Ai) ([]:Ai) ([]:(List Ad))) false)).fTimer).fAt),rS (((A7 r1.2.fTimers id (Aa.mk (Ab.mk ([]:Ai) 0 ([]:Ai) ([]:Ai) ([]:(List Ad))) false)).fTimer).fTenant),rS (((A7 r1.2.fTimers id (Aa.mk (Ab.mk ([]:Ai) 0 ([]:Ai) ([]:Ai) ([]:(List Ad))) false)).fTimer).fSource),AV 4 (List.map Ae (((A7 r1.2.fTimers id (Aa.mk (Ab.mk ([]:Ai) 0 ([]:Ai) ([]:Ai) ([]:(List Ad))) false)).fTimer).fBody)),rB ((A7 r1.2.fTimers id (Aa.mk (Ab.mk ([]:Ai) 0 ([]:Ai) ([]:Ai) ([]:(List Ad))) false)).fTold)] 53,.blk hb [rv (.map (some ha))] 45,.map ha (AJ Ah r1.2.fTimers)]) rfl (wa rfl (CF (wm rfl (wv (BX rfl) (A2 (A6 (b:=!(CJ r1.2.fTimers id)) rfl (λc8=>?_) (λc8=>?_)))))))
  ·have h9:=AO c8 h6;refine As (wv (r:=rI .i64 5) (An rfl) (A2 (A4 (Al ?_))));obtain rfl:=A8 h9;exact A3 (BF Tryd.results13 (AZ rfl)) (sS (sC (sC sN))) ⟨rfl,rfl⟩
  ·have hd:=AP c8 h6;refine AC (Bd (As (wm rfl (wv (B2 rfl) (wv (Af H3 rfl H4 rfl rfl) (wv (Az (i:=1) H5 rfl rfl rfl) (wm rfl (N8 (enc:=Ah) (xs:=r1.2.fTimers) (i:=2) Ik Hb rfl rfl rfl (H':=[.blk b7 [rS (((A7 r1.2.fTimers id (Aa.mk (Ab.mk ([]:Ai) 0 ([]:Ai) ([]:Ai) ([]:(List Ad))) false)).fTimer).fID),rI .i64 (((A7 r1.2.fTimers id (Aa.mk (Ab.mk ([]:Ai) 0 ([]:Ai) ([]:Ai) ([]:(List Ad))) false)).fTimer).fAt),rS (((A7 r1.2.fTimers id (Aa.mk (Ab.mk ([]:Ai) 0 ([]:Ai) ([]:Ai) ([]:(List Ad))) false)).fTimer).fTenant),rS (((A7 r1.2.fTimers id (Aa.mk (Ab.mk ([]:Ai) 0 ([]:Ai) ([]:Ai) ([]:(List Ad))) false)).fTimer).fSource),AV 4 (List.map Ae (((A7 r1.2.fTimers id (Aa.mk (Ab.mk ([]:Ai) 0 ([]:Ai) ([]:Ai) ([]:(List Ad))) false)).fTimer).fBody)),rB ((A7 r1.2.fTimers id (Aa.mk (Ab.mk ([]:Ai) 0 ([]:Ai) ([]:Ai) ([]:(List Ad))) false)).fTold)] 53,.blk hb [rv (.map (some ha))] 45,.map ha (AJ Ah (mdel r1.2.fTimers id))]) rfl (CF (wv (r:=rI .i64 0) (An rfl) (A2 (A4 ?_))))))))))));obtain rfl:=A8 hd;exact A3 (BF Tryd.results13 (AZ rfl)) (sS (sC (sC sN))) ⟨rfl,rfl⟩
theorem GA (hd:Nat)(hb:Nat)(q:Ar)(id:Ai)(r:Int×Ar)(h:D5 q id=some r):Fn Tryd.prog GE 12 [rv (.pointer (some ⟨hd,0,none⟩)),rS id] [.blk hd [rv (.map (some hb))] 45,.map hb (AJ Ah q.fTimers)] (λR H=>R=rI .i64 r.1∧H=[.blk hd [rv (.map (some hb))] 45,.map hb (AJ Ah r.2.fTimers)]):=by
 refine enter (n:=19) Tryd.func12 rfl Tryd.ntmps12 rfl (λw Z=>?_);refine Bj (l':=[(0,rv (.pointer (some ⟨hd,0,none⟩))),(1,rS id)]) (H':=[.blk hd [rv (.map (some hb))] 45,.map hb (AJ Ah q.fTimers)]) rfl rfl ?_;unfold D5 at h;refine As (wv (r:=rI .i64 0) (An rfl) (A2 (Ax (CO (S:=(Bool×(List (Ai×Aa)))×(Unit)) (λσ=>CQ id σ.1.1 σ.1.2=some r) (λσ=>[(0,rv (.pointer (some ⟨hd,0,none⟩))),(1,rS id),(4,rI .i64 0),(15,rB σ.1.1)]) (λσ=>[.blk hd [rv (.map (some hb))] 45,.map hb (AJ Ah σ.1.2)]) ?_ ?_))))
 ·refine Av (wm rfl ?_);obtain⟨r9,hh,hg⟩:=AR h;refine Ej (Hr:=[]) Mi (Gj hd hb q r9 hh) rfl (Qj _) rfl ?_;rintro _ _ ⟨rfl,rfl⟩;refine wm rfl (AG (r9.1) (λha=>?_) (λha=>?_))
  ·have hi:=AO ha hg;exact wo ha (wm rfl (wo ha (wv (B2 rfl) (wo ha (wv (Af H3 rfl H4 rfl rfl) (wo ha (wv (Az (i:=0) H5 rfl rfl rfl) (wo ha (wm rfl (wo ha (wv (r:=Bh [rS (((A7 r9.2.fTimers id (Aa.mk (Ab.mk ([]:Ai) 0 ([]:Ai) ([]:Ai) ([]:(List Ad))) false)).fTimer).fID),rI .i64 (((A7 r9.2.fTimers id (Aa.mk (Ab.mk ([]:Ai) 0 ([]:Ai) ([]:Ai) ([]:(List Ad))) false)).fTimer).fAt),rS (((A7 r9.2.fTimers id (Aa.mk (Ab.mk ([]:Ai) 0 ([]:Ai) ([]:Ai) ([]:(List Ad))) false)).fTimer).fTenant),rS (((A7 r9.2.fTimers id (Aa.mk (Ab.mk ([]:Ai) 0 ([]:Ai) ([]:Ai) ([]:(List Ad))) false)).fTimer).fSource),AV 4 (List.map Ae (((A7 r9.2.fTimers id (Aa.mk (Ab.mk ([]:Ai) 0 ([]:Ai) ([]:Ai) ([]:(List Ad))) false)).fTimer).fBody)),rB ((A7 r9.2.fTimers id (Aa.mk (Ab.mk ([]:Ai) 0 ([]:Ai) ([]:Ai) ([]:(List Ad))) false)).fTold)]) (MM (enc:=Ah) (xs:=r9.2.fTimers) (z:=Aa.mk (Ab.mk ([]:Ai) 0 ([]:Ai) ([]:Ai) ([]:(List Ad))) false) (i:=1) Ik Hb Jn Cy rfl rfl rfl) (wo ha (wv (r:=rB ((A7 r9.2.fTimers id (Aa.mk (Ab.mk ([]:Ai) 0 ([]:Ai) ([]:Ai) ([]:(List Ad))) false)).fTold)) (NS Ll rfl Mm rfl rfl) (Iu rfl ha rfl (Au (A0 (AQ (((A7 r9.2.fTimers id (Aa.mk (Ab.mk ([]:Ai) 0 ([]:Ai) ([]:Ai) ([]:(List Ad))) false)).fTold,r9.2.fTimers),()) hi (AM.c rfl (AM.c rfl (AM.c rfl (AM.c rfl AM.nil)))) (sC (sC sN)))))))))))))))))))
  ·have hj:=AP ha hg;exact wf ha (wf ha (wf ha (wf ha (wf ha (wf ha (wf ha (wv (r:=rB false) (Ay (b:=r9.1) rfl ha rfl) (Au (A0 (AQ ((false,r9.2.fTimers),()) hj (AM.c rfl (AM.c rfl (AM.c rfl (AM.c rfl AM.nil)))) (sC (sC sN))))))))))))
 ·rintro⟨⟨x7,x8⟩,⟨⟩⟩ he;refine Bj (l':=[(0,rv (.pointer (some ⟨hd,0,none⟩))),(1,rS id),(4,rI .i64 0),(15,rB x7)]) (H':=[.blk hd [rv (.map (some hb))] 45,.map hb (AJ Ah x8)]) rfl rfl ?_;replace he:CQ id x7 x8=some r:=he;unfold CQ at he;refine A6 (b:=x7) rfl (λhf=>?_) (λhf=>?_)
  ·have hk:=AO hf he;refine As (wv (r:=rI .i64 10) (An rfl) (A2 (A4 (Al ?_))));obtain rfl:=A8 hk;exact A3 (BF Tryd.results12 (AZ rfl)) (sC (sC sN)) ⟨rfl,rfl⟩
  ·have hl:=AP hf he;refine AC (Bd (As (wm rfl (wm rfl ?_))));obtain⟨hm,hn,ho⟩:=AR hl;refine Ej (Hr:=[]) Mk (HH hd hb (Ar.mk x8) id hm hn) rfl (Qj _) rfl ?_;rintro _ _ ⟨rfl,rfl⟩;refine wa rfl (A2 (A4 ?_));obtain rfl:=A8 ho;exact A3 (BF Tryd.results12 (AZ rfl)) (sC (sC sN)) ⟨rfl,rfl⟩
theorem NA (hb:Nat)(ha:Nat)(q:Ar)(r:Int×Bool×Ar)(h:Mv q=some r):Fn Tryd.prog GE 19 [rv (.pointer (some ⟨hb,0,none⟩))] [.blk hb [rv (.map (some ha))] 45,.map ha (AJ Ah q.fTimers)] (λR H=>R=EV [rI .i64 r.1,rB r.2.1]∧H=[.blk hb [rv (.map (some ha))] 45,.map ha (AJ Ah r.2.2.fTimers)]):=by
 refine enter (n:=14) Tryd.func19 rfl Tryd.ntmps19 rfl (λw Z=>?_);refine Bj (l':=[(0,rv (.pointer (some ⟨hb,0,none⟩)))]) (H':=[.blk hb [rv (.map (some ha))] 45,.map ha (AJ Ah q.fTimers)]) rfl rfl ?_;unfold Mv at h;refine As (wv (r:=rI .i64 0) (An rfl) (wv (r:=rB false) (An rfl) (CF (wm rfl ?_))));obtain⟨r1,e3,h2⟩:=AR h;refine Ej (Hr:=[]) Tryd.call9 (IP hb ha q r1 e3) rfl (Qj _) rfl ?_;rintro _ _ ⟨v4,rfl,rfl⟩;refine wa rfl (A2 (Ax (As (wm rfl (wv (BT (ys:=r1.1) (enc:=Ac) (i:=0) Bs rfl rfl) (wv (B4 rfl rfl) (A2 (A6 (b:=decide ((r1.1.length:Int)=0)) rfl (λc5=>?_) (λc5=>?_)))))))))
 ·have h6:=AO c5 h2;refine As (wv (r:=rI .i64 0) (An rfl) (wv (r:=rB false) (An rfl) (A2 (A4 (Al ?_)))));obtain rfl:=A8 h6;exact A3 (PM Tryd.results19 (AZ rfl) (AZ rfl)) (sS (sC (sC sN))) ⟨rfl,rfl⟩
 ·have h7:=AP c5 h2;refine AC (Bd (As (wm rfl ?_)));obtain⟨g8,h9⟩:=AK h7;refine wv (r:=rv (CC 5 v4 (Int.toNat 0) 0)) (Dx (i:=0) Bs Bp rfl rfl rfl (AY g8)) (wv (r:=rv (CC 5 v4 (Int.toNat 0) 1)) (C2 (k:=0) Bx rfl Cu rfl (AY g8) rfl rfl rfl) (wv (r:=rI .i64 ((Ak r1.1 0).fAt)) (Dd (enc:=Ac) (ys:=r1.1) (i:=0) (j:=0) CM rfl rfl g8 rfl) (wa rfl (wv (r:=rB true) (An rfl) (A2 (A4 ?_))))));obtain rfl:=A8 h9;exact A3 (PM Tryd.results19 (AZ rfl) (AZ rfl)) (sS (sC (sC sN))) ⟨rfl,rfl⟩
end Go.Proofs.YtkoiaconljdbeaaDoor.Q
namespace Go.Proofs.YtkoiaconljdbeaaDoor
open Go
set_option linter.unusedVariables false
def Cl (a:Ab)(b:Ab)(ha:Int):Option (Stp (Int) (Out (Bool) (Unit))):=
 BJ (decide (ha<(a.fBody.length:Int))) (B9 (DB ha (a.fBody.length:Int))<|B9 (DB ha (b.fBody.length:Int))<|BJ (!(decide (((Ak a.fBody ha).fKind)=((Ak b.fBody ha).fKind))&&decide (((Ak a.fBody ha).fInt)=((Ak b.fBody ha).fInt))&&decide (((Ak a.fBody ha).fStr)=((Ak b.fBody ha).fStr))&&decide (((Ak a.fBody ha).fN)=((Ak b.fBody ha).fN)))) (some (.out (.ret false))) (B9 (Ci .i64 (ha+1))<|some (.next (ha+1)))) (some (.out (.go ())))
def E9 :Option (Bool):=
 some true
def HM (F:Nat)(a:Ab)(b:Ab):Option (Bool):=
 BJ (((!decide (a.fID=b.fID))||((!decide (a.fAt=b.fAt))||((!decide (a.fTenant=b.fTenant))||((!decide (a.fSource=b.fSource))||(!decide ((a.fBody.length:Int)=(b.fBody.length:Int)))))))) (some false) (BK (Dq (λσ=>Cl a b σ) F 0) (CE λν=>E9 ))
def Ck (F:Nat)(a:(List Ab))(b:(List Ab))(ha:Int):Option (Stp (Int) (Out (Bool) (Unit))):=
 BJ (decide (ha<(a.length:Int))) (B9 (DB ha (a.length:Int))<|B9 (DB ha (b.length:Int))<|BK (HM F (Ak a ha) (Ak b ha)) λhb=>BJ (!hb) (some (.out (.ret false))) (B9 (Ci .i64 (ha+1))<|some (.next (ha+1)))) (some (.out (.go ())))
def E8 :Option (Bool):=
 some true
def AW (F:Nat)(a:(List Ab))(b:(List Ab)):Option (Bool):=
 BJ (!decide ((a.length:Int)=(b.length:Int))) (some false) (BK (Dq (λσ=>Ck F a b σ) F 0) (CE λν=>E8 ))
def Cj (t:Ab)(ha:Int):Option (Stp (Int) (Out (Bool) (Unit))):=
 BJ (decide (ha<(t.fBody.length:Int))) (B9 (DB ha (t.fBody.length:Int))<|BJ (decide (5000<(((Ak t.fBody ha).fStr).length:Int))) (some (.out (.ret false))) (B9 (Ci .i64 (ha+1))<|some (.next (ha+1)))) (some (.out (.go ())))
def E7 :Option (Bool):=
 some true
def HL (F:Nat)(t:Ab):Option (Bool):=
 BJ (((decide (300<(t.fID.length:Int)))||((decide (300<(t.fTenant.length:Int)))||((decide (300<(t.fSource.length:Int)))||(decide (300<(t.fBody.length:Int))))))) (some false) (BK (Dq (λσ=>Cj t σ) F 0) (CE λν=>E7 ))
end Go.Proofs.YtkoiaconljdbeaaDoor
namespace Go.Proofs.YtkoiaconljdbeaaDoor.Q
open Go Go.RowKit
set_option linter.unusedVariables false
set_option linter.unusedSimpArgs false
set_option maxRecDepth 100000
set_option maxHeartbeats 4000000
theorem Nq {a0 b0:Int}{a1 b1:Int}{a2 b2:Ai}{a3 b3:Int}(w:World):(Op.equalIn 10000 70 (.agg #[.int .i64 a0,.int .i64 a1,.string (B a2),.int .i64 a3]) (.agg #[.int .i64 b0,.int .i64 b1,.string (B b2),.int .i64 b3])).run Tryd.prog w = .ok (decide (a0=b0)&&decide (a1=b1)&&decide (a2=b2)&&decide (a3=b3)) w:=by
  have hS:Tryd.prog.underlying 70=some (.struct (Tryd.prog.fieldsOf 70)):=by kernel_rfl
  have hp:Tryd.prog.stoodInHeld 70=false:=by kernel_rfl
  have u3:=PJ;have ia3:=CM;have so3:=Cu;have u9:=Hb;have ia9:=DR;have so9:=DA;have ha:=Tryd.underlying68;have hb:=IK;have hd:=IJ;rw[show(10000:Nat)=9999+1 from rfl,run_equalIn_agg w 9999 70 _ _ hS hp];simp only[Program.fieldsOf,BE]
  go_simp
  simp only[Ch]
  by_cases h0:a0=b0<;>by_cases h1:a1=b1<;>by_cases h2:a2=b2<;>by_cases h3:a3=b3<;>simp[h0,h1,h2,h3]
theorem JD {n:Nat}{c:Cx}{l:Fr}{H:List Ent}{d:Option Nat}{ty rty:TypeId}{pos:String}{af:Array Edge}{g:Option (Nat×Bool)}{x y:Operand}{a0 b0:Int}{a1 b1:Int}{a2 b2:Ai}{a3 b3:Int}(hx:ev l x=some (Bh [rI .i64 a0,rI .i64 a1,rS a2,rI .i64 a3]))(hy:ev l y=some (Bh [rI .i64 b0,rI .i64 b1,rS b2,rI .i64 b3])):AS Tryd.prog n c l H { dst:=d,op:=.binOp .neq 70 x y rty,type:=ty,pos:=pos,after:=af,guard:=g } (rB (!(decide (a0=b0)&&decide (a1=b1)&&decide (a2=b2)&&decide (a3=b3)))):=λa w Z ha hw=>by
  obtain⟨us,e1,q1⟩:=ha.ev hx;obtain⟨vs,e2,q2⟩:=ha.ev hy;have k1:=AB.eq_rv (us:=[.int .i64 a0,.int .i64 a1,.string (B a2),.int .i64 a3]) q1;have k2:=AB.eq_rv (us:=[.int .i64 b0,.int .i64 b1,.string (B b2),.int .i64 b3]) q2;subst k1;subst k2;have hm:Tryd.prog.eqGuardType Tryd.prog.depth 70=false:=by kernel_rfl
  have hb:=Nq (a0:=a0) (a1:=a1) (a2:=a2) (a3:=a3) (b0:=b0) (b1:=b1) (b2:=b2) (b3:=b3) w;refine⟨.bool (!(decide (a0=b0)&&decide (a1=b1)&&decide (a2=b2)&&decide (a3=b3))),rfl,?_⟩;have hg:=run_eqGuard_agg (P:=Tryd.prog) w .neq 70 x y #[.int .i64 a0,.int .i64 a1,.string (B a2),.int .i64 a3] #[.int .i64 b0,.int .i64 b1,.string (B b2),.int .i64 b3] hm;simp only[execOp,e1,e2,Sem.run_bind,hg,Result.andThen_ok,run_neq_struct,hb,Sem.run_pure]
theorem MB (F:Nat)(a:Ab)(b:Ab)(r:Bool)(h:HM F a b=some r):Fn Tryd.prog GE 32 [Bh (Ac a),Bh (Ac b)] [] (λR H=>R=rB r∧H=[]):=by
 refine enter (n:=59) Tryd.func32 rfl Tryd.ntmps32 rfl (λw Z=>?_);refine Bj (l':=[(0,Bh (Ac a)),(1,Bh (Ac b))]) (H':=[]) rfl rfl ?_;unfold HM at h;refine As (BM rfl rfl (λb1=>?_));refine BM rfl rfl (λb2=>?_);refine wv (r:=rB false) (An rfl) (A2 (Ax (AI [(2,rv (.pointer (some ⟨b1,0,none⟩))),(3,rv (.pointer (some ⟨b2,0,none⟩))),(40,rB ((!decide (a.fID=b.fID))||((!decide (a.fAt=b.fAt))||((!decide (a.fTenant=b.fTenant))||((!decide (a.fSource=b.fSource))||(!decide ((a.fBody.length:Int)=(b.fBody.length:Int))))))))] [.blk b2 (Ac b) 33,.blk b1 (Ac a) 33] ?_ ?_)))
 ·refine Av (wv (Af Bx rfl DA rfl rfl) (wv (Az (i:=1) DR rfl rfl rfl) (wv (Af Bx rfl DA rfl rfl) (wv (Az (i:=0) DR rfl rfl rfl) (wv (I2 rfl rfl) (wm rfl (AG (!decide (a.fID=b.fID)) (λc3=>?_) (λc3=>?_))))))))
  ·refine wf c3 (wf c3 (wf c3 (wf c3 (wf c3 (wv (r:=rB true) (Aq (b:=!decide (a.fID=b.fID)) rfl c3 rfl) (wm rfl (Am (b:=true) rfl rfl rfl rfl (Am (b:=true) rfl rfl rfl rfl (Am (b:=true) rfl rfl rfl rfl (Am (b:=true) rfl rfl rfl rfl (Am (b:=true) rfl rfl rfl rfl (wv (r:=rB true) (Aq (b:=true) rfl rfl rfl) (wm rfl (Am (b:=true) rfl rfl rfl rfl (Am (b:=true) rfl rfl rfl rfl (Am (b:=true) rfl rfl rfl rfl (Am (b:=true) rfl rfl rfl rfl (Am (b:=true) rfl rfl rfl rfl (wv (r:=rB true) (Aq (b:=true) rfl rfl rfl) (wm rfl (Am (b:=true) rfl rfl rfl rfl (Am (b:=true) rfl rfl rfl rfl (Am (b:=true) rfl rfl rfl rfl ?_)))))))))))))))))))))));refine Am (b:=true) rfl rfl rfl rfl (Am (b:=true) rfl rfl rfl rfl (Am (b:=true) rfl rfl rfl rfl (Am (b:=true) rfl rfl rfl rfl (wv (r:=rB true) (Aq (b:=true) rfl rfl rfl) (Au ?_)))));exact CD c3
  ·refine wo c3 (wv (Af Bx rfl Cu rfl rfl) (wo c3 (wv (Az (i:=1) CM rfl rfl rfl) (wo c3 (wv (Af Bx rfl Cu rfl rfl) (wo c3 (wv (Az (i:=0) CM rfl rfl rfl) (wo c3 (wv (D7 rfl rfl) (He rfl c3 rfl (wm rfl (AG (!decide (a.fAt=b.fAt)) (λc4=>?_) (λc4=>?_)))))))))))))
   ·refine wf c4 (wf c4 (wf c4 (wf c4 (wf c4 (wv (r:=rB true) (Aq (b:=!decide (a.fAt=b.fAt)) rfl c4 rfl) (wm rfl (Am (b:=true) rfl rfl rfl rfl (Am (b:=true) rfl rfl rfl rfl (Am (b:=true) rfl rfl rfl rfl (Am (b:=true) rfl rfl rfl rfl (Am (b:=true) rfl rfl rfl rfl (wv (r:=rB true) (Aq (b:=true) rfl rfl rfl) (wm rfl (Am (b:=true) rfl rfl rfl rfl (Am (b:=true) rfl rfl rfl rfl (Am (b:=true) rfl rfl rfl rfl (Am (b:=true) rfl rfl rfl rfl (Am (b:=true) rfl rfl rfl rfl (Am (b:=true) rfl rfl rfl rfl (Am (b:=true) rfl rfl rfl rfl (wv (r:=rB true) (Aq (b:=true) rfl rfl rfl) (Au ?_))))))))))))))))))))));exact CD (And.intro c3 c4)
   ·refine wo c4 (wv (Af Bx rfl DA rfl rfl) (wo c4 (wv (Az (i:=1) DR rfl rfl rfl) (wo c4 (wv (Af Bx rfl DA rfl rfl) (wo c4 (wv (Az (i:=0) DR rfl rfl rfl) (wo c4 (wv (I2 rfl rfl) (He rfl c4 rfl (wm rfl (AG (!decide (a.fTenant=b.fTenant)) (λc5=>?_) (λc5=>?_)))))))))))))
    ·refine wf c5 (wf c5 (wf c5 (wf c5 (wf c5 (wv (r:=rB true) (Aq (b:=!decide (a.fTenant=b.fTenant)) rfl c5 rfl) (wm rfl (Am (b:=true) rfl rfl rfl rfl (Am (b:=true) rfl rfl rfl rfl (Am (b:=true) rfl rfl rfl rfl (Am (b:=true) rfl rfl rfl rfl (Am (b:=true) rfl rfl rfl rfl (Am (b:=true) rfl rfl rfl rfl (Am (b:=true) rfl rfl rfl rfl (wv (r:=rB true) (Aq (b:=true) rfl rfl rfl) (Au ?_)))))))))))))));exact CD (And.intro c3 (And.intro c4 c5))
    ·refine wo c5 (wv (Af Bx rfl DA rfl rfl) (wo c5 (wv (Az (i:=1) DR rfl rfl rfl) (wo c5 (wv (Af Bx rfl DA rfl rfl) (wo c5 (wv (Az (i:=0) DR rfl rfl rfl) (wo c5 (wv (I2 rfl rfl) (He rfl c5 rfl (wm rfl (AG (!decide (a.fSource=b.fSource)) (λc6=>?_) (λc6=>?_)))))))))))))
     ·refine wf c6 (wf c6 (wf c6 (wf c6 (wf c6 (wf c6 (wf c6 (wv (r:=rB true) (Aq (b:=!decide (a.fSource=b.fSource)) rfl c6 rfl) (Au ?_))))))));exact CD (And.intro c3 (And.intro c4 (And.intro c5 c6)))
     ·refine wo c6 (wv (Af Bx rfl Hd rfl rfl) (wo c6 (wv (Az (i:=1) In rfl rfl rfl) (wo c6 (wv (Be (ys:=a.fBody) (enc:=Ae) El rfl) (wo c6 (wv (Af Bx rfl Hd rfl rfl) (wo c6 (wv (Az (i:=0) In rfl rfl rfl) (wo c6 (wv (Be (ys:=b.fBody) (enc:=Ae) El rfl) (wo c6 (wv (D7 rfl rfl) (He rfl c6 rfl (Au ?_)))))))))))))));exact CD (And.intro c3 (And.intro c4 (And.intro c5 c6)))
 refine A6 (b:=((!decide (a.fID=b.fID))||((!decide (a.fAt=b.fAt))||((!decide (a.fTenant=b.fTenant))||((!decide (a.fSource=b.fSource))||(!decide ((a.fBody.length:Int)=(b.fBody.length:Int)))))))) rfl (λc7=>?_) (λc7=>?_)
 ·have h8:=AO c7 h;refine As (wv (r:=rB false) (An rfl) (A2 (A4 (Al ?_))));obtain rfl:=A8 h8;exact A3 (BF Tryd.results32 (AZ rfl)) (sS (sS sN)) ⟨rfl,rfl⟩
 ·have h9:=AP c7 h;refine AC (Bd (Ax (As (wv (Af Bx rfl Hd rfl rfl) (wv (Az (i:=1) In rfl rfl rfl) (wv (Be (ys:=a.fBody) (enc:=Ae) El rfl) (wv (r:=rI .i64 0) (Aj rfl) (A2 (AN ?_)))))))));obtain⟨hj,hk,hh⟩:=AR h9;refine BL (S:=Nat×(Int)×(Unit)) (V:=(Unit)×(Unit)) 0 (λσ=>Dq (λσ=>Cl a b σ) σ.1 σ.2.1=some hj) (λσ=>[(2,rv (.pointer (some ⟨b1,0,none⟩))),(3,rv (.pointer (some ⟨b2,0,none⟩))),(43,rI .i64 (a.fBody.length:Int)),(44,rI .i64 σ.2.1)]) (λσ=>[.blk b2 (Ac b) 33,.blk b1 (Ac a) 33]) (λσ=>σ.1) (F,0,()) hk (AM.c rfl (AM.c rfl (AM.c rfl (AM.c rfl AM.nil)))) (sC (sC sN)) (λσ=>E9 =some r) (λσ=>[]) (λσ=>[]) ?_ ?_
  ·rintro⟨h1,ha,⟨⟩⟩ hl;refine Bj (l':=[(2,rv (.pointer (some ⟨b1,0,none⟩))),(3,rv (.pointer (some ⟨b2,0,none⟩))),(43,rI .i64 (a.fBody.length:Int)),(44,rI .i64 ha)]) (H':=[.blk b2 (Ac b) 33,.blk b1 (Ac a) 33]) rfl rfl ?_;obtain⟨hm,rfl,hn,hb,he⟩:=Ee hl;replace hb:Cl a b ha=some hn:=hb;unfold Cl at hb;refine As (wv (Dw rfl rfl) (A2 (Ax (A6 (b:=decide (ha<(a.fBody.length:Int))) rfl (λhf=>?_) (λhf=>?_)))))
   ·have ho:=AO hf hb;refine AC (Bd (Ax (AN (As (wm rfl (wa rfl (A2 (Ax ?_))))))));obtain⟨hp,hq⟩:=AK ho;obtain⟨hr,hi⟩:=AK hq;refine Da [2,3,5,43,44] [⟨[],rv (.pointer (some ⟨b1,4,none⟩)),0⟩,⟨[0],AV 4 (List.map Ae a.fBody),1⟩,⟨[],rI .i64 ha,0⟩,⟨[1,2],D3 (Ae (Ak a.fBody ha)),0⟩,⟨[3],Bh (Ae (Ak a.fBody ha)),0⟩,⟨[],rv (.pointer (some ⟨b2,4,none⟩)),0⟩,⟨[5],AV 4 (List.map Ae b.fBody),1⟩,⟨[],rI .i64 ha,0⟩,⟨[6,7],D3 (Ae (Ak b.fBody ha)),0⟩,⟨[8],Bh (Ae (Ak b.fBody ha)),0⟩,⟨[4,9],rB (!(decide (((Ak a.fBody ha).fKind)=((Ak b.fBody ha).fKind))&&decide (((Ak a.fBody ha).fInt)=((Ak b.fBody ha).fInt))&&decide (((Ak a.fBody ha).fStr)=((Ak b.fBody ha).fStr))&&decide (((Ak a.fBody ha).fN)=((Ak b.fBody ha).fN)))),0⟩] [47,48,49,50,51,52,53,54,55,56,57,2,3,43,44] ?_ ?_
    ·refine oq (Af Bx rfl Hd rfl rfl) (of (Az (i:=1) In rfl rfl rfl) (oq (Aj rfl) (oq (Bt (enc:=Ae) (ys:=a.fBody) El Hc rfl rfl hp) (oq (C6 Ml Hc rfl rfl rfl) (oq (Af Bx rfl Hd rfl rfl) (of (Az (i:=0) In rfl rfl rfl) (oq (Aj rfl) (oq (Bt (enc:=Ae) (ys:=b.fBody) El Hc rfl rfl hr) (oq (C6 Ml Hc rfl rfl rfl) (oq (JD rfl rfl) ?_))))))))));exact CI
    refine Bd (A6 (b:=!(decide (((Ak a.fBody ha).fKind)=((Ak b.fBody ha).fKind))&&decide (((Ak a.fBody ha).fInt)=((Ak b.fBody ha).fInt))&&decide (((Ak a.fBody ha).fStr)=((Ak b.fBody ha).fStr))&&decide (((Ak a.fBody ha).fN)=((Ak b.fBody ha).fN)))) rfl (λhg=>?_) (λhg=>?_))
    ·have hs:=AO hg hi;refine As (wv (r:=rB false) (An rfl) (A2 (A4 (A9 (Al (Al (B1 ?_)))))));have ht:=Cw hs he hh;refine A9 (Al ?_);obtain rfl:=A8 ht;exact A3 (BF Tryd.results32 (AZ rfl)) (sS (sS sN)) ⟨rfl,rfl⟩
    ·have hu:=AP hg hi;refine AC (AT (Bd (Av ?_)));obtain⟨hw,hx⟩:=AK hu;refine wv (Cc rfl rfl hw) (wm rfl (Au ?_));have hy:=BN hx he;exact A0 (AQ (hm,ha+1,()) ⟨hy,QA _⟩ (AM.c rfl (AM.c rfl (AM.c rfl (AM.c rfl AM.nil)))) (sC (sC sN)))
   ·have hz:=AP hf hb;refine B6 (AA ?_);have h0:=Dc hz he hh;exact AA (By (AQ ((),()) h0 AM.nil (sS (sS sN))))
  ·rintro⟨⟨⟩,⟨⟩⟩ hd;refine DD (l':=[]) (H':=[]) rfl rfl ?_;replace hd:E9 =some r:=hd;unfold E9 at hd;refine Bq (Bd (As (wv (r:=rB true) (An rfl) (A2 (A4 ?_)))));obtain rfl:=A8 hd;exact A3 (BF Tryd.results32 (AZ rfl)) sN ⟨rfl,rfl⟩
theorem Dv (F:Nat)(a:(List Ab))(b:(List Ab))(r:Bool)(h:AW F a b=some r):Fn Tryd.prog GE 11 [AV 5 (List.map Ac a),AV 5 (List.map Ac b)] [] (λR H=>R=rB r∧H=[]):=by
 refine enter (n:=27) Tryd.func11 rfl Tryd.ntmps11 rfl (λw Z=>?_);refine Bj (l':=[(0,AV 5 (List.map Ac a)),(1,AV 5 (List.map Ac b))]) (H':=[]) rfl rfl ?_;unfold AW at h;refine As (wv (r:=rB false) (An rfl) (A2 (Ax (As (wm rfl (wv (Be (ys:=a) (enc:=Ac) Bs rfl) (wm rfl (wv (Be (ys:=b) (enc:=Ac) Bs rfl) (wv (D7 rfl rfl) (A2 (A6 (b:=!decide ((a.length:Int)=(b.length:Int))) rfl (λc1=>?_) (λc1=>?_))))))))))))
 ·have h2:=AO c1 h;refine As (wv (r:=rB false) (An rfl) (A2 (A4 (Al ?_))));obtain rfl:=A8 h2;exact A3 (BF Tryd.results11 (AZ rfl)) sN ⟨rfl,rfl⟩
 ·have h3:=AP c1 h;refine AC (Bd (Ax (As (wm rfl (wv (Be (ys:=a) (enc:=Ac) Bs rfl) (wv (r:=rI .i64 0) (Aj rfl) (A2 (AN ?_))))))));obtain⟨hk,hl,hh⟩:=AR h3;refine BL (S:=Nat×(Int)×(Unit)) (V:=(Unit)×(Unit)) 0 (λσ=>Dq (λσ=>Ck F a b σ) σ.1 σ.2.1=some hk) (λσ=>[(0,AV 5 (List.map Ac a)),(1,AV 5 (List.map Ac b)),(12,rI .i64 (a.length:Int)),(13,rI .i64 σ.2.1)]) (λσ=>[]) (λσ=>σ.1) (F,0,()) hl (AM.c rfl (AM.c rfl (AM.c rfl (AM.c rfl AM.nil)))) sN (λσ=>E8 =some r) (λσ=>[]) (λσ=>[]) ?_ ?_
  ·rintro⟨h6,ha,⟨⟩⟩ hm;refine Bj (l':=[(0,AV 5 (List.map Ac a)),(1,AV 5 (List.map Ac b)),(12,rI .i64 (a.length:Int)),(13,rI .i64 ha)]) (H':=[]) rfl rfl ?_;obtain⟨hn,rfl,ho,hb,he⟩:=Ee hm;replace hb:Ck F a b ha=some ho:=hb;unfold Ck at hb;refine As (wv (Dw rfl rfl) (A2 (Ax (A6 (b:=decide (ha<(a.length:Int))) rfl (λhf=>?_) (λhf=>?_)))))
   ·have hp:=AO hf hb;refine AC (Bd (Ax (AN (As (wm rfl (wa rfl (A2 (Ax ?_))))))));obtain⟨hq,hr⟩:=AK hp;obtain⟨hs,ht⟩:=AK hr;refine Hj 8 [0,1,5,12,13] [⟨[],AV 5 (List.map Ac a),none,none,none⟩,⟨[],rI .i64 ha,none,none,none⟩,⟨[0,1],D3 (Ac (Ak a ha)),none,none,none⟩,⟨[2],Bh (Ac (Ak a ha)),none,none,none⟩,⟨[],AV 5 (List.map Ac b),none,none,none⟩,⟨[],rI .i64 ha,none,none,none⟩,⟨[4,5],D3 (Ac (Ak b ha)),none,none,none⟩,⟨[6],Bh (Ac (Ak b ha)),none,none,none⟩] ?_ (λβ=>?_)
    ·refine Hu (Aj rfl) (Hu (Aj rfl) (Hu (Bt (enc:=Ac) (ys:=a) Bs Bp rfl rfl hq) (Hu (C6 Gd Bp rfl rfl rfl) (Hu (Aj rfl) (Hu (Aj rfl) (Hu (Bt (enc:=Ac) (ys:=b) Bs Bp rfl rfl hs) (Hu (C6 Gd Bp rfl rfl rfl) ?_)))))));exact PC
    refine IM (H1:=[]) [16,17,18,19,20,21,22,23,0,1,5,12,13] ?_;obtain⟨hi,hu,hj⟩:=AR ht;refine Ig Tryd.call32 (MB F (Ak a ha) (Ak b ha) hi hu) rfl (wv (BX rfl) (A2 (A6 (b:=!hi) rfl (λhg=>?_) (λhg=>?_))))
    ·have hw:=AO hg hj;refine As (wv (r:=rB false) (An rfl) (A2 (A4 (A9 (Al (Al (B1 ?_)))))));have hx:=Cw hw he hh;refine A9 (Al ?_);obtain rfl:=A8 hx;exact A3 (BF Tryd.results11 (AZ rfl)) sN ⟨rfl,rfl⟩
    ·have hy:=AP hg hj;refine AC (AT (Bd (Av ?_)));obtain⟨hz,h0⟩:=AK hy;refine wv (Cc rfl rfl hz) (wm rfl (Au ?_));have h1:=BN h0 he;exact A0 (AQ (hn,ha+1,()) ⟨h1,QA _⟩ (AM.c rfl (AM.c rfl (AM.c rfl (AM.c rfl AM.nil)))) sN)
   ·have h4:=AP hf hb;refine B6 (AA ?_);have h5:=Dc h4 he hh;exact AA (By (AQ ((),()) h5 AM.nil sN))
  ·rintro⟨⟨⟩,⟨⟩⟩ hd;refine DD (l':=[]) (H':=[]) rfl rfl ?_;replace hd:E8 =some r:=hd;unfold E8 at hd;refine Bq (Bd (As (wv (r:=rB true) (An rfl) (A2 (A4 ?_)))));obtain rfl:=A8 hd;exact A3 (BF Tryd.results11 (AZ rfl)) sN ⟨rfl,rfl⟩
theorem M9 (F:Nat)(t:Ab)(r:Bool)(h:HL F t=some r):Fn Tryd.prog GE 14 [Bh (Ac t)] [] (λR H=>R=rB r∧H=[]):=by
 refine enter (n:=41) Tryd.func14 rfl Tryd.ntmps14 rfl (λw Z=>?_);refine Bj (l':=[(0,Bh (Ac t))]) (H':=[]) rfl rfl ?_;unfold HL at h;refine As (BM rfl rfl (λb1=>?_));refine wv (r:=rB false) (An rfl) (A2 (Ax (AI [(1,rv (.pointer (some ⟨b1,0,none⟩))),(25,rB ((decide (300<(t.fID.length:Int)))||((decide (300<(t.fTenant.length:Int)))||((decide (300<(t.fSource.length:Int)))||(decide (300<(t.fBody.length:Int)))))))] [.blk b1 (Ac t) 33] ?_ ?_)))
 ·refine Av (wv (Af Bx rfl DA rfl rfl) (wv (Az (i:=0) DR rfl rfl rfl) (wv (BY Hb rfl) (wv (Dh rfl rfl) (wm rfl (AG (decide (300<(t.fID.length:Int))) (λc2=>?_) (λc2=>?_)))))))
  ·refine wf c2 (wf c2 (wf c2 (wf c2 (wv (r:=rB true) (Aq (b:=decide (300<(t.fID.length:Int))) rfl c2 rfl) (wm rfl (Am (b:=true) rfl rfl rfl rfl (Am (b:=true) rfl rfl rfl rfl (Am (b:=true) rfl rfl rfl rfl (Am (b:=true) rfl rfl rfl rfl (wv (r:=rB true) (Aq (b:=true) rfl rfl rfl) (wm rfl (Am (b:=true) rfl rfl rfl rfl (Am (b:=true) rfl rfl rfl rfl (Am (b:=true) rfl rfl rfl rfl (Am (b:=true) rfl rfl rfl rfl (wv (r:=rB true) (Aq (b:=true) rfl rfl rfl) (Au ?_)))))))))))))))));exact CD c2
  ·refine wo c2 (wv (Af Bx rfl DA rfl rfl) (wo c2 (wv (Az (i:=0) DR rfl rfl rfl) (wo c2 (wv (BY Hb rfl) (wo c2 (wv (Dh rfl rfl) (He rfl c2 rfl (wm rfl (AG (decide (300<(t.fTenant.length:Int))) (λc3=>?_) (λc3=>?_)))))))))))
   ·refine wf c3 (wf c3 (wf c3 (wf c3 (wv (r:=rB true) (Aq (b:=decide (300<(t.fTenant.length:Int))) rfl c3 rfl) (wm rfl (Am (b:=true) rfl rfl rfl rfl (Am (b:=true) rfl rfl rfl rfl (Am (b:=true) rfl rfl rfl rfl (Am (b:=true) rfl rfl rfl rfl (wv (r:=rB true) (Aq (b:=true) rfl rfl rfl) (Au ?_)))))))))));exact CD (And.intro c2 c3)
   ·refine wo c3 (wv (Af Bx rfl DA rfl rfl) (wo c3 (wv (Az (i:=0) DR rfl rfl rfl) (wo c3 (wv (BY Hb rfl) (wo c3 (wv (Dh rfl rfl) (He rfl c3 rfl (wm rfl (AG (decide (300<(t.fSource.length:Int))) (λc4=>?_) (λc4=>?_)))))))))))
    ·refine wf c4 (wf c4 (wf c4 (wf c4 (wv (r:=rB true) (Aq (b:=decide (300<(t.fSource.length:Int))) rfl c4 rfl) (Au ?_)))));exact CD (And.intro c2 (And.intro c3 c4))
    ·refine wo c4 (wv (Af Bx rfl Hd rfl rfl) (wo c4 (wv (Az (i:=0) In rfl rfl rfl) (wo c4 (wv (Be (ys:=t.fBody) (enc:=Ae) El rfl) (wo c4 (wv (Dh rfl rfl) (He rfl c4 rfl (Au ?_)))))))));exact CD (And.intro c2 (And.intro c3 c4))
 refine A6 (b:=((decide (300<(t.fID.length:Int)))||((decide (300<(t.fTenant.length:Int)))||((decide (300<(t.fSource.length:Int)))||(decide (300<(t.fBody.length:Int))))))) rfl (λc5=>?_) (λc5=>?_)
 ·have h6:=AO c5 h;refine As (wv (r:=rB false) (An rfl) (A2 (A4 (Al ?_))));obtain rfl:=A8 h6;exact A3 (BF Tryd.results14 (AZ rfl)) (sS sN) ⟨rfl,rfl⟩
 ·have h7:=AP c5 h;refine AC (Bd (Ax (As (wv (Af Bx rfl Hd rfl rfl) (wv (Az (i:=0) In rfl rfl rfl) (wv (Be (ys:=t.fBody) (enc:=Ae) El rfl) (wv (r:=rI .i64 0) (Aj rfl) (A2 (AN ?_)))))))));obtain⟨hj,hk,hh⟩:=AR h7;refine BL (S:=Nat×(Int)×(Unit)) (V:=(Unit)×(Unit)) 0 (λσ=>Dq (λσ=>Cj t σ) σ.1 σ.2.1=some hj) (λσ=>[(1,rv (.pointer (some ⟨b1,0,none⟩))),(28,rI .i64 (t.fBody.length:Int)),(29,rI .i64 σ.2.1)]) (λσ=>[.blk b1 (Ac t) 33]) (λσ=>σ.1) (F,0,()) hk (AM.c rfl (AM.c rfl (AM.c rfl AM.nil))) (sC sN) (λσ=>E7 =some r) (λσ=>[]) (λσ=>[]) ?_ ?_
  ·rintro⟨hz,ha,⟨⟩⟩ hl;refine Bj (l':=[(1,rv (.pointer (some ⟨b1,0,none⟩))),(28,rI .i64 (t.fBody.length:Int)),(29,rI .i64 ha)]) (H':=[.blk b1 (Ac t) 33]) rfl rfl ?_;obtain⟨hm,rfl,hn,hb,he⟩:=Ee hl;replace hb:Cj t ha=some hn:=hb;unfold Cj at hb;refine As (wv (Dw rfl rfl) (A2 (Ax (A6 (b:=decide (ha<(t.fBody.length:Int))) rfl (λhf=>?_) (λhf=>?_)))))
   ·have ho:=AO hf hb;refine AC (Bd (Ax (AN (As (wm rfl (wa rfl (CF (wv (Af Bx rfl Hd rfl rfl) (wv (Az (i:=0) In rfl rfl rfl) (wm rfl ?_))))))))));obtain⟨hp,hi⟩:=AK ho;refine wv (Bt (enc:=Ae) (ys:=t.fBody) El Hc rfl rfl hp) (wv (AH BE rfl DA rfl rfl) (wv (Bn DR rfl rfl) (wv (BY Hb rfl) (wv (Dh rfl rfl) (A2 (A6 (b:=decide (5000<(((Ak t.fBody ha).fStr).length:Int))) rfl (λhg=>?_) (λhg=>?_)))))))
    ·have hq:=AO hg hi;refine As (wv (r:=rB false) (An rfl) (A2 (A4 (A9 (Al (Al (B1 ?_)))))));have hr:=Cw hq he hh;refine A9 (Al ?_);obtain rfl:=A8 hr;exact A3 (BF Tryd.results14 (AZ rfl)) (sS sN) ⟨rfl,rfl⟩
    ·have hs:=AP hg hi;refine AC (AT (Bd (Av ?_)));obtain⟨ht,hu⟩:=AK hs;refine wv (Cc rfl rfl ht) (wm rfl (Au ?_));have hw:=BN hu he;exact A0 (AQ (hm,ha+1,()) ⟨hw,QA _⟩ (AM.c rfl (AM.c rfl (AM.c rfl AM.nil))) (sC sN))
   ·have hx:=AP hf hb;refine B6 (AA ?_);have hy:=Dc hx he hh;exact AA (By (AQ ((),()) hy AM.nil (sS sN)))
  ·rintro⟨⟨⟩,⟨⟩⟩ hd;refine DD (l':=[]) (H':=[]) rfl rfl ?_;replace hd:E7 =some r:=hd;unfold E7 at hd;refine Bq (Bd (As (wv (r:=rB true) (An rfl) (A2 (A4 ?_)))));obtain rfl:=A8 hd;exact A3 (BF Tryd.results14 (AZ rfl)) sN ⟨rfl,rfl⟩
end Go.Proofs.YtkoiaconljdbeaaDoor.Q
namespace Go.Proofs.YtkoiaconljdbeaaDoor
open Go
set_option linter.unusedVariables false
structure AE where
 fKind:Int
 fNow:Int
 fTimer:Ab
 deriving DecidableEq,Inhabited
def Pj (id:Ai)(n:Int):Option (Ab):=
 some (Ab.mk id n ([116]:Ai) ([115]:Ai) ([(Ad.mk 1 0 ([]:Ai) 0)]:List Ad))
def De (F:Nat) :Option (Bool):=
 BK (Mx) λr1=>BK (Pj ([98]:Ai) 5) λr6=>BK (IO F r1 r6 0) λr9=>B9 (!(!decide (r9.1=0)))<|BK (Pj ([97]:Ai) 5) λhi=>BK (IO F r9.2 hi 0) λhe=>B9 (!(!decide (he.1=0)))<|BK (Pj ([99]:Ai) 3) λhj=>BK (IO F he.2 hj 0) λhf=>B9 (!(!decide (hf.1=0)))<|BK (HE F hf.2 4) λha=>BK (HE F ha.2 5) λhb=>BK (Mv hb.2) λhd=>B9 (!(!decide ((ha.1.length:Int)=1)))<|B9 (DB 0 (ha.1.length:Int))<|B9 (!(!decide (((Ak ha.1 0).fID)=([99]:Ai))))<|B9 (!(!decide ((hb.1.length:Int)=3)))<|B9 (DB 1 (hb.1.length:Int))<|B9 (!(!decide (((Ak hb.1 1).fID)=([97]:Ai))))<|B9 (!(!decide (hd.1=3)))<|B9 (!(!hd.2.1))<|BK (HI hd.2.2 ([99]:Ai)) λhg=>B9 (decide (hg.1=0))<|BK (D5 hg.2 ([97]:Ai)) λhh=>B9 (decide (hh.1=10))<|BK (Pj ([100]:Ai) 3) λhk=>BK (IO F hh.2 hk 4) λhl=>some (decide (hl.1=2))
def Cm (F:Nat)(l:(List AE))(ha:Int):Option (Stp (Int) (Out (Bool) (Unit))):=
 BJ (decide (ha<(l.length:Int))) (B9 (DB ha (l.length:Int))<|BK (HL F ((Ak l ha).fTimer)) λhb=>BJ (!hb) (some (.out (.ret false))) (B9 (Ci .i64 (ha+1))<|some (.next (ha+1)))) (some (.out (.go ())))
def EE :Option (Bool):=
 some true
def HW (F:Nat)(l:(List AE)):Option (Bool):=
 BJ (decide (300<(l.length:Int))) (some false) (BK (Dq (λσ=>Cm F l σ) F 0) (CE λν=>EE ))
def I9 (F:Nat)(q:Ar)(o:AE):Option (Int×Ar):=
 BJ (decide (o.fKind=0)) (BK (IO F q o.fTimer o.fNow) λr4=>some (r4.1,r4.2)) (BJ (decide (o.fKind=2)) (BK (HI q o.fTimer.fID) λha=>some (ha.1,ha.2)) (BJ (decide (o.fKind=3)) (BK (D5 q o.fTimer.fID) λhb=>some (hb.1,hb.2)) (some (0,q))))
def C4 (F:Nat)(l:(List AE))(ha:Int)(hb:(List (Ai×Aa))):Option (Stp (Int×(List (Ai×Aa))) (Out (Ar) ((List (Ai×Aa))))):=
 BJ (decide (ha<(l.length:Int))) (B9 (DB ha (l.length:Int))<|BJ (decide (((Ak l ha).fKind)=1)) (BK (HE F (Ar.mk hb) ((Ak l ha).fNow)) λhd=>BK (I9 F hd.2 (AE.mk ((Ak l ha).fKind) ((Ak l ha).fNow) ((Ak l ha).fTimer))) λhe=>B9 (Ci .i64 (ha+1))<|some (.next (ha+1,he.2.fTimers))) (BK (I9 F (Ar.mk hb) (AE.mk ((Ak l ha).fKind) ((Ak l ha).fNow) ((Ak l ha).fTimer))) λhf=>B9 (Ci .i64 (ha+1))<|some (.next (ha+1,hf.2.fTimers)))) (some (.out (.go hb)))
def DX (ha:(List (Ai×Aa))):Option (Ar):=
 some (Ar.mk ha)
def Gy (F:Nat)(l:(List AE)):Option (Ar):=
 BK (Mx) λr1=>BK (Dq (λσ=>C4 F l σ.1 σ.2) F (0,r1.fTimers)) (CE λν=>DX ν)
def CR (F:Nat)(now:Int)(acknowledge:Int)(ha:(List Ab)×Ar)(hd:Bool)(he:(List (Ai×Aa))):Option (Bool):=
 BJ (hd) (some false) (BK (HE F (Ar.mk he) now) λhb=>B9 (Ci .i64 ((ha.1.length:Int)-1))<|BJ (!decide ((hb.1.length:Int)=((ha.1.length:Int)-1))) (some false) (B9 (JP acknowledge (hb.1.length:Int))<|B9 (JP acknowledge (ha.1.length:Int))<|B9 ((AW F (List.take (Int.toNat acknowledge) hb.1) (List.take (Int.toNat acknowledge) ha.1)).isSome)<|B9 (imp ((ov (AW F (List.take (Int.toNat acknowledge) hb.1) (List.take (Int.toNat acknowledge) ha.1)))) (Ci .i64 (acknowledge+1)))<|B9 (imp ((ov (AW F (List.take (Int.toNat acknowledge) hb.1) (List.take (Int.toNat acknowledge) ha.1)))) (JP (acknowledge+1) (ha.1.length:Int)))<|B9 (imp ((ov (AW F (List.take (Int.toNat acknowledge) hb.1) (List.take (Int.toNat acknowledge) ha.1)))) ((AW F (List.drop (Int.toNat acknowledge) hb.1) (List.drop (Int.toNat (acknowledge+1)) ha.1)).isSome))<|B9 (imp ((ov (AW F (List.take (Int.toNat acknowledge) hb.1) (List.take (Int.toNat acknowledge) ha.1)))) (imp ((ov (AW F (List.drop (Int.toNat acknowledge) hb.1) (List.drop (Int.toNat (acknowledge+1)) ha.1)))) ((De F).isSome)))<|some ((ov (AW F (List.take (Int.toNat acknowledge) hb.1) (List.take (Int.toNat acknowledge) ha.1)))&&((ov (AW F (List.drop (Int.toNat acknowledge) hb.1) (List.drop (Int.toNat (acknowledge+1)) ha.1)))&&(ov (De F))))))
def Cn (F:Nat)(now:Int)(acknowledge:Int)(ha:(List Ab)×Ar)(hf:Bool)(hg:(List (Ai×Aa))):Option (Bool):=
 BJ (hf) (BK (De F) λhh=>some hh) (B9 (DB acknowledge (ha.1.length:Int))<|BK (D5 (Ar.mk hg) ((Ak ha.1 acknowledge).fID)) λhb=>BJ (!decide (hb.1=10)) (CR F now acknowledge ha true hb.2.fTimers) (BK (HI hb.2 ((Ak ha.1 acknowledge).fID)) λhd=>BJ (!decide (hd.1=0)) (CR F now acknowledge ha true hd.2.fTimers) (BK (HI hd.2 ((Ak ha.1 acknowledge).fID)) λhe=>CR F now acknowledge ha (!decide (he.1=5)) he.2.fTimers)))
def C8 (now:Int)(hb:(List Ab)×Ar)(hd:(List Ab)×Ar)(ha:Int):Option (Stp (Int) (Out (Bool) (Unit))):=
 BJ (decide (ha<(hb.1.length:Int))) (B9 (DB ha (hb.1.length:Int))<|B9 (imp (!(!((decide (ha<(hd.1.length:Int))) ==(decide (((Ak hb.1 ha).fAt)≤now))))) (imp (decide (0<ha)) (Ci .i64 (ha-1))))<|B9 (imp (!(!((decide (ha<(hd.1.length:Int))) ==(decide (((Ak hb.1 ha).fAt)≤now))))) (imp (decide (0<ha)) (DB (ha-1) (hb.1.length:Int))))<|BJ (((!((decide (ha<(hd.1.length:Int))) ==(decide (((Ak hb.1 ha).fAt)≤now))))||((decide (0<ha))&&((decide (((Ak hb.1 ha).fAt)<((Ak hb.1 (ha-1)).fAt)))||((decide (((Ak hb.1 ha).fAt)=((Ak hb.1 (ha-1)).fAt)))&&(Bg ((Ak hb.1 ha).fID) ((Ak hb.1 (ha-1)).fID)||decide (((Ak hb.1 ha).fID)=((Ak hb.1 (ha-1)).fID)))))))) (some (.out (.ret false))) (B9 (Ci .i64 (ha+1))<|some (.next (ha+1)))) (some (.out (.go ())))
def DM (F:Nat)(now:Int)(acknowledge:Int)(ha:(List Ab)×Ar):Option (Bool):=
 BK (HE F ha.2 now) λhb=>BK (AW F ha.1 hb.1) λhd=>BJ (!hd) (Cn F now acknowledge ha true hb.2.fTimers) (BJ (decide (acknowledge<0)) (Cn F now acknowledge ha true hb.2.fTimers) (Cn F now acknowledge ha (decide ((ha.1.length:Int)≤acknowledge)) hb.2.fTimers))
def HX (F:Nat)(l:(List AE))(now:Int)(acknowledge:Int):Option (Bool):=
 BK (HW F l) λr1=>BJ (!r1) (BK (De F) λr6=>some r6) (BK (Gy F l) λhd=>BK (HC hd) λhb=>BK (HE F hb.2 now) λha=>B9 (imp (!(decide ((hb.1.length:Int)<(ha.1.length:Int)))) (JP (ha.1.length:Int) (hb.1.length:Int)))<|B9 (imp (!(decide ((hb.1.length:Int)<(ha.1.length:Int)))) ((AW F ha.1 (List.take (Int.toNat (ha.1.length:Int)) hb.1)).isSome))<|BJ (((decide ((hb.1.length:Int)<(ha.1.length:Int)))||(!(ov (AW F ha.1 (List.take (Int.toNat (ha.1.length:Int)) hb.1)))))) (some false) (BK (Dq (λσ=>C8 now hb ha σ) F 0) (CE λν=>DM F now acknowledge ha )))
end Go.Proofs.YtkoiaconljdbeaaDoor
namespace Go.Proofs.YtkoiaconljdbeaaDoor.Q
open Go Go.RowKit
set_option linter.unusedVariables false
set_option linter.unusedSimpArgs false
set_option maxRecDepth 100000
set_option maxHeartbeats 4000000
@[reducible] def AD (x:AE):List Rp:=[rI .i64 x.fKind,rI .i64 x.fNow,rS x.fTimer.fID,rI .i64 x.fTimer.fAt,rS x.fTimer.fTenant,rS x.fTimer.fSource,AV 4 (List.map Ae x.fTimer.fBody)]
theorem G3 (x:AE):(AD x).length=7:=rfl
theorem Ol (parts:List (Nat×Value)):Tryd.prog.built 33 parts=Instr.fill (λi=>(#[(0,1),(1,1),(2,1),(3,1),(4,1)]:Array (Nat×Nat))[i]?) #[(.string ⟨#[]⟩),(.int .i64 0),(.string ⟨#[]⟩),(.string ⟨#[]⟩),((.slice none 0 0))] parts:=by kernel_rfl
theorem EH {n:Nat}{c:Cx}{l:Fr}{H:List Ent}{d:Option Nat}{ty:TypeId}{pos:String}{af:Array Edge}{g:Option (Nat×Bool)}{x0:Operand}{r0:Rp}(h0:ev l x0=some r0)(u0:r0.one=true){x1:Operand}{r1:Rp}(h1:ev l x1=some r1)(u1:r1.one=true){x2:Operand}{r2:Rp}(h2:ev l x2=some r2)(u2:r2.one=true){x3:Operand}{r3:Rp}(h3:ev l x3=some r3)(u3:r3.one=true){x4:Operand}{r4:Rp}(h4:ev l x4=some r4)(u4:r4.one=true):AS Tryd.prog n c l H { dst:=d,op:=.build 33 #[(0,x0),(1,x1),(2,x2),(3,x3),(4,x4)],type:=ty,pos:=pos,after:=af,guard:=g } (Bh [r0,r1,r2,r3,r4]):=λa w Z ha _=>by
  have p0:=ha.ev h0;have c0:=B0 (r0.hone u0 Z _ p0);have p1:=ha.ev h1;have c1:=B0 (r1.hone u1 Z _ p1);have p2:=ha.ev h2;have c2:=B0 (r2.hone u2 Z _ p2);have p3:=ha.ev h3;have c3:=B0 (r3.hone u3 Z _ p3);have p4:=ha.ev h4;have c4:=B0 (r4.hone u4 Z _ p4);have hb:Tryd.prog.built 33 [(0,a.eval x0),(1,a.eval x1),(2,a.eval x2),(3,a.eval x3),(4,a.eval x4)]=some #[a.eval x0,a.eval x1,a.eval x2,a.eval x3,a.eval x4]:=by
    rw[Ol];generalize a.eval x0=v0 at *;generalize a.eval x1=v1 at *;generalize a.eval x2=v2 at *;generalize a.eval x3=v3 at *;generalize a.eval x4=v4 at *;simp[Instr.fill,c0,c1,c2,c3,c4]
  refine⟨.agg #[a.eval x0,a.eval x1,a.eval x2,a.eval x3,a.eval x4],⟨[a.eval x0,a.eval x1,a.eval x2,a.eval x3,a.eval x4],rfl,p0,p1,p2,p3,p4,trivial⟩,?_⟩;have:=run_build w 33 #[(0,a.eval x0),(1,a.eval x1),(2,a.eval x2),(3,a.eval x3),(4,a.eval x4)] _ (by simpa using hb);simp[execOp,this]
theorem Oi (parts:List (Nat×Value)):Tryd.prog.built 70 parts=Instr.fill (λi=>(#[(0,1),(1,1),(2,1),(3,1)]:Array (Nat×Nat))[i]?) #[(.int .i64 0),(.int .i64 0),(.string ⟨#[]⟩),(.int .i64 0)] parts:=by kernel_rfl
theorem JA {n:Nat}{c:Cx}{l:Fr}{H:List Ent}{d:Option Nat}{ty:TypeId}{pos:String}{af:Array Edge}{g:Option (Nat×Bool)}{x0:Operand}{r0:Rp}(h0:ev l x0=some r0)(u0:r0.one=true):AS Tryd.prog n c l H { dst:=d,op:=.build 70 #[(0,x0)],type:=ty,pos:=pos,after:=af,guard:=g } (Bh [r0,rI .i64 0,rS ([]:Ai),rI .i64 0]):=λa w Z ha _=>by
  have p0:=ha.ev h0;have c0:=B0 (r0.hone u0 Z _ p0);have hb:Tryd.prog.built 70 [(0,a.eval x0)]=some #[a.eval x0,(.int .i64 0),(.string ⟨#[]⟩),(.int .i64 0)]:=by
    rw[Oi];generalize a.eval x0=v0 at *;simp[Instr.fill,c0]
  refine⟨.agg #[a.eval x0,(.int .i64 0),(.string ⟨#[]⟩),(.int .i64 0)],⟨[a.eval x0,(.int .i64 0),(.string ⟨#[]⟩),(.int .i64 0)],rfl,p0,rfl,rfl,rfl,trivial⟩,?_⟩;have:=run_build w 70 #[(0,a.eval x0)] _ (by simpa using hb);simp[execOp,this]
theorem KZ (id:Ai)(n:Int)(r:Ab)(h:Pj id n=some r):Fn Tryd.prog GE 18 [rS id,rI .i64 n] [] (λR H=>R=Bh (Ac r)∧H=[]):=by
 refine enter (n:=10) Tryd.func18 rfl Tryd.ntmps18 rfl (λw Z=>?_);refine Bj (l':=[(0,rS id),(1,rI .i64 n)]) (H':=[]) rfl rfl ?_;unfold Pj at h;refine As (CH (cs:=[rS ([]:Ai),rI .i64 0,rS ([]:Ai),rS ([]:Ai),rv (.slice none 0 0)]) Me rfl rfl (λb1=>?_));refine CF (wm rfl (wm rfl (wv (r:=Bh [rI .i64 1,rI .i64 0,rS ([]:Ai),rI .i64 0]) (JA rfl rfl) (CG (ys:=([(Ad.mk 1 0 ([]:Ai) 0)]:List Ad)) (enc:=Ae) (css:=[[rI .i64 1,rI .i64 0,rS ([]:Ai),rI .i64 0]]) (xs:=[.tmp 7]) El Hc O8 rfl rfl rfl ⟨O5.agg ⟨Up.refl _,Up.refl _,Up.refl _,Up.refl _,trivial⟩,trivial⟩ rfl CY rfl rfl rfl (λb2=>?_)))));refine wv (r:=Bh [rS id,rI .i64 n,rS ([116]:Ai),rS ([115]:Ai),rv (.slice (some ⟨b2,0,none⟩) 1 1)]) (EH rfl rfl rfl rfl rfl rfl rfl rfl rfl rfl) (BA (i:=1) Bp rfl rfl rfl ⟨(BW rfl),(BW rfl),(BW rfl),(BW rfl),(NM (i:=0) rfl),trivial⟩ rfl rfl (cs':=[rS id,rI .i64 n,rS ([116]:Ai),rS ([115]:Ai),rv (.slice (some ⟨b2,0,none⟩) 1 1)]) rfl (H':=[.row (.slice (some ⟨b2,0,none⟩) 1 1) 70 4 (List.map Ae ([(Ad.mk 1 0 ([]:Ai) 0)]:List Ad)),.blk b1 [rS id,rI .i64 n,rS ([116]:Ai),rS ([115]:Ai),rv (.slice (some ⟨b2,0,none⟩) 1 1)] 33]) rfl (A2 (A4 (WK.freeze (i:=0) rfl (WK.upBlk (i:=1) (cs':=[rS id,rI .i64 n,rS ([116]:Ai),rS ([115]:Ai),AV 4 (List.map Ae ([(Ad.mk 1 0 ([]:Ai) 0)]:List Ad))]) rfl ⟨Up.refl _,Up.refl _,Up.refl _,Up.refl _,Up.fact (i:=0) rfl,trivial⟩ ?_)))));obtain rfl:=A8 h;exact A3 (BF Tryd.results18 (HK (i:=1) Gd Bp rfl rfl rfl)) (sS (sS sN)) ⟨rfl,rfl⟩
theorem HY (F:Nat)  (r:Bool)(h:De F=some r):Fn Tryd.prog GE 7 [] [] (λR H=>R=rB r∧H=[]):=by
 refine enter (n:=80) Tryd.func7 rfl Tryd.ntmps7 rfl (λw Z=>?_);refine Bj (l':=[]) (H':=[]) rfl rfl ?_;unfold De at h;refine As (wv (r:=rB false) (An rfl) (CF ?_));obtain⟨r1,e3,h2⟩:=AR h;refine Ej (Hr:=[]) Tryd.call17 (Mw r1 e3) rfl (Qj _) rfl ?_;rintro _ _ ⟨b4,b5,rfl,rfl⟩;refine wa rfl (A2 (Ax (As (wm rfl (wv (r:=rB false) (ML ⟨_,Nz⟩ rfl) (wm rfl (AF (b:=false) rfl rfl rfl (wm rfl (AF (b:=false) rfl rfl rfl ?_)))))))));obtain⟨r6,e8,h7⟩:=AR h2;refine Ig Tryd.call18 (KZ ([98]:Ai) 5 r6 e8) rfl (AF (b:=false) rfl rfl rfl ?_);obtain⟨r9,hx,hy⟩:=AR h7;refine Ej (Hr:=[]) Mj (HB F b4 b5 r1 r6 0 r9 hx) rfl (Qj _) rfl ?_;rintro _ _ ⟨rfl,rfl⟩;refine AF (b:=false) rfl rfl rfl (wv (D7 rfl rfl) (wv (r:=rB (!decide (r9.1=0))) (Ay (b:=false) rfl rfl rfl) (wm rfl ?_)));obtain⟨hh,hz⟩:=AK hy;refine AF (b:=!decide (r9.1=0)) rfl rfl (Bool.not_eq_eq_eq_not.1 hh) (wm rfl (AF (b:=!decide (r9.1=0)) rfl rfl (Bool.not_eq_eq_eq_not.1 hh) ?_));obtain⟨hr,h0,h1⟩:=AR hz;refine Ig Tryd.call18 (KZ ([97]:Ai) 5 hr h0) rfl (AF (b:=!decide (r9.1=0)) rfl rfl (Bool.not_eq_eq_eq_not.1 hh) ?_);obtain⟨hd,h3,h4⟩:=AR h1;refine Ej (Hr:=[]) Mj (HB F b4 b5 r9.2 hr 0 hd h3) rfl (Qj _) rfl ?_;rintro _ _ ⟨rfl,rfl⟩;refine AF (b:=!decide (r9.1=0)) rfl rfl (Bool.not_eq_eq_eq_not.1 hh) (wv (D7 rfl rfl) (wv (r:=rB (!decide (hd.1=0))) (Ay (b:=!decide (r9.1=0)) rfl (Bool.not_eq_eq_eq_not.1 hh) rfl) (wm rfl ?_)));obtain⟨hi,h5⟩:=AK h4;refine AF (b:=!decide (hd.1=0)) rfl rfl (Bool.not_eq_eq_eq_not.1 hi) (wm rfl (AF (b:=!decide (hd.1=0)) rfl rfl (Bool.not_eq_eq_eq_not.1 hi) ?_));obtain⟨hs,h6,h8⟩:=AR h5;refine Ig Tryd.call18 (KZ ([99]:Ai) 3 hs h6) rfl (AF (b:=!decide (hd.1=0)) rfl rfl (Bool.not_eq_eq_eq_not.1 hi) ?_);obtain⟨hk,h9,hA⟩:=AR h8;refine Ej (Hr:=[]) Mj (HB F b4 b5 hd.2 hs 0 hk h9) rfl (Qj _) rfl ?_;rintro _ _ ⟨rfl,rfl⟩;refine AF (b:=!decide (hd.1=0)) rfl rfl (Bool.not_eq_eq_eq_not.1 hi) (wv (D7 rfl rfl) (wv (r:=rB (!decide (hk.1=0))) (Ay (b:=!decide (hd.1=0)) rfl (Bool.not_eq_eq_eq_not.1 hi) rfl) (A2 ?_)));obtain⟨hB,hC⟩:=AK hA;refine CP (b:=!decide (hk.1=0)) rfl (Bool.not_eq_eq_eq_not.1 hB) (AC (Bd (As (wm rfl ?_))));obtain⟨ha,hD,hE⟩:=AR hC;refine Ej (Hr:=[]) Ln (G9 F b4 b5 hk.2 4 ha hD) rfl (Qj _) rfl ?_;rintro _ _ ⟨v33,rfl,rfl⟩;refine wa rfl (CF (wm rfl ?_));obtain⟨hb,hG,hH⟩:=AR hE;refine Ej (Hr:=[.row v33 33 5 (List.map Ac ha.1)]) Ln (G9 F b4 b5 ha.2 5 hb hG) rfl ((A1 (i:=1) rfl).trans (Qq _ ((A1 (i:=1) rfl).trans (Qq _ (Qj _))))) rfl ?_;rintro _ _ ⟨v37,rfl,rfl⟩;refine wa rfl (CF (wm rfl ?_));obtain⟨he,hI,hJ⟩:=AR hH;refine Ej (Hr:=[.row v37 33 5 (List.map Ac hb.1),.row v33 33 5 (List.map Ac ha.1)]) Tryd.call19 (NA b4 b5 hb.2 he hI) rfl ((A1 (i:=1) rfl).trans (Qq _ ((A1 (i:=1) rfl).trans (Qq _ (Qj _))))) rfl ?_;rintro _ _ ⟨rfl,rfl⟩;refine wm rfl (wv (Bm rfl rfl) (wv (Bm rfl rfl) (wa rfl (wa rfl (A2 (Ax (As (wm rfl (wv (BT (ys:=ha.1) (enc:=Ac) (i:=3) Bs rfl rfl) (wv (D7 rfl rfl) (wm rfl ?_)))))))))));obtain⟨hf,hK⟩:=AK hJ;refine AF (b:=!decide ((ha.1.length:Int)=1)) rfl rfl (Bool.not_eq_eq_eq_not.1 hf) (wm rfl (AF (b:=!decide ((ha.1.length:Int)=1)) rfl rfl (Bool.not_eq_eq_eq_not.1 hf) ?_));obtain⟨hn,hL⟩:=AK hK;refine wv (r:=rv (CC 5 v33 (Int.toNat 0) 0)) (Dx (i:=3) Bs Bp rfl rfl rfl (AY hn)) (AF (b:=!decide ((ha.1.length:Int)=1)) rfl rfl (Bool.not_eq_eq_eq_not.1 hf) (wv (r:=rv (CC 5 v33 (Int.toNat 0) 0)) (C2 (k:=3) Bx rfl DA rfl (AY hn) rfl rfl rfl) (AF (b:=!decide ((ha.1.length:Int)=1)) rfl rfl (Bool.not_eq_eq_eq_not.1 hf) (wv (r:=rS ((Ak ha.1 0).fID)) (Dd (enc:=Ac) (ys:=ha.1) (i:=3) (j:=0) DR rfl rfl hn rfl) (AF (b:=!decide ((ha.1.length:Int)=1)) rfl rfl (Bool.not_eq_eq_eq_not.1 hf) (wv (I2 rfl rfl) (wv (r:=rB (!decide (((Ak ha.1 0).fID)=([99]:Ai)))) (Ay (b:=!decide ((ha.1.length:Int)=1)) rfl (Bool.not_eq_eq_eq_not.1 hf) rfl) (wm rfl ?_))))))));obtain⟨hl,hN⟩:=AK hL;refine AF (b:=!decide (((Ak ha.1 0).fID)=([99]:Ai))) rfl rfl (Bool.not_eq_eq_eq_not.1 hl) (wm rfl (AF (b:=!decide (((Ak ha.1 0).fID)=([99]:Ai))) rfl rfl (Bool.not_eq_eq_eq_not.1 hl) (wv (BT (ys:=hb.1) (enc:=Ac) (i:=2) Bs rfl rfl) (AF (b:=!decide (((Ak ha.1 0).fID)=([99]:Ai))) rfl rfl (Bool.not_eq_eq_eq_not.1 hl) (wv (D7 rfl rfl) (wv (r:=rB (!decide ((hb.1.length:Int)=3))) (Ay (b:=!decide (((Ak ha.1 0).fID)=([99]:Ai))) rfl (Bool.not_eq_eq_eq_not.1 hl) rfl) (wm rfl ?_)))))));obtain⟨hg,hO⟩:=AK hN;refine AF (b:=!decide ((hb.1.length:Int)=3)) rfl rfl (Bool.not_eq_eq_eq_not.1 hg) (wm rfl (AF (b:=!decide ((hb.1.length:Int)=3)) rfl rfl (Bool.not_eq_eq_eq_not.1 hg) ?_));obtain⟨ho,hP⟩:=AK hO;refine wv (r:=rv (CC 5 v37 (Int.toNat 1) 0)) (Dx (i:=2) Bs Bp rfl rfl rfl (AY ho)) (AF (b:=!decide ((hb.1.length:Int)=3)) rfl rfl (Bool.not_eq_eq_eq_not.1 hg) (wv (r:=rv (CC 5 v37 (Int.toNat 1) 0)) (C2 (k:=2) Bx rfl DA rfl (AY ho) rfl rfl rfl) (AF (b:=!decide ((hb.1.length:Int)=3)) rfl rfl (Bool.not_eq_eq_eq_not.1 hg) (wv (r:=rS ((Ak hb.1 1).fID)) (Dd (enc:=Ac) (ys:=hb.1) (i:=2) (j:=1) DR rfl rfl ho rfl) (AF (b:=!decide ((hb.1.length:Int)=3)) rfl rfl (Bool.not_eq_eq_eq_not.1 hg) (wv (I2 rfl rfl) (wv (r:=rB (!decide (((Ak hb.1 1).fID)=([97]:Ai)))) (Ay (b:=!decide ((hb.1.length:Int)=3)) rfl (Bool.not_eq_eq_eq_not.1 hg) rfl) (wm rfl ?_))))))));obtain⟨hp,hQ⟩:=AK hP;refine AF (b:=!decide (((Ak hb.1 1).fID)=([97]:Ai))) rfl rfl (Bool.not_eq_eq_eq_not.1 hp) (wm rfl (AF (b:=!decide (((Ak hb.1 1).fID)=([97]:Ai))) rfl rfl (Bool.not_eq_eq_eq_not.1 hp) (wv (D7 rfl rfl) (wv (r:=rB (!decide (he.1=3))) (Ay (b:=!decide (((Ak hb.1 1).fID)=([97]:Ai))) rfl (Bool.not_eq_eq_eq_not.1 hp) rfl) (wm rfl ?_)))));obtain⟨hq,hR⟩:=AK hQ;refine AF (b:=!decide (he.1=3)) rfl rfl (Bool.not_eq_eq_eq_not.1 hq) (wm rfl (AF (b:=!decide (he.1=3)) rfl rfl (Bool.not_eq_eq_eq_not.1 hq) (wv (BX rfl) (wv (r:=rB (!he.2.1)) (Ay (b:=!decide (he.1=3)) rfl (Bool.not_eq_eq_eq_not.1 hq) rfl) (A2 ?_)))));obtain⟨hS,hT⟩:=AK hR;refine CP (b:=!he.2.1) rfl (Bool.not_eq_eq_eq_not.1 hS) (AC (Bd (As (wm rfl ?_))));obtain⟨ht,hU,hV⟩:=AR hT;refine Ej (Hr:=[.row v37 33 5 (List.map Ac hb.1),.row v33 33 5 (List.map Ac ha.1)]) Mk (HH b4 b5 he.2.2 ([99]:Ai) ht hU) rfl (Qj _) rfl ?_;rintro _ _ ⟨rfl,rfl⟩;refine wv (B4 rfl rfl) (wm rfl ?_);obtain⟨hm,hW⟩:=AK hV;refine wo hm (wm rfl (wo hm ?_));obtain⟨hu,hX,hY⟩:=AR hW;refine Ej (Hr:=[.row v37 33 5 (List.map Ac hb.1),.row v33 33 5 (List.map Ac ha.1)]) Tryd.call12 (GA b4 b5 ht.2 ([97]:Ai) hu hX) rfl (Qj _) rfl ?_;rintro _ _ ⟨rfl,rfl⟩;refine wo hm (wv (B4 rfl rfl) (Iu rfl hm rfl (wm rfl ?_)));obtain⟨hj,hZ⟩:=AK hY;refine wo hj (wm rfl (wo hj ?_));obtain⟨hw,ga,gb⟩:=AR hZ;refine Ig Tryd.call18 (KZ ([100]:Ai) 3 hw ga) rfl (wo hj ?_);obtain⟨gc,gd,ge⟩:=AR gb;refine Ej (Hr:=[.row v37 33 5 (List.map Ac hb.1),.row v33 33 5 (List.map Ac ha.1)]) Mj (HB F b4 b5 hu.2 hw 4 gc gd) rfl (Qj _) rfl ?_;rintro _ _ ⟨rfl,rfl⟩;refine wo hj (wv (B4 rfl rfl) (Iu rfl hj rfl (wa rfl (A2 (A4 ?_)))));obtain rfl:=A8 ge;exact A3 (BF Tryd.results7 (AZ rfl)) (sS (sS (sS (sS sN)))) ⟨rfl,rfl⟩
theorem Nb (F:Nat)(l:(List AE))(r:Bool)(h:HW F l=some r):Fn Tryd.prog GE 6 [AV 7 (List.map AD l)] [] (λR H=>R=rB r∧H=[]):=by
 refine enter (n:=20) Tryd.func6 rfl Tryd.ntmps6 rfl (λw Z=>?_);refine Bj (l':=[(0,AV 7 (List.map AD l))]) (H':=[]) rfl rfl ?_;unfold HW at h;refine As (wv (r:=rB false) (An rfl) (A2 (Ax (As (wm rfl (wv (Be (ys:=l) (enc:=AD) Jo rfl) (wv (Dh rfl rfl) (A2 (A6 (b:=decide (300<(l.length:Int))) rfl (λc1=>?_) (λc1=>?_))))))))))
 ·have h2:=AO c1 h;refine As (wv (r:=rB false) (An rfl) (A2 (A4 (Al ?_))));obtain rfl:=A8 h2;exact A3 (BF Tryd.results6 (AZ rfl)) sN ⟨rfl,rfl⟩
 ·have h3:=AP c1 h;refine AC (Bd (Ax (As (wm rfl (wv (Be (ys:=l) (enc:=AD) Jo rfl) (wv (r:=rI .i64 0) (Aj rfl) (A2 (AN ?_))))))));obtain⟨hk,hl,hh⟩:=AR h3;refine BL (S:=Nat×(Int)×(Unit)) (V:=(Unit)×(Unit)) 0 (λσ=>Dq (λσ=>Cm F l σ) σ.1 σ.2.1=some hk) (λσ=>[(0,AV 7 (List.map AD l)),(2,rB false),(8,rI .i64 (l.length:Int)),(9,rI .i64 σ.2.1)]) (λσ=>[]) (λσ=>σ.1) (F,0,()) hl (AM.c rfl (AM.c rfl (AM.c rfl (AM.c rfl AM.nil)))) sN (λσ=>EE =some r) (λσ=>[(2,rB false)]) (λσ=>[]) ?_ ?_
  ·rintro⟨h1,ha,⟨⟩⟩ hm;refine Bj (l':=[(0,AV 7 (List.map AD l)),(2,rB false),(8,rI .i64 (l.length:Int)),(9,rI .i64 ha)]) (H':=[]) rfl rfl ?_;obtain⟨hn,rfl,t46,hb,he⟩:=Ee hm;replace hb:Cm F l ha=some t46:=hb;unfold Cm at hb;refine As (wv (Dw rfl rfl) (A2 (Ax (A6 (b:=decide (ha<(l.length:Int))) rfl (λhf=>?_) (λhf=>?_)))))
   ·have ho:=AO hf hb;refine AC (Bd (Ax (AN (As (wm rfl (wa rfl (CF (wm rfl (wm rfl ?_)))))))));obtain⟨hp,hq⟩:=AK ho;refine wv (Bt (enc:=AD) (ys:=l) Jo Kg rfl rfl hp) (wv (AH Il rfl Bp rfl rfl) (wv (C6 Gd Bp rfl rfl rfl) ?_));obtain⟨hi,hr,hj⟩:=AR hq;refine Ig Tryd.call14 (M9 F ((Ak l ha).fTimer) hi hr) rfl (wv (BX rfl) (A2 (A6 (b:=!hi) rfl (λhg=>?_) (λhg=>?_))))
    ·have hs:=AO hg hj;refine As (wv (r:=rB false) (An rfl) (A2 (A4 (A9 (Al (Al (B1 ?_)))))));have ht:=Cw hs he hh;refine A9 (Al ?_);obtain rfl:=A8 ht;exact A3 (BF Tryd.results6 (AZ rfl)) sN ⟨rfl,rfl⟩
    ·have hu:=AP hg hj;refine AC (AT (Bd (Av ?_)));obtain⟨hw,hx⟩:=AK hu;refine wv (Cc rfl rfl hw) (wm rfl (Au ?_));have hy:=BN hx he;exact A0 (AQ (hn,ha+1,()) ⟨hy,QA _⟩ (AM.c rfl (AM.c rfl (AM.c rfl (AM.c rfl AM.nil)))) sN)
   ·have hz:=AP hf hb;refine B6 (AA ?_);have h0:=Dc hz he hh;exact AA (By (AQ ((),()) h0 (AM.c rfl AM.nil) sN))
  ·rintro⟨⟨⟩,⟨⟩⟩ hd;refine DD (l':=[(2,rB false)]) (H':=[]) rfl rfl ?_;replace hd:EE =some r:=hd;unfold EE at hd;refine Bq (Bd (As (wv (r:=rB true) (An rfl) (A2 (A4 ?_)))));obtain rfl:=A8 hd;exact A3 (BF Tryd.results6 (AZ rfl)) sN ⟨rfl,rfl⟩
theorem KY (F:Nat)(hb:Nat)(ha:Nat)(q:Ar)(o:AE)(r:Int×Ar)(h:I9 F q o=some r):Fn Tryd.prog GE 20 [rv (.pointer (some ⟨hb,0,none⟩)),Bh (AD o)] [.blk hb [rv (.map (some ha))] 45,.map ha (AJ Ah q.fTimers)] (λR H=>R=rI .i64 r.1∧H=[.blk hb [rv (.map (some ha))] 45,.map ha (AJ Ah r.2.fTimers)]):=by
 refine enter (n:=30) Tryd.func20 rfl Tryd.ntmps20 rfl (λw Z=>?_);refine Bj (l':=[(0,rv (.pointer (some ⟨hb,0,none⟩))),(1,Bh (AD o))]) (H':=[.blk hb [rv (.map (some ha))] 45,.map ha (AJ Ah q.fTimers)]) rfl rfl ?_;unfold I9 at h;refine As (BM rfl rfl (λb1=>?_));refine wv (r:=rI .i64 0) (An rfl) (A2 (Ax (As (wv (Af Il rfl Cu rfl rfl) (wv (Az (i:=0) CM rfl rfl rfl) (wv (B4 rfl rfl) (A2 (A6 (b:=decide (o.fKind=0)) rfl (λc2=>?_) (λc2=>?_)))))))))
 ·have h3:=AO c2 h;refine As (wm rfl (wv (Af Il rfl Bp rfl rfl) (wv (Bo (i:=0) Gd Bp rfl rfl rfl rfl) (wv (Af Il rfl Cu rfl rfl) (wv (Az (i:=0) CM rfl rfl rfl) ?_)))));obtain⟨r4,e6,h5⟩:=AR h3;refine Ej (Hr:=[.blk b1 (AD o) 41]) Mj (HB F hb ha q o.fTimer o.fNow r4 e6) rfl ((A1 (i:=1) rfl).trans (Qq _ ((A1 (i:=1) rfl).trans (Qq _ (Qj _))))) rfl ?_;rintro _ _ ⟨rfl,rfl⟩;refine wa rfl (A2 (A4 (Al ?_)));obtain rfl:=A8 h5;exact A3 (BF N2 (AZ rfl)) (sC (sC (sS sN))) ⟨rfl,rfl⟩
 ·have h7:=AP c2 h;refine AC (Bd (Ax (As (wv (Af Il rfl Cu rfl rfl) (wv (Az (i:=0) CM rfl rfl rfl) (wv (B4 rfl rfl) (A2 (A6 (b:=decide (o.fKind=2)) rfl (λc8=>?_) (λc8=>?_)))))))))
  ·have h9:=AO c8 h7;refine As (wm rfl (wv (Af Il rfl Bp rfl rfl) (wv (Af Bx rfl DA rfl rfl) (wv (Az (i:=0) DR rfl rfl rfl) ?_))));obtain⟨hf,hg,hh⟩:=AR h9;refine Ej (Hr:=[.blk b1 (AD o) 41]) Mk (HH hb ha q o.fTimer.fID hf hg) rfl ((A1 (i:=1) rfl).trans (Qq _ ((A1 (i:=1) rfl).trans (Qq _ (Qj _))))) rfl ?_;rintro _ _ ⟨rfl,rfl⟩;refine wa rfl (A2 (A4 (Al ?_)));obtain rfl:=A8 hh;exact A3 (BF N2 (AZ rfl)) (sC (sC (sS sN))) ⟨rfl,rfl⟩
  ·have he:=AP c8 h7;refine AC (Bd (Ax (As (wv (Af Il rfl Cu rfl rfl) (wv (Az (i:=0) CM rfl rfl rfl) (wv (B4 rfl rfl) (A2 (A6 (b:=decide (o.fKind=3)) rfl (λhd=>?_) (λhd=>?_)))))))))
   ·have hi:=AO hd he;refine As (wm rfl (wv (Af Il rfl Bp rfl rfl) (wv (Af Bx rfl DA rfl rfl) (wv (Az (i:=0) DR rfl rfl rfl) ?_))));obtain⟨hj,hk,hl⟩:=AR hi;refine Ej (Hr:=[.blk b1 (AD o) 41]) Tryd.call12 (GA hb ha q o.fTimer.fID hj hk) rfl ((A1 (i:=1) rfl).trans (Qq _ ((A1 (i:=1) rfl).trans (Qq _ (Qj _))))) rfl ?_;rintro _ _ ⟨rfl,rfl⟩;refine wa rfl (A2 (A4 (Al ?_)));obtain rfl:=A8 hl;exact A3 (BF N2 (AZ rfl)) (sC (sC (sS sN))) ⟨rfl,rfl⟩
   ·have hm:=AP hd he;refine AC (Bd (As (wv (r:=rI .i64 0) (An rfl) (A2 (A4 ?_)))));obtain rfl:=A8 hm;exact A3 (BF N2 (AZ rfl)) (sS (sC (sC sN))) ⟨rfl,rfl⟩
theorem LK (F:Nat)(l:(List AE))(r:Ar)(h:Gy F l=some r):Fn Tryd.prog GE 8 [AV 7 (List.map AD l)] [] (λR H=>∃u0:Nat,∃u0_0:Nat,R=rv (.pointer (some ⟨u0,0,none⟩))∧H=[.blk u0 [rv (.map (some u0_0))] 45,.map u0_0 (AJ Ah r.fTimers)]):=by
 refine enter (n:=36) Tryd.func8 rfl Tryd.ntmps8 rfl (λw Z=>?_);refine Bj (l':=[(0,AV 7 (List.map AD l))]) (H':=[]) rfl rfl ?_;unfold Gy at h;refine As (wv (r:=rv (.pointer none)) (An rfl) (CF ?_));obtain⟨r1,e3,h2⟩:=AR h;refine Ej (Hr:=[]) Tryd.call17 (Mw r1 e3) rfl (Qj _) rfl ?_;rintro _ _ ⟨b4,b5,rfl,rfl⟩;refine wa rfl (A2 (Ax (As (wv (r:=rI .i64 0) (An rfl) (A2 (AN ?_))))));obtain⟨hq,hr,hs⟩:=AR h2;refine BL (S:=Nat×(Int×(List (Ai×Aa)))×(Unit)) (V:=((List (Ai×Aa)))×(Unit)) 0 (λσ=>Dq (λσ=>C4 F l σ.1 σ.2) σ.1 σ.2.1=some hq) (λσ=>[(0,AV 7 (List.map AD l)),(3,rv (.pointer (some ⟨b4,0,none⟩))),(4,rI .i64 σ.2.1.1)]) (λσ=>[.blk b4 [rv (.map (some b5))] 45,.map b5 (AJ Ah σ.2.1.2)]) (λσ=>σ.1) (F,(0,r1.fTimers),()) hr (AM.c rfl (AM.c rfl (AM.c rfl AM.nil))) (sC (sC sN)) (λσ=>DX σ.1=some r) (λσ=>[(3,rv (.pointer (some ⟨b4,0,none⟩)))]) (λσ=>[.blk b4 [rv (.map (some b5))] 45,.map b5 (AJ Ah σ.1)]) ?_ ?_
 ·rintro⟨hG,⟨ha,hd⟩,⟨⟩⟩ ht;refine Bj (l':=[(0,AV 7 (List.map AD l)),(3,rv (.pointer (some ⟨b4,0,none⟩))),(4,rI .i64 ha)]) (H':=[.blk b4 [rv (.map (some b5))] 45,.map b5 (AJ Ah hd)]) rfl rfl ?_;obtain⟨hl,rfl,hu,he,hh⟩:=Ee ht;replace he:C4 F l ha hd=some hu:=he;unfold C4 at he;refine Ax (AI [(0,AV 7 (List.map AD l)),(3,rv (.pointer (some ⟨b4,0,none⟩))),(4,rI .i64 ha),(13,rB (decide (ha<(l.length:Int))))] [.blk b4 [rv (.map (some b5))] 45,.map b5 (AJ Ah hd)] ?_ ?_)
  ·refine Av (wm rfl (wm rfl (wv (Be (ys:=l) (enc:=AD) Jo rfl) (wv (Dw rfl rfl) (wm rfl (AG (decide (ha<(l.length:Int))) (λhb=>?_) (λhb=>?_)))))))
   ·refine wo hb (wm rfl (wo hb (wv (r:=rB true) (I3 ⟨_,Nz⟩ rfl) (Iu rfl hb rfl (Au ?_)))));exact CD hb
   ·refine wf hb (wf hb (wv (r:=rB false) (Ay (b:=decide (ha<(l.length:Int))) rfl hb rfl) (Au ?_)));exact CD hb
  refine A6 (b:=decide (ha<(l.length:Int))) rfl (λhi=>?_) (λhi=>?_)
  ·have hw:=AO hi he;refine AC (Bd (Ax (AN (Ax (As (wm rfl (wm rfl ?_)))))));obtain⟨hf,hm⟩:=AK hw;refine wv (Bt (enc:=AD) (ys:=l) Jo Kg rfl rfl hf) (wv (AH Il rfl Cu rfl rfl) (wv (Bn CM rfl rfl) (wv (B4 rfl rfl) (A2 (A6 (b:=decide (((Ak l ha).fKind)=1)) rfl (λhj=>?_) (λhj=>?_))))))
   ·have hx:=AO hj hm;refine Av (wm rfl (wm rfl (wm rfl (wv (Bt (enc:=AD) (ys:=l) Jo Kg rfl rfl hf) (wv (AH Il rfl Cu rfl rfl) (wv (Bn CM rfl rfl) ?_))))));obtain⟨hk,hy,hz⟩:=AR hx;refine Ej (Hr:=[]) Ln (G9 F b4 b5 (Ar.mk hd) ((Ak l ha).fNow) hk hy) rfl (Qj _) rfl ?_;rintro _ _ ⟨h0,rfl,rfl⟩;refine A2 (Av (wm rfl (wm rfl (wm rfl (wv (Bt (enc:=AD) (ys:=l) Jo Kg rfl rfl hf) (wv (C6 Tryd.isAgg41 Kg rfl rfl rfl) ?_))))));obtain⟨hn,h1,h3⟩:=AR hz;refine Ej (Hr:=[.row h0 33 5 (List.map Ac hk.1)]) Tryd.call20 (KY F b4 b5 hk.2 (AE.mk ((Ak l ha).fKind) ((Ak l ha).fNow) ((Ak l ha).fTimer)) hn h1) rfl ((A1 (i:=1) rfl).trans (Qq _ ((A1 (i:=1) rfl).trans (Qq _ (Qj _))))) rfl ?_;rintro _ _ ⟨rfl,rfl⟩;refine Au (AT (Bd (Av (wm rfl ?_))));obtain⟨h4,h5⟩:=AK h3;refine wv (Cc rfl rfl h4) (wa rfl (Au ?_));have h6:=BN h5 hh;exact A0 (AQ (hl,(ha+1,hn.2.fTimers),()) ⟨h6,QA _⟩ (AM.c rfl (AM.c rfl (AM.c rfl AM.nil))) (sC (sC (sS sN))))
   ·have h7:=AP hj hm;refine AC (Bd (Av (wm rfl (wm rfl (wm rfl (wv (Bt (enc:=AD) (ys:=l) Jo Kg rfl rfl hf) (wv (C6 Tryd.isAgg41 Kg rfl rfl rfl) ?_)))))));obtain⟨ho,h8,h9⟩:=AR h7;refine Ej (Hr:=[]) Tryd.call20 (KY F b4 b5 (Ar.mk hd) (AE.mk ((Ak l ha).fKind) ((Ak l ha).fNow) ((Ak l ha).fTimer)) ho h8) rfl (Qj _) rfl ?_;rintro _ _ ⟨rfl,rfl⟩;refine Au (AT (Bd (Av (wm rfl ?_))));obtain⟨hA,hB⟩:=AK h9;refine wv (Cc rfl rfl hA) (wa rfl (Au ?_));have hC:=BN hB hh;exact A0 (AQ (hl,(ha+1,ho.2.fTimers),()) ⟨hC,QA _⟩ (AM.c rfl (AM.c rfl (AM.c rfl AM.nil))) (sC (sC sN)))
  ·have hD:=AP hi he;refine B6 (AA ?_);have hE:=Dc hD hh hs;exact AA (By (AQ (hd,()) hE (AM.c rfl AM.nil) (sC (sC sN))))
 ·rintro⟨hp,⟨⟩⟩ hg;refine DD (l':=[(3,rv (.pointer (some ⟨b4,0,none⟩)))]) (H':=[.blk b4 [rv (.map (some b5))] 45,.map b5 (AJ Ah hp)]) rfl rfl ?_;replace hg:DX hp=some r:=hg;unfold DX at hg;refine Bq (Bd (As (wm rfl (wa rfl (A2 (A4 ?_))))));obtain rfl:=A8 hg;exact A3 (BF Tryd.results8 (AZ rfl)) (sC (sC sN)) ⟨b4,b5,rfl,rfl⟩
theorem Nd (F:Nat)(l:(List AE))(now:Int)(acknowledge:Int)(r:Bool)(h:HX F l now acknowledge=some r):Fn Tryd.prog GE 3 [AV 7 (List.map AD l),rI .i64 now,rI .i64 acknowledge] [] (λR H=>R=rB r∧H=[]):=by
 refine enter (n:=177) Tryd.func3 rfl Tryd.ntmps3 rfl (λw Z=>?_);refine Bj (l':=[(0,AV 7 (List.map AD l)),(1,rI .i64 now),(2,rI .i64 acknowledge)]) (H':=[]) rfl rfl ?_;unfold HX at h;refine As (wv (r:=rB false) (An rfl) (A2 (Ax (As (wm rfl ?_)))));obtain⟨r1,e3,h2⟩:=AR h;refine Ig Tryd.call6 (Nb F l r1 e3) rfl (wv (BX rfl) (A2 (A6 (b:=!r1) rfl (λc4=>?_) (λc4=>?_))))
 ·have h5:=AO c4 h2;refine As ?_;obtain⟨r6,e8,h7⟩:=AR h5;refine Ig Tryd.call7 (HY F r6 e8) rfl (wa rfl (A2 (A4 (Al ?_))));obtain rfl:=A8 h7;exact A3 (BF O9 (AZ rfl)) sN ⟨rfl,rfl⟩
 ·have h9:=AP c4 h2;refine AC (Bd (As (wm rfl ?_)));obtain⟨hQ,gc,gd⟩:=AR h9;refine Ej (Hr:=[]) Tryd.call8 (LK F l hQ gc) rfl (Qj _) rfl ?_;rintro _ _ ⟨hk,hl,rfl,rfl⟩;refine wa rfl (A2 (Ax (As (wm rfl (wv (r:=rB false) (ML ⟨_,Nz⟩ rfl) (A2 (CP rfl rfl (AC (Bd (As (wm rfl ?_)))))))))));obtain⟨hb,ge,gf⟩:=AR gd;refine Ej (Hr:=[]) Tryd.call9 (IP hk hl hQ hb ge) rfl (Qj _) rfl ?_;rintro _ _ ⟨gg,rfl,rfl⟩;refine WL.freeze (i:=0) rfl (WL.up (d:=21) (r:=AV 5 (List.map Ac hb.1)) rfl (Up.fact (i:=0) rfl) (wa rfl (CF (wm rfl (wm rfl ?_)))));obtain⟨hd,gh,gi⟩:=AR gf;refine Ej (Hr:=[.fact gg (AV 5 (List.map Ac hb.1))]) Ln (G9 F hk hl hb.2 now hd gh) rfl ((A1 (i:=1) rfl).trans (Qq _ ((A1 (i:=1) rfl).trans (Qq _ (Qj _))))) rfl ?_;rintro _ _ ⟨v22,rfl,rfl⟩;refine WL.freeze (i:=0) rfl (WL.up (d:=24) (r:=AV 5 (List.map Ac hd.1)) rfl (Up.fact (i:=0) rfl) (wa rfl (A2 (Ax ?_))));obtain⟨gj,gk⟩:=AK gi;obtain⟨gl,hR⟩:=AK gk;refine AI [(1,rI .i64 now),(2,rI .i64 acknowledge),(7,rv (.pointer (some ⟨hk,0,none⟩))),(8,AV 5 (List.map Ac hb.1)),(9,AV 5 (List.map Ac hd.1)),(38,rB ((decide ((hb.1.length:Int)<(hd.1.length:Int)))||(!(ov (AW F hd.1 (List.take (Int.toNat (hd.1.length:Int)) hb.1))))))] [.blk hk [rv (.map (some hl))] 45,.map hl (AJ Ah hd.2.fTimers)] ?_ ?_
  ·refine Av (wm rfl (wv (Be (ys:=hd.1) (enc:=Ac) Bs rfl) (wm rfl (wv (Be (ys:=hb.1) (enc:=Ac) Bs rfl) (wv (Dh rfl rfl) (wm rfl (AG (decide ((hb.1.length:Int)<(hd.1.length:Int))) (λhm=>?_) (λhm=>?_))))))))
   ·refine wf hm (wf hm (wf hm (wf hm (wf hm (wf hm (wf hm (wv (r:=rB true) (Aq (b:=decide ((hb.1.length:Int)<(hd.1.length:Int))) rfl hm rfl) (Au ?_))))))));exact CD hm
   ·refine wo hm (wm rfl (wo hm (wm rfl (wo hm (wm rfl (wo hm (wv (Be (ys:=hd.1) (enc:=Ac) Bs rfl) (wo hm (wv (r:=AV 5 (List.map Ac (List.take (Int.toNat (hd.1.length:Int)) hb.1))) (C0 Bs Bp rfl rfl (Dz gj hm)) (wo hm (Ig Ki (Dv F hd.1 (List.take (Int.toNat (hd.1.length:Int)) hb.1) (ov (AW F hd.1 (List.take (Int.toNat (hd.1.length:Int)) hb.1))) (Iq (Dz gl hm))) rfl (wo hm (wv (BX rfl) (He rfl hm rfl (Au ?_)))))))))))))));exact CD hm
  refine A6 (b:=((decide ((hb.1.length:Int)<(hd.1.length:Int)))||(!(ov (AW F hd.1 (List.take (Int.toNat (hd.1.length:Int)) hb.1)))))) rfl (λh6=>?_) (λh6=>?_)
  ·have gm:=AO h6 hR;refine As (wv (r:=rB false) (An rfl) (A2 (A4 (Al ?_))));obtain rfl:=A8 gm;exact A3 (BF O9 (AZ rfl)) (sS (sS sN)) ⟨rfl,rfl⟩
  ·have gn:=AP h6 hR;refine AC (Bd (Ax (As (wm rfl (wv (Be (ys:=hb.1) (enc:=Ac) Bs rfl) (wv (r:=rI .i64 0) (Aj rfl) (A2 (AN ?_))))))));obtain⟨gp,gq,hS⟩:=AR gn;refine BL (S:=Nat×(Int)×(Unit)) (V:=(Unit)×(Unit)) 0 (λσ=>Dq (λσ=>C8 now hb hd σ) σ.1 σ.2.1=some gp) (λσ=>[(1,rI .i64 now),(2,rI .i64 acknowledge),(7,rv (.pointer (some ⟨hk,0,none⟩))),(8,AV 5 (List.map Ac hb.1)),(9,AV 5 (List.map Ac hd.1)),(40,rI .i64 (hb.1.length:Int)),(41,rI .i64 σ.2.1)]) (λσ=>[.blk hk [rv (.map (some hl))] 45,.map hl (AJ Ah hd.2.fTimers)]) (λσ=>σ.1) (F,0,()) gq (AM.c rfl (AM.c rfl (AM.c5 rfl rfl rfl rfl rfl AM.nil))) (sC (sC sN)) (λσ=>DM F now acknowledge hd =some r) (λσ=>[(1,rI .i64 now),(2,rI .i64 acknowledge),(7,rv (.pointer (some ⟨hk,0,none⟩))),(9,AV 5 (List.map Ac hd.1))]) (λσ=>[.blk hk [rv (.map (some hl))] 45,.map hl (AJ Ah hd.2.fTimers)]) ?_ ?_
   ·rintro⟨ce,ha,⟨⟩⟩ gr;refine Bj (l':=[(1,rI .i64 now),(2,rI .i64 acknowledge),(7,rv (.pointer (some ⟨hk,0,none⟩))),(8,AV 5 (List.map Ac hb.1)),(9,AV 5 (List.map Ac hd.1)),(40,rI .i64 (hb.1.length:Int)),(41,rI .i64 ha)]) (H':=[.blk hk [rv (.map (some hl))] 45,.map hl (AJ Ah hd.2.fTimers)]) rfl rfl ?_;obtain⟨gs,rfl,gt,hx,h8⟩:=Ee gr;replace hx:C8 now hb hd ha=some gt:=hx;unfold C8 at hx;refine As (wv (Dw rfl rfl) (A2 (Ax (A6 (b:=decide (ha<(hb.1.length:Int))) rfl (λhA=>?_) (λhA=>?_)))))
    ·have gu:=AO hA hx;refine AC (Bd (Ax (AN (As (wm rfl (wa rfl (A2 ?_)))))));obtain⟨hq,gv⟩:=AK gu;obtain⟨ht,gw⟩:=AK gv;obtain⟨hu,hT⟩:=AK gw;refine AI [(1,rI .i64 now),(2,rI .i64 acknowledge),(7,rv (.pointer (some ⟨hk,0,none⟩))),(8,AV 5 (List.map Ac hb.1)),(9,AV 5 (List.map Ac hd.1)),(40,rI .i64 (hb.1.length:Int)),(41,rI .i64 ha),(44,rI .i64 ha),(45,AV 5 (List.map Ac hd.1)),(46,rI .i64 (hd.1.length:Int)),(47,rB (decide (ha<(hd.1.length:Int)))),(48,AV 5 (List.map Ac hb.1)),(49,rI .i64 ha),(50,D3 (Ac (Ak hb.1 ha))),(51,D3 [rI .i64 ((Ak hb.1 ha).fAt),rS ((Ak hb.1 ha).fTenant),rS ((Ak hb.1 ha).fSource),AV 4 (List.map Ae ((Ak hb.1 ha).fBody))]),(52,rI .i64 ((Ak hb.1 ha).fAt)),(53,rI .i64 now),(54,rB (decide (((Ak hb.1 ha).fAt)≤now))),(55,rB (!((decide (ha<(hd.1.length:Int))) ==(decide (((Ak hb.1 ha).fAt)≤now))))),(56,rB (!((decide (ha<(hd.1.length:Int))) ==(decide (((Ak hb.1 ha).fAt)≤now))))),(101,rB ((!((decide (ha<(hd.1.length:Int))) ==(decide (((Ak hb.1 ha).fAt)≤now))))||((decide (0<ha))&&((decide (((Ak hb.1 ha).fAt)<((Ak hb.1 (ha-1)).fAt)))||((decide (((Ak hb.1 ha).fAt)=((Ak hb.1 (ha-1)).fAt)))&&(Bg ((Ak hb.1 ha).fID) ((Ak hb.1 (ha-1)).fID)||decide (((Ak hb.1 ha).fID)=((Ak hb.1 (ha-1)).fID))))))))] [.blk hk [rv (.map (some hl))] 45,.map hl (AJ Ah hd.2.fTimers)] ?_ ?_
     ·refine AG (!((decide (ha<(hd.1.length:Int))) ==(decide (((Ak hb.1 ha).fAt)≤now)))) (λhh=>?_) (λhh=>?_)
      ·refine Da [1,2,7,8,9,10,40,41] [⟨[],rI .i64 ha,0⟩,⟨[],AV 5 (List.map Ac hd.1),0⟩,⟨[1],rI .i64 (hd.1.length:Int),0⟩,⟨[0,2],rB (decide (ha<(hd.1.length:Int))),0⟩,⟨[],AV 5 (List.map Ac hb.1),0⟩,⟨[],rI .i64 ha,0⟩,⟨[4,5],D3 (Ac (Ak hb.1 ha)),0⟩,⟨[6],D3 [rI .i64 ((Ak hb.1 ha).fAt),rS ((Ak hb.1 ha).fTenant),rS ((Ak hb.1 ha).fSource),AV 4 (List.map Ae ((Ak hb.1 ha).fBody))],0⟩,⟨[7],rI .i64 ((Ak hb.1 ha).fAt),0⟩,⟨[],rI .i64 now,0⟩,⟨[8,9],rB (decide (((Ak hb.1 ha).fAt)≤now)),0⟩,⟨[3,10],rB (!((decide (ha<(hd.1.length:Int))) ==(decide (((Ak hb.1 ha).fAt)≤now)))),0⟩,⟨[11],rB (!((decide (ha<(hd.1.length:Int))) ==(decide (((Ak hb.1 ha).fAt)≤now)))),0⟩,⟨[12],rv undef,0⟩,⟨[13,12],rv undef,0⟩,⟨[14,12],rv undef,0⟩,⟨[15],rv undef,0⟩,⟨[15],rv undef,0⟩,⟨[16,17,15],rv undef,0⟩,⟨[18,15],rv undef,0⟩,⟨[19,15],rv undef,0⟩,⟨[15],rv undef,0⟩,⟨[15],rv undef,0⟩,⟨[22,15],rv undef,0⟩,⟨[21,23,15],rv undef,0⟩,⟨[24,15],rv undef,0⟩,⟨[25,15],rv undef,0⟩,⟨[20,26,15],rv undef,0⟩,⟨[27,15],rv undef,0⟩,⟨[28],rv undef,0⟩,⟨[28],rv undef,0⟩,⟨[29,30,28],rv undef,0⟩,⟨[31,28],rv undef,0⟩,⟨[32,28],rv undef,0⟩,⟨[28],rv undef,0⟩,⟨[28],rv undef,0⟩,⟨[35,28],rv undef,0⟩,⟨[34,36,28],rv undef,0⟩,⟨[37,28],rv undef,0⟩,⟨[38,28],rv undef,0⟩,⟨[33,39,28],rv undef,0⟩,⟨[40,28],rv undef,0⟩,⟨[41],rv undef,0⟩,⟨[41],rv undef,0⟩,⟨[42,43,41],rv undef,0⟩,⟨[44,41],rv undef,0⟩,⟨[45,41],rv undef,0⟩,⟨[41],rv undef,0⟩,⟨[41],rv undef,0⟩,⟨[48,41],rv undef,0⟩,⟨[47,49,41],rv undef,0⟩,⟨[50,41],rv undef,0⟩,⟨[51,41],rv undef,0⟩,⟨[46,52,41],rv undef,0⟩,⟨[41,53,28],rv undef,0⟩,⟨[28,54,15],rv undef,0⟩,⟨[15,55,12],rv undef,0⟩,⟨[12,56],rB true,0⟩] [44,45,46,47,48,49,50,51,52,53,54,55,56,57,58,59,60,61,62,63,64,65,66,67,68,69,70,71,72,73,74,75,76,77,78,79,80,81,82,83,84,85,86,87,88,89,90,91,92,93,94,95,96,97,98,99,100,101,1,2,7,8,9,40,41] ?_ ?_
       ·refine oq (Aj rfl) (oq (Aj rfl) (oq (Be (ys:=hd.1) (enc:=Ac) Bs rfl) (oq (Dw rfl rfl) (oq (Aj rfl) (oq (Aj rfl) (oq (Bt (enc:=Ac) (ys:=hb.1) Bs Bp rfl rfl hq) (oq (AH Bx rfl Cu rfl rfl) (oq (Bn CM rfl rfl) (oq (Aj rfl) (oq (EW rfl rfl) (oq (I4 Pk rfl rfl) (oq (Aj rfl) (oz hh (oz hh (oz hh (ou (ou (ou (ou (ou (ou (ou (ou ?_)))))))))))))))))))))));refine ou (ou (ou (ou (ou (ou (ou (ou (ou (ou (ou (ou (ou (ou (ou (ou (ou (ou (ou (ou (ou (ou (ou (ou ?_)))))))))))))))))))))));refine ou (ou (ou (ou (ou (ou (ou (ou (oz hh (oq (Aq (b:=!((decide (ha<(hd.1.length:Int))) ==(decide (((Ak hb.1 ha).fAt)≤now)))) rfl hh rfl) ?_)))))))));exact CI
       exact CD hh
      ·refine AG (decide (0<ha)) (λhe=>?_) (λhe=>?_)
       ·refine AG (decide (((Ak hb.1 ha).fAt)<((Ak hb.1 (ha-1)).fAt))) (λhf=>?_) (λhf=>?_)
        ·refine Da [1,2,7,8,9,10,40,41] [⟨[],rI .i64 ha,0⟩,⟨[],AV 5 (List.map Ac hd.1),0⟩,⟨[1],rI .i64 (hd.1.length:Int),0⟩,⟨[0,2],rB (decide (ha<(hd.1.length:Int))),0⟩,⟨[],AV 5 (List.map Ac hb.1),0⟩,⟨[],rI .i64 ha,0⟩,⟨[4,5],D3 (Ac (Ak hb.1 ha)),0⟩,⟨[6],D3 [rI .i64 ((Ak hb.1 ha).fAt),rS ((Ak hb.1 ha).fTenant),rS ((Ak hb.1 ha).fSource),AV 4 (List.map Ae ((Ak hb.1 ha).fBody))],0⟩,⟨[7],rI .i64 ((Ak hb.1 ha).fAt),0⟩,⟨[],rI .i64 now,0⟩,⟨[8,9],rB (decide (((Ak hb.1 ha).fAt)≤now)),0⟩,⟨[3,10],rB (!((decide (ha<(hd.1.length:Int))) ==(decide (((Ak hb.1 ha).fAt)≤now)))),0⟩,⟨[11],rB (!((decide (ha<(hd.1.length:Int))) ==(decide (((Ak hb.1 ha).fAt)≤now)))),0⟩,⟨[12],rI .i64 ha,0⟩,⟨[13,12],rB (decide (0<ha)),0⟩,⟨[14,12],rB (decide (0<ha)),0⟩,⟨[15],AV 5 (List.map Ac hb.1),0⟩,⟨[15],rI .i64 ha,0⟩,⟨[16,17,15],D3 (Ac (Ak hb.1 ha)),0⟩,⟨[18,15],D3 [rI .i64 ((Ak hb.1 ha).fAt),rS ((Ak hb.1 ha).fTenant),rS ((Ak hb.1 ha).fSource),AV 4 (List.map Ae ((Ak hb.1 ha).fBody))],0⟩,⟨[19,15],rI .i64 ((Ak hb.1 ha).fAt),0⟩,⟨[15],AV 5 (List.map Ac hb.1),0⟩,⟨[15],rI .i64 ha,0⟩,⟨[22,15],rI .i64 (ha-1),0⟩,⟨[21,23,15],D3 (Ac (Ak hb.1 (ha-1))),0⟩,⟨[24,15],D3 [rI .i64 ((Ak hb.1 (ha-1)).fAt),rS ((Ak hb.1 (ha-1)).fTenant),rS ((Ak hb.1 (ha-1)).fSource),AV 4 (List.map Ae ((Ak hb.1 (ha-1)).fBody))],0⟩,⟨[25,15],rI .i64 ((Ak hb.1 (ha-1)).fAt),0⟩,⟨[20,26,15],rB (decide (((Ak hb.1 ha).fAt)<((Ak hb.1 (ha-1)).fAt))),0⟩,⟨[27,15],rB (decide (((Ak hb.1 ha).fAt)<((Ak hb.1 (ha-1)).fAt))),0⟩,⟨[28],rv undef,0⟩,⟨[28],rv undef,0⟩,⟨[29,30,28],rv undef,0⟩,⟨[31,28],rv undef,0⟩,⟨[32,28],rv undef,0⟩,⟨[28],rv undef,0⟩,⟨[28],rv undef,0⟩,⟨[35,28],rv undef,0⟩,⟨[34,36,28],rv undef,0⟩,⟨[37,28],rv undef,0⟩,⟨[38,28],rv undef,0⟩,⟨[33,39,28],rv undef,0⟩,⟨[40,28],rv undef,0⟩,⟨[41],rv undef,0⟩,⟨[41],rv undef,0⟩,⟨[42,43,41],rv undef,0⟩,⟨[44,41],rv undef,0⟩,⟨[45,41],rv undef,0⟩,⟨[41],rv undef,0⟩,⟨[41],rv undef,0⟩,⟨[48,41],rv undef,0⟩,⟨[47,49,41],rv undef,0⟩,⟨[50,41],rv undef,0⟩,⟨[51,41],rv undef,0⟩,⟨[46,52,41],rv undef,0⟩,⟨[41,53,28],rv undef,0⟩,⟨[28,54,15],rB true,0⟩,⟨[15,55,12],rB true,0⟩,⟨[12,56],rB true,0⟩] [44,45,46,47,48,49,50,51,52,53,54,55,56,57,58,59,60,61,62,63,64,65,66,67,68,69,70,71,72,73,74,75,76,77,78,79,80,81,82,83,84,85,86,87,88,89,90,91,92,93,94,95,96,97,98,99,100,101,1,2,7,8,9,40,41] ?_ ?_
         ·refine oq (Aj rfl) (oq (Aj rfl) (oq (Be (ys:=hd.1) (enc:=Ac) Bs rfl) (oq (Dw rfl rfl) (oq (Aj rfl) (oq (Aj rfl) (oq (Bt (enc:=Ac) (ys:=hb.1) Bs Bp rfl rfl hq) (oq (AH Bx rfl Cu rfl rfl) (oq (Bn CM rfl rfl) (oq (Aj rfl) (oq (EW rfl rfl) (oq (I4 Pk rfl rfl) (oq (Aj rfl) (on hh (oq (Aj rfl) (on hh (oq (Dh rfl rfl) (on hh (oq (Aj rfl) (on he (oq (Aj rfl) (on he (oq (Aj rfl) (on he ?_)))))))))))))))))))))));refine oq (Bt (enc:=Ac) (ys:=hb.1) Bs Bp rfl rfl hq) (on he (oq (AH Bx rfl Cu rfl rfl) (on he (oq (Bn CM rfl rfl) (on he (oq (Aj rfl) (on he (oq (Aj rfl) (on he (oq (DK rfl rfl (BP (Dz ht hh) he)) (on he (oq (Bt (enc:=Ac) (ys:=hb.1) Bs Bp rfl rfl (BP (Dz hu hh) he)) (on he (oq (AH Bx rfl Cu rfl rfl) (on he (oq (Bn CM rfl rfl) (on he (oq (Dw rfl rfl) (on he (oq (Aj rfl) (oz hf (oz hf (oz hf ?_)))))))))))))))))))))));refine oz hf (oz hf (oz hf (oz hf (oz hf (oz hf (oz hf (oz hf (oz hf (oz hf (ou (ou (ou (ou (ou (ou (ou (ou (ou (ou (ou (ou (oz hf (on he ?_)))))))))))))))))))))));refine oq (Aq (b:=decide (((Ak hb.1 ha).fAt)<((Ak hb.1 (ha-1)).fAt))) rfl hf rfl) (on hh (oq (Aq rfl he rfl) (oq (Ay rfl hh rfl) ?_)));exact CI
         exact CD (And.intro hh (And.intro he hf))
        ·refine AG (decide (((Ak hb.1 ha).fAt)=((Ak hb.1 (ha-1)).fAt))) (λhj=>?_) (λhj=>?_)
         ·refine Da [1,2,7,8,9,10,40,41] [⟨[],rI .i64 ha,0⟩,⟨[],AV 5 (List.map Ac hd.1),0⟩,⟨[1],rI .i64 (hd.1.length:Int),0⟩,⟨[0,2],rB (decide (ha<(hd.1.length:Int))),0⟩,⟨[],AV 5 (List.map Ac hb.1),0⟩,⟨[],rI .i64 ha,0⟩,⟨[4,5],D3 (Ac (Ak hb.1 ha)),0⟩,⟨[6],D3 [rI .i64 ((Ak hb.1 ha).fAt),rS ((Ak hb.1 ha).fTenant),rS ((Ak hb.1 ha).fSource),AV 4 (List.map Ae ((Ak hb.1 ha).fBody))],0⟩,⟨[7],rI .i64 ((Ak hb.1 ha).fAt),0⟩,⟨[],rI .i64 now,0⟩,⟨[8,9],rB (decide (((Ak hb.1 ha).fAt)≤now)),0⟩,⟨[3,10],rB (!((decide (ha<(hd.1.length:Int))) ==(decide (((Ak hb.1 ha).fAt)≤now)))),0⟩,⟨[11],rB (!((decide (ha<(hd.1.length:Int))) ==(decide (((Ak hb.1 ha).fAt)≤now)))),0⟩,⟨[12],rI .i64 ha,0⟩,⟨[13,12],rB (decide (0<ha)),0⟩,⟨[14,12],rB (decide (0<ha)),0⟩,⟨[15],AV 5 (List.map Ac hb.1),0⟩,⟨[15],rI .i64 ha,0⟩,⟨[16,17,15],D3 (Ac (Ak hb.1 ha)),0⟩,⟨[18,15],D3 [rI .i64 ((Ak hb.1 ha).fAt),rS ((Ak hb.1 ha).fTenant),rS ((Ak hb.1 ha).fSource),AV 4 (List.map Ae ((Ak hb.1 ha).fBody))],0⟩,⟨[19,15],rI .i64 ((Ak hb.1 ha).fAt),0⟩,⟨[15],AV 5 (List.map Ac hb.1),0⟩,⟨[15],rI .i64 ha,0⟩,⟨[22,15],rI .i64 (ha-1),0⟩,⟨[21,23,15],D3 (Ac (Ak hb.1 (ha-1))),0⟩,⟨[24,15],D3 [rI .i64 ((Ak hb.1 (ha-1)).fAt),rS ((Ak hb.1 (ha-1)).fTenant),rS ((Ak hb.1 (ha-1)).fSource),AV 4 (List.map Ae ((Ak hb.1 (ha-1)).fBody))],0⟩,⟨[25,15],rI .i64 ((Ak hb.1 (ha-1)).fAt),0⟩,⟨[20,26,15],rB (decide (((Ak hb.1 ha).fAt)<((Ak hb.1 (ha-1)).fAt))),0⟩,⟨[27,15],rB (decide (((Ak hb.1 ha).fAt)<((Ak hb.1 (ha-1)).fAt))),0⟩,⟨[28],AV 5 (List.map Ac hb.1),0⟩,⟨[28],rI .i64 ha,0⟩,⟨[29,30,28],D3 (Ac (Ak hb.1 ha)),0⟩,⟨[31,28],D3 [rI .i64 ((Ak hb.1 ha).fAt),rS ((Ak hb.1 ha).fTenant),rS ((Ak hb.1 ha).fSource),AV 4 (List.map Ae ((Ak hb.1 ha).fBody))],0⟩,⟨[32,28],rI .i64 ((Ak hb.1 ha).fAt),0⟩,⟨[28],AV 5 (List.map Ac hb.1),0⟩,⟨[28],rI .i64 ha,0⟩,⟨[35,28],rI .i64 (ha-1),0⟩,⟨[34,36,28],D3 (Ac (Ak hb.1 (ha-1))),0⟩,⟨[37,28],D3 [rI .i64 ((Ak hb.1 (ha-1)).fAt),rS ((Ak hb.1 (ha-1)).fTenant),rS ((Ak hb.1 (ha-1)).fSource),AV 4 (List.map Ae ((Ak hb.1 (ha-1)).fBody))],0⟩,⟨[38,28],rI .i64 ((Ak hb.1 (ha-1)).fAt),0⟩,⟨[33,39,28],rB (decide (((Ak hb.1 ha).fAt)=((Ak hb.1 (ha-1)).fAt))),0⟩,⟨[40,28],rB (decide (((Ak hb.1 ha).fAt)=((Ak hb.1 (ha-1)).fAt))),0⟩,⟨[41],AV 5 (List.map Ac hb.1),0⟩,⟨[41],rI .i64 ha,0⟩,⟨[42,43,41],D3 (Ac (Ak hb.1 ha)),0⟩,⟨[44,41],D3 (Ac (Ak hb.1 ha)),0⟩,⟨[45,41],rS ((Ak hb.1 ha).fID),0⟩,⟨[41],AV 5 (List.map Ac hb.1),0⟩,⟨[41],rI .i64 ha,0⟩,⟨[48,41],rI .i64 (ha-1),0⟩,⟨[47,49,41],D3 (Ac (Ak hb.1 (ha-1))),0⟩,⟨[50,41],D3 (Ac (Ak hb.1 (ha-1))),0⟩,⟨[51,41],rS ((Ak hb.1 (ha-1)).fID),0⟩,⟨[46,52,41],rB (Bg ((Ak hb.1 ha).fID) ((Ak hb.1 (ha-1)).fID)||decide (((Ak hb.1 ha).fID)=((Ak hb.1 (ha-1)).fID))),0⟩,⟨[41,53,28],rB (Bg ((Ak hb.1 ha).fID) ((Ak hb.1 (ha-1)).fID)||decide (((Ak hb.1 ha).fID)=((Ak hb.1 (ha-1)).fID))),0⟩,⟨[28,54,15],rB (Bg ((Ak hb.1 ha).fID) ((Ak hb.1 (ha-1)).fID)||decide (((Ak hb.1 ha).fID)=((Ak hb.1 (ha-1)).fID))),0⟩,⟨[15,55,12],rB (Bg ((Ak hb.1 ha).fID) ((Ak hb.1 (ha-1)).fID)||decide (((Ak hb.1 ha).fID)=((Ak hb.1 (ha-1)).fID))),0⟩,⟨[12,56],rB (Bg ((Ak hb.1 ha).fID) ((Ak hb.1 (ha-1)).fID)||decide (((Ak hb.1 ha).fID)=((Ak hb.1 (ha-1)).fID))),0⟩] [44,45,46,47,48,49,50,51,52,53,54,55,56,57,58,59,60,61,62,63,64,65,66,67,68,69,70,71,72,73,74,75,76,77,78,79,80,81,82,83,84,85,86,87,88,89,90,91,92,93,94,95,96,97,98,99,100,101,1,2,7,8,9,40,41] ?_ ?_
          ·refine oq (Aj rfl) (oq (Aj rfl) (oq (Be (ys:=hd.1) (enc:=Ac) Bs rfl) (oq (Dw rfl rfl) (oq (Aj rfl) (oq (Aj rfl) (oq (Bt (enc:=Ac) (ys:=hb.1) Bs Bp rfl rfl hq) (oq (AH Bx rfl Cu rfl rfl) (oq (Bn CM rfl rfl) (oq (Aj rfl) (oq (EW rfl rfl) (oq (I4 Pk rfl rfl) (oq (Aj rfl) (on hh (oq (Aj rfl) (on hh (oq (Dh rfl rfl) (on hh (oq (Aj rfl) (on he (oq (Aj rfl) (on he (oq (Aj rfl) (on he ?_)))))))))))))))))))))));refine oq (Bt (enc:=Ac) (ys:=hb.1) Bs Bp rfl rfl hq) (on he (oq (AH Bx rfl Cu rfl rfl) (on he (oq (Bn CM rfl rfl) (on he (oq (Aj rfl) (on he (oq (Aj rfl) (on he (oq (DK rfl rfl (BP (Dz ht hh) he)) (on he (oq (Bt (enc:=Ac) (ys:=hb.1) Bs Bp rfl rfl (BP (Dz hu hh) he)) (on he (oq (AH Bx rfl Cu rfl rfl) (on he (oq (Bn CM rfl rfl) (on he (oq (Dw rfl rfl) (on he (oq (Aj rfl) (on hf (oq (Aj rfl) (on hf ?_)))))))))))))))))))))));refine oq (Aj rfl) (on hf (oq (Bt (enc:=Ac) (ys:=hb.1) Bs Bp rfl rfl hq) (on hf (oq (AH Bx rfl Cu rfl rfl) (on hf (oq (Bn CM rfl rfl) (on hf (oq (Aj rfl) (on hf (oq (Aj rfl) (on hf (oq (DK rfl rfl (BP (Dz ht hh) he)) (on hf (oq (Bt (enc:=Ac) (ys:=hb.1) Bs Bp rfl rfl (BP (Dz hu hh) he)) (on hf (oq (AH Bx rfl Cu rfl rfl) (on hf (oq (Bn CM rfl rfl) (on hf (oq (B4 rfl rfl) (on hf (oq (Aj rfl) (on hj ?_)))))))))))))))))))))));refine oq (Aj rfl) (on hj (oq (Aj rfl) (on hj (oq (Bt (enc:=Ac) (ys:=hb.1) Bs Bp rfl rfl hq) (on hj (oq (AH Bx rfl DA rfl rfl) (on hj (oq (Bn DR rfl rfl) (on hj (oq (Aj rfl) (on hj (oq (Aj rfl) (on hj (oq (DK rfl rfl (BP (Dz ht hh) he)) (on hj (oq (Bt (enc:=Ac) (ys:=hb.1) Bs Bp rfl rfl (BP (Dz hu hh) he)) (on hj (oq (AH Bx rfl DA rfl rfl) (on hj (oq (Bn DR rfl rfl) (on hj (oq (MK rfl rfl) (on hf ?_)))))))))))))))))))))));refine oq (Aq rfl hj rfl) (on he (oq (Ay rfl hf rfl) (on hh (oq (Aq rfl he rfl) (oq (Ay rfl hh rfl) ?_)))));exact CI
          exact CD (And.intro hh (And.intro he (And.intro hf hj)))
         ·refine Da [1,2,7,8,9,10,40,41] [⟨[],rI .i64 ha,0⟩,⟨[],AV 5 (List.map Ac hd.1),0⟩,⟨[1],rI .i64 (hd.1.length:Int),0⟩,⟨[0,2],rB (decide (ha<(hd.1.length:Int))),0⟩,⟨[],AV 5 (List.map Ac hb.1),0⟩,⟨[],rI .i64 ha,0⟩,⟨[4,5],D3 (Ac (Ak hb.1 ha)),0⟩,⟨[6],D3 [rI .i64 ((Ak hb.1 ha).fAt),rS ((Ak hb.1 ha).fTenant),rS ((Ak hb.1 ha).fSource),AV 4 (List.map Ae ((Ak hb.1 ha).fBody))],0⟩,⟨[7],rI .i64 ((Ak hb.1 ha).fAt),0⟩,⟨[],rI .i64 now,0⟩,⟨[8,9],rB (decide (((Ak hb.1 ha).fAt)≤now)),0⟩,⟨[3,10],rB (!((decide (ha<(hd.1.length:Int))) ==(decide (((Ak hb.1 ha).fAt)≤now)))),0⟩,⟨[11],rB (!((decide (ha<(hd.1.length:Int))) ==(decide (((Ak hb.1 ha).fAt)≤now)))),0⟩,⟨[12],rI .i64 ha,0⟩,⟨[13,12],rB (decide (0<ha)),0⟩,⟨[14,12],rB (decide (0<ha)),0⟩,⟨[15],AV 5 (List.map Ac hb.1),0⟩,⟨[15],rI .i64 ha,0⟩,⟨[16,17,15],D3 (Ac (Ak hb.1 ha)),0⟩,⟨[18,15],D3 [rI .i64 ((Ak hb.1 ha).fAt),rS ((Ak hb.1 ha).fTenant),rS ((Ak hb.1 ha).fSource),AV 4 (List.map Ae ((Ak hb.1 ha).fBody))],0⟩,⟨[19,15],rI .i64 ((Ak hb.1 ha).fAt),0⟩,⟨[15],AV 5 (List.map Ac hb.1),0⟩,⟨[15],rI .i64 ha,0⟩,⟨[22,15],rI .i64 (ha-1),0⟩,⟨[21,23,15],D3 (Ac (Ak hb.1 (ha-1))),0⟩,⟨[24,15],D3 [rI .i64 ((Ak hb.1 (ha-1)).fAt),rS ((Ak hb.1 (ha-1)).fTenant),rS ((Ak hb.1 (ha-1)).fSource),AV 4 (List.map Ae ((Ak hb.1 (ha-1)).fBody))],0⟩,⟨[25,15],rI .i64 ((Ak hb.1 (ha-1)).fAt),0⟩,⟨[20,26,15],rB (decide (((Ak hb.1 ha).fAt)<((Ak hb.1 (ha-1)).fAt))),0⟩,⟨[27,15],rB (decide (((Ak hb.1 ha).fAt)<((Ak hb.1 (ha-1)).fAt))),0⟩,⟨[28],AV 5 (List.map Ac hb.1),0⟩,⟨[28],rI .i64 ha,0⟩,⟨[29,30,28],D3 (Ac (Ak hb.1 ha)),0⟩,⟨[31,28],D3 [rI .i64 ((Ak hb.1 ha).fAt),rS ((Ak hb.1 ha).fTenant),rS ((Ak hb.1 ha).fSource),AV 4 (List.map Ae ((Ak hb.1 ha).fBody))],0⟩,⟨[32,28],rI .i64 ((Ak hb.1 ha).fAt),0⟩,⟨[28],AV 5 (List.map Ac hb.1),0⟩,⟨[28],rI .i64 ha,0⟩,⟨[35,28],rI .i64 (ha-1),0⟩,⟨[34,36,28],D3 (Ac (Ak hb.1 (ha-1))),0⟩,⟨[37,28],D3 [rI .i64 ((Ak hb.1 (ha-1)).fAt),rS ((Ak hb.1 (ha-1)).fTenant),rS ((Ak hb.1 (ha-1)).fSource),AV 4 (List.map Ae ((Ak hb.1 (ha-1)).fBody))],0⟩,⟨[38,28],rI .i64 ((Ak hb.1 (ha-1)).fAt),0⟩,⟨[33,39,28],rB (decide (((Ak hb.1 ha).fAt)=((Ak hb.1 (ha-1)).fAt))),0⟩,⟨[40,28],rB (decide (((Ak hb.1 ha).fAt)=((Ak hb.1 (ha-1)).fAt))),0⟩,⟨[41],rv undef,0⟩,⟨[41],rv undef,0⟩,⟨[42,43,41],rv undef,0⟩,⟨[44,41],rv undef,0⟩,⟨[45,41],rv undef,0⟩,⟨[41],rv undef,0⟩,⟨[41],rv undef,0⟩,⟨[48,41],rv undef,0⟩,⟨[47,49,41],rv undef,0⟩,⟨[50,41],rv undef,0⟩,⟨[51,41],rv undef,0⟩,⟨[46,52,41],rv undef,0⟩,⟨[41,53,28],rB false,0⟩,⟨[28,54,15],rB false,0⟩,⟨[15,55,12],rB false,0⟩,⟨[12,56],rB false,0⟩] [44,45,46,47,48,49,50,51,52,53,54,55,56,57,58,59,60,61,62,63,64,65,66,67,68,69,70,71,72,73,74,75,76,77,78,79,80,81,82,83,84,85,86,87,88,89,90,91,92,93,94,95,96,97,98,99,100,101,1,2,7,8,9,40,41] ?_ ?_
          ·refine oq (Aj rfl) (oq (Aj rfl) (oq (Be (ys:=hd.1) (enc:=Ac) Bs rfl) (oq (Dw rfl rfl) (oq (Aj rfl) (oq (Aj rfl) (oq (Bt (enc:=Ac) (ys:=hb.1) Bs Bp rfl rfl hq) (oq (AH Bx rfl Cu rfl rfl) (oq (Bn CM rfl rfl) (oq (Aj rfl) (oq (EW rfl rfl) (oq (I4 Pk rfl rfl) (oq (Aj rfl) (on hh (oq (Aj rfl) (on hh (oq (Dh rfl rfl) (on hh (oq (Aj rfl) (on he (oq (Aj rfl) (on he (oq (Aj rfl) (on he ?_)))))))))))))))))))))));refine oq (Bt (enc:=Ac) (ys:=hb.1) Bs Bp rfl rfl hq) (on he (oq (AH Bx rfl Cu rfl rfl) (on he (oq (Bn CM rfl rfl) (on he (oq (Aj rfl) (on he (oq (Aj rfl) (on he (oq (DK rfl rfl (BP (Dz ht hh) he)) (on he (oq (Bt (enc:=Ac) (ys:=hb.1) Bs Bp rfl rfl (BP (Dz hu hh) he)) (on he (oq (AH Bx rfl Cu rfl rfl) (on he (oq (Bn CM rfl rfl) (on he (oq (Dw rfl rfl) (on he (oq (Aj rfl) (on hf (oq (Aj rfl) (on hf ?_)))))))))))))))))))))));refine oq (Aj rfl) (on hf (oq (Bt (enc:=Ac) (ys:=hb.1) Bs Bp rfl rfl hq) (on hf (oq (AH Bx rfl Cu rfl rfl) (on hf (oq (Bn CM rfl rfl) (on hf (oq (Aj rfl) (on hf (oq (Aj rfl) (on hf (oq (DK rfl rfl (BP (Dz ht hh) he)) (on hf (oq (Bt (enc:=Ac) (ys:=hb.1) Bs Bp rfl rfl (BP (Dz hu hh) he)) (on hf (oq (AH Bx rfl Cu rfl rfl) (on hf (oq (Bn CM rfl rfl) (on hf (oq (B4 rfl rfl) (on hf (oq (Aj rfl) (oz hj ?_)))))))))))))))))))))));refine oz hj (oz hj (oz hj (oz hj (oz hj (oz hj (oz hj (oz hj (oz hj (oz hj (oz hj (on hf (oq (Ay (b:=decide (((Ak hb.1 ha).fAt)=((Ak hb.1 (ha-1)).fAt))) rfl hj rfl) (on he (oq (Ay rfl hf rfl) (on hh (oq (Aq rfl he rfl) (oq (Ay rfl hh rfl) ?_)))))))))))))))));exact CI
          exact CD (And.intro hh (And.intro he (And.intro hf hj)))
       ·refine Da [1,2,7,8,9,10,40,41] [⟨[],rI .i64 ha,0⟩,⟨[],AV 5 (List.map Ac hd.1),0⟩,⟨[1],rI .i64 (hd.1.length:Int),0⟩,⟨[0,2],rB (decide (ha<(hd.1.length:Int))),0⟩,⟨[],AV 5 (List.map Ac hb.1),0⟩,⟨[],rI .i64 ha,0⟩,⟨[4,5],D3 (Ac (Ak hb.1 ha)),0⟩,⟨[6],D3 [rI .i64 ((Ak hb.1 ha).fAt),rS ((Ak hb.1 ha).fTenant),rS ((Ak hb.1 ha).fSource),AV 4 (List.map Ae ((Ak hb.1 ha).fBody))],0⟩,⟨[7],rI .i64 ((Ak hb.1 ha).fAt),0⟩,⟨[],rI .i64 now,0⟩,⟨[8,9],rB (decide (((Ak hb.1 ha).fAt)≤now)),0⟩,⟨[3,10],rB (!((decide (ha<(hd.1.length:Int))) ==(decide (((Ak hb.1 ha).fAt)≤now)))),0⟩,⟨[11],rB (!((decide (ha<(hd.1.length:Int))) ==(decide (((Ak hb.1 ha).fAt)≤now)))),0⟩,⟨[12],rI .i64 ha,0⟩,⟨[13,12],rB (decide (0<ha)),0⟩,⟨[14,12],rB (decide (0<ha)),0⟩,⟨[15],rv undef,0⟩,⟨[15],rv undef,0⟩,⟨[16,17,15],rv undef,0⟩,⟨[18,15],rv undef,0⟩,⟨[19,15],rv undef,0⟩,⟨[15],rv undef,0⟩,⟨[15],rv undef,0⟩,⟨[22,15],rv undef,0⟩,⟨[21,23,15],rv undef,0⟩,⟨[24,15],rv undef,0⟩,⟨[25,15],rv undef,0⟩,⟨[20,26,15],rv undef,0⟩,⟨[27,15],rv undef,0⟩,⟨[28],rv undef,0⟩,⟨[28],rv undef,0⟩,⟨[29,30,28],rv undef,0⟩,⟨[31,28],rv undef,0⟩,⟨[32,28],rv undef,0⟩,⟨[28],rv undef,0⟩,⟨[28],rv undef,0⟩,⟨[35,28],rv undef,0⟩,⟨[34,36,28],rv undef,0⟩,⟨[37,28],rv undef,0⟩,⟨[38,28],rv undef,0⟩,⟨[33,39,28],rv undef,0⟩,⟨[40,28],rv undef,0⟩,⟨[41],rv undef,0⟩,⟨[41],rv undef,0⟩,⟨[42,43,41],rv undef,0⟩,⟨[44,41],rv undef,0⟩,⟨[45,41],rv undef,0⟩,⟨[41],rv undef,0⟩,⟨[41],rv undef,0⟩,⟨[48,41],rv undef,0⟩,⟨[47,49,41],rv undef,0⟩,⟨[50,41],rv undef,0⟩,⟨[51,41],rv undef,0⟩,⟨[46,52,41],rv undef,0⟩,⟨[41,53,28],rv undef,0⟩,⟨[28,54,15],rv undef,0⟩,⟨[15,55,12],rB false,0⟩,⟨[12,56],rB false,0⟩] [44,45,46,47,48,49,50,51,52,53,54,55,56,57,58,59,60,61,62,63,64,65,66,67,68,69,70,71,72,73,74,75,76,77,78,79,80,81,82,83,84,85,86,87,88,89,90,91,92,93,94,95,96,97,98,99,100,101,1,2,7,8,9,40,41] ?_ ?_
        ·refine oq (Aj rfl) (oq (Aj rfl) (oq (Be (ys:=hd.1) (enc:=Ac) Bs rfl) (oq (Dw rfl rfl) (oq (Aj rfl) (oq (Aj rfl) (oq (Bt (enc:=Ac) (ys:=hb.1) Bs Bp rfl rfl hq) (oq (AH Bx rfl Cu rfl rfl) (oq (Bn CM rfl rfl) (oq (Aj rfl) (oq (EW rfl rfl) (oq (I4 Pk rfl rfl) (oq (Aj rfl) (on hh (oq (Aj rfl) (on hh (oq (Dh rfl rfl) (on hh (oq (Aj rfl) (oz he (oz he (oz he (oz he (oz he ?_)))))))))))))))))))))));refine oz he (oz he (oz he (oz he (oz he (oz he (oz he (oz he (ou (ou (ou (ou (ou (ou (ou (ou (ou (ou (ou (ou (ou (ou (ou (ou ?_)))))))))))))))))))))));refine ou (ou (ou (ou (ou (ou (ou (ou (ou (ou (oz he (on hh (oq (Ay (b:=decide (0<ha)) rfl he rfl) (oq (Ay rfl hh rfl) ?_)))))))))))));exact CI
        exact CD (And.intro hh he)
     refine A6 (b:=((!((decide (ha<(hd.1.length:Int))) ==(decide (((Ak hb.1 ha).fAt)≤now))))||((decide (0<ha))&&((decide (((Ak hb.1 ha).fAt)<((Ak hb.1 (ha-1)).fAt)))||((decide (((Ak hb.1 ha).fAt)=((Ak hb.1 (ha-1)).fAt)))&&(Bg ((Ak hb.1 ha).fID) ((Ak hb.1 (ha-1)).fID)||decide (((Ak hb.1 ha).fID)=((Ak hb.1 (ha-1)).fID)))))))) rfl (λhB=>?_) (λhB=>?_)
     ·have gx:=AO hB hT;refine As (wv (r:=rB false) (An rfl) (A2 (A4 (A9 (Al (Al (B1 ?_)))))));have gy:=Cw gx h8 hS;refine A9 (Al ?_);obtain rfl:=A8 gy;exact A3 (BF O9 (AZ rfl)) (sS (sS sN)) ⟨rfl,rfl⟩
     ·have gz:=AP hB hT;refine AC (AT (Bd (Av ?_)));obtain⟨g0,g1⟩:=AK gz;refine wv (Cc rfl rfl g0) (wm rfl (Au ?_));have g2:=BN g1 h8;exact A0 (AQ (gs,ha+1,()) ⟨g2,QA _⟩ (AM.c rfl (AM.c rfl (AM.c5 rfl rfl rfl rfl rfl AM.nil))) (sC (sC sN)))
    ·have g3:=AP hA hx;refine B6 (AA ?_);have g4:=Dc g3 h8 hS;exact AA (By (AQ ((),()) g4 (AM.c rfl (AM.c rfl (AM.c rfl (AM.c rfl AM.nil)))) (sC (sC sN))))
   ·rintro⟨⟨⟩,⟨⟩⟩ h4;refine DD (l':=[(1,rI .i64 now),(2,rI .i64 acknowledge),(7,rv (.pointer (some ⟨hk,0,none⟩))),(9,AV 5 (List.map Ac hd.1))]) (H':=[.blk hk [rv (.map (some hl))] 45,.map hl (AJ Ah hd.2.fTimers)]) rfl rfl ?_;replace h4:DM F now acknowledge hd =some r:=h4;unfold DM at h4;refine Bq (Bd (Ax (CO (S:=(Bool×(List (Ai×Aa)))×(Unit)) (λσ=>Cn F now acknowledge hd σ.1.1 σ.1.2=some r) (λσ=>[(1,rI .i64 now),(2,rI .i64 acknowledge),(7,rv (.pointer (some ⟨hk,0,none⟩))),(9,AV 5 (List.map Ac hd.1)),(118,rB σ.1.1)]) (λσ=>[.blk hk [rv (.map (some hl))] 45,.map hl (AJ Ah σ.1.2)]) ?_ ?_)))
    ·refine Av (wm rfl (wm rfl (wm rfl ?_)));obtain⟨hw,g5,g6⟩:=AR h4;refine Ej (Hr:=[]) Ln (G9 F hk hl hd.2 now hw g5) rfl (Qj _) rfl ?_;rintro _ _ ⟨cf,rfl,rfl⟩;refine WL.freeze (i:=0) rfl (WL.up (d:=106) (r:=AV 5 (List.map Ac hw.1)) rfl (Up.fact (i:=0) rfl) ?_);obtain⟨hC,g7,hU⟩:=AR g6;refine Ig Ki (Dv F hd.1 hw.1 hC g7) rfl (wv (BX rfl) (wm rfl (AG (!hC) (λhr=>?_) (λhr=>?_))))
     ·have g8:=AO hr hU;exact wf hr (wf hr (wv (r:=rB true) (Aq (b:=!hC) rfl hr rfl) (wm rfl (Am (b:=true) rfl rfl rfl rfl (Am (b:=true) rfl rfl rfl rfl (Am (b:=true) rfl rfl rfl rfl (Am (b:=true) rfl rfl rfl rfl (wv (r:=rB true) (Aq (b:=true) rfl rfl rfl) (Au (A0 (AQ ((true,hw.2.fTimers),()) g8 (AM.c5 rfl rfl rfl rfl rfl AM.nil) (sS (sC (sC sN))))))))))))))
     ·have hV:=AP hr hU;refine wo hr (wm rfl (wo hr (wv (Dw rfl rfl) (He rfl hr rfl (wm rfl (AG (decide (acknowledge<0)) (λhp=>?_) (λhp=>?_)))))))
      ·have g9:=AO hp hV;exact wf hp (wf hp (wf hp (wf hp (wv (r:=rB true) (Aq (b:=decide (acknowledge<0)) rfl hp rfl) (Au (A0 (AQ ((true,hw.2.fTimers),()) g9 (AM.c5 rfl rfl rfl rfl rfl AM.nil) (sS (sC (sC sN))))))))))
      ·have gA:=AP hp hV;exact wo hp (wm rfl (wo hp (wm rfl (wo hp (wv (Be (ys:=hd.1) (enc:=Ac) Bs rfl) (wo hp (wv (HR rfl rfl) (He rfl hp rfl (Au (A0 (AQ ((decide ((hd.1.length:Int)≤acknowledge),hw.2.fTimers),()) gA (AM.c5 rfl rfl rfl rfl rfl AM.nil) (sS (sC (sC sN))))))))))))))
    ·rintro⟨⟨hD,hE⟩,⟨⟩⟩ hy;refine Bj (l':=[(1,rI .i64 now),(2,rI .i64 acknowledge),(7,rv (.pointer (some ⟨hk,0,none⟩))),(9,AV 5 (List.map Ac hd.1)),(118,rB hD)]) (H':=[.blk hk [rv (.map (some hl))] 45,.map hl (AJ Ah hE)]) rfl rfl ?_;replace hy:Cn F now acknowledge hd hD hE=some r:=hy;unfold Cn at hy;refine A6 (b:=hD) rfl (λhG=>?_) (λhG=>?_)
     ·have gB:=AO hG hy;refine As ?_;obtain⟨gC,gD,gE⟩:=AR gB;refine Ig Tryd.call7 (HY F gC gD) rfl (wa rfl (A2 (A4 (Al ?_))));obtain rfl:=A8 gE;exact A3 (BF O9 (AZ rfl)) (sS (sS sN)) ⟨rfl,rfl⟩
     ·have gF:=AP hG hy;refine AC (Bd (Ax (CO (S:=(Bool×(List (Ai×Aa)))×(Unit)) (λσ=>CR F now acknowledge hd σ.1.1 σ.1.2=some r) (λσ=>[(1,rI .i64 now),(2,rI .i64 acknowledge),(7,rv (.pointer (some ⟨hk,0,none⟩))),(9,AV 5 (List.map Ac hd.1)),(147,rB σ.1.1)]) (λσ=>[.blk hk [rv (.map (some hl))] 45,.map hl (AJ Ah σ.1.2)]) ?_ ?_)))
      ·refine Av (wm rfl (wm rfl (wm rfl ?_)));obtain⟨hH,gG⟩:=AK gF;refine wv (Bt (enc:=Ac) (ys:=hd.1) Bs Bp rfl rfl hH) (wv (AH Bx rfl DA rfl rfl) (wv (Bn DR rfl rfl) ?_));obtain⟨hz,gH,hW⟩:=AR gG;refine Ej (Hr:=[]) Tryd.call12 (GA hk hl (Ar.mk hE) ((Ak hd.1 acknowledge).fID) hz gH) rfl (Qj _) rfl ?_;rintro _ _ ⟨rfl,rfl⟩;refine wv (D7 rfl rfl) (wm rfl (AG (!decide (hz.1=10)) (λhn=>?_) (λhn=>?_)))
       ·have gI:=AO hn hW;exact wf hn (wf hn (wf hn (wf hn (wf hn (wf hn (wf hn (wf hn (wv (r:=rB true) (Aq (b:=!decide (hz.1=10)) rfl hn rfl) (wm rfl (Am (b:=true) rfl rfl rfl rfl (Am (b:=true) rfl rfl rfl rfl (Am (b:=true) rfl rfl rfl rfl (Am (b:=true) rfl rfl rfl rfl (Am (b:=true) rfl rfl rfl rfl (Am (b:=true) rfl rfl rfl rfl (Am (b:=true) rfl rfl rfl rfl (Am (b:=true) rfl rfl rfl rfl (wv (r:=rB true) (Aq (b:=true) rfl rfl rfl) (Au (A0 (AQ ((true,hz.2.fTimers),()) gI (AM.c5 rfl rfl rfl rfl rfl AM.nil) (sC (sC sN)))))))))))))))))))))))
       ·have gJ:=AP hn hW;refine wo hn (wm rfl (wo hn (wm rfl (wo hn (wm rfl (wo hn (wv (Bt (enc:=Ac) (ys:=hd.1) Bs Bp rfl rfl hH) (wo hn (wv (AH Bx rfl DA rfl rfl) (wo hn (wv (Bn DR rfl rfl) (wo hn ?_))))))))))));obtain⟨h0,gK,hX⟩:=AR gJ;refine Ej (Hr:=[]) Mk (HH hk hl hz.2 ((Ak hd.1 acknowledge).fID) h0 gK) rfl (Qj _) rfl ?_;rintro _ _ ⟨rfl,rfl⟩;refine wo hn (wv (D7 rfl rfl) (He rfl hn rfl (wm rfl (AG (!decide (h0.1=0)) (λho=>?_) (λho=>?_)))))
        ·have gL:=AO ho hX;exact wf ho (wf ho (wf ho (wf ho (wf ho (wf ho (wf ho (wf ho (wv (r:=rB true) (Aq (b:=!decide (h0.1=0)) rfl ho rfl) (Au (A0 (AQ ((true,h0.2.fTimers),()) gL (AM.c5 rfl rfl rfl rfl rfl AM.nil) (sC (sC sN)))))))))))))
        ·have gM:=AP ho hX;refine wo ho (wm rfl (wo ho (wm rfl (wo ho (wm rfl (wo ho (wv (Bt (enc:=Ac) (ys:=hd.1) Bs Bp rfl rfl hH) (wo ho (wv (AH Bx rfl DA rfl rfl) (wo ho (wv (Bn DR rfl rfl) (wo ho ?_))))))))))));obtain⟨hI,gN,gO⟩:=AR gM;refine Ej (Hr:=[]) Mk (HH hk hl h0.2 ((Ak hd.1 acknowledge).fID) hI gN) rfl (Qj _) rfl ?_;rintro _ _ ⟨rfl,rfl⟩;exact wo ho (wv (D7 rfl rfl) (He rfl ho rfl (Au (A0 (AQ ((!decide (hI.1=5),hI.2.fTimers),()) gO (AM.c5 rfl rfl rfl rfl rfl AM.nil) (sC (sC sN)))))))
      ·rintro⟨⟨hJ,hK⟩,⟨⟩⟩ h1;refine Bj (l':=[(1,rI .i64 now),(2,rI .i64 acknowledge),(7,rv (.pointer (some ⟨hk,0,none⟩))),(9,AV 5 (List.map Ac hd.1)),(147,rB hJ)]) (H':=[.blk hk [rv (.map (some hl))] 45,.map hl (AJ Ah hK)]) rfl rfl ?_;replace h1:CR F now acknowledge hd hJ hK=some r:=h1;unfold CR at h1;refine A6 (b:=hJ) rfl (λhL=>?_) (λhL=>?_)
       ·have gP:=AO hL h1;refine As (wv (r:=rB false) (An rfl) (A2 (A4 (Al ?_))));obtain rfl:=A8 gP;exact A3 (BF O9 (AZ rfl)) (sS (sS sN)) ⟨rfl,rfl⟩
       ·have gQ:=AP hL h1;refine AC (Bd (As (wm rfl (wm rfl ?_))));obtain⟨hg,gR,gS⟩:=AR gQ;refine Ej (Hr:=[]) Ln (G9 F hk hl (Ar.mk hK) now hg gR) rfl (Qj _) rfl ?_;rintro _ _ ⟨cg,rfl,rfl⟩;refine WL.freeze (i:=0) rfl (WL.up (d:=150) (r:=AV 5 (List.map Ac hg.1)) rfl (Up.fact (i:=0) rfl) (wa rfl (A2 (Ax (As (wm rfl (wv (Be (ys:=hg.1) (enc:=Ac) Bs rfl) (wm rfl (wv (Be (ys:=hd.1) (enc:=Ac) Bs rfl) ?_)))))))));obtain⟨gT,hY⟩:=AK gS;refine wv (DK rfl rfl gT) (wv (D7 rfl rfl) (A2 (A6 (b:=!decide ((hg.1.length:Int)=((hd.1.length:Int)-1))) rfl (λhN=>?_) (λhN=>?_))))
        ·have gU:=AO hN hY;refine As (wv (r:=rB false) (An rfl) (A2 (A4 (Al ?_))));obtain rfl:=A8 gU;exact A3 (BF O9 (AZ rfl)) (sS (sS (sS sN))) ⟨rfl,rfl⟩
        ·have gV:=AP hN hY;refine AC (Bd ?_);obtain⟨h3,gW⟩:=AK gV;obtain⟨hO,gX⟩:=AK gW;obtain⟨hP,gY⟩:=AK gX;obtain⟨hZ,gZ⟩:=AK gY;obtain⟨ga,ca⟩:=AK gZ;obtain⟨gb,cb⟩:=AK ca;obtain⟨cc,cd⟩:=AK cb;refine AI [(6,rB ((ov (AW F (List.take (Int.toNat acknowledge) hg.1) (List.take (Int.toNat acknowledge) hd.1)))&&((ov (AW F (List.drop (Int.toNat acknowledge) hg.1) (List.drop (Int.toNat (acknowledge+1)) hd.1)))&&(ov (De F)))))] [] ?_ ?_
         ·refine AG ((ov (AW F (List.take (Int.toNat acknowledge) hg.1) (List.take (Int.toNat acknowledge) hd.1)))) (λhi=>?_) (λhi=>?_)
          ·refine AG ((ov (AW F (List.drop (Int.toNat acknowledge) hg.1) (List.drop (Int.toNat (acknowledge+1)) hd.1)))) (λhs=>?_) (λhs=>?_)
           ·refine Da [2,9,11] [⟨[],AV 5 (List.map Ac hg.1),0⟩,⟨[],rI .i64 acknowledge,0⟩,⟨[0,1],AV 5 (List.map Ac (List.take (Int.toNat acknowledge) hg.1)),0⟩,⟨[],AV 5 (List.map Ac hd.1),0⟩,⟨[],rI .i64 acknowledge,0⟩,⟨[3,4],AV 5 (List.map Ac (List.take (Int.toNat acknowledge) hd.1)),0⟩,⟨[2,5],rB (ov (AW F (List.take (Int.toNat acknowledge) hg.1) (List.take (Int.toNat acknowledge) hd.1))),0⟩,⟨[6],rB (ov (AW F (List.take (Int.toNat acknowledge) hg.1) (List.take (Int.toNat acknowledge) hd.1))),0⟩,⟨[7],AV 5 (List.map Ac hg.1),0⟩,⟨[7],rI .i64 acknowledge,0⟩,⟨[8,9,7],AV 5 (List.map Ac (List.drop (Int.toNat acknowledge) hg.1)),0⟩,⟨[7],AV 5 (List.map Ac hd.1),0⟩,⟨[7],rI .i64 acknowledge,0⟩,⟨[12,7],rI .i64 (acknowledge+1),0⟩,⟨[11,13,7],AV 5 (List.map Ac (List.drop (Int.toNat (acknowledge+1)) hd.1)),0⟩,⟨[10,14,7],rB (ov (AW F (List.drop (Int.toNat acknowledge) hg.1) (List.drop (Int.toNat (acknowledge+1)) hd.1))),0⟩,⟨[7,15],rB (ov (AW F (List.drop (Int.toNat acknowledge) hg.1) (List.drop (Int.toNat (acknowledge+1)) hd.1))),0⟩,⟨[16],rB (ov (AW F (List.drop (Int.toNat acknowledge) hg.1) (List.drop (Int.toNat (acknowledge+1)) hd.1))),0⟩,⟨[17],rB (ov (De F)),0⟩,⟨[17,18],rB (ov (De F)),0⟩,⟨[19],rB (ov (De F)),0⟩] [6] ?_ ?_
            ·refine oq (Aj rfl) (oq (Aj rfl) (oq (C0 Bs Bp rfl rfl h3) (oq (Aj rfl) (oq (Aj rfl) (oq (C0 Bs Bp rfl rfl hO) (Er rfl (λH=>Gu Ki (Dv F (List.take (Int.toNat acknowledge) hg.1) (List.take (Int.toNat acknowledge) hd.1) (ov (AW F (List.take (Int.toNat acknowledge) hg.1) (List.take (Int.toNat acknowledge) hd.1))) (Iq hP)) rfl) ?_))))));refine oq (Aj rfl) (on hi (oq (Aj rfl) (on hi (oq (Aj rfl) (on hi (oq (DV Bs Bp rfl rfl h3) (on hi (oq (Aj rfl) (on hi (oq (Aj rfl) (on hi (oq (Cc rfl rfl (BP hZ hi)) (on hi (oq (DV Bs Bp rfl rfl (BP ga hi)) (Er rfl (λH=>I1 (b:=(ov (AW F (List.take (Int.toNat acknowledge) hg.1) (List.take (Int.toNat acknowledge) hd.1)))) rfl rfl hi (Gu Ki (Dv F (List.drop (Int.toNat acknowledge) hg.1) (List.drop (Int.toNat (acknowledge+1)) hd.1) (ov (AW F (List.drop (Int.toNat acknowledge) hg.1) (List.drop (Int.toNat (acknowledge+1)) hd.1))) (Iq (BP gb hi))) rfl)) ?_)))))))))))))));refine oq (Aq rfl hi rfl) (oq (Aj rfl) (Er rfl (λH=>I1 (b:=(ov (AW F (List.drop (Int.toNat acknowledge) hg.1) (List.drop (Int.toNat (acknowledge+1)) hd.1)))) rfl rfl hs (Gu Tryd.call7 (HY F (ov (De F)) (Iq (BP (BP cc hi) hs))) rfl)) ?_));refine oq (Aq rfl hs rfl) (oq (An rfl) ?_);exact CI
            exact CD (And.intro hi hs)
           ·refine Da [2,9,11] [⟨[],AV 5 (List.map Ac hg.1),0⟩,⟨[],rI .i64 acknowledge,0⟩,⟨[0,1],AV 5 (List.map Ac (List.take (Int.toNat acknowledge) hg.1)),0⟩,⟨[],AV 5 (List.map Ac hd.1),0⟩,⟨[],rI .i64 acknowledge,0⟩,⟨[3,4],AV 5 (List.map Ac (List.take (Int.toNat acknowledge) hd.1)),0⟩,⟨[2,5],rB (ov (AW F (List.take (Int.toNat acknowledge) hg.1) (List.take (Int.toNat acknowledge) hd.1))),0⟩,⟨[6],rB (ov (AW F (List.take (Int.toNat acknowledge) hg.1) (List.take (Int.toNat acknowledge) hd.1))),0⟩,⟨[7],AV 5 (List.map Ac hg.1),0⟩,⟨[7],rI .i64 acknowledge,0⟩,⟨[8,9,7],AV 5 (List.map Ac (List.drop (Int.toNat acknowledge) hg.1)),0⟩,⟨[7],AV 5 (List.map Ac hd.1),0⟩,⟨[7],rI .i64 acknowledge,0⟩,⟨[12,7],rI .i64 (acknowledge+1),0⟩,⟨[11,13,7],AV 5 (List.map Ac (List.drop (Int.toNat (acknowledge+1)) hd.1)),0⟩,⟨[10,14,7],rB (ov (AW F (List.drop (Int.toNat acknowledge) hg.1) (List.drop (Int.toNat (acknowledge+1)) hd.1))),0⟩,⟨[7,15],rB (ov (AW F (List.drop (Int.toNat acknowledge) hg.1) (List.drop (Int.toNat (acknowledge+1)) hd.1))),0⟩,⟨[16],rB (ov (AW F (List.drop (Int.toNat acknowledge) hg.1) (List.drop (Int.toNat (acknowledge+1)) hd.1))),0⟩,⟨[17],rv undef,0⟩,⟨[17,18],rB false,0⟩,⟨[19],rB false,0⟩] [6] ?_ ?_
            ·refine oq (Aj rfl) (oq (Aj rfl) (oq (C0 Bs Bp rfl rfl h3) (oq (Aj rfl) (oq (Aj rfl) (oq (C0 Bs Bp rfl rfl hO) (Er rfl (λH=>Gu Ki (Dv F (List.take (Int.toNat acknowledge) hg.1) (List.take (Int.toNat acknowledge) hd.1) (ov (AW F (List.take (Int.toNat acknowledge) hg.1) (List.take (Int.toNat acknowledge) hd.1))) (Iq hP)) rfl) ?_))))));refine oq (Aj rfl) (on hi (oq (Aj rfl) (on hi (oq (Aj rfl) (on hi (oq (DV Bs Bp rfl rfl h3) (on hi (oq (Aj rfl) (on hi (oq (Aj rfl) (on hi (oq (Cc rfl rfl (BP hZ hi)) (on hi (oq (DV Bs Bp rfl rfl (BP ga hi)) (Er rfl (λH=>I1 (b:=(ov (AW F (List.take (Int.toNat acknowledge) hg.1) (List.take (Int.toNat acknowledge) hd.1)))) rfl rfl hi (Gu Ki (Dv F (List.drop (Int.toNat acknowledge) hg.1) (List.drop (Int.toNat (acknowledge+1)) hd.1) (ov (AW F (List.drop (Int.toNat acknowledge) hg.1) (List.drop (Int.toNat (acknowledge+1)) hd.1))) (Iq (BP gb hi))) rfl)) ?_)))))))))))))));refine oq (Aq rfl hi rfl) (oq (Aj rfl) (oz hs (oq (Ay (b:=(ov (AW F (List.drop (Int.toNat acknowledge) hg.1) (List.drop (Int.toNat (acknowledge+1)) hd.1)))) rfl hs rfl) (oq (An rfl) ?_))));exact CI
            exact CD (And.intro hi hs)
          ·refine Da [2,9,11] [⟨[],AV 5 (List.map Ac hg.1),0⟩,⟨[],rI .i64 acknowledge,0⟩,⟨[0,1],AV 5 (List.map Ac (List.take (Int.toNat acknowledge) hg.1)),0⟩,⟨[],AV 5 (List.map Ac hd.1),0⟩,⟨[],rI .i64 acknowledge,0⟩,⟨[3,4],AV 5 (List.map Ac (List.take (Int.toNat acknowledge) hd.1)),0⟩,⟨[2,5],rB (ov (AW F (List.take (Int.toNat acknowledge) hg.1) (List.take (Int.toNat acknowledge) hd.1))),0⟩,⟨[6],rB (ov (AW F (List.take (Int.toNat acknowledge) hg.1) (List.take (Int.toNat acknowledge) hd.1))),0⟩,⟨[7],rv undef,0⟩,⟨[7],rv undef,0⟩,⟨[8,9,7],rv undef,0⟩,⟨[7],rv undef,0⟩,⟨[7],rv undef,0⟩,⟨[12,7],rv undef,0⟩,⟨[11,13,7],rv undef,0⟩,⟨[10,14,7],rv undef,0⟩,⟨[7,15],rB false,0⟩,⟨[16],rB false,0⟩,⟨[17],rv undef,0⟩,⟨[17,18],rB false,0⟩,⟨[19],rB false,0⟩] [6] ?_ ?_
           ·refine oq (Aj rfl) (oq (Aj rfl) (oq (C0 Bs Bp rfl rfl h3) (oq (Aj rfl) (oq (Aj rfl) (oq (C0 Bs Bp rfl rfl hO) (Er rfl (λH=>Gu Ki (Dv F (List.take (Int.toNat acknowledge) hg.1) (List.take (Int.toNat acknowledge) hd.1) (ov (AW F (List.take (Int.toNat acknowledge) hg.1) (List.take (Int.toNat acknowledge) hd.1))) (Iq hP)) rfl) ?_))))));refine oq (Aj rfl) (oz hi (oz hi (oz hi (oz hi (oz hi (oz hi (oz hi (oz hi (oq (Ay (b:=(ov (AW F (List.take (Int.toNat acknowledge) hg.1) (List.take (Int.toNat acknowledge) hd.1)))) rfl hi rfl) (oq (Aj rfl) (oz rfl (oq (Ay (b:=false) rfl rfl rfl) (oq (An rfl) ?_)))))))))))));exact CI
           exact CD hi
         refine A4 ?_;obtain rfl:=A8 cd;exact A3 (BF O9 (AZ rfl)) sN ⟨rfl,rfl⟩
end Go.Proofs.YtkoiaconljdbeaaDoor.Q
namespace Go.Proofs.YtkoiaconljdbeaaDoor.lawTimerFiresInOrder
open Go
set_option linter.unusedVariables false
def MI (y:Ad):Bool:=(Ci .i64) y.fKind&&(Ci .i64) y.fInt&&Nu y.fStr&&(Ci .i64) y.fN
def NQ (y:Ab):Bool:=Nu y.fID&&(Ci .i64) y.fAt&&Nu y.fTenant&&Nu y.fSource&&(λys:(List Ad)=>ys.all MI&&decide (ys.length≤9223372036854775807)) y.fBody
def L0 (y:AE):Bool:=(Ci .i64) y.fKind&&(Ci .i64) y.fNow&&NQ y.fTimer
def Qe:Prop:=∀(y0:(List AE)) (y1:Int) (y2:Int) (o0:(λys:(List AE)=>ys.all L0&&decide (ys.length≤9223372036854775807)) y0=true) (o1:(Ci .i64) y1=true) (o2:(Ci .i64) y2=true),∃F,HX F y0 y1 y2=some true
end Go.Proofs.YtkoiaconljdbeaaDoor.lawTimerFiresInOrder
namespace Go.Proofs.YtkoiaconljdbeaaDoor
open Go
set_option linter.unusedVariables false
set_option linter.unusedSimpArgs false
def NO (c:UInt8):Bool:=decide (32≤c.toNat)&&decide (c.toNat≤126)
theorem On {s:Ai}{x:Int}{c:UInt8}(h:s[x.toNat]? =some c):Kd s x=(c.toNat:Int):=by simp[Kd,h]
theorem Io {α:Type}{p:α→Bool}{s:List α}{k:Nat}{c:α}(h:s[k]? =some c):(s.take (k+1)).all p=((s.take k).all p&&p c):=by
 rw[List.take_add_one,h];simp
theorem Jh {α:Type}{p:α→Bool}{s:List α}{k:Nat}{c:α}(h:s[k]? =some c)(hp:p c=false):s.all p=false:=by
 rw[List.all_eq_false];exact⟨c,Qu h,by simp[hp]⟩
theorem Mq {F:Nat}{s:Ai}(hF:s.length<F)(hs:s.length≤9223372036854775807):GT F s=some (s.all NO):=by
 obtain⟨o,h1,h2⟩:=Di (body:=λσ=>DG s σ) (λx=>0≤x∧x≤(s.length:Int)∧(s.take x.toNat).all NO=true) (λx=>s.length-x.toNat)
  (λo=>CE (λ_=>DF) o=some (s.all NO)) (λx ⟨h0,hl,ha⟩=>by
   unfold DG
   by_cases hx:x<(s.length:Int)
   ·obtain⟨c,hc⟩:∃c,s[x.toNat]? =some c:=⟨s[x.toNat]'(by omega),Qk (by omega)⟩
    rw[Bf (by simpa using hx),B8 h0 hx,On hc]
    cases ho:NO c with
    | false=>
     refine .inr ⟨.ret false,?_,?_⟩
     ·rw[Bf];simp only[NO,Bool.and_eq_false_iff,Qi] at ho;simp only[QT,Qh];omega
     ·simp[CE,Jh hc ho]
    | true=>
     refine .inl ⟨x+1,?_,⟨by omega,by omega,?_⟩,by omega⟩
     ·rw[AL,Bi (by omega) (by omega)];simp only[NO,Qm,Qh] at ho;simp only[Bool.or_eq_false_iff,Qi];omega
     ·rw[show(x+1).toNat=x.toNat+1 from by omega,Io hc,ha,ho];rfl
   ·refine .inr ⟨.go (),by rw[AL (by simpa using hx)],?_⟩;rw[show x.toNat=s.length from by omega,List.take_length] at ha;simp[CE,DF,ha]) F 0 ⟨by omega,by omega,by simp⟩ (by simpa using hF)
 unfold GT;rw[AU h1,h2]
def pl (c:Ad):Bool:=
 bif decide (c.fKind=1) then(decide (c.fInt=0)&&(decide (c.fStr=[])&&decide (c.fN=0))) else
 bif decide (c.fKind=2) then((decide (c.fInt=0)||decide (c.fInt=1))&&(decide (c.fStr=[])&&decide (c.fN=0))) else
 bif decide (c.fKind=3) then(decide (c.fStr=[])&&decide (c.fN=0)) else
 bif decide (c.fKind=4) then(decide (c.fInt=0)&&(decide (c.fN=0)&&c.fStr.all NO)) else
 bif decide (c.fKind=5) then(decide (c.fInt=0)&&(decide (c.fStr=[])&&decide (0≤c.fN))) else
 bif decide (c.fKind=6) then(decide (c.fInt=0)&&(decide (c.fStr=[])&&decide (0≤c.fN))) else false
theorem Cs {α:Type}{p:Bool}{x y:Option α}{a b:α}(h:x=some a)(h':y=some b):BJ p x y=some (bif p then a else b):=by cases p<;>simp[BJ,h,h']
theorem Lp {F:Nat}{c:Ad}(hF:c.fStr.length<F)(hs:c.fStr.length≤9223372036854775807):H7 F c=some (pl c):=by
 unfold H7 pl;rw[Mq hF hs];refine Cs rfl (Cs ?_ (Cs rfl (Cs ?_ (Cs rfl (Cs rfl rfl)))))
 ·cases h:decide (c.fInt=0)<;>simp
 ·simp[imp,B9,ov]
def GZ:List Ap→List Ap
 | []=>[]
 | e::S=>bif decide (1<e.fLeft) then⟨e.fPairs,e.fLeft-1,e.fPairs,e.fLast,e.fStarted⟩::S else GZ S
theorem Hx {α:Type}[Inhabited α](xs:List α)(e:α):Ak (xs++[e]) (xs.length:Int)=e:=by simp[Ak]
theorem Gq {α:Type}(xs:List α)(e e':α):List.set (xs++[e]) (Int.toNat (xs.length:Int)) e'=xs++[e']:=by simp
theorem Gx {α:Type}(xs:List α)(e:α):((xs++[e]).length:Int)-1=(xs.length:Int):=by simp
theorem Ls {α:Type}(xs:List α)(e:α):List.take (Int.toNat (xs.length:Int)) (xs++[e])=xs:=by simp
theorem GU:∀(S:List Ap) (F:Nat),S.length<F→(∀e∈S,1≤e.fLeft∧e.fLeft≤9223372036854775807)→S.length≤4611686018427387904→
  ∃o,Dq (λσ=>Cb σ) F S.reverse=some o∧CE (λν=>Cz ν) o=some (GZ S).reverse
 | [],F+1,_,_,_=>⟨.go [],by simp[Dq,Cb,BJ],by simp[CE,Cz,GZ]⟩
 | e::S,F+1,hF,hb,hl=>by
  obtain⟨h1,h2⟩:=hb e (by simp);simp only[Qt] at hF hl;have hx:S.reverse.length=S.length:=by simp
  generalize hxs:S.reverse=xs at hx;have hr:(e::S).reverse=xs++[e]:=by simp[hxs]
  rw[hr];have hb1:Cb (xs++[e])=bif decide (1<e.fLeft) then some (.out (.ret (xs++[⟨e.fPairs,e.fLeft-1,e.fPairs,e.fLast,e.fStarted⟩]))) else some (.next xs):=by
   unfold Cb;rw[Bf (by simp)];simp only[Gx,Hx,Gq,Mc];rw[Bi (by omega) (by omega),B8 (by omega) (by simp;omega),Bi (by omega) (by omega)]
   cases hd:decide (1<e.fLeft) with
   | true=>
    rw[Bf (by simp at hd ⊢;omega)];rfl
   | false=>
    rw[AL (by simp at hd ⊢;omega),Bi (by omega) (by omega),G6 (by omega) (by simp;omega),Ls];rfl
  rw[Dq,hb1]
  cases hd:decide (1<e.fLeft) with
  | true=>exact⟨_,rfl,by simp[CE,Cz,GZ,hd,hxs]⟩
  | false=>
   obtain⟨o,ho1,ho2⟩:=GU S F (by omega) (λe he=>hb e (by simp[he])) (by omega);rw[hxs] at ho1;exact⟨o,ho1,by rw[ho2];simp[GZ,hd]⟩
theorem H8 {S:List Ap}{F:Nat}(hF:S.length<F)(hb:∀e∈S,1≤e.fLeft∧e.fLeft≤9223372036854775807)(hl:S.length≤4611686018427387904):Gi F S.reverse=some (GZ S).reverse:=by
 obtain⟨o,h1,h2⟩:=GU S F hF hb hl;unfold Gi;rw[AU h1,h2]
def GC (s:Ai):Int:=s.length+2+s.count 34+s.count 92
theorem H6 {s:Ai}(hs:s.length≤1152921504606846976):E6 s=some (GC s):=by
 have h1:s.count 34≤s.length:=List.count_le_length;have h2:s.count 92≤s.length:=List.count_le_length;unfold E6 Lib.countByte;rw[Bi (by omega) (by omega),Bi (by omega) (by omega),Bi (by omega) (by omega)];rfl
def OG (c:Ad):Int:=
 bif decide (c.fKind=1) then 4 else bif decide (c.fKind=2) then IntKind.wrap .i64 (5-c.fInt) else bif decide (c.fKind=3) then((Lib.itoa c.fInt).length:Int) else
 bif decide (c.fKind=4) then GC c.fStr else IntKind.wrap .i64 (2+max 0 (IntKind.wrap .i64 (c.fN-1)))
theorem Js {c:Ad}(hs:c.fStr.length≤1152921504606846976)(hi:Ci .i64 c.fInt=true):Jt c=some (OG c):=by
 unfold Jt OG;rw[H6 hs];refine Cs rfl (Cs rfl (Cs ?_ (Cs rfl rfl)));rw[BQ hi]
def Ei (d:Nat)(sh:At)(c:Ad):At:=
 ⟨max sh.fDepth ((d:Int)+1),IntKind.wrap .i64 (sh.fBytes+OG c),sh.fOutside||(decide (c.fKind=3)&&!(decide ((-1000000000000)≤c.fInt)&&decide (c.fInt≤1000000000000))),sh.fLong||decide (200<(c.fStr.length:Int))⟩
def Pn (sh:At)(c:Ad):At:=⟨sh.fDepth,IntKind.wrap .i64 (sh.fBytes+(GC c.fStr+1)),sh.fOutside,sh.fLong||decide (200<(c.fStr.length:Int))⟩
def GK:List Ap→Bool
 | []=>false
 | e::_=>e.fKey
abbrev Jk:=List Ap×Int×At
abbrev O4:=Out (Int×At×Bool) At
def Kc (n:Int)(S:List Ap)(i:Int)(sh:At)(c:Ad):Stp Jk O4:=
 bif !pl c then .out (.ret (0,sh,false)) else
 match S with
 | e::S'=>
  bif e.fKey then
   bif !decide (c.fKind=4)||(e.fStarted&&(Bg c.fStr e.fLast||decide (c.fStr=e.fLast))) then .out (.ret (0,sh,false))
   else .next ((⟨e.fPairs,e.fLeft,false,c.fStr,true⟩::S').reverse,i+1,Pn sh c)
  else bif decide (0<c.fN) then
   bif decide (n<c.fN) then .out (.ret (0,Ei S.length sh c,false))
   else .next ((⟨decide (c.fKind=6),c.fN,decide (c.fKind=6),[],false⟩::S).reverse,i+1,Ei S.length sh c)
  else bif decide (GZ S=[]) then .out (.ret (i+1,Ei S.length sh c,true)) else .next ((GZ S).reverse,i+1,Ei S.length sh c)
 | []=>
  bif decide (0<c.fN) then
   bif decide (n<c.fN) then .out (.ret (0,Ei 0 sh c,false))
   else .next ([⟨decide (c.fKind=6),c.fN,decide (c.fKind=6),[],false⟩],i+1,Ei 0 sh c)
  else .out (.ret (i+1,Ei 0 sh c,true))
theorem Ib {S:List Ap}:decide (((GZ S).reverse.length:Int)=0)=decide (GZ S=[]):=by
 rw[Q2];simp
theorem P2 {α:Type}{xs:List α}{e x:α}{M:Nat}(h:xs.length+1≤M)(hM2:(M+2)*48≤140737488355328):Ob 48 ((xs++[e]).length+([x]:List α).length)=true:=by
 refine Qn (Nat.le_trans (Nat.mul_le_mul_right 48 ?_) hM2);rw[Qy,QQ,QQ];omega
set_option maxHeartbeats 600000 in
theorem Ju {F:Nat}{v:List Ad}{S:List Ap}{i:Int}{sh:At}{c:Ad}(h0:0≤i)(hc:v[i.toNat]? =some c){M:Nat}(hM:M≤1152921504606846976)(hM2:(M+2)*48≤140737488355328)(hv:v.length≤M)(hS:S.length≤M)(hF:M<F)
  (hs:c.fStr.length≤M) (hi:Ci .i64 c.fInt=true) (hb:∀e∈S,1≤e.fLeft∧e.fLeft≤9223372036854775807):Ca F v S.reverse i sh=some (Kc v.length S i sh c):=by
 have hil:i.toNat<v.length:=(List.getElem?_eq_some_iff.1 hc).1;have hat:Ak v i=c:=by simp[Ak,hc]
 unfold Ca Kc;rw[Bf (by simp;omega),B8 h0 (by omega),hat,Lp (by omega) (by omega),AU rfl]
 cases hp:pl c with
 | false=>rw[Bf (by simp)];rfl
 | true=>
  rw[AL (by simp)]
  cases S with
  | nil=>
   rw[BQ (by simp[imp]),BQ (by simp[imp]),AL (by simp),Bi (by simp) (by simp),Js (by omega) hi,AU rfl,BQ (by simp[imp,AX])];simp only[AX,ov,QI,Qw,Qr]
   cases hn:decide (0<c.fN) with
   | true=>
    rw[Bf rfl]
    cases hm:decide ((v.length:Int)<c.fN) with
    | true=>rw[Bf rfl];simp[Ei]
    | false=>rw[AL rfl,BQ (by simp[Ob])];unfold Cq;rw[Bi (by omega) (by omega)];simp[Ei]
   | false=>
    rw[AL rfl,AU (H8 (S:=[]) (by simp;omega) (by simp) (by simp)),Bf (by simp[GZ]),Bi (by omega) (by omega)];simp[Ei]
  | cons e S'=>
   have hx:S'.reverse.length=S'.length:=by simp
   generalize hxs:S'.reverse=xs at hx;have hr:(e::S').reverse=xs++[e]:=by simp[hxs]
   simp only[Qt] at hS;have hlen:((xs++[e]).length:Int)=(xs.length:Int)+1:=by simp
   rw[hr,BQ (by simp only[imp,Gx];rw[Gz (by omega) (by omega)];simp),BQ (by simp only[imp,Gx];rw[OV (by omega) (by omega)];simp)];rw[Gx,Hx]
   cases hk:e.fKey with
   | true=>
    rw[Bf (by simp),Bi (by omega) (by omega),B8 (by omega) (by omega)];simp only[hk,Qw,Qr,Qv]
    cases ht : !decide (c.fKind=4)||(e.fStarted&&(Bg c.fStr e.fLast||decide (c.fStr=e.fLast))) with
    | true=>rw[Bf rfl];rfl
    | false=>
     rw[AL rfl,Gq,Mc,Hx,Gq,Mc,Hx,Gq,Mc,H6 (by omega),AU rfl,Bi (by unfold GC;omega) (by unfold GC;have:=@List.count_le_length UInt8 _ 34 c.fStr;have:=@List.count_le_length UInt8 _ 92 c.fStr;omega)];unfold Cq;rw[Bi (by omega) (by omega)];simp[Pn,hxs]
   | false=>
    rw[AL (by simp),hlen,Bi (by omega) (by omega),Js (by omega) hi,AU rfl,BQ (by simp[imp,AX])];simp only[hk,AX,ov,QI,Qw,Qr,Qv]
    cases hn:decide (0<c.fN) with
    | true=>
     rw[Bf rfl]
     cases hm:decide ((v.length:Int)<c.fN) with
     | true=>rw[Bf rfl];simp[Ei,hx]
     | false=>rw[AL rfl,BQ (P2 (by omega) hM2)];unfold Cq;rw[Bi (by omega) (by omega)];simp[Ei,hx,hxs]
    | false=>
     have hcl:=H8 (S:=e::S') (F:=F) (by simp;omega) hb (by simp;omega);rw[hr] at hcl;rw[AL rfl,hcl,AU rfl,Ib]
     cases hq:decide (GZ (e::S')=[]) with
     | true=>rw[Bf rfl,Bi (by omega) (by omega)];simp[Ei,hx]
     | false=>rw[AL rfl];unfold Cq;rw[Bi (by omega) (by omega)];simp[Ei,hx]
section
variable {S O : Type} {body : S → Option (Stp S O)} {s t u : S} {o : O}
def Ct (body:S→Option (Stp S O))(s t:S):Prop:=∃k,∀n,Dq body (n+k) s=Dq body n t
def Fin (body:S→Option (Stp S O))(s:S)(o:O):Prop:=∃k,∀n,Dq body (n+k) s=some o
theorem Ct.refl (s:S):Ct body s s:=⟨0,λ_=>rfl⟩
theorem Ct.trans (h:Ct body s t)(h':Ct body t u):Ct body s u:=by
 obtain⟨k,hk⟩:=h;obtain⟨j,hj⟩:=h';exact⟨j+k,λn=>by rw[← Nat.add_assoc,hk,hj]⟩
theorem Ct.step (h:body s=some (.next t)):Ct body s t:=⟨1,λn=>by rw[Dq,h]⟩
theorem Fin.step (h:body s=some (.out o)):Fin body s o:=⟨1,λn=>by rw[Dq,h]⟩
theorem Ct.fin (h:Ct body s t)(h':Fin body t o):Fin body s o:=by
 obtain⟨k,hk⟩:=h;obtain⟨j,hj⟩:=h';exact⟨j+k,λn=>by rw[← Nat.add_assoc,hk,hj]⟩
end
inductive Fo where
 | nil
 | cell (k:Option Ai) (c:Ad) (r:Fo)
 | node (k:Option Ai) (c:Ad) (kids r:Fo)
def Ce:Option Ai→List Ad
 | none=>[]
 | some s=>[⟨4,0,s,0⟩]
def Fo.flat:Fo→List Ad
 | .nil=>[]
 | .cell k c r=>Ce k++c::r.flat
 | .node k c kids r=>Ce k++c::(kids.flat++r.flat)
def Fo.cnt:Fo→Nat
 | .nil=>0
 | .cell _ _ r=>r.cnt+1
 | .node _ _ _ r=>r.cnt+1
def Dg (m:Bool)(last:Option Ai):Option Ai→Bool
 | none=>!m
 | some s=>m&&s.all NO&&(match last with
  | none=>true
  | some p=>!(Bg s p||decide (s=p)))
def Fo.wf:Bool→Option Ai→Fo→Bool
 | _,_,.nil=>true
 | m,last,.cell k c r=>Dg m last k&&pl c&&!decide (0<c.fN)&&r.wf m k
 | m,last,.node k c kids r=>Dg m last k&&pl c&&decide (0<c.fN)&&decide (c.fN=kids.cnt)&&kids.wf (decide (c.fKind=6)) none&&r.wf m k
def GV (k:Option Ai)(sh:At):At:=match k with
 | none=>sh
 | some s=>Pn sh ⟨4,0,s,0⟩
def Fo.sh (d:Nat):At→Fo→At
 | s,.nil=>s
 | s,.cell k c r=>r.sh d (Ei d (GV k s) c)
 | s,.node k c kids r=>r.sh d (kids.sh (d+1) (Ei d (GV k s) c))
def D9 (body:Jk→Option (Stp Jk O4))(s:Jk)(S:List Ap)(i:Int)(sh:At):Prop:=
 if GZ S=[] then Fin body s (.ret (i,sh,true)) else Ct body s ((GZ S).reverse,i,sh)
theorem D9.of {body:Jk→Option (Stp Jk O4)}{s t:Jk}{S:List Ap}{i:Int}{sh:At}(h:Ct body s t)(h':D9 body t S i sh):D9 body s S i sh:=by
 unfold D9 at *
 split
 ·rename_i e;rw[if_pos e] at h';exact h.fin h'
 ·rename_i e;rw[QR e] at h';exact h.trans h'
theorem D9.pop {body:Jk→Option (Stp Jk O4)}{s:Jk}{e:Ap}{S:List Ap}{i:Int}{sh:At}(h:D9 body s (e::S) i sh)(h1:e.fLeft=1):D9 body s S i sh:=by
 have:GZ (e::S)=GZ S:=by simp[GZ,h1]
 unfold D9 at *;rw[this] at h;exact h
theorem D9.more {body:Jk→Option (Stp Jk O4)}{s:Jk}{e:Ap}{S:List Ap}{i:Int}{sh:At}(h:D9 body s (e::S) i sh)(h1:1<e.fLeft):Ct body s ((⟨e.fPairs,e.fLeft-1,e.fPairs,e.fLast,e.fStarted⟩::S).reverse,i,sh):=by
 have:GZ (e::S)=⟨e.fPairs,e.fLeft-1,e.fPairs,e.fLast,e.fStarted⟩::S:=by simp[GZ,h1]
 unfold D9 at *;rw[this,QR (by simp)] at h;exact h
structure Lk (F M:Nat) (v:List Ad):Prop where
 hM:M≤1152921504606846976
 hM2:(M+2)*48≤140737488355328
 hv:v.length≤M
 hF:M<F
 hc:∀c∈v,c.fStr.length≤M∧Ci .i64 c.fInt=true∧c.fN≤9223372036854775807
abbrev JI (F:Nat)(v:List Ad):Jk→Option (Stp Jk O4):=λσ=>Ca F v σ.1 σ.2.1 σ.2.2
def Cd (S:List Ap):Prop:=∀e∈S,1≤e.fLeft∧e.fLeft≤9223372036854775807
section
variable {F M : Nat} {v : List Ad} {S : List Ap} {i : Int} {sh : At} {c : Ad} {r : List Ad} {e : Ap}
theorem Ey (h0:0≤i)(h:v.drop i.toNat=c::r):v[i.toNat]? =some c∧v.drop (i+1).toNat=r∧i<v.length:=by
 have h1:(v.drop i.toNat)[0]? =some c:=by rw[h];rfl
 have h2:v[i.toNat]? =some c:=by simpa using h1
 have h3:=(List.getElem?_eq_some_iff.1 h2).1;refine⟨h2,?_,by omega⟩;rw[show(i+1).toNat=i.toNat+1 from by omega,← List.drop_drop,h];rfl
theorem round (hA:Lk F M v)(h0:0≤i)(h:v.drop i.toNat=c::r)(hS:(S.length:Int)≤i)(hb:Cd S):JI F v (S.reverse,i,sh)=some (Kc v.length S i sh c):=by
 obtain⟨h1,_,h3⟩:=Ey h0 h;obtain⟨a,b,_⟩:=hA.hc c (Qu h1);have:=hA.hv;exact Ju h0 h1 hA.hM hA.hM2 hA.hv (by omega) hA.hF a b hb
def Df (e:Ap):Option Ai→Ap
 | none=>e
 | some s=>⟨e.fPairs,e.fLeft,false,s,true⟩
def Ev (e:Ap):Option Ai→Prop
 | none=>e.fStarted=false
 | some p=>e.fStarted=true∧e.fLast=p
theorem HZ (hA:Lk F M v)(h0:0≤i){k last:Option Ai}(h:v.drop i.toNat=Ce k++r)(hS:(S.length:Int)+1≤i)(hb:Cd (e::S))(hk:Dg e.fKey last k=true)(hl:Ev e last) :
  Ct (JI F v) ((e::S).reverse,i,sh) ((Df e k::S).reverse,i+(Ce k).length,GV k sh):=by
 cases k with
 | none=>simpa[Df,Ce,GV] using Ct.refl _
 | some s=>
  simp only[Dg,Qm] at hk;obtain⟨⟨hm,hok⟩,hcmp⟩:=hk;refine Ct.step ?_;rw[round hA h0 (by simpa[Ce] using h) (by simpa using hS) hb];have hp:pl ⟨4,0,s,0⟩=true:=by simp[pl,hok]
  have ht:(e.fStarted&&(Bg s e.fLast||decide (s=e.fLast)))=false:=by
   cases last with
   | none=>simp only[Ev] at hl;rw[hl];rfl
   | some p=>obtain⟨h1,h2⟩:=hl;rw[h1,h2];simpa using hcmp
  simp only[Kc,hp,hm,ht,Qw,Qr,Qv,decide_true,Q8,Bool.or_self];rfl
theorem GJ {k last:Option Ai}(hk:Dg e.fKey last k=true):(Df e k).fKey=false:=by
 cases k with
 | none=>simpa[Df,Dg] using hk
 | some s=>rfl
theorem EX (k:Option Ai):(Df e k).fLeft=e.fLeft∧(Df e k).fPairs=e.fPairs:=by cases k<;>exact⟨rfl,rfl⟩
theorem GH (hA:Lk F M v)(h0:0≤i)(h:v.drop i.toNat=c::r)(hS:(S.length:Int)≤i)(hb:Cd S)(hk:GK S=false)(hp:pl c=true)(hn:decide (0<c.fN)=false) :
  D9 (JI F v) (S.reverse,i,sh) S (i+1) (Ei S.length sh c):=by
 have hr:=round (sh:=sh) hA h0 h hS hb;unfold D9
 cases S with
 | nil=>
  rw[if_pos (by simp[GZ])];refine Fin.step ?_;rw[hr];simp[Kc,hp,hn]
 | cons e S=>
  simp only[GK] at hk
  split
  ·rename_i hc
   refine Fin.step ?_;rw[hr];simp[Kc,hp,hn,hk,hc]
  ·rename_i hc
   refine Ct.step ?_;rw[hr];simp[Kc,hp,hn,hk,hc]
theorem EA (hA:Lk F M v)(h0:0≤i)(h:v.drop i.toNat=c::r)(hS:(S.length:Int)≤i)(hb:Cd S)(hk:GK S=false)(hp:pl c=true)(hn:decide (0<c.fN)=true)(hv:c.fN≤v.length) :
  Ct (JI F v) (S.reverse,i,sh) ((⟨decide (c.fKind=6),c.fN,decide (c.fKind=6),[],false⟩::S).reverse,i+1,Ei S.length sh c):=by
 have hr:=round (sh:=sh) hA h0 h hS hb;have hv':decide ((v.length:Int)<c.fN)=false:=by simpa using hv
 refine Ct.step ?_;rw[hr]
 cases S with
 | nil=>simp only[Kc,hp,hn,hv',Qw,Qr,Qv];rfl
 | cons e S=>
  simp only[GK] at hk;simp only[Kc,hp,hn,hv',hk,Qw,Qr,Qv]
theorem Cg:∀f:Fo,f.cnt≤f.flat.length
 | .nil=>Qx _
 | .cell k c r=>by have:=Cg r;simp[Fo.cnt,Fo.flat];omega
 | .node k c kids r=>by have:=Cg r;simp[Fo.cnt,Fo.flat];omega
theorem Ez {α:Type}{v xs r:List α}{i:Int}(h0:0≤i)(h:v.drop i.toNat=xs++r):v.drop (i+xs.length).toNat=r:=by
 rw[show(i+(xs.length:Int)).toNat=i.toNat+xs.length from by omega,← List.drop_drop,h,List.drop_left]
theorem J2 (hA:Lk F M v){e':Ap}{s:Jk}{k:Option Ai}{r':Fo}
  (ih:∀(e:Ap) (S:List Ap) (i:Int) (sh:At) (last:Option Ai) (r:List Ad),1≤r'.cnt→r'.wf e.fPairs last=true→e.fKey=e.fPairs→e.fLeft=r'.cnt→Ev e last→(e.fPairs=false→last=none)→v.drop i.toNat=r'.flat++r→0≤i→(S.length:Int)+1≤i→Cd S→
   D9 (JI F v) ((e::S).reverse,i,sh) S (i+r'.flat.length) (r'.sh (S.length+1) sh))
  (hd:D9 (JI F v) s (e'::S) i sh) (hl:e'.fLeft=r'.cnt+1) (hw:r'.wf e'.fPairs k=true) (hk:Ev e' k) (hm:e'.fPairs=false→k=none) (hv:v.drop i.toNat=r'.flat++r) (h0:0≤i) (hS:(S.length:Int)+1≤i) (hb:Cd S) :
  D9 (JI F v) s S (i+r'.flat.length) (r'.sh (S.length+1) sh):=by
 by_cases h1:r'.cnt=0
 ·cases r' with
  | nil=>simpa[Fo.flat,Fo.sh] using hd.pop (by rw[hl];rfl)
  | cell _ _ _=>simp[Fo.cnt] at h1
  | node _ _ _ _=>simp[Fo.cnt] at h1
 ·have:=hd.more (by omega);refine D9.of this (ih _ S i sh k r (by omega) hw rfl (by simp only;omega) ?_ hm hv h0 hS hb)
  cases k with
  | none=>exact hk
  | some p=>exact hk
theorem EY {k last:Option Ai}(hl:Ev e last)(hm:e.fPairs=false→last=none)(hk:Dg e.fPairs last k=true):Ev (Df e k) k∧((Df e k).fPairs=false→k=none):=by
 cases k with
 | none=>
  have:e.fPairs=false:=by simpa[Dg] using hk
  rw[hm this] at hl;exact⟨hl,λ_=>rfl⟩
 | some s=>
  refine⟨⟨rfl,rfl⟩,λh=>?_⟩;have h:e.fPairs=false:=h;simp[Dg,h] at hk
theorem GY (hA:Lk F M v):∀(f:Fo) (e:Ap) (S:List Ap) (i:Int) (sh:At) (last:Option Ai) (r:List Ad),1≤f.cnt→f.wf e.fPairs last=true→e.fKey=e.fPairs→e.fLeft=f.cnt→Ev e last→(e.fPairs=false→last=none)→v.drop i.toNat=f.flat++r→0≤i→(S.length:Int)+1≤i→Cd S→
   D9 (JI F v) ((e::S).reverse,i,sh) S (i+f.flat.length) (f.sh (S.length+1) sh):=by
 have hmax:∀(i:Int) (xs:List Ad),0≤i→v.drop i.toNat=xs→xs.length≤v.length:=λi xs _ h=>by rw[← h,List.length_drop];omega
 intro f
 induction f with
 | nil=>intro e S i sh last r h1;simp[Fo.cnt] at h1
 | cell k c r' ih=>
  intro e S i sh last r h1 hw hk hl hlo hm hv h0 hS hb;simp only[Fo.wf,Qm,QL] at hw;obtain⟨⟨⟨w1,w2⟩,w3⟩,w4⟩:=hw;simp only[Fo.flat,QP,List.cons_append] at hv;have hcnt:=hmax i _ h0 hv;have hcf:=Cg r';simp only[Qy,Qt] at hcnt;have hvM:=hA.hv;have hMM:=hA.hM;simp only[Fo.cnt] at hl;have hb':Cd (e::S):=λx hx=>by
   rcases List.mem_cons.1 hx with rfl | hx
   ·constructor<;>omega
   ·exact hb x hx
  have hkr:=HZ (sh:=sh) hA h0 hv hS hb' (by rw[hk];exact w1) hlo;have hv1:=Ez h0 hv;obtain⟨kl,kp⟩:=EX (e:=e) k;have hbk:Cd (Df e k::S):=λx hx=>by
   rcases List.mem_cons.1 hx with rfl | hx
   ·rw[kl];exact hb' e (by simp)
   ·exact hb x hx
  have hd:=GH (sh:=GV k sh) hA (by omega) hv1 (by simp only[Qt];omega) hbk (GJ (by rw[hk];exact w1)) w2 w3;obtain⟨q1,q2⟩:=EY hlo hm w1;have hv2:=(Ey (by omega) hv1).2.1;have:=J2 hA ih (hd.of hkr) (by rw[kl,hl];rfl) (by rw[kp];exact w4) q1 q2 hv2 (by omega) (by omega) hb;simp only[Fo.flat,Fo.sh,Qy,Qt];rw[show i+((((Ce k).length+(r'.flat.length+1):Nat)):Int)=i+(Ce k).length+1+r'.flat.length from by omega];exact this
 | node k c kids r' ihk ih=>
  intro e S i sh last r h1 hw hk hl hlo hm hv h0 hS hb;simp only[Fo.wf,Qm,Qh] at hw;obtain⟨⟨⟨⟨⟨w1,w2⟩,w3⟩,w5⟩,w6⟩,w4⟩:=hw;simp only[Fo.flat,QP,List.cons_append] at hv;have hcnt:=hmax i _ h0 hv;have hcf:=Cg r';have hck:=Cg kids;simp only[Qy,Qt] at hcnt;have hvM:=hA.hv;have hMM:=hA.hM;simp only[Fo.cnt] at hl;have hb':Cd (e::S):=λx hx=>by
   rcases List.mem_cons.1 hx with rfl | hx
   ·constructor<;>omega
   ·exact hb x hx
  have hkr:=HZ (sh:=sh) hA h0 hv hS hb' (by rw[hk];exact w1) hlo;have hv1:=Ez h0 hv;obtain⟨kl,kp⟩:=EX (e:=e) k;have hbk:Cd (Df e k::S):=λx hx=>by
   rcases List.mem_cons.1 hx with rfl | hx
   ·rw[kl];exact hb' e (by simp)
   ·exact hb x hx
  have hn:=EA (sh:=GV k sh) hA (by omega) hv1 (by simp only[Qt];omega) hbk (GJ (by rw[hk];exact w1)) w2 (by simpa using w3) (by omega);have hv2:=(Ey (by omega) hv1).2.1;have hd:=ihk ⟨decide (c.fKind=6),c.fN,decide (c.fKind=6),[],false⟩ (Df e k::S) (i+(Ce k).length+1) (Ei (S.length+1) (GV k sh) c) none _ (by omega) w6 rfl w5 rfl (λ_=>rfl) hv2 (by omega) (by simp only[Qt];omega) hbk;obtain⟨q1,q2⟩:=EY hlo hm w1;have hv3:=Ez (by omega) hv2;have:=J2 hA ih ((hd.of hn).of hkr) (by rw[kl,hl];rfl) (by rw[kp];exact w4) q1 q2 hv3 (by omega) (by omega) hb;simp only[Fo.flat,Fo.sh,Qy,Qt];rw[show i+((((Ce k).length+(kids.flat.length+r'.flat.length+1):Nat)):Int)=i+(Ce k).length+1+kids.flat.length+r'.flat.length from by omega];exact this
end
theorem JH {S O:Type}{body:S→Option (Stp S O)}{o:O}:∀{n:Nat} {s:S} (k:Nat),Dq body n s=some o→Dq body (n+k) s=some o
 | 0,s,k,h=>by cases h
 | n+1,s,k,h=>by
  rw[show n+1+k=n+k+1 from by omega,Dq];rw[Dq] at h
  cases hb:body s with
  | none=>rw[hb] at h;cases h
  | some t=>
   rw[hb] at h
   cases t with
   | next s'=>exact JH k h
   | out o'=>exact h
theorem Fin.eq {S O:Type}{body:S→Option (Stp S O)}{s:S}{o o':O}{n:Nat}(h:Fin body s o)(h':Dq body n s=some o'):o'=o:=by
 obtain⟨k,hk⟩:=h;have:=JH k h';rw[hk n] at this;exact(A8 this).symm
theorem IE:∀{S:List Ap},Cd S→Cd (GZ S)∧(GZ S).length≤S.length
 | [],h=>⟨h,Qx _⟩
 | e::S,h=>by
  have hS:Cd S:=λx hx=>h x (by simp[hx]);have he:=h e (by simp);unfold GZ
  cases hd:decide (1<e.fLeft) with
  | true=>
   simp only[Qh] at hd;refine⟨λx hx=>?_,by simp⟩;rcases List.mem_cons.1 hx with rfl | hx
   ·simp only;omega
   ·exact hS x hx
  | false=>
   obtain⟨h1,h2⟩:=IE hS;exact⟨h1,by simp only[Qr,Qt];omega⟩
theorem MX {n:Int}{S:List Ap}{i:Int}{sh:At}{c:Ad}{σ:Jk}(hb:Cd S)(hS:(S.length:Int)≤i)(hN:c.fN≤9223372036854775807)(h:Kc n S i sh c = .next σ):∃S' sh',σ=(S'.reverse,i+1,sh')∧Cd S'∧(S'.length:Int)≤i+1:=by
 unfold Kc at h
 cases hp:pl c with
 | false=>simp[hp] at h
 | true=>
  simp only[hp,Qw,Qr] at h
  cases S with
  | nil=>
   simp only at h
   cases hn:decide (0<c.fN) with
   | false=>simp[hn] at h
   | true=>
    simp only[hn,Qv] at h
    cases hm:decide (n<c.fN) with
    | true=>simp[hm] at h
    | false=>
     simp only[hm,Qr,Stp.next.injEq] at h;refine⟨[_],_,h.symm,λx hx=>?_,by simp at hS ⊢;omega⟩;simp only[Q1] at hx;subst hx;simp only[Qh] at hn;exact⟨by simp only;omega,hN⟩
  | cons e S=>
   have he:=hb e (by simp);have hbS:Cd S:=λx hx=>hb x (by simp[hx]);simp only[Qt] at hS
   cases hk:e.fKey with
   | true=>
    simp only[hk,Qv] at h
    cases hq:(!decide (c.fKind=4)||(e.fStarted&&(Bg c.fStr e.fLast||decide (c.fStr=e.fLast)))) with
    | true=>rw[hq] at h;simp at h
    | false=>
     rw[hq] at h;simp only[Qr,Stp.next.injEq] at h;refine⟨_::S,_,h.symm,λx hx=>?_,by simp only[Qt];omega⟩;rcases List.mem_cons.1 hx with rfl | hx
     ·exact he
     ·exact hbS x hx
   | false=>
    simp only[hk,Qr] at h
    cases hn:decide (0<c.fN) with
    | true=>
     simp only[hn,Qv] at h
     cases hm:decide (n<c.fN) with
     | true=>simp[hm] at h
     | false=>
      simp only[hm,Qr,Stp.next.injEq] at h;refine⟨_::e::S,_,h.symm,λx hx=>?_,by simp only[Qt];omega⟩;rcases List.mem_cons.1 hx with rfl | hx
      ·simp only[Qh] at hn;exact⟨by simp only;omega,hN⟩
      ·exact hb x hx
    | false=>
     simp only[hn,Qr] at h
     cases hq:decide (GZ (e::S)=[]) with
     | true=>rw[hq] at h;simp at h
     | false=>
      rw[hq] at h;simp only[Qr,Stp.next.injEq] at h;obtain⟨h1,h2⟩:=IE hb;simp only[Qt] at h2;exact⟨_,_,h.symm,h1,by omega⟩
theorem HT {F M:Nat}{v:List Ad}(hA:Lk F M v):∃o,Dq (JI F v) F (([]:List Ap),0,(⟨0,0,false,false⟩:At))=some o∧True:=by
 refine Di (λσ=>∃S i sh,σ=(S.reverse,i,sh)∧Cd S∧(S.length:Int)≤i∧0≤i∧i≤v.length) (λσ=>v.length-σ.2.1.toNat) (λ_=>True) (λσ hI=>?_) F _ ⟨[],0,_,rfl,(λx hx=>by cases hx),QF _,QF _,by omega⟩ (by have:=hA.hv;have:=hA.hF;simp;omega);obtain⟨S,i,sh,rfl,hb,hS,h0,hi⟩:=hI
 by_cases hx:i<v.length
 ·obtain⟨c,hc⟩:∃c,v[i.toNat]? =some c:=⟨v[i.toNat]'(by omega),Qk (by omega)⟩
  have hdr:v.drop i.toNat=c::v.drop (i.toNat+1):=by rw[List.drop_eq_getElem_cons (by omega)];congr 1;exact(List.getElem?_eq_some_iff.1 hc).2
  have hr:=round (sh:=sh) hA h0 hdr hS hb
  cases hl:Kc v.length S i sh c with
  | next τ=>
   obtain⟨S',sh',rfl,h1,h2⟩:=MX hb hS (hA.hc c (Qu hc)).2.2 hl;exact .inl ⟨_,by rw[hr,hl],⟨S',i+1,sh',rfl,h1,h2,by omega,by omega⟩,by simp only;omega⟩
  | out o=>exact .inr ⟨o,by rw[hr,hl],trivial⟩
 ·refine .inr ⟨.go sh,?_,trivial⟩;show Ca F v S.reverse i sh=_;unfold Ca;rw[AL (by simpa using hx)]
def Fo.one:Fo→Bool
 | .cell none _ .nil=>true
 | .node none _ _ .nil=>true
 | _=>false
def Ih:At:=⟨0,0,false,false⟩
theorem MW {F M:Nat}{v:List Ad}(hA:Lk F M v){f:Fo}(h1:f.one=true)(hw:f.wf false none=true){r:List Ad}(hv:v=f.flat++r):Fin (JI F v) ([],0,Ih) (.ret (f.flat.length,f.sh 0 Ih,true)):=by
 have h0:v.drop (0:Int).toNat=f.flat++r:=by rw[hv];rfl
 have hlen:f.flat.length≤v.length:=by rw[hv];simp
 cases f with
 | nil=>cases h1
 | cell k c r'=>
  cases k with
  | some s=>cases h1
  | none=>
   cases r' with
   | nil=>
    simp only[Fo.wf,Qm,QL] at hw;have:=GH (S:=[]) (sh:=Ih) hA (QF 0) h0 (by simp) (λx hx=>by cases hx) rfl hw.1.1.2 hw.1.2;unfold D9 at this;rw[if_pos (show GZ []=[] from rfl)] at this;simpa[Fo.flat,Fo.sh,Ce,GV] using this
   | cell _ _ _=>cases h1
   | node _ _ _ _=>cases h1
 | node k c kids r'=>
  cases k with
  | some s=>cases h1
  | none=>
   cases r' with
   | nil=>
    simp only[Fo.wf,Qm,Qh] at hw;obtain⟨⟨⟨⟨⟨w1,w2⟩,w3⟩,w5⟩,w6⟩,w4⟩:=hw;have hck:=Cg kids;simp only[Fo.flat,Ce,List.nil_append,List.append_nil,Qt] at hlen;have hvM:=hA.hv;have hMM:=hA.hM;have hn:=EA (S:=[]) (sh:=Ih) hA (QF 0) h0 (by simp) (λx hx=>by cases hx) rfl w2 (by simpa using w3) (by omega);have hv2:=(Ey (QF 0) h0).2.1;have hd:=GY hA kids ⟨decide (c.fKind=6),c.fN,decide (c.fKind=6),[],false⟩ [] (0+1) (Ei 0 Ih c) none r (by omega) w6 rfl w5 rfl (λ_=>rfl) (by rw[hv2];simp[Fo.flat]) (by omega) (by simp) (λx hx=>by cases hx);unfold D9 at hd;rw[if_pos (show GZ []=[] from rfl)] at hd;have:=hn.fin hd;have e:((0:Int)+1+kids.flat.length)=((Fo.node none c kids .nil).flat.length:Int):=by simp[Fo.flat,Ce];omega
    rw[e] at this;exact this
   | cell _ _ _=>cases h1
   | node _ _ _ _=>cases h1
theorem MV {F M:Nat}{v:List Ad}(hA:Lk F M v){f:Fo}(h1:f.one=true)(hw:f.wf false none=true){r:List Ad}(hv:v=f.flat++r):Gh F v=some ((f.flat.length:Int),f.sh 0 Ih,true):=by
 obtain⟨o,ho,_⟩:=HT hA;have e:=(MW hA h1 hw hv).eq ho;subst e;unfold Gh;rw[AU ho];rfl
def Kn (m:Bool)(last:Option Ai)(xs:List Ad):Option (Option Ai×List Ad):=
 bif m then match xs with
  | []=>none
  | c::r=>bif pl c&&decide (c.fKind=4)&&Dg true last (some c.fStr) then some (some c.fStr,r) else none
 else some (none,xs)
def I0:Nat→Bool→Option Ai→Nat→List Ad→Option (Fo×List Ad)
 | 0,_,_,_,_=>none
 | _+1,_,_,0,xs=>some (.nil,xs)
 | F+1,m,last,k+1,xs=>
  match Kn m last xs with
  | none=>none
  | some (_,[])=>none
  | some (key,c::xs')=>
   bif !pl c then none else
   bif decide (0<c.fN) then
    match I0 F (decide (c.fKind=6)) none c.fN.toNat xs' with
    | none=>none
    | some (kids,ys)=>match I0 F m key k ys with
     | none=>none
     | some (r,zs)=>some (.node key c kids r,zs)
   else match I0 F m key k xs' with
    | none=>none
    | some (r,zs)=>some (.cell key c r,zs)
theorem MC {c:Ad}(hp:pl c=true)(hk:c.fKind=4):c=⟨4,0,c.fStr,0⟩∧c.fStr.all NO=true:=by
 cases c
 simp only at hk;subst hk;simp[pl] at hp;obtain⟨h1,h2,h3⟩:=hp;subst h1;subst h2;exact⟨rfl,by simpa using h3⟩
theorem KN {m:Bool}{last key:Option Ai}{xs r:List Ad}(h:Kn m last xs=some (key,r)):xs=Ce key++r∧Dg m last key=true:=by
 unfold Kn at h
 cases m with
 | false=>cases h;exact⟨rfl,rfl⟩
 | true=>
  simp only[Qv] at h
  cases xs with
  | nil=>cases h
  | cons c r'=>
   simp only at h
   cases hb:(pl c&&decide (c.fKind=4)&&Dg true last (some c.fStr)) with
   | false=>rw[hb] at h;cases h
   | true=>
    rw[hb] at h;simp only[Qm,Qh] at hb
    cases h
    exact⟨by rw[(MC hb.1.1 hb.1.2).1];rfl,hb.2⟩
theorem Eq:∀(F:Nat) (m:Bool) (last:Option Ai) (k:Nat) (xs:List Ad) (f:Fo) (ys:List Ad),I0 F m last k xs=some (f,ys)→xs=f.flat++ys∧f.wf m last=true∧f.cnt=k
 | 0,_,_,_,_,_,_,h=>by cases h
 | F+1,m,last,0,xs,f,ys,h=>by cases h;exact⟨rfl,rfl,rfl⟩
 | F+1,m,last,k+1,xs,f,ys,h=>by
  rw[I0] at h
  cases hk:Kn m last xs with
  | none=>rw[hk] at h;cases h
  | some p=>
   obtain⟨key,r⟩:=p;obtain⟨h1,h2⟩:=KN hk;rw[hk] at h
   cases r with
   | nil=>cases h
   | cons c xs'=>
    simp only at h
    cases hp:pl c with
    | false=>rw[hp] at h;cases h
    | true=>
     rw[hp] at h;simp only[Qw,Qr] at h
     cases hn:decide (0<c.fN) with
     | true=>
      rw[hn] at h;simp only[Qv] at h
      cases hq:I0 F (decide (c.fKind=6)) none c.fN.toNat xs' with
      | none=>rw[hq] at h;cases h
      | some q=>
       obtain⟨kids,zs⟩:=q;rw[hq] at h;simp only at h
       cases hr:I0 F m key k zs with
       | none=>rw[hr] at h;cases h
       | some q2=>
        obtain⟨r2,us⟩:=q2;rw[hr] at h;cases h;obtain⟨a1,a2,a3⟩:=Eq F _ _ _ _ _ _ hq;obtain⟨b1,b2,b3⟩:=Eq F _ _ _ _ _ _ hr;refine⟨by rw[h1,a1,b1];simp[Fo.flat],?_,by simp[Fo.cnt,b3]⟩;simp only[Qh] at hn;simp only[Fo.wf,h2,hp,a2,b2,Q9,Q4,Qm,Qh];omega
     | false=>
      rw[hn] at h;simp only[Qr] at h
      cases hr:I0 F m key k xs' with
      | none=>rw[hr] at h;cases h
      | some q2=>
       obtain⟨r2,us⟩:=q2;rw[hr] at h;cases h;obtain⟨b1,b2,b3⟩:=Eq F _ _ _ _ _ _ hr;exact⟨by rw[h1,b1];simp[Fo.flat],by simp[Fo.wf,h2,hp,b2,hn],by simp[Fo.cnt,b3]⟩
def KA {S:Type}(body:S→Option (Stp S O4))(s:S):Prop:=∃sh',Fin body s (.ret (0,sh',false))∨Fin body s (.go sh')
theorem Ct.bad {S:Type}{body:S→Option (Stp S O4)}{s t:S}(h:Ct body s t)(h':KA body t):KA body s:=by
 obtain⟨sh',h' | h'⟩:=h'
 ·exact⟨sh',.inl (h.fin h')⟩
 ·exact⟨sh',.inr (h.fin h')⟩
section
variable {F M : Nat} {v : List Ad}
theorem KA.end_ {S:List Ap}{i:Int}{sh:At}(h0:0≤i)(h:v.drop i.toNat=[]):KA (JI F v) (S.reverse,i,sh):=by
 refine⟨sh,.inr (Fin.step ?_)⟩;show Ca F v S.reverse i sh=_;unfold Ca;rw[AL];have:v.length≤i.toNat:=by simpa using h
 simp;omega
theorem KA.pl_ (hA:Lk F M v){S:List Ap}{i:Int}{sh:At}{c:Ad}{r:List Ad}(h0:0≤i)(h:v.drop i.toNat=c::r)(hS:(S.length:Int)≤i)(hb:Cd S)(hp:pl c=false):KA (JI F v) (S.reverse,i,sh):=by
 refine⟨sh,.inl (Fin.step ?_)⟩;rw[round hA h0 h hS hb];simp[Kc,hp]
theorem K2 (hA:Lk F M v):∀(P:Nat) (k:Nat) (e:Ap) (S:List Ap) (i:Int) (sh:At) (last:Option Ai) (xs:List Ad),xs.length<P→I0 P e.fPairs last (k+1) xs=none→e.fKey=e.fPairs→e.fLeft=(k:Int)+1→(k:Int)+1≤9223372036854775807→Ev e last→(e.fPairs=false→last=none)→v.drop i.toNat=xs→0≤i→(S.length:Int)+1≤i→Cd S→
  KA (JI F v) ((e::S).reverse,i,sh):=by
 intro P
 induction P with
 | zero=>intro k e S i sh last xs h;omega
 | succ P ih=>
  intro k e S i sh last xs hP hn hk hl hkm hlo hm hv h0 hS hb;have hb':Cd (e::S):=λx hx=>by
   rcases List.mem_cons.1 hx with rfl | hx
   ·constructor<;>omega
   ·exact hb x hx
  rw[I0] at hn
  cases hq:Kn e.fPairs last xs with
  | none=>
   unfold Kn at hq
   cases hpr:e.fPairs with
   | false=>rw[hpr] at hq;cases hq
   | true=>
    rw[hpr] at hq hk;simp only[Qv] at hq
    cases xs with
    | nil=>exact KA.end_ h0 hv
    | cons c r=>
     simp only at hq
     cases hp:pl c with
     | false=>exact KA.pl_ hA h0 hv (by simpa using hS) hb' hp
     | true=>
      refine⟨sh,.inl (Fin.step ?_)⟩;rw[round hA h0 hv (by simpa using hS) hb'];have ht:(!decide (c.fKind=4)||(e.fStarted&&(Bg c.fStr e.fLast||decide (c.fStr=e.fLast))))=true:=by
       rw[hp] at hq
       cases h4:decide (c.fKind=4) with
       | false=>rfl
       | true=>
        rw[h4] at hq;simp only[Bool.and_self,Q4] at hq;have hok:=(MC hp (by simpa using h4)).2
        cases last with
        | none=>simp[Dg,hok] at hq
        | some p=>
         obtain⟨q1,q2⟩:=hlo;rw[q1,q2]
         cases hc:(Bg c.fStr p||decide (c.fStr=p)) with
         | true=>rfl
         | false=>simp[Dg,hok,hc] at hq
      simp only[Kc,hp,hk,ht,Qw,Qr,Qv]
  | some q=>
   obtain⟨key,r⟩:=q;obtain⟨h1,h2⟩:=KN hq;rw[hq] at hn;have hkr:=HZ (sh:=sh) hA h0 (by rw[hv];exact h1) hS hb' (by rw[hk];exact h2) hlo;have hv1:=Ez h0 (hv.trans h1);obtain⟨kl,kp⟩:=EX (e:=e) key;obtain⟨q1,q2⟩:=EY hlo hm h2;have hbk:Cd (Df e key::S):=λx hx=>by
    rcases List.mem_cons.1 hx with rfl | hx
    ·rw[kl];exact hb' e (by simp)
    ·exact hb x hx
   refine hkr.bad ?_
   cases r with
   | nil=>exact KA.end_ (by omega) hv1
   | cons c xs'=>
    have hlen:xs'.length+1≤xs.length:=by rw[h1];simp
    have hvl:xs.length≤v.length:=by rw[← hv,List.length_drop];omega
    have hvM:=hA.hv;have hMM:=hA.hM;have hkk:=GJ (e:=e) (last:=last) (k:=key) (by rw[hk];exact h2);simp only at hn;have hSk:(((Df e key::S).length:Nat):Int)≤i+(Ce key).length:=by simp only[Qt];omega
    cases hp:pl c with
    | false=>exact KA.pl_ hA (by omega) hv1 hSk hbk hp
    | true=>
     rw[hp] at hn;simp only[Qw,Qr] at hn;obtain⟨g1,g2,g3⟩:=Ey (by omega) hv1;have hcN:=(hA.hc c (Qu g1)).2.2;have more:∀(s:Jk) (j:Int) (sh':At) (zs:List Ad),D9 (JI F v) s (Df e key::S) j sh'→v.drop j.toNat=zs→zs.length<P→0≤j→(S.length:Int)+1≤j→I0 P e.fPairs key k zs=none→KA (JI F v) s:=λs j sh' zs hd hz hzl hj hSj hnone=>by
      cases k with
      | zero=>
       cases P with
       | zero=>omega
       | succ P=>cases hnone
      | succ k=>
       have:=hd.more (by rw[kl];omega);refine this.bad (ih k _ S j sh' key zs hzl (by rw[kp];exact hnone) rfl (by simp only[kl];omega) (by omega) ?_ (by simpa using q2) hz hj hSj hb)
       cases key with
       | none=>exact q1
       | some p=>exact q1
     cases hN:decide (0<c.fN) with
     | true=>
      rw[hN] at hn;simp only[Qv] at hn;simp only[Qh] at hN
      by_cases hbig:c.fN≤v.length
      ·have hnd:=EA (sh:=GV key sh) hA (by omega) hv1 hSk hbk (by simpa[GK] using hkk) hp (by simpa using hN) hbig;refine hnd.bad ?_
       cases hks:I0 P (decide (c.fKind=6)) none c.fN.toNat xs' with
       | none=>
        obtain⟨n',hn'⟩:∃n',c.fN.toNat=n'+1:=⟨c.fN.toNat-1,by omega⟩
        rw[hn'] at hks;exact ih n' _ _ _ _ none xs' (by omega) hks rfl (by simp only;omega) (by omega) rfl (λ_=>rfl) g2 (by omega) (by simp only[Qt];omega) hbk
       | some q=>
        obtain⟨kids,zs⟩:=q;rw[hks] at hn;simp only at hn;have hn2:I0 P e.fPairs key k zs=none:=by
         cases hz:I0 P e.fPairs key k zs with
         | none=>rfl
         | some q=>rw[hz] at hn;cases hn
        obtain⟨a1,a2,a3⟩:=Eq _ _ _ _ _ _ _ hks;have hd:=GY hA kids ⟨decide (c.fKind=6),c.fN,decide (c.fKind=6),[],false⟩ (Df e key::S) (i+(Ce key).length+1) (Ei (S.length+1) (GV key sh) c) none zs (by omega) a2 rfl (by simp only;omega) rfl (λ_=>rfl) (by rw[g2];exact a1) (by omega) (by simp only[Qt];omega) hbk;have hz:v.drop (i+(Ce key).length+1+kids.flat.length).toNat=zs:=Ez (by omega) (g2.trans a1);have hzl:zs.length≤xs'.length:=by rw[a1];simp
        exact more _ _ _ zs hd hz (by omega) (by omega) (by omega) hn2
      ·refine⟨Ei (Df e key::S).length (GV key sh) c,.inl (Fin.step ?_)⟩;rw[round hA (by omega) hv1 hSk hbk];have hbig':decide ((v.length:Int)<c.fN)=true:=by simpa using hbig
       simp only[Kc,hp,hkk,hbig',hN,Qw,Qr,Qv,decide_true]
     | false=>
      rw[hN] at hn;simp only[Qr] at hn;have hn2:I0 P e.fPairs key k xs'=none:=by
       cases hz:I0 P e.fPairs key k xs' with
       | none=>rfl
       | some q=>rw[hz] at hn;cases hn
      have hd:=GH (sh:=GV key sh) hA (by omega) hv1 hSk hbk (by simpa[GK] using hkk) hp hN;exact more _ _ _ xs' hd g2 (by omega) (by omega) (by omega) hn2
def Ko (xs:List Ad):Option (Fo×List Ad):=I0 (xs.length+1) false none 1 xs
theorem KM {P:Nat}{xs ys:List Ad}{f:Fo}(h:I0 P false none 1 xs=some (f,ys)):f.one=true:=by
 obtain⟨h1,h2,h3⟩:=Eq _ _ _ _ _ _ _ h
 cases f with
 | nil=>cases h3
 | cell k c r=>
  cases r with
  | nil=>
   cases k with
   | none=>rfl
   | some s=>simp[Fo.wf,Dg] at h2
  | cell _ _ _=>simp[Fo.cnt] at h3
  | node _ _ _ _=>simp[Fo.cnt] at h3
 | node k c kids r=>
  cases r with
  | nil=>
   cases k with
   | none=>rfl
   | some s=>simp[Fo.wf,Dg] at h2
  | cell _ _ _=>simp[Fo.cnt] at h3
  | node _ _ _ _=>simp[Fo.cnt] at h3
theorem LH (hA:Lk F M v)(h:Ko v=none):KA (JI F v) ([],0,Ih):=by
 have hlf:Cd []:=λx hx=>by cases hx
 unfold Ko at h;rw[I0] at h;simp only[Kn,Qr] at h
 cases v with
 | nil=>exact KA.end_ (S:=[]) (QF 0) rfl
 | cons c xs'=>
  have hv1:(c::xs').drop (0:Int).toNat=c::xs':=rfl;have hvM:=hA.hv;have hMM:=hA.hM;simp only at h
  cases hp:pl c with
  | false=>exact KA.pl_ (S:=[]) hA (QF 0) hv1 (by simp) hlf hp
  | true=>
   rw[hp] at h;simp only[Qw,Qr] at h;have hcN:=(hA.hc c (by simp)).2.2
   cases hN:decide (0<c.fN) with
   | true=>
    rw[hN] at h;simp only[Qv] at h;simp only[Qh] at hN
    by_cases hbig:c.fN≤(c::xs').length
    ·have hnd:=EA (S:=[]) (sh:=Ih) hA (QF 0) hv1 (by simp) hlf rfl hp (by simpa using hN) hbig;refine hnd.bad ?_
     cases hks:I0 (c::xs').length (decide (c.fKind=6)) none c.fN.toNat xs' with
     | none=>
      obtain⟨n',hn'⟩:∃n',c.fN.toNat=n'+1:=⟨c.fN.toNat-1,by omega⟩
      rw[hn'] at hks;exact K2 hA (c::xs').length n' ⟨decide (c.fKind=6),c.fN,decide (c.fKind=6),[],false⟩ [] (0+1) _ none xs' (by simp) hks rfl (by simp only;omega) (by omega) rfl (λ_=>rfl) rfl (by omega) (by simp) hlf
     | some q=>rw[hks] at h;cases h
    ·refine⟨Ei 0 Ih c,.inl (Fin.step ?_)⟩;rw[show JI F (c::xs') (([]:List Ap),0,Ih)=_ from round (S:=[]) hA (QF 0) hv1 (by simp) hlf];have hbig':decide (((c::xs').length:Int)<c.fN)=true:=by simpa using hbig
     simp only[Kc,hp,hbig',hN,Qw,Qr,Qv,decide_true]
   | false=>rw[hN] at h;cases h
theorem NV (hA:Lk F M v):(∃f ys,Ko v=some (f,ys)∧Gh F v=some ((f.flat.length:Int),f.sh 0 Ih,true))∨(Ko v=none∧∃sh',Gh F v=some (0,sh',false)):=by
 cases h:Ko v with
 | some q=>
  obtain⟨f,ys⟩:=q;obtain⟨h1,h2,h3⟩:=Eq _ _ _ _ _ _ _ h;exact .inl ⟨f,ys,rfl,MV hA (KM h) h2 h1⟩
 | none=>
  refine .inr ⟨rfl,?_⟩;obtain⟨o,ho,_⟩:=HT hA;obtain⟨sh',hb | hb⟩:=LH hA h
  ·have e:=hb.eq ho;subst e;exact⟨sh',by unfold Gh;rw[AU ho];rfl⟩
  ·have e:=hb.eq ho;subst e;exact⟨sh',by unfold Gh;rw[AU ho];rfl⟩
end
theorem E4 {x:Int}(h : -9223372036854775808≤x)(h':x≤9223372036854775807):IntKind.wrap .i64 x=x:=by
 simp only[IntKind.wrap,IntKind.bits,IntKind.signed];simp;omega
def Fo.dep:Fo→Nat
 | .nil=>0
 | .cell _ _ r=>max 1 r.dep
 | .node _ _ kids r=>max (kids.dep+1) r.dep
theorem Do (k:Option Ai)(s:At):(GV k s).fDepth=s.fDepth∧(GV k s).fOutside=s.fOutside∧(GV k s).fLong=(s.fLong||(Ce k).any λc=>decide (200<(c.fStr.length:Int))):=by
 cases k with
 | none=>simp[GV,Ce]
 | some x=>simp[GV,Pn,Ce]
theorem Gn:∀(f:Fo) (d:Nat) (s:At),(d:Int)≤s.fDepth→(f.sh d s).fDepth=max s.fDepth ((d:Int)+f.dep)
 | .nil,d,s,h=>by simp only[Fo.sh,Fo.dep];omega
 | .cell k c r,d,s,h=>by
  have hk:=(Do k s).1;have e:(Ei d (GV k s) c).fDepth=max s.fDepth ((d:Int)+1):=by rw[Ei,hk]
  rw[Fo.sh,Gn r d _ (by rw[e];omega),e,Fo.dep];omega
 | .node k c kids r,d,s,h=>by
  have hk:=(Do k s).1;have e:(Ei d (GV k s) c).fDepth=max s.fDepth ((d:Int)+1):=by rw[Ei,hk]
  have e2:=Gn kids (d+1) (Ei d (GV k s) c) (by rw[e];omega);rw[e] at e2;rw[Fo.sh,Gn r d _ (by rw[e2];omega),e2,Fo.dep];omega
def Lz (c:Ad):Bool:=decide (c.fKind=3)&&!(decide ((-1000000000000)≤c.fInt)&&decide (c.fInt≤1000000000000))
def KV (c:Ad):Bool:=decide (200<(c.fStr.length:Int))
theorem JN (k:Option Ai):(Ce k).any Lz=false:=by cases k<;>simp[Ce,Lz]
theorem IR:∀(f:Fo) (d:Nat) (s:At),(f.sh d s).fOutside=(s.fOutside||f.flat.any Lz)
 | .nil,d,s=>by simp[Fo.sh,Fo.flat]
 | .cell k c r,d,s=>by
  rw[Fo.sh,IR r,Ei,(Do k s).2.1];simp only[Fo.flat,List.any_append,List.any_cons,JN,Qz,Bool.or_assoc];rfl
 | .node k c kids r,d,s=>by
  rw[Fo.sh,IR r,IR kids,Ei,(Do k s).2.1];simp only[Fo.flat,List.any_append,List.any_cons,JN,Qz,Bool.or_assoc];rfl
theorem Hp:∀(f:Fo) (d:Nat) (s:At),(f.sh d s).fLong=(s.fLong||f.flat.any KV)
 | .nil,d,s=>by simp[Fo.sh,Fo.flat]
 | .cell k c r,d,s=>by
  rw[Fo.sh,Hp r,Ei,(Do k s).2.2];simp only[Fo.flat,List.any_append,List.any_cons,Bool.or_assoc];rfl
 | .node k c kids r,d,s=>by
  rw[Fo.sh,Hp r,Hp kids,Ei,(Do k s).2.2];simp only[Fo.flat,List.any_append,List.any_cons,Bool.or_assoc];rfl
def Nv (c:Ad):Int:=
 bif decide (c.fKind=1) then 4 else bif decide (c.fKind=2) then 5-c.fInt else bif decide (c.fKind=3) then((Lib.itoa c.fInt).length:Int) else
 bif decide (c.fKind=4) then GC c.fStr else 2
def IY:Option Ai→Int
 | none=>0
 | some s=>GC s+1
def Fo.byt:Fo→Int
 | .nil=>0
 | .cell k c r=>IY k+Nv c+r.byt
 | .node k c kids r=>IY k+(c.fN+1)+kids.byt+r.byt
theorem HN (s:Ai):2≤GC s:=by unfold GC;omega
theorem Hw (k:Option Ai):0≤IY k:=by
 cases k with
 | none=>exact QF 0
 | some s=>have:=HN s;simp only[IY];omega
theorem KU {c:Ad}(hp:pl c=true):0≤Nv c:=by
 unfold Nv
 cases h1:decide (c.fKind=1) with
 | true=>simp
 | false=>
  cases h2:decide (c.fKind=2) with
  | true=>
   simp[pl,h1,h2] at hp;simp only[Qr,Qv];omega
  | false=>
   cases h3:decide (c.fKind=3) with
   | true=>simp
   | false=>
    cases h4:decide (c.fKind=4) with
    | true=>have:=HN c.fStr;simp only[Qr,Qv];omega
    | false=>simp
theorem PN {c:Ad}(hp:pl c=true):0≤c.fN:=by
 simp only[pl,← Bool.decide_or] at hp
 cases h1:decide (c.fKind=1)<;>cases h2:decide (c.fKind=2)<;>cases h3:decide (c.fKind=3)<;>cases h4:decide (c.fKind=4)<;>cases h5:decide (c.fKind=5)<;>cases h6:decide (c.fKind=6)<;>simp[h1,h2,h3,h4,h5,h6] at hp<;>omega
theorem NI {c:Ad}(hp:pl c=true)(hn:0<c.fN):(c.fKind=5∨c.fKind=6)∧c.fInt=0∧c.fStr=[]:=by
 cases h1:decide (c.fKind=1)<;>cases h2:decide (c.fKind=2)<;>cases h3:decide (c.fKind=3)<;>cases h4:decide (c.fKind=4)<;>cases h5:decide (c.fKind=5)<;>cases h6:decide (c.fKind=6)<;>simp[pl,h1,h2,h3,h4,h5,h6] at hp<;>(simp only[Qh,Qi] at *;first | omega | exact⟨by omega,hp.1,hp.2.1⟩)
theorem M1 {c:Ad}(hp:pl c=true)(hn:decide (0<c.fN)=false):OG c=Nv c:=by
 have hN:=PN hp;have h0:c.fN=0:=by simp only[Qi] at hn;omega
 unfold OG Nv;rw[h0]
 cases h1:decide (c.fKind=1) with
 | true=>rfl
 | false=>
  cases h2:decide (c.fKind=2) with
  | true=>
   simp[pl,h1,h2] at hp;simp only[Qr,Qv];exact E4 (by omega) (by omega)
  | false=>rfl
theorem M0 {c:Ad}(hp:pl c=true)(hn:0<c.fN)(hm:c.fN≤9223372036854775000):OG c=c.fN+1:=by
 obtain⟨hk,_,_⟩:=NI hp hn;unfold OG;rw[Ql (by omega),Ql (by omega),Ql (by omega),Ql (by omega)];simp only[Qr];rw[E4 (x:=c.fN-1) (by omega) (by omega),E4 (by omega) (by omega)];omega
theorem DY:∀{f:Fo} {m:Bool} {l:Option Ai},f.wf m l=true→0≤f.byt
 | .nil,_,_,_=>QF 0
 | .cell k c r,m,l,h=>by
  simp only[Fo.wf,Qm] at h;have h1:=DY h.2;have h2:=KU h.1.1.2;have h3:=Hw k;simp only[Fo.byt];omega
 | .node k c kids r,m,l,h=>by
  simp only[Fo.wf,Qm,Qh] at h;have h1:=DY h.2;have h2:=DY h.1.2;have h3:=Hw k;simp only[Fo.byt];omega
theorem Iz (k:Option Ai)(s:At)(h0:0≤s.fBytes)(h:s.fBytes+IY k≤9223372036854775807):(GV k s).fBytes=s.fBytes+IY k:=by
 cases k with
 | none=>simp[GV,IY]
 | some x=>
  have:=HN x;simp only[IY] at h;simp only[GV,Pn,IY];exact E4 (by omega) (by omega)
theorem Gp:∀(f:Fo) (m:Bool) (l:Option Ai) (d:Nat) (s:At),f.wf m l=true→0≤s.fBytes→s.fBytes+f.byt≤9223372036854775000→(f.sh d s).fBytes=s.fBytes+f.byt
 | .nil,_,_,d,s,_,_,_=>by simp[Fo.sh,Fo.byt]
 | .cell k c r,m,l,d,s,hw,h0,h=>by
  simp only[Fo.wf,Qm,QL] at hw;obtain⟨⟨⟨w1,w2⟩,w3⟩,w4⟩:=hw;have h1:=DY w4;have h2:=KU w2;have h3:=Hw k;simp only[Fo.byt] at h;have e1:=Iz k s h0 (by omega);have e:(Ei d (GV k s) c).fBytes=s.fBytes+IY k+Nv c:=by
   rw[Ei,e1,M1 w2 w3];exact E4 (by omega) (by omega)
  rw[Fo.sh,Gp r _ _ d _ w4 (by rw[e];omega) (by rw[e];omega),e,Fo.byt];omega
 | .node k c kids r,m,l,d,s,hw,h0,h=>by
  simp only[Fo.wf,Qm,Qh] at hw;obtain⟨⟨⟨⟨⟨w1,w2⟩,w3⟩,w5⟩,w6⟩,w4⟩:=hw;have h1:=DY w4;have h2:=DY w6;have h3:=Hw k;simp only[Fo.byt] at h;have e1:=Iz k s h0 (by omega);have e:(Ei d (GV k s) c).fBytes=s.fBytes+IY k+(c.fN+1):=by
   rw[Ei,e1,M0 w2 w3 (by omega)];exact E4 (by omega) (by omega)
  have e2:=Gp kids _ _ (d+1) (Ei d (GV k s) c) w6 (by rw[e];omega) (by rw[e];omega);rw[Fo.sh,Gp r _ _ d _ w4 (by rw[e2,e];omega) (by rw[e2,e];omega),e2,e,Fo.byt];omega
def OZ (s:Ai):Ai:=s.flatMap λc=>bif (decide (c=34)||decide (c=92)) then[92,c] else[c]
def NG (s:Ai):Ai:=34::(OZ s++[34])
theorem JT:∀s:Ai,(OZ s).length=s.length+s.count 34+s.count 92
 | []=>rfl
 | c::s=>by
  have ih:=JT s;unfold OZ at ih ⊢;rw[List.flatMap_cons,Qy,ih]
  by_cases h1:c=34
  ·subst h1;simp;omega
  ·by_cases h2:c=92
   ·subst h2;simp;omega
   ·simp[h1,h2,List.count_cons];omega
theorem J5 (s:Ai):((NG s).length:Int)=GC s:=by
 simp only[NG,Qt,Qy,JT,QS,GC];omega
def MZ (c:Ad):Ai:=
 bif decide (c.fKind=1) then[110,117,108,108] else
 bif decide (c.fKind=2) then(bif decide (c.fInt=1) then[116,114,117,101] else[102,97,108,115,101]) else
 bif decide (c.fKind=3) then Lib.itoa c.fInt else
 bif decide (c.fKind=4) then NG c.fStr else
 bif decide (c.fKind=6) then[123,125] else[91,93]
def PD:Option Ai→Ai
 | none=>[]
 | some s=>NG s++[58]
def PT (c:Ad)(s:Ai):Ai:=bif decide (c.fKind=6) then 123::(s++[125]) else 91::(s++[93])
def ND (first:Bool):Ai:=bif first then[] else[44]
def Fo.txt:Bool→Fo→Ai
 | _,.nil=>[]
 | b,.cell k c r=>ND b++PD k++MZ c++r.txt false
 | b,.node k c kids r=>ND b++PD k++PT c (kids.txt true)++r.txt false
theorem La (k:Option Ai):((PD k).length:Int)=IY k:=by
 cases k with
 | none=>rfl
 | some s=>simp only[PD,Qy,IY,QQ];have:=J5 s;omega
theorem LJ {c:Ad}(hp:pl c=true):((MZ c).length:Int)=Nv c:=by
  unfold MZ Nv
  cases h1:decide (c.fKind=1) with
  | true=>rfl
  | false=>
    cases h2:decide (c.fKind=2) with
    | true=>
      simp[pl,h1,h2] at hp;simp only[Qr,Qv]
      cases h7:decide (c.fInt=1) with
      | true=>simp only[Qh] at h7;simp[h7]
      | false=>
                 simp only[Qi] at h7;have:c.fInt=0:=by omega
                 simp[this]
    | false=>
      cases h3:decide (c.fKind=3) with
      | true=>rfl
      | false=>
        cases h4:decide (c.fKind=4) with
        | true=>simpa using J5 c.fStr
        | false=>cases h6:decide (c.fKind=6)<;>rfl
theorem Om (c:Ad)(s:Ai):(PT c s).length=s.length+2:=by
 unfold PT
 cases decide (c.fKind=6)<;>simp
theorem Hl:∀(f:Fo) (m:Bool) (l:Option Ai) (b:Bool),f.wf m l=true→((f.txt b).length:Int)=f.byt+(bif b then((f.cnt-1:Nat):Int) else(f.cnt:Int))
 | .nil,m,l,b,_=>by cases b<;>rfl
 | .cell k c r,m,l,b,hw=>by
  simp only[Fo.wf,Qm,QL] at hw;obtain⟨⟨⟨w1,w2⟩,w3⟩,w4⟩:=hw;have ih:=Hl r _ _ false w4;have a:=La k;have d:=LJ w2;simp only[Qr] at ih
  cases b<;>simp only[Fo.txt,Fo.byt,Fo.cnt,ND,Qv,Qr,Qy,QS,QQ]<;>omega
 | .node k c kids r,m,l,b,hw=>by
  simp only[Fo.wf,Qm,Qh] at hw;obtain⟨⟨⟨⟨⟨w1,w2⟩,w3⟩,w5⟩,w6⟩,w4⟩:=hw;have ih:=Hl r _ _ false w4;have ih2:=Hl kids _ _ true w6;have a:=La k;have d:=Om c (kids.txt true);simp only[Qr,Qv] at ih ih2
  cases b<;>simp only[Fo.txt,Fo.byt,Fo.cnt,ND,Qv,Qr,Qy,QS,QQ]<;>omega
def Fo.put (k:Option Ai):Fo→Fo→Fo
 | .cell _ c _,r=>.cell k c r
 | .node _ c kids _,r=>.node k c kids r
 | .nil,_=>.nil
theorem NH {xs ys:List Ad}{f:Fo}(h:Ko xs=some (f,ys)):xs=f.flat++ys∧f.wf false none=true∧f.one=true:=
 ⟨(Eq _ _ _ _ _ _ _ h).1,(Eq _ _ _ _ _ _ _ h).2.1,KM h⟩
structure Qg (F M:Nat) (v:List Ad):Prop where
 hM:M≤1152921504606846976
 hv:v.length≤M
 hF:M<F
 hc:∀c∈v,c.fStr.length≤M
section
variable {M : Nat} {v : List Ad}
end
structure K9 (M:Nat) (v:List Ad):Prop where
 hM:M≤1000000000
 hv:v.length≤M
 hc:∀c∈v,c.fStr.length≤M∧Ci .i64 c.fInt=true∧c.fN≤9223372036854775807
theorem K9.lk {M F:Nat}{v:List Ad}(h:K9 M v)(hF:M<F):Lk F M v:=⟨by have:=h.hM;omega,by have:=h.hM;omega,h.hv,hF,h.hc⟩
theorem K9.drop {M:Nat}{v:List Ad}(h:K9 M v)(k:Nat):K9 M (v.drop k):=⟨h.hM,by have:=h.hv;rw[List.length_drop];omega,λc hc=>h.hc c (List.mem_of_mem_drop hc)⟩
theorem K9.take {M:Nat}{v:List Ad}(h:K9 M v)(k:Nat):K9 M (v.take k):=⟨h.hM,by have:=h.hv;rw[QN];omega,λc hc=>h.hc c (List.mem_of_mem_take hc)⟩
def whole (v:List Ad):Option Fo:=match Ko v with
 | some (f,[])=>some f
 | _=>none
def P4 (f:Fo):Int:=
 bif f.flat.any Lz then 2 else bif f.flat.any KV||(decide (200<f.flat.length)||(decide (8<f.dep)||decide (4000<(f.txt true).length))) then 3 else 0
def Pa (v:List Ad):Int:=match whole v with
 | none=>1
 | some f=>P4 f
theorem NN {f:Fo}(h1:f.one=true):f.cnt=1:=by
 cases f with
 | nil=>cases h1
 | cell k c r=>cases k with
  | some _=>cases h1
  | none=>cases r with
   | nil=>rfl
   | _=>cases h1
 | node k c kids r=>cases k with
  | some _=>cases h1
  | none=>cases r with
   | nil=>rfl
   | _=>cases h1
theorem IV (s:Ai):GC s≤2*s.length+2+s.length:=by
 have h1:s.count 34≤s.length:=List.count_le_length;have h2:s.count 92≤s.length:=List.count_le_length;unfold GC;omega
theorem OQ {c:Ad}{M:Nat}(hp:pl c=true)(hs:c.fStr.length≤M)(hi:(Lib.itoa c.fInt).length≤21):Nv c≤3*M+21:=by
 have:=IV c.fStr;unfold Nv
 cases h1:decide (c.fKind=1) with
 | true=>simp only[Qv];omega
 | false=>
  cases h2:decide (c.fKind=2) with
  | true=>
   simp[pl,h1,h2] at hp;simp only[Qr,Qv];omega
  | false=>
   cases h3:decide (c.fKind=3) with
   | true=>simp only[Qr,Qv];omega
   | false=>cases h4:decide (c.fKind=4)<;>simp only[Qr,Qv]<;>omega
theorem Jf {M:Nat}:∀{f:Fo} {m:Bool} {l:Option Ai},f.wf m l=true→(∀c∈f.flat,c.fStr.length≤M∧Ci .i64 c.fInt=true∧c.fN≤9223372036854775807)→f.byt+f.cnt≤(3*M+24)*f.flat.length
 | .nil,_,_,_,_=>by simp[Fo.byt,Fo.flat,Fo.cnt]
 | .cell k c r,m,l,hw,hc=>by
  simp only[Fo.wf,Qm,QL] at hw;obtain⟨⟨⟨w1,w2⟩,w3⟩,w4⟩:=hw;simp only[Fo.flat] at hc;have ih:=Jf w4 (λx hx=>hc x (by simp[hx]));obtain⟨c1,c2,c3⟩:=hc c (by simp);have i64:=G0 c2;have hl:=OQ w2 c1 (Lib.itoa_length_le c.fInt i64.1 i64.2);have hk:IY k≤(3*M+24)*(Ce k).length:=by
   cases k with
   | none=>simp[IY,Ce]
   | some s=>
    have:=(hc ⟨4,0,s,0⟩ (by simp[Ce])).1;have h2:=IV s;simp only at this;simp only[IY,Ce,QQ];omega
  simp only[Fo.byt,Fo.flat,Fo.cnt,Qy,Qt];have e:((3*(M:Int)+24)*(((Ce k).length+(r.flat.length+1):Nat):Int))=(3*(M:Int)+24)*(Ce k).length+((3*(M:Int)+24)*r.flat.length+(3*(M:Int)+24)):=by
   push_cast;rw[Int.mul_add,Int.mul_add,Int.mul_one]
  rw[e]
  push_cast at *
  omega
 | .node k c kids r,m,l,hw,hc=>by
  simp only[Fo.wf,Qm,Qh] at hw;obtain⟨⟨⟨⟨⟨w1,w2⟩,w3⟩,w5⟩,w6⟩,w4⟩:=hw;simp only[Fo.flat] at hc;have ih:=Jf w4 (λx hx=>hc x (by simp[hx]));have ih2:=Jf w6 (λx hx=>hc x (by simp[hx]));have hcf:=Cg kids;have hk:IY k≤(3*M+24)*(Ce k).length:=by
   cases k with
   | none=>simp[IY,Ce]
   | some s=>
    have:=(hc ⟨4,0,s,0⟩ (by simp[Ce])).1;have h2:=IV s;simp only at this;simp only[IY,Ce,QQ];omega
  simp only[Fo.byt,Fo.flat,Fo.cnt,Qy,Qt];have e:((3*(M:Int)+24)*(((Ce k).length+(kids.flat.length+r.flat.length+1):Nat):Int))=(3*(M:Int)+24)*(Ce k).length+((3*(M:Int)+24)*kids.flat.length+(3*(M:Int)+24)*r.flat.length+(3*(M:Int)+24)):=by
   push_cast;rw[Int.mul_add,Int.mul_add,Int.mul_add,Int.mul_one]
  rw[e]
  push_cast at *
  omega
theorem LW {M:Nat}(hM:M≤1000000){f:Fo}{m:Bool}{l:Option Ai}(hw:f.wf m l=true)(hl:f.flat.length≤M)(hc:∀c∈f.flat,c.fStr.length≤M∧Ci .i64 c.fInt=true∧c.fN≤9223372036854775807):f.byt≤4000000000000:=by
 have:=Jf (M:=M) hw hc;have h2:(3*M+24)*f.flat.length≤(3*1000000+24)*1000000:=Nat.mul_le_mul (by omega) (by omega);have h3:(((3*M+24)*f.flat.length:Nat):Int)=(3*(M:Int)+24)*f.flat.length:=by push_cast;rfl
 omega
theorem Lr {M F:Nat}{v:List Ad}(hA:K9 M v)(hM:M≤1000000)(hF:M<F):H9 F v=some (Pa v):=by
 unfold H9 Pa whole;have hvM:=hA.hv;rcases NV (hA.lk hF) with⟨f,ys,hp,hl⟩ | ⟨hp,sh',hl⟩
 ·rw[hl,AU rfl,hp];obtain⟨h1,h2,h3⟩:=NH hp;have hlen:v.length=f.flat.length+ys.length:=by rw[h1];simp
  cases ys with
  | cons c r=>
   rw[Bf];simp only[Qt] at hlen;simp;omega
  | nil=>
   simp only[QS,Nat.add_zero] at hlen;rw[AL (by simp[hlen])];have hc:∀c∈f.flat,c.fStr.length≤M∧Ci .i64 c.fInt=true∧c.fN≤9223372036854775807:=λc hc=>hA.hc c (by rw[h1];simp[hc]);have hb:=LW hM h2 (by omega) hc;have hb0:=DY h2;have e1:(f.sh 0 Ih).fOutside=f.flat.any Lz:=by rw[IR];rfl
   have e2:(f.sh 0 Ih).fLong=f.flat.any KV:=by rw[Hp];rfl
   have e3:(f.sh 0 Ih).fDepth=f.dep:=by rw[Gn f 0 Ih (by simp[Ih])];simp[Ih]
   have e4:(f.sh 0 Ih).fBytes=(f.txt true).length:=by
    rw[Gp f false none 0 Ih h2 (by simp[Ih]) (by simp[Ih];omega),Hl f false none true h2,NN h3];simp[Ih]
   simp only;rw[e1,e2,e3,e4,hlen];unfold P4
   cases f.flat.any Lz with
   | true=>rw[Bf rfl];rfl
   | false=>
    rw[AL rfl];have a1:decide ((200:Int)<(f.flat.length:Int))=decide (200<f.flat.length):=by rw[Q2];simp;omega
    have a2:decide ((8:Int)<(f.dep:Int))=decide (8<f.dep):=by rw[Q2];simp;omega
    have a3:decide ((4000:Int)<((f.txt true).length:Int))=decide (4000<(f.txt true).length):=by rw[Q2];simp;omega
    rw[a1,a2,a3]
    cases(f.flat.any KV||(decide (200<f.flat.length)||(decide (8<f.dep)||decide (4000<(f.txt true).length))))<;>rfl
 ·rw[hl,AU rfl,hp];rfl
section
variable {M : Nat} {v : List Ad}
end
section
variable {M : Nat} {v : List Ad}
end
section
variable {M : Nat} {v : List Ad}
end
theorem P5 {α β:Type}(a:α)(k:α→Option β):Mc a k=k a:=rfl
section
variable {M : Nat}
end
section
variable {M : Nat}
theorem K9.mem {v:List Ad}(hA:K9 M v){p:Int}{a b:List Ad}(h:v.drop p.toNat=a++b):K9 M a:=by
 have:=(hA.drop p.toNat).take a.length
 rwa [h,List.take_left] at this
end
def M5 (v:List Ad):Bool:=!decide (300<v.length)&&v.all λc=>!decide (300<c.fStr.length)
def MH (c:Ad):Bool:=Ci .i64 c.fKind&&Ci .i64 c.fInt&&Nu c.fStr&&Ci .i64 c.fN
theorem K9.of {v:List Ad}(hs:M5 v=true)(hc:v.all MH=true):K9 300 v:=by
 unfold M5 at hs;simp only[Qm,QL,Qi,Q0] at hs hc;refine⟨by decide,by omega,λc h=>?_⟩;obtain h1:=hs.2 c h;obtain h2:=hc c h;unfold MH at h2;simp only[Qm] at h2;exact⟨by omega,h2.1.1.2,(G0 h2.2).2⟩
section
variable {M : Nat}
end
theorem LT {α:Type}{n:Nat}{x:Option α}(h:n≤1000000000):B9 (Ob 40 n) x=x:=BQ (Qn (by omega))
section
variable {T : Type}
end
theorem EM {R V:Type}(K:V→Option R)(v:V):CE K (.go v)=K v:=rfl
theorem Kr {R V:Type}(K:V→Option R)(r:R):CE K (.ret r)=some r:=rfl
theorem Ks {α:Type}[Inhabited α](a:α):ov (some a)=a:=rfl
theorem Gv {α R U:Type}[Inhabited α](l:List α)(P:α→Prop)(B:R→Prop)(u:U)(body:Int→Option (Stp Int (Out R U)))
  (h1:∀(x:Int) (c:α),0≤x→x<(l.length:Int)→c∈l→Ak l x=c→(body x=some (.next (x+1))∧P c)∨∃q,body x=some (.out (.ret q))∧B q)
  (h2:body (l.length:Int)=some (.out (.go u))) {F:Nat} (hF:l.length<F) :
  ∃o,Dq body F 0=some o∧((∃q,o = .ret q∧B q)∨(o = .go u∧∀c∈l,P c)):=by
 refine Di (λx=>0≤x∧x≤(l.length:Int)∧∀c∈l.take x.toNat,P c) (λx=>l.length-x.toNat) _ (λx ⟨h0,hl,ha⟩=>?_) F 0 ⟨QF 0,by omega,by simp⟩ (by show l.length-0<F;omega)
 by_cases hx:x<(l.length:Int)
 ·obtain⟨c,hc⟩:∃c,l[x.toNat]? =some c:=⟨l[x.toNat]'(by omega),Qk (by omega)⟩
  have hat:Ak l x=c:=by simp[Ak,hc]
  rcases h1 x c h0 hx (Qu hc) hat with⟨hb,hp⟩ | ⟨q,hb,hq⟩
  ·refine .inl ⟨x+1,hb,⟨by omega,by omega,λd hd=>?_⟩,by omega⟩;rw[show(x+1).toNat=x.toNat+1 from by omega,List.take_add_one,hc] at hd;simp only[Option.toList_some,List.mem_append,QO,List.not_mem_nil,or_false] at hd;rcases hd with hd | rfl
   ·exact ha d hd
   ·exact hp
  ·exact .inr ⟨.ret q,hb,.inl ⟨q,rfl,hq⟩⟩
 ·have e:x=(l.length:Int):=by omega
  subst e;refine .inr ⟨.go u,h2,.inr ⟨rfl,λc hc=>ha c ?_⟩⟩;rw[show((l.length:Int)).toNat=l.length from by omega,List.take_length];exact hc
abbrev KX (x y:Ab):Bool:=BZ x.fAt y.fAt x.fID y.fID
abbrev EO (x y:Aa):Bool:=KX x.fTimer y.fTimer
theorem Pq:Ow KX:=Kw (λx:Ab=>x.fAt) (λx=>x.fID)
theorem Pr:Ow EO:=Kw (λx:Aa=>x.fTimer.fAt) (λx=>x.fTimer.fID)
structure LY (t:Ab):Prop where
 body:K9 5000 t.fBody
 id:t.fID.length≤300
 ten:t.fTenant.length≤300
 src:t.fSource.length≤300
 len:t.fBody.length≤300
structure TI (ts:List Aa):Prop where
 srt:ts.Pairwise λa b=>EO a b=true
 ids:ts.Pairwise λa b=>a.fTimer.fID≠b.fTimer.fID
 len:ts.length≤256
 sm:∀x∈ts,LY x.fTimer
structure E1 (m:List (Ai×Aa)) (ts:List Aa):Prop where
 ms:Ms m
 pm:m.Perm (ts.map λx=>(x.fTimer.fID,x))
 ti:TI ts
def K3 (t:Ab):Int:=bif !(Nf t.fID) then 4 else bif !(decide (0≤t.fAt)&&decide (t.fAt≤1073741824)) then 2 else bif (!(C7 t.fTenant)||!(C7 t.fSource)) then 4 else Pa t.fBody
def Dr (x:Aa)(now:Int):Aa:=⟨x.fTimer,x.fTold||decide (x.fTimer.fAt≤now)⟩
def G7 (ts:List Aa)(id:Ai):Bool:=ts.any λx=>decide (x.fTimer.fID=id)
def If (ts:List Aa)(id:Ai):Bool:=ts.any λx=>decide (x.fTimer.fID=id)&&x.fTold
def Hh (ts:List Aa)(id:Ai):List Aa:=ts.filter λx=>!decide (x.fTimer.fID=id)
def LX (ts:List Aa)(t:Ab)(now:Int):Int×List Aa:=
 bif !decide (K3 t=0) then(K3 t,ts) else bif (!(decide (0≤now)&&decide (now≤1073741824))||decide (t.fAt<now)) then(2,ts) else bif G7 ts t.fID then(6,ts) else bif decide (256≤ts.length) then(3,ts) else(0,Ip EO ⟨t,false⟩ ts)
def GP (ts:List Aa)(id:Ai):Int×List Aa:=bif !G7 ts id then(5,ts) else(0,Hh ts id)
def D6 (ts:List Aa)(id:Ai):Int×List Aa:=bif If ts id then(10,ts) else GP ts id
def Bb (ts:List Aa):List Ab:=ts.map (·.fTimer)
def BD (ts:List Aa)(now:Int):List Ab:=(Bb ts).filter λt=>!decide (now<t.fAt)
def BH (ts:List Aa)(now:Int):List Aa:=ts.map λx=>Dr x now
theorem TI.nil:TI []:=⟨List.Pairwise.nil,List.Pairwise.nil,by decide,λ_ h=>by cases h⟩
theorem E1.nil:E1 [] []:=⟨Ms.nil,Qj _,TI.nil⟩
theorem LR {v:List Ad}(h:v.length≤1000000):Ic v=some v:=by
 unfold Ic;rw[LT (by simp;omega)];rfl
theorem KH {t:Ab}(h:LY t):Lt t=some t:=by
 unfold Lt;rw[LR (by have:=h.len;omega),AU rfl]
theorem Lu {F:Nat}(hF:5000<F){t:Ab}(h:LY t):HF F t=some (K3 t):=by
 unfold HF K3 Ec;rw[AU rfl,Lr h.body (by decide) hF,AU rfl]
 cases Nf t.fID with
 | false=>rfl
 | true=>
  cases(decide (0≤t.fAt)&&decide (t.fAt≤1073741824)) with
  | false=>rfl
  | true=>cases(!C7 t.fTenant||!C7 t.fSource)<;>rfl
theorem LS {α:Type}{n:Nat}{x:Option α}(h:n≤1000000000):B9 (Ob 80 n) x=x:=BQ (Qn (by omega))
theorem Gr {T:Type}{lt:T→T→Bool}:∀{xs:List T},xs.Pairwise (λa b=>lt a b=true)→DJ lt xs=true
 | [],_=>rfl
 | x::r,h=>by
  rw[List.pairwise_cons] at h;simp only[DJ,Qm,Q0];exact⟨λy hy=>by rw[h.1 y hy];rfl,Gr h.2⟩
theorem OH {T:Type}{lt:T→T→Bool}(L:Ow lt){xs:List T}(h:xs.Pairwise λa b=>lt a b=true):srt lt xs=xs:=(Kk L (Gr h) (Qj _) (h.imp λh=>L.asym _ _ h)).symm
theorem Iy:∀(ord:List (Ai×Aa)) (s:List Ab),s.length+ord.length≤100000→(∀p∈ord,LY p.2.fTimer)→KW (λp τ=>Du p.1 p.2 τ) ord s=some (.go (s++ord.map λp=>p.2.fTimer))
 | [],s,_,_=>by simp[KW]
 | p::r,s,hl,h=>by
  simp only[Qt] at hl;have e:Du p.1 p.2 s=some (.next (s++[p.2.fTimer])):=by
   unfold Du;rw[KH (h p (List.mem_cons_self ..)),AU rfl,LS (by simp;omega)]
  rw[KW,e];simp only;rw[Iy r _ (by simp;omega) λq hq=>h q (List.mem_cons_of_mem _ hq)];simp
theorem E1.len {m:List (Ai×Aa)}{ts:List Aa}(h:E1 m ts):m.length=ts.length:=by rw[h.pm.length_eq,Qs]
theorem E1.mem {m:List (Ai×Aa)}{ts:List Aa}(h:E1 m ts){p:Ai×Aa}(hp:p∈m):p.2∈ts∧p.1=p.2.fTimer.fID:=by
 obtain⟨x,hx,rfl⟩:=List.mem_map.1 (h.pm.subset hp);exact⟨hx,rfl⟩
theorem TI.lst {ts:List Aa}(h:TI ts):(Bb ts).Pairwise λa b=>KX a b=true:=List.pairwise_map.2 h.srt
theorem Jw {m:List (Ai×Aa)}{ts:List Aa}(h:E1 m ts):HC ⟨m⟩=some (Bb ts,⟨m⟩):=by
 unfold HC Ed;rw[AU rfl,AL (by rfl)];dsimp only;refine MR λord ho=>?_;have hl:ord.length≤256:=by rw[ho.length_eq,h.len];exact h.ti.len
 rw[Iy ord [] (by simp;omega) λp hp=>h.ti.sm _ (h.mem (ho.subset hp)).1,AU rfl,EM];unfold Dt;have hp:(ord.map λp=>p.2.fTimer).Perm (Bb ts):=by
  have:=((ho.trans h.pm).map λp=>p.2.fTimer)
  rwa [QM] at this
 rw[List.nil_append,BQ (Kl (Gr h.ti.lst) hp),BQ (by rw[Qs];simp;omega),Lv Pq (Gr h.ti.lst) hp,OH Pq h.ti.lst]
theorem EB {T:Type}(m:List (Ai×T))(k:Ai):CJ m k=(Bk m k).isSome:=rfl
theorem E1.get {m:List (Ai×Aa)}{ts:List Aa}(h:E1 m ts)(id:Ai):(Bk m id=none∧G7 ts id=false∧If ts id=false)∨∃x,Bk m id=some x∧x∈ts∧x.fTimer.fID=id∧G7 ts id=true∧If ts id=x.fTold:=by
 cases hg:Bk m id with
 | none=>
  have hn:∀x∈ts,¬ x.fTimer.fID=id:=λx hx=>DW.1 hg _ (h.pm.symm.subset (List.mem_map.2 ⟨x,hx,rfl⟩));refine .inl ⟨rfl,List.any_eq_false.2 λx hx=>by simp[hn x hx],List.any_eq_false.2 λx hx=>by simp[hn x hx]⟩
 | some x=>
  obtain⟨hx,hid⟩:=h.mem (CW hg);simp only at hx hid;refine .inr ⟨x,rfl,hx,hid.symm,List.any_eq_true.2 ⟨x,hx,by simp[hid]⟩,?_⟩
  cases ht:x.fTold with
  | true=>exact List.any_eq_true.2 ⟨x,hx,by simp[hid,ht]⟩
  | false=>
   refine List.any_eq_false.2 λy hy=>?_
   by_cases e:y.fTimer.fID=id
   ·have:y=x:=by
     have h1:Bk m id=some y:=Es h.ms.nodup (h.pm.symm.subset (List.mem_map.2 ⟨y,hy,by rw[e]⟩));rw[hg] at h1;exact(Option.some.inj h1).symm
    subst this;simp[ht]
   ·simp[e]
theorem TI.del {ts:List Aa}(h:TI ts)(id:Ai):TI (Hh ts id):=⟨h.srt.sublist (List.filter_sublist ..),h.ids.sublist (List.filter_sublist ..),Nat.le_trans (List.length_filter_le ..) h.len,λx hx=>h.sm x (List.mem_filter.1 hx).1⟩
theorem E1.del {m:List (Ai×Aa)}{ts:List Aa}(h:E1 m ts)(id:Ai):E1 (mdel m id) (Hh ts id):=by
 refine⟨h.ms.mdel id,?_,h.ti.del id⟩;have:=h.pm.filter λp=>!decide (p.1=id);rw[List.filter_map] at this;exact this
theorem TI.ins {ts:List Aa}(h:TI ts){t:Ab}(ht:LY t)(hn:G7 ts t.fID=false)(hl:ts.length<256)(b:Bool):TI (Ip EO ⟨t,b⟩ ts):=by
 have hp:=Dn EO ⟨t,b⟩ ts;have hne:∀x∈ts,¬ x.fTimer.fID=t.fID:=λx hx e=>by
  have:=List.any_eq_false.1 hn x hx;simp[e] at this
 have hids:(Ip EO ⟨t,b⟩ ts).Pairwise λa b=>a.fTimer.fID≠b.fTimer.fID:=
  (hp.pairwise_iff (fun {x y} h e=>h e.symm)).2 (List.pairwise_cons.2 ⟨λx hx e=>hne x hx e.symm,h.ids⟩)
 have hs:=Ep Pr ⟨t,b⟩ (h.srt.imp λh=>Pr.asym _ _ h);refine⟨?_,hids,by rw[hp.length_eq];exact hl,λx hx=>?_⟩
 ·refine(hs.and hids).imp fun {x y} h=>?_
  cases h1:EO x y with
  | true=>rfl
  | false=>exact absurd (JK h1 h.1).2 h.2
 ·rcases List.mem_cons.1 (hp.subset hx) with e | h1
  ·rw[e];exact ht
  ·exact h.sm x h1
theorem E1.ins {m:List (Ai×Aa)}{ts:List Aa}(h:E1 m ts){t:Ab}(ht:LY t)(hn:G7 ts t.fID=false)(hl:ts.length<256):E1 (mset m t.fID ⟨t,false⟩) (Ip EO ⟨t,false⟩ ts):=by
 have hg:Bk m t.fID=none:=by
  rcases h.get t.fID with h1 | ⟨x,_,_,_,h1,_⟩
  ·exact h1.1
  ·rw[hn] at h1;cases h1
 refine⟨h.ms.mset _ _,?_,h.ti.ins ht hn hl false⟩;have e:mset m t.fID ⟨t,false⟩=mins t.fID ⟨t,false⟩ m:=by
  unfold mset CJ;rw[hg];rfl
 rw[e];refine(GG _ _ m).trans ((h.pm.cons _).trans ?_);exact((Dn EO ⟨t,false⟩ ts).map λx=>(x.fTimer.fID,x)).symm
theorem N9 {F:Nat}(hF:5000<F){m:List (Ai×Aa)}{ts:List Aa}(h:E1 m ts){t:Ab}(ht:LY t)(now:Int):∃m',IO F ⟨m⟩ t now=some ((LX ts t now).1,⟨m'⟩)∧E1 m' (LX ts t now).2:=by
 unfold IO Ed LX Ec;rw[AU rfl,AL (by rfl),Lu hF ht,AU rfl];dsimp only
 cases h1 : !decide (K3 t=0) with
 | true=>exact⟨m,rfl,h⟩
 | false=>
  rw[AL rfl,BQ (by rfl),Ks]
  cases h2:(!(decide (0≤now)&&decide (now≤1073741824))||decide (t.fAt<now)) with
  | true=>exact⟨m,rfl,h⟩
  | false=>
   rw[AL rfl];have hh:CJ m t.fID=G7 ts t.fID:=by
    rcases h.get t.fID with⟨h3,h4,_⟩ | ⟨x,h3,_,_,h4,_⟩
    ·rw[EB,h3,h4];rfl
    ·rw[EB,h3,h4];rfl
   rw[hh]
   cases h3:G7 ts t.fID with
   | true=>exact⟨m,rfl,h⟩
   | false=>
    have h5:decide (256≤(m.length:Int))=decide (256≤ts.length):=by rw[h.len,Q2];simp;omega
    rw[AL rfl,h5]
    cases h4:decide (256≤ts.length) with
    | true=>exact⟨m,rfl,h⟩
    | false=>
     rw[AL rfl,KH ht,AU rfl];exact⟨_,rfl,h.ins ht h3 (by simpa using h4)⟩
theorem Hn {m:List (Ai×Aa)}{ts:List Aa}(h:E1 m ts)(id:Ai):∃m',HI ⟨m⟩ id=some ((GP ts id).1,⟨m'⟩)∧E1 m' (GP ts id).2:=by
 unfold HI Ed GP;rw[AU rfl,AL (by rfl)];dsimp only;have hh:CJ m id=G7 ts id:=by
  rcases h.get id with⟨h3,h4,_⟩ | ⟨x,h3,_,_,h4,_⟩
  ·rw[EB,h3,h4];rfl
  ·rw[EB,h3,h4];rfl
 rw[hh]
 cases G7 ts id with
 | false=>exact⟨m,rfl,h⟩
 | true=>exact⟨_,rfl,h.del id⟩
theorem HG {m:List (Ai×Aa)}{ts:List Aa}(h:E1 m ts)(id:Ai):∃m',D5 ⟨m⟩ id=some ((D6 ts id).1,⟨m'⟩)∧E1 m' (D6 ts id).2:=by
 unfold D5 Ed D6 CQ;rw[AU rfl,Bf (by rfl)];dsimp only;have hh:(A7 m id (Aa.mk (Ab.mk ([]:Ai) 0 ([]:Ai) ([]:Ai) ([]:(List Ad))) false)).fTold=If ts id:=by
  unfold A7;rcases h.get id with⟨h3,_,h4⟩ | ⟨x,h3,_,_,_,h4⟩
  ·rw[h3,h4];rfl
  ·rw[h3,h4];rfl
 rw[hh]
 cases If ts id with
 | true=>exact⟨m,rfl,h⟩
 | false=>
  obtain⟨m',h1,h2⟩:=Hn h id;refine⟨m',?_,h2⟩;rw[AL rfl,h1,AU rfl];rfl
theorem Ds {α:Type}{l:List α}{k:Nat}{c:α}(h:l[k]? =some c):l.take (k+1)=l.take k++[c]:=by
 rw[List.take_add_one,h];rfl
theorem Nm {α:Type}{l l':List α}{k:Nat}(h:l.drop k=l'.drop k){c:α}(hc:l'[k]? =some c):l[k]? =some c:=by
 have:(l.drop k)[0]? =(l'.drop k)[0]?:=by rw[h]
 simpa[List.getElem?_drop,hc] using this
abbrev CN (now:Int)(t:Ab):Bool:=!decide (now<t.fAt)
theorem IZ {F:Nat}{ys:List Ab}(hF:ys.length<F)(hl:ys.length≤100000)(now:Int):∃i:Int,DN F ys now=some i∧((i = -1∧ys.filter (CN now)=ys)∨∃k:Nat,i=k∧k<ys.length∧(ys.take k).filter (CN now)=ys.take k∧∃c,ys[k]? =some c∧CN now c=false):=by
 obtain⟨o,h1,h2⟩:=Di (body:=λσ=>BB ys now σ) (λx=>0≤x∧x≤(ys.length:Int)∧(ys.take x.toNat).filter (CN now)=ys.take x.toNat) (λx=>ys.length-x.toNat)
  (λo=>(o = .go ()∧ys.filter (CN now)=ys)∨∃k:Nat,o = .ret (k:Int)∧k<ys.length∧(ys.take k).filter (CN now)=ys.take k∧∃c,ys[k]? =some c∧CN now c=false) (λx ⟨h0,hx,ha⟩=>by
   by_cases hlt:x<(ys.length:Int)
   ·obtain⟨c,hc⟩:∃c,ys[x.toNat]? =some c:=⟨ys[x.toNat]'(by omega),Qk (by omega)⟩
    have hat:Ak ys x=c:=by simp[Ak,hc]
    have hb:BB ys now x=BJ (decide (now<c.fAt)) (some (.out (.ret x))) (some (.next (x+1))):=by
     unfold BB HD;rw[Bf (Qn hlt),B8 h0 hlt,hat,AU rfl,Bi (by omega) (by omega)]
    cases hq:decide (now<c.fAt) with
    | true=>
     refine .inr ⟨.ret x,hb.trans (Bf hq),.inr ⟨x.toNat,by rw[show((x.toNat:Nat):Int)=x from by omega],by omega,ha,c,hc,by show(!decide (now<c.fAt))=false;rw[hq];rfl⟩⟩
    | false=>
     refine .inl ⟨x+1,hb.trans (AL hq),⟨by omega,by omega,?_⟩,by omega⟩;rw[show(x+1).toNat=x.toNat+1 from by omega,Ds hc,List.filter_append,ha,List.filter_cons_of_pos (by show(!decide (now<c.fAt))=true;rw[hq];rfl)];rfl
   ·refine .inr ⟨.go (),by unfold BB;rw[AL (Ql hlt)],.inl ⟨rfl,?_⟩⟩;rw[show x.toNat=ys.length from by omega,List.take_length] at ha;exact ha) F 0 ⟨QF 0,by omega,by simp⟩ (by show ys.length-0<F;omega)
 unfold DN;rcases h2 with⟨rfl,h⟩ | ⟨k,rfl,h⟩
 ·exact⟨-1,by rw[AU h1,EM];rfl,.inl ⟨rfl,h⟩⟩
 ·exact⟨k,by rw[AU h1,Kr],.inr ⟨k,rfl,h⟩⟩
theorem Is {F:Nat}{ys:List Ab}(hF:ys.length<F)(hl:ys.length≤100000)(now:Int):D2 F ys now=some (ys.filter (CN now)):=by
 unfold D2;obtain⟨i,hi,hc⟩:=IZ hF hl now;rw[hi,AU rfl];rcases hc with⟨rfl,h⟩ | ⟨k,rfl,hk,ht,c,hck,hq⟩
 ·rw[Bf (by rfl),h]
 ·rw[AL (Ql (by omega)),Bi (by omega) (by omega)];obtain⟨o,h1,h2⟩:=Di (body:=λσ:Int×Int×List Ab=>B3 now σ.1 σ.2.1 σ.2.2) (λσ=>0≤σ.1∧σ.1<σ.2.1∧σ.2.1≤(ys.length:Int)∧σ.2.2.length=ys.length∧σ.2.2.take σ.1.toNat=(ys.take σ.2.1.toNat).filter (CN now)∧σ.2.2.drop σ.2.1.toNat=ys.drop σ.2.1.toNat) (λσ=>ys.length-σ.2.1.toNat)
   (λo=>∃ (a:Int) (zs:List Ab),o = .go (a,zs)∧0≤a∧a≤(ys.length:Int)∧zs.length=ys.length∧zs.take a.toNat=ys.filter (CN now)) (λ⟨a,b,zs⟩ ⟨h0,hab,hb,hzl,h3,h4⟩=>by
    dsimp only at h0 hab hb hzl h3 h4 ⊢
    by_cases hlt:b<(ys.length:Int)
    ·obtain⟨d,hd⟩:∃d,ys[b.toNat]? =some d:=⟨ys[b.toNat]'(by omega),Qk (by omega)⟩
     have hdz:zs[b.toNat]? =some d:=Nm h4 hd;have hat:Ak zs b=d:=by simp[Ak,hdz]
     have hs:(ys.take (b+1).toNat)=ys.take b.toNat++[d]:=by rw[show(b+1).toNat=b.toNat+1 from by omega];exact Ds hd
     have hdr:zs.drop (b+1).toNat=ys.drop (b+1).toNat:=by
      rw[show(b+1).toNat=b.toNat+1 from by omega,← List.drop_drop,← List.drop_drop,h4]
     cases hp:decide (now<d.fAt) with
     | true=>
      refine .inl ⟨(a,b+1,zs),?_,⟨h0,by show a<b+1;omega,by show b+1≤_;omega,hzl,?_,hdr⟩,by show ys.length-(b+1).toNat<ys.length-b.toNat;omega⟩
      ·unfold B3 HD BG;rw[Bf (Qn (by omega)),B8 (by omega) (by omega),hat,AU rfl,hp,AL (by rfl),Bi (by omega) (by omega)]
      ·dsimp only;rw[hs,List.filter_append,h3,List.filter_cons_of_neg (by show ¬ (!decide (now<d.fAt))=true;rw[hp];simp)];simp
     | false=>
      refine .inl ⟨(a+1,b+1,zs.set a.toNat d),?_,⟨by show 0≤a+1;omega,by show a+1<b+1;omega,by show b+1≤_;omega,by simpa using hzl,?_,?_⟩,by show ys.length-(b+1).toNat<ys.length-b.toNat;omega⟩
      ·unfold B3 HD BG;rw[Bf (Qn (by omega)),B8 (by omega) (by omega),hat,AU rfl,hp,Bf (by rfl),B8 h0 (by omega),P5,Bi (by omega) (by omega),Bi (by omega) (by omega)]
      ·dsimp only;rw[hs,List.filter_append,List.filter_cons_of_pos (by show(!decide (now<d.fAt))=true;rw[hp];rfl),← h3,show(a+1).toNat=a.toNat+1 from by omega,Ds (c:=d) (by rw[List.getElem?_set_self (by omega)])]
       congr 1
       rw[List.take_set_of_le (Qx _)]
      ·dsimp only;rw[← hdr,List.drop_set_of_lt (by omega)]
    ·have e:b=(ys.length:Int):=by omega
     refine .inr ⟨.go (a,zs),by unfold B3;rw[AL (Ql (by omega))],a,zs,rfl,h0,by omega,hzl,?_⟩;rw[h3,show b.toNat=ys.length from by omega,List.take_length]) F ((k:Int),(k:Int)+1,ys) ⟨by show(0:Int)≤k;omega,by show(k:Int)<k+1;omega,by show(k:Int)+1≤_;omega,rfl,by
     dsimp only;rw[show((k:Int)+1).toNat=k+1 from by omega,Ds hck,List.filter_append,ht,List.filter_cons_of_neg (by rw[hq];simp)];simp,rfl⟩ (by show ys.length-((k:Int)+1).toNat<F;omega)
  obtain⟨a,zs,rfl,ha,ha2,hzl,hz⟩:=h2;rw[AU h1,EM];unfold Cr;dsimp only;have hlt:(zs.take a.toNat).length=a.toNat:=by rw[QN];omega
  rw[G6 ha (by omega),G6 ha (by simp;omega),List.take_append_of_le_length (by omega),List.take_take,Nat.min_self,hz]
theorem E1.tell {m:List (Ai×Aa)}{ts:List Aa}(h:E1 m ts)(now:Int):E1 (AJ (λx=>Dr x now) m) (BH ts now):=by
 refine⟨?_,?_,⟨List.pairwise_map.2 h.ti.srt,List.pairwise_map.2 h.ti.ids,by unfold BH;rw[Qs];exact h.ti.len,λx hx=>?_⟩⟩
 ·unfold Ms AJ;exact List.pairwise_map.2 h.ms
 ·have:=h.pm.map λp:Ai×Aa=>(p.1,Dr p.2 now)
  rw[QM] at this;unfold AJ BH;rw[QM];exact this
 ·obtain⟨y,hy,rfl⟩:=List.mem_map.1 hx;exact h.ti.sm y hy
theorem Jv (x:Aa)(now:Int):Dr (Dr x now) now=Dr x now:=by
 unfold Dr;simp
theorem E1.keysOk {m:List (Ai×Aa)}{ts:List Aa}(h:E1 m ts):keysOk m=true:=by
 unfold Go.Proofs.YtkoiaconljdbeaaDoor.keysOk;simp only[Qm,Qh,Q0];have hl:=h.len;have h2:=h.ti.len;refine⟨by omega,λp hp=>?_⟩;obtain⟨h3,h4⟩:=h.mem hp;rw[h4];have:=(h.ti.sm _ h3).id;unfold Nu;simp;omega
theorem My {F:Nat}{m:List (Ai×Aa)}{ts:List Aa}(h:E1 m ts)(now:Int){ks:List Ai}(hp:ks.Perm (m.map Prod.fst))(hF:256<F):Dq (λσ:Int×List (Ai×Aa)=>D4 now ks σ.1 σ.2) F (0,m)=some (.go (AJ (λx=>Dr x now) m)):=by
 have hkl:ks.length≤256:=by rw[hp.length_eq,Qs,h.len];exact h.ti.len
 have hnd:ks.Nodup:=hp.nodup_iff.2 h.ms.nodup;obtain⟨o,h1,h2⟩:=Di (body:=λσ:Int×List (Ai×Aa)=>D4 now ks σ.1 σ.2) (λσ=>0≤σ.1∧σ.1≤(ks.length:Int)∧Ms σ.2∧∀k,Bk σ.2 k=bif (ks.take σ.1.toNat).contains k then(Bk m k).map (λx=>Dr x now) else Bk m k) (λσ=>ks.length-σ.1.toNat)
  (λo=>o = .go (AJ (λx=>Dr x now) m)) (λ⟨i,mi⟩ ⟨h0,hi,hms,hg⟩=>by
   dsimp only at h0 hi hms hg ⊢
   by_cases hlt:i<(ks.length:Int)
   ·obtain⟨k,hk⟩:∃k,ks[i.toNat]? =some k:=⟨ks[i.toNat]'(by omega),Qk (by omega)⟩
    have hat:Ak ks i=k:=by simp[Ak,hk]
    have hkm:k∈m.map Prod.fst:=hp.subset (Qu hk);obtain⟨⟨k',x⟩,hx,rfl⟩:=List.mem_map.1 hkm;have hgk:Bk m k'=some x:=Es h.ms.nodup hx;have hnt:(ks.take i.toNat).contains k'=false:=by
     cases hc:(ks.take i.toNat).contains k' with
     | false=>rfl
     | true=>
      obtain⟨j,hj⟩:=List.mem_iff_getElem?.1 (List.contains_iff_mem.1 hc);rw[QE] at hj
      split at hj
      ·rename_i hji
       obtain⟨a1,a2⟩:=List.getElem?_eq_some_iff.1 hj;obtain⟨b1,b2⟩:=List.getElem?_eq_some_iff.1 hk;have:=(List.getElem_inj hnd).1 (a2.trans b2.symm);omega
      ·cases hj
    have hv:A7 mi k' (Aa.mk (Ab.mk ([]:Ai) 0 ([]:Ai) ([]:Ai) ([]:(List Ad))) false)=x:=by
     unfold A7;rw[hg k',hnt,Qr,hgk];rfl
    refine .inl ⟨(i+1,mset mi k' (Dr x now)),?_,⟨by show 0≤i+1;omega,by show i+1≤_;omega,hms.mset _ _,λq=>?_⟩,by show ks.length-(i+1).toNat<ks.length-i.toNat;omega⟩
    ·unfold D4;rw[Bf (Qn hlt),B8 h0 hlt,hat,hv,Bi (by omega) (by omega)];rfl
    ·dsimp only;rw[LB,show(i+1).toNat=i.toNat+1 from by omega,Ds hk,hg q]
     by_cases e:q=k'
     ·subst e;rw[Qn rfl,Qv,hgk];simp
     ·rw[Ql e,Qr];have:(List.take i.toNat ks++[k']).contains q=(List.take i.toNat ks).contains q:=by
       rw[Q2];simp[e]
      rw[this]
   ·refine .inr ⟨.go mi,by unfold D4;rw[AL (Ql hlt)],?_⟩
    congr 1
    refine Ms.ext hms ((h.tell now).ms) λk=>?_;rw[hg k,show i.toNat=ks.length from by omega,List.take_length,Et]
    cases hgk:Bk m k with
    | none=>cases ks.contains k<;>rfl
    | some x=>
     have:ks.contains k=true:=List.contains_iff_mem.2 (hp.symm.subset (List.mem_map.2 ⟨_,CW hgk,rfl⟩));rw[this];rfl) F (0,m) ⟨QF 0,by omega,h.ms,λk=>by simp⟩ (by show ks.length-0<F;omega)
 rw[h1,h2]
theorem Hm {F:Nat}(hF:256<F){m:List (Ai×Aa)}{ts:List Aa}(h:E1 m ts)(now:Int):∃m',HE F ⟨m⟩ now=some (BD ts now,⟨m'⟩)∧E1 m' (BH ts now):=by
 refine⟨AJ (λx=>Dr x now) m,?_,h.tell now⟩;unfold HE Ed;rw[AU rfl,AL (by rfl)];dsimp only;rw[BQ h.keysOk];refine MR λks hp=>?_;rw[AU (My h now hp hF),EM];unfold Gk;have hal:Bb (BH ts now)=Bb ts:=by unfold Bb BH;rw[QM];rfl
 have hll:(Bb ts).length≤256:=by unfold Bb;rw[Qs];exact h.ti.len
 rw[Jw (h.tell now),AU rfl,hal];dsimp only;rw[Is (by omega) (by omega),AU rfl];rfl
def PG (v:List Ad):Prop:=∀c∈v,Ci .i64 c.fInt=true∧c.fN≤9223372036854775807
theorem MA {F:Nat}(hF:5000<F){t:Ab}(ho:PG t.fBody):∃b,HL F t=some b∧(b=true→LY t):=by
 unfold HL
 cases hA:((decide (300<(t.fID.length:Int)))||((decide (300<(t.fTenant.length:Int)))||((decide (300<(t.fSource.length:Int)))||(decide (300<(t.fBody.length:Int)))))) with
 | true=>exact⟨false,Bf rfl,λh=>by cases h⟩
 | false=>
  simp only[Bool.or_eq_false_iff,Qi] at hA;obtain⟨a1,a2,a3,a4⟩:=hA;rw[AL rfl];obtain⟨o,h1,h2⟩:=Gv t.fBody (λc=>c.fStr.length≤5000) (λq=>q=false) () (λσ=>Cj t σ) (λx c h0 hx hc hat=>by
   have e:Cj t x=BJ (decide (5000<(c.fStr.length:Int))) (some (.out (.ret false))) (some (.next (x+1))):=by
    unfold Cj;rw[Bf (Qn hx),B8 h0 hx,hat,Bi (by omega) (by omega)]
   cases hL:decide (5000<(c.fStr.length:Int)) with
   | false=>exact .inl ⟨e.trans (AL hL),by simp at hL;omega⟩
   | true=>exact .inr ⟨false,e.trans (Bf hL),rfl⟩) (by
   show Cj t _=_;unfold Cj;rw[AL (Ql (by omega))]) (F:=F) (by omega)
  rw[AU h1];rcases h2 with⟨q,rfl,rfl⟩ | ⟨rfl,h⟩
  ·exact⟨false,Kr ..,λh=>by cases h⟩
  ·exact⟨true,by rw[EM];rfl,λ_=>⟨⟨by decide,by omega,λc hc=>⟨h c hc,ho c hc⟩⟩,by omega,by omega,by omega,by omega⟩⟩
theorem Nc {F:Nat}(hF:5000<F){l:List AE}(ho:∀o∈l,PG o.fTimer.fBody):∃b,HW F l=some b∧(b=true→l.length≤300∧∀o∈l,LY o.fTimer):=by
 unfold HW
 cases hA:decide (300<(l.length:Int)) with
 | true=>exact⟨false,Bf rfl,λh=>by cases h⟩
 | false=>
  simp only[Qi] at hA;rw[AL rfl];obtain⟨o,h1,h2⟩:=Gv l (λc=>LY c.fTimer) (λq=>q=false) () (λσ=>Cm F l σ) (λx c h0 hx hc hat=>by
   obtain⟨b,hb,hs⟩:=MA hF (ho c hc);have e:Cm F l x=BJ (!b) (some (.out (.ret false))) (some (.next (x+1))):=by
    unfold Cm;rw[Bf (Qn hx),B8 h0 hx,hat,hb,AU rfl,Bi (by omega) (by omega)]
   cases b with
   | true=>exact .inl ⟨e,hs rfl⟩
   | false=>exact .inr ⟨false,e,rfl⟩) (by
   show Cm F l _=_;unfold Cm;rw[AL (Ql (by omega))]) (F:=F) (by omega)
  rw[AU h1];rcases h2 with⟨q,rfl,rfl⟩ | ⟨rfl,h⟩
  ·exact⟨false,Kr ..,λh=>by cases h⟩
  ·exact⟨true,by rw[EM];rfl,λ_=>⟨by omega,h⟩⟩
theorem J4 {F:Nat}{t:Ab}(hF:t.fBody.length<F)(hl:t.fBody.length≤100000):HM F t t=some true:=by
 unfold HM;rw[AL (by simp)];obtain⟨o,h1,h2⟩:=Gv t.fBody (λ_=>True) (λ_=>False) () (λσ=>Cl t t σ) (λx c h0 hx hc hat=>.inl ⟨by
  show Cl t t x=_;unfold Cl;rw[Bf (Qn hx),B8 h0 hx,B8 h0 hx,AL (by simp),Bi (by omega) (by omega)],trivial⟩) (by
  show Cl t t _=_;unfold Cl;rw[AL (Ql (by omega))]) hF
 rw[AU h1];rcases h2 with⟨q,rfl,h⟩ | ⟨rfl,h⟩
 ·exact h.elim
 ·rw[EM];rfl
theorem J3 {F:Nat}{l:List Ab}(hF:6000<F)(hl:l.length≤300)(hb:∀t∈l,t.fBody.length≤5000):AW F l l=some true:=by
 unfold AW;rw[AL (by simp)];obtain⟨o,h1,h2⟩:=Gv l (λ_=>True) (λ_=>False) () (λσ=>Ck F l l σ) (λx c h0 hx hc hat=>.inl ⟨by
  show Ck F l l x=_;unfold Ck;have:=hb c hc;rw[Bf (Qn hx),B8 h0 hx,B8 h0 hx,hat,J4 (by omega) (by omega),AU rfl,AL (by rfl),Bi (by omega) (by omega)],trivial⟩) (by
  show Ck F l l _=_;unfold Ck;rw[AL (Ql (by omega))]) (F:=F) (by omega)
 rw[AU h1];rcases h2 with⟨q,rfl,h⟩ | ⟨rfl,h⟩
 ·exact h.elim
 ·rw[EM];rfl
theorem TI.llen {ts:List Aa}(h:TI ts):(Bb ts).length≤256:=by unfold Bb;rw[Qs];exact h.len
theorem TI.lbody {ts:List Aa}(h:TI ts):∀t∈Bb ts,t.fBody.length≤300:=λt ht=>by
 obtain⟨x,hx,rfl⟩:=List.mem_map.1 ht;exact(h.sm x hx).len
theorem TI.same {F:Nat}(hF:6000<F){ts:List Aa}(h:TI ts){l:List Ab}(hs:l.Sublist (Bb ts)):AW F l l=some true:=
 J3 hF (by have:=hs.length_le;have:=h.llen;omega) λt ht=>Nat.le_trans (h.lbody t (hs.subset ht)) (by decide)
def P7 (ts:List Aa)(o:AE):Int×List Aa:=
 bif decide (o.fKind=0) then LX ts o.fTimer o.fNow else bif decide (o.fKind=2) then GP ts o.fTimer.fID else bif decide (o.fKind=3) then D6 ts o.fTimer.fID else(0,ts)
theorem JL {F:Nat}(hF:5000<F){m:List (Ai×Aa)}{ts:List Aa}(h:E1 m ts){o:AE}(ho:LY o.fTimer):∃m',I9 F ⟨m⟩ o=some ((P7 ts o).1,⟨m'⟩)∧E1 m' (P7 ts o).2:=by
 unfold I9 P7
 cases decide (o.fKind=0) with
 | true=>
  obtain⟨m',h1,h2⟩:=N9 hF h ho o.fNow;exact⟨m',by rw[Bf rfl,h1,AU rfl];rfl,h2⟩
 | false=>
  rw[AL rfl]
  cases decide (o.fKind=2) with
  | true=>
   obtain⟨m',h1,h2⟩:=Hn h o.fTimer.fID;exact⟨m',by rw[Bf rfl,h1,AU rfl];rfl,h2⟩
  | false=>
   rw[AL rfl]
   cases decide (o.fKind=3) with
   | true=>
    obtain⟨m',h1,h2⟩:=HG h o.fTimer.fID;exact⟨m',by rw[Bf rfl,h1,AU rfl];rfl,h2⟩
   | false=>exact⟨m,rfl,h⟩
theorem GI:De 40000=some true:=by decide +kernel
theorem Jg {α:Type}[Inhabited α]{l:List α}{x:Int}(h0:0≤x)(h:x<(l.length:Int)):l[x.toNat]? =some (Ak l x):=by
 have hx:x.toNat<l.length:=by omega
 simp[Ak,hx]
def TV (ts:List Aa):Prop:=∀x∈ts,K3 x.fTimer=0
theorem TV.set {ts:List Aa}(h:TV ts)(t:Ab)(now:Int):TV (LX ts t now).2:=by
 unfold LX
 cases h1 : !decide (K3 t=0) with
 | true=>exact h
 | false=>
  cases(!(decide (0≤now)&&decide (now≤1073741824))||decide (t.fAt<now)) with
  | true=>exact h
  | false=>
   cases G7 ts t.fID with
   | true=>exact h
   | false=>
    cases decide (256≤ts.length) with
    | true=>exact h
    | false=>
     intro x hx;rcases List.mem_cons.1 ((Dn EO ⟨t,false⟩ ts).subset hx) with rfl | hx
     ·simpa using h1
     ·exact h x hx
theorem TV.ack {ts:List Aa}(h:TV ts)(id:Ai):TV (GP ts id).2:=by
 unfold GP
 cases !G7 ts id with
 | true=>exact h
 | false=>exact λx hx=>h x (List.mem_filter.1 hx).1
theorem TV.cancel {ts:List Aa}(h:TV ts)(id:Ai):TV (D6 ts id).2:=by
 unfold D6
 cases If ts id with
 | true=>exact h
 | false=>exact h.ack id
theorem TV.do {ts:List Aa}(h:TV ts)(o:AE):TV (P7 ts o).2:=by
 unfold P7
 cases decide (o.fKind=0) with
 | true=>exact h.set _ _
 | false=>
  cases decide (o.fKind=2) with
  | true=>exact h.ack _
  | false=>
   cases decide (o.fKind=3) with
   | true=>exact h.cancel _
   | false=>exact h
theorem TV.tell {ts:List Aa}(h:TV ts)(now:Int):TV (BH ts now):=λx hx=>by
 obtain⟨y,hy,rfl⟩:=List.mem_map.1 hx;exact h y hy
theorem Ky {F:Nat}(hF:6000<F){l:List AE}(hl:l.length≤300)(hs:∀o∈l,LY o.fTimer):∃m ts,Gy F l=some ⟨m⟩∧E1 m ts∧TV ts:=by
 unfold Gy;have hN:Mx=some ⟨[]⟩:=rfl;rw[hN,AU rfl];obtain⟨o,h1,h2⟩:=Di (body:=λσ:Int×List (Ai×Aa)=>C4 F l σ.1 σ.2) (λσ=>0≤σ.1∧σ.1≤(l.length:Int)∧∃ts,E1 σ.2 ts∧TV ts) (λσ=>l.length-σ.1.toNat) (λo=>∃m ts,o = .go m∧E1 m ts∧TV ts) (λ⟨x,m⟩ ⟨h0,hx,ts,h,hv⟩=>by
  dsimp only at h0 hx h ⊢
  by_cases hlt:x<(l.length:Int)
  ·have hg:=Jg h0 hlt;have ho:LY (AE.mk ((Ak l x).fKind) ((Ak l x).fNow) ((Ak l x).fTimer)).fTimer:=hs _ (Qu hg);unfold C4;rw[Bf (Qn hlt),B8 h0 hlt]
   cases decide ((Ak l x).fKind=1) with
   | true=>
    obtain⟨m1,h3,h4⟩:=Hm (F:=F) (by omega) h (Ak l x).fNow;obtain⟨m2,h5,h6⟩:=JL (F:=F) (by omega) h4 ho;refine .inl ⟨(x+1,m2),?_,⟨by show 0≤x+1;omega,by show x+1≤_;omega,_,h6,(hv.tell _).do _⟩,by show l.length-(x+1).toNat<l.length-x.toNat;omega⟩;rw[Bf rfl,h3,AU rfl];dsimp only;rw[h5,AU rfl,Bi (by omega) (by omega)]
   | false=>
    obtain⟨m2,h5,h6⟩:=JL (F:=F) (by omega) h ho;refine .inl ⟨(x+1,m2),?_,⟨by show 0≤x+1;omega,by show x+1≤_;omega,_,h6,hv.do _⟩,by show l.length-(x+1).toNat<l.length-x.toNat;omega⟩;rw[AL rfl,h5,AU rfl,Bi (by omega) (by omega)]
  ·refine .inr ⟨.go m,?_,m,ts,rfl,h,hv⟩;unfold C4;rw[AL (Ql hlt)]) F (0,[]) ⟨QF 0,by show(0:Int)≤_;omega,[],E1.nil,λx hx=>by cases hx⟩ (by show l.length-0<F;omega)
 obtain⟨m,ts,rfl,h,hv⟩:=h2;exact⟨m,ts,by rw[AU h1,EM];rfl,h,hv⟩
end Go.Proofs.YtkoiaconljdbeaaDoor
namespace Go.Proofs.YtkoiaconljdbeaaDoor
open Go
set_option linter.unusedVariables false
set_option linter.unusedSimpArgs false
theorem GL (now:Int):∀(l:List Ab),(l.Pairwise λa b=>a.fAt≤b.fAt)→(l.filter (CN now)=l.take (l.filter (CN now)).length∧∀(i:Nat) (x:Ab),l[i]? =some x→decide (i<(l.filter (CN now)).length)=decide (x.fAt≤now))
 | [],_=>⟨rfl,λi x h=>by simp at h⟩
 | a::r,h=>by
  rw[List.pairwise_cons] at h;obtain⟨h1,h2⟩:=GL now r h.2
  by_cases hq:now<a.fAt
  ·have hf:(a::r).filter (CN now)=[]:=List.filter_eq_nil_iff.2 λx hx=>by
    have:now<x.fAt:=by
     rcases List.mem_cons.1 hx with rfl | hx
     ·exact hq
     ·have:=h.1 x hx;omega
    simp[CN,this]
   rw[hf];refine⟨rfl,λi x hi=>?_⟩;have hx:=Qu hi;have:now<x.fAt:=by
    rcases List.mem_cons.1 hx with rfl | hx
    ·exact hq
    ·have:=h.1 x hx;omega
   rw[Ql (by simp),Ql (by omega)]
  ·have hf:(a::r).filter (CN now)=a::r.filter (CN now):=List.filter_cons_of_pos (by simp[CN,hq]);rw[hf];refine⟨by rw[Qt,List.take_succ_cons,← h1],λi x hi=>?_⟩
   cases i with
   | zero=>
    simp at hi;subst hi;rw[Qn (by simp),Qn (by omega)]
   | succ i=>
    have:=h2 i x (by simpa using hi);rw[← this,Q2];simp
theorem TI.ats {ts:List Aa}(h:TI ts):(Bb ts).Pairwise λa b=>a.fAt≤b.fAt:=h.lst.imp fun {a b} h=>by
 rcases EC.1 h with h | h
 ·omega
 ·omega
theorem TI.lids {ts:List Aa}(h:TI ts):(Bb ts).Pairwise λa b=>a.fID≠b.fID:=List.pairwise_map.2 h.ids
theorem Oe {ts:List Aa}(h:TI ts)(now:Int):(BD ts now).length≤256:=Nat.le_trans (List.length_filter_le ..) h.llen
theorem G5 (ts:List Aa)(now:Int):(BD ts now).Sublist (Bb ts):=List.filter_sublist ..
theorem LI (ts:List Aa)(now:Int):Bb (BH ts now)=Bb ts:=by unfold Bb BH;rw[QM];rfl
theorem JX (ts:List Aa)(now:Int):BD (BH ts now) now=BD ts now:=by unfold BD;rw[LI]
theorem Nk {F:Nat}{ts:List Aa}(h:TI ts)(now:Int)(m m':Ar){x:Int}(h0:0≤x)(hx:x<((Bb ts).length:Int)):C8 now (Bb ts,m) (BD ts now,m') x=some (.next (x+1)):=by
 have hg:=Jg h0 hx;have hll:=h.llen;obtain⟨_,hk⟩:=GL now (Bb ts) h.ats;have hd:=hk x.toNat _ hg;have hd2:decide (x<((BD ts now).length:Int))=decide ((Ak (Bb ts) x).fAt≤now):=by
  rw[← hd,Q2];simp only[Qh];show x<((BD ts now).length:Int)↔x.toNat<(BD ts now).length;omega
 unfold C8;rw[Bf (Qn hx),B8 h0 hx];have hA:(!(decide (x<((BD ts now).length:Int)) ==decide ((Ak (Bb ts) x).fAt≤now)))=false:=by rw[hd2];simp
 show B9 (imp (!(!(decide (x<((BD ts now).length:Int)) ==decide ((Ak (Bb ts) x).fAt≤now)))) (imp (decide (0<x)) (Ci .i64 (x-1)))) (B9 (imp (!(!(decide (x<((BD ts now).length:Int)) ==decide ((Ak (Bb ts) x).fAt≤now)))) (imp (decide (0<x)) (DB (x-1) ((Bb ts).length:Int)))) _)=_;rw[hA];rw[BQ (by
  by_cases hz:0<x
  ·simp only[imp,Qn hz];rw[Gz (by omega) (by omega)];rfl
  ·simp[imp,hz]),BQ (by
  by_cases hz:0<x
  ·simp only[imp,Qn hz];rw[OV (by omega) (by omega)];rfl
  ·simp[imp,hz])]
 have hB:(decide (0<x)&&(decide ((Ak (Bb ts) x).fAt<(Ak (Bb ts) (x-1)).fAt)||(decide ((Ak (Bb ts) x).fAt=(Ak (Bb ts) (x-1)).fAt)&&(Bg (Ak (Bb ts) x).fID (Ak (Bb ts) (x-1)).fID||decide ((Ak (Bb ts) x).fID=(Ak (Bb ts) (x-1)).fID)))))=false:=by
  by_cases hz:0<x
  ·have hg1:=Jg (l:=Bb ts) (x:=x-1) (by omega) (by omega);have hp:KX (Ak (Bb ts) (x-1)) (Ak (Bb ts) x)=true:=by
    obtain⟨b1,e1⟩:=List.getElem?_eq_some_iff.1 hg1;obtain⟨b2,e2⟩:=List.getElem?_eq_some_iff.1 hg;have:=List.pairwise_iff_getElem.1 h.lst (x-1).toNat x.toNat b1 b2 (by omega)
    rwa [e1,e2] at this
   generalize Ak (Bb ts) (x-1)=p at hp;generalize Ak (Bb ts) x=q at hp;rcases EC.1 hp with h3 | ⟨h3,h4⟩
   ·have h5 : ¬ q.fAt<p.fAt:=by omega
    have h6 : ¬ q.fAt=p.fAt:=by omega
    simp[h5,h6]
   ·have h5 : ¬ q.fAt<p.fAt:=by omega
    have h6:Bg q.fID p.fID=false:=Jx h4;have h7 : ¬ q.fID=p.fID:=λe=>by rw[e] at h4;rw[Eo] at h4;cases h4
    simp[h5,h6,h7]
  ·simp[hz]
 show BJ (false||(decide (0<x)&&(decide ((Ak (Bb ts) x).fAt<(Ak (Bb ts) (x-1)).fAt)||(decide ((Ak (Bb ts) x).fAt=(Ak (Bb ts) (x-1)).fAt)&&(Bg (Ak (Bb ts) x).fID (Ak (Bb ts) (x-1)).fID||decide ((Ak (Bb ts) x).fID=(Ak (Bb ts) (x-1)).fID)))))) _ _=_;rw[hB,AL (by rfl),Bi (by omega) (by omega)]
theorem Og {l:List Ab}(hp:l.Pairwise λa b=>a.fID≠b.fID){k:Nat}{x:Ab}(hk:l[k]? =some x):(l.filter λt=>!decide (t.fID=x.fID))=l.take k++l.drop (k+1):=by
 obtain⟨hl,rfl⟩:=List.getElem?_eq_some_iff.1 hk;have e:l=l.take k++l[k]::l.drop (k+1):=by rw[← List.drop_eq_getElem_cons hl,List.take_append_drop]
 have hid:=hp;rw[e,List.pairwise_append,List.pairwise_cons] at hid;obtain⟨_,⟨h1,_⟩,h2⟩:=hid
 conv=>lhs;arg 2;rw[e]
 rw[List.filter_append,List.filter_cons_of_neg (by simp)]
 congr 1
 ·exact List.filter_eq_self.2 λy hy=>by simpa using h2 y hy _ (List.mem_cons_self ..)
 ·exact List.filter_eq_self.2 λy hy=>by simpa using λe=>h1 y hy e.symm
theorem Of (ts:List Aa)(id:Ai)(now:Int):BD (Hh ts id) now=(BD ts now).filter λt=>!decide (t.fID=id):=by
 unfold BD Hh Bb;have e:(ts.filter λx=>!decide (x.fTimer.fID=id)).map (·.fTimer)=(ts.map (·.fTimer)).filter λt=>!decide (t.fID=id):=by rw[List.filter_map];rfl
 rw[e,List.filter_filter,List.filter_filter]
 congr 1;funext t;exact Bool.and_comm ..
theorem LN {ts:List Aa}(h:TI ts){now:Int}{k:Nat}{x:Ab}(hk:(BD ts now)[k]? =some x):G7 (BH ts now) x.fID=true∧If (BH ts now) x.fID=true:=by
 have hm:=Qu hk;obtain⟨h1,h2⟩:=List.mem_filter.1 hm;obtain⟨y,hy,rfl⟩:=List.mem_map.1 h1;have ht:Dr y now∈BH ts now:=List.mem_map.2 ⟨y,hy,rfl⟩;have h3:y.fTimer.fAt≤now:=by simp at h2;omega
 exact⟨List.any_eq_true.2 ⟨_,ht,by simp[Dr]⟩,List.any_eq_true.2 ⟨_,ht,by simp[Dr,h3]⟩⟩
theorem K0 {l:List AE}{now ack:Int}(ho:∀o∈l,PG o.fTimer.fBody):HX 40000 l now ack=some true:=by
 obtain⟨b,hb,hs⟩:=Nc (F:=40000) (by decide) ho;unfold HX;rw[hb,AU rfl]
 cases b with
 | false=>rw[Bf (by rfl),GI,AU rfl]
 | true=>
  obtain⟨hl,hs⟩:=hs rfl;obtain⟨m,ts,h1,h,_⟩:=Ky (F:=40000) (by decide) hl hs;obtain⟨m1,h2,h3⟩:=Hm (F:=40000) (by decide) h now;have hdl:=Oe h.ti now;have hll:=h.ti.llen;have hle:=(G5 ts now).length_le;obtain⟨hpre,_⟩:=GL now (Bb ts) h.ti.ats;have hpre:(Bb ts).take (BD ts now).length=BD ts now:=hpre.symm;have hsm:=h.ti.same (F:=40000) (by decide) (G5 ts now);rw[AL (by rfl),h1,AU rfl,Jw h,AU rfl];dsimp only;rw[h2,AU rfl];dsimp only;rw[Int.toNat_natCast,hpre,hsm,Ks];have hd0:decide (((Bb ts).length:Int)<((BD ts now).length:Int))=false:=Ql (by omega);rw[hd0,BQ (by show imp true _=true;simp only[imp];rw[OW (by omega) (by omega)];rfl),BQ (by simp[imp]),AL (by rfl)];obtain⟨o,h4,h5⟩:=Di (body:=λσ=>C8 now (Bb ts,⟨m⟩) (BD ts now,⟨m1⟩) σ) (λx=>0≤x∧x≤((Bb ts).length:Int)) (λx=>(Bb ts).length-x.toNat) (λo=>o = .go ()) (λx ⟨h0,hx⟩=>by
   by_cases hlt:x<((Bb ts).length:Int)
   ·exact .inl ⟨x+1,Nk (F:=40000) h.ti now _ _ h0 hlt,⟨by omega,by omega⟩,by omega⟩
   ·refine .inr ⟨.go (),?_,rfl⟩;unfold C8;rw[AL (Ql hlt)]) 40000 0 ⟨QF 0,by omega⟩ (by show(Bb ts).length-0<40000;omega)
  subst h5;rw[AU h4,EM];unfold DM;obtain⟨m2,h6,h7⟩:=Hm (F:=40000) (by decide) h3 now;rw[JX] at h6;dsimp only;rw[h6,AU rfl];dsimp only;rw[hsm,AU rfl,AL (by rfl)];have htt:BH (BH ts now) now=BH ts now:=by
   unfold BH;rw[QM];exact List.map_congr_left λx _=>Jv x now
  rw[htt] at h7;have hout:∀mm,Cn 40000 now ack (BD ts now,⟨m1⟩) true mm=some true:=λmm=>by
   unfold Cn;rw[Bf rfl,GI,AU rfl]
  by_cases ha:ack<0
  ·rw[Bf (Qn ha)];exact hout _
  ·rw[AL (Ql ha)]
   by_cases ha2:((BD ts now).length:Int)≤ack
   ·rw[Qn ha2];exact hout _
   ·rw[Ql ha2];have hk:=Jg (l:=BD ts now) (x:=ack) (by omega) (by omega);generalize hX:Ak (BD ts now) ack=X at hk;obtain⟨hh1,hh2⟩:=LN h.ti hk;unfold Cn;rw[AL rfl];show B9 (DB ack ((BD ts now).length:Int)) _=_;rw[B8 (by omega) (by omega)];show BK (D5 ⟨m2⟩ (Ak (BD ts now) ack).fID) _=_;rw[hX];obtain⟨m3,h8,h9⟩:=HG h7 X.fID;have e1:D6 (BH ts now) X.fID=(10,BH ts now):=by unfold D6;rw[hh2];rfl
    rw[e1] at h8 h9;rw[h8,AU rfl,AL (by rfl)];show BK (HI ⟨m3⟩ X.fID) _=_;obtain⟨m4,hd,he⟩:=Hn h9 X.fID;have e2:GP (10,BH ts now).2 X.fID=(0,Hh (BH ts now) X.fID):=by show GP (BH ts now) X.fID=_;unfold GP;rw[hh1];rfl
    rw[e2] at hd he;rw[hd,AU rfl,AL (by rfl)];show BK (HI ⟨m4⟩ X.fID) _=_;obtain⟨m5,hf,hg⟩:=Hn he X.fID;have hno:G7 (Hh (BH ts now) X.fID) X.fID=false:=List.any_eq_false.2 λy hy=>by
     have:=(List.mem_filter.1 hy).2;simpa using this
    have e3:GP (0,Hh (BH ts now) X.fID).2 X.fID=(5,Hh (BH ts now) X.fID):=by show GP (Hh (BH ts now) X.fID) X.fID=_;unfold GP;rw[hno];rfl
    rw[e3] at hf hg;rw[hf,AU rfl];unfold CR;rw[AL (by rfl)];obtain⟨m6,hh,hi⟩:=Hm (F:=40000) (by decide) hg now;have e4:BD (5,Hh (BH ts now) X.fID).2 now=(BD ts now).take ack.toNat++(BD ts now).drop (ack.toNat+1):=by
     show BD (Hh (BH ts now) X.fID) now=_;rw[Of,JX];exact Og (h.ti.lids.sublist (G5 ts now)) hk
    rw[e4] at hh;show BK (HE 40000 ⟨m5⟩ now) _=_;rw[hh,AU rfl];have hkl:=(List.getElem?_eq_some_iff.1 hk).1;have hlen:(((BD ts now).take ack.toNat++(BD ts now).drop (ack.toNat+1)).length:Int)=((BD ts now).length:Int)-1:=by
     rw[Qy,QN,List.length_drop];omega
    show B9 (Ci .i64 (((BD ts now).length:Int)-1)) (BJ (!decide ((((BD ts now).take ack.toNat++(BD ts now).drop (ack.toNat+1)).length:Int)=((BD ts now).length:Int)-1)) _ _)=_;rw[Bi (by omega) (by omega),hlen,AL (by simp)];have e5:List.take ack.toNat ((BD ts now).take ack.toNat++(BD ts now).drop (ack.toNat+1))=(BD ts now).take ack.toNat:=by
     rw[List.take_append_of_le_length (by rw[QN];omega),List.take_take,Nat.min_self]
    have e6:List.drop ack.toNat ((BD ts now).take ack.toNat++(BD ts now).drop (ack.toNat+1))=(BD ts now).drop (ack+1).toNat:=by
     rw[List.drop_append_of_le_length (by rw[QN];omega),List.drop_eq_nil_of_le (by rw[QN];omega),List.nil_append,show(ack+1).toNat=ack.toNat+1 from by omega]
    dsimp only;rw[e5,e6];have s1:=h.ti.same (F:=40000) (by decide) ((List.take_sublist ack.toNat _).trans (G5 ts now));have s2:=h.ti.same (F:=40000) (by decide) ((List.drop_sublist (ack+1).toNat _).trans (G5 ts now));rw[s1,s2,GI];rw[G6 (by omega) (by omega),G6 (by omega) (by omega),BQ (by rfl),Ks,BQ (by simp only[imp];rw[Gz (by omega) (by omega)];rfl),BQ (by simp only[imp];rw[OW (by omega) (by omega)];rfl),BQ (by simp[imp]),BQ (by simp[imp])];rfl
end Go.Proofs.YtkoiaconljdbeaaDoor
namespace Go.Proofs.YtkoiaconljdbeaaDoor.lawTimerFiresInOrder
open Go
set_option linter.unusedVariables false
theorem OM {o:AE}(h:L0 o=true):PG o.fTimer.fBody:=λc hc=>by
 unfold L0 at h;simp only[Qm] at h;have h2:=h.2;unfold NQ at h2;simp only[Qm,Q0] at h2;have h3:=h2.2.1 c hc;unfold MI at h3;simp only[Qm] at h3;exact⟨h3.1.1.2,(G0 h3.2).2⟩
theorem PX:Qe:=λl now ack h _ _=>⟨40000,K0 λo ho=>OM (by
 simp only[Qm,Q0] at h;exact h.1 o ho)⟩
end Go.Proofs.YtkoiaconljdbeaaDoor.lawTimerFiresInOrder
