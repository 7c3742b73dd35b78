/-
  Texts of the proof, put together: WNb, QK, PNc, Qw, Iter, QKs, WNc, PNd, WNd, PNe, WNe, OkEntityKeeps, LvA, LvB, LvC, LvD, LvE, LvF, LvG.
-/
import Derived.Test.YtfbmdidnlhifjaaGreatDoorEK2
import Derived.Sort.KeysCollected
import Derived.Shelf.SlIter.Nil
import Derived.Shelf.SortM.Plain
import Derived.Shelf.SortM.SortNone
import Derived.Test.YtfbmdidnlhifjaaGreatDoorProg
import GoSem.ClaimData
namespace Go.Proofs.YtfbmdidnlhifjaaGreatDoor.Q
open Go Go.RowKit
set_option linter.unusedVariables false
set_option linter.unusedSimpArgs false
set_option maxRecDepth 100000
set_option maxHeartbeats 4000000
@[reducible] def Ax (x:AP):List Rp:=[Ak x.fKind,rS x.fOp.fEntity,rS x.fOp.fID,rS x.fOp.fOp,AH 1 (Au Ah x.fOp.fArgs),Ak x.fNow]
theorem EX (x:AP):(Ax x).length=6:=rfl
theorem TT:∃inf,Tryz.prog.info? 44=some inf∧inf.zero=some (.agg #[(.string ⟨#[]⟩),(.string ⟨#[]⟩),(.string ⟨#[]⟩),(.slice none 0 0),(.int .i64 0),(.slice none 0 0),(.int .i64 0),(.int .i64 0)])∧inf.size=8∧inf.bytes=120:=by
  have key:(Tryz.prog.info? 44).map (λi=>(i.zero,i.size,i.bytes))=some (some (.agg #[(.string ⟨#[]⟩),(.string ⟨#[]⟩),(.string ⟨#[]⟩),(.slice none 0 0),(.int .i64 0),(.slice none 0 0),(.int .i64 0),(.int .i64 0)]),8,120):=by kernel_rfl
  obtain⟨inf,h1,h2⟩:=Option.map_eq_some_iff.1 key;simp only[Prod.mk.injEq] at h2;exact⟨inf,h1,h2.1,h2.2.1,h2.2.2⟩
theorem To (parts:List (Nat×Value)):Tryz.prog.built 25 parts=Instr.fill (λi=>(#[(0,1),(1,1),(2,1),(3,1)]:Array (Nat×Nat))[i]?) #[(.string ⟨#[]⟩),(.string ⟨#[]⟩),(.string ⟨#[]⟩),((.slice none 0 0))] parts:=by kernel_rfl
theorem IN {n:Nat}{c:Cx}{l:Fr}{H:List Ent}{d:Option Nat}{ty:TypeId}{pos:String}{af:Array Edge}{g:Option (Nat×Bool)}{x0:Operand}{r0:Rp}(h0:ev l x0=some r0)(u0:r0.one=true){x1:Operand}{r1:Rp}(h1:ev l x1=some r1)(u1:r1.one=true){x2:Operand}{r2:Rp}(h2:ev l x2=some r2)(u2:r2.one=true){x3:Operand}{r3:Rp}(h3:ev l x3=some r3)(u3:r3.one=true):Bp Tryz.prog n c l H { dst:=d,op:=.build 25 #[(0,x0),(1,x1),(2,x2),(3,x3)],type:=ty,pos:=pos,after:=af,guard:=g } (Bb [r0,r1,r2,r3]):=λa w Z ha _=>by
  have p0:=ha.ev h0;have c0:=By (r0.hone u0 Z _ p0);have p1:=ha.ev h1;have c1:=By (r1.hone u1 Z _ p1);have p2:=ha.ev h2;have c2:=By (r2.hone u2 Z _ p2);have p3:=ha.ev h3;have c3:=By (r3.hone u3 Z _ p3);have hb:Tryz.prog.built 25 [(0,a.eval x0),(1,a.eval x1),(2,a.eval x2),(3,a.eval x3)]=some #[a.eval x0,a.eval x1,a.eval x2,a.eval x3]:=by
    rw[To];generalize a.eval x0=v0 at *;generalize a.eval x1=v1 at *;generalize a.eval x2=v2 at *;generalize a.eval x3=v3 at *;simp[Instr.fill,c0,c1,c2,c3]
  refine⟨.agg #[a.eval x0,a.eval x1,a.eval x2,a.eval x3],⟨[a.eval x0,a.eval x1,a.eval x2,a.eval x3],rfl,p0,p1,p2,p3,trivial⟩,?_⟩;have:=run_build w 25 #[(0,a.eval x0),(1,a.eval x1),(2,a.eval x2),(3,a.eval x3)] _ (by simpa using hb);simp[execOp,this]
theorem PG (parts:List (Nat×Value)):Tryz.prog.built 44 parts=Instr.fill (λi=>(#[(0,4),(4,2),(6,1),(7,1)]:Array (Nat×Nat))[i]?) #[(.string ⟨#[]⟩),(.string ⟨#[]⟩),(.string ⟨#[]⟩),((.slice none 0 0)),(.int .i64 0),((.slice none 0 0)),(.int .i64 0),(.int .i64 0)] parts:=by kernel_rfl
theorem G7 {n:Nat}{c:Cx}{l:Fr}{H:List Ent}{d:Option Nat}{ty:TypeId}{pos:String}{af:Array Edge}{g:Option (Nat×Bool)}:Bp Tryz.prog n c l H { dst:=d,op:=.build 44 #[],type:=ty,pos:=pos,after:=af,guard:=g } (Bb [rS ([]:Am),rS ([]:Am),rS ([]:Am),rv (.slice none 0 0),Ak 0,rv (.slice none 0 0),Ak 0,Ak 0]):=λa w Z ha _=>by
  have hb:Tryz.prog.built 44 []=some #[(.string ⟨#[]⟩),(.string ⟨#[]⟩),(.string ⟨#[]⟩),((.slice none 0 0)),(.int .i64 0),((.slice none 0 0)),(.int .i64 0),(.int .i64 0)]:=by
    rw[PG];simp[Instr.fill,Value.cells]
  refine⟨.agg #[(.string ⟨#[]⟩),(.string ⟨#[]⟩),(.string ⟨#[]⟩),((.slice none 0 0)),(.int .i64 0),((.slice none 0 0)),(.int .i64 0),(.int .i64 0)],⟨[(.string ⟨#[]⟩),(.string ⟨#[]⟩),(.string ⟨#[]⟩),((.slice none 0 0)),(.int .i64 0),((.slice none 0 0)),(.int .i64 0),(.int .i64 0)],rfl,rfl,rfl,rfl,rfl,rfl,rfl,rfl,rfl,trivial⟩,?_⟩;have:=run_build w 44 #[] _ (by simpa using hb);simp[execOp,this]
theorem GM {n:Nat}{c:Cx}{l:Fr}{H:List Ent}{d:Option Nat}{ty:TypeId}{pos:String}{af:Array Edge}{g:Option (Nat×Bool)}{x0:Operand}{r0_0 r0_1 r0_2 r0_3:Rp}(h0:ev l x0=some (Bb [r0_0,r0_1,r0_2,r0_3])){x2:Operand}{r2:Rp}(h2:ev l x2=some r2)(u2:r2.one=true){x3:Operand}{r3:Rp}(h3:ev l x3=some r3)(u3:r3.one=true):Bp Tryz.prog n c l H { dst:=d,op:=.build 44 #[(0,x0),(2,x2),(3,x3)],type:=ty,pos:=pos,after:=af,guard:=g } (Bb [r0_0,r0_1,r0_2,r0_3,Ak 0,rv (.slice none 0 0),r2,r3]):=λa w Z ha _=>by
  obtain⟨us0,e0,q0⟩:=ha.ev h0;obtain⟨y0_0,y0_1,y0_2,y0_3,rfl,q0⟩:=AV.d4 q0;have p2:=ha.ev h2;have c2:=By (r2.hone u2 Z _ p2);have p3:=ha.ev h3;have c3:=By (r3.hone u3 Z _ p3);have cg:∀cs:Array Value,(Value.agg cs).cells=cs:=λ_=>rfl;have hb:Tryz.prog.built 44 [(0,a.eval x0),(2,a.eval x2),(3,a.eval x3)]=some #[y0_0,y0_1,y0_2,y0_3,(.int .i64 0),((.slice none 0 0)),a.eval x2,a.eval x3]:=by
    rw[PG];generalize a.eval x2=v2 at *;generalize a.eval x3=v3 at *;simp[Instr.fill,e0,c2,c3,cg]
  refine⟨.agg #[y0_0,y0_1,y0_2,y0_3,(.int .i64 0),((.slice none 0 0)),a.eval x2,a.eval x3],⟨[y0_0,y0_1,y0_2,y0_3,(.int .i64 0),((.slice none 0 0)),a.eval x2,a.eval x3],rfl,q0.1,q0.2.1,q0.2.2.1,q0.2.2.2.1,rfl,rfl,p2,p3,trivial⟩,?_⟩;have:=run_build w 44 #[(0,a.eval x0),(2,a.eval x2),(3,a.eval x3)] _ (by simpa using hb);simp[execOp,this]
theorem H6 (F:Nat)(a:At)(b:At)(r:Bool)(h:Bz F a b=some r):Fn Tryz.prog GE 51 [Bb (Ao a),Bb (Ao b)] [] (λR H=>R=rB r∧H=[]):=by
 refine enter (n:=53) Tryz.func51 Aa Tryz.ntmps51 Aa (λw Z=>?_);unfold Bz at h;refine As (B8 Aa Aa (λb1=>?_));refine B8 Aa Aa (λb2=>?_);refine wa Aa (A3 (A1 (Bc [(2,rP b1 0),(3,rP b2 0),(33,rB ((!decide (a.fEntity=b.fEntity))||((!decide (a.fID=b.fID))||((!decide (a.fOp=b.fOp))||(!decide ((a.fArgs.length:Int)=(b.fArgs.length:Int)))))))] [.blk b2 (Ao b) 25,.blk b1 (Ao a) 25] ?_ ?_)))
 ·refine AD (vF BX Aa DX (vL 1 Er Aa (vF BX Aa DX (vL 0 Er Aa (wv (NA Aa Aa) (wm Aa (Be (!decide (a.fEntity=b.fEntity)) (λc3=>?_) (λc3=>?_))))))))
  ·refine wf c3 (wf c3 (wf c3 (wf c3 (wf c3 (wv (r:=rB true) (A6 Aa c3 Aa) (wm Aa (wz Aa Aa (wz Aa Aa (wz Aa Aa (wz Aa Aa (wz Aa Aa (wv (r:=rB true) (A6 (b:=true) Aa Aa Aa) (wm Aa (wz Aa Aa (wz Aa Aa (wz Aa Aa (wz Aa Aa (wz Aa Aa (wz Aa Aa (wz Aa Aa (wv (r:=rB true) (A6 (b:=true) Aa Aa Aa) (A5 ?_))))))))))))))))))))));exact Dq c3
  ·refine wo c3 (vF BX Aa DX (wo c3 (vL 1 Er Aa (wo c3 (vF BX Aa DX (wo c3 (vL 0 Er Aa (wo c3 (wv (NA Aa Aa) (Kw Aa c3 Aa (wm Aa (Be (!decide (a.fID=b.fID)) (λc4=>?_) (λc4=>?_)))))))))))))
   ·refine wf c4 (wf c4 (wf c4 (wf c4 (wf c4 (wv (r:=rB true) (A6 Aa c4 Aa) (wm Aa (wz Aa Aa (wz Aa Aa (wz Aa Aa (wz Aa Aa (wz Aa Aa (wz Aa Aa (wz Aa Aa (wv (r:=rB true) (A6 (b:=true) Aa Aa Aa) (A5 ?_)))))))))))))));exact Dq (And.intro c3 c4)
   ·refine wo c4 (vF BX Aa DX (wo c4 (vL 1 Er Aa (wo c4 (vF BX Aa DX (wo c4 (vL 0 Er Aa (wo c4 (wv (NA Aa Aa) (Kw Aa c4 Aa (wm Aa (Be (!decide (a.fOp=b.fOp)) (λc5=>?_) (λc5=>?_)))))))))))))
    ·refine wf c5 (wf c5 (wf c5 (wf c5 (wf c5 (wf c5 (wf c5 (wv (r:=rB true) (A6 Aa c5 Aa) (A5 ?_))))))));exact Dq (And.intro c3 (And.intro c4 c5))
    ·refine wo c5 (vF BX Aa EJ (wo c5 (vL 1 GT Aa (wo c5 (wv (Bk (ys:=a.fArgs) (enc:=Ah) DC Aa) (wo c5 (vF BX Aa EJ (wo c5 (vL 0 GT Aa (wo c5 (wv (Bk (ys:=b.fArgs) (enc:=Ah) DC Aa) (wo c5 (wv (DP Aa Aa) (Kw Aa c5 Aa (A5 ?_)))))))))))))));exact Dq (And.intro c3 (And.intro c4 c5))
 refine cz h Aa (λc6 h7=>?_) (λc6 h8=>?_)
 ·refine As (wa Aa (A3 (A8 (An ?_))));obtain rfl:=A9 h7;exact A7 (Cd Tryz.results51 (AX Aa)) (sS (sS sN)) ⟨Aa,Aa⟩
 ·refine AG (Bf (A1 (As (wa Aa (A3 (Ba (ob h8 λhg hh hf=>BN (S:=Nat×(Int)×(Unit)) (V:=(Unit)×(Unit)) 0 (λσ=>BI (λσ=>DM F a b σ) σ.1 σ.2.1=some hg) (λσ=>[(2,rP b1 0),(3,rP b2 0),(5,Ak σ.2.1)]) (λσ=>[.blk b2 (Ao b) 25,.blk b1 (Ao a) 25]) (λσ=>σ.1) (F,0,()) hh (AZ.c Aa (AZ.c Aa (AZ.c Aa AZ.nil))) (sC (sC sN)) (λσ=>G0 =some r) (λσ=>[]) (λσ=>[]) ?_ ?_)))))))
  ·rintro⟨h3,ha,⟨⟩⟩ hi;refine C7 (l':=[(2,rP b1 0),(3,rP b2 0),(5,Ak ha)]) (H':=[.blk b2 (Ao b) 25,.blk b1 (Ao a) 25]) Aa Aa ?_;obtain⟨hj,rfl,t57,hb,he⟩:=DI hi;replace hb:DM F a b ha=some t57:=hb;unfold DM at hb;refine A1 (As (wm Aa (vF BX Aa EJ (vL 1 GT Aa (wv (Bk (ys:=a.fArgs) (enc:=Ah) DC Aa) (wv (EN Aa Aa) (A3 (cz hb Aa (λhk hl=>?_) (λhk hm=>?_)))))))))
   ·refine AG (Bf (A1 (Ba (A1 (ck hl λhn ho=>ck ho λhp hq=>C1 10 [2,3,5] [⟨[],rP b1 3,none,none,none⟩,⟨[0],AH 1 (Au Ah a.fArgs),none,none,none⟩,⟨[],Ak ha,none,none,none⟩,⟨[1,2],Du [AH 4 (Au Ac (Ad a.fArgs ha))],none,none,none⟩,⟨[3],AH 4 (Au Ac (Ad a.fArgs ha)),none,none,none⟩,⟨[],rP b2 3,none,none,none⟩,⟨[5],AH 1 (Au Ah b.fArgs),none,none,none⟩,⟨[],Ak ha,none,none,none⟩,⟨[6,7],Du [AH 4 (Au Ac (Ad b.fArgs ha))],none,none,none⟩,⟨[8],AH 4 (Au Ac (Ad b.fArgs ha)),none,none,none⟩] ?_ (λβ=>?_))))))
    ·refine C3 (AS BX Aa EJ Aa Aa) (JZ (B6 (i:=1) GT Aa Aa Aa) (C3 (Ap Aa) (C3 (Bh (enc:=Ah) (ys:=a.fArgs) DC DL Aa Aa hn) (C3 (Bj EY Aa Aa) (C3 (AS BX Aa EJ Aa Aa) (JZ (B6 (i:=0) GT Aa Aa Aa) (C3 (Ap Aa) (C3 (Bh (enc:=Ah) (ys:=b.fArgs) DC DL Aa Aa hp) (C3 (Bj EY Aa Aa) ?_)))))))));exact OA
    refine Dj (H1:=[.blk b2 (Ao b) 25,.blk b1 (Ao a) 25]) [41,42,43,44,45,46,47,48,49,50,2,3,5] ?_;refine ob hq λhr hs ht=>Dr Tryz.call13 (Ki F (Ad a.fArgs ha) (Ad b.fArgs ha) hr hs) Aa (wv (BS Aa) (A3 (cz ht Aa (λhu hw=>?_) (λhu hx=>?_))))
    ·refine As (wa Aa (A3 (A8 (AQ (An (An (B5 ?_)))))));have hy:=Cl hw he hf;refine AQ (An ?_);obtain rfl:=A9 hy;exact A7 (Cd Tryz.results51 (AX Aa)) (sS (sS sN)) ⟨Aa,Aa⟩
    ·refine AG (Bi (Bf (AD (wm Aa (ck hx λhz h0=>wv (Cy Aa Aa hz) (wa Aa (A5 ?_)))))));have h1:=BO h0 he;exact AL (AW (hj,ha+1,()) ⟨h1,Vy _⟩ (AZ.c Aa (AZ.c Aa (AZ.c Aa AZ.nil))) (sC (sC sN)))
   ·refine BM (AI ?_);have h2:=CC hm he hf;exact AI (B1 (AW ((),()) h2 AZ.nil (sS (sS sN))))
  ·rintro⟨⟨⟩,⟨⟩⟩ hd;refine DE (l':=[]) (H':=[]) Aa Aa ?_;replace hd:G0 =some r:=hd;unfold G0 at hd;refine Bw (Bf (As (wa Aa (A3 (A8 ?_)))));obtain rfl:=A9 hd;exact A7 (Cd Tryz.results51 (AX Aa)) sN ⟨Aa,Aa⟩
theorem KR (id:Am)(n:Int)(r:At)(h:KS id n=some r):Fn Tryz.prog GE 35 [rS id,Ak n] [] (λR H=>R=Bb (Ao r)∧H=[]):=by
 refine enter (n:=11) Tryz.func35 Aa Tryz.ntmps35 Aa (λw Z=>?_);unfold KS at h;refine As (Ca (cs:=[rS ([]:Am),rS ([]:Am),rS ([]:Am),rv (.slice none 0 0)]) Tryz.zeroValue25 Aa Aa (λb1=>?_));refine BH (wm Aa (wm Aa (wv (r:=Bb [Ak 3,Ak n,rS ([]:Am),Ak 0]) (Gd Aa Aa Aa Aa) (Bq (ys:=([(Ab.mk 3 n ([]:Am) 0)]:List Ab)) (enc:=Ac) (css:=[[Ak 3,Ak n,rS ([]:Am),Ak 0]]) (xs:=[.tmp 7]) CB Da Mi Aa Aa Aa ⟨Kt.agg ⟨Up.refl _,Up.refl _,Up.refl _,Up.refl _,trivial⟩,trivial⟩ Aa BR Aa Aa Aa (λb2=>?_)))));refine WL.freeze (i:=0) Aa (Bq (ys:=([([(Ab.mk 3 n ([]:Am) 0)]:List Ab)]:List (List Ab))) (enc:=Ah) (css:=[[AH 4 (Au Ac ([(Ab.mk 3 n ([]:Am) 0)]:List Ab))]]) (xs:=[.tmp 8]) DC DL Tryz.zeroValue22 Aa Aa Aa ⟨Kt.one Aa (Up.fact (i:=0) Aa),trivial⟩ Aa Dh Aa Aa Aa (λb3=>?_));refine wv (r:=Bb [rS ([120]:Am),rS id,rS ([97,100,100]:Am),rv (.slice (some ⟨b3,0,none⟩) 1 1)]) (IN Aa Aa Aa Aa Aa Aa Aa Aa) (AR (i:=2) Cp Aa Aa Aa ⟨(Cc Aa),(Cc Aa),(Cc Aa),(IK (i:=0) Aa),trivial⟩ Aa Aa (cs':=[rS ([120]:Am),rS id,rS ([97,100,100]:Am),rv (.slice (some ⟨b3,0,none⟩) 1 1)]) Aa (H':=[.row (.slice (some ⟨b3,0,none⟩) 1 1) 22 1 (Au Ah ([([(Ab.mk 3 n ([]:Am) 0)]:List Ab)]:List (List Ab))),.fact (.slice (some ⟨b2,0,none⟩) 1 1) (AH 4 (Au Ac ([(Ab.mk 3 n ([]:Am) 0)]:List Ab))),.blk b1 [rS ([120]:Am),rS id,rS ([97,100,100]:Am),rv (.slice (some ⟨b3,0,none⟩) 1 1)] 25]) Aa (A3 (A8 (WK.freeze (i:=0) Aa (WK.upBlk (i:=2) (cs':=[rS ([120]:Am),rS id,rS ([97,100,100]:Am),AH 1 (Au Ah ([([(Ab.mk 3 n ([]:Am) 0)]:List Ab)]:List (List Ab)))]) Aa ⟨Up.refl _,Up.refl _,Up.refl _,Up.fact (i:=0) Aa,trivial⟩ ?_)))));obtain rfl:=A9 h;exact A7 (Cd Tryz.results35 (Ci (i:=2) EK Cp Aa Aa Aa)) (sS (sS (sS sN))) ⟨Aa,Aa⟩
theorem Gu (F:Nat)(a:(List Am))(b:(List Am))(r:Bool)(h:EA F a b=some r):Fn Tryz.prog GE 23 [AH 1 (Au eS a),AH 1 (Au eS b)] [] (λR H=>R=rB r∧H=[]):=by
 refine enter (n:=26) Tryz.func23 Aa Tryz.ntmps23 Aa (λw Z=>?_);unfold EA at h;refine As (wa Aa (A3 (A1 (As (wm Aa (wv (Bk (ys:=a) (enc:=eS) Mj Aa) (wm Aa (wv (Bk (ys:=b) (enc:=eS) Mj Aa) (wv (DP Aa Aa) (A3 (cz h Aa (λc1 h2=>?_) (λc1 h3=>?_))))))))))))
 ·refine As (wa Aa (A3 (A8 (An ?_))));obtain rfl:=A9 h2;exact A7 (Cd Tryz.results23 (AX Aa)) sN ⟨Aa,Aa⟩
 ·refine AG (Bf (A1 (As (wm Aa (wv (Bk (ys:=a) (enc:=eS) Mj Aa) (wv (r:=Ak 0) (Ap Aa) (A3 (Ba (ob h3 λhg hh hf=>BN (S:=Nat×(Int)×(Unit)) (V:=(Unit)×(Unit)) 0 (λσ=>BI (λσ=>Ez a b σ) σ.1 σ.2.1=some hg) (λσ=>[(0,AH 1 (Au eS a)),(1,AH 1 (Au eS b)),(12,Ak (a.length:Int)),(13,Ak σ.2.1)]) (λσ=>[]) (λσ=>σ.1) (F,0,()) hh (AZ.c Aa (AZ.c Aa (AZ.c Aa (AZ.c Aa AZ.nil)))) sN (λσ=>HJ =some r) (λσ=>[]) (λσ=>[]) ?_ ?_)))))))))
  ·rintro⟨h1,ha,⟨⟩⟩ hi;refine C7 (l':=[(0,AH 1 (Au eS a)),(1,AH 1 (Au eS b)),(12,Ak (a.length:Int)),(13,Ak ha)]) (H':=[]) Aa Aa ?_;obtain⟨hj,rfl,hk,hb,he⟩:=DI hi;replace hb:Ez a b ha=some hk:=hb;unfold Ez at hb;refine As (wv (EN Aa Aa) (A3 (A1 (cz hb Aa (λhl hm=>?_) (λhl hn=>?_)))))
   ·refine AG (Bf (A1 (Ba (As (wm Aa (wa Aa (A3 (A1 (ck hm λho hp=>ck hp λhq hr=>Dl [0,1,5,12,13] [⟨[],AH 1 (Au eS a),0⟩,⟨[],Ak ha,0⟩,⟨[0,1],Du [rS (Ad a ha)],0⟩,⟨[2],rS (Ad a ha),0⟩,⟨[],AH 1 (Au eS b),0⟩,⟨[],Ak ha,0⟩,⟨[4,5],Du [rS (Ad b ha)],0⟩,⟨[6],rS (Ad b ha),0⟩,⟨[3,7],rB (!decide ((Ad a ha)=(Ad b ha))),0⟩] [24,0,1,12,13] ?_ ?_)))))))))
    ·refine oq (Ap Aa) (oq (Ap Aa) (oq (Bh (enc:=eS) (ys:=a) Mj DX Aa Aa ho) (oq (Bj Er Aa Aa) (oq (Ap Aa) (oq (Ap Aa) (oq (Bh (enc:=eS) (ys:=b) Mj DX Aa Aa hq) (oq (Bj Er Aa Aa) (oq (NA Aa Aa) ?_))))))));exact CE
    refine Bf (cz hr Aa (λhs ht=>?_) (λhs hu=>?_))
    ·refine As (wa Aa (A3 (A8 (AQ (An (An (B5 ?_)))))));have hw:=Cl ht he hf;refine AQ (An ?_);obtain rfl:=A9 hw;exact A7 (Cd Tryz.results23 (AX Aa)) sN ⟨Aa,Aa⟩
    ·refine AG (Bi (Bf (AD (ck hu λhx hy=>wv (Cy Aa Aa hx) (wm Aa (A5 ?_))))));have hz:=BO hy he;exact AL (AW (hj,ha+1,()) ⟨hz,Vy _⟩ (AZ.c Aa (AZ.c Aa (AZ.c Aa (AZ.c Aa AZ.nil)))) sN)
   ·refine BM (AI ?_);have h0:=CC hn he hf;exact AI (B1 (AW ((),()) h0 AZ.nil sN))
  ·rintro⟨⟨⟩,⟨⟩⟩ hd;refine DE (l':=[]) (H':=[]) Aa Aa ?_;replace hd:HJ =some r:=hd;unfold HJ at hd;refine Bw (Bf (As (wa Aa (A3 (A8 ?_)))));obtain rfl:=A9 hd;exact A7 (Cd Tryz.results23 (AX Aa)) sN ⟨Aa,Aa⟩
theorem RL (F:Nat)(v:(List Ab))(r:Bool)(h:KQ F v=some r):Fn Tryz.prog GE 8 [AH 4 (Au Ac v)] [] (λR H=>R=rB r∧H=[]):=by
 refine enter (n:=20) Tryz.func8 Aa Tryz.ntmps8 Aa (λw Z=>?_);unfold KQ at h;refine As (wa Aa (A3 (A1 (As (wm Aa (wv (Bk (ys:=v) (enc:=Ac) CB Aa) (wv (Gc Aa Aa) (A3 (cz h Aa (λc1 h2=>?_) (λc1 h3=>?_))))))))))
 ·refine As (wa Aa (A3 (A8 (An ?_))));obtain rfl:=A9 h2;exact A7 (Cd Tryz.results8 (AX Aa)) sN ⟨Aa,Aa⟩
 ·refine AG (Bf (A1 (As (wm Aa (wv (Bk (ys:=v) (enc:=Ac) CB Aa) (wv (r:=Ak 0) (Ap Aa) (A3 (Ba (ob h3 λhg hh hf=>BN (S:=Nat×(Int)×(Unit)) (V:=(Unit)×(Unit)) 0 (λσ=>BI (λσ=>E1 v σ) σ.1 σ.2.1=some hg) (λσ=>[(0,AH 4 (Au Ac v)),(8,Ak (v.length:Int)),(9,Ak σ.2.1)]) (λσ=>[]) (λσ=>σ.1) (F,0,()) hh (AZ.c Aa (AZ.c Aa (AZ.c Aa AZ.nil))) sN (λσ=>HL =some r) (λσ=>[]) (λσ=>[]) ?_ ?_)))))))))
  ·rintro⟨hy,hd,⟨⟩⟩ hi;refine C7 (l':=[(0,AH 4 (Au Ac v)),(8,Ak (v.length:Int)),(9,Ak hd)]) (H':=[]) Aa Aa ?_;obtain⟨hj,rfl,t37,ha,he⟩:=DI hi;replace ha:E1 v hd=some t37:=ha;unfold E1 at ha;refine As (wv (EN Aa Aa) (A3 (A1 (cz ha Aa (λhk hl=>?_) (λhk hm=>?_)))))
   ·refine AG (Bf (A1 (Ba (As (wm Aa (wa Aa (BH (wm Aa (wm Aa (ck hl λhn ho=>wv (Bh (enc:=Ac) (ys:=v) CB Da Aa Aa hn) (wv (AJ BU Aa DX Aa Aa) (wv (Bj Er Aa Aa) (wv (Dg GV Aa) (wv (Gc Aa Aa) (A3 (cz ho Aa (λhp hq=>?_) (λhp hr=>?_)))))))))))))))))
    ·refine As (wa Aa (A3 (A8 (AQ (An (An (B5 ?_)))))));have hs:=Cl hq he hf;refine AQ (An ?_);obtain rfl:=A9 hs;exact A7 (Cd Tryz.results8 (AX Aa)) sN ⟨Aa,Aa⟩
    ·refine AG (Bi (Bf (AD (ck hr λht hu=>wv (Cy Aa Aa ht) (wm Aa (A5 ?_))))));have hw:=BO hu he;exact AL (AW (hj,hd+1,()) ⟨hw,Vy _⟩ (AZ.c Aa (AZ.c Aa (AZ.c Aa AZ.nil))) sN)
   ·refine BM (AI ?_);have hx:=CC hm he hf;exact AI (B1 (AW ((),()) hx AZ.nil sN))
  ·rintro⟨⟨⟩,⟨⟩⟩ hb;refine DE (l':=[]) (H':=[]) Aa Aa ?_;replace hb:HL =some r:=hb;unfold HL at hb;refine Bw (Bf (As (wa Aa (A3 (A8 ?_)))));obtain rfl:=A9 hb;exact A7 (Cd Tryz.results8 (AX Aa)) sN ⟨Aa,Aa⟩
theorem RK (F:Nat)(op:At)(r:Bool)(h:KP F op=some r):Fn Tryz.prog GE 9 [Bb (Ao op)] [] (λR H=>R=rB r∧H=[]):=by
 refine enter (n:=40) Tryz.func9 Aa Tryz.ntmps9 Aa (λw Z=>?_);unfold KP at h;refine As (B8 Aa Aa (λb1=>?_));refine wa Aa (A3 (A1 (Bc [(1,rP b1 0),(25,rB ((decide (100<(op.fEntity.length:Int)))||((decide (100<(op.fID.length:Int)))||((decide (100<(op.fOp.length:Int)))||(decide (4<(op.fArgs.length:Int)))))))] [.blk b1 (Ao op) 25] ?_ ?_)))
 ·refine AD (vF BX Aa DX (vL 0 Er Aa (wv (Dg GV Aa) (wv (Gc Aa Aa) (wm Aa (Be (decide (100<(op.fEntity.length:Int))) (λc2=>?_) (λc2=>?_)))))))
  ·refine wf c2 (wf c2 (wf c2 (wf c2 (wv (r:=rB true) (A6 Aa c2 Aa) (wm Aa (wz Aa Aa (wz Aa Aa (wz Aa Aa (wz Aa Aa (wv (r:=rB true) (A6 (b:=true) Aa Aa Aa) (wm Aa (wz Aa Aa (wz Aa Aa (wz Aa Aa (wz Aa Aa (wv (r:=rB true) (A6 (b:=true) Aa Aa Aa) (A5 ?_)))))))))))))))));exact Dq c2
  ·refine wo c2 (vF BX Aa DX (wo c2 (vL 0 Er Aa (wo c2 (wv (Dg GV Aa) (wo c2 (wv (Gc Aa Aa) (Kw Aa c2 Aa (wm Aa (Be (decide (100<(op.fID.length:Int))) (λc3=>?_) (λc3=>?_)))))))))))
   ·refine wf c3 (wf c3 (wf c3 (wf c3 (wv (r:=rB true) (A6 Aa c3 Aa) (wm Aa (wz Aa Aa (wz Aa Aa (wz Aa Aa (wz Aa Aa (wv (r:=rB true) (A6 (b:=true) Aa Aa Aa) (A5 ?_)))))))))));exact Dq (And.intro c2 c3)
   ·refine wo c3 (vF BX Aa DX (wo c3 (vL 0 Er Aa (wo c3 (wv (Dg GV Aa) (wo c3 (wv (Gc Aa Aa) (Kw Aa c3 Aa (wm Aa (Be (decide (100<(op.fOp.length:Int))) (λc4=>?_) (λc4=>?_)))))))))))
    ·refine wf c4 (wf c4 (wf c4 (wf c4 (wv (r:=rB true) (A6 Aa c4 Aa) (A5 ?_)))));exact Dq (And.intro c2 (And.intro c3 c4))
    ·refine wo c4 (vF BX Aa EJ (wo c4 (vL 0 GT Aa (wo c4 (wv (Bk (ys:=op.fArgs) (enc:=Ah) DC Aa) (wo c4 (wv (Gc Aa Aa) (Kw Aa c4 Aa (A5 ?_)))))))));exact Dq (And.intro c2 (And.intro c3 c4))
 refine cz h Aa (λc5 h6=>?_) (λc5 h7=>?_)
 ·refine As (wa Aa (A3 (A8 (An ?_))));obtain rfl:=A9 h6;exact A7 (Cd Tryz.results9 (AX Aa)) (sS sN) ⟨Aa,Aa⟩
 ·refine AG (Bf (A1 (As (vF BX Aa EJ (vL 0 GT Aa (wv (Bk (ys:=op.fArgs) (enc:=Ah) DC Aa) (wv (r:=Ak 0) (Ap Aa) (A3 (Ba (ob h7 λhg hh hf=>BN (S:=Nat×(Int)×(Unit)) (V:=(Unit)×(Unit)) 0 (λσ=>BI (λσ=>E0 F op σ) σ.1 σ.2.1=some hg) (λσ=>[(1,rP b1 0),(28,Ak (op.fArgs.length:Int)),(29,Ak σ.2.1)]) (λσ=>[.blk b1 (Ao op) 25]) (λσ=>σ.1) (F,0,()) hh (AZ.c Aa (AZ.c Aa (AZ.c Aa AZ.nil))) (sC sN) (λσ=>HK =some r) (λσ=>[]) (λσ=>[]) ?_ ?_))))))))))
  ·rintro⟨h2,ha,⟨⟩⟩ hi;refine C7 (l':=[(1,rP b1 0),(28,Ak (op.fArgs.length:Int)),(29,Ak ha)]) (H':=[.blk b1 (Ao op) 25]) Aa Aa ?_;obtain⟨hj,rfl,hk,hb,he⟩:=DI hi;replace hb:E0 F op ha=some hk:=hb;unfold E0 at hb;refine As (wv (EN Aa Aa) (A3 (A1 (cz hb Aa (λhl hm=>?_) (λhl hn=>?_)))))
   ·refine AG (Bf (A1 (Ba (As (wm Aa (wa Aa (BH (vF BX Aa EJ (vL 0 GT Aa (wm Aa (ck hm λho hp=>wv (Bh (enc:=Ah) (ys:=op.fArgs) DC DL Aa Aa ho) (wv (Bj EY Aa Aa) (ob hp λhq hr hs=>Dr Tryz.call8 (RL F (Ad op.fArgs ha) hq hr) Aa (wv (BS Aa) (A3 (cz hs Aa (λht hu=>?_) (λht hw=>?_)))))))))))))))))
    ·refine As (wa Aa (A3 (A8 (AQ (An (An (B5 ?_)))))));have hx:=Cl hu he hf;refine AQ (An ?_);obtain rfl:=A9 hx;exact A7 (Cd Tryz.results9 (AX Aa)) (sS sN) ⟨Aa,Aa⟩
    ·refine AG (Bi (Bf (AD (ck hw λhy hz=>wv (Cy Aa Aa hy) (wm Aa (A5 ?_))))));have h0:=BO hz he;exact AL (AW (hj,ha+1,()) ⟨h0,Vy _⟩ (AZ.c Aa (AZ.c Aa (AZ.c Aa AZ.nil))) (sC sN))
   ·refine BM (AI ?_);have h1:=CC hn he hf;exact AI (B1 (AW ((),()) h1 AZ.nil (sS sN)))
  ·rintro⟨⟨⟩,⟨⟩⟩ hd;refine DE (l':=[]) (H':=[]) Aa Aa ?_;replace hd:HK =some r:=hd;unfold HK at hd;refine Bw (Bf (As (wa Aa (A3 (A8 ?_)))));obtain rfl:=A9 hd;exact A7 (Cd Tryz.results9 (AX Aa)) sN ⟨Aa,Aa⟩
theorem KO (F:Nat)(l:(List AP))(r:Bool)(h:Co F l=some r):Fn Tryz.prog GE 15 [AH 6 (Au Ax l)] [] (λR H=>R=rB r∧H=[]):=by
 refine enter (n:=20) Tryz.func15 Aa Tryz.ntmps15 Aa (λw Z=>?_);unfold Co at h;refine As (wa Aa (A3 (A1 (As (wm Aa (wv (Bk (ys:=l) (enc:=Ax) Lr Aa) (wv (Gc Aa Aa) (A3 (cz h Aa (λc1 h2=>?_) (λc1 h3=>?_))))))))))
 ·refine As (wa Aa (A3 (A8 (An ?_))));obtain rfl:=A9 h2;exact A7 (Cd Tryz.results15 (AX Aa)) sN ⟨Aa,Aa⟩
 ·refine AG (Bf (A1 (As (wm Aa (wv (Bk (ys:=l) (enc:=Ax) Lr Aa) (wv (r:=Ak 0) (Ap Aa) (A3 (Ba (ob h3 λhg hh hf=>BN (S:=Nat×(Int)×(Unit)) (V:=(Unit)×(Unit)) 0 (λσ=>BI (λσ=>D2 F l σ) σ.1 σ.2.1=some hg) (λσ=>[(0,AH 6 (Au Ax l)),(8,Ak (l.length:Int)),(9,Ak σ.2.1)]) (λσ=>[]) (λσ=>σ.1) (F,0,()) hh (AZ.c Aa (AZ.c Aa (AZ.c Aa AZ.nil))) sN (λσ=>EU =some r) (λσ=>[]) (λσ=>[]) ?_ ?_)))))))))
  ·rintro⟨h1,ha,⟨⟩⟩ hi;refine C7 (l':=[(0,AH 6 (Au Ax l)),(8,Ak (l.length:Int)),(9,Ak ha)]) (H':=[]) Aa Aa ?_;obtain⟨hj,rfl,t46,hb,he⟩:=DI hi;replace hb:D2 F l ha=some t46:=hb;unfold D2 at hb;refine As (wv (EN Aa Aa) (A3 (A1 (cz hb Aa (λhk hl=>?_) (λhk hm=>?_)))))
   ·refine AG (Bf (A1 (Ba (As (wm Aa (wa Aa (BH (wm Aa (wm Aa (ck hl λhn ho=>wv (Bh (enc:=Ax) (ys:=l) Lr Ng Aa Aa hn) (wv (AJ Kv Aa Cp Aa Aa) (wv (Bx EK Cp Aa Aa Aa) (ob ho λhp hq hr=>Dr Tryz.call9 (RK F ((Ad l ha).fOp) hp hq) Aa (wv (BS Aa) (A3 (cz hr Aa (λhs ht=>?_) (λhs hu=>?_)))))))))))))))))
    ·refine As (wa Aa (A3 (A8 (AQ (An (An (B5 ?_)))))));have hw:=Cl ht he hf;refine AQ (An ?_);obtain rfl:=A9 hw;exact A7 (Cd Tryz.results15 (AX Aa)) sN ⟨Aa,Aa⟩
    ·refine AG (Bi (Bf (AD (ck hu λhx hy=>wv (Cy Aa Aa hx) (wm Aa (A5 ?_))))));have hz:=BO hy he;exact AL (AW (hj,ha+1,()) ⟨hz,Vy _⟩ (AZ.c Aa (AZ.c Aa (AZ.c Aa AZ.nil))) sN)
   ·refine BM (AI ?_);have h0:=CC hm he hf;exact AI (B1 (AW ((),()) h0 AZ.nil sN))
  ·rintro⟨⟨⟩,⟨⟩⟩ hd;refine DE (l':=[]) (H':=[]) Aa Aa ?_;replace hd:EU =some r:=hd;unfold EU at hd;refine Bw (Bf (As (wa Aa (A3 (A8 ?_)))));obtain rfl:=A9 hd;exact A7 (Cd Tryz.results15 (AX Aa)) sN ⟨Aa,Aa⟩
theorem Io (F:Nat)(a:A0)(b:A0)(r:Bool)(h:B2 F a b=some r):Fn Tryz.prog GE 14 [Bb (A2 a),Bb (A2 b)] [] (λR H=>R=rB r∧H=[]):=by
 refine enter (n:=17) Tryz.func14 Aa Tryz.ntmps14 Aa (λw Z=>?_);unfold B2 at h;refine As (B8 Aa Aa (λb1=>?_));refine B8 Aa Aa (λb2=>?_);refine wa Aa (A3 (ck h λg3 h4=>Bc [(4,rB ((decide (a.fErr=b.fErr))&&(ov (E5 F a.fValue b.fValue))))] [] ?_ ?_))
 ·refine AD (vF Nc Aa Tryz.sizeOf29 (vL 1 Tryz.isAgg29 Aa (vF Nc Aa Tryz.sizeOf29 (vL 0 Tryz.isAgg29 Aa (wv (BW Aa Aa) (wm Aa (Be (decide (a.fErr=b.fErr)) (λc5=>?_) (λc5=>?_))))))))
  ·refine wo c5 (vF Nc Aa DL (wo c5 (vL 1 EY Aa (wo c5 (vF Nc Aa DL (wo c5 (vL 0 EY Aa (wo c5 (Dr Tryz.call13 (Ki F a.fValue b.fValue (ov (E5 F a.fValue b.fValue)) (Jt (Hp g3 c5))) Aa (GW Aa c5 Aa (wa Aa (A5 ?_))))))))))));exact Dq c5
  ·refine wf c5 (wf c5 (wf c5 (wf c5 (wf c5 (wv (r:=rB false) (AC Aa c5 Aa) (wa Aa (A5 ?_)))))));exact Dq c5
 refine A8 ?_;obtain rfl:=A9 h4;exact A7 (Cd Tryz.results14 (AX Aa)) sN ⟨Aa,Aa⟩
theorem NS (F:Nat)(a:(List Aj))(b:(List Aj))(r:Bool)(h:In F a b=some r):Fn Tryz.prog GE 24 [AH 8 (Au Ae a),AH 8 (Au Ae b)] [] (λR H=>R=rB r∧H=[]):=by
 refine enter (n:=69) Tryz.func24 Aa Tryz.ntmps24 Aa (λw Z=>?_);unfold In at h;refine As (wa Aa (A3 (A1 (As (wm Aa (wv (Bk (ys:=a) (enc:=Ae) DK Aa) (wm Aa (wv (Bk (ys:=b) (enc:=Ae) DK Aa) (wv (DP Aa Aa) (A3 (cz h Aa (λc1 h2=>?_) (λc1 h3=>?_))))))))))))
 ·refine As (wa Aa (A3 (A8 (An ?_))));obtain rfl:=A9 h2;exact A7 (Cd Tryz.results24 (AX Aa)) sN ⟨Aa,Aa⟩
 ·refine AG (Bf (A1 (As (wm Aa (wv (Bk (ys:=a) (enc:=Ae) DK Aa) (wv (r:=Ak 0) (Ap Aa) (A3 (Ba (ob h3 λhn ho hm=>BN (S:=Nat×(Int)×(Unit)) (V:=(Unit)×(Unit)) 0 (λσ=>BI (λσ=>E2 F a b σ) σ.1 σ.2.1=some hn) (λσ=>[(0,AH 8 (Au Ae a)),(1,AH 8 (Au Ae b)),(12,Ak (a.length:Int)),(13,Ak σ.2.1)]) (λσ=>[]) (λσ=>σ.1) (F,0,()) ho (AZ.c Aa (AZ.c Aa (AZ.c Aa (AZ.c Aa AZ.nil)))) sN (λσ=>HM =some r) (λσ=>[]) (λσ=>[]) ?_ ?_)))))))))
  ·rintro⟨h9,ha,⟨⟩⟩ hp;refine C7 (l':=[(0,AH 8 (Au Ae a)),(1,AH 8 (Au Ae b)),(12,Ak (a.length:Int)),(13,Ak ha)]) (H':=[]) Aa Aa ?_;obtain⟨hq,rfl,t64,hh,hk⟩:=DI hp;replace hh:E2 F a b ha=some t64:=hh;unfold E2 at hh;refine As (wv (EN Aa Aa) (A3 (A1 (cz hh Aa (λhr hs=>?_) (λhr ht=>?_)))))
   ·refine AG (Bf (A1 (Ba (As (wm Aa (wa Aa (A3 (ck hs λhf hu=>ck hu λhg hw=>ck hw λhi hx=>ck hx λhl hy=>Bc [(0,AH 8 (Au Ae a)),(1,AH 8 (Au Ae b)),(12,Ak (a.length:Int)),(13,Ak ha),(67,rB ((!(ov (Bz F ((Ad a ha).fOp) ((Ad b ha).fOp))))||((!(ov (B2 F ((Ad a ha).fAnswer) ((Ad b ha).fAnswer))))||((!decide (((Ad a ha).fFrom)=((Ad b ha).fFrom)))||(!decide (((Ad a ha).fTo)=((Ad b ha).fTo)))))))] [] ?_ ?_))))))))
    ·refine Be (!(ov (Bz F ((Ad a ha).fOp) ((Ad b ha).fOp)))) (λhb=>?_) (λhb=>?_)
     ·refine Dl [0,1,5,12,13] [⟨[],AH 8 (Au Ae a),0⟩,⟨[],Ak ha,0⟩,⟨[0,1],Du [rS (((Ad a ha).fOp).fEntity),rS (((Ad a ha).fOp).fID),rS (((Ad a ha).fOp).fOp),AH 1 (Au Ah (((Ad a ha).fOp).fArgs)),Ak (((Ad a ha).fAnswer).fErr),AH 4 (Au Ac (((Ad a ha).fAnswer).fValue)),Ak ((Ad a ha).fFrom),Ak ((Ad a ha).fTo)],0⟩,⟨[2],Du [rS (((Ad a ha).fOp).fEntity),rS (((Ad a ha).fOp).fID),rS (((Ad a ha).fOp).fOp),AH 1 (Au Ah (((Ad a ha).fOp).fArgs)),Ak (((Ad a ha).fAnswer).fErr),AH 4 (Au Ac (((Ad a ha).fAnswer).fValue)),Ak ((Ad a ha).fFrom),Ak ((Ad a ha).fTo)],0⟩,⟨[3],Bb (Ao ((Ad a ha).fOp)),0⟩,⟨[],AH 8 (Au Ae b),0⟩,⟨[],Ak ha,0⟩,⟨[5,6],Du [rS (((Ad b ha).fOp).fEntity),rS (((Ad b ha).fOp).fID),rS (((Ad b ha).fOp).fOp),AH 1 (Au Ah (((Ad b ha).fOp).fArgs)),Ak (((Ad b ha).fAnswer).fErr),AH 4 (Au Ac (((Ad b ha).fAnswer).fValue)),Ak ((Ad b ha).fFrom),Ak ((Ad b ha).fTo)],0⟩,⟨[7],Du [rS (((Ad b ha).fOp).fEntity),rS (((Ad b ha).fOp).fID),rS (((Ad b ha).fOp).fOp),AH 1 (Au Ah (((Ad b ha).fOp).fArgs)),Ak (((Ad b ha).fAnswer).fErr),AH 4 (Au Ac (((Ad b ha).fAnswer).fValue)),Ak ((Ad b ha).fFrom),Ak ((Ad b ha).fTo)],0⟩,⟨[8],Bb (Ao ((Ad b ha).fOp)),0⟩,⟨[4,9],rB (ov (Bz F ((Ad a ha).fOp) ((Ad b ha).fOp))),0⟩,⟨[10],rB (!(ov (Bz F ((Ad a ha).fOp) ((Ad b ha).fOp)))),0⟩,⟨[11],rB (!(ov (Bz F ((Ad a ha).fOp) ((Ad b ha).fOp)))),0⟩,⟨[12],rv undef,0⟩,⟨[12],rv undef,0⟩,⟨[13,14,12],rv undef,0⟩,⟨[15,12],rv undef,0⟩,⟨[16,12],rv undef,0⟩,⟨[12],rv undef,0⟩,⟨[12],rv undef,0⟩,⟨[18,19,12],rv undef,0⟩,⟨[20,12],rv undef,0⟩,⟨[21,12],rv undef,0⟩,⟨[17,22,12],rv undef,0⟩,⟨[23,12],rv undef,0⟩,⟨[12,24],rB true,0⟩,⟨[25],rB true,0⟩,⟨[26],rv undef,0⟩,⟨[26],rv undef,0⟩,⟨[27,28,26],rv undef,0⟩,⟨[29,26],rv undef,0⟩,⟨[30,26],rv undef,0⟩,⟨[26],rv undef,0⟩,⟨[26],rv undef,0⟩,⟨[32,33,26],rv undef,0⟩,⟨[34,26],rv undef,0⟩,⟨[35,26],rv undef,0⟩,⟨[31,36,26],rv undef,0⟩,⟨[26,37],rB true,0⟩,⟨[38],rB true,0⟩,⟨[39],rv undef,0⟩,⟨[39],rv undef,0⟩,⟨[40,41,39],rv undef,0⟩,⟨[42,39],rv undef,0⟩,⟨[43,39],rv undef,0⟩,⟨[39],rv undef,0⟩,⟨[39],rv undef,0⟩,⟨[45,46,39],rv undef,0⟩,⟨[47,39],rv undef,0⟩,⟨[48,39],rv undef,0⟩,⟨[44,49,39],rv undef,0⟩,⟨[39,50],rB true,0⟩] [67,0,1,12,13] ?_ ?_
      ·refine oq (Ap Aa) (oq (Ap Aa) (oq (Bh (enc:=Ae) (ys:=a) DK Cr Aa Aa hf) (oq (AJ CX Aa Cp Aa Aa) (oq (Bx EK Cp Aa Aa Aa) (oq (Ap Aa) (oq (Ap Aa) (oq (Bh (enc:=Ae) (ys:=b) DK Cr Aa Aa hg) (oq (AJ CX Aa Cp Aa Aa) (oq (Bx EK Cp Aa Aa Aa) (Cm Aa (λH=>D8 Tryz.call51 (H6 F ((Ad a ha).fOp) ((Ad b ha).fOp) (ov (Bz F ((Ad a ha).fOp) ((Ad b ha).fOp))) (Jt hi)) Aa) ?_))))))))));refine oq (BS Aa) (oq (Ap Aa) (oz hb (oz hb (oz hb (oz hb (oz hb (oz hb (oz hb (oz hb (oz hb (oz hb (oz hb (oz hb (oq (A6 (b:=!(ov (Bz F ((Ad a ha).fOp) ((Ad b ha).fOp)))) Aa hb Aa) (oq (Ap Aa) (oz Aa (oz Aa (oz Aa (oz Aa (oz Aa (oz Aa (oz Aa (oz Aa ?_)))))))))))))))))))))));refine oz Aa (oz Aa (oz Aa (oq (A6 (b:=true) Aa Aa Aa) (oq (Ap Aa) (oz Aa (oz Aa (oz Aa (oz Aa (oz Aa (oz Aa (oz Aa (oz Aa (oz Aa (oz Aa (oz Aa (oq (A6 (b:=true) Aa Aa Aa) ?_))))))))))))))));exact CE
      exact Dq hb
     ·refine Be (!(ov (B2 F ((Ad a ha).fAnswer) ((Ad b ha).fAnswer)))) (λhd=>?_) (λhd=>?_)
      ·refine Dl [0,1,5,12,13] [⟨[],AH 8 (Au Ae a),0⟩,⟨[],Ak ha,0⟩,⟨[0,1],Du [rS (((Ad a ha).fOp).fEntity),rS (((Ad a ha).fOp).fID),rS (((Ad a ha).fOp).fOp),AH 1 (Au Ah (((Ad a ha).fOp).fArgs)),Ak (((Ad a ha).fAnswer).fErr),AH 4 (Au Ac (((Ad a ha).fAnswer).fValue)),Ak ((Ad a ha).fFrom),Ak ((Ad a ha).fTo)],0⟩,⟨[2],Du [rS (((Ad a ha).fOp).fEntity),rS (((Ad a ha).fOp).fID),rS (((Ad a ha).fOp).fOp),AH 1 (Au Ah (((Ad a ha).fOp).fArgs)),Ak (((Ad a ha).fAnswer).fErr),AH 4 (Au Ac (((Ad a ha).fAnswer).fValue)),Ak ((Ad a ha).fFrom),Ak ((Ad a ha).fTo)],0⟩,⟨[3],Bb (Ao ((Ad a ha).fOp)),0⟩,⟨[],AH 8 (Au Ae b),0⟩,⟨[],Ak ha,0⟩,⟨[5,6],Du [rS (((Ad b ha).fOp).fEntity),rS (((Ad b ha).fOp).fID),rS (((Ad b ha).fOp).fOp),AH 1 (Au Ah (((Ad b ha).fOp).fArgs)),Ak (((Ad b ha).fAnswer).fErr),AH 4 (Au Ac (((Ad b ha).fAnswer).fValue)),Ak ((Ad b ha).fFrom),Ak ((Ad b ha).fTo)],0⟩,⟨[7],Du [rS (((Ad b ha).fOp).fEntity),rS (((Ad b ha).fOp).fID),rS (((Ad b ha).fOp).fOp),AH 1 (Au Ah (((Ad b ha).fOp).fArgs)),Ak (((Ad b ha).fAnswer).fErr),AH 4 (Au Ac (((Ad b ha).fAnswer).fValue)),Ak ((Ad b ha).fFrom),Ak ((Ad b ha).fTo)],0⟩,⟨[8],Bb (Ao ((Ad b ha).fOp)),0⟩,⟨[4,9],rB (ov (Bz F ((Ad a ha).fOp) ((Ad b ha).fOp))),0⟩,⟨[10],rB (!(ov (Bz F ((Ad a ha).fOp) ((Ad b ha).fOp)))),0⟩,⟨[11],rB (!(ov (Bz F ((Ad a ha).fOp) ((Ad b ha).fOp)))),0⟩,⟨[12],AH 8 (Au Ae a),0⟩,⟨[12],Ak ha,0⟩,⟨[13,14,12],Du [rS (((Ad a ha).fOp).fEntity),rS (((Ad a ha).fOp).fID),rS (((Ad a ha).fOp).fOp),AH 1 (Au Ah (((Ad a ha).fOp).fArgs)),Ak (((Ad a ha).fAnswer).fErr),AH 4 (Au Ac (((Ad a ha).fAnswer).fValue)),Ak ((Ad a ha).fFrom),Ak ((Ad a ha).fTo)],0⟩,⟨[15,12],Du [Ak (((Ad a ha).fAnswer).fErr),AH 4 (Au Ac (((Ad a ha).fAnswer).fValue)),Ak ((Ad a ha).fFrom),Ak ((Ad a ha).fTo)],0⟩,⟨[16,12],Bb (A2 ((Ad a ha).fAnswer)),0⟩,⟨[12],AH 8 (Au Ae b),0⟩,⟨[12],Ak ha,0⟩,⟨[18,19,12],Du [rS (((Ad b ha).fOp).fEntity),rS (((Ad b ha).fOp).fID),rS (((Ad b ha).fOp).fOp),AH 1 (Au Ah (((Ad b ha).fOp).fArgs)),Ak (((Ad b ha).fAnswer).fErr),AH 4 (Au Ac (((Ad b ha).fAnswer).fValue)),Ak ((Ad b ha).fFrom),Ak ((Ad b ha).fTo)],0⟩,⟨[20,12],Du [Ak (((Ad b ha).fAnswer).fErr),AH 4 (Au Ac (((Ad b ha).fAnswer).fValue)),Ak ((Ad b ha).fFrom),Ak ((Ad b ha).fTo)],0⟩,⟨[21,12],Bb (A2 ((Ad b ha).fAnswer)),0⟩,⟨[17,22,12],rB (ov (B2 F ((Ad a ha).fAnswer) ((Ad b ha).fAnswer))),0⟩,⟨[23,12],rB (!(ov (B2 F ((Ad a ha).fAnswer) ((Ad b ha).fAnswer)))),0⟩,⟨[12,24],rB (!(ov (B2 F ((Ad a ha).fAnswer) ((Ad b ha).fAnswer)))),0⟩,⟨[25],rB (!(ov (B2 F ((Ad a ha).fAnswer) ((Ad b ha).fAnswer)))),0⟩,⟨[26],rv undef,0⟩,⟨[26],rv undef,0⟩,⟨[27,28,26],rv undef,0⟩,⟨[29,26],rv undef,0⟩,⟨[30,26],rv undef,0⟩,⟨[26],rv undef,0⟩,⟨[26],rv undef,0⟩,⟨[32,33,26],rv undef,0⟩,⟨[34,26],rv undef,0⟩,⟨[35,26],rv undef,0⟩,⟨[31,36,26],rv undef,0⟩,⟨[26,37],rB true,0⟩,⟨[38],rB true,0⟩,⟨[39],rv undef,0⟩,⟨[39],rv undef,0⟩,⟨[40,41,39],rv undef,0⟩,⟨[42,39],rv undef,0⟩,⟨[43,39],rv undef,0⟩,⟨[39],rv undef,0⟩,⟨[39],rv undef,0⟩,⟨[45,46,39],rv undef,0⟩,⟨[47,39],rv undef,0⟩,⟨[48,39],rv undef,0⟩,⟨[44,49,39],rv undef,0⟩,⟨[39,50],rB true,0⟩] [67,0,1,12,13] ?_ ?_
       ·refine oq (Ap Aa) (oq (Ap Aa) (oq (Bh (enc:=Ae) (ys:=a) DK Cr Aa Aa hf) (oq (AJ CX Aa Cp Aa Aa) (oq (Bx EK Cp Aa Aa Aa) (oq (Ap Aa) (oq (Ap Aa) (oq (Bh (enc:=Ae) (ys:=b) DK Cr Aa Aa hg) (oq (AJ CX Aa Cp Aa Aa) (oq (Bx EK Cp Aa Aa Aa) (Cm Aa (λH=>D8 Tryz.call51 (H6 F ((Ad a ha).fOp) ((Ad b ha).fOp) (ov (Bz F ((Ad a ha).fOp) ((Ad b ha).fOp))) (Jt hi)) Aa) ?_))))))))));refine oq (BS Aa) (oq (Ap Aa) (on hb (oq (Ap Aa) (on hb (oq (Ap Aa) (on hb (oq (Bh (enc:=Ae) (ys:=a) DK Cr Aa Aa hf) (on hb (oq (AJ CX Aa BF Aa Aa) (on hb (oq (Bx DD BF Aa Aa Aa) (on hb (oq (Ap Aa) (on hb (oq (Ap Aa) (on hb (oq (Bh (enc:=Ae) (ys:=b) DK Cr Aa Aa hg) (on hb (oq (AJ CX Aa BF Aa Aa) (on hb (oq (Bx DD BF Aa Aa Aa) (Cm Aa (λH=>Ec (b:=!(ov (Bz F ((Ad a ha).fOp) ((Ad b ha).fOp)))) Aa Aa hb (D8 Tryz.call14 (Io F ((Ad a ha).fAnswer) ((Ad b ha).fAnswer) (ov (B2 F ((Ad a ha).fAnswer) ((Ad b ha).fAnswer))) (Jt (NW hl hb))) Aa)) ?_))))))))))))))))))))));refine on hb (oq (BS Aa) (oq (AC Aa hb Aa) (oq (Ap Aa) (oz hd (oz hd (oz hd (oz hd (oz hd (oz hd (oz hd (oz hd (oz hd (oz hd (oz hd (oq (A6 (b:=!(ov (B2 F ((Ad a ha).fAnswer) ((Ad b ha).fAnswer)))) Aa hd Aa) (oq (Ap Aa) (oz Aa (oz Aa (oz Aa (oz Aa (oz Aa (oz Aa (oz Aa ?_)))))))))))))))))))))));refine oz Aa (oz Aa (oz Aa (oz Aa (oq (A6 (b:=true) Aa Aa Aa) ?_))));exact CE
       exact Dq (And.intro hb hd)
      ·refine Be (!decide (((Ad a ha).fFrom)=((Ad b ha).fFrom))) (λhe=>?_) (λhe=>?_)
       ·refine Dl [0,1,5,12,13] [⟨[],AH 8 (Au Ae a),0⟩,⟨[],Ak ha,0⟩,⟨[0,1],Du [rS (((Ad a ha).fOp).fEntity),rS (((Ad a ha).fOp).fID),rS (((Ad a ha).fOp).fOp),AH 1 (Au Ah (((Ad a ha).fOp).fArgs)),Ak (((Ad a ha).fAnswer).fErr),AH 4 (Au Ac (((Ad a ha).fAnswer).fValue)),Ak ((Ad a ha).fFrom),Ak ((Ad a ha).fTo)],0⟩,⟨[2],Du [rS (((Ad a ha).fOp).fEntity),rS (((Ad a ha).fOp).fID),rS (((Ad a ha).fOp).fOp),AH 1 (Au Ah (((Ad a ha).fOp).fArgs)),Ak (((Ad a ha).fAnswer).fErr),AH 4 (Au Ac (((Ad a ha).fAnswer).fValue)),Ak ((Ad a ha).fFrom),Ak ((Ad a ha).fTo)],0⟩,⟨[3],Bb (Ao ((Ad a ha).fOp)),0⟩,⟨[],AH 8 (Au Ae b),0⟩,⟨[],Ak ha,0⟩,⟨[5,6],Du [rS (((Ad b ha).fOp).fEntity),rS (((Ad b ha).fOp).fID),rS (((Ad b ha).fOp).fOp),AH 1 (Au Ah (((Ad b ha).fOp).fArgs)),Ak (((Ad b ha).fAnswer).fErr),AH 4 (Au Ac (((Ad b ha).fAnswer).fValue)),Ak ((Ad b ha).fFrom),Ak ((Ad b ha).fTo)],0⟩,⟨[7],Du [rS (((Ad b ha).fOp).fEntity),rS (((Ad b ha).fOp).fID),rS (((Ad b ha).fOp).fOp),AH 1 (Au Ah (((Ad b ha).fOp).fArgs)),Ak (((Ad b ha).fAnswer).fErr),AH 4 (Au Ac (((Ad b ha).fAnswer).fValue)),Ak ((Ad b ha).fFrom),Ak ((Ad b ha).fTo)],0⟩,⟨[8],Bb (Ao ((Ad b ha).fOp)),0⟩,⟨[4,9],rB (ov (Bz F ((Ad a ha).fOp) ((Ad b ha).fOp))),0⟩,⟨[10],rB (!(ov (Bz F ((Ad a ha).fOp) ((Ad b ha).fOp)))),0⟩,⟨[11],rB (!(ov (Bz F ((Ad a ha).fOp) ((Ad b ha).fOp)))),0⟩,⟨[12],AH 8 (Au Ae a),0⟩,⟨[12],Ak ha,0⟩,⟨[13,14,12],Du [rS (((Ad a ha).fOp).fEntity),rS (((Ad a ha).fOp).fID),rS (((Ad a ha).fOp).fOp),AH 1 (Au Ah (((Ad a ha).fOp).fArgs)),Ak (((Ad a ha).fAnswer).fErr),AH 4 (Au Ac (((Ad a ha).fAnswer).fValue)),Ak ((Ad a ha).fFrom),Ak ((Ad a ha).fTo)],0⟩,⟨[15,12],Du [Ak (((Ad a ha).fAnswer).fErr),AH 4 (Au Ac (((Ad a ha).fAnswer).fValue)),Ak ((Ad a ha).fFrom),Ak ((Ad a ha).fTo)],0⟩,⟨[16,12],Bb (A2 ((Ad a ha).fAnswer)),0⟩,⟨[12],AH 8 (Au Ae b),0⟩,⟨[12],Ak ha,0⟩,⟨[18,19,12],Du [rS (((Ad b ha).fOp).fEntity),rS (((Ad b ha).fOp).fID),rS (((Ad b ha).fOp).fOp),AH 1 (Au Ah (((Ad b ha).fOp).fArgs)),Ak (((Ad b ha).fAnswer).fErr),AH 4 (Au Ac (((Ad b ha).fAnswer).fValue)),Ak ((Ad b ha).fFrom),Ak ((Ad b ha).fTo)],0⟩,⟨[20,12],Du [Ak (((Ad b ha).fAnswer).fErr),AH 4 (Au Ac (((Ad b ha).fAnswer).fValue)),Ak ((Ad b ha).fFrom),Ak ((Ad b ha).fTo)],0⟩,⟨[21,12],Bb (A2 ((Ad b ha).fAnswer)),0⟩,⟨[17,22,12],rB (ov (B2 F ((Ad a ha).fAnswer) ((Ad b ha).fAnswer))),0⟩,⟨[23,12],rB (!(ov (B2 F ((Ad a ha).fAnswer) ((Ad b ha).fAnswer)))),0⟩,⟨[12,24],rB (!(ov (B2 F ((Ad a ha).fAnswer) ((Ad b ha).fAnswer)))),0⟩,⟨[25],rB (!(ov (B2 F ((Ad a ha).fAnswer) ((Ad b ha).fAnswer)))),0⟩,⟨[26],AH 8 (Au Ae a),0⟩,⟨[26],Ak ha,0⟩,⟨[27,28,26],Du [rS (((Ad a ha).fOp).fEntity),rS (((Ad a ha).fOp).fID),rS (((Ad a ha).fOp).fOp),AH 1 (Au Ah (((Ad a ha).fOp).fArgs)),Ak (((Ad a ha).fAnswer).fErr),AH 4 (Au Ac (((Ad a ha).fAnswer).fValue)),Ak ((Ad a ha).fFrom),Ak ((Ad a ha).fTo)],0⟩,⟨[29,26],Du [Ak ((Ad a ha).fFrom),Ak ((Ad a ha).fTo)],0⟩,⟨[30,26],Ak ((Ad a ha).fFrom),0⟩,⟨[26],AH 8 (Au Ae b),0⟩,⟨[26],Ak ha,0⟩,⟨[32,33,26],Du [rS (((Ad b ha).fOp).fEntity),rS (((Ad b ha).fOp).fID),rS (((Ad b ha).fOp).fOp),AH 1 (Au Ah (((Ad b ha).fOp).fArgs)),Ak (((Ad b ha).fAnswer).fErr),AH 4 (Au Ac (((Ad b ha).fAnswer).fValue)),Ak ((Ad b ha).fFrom),Ak ((Ad b ha).fTo)],0⟩,⟨[34,26],Du [Ak ((Ad b ha).fFrom),Ak ((Ad b ha).fTo)],0⟩,⟨[35,26],Ak ((Ad b ha).fFrom),0⟩,⟨[31,36,26],rB (!decide (((Ad a ha).fFrom)=((Ad b ha).fFrom))),0⟩,⟨[26,37],rB (!decide (((Ad a ha).fFrom)=((Ad b ha).fFrom))),0⟩,⟨[38],rB (!decide (((Ad a ha).fFrom)=((Ad b ha).fFrom))),0⟩,⟨[39],rv undef,0⟩,⟨[39],rv undef,0⟩,⟨[40,41,39],rv undef,0⟩,⟨[42,39],rv undef,0⟩,⟨[43,39],rv undef,0⟩,⟨[39],rv undef,0⟩,⟨[39],rv undef,0⟩,⟨[45,46,39],rv undef,0⟩,⟨[47,39],rv undef,0⟩,⟨[48,39],rv undef,0⟩,⟨[44,49,39],rv undef,0⟩,⟨[39,50],rB true,0⟩] [67,0,1,12,13] ?_ ?_
        ·refine oq (Ap Aa) (oq (Ap Aa) (oq (Bh (enc:=Ae) (ys:=a) DK Cr Aa Aa hf) (oq (AJ CX Aa Cp Aa Aa) (oq (Bx EK Cp Aa Aa Aa) (oq (Ap Aa) (oq (Ap Aa) (oq (Bh (enc:=Ae) (ys:=b) DK Cr Aa Aa hg) (oq (AJ CX Aa Cp Aa Aa) (oq (Bx EK Cp Aa Aa Aa) (Cm Aa (λH=>D8 Tryz.call51 (H6 F ((Ad a ha).fOp) ((Ad b ha).fOp) (ov (Bz F ((Ad a ha).fOp) ((Ad b ha).fOp))) (Jt hi)) Aa) ?_))))))))));refine oq (BS Aa) (oq (Ap Aa) (on hb (oq (Ap Aa) (on hb (oq (Ap Aa) (on hb (oq (Bh (enc:=Ae) (ys:=a) DK Cr Aa Aa hf) (on hb (oq (AJ CX Aa BF Aa Aa) (on hb (oq (Bx DD BF Aa Aa Aa) (on hb (oq (Ap Aa) (on hb (oq (Ap Aa) (on hb (oq (Bh (enc:=Ae) (ys:=b) DK Cr Aa Aa hg) (on hb (oq (AJ CX Aa BF Aa Aa) (on hb (oq (Bx DD BF Aa Aa Aa) (Cm Aa (λH=>Ec (b:=!(ov (Bz F ((Ad a ha).fOp) ((Ad b ha).fOp)))) Aa Aa hb (D8 Tryz.call14 (Io F ((Ad a ha).fAnswer) ((Ad b ha).fAnswer) (ov (B2 F ((Ad a ha).fAnswer) ((Ad b ha).fAnswer))) (Jt (NW hl hb))) Aa)) ?_))))))))))))))))))))));refine on hb (oq (BS Aa) (oq (AC Aa hb Aa) (oq (Ap Aa) (on hd (oq (Ap Aa) (on hd (oq (Ap Aa) (on hd (oq (Bh (enc:=Ae) (ys:=a) DK Cr Aa Aa hf) (on hd (oq (AJ CX Aa C9 Aa Aa) (on hd (oq (Bj DY Aa Aa) (on hd (oq (Ap Aa) (on hd (oq (Ap Aa) (on hd (oq (Bh (enc:=Ae) (ys:=b) DK Cr Aa Aa hg) (on hd (oq (AJ CX Aa C9 Aa Aa) (on hd (oq (Bj DY Aa Aa) ?_)))))))))))))))))))))));refine on hd (oq (DP Aa Aa) (oq (AC Aa hd Aa) (oq (Ap Aa) (oz he (oz he (oz he (oz he (oz he (oz he (oz he (oz he (oz he (oz he (oz he (oq (A6 (b:=!decide (((Ad a ha).fFrom)=((Ad b ha).fFrom))) Aa he Aa) ?_)))))))))))))));exact CE
        exact Dq (And.intro hb (And.intro hd he))
       ·refine Dl [0,1,5,12,13] [⟨[],AH 8 (Au Ae a),0⟩,⟨[],Ak ha,0⟩,⟨[0,1],Du [rS (((Ad a ha).fOp).fEntity),rS (((Ad a ha).fOp).fID),rS (((Ad a ha).fOp).fOp),AH 1 (Au Ah (((Ad a ha).fOp).fArgs)),Ak (((Ad a ha).fAnswer).fErr),AH 4 (Au Ac (((Ad a ha).fAnswer).fValue)),Ak ((Ad a ha).fFrom),Ak ((Ad a ha).fTo)],0⟩,⟨[2],Du [rS (((Ad a ha).fOp).fEntity),rS (((Ad a ha).fOp).fID),rS (((Ad a ha).fOp).fOp),AH 1 (Au Ah (((Ad a ha).fOp).fArgs)),Ak (((Ad a ha).fAnswer).fErr),AH 4 (Au Ac (((Ad a ha).fAnswer).fValue)),Ak ((Ad a ha).fFrom),Ak ((Ad a ha).fTo)],0⟩,⟨[3],Bb (Ao ((Ad a ha).fOp)),0⟩,⟨[],AH 8 (Au Ae b),0⟩,⟨[],Ak ha,0⟩,⟨[5,6],Du [rS (((Ad b ha).fOp).fEntity),rS (((Ad b ha).fOp).fID),rS (((Ad b ha).fOp).fOp),AH 1 (Au Ah (((Ad b ha).fOp).fArgs)),Ak (((Ad b ha).fAnswer).fErr),AH 4 (Au Ac (((Ad b ha).fAnswer).fValue)),Ak ((Ad b ha).fFrom),Ak ((Ad b ha).fTo)],0⟩,⟨[7],Du [rS (((Ad b ha).fOp).fEntity),rS (((Ad b ha).fOp).fID),rS (((Ad b ha).fOp).fOp),AH 1 (Au Ah (((Ad b ha).fOp).fArgs)),Ak (((Ad b ha).fAnswer).fErr),AH 4 (Au Ac (((Ad b ha).fAnswer).fValue)),Ak ((Ad b ha).fFrom),Ak ((Ad b ha).fTo)],0⟩,⟨[8],Bb (Ao ((Ad b ha).fOp)),0⟩,⟨[4,9],rB (ov (Bz F ((Ad a ha).fOp) ((Ad b ha).fOp))),0⟩,⟨[10],rB (!(ov (Bz F ((Ad a ha).fOp) ((Ad b ha).fOp)))),0⟩,⟨[11],rB (!(ov (Bz F ((Ad a ha).fOp) ((Ad b ha).fOp)))),0⟩,⟨[12],AH 8 (Au Ae a),0⟩,⟨[12],Ak ha,0⟩,⟨[13,14,12],Du [rS (((Ad a ha).fOp).fEntity),rS (((Ad a ha).fOp).fID),rS (((Ad a ha).fOp).fOp),AH 1 (Au Ah (((Ad a ha).fOp).fArgs)),Ak (((Ad a ha).fAnswer).fErr),AH 4 (Au Ac (((Ad a ha).fAnswer).fValue)),Ak ((Ad a ha).fFrom),Ak ((Ad a ha).fTo)],0⟩,⟨[15,12],Du [Ak (((Ad a ha).fAnswer).fErr),AH 4 (Au Ac (((Ad a ha).fAnswer).fValue)),Ak ((Ad a ha).fFrom),Ak ((Ad a ha).fTo)],0⟩,⟨[16,12],Bb (A2 ((Ad a ha).fAnswer)),0⟩,⟨[12],AH 8 (Au Ae b),0⟩,⟨[12],Ak ha,0⟩,⟨[18,19,12],Du [rS (((Ad b ha).fOp).fEntity),rS (((Ad b ha).fOp).fID),rS (((Ad b ha).fOp).fOp),AH 1 (Au Ah (((Ad b ha).fOp).fArgs)),Ak (((Ad b ha).fAnswer).fErr),AH 4 (Au Ac (((Ad b ha).fAnswer).fValue)),Ak ((Ad b ha).fFrom),Ak ((Ad b ha).fTo)],0⟩,⟨[20,12],Du [Ak (((Ad b ha).fAnswer).fErr),AH 4 (Au Ac (((Ad b ha).fAnswer).fValue)),Ak ((Ad b ha).fFrom),Ak ((Ad b ha).fTo)],0⟩,⟨[21,12],Bb (A2 ((Ad b ha).fAnswer)),0⟩,⟨[17,22,12],rB (ov (B2 F ((Ad a ha).fAnswer) ((Ad b ha).fAnswer))),0⟩,⟨[23,12],rB (!(ov (B2 F ((Ad a ha).fAnswer) ((Ad b ha).fAnswer)))),0⟩,⟨[12,24],rB (!(ov (B2 F ((Ad a ha).fAnswer) ((Ad b ha).fAnswer)))),0⟩,⟨[25],rB (!(ov (B2 F ((Ad a ha).fAnswer) ((Ad b ha).fAnswer)))),0⟩,⟨[26],AH 8 (Au Ae a),0⟩,⟨[26],Ak ha,0⟩,⟨[27,28,26],Du [rS (((Ad a ha).fOp).fEntity),rS (((Ad a ha).fOp).fID),rS (((Ad a ha).fOp).fOp),AH 1 (Au Ah (((Ad a ha).fOp).fArgs)),Ak (((Ad a ha).fAnswer).fErr),AH 4 (Au Ac (((Ad a ha).fAnswer).fValue)),Ak ((Ad a ha).fFrom),Ak ((Ad a ha).fTo)],0⟩,⟨[29,26],Du [Ak ((Ad a ha).fFrom),Ak ((Ad a ha).fTo)],0⟩,⟨[30,26],Ak ((Ad a ha).fFrom),0⟩,⟨[26],AH 8 (Au Ae b),0⟩,⟨[26],Ak ha,0⟩,⟨[32,33,26],Du [rS (((Ad b ha).fOp).fEntity),rS (((Ad b ha).fOp).fID),rS (((Ad b ha).fOp).fOp),AH 1 (Au Ah (((Ad b ha).fOp).fArgs)),Ak (((Ad b ha).fAnswer).fErr),AH 4 (Au Ac (((Ad b ha).fAnswer).fValue)),Ak ((Ad b ha).fFrom),Ak ((Ad b ha).fTo)],0⟩,⟨[34,26],Du [Ak ((Ad b ha).fFrom),Ak ((Ad b ha).fTo)],0⟩,⟨[35,26],Ak ((Ad b ha).fFrom),0⟩,⟨[31,36,26],rB (!decide (((Ad a ha).fFrom)=((Ad b ha).fFrom))),0⟩,⟨[26,37],rB (!decide (((Ad a ha).fFrom)=((Ad b ha).fFrom))),0⟩,⟨[38],rB (!decide (((Ad a ha).fFrom)=((Ad b ha).fFrom))),0⟩,⟨[39],AH 8 (Au Ae a),0⟩,⟨[39],Ak ha,0⟩,⟨[40,41,39],Du [rS (((Ad a ha).fOp).fEntity),rS (((Ad a ha).fOp).fID),rS (((Ad a ha).fOp).fOp),AH 1 (Au Ah (((Ad a ha).fOp).fArgs)),Ak (((Ad a ha).fAnswer).fErr),AH 4 (Au Ac (((Ad a ha).fAnswer).fValue)),Ak ((Ad a ha).fFrom),Ak ((Ad a ha).fTo)],0⟩,⟨[42,39],Du [Ak ((Ad a ha).fTo)],0⟩,⟨[43,39],Ak ((Ad a ha).fTo),0⟩,⟨[39],AH 8 (Au Ae b),0⟩,⟨[39],Ak ha,0⟩,⟨[45,46,39],Du [rS (((Ad b ha).fOp).fEntity),rS (((Ad b ha).fOp).fID),rS (((Ad b ha).fOp).fOp),AH 1 (Au Ah (((Ad b ha).fOp).fArgs)),Ak (((Ad b ha).fAnswer).fErr),AH 4 (Au Ac (((Ad b ha).fAnswer).fValue)),Ak ((Ad b ha).fFrom),Ak ((Ad b ha).fTo)],0⟩,⟨[47,39],Du [Ak ((Ad b ha).fTo)],0⟩,⟨[48,39],Ak ((Ad b ha).fTo),0⟩,⟨[44,49,39],rB (!decide (((Ad a ha).fTo)=((Ad b ha).fTo))),0⟩,⟨[39,50],rB (!decide (((Ad a ha).fTo)=((Ad b ha).fTo))),0⟩] [67,0,1,12,13] ?_ ?_
        ·refine oq (Ap Aa) (oq (Ap Aa) (oq (Bh (enc:=Ae) (ys:=a) DK Cr Aa Aa hf) (oq (AJ CX Aa Cp Aa Aa) (oq (Bx EK Cp Aa Aa Aa) (oq (Ap Aa) (oq (Ap Aa) (oq (Bh (enc:=Ae) (ys:=b) DK Cr Aa Aa hg) (oq (AJ CX Aa Cp Aa Aa) (oq (Bx EK Cp Aa Aa Aa) (Cm Aa (λH=>D8 Tryz.call51 (H6 F ((Ad a ha).fOp) ((Ad b ha).fOp) (ov (Bz F ((Ad a ha).fOp) ((Ad b ha).fOp))) (Jt hi)) Aa) ?_))))))))));refine oq (BS Aa) (oq (Ap Aa) (on hb (oq (Ap Aa) (on hb (oq (Ap Aa) (on hb (oq (Bh (enc:=Ae) (ys:=a) DK Cr Aa Aa hf) (on hb (oq (AJ CX Aa BF Aa Aa) (on hb (oq (Bx DD BF Aa Aa Aa) (on hb (oq (Ap Aa) (on hb (oq (Ap Aa) (on hb (oq (Bh (enc:=Ae) (ys:=b) DK Cr Aa Aa hg) (on hb (oq (AJ CX Aa BF Aa Aa) (on hb (oq (Bx DD BF Aa Aa Aa) (Cm Aa (λH=>Ec (b:=!(ov (Bz F ((Ad a ha).fOp) ((Ad b ha).fOp)))) Aa Aa hb (D8 Tryz.call14 (Io F ((Ad a ha).fAnswer) ((Ad b ha).fAnswer) (ov (B2 F ((Ad a ha).fAnswer) ((Ad b ha).fAnswer))) (Jt (NW hl hb))) Aa)) ?_))))))))))))))))))))));refine on hb (oq (BS Aa) (oq (AC Aa hb Aa) (oq (Ap Aa) (on hd (oq (Ap Aa) (on hd (oq (Ap Aa) (on hd (oq (Bh (enc:=Ae) (ys:=a) DK Cr Aa Aa hf) (on hd (oq (AJ CX Aa C9 Aa Aa) (on hd (oq (Bj DY Aa Aa) (on hd (oq (Ap Aa) (on hd (oq (Ap Aa) (on hd (oq (Bh (enc:=Ae) (ys:=b) DK Cr Aa Aa hg) (on hd (oq (AJ CX Aa C9 Aa Aa) (on hd (oq (Bj DY Aa Aa) ?_)))))))))))))))))))))));refine on hd (oq (DP Aa Aa) (oq (AC Aa hd Aa) (oq (Ap Aa) (on he (oq (Ap Aa) (on he (oq (Ap Aa) (on he (oq (Bh (enc:=Ae) (ys:=a) DK Cr Aa Aa hf) (on he (oq (AJ CX Aa C9 Aa Aa) (on he (oq (Bj DY Aa Aa) (on he (oq (Ap Aa) (on he (oq (Ap Aa) (on he (oq (Bh (enc:=Ae) (ys:=b) DK Cr Aa Aa hg) (on he (oq (AJ CX Aa C9 Aa Aa) (on he (oq (Bj DY Aa Aa) ?_)))))))))))))))))))))));refine on he (oq (DP Aa Aa) (oq (AC Aa he Aa) ?_));exact CE
        exact Dq (And.intro hb (And.intro hd he))
    refine cz hy Aa (λhz h0=>?_) (λhz h1=>?_)
    ·refine As (wa Aa (A3 (A8 (AQ (An (An (B5 ?_)))))));have h4:=Cl h0 hk hm;refine AQ (An ?_);obtain rfl:=A9 h4;exact A7 (Cd Tryz.results24 (AX Aa)) sN ⟨Aa,Aa⟩
    ·refine AG (Bi (Bf (AD (ck h1 λh5 h6=>wv (Cy Aa Aa h5) (wm Aa (A5 ?_))))));have h7:=BO h6 hk;exact AL (AW (hq,ha+1,()) ⟨h7,Vy _⟩ (AZ.c Aa (AZ.c Aa (AZ.c Aa (AZ.c Aa AZ.nil)))) sN)
   ·refine BM (AI ?_);have h8:=CC ht hk hm;exact AI (B1 (AW ((),()) h8 AZ.nil sN))
  ·rintro⟨⟨⟩,⟨⟩⟩ hj;refine DE (l':=[]) (H':=[]) Aa Aa ?_;replace hj:HM =some r:=hj;unfold HM at hj;refine Bw (Bf (As (wa Aa (A3 (A8 ?_)))));obtain rfl:=A9 hj;exact A7 (Cd Tryz.results24 (AX Aa)) sN ⟨Aa,Aa⟩
end Go.Proofs.YtfbmdidnlhifjaaGreatDoor.Q
namespace Go.Proofs.YtfbmdidnlhifjaaGreatDoor
open Go
def KU {T:Type}(xs:List (Am×T)):Bool:=decide (xs.length*16≤140737488355328)&&xs.all λp=>Sz p.1
def JO {T:Type}(xs:List (Am×T)):List Am:=(xs.map (·.1)).mergeSort λx y=>decide (x≤y)
end Go.Proofs.YtfbmdidnlhifjaaGreatDoor
namespace Go.Proofs.YtfbmdidnlhifjaaGreatDoor.Q
open Go Go.RowKit Go.ChangeMaps
set_option linter.unusedVariables false
set_option linter.unusedSimpArgs false
def RU:Value→Option (DataW Unit×List MemPlace):=λ_=>some (.nil,[])
theorem TI {P:Program}{k:TypeId}(hkt:P.underlying k=some .string){e:MapEntry}{s:Am}(he:e.key = .string (B s))(hs:s.length≤maxLen):WideElems.rd P k RU e=some (.string s,.nil):=by
 obtain⟨key,val,born⟩:=e;simp only at he;subst he;exact WideElems.rd_mk (yv:=(.nil,[])) (by simp[keyOf,hkt,mapKey,B];exact hs) rfl
theorem Iy.rgs {P:Program}{k:TypeId}(hkt:P.underlying k=some .string){Z:Fz}:∀{f:List (Am×Rp)} {es:List MapEntry},Iy Z f es→(∀p∈f,p.1.length≤maxLen)→es.map (WideElems.rg P k RU)=f.map (λp=>(Lit.string p.1,(.nil:DataW Unit)))∧(∀x∈es,∃y,WideElems.rd P k RU x=some y)∧es.map (·.key)=f.map λp=>Value.string (B p.1)
 | [],[],_,_=>⟨rfl,(λ_ h=>by cases h),rfl⟩
 | p::f,e::es,⟨⟨h1,_⟩,h2⟩,hk=>by
  obtain⟨a1,a2,a3⟩:=Iy.rgs hkt h2 λq hq=>hk q (List.mem_cons_of_mem _ hq);have hr:=TI hkt h1 (hk p (List.mem_cons_self ..));refine⟨?_,λx hx=>?_,?_⟩
  ·rw[VC,VC,a1,WideElems.rg_of hr]
  ·rcases List.mem_cons.1 hx with rfl | hx
   ·exact⟨_,hr⟩
   ·exact a2 x hx
  ·rw[VC,VC,a3,h1]
theorem SO {P:Program}{k:TypeId}(hkt:P.underlying k=some .string){w:World}{Z:Fz}{b:Nat}{m:List (Am×Rp)}{es:Array MapEntry}{ck:Nat}(hb:w.heap[b]? =some (.map es ck))(hm:Eg Z m es.toList ck)(hk:∀p∈m,p.1.length≤maxLen)(hsz:m.length≤maxLen) :
  ∃D0:DataW Unit,w.ownsMap P k RU b es.size D0∧(strKeys D0).Perm (m.map (·.1))∧Maps.size D0=m.length:=by
 obtain⟨h1,h2,h3,f,h4,h5⟩:=hm;obtain⟨a1,a2,a3⟩:=Iy.rgs hkt h5 λp hp=>hk p (h4.subset hp);have hlen:es.size=m.length:=by
  have e:=congrArg List.length a3;simp only[Vr,Array.length_toList] at e;rw[e];exact h4.length_eq
 have hkey:es.toList.Pairwise (λx y=>x.key≠y.key):=by
  have e:(es.toList.map (·.key)).Nodup:=by
   rw[a3];have hf:(f.map (·.1)).Nodup:=(h4.map _).nodup_iff.2 h1;have:f.map (λp=>Value.string (B p.1))=(f.map (·.1)).map λs=>Value.string (B s):=by rw[VV];rfl
   rw[this];refine List.Pairwise.map _ (λx y hxy e=>hxy ?_) hf;simp[B] at e;exact e
  exact List.pairwise_map.1 e
 refine⟨.map ((es.toList.map (WideElems.rg P k RU)).foldr DataW.insert []),⟨es,ck,hb,⟨by rw[hlen];exact hsz,(MapKept.stamped_iff es ck).2 ⟨h3,h2,hkey⟩,a2⟩,Vs _,rfl⟩,?_,?_⟩
 ·show(((es.toList.map (WideElems.rg P k RU)).foldr DataW.insert []).map λp=>strOf p.1).Perm _;rw[a1];refine((WideShapes.sorted_perm _).map _).trans ?_;rw[VV];exact h4.map _
 ·show((es.toList.map (WideElems.rg P k RU)).foldr DataW.insert []).length=_;rw[length_sorted,Vr,Array.length_toList,hlen]
theorem O7 {w:World}{a b:Nat}{e:TypeId}{sz n:Nat}{v:Value}{us:List Value}(h:w.ownsRow a e sz v n us)(hb:b≤a):w.ownsRow b e sz v n us:=by
 refine⟨h.1,?_⟩;rcases h.2 with hn | ⟨g,cap,cur,rfl,hg,rest⟩
 ·exact .inl hn
 ·exact .inr ⟨g,cap,cur,rfl,Nat.le_trans hb hg,rest⟩
theorem N6 {w:World}{a:Nat}{e:TypeId}{sz n:Nat}{v:Value}{us:List Value}(h:w.ownsRow a e sz v n us):∀k∈v.ownBlock.toList,a≤k:=by
 rcases h.2 with⟨rfl,_⟩ | ⟨g,cap,cur,rfl,hg,rest⟩
 ·intro k hk;simp[Value.ownBlock] at hk
 ·intro k hk;simp[Value.ownBlock] at hk;omega
theorem St.newrow {c:Cx}{H:List Ent}{Z:Fz}{w w':World}(h:St c H Z w)(hb:Below w.heap.size w w'){v:Value}{e:TypeId}{ys:List Am}(hr:w'.ownsRow w.heap.size e 1 v ys.length (ys.map Go.Proofs.encStr)):St c (.row v e 1 (ys.map eS)::H) Z w':=by
 refine h.add hb.os hb.tape hb.output hb.size (λk hk=>hb.block k hk) ⟨λc hc=>?_,ys.map Go.Proofs.encStr,?_,?_⟩ (λk hk=>N6 hr k hk)
 ·obtain⟨y,_,rfl⟩:=List.mem_map.1 hc;rfl
 ·rw[Vr];exact O7 hr (V7 _)
 ·clear hr
  induction ys with
  | nil=>exact trivial
  | cons y r ih=>exact⟨by show Go.Proofs.encStr y=Value.string (B y);rfl,ih⟩
end Go.Proofs.YtfbmdidnlhifjaaGreatDoor.Q
namespace Go.Proofs.YtfbmdidnlhifjaaGreatDoor
open Go
set_option linter.unusedVariables false
structure Aq where
 fNow:Int
 fEntities:(List (Am×Int))
 fCalls:(List (Am×Int))
 deriving DecidableEq,Inhabited
structure Ai where
 fState:(List Ab)
 fCalls:(List Int)
 fDone:Int
 deriving DecidableEq,Inhabited
def R8 :Option ((Aq×(List Ai)×(List Aj))):=
 some ((Aq.mk 0 ([]:List (Am×Int)) ([]:List (Am×Int))),([]:List Ai),([]:List Aj))
def T4 (d:Aq):Option (Bool):=
 some true
def Cg (F:Nat)(d:Aq)(d_p1:(List Ai))(d_p2:(List Aj))(op:At)(now:Int):Option (Int×Aq×(List Ai)×(List Aj)):=
 Bo (J0 F op) λr2=>Bg (!decide (r2=0)) (some (r2,d,d_p1,d_p2)) (Bg (((decide (now<0))||(decide (1073741824<now)))) (some (2,d,d_p1,d_p2)) (Bg (decide (now<d.fNow)) (some (11,d,d_p1,d_p2)) (Bg (Bu d.fCalls op.fID) (Bd (decide (0≤(Ay d.fCalls op.fID (-1))))<|Bd (BL (Ay d.fCalls op.fID (-1)) (d_p2.length:Int))<|Bo (NI F ((Ad d_p2 (Ay d.fCalls op.fID (-1))).fOp) op) λhb=>Bg (!hb) (some (19,d,d_p1,d_p2)) (some (0,(Aq.mk now d.fEntities d.fCalls),d_p1,d_p2))) (Bg (((decide ((d.fCalls.length:Int)=256))||((!(Bu d.fEntities op.fEntity))&&(decide ((d.fEntities.length:Int)=256))))) (some (3,d,d_p1,d_p2)) (Bg (!(Bu d.fEntities op.fEntity)) (Bo (LA) λha=>Bo (Im F op) λhd=>Bd (BL (d_p1.length:Int) ((d_p1++[(Ai.mk ha ([]:List Int) 0)]).length:Int))<|Bd (L4 8 (((Ad (d_p1++[(Ai.mk ha ([]:List Int) 0)]) (d_p1.length:Int)).fCalls).length+([(d_p2.length:Int)]:List Int).length))<|some (0,(Aq.mk now (mset d.fEntities op.fEntity (d_p1.length:Int)) (mset d.fCalls op.fID (d_p2.length:Int))),List.set (d_p1++[(Ai.mk ha ([]:List Int) 0)]) (Int.toNat (d_p1.length:Int)) (Ai.mk ((Ad (d_p1++[(Ai.mk ha ([]:List Int) 0)]) (d_p1.length:Int)).fState) (((Ad (d_p1++[(Ai.mk ha ([]:List Int) 0)]) (d_p1.length:Int)).fCalls)++([(d_p2.length:Int)]:List Int)) ((Ad (d_p1++[(Ai.mk ha ([]:List Int) 0)]) (d_p1.length:Int)).fDone)),d_p2++[(Aj.mk hd (A0.mk 0 ([]:List Ab)) now (-1))])) (Bo (Im F op) λhe=>Bd (BL (Ay d.fEntities op.fEntity (-1)) (d_p1.length:Int))<|Bd (L4 8 (((Ad d_p1 (Ay d.fEntities op.fEntity (-1))).fCalls).length+([(d_p2.length:Int)]:List Int).length))<|some (0,(Aq.mk now d.fEntities (mset d.fCalls op.fID (d_p2.length:Int))),List.set d_p1 (Int.toNat (Ay d.fEntities op.fEntity (-1))) (Ai.mk ((Ad d_p1 (Ay d.fEntities op.fEntity (-1))).fState) (((Ad d_p1 (Ay d.fEntities op.fEntity (-1))).fCalls)++([(d_p2.length:Int)]:List Int)) ((Ad d_p1 (Ay d.fEntities op.fEntity (-1))).fDone)),d_p2++[(Aj.mk he (A0.mk 0 ([]:List Ab)) now (-1))])))))))
def CO (F:Nat)(d:Aq)(d_p1:(List Ai))(d_p2:(List Aj))(e:Am)(now:Int)(x5:Bool):Option (Aj×Bool×Aq×(List Ai)×(List Aj)):=
 Bg (x5) (some ((Aj.mk (At.mk ([]:Am) ([]:Am) ([]:Am) ([]:List (List Ab))) (A0.mk 0 ([]:List Ab)) 0 0),false,d,d_p1,d_p2)) (Bg (Bu d.fEntities e) (Bd (BL (Ay d.fEntities e (-1)) (d_p1.length:Int))<|Bg (decide (((Ad d_p1 (Ay d.fEntities e (-1))).fDone)=(((Ad d_p1 (Ay d.fEntities e (-1))).fCalls).length:Int))) (some ((Aj.mk (At.mk ([]:Am) ([]:Am) ([]:Am) ([]:List (List Ab))) (A0.mk 0 ([]:List Ab)) 0 0),false,d,d_p1,d_p2)) (Bd (BL ((Ad d_p1 (Ay d.fEntities e (-1))).fDone) (((Ad d_p1 (Ay d.fEntities e (-1))).fCalls).length:Int))<|Bd (decide (0≤(Ad ((Ad d_p1 (Ay d.fEntities e (-1))).fCalls) ((Ad d_p1 (Ay d.fEntities e (-1))).fDone))))<|Bd (BL (Ad ((Ad d_p1 (Ay d.fEntities e (-1))).fCalls) ((Ad d_p1 (Ay d.fEntities e (-1))).fDone)) (d_p2.length:Int))<|Bo (Uq F ((Ad d_p1 (Ay d.fEntities e (-1))).fState) ((Ad d_p2 (Ad ((Ad d_p1 (Ay d.fEntities e (-1))).fCalls) ((Ad d_p1 (Ay d.fEntities e (-1))).fDone))).fOp)) λhd=>Bg (!decide (hd.2.2=0)) (some ((Aj.mk (At.mk ([]:Am) ([]:Am) ([]:Am) ([]:List (List Ab))) (A0.mk 0 ([]:List Ab)) 0 0),false,d,d_p1,d_p2)) (Bd (BE .i64 (((Ad d_p1 (Ay d.fEntities e (-1))).fDone)+1))<|Oj (List.set d_p2 (Int.toNat (Ad ((Ad d_p1 (Ay d.fEntities e (-1))).fCalls) ((Ad d_p1 (Ay d.fEntities e (-1))).fDone))) (Aj.mk ((Ad d_p2 (Ad ((Ad d_p1 (Ay d.fEntities e (-1))).fCalls) ((Ad d_p1 (Ay d.fEntities e (-1))).fDone))).fOp) hd.2.1 ((Ad d_p2 (Ad ((Ad d_p1 (Ay d.fEntities e (-1))).fCalls) ((Ad d_p1 (Ay d.fEntities e (-1))).fDone))).fFrom) ((Ad d_p2 (Ad ((Ad d_p1 (Ay d.fEntities e (-1))).fCalls) ((Ad d_p1 (Ay d.fEntities e (-1))).fDone))).fTo))) λhb=>Bd (BL (Ad ((Ad d_p1 (Ay d.fEntities e (-1))).fCalls) ((Ad d_p1 (Ay d.fEntities e (-1))).fDone)) (hb.length:Int))<|Oj (List.set hb (Int.toNat (Ad ((Ad d_p1 (Ay d.fEntities e (-1))).fCalls) ((Ad d_p1 (Ay d.fEntities e (-1))).fDone))) (Aj.mk ((Ad hb (Ad ((Ad d_p1 (Ay d.fEntities e (-1))).fCalls) ((Ad d_p1 (Ay d.fEntities e (-1))).fDone))).fOp) ((Ad hb (Ad ((Ad d_p1 (Ay d.fEntities e (-1))).fCalls) ((Ad d_p1 (Ay d.fEntities e (-1))).fDone))).fAnswer) ((Ad hb (Ad ((Ad d_p1 (Ay d.fEntities e (-1))).fCalls) ((Ad d_p1 (Ay d.fEntities e (-1))).fDone))).fFrom) now)) λha=>Bd (BL (Ad ((Ad d_p1 (Ay d.fEntities e (-1))).fCalls) ((Ad d_p1 (Ay d.fEntities e (-1))).fDone)) (ha.length:Int))<|Bo (Eo F (Aj.mk ((Ad ha (Ad ((Ad d_p1 (Ay d.fEntities e (-1))).fCalls) ((Ad d_p1 (Ay d.fEntities e (-1))).fDone))).fOp) ((Ad ha (Ad ((Ad d_p1 (Ay d.fEntities e (-1))).fCalls) ((Ad d_p1 (Ay d.fEntities e (-1))).fDone))).fAnswer) ((Ad ha (Ad ((Ad d_p1 (Ay d.fEntities e (-1))).fCalls) ((Ad d_p1 (Ay d.fEntities e (-1))).fDone))).fFrom) ((Ad ha (Ad ((Ad d_p1 (Ay d.fEntities e (-1))).fCalls) ((Ad d_p1 (Ay d.fEntities e (-1))).fDone))).fTo))) λhe=>some (he,true,(Aq.mk now d.fEntities d.fCalls),List.set d_p1 (Int.toNat (Ay d.fEntities e (-1))) (Ai.mk hd.1 ((Ad d_p1 (Ay d.fEntities e (-1))).fCalls) (((Ad d_p1 (Ay d.fEntities e (-1))).fDone)+1)),ha)))) (some ((Aj.mk (At.mk ([]:Am) ([]:Am) ([]:Am) ([]:List (List Ab))) (A0.mk 0 ([]:List Ab)) 0 0),false,d,d_p1,d_p2)))
def ET (F:Nat)(d:Aq)(d_p1:(List Ai))(d_p2:(List Aj))(e:Am)(now:Int):Option (Aj×Bool×Aq×(List Ai)×(List Aj)):=
 Bg (decide (now<d.fNow)) (CO F d d_p1 d_p2 e now true) (CO F d d_p1 d_p2 e now (decide (1073741824<now)))
def GA (d:Aq)(d_p1:(List Ai))(d_p2:(List Aj))(e:Am):Option ((List Ab)):=
 Bg (Bu d.fEntities e) (Bd (BL (Ay d.fEntities e (-1)) (d_p1.length:Int))<|Bo (Cw ((Ad d_p1 (Ay d.fEntities e (-1))).fState)) λr7=>some r7) (Bo (LA) λha=>some ha)
def D1 (F:Nat)(d:Aq)(d_p1:(List Ai))(d_p2:(List Aj))(e:Am)(hb:(List Aj))(ha:Int):Option (Stp ((List Aj)×Int) (Out ((List Aj)) ((List Aj)))):=
 Bg (decide (ha<(((Ad d_p1 (Ay d.fEntities e (-1))).fCalls).length:Int))) (Bd (BL ha (((Ad d_p1 (Ay d.fEntities e (-1))).fCalls).length:Int))<|Bd (decide (0≤(Ad ((Ad d_p1 (Ay d.fEntities e (-1))).fCalls) ha)))<|Bd (BL (Ad ((Ad d_p1 (Ay d.fEntities e (-1))).fCalls) ha) (d_p2.length:Int))<|Bo (Eo F (Aj.mk ((Ad d_p2 (Ad ((Ad d_p1 (Ay d.fEntities e (-1))).fCalls) ha)).fOp) ((Ad d_p2 (Ad ((Ad d_p1 (Ay d.fEntities e (-1))).fCalls) ha)).fAnswer) ((Ad d_p2 (Ad ((Ad d_p1 (Ay d.fEntities e (-1))).fCalls) ha)).fFrom) ((Ad d_p2 (Ad ((Ad d_p1 (Ay d.fEntities e (-1))).fCalls) ha)).fTo))) λhd=>Bd (L4 120 (hb.length+([hd]:List Aj).length))<|Bd (BE .i64 (ha+1))<|some (.next (hb++([hd]:List Aj),ha+1))) (some (.out (.go hb)))
def HG (ha:(List Aj)):Option ((List Aj)):=
 some ha
def GC (F:Nat)(d:Aq)(d_p1:(List Ai))(d_p2:(List Aj))(e:Am):Option ((List Aj)):=
 Bg (!(Bu d.fEntities e)) (some ([]:List Aj)) (Bd (BL (Ay d.fEntities e (-1)) (d_p1.length:Int))<|Bo (BI (λσ=>D1 F d d_p1 d_p2 e σ.1 σ.2) F (([]:List Aj),0)) (BD λν=>HG ν))
def Dx (ha:Int)(hb:(List Am)):Option (Stp ((List Am)×Int) (Out ((List Am)) ((List Am)))):=
 Bd (BE .i64 (ha+1))<|some (.next (hb,ha+1))
def Cz (r1:(List Aj))(hb:(List Am))(ha:Int):Option (Stp ((List Am)×Int) (Out ((List Am)) ((List Am)))):=
 Bg (decide (ha<(r1.length:Int))) (Bd (BL ha (r1.length:Int))<|Bg (decide (((Ad r1 ha).fTo)=(-1))) (Bd (L4 16 (hb.length+([((Ad r1 ha).fOp).fID]:List Am).length))<|Dx ha (hb++([((Ad r1 ha).fOp).fID]:List Am))) (Dx ha hb)) (some (.out (.go hb)))
def ES (ha:(List Am)):Option ((List Am)):=
 some ha
def D9 (F:Nat)(d:Aq)(d_p1:(List Ai))(d_p2:(List Aj))(e:Am):Option ((List Am)):=
 Bo (GC F d d_p1 d_p2 e) λr1=>Bo (BI (λσ=>Cz r1 σ.1 σ.2) F (([]:List Am),0)) (BD λν=>ES ν)
def GB (d:Aq)(d_p1:(List Ai))(d_p2:(List Aj)):Option ((List Am)):=
 Bd (KU d.fEntities)<|some (JO d.fEntities)
end Go.Proofs.YtfbmdidnlhifjaaGreatDoor
namespace Go.Proofs.YtfbmdidnlhifjaaGreatDoor.Q
open Go Go.RowKit
set_option linter.unusedVariables false
set_option linter.unusedSimpArgs false
set_option linter.unusedSectionVars false
section
variable {P : Program} {n : Nat} {c : Cx} {ops : Array Oper} {Q : Exit → Act → World → Prop} {rest : List Oper} {l : Fr} {H H' Hr : List Ent} {d k b rz : Nat} {ty t e re : TypeId} {pos : String} {af : Array Edge} {pv r : Value} {cs : List Rp} {ys : List (List Rp)} {K : Act → World → Prop} {cx : Code}
theorem Oa {ps:List (Nat×Value)}{i:Nat}{p:Nat×Value}(h:ps[i]? =some p):(LT ps).Perm ((p.1::p.2.ownBlock.toList)++LT (ps.eraseIdx i)):=by
 have:ps.Perm (p::ps.eraseIdx i):=by
  induction ps generalizing i with
  | nil=>cases h
  | cons x r ih=>
   cases i with
   | zero=>simp at h;subst h;exact Vh _
   | succ i=>
    simp at h;exact((ih h).cons x).trans (List.Perm.swap p x _)
 exact this.flatMap_right _
theorem Ti {ps:List (Nat×Value)}{i:Nat}{p q:Nat×Value}(h:ps[i]? =some p):(LT (ps.set i q)).Perm ((q.1::q.2.ownBlock.toList)++LT (ps.eraseIdx i)):=by
 have hi:=(List.getElem?_eq_some_iff.1 h).1;have h1:=Oa (ps:=ps.set i q) (i:=i) (p:=q) (by simp[hi]);have h2:(ps.set i q).eraseIdx i=ps.eraseIdx i:=by
  refine List.ext_getElem? λj=>?_;rw[List.getElem?_eraseIdx,List.getElem?_eraseIdx]
  split
  ·rw[List.getElem?_set_ne (by omega)]
  ·rw[List.getElem?_set_ne (by omega)]
 rw[h2] at h1;exact h1
theorem PB (ps:List (Nat×Value))(q:Nat×Value):LT (ps++[q])=LT ps++(q.1::q.2.ownBlock.toList):=by
 unfold LT;rw[List.flatMap_append];simp
section
variable {Z : Fz} {w : World} {xs : List ((Value → List Rp) × List (List Rp))}
theorem St.takeout (h:St c (.poolw k pv e re rz xs none::Hr) Z w){i:Nat}(hi:i<xs.length) :
  ∃b r,Z.nm k i=some b∧St c (.blk b (xs[i].1 r) e::.row r re rz xs[i].2::.poolw k pv e re rz xs (some (i,(b,r)))::Hr) Z w:=by
 obtain⟨hl,hn,hm,_,hx⟩:=h.has (.poolw k pv e re rz xs none) (by simp);have hp:(CZ pv)[i]? =some (CZ pv)[i]:=Vi (by omega);generalize(CZ pv)[i]=p at hp;obtain⟨b,r⟩:=p;have hperm:=Oa hp;have hnd:=hperm.nodup hn;have hd:=List.pairwise_cons.1 h.dis;have gd:=List.pairwise_cons.1 h.gst.dis;obtain⟨⟨us,h1,h2⟩,h3,vs,h4,h5⟩:=hx i (b,r) xs[i] hp (Vi hi) (λo ho=>by cases ho);rw[List.nodup_append] at hnd;have hin:∀q,q∈(b::r.ownBlock.toList)∨q∈LT ((CZ pv).eraseIdx i)→q∈(Ent.poolw k pv e re rz xs none).foot:=λq hq=>hperm.symm.subset (List.mem_append.2 hq);have fb:∀q∈(Ent.blk b (xs[i].1 r) e).foot,q∈(Ent.poolw k pv e re rz xs none).foot:=λq hq=>hin q (.inl (by simp[Ent.foot] at hq;simp[hq]));have fr:∀q∈(Ent.row r re rz xs[i].2).foot,q∈(Ent.poolw k pv e re rz xs none).foot:=λq hq=>hin q (.inl (List.mem_cons_of_mem _ hq));have fo:∀q∈(Ent.poolw k pv e re rz xs (some (i,(b,r)))).foot,q∈(Ent.poolw k pv e re rz xs none).foot:=λq hq=>hin q (.inr hq);have hmem:∀en∈(.blk b (xs[i].1 r) e::.row r re rz xs[i].2::.poolw k pv e re rz xs (some (i,(b,r)))::Hr:List Ent),(∀q∈en.foot,q∈(Ent.poolw k pv e re rz xs none).foot)∨en∈Hr:=λen he=>by
  simp only[VG] at he;rcases he with rfl | rfl | rfl | he
  ·exact .inl fb
  ·exact .inl fr
  ·exact .inl fo
  ·exact .inr he
 have hgk:∀en∈(.blk b (xs[i].1 r) e::.row r re rz xs[i].2::.poolw k pv e re rz xs (some (i,(b,r)))::Hr:List Ent),∀q∈en.gk,∃en'∈(.poolw k pv e re rz xs none::Hr:List Ent),q∈en'.gk∧en'.gn=en.gn:=λen he q hq=>by
  simp only[VG] at he;rcases he with rfl | rfl | rfl | he
  ·cases hq
  ·cases hq
  ·exact⟨_,List.mem_cons_self ..,hq,rfl⟩
  ·exact⟨en,List.mem_cons_of_mem _ he,hq,rfl⟩
 refine⟨b,r,hm i _ hp,{ h with has:=λen he=>?_,own:=λen he q hq=>?_,dis:=?_,zdis:=λen he q hq=>?_,gst:=⟨λen he q hq=>?_,λen he q hq=>?_,?_,h.gst.new,λen he q hq j hj=>?_⟩ }⟩
 ·simp only[VG] at he;rcases he with rfl | rfl | rfl | he
  ·exact⟨us,h1,h2⟩
  ·exact⟨h3,vs,h4,h5⟩
  ·exact⟨hl,hnd.2.1,hm,λo ho=>by cases ho;exact hp,λj p x hj hxj hne=>hx j p x hj hxj (λo ho=>by cases ho)⟩
  ·exact h.has en (List.mem_cons_of_mem _ he)
 ·rcases hmem en he with h6 | h6
  ·exact h.own _ (List.mem_cons_self ..) q (h6 q hq)
  ·exact h.own en (List.mem_cons_of_mem _ h6) q hq
 ·have hbr:=List.nodup_cons.1 hnd.1;refine List.pairwise_cons.2 ⟨λen he q hq hq'=>?_,List.pairwise_cons.2 ⟨λen he q hq hq'=>?_,List.pairwise_cons.2 ⟨λen he q hq hq'=>hd.1 en he q (fo q hq) hq',hd.2⟩⟩⟩
  ·have e1:q=b:=by simpa[Ent.foot] using hq
   subst e1;simp only[VG] at he;rcases he with rfl | rfl | he
   ·exact hbr.1 hq'
   ·exact hnd.2.2 q (List.mem_cons_self ..) q hq' rfl
   ·exact hd.1 en he q (fb q hq) hq'
  ·simp only[VG] at he;rcases he with rfl | he
   ·exact hnd.2.2 q (List.mem_cons_of_mem _ hq) q hq' rfl
   ·exact hd.1 en he q (fr q hq) hq'
 ·rcases hmem en he with h6 | h6
  ·exact h.zdis _ (List.mem_cons_self ..) q (h6 q hq)
  ·exact h.zdis en (List.mem_cons_of_mem _ h6) q hq
 ·obtain⟨en',h6,h7,_⟩:=hgk en he q hq;exact h.gst.own en' h6 q h7
 ·obtain⟨en',h6,h7,_⟩:=hgk en he q hq;exact h.gst.sz en' h6 q h7
 ·exact List.pairwise_cons.2 ⟨λ_ _ _ hq=>(by cases hq),List.pairwise_cons.2 ⟨λ_ _ _ hq=>(by cases hq),List.pairwise_cons.2 ⟨gd.1,gd.2⟩⟩⟩
 ·obtain⟨en',h6,h7,h8⟩:=hgk en he q hq;exact h.gst.cap en' h6 q h7 j (by rw[h8];exact hj)
theorem St.putback {i:Nat}{r0:Value}{y:(Value→List Rp)×List (List Rp)}(h:St c (.blk b cs e::.row r re rz ys::.poolw k pv e re rz xs (some (i,(b,r0)))::Hr) Z w)(hcs:y.1 r=cs)(hys:y.2=ys){pv':Value}(hpv:CZ pv'=(CZ pv).set i (b,r)) :
  Z.nm k i=some b∧St c (.poolw k pv' e re rz (xs.set i y) none::Hr) Z w:=by
 obtain⟨us,h1,h2⟩:=h.has (.blk b cs e) (by simp);obtain⟨h3,vs,h4,h5⟩:=h.has (.row r re rz ys) (by simp);obtain⟨hl,hn,hm,ho,hx⟩:=h.has (.poolw k pv e re rz xs (some (i,(b,r0)))) (by simp);have hp:(CZ pv)[i]? =some (b,r0):=ho _ rfl;have hi:i<(CZ pv).length:=(List.getElem?_eq_some_iff.1 hp).1;have hd:=List.pairwise_cons.1 h.dis;have hd2:=List.pairwise_cons.1 hd.2;have hd3:=List.pairwise_cons.1 hd2.2;have gd:=List.pairwise_cons.1 (List.pairwise_cons.1 (List.pairwise_cons.1 h.gst.dis).2).2;have hperm:=Ti (q:=(b,r)) hp;have hback:∀q∈(Ent.poolw k pv' e re rz (xs.set i y) none).foot,q=b∨q∈r.ownBlock.toList∨q∈(Ent.poolw k pv e re rz xs (some (i,(b,r0)))).foot:=λq hq=>by
  have h6:q∈LT ((CZ pv).set i (b,r)):=by rw[← hpv];exact hq
  rcases List.mem_append.1 (hperm.subset h6) with h7 | h7
  ·rcases List.mem_cons.1 h7 with h8 | h8
   ·exact .inl h8
   ·exact .inr (.inl h8)
  ·exact .inr (.inr h7)
 have hbr:b ∉ r.ownBlock.toList:=λhb=>hd.1 (.row r re rz ys) (by simp) b (by simp[Ent.foot]) hb;have hbo:b ∉ (Ent.poolw k pv e re rz xs (some (i,(b,r0)))).foot:=λhb=>hd.1 (.poolw k pv e re rz xs (some (i,(b,r0)))) (by simp) b (by simp[Ent.foot]) hb;have hro:∀q∈r.ownBlock.toList,q ∉ (Ent.poolw k pv e re rz xs (some (i,(b,r0)))).foot:=λq hq hq'=>hd2.1 (.poolw k pv e re rz xs (some (i,(b,r0)))) (by simp) q hq hq';have hrn:(r.ownBlock.toList).Nodup:=by cases r.ownBlock<;>simp
 refine⟨hm i _ hp,{ h with has:=λen he=>?_,own:=λen he q hq=>?_,dis:=List.pairwise_cons.2 ⟨λen he q hq hq'=>?_,hd3.2⟩,zdis:=λen he q hq=>?_,gst:=⟨λen he q hq=>?_,λen he q hq=>?_,List.pairwise_cons.2 ⟨gd.1,gd.2⟩,h.gst.new,λen he q hq j hj=>?_⟩ }⟩
 ·rcases List.mem_cons.1 he with rfl | he
  ·refine⟨by rw[hpv];simpa using hl,?_,λj p hj=>?_,λo ho=>(by cases ho),λj p x hj hxj _=>?_⟩
   ·show(LT (CZ pv')).Nodup;rw[hpv];refine hperm.symm.nodup ?_;rw[List.nodup_append];exact⟨List.nodup_cons.2 ⟨hbr,hrn⟩,hn,λq hq q' hq' e=>by
     subst e;rcases List.mem_cons.1 hq with rfl | hq
     ·exact hbo hq'
     ·exact hro q hq hq'⟩
   ·rw[hpv,VR] at hj
    split at hj
    ·rename_i e1;subst e1;simp[hi] at hj;subst hj;exact(hm i _ hp:Z.nm k i=some b)
    ·exact hm j p hj
   ·rw[hpv,VR] at hj;rw[VR] at hxj
    by_cases e1:i=j
    ·subst e1;rw[Vu rfl,Vu hi] at hj;rw[Vu rfl,Vu (by omega)] at hxj
     cases hj;cases hxj
     subst hcs;subst hys;exact⟨⟨us,h1,h2⟩,h3,vs,h4,h5⟩
    ·rw[Vp e1] at hj hxj;exact hx j p x hj hxj (λo ho=>by cases ho;exact e1)
  ·exact h.has en (by simp[he])
 ·rcases List.mem_cons.1 he with rfl | he
  ·rcases hback q hq with rfl | h6 | h6
   ·exact h.own (.blk q cs e) (by simp) q (by simp[Ent.foot])
   ·exact h.own (.row r re rz ys) (by simp) q h6
   ·exact h.own (.poolw k pv e re rz xs (some (i,(b,r0)))) (by simp) q h6
  ·exact h.own en (by simp[he]) q hq
 ·rcases hback q hq with rfl | h6 | h6
  ·exact hd.1 en (by simp[he]) q (by simp[Ent.foot]) hq'
  ·exact hd2.1 en (by simp[he]) q h6 hq'
  ·exact hd3.1 en he q h6 hq'
 ·rcases List.mem_cons.1 he with rfl | he
  ·rcases hback q hq with rfl | h6 | h6
   ·exact h.zdis (.blk q cs e) (by simp) q (by simp[Ent.foot])
   ·exact h.zdis (.row r re rz ys) (by simp) q h6
   ·exact h.zdis (.poolw k pv e re rz xs (some (i,(b,r0)))) (by simp) q h6
  ·exact h.zdis en (by simp[he]) q hq
 ·rcases List.mem_cons.1 he with rfl | he
  ·exact h.gst.own (.poolw k pv e re rz xs (some (i,(b,r0)))) (by simp) q hq
  ·exact h.gst.own en (by simp[he]) q hq
 ·rcases List.mem_cons.1 he with rfl | he
  ·exact h.gst.sz (.poolw k pv e re rz xs (some (i,(b,r0)))) (by simp) q hq
  ·exact h.gst.sz en (by simp[he]) q hq
 ·rcases List.mem_cons.1 he with rfl | he
  ·refine h.gst.cap (.poolw k pv e re rz xs (some (i,(b,r0)))) (by simp) q hq j ?_;have:(CZ pv').length≤j:=hj;rw[hpv,VM] at this;exact this
  ·exact h.gst.cap en (by simp[he]) q hq j hj
theorem St.putsame {i:Nat}(hi:i<xs.length)(h:St c (.blk b (xs[i].1 r) e::.row r re rz xs[i].2::.poolw k pv e re rz xs (some (i,(b,r)))::Hr) Z w):Z.nm k i=some b∧St c (.poolw k pv e re rz xs none::Hr) Z w:=by
 obtain⟨hl,hn,hm,ho,hx⟩:=h.has (.poolw k pv e re rz xs (some (i,(b,r)))) (by simp);have hp:(CZ pv)[i]? =some (b,r):=ho _ rfl;have h1:=St.putback (y:=xs[i]) (pv':=pv) h rfl rfl (by
  refine(List.ext_getElem? λj=>?_);rw[VR]
  split
  ·rename_i e1;subst e1
   have:=(List.getElem?_eq_some_iff.1 hp).1;rw[Vu this,hp]
  ·rfl)
 rw[List.set_getElem_self] at h1;exact h1
theorem St.adoptW {y:(Value→List Rp)×List (List Rp)}(h:St c (.blk b cs e::.row r re rz ys::.poolw k pv e re rz xs none::Hr) Z w)(hcs:y.1 r=cs)(hys:y.2=ys){pv':Value}(hpv:CZ pv'=CZ pv++[(b,r)]) :
  ∃Z',Fz.le Z Z'∧Z'.nm k xs.length=some b∧St c (.poolw k pv' e re rz (xs++[y]) none::Hr) Z' w:=by
 obtain⟨us,h1,h2⟩:=h.has (.blk b cs e) (by simp);obtain⟨h3,vs,h4,h5⟩:=h.has (.row r re rz ys) (by simp);obtain⟨hl,hn,hm,ho,hx⟩:=h.has (.poolw k pv e re rz xs none) (by simp);have hd:=List.pairwise_cons.1 h.dis;have hd2:=List.pairwise_cons.1 hd.2;have hd3:=List.pairwise_cons.1 hd2.2;have gd:=List.pairwise_cons.1 (List.pairwise_cons.1 (List.pairwise_cons.1 h.gst.dis).2).2;have hcap:=h.gst.cap (.poolw k pv e re rz xs none) (by simp) k (by simp[Ent.gk]);have hksz:=h.gst.sz (.poolw k pv e re rz xs none) (by simp) k (by simp[Ent.gk]);have hkown:=h.gst.own (.poolw k pv e re rz xs none) (by simp) k (by simp[Ent.gk])
 let Z':Fz:=⟨Z.f,λq i=>if q=k∧i=xs.length then some b else Z.nm q i⟩
 have hnew:Z'.nm k xs.length=some b:=by simp[Z']
 have hle:Fz.le Z Z':=⟨λ_ _ h=>h,λq i b' hq=>by
  by_cases hqi:q=k∧i=xs.length
  ·obtain⟨rfl,rfl⟩:=hqi;rw[hcap _ (by simp[Ent.gn,hl])] at hq;cases hq
  ·simpa[Z',hqi] using hq⟩
 have hbr:b ∉ r.ownBlock.toList:=λhb=>hd.1 (.row r re rz ys) (by simp) b (by simp[Ent.foot]) hb;have hbo:b ∉ (Ent.poolw k pv e re rz xs none).foot:=λhb=>hd.1 (.poolw k pv e re rz xs none) (by simp) b (by simp[Ent.foot]) hb;have hro:∀q∈r.ownBlock.toList,q ∉ (Ent.poolw k pv e re rz xs none).foot:=λq hq hq'=>hd2.1 (.poolw k pv e re rz xs none) (by simp) q hq hq';have hrn:(r.ownBlock.toList).Nodup:=by cases r.ownBlock<;>simp
 have hback:∀q∈(Ent.poolw k pv' e re rz (xs++[y]) none).foot,q=b∨q∈r.ownBlock.toList∨q∈(Ent.poolw k pv e re rz xs none).foot:=λq hq=>by
  have h6:q∈LT (CZ pv++[(b,r)]):=by rw[← hpv];exact hq
  rw[PB] at h6;rcases List.mem_append.1 h6 with h7 | h7
  ·exact .inr (.inr h7)
  ·rcases List.mem_cons.1 h7 with h8 | h8
   ·exact .inl h8
   ·exact .inr (.inl h8)
 refine⟨Z',hle,hnew,{ h with has:=λen he=>?_,own:=λen he q hq=>?_,dis:=List.pairwise_cons.2 ⟨λen he q hq hq'=>?_,hd3.2⟩,frz:=⟨λb o hb=>h.frz.f b o hb,λq i b' hq=>?_⟩,le:=h.le.trans hle,new:=λb o hb=>h.new b o hb,zdis:=λen he q hq=>?_,env:=h.emono hle h.env,gst:=⟨λen he q hq=>?_,λen he q hq=>?_,List.pairwise_cons.2 ⟨gd.1,gd.2⟩,λq i b' hq=>?_,λen he q hq i hi=>?_⟩ }⟩
 ·rcases List.mem_cons.1 he with rfl | he
  ·refine⟨by rw[hpv];simp[hl],?_,λj p hj=>?_,λo ho=>(by cases ho),λj p x hj hxj _=>?_⟩
   ·show(LT (CZ pv')).Nodup;rw[hpv,PB,List.nodup_append];exact⟨hn,List.nodup_cons.2 ⟨hbr,hrn⟩,λq hq q' hq' e=>by
     subst e;rcases List.mem_cons.1 hq' with rfl | hq'
     ·exact hbo hq
     ·exact hro q hq' hq⟩
   ·rw[hpv] at hj
    by_cases hjl:j<(CZ pv).length
    ·rw[V2 hjl] at hj;exact hle.nm k j _ (hm j p hj)
    ·have hj2:j=(CZ pv).length:=by have:=(List.getElem?_eq_some_iff.1 hj).1;simp at this;omega
     subst hj2;simp at hj;subst hj;rw[hl];exact hnew
   ·rw[hpv] at hj
    by_cases hjl:j<(CZ pv).length
    ·rw[V2 hjl] at hj;rw[V2 (by omega)] at hxj;obtain⟨⟨us',g1,g2⟩,g3,vs',g4,g5⟩:=hx j p x hj hxj (λo ho=>by cases ho);exact⟨⟨us',g1,g2.mono hle⟩,g3,vs',g4,g5.mono hle⟩
    ·have hj2:j=(CZ pv).length:=by have:=(List.getElem?_eq_some_iff.1 hj).1;simp at this;omega
     subst hj2;simp at hj;subst hj;rw[hl] at hxj;simp at hxj;subst hxj;subst hcs;subst hys;exact⟨⟨us,h1,h2.mono hle⟩,h3,vs,h4,h5.mono hle⟩
  ·exact Ent.keep (h.has en (by simp[he])) hle λ_ _=>rfl
 ·rcases List.mem_cons.1 he with rfl | he
  ·rcases hback q hq with rfl | h6 | h6
   ·exact h.own (.blk q cs e) (by simp) q (by simp[Ent.foot])
   ·exact h.own (.row r re rz ys) (by simp) q h6
   ·exact h.own (.poolw k pv e re rz xs none) (by simp) q h6
  ·exact h.own en (by simp[he]) q hq
 ·rcases hback q hq with rfl | h6 | h6
  ·exact hd.1 en (by simp[he]) q (by simp[Ent.foot]) hq'
  ·exact hd2.1 en (by simp[he]) q h6 hq'
  ·exact hd3.1 en he q h6 hq'
 ·by_cases hqi:q=k∧i=xs.length
  ·rw[hqi.1];exact hksz
  ·exact h.frz.nm q i b' (by simpa[Z',hqi] using hq)
 ·rcases List.mem_cons.1 he with rfl | he
  ·rcases hback q hq with rfl | h6 | h6
   ·exact h.zdis (.blk q cs e) (by simp) q (by simp[Ent.foot])
   ·exact h.zdis (.row r re rz ys) (by simp) q h6
   ·exact h.zdis (.poolw k pv e re rz xs none) (by simp) q h6
  ·exact h.zdis en (by simp[he]) q hq
 ·rcases List.mem_cons.1 he with rfl | he
  ·simp[Ent.gk] at hq;subst hq;exact hkown
  ·exact h.gst.own en (by simp[he]) q hq
 ·rcases List.mem_cons.1 he with rfl | he
  ·simp[Ent.gk] at hq;subst hq;exact hksz
  ·exact h.gst.sz en (by simp[he]) q hq
 ·by_cases hqi:q=k∧i=xs.length
  ·rw[hqi.1];exact .inr hkown
  ·exact h.gst.new q i b' (by simpa[Z',hqi] using hq)
 ·rcases List.mem_cons.1 he with rfl | he
  ·simp[Ent.gk] at hq;subst hq;have hi':(CZ pv').length≤i:=hi;rw[hpv,Vo] at hi';simp at hi';have hne : ¬ i=xs.length:=by omega
   simp only[Z',hne,and_false,if_false];exact hcap i (by simp[Ent.gn];omega)
  ·have hqk:q≠k:=λe1=>gd.1 en he k (by simp[Ent.gk]) (e1▸hq);simp only[Z',hqk,false_and,if_false];exact h.gst.cap en (by simp[he]) q hq i hi
end
def Tz (l:Fr)(k:Nat)(i:Int):List Nat→Prop
 | []=>True
 | d::ds=>look l d=some (EL k i 0)∧Tz l k i ds
def U7 (b:Nat):List Nat→Fr→Fr
 | [],l=>l
 | d::ds,l=>(d,rv (.pointer (some ⟨b,0,none⟩)))::U7 b ds l
def Tr (k:Nat)(i:Int):List Nat→Fr→Fr
 | [],l=>l
 | d::ds,l=>(d,EL k i 0)::Tr k i ds l
theorem OV {Z:Fz}{a:Act}{i:Int}{l:Fr}(ha:Cf n l a Z)(h0:0≤i)(hn:Z.nm k i.toNat=some b):∀{ds:List Nat},Tz l k i ds→Cf n (U7 b ds l) a Z
 | [],_=>ha
 | d::ds,⟨h1,h2⟩=>by
  have h3:=OV ha h0 hn h2;refine⟨h3.size,h3.defers,λj u hj=>?_⟩;rw[U7,B9] at hj
  split at hj
  ·rename_i e;subst e;simp at hj;subst hj
   obtain⟨v,h4,h5⟩:=ha.tm d _ h1
   change Mg k i 0 Z v at h5
   unfold Mg at h5;rw[Vp (by omega)] at h5;obtain⟨b',g1,g2⟩:=h5;rw[hn] at g1;obtain rfl:=Option.some.inj g1;exact⟨v,h4,g2⟩
  ·exact h3.tm j u hj
theorem Is {Z:Fz}{a:Act}{i:Int}{l:Fr}(ha:Cf n l a Z)(h0:0≤i)(hn:Z.nm k i.toNat=some b):∀{ds:List Nat},Jg l b ds→Cf n (Tr k i ds l) a Z
 | [],_=>ha
 | d::ds,⟨h1,h2⟩=>by
  have h3:=Is ha h0 hn h2;refine⟨h3.size,h3.defers,λj u hj=>?_⟩;rw[Tr,B9] at hj
  split at hj
  ·rename_i e;subst e;simp at hj;subst hj
   obtain⟨v,h4,h5⟩:=ha.tm d _ h1;refine⟨v,h4,?_⟩;show Mg k i 0 Z v;unfold Mg;rw[Vp (by omega)];exact⟨b,hn,h5⟩
  ·exact h3.tm j u hj
section
variable {β : Type} [Inhabited β] {xs : List β} {encw : β → (Value → List Rp) × List (List Rp)} {i : Int} {y : β}
theorem St.takeoutE {Z:Fz}{w:World}(hw:St c H Z w)(hp:H.Perm (.poolw k pv e re rz (xs.map encw) none::Hr))(hg:BL i (xs.length:Int)=true) :
  ∃b r,0≤i∧Z.nm k i.toNat=some b∧St c (.blk b ((encw (Ad xs i)).1 r) e::.row r re rz (encw (Ad xs i)).2::.poolw k pv e re rz (xs.map encw) (some (i.toNat,(b,r)))::Hr) Z w:=by
 have h0:=(BG hg).1;have h1:i.toNat<xs.length:=by have:=(BG hg).2;omega
 obtain⟨b,r,h2,h3⟩:=(hw.perm hp).takeout (i:=i.toNat) (by simpa using h1);have e1:(xs.map encw)[i.toNat]'(by simpa using h1)=encw (Ad xs i):=by simp[Ad,h1]
 rw[e1] at h3;exact⟨b,r,h0,h2,h3⟩
theorem WL.takeout (hp:H.Perm (.poolw k pv e re rz (xs.map encw) none::Hr))(hg:BL i (xs.length:Int)=true)(ds:List Nat)(hd:Tz l k i ds)
  (h:∀b r,WL P n c ops Q rest (U7 b ds l) (.blk b ((encw (Ad xs i)).1 r) e::.row r re rz (encw (Ad xs i)).2::.poolw k pv e re rz (xs.map encw) (some (i.toNat,(b,r)))::Hr)):WL P n c ops Q rest l H:=λa w Z ha hw=>by
 obtain⟨b,r,h0,h1,h2⟩:=St.takeoutE hw hp hg;exact h b r a w Z (OV ha h0 h1 hd) h2
theorem WC.takeout (hp:H.Perm (.poolw k pv e re rz (xs.map encw) none::Hr))(hg:BL i (xs.length:Int)=true)(ds:List Nat)(hd:Tz l k i ds)
  (h:∀b r,WC P n c cx Q (U7 b ds l) (.blk b ((encw (Ad xs i)).1 r) e::.row r re rz (encw (Ad xs i)).2::.poolw k pv e re rz (xs.map encw) (some (i.toNat,(b,r)))::Hr)):WC P n c cx Q l H:=λa w Z ha hw=>by
 obtain⟨b,r,h0,h1,h2⟩:=St.takeoutE hw hp hg;exact h b r a w Z (OV ha h0 h1 hd) h2
theorem St.putbackE {Z:Fz}{w:World}{r0:Value}(hw:St c H Z w)(hp:H.Perm (.blk b cs e::.row r re rz ys::.poolw k pv e re rz (xs.map encw) (some (i.toNat,(b,r0)))::Hr))(hcs:(encw y).1 r=cs)(hys:(encw y).2=ys) :
  ∃pv',Z.nm k i.toNat=some b∧St c (.poolw k pv' e re rz ((xs.set i.toNat y).map encw) none::Hr) Z w:=by
 obtain⟨h1,h2⟩:=(hw.perm hp).putback (y:=encw y) (pv':=ST ((CZ pv).set i.toNat (b,r))) hcs hys (Pp _);rw[← List.map_set] at h2;exact⟨_,h1,h2⟩
theorem WL.putback {r0:Value}(hp:H.Perm (.blk b cs e::.row r re rz ys::.poolw k pv e re rz (xs.map encw) (some (i.toNat,(b,r0)))::Hr))(hg:BL i (xs.length:Int)=true)(ds:List Nat)(hd:Jg l b ds)(hcs:(encw y).1 r=cs)(hys:(encw y).2=ys)
  (h:∀pv',WL P n c ops Q rest (Tr k i ds l) (.poolw k pv' e re rz ((xs.set i.toNat y).map encw) none::Hr)):WL P n c ops Q rest l H:=λa w Z ha hw=>by
 obtain⟨pv',h1,h2⟩:=St.putbackE hw hp hcs hys;exact h pv' a w Z (Is ha (BG hg).1 h1 hd) h2
theorem WC.putback {r0:Value}(hp:H.Perm (.blk b cs e::.row r re rz ys::.poolw k pv e re rz (xs.map encw) (some (i.toNat,(b,r0)))::Hr))(hg:BL i (xs.length:Int)=true)(ds:List Nat)(hd:Jg l b ds)(hcs:(encw y).1 r=cs)(hys:(encw y).2=ys)
  (h:∀pv',WC P n c cx Q (Tr k i ds l) (.poolw k pv' e re rz ((xs.set i.toNat y).map encw) none::Hr)):WC P n c cx Q l H:=λa w Z ha hw=>by
 obtain⟨pv',h1,h2⟩:=St.putbackE hw hp hcs hys;exact h pv' a w Z (Is ha (BG hg).1 h1 hd) h2
theorem WK.putback {r0:Value}(hp:H.Perm (.blk b cs e::.row r re rz ys::.poolw k pv e re rz (xs.map encw) (some (i.toNat,(b,r0)))::Hr))(hg:BL i (xs.length:Int)=true)(ds:List Nat)(hd:Jg l b ds)(hcs:(encw y).1 r=cs)(hys:(encw y).2=ys)
  (h:∀pv',WK n c K (Tr k i ds l) (.poolw k pv' e re rz ((xs.set i.toNat y).map encw) none::Hr)):WK n c K l H:=λa w Z ha hw=>by
 obtain⟨pv',h1,h2⟩:=St.putbackE hw hp hcs hys;exact h pv' a w Z (Is ha (BG hg).1 h1 hd) h2
theorem St.putsameE {Z:Fz}{w:World}(hw:St c H Z w)(hp:H.Perm (.blk b cs e::.row r re rz ys::.poolw k pv e re rz (xs.map encw) (some (i.toNat,(b,r)))::Hr))(hg:BL i (xs.length:Int)=true)(hcs:(encw (Ad xs i)).1 r=cs)(hys:(encw (Ad xs i)).2=ys) :
  Z.nm k i.toNat=some b∧St c (.poolw k pv e re rz (xs.map encw) none::Hr) Z w:=by
 have h1:i.toNat<xs.length:=by have:=BG hg;omega
 have e1:(xs.map encw)[i.toNat]'(by simpa using h1)=encw (Ad xs i):=by simp[Ad,h1]
 subst hcs;subst hys;have h2:=hw.perm hp;rw[← e1] at h2;exact St.putsame (by simpa using h1) h2
theorem WL.putsame (hp:H.Perm (.blk b cs e::.row r re rz ys::.poolw k pv e re rz (xs.map encw) (some (i.toNat,(b,r)))::Hr))(hg:BL i (xs.length:Int)=true)(ds:List Nat)(hd:Jg l b ds)(hcs:(encw (Ad xs i)).1 r=cs)(hys:(encw (Ad xs i)).2=ys)
  (h:WL P n c ops Q rest (Tr k i ds l) (.poolw k pv e re rz (xs.map encw) none::Hr)):WL P n c ops Q rest l H:=λa w Z ha hw=>by
 obtain⟨h1,h2⟩:=St.putsameE hw hp hg hcs hys;exact h a w Z (Is ha (BG hg).1 h1 hd) h2
theorem WC.putsame (hp:H.Perm (.blk b cs e::.row r re rz ys::.poolw k pv e re rz (xs.map encw) (some (i.toNat,(b,r)))::Hr))(hg:BL i (xs.length:Int)=true)(ds:List Nat)(hd:Jg l b ds)(hcs:(encw (Ad xs i)).1 r=cs)(hys:(encw (Ad xs i)).2=ys)
  (h:WC P n c cx Q (Tr k i ds l) (.poolw k pv e re rz (xs.map encw) none::Hr)):WC P n c cx Q l H:=λa w Z ha hw=>by
 obtain⟨h1,h2⟩:=St.putsameE hw hp hg hcs hys;exact h a w Z (Is ha (BG hg).1 h1 hd) h2
theorem WK.putsame (hp:H.Perm (.blk b cs e::.row r re rz ys::.poolw k pv e re rz (xs.map encw) (some (i.toNat,(b,r)))::Hr))(hg:BL i (xs.length:Int)=true)(ds:List Nat)(hd:Jg l b ds)(hcs:(encw (Ad xs i)).1 r=cs)(hys:(encw (Ad xs i)).2=ys)
  (h:WK n c K (Tr k i ds l) (.poolw k pv e re rz (xs.map encw) none::Hr)):WK n c K l H:=λa w Z ha hw=>by
 obtain⟨h1,h2⟩:=St.putsameE hw hp hg hcs hys;exact h a w Z (Is ha (BG hg).1 h1 hd) h2
theorem St.adoptWE {Z:Fz}{w:World}(hw:St c H Z w)(hp:H.Perm (.blk b cs e::.row r re rz ys::.poolw k pv e re rz (xs.map encw) none::Hr))(hcs:(encw y).1 r=cs)(hys:(encw y).2=ys) :
  ∃Z' pv',Fz.le Z Z'∧Z'.nm k xs.length=some b∧St c (.poolw k pv' e re rz ((xs++[y]).map encw) none::Hr) Z' w:=by
 obtain⟨Z',h1,h2,h3⟩:=(hw.perm hp).adoptW (y:=encw y) (pv':=ST (CZ pv++[(b,r)])) hcs hys (Pp _);rw[Vr] at h2;exact⟨Z',_,h1,h2,by rw[VU];exact h3⟩
theorem WL.adoptW (hp:H.Perm (.blk b cs e::.row r re rz ys::.poolw k pv e re rz (xs.map encw) none::Hr))(ds:List Nat)(hd:Jg l b ds)(hcs:(encw y).1 r=cs)(hys:(encw y).2=ys)
  (h:∀pv',WL P n c ops Q rest (T7 k xs.length ds l) (.poolw k pv' e re rz ((xs++[y]).map encw) none::Hr)):WL P n c ops Q rest l H:=λa w Z ha hw=>by
 obtain⟨Z',pv',h1,h2,h3⟩:=St.adoptWE hw hp hcs hys;exact h pv' a w Z' (J8 (ha.mono h1) h2 hd) h3
theorem WC.adoptW (hp:H.Perm (.blk b cs e::.row r re rz ys::.poolw k pv e re rz (xs.map encw) none::Hr))(ds:List Nat)(hd:Jg l b ds)(hcs:(encw y).1 r=cs)(hys:(encw y).2=ys)
  (h:∀pv',WC P n c cx Q (T7 k xs.length ds l) (.poolw k pv' e re rz ((xs++[y]).map encw) none::Hr)):WC P n c cx Q l H:=λa w Z ha hw=>by
 obtain⟨Z',pv',h1,h2,h3⟩:=St.adoptWE hw hp hcs hys;exact h pv' a w Z' (J8 (ha.mono h1) h2 hd) h3
end
theorem Hg:CZ (.tuple #[])=[]:=rfl
theorem JX (hn:Nat.blt d n=true)(h:∀b,WL P n c ops Q rest ((d,rv (.map (some b)))::l) (.poolw b (.tuple #[]) e re rz [] none::.map b []::H)) :
  WL P n c ops Q ({ dst:=some d,op:=.makeMap t none,type:=ty,pos:=pos,after:=af,guard:=none }::rest) l H:=
 Ji (λa w Z ha hw=>by
  have h1:=hw.alloc (.map #[] 0) (e:=.map w.heap.size []) ⟨#[],0,by simpa using heap_alloc_new w _,by simp,by simp,by simp,[],Vh _,trivial⟩ rfl;refine⟨_,w.alloc (.map #[] 0),_,_,Z,by simp[execOp,run_makeMap],Fz.le.refl _,rfl,?_,h w.heap.size⟩;have hz:∀i,Z.nm w.heap.size i=none:=λi=>by
   cases hq:Z.nm w.heap.size i with
   | none=>rfl
   | some b=>have:=hw.frz.nm _ _ _ hq;omega
  have hold:∀en∈(Ent.map w.heap.size []::H),∀q∈en.gk,q<w.heap.size:=λen he q hq=>by
   rcases List.mem_cons.1 he with rfl | he
   ·simp[Ent.gk] at hq
   ·exact hw.gst.sz en he q hq
  have hf:∀q,q ∉ (Ent.poolw w.heap.size (.tuple #[]) e re rz [] none).foot:=λq hq=>by simp[Ent.foot,Hg,O9,LT] at hq
  refine { h1 with has:=λen he=>?_,own:=λen he q hq=>?_,dis:=List.pairwise_cons.2 ⟨λen he q hq=>absurd hq (hf q),h1.dis⟩,zdis:=λen he q hq=>?_,gst:=⟨λen he q hq=>?_,λen he q hq=>?_,List.pairwise_cons.2 ⟨λen he q hq hq'=>?_,h1.gst.dis⟩,h1.gst.new,λen he q hq i hi=>?_⟩ }
  ·rcases List.mem_cons.1 he with rfl | he
   ·exact⟨by simp[Hg],by simp[Hg,O9,LT],by simp[Hg],λo ho=>(by cases ho),by simp[Hg]⟩
   ·exact h1.has en he
  ·rcases List.mem_cons.1 he with rfl | he
   ·exact absurd hq (hf q)
   ·exact h1.own en he q hq
  ·rcases List.mem_cons.1 he with rfl | he
   ·exact absurd hq (hf q)
   ·exact h1.zdis en he q hq
  ·rcases List.mem_cons.1 he with rfl | he
   ·simp[Ent.gk] at hq;subst hq;exact .inl hw.size
   ·exact h1.gst.own en he q hq
  ·rcases List.mem_cons.1 he with rfl | he
   ·simp[Ent.gk] at hq;subst hq;simp
   ·exact h1.gst.sz en he q hq
  ·simp[Ent.gk] at hq;subst hq;have:=hold en he _ hq';omega
  ·rcases List.mem_cons.1 he with rfl | he
   ·simp[Ent.gk] at hq;subst hq;exact hz i
   ·exact h1.gst.cap en he q hq i hi) hn
end
end Go.Proofs.YtfbmdidnlhifjaaGreatDoor.Q
namespace Go.Proofs
open Go.Shelf
def Tryz.sort73_ren:Go.Shelf.Ren:=⟨fun | 6=>73 | 8=>89 | 9=>88 | 19=>113 | 20=>114 | 21=>104 | 22=>105 | 23=>106 | 24=>107 | 25=>108 | 26=>109 | 27=>110 | 28=>111 | 29=>112 | 36=>120 | 31=>121 | 32=>122 | 37=>123 | 38=>124 | 39=>125 | 41=>131 | n=>n,fun | 27=>49 | 29=>9 | 3=>3 | 32=>134 | 26=>49 | 0=>0 | 44=>149 | 46=>151 | 4=>4 | 36=>142 | 35=>141 | 41=>101 | 5=>5 | 9=>9 | 53=>155 | 57=>159 | 63=>166 | 64=>167 | n=>n,fun | n=>n⟩
theorem Tryz.sort73:Go.Proofs.SlLaysM.n6 Tryz.prog Tryz.sort73_ren:={
 mixed:=by kernel_rfl
 f6:=⟨Tryz.f73.name,by decide,Tryz.func73.trans (congrArg some (by kernel_rfl))⟩
 f8:=Tryz.func89.trans (congrArg some (by kernel_rfl))
 f9:=⟨Tryz.f88.name,by decide,Tryz.func88.trans (congrArg some (by kernel_rfl))⟩
 f19:=Tryz.func113.trans (congrArg some (by kernel_rfl))
 f20:=Tryz.func114.trans (congrArg some (by kernel_rfl))
 f21:=⟨Tryz.f104.name,by decide,Tryz.func104.trans (congrArg some (by kernel_rfl))⟩
 f22:=⟨Tryz.f105.name,by decide,Tryz.func105.trans (congrArg some (by kernel_rfl))⟩
 f23:=⟨Tryz.f106.name,by decide,Tryz.func106.trans (congrArg some (by kernel_rfl))⟩
 f24:=⟨Tryz.f107.name,by decide,Tryz.func107.trans (congrArg some (by kernel_rfl))⟩
 f25:=⟨Tryz.f108.name,by decide,Tryz.func108.trans (congrArg some (by kernel_rfl))⟩
 f26:=⟨Tryz.f109.name,by decide,Tryz.func109.trans (congrArg some (by kernel_rfl))⟩
 f27:=⟨Tryz.f110.name,by decide,Tryz.func110.trans (congrArg some (by kernel_rfl))⟩
 f28:=⟨Tryz.f111.name,by decide,Tryz.func111.trans (congrArg some (by kernel_rfl))⟩
 f29:=⟨Tryz.f112.name,by decide,Tryz.func112.trans (congrArg some (by kernel_rfl))⟩
 f31:=Tryz.func121.trans (congrArg some (by kernel_rfl))
 f32:=Tryz.func122.trans (congrArg some (by kernel_rfl))
 f36:=⟨Tryz.f120.name,by decide,Tryz.func120.trans (congrArg some (by kernel_rfl))⟩
 f37:=⟨Tryz.f123.name,by decide,Tryz.func123.trans (congrArg some (by kernel_rfl))⟩
 f38:=⟨Tryz.f124.name,by decide,Tryz.func124.trans (congrArg some (by kernel_rfl))⟩
 f39:=⟨Tryz.f125.name,by decide,Tryz.func125.trans (congrArg some (by kernel_rfl))⟩
 f41:=⟨Tryz.f131.name,by decide,Tryz.func131.trans (congrArg some (by kernel_rfl))⟩
 t0:=Tryz.underlying0
 a0:=Tryz.isAgg0
 z0:=Tryz.sizeOf0
 v0:=Tryz.zeroValue0
 t3:=Tryz.underlying3
 a3:=Tryz.isAgg3
 z3:=Tryz.sizeOf3
 v3:=Tryz.zeroValue3
 t4:=Tryz.underlying4
 a4:=Tryz.isAgg4
 z4:=Tryz.sizeOf4
 v4:=Tryz.zeroValue4
 t5:=Tryz.underlying5
 a5:=Tryz.isAgg5
 z5:=Tryz.sizeOf5
 v5:=Tryz.zeroValue5
 t9:=Tryz.underlying9
 a9:=Tryz.isAgg9
 z9:=Tryz.sizeOf9
 v9:=Tryz.zeroValue9
 t26:=Tryz.underlying49
 a26:=Tryz.isAgg49
 z26:=Tryz.sizeOf49
 v26:=Tryz.zeroValue49
 t27:=Tryz.underlying49
 a27:=Tryz.isAgg49
 z27:=Tryz.sizeOf49
 v27:=Tryz.zeroValue49
 t29:=Tryz.underlying9
 a29:=Tryz.isAgg9
 z29:=Tryz.sizeOf9
 v29:=Tryz.zeroValue9
 t32:=Tryz.underlying134
 a32:=Tryz.isAgg134
 z32:=Tryz.sizeOf134
 v32:=Tryz.zeroValue134
 t35:=Tryz.underlying141
 a35:=Tryz.isAgg141
 z35:=Tryz.sizeOf141
 v35:=Tryz.zeroValue141
 t36:=Tryz.underlying142
 a36:=Tryz.isAgg142
 z36:=Tryz.sizeOf142
 v36:=Tryz.zeroValue142
 t41:=Tryz.underlying101
 a41:=Tryz.isAgg101
 z41:=Tryz.sizeOf101
 v41:=Tryz.zeroValue101
 t44:=Tryz.underlying149
 a44:=Tryz.isAgg149
 z44:=Tryz.sizeOf149
 v44:=Tryz.zeroValue149
 t46:=Tryz.underlying151
 a46:=Tryz.isAgg151
 z46:=Tryz.sizeOf151
 v46:=Tryz.zeroValue151
 t53:=Tryz.underlying155
 a53:=Tryz.isAgg155
 z53:=Tryz.sizeOf155
 v53:=Tryz.zeroValue155
 t57:=Tryz.underlying159
 a57:=Tryz.isAgg159
 z57:=Tryz.sizeOf159
 v57:=Tryz.zeroValue159
 t63:=Tryz.underlying166
 a63:=Tryz.isAgg166
 z63:=Tryz.sizeOf166
 v63:=Tryz.zeroValue166
 t64:=Tryz.underlying167
 a64:=Tryz.isAgg167
 z64:=Tryz.sizeOf167
 v64:=Tryz.zeroValue167 }
def Tryz.sorted49_ren:Go.Shelf.Ren:=⟨fun | 6=>49 | 8=>72 | 9=>73 | 11=>87 | 13=>89 | 12=>88 | 23=>113 | 24=>114 | 14=>104 | 15=>105 | 16=>106 | 17=>107 | 18=>108 | 19=>109 | 20=>110 | 21=>111 | 22=>112 | 25=>120 | 26=>121 | 27=>122 | 28=>123 | 29=>124 | 30=>125 | 31=>131 | n=>n,fun | 26=>9 | 28=>95 | 24=>49 | 0=>0 | 3=>3 | 37=>134 | 48=>149 | 50=>151 | 4=>4 | 40=>142 | 39=>141 | 45=>101 | 5=>5 | 9=>9 | 51=>155 | 55=>159 | 57=>166 | 58=>167 | 33=>103 | n=>n,fun | n=>n⟩
theorem Tryz.sorted49:Go.Proofs.SlLaysZ.n6 Tryz.prog Tryz.sorted49_ren:={
 mixed:=by kernel_rfl
 f6:=⟨Tryz.f49.name,by decide,Tryz.func49.trans (congrArg some (by kernel_rfl))⟩
 f8:=⟨Tryz.f72.name,by decide,Tryz.func72.trans (congrArg some (by kernel_rfl))⟩
 f11:=⟨Tryz.f87.name,by decide,Tryz.func87.trans (congrArg some (by kernel_rfl))⟩
 t0:=Tryz.underlying0
 a0:=Tryz.isAgg0
 z0:=Tryz.sizeOf0
 v0:=Tryz.zeroValue0
 t24:=Tryz.underlying49
 a24:=Tryz.isAgg49
 z24:=Tryz.sizeOf49
 v24:=Tryz.zeroValue49
 t26:=Tryz.underlying9
 a26:=Tryz.isAgg9
 z26:=Tryz.sizeOf9
 v26:=Tryz.zeroValue9
 t28:=Tryz.underlying95
 a28:=Tryz.isAgg95
 z28:=Tryz.sizeOf95
 v28:=Tryz.zeroValue95
 i26:=by kernel_rfl }
def Tryz.keys50_ren:Go.Shelf.Ren:=⟨fun | 7=>50 | 10=>74 | n=>n,fun | 23=>65 | 26=>9 | 3=>83 | 28=>95 | 0=>0 | 27=>94 | 33=>103 | 4=>4 | n=>n,fun | n=>n⟩
theorem Tryz.keys50:Go.Proofs.SlLaysZ.n7 Tryz.prog Tryz.keys50_ren:={
 mixed:=by kernel_rfl
 f7:=⟨Tryz.f50.name,by decide,Tryz.func50.trans (congrArg some (by kernel_rfl))⟩
 f10:=⟨Tryz.f74.name,by decide,Tryz.func74.trans (congrArg some (by kernel_rfl))⟩
 t0:=Tryz.underlying0
 a0:=Tryz.isAgg0
 z0:=Tryz.sizeOf0
 v0:=Tryz.zeroValue0
 t4:=Tryz.underlying4
 a4:=Tryz.isAgg4
 z4:=Tryz.sizeOf4
 v4:=Tryz.zeroValue4
 t23:=Tryz.underlying65
 a23:=Tryz.isAgg65
 z23:=Tryz.sizeOf65
 v23:=Tryz.zeroValue65
 t26:=Tryz.underlying9
 a26:=Tryz.isAgg9
 z26:=Tryz.sizeOf9
 v26:=Tryz.zeroValue9
 t27:=Tryz.underlying94
 a27:=Tryz.isAgg94
 z27:=Tryz.sizeOf94
 v27:=Tryz.zeroValue94
 t28:=Tryz.underlying95
 a28:=Tryz.isAgg95
 z28:=Tryz.sizeOf95
 v28:=Tryz.zeroValue95
 t33:=Tryz.underlying103
 a33:=Tryz.isAgg103
 z33:=Tryz.sizeOf103
 v33:=Tryz.zeroValue103 }
end Go.Proofs
namespace Go.Proofs.YtfbmdidnlhifjaaGreatDoor.Q
open Go Go.RowKit Go.Maps Go.Sort Go.Shelf Go.Proofs
set_option linter.unusedVariables false
set_option maxHeartbeats 1000000
theorem O1 {Z:Fz}{v:Value}{vs:List Value}(h:AV Z [rv v] vs):vs=[v]:=AV.eq_rv (us:=[v]) h
theorem Qz {T:Type}(enc:T→Rp)(xs:List (Am×T)):(AA enc xs).map (·.1)=xs.map (·.1):=by simp[AA]
theorem OI (b:Nat):Fn Tryz.prog GE 50 [rv (.map (some b))] [] (λR H=>∃k:Nat,R=rv (.func (.func 74) #[] #[.pointer (some ⟨k,0,none⟩)])∧H=[.blk k [rv (.map (some b))] 65]):=λw Z vs hv hs=>by
 have e:=O1 hv;subst e;have hc:Calls Tryz.prog 50 #[.map (some b)] w (λe w'=>e = .returned (.func (.func 74) #[] #[.pointer (some ⟨w.heap.size,0,none⟩)])∧w'=w.alloc (.cells #[.map (some b)] 65)):=callsIn_wide.1 (AnyZ.keys_in Tryz.keys50 Fence.wide 5 trivial rfl (some b) w);refine hc.mono ?_;rintro e w' ⟨rfl,rfl⟩;exact⟨_,_,_,Z,rfl,⟨w.heap.size,rfl,rfl⟩,rfl,hs.alloc _ ⟨[.map (some b)],by simpa using heap_alloc_new w _,rfl,trivial⟩ rfl⟩
theorem Oz (m:Nat):AnyZ.SortsIn Tryz.prog Tryz.sorted49_ren Fence.wide m:=
  ⟨λblk off cap ss W hH hblk hsz=>callsIn_wide.2 (AnyM.slices_Sort_string Tryz.sort73 blk off cap ss W hH hblk hsz),
   λp cap W=>callsIn_wide.2 (AnyM.slices_Sort_string_none Tryz.sort73 p cap W)⟩
theorem Nq {T:Type}(enc:T→Rp)(xs:List (Am×T))(k b:Nat)(hk:KU xs=true):Fn Tryz.prog GE 49 [rv (.func (.func 74) #[] #[.pointer (some ⟨k,0,none⟩)])] [.blk k [rv (.map (some b))] 65,.map b (AA enc xs)] (λR H=>∃v:Value,R=rv v∧H=[.row v 9 1 ((JO xs).map eS),.blk k [rv (.map (some b))] 65,.map b (AA enc xs)]):=λw Z vs hv hs=>by
 have e:=O1 hv;subst e;obtain⟨us,h1,h2⟩:=hs.ent (i:=0) rfl;have e2:=O1 h2;subst e2;obtain⟨es,ck,h3,h4⟩:=hs.ent (i:=1) rfl;unfold KU at hk;simp only[Vj,Vf,V9] at hk;have hlen:(AA enc xs).length=xs.length:=Hl enc xs;have hkl:∀p∈AA enc xs,p.1.length≤maxLen:=λp hp=>by
  obtain⟨y,hy,rfl⟩:=List.mem_map.1 hp;have:=hk.2 y hy;have e:maxLen=9223372036854775807:=rfl;rw[e];simpa[Sz] using this
 obtain⟨D0,d1,d2,d3⟩:=SO (k:=9) Tryz.underlying9 h3 h4 hkl (by rw[hlen];have:=hk.1;have e:maxLen=9223372036854775807:=rfl;omega);have hkb:k<w.heap.size:=(Array.getElem?_eq_some_iff.1 h1).1;have hcell:w.cell? ⟨k,0,none⟩=some (.map (some b)):=by simp[World.cell?,h1]
 have hseq:SeqGives Fence.wide 2 Tryz.prog 74 #[.pointer (some ⟨k,0,none⟩)] encStr (λss=>ss.Perm (strKeys D0)) (Maps.size D0) w:=
  AnyZ.keys_gives (ρ:=Tryz.keys50_ren) { Tryz.keys50 with } Fence.wide _ trivial rfl (by omega) k b es.size D0 w hkb hcell d1
 have hc:=AnyZ.sorted_in Tryz.sorted49 Fence.wide 5 trivial trivial trivial trivial rfl (by omega) (Oz _) (enters_of Tryz.func73 (by kernel_rfl) rfl) 74 #[.pointer (some ⟨k,0,none⟩)] trivial (enters_of Tryz.func74 (by kernel_rfl) rfl) _ (Maps.size D0) (by rw[d3,hlen];have:=hk.1;have e:maxLen=9223372036854775807:=rfl;omega) (by rw[d3,hlen];exact hk.1) w hseq;refine(callsIn_wide.1 hc).mono ?_;rintro e w' ⟨v,ss,rfl,hS,hrow,hnil,hb⟩;have hp:ss.Perm (xs.map (·.1)):=hS.trans (by rw[← Qz enc xs];exact d2);have e1:ss.mergeSort (λx y=>decide (x≤y))=JO xs:=mergeSort_of_perm hp;have e3:ss.length=(JO xs).length:=by rw[← e1,List.length_mergeSort]
 rw[e1,e3] at hrow;exact⟨_,v,_,Z,rfl,⟨v,rfl,rfl⟩,rfl,hs.newrow hb hrow⟩
open Go Go.RowKit
set_option linter.unusedSimpArgs false
set_option maxRecDepth 100000
set_option maxHeartbeats 4000000
@[reducible] def Af (kc:Nat) (x:Ai):(Value→List Rp)×List (List Rp):=(λr=>[AH 4 (Au Ac x.fState),rv r,Ak x.fDone],Au (eP kc) x.fCalls)
theorem RR:∃inf,Tryz.prog.info? 88=some inf∧inf.zero=some (.pointer none)∧inf.size=1∧inf.bytes=8:=by
  have key:(Tryz.prog.info? 88).map (λi=>(i.zero,i.size,i.bytes))=some (some (.pointer none),1,8):=by kernel_rfl
  obtain⟨inf,h1,h2⟩:=Option.map_eq_some_iff.1 key;simp only[Prod.mk.injEq] at h2;exact⟨inf,h1,h2.1,h2.2.1,h2.2.2⟩
theorem Tn (parts:List (Nat×Value)):Tryz.prog.built 68 parts=Instr.fill (λi=>(#[(0,1),(1,1),(2,1)]:Array (Nat×Nat))[i]?) #[(.int .i64 0),((.map none)),((.map none))] parts:=by kernel_rfl
theorem Lx {n:Nat}{c:Cx}{l:Fr}{H:List Ent}{d:Option Nat}{ty:TypeId}{pos:String}{af:Array Edge}{g:Option (Nat×Bool)}{x1:Operand}{r1:Rp}(h1:ev l x1=some r1)(u1:r1.one=true){x2:Operand}{r2:Rp}(h2:ev l x2=some r2)(u2:r2.one=true):Bp Tryz.prog n c l H { dst:=d,op:=.build 68 #[(1,x1),(2,x2)],type:=ty,pos:=pos,after:=af,guard:=g } (Bb [Ak 0,r1,r2]):=λa w Z ha _=>by
  have p1:=ha.ev h1;have c1:=By (r1.hone u1 Z _ p1);have p2:=ha.ev h2;have c2:=By (r2.hone u2 Z _ p2);have hb:Tryz.prog.built 68 [(1,a.eval x1),(2,a.eval x2)]=some #[(.int .i64 0),a.eval x1,a.eval x2]:=by
    rw[Tn];generalize a.eval x1=v1 at *;generalize a.eval x2=v2 at *;simp[Instr.fill,c1,c2]
  refine⟨.agg #[(.int .i64 0),a.eval x1,a.eval x2],⟨[(.int .i64 0),a.eval x1,a.eval x2],rfl,rfl,p1,p2,trivial⟩,?_⟩;have:=run_build w 68 #[(1,a.eval x1),(2,a.eval x2)] _ (by simpa using hb);simp[execOp,this]
theorem Tm (parts:List (Nat×Value)):Tryz.prog.built 87 parts=Instr.fill (λi=>(#[(0,1),(1,1),(2,1)]:Array (Nat×Nat))[i]?) #[((.slice none 0 0)),((.slice none 0 0)),(.int .i64 0)] parts:=by kernel_rfl
theorem NC {n:Nat}{c:Cx}{l:Fr}{H:List Ent}{d:Option Nat}{ty:TypeId}{pos:String}{af:Array Edge}{g:Option (Nat×Bool)}{x0:Operand}{r0:Rp}(h0:ev l x0=some r0)(u0:r0.one=true):Bp Tryz.prog n c l H { dst:=d,op:=.build 87 #[(0,x0)],type:=ty,pos:=pos,after:=af,guard:=g } (Bb [r0,rv (.slice none 0 0),Ak 0]):=λa w Z ha _=>by
  have p0:=ha.ev h0;have c0:=By (r0.hone u0 Z _ p0);have hb:Tryz.prog.built 87 [(0,a.eval x0)]=some #[a.eval x0,((.slice none 0 0)),(.int .i64 0)]:=by
    rw[Tm];generalize a.eval x0=v0 at *;simp[Instr.fill,c0]
  refine⟨.agg #[a.eval x0,((.slice none 0 0)),(.int .i64 0)],⟨[a.eval x0,((.slice none 0 0)),(.int .i64 0)],rfl,p0,rfl,rfl,trivial⟩,?_⟩;have:=run_build w 87 #[(0,a.eval x0)] _ (by simpa using hb);simp[execOp,this]
theorem R7  (r:(Aq×(List Ai)×(List Aj)))(h:R8=some r):Fn Tryz.prog GE 16 [] [] (λR H=>∃u0:Nat,∃u0_1:Nat,∃u0_2:Nat,∃u0_p1:Value,∃u0_p2:Value,R=rP u0 0∧H=[.blk u0 [Ak r.1.fNow,rv (.map (some u0_1)),rv (.map (some u0_2))] 68,.map u0_1 (AA (mP u0_1) r.1.fEntities),.map u0_2 (AA (mP u0_2) r.1.fCalls),.poolw u0_1 u0_p1 87 88 1 (Au (Af u0_2) r.2.1) none,.pool u0_2 u0_p2 44 (Au Ae r.2.2)]):=by
 refine enter (n:=5) Tryz.func16 Aa Tryz.ntmps16 Aa (λw Z=>?_);unfold R8 at h;refine As (wa Aa (BH (JX (e:=87) (re:=88) (rz:=1) Aa (λb1=>?_))));refine Ky (e:=44) Aa (λb2=>?_);refine wv (r:=Bb [Ak 0,rv (.map (some b1)),rv (.map (some b2))]) (Lx Aa Aa Aa Aa) (B8 Aa Aa (λb3=>?_));refine wa Aa (A3 (A8 (CD (H2:=[.blk b3 [Ak 0,rv (.map (some b1)),rv (.map (some b2))] 68,.map b1 (AA (mP b1) ([]:List (Am×Int))),.map b2 (AA (mP b2) ([]:List (Am×Int))),.poolw b1 (.tuple #[]) 87 88 1 (Au (Af b2) ([]:List Ai)) none,.pool b2 (.tuple #[]) 44 (Au Ae ([]:List Aj))]) ((Al (i:=0) Aa).trans (Vd _ ((Al (i:=3) Aa).trans (Vd _ ((Al (i:=1) Aa).trans (Vd _ ((Al (i:=1) Aa).trans (Vd _ (Vh _))))))))) ?_)));obtain rfl:=A9 h;exact A7 (Cd Tryz.results16 (AX Aa)) (sC (sC (sC (sC (sC sN))))) ⟨b3,b1,b2,(.tuple #[]),(.tuple #[]),Aa,Aa⟩
theorem IT (ha:Nat)(hb:Nat)(hd:Nat)(d:Aq)(r:Bool)(h:T4 d=some r):Fn Tryz.prog GE 44 [rP ha 0] [.blk ha [Ak d.fNow,rv (.map (some hb)),rv (.map (some hd))] 68] (λR H=>R=rB r∧H=[.blk ha [Ak d.fNow,rv (.map (some hb)),rv (.map (some hd))] 68]):=by
 refine enter (n:=12) Tryz.func44 Aa Tryz.ntmps44 Aa (λw Z=>?_);unfold T4 at h;refine As (wa Aa (A3 (Bc [(2,rB true)] [.blk ha [Ak d.fNow,rv (.map (some hb)),rv (.map (some hd))] 68] ?_ ?_)))
 ·refine AD (wm Aa (wv (r:=rB true) (Qn ⟨_,Tryz.underlying41⟩ Aa) (wm Aa (Br (b:=true) Aa Aa Aa (wm Aa (Br (b:=true) Aa Aa Aa (wv (AY Aa) (Br (b:=true) Aa Aa Aa (vF GR Aa Nf (Br (b:=true) Aa Aa Aa (vL 0 Nj Aa (Br (b:=true) Aa Aa Aa (wv (r:=rB true) (Qp (v:=some hb) Ot Aa) (wv (r:=rB true) (A6 (b:=true) Aa Aa Aa) (wa Aa (A5 ?_))))))))))))))));exact wt
 refine A8 ?_;obtain rfl:=A9 h;exact A7 (Cd Tryz.results44 (AX Aa)) (sC sN) ⟨Aa,Aa⟩
theorem Gs (F:Nat)(hd:Nat)(hb:Nat)(ha:Nat)(hi:Value)(hh:Value)(d:Aq)(d_p1:(List Ai))(d_p2:(List Aj))(op:At)(now:Int)(r:Int×Aq×(List Ai)×(List Aj))(h:Cg F d d_p1 d_p2 op now=some r):Fn Tryz.prog GE 18 [rP hd 0,Bb (Ao op),Ak now] [.blk hd [Ak d.fNow,rv (.map (some hb)),rv (.map (some ha))] 68,.map hb (AA (mP hb) d.fEntities),.map ha (AA (mP ha) d.fCalls),.poolw hb hi 87 88 1 (Au (Af ha) d_p1) none,.pool ha hh 44 (Au Ae d_p2)] (λR H=>∃w0_p1:Value,∃w0_p2:Value,R=Ak r.1∧H=[.blk hd [Ak r.2.1.fNow,rv (.map (some hb)),rv (.map (some ha))] 68,.map hb (AA (mP hb) r.2.1.fEntities),.map ha (AA (mP ha) r.2.1.fCalls),.poolw hb w0_p1 87 88 1 (Au (Af ha) r.2.2.1) none,.pool ha w0_p2 44 (Au Ae r.2.2.2)]):=by
 refine enter (n:=121) Tryz.func18 Aa Tryz.ntmps18 Aa (λw Z=>?_);unfold Cg at h;refine As (B8 Aa Aa (λb1=>?_));refine wa Aa (A3 (A1 (As (wm Aa (HP (Hr:=[.blk b1 (Ao op) 25,.map hb (AA (mP hb) d.fEntities),.map ha (AA (mP ha) d.fCalls),.poolw hb hi 87 88 1 (Au (Af ha) d_p1) none,.pool ha hh 44 (Au Ae d_p2)]) QV (IT hd hb ha d true Aa) Aa ((Al (i:=1) Aa).trans (Vd _ (Vh _))) Aa ?_)))));rintro _ _ ⟨rfl,rfl⟩;refine wv (BS Aa) (A3 (Es Aa (Dd Aa) (AG (Bf (A1 (As (wv (Bl (i:=1) EK Cp Aa Aa Aa Aa) (ob h λr2 e4 h3=>Dr Tryz.call36 (NJ F op r2 e4) Aa (wa Aa (BH (wm Aa (wv (DP Aa Aa) (A3 (cz h3 Aa (λc5 h6=>?_) (λc5 h7=>?_)))))))))))))))
 ·refine As (wm Aa (wa Aa (A3 (A8 (An ?_)))));obtain rfl:=A9 h6;exact A7 (Cd Ni (AX Aa)) (sC (sS (sC (sC (sC (sC sN)))))) ⟨hi,hh,Aa,Aa⟩
 ·refine AG (Bf (A1 (Bc [(0,rP hd 0),(2,Ak now),(4,rP b1 0),(26,rB ((decide (now<0))||(decide (1073741824<now))))] [.blk hd [Ak d.fNow,rv (.map (some hb)),rv (.map (some ha))] 68,.blk b1 (Ao op) 25,.map hb (AA (mP hb) d.fEntities),.map ha (AA (mP ha) d.fCalls),.poolw hb hi 87 88 1 (Au (Af ha) d_p1) none,.pool ha hh 44 (Au Ae d_p2)] ?_ ?_)))
  ·refine AD (wm Aa (wv (EN Aa Aa) (wm Aa (Be (decide (now<0)) (λc8=>?_) (λc8=>?_)))))
   ·refine wf c8 (wf c8 (wv (r:=rB true) (A6 Aa c8 Aa) (A5 ?_)));exact Dq c8
   ·refine wo c8 (wm Aa (wo c8 (wv (Gc Aa Aa) (Kw Aa c8 Aa (A5 ?_)))));exact Dq c8
  refine cz h7 Aa (λc9 h2=>?_) (λc9 h4=>?_)
  ·refine As (wa Aa (A3 (A8 (An ?_))));obtain rfl:=A9 h2;exact A7 (Cd Ni (AX Aa)) (sC (sS (sC (sC (sC (sC sN)))))) ⟨hi,hh,Aa,Aa⟩
  ·refine AG (Bf (A1 (As (wm Aa (wm Aa (wv (AY Aa) (vF GR Aa C9 (vL 0 DY Aa (wv (EN Aa Aa) (A3 (cz h4 Aa (λh5 h8=>?_) (λh5 h9=>?_))))))))))))
   ·refine As (wa Aa (A3 (A8 (An ?_))));obtain rfl:=A9 h8;exact A7 (Cd Ni (AX Aa)) (sC (sS (sC (sC (sC (sC sN)))))) ⟨hi,hh,Aa,Aa⟩
   ·refine AG (Bf (A1 (A1 (Dl [0,2,4] [⟨[],rP hd 0,0⟩,⟨[0],rP hd 0,0⟩,⟨[1],rP hd 2,0⟩,⟨[2],rv (.map (some ha)),1⟩,⟨[],rP b1 1,0⟩,⟨[4],rS op.fID,1⟩,⟨[3,5],Dc [EL ha (Ay d.fCalls op.fID (-1)) 0,rB (Bu d.fCalls op.fID)],1⟩,⟨[6],Dc [EL ha (Ay d.fCalls op.fID (-1)) 0,rB (Bu d.fCalls op.fID)],0⟩,⟨[7],EL ha (Ay d.fCalls op.fID (-1)) 0,0⟩,⟨[7],rB (Bu d.fCalls op.fID),0⟩,⟨[8],EL ha (Ay d.fCalls op.fID (-1)) 0,0⟩,⟨[9],rB (Bu d.fCalls op.fID),0⟩] [8,9,0,2,4] ?_ ?_))))
    ·refine oq (Ap Aa) (oq (AY Aa) (oq (AS GR Aa S6 Aa Aa) (of (B6 (i:=0) S9 Aa Aa Aa) (oq (AS BX Aa DX Aa Aa) (of (B6 (i:=1) Er Aa Aa Aa) (of (H9 (enc:=(mP ha)) (xs:=d.fCalls) (z:=(-1)) (i:=3) S4 GV TB (RD ha) Aa Aa Aa) (oq (Ap Aa) (oq (AU Aa Aa) (oq (AU Aa Aa) (oq (AT Aa) (oq (AT Aa) ?_)))))))))));exact CE
    refine Bf (As (wm Aa (A3 (cz h9 Aa (λhA hB=>?_) (λhA hC=>?_)))))
    ·refine A1 (A1 (ck hB λg17 hD=>ck hD λg19 hE=>C1 5 [0,2,4,8] [⟨[],EL ha (Ay d.fCalls op.fID (-1)) 0,none,none,none⟩,⟨[0],EL ha (Ay d.fCalls op.fID (-1)) 0,none,none,none⟩,⟨[1],EL ha (Ay d.fCalls op.fID (-1)) 0,none,none,none⟩,⟨[2],Bb (Ao ((Ad d_p2 (Ay d.fCalls op.fID (-1))).fOp)),none,none,none⟩,⟨[],Bb (Ao op),none,none,none⟩] ?_ (λβ=>?_)))
     ·refine C3 (Ap Aa) (C3 (CW Aa g17) (C3 (MB CX Aa Cp Aa g17 Aa) (JZ (HA (enc:=Ae) (xs:=d_p2) (j:=5) EK Cp Aa Aa g19 Aa Aa) (JZ (Bl (i:=1) EK Cp Aa Aa Aa Aa) ?_))));exact OA
     refine Dj (H1:=[.blk hd [Ak d.fNow,rv (.map (some hb)),rv (.map (some ha))] 68,.blk b1 (Ao op) 25,.map hb (AA (mP hb) d.fEntities),.map ha (AA (mP ha) d.fCalls),.poolw hb hi 87 88 1 (Au (Af ha) d_p1) none,.pool ha hh 44 (Au Ae d_p2)]) [44,45,46,47,48,0,2,4,8] ?_;refine ob hE λhG hH hI=>Dr Tryz.call46 (SS F ((Ad d_p2 (Ay d.fCalls op.fID (-1))).fOp) op hG hH) Aa (wv (BS Aa) (A3 (cz hI Aa (λhJ hK=>?_) (λhJ hL=>?_))))
     ·refine As (wa Aa (A3 (A8 (An (An ?_)))));obtain rfl:=A9 hK;exact A7 (Cd Ni (AX Aa)) (sC (sS (sC (sC (sC (sC sN)))))) ⟨hi,hh,Aa,Aa⟩
     ·refine AG (Bf (As (wm Aa (wm Aa (wv (AY Aa) (vF GR Aa C9 (BQ (i:=0) C9 Aa Aa (Cc Aa) Aa Aa (cs':=[Ak now,rv (.map (some hb)),rv (.map (some ha))]) Aa (H':=[.blk hd [Ak now,rv (.map (some hb)),rv (.map (some ha))] 68,.blk b1 (Ao op) 25,.map hb (AA (mP hb) d.fEntities),.map ha (AA (mP ha) d.fCalls),.poolw hb hi 87 88 1 (Au (Af ha) d_p1) none,.pool ha hh 44 (Au Ae d_p2)]) Aa (BH (wa Aa (A3 (A8 (An ?_))))))))))));obtain rfl:=A9 hL;exact A7 (Cd Ni (AX Aa)) (sC (sS (sC (sC (sC (sC sN)))))) ⟨hi,hh,Aa,Aa⟩
    ·refine AG (Bf (A1 (Dl [0,2,4] [⟨[],rP hd 0,0⟩,⟨[0],rP hd 0,0⟩,⟨[1],rP hd 1,0⟩,⟨[2],rv (.map (some hb)),1⟩,⟨[],rP b1 0,0⟩,⟨[4],rS op.fEntity,1⟩,⟨[3,5],Dc [EL hb (Ay d.fEntities op.fEntity (-1)) 0,rB (Bu d.fEntities op.fEntity)],1⟩,⟨[6],Dc [EL hb (Ay d.fEntities op.fEntity (-1)) 0,rB (Bu d.fEntities op.fEntity)],0⟩,⟨[7],EL hb (Ay d.fEntities op.fEntity (-1)) 0,0⟩,⟨[7],rB (Bu d.fEntities op.fEntity),0⟩,⟨[8],EL hb (Ay d.fEntities op.fEntity (-1)) 0,0⟩,⟨[9],rB (Bu d.fEntities op.fEntity),0⟩] [10,11,0,2,4] ?_ ?_)))
     ·refine oq (Ap Aa) (oq (AY Aa) (oq (AS GR Aa Nf Aa Aa) (of (B6 (i:=0) Nj Aa Aa Aa) (oq (AS BX Aa DX Aa Aa) (of (B6 (i:=1) Er Aa Aa Aa) (of (H9 (enc:=(mP hb)) (xs:=d.fEntities) (z:=(-1)) (i:=2) Ot GV S3 (RD hb) Aa Aa Aa) (oq (Ap Aa) (oq (AU Aa Aa) (oq (AU Aa Aa) (oq (AT Aa) (oq (AT Aa) ?_)))))))))));exact CE
     refine Bf (A1 (Bc [(0,rP hd 0),(2,Ak now),(4,rP b1 0),(10,EL hb (Ay d.fEntities op.fEntity (-1)) 0),(11,rB (Bu d.fEntities op.fEntity)),(82,rB ((decide ((d.fCalls.length:Int)=256))||((!(Bu d.fEntities op.fEntity))&&(decide ((d.fEntities.length:Int)=256)))))] [.blk hd [Ak d.fNow,rv (.map (some hb)),rv (.map (some ha))] 68,.blk b1 (Ao op) 25,.map hb (AA (mP hb) d.fEntities),.map ha (AA (mP ha) d.fCalls),.poolw hb hi 87 88 1 (Au (Af ha) d_p1) none,.pool ha hh 44 (Au Ae d_p2)] ?_ ?_))
     ·refine AD (wm Aa (wv (AY Aa) (vF GR Aa S6 (vL 0 S9 Aa (wv (r:=Ak (d.fCalls.length:Int)) (R4 (N:=d.fCalls.length) (i:=3) S4 Aa Aa (Hl _ _)) (wv (BW Aa Aa) (wm Aa (Be (decide ((d.fCalls.length:Int)=256)) (λhk=>?_) (λhk=>?_)))))))))
      ·refine wf hk (wf hk (wf hk (wu (wu (wu (wu (wu (wu (wf hk (wv (r:=rB true) (A6 Aa hk Aa) (A5 ?_)))))))))));exact Dq hk
      ·refine wo hk (wm Aa (wo hk (wv (BS Aa) (wo hk (wm Aa (Be (!(Bu d.fEntities op.fEntity)) (λhj=>?_) (λhj=>?_)))))))
       ·refine wo hj (wm Aa (wo hj (wv (AY Aa) (wo hj (vF GR Aa Nf (wo hj (vL 0 Nj Aa (wo hj (wv (r:=Ak (d.fEntities.length:Int)) (R4 (N:=d.fEntities.length) (i:=2) Ot Aa Aa (Hl _ _)) (wo hj (wv (BW Aa Aa) (wo hk (GW Aa hj Aa (Kw Aa hk Aa (A5 ?_)))))))))))))));exact Dq (And.intro hk hj)
       ·refine wf hj (wf hj (wf hj (wf hj (wf hj (wf hj (wo hk (wv (r:=rB false) (AC Aa hj Aa) (Kw Aa hk Aa (A5 ?_)))))))));exact Dq (And.intro hk hj)
     refine cz hC Aa (λhN hO=>?_) (λhN hP=>?_)
     ·refine As (wa Aa (A3 (A8 (An ?_))));obtain rfl:=A9 hO;exact A7 (Cd Ni (AX Aa)) (sC (sS (sC (sC (sC (sC sN)))))) ⟨hi,hh,Aa,Aa⟩
     ·refine AG (Bf (A1 (As (wm Aa (wv (BS Aa) (A3 (cz hP Aa (λhQ hR=>?_) (λhQ hS=>?_))))))))
      ·refine As (ob hR λhe hT hU=>Dr Tryz.call47 (Mp he hT) Aa (wv (r:=Bb [AH 4 (Au Ac he),rv (.slice none 0 0),Ak 0]) (NC Aa Aa) (B8 Aa Aa (λhw=>?_))));refine wa Aa (A3 (C1 7 [0,2,4,10] [⟨[],rP hd 0,none,none,none⟩,⟨[0],rP hd 0,none,none,none⟩,⟨[1],rP hd 1,none,none,none⟩,⟨[2],rv (.map (some hb)),none,none,none⟩,⟨[],rP b1 0,none,none,none⟩,⟨[4],rS op.fEntity,none,none,none⟩,⟨[],rP hw 0,none,none,none⟩] ?_ (λβ=>?_)))
       ·refine C3 (Ap Aa) (C3 (AY Aa) (C3 (AS GR Aa Nf Aa Aa) (JZ (B6 (i:=1) Nj Aa Aa Aa) (C3 (AS BX Aa DX Aa Aa) (JZ (B6 (i:=2) Er Aa Aa Aa) (C3 (Ap Aa) ?_))))));exact OA
       refine Dj (H1:=[.blk hw [AH 4 (Au Ac he),rv (.slice none 0 0),Ak 0] 87,.blk hd [Ak d.fNow,rv (.map (some hb)),rv (.map (some ha))] 68,.blk b1 (Ao op) 25,.map hb (AA (mP hb) d.fEntities),.map ha (AA (mP ha) d.fCalls),.poolw hb hi 87 88 1 (Au (Af ha) d_p1) none,.pool ha hh 44 (Au Ae d_p2)]) [88,89,90,91,92,93,94,0,2,4,10] ?_;refine WL.nilrow (e:=88) (sz:=1) (WL.adoptW (encw:=(Af ha)) (xs:=d_p1) (y:=(Ai.mk he ([]:List Int) 0)) (Hr:=[.blk hd [Ak d.fNow,rv (.map (some hb)),rv (.map (some ha))] 68,.blk b1 (Ao op) 25,.map hb (AA (mP hb) d.fEntities),.map ha (AA (mP ha) d.fCalls),.pool ha hh 44 (Au Ae d_p2)]) ((Al (i:=1) Aa).trans (Vd _ ((Al (i:=0) Aa).trans (Vd _ ((Al (i:=4) Aa).trans (Vd _ (Vh _))))))) [10,94] ⟨Aa,Aa,trivial⟩ Aa Aa (λhp=>?_));refine Kf (enc:=(mP hb)) (xs:=d.fEntities) (v:=(d_p1.length:Int)) (i:=3) Ot GV Aa Aa Aa Aa (H':=[.poolw hb hp 87 88 1 (Au (Af ha) (d_p1++[(Ai.mk he ([]:List Int) 0)])) none,.blk hd [Ak d.fNow,rv (.map (some hb)),rv (.map (some ha))] 68,.blk b1 (Ao op) 25,.map hb (AA (mP hb) (mset d.fEntities op.fEntity (d_p1.length:Int))),.map ha (AA (mP ha) d.fCalls),.pool ha hh 44 (Au Ae d_p2)]) Aa (BH (wm Aa (wm Aa (wv (AY Aa) (vF GR Aa C9 (BQ (i:=1) C9 Aa Aa (Cc Aa) Aa Aa (cs':=[Ak now,rv (.map (some hb)),rv (.map (some ha))]) Aa (H':=[.poolw hb hp 87 88 1 (Au (Af ha) (d_p1++[(Ai.mk he ([]:List Int) 0)])) none,.blk hd [Ak now,rv (.map (some hb)),rv (.map (some ha))] 68,.blk b1 (Ao op) 25,.map hb (AA (mP hb) (mset d.fEntities op.fEntity (d_p1.length:Int))),.map ha (AA (mP ha) d.fCalls),.pool ha hh 44 (Au Ae d_p2)]) Aa (BH (wv (Bl (i:=2) EK Cp Aa Aa Aa Aa) (ob hU λhf hV hW=>Dr Tryz.call48 (KG F op hf hV) Aa (wm Aa (wv (r:=Bb [rS hf.fEntity,rS hf.fID,rS hf.fOp,AH 1 (Au Ah hf.fArgs),Ak 0,rv (.slice none 0 0),Ak now,Ak (-1)]) (GM Aa Aa Aa Aa Aa) (B8 Aa Aa (λhx=>?_)))))))))))));refine wa Aa (BH (wm Aa (wm Aa (ck hW λhy hX=>WL.takeout (encw:=(Af ha)) (xs:=d_p1++[(Ai.mk he ([]:List Int) 0)]) (i:=(d_p1.length:Int)) (Hr:=[.blk hx [rS hf.fEntity,rS hf.fID,rS hf.fOp,AH 1 (Au Ah hf.fArgs),Ak 0,rv (.slice none 0 0),Ak now,Ak (-1)] 44,.blk hd [Ak now,rv (.map (some hb)),rv (.map (some ha))] 68,.blk b1 (Ao op) 25,.map hb (AA (mP hb) (mset d.fEntities op.fEntity (d_p1.length:Int))),.map ha (AA (mP ha) d.fCalls),.pool ha hh 44 (Au Ae d_p2)]) ((Al (i:=1) Aa).trans (Vd _ (Vh _))) hy [10,94,104,105] ⟨Aa,Aa,Aa,Aa,trivial⟩ (λhl hn=>?_)))));refine Mm (H':=[.blk hl [AH 4 (Au Ac ((Ad (d_p1++[(Ai.mk he ([]:List Int) 0)]) (d_p1.length:Int)).fState)),rv hn,Ak ((Ad (d_p1++[(Ai.mk he ([]:List Int) 0)]) (d_p1.length:Int)).fDone)] 87,.row hn 88 1 (Au (eP ha) ((Ad (d_p1++[(Ai.mk he ([]:List Int) 0)]) (d_p1.length:Int)).fCalls)),.poolw hb hp 87 88 1 (Au (Af ha) (d_p1++[(Ai.mk he ([]:List Int) 0)])) (some (CU (d_p1.length:Int),(hl,hn))),.blk hx [rS hf.fEntity,rS hf.fID,rS hf.fOp,AH 1 (Au Ah hf.fArgs),Ak 0,rv (.slice none 0 0),Ak now,Ak (-1)] 44,.blk hd [Ak now,rv (.map (some hb)),rv (.map (some ha))] 68,.blk b1 (Ao op) 25,.map hb (AA (mP hb) (mset d.fEntities op.fEntity (d_p1.length:Int))),.map ha (AA (mP ha) d.fCalls),.pool ha hh 44 (Au Ae d_p2)]) Aa (wv (AY Aa) (vF Iz Aa Mk (vL 0 QY Aa (wm Aa (WL.upBlk (i:=3) (cs':=[rS hf.fEntity,rS hf.fID,rS hf.fOp,AH 1 (Au Ah hf.fArgs),Ak 0,AH 4 (Au Ac ([]:List Ab)),Ak now,Ak (-1)]) Aa ⟨Up.refl _,Up.refl _,Up.refl _,Up.refl _,Up.refl _,Up.le (GZ.nil _),Up.refl _,Up.refl _,trivial⟩ (WL.adopt (enc:=Ae) (xs:=d_p2) (y:=(Aj.mk hf (A0.mk 0 ([]:List Ab)) now (-1))) (Hr:=[.blk hl [AH 4 (Au Ac ((Ad (d_p1++[(Ai.mk he ([]:List Int) 0)]) (d_p1.length:Int)).fState)),rv hn,Ak ((Ad (d_p1++[(Ai.mk he ([]:List Int) 0)]) (d_p1.length:Int)).fDone)] 87,.row hn 88 1 (Au (eP ha) ((Ad (d_p1++[(Ai.mk he ([]:List Int) 0)]) (d_p1.length:Int)).fCalls)),.poolw hb hp 87 88 1 (Au (Af ha) (d_p1++[(Ai.mk he ([]:List Int) 0)])) (some (CU (d_p1.length:Int),(hl,hn))),.blk hd [Ak now,rv (.map (some hb)),rv (.map (some ha))] 68,.blk b1 (Ao op) 25,.map hb (AA (mP hb) (mset d.fEntities op.fEntity (d_p1.length:Int))),.map ha (AA (mP ha) d.fCalls)]) ((Al (i:=3) Aa).trans (Vd _ ((Al (i:=7) Aa).trans (Vd _ (Vh _))))) [12,103,109] ⟨Aa,Aa,Aa,trivial⟩ Aa (λhs=>?_)))))));refine Bq (ys:=([(d_p2.length:Int)]:List Int)) (enc:=(eP ha)) (css:=[[EL ha (d_p2.length:Int) 0]]) (xs:=[.tmp 109]) Na S5 TB Aa Aa Aa ⟨Kt.one Aa (Up.refl _),trivial⟩ Aa (MM ha) Aa Aa Aa (λht=>?_);refine ck hX λhY hZ=>Exists.elim RR λinf hinf=>DZ (xs:=(Ad (d_p1++[(Ai.mk he ([]:List Int) 0)]) (d_p1.length:Int)).fCalls) (ys:=([(d_p2.length:Int)]:List Int)) (enc:=(eP ha)) (i:=3) Na hinf.1 hinf.2.1 hinf.2.2.1 hinf.2.2.2 Aa Aa Aa Aa Aa (PL.w (i:=0) Aa Aa) (MM ha) (Sk ha) hY Aa (λhq=>?_);refine wv (AY Aa) (vF Iz Aa Mk (BQ (i:=3) Mk Aa Aa (IK (i:=0) Aa) Aa Aa (cs':=[AH 4 (Au Ac ((Ad (d_p1++[(Ai.mk he ([]:List Int) 0)]) (d_p1.length:Int)).fState)),rv hq,Ak ((Ad (d_p1++[(Ai.mk he ([]:List Int) 0)]) (d_p1.length:Int)).fDone)]) Aa (H':=[.row hq 88 1 (Au (eP ha) (((Ad (d_p1++[(Ai.mk he ([]:List Int) 0)]) (d_p1.length:Int)).fCalls)++([(d_p2.length:Int)]:List Int))),.row (.slice (some ⟨ht,0,none⟩) 1 1) 88 1 (Au (eP ha) ([(d_p2.length:Int)]:List Int)),.pool ha hs 44 (Au Ae (d_p2++[(Aj.mk hf (A0.mk 0 ([]:List Ab)) now (-1))])),.blk hl [AH 4 (Au Ac ((Ad (d_p1++[(Ai.mk he ([]:List Int) 0)]) (d_p1.length:Int)).fState)),rv hq,Ak ((Ad (d_p1++[(Ai.mk he ([]:List Int) 0)]) (d_p1.length:Int)).fDone)] 87,.poolw hb hp 87 88 1 (Au (Af ha) (d_p1++[(Ai.mk he ([]:List Int) 0)])) (some (CU (d_p1.length:Int),(hl,hn))),.blk hd [Ak now,rv (.map (some hb)),rv (.map (some ha))] 68,.blk b1 (Ao op) 25,.map hb (AA (mP hb) (mset d.fEntities op.fEntity (d_p1.length:Int))),.map ha (AA (mP ha) d.fCalls)]) Aa (A3 (A1 (C1 7 [0,4,12] [⟨[],rP hd 0,none,none,none⟩,⟨[0],rP hd 0,none,none,none⟩,⟨[1],rP hd 2,none,none,none⟩,⟨[2],rv (.map (some ha)),none,none,none⟩,⟨[],rP b1 1,none,none,none⟩,⟨[4],rS op.fID,none,none,none⟩,⟨[],EL ha (d_p2.length:Int) 0,none,none,none⟩] ?_ (λβ=>?_))))))
       ·refine C3 (Ap Aa) (C3 (AY Aa) (C3 (AS GR Aa S6 Aa Aa) (JZ (B6 (i:=5) S9 Aa Aa Aa) (C3 (AS BX Aa DX Aa Aa) (JZ (B6 (i:=6) Er Aa Aa Aa) (C3 (Ap Aa) ?_))))));exact OA
       refine Dj (H1:=[.row hq 88 1 (Au (eP ha) (((Ad (d_p1++[(Ai.mk he ([]:List Int) 0)]) (d_p1.length:Int)).fCalls)++([(d_p2.length:Int)]:List Int))),.row (.slice (some ⟨ht,0,none⟩) 1 1) 88 1 (Au (eP ha) ([(d_p2.length:Int)]:List Int)),.pool ha hs 44 (Au Ae (d_p2++[(Aj.mk hf (A0.mk 0 ([]:List Ab)) now (-1))])),.blk hl [AH 4 (Au Ac ((Ad (d_p1++[(Ai.mk he ([]:List Int) 0)]) (d_p1.length:Int)).fState)),rv hq,Ak ((Ad (d_p1++[(Ai.mk he ([]:List Int) 0)]) (d_p1.length:Int)).fDone)] 87,.poolw hb hp 87 88 1 (Au (Af ha) (d_p1++[(Ai.mk he ([]:List Int) 0)])) (some (CU (d_p1.length:Int),(hl,hn))),.blk hd [Ak now,rv (.map (some hb)),rv (.map (some ha))] 68,.blk b1 (Ao op) 25,.map hb (AA (mP hb) (mset d.fEntities op.fEntity (d_p1.length:Int))),.map ha (AA (mP ha) d.fCalls)]) [114,115,116,117,118,119,120,0,4,12] ?_;refine Kf (enc:=(mP ha)) (xs:=d.fCalls) (v:=(d_p2.length:Int)) (i:=8) S4 GV Aa Aa Aa Aa (H':=[.row hq 88 1 (Au (eP ha) (((Ad (d_p1++[(Ai.mk he ([]:List Int) 0)]) (d_p1.length:Int)).fCalls)++([(d_p2.length:Int)]:List Int))),.row (.slice (some ⟨ht,0,none⟩) 1 1) 88 1 (Au (eP ha) ([(d_p2.length:Int)]:List Int)),.pool ha hs 44 (Au Ae (d_p2++[(Aj.mk hf (A0.mk 0 ([]:List Ab)) now (-1))])),.blk hl [AH 4 (Au Ac ((Ad (d_p1++[(Ai.mk he ([]:List Int) 0)]) (d_p1.length:Int)).fState)),rv hq,Ak ((Ad (d_p1++[(Ai.mk he ([]:List Int) 0)]) (d_p1.length:Int)).fDone)] 87,.poolw hb hp 87 88 1 (Au (Af ha) (d_p1++[(Ai.mk he ([]:List Int) 0)])) (some (CU (d_p1.length:Int),(hl,hn))),.blk hd [Ak now,rv (.map (some hb)),rv (.map (some ha))] 68,.blk b1 (Ao op) 25,.map hb (AA (mP hb) (mset d.fEntities op.fEntity (d_p1.length:Int))),.map ha (AA (mP ha) (mset d.fCalls op.fID (d_p2.length:Int)))]) Aa (BH (wa Aa (A3 (A8 (WK.putback (y:=(Ai.mk ((Ad (d_p1++[(Ai.mk he ([]:List Int) 0)]) (d_p1.length:Int)).fState) (((Ad (d_p1++[(Ai.mk he ([]:List Int) 0)]) (d_p1.length:Int)).fCalls)++([(d_p2.length:Int)]:List Int)) ((Ad (d_p1++[(Ai.mk he ([]:List Int) 0)]) (d_p1.length:Int)).fDone))) (encw:=(Af ha)) (xs:=d_p1++[(Ai.mk he ([]:List Int) 0)]) (i:=(d_p1.length:Int)) (Hr:=[.row (.slice (some ⟨ht,0,none⟩) 1 1) 88 1 (Au (eP ha) ([(d_p2.length:Int)]:List Int)),.pool ha hs 44 (Au Ae (d_p2++[(Aj.mk hf (A0.mk 0 ([]:List Ab)) now (-1))])),.blk hd [Ak now,rv (.map (some hb)),rv (.map (some ha))] 68,.blk b1 (Ao op) 25,.map hb (AA (mP hb) (mset d.fEntities op.fEntity (d_p1.length:Int))),.map ha (AA (mP ha) (mset d.fCalls op.fID (d_p2.length:Int)))]) ((Al (i:=3) Aa).trans (Vd _ ((Al (i:=0) Aa).trans (Vd _ ((Al (i:=2) Aa).trans (Vd _ (Vh _))))))) hy [] trivial Aa Aa (λv53=>?_))))));refine CD (H2:=[.blk hd [Ak now,rv (.map (some hb)),rv (.map (some ha))] 68,.map hb (AA (mP hb) (mset d.fEntities op.fEntity (d_p1.length:Int))),.map ha (AA (mP ha) (mset d.fCalls op.fID (d_p2.length:Int))),.poolw hb v53 87 88 1 (Au (Af ha) (List.set (d_p1++[(Ai.mk he ([]:List Int) 0)]) (CU (d_p1.length:Int)) (Ai.mk ((Ad (d_p1++[(Ai.mk he ([]:List Int) 0)]) (d_p1.length:Int)).fState) (((Ad (d_p1++[(Ai.mk he ([]:List Int) 0)]) (d_p1.length:Int)).fCalls)++([(d_p2.length:Int)]:List Int)) ((Ad (d_p1++[(Ai.mk he ([]:List Int) 0)]) (d_p1.length:Int)).fDone)))) none,.pool ha hs 44 (Au Ae (d_p2++[(Aj.mk hf (A0.mk 0 ([]:List Ab)) now (-1))])),.row (.slice (some ⟨ht,0,none⟩) 1 1) 88 1 (Au (eP ha) ([(d_p2.length:Int)]:List Int)),.blk b1 (Ao op) 25]) ((Al (i:=3) Aa).trans (Vd _ ((Al (i:=4) Aa).trans (Vd _ ((Al (i:=4) Aa).trans (Vd _ ((Al (i:=0) Aa).trans (Vd _ ((Al (i:=1) Aa).trans (Vd _ (Vh _))))))))))) ?_;obtain rfl:=A9 hZ;exact A7 (Cd Ni (AX Aa)) (sC (sC (sC (sC (sC (sS (sS sN))))))) ⟨v53,hs,Aa,Aa⟩
      ·refine AG (Bf (As (wm Aa (wm Aa (wv (AY Aa) (vF GR Aa C9 (BQ (i:=0) C9 Aa Aa (Cc Aa) Aa Aa (cs':=[Ak now,rv (.map (some hb)),rv (.map (some ha))]) Aa (H':=[.blk hd [Ak now,rv (.map (some hb)),rv (.map (some ha))] 68,.blk b1 (Ao op) 25,.map hb (AA (mP hb) d.fEntities),.map ha (AA (mP ha) d.fCalls),.poolw hb hi 87 88 1 (Au (Af ha) d_p1) none,.pool ha hh 44 (Au Ae d_p2)]) Aa (BH (wv (Bl (i:=1) EK Cp Aa Aa Aa Aa) (ob hS λhg ga gb=>Dr Tryz.call48 (KG F op hg ga) Aa (wm Aa (wv (r:=Bb [rS hg.fEntity,rS hg.fID,rS hg.fOp,AH 1 (Au Ah hg.fArgs),Ak 0,rv (.slice none 0 0),Ak now,Ak (-1)]) (GM Aa Aa Aa Aa Aa) (B8 Aa Aa (λhz=>?_))))))))))))));refine wa Aa (BH (wm Aa (wm Aa (ck gb λh0 gc=>WL.takeout (encw:=(Af ha)) (xs:=d_p1) (i:=Ay d.fEntities op.fEntity (-1)) (Hr:=[.blk hz [rS hg.fEntity,rS hg.fID,rS hg.fOp,AH 1 (Au Ah hg.fArgs),Ak 0,rv (.slice none 0 0),Ak now,Ak (-1)] 44,.blk hd [Ak now,rv (.map (some hb)),rv (.map (some ha))] 68,.blk b1 (Ao op) 25,.map hb (AA (mP hb) d.fEntities),.map ha (AA (mP ha) d.fCalls),.pool ha hh 44 (Au Ae d_p2)]) ((Al (i:=5) Aa).trans (Vd _ (Vh _))) h0 [10,104,105] ⟨Aa,Aa,Aa,trivial⟩ (λhm ho=>?_)))));refine Mm (H':=[.blk hm [AH 4 (Au Ac ((Ad d_p1 (Ay d.fEntities op.fEntity (-1))).fState)),rv ho,Ak ((Ad d_p1 (Ay d.fEntities op.fEntity (-1))).fDone)] 87,.row ho 88 1 (Au (eP ha) ((Ad d_p1 (Ay d.fEntities op.fEntity (-1))).fCalls)),.poolw hb hi 87 88 1 (Au (Af ha) d_p1) (some (CU (Ay d.fEntities op.fEntity (-1)),(hm,ho))),.blk hz [rS hg.fEntity,rS hg.fID,rS hg.fOp,AH 1 (Au Ah hg.fArgs),Ak 0,rv (.slice none 0 0),Ak now,Ak (-1)] 44,.blk hd [Ak now,rv (.map (some hb)),rv (.map (some ha))] 68,.blk b1 (Ao op) 25,.map hb (AA (mP hb) d.fEntities),.map ha (AA (mP ha) d.fCalls),.pool ha hh 44 (Au Ae d_p2)]) Aa (wv (AY Aa) (vF Iz Aa Mk (vL 0 QY Aa (wm Aa (WL.upBlk (i:=3) (cs':=[rS hg.fEntity,rS hg.fID,rS hg.fOp,AH 1 (Au Ah hg.fArgs),Ak 0,AH 4 (Au Ac ([]:List Ab)),Ak now,Ak (-1)]) Aa ⟨Up.refl _,Up.refl _,Up.refl _,Up.refl _,Up.refl _,Up.le (GZ.nil _),Up.refl _,Up.refl _,trivial⟩ (WL.adopt (enc:=Ae) (xs:=d_p2) (y:=(Aj.mk hg (A0.mk 0 ([]:List Ab)) now (-1))) (Hr:=[.blk hm [AH 4 (Au Ac ((Ad d_p1 (Ay d.fEntities op.fEntity (-1))).fState)),rv ho,Ak ((Ad d_p1 (Ay d.fEntities op.fEntity (-1))).fDone)] 87,.row ho 88 1 (Au (eP ha) ((Ad d_p1 (Ay d.fEntities op.fEntity (-1))).fCalls)),.poolw hb hi 87 88 1 (Au (Af ha) d_p1) (some (CU (Ay d.fEntities op.fEntity (-1)),(hm,ho))),.blk hd [Ak now,rv (.map (some hb)),rv (.map (some ha))] 68,.blk b1 (Ao op) 25,.map hb (AA (mP hb) d.fEntities),.map ha (AA (mP ha) d.fCalls)]) ((Al (i:=3) Aa).trans (Vd _ ((Al (i:=7) Aa).trans (Vd _ (Vh _))))) [12,103,109] ⟨Aa,Aa,Aa,trivial⟩ Aa (λv64=>?_)))))));refine Bq (ys:=([(d_p2.length:Int)]:List Int)) (enc:=(eP ha)) (css:=[[EL ha (d_p2.length:Int) 0]]) (xs:=[.tmp 109]) Na S5 TB Aa Aa Aa ⟨Kt.one Aa (Up.refl _),trivial⟩ Aa (MM ha) Aa Aa Aa (λhu=>?_);refine ck gc λgd ge=>Exists.elim RR λinf hinf=>DZ (xs:=(Ad d_p1 (Ay d.fEntities op.fEntity (-1))).fCalls) (ys:=([(d_p2.length:Int)]:List Int)) (enc:=(eP ha)) (i:=3) Na hinf.1 hinf.2.1 hinf.2.2.1 hinf.2.2.2 Aa Aa Aa Aa Aa (PL.w (i:=0) Aa Aa) (MM ha) (Sk ha) gd Aa (λhr=>?_);refine wv (AY Aa) (vF Iz Aa Mk (BQ (i:=3) Mk Aa Aa (IK (i:=0) Aa) Aa Aa (cs':=[AH 4 (Au Ac ((Ad d_p1 (Ay d.fEntities op.fEntity (-1))).fState)),rv hr,Ak ((Ad d_p1 (Ay d.fEntities op.fEntity (-1))).fDone)]) Aa (H':=[.row hr 88 1 (Au (eP ha) (((Ad d_p1 (Ay d.fEntities op.fEntity (-1))).fCalls)++([(d_p2.length:Int)]:List Int))),.row (.slice (some ⟨hu,0,none⟩) 1 1) 88 1 (Au (eP ha) ([(d_p2.length:Int)]:List Int)),.pool ha v64 44 (Au Ae (d_p2++[(Aj.mk hg (A0.mk 0 ([]:List Ab)) now (-1))])),.blk hm [AH 4 (Au Ac ((Ad d_p1 (Ay d.fEntities op.fEntity (-1))).fState)),rv hr,Ak ((Ad d_p1 (Ay d.fEntities op.fEntity (-1))).fDone)] 87,.poolw hb hi 87 88 1 (Au (Af ha) d_p1) (some (CU (Ay d.fEntities op.fEntity (-1)),(hm,ho))),.blk hd [Ak now,rv (.map (some hb)),rv (.map (some ha))] 68,.blk b1 (Ao op) 25,.map hb (AA (mP hb) d.fEntities),.map ha (AA (mP ha) d.fCalls)]) Aa (A3 (A1 (C1 7 [0,4,12] [⟨[],rP hd 0,none,none,none⟩,⟨[0],rP hd 0,none,none,none⟩,⟨[1],rP hd 2,none,none,none⟩,⟨[2],rv (.map (some ha)),none,none,none⟩,⟨[],rP b1 1,none,none,none⟩,⟨[4],rS op.fID,none,none,none⟩,⟨[],EL ha (d_p2.length:Int) 0,none,none,none⟩] ?_ (λβ=>?_))))))
       ·refine C3 (Ap Aa) (C3 (AY Aa) (C3 (AS GR Aa S6 Aa Aa) (JZ (B6 (i:=5) S9 Aa Aa Aa) (C3 (AS BX Aa DX Aa Aa) (JZ (B6 (i:=6) Er Aa Aa Aa) (C3 (Ap Aa) ?_))))));exact OA
       refine Dj (H1:=[.row hr 88 1 (Au (eP ha) (((Ad d_p1 (Ay d.fEntities op.fEntity (-1))).fCalls)++([(d_p2.length:Int)]:List Int))),.row (.slice (some ⟨hu,0,none⟩) 1 1) 88 1 (Au (eP ha) ([(d_p2.length:Int)]:List Int)),.pool ha v64 44 (Au Ae (d_p2++[(Aj.mk hg (A0.mk 0 ([]:List Ab)) now (-1))])),.blk hm [AH 4 (Au Ac ((Ad d_p1 (Ay d.fEntities op.fEntity (-1))).fState)),rv hr,Ak ((Ad d_p1 (Ay d.fEntities op.fEntity (-1))).fDone)] 87,.poolw hb hi 87 88 1 (Au (Af ha) d_p1) (some (CU (Ay d.fEntities op.fEntity (-1)),(hm,ho))),.blk hd [Ak now,rv (.map (some hb)),rv (.map (some ha))] 68,.blk b1 (Ao op) 25,.map hb (AA (mP hb) d.fEntities),.map ha (AA (mP ha) d.fCalls)]) [114,115,116,117,118,119,120,0,4,12] ?_;refine Kf (enc:=(mP ha)) (xs:=d.fCalls) (v:=(d_p2.length:Int)) (i:=8) S4 GV Aa Aa Aa Aa (H':=[.row hr 88 1 (Au (eP ha) (((Ad d_p1 (Ay d.fEntities op.fEntity (-1))).fCalls)++([(d_p2.length:Int)]:List Int))),.row (.slice (some ⟨hu,0,none⟩) 1 1) 88 1 (Au (eP ha) ([(d_p2.length:Int)]:List Int)),.pool ha v64 44 (Au Ae (d_p2++[(Aj.mk hg (A0.mk 0 ([]:List Ab)) now (-1))])),.blk hm [AH 4 (Au Ac ((Ad d_p1 (Ay d.fEntities op.fEntity (-1))).fState)),rv hr,Ak ((Ad d_p1 (Ay d.fEntities op.fEntity (-1))).fDone)] 87,.poolw hb hi 87 88 1 (Au (Af ha) d_p1) (some (CU (Ay d.fEntities op.fEntity (-1)),(hm,ho))),.blk hd [Ak now,rv (.map (some hb)),rv (.map (some ha))] 68,.blk b1 (Ao op) 25,.map hb (AA (mP hb) d.fEntities),.map ha (AA (mP ha) (mset d.fCalls op.fID (d_p2.length:Int)))]) Aa (BH (wa Aa (A3 (A8 (WK.putback (y:=(Ai.mk ((Ad d_p1 (Ay d.fEntities op.fEntity (-1))).fState) (((Ad d_p1 (Ay d.fEntities op.fEntity (-1))).fCalls)++([(d_p2.length:Int)]:List Int)) ((Ad d_p1 (Ay d.fEntities op.fEntity (-1))).fDone))) (encw:=(Af ha)) (xs:=d_p1) (i:=Ay d.fEntities op.fEntity (-1)) (Hr:=[.row (.slice (some ⟨hu,0,none⟩) 1 1) 88 1 (Au (eP ha) ([(d_p2.length:Int)]:List Int)),.pool ha v64 44 (Au Ae (d_p2++[(Aj.mk hg (A0.mk 0 ([]:List Ab)) now (-1))])),.blk hd [Ak now,rv (.map (some hb)),rv (.map (some ha))] 68,.blk b1 (Ao op) 25,.map hb (AA (mP hb) d.fEntities),.map ha (AA (mP ha) (mset d.fCalls op.fID (d_p2.length:Int)))]) ((Al (i:=3) Aa).trans (Vd _ ((Al (i:=0) Aa).trans (Vd _ ((Al (i:=2) Aa).trans (Vd _ (Vh _))))))) h0 [] trivial Aa Aa (λh1=>?_))))));refine CD (H2:=[.blk hd [Ak now,rv (.map (some hb)),rv (.map (some ha))] 68,.map hb (AA (mP hb) d.fEntities),.map ha (AA (mP ha) (mset d.fCalls op.fID (d_p2.length:Int))),.poolw hb h1 87 88 1 (Au (Af ha) (List.set d_p1 (CU (Ay d.fEntities op.fEntity (-1))) (Ai.mk ((Ad d_p1 (Ay d.fEntities op.fEntity (-1))).fState) (((Ad d_p1 (Ay d.fEntities op.fEntity (-1))).fCalls)++([(d_p2.length:Int)]:List Int)) ((Ad d_p1 (Ay d.fEntities op.fEntity (-1))).fDone)))) none,.pool ha v64 44 (Au Ae (d_p2++[(Aj.mk hg (A0.mk 0 ([]:List Ab)) now (-1))])),.row (.slice (some ⟨hu,0,none⟩) 1 1) 88 1 (Au (eP ha) ([(d_p2.length:Int)]:List Int)),.blk b1 (Ao op) 25]) ((Al (i:=3) Aa).trans (Vd _ ((Al (i:=4) Aa).trans (Vd _ ((Al (i:=4) Aa).trans (Vd _ ((Al (i:=0) Aa).trans (Vd _ ((Al (i:=1) Aa).trans (Vd _ (Vh _))))))))))) ?_;obtain rfl:=A9 ge;exact A7 (Cd Ni (AX Aa)) (sC (sC (sC (sC (sC (sS (sS sN))))))) ⟨h1,v64,Aa,Aa⟩
theorem Km (F:Nat)(hi:Nat)(hb:Nat)(ha:Nat)(hk:Value)(hg:Value)(d:Aq)(d_p1:(List Ai))(d_p2:(List Aj))(e:Am)(now:Int)(r:Aj×Bool×Aq×(List Ai)×(List Aj))(h:ET F d d_p1 d_p2 e now=some r):Fn Tryz.prog GE 17 [rP hi 0,rS e,Ak now] [.blk hi [Ak d.fNow,rv (.map (some hb)),rv (.map (some ha))] 68,.map hb (AA (mP hb) d.fEntities),.map ha (AA (mP ha) d.fCalls),.poolw hb hk 87 88 1 (Au (Af ha) d_p1) none,.pool ha hg 44 (Au Ae d_p2)] (λR H=>∃w0_p1:Value,∃w0_p2:Value,R=Dc [Bb (Ae r.1),rB r.2.1]∧H=[.blk hi [Ak r.2.2.1.fNow,rv (.map (some hb)),rv (.map (some ha))] 68,.map hb (AA (mP hb) r.2.2.1.fEntities),.map ha (AA (mP ha) r.2.2.1.fCalls),.poolw hb w0_p1 87 88 1 (Au (Af ha) r.2.2.2.1) none,.pool ha w0_p2 44 (Au Ae r.2.2.2.2)]):=by
 refine enter (n:=107) Tryz.func17 Aa Tryz.ntmps17 Aa (λw Z=>?_);unfold ET at h;refine As (Ca (cs:=[rS ([]:Am),rS ([]:Am),rS ([]:Am),rv (.slice none 0 0),Ak 0,rv (.slice none 0 0),Ak 0,Ak 0]) Or Aa Aa (λb1=>?_));refine wa Aa (A3 (A1 (Dk (S:=(Bool)×(Unit)) (λσ=>CO F d d_p1 d_p2 e now σ.1=some r) (λσ=>[(0,rP hi 0),(1,rS e),(2,Ak now),(6,rP b1 0),(28,rB σ.1)]) (λσ=>[.blk hi [Ak d.fNow,rv (.map (some hb)),rv (.map (some ha))] 68,.blk b1 [rS ([]:Am),rS ([]:Am),rS ([]:Am),rv (.slice none 0 0),Ak 0,rv (.slice none 0 0),Ak 0,Ak 0] 44,.map hb (AA (mP hb) d.fEntities),.map ha (AA (mP ha) d.fCalls),.poolw hb hk 87 88 1 (Au (Af ha) d_p1) none,.pool ha hg 44 (Au Ae d_p2)]) ?_ ?_)))
 ·refine AD (wm Aa (HP (Hr:=[.blk b1 [rS ([]:Am),rS ([]:Am),rS ([]:Am),rv (.slice none 0 0),Ak 0,rv (.slice none 0 0),Ak 0,Ak 0] 44,.map hb (AA (mP hb) d.fEntities),.map ha (AA (mP ha) d.fCalls),.poolw hb hk 87 88 1 (Au (Af ha) d_p1) none,.pool ha hg 44 (Au Ae d_p2)]) QV (IT hi hb ha d true Aa) Aa ((Al (i:=1) Aa).trans (Vd _ (Vh _))) Aa ?_));rintro _ _ ⟨rfl,rfl⟩;refine wv (BS Aa) (wm Aa (Br (b:=!true) Aa Aa (Dd Aa) (wm Aa (Br (b:=!true) Aa Aa (Dd Aa) (wm Aa (Br (b:=!true) Aa Aa (Dd Aa) (wv (AY Aa) (Br (b:=!true) Aa Aa (Dd Aa) (vF GR Aa C9 (Br (b:=!true) Aa Aa (Dd Aa) (vL 0 DY Aa (Br (b:=!true) Aa Aa (Dd Aa) (wv (EN Aa Aa) (wv (r:=rB (decide (now<d.fNow))) (AC (b:=!true) Aa (Dd Aa) Aa) (wm Aa (bz h (λc6 h7=>?_) (λc6 h8=>?_)))))))))))))))))
  ·exact wf c6 (wf c6 (wv (r:=rB true) (A6 Aa c6 Aa) (A5 (AL (AW (true,()) h7 (AZ.c5 Aa Aa Aa Aa Aa AZ.nil) (sC (sC (sC (sC (sC (sC sN)))))))))))
  ·exact wo c6 (wm Aa (wo c6 (wv (Gc Aa Aa) (Kw Aa c6 Aa (A5 (AL (AW (decide (1073741824<now),()) h8 (AZ.c5 Aa Aa Aa Aa Aa AZ.nil) (sC (sC (sC (sC (sC (sC sN)))))))))))))
 ·rintro⟨x5,⟨⟩⟩ h9;refine C7 (l':=[(0,rP hi 0),(1,rS e),(2,Ak now),(6,rP b1 0),(28,rB x5)]) (H':=[.blk hi [Ak d.fNow,rv (.map (some hb)),rv (.map (some ha))] 68,.blk b1 [rS ([]:Am),rS ([]:Am),rS ([]:Am),rv (.slice none 0 0),Ak 0,rv (.slice none 0 0),Ak 0,Ak 0] 44,.map hb (AA (mP hb) d.fEntities),.map ha (AA (mP ha) d.fCalls),.poolw hb hk 87 88 1 (Au (Af ha) d_p1) none,.pool ha hg 44 (Au Ae d_p2)]) Aa Aa ?_;replace h9:CO F d d_p1 d_p2 e now x5=some r:=h9;unfold CO at h9;refine cz h9 Aa (λhu hw=>?_) (λhu hx=>?_)
  ·refine As (wv (r:=Bb [rS ([]:Am),rS ([]:Am),rS ([]:Am),rv (.slice none 0 0),Ak 0,rv (.slice none 0 0),Ak 0,Ak 0]) (G7 ) (AR (i:=1) Cr Aa Aa Aa (Bm.c Aa) Aa Aa (cs':=[rS ([]:Am),rS ([]:Am),rS ([]:Am),rv (.slice none 0 0),Ak 0,rv (.slice none 0 0),Ak 0,Ak 0]) Aa (H':=[.blk hi [Ak d.fNow,rv (.map (some hb)),rv (.map (some ha))] 68,.blk b1 [rS ([]:Am),rS ([]:Am),rS ([]:Am),rv (.slice none 0 0),Ak 0,rv (.slice none 0 0),Ak 0,Ak 0] 44,.map hb (AA (mP hb) d.fEntities),.map ha (AA (mP ha) d.fCalls),.poolw hb hk 87 88 1 (Au (Af ha) d_p1) none,.pool ha hg 44 (Au Ae d_p2)]) Aa (wa Aa (A3 (A8 (An (WK.upBlk (i:=1) (cs':=[rS ([]:Am),rS ([]:Am),rS ([]:Am),AH 1 (Au Ah ([]:List (List Ab))),Ak 0,AH 4 (Au Ac ([]:List Ab)),Ak 0,Ak 0]) Aa ⟨Up.refl _,Up.refl _,Up.refl _,Up.le (GZ.nil _),Up.refl _,Up.le (GZ.nil _),Up.refl _,Up.refl _,trivial⟩ ?_)))))));obtain rfl:=A9 hw;exact A7 (Lm QU (Ci (i:=1) Ls Cr Aa Aa Aa) (AX Aa)) (sC (sS (sC (sC (sC (sC sN)))))) ⟨hk,hg,Aa,Aa⟩
  ·refine AG (Bf (As (wm Aa (wv (AY Aa) (vF GR Aa Nf (vL 0 Nj Aa (wm Aa (wv (r:=Dc [EL hb (Ay d.fEntities e (-1)) 0,rB (Bu d.fEntities e)]) (H9 (enc:=(mP hb)) (xs:=d.fEntities) (z:=(-1)) (i:=2) Ot GV S3 (RD hb) Aa Aa Aa) (wm Aa (wv (AU Aa Aa) (wv (AU Aa Aa) (wa Aa (wa Aa (A3 (A1 (A1 (bz hx (λhj hy=>?_) (λhj hz=>?_))))))))))))))))))
   ·refine ck hy λhq h0=>WC.takeout (encw:=(Af ha)) (xs:=d_p1) (i:=Ay d.fEntities e (-1)) (Hr:=[.blk hi [Ak d.fNow,rv (.map (some hb)),rv (.map (some ha))] 68,.blk b1 [rS ([]:Am),rS ([]:Am),rS ([]:Am),rv (.slice none 0 0),Ak 0,rv (.slice none 0 0),Ak 0,Ak 0] 44,.map hb (AA (mP hb) d.fEntities),.map ha (AA (mP ha) d.fCalls),.pool ha hg 44 (Au Ae d_p2)]) ((Al (i:=4) Aa).trans (Vd _ (Vh _))) hq [8,37] ⟨Aa,Aa,trivial⟩ (λhe hf=>?_);refine C7 (l':=_) (H':=[.blk he [AH 4 (Au Ac ((Ad d_p1 (Ay d.fEntities e (-1))).fState)),rv hf,Ak ((Ad d_p1 (Ay d.fEntities e (-1))).fDone)] 87,.row hf 88 1 (Au (eP ha) ((Ad d_p1 (Ay d.fEntities e (-1))).fCalls)),.poolw hb hk 87 88 1 (Au (Af ha) d_p1) (some (CU (Ay d.fEntities e (-1)),(he,hf))),.blk hi [Ak d.fNow,rv (.map (some hb)),rv (.map (some ha))] 68,.blk b1 [rS ([]:Am),rS ([]:Am),rS ([]:Am),rv (.slice none 0 0),Ak 0,rv (.slice none 0 0),Ak 0,Ak 0] 44,.map hb (AA (mP hb) d.fEntities),.map ha (AA (mP ha) d.fCalls),.pool ha hg 44 (Au Ae d_p2)]) Aa Aa (Dl [0,2,6,8,9] [⟨[],rB (Bu d.fEntities e),0⟩,⟨[0],rB (!(Bu d.fEntities e)),0⟩,⟨[1],rB (!(Bu d.fEntities e)),0⟩,⟨[2],rP he 0,0⟩,⟨[3,2],rP he 0,0⟩,⟨[4,2],rP he 2,0⟩,⟨[5,2],Ak ((Ad d_p1 (Ay d.fEntities e (-1))).fDone),1⟩,⟨[2],rP he 0,0⟩,⟨[7,2],rP he 0,0⟩,⟨[8,2],rP he 1,0⟩,⟨[9,2],rv hf,1⟩,⟨[10,2],Ak (((Ad d_p1 (Ay d.fEntities e (-1))).fCalls).length:Int),1⟩,⟨[6,11,2],rB (decide (((Ad d_p1 (Ay d.fEntities e (-1))).fDone)=(((Ad d_p1 (Ay d.fEntities e (-1))).fCalls).length:Int))),0⟩,⟨[2,12],rB (decide (((Ad d_p1 (Ay d.fEntities e (-1))).fDone)=(((Ad d_p1 (Ay d.fEntities e (-1))).fCalls).length:Int))),0⟩] [52,0,2,6,8] ?_ ?_)
    ·refine oq (Ap Aa) (oq (BS Aa) (oq (Ap Aa) (Cm Aa (λH=>Ec (b:=!(Bu d.fEntities e)) Aa Aa (Dd hj) (IM (Ap Aa))) ?_)));refine Cm Aa (λH=>Ec (b:=!(Bu d.fEntities e)) Aa Aa (Dd hj) (IM (AY Aa))) ?_;refine Cm Aa (λH=>Ec (b:=!(Bu d.fEntities e)) Aa Aa (Dd hj) (IM (AS Iz Aa C9 Aa Aa))) ?_;refine Pw Aa (Ec (b:=!(Bu d.fEntities e)) Aa Aa (Dd hj) (IM (B6 (i:=0) DY Aa Aa Aa))) ?_;refine Cm Aa (λH=>Ec (b:=!(Bu d.fEntities e)) Aa Aa (Dd hj) (IM (Ap Aa))) ?_;refine Cm Aa (λH=>Ec (b:=!(Bu d.fEntities e)) Aa Aa (Dd hj) (IM (AY Aa))) ?_;refine Cm Aa (λH=>Ec (b:=!(Bu d.fEntities e)) Aa Aa (Dd hj) (IM (AS Iz Aa Mk Aa Aa))) ?_;refine Pw Aa (Ec (b:=!(Bu d.fEntities e)) Aa Aa (Dd hj) (IM (B6 (i:=0) QY Aa Aa Aa))) ?_;refine Pw Aa (Ec (b:=!(Bu d.fEntities e)) Aa Aa (Dd hj) (IM (Ed (ys:=(Ad d_p1 (Ay d.fEntities e (-1))).fCalls) (enc:=(eP ha)) (i:=1) Na Aa Aa))) ?_;refine Cm Aa (λH=>Ec (b:=!(Bu d.fEntities e)) Aa Aa (Dd hj) (IM (BW Aa Aa))) ?_;refine oq (AC (b:=!(Bu d.fEntities e)) Aa (Dd hj) Aa) ?_;exact CE
    refine Bf (cz h0 Aa (λh1 h2=>?_) (λh1 h3=>?_))
    ·refine As (wv (r:=Bb [rS ([]:Am),rS ([]:Am),rS ([]:Am),rv (.slice none 0 0),Ak 0,rv (.slice none 0 0),Ak 0,Ak 0]) (G7 ) (AR (i:=4) Cr Aa Aa Aa (Bm.c Aa) Aa Aa (cs':=[rS ([]:Am),rS ([]:Am),rS ([]:Am),rv (.slice none 0 0),Ak 0,rv (.slice none 0 0),Ak 0,Ak 0]) Aa (H':=[.blk he [AH 4 (Au Ac ((Ad d_p1 (Ay d.fEntities e (-1))).fState)),rv hf,Ak ((Ad d_p1 (Ay d.fEntities e (-1))).fDone)] 87,.row hf 88 1 (Au (eP ha) ((Ad d_p1 (Ay d.fEntities e (-1))).fCalls)),.poolw hb hk 87 88 1 (Au (Af ha) d_p1) (some (CU (Ay d.fEntities e (-1)),(he,hf))),.blk hi [Ak d.fNow,rv (.map (some hb)),rv (.map (some ha))] 68,.blk b1 [rS ([]:Am),rS ([]:Am),rS ([]:Am),rv (.slice none 0 0),Ak 0,rv (.slice none 0 0),Ak 0,Ak 0] 44,.map hb (AA (mP hb) d.fEntities),.map ha (AA (mP ha) d.fCalls),.pool ha hg 44 (Au Ae d_p2)]) Aa (wa Aa (A3 (A8 (An (WK.putsame (encw:=(Af ha)) (xs:=d_p1) (i:=Ay d.fEntities e (-1)) (Hr:=[.blk hi [Ak d.fNow,rv (.map (some hb)),rv (.map (some ha))] 68,.blk b1 [rS ([]:Am),rS ([]:Am),rS ([]:Am),rv (.slice none 0 0),Ak 0,rv (.slice none 0 0),Ak 0,Ak 0] 44,.map hb (AA (mP hb) d.fEntities),.map ha (AA (mP ha) d.fCalls),.pool ha hg 44 (Au Ae d_p2)]) (Vh _) hq [8] ⟨Aa,trivial⟩ Aa Aa (WK.upBlk (i:=2) (cs':=[rS ([]:Am),rS ([]:Am),rS ([]:Am),AH 1 (Au Ah ([]:List (List Ab))),Ak 0,AH 4 (Au Ac ([]:List Ab)),Ak 0,Ak 0]) Aa ⟨Up.refl _,Up.refl _,Up.refl _,Up.le (GZ.nil _),Up.refl _,Up.le (GZ.nil _),Up.refl _,Up.refl _,trivial⟩ (CD (H2:=[.blk hi [Ak d.fNow,rv (.map (some hb)),rv (.map (some ha))] 68,.map hb (AA (mP hb) d.fEntities),.map ha (AA (mP ha) d.fCalls),.poolw hb hk 87 88 1 (Au (Af ha) d_p1) none,.pool ha hg 44 (Au Ae d_p2),.blk b1 [rS ([]:Am),rS ([]:Am),rS ([]:Am),AH 1 (Au Ah ([]:List (List Ab))),Ak 0,AH 4 (Au Ac ([]:List Ab)),Ak 0,Ak 0] 44]) ((Al (i:=1) Aa).trans (Vd _ ((Al (i:=2) Aa).trans (Vd _ ((Al (i:=2) Aa).trans (Vd _ ((Al (i:=0) Aa).trans (Vd _ ((Al (i:=1) Aa).trans (Vd _ (Vh _))))))))))) ?_)))))))));obtain rfl:=A9 h2;exact A7 (Lm QU (Ci (i:=5) Ls Cr Aa Aa Aa) (AX Aa)) (sC (sC (sC (sC (sC (sS sN)))))) ⟨hk,hg,Aa,Aa⟩
    ·refine AG (Bf (A1 (ck h3 λhr h4=>Dl [0,2,6,8] [⟨[],rP he 0,0⟩,⟨[0],rP he 0,0⟩,⟨[1],rP he 1,0⟩,⟨[2],rv hf,1⟩,⟨[],rP he 0,0⟩,⟨[4],rP he 0,0⟩,⟨[5],rP he 2,0⟩,⟨[6],Ak ((Ad d_p1 (Ay d.fEntities e (-1))).fDone),1⟩,⟨[3,7],rv (Em 1 hf (CU ((Ad d_p1 (Ay d.fEntities e (-1))).fDone)) 0),1⟩,⟨[8],EL ha (Ad ((Ad d_p1 (Ay d.fEntities e (-1))).fCalls) ((Ad d_p1 (Ay d.fEntities e (-1))).fDone)) 0,1⟩,⟨[9],EL ha (Ad ((Ad d_p1 (Ay d.fEntities e (-1))).fCalls) ((Ad d_p1 (Ay d.fEntities e (-1))).fDone)) 0,0⟩] [10,0,2,6,8] ?_ ?_)))
     ·refine oq (Ap Aa) (oq (AY Aa) (oq (AS Iz Aa Mk Aa Aa) (of (B6 (i:=0) QY Aa Aa Aa) (oq (Ap Aa) (oq (AY Aa) (oq (AS Iz Aa C9 Aa Aa) (of (B6 (i:=0) DY Aa Aa Aa) (of (Ju (i:=1) Na S5 Aa Aa Aa (B4 hr)) (of (Gb (enc:=(eP ha)) (ys:=(Ad d_p1 (Ay d.fEntities e (-1))).fCalls) (i:=1) (j:=(Ad d_p1 (Ay d.fEntities e (-1))).fDone) Tryz.isAgg88 Aa Aa hr Aa) (oq (AT Aa) ?_))))))))));exact CE
     refine Bf (A1 (ck h4 λhp h5=>ck h5 λhs h6=>ob h6 λhd hA hB=>C1 16 [0,2,6,8,10] [⟨[],rP he 0,none,none,none⟩,⟨[0],rP he 0,none,none,none⟩,⟨[1],rP he 0,none,none,none⟩,⟨[2],AH 4 (Au Ac ((Ad d_p1 (Ay d.fEntities e (-1))).fState)),none,none,none⟩,⟨[],EL ha (Ad ((Ad d_p1 (Ay d.fEntities e (-1))).fCalls) ((Ad d_p1 (Ay d.fEntities e (-1))).fDone)) 0,none,none,none⟩,⟨[4],EL ha (Ad ((Ad d_p1 (Ay d.fEntities e (-1))).fCalls) ((Ad d_p1 (Ay d.fEntities e (-1))).fDone)) 0,none,none,none⟩,⟨[5],EL ha (Ad ((Ad d_p1 (Ay d.fEntities e (-1))).fCalls) ((Ad d_p1 (Ay d.fEntities e (-1))).fDone)) 0,none,none,none⟩,⟨[6],Bb (Ao ((Ad d_p2 (Ad ((Ad d_p1 (Ay d.fEntities e (-1))).fCalls) ((Ad d_p1 (Ay d.fEntities e (-1))).fDone))).fOp)),none,none,none⟩,⟨[3,7],Dc [AH 4 (Au Ac hd.1),Bb (A2 hd.2.1),Ak hd.2.2],none,none,none⟩,⟨[8],Dc [AH 4 (Au Ac hd.1),Bb (A2 hd.2.1),Ak hd.2.2],none,none,none⟩,⟨[9],AH 4 (Au Ac hd.1),none,none,none⟩,⟨[9],Bb (A2 hd.2.1),none,none,none⟩,⟨[9],Ak hd.2.2,none,none,none⟩,⟨[],rv undef,some ([Ak 0,rv (.slice none 0 0)],31),some (15,[Ak hd.2.1.fErr,AH 4 (Au Ac hd.2.1.fValue)]),none⟩,⟨[10],AH 4 (Au Ac hd.1),none,none,none⟩,⟨[11],rv undef,none,none,some 13⟩] ?_ (λβ=>?_)))
     ·refine C3 (Ap Aa) (C3 (AY Aa) (C3 (AS Iz Aa DL Aa Aa) (JZ (B6 (i:=0) EY Aa Aa Aa) (C3 (Ap Aa) (C3 (CW Aa hp) (C3 (MB CX Aa Cp Aa hp Aa) (JZ (HA (enc:=Ae) (xs:=d_p2) (j:=7) EK Cp Aa Aa hs Aa Aa) (OB (D8 Tryz.call11 (Uo F ((Ad d_p1 (Ay d.fEntities e (-1))).fState) ((Ad d_p2 (Ad ((Ad d_p1 (Ay d.fEntities e (-1))).fCalls) ((Ad d_p1 (Ay d.fEntities e (-1))).fDone))).fOp) hd hA) Aa) (C3 (Ap Aa) (C3 (AU Aa Aa) (C3 (AU Aa Aa) (C3 (AU Aa Aa) (Un (Om (cs:=[Ak 0,rv (.slice none 0 0)]) Lq Aa) (C3 (AT Aa) (UY (fun {hm hh}=>N8 (CA (i:=0) BF Aa Aa Aa (Bm.c Aa) Aa Aa (cs':=[Ak hd.2.1.fErr,AH 4 (Au Ac hd.2.1.fValue)]) Aa (H':=.blk hm (A2 hd.2.1) 31::hh) Aa)) ?_)))))))))))))));exact OA
     refine Dj (H1:=[.blk he [AH 4 (Au Ac ((Ad d_p1 (Ay d.fEntities e (-1))).fState)),rv hf,Ak ((Ad d_p1 (Ay d.fEntities e (-1))).fDone)] 87,.row hf 88 1 (Au (eP ha) ((Ad d_p1 (Ay d.fEntities e (-1))).fCalls)),.poolw hb hk 87 88 1 (Au (Af ha) d_p1) (some (CU (Ay d.fEntities e (-1)),(he,hf))),.blk hi [Ak d.fNow,rv (.map (some hb)),rv (.map (some ha))] 68,.blk b1 [rS ([]:Am),rS ([]:Am),rS ([]:Am),rv (.slice none 0 0),Ak 0,rv (.slice none 0 0),Ak 0,Ak 0] 44,.map hb (AA (mP hb) d.fEntities),.map ha (AA (mP ha) d.fCalls),.pool ha hg 44 (Au Ae d_p2),.blk (β 13) (A2 hd.2.1) 31]) [65,66,67,68,69,70,71,72,73,64,74,75,76,12,11,0,2,6,8,10] ?_;generalize β 13=hm;refine wa Aa (A3 (A1 (As (wm Aa (wv (DP Aa Aa) (A3 (cz hB Aa (λhC hD=>?_) (λhC hE=>?_))))))))
     ·refine As (wv (r:=Bb [rS ([]:Am),rS ([]:Am),rS ([]:Am),rv (.slice none 0 0),Ak 0,rv (.slice none 0 0),Ak 0,Ak 0]) (G7 ) (AR (i:=4) Cr Aa Aa Aa (Bm.c Aa) Aa Aa (cs':=[rS ([]:Am),rS ([]:Am),rS ([]:Am),rv (.slice none 0 0),Ak 0,rv (.slice none 0 0),Ak 0,Ak 0]) Aa (H':=[.blk he [AH 4 (Au Ac ((Ad d_p1 (Ay d.fEntities e (-1))).fState)),rv hf,Ak ((Ad d_p1 (Ay d.fEntities e (-1))).fDone)] 87,.row hf 88 1 (Au (eP ha) ((Ad d_p1 (Ay d.fEntities e (-1))).fCalls)),.poolw hb hk 87 88 1 (Au (Af ha) d_p1) (some (CU (Ay d.fEntities e (-1)),(he,hf))),.blk hi [Ak d.fNow,rv (.map (some hb)),rv (.map (some ha))] 68,.blk b1 [rS ([]:Am),rS ([]:Am),rS ([]:Am),rv (.slice none 0 0),Ak 0,rv (.slice none 0 0),Ak 0,Ak 0] 44,.map hb (AA (mP hb) d.fEntities),.map ha (AA (mP ha) d.fCalls),.pool ha hg 44 (Au Ae d_p2),.blk hm (A2 hd.2.1) 31]) Aa (wa Aa (A3 (A8 (An (WK.putsame (encw:=(Af ha)) (xs:=d_p1) (i:=Ay d.fEntities e (-1)) (Hr:=[.blk hi [Ak d.fNow,rv (.map (some hb)),rv (.map (some ha))] 68,.blk b1 [rS ([]:Am),rS ([]:Am),rS ([]:Am),rv (.slice none 0 0),Ak 0,rv (.slice none 0 0),Ak 0,Ak 0] 44,.map hb (AA (mP hb) d.fEntities),.map ha (AA (mP ha) d.fCalls),.pool ha hg 44 (Au Ae d_p2),.blk hm (A2 hd.2.1) 31]) (Vh _) hq [8,65,66,67] ⟨Aa,Aa,Aa,Aa,trivial⟩ Aa Aa (WK.upBlk (i:=2) (cs':=[rS ([]:Am),rS ([]:Am),rS ([]:Am),AH 1 (Au Ah ([]:List (List Ab))),Ak 0,AH 4 (Au Ac ([]:List Ab)),Ak 0,Ak 0]) Aa ⟨Up.refl _,Up.refl _,Up.refl _,Up.le (GZ.nil _),Up.refl _,Up.le (GZ.nil _),Up.refl _,Up.refl _,trivial⟩ (CD (H2:=[.blk hi [Ak d.fNow,rv (.map (some hb)),rv (.map (some ha))] 68,.map hb (AA (mP hb) d.fEntities),.map ha (AA (mP ha) d.fCalls),.poolw hb hk 87 88 1 (Au (Af ha) d_p1) none,.pool ha hg 44 (Au Ae d_p2),.blk b1 [rS ([]:Am),rS ([]:Am),rS ([]:Am),AH 1 (Au Ah ([]:List (List Ab))),Ak 0,AH 4 (Au Ac ([]:List Ab)),Ak 0,Ak 0] 44,.blk hm (A2 hd.2.1) 31]) ((Al (i:=1) Aa).trans (Vd _ ((Al (i:=2) Aa).trans (Vd _ ((Al (i:=2) Aa).trans (Vd _ ((Al (i:=0) Aa).trans (Vd _ ((Al (i:=1) Aa).trans (Vd _ (Vh _))))))))))) ?_)))))))));obtain rfl:=A9 hD;exact A7 (Lm QU (Ci (i:=5) Ls Cr Aa Aa Aa) (AX Aa)) (sC (sC (sC (sC (sC (sS (sS sN))))))) ⟨hk,hg,Aa,Aa⟩
     ·refine AG (Bf (As (wm Aa (wm Aa (wv (AY Aa) (vF Iz Aa DL (BQ (i:=0) DL Aa Aa (Cc Aa) Aa Aa (cs':=[AH 4 (Au Ac hd.1),rv hf,Ak ((Ad d_p1 (Ay d.fEntities e (-1))).fDone)]) Aa (H':=[.blk he [AH 4 (Au Ac hd.1),rv hf,Ak ((Ad d_p1 (Ay d.fEntities e (-1))).fDone)] 87,.row hf 88 1 (Au (eP ha) ((Ad d_p1 (Ay d.fEntities e (-1))).fCalls)),.poolw hb hk 87 88 1 (Au (Af ha) d_p1) (some (CU (Ay d.fEntities e (-1)),(he,hf))),.blk hi [Ak d.fNow,rv (.map (some hb)),rv (.map (some ha))] 68,.blk b1 [rS ([]:Am),rS ([]:Am),rS ([]:Am),rv (.slice none 0 0),Ak 0,rv (.slice none 0 0),Ak 0,Ak 0] 44,.map hb (AA (mP hb) d.fEntities),.map ha (AA (mP ha) d.fCalls),.pool ha hg 44 (Au Ae d_p2),.blk hm (A2 hd.2.1) 31]) Aa (BH (wm Aa (wv (AY Aa) (vF Iz Aa C9 (vL 0 DY Aa (ck hE λhG hH=>wv (Cy Aa Aa hG) (wv (AY Aa) (vF Iz Aa C9 (BQ (i:=0) C9 Aa Aa (Cc Aa) Aa Aa (cs':=[AH 4 (Au Ac hd.1),rv hf,Ak (((Ad d_p1 (Ay d.fEntities e (-1))).fDone)+1)]) Aa (H':=[.blk he [AH 4 (Au Ac hd.1),rv hf,Ak (((Ad d_p1 (Ay d.fEntities e (-1))).fDone)+1)] 87,.row hf 88 1 (Au (eP ha) ((Ad d_p1 (Ay d.fEntities e (-1))).fCalls)),.poolw hb hk 87 88 1 (Au (Af ha) d_p1) (some (CU (Ay d.fEntities e (-1)),(he,hf))),.blk hi [Ak d.fNow,rv (.map (some hb)),rv (.map (some ha))] 68,.blk b1 [rS ([]:Am),rS ([]:Am),rS ([]:Am),rv (.slice none 0 0),Ak 0,rv (.slice none 0 0),Ak 0,Ak 0] 44,.map hb (AA (mP hb) d.fEntities),.map ha (AA (mP ha) d.fCalls),.pool ha hg 44 (Au Ae d_p2),.blk hm (A2 hd.2.1) 31]) Aa (BH (wm Aa (wm Aa (wv (AY Aa) (vF GR Aa C9 (BQ (i:=3) C9 Aa Aa (Cc Aa) Aa Aa (cs':=[Ak now,rv (.map (some hb)),rv (.map (some ha))]) Aa (H':=[.blk he [AH 4 (Au Ac hd.1),rv hf,Ak (((Ad d_p1 (Ay d.fEntities e (-1))).fDone)+1)] 87,.row hf 88 1 (Au (eP ha) ((Ad d_p1 (Ay d.fEntities e (-1))).fCalls)),.poolw hb hk 87 88 1 (Au (Af ha) d_p1) (some (CU (Ay d.fEntities e (-1)),(he,hf))),.blk hi [Ak now,rv (.map (some hb)),rv (.map (some ha))] 68,.blk b1 [rS ([]:Am),rS ([]:Am),rS ([]:Am),rv (.slice none 0 0),Ak 0,rv (.slice none 0 0),Ak 0,Ak 0] 44,.map hb (AA (mP hb) d.fEntities),.map ha (AA (mP ha) d.fCalls),.pool ha hg 44 (Au Ae d_p2),.blk hm (A2 hd.2.1) 31]) Aa ?_))))))))))))))))))))));refine BH (wm Aa (wm Aa (wv (Bl (i:=8) DD BF Aa Aa Aa Aa) (wm Aa (wv (r:=EL ha (Ad ((Ad d_p1 (Ay d.fEntities e (-1))).fCalls) ((Ad d_p1 (Ay d.fEntities e (-1))).fDone)) 0) (CW Aa hp) (wv (r:=EL ha (Ad ((Ad d_p1 (Ay d.fEntities e (-1))).fCalls) ((Ad d_p1 (Ay d.fEntities e (-1))).fDone)) 4) (MB CX Aa BF Aa hp Aa) (Ow (enc:=Ae) (xs:=d_p2) (y':=(Aj.mk ((Ad d_p2 (Ad ((Ad d_p1 (Ay d.fEntities e (-1))).fCalls) ((Ad d_p1 (Ay d.fEntities e (-1))).fDone))).fOp) hd.2.1 ((Ad d_p2 (Ad ((Ad d_p1 (Ay d.fEntities e (-1))).fCalls) ((Ad d_p1 (Ay d.fEntities e (-1))).fDone))).fFrom) ((Ad d_p2 (Ad ((Ad d_p1 (Ay d.fEntities e (-1))).fCalls) ((Ad d_p1 (Ay d.fEntities e (-1))).fDone))).fTo))) (j:=7) BF Aa Aa Aa (Bm.c Aa) Aa hs Aa Aa (H':=[.blk he [AH 4 (Au Ac hd.1),rv hf,Ak (((Ad d_p1 (Ay d.fEntities e (-1))).fDone)+1)] 87,.row hf 88 1 (Au (eP ha) ((Ad d_p1 (Ay d.fEntities e (-1))).fCalls)),.poolw hb hk 87 88 1 (Au (Af ha) d_p1) (some (CU (Ay d.fEntities e (-1)),(he,hf))),.blk hi [Ak now,rv (.map (some hb)),rv (.map (some ha))] 68,.blk b1 [rS ([]:Am),rS ([]:Am),rS ([]:Am),rv (.slice none 0 0),Ak 0,rv (.slice none 0 0),Ak 0,Ak 0] 44,.map hb (AA (mP hb) d.fEntities),.map ha (AA (mP ha) d.fCalls),.pool ha hg 44 (Au Ae (List.set d_p2 (CU (Ad ((Ad d_p1 (Ay d.fEntities e (-1))).fCalls) ((Ad d_p1 (Ay d.fEntities e (-1))).fDone))) (Aj.mk ((Ad d_p2 (Ad ((Ad d_p1 (Ay d.fEntities e (-1))).fCalls) ((Ad d_p1 (Ay d.fEntities e (-1))).fDone))).fOp) hd.2.1 ((Ad d_p2 (Ad ((Ad d_p1 (Ay d.fEntities e (-1))).fCalls) ((Ad d_p1 (Ay d.fEntities e (-1))).fDone))).fFrom) ((Ad d_p2 (Ad ((Ad d_p1 (Ay d.fEntities e (-1))).fCalls) ((Ad d_p1 (Ay d.fEntities e (-1))).fDone))).fTo)))),.blk hm (A2 hd.2.1) 31]) Aa (bd hH λho hI hJ=>?_))))))));rw[← hI];refine wv (r:=EL ha (Ad ((Ad d_p1 (Ay d.fEntities e (-1))).fCalls) ((Ad d_p1 (Ay d.fEntities e (-1))).fDone)) 0) (CW Aa hp) (wv (r:=EL ha (Ad ((Ad d_p1 (Ay d.fEntities e (-1))).fCalls) ((Ad d_p1 (Ay d.fEntities e (-1))).fDone)) 7) (MB CX Aa C9 Aa hp Aa) (ck hJ λhK hL=>PV (enc:=Ae) (xs:=ho) (y':=(Aj.mk ((Ad ho (Ad ((Ad d_p1 (Ay d.fEntities e (-1))).fCalls) ((Ad d_p1 (Ay d.fEntities e (-1))).fDone))).fOp) ((Ad ho (Ad ((Ad d_p1 (Ay d.fEntities e (-1))).fCalls) ((Ad d_p1 (Ay d.fEntities e (-1))).fDone))).fAnswer) ((Ad ho (Ad ((Ad d_p1 (Ay d.fEntities e (-1))).fCalls) ((Ad d_p1 (Ay d.fEntities e (-1))).fDone))).fFrom) now)) (j:=7) C9 Aa Aa (Cc Aa) Aa hK Aa Aa (H':=[.blk he [AH 4 (Au Ac hd.1),rv hf,Ak (((Ad d_p1 (Ay d.fEntities e (-1))).fDone)+1)] 87,.row hf 88 1 (Au (eP ha) ((Ad d_p1 (Ay d.fEntities e (-1))).fCalls)),.poolw hb hk 87 88 1 (Au (Af ha) d_p1) (some (CU (Ay d.fEntities e (-1)),(he,hf))),.blk hi [Ak now,rv (.map (some hb)),rv (.map (some ha))] 68,.blk b1 [rS ([]:Am),rS ([]:Am),rS ([]:Am),rv (.slice none 0 0),Ak 0,rv (.slice none 0 0),Ak 0,Ak 0] 44,.map hb (AA (mP hb) d.fEntities),.map ha (AA (mP ha) d.fCalls),.pool ha hg 44 (Au Ae (List.set ho (CU (Ad ((Ad d_p1 (Ay d.fEntities e (-1))).fCalls) ((Ad d_p1 (Ay d.fEntities e (-1))).fDone))) (Aj.mk ((Ad ho (Ad ((Ad d_p1 (Ay d.fEntities e (-1))).fCalls) ((Ad d_p1 (Ay d.fEntities e (-1))).fDone))).fOp) ((Ad ho (Ad ((Ad d_p1 (Ay d.fEntities e (-1))).fCalls) ((Ad d_p1 (Ay d.fEntities e (-1))).fDone))).fAnswer) ((Ad ho (Ad ((Ad d_p1 (Ay d.fEntities e (-1))).fCalls) ((Ad d_p1 (Ay d.fEntities e (-1))).fDone))).fFrom) now))),.blk hm (A2 hd.2.1) 31]) Aa (bd hL λhl hN hO=>?_)));rw[← hN];refine BH (wm Aa (wv (r:=EL ha (Ad ((Ad d_p1 (Ay d.fEntities e (-1))).fCalls) ((Ad d_p1 (Ay d.fEntities e (-1))).fDone)) 0) (CW Aa hp) (ck hO λhP hQ=>wv (r:=Bb [rS (((Ad hl (Ad ((Ad d_p1 (Ay d.fEntities e (-1))).fCalls) ((Ad d_p1 (Ay d.fEntities e (-1))).fDone))).fOp).fEntity),rS (((Ad hl (Ad ((Ad d_p1 (Ay d.fEntities e (-1))).fCalls) ((Ad d_p1 (Ay d.fEntities e (-1))).fDone))).fOp).fID),rS (((Ad hl (Ad ((Ad d_p1 (Ay d.fEntities e (-1))).fCalls) ((Ad d_p1 (Ay d.fEntities e (-1))).fDone))).fOp).fOp),AH 1 (Au Ah (((Ad hl (Ad ((Ad d_p1 (Ay d.fEntities e (-1))).fCalls) ((Ad d_p1 (Ay d.fEntities e (-1))).fDone))).fOp).fArgs)),Ak (((Ad hl (Ad ((Ad d_p1 (Ay d.fEntities e (-1))).fCalls) ((Ad d_p1 (Ay d.fEntities e (-1))).fDone))).fAnswer).fErr),AH 4 (Au Ac (((Ad hl (Ad ((Ad d_p1 (Ay d.fEntities e (-1))).fCalls) ((Ad d_p1 (Ay d.fEntities e (-1))).fDone))).fAnswer).fValue)),Ak ((Ad hl (Ad ((Ad d_p1 (Ay d.fEntities e (-1))).fCalls) ((Ad d_p1 (Ay d.fEntities e (-1))).fDone))).fFrom),Ak ((Ad hl (Ad ((Ad d_p1 (Ay d.fEntities e (-1))).fCalls) ((Ad d_p1 (Ay d.fEntities e (-1))).fDone))).fTo)]) (HA (enc:=Ae) (xs:=hl) (j:=7) Ls Cr Aa Aa hP Aa Aa) (ob hQ λhn hR hS=>Dr Tryz.call45 (LP F (Aj.mk ((Ad hl (Ad ((Ad d_p1 (Ay d.fEntities e (-1))).fCalls) ((Ad d_p1 (Ay d.fEntities e (-1))).fDone))).fOp) ((Ad hl (Ad ((Ad d_p1 (Ay d.fEntities e (-1))).fCalls) ((Ad d_p1 (Ay d.fEntities e (-1))).fDone))).fAnswer) ((Ad hl (Ad ((Ad d_p1 (Ay d.fEntities e (-1))).fCalls) ((Ad d_p1 (Ay d.fEntities e (-1))).fDone))).fFrom) ((Ad hl (Ad ((Ad d_p1 (Ay d.fEntities e (-1))).fCalls) ((Ad d_p1 (Ay d.fEntities e (-1))).fDone))).fTo)) hn hR) Aa (AR (i:=4) Cr Aa Aa Aa (Bm.c Aa) Aa Aa (cs':=[rS hn.fOp.fEntity,rS hn.fOp.fID,rS hn.fOp.fOp,AH 1 (Au Ah hn.fOp.fArgs),Ak hn.fAnswer.fErr,AH 4 (Au Ac hn.fAnswer.fValue),Ak hn.fFrom,Ak hn.fTo]) Aa (H':=[.blk he [AH 4 (Au Ac hd.1),rv hf,Ak (((Ad d_p1 (Ay d.fEntities e (-1))).fDone)+1)] 87,.row hf 88 1 (Au (eP ha) ((Ad d_p1 (Ay d.fEntities e (-1))).fCalls)),.poolw hb hk 87 88 1 (Au (Af ha) d_p1) (some (CU (Ay d.fEntities e (-1)),(he,hf))),.blk hi [Ak now,rv (.map (some hb)),rv (.map (some ha))] 68,.blk b1 (Ae hn) 44,.map hb (AA (mP hb) d.fEntities),.map ha (AA (mP ha) d.fCalls),.pool ha hg 44 (Au Ae hl),.blk hm (A2 hd.2.1) 31]) Aa (wa Aa (A3 (A8 (WK.putback (y:=(Ai.mk hd.1 ((Ad d_p1 (Ay d.fEntities e (-1))).fCalls) (((Ad d_p1 (Ay d.fEntities e (-1))).fDone)+1))) (encw:=(Af ha)) (xs:=d_p1) (i:=Ay d.fEntities e (-1)) (Hr:=[.blk hi [Ak now,rv (.map (some hb)),rv (.map (some ha))] 68,.blk b1 (Ae hn) 44,.map hb (AA (mP hb) d.fEntities),.map ha (AA (mP ha) d.fCalls),.pool ha hg 44 (Au Ae hl),.blk hm (A2 hd.2.1) 31]) (Vh _) hq [8,65,66,67,80,82,83,84,85,89] ⟨Aa,Aa,Aa,Aa,Aa,Aa,Aa,Aa,Aa,Aa,trivial⟩ Aa Aa (λht=>?_))))))))));refine CD (H2:=[.blk hi [Ak now,rv (.map (some hb)),rv (.map (some ha))] 68,.map hb (AA (mP hb) d.fEntities),.map ha (AA (mP ha) d.fCalls),.poolw hb ht 87 88 1 (Au (Af ha) (List.set d_p1 (CU (Ay d.fEntities e (-1))) (Ai.mk hd.1 ((Ad d_p1 (Ay d.fEntities e (-1))).fCalls) (((Ad d_p1 (Ay d.fEntities e (-1))).fDone)+1)))) none,.pool ha hg 44 (Au Ae hl),.blk b1 (Ae hn) 44,.blk hm (A2 hd.2.1) 31]) ((Al (i:=1) Aa).trans (Vd _ ((Al (i:=2) Aa).trans (Vd _ ((Al (i:=2) Aa).trans (Vd _ ((Al (i:=0) Aa).trans (Vd _ ((Al (i:=1) Aa).trans (Vd _ (Vh _))))))))))) ?_;obtain rfl:=A9 hS;exact A7 (Lm QU (Ci (i:=5) Ls Cr Aa Aa Aa) (AX Aa)) (sC (sC (sC (sC (sC (sS (sS sN))))))) ⟨ht,hg,Aa,Aa⟩
   ·refine Dl [0,2,6,8,9] [⟨[],rB (Bu d.fEntities e),0⟩,⟨[0],rB (!(Bu d.fEntities e)),0⟩,⟨[1],rB (!(Bu d.fEntities e)),0⟩,⟨[2],rv undef,0⟩,⟨[3,2],rv undef,0⟩,⟨[4,2],rv undef,0⟩,⟨[5,2],rv undef,0⟩,⟨[2],rv undef,0⟩,⟨[7,2],rv undef,0⟩,⟨[8,2],rv undef,0⟩,⟨[9,2],rv undef,0⟩,⟨[10,2],rv undef,0⟩,⟨[6,11,2],rv undef,0⟩,⟨[2,12],rB true,0⟩] [52,0,2,6,8] ?_ ?_
    ·refine oq (Ap Aa) (oq (BS Aa) (oq (Ap Aa) (Cm Aa (λH=>E8 (b:=!(Bu d.fEntities e)) Aa Aa (Hi hj)) ?_)));refine Cm Aa (λH=>E8 (b:=!(Bu d.fEntities e)) Aa Aa (Hi hj)) ?_;refine Cm Aa (λH=>E8 (b:=!(Bu d.fEntities e)) Aa Aa (Hi hj)) ?_;refine Cm Aa (λH=>E8 (b:=!(Bu d.fEntities e)) Aa Aa (Hi hj)) ?_;refine Cm Aa (λH=>E8 (b:=!(Bu d.fEntities e)) Aa Aa (Hi hj)) ?_;refine Cm Aa (λH=>E8 (b:=!(Bu d.fEntities e)) Aa Aa (Hi hj)) ?_;refine Cm Aa (λH=>E8 (b:=!(Bu d.fEntities e)) Aa Aa (Hi hj)) ?_;refine Cm Aa (λH=>E8 (b:=!(Bu d.fEntities e)) Aa Aa (Hi hj)) ?_;refine Cm Aa (λH=>E8 (b:=!(Bu d.fEntities e)) Aa Aa (Hi hj)) ?_;refine Cm Aa (λH=>E8 (b:=!(Bu d.fEntities e)) Aa Aa (Hi hj)) ?_;refine oq (A6 (b:=!(Bu d.fEntities e)) Aa (Hi hj) Aa) ?_;exact CE
    refine Bf (Gj Aa Aa (As (wv (r:=Bb [rS ([]:Am),rS ([]:Am),rS ([]:Am),rv (.slice none 0 0),Ak 0,rv (.slice none 0 0),Ak 0,Ak 0]) (G7 ) (AR (i:=1) Cr Aa Aa Aa (Bm.c Aa) Aa Aa (cs':=[rS ([]:Am),rS ([]:Am),rS ([]:Am),rv (.slice none 0 0),Ak 0,rv (.slice none 0 0),Ak 0,Ak 0]) Aa (H':=[.blk hi [Ak d.fNow,rv (.map (some hb)),rv (.map (some ha))] 68,.blk b1 [rS ([]:Am),rS ([]:Am),rS ([]:Am),rv (.slice none 0 0),Ak 0,rv (.slice none 0 0),Ak 0,Ak 0] 44,.map hb (AA (mP hb) d.fEntities),.map ha (AA (mP ha) d.fCalls),.poolw hb hk 87 88 1 (Au (Af ha) d_p1) none,.pool ha hg 44 (Au Ae d_p2)]) Aa (wa Aa (A3 (A8 (An (WK.upBlk (i:=1) (cs':=[rS ([]:Am),rS ([]:Am),rS ([]:Am),AH 1 (Au Ah ([]:List (List Ab))),Ak 0,AH 4 (Au Ac ([]:List Ab)),Ak 0,Ak 0]) Aa ⟨Up.refl _,Up.refl _,Up.refl _,Up.le (GZ.nil _),Up.refl _,Up.le (GZ.nil _),Up.refl _,Up.refl _,trivial⟩ ?_)))))))));obtain rfl:=A9 hz;exact A7 (Lm QU (Ci (i:=1) Ls Cr Aa Aa Aa) (AX Aa)) (sC (sS (sC (sC (sC (sC sN)))))) ⟨hk,hg,Aa,Aa⟩
theorem IR (hd:Nat)(hb:Nat)(ha:Nat)(hf:Value)(he:Value)(d:Aq)(d_p1:(List Ai))(d_p2:(List Aj))(e:Am)(r:(List Ab))(h:GA d d_p1 d_p2 e=some r):Fn Tryz.prog GE 19 [rP hd 0,rS e] [.blk hd [Ak d.fNow,rv (.map (some hb)),rv (.map (some ha))] 68,.map hb (AA (mP hb) d.fEntities),.map ha (AA (mP ha) d.fCalls),.poolw hb hf 87 88 1 (Au (Af ha) d_p1) none,.pool ha he 44 (Au Ae d_p2)] (λR H=>R=AH 4 (Au Ac r)∧H=[.blk hd [Ak d.fNow,rv (.map (some hb)),rv (.map (some ha))] 68,.map hb (AA (mP hb) d.fEntities),.map ha (AA (mP ha) d.fCalls),.poolw hb hf 87 88 1 (Au (Af ha) d_p1) none,.pool ha he 44 (Au Ae d_p2)]):=by
 refine enter (n:=25) Tryz.func19 Aa Tryz.ntmps19 Aa (λw Z=>?_);unfold GA at h;refine As (wa Aa (A3 (A1 (As (wm Aa (HP (Hr:=[.map hb (AA (mP hb) d.fEntities),.map ha (AA (mP ha) d.fCalls),.poolw hb hf 87 88 1 (Au (Af ha) d_p1) none,.pool ha he 44 (Au Ae d_p2)]) QV (IT hd hb ha d true Aa) Aa (Vh _) Aa ?_))))));rintro _ _ ⟨rfl,rfl⟩;refine A3 (Gj Aa Aa (As (wm Aa (wv (AY Aa) (vF GR Aa Nf (vL 0 Nj Aa (wm Aa (wv (r:=Dc [EL hb (Ay d.fEntities e (-1)) 0,rB (Bu d.fEntities e)]) (H9 (enc:=(mP hb)) (xs:=d.fEntities) (z:=(-1)) (i:=1) Ot GV S3 (RD hb) Aa Aa Aa) (wm Aa (wv (AU Aa Aa) (wv (AU Aa Aa) (wa Aa (wa Aa (BH (wm Aa (A3 (cz h Aa (λc1 h2=>?_) (λc1 hg=>?_))))))))))))))))))
 ·refine As (wm Aa (ck h2 λg3 h4=>WL.takeout (encw:=(Af ha)) (xs:=d_p1) (i:=Ay d.fEntities e (-1)) (Hr:=[.blk hd [Ak d.fNow,rv (.map (some hb)),rv (.map (some ha))] 68,.map hb (AA (mP hb) d.fEntities),.map ha (AA (mP ha) d.fCalls),.pool ha he 44 (Au Ae d_p2)]) ((Al (i:=3) Aa).trans (Vd _ (Vh _))) g3 [5,16,19] ⟨Aa,Aa,Aa,trivial⟩ (λb5 v6=>?_)));refine Mm (H':=[.blk b5 [AH 4 (Au Ac ((Ad d_p1 (Ay d.fEntities e (-1))).fState)),rv v6,Ak ((Ad d_p1 (Ay d.fEntities e (-1))).fDone)] 87,.row v6 88 1 (Au (eP ha) ((Ad d_p1 (Ay d.fEntities e (-1))).fCalls)),.poolw hb hf 87 88 1 (Au (Af ha) d_p1) (some (CU (Ay d.fEntities e (-1)),(b5,v6))),.blk hd [Ak d.fNow,rv (.map (some hb)),rv (.map (some ha))] 68,.map hb (AA (mP hb) d.fEntities),.map ha (AA (mP ha) d.fCalls),.pool ha he 44 (Au Ae d_p2)]) Aa (wv (AY Aa) (vF Iz Aa DL (vL 0 EY Aa (ob h4 λr7 e9 h8=>Dr JV (C8 ((Ad d_p1 (Ay d.fEntities e (-1))).fState) r7 e9) Aa (wa Aa (A3 (A8 (An (WK.putsame (encw:=(Af ha)) (xs:=d_p1) (i:=Ay d.fEntities e (-1)) (Hr:=[.blk hd [Ak d.fNow,rv (.map (some hb)),rv (.map (some ha))] 68,.map hb (AA (mP hb) d.fEntities),.map ha (AA (mP ha) d.fCalls),.pool ha he 44 (Au Ae d_p2)]) (Vh _) g3 [5,16,19,20,21] ⟨Aa,Aa,Aa,Aa,Aa,trivial⟩ Aa Aa (CD (H2:=[.blk hd [Ak d.fNow,rv (.map (some hb)),rv (.map (some ha))] 68,.map hb (AA (mP hb) d.fEntities),.map ha (AA (mP ha) d.fCalls),.poolw hb hf 87 88 1 (Au (Af ha) d_p1) none,.pool ha he 44 (Au Ae d_p2)]) ((Al (i:=1) Aa).trans (Vd _ ((Al (i:=1) Aa).trans (Vd _ ((Al (i:=1) Aa).trans (Vd _ (Vh _))))))) ?_))))))))));obtain rfl:=A9 h8;exact A7 (Cd Tryz.results19 (AX Aa)) (sC (sC (sC (sC (sC sN))))) ⟨Aa,Aa⟩
 ·refine AG (Bf (As (ob hg λhh hi hj=>Dr Tryz.call47 (Mp hh hi) Aa (wa Aa (A3 (A8 ?_))))));obtain rfl:=A9 hj;exact A7 (Cd Tryz.results19 (AX Aa)) (sC (sC (sC (sC (sC sN))))) ⟨Aa,Aa⟩
theorem IU (F:Nat)(he:Nat)(hb:Nat)(ha:Nat)(hh:Value)(hg:Value)(d:Aq)(d_p1:(List Ai))(d_p2:(List Aj))(e:Am)(r:(List Aj))(h:GC F d d_p1 d_p2 e=some r):Fn Tryz.prog GE 21 [rP he 0,rS e] [.blk he [Ak d.fNow,rv (.map (some hb)),rv (.map (some ha))] 68,.map hb (AA (mP hb) d.fEntities),.map ha (AA (mP ha) d.fCalls),.poolw hb hh 87 88 1 (Au (Af ha) d_p1) none,.pool ha hg 44 (Au Ae d_p2)] (λR H=>R=AH 8 (Au Ae r)∧H=[.blk he [Ak d.fNow,rv (.map (some hb)),rv (.map (some ha))] 68,.map hb (AA (mP hb) d.fEntities),.map ha (AA (mP ha) d.fCalls),.poolw hb hh 87 88 1 (Au (Af ha) d_p1) none,.pool ha hg 44 (Au Ae d_p2)]):=by
 refine enter (n:=42) Tryz.func21 Aa Tryz.ntmps21 Aa (λw Z=>?_);unfold GC at h;refine As (wa Aa (A3 (A1 (As (wm Aa (HP (Hr:=[.map hb (AA (mP hb) d.fEntities),.map ha (AA (mP ha) d.fCalls),.poolw hb hh 87 88 1 (Au (Af ha) d_p1) none,.pool ha hg 44 (Au Ae d_p2)]) QV (IT he hb ha d true Aa) Aa (Vh _) Aa ?_))))));rintro _ _ ⟨rfl,rfl⟩;refine wv (BS Aa) (A3 (Es Aa (Dd Aa) (AG (Bf (As (wm Aa (wv (AY Aa) (vF GR Aa Nf (vL 0 Nj Aa (wm Aa (wv (r:=Dc [EL hb (Ay d.fEntities e (-1)) 0,rB (Bu d.fEntities e)]) (H9 (enc:=(mP hb)) (xs:=d.fEntities) (z:=(-1)) (i:=1) Ot GV S3 (RD hb) Aa Aa Aa) (wm Aa (wv (AU Aa Aa) (wv (AU Aa Aa) (wa Aa (wa Aa (A3 (A1 (As (wm Aa (wv (BS Aa) (A3 (cz h Aa (λc1 h2=>?_) (λc1 h3=>?_))))))))))))))))))))))))
 ·refine As (wa Aa (A3 (A8 (An (WK.up (d:=4) (r:=AH 8 (Au Ae ([]:List Aj))) Aa (Up.le (GZ.nil _)) ?_)))));obtain rfl:=A9 h2;exact A7 (Cd Tryz.results21 (AX Aa)) (sC (sC (sC (sC (sC sN))))) ⟨Aa,Aa⟩
 ·refine AG (Bf (As (wa Aa (A3 (A1 (As (wm Aa (ck h3 λg4 h5=>WL.takeout (encw:=(Af ha)) (xs:=d_p1) (i:=Ay d.fEntities e (-1)) (Hr:=[.blk he [Ak d.fNow,rv (.map (some hb)),rv (.map (some ha))] 68,.map hb (AA (mP hb) d.fEntities),.map ha (AA (mP ha) d.fCalls),.pool ha hg 44 (Au Ae d_p2)]) ((Al (i:=3) Aa).trans (Vd _ (Vh _))) g4 [5,20,24] ⟨Aa,Aa,Aa,trivial⟩ (λb6 v7=>?_)))))))));refine Mm (H':=[.blk b6 [AH 4 (Au Ac ((Ad d_p1 (Ay d.fEntities e (-1))).fState)),rv v7,Ak ((Ad d_p1 (Ay d.fEntities e (-1))).fDone)] 87,.row v7 88 1 (Au (eP ha) ((Ad d_p1 (Ay d.fEntities e (-1))).fCalls)),.poolw hb hh 87 88 1 (Au (Af ha) d_p1) (some (CU (Ay d.fEntities e (-1)),(b6,v7))),.blk he [Ak d.fNow,rv (.map (some hb)),rv (.map (some ha))] 68,.map hb (AA (mP hb) d.fEntities),.map ha (AA (mP ha) d.fCalls),.pool ha hg 44 (Au Ae d_p2)]) Aa (wv (AY Aa) (vF Iz Aa Mk (vL 0 QY Aa (wv (Ed (ys:=(Ad d_p1 (Ay d.fEntities e (-1))).fCalls) (enc:=(eP ha)) (i:=1) Na Aa Aa) (wv (r:=Ak 0) (Ap Aa) (A3 (Ba (WC.nilrow (e:=44) (sz:=8) (Ke (H2:=[.blk b6 [AH 4 (Au Ac ((Ad d_p1 (Ay d.fEntities e (-1))).fState)),rv v7,Ak ((Ad d_p1 (Ay d.fEntities e (-1))).fDone)] 87,.row v7 88 1 (Au (eP ha) ((Ad d_p1 (Ay d.fEntities e (-1))).fCalls)),.poolw hb hh 87 88 1 (Au (Af ha) d_p1) (some (CU (Ay d.fEntities e (-1)),(b6,v7))),.blk he [Ak d.fNow,rv (.map (some hb)),rv (.map (some ha))] 68,.map hb (AA (mP hb) d.fEntities),.map ha (AA (mP ha) d.fCalls),.pool ha hg 44 (Au Ae d_p2),.row (.slice none 0 0                                            ) 44 8 (Au Ae ([]:List Aj))]) ((Al (i:=1) Aa).trans (Vd _ ((Al (i:=1) Aa).trans (Vd _ ((Al (i:=1) Aa).trans (Vd _ ((Al (i:=1) Aa).trans (Vd _ ((Al (i:=1) Aa).trans (Vd _ ((Al (i:=1) Aa).trans (Vd _ ((Al (i:=1) Aa).trans (Vd _ (Vh _))))))))))))))) (ob h5 λhq hr hs=>BN (S:=Nat×((List Aj)×Int)×(Value)) (V:=((List Aj))×(Value)) 0 (λσ=>BI (λσ=>D1 F d d_p1 d_p2 e σ.1 σ.2) σ.1 σ.2.1=some hq) (λσ=>[(7,rv σ.2.2),(27,rv v7),(28,Ak (((Ad d_p1 (Ay d.fEntities e (-1))).fCalls).length:Int)),(29,Ak σ.2.1.2)]) (λσ=>[.blk b6 [AH 4 (Au Ac ((Ad d_p1 (Ay d.fEntities e (-1))).fState)),rv v7,Ak ((Ad d_p1 (Ay d.fEntities e (-1))).fDone)] 87,.row v7 88 1 (Au (eP ha) ((Ad d_p1 (Ay d.fEntities e (-1))).fCalls)),.poolw hb hh 87 88 1 (Au (Af ha) d_p1) (some (CU (Ay d.fEntities e (-1)),(b6,v7))),.blk he [Ak d.fNow,rv (.map (some hb)),rv (.map (some ha))] 68,.map hb (AA (mP hb) d.fEntities),.map ha (AA (mP ha) d.fCalls),.pool ha hg 44 (Au Ae d_p2),.row σ.2.2 44 8 (Au Ae σ.2.1.1)]) (λσ=>σ.1) (F,(([]:List Aj),0),(.slice none 0 0                                            )) hr (AZ.c Aa (AZ.c Aa (AZ.c Aa (AZ.c Aa AZ.nil)))) (sC (sC (sC (sC (sC (sC (sC (sC sN)))))))) (λσ=>HG σ.1=some r) (λσ=>[(7,rv σ.2)]) (λσ=>[.blk b6 [AH 4 (Au Ac ((Ad d_p1 (Ay d.fEntities e (-1))).fState)),rv v7,Ak ((Ad d_p1 (Ay d.fEntities e (-1))).fDone)] 87,.row v7 88 1 (Au (eP ha) ((Ad d_p1 (Ay d.fEntities e (-1))).fCalls)),.poolw hb hh 87 88 1 (Au (Af ha) d_p1) (some (CU (Ay d.fEntities e (-1)),(b6,v7))),.blk he [Ak d.fNow,rv (.map (some hb)),rv (.map (some ha))] 68,.map hb (AA (mP hb) d.fEntities),.map ha (AA (mP ha) d.fCalls),.pool ha hg 44 (Au Ae d_p2),.row σ.2 44 8 (Au Ae σ.1)]) ?_ ?_))))))))))
  ·rintro⟨hI,⟨hi,hd⟩,v46⟩ ht;refine C7 (l':=[(7,rv v46),(27,rv v7),(28,Ak (((Ad d_p1 (Ay d.fEntities e (-1))).fCalls).length:Int)),(29,Ak hd)]) (H':=[.blk b6 [AH 4 (Au Ac ((Ad d_p1 (Ay d.fEntities e (-1))).fState)),rv v7,Ak ((Ad d_p1 (Ay d.fEntities e (-1))).fDone)] 87,.row v7 88 1 (Au (eP ha) ((Ad d_p1 (Ay d.fEntities e (-1))).fCalls)),.poolw hb hh 87 88 1 (Au (Af ha) d_p1) (some (CU (Ay d.fEntities e (-1)),(b6,v7))),.blk he [Ak d.fNow,rv (.map (some hb)),rv (.map (some ha))] 68,.map hb (AA (mP hb) d.fEntities),.map ha (AA (mP ha) d.fCalls),.pool ha hg 44 (Au Ae d_p2),.row v46 44 8 (Au Ae hi)]) Aa Aa ?_;obtain⟨hu,rfl,hw,hk,hn⟩:=DI ht;replace hk:D1 F d d_p1 d_p2 e hi hd=some hw:=hk;unfold D1 at hk;refine As (wv (EN Aa Aa) (A3 (A1 (cz hk Aa (λhx hy=>?_) (λhx hz=>?_)))))
   ·refine AG (Bf (A1 (Ba (As (ck hy λho h0=>wv (r:=rv (Em 1 v7 (CU hd) 0)) (Ju (i:=1) Na S5 Aa Aa Aa (B4 ho)) (wv (r:=EL ha (Ad ((Ad d_p1 (Ay d.fEntities e (-1))).fCalls) hd) 0) (Gb (enc:=(eP ha)) (ys:=(Ad d_p1 (Ay d.fEntities e (-1))).fCalls) (i:=1) (j:=hd) Tryz.isAgg88 Aa Aa ho Aa) (wa Aa (A3 (AD (wm Aa (wm Aa (ck h0 λh1 h4=>wv (r:=EL ha (Ad ((Ad d_p1 (Ay d.fEntities e (-1))).fCalls) hd) 0) (CW Aa h1) (ck h4 λh6 h7=>wv (r:=Bb [rS (((Ad d_p2 (Ad ((Ad d_p1 (Ay d.fEntities e (-1))).fCalls) hd)).fOp).fEntity),rS (((Ad d_p2 (Ad ((Ad d_p1 (Ay d.fEntities e (-1))).fCalls) hd)).fOp).fID),rS (((Ad d_p2 (Ad ((Ad d_p1 (Ay d.fEntities e (-1))).fCalls) hd)).fOp).fOp),AH 1 (Au Ah (((Ad d_p2 (Ad ((Ad d_p1 (Ay d.fEntities e (-1))).fCalls) hd)).fOp).fArgs)),Ak (((Ad d_p2 (Ad ((Ad d_p1 (Ay d.fEntities e (-1))).fCalls) hd)).fAnswer).fErr),AH 4 (Au Ac (((Ad d_p2 (Ad ((Ad d_p1 (Ay d.fEntities e (-1))).fCalls) hd)).fAnswer).fValue)),Ak ((Ad d_p2 (Ad ((Ad d_p1 (Ay d.fEntities e (-1))).fCalls) hd)).fFrom),Ak ((Ad d_p2 (Ad ((Ad d_p1 (Ay d.fEntities e (-1))).fCalls) hd)).fTo)]) (HA (enc:=Ae) (xs:=d_p2) (j:=6) Ls Cr Aa Aa h6 Aa Aa) (ob h7 λhf h8 h9=>Dr Tryz.call45 (LP F (Aj.mk ((Ad d_p2 (Ad ((Ad d_p1 (Ay d.fEntities e (-1))).fCalls) hd)).fOp) ((Ad d_p2 (Ad ((Ad d_p1 (Ay d.fEntities e (-1))).fCalls) hd)).fAnswer) ((Ad d_p2 (Ad ((Ad d_p1 (Ay d.fEntities e (-1))).fCalls) hd)).fFrom) ((Ad d_p2 (Ad ((Ad d_p1 (Ay d.fEntities e (-1))).fCalls) hd)).fTo)) hf h8) Aa (Bq (ys:=([hf]:List Aj)) (enc:=Ae) (css:=[[rS hf.fOp.fEntity,rS hf.fOp.fID,rS hf.fOp.fOp,AH 1 (Au Ah hf.fOp.fArgs),Ak hf.fAnswer.fErr,AH 4 (Au Ac hf.fAnswer.fValue),Ak hf.fFrom,Ak hf.fTo]]) (xs:=[.tmp 37]) DK Cr Or Aa Aa Aa ⟨Kt.agg ⟨Up.refl _,Up.refl _,Up.refl _,Up.refl _,Up.refl _,Up.refl _,Up.refl _,Up.refl _,trivial⟩,trivial⟩ Aa HZ Aa Aa Aa (λhA=>?_))))))))))))))));refine ck h9 λhB hC=>Exists.elim TT λinf hinf=>DZ (xs:=hi) (ys:=([hf]:List Aj)) (enc:=Ae) (i:=8) DK hinf.1 hinf.2.1 hinf.2.2.1 hinf.2.2.2 Aa Aa Aa Aa Aa (PL.w (i:=0) Aa Aa) HZ L6 hB Aa (λhp=>?_);refine wa Aa (A5 (Bi (Bf (AD (ck hC λhD hE=>wv (Cy Aa Aa hD) (wm Aa (A5 (CD (H2:=[.blk b6 [AH 4 (Au Ac ((Ad d_p1 (Ay d.fEntities e (-1))).fState)),rv v7,Ak ((Ad d_p1 (Ay d.fEntities e (-1))).fDone)] 87,.row v7 88 1 (Au (eP ha) ((Ad d_p1 (Ay d.fEntities e (-1))).fCalls)),.poolw hb hh 87 88 1 (Au (Af ha) d_p1) (some (CU (Ay d.fEntities e (-1)),(b6,v7))),.blk he [Ak d.fNow,rv (.map (some hb)),rv (.map (some ha))] 68,.map hb (AA (mP hb) d.fEntities),.map ha (AA (mP ha) d.fCalls),.pool ha hg 44 (Au Ae d_p2),.row hp 44 8 (Au Ae (hi++([hf]:List Aj))),.row (.slice (some ⟨hA,0,none⟩) 1 1) 44 8 (Au Ae ([hf]:List Aj))]) ((Al (i:=2) Aa).trans (Vd _ ((Al (i:=2) Aa).trans (Vd _ ((Al (i:=2) Aa).trans (Vd _ ((Al (i:=2) Aa).trans (Vd _ ((Al (i:=2) Aa).trans (Vd _ ((Al (i:=2) Aa).trans (Vd _ ((Al (i:=2) Aa).trans (Vd _ (Vh _))))))))))))))) ?_))))))));have hG:=BO hE hn;exact AL (AW (hu,(hi++([hf]:List Aj),hd+1),hp) ⟨hG,Vy _⟩ (AZ.c Aa (AZ.c Aa (AZ.c Aa (AZ.c Aa AZ.nil)))) (sC (sC (sC (sC (sC (sC (sC (sC (sS sN))))))))))
   ·refine BM (AI ?_);have hH:=CC hz hn hs;exact AI (B1 (AW (hi,v46) hH (AZ.c Aa AZ.nil) (sC (sC (sC (sC (sC (sC (sC (sC sN))))))))))
  ·rintro⟨hj,hl⟩ hm;refine DE (l':=[(7,rv hl)]) (H':=[.blk b6 [AH 4 (Au Ac ((Ad d_p1 (Ay d.fEntities e (-1))).fState)),rv v7,Ak ((Ad d_p1 (Ay d.fEntities e (-1))).fDone)] 87,.row v7 88 1 (Au (eP ha) ((Ad d_p1 (Ay d.fEntities e (-1))).fCalls)),.poolw hb hh 87 88 1 (Au (Af ha) d_p1) (some (CU (Ay d.fEntities e (-1)),(b6,v7))),.blk he [Ak d.fNow,rv (.map (some hb)),rv (.map (some ha))] 68,.map hb (AA (mP hb) d.fEntities),.map ha (AA (mP ha) d.fCalls),.pool ha hg 44 (Au Ae d_p2),.row hl 44 8 (Au Ae hj)]) Aa Aa ?_;replace hm:HG hj=some r:=hm;unfold HG at hm;refine Bw (Bf (As (wm Aa (wa Aa (A3 (A8 (WK.putsame (encw:=(Af ha)) (xs:=d_p1) (i:=Ay d.fEntities e (-1)) (Hr:=[.blk he [Ak d.fNow,rv (.map (some hb)),rv (.map (some ha))] 68,.map hb (AA (mP hb) d.fEntities),.map ha (AA (mP ha) d.fCalls),.pool ha hg 44 (Au Ae d_p2),.row hl 44 8 (Au Ae hj)]) (Vh _) g4 [] trivial Aa Aa (WK.freeze (i:=5) Aa (WK.up (d:=4) (r:=AH 8 (Au Ae hj)) Aa (Up.fact (i:=0) Aa) (CD (H2:=[.blk he [Ak d.fNow,rv (.map (some hb)),rv (.map (some ha))] 68,.map hb (AA (mP hb) d.fEntities),.map ha (AA (mP ha) d.fCalls),.poolw hb hh 87 88 1 (Au (Af ha) d_p1) none,.pool ha hg 44 (Au Ae d_p2),.fact hl (AH 8 (Au Ae hj))]) ((Al (i:=2) Aa).trans (Vd _ ((Al (i:=2) Aa).trans (Vd _ ((Al (i:=2) Aa).trans (Vd _ ((Al (i:=1) Aa).trans (Vd _ ((Al (i:=1) Aa).trans (Vd _ (Vh _))))))))))) ?_))))))))));obtain rfl:=A9 hm;exact A7 (Cd Tryz.results21 (AX Aa)) (sC (sC (sC (sC (sC (sS sN)))))) ⟨Aa,Aa⟩
theorem G8 (F:Nat)(he:Nat)(hb:Nat)(ha:Nat)(hf:Value)(hg:Value)(d:Aq)(d_p1:(List Ai))(d_p2:(List Aj))(e:Am)(r:(List Am))(h:D9 F d d_p1 d_p2 e=some r):Fn Tryz.prog GE 20 [rP he 0,rS e] [.blk he [Ak d.fNow,rv (.map (some hb)),rv (.map (some ha))] 68,.map hb (AA (mP hb) d.fEntities),.map ha (AA (mP ha) d.fCalls),.poolw hb hf 87 88 1 (Au (Af ha) d_p1) none,.pool ha hg 44 (Au Ae d_p2)] (λR H=>R=AH 1 (Au eS r)∧H=[.blk he [Ak d.fNow,rv (.map (some hb)),rv (.map (some ha))] 68,.map hb (AA (mP hb) d.fEntities),.map ha (AA (mP ha) d.fCalls),.poolw hb hf 87 88 1 (Au (Af ha) d_p1) none,.pool ha hg 44 (Au Ae d_p2)]):=by
 refine enter (n:=27) Tryz.func20 Aa Tryz.ntmps20 Aa (λw Z=>?_);unfold D9 at h;refine As (wa Aa (BH (wa Aa (A3 (A1 (As (wm Aa (wm Aa (ob h λr1 e3 h2=>HP (Hr:=[]) Tryz.call21 (IU F he hb ha hf hg d d_p1 d_p2 e r1 e3) Aa (Vh _) Aa ?_)))))))));rintro _ _ ⟨rfl,rfl⟩;refine wv (Bk (ys:=r1) (enc:=Ae) DK Aa) (wv (r:=Ak 0) (Ap Aa) (A3 (Ba (WC.nilrow (e:=9) (sz:=1) (Ke (H2:=[.blk he [Ak d.fNow,rv (.map (some hb)),rv (.map (some ha))] 68,.map hb (AA (mP hb) d.fEntities),.map ha (AA (mP ha) d.fCalls),.poolw hb hf 87 88 1 (Au (Af ha) d_p1) none,.pool ha hg 44 (Au Ae d_p2),.row (.slice none 0 0         ) 9 1 (Au eS ([]:List Am))]) ((Al (i:=1) Aa).trans (Vd _ ((Al (i:=1) Aa).trans (Vd _ ((Al (i:=1) Aa).trans (Vd _ ((Al (i:=1) Aa).trans (Vd _ ((Al (i:=1) Aa).trans (Vd _ (Vh _))))))))))) (ob h2 λhu hw hx=>BN (S:=Nat×((List Am)×Int)×(Value)) (V:=((List Am))×(Value)) 0 (λσ=>BI (λσ=>Cz r1 σ.1 σ.2) σ.1 σ.2.1=some hu) (λσ=>[(5,rv σ.2.2),(10,AH 8 (Au Ae r1)),(11,Ak (r1.length:Int)),(12,Ak σ.2.1.2)]) (λσ=>[.blk he [Ak d.fNow,rv (.map (some hb)),rv (.map (some ha))] 68,.map hb (AA (mP hb) d.fEntities),.map ha (AA (mP ha) d.fCalls),.poolw hb hf 87 88 1 (Au (Af ha) d_p1) none,.pool ha hg 44 (Au Ae d_p2),.row σ.2.2 9 1 (Au eS σ.2.1.1)]) (λσ=>σ.1) (F,(([]:List Am),0),(.slice none 0 0         )) hw (AZ.c Aa (AZ.c Aa (AZ.c Aa (AZ.c Aa AZ.nil)))) (sC (sC (sC (sC (sC (sC sN)))))) (λσ=>ES σ.1=some r) (λσ=>[(5,rv σ.2)]) (λσ=>[.blk he [Ak d.fNow,rv (.map (some hb)),rv (.map (some ha))] 68,.map hb (AA (mP hb) d.fEntities),.map ha (AA (mP ha) d.fCalls),.poolw hb hf 87 88 1 (Au (Af ha) d_p1) none,.pool ha hg 44 (Au Ae d_p2),.row σ.2 9 1 (Au eS σ.1)]) ?_ ?_))))))
 ·rintro⟨hH,⟨hh,hd⟩,hi⟩ hy;refine C7 (l':=[(5,rv hi),(10,AH 8 (Au Ae r1)),(11,Ak (r1.length:Int)),(12,Ak hd)]) (H':=[.blk he [Ak d.fNow,rv (.map (some hb)),rv (.map (some ha))] 68,.map hb (AA (mP hb) d.fEntities),.map ha (AA (mP ha) d.fCalls),.poolw hb hf 87 88 1 (Au (Af ha) d_p1) none,.pool ha hg 44 (Au Ae d_p2),.row hi 9 1 (Au eS hh)]) Aa Aa ?_;obtain⟨hz,rfl,hm,hj,hq⟩:=DI hy;replace hj:Cz r1 hh hd=some hm:=hj;unfold Cz at hj;refine As (wv (EN Aa Aa) (A3 (A1 (cz hj Aa (λh0 h1=>?_) (λh0 h3=>?_)))))
  ·refine AG (Bf (Dk (S:=((List Am))×(Value)) (λσ=>Dx hd σ.1=some hm) (λσ=>[(5,rv σ.2),(10,AH 8 (Au Ae r1)),(11,Ak (r1.length:Int)),(12,Ak hd)]) (λσ=>[.blk he [Ak d.fNow,rv (.map (some hb)),rv (.map (some ha))] 68,.map hb (AA (mP hb) d.fEntities),.map ha (AA (mP ha) d.fCalls),.poolw hb hf 87 88 1 (Au (Af ha) d_p1) none,.pool ha hg 44 (Au Ae d_p2),.row σ.2 9 1 (Au eS σ.1)]) ?_ ?_))
   ·refine Ba (As (ck h1 λh4 h5=>wv (Bh (enc:=Ae) (ys:=r1) DK Cr Aa Aa h4) (wv (Bx Ls Cr Aa Aa Aa) (Ca (cs:=[rS ([]:Am),rS ([]:Am),rS ([]:Am),rv (.slice none 0 0),Ak 0,rv (.slice none 0 0),Ak 0,Ak 0]) Or Aa Aa (λhr=>?_)))));refine AR (i:=0) Cr Aa Aa Aa (Bm.c Aa) Aa Aa (cs':=[rS (((Ad r1 hd).fOp).fEntity),rS (((Ad r1 hd).fOp).fID),rS (((Ad r1 hd).fOp).fOp),AH 1 (Au Ah (((Ad r1 hd).fOp).fArgs)),Ak (((Ad r1 hd).fAnswer).fErr),AH 4 (Au Ac (((Ad r1 hd).fAnswer).fValue)),Ak ((Ad r1 hd).fFrom),Ak ((Ad r1 hd).fTo)]) Aa (H':=[.blk hr [rS (((Ad r1 hd).fOp).fEntity),rS (((Ad r1 hd).fOp).fID),rS (((Ad r1 hd).fOp).fOp),AH 1 (Au Ah (((Ad r1 hd).fOp).fArgs)),Ak (((Ad r1 hd).fAnswer).fErr),AH 4 (Au Ac (((Ad r1 hd).fAnswer).fValue)),Ak ((Ad r1 hd).fFrom),Ak ((Ad r1 hd).fTo)] 44,.blk he [Ak d.fNow,rv (.map (some hb)),rv (.map (some ha))] 68,.map hb (AA (mP hb) d.fEntities),.map ha (AA (mP ha) d.fCalls),.poolw hb hf 87 88 1 (Au (Af ha) d_p1) none,.pool ha hg 44 (Au Ae d_p2),.row hi 9 1 (Au eS hh)]) Aa (BH (vF CX Aa C9 (vL 0 DY Aa (wv (BW Aa Aa) (A3 (cz h5 Aa (λh6 h7=>?_) (λh6 h8=>?_)))))))
    ·refine AD (wm Aa (vF CX Aa Cp (vF BX Aa DX (vL 0 Er Aa (Bq (ys:=([((Ad r1 hd).fOp).fID]:List Am)) (enc:=eS) (css:=[[rS (((Ad r1 hd).fOp).fID)]]) (xs:=[.tmp 22]) Mj DX UE Aa Aa Aa ⟨Kt.one Aa (Up.refl _),trivial⟩ Aa ML Aa Aa Aa (λh9=>?_))))));refine ck h7 λhA hB=>Exists.elim Uw λinf hinf=>DZ (xs:=hh) (ys:=([((Ad r1 hd).fOp).fID]:List Am)) (enc:=eS) (i:=7) Mj hinf.1 hinf.2.1 hinf.2.2.1 hinf.2.2.2 Aa Aa Aa Aa Aa (PL.w (i:=0) Aa Aa) ML TZ hA Aa (λhs=>?_);exact wa Aa (A5 (Bi (CD (H2:=[.blk he [Ak d.fNow,rv (.map (some hb)),rv (.map (some ha))] 68,.map hb (AA (mP hb) d.fEntities),.map ha (AA (mP ha) d.fCalls),.poolw hb hf 87 88 1 (Au (Af ha) d_p1) none,.pool ha hg 44 (Au Ae d_p2),.row hs 9 1 (Au eS (hh++([((Ad r1 hd).fOp).fID]:List Am))),.row (.slice (some ⟨h9,0,none⟩) 1 1) 9 1 (Au eS ([((Ad r1 hd).fOp).fID]:List Am)),.blk hr [rS (((Ad r1 hd).fOp).fEntity),rS (((Ad r1 hd).fOp).fID),rS (((Ad r1 hd).fOp).fOp),AH 1 (Au Ah (((Ad r1 hd).fOp).fArgs)),Ak (((Ad r1 hd).fAnswer).fErr),AH 4 (Au Ac (((Ad r1 hd).fAnswer).fValue)),Ak ((Ad r1 hd).fFrom),Ak ((Ad r1 hd).fTo)] 44]) ((Al (i:=3) Aa).trans (Vd _ ((Al (i:=3) Aa).trans (Vd _ ((Al (i:=3) Aa).trans (Vd _ ((Al (i:=3) Aa).trans (Vd _ ((Al (i:=3) Aa).trans (Vd _ (Vh _))))))))))) (AL (AW (hh++([((Ad r1 hd).fOp).fID]:List Am),hs) hB (AZ.c Aa (AZ.c Aa (AZ.c Aa (AZ.c Aa AZ.nil)))) (sC (sC (sC (sC (sC (sC (sS (sS sN)))))))))))))
    ·exact AG (Bi (AL (AW (hh,hi) h8 (AZ.c Aa (AZ.c Aa (AZ.c Aa (AZ.c Aa AZ.nil)))) (sS (sC (sC (sC (sC (sC (sC sN))))))))))
   ·rintro⟨hn,ho⟩ hk;refine C7 (l':=[(5,rv ho),(10,AH 8 (Au Ae r1)),(11,Ak (r1.length:Int)),(12,Ak hd)]) (H':=[.blk he [Ak d.fNow,rv (.map (some hb)),rv (.map (some ha))] 68,.map hb (AA (mP hb) d.fEntities),.map ha (AA (mP ha) d.fCalls),.poolw hb hf 87 88 1 (Au (Af ha) d_p1) none,.pool ha hg 44 (Au Ae d_p2),.row ho 9 1 (Au eS hn)]) Aa Aa ?_;replace hk:Dx hd hn=some hm:=hk;unfold Dx at hk;refine AD (ck hk λhC hD=>wv (Cy Aa Aa hC) (wm Aa (A5 ?_)));have hE:=BO hD hq;exact AL (AW (hz,(hn,hd+1),ho) ⟨hE,Vy _⟩ (AZ.c Aa (AZ.c Aa (AZ.c Aa (AZ.c Aa AZ.nil)))) (sC (sC (sC (sC (sC (sC sN)))))))
  ·refine BM (AI ?_);have hG:=CC h3 hq hx;exact AI (B1 (AW (hh,hi) hG (AZ.c Aa AZ.nil) (sC (sC (sC (sC (sC (sC sN))))))))
 ·rintro⟨hp,ht⟩ hl;refine DE (l':=[(5,rv ht)]) (H':=[.blk he [Ak d.fNow,rv (.map (some hb)),rv (.map (some ha))] 68,.map hb (AA (mP hb) d.fEntities),.map ha (AA (mP ha) d.fCalls),.poolw hb hf 87 88 1 (Au (Af ha) d_p1) none,.pool ha hg 44 (Au Ae d_p2),.row ht 9 1 (Au eS hp)]) Aa Aa ?_;replace hl:ES hp=some r:=hl;unfold ES at hl;refine Bw (Bf (As (wm Aa (wa Aa (A3 (A8 (WK.freeze (i:=5) Aa (WK.up (d:=4) (r:=AH 1 (Au eS hp)) Aa (Up.fact (i:=0) Aa) ?_))))))));obtain rfl:=A9 hl;exact A7 (Cd Tryz.results20 (AX Aa)) (sS (sC (sC (sC (sC (sC sN)))))) ⟨Aa,Aa⟩
theorem IS (hd:Nat)(ha:Nat)(hb:Nat)(he:Value)(hf:Value)(d:Aq)(d_p1:(List Ai))(d_p2:(List Aj))(r:(List Am))(h:GB d d_p1 d_p2=some r):Fn Tryz.prog GE 22 [rP hd 0] [.blk hd [Ak d.fNow,rv (.map (some ha)),rv (.map (some hb))] 68,.map ha (AA (mP ha) d.fEntities),.map hb (AA (mP hb) d.fCalls),.poolw ha he 87 88 1 (Au (Af hb) d_p1) none,.pool hb hf 44 (Au Ae d_p2)] (λR H=>R=AH 1 (Au eS r)∧H=[.blk hd [Ak d.fNow,rv (.map (some ha)),rv (.map (some hb))] 68,.map ha (AA (mP ha) d.fEntities),.map hb (AA (mP hb) d.fCalls),.poolw ha he 87 88 1 (Au (Af hb) d_p1) none,.pool hb hf 44 (Au Ae d_p2)]):=by
 refine enter (n:=12) Tryz.func22 Aa Tryz.ntmps22 Aa (λw Z=>?_);unfold GB at h;refine As (wa Aa (A3 (A1 (As (wm Aa (HP (Hr:=[.map ha (AA (mP ha) d.fEntities),.map hb (AA (mP hb) d.fCalls),.poolw ha he 87 88 1 (Au (Af hb) d_p1) none,.pool hb hf 44 (Au Ae d_p2)]) QV (IT hd ha hb d true Aa) Aa (Vh _) Aa ?_))))));rintro _ _ ⟨rfl,rfl⟩;refine wv (BS Aa) (A3 (Es Aa (Dd Aa) (AG (Bf (As (wm Aa (wv (AY Aa) (vF GR Aa Nf (vL 0 Nj Aa (Gy (rs:=[rv (.map (some ha))]) (Hin:=[]) (Hr:=[.blk hd [Ak d.fNow,rv (.map (some ha)),rv (.map (some hb))] 68,.map ha (AA (mP ha) d.fEntities),.map hb (AA (mP hb) d.fCalls),.poolw ha he 87 88 1 (Au (Af hb) d_p1) none,.pool hb hf 44 (Au Ae d_p2)]) Tryz.call50 Aa (Vh _) (OI ha) Aa ?_))))))))));rintro _ _ ⟨b1,rfl,rfl⟩;refine ck h λg2 h3=>Gy (rs:=[rv (.func (.func 74) #[] #[(.pointer (some ⟨b1,0,none⟩))])]) (Hin:=[.blk b1 [rv (.map (some ha))] 65,.map ha (AA (mP ha) d.fEntities)]) (Hr:=[.blk hd [Ak d.fNow,rv (.map (some ha)),rv (.map (some hb))] 68,.map hb (AA (mP hb) d.fCalls),.poolw ha he 87 88 1 (Au (Af hb) d_p1) none,.pool hb hf 44 (Au Ae d_p2)]) Tryz.call49 Aa ((Al (i:=0) Aa).trans (Vd _ ((Al (i:=1) Aa).trans (Vd _ (Vh _))))) (Nq (mP ha) d.fEntities b1 ha g2) Aa ?_;rintro _ _ ⟨v4,rfl,rfl⟩;refine wa Aa (A3 (A8 (WK.freeze (i:=0) Aa (WK.up (d:=2) (r:=AH 1 (Au eS (JO d.fEntities))) Aa (Up.fact (i:=0) Aa) (CD (H2:=[.blk hd [Ak d.fNow,rv (.map (some ha)),rv (.map (some hb))] 68,.map ha (AA (mP ha) d.fEntities),.map hb (AA (mP hb) d.fCalls),.poolw ha he 87 88 1 (Au (Af hb) d_p1) none,.pool hb hf 44 (Au Ae d_p2),.fact v4 (AH 1 (Au eS (JO d.fEntities))),.blk b1 [rv (.map (some ha))] 65]) ((Al (i:=3) Aa).trans (Vd _ ((Al (i:=2) Aa).trans (Vd _ ((Al (i:=2) Aa).trans (Vd _ ((Al (i:=2) Aa).trans (Vd _ ((Al (i:=2) Aa).trans (Vd _ (Vh _))))))))))) ?_)))));obtain rfl:=A9 h3;exact A7 (Cd Tryz.results22 (AX Aa)) (sC (sC (sC (sC (sC (sS (sS sN))))))) ⟨Aa,Aa⟩
end Go.Proofs.YtfbmdidnlhifjaaGreatDoor.Q
namespace Go.Proofs.YtfbmdidnlhifjaaGreatDoor
open Go
set_option linter.unusedVariables false
def Ef (F:Nat) :Option (Bool):=
 Bo (R8) λr1=>Bo (KS ([97]:Am) 1) λr9=>Bo (Cg F r1.1 r1.2.1 r1.2.2 r9 5) λhd=>Bd (!(!decide (hd.1=0)))<|Bo (KS ([98]:Am) 2) λhh=>Bo (Cg F hd.2.1 hd.2.2.1 hd.2.2.2 hh 5) λhe=>Bd (!(!decide (he.1=0)))<|Bo (KS ([98]:Am) 1) λhi=>Bo (Cg F he.2.1 he.2.2.1 he.2.2.2 hi 5) λhb=>Bd (!(!decide (hb.1=19)))<|Bo (D9 F hb.2.1 hb.2.2.1 hb.2.2.2 ([120]:Am)) λhj=>Bo (ET F hb.2.1 hb.2.2.1 hb.2.2.2 ([120]:Am) 6) λhf=>Bo (ET F hf.2.2.1 hf.2.2.2.1 hf.2.2.2.2 ([120]:Am) 7) λha=>Bo (GA ha.2.2.1 ha.2.2.2.1 ha.2.2.2.2 ([120]:Am)) λhg=>Bo (EA F hj ([([97]:Am),([98]:Am)]:List Am)) λhk=>Bd (hk)<|Bd (hf.2.1)<|Bd (ha.2.1)<|Bd (decide (ha.1.fTo=7))<|Bd (decide ((ha.1.fAnswer.fValue.length:Int)=1))<|Bd (BL 0 (ha.1.fAnswer.fValue.length:Int))<|Bd (decide (((Ad ha.1.fAnswer.fValue 0).fInt)=3))<|Bd (decide ((hg.length:Int)=1))<|Bd (BL 0 (hg.length:Int))<|Bd (decide (((Ad hg 0).fInt)=3))<|Bo (GB ha.2.2.1 ha.2.2.2.1 ha.2.2.2.2) λhl=>Bo (EA F hl ([([120]:Am)]:List Am)) λhm=>some hm
end Go.Proofs.YtfbmdidnlhifjaaGreatDoor
namespace Go.Proofs.YtfbmdidnlhifjaaGreatDoor.Q
open Go Go.RowKit
set_option linter.unusedVariables false
set_option linter.unusedSimpArgs false
set_option maxRecDepth 100000
set_option maxHeartbeats 4000000
theorem EE (F:Nat)  (r:Bool)(h:Ef F=some r):Fn Tryz.prog GE 10 [] [] (λR H=>R=rB r∧H=[]):=by
 refine enter (n:=87) Tryz.func10 Aa Tryz.ntmps10 Aa (λw Z=>?_);unfold Ef at h;refine As (wa Aa (BH (ob h λr1 e3 h2=>HP (Hr:=[]) Tryz.call16 (R7 r1 e3) Aa (Vh _) Aa ?_)));rintro _ _ ⟨b4,b5,b6,v7,v8,rfl,rfl⟩;refine wa Aa (A3 (A1 (As (wm Aa (ob h2 λr9 hz h0=>Dr Tryz.call35 (KR ([97]:Am) 1 r9 hz) Aa (ob h0 λhe h1 h3=>HP (Hr:=[]) QW (Gs F b4 b5 b6 v7 v8 r1.1 r1.2.1 r1.2.2 r9 5 he h1) Aa (Vh _) Aa ?_))))));rintro _ _ ⟨h4,h5,rfl,rfl⟩;refine wv (DP Aa Aa) (wm Aa (ck h3 λg17 h6=>Br (b:=!decide (he.1=0)) Aa Aa (Bool.not_eq_eq_eq_not.1 g17) (wm Aa (Br (b:=!decide (he.1=0)) Aa Aa (Bool.not_eq_eq_eq_not.1 g17) (ob h6 λhr h7 h8=>Dr Tryz.call35 (KR ([98]:Am) 2 hr h7) Aa (Br (b:=!decide (he.1=0)) Aa Aa (Bool.not_eq_eq_eq_not.1 g17) (ob h8 λhd h9 hA=>HP (Hr:=[]) QW (Gs F b4 b5 b6 h4 h5 he.2.1 he.2.2.1 he.2.2.2 hr 5 hd h9) Aa (Vh _) Aa ?_)))))));rintro _ _ ⟨hB,v26,rfl,rfl⟩;refine Br (b:=!decide (he.1=0)) Aa Aa (Bool.not_eq_eq_eq_not.1 g17) (wv (DP Aa Aa) (wv (r:=rB (!decide (hd.1=0))) (AC (b:=!decide (he.1=0)) Aa (Bool.not_eq_eq_eq_not.1 g17) Aa) (wm Aa (ck hA λhj hC=>Br (b:=!decide (hd.1=0)) Aa Aa (Bool.not_eq_eq_eq_not.1 hj) (wm Aa (Br (b:=!decide (hd.1=0)) Aa Aa (Bool.not_eq_eq_eq_not.1 hj) (ob hC λhs hD hE=>Dr Tryz.call35 (KR ([98]:Am) 1 hs hD) Aa (Br (b:=!decide (hd.1=0)) Aa Aa (Bool.not_eq_eq_eq_not.1 hj) (ob hE λhf hG hH=>HP (Hr:=[]) QW (Gs F b4 b5 b6 hB v26 hd.2.1 hd.2.2.1 hd.2.2.2 hs 5 hf hG) Aa (Vh _) Aa ?_)))))))));rintro _ _ ⟨v35,v36,rfl,rfl⟩;refine Br (b:=!decide (hd.1=0)) Aa Aa (Bool.not_eq_eq_eq_not.1 hj) (wv (DP Aa Aa) (wv (r:=rB (!decide (hf.1=19))) (AC (b:=!decide (hd.1=0)) Aa (Bool.not_eq_eq_eq_not.1 hj) Aa) (A3 (ck hH λhI hJ=>Es (b:=!decide (hf.1=19)) Aa (Bool.not_eq_eq_eq_not.1 hI) (AG (Bf (As (wm Aa (ob hJ λht hK hL=>HP (Hr:=[]) Tryz.call20 (G8 F b4 b5 b6 v35 v36 hf.2.1 hf.2.2.1 hf.2.2.2 ([120]:Am) ht hK) Aa (Vh _) Aa ?_)))))))));rintro _ _ ⟨rfl,rfl⟩;refine wa Aa (BH (wm Aa (ob hL λhb hN hO=>HP (Hr:=[]) Tryz.call17 (Km F b4 b5 b6 v35 v36 hf.2.1 hf.2.2.1 hf.2.2.2 ([120]:Am) 6 hb hN) Aa (Vh _) Aa ?_)));rintro _ _ ⟨hu,v46,rfl,rfl⟩;refine wm Aa (wv (AU Aa Aa) (wv (AU Aa Aa) (Ca (cs:=[rS ([]:Am),rS ([]:Am),rS ([]:Am),rv (.slice none 0 0),Ak 0,rv (.slice none 0 0),Ak 0,Ak 0]) Or Aa Aa (λhk=>?_))));refine AR (i:=0) Cr Aa Aa Aa (Bm.c Aa) Aa Aa (cs':=[rS hb.1.fOp.fEntity,rS hb.1.fOp.fID,rS hb.1.fOp.fOp,AH 1 (Au Ah hb.1.fOp.fArgs),Ak hb.1.fAnswer.fErr,AH 4 (Au Ac hb.1.fAnswer.fValue),Ak hb.1.fFrom,Ak hb.1.fTo]) Aa (H':=[.blk hk (Ae hb.1) 44,.blk b4 [Ak hb.2.2.1.fNow,rv (.map (some b5)),rv (.map (some b6))] 68,.map b5 (AA (mP b5) hb.2.2.1.fEntities),.map b6 (AA (mP b6) hb.2.2.1.fCalls),.poolw b5 hu 87 88 1 (Au (Af b6) hb.2.2.2.1) none,.pool b6 v46 44 (Au Ae hb.2.2.2.2)]) Aa (wa Aa (BH (wm Aa (ob hO λha hP hQ=>HP (Hr:=[.blk hk (Ae hb.1) 44]) Tryz.call17 (Km F b4 b5 b6 hu v46 hb.2.2.1 hb.2.2.2.1 hb.2.2.2.2 ([120]:Am) 7 ha hP) Aa ((Al (i:=1) Aa).trans (Vd _ ((Al (i:=1) Aa).trans (Vd _ ((Al (i:=1) Aa).trans (Vd _ ((Al (i:=1) Aa).trans (Vd _ ((Al (i:=1) Aa).trans (Vd _ (Vh _))))))))))) Aa ?_))));rintro _ _ ⟨v51,ho,rfl,rfl⟩;refine wm Aa (wv (AU Aa Aa) (wv (AU Aa Aa) (Ca (cs:=[rS ([]:Am),rS ([]:Am),rS ([]:Am),rv (.slice none 0 0),Ak 0,rv (.slice none 0 0),Ak 0,Ak 0]) Or Aa Aa (λhp=>?_))));refine AR (i:=0) Cr Aa Aa Aa (Bm.c Aa) Aa Aa (cs':=[rS ha.1.fOp.fEntity,rS ha.1.fOp.fID,rS ha.1.fOp.fOp,AH 1 (Au Ah ha.1.fOp.fArgs),Ak ha.1.fAnswer.fErr,AH 4 (Au Ac ha.1.fAnswer.fValue),Ak ha.1.fFrom,Ak ha.1.fTo]) Aa (H':=[.blk hp (Ae ha.1) 44,.blk b4 [Ak ha.2.2.1.fNow,rv (.map (some b5)),rv (.map (some b6))] 68,.map b5 (AA (mP b5) ha.2.2.1.fEntities),.map b6 (AA (mP b6) ha.2.2.1.fCalls),.poolw b5 v51 87 88 1 (Au (Af b6) ha.2.2.2.1) none,.pool b6 ho 44 (Au Ae ha.2.2.2.2),.blk hk (Ae hb.1) 44]) Aa (wa Aa (BH (wm Aa (ob hQ λhq hR hS=>HP (Hr:=[.blk hp (Ae ha.1) 44,.blk hk (Ae hb.1) 44]) Tryz.call19 (IR b4 b5 b6 v51 ho ha.2.2.1 ha.2.2.2.1 ha.2.2.2.2 ([120]:Am) hq hR) Aa ((Al (i:=1) Aa).trans (Vd _ ((Al (i:=1) Aa).trans (Vd _ ((Al (i:=1) Aa).trans (Vd _ ((Al (i:=1) Aa).trans (Vd _ ((Al (i:=1) Aa).trans (Vd _ (Vh _))))))))))) Aa ?_))));rintro _ _ ⟨rfl,rfl⟩;refine wa Aa (BH (wm Aa (Bq (ys:=([([97]:Am),([98]:Am)]:List Am)) (enc:=eS) (css:=[[rS ([97]:Am)],[rS ([98]:Am)]]) (xs:=[.const (.string ⟨#[97]⟩),.const (.string ⟨#[98]⟩)]) Mj DX UE Aa Aa Aa ⟨Kt.one Aa (Up.refl _),Kt.one Aa (Up.refl _),trivial⟩ Aa ML Aa Aa Aa (λhT=>?_))));refine WL.freeze (i:=0) Aa (WL.up (d:=40) (r:=AH 1 (Au eS ([([97]:Am),([98]:Am)]:List Am))) Aa (Up.fact (i:=0) Aa) (ob hS λhU hV hW=>Dr PR (Gu F ht ([([97]:Am),([98]:Am)]:List Am) hU hV) Aa (wm Aa (ck hW λhw hX=>wo hw (wm Aa (GW Aa hw Aa (wm Aa (ck hX λhx hY=>wo hx (wm Aa (GW Aa hx Aa (wm Aa (ck hY λhm hZ=>wo hm (vF CX Aa C9 (wo hm (vL 6 DY Aa (wo hm (wv (BW Aa Aa) (GW Aa hm Aa (wm Aa ?_)))))))))))))))))));refine ck hZ λhh ga=>wo hh (vF CX Aa BF (wo hh (vF Nc Aa DL (wo hh (vL 6 EY Aa (wo hh (wv (Bk (ys:=ha.1.fAnswer.fValue) (enc:=Ac) CB Aa) (wo hh (wv (BW Aa Aa) (GW Aa hh Aa (wm Aa (ck ga λhg gb=>wo hg (vF CX Aa BF (wo hg (vF Nc Aa DL (wo hg (vL 6 EY Aa (wo hg (ck gb λgc gd=>wv (Bh (enc:=Ac) (ys:=ha.1.fAnswer.fValue) CB Da Aa Aa gc) (wo hg ?_))))))))))))))))))));refine wv (AJ BU Aa C9 Aa Aa) (wo hg (wv (Bj DY Aa Aa) (wo hg (wv (BW Aa Aa) (GW Aa hg Aa (wm Aa (ck gd λhn ge=>wo hn (wm Aa (wo hn (wv (Bk (ys:=hq) (enc:=Ac) CB Aa) (wo hn (wv (BW Aa Aa) (GW Aa hn Aa (wm Aa (ck ge λhi gf=>wo hi (wm Aa (wo hi (ck gf λgg gh=>wv (Bh (enc:=Ac) (ys:=hq) CB Da Aa Aa gg) (wo hi (wv (AJ BU Aa C9 Aa Aa) ?_))))))))))))))))))));refine wo hi (wv (Bj DY Aa Aa) (wo hi (wv (BW Aa Aa) (GW Aa hi Aa (wm Aa (ck gh λhl gi=>wo hl (wm Aa (wo hl (ob gi λhy gj gl=>HP (Hr:=[.fact (.slice (some ⟨hT,0,none⟩) 2 2) (AH 1 (Au eS ([([97]:Am),([98]:Am)]:List Am))),.blk hp (Ae ha.1) 44,.blk hk (Ae hb.1) 44]) Tryz.call22 (IS b4 b5 b6 v51 ho ha.2.2.1 ha.2.2.2.1 ha.2.2.2.2 hy gj) Aa ((Al (i:=1) Aa).trans (Vd _ ((Al (i:=1) Aa).trans (Vd _ ((Al (i:=1) Aa).trans (Vd _ ((Al (i:=1) Aa).trans (Vd _ ((Al (i:=1) Aa).trans (Vd _ (Vh _))))))))))) Aa ?_)))))))));rintro _ _ ⟨rfl,rfl⟩;refine wo hl (Bq (ys:=([([120]:Am)]:List Am)) (enc:=eS) (css:=[[rS ([120]:Am)]]) (xs:=[.const (.string ⟨#[120]⟩)]) Mj DX UE Aa Aa Aa ⟨Kt.one Aa (Up.refl _),trivial⟩ Aa ML Aa Aa Aa (λgr=>?_));refine wo hl (WL.freeze (i:=0) Aa (WL.up (d:=84) (r:=AH 1 (Au eS ([([120]:Am)]:List Am))) Aa (Up.fact (i:=0) Aa) (ob gl λgm gp gq=>Dr PR (Gu F hy ([([120]:Am)]:List Am) gm gp) Aa (GW Aa hl Aa (wa Aa (A3 (A8 ?_)))))));obtain rfl:=A9 gq;exact A7 (Cd Tryz.results10 (AX Aa)) (sS (sS (sS (sS (sS (sS (sS (sS (sS sN))))))))) ⟨Aa,Aa⟩
end Go.Proofs.YtfbmdidnlhifjaaGreatDoor.Q
namespace Go.Proofs.YtfbmdidnlhifjaaGreatDoor
open Go
set_option linter.unusedVariables false
def EV (ha:Int)(hb:Int)(hd:(List (Am×Int)))(he:(List (Am×Int)))(hf:(List Ai))(hg:(List Aj)):Option (Stp (Int×Int×(List (Am×Int))×(List (Am×Int))×(List Ai)×(List Aj)) (Out (Bool) (Int×(List (Am×Int))×(List (Am×Int))×(List Ai)×(List Aj)))):=
 Bd (BE .i64 (ha+1))<|some (.next (ha+1,hb,hd,he,hf,hg))
def CQ (F:Nat)(l:(List AP))(ha:Int)(he:Int)(hf:(List (Am×Int)))(hg:(List (Am×Int)))(hh:(List Ai))(hi:(List Aj)):Option (Stp (Int×Int×(List (Am×Int))×(List (Am×Int))×(List Ai)×(List Aj)) (Out (Bool) (Int×(List (Am×Int))×(List (Am×Int))×(List Ai)×(List Aj)))):=
 Bg (decide (ha<(l.length:Int))) (Bd (BL ha (l.length:Int))<|Bg (decide (((Ad l ha).fKind)=1)) (Bo (ET F (Aq.mk he hf hg) hh hi (((Ad l ha).fOp).fEntity) ((Ad l ha).fNow)) λhb=>EV ha hb.2.2.1.fNow hb.2.2.1.fEntities hb.2.2.1.fCalls hb.2.2.2.1 hb.2.2.2.2) (Bo (Cg F (Aq.mk he hf hg) hh hi ((Ad l ha).fOp) ((Ad l ha).fNow)) λhd=>EV ha hd.2.1.fNow hd.2.1.fEntities hd.2.1.fCalls hd.2.2.1 hd.2.2.2)) (some (.out (.go (he,hf,hg,hh,hi))))
def EC (ha:Int)(hb:Int)(hd:(List (Am×Int)))(he:(List (Am×Int)))(hf:(List Ai))(hg:(List Aj)):Option (Stp (Int×Int×(List (Am×Int))×(List (Am×Int))×(List Ai)×(List Aj)) (Out (Bool) (Int×(List (Am×Int))×(List (Am×Int))×(List Ai)×(List Aj)))):=
 Bd (BE .i64 (ha+1))<|some (.next (ha+1,hb,hd,he,hf,hg))
def C6 (ha:Bool):Option (Bool):=
 some ha
def C5 (ha:Bool):Option (Bool):=
 some ha
def ED (F:Nat)(l:(List AP))(ha:Int)(he:Int)(hf:(List (Am×Int)))(hg:(List (Am×Int)))(hh:(List Ai))(hi:(List Aj)):Option (Stp (Int×Int×(List (Am×Int))×(List (Am×Int))×(List Ai)×(List Aj)) (Out (Bool) (Int×(List (Am×Int))×(List (Am×Int))×(List Ai)×(List Aj)))):=
 Bg (decide (ha<(l.length:Int))) (Bd (BL ha (l.length:Int))<|Bg (decide (((Ad l ha).fKind)=1)) (Bo (ET F (Aq.mk he hf hg) hh hi (((Ad l ha).fOp).fEntity) ((Ad l ha).fNow)) λhb=>EC ha hb.2.2.1.fNow hb.2.2.1.fEntities hb.2.2.1.fCalls hb.2.2.2.1 hb.2.2.2.2) (Bo (Cg F (Aq.mk he hf hg) hh hi ((Ad l ha).fOp) ((Ad l ha).fNow)) λhd=>EC ha hd.2.1.fNow hd.2.1.fEntities hd.2.1.fCalls hd.2.2.1 hd.2.2.2)) (some (.out (.go (he,hf,hg,hh,hi))))
def EB (F:Nat)(bad:AP)(hd:Int)(he:(List (Am×Int)))(hf:(List (Am×Int)))(hg:(List Ai))(hh:(List Aj)):Option (Bool):=
 Bo (GA (Aq.mk hd he hf) hg hh bad.fOp.fEntity) λhi=>Bo (D9 F (Aq.mk hd he hf) hg hh bad.fOp.fEntity) λhj=>Bo (GC F (Aq.mk hd he hf) hg hh bad.fOp.fEntity) λhk=>Bo (GB (Aq.mk hd he hf) hg hh) λhl=>Bg (decide (bad.fKind=1)) (Bo (ET F (Aq.mk hd he hf) hg hh bad.fOp.fEntity bad.fNow) λha=>Bg (ha.2.1) (Bo (Ef F) λhm=>some hm) (Bo (GA ha.2.2.1 ha.2.2.2.1 ha.2.2.2.2 bad.fOp.fEntity) λhn=>Bo (E5 F hn hi) λho=>Bg (ho) (Bo (D9 F ha.2.2.1 ha.2.2.2.1 ha.2.2.2.2 bad.fOp.fEntity) λhp=>Bo (EA F hp hj) λhq=>Bg (hq) (Bo (GC F ha.2.2.1 ha.2.2.2.1 ha.2.2.2.2 bad.fOp.fEntity) λhr=>Bo (In F hr hk) λhs=>Bg (hs) (Bo (GB ha.2.2.1 ha.2.2.2.1 ha.2.2.2.2) λht=>Bo (EA F ht hl) λhu=>Bg (hu) (Bo (Ef F) λhw=>C6 hw) (C6 false)) (C6 false)) (C6 false)) (C6 false))) (Bo (Cg F (Aq.mk hd he hf) hg hh bad.fOp bad.fNow) λhb=>Bg (decide (hb.1=0)) (Bo (Ef F) λhx=>some hx) (Bo (GA hb.2.1 hb.2.2.1 hb.2.2.2 bad.fOp.fEntity) λhy=>Bo (E5 F hy hi) λhz=>Bg (hz) (Bo (D9 F hb.2.1 hb.2.2.1 hb.2.2.2 bad.fOp.fEntity) λh0=>Bo (EA F h0 hj) λh1=>Bg (h1) (Bo (GC F hb.2.1 hb.2.2.1 hb.2.2.2 bad.fOp.fEntity) λh2=>Bo (In F h2 hk) λh3=>Bg (h3) (Bo (GB hb.2.1 hb.2.2.1 hb.2.2.2) λh4=>Bo (EA F h4 hl) λh5=>Bg (h5) (Bo (Ef F) λh6=>C5 h6) (C5 false)) (C5 false)) (C5 false)) (C5 false)))
def IX (F:Nat)(l:(List AP))(bad:AP):Option (Bool):=
 Bd ((Co F l).isSome)<|Bd (imp (!(!(ov (Co F l)))) ((Co F ([bad]:List AP)).isSome))<|Bg (((!(ov (Co F l)))||(!(ov (Co F ([bad]:List AP)))))) (Bo (Ef F) λhb=>some hb) (Bo (R8) λha=>Bo (BI (λσ=>ED F l σ.1 σ.2.1 σ.2.2.1 σ.2.2.2.1 σ.2.2.2.2.1 σ.2.2.2.2.2) F (0,ha.1.fNow,ha.1.fEntities,ha.1.fCalls,ha.2.1,ha.2.2)) (BD λν=>EB F bad ν.1 ν.2.1 ν.2.2.1 ν.2.2.2.1 ν.2.2.2.2))
end Go.Proofs.YtfbmdidnlhifjaaGreatDoor
namespace Go.Proofs.YtfbmdidnlhifjaaGreatDoor.Q
open Go Go.RowKit
set_option linter.unusedVariables false
set_option linter.unusedSimpArgs false
set_option maxRecDepth 100000
set_option maxHeartbeats 4000000
theorem Q5 (F:Nat)(l:(List AP))(bad:AP)(r:Bool)(h:IX F l bad=some r):Fn Tryz.prog GE 4 [AH 6 (Au Ax l),Bb (Ax bad)] [] (λR H=>R=rB r∧H=[]):=by
 refine enter (n:=125) Tryz.func4 Aa Tryz.ntmps4 Aa (λw Z=>?_);unfold IX at h;refine As (B8 Aa Aa (λb1=>?_));refine wa Aa (A3 (A1 (ck h λg2 h3=>ck h3 λg4 h5=>Bc [(0,AH 6 (Au Ax l)),(3,rP b1 0),(22,rB ((!(ov (Co F l)))||(!(ov (Co F ([bad]:List AP))))))] [.blk b1 (Ax bad) 39] ?_ ?_)))
 ·refine AD (wm Aa (Dr Tryz.call15 (KO F l (ov (Co F l)) (Jt g2)) Aa (wv (BS Aa) (wm Aa (Be (!(ov (Co F l))) (λc6=>?_) (λc6=>?_))))))
  ·refine wf c6 (wf c6 (wf c6 (wf c6 (wv (r:=rB true) (A6 Aa c6 Aa) (A5 ?_)))));exact Dq c6
  ·refine wo c6 (wv (Bl (i:=0) Tryz.isAgg39 Ng Aa Aa Aa Aa) (wo c6 (Bq (ys:=([bad]:List AP)) (enc:=Ax) (css:=[[Ak bad.fKind,rS bad.fOp.fEntity,rS bad.fOp.fID,rS bad.fOp.fOp,AH 1 (Au Ah bad.fOp.fArgs),Ak bad.fNow]]) (xs:=[.tmp 18]) Lr Ng Tryz.zeroValue39 Aa Aa Aa ⟨Kt.agg ⟨Up.refl _,Up.refl _,Up.refl _,Up.refl _,Up.refl _,Up.refl _,trivial⟩,trivial⟩ Aa EX Aa Aa Aa (λb7=>?_))));refine wo c6 (WL.freeze (i:=0) Aa (WL.up (d:=19) (r:=AH 6 (Au Ax ([bad]:List AP))) Aa (Up.fact (i:=0) Aa) (Dr Tryz.call15 (KO F ([bad]:List AP) (ov (Co F ([bad]:List AP))) (Jt (NW g4 c6))) Aa (wo c6 (wv (BS Aa) (Kw Aa c6 Aa (A5 ?_)))))));exact Dq c6
 refine cz h5 Aa (λc8 h9=>?_) (λc8 gp=>?_)
 ·refine As (ob h9 λgq gr gs=>Dr QX (EE F gq gr) Aa (wa Aa (A3 (A8 (An ?_)))));obtain rfl:=A9 gs;exact A7 (Cd Ug (AX Aa)) (sS sN) ⟨Aa,Aa⟩
 ·refine AG (Bf (As (ob gp λh2 gt gu=>HP (Hr:=[.blk b1 (Ax bad) 39]) Tryz.call16 (R7 h2 gt) Aa (Vh _) Aa ?_)));rintro _ _ ⟨hf,hd,ha,v20,gv,rfl,rfl⟩;refine wa Aa (A3 (A1 (As (wm Aa (wv (Bk (ys:=l) (enc:=Ax) Lr Aa) (wv (r:=Ak 0) (Ap Aa) (A3 (Ba (ob gu λgw gx gy=>BN (S:=Nat×(Int×Int×(List (Am×Int))×(List (Am×Int))×(List Ai)×(List Aj))×(Value×Value)) (V:=(Int×(List (Am×Int))×(List (Am×Int))×(List Ai)×(List Aj))×(Value×Value)) 0 (λσ=>BI (λσ=>ED F l σ.1 σ.2.1 σ.2.2.1 σ.2.2.2.1 σ.2.2.2.2.1 σ.2.2.2.2.2) σ.1 σ.2.1=some gw) (λσ=>[(0,AH 6 (Au Ax l)),(3,rP b1 0),(5,rP hf 0),(26,Ak (l.length:Int)),(27,Ak σ.2.1.1)]) (λσ=>[.blk hf [Ak σ.2.1.2.1,rv (.map (some hd)),rv (.map (some ha))] 68,.map hd (AA (mP hd) σ.2.1.2.2.1),.map ha (AA (mP ha) σ.2.1.2.2.2.1),.poolw hd σ.2.2.1 87 88 1 (Au (Af ha) σ.2.1.2.2.2.2.1) none,.pool ha σ.2.2.2 44 (Au Ae σ.2.1.2.2.2.2.2),.blk b1 (Ax bad) 39]) (λσ=>σ.1) (F,(0,h2.1.fNow,h2.1.fEntities,h2.1.fCalls,h2.2.1,h2.2.2),(v20,gv)) gx (AZ.c5 Aa Aa Aa Aa Aa AZ.nil) (sC (sC (sC (sC (sC (sC sN)))))) (λσ=>EB F bad σ.1.1 σ.1.2.1 σ.1.2.2.1 σ.1.2.2.2.1 σ.1.2.2.2.2=some r) (λσ=>[(3,rP b1 0),(5,rP hf 0)]) (λσ=>[.blk hf [Ak σ.1.1,rv (.map (some hd)),rv (.map (some ha))] 68,.map hd (AA (mP hd) σ.1.2.1),.map ha (AA (mP ha) σ.1.2.2.1),.poolw hd σ.2.1 87 88 1 (Au (Af ha) σ.1.2.2.2.1) none,.pool ha σ.2.2 44 (Au Ae σ.1.2.2.2.2),.blk b1 (Ax bad) 39]) ?_ ?_)))))))))
  ·rintro⟨xr,⟨hb,hs,ht,hu,hw,hx⟩,⟨h4,h6⟩⟩ gz;refine C7 (l':=[(0,AH 6 (Au Ax l)),(3,rP b1 0),(5,rP hf 0),(26,Ak (l.length:Int)),(27,Ak hb)]) (H':=[.blk hf [Ak hs,rv (.map (some hd)),rv (.map (some ha))] 68,.map hd (AA (mP hd) ht),.map ha (AA (mP ha) hu),.poolw hd h4 87 88 1 (Au (Af ha) hw) none,.pool ha h6 44 (Au Ae hx),.blk b1 (Ax bad) 39]) Aa Aa ?_;obtain⟨g0,rfl,hN,hH,hX⟩:=DI gz;replace hH:ED F l hb hs ht hu hw hx=some hN:=hH;unfold ED at hH;refine As (wv (EN Aa Aa) (A3 (A1 (cz hH Aa (λg1 g3=>?_) (λg1 g5=>?_)))))
   ·refine AG (Bf (Dk (S:=(Int×(List (Am×Int))×(List (Am×Int))×(List Ai)×(List Aj))×(Value×Value)) (λσ=>EC hb σ.1.1 σ.1.2.1 σ.1.2.2.1 σ.1.2.2.2.1 σ.1.2.2.2.2=some hN) (λσ=>[(0,AH 6 (Au Ax l)),(3,rP b1 0),(5,rP hf 0),(26,Ak (l.length:Int)),(27,Ak hb)]) (λσ=>[.blk hf [Ak σ.1.1,rv (.map (some hd)),rv (.map (some ha))] 68,.map hd (AA (mP hd) σ.1.2.1),.map ha (AA (mP ha) σ.1.2.2.1),.poolw hd σ.2.1 87 88 1 (Au (Af ha) σ.1.2.2.2.1) none,.pool ha σ.2.2 44 (Au Ae σ.1.2.2.2.2),.blk b1 (Ax bad) 39]) ?_ ?_))
    ·refine Ba (As (wm Aa (wa Aa (BH (wm Aa (wm Aa (ck g3 λhC g6=>wv (Bh (enc:=Ax) (ys:=l) Lr Ng Aa Aa hC) (wv (AJ Kv Aa C9 Aa Aa) (wv (Bj DY Aa Aa) (wv (BW Aa Aa) (A3 (cz g6 Aa (λg7 g8=>?_) (λg7 g9=>?_)))))))))))))
     ·refine Pc (H1:=[.blk hf [Ak hs,rv (.map (some hd)),rv (.map (some ha))] 68,.map hd (AA (mP hd) ht),.map ha (AA (mP ha) hu),.poolw hd h4 87 88 1 (Au (Af ha) hw) none,.pool ha h6 44 (Au Ae hx),.blk b1 (Ax bad) 39]) 12 [0,3,5,6,26,27] [⟨[],rP hf 0,0⟩,⟨[],AH 6 (Au Ax l),0⟩,⟨[],Ak hb,0⟩,⟨[1,2],Du [Ak ((Ad l hb).fKind),rS (((Ad l hb).fOp).fEntity),rS (((Ad l hb).fOp).fID),rS (((Ad l hb).fOp).fOp),AH 1 (Au Ah (((Ad l hb).fOp).fArgs)),Ak ((Ad l hb).fNow)],0⟩,⟨[3],Du [rS (((Ad l hb).fOp).fEntity),rS (((Ad l hb).fOp).fID),rS (((Ad l hb).fOp).fOp),AH 1 (Au Ah (((Ad l hb).fOp).fArgs)),Ak ((Ad l hb).fNow)],0⟩,⟨[4],Du [rS (((Ad l hb).fOp).fEntity),rS (((Ad l hb).fOp).fID),rS (((Ad l hb).fOp).fOp),AH 1 (Au Ah (((Ad l hb).fOp).fArgs)),Ak ((Ad l hb).fNow)],0⟩,⟨[5],rS (((Ad l hb).fOp).fEntity),0⟩,⟨[],AH 6 (Au Ax l),0⟩,⟨[],Ak hb,0⟩,⟨[7,8],Du [Ak ((Ad l hb).fKind),rS (((Ad l hb).fOp).fEntity),rS (((Ad l hb).fOp).fID),rS (((Ad l hb).fOp).fOp),AH 1 (Au Ah (((Ad l hb).fOp).fArgs)),Ak ((Ad l hb).fNow)],0⟩,⟨[9],Du [Ak ((Ad l hb).fNow)],0⟩,⟨[10],Ak ((Ad l hb).fNow),0⟩] (rle [(13,_)]) [36,37,38,39,40,41,42,43,44,45,46,47,0,3,5,6,26,27] ?_ ?_
      ·refine oq (Ap Aa) (oq (Ap Aa) (oq (Ap Aa) (oq (Bh (enc:=Ax) (ys:=l) Lr Ng Aa Aa hC) (oq (AJ Kv Aa Cp Aa Aa) (oq (AJ BX Aa DX Aa Aa) (oq (Bj Er Aa Aa) (oq (Ap Aa) (oq (Ap Aa) (oq (Bh (enc:=Ax) (ys:=l) Lr Ng Aa Aa hC) (oq (AJ Kv Aa C9 Aa Aa) (oq (Bj DY Aa Aa) ?_)))))))))));exact CE
      refine ob g8 λh7 gA gB=>HP (Hr:=[.blk b1 (Ax bad) 39]) Tryz.call17 (Km F hf hd ha h4 h6 (Aq.mk hs ht hu) hw hx (((Ad l hb).fOp).fEntity) ((Ad l hb).fNow) h7 gA) Aa (Vh _) Aa ?_;rintro _ _ ⟨gC,gD,rfl,rfl⟩;exact A5 (Bi (AL (AW ((h7.2.2.1.fNow,h7.2.2.1.fEntities,h7.2.2.1.fCalls,h7.2.2.2.1,h7.2.2.2.2),(gC,gD)) gB (AZ.c5 Aa Aa Aa Aa Aa AZ.nil) (sC (sC (sC (sC (sC (sC sN)))))))))
     ·refine Pc (H1:=[.blk hf [Ak hs,rv (.map (some hd)),rv (.map (some ha))] 68,.map hd (AA (mP hd) ht),.map ha (AA (mP ha) hu),.poolw hd h4 87 88 1 (Au (Af ha) hw) none,.pool ha h6 44 (Au Ae hx),.blk b1 (Ax bad) 39]) 11 [0,3,5,6,26,27] [⟨[],rP hf 0,0⟩,⟨[],AH 6 (Au Ax l),0⟩,⟨[],Ak hb,0⟩,⟨[1,2],Du [Ak ((Ad l hb).fKind),rS (((Ad l hb).fOp).fEntity),rS (((Ad l hb).fOp).fID),rS (((Ad l hb).fOp).fOp),AH 1 (Au Ah (((Ad l hb).fOp).fArgs)),Ak ((Ad l hb).fNow)],0⟩,⟨[3],Du [rS (((Ad l hb).fOp).fEntity),rS (((Ad l hb).fOp).fID),rS (((Ad l hb).fOp).fOp),AH 1 (Au Ah (((Ad l hb).fOp).fArgs)),Ak ((Ad l hb).fNow)],0⟩,⟨[4],Bb (Ao ((Ad l hb).fOp)),0⟩,⟨[],AH 6 (Au Ax l),0⟩,⟨[],Ak hb,0⟩,⟨[6,7],Du [Ak ((Ad l hb).fKind),rS (((Ad l hb).fOp).fEntity),rS (((Ad l hb).fOp).fID),rS (((Ad l hb).fOp).fOp),AH 1 (Au Ah (((Ad l hb).fOp).fArgs)),Ak ((Ad l hb).fNow)],0⟩,⟨[8],Du [Ak ((Ad l hb).fNow)],0⟩,⟨[9],Ak ((Ad l hb).fNow),0⟩] (rle [(12,_)]) [49,50,51,52,53,54,55,56,57,58,59,0,3,5,6,26,27] ?_ ?_
      ·refine oq (Ap Aa) (oq (Ap Aa) (oq (Ap Aa) (oq (Bh (enc:=Ax) (ys:=l) Lr Ng Aa Aa hC) (oq (AJ Kv Aa Cp Aa Aa) (oq (Bx EK Cp Aa Aa Aa) (oq (Ap Aa) (oq (Ap Aa) (oq (Bh (enc:=Ax) (ys:=l) Lr Ng Aa Aa hC) (oq (AJ Kv Aa C9 Aa Aa) (oq (Bj DY Aa Aa) ?_))))))))));exact CE
      refine ob g9 λh8 gE gF=>HP (Hr:=[.blk b1 (Ax bad) 39]) QW (Gs F hf hd ha h4 h6 (Aq.mk hs ht hu) hw hx ((Ad l hb).fOp) ((Ad l hb).fNow) h8 gE) Aa (Vh _) Aa ?_;rintro _ _ ⟨gG,gH,rfl,rfl⟩;exact A5 (Bi (AL (AW ((h8.2.1.fNow,h8.2.1.fEntities,h8.2.1.fCalls,h8.2.2.1,h8.2.2.2),(gG,gH)) gF (AZ.c5 Aa Aa Aa Aa Aa AZ.nil) (sC (sC (sC (sC (sC (sC sN)))))))))
    ·rintro⟨⟨hO,hP,hQ,hR,hS⟩,⟨hY,hZ⟩⟩ hI;refine C7 (l':=[(0,AH 6 (Au Ax l)),(3,rP b1 0),(5,rP hf 0),(26,Ak (l.length:Int)),(27,Ak hb)]) (H':=[.blk hf [Ak hO,rv (.map (some hd)),rv (.map (some ha))] 68,.map hd (AA (mP hd) hP),.map ha (AA (mP ha) hQ),.poolw hd hY 87 88 1 (Au (Af ha) hR) none,.pool ha hZ 44 (Au Ae hS),.blk b1 (Ax bad) 39]) Aa Aa ?_;replace hI:EC hb hO hP hQ hR hS=some hN:=hI;unfold EC at hI;refine AD (ck hI λgI gJ=>wv (Cy Aa Aa gI) (wm Aa (A5 ?_)));have gK:=BO gJ hX;exact AL (AW (g0,(hb+1,hO,hP,hQ,hR,hS),(hY,hZ)) ⟨gK,Vy _⟩ (AZ.c5 Aa Aa Aa Aa Aa AZ.nil) (sC (sC (sC (sC (sC (sC sN)))))))
   ·refine BM (AI ?_);have gL:=CC g5 hX gy;exact AI (B1 (AW ((hs,ht,hu,hw,hx),(h4,h6)) gL (AZ.c Aa (AZ.c Aa AZ.nil)) (sC (sC (sC (sC (sC (sC sN))))))))
  ·rintro⟨⟨hn,ho,hp,hq,hr⟩,⟨hy,hz⟩⟩ hJ;refine DE (l':=[(3,rP b1 0),(5,rP hf 0)]) (H':=[.blk hf [Ak hn,rv (.map (some hd)),rv (.map (some ha))] 68,.map hd (AA (mP hd) ho),.map ha (AA (mP ha) hp),.poolw hd hy 87 88 1 (Au (Af ha) hq) none,.pool ha hz 44 (Au Ae hr),.blk b1 (Ax bad) 39]) Aa Aa ?_;replace hJ:EB F bad hn ho hp hq hr=some r:=hJ;unfold EB at hJ;refine Bw (Bf (As (vF Kv Aa Cp (vF BX Aa DX (vL 5 Er Aa (wa Aa (BH (wm Aa (wm Aa (ob hJ λhT gM gN=>HP (Hr:=[.blk b1 (Ax bad) 39]) Tryz.call19 (IR hf hd ha hy hz (Aq.mk hn ho hp) hq hr bad.fOp.fEntity hT gM) Aa (Vh _) Aa ?_))))))))));rintro _ _ ⟨rfl,rfl⟩;refine wm Aa (wm Aa (ob gN λhU gO gP=>HP (Hr:=[.blk b1 (Ax bad) 39]) Tryz.call20 (G8 F hf hd ha hy hz (Aq.mk hn ho hp) hq hr bad.fOp.fEntity hU gO) Aa (Vh _) Aa ?_));rintro _ _ ⟨rfl,rfl⟩;refine wm Aa (wm Aa (ob gP λhV gQ gR=>HP (Hr:=[.blk b1 (Ax bad) 39]) Tryz.call21 (IU F hf hd ha hy hz (Aq.mk hn ho hp) hq hr bad.fOp.fEntity hV gQ) Aa (Vh _) Aa ?_));rintro _ _ ⟨rfl,rfl⟩;refine wm Aa (ob gR λhW gS gT=>HP (Hr:=[.blk b1 (Ax bad) 39]) Tryz.call22 (IS hf hd ha hy hz (Aq.mk hn ho hp) hq hr hW gS) Aa (Vh _) Aa ?_);rintro _ _ ⟨rfl,rfl⟩;refine wa Aa (wa Aa (wa Aa (wa Aa (A3 (A1 (As (vF Kv Aa C9 (vL 5 DY Aa (wv (BW Aa Aa) (A3 (cz gT Aa (λgU gV=>?_) (λgU gW=>?_))))))))))))
   ·refine As (wm Aa (wm Aa (vF Kv Aa C9 (vL 5 DY Aa (ob gV λhe gX gY=>HP (Hr:=[.blk b1 (Ax bad) 39]) Tryz.call17 (Km F hf hd ha hy hz (Aq.mk hn ho hp) hq hr bad.fOp.fEntity bad.fNow he gX) Aa (Vh _) Aa ?_)))));rintro _ _ ⟨h0,h1,rfl,rfl⟩;refine wm Aa (wv (AU Aa Aa) (wv (AU Aa Aa) (Ca (cs:=[rS ([]:Am),rS ([]:Am),rS ([]:Am),rv (.slice none 0 0),Ak 0,rv (.slice none 0 0),Ak 0,Ak 0]) Or Aa Aa (λhD=>?_))));refine AR (i:=0) Cr Aa Aa Aa (Bm.c Aa) Aa Aa (cs':=[rS he.1.fOp.fEntity,rS he.1.fOp.fID,rS he.1.fOp.fOp,AH 1 (Au Ah he.1.fOp.fArgs),Ak he.1.fAnswer.fErr,AH 4 (Au Ac he.1.fAnswer.fValue),Ak he.1.fFrom,Ak he.1.fTo]) Aa (H':=[.blk hD (Ae he.1) 44,.blk hf [Ak he.2.2.1.fNow,rv (.map (some hd)),rv (.map (some ha))] 68,.map hd (AA (mP hd) he.2.2.1.fEntities),.map ha (AA (mP ha) he.2.2.1.fCalls),.poolw hd h0 87 88 1 (Au (Af ha) he.2.2.2.1) none,.pool ha h1 44 (Au Ae he.2.2.2.2),.blk b1 (Ax bad) 39]) Aa (wa Aa (BH (wm Aa (A3 (cz gY Aa (λgZ ca=>?_) (λgZ cb=>?_))))))
    ·refine As (ob ca λcc cd ce=>Dr QX (EE F cc cd) Aa (wa Aa (A3 (A8 (An ?_)))));obtain rfl:=A9 ce;exact A7 (Cd Ug (AX Aa)) (sS (sS (sS (sS (sS (sS (sS sN))))))) ⟨Aa,Aa⟩
    ·refine AG (Bf (Dk (S:=(Bool)×(Unit)) (λσ=>C6 σ.1=some r) (λσ=>[(4,rB σ.1)]) (λσ=>[.poolw hd h0 87 88 1 (Au (Af ha) he.2.2.2.1) none,.pool ha h1 44 (Au Ae he.2.2.2.2)]) ?_ ?_))
     ·refine AD (wm Aa (wm Aa (ob cb λga cf cg=>HP (Hr:=[.blk hD (Ae he.1) 44,.blk b1 (Ax bad) 39]) Tryz.call19 (IR hf hd ha h0 h1 he.2.2.1 he.2.2.2.1 he.2.2.2.2 bad.fOp.fEntity ga cf) Aa ((Al (i:=1) Aa).trans (Vd _ ((Al (i:=1) Aa).trans (Vd _ ((Al (i:=1) Aa).trans (Vd _ ((Al (i:=1) Aa).trans (Vd _ ((Al (i:=1) Aa).trans (Vd _ (Vh _))))))))))) Aa ?_)));rintro _ _ ⟨rfl,rfl⟩;refine wm Aa (ob cg λch ci cj=>Dr Tryz.call13 (Ki F ga hT ch ci) Aa (wm Aa (bz cj (λhh cl=>?_) (λhh cm=>?_))))
      ·refine wo hh (wm Aa (wo hh (wm Aa (wo hh (ob cl λgb cn co=>HP (Hr:=[.blk hD (Ae he.1) 44,.blk b1 (Ax bad) 39]) Tryz.call20 (G8 F hf hd ha h0 h1 he.2.2.1 he.2.2.2.1 he.2.2.2.2 bad.fOp.fEntity gb cn) Aa (Vh _) Aa ?_)))));rintro _ _ ⟨rfl,rfl⟩;refine wo hh (wm Aa (wo hh (ob co λcp cq cr=>Dr PR (Gu F gb hU cp cq) Aa (GW Aa hh Aa (wm Aa (bz cr (λhi ct=>?_) (λhi cu=>?_)))))))
       ·refine wo hi (wm Aa (wo hi (wm Aa (wo hi (ob ct λgc cv cw=>HP (Hr:=[.blk hD (Ae he.1) 44,.blk b1 (Ax bad) 39]) Tryz.call21 (IU F hf hd ha h0 h1 he.2.2.1 he.2.2.2.1 he.2.2.2.2 bad.fOp.fEntity gc cv) Aa (Vh _) Aa ?_)))));rintro _ _ ⟨rfl,rfl⟩;refine wo hi (wm Aa (wo hi (ob cw λcx cy c0=>Dr Tryz.call24 (NS F gc hV cx cy) Aa (GW Aa hi Aa (wm Aa (bz c0 (λhl c1=>?_) (λhl c2=>?_)))))))
        ·refine wo hl (wm Aa (wo hl (ob c1 λgd c3 c4=>HP (Hr:=[.blk hD (Ae he.1) 44,.blk b1 (Ax bad) 39]) Tryz.call22 (IS hf hd ha h0 h1 he.2.2.1 he.2.2.2.1 he.2.2.2.2 gd c3) Aa (Vh _) Aa ?_)));rintro _ _ ⟨rfl,rfl⟩;refine wo hl (wm Aa (wo hl (ob c4 λc7 c9 cA=>Dr PR (Gu F gd hW c7 c9) Aa (GW Aa hl Aa (wm Aa (bz cA (λhE cB=>?_) (λhE cC=>?_)))))))
         ·exact wo hE (ob cB λge cD cE=>Dr QX (EE F ge cD) Aa (GW Aa hE Aa (wa Aa (A5 (AL (AW (ge,()) cE (AZ.c Aa AZ.nil) (sS (sS (sS (sC (sC (sS (sS sN)))))))))))))
         ·exact wf hE (wv (r:=rB false) (AC Aa hE Aa) (wa Aa (A5 (AL (AW (false,()) cC (AZ.c Aa AZ.nil) (sS (sS (sS (sC (sC (sS (sS sN))))))))))))
        ·exact wf hl (wf hl (wf hl (wf hl (wv (r:=rB false) (AC Aa hl Aa) (wm Aa (wz Aa Aa (wv (r:=rB false) (AC (b:=false) Aa Aa Aa) (wa Aa (A5 (AL (AW (false,()) c2 (AZ.c Aa AZ.nil) (sS (sS (sS (sC (sC (sS (sS sN))))))))))))))))))
       ·exact wf hi (wf hi (wf hi (wf hi (wf hi (wv (r:=rB false) (AC Aa hi Aa) (wm Aa (wz Aa Aa (wz Aa Aa (wz Aa Aa (wz Aa Aa (wv (r:=rB false) (AC (b:=false) Aa Aa Aa) (wm Aa (wz Aa Aa (wv (r:=rB false) (AC (b:=false) Aa Aa Aa) (wa Aa (A5 (AL (AW (false,()) cu (AZ.c Aa AZ.nil) (sS (sS (sS (sC (sC (sS (sS sN)))))))))))))))))))))))))
      ·refine wf hh (wf hh (wf hh (wf hh (wf hh (wv (r:=rB false) (AC Aa hh Aa) (wm Aa (wz Aa Aa (wz Aa Aa (wz Aa Aa (wz Aa Aa (wz Aa Aa (wv (r:=rB false) (AC (b:=false) Aa Aa Aa) (wm Aa (wz Aa Aa (wz Aa Aa (wz Aa Aa (wz Aa Aa (wv (r:=rB false) (AC (b:=false) Aa Aa Aa) (wm Aa (wz Aa Aa (wv (r:=rB false) (AC (b:=false) Aa Aa Aa) (wa Aa (A5 ?_)))))))))))))))))))))));exact AL (AW (false,()) cm (AZ.c Aa AZ.nil) (sS (sS (sS (sC (sC (sS (sS sN))))))))
     ·rintro⟨gf,⟨⟩⟩ hK;refine C7 (l':=[(4,rB gf)]) (H':=[.poolw hd h0 87 88 1 (Au (Af ha) he.2.2.2.1) none,.pool ha h1 44 (Au Ae he.2.2.2.2)]) Aa Aa ?_;replace hK:C6 gf=some r:=hK;unfold C6 at hK;refine A8 ?_;obtain rfl:=A9 hK;exact A7 (Cd Ug (AX Aa)) (sS (sS sN)) ⟨Aa,Aa⟩
   ·refine As (wm Aa (vF Kv Aa Cp (wv (Bl (i:=5) EK Cp Aa Aa Aa Aa) (vF Kv Aa C9 (vL 5 DY Aa (ob gW λhg cF cG=>HP (Hr:=[.blk b1 (Ax bad) 39]) QW (Gs F hf hd ha hy hz (Aq.mk hn ho hp) hq hr bad.fOp bad.fNow hg cF) Aa (Vh _) Aa ?_))))));rintro _ _ ⟨hA,hB,rfl,rfl⟩;refine wv (BW Aa Aa) (A3 (cz cG Aa (λcH cI=>?_) (λcH cJ=>?_)))
    ·refine As (ob cI λcK cL cM=>Dr QX (EE F cK cL) Aa (wa Aa (A3 (A8 (An ?_)))));obtain rfl:=A9 cM;exact A7 (Cd Ug (AX Aa)) (sS (sS (sS (sS (sS (sS sN)))))) ⟨Aa,Aa⟩
    ·refine AG (Bf (Dk (S:=(Bool)×(Unit)) (λσ=>C5 σ.1=some r) (λσ=>[(4,rB σ.1)]) (λσ=>[.poolw hd hA 87 88 1 (Au (Af ha) hg.2.2.1) none,.pool ha hB 44 (Au Ae hg.2.2.2)]) ?_ ?_))
     ·refine AD (wm Aa (wm Aa (ob cJ λgg cN cO=>HP (Hr:=[.blk b1 (Ax bad) 39]) Tryz.call19 (IR hf hd ha hA hB hg.2.1 hg.2.2.1 hg.2.2.2 bad.fOp.fEntity gg cN) Aa (Vh _) Aa ?_)));rintro _ _ ⟨rfl,rfl⟩;refine wm Aa (ob cO λcP cQ cR=>Dr Tryz.call13 (Ki F gg hT cP cQ) Aa (wm Aa (bz cR (λhj cS=>?_) (λhj cT=>?_))))
      ·refine wo hj (wm Aa (wo hj (wm Aa (wo hj (ob cS λgh cU cV=>HP (Hr:=[.blk b1 (Ax bad) 39]) Tryz.call20 (G8 F hf hd ha hA hB hg.2.1 hg.2.2.1 hg.2.2.2 bad.fOp.fEntity gh cU) Aa (Vh _) Aa ?_)))));rintro _ _ ⟨rfl,rfl⟩;refine wo hj (wm Aa (wo hj (ob cV λcW cX cY=>Dr PR (Gu F gh hU cW cX) Aa (GW Aa hj Aa (wm Aa (bz cY (λhk cZ=>?_) (λhk xa=>?_)))))))
       ·refine wo hk (wm Aa (wo hk (wm Aa (wo hk (ob cZ λgi xb xc=>HP (Hr:=[.blk b1 (Ax bad) 39]) Tryz.call21 (IU F hf hd ha hA hB hg.2.1 hg.2.2.1 hg.2.2.2 bad.fOp.fEntity gi xb) Aa (Vh _) Aa ?_)))));rintro _ _ ⟨rfl,rfl⟩;refine wo hk (wm Aa (wo hk (ob xc λxd xe xf=>Dr Tryz.call24 (NS F gi hV xd xe) Aa (GW Aa hk Aa (wm Aa (bz xf (λhm xg=>?_) (λhm xh=>?_)))))))
        ·refine wo hm (wm Aa (wo hm (ob xg λgj xi xj=>HP (Hr:=[.blk b1 (Ax bad) 39]) Tryz.call22 (IS hf hd ha hA hB hg.2.1 hg.2.2.1 hg.2.2.2 gj xi) Aa (Vh _) Aa ?_)));rintro _ _ ⟨rfl,rfl⟩;refine wo hm (wm Aa (wo hm (ob xj λxk xl xm=>Dr PR (Gu F gj hW xk xl) Aa (GW Aa hm Aa (wm Aa (bz xm (λhG xn=>?_) (λhG xo=>?_)))))))
         ·exact wo hG (ob xn λgl xp xq=>Dr QX (EE F gl xp) Aa (GW Aa hG Aa (wa Aa (A5 (AL (AW (gl,()) xq (AZ.c Aa AZ.nil) (sS (sS (sS (sC (sC (sS sN))))))))))))
         ·exact wf hG (wv (r:=rB false) (AC Aa hG Aa) (wa Aa (A5 (AL (AW (false,()) xo (AZ.c Aa AZ.nil) (sS (sS (sS (sC (sC (sS sN)))))))))))
        ·exact wf hm (wf hm (wf hm (wf hm (wv (r:=rB false) (AC Aa hm Aa) (wm Aa (wz Aa Aa (wv (r:=rB false) (AC (b:=false) Aa Aa Aa) (wa Aa (A5 (AL (AW (false,()) xh (AZ.c Aa AZ.nil) (sS (sS (sS (sC (sC (sS sN)))))))))))))))))
       ·exact wf hk (wf hk (wf hk (wf hk (wf hk (wv (r:=rB false) (AC Aa hk Aa) (wm Aa (wz Aa Aa (wz Aa Aa (wz Aa Aa (wz Aa Aa (wv (r:=rB false) (AC (b:=false) Aa Aa Aa) (wm Aa (wz Aa Aa (wv (r:=rB false) (AC (b:=false) Aa Aa Aa) (wa Aa (A5 (AL (AW (false,()) xa (AZ.c Aa AZ.nil) (sS (sS (sS (sC (sC (sS sN))))))))))))))))))))))))
      ·refine wf hj (wf hj (wf hj (wf hj (wf hj (wv (r:=rB false) (AC Aa hj Aa) (wm Aa (wz Aa Aa (wz Aa Aa (wz Aa Aa (wz Aa Aa (wz Aa Aa (wv (r:=rB false) (AC (b:=false) Aa Aa Aa) (wm Aa (wz Aa Aa (wz Aa Aa (wz Aa Aa (wz Aa Aa (wv (r:=rB false) (AC (b:=false) Aa Aa Aa) (wm Aa (wz Aa Aa (wv (r:=rB false) (AC (b:=false) Aa Aa Aa) (wa Aa (A5 ?_)))))))))))))))))))))));exact AL (AW (false,()) cT (AZ.c Aa AZ.nil) (sS (sS (sS (sC (sC (sS sN)))))))
     ·rintro⟨gm,⟨⟩⟩ hL;refine C7 (l':=[(4,rB gm)]) (H':=[.poolw hd hA 87 88 1 (Au (Af ha) hg.2.2.1) none,.pool ha hB 44 (Au Ae hg.2.2.2)]) Aa Aa ?_;replace hL:C5 gm=some r:=hL;unfold C5 at hL;refine A8 ?_;obtain rfl:=A9 hL;exact A7 (Cd Ug (AX Aa)) (sS (sS sN)) ⟨Aa,Aa⟩
end Go.Proofs.YtfbmdidnlhifjaaGreatDoor.Q
namespace Go.Proofs.YtfbmdidnlhifjaaGreatDoor.lawEntityKeeps
open Go
set_option linter.unusedVariables false
def R2 (y:Ab):Bool:=(BE .i64) y.fKind&&(BE .i64) y.fInt&&Sz y.fStr&&(BE .i64) y.fN
def SQ (y:At):Bool:=Sz y.fEntity&&Sz y.fID&&Sz y.fOp&&(λys:(List (List Ab))=>ys.all (λys:(List Ab)=>ys.all R2&&decide (ys.length≤9223372036854775807))&&decide (ys.length≤9223372036854775807)) y.fArgs
def N9 (y:AP):Bool:=(BE .i64) y.fKind&&SQ y.fOp&&(BE .i64) y.fNow
def Va:Prop:=∀(y0:(List AP)) (y1:AP) (o0:(λys:(List AP)=>ys.all N9&&decide (ys.length≤9223372036854775807)) y0=true) (o1:N9 y1=true),∃F,IX F y0 y1=some true
end Go.Proofs.YtfbmdidnlhifjaaGreatDoor.lawEntityKeeps
namespace Go.Proofs.YtfbmdidnlhifjaaGreatDoor
open Go
set_option linter.unusedVariables false
set_option linter.unusedSimpArgs false
def Sw (c:UInt8):Bool:=decide (32≤c.toNat)&&decide (c.toNat≤126)
theorem MQ {s:Am}{x:Int}{c:UInt8}(h:s[x.toNat]? =some c):Ln s x=(c.toNat:Int):=by simp[Ln,h]
theorem Lu {α:Type}{p:α→Bool}{s:List α}{k:Nat}{c:α}(h:s[k]? =some c):(s.take (k+1)).all p=((s.take k).all p&&p c):=by
 rw[List.take_add_one,h];simp
theorem MS {α:Type}{p:α→Bool}{s:List α}{k:Nat}{c:α}(h:s[k]? =some c)(hp:p c=false):s.all p=false:=by
 rw[List.all_eq_false];exact⟨c,Vm h,by simp[hp]⟩
theorem Nk {F:Nat}{s:Am}(hF:s.length<F)(hs:s.length≤9223372036854775807):I2 F s=some (s.all Sw):=by
 obtain⟨o,h1,h2⟩:=DW (body:=λσ=>Gl s σ) (λx=>0≤x∧x≤(s.length:Int)∧(s.take x.toNat).all Sw=true) (λx=>s.length-x.toNat)
  (λo=>BD (λ_=>Gk) o=some (s.all Sw)) (λx ⟨h0,hl,ha⟩=>by
   unfold Gl
   by_cases hx:x<(s.length:Int)
   ·obtain⟨c,hc⟩:∃c,s[x.toNat]? =some c:=⟨s[x.toNat]'(by omega),Vi (by omega)⟩
    rw[Az (by simpa using hx),AK h0 hx,MQ hc]
    cases ho:Sw c with
    | false=>
     refine .inr ⟨.ret false,?_,?_⟩
     ·rw[Az];simp only[Sw,Bool.and_eq_false_iff,Vg] at ho;simp only[VI,Vf];omega
     ·simp[BD,MS hc ho]
    | true=>
     refine .inl ⟨x+1,?_,⟨by omega,by omega,?_⟩,by omega⟩
     ·rw[Ar,AB (by omega) (by omega)];simp only[Sw,Vj,Vf] at ho;simp only[VA,Vg];omega
     ·rw[show(x+1).toNat=x.toNat+1 from by omega,Lu hc,ha,ho];rfl
   ·refine .inr ⟨.go (),by rw[Ar (by simpa using hx)],?_⟩;rw[show x.toNat=s.length from by omega,VY] at ha;simp[BD,Gk,ha]) F 0 ⟨by omega,by omega,by simp⟩ (by simpa using hF)
 unfold I2;rw[AF h1,h2]
theorem My (F:Nat)(s:Am):Mz F s=I2 F s:=rfl
theorem Qd {F:Nat}{s:Am}(hF:s.length<F)(hs:s.length≤9223372036854775807):Mz F s=some (s.all Sw):=by rw[My];exact Nk hF hs
def pl (c:Ab):Bool:=
 bif decide (c.fKind=1) then(decide (c.fInt=0)&&(decide (c.fStr=[])&&decide (c.fN=0))) else
 bif decide (c.fKind=2) then((decide (c.fInt=0)||decide (c.fInt=1))&&(decide (c.fStr=[])&&decide (c.fN=0))) else
 bif decide (c.fKind=3) then(decide (c.fStr=[])&&decide (c.fN=0)) else
 bif decide (c.fKind=4) then(decide (c.fInt=0)&&(decide (c.fN=0)&&c.fStr.all Sw)) else
 bif decide (c.fKind=5) then(decide (c.fInt=0)&&(decide (c.fStr=[])&&decide (0≤c.fN))) else
 bif decide (c.fKind=6) then(decide (c.fInt=0)&&(decide (c.fStr=[])&&decide (0≤c.fN))) else false
theorem De {α:Type}{p:Bool}{x y:Option α}{a b:α}(h:x=some a)(h':y=some b):Bg p x y=some (bif p then a else b):=by cases p<;>simp[Bg,h,h']
theorem PT {F:Nat}{c:Ab}(hF:c.fStr.length<F)(hs:c.fStr.length≤9223372036854775807):K1 F c=some (pl c):=by
 unfold K1 pl;rw[Nk hF hs];refine De rfl (De ?_ (De rfl (De ?_ (De rfl (De rfl rfl)))))
 ·cases h:decide (c.fInt=0)<;>simp
 ·simp[imp,Bd,ov]
def JS:List Aw→List Aw
 | []=>[]
 | e::S=>bif decide (1<e.fLeft) then⟨e.fPairs,e.fLeft-1,e.fPairs,e.fLast,e.fStarted⟩::S else JS S
theorem Kr {α:Type}[Inhabited α](xs:List α)(e:α):Ad (xs++[e]) (xs.length:Int)=e:=by simp[Ad]
theorem I9 {α:Type}(xs:List α)(e e':α):List.set (xs++[e]) (Int.toNat (xs.length:Int)) e'=xs++[e']:=by simp
theorem IV {α:Type}(xs:List α)(e:α):((xs++[e]).length:Int)-1=(xs.length:Int):=by simp
theorem PW {α:Type}(xs:List α)(e:α):List.take (Int.toNat (xs.length:Int)) (xs++[e])=xs:=by simp
theorem JF:∀(S:List Aw) (F:Nat),S.length<F→(∀e∈S,1≤e.fLeft∧e.fLeft≤9223372036854775807)→S.length≤4611686018427387904→
  ∃o,BI (λσ=>CI σ) F S.reverse=some o∧BD (λν=>Dm ν) o=some (JS S).reverse
 | [],F+1,_,_,_=>⟨.go [],by simp[BI,CI,Bg],by simp[BD,Dm,JS]⟩
 | e::S,F+1,hF,hb,hl=>by
  obtain⟨h1,h2⟩:=hb e (by simp);simp only[Vk] at hF hl;have hx:S.reverse.length=S.length:=by simp
  generalize hxs:S.reverse=xs at hx;have hr:(e::S).reverse=xs++[e]:=by simp[hxs]
  rw[hr];have hb1:CI (xs++[e])=bif decide (1<e.fLeft) then some (.out (.ret (xs++[⟨e.fPairs,e.fLeft-1,e.fPairs,e.fLast,e.fStarted⟩]))) else some (.next xs):=by
   unfold CI;rw[Az (by simp)];simp only[IV,Kr,I9,Oj];rw[AB (by omega) (by omega),AK (by omega) (by simp;omega),AB (by omega) (by omega)]
   cases hd:decide (1<e.fLeft) with
   | true=>
    rw[Az (by simp at hd ⊢;omega)];rfl
   | false=>
    rw[Ar (by simp at hd ⊢;omega),AB (by omega) (by omega),GH (by omega) (by simp;omega),PW];rfl
  rw[BI,hb1]
  cases hd:decide (1<e.fLeft) with
  | true=>exact⟨_,rfl,by simp[BD,Dm,JS,hd,hxs]⟩
  | false=>
   obtain⟨o,ho1,ho2⟩:=JF S F (by omega) (λe he=>hb e (by simp[he])) (by omega);rw[hxs] at ho1;exact⟨o,ho1,by rw[ho2];simp[JS,hd]⟩
theorem K2 {S:List Aw}{F:Nat}(hF:S.length<F)(hb:∀e∈S,1≤e.fLeft∧e.fLeft≤9223372036854775807)(hl:S.length≤4611686018427387904):I5 F S.reverse=some (JS S).reverse:=by
 obtain⟨o,h1,h2⟩:=JF S F hF hb hl;unfold I5;rw[AF h1,h2]
def Jq (s:Am):Int:=s.length+2+s.count 34+s.count 92
theorem K0 {s:Am}(hs:s.length≤1152921504606846976):H4 s=some (Jq s):=by
 have h1:s.count 34≤s.length:=List.count_le_length;have h2:s.count 92≤s.length:=List.count_le_length;unfold H4 Lib.countByte;rw[AB (by omega) (by omega),AB (by omega) (by omega),AB (by omega) (by omega)];rfl
def TG (c:Ab):Int:=
 bif decide (c.fKind=1) then 4 else bif decide (c.fKind=2) then IntKind.wrap .i64 (5-c.fInt) else bif decide (c.fKind=3) then((Lib.itoa c.fInt).length:Int) else
 bif decide (c.fKind=4) then Jq c.fStr else IntKind.wrap .i64 (2+max 0 (IntKind.wrap .i64 (c.fN-1)))
theorem Nl {c:Ab}(hs:c.fStr.length≤1152921504606846976)(hi:BE .i64 c.fInt=true):Nm c=some (TG c):=by
 unfold Nm TG;rw[K0 hs];refine De rfl (De rfl (De ?_ (De rfl rfl)));rw[B0 hi]
def GU (d:Nat)(sh:A4)(c:Ab):A4:=
 ⟨max sh.fDepth ((d:Int)+1),IntKind.wrap .i64 (sh.fBytes+TG c),sh.fOutside||(decide (c.fKind=3)&&!(decide ((-1000000000000)≤c.fInt)&&decide (c.fInt≤1000000000000))),sh.fLong||decide (200<(c.fStr.length:Int))⟩
def Uk (sh:A4)(c:Ab):A4:=⟨sh.fDepth,IntKind.wrap .i64 (sh.fBytes+(Jq c.fStr+1)),sh.fOutside,sh.fLong||decide (200<(c.fStr.length:Int))⟩
def J4:List Aw→Bool
 | []=>false
 | e::_=>e.fKey
abbrev MY:=List Aw×Int×A4
abbrev T9:=Out (Int×A4×Bool) A4
def Oo (n:Int)(S:List Aw)(i:Int)(sh:A4)(c:Ab):Stp MY T9:=
 bif !pl c then .out (.ret (0,sh,false)) else
 match S with
 | e::S'=>
  bif e.fKey then
   bif !decide (c.fKind=4)||(e.fStarted&&(BJ c.fStr e.fLast||decide (c.fStr=e.fLast))) then .out (.ret (0,sh,false))
   else .next ((⟨e.fPairs,e.fLeft,false,c.fStr,true⟩::S').reverse,i+1,Uk sh c)
  else bif decide (0<c.fN) then
   bif decide (n<c.fN) then .out (.ret (0,GU S.length sh c,false))
   else .next ((⟨decide (c.fKind=6),c.fN,decide (c.fKind=6),[],false⟩::S).reverse,i+1,GU S.length sh c)
  else bif decide (JS S=[]) then .out (.ret (i+1,GU S.length sh c,true)) else .next ((JS S).reverse,i+1,GU S.length sh c)
 | []=>
  bif decide (0<c.fN) then
   bif decide (n<c.fN) then .out (.ret (0,GU 0 sh c,false))
   else .next ([⟨decide (c.fKind=6),c.fN,decide (c.fKind=6),[],false⟩],i+1,GU 0 sh c)
  else .out (.ret (i+1,GU 0 sh c,true))
theorem Le {S:List Aw}:decide (((JS S).reverse.length:Int)=0)=decide (JS S=[]):=by
 rw[Vt];simp
theorem Uy {α:Type}{xs:List α}{e x:α}{M:Nat}(h:xs.length+1≤M)(hM2:(M+2)*48≤140737488355328):L4 48 ((xs++[e]).length+([x]:List α).length)=true:=by
 refine Ve (Nat.le_trans (Nat.mul_le_mul_right 48 ?_) hM2);rw[Vo,VD,VD];omega
set_option maxHeartbeats 600000 in
theorem Nn {F:Nat}{v:List Ab}{S:List Aw}{i:Int}{sh:A4}{c:Ab}(h0:0≤i)(hc:v[i.toNat]? =some c){M:Nat}(hM:M≤1152921504606846976)(hM2:(M+2)*48≤140737488355328)(hv:v.length≤M)(hS:S.length≤M)(hF:M<F)
  (hs:c.fStr.length≤M) (hi:BE .i64 c.fInt=true) (hb:∀e∈S,1≤e.fLeft∧e.fLeft≤9223372036854775807):CH F v S.reverse i sh=some (Oo v.length S i sh c):=by
 have hil:i.toNat<v.length:=(List.getElem?_eq_some_iff.1 hc).1;have hat:Ad v i=c:=by simp[Ad,hc]
 unfold CH Oo;rw[Az (by simp;omega),AK h0 (by omega),hat,PT (by omega) (by omega),AF rfl]
 cases hp:pl c with
 | false=>rw[Az (by simp)];rfl
 | true=>
  rw[Ar (by simp)]
  cases S with
  | nil=>
   rw[B0 (by simp[imp]),B0 (by simp[imp]),Ar (by simp),AB (by simp) (by simp),Nl (by omega) hi,AF rfl,B0 (by simp[imp,Bn])];simp only[Bn,ov,V1,Vw,Vl]
   cases hn:decide (0<c.fN) with
   | true=>
    rw[Az rfl]
    cases hm:decide ((v.length:Int)<c.fN) with
    | true=>rw[Az rfl];simp[GU]
    | false=>rw[Ar rfl,B0 (by simp[L4])];unfold Db;rw[AB (by omega) (by omega)];simp[GU]
   | false=>
    rw[Ar rfl,AF (K2 (S:=[]) (by simp;omega) (by simp) (by simp)),Az (by simp[JS]),AB (by omega) (by omega)];simp[GU]
  | cons e S'=>
   have hx:S'.reverse.length=S'.length:=by simp
   generalize hxs:S'.reverse=xs at hx;have hr:(e::S').reverse=xs++[e]:=by simp[hxs]
   simp only[Vk] at hS;have hlen:((xs++[e]).length:Int)=(xs.length:Int)+1:=by simp
   rw[hr,B0 (by simp only[imp,IV];rw[IY (by omega) (by omega)];simp),B0 (by simp only[imp,IV];rw[MH (by omega) (by omega)];simp)];rw[IV,Kr]
   cases hk:e.fKey with
   | true=>
    rw[Az (by simp),AB (by omega) (by omega),AK (by omega) (by omega)];simp only[hk,Vw,Vl,Vq]
    cases ht : !decide (c.fKind=4)||(e.fStarted&&(BJ c.fStr e.fLast||decide (c.fStr=e.fLast))) with
    | true=>rw[Az rfl];rfl
    | false=>
     rw[Ar rfl,I9,Oj,Kr,I9,Oj,Kr,I9,Oj,K0 (by omega),AF rfl,AB (by unfold Jq;omega) (by unfold Jq;have:=@List.count_le_length UInt8 _ 34 c.fStr;have:=@List.count_le_length UInt8 _ 92 c.fStr;omega)];unfold Db;rw[AB (by omega) (by omega)];simp[Uk,hxs]
   | false=>
    rw[Ar (by simp),hlen,AB (by omega) (by omega),Nl (by omega) hi,AF rfl,B0 (by simp[imp,Bn])];simp only[hk,Bn,ov,V1,Vw,Vl,Vq]
    cases hn:decide (0<c.fN) with
    | true=>
     rw[Az rfl]
     cases hm:decide ((v.length:Int)<c.fN) with
     | true=>rw[Az rfl];simp[GU,hx]
     | false=>rw[Ar rfl,B0 (Uy (by omega) hM2)];unfold Db;rw[AB (by omega) (by omega)];simp[GU,hx,hxs]
    | false=>
     have hcl:=K2 (S:=e::S') (F:=F) (by simp;omega) hb (by simp;omega);rw[hr] at hcl;rw[Ar rfl,hcl,AF rfl,Le]
     cases hq:decide (JS (e::S')=[]) with
     | true=>rw[Az rfl,AB (by omega) (by omega)];simp[GU,hx]
     | false=>rw[Ar rfl];unfold Db;rw[AB (by omega) (by omega)];simp[GU,hx]
section
variable {S O : Type} {body : S → Option (Stp S O)} {s t u : S} {o : O}
def Df (body:S→Option (Stp S O))(s t:S):Prop:=∃k,∀n,BI body (n+k) s=BI body n t
def Fin (body:S→Option (Stp S O))(s:S)(o:O):Prop:=∃k,∀n,BI body (n+k) s=some o
theorem Df.refl (s:S):Df body s s:=⟨0,λ_=>rfl⟩
theorem Df.trans (h:Df body s t)(h':Df body t u):Df body s u:=by
 obtain⟨k,hk⟩:=h;obtain⟨j,hj⟩:=h';exact⟨j+k,λn=>by rw[← Nat.add_assoc,hk,hj]⟩
theorem Df.step (h:body s=some (.next t)):Df body s t:=⟨1,λn=>by rw[BI,h]⟩
theorem Fin.step (h:body s=some (.out o)):Fin body s o:=⟨1,λn=>by rw[BI,h]⟩
theorem Df.fin (h:Df body s t)(h':Fin body t o):Fin body s o:=by
 obtain⟨k,hk⟩:=h;obtain⟨j,hj⟩:=h';exact⟨j+k,λn=>by rw[← Nat.add_assoc,hk,hj]⟩
end
inductive Fo where
 | nil
 | cell (k:Option Am) (c:Ab) (r:Fo)
 | node (k:Option Am) (c:Ab) (kids r:Fo)
def Bv:Option Am→List Ab
 | none=>[]
 | some s=>[⟨4,0,s,0⟩]
def Fo.flat:Fo→List Ab
 | .nil=>[]
 | .cell k c r=>Bv k++c::r.flat
 | .node k c kids r=>Bv k++c::(kids.flat++r.flat)
def Fo.cnt:Fo→Nat
 | .nil=>0
 | .cell _ _ r=>r.cnt+1
 | .node _ _ _ r=>r.cnt+1
def BZ (m:Bool)(last:Option Am):Option Am→Bool
 | none=>!m
 | some s=>m&&s.all Sw&&(match last with
  | none=>true
  | some p=>!(BJ s p||decide (s=p)))
def Fo.wf:Bool→Option Am→Fo→Bool
 | _,_,.nil=>true
 | m,last,.cell k c r=>BZ m last k&&pl c&&!decide (0<c.fN)&&r.wf m k
 | m,last,.node k c kids r=>BZ m last k&&pl c&&decide (0<c.fN)&&decide (c.fN=kids.cnt)&&kids.wf (decide (c.fKind=6)) none&&r.wf m k
def JH (k:Option Am)(sh:A4):A4:=match k with
 | none=>sh
 | some s=>Uk sh ⟨4,0,s,0⟩
def Fo.sh (d:Nat):A4→Fo→A4
 | s,.nil=>s
 | s,.cell k c r=>r.sh d (GU d (JH k s) c)
 | s,.node k c kids r=>r.sh d (kids.sh (d+1) (GU d (JH k s) c))
def Gg (body:MY→Option (Stp MY T9))(s:MY)(S:List Aw)(i:Int)(sh:A4):Prop:=
 if JS S=[] then Fin body s (.ret (i,sh,true)) else Df body s ((JS S).reverse,i,sh)
theorem Gg.of {body:MY→Option (Stp MY T9)}{s t:MY}{S:List Aw}{i:Int}{sh:A4}(h:Df body s t)(h':Gg body t S i sh):Gg body s S i sh:=by
 unfold Gg at *
 split
 ·rename_i e;rw[Vu e] at h';exact h.fin h'
 ·rename_i e;rw[Vp e] at h';exact h.trans h'
theorem Gg.pop {body:MY→Option (Stp MY T9)}{s:MY}{e:Aw}{S:List Aw}{i:Int}{sh:A4}(h:Gg body s (e::S) i sh)(h1:e.fLeft=1):Gg body s S i sh:=by
 have:JS (e::S)=JS S:=by simp[JS,h1]
 unfold Gg at *;rw[this] at h;exact h
theorem Gg.more {body:MY→Option (Stp MY T9)}{s:MY}{e:Aw}{S:List Aw}{i:Int}{sh:A4}(h:Gg body s (e::S) i sh)(h1:1<e.fLeft):Df body s ((⟨e.fPairs,e.fLeft-1,e.fPairs,e.fLast,e.fStarted⟩::S).reverse,i,sh):=by
 have:JS (e::S)=⟨e.fPairs,e.fLeft-1,e.fPairs,e.fLast,e.fStarted⟩::S:=by simp[JS,h1]
 unfold Gg at *;rw[this,Vp (by simp)] at h;exact h
structure PN (F M:Nat) (v:List Ab):Prop where
 hM:M≤1152921504606846976
 hM2:(M+2)*48≤140737488355328
 hv:v.length≤M
 hF:M<F
 hc:∀c∈v,c.fStr.length≤M∧BE .i64 c.fInt=true∧c.fN≤9223372036854775807
abbrev NP (F:Nat)(v:List Ab):MY→Option (Stp MY T9):=λσ=>CH F v σ.1 σ.2.1 σ.2.2
def CP (S:List Aw):Prop:=∀e∈S,1≤e.fLeft∧e.fLeft≤9223372036854775807
section
variable {F M : Nat} {v : List Ab} {S : List Aw} {i : Int} {sh : A4} {c : Ab} {r : List Ab} {e : Aw}
theorem BC (h0:0≤i)(h:v.drop i.toNat=c::r):v[i.toNat]? =some c∧v.drop (i+1).toNat=r∧i<v.length:=by
 have h1:(v.drop i.toNat)[0]? =some c:=by rw[h];rfl
 have h2:v[i.toNat]? =some c:=by simpa using h1
 have h3:=(List.getElem?_eq_some_iff.1 h2).1;refine⟨h2,?_,by omega⟩;rw[show(i+1).toNat=i.toNat+1 from by omega,← List.drop_drop,h];rfl
theorem round (hA:PN F M v)(h0:0≤i)(h:v.drop i.toNat=c::r)(hS:(S.length:Int)≤i)(hb:CP S):NP F v (S.reverse,i,sh)=some (Oo v.length S i sh c):=by
 obtain⟨h1,_,h3⟩:=BC h0 h;obtain⟨a,b,_⟩:=hA.hc c (Vm h1);have:=hA.hv;exact Nn h0 h1 hA.hM hA.hM2 hA.hv (by omega) hA.hF a b hb
def El (e:Aw):Option Am→Aw
 | none=>e
 | some s=>⟨e.fPairs,e.fLeft,false,s,true⟩
def Hm (e:Aw):Option Am→Prop
 | none=>e.fStarted=false
 | some p=>e.fStarted=true∧e.fLast=p
theorem KV (hA:PN F M v)(h0:0≤i){k last:Option Am}(h:v.drop i.toNat=Bv k++r)(hS:(S.length:Int)+1≤i)(hb:CP (e::S))(hk:BZ e.fKey last k=true)(hl:Hm e last) :
  Df (NP F v) ((e::S).reverse,i,sh) ((El e k::S).reverse,i+(Bv k).length,JH k sh):=by
 cases k with
 | none=>simpa[El,Bv,JH] using Df.refl _
 | some s=>
  simp only[BZ,Vj] at hk;obtain⟨⟨hm,hok⟩,hcmp⟩:=hk;refine Df.step ?_;rw[round hA h0 (by simpa[Bv] using h) (by simpa using hS) hb];have hp:pl ⟨4,0,s,0⟩=true:=by simp[pl,hok]
  have ht:(e.fStarted&&(BJ s e.fLast||decide (s=e.fLast)))=false:=by
   cases last with
   | none=>simp only[Hm] at hl;rw[hl];rfl
   | some p=>obtain⟨h1,h2⟩:=hl;rw[h1,h2];simpa using hcmp
  simp only[Oo,hp,hm,ht,Vw,Vl,Vq,decide_true,VX,Bool.or_self];rfl
theorem J3 {k last:Option Am}(hk:BZ e.fKey last k=true):(El e k).fKey=false:=by
 cases k with
 | none=>simpa[El,BZ] using hk
 | some s=>rfl
theorem Ip (k:Option Am):(El e k).fLeft=e.fLeft∧(El e k).fPairs=e.fPairs:=by cases k<;>exact⟨rfl,rfl⟩
theorem J2 (hA:PN F M v)(h0:0≤i)(h:v.drop i.toNat=c::r)(hS:(S.length:Int)≤i)(hb:CP S)(hk:J4 S=false)(hp:pl c=true)(hn:decide (0<c.fN)=false) :
  Gg (NP F v) (S.reverse,i,sh) S (i+1) (GU S.length sh c):=by
 have hr:=round (sh:=sh) hA h0 h hS hb;unfold Gg
 cases S with
 | nil=>
  rw[Vu (by simp[JS])];refine Fin.step ?_;rw[hr];simp[Oo,hp,hn]
 | cons e S=>
  simp only[J4] at hk
  split
  ·rename_i hc
   refine Fin.step ?_;rw[hr];simp[Oo,hp,hn,hk,hc]
  ·rename_i hc
   refine Df.step ?_;rw[hr];simp[Oo,hp,hn,hk,hc]
theorem HC (hA:PN F M v)(h0:0≤i)(h:v.drop i.toNat=c::r)(hS:(S.length:Int)≤i)(hb:CP S)(hk:J4 S=false)(hp:pl c=true)(hn:decide (0<c.fN)=true)(hv:c.fN≤v.length) :
  Df (NP F v) (S.reverse,i,sh) ((⟨decide (c.fKind=6),c.fN,decide (c.fKind=6),[],false⟩::S).reverse,i+1,GU S.length sh c):=by
 have hr:=round (sh:=sh) hA h0 h hS hb;have hv':decide ((v.length:Int)<c.fN)=false:=by simpa using hv
 refine Df.step ?_;rw[hr]
 cases S with
 | nil=>simp only[Oo,hp,hn,hv',Vw,Vl,Vq];rfl
 | cons e S=>
  simp only[J4] at hk;simp only[Oo,hp,hn,hv',hk,Vw,Vl,Vq]
theorem BT:∀f:Fo,f.cnt≤f.flat.length
 | .nil=>Vs _
 | .cell k c r=>by have:=BT r;simp[Fo.cnt,Fo.flat];omega
 | .node k c kids r=>by have:=BT r;simp[Fo.cnt,Fo.flat];omega
theorem Cv {α:Type}{v xs r:List α}{i:Int}(h0:0≤i)(h:v.drop i.toNat=xs++r):v.drop (i+xs.length).toNat=r:=by
 rw[show(i+(xs.length:Int)).toNat=i.toNat+xs.length from by omega,← List.drop_drop,h,List.drop_left]
theorem Nu (hA:PN F M v){e':Aw}{s:MY}{k:Option Am}{r':Fo}
  (ih:∀(e:Aw) (S:List Aw) (i:Int) (sh:A4) (last:Option Am) (r:List Ab),1≤r'.cnt→r'.wf e.fPairs last=true→e.fKey=e.fPairs→e.fLeft=r'.cnt→Hm e last→(e.fPairs=false→last=none)→v.drop i.toNat=r'.flat++r→0≤i→(S.length:Int)+1≤i→CP S→
   Gg (NP F v) ((e::S).reverse,i,sh) S (i+r'.flat.length) (r'.sh (S.length+1) sh))
  (hd:Gg (NP F v) s (e'::S) i sh) (hl:e'.fLeft=r'.cnt+1) (hw:r'.wf e'.fPairs k=true) (hk:Hm e' k) (hm:e'.fPairs=false→k=none) (hv:v.drop i.toNat=r'.flat++r) (h0:0≤i) (hS:(S.length:Int)+1≤i) (hb:CP S) :
  Gg (NP F v) s S (i+r'.flat.length) (r'.sh (S.length+1) sh):=by
 by_cases h1:r'.cnt=0
 ·cases r' with
  | nil=>simpa[Fo.flat,Fo.sh] using hd.pop (by rw[hl];rfl)
  | cell _ _ _=>simp[Fo.cnt] at h1
  | node _ _ _ _=>simp[Fo.cnt] at h1
 ·have:=hd.more (by omega);refine Gg.of this (ih _ S i sh k r (by omega) hw rfl (by simp only;omega) ?_ hm hv h0 hS hb)
  cases k with
  | none=>exact hk
  | some p=>exact hk
theorem Iq {k last:Option Am}(hl:Hm e last)(hm:e.fPairs=false→last=none)(hk:BZ e.fPairs last k=true):Hm (El e k) k∧((El e k).fPairs=false→k=none):=by
 cases k with
 | none=>
  have:e.fPairs=false:=by simpa[BZ] using hk
  rw[hm this] at hl;exact⟨hl,λ_=>rfl⟩
 | some s=>
  refine⟨⟨rfl,rfl⟩,λh=>?_⟩;have h:e.fPairs=false:=h;simp[BZ,h] at hk
theorem JR (hA:PN F M v):∀(f:Fo) (e:Aw) (S:List Aw) (i:Int) (sh:A4) (last:Option Am) (r:List Ab),1≤f.cnt→f.wf e.fPairs last=true→e.fKey=e.fPairs→e.fLeft=f.cnt→Hm e last→(e.fPairs=false→last=none)→v.drop i.toNat=f.flat++r→0≤i→(S.length:Int)+1≤i→CP S→
   Gg (NP F v) ((e::S).reverse,i,sh) S (i+f.flat.length) (f.sh (S.length+1) sh):=by
 have hmax:∀(i:Int) (xs:List Ab),0≤i→v.drop i.toNat=xs→xs.length≤v.length:=λi xs _ h=>by rw[← h,List.length_drop];omega
 intro f
 induction f with
 | nil=>intro e S i sh last r h1;simp[Fo.cnt] at h1
 | cell k c r' ih=>
  intro e S i sh last r h1 hw hk hl hlo hm hv h0 hS hb;simp only[Fo.wf,Vj,V0] at hw;obtain⟨⟨⟨w1,w2⟩,w3⟩,w4⟩:=hw;simp only[Fo.flat,Vz,VO] at hv;have hcnt:=hmax i _ h0 hv;have hcf:=BT r';simp only[Vo,Vk] at hcnt;have hvM:=hA.hv;have hMM:=hA.hM;simp only[Fo.cnt] at hl;have hb':CP (e::S):=λx hx=>by
   rcases List.mem_cons.1 hx with rfl | hx
   ·constructor<;>omega
   ·exact hb x hx
  have hkr:=KV (sh:=sh) hA h0 hv hS hb' (by rw[hk];exact w1) hlo;have hv1:=Cv h0 hv;obtain⟨kl,kp⟩:=Ip (e:=e) k;have hbk:CP (El e k::S):=λx hx=>by
   rcases List.mem_cons.1 hx with rfl | hx
   ·rw[kl];exact hb' e (by simp)
   ·exact hb x hx
  have hd:=J2 (sh:=JH k sh) hA (by omega) hv1 (by simp only[Vk];omega) hbk (J3 (by rw[hk];exact w1)) w2 w3;obtain⟨q1,q2⟩:=Iq hlo hm w1;have hv2:=(BC (by omega) hv1).2.1;have:=Nu hA ih (hd.of hkr) (by rw[kl,hl];rfl) (by rw[kp];exact w4) q1 q2 hv2 (by omega) (by omega) hb;simp only[Fo.flat,Fo.sh,Vo,Vk];rw[show i+((((Bv k).length+(r'.flat.length+1):Nat)):Int)=i+(Bv k).length+1+r'.flat.length from by omega];exact this
 | node k c kids r' ihk ih=>
  intro e S i sh last r h1 hw hk hl hlo hm hv h0 hS hb;simp only[Fo.wf,Vj,Vf] at hw;obtain⟨⟨⟨⟨⟨w1,w2⟩,w3⟩,w5⟩,w6⟩,w4⟩:=hw;simp only[Fo.flat,Vz,VO] at hv;have hcnt:=hmax i _ h0 hv;have hcf:=BT r';have hck:=BT kids;simp only[Vo,Vk] at hcnt;have hvM:=hA.hv;have hMM:=hA.hM;simp only[Fo.cnt] at hl;have hb':CP (e::S):=λx hx=>by
   rcases List.mem_cons.1 hx with rfl | hx
   ·constructor<;>omega
   ·exact hb x hx
  have hkr:=KV (sh:=sh) hA h0 hv hS hb' (by rw[hk];exact w1) hlo;have hv1:=Cv h0 hv;obtain⟨kl,kp⟩:=Ip (e:=e) k;have hbk:CP (El e k::S):=λx hx=>by
   rcases List.mem_cons.1 hx with rfl | hx
   ·rw[kl];exact hb' e (by simp)
   ·exact hb x hx
  have hn:=HC (sh:=JH k sh) hA (by omega) hv1 (by simp only[Vk];omega) hbk (J3 (by rw[hk];exact w1)) w2 (by simpa using w3) (by omega);have hv2:=(BC (by omega) hv1).2.1;have hd:=ihk ⟨decide (c.fKind=6),c.fN,decide (c.fKind=6),[],false⟩ (El e k::S) (i+(Bv k).length+1) (GU (S.length+1) (JH k sh) c) none _ (by omega) w6 rfl w5 rfl (λ_=>rfl) hv2 (by omega) (by simp only[Vk];omega) hbk;obtain⟨q1,q2⟩:=Iq hlo hm w1;have hv3:=Cv (by omega) hv2;have:=Nu hA ih ((hd.of hn).of hkr) (by rw[kl,hl];rfl) (by rw[kp];exact w4) q1 q2 hv3 (by omega) (by omega) hb;simp only[Fo.flat,Fo.sh,Vo,Vk];rw[show i+((((Bv k).length+(kids.flat.length+r'.flat.length+1):Nat)):Int)=i+(Bv k).length+1+kids.flat.length+r'.flat.length from by omega];exact this
end
theorem NO {S O:Type}{body:S→Option (Stp S O)}{o:O}:∀{n:Nat} {s:S} (k:Nat),BI body n s=some o→BI body (n+k) s=some o
 | 0,s,k,h=>by cases h
 | n+1,s,k,h=>by
  rw[show n+1+k=n+k+1 from by omega,BI];rw[BI] at h
  cases hb:body s with
  | none=>rw[hb] at h;cases h
  | some t=>
   rw[hb] at h
   cases t with
   | next s'=>exact NO k h
   | out o'=>exact h
theorem Fin.eq {S O:Type}{body:S→Option (Stp S O)}{s:S}{o o':O}{n:Nat}(h:Fin body s o)(h':BI body n s=some o'):o'=o:=by
 obtain⟨k,hk⟩:=h;have:=NO k h';rw[hk n] at this;exact(A9 this).symm
theorem Mb:∀{S:List Aw},CP S→CP (JS S)∧(JS S).length≤S.length
 | [],h=>⟨h,Vs _⟩
 | e::S,h=>by
  have hS:CP S:=λx hx=>h x (by simp[hx]);have he:=h e (by simp);unfold JS
  cases hd:decide (1<e.fLeft) with
  | true=>
   simp only[Vf] at hd;refine⟨λx hx=>?_,by simp⟩;rcases List.mem_cons.1 hx with rfl | hx
   ·simp only;omega
   ·exact hS x hx
  | false=>
   obtain⟨h1,h2⟩:=Mb hS;exact⟨h1,by simp only[Vl,Vk];omega⟩
theorem RH {n:Int}{S:List Aw}{i:Int}{sh:A4}{c:Ab}{σ:MY}(hb:CP S)(hS:(S.length:Int)≤i)(hN:c.fN≤9223372036854775807)(h:Oo n S i sh c = .next σ):∃S' sh',σ=(S'.reverse,i+1,sh')∧CP S'∧(S'.length:Int)≤i+1:=by
 unfold Oo at h
 cases hp:pl c with
 | false=>simp[hp] at h
 | true=>
  simp only[hp,Vw,Vl] at h
  cases S with
  | nil=>
   simp only at h
   cases hn:decide (0<c.fN) with
   | false=>simp[hn] at h
   | true=>
    simp only[hn,Vq] at h
    cases hm:decide (n<c.fN) with
    | true=>simp[hm] at h
    | false=>
     simp only[hm,Vl,Stp.next.injEq] at h;refine⟨[_],_,h.symm,λx hx=>?_,by simp at hS ⊢;omega⟩;simp only[Vv] at hx;subst hx;simp only[Vf] at hn;exact⟨by simp only;omega,hN⟩
  | cons e S=>
   have he:=hb e (by simp);have hbS:CP S:=λx hx=>hb x (by simp[hx]);simp only[Vk] at hS
   cases hk:e.fKey with
   | true=>
    simp only[hk,Vq] at h
    cases hq:(!decide (c.fKind=4)||(e.fStarted&&(BJ c.fStr e.fLast||decide (c.fStr=e.fLast)))) with
    | true=>rw[hq] at h;simp at h
    | false=>
     rw[hq] at h;simp only[Vl,Stp.next.injEq] at h;refine⟨_::S,_,h.symm,λx hx=>?_,by simp only[Vk];omega⟩;rcases List.mem_cons.1 hx with rfl | hx
     ·exact he
     ·exact hbS x hx
   | false=>
    simp only[hk,Vl] at h
    cases hn:decide (0<c.fN) with
    | true=>
     simp only[hn,Vq] at h
     cases hm:decide (n<c.fN) with
     | true=>simp[hm] at h
     | false=>
      simp only[hm,Vl,Stp.next.injEq] at h;refine⟨_::e::S,_,h.symm,λx hx=>?_,by simp only[Vk];omega⟩;rcases List.mem_cons.1 hx with rfl | hx
      ·simp only[Vf] at hn;exact⟨by simp only;omega,hN⟩
      ·exact hb x hx
    | false=>
     simp only[hn,Vl] at h
     cases hq:decide (JS (e::S)=[]) with
     | true=>rw[hq] at h;simp at h
     | false=>
      rw[hq] at h;simp only[Vl,Stp.next.injEq] at h;obtain⟨h1,h2⟩:=Mb hb;simp only[Vk] at h2;exact⟨_,_,h.symm,h1,by omega⟩
theorem KL {F M:Nat}{v:List Ab}(hA:PN F M v):∃o,BI (NP F v) F (([]:List Aw),0,(⟨0,0,false,false⟩:A4))=some o∧True:=by
 refine DW (λσ=>∃S i sh,σ=(S.reverse,i,sh)∧CP S∧(S.length:Int)≤i∧0≤i∧i≤v.length) (λσ=>v.length-σ.2.1.toNat) (λ_=>True) (λσ hI=>?_) F _ ⟨[],0,_,rfl,(λx hx=>by cases hx),Vx _,Vx _,by omega⟩ (by have:=hA.hv;have:=hA.hF;simp;omega);obtain⟨S,i,sh,rfl,hb,hS,h0,hi⟩:=hI
 by_cases hx:i<v.length
 ·obtain⟨c,hc⟩:∃c,v[i.toNat]? =some c:=⟨v[i.toNat]'(by omega),Vi (by omega)⟩
  have hdr:v.drop i.toNat=c::v.drop (i.toNat+1):=by rw[List.drop_eq_getElem_cons (by omega)];congr 1;exact(List.getElem?_eq_some_iff.1 hc).2
  have hr:=round (sh:=sh) hA h0 hdr hS hb
  cases hl:Oo v.length S i sh c with
  | next τ=>
   obtain⟨S',sh',rfl,h1,h2⟩:=RH hb hS (hA.hc c (Vm hc)).2.2 hl;exact .inl ⟨_,by rw[hr,hl],⟨S',i+1,sh',rfl,h1,h2,by omega,by omega⟩,by simp only;omega⟩
  | out o=>exact .inr ⟨o,by rw[hr,hl],trivial⟩
 ·refine .inr ⟨.go sh,?_,trivial⟩;show CH F v S.reverse i sh=_;unfold CH;rw[Ar (by simpa using hx)]
def Fo.one:Fo→Bool
 | .cell none _ .nil=>true
 | .node none _ _ .nil=>true
 | _=>false
def Lk:A4:=⟨0,0,false,false⟩
theorem RG {F M:Nat}{v:List Ab}(hA:PN F M v){f:Fo}(h1:f.one=true)(hw:f.wf false none=true){r:List Ab}(hv:v=f.flat++r):Fin (NP F v) ([],0,Lk) (.ret (f.flat.length,f.sh 0 Lk,true)):=by
 have h0:v.drop (0:Int).toNat=f.flat++r:=by rw[hv];rfl
 have hlen:f.flat.length≤v.length:=by rw[hv];simp
 cases f with
 | nil=>cases h1
 | cell k c r'=>
  cases k with
  | some s=>cases h1
  | none=>
   cases r' with
   | nil=>
    simp only[Fo.wf,Vj,V0] at hw;have:=J2 (S:=[]) (sh:=Lk) hA (Vx 0) h0 (by simp) (λx hx=>by cases hx) rfl hw.1.1.2 hw.1.2;unfold Gg at this;rw[Vu (show JS []=[] from rfl)] at this;simpa[Fo.flat,Fo.sh,Bv,JH] using this
   | cell _ _ _=>cases h1
   | node _ _ _ _=>cases h1
 | node k c kids r'=>
  cases k with
  | some s=>cases h1
  | none=>
   cases r' with
   | nil=>
    simp only[Fo.wf,Vj,Vf] at hw;obtain⟨⟨⟨⟨⟨w1,w2⟩,w3⟩,w5⟩,w6⟩,w4⟩:=hw;have hck:=BT kids;simp only[Fo.flat,Bv,VT,VB,Vk] at hlen;have hvM:=hA.hv;have hMM:=hA.hM;have hn:=HC (S:=[]) (sh:=Lk) hA (Vx 0) h0 (by simp) (λx hx=>by cases hx) rfl w2 (by simpa using w3) (by omega);have hv2:=(BC (Vx 0) h0).2.1;have hd:=JR hA kids ⟨decide (c.fKind=6),c.fN,decide (c.fKind=6),[],false⟩ [] (0+1) (GU 0 Lk c) none r (by omega) w6 rfl w5 rfl (λ_=>rfl) (by rw[hv2];simp[Fo.flat]) (by omega) (by simp) (λx hx=>by cases hx);unfold Gg at hd;rw[Vu (show JS []=[] from rfl)] at hd;have:=hn.fin hd;have e:((0:Int)+1+kids.flat.length)=((Fo.node none c kids .nil).flat.length:Int):=by simp[Fo.flat,Bv];omega
    rw[e] at this;exact this
   | cell _ _ _=>cases h1
   | node _ _ _ _=>cases h1
theorem RF {F M:Nat}{v:List Ab}(hA:PN F M v){f:Fo}(h1:f.one=true)(hw:f.wf false none=true){r:List Ab}(hv:v=f.flat++r):I4 F v=some ((f.flat.length:Int),f.sh 0 Lk,true):=by
 obtain⟨o,ho,_⟩:=KL hA;have e:=(RG hA h1 hw hv).eq ho;subst e;unfold I4;rw[AF ho];rfl
def G2 (m:Bool)(last:Option Am)(xs:List Ab):Option (Option Am×List Ab):=
 bif m then match xs with
  | []=>none
  | c::r=>bif pl c&&decide (c.fKind=4)&&BZ true last (some c.fStr) then some (some c.fStr,r) else none
 else some (none,xs)
def Gx:Nat→Bool→Option Am→Nat→List Ab→Option (Fo×List Ab)
 | 0,_,_,_,_=>none
 | _+1,_,_,0,xs=>some (.nil,xs)
 | F+1,m,last,k+1,xs=>
  match G2 m last xs with
  | none=>none
  | some (_,[])=>none
  | some (key,c::xs')=>
   bif !pl c then none else
   bif decide (0<c.fN) then
    match Gx F (decide (c.fKind=6)) none c.fN.toNat xs' with
    | none=>none
    | some (kids,ys)=>match Gx F m key k ys with
     | none=>none
     | some (r,zs)=>some (.node key c kids r,zs)
   else match Gx F m key k xs' with
    | none=>none
    | some (r,zs)=>some (.cell key c r,zs)
theorem M8 {c:Ab}(hp:pl c=true)(hk:c.fKind=4):c=⟨4,0,c.fStr,0⟩∧c.fStr.all Sw=true:=by
 cases c
 simp only at hk;subst hk;simp[pl] at hp;obtain⟨h1,h2,h3⟩:=hp;subst h1;subst h2;exact⟨rfl,by simpa using h3⟩
theorem Kj {m:Bool}{last key:Option Am}{xs r:List Ab}(h:G2 m last xs=some (key,r)):xs=Bv key++r∧BZ m last key=true:=by
 unfold G2 at h
 cases m with
 | false=>cases h;exact⟨rfl,rfl⟩
 | true=>
  simp only[Vq] at h
  cases xs with
  | nil=>cases h
  | cons c r'=>
   simp only at h
   cases hb:(pl c&&decide (c.fKind=4)&&BZ true last (some c.fStr)) with
   | false=>rw[hb] at h;cases h
   | true=>
    rw[hb] at h;simp only[Vj,Vf] at hb
    cases h
    exact⟨by rw[(M8 hb.1.1 hb.1.2).1];rfl,hb.2⟩
theorem Ga:∀(F:Nat) (m:Bool) (last:Option Am) (k:Nat) (xs:List Ab) (f:Fo) (ys:List Ab),Gx F m last k xs=some (f,ys)→xs=f.flat++ys∧f.wf m last=true∧f.cnt=k
 | 0,_,_,_,_,_,_,h=>by cases h
 | F+1,m,last,0,xs,f,ys,h=>by cases h;exact⟨rfl,rfl,rfl⟩
 | F+1,m,last,k+1,xs,f,ys,h=>by
  rw[Gx] at h
  cases hk:G2 m last xs with
  | none=>rw[hk] at h;cases h
  | some p=>
   obtain⟨key,r⟩:=p;obtain⟨h1,h2⟩:=Kj hk;rw[hk] at h
   cases r with
   | nil=>cases h
   | cons c xs'=>
    simp only at h
    cases hp:pl c with
    | false=>rw[hp] at h;cases h
    | true=>
     rw[hp] at h;simp only[Vw,Vl] at h
     cases hn:decide (0<c.fN) with
     | true=>
      rw[hn] at h;simp only[Vq] at h
      cases hq:Gx F (decide (c.fKind=6)) none c.fN.toNat xs' with
      | none=>rw[hq] at h;cases h
      | some q=>
       obtain⟨kids,zs⟩:=q;rw[hq] at h;simp only at h
       cases hr:Gx F m key k zs with
       | none=>rw[hr] at h;cases h
       | some q2=>
        obtain⟨r2,us⟩:=q2;rw[hr] at h;cases h;obtain⟨a1,a2,a3⟩:=Ga F _ _ _ _ _ _ hq;obtain⟨b1,b2,b3⟩:=Ga F _ _ _ _ _ _ hr;refine⟨by rw[h1,a1,b1];simp[Fo.flat],?_,by simp[Fo.cnt,b3]⟩;simp only[Vf] at hn;simp only[Fo.wf,h2,hp,a2,b2,VQ,V3,Vj,Vf];omega
     | false=>
      rw[hn] at h;simp only[Vl] at h
      cases hr:Gx F m key k xs' with
      | none=>rw[hr] at h;cases h
      | some q2=>
       obtain⟨r2,us⟩:=q2;rw[hr] at h;cases h;obtain⟨b1,b2,b3⟩:=Ga F _ _ _ _ _ _ hr;exact⟨by rw[h1,b1];simp[Fo.flat],by simp[Fo.wf,h2,hp,b2,hn],by simp[Fo.cnt,b3]⟩
theorem Gp:∀(F F':Nat) (m:Bool) (last:Option Am) (k:Nat) (xs:List Ab),xs.length<F→xs.length<F'→Gx F m last k xs=Gx F' m last k xs
 | 0,_,_,_,_,_,h,_=>by omega
 | _+1,0,_,_,_,_,_,h=>by omega
 | F+1,F'+1,m,last,0,xs,_,_=>rfl
 | F+1,F'+1,m,last,k+1,xs,h,h'=>by
  rw[Gx,Gx]
  cases hk:G2 m last xs with
  | none=>rfl
  | some p=>
   obtain⟨key,r⟩:=p;obtain⟨h1,h2⟩:=Kj hk
   cases r with
   | nil=>rfl
   | cons c xs'=>
    have hl:xs'.length<xs.length:=by rw[h1];simp;omega
    simp only
    cases hp:pl c with
    | false=>rfl
    | true=>
     simp only[Vw,Vl]
     cases hn:decide (0<c.fN) with
     | true=>
      simp only[Vq];rw[Gp F F' _ _ _ xs' (by omega) (by omega)]
      cases hq:Gx F' (decide (c.fKind=6)) none c.fN.toNat xs' with
      | none=>rfl
      | some q=>
       obtain⟨kids,zs⟩:=q;have:=(Ga _ _ _ _ _ _ _ hq).1;have hz:zs.length≤xs'.length:=by rw[this];simp
       simp only;rw[Gp F F' m key k zs (by omega) (by omega)]
     | false=>
      simp only[Vl];rw[Gp F F' m key k xs' (by omega) (by omega)]
def OY {S:Type}(body:S→Option (Stp S T9))(s:S):Prop:=∃sh',Fin body s (.ret (0,sh',false))∨Fin body s (.go sh')
theorem Df.bad {S:Type}{body:S→Option (Stp S T9)}{s t:S}(h:Df body s t)(h':OY body t):OY body s:=by
 obtain⟨sh',h' | h'⟩:=h'
 ·exact⟨sh',.inl (h.fin h')⟩
 ·exact⟨sh',.inr (h.fin h')⟩
section
variable {F M : Nat} {v : List Ab}
theorem OY.end_ {S:List Aw}{i:Int}{sh:A4}(h0:0≤i)(h:v.drop i.toNat=[]):OY (NP F v) (S.reverse,i,sh):=by
 refine⟨sh,.inr (Fin.step ?_)⟩;show CH F v S.reverse i sh=_;unfold CH;rw[Ar];have:v.length≤i.toNat:=by simpa using h
 simp;omega
theorem OY.pl_ (hA:PN F M v){S:List Aw}{i:Int}{sh:A4}{c:Ab}{r:List Ab}(h0:0≤i)(h:v.drop i.toNat=c::r)(hS:(S.length:Int)≤i)(hb:CP S)(hp:pl c=false):OY (NP F v) (S.reverse,i,sh):=by
 refine⟨sh,.inl (Fin.step ?_)⟩;rw[round hA h0 h hS hb];simp[Oo,hp]
theorem ON (hA:PN F M v):∀(P:Nat) (k:Nat) (e:Aw) (S:List Aw) (i:Int) (sh:A4) (last:Option Am) (xs:List Ab),xs.length<P→Gx P e.fPairs last (k+1) xs=none→e.fKey=e.fPairs→e.fLeft=(k:Int)+1→(k:Int)+1≤9223372036854775807→Hm e last→(e.fPairs=false→last=none)→v.drop i.toNat=xs→0≤i→(S.length:Int)+1≤i→CP S→
  OY (NP F v) ((e::S).reverse,i,sh):=by
 intro P
 induction P with
 | zero=>intro k e S i sh last xs h;omega
 | succ P ih=>
  intro k e S i sh last xs hP hn hk hl hkm hlo hm hv h0 hS hb;have hb':CP (e::S):=λx hx=>by
   rcases List.mem_cons.1 hx with rfl | hx
   ·constructor<;>omega
   ·exact hb x hx
  rw[Gx] at hn
  cases hq:G2 e.fPairs last xs with
  | none=>
   unfold G2 at hq
   cases hpr:e.fPairs with
   | false=>rw[hpr] at hq;cases hq
   | true=>
    rw[hpr] at hq hk;simp only[Vq] at hq
    cases xs with
    | nil=>exact OY.end_ h0 hv
    | cons c r=>
     simp only at hq
     cases hp:pl c with
     | false=>exact OY.pl_ hA h0 hv (by simpa using hS) hb' hp
     | true=>
      refine⟨sh,.inl (Fin.step ?_)⟩;rw[round hA h0 hv (by simpa using hS) hb'];have ht:(!decide (c.fKind=4)||(e.fStarted&&(BJ c.fStr e.fLast||decide (c.fStr=e.fLast))))=true:=by
       rw[hp] at hq
       cases h4:decide (c.fKind=4) with
       | false=>rfl
       | true=>
        rw[h4] at hq;simp only[Bool.and_self,V3] at hq;have hok:=(M8 hp (by simpa using h4)).2
        cases last with
        | none=>simp[BZ,hok] at hq
        | some p=>
         obtain⟨q1,q2⟩:=hlo;rw[q1,q2]
         cases hc:(BJ c.fStr p||decide (c.fStr=p)) with
         | true=>rfl
         | false=>simp[BZ,hok,hc] at hq
      simp only[Oo,hp,hk,ht,Vw,Vl,Vq]
  | some q=>
   obtain⟨key,r⟩:=q;obtain⟨h1,h2⟩:=Kj hq;rw[hq] at hn;have hkr:=KV (sh:=sh) hA h0 (by rw[hv];exact h1) hS hb' (by rw[hk];exact h2) hlo;have hv1:=Cv h0 (hv.trans h1);obtain⟨kl,kp⟩:=Ip (e:=e) key;obtain⟨q1,q2⟩:=Iq hlo hm h2;have hbk:CP (El e key::S):=λx hx=>by
    rcases List.mem_cons.1 hx with rfl | hx
    ·rw[kl];exact hb' e (by simp)
    ·exact hb x hx
   refine hkr.bad ?_
   cases r with
   | nil=>exact OY.end_ (by omega) hv1
   | cons c xs'=>
    have hlen:xs'.length+1≤xs.length:=by rw[h1];simp
    have hvl:xs.length≤v.length:=by rw[← hv,List.length_drop];omega
    have hvM:=hA.hv;have hMM:=hA.hM;have hkk:=J3 (e:=e) (last:=last) (k:=key) (by rw[hk];exact h2);simp only at hn;have hSk:(((El e key::S).length:Nat):Int)≤i+(Bv key).length:=by simp only[Vk];omega
    cases hp:pl c with
    | false=>exact OY.pl_ hA (by omega) hv1 hSk hbk hp
    | true=>
     rw[hp] at hn;simp only[Vw,Vl] at hn;obtain⟨g1,g2,g3⟩:=BC (by omega) hv1;have hcN:=(hA.hc c (Vm g1)).2.2;have more:∀(s:MY) (j:Int) (sh':A4) (zs:List Ab),Gg (NP F v) s (El e key::S) j sh'→v.drop j.toNat=zs→zs.length<P→0≤j→(S.length:Int)+1≤j→Gx P e.fPairs key k zs=none→OY (NP F v) s:=λs j sh' zs hd hz hzl hj hSj hnone=>by
      cases k with
      | zero=>
       cases P with
       | zero=>omega
       | succ P=>cases hnone
      | succ k=>
       have:=hd.more (by rw[kl];omega);refine this.bad (ih k _ S j sh' key zs hzl (by rw[kp];exact hnone) rfl (by simp only[kl];omega) (by omega) ?_ (by simpa using q2) hz hj hSj hb)
       cases key with
       | none=>exact q1
       | some p=>exact q1
     cases hN:decide (0<c.fN) with
     | true=>
      rw[hN] at hn;simp only[Vq] at hn;simp only[Vf] at hN
      by_cases hbig:c.fN≤v.length
      ·have hnd:=HC (sh:=JH key sh) hA (by omega) hv1 hSk hbk (by simpa[J4] using hkk) hp (by simpa using hN) hbig;refine hnd.bad ?_
       cases hks:Gx P (decide (c.fKind=6)) none c.fN.toNat xs' with
       | none=>
        obtain⟨n',hn'⟩:∃n',c.fN.toNat=n'+1:=⟨c.fN.toNat-1,by omega⟩
        rw[hn'] at hks;exact ih n' _ _ _ _ none xs' (by omega) hks rfl (by simp only;omega) (by omega) rfl (λ_=>rfl) g2 (by omega) (by simp only[Vk];omega) hbk
       | some q=>
        obtain⟨kids,zs⟩:=q;rw[hks] at hn;simp only at hn;have hn2:Gx P e.fPairs key k zs=none:=by
         cases hz:Gx P e.fPairs key k zs with
         | none=>rfl
         | some q=>rw[hz] at hn;cases hn
        obtain⟨a1,a2,a3⟩:=Ga _ _ _ _ _ _ _ hks;have hd:=JR hA kids ⟨decide (c.fKind=6),c.fN,decide (c.fKind=6),[],false⟩ (El e key::S) (i+(Bv key).length+1) (GU (S.length+1) (JH key sh) c) none zs (by omega) a2 rfl (by simp only;omega) rfl (λ_=>rfl) (by rw[g2];exact a1) (by omega) (by simp only[Vk];omega) hbk;have hz:v.drop (i+(Bv key).length+1+kids.flat.length).toNat=zs:=Cv (by omega) (g2.trans a1);have hzl:zs.length≤xs'.length:=by rw[a1];simp
        exact more _ _ _ zs hd hz (by omega) (by omega) (by omega) hn2
      ·refine⟨GU (El e key::S).length (JH key sh) c,.inl (Fin.step ?_)⟩;rw[round hA (by omega) hv1 hSk hbk];have hbig':decide ((v.length:Int)<c.fN)=true:=by simpa using hbig
       simp only[Oo,hp,hkk,hbig',hN,Vw,Vl,Vq,decide_true]
     | false=>
      rw[hN] at hn;simp only[Vl] at hn;have hn2:Gx P e.fPairs key k xs'=none:=by
       cases hz:Gx P e.fPairs key k xs' with
       | none=>rfl
       | some q=>rw[hz] at hn;cases hn
      have hd:=J2 (sh:=JH key sh) hA (by omega) hv1 hSk hbk (by simpa[J4] using hkk) hp hN;exact more _ _ _ xs' hd g2 (by omega) (by omega) (by omega) hn2
def Gr (xs:List Ab):Option (Fo×List Ab):=Gx (xs.length+1) false none 1 xs
theorem Pq {P:Nat}{xs ys:List Ab}{f:Fo}(h:Gx P false none 1 xs=some (f,ys)):f.one=true:=by
 obtain⟨h1,h2,h3⟩:=Ga _ _ _ _ _ _ _ h
 cases f with
 | nil=>cases h3
 | cell k c r=>
  cases r with
  | nil=>
   cases k with
   | none=>rfl
   | some s=>simp[Fo.wf,BZ] at h2
  | cell _ _ _=>simp[Fo.cnt] at h3
  | node _ _ _ _=>simp[Fo.cnt] at h3
 | node k c kids r=>
  cases r with
  | nil=>
   cases k with
   | none=>rfl
   | some s=>simp[Fo.wf,BZ] at h2
  | cell _ _ _=>simp[Fo.cnt] at h3
  | node _ _ _ _=>simp[Fo.cnt] at h3
theorem Q2 (hA:PN F M v)(h:Gr v=none):OY (NP F v) ([],0,Lk):=by
 have hlf:CP []:=λx hx=>by cases hx
 unfold Gr at h;rw[Gx] at h;simp only[G2,Vl] at h
 cases v with
 | nil=>exact OY.end_ (S:=[]) (Vx 0) rfl
 | cons c xs'=>
  have hv1:(c::xs').drop (0:Int).toNat=c::xs':=rfl;have hvM:=hA.hv;have hMM:=hA.hM;simp only at h
  cases hp:pl c with
  | false=>exact OY.pl_ (S:=[]) hA (Vx 0) hv1 (by simp) hlf hp
  | true=>
   rw[hp] at h;simp only[Vw,Vl] at h;have hcN:=(hA.hc c (by simp)).2.2
   cases hN:decide (0<c.fN) with
   | true=>
    rw[hN] at h;simp only[Vq] at h;simp only[Vf] at hN
    by_cases hbig:c.fN≤(c::xs').length
    ·have hnd:=HC (S:=[]) (sh:=Lk) hA (Vx 0) hv1 (by simp) hlf rfl hp (by simpa using hN) hbig;refine hnd.bad ?_
     cases hks:Gx (c::xs').length (decide (c.fKind=6)) none c.fN.toNat xs' with
     | none=>
      obtain⟨n',hn'⟩:∃n',c.fN.toNat=n'+1:=⟨c.fN.toNat-1,by omega⟩
      rw[hn'] at hks;exact ON hA (c::xs').length n' ⟨decide (c.fKind=6),c.fN,decide (c.fKind=6),[],false⟩ [] (0+1) _ none xs' (by simp) hks rfl (by simp only;omega) (by omega) rfl (λ_=>rfl) rfl (by omega) (by simp) hlf
     | some q=>rw[hks] at h;cases h
    ·refine⟨GU 0 Lk c,.inl (Fin.step ?_)⟩;rw[show NP F (c::xs') (([]:List Aw),0,Lk)=_ from round (S:=[]) hA (Vx 0) hv1 (by simp) hlf];have hbig':decide (((c::xs').length:Int)<c.fN)=true:=by simpa using hbig
     simp only[Oo,hp,hbig',hN,Vw,Vl,Vq,decide_true]
   | false=>rw[hN] at h;cases h
theorem SY (hA:PN F M v):(∃f ys,Gr v=some (f,ys)∧I4 F v=some ((f.flat.length:Int),f.sh 0 Lk,true))∨(Gr v=none∧∃sh',I4 F v=some (0,sh',false)):=by
 cases h:Gr v with
 | some q=>
  obtain⟨f,ys⟩:=q;obtain⟨h1,h2,h3⟩:=Ga _ _ _ _ _ _ _ h;exact .inl ⟨f,ys,rfl,RF hA (Pq h) h2 h1⟩
 | none=>
  refine .inr ⟨rfl,?_⟩;obtain⟨o,ho,_⟩:=KL hA;obtain⟨sh',hb | hb⟩:=Q2 hA h
  ·have e:=hb.eq ho;subst e;exact⟨sh',by unfold I4;rw[AF ho];rfl⟩
  ·have e:=hb.eq ho;subst e;exact⟨sh',by unfold I4;rw[AF ho];rfl⟩
end
theorem H0 {x:Int}(h : -9223372036854775808≤x)(h':x≤9223372036854775807):IntKind.wrap .i64 x=x:=by
 simp only[IntKind.wrap,IntKind.bits,IntKind.signed];simp;omega
def Fo.dep:Fo→Nat
 | .nil=>0
 | .cell _ _ r=>max 1 r.dep
 | .node _ _ kids r=>max (kids.dep+1) r.dep
theorem Et (k:Option Am)(s:A4):(JH k s).fDepth=s.fDepth∧(JH k s).fOutside=s.fOutside∧(JH k s).fLong=(s.fLong||(Bv k).any λc=>decide (200<(c.fStr.length:Int))):=by
 cases k with
 | none=>simp[JH,Bv]
 | some x=>simp[JH,Uk,Bv]
theorem I7:∀(f:Fo) (d:Nat) (s:A4),(d:Int)≤s.fDepth→(f.sh d s).fDepth=max s.fDepth ((d:Int)+f.dep)
 | .nil,d,s,h=>by simp only[Fo.sh,Fo.dep];omega
 | .cell k c r,d,s,h=>by
  have hk:=(Et k s).1;have e:(GU d (JH k s) c).fDepth=max s.fDepth ((d:Int)+1):=by rw[GU,hk]
  rw[Fo.sh,I7 r d _ (by rw[e];omega),e,Fo.dep];omega
 | .node k c kids r,d,s,h=>by
  have hk:=(Et k s).1;have e:(GU d (JH k s) c).fDepth=max s.fDepth ((d:Int)+1):=by rw[GU,hk]
  have e2:=I7 kids (d+1) (GU d (JH k s) c) (by rw[e];omega);rw[e] at e2;rw[Fo.sh,I7 r d _ (by rw[e2];omega),e2,Fo.dep];omega
def EM (c:Ab):Bool:=decide (c.fKind=3)&&!(decide ((-1000000000000)≤c.fInt)&&decide (c.fInt≤1000000000000))
def Ek (c:Ab):Bool:=decide (200<(c.fStr.length:Int))
theorem NV (k:Option Am):(Bv k).any EM=false:=by cases k<;>simp[Bv,EM]
theorem Mt:∀(f:Fo) (d:Nat) (s:A4),(f.sh d s).fOutside=(s.fOutside||f.flat.any EM)
 | .nil,d,s=>by simp[Fo.sh,Fo.flat]
 | .cell k c r,d,s=>by
  rw[Fo.sh,Mt r,GU,(Et k s).2.1];simp only[Fo.flat,List.any_append,List.any_cons,NV,V6,Bool.or_assoc];rfl
 | .node k c kids r,d,s=>by
  rw[Fo.sh,Mt r,Mt kids,GU,(Et k s).2.1];simp only[Fo.flat,List.any_append,List.any_cons,NV,V6,Bool.or_assoc];rfl
theorem Kg:∀(f:Fo) (d:Nat) (s:A4),(f.sh d s).fLong=(s.fLong||f.flat.any Ek)
 | .nil,d,s=>by simp[Fo.sh,Fo.flat]
 | .cell k c r,d,s=>by
  rw[Fo.sh,Kg r,GU,(Et k s).2.2];simp only[Fo.flat,List.any_append,List.any_cons,Bool.or_assoc];rfl
 | .node k c kids r,d,s=>by
  rw[Fo.sh,Kg r,Kg kids,GU,(Et k s).2.2];simp only[Fo.flat,List.any_append,List.any_cons,Bool.or_assoc];rfl
def S0 (c:Ab):Int:=
 bif decide (c.fKind=1) then 4 else bif decide (c.fKind=2) then 5-c.fInt else bif decide (c.fKind=3) then((Lib.itoa c.fInt).length:Int) else
 bif decide (c.fKind=4) then Jq c.fStr else 2
def MG:Option Am→Int
 | none=>0
 | some s=>Jq s+1
def Fo.byt:Fo→Int
 | .nil=>0
 | .cell k c r=>MG k+S0 c+r.byt
 | .node k c kids r=>MG k+(c.fN+1)+kids.byt+r.byt
theorem KA (s:Am):2≤Jq s:=by unfold Jq;omega
theorem Ko (k:Option Am):0≤MG k:=by
 cases k with
 | none=>exact Vx 0
 | some s=>have:=KA s;simp only[MG];omega
theorem Pz {c:Ab}(hp:pl c=true):0≤S0 c:=by
 unfold S0
 cases h1:decide (c.fKind=1) with
 | true=>simp
 | false=>
  cases h2:decide (c.fKind=2) with
  | true=>
   simp[pl,h1,h2] at hp;simp only[Vl,Vq];omega
  | false=>
   cases h3:decide (c.fKind=3) with
   | true=>simp
   | false=>
    cases h4:decide (c.fKind=4) with
    | true=>have:=KA c.fStr;simp only[Vl,Vq];omega
    | false=>simp
theorem SM {c:Ab}(hp:pl c=true):0≤c.fN:=by
 simp only[pl,← Bool.decide_or] at hp
 cases h1:decide (c.fKind=1)<;>cases h2:decide (c.fKind=2)<;>cases h3:decide (c.fKind=3)<;>cases h4:decide (c.fKind=4)<;>cases h5:decide (c.fKind=5)<;>cases h6:decide (c.fKind=6)<;>simp[h1,h2,h3,h4,h5,h6] at hp<;>omega
theorem IJ {c:Ab}(hp:pl c=true)(hn:0<c.fN):(c.fKind=5∨c.fKind=6)∧c.fInt=0∧c.fStr=[]:=by
 cases h1:decide (c.fKind=1)<;>cases h2:decide (c.fKind=2)<;>cases h3:decide (c.fKind=3)<;>cases h4:decide (c.fKind=4)<;>cases h5:decide (c.fKind=5)<;>cases h6:decide (c.fKind=6)<;>simp[pl,h1,h2,h3,h4,h5,h6] at hp<;>(simp only[Vf,Vg] at *;first | omega | exact⟨by omega,hp.1,hp.2.1⟩)
theorem Rg {c:Ab}(hp:pl c=true)(hn:decide (0<c.fN)=false):TG c=S0 c:=by
 have hN:=SM hp;have h0:c.fN=0:=by simp only[Vg] at hn;omega
 unfold TG S0;rw[h0]
 cases h1:decide (c.fKind=1) with
 | true=>rfl
 | false=>
  cases h2:decide (c.fKind=2) with
  | true=>
   simp[pl,h1,h2] at hp;simp only[Vl,Vq];exact H0 (by omega) (by omega)
  | false=>rfl
theorem Rf {c:Ab}(hp:pl c=true)(hn:0<c.fN)(hm:c.fN≤9223372036854775000):TG c=c.fN+1:=by
 obtain⟨hk,_,_⟩:=IJ hp hn;unfold TG;rw[Vc (by omega),Vc (by omega),Vc (by omega),Vc (by omega)];simp only[Vl];rw[H0 (x:=c.fN-1) (by omega) (by omega),H0 (by omega) (by omega)];omega
theorem GI:∀{f:Fo} {m:Bool} {l:Option Am},f.wf m l=true→0≤f.byt
 | .nil,_,_,_=>Vx 0
 | .cell k c r,m,l,h=>by
  simp only[Fo.wf,Vj] at h;have h1:=GI h.2;have h2:=Pz h.1.1.2;have h3:=Ko k;simp only[Fo.byt];omega
 | .node k c kids r,m,l,h=>by
  simp only[Fo.wf,Vj,Vf] at h;have h1:=GI h.2;have h2:=GI h.1.2;have h3:=Ko k;simp only[Fo.byt];omega
theorem LF (k:Option Am)(s:A4)(h0:0≤s.fBytes)(h:s.fBytes+MG k≤9223372036854775807):(JH k s).fBytes=s.fBytes+MG k:=by
 cases k with
 | none=>simp[JH,MG]
 | some x=>
  have:=KA x;simp only[MG] at h;simp only[JH,Uk,MG];exact H0 (by omega) (by omega)
theorem I8:∀(f:Fo) (m:Bool) (l:Option Am) (d:Nat) (s:A4),f.wf m l=true→0≤s.fBytes→s.fBytes+f.byt≤9223372036854775000→(f.sh d s).fBytes=s.fBytes+f.byt
 | .nil,_,_,d,s,_,_,_=>by simp[Fo.sh,Fo.byt]
 | .cell k c r,m,l,d,s,hw,h0,h=>by
  simp only[Fo.wf,Vj,V0] at hw;obtain⟨⟨⟨w1,w2⟩,w3⟩,w4⟩:=hw;have h1:=GI w4;have h2:=Pz w2;have h3:=Ko k;simp only[Fo.byt] at h;have e1:=LF k s h0 (by omega);have e:(GU d (JH k s) c).fBytes=s.fBytes+MG k+S0 c:=by
   rw[GU,e1,Rg w2 w3];exact H0 (by omega) (by omega)
  rw[Fo.sh,I8 r _ _ d _ w4 (by rw[e];omega) (by rw[e];omega),e,Fo.byt];omega
 | .node k c kids r,m,l,d,s,hw,h0,h=>by
  simp only[Fo.wf,Vj,Vf] at hw;obtain⟨⟨⟨⟨⟨w1,w2⟩,w3⟩,w5⟩,w6⟩,w4⟩:=hw;have h1:=GI w4;have h2:=GI w6;have h3:=Ko k;simp only[Fo.byt] at h;have e1:=LF k s h0 (by omega);have e:(GU d (JH k s) c).fBytes=s.fBytes+MG k+(c.fN+1):=by
   rw[GU,e1,Rf w2 w3 (by omega)];exact H0 (by omega) (by omega)
  have e2:=I8 kids _ _ (d+1) (GU d (JH k s) c) w6 (by rw[e];omega) (by rw[e];omega);rw[Fo.sh,I8 r _ _ d _ w4 (by rw[e2,e];omega) (by rw[e2,e];omega),e2,e,Fo.byt];omega
def Lc (s:Am):Am:=s.flatMap λc=>bif (decide (c=34)||decide (c=92)) then[92,c] else[c]
def Il (s:Am):Am:=34::(Lc s++[34])
theorem Lb:∀s:Am,(Lc s).length=s.length+s.count 34+s.count 92
 | []=>rfl
 | c::s=>by
  have ih:=Lb s;unfold Lc at ih ⊢;rw[List.flatMap_cons,Vo,ih]
  by_cases h1:c=34
  ·subst h1;simp;omega
  ·by_cases h2:c=92
   ·subst h2;simp;omega
   ·simp[h1,h2,List.count_cons];omega
theorem N3 (s:Am):((Il s).length:Int)=Jq s:=by
 simp only[Il,Vk,Vo,Lb,V8,Jq];omega
def IW (c:Ab):Am:=
 bif decide (c.fKind=1) then[110,117,108,108] else
 bif decide (c.fKind=2) then(bif decide (c.fInt=1) then[116,114,117,101] else[102,97,108,115,101]) else
 bif decide (c.fKind=3) then Lib.itoa c.fInt else
 bif decide (c.fKind=4) then Il c.fStr else
 bif decide (c.fKind=6) then[123,125] else[91,93]
def L0:Option Am→Am
 | none=>[]
 | some s=>Il s++[58]
def QP (c:Ab)(s:Am):Am:=bif decide (c.fKind=6) then 123::(s++[125]) else 91::(s++[93])
def EZ (first:Bool):Am:=bif first then[] else[44]
def Fo.txt:Bool→Fo→Am
 | _,.nil=>[]
 | b,.cell k c r=>EZ b++L0 k++IW c++r.txt false
 | b,.node k c kids r=>EZ b++L0 k++QP c (kids.txt true)++r.txt false
theorem P0 (k:Option Am):((L0 k).length:Int)=MG k:=by
 cases k with
 | none=>rfl
 | some s=>simp only[L0,Vo,MG,VD];have:=N3 s;omega
theorem Q3 {c:Ab}(hp:pl c=true):((IW c).length:Int)=S0 c:=by
  unfold IW S0
  cases h1:decide (c.fKind=1) with
  | true=>rfl
  | false=>
    cases h2:decide (c.fKind=2) with
    | true=>
      simp[pl,h1,h2] at hp;simp only[Vl,Vq]
      cases h7:decide (c.fInt=1) with
      | true=>simp only[Vf] at h7;simp[h7]
      | false=>
                 simp only[Vg] at h7;have:c.fInt=0:=by omega
                 simp[this]
    | false=>
      cases h3:decide (c.fKind=3) with
      | true=>rfl
      | false=>
        cases h4:decide (c.fKind=4) with
        | true=>simpa using N3 c.fStr
        | false=>cases h6:decide (c.fKind=6)<;>rfl
theorem MP (c:Ab)(s:Am):(QP c s).length=s.length+2:=by
 unfold QP
 cases decide (c.fKind=6)<;>simp
theorem I6:∀(f:Fo) (m:Bool) (l:Option Am) (b:Bool),f.wf m l=true→((f.txt b).length:Int)=f.byt+(bif b then((f.cnt-1:Nat):Int) else(f.cnt:Int))
 | .nil,m,l,b,_=>by cases b<;>rfl
 | .cell k c r,m,l,b,hw=>by
  simp only[Fo.wf,Vj,V0] at hw;obtain⟨⟨⟨w1,w2⟩,w3⟩,w4⟩:=hw;have ih:=I6 r _ _ false w4;have a:=P0 k;have d:=Q3 w2;simp only[Vl] at ih
  cases b<;>simp only[Fo.txt,Fo.byt,Fo.cnt,EZ,Vq,Vl,Vo,V8,VD]<;>omega
 | .node k c kids r,m,l,b,hw=>by
  simp only[Fo.wf,Vj,Vf] at hw;obtain⟨⟨⟨⟨⟨w1,w2⟩,w3⟩,w5⟩,w6⟩,w4⟩:=hw;have ih:=I6 r _ _ false w4;have ih2:=I6 kids _ _ true w6;have a:=P0 k;have d:=MP c (kids.txt true);simp only[Vl,Vq] at ih ih2
  cases b<;>simp only[Fo.txt,Fo.byt,Fo.cnt,EZ,Vq,Vl,Vo,V8,VD]<;>omega
def Fo.put (k:Option Am):Fo→Fo→Fo
 | .cell _ c _,r=>.cell k c r
 | .node _ c kids _,r=>.node k c kids r
 | .nil,_=>.nil
theorem Rw (P:Nat)(m:Bool)(last:Option Am)(k:Nat)(xs:List Ab):Gx (P+2) m last (k+1) xs =
  match G2 m last xs with
  | none=>none
  | some (key,ys)=>match Gx (P+2) false none 1 ys with
   | none=>none
   | some (f,zs)=>match Gx (P+1) m key k zs with
    | none=>none
    | some (r,us)=>some (f.put key r,us):=by
 rw[Gx]
 cases hk:G2 m last xs with
 | none=>rfl
 | some p=>
  obtain⟨key,ys⟩:=p;simp only;rw[Gx];simp only[G2,Vl]
  cases ys with
  | nil=>rfl
  | cons c ys=>
   simp only
   cases hp:pl c with
   | false=>rfl
   | true=>
    simp only[Vw,Vl]
    cases hn:decide (0<c.fN) with
    | true=>
     simp only[Vq]
     cases hq:Gx (P+1) (decide (c.fKind=6)) none c.fN.toNat ys with
     | none=>rfl
     | some q=>
      obtain⟨kids,zs⟩:=q;simp only[Gx]
      cases hr:Gx (P+1) m key k zs with
      | none=>rfl
      | some q=>obtain⟨a,b⟩:=q;rfl
    | false=>
     simp only[Vl,Gx]
     cases hr:Gx (P+1) m key k ys with
     | none=>rfl
     | some q=>obtain⟨a,b⟩:=q;rfl
end Go.Proofs.YtfbmdidnlhifjaaGreatDoor
