/-
  Texts of the proof, put together: WKd, PKe, WKe, PKf, WKf, OkKvReplays, LhA, LhB, LvA, LvB, LvC, LvD, LvE, LvF, LvG, LvH, LvI, LvJ, LvK, LvL, LvM, LvN, LvO, LvP, LsA, LrA, LdA, LdB, LdC, LdD, LdE, LdF, LdG, LdH, LdI, LdJ.
-/
import Derived.Test.YtjfnokmpfekniaaGreatDoorKP3
import GoSem.ClaimData
namespace Go.Proofs.YtjfnokmpfekniaaGreatDoor.Q
open Go Go.RowKit
set_option linter.unusedVariables false
set_option linter.unusedSimpArgs false
set_option maxRecDepth 100000
set_option maxHeartbeats 4000000
theorem Z9:∃inf,Tryz.prog.info? 50=some inf∧inf.zero=some (.agg #[(.string ⟨#[]⟩),(.bool false),(.slice none 0 0),(.int .i64 0)])∧inf.size=4∧inf.bytes=56:=by
  have key:(Tryz.prog.info? 50).map (λi=>(i.zero,i.size,i.bytes))=some (some (.agg #[(.string ⟨#[]⟩),(.bool false),(.slice none 0 0),(.int .i64 0)]),4,56):=by kernel_rfl
  obtain⟨inf,h1,h2⟩:=Option.map_eq_some_iff.1 key;simp only[Prod.mk.injEq] at h2;exact⟨inf,h1,h2.1,h2.2.1,h2.2.2⟩
theorem Nj {n:Nat}{c:Cx}{l:Fr}{H:List Ent}{d:Option Nat}{ty:TypeId}{pos:String}{af:Array Edge}{g:Option (Nat×Bool)}:Bb Tryz.prog n c l H { dst:=d,op:=.build 50 #[],type:=ty,pos:=pos,after:=af,guard:=g } (BC [rS ([]:Ag),rB false,rv (.slice none 0 0),Am 0]):=λa w Z ha _=>by
  have hb:Tryz.prog.built 50 []=some #[(.string ⟨#[]⟩),(.bool false),((.slice none 0 0)),(.int .i64 0)]:=by
    rw[P7];simp[Instr.fill,Value.cells]
  refine⟨.agg #[(.string ⟨#[]⟩),(.bool false),((.slice none 0 0)),(.int .i64 0)],⟨[(.string ⟨#[]⟩),(.bool false),((.slice none 0 0)),(.int .i64 0)],rfl,rfl,rfl,rfl,rfl,trivial⟩,?_⟩;have:=run_build w 50 #[] _ (by simpa using hb);simp[execOp,this]
theorem Yl (F:Nat)(c:Ae)(r:Ag×Int)(h:QJ F c=some r):Fn Tryz.prog GE 45 [BC (Ai c)] [] (λR H=>R=C2 [rS r.1,Am r.2]∧H=[]):=by
 refine enter (n:=32) Tryz.func45 rfl Tryz.ntmps45 rfl (λw Z=>?_);unfold QJ at h;refine Ah (Ej rfl rfl (λb1=>?_));refine wv (r:=rS ([]:Ag)) (Aw rfl) (wa rfl (Bx (wv (r:=rS ([49]:Ag)) (Aw rfl) (wv (r:=rS ([]:Ag)) (Aw rfl) (Aq (Ao (Ah (vF E1 rfl GW (vL 0 PM rfl (wv (Cj rfl) (Aq (cz h rfl (λc2 h3=>?_) (λc2 hd=>?_)))))))))))))
 ·refine Ah (vF E1 rfl CS (vL 0 G5 rfl (ob h3 λr4 e6 h5=>Gb Tryz.call65 (Ty F c.fValue r4 e6) rfl (wm rfl (wv (AF rfl rfl) (wv (AF rfl rfl) (wa rfl (wa rfl (Aq (Ao (Ah (wm rfl (wv (Dj rfl rfl) (Aq (cz h5 rfl (λc7 h8=>?_) (λc7 h9=>?_))))))))))))))))
  ·refine Ah (wm rfl (wv (r:=rS ([]:Ag)) (Aw rfl) (wa rfl (Aq (Ay (Ac (Ac ?_)))))));obtain rfl:=Az h8;exact Ax (EB Tryz.results45 (AL rfl) (AL rfl)) (sS sN) ⟨rfl,rfl⟩
  ·refine A2 (AP (An (wm rfl (wv (r:=rS ([48]:Ag)) (Aw rfl) (wa rfl (Aq (Ao (ck h9 λhe hf=>ob hf λha hg hh=>CM [1,4,5] [⟨[],rP b1 0,0⟩,⟨[0],rS c.fKey,1⟩,⟨[],rS ([48]:Ag),0⟩,⟨[],rS r4.1,0⟩,⟨[],rP b1 3,0⟩,⟨[4],Am c.fIfVersion,1⟩,⟨[5],rS (Lib.itoa c.fIfVersion),0⟩,⟨[1,2,3,6],AU 1 (AE eS ([c.fKey,([48]:Ag),r4.1,Lib.itoa c.fIfVersion]:List Ag)),0⟩,⟨[7],C2 [rS ha.1,Am ha.2],0⟩,⟨[8],rS ha.1,0⟩,⟨[8],Am ha.2,0⟩,⟨[9],rS ha.1,0⟩,⟨[10],Am ha.2,0⟩] [2,3] ?_ ?_))))))))
   ·refine oq (A5 E1 rfl D1 rfl rfl) (of (AT (i:=0) Eb rfl rfl rfl) (oq (Al rfl) (oq (Al rfl) (oq (A5 E1 rfl CD rfl rfl) (of (AT (i:=0) Du rfl rfl rfl) (ET rfl (λH=>IB (rs:=[Am c.fIfVersion]) (r:=rS (Lib.itoa c.fIfVersion)) Tryz.call67 rfl (KR c.fIfVersion he) rfl) ?_))))));refine ET rfl (λH=>EO (ys:=([c.fKey,([48]:Ag),r4.1,Lib.itoa c.fIfVersion]:List Ag)) (enc:=eS) (css:=[[rS c.fKey],[rS ([48]:Ag)],[rS r4.1],[rS (Lib.itoa c.fIfVersion)]]) (xs:=[.tmp 22,.tmp 23,.tmp 24,.tmp 27]) D2 D1 ZY rfl rfl rfl ⟨GR.one rfl (Up.refl _),GR.one rfl (Up.refl _),GR.one rfl (Up.refl _),GR.one rfl (Up.refl _),trivial⟩ rfl Ih rfl rfl) ?_;refine ET rfl (λH=>KD Tryz.call66 (SZ F ([c.fKey,([48]:Ag),r4.1,Lib.itoa c.fIfVersion]:List Ag) ha hg) rfl) ?_;refine oq (AF rfl rfl) (oq (AF rfl rfl) (oq (Aw rfl) (oq (Aw rfl) ?_)));exact Ci
   refine AP (Ay ?_);obtain rfl:=Az hh;exact Ax (EB Tryz.results45 (AL rfl) (AL rfl)) (sS sN) ⟨rfl,rfl⟩
 ·refine A2 (AP (Ao (ck hd λg16 hi=>ob hi λhb hj hk=>CM [1,4,5] [⟨[],rP b1 0,0⟩,⟨[0],rS c.fKey,1⟩,⟨[],rS ([49]:Ag),0⟩,⟨[],rS ([]:Ag),0⟩,⟨[],rP b1 3,0⟩,⟨[4],Am c.fIfVersion,1⟩,⟨[5],rS (Lib.itoa c.fIfVersion),0⟩,⟨[1,2,3,6],AU 1 (AE eS ([c.fKey,([49]:Ag),([]:Ag),Lib.itoa c.fIfVersion]:List Ag)),0⟩,⟨[7],C2 [rS hb.1,Am hb.2],0⟩,⟨[8],rS hb.1,0⟩,⟨[8],Am hb.2,0⟩,⟨[9],rS hb.1,0⟩,⟨[10],Am hb.2,0⟩] [2,3] ?_ ?_)))
  ·refine oq (A5 E1 rfl D1 rfl rfl) (of (AT (i:=0) Eb rfl rfl rfl) (oq (Al rfl) (oq (Al rfl) (oq (A5 E1 rfl CD rfl rfl) (of (AT (i:=0) Du rfl rfl rfl) (ET rfl (λH=>IB (rs:=[Am c.fIfVersion]) (r:=rS (Lib.itoa c.fIfVersion)) Tryz.call67 rfl (KR c.fIfVersion g16) rfl) ?_))))));refine ET rfl (λH=>EO (ys:=([c.fKey,([49]:Ag),([]:Ag),Lib.itoa c.fIfVersion]:List Ag)) (enc:=eS) (css:=[[rS c.fKey],[rS ([49]:Ag)],[rS ([]:Ag)],[rS (Lib.itoa c.fIfVersion)]]) (xs:=[.tmp 22,.tmp 23,.tmp 24,.tmp 27]) D2 D1 ZY rfl rfl rfl ⟨GR.one rfl (Up.refl _),GR.one rfl (Up.refl _),GR.one rfl (Up.refl _),GR.one rfl (Up.refl _),trivial⟩ rfl Ih rfl rfl) ?_;refine ET rfl (λH=>KD Tryz.call66 (SZ F ([c.fKey,([49]:Ag),([]:Ag),Lib.itoa c.fIfVersion]:List Ag) hb hj) rfl) ?_;refine oq (AF rfl rfl) (oq (AF rfl rfl) (oq (Aw rfl) (oq (Aw rfl) ?_)));exact Ci
  refine AP (Ay ?_);obtain rfl:=Az hk;exact Ax (EB Tryz.results45 (AL rfl) (AL rfl)) (sS sN) ⟨rfl,rfl⟩
theorem OB (F:Nat)(l:(List Ae))(r:Ag×Int)(h:Jq F l=some r):Fn Tryz.prog GE 23 [AU 4 (AE Ai l)] [] (λR H=>R=C2 [rS r.1,Am r.2]∧H=[]):=by
 refine enter (n:=38) Tryz.func23 rfl Tryz.ntmps23 rfl (λw Z=>?_);unfold Jq at h;refine Ah (wv (r:=rS ([]:Ag)) (Aw rfl) (wa rfl (Aq (Ao (Ah (wm rfl (ob h λr1 e3 h2=>Gb Tryz.call35 (Nu F l r1 e3) rfl (wa rfl (Bx (wm rfl (wv (Dj rfl rfl) (Aq (cz h2 rfl (λc4 h5=>?_) (λc4 h6=>?_))))))))))))))
 ·refine Ah (wm rfl (wv (r:=rS ([]:Ag)) (Aw rfl) (wa rfl (Aq (Ay (Ac ?_))))));obtain rfl:=Az h5;exact Ax (EB US (AL rfl) (AL rfl)) sN ⟨rfl,rfl⟩
 ·refine A2 (AP (Ah (wa rfl (Aq (Ao (Ah (wm rfl (wv (B8 (ys:=l) (enc:=Ai) Hi rfl) (wv (r:=Am 0) (Al rfl) (Aq (AK (WC.nilrow (e:=9) (sz:=1) (ob h6 λhl hm hj=>B0 (S:=Nat×((List Ag)×Int)×(Value)) (V:=((List Ag))×(Value)) 0 (λσ=>BE (λσ=>Dk F l σ.1 σ.2) σ.1 σ.2.1=some hl) (λσ=>[(2,rS ([]:Ag)),(3,Am 0),(5,rv σ.2.2),(15,AU 4 (AE Ai l)),(16,Am (l.length:Int)),(17,Am σ.2.1.2)]) (λσ=>[.row σ.2.2 9 1 (AE eS σ.2.1.1)]) (λσ=>σ.1) (F,(([]:List Ag),0),(.slice none 0 0         )) hm (AD.c rfl (AD.c5 rfl rfl rfl rfl rfl AD.nil)) (sC sN) (λσ=>GK F σ.1=some r) (λσ=>[(2,rS ([]:Ag)),(3,Am 0),(5,rv σ.2)]) (λσ=>[.row σ.2 9 1 (AE eS σ.1)]) ?_ ?_)))))))))))))
  ·rintro⟨hE,⟨hb,ha⟩,he⟩ hn;refine BY (l':=[(2,rS ([]:Ag)),(3,Am 0),(5,rv he),(15,AU 4 (AE Ai l)),(16,Am (l.length:Int)),(17,Am ha)]) (H':=[.row he 9 1 (AE eS hb)]) rfl rfl ?_;obtain⟨ho,rfl,t70,hf,hi⟩:=CO hn;replace hf:Dk F l hb ha=some t70:=hf;unfold Dk at hf;refine Ah (wv (Dv rfl rfl) (Aq (Ao (cz hf rfl (λc76 hp=>?_) (λc76 hq=>?_)))))
   ·refine A2 (AP (Ao (AK (Ah (ck hp λhr hs=>wv (BB (enc:=Ai) (ys:=l) Hi Dt rfl rfl hr) (wv (EF Kk Dt rfl rfl rfl) (BN (cs:=[rS ([]:Ag),rB false,rv (.slice none 0 0),Am 0]) Lh rfl rfl (λht=>?_))))))));refine Bh (i:=0) Dt rfl rfl rfl (BK.c rfl) rfl rfl (cs':=[rS ((Ap l ha).fKey),rB ((Ap l ha).fDelete),AU 4 (AE Ab ((Ap l ha).fValue)),Am ((Ap l ha).fIfVersion)]) rfl (H':=[.blk ht (Ai (Ap l ha)) 50,.row he 9 1 (AE eS hb)]) rfl (Bx (wv (BH (i:=0) Kk Dt rfl rfl rfl rfl) (ob hs λhd hu hw=>Gb Tryz.call45 (Yl F (Ap l ha) hd hu) rfl (wm rfl (wv (AF rfl rfl) (wv (AF rfl rfl) (wa rfl (wa rfl (Aq (Ao (Ah (wm rfl (wv (Dj rfl rfl) (Aq (cz hw rfl (λhx hy=>?_) (λhx hz=>?_))))))))))))))))
    ·refine Ah (wm rfl (wv (r:=rS ([]:Ag)) (Aw rfl) (wa rfl (Aq (Ay (Ac (A0 (Ac (Ac (AX ?_))))))))));have h0:=B2 hy hi hj;refine A0 (Ac ?_);obtain rfl:=Az h0;exact Ax (EB US (AL rfl) (AL rfl)) (sS (sS sN)) ⟨rfl,rfl⟩
    ·refine A2 (AP (An (wm rfl (wm rfl (AW (ys:=([hd.1]:List Ag)) (enc:=eS) (css:=[[rS hd.1]]) (xs:=[.tmp 30]) D2 D1 ZY rfl rfl rfl ⟨GR.one rfl (Up.refl _),trivial⟩ rfl Ih rfl rfl rfl (λhG=>?_))))));refine ck hz λh1 h3=>Exists.elim Wz λinf hinf=>Cb (xs:=hb) (ys:=([hd.1]:List Ag)) (enc:=eS) (i:=2) D2 hinf.1 hinf.2.1 hinf.2.2.1 hinf.2.2.2 rfl rfl rfl rfl rfl (LD.w (i:=0) rfl rfl) Ih Se h1 rfl (λh4=>?_);refine wa rfl (At (AJ (AP (An (ck h3 λh7 h8=>wv (BL rfl rfl h7) (wm rfl (At ?_)))))));have h9:=B6 h8 hi;exact A4 (AG (ho,(hb++([hd.1]:List Ag),ha+1),h4) ⟨h9,Ab1 _⟩ (AD.c rfl (AD.c5 rfl rfl rfl rfl rfl AD.nil)) (sC (sS (sS sN))))
   ·refine B1 (A3 ?_);have hA:=Cm hq hi hj;exact A3 (Bj (AG (hb,he) hA (AD.c rfl (AD.c rfl (AD.c rfl AD.nil))) (sC sN)))
  ·rintro⟨hg,hk⟩ hh;refine CU (l':=[(2,rS ([]:Ag)),(3,Am 0),(5,rv hk)]) (H':=[.row hk 9 1 (AE eS hg)]) rfl rfl ?_;replace hh:GK F hg=some r:=hh;unfold GK at hh;refine Be (AP (Ah (wm rfl (WL.freeze (i:=0) rfl (WL.up (d:=34) (r:=AU 1 (AE eS hg)) rfl (Up.fact (i:=0) rfl) (ob hh λhB hC hD=>Gb Tryz.call46 (Y1 F hg hB hC) rfl (wv (AF rfl rfl) (wv (AF rfl rfl) (wa rfl (wa rfl (Aq (Ay ?_))))))))))));obtain rfl:=Az hD;exact Ax (EB US (AL rfl) (AL rfl)) (sS sN) ⟨rfl,rfl⟩
theorem Uk (F:Nat)(s:Ag)(r:Ae×Bool)(h:KM F s=some r):Fn Tryz.prog GE 52 [rS s] [] (λR H=>R=C2 [BC (Ai r.1),rB r.2]∧H=[]):=by
 refine enter (n:=72) Tryz.func52 rfl Tryz.ntmps52 rfl (λw Z=>?_);unfold KM at h;refine Ah (BN (cs:=[rS ([]:Ag),rB false,rv (.slice none 0 0),Am 0]) Lh rfl rfl (λb1=>?_));refine wa rfl (Bx (wm rfl (ob h λr2 e4 h3=>Gb Tryz.call72 (U1 F s r2 e4) rfl (wm rfl (wv (AF rfl rfl) (wv (AF rfl rfl) (wa rfl (wa rfl (Aq (Ao (ck h3 λg5 h6=>AO [(2,rP b1 0),(4,AU 1 (AE eS r2.1)),(32,rB ((!decide (r2.2=0))||((!decide ((r2.1.length:Int)=4))||((!decide ((Ap r2.1 1)=([48]:Ag)))&&(!decide ((Ap r2.1 1)=([49]:Ag)))))))] [.blk b1 [rS ([]:Ag),rB false,rv (.slice none 0 0),Am 0] 50] ?_ ?_)))))))))))
 ·refine An (wm rfl (wv (Dj rfl rfl) (wm rfl (AY (!decide (r2.2=0)) (λc7=>?_) (λc7=>?_)))))
  ·refine wf c7 (wf c7 (wf c7 (wv (r:=rB true) (A7 rfl c7 rfl) (wm rfl (wz rfl rfl (wz rfl rfl (wz rfl rfl (wz rfl rfl (wz rfl rfl (wu (wu (wu (wu (wz rfl rfl (wv (r:=rB true) (A7 (b:=true) rfl rfl rfl) (At ?_))))))))))))))));exact D3 c7
  ·refine wo c7 (wm rfl (wo c7 (wv (B8 (ys:=r2.1) (enc:=eS) D2 rfl) (wo c7 (wv (Dj rfl rfl) (Lf rfl c7 rfl (wm rfl (AY (!decide ((r2.1.length:Int)=4)) (λc8=>?_) (λc8=>?_)))))))))
   ·refine wf c8 (wf c8 (wf c8 (wf c8 (wf c8 (wu (wu (wu (wu (wf c8 (wv (r:=rB true) (A7 rfl c8 rfl) (At ?_)))))))))));exact D3 (And.intro c7 c8)
   ·refine wo c8 (wm rfl (wo c8 (wv (BB (enc:=eS) (ys:=r2.1) D2 D1 rfl rfl (II (II g5 c7) c8)) (wo c8 (wv (Bu Eb rfl rfl) (wo c8 (wv (KE rfl rfl) (wo c8 (wm rfl (AY (!decide ((Ap r2.1 1)=([48]:Ag))) (λc9=>?_) (λc9=>?_)))))))))))
    ·refine wo c9 (wm rfl (wo c9 (wv (BB (enc:=eS) (ys:=r2.1) D2 D1 rfl rfl (II (II g5 c7) c8)) (wo c9 (wv (Bu Eb rfl rfl) (wo c9 (wv (KE rfl rfl) (wo c8 (Kf rfl c9 rfl (Lf rfl c8 rfl (At ?_)))))))))));exact D3 (And.intro c7 (And.intro c8 c9))
    ·refine wf c9 (wf c9 (wf c9 (wf c9 (wo c8 (wv (r:=rB false) (AM rfl c9 rfl) (Lf rfl c8 rfl (At ?_)))))));exact D3 (And.intro c7 (And.intro c8 c9))
 refine cz h6 rfl (λhd he=>?_) (λhd hf=>?_)
 ·refine Ah (wv (r:=BC [rS ([]:Ag),rB false,rv (.slice none 0 0),Am 0]) (Nj ) (Bh (i:=0) Dt rfl rfl rfl (BK.c rfl) rfl rfl (cs':=[rS ([]:Ag),rB false,rv (.slice none 0 0),Am 0]) rfl (H':=[.blk b1 [rS ([]:Ag),rB false,rv (.slice none 0 0),Am 0] 50]) rfl (wa rfl (Aq (Ay (Ac (WK.upBlk (i:=0) (cs':=[rS ([]:Ag),rB false,AU 4 (AE Ab ([]:List Aa)),Am 0]) rfl ⟨Up.refl _,Up.refl _,Up.le (Iw.nil _),Up.refl _,trivial⟩ ?_)))))));obtain rfl:=Az he;exact Ax (EB X4 (Gh (i:=0) Kk Dt rfl rfl rfl) (AL rfl)) (sS sN) ⟨rfl,rfl⟩
 ·refine A2 (AP (Ah (wm rfl (ck hf λhg hh=>wv (BB (enc:=eS) (ys:=r2.1) D2 D1 rfl rfl hg) (wv (Bu Eb rfl rfl) (ck hh λg15 hi=>IZ (rs:=[rS (Ap r2.1 3)]) (r:=C2 [Am (Bm (Ap r2.1 3)),Am (BD (Ap r2.1 3))]) Tryz.call73 rfl (SE (Ap r2.1 3) g15) rfl rfl (wm rfl (wv (AF rfl rfl) (wv (AF rfl rfl) (wa rfl (wa rfl (Aq (Ao (Ah (wm rfl (wv (Dj rfl rfl) (Aq (cz hi rfl (λhj hk=>?_) (λhj hl=>?_)))))))))))))))))))
  ·refine Ah (wv (r:=BC [rS ([]:Ag),rB false,rv (.slice none 0 0),Am 0]) (Nj ) (Bh (i:=0) Dt rfl rfl rfl (BK.c rfl) rfl rfl (cs':=[rS ([]:Ag),rB false,rv (.slice none 0 0),Am 0]) rfl (H':=[.blk b1 [rS ([]:Ag),rB false,rv (.slice none 0 0),Am 0] 50]) rfl (wa rfl (Aq (Ay (Ac (WK.upBlk (i:=0) (cs':=[rS ([]:Ag),rB false,AU 4 (AE Ab ([]:List Aa)),Am 0]) rfl ⟨Up.refl _,Up.refl _,Up.le (Iw.nil _),Up.refl _,trivial⟩ ?_)))))));obtain rfl:=Az hk;exact Ax (EB X4 (Gh (i:=0) Kk Dt rfl rfl rfl) (AL rfl)) (sS sN) ⟨rfl,rfl⟩
  ·refine A2 (AP (Ao (ck hl λhm hn=>ck hn λho hp=>GX 10 [2,4,6] [⟨[],AU 1 (AE eS r2.1),none,none,none⟩,⟨[0],HZ [rS (Ap r2.1 0)],none,none,none⟩,⟨[1],rS (Ap r2.1 0),none,none,none⟩,⟨[],AU 1 (AE eS r2.1),none,none,none⟩,⟨[3],HZ [rS (Ap r2.1 1)],none,none,none⟩,⟨[4],rS (Ap r2.1 1),none,none,none⟩,⟨[5],rB (decide ((Ap r2.1 1)=([49]:Ag))),none,none,none⟩,⟨[],Am (Bm (Ap r2.1 3)),none,none,none⟩,⟨[2,6,7],BC [rS (Ap r2.1 0),rB (decide ((Ap r2.1 1)=([49]:Ag))),rv (.slice none 0 0),Am (Bm (Ap r2.1 3))],none,none,none⟩,⟨[],rv undef,some ([rS ([]:Ag),rB false,rv (.slice none 0 0),Am 0],50),none,none⟩] ?_ (λβ=>?_))))
   ·refine Gc (Al rfl) (Gc (BB (enc:=eS) (ys:=r2.1) D2 D1 rfl rfl hm) (Gc (Bu Eb rfl rfl) (Gc (Al rfl) (Gc (BB (enc:=eS) (ys:=r2.1) D2 D1 rfl rfl ho) (Gc (Bu Eb rfl rfl) (Gc (H9 rfl rfl) (Gc (Al rfl) (Gc (Ir rfl rfl rfl rfl rfl rfl) (oal (Aa9 (cs:=[rS ([]:Ag),rB false,rv (.slice none 0 0),Am 0]) Lh rfl) ?_)))))))));exact YN
   refine HU (H1:=[.blk b1 [rS ([]:Ag),rB false,rv (.slice none 0 0),Am 0] 50,.blk (β 9) [rS ([]:Ag),rB false,rv (.slice none 0 0),Am 0] 50]) [44,45,46,47,48,49,50,51,52,7,2,4,6] ?_;generalize β 9=ha;refine Bh (i:=1) Dt rfl rfl rfl (BK.c rfl) rfl rfl (cs':=[rS (Ap r2.1 0),rB (decide ((Ap r2.1 1)=([49]:Ag))),rv (.slice none 0 0),Am (Bm (Ap r2.1 3))]) rfl (H':=[.blk b1 [rS ([]:Ag),rB false,rv (.slice none 0 0),Am 0] 50,.blk ha [rS (Ap r2.1 0),rB (decide ((Ap r2.1 1)=([49]:Ag))),rv (.slice none 0 0),Am (Bm (Ap r2.1 3))] 50]) rfl (Aq (Ao (Ah (vF E1 rfl GW (vL 1 PM rfl (Aq (cz hp rfl (λhq hr=>?_) (λhq hs=>?_))))))))
   ·refine Ao (ck hr λht hu=>G7 (H1:=[.blk b1 [rS (Ap r2.1 0),rB (decide ((Ap r2.1 1)=([49]:Ag))),rv (.slice none 0 0),Am (Bm (Ap r2.1 3))] 50,.blk ha [rS (Ap r2.1 0),rB (decide ((Ap r2.1 1)=([49]:Ag))),rv (.slice none 0 0),Am (Bm (Ap r2.1 3))] 50]) [2,4,7] [⟨[],BC [rS (Ap r2.1 0),rB (decide ((Ap r2.1 1)=([49]:Ag))),rv (.slice none 0 0),Am (Bm (Ap r2.1 3))],1⟩,⟨[],AU 1 (AE eS r2.1),0⟩,⟨[1],HZ [rS (Ap r2.1 2)],0⟩,⟨[2],rS (Ap r2.1 2),0⟩,⟨[3],rB (decide ((Ap r2.1 2)=([]:Ag))),0⟩,⟨[0],rv undef,2⟩,⟨[4],rB (decide ((Ap r2.1 2)=([]:Ag))),0⟩] (rle [(6,_),(2,[.blk b1 [rS (Ap r2.1 0),rB (decide ((Ap r2.1 1)=([49]:Ag))),rv (.slice none 0 0),Am (Bm (Ap r2.1 3))] 50,.blk ha [rS (Ap r2.1 0),rB (decide ((Ap r2.1 1)=([49]:Ag))),rv (.slice none 0 0),Am (Bm (Ap r2.1 3))] 50])]) [3,2] ?_ ?_)
    ·refine of (BH (i:=1) Kk Dt rfl rfl rfl rfl) (oq (Al rfl) (oq (BB (enc:=eS) (ys:=r2.1) D2 D1 rfl rfl ht) (oq (Bu Eb rfl rfl) (oq (H9 rfl rfl) (JC rfl (Qw (Ds (i:=0) Dt rfl rfl rfl (BK.c rfl) rfl rfl (cs':=[rS (Ap r2.1 0),rB (decide ((Ap r2.1 1)=([49]:Ag))),rv (.slice none 0 0),Am (Bm (Ap r2.1 3))]) rfl (H':=[.blk b1 [rS (Ap r2.1 0),rB (decide ((Ap r2.1 1)=([49]:Ag))),rv (.slice none 0 0),Am (Bm (Ap r2.1 3))] 50,.blk ha [rS (Ap r2.1 0),rB (decide ((Ap r2.1 1)=([49]:Ag))),rv (.slice none 0 0),Am (Bm (Ap r2.1 3))] 50]) rfl)) ?_)))));refine oq (Aw rfl) ?_;exact Ci
    refine AP (Ay (Ac (WK.upBlk (i:=0) (cs':=[rS (Ap r2.1 0),rB (decide ((Ap r2.1 1)=([49]:Ag))),AU 4 (AE Ab ([]:List Aa)),Am (Bm (Ap r2.1 3))]) rfl ⟨Up.refl _,Up.refl _,Up.le (Iw.nil _),Up.refl _,trivial⟩ ?_)));obtain rfl:=Az hu;exact Ax (EB X4 (Gh (i:=0) Kk Dt rfl rfl rfl) (AL rfl)) (sS (sS sN)) ⟨rfl,rfl⟩
   ·refine A2 (AP (Ah (wm rfl (ck hs λhw hx=>wv (BB (enc:=eS) (ys:=r2.1) D2 D1 rfl rfl hw) (wv (Bu Eb rfl rfl) (ob hx λhb hy hz=>Gb Tryz.call74 (Tz F (Ap r2.1 2) hb hy) rfl (wm rfl (wv (AF rfl rfl) (wv (AF rfl rfl) (wa rfl (wa rfl (Bx (wm rfl (vF E1 rfl CS (B5 (i:=1) CS rfl rfl (Cu rfl) rfl rfl (cs':=[rS (Ap r2.1 0),rB (decide ((Ap r2.1 1)=([49]:Ag))),AU 4 (AE Ab hb.1),Am (Bm (Ap r2.1 3))]) rfl (H':=[.blk b1 [rS ([]:Ag),rB false,rv (.slice none 0 0),Am 0] 50,.blk ha [rS (Ap r2.1 0),rB (decide ((Ap r2.1 1)=([49]:Ag))),AU 4 (AE Ab hb.1),Am (Bm (Ap r2.1 3))] 50]) rfl (Bx (wv (BH (i:=1) Kk Dt rfl rfl rfl rfl) (wm rfl (wv (BT rfl rfl) (Bh (i:=0) Dt rfl rfl rfl (BK.c rfl) rfl rfl (cs':=[rS (Ap r2.1 0),rB (decide ((Ap r2.1 1)=([49]:Ag))),AU 4 (AE Ab hb.1),Am (Bm (Ap r2.1 3))]) rfl (H':=[.blk b1 [rS (Ap r2.1 0),rB (decide ((Ap r2.1 1)=([49]:Ag))),AU 4 (AE Ab hb.1),Am (Bm (Ap r2.1 3))] 50,.blk ha [rS (Ap r2.1 0),rB (decide ((Ap r2.1 1)=([49]:Ag))),AU 4 (AE Ab hb.1),Am (Bm (Ap r2.1 3))] 50]) rfl (wa rfl ?_)))))))))))))))))))));refine Aq (Ay ?_);obtain rfl:=Az hz;exact Ax (EB X4 (Gh (i:=0) Kk Dt rfl rfl rfl) (AL rfl)) (sS (sS sN)) ⟨rfl,rfl⟩
theorem Un (F:Nat)(rc:Ag)(r:(List Ae)×Int)(h:KP F rc=some r):Fn Tryz.prog GE 25 [rS rc] [] (λR H=>R=C2 [AU 4 (AE Ai r.1),Am r.2]∧H=[]):=by
 refine enter (n:=53) Tryz.func25 rfl Tryz.ntmps25 rfl (λw Z=>?_);unfold KP at h;refine Ah (wa rfl (wa rfl (Bx (wm rfl (ob h λr1 e3 h2=>Gb Tryz.call51 (WD F rc r1 e3) rfl (wm rfl (wv (AF rfl rfl) (wv (AF rfl rfl) (wa rfl (wa rfl (Aq (Ao (Ah (wm rfl (wm rfl (wv (Bv C3 rfl) (wv (Dj rfl rfl) (Aq (cz h2 rfl (λc4 h5=>?_) (λc4 h6=>?_))))))))))))))))))))
 ·refine Ah (wa rfl (wa rfl (Aq (Ay (Ac (WK.up (d:=2) (r:=AU 4 (AE Ai ([]:List Ae))) rfl (Up.le (Iw.nil _)) ?_))))));obtain rfl:=Az h5;exact Ax (EB X5 (AL rfl) (AL rfl)) sN ⟨rfl,rfl⟩
 ·refine A2 (AP (Ah (wa rfl (Aq (Ao (Ah (wm rfl (wv (B8 (ys:=r1.1) (enc:=eS) D2 rfl) (wv (r:=Am 0) (Al rfl) (Aq (AK (WC.nilrow (e:=50) (sz:=4) (ob h6 λhn ho hm=>B0 (S:=Nat×((List Ae)×Int)×(Value)) (V:=((List Ae))×(Value)) 0 (λσ=>BE (λσ=>Dl F r1 σ.1 σ.2) σ.1 σ.2.1=some hn) (λσ=>[(0,rS rc),(2,rv (.slice none 0 0)),(3,Am 0),(6,rv σ.2.2),(22,AU 1 (AE eS r1.1)),(23,Am (r1.1.length:Int)),(24,Am σ.2.1.2)]) (λσ=>[.row σ.2.2 50 4 (AE Ai σ.2.1.1)]) (λσ=>σ.1) (F,(([]:List Ae),0),(.slice none 0 0                                                  )) ho (AD.c rfl (AD.c rfl (AD.c5 rfl rfl rfl rfl rfl AD.nil))) (sC sN) (λσ=>GL F rc σ.1=some r) (λσ=>[(0,rS rc),(2,rv (.slice none 0 0)),(3,Am 0),(6,rv σ.2)]) (λσ=>[.row σ.2 50 4 (AE Ai σ.1)]) ?_ ?_)))))))))))))
  ·rintro⟨hJ,⟨hd,hf⟩,hg⟩ hp;refine BY (l':=[(0,rS rc),(2,rv (.slice none 0 0)),(3,Am 0),(6,rv hg),(22,AU 1 (AE eS r1.1)),(23,Am (r1.1.length:Int)),(24,Am hf)]) (H':=[.row hg 50 4 (AE Ai hd)]) rfl rfl ?_;obtain⟨hq,rfl,t70,hh,hl⟩:=CO hp;replace hh:Dl F r1 hd hf=some t70:=hh;unfold Dl at hh;refine Ah (wv (Dv rfl rfl) (Aq (Ao (cz hh rfl (λc76 hr=>?_) (λc76 hs=>?_)))))
   ·refine A2 (AP (Ao (AK (Ah (ck hr λht hu=>wv (BB (enc:=eS) (ys:=r1.1) D2 D1 rfl rfl ht) (wv (Bu Eb rfl rfl) (wa rfl (Bx (wm rfl (ob hu λha hw hx=>Gb Tryz.call52 (Uk F (Ap r1.1 hf) ha hw) rfl (wm rfl (wv (AF rfl rfl) (wv (AF rfl rfl) (BN (cs:=[rS ([]:Ag),rB false,rv (.slice none 0 0),Am 0]) Lh rfl rfl (λhy=>?_)))))))))))))));refine Bh (i:=0) Dt rfl rfl rfl (BK.c rfl) rfl rfl (cs':=[rS ha.1.fKey,rB ha.1.fDelete,AU 4 (AE Ab ha.1.fValue),Am ha.1.fIfVersion]) rfl (H':=[.blk hy (Ai ha.1) 50,.row hg 50 4 (AE Ai hd)]) rfl (wa rfl (Aq (Ao (Ah (wm rfl (wv (Cj rfl) (Aq (cz hx rfl (λhz h0=>?_) (λhz h1=>?_)))))))))
    ·refine Ah (wa rfl (wa rfl (Aq (Ay (Ac (A0 (Ac (Ac (AX ?_)))))))));have h3:=B2 h0 hl hm;refine A0 (Ac (WK.up (d:=2) (r:=AU 4 (AE Ai ([]:List Ae))) rfl (Up.le (Iw.nil _)) ?_));obtain rfl:=Az h3;exact Ax (EB X5 (AL rfl) (AL rfl)) (sS (sS sN)) ⟨rfl,rfl⟩
    ·refine A2 (AP (An (wm rfl (wv (BH (i:=0) Kk Dt rfl rfl rfl rfl) (AW (ys:=([ha.1]:List Ae)) (enc:=Ai) (css:=[[rS ha.1.fKey,rB ha.1.fDelete,AU 4 (AE Ab ha.1.fValue),Am ha.1.fIfVersion]]) (xs:=[.tmp 36]) Hi Dt Lh rfl rfl rfl ⟨GR.agg ⟨Up.refl _,Up.refl _,Up.refl _,Up.refl _,trivial⟩,trivial⟩ rfl Ck rfl rfl rfl (λhK=>?_))))));refine ck h1 λh4 h7=>Exists.elim Z9 λinf hinf=>Cb (xs:=hd) (ys:=([ha.1]:List Ae)) (enc:=Ai) (i:=2) Hi hinf.1 hinf.2.1 hinf.2.2.1 hinf.2.2.2 rfl rfl rfl rfl rfl (LD.w (i:=0) rfl rfl) Ck Ml h4 rfl (λh8=>?_);refine wa rfl (At (AJ (AP (An (ck h7 λh9 hA=>wv (BL rfl rfl h9) (wm rfl (At ?_)))))));have hB:=B6 hA hl;exact A4 (AG (hq,(hd++([ha.1]:List Ae),hf+1),h8) ⟨hB,Ab1 _⟩ (AD.c rfl (AD.c rfl (AD.c5 rfl rfl rfl rfl rfl AD.nil))) (sC (sS (sS sN))))
   ·refine B1 (A3 ?_);have hC:=Cm hs hl hm;exact A3 (Bj (AG (hd,hg) hC (AD.c rfl (AD.c rfl (AD.c rfl (AD.c rfl AD.nil)))) (sC sN)))
  ·rintro⟨he,hi⟩ hj;refine CU (l':=[(0,rS rc),(2,rv (.slice none 0 0)),(3,Am 0),(6,rv hi)]) (H':=[.row hi 50 4 (AE Ai he)]) rfl rfl ?_;replace hj:GL F rc he=some r:=hj;unfold GL at hj;refine Be (AP (Ao (Ah (wm rfl (WL.freeze (i:=0) rfl (WL.up (d:=41) (r:=AU 4 (AE Ai he)) rfl (Up.fact (i:=0) rfl) (ob hj λhk hD hE=>Gb Tryz.call23 (OB F he hk hD) rfl (wm rfl (wv (AF rfl rfl) (wv (AF rfl rfl) (wa rfl (wa rfl (Aq (AO [(6,rv hi),(51,rB ((!decide (hk.2=0))||(!decide (hk.1=rc))))] [.fact hi (AU 4 (AE Ai he))] ?_ ?_))))))))))))))
   ·refine An (wm rfl (wv (Dj rfl rfl) (wm rfl (AY (!decide (hk.2=0)) (λhb=>?_) (λhb=>?_)))))
    ·refine wf hb (wf hb (wf hb (wv (r:=rB true) (A7 rfl hb rfl) (At ?_))));exact D3 hb
    ·refine wo hb (wm rfl (wo hb (wm rfl (wo hb (wv (KE rfl rfl) (Lf rfl hb rfl (At ?_)))))));exact D3 hb
   refine cz hE rfl (λhG hH=>?_) (λhG hI=>?_)
   ·refine Ah (wa rfl (wa rfl (Aq (Ay (Ac (WK.up (d:=2) (r:=AU 4 (AE Ai ([]:List Ae))) rfl (Up.le (Iw.nil _)) ?_))))));obtain rfl:=Az hH;exact Ax (EB X5 (AL rfl) (AL rfl)) (sS sN) ⟨rfl,rfl⟩
   ·refine A2 (AP (Ah (wm rfl (wa rfl (wa rfl (Aq (Ay (WK.up (d:=2) (r:=AU 4 (AE Ai he)) rfl (Up.fact (i:=0) rfl) ?_))))))));obtain rfl:=Az hI;exact Ax (EB X5 (AL rfl) (AL rfl)) (sS sN) ⟨rfl,rfl⟩
theorem Yn (F:Nat)(hd:Nat)(ha:Nat)(hb:Nat)(q:AB)(rc:Ag)(r:Int×AB)(h:QK F q rc=some r):Fn Tryz.prog GE 30 [rP hd 0,rS rc] [.blk hd [rv (.map (some ha)),rv (.map (some hb))] 59,.map ha (AH Ad q.fItems),.map hb (AH Ad q.fChanged)] (λR H=>R=Am r.1∧H=[.blk hd [rv (.map (some ha)),rv (.map (some hb))] 59,.map ha (AH Ad r.2.fItems),.map hb (AH Ad r.2.fChanged)]):=by
 refine enter (n:=21) Tryz.func30 rfl Tryz.ntmps30 rfl (λw Z=>?_);unfold QK at h;refine Ah (wa rfl (Aq (Ao (Ah (wm rfl (ob h λr1 e3 h2=>DY (Hr:=[]) UU (KO hd ha hb q r1 e3) rfl (Abo _) rfl ?_))))));rintro _ _ ⟨rfl,rfl⟩;refine wv (Cj rfl) (Aq (cz h2 rfl (λc4 h5=>?_) (λc4 h6=>?_)))
 ·refine Ah (wa rfl (Aq (Ay (Ac ?_))));obtain rfl:=Az h5;exact Ax (Ct Tryz.results30 (AL rfl)) (sC (sC (sC sN))) ⟨rfl,rfl⟩
 ·refine A2 (AP (Ah (wm rfl (ob h6 λr7 e9 h8=>Gb Tryz.call25 (Un F rc r7 e9) rfl (wm rfl (wv (AF rfl rfl) (wv (AF rfl rfl) (wa rfl (wa rfl (Aq (Ao (Ah (wm rfl (wv (Dj rfl rfl) (Aq (cz h8 rfl (λhe hf=>?_) (λhe hg=>?_)))))))))))))))))
  ·refine Ah (wm rfl (wa rfl (Aq (Ay (Ac ?_)))));obtain rfl:=Az hf;exact Ax (Ct Tryz.results30 (AL rfl)) (sC (sC (sC sN))) ⟨rfl,rfl⟩
  ·refine A2 (AP (Ah (wm rfl (wm rfl (ob hg λhh hi hj=>DY (Hr:=[]) Rq (GM F hd ha hb r1.2 r7.1 hh hi) rfl (Abo _) rfl ?_)))));rintro _ _ ⟨rfl,rfl⟩;refine wa rfl (Aq (Ay ?_));obtain rfl:=Az hj;exact Ax (Ct Tryz.results30 (AL rfl)) (sC (sC (sC sN))) ⟨rfl,rfl⟩
end Go.Proofs.YtjfnokmpfekniaaGreatDoor.Q
namespace Go.Proofs.YtjfnokmpfekniaaGreatDoor
open Go
set_option linter.unusedVariables false
end Go.Proofs.YtjfnokmpfekniaaGreatDoor
namespace Go.Proofs.YtjfnokmpfekniaaGreatDoor.Q
open Go Go.RowKit
set_option linter.unusedVariables false
set_option linter.unusedSimpArgs false
set_option maxRecDepth 100000
set_option maxHeartbeats 4000000
theorem Iw.agg {rs qs:List Rp}(h:Xv rs qs):Iw (BC rs) (BC qs):=λZ v ⟨us,e,hu⟩=>⟨us,e,h.all hu⟩
end Go.Proofs.YtjfnokmpfekniaaGreatDoor.Q
namespace Go.Proofs.YtjfnokmpfekniaaGreatDoor
open Go
set_option linter.unusedVariables false
def DD (ha:Int)(hg:(List Af))(hh:Int)(hi:(List Af))(hj:Int)(hk:Int)(hl:Bool)(hb:(List (Ag×Af)))(hd:(List (Ag×Af)))(he:(List (Ag×Af)))(hf:(List (Ag×Af))):Option (Stp (Int×(List (Ag×Af))×(List (Ag×Af))×(List (Ag×Af))×(List (Ag×Af))) (Out (Bool) (Unit))):=
 AR (B7 .i64 (ha+1))<|some (.next (ha+1,he,hf,hb,hd))
def Db (hd:Int)(hb:(List Af)×AB)(ha:Int×AB)(hj:Bool)(hk:Bool)(hl:Bool)(hm:Bool)(he:Bool)(hf:(List (Ag×Af)))(hg:(List (Ag×Af)))(hh:(List (Ag×Af)))(hi:(List (Ag×Af))):Option (Stp (Int×(List (Ag×Af))×(List (Ag×Af))×(List (Ag×Af))×(List (Ag×Af))) (Out (Bool) (Unit))):=
 AV (he) (some (.out (.ret false))) (DD hd hb.1 ha.1 hb.1 ha.1 ha.1 (!decide (ha.1=0)) hf hg hh hi)
def CQ (F:Nat)(l:(List (List Ae)))(hd:Int)(hi:(List (Ag×Af)))(hj:(List (Ag×Af)))(ho:(List (Ag×Af)))(hp:(List (Ag×Af))):Option (Stp (Int×(List (Ag×Af))×(List (Ag×Af))×(List (Ag×Af))×(List (Ag×Af))) (Out (Bool) (Unit))):=
 AV (decide (hd<(l.length:Int))) (Bi (LV F (AB.mk ho hp) ([]:Ag)) λhe=>AR (CG hd (l.length:Int))<|Bi (Gd F he.2 (Ap l hd)) λha=>AV (!decide (ha.1=0)) (Bi (LV F ha.2 ([]:Ag)) λhk=>Bi (JR F he.1 hk.1) λhq=>AV (!hq) (some (.out (.ret false))) (DD hd he.1 ha.1 he.1 ha.1 ha.1 (!decide (ha.1=0)) hk.2.fItems hk.2.fChanged hi hj)) (Bi (Jq F (Ap l hd)) λhl=>AV (decide (hl.2=3)) (Bi (Lu F) λhr=>some (.out (.ret hr))) (AV (!decide (hl.2=0)) (Db hd he ha true true true true true ha.2.fItems ha.2.fChanged hi hj) (Bi (QK F (AB.mk hi hj) hl.1) λhb=>AV (!decide (hb.1=0)) (Db hd he ha (!decide (hb.1=0)) (!decide (hb.1=0)) true true true ha.2.fItems ha.2.fChanged hb.2.fItems hb.2.fChanged) (Bi (LV F ha.2 ([]:Ag)) λhg=>Bi (LV F hb.2 ([]:Ag)) λhh=>Bi (JR F hg.1 hh.1) λhf=>AV (!hf) (Db hd he ha (!decide (hb.1=0)) (!decide (hb.1=0)) (!hf) (!hf) true hg.2.fItems hg.2.fChanged hh.2.fItems hh.2.fChanged) (Bi (RT hg.2) λhm=>Bi (RT hh.2) λhn=>Db hd he ha (!decide (hb.1=0)) (!decide (hb.1=0)) (!hf) (!hf) (!decide (hm.1=hn.1)) hm.2.fItems hm.2.fChanged hn.2.fItems hn.2.fChanged)))))) (some (.out (.go ())))
def EU (F:Nat):Option (Bool):=
 Bi (Lu F) λha=>some ha
def IF (F:Nat)(l:(List (List Ae))):Option (Bool):=
 Bi (Wk F l) λr1=>AV (!r1) (Bi (Lu F) λr6=>some r6) (Bi (Um) λha=>Bi (Um) λhb=>Bi (BE (λσ=>CQ F l σ.1 σ.2.1 σ.2.2.1 σ.2.2.2.1 σ.2.2.2.2) F (0,hb.fItems,hb.fChanged,ha.fItems,ha.fChanged)) (By λν=>EU F ))
end Go.Proofs.YtjfnokmpfekniaaGreatDoor
namespace Go.Proofs.YtjfnokmpfekniaaGreatDoor.Q
open Go Go.RowKit
set_option linter.unusedVariables false
set_option linter.unusedSimpArgs false
set_option maxRecDepth 100000
set_option maxHeartbeats 4000000
theorem RO (F:Nat)(l:(List (List Ae)))(r:Bool)(h:IF F l=some r):Fn Tryz.prog GE 6 [AU 1 (AE AS l)] [] (λR H=>R=rB r∧H=[]):=by
 refine enter (n:=78) Tryz.func6 rfl Tryz.ntmps6 rfl (λw Z=>?_);unfold IF at h;refine Ah (wa rfl (Aq (Ao (Ah (wm rfl (ob h λr1 e3 h2=>Gb Tryz.call9 (Zy F l r1 e3) rfl (wv (Cj rfl) (Aq (cz h2 rfl (λc4 h5=>?_) (λc4 h9=>?_))))))))))
 ·refine Ah (ob h5 λr6 e8 h7=>Gb Tryz.call10 (Nq F r6 e8) rfl (wa rfl (Aq (Ay (Ac ?_)))));obtain rfl:=Az h7;exact Ax (Ct yr6 (AL rfl)) sN ⟨rfl,rfl⟩
 ·refine A2 (AP (Ah (ob h9 λhu hZ ga=>DY (Hr:=[]) Tryz.call11 (RS hu hZ) rfl (Abo _) rfl ?_)));rintro _ _ ⟨hb,hd,he,rfl,rfl⟩;refine ob ga λhx gb gc=>DY (Hr:=[.blk hb [rv (.map (some hd)),rv (.map (some he))] 59,.map hd (AH Ad hu.fItems),.map he (AH Ad hu.fChanged)]) Tryz.call11 (RS hx gb) rfl (Abo _) rfl ?_;rintro _ _ ⟨hj,hf,hg,rfl,rfl⟩;refine wa rfl (wa rfl (Aq (Ao (AO [(0,AU 1 (AE AS l)),(3,rP hb 0),(4,rP hj 0),(21,rB false)] [.blk hj [rv (.map (some hf)),rv (.map (some hg))] 59,.map hf (AH Ad hx.fItems),.map hg (AH Ad hx.fChanged),.blk hb [rv (.map (some hd)),rv (.map (some he))] 59,.map hd (AH Ad hu.fItems),.map he (AH Ad hu.fChanged)] ?_ ?_))))
  ·refine An (wm rfl (wv (r:=rB false) (Pp ⟨_,X1⟩ rfl) (wm rfl (Bg (b:=false) rfl rfl rfl (wm rfl (Bg (b:=false) rfl rfl rfl (wv (r:=rB false) (Pp ⟨_,X1⟩ rfl) (wv (r:=rB false) (AM (b:=false) rfl rfl rfl) (At ?_)))))))));exact wt
  refine Dp rfl rfl (A2 (AP (Ao (Ah (wm rfl (wv (B8 (ys:=l) (enc:=AS) Tn rfl) (wv (r:=Am 0) (Al rfl) (Aq (AK (ob gc λgd ge h1=>B0 (S:=Nat×(Int×(List (Ag×Af))×(List (Ag×Af))×(List (Ag×Af))×(List (Ag×Af)))×(Unit)) (V:=(Unit)×(Unit)) 0 (λσ=>BE (λσ=>CQ F l σ.1 σ.2.1 σ.2.2.1 σ.2.2.2.1 σ.2.2.2.2) σ.1 σ.2.1=some gd) (λσ=>[(0,AU 1 (AE AS l)),(3,rP hb 0),(4,rP hj 0),(23,Am (l.length:Int)),(24,Am σ.2.1.1)]) (λσ=>[.blk hj [rv (.map (some hf)),rv (.map (some hg))] 59,.map hf (AH Ad σ.2.1.2.1),.map hg (AH Ad σ.2.1.2.2.1),.blk hb [rv (.map (some hd)),rv (.map (some he))] 59,.map hd (AH Ad σ.2.1.2.2.2.1),.map he (AH Ad σ.2.1.2.2.2.2)]) (λσ=>σ.1) (F,(0,hx.fItems,hx.fChanged,hu.fItems,hu.fChanged),()) ge (AD.c5 rfl rfl rfl rfl rfl AD.nil) (sC (sC (sC (sC (sC (sC sN)))))) (λσ=>EU F =some r) (λσ=>[]) (λσ=>[]) ?_ ?_))))))))))
  ·rintro⟨ce,⟨ha,hr,hs,hG,hH⟩,⟨⟩⟩ gf;refine BY (l':=[(0,AU 1 (AE AS l)),(3,rP hb 0),(4,rP hj 0),(23,Am (l.length:Int)),(24,Am ha)]) (H':=[.blk hj [rv (.map (some hf)),rv (.map (some hg))] 59,.map hf (AH Ad hr),.map hg (AH Ad hs),.blk hb [rv (.map (some hd)),rv (.map (some he))] 59,.map hd (AH Ad hG),.map he (AH Ad hH)]) rfl rfl ?_;obtain⟨gg,rfl,hy,h3,hz⟩:=CO gf;replace h3:CQ F l ha hr hs hG hH=some hy:=h3;unfold CQ at h3;refine Ah (wv (Dv rfl rfl) (Aq (Ao (cz h3 rfl (λgh gi=>?_) (λgh gj=>?_)))))
   ·refine A2 (AP (CE (S:=((List Af)×Int×(List Af)×Int×Int×Bool×(List (Ag×Af))×(List (Ag×Af))×(List (Ag×Af))×(List (Ag×Af)))×(Unit)) (λσ=>DD ha σ.1.1 σ.1.2.1 σ.1.2.2.1 σ.1.2.2.2.1 σ.1.2.2.2.2.1 σ.1.2.2.2.2.2.1 σ.1.2.2.2.2.2.2.1 σ.1.2.2.2.2.2.2.2.1 σ.1.2.2.2.2.2.2.2.2.1 σ.1.2.2.2.2.2.2.2.2.2=some hy) (λσ=>[(0,AU 1 (AE AS l)),(3,rP hb 0),(4,rP hj 0),(5,Am ha),(6,AU 3 (AE Au σ.1.1)),(7,Am σ.1.2.1),(23,Am (l.length:Int)),(24,Am ha),(25,rB (decide (ha<(l.length:Int)))),(26,Am ha),(27,rP hb 0),(28,AU 3 (AE Au σ.1.2.2.1)),(29,rP hb 0),(30,AU 1 (AE AS l)),(31,Am ha),(33,AU 4 (AE Ai (Ap l ha))),(34,Am σ.1.2.2.2.1),(35,Am σ.1.2.2.2.2.1),(36,rB σ.1.2.2.2.2.2.1)]) (λσ=>[.blk hb [rv (.map (some hd)),rv (.map (some he))] 59,.map hd (AH Ad σ.1.2.2.2.2.2.2.1),.map he (AH Ad σ.1.2.2.2.2.2.2.2.1),.blk hj [rv (.map (some hf)),rv (.map (some hg))] 59,.map hf (AH Ad σ.1.2.2.2.2.2.2.2.2.1),.map hg (AH Ad σ.1.2.2.2.2.2.2.2.2.2)]) ?_ ?_))
    ·refine AK (Ah (wm rfl (wa rfl (Bx (wm rfl (ob gi λhm gk gl=>DY (Hr:=[.blk hj [rv (.map (some hf)),rv (.map (some hg))] 59,.map hf (AH Ad hr),.map hg (AH Ad hs)]) Tryz.call20 (M4 F hb hd he (AB.mk hG hH) ([]:Ag) hm gk) rfl ((Aj (i:=3) rfl).trans (Abn _ ((Aj (i:=3) rfl).trans (Abn _ ((Aj (i:=3) rfl).trans (Abn _ (Abo _))))))) rfl ?_))))));rintro _ _ ⟨rfl,rfl⟩;refine wa rfl (Bx (wm rfl (wm rfl (wm rfl (ck gl λhN gm=>wv (BB (enc:=AS) (ys:=l) Tn Tryz.sizeOf31 rfl rfl hN) (wv (Bu Tryz.isAgg31 rfl rfl) (ob gm λhh gn gp=>DY (Hr:=[.blk hj [rv (.map (some hf)),rv (.map (some hg))] 59,.map hf (AH Ad hr),.map hg (AH Ad hs)]) Rq (GM F hb hd he hm.2 (Ap l ha) hh gn) rfl (Abo _) rfl ?_)))))));rintro _ _ ⟨rfl,rfl⟩;refine wa rfl (Aq (Ao (Ah (wm rfl (wv (Dj rfl rfl) (Aq (cz gp rfl (λgq gr=>?_) (λgq gs=>?_))))))))
     ·refine Ao (Ah (wm rfl (wm rfl (ob gr λh4 gt gu=>DY (Hr:=[.blk hj [rv (.map (some hf)),rv (.map (some hg))] 59,.map hf (AH Ad hr),.map hg (AH Ad hs)]) Tryz.call20 (M4 F hb hd he hh.2 ([]:Ag) h4 gt) rfl (Abo _) rfl ?_))));rintro _ _ ⟨rfl,rfl⟩;refine ob gu λgv gw gx=>Gb Tryz.call19 (Qg F hm.1 h4.1 gv gw) rfl (wv (Cj rfl) (Aq (cz gx rfl (λgy gz=>?_) (λgy g0=>?_))))
      ·refine Ah (wa rfl (Aq (Ay (Ac (Ac (A0 (Ac (Ac (AX ?_)))))))));have g1:=B2 gz hz h1;refine A0 (Ac ?_);obtain rfl:=Az g1;exact Ax (Ct yr6 (AL rfl)) (sS (sS (sS (sS (sS (sS sN)))))) ⟨rfl,rfl⟩
      ·exact A2 (AP (B1 (A3 (Be (A4 (AG ((hm.1,hh.1,hm.1,hh.1,hh.1,!decide (hh.1=0),h4.2.fItems,h4.2.fChanged,hr,hs),()) g0 (AD.c rfl (AD.c rfl (AD.c rfl (AD.c rfl (AD.c5 rfl rfl rfl rfl rfl (AD.c5 rfl rfl rfl rfl rfl (AD.c5 rfl rfl rfl rfl rfl AD.nil))))))) (sC (sC (sC (sC (sC (sC sN))))))))))))
     ·refine A2 (AP (Ah (wm rfl (wm rfl (wv (BB (enc:=AS) (ys:=l) Tn Tryz.sizeOf31 rfl rfl hN) (wv (Bu Tryz.isAgg31 rfl rfl) (ob gs λhi g2 g3=>Gb Tryz.call23 (OB F (Ap l ha) hi g2) rfl (wm rfl (wv (AF rfl rfl) (wv (AF rfl rfl) (wa rfl (wa rfl (Aq (Ao (Ah (wm rfl (wv (BT rfl rfl) (Aq (cz g3 rfl (λg4 g5=>?_) (λg4 g6=>?_))))))))))))))))))))
      ·refine Ah (ob g5 λg7 g8 g9=>Gb Tryz.call10 (Nq F g7 g8) rfl (wa rfl (Aq (Ay (Ac (A0 (Ac (Ac (AX ?_)))))))));have gA:=B2 g9 hz h1;refine A0 (Ac ?_);obtain rfl:=Az gA;exact Ax (Ct yr6 (AL rfl)) (sS (sS (sS (sS (sS (sS sN)))))) ⟨rfl,rfl⟩
      ·refine A2 (AP (CE (S:=(Bool×Bool×Bool×Bool×Bool×(List (Ag×Af))×(List (Ag×Af))×(List (Ag×Af))×(List (Ag×Af)))×(Unit)) (λσ=>Db ha hm hh σ.1.1 σ.1.2.1 σ.1.2.2.1 σ.1.2.2.2.1 σ.1.2.2.2.2.1 σ.1.2.2.2.2.2.1 σ.1.2.2.2.2.2.2.1 σ.1.2.2.2.2.2.2.2.1 σ.1.2.2.2.2.2.2.2.2=some hy) (λσ=>[(0,AU 1 (AE AS l)),(3,rP hb 0),(4,rP hj 0),(5,Am ha),(6,AU 3 (AE Au hm.1)),(7,Am hh.1),(8,rS hi.1),(9,Am hi.2),(23,Am (l.length:Int)),(24,Am ha),(25,rB (decide (ha<(l.length:Int)))),(26,Am ha),(27,rP hb 0),(28,AU 3 (AE Au hm.1)),(29,rP hb 0),(30,AU 1 (AE AS l)),(31,Am ha),(33,AU 4 (AE Ai (Ap l ha))),(34,Am hh.1),(35,Am hh.1),(36,rB (!decide (hh.1=0))),(42,C2 [rS hi.1,Am hi.2]),(43,AU 1 (AE AS l)),(44,Am ha),(46,AU 4 (AE Ai (Ap l ha))),(47,C2 [rS hi.1,Am hi.2]),(48,rS hi.1),(49,Am hi.2),(50,Am hi.2),(51,rB (decide (hi.2=3))),(53,Am hi.2),(54,rB (!decide (hi.2=0))),(55,rB (!decide (hi.2=0))),(60,rB σ.1.1),(61,rB σ.1.2.1),(68,rB σ.1.2.2.1),(69,rB σ.1.2.2.2.1),(75,rB σ.1.2.2.2.2.1)]) (λσ=>[.blk hb [rv (.map (some hd)),rv (.map (some he))] 59,.map hd (AH Ad σ.1.2.2.2.2.2.1),.map he (AH Ad σ.1.2.2.2.2.2.2.1),.blk hj [rv (.map (some hf)),rv (.map (some hg))] 59,.map hf (AH Ad σ.1.2.2.2.2.2.2.2.1),.map hg (AH Ad σ.1.2.2.2.2.2.2.2.2)]) ?_ ?_))
       ·refine An (wm rfl (wv (Dj rfl rfl) (wm rfl (bz g6 (λho gB=>?_) (λho gC=>?_)))))
        ·exact wf ho (wf ho (wf ho (wf ho (wv (r:=rB true) (A7 rfl ho rfl) (wm rfl (wz rfl rfl (wz rfl rfl (wz rfl rfl (wz rfl rfl (wz rfl rfl (wz rfl rfl (wv (r:=rB true) (A7 (b:=true) rfl rfl rfl) (wm rfl (wz rfl rfl (wz rfl rfl (wz rfl rfl (wz rfl rfl (wz rfl rfl (wv (r:=rB true) (A7 (b:=true) rfl rfl rfl) (At (A4 (AG ((true,true,true,true,true,hh.2.fItems,hh.2.fChanged,hr,hs),()) gB (AD.c rfl (AD.c rfl (AD.c rfl (AD.c5 rfl rfl rfl rfl rfl (AD.c5 rfl rfl rfl rfl rfl (AD.c5 rfl rfl rfl rfl rfl (AD.c5 rfl rfl rfl rfl rfl (AD.c5 rfl rfl rfl rfl rfl (AD.c5 rfl rfl rfl rfl rfl (AD.c5 rfl rfl rfl rfl rfl AD.nil)))))))))) (sC (sC (sC (sC (sC (sC sN))))))))))))))))))))))))))))
        ·refine wo ho (wm rfl (wo ho (wm rfl (wo ho (ob gC λhl gD gE=>DY (Hr:=[.blk hb [rv (.map (some hd)),rv (.map (some he))] 59,.map hd (AH Ad hh.2.fItems),.map he (AH Ad hh.2.fChanged)]) Tryz.call30 (Yn F hj hf hg (AB.mk hr hs) hi.1 hl gD) rfl ((Aj (i:=3) rfl).trans (Abn _ ((Aj (i:=3) rfl).trans (Abn _ ((Aj (i:=3) rfl).trans (Abn _ (Abo _))))))) rfl ?_)))));rintro _ _ ⟨rfl,rfl⟩;refine wo ho (wv (Dj rfl rfl) (Lf rfl ho rfl (wm rfl (bz gE (λhk gF=>?_) (λhk gG=>?_)))))
         ·exact wf hk (wf hk (wf hk (wf hk (wf hk (wf hk (wv (r:=rB true) (A7 rfl hk rfl) (wm rfl (wz rfl rfl (wz rfl rfl (wz rfl rfl (wz rfl rfl (wz rfl rfl (wv (r:=rB true) (A7 (b:=true) rfl rfl rfl) (At (Ca (H2:=[.blk hb [rv (.map (some hd)),rv (.map (some he))] 59,.map hd (AH Ad hh.2.fItems),.map he (AH Ad hh.2.fChanged),.blk hj [rv (.map (some hf)),rv (.map (some hg))] 59,.map hf (AH Ad hl.2.fItems),.map hg (AH Ad hl.2.fChanged)]) ((Aj (i:=3) rfl).trans (Abn _ ((Aj (i:=3) rfl).trans (Abn _ ((Aj (i:=3) rfl).trans (Abn _ (Abo _))))))) (A4 (AG ((!decide (hl.1=0),!decide (hl.1=0),true,true,true,hh.2.fItems,hh.2.fChanged,hl.2.fItems,hl.2.fChanged),()) gF (AD.c rfl (AD.c rfl (AD.c rfl (AD.c5 rfl rfl rfl rfl rfl (AD.c5 rfl rfl rfl rfl rfl (AD.c5 rfl rfl rfl rfl rfl (AD.c5 rfl rfl rfl rfl rfl (AD.c5 rfl rfl rfl rfl rfl (AD.c5 rfl rfl rfl rfl rfl (AD.c5 rfl rfl rfl rfl rfl AD.nil)))))))))) (sC (sC (sC (sC (sC (sC sN)))))))))))))))))))))))
         ·refine wo hk (wm rfl (wo hk (ob gG λhp gH gI=>DY (Hr:=[.blk hj [rv (.map (some hf)),rv (.map (some hg))] 59,.map hf (AH Ad hl.2.fItems),.map hg (AH Ad hl.2.fChanged)]) Tryz.call20 (M4 F hb hd he hh.2 ([]:Ag) hp gH) rfl ((Aj (i:=3) rfl).trans (Abn _ ((Aj (i:=3) rfl).trans (Abn _ ((Aj (i:=3) rfl).trans (Abn _ (Abo _))))))) rfl ?_)));rintro _ _ ⟨rfl,rfl⟩;refine wo hk (wm rfl (wo hk (ob gI λhq gJ gK=>DY (Hr:=[.blk hb [rv (.map (some hd)),rv (.map (some he))] 59,.map hd (AH Ad hp.2.fItems),.map he (AH Ad hp.2.fChanged)]) Tryz.call20 (M4 F hj hf hg hl.2 ([]:Ag) hq gJ) rfl ((Aj (i:=3) rfl).trans (Abn _ ((Aj (i:=3) rfl).trans (Abn _ ((Aj (i:=3) rfl).trans (Abn _ (Abo _))))))) rfl ?_)));rintro _ _ ⟨rfl,rfl⟩;refine wo hk (ob gK λh0 gL gM=>Gb Tryz.call19 (Qg F hp.1 hq.1 h0 gL) rfl (wo hk (wv (Cj rfl) (Lf rfl hk rfl (wm rfl (bz gM (λhn gN=>?_) (λhn gO=>?_)))))))
          ·exact wf hn (wf hn (wf hn (wf hn (wf hn (wv (r:=rB true) (A7 rfl hn rfl) (At (Ca (H2:=[.blk hb [rv (.map (some hd)),rv (.map (some he))] 59,.map hd (AH Ad hp.2.fItems),.map he (AH Ad hp.2.fChanged),.blk hj [rv (.map (some hf)),rv (.map (some hg))] 59,.map hf (AH Ad hq.2.fItems),.map hg (AH Ad hq.2.fChanged)]) ((Aj (i:=3) rfl).trans (Abn _ ((Aj (i:=3) rfl).trans (Abn _ ((Aj (i:=3) rfl).trans (Abn _ (Abo _))))))) (A4 (AG ((!decide (hl.1=0),!decide (hl.1=0),!h0,!h0,true,hp.2.fItems,hp.2.fChanged,hq.2.fItems,hq.2.fChanged),()) gN (AD.c rfl (AD.c rfl (AD.c rfl (AD.c5 rfl rfl rfl rfl rfl (AD.c5 rfl rfl rfl rfl rfl (AD.c5 rfl rfl rfl rfl rfl (AD.c5 rfl rfl rfl rfl rfl (AD.c5 rfl rfl rfl rfl rfl (AD.c5 rfl rfl rfl rfl rfl (AD.c5 rfl rfl rfl rfl rfl AD.nil)))))))))) (sC (sC (sC (sC (sC (sC sN)))))))))))))))
          ·refine wo hn (wm rfl (wo hn (ob gO λht gP gQ=>DY (Hr:=[.blk hj [rv (.map (some hf)),rv (.map (some hg))] 59,.map hf (AH Ad hq.2.fItems),.map hg (AH Ad hq.2.fChanged)]) Tryz.call15 (Pu hb hd he hp.2 ht gP) rfl ((Aj (i:=3) rfl).trans (Abn _ ((Aj (i:=3) rfl).trans (Abn _ ((Aj (i:=3) rfl).trans (Abn _ (Abo _))))))) rfl ?_)));rintro _ _ ⟨rfl,rfl⟩;refine wo hn (wm rfl (wo hn (ob gQ λhw gR gS=>DY (Hr:=[.blk hb [rv (.map (some hd)),rv (.map (some he))] 59,.map hd (AH Ad ht.2.fItems),.map he (AH Ad ht.2.fChanged)]) Tryz.call15 (Pu hj hf hg hq.2 hw gR) rfl ((Aj (i:=3) rfl).trans (Abn _ ((Aj (i:=3) rfl).trans (Abn _ ((Aj (i:=3) rfl).trans (Abn _ (Abo _))))))) rfl ?_)));rintro _ _ ⟨rfl,rfl⟩;exact wo hn (wv (Dj rfl rfl) (Lf rfl hn rfl (At (Ca (H2:=[.blk hb [rv (.map (some hd)),rv (.map (some he))] 59,.map hd (AH Ad ht.2.fItems),.map he (AH Ad ht.2.fChanged),.blk hj [rv (.map (some hf)),rv (.map (some hg))] 59,.map hf (AH Ad hw.2.fItems),.map hg (AH Ad hw.2.fChanged)]) ((Aj (i:=3) rfl).trans (Abn _ ((Aj (i:=3) rfl).trans (Abn _ ((Aj (i:=3) rfl).trans (Abn _ (Abo _))))))) (A4 (AG ((!decide (hl.1=0),!decide (hl.1=0),!h0,!h0,!decide (ht.1=hw.1),ht.2.fItems,ht.2.fChanged,hw.2.fItems,hw.2.fChanged),()) gS (AD.c rfl (AD.c rfl (AD.c rfl (AD.c5 rfl rfl rfl rfl rfl (AD.c5 rfl rfl rfl rfl rfl (AD.c5 rfl rfl rfl rfl rfl (AD.c5 rfl rfl rfl rfl rfl (AD.c5 rfl rfl rfl rfl rfl (AD.c5 rfl rfl rfl rfl rfl (AD.c5 rfl rfl rfl rfl rfl AD.nil)))))))))) (sC (sC (sC (sC (sC (sC sN))))))))))))
       ·rintro⟨⟨hO,hP,hQ,hR,hS,hI,hJ,hK,hL⟩,⟨⟩⟩ h6;refine BY (l':=[(0,AU 1 (AE AS l)),(3,rP hb 0),(4,rP hj 0),(5,Am ha),(6,AU 3 (AE Au hm.1)),(7,Am hh.1),(8,rS hi.1),(9,Am hi.2),(23,Am (l.length:Int)),(24,Am ha),(25,rB (decide (ha<(l.length:Int)))),(26,Am ha),(27,rP hb 0),(28,AU 3 (AE Au hm.1)),(29,rP hb 0),(30,AU 1 (AE AS l)),(31,Am ha),(33,AU 4 (AE Ai (Ap l ha))),(34,Am hh.1),(35,Am hh.1),(36,rB (!decide (hh.1=0))),(42,C2 [rS hi.1,Am hi.2]),(43,AU 1 (AE AS l)),(44,Am ha),(46,AU 4 (AE Ai (Ap l ha))),(47,C2 [rS hi.1,Am hi.2]),(48,rS hi.1),(49,Am hi.2),(50,Am hi.2),(51,rB (decide (hi.2=3))),(53,Am hi.2),(54,rB (!decide (hi.2=0))),(55,rB (!decide (hi.2=0))),(60,rB hO),(61,rB hP),(68,rB hQ),(69,rB hR),(75,rB hS)]) (H':=[.blk hb [rv (.map (some hd)),rv (.map (some he))] 59,.map hd (AH Ad hI),.map he (AH Ad hJ),.blk hj [rv (.map (some hf)),rv (.map (some hg))] 59,.map hf (AH Ad hK),.map hg (AH Ad hL)]) rfl rfl ?_;replace h6:Db ha hm hh hO hP hQ hR hS hI hJ hK hL=some hy:=h6;unfold Db at h6;refine cz h6 rfl (λgT gU=>?_) (λgT gV=>?_)
        ·refine Ah (wa rfl (Aq (Ay (A0 (Ac (Ac (AX ?_)))))));have gW:=B2 gU hz h1;refine A0 (Ac ?_);obtain rfl:=Az gW;exact Ax (Ct yr6 (AL rfl)) (sS (sS (sS (sS (sS (sS sN)))))) ⟨rfl,rfl⟩
        ·exact A2 (AJ (A4 (AG ((hm.1,hh.1,hm.1,hh.1,hh.1,!decide (hh.1=0),hI,hJ,hK,hL),()) gV (AD.c rfl (AD.c rfl (AD.c rfl (AD.c rfl (AD.c5 rfl rfl rfl rfl rfl (AD.c5 rfl rfl rfl rfl rfl (AD.c5 rfl rfl rfl rfl rfl AD.nil))))))) (sC (sC (sC (sC (sC (sC sN)))))))))
    ·rintro⟨⟨hT,hU,hV,hW,hX,hY,h8,hA,hB,hC⟩,⟨⟩⟩ hD;refine BY (l':=[(0,AU 1 (AE AS l)),(3,rP hb 0),(4,rP hj 0),(5,Am ha),(6,AU 3 (AE Au hT)),(7,Am hU),(23,Am (l.length:Int)),(24,Am ha),(25,rB (decide (ha<(l.length:Int)))),(26,Am ha),(27,rP hb 0),(28,AU 3 (AE Au hV)),(29,rP hb 0),(30,AU 1 (AE AS l)),(31,Am ha),(33,AU 4 (AE Ai (Ap l ha))),(34,Am hW),(35,Am hX),(36,rB hY)]) (H':=[.blk hb [rv (.map (some hd)),rv (.map (some he))] 59,.map hd (AH Ad h8),.map he (AH Ad hA),.blk hj [rv (.map (some hf)),rv (.map (some hg))] 59,.map hf (AH Ad hB),.map hg (AH Ad hC)]) rfl rfl ?_;replace hD:DD ha hT hU hV hW hX hY h8 hA hB hC=some hy:=hD;unfold DD at hD;refine An (ck hD λgX gY=>wv (BL rfl rfl gX) (wm rfl (At (Ca (H2:=[.blk hj [rv (.map (some hf)),rv (.map (some hg))] 59,.map hf (AH Ad hB),.map hg (AH Ad hC),.blk hb [rv (.map (some hd)),rv (.map (some he))] 59,.map hd (AH Ad h8),.map he (AH Ad hA)]) ((Aj (i:=3) rfl).trans (Abn _ ((Aj (i:=3) rfl).trans (Abn _ ((Aj (i:=3) rfl).trans (Abn _ (Abo _))))))) ?_))));have gZ:=B6 gY hz;exact A4 (AG (gg,(ha+1,hB,hC,h8,hA),()) ⟨gZ,Ab1 _⟩ (AD.c5 rfl rfl rfl rfl rfl AD.nil) (sC (sC (sC (sC (sC (sC sN)))))))
   ·refine B1 (A3 ?_);have ca:=Cm gj hz h1;exact A3 (Bj (AG ((),()) ca AD.nil (sS (sS (sS (sS (sS (sS sN))))))))
  ·rintro⟨⟨⟩,⟨⟩⟩ hE;refine CU (l':=[]) (H':=[]) rfl rfl ?_;replace hE:EU F =some r:=hE;unfold EU at hE;refine Be (AP (Ah (ob hE λcb cc cd=>Gb Tryz.call10 (Nq F cb cc) rfl (wa rfl (Aq (Ay ?_))))));obtain rfl:=Az cd;exact Ax (Ct yr6 (AL rfl)) sN ⟨rfl,rfl⟩
end Go.Proofs.YtjfnokmpfekniaaGreatDoor.Q
namespace Go.Proofs.YtjfnokmpfekniaaGreatDoor.lawKvReplays
open Go
set_option linter.unusedVariables false
def VJ (y:Aa):Bool:=(B7 .i64) y.fKind&&(B7 .i64) y.fInt&&YM y.fStr&&(B7 .i64) y.fN
def RG (y:Ae):Bool:=YM y.fKey&&(λ_=>true) y.fDelete&&(λys:(List Aa)=>ys.all VJ&&decide (ys.length≤9223372036854775807)) y.fValue&&(B7 .i64) y.fIfVersion
def Law:Prop:=∀(y0:(List (List Ae))) (o0:(λys:(List (List Ae))=>ys.all (λys:(List Ae)=>ys.all RG&&decide (ys.length≤9223372036854775807))&&decide (ys.length≤9223372036854775807)) y0=true),∃F,IF F y0=some true
end Go.Proofs.YtjfnokmpfekniaaGreatDoor.lawKvReplays
namespace Go.Proofs.YtjfnokmpfekniaaGreatDoor
open Go
set_option linter.unusedVariables false
set_option linter.unusedSimpArgs false
def sB (b:BitVec 32):BitVec 32:=if b.getLsbD 0=true then(b>>>1)^^^3988292384#32 else b>>>1
def Rn:Nat→BitVec 32→BitVec 32
 | 0,b=>b
 | n+1,b=>Rn n (sB b)
theorem Zi (a b:BitVec 32):sB (a^^^b)=sB a^^^sB b:=by
 unfold sB;rw[BitVec.getLsbD_xor,BitVec.ushiftRight_xor_distrib]
 cases a.getLsbD 0<;>cases b.getLsbD 0
 ·simp
 ·simp[BitVec.xor_assoc]
 ·simp only[Bool.xor_false,Ach,AbL,Acc];rw[BitVec.xor_assoc,BitVec.xor_assoc,BitVec.xor_comm (b>>>1)]
 ·simp only[Bool.xor_self,AbL,Acc,Ach];rw[BitVec.xor_assoc,BitVec.xor_comm 3988292384#32,BitVec.xor_assoc,BitVec.xor_self,BitVec.xor_zero]
theorem S0:∀(n:Nat) (a b:BitVec 32),Rn n (a^^^b)=Rn n a^^^Rn n b
 | 0,_,_=>rfl
 | n+1,a,b=>by rw[Rn,Zi,S0 n];rfl
theorem On:∀(n:Nat) (b:BitVec 32),(∀i,i<n→b.getLsbD i=false)→Rn n b=b>>>n
 | 0,b,_=>by simp[Rn]
 | n+1,b,h=>by
  have h0:sB b=b>>>1:=by unfold sB;rw[h 0 (by omega)];simp
  rw[Rn,h0,On n (b>>>1) (λi hi=>by rw[BitVec.getLsbD_ushiftRight];exact h _ (by omega))];rw[← BitVec.shiftRight_add,Nat.add_comm]
theorem T6 (x:BitVec 32):Rn 8 x=Rn 8 (x&&& 255#32)^^^(x>>>8):=by
 have e:x=(x&&& 255#32)^^^(x&&& 4294967040#32):=by
  apply BitVec.eq_of_getLsbD_eq;intro i hi;rw[BitVec.getLsbD_xor,BitVec.getLsbD_and,BitVec.getLsbD_and];have hh:∀j:Fin 32,(4294967040#32).getLsbD j = !(255#32).getLsbD j:=by decide
  rw[hh ⟨i,hi⟩]
  cases x.getLsbD i<;>cases(255#32).getLsbD i<;>rfl
 have hz:∀i,i<8→(x&&& 4294967040#32).getLsbD i=false:=λi hi=>by
  rw[BitVec.getLsbD_and];have:(4294967040#32).getLsbD i=false:=by
   have hh:∀i:Fin 8,(4294967040#32).getLsbD i=false:=by decide
   exact hh ⟨i,hi⟩
  rw[this,AbF]
 have hs:(x&&& 4294967040#32)>>>8=x>>>8:=by
  apply BitVec.eq_of_getLsbD_eq;intro i hi;rw[BitVec.getLsbD_ushiftRight,BitVec.getLsbD_ushiftRight,BitVec.getLsbD_and]
  by_cases h:8+i<32
  ·have hh:∀j:Fin 24,(4294967040#32).getLsbD (8+j)=true:=by decide
   rw[hh ⟨i,by omega⟩,AbA]
  ·rw[BitVec.getLsbD_of_ge x _ (by omega)];rfl
 conv=>lhs;rw[e]
 rw[S0,On 8 _ hz,hs]
def bv (x:Int):BitVec 32:=BitVec.ofInt 32 x
def nv (b:BitVec 32):Int:=(b.toNat:Int)
def W32 (x:Int):Prop:=0≤x∧x<4294967296
theorem W32.nv (b:BitVec 32):W32 (nv b):=⟨by unfold Proofs.YtjfnokmpfekniaaGreatDoor.nv;omega,by have:=b.isLt;unfold Proofs.YtjfnokmpfekniaaGreatDoor.nv;omega⟩
theorem YP {x:Int}(h:W32 x):nv (bv x)=x:=by
 unfold nv bv;have h1:=h.1;have h2:=h.2;rw[BitVec.toNat_ofInt];have:x % ((2 ^ 32:Nat):Int)=x:=Int.emod_eq_of_lt h1 (by simpa using h2);rw[this];omega
theorem Rg (b:BitVec 32):bv (nv b)=b:=by
 apply BitVec.eq_of_toNat_eq;have h:=YP (W32.nv b);unfold nv at h;exact Int.ofNat_inj.1 h
theorem OU (b:BitVec 32):IntKind.wrap .u32 (b.toNat:Int)=nv b:=by
 have:=b.isLt;unfold nv;simp[IntKind.wrap,IntKind.signed,IntKind.bits];omega
theorem Py (x y:Int):Ge .u32 x y=nv (bv x^^^bv y):=OU (bv x^^^bv y)
theorem Yt (x y:Int):NW .u32 x y=nv (bv x&&& bv y):=OU (bv x&&& bv y)
theorem ST {n:Nat}(hn:n≤32)(b:BitVec 32):BX .u32 (nv b) (n:Int)=nv (b>>>n):=by
 unfold BX nv;have e:min (n:Int).toNat (IntKind.bits .u32)=n:=by
  have:IntKind.bits .u32=32:=rfl;rw[this];omega
 rw[e,BitVec.toNat_ushiftRight,Nat.shiftRight_eq_div_pow];rw[Int.fdiv_eq_ediv_of_nonneg _ (by exact Int.pow_nonneg (by omega))];simp
theorem Zx (b:BitVec 32):decide (NW .u32 (nv b) 1=1)=b.getLsbD 0:=by
 rw[Yt,Rg];have e:bv 1=1#32:=by decide
 rw[e];have h:(b&&& 1#32).toNat=b.toNat % 2:=by
  rw[BitVec.toNat_and];exact Nat.and_one_is_mod _
 unfold nv;rw[h,BitVec.getLsbD,Nat.testBit_zero];rw[Abz];simp only[Abh];omega
theorem Vy (b:BitVec 32):(bif decide (NW .u32 (nv b) 1=1) then Ge .u32 (BX .u32 (nv b) 1) 3988292384 else BX .u32 (nv b) 1)=nv (sB b):=by
 have hs:BX .u32 (nv b) 1=nv (b>>>1):=ST (n:=1) (by omega) b;have e:bv 3988292384=3988292384#32:=by decide
 rw[Zx,hs,Py,Rg,e];unfold sB
 cases b.getLsbD 0<;>rfl
def J1 (c:UInt8):Bool:=decide (32≤c.toNat)&&decide (c.toNat≤126)
theorem Gt {s:Ag}{x:Int}{c:UInt8}(h:s[x.toNat]? =some c):Ba s x=(c.toNat:Int):=by simp[Ba,h]
theorem NO {α:Type}{p:α→Bool}{s:List α}{k:Nat}{c:α}(h:s[k]? =some c):(s.take (k+1)).all p=((s.take k).all p&&p c):=by
 rw[List.take_add_one,h];simp
theorem P8 {α:Type}{p:α→Bool}{s:List α}{k:Nat}{c:α}(h:s[k]? =some c)(hp:p c=false):s.all p=false:=by
 rw[List.all_eq_false];exact⟨c,Abv h,by simp[hp]⟩
theorem PO {F:Nat}{s:Ag}(hF:s.length<F)(hs:s.length≤9223372036854775807):Kn F s=some (s.all J1):=by
 obtain⟨o,h1,h2⟩:=Ew (body:=λσ=>Hx s σ) (λx=>0≤x∧x≤(s.length:Int)∧(s.take x.toNat).all J1=true) (λx=>s.length-x.toNat)
  (λo=>By (λ_=>Hw) o=some (s.all J1)) (λx ⟨h0,hl,ha⟩=>by
   unfold Hx
   by_cases hx:x<(s.length:Int)
   ·obtain⟨c,hc⟩:∃c,s[x.toNat]? =some c:=⟨s[x.toNat]'(by omega),Abs (by omega)⟩
    rw[AA (by simpa using hx),AQ h0 hx,Gt hc]
    cases ho:J1 c with
    | false=>
     refine .inr ⟨.ret false,?_,?_⟩
     ·rw[AA];simp only[J1,AbZ,Abi] at ho;simp only[AbQ,Abh];omega
     ·simp[By,P8 hc ho]
    | true=>
     refine .inl ⟨x+1,?_,⟨by omega,by omega,?_⟩,by omega⟩
     ·rw[As,A6 (by omega) (by omega)];simp only[J1,Abp,Abh] at ho;simp only[Ab8,Abi];omega
     ·rw[show(x+1).toNat=x.toNat+1 from by omega,NO hc,ha,ho];rfl
   ·refine .inr ⟨.go (),by rw[As (by simpa using hx)],?_⟩;rw[show x.toNat=s.length from by omega,Aca] at ha;simp[By,Hw,ha]) F 0 ⟨by omega,by omega,by simp⟩ (by simpa using hF)
 unfold Kn;rw[A8 h1,h2]
theorem Pe (F:Nat)(s:Ag):Pf F s=Kn F s:=rfl
theorem TB {F:Nat}{s:Ag}(hF:s.length<F)(hs:s.length≤9223372036854775807):Pf F s=some (s.all J1):=by rw[Pe];exact PO hF hs
def pl (c:Aa):Bool:=
 bif decide (c.fKind=1) then(decide (c.fInt=0)&&(decide (c.fStr=[])&&decide (c.fN=0))) else
 bif decide (c.fKind=2) then((decide (c.fInt=0)||decide (c.fInt=1))&&(decide (c.fStr=[])&&decide (c.fN=0))) else
 bif decide (c.fKind=3) then(decide (c.fStr=[])&&decide (c.fN=0)) else
 bif decide (c.fKind=4) then(decide (c.fInt=0)&&(decide (c.fN=0)&&c.fStr.all J1)) else
 bif decide (c.fKind=5) then(decide (c.fInt=0)&&(decide (c.fStr=[])&&decide (0≤c.fN))) else
 bif decide (c.fKind=6) then(decide (c.fInt=0)&&(decide (c.fStr=[])&&decide (0≤c.fN))) else false
theorem DW {α:Type}{p:Bool}{x y:Option α}{a b:α}(h:x=some a)(h':y=some b):AV p x y=some (bif p then a else b):=by cases p<;>simp[AV,h,h']
theorem Tx {F:Nat}{c:Aa}(hF:c.fStr.length<F)(hs:c.fStr.length≤9223372036854775807):MM F c=some (pl c):=by
 unfold MM pl;rw[PO hF hs];refine DW rfl (DW ?_ (DW rfl (DW ?_ (DW rfl (DW rfl rfl)))))
 ·cases h:decide (c.fInt=0)<;>simp
 ·simp[imp,AR,ov]
def LZ:List A1→List A1
 | []=>[]
 | e::S=>bif decide (1<e.fLeft) then⟨e.fPairs,e.fLeft-1,e.fPairs,e.fLast,e.fStarted⟩::S else LZ S
theorem M8 {α:Type}[Inhabited α](xs:List α)(e:α):Ap (xs++[e]) (xs.length:Int)=e:=by simp[Ap]
theorem Kx {α:Type}(xs:List α)(e e':α):List.set (xs++[e]) (Int.toNat (xs.length:Int)) e'=xs++[e']:=by simp
theorem KK {α:Type}(xs:List α)(e:α):((xs++[e]).length:Int)-1=(xs.length:Int):=by simp
theorem T3 {α:Type}(xs:List α)(e:α):List.take (Int.toNat (xs.length:Int)) (xs++[e])=xs:=by simp
theorem LM:∀(S:List A1) (F:Nat),S.length<F→(∀e∈S,1≤e.fLeft∧e.fLeft≤9223372036854775807)→S.length≤4611686018427387904→
  ∃o,BE (λσ=>D9 σ) F S.reverse=some o∧By (λν=>Ee ν) o=some (LZ S).reverse
 | [],F+1,_,_,_=>⟨.go [],by simp[BE,D9,AV],by simp[By,Ee,LZ]⟩
 | e::S,F+1,hF,hb,hl=>by
  obtain⟨h1,h2⟩:=hb e (by simp);simp only[Abl] at hF hl;have hx:S.reverse.length=S.length:=by simp
  generalize hxs:S.reverse=xs at hx;have hr:(e::S).reverse=xs++[e]:=by simp[hxs]
  rw[hr];have hb1:D9 (xs++[e])=bif decide (1<e.fLeft) then some (.out (.ret (xs++[⟨e.fPairs,e.fLeft-1,e.fPairs,e.fLast,e.fStarted⟩]))) else some (.next xs):=by
   unfold D9;rw[AA (by simp)];simp only[KK,M8,Kx,Lb];rw[A6 (by omega) (by omega),AQ (by omega) (by simp;omega),A6 (by omega) (by omega)]
   cases hd:decide (1<e.fLeft) with
   | true=>
    rw[AA (by simp at hd ⊢;omega)];rfl
   | false=>
    rw[As (by simp at hd ⊢;omega),A6 (by omega) (by omega),BO (by omega) (by simp;omega),T3];rfl
  rw[BE,hb1]
  cases hd:decide (1<e.fLeft) with
  | true=>exact⟨_,rfl,by simp[By,Ee,LZ,hd,hxs]⟩
  | false=>
   obtain⟨o,ho1,ho2⟩:=LM S F (by omega) (λe he=>hb e (by simp[he])) (by omega);rw[hxs] at ho1;exact⟨o,ho1,by rw[ho2];simp[LZ,hd]⟩
theorem MO {S:List A1}{F:Nat}(hF:S.length<F)(hb:∀e∈S,1≤e.fLeft∧e.fLeft≤9223372036854775807)(hl:S.length≤4611686018427387904):Kt F S.reverse=some (LZ S).reverse:=by
 obtain⟨o,h1,h2⟩:=LM S F hF hb hl;unfold Kt;rw[A8 h1,h2]
def Lo (s:Ag):Int:=s.length+2+s.count 34+s.count 92
theorem MK {s:Ag}(hs:s.length≤1152921504606846976):Jb s=some (Lo s):=by
 have h1:s.count 34≤s.length:=List.count_le_length;have h2:s.count 92≤s.length:=List.count_le_length;unfold Jb Lib.countByte;rw[A6 (by omega) (by omega),A6 (by omega) (by omega),A6 (by omega) (by omega)];rfl
def Zh (c:Aa):Int:=
 bif decide (c.fKind=1) then 4 else bif decide (c.fKind=2) then IntKind.wrap .i64 (5-c.fInt) else bif decide (c.fKind=3) then((Lib.itoa c.fInt).length:Int) else
 bif decide (c.fKind=4) then Lo c.fStr else IntKind.wrap .i64 (2+max 0 (IntKind.wrap .i64 (c.fN-1)))
theorem PP {c:Aa}(hs:c.fStr.length≤1152921504606846976)(hi:B7 .i64 c.fInt=true):PQ c=some (Zh c):=by
 unfold PQ Zh;rw[MK hs];refine DW rfl (DW rfl (DW ?_ (DW rfl rfl)));rw[B9 hi]
def Iy (d:Nat)(sh:AC)(c:Aa):AC:=
 ⟨max sh.fDepth ((d:Int)+1),IntKind.wrap .i64 (sh.fBytes+Zh c),sh.fOutside||(decide (c.fKind=3)&&!(decide ((-1000000000000)≤c.fInt)&&decide (c.fInt≤1000000000000))),sh.fLong||decide (200<(c.fStr.length:Int))⟩
def shk (sh:AC)(c:Aa):AC:=⟨sh.fDepth,IntKind.wrap .i64 (sh.fBytes+(Lo c.fStr+1)),sh.fOutside,sh.fLong||decide (200<(c.fStr.length:Int))⟩
def Lx:List A1→Bool
 | []=>false
 | e::_=>e.fKey
abbrev PC:=List A1×Int×AC
abbrev YW:=Out (Int×AC×Bool) AC
def Ro (n:Int)(S:List A1)(i:Int)(sh:AC)(c:Aa):Stp PC YW:=
 bif !pl c then .out (.ret (0,sh,false)) else
 match S with
 | e::S'=>
  bif e.fKey then
   bif !decide (c.fKind=4)||(e.fStarted&&(B3 c.fStr e.fLast||decide (c.fStr=e.fLast))) then .out (.ret (0,sh,false))
   else .next ((⟨e.fPairs,e.fLeft,false,c.fStr,true⟩::S').reverse,i+1,shk sh c)
  else bif decide (0<c.fN) then
   bif decide (n<c.fN) then .out (.ret (0,Iy S.length sh c,false))
   else .next ((⟨decide (c.fKind=6),c.fN,decide (c.fKind=6),[],false⟩::S).reverse,i+1,Iy S.length sh c)
  else bif decide (LZ S=[]) then .out (.ret (i+1,Iy S.length sh c,true)) else .next ((LZ S).reverse,i+1,Iy S.length sh c)
 | []=>
  bif decide (0<c.fN) then
   bif decide (n<c.fN) then .out (.ret (0,Iy 0 sh c,false))
   else .next ([⟨decide (c.fKind=6),c.fN,decide (c.fKind=6),[],false⟩],i+1,Iy 0 sh c)
  else .out (.ret (i+1,Iy 0 sh c,true))
theorem NE {S:List A1}:decide (((LZ S).reverse.length:Int)=0)=decide (LZ S=[]):=by
 rw[Abz];simp
theorem Aay {α:Type}{xs:List α}{e x:α}{M:Nat}(h:xs.length+1≤M)(hM2:(M+2)*48≤140737488355328):Dw 48 ((xs++[e]).length+([x]:List α).length)=true:=by
 refine Abm (Nat.le_trans (Nat.mul_le_mul_right 48 ?_) hM2);rw[Abq,Ab6,Ab6];omega
set_option maxHeartbeats 600000 in
theorem PV {F:Nat}{v:List Aa}{S:List A1}{i:Int}{sh:AC}{c:Aa}(h0:0≤i)(hc:v[i.toNat]? =some c){M:Nat}(hM:M≤1152921504606846976)(hM2:(M+2)*48≤140737488355328)(hv:v.length≤M)(hS:S.length≤M)(hF:M<F)
  (hs:c.fStr.length≤M) (hi:B7 .i64 c.fInt=true) (hb:∀e∈S,1≤e.fLeft∧e.fLeft≤9223372036854775807):D8 F v S.reverse i sh=some (Ro v.length S i sh c):=by
 have hil:i.toNat<v.length:=(List.getElem?_eq_some_iff.1 hc).1;have hat:Ap v i=c:=by simp[Ap,hc]
 unfold D8 Ro;rw[AA (by simp;omega),AQ h0 (by omega),hat,Tx (by omega) (by omega),A8 rfl]
 cases hp:pl c with
 | false=>rw[AA (by simp)];rfl
 | true=>
  rw[As (by simp)]
  cases S with
  | nil=>
   rw[B9 (by simp[imp]),B9 (by simp[imp]),As (by simp),A6 (by simp) (by simp),PP (by omega) hi,A8 rfl,B9 (by simp[imp,Bz])];simp only[Bz,ov,AbD,Abw,Abk]
   cases hn:decide (0<c.fN) with
   | true=>
    rw[AA rfl]
    cases hm:decide ((v.length:Int)<c.fN) with
    | true=>rw[AA rfl];simp[Iy]
    | false=>rw[As rfl,B9 (by simp[Dw])];unfold DV;rw[A6 (by omega) (by omega)];simp[Iy]
   | false=>
    rw[As rfl,A8 (MO (S:=[]) (by simp;omega) (by simp) (by simp)),AA (by simp[LZ]),A6 (by omega) (by omega)];simp[Iy]
  | cons e S'=>
   have hx:S'.reverse.length=S'.length:=by simp
   generalize hxs:S'.reverse=xs at hx;have hr:(e::S').reverse=xs++[e]:=by simp[hxs]
   simp only[Abl] at hS;have hlen:((xs++[e]).length:Int)=(xs.length:Int)+1:=by simp
   rw[hr,B9 (by simp only[imp,KK];rw[IG (by omega) (by omega)];simp),B9 (by simp only[imp,KK];rw[Px (by omega) (by omega)];simp)];rw[KK,M8]
   cases hk:e.fKey with
   | true=>
    rw[AA (by simp),A6 (by omega) (by omega),AQ (by omega) (by omega)];simp only[hk,Abw,Abk,Abr]
    cases ht : !decide (c.fKind=4)||(e.fStarted&&(B3 c.fStr e.fLast||decide (c.fStr=e.fLast))) with
    | true=>rw[AA rfl];rfl
    | false=>
     rw[As rfl,Kx,Lb,M8,Kx,Lb,M8,Kx,Lb,MK (by omega),A8 rfl,A6 (by unfold Lo;omega) (by unfold Lo;have:=@List.count_le_length UInt8 _ 34 c.fStr;have:=@List.count_le_length UInt8 _ 92 c.fStr;omega)];unfold DV;rw[A6 (by omega) (by omega)];simp[shk,hxs]
   | false=>
    rw[As (by simp),hlen,A6 (by omega) (by omega),PP (by omega) hi,A8 rfl,B9 (by simp[imp,Bz])];simp only[hk,Bz,ov,AbD,Abw,Abk,Abr]
    cases hn:decide (0<c.fN) with
    | true=>
     rw[AA rfl]
     cases hm:decide ((v.length:Int)<c.fN) with
     | true=>rw[AA rfl];simp[Iy,hx]
     | false=>rw[As rfl,B9 (Aay (by omega) hM2)];unfold DV;rw[A6 (by omega) (by omega)];simp[Iy,hx,hxs]
    | false=>
     have hcl:=MO (S:=e::S') (F:=F) (by simp;omega) hb (by simp;omega);rw[hr] at hcl;rw[As rfl,hcl,A8 rfl,NE]
     cases hq:decide (LZ (e::S')=[]) with
     | true=>rw[AA rfl,A6 (by omega) (by omega)];simp[Iy,hx]
     | false=>rw[As rfl];unfold DV;rw[A6 (by omega) (by omega)];simp[Iy,hx]
section
variable {S O : Type} {body : S → Option (Stp S O)} {s t u : S} {o : O}
def DX (body:S→Option (Stp S O))(s t:S):Prop:=∃k,∀n,BE body (n+k) s=BE body n t
def Fin (body:S→Option (Stp S O))(s:S)(o:O):Prop:=∃k,∀n,BE body (n+k) s=some o
theorem DX.refl (s:S):DX body s s:=⟨0,λ_=>rfl⟩
theorem DX.trans (h:DX body s t)(h':DX body t u):DX body s u:=by
 obtain⟨k,hk⟩:=h;obtain⟨j,hj⟩:=h';exact⟨j+k,λn=>by rw[← Nat.add_assoc,hk,hj]⟩
theorem DX.step (h:body s=some (.next t)):DX body s t:=⟨1,λn=>by rw[BE,h]⟩
theorem Fin.step (h:body s=some (.out o)):Fin body s o:=⟨1,λn=>by rw[BE,h]⟩
theorem DX.fin (h:DX body s t)(h':Fin body t o):Fin body s o:=by
 obtain⟨k,hk⟩:=h;obtain⟨j,hj⟩:=h';exact⟨j+k,λn=>by rw[← Nat.add_assoc,hk,hj]⟩
end
inductive Fo where
 | nil
 | cell (k:Option Ag) (c:Aa) (r:Fo)
 | node (k:Option Ag) (c:Aa) (kids r:Fo)
def Bd:Option Ag→List Aa
 | none=>[]
 | some s=>[⟨4,0,s,0⟩]
def Fo.flat:Fo→List Aa
 | .nil=>[]
 | .cell k c r=>Bd k++c::r.flat
 | .node k c kids r=>Bd k++c::(kids.flat++r.flat)
def Fo.cnt:Fo→Nat
 | .nil=>0
 | .cell _ _ r=>r.cnt+1
 | .node _ _ _ r=>r.cnt+1
def Bp (m:Bool)(last:Option Ag):Option Ag→Bool
 | none=>!m
 | some s=>m&&s.all J1&&(match last with
  | none=>true
  | some p=>!(B3 s p||decide (s=p)))
def Fo.wf:Bool→Option Ag→Fo→Bool
 | _,_,.nil=>true
 | m,last,.cell k c r=>Bp m last k&&pl c&&!decide (0<c.fN)&&r.wf m k
 | m,last,.node k c kids r=>Bp m last k&&pl c&&decide (0<c.fN)&&decide (c.fN=kids.cnt)&&kids.wf (decide (c.fKind=6)) none&&r.wf m k
def LP (k:Option Ag)(sh:AC):AC:=match k with
 | none=>sh
 | some s=>shk sh ⟨4,0,s,0⟩
def Fo.sh (d:Nat):AC→Fo→AC
 | s,.nil=>s
 | s,.cell k c r=>r.sh d (Iy d (LP k s) c)
 | s,.node k c kids r=>r.sh d (kids.sh (d+1) (Iy d (LP k s) c))
def Hu (body:PC→Option (Stp PC YW))(s:PC)(S:List A1)(i:Int)(sh:AC):Prop:=
 if LZ S=[] then Fin body s (.ret (i,sh,true)) else DX body s ((LZ S).reverse,i,sh)
theorem Hu.of {body:PC→Option (Stp PC YW)}{s t:PC}{S:List A1}{i:Int}{sh:AC}(h:DX body s t)(h':Hu body t S i sh):Hu body s S i sh:=by
 unfold Hu at *
 split
 ·rename_i e;rw[AbY e] at h';exact h.fin h'
 ·rename_i e;rw[AbN e] at h';exact h.trans h'
theorem Hu.pop {body:PC→Option (Stp PC YW)}{s:PC}{e:A1}{S:List A1}{i:Int}{sh:AC}(h:Hu body s (e::S) i sh)(h1:e.fLeft=1):Hu body s S i sh:=by
 have:LZ (e::S)=LZ S:=by simp[LZ,h1]
 unfold Hu at *;rw[this] at h;exact h
theorem Hu.more {body:PC→Option (Stp PC YW)}{s:PC}{e:A1}{S:List A1}{i:Int}{sh:AC}(h:Hu body s (e::S) i sh)(h1:1<e.fLeft):DX body s ((⟨e.fPairs,e.fLeft-1,e.fPairs,e.fLast,e.fStarted⟩::S).reverse,i,sh):=by
 have:LZ (e::S)=⟨e.fPairs,e.fLeft-1,e.fPairs,e.fLast,e.fStarted⟩::S:=by simp[LZ,h1]
 unfold Hu at *;rw[this,AbN (by simp)] at h;exact h
structure Tk (F M:Nat) (v:List Aa):Prop where
 hM:M≤1152921504606846976
 hM2:(M+2)*48≤140737488355328
 hv:v.length≤M
 hF:M<F
 hc:∀c∈v,c.fStr.length≤M∧B7 .i64 c.fInt=true∧c.fN≤9223372036854775807
abbrev QF (F:Nat)(v:List Aa):PC→Option (Stp PC YW):=λσ=>D8 F v σ.1 σ.2.1 σ.2.2
def DC (S:List A1):Prop:=∀e∈S,1≤e.fLeft∧e.fLeft≤9223372036854775807
section
variable {F M : Nat} {v : List Aa} {S : List A1} {i : Int} {sh : AC} {c : Aa} {r : List Aa} {e : A1}
theorem BU (h0:0≤i)(h:v.drop i.toNat=c::r):v[i.toNat]? =some c∧v.drop (i+1).toNat=r∧i<v.length:=by
 have h1:(v.drop i.toNat)[0]? =some c:=by rw[h];rfl
 have h2:v[i.toNat]? =some c:=by simpa using h1
 have h3:=(List.getElem?_eq_some_iff.1 h2).1;refine⟨h2,?_,by omega⟩;rw[show(i+1).toNat=i.toNat+1 from by omega,← Aci,h];rfl
theorem round (hA:Tk F M v)(h0:0≤i)(h:v.drop i.toNat=c::r)(hS:(S.length:Int)≤i)(hb:DC S):QF F v (S.reverse,i,sh)=some (Ro v.length S i sh c):=by
 obtain⟨h1,_,h3⟩:=BU h0 h;obtain⟨a,b,_⟩:=hA.hc c (Abv h1);have:=hA.hv;exact PV h0 h1 hA.hM hA.hM2 hA.hv (by omega) hA.hF a b hb
def Gi (e:A1):Option Ag→A1
 | none=>e
 | some s=>⟨e.fPairs,e.fLeft,false,s,true⟩
def IE (e:A1):Option Ag→Prop
 | none=>e.fStarted=false
 | some p=>e.fStarted=true∧e.fLast=p
theorem Ns (hA:Tk F M v)(h0:0≤i){k last:Option Ag}(h:v.drop i.toNat=Bd k++r)(hS:(S.length:Int)+1≤i)(hb:DC (e::S))(hk:Bp e.fKey last k=true)(hl:IE e last) :
  DX (QF F v) ((e::S).reverse,i,sh) ((Gi e k::S).reverse,i+(Bd k).length,LP k sh):=by
 cases k with
 | none=>simpa[Gi,Bd,LP] using DX.refl _
 | some s=>
  simp only[Bp,Abp] at hk;obtain⟨⟨hm,hok⟩,hcmp⟩:=hk;refine DX.step ?_;rw[round hA h0 (by simpa[Bd] using h) (by simpa using hS) hb];have hp:pl ⟨4,0,s,0⟩=true:=by simp[pl,hok]
  have ht:(e.fStarted&&(B3 s e.fLast||decide (s=e.fLast)))=false:=by
   cases last with
   | none=>simp only[IE] at hl;rw[hl];rfl
   | some p=>obtain⟨h1,h2⟩:=hl;rw[h1,h2];simpa using hcmp
  simp only[Ro,hp,hm,ht,Abw,Abk,Abr,decide_true,AbI,Bool.or_self];rfl
theorem Lw {k last:Option Ag}(hk:Bp e.fKey last k=true):(Gi e k).fKey=false:=by
 cases k with
 | none=>simpa[Gi,Bp] using hk
 | some s=>rfl
theorem JZ (k:Option Ag):(Gi e k).fLeft=e.fLeft∧(Gi e k).fPairs=e.fPairs:=by cases k<;>exact⟨rfl,rfl⟩
theorem Lt (hA:Tk F M v)(h0:0≤i)(h:v.drop i.toNat=c::r)(hS:(S.length:Int)≤i)(hb:DC S)(hk:Lx S=false)(hp:pl c=true)(hn:decide (0<c.fN)=false) :
  Hu (QF F v) (S.reverse,i,sh) S (i+1) (Iy S.length sh c):=by
 have hr:=round (sh:=sh) hA h0 h hS hb;unfold Hu
 cases S with
 | nil=>
  rw[AbY (by simp[LZ])];refine Fin.step ?_;rw[hr];simp[Ro,hp,hn]
 | cons e S=>
  simp only[Lx] at hk
  split
  ·rename_i hc
   refine Fin.step ?_;rw[hr];simp[Ro,hp,hn,hk,hc]
  ·rename_i hc
   refine DX.step ?_;rw[hr];simp[Ro,hp,hn,hk,hc]
theorem Jk (hA:Tk F M v)(h0:0≤i)(h:v.drop i.toNat=c::r)(hS:(S.length:Int)≤i)(hb:DC S)(hk:Lx S=false)(hp:pl c=true)(hn:decide (0<c.fN)=true)(hv:c.fN≤v.length) :
  DX (QF F v) (S.reverse,i,sh) ((⟨decide (c.fKind=6),c.fN,decide (c.fKind=6),[],false⟩::S).reverse,i+1,Iy S.length sh c):=by
 have hr:=round (sh:=sh) hA h0 h hS hb;have hv':decide ((v.length:Int)<c.fN)=false:=by simpa using hv
 refine DX.step ?_;rw[hr]
 cases S with
 | nil=>simp only[Ro,hp,hn,hv',Abw,Abk,Abr];rfl
 | cons e S=>
  simp only[Lx] at hk;simp only[Ro,hp,hn,hv',hk,Abw,Abk,Abr]
theorem BS:∀f:Fo,f.cnt≤f.flat.length
 | .nil=>Ab3 _
 | .cell k c r=>by have:=BS r;simp[Fo.cnt,Fo.flat];omega
 | .node k c kids r=>by have:=BS r;simp[Fo.cnt,Fo.flat];omega
theorem Co {α:Type}{v xs r:List α}{i:Int}(h0:0≤i)(h:v.drop i.toNat=xs++r):v.drop (i+xs.length).toNat=r:=by
 rw[show(i+(xs.length:Int)).toNat=i.toNat+xs.length from by omega,← Aci,h,List.drop_left]
theorem Qe (hA:Tk F M v){e':A1}{s:PC}{k:Option Ag}{r':Fo}
  (ih:∀(e:A1) (S:List A1) (i:Int) (sh:AC) (last:Option Ag) (r:List Aa),1≤r'.cnt→r'.wf e.fPairs last=true→e.fKey=e.fPairs→e.fLeft=r'.cnt→IE e last→(e.fPairs=false→last=none)→v.drop i.toNat=r'.flat++r→0≤i→(S.length:Int)+1≤i→DC S→
   Hu (QF F v) ((e::S).reverse,i,sh) S (i+r'.flat.length) (r'.sh (S.length+1) sh))
  (hd:Hu (QF F v) s (e'::S) i sh) (hl:e'.fLeft=r'.cnt+1) (hw:r'.wf e'.fPairs k=true) (hk:IE e' k) (hm:e'.fPairs=false→k=none) (hv:v.drop i.toNat=r'.flat++r) (h0:0≤i) (hS:(S.length:Int)+1≤i) (hb:DC S) :
  Hu (QF F v) s S (i+r'.flat.length) (r'.sh (S.length+1) sh):=by
 by_cases h1:r'.cnt=0
 ·cases r' with
  | nil=>simpa[Fo.flat,Fo.sh] using hd.pop (by rw[hl];rfl)
  | cell _ _ _=>simp[Fo.cnt] at h1
  | node _ _ _ _=>simp[Fo.cnt] at h1
 ·have:=hd.more (by omega);refine Hu.of this (ih _ S i sh k r (by omega) hw rfl (by simp only;omega) ?_ hm hv h0 hS hb)
  cases k with
  | none=>exact hk
  | some p=>exact hk
theorem Ka {k last:Option Ag}(hl:IE e last)(hm:e.fPairs=false→last=none)(hk:Bp e.fPairs last k=true):IE (Gi e k) k∧((Gi e k).fPairs=false→k=none):=by
 cases k with
 | none=>
  have:e.fPairs=false:=by simpa[Bp] using hk
  rw[hm this] at hl;exact⟨hl,λ_=>rfl⟩
 | some s=>
  refine⟨⟨rfl,rfl⟩,λh=>?_⟩;have h:e.fPairs=false:=h;simp[Bp,h] at hk
theorem LY (hA:Tk F M v):∀(f:Fo) (e:A1) (S:List A1) (i:Int) (sh:AC) (last:Option Ag) (r:List Aa),1≤f.cnt→f.wf e.fPairs last=true→e.fKey=e.fPairs→e.fLeft=f.cnt→IE e last→(e.fPairs=false→last=none)→v.drop i.toNat=f.flat++r→0≤i→(S.length:Int)+1≤i→DC S→
   Hu (QF F v) ((e::S).reverse,i,sh) S (i+f.flat.length) (f.sh (S.length+1) sh):=by
 have hmax:∀(i:Int) (xs:List Aa),0≤i→v.drop i.toNat=xs→xs.length≤v.length:=λi xs _ h=>by rw[← h,Acg];omega
 intro f
 induction f with
 | nil=>intro e S i sh last r h1;simp[Fo.cnt] at h1
 | cell k c r' ih=>
  intro e S i sh last r h1 hw hk hl hlo hm hv h0 hS hb;simp only[Fo.wf,Abp,Ab0] at hw;obtain⟨⟨⟨w1,w2⟩,w3⟩,w4⟩:=hw;simp only[Fo.flat,Ab2,AbP] at hv;have hcnt:=hmax i _ h0 hv;have hcf:=BS r';simp only[Abq,Abl] at hcnt;have hvM:=hA.hv;have hMM:=hA.hM;simp only[Fo.cnt] at hl;have hb':DC (e::S):=λx hx=>by
   rcases List.mem_cons.1 hx with rfl | hx
   ·constructor<;>omega
   ·exact hb x hx
  have hkr:=Ns (sh:=sh) hA h0 hv hS hb' (by rw[hk];exact w1) hlo;have hv1:=Co h0 hv;obtain⟨kl,kp⟩:=JZ (e:=e) k;have hbk:DC (Gi e k::S):=λx hx=>by
   rcases List.mem_cons.1 hx with rfl | hx
   ·rw[kl];exact hb' e (by simp)
   ·exact hb x hx
  have hd:=Lt (sh:=LP k sh) hA (by omega) hv1 (by simp only[Abl];omega) hbk (Lw (by rw[hk];exact w1)) w2 w3;obtain⟨q1,q2⟩:=Ka hlo hm w1;have hv2:=(BU (by omega) hv1).2.1;have:=Qe hA ih (hd.of hkr) (by rw[kl,hl];rfl) (by rw[kp];exact w4) q1 q2 hv2 (by omega) (by omega) hb;simp only[Fo.flat,Fo.sh,Abq,Abl];rw[show i+((((Bd k).length+(r'.flat.length+1):Nat)):Int)=i+(Bd k).length+1+r'.flat.length from by omega];exact this
 | node k c kids r' ihk ih=>
  intro e S i sh last r h1 hw hk hl hlo hm hv h0 hS hb;simp only[Fo.wf,Abp,Abh] at hw;obtain⟨⟨⟨⟨⟨w1,w2⟩,w3⟩,w5⟩,w6⟩,w4⟩:=hw;simp only[Fo.flat,Ab2,AbP] at hv;have hcnt:=hmax i _ h0 hv;have hcf:=BS r';have hck:=BS kids;simp only[Abq,Abl] at hcnt;have hvM:=hA.hv;have hMM:=hA.hM;simp only[Fo.cnt] at hl;have hb':DC (e::S):=λx hx=>by
   rcases List.mem_cons.1 hx with rfl | hx
   ·constructor<;>omega
   ·exact hb x hx
  have hkr:=Ns (sh:=sh) hA h0 hv hS hb' (by rw[hk];exact w1) hlo;have hv1:=Co h0 hv;obtain⟨kl,kp⟩:=JZ (e:=e) k;have hbk:DC (Gi e k::S):=λx hx=>by
   rcases List.mem_cons.1 hx with rfl | hx
   ·rw[kl];exact hb' e (by simp)
   ·exact hb x hx
  have hn:=Jk (sh:=LP k sh) hA (by omega) hv1 (by simp only[Abl];omega) hbk (Lw (by rw[hk];exact w1)) w2 (by simpa using w3) (by omega);have hv2:=(BU (by omega) hv1).2.1;have hd:=ihk ⟨decide (c.fKind=6),c.fN,decide (c.fKind=6),[],false⟩ (Gi e k::S) (i+(Bd k).length+1) (Iy (S.length+1) (LP k sh) c) none _ (by omega) w6 rfl w5 rfl (λ_=>rfl) hv2 (by omega) (by simp only[Abl];omega) hbk;obtain⟨q1,q2⟩:=Ka hlo hm w1;have hv3:=Co (by omega) hv2;have:=Qe hA ih ((hd.of hn).of hkr) (by rw[kl,hl];rfl) (by rw[kp];exact w4) q1 q2 hv3 (by omega) (by omega) hb;simp only[Fo.flat,Fo.sh,Abq,Abl];rw[show i+((((Bd k).length+(kids.flat.length+r'.flat.length+1):Nat)):Int)=i+(Bd k).length+1+kids.flat.length+r'.flat.length from by omega];exact this
end
theorem QC {S O:Type}{body:S→Option (Stp S O)}{o:O}:∀{n:Nat} {s:S} (k:Nat),BE body n s=some o→BE body (n+k) s=some o
 | 0,s,k,h=>by cases h
 | n+1,s,k,h=>by
  rw[show n+1+k=n+k+1 from by omega,BE];rw[BE] at h
  cases hb:body s with
  | none=>rw[hb] at h;cases h
  | some t=>
   rw[hb] at h
   cases t with
   | next s'=>exact QC k h
   | out o'=>exact h
theorem Fin.eq {S O:Type}{body:S→Option (Stp S O)}{s:S}{o o':O}{n:Nat}(h:Fin body s o)(h':BE body n s=some o'):o'=o:=by
 obtain⟨k,hk⟩:=h;have:=QC k h';rw[hk n] at this;exact(Az this).symm
theorem OO:∀{S:List A1},DC S→DC (LZ S)∧(LZ S).length≤S.length
 | [],h=>⟨h,Ab3 _⟩
 | e::S,h=>by
  have hS:DC S:=λx hx=>h x (by simp[hx]);have he:=h e (by simp);unfold LZ
  cases hd:decide (1<e.fLeft) with
  | true=>
   simp only[Abh] at hd;refine⟨λx hx=>?_,by simp⟩;rcases List.mem_cons.1 hx with rfl | hx
   ·simp only;omega
   ·exact hS x hx
  | false=>
   obtain⟨h1,h2⟩:=OO hS;exact⟨h1,by simp only[Abk,Abl];omega⟩
theorem We {n:Int}{S:List A1}{i:Int}{sh:AC}{c:Aa}{σ:PC}(hb:DC S)(hS:(S.length:Int)≤i)(hN:c.fN≤9223372036854775807)(h:Ro n S i sh c = .next σ):∃S' sh',σ=(S'.reverse,i+1,sh')∧DC S'∧(S'.length:Int)≤i+1:=by
 unfold Ro at h
 cases hp:pl c with
 | false=>simp[hp] at h
 | true=>
  simp only[hp,Abw,Abk] at h
  cases S with
  | nil=>
   simp only at h
   cases hn:decide (0<c.fN) with
   | false=>simp[hn] at h
   | true=>
    simp only[hn,Abr] at h
    cases hm:decide (n<c.fN) with
    | true=>simp[hm] at h
    | false=>
     simp only[hm,Abk,Stp.next.injEq] at h;refine⟨[_],_,h.symm,λx hx=>?_,by simp at hS ⊢;omega⟩;simp only[AbG] at hx;subst hx;simp only[Abh] at hn;exact⟨by simp only;omega,hN⟩
  | cons e S=>
   have he:=hb e (by simp);have hbS:DC S:=λx hx=>hb x (by simp[hx]);simp only[Abl] at hS
   cases hk:e.fKey with
   | true=>
    simp only[hk,Abr] at h
    cases hq:(!decide (c.fKind=4)||(e.fStarted&&(B3 c.fStr e.fLast||decide (c.fStr=e.fLast)))) with
    | true=>rw[hq] at h;simp at h
    | false=>
     rw[hq] at h;simp only[Abk,Stp.next.injEq] at h;refine⟨_::S,_,h.symm,λx hx=>?_,by simp only[Abl];omega⟩;rcases List.mem_cons.1 hx with rfl | hx
     ·exact he
     ·exact hbS x hx
   | false=>
    simp only[hk,Abk] at h
    cases hn:decide (0<c.fN) with
    | true=>
     simp only[hn,Abr] at h
     cases hm:decide (n<c.fN) with
     | true=>simp[hm] at h
     | false=>
      simp only[hm,Abk,Stp.next.injEq] at h;refine⟨_::e::S,_,h.symm,λx hx=>?_,by simp only[Abl];omega⟩;rcases List.mem_cons.1 hx with rfl | hx
      ·simp only[Abh] at hn;exact⟨by simp only;omega,hN⟩
      ·exact hb x hx
    | false=>
     simp only[hn,Abk] at h
     cases hq:decide (LZ (e::S)=[]) with
     | true=>rw[hq] at h;simp at h
     | false=>
      rw[hq] at h;simp only[Abk,Stp.next.injEq] at h;obtain⟨h1,h2⟩:=OO hb;simp only[Abl] at h2;exact⟨_,_,h.symm,h1,by omega⟩
theorem Nm {F M:Nat}{v:List Aa}(hA:Tk F M v):∃o,BE (QF F v) F (([]:List A1),0,(⟨0,0,false,false⟩:AC))=some o∧True:=by
 refine Ew (λσ=>∃S i sh,σ=(S.reverse,i,sh)∧DC S∧(S.length:Int)≤i∧0≤i∧i≤v.length) (λσ=>v.length-σ.2.1.toNat) (λ_=>True) (λσ hI=>?_) F _ ⟨[],0,_,rfl,(λx hx=>by cases hx),Ab4 _,Ab4 _,by omega⟩ (by have:=hA.hv;have:=hA.hF;simp;omega);obtain⟨S,i,sh,rfl,hb,hS,h0,hi⟩:=hI
 by_cases hx:i<v.length
 ·obtain⟨c,hc⟩:∃c,v[i.toNat]? =some c:=⟨v[i.toNat]'(by omega),Abs (by omega)⟩
  have hdr:v.drop i.toNat=c::v.drop (i.toNat+1):=by rw[List.drop_eq_getElem_cons (by omega)];congr 1;exact(List.getElem?_eq_some_iff.1 hc).2
  have hr:=round (sh:=sh) hA h0 hdr hS hb
  cases hl:Ro v.length S i sh c with
  | next τ=>
   obtain⟨S',sh',rfl,h1,h2⟩:=We hb hS (hA.hc c (Abv hc)).2.2 hl;exact .inl ⟨_,by rw[hr,hl],⟨S',i+1,sh',rfl,h1,h2,by omega,by omega⟩,by simp only;omega⟩
  | out o=>exact .inr ⟨o,by rw[hr,hl],trivial⟩
 ·refine .inr ⟨.go sh,?_,trivial⟩;show D8 F v S.reverse i sh=_;unfold D8;rw[As (by simpa using hx)]
def Fo.one:Fo→Bool
 | .cell none _ .nil=>true
 | .node none _ _ .nil=>true
 | _=>false
def MU:AC:=⟨0,0,false,false⟩
theorem Wd {F M:Nat}{v:List Aa}(hA:Tk F M v){f:Fo}(h1:f.one=true)(hw:f.wf false none=true){r:List Aa}(hv:v=f.flat++r):Fin (QF F v) ([],0,MU) (.ret (f.flat.length,f.sh 0 MU,true)):=by
 have h0:v.drop (0:Int).toNat=f.flat++r:=by rw[hv];rfl
 have hlen:f.flat.length≤v.length:=by rw[hv];simp
 cases f with
 | nil=>cases h1
 | cell k c r'=>
  cases k with
  | some s=>cases h1
  | none=>
   cases r' with
   | nil=>
    simp only[Fo.wf,Abp,Ab0] at hw;have:=Lt (S:=[]) (sh:=MU) hA (Ab4 0) h0 (by simp) (λx hx=>by cases hx) rfl hw.1.1.2 hw.1.2;unfold Hu at this;rw[AbY (show LZ []=[] from rfl)] at this;simpa[Fo.flat,Fo.sh,Bd,LP] using this
   | cell _ _ _=>cases h1
   | node _ _ _ _=>cases h1
 | node k c kids r'=>
  cases k with
  | some s=>cases h1
  | none=>
   cases r' with
   | nil=>
    simp only[Fo.wf,Abp,Abh] at hw;obtain⟨⟨⟨⟨⟨w1,w2⟩,w3⟩,w5⟩,w6⟩,w4⟩:=hw;have hck:=BS kids;simp only[Fo.flat,Bd,AbJ,AbK,Abl] at hlen;have hvM:=hA.hv;have hMM:=hA.hM;have hn:=Jk (S:=[]) (sh:=MU) hA (Ab4 0) h0 (by simp) (λx hx=>by cases hx) rfl w2 (by simpa using w3) (by omega);have hv2:=(BU (Ab4 0) h0).2.1;have hd:=LY hA kids ⟨decide (c.fKind=6),c.fN,decide (c.fKind=6),[],false⟩ [] (0+1) (Iy 0 MU c) none r (by omega) w6 rfl w5 rfl (λ_=>rfl) (by rw[hv2];simp[Fo.flat]) (by omega) (by simp) (λx hx=>by cases hx);unfold Hu at hd;rw[AbY (show LZ []=[] from rfl)] at hd;have:=hn.fin hd;have e:((0:Int)+1+kids.flat.length)=((Fo.node none c kids .nil).flat.length:Int):=by simp[Fo.flat,Bd];omega
    rw[e] at this;exact this
   | cell _ _ _=>cases h1
   | node _ _ _ _=>cases h1
theorem QE {F M:Nat}{v:List Aa}(hA:Tk F M v){f:Fo}(h1:f.one=true)(hw:f.wf false none=true){r:List Aa}(hv:v=f.flat++r):Ip F v=some ((f.flat.length:Int),f.sh 0 MU,true):=by
 obtain⟨o,ho,_⟩:=Nm hA;have e:=(Wd hA h1 hw hv).eq ho;subst e;unfold Ip;rw[A8 ho];rfl
def Ia (m:Bool)(last:Option Ag)(xs:List Aa):Option (Option Ag×List Aa):=
 bif m then match xs with
  | []=>none
  | c::r=>bif pl c&&decide (c.fKind=4)&&Bp true last (some c.fStr) then some (some c.fStr,r) else none
 else some (none,xs)
def HS:Nat→Bool→Option Ag→Nat→List Aa→Option (Fo×List Aa)
 | 0,_,_,_,_=>none
 | _+1,_,_,0,xs=>some (.nil,xs)
 | F+1,m,last,k+1,xs=>
  match Ia m last xs with
  | none=>none
  | some (_,[])=>none
  | some (key,c::xs')=>
   bif !pl c then none else
   bif decide (0<c.fN) then
    match HS F (decide (c.fKind=6)) none c.fN.toNat xs' with
    | none=>none
    | some (kids,ys)=>match HS F m key k ys with
     | none=>none
     | some (r,zs)=>some (.node key c kids r,zs)
   else match HS F m key k xs' with
    | none=>none
    | some (r,zs)=>some (.cell key c r,zs)
theorem Pj {c:Aa}(hp:pl c=true)(hk:c.fKind=4):c=⟨4,0,c.fStr,0⟩∧c.fStr.all J1=true:=by
 cases c
 simp only at hk;subst hk;simp[pl] at hp;obtain⟨h1,h2,h3⟩:=hp;subst h1;subst h2;exact⟨rfl,by simpa using h3⟩
theorem Mw {m:Bool}{last key:Option Ag}{xs r:List Aa}(h:Ia m last xs=some (key,r)):xs=Bd key++r∧Bp m last key=true:=by
 unfold Ia at h
 cases m with
 | false=>cases h;exact⟨rfl,rfl⟩
 | true=>
  simp only[Abr] at h
  cases xs with
  | nil=>cases h
  | cons c r'=>
   simp only at h
   cases hb:(pl c&&decide (c.fKind=4)&&Bp true last (some c.fStr)) with
   | false=>rw[hb] at h;cases h
   | true=>
    rw[hb] at h;simp only[Abp,Abh] at hb
    cases h
    exact⟨by rw[(Pj hb.1.1 hb.1.2).1];rfl,hb.2⟩
theorem Hl:∀(F:Nat) (m:Bool) (last:Option Ag) (k:Nat) (xs:List Aa) (f:Fo) (ys:List Aa),HS F m last k xs=some (f,ys)→xs=f.flat++ys∧f.wf m last=true∧f.cnt=k
 | 0,_,_,_,_,_,_,h=>by cases h
 | F+1,m,last,0,xs,f,ys,h=>by cases h;exact⟨rfl,rfl,rfl⟩
 | F+1,m,last,k+1,xs,f,ys,h=>by
  rw[HS] at h
  cases hk:Ia m last xs with
  | none=>rw[hk] at h;cases h
  | some p=>
   obtain⟨key,r⟩:=p;obtain⟨h1,h2⟩:=Mw hk;rw[hk] at h
   cases r with
   | nil=>cases h
   | cons c xs'=>
    simp only at h
    cases hp:pl c with
    | false=>rw[hp] at h;cases h
    | true=>
     rw[hp] at h;simp only[Abw,Abk] at h
     cases hn:decide (0<c.fN) with
     | true=>
      rw[hn] at h;simp only[Abr] at h
      cases hq:HS F (decide (c.fKind=6)) none c.fN.toNat xs' with
      | none=>rw[hq] at h;cases h
      | some q=>
       obtain⟨kids,zs⟩:=q;rw[hq] at h;simp only at h
       cases hr:HS F m key k zs with
       | none=>rw[hr] at h;cases h
       | some q2=>
        obtain⟨r2,us⟩:=q2;rw[hr] at h;cases h;obtain⟨a1,a2,a3⟩:=Hl F _ _ _ _ _ _ hq;obtain⟨b1,b2,b3⟩:=Hl F _ _ _ _ _ _ hr;refine⟨by rw[h1,a1,b1];simp[Fo.flat],?_,by simp[Fo.cnt,b3]⟩;simp only[Abh] at hn;simp only[Fo.wf,h2,hp,a2,b2,AbA,Aby,Abp,Abh];omega
     | false=>
      rw[hn] at h;simp only[Abk] at h
      cases hr:HS F m key k xs' with
      | none=>rw[hr] at h;cases h
      | some q2=>
       obtain⟨r2,us⟩:=q2;rw[hr] at h;cases h;obtain⟨b1,b2,b3⟩:=Hl F _ _ _ _ _ _ hr;exact⟨by rw[h1,b1];simp[Fo.flat],by simp[Fo.wf,h2,hp,b2,hn],by simp[Fo.cnt,b3]⟩
theorem H5:∀(F F':Nat) (m:Bool) (last:Option Ag) (k:Nat) (xs:List Aa),xs.length<F→xs.length<F'→HS F m last k xs=HS F' m last k xs
 | 0,_,_,_,_,_,h,_=>by omega
 | _+1,0,_,_,_,_,_,h=>by omega
 | F+1,F'+1,m,last,0,xs,_,_=>rfl
 | F+1,F'+1,m,last,k+1,xs,h,h'=>by
  rw[HS,HS]
  cases hk:Ia m last xs with
  | none=>rfl
  | some p=>
   obtain⟨key,r⟩:=p;obtain⟨h1,h2⟩:=Mw hk
   cases r with
   | nil=>rfl
   | cons c xs'=>
    have hl:xs'.length<xs.length:=by rw[h1];simp;omega
    simp only
    cases hp:pl c with
    | false=>rfl
    | true=>
     simp only[Abw,Abk]
     cases hn:decide (0<c.fN) with
     | true=>
      simp only[Abr];rw[H5 F F' _ _ _ xs' (by omega) (by omega)]
      cases hq:HS F' (decide (c.fKind=6)) none c.fN.toNat xs' with
      | none=>rfl
      | some q=>
       obtain⟨kids,zs⟩:=q;have:=(Hl _ _ _ _ _ _ _ hq).1;have hz:zs.length≤xs'.length:=by rw[this];simp
       simp only;rw[H5 F F' m key k zs (by omega) (by omega)]
     | false=>
      simp only[Abk];rw[H5 F F' m key k xs' (by omega) (by omega)]
def Sl {S:Type}(body:S→Option (Stp S YW))(s:S):Prop:=∃sh',Fin body s (.ret (0,sh',false))∨Fin body s (.go sh')
theorem DX.bad {S:Type}{body:S→Option (Stp S YW)}{s t:S}(h:DX body s t)(h':Sl body t):Sl body s:=by
 obtain⟨sh',h' | h'⟩:=h'
 ·exact⟨sh',.inl (h.fin h')⟩
 ·exact⟨sh',.inr (h.fin h')⟩
section
variable {F M : Nat} {v : List Aa}
theorem Sl.end_ {S:List A1}{i:Int}{sh:AC}(h0:0≤i)(h:v.drop i.toNat=[]):Sl (QF F v) (S.reverse,i,sh):=by
 refine⟨sh,.inr (Fin.step ?_)⟩;show D8 F v S.reverse i sh=_;unfold D8;rw[As];have:v.length≤i.toNat:=by simpa using h
 simp;omega
theorem Sl.pl_ (hA:Tk F M v){S:List A1}{i:Int}{sh:AC}{c:Aa}{r:List Aa}(h0:0≤i)(h:v.drop i.toNat=c::r)(hS:(S.length:Int)≤i)(hb:DC S)(hp:pl c=false):Sl (QF F v) (S.reverse,i,sh):=by
 refine⟨sh,.inl (Fin.step ?_)⟩;rw[round hA h0 h hS hb];simp[Ro,hp]
theorem Sb (hA:Tk F M v):∀(P:Nat) (k:Nat) (e:A1) (S:List A1) (i:Int) (sh:AC) (last:Option Ag) (xs:List Aa),xs.length<P→HS P e.fPairs last (k+1) xs=none→e.fKey=e.fPairs→e.fLeft=(k:Int)+1→(k:Int)+1≤9223372036854775807→IE e last→(e.fPairs=false→last=none)→v.drop i.toNat=xs→0≤i→(S.length:Int)+1≤i→DC S→
  Sl (QF F v) ((e::S).reverse,i,sh):=by
 intro P
 induction P with
 | zero=>intro k e S i sh last xs h;omega
 | succ P ih=>
  intro k e S i sh last xs hP hn hk hl hkm hlo hm hv h0 hS hb;have hb':DC (e::S):=λx hx=>by
   rcases List.mem_cons.1 hx with rfl | hx
   ·constructor<;>omega
   ·exact hb x hx
  rw[HS] at hn
  cases hq:Ia e.fPairs last xs with
  | none=>
   unfold Ia at hq
   cases hpr:e.fPairs with
   | false=>rw[hpr] at hq;cases hq
   | true=>
    rw[hpr] at hq hk;simp only[Abr] at hq
    cases xs with
    | nil=>exact Sl.end_ h0 hv
    | cons c r=>
     simp only at hq
     cases hp:pl c with
     | false=>exact Sl.pl_ hA h0 hv (by simpa using hS) hb' hp
     | true=>
      refine⟨sh,.inl (Fin.step ?_)⟩;rw[round hA h0 hv (by simpa using hS) hb'];have ht:(!decide (c.fKind=4)||(e.fStarted&&(B3 c.fStr e.fLast||decide (c.fStr=e.fLast))))=true:=by
       rw[hp] at hq
       cases h4:decide (c.fKind=4) with
       | false=>rfl
       | true=>
        rw[h4] at hq;simp only[Bool.and_self,Aby] at hq;have hok:=(Pj hp (by simpa using h4)).2
        cases last with
        | none=>simp[Bp,hok] at hq
        | some p=>
         obtain⟨q1,q2⟩:=hlo;rw[q1,q2]
         cases hc:(B3 c.fStr p||decide (c.fStr=p)) with
         | true=>rfl
         | false=>simp[Bp,hok,hc] at hq
      simp only[Ro,hp,hk,ht,Abw,Abk,Abr]
  | some q=>
   obtain⟨key,r⟩:=q;obtain⟨h1,h2⟩:=Mw hq;rw[hq] at hn;have hkr:=Ns (sh:=sh) hA h0 (by rw[hv];exact h1) hS hb' (by rw[hk];exact h2) hlo;have hv1:=Co h0 (hv.trans h1);obtain⟨kl,kp⟩:=JZ (e:=e) key;obtain⟨q1,q2⟩:=Ka hlo hm h2;have hbk:DC (Gi e key::S):=λx hx=>by
    rcases List.mem_cons.1 hx with rfl | hx
    ·rw[kl];exact hb' e (by simp)
    ·exact hb x hx
   refine hkr.bad ?_
   cases r with
   | nil=>exact Sl.end_ (by omega) hv1
   | cons c xs'=>
    have hlen:xs'.length+1≤xs.length:=by rw[h1];simp
    have hvl:xs.length≤v.length:=by rw[← hv,Acg];omega
    have hvM:=hA.hv;have hMM:=hA.hM;have hkk:=Lw (e:=e) (last:=last) (k:=key) (by rw[hk];exact h2);simp only at hn;have hSk:(((Gi e key::S).length:Nat):Int)≤i+(Bd key).length:=by simp only[Abl];omega
    cases hp:pl c with
    | false=>exact Sl.pl_ hA (by omega) hv1 hSk hbk hp
    | true=>
     rw[hp] at hn;simp only[Abw,Abk] at hn;obtain⟨g1,g2,g3⟩:=BU (by omega) hv1;have hcN:=(hA.hc c (Abv g1)).2.2;have more:∀(s:PC) (j:Int) (sh':AC) (zs:List Aa),Hu (QF F v) s (Gi e key::S) j sh'→v.drop j.toNat=zs→zs.length<P→0≤j→(S.length:Int)+1≤j→HS P e.fPairs key k zs=none→Sl (QF F v) s:=λs j sh' zs hd hz hzl hj hSj hnone=>by
      cases k with
      | zero=>
       cases P with
       | zero=>omega
       | succ P=>cases hnone
      | succ k=>
       have:=hd.more (by rw[kl];omega);refine this.bad (ih k _ S j sh' key zs hzl (by rw[kp];exact hnone) rfl (by simp only[kl];omega) (by omega) ?_ (by simpa using q2) hz hj hSj hb)
       cases key with
       | none=>exact q1
       | some p=>exact q1
     cases hN:decide (0<c.fN) with
     | true=>
      rw[hN] at hn;simp only[Abr] at hn;simp only[Abh] at hN
      by_cases hbig:c.fN≤v.length
      ·have hnd:=Jk (sh:=LP key sh) hA (by omega) hv1 hSk hbk (by simpa[Lx] using hkk) hp (by simpa using hN) hbig;refine hnd.bad ?_
       cases hks:HS P (decide (c.fKind=6)) none c.fN.toNat xs' with
       | none=>
        obtain⟨n',hn'⟩:∃n',c.fN.toNat=n'+1:=⟨c.fN.toNat-1,by omega⟩
        rw[hn'] at hks;exact ih n' _ _ _ _ none xs' (by omega) hks rfl (by simp only;omega) (by omega) rfl (λ_=>rfl) g2 (by omega) (by simp only[Abl];omega) hbk
       | some q=>
        obtain⟨kids,zs⟩:=q;rw[hks] at hn;simp only at hn;have hn2:HS P e.fPairs key k zs=none:=by
         cases hz:HS P e.fPairs key k zs with
         | none=>rfl
         | some q=>rw[hz] at hn;cases hn
        obtain⟨a1,a2,a3⟩:=Hl _ _ _ _ _ _ _ hks;have hd:=LY hA kids ⟨decide (c.fKind=6),c.fN,decide (c.fKind=6),[],false⟩ (Gi e key::S) (i+(Bd key).length+1) (Iy (S.length+1) (LP key sh) c) none zs (by omega) a2 rfl (by simp only;omega) rfl (λ_=>rfl) (by rw[g2];exact a1) (by omega) (by simp only[Abl];omega) hbk;have hz:v.drop (i+(Bd key).length+1+kids.flat.length).toNat=zs:=Co (by omega) (g2.trans a1);have hzl:zs.length≤xs'.length:=by rw[a1];simp
        exact more _ _ _ zs hd hz (by omega) (by omega) (by omega) hn2
      ·refine⟨Iy (Gi e key::S).length (LP key sh) c,.inl (Fin.step ?_)⟩;rw[round hA (by omega) hv1 hSk hbk];have hbig':decide ((v.length:Int)<c.fN)=true:=by simpa using hbig
       simp only[Ro,hp,hkk,hbig',hN,Abw,Abk,Abr,decide_true]
     | false=>
      rw[hN] at hn;simp only[Abk] at hn;have hn2:HS P e.fPairs key k xs'=none:=by
       cases hz:HS P e.fPairs key k xs' with
       | none=>rfl
       | some q=>rw[hz] at hn;cases hn
      have hd:=Lt (sh:=LP key sh) hA (by omega) hv1 hSk hbk (by simpa[Lx] using hkk) hp hN;exact more _ _ _ xs' hd g2 (by omega) (by omega) (by omega) hn2
def H7 (xs:List Aa):Option (Fo×List Aa):=HS (xs.length+1) false none 1 xs
theorem S9 {P:Nat}{xs ys:List Aa}{f:Fo}(h:HS P false none 1 xs=some (f,ys)):f.one=true:=by
 obtain⟨h1,h2,h3⟩:=Hl _ _ _ _ _ _ _ h
 cases f with
 | nil=>cases h3
 | cell k c r=>
  cases r with
  | nil=>
   cases k with
   | none=>rfl
   | some s=>simp[Fo.wf,Bp] at h2
  | cell _ _ _=>simp[Fo.cnt] at h3
  | node _ _ _ _=>simp[Fo.cnt] at h3
 | node k c kids r=>
  cases r with
  | nil=>
   cases k with
   | none=>rfl
   | some s=>simp[Fo.wf,Bp] at h2
  | cell _ _ _=>simp[Fo.cnt] at h3
  | node _ _ _ _=>simp[Fo.cnt] at h3
theorem Ue (hA:Tk F M v)(h:H7 v=none):Sl (QF F v) ([],0,MU):=by
 have hlf:DC []:=λx hx=>by cases hx
 unfold H7 at h;rw[HS] at h;simp only[Ia,Abk] at h
 cases v with
 | nil=>exact Sl.end_ (S:=[]) (Ab4 0) rfl
 | cons c xs'=>
  have hv1:(c::xs').drop (0:Int).toNat=c::xs':=rfl;have hvM:=hA.hv;have hMM:=hA.hM;simp only at h
  cases hp:pl c with
  | false=>exact Sl.pl_ (S:=[]) hA (Ab4 0) hv1 (by simp) hlf hp
  | true=>
   rw[hp] at h;simp only[Abw,Abk] at h;have hcN:=(hA.hc c (by simp)).2.2
   cases hN:decide (0<c.fN) with
   | true=>
    rw[hN] at h;simp only[Abr] at h;simp only[Abh] at hN
    by_cases hbig:c.fN≤(c::xs').length
    ·have hnd:=Jk (S:=[]) (sh:=MU) hA (Ab4 0) hv1 (by simp) hlf rfl hp (by simpa using hN) hbig;refine hnd.bad ?_
     cases hks:HS (c::xs').length (decide (c.fKind=6)) none c.fN.toNat xs' with
     | none=>
      obtain⟨n',hn'⟩:∃n',c.fN.toNat=n'+1:=⟨c.fN.toNat-1,by omega⟩
      rw[hn'] at hks;exact Sb hA (c::xs').length n' ⟨decide (c.fKind=6),c.fN,decide (c.fKind=6),[],false⟩ [] (0+1) _ none xs' (by simp) hks rfl (by simp only;omega) (by omega) rfl (λ_=>rfl) rfl (by omega) (by simp) hlf
     | some q=>rw[hks] at h;cases h
    ·refine⟨Iy 0 MU c,.inl (Fin.step ?_)⟩;rw[show QF F (c::xs') (([]:List A1),0,MU)=_ from round (S:=[]) hA (Ab4 0) hv1 (by simp) hlf];have hbig':decide (((c::xs').length:Int)<c.fN)=true:=by simpa using hbig
     simp only[Ro,hp,hbig',hN,Abw,Abk,Abr,decide_true]
   | false=>rw[hN] at h;cases h
theorem Yf (hA:Tk F M v):(∃f ys,H7 v=some (f,ys)∧Ip F v=some ((f.flat.length:Int),f.sh 0 MU,true))∨(H7 v=none∧∃sh',Ip F v=some (0,sh',false)):=by
 cases h:H7 v with
 | some q=>
  obtain⟨f,ys⟩:=q;obtain⟨h1,h2,h3⟩:=Hl _ _ _ _ _ _ _ h;exact .inl ⟨f,ys,rfl,QE hA (S9 h) h2 h1⟩
 | none=>
  refine .inr ⟨rfl,?_⟩;obtain⟨o,ho,_⟩:=Nm hA;obtain⟨sh',hb | hb⟩:=Ue hA h
  ·have e:=hb.eq ho;subst e;exact⟨sh',by unfold Ip;rw[A8 ho];rfl⟩
  ·have e:=hb.eq ho;subst e;exact⟨sh',by unfold Ip;rw[A8 ho];rfl⟩
end
theorem IT {x:Int}(h : -9223372036854775808≤x)(h':x≤9223372036854775807):IntKind.wrap .i64 x=x:=by
 simp only[IntKind.wrap,IntKind.bits,IntKind.signed];simp;omega
def Fo.dep:Fo→Nat
 | .nil=>0
 | .cell _ _ r=>max 1 r.dep
 | .node _ _ kids r=>max (kids.dep+1) r.dep
theorem Gu (k:Option Ag)(s:AC):(LP k s).fDepth=s.fDepth∧(LP k s).fOutside=s.fOutside∧(LP k s).fLong=(s.fLong||(Bd k).any λc=>decide (200<(c.fStr.length:Int))):=by
 cases k with
 | none=>simp[LP,Bd]
 | some x=>simp[LP,shk,Bd]
theorem Kv:∀(f:Fo) (d:Nat) (s:AC),(d:Int)≤s.fDepth→(f.sh d s).fDepth=max s.fDepth ((d:Int)+f.dep)
 | .nil,d,s,h=>by simp only[Fo.sh,Fo.dep];omega
 | .cell k c r,d,s,h=>by
  have hk:=(Gu k s).1;have e:(Iy d (LP k s) c).fDepth=max s.fDepth ((d:Int)+1):=by rw[Iy,hk]
  rw[Fo.sh,Kv r d _ (by rw[e];omega),e,Fo.dep];omega
 | .node k c kids r,d,s,h=>by
  have hk:=(Gu k s).1;have e:(Iy d (LP k s) c).fDepth=max s.fDepth ((d:Int)+1):=by rw[Iy,hk]
  have e2:=Kv kids (d+1) (Iy d (LP k s) c) (by rw[e];omega);rw[e] at e2;rw[Fo.sh,Kv r d _ (by rw[e2];omega),e2,Fo.dep];omega
def BG (c:Aa):Bool:=decide (c.fKind=3)&&!(decide ((-1000000000000)≤c.fInt)&&decide (c.fInt≤1000000000000))
def GI (c:Aa):Bool:=decide (200<(c.fStr.length:Int))
theorem Nt (k:Option Ag):(Bd k).any BG=false:=by cases k<;>simp[Bd,BG]
theorem Pa:∀(f:Fo) (d:Nat) (s:AC),(f.sh d s).fOutside=(s.fOutside||f.flat.any BG)
 | .nil,d,s=>by simp[Fo.sh,Fo.flat]
 | .cell k c r,d,s=>by
  rw[Fo.sh,Pa r,Iy,(Gu k s).2.1];simp only[Fo.flat,List.any_append,List.any_cons,Nt,Ab5,Bool.or_assoc];rfl
 | .node k c kids r,d,s=>by
  rw[Fo.sh,Pa r,Pa kids,Iy,(Gu k s).2.1];simp only[Fo.flat,List.any_append,List.any_cons,Nt,Ab5,Bool.or_assoc];rfl
theorem Mu:∀(f:Fo) (d:Nat) (s:AC),(f.sh d s).fLong=(s.fLong||f.flat.any GI)
 | .nil,d,s=>by simp[Fo.sh,Fo.flat]
 | .cell k c r,d,s=>by
  rw[Fo.sh,Mu r,Iy,(Gu k s).2.2];simp only[Fo.flat,List.any_append,List.any_cons,Bool.or_assoc];rfl
 | .node k c kids r,d,s=>by
  rw[Fo.sh,Mu r,Mu kids,Iy,(Gu k s).2.2];simp only[Fo.flat,List.any_append,List.any_cons,Bool.or_assoc];rfl
def UO (c:Aa):Int:=
 bif decide (c.fKind=1) then 4 else bif decide (c.fKind=2) then 5-c.fInt else bif decide (c.fKind=3) then((Lib.itoa c.fInt).length:Int) else
 bif decide (c.fKind=4) then Lo c.fStr else 2
def Pt:Option Ag→Int
 | none=>0
 | some s=>Lo s+1
def Fo.byt:Fo→Int
 | .nil=>0
 | .cell k c r=>Pt k+UO c+r.byt
 | .node k c kids r=>Pt k+(c.fN+1)+kids.byt+r.byt
theorem K6 (s:Ag):2≤Lo s:=by unfold Lo;omega
theorem M3 (k:Option Ag):0≤Pt k:=by
 cases k with
 | none=>exact Ab4 0
 | some s=>have:=K6 s;simp only[Pt];omega
theorem SO {c:Aa}(hp:pl c=true):0≤UO c:=by
 unfold UO
 cases h1:decide (c.fKind=1) with
 | true=>simp
 | false=>
  cases h2:decide (c.fKind=2) with
  | true=>
   simp[pl,h1,h2] at hp;simp only[Abk,Abr];omega
  | false=>
   cases h3:decide (c.fKind=3) with
   | true=>simp
   | false=>
    cases h4:decide (c.fKind=4) with
    | true=>have:=K6 c.fStr;simp only[Abk,Abr];omega
    | false=>simp
theorem VA {c:Aa}(hp:pl c=true):0≤c.fN:=by
 simp only[pl,← Bool.decide_or] at hp
 cases h1:decide (c.fKind=1)<;>cases h2:decide (c.fKind=2)<;>cases h3:decide (c.fKind=3)<;>cases h4:decide (c.fKind=4)<;>cases h5:decide (c.fKind=5)<;>cases h6:decide (c.fKind=6)<;>simp[h1,h2,h3,h4,h5,h6] at hp<;>omega
theorem GZ {c:Aa}(hp:pl c=true)(hn:0<c.fN):(c.fKind=5∨c.fKind=6)∧c.fInt=0∧c.fStr=[]:=by
 cases h1:decide (c.fKind=1)<;>cases h2:decide (c.fKind=2)<;>cases h3:decide (c.fKind=3)<;>cases h4:decide (c.fKind=4)<;>cases h5:decide (c.fKind=5)<;>cases h6:decide (c.fKind=6)<;>simp[pl,h1,h2,h3,h4,h5,h6] at hp<;>(simp only[Abh,Abi] at *;first | omega | exact⟨by omega,hp.1,hp.2.1⟩)
theorem Vo {c:Aa}(hp:pl c=true)(hn:decide (0<c.fN)=false):Zh c=UO c:=by
 have hN:=VA hp;have h0:c.fN=0:=by simp only[Abi] at hn;omega
 unfold Zh UO;rw[h0]
 cases h1:decide (c.fKind=1) with
 | true=>rfl
 | false=>
  cases h2:decide (c.fKind=2) with
  | true=>
   simp[pl,h1,h2] at hp;simp only[Abk,Abr];exact IT (by omega) (by omega)
  | false=>rfl
theorem Vn {c:Aa}(hp:pl c=true)(hn:0<c.fN)(hm:c.fN≤9223372036854775000):Zh c=c.fN+1:=by
 obtain⟨hk,_,_⟩:=GZ hp hn;unfold Zh;rw[Abj (by omega),Abj (by omega),Abj (by omega),Abj (by omega)];simp only[Abk];rw[IT (x:=c.fN-1) (by omega) (by omega),IT (by omega) (by omega)];omega
theorem Hf:∀{f:Fo} {m:Bool} {l:Option Ag},f.wf m l=true→0≤f.byt
 | .nil,_,_,_=>Ab4 0
 | .cell k c r,m,l,h=>by
  simp only[Fo.wf,Abp] at h;have h1:=Hf h.2;have h2:=SO h.1.1.2;have h3:=M3 k;simp only[Fo.byt];omega
 | .node k c kids r,m,l,h=>by
  simp only[Fo.wf,Abp,Abh] at h;have h1:=Hf h.2;have h2:=Hf h.1.2;have h3:=M3 k;simp only[Fo.byt];omega
theorem Om (k:Option Ag)(s:AC)(h0:0≤s.fBytes)(h:s.fBytes+Pt k≤9223372036854775807):(LP k s).fBytes=s.fBytes+Pt k:=by
 cases k with
 | none=>simp[LP,Pt]
 | some x=>
  have:=K6 x;simp only[Pt] at h;simp only[LP,shk,Pt];exact IT (by omega) (by omega)
theorem Kw:∀(f:Fo) (m:Bool) (l:Option Ag) (d:Nat) (s:AC),f.wf m l=true→0≤s.fBytes→s.fBytes+f.byt≤9223372036854775000→(f.sh d s).fBytes=s.fBytes+f.byt
 | .nil,_,_,d,s,_,_,_=>by simp[Fo.sh,Fo.byt]
 | .cell k c r,m,l,d,s,hw,h0,h=>by
  simp only[Fo.wf,Abp,Ab0] at hw;obtain⟨⟨⟨w1,w2⟩,w3⟩,w4⟩:=hw;have h1:=Hf w4;have h2:=SO w2;have h3:=M3 k;simp only[Fo.byt] at h;have e1:=Om k s h0 (by omega);have e:(Iy d (LP k s) c).fBytes=s.fBytes+Pt k+UO c:=by
   rw[Iy,e1,Vo w2 w3];exact IT (by omega) (by omega)
  rw[Fo.sh,Kw r _ _ d _ w4 (by rw[e];omega) (by rw[e];omega),e,Fo.byt];omega
 | .node k c kids r,m,l,d,s,hw,h0,h=>by
  simp only[Fo.wf,Abp,Abh] at hw;obtain⟨⟨⟨⟨⟨w1,w2⟩,w3⟩,w5⟩,w6⟩,w4⟩:=hw;have h1:=Hf w4;have h2:=Hf w6;have h3:=M3 k;simp only[Fo.byt] at h;have e1:=Om k s h0 (by omega);have e:(Iy d (LP k s) c).fBytes=s.fBytes+Pt k+(c.fN+1):=by
   rw[Iy,e1,Vn w2 w3 (by omega)];exact IT (by omega) (by omega)
  have e2:=Kw kids _ _ (d+1) (Iy d (LP k s) c) w6 (by rw[e];omega) (by rw[e];omega);rw[Fo.sh,Kw r _ _ d _ w4 (by rw[e2,e];omega) (by rw[e2,e];omega),e2,e,Fo.byt];omega
def DE (s:Ag):Ag:=s.flatMap λc=>bif (decide (c=34)||decide (c=92)) then[92,c] else[c]
def DB (s:Ag):Ag:=34::(DE s++[34])
theorem KX:∀s:Ag,(DE s).length=s.length+s.count 34+s.count 92
 | []=>rfl
 | c::s=>by
  have ih:=KX s;unfold DE at ih ⊢;rw[Acb,Abq,ih]
  by_cases h1:c=34
  ·subst h1;simp;omega
  ·by_cases h2:c=92
   ·subst h2;simp;omega
   ·simp[h1,h2,List.count_cons];omega
theorem Qp (s:Ag):((DB s).length:Int)=Lo s:=by
 simp only[DB,Abl,Abq,KX,AbX,Lo];omega
def CZ (c:Aa):Ag:=
 bif decide (c.fKind=1) then[110,117,108,108] else
 bif decide (c.fKind=2) then(bif decide (c.fInt=1) then[116,114,117,101] else[102,97,108,115,101]) else
 bif decide (c.fKind=3) then Lib.itoa c.fInt else
 bif decide (c.fKind=4) then DB c.fStr else
 bif decide (c.fKind=6) then[123,125] else[91,93]
def E5:Option Ag→Ag
 | none=>[]
 | some s=>DB s++[58]
def Ma (c:Aa)(s:Ag):Ag:=bif decide (c.fKind=6) then 123::(s++[125]) else 91::(s++[93])
def Cv (first:Bool):Ag:=bif first then[] else[44]
def Fo.txt:Bool→Fo→Ag
 | _,.nil=>[]
 | b,.cell k c r=>Cv b++E5 k++CZ c++r.txt false
 | b,.node k c kids r=>Cv b++E5 k++Ma c (kids.txt true)++r.txt false
theorem SP (k:Option Ag):((E5 k).length:Int)=Pt k:=by
 cases k with
 | none=>rfl
 | some s=>simp only[E5,Abq,Pt,Ab6];have:=Qp s;omega
theorem O8 {c:Aa}(hp:pl c=true):((CZ c).length:Int)=UO c:=by
  unfold CZ UO
  cases h1:decide (c.fKind=1) with
  | true=>rfl
  | false=>
    cases h2:decide (c.fKind=2) with
    | true=>
      simp[pl,h1,h2] at hp;simp only[Abk,Abr]
      cases h7:decide (c.fInt=1) with
      | true=>simp only[Abh] at h7;simp[h7]
      | false=>
                 simp only[Abi] at h7;have:c.fInt=0:=by omega
                 simp[this]
    | false=>
      cases h3:decide (c.fKind=3) with
      | true=>rfl
      | false=>
        cases h4:decide (c.fKind=4) with
        | true=>simpa using Qp c.fStr
        | false=>cases h6:decide (c.fKind=6)<;>rfl
theorem Ij (c:Aa)(s:Ag):(Ma c s).length=s.length+2:=by
 unfold Ma
 cases decide (c.fKind=6)<;>simp
theorem HW:∀(f:Fo) (m:Bool) (l:Option Ag) (b:Bool),f.wf m l=true→((f.txt b).length:Int)=f.byt+(bif b then((f.cnt-1:Nat):Int) else(f.cnt:Int))
 | .nil,m,l,b,_=>by cases b<;>rfl
 | .cell k c r,m,l,b,hw=>by
  simp only[Fo.wf,Abp,Ab0] at hw;obtain⟨⟨⟨w1,w2⟩,w3⟩,w4⟩:=hw;have ih:=HW r _ _ false w4;have a:=SP k;have d:=O8 w2;simp only[Abk] at ih
  cases b<;>simp only[Fo.txt,Fo.byt,Fo.cnt,Cv,Abr,Abk,Abq,AbX,Ab6]<;>omega
 | .node k c kids r,m,l,b,hw=>by
  simp only[Fo.wf,Abp,Abh] at hw;obtain⟨⟨⟨⟨⟨w1,w2⟩,w3⟩,w5⟩,w6⟩,w4⟩:=hw;have ih:=HW r _ _ false w4;have ih2:=HW kids _ _ true w6;have a:=SP k;have d:=Ij c (kids.txt true);simp only[Abk,Abr] at ih ih2
  cases b<;>simp only[Fo.txt,Fo.byt,Fo.cnt,Cv,Abr,Abk,Abq,AbX,Ab6]<;>omega
def Fo.put (k:Option Ag):Fo→Fo→Fo
 | .cell _ c _,r=>.cell k c r
 | .node _ c kids _,r=>.node k c kids r
 | .nil,_=>.nil
theorem V9 (P:Nat)(m:Bool)(last:Option Ag)(k:Nat)(xs:List Aa):HS (P+2) m last (k+1) xs =
  match Ia m last xs with
  | none=>none
  | some (key,ys)=>match HS (P+2) false none 1 ys with
   | none=>none
   | some (f,zs)=>match HS (P+1) m key k zs with
    | none=>none
    | some (r,us)=>some (f.put key r,us):=by
 rw[HS]
 cases hk:Ia m last xs with
 | none=>rfl
 | some p=>
  obtain⟨key,ys⟩:=p;simp only;rw[HS];simp only[Ia,Abk]
  cases ys with
  | nil=>rfl
  | cons c ys=>
   simp only
   cases hp:pl c with
   | false=>rfl
   | true=>
    simp only[Abw,Abk]
    cases hn:decide (0<c.fN) with
    | true=>
     simp only[Abr]
     cases hq:HS (P+1) (decide (c.fKind=6)) none c.fN.toNat ys with
     | none=>rfl
     | some q=>
      obtain⟨kids,zs⟩:=q;simp only[HS]
      cases hr:HS (P+1) m key k zs with
      | none=>rfl
      | some q=>obtain⟨a,b⟩:=q;rfl
    | false=>
     simp only[Abk,HS]
     cases hr:HS (P+1) m key k ys with
     | none=>rfl
     | some q=>obtain⟨a,b⟩:=q;rfl
def Na (m:Bool)(last:Option Ag)(k:Nat)(xs:List Aa):Option (Fo×List Aa):=HS (xs.length+1) m last k xs
theorem Lp (m:Bool)(last:Option Ag)(xs:List Aa):Na m last 0 xs=some (.nil,xs):=rfl
theorem Gz (m:Bool)(last:Option Ag)(k:Nat)(xs:List Aa):Na m last (k+1) xs =
  match Ia m last xs with
  | none=>none
  | some (key,ys)=>match H7 ys with
   | none=>none
   | some (f,zs)=>match Na m key k zs with
    | none=>none
    | some (r,us)=>some (f.put key r,us):=by
 unfold Na H7;rw[H5 (xs.length+1) (xs.length+2) m last (k+1) xs (by omega) (by omega),V9]
 cases hk:Ia m last xs with
 | none=>rfl
 | some p=>
  obtain⟨key,ys⟩:=p;have h1:=(Mw hk).1;have hy:ys.length≤xs.length:=by rw[h1];simp
  simp only;rw[H5 (xs.length+2) (ys.length+1) false none 1 ys (by omega) (by omega)]
  cases hf:HS (ys.length+1) false none 1 ys with
  | none=>rfl
  | some q=>
   obtain⟨f,zs⟩:=q;have h2:=(Hl _ _ _ _ _ _ _ hf).1;have hz:zs.length≤ys.length:=by rw[h2];simp
   simp only;rw[H5 (xs.length+1) (zs.length+1) m key k zs (by omega) (by omega)]
   all_goals (cases HS (zs.length+1) m key k zs<;>rfl)
theorem HD {S O:Type}{body:S→Option (Stp S O)}{n:Nat}{s s':S}{o:O}(h:body s=some (.next s'))(h':BE body n s'=some o):BE body (n+1) s=some o:=by rw[BE,h];exact h'
theorem Dy {S O:Type}{body:S→Option (Stp S O)}{n:Nat}{s:S}{o:O}(h:body s=some (.out o)):BE body (n+1) s=some o:=by rw[BE,h]
theorem Qq:H7 []=none:=rfl
theorem H6 (c:Aa)(r:List Aa):H7 (c::r)=bif !pl c then none else bif decide (0<c.fN) then(match Na (decide (c.fKind=6)) none c.fN.toNat r with
  | none=>none
  | some (kids,zs)=>some (.node none c kids .nil,zs)) else some (.cell none c .nil,r):=by
 unfold H7;rw[HS];simp only[Ia,Abk]
 cases hp:pl c with
 | false=>rfl
 | true=>
  simp only[Abw,Abk]
  cases hn:decide (0<c.fN) with
  | true=>
   simp only[Abr];unfold Na;rw[Abl]
   cases hq:HS (r.length+1) (decide (c.fKind=6)) none c.fN.toNat r with
   | none=>rfl
   | some q=>obtain⟨kids,zs⟩:=q;rfl
  | false=>rfl
theorem Et {f:Fo}(h:f.one=true)(key:Option Ag)(r:Fo):(f.put key r).flat=Bd key++(f.flat++r.flat):=by
 cases f with
 | nil=>cases h
 | cell k c r'=>
  cases k with
  | some s=>cases h
  | none=>cases r' with
   | nil=>simp[Fo.put,Fo.flat,Bd]
   | cell _ _ _=>cases h
   | node _ _ _ _=>cases h
 | node k c kids r'=>
  cases k with
  | some s=>cases h
  | none=>cases r' with
   | nil=>simp[Fo.put,Fo.flat,Bd]
   | cell _ _ _=>cases h
   | node _ _ _ _=>cases h
theorem KC {f:Fo}(h:f.one=true):1≤f.flat.length:=by
 cases f with
 | nil=>cases h
 | cell k c r'=>simp[Fo.flat];omega
 | node k c kids r'=>simp[Fo.flat];omega
theorem Jg {xs ys:List Aa}{f:Fo}(h:H7 xs=some (f,ys)):xs=f.flat++ys∧f.wf false none=true∧f.one=true:=
 ⟨(Hl _ _ _ _ _ _ _ h).1,(Hl _ _ _ _ _ _ _ h).2.1,S9 h⟩
def Is (v:List Aa)(i:Int):Int:=match H7 (v.drop i.toNat) with
 | none=>-1
 | some (f,_)=>i+f.flat.length
def KF (m:Bool)(last:Option Ag)(v:List Aa)(i:Int)(k:Nat):Int:=match Na m last k (v.drop i.toNat) with
 | none=>-1
 | some (f,_)=>i+f.flat.length
theorem O1 {v:List Aa}{i:Int}(h0:0≤i)(h1:i≤v.length):Is v i = -1∨(i<Is v i∧Is v i≤v.length):=by
 unfold Is
 cases h:H7 (v.drop i.toNat) with
 | none=>exact .inl rfl
 | some q=>
  obtain⟨f,ys⟩:=q;obtain⟨h2,_,h3⟩:=Jg h;have:=KC h3;have hl:(v.drop i.toNat).length=f.flat.length+ys.length:=by rw[h2];simp
  rw[Acg] at hl
  right;simp only;omega
structure RfA (F M:Nat) (v:List Aa):Prop where
 hM:M≤1152921504606846976
 hv:v.length≤M
 hF:M<F
 hc:∀c∈v,c.fStr.length≤M
theorem TJ (ok:Bool){i:Int}(h0:0≤i)(h1:i≤1152921504606846976):CF ok i=some (bif ok then i+1 else -1):=by
 unfold CF
 cases ok
 ·rfl
 ·rw[AA rfl,A6 (by omega) (by omega)];rfl
theorem S5 {F:Nat}{c:Aa}(hF:c.fStr.length<F)(hs:c.fStr.length≤1152921504606846976):V4 F c=some (decide (c.fKind=4)&&pl c):=by
 unfold V4;rw[TB hF (by omega)];simp only[Option.isSome_some,ov,AbD,imp,AbM,AR,Abr]
 cases h4:decide (c.fKind=4) with
 | false=>rfl
 | true=>
  simp only[Abh] at h4;simp[pl,h4]
theorem CR {v:List Aa}{i:Int}{c:Aa}{r:List Aa}(h0:0≤i)(h:v.drop i.toNat=c::r):Ap v i=c:=by
 have:=(BU h0 h).1;simp[Ap,this]
section
variable {M : Nat} {v : List Aa}
theorem JA {F:Nat}(hA:RfA F M v){g:List Aa→Int→Option Int}{n:Int}(hn:n≤9223372036854775807):∀(L:Nat) (i x:Int),0≤i→i≤v.length→0≤x→x≤n→(∀j,i≤j→j≤v.length→g v j=some (Is v j))→v.length-i.toNat<L→
  ∃o,BE (λσ=>DJ v n g σ.1 σ.2) L (i,x)=some o∧By (λν=>HY ν) o=some (KF false none v i (n-x).toNat)
 | 0,i,x,_,_,_,_,_,h=>by omega
 | L+1,i,x,h0,h1,hx,hxn,hg,hL=>by
  cases hxl:decide (x<n) with
  | false=>
   refine⟨.go i,Dy (by show DJ v n g i x=_;unfold DJ;rw[As hxl]),?_⟩;simp only[Abi] at hxl;rw[show(n-x).toNat=0 from by omega];simp[By,HY,KF,Lp,Fo.flat]
  | true=>
   have hb:DJ v n g i x=AV (decide (Is v i<0)) (some (.out (.ret (-1)))) (AR (B7 .i64 (x+1))<|some (.next (Is v i,x+1))):=by unfold DJ;rw[AA hxl,hg i (Ab4 i) h1,A8 rfl]
   simp only[Abh] at hxl;obtain⟨k,hk⟩:∃k,(n-x).toNat=k+1:=⟨(n-x).toNat-1,by omega⟩
   rw[hk];have e:KF false none v i (k+1)=bif decide (Is v i<0) then -1 else KF false none v (Is v i) k:=by
    unfold KF;rw[Gz];simp only[Ia,Abk]
    cases hp:H7 (v.drop i.toNat) with
    | none=>simp[Is,hp]
    | some q=>
     obtain⟨f,ys⟩:=q;obtain⟨q1,q2,q3⟩:=Jg hp;have hi:Is v i=i+f.flat.length:=by simp[Is,hp]
     have hd:v.drop (Is v i).toNat=ys:=by rw[hi];exact Co h0 q1
     rw[hd,Abj (by omega)];simp only[Abk]
     cases hr:Na false none k ys with
     | none=>rfl
     | some q=>
      obtain⟨r,zs⟩:=q;simp only[Et q3,Bd,AbJ,Abq,hi];omega
   rw[e];rcases O1 (v:=v) h0 h1 with hneg | ⟨hlt,hle⟩
   ·exact⟨.ret (-1),Dy (hb.trans (by rw[hneg,AA (by decide)])),by rw[hneg];rfl⟩
   ·have hM:=hA.hM;have hvM:=hA.hv;obtain⟨o,ho1,ho2⟩:=JA hA hn L (Is v i) (x+1) (by omega) hle (by omega) (by omega) (λj hj=>hg j (by omega)) (by omega);exact⟨o,HD (hb.trans (by rw[As (Abj (by omega)),A6 (by omega) (by omega)])) ho1,by rw[ho2,show(n-(x+1)).toNat=k from by omega,Abj (by omega)];rfl⟩
theorem MX {F:Nat}(hA:RfA F M v){g:List Aa→Int→Option Int}{n:Int}(hn:n≤9223372036854775807):∀(L:Nat) (i x:Int) (last:Ag),0≤i→i≤v.length→0≤x→x≤n→(∀j,i≤j→j≤v.length→g v j=some (Is v j))→v.length-i.toNat<L→
  ∃o,BE (λσ=>El F v n g σ.1 σ.2.1 σ.2.2) L (i,last,x)=some o∧By (λν=>Ln ν) o=some (KF true (bif decide (0<x) then some last else none) v i (n-x).toNat)
 | 0,i,x,_,_,_,_,_,_,h=>by omega
 | L+1,i,x,last,h0,h1,hx,hxn,hg,hL=>by
  have hM:=hA.hM;have hvM:=hA.hv;have hMF:=hA.hF
  cases hxl:decide (x<n) with
  | false=>
   refine⟨.go i,Dy (by show El F v n g i last x=_;unfold El;rw[As hxl]),?_⟩;simp only[Abi] at hxl;rw[show(n-x).toNat=0 from by omega];simp[By,Ln,KF,Lp,Fo.flat]
  | true=>
   have hxl':=hxl;simp only[Abh] at hxl;obtain⟨k,hk⟩:∃k,(n-x).toNat=k+1:=⟨(n-x).toNat-1,by omega⟩
   rw[hk]
   cases hd:v.drop i.toNat with
   | nil=>
    have hl:v.length≤i.toNat:=by simpa using hd
    refine⟨.ret (-1),Dy (by
     show El F v n g i last x=_;unfold El;rw[AA hxl',B9 (by simp[imp,show(v.length:Int)≤i from by omega]),B9 (by simp[imp,show(v.length:Int)≤i from by omega]),AA (by simp[show(v.length:Int)≤i from by omega])]),?_⟩
    simp[By,KF,hd,Gz,Ia]
   | cons c r=>
    obtain⟨g1,g2,g3⟩:=BU h0 hd;have hcM:=hA.hc c (Abv g1);have hat:=CR h0 hd;have hnl:decide ((v.length:Int)≤i)=false:=by simp;omega
    have hb:El F v n g i last x=AV (!(decide (c.fKind=4)&&pl c)||decide (0<x)&&(B3 c.fStr last||decide (c.fStr=last))) (some (.out (.ret (-1)))) (Bi (g v (i+1)) λha=>AV (decide (ha<0)) (some (.out (.ret (-1)))) (AR (B7 .i64 (x+1))<|some (.next (ha,c.fStr,x+1)))):=by
     unfold El;rw[AA hxl',B9 (by simp only[imp];rw[Px h0 g3];simp),hat,S5 (by omega) (by omega),B9 (by simp[imp])];simp only[hnl,ov,AbD,Ab5];rw[AQ h0 g3,A6 (by omega) (by omega)]
    have hpk:Ia true (bif decide (0<x) then some last else none) (c::r)=bif (!(decide (c.fKind=4)&&pl c)||decide (0<x)&&(B3 c.fStr last||decide (c.fStr=last))) then none else some (some c.fStr,r):=by
     simp only[Ia,Abr]
     cases h4:decide (c.fKind=4) with
     | false=>simp
     | true=>
      cases hp:pl c with
      | false=>simp
      | true=>
       have hok:=(Pj hp (by simpa using h4)).2
       cases h0x:decide (0<x) with
       | false=>simp[Bp,hok]
       | true=>cases hs:(B3 c.fStr last||decide (c.fStr=last))<;>simp[Bp,hok,hs]
    cases ht:(!(decide (c.fKind=4)&&pl c)||decide (0<x)&&(B3 c.fStr last||decide (c.fStr=last))) with
    | true=>
     rw[ht] at hpk;refine⟨.ret (-1),Dy (hb.trans (AA ht)),?_⟩;simp only[KF,hd,Gz,hpk,Abr];rfl
    | false=>
     rw[ht] at hpk;rw[As ht,hg (i+1) (by omega) (by omega),A8 rfl] at hb;have e:KF true (bif decide (0<x) then some last else none) v i (k+1)=bif decide (Is v (i+1)<0) then -1 else KF true (some c.fStr) v (Is v (i+1)) k:=by
      unfold KF;rw[hd,Gz,hpk];simp only[Abk];have hx:Is v (i+1)=match H7 r with | none=>-1 | some (f,_)=>i+1+f.flat.length:=by unfold Is;rw[g2]
      cases hp:H7 r with
      | none=>rw[hp] at hx;simp[hx]
      | some q=>
       obtain⟨f,ys⟩:=q;obtain⟨q1,q2,q3⟩:=Jg hp;rw[hp] at hx;simp only at hx;have hd2:v.drop (Is v (i+1)).toNat=ys:=by rw[hx];exact Co (by omega) (g2.trans q1)
       rw[hd2,Abj (by omega)];simp only[Abk]
       cases hr:Na true (some c.fStr) k ys with
       | none=>rfl
       | some q=>
        obtain⟨r',zs⟩:=q;simp only[Et q3,Bd,Abq,Abl,AbX,hx];omega
     rw[e];rcases O1 (v:=v) (i:=i+1) (by omega) (by omega) with hneg | ⟨hlt,hle⟩
     ·exact⟨.ret (-1),Dy (hb.trans (by rw[hneg,AA (by decide)])),by rw[hneg];rfl⟩
     ·obtain⟨o,ho1,ho2⟩:=MX hA hn L (Is v (i+1)) (x+1) c.fStr (by omega) hle (by omega) (by omega) (λj hj=>hg j (by omega)) (by omega);exact⟨o,HD (hb.trans (by rw[As (Abj (by omega)),A6 (by omega) (by omega)])) ho1,by rw[ho2,show(n-(x+1)).toNat=k from by omega,Abm (show(0:Int)<x+1 from by omega),Abj (by omega)];rfl⟩
theorem Q2 {i:Int}{c:Aa}{r:List Aa}(h0:0≤i)(hd:v.drop i.toNat=c::r)(hp:pl c=true):Is v i=KF (decide (c.fKind=6)) none v (i+1) c.fN.toNat:=by
 have g2:=(BU h0 hd).2.1;have hN:=VA hp;unfold Is KF;rw[hd,H6,g2,hp];simp only[Abw,Abk]
 cases hn:decide (0<c.fN) with
 | true=>
  simp only[Abr]
  cases hq:Na (decide (c.fKind=6)) none c.fN.toNat r with
  | none=>rfl
  | some q=>
   obtain⟨kids,zs⟩:=q;simp only[Fo.flat,Bd,AbJ,Abl,AbK];omega
 | false=>
  simp only[Abi] at hn;rw[show c.fN.toNat=0 from by omega,Lp];simp[Fo.flat,Bd]
theorem Qj (hA:RfA (M+1) M v)(hN:∀c∈v,c.fN≤9223372036854775807):∀(d F:Nat) (i:Int),0≤i→i≤v.length→v.length-i.toNat=d→M+2*d+3<F→E4 F v i=some (Is v i):=by
 have hM:=hA.hM;have hvM:=hA.hv;intro d
 induction d using Nat.strongRecOn with
 | ind d ih=>
  intro F i h0 h1 hd hF;obtain⟨F,rfl⟩:∃G,F=G+1:=⟨F-1,by omega⟩
  obtain⟨F,rfl⟩:∃G,F=G+1:=⟨F-1,by omega⟩
  rw[E4];unfold V3
  cases hdr:v.drop i.toNat with
  | nil=>
   have hl:v.length≤i.toNat:=by simpa using hdr
   rw[AA (by simp;omega)];simp[Is,hdr,Qq]
  | cons c r=>
   obtain⟨g1,g2,g3⟩:=BU h0 hdr;have hcM:=hA.hc c (Abv g1);have hcN:=hN c (Abv g1);rw[As (by simp;omega),AQ h0 g3,CR h0 hdr];simp only[TJ _ h0 (show i≤1152921504606846976 by omega),Option.isSome_some,ov,AbD,imp,AbM,B9 (x:=_) (rfl:true=true)];have hg:∀j,i+1≤j→j≤v.length→E4 F v j=some (Is v j):=λj hj hj2=>ih (v.length-j.toNat) (by omega) F j (by omega) hj2 rfl (by omega);have hpl0:pl c=false→Is v i = -1:=λhp=>by simp[Is,hdr,H6,hp]
   have hleaf:pl c=true→c.fN=0→Is v i=i+1:=λhp h0'=>by simp[Is,hdr,H6,hp,h0',Fo.flat,Bd]
   have hscal:∀b:Bool,pl c=b→(b=true→c.fN=0)→Is v i=bif b then i+1 else -1:=λb hb hz=>by
    cases b
    ·exact hpl0 hb
    ·exact hleaf hb (hz rfl)
   by_cases k1:c.fKind=1
   ·rw[AA (by simp[k1])];have hp:pl c=(decide (c.fInt=0)&&(decide (c.fStr=[])&&decide (c.fN=0))):=by simp[pl,k1]
    rw[hscal _ hp (λh=>by simp at h;exact h.2.2)]
    cases decide (c.fInt=0)<;>cases decide (c.fStr=[])<;>cases decide (c.fN=0)<;>rfl
   rw[As (by simp[k1])]
   by_cases k2:c.fKind=2
   ·rw[AA (by simp[k2])];have hp:pl c=((decide (c.fInt=0)||decide (c.fInt=1))&&(decide (c.fStr=[])&&decide (c.fN=0))):=by simp[pl,k2]
    rw[hscal _ hp (λh=>by simp at h;exact h.2.2)]
    cases decide (c.fInt=0)<;>cases decide (c.fInt=1)<;>cases decide (c.fStr=[])<;>cases decide (c.fN=0)<;>rfl
   rw[As (by simp[k2])]
   by_cases k3:c.fKind=3
   ·rw[AA (by simp[k3])];have hp:pl c=(decide (c.fStr=[])&&decide (c.fN=0)):=by simp[pl,k3]
    rw[hscal _ hp (λh=>by simp at h;exact h.2)]
    cases decide (c.fStr=[])<;>cases decide (c.fN=0)<;>rfl
   rw[As (by simp[k3])]
   by_cases k4:c.fKind=4
   ·rw[AA (by simp[k4]),S5 (by omega) (by omega),A8 rfl,A8 rfl];rw[Abm k4,Aby,hscal (pl c) rfl (λhp=>by have:=(Pj hp k4).1;rw[this])]
   rw[As (by simp[k4])]
   by_cases k5:c.fKind=5
   ·have hp:pl c=(decide (c.fInt=0)&&(decide (c.fStr=[])&&decide (0≤c.fN))):=by simp[pl,k5]
    rw[show(decide (c.fKind=5)&&(decide (c.fInt=0)&&(decide (c.fStr=[])&&decide (0≤c.fN))))=pl c from by rw[hp,Abm k5,Aby]];have k5' : ¬ c.fKind=6:=by omega
    cases hb:pl c with
    | false=>rw[As rfl,As (by simp[k5]),hpl0 hb]
    | true=>
     have hn0:=VA hb;rw[AA rfl,A6 (by omega) (by omega),Ot];unfold MY;obtain⟨o,ho1,ho2⟩:=JA (F:=F) ⟨hM,hvM,by omega,hA.hc⟩ hcN F (i+1) 0 (by omega) (by omega) (Ab4 0) hn0 hg (by omega);rw[A8 ho1,ho2,A8 rfl,Q2 h0 hdr hb,Abj k5',Int.sub_zero]
   rw[As (by simp[k5])]
   by_cases k6:c.fKind=6
   ·have hp:pl c=(decide (c.fInt=0)&&(decide (c.fStr=[])&&decide (0≤c.fN))):=by simp[pl,k6]
    rw[show(decide (c.fKind=6)&&(decide (c.fInt=0)&&(decide (c.fStr=[])&&decide (0≤c.fN))))=pl c from by rw[hp,Abm k6,Aby]]
    cases hb:pl c with
    | false=>rw[As rfl,hpl0 hb]
    | true=>
     have hn0:=VA hb;rw[AA rfl,A6 (by omega) (by omega),V2];unfold S4;obtain⟨o,ho1,ho2⟩:=MX (F:=F) ⟨hM,hvM,by omega,hA.hc⟩ hcN F (i+1) 0 [] (by omega) (by omega) (Ab4 0) hn0 hg (by omega);rw[A8 ho1,ho2,A8 rfl,Q2 h0 hdr hb,Abm k6,Int.sub_zero];rfl
   ·rw[As (by simp[k6]),hpl0 (by simp[pl,k1,k2,k3,k4,k5,k6])]
theorem R8 (hA:RfA (M+1) M v)(hN:∀c∈v,c.fN≤9223372036854775807){F:Nat}(hF:3*M+3<F):Pg F v=some (decide (Is v 0=v.length)):=by
 have hvM:=hA.hv;unfold Pg;rw[Qj hA hN v.length F 0 (Ab4 0) (by omega) (by simp) (by omega)];simp only[imp,Option.isSome_some,AbM,B9,ov,AbD]
 cases v with
 | nil=>simp[Is,Qq]
 | cons c r=>
  rw[show decide (0<((c::r).length:Int))=true from by simp,Aby]
  first | done | rfl
end
theorem SA {m:Bool}{last key:Option Ag}{r:List Aa}(h:Bp m last key=true):Ia m last (Bd key++r)=some (key,r):=by
 cases key with
 | none=>
  have:m=false:=by simpa[Bp] using h
  subst this;rfl
 | some s=>
  have h':=h;simp only[Bp,Abp] at h;obtain⟨⟨h1,h2⟩,h3⟩:=h;subst h1;have hp:pl ⟨4,0,s,0⟩=true:=by simp[pl,h2]
  show(bif pl ⟨4,0,s,0⟩&&decide ((4:Int)=4)&&Bp true last (some s) then _ else _)=_;rw[hp,h'];rfl
theorem Mx:∀(f:Fo) (m:Bool) (last:Option Ag) (ys:List Aa),f.wf m last=true→Na m last f.cnt (f.flat++ys)=some (f,ys)
 | .nil,_,_,_,_=>rfl
 | .cell k c r,m,last,ys,hw=>by
  simp only[Fo.wf,Abp,Ab0] at hw;obtain⟨⟨⟨w1,w2⟩,w3⟩,w4⟩:=hw;simp only[Fo.cnt,Fo.flat,Ab2,AbP];rw[Gz,SA w1];simp only[H6,w2,w3,Abw,Abk,Mx r m k ys w4,Fo.put]
 | .node k c kids r,m,last,ys,hw=>by
  simp only[Fo.wf,Abp,Abh] at hw;obtain⟨⟨⟨⟨⟨w1,w2⟩,w3⟩,w5⟩,w6⟩,w4⟩:=hw;simp only[Fo.cnt,Fo.flat,Ab2,AbP];rw[Gz,SA w1];have e:c.fN.toNat=kids.cnt:=by omega
  simp only[H6,w2,Abm w3,Abw,Abk,Abr,e,Mx kids _ none (r.flat++ys) w6,Mx r m k ys w4,Fo.put]
theorem SB {f:Fo}{ys:List Aa}(h1:f.one=true)(hw:f.wf false none=true):H7 (f.flat++ys)=some (f,ys):=by
 have:=Mx f false none ys hw;have hc:f.cnt=1:=by
  cases f with
  | nil=>cases h1
  | cell k c r=>cases k with
   | some _=>cases h1
   | none=>cases r with
    | nil=>rfl
    | _=>cases h1
  | node k c kids r=>cases k with
   | some _=>cases h1
   | none=>cases r with
    | nil=>rfl
    | _=>cases h1
 rw[hc] at this;exact this
structure HQ (M:Nat) (v:List Aa):Prop where
 hM:M≤1000000000
 hv:v.length≤M
 hc:∀c∈v,c.fStr.length≤M∧B7 .i64 c.fInt=true∧c.fN≤9223372036854775807
theorem HQ.lk {M F:Nat}{v:List Aa}(h:HQ M v)(hF:M<F):Tk F M v:=⟨by have:=h.hM;omega,by have:=h.hM;omega,h.hv,hF,h.hc⟩
theorem HQ.rf {M F:Nat}{v:List Aa}(h:HQ M v)(hF:M<F):RfA F M v:=⟨by have:=h.hM;omega,h.hv,hF,λc hc=>(h.hc c hc).1⟩
theorem HQ.drop {M:Nat}{v:List Aa}(h:HQ M v)(k:Nat):HQ M (v.drop k):=⟨h.hM,by have:=h.hv;rw[Acg];omega,λc hc=>h.hc c (Acl hc)⟩
theorem HQ.take {M:Nat}{v:List Aa}(h:HQ M v)(k:Nat):HQ M (v.take k):=⟨h.hM,by have:=h.hv;rw[List.length_take];omega,λc hc=>h.hc c (List.mem_of_mem_take hc)⟩
def whole (v:List Aa):Option Fo:=match H7 v with
 | some (f,[])=>some f
 | _=>none
theorem JL {v:List Aa}{f:Fo}(h:whole v=some f):v=f.flat∧f.wf false none=true∧f.one=true:=by
 unfold whole at h
 cases hp:H7 v with
 | none=>rw[hp] at h;cases h
 | some q=>
  obtain⟨g,ys⟩:=q;rw[hp] at h
  cases ys with
  | cons _ _=>cases h
  | nil=>
   cases h
   obtain⟨h1,h2,h3⟩:=Jg hp;exact⟨by simpa using h1,h2,h3⟩
theorem MF {f:Fo}(h1:f.one=true)(hw:f.wf false none=true):whole f.flat=some f:=by
 have:=SB (ys:=[]) h1 hw;rw[AbK] at this;simp[whole,this]
def EL (f:Fo):Int:=
 bif f.flat.any BG then 2 else bif f.flat.any GI||(decide (200<f.flat.length)||(decide (8<f.dep)||decide (4000<(f.txt true).length))) then 3 else 0
def HK (v:List Aa):Int:=match whole v with
 | none=>1
 | some f=>EL f
theorem Pn {f:Fo}(h1:f.one=true):f.cnt=1:=by
 cases f with
 | nil=>cases h1
 | cell k c r=>cases k with
  | some _=>cases h1
  | none=>cases r with
   | nil=>rfl
   | _=>cases h1
 | node k c kids r=>cases k with
  | some _=>cases h1
  | none=>cases r with
   | nil=>rfl
   | _=>cases h1
theorem Ph (s:Ag):Lo s≤2*s.length+2+s.length:=by
 have h1:s.count 34≤s.length:=List.count_le_length;have h2:s.count 92≤s.length:=List.count_le_length;unfold Lo;omega
theorem Zw {c:Aa}{M:Nat}(hp:pl c=true)(hs:c.fStr.length≤M)(hi:(Lib.itoa c.fInt).length≤21):UO c≤3*M+21:=by
 have:=Ph c.fStr;unfold UO
 cases h1:decide (c.fKind=1) with
 | true=>simp only[Abr];omega
 | false=>
  cases h2:decide (c.fKind=2) with
  | true=>
   simp[pl,h1,h2] at hp;simp only[Abk,Abr];omega
  | false=>
   cases h3:decide (c.fKind=3) with
   | true=>simp only[Abk,Abr];omega
   | false=>cases h4:decide (c.fKind=4)<;>simp only[Abk,Abr]<;>omega
theorem P5 {M:Nat}:∀{f:Fo} {m:Bool} {l:Option Ag},f.wf m l=true→(∀c∈f.flat,c.fStr.length≤M∧B7 .i64 c.fInt=true∧c.fN≤9223372036854775807)→f.byt+f.cnt≤(3*M+24)*f.flat.length
 | .nil,_,_,_,_=>by simp[Fo.byt,Fo.flat,Fo.cnt]
 | .cell k c r,m,l,hw,hc=>by
  simp only[Fo.wf,Abp,Ab0] at hw;obtain⟨⟨⟨w1,w2⟩,w3⟩,w4⟩:=hw;simp only[Fo.flat] at hc;have ih:=P5 w4 (λx hx=>hc x (by simp[hx]));obtain⟨c1,c2,c3⟩:=hc c (by simp);have i64:=If c2;have hl:=Zw w2 c1 (Lib.itoa_length_le c.fInt i64.1 i64.2);have hk:Pt k≤(3*M+24)*(Bd k).length:=by
   cases k with
   | none=>simp[Pt,Bd]
   | some s=>
    have:=(hc ⟨4,0,s,0⟩ (by simp[Bd])).1;have h2:=Ph s;simp only at this;simp only[Pt,Bd,Ab6];omega
  simp only[Fo.byt,Fo.flat,Fo.cnt,Abq,Abl];have e:((3*(M:Int)+24)*(((Bd k).length+(r.flat.length+1):Nat):Int))=(3*(M:Int)+24)*(Bd k).length+((3*(M:Int)+24)*r.flat.length+(3*(M:Int)+24)):=by
   push_cast;rw[Int.mul_add,Int.mul_add,Int.mul_one]
  rw[e]
  push_cast at *
  omega
 | .node k c kids r,m,l,hw,hc=>by
  simp only[Fo.wf,Abp,Abh] at hw;obtain⟨⟨⟨⟨⟨w1,w2⟩,w3⟩,w5⟩,w6⟩,w4⟩:=hw;simp only[Fo.flat] at hc;have ih:=P5 w4 (λx hx=>hc x (by simp[hx]));have ih2:=P5 w6 (λx hx=>hc x (by simp[hx]));have hcf:=BS kids;have hk:Pt k≤(3*M+24)*(Bd k).length:=by
   cases k with
   | none=>simp[Pt,Bd]
   | some s=>
    have:=(hc ⟨4,0,s,0⟩ (by simp[Bd])).1;have h2:=Ph s;simp only at this;simp only[Pt,Bd,Ab6];omega
  simp only[Fo.byt,Fo.flat,Fo.cnt,Abq,Abl];have e:((3*(M:Int)+24)*(((Bd k).length+(kids.flat.length+r.flat.length+1):Nat):Int))=(3*(M:Int)+24)*(Bd k).length+((3*(M:Int)+24)*kids.flat.length+(3*(M:Int)+24)*r.flat.length+(3*(M:Int)+24)):=by
   push_cast;rw[Int.mul_add,Int.mul_add,Int.mul_add,Int.mul_one]
  rw[e]
  push_cast at *
  omega
theorem L8 {M:Nat}(hM:M≤1000000){f:Fo}{m:Bool}{l:Option Ag}(hw:f.wf m l=true)(hl:f.flat.length≤M)(hc:∀c∈f.flat,c.fStr.length≤M∧B7 .i64 c.fInt=true∧c.fN≤9223372036854775807):f.byt≤4000000000000:=by
 have:=P5 (M:=M) hw hc;have h2:(3*M+24)*f.flat.length≤(3*1000000+24)*1000000:=Nat.mul_le_mul (by omega) (by omega);have h3:(((3*M+24)*f.flat.length:Nat):Int)=(3*(M:Int)+24)*f.flat.length:=by push_cast;rfl
 omega
theorem H0 {M F:Nat}{v:List Aa}(hA:HQ M v)(hM:M≤1000000)(hF:M<F):JO F v=some (HK v):=by
 unfold JO HK whole;have hvM:=hA.hv;rcases Yf (hA.lk hF) with⟨f,ys,hp,hl⟩ | ⟨hp,sh',hl⟩
 ·rw[hl,A8 rfl,hp];obtain⟨h1,h2,h3⟩:=Jg hp;have hlen:v.length=f.flat.length+ys.length:=by rw[h1];simp
  cases ys with
  | cons c r=>
   rw[AA];simp only[Abl] at hlen;simp;omega
  | nil=>
   simp only[AbX,Nat.add_zero] at hlen;rw[As (by simp[hlen])];have hc:∀c∈f.flat,c.fStr.length≤M∧B7 .i64 c.fInt=true∧c.fN≤9223372036854775807:=λc hc=>hA.hc c (by rw[h1];simp[hc]);have hb:=L8 hM h2 (by omega) hc;have hb0:=Hf h2;have e1:(f.sh 0 MU).fOutside=f.flat.any BG:=by rw[Pa];rfl
   have e2:(f.sh 0 MU).fLong=f.flat.any GI:=by rw[Mu];rfl
   have e3:(f.sh 0 MU).fDepth=f.dep:=by rw[Kv f 0 MU (by simp[MU])];simp[MU]
   have e4:(f.sh 0 MU).fBytes=(f.txt true).length:=by
    rw[Kw f false none 0 MU h2 (by simp[MU]) (by simp[MU];omega),HW f false none true h2,Pn h3];simp[MU]
   simp only;rw[e1,e2,e3,e4,hlen];unfold EL
   cases f.flat.any BG with
   | true=>rw[AA rfl];rfl
   | false=>
    rw[As rfl];have a1:decide ((200:Int)<(f.flat.length:Int))=decide (200<f.flat.length):=by rw[Abz];simp;omega
    have a2:decide ((8:Int)<(f.dep:Int))=decide (8<f.dep):=by rw[Abz];simp;omega
    have a3:decide ((4000:Int)<((f.txt true).length:Int))=decide (4000<(f.txt true).length):=by rw[Abz];simp;omega
    rw[a1,a2,a3]
    cases(f.flat.any GI||(decide (200<f.flat.length)||(decide (8<f.dep)||decide (4000<(f.txt true).length))))<;>rfl
 ·rw[hl,A8 rfl,hp];rfl
theorem Pr {v:List Aa}{p:Int}{f:Fo}{ys:List Aa}(h1:f.one=true)(hw:f.wf false none=true)(hd:v.drop p.toNat=f.flat++ys):Is v p=p+f.flat.length:=by
 unfold Is;rw[hd,SB h1 hw]
theorem Mq {c:Aa}(hp:pl c=true)(hn:decide (0<c.fN)=false):(Fo.cell none c .nil).wf false none=true:=by simp[Fo.wf,Bp,hp,hn]
theorem Mp {c:Aa}{kids:Fo}(hp:pl c=true)(hn:0<c.fN)(hk:c.fN=kids.cnt)(hw:kids.wf (decide (c.fKind=6)) none=true):(Fo.node none c kids .nil).wf false none=true:=by simp[Fo.wf,Bp,hp,hn,hk,hw];omega
section
variable {M : Nat} {v : List Aa}
theorem HQ.next (hA:HQ M v){F:Nat}(hF:3*M+3<F){p:Int}(h0:0≤p)(h1:p≤v.length):E4 F v p=some (Is v p):=by
 have hM:=hA.hM;have hvM:=hA.hv;exact Qj (hA.rf (Ab1 M)) (λc hc=>(hA.hc c hc).2.2) (v.length-p.toNat) F p h0 h1 rfl (by omega)
theorem K5 {F:Nat}{p:Int}{c:Aa}{r:List Aa}(h0:0≤p)(hpM:p≤1152921504606846976)(hd:v.drop p.toNat=c::r)(hp:pl c=true)(hn:decide (0<c.fN)=false):Es (F+2) v p=some 1:=by
 obtain⟨g1,g2,g3⟩:=BU h0 hd;rw[Es];unfold K4;rw[AQ h0 g3,CR h0 hd]
 cases hk:(!decide (c.fKind=5)&&!decide (c.fKind=6)) with
 | true=>rw[AA rfl]
 | false=>
  rw[As rfl,A6 (by omega) (by omega),A8 (Dy (o:=.go 0) (by
   show Dg (F+1) v p _ 0 (p+1) 0=_;unfold Dg;rw[CR h0 hd,As hn]))]
  simp only[By,GD];rw[A6 (by omega) (by omega)];rfl
theorem Or {F:Nat}{i:Int}{rec:List Aa→Int→Option Int}{most at_ x L:Int}{m:Bool}{p q:Int}{pc:Aa}(hpc:Ap v i=pc)(hm:decide (pc.fKind=6)=m)(hx:x<pc.fN)(hx0:0≤x)(hpcN:pc.fN≤9223372036854775807)
  (ha0:0≤at_) (haM:at_≤1152921504606846976) (hp:p=bif m then at_+1 else at_) (hr:rec v p=some L) (hq:E4 F v p=some q):Dg F v i rec most at_ x=some (.next (max most L,q,x+1)):=by
 unfold Dg;rw[hpc,AA (by simpa using hx),hm]
 cases m with
 | true=>
  simp only[Abr] at hp;rw[AA rfl,A6 (by omega) (by omega),← hp,hr,A8 rfl]
  cases hl:decide (most<L) with
  | true=>rw[AA rfl,hq,A8 rfl,A6 (by omega) (by omega),Int.max_eq_right (by simp at hl;omega)]
  | false=>rw[As rfl,hq,A8 rfl,A6 (by omega) (by omega),Int.max_eq_left (by simp at hl;omega)]
 | false=>
  simp only[Abk] at hp;rw[As rfl,← hp,hr,A8 rfl]
  cases hl:decide (most<L) with
  | true=>rw[AA rfl,hq,A8 rfl,A6 (by omega) (by omega),Int.max_eq_right (by simp at hl;omega)]
  | false=>rw[As rfl,hq,A8 rfl,A6 (by omega) (by omega),Int.max_eq_left (by simp at hl;omega)]
theorem KL {m:Bool}{last key:Option Ag}(h:Bp m last key=true):((Bd key).length:Int)=bif m then 1 else 0:=by
  cases key with
  | none=>
            have:m=false:=by simpa[Bp] using h
            subst this;rfl
  | some s=>simp only[Bp,Abp] at h;rw[h.1.1];rfl
theorem Qk (hA:HQ M v):∀(g:Fo) (F L:Nat) (i at_ x most:Int) (m:Bool) (last:Option Ag) (ys:List Aa) (pc:Aa),Ap v i=pc→decide (pc.fKind=6)=m→pc.fN≤9223372036854775807→g.wf m last=true→v.drop at_.toNat=g.flat++ys→0≤at_→at_≤v.length→pc.fN=x+g.cnt→0≤x→0≤most→most≤1152921504606846976→g.cnt<L→3*M+5+g.flat.length<F→
  ∃o,BE (λσ=>Dg F v i (Es F) σ.1 σ.2.1 σ.2.2) L (most,at_,x)=some o∧By (λν=>GD ν) o=some (max most (g.dep:Int)+1):=by
 have hM:=hA.hM;have hvM:=hA.hv;have fin:∀(F L:Nat) (i at_ x most:Int) (pc:Aa),Ap v i=pc→pc.fN≤x→0≤most→most≤1152921504606846976→0<L→∃o,BE (λσ=>Dg F v i (Es F) σ.1 σ.2.1 σ.2.2) L (most,at_,x)=some o∧By (λν=>GD ν) o=some (most+1):=λF L i at_ x most pc hpc hx h0 hb hL=>by
  obtain⟨L,rfl⟩:∃K,L=K+1:=⟨L-1,by omega⟩
  refine⟨.go most,Dy (by show Dg F v i _ most at_ x=_;unfold Dg;rw[hpc,As (by simp;omega)]),?_⟩;simp only[By,GD];rw[A6 (by omega) (by omega)]
 have depM:∀g:Fo,g.dep≤g.flat.length:=by
  intro g
  induction g with
  | nil=>simp[Fo.dep]
  | cell k c r ih=>simp[Fo.dep,Fo.flat];omega
  | node k c kids r ih1 ih2=>simp[Fo.dep,Fo.flat];omega
 intro g
 induction g with
 | nil=>
  intro F L i at_ x most m last ys pc hpc hm hpN hw hd h0 h1 hN hx hmo hmM hL hF;obtain⟨o,h1,h2⟩:=fin F L i at_ x most pc hpc (by simp[Fo.cnt] at hN;omega) hmo hmM (by omega);exact⟨o,h1,by rw[h2];simp only[Fo.dep];congr 2<;>omega⟩
 | cell k c r ih=>
  intro F L i at_ x most m last ys pc hpc hm hpN hw hd h0 h1 hN hx hmo hmM hL hF;simp only[Fo.wf,Abp,Ab0] at hw;obtain⟨⟨⟨w1,w2⟩,w3⟩,w4⟩:=hw;simp only[Fo.flat,Ab2,AbP] at hd;simp only[Fo.cnt] at hN hL;simp only[Fo.flat,Abq,Abl] at hF;obtain⟨L,rfl⟩:∃K,L=K+1:=⟨L-1,by omega⟩
  obtain⟨F,rfl⟩:∃K,F=K+2:=⟨F-2,by omega⟩
  have hd1:=Co h0 hd;have hkl:=KL w1;obtain⟨g1,g2,g3⟩:=BU (by omega) hd1;have hlen:at_+(Bd k).length=bif m then at_+1 else at_:=by rw[hkl];cases m<;>simp
  have hq:=hA.next (F:=F+2) (by omega) (p:=at_+(Bd k).length) (by omega) (by omega);rw[Pr (f:=.cell none c .nil) (ys:=r.flat++ys) rfl (Mq w2 w3) hd1] at hq;have hb:=Or (most:=most) (x:=x) hpc hm (by omega) hx hpN h0 (by omega) hlen (K5 (F:=F) (by omega) (by omega) hd1 w2 w3) hq;have hdd:=depM r;obtain⟨o,ho1,ho2⟩:=ih (F+2) L i (at_+(Bd k).length+((Fo.cell none c .nil).flat.length:Int)) (x+1) (max most 1) m k ys pc hpc hm hpN w4 (by rw[show(Fo.cell none c .nil).flat.length=1 from rfl];exact g2) (by omega) (by rw[show(Fo.cell none c .nil).flat.length=1 from rfl];omega) (by omega) (by omega) (by omega) (by omega) (by omega) (by omega);refine⟨o,HD hb ho1,?_⟩;rw[ho2,Fo.dep];congr 2<;>omega
 | node k c kids r ihk ih=>
  intro F L i at_ x most m last ys pc hpc hm hpN hw hd h0 h1 hN hx hmo hmM hL hF;simp only[Fo.wf,Abp,Abh] at hw;obtain⟨⟨⟨⟨⟨w1,w2⟩,w3⟩,w5⟩,w6⟩,w4⟩:=hw;simp only[Fo.flat,Ab2,AbP] at hd;simp only[Fo.cnt] at hN hL;simp only[Fo.flat,Abq,Abl] at hF;obtain⟨L,rfl⟩:∃K,L=K+1:=⟨L-1,by omega⟩
  obtain⟨F,rfl⟩:∃K,F=K+1:=⟨F-1,by omega⟩
  have hd1:=Co h0 hd;have hkl:=KL w1;obtain⟨g1,g2,g3⟩:=BU (by omega) hd1;have hcN:=(hA.hc c (Abv g1)).2.2;have hlen:at_+(Bd k).length=bif m then at_+1 else at_:=by rw[hkl];cases m<;>simp
  have hq:=hA.next (F:=F+1) (by omega) (p:=at_+(Bd k).length) (by omega) (by omega);have hfl:(Fo.node none c kids .nil).flat=c::kids.flat:=by simp[Fo.flat,Bd]
  rw[Pr (f:=.node none c kids .nil) (ys:=r.flat++ys) rfl (Mp w2 w3 w5 w6) (by rw[hd1,hfl];simp)] at hq;have hdk:=depM kids;have hdd:=depM r;have hcf:=BS kids;have hvl:(v.drop (at_+(Bd k).length+1).toNat).length=kids.flat.length+(r.flat.length+ys.length):=by rw[g2];simp
  rw[Acg] at hvl;have hrec:Es (F+1) v (at_+(Bd k).length)=some ((kids.dep:Int)+1):=by
   rw[Es];unfold K4;rw[AQ (by omega) g3,CR (by omega) hd1];have ha:=(GZ w2 w3).1;rw[As (by simp;omega),A6 (by omega) (by omega)];obtain⟨o,ho1,ho2⟩:=ihk F F (at_+(Bd k).length) (at_+(Bd k).length+1) 0 0 _ none (r.flat++ys) c (CR (by omega) hd1) rfl hcN w6 (by rw[g2]) (by omega) (by omega) (by omega) (Ab4 0) (Ab4 0) (by omega) (by omega) (by omega);rw[A8 ho1,ho2];congr 2<;>omega
  have hb:=Or (most:=most) (x:=x) hpc hm (by omega) hx hpN h0 (by omega) hlen hrec hq;obtain⟨o,ho1,ho2⟩:=ih (F+1) L i (at_+(Bd k).length+((Fo.node none c kids .nil).flat.length:Int)) (x+1) (max most ((kids.dep:Int)+1)) m k ys pc hpc hm hpN w4 (by
   have:=Co (by omega) g2;rw[hfl,Abl,show at_+(Bd k).length+((kids.flat.length+1:Nat):Int)=at_+(Bd k).length+1+kids.flat.length from by omega];exact this) (by omega) (by rw[hfl,Abl];omega) (by omega) (by omega) (by omega) (by omega) (by omega) (by omega)
  refine⟨o,HD hb ho1,?_⟩;rw[ho2,Fo.dep];congr 2<;>omega
theorem R7 (hA:HQ M v){F:Nat}{p:Int}{f:Fo}{ys:List Aa}(h0:0≤p)(h1:f.one=true)(hw:f.wf false none=true)(hd:v.drop p.toNat=f.flat++ys)(hF:3*M+6+f.flat.length<F):Es F v p=some (f.dep:Int):=by
 have hM:=hA.hM;have hvM:=hA.hv
 cases f with
 | nil=>cases h1
 | cell k c r=>
  cases k with
  | some s=>cases h1
  | none=>
   cases r with
   | nil=>
    simp only[Fo.wf,Abp,Ab0] at hw;obtain⟨F,rfl⟩:∃K,F=K+2:=⟨F-2,by omega⟩
    have hd':v.drop p.toNat=c::ys:=by simpa[Fo.flat,Bd] using hd
    rw[K5 h0 (by have:=(BU h0 hd').2.2;omega) hd' hw.1.1.2 hw.1.2];rfl
   | cell _ _ _=>cases h1
   | node _ _ _ _=>cases h1
 | node k c kids r=>
  cases k with
  | some s=>cases h1
  | none=>
   cases r with
   | nil=>
    simp only[Fo.wf,Abp,Abh] at hw;obtain⟨⟨⟨⟨⟨w1,w2⟩,w3⟩,w5⟩,w6⟩,w4⟩:=hw;have hd':v.drop p.toNat=c::(kids.flat++ys):=by simpa[Fo.flat,Bd] using hd
    obtain⟨g1,g2,g3⟩:=BU h0 hd';have hcN:=(hA.hc c (Abv g1)).2.2;have hcf:=BS kids;simp only[Fo.flat,Bd,AbJ,AbK,Abl] at hF;obtain⟨F,rfl⟩:∃K,F=K+1:=⟨F-1,by omega⟩
    rw[Es];unfold K4;have ha:=(GZ w2 w3).1;rw[AQ h0 g3,CR h0 hd',As (by simp;omega),A6 (by omega) (by omega)];obtain⟨o,ho1,ho2⟩:=Qk hA kids F F p (p+1) 0 0 _ none ys c (CR h0 hd') rfl hcN w6 g2 (by omega) (by omega) (by omega) (Ab4 0) (Ab4 0) (by omega) (by omega) (by omega);rw[A8 ho1,ho2];simp only[Fo.dep];congr 1<;>omega
   | cell _ _ _=>cases h1
   | node _ _ _ _=>cases h1
end
def Mj (c:UInt8):Ag:=bif (decide (c=34)||decide (c=92)) then[92,c] else[c]
theorem L0 {s:Ag}{k:Nat}{c:UInt8}(h:s[k]? =some c):DE (s.take (k+1))=DE (s.take k)++Mj c:=by
 rw[List.take_add_one,h];simp[DE,List.flatMap_append,Mj]
theorem QW (s:Ag):(DE s).length≤3*s.length:=by
 rw[KX];have h1:s.count 34≤s.length:=List.count_le_length;have h2:s.count 92≤s.length:=List.count_le_length;omega
theorem Rz {s:Ag}{x:Int}{c:UInt8}(h0:0≤x)(h:s[x.toNat]? =some c):List.take (Int.toNat (x+1)-Int.toNat x) (List.drop (Int.toNat x) s)=[c]:=by
 have hl:=(List.getElem?_eq_some_iff.1 h).1;have hc:=(List.getElem?_eq_some_iff.1 h).2;rw[show Int.toNat (x+1)-Int.toNat x=1 from by omega,List.drop_eq_getElem_cons hl,hc];rfl
theorem YV {s:Ag}{x:Int}{c:UInt8}(h:s[x.toNat]? =some c):decide (Ba s x=34)=decide (c=34):=by
 rw[Gt h,Abz,decide_eq_true_iff,decide_eq_true_iff,← Acf];show _↔c.toNat=34;omega
theorem YU {s:Ag}{x:Int}{c:UInt8}(h:s[x.toNat]? =some c):decide (Ba s x=92)=decide (c=92):=by
 rw[Gt h,Abz,decide_eq_true_iff,decide_eq_true_iff,← Acf];show _↔c.toNat=92;omega
theorem Pd {s out:Ag}{x:Int}{c:UInt8}(h0:0≤x)(hx:x<(s.length:Int))(hs:s.length≤1152921504606846976)(ho:out.length≤3*s.length+1)(hc:s[x.toNat]? =some c):DA s out x=some (.next (out++Mj c,x+1)):=by
 unfold DA Mj;rw[AA (Abm hx),AQ h0 hx,YV hc,YU hc,Rz h0 hc];have l1:(([92]:Ag).length:Int)=1:=rfl;have l2:(([c]:Ag).length:Int)=1:=rfl
 cases hq:(decide (c=34)||decide (c=92)) with
 | true=>
  have l3:((out++([92]:Ag)).length:Int)=out.length+1:=by rw[Abq,Ab6,Int.natCast_add];rfl
  rw[AA rfl,l1,l2,l3,A6 (by omega) (by omega),A6 (by omega) (by omega),BO (by omega) (by omega),BO (by omega) (by omega),A6 (by omega) (by omega),Ab2];rfl
 | false=>
  rw[As rfl,l2,A6 (by omega) (by omega),BO (by omega) (by omega),BO (by omega) (by omega),A6 (by omega) (by omega)];rfl
theorem Dx {R V:Type}(K:V→Option R)(v:V):By K (.go v)=K v:=rfl
theorem Nd {R V:Type}(K:V→Option R)(r:R):By K (.ret r)=some r:=rfl
theorem Qi {s out:Ag}{x:Int}(hx : ¬ x<(s.length:Int)):DA s out x=some (.out (.go out)):=by
 unfold DA;rw[As (Abj hx)]
theorem T9 {out:Ag}(h:out.length≤4611686018427387904):EC out=some (out++[34]):=by
 unfold EC;have l1:(([34]:Ag).length:Int)=1:=rfl;rw[l1,A6 (by omega) (by omega)]
theorem JS {F:Nat}{s:Ag}(hF:s.length<F)(hs:s.length≤1152921504606846976):K3 F s=some (DB s):=by
 obtain⟨o,h1,h2⟩:=Ew (body:=λσ=>DA s σ.1 σ.2) (λσ=>0≤σ.2∧σ.2≤(s.length:Int)∧σ.1=34::DE (s.take σ.2.toNat)) (λσ=>s.length-σ.2.toNat)
  (λo=>By (λν=>EC ν) o=some (DB s)) (λσ ⟨h0,hl,ha⟩=>by
   obtain⟨out,x⟩:=σ;simp only at h0 hl ha;show(∃s',DA s out x=_∧_)∨∃o,DA s out x=_∧_;have hb:=QW (s.take x.toNat);have hb2:(s.take x.toNat).length≤s.length:=by rw[List.length_take];omega
   have hol:out.length≤3*s.length+1:=by rw[ha,Abl];omega
   by_cases hx:x<(s.length:Int)
   ·obtain⟨c,hc⟩:∃c,s[x.toNat]? =some c:=⟨s[x.toNat]'(by omega),Abs (by omega)⟩
    have a1:0≤x+1:=by omega
    have a2:x+1≤s.length:=by omega
    have a3:s.length-(x+1).toNat<s.length-x.toNat:=by omega
    have a4:out++Mj c=34::DE (s.take (x+1).toNat):=by rw[show(x+1).toNat=x.toNat+1 from by omega,L0 hc,ha];rfl
    exact .inl ⟨(out++Mj c,x+1),Pd h0 hx hs hol hc,⟨a1,a2,a4⟩,a3⟩
   ·have e:x.toNat=s.length:=by omega
    have hk:EC out=some (out++[34]):=T9 (by omega);have hf:out++[34]=DB s:=by rw[ha,e,Aca];rfl
    exact .inr ⟨.go out,Qi hx,(Dx (λν=>EC ν) out).trans (hk.trans (congrArg some hf))⟩) F ([34],0) ⟨Ab4 0,by show(0:Int)≤s.length;omega,by show([34]:Ag)=34::DE (s.take 0);simp[DE]⟩ (by show s.length-0<F;omega)
 unfold K3;rw[A8 h1,h2]
section
variable {M : Nat} {v : List Aa}
theorem Aa3 (a b c d e:Ag):(((a++b)++c)++d)++e=a++(b++(c++d)++e):=by simp
theorem Aa4 (a b c d:Ag):((a++b)++c)++d=a++([]++(b++c)++d):=by simp
theorem Aa5 (a b c:Ag):(a++b)++c=a++(b++[]++c):=by simp
theorem Aa6 (a b:Ag):a++b=a++([]++[]++b):=by simp
theorem Yi (a:Ag)(c:UInt8):((a++[c]).length:Int)=a.length+1:=by rw[Abq,Ab6,Int.natCast_add];rfl
theorem QH (a b:Ag):((a++b).length:Int)=a.length+b.length:=by rw[Abq,Int.natCast_add]
theorem Oo {F:Nat}{i:Int}{rec:List Aa→Int→Option Ag}{out tx:Ag}{at_ x:Int}{m:Bool}{p q:Int}{pc:Aa}{key:Option Ag}{last:Option Ag}(hpc:Ap v i=pc)(hm:decide (pc.fKind=6)=m)(hx:x<pc.fN)(hx0:0≤x)(hpcN:pc.fN≤9223372036854775807)
  (ha0:0≤at_) (haM:at_<v.length) (hvM:(v.length:Int)≤1152921504606846976) (hk:Bp m last key=true) (hkey:∀s,key=some s→(Ap v at_).fStr=s∧s.length<F∧s.length≤1152921504606846976) (hp:p=bif m then at_+1 else at_) (hr:rec v p=some tx) (hq:E4 F v p=some q)
  (hlen:((out++(Cv (decide (x=0))++E5 key++tx)).length:Int)≤4611686018427387904):ES F v i rec out at_ x=some (.next (out++(Cv (decide (x=0))++E5 key++tx),q,x+1)):=by
 have hb:(([44]:Ag).length:Int)=1:=rfl;have hd:(([58]:Ag).length:Int)=1:=rfl;have hx1:AR (B7 .i64 (x+1)) (some (Stp.next (out++(Cv (decide (x=0))++E5 key++tx),q,x+1)):Option (Stp (Ag×Int×Int) (Out Ag Ag)))=some (Stp.next (out++(Cv (decide (x=0))++E5 key++tx),q,x+1)):=A6 (by omega) (by omega);unfold ES;rw[hpc,AA (Abm hx),hm]
 cases ha:decide (x=0) with
 | true=>
  rw[ha] at hx1 hlen;simp only[Abh] at ha;rw[As (Abj (by omega))]
  cases m with
  | true=>
   cases key with
   | none=>simp[Bp] at hk
   | some s=>
    obtain⟨e1,e2,e3⟩:=hkey s rfl;simp only[Abr] at hp;have e:((out++DB s)++[58])++tx=out++(Cv true++E5 (some s)++tx):=Aa4 _ _ _ _;rw[← e] at hx1 hlen ⊢;have h1:=QH ((out++DB s)++[58]) tx;have h2:=Yi (out++DB s) 58;have h3:=QH out (DB s);rw[AA rfl,AQ ha0 haM,e1,JS e2 e3,A8 rfl,A6 (by omega) (by omega),hd,A6 (by omega) (by omega),A6 (by omega) (by omega),← hp,hr,A8 rfl,A6 (by omega) (by omega),hq,A8 rfl,hx1]
  | false=>
   cases key with
   | some s=>simp[Bp] at hk
   | none=>
    simp only[Abk] at hp;have e:out++tx=out++(Cv true++E5 none++tx):=Aa6 _ _;rw[← e] at hx1 hlen ⊢;have h1:=QH out tx;rw[As rfl,← hp,hr,A8 rfl,A6 (by omega) (by omega),hq,A8 rfl,hx1]
 | false=>
  rw[ha] at hx1 hlen;simp only[Abi] at ha;rw[AA (Abm (by omega))]
  cases m with
  | true=>
   cases key with
   | none=>simp[Bp] at hk
   | some s=>
    obtain⟨e1,e2,e3⟩:=hkey s rfl;simp only[Abr] at hp;have e:(((out++[44])++DB s)++[58])++tx=out++(Cv false++E5 (some s)++tx):=Aa3 _ _ _ _ _;rw[← e] at hx1 hlen ⊢;have h1:=QH (((out++[44])++DB s)++[58]) tx;have h2:=Yi ((out++[44])++DB s) 58;have h3:=QH (out++[44]) (DB s);have h4:=Yi out 44;rw[hb,A6 (by omega) (by omega),AA rfl,AQ ha0 haM,e1,JS e2 e3,A8 rfl,A6 (by omega) (by omega),hd,A6 (by omega) (by omega),A6 (by omega) (by omega),← hp,hr,A8 rfl,A6 (by omega) (by omega),hq,A8 rfl,hx1]
  | false=>
   cases key with
   | some s=>simp[Bp] at hk
   | none=>
    simp only[Abk] at hp;have e:(out++[44])++tx=out++(Cv false++E5 none++tx):=Aa5 _ _ _;rw[← e] at hx1 hlen ⊢;have h1:=QH (out++[44]) tx;have h4:=Yi out 44;rw[hb,A6 (by omega) (by omega),As rfl,← hp,hr,A8 rfl,A6 (by omega) (by omega),hq,A8 rfl,hx1]
theorem S3 {i:Int}{pc:Aa}{out:Ag}(hpc:Ap v i=pc)(h:out.length≤4611686018427387904):K2 v i out=some (Ma pc out):=by
 unfold K2 Ma;have l1:(([123]:Ag).length:Int)=1:=rfl;have l2:(([91]:Ag).length:Int)=1:=rfl;have l3:(([125]:Ag).length:Int)=1:=rfl;have l4:(([93]:Ag).length:Int)=1:=rfl;have h1:=QH [123] out;have h2:=QH [91] out;rw[hpc]
 cases hk:decide (pc.fKind=6) with
 | true=>rw[AA rfl,A6 (by omega) (by omega),A6 (by omega) (by omega)];rfl
 | false=>rw[As rfl,A6 (by omega) (by omega),A6 (by omega) (by omega)];rfl
theorem MW {F:Nat}{p:Int}{c:Aa}{r:List Aa}(h0:0≤p)(hpM:p≤1152921504606846976)(hd:v.drop p.toNat=c::r)(hp:pl c=true)(hn:decide (0<c.fN)=false)(hs:c.fStr.length<F+1)(hs2:c.fStr.length≤1152921504606846976)(hi:B7 .i64 c.fInt=true):IA (F+2) v p=some (CZ c):=by
 obtain⟨g1,g2,g3⟩:=BU h0 hd;rw[IA];unfold Pc CZ;rw[AQ h0 g3,CR h0 hd]
 cases k1:decide (c.fKind=1) with
 | true=>rw[AA rfl];rfl
 | false=>
 rw[As rfl]
 cases k2:decide (c.fKind=2) with
 | true=>rw[AA rfl];cases decide (c.fInt=1)<;>rfl
 | false=>
 rw[As rfl]
 cases k3:decide (c.fKind=3) with
 | true=>rw[AA rfl,B9 hi];rfl
 | false=>
 rw[As rfl]
 cases k4:decide (c.fKind=4) with
 | true=>rw[AA rfl,JS hs hs2,A8 rfl];rfl
 | false=>
 have hgo:ES (F+1) v p (IA (F+1)) [] (p+1) 0=some (.out (.go [])):=by
  unfold ES;rw[CR h0 hd,As hn]
 rw[As rfl,A6 (by omega) (by omega),A8 (Dy (o:=.go []) hgo),Dx,S3 (CR h0 hd) (by simp)];simp only[Abk,Ma]
 cases decide (c.fKind=6)<;>rfl
end
section
variable {M : Nat} {v : List Aa}
theorem Ji {α:Type}[Inhabited α](a:α):ov (some a)=a:=rfl
theorem Wl {at_:Int}{k:Option Ag}{r:List Aa}(h0:0≤at_)(hA:HQ M v){F:Nat}(hF:M<F)(hd:v.drop at_.toNat=Bd k++r):∀s,k=some s→(Ap v at_).fStr=s∧s.length<F∧s.length≤1152921504606846976:=λs e=>by
 subst e;have hd':v.drop at_.toNat=⟨4,0,s,0⟩::r:=by simpa[Bd] using hd
 have h1:=CR h0 hd';have h2:=(hA.hc _ (Abv (BU h0 hd').1)).1;have hM:=hA.hM;simp only at h2;exact⟨by rw[h1],by omega,by omega⟩
theorem Qf (hA:HQ M v):∀(g:Fo) (F L:Nat) (i at_ x:Int) (out:Ag) (m:Bool) (last:Option Ag) (ys:List Aa) (pc:Aa),Ap v i=pc→decide (pc.fKind=6)=m→pc.fN≤9223372036854775807→g.wf m last=true→v.drop at_.toNat=g.flat++ys→0≤at_→at_≤v.length→pc.fN=x+g.cnt→0≤x→(out++g.txt (decide (x=0))).length≤4611686018427387904→g.cnt<L→3*M+5+g.flat.length<F→
  ∃o,BE (λσ=>ES F v i (IA F) σ.1 σ.2.1 σ.2.2) L (out,at_,x)=some o∧By (λν=>K2 v i ν) o=some (Ma pc (out++g.txt (decide (x=0)))):=by
 have hM:=hA.hM;have hvM:=hA.hv;intro g
 induction g with
 | nil=>
  intro F L i at_ x out m last ys pc hpc hm hpN hw hd h0 h1 hN hx hlen hL hF;obtain⟨L,rfl⟩:∃K,L=K+1:=⟨L-1,by omega⟩
  have hgo:ES F v i (IA F) out at_ x=some (.out (.go out)):=by
   simp only[Fo.cnt] at hN;unfold ES;rw[hpc,As (Abj (by omega))]
  refine⟨.go out,Dy hgo,?_⟩;simp only[Fo.txt,AbK] at hlen ⊢;rw[Dx,S3 hpc hlen]
 | cell k c r ih=>
  intro F L i at_ x out m last ys pc hpc hm hpN hw hd h0 h1 hN hx hlen hL hF;simp only[Fo.wf,Abp,Ab0] at hw;obtain⟨⟨⟨w1,w2⟩,w3⟩,w4⟩:=hw;simp only[Fo.flat,Ab2,AbP] at hd;simp only[Fo.cnt] at hN hL;simp only[Fo.flat,Abq,Abl] at hF;obtain⟨L,rfl⟩:∃K,L=K+1:=⟨L-1,by omega⟩
  obtain⟨F,rfl⟩:∃K,F=K+2:=⟨F-2,by omega⟩
  have hd1:=Co h0 hd;have hkl:=KL w1;obtain⟨g1,g2,g3⟩:=BU (by omega) hd1;have hcM:=hA.hc c (Abv g1);have hp:at_+(Bd k).length=bif m then at_+1 else at_:=by rw[hkl];cases m<;>simp
  have hq:=hA.next (F:=F+2) (by omega) (p:=at_+(Bd k).length) (by omega) (by omega);rw[Pr (f:=.cell none c .nil) (ys:=r.flat++ys) rfl (Mq w2 w3) hd1] at hq;have e:out++(Fo.cell k c r).txt (decide (x=0))=(out++(Cv (decide (x=0))++E5 k++CZ c))++r.txt (decide (x+1=0)):=by
   rw[Abj (show ¬ x+1=0 by omega)];simp[Fo.txt]
  rw[e] at hlen ⊢;have hl2:((out++(Cv (decide (x=0))++E5 k++CZ c)).length:Int)≤4611686018427387904:=by rw[Abq] at hlen;omega
  have hat:at_<v.length:=by omega
  have hb:=Oo hpc hm (by omega) hx hpN h0 hat (by omega) w1 (Wl h0 hA (F:=F+2) (by omega) hd) hp (MW (F:=F) (by omega) (by omega) hd1 w2 w3 (by omega) (by omega) hcM.2.1) hq hl2;obtain⟨o,ho1,ho2⟩:=ih (F+2) L i (at_+(Bd k).length+((Fo.cell none c .nil).flat.length:Int)) (x+1) (out++(Cv (decide (x=0))++E5 k++CZ c)) m k ys pc hpc hm hpN w4 (by rw[show(Fo.cell none c .nil).flat.length=1 from rfl];exact g2) (by omega) (by rw[show(Fo.cell none c .nil).flat.length=1 from rfl];omega) (by omega) (by omega) hlen (by omega) (by omega);exact⟨o,HD hb ho1,ho2⟩
 | node k c kids r ihk ih=>
  intro F L i at_ x out m last ys pc hpc hm hpN hw hd h0 h1 hN hx hlen hL hF;simp only[Fo.wf,Abp,Abh] at hw;obtain⟨⟨⟨⟨⟨w1,w2⟩,w3⟩,w5⟩,w6⟩,w4⟩:=hw;simp only[Fo.flat,Ab2,AbP] at hd;simp only[Fo.cnt] at hN hL;simp only[Fo.flat,Abq,Abl] at hF;obtain⟨L,rfl⟩:∃K,L=K+1:=⟨L-1,by omega⟩
  obtain⟨F,rfl⟩:∃K,F=K+1:=⟨F-1,by omega⟩
  have hd1:=Co h0 hd;have hkl:=KL w1;obtain⟨g1,g2,g3⟩:=BU (by omega) hd1;have hcN:=(hA.hc c (Abv g1)).2.2;have hp:at_+(Bd k).length=bif m then at_+1 else at_:=by rw[hkl];cases m<;>simp
  have hq:=hA.next (F:=F+1) (by omega) (p:=at_+(Bd k).length) (by omega) (by omega);have hfl:(Fo.node none c kids .nil).flat=c::kids.flat:=by simp[Fo.flat,Bd]
  rw[Pr (f:=.node none c kids .nil) (ys:=r.flat++ys) rfl (Mp w2 w3 w5 w6) (by rw[hd1,hfl];simp)] at hq;have hcf:=BS kids;have hvl:(v.drop (at_+(Bd k).length+1).toNat).length=kids.flat.length+(r.flat.length+ys.length):=by rw[g2];simp
  rw[Acg] at hvl;have e:out++(Fo.node k c kids r).txt (decide (x=0))=(out++(Cv (decide (x=0))++E5 k++Ma c (kids.txt true)))++r.txt (decide (x+1=0)):=by
   rw[Abj (show ¬ x+1=0 by omega)];simp[Fo.txt]
  rw[e] at hlen ⊢;have hl2:((out++(Cv (decide (x=0))++E5 k++Ma c (kids.txt true))).length:Int)≤4611686018427387904:=by rw[Abq] at hlen;omega
  have hl3:(kids.txt true).length≤4611686018427387904:=by
   have:=Ij c (kids.txt true);rw[Abq,Abq] at hl2;omega
  have hat:at_<v.length:=by omega
  have hrec:IA (F+1) v (at_+(Bd k).length)=some (Ma c (kids.txt true)):=by
   rw[IA];unfold Pc;have ha:=(GZ w2 w3).1;rw[AQ (by omega) g3,CR (by omega) hd1,As (Abj (by omega)),As (Abj (by omega)),As (Abj (by omega)),As (Abj (by omega)),A6 (by omega) (by omega)];obtain⟨o,ho1,ho2⟩:=ihk F F (at_+(Bd k).length) (at_+(Bd k).length+1) 0 [] _ none (r.flat++ys) c (CR (by omega) hd1) rfl hcN w6 (by rw[g2]) (by omega) (by omega) (by omega) (Ab4 0) hl3 (by omega) (by omega);rw[A8 ho1,ho2];rfl
  have hb:=Oo hpc hm (by omega) hx hpN h0 hat (by omega) w1 (Wl h0 hA (F:=F+1) (by omega) hd) hp hrec hq hl2;obtain⟨o,ho1,ho2⟩:=ih (F+1) L i (at_+(Bd k).length+((Fo.node none c kids .nil).flat.length:Int)) (x+1) (out++(Cv (decide (x=0))++E5 k++Ma c (kids.txt true))) m k ys pc hpc hm hpN w4 (by
   have:=Co (by omega) g2;rw[hfl,Abl,show at_+(Bd k).length+((kids.flat.length+1:Nat):Int)=at_+(Bd k).length+1+kids.flat.length from by omega];exact this) (by omega) (by rw[hfl,Abl];omega) (by omega) (by omega) hlen (by omega) (by omega)
  exact⟨o,HD hb ho1,ho2⟩
theorem V1 (hA:HQ M v){F:Nat}{p:Int}{f:Fo}{ys:List Aa}(h0:0≤p)(h1:f.one=true)(hw:f.wf false none=true)(hd:v.drop p.toNat=f.flat++ys)(hF:3*M+6+f.flat.length<F)(hlen:(f.txt true).length≤4611686018427387904):IA F v p=some (f.txt true):=by
 have hM:=hA.hM;have hvM:=hA.hv
 cases f with
 | nil=>cases h1
 | cell k c r=>
  cases k with
  | some s=>cases h1
  | none=>
   cases r with
   | nil=>
    simp only[Fo.wf,Abp,Ab0] at hw;obtain⟨F,rfl⟩:∃K,F=K+2:=⟨F-2,by omega⟩
    have hd':v.drop p.toNat=c::ys:=by simpa[Fo.flat,Bd] using hd
    have hcM:=hA.hc c (Abv (BU h0 hd').1);rw[MW h0 (by have:=(BU h0 hd').2.2;omega) hd' hw.1.1.2 hw.1.2 (by omega) (by omega) hcM.2.1];simp[Fo.txt,Cv,E5]
   | cell _ _ _=>cases h1
   | node _ _ _ _=>cases h1
 | node k c kids r=>
  cases k with
  | some s=>cases h1
  | none=>
   cases r with
   | nil=>
    simp only[Fo.wf,Abp,Abh] at hw;obtain⟨⟨⟨⟨⟨w1,w2⟩,w3⟩,w5⟩,w6⟩,w4⟩:=hw;have hd':v.drop p.toNat=c::(kids.flat++ys):=by simpa[Fo.flat,Bd] using hd
    obtain⟨g1,g2,g3⟩:=BU h0 hd';have hcN:=(hA.hc c (Abv g1)).2.2;have hcf:=BS kids;simp only[Fo.flat,Bd,AbJ,AbK,Abl] at hF;have et:(Fo.node none c kids .nil).txt true=Ma c (kids.txt true):=by simp[Fo.txt,Cv,E5]
    rw[et] at hlen ⊢;have hbl:=Ij c (kids.txt true);obtain⟨F,rfl⟩:∃K,F=K+1:=⟨F-1,by omega⟩
    rw[IA];unfold Pc;have ha:=(GZ w2 w3).1;rw[AQ h0 g3,CR h0 hd',As (Abj (by omega)),As (Abj (by omega)),As (Abj (by omega)),As (Abj (by omega)),A6 (by omega) (by omega)];obtain⟨o,ho1,ho2⟩:=Qf hA kids F F p (p+1) 0 [] _ none ys c (CR h0 hd') rfl hcN w6 g2 (by omega) (by omega) (by omega) (Ab4 0) (by show(kids.txt true).length≤_;omega) (by omega) (by omega);rw[A8 ho1,ho2];rfl
   | cell _ _ _=>cases h1
   | node _ _ _ _=>cases h1
theorem TF {F:Nat}{K:Option Int}(hF:v.length<F)(hv:v.length≤1152921504606846976):Bi (BE (λσ=>Gy v σ) F 0) (By λ_=>K)=bif v.any BG then some 2 else K:=by
 obtain⟨o,h1,h2⟩:=Ew (body:=λσ=>Gy v σ) (λx=>0≤x∧x≤(v.length:Int)∧(v.take x.toNat).any BG=false) (λx=>v.length-x.toNat)
  (λo=>By (λ_=>K) o=bif v.any BG then some 2 else K) (λx ⟨h0,hl,ha⟩=>by
   by_cases hx:x<(v.length:Int)
   ·obtain⟨c,hc⟩:∃c,v[x.toNat]? =some c:=⟨v[x.toNat]'(by omega),Abs (by omega)⟩
    have hat:Ap v x=c:=by simp[Ap,hc]
    have ho:(decide (c.fKind=3)&&(decide (c.fInt<(-1000000000000))||decide (1000000000000<c.fInt)))=BG c:=by
     unfold BG
     cases decide (c.fKind=3) with
     | false=>rfl
     | true=>
      rw[Aby,Aby,Abz];simp only[AbQ,Abh,Ab0,AbZ,Abi];omega
    have hb:Gy v x=AV (BG c) (some (.out (.ret 2))) (some (.next (x+1))):=by
     unfold Gy;rw[AA (Abm hx),AQ h0 hx,hat,ho,A6 (by omega) (by omega)]
    cases hq:BG c with
    | true=>
     refine .inr ⟨.ret 2,hb.trans (AA hq),?_⟩;have:v.any BG=true:=List.any_eq_true.2 ⟨c,Abv hc,hq⟩;rw[Nd,this];rfl
    | false=>
     have a3:(v.take (x+1).toNat).any BG=false:=by
      rw[show(x+1).toNat=x.toNat+1 from by omega,List.take_add_one,hc,List.any_append,ha];simp[hq]
     exact .inl ⟨x+1,hb.trans (As hq),⟨by omega,by omega,a3⟩,by omega⟩
   ·refine .inr ⟨.go (),by unfold Gy;rw[As (Abj hx)],?_⟩;rw[show x.toNat=v.length from by omega,Aca] at ha;rw[Dx,ha];rfl) F 0 ⟨Ab4 0,by omega,by simp⟩ (by simpa using hF)
 rw[A8 h1,h2]
theorem TE {F:Nat}{K:Option Int}(hF:v.length<F)(hv:v.length≤1152921504606846976):Bi (BE (λσ=>Gx v σ) F 0) (By λ_=>K)=bif v.any GI then some 3 else K:=by
 obtain⟨o,h1,h2⟩:=Ew (body:=λσ=>Gx v σ) (λx=>0≤x∧x≤(v.length:Int)∧(v.take x.toNat).any GI=false) (λx=>v.length-x.toNat)
  (λo=>By (λ_=>K) o=bif v.any GI then some 3 else K) (λx ⟨h0,hl,ha⟩=>by
   by_cases hx:x<(v.length:Int)
   ·obtain⟨c,hc⟩:∃c,v[x.toNat]? =some c:=⟨v[x.toNat]'(by omega),Abs (by omega)⟩
    have hat:Ap v x=c:=by simp[Ap,hc]
    have hb:Gx v x=AV (GI c) (some (.out (.ret 3))) (some (.next (x+1))):=by
     unfold Gx;rw[AA (Abm hx),AQ h0 hx,hat,A6 (by omega) (by omega)];rfl
    cases hq:GI c with
    | true=>
     refine .inr ⟨.ret 3,hb.trans (AA hq),?_⟩;have:v.any GI=true:=List.any_eq_true.2 ⟨c,Abv hc,hq⟩;rw[Nd,this];rfl
    | false=>
     have a3:(v.take (x+1).toNat).any GI=false:=by
      rw[show(x+1).toNat=x.toNat+1 from by omega,List.take_add_one,hc,List.any_append,ha];simp[hq]
     exact .inl ⟨x+1,hb.trans (As hq),⟨by omega,by omega,a3⟩,by omega⟩
   ·refine .inr ⟨.go (),by unfold Gx;rw[As (Abj hx)],?_⟩;rw[show x.toNat=v.length from by omega,Aca] at ha;rw[Dx,ha];rfl) F 0 ⟨Ab4 0,by omega,by simp⟩ (by simpa using hF)
 rw[A8 h1,h2]
theorem P0:decide (Is v 0=v.length)=(whole v).isSome:=by
 unfold Is whole;rw[show v.drop (0:Int).toNat=v from rfl]
 cases hp:H7 v with
 | none=>simp
 | some q=>
  obtain⟨f,ys⟩:=q;have h1:=(Jg hp).1;have hl:v.length=f.flat.length+ys.length:=by rw[h1];simp
  cases ys with
  | nil=>simp at hl ⊢;omega
  | cons c r=>simp at hl ⊢;omega
theorem TG (hA:HQ M v)(hM:M≤1000000){F:Nat}(hF:4*M+6<F):R9 F v=some (HK v):=by
 have hvM:=hA.hv;unfold R9;rw[R8 (hA.rf (Ab1 M)) (λc hc=>(hA.hc c hc).2.2) (by omega),A8 rfl,P0];unfold HK
 cases hwh:whole v with
 | none=>rfl
 | some f=>
  obtain⟨h1,h2,h3⟩:=JL hwh;rw[As (p:=!(some f).isSome) rfl]
  change _=some (EL f)
  have hl:v.length=f.flat.length:=by rw[h1]
  have hc:∀c∈f.flat,c.fStr.length≤M∧B7 .i64 c.fInt=true∧c.fN≤9223372036854775807:=λc hc=>hA.hc c (by rw[h1];exact hc);have hb:=L8 hM h2 (by omega) hc;have htl:((f.txt true).length:Int)=f.byt:=by rw[HW f false none true h2,Pn h3];simp
  have hd0:v.drop (0:Int).toNat=f.flat++[]:=by rw[AbK];exact h1
  rw[TF (by omega) (by omega)];unfold EL Ov;rw[R7 hA (Ab4 0) h3 h2 hd0 (by omega),B9 (by simp[imp]),TE (by omega) (by omega)];unfold Ou;rw[V1 hA (Ab4 0) h3 h2 hd0 (by omega) (by omega),A8 rfl];rw[Ji,hl,← h1];have a1:decide ((200:Int)<(v.length:Int))=decide (200<v.length):=by rw[Abz];simp;omega
  have a2:decide ((8:Int)<(f.dep:Int))=decide (8<f.dep):=by rw[Abz];simp;omega
  have a3:decide ((4000:Int)<((f.txt true).length:Int))=decide (4000<(f.txt true).length):=by rw[Abz];simp;omega
  rw[a1,a2,a3]
  cases v.any BG<;>cases v.any GI<;>cases decide (200<v.length)<;>cases decide (8<f.dep)<;>cases decide (4000<(f.txt true).length)<;>rfl
end
theorem CI {α:Type}{n:Nat}{x:Option α}(h:n≤140737488355328):AR (Dw 1 n) x=x:=B9 (Abm (by omega))
theorem E6 {α β:Type}(a:α)(k:α→Option β):Lb a k=k a:=rfl
theorem GP {α:Type}{n:Int}{x:Option α}(h:0≤n)(h':n≤255):AR (B7 .u8 n) x=x:=B9 (Yr h h')
theorem Xn {s:Ag}{x:Int}{c:UInt8}(h:s[x.toNat]? =some c):UInt8.ofNat (Int.toNat (Ba s x))=c∧0≤Ba s x∧Ba s x≤255:=by
 have:=UInt8.toNat_lt c;rw[Gt h];refine⟨?_,by omega,by omega⟩;rw[← Acf];simp
theorem PU {s l:Ag}{x:Int}{c:UInt8}(h0:0≤x)(hx:x<(s.length:Int))(hs:s.length≤1152921504606846976)(hl:l.length+2≤140737488355328)(hc:s[x.toNat]? =some c):CW s x l=some (.next (x+1,l++Mj c)):=by
 obtain⟨b1,b2,b3⟩:=Xn hc;unfold CW Mj;rw[AA (Abm hx),AQ h0 hx,YV hc,YU hc];have l1:(l++[UInt8.ofNat (Int.toNat 92)]).length=l.length+1:=by simp
 cases hq:(decide (c=34)||decide (c=92)) with
 | true=>
  rw[AA rfl,CI (by omega),GP (by decide) (by decide),E6,l1,CI (by omega),GP b2 b3,E6,b1,A6 (by omega) (by omega),Ab2];rfl
 | false=>
  rw[As rfl,CI (by omega),GP b2 b3,E6,b1,A6 (by omega) (by omega)];rfl
theorem Ve {l:Ag}(h:l.length+1≤140737488355328):Ek l=some (l++[34]):=by
 unfold Ek;rw[CI h,E6];rfl
theorem Lj {F:Nat}{l s:Ag}(hF:s.length<F)(hl:(l++DB s).length≤140737488355328):JN F l s=some (l++DB s):=by
 have hq:(DB s).length=(DE s).length+2:=by simp[DB]
 rw[Abq,hq] at hl;have hesc:∀k,(DE (s.take k)).length≤(DE s).length:=λk=>by
  have:DE s=DE (s.take k)++DE (s.drop k):=by rw[DE,DE,DE,← List.flatMap_append,AbW]
  rw[this,Abq];omega
 have hsl:s.length≤(DE s).length:=by rw[KX];omega
 obtain⟨o,h1,h2⟩:=Ew (body:=λσ=>CW s σ.1 σ.2) (λσ=>0≤σ.1∧σ.1≤(s.length:Int)∧σ.2=l++[34]++DE (s.take σ.1.toNat)) (λσ=>s.length-σ.1.toNat)
  (λo=>By (λν=>Ek ν) o=some (l++DB s)) (λσ ⟨h0,hlx,ha⟩=>by
   obtain⟨x,out⟩:=σ;simp only at h0 hlx ha;show(∃s',CW s x out=_∧_)∨∃o,CW s x out=_∧_;have hol:out.length=l.length+1+(DE (s.take x.toNat)).length:=by rw[ha];simp;omega
   have he:=hesc x.toNat
   by_cases hx:x<(s.length:Int)
   ·obtain⟨c,hc⟩:∃c,s[x.toNat]? =some c:=⟨s[x.toNat]'(by omega),Abs (by omega)⟩
    have he2:=hesc (x.toNat+1);rw[L0 hc,Abq] at he2;have hc1:1≤(Mj c).length:=by unfold Mj;cases(decide (c=34)||decide (c=92))<;>simp
    have a1:0≤x+1:=by omega
    have a2:x+1≤s.length:=by omega
    have a3:s.length-(x+1).toNat<s.length-x.toNat:=by omega
    have a4:out++Mj c=l++[34]++DE (s.take (x+1).toNat):=by rw[show(x+1).toNat=x.toNat+1 from by omega,L0 hc,ha,Ab2]
    exact .inl ⟨(x+1,out++Mj c),PU h0 hx (by omega) (by omega) hc,⟨a1,a2,a4⟩,a3⟩
   ·have e:x.toNat=s.length:=by omega
    rw[e,Aca] at ha;have hf:out++[34]=l++DB s:=by rw[ha];simp[DB]
    have hgo:CW s x out=some (.out (.go out)):=by unfold CW;rw[As (Abj hx)]
    exact .inr ⟨.go out,hgo,(Dx (λν=>Ek ν) out).trans ((Ve (by omega)).trans (congrArg some hf))⟩) F (0,l++[34]) ⟨Ab4 0,by show(0:Int)≤s.length;omega,by show l++[34]=l++[34]++DE (s.take 0);simp[DE]⟩ (by show s.length-0<F;omega)
 unfold JN;rw[CI (by omega),GP (by decide) (by decide),E6];have hb:[UInt8.ofNat (Int.toNat 34)]=([34]:Ag):=rfl;rw[hb,A8 h1,h2]
theorem MH {F:Nat}{l key:Ag}{x:List Aa}{first:Bool}{c:Aa}{k last:Option Ag}{tx:Ag}(hk:Bp (decide (c.fKind=6)) last k=true)(hkey:∀s,k=some s→key=s∧s.length<F)
  (hlen:(l++(Cv first++E5 k++tx)).length≤140737488355328) (hw:∀l':Ag,(l'++tx).length≤140737488355328→E9 F l' x=some (l'++tx)):DZ (F+1) key x first l c=some (true,false,l++(Cv first++E5 k++tx)):=by
 rw[DZ];unfold Km;have hb:[UInt8.ofNat (Int.toNat 44)]=([44]:Ag):=rfl;have ha:[UInt8.ofNat (Int.toNat 58)]=([58]:Ag):=rfl;have hlen':=hlen;simp only[Abq] at hlen'
 cases first with
 | true=>
  rw[As (p:=!true) rfl]
  cases hm:decide (c.fKind=6) with
  | true=>
   rw[hm] at hk
   cases k with
   | none=>simp[Bp] at hk
   | some s=>
    obtain⟨e1,e2⟩:=hkey s rfl;subst e1;simp only[E5,Abq,Ab6] at hlen';have h1:(l++DB key).length≤140737488355328:=by rw[Abq];omega
    have e:((l++DB key)++[58])++tx=l++(Cv true++E5 (some key)++tx):=Aa4 _ _ _ _;rw[← e] at hlen ⊢;rw[AA rfl,Lj e2 h1,A8 rfl,CI (by rw[Abq];omega),GP (by decide) (by decide),E6,ha,hw _ hlen,A8 rfl]
  | false=>
   rw[hm] at hk
   cases k with
   | some s=>simp[Bp] at hk
   | none=>
    have e:l++tx=l++(Cv true++E5 none++tx):=Aa6 _ _;rw[← e] at hlen ⊢;rw[As rfl,hw _ hlen,A8 rfl]
 | false=>
  simp only[Cv,Abk,Ab6] at hlen';rw[AA (p:=!false) rfl,CI (by omega),GP (by decide) (by decide),E6,hb]
  cases hm:decide (c.fKind=6) with
  | true=>
   rw[hm] at hk
   cases k with
   | none=>simp[Bp] at hk
   | some s=>
    obtain⟨e1,e2⟩:=hkey s rfl;subst e1;simp only[E5,Abq,Ab6] at hlen';have h1:((l++[44])++DB key).length≤140737488355328:=by simp only[Abq,Ab6];omega
    have e:(((l++[44])++DB key)++[58])++tx=l++(Cv false++E5 (some key)++tx):=Aa3 _ _ _ _ _;rw[← e] at hlen ⊢;rw[AA rfl,Lj e2 h1,A8 rfl,CI (by simp only[Abq,Ab6];omega),GP (by decide) (by decide),E6,ha,hw _ hlen,A8 rfl]
  | false=>
   rw[hm] at hk
   cases k with
   | some s=>simp[Bp] at hk
   | none=>
    have e:(l++[44])++tx=l++(Cv false++E5 none++tx):=Aa5 _ _ _;rw[← e] at hlen ⊢;rw[As rfl,hw _ hlen,A8 rfl]
section
variable {M : Nat}
theorem MN {F:Nat}{v:List Aa}{c:Aa}{at_ x:Int}{first:Bool}{l l2:Ag}{k last:Option Ag}{f1:Fo}{ys:List Aa}(hA:HQ M v)(hF:M<F)(hpc:Ap v 0=c)(hx:x<c.fN)(hx0:0≤x)(hcN:c.fN≤9223372036854775807)(h0:0≤at_)(hk:Bp (decide (c.fKind=6)) last k=true)
  (hd:v.drop at_.toNat=Bd k++(f1.flat++ys)) (h1:f1.one=true) (hw:f1.wf false none=true) (hr:∀key,(∀s,k=some s→key=s)→DZ F key f1.flat first l c=some (true,false,l2)) :
  De F v c (DZ F) at_ x first l=some (.next (at_+(Bd k).length+f1.flat.length,x+1,false,l2)):=by
 have hM:=hA.hM;have hvM:=hA.hv;have hd1:=Co h0 hd;have hkl:=KL hk;have hfl:=KC h1;have hll:(v.drop (at_+(Bd k).length).toNat).length=f1.flat.length+ys.length:=by rw[hd1];simp
 rw[Acg] at hll;have hlook:Ip F (v.drop (at_+(Bd k).length).toNat)=some ((f1.flat.length:Int),f1.sh 0 MU,true):=QE ((hA.drop _).lk hF) h1 hw hd1;have htake:List.take (Int.toNat (at_+(Bd k).length+(f1.flat.length:Int))-Int.toNat (at_+(Bd k).length)) (v.drop (at_+(Bd k).length).toNat)=f1.flat:=by
  rw[hd1,show Int.toNat (at_+(Bd k).length+(f1.flat.length:Int))-Int.toNat (at_+(Bd k).length)=f1.flat.length from by omega,List.take_left]
 have hmono:0≤at_+(Bd k).length+f1.flat.length:=by omega
 unfold De;rw[hpc,AA (Abm hx)]
 cases hm:decide (c.fKind=6) with
 | true=>
  rw[hm] at hk hkl
  cases k with
  | none=>simp[Bp] at hk
  | some s=>
   have e1:((Bd (some s)).length:Int)=1:=rfl;rw[e1] at hlook htake hll hmono ⊢;have hats:(Ap v at_).fStr=s:=by
    have:v.drop at_.toNat=⟨4,0,s,0⟩::(f1.flat++ys):=by simpa[Bd] using hd
    rw[CR h0 this]
   have hin:at_<v.length:=by omega
   rw[AA rfl,AQ h0 hin,A6 (by omega) (by omega),BO (by omega) (by omega),hlook,A8 rfl,A6 (by omega) (by omega),BO (by omega) (by omega),BO (by omega) (by omega),htake,hats,hr s (λs' h=>by cases h;rfl),A8 rfl];rw[As (p:=!true) rfl,A6 (by omega) (by omega)]
 | false=>
  rw[hm] at hk hkl
  cases k with
  | some s=>simp[Bp] at hk
  | none=>
   have e1:((Bd none).length:Int)=0:=rfl;rw[e1,Int.add_zero] at hlook htake hll hmono ⊢;rw[As rfl,BO (by omega) (by omega),hlook,A8 rfl,A6 (by omega) (by omega),BO (by omega) (by omega),BO (by omega) (by omega),htake,hr [] (λs' h=>by cases h),A8 rfl];rw[As (p:=!true) rfl,A6 (by omega) (by omega)]
end
section
variable {M : Nat}
theorem HP (l:Ag)(c:UInt8):(l++[c]).length=l.length+1:=by rw[Abq,Ab6]
theorem JM {F:Nat}{l p:Ag}{v:List Aa}{c:Aa}{rf:Ag→(List Aa)→Bool→Ag→Aa→Option (Bool×Bool×Ag)}{rp:(List Aa)→Bool→Ag→Aa→Option (Bool×Ag)}(hc:Ap v 0=c)(hv:0<v.length)(hk:c.fKind=5∨c.fKind=6)(hlen:(l++Ma c p).length≤140737488355328)
  (hp:∀l':Ag,l'.length=l.length+1→∃b,rp v true l' c=some (b,l'++p)):Ja F rf rp l v=some (l++Ma c p):=by
 have hbl:=Ij c p;rw[Abq,hbl] at hlen;have i0:(0:Int)<(v.length:Int):=by omega
 unfold Ja;rw[AQ (Ab4 0) i0,hc,As (Abj (by omega)),As (Abj (by omega)),As (Abj (by omega)),As (Abj (by omega))];have b1:[UInt8.ofNat (Int.toNat (Ba ([123,125]:Ag) 0))]=([123]:Ag):=rfl;have b2:[UInt8.ofNat (Int.toNat (Ba ([123,125]:Ag) 1))]=([125]:Ag):=rfl;have b3:[UInt8.ofNat (Int.toNat (Ba ([91,93]:Ag) 0))]=([91]:Ag):=rfl;have b4:[UInt8.ofNat (Int.toNat (Ba ([91,93]:Ag) 1))]=([93]:Ag):=rfl;have c1:Ba ([123,125]:Ag) 0=123:=rfl;have c2:Ba ([123,125]:Ag) 1=125:=rfl;have c3:Ba ([91,93]:Ag) 0=91:=rfl;have c4:Ba ([91,93]:Ag) 1=93:=rfl;have n2:(([123,125]:Ag).length:Int)=2:=rfl;have n3:(([91,93]:Ag).length:Int)=2:=rfl
 cases h6:decide (c.fKind=6) with
 | true=>
  obtain⟨b,hb⟩:=hp _ (HP l 123);rw[AA rfl,n2,AQ (by decide) (by decide),CI (by omega),b1,b2,c1,c2,GP (by decide) (by decide),E6,hb,A8 rfl,AQ (by decide) (by decide)];have e:((l++[123])++p).length=l.length+1+p.length:=by rw[Abq,HP]
  rw[e,CI (by omega),GP (by decide) (by decide),E6];simp[Ma,h6]
 | false=>
  obtain⟨b,hb⟩:=hp _ (HP l 91);rw[As rfl,n3,AQ (by decide) (by decide),CI (by omega),b3,b4,c3,c4,GP (by decide) (by decide),E6,hb,A8 rfl,AQ (by decide) (by decide)];have e:((l++[91])++p).length=l.length+1+p.length:=by rw[Abq,HP]
  rw[e,CI (by omega),GP (by decide) (by decide),E6];simp[Ma,h6]
theorem LK {F:Nat}{v:List Aa}{c:Aa}{at_ x:Int}{first:Bool}{l:Ag}{rf:Ag→(List Aa)→Bool→Ag→Aa→Option (Bool×Bool×Ag)}(hc:Ap v 0=c)(hx : ¬ x<c.fN):De F v c rf at_ x first l=some (.out (.go (first,l))):=by
 unfold De;rw[hc,As (Abj hx)]
theorem LJ {F:Nat}{l:Ag}{c:Aa}(hp:pl c=true)(hn:decide (0<c.fN)=false)(hs:c.fStr.length<F+2)(hi:B7 .i64 c.fInt=true)(hlen:(l++CZ c).length≤140737488355328):E9 (F+3) l [c]=some (l++CZ c):=by
 rw[E9];have hat:Ap [c] 0=c:=rfl;have i0:(0:Int)<(([c]:List Aa).length:Int):=by simp
 have hN : ¬ (0:Int)<c.fN:=by simpa using hn
 by_cases ha:c.fKind=5∨c.fKind=6
 ·have el:CZ c=Ma c []:=by
   have k1:decide (c.fKind=1)=false:=Abj (by omega);have k2:decide (c.fKind=2)=false:=Abj (by omega);have k3:decide (c.fKind=3)=false:=Abj (by omega);have k4:decide (c.fKind=4)=false:=Abj (by omega);unfold CZ Ma;rw[k1,k2,k3,k4];rfl
  rw[el] at hlen ⊢;refine JM hat (by simp) ha hlen (λl' hl'=>⟨true,?_⟩);rw[Gk];unfold Hv;rw[AQ (Ab4 0) i0,A8 (Dy (o:=.go (true,l')) (LK hat hN)),Dx,AbK];rfl
 ·unfold Ja CZ;unfold CZ at hlen;rw[AQ (Ab4 0) i0,hat]
  cases k1:decide (c.fKind=1) with
  | true=>
   rw[k1] at hlen;simp only[Abr] at hlen;rw[AA rfl,CI (by rw[Abq] at hlen;exact hlen),E6];rfl
  | false=>
  rw[k1] at hlen;simp only[Abk] at hlen;rw[As rfl]
  cases k2:decide (c.fKind=2) with
  | true=>
   rw[k2] at hlen;simp only[Abr] at hlen;rw[AA rfl];simp[pl,k1,k2] at hp;simp only[Abq] at hlen;rcases hp.1 with h0 | h1
   ·rw[h0] at hlen ⊢;have a:Ap ([([102,97,108,115,101]:Ag),([116,114,117,101]:Ag)]:List Ag) 0=[102,97,108,115,101]:=rfl;have hlen2:l.length+([102,97,108,115,101]:Ag).length≤140737488355328:=hlen;rw[AQ (by decide) (by decide),a,CI hlen2,E6];rfl
   ·rw[h1] at hlen ⊢;have a:Ap ([([102,97,108,115,101]:Ag),([116,114,117,101]:Ag)]:List Ag) 1=[116,114,117,101]:=rfl;have hlen2:l.length+([116,114,117,101]:Ag).length≤140737488355328:=hlen;rw[AQ (by decide) (by decide),a,CI hlen2,E6];rfl
  | false=>
  rw[k2] at hlen;simp only[Abk] at hlen;rw[As rfl]
  cases k3:decide (c.fKind=3) with
  | true=>
   rw[k3] at hlen;simp only[Abr,Abq] at hlen;rw[AA rfl,B9 hi,CI hlen,E6];rfl
  | false=>
  rw[k3] at hlen;simp only[Abk] at hlen;rw[As rfl]
  cases k4:decide (c.fKind=4) with
  | true=>
   rw[k4] at hlen;simp only[Abr] at hlen;rw[AA rfl,Lj hs hlen,A8 rfl];rfl
  | false=>
   exfalso;simp only[Abi] at k1 k2 k3 k4;simp[pl,k1,k2,k3,k4,show ¬ c.fKind=5 by omega,show ¬ c.fKind=6 by omega] at hp
theorem HQ.mem {v:List Aa}(hA:HQ M v){p:Int}{a b:List Aa}(h:v.drop p.toNat=a++b):HQ M a:=by
 have:=(hA.drop p.toNat).take a.length
 rwa [h,List.take_left] at this
theorem NM:∀(g:Fo) (v:List Aa) (c:Aa) (F L:Nat) (at_ x:Int) (first:Bool) (l:Ag) (m:Bool) (last:Option Ag) (ys:List Aa),HQ M v→Ap v 0=c→decide (c.fKind=6)=m→c.fN≤9223372036854775807→g.wf m last=true→v.drop at_.toNat=g.flat++ys→0≤at_→c.fN=x+g.cnt→0≤x→(l++g.txt first).length≤140737488355328→g.cnt<L→M+5+3*g.flat.length<F→
  ∃o b,BE (λσ=>De F v c (DZ F) σ.1 σ.2.1 σ.2.2.1 σ.2.2.2) L (at_,x,first,l)=some o∧By (λν=>G9 ν.1 ν.2) o=some (b,l++g.txt first):=by
 intro g
 induction g with
 | nil=>
  intro v c F L at_ x first l m last ys hA hpc hm hcN hw hd h0 hN hx hlen hL hF
  obtain⟨L,rfl⟩:∃K,L=K+1:=⟨L-1,by omega⟩
  simp only[Fo.cnt] at hN;have hx' : ¬ x<c.fN:=by omega
  refine⟨.go (first,l),first,Dy (LK hpc hx'),?_⟩;rw[Dx,Fo.txt,AbK];rfl
 | cell k cc r ih=>
  intro v c F L at_ x first l m last ys hA hpc hm hcN hw hd h0 hN hx hlen hL hF
  simp only[Fo.wf,Abp,Ab0] at hw;obtain⟨⟨⟨w1,w2⟩,w3⟩,w4⟩:=hw;have hd2:v.drop at_.toNat=Bd k++((Fo.cell none cc .nil).flat++(r.flat++ys)):=by rw[hd];simp[Fo.flat,Bd]
  have hd1:=Co h0 hd2;simp only[Fo.cnt] at hN hL;simp only[Fo.flat,Abq,Abl] at hF;obtain⟨L,rfl⟩:∃K,L=K+1:=⟨L-1,by omega⟩
  obtain⟨F,rfl⟩:∃K,F=K+4:=⟨F-4,by omega⟩
  have hAe:=hA.mem hd1;have hcM:=hAe.hc cc (by simp[Fo.flat,Bd]);have e:l++(Fo.cell k cc r).txt first=(l++(Cv first++E5 k++CZ cc))++r.txt false:=by simp[Fo.txt]
  rw[e] at hlen ⊢;have hl2:(l++(Cv first++E5 k++CZ cc)).length≤140737488355328:=by rw[Abq] at hlen;omega
  have hb:=MN (F:=F+4) (last:=last) hA (by omega) hpc (by omega) hx hcN h0 (by rw[hm];exact w1) hd2 rfl (Mq w2 w3) (first:=first) (l:=l) (λkey hkey=>
   MH (last:=last) (by rw[hm];exact w1) (λs hs=>⟨hkey s hs,by
    have hM:=hA.hM;subst hs;have:=(hA.hc ⟨4,0,s,0⟩ (Acl (by rw[hd2];simp[Bd]))).1;simp only at this;omega⟩) hl2 (λl' hl'=>LJ (F:=F) w2 w3 (by omega) hcM.2.1 hl'))
  obtain⟨o,b,ho1,ho2⟩:=ih v c (F+4) L (at_+(Bd k).length+((Fo.cell none cc .nil).flat.length:Int)) (x+1) false (l++(Cv first++E5 k++CZ cc)) m k ys hA hpc hm hcN w4 (Co (by omega) hd1) (by omega) (by omega) (by omega) hlen (by omega) (by omega);exact⟨o,b,HD hb ho1,ho2⟩
 | node k cc kids r ihk ih=>
  intro v c F L at_ x first l m last ys hA hpc hm hcN hw hd h0 hN hx hlen hL hF
  simp only[Fo.wf,Abp,Abh] at hw;obtain⟨⟨⟨⟨⟨w1,w2⟩,w3⟩,w5⟩,w6⟩,w4⟩:=hw;have hd2:v.drop at_.toNat=Bd k++((Fo.node none cc kids .nil).flat++(r.flat++ys)):=by rw[hd];simp[Fo.flat,Bd]
  have hd1:=Co h0 hd2;simp only[Fo.cnt] at hN hL;simp only[Fo.flat,Abq,Abl] at hF;obtain⟨L,rfl⟩:∃K,L=K+1:=⟨L-1,by omega⟩
  obtain⟨F,rfl⟩:∃K,F=K+3:=⟨F-3,by omega⟩
  have hAe:=hA.mem hd1;have hfl:(Fo.node none cc kids .nil).flat=cc::kids.flat:=by simp[Fo.flat,Bd]
  have hcM:=hAe.hc cc (by rw[hfl];simp);have hcf:=BS kids;have e:l++(Fo.node k cc kids r).txt first=(l++(Cv first++E5 k++Ma cc (kids.txt true)))++r.txt false:=by simp[Fo.txt]
  rw[e] at hlen ⊢;have hl2:(l++(Cv first++E5 k++Ma cc (kids.txt true))).length≤140737488355328:=by rw[Abq] at hlen;omega
  have hb:=MN (F:=F+3) (last:=last) hA (by omega) hpc (by omega) hx hcN h0 (by rw[hm];exact w1) hd2 rfl (Mp w2 w3 w5 w6) (first:=first) (l:=l) (λkey hkey=>
   MH (last:=last) (by rw[hm];exact w1) (λs hs=>⟨hkey s hs,by
    have hM:=hA.hM;subst hs;have:=(hA.hc ⟨4,0,s,0⟩ (Acl (by rw[hd2];simp[Bd]))).1;simp only at this;omega⟩) hl2 (λl' hl'=>by
     rw[E9];have hat:Ap (Fo.node none cc kids .nil).flat 0=cc:=by rw[hfl];rfl
     have hlen0:0<(Fo.node none cc kids .nil).flat.length:=by rw[hfl];simp
     have hbl:=Ij cc (kids.txt true);rw[Abq,hbl] at hl';have hb:∀l2:Ag,l2.length=l'.length+1→∃b,Gk (F+1) (Fo.node none cc kids .nil).flat true l2 cc=some (b,l2++kids.txt true):=λl2 hl2'=>by
       rw[Gk];unfold Hv;have i0:(0:Int)<((Fo.node none cc kids .nil).flat.length:Int):=by omega
       obtain⟨o,b,ho1,ho2⟩:=ihk (Fo.node none cc kids .nil).flat cc F F 1 0 true l2 _ none [] hAe hat rfl hcM.2.2 w6 (by rw[hfl];simp) (by decide) (by omega) (Ab4 0) (by rw[Abq];omega) (by omega) (by omega);exact⟨b,by rw[AQ (Ab4 0) i0,A8 ho1,ho2]⟩
     exact JM hat hlen0 (GZ w2 w3).1 (by rw[Abq,hbl];exact hl') hb))
  obtain⟨o,b,ho1,ho2⟩:=ih v c (F+3) L (at_+(Bd k).length+((Fo.node none cc kids .nil).flat.length:Int)) (x+1) false (l++(Cv first++E5 k++Ma cc (kids.txt true))) m k ys hA hpc hm hcN w4 (Co (by omega) hd1) (by omega) (by omega) (by omega) hlen (by omega) (by omega);exact⟨o,b,HD hb ho1,ho2⟩
theorem Tu {f:Fo}{F:Nat}{l:Ag}(hA:HQ M f.flat)(h1:f.one=true)(hw:f.wf false none=true)(hF:M+8+3*f.flat.length<F)(hlen:(l++f.txt true).length≤140737488355328):E9 F l f.flat=some (l++f.txt true):=by
 have hM:=hA.hM;have hvM:=hA.hv
 cases f with
 | nil=>cases h1
 | cell k c r=>
  cases k with
  | some s=>cases h1
  | none=>
   cases r with
   | nil=>
    simp only[Fo.wf,Abp,Ab0] at hw;have hfl:(Fo.cell none c .nil).flat=[c]:=by simp[Fo.flat,Bd]
    have hcM:=hA.hc c (by rw[hfl];simp);have et:(Fo.cell none c .nil).txt true=CZ c:=by simp[Fo.txt,Cv,E5]
    rw[et] at hlen ⊢;obtain⟨F,rfl⟩:∃K,F=K+3:=⟨F-3,by omega⟩
    rw[hfl];exact LJ hw.1.1.2 hw.1.2 (by omega) hcM.2.1 hlen
   | cell _ _ _=>cases h1
   | node _ _ _ _=>cases h1
 | node k c kids r=>
  cases k with
  | some s=>cases h1
  | none=>
   cases r with
   | nil=>
    simp only[Fo.wf,Abp,Abh] at hw;obtain⟨⟨⟨⟨⟨w1,w2⟩,w3⟩,w5⟩,w6⟩,w4⟩:=hw;have hfl:(Fo.node none c kids .nil).flat=c::kids.flat:=by simp[Fo.flat,Bd]
    have hcM:=hA.hc c (by rw[hfl];simp);have et:(Fo.node none c kids .nil).txt true=Ma c (kids.txt true):=by simp[Fo.txt,Cv,E5]
    rw[et] at hlen ⊢;have hcf:=BS kids;have hat:Ap (Fo.node none c kids .nil).flat 0=c:=by rw[hfl];rfl
    have hlen0:0<(Fo.node none c kids .nil).flat.length:=by rw[hfl];simp
    have hl1:(Fo.node none c kids .nil).flat.length=kids.flat.length+1:=by rw[hfl];simp
    have hbl:=Ij c (kids.txt true);obtain⟨F,rfl⟩:∃K,F=K+2:=⟨F-2,by omega⟩
    rw[E9];refine JM hat hlen0 (GZ w2 w3).1 hlen (λl2 hl2=>?_);rw[Abq,hbl] at hlen;rw[Gk];unfold Hv;have i0:(0:Int)<((Fo.node none c kids .nil).flat.length:Int):=by omega
    obtain⟨o,b,ho1,ho2⟩:=NM kids (Fo.node none c kids .nil).flat c F F 1 0 true l2 _ none [] hA hat rfl hcM.2.2 w6 (by rw[hfl];simp) (by decide) (by omega) (Ab4 0) (by rw[Abq];omega) (by omega) (by omega);exact⟨b,by rw[AQ (Ab4 0) i0,A8 ho1,ho2]⟩
   | cell _ _ _=>cases h1
   | node _ _ _ _=>cases h1
def I0 (v:List Aa):Ag×Int:=match whole v with
 | none=>([],1)
 | some f=>bif decide (EL f=0) then(f.txt true,0) else([],EL f)
theorem Yp (n:Int):Lib.itoa n≠[]:=by
 unfold Lib.itoa
 split
 ·simp
 ·intro h;have:=congrArg List.length h;rw[Lib.decDigits_length] at this;have:=Lib.nDigits_pos n.toNat;simp at *;omega
theorem XH {f:Fo}(hw:f.wf false none=true)(h1:f.one=true):0<(f.txt true).length:=by
 have e:=HW f false none true hw
 cases f with
 | nil=>cases h1
 | cell k c r=>
  have h2:=Hf hw;simp only[Fo.txt,Abq];simp only[Fo.wf,Abp] at hw;have hp:=hw.1.1.2;have:0<(CZ c).length:=by
   have hl:=O8 hp;have:0<UO c:=by
    unfold UO
    cases h1:decide (c.fKind=1) with
    | true=>simp
    | false=>
     cases h2:decide (c.fKind=2) with
     | true=>
      simp[pl,h1,h2] at hp;simp only[Abk,Abr];omega
     | false=>
      cases h3:decide (c.fKind=3) with
      | true=>
       simp only[Abk,Abr];have:Lib.itoa c.fInt≠[]:=Yp _;have:=List.length_pos_iff.2 this;omega
      | false=>
       cases h4:decide (c.fKind=4) with
       | true=>have:=K6 c.fStr;simp only[Abk,Abr];omega
       | false=>simp
   omega
  omega
 | node k c kids r=>
  have:=Ij c (kids.txt true);simp only[Fo.txt,Abq];omega
theorem Rw {v:List Aa}(hA:HQ M v)(hM:M≤1000000){F:Nat}(hF:4*M+8<F):Kr F v=some (I0 v):=by
 have hvM:=hA.hv;unfold Kr I0;rw[H0 hA hM (by omega),A8 rfl];unfold HK
 cases hwh:whole v with
 | none=>rfl
 | some f=>
  change AV (!decide (EL f=0)) _ _=some (bif decide (EL f=0) then(f.txt true,0) else([],EL f))
  cases he:decide (EL f=0) with
  | false=>rw[AA (p:=!false) rfl];rfl
  | true=>
   obtain⟨h1,h2,h3⟩:=JL hwh;have hl:v.length=f.flat.length:=by rw[h1]
   have hc:∀c∈f.flat,c.fStr.length≤M∧B7 .i64 c.fInt=true∧c.fN≤9223372036854775807:=λc hc=>hA.hc c (by rw[h1];exact hc);have hb:=L8 hM h2 (by omega) hc;have htl:((f.txt true).length:Int)=f.byt:=by rw[HW f false none true h2,Pn h3];simp
   have hA':HQ M f.flat:=by rw[← h1];exact hA
   have hw:=Tu (F:=F) (l:=[]) hA' h3 h2 (by omega) (by rw[AbJ];omega);rw[As (p:=!true) rfl,h1,hw,A8 rfl,AbJ,B9 (Abm (XH h2 h3))];rfl
end
def Vr (v:List Aa):Bool:=!decide (300<v.length)&&v.all λc=>!decide (300<c.fStr.length)
def VI (c:Aa):Bool:=B7 .i64 c.fKind&&B7 .i64 c.fInt&&YM c.fStr&&B7 .i64 c.fN
theorem HQ.of {v:List Aa}(hs:Vr v=true)(hc:v.all VI=true):HQ 300 v:=by
 unfold Vr at hs;simp only[Abp,Ab0,Abi,AbE] at hs hc;refine⟨by decide,by omega,λc h=>?_⟩;obtain h1:=hs.2 c h;obtain h2:=hc c h;unfold VI at h2;simp only[Abp] at h2;exact⟨by omega,h2.1.1.2,(If h2.2).2⟩
theorem ZC (a:Bool):imp a true=true:=by cases a<;>rfl
section
variable {M : Nat}
end
def UF (n:Nat):Ag:=[UInt8.ofNat (n/16777216),UInt8.ofNat (n/65536),UInt8.ofNat (n/256),UInt8.ofNat n]
def E2:Ag→Nat
 | a::b::c::d::_=>((a.toNat*256+b.toNat)*256+c.toNat)*256+d.toNat
 | _=>0
def Iu (c:UInt8):BitVec 32:=BitVec.ofNat 32 c.toNat
def Xe (b:BitVec 32):Ag→BitVec 32
 | []=>b
 | c::s=>Xe (Rn 8 (b^^^Iu c)) s
def Ob (s:Ag):Nat:=(~~~ (Xe 4294967295#32 s)).toNat
theorem YB (s:Ag):Ob s<4294967296:=(~~~ (Xe 4294967295#32 s)).isLt
def Ch (b:Ag):Ag:=UF b.length++UF (Ob b)++b
theorem DH (b:Ag):(Ch b).length=8+b.length:=by simp[Ch,UF];omega
def CL (s:Ag):Ag×Int×Int:=
 bif decide (s.length<8) then([],0,14)
 else bif decide (262136<E2 s) then([],0,13)
 else bif decide (s.length-8<E2 s) then([],0,14)
 else bif !decide (Ob ((s.drop 8).take (E2 s))=E2 (s.drop 4)) then([],0,13)
 else((s.drop 8).take (E2 s),((8+E2 s:Nat):Int),0)
def BA:Nat→Ag→List Ag×Nat
 | 0,_=>([],0)
 | n+1,s=>bif decide ((CL s).2.2=0) then((CL s).1::(BA n (s.drop (CL s).2.1.toNat)).1,(CL s).2.1.toNat+(BA n (s.drop (CL s).2.1.toNat)).2) else([],0)
theorem Q3 {n:Nat}(h:n<4294967296)(r:Ag):E2 (UF n++r)=n:=by
 show((((UInt8.ofNat (n/16777216)).toNat*256+(UInt8.ofNat (n/65536)).toNat)*256+(UInt8.ofNat (n/256)).toNat)*256+(UInt8.ofNat n).toNat)=n;simp only[UInt8.toNat_ofNat'];omega
theorem Rh {s:Ag}(h:4≤s.length):UF (E2 s)=s.take 4:=by
 match s,h with
 | a::b::c::d::r,_=>
  have ha:=a.toNat_lt;have hb:=b.toNat_lt;have hc:=c.toNat_lt;have hd:=d.toNat_lt;show UF (((a.toNat*256+b.toNat)*256+c.toNat)*256+d.toNat)=[a,b,c,d];unfold UF;have e:∀x y:UInt8,x.toNat=y.toNat→x=y:=λx y h=>UInt8.toNat_inj.1 h
  congr 1
  ·apply e;simp only[UInt8.toNat_ofNat'];omega
  ·congr 1
   ·apply e;simp only[UInt8.toNat_ofNat'];omega
   ·congr 1
    ·apply e;simp only[UInt8.toNat_ofNat'];omega
    ·congr 1
     apply e;simp only[UInt8.toNat_ofNat'];omega
theorem Ya (s:Ag):E2 s<4294967296:=by
 match s with
 | a::b::c::d::r=>
  have ha:=a.toNat_lt;have hb:=b.toNat_lt;have hc:=c.toNat_lt;have hd:=d.toNat_lt;show((a.toNat*256+b.toNat)*256+c.toNat)*256+d.toNat<_;omega
 | []=>decide
 | [_]=>show 0<_;decide
 | [_,_]=>show 0<_;decide
 | [_,_,_]=>show 0<_;decide
theorem TN {b:Ag}(h:b.length≤262136)(r:Ag):CL (Ch b++r)=(b,((8+b.length:Nat):Int),0):=by
 have h1:E2 (Ch b++r)=b.length:=by
  unfold Ch;rw[Ab2,Ab2];exact Q3 (by omega) _
 have h2:E2 ((Ch b++r).drop 4)=Ob b:=by
  have:(Ch b++r).drop 4=UF (Ob b)++(b++r):=by unfold Ch UF;simp
  rw[this];exact Q3 (YB b) _
 have h3:((Ch b++r).drop 8).take b.length=b:=by
  have:(Ch b++r).drop 8=b++r:=by unfold Ch UF;simp
  rw[this];simp
 have hl:=DH b;unfold CL;rw[h1,h2,h3,Abq,hl];rw[Abj (by omega),Abj (by omega),Abj (by omega),Abm rfl];rfl
theorem Nf {s:Ag}(h:(CL s).2.2=0):(CL s).1.length≤262136∧(CL s).2.1=((8+(CL s).1.length:Nat):Int)∧s=Ch (CL s).1++s.drop (8+(CL s).1.length):=by
 unfold CL at h ⊢
 cases h1:decide (s.length<8) with
 | true=>rw[h1] at h;cases h
 | false=>
  rw[h1] at h;simp only[Abk] at h ⊢
  cases h2:decide (262136<E2 s) with
  | true=>rw[h2] at h;cases h
  | false=>
   rw[h2] at h;simp only[Abk] at h ⊢
   cases h3:decide (s.length-8<E2 s) with
   | true=>rw[h3] at h;cases h
   | false=>
    rw[h3] at h;simp only[Abk] at h ⊢
    cases h4:decide (Ob ((s.drop 8).take (E2 s))=E2 (s.drop 4)) with
    | false=>rw[h4] at h;cases h
    | true=>
     simp only[Abi,Abh] at h1 h2 h3 h4;simp only[Abw,Abk];have hl:((s.drop 8).take (E2 s)).length=E2 s:=by simp;omega
     refine⟨by omega,by rw[hl],?_⟩;rw[hl];unfold Ch;rw[hl,Rh (by omega),h4,Rh (by simp;omega)];rw[Ab2,Ab2,← Aci,AbW];rw[show s.drop 8=(s.drop 4).drop 4 from by rw[Aci],AbW,AbW]
theorem NY (l:List Ag):∀b∈l,8+b.length≤(l.flatMap Ch).length:=by
 induction l with
 | nil=>intro b hb;cases hb
 | cons c l ih=>
  intro b hb;rw[Acb,Abq,DH];rcases List.mem_cons.1 hb with rfl | hb
  ·omega
  ·have:=ih b hb;omega
theorem Qv:(CL []).2.2=14:=rfl
theorem LO:∀(l:List Ag) (n:Nat),(∀b∈l,b.length≤262136)→l.length≤n→BA n (l.flatMap Ch)=(l,(l.flatMap Ch).length)
 | [],0,_,_=>rfl
 | [],n+1,_,_=>by
  rw[BA];show(bif decide ((CL []).2.2=0) then _ else _)=_;rw[Qv];rfl
 | b::l,0,_,h=>by simp at h
 | b::l,n+1,hb,h=>by
  simp only[Abl] at h;rw[BA,Acb,TN (hb b (by simp))];have hd:(Ch b++l.flatMap Ch).drop (8+b.length)=l.flatMap Ch:=by rw[← DH b];simp
  simp only[decide_true,Abr];rw[show(((8+b.length:Nat):Int)).toNat=8+b.length from by omega,hd,LO l n (λx hx=>hb x (by simp[hx])) (by omega)];rw[Abq,DH]
theorem Jc:∀(n:Nat) (s:Ag),(BA n s).2≤s.length∧s.take (BA n s).2=(BA n s).1.flatMap Ch∧∀b∈(BA n s).1,b.length≤262136
 | 0,s=>⟨AbS _,by simp[BA],λb hb=>by cases hb⟩
 | n+1,s=>by
  rw[BA]
  cases h:decide ((CL s).2.2=0) with
  | false=>exact⟨AbS _,by simp,λb hb=>by cases hb⟩
  | true=>
   simp only[Abr];obtain⟨h1,h2,h3⟩:=Nf (Abt h);generalize(CL s).1=b at *;rw[h2,show(((8+b.length:Nat):Int)).toNat=8+b.length from by omega];obtain⟨g1,g2,g3⟩:=Jc n (s.drop (8+b.length));generalize BA n (s.drop (8+b.length))=t at *;have hl:s.length=8+b.length+(s.drop (8+b.length)).length:=by
    have:=congrArg List.length h3;rw[Abq,DH] at this;exact this
   refine⟨by omega,?_,λx hx=>?_⟩
   ·rw[Acb,← g2]
    conv=>lhs;rw[h3]
    rw[← DH b,List.take_length_add_append]
   ·rcases List.mem_cons.1 hx with rfl | hx
    ·exact h1
    ·exact g3 x hx
def QM (l:List Ag):Ag×Int:=bif decide ((l.flatMap Ch).length≤262144) then(l.flatMap Ch,0) else([],3)
theorem Po (s:Ag):NQ (CC s)=s:=by
 unfold NQ CC;rw[Ace];have:((λx:Int=>UInt8.ofNat x.toNat) ∘ λc:UInt8=>(c.toNat:Int))=id:=by funext c;simp
 rw[this,List.map_id]
theorem Sv (a b:Ag):CC a++CC b=CC (a++b):=by simp[CC]
theorem Ry (a:Ag):(CC a).length=a.length:=by simp[CC]
theorem MD (n:Nat):IntKind.wrap .u8 (n:Int)=((UInt8.ofNat n).toNat:Int):=by
 simp[IntKind.wrap,IntKind.signed,IntKind.bits]
theorem AaN (n:Nat):BX .i64 (n:Int) 8=((n/256:Nat):Int):=by
 unfold BX;have e:min (8:Int).toNat (IntKind.bits .i64)=8:=by decide
 rw[e,Int.fdiv_eq_ediv_of_nonneg _ (by decide)];simp
def N9 (f:Ag):Ag:=UInt8.ofNat (f.length/256)::UInt8.ofNat (f.length % 256)::f
def KA (l:List Ag):Ag:=UInt8.ofNat l.length::l.flatMap N9
def Xy (l:List Ag):Bool:=decide (l.length≤64)&&l.all λf=>decide (f.length≤4000)
def Ow (l:List Ag):Ag×Int:=bif Xy l then(KA l,0) else([],3)
theorem TM (l:List Ag)(b:List Int×Int→Option (Stp (List Int×Int) (Out (Ag×Int) (List Int))))(hl:l.length≤64)
  (hb:∀(acc:List Int) (x:Int) (f:Ag),acc.length≤300000→0≤x→x<(l.length:Int)→Ap l x=f→b (acc,x)=bif decide (4000<f.length) then some (.out (.ret ([],3))) else some (.next (acc++CC (N9 f),x+1)))
  (he:∀acc,b (acc,(l.length:Int))=some (.out (.go acc))) {F:Nat} (hF:64<F) :
  Bi (BE b F (CC [UInt8.ofNat l.length],0)) (By λq=>some (NQ q,0))=some (Ow l):=by
 have key:∀(k:Nat) (F:Nat) (acc:Ag),k<F→k≤l.length→acc.length≤1+(l.length-k)*4002→
   Bi (BE b F (CC acc,((l.length-k:Nat):Int))) (By λq=>some (NQ q,0))=some (bif (l.drop (l.length-k)).all (λf=>decide (f.length≤4000)) then(acc++(l.drop (l.length-k)).flatMap N9,0) else([],3)):=by
  intro k
  induction k with
  | zero=>
   intro F acc hF _ _
   cases F with
   | zero=>omega
   | succ F=>rw[BE,Nat.sub_zero,he];simp[Bi,By,Po]
  | succ k ih=>
   intro F acc hF hk hacc
   cases F with
   | zero=>omega
   | succ F=>
    have hlt:l.length-(k+1)<l.length:=by omega
    have hat:Ap l ((l.length-(k+1):Nat):Int)=l[l.length-(k+1)]:=by simp[Ap,hlt]
    have hd:l.drop (l.length-(k+1))=l[l.length-(k+1)]::l.drop (l.length-k):=by
     rw[List.drop_eq_getElem_cons hlt];congr 2;omega
    have ha:(l.length-(k+1))*4002≤64*4002:=Nat.mul_le_mul_right _ (by omega);rw[BE,hb _ _ _ (by rw[Ry];omega) (by omega) (by omega) hat,hd];generalize l[l.length-(k+1)]=f at *
    cases h4:decide (4000<f.length) with
    | true=>
     simp only[Abh] at h4;rw[AbH,Abj (by omega),AbC];rfl
    | false=>
     simp only[Abi] at h4;have e2:(l.length-(k+1))*4002+4002=(l.length-k)*4002:=by
      rw[show l.length-k=l.length-(k+1)+1 from by omega,Nat.succ_mul]
     have:=ih F (acc++N9 f) (by omega) (by omega) (by simp[N9];omega);rw[show((l.length-(k+1):Nat):Int)+1=((l.length-k:Nat):Int) from by omega];simp only[Abk,Sv];rw[this,AbH,Abm (by omega),Aby,Acb,Ab2]
 have:=key l.length F [UInt8.ofNat l.length] (by omega) (Ab3 _) (by simp);simp only[Nat.sub_self,List.drop_zero] at this;refine Eq.trans this ?_;unfold Ow Xy KA;rw[Abm hl,Aby];rfl
theorem IO {α:Type}{n:Nat}{x:Option α}(h:n≤1000000000):AR (Dw 1 n) x=x:=B9 (Abm (by omega))
theorem L7 {α:Type}{n:Nat}{x:Option α}(h:n≤1000000000):AR (Dw 16 n) x=x:=B9 (Abm (by omega))
theorem Rc (f:Ag):decide ((4000:Int)<(f.length:Int))=decide (4000<f.length):=by rw[Abz];simp;omega
theorem QT {F:Nat}{l:List Ag}(hF:64<F):OG F l=some (Ow l):=by
 unfold OG
 by_cases ha:l.length≤64
 ·rw[As (Abj (by omega)),MD];refine TM l _ ha (λacc x f hacc h0 hx hat=>?_) (λacc=>?_) hF
  ·show EX l acc x=_;unfold EX;rw[AA (Abm hx),AQ h0 hx,hat,Rc]
   cases h4:decide (4000<f.length) with
   | true=>rfl
   | false=>
    simp only[Abi] at h4;have e1:([IntKind.wrap .u8 (BX .i64 (f.length:Int) 8),IntKind.wrap .u8 (f.length:Int)]:List Int)++CC f=CC (N9 f):=by
     rw[AaN,MD,MD];simp[CC,N9]
    rw[As rfl,IO (by simp;omega),IO (by simp;omega),A6 (by omega) (by omega),Ab2,e1];rfl
  ·show EX l acc _=_;unfold EX;rw[As (Abj (by omega))]
 ·rw[AA (Abm (by omega))];unfold Ow Xy;rw[Abj ha];rfl
def Mf:Nat→Ag→List Ag→List Ag×Int
 | 0,s,acc=>bif decide (s=[]) then(acc,0) else([],13)
 | n+1,a::b::r,acc=>bif decide (4000<a.toNat*256+b.toNat) then([],13) else bif decide (r.length<a.toNat*256+b.toNat) then([],14) else Mf n (r.drop (a.toNat*256+b.toNat)) (acc++[r.take (a.toNat*256+b.toNat)])
 | n+1,_,acc=>([],14)
def Gl:Ag→List Ag×Int
 | []=>([],14)
 | c::s=>bif decide (64<c.toNat) then([],13) else Mf c.toNat s []
theorem AaS (a b:UInt8):HT .i64 (C7 .i64 (a.toNat:Int) 8) (b.toNat:Int)=((a.toNat*256+b.toNat:Nat):Int):=by
 have ha:=a.toNat_lt;have hb:=b.toNat_lt;have e0:C7 .i64 (a.toNat:Int) 8=((a.toNat*256:Nat):Int):=by
  unfold C7;have e:min (8:Int).toNat (IntKind.bits .i64)=8:=by decide
  rw[e,IntKind.wrap_i64];omega
 rw[e0];unfold HT;have h1:(BitVec.ofInt (IntKind.bits .i64) ((a.toNat*256:Nat):Int)||| BitVec.ofInt (IntKind.bits .i64) (b.toNat:Int)).toNat=a.toNat*256+b.toNat:=by
  rw[BitVec.toNat_or,BitVec.toNat_ofInt,BitVec.toNat_ofInt];have hbits:IntKind.bits .i64=64:=rfl;rw[hbits];have e1:(((a.toNat*256:Nat):Int) % ((2 ^ 64:Nat):Int)).toNat=a.toNat*256:=by omega
  have e2:(((b.toNat:Nat):Int) % ((2 ^ 64:Nat):Int)).toNat=b.toNat:=by omega
  rw[e1,e2,show a.toNat*256=a.toNat <<< 8 from by rw[Nat.shiftLeft_eq]];rw[Nat.shiftLeft_add_eq_or_of_lt (by simpa using hb)]
 rw[h1,IntKind.wrap_i64];omega
theorem Aa8 (a:UInt8)(r:Ag):Ba (a::r) 0=(a.toNat:Int):=rfl
theorem AaT (a b:UInt8)(r:Ag):Ba (a::b::r) 1=(b.toNat:Int):=rfl
theorem WB (s:Ag)(c:UInt8)(hs:Ba s 0=(c.toNat:Int)):∀(k:Nat) (F:Nat) (t:Ag) (acc:List Ag) (z i:Int),k<F→i+k=(c.toNat:Int)→0≤i→acc.length≤64-k→k≤64→t.length≤1000000000→
  Bi (BE (λσ=>Cr s σ.1 σ.2.1 σ.2.2.1 σ.2.2.2) F (t,acc,z,i)) (By λν=>Eg ν.1 ν.2)=some (Mf k t acc)
 | k,0,t,acc,z,i,h,_,_,_,_,_=>by omega
 | 0,F+1,t,acc,z,i,hF,hi,h0,ha,hk,ht=>by
  rw[BE];have hb:Cr s t acc z i=some (.out (.go (t,acc))):=by
   unfold Cr;rw[As (Abj (by omega))]
  simp only[hb];show Eg t acc=_;unfold Eg Mf
  cases h:decide (t=[]) with
  | true=>rw[As (p:=!true) rfl,BO (by omega) (Ab4 _)];simp
  | false=>rfl
 | k+1,F+1,t,acc,z,i,hF,hi,h0,ha,hk,ht=>by
  rw[BE];have hcc:=c.toNat_lt
  match t,ht with
  | [],ht=>
   have hb:Cr s [] acc z i=some (.out (.ret ([],14))):=by
    unfold Cr;rw[AA (Abm (by omega)),AA (by decide)];rfl
   simp only[hb];rfl
  | [a],ht=>
   have hb:Cr s [a] acc z i=some (.out (.ret ([],14))):=by
    unfold Cr;rw[AA (Abm (by omega)),AA (by simp)];rfl
   simp only[hb];rfl
  | a::b::r,ht=>
   have haa:=a.toNat_lt;have hbb:=b.toNat_lt;simp only[Abl] at ht;have hd:List.drop (Int.toNat 2) (a::b::r)=r:=rfl;have hb:Cr s (a::b::r) acc z i=bif decide (4000<a.toNat*256+b.toNat) then some (.out (.ret ([],13))) else bif decide (r.length<a.toNat*256+b.toNat) then some (.out (.ret ([],14))) else some (.next (r.drop (a.toNat*256+b.toNat),acc++[r.take (a.toNat*256+b.toNat)],((a.toNat*256+b.toNat:Nat):Int),i+1)):=by
    unfold Cr;rw[AA (Abm (by omega)),As (Abj (by simp only[Abl];omega)),Aa8,AaT,hd,AaS];have hlen:((a::b::r).length:Int)=(r.length:Int)+2:=by simp only[Abl];omega
    rw[hlen,AQ (by omega) (by omega),A6 (by omega) (by omega),AQ (by omega) (by omega),A6 (by omega) (by omega),BO (by omega) (by omega)];generalize a.toNat*256+b.toNat=m;rw[show decide ((4000:Int)<(m:Int))=decide (4000<m) from by rw[Abz];simp;omega,show decide ((r.length:Int)<(m:Int))=decide (r.length<m) from by rw[Abz];simp]
    cases h1:decide (4000<m) with
    | true=>rfl
    | false=>
     cases h2:decide (r.length<m) with
     | true=>rfl
     | false=>
      simp only[Abi] at h1 h2;rw[As rfl,As rfl,BO (by omega) (by omega),L7 (by simp;omega),A6 (by omega) (by omega)];rfl
   simp only[hb];rw[Mf]
   cases h1:decide (4000<a.toNat*256+b.toNat) with
   | true=>rfl
   | false=>
    cases h2:decide (r.length<a.toNat*256+b.toNat) with
    | true=>rfl
    | false=>
     simp only[Abk];exact WB s c hs k F _ _ _ _ (by omega) (by omega) (by omega) (by simp;omega) (by omega) (by simp;omega)
theorem Sc {F:Nat}{s:Ag}(hF:64<F)(hs:s.length≤1000000000):KV F s=some (Gl s):=by
 unfold KV
 cases s with
 | nil=>rfl
 | cons c t=>
  have hc:=c.toNat_lt;simp only[Abl] at hs;rw[As (by simp),AQ (by omega) (by simp only[Abl];omega),Aa8,A6 (by omega) (by omega),BO (by omega) (by simp only[Abl];omega)];rw[show decide ((64:Int)<(c.toNat:Int))=decide (64<c.toNat) from by rw[Abz];simp;omega];rw[Gl]
  cases h:decide (64<c.toNat) with
  | true=>rfl
  | false=>
   simp only[Abi] at h;rw[As rfl];exact WB (c::t) c rfl c.toNat F t [] 0 0 (by omega) (by omega) (Ab4 0) (by simp) (by omega) (by omega)
theorem Xm {s:Ag}{k:Nat}{a:UInt8}{r:Ag}(h:s.drop k=a::r):Ba s (k:Int)=(a.toNat:Int):=by
 have:s[k]? =some a:=by rw[← List.head?_drop,h];rfl
 simp[Ba,this]
theorem Oi:∀(l:List Ag) (acc:List Ag),(l.all λf=>decide (f.length≤4000))=true→Mf l.length (l.flatMap N9) acc=(acc++l,0)
 | [],acc,_=>by simp[Mf]
 | f::l,acc,h=>by
  simp only[AbH,Abp,Abh] at h;rw[Acb,Abl];show Mf (l.length+1) (UInt8.ofNat (f.length/256)::UInt8.ofNat (f.length % 256)::(f++l.flatMap N9)) acc=_;rw[Mf];have e:(UInt8.ofNat (f.length/256)).toNat*256+(UInt8.ofNat (f.length % 256)).toNat=f.length:=by
   simp only[UInt8.toNat_ofNat'];omega
  rw[e,Abj (by omega),Abj (by simp),Abk,Abk,List.take_left,List.drop_left,Oi l _ (by simpa using h.2)];simp
theorem Vg {l:List Ag}(h:Xy l=true):Gl (KA l)=(l,0):=by
 unfold Xy at h;simp only[Abp,Abh] at h;unfold KA;rw[Gl];have e:(UInt8.ofNat l.length).toNat=l.length:=by simp only[UInt8.toNat_ofNat'];omega
 rw[e,Abj (by omega),Abk,Oi l [] h.2];rfl
theorem PX:∀(n:Nat) (s:Ag) (acc:List Ag) (q:List Ag),Mf n s acc=(q,0)→∃l,q=acc++l∧l.length=n∧(l.all λf=>decide (f.length≤4000))=true∧l.flatMap N9=s
 | 0,s,acc,q,h=>by
  rw[Mf] at h
  cases hs:decide (s=[]) with
  | true=>rw[hs] at h;simp only[Abr,Prod.mk.injEq] at h;exact⟨[],by simp[h.1],rfl,rfl,by rw[Abt hs];rfl⟩
  | false=>rw[hs] at h;cases h
 | n+1,[],acc,q,h=>by have h2:(([]:List Ag),(14:Int))=(q,0):=h;cases h2
 | n+1,[a],acc,q,h=>by have h2:(([]:List Ag),(14:Int))=(q,0):=h;cases h2
 | n+1,a::b::r,acc,q,h=>by
  rw[Mf] at h;have ha:=a.toNat_lt;have hb:=b.toNat_lt
  cases h1:decide (4000<a.toNat*256+b.toNat) with
  | true=>rw[h1] at h;cases h
  | false=>
   cases h2:decide (r.length<a.toNat*256+b.toNat) with
   | true=>rw[h1,h2] at h;cases h
   | false=>
    rw[h1,h2] at h;simp only[Abk] at h;simp only[Abi] at h1 h2;obtain⟨l,e1,e2,e3,e4⟩:=PX n _ _ _ h;have hl:(r.take (a.toNat*256+b.toNat)).length=a.toNat*256+b.toNat:=by simp;omega
    refine⟨r.take (a.toNat*256+b.toNat)::l,by rw[e1];simp,by simp[e2],?_,?_⟩
    ·rw[AbH,e3,AbA,Abh,hl];omega
    ·rw[Acb,e4];unfold N9;rw[hl];have x1:UInt8.ofNat ((a.toNat*256+b.toNat)/256)=a:=by
      apply UInt8.toNat_inj.1;simp only[UInt8.toNat_ofNat'];omega
     have x2:UInt8.ofNat ((a.toNat*256+b.toNat) % 256)=b:=by
      apply UInt8.toNat_inj.1;simp only[UInt8.toNat_ofNat'];omega
     rw[x1,x2];simp
theorem Qt {s:Ag}{l:List Ag}(h:Gl s=(l,0)):Xy l=true∧KA l=s:=by
 cases s with
 | nil=>cases h
 | cons c t=>
  rw[Gl] at h
  cases h1:decide (64<c.toNat) with
  | true=>rw[h1] at h;cases h
  | false=>
   rw[h1] at h;simp only[Abk] at h;simp only[Abi] at h1;obtain⟨l',e1,e2,e3,e4⟩:=PX _ _ _ _ h;simp only[AbJ] at e1;subst e1;unfold Xy KA;rw[e3,e4,e2,Abm (by omega)];exact⟨rfl,by simp⟩
theorem T1 {s:Ag}{f:Ag}(h:f∈(Gl s).1)(h0:(Gl s).2=0):f.length≤4000:=by
 have:=(Qt (s:=s) (l:=(Gl s).1) (by rw[← h0])).1;unfold Xy at this;simp only[Abp,Abh,AbE] at this;exact this.2 f h
def pre:Ag→Ag→Option Ag
 | [],s=>some s
 | c::w,d::s=>bif decide (c=d) then pre w s else none
 | _::_,[]=>none
def C8 (strict:Bool):Ag→Option (Ag×Ag)
 | []=>none
 | c::r=>
  bif decide (c=34) then some ([],r) else
  bif strict&&!J1 c then none else
  bif decide (c=92) then(match r with
   | []=>none
   | d::r'=>bif decide (d=34)||decide (d=92) then(match C8 strict r' with
    | none=>none
    | some (t,u)=>some (d::t,u)) else none)
  else(match C8 strict r with
   | none=>none
   | some (t,u)=>some (c::t,u))
def BM (c:UInt8):Bool:=decide (48≤c.toNat)&&decide (c.toNat≤57)
def Cs:Ag→Ag×Ag
 | []=>([],[])
 | c::r=>bif BM c then(c::(Cs r).1,(Cs r).2) else([],c::r)
def NU (d:Ag):Int:=d.foldl (λn c=>10*n+((c.toNat:Int)-48)) 0
def J3 (neg:Bool)(d:Ag):Int:=
 bif decide (18<d.length) then(bif neg then -2000000000000 else 2000000000000) else bif neg then -(NU d) else NU d
def Eo (neg:Bool)(d:Ag):Bool:=!decide (d=[])&&!(decide (d.head? =some 48)&&(decide (1<d.length)||neg))
def HF (s:Ag):Option (Fo×Ag):=
 let neg:=decide (s.head? =some 45)
 let r:=bif neg then s.tail else s
 bif Eo neg (Cs r).1 then some (.cell none ⟨3,J3 neg (Cs r).1,[],0⟩ .nil,(Cs r).2) else none
def lf (k i:Int)(t:Ag):Fo:=.cell none ⟨k,i,t,0⟩ .nil
def nd (m:Bool)(g:Fo):Fo:=bif decide (g.cnt=0) then .cell none ⟨bif m then 6 else 5,0,[],0⟩ .nil else .node none ⟨bif m then 6 else 5,0,[],(g.cnt:Int)⟩ g .nil
def BJ (m:Bool):UInt8:=bif m then 125 else 93
def Ef (strict m:Bool)(last:Option Ag)(s:Ag):Option (Option Ag×Ag):=
 bif m then(match s with
  | []=>none
  | c::r=>bif decide (c=34) then(match C8 strict r with
   | none=>none
   | some (k,u)=>bif strict&&!Bp true last (some k) then none else(match u with
    | []=>none
    | d::u'=>bif decide (d=58) then some (some k,u') else none)) else none)
 else some (none,s)
mutual
def EE (strict:Bool):Nat→Ag→Option (Fo×Ag)
 | 0,_=>none
 | F+1,s=>
  match pre [110,117,108,108] s with
  | some r=>some (lf 1 0 [],r)
  | none=>match pre [116,114,117,101] s with
   | some r=>some (lf 2 1 [],r)
   | none=>match pre [102,97,108,115,101] s with
    | some r=>some (lf 2 0 [],r)
    | none=>match s with
     | []=>none
     | c::r=>
      bif decide (c=34) then(match C8 strict r with
       | none=>none
       | some (t,u)=>some (lf 4 0 t,u)) else
      bif decide (c=91)||decide (c=123) then(match r with
       | []=>none
       | d::r'=>bif decide (d=BJ (decide (c=123))) then some (nd (decide (c=123)) .nil,r') else(match Do strict F (decide (c=123)) none (d::r') with
        | none=>none
        | some (g,u)=>some (nd (decide (c=123)) g,u))) else
      HF (c::r)
def Do (strict:Bool):Nat→Bool→Option Ag→Ag→Option (Fo×Ag)
 | 0,_,_,_=>none
 | F+1,m,last,s=>
  match Ef strict m last s with
  | none=>none
  | some (key,s1)=>match EE strict F s1 with
   | none=>none
   | some (f,s2)=>match s2 with
    | []=>none
    | c::s3=>
     bif decide (c=BJ m) then some (f.put key .nil,s3) else
     bif decide (c=44) then(match Do strict F m key s3 with
      | none=>none
      | some (g,u)=>some (f.put key g,u)) else none
end
theorem Dn (strict:Bool)(F:Nat)(s:Ag):EE strict (F+1) s =
  match pre [110,117,108,108] s with
  | some r=>some (lf 1 0 [],r)
  | none=>match pre [116,114,117,101] s with
   | some r=>some (lf 2 1 [],r)
   | none=>match pre [102,97,108,115,101] s with
    | some r=>some (lf 2 0 [],r)
    | none=>match s with
     | []=>none
     | c::r=>
      bif decide (c=34) then(match C8 strict r with
       | none=>none
       | some (t,u)=>some (lf 4 0 t,u)) else
      bif decide (c=91)||decide (c=123) then(match r with
       | []=>none
       | d::r'=>bif decide (d=BJ (decide (c=123))) then some (nd (decide (c=123)) .nil,r') else(match Do strict F (decide (c=123)) none (d::r') with
        | none=>none
        | some (g,u)=>some (nd (decide (c=123)) g,u))) else
      HF (c::r):=by
 rw[EE.eq_def]
theorem CX (strict:Bool)(F:Nat)(m:Bool)(last:Option Ag)(s:Ag):Do strict (F+1) m last s =
  match Ef strict m last s with
  | none=>none
  | some (key,s1)=>match EE strict F s1 with
   | none=>none
   | some (f,s2)=>match s2 with
    | []=>none
    | c::s3=>
     bif decide (c=BJ m) then some (f.put key .nil,s3) else
     bif decide (c=44) then(match Do strict F m key s3 with
      | none=>none
      | some (g,u)=>some (f.put key g,u)) else none:=by
 rw[Do.eq_def]
theorem Dh:∀{w s r:Ag},pre w s=some r→s=w++r
 | [],s,r,h=>by cases h;rfl
 | c::w,[],r,h=>by cases h
 | c::w,d::s,r,h=>by
  rw[pre] at h
  cases hc:decide (c=d) with
  | false=>rw[hc] at h;cases h
  | true=>
   rw[hc] at h;simp only[Abh] at hc;rw[hc,Dh h];rfl
theorem Dq (b:Bool)(c:UInt8)(r:Ag):C8 b (c::r) =
  bif decide (c=34) then some ([],r) else
  bif b&&!J1 c then none else
  bif decide (c=92) then(match r with
   | []=>none
   | d::r'=>bif decide (d=34)||decide (d=92) then(match C8 b r' with
    | none=>none
    | some (t,u)=>some (d::t,u)) else none)
  else(match C8 b r with
   | none=>none
   | some (t,u)=>some (c::t,u)):=by
 rw[C8.eq_def]
 cases r<;>rfl
theorem I8 (b:Bool):∀(n:Nat) (s t u:Ag),s.length=n→C8 b s=some (t,u)→u.length<s.length:=by
 intro n
 induction n using Nat.strongRecOn with
 | ind n ih=>
  intro s t u hn h
  cases s with
  | nil=>cases h
  | cons c r=>
   simp only[Abl] at hn ⊢;rw[Dq] at h
   cases h1:decide (c=34) with
   | true=>rw[h1] at h;cases h;omega
   | false=>
    rw[h1] at h;simp only[Abk] at h
    cases h2:(b&&!J1 c) with
    | true=>rw[h2] at h;cases h
    | false=>
     rw[h2] at h;simp only[Abk] at h
     cases h3:decide (c=92) with
     | true=>
      rw[h3] at h
      cases r with
      | nil=>cases h
      | cons d r'=>
       simp only[Abr] at h
       cases h4:(decide (d=34)||decide (d=92)) with
       | false=>rw[h4] at h;cases h
       | true=>
        rw[h4] at h;simp only[Abr] at h
        cases h5:C8 b r' with
        | none=>rw[h5] at h;cases h
        | some q=>
         obtain⟨t',u'⟩:=q;rw[h5] at h;cases h;simp only[Abl] at hn ⊢;have:=ih r'.length (by omega) r' t' u rfl h5;omega
     | false=>
      rw[h3] at h;simp only[Abk] at h
      cases h5:C8 b r with
      | none=>rw[h5] at h;cases h
      | some q=>
       obtain⟨t',u'⟩:=q;rw[h5] at h;cases h;have:=ih r.length (by omega) r t' u rfl h5;omega
theorem M6:∀s:Ag,s=(Cs s).1++(Cs s).2
 | []=>rfl
 | c::r=>by
  have:=M6 r;rw[Cs]
  cases BM c with
  | true=>simp only[Abr,AbP];rw[← this]
  | false=>rfl
theorem Ny {s u:Ag}{f:Fo}(h:HF s=some (f,u)):u.length<s.length:=by
 unfold HF at h;simp only at h
 cases hc:Eo (decide (s.head? =some 45)) (Cs (bif decide (s.head? =some 45) then s.tail else s)).1 with
 | false=>rw[hc] at h;cases h
 | true=>
  rw[hc] at h;simp only[Abr,Option.some.injEq,Prod.mk.injEq] at h;obtain⟨_,h⟩:=h;have e:=congrArg List.length (M6 (bif decide (s.head? =some 45) then s.tail else s));rw[Abq,h] at e;have h1:0<(Cs (bif decide (s.head? =some 45) then s.tail else s)).1.length:=by
   unfold Eo at hc;simp only[Abp,Ab0,Abi] at hc;exact List.length_pos_iff.2 hc.1
  have h2:(bif decide (s.head? =some 45) then s.tail else s).length≤s.length:=by
   cases decide (s.head? =some 45)<;>simp
  omega
theorem QI {b m:Bool}{last key:Option Ag}{s u:Ag}(h:Ef b m last s=some (key,u)):u.length≤s.length:=by
 unfold Ef at h
 cases m with
 | false=>cases h;exact Ab3 _
 | true=>
  simp only[Abr] at h
  cases s with
  | nil=>cases h
  | cons c r=>
   simp only at h
   cases h1:decide (c=34) with
   | false=>rw[h1] at h;cases h
   | true=>
    rw[h1] at h;simp only[Abr] at h
    cases h2:C8 b r with
    | none=>rw[h2] at h;cases h
    | some q=>
     obtain⟨k,w⟩:=q;have:=I8 b _ r k w rfl h2;rw[h2] at h;simp only at h
     cases h3:(b&&!Bp true last (some k)) with
     | true=>rw[h3] at h;cases h
     | false=>
      rw[h3] at h;simp only[Abk] at h
      cases w with
      | nil=>cases h
      | cons d w'=>
       simp only at h
       cases h4:decide (d=58) with
       | false=>rw[h4] at h;cases h
       | true=>rw[h4] at h;cases h;simp only[Abl] at this ⊢;omega
theorem VU (m:Bool)(g:Fo):(nd m g).one=true:=by
 unfold nd
 cases decide (g.cnt=0)<;>rfl
theorem Wy {s u:Ag}{f:Fo}(h:HF s=some (f,u)):f.one=true:=by
 unfold HF at h;simp only at h
 cases hc:Eo (decide (s.head? =some 45)) (Cs (bif decide (s.head? =some 45) then s.tail else s)).1 with
 | false=>rw[hc] at h;cases h
 | true=>rw[hc] at h;cases h;rfl
theorem Ea (b:Bool):∀F:Nat,(∀s f u,EE b F s=some (f,u)→u.length<s.length∧f.one=true)∧(∀m last s g u,Do b F m last s=some (g,u)→u.length<s.length∧1≤g.cnt)
 | 0=>⟨(λs f u h=>by rw[EE.eq_def] at h;cases h),(λm last s g u h=>by rw[Do.eq_def] at h;cases h)⟩
 | F+1=>by
  obtain⟨ih1,ih2⟩:=Ea b F;constructor
  ·intro s f u h;rw[Dn] at h
   cases h1:pre [110,117,108,108] s with
   | some r=>rw[h1] at h;cases h;rw[Dh h1];exact⟨by simp;omega,rfl⟩
   | none=>
   rw[h1] at h;simp only at h
   cases h2:pre [116,114,117,101] s with
   | some r=>rw[h2] at h;cases h;rw[Dh h2];exact⟨by simp;omega,rfl⟩
   | none=>
   rw[h2] at h;simp only at h
   cases h3:pre [102,97,108,115,101] s with
   | some r=>rw[h3] at h;cases h;rw[Dh h3];exact⟨by simp;omega,rfl⟩
   | none=>
   rw[h3] at h;simp only at h
   cases s with
   | nil=>cases h
   | cons c r=>
   simp only at h
   cases h4:decide (c=34) with
   | true=>
    rw[h4] at h;simp only[Abr] at h
    cases h5:C8 b r with
    | none=>rw[h5] at h;cases h
    | some q=>
     obtain⟨t,w⟩:=q;rw[h5] at h;cases h;have:=I8 b _ r t u rfl h5;exact⟨by simp only[Abl];omega,rfl⟩
   | false=>
   rw[h4] at h;simp only[Abk] at h
   cases h5:(decide (c=91)||decide (c=123)) with
   | false=>rw[h5] at h;simp only[Abk] at h;exact⟨Ny h,Wy h⟩
   | true=>
   rw[h5] at h;simp only[Abr] at h
   cases r with
   | nil=>cases h
   | cons d r'=>
   simp only at h
   cases h6:decide (d=BJ (decide (c=123))) with
   | true=>rw[h6] at h;cases h;exact⟨by simp only[Abl];omega,VU _ _⟩
   | false=>
   rw[h6] at h;simp only[Abk] at h
   cases h7:Do b F (decide (c=123)) none (d::r') with
   | none=>rw[h7] at h;cases h
   | some q=>
    obtain⟨g,w⟩:=q;rw[h7] at h;cases h;have:=(ih2 _ _ _ _ _ h7).1;exact⟨by simp only[Abl] at this ⊢;omega,VU _ _⟩
  ·intro m last s g u h;rw[CX] at h
   cases h1:Ef b m last s with
   | none=>rw[h1] at h;cases h
   | some q=>
   obtain⟨key,s1⟩:=q;have l1:=QI h1;rw[h1] at h;simp only at h
   cases h2:EE b F s1 with
   | none=>rw[h2] at h;cases h
   | some q=>
   obtain⟨f,s2⟩:=q;obtain⟨l2,o2⟩:=ih1 _ _ _ h2;rw[h2] at h;simp only at h
   cases s2 with
   | nil=>cases h
   | cons c s3=>
   simp only[Abl] at l2;have hput:∀r:Fo,1≤(f.put key r).cnt:=λr=>by
    cases f with
    | nil=>cases o2
    | cell _ _ _=>simp[Fo.put,Fo.cnt]
    | node _ _ _ _=>simp[Fo.put,Fo.cnt]
   simp only at h
   cases h3:decide (c=BJ m) with
   | true=>rw[h3] at h;cases h;exact⟨by omega,hput _⟩
   | false=>
   rw[h3] at h;simp only[Abk] at h
   cases h4:decide (c=44) with
   | false=>rw[h4] at h;cases h
   | true=>
   rw[h4] at h;simp only[Abr] at h
   cases h5:Do b F m key s3 with
   | none=>rw[h5] at h;cases h
   | some q=>
    obtain⟨g',w⟩:=q;rw[h5] at h;cases h;have:=(ih2 _ _ _ _ _ h5).1;exact⟨by omega,hput _⟩
def Cq (acc:Nat)(d:Ag):Nat:=d.foldl (λn c=>10*n+(c.toNat-48)) acc
theorem HA:∀(d:Ag) (a:Nat),a≤Cq a d
 | [],a=>Ab3 _
 | c::d,a=>by
  have:=HA d (10*a+(c.toNat-48));show a≤Cq (10*a+(c.toNat-48)) d;omega
theorem Q4:∀(d:Ag) (a:Nat),1≤a→10 ^ d.length≤Cq a d
 | [],a,h=>by simpa[Cq] using h
 | c::d,a,h=>by
  have hm:∀(d:Ag) (a b:Nat),a≤b→Cq a d≤Cq b d:=by
   intro d
   induction d with
   | nil=>intro a b h;exact h
   | cons c d ih=>intro a b h;show Cq (10*a+(c.toNat-48)) d≤Cq (10*b+(c.toNat-48)) d;exact ih _ _ (by omega)
  have hs:∀(d:Ag) (a:Nat),10 ^ d.length*a≤Cq a d:=by
   intro d
   induction d with
   | nil=>intro a;simp[Cq]
   | cons c d ih=>
    intro a;have:=ih (10*a+(c.toNat-48));show 10 ^ (d.length+1)*a≤Cq (10*a+(c.toNat-48)) d;refine Nat.le_trans ?_ this;rw[Nat.pow_succ,Nat.mul_assoc];exact Nat.mul_le_mul_left _ (by omega)
  exact Nat.le_trans (Nat.le_mul_of_pos_right _ h) (hs (c::d) a)
theorem IC:∀(d:Ag) (a:Nat),d.all BM=true→d.foldl (λn c=>10*n+((c.toNat:Int)-48)) (a:Int)=(Cq a d:Int)
 | [],a,_=>rfl
 | c::d,a,h=>by
  simp only[AbH,Abp] at h;have hc:48≤c.toNat:=by have:=h.1;simp[BM] at this;omega
  have:=IC d (10*a+(c.toNat-48)) h.2;show d.foldl _ (10*(a:Int)+((c.toNat:Int)-48))=(Cq (10*a+(c.toNat-48)) d:Int);rw[← this]
  congr 1
  omega
theorem Pk:∀(d:Ag) (a:Nat),d.all BM=true→Lib.parseUint10 a d = .ok (Cq a d)∨(Lib.parseUint10 a d = .range∧1000000000000<Cq a d)
 | [],a,_=>.inl rfl
 | c::d,a,h=>by
  simp only[AbH,Abp] at h;have hc:48≤c.toNat∧c.toNat≤57:=by have:=h.1;simp[BM] at this;omega
  have hm:=HA d (10*a+(c.toNat-48));have e:Cq a (c::d)=Cq (10*a+(c.toNat-48)) d:=rfl;rw[e];unfold Lib.parseUint10;rw[AbY hc]
  split
  ·exact .inr ⟨rfl,by omega⟩
  ·split
   ·exact .inr ⟨rfl,by omega⟩
   ·rw[show a*10+(c.toNat-48)=10*a+(c.toNat-48) from by omega];exact Pk d _ h.2
theorem LC:∀(d:Ag) (i:Nat),Bf DF i d=d.all BM
 | [],_=>rfl
 | c::d,i=>by
  rw[Bf,AbH,LC d]
  congr 1
  simp only[DF,BM];rw[Abz];simp only[Ab0,Ab8,Abi,Abp,Abh];omega
def Gm (neg:Bool)(d:Ag):Ag:=bif neg then 45::d else d
theorem W1 {d:Ag}(hd:d.all BM=true) : ¬ d.head? =some 45:=by
 cases d with
 | nil=>simp
 | cons c d=>
  simp only[AbH,Abp] at hd;have:=hd.1;intro e;simp only[List.head?_cons,Option.some.injEq] at e;subst e;simp[BM] at this
theorem T4 (s:Ag):MV s=decide (s.head? =some 45):=by
 cases s with
 | nil=>rfl
 | cons c r=>
  have:Ba (c::r) 0=c.toNat:=Gt rfl;unfold MV;rw[this,Abz];simp only[Abp,Abh,List.head?_cons,Option.some.injEq,← Acf,Abl];show _∧(c.toNat:Int)=45↔c.toNat=45;omega
theorem WS {neg:Bool}{d:Ag}(hd:d.all BM=true):Hn (Gm neg d)=d:=by
 unfold Hn;rw[T4]
 cases neg with
 | true=>rfl
 | false=>
  have:=W1 hd;show(if decide (d.head? =some 45)=true then d.drop 1 else d)=d;rw[AbN (by simpa using this)]
theorem WZ {neg:Bool}{d:Ag}(hd:d.all BM=true):Kc (Gm neg d)=Eo neg d:=by
 unfold Kc Eo;rw[WS hd,LC,hd,AbA]
 cases d with
 | nil=>simp
 | cons c r=>
  have hb:Ba (c::r) 0=c.toNat:=Gt rfl;have h1:decide (c::r=([]:Ag))=false:=by simp
  have h2:decide (Ba (c::r) 0=48)=decide ((c::r).head? =some 48):=by
   rw[hb,Abz];simp only[Abh,List.head?_cons,Option.some.injEq,← Acf];show(c.toNat:Int)=48↔c.toNat=48;omega
  rw[h1,h2,Ab5,AbB,Aby]
  cases ha:decide ((c::r).head? =some 48) with
  | false=>rfl
  | true=>
   simp only[Abh,List.head?_cons,Option.some.injEq] at ha;subst ha
   cases neg with
   | true=>simp[Gm]
   | false=>
    cases r with
    | nil=>simp[Gm]
    | cons a r=>simp[Gm]
theorem Xo {neg:Bool}{d:Ag}(hd:d.all BM=true)(hne:d≠[]):Lib.atoiAll (Gm neg d)=(bif neg then Lib.signed (Lib.parseUint10 0 d) else Lib.signless (Lib.parseUint10 0 d)):=by
 cases neg with
 | true=>
  simp only[Gm,Abr];rw[Lib.atoiAll_minus,Lib.parseMag,AbN hne]
 | false=>
  cases d with
  | nil=>exact absurd rfl hne
  | cons c r=>
   have hc:=hd;simp only[AbH,Abp] at hc;have ha:48≤c.toNat:=by have:=hc.1;simp[BM] at this;omega
   simp only[Gm,Abk];rw[Lib.atoiAll_plain c r (by omega) (by omega),Lib.parseMag,AbN hne]
theorem TL {neg:Bool}{d:Ag}(hd:d.all BM=true):(Eo neg d=false∧BD (Gm neg d)=1)∨(Eo neg d=true∧BG ⟨3,J3 neg d,[],0⟩=false∧BD (Gm neg d)=0∧Bm (Gm neg d)=J3 neg d)∨(Eo neg d=true∧BG ⟨3,J3 neg d,[],0⟩=true∧BD (Gm neg d)=2∧Bm (Gm neg d)=0):=by
 unfold BD Bm;rw[WZ hd]
 cases hc:Eo neg d with
 | false=>exact .inl ⟨rfl,rfl⟩
 | true=>
  right
  have hc':=hc;unfold Eo at hc';simp only[Abp,Ab0,Abi] at hc';have hne:=hc'.1;rw[AbY rfl,AbY rfl,Xo hd hne];have hnum:NU d=(Cq 0 d:Int):=IC d 0 hd;have hbig:18<d.length→1000000000000<Cq 0 d:=λhl=>by
   cases d with
   | nil=>simp at hl
   | cons c r=>
    have hc1:=hd;simp only[AbH,Abp] at hc1;have he:48≤c.toNat:=by have:=hc1.1;simp[BM] at this;omega
    have hne48 : ¬ c=48:=by
     intro e;have:=hc'.2;subst e;simp only[Abl] at hl;have h1r:1<r.length+1:=by omega
     simp[h1r] at this
    have hf:49≤c.toNat:=by
     have : ¬ c.toNat=48:=λe=>hne48 (UInt8.toNat_inj.1 (by rw[e];rfl));omega
    have:=Q4 r (10*0+(c.toNat-48)) (by omega);have ha:10 ^ 18≤10 ^ r.length:=Nat.pow_le_pow_right (by decide) (by simp at hl;omega);have e:Cq 0 (c::r)=Cq (10*0+(c.toNat-48)) r:=rfl;rw[e];have:(1000000000000:Nat)<10 ^ 18:=by decide
    omega
  have hout:BG ⟨3,J3 neg d,[],0⟩=decide (1000000000000<Cq 0 d):=by
   unfold BG J3;rw[hnum]
   cases ha:decide (18<d.length) with
   | true=>
    simp only[Abh] at ha;rw[Abm (hbig ha)]
    cases neg<;>rfl
   | false=>
    rw[Abz]
    cases neg<;>simp<;>omega
  rw[hout];rcases Pk d 0 hd with hu | ⟨hu,hg⟩
  ·rw[hu]
   cases hg:decide (1000000000000<Cq 0 d) with
   | false=>
    simp only[Abi] at hg;have ha:decide (18<d.length)=false:=by
     rw[Abi];intro h;have:=hbig h;omega
    refine .inl ⟨rfl,rfl,?_,?_⟩
    ·cases neg with
     | true=>simp only[Abr,Lib.signed];rw[AbN (by omega)];simp only;rw[AbY (by unfold D4;simp;omega)]
     | false=>simp only[Abk,Lib.signless];rw[AbN (by omega)];simp only;rw[AbY (by unfold D4;simp;omega)]
    ·unfold J3;rw[ha,hnum]
     cases neg with
     | true=>simp only[Abr,Abk,Lib.signed];rw[AbN (by omega)];simp only;rw[AbY (by unfold D4;simp;omega)]
     | false=>simp only[Abk,Lib.signless];rw[AbN (by omega)];simp only;rw[AbY (by unfold D4;simp;omega)]
   | true=>
    simp only[Abh] at hg;refine .inr ⟨rfl,rfl,?_,?_⟩
    ·cases neg with
     | true=>
      simp only[Abr,Lib.signed]
      by_cases hb:9223372036854775808<Cq 0 d
      ·rw[AbY hb]
      ·rw[AbN hb];simp only;rw[AbN (by unfold D4;simp;omega)]
     | false=>
      simp only[Abk,Lib.signless]
      by_cases hb:9223372036854775808≤Cq 0 d
      ·rw[AbY hb]
      ·rw[AbN hb];simp only;rw[AbN (by unfold D4;simp;omega)]
    ·cases neg with
     | true=>
      simp only[Abr,Lib.signed]
      by_cases hb:9223372036854775808<Cq 0 d
      ·rw[AbY hb]
      ·rw[AbN hb];simp only;rw[AbN (by unfold D4;simp;omega)]
     | false=>
      simp only[Abk,Lib.signless]
      by_cases hb:9223372036854775808≤Cq 0 d
      ·rw[AbY hb]
      ·rw[AbN hb];simp only;rw[AbN (by unfold D4;simp;omega)]
  ·rw[hu,Abm hg];refine .inr ⟨rfl,rfl,?_,?_⟩<;>cases neg<;>rfl
def GV (u S:Ag):Prop:=∃p,S=p++u
theorem GV.len {u S:Ag}(h:GV u S):u.length≤S.length:=by obtain⟨p,rfl⟩:=h;simp
theorem GV.tail {c:UInt8}{r S:Ag}(h:GV (c::r) S):GV r S:=by obtain⟨p,rfl⟩:=h;exact⟨p++[c],by simp⟩
theorem GV.app {w r S:Ag}(h:GV (w++r) S):GV r S:=by obtain⟨p,rfl⟩:=h;exact⟨p++w,by simp⟩
theorem GV.drop {u S:Ag}(h:GV u S):S.drop (Int.toNat ((S.length:Int)-u.length))=u:=by
 obtain⟨p,rfl⟩:=h;rw[show Int.toNat (((p++u).length:Int)-u.length)=p.length from by rw[Abq];omega,List.drop_left]
theorem GV.get {c:UInt8}{r S:Ag}(h:GV (c::r) S):S[(Int.toNat ((S.length:Int)-(c::r).length))]? =some c:=by
 have:=h.drop;have h2:(S.drop (Int.toNat ((S.length:Int)-(c::r).length)))[0]? =some c:=by rw[this];rfl
 simpa using h2
def CY (S u:Ag)(cs:List Aa)(g:Bool):Ak:=⟨S,(S.length:Int)-u.length,cs,g⟩
theorem K7:∀(w r:Ag),pre w (w++r)=some r
 | [],r=>rfl
 | c::w,r=>by
  show(bif decide (c=c) then pre w (w++r) else none)=some r;rw[Abm rfl];exact K7 w r
theorem RB (w s:Ag):(decide ((w.length:Int)≤(s.length:Int))&&decide (List.take (Int.toNat (w.length:Int)) s=w))=(pre w s).isSome:=by
 cases h:pre w s with
 | some r=>
  have:=Dh h;subst this;simp;omega
 | none=>
  rw[Abz];simp only[Abp,Abh,Option.isSome_none,AbL,iff_false,not_and];intro hl e;have:s=w++s.drop w.length:=by
   conv=>lhs;rw[← AbW w.length s]
   rw[show Int.toNat (w.length:Int)=w.length from by omega] at e;rw[e]
  rw[this,K7] at h
  cases h
theorem KQ (s w:Ag):DP s w=some (pre w s).isSome:=by
 unfold DP EQ;rw[← RB];have:imp (decide ((w.length:Int)≤(s.length:Int))) (GU (w.length:Int) (s.length:Int))=true:=by
  cases hd:decide ((w.length:Int)≤(s.length:Int)) with
  | false=>rfl
  | true=>simp only[imp];rw[ZB (by omega) (by simpa using hd)];rfl
 rw[B9 this];rfl
theorem C4 {S u w:Ag}{cs:List Aa}{g:Bool}(hS:S.length≤100000)(h:GV u S):D5 (CY S u cs g) w=match pre w u with
  | some r=>some (true,CY S r cs g)
  | none=>some (false,CY S u cs g):=by
 have hl:=h.len;unfold D5 CY;simp only;rw[BO (by omega) (by omega),h.drop,KQ,A8 rfl]
 cases hp:pre w u with
 | none=>rfl
 | some r=>
  have e:=Dh hp;have el:u.length=w.length+r.length:=by rw[e];simp
  rw[As (p:=!(some r).isSome) rfl,A6 (by omega) (by omega),show(S.length:Int)-u.length+w.length=S.length-r.length from by omega]
theorem K8 (c:UInt8)(u:Ag):pre [c] u=match u with
  | []=>none
  | d::r=>bif decide (d=c) then some r else none:=by
 cases u with
 | nil=>rfl
 | cons d r=>
  show(bif decide (c=d) then some r else none)=_;have:decide (c=d)=decide (d=c):=by rw[Abz];simp only[Abh];exact eq_comm
  rw[this]
theorem VK (A:Ag):NQ (CC A)=A:=by
 induction A with
 | nil=>rfl
 | cons c A ih=>
  show UInt8.ofNat (Int.toNat (c.toNat:Int))::NQ (CC A)=c::A;rw[ih,← (show UInt8.ofNat c.toNat=c from by simp)];simp
theorem XJ:∀(n:Nat) (s t u:Ag),s.length=n→C8 true s=some (t,u)→t.all J1=true:=by
 intro n
 induction n using Nat.strongRecOn with
 | ind n ih=>
  intro s t u hn h
  cases s with
  | nil=>cases h
  | cons c r=>
   simp only[Abl] at hn;rw[Dq] at h
   cases h1:decide (c=34) with
   | true=>rw[h1] at h;cases h;rfl
   | false=>
    rw[h1] at h;simp only[Abk,Aby] at h
    cases h2:J1 c with
    | false=>rw[h2] at h;cases h
    | true=>
     rw[h2] at h;simp only[Abw,Abk] at h
     cases h3:decide (c=92) with
     | true=>
      rw[h3] at h
      cases r with
      | nil=>cases h
      | cons d r'=>
       simp only[Abr] at h
       cases h4:(decide (d=34)||decide (d=92)) with
       | false=>rw[h4] at h;cases h
       | true=>
        rw[h4] at h;simp only[Abr] at h
        cases h5:C8 true r' with
        | none=>rw[h5] at h;cases h
        | some q=>
         obtain⟨t',u'⟩:=q;rw[h5] at h;cases h;simp only[Abl] at hn;have:=ih r'.length (by omega) r' t' u rfl h5;have hd:J1 d=true:=by
          simp only[AbQ,Abh] at h4;rcases h4 with e | e<;>subst e<;>rfl
         simp[hd,this]
     | false=>
      rw[h3] at h;simp only[Abk] at h
      cases h5:C8 true r with
      | none=>rw[h5] at h;cases h
      | some q=>
       obtain⟨t',u'⟩:=q;rw[h5] at h;cases h;have:=ih r.length (by omega) r t' u rfl h5;simp[h2,this]
theorem XS {c:UInt8}:(decide ((c.toNat:Int)<32)||decide (126<(c.toNat:Int))) = !J1 c:=by
 unfold J1;rw[Abz];simp only[AbQ,Abh,Ab0,AbZ,Abi];omega
theorem YR (c:UInt8):decide ((c.toNat:Int)=34)=decide (c=34):=by
 rw[Abz,decide_eq_true_iff,decide_eq_true_iff,← Acf];show _↔c.toNat=34;omega
theorem YQ (c:UInt8):decide ((c.toNat:Int)=92)=decide (c=92):=by
 rw[Abz,decide_eq_true_iff,decide_eq_true_iff,← Acf];show _↔c.toNat=92;omega
theorem Vl (A:Ag)(c:UInt8):CC A++([(c.toNat:Int)]:List Int)=CC (A++[c]):=by simp[CC]
theorem Tw {S:Ag}{cs:List Aa}{g b:Bool}{p:Int}(hS:S.length≤100000):∀(n L:Nat) (u A:Ag),u.length=n→GV u S→n<L→A.length≤S.length-n→
  ∃o,BE (λσ=>DT (b,⟨S,p,cs,g⟩) σ.1 σ.2) L (CC A,(S.length:Int)-u.length)=some o∧((∃t w,C8 true u=some (t,w)∧GV w S∧By (λν=>Hy (b,⟨S,p,cs,g⟩) ν) o=some (A++t,true,CY S w cs g))∨(C8 true u=none∧∃q',By (λν=>Hy (b,⟨S,p,cs,g⟩) ν) o=some ([],false,q'))):=by
 intro n
 induction n using Nat.strongRecOn with
 | ind n ih=>
  intro L u A hn hs hL hA;obtain⟨L,rfl⟩:∃K,L=K+1:=⟨L-1,by omega⟩
  have hsl:=hs.len
  cases u with
  | nil=>
   have hgo:DT (b,⟨S,p,cs,g⟩) (CC A) ((S.length:Int)-([]:Ag).length)=some (.out (.go ((S.length:Int)-([]:Ag).length))):=by
    unfold DT;rw[As (Abj (by simp))]
   exact⟨_,Dy hgo,.inr ⟨rfl,_,rfl⟩⟩
  | cons c r=>
   have hb:Ba S ((S.length:Int)-(c::r).length)=c.toNat:=Gt hs.get;have hpos:(S.length:Int)-(c::r).length+1=S.length-r.length:=by rw[Abl];omega
   simp only[Abl] at hn hsl;have hlt:(S.length:Int)-(c::r).length<S.length:=by rw[Abl];omega
   have h0:0≤(S.length:Int)-(c::r).length:=by rw[Abl];omega
   have hb1:DT (b,⟨S,p,cs,g⟩) (CC A) ((S.length:Int)-(c::r).length)=AV (decide (c=34)) (some (.out (.ret (A,true,CY S r cs g)))) (AV (!J1 c) (some (.out (.ret ([],false,CY S r cs g)))) (AV (decide (c=92)) (AR (imp (!(decide ((S.length:Int)≤S.length-r.length))) (CG (S.length-r.length) (S.length:Int)))<|AV (((decide ((S.length:Int)≤S.length-r.length))||((!decide ((Ba S (S.length-r.length))=34))&&(!decide ((Ba S (S.length-r.length))=92))))) (some (.out (.ret ([],false,CY S r cs g)))) (AR (CG (S.length-r.length) (S.length:Int))<|AR (B7 .i64 (((S.length:Int)-r.length)+1))<|Er (CC A) (Ba S (S.length-r.length)) (((S.length:Int)-r.length)+1))) (Er (CC A) (c.toNat:Int) ((S.length:Int)-r.length)))):=by
    unfold DT;simp only;rw[AA (Abm hlt),AQ h0 hlt,hb,hpos,A6 (by omega) (by omega),YR,YQ,XS,VK];rfl
   have hj:∀(x:UInt8) (y:Int),Er (CC A) (x.toNat:Int) y=some (.next (CC (A++[x]),y)):=λx y=>by
    unfold Er;rw[CI (by simp[CC];omega),Vl]
   rw[Dq]
   cases h1:decide (c=34) with
   | true=>
    rw[h1] at hb1;exact⟨.ret (A,true,CY S r cs g),Dy hb1,.inl ⟨[],r,rfl,hs.tail,by rw[Nd,AbK]⟩⟩
   | false=>
    rw[h1,As rfl] at hb1;simp only[Abk,Aby]
    cases h2:J1 c with
    | false=>
     rw[h2,AA (p:=!false) rfl] at hb1;exact⟨_,Dy hb1,.inr ⟨rfl,_,rfl⟩⟩
    | true=>
     rw[h2,As (p:=!true) rfl] at hb1;simp only[Abw,Abk]
     cases h3:decide (c=92) with
     | true=>
      rw[h3,AA rfl] at hb1
      cases r with
      | nil=>
       have e:decide ((S.length:Int)≤S.length-([]:Ag).length)=true:=by simp
       rw[e,B9 (p:=imp (!true) _) rfl,AA (p:=true||_) rfl] at hb1;exact⟨_,Dy hb1,.inr ⟨rfl,_,rfl⟩⟩
      | cons d r'=>
       simp only[Abl] at hn hsl;have hbd:Ba S ((S.length:Int)-(d::r').length)=d.toNat:=Gt hs.tail.get;have hlt2:(S.length:Int)-(d::r').length<S.length:=by rw[Abl];omega
       have ha:0≤(S.length:Int)-(d::r').length:=by rw[Abl];omega
       have hpos2:(S.length:Int)-(d::r').length+1=S.length-r'.length:=by rw[Abl];omega
       have e:decide ((S.length:Int)≤S.length-(d::r').length)=false:=Abj (by omega);rw[e,Px ha hlt2,hbd,hpos2,YR,YQ,B9 (p:=imp (!false) true) rfl] at hb1;simp only[Abr]
       cases h4:(decide (d=34)||decide (d=92)) with
       | false=>
        have e4:(false||(!decide (d=34)&&!decide (d=92)))=true:=by rw[← Bool.not_or,h4];rfl
        rw[AA e4] at hb1;exact⟨_,Dy hb1,.inr ⟨rfl,_,rfl⟩⟩
       | true=>
        have e4:(false||(!decide (d=34)&&!decide (d=92)))=false:=by rw[← Bool.not_or,h4];rfl
        rw[As e4,B9 rfl,A6 (by omega) (by omega),hj] at hb1;obtain⟨o,ho1,ho2⟩:=ih r'.length (by omega) L r' (A++[d]) rfl hs.tail.tail (by omega) (by rw[HP];omega);refine⟨o,HD hb1 ho1,?_⟩;simp only[Abr];rcases ho2 with⟨t,w,q1,q2,q3⟩ | ⟨q1,q2⟩
        ·rw[q1];exact .inl ⟨d::t,w,rfl,q2,by rw[q3];simp⟩
        ·rw[q1];exact .inr ⟨rfl,q2⟩
     | false=>
      rw[h3,As rfl,hj] at hb1;obtain⟨o,ho1,ho2⟩:=ih r.length (by omega) L r (A++[c]) rfl hs.tail (by omega) (by rw[HP];omega);refine⟨o,HD hb1 ho1,?_⟩;simp only[Abk];rcases ho2 with⟨t,w,q1,q2,q3⟩ | ⟨q1,q2⟩
      ·rw[q1];exact .inl ⟨c::t,w,rfl,q2,by rw[q3];simp⟩
      ·rw[q1];exact .inr ⟨rfl,q2⟩
theorem PR {F:Nat}{S u:Ag}{cs:List Aa}{g:Bool}(hS:S.length≤100000)(h:GV u S)(hF:S.length<F) :
  (∃r t w,u=34::r∧C8 true r=some (t,w)∧GV w S∧MI F (CY S u cs g)=some (t,true,CY S w cs g))∨((∀r,u=34::r→C8 true r=none)∧∃q',MI F (CY S u cs g)=some ([],false,q')):=by
 unfold MI;rw[C4 hS h,K8]
 cases u with
 | nil=>exact .inr ⟨(λr e=>by cases e),_,rfl⟩
 | cons c r=>
  simp only
  cases hc:decide (c=34) with
  | false=>
   simp only[Abi] at hc;exact .inr ⟨(λr' e=>by cases e;exact absurd rfl hc),_,rfl⟩
  | true=>
   simp only[Abh] at hc;subst hc;have hl:=h.len;simp only[Abl] at hl;simp only[Abr];rw[A8 rfl,As (p:=!true) rfl];obtain⟨o,ho1,ho2⟩:=Tw (b:=true) (cs:=cs) (g:=g) (p:=(S.length:Int)-r.length) hS r.length F r [] rfl h.tail (by omega) (AbS _);have ho1':BE (λσ=>DT (true,CY S r cs g) σ.1 σ.2) F ([],(S.length:Int)-r.length)=some o:=ho1;rw[show(true,CY S r cs g).2.fAt=(S.length:Int)-r.length from rfl,A8 ho1'];rcases ho2 with⟨t,w,q1,q2,q3⟩ | ⟨q1,q',q2⟩
   ·exact .inl ⟨r,t,w,rfl,q1,q2,q3⟩
   ·exact .inr ⟨(λr' e=>by cases e;exact q1),q',q2⟩
def Cz (c:Aa):Aa:=bif BG c then⟨3,0,[],0⟩ else c
theorem KZ:∀s:Ag,(Cs s).1.all BM=true
 | []=>rfl
 | c::r=>by
  rw[Cs]
  cases h:BM c with
  | true=>simp only[Abr,AbH,h,KZ r];rfl
  | false=>rfl
theorem Y7 {c:UInt8}:(decide (48≤(c.toNat:Int))&&decide ((c.toNat:Int)≤57))=BM c:=by
 unfold BM;rw[Abz];simp only[Abp,Abh];omega
theorem Og {S:Ag}{cs:List Aa}{g b:Bool}{p:Int}(hS:S.length≤100000):∀(u:Ag) (L:Nat),GV u S→u.length<L→
  BE (λσ=>DU (b,⟨S,p,cs,g⟩) σ) L ((S.length:Int)-u.length)=some (.go ((S.length:Int)-(Cs u).2.length))
 | [],L,hs,hL=>by
  obtain⟨L,rfl⟩:∃K,L=K+1:=⟨L-1,by omega⟩
  refine Dy ?_;show DU _ _=_;unfold DU;have e:decide ((S.length:Int)-([]:Ag).length<(S.length:Int))=false:=by simp
  simp only;rw[e,B9 (p:=imp false _) rfl,As (p:=false&&_) rfl];rfl
 | c::r,L,hs,hL=>by
  obtain⟨L,rfl⟩:∃K,L=K+1:=⟨L-1,by omega⟩
  have hsl:=hs.len;have hb:Ba S ((S.length:Int)-(c::r).length)=c.toNat:=Gt hs.get;have hpos:(S.length:Int)-(c::r).length+1=S.length-r.length:=by rw[Abl];omega
  simp only[Abl] at hsl hL;have hlt:(S.length:Int)-(c::r).length<S.length:=by rw[Abl];omega
  have h0:0≤(S.length:Int)-(c::r).length:=by rw[Abl];omega
  have hb1:DU (b,⟨S,p,cs,g⟩) ((S.length:Int)-(c::r).length)=AV (BM c) (some (.next ((S.length:Int)-r.length))) (some (.out (.go ((S.length:Int)-(c::r).length)))):=by
   unfold DU;simp only;rw[Abm hlt,Px h0 hlt,B9 (p:=imp true true) rfl,hb,Y7,hpos,A6 (by omega) (by omega),Aby]
  rw[Cs]
  cases hd:BM c with
  | true=>
   rw[hd] at hb1;exact HD hb1 (Og hS r L hs.tail (by omega))
  | false=>
   rw[hd] at hb1;exact Dy hb1
theorem PT {F:Nat}{S u:Ag}{cs:List Aa}{g:Bool}(hS:S.length≤100000)(h:GV u S)(hF:S.length<F)(hcs:cs.length≤100000) :
  (∃f w,HF u=some (f,w)∧GV w S∧MJ F (CY S u cs g)=some (true,CY S w (cs++f.flat.map Cz) (g||f.flat.any BG)))∨(HF u=none∧∃q',MJ F (CY S u cs g)=some (false,q')):=by
 have hl:=h.len;have hneg:∃neg r b,neg=decide (u.head? =some 45)∧r=(bif neg then u.tail else u)∧D5 (CY S u cs g) [45]=some (b,CY S r cs g)∧u=(bif neg then 45::r else r):=by
  rw[C4 hS h,K8]
  cases u with
  | nil=>exact⟨false,[],false,rfl,rfl,rfl,rfl⟩
  | cons c r=>
   simp only[List.head?_cons,Option.some.injEq]
   cases hc:decide (c=45) with
   | true=>simp only[Abh] at hc;subst hc;exact⟨true,r,true,rfl,rfl,rfl,rfl⟩
   | false=>exact⟨false,c::r,false,rfl,rfl,rfl,rfl⟩
 obtain⟨neg,r,b,e1,e2,e3,e4⟩:=hneg;have hr:GV r S:=by
  rw[e4] at h
  cases neg with
  | true=>exact h.tail
  | false=>exact h
 have hrl:=hr.len;have hd:=KZ r;have hsplit:=M6 r;have hlen:r.length=(Cs r).1.length+(Cs r).2.length:=by conv=>lhs;rw[hsplit,Abq]
 have hw:GV (Cs r).2 S:=by rw[hsplit] at hr;exact hr.app
 have hut:u=Gm neg (Cs r).1++(Cs r).2:=by
  rw[e4]
  cases neg with
  | true=>show 45::r=45::((Cs r).1++(Cs r).2);rw[← hsplit]
  | false=>exact hsplit
 have hul:u.length=(Gm neg (Cs r).1).length+(Cs r).2.length:=by conv=>lhs;rw[hut,Abq]
 have hslice:List.take (Int.toNat ((S.length:Int)-(Cs r).2.length)-Int.toNat ((S.length:Int)-u.length)) (List.drop (Int.toNat ((S.length:Int)-u.length)) S)=Gm neg (Cs r).1:=by
  rw[h.drop,show Int.toNat ((S.length:Int)-(Cs r).2.length)-Int.toNat ((S.length:Int)-u.length)=(Gm neg (Cs r).1).length from by omega]
  conv=>lhs;rw[hut]
  rw[List.take_left]
 have hlop:BE (λσ=>DU (b,CY S r cs g) σ) F ((S.length:Int)-r.length)=some (.go ((S.length:Int)-(Cs r).2.length)):=Og hS r F hr (by omega);have hrun:MJ F (CY S u cs g)=AV (((decide ((BD (Gm neg (Cs r).1))=1))||(decide ((S.length:Int)-r.length=(S.length:Int)-(Cs r).2.length)))) (some (false,CY S (Cs r).2 cs g)) (some (true,CY S (Cs r).2 (cs++[⟨3,Bm (Gm neg (Cs r).1),[],0⟩]) (g||!decide (BD (Gm neg (Cs r).1)=0)))):=by
  unfold MJ;rw[e3,A8 rfl,show(b,CY S r cs g).2.fAt=(S.length:Int)-r.length from rfl,A8 hlop,Dx];unfold I5;rw[show(CY S u cs g).fAt=(S.length:Int)-u.length from rfl,show(b,CY S r cs g).2.fS=S from rfl,show(b,CY S r cs g).2.fAt=(S.length:Int)-r.length from rfl,BO (by omega) (by omega),BO (by omega) (by omega),hslice,CI (by omega),B9 (p:=Dw 40 _) (Abm (by
   show(cs.length+1)*40≤140737488355328;omega))]
  rfl
 rw[hrun];unfold HF;simp only;rw[← e1,← e2];rcases TL (neg:=neg) hd with⟨p1,p2⟩ | ⟨p1,p2,p3,p4⟩ | ⟨p1,p2,p3,p4⟩
 ·rw[p1,p2];exact .inr ⟨rfl,_,rfl⟩
 ·have hne:(Cs r).1≠[]:=by
   intro e;rw[e] at p1
   cases neg<;>cases p1
  have hpos:0<(Cs r).1.length:=List.length_pos_iff.2 hne;rw[p1,p3,p4,Abj (show ¬ (S.length:Int)-r.length=(S.length:Int)-(Cs r).2.length by omega)];refine .inl ⟨_,_,rfl,hw,?_⟩;simp[Fo.flat,Bd,Cz,p2,AV]
 ·have hne:(Cs r).1≠[]:=by
   intro e;rw[e] at p1
   cases neg<;>cases p1
  have hpos:0<(Cs r).1.length:=List.length_pos_iff.2 hne;rw[p1,p3,p4,Abj (show ¬ (S.length:Int)-r.length=(S.length:Int)-(Cs r).2.length by omega)];refine .inl ⟨_,_,rfl,hw,?_⟩;simp[Fo.flat,Bd,Cz,p2,AV]
def Vw (strict:Bool)(s:Ag):Option (Fo×Ag):=
 match pre [110,117,108,108] s with
 | some r=>some (lf 1 0 [],r)
 | none=>match pre [116,114,117,101] s with
  | some r=>some (lf 2 1 [],r)
  | none=>match pre [102,97,108,115,101] s with
   | some r=>some (lf 2 0 [],r)
   | none=>match s with
    | []=>none
    | c::r=>bif decide (c=34) then(match C8 strict r with
     | none=>none
     | some (t,u)=>some (lf 4 0 t,u)) else HF (c::r)
theorem VD (b:Bool)(F:Nat){s:Ag}(h:∀c r,s=c::r→(decide (c=91)||decide (c=123))=false):EE b (F+1) s=Vw b s:=by
 rw[Dn];unfold Vw
 cases pre [110,117,108,108] s with
 | some r=>rfl
 | none=>
 cases pre [116,114,117,101] s with
 | some r=>rfl
 | none=>
 cases pre [102,97,108,115,101] s with
 | some r=>rfl
 | none=>
 cases s with
 | nil=>rfl
 | cons c r=>
  simp only;rw[h c r rfl];rfl
theorem PS {F:Nat}{S u:Ag}{cs:List Aa}{g:Bool}(hS:S.length≤100000)(h:GV u S)(hF:S.length<F)(hcs:cs.length≤100000) :
  (∃f w,Vw true u=some (f,w)∧GV w S∧Hz F (CY S u cs g)=some (true,CY S w (cs++f.flat.map Cz) (g||f.flat.any BG)))∨(Vw true u=none∧∃q',Hz F (CY S u cs g)=some (false,q')):=by
 have hA:∀c:Aa,Dw 40 (cs.length+([c]:List Aa).length)=true:=λc=>Abm (by show(cs.length+1)*40≤140737488355328;omega);unfold Hz Vw;rw[C4 hS h]
 cases h1:pre [110,117,108,108] u with
 | some r=>
  have hr:GV r S:=by rw[Dh h1] at h;exact h.app
  refine .inl ⟨_,r,rfl,hr,?_⟩;simp only;rw[A8 rfl,AA rfl];show AR (Dw 40 (cs.length+([⟨1,0,[],0⟩]:List Aa).length)) (some (true,CY S r (cs++[⟨1,0,[],0⟩]) g))=_;rw[B9 (hA _)];simp[lf,Fo.flat,Bd,Cz,BG]
 | none=>
 simp only;rw[A8 rfl,As rfl,show(false,CY S u cs g).2=CY S u cs g from rfl,C4 hS h]
 cases h2:pre [116,114,117,101] u with
 | some r=>
  have hr:GV r S:=by rw[Dh h2] at h;exact h.app
  refine .inl ⟨_,r,rfl,hr,?_⟩;simp only;rw[A8 rfl,AA rfl];show AR (Dw 40 (cs.length+([⟨2,1,[],0⟩]:List Aa).length)) (some (true,CY S r (cs++[⟨2,1,[],0⟩]) g))=_;rw[B9 (hA _)];simp[lf,Fo.flat,Bd,Cz,BG]
 | none=>
 simp only;rw[A8 rfl,As rfl,show(false,CY S u cs g).2=CY S u cs g from rfl,C4 hS h]
 cases h3:pre [102,97,108,115,101] u with
 | some r=>
  have hr:GV r S:=by rw[Dh h3] at h;exact h.app
  refine .inl ⟨_,r,rfl,hr,?_⟩;simp only;rw[A8 rfl,AA rfl];show AR (Dw 40 (cs.length+([⟨2,0,[],0⟩]:List Aa).length)) (some (true,CY S r (cs++[⟨2,0,[],0⟩]) g))=_;rw[B9 (hA _)];simp[lf,Fo.flat,Bd,Cz,BG]
 | none=>
 have hl:=h.len;simp only;rw[A8 rfl,As rfl,show(false,CY S u cs g).2=CY S u cs g from rfl,show(CY S u cs g).fAt=(S.length:Int)-u.length from rfl,show(CY S u cs g).fS=S from rfl,BO (by omega) (by omega),h.drop,KQ,A8 rfl,K8]
 cases u with
 | nil=>
  simp only;rw[As (p:=(none:Option Ag).isSome) rfl];rcases PT (g:=g) hS h hF hcs with⟨f,w,q1,q2,q3⟩ | ⟨q1,q',q2⟩
  ·exact absurd (Ny q1) (by simp)
  ·rw[q2];exact .inr ⟨trivial,_,rfl⟩
 | cons c r=>
  simp only
  cases hc:decide (c=34) with
  | true=>
   simp only[Abr];rw[AA (p:=(some r).isSome) rfl];simp only[Abh] at hc;subst hc;rcases PR (cs:=cs) (g:=g) hS h hF with⟨r',t,w,q1,q2,q3,q4⟩ | ⟨q1,q',q2⟩
   ·cases q1
    rw[q2,q4,A8 rfl,As (p:=!true) rfl];refine .inl ⟨_,w,rfl,q3,?_⟩;simp only;show AR (Dw 40 (cs.length+([⟨4,0,t,0⟩]:List Aa).length)) (some (true,CY S w (cs++[⟨4,0,t,0⟩]) g))=_;rw[B9 (hA _)];simp[lf,Fo.flat,Bd,Cz,BG]
   ·rw[q1 r rfl,q2,A8 rfl];exact .inr ⟨rfl,_,rfl⟩
  | false=>
   simp only[Abk];rw[As (p:=(none:Option Ag).isSome) rfl];rcases PT (g:=g) hS h hF hcs with⟨f,w,q1,q2,q3⟩ | ⟨q1,q',q2⟩
   ·rw[q3,A8 rfl];exact .inl ⟨f,w,q1,q2,rfl⟩
   ·rw[q2,A8 rfl];exact .inr ⟨q1,_,rfl⟩
theorem S7 {f:Fo}(h:f.one=true)(key:Option Ag)(r:Fo):(f.put key r).cnt=r.cnt+1:=by
 cases f with
 | nil=>cases h
 | cell _ _ _=>rfl
 | node _ _ _ _=>rfl
theorem Jl (m:Bool)(g:Fo)(h:g.cnt=0→g = .nil):(nd m g).flat=⟨bif m then 6 else 5,0,[],(g.cnt:Int)⟩::g.flat:=by
 unfold nd
 cases hd:decide (g.cnt=0) with
 | true=>
  simp only[Abh] at hd;rw[h hd];rfl
 | false=>simp[Fo.flat,Bd]
theorem Ii {g:Fo}(h:g.cnt=0):g = .nil:=by
 cases g with
 | nil=>rfl
 | cell _ _ _=>simp[Fo.cnt] at h
 | node _ _ _ _=>simp[Fo.cnt] at h
theorem Uj {b m:Bool}{last key:Option Ag}{s u:Ag}(h:Ef b m last s=some (key,u)):(Bd key).length+u.length≤s.length:=by
 unfold Ef at h
 cases m with
 | false=>cases h;simp[Bd]
 | true=>
  simp only[Abr] at h
  cases s with
  | nil=>cases h
  | cons c r=>
   simp only at h
   cases h1:decide (c=34) with
   | false=>rw[h1] at h;cases h
   | true=>
    rw[h1] at h;simp only[Abr] at h
    cases h2:C8 b r with
    | none=>rw[h2] at h;cases h
    | some q=>
     obtain⟨k,w⟩:=q;have:=I8 b _ r k w rfl h2;rw[h2] at h;simp only at h
     cases h3:(b&&!Bp true last (some k)) with
     | true=>rw[h3] at h;cases h
     | false=>
      rw[h3] at h;simp only[Abk] at h
      cases w with
      | nil=>cases h
      | cons d w'=>
       simp only at h
       cases h4:decide (d=58) with
       | false=>rw[h4] at h;cases h
       | true=>rw[h4] at h;cases h;simp only[Abl,Bd,AbX] at this ⊢;omega
theorem H8 (b:Bool):∀F:Nat,(∀s f u,EE b F s=some (f,u)→f.flat.length+u.length≤s.length)∧(∀m last s g u,Do b F m last s=some (g,u)→g.flat.length+u.length+1≤s.length)
 | 0=>⟨(λs f u h=>by rw[EE.eq_def] at h;cases h),(λm last s g u h=>by rw[Do.eq_def] at h;cases h)⟩
 | F+1=>by
  obtain⟨ih1,ih2⟩:=H8 b F;have lfl:∀k i t,(lf k i t).flat.length=1:=λ_ _ _=>rfl;constructor
  ·intro s f u h;rw[Dn] at h
   cases h1:pre [110,117,108,108] s with
   | some r=>rw[h1] at h;cases h;rw[Dh h1,lfl];simp;omega
   | none=>
   rw[h1] at h;simp only at h
   cases h2:pre [116,114,117,101] s with
   | some r=>rw[h2] at h;cases h;rw[Dh h2,lfl];simp;omega
   | none=>
   rw[h2] at h;simp only at h
   cases h3:pre [102,97,108,115,101] s with
   | some r=>rw[h3] at h;cases h;rw[Dh h3,lfl];simp;omega
   | none=>
   rw[h3] at h;simp only at h
   cases s with
   | nil=>cases h
   | cons c r=>
   simp only at h
   cases h4:decide (c=34) with
   | true=>
    rw[h4] at h;simp only[Abr] at h
    cases h5:C8 b r with
    | none=>rw[h5] at h;cases h
    | some q=>
     obtain⟨t,w⟩:=q;rw[h5] at h;cases h;have:=I8 b _ r t u rfl h5;rw[lfl];simp only[Abl];omega
   | false=>
   rw[h4] at h;simp only[Abk] at h
   cases h5:(decide (c=91)||decide (c=123)) with
   | false=>
    rw[h5] at h;simp only[Abk] at h;have h6:=Ny h;have h7:f.flat.length=1:=by
     unfold HF at h;simp only at h
     cases hc:Eo (decide ((c::r).head? =some 45)) (Cs (bif decide ((c::r).head? =some 45) then(c::r).tail else c::r)).1 with
     | false=>rw[hc] at h;cases h
     | true=>rw[hc] at h;cases h;rfl
    omega
   | true=>
   rw[h5] at h;simp only[Abr] at h
   cases r with
   | nil=>cases h
   | cons d r'=>
   simp only at h
   cases h6:decide (d=BJ (decide (c=123))) with
   | true=>rw[h6] at h;cases h;rw[Jl _ _ Ii];simp[Fo.flat];omega
   | false=>
   rw[h6] at h;simp only[Abk] at h
   cases h7:Do b F (decide (c=123)) none (d::r') with
   | none=>rw[h7] at h;cases h
   | some q=>
    obtain⟨g,w⟩:=q;rw[h7] at h;cases h;have:=ih2 _ _ _ _ _ h7;rw[Jl _ _ Ii];simp only[Abl] at this ⊢;omega
  ·intro m last s g u h;rw[CX] at h
   cases h1:Ef b m last s with
   | none=>rw[h1] at h;cases h
   | some q=>
   obtain⟨key,s1⟩:=q;have l1:=Uj h1;rw[h1] at h;simp only at h
   cases h2:EE b F s1 with
   | none=>rw[h2] at h;cases h
   | some q=>
   obtain⟨f,s2⟩:=q;have l2:=ih1 _ _ _ h2;have o2:=((Ea b F).1 _ _ _ h2).2;rw[h2] at h;simp only at h
   cases s2 with
   | nil=>cases h
   | cons c s3=>
   simp only[Abl] at l2;simp only at h
   cases h3:decide (c=BJ m) with
   | true=>rw[h3] at h;cases h;rw[Et o2,Abq,Abq];simp only[Fo.flat,AbX];omega
   | false=>
   rw[h3] at h;simp only[Abk] at h
   cases h4:decide (c=44) with
   | false=>rw[h4] at h;cases h
   | true=>
   rw[h4] at h;simp only[Abr] at h
   cases h5:Do b F m key s3 with
   | none=>rw[h5] at h;cases h
   | some q=>
    obtain⟨g',w⟩:=q;rw[h5] at h;cases h;have:=ih2 _ _ _ _ _ h5;rw[Et o2,Abq,Abq];omega
theorem Sw {α:Type}(xs D:List α)(a b:α):List.set (xs++a::D) (Int.toNat (xs.length:Int)) b=xs++b::D:=by
 rw[show Int.toNat (xs.length:Int)=xs.length from by omega,List.set_append_right _ _ (Ab3 _)];simp
theorem Xq {α:Type}[Inhabited α](xs D:List α)(a:α):Ap (xs++a::D) (xs.length:Int)=a:=by simp[Ap]
def VOk (F P:Nat)(S u:Ag)(cs:List Aa)(g:Bool):Prop:=
 (∃f w,EE true P u=some (f,w)∧GV w S∧Cc F (CY S u cs g)=some (true,CY S w (cs++f.flat.map Cz) (g||f.flat.any BG)))∨(EE true P u=none∧∃q',Cc F (CY S u cs g)=some (false,q'))
abbrev YH (F:Nat)(x16:List Aa):Int×Ag×Int×List Aa×Bool→Option (Stp (Int×Ag×Int×List Aa×Bool) (Out (Bool×Ak) Unit)):=λσ=>Ed (Cc F) x16 σ.1 σ.2.1 σ.2.2.1 σ.2.2.2.1 σ.2.2.2.2
abbrev YX (F:Nat)(x16:List Aa):Ag×Int×Ag×Int×List Aa×Bool→Option (Stp (Ag×Int×Ag×Int×List Aa×Bool) (Out (Bool×Ak) Unit)):=λσ=>Ec F (Cc F) x16 σ.1 σ.2.1 σ.2.2.1 σ.2.2.2.1 σ.2.2.2.2.1 σ.2.2.2.2.2
def UL (P:Nat)(m:Bool)(last:Option Ag)(S u:Ag)(x16 D:List Aa)(k:Int)(g:Bool)(o:Out (Bool×Ak) Unit):Prop:=
 (∃G w,Do true P m last u=some (G,w)∧GV w S∧o = .ret (true,CY S w (x16++⟨bif m then 6 else 5,0,[],k-1+(G.cnt:Int)⟩::(D++G.flat.map Cz)) (g||G.flat.any BG)))∨(Do true P m last u=none∧∃q',o = .ret (false,q'))
theorem Yy (k:Option Ag):(Bd k).map Cz=Bd k∧(Bd k).any BG=false:=by
 cases k with
 | none=>exact⟨rfl,rfl⟩
 | some s=>exact⟨by simp[Bd,Cz,BG],by simp[Bd,BG]⟩
theorem UL.join {P:Nat}{m:Bool}{last key:Option Ag}{S u s1 s2:Ag}{x16 D:List Aa}{k:Int}{g:Bool}{o:Out (Bool×Ak) Unit}{f:Fo}(hk:Ef true m last u=some (key,s1))(hf:EE true P s1=some (f,s2))(ho:f.one=true)
  (h:(∃s3,s2=BJ m::s3∧GV s3 S∧o = .ret (true,CY S s3 (x16++⟨bif m then 6 else 5,0,[],k⟩::(D++(Bd key++f.flat.map Cz))) (g||f.flat.any BG)))∨(∃s3,s2=44::s3∧UL P m key S s3 x16 (D++(Bd key++f.flat.map Cz)) (k+1) (g||f.flat.any BG) o)∨((∀c s3,s2=c::s3→decide (c=BJ m)=false∧decide (c=44)=false)∧∃q',o = .ret (false,q'))):UL (P+1) m last S u x16 D k g o:=by
 obtain⟨fk1,fk2⟩:=Yy key;unfold UL;rw[CX,hk];simp only[hf];have ha:decide ((44:UInt8)=BJ m)=false:=by cases m<;>rfl
 rcases h with⟨s3,rfl,h1,h2⟩ | ⟨s3,rfl,h⟩ | ⟨h1,h2⟩
 ·simp only[decide_true,Abr];refine .inl ⟨_,s3,rfl,h1,?_⟩;rw[h2,S7 ho,Et ho];simp only[Fo.flat,Fo.cnt,AbK,Ack,List.any_append,fk1,fk2,Ab5]
  congr 6
  omega
 ·simp only[ha,Abk,decide_true,Abr];rcases h with⟨G,w,q1,q2,q3⟩ | ⟨q1,q2⟩
  ·rw[q1];refine .inl ⟨_,w,rfl,q2,?_⟩;rw[q3,S7 ho,Et ho];simp only[Ack,List.any_append,fk1,fk2,Ab5,Bool.or_assoc,Ab2]
   congr 6
   omega
  ·rw[q1];exact .inr ⟨rfl,q2⟩
 ·refine .inr ⟨?_,h2⟩
  cases s2 with
  | nil=>rfl
  | cons c s3=>
   obtain⟨a,b⟩:=h1 c s3 rfl;simp only[a,b,Abk]
theorem M0 (S u:Ag)(cs:List Aa)(g:Bool):Ak.mk S ((S.length:Int)-u.length) cs g=CY S u cs g:=rfl
theorem Mz {o:Out (Bool×Ak) Unit}{r:Bool×Ak}{K:Unit→Option (Bool×Ak)}(h:o = .ret r):By K o=some r:=by rw[h];rfl
theorem Tf {α:Type}{n:Nat}{x:Option α}(h:n≤1000000):AR (Dw 40 n) x=x:=B9 (Abm (by omega))
theorem RM {F P:Nat}{S u:Ag}{x16 D:List Aa}{k:Int}{g:Bool}(hS:S.length≤100000)(hs:GV u S)(hk1:1≤k)(hk2:k≤200000)(hV:VOk F P S u (x16++⟨5,0,[],k-1⟩::D) g) :
  (∃q',YH F x16 (k,S,(S.length:Int)-u.length,x16++⟨5,0,[],k-1⟩::D,g)=some (.out (.ret (false,q')))∧(EE true P u=none∨∃f s2,EE true P u=some (f,s2)∧∀c s3,s2=c::s3→decide (c=BJ false)=false∧decide (c=44)=false))∨
  ∃f s2,EE true P u=some (f,s2)∧GV s2 S∧((∃s3,s2=BJ false::s3∧YH F x16 (k,S,(S.length:Int)-u.length,x16++⟨5,0,[],k-1⟩::D,g)=some (.out (.ret (true,CY S s3 (x16++⟨5,0,[],k⟩::(D++f.flat.map Cz)) (g||f.flat.any BG)))))∨
   (∃s3,s2=44::s3∧YH F x16 (k,S,(S.length:Int)-u.length,x16++⟨5,0,[],k-1⟩::D,g)=some (.next (k+1,S,(S.length:Int)-s3.length,x16++⟨5,0,[],k⟩::(D++f.flat.map Cz),g||f.flat.any BG)))):=by
 have hb:YH F x16 (k,S,(S.length:Int)-u.length,x16++⟨5,0,[],k-1⟩::D,g)=Ed (Cc F) x16 k S ((S.length:Int)-u.length) (x16++⟨5,0,[],k-1⟩::D) g:=rfl;rw[hb];unfold Ed;rw[M0];rcases hV with⟨f,s2,q1,q2,q3⟩ | ⟨q1,q',q2⟩
 ·have ec:(x16++⟨5,0,[],k-1⟩::D)++f.flat.map Cz=x16++⟨5,0,[],k-1⟩::(D++f.flat.map Cz):=by simp
  rw[ec] at q3;rw[q3,A8 rfl,As (p:=!true) rfl];have hin:CG (x16.length:Int) (((x16++(⟨5,0,[],k-1⟩:Aa)::(D++f.flat.map Cz)).length:Nat):Int)=true:=Px (by omega) (by rw[Abq,Abl];omega);have e1:(true,CY S s2 (x16++⟨5,0,[],k-1⟩::(D++f.flat.map Cz)) (g||f.flat.any BG)).2.fCells=x16++⟨5,0,[],k-1⟩::(D++f.flat.map Cz):=rfl;rw[e1,B9 hin,Xq,Sw,E6];have e2:Ak.mk (true,CY S s2 (x16++⟨5,0,[],k-1⟩::(D++f.flat.map Cz)) (g||f.flat.any BG)).2.fS (true,CY S s2 (x16++⟨5,0,[],k-1⟩::(D++f.flat.map Cz)) (g||f.flat.any BG)).2.fAt (x16++⟨5,0,[],k⟩::(D++f.flat.map Cz)) (true,CY S s2 (x16++⟨5,0,[],k-1⟩::(D++f.flat.map Cz)) (g||f.flat.any BG)).2.fGreat=CY S s2 (x16++⟨5,0,[],k⟩::(D++f.flat.map Cz)) (g||f.flat.any BG):=rfl;rw[e2,C4 hS q2,K8]
  cases s2 with
  | nil=>
   simp only;rw[A8 rfl,As rfl,C4 hS q2,K8];exact .inl ⟨_,rfl,.inr ⟨f,[],q1,λc s3 e=>by cases e⟩⟩
  | cons c s3=>
   simp only
   cases ha:decide (c=93) with
   | true=>
    simp only[Abh] at ha;subst ha;exact .inr ⟨f,_,q1,q2,.inl ⟨s3,rfl,rfl⟩⟩
   | false=>
    simp only[Abk];rw[A8 rfl,As rfl,C4 hS q2,K8];simp only
    cases hd:decide (c=44) with
    | true=>
     simp only[Abh] at hd;subst hd;simp only[Abr];rw[A8 rfl,As (p:=!true) rfl,A6 (by omega) (by omega)];exact .inr ⟨f,_,q1,q2,.inr ⟨s3,rfl,rfl⟩⟩
    | false=>
     exact .inl ⟨_,rfl,.inr ⟨f,_,q1,λc' s3' e=>by cases e;exact⟨ha,hd⟩⟩⟩
 ·rw[q2,A8 rfl];exact .inl ⟨q',rfl,.inl q1⟩
theorem Wb {F P:Nat}{S u:Ag}{x16 D:List Aa}{k:Int}{g b1 b2:Bool}{r:Ag×Bool×Ak}(hS:S.length≤100000)(hs:GV u S)(hk1:1≤k)(hk2:k≤200000)(hD:x16.length+D.length≤200000)(hV:VOk F P S u (x16++⟨6,0,[],k-1⟩::(D++[⟨4,0,r.1,0⟩])) g) :
  (∃q',BW (Cc F) x16 k r b1 b2 false S ((S.length:Int)-u.length) (x16++⟨6,0,[],k-1⟩::D) g=some (.out (.ret (false,q')))∧(EE true P u=none∨∃f s2,EE true P u=some (f,s2)∧∀c s3,s2=c::s3→decide (c=BJ true)=false∧decide (c=44)=false))∨
  ∃f s2,EE true P u=some (f,s2)∧GV s2 S∧((∃s3,s2=BJ true::s3∧BW (Cc F) x16 k r b1 b2 false S ((S.length:Int)-u.length) (x16++⟨6,0,[],k-1⟩::D) g=some (.out (.ret (true,CY S s3 (x16++⟨6,0,[],k⟩::(D++([⟨4,0,r.1,0⟩]++f.flat.map Cz))) (g||f.flat.any BG)))))∨
   (∃s3,s2=44::s3∧BW (Cc F) x16 k r b1 b2 false S ((S.length:Int)-u.length) (x16++⟨6,0,[],k-1⟩::D) g=some (.next (r.1,k+1,S,(S.length:Int)-s3.length,x16++⟨6,0,[],k⟩::(D++([⟨4,0,r.1,0⟩]++f.flat.map Cz)),g||f.flat.any BG)))):=by
 unfold BW;have e0:(x16++⟨6,0,[],k-1⟩::D)++([⟨4,0,r.1,0⟩]:List Aa)=x16++⟨6,0,[],k-1⟩::(D++[⟨4,0,r.1,0⟩]):=by simp
 rw[As rfl,Tf (by rw[Abq,Abl,Ab6];omega),e0,M0];rcases hV with⟨f,s2,q1,q2,q3⟩ | ⟨q1,q',q2⟩
 ·have ec:(x16++⟨6,0,[],k-1⟩::(D++[⟨4,0,r.1,0⟩]))++f.flat.map Cz=x16++⟨6,0,[],k-1⟩::(D++([⟨4,0,r.1,0⟩]++f.flat.map Cz)):=by simp
  rw[ec] at q3;rw[q3,A8 rfl,As (p:=!true) rfl];have hin:CG (x16.length:Int) (((x16++(⟨6,0,[],k-1⟩:Aa)::(D++([⟨4,0,r.1,0⟩]++f.flat.map Cz))).length:Nat):Int)=true:=Px (by omega) (by rw[Abq,Abl];omega);have e1:(true,CY S s2 (x16++⟨6,0,[],k-1⟩::(D++([⟨4,0,r.1,0⟩]++f.flat.map Cz))) (g||f.flat.any BG)).2.fCells=x16++⟨6,0,[],k-1⟩::(D++([⟨4,0,r.1,0⟩]++f.flat.map Cz)):=rfl;rw[e1,B9 hin,Xq,Sw,E6];have e2:Ak.mk (true,CY S s2 (x16++⟨6,0,[],k-1⟩::(D++([⟨4,0,r.1,0⟩]++f.flat.map Cz))) (g||f.flat.any BG)).2.fS (true,CY S s2 (x16++⟨6,0,[],k-1⟩::(D++([⟨4,0,r.1,0⟩]++f.flat.map Cz))) (g||f.flat.any BG)).2.fAt (x16++⟨6,0,[],k⟩::(D++([⟨4,0,r.1,0⟩]++f.flat.map Cz))) (true,CY S s2 (x16++⟨6,0,[],k-1⟩::(D++([⟨4,0,r.1,0⟩]++f.flat.map Cz))) (g||f.flat.any BG)).2.fGreat=CY S s2 (x16++⟨6,0,[],k⟩::(D++([⟨4,0,r.1,0⟩]++f.flat.map Cz))) (g||f.flat.any BG):=rfl;rw[e2,C4 hS q2,K8]
  cases s2 with
  | nil=>
   simp only;rw[A8 rfl,As rfl,C4 hS q2,K8];exact .inl ⟨_,rfl,.inr ⟨f,[],q1,λc s3 e=>by cases e⟩⟩
  | cons c s3=>
   simp only
   cases ha:decide (c=125) with
   | true=>
    simp only[Abh] at ha;subst ha;exact .inr ⟨f,_,q1,q2,.inl ⟨s3,rfl,rfl⟩⟩
   | false=>
    simp only[Abk];rw[A8 rfl,As rfl,C4 hS q2,K8];simp only
    cases hb:decide (c=44) with
    | true=>
     simp only[Abh] at hb;subst hb;simp only[Abr];rw[A8 rfl,As (p:=!true) rfl,A6 (by omega) (by omega)];exact .inr ⟨f,_,q1,q2,.inr ⟨s3,rfl,rfl⟩⟩
    | false=>
     exact .inl ⟨_,rfl,.inr ⟨f,_,q1,λc' s3' e=>by cases e;exact⟨ha,hb⟩⟩⟩
 ·rw[q2,A8 rfl];exact .inl ⟨q',rfl,.inl q1⟩
def ZN (t:Ag):Ag→Option (Option Ag×Ag)
 | []=>none
 | d::u'=>bif decide (d=58) then some (some t,u') else none
theorem SQ (b:Bool)(last:Option Ag)(r:Ag):Ef b true last (34::r)=match C8 b r with
  | none=>none
  | some (k,u)=>bif b&&!Bp true last (some k) then none else ZN k u:=by
 show(match C8 b r with
   | none=>none
   | some (k,u)=>bif b&&!Bp true last (some k) then none else(match u with
    | []=>none
    | d::u'=>bif decide (d=58) then some (some k,u') else none))=_
 cases C8 b r with
 | none=>rfl
 | some q=>obtain⟨k,u⟩:=q;cases u<;>rfl
theorem Yk (b:Bool)(last:Option Ag){u:Ag}(h:∀r,u=34::r→C8 b r=none):Ef b true last u=none:=by
 cases u with
 | nil=>rfl
 | cons c r=>
  by_cases hc:c=34
  ·subst hc;rw[SQ,h r rfl]
  ·show(bif decide (c=34) then _ else none)=none;rw[Abj hc];rfl
theorem O6 {F:Nat}{S w t:Ag}{x16 cs:List Aa}{k:Int}{g:Bool}(b1 b2:Bool)(hS:S.length≤100000)(hw:GV w S) :
  (∃q',Bi (D5 (t,true,CY S w cs g).2.2 ([58]:Ag)) (λha=>BW (Cc F) x16 k (t,true,CY S w cs g) b1 b2 (!ha.1) ha.2.fS ha.2.fAt ha.2.fCells ha.2.fGreat)=some (.out (.ret (false,q')))∧ZN t w=none)∨
  ∃s1,w=58::s1∧ZN t w=some (some t,s1)∧Bi (D5 (t,true,CY S w cs g).2.2 ([58]:Ag)) (λha=>BW (Cc F) x16 k (t,true,CY S w cs g) b1 b2 (!ha.1) ha.2.fS ha.2.fAt ha.2.fCells ha.2.fGreat)=BW (Cc F) x16 k (t,true,CY S w cs g) b1 b2 false S ((S.length:Int)-s1.length) cs g:=by
 rw[show(t,true,CY S w cs g).2.2=CY S w cs g from rfl,C4 hS hw,K8]
 cases w with
 | nil=>exact .inl ⟨_,rfl,rfl⟩
 | cons d s1=>
  by_cases hd:d=58
  ·subst hd;exact .inr ⟨s1,rfl,rfl,rfl⟩
  ·simp only[Abj hd,Abk];refine .inl ⟨_,rfl,?_⟩;show(bif decide (d=58) then _ else none)=none;rw[Abj hd];rfl
theorem Yd {F:Nat}{S u last:Ag}{x16 cs:List Aa}{k:Int}{g:Bool}(hS:S.length≤100000)(hs:GV u S)(hF:S.length<F) :
  (Ef true true (bif decide (1<k) then some last else none) u=none∧∃q',YX F x16 (last,k,S,(S.length:Int)-u.length,cs,g)=some (.out (.ret (false,q'))))∨
  ∃t s1 b1 b2 q0,Ef true true (bif decide (1<k) then some last else none) u=some (some t,s1)∧GV s1 S∧s1.length+2≤u.length∧YX F x16 (last,k,S,(S.length:Int)-u.length,cs,g)=BW (Cc F) x16 k (t,true,q0) b1 b2 false S ((S.length:Int)-s1.length) cs g:=by
 have hb:YX F x16 (last,k,S,(S.length:Int)-u.length,cs,g)=Ec F (Cc F) x16 last k S ((S.length:Int)-u.length) cs g:=rfl;rw[hb];unfold Ec;rw[M0];rcases PR (cs:=cs) (g:=g) hS hs hF with⟨r,t,w,q1,q2,q3,q4⟩ | ⟨q1,q',q2⟩
 ·rw[q4,A8 rfl,As (p:=!true) rfl];subst q1;have hok:=XJ _ r t w rfl q2;have hwl:=I8 true _ r t w rfl q2;rw[SQ,q2];simp only[Aby]
  cases h1:decide (1<k) with
  | true=>
   rw[AA rfl];simp only[Abr];have hko:Bp true (some last) (some t) = !(B3 t last||decide (t=last)):=by simp[Bp,hok]
   rw[hko,Bool.not_not]
   cases hlt:(B3 t last||decide (t=last)) with
   | true=>
    rw[AA rfl];exact .inl ⟨rfl,_,rfl⟩
   | false=>
    rw[As rfl];simp only[Abk];rcases O6 (F:=F) (cs:=cs) (g:=g) (x16:=x16) (k:=k) (t:=t) false false hS q3 with⟨q',c1,c2⟩ | ⟨s1,c1,c2,c3⟩
    ·exact .inl ⟨c2,q',c1⟩
    ·subst c1;exact .inr ⟨t,s1,false,false,CY S (58::s1) cs g,c2,q3.tail,by simp only[Abl] at hwl ⊢;omega,c3⟩
  | false=>
   rw[As rfl];simp only[Abk];have hko:Bp true none (some t)=true:=by simp[Bp,hok]
   rw[hko];simp only[Abw,Abk];rcases O6 (F:=F) (cs:=cs) (g:=g) (x16:=x16) (k:=k) (t:=t) false false hS q3 with⟨q',c1,c2⟩ | ⟨s1,c1,c2,c3⟩
   ·exact .inl ⟨c2,q',c1⟩
   ·subst c1;exact .inr ⟨t,s1,false,false,CY S (58::s1) cs g,c2,q3.tail,by simp only[Abl] at hwl ⊢;omega,c3⟩
 ·rw[q2,A8 rfl];exact .inl ⟨Yk _ _ q1,_,rfl⟩
def UE (b:Bool)(F:Nat)(m:Bool):Ag→Option (Fo×Ag)
 | []=>none
 | d::r'=>bif decide (d=BJ m) then some (nd m .nil,r') else(match Do b F m none (d::r') with
  | none=>none
  | some (g,u)=>some (nd m g,u))
theorem Jy (b:Bool)(F:Nat)(m:Bool)(d:UInt8)(r':Ag):UE b F m (d::r')=bif decide (d=BJ m) then some (nd m .nil,r') else(match Do b F m none (d::r') with
  | none=>none
  | some (g,u)=>some (nd m g,u)):=rfl
theorem RD (b:Bool)(F:Nat)(r:Ag)(m:Bool):EE b (F+1) ((bif m then 123 else 91)::r)=UE b F m r:=by
 rw[Dn]
 cases m<;>cases r<;>rfl
theorem Wf {S:Ag}(hS:S.length≤100000):∀n:Nat,
  (∀(F P:Nat) (u:Ag) (cs:List Aa) (g:Bool),u.length=n→GV u S→S.length+n+5<F→2*n+2≤P→cs.length+n≤S.length→VOk F P S u cs g)∧
  (∀(F P L:Nat) (u:Ag) (x16 D:List Aa) (k:Int) (g:Bool),u.length=n→GV u S→S.length+n+5<F→2*n+3≤P→n<L→x16.length+1+D.length+n≤S.length→1≤k→k+n≤S.length+1→∃o,BE (YH F x16) L (k,S,(S.length:Int)-u.length,x16++⟨5,0,[],k-1⟩::D,g)=some o∧UL P false none S u x16 D k g o)∧
  (∀(F P L:Nat) (u last:Ag) (x16 D:List Aa) (k:Int) (g:Bool),u.length=n→GV u S→S.length+n+5<F→2*n+3≤P→n<L→x16.length+1+D.length+n≤S.length→1≤k→k+n≤S.length+1→∃o,BE (YX F x16) L (last,k,S,(S.length:Int)-u.length,x16++⟨6,0,[],k-1⟩::D,g)=some o∧UL P true (bif decide (1<k) then some last else none) S u x16 D k g o):=by
 intro n
 induction n using Nat.strongRecOn with
 | ind n ih=>
 have hV:∀(F P:Nat) (u:Ag) (cs:List Aa) (g:Bool),u.length=n→GV u S→S.length+n+5<F→2*n+2≤P→cs.length+n≤S.length→VOk F P S u cs g:=by
  intro F P u cs g hn hs hF hP hcs;obtain⟨F,rfl⟩:∃K,F=K+1:=⟨F-1,by omega⟩
  obtain⟨P,rfl⟩:∃K,P=K+1:=⟨P-1,by omega⟩
  unfold VOk;rw[Cc];unfold Ko;rw[C4 hS hs,K8];have hsc:(∀c r,u=c::r→(decide (c=91)||decide (c=123))=false)→∀r1:Bool×Ak,(∃f w,EE true (P+1) u=some (f,w)∧GV w S∧D6 F (Cc F) r1 true S ((S.length:Int)-u.length) cs g=some (true,CY S w (cs++f.flat.map Cz) (g||f.flat.any BG)))∨(EE true (P+1) u=none∧∃q',D6 F (Cc F) r1 true S ((S.length:Int)-u.length) cs g=some (false,q')):=λhc r1=>by
   rw[VD true P hc];unfold D6;rw[AA rfl,M0];rcases PS (F:=F) (cs:=cs) (g:=g) hS hs (by omega) (by omega) with⟨f,w,q1,q2,q3⟩ | ⟨q1,q',q2⟩
   ·rw[q3,A8 rfl];exact .inl ⟨f,w,q1,q2,rfl⟩
   ·rw[q2,A8 rfl];exact .inr ⟨q1,q',rfl⟩
  have hsl:=hs.len
  cases u with
  | nil=>
   simp only;rw[A8 rfl,AA (p:=!false) rfl,show(false,CY S [] cs g).2=CY S [] cs g from rfl,C4 hS hs,K8,A8 rfl];exact hsc (λc r e=>by cases e) _
  | cons c r=>
   simp only[Abl] at hn hsl;simp only;have hbr:∀m:Bool,c=(bif m then 123 else 91)→∀body:Option (Bool×Ak),body=(AR (Dw 40 (cs.length+([⟨bif m then 6 else 5,0,[],0⟩]:List Aa).length))<|Bi (D5 (CY S r (cs++[⟨bif m then 6 else 5,0,[],0⟩]) g) ([BJ m]:Ag)) λha=>AV ha.1 (some (true,ha.2)) (bif m then Bi (BE (YX F cs) F ([],1,ha.2.fS,ha.2.fAt,ha.2.fCells,ha.2.fGreat)) (By λ_=>GA) else Bi (BE (YH F cs) F (1,ha.2.fS,ha.2.fAt,ha.2.fCells,ha.2.fGreat)) (By λ_=>GB)))→
     (∃f w,EE true (P+1) (c::r)=some (f,w)∧GV w S∧body=some (true,CY S w (cs++f.flat.map Cz) (g||f.flat.any BG)))∨(EE true (P+1) (c::r)=none∧∃q',body=some (false,q')):=λm hc body hbody=>by
    rw[hbody,hc,RD,Tf (by rw[Ab6];omega),C4 hS hs.tail,K8];have hfh:Cz ⟨bif m then 6 else 5,0,[],0⟩=⟨bif m then 6 else 5,0,[],0⟩∧∀N,BG ⟨bif m then 6 else 5,0,[],N⟩=false:=by cases m<;>exact⟨rfl,λ_=>rfl⟩
    have hfn:∀N,Cz ⟨bif m then 6 else 5,0,[],N⟩=⟨bif m then 6 else 5,0,[],N⟩:=λN=>by cases m<;>rfl
    have hloop:∀o:Out (Bool×Ak) Unit,UL P m none S r cs [] 1 g o→(r=[]∨∃d r',r=d::r'∧decide (d=BJ m)=false)→
      (∃f w,UE true P m r=some (f,w)∧GV w S∧o = .ret (true,CY S w (cs++f.flat.map Cz) (g||f.flat.any BG)))∨(UE true P m r=(none:Option (Fo×Ag))∧∃q',o = .ret (false,q')):=λo ho hr=>by
     rcases hr with rfl | ⟨d,r',rfl,hd⟩
     ·rcases ho with⟨G,w,q1,_,_⟩ | ⟨_,q2⟩
      ·exact absurd ((Ea true P).2 _ _ _ _ _ q1).1 (by simp)
      ·exact .inr ⟨rfl,q2⟩
     ·rw[Jy,hd];simp only[Abk];rcases ho with⟨G,w,q1,q2,q3⟩ | ⟨q1,q2⟩
      ·rw[q1];refine .inl ⟨_,w,rfl,q2,?_⟩;rw[q3,Jl _ _ Ii,AbR,List.any_cons,hfn,hfh.2,Ab5,AbJ,show(1:Int)-1+(G.cnt:Int)=G.cnt from by omega]
      ·rw[q1];exact .inr ⟨rfl,q2⟩
    have hrest:(r=[]∨∃d r',r=d::r'∧decide (d=BJ m)=false)→(∃f w,UE true P m r=some (f,w)∧GV w S∧(bif m then Bi (BE (YX F cs) F ([],1,S,(S.length:Int)-r.length,cs++[⟨bif m then 6 else 5,0,[],0⟩],g)) (By λ_=>GA) else Bi (BE (YH F cs) F (1,S,(S.length:Int)-r.length,cs++[⟨bif m then 6 else 5,0,[],0⟩],g)) (By λ_=>GB))=some (true,CY S w (cs++f.flat.map Cz) (g||f.flat.any BG)))∨(UE true P m r=(none:Option (Fo×Ag))∧∃q',(bif m then Bi (BE (YX F cs) F ([],1,S,(S.length:Int)-r.length,cs++[⟨bif m then 6 else 5,0,[],0⟩],g)) (By λ_=>GA) else Bi (BE (YH F cs) F (1,S,(S.length:Int)-r.length,cs++[⟨bif m then 6 else 5,0,[],0⟩],g)) (By λ_=>GB))=some (false,q')):=λhr=>by
     cases m with
     | true=>
      obtain⟨o,ho1,ho2⟩:=(ih r.length (by omega)).2.2 F P F r [] cs [] 1 g rfl hs.tail (by omega) (by omega) (by omega) (by simp;omega) (by decide) (by omega);simp only[Abr];have ho1':BE (YX F cs) F ([],1,S,(S.length:Int)-r.length,cs++[⟨6,0,[],0⟩],g)=some o:=ho1;rw[A8 ho1'];rcases hloop o ho2 hr with⟨f,w,q1,q2,q3⟩ | ⟨q1,q',q2⟩
      ·exact .inl ⟨f,w,q1,q2,Mz q3⟩
      ·exact .inr ⟨q1,q',Mz q2⟩
     | false=>
      obtain⟨o,ho1,ho2⟩:=(ih r.length (by omega)).2.1 F P F r cs [] 1 g rfl hs.tail (by omega) (by omega) (by omega) (by simp;omega) (by decide) (by omega);simp only[Abk];have ho1':BE (YH F cs) F (1,S,(S.length:Int)-r.length,cs++[⟨5,0,[],0⟩],g)=some o:=ho1;rw[A8 ho1'];rcases hloop o ho2 hr with⟨f,w,q1,q2,q3⟩ | ⟨q1,q',q2⟩
      ·exact .inl ⟨f,w,q1,q2,Mz q3⟩
      ·exact .inr ⟨q1,q',Mz q2⟩
    cases r with
    | nil=>
     simp only;rw[A8 rfl,As rfl];exact hrest (.inl rfl)
    | cons d r'=>
     simp only
     cases hd:decide (d=BJ m) with
     | true=>
      simp only[Abr];rw[A8 rfl,AA rfl];refine .inl ⟨_,r',by rw[Jy,hd];rfl,hs.tail.tail,?_⟩;rw[Jl _ _ Ii];simp only[Fo.flat,Fo.cnt,AbR,List.map_nil,List.any_cons,List.any_nil,AbI];rw[show((0:Nat):Int)=0 from rfl,hfh.1,hfh.2,AbI]
     | false=>
      simp only[Abk];rw[A8 rfl,As rfl];exact hrest (.inr ⟨d,r',rfl,hd⟩)
   cases he:decide (c=91) with
   | true=>
    simp only[Abh] at he;simp only[Abr];rw[A8 rfl,As (p:=!true) rfl];exact hbr false he _ rfl
   | false=>
    simp only[Abk];rw[A8 rfl,AA (p:=!false) rfl,show(false,CY S (c::r) cs g).2=CY S (c::r) cs g from rfl,C4 hS hs,K8];simp only
    cases hg:decide (c=123) with
    | true=>
     simp only[Abh] at hg;simp only[Abr];rw[A8 rfl];exact hbr true hg _ rfl
    | false=>
     simp only[Abk];rw[A8 rfl];exact hsc (λc' r' e=>by cases e;rw[he,hg];rfl) _
 refine⟨hV,?_,?_⟩
 ·intro F P L u x16 D k g hn hs hF hP hL hb hk1 hk2;obtain⟨P,rfl⟩:∃K,P=K+1:=⟨P-1,by omega⟩
  obtain⟨L,rfl⟩:∃K,L=K+1:=⟨L-1,by omega⟩
  have hsl:=hs.len;have hv:=hV F P u (x16++⟨5,0,[],k-1⟩::D) g hn hs hF (by omega) (by simp;omega);have hkp:Ef true false none u=some (none,u):=rfl;rcases RM hS hs hk1 (by omega) hv with⟨q',hb1,hf⟩ | ⟨f,s2,q1,q2,h⟩
  ·refine⟨_,Dy hb1,?_⟩;rcases hf with hf | ⟨f,s2,hf,hno⟩
   ·refine .inr ⟨?_,q',rfl⟩;rw[CX,hkp];simp only[hf]
   ·exact UL.join hkp hf ((Ea true P).1 _ _ _ hf).2 (.inr (.inr ⟨hno,q',rfl⟩))
  ·obtain⟨l1,ho⟩:=(Ea true P).1 _ _ _ q1;have l2:=(H8 true P).1 _ _ _ q1;rcases h with⟨s3,e,hb1⟩ | ⟨s3,e,hb1⟩
   ·subst e;exact⟨_,Dy hb1,UL.join hkp q1 ho (.inl ⟨s3,rfl,q2.tail,rfl⟩)⟩
   ·subst e;simp only[Abl] at l1 l2;obtain⟨o,ho1,ho2⟩:=(ih s3.length (by omega)).2.1 F P L s3 x16 (D++f.flat.map Cz) (k+1) (g||f.flat.any BG) rfl q2.tail (by omega) (by omega) (by omega) (by rw[Abq,Abx];omega) (by omega) (by omega);rw[show k+1-1=k from by omega] at ho1;exact⟨o,HD hb1 ho1,UL.join hkp q1 ho (.inr (.inl ⟨s3,rfl,ho2⟩))⟩
 ·intro F P L u last x16 D k g hn hs hF hP hL hb hk1 hk2;obtain⟨P,rfl⟩:∃K,P=K+1:=⟨P-1,by omega⟩
  obtain⟨L,rfl⟩:∃K,L=K+1:=⟨L-1,by omega⟩
  have hsl:=hs.len;rcases Yd (last:=last) (x16:=x16) (cs:=x16++⟨6,0,[],k-1⟩::D) (k:=k) (g:=g) hS hs (F:=F) (by omega) with⟨hk,q',hb1⟩ | ⟨t,s1,b1,b2,q0,hk,hs1,hl1,hb0⟩
  ·refine⟨_,Dy hb1,.inr ⟨?_,q',rfl⟩⟩;rw[CX,hk]
  ·have hv:=(ih s1.length (by omega)).1 F P s1 (x16++⟨6,0,[],k-1⟩::(D++[⟨4,0,t,0⟩])) g rfl hs1 (by omega) (by omega) (by simp;omega);rcases Wb (r:=(t,true,q0)) (b1:=b1) (b2:=b2) hS hs1 hk1 (by omega) (by omega) hv with⟨q',hb1,hf⟩ | ⟨f,s2,q1,q2,h⟩
   ·refine⟨_,Dy (hb0.trans hb1),?_⟩;rcases hf with hf | ⟨f,s2,hf,hno⟩
    ·refine .inr ⟨?_,q',rfl⟩;rw[CX,hk];simp only[hf]
    ·exact UL.join hk hf ((Ea true P).1 _ _ _ hf).2 (.inr (.inr ⟨hno,q',rfl⟩))
   ·obtain⟨l1,ho⟩:=(Ea true P).1 _ _ _ q1;have l2:=(H8 true P).1 _ _ _ q1;rcases h with⟨s3,e,hb1⟩ | ⟨s3,e,hb1⟩
    ·subst e;exact⟨_,Dy (hb0.trans hb1),UL.join hk q1 ho (.inl ⟨s3,rfl,q2.tail,rfl⟩)⟩
    ·subst e;simp only[Abl] at l1 l2;obtain⟨o,ho1,ho2⟩:=(ih s3.length (by omega)).2.2 F P L s3 t x16 (D++([⟨4,0,t,0⟩]++f.flat.map Cz)) (k+1) (g||f.flat.any BG) rfl q2.tail (by omega) (by omega) (by omega) (by rw[Abq,Abq,Abx,Ab6];omega) (by omega) (by omega);rw[show k+1-1=k from by omega] at ho1;rw[show decide (1<k+1)=true from Abm (by omega)] at ho2;exact⟨o,HD (hb0.trans hb1) ho1,UL.join hk q1 ho (.inr (.inl ⟨s3,rfl,ho2⟩))⟩
theorem Ru {S:Ag}(hS:S.length≤100000){F P:Nat}(hF:2*S.length+6≤F)(hP:2*S.length+2≤P):VOk F P S S [] false:=
 (Wf hS S.length).1 F P S [] false rfl ⟨[],rfl⟩ (by omega) hP (by simp)
theorem Yb:∀(d:Ag),d.all BM=true→Cq 0 d<10 ^ d.length:=by
 have key:∀(d:Ag) (a m:Nat),d.all BM=true→a<10 ^ m→Cq a d<10 ^ (m+d.length):=by
  intro d
  induction d with
  | nil=>intro a m _ h;simpa[Cq] using h
  | cons c d ih=>
   intro a m hd h;simp only[AbH,Abp] at hd;have hc:48≤c.toNat∧c.toNat≤57:=by have:=hd.1;simp[BM] at this;omega
   have:=ih (10*a+(c.toNat-48)) (m+1) hd.2 (by rw[Nat.pow_succ];omega);rw[Abl,show m+(d.length+1)=m+1+d.length from by omega];exact this
 intro d hd;have:=key d 0 0 hd (by decide);simpa using this
theorem XZ {d:Ag}(hd:d.all BM=true)(hl:d.length≤18):0≤NU d∧NU d<1000000000000000000:=by
 have h1:NU d=(Cq 0 d:Int):=IC d 0 hd;have h2:=Yb d hd;have h3:10 ^ d.length≤10 ^ 18:=Nat.pow_le_pow_right (by decide) hl;have:(10:Nat) ^ 18=1000000000000000000:=by decide
 omega
def hd (m:Bool)(N:Int):Aa:=⟨bif m then 6 else 5,0,[],N⟩
theorem PY:∀(n:Nat) (s:Ag),s.length=n→C8 true s=match C8 false s with
  | none=>none
  | some (t,u)=>bif t.all J1 then some (t,u) else none:=by
 intro n
 induction n using Nat.strongRecOn with
 | ind n ih=>
  intro s hn
  cases s with
  | nil=>rfl
  | cons c r=>
   simp only[Abl] at hn;rw[Dq,Dq]
   cases h1:decide (c=34) with
   | true=>rfl
   | false=>
    simp only[Abk,Aby,AbC]
    cases h3:decide (c=92) with
    | true=>
     have hc:J1 c=true:=by simp only[Abh] at h3;subst h3;rfl
     rw[hc]
     cases r with
     | nil=>rfl
     | cons d r'=>
      simp only[Abw,Abk,Abr];simp only[Abl] at hn
      cases h4:(decide (d=34)||decide (d=92)) with
      | false=>rfl
      | true=>
       have hd:J1 d=true:=by
        simp only[AbQ,Abh] at h4;rcases h4 with e | e<;>subst e<;>rfl
       simp only[Abr];rw[ih r'.length (by omega) r' rfl]
       cases C8 false r' with
       | none=>rfl
       | some q=>
        obtain⟨t,u⟩:=q;simp only[AbH,hd,Aby]
        cases t.all J1<;>rfl
    | false=>
     simp only[Abk];rw[ih r.length (by omega) r rfl]
     cases hc:J1 c with
     | false=>
      simp only[AbB,Abr]
      cases C8 false r with
      | none=>rfl
      | some q=>obtain⟨t,u⟩:=q;simp[hc]
     | true=>
      simp only[Abw,Abk]
      cases C8 false r with
      | none=>rfl
      | some q=>
       obtain⟨t,u⟩:=q;simp only[AbH,hc,Aby]
       cases t.all J1<;>rfl
theorem Wm (m:Bool)(last:Option Ag)(s:Ag):Ef true m last s=match Ef false m none s with
  | none=>none
  | some (k,u)=>bif Bp m last k then some (k,u) else none:=by
 cases m with
 | false=>rfl
 | true=>
  cases s with
  | nil=>rfl
  | cons c r=>
   unfold Ef;simp only[Abr,Aby,AbC,Abk]
   cases hc:decide (c=34) with
   | false=>rfl
   | true=>
    simp only[Abr];rw[PY _ r rfl]
    cases C8 false r with
    | none=>rfl
    | some q=>
     obtain⟨t,u⟩:=q;simp only
     cases ht:t.all J1 with
     | false=>
      have hk:Bp true last (some t)=false:=by simp[Bp,ht]
      simp only[Abk]
      cases u with
      | nil=>rfl
      | cons d u'=>
       simp only
       cases decide (d=58) with
       | false=>rfl
       | true=>simp only[Abr,hk];rfl
     | true=>
      simp only[Abr]
      cases u with
      | nil=>cases Bp true last (some t)<;>rfl
      | cons d u'=>
       simp only
       cases decide (d=58) with
       | false=>cases Bp true last (some t)<;>rfl
       | true=>cases hk:Bp true last (some t)<;>simp[hk]
def plr (c:Aa):Bool:=bif decide (c.fKind=4) then decide (c.fInt=0)&&decide (c.fN=0) else pl c
def Fo.rw:Bool→Fo→Bool
 | _,.nil=>true
 | m,.cell k c r=>(k.isSome ==m)&&plr c&&!decide (0<c.fN)&&r.rw m
 | m,.node k c kids r=>(k.isSome ==m)&&plr c&&decide (0<c.fN)&&decide (c.fN=kids.cnt)&&kids.rw (decide (c.fKind=6))&&r.rw m
theorem V7 {f:Fo}(h:f.one=true)(m:Bool)(last key:Option Ag)(r:Fo):(f.put key r).wf m last=(Bp m last key&&f.wf false none&&r.wf m key):=by
 cases f with
 | nil=>cases h
 | cell k c r'=>
  cases k with
  | some _=>cases h
  | none=>cases r' with
   | nil=>simp[Fo.put,Fo.wf,Bp,Bool.and_assoc]
   | cell _ _ _=>cases h
   | node _ _ _ _=>cases h
 | node k c kids r'=>
  cases k with
  | some _=>cases h
  | none=>cases r' with
   | nil=>simp[Fo.put,Fo.wf,Bp,Bool.and_assoc]
   | cell _ _ _=>cases h
   | node _ _ _ _=>cases h
theorem V8 {f:Fo}(h:f.one=true)(m:Bool)(key:Option Ag)(r:Fo):(f.put key r).rw m=((key.isSome ==m)&&f.rw false&&r.rw m):=by
 cases f with
 | nil=>cases h
 | cell k c r'=>
  cases k with
  | some _=>cases h
  | none=>cases r' with
   | nil=>simp[Fo.put,Fo.rw,Bool.and_assoc]
   | cell _ _ _=>cases h
   | node _ _ _ _=>cases h
 | node k c kids r'=>
  cases k with
  | some _=>cases h
  | none=>cases r' with
   | nil=>simp[Fo.put,Fo.rw,Bool.and_assoc]
   | cell _ _ _=>cases h
   | node _ _ _ _=>cases h
theorem SK (m:Bool)(g:Fo):(nd m g).wf false none=g.wf m none∧(nd m g).rw false=g.rw m:=by
 unfold nd
 cases hd:decide (g.cnt=0) with
 | true=>
  simp only[Abh] at hd;rw[Ii hd]
  cases m<;>exact⟨rfl,rfl⟩
 | false=>
  simp only[Abi] at hd;have h1:decide ((0:Int)<(g.cnt:Int))=true:=Abm (by omega);have h2:decide ((0:Int)≤(g.cnt:Int))=true:=Abm (by omega)
  cases m<;>simp[Fo.wf,Fo.rw,Bp,pl,plr]<;>omega
theorem Ui {m:Bool}{last k:Option Ag}{s u:Ag}{b:Bool}(h:Ef b m last s=some (k,u)):(k.isSome ==m)=true:=by
 unfold Ef at h
 cases m with
 | false=>cases h;rfl
 | true=>
  simp only[Abr] at h
  cases s with
  | nil=>cases h
  | cons c r=>
   simp only at h
   cases h1:decide (c=34) with
   | false=>rw[h1] at h;cases h
   | true=>
    rw[h1] at h;simp only[Abr] at h
    cases h2:C8 b r with
    | none=>rw[h2] at h;cases h
    | some q=>
     obtain⟨t,w⟩:=q;rw[h2] at h;simp only at h
     cases h3:(b&&!Bp true last (some t)) with
     | true=>rw[h3] at h;cases h
     | false=>
      rw[h3] at h;simp only[Abk] at h
      cases w with
      | nil=>cases h
      | cons d w'=>
       simp only at h
       cases h4:decide (d=58) with
       | false=>rw[h4] at h;cases h
       | true=>rw[h4] at h;cases h;rfl
theorem Pm:∀F:Nat,(∀s,EE true F s=(match EE false F s with
   | none=>none
   | some (f,u)=>bif f.wf false none then some (f,u) else none)∧∀f u,EE false F s=some (f,u)→f.rw false=true)∧
  (∀m last last' s,Do true F m last s=(match Do false F m last' s with
   | none=>none
   | some (g,u)=>bif g.wf m last then some (g,u) else none)∧∀g u,Do false F m last' s=some (g,u)→g.rw m=true)
 | 0=>⟨λs=>⟨by rw[EE.eq_def,EE.eq_def],(λf u h=>by rw[EE.eq_def] at h;cases h)⟩,λm last last' s=>⟨by rw[Do.eq_def,Do.eq_def],(λg u h=>by rw[Do.eq_def] at h;cases h)⟩⟩
 | F+1=>by
  obtain⟨ih1,ih2⟩:=Pm F;have lfw:∀k i t,pl ⟨k,i,t,0⟩=true→(lf k i t).wf false none=true:=λk i t h=>by simp[lf,Fo.wf,Bp,h]
  have lfr:∀k i t,plr ⟨k,i,t,0⟩=true→(lf k i t).rw false=true:=λk i t h=>by simp[lf,Fo.rw,h]
  constructor
  ·intro s;rw[Dn,Dn]
   cases h1:pre [110,117,108,108] s with
   | some r=>exact⟨rfl,λf u h=>by cases h;rfl⟩
   | none=>
   simp only
   cases h2:pre [116,114,117,101] s with
   | some r=>exact⟨rfl,λf u h=>by cases h;rfl⟩
   | none=>
   simp only
   cases h3:pre [102,97,108,115,101] s with
   | some r=>exact⟨rfl,λf u h=>by cases h;rfl⟩
   | none=>
   simp only
   cases s with
   | nil=>exact⟨rfl,λf u h=>by cases h⟩
   | cons c r=>
   simp only
   cases h4:decide (c=34) with
   | true=>
    simp only[Abr];rw[PY _ r rfl]
    cases hq:C8 false r with
    | none=>exact⟨rfl,λf u h=>by cases h⟩
    | some q=>
     obtain⟨t,u⟩:=q;simp only;have e:(lf 4 0 t).wf false none=t.all J1:=by simp[lf,Fo.wf,Bp,pl]
     rw[e];refine⟨by cases t.all J1<;>rfl,λf u' h=>by cases h;exact lfr 4 0 t rfl⟩
   | false=>
   simp only[Abk]
   cases h5:(decide (c=91)||decide (c=123)) with
   | false=>
    simp only[Abk]
    cases hi:HF (c::r) with
    | none=>exact⟨rfl,λf u h=>by cases h⟩
    | some q=>
     obtain⟨f,u⟩:=q;have hf:f.wf false none=true∧f.rw false=true:=by
      unfold HF at hi;simp only at hi
      cases hc:Eo (decide ((c::r).head? =some 45)) (Cs (bif decide ((c::r).head? =some 45) then(c::r).tail else c::r)).1 with
      | false=>rw[hc] at hi;cases hi
      | true=>rw[hc] at hi;cases hi;exact⟨rfl,rfl⟩
     refine⟨by simp only[hf.1];rfl,λf' u' h=>by cases h;exact hf.2⟩
   | true=>
   simp only[Abr]
   cases r with
   | nil=>exact⟨rfl,λf u h=>by cases h⟩
   | cons d r'=>
   simp only
   cases h6:decide (d=BJ (decide (c=123))) with
   | true=>
    simp only[Abr,(SK _ _).1,Fo.wf];exact⟨trivial,λf u h=>by cases h;rw[(SK _ _).2];rfl⟩
   | false=>
   simp only[Abk];obtain⟨e1,e2⟩:=ih2 (decide (c=123)) none none (d::r');rw[e1]
   cases hq:Do false F (decide (c=123)) none (d::r') with
   | none=>exact⟨rfl,λf u h=>by cases h⟩
   | some q=>
    obtain⟨g,u⟩:=q;simp only[(SK _ _).1];refine⟨by cases g.wf (decide (c=123)) none<;>rfl,λf u' h=>by cases h;rw[(SK _ _).2];exact e2 g u hq⟩
  ·intro m last last' s;rw[CX,CX,Wm m last s];have hkl:Ef false m last' s=Ef false m none s:=by
    cases m with
    | false=>rfl
    | true=>unfold Ef;simp only[AbC]
   rw[hkl]
   cases hk:Ef false m none s with
   | none=>exact⟨rfl,λf u h=>by cases h⟩
   | some q=>
   obtain⟨key,s1⟩:=q;have hks:=Ui hk;simp only;obtain⟨e1,e2⟩:=ih1 s1
   cases hf:EE false F s1 with
   | none=>
    rw[hf] at e1;refine⟨?_,λf u h=>by cases h⟩
    cases Bp m last key with
    | false=>rfl
    | true=>simp only[Abr,e1]
   | some q=>
   obtain⟨f,s2⟩:=q;have ho:=((Ea false F).1 _ _ _ hf).2;have hfr:=e2 f s2 hf;rw[hf] at e1;simp only at e1;simp only
   cases s2 with
   | nil=>
    refine⟨?_,λf u h=>by cases h⟩
    cases Bp m last key with
    | false=>rfl
    | true=>simp only[Abr,e1];cases f.wf false none<;>rfl
   | cons c s3=>
   simp only
   cases h3:decide (c=BJ m) with
   | true=>
    simp only[Abr,V7 ho,Fo.wf,AbA];refine⟨?_,λg u h=>by cases h;rw[V8 ho,hks,hfr];rfl⟩
    cases Bp m last key with
    | false=>rfl
    | true=>simp only[Abr,e1,Aby];cases f.wf false none<;>simp[h3]
   | false=>
   simp only[Abk]
   cases h4:decide (c=44) with
   | false=>
    refine⟨?_,λg u h=>by cases h⟩
    cases Bp m last key with
    | false=>rfl
    | true=>simp only[Abr,e1];cases f.wf false none<;>simp[h3,h4]
   | true=>
   simp only[Abr];obtain⟨e3,e4⟩:=ih2 m key key s3
   cases hq:Do false F m key s3 with
   | none=>
    rw[hq] at e3;refine⟨?_,λg u h=>by cases h⟩
    cases Bp m last key with
    | false=>rfl
    | true=>simp only[Abr,e1];cases f.wf false none<;>simp[h3,h4,e3]
   | some q=>
    obtain⟨g,u⟩:=q;rw[hq] at e3;simp only at e3;simp only[V7 ho];refine⟨?_,λg' u' h=>by cases h;rw[V8 ho,hks,hfr,e4 g u hq];rfl⟩
    cases Bp m last key with
    | false=>rfl
    | true=>
     simp only[Abr,e1,Aby]
     cases f.wf false none with
     | false=>rfl
     | true=>
      simp only[Abr,h3,h4,Abk,e3,Aby]
      cases g.wf m key<;>rfl
end Go.Proofs.YtjfnokmpfekniaaGreatDoor
