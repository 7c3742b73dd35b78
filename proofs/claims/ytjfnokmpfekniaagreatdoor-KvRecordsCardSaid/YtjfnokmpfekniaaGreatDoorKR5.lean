/-
  Texts of the proof, put together: WKe, PKf, WKf, OkKvRecords, LhA, LhB, LvA, LvB, LvC, LvD, LvE, LvF, LvG, LvH, LvI, LvJ, LvK, LvL, LvM, LvN, LvO, LvP, LsA, LrA, LdA, LdB, LdC, LdD, LdE.
-/
import Derived.Test.YtjfnokmpfekniaaGreatDoorKR4
import GoSem.ClaimData
namespace Go.Proofs.YtjfnokmpfekniaaGreatDoor.Q
open Go Go.RowKit
set_option linter.unusedVariables false
set_option linter.unusedSimpArgs false
set_option maxRecDepth 100000
set_option maxHeartbeats 4000000
theorem E1.agg {rs qs:List Rp} (h:YO rs qs):E1 (B9 rs) (B9 qs):=λZ v ⟨us,e,hu⟩=>⟨us,e,h.all hu⟩
theorem Tk (F:Nat) (l:(List Ah)) (r:Ag×Int) (h:JI F l=some r):Fn Tryz.prog GE 24 [AV 4 (List.map Ad l)] [] (λR H=>R=Cm [rS r.1,rI .i64 r.2]∧H=[]):=by
 refine enter (n:=70) Tryz.func24 rfl Tryz.ntmps24 rfl (λw Z=>?_)
 unfold JI at h
 refine Ae (wv (r:=rS ([]:Ag)) (Ao rfl) (wa rfl (Bf (wm rfl (ob h λr1 e3 h2=>Cg Tryz.call37 (AaE F l r1 e3) rfl (wa rfl (Ak (Ai (Ae (wm rfl (wv (CB rfl rfl) (Ak (cz h2 rfl (λc4 h5=>?_) (λc4 h6=>?_))))))))))))))
 ·refine Ae (wm rfl (wv (r:=rS ([]:Ag)) (Ao rfl) (wa rfl (Ak (Aq (Ac ?_))))))
  obtain rfl:=As h5
  exact Ap (Cy Ze (A4 rfl) (A4 rfl)) sN ⟨rfl,rfl⟩
 ·refine An (AF (Ae (wa rfl (Ak (Ai (Ae (wm rfl (wv (Bv (ys:=l) (enc:=Ad) CN rfl) (wv (r:=rI .i64 0) (Al rfl) (Ak (AB (WC.nilrow (e:=9) (sz:=1) (ob h6 λhu hw hm=>Bk (S:=Nat×((List Ag)×Int)×(Value)) (V:=((List Ag))×(Value)) 0 (λσ=>BF (λσ=>D3 F l σ.1 σ.2) σ.1 σ.2.1=some hu) (λσ=>[(0,AV 4 (List.map Ad l)),(5,rv σ.2.2),(18,rI .i64 (l.length:Int)),(19,rI .i64 σ.2.1.2)]) (λσ=>[.row σ.2.2 9 1 (List.map eS σ.2.1.1)]) (λσ=>σ.1) (F,(([]:List Ag),0),(.slice none 0 0         )) hw (AC.c rfl (AC.c rfl (AC.c rfl (AC.c rfl AC.nil)))) (sC sN) (λσ=>GV F σ.1=some r) (λσ=>[(5,rv σ.2)]) (λσ=>[.row σ.2 9 1 (List.map eS σ.1)]) ?_ ?_)))))))))))))
  ·rintro⟨gm,⟨hb,ha⟩,hd⟩ hx
   refine BO (l':=[(0,AV 4 (List.map Ad l)),(5,rv hd),(18,rI .i64 (l.length:Int)),(19,rI .i64 ha)]) (H':=[.row hd 9 1 (List.map eS hb)]) rfl rfl ?_
   obtain⟨ho,rfl,hy,hh,he⟩:=Ce hx
   replace hh:D3 F l hb ha=some hy:=hh
   unfold D3 at hh
   refine Ae (wv (BY rfl rfl) (Ak (Ai (cz hh rfl (λhz h0=>?_) (λhz h1=>?_)))))
   ·refine An (AF (Ai (AB (Ae (wm rfl (wa rfl (Ak (Ai (ck h0 λhi h3=>ck h3 λh4 h7=>Gw 11 [0,5,6,18,19] [⟨[],AV 4 (List.map Ad l),none,none,none⟩,⟨[],rI .i64 ha,none,none,none⟩,⟨[0,1],EL (Ad (Am l ha)),none,none,none⟩,⟨[2],EL (Ad (Am l ha)),none,none,none⟩,⟨[3],rS ((Am l ha).fKey),none,none,none⟩,⟨[],AV 4 (List.map Ad l),none,none,none⟩,⟨[],rI .i64 ha,none,none,none⟩,⟨[5,6],EL (Ad (Am l ha)),none,none,none⟩,⟨[7],EL [rI .i64 ((Am l ha).fIfVersion)],none,none,none⟩,⟨[8],rI .i64 ((Am l ha).fIfVersion),none,none,none⟩,⟨[9],rS (Lib.itoa ((Am l ha).fIfVersion)),none,none,none⟩] ?_ (λβ=>?_))))))))))
    ·refine DB (Al rfl) (DB (Al rfl) (DB (Bh (enc:=Ad) (ys:=l) CN BV rfl rfl hi) (DB (AU C3 rfl CD rfl rfl) (DB (AY Dm rfl rfl) (DB (Al rfl) (DB (Al rfl) (DB (Bh (enc:=Ad) (ys:=l) CN BV rfl rfl hi) (DB (AU C3 rfl Cq rfl rfl) (DB (AY CU rfl rfl) (oac (HQ (rs:=[rI .i64 ((Am l ha).fIfVersion)]) (r:=rS (Lib.itoa ((Am l ha).fIfVersion))) Tryz.call47 rfl (VQ ((Am l ha).fIfVersion) h4) rfl) ?_))))))))))
     exact Xy
    refine Ha (H1:=[.row hd 9 1 (List.map eS hb)]) [22,23,24,25,26,27,28,29,30,31,32,0,5,6,18,19] ?_
    refine AQ (ys:=([(Am l ha).fKey,([48]:Ag),([]:Ag),Lib.itoa ((Am l ha).fIfVersion)]:List Ag)) (enc:=eS) (css:=[[rS ((Am l ha).fKey)],[rS ([48]:Ag)],[rS ([]:Ag)],[rS (Lib.itoa ((Am l ha).fIfVersion))]]) (xs:=[.tmp 26,.const (.string ⟨#[48]⟩),.const (.string ⟨#[]⟩),.tmp 32]) Cn CD Wj rfl rfl rfl ⟨Eb.one rfl (Up.refl _),Eb.one rfl (Up.refl _),Eb.one rfl (Up.refl _),Eb.one rfl (Up.refl _),trivial⟩ rfl Ed rfl rfl rfl (λhj=>?_)
    refine wa rfl (Ak (Ai (Ae (wm rfl (wm rfl (wv (Bh (enc:=Ad) (ys:=l) CN BV rfl rfl hi) (wv (AU C3 rfl GR rfl rfl) (wv (AY MZ rfl rfl) (Ak (cz h7 rfl (λc171 h8=>?_) (λc171 h9=>?_)))))))))))
    ·refine Af (wm rfl (ck h8 λhp hA=>wv (r:=rv (GQ 1 (.slice (some ⟨hj,0,none⟩) 4 4) (Int.toNat 1) 0)) (JP (i:=0) Cn CD rfl rfl rfl (BX hp)) (Iv (enc:=eS) (ys:=([(Am l ha).fKey,([48]:Ag),([]:Ag),Lib.itoa ((Am l ha).fIfVersion)]:List Ag)) (y':=([49]:Ag)) (i:=0) (j:=1) CD rfl rfl (Co rfl) rfl hp rfl rfl (H':=[.row (.slice (some ⟨hj,0,none⟩) 4 4) 9 1 (List.map eS (List.set ([(Am l ha).fKey,([48]:Ag),([]:Ag),Lib.itoa ((Am l ha).fIfVersion)]:List Ag) (Int.toNat 1) ([49]:Ag))),.row hd 9 1 (List.map eS hb)]) rfl (bd hA λhq hB hC=>?_))))
     rw[← hB]
     refine Bf (wm rfl (WL.freeze (i:=0) rfl (WL.up (d:=54) (r:=AV 1 (List.map eS hq)) rfl (Up.fact (i:=0) rfl) (ob hC λhf hD hE=>Cg Tryz.call49 (RQ F hq hf hD) rfl (wm rfl (wv (Az rfl rfl) (wv (Az rfl rfl) (wa rfl (wa rfl (Ak (Ai (Ae (wm rfl (wv (CB rfl rfl) (Ak (cz hE rfl (λhG hH=>?_) (λhG hI=>?_)))))))))))))))))
     ·refine Ae (wm rfl (wv (r:=rS ([]:Ag)) (Ao rfl) (wa rfl (Ak (Aq (Ac (Av (Ac (Ac (AS ?_))))))))))
      have hJ:=Bm hH he hm
      refine Av (Ac ?_)
      obtain rfl:=As hJ
      exact Ap (Cy Ze (A4 rfl) (A4 rfl)) (sS (sS sN)) ⟨rfl,rfl⟩
     ·refine An (AF (Af (wm rfl (wm rfl (AQ (ys:=([hf.1]:List Ag)) (enc:=eS) (css:=[[rS hf.1]]) (xs:=[.tmp 62]) Cn CD Wj rfl rfl rfl ⟨Eb.one rfl (Up.refl _),trivial⟩ rfl Ed rfl rfl rfl (λgn=>?_))))))
      refine ck hI λhK hL=>Exists.elim OO λinf hinf=>BG (xs:=hb) (ys:=([hf.1]:List Ag)) (enc:=eS) (i:=2) Cn hinf.1 hinf.2.1 hinf.2.2.1 hinf.2.2.2 rfl rfl rfl rfl rfl (Ja.w (i:=0) rfl rfl) Ed Lp hK rfl (λhN=>?_)
      refine wa rfl (Aj (A8 (AF (Af (ck hL λhO hP=>wv (AX rfl rfl hO) (wm rfl (Aj ?_)))))))
      have hQ:=Bb hP he
      exact Ar (A3 (ho,(hb++([hf.1]:List Ag),ha+1),hN) ⟨hQ,AcL _⟩ (AC.c rfl (AC.c rfl (AC.c rfl (AC.c rfl AC.nil)))) (sC (sS (sS sN))))
    ·refine Ae (wm rfl (wm rfl (wv (Bh (enc:=Ad) (ys:=l) CN BV rfl rfl hi) (wv (AU C3 rfl Dk rfl rfl) (wv (AY GS rfl rfl) (ob h9 λhn hR hS=>Cg Tryz.call48 (Vj F ((Am l ha).fValue) hn hR) rfl (wm rfl (wv (Az rfl rfl) (wv (Az rfl rfl) (wa rfl (wa rfl (Ak (Af (wm rfl (wm rfl (ck hS λhr hT=>wv (r:=rv (GQ 1 (.slice (some ⟨hj,0,none⟩) 4 4) (Int.toNat 2) 0)) (JP (i:=0) Cn CD rfl rfl rfl (BX hr)) (Iv (enc:=eS) (ys:=([(Am l ha).fKey,([48]:Ag),([]:Ag),Lib.itoa ((Am l ha).fIfVersion)]:List Ag)) (y':=hn.1) (i:=0) (j:=2) CD rfl rfl (Co rfl) rfl hr rfl rfl (H':=[.row (.slice (some ⟨hj,0,none⟩) 4 4) 9 1 (List.map eS (List.set ([(Am l ha).fKey,([48]:Ag),([]:Ag),Lib.itoa ((Am l ha).fIfVersion)]:List Ag) (Int.toNat 2) hn.1)),.row hd 9 1 (List.map eS hb)]) rfl (bd hT λhs hU hV=>?_))))))))))))))))))
     rw[← hU]
     refine Bf (wm rfl (WL.freeze (i:=0) rfl (WL.up (d:=54) (r:=AV 1 (List.map eS hs)) rfl (Up.fact (i:=0) rfl) (ob hV λhg hW hX=>Cg Tryz.call49 (RQ F hs hg hW) rfl (wm rfl (wv (Az rfl rfl) (wv (Az rfl rfl) (wa rfl (wa rfl (Ak (Ai (Ae (wm rfl (wv (CB rfl rfl) (Ak (cz hX rfl (λhY hZ=>?_) (λhY ga=>?_)))))))))))))))))
     ·refine Ae (wm rfl (wv (r:=rS ([]:Ag)) (Ao rfl) (wa rfl (Ak (Aq (Ac (Av (Ac (Ac (AS ?_))))))))))
      have gb:=Bm hZ he hm
      refine Av (Ac ?_)
      obtain rfl:=As gb
      exact Ap (Cy Ze (A4 rfl) (A4 rfl)) (sS (sS sN)) ⟨rfl,rfl⟩
     ·refine An (AF (Af (wm rfl (wm rfl (AQ (ys:=([hg.1]:List Ag)) (enc:=eS) (css:=[[rS hg.1]]) (xs:=[.tmp 62]) Cn CD Wj rfl rfl rfl ⟨Eb.one rfl (Up.refl _),trivial⟩ rfl Ed rfl rfl rfl (λgp=>?_))))))
      refine ck ga λgc gd=>Exists.elim OO λinf hinf=>BG (xs:=hb) (ys:=([hg.1]:List Ag)) (enc:=eS) (i:=2) Cn hinf.1 hinf.2.1 hinf.2.2.1 hinf.2.2.2 rfl rfl rfl rfl rfl (Ja.w (i:=0) rfl rfl) Ed Lp gc rfl (λge=>?_)
      refine wa rfl (Aj (A8 (AF (Af (ck gd λgf gg=>wv (AX rfl rfl gf) (wm rfl (Aj ?_)))))))
      have gh:=Bb gg he
      exact Ar (A3 (ho,(hb++([hg.1]:List Ag),ha+1),ge) ⟨gh,AcL _⟩ (AC.c rfl (AC.c rfl (AC.c rfl (AC.c rfl AC.nil)))) (sC (sS (sS sN))))
   ·refine Bo (At ?_)
    have gi:=BI h1 he hm
    exact At (Bc (A3 (hb,hd) gi (AC.c rfl AC.nil) (sC sN)))
  ·rintro⟨hk,ht⟩ hl
   refine Cf (l':=[(5,rv ht)]) (H':=[.row ht 9 1 (List.map eS hk)]) rfl rfl ?_
   replace hl:GV F hk=some r:=hl
   unfold GV at hl
   refine AZ (AF (Ae (wm rfl (WL.freeze (i:=0) rfl (WL.up (d:=66) (r:=AV 1 (List.map eS hk)) rfl (Up.fact (i:=0) rfl) (ob hl λgj gk gl=>Cg Tryz.call50 (Xe F hk gj gk) rfl (wv (Az rfl rfl) (wv (Az rfl rfl) (wa rfl (wa rfl (Ak (Aq ?_))))))))))))
   obtain rfl:=As gl
   exact Ap (Cy Ze (A4 rfl) (A4 rfl)) (sS sN) ⟨rfl,rfl⟩
theorem Vn (F:Nat) (body:Ag) (r:Ah×Bool) (h:LF F body=some r):Fn Tryz.prog GE 54 [rS body] [] (λR H=>R=Cm [B9 (Ad r.1),rB r.2]∧H=[]):=by
 refine enter (n:=82) Tryz.func54 rfl Tryz.ntmps54 rfl (λw Z=>?_)
 unfold LF at h
 refine Ae (BT (cs:=[rS ([]:Ag),rB false,rv (.slice none 0 0),rI .i64 0]) JA rfl rfl (λb1=>?_))
 refine wa rfl (Bf (wm rfl (ob h λr2 e4 h3=>Cg Tryz.call76 (To F body r2 e4) rfl (wm rfl (wv (Az rfl rfl) (wv (Az rfl rfl) (wa rfl (wa rfl (Ak (Ai (A6 [(2,rP b1 0),(4,AV 1 (List.map eS r2.1)),(20,rB ((!decide (r2.2=0))||(!decide ((r2.1.length:Int)=4))))] [.blk b1 [rS ([]:Ag),rB false,rv (.slice none 0 0),rI .i64 0] 50] ?_ ?_)))))))))))
 ·refine Af (wm rfl (wv (CB rfl rfl) (wm rfl (AI (!decide (r2.2=0)) (λc5=>?_) (λc5=>?_)))))
  ·refine wf c5 (wf c5 (wf c5 (wv (r:=rB true) (Au rfl c5 rfl) (Aj ?_))))
   exact BM c5
  ·refine wo c5 (wm rfl (wo c5 (wv (Bv (ys:=r2.1) (enc:=eS) Cn rfl) (wo c5 (wv (CB rfl rfl) (DR rfl c5 rfl (Aj ?_)))))))
   exact BM c5
 refine cz h3 rfl (λc6 h7=>?_) (λc6 h8=>?_)
 ·refine Ae (wv (r:=B9 [rS ([]:Ag),rB false,rv (.slice none 0 0),rI .i64 0]) (Lh ) (Bj (i:=0) BV rfl rfl rfl (BE.c rfl) rfl rfl (cs':=[rS ([]:Ag),rB false,rv (.slice none 0 0),rI .i64 0]) rfl (H':=[.blk b1 [rS ([]:Ag),rB false,rv (.slice none 0 0),rI .i64 0] 50]) rfl (wa rfl (Ak (Aq (Ac (WK.upBlk (i:=0) (cs':=[rS ([]:Ag),rB false,AV 4 (List.map Ab ([]:List Aa)),rI .i64 0]) rfl ⟨Up.refl _,Up.refl _,Up.le (E1.nil _),Up.refl _,trivial⟩ ?_)))))))
  obtain rfl:=As h7
  exact Ap (Cy YZ (Gi (i:=0) GB BV rfl rfl rfl) (A4 rfl)) (sS sN) ⟨rfl,rfl⟩
 ·refine An (AF (Ae (wm rfl (ck h8 λg9 hi=>wv (Bh (enc:=eS) (ys:=r2.1) Cn CD rfl rfl g9) (wv (AY Dm rfl rfl) (ck hi λhj hk=>Ie (rs:=[rS (Am r2.1 3)]) (r:=Cm [rI .i64 (AJ (Am r2.1 3)),rI .i64 (BA (Am r2.1 3))]) Tryz.call77 rfl (Xn (Am r2.1 3) hj) rfl rfl (wm rfl (wv (Az rfl rfl) (wv (Az rfl rfl) (wa rfl (wa rfl (Ak (Ai (ck hk λhl hm=>ck hm λg15 hn=>Gw 10 [2,4,5,6] [⟨[],AV 1 (List.map eS r2.1),none,none,none⟩,⟨[0],EL [rS (Am r2.1 0)],none,none,none⟩,⟨[1],rS (Am r2.1 0),none,none,none⟩,⟨[],AV 1 (List.map eS r2.1),none,none,none⟩,⟨[3],EL [rS (Am r2.1 1)],none,none,none⟩,⟨[4],rS (Am r2.1 1),none,none,none⟩,⟨[5],rB (decide ((Am r2.1 1)=([49]:Ag))),none,none,none⟩,⟨[],rI .i64 (AJ (Am r2.1 3)),none,none,none⟩,⟨[2,6,7],B9 [rS (Am r2.1 0),rB (decide ((Am r2.1 1)=([49]:Ag))),rv (.slice none 0 0),rI .i64 (AJ (Am r2.1 3))],none,none,none⟩,⟨[],rv undef,some ([rS ([]:Ag),rB false,rv (.slice none 0 0),rI .i64 0],50),none,none⟩] ?_ (λβ=>?_)))))))))))))))
  ·refine DB (Al rfl) (DB (Bh (enc:=eS) (ys:=r2.1) Cn CD rfl rfl hl) (DB (AY Dm rfl rfl) (DB (Al rfl) (DB (Bh (enc:=eS) (ys:=r2.1) Cn CD rfl rfl g15) (DB (AY Dm rfl rfl) (DB (Ef rfl rfl) (DB (Al rfl) (DB (He rfl rfl rfl rfl rfl rfl) (oal (Aax (cs:=[rS ([]:Ag),rB false,rv (.slice none 0 0),rI .i64 0]) JA rfl) ?_)))))))))
   exact Xy
  refine Ha (H1:=[.blk b1 [rS ([]:Ag),rB false,rv (.slice none 0 0),rI .i64 0] 50,.blk (β 9) [rS ([]:Ag),rB false,rv (.slice none 0 0),rI .i64 0] 50]) [29,30,31,32,33,34,35,36,37,7,2,4,5,6] ?_
  generalize β 9=hd
  refine Bj (i:=1) BV rfl rfl rfl (BE.c rfl) rfl rfl (cs':=[rS (Am r2.1 0),rB (decide ((Am r2.1 1)=([49]:Ag))),rv (.slice none 0 0),rI .i64 (AJ (Am r2.1 3))]) rfl (H':=[.blk b1 [rS ([]:Ag),rB false,rv (.slice none 0 0),rI .i64 0] 50,.blk hd [rS (Am r2.1 0),rB (decide ((Am r2.1 1)=([49]:Ag))),rv (.slice none 0 0),rI .i64 (AJ (Am r2.1 3))] 50]) rfl (Ak (Ai (A6 [(2,rP b1 0),(4,AV 1 (List.map eS r2.1)),(7,rP hd 0),(51,rB ((!decide ((BA (Am r2.1 3))=0))||((!decide ((Am r2.1 1)=([48]:Ag)))&&(!decide ((Am r2.1 1)=([49]:Ag))))))] [.blk b1 [rS ([]:Ag),rB false,rv (.slice none 0 0),rI .i64 0] 50,.blk hd [rS (Am r2.1 0),rB (decide ((Am r2.1 1)=([49]:Ag))),rv (.slice none 0 0),rI .i64 (AJ (Am r2.1 3))] 50] ?_ ?_)))
  ·refine Af (wm rfl (wv (CB rfl rfl) (wm rfl (AI (!decide ((BA (Am r2.1 3))=0)) (λhb=>?_) (λhb=>?_)))))
   ·refine wf hb (wf hb (wf hb (wf hb (wf hb (wu (wu (wu (wu (wf hb (wv (r:=rB true) (Au rfl hb rfl) (Aj ?_)))))))))))
    exact BM hb
   ·refine wo hb (wm rfl (wo hb (wv (Bh (enc:=eS) (ys:=r2.1) Cn CD rfl rfl g15) (wo hb (wv (AY Dm rfl rfl) (wo hb (wv (Hj rfl rfl) (wo hb (wm rfl (AI (!decide ((Am r2.1 1)=([48]:Ag))) (λhe=>?_) (λhe=>?_)))))))))))
    ·refine wo he (wm rfl (wo he (wv (Bh (enc:=eS) (ys:=r2.1) Cn CD rfl rfl g15) (wo he (wv (AY Dm rfl rfl) (wo he (wv (Hj rfl rfl) (wo hb (EF rfl he rfl (DR rfl hb rfl (Aj ?_)))))))))))
     exact BM (And.intro hb he)
    ·refine wf he (wf he (wf he (wf he (wo hb (wv (r:=rB false) (A7 rfl he rfl) (DR rfl hb rfl (Aj ?_)))))))
     exact BM (And.intro hb he)
  refine cz hn rfl (λc20 ho=>?_) (λc20 hp=>?_)
  ·refine Ae (wv (B0 (i:=1) GB BV rfl rfl rfl rfl) (Bj (i:=0) BV rfl rfl rfl (BE.c rfl) rfl rfl (cs':=[rS (Am r2.1 0),rB (decide ((Am r2.1 1)=([49]:Ag))),rv (.slice none 0 0),rI .i64 (AJ (Am r2.1 3))]) rfl (H':=[.blk b1 [rS (Am r2.1 0),rB (decide ((Am r2.1 1)=([49]:Ag))),rv (.slice none 0 0),rI .i64 (AJ (Am r2.1 3))] 50,.blk hd [rS (Am r2.1 0),rB (decide ((Am r2.1 1)=([49]:Ag))),rv (.slice none 0 0),rI .i64 (AJ (Am r2.1 3))] 50]) rfl (wa rfl (Ak (Aq (Ac (WK.upBlk (i:=0) (cs':=[rS (Am r2.1 0),rB (decide ((Am r2.1 1)=([49]:Ag))),AV 4 (List.map Ab ([]:List Aa)),rI .i64 (AJ (Am r2.1 3))]) rfl ⟨Up.refl _,Up.refl _,Up.le (E1.nil _),Up.refl _,trivial⟩ ?_)))))))
   obtain rfl:=As ho
   exact Ap (Cy YZ (Gi (i:=0) GB BV rfl rfl rfl) (A4 rfl)) (sS (sS sN)) ⟨rfl,rfl⟩
  ·refine An (AF (Ai (Ae (vF C3 rfl GR (vL 1 MZ rfl (Ak (cz hp rfl (λhq hr=>?_) (λhq hs=>?_))))))))
   ·refine ck hr λhh ht=>ck ht λhu hw=>A6 [(2,rP b1 0),(3,rB ((decide ((Am r2.1 2)=([]:Ag)))&&(decide ((ov (Dy F (Ah.mk (Am r2.1 0) (decide ((Am r2.1 1)=([49]:Ag))) ([]:(List Aa)) (AJ (Am r2.1 3)))))=0))))] [.blk b1 [rS (Am r2.1 0),rB (decide ((Am r2.1 1)=([49]:Ag))),rv (.slice none 0 0),rI .i64 (AJ (Am r2.1 3))] 50] ?_ ?_
    ·refine AI (decide ((Am r2.1 2)=([]:Ag))) (λhf=>?_) (λhf=>?_)
     ·refine EW (H1:=[.blk b1 [rS (Am r2.1 0),rB (decide ((Am r2.1 1)=([49]:Ag))),rv (.slice none 0 0),rI .i64 (AJ (Am r2.1 3))] 50,.blk hd [rS (Am r2.1 0),rB (decide ((Am r2.1 1)=([49]:Ag))),rv (.slice none 0 0),rI .i64 (AJ (Am r2.1 3))] 50]) [2,4,7] [⟨[],B9 [rS (Am r2.1 0),rB (decide ((Am r2.1 1)=([49]:Ag))),rv (.slice none 0 0),rI .i64 (AJ (Am r2.1 3))],1⟩,⟨[],AV 1 (List.map eS r2.1),0⟩,⟨[1],EL [rS (Am r2.1 2)],0⟩,⟨[2],rS (Am r2.1 2),0⟩,⟨[3],rB (decide ((Am r2.1 2)=([]:Ag))),0⟩,⟨[4],rB (decide ((Am r2.1 2)=([]:Ag))),0⟩,⟨[5],B9 [rS (Am r2.1 0),rB (decide ((Am r2.1 1)=([49]:Ag))),rv (.slice none 0 0),rI .i64 (AJ (Am r2.1 3))],1⟩,⟨[6,5],rI .i64 (ov (Dy F (Ah.mk (Am r2.1 0) (decide ((Am r2.1 1)=([49]:Ag))) ([]:(List Aa)) (AJ (Am r2.1 3))))),0⟩,⟨[7,5],rB (decide ((ov (Dy F (Ah.mk (Am r2.1 0) (decide ((Am r2.1 1)=([49]:Ag))) ([]:(List Aa)) (AJ (Am r2.1 3)))))=0)),0⟩,⟨[5,8],rB (decide ((ov (Dy F (Ah.mk (Am r2.1 0) (decide ((Am r2.1 1)=([49]:Ag))) ([]:(List Aa)) (AJ (Am r2.1 3)))))=0)),0⟩,⟨[0],rv undef,2⟩,⟨[9],rB (decide ((ov (Dy F (Ah.mk (Am r2.1 0) (decide ((Am r2.1 1)=([49]:Ag))) ([]:(List Aa)) (AJ (Am r2.1 3)))))=0)),0⟩] (rle [(11,_),(2,[.blk b1 [rS (Am r2.1 0),rB (decide ((Am r2.1 1)=([49]:Ag))),rv (.slice none 0 0),rI .i64 (AJ (Am r2.1 3))] 50,.blk hd [rS (Am r2.1 0),rB (decide ((Am r2.1 1)=([49]:Ag))),rv (.slice none 0 0),rI .i64 (AJ (Am r2.1 3))] 50])]) [3,2] ?_ ?_
      ·refine of (B0 (i:=1) GB BV rfl rfl rfl rfl) (oq (Al rfl) (oq (Bh (enc:=eS) (ys:=r2.1) Cn CD rfl rfl hh) (oq (AY Dm rfl rfl) (oq (Ef rfl rfl) (oq (Al rfl) (on hf (of (B0 (i:=1) GB BV rfl rfl rfl rfl) (Ee rfl (λH=>PM (b:=decide ((Am r2.1 2)=([]:Ag))) rfl rfl hf (HQ (rs:=[B9 [rS (Am r2.1 0),rB (decide ((Am r2.1 1)=([49]:Ag))),rv (.slice none 0 0),rI .i64 (AJ (Am r2.1 3))]]) (r:=rI .i64 (ov (Dy F (Ah.mk (Am r2.1 0) (decide ((Am r2.1 1)=([49]:Ag))) ([]:(List Aa)) (AJ (Am r2.1 3)))))) Tryz.call60 rfl (Fn.args (Ow F (Ah.mk (Am r2.1 0) (decide ((Am r2.1 1)=([49]:Ag))) ([]:(List Aa)) (AJ (Am r2.1 3))) (ov (Dy F (Ah.mk (Am r2.1 0) (decide ((Am r2.1 1)=([49]:Ag))) ([]:(List Aa)) (AJ (Am r2.1 3))))) (GX (C2 hu hf))) ⟨(E1.agg ⟨E1.refl _,E1.refl _,E1.nil _,E1.refl _,trivial⟩),trivial⟩) rfl)) ?_))))))))
       refine on hf (oq (Bx rfl rfl) (oq (Au rfl hf rfl) (Ij rfl (N3 (C4 (i:=0) BV rfl rfl rfl (BE.c rfl) rfl rfl (cs':=[rS (Am r2.1 0),rB (decide ((Am r2.1 1)=([49]:Ag))),rv (.slice none 0 0),rI .i64 (AJ (Am r2.1 3))]) rfl (H':=[.blk b1 [rS (Am r2.1 0),rB (decide ((Am r2.1 1)=([49]:Ag))),rv (.slice none 0 0),rI .i64 (AJ (Am r2.1 3))] 50,.blk hd [rS (Am r2.1 0),rB (decide ((Am r2.1 1)=([49]:Ag))),rv (.slice none 0 0),rI .i64 (AJ (Am r2.1 3))] 50]) rfl)) ?_)))
       refine oq (Ao rfl) ?_
       exact Cj
      exact BM hf
     ·refine EW (H1:=[.blk b1 [rS (Am r2.1 0),rB (decide ((Am r2.1 1)=([49]:Ag))),rv (.slice none 0 0),rI .i64 (AJ (Am r2.1 3))] 50,.blk hd [rS (Am r2.1 0),rB (decide ((Am r2.1 1)=([49]:Ag))),rv (.slice none 0 0),rI .i64 (AJ (Am r2.1 3))] 50]) [2,4,7] [⟨[],B9 [rS (Am r2.1 0),rB (decide ((Am r2.1 1)=([49]:Ag))),rv (.slice none 0 0),rI .i64 (AJ (Am r2.1 3))],1⟩,⟨[],AV 1 (List.map eS r2.1),0⟩,⟨[1],EL [rS (Am r2.1 2)],0⟩,⟨[2],rS (Am r2.1 2),0⟩,⟨[3],rB (decide ((Am r2.1 2)=([]:Ag))),0⟩,⟨[4],rB (decide ((Am r2.1 2)=([]:Ag))),0⟩,⟨[5],rv undef,0⟩,⟨[6,5],rv undef,0⟩,⟨[7,5],rv undef,0⟩,⟨[5,8],rB false,0⟩,⟨[0],rv undef,2⟩,⟨[9],rB false,0⟩] (rle [(11,_),(2,[.blk b1 [rS (Am r2.1 0),rB (decide ((Am r2.1 1)=([49]:Ag))),rv (.slice none 0 0),rI .i64 (AJ (Am r2.1 3))] 50,.blk hd [rS (Am r2.1 0),rB (decide ((Am r2.1 1)=([49]:Ag))),rv (.slice none 0 0),rI .i64 (AJ (Am r2.1 3))] 50])]) [3,2] ?_ ?_
      ·refine of (B0 (i:=1) GB BV rfl rfl rfl rfl) (oq (Al rfl) (oq (Bh (enc:=eS) (ys:=r2.1) Cn CD rfl rfl hh) (oq (AY Dm rfl rfl) (oq (Ef rfl rfl) (oq (Al rfl) (oz hf (oz hf (oz hf (oq (A7 (b:=decide ((Am r2.1 2)=([]:Ag))) rfl hf rfl) (Ij rfl (N3 (C4 (i:=0) BV rfl rfl rfl (BE.c rfl) rfl rfl (cs':=[rS (Am r2.1 0),rB (decide ((Am r2.1 1)=([49]:Ag))),rv (.slice none 0 0),rI .i64 (AJ (Am r2.1 3))]) rfl (H':=[.blk b1 [rS (Am r2.1 0),rB (decide ((Am r2.1 1)=([49]:Ag))),rv (.slice none 0 0),rI .i64 (AJ (Am r2.1 3))] 50,.blk hd [rS (Am r2.1 0),rB (decide ((Am r2.1 1)=([49]:Ag))),rv (.slice none 0 0),rI .i64 (AJ (Am r2.1 3))] 50]) rfl)) ?_))))))))))
       refine oq (Ao rfl) ?_
       exact Cj
      exact BM hf
    refine Aq (Ac (WK.upBlk (i:=0) (cs':=[rS (Am r2.1 0),rB (decide ((Am r2.1 1)=([49]:Ag))),AV 4 (List.map Ab ([]:List Aa)),rI .i64 (AJ (Am r2.1 3))]) rfl ⟨Up.refl _,Up.refl _,Up.le (E1.nil _),Up.refl _,trivial⟩ ?_))
    obtain rfl:=As hw
    exact Ap (Cy YZ (Gi (i:=0) GB BV rfl rfl rfl) (A4 rfl)) (sS sN) ⟨rfl,rfl⟩
   ·refine An (AF (Ae (wm rfl (ck hs λhx hy=>wv (Bh (enc:=eS) (ys:=r2.1) Cn CD rfl rfl hx) (wv (AY Dm rfl rfl) (ob hy λha hz h0=>Cg Tryz.call78 (Vk F (Am r2.1 2) ha hz) rfl (wm rfl (wv (Az rfl rfl) (wv (Az rfl rfl) (wa rfl (wa rfl (Bf (wm rfl (vF C3 rfl Dk (BB (i:=1) Dk rfl rfl (Co rfl) rfl rfl (cs':=[rS (Am r2.1 0),rB (decide ((Am r2.1 1)=([49]:Ag))),AV 4 (List.map Ab ha.1),rI .i64 (AJ (Am r2.1 3))]) rfl (H':=[.blk b1 [rS ([]:Ag),rB false,rv (.slice none 0 0),rI .i64 0] 50,.blk hd [rS (Am r2.1 0),rB (decide ((Am r2.1 1)=([49]:Ag))),AV 4 (List.map Ab ha.1),rI .i64 (AJ (Am r2.1 3))] 50]) rfl (Ak (ck h0 λh1 h2=>A6 [(2,rP b1 0),(3,rB ((decide (ha.2=0))&&(decide ((ov (Dy F (Ah.mk (Am r2.1 0) (decide ((Am r2.1 1)=([49]:Ag))) ha.1 (AJ (Am r2.1 3)))))=0))))] [.blk b1 [rS (Am r2.1 0),rB (decide ((Am r2.1 1)=([49]:Ag))),AV 4 (List.map Ab ha.1),rI .i64 (AJ (Am r2.1 3))] 50] ?_ ?_)))))))))))))))))
    ·refine AI (decide (ha.2=0)) (λhg=>?_) (λhg=>?_)
     ·refine EW (H1:=[.blk b1 [rS (Am r2.1 0),rB (decide ((Am r2.1 1)=([49]:Ag))),AV 4 (List.map Ab ha.1),rI .i64 (AJ (Am r2.1 3))] 50,.blk hd [rS (Am r2.1 0),rB (decide ((Am r2.1 1)=([49]:Ag))),AV 4 (List.map Ab ha.1),rI .i64 (AJ (Am r2.1 3))] 50]) [2,5,7] [⟨[],B9 [rS (Am r2.1 0),rB (decide ((Am r2.1 1)=([49]:Ag))),AV 4 (List.map Ab ha.1),rI .i64 (AJ (Am r2.1 3))],1⟩,⟨[],rI .i64 ha.2,0⟩,⟨[1],rB (decide (ha.2=0)),0⟩,⟨[2],rB (decide (ha.2=0)),0⟩,⟨[3],B9 [rS (Am r2.1 0),rB (decide ((Am r2.1 1)=([49]:Ag))),AV 4 (List.map Ab ha.1),rI .i64 (AJ (Am r2.1 3))],1⟩,⟨[4,3],rI .i64 (ov (Dy F (Ah.mk (Am r2.1 0) (decide ((Am r2.1 1)=([49]:Ag))) ha.1 (AJ (Am r2.1 3))))),0⟩,⟨[5,3],rB (decide ((ov (Dy F (Ah.mk (Am r2.1 0) (decide ((Am r2.1 1)=([49]:Ag))) ha.1 (AJ (Am r2.1 3)))))=0)),0⟩,⟨[3,6],rB (decide ((ov (Dy F (Ah.mk (Am r2.1 0) (decide ((Am r2.1 1)=([49]:Ag))) ha.1 (AJ (Am r2.1 3)))))=0)),0⟩,⟨[0],rv undef,2⟩,⟨[7],rB (decide ((ov (Dy F (Ah.mk (Am r2.1 0) (decide ((Am r2.1 1)=([49]:Ag))) ha.1 (AJ (Am r2.1 3)))))=0)),0⟩] (rle [(9,_),(2,[.blk b1 [rS (Am r2.1 0),rB (decide ((Am r2.1 1)=([49]:Ag))),AV 4 (List.map Ab ha.1),rI .i64 (AJ (Am r2.1 3))] 50,.blk hd [rS (Am r2.1 0),rB (decide ((Am r2.1 1)=([49]:Ag))),AV 4 (List.map Ab ha.1),rI .i64 (AJ (Am r2.1 3))] 50])]) [3,2] ?_ ?_
      ·refine of (B0 (i:=1) GB BV rfl rfl rfl rfl) (oq (Al rfl) (oq (Bx rfl rfl) (oq (Al rfl) (on hg (of (B0 (i:=1) GB BV rfl rfl rfl rfl) (Ee rfl (λH=>PM (b:=decide (ha.2=0)) rfl rfl hg (HR Tryz.call60 (Ow F (Ah.mk (Am r2.1 0) (decide ((Am r2.1 1)=([49]:Ag))) ha.1 (AJ (Am r2.1 3))) (ov (Dy F (Ah.mk (Am r2.1 0) (decide ((Am r2.1 1)=([49]:Ag))) ha.1 (AJ (Am r2.1 3))))) (GX (C2 h1 hg))) rfl)) ?_))))))
       refine on hg (oq (Bx rfl rfl) (oq (Au rfl hg rfl) (Ij rfl (N3 (C4 (i:=0) BV rfl rfl rfl (BE.c rfl) rfl rfl (cs':=[rS (Am r2.1 0),rB (decide ((Am r2.1 1)=([49]:Ag))),AV 4 (List.map Ab ha.1),rI .i64 (AJ (Am r2.1 3))]) rfl (H':=[.blk b1 [rS (Am r2.1 0),rB (decide ((Am r2.1 1)=([49]:Ag))),AV 4 (List.map Ab ha.1),rI .i64 (AJ (Am r2.1 3))] 50,.blk hd [rS (Am r2.1 0),rB (decide ((Am r2.1 1)=([49]:Ag))),AV 4 (List.map Ab ha.1),rI .i64 (AJ (Am r2.1 3))] 50]) rfl)) ?_)))
       refine oq (Ao rfl) ?_
       exact Cj
      exact BM hg
     ·refine EW (H1:=[.blk b1 [rS (Am r2.1 0),rB (decide ((Am r2.1 1)=([49]:Ag))),AV 4 (List.map Ab ha.1),rI .i64 (AJ (Am r2.1 3))] 50,.blk hd [rS (Am r2.1 0),rB (decide ((Am r2.1 1)=([49]:Ag))),AV 4 (List.map Ab ha.1),rI .i64 (AJ (Am r2.1 3))] 50]) [2,5,7] [⟨[],B9 [rS (Am r2.1 0),rB (decide ((Am r2.1 1)=([49]:Ag))),AV 4 (List.map Ab ha.1),rI .i64 (AJ (Am r2.1 3))],1⟩,⟨[],rI .i64 ha.2,0⟩,⟨[1],rB (decide (ha.2=0)),0⟩,⟨[2],rB (decide (ha.2=0)),0⟩,⟨[3],rv undef,0⟩,⟨[4,3],rv undef,0⟩,⟨[5,3],rv undef,0⟩,⟨[3,6],rB false,0⟩,⟨[0],rv undef,2⟩,⟨[7],rB false,0⟩] (rle [(9,_),(2,[.blk b1 [rS (Am r2.1 0),rB (decide ((Am r2.1 1)=([49]:Ag))),AV 4 (List.map Ab ha.1),rI .i64 (AJ (Am r2.1 3))] 50,.blk hd [rS (Am r2.1 0),rB (decide ((Am r2.1 1)=([49]:Ag))),AV 4 (List.map Ab ha.1),rI .i64 (AJ (Am r2.1 3))] 50])]) [3,2] ?_ ?_
      ·refine of (B0 (i:=1) GB BV rfl rfl rfl rfl) (oq (Al rfl) (oq (Bx rfl rfl) (oq (Al rfl) (oz hg (oz hg (oz hg (oq (A7 (b:=decide (ha.2=0)) rfl hg rfl) (Ij rfl (N3 (C4 (i:=0) BV rfl rfl rfl (BE.c rfl) rfl rfl (cs':=[rS (Am r2.1 0),rB (decide ((Am r2.1 1)=([49]:Ag))),AV 4 (List.map Ab ha.1),rI .i64 (AJ (Am r2.1 3))]) rfl (H':=[.blk b1 [rS (Am r2.1 0),rB (decide ((Am r2.1 1)=([49]:Ag))),AV 4 (List.map Ab ha.1),rI .i64 (AJ (Am r2.1 3))] 50,.blk hd [rS (Am r2.1 0),rB (decide ((Am r2.1 1)=([49]:Ag))),AV 4 (List.map Ab ha.1),rI .i64 (AJ (Am r2.1 3))] 50]) rfl)) ?_))))))))
       refine oq (Ao rfl) ?_
       exact Cj
      exact BM hg
    refine Aq ?_
    obtain rfl:=As h2
    exact Ap (Cy YZ (Gi (i:=0) GB BV rfl rfl rfl) (A4 rfl)) (sS sN) ⟨rfl,rfl⟩
theorem Tl (F:Nat) (rc:Ag) (r:(List Ah)×Int) (h:JJ F rc=some r):Fn Tryz.prog GE 26 [rS rc] [] (λR H=>R=Cm [AV 4 (List.map Ad r.1),rI .i64 r.2]∧H=[]):=by
 refine enter (n:=48) Tryz.func26 rfl Tryz.ntmps26 rfl (λw Z=>?_)
 unfold JJ at h
 refine Ae (wa rfl (wa rfl (Bf (wm rfl (ob h λr1 e3 h2=>Cg Tryz.call53 (Vp F rc r1 e3) rfl (wm rfl (wv (Az rfl rfl) (wv (Az rfl rfl) (wa rfl (wa rfl (Ak (Ai (A6 [(0,rS rc),(4,AV 1 (List.map eS r1.1)),(23,rB ((!decide (r1.2=(rc.length:Int)))||(decide (256<(r1.1.length:Int)))))] [] ?_ ?_)))))))))))))
 ·refine Af (wm rfl (wm rfl (wv (AW BC rfl) (wv (CB rfl rfl) (wm rfl (AI (!decide (r1.2=(rc.length:Int))) (λc4=>?_) (λc4=>?_)))))))
  ·refine wf c4 (wf c4 (wf c4 (wv (r:=rB true) (Au rfl c4 rfl) (Aj ?_))))
   exact BM c4
  ·refine wo c4 (wm rfl (wo c4 (wv (Bv (ys:=r1.1) (enc:=eS) Cn rfl) (wo c4 (wv (Cb rfl rfl) (DR rfl c4 rfl (Aj ?_)))))))
   exact BM c4
 refine cz h2 rfl (λc5 h6=>?_) (λc5 h7=>?_)
 ·refine Ae (wa rfl (wa rfl (Ak (Aq (Ac (WK.up (d:=2) (r:=AV 4 (List.map Ad ([]:List Ah))) rfl (Up.le (E1.nil _)) ?_))))))
  obtain rfl:=As h6
  exact Ap (Cy Zc (A4 rfl) (A4 rfl)) sN ⟨rfl,rfl⟩
 ·refine An (AF (Ae (wa rfl (Ak (Ai (Ae (wm rfl (wv (Bv (ys:=r1.1) (enc:=eS) Cn rfl) (wv (r:=rI .i64 0) (Al rfl) (Ak (AB (WC.nilrow (e:=50) (sz:=4) (ob h7 λhk hl hi=>Bk (S:=Nat×((List Ah)×Int)×(Value)) (V:=((List Ah))×(Value)) 0 (λσ=>BF (λσ=>D4 F r1 σ.1 σ.2) σ.1 σ.2.1=some hk) (λσ=>[(0,rS rc),(4,AV 1 (List.map eS r1.1)),(6,rv σ.2.2),(25,rI .i64 (r1.1.length:Int)),(26,rI .i64 σ.2.1.2)]) (λσ=>[.row σ.2.2 50 4 (List.map Ad σ.2.1.1)]) (λσ=>σ.1) (F,(([]:List Ah),0),(.slice none 0 0                                                  )) hl (AC.c5 rfl rfl rfl rfl rfl AC.nil) (sC sN) (λσ=>GW rc σ.1=some r) (λσ=>[(0,rS rc),(6,rv σ.2)]) (λσ=>[.row σ.2 50 4 (List.map Ad σ.1)]) ?_ ?_)))))))))))))
  ·rintro⟨hE,⟨hb,hd⟩,v46⟩ hm
   refine BO (l':=[(0,rS rc),(4,AV 1 (List.map eS r1.1)),(6,rv v46),(25,rI .i64 (r1.1.length:Int)),(26,rI .i64 hd)]) (H':=[.row v46 50 4 (List.map Ad hb)]) rfl rfl ?_
   obtain⟨hn,rfl,ho,he,hg⟩:=Ce hm
   replace he:D4 F r1 hb hd=some ho:=he
   unfold D4 at he
   refine Ae (wv (BY rfl rfl) (Ak (Ai (cz he rfl (λhp hq=>?_) (λhp hr=>?_)))))
   ·refine An (AF (Ai (AB (Ae (wm rfl (wa rfl (Bf (wm rfl (wm rfl (ck hq λhs ht=>wv (Bh (enc:=eS) (ys:=r1.1) Cn CD rfl rfl hs) (wv (AY Dm rfl rfl) (ob ht λha hu hw=>Cg Tryz.call54 (Vn F (Am r1.1 hd) ha hu) rfl (wm rfl (wv (Az rfl rfl) (wv (Az rfl rfl) (BT (cs:=[rS ([]:Ag),rB false,rv (.slice none 0 0),rI .i64 0]) JA rfl rfl (λhx=>?_)))))))))))))))))
    refine Bj (i:=0) BV rfl rfl rfl (BE.c rfl) rfl rfl (cs':=[rS ha.1.fKey,rB ha.1.fDelete,AV 4 (List.map Ab ha.1.fValue),rI .i64 ha.1.fIfVersion]) rfl (H':=[.blk hx (Ad ha.1) 50,.row v46 50 4 (List.map Ad hb)]) rfl (wa rfl (Ak (Ai (Ae (wm rfl (wv (Cd rfl) (Ak (cz hw rfl (λc85 hy=>?_) (λc85 hz=>?_)))))))))
    ·refine Ae (wa rfl (wa rfl (Ak (Aq (Ac (Av (Ac (Ac (AS ?_)))))))))
     have h0:=Bm hy hg hi
     refine Av (Ac (WK.up (d:=2) (r:=AV 4 (List.map Ad ([]:List Ah))) rfl (Up.le (E1.nil _)) ?_))
     obtain rfl:=As h0
     exact Ap (Cy Zc (A4 rfl) (A4 rfl)) (sS (sS sN)) ⟨rfl,rfl⟩
    ·refine An (AF (Af (wm rfl (wv (B0 (i:=0) GB BV rfl rfl rfl rfl) (AQ (ys:=([ha.1]:List Ah)) (enc:=Ad) (css:=[[rS ha.1.fKey,rB ha.1.fDelete,AV 4 (List.map Ab ha.1.fValue),rI .i64 ha.1.fIfVersion]]) (xs:=[.tmp 40]) CN BV JA rfl rfl rfl ⟨Eb.agg ⟨Up.refl _,Up.refl _,Up.refl _,Up.refl _,trivial⟩,trivial⟩ rfl Cl rfl rfl rfl (λhG=>?_))))))
     refine ck hz λh1 h3=>Exists.elim XZ λinf hinf=>BG (xs:=hb) (ys:=([ha.1]:List Ah)) (enc:=Ad) (i:=2) CN hinf.1 hinf.2.1 hinf.2.2.1 hinf.2.2.2 rfl rfl rfl rfl rfl (Ja.w (i:=0) rfl rfl) Cl J3 h1 rfl (λh4=>?_)
     refine wa rfl (Aj (A8 (AF (Af (ck h3 λh5 h8=>wv (AX rfl rfl h5) (wm rfl (Aj ?_)))))))
     have h9:=Bb h8 hg
     exact Ar (A3 (hn,(hb++([ha.1]:List Ah),hd+1),h4) ⟨h9,AcL _⟩ (AC.c5 rfl rfl rfl rfl rfl AC.nil) (sC (sS (sS sN))))
   ·refine Bo (At ?_)
    have hA:=BI hr hg hi
    exact At (Bc (A3 (hb,v46) hA (AC.c rfl (AC.c rfl AC.nil)) (sC sN)))
  ·rintro⟨hh,hj⟩ hf
   refine Cf (l':=[(0,rS rc),(6,rv hj)]) (H':=[.row hj 50 4 (List.map Ad hh)]) rfl rfl ?_
   replace hf:GW rc hh=some r:=hf
   unfold GW at hf
   refine AZ (AF (Ai (Ae (wm rfl (wv (AW BC rfl) (wv (Cb rfl rfl) (Ak (cz hf rfl (λhB hC=>?_) (λhB hD=>?_)))))))))
   ·refine Ae (wa rfl (wa rfl (Ak (Aq (Ac (WK.up (d:=2) (r:=AV 4 (List.map Ad ([]:List Ah))) rfl (Up.le (E1.nil _)) ?_))))))
    obtain rfl:=As hC
    exact Ap (Cy Zc (A4 rfl) (A4 rfl)) (sS sN) ⟨rfl,rfl⟩
   ·refine An (AF (Ae (wm rfl (wa rfl (wa rfl (Ak (Aq (WK.freeze (i:=0) rfl (WK.up (d:=2) (r:=AV 4 (List.map Ad hh)) rfl (Up.fact (i:=0) rfl) ?_)))))))))
    obtain rfl:=As hD
    exact Ap (Cy Zc (A4 rfl) (A4 rfl)) (sS sN) ⟨rfl,rfl⟩
theorem RF (F:Nat) (a:(List Ah)) (b:(List Ah)) (r:Bool) (h:Hc F a b=some r):Fn Tryz.prog GE 27 [AV 4 (List.map Ad a),AV 4 (List.map Ad b)] [] (λR H=>R=rB r∧H=[]):=by
 refine enter (n:=68) Tryz.func27 rfl Tryz.ntmps27 rfl (λw Z=>?_)
 unfold Hc at h
 refine Ae (wa rfl (Ak (Ai (Ae (wm rfl (wv (Bv (ys:=a) (enc:=Ad) CN rfl) (wm rfl (wv (Bv (ys:=b) (enc:=Ad) CN rfl) (wv (CB rfl rfl) (Ak (cz h rfl (λc1 h2=>?_) (λc1 h3=>?_))))))))))))
 ·refine Ae (wa rfl (Ak (Aq (Ac ?_))))
  obtain rfl:=As h2
  exact Ap (BW Tryz.results27 (A4 rfl)) sN ⟨rfl,rfl⟩
 ·refine An (AF (Ai (Ae (wm rfl (wv (Bv (ys:=a) (enc:=Ad) CN rfl) (wv (r:=rI .i64 0) (Al rfl) (Ak (AB (ob h3 λhl hm hk=>Bk (S:=Nat×(Int)×(Unit)) (V:=(Unit)×(Unit)) 0 (λσ=>BF (λσ=>E7 F a b σ) σ.1 σ.2.1=some hl) (λσ=>[(0,AV 4 (List.map Ad a)),(1,AV 4 (List.map Ad b)),(12,rI .i64 (a.length:Int)),(13,rI .i64 σ.2.1)]) (λσ=>[]) (λσ=>σ.1) (F,0,()) hm (AC.c rfl (AC.c rfl (AC.c rfl (AC.c rfl AC.nil)))) sN (λσ=>Kk =some r) (λσ=>[]) (λσ=>[]) ?_ ?_)))))))))
  ·rintro⟨h7,ha,⟨⟩⟩ hn
   refine BO (l':=[(0,AV 4 (List.map Ad a)),(1,AV 4 (List.map Ad b)),(12,rI .i64 (a.length:Int)),(13,rI .i64 ha)]) (H':=[]) rfl rfl ?_
   obtain⟨ho,rfl,hp,hh,hj⟩:=Ce hn
   replace hh:E7 F a b ha=some hp:=hh
   unfold E7 at hh
   refine Ae (wv (BY rfl rfl) (Ak (Ai (cz hh rfl (λhq hr=>?_) (λhq hs=>?_)))))
   ·refine An (AF (Ai (AB (Ae (wm rfl (wa rfl (Ak (ck hr λhf ht=>ck ht λhg hu=>ck hu λhw hx=>A6 [(0,AV 4 (List.map Ad a)),(1,AV 4 (List.map Ad b)),(12,rI .i64 (a.length:Int)),(13,rI .i64 ha),(16,AV 4 (List.map Ad a)),(17,rI .i64 ha),(18,EL (Ad (Am a ha))),(19,EL (Ad (Am a ha))),(20,rS ((Am a ha).fKey)),(21,AV 4 (List.map Ad b)),(22,rI .i64 ha),(23,EL (Ad (Am b ha))),(24,EL (Ad (Am b ha))),(25,rS ((Am b ha).fKey)),(26,rB (!decide (((Am a ha).fKey)=((Am b ha).fKey)))),(27,rB (!decide (((Am a ha).fKey)=((Am b ha).fKey)))),(39,rB ((!decide (((Am a ha).fKey)=((Am b ha).fKey)))||(!(((Am a ha).fDelete) ==((Am b ha).fDelete))))),(40,rB ((!decide (((Am a ha).fKey)=((Am b ha).fKey)))||(!(((Am a ha).fDelete) ==((Am b ha).fDelete))))),(52,rB ((!decide (((Am a ha).fKey)=((Am b ha).fKey)))||((!(((Am a ha).fDelete) ==((Am b ha).fDelete)))||(!decide (((Am a ha).fIfVersion)=((Am b ha).fIfVersion)))))),(53,rB ((!decide (((Am a ha).fKey)=((Am b ha).fKey)))||((!(((Am a ha).fDelete) ==((Am b ha).fDelete)))||(!decide (((Am a ha).fIfVersion)=((Am b ha).fIfVersion)))))),(66,rB ((!decide (((Am a ha).fKey)=((Am b ha).fKey)))||((!(((Am a ha).fDelete) ==((Am b ha).fDelete)))||((!decide (((Am a ha).fIfVersion)=((Am b ha).fIfVersion)))||(!(ov (Hd F ((Am a ha).fValue) ((Am b ha).fValue))))))))] [] ?_ ?_))))))))
    ·refine AI (!decide (((Am a ha).fKey)=((Am b ha).fKey))) (λhb=>?_) (λhb=>?_)
     ·refine CH [0,1,5,12,13] [⟨[],AV 4 (List.map Ad a),0⟩,⟨[],rI .i64 ha,0⟩,⟨[0,1],EL (Ad (Am a ha)),0⟩,⟨[2],EL (Ad (Am a ha)),0⟩,⟨[3],rS ((Am a ha).fKey),0⟩,⟨[],AV 4 (List.map Ad b),0⟩,⟨[],rI .i64 ha,0⟩,⟨[5,6],EL (Ad (Am b ha)),0⟩,⟨[7],EL (Ad (Am b ha)),0⟩,⟨[8],rS ((Am b ha).fKey),0⟩,⟨[4,9],rB (!decide (((Am a ha).fKey)=((Am b ha).fKey))),0⟩,⟨[10],rB (!decide (((Am a ha).fKey)=((Am b ha).fKey))),0⟩,⟨[11],rv undef,0⟩,⟨[11],rv undef,0⟩,⟨[12,13,11],rv undef,0⟩,⟨[14,11],rv undef,0⟩,⟨[15,11],rv undef,0⟩,⟨[11],rv undef,0⟩,⟨[11],rv undef,0⟩,⟨[17,18,11],rv undef,0⟩,⟨[19,11],rv undef,0⟩,⟨[20,11],rv undef,0⟩,⟨[16,21,11],rv undef,0⟩,⟨[11,22],rB true,0⟩,⟨[23],rB true,0⟩,⟨[24],rv undef,0⟩,⟨[24],rv undef,0⟩,⟨[25,26,24],rv undef,0⟩,⟨[27,24],rv undef,0⟩,⟨[28,24],rv undef,0⟩,⟨[24],rv undef,0⟩,⟨[24],rv undef,0⟩,⟨[30,31,24],rv undef,0⟩,⟨[32,24],rv undef,0⟩,⟨[33,24],rv undef,0⟩,⟨[29,34,24],rv undef,0⟩,⟨[24,35],rB true,0⟩,⟨[36],rB true,0⟩,⟨[37],rv undef,0⟩,⟨[37],rv undef,0⟩,⟨[38,39,37],rv undef,0⟩,⟨[40,37],rv undef,0⟩,⟨[41,37],rv undef,0⟩,⟨[37],rv undef,0⟩,⟨[37],rv undef,0⟩,⟨[43,44,37],rv undef,0⟩,⟨[45,37],rv undef,0⟩,⟨[46,37],rv undef,0⟩,⟨[42,47,37],rv undef,0⟩,⟨[48,37],rv undef,0⟩,⟨[37,49],rB true,0⟩] [16,17,18,19,20,21,22,23,24,25,26,27,28,29,30,31,32,33,34,35,36,37,38,39,40,41,42,43,44,45,46,47,48,49,50,51,52,53,54,55,56,57,58,59,60,61,62,63,64,65,66,0,1,12,13] ?_ ?_
      ·refine oq (Al rfl) (oq (Al rfl) (oq (Bh (enc:=Ad) (ys:=a) CN BV rfl rfl hf) (oq (AU C3 rfl CD rfl rfl) (oq (AY Dm rfl rfl) (oq (Al rfl) (oq (Al rfl) (oq (Bh (enc:=Ad) (ys:=b) CN BV rfl rfl hg) (oq (AU C3 rfl CD rfl rfl) (oq (AY Dm rfl rfl) (oq (Hj rfl rfl) (oq (Al rfl) (oz hb (oz hb (oz hb (oz hb (oz hb (oz hb (oz hb (oz hb (oz hb (oz hb (oz hb (oq (Au (b:=!decide (((Am a ha).fKey)=((Am b ha).fKey))) rfl hb rfl) ?_)))))))))))))))))))))))
       refine oq (Al rfl) (oz rfl (oz rfl (oz rfl (oz rfl (oz rfl (oz rfl (oz rfl (oz rfl (oz rfl (oz rfl (oz rfl (oq (Au (b:=true) rfl rfl rfl) (oq (Al rfl) (oz rfl (oz rfl (oz rfl (oz rfl (oz rfl (oz rfl (oz rfl (oz rfl (oz rfl (oz rfl ?_)))))))))))))))))))))))
       refine oz rfl (oz rfl (oq (Au (b:=true) rfl rfl rfl) ?_))
       exact Cj
      exact BM hb
     ·refine AI (!(((Am a ha).fDelete) ==((Am b ha).fDelete))) (λhd=>?_) (λhd=>?_)
      ·refine CH [0,1,5,12,13] [⟨[],AV 4 (List.map Ad a),0⟩,⟨[],rI .i64 ha,0⟩,⟨[0,1],EL (Ad (Am a ha)),0⟩,⟨[2],EL (Ad (Am a ha)),0⟩,⟨[3],rS ((Am a ha).fKey),0⟩,⟨[],AV 4 (List.map Ad b),0⟩,⟨[],rI .i64 ha,0⟩,⟨[5,6],EL (Ad (Am b ha)),0⟩,⟨[7],EL (Ad (Am b ha)),0⟩,⟨[8],rS ((Am b ha).fKey),0⟩,⟨[4,9],rB (!decide (((Am a ha).fKey)=((Am b ha).fKey))),0⟩,⟨[10],rB (!decide (((Am a ha).fKey)=((Am b ha).fKey))),0⟩,⟨[11],AV 4 (List.map Ad a),0⟩,⟨[11],rI .i64 ha,0⟩,⟨[12,13,11],EL (Ad (Am a ha)),0⟩,⟨[14,11],EL [rB ((Am a ha).fDelete),AV 4 (List.map Ab ((Am a ha).fValue)),rI .i64 ((Am a ha).fIfVersion)],0⟩,⟨[15,11],rB ((Am a ha).fDelete),0⟩,⟨[11],AV 4 (List.map Ad b),0⟩,⟨[11],rI .i64 ha,0⟩,⟨[17,18,11],EL (Ad (Am b ha)),0⟩,⟨[19,11],EL [rB ((Am b ha).fDelete),AV 4 (List.map Ab ((Am b ha).fValue)),rI .i64 ((Am b ha).fIfVersion)],0⟩,⟨[20,11],rB ((Am b ha).fDelete),0⟩,⟨[16,21,11],rB (!(((Am a ha).fDelete) ==((Am b ha).fDelete))),0⟩,⟨[11,22],rB (!(((Am a ha).fDelete) ==((Am b ha).fDelete))),0⟩,⟨[23],rB (!(((Am a ha).fDelete) ==((Am b ha).fDelete))),0⟩,⟨[24],rv undef,0⟩,⟨[24],rv undef,0⟩,⟨[25,26,24],rv undef,0⟩,⟨[27,24],rv undef,0⟩,⟨[28,24],rv undef,0⟩,⟨[24],rv undef,0⟩,⟨[24],rv undef,0⟩,⟨[30,31,24],rv undef,0⟩,⟨[32,24],rv undef,0⟩,⟨[33,24],rv undef,0⟩,⟨[29,34,24],rv undef,0⟩,⟨[24,35],rB true,0⟩,⟨[36],rB true,0⟩,⟨[37],rv undef,0⟩,⟨[37],rv undef,0⟩,⟨[38,39,37],rv undef,0⟩,⟨[40,37],rv undef,0⟩,⟨[41,37],rv undef,0⟩,⟨[37],rv undef,0⟩,⟨[37],rv undef,0⟩,⟨[43,44,37],rv undef,0⟩,⟨[45,37],rv undef,0⟩,⟨[46,37],rv undef,0⟩,⟨[42,47,37],rv undef,0⟩,⟨[48,37],rv undef,0⟩,⟨[37,49],rB true,0⟩] [16,17,18,19,20,21,22,23,24,25,26,27,28,29,30,31,32,33,34,35,36,37,38,39,40,41,42,43,44,45,46,47,48,49,50,51,52,53,54,55,56,57,58,59,60,61,62,63,64,65,66,0,1,12,13] ?_ ?_
       ·refine oq (Al rfl) (oq (Al rfl) (oq (Bh (enc:=Ad) (ys:=a) CN BV rfl rfl hf) (oq (AU C3 rfl CD rfl rfl) (oq (AY Dm rfl rfl) (oq (Al rfl) (oq (Al rfl) (oq (Bh (enc:=Ad) (ys:=b) CN BV rfl rfl hg) (oq (AU C3 rfl CD rfl rfl) (oq (AY Dm rfl rfl) (oq (Hj rfl rfl) (oq (Al rfl) (on hb (oq (Al rfl) (on hb (oq (Al rfl) (on hb (oq (Bh (enc:=Ad) (ys:=a) CN BV rfl rfl hf) (on hb (oq (AU C3 rfl GR rfl rfl) (on hb (oq (AY MZ rfl rfl) (on hb (oq (Al rfl) ?_)))))))))))))))))))))))
        refine on hb (oq (Al rfl) (on hb (oq (Bh (enc:=Ad) (ys:=b) CN BV rfl rfl hg) (on hb (oq (AU C3 rfl GR rfl rfl) (on hb (oq (AY MZ rfl rfl) (on hb (oq (Uk yu4 rfl rfl) (oq (A7 rfl hb rfl) (oq (Al rfl) (oz hd (oz hd (oz hd (oz hd (oz hd (oz hd (oz hd (oz hd (oz hd (oz hd (oz hd (oq (Au (b:=!(((Am a ha).fDelete) ==((Am b ha).fDelete))) rfl hd rfl) ?_)))))))))))))))))))))))
        refine oq (Al rfl) (oz rfl (oz rfl (oz rfl (oz rfl (oz rfl (oz rfl (oz rfl (oz rfl (oz rfl (oz rfl (oz rfl (oz rfl (oq (Au (b:=true) rfl rfl rfl) ?_)))))))))))))
        exact Cj
       exact BM (And.intro hb hd)
      ·refine AI (!decide (((Am a ha).fIfVersion)=((Am b ha).fIfVersion))) (λhe=>?_) (λhe=>?_)
       ·refine CH [0,1,5,12,13] [⟨[],AV 4 (List.map Ad a),0⟩,⟨[],rI .i64 ha,0⟩,⟨[0,1],EL (Ad (Am a ha)),0⟩,⟨[2],EL (Ad (Am a ha)),0⟩,⟨[3],rS ((Am a ha).fKey),0⟩,⟨[],AV 4 (List.map Ad b),0⟩,⟨[],rI .i64 ha,0⟩,⟨[5,6],EL (Ad (Am b ha)),0⟩,⟨[7],EL (Ad (Am b ha)),0⟩,⟨[8],rS ((Am b ha).fKey),0⟩,⟨[4,9],rB (!decide (((Am a ha).fKey)=((Am b ha).fKey))),0⟩,⟨[10],rB (!decide (((Am a ha).fKey)=((Am b ha).fKey))),0⟩,⟨[11],AV 4 (List.map Ad a),0⟩,⟨[11],rI .i64 ha,0⟩,⟨[12,13,11],EL (Ad (Am a ha)),0⟩,⟨[14,11],EL [rB ((Am a ha).fDelete),AV 4 (List.map Ab ((Am a ha).fValue)),rI .i64 ((Am a ha).fIfVersion)],0⟩,⟨[15,11],rB ((Am a ha).fDelete),0⟩,⟨[11],AV 4 (List.map Ad b),0⟩,⟨[11],rI .i64 ha,0⟩,⟨[17,18,11],EL (Ad (Am b ha)),0⟩,⟨[19,11],EL [rB ((Am b ha).fDelete),AV 4 (List.map Ab ((Am b ha).fValue)),rI .i64 ((Am b ha).fIfVersion)],0⟩,⟨[20,11],rB ((Am b ha).fDelete),0⟩,⟨[16,21,11],rB (!(((Am a ha).fDelete) ==((Am b ha).fDelete))),0⟩,⟨[11,22],rB (!(((Am a ha).fDelete) ==((Am b ha).fDelete))),0⟩,⟨[23],rB (!(((Am a ha).fDelete) ==((Am b ha).fDelete))),0⟩,⟨[24],AV 4 (List.map Ad a),0⟩,⟨[24],rI .i64 ha,0⟩,⟨[25,26,24],EL (Ad (Am a ha)),0⟩,⟨[27,24],EL [rI .i64 ((Am a ha).fIfVersion)],0⟩,⟨[28,24],rI .i64 ((Am a ha).fIfVersion),0⟩,⟨[24],AV 4 (List.map Ad b),0⟩,⟨[24],rI .i64 ha,0⟩,⟨[30,31,24],EL (Ad (Am b ha)),0⟩,⟨[32,24],EL [rI .i64 ((Am b ha).fIfVersion)],0⟩,⟨[33,24],rI .i64 ((Am b ha).fIfVersion),0⟩,⟨[29,34,24],rB (!decide (((Am a ha).fIfVersion)=((Am b ha).fIfVersion))),0⟩,⟨[24,35],rB (!decide (((Am a ha).fIfVersion)=((Am b ha).fIfVersion))),0⟩,⟨[36],rB (!decide (((Am a ha).fIfVersion)=((Am b ha).fIfVersion))),0⟩,⟨[37],rv undef,0⟩,⟨[37],rv undef,0⟩,⟨[38,39,37],rv undef,0⟩,⟨[40,37],rv undef,0⟩,⟨[41,37],rv undef,0⟩,⟨[37],rv undef,0⟩,⟨[37],rv undef,0⟩,⟨[43,44,37],rv undef,0⟩,⟨[45,37],rv undef,0⟩,⟨[46,37],rv undef,0⟩,⟨[42,47,37],rv undef,0⟩,⟨[48,37],rv undef,0⟩,⟨[37,49],rB true,0⟩] [16,17,18,19,20,21,22,23,24,25,26,27,28,29,30,31,32,33,34,35,36,37,38,39,40,41,42,43,44,45,46,47,48,49,50,51,52,53,54,55,56,57,58,59,60,61,62,63,64,65,66,0,1,12,13] ?_ ?_
        ·refine oq (Al rfl) (oq (Al rfl) (oq (Bh (enc:=Ad) (ys:=a) CN BV rfl rfl hf) (oq (AU C3 rfl CD rfl rfl) (oq (AY Dm rfl rfl) (oq (Al rfl) (oq (Al rfl) (oq (Bh (enc:=Ad) (ys:=b) CN BV rfl rfl hg) (oq (AU C3 rfl CD rfl rfl) (oq (AY Dm rfl rfl) (oq (Hj rfl rfl) (oq (Al rfl) (on hb (oq (Al rfl) (on hb (oq (Al rfl) (on hb (oq (Bh (enc:=Ad) (ys:=a) CN BV rfl rfl hf) (on hb (oq (AU C3 rfl GR rfl rfl) (on hb (oq (AY MZ rfl rfl) (on hb (oq (Al rfl) ?_)))))))))))))))))))))))
         refine on hb (oq (Al rfl) (on hb (oq (Bh (enc:=Ad) (ys:=b) CN BV rfl rfl hg) (on hb (oq (AU C3 rfl GR rfl rfl) (on hb (oq (AY MZ rfl rfl) (on hb (oq (Uk yu4 rfl rfl) (oq (A7 rfl hb rfl) (oq (Al rfl) (on hd (oq (Al rfl) (on hd (oq (Al rfl) (on hd (oq (Bh (enc:=Ad) (ys:=a) CN BV rfl rfl hf) (on hd (oq (AU C3 rfl Cq rfl rfl) (on hd (oq (AY CU rfl rfl) (on hd (oq (Al rfl) ?_)))))))))))))))))))))))
         refine on hd (oq (Al rfl) (on hd (oq (Bh (enc:=Ad) (ys:=b) CN BV rfl rfl hg) (on hd (oq (AU C3 rfl Cq rfl rfl) (on hd (oq (AY CU rfl rfl) (on hd (oq (CB rfl rfl) (oq (A7 rfl hd rfl) (oq (Al rfl) (oz he (oz he (oz he (oz he (oz he (oz he (oz he (oz he (oz he (oz he (oz he (oz he ?_)))))))))))))))))))))))
         refine oq (Au (b:=!decide (((Am a ha).fIfVersion)=((Am b ha).fIfVersion))) rfl he rfl) ?_
         exact Cj
        exact BM (And.intro hb (And.intro hd he))
       ·refine CH [0,1,5,12,13] [⟨[],AV 4 (List.map Ad a),0⟩,⟨[],rI .i64 ha,0⟩,⟨[0,1],EL (Ad (Am a ha)),0⟩,⟨[2],EL (Ad (Am a ha)),0⟩,⟨[3],rS ((Am a ha).fKey),0⟩,⟨[],AV 4 (List.map Ad b),0⟩,⟨[],rI .i64 ha,0⟩,⟨[5,6],EL (Ad (Am b ha)),0⟩,⟨[7],EL (Ad (Am b ha)),0⟩,⟨[8],rS ((Am b ha).fKey),0⟩,⟨[4,9],rB (!decide (((Am a ha).fKey)=((Am b ha).fKey))),0⟩,⟨[10],rB (!decide (((Am a ha).fKey)=((Am b ha).fKey))),0⟩,⟨[11],AV 4 (List.map Ad a),0⟩,⟨[11],rI .i64 ha,0⟩,⟨[12,13,11],EL (Ad (Am a ha)),0⟩,⟨[14,11],EL [rB ((Am a ha).fDelete),AV 4 (List.map Ab ((Am a ha).fValue)),rI .i64 ((Am a ha).fIfVersion)],0⟩,⟨[15,11],rB ((Am a ha).fDelete),0⟩,⟨[11],AV 4 (List.map Ad b),0⟩,⟨[11],rI .i64 ha,0⟩,⟨[17,18,11],EL (Ad (Am b ha)),0⟩,⟨[19,11],EL [rB ((Am b ha).fDelete),AV 4 (List.map Ab ((Am b ha).fValue)),rI .i64 ((Am b ha).fIfVersion)],0⟩,⟨[20,11],rB ((Am b ha).fDelete),0⟩,⟨[16,21,11],rB (!(((Am a ha).fDelete) ==((Am b ha).fDelete))),0⟩,⟨[11,22],rB (!(((Am a ha).fDelete) ==((Am b ha).fDelete))),0⟩,⟨[23],rB (!(((Am a ha).fDelete) ==((Am b ha).fDelete))),0⟩,⟨[24],AV 4 (List.map Ad a),0⟩,⟨[24],rI .i64 ha,0⟩,⟨[25,26,24],EL (Ad (Am a ha)),0⟩,⟨[27,24],EL [rI .i64 ((Am a ha).fIfVersion)],0⟩,⟨[28,24],rI .i64 ((Am a ha).fIfVersion),0⟩,⟨[24],AV 4 (List.map Ad b),0⟩,⟨[24],rI .i64 ha,0⟩,⟨[30,31,24],EL (Ad (Am b ha)),0⟩,⟨[32,24],EL [rI .i64 ((Am b ha).fIfVersion)],0⟩,⟨[33,24],rI .i64 ((Am b ha).fIfVersion),0⟩,⟨[29,34,24],rB (!decide (((Am a ha).fIfVersion)=((Am b ha).fIfVersion))),0⟩,⟨[24,35],rB (!decide (((Am a ha).fIfVersion)=((Am b ha).fIfVersion))),0⟩,⟨[36],rB (!decide (((Am a ha).fIfVersion)=((Am b ha).fIfVersion))),0⟩,⟨[37],AV 4 (List.map Ad a),0⟩,⟨[37],rI .i64 ha,0⟩,⟨[38,39,37],EL (Ad (Am a ha)),0⟩,⟨[40,37],EL [AV 4 (List.map Ab ((Am a ha).fValue)),rI .i64 ((Am a ha).fIfVersion)],0⟩,⟨[41,37],AV 4 (List.map Ab ((Am a ha).fValue)),0⟩,⟨[37],AV 4 (List.map Ad b),0⟩,⟨[37],rI .i64 ha,0⟩,⟨[43,44,37],EL (Ad (Am b ha)),0⟩,⟨[45,37],EL [AV 4 (List.map Ab ((Am b ha).fValue)),rI .i64 ((Am b ha).fIfVersion)],0⟩,⟨[46,37],AV 4 (List.map Ab ((Am b ha).fValue)),0⟩,⟨[42,47,37],rB (ov (Hd F ((Am a ha).fValue) ((Am b ha).fValue))),0⟩,⟨[48,37],rB (!(ov (Hd F ((Am a ha).fValue) ((Am b ha).fValue)))),0⟩,⟨[37,49],rB (!(ov (Hd F ((Am a ha).fValue) ((Am b ha).fValue)))),0⟩] [16,17,18,19,20,21,22,23,24,25,26,27,28,29,30,31,32,33,34,35,36,37,38,39,40,41,42,43,44,45,46,47,48,49,50,51,52,53,54,55,56,57,58,59,60,61,62,63,64,65,66,0,1,12,13] ?_ ?_
        ·refine oq (Al rfl) (oq (Al rfl) (oq (Bh (enc:=Ad) (ys:=a) CN BV rfl rfl hf) (oq (AU C3 rfl CD rfl rfl) (oq (AY Dm rfl rfl) (oq (Al rfl) (oq (Al rfl) (oq (Bh (enc:=Ad) (ys:=b) CN BV rfl rfl hg) (oq (AU C3 rfl CD rfl rfl) (oq (AY Dm rfl rfl) (oq (Hj rfl rfl) (oq (Al rfl) (on hb (oq (Al rfl) (on hb (oq (Al rfl) (on hb (oq (Bh (enc:=Ad) (ys:=a) CN BV rfl rfl hf) (on hb (oq (AU C3 rfl GR rfl rfl) (on hb (oq (AY MZ rfl rfl) (on hb (oq (Al rfl) ?_)))))))))))))))))))))))
         refine on hb (oq (Al rfl) (on hb (oq (Bh (enc:=Ad) (ys:=b) CN BV rfl rfl hg) (on hb (oq (AU C3 rfl GR rfl rfl) (on hb (oq (AY MZ rfl rfl) (on hb (oq (Uk yu4 rfl rfl) (oq (A7 rfl hb rfl) (oq (Al rfl) (on hd (oq (Al rfl) (on hd (oq (Al rfl) (on hd (oq (Bh (enc:=Ad) (ys:=a) CN BV rfl rfl hf) (on hd (oq (AU C3 rfl Cq rfl rfl) (on hd (oq (AY CU rfl rfl) (on hd (oq (Al rfl) ?_)))))))))))))))))))))))
         refine on hd (oq (Al rfl) (on hd (oq (Bh (enc:=Ad) (ys:=b) CN BV rfl rfl hg) (on hd (oq (AU C3 rfl Cq rfl rfl) (on hd (oq (AY CU rfl rfl) (on hd (oq (CB rfl rfl) (oq (A7 rfl hd rfl) (oq (Al rfl) (on he (oq (Al rfl) (on he (oq (Al rfl) (on he (oq (Bh (enc:=Ad) (ys:=a) CN BV rfl rfl hf) (on he (oq (AU C3 rfl Dk rfl rfl) (on he (oq (AY GS rfl rfl) (on he (oq (Al rfl) ?_)))))))))))))))))))))))
         refine on he (oq (Al rfl) (on he (oq (Bh (enc:=Ad) (ys:=b) CN BV rfl rfl hg) (on he (oq (AU C3 rfl Dk rfl rfl) (on he (oq (AY GS rfl rfl) (Ee rfl (λH=>PM (b:=!decide (((Am a ha).fIfVersion)=((Am b ha).fIfVersion))) rfl rfl he (HR Tryz.call41 (WZ F ((Am a ha).fValue) ((Am b ha).fValue) (ov (Hd F ((Am a ha).fValue) ((Am b ha).fValue))) (GX (Cr (Cr (Cr hw hb) hd) he))) rfl)) ?_))))))))
         refine on he (oq (Cd rfl) (oq (A7 rfl he rfl) ?_))
         exact Cj
        exact BM (And.intro hb (And.intro hd he))
    refine cz hx rfl (λc75 hy=>?_) (λc75 hz=>?_)
    ·refine Ae (wa rfl (Ak (Aq (Av (Ac (Ac (AS ?_)))))))
     have h0:=Bm hy hj hk
     refine Av (Ac ?_)
     obtain rfl:=As h0
     exact Ap (BW Tryz.results27 (A4 rfl)) sN ⟨rfl,rfl⟩
    ·refine An (A8 (AF (Af (ck hz λh1 h4=>wv (AX rfl rfl h1) (wm rfl (Aj ?_))))))
     have h5:=Bb h4 hj
     exact Ar (A3 (ho,ha+1,()) ⟨h5,AcL _⟩ (AC.c rfl (AC.c rfl (AC.c rfl (AC.c rfl AC.nil)))) sN)
   ·refine Bo (At ?_)
    have h6:=BI hs hj hk
    exact At (Bc (A3 ((),()) h6 AC.nil sN))
  ·rintro⟨⟨⟩,⟨⟩⟩ hi
   refine Cf (l':=[]) (H':=[]) rfl rfl ?_
   replace hi:Kk =some r:=hi
   unfold Kk at hi
   refine AZ (AF (Ae (wa rfl (Ak (Aq ?_)))))
   obtain rfl:=As hi
   exact Ap (BW Tryz.results27 (A4 rfl)) sN ⟨rfl,rfl⟩
end Go.Proofs.YtjfnokmpfekniaaGreatDoor.Q
namespace Go.Proofs.YtjfnokmpfekniaaGreatDoor
open Go
set_option linter.unusedVariables false
def JT (F:Nat) (l:(List Ah)) (s:Ag):Option (Bool):=
 AN ((Jq F l).isSome)<|Bd (((!(ov (Jq F l)))||(decide (20000<(s.length:Int))))) (Bn (I1 F) λr6=>some r6) (Bn (Hy F l) λhb=>Bn (JI F l) λhd=>Bn (K3 F s) λha=>Bn (JJ F s) λhe=>AN (imp (!(!decide (hb.1=hd.1))) (imp (!(!decide (hb.2=hd.2))) (imp (!(!decide (ha.2=he.2))) ((Hc F ha.1 he.1).isSome))))<|Bd (((!decide (hb.1=hd.1))||((!decide (hb.2=hd.2))||((!decide (ha.2=he.2))||(!(ov (Hc F ha.1 he.1))))))) (some false) (Bd (decide (hb.2=0)) (Bn (K3 F hb.1) λhf=>AN (imp (!(!decide (hf.2=0))) ((Hc F hf.1 l).isSome))<|Bd (((!decide (hf.2=0))||(!(ov (Hc F hf.1 l))))) (some false) (Bd (decide (ha.2=0)) (Bn (Hy F ha.1) λhg=>Bd (((!decide (hg.2=0))||(!decide (hg.1=s)))) (some false) (Bn (I1 F) λhi=>some hi)) (Bn (I1 F) λhj=>some hj))) (Bd (decide (ha.2=0)) (Bn (Hy F ha.1) λhh=>Bd (((!decide (hh.2=0))||(!decide (hh.1=s)))) (some false) (Bn (I1 F) λhk=>some hk)) (Bn (I1 F) λhl=>some hl))))
end Go.Proofs.YtjfnokmpfekniaaGreatDoor
namespace Go.Proofs.YtjfnokmpfekniaaGreatDoor.Q
open Go Go.RowKit
set_option linter.unusedVariables false
set_option linter.unusedSimpArgs false
set_option maxRecDepth 100000
set_option maxHeartbeats 4000000
theorem Ty (F:Nat) (l:(List Ah)) (s:Ag) (r:Bool) (h:JT F l s=some r):Fn Tryz.prog GE 4 [AV 4 (List.map Ad l),rS s] [] (λR H=>R=rB r∧H=[]):=by
 refine enter (n:=95) Tryz.func4 rfl Tryz.ntmps4 rfl (λw Z=>?_)
 unfold JT at h
 refine Ae (wa rfl (Ak (Ai (ck h λg1 h2=>A6 [(0,AV 4 (List.map Ad l)),(1,rS s),(24,rB ((!(ov (Jq F l)))||(decide (20000<(s.length:Int)))))] [] ?_ ?_))))
 ·refine Af (wm rfl (Cg Tryz.call22 (XN F l (ov (Jq F l)) (GX g1)) rfl (wv (Cd rfl) (wm rfl (AI (!(ov (Jq F l))) (λc3=>?_) (λc3=>?_))))))
  ·refine wf c3 (wf c3 (wf c3 (wv (r:=rB true) (Au rfl c3 rfl) (Aj ?_))))
   exact BM c3
  ·refine wo c3 (wm rfl (wo c3 (wv (AW BC rfl) (wo c3 (wv (Cb rfl rfl) (DR rfl c3 rfl (Aj ?_)))))))
   exact BM c3
 refine cz h2 rfl (λc4 h5=>?_) (λc4 h9=>?_)
 ·refine Ae (ob h5 λr6 e8 h7=>Cg Wt (JU F r6 e8) rfl (wa rfl (Ak (Aq (Ac ?_)))))
  obtain rfl:=As h7
  exact Ap (BW Zb (A4 rfl)) sN ⟨rfl,rfl⟩
 ·refine An (AF (Ae (wm rfl (ob h9 λhg hm hn=>Cg Wr (K2 F l hg hm) rfl (wm rfl (wv (Az rfl rfl) (wv (Az rfl rfl) (wa rfl (wa rfl (Bf (wm rfl (ob hn λhj ho hp=>Cg Tryz.call24 (Tk F l hj ho) rfl (wm rfl (wv (Az rfl rfl) (wv (Az rfl rfl) (wa rfl (wa rfl (Bf (wm rfl (ob hp λhe hq hr=>Cg Tryz.call25 (Qa F s he hq) rfl ?_))))))))))))))))))))
  refine wm rfl (wv (Az rfl rfl) (wv (Az rfl rfl) (wa rfl (wa rfl (Bf (wm rfl (ob hr λhh hs ht=>Cg Tryz.call26 (Tl F s hh hs) rfl (wm rfl (wv (Az rfl rfl) (wv (Az rfl rfl) (wa rfl (wa rfl (Ak (Ai (ck ht λhu hw=>A6 [(0,AV 4 (List.map Ad l)),(1,rS s),(5,rS hg.1),(6,rI .i64 hg.2),(9,AV 4 (List.map Ad he.1)),(10,rI .i64 he.2),(64,rB ((!decide (hg.1=hj.1))||((!decide (hg.2=hj.2))||((!decide (he.2=hh.2))||(!(ov (Hc F he.1 hh.1)))))))] [] ?_ ?_)))))))))))))))
  ·refine Af (wm rfl (wm rfl (wv (Hj rfl rfl) (wm rfl (AI (!decide (hg.1=hj.1)) (λha=>?_) (λha=>?_))))))
   ·refine wf ha (wf ha (wf ha (wv (r:=rB true) (Au rfl ha rfl) (wm rfl (wz rfl rfl (wz rfl rfl (wz rfl rfl (wv (r:=rB true) (Au (b:=true) rfl rfl rfl) (wm rfl (wz rfl rfl (wz rfl rfl (wz rfl rfl (wz rfl rfl (wv (r:=rB true) (Au (b:=true) rfl rfl rfl) (Aj ?_)))))))))))))))
    exact BM ha
   ·refine wo ha (wm rfl (wo ha (wm rfl (wo ha (wv (CB rfl rfl) (DR rfl ha rfl (wm rfl (AI (!decide (hg.2=hj.2)) (λhd=>?_) (λhd=>?_)))))))))
    ·refine wf hd (wf hd (wf hd (wv (r:=rB true) (Au rfl hd rfl) (wm rfl (wz rfl rfl (wz rfl rfl (wz rfl rfl (wz rfl rfl (wv (r:=rB true) (Au (b:=true) rfl rfl rfl) (Aj ?_))))))))))
     exact BM (And.intro ha hd)
    ·refine wo hd (wm rfl (wo hd (wm rfl (wo hd (wv (CB rfl rfl) (DR rfl hd rfl (wm rfl (AI (!decide (he.2=hh.2)) (λhb=>?_) (λhb=>?_)))))))))
     ·refine wf hb (wf hb (wf hb (wf hb (wv (r:=rB true) (Au rfl hb rfl) (Aj ?_)))))
      exact BM (And.intro ha (And.intro hd hb))
     ·refine wo hb (wm rfl (wo hb (wm rfl (wo hb (Cg Tryz.call27 (RF F he.1 hh.1 (ov (Hc F he.1 hh.1)) (GX (Cr (Cr (Cr hu ha) hd) hb))) rfl (wo hb (wv (Cd rfl) (DR rfl hb rfl (Aj ?_)))))))))
      exact BM (And.intro ha (And.intro hd hb))
  refine cz hw rfl (λhx hy=>?_) (λhx hz=>?_)
  ·refine Ae (wa rfl (Ak (Aq (Ac ?_))))
   obtain rfl:=As hy
   exact Ap (BW Zb (A4 rfl)) sN ⟨rfl,rfl⟩
  ·refine An (AF (Ai (Ae (wm rfl (wv (Bx rfl rfl) (Ak (cz hz rfl (λh0 h1=>?_) (λh0 h3=>?_))))))))
   ·refine Ae (wm rfl (ob h1 λhi h4 h6=>Cg Tryz.call25 (Qa F hg.1 hi h4) rfl (wm rfl (wv (Az rfl rfl) (wv (Az rfl rfl) (wa rfl (wa rfl (Ak (ck h6 λh8 hA=>A6 [(1,rS s),(9,AV 4 (List.map Ad he.1)),(10,rI .i64 he.2),(79,rB ((!decide (hi.2=0))||(!(ov (Hc F hi.1 l)))))] [] ?_ ?_)))))))))
    ·refine Af (wm rfl (wv (CB rfl rfl) (wm rfl (AI (!decide (hi.2=0)) (λc37=>?_) (λc37=>?_)))))
     ·refine wf c37 (wf c37 (wf c37 (wf c37 (wv (r:=rB true) (Au rfl c37 rfl) (Aj ?_)))))
      exact BM c37
     ·refine wo c37 (wm rfl (wo c37 (wm rfl (wo c37 (Cg Tryz.call27 (RF F hi.1 l (ov (Hc F hi.1 l)) (GX (Cr h8 c37))) rfl (wo c37 (wv (Cd rfl) (DR rfl c37 rfl (Aj ?_)))))))))
      exact BM c37
    refine cz hA rfl (λhB hC=>?_) (λhB hD=>?_)
    ·refine Ae (wa rfl (Ak (Aq (Ac ?_))))
     obtain rfl:=As hC
     exact Ap (BW Zb (A4 rfl)) sN ⟨rfl,rfl⟩
    ·refine An (AF (Ai (Ae (wm rfl (wv (Bx rfl rfl) (Ak (cz hD rfl (λhE hG=>?_) (λhE hH=>?_))))))))
     ·refine Ae (wm rfl (ob hG λhk hI hJ=>Cg Wr (K2 F he.1 hk hI) rfl (wm rfl (wv (Az rfl rfl) (wv (Az rfl rfl) (wa rfl (wa rfl (Ak (A6 [(93,rB ((!decide (hk.2=0))||(!decide (hk.1=s))))] [] ?_ ?_)))))))))
      ·refine Af (wm rfl (wv (CB rfl rfl) (wm rfl (AI (!decide (hk.2=0)) (λc46=>?_) (λc46=>?_)))))
       ·refine wf c46 (wf c46 (wf c46 (wv (r:=rB true) (Au rfl c46 rfl) (Aj ?_))))
        exact BM c46
       ·refine wo c46 (wm rfl (wo c46 (wm rfl (wo c46 (wv (Hj rfl rfl) (DR rfl c46 rfl (Aj ?_)))))))
        exact BM c46
      refine cz hJ rfl (λhK hL=>?_) (λhK hN=>?_)
      ·refine Ae (wa rfl (Ak (Aq (Ac ?_))))
       obtain rfl:=As hL
       exact Ap (BW Zb (A4 rfl)) sN ⟨rfl,rfl⟩
      ·refine An (AF (Ae (ob hN λhO hP hQ=>Cg Wt (JU F hO hP) rfl (wa rfl (Ak (Aq ?_))))))
       obtain rfl:=As hQ
       exact Ap (BW Zb (A4 rfl)) sN ⟨rfl,rfl⟩
     ·refine An (AF (Ae (ob hH λhR hS hT=>Cg Wt (JU F hR hS) rfl (wa rfl (Ak (Aq ?_))))))
      obtain rfl:=As hT
      exact Ap (BW Zb (A4 rfl)) sN ⟨rfl,rfl⟩
   ·refine An (AF (Ai (Ae (wm rfl (wv (Bx rfl rfl) (Ak (cz h3 rfl (λhU hV=>?_) (λhU hW=>?_))))))))
    ·refine Ae (wm rfl (ob hV λhl hX hY=>Cg Wr (K2 F he.1 hl hX) rfl (wm rfl (wv (Az rfl rfl) (wv (Az rfl rfl) (wa rfl (wa rfl (Ak (A6 [(93,rB ((!decide (hl.2=0))||(!decide (hl.1=s))))] [] ?_ ?_)))))))))
     ·refine Af (wm rfl (wv (CB rfl rfl) (wm rfl (AI (!decide (hl.2=0)) (λhf=>?_) (λhf=>?_)))))
      ·refine wf hf (wf hf (wf hf (wv (r:=rB true) (Au rfl hf rfl) (Aj ?_))))
       exact BM hf
      ·refine wo hf (wm rfl (wo hf (wm rfl (wo hf (wv (Hj rfl rfl) (DR rfl hf rfl (Aj ?_)))))))
       exact BM hf
     refine cz hY rfl (λhZ ga=>?_) (λhZ gb=>?_)
     ·refine Ae (wa rfl (Ak (Aq (Ac ?_))))
      obtain rfl:=As ga
      exact Ap (BW Zb (A4 rfl)) sN ⟨rfl,rfl⟩
     ·refine An (AF (Ae (ob gb λgc gd ge=>Cg Wt (JU F gc gd) rfl (wa rfl (Ak (Aq ?_))))))
      obtain rfl:=As ge
      exact Ap (BW Zb (A4 rfl)) sN ⟨rfl,rfl⟩
    ·refine An (AF (Ae (ob hW λgf gg gh=>Cg Wt (JU F gf gg) rfl (wa rfl (Ak (Aq ?_))))))
     obtain rfl:=As gh
     exact Ap (BW Zb (A4 rfl)) sN ⟨rfl,rfl⟩
end Go.Proofs.YtjfnokmpfekniaaGreatDoor.Q
namespace Go.Proofs.YtjfnokmpfekniaaGreatDoor.lawKvRecords
open Go
set_option linter.unusedVariables false
def Xv (y:Aa):Bool:=(Bl .i64) y.fKind&&(Bl .i64) y.fInt&&okS y.fStr&&(Bl .i64) y.fN
def Vw (y:Ah):Bool:=okS y.fKey&&(λ_=>true) y.fDelete&&(λys:(List Aa)=>ys.all Xv&&decide (ys.length≤9223372036854775807)) y.fValue&&(Bl .i64) y.fIfVersion
def Law:Prop:=∀(y0:(List Ah)) (y1:Ag) (o0:(λys:(List Ah)=>ys.all Vw&&decide (ys.length≤9223372036854775807)) y0=true) (o1:okS y1=true),∃F,JT F y0 y1=some true
end Go.Proofs.YtjfnokmpfekniaaGreatDoor.lawKvRecords
namespace Go.Proofs.YtjfnokmpfekniaaGreatDoor
open Go
set_option linter.unusedVariables false
set_option linter.unusedSimpArgs false
def sB (b:BitVec 32):BitVec 32:=if b.getLsbD 0=true then(b>>>1)^^^3988292384#32 else b>>>1
def Rg:Nat→BitVec 32→BitVec 32
 | 0,b=>b
 | n+1,b=>Rg n (sB b)
theorem AaC (a b:BitVec 32):sB (a^^^b)=sB a^^^sB b:=by
 unfold sB
 rw[BitVec.getLsbD_xor,BitVec.ushiftRight_xor_distrib]
 cases a.getLsbD 0<;>cases b.getLsbD 0
 ·simp
 ·simp[BitVec.xor_assoc]
 ·simp only[Bool.xor_false,if_true,Bool.false_eq_true,if_false]
  rw[BitVec.xor_assoc,BitVec.xor_assoc,BitVec.xor_comm (b>>>1)]
 ·simp only[Bool.xor_self,Bool.false_eq_true,if_false,if_true]
  rw[BitVec.xor_assoc,BitVec.xor_comm 3988292384#32,BitVec.xor_assoc,BitVec.xor_self,BitVec.xor_zero]
theorem TP:∀(n:Nat) (a b:BitVec 32),Rg n (a^^^b)=Rg n a^^^Rg n b
 | 0,_,_=>rfl
 | n+1,a,b=>by rw[Rg,AaC,TP n];rfl
theorem PD:∀(n:Nat) (b:BitVec 32),(∀i,i<n→b.getLsbD i=false)→Rg n b=b>>>n
 | 0,b,_=>by simp[Rg]
 | n+1,b,h=>by
  have h0:sB b=b>>>1:=by unfold sB;rw[h 0 (by omega)];simp
  rw[Rg,h0,PD n (b>>>1) (λi hi=>by rw[BitVec.getLsbD_ushiftRight];exact h _ (by omega))]
  rw[← BitVec.shiftRight_add,Nat.add_comm]
theorem Va (x:BitVec 32):Rg 8 x=Rg 8 (x&&& 255#32)^^^(x>>>8):=by
 have e:x=(x&&& 255#32)^^^(x&&& 4294967040#32):=by
  apply BitVec.eq_of_getLsbD_eq
  intro i hi
  rw[BitVec.getLsbD_xor,BitVec.getLsbD_and,BitVec.getLsbD_and]
  have hh:∀j:Fin 32,(4294967040#32).getLsbD j = !(255#32).getLsbD j:=by decide
  rw[hh ⟨i,hi⟩]
  cases x.getLsbD i<;>cases(255#32).getLsbD i<;>rfl
 have hz:∀i,i<8→(x&&& 4294967040#32).getLsbD i=false:=λi hi=>by
  rw[BitVec.getLsbD_and]
  have:(4294967040#32).getLsbD i=false:=by
   have hh:∀i:Fin 8,(4294967040#32).getLsbD i=false:=by decide
   exact hh ⟨i,hi⟩
  rw[this,AcV]
 have hs:(x&&& 4294967040#32)>>>8=x>>>8:=by
  apply BitVec.eq_of_getLsbD_eq
  intro i hi
  rw[BitVec.getLsbD_ushiftRight,BitVec.getLsbD_ushiftRight,BitVec.getLsbD_and]
  by_cases h:8+i<32
  ·have hh:∀j:Fin 24,(4294967040#32).getLsbD (8+j)=true:=by decide
   rw[hh ⟨i,by omega⟩,AcR]
  ·rw[BitVec.getLsbD_of_ge x _ (by omega)];rfl
 conv=>lhs;rw[e]
 rw[TP,PD 8 _ hz,hs]
def bv (x:Int):BitVec 32:=BitVec.ofInt 32 x
def nv (b:BitVec 32):Int:=(b.toNat:Int)
def W32 (x:Int):Prop:=0≤x∧x<4294967296
theorem W32.nv (b:BitVec 32):W32 (nv b):=⟨by unfold Proofs.YtjfnokmpfekniaaGreatDoor.nv;omega,by have:=b.isLt;unfold Proofs.YtjfnokmpfekniaaGreatDoor.nv;omega⟩
theorem Aat {x:Int} (h:W32 x):nv (bv x)=x:=by
 unfold nv bv
 have h1:=h.1
 have h2:=h.2
 rw[BitVec.toNat_ofInt]
 have:x % ((2 ^ 32:Nat):Int)=x:=Int.emod_eq_of_lt h1 (by simpa using h2)
 rw[this];omega
theorem Pi (b:BitVec 32):bv (nv b)=b:=by
 apply BitVec.eq_of_toNat_eq
 have h:=Aat (W32.nv b)
 unfold nv at h
 exact Int.ofNat_inj.1 h
theorem Qv (b:BitVec 32):IntKind.wrap .u32 (b.toNat:Int)=nv b:=by
 have:=b.isLt
 unfold nv
 simp[IntKind.wrap,IntKind.signed,IntKind.bits]
 omega
theorem NT (x y:Int):EG .u32 x y=nv (bv x^^^bv y):=Qv (bv x^^^bv y)
theorem ZP (x y:Int):Lo .u32 x y=nv (bv x&&& bv y):=Qv (bv x&&& bv y)
theorem Uw {n:Nat} (hn:n≤32) (b:BitVec 32):BQ .u32 (nv b) (n:Int)=nv (b>>>n):=by
 unfold BQ nv
 have e:min (n:Int).toNat (IntKind.bits .u32)=n:=by
  have:IntKind.bits .u32=32:=rfl
  rw[this];omega
 rw[e,BitVec.toNat_ushiftRight,Nat.shiftRight_eq_div_pow]
 rw[Int.fdiv_eq_ediv_of_nonneg _ (by exact Int.pow_nonneg (by omega))]
 simp
theorem AaQ (b:BitVec 32):decide (Lo .u32 (nv b) 1=1)=b.getLsbD 0:=by
 rw[ZP,Pi]
 have e:bv 1=1#32:=by decide
 rw[e]
 have h:(b&&& 1#32).toNat=b.toNat % 2:=by
  rw[BitVec.toNat_and]
  exact Nat.and_one_is_mod _
 unfold nv
 rw[h,BitVec.getLsbD,Nat.testBit_zero]
 rw[Bool.eq_iff_iff]
 simp only[AcC]
 omega
theorem RA (b:BitVec 32):(bif decide (Lo .u32 (nv b) 1=1) then EG .u32 (BQ .u32 (nv b) 1) 3988292384 else BQ .u32 (nv b) 1)=nv (sB b):=by
 have hs:BQ .u32 (nv b) 1=nv (b>>>1):=Uw (n:=1) (by omega) b
 have e:bv 3988292384=3988292384#32:=by decide
 rw[AaQ,hs,NT,Pi,e]
 unfold sB
 cases b.getLsbD 0<;>rfl
def Ku (c:UInt8):Bool:=decide (32≤c.toNat)&&decide (c.toNat≤126)
theorem Dv {s:Ag} {x:Int} {c:UInt8} (h:s[x.toNat]? =some c):AK s x=(c.toNat:Int):=by simp[AK,h]
theorem Pv {α:Type} {p:α→Bool} {s:List α} {k:Nat} {c:α} (h:s[k]? =some c):(s.take (k+1)).all p=((s.take k).all p&&p c):=by
 rw[List.take_add_one,h];simp
theorem Rd {α:Type} {p:α→Bool} {s:List α} {k:Nat} {c:α} (h:s[k]? =some c) (hp:p c=false):s.all p=false:=by
 rw[List.all_eq_false];exact⟨c,AcU h,by simp[hp]⟩
theorem Rv {F:Nat} {s:Ag} (hF:s.length<F) (hs:s.length≤9223372036854775807):Ly F s=some (s.all Ku):=by
 obtain⟨o,h1,h2⟩:=Ik (body:=λσ=>IA s σ) (λx=>0≤x∧x≤(s.length:Int)∧(s.take x.toNat).all Ku=true) (λx=>s.length-x.toNat)
  (λo=>B6 (λ_=>I9) o=some (s.all Ku)) (λx ⟨h0,hl,ha⟩=>by
   unfold IA
   by_cases hx:x<(s.length:Int)
   ·obtain⟨c,hc⟩:∃c,s[x.toNat]? =some c:=⟨s[x.toNat]'(by omega),List.getElem?_eq_getElem (by omega)⟩
    rw[AA (by simpa using hx),AT h0 hx,Dv hc]
    cases ho:Ku c with
    | false=>
     refine .inr ⟨.ret false,?_,?_⟩
     ·rw[AA]
      simp only[Ku,Adk,AcD] at ho
      simp only[Adi,AcC];omega
     ·simp[B6,Rd hc ho]
    | true=>
     refine .inl ⟨x+1,?_,⟨by omega,by omega,?_⟩,by omega⟩
     ·rw[Ay,A1 (by omega) (by omega)]
      simp only[Ku,AcH,AcC] at ho
      simp only[AcZ,AcD];omega
     ·rw[show(x+1).toNat=x.toNat+1 from by omega,Pv hc,ha,ho];rfl
   ·refine .inr ⟨.go (),by rw[Ay (by simpa using hx)],?_⟩
    rw[show x.toNat=s.length from by omega,Adw] at ha
    simp[B6,I9,ha]) F 0 ⟨by omega,by omega,by simp⟩ (by simpa using hF)
 unfold Ly
 rw[AG h1,h2]
theorem Q6 (F:Nat) (s:Ag):JH F s=Ly F s:=rfl
theorem Vd {F:Nat} {s:Ag} (hF:s.length<F) (hs:s.length≤9223372036854775807):JH F s=some (s.all Ku):=by rw[Q6];exact Rv hF hs
def pl (c:Aa):Bool:=
 bif decide (c.fKind=1) then(decide (c.fInt=0)&&(decide (c.fStr=[])&&decide (c.fN=0))) else
 bif decide (c.fKind=2) then((decide (c.fInt=0)||decide (c.fInt=1))&&(decide (c.fStr=[])&&decide (c.fN=0))) else
 bif decide (c.fKind=3) then(decide (c.fStr=[])&&decide (c.fN=0)) else
 bif decide (c.fKind=4) then(decide (c.fInt=0)&&(decide (c.fN=0)&&c.fStr.all Ku)) else
 bif decide (c.fKind=5) then(decide (c.fInt=0)&&(decide (c.fStr=[])&&decide (0≤c.fN))) else
 bif decide (c.fKind=6) then(decide (c.fInt=0)&&(decide (c.fStr=[])&&decide (0≤c.fN))) else false
theorem ER {α:Type} {p:Bool} {x y:Option α} {a b:α} (h:x=some a) (h':y=some b):Bd p x y=some (bif p then a else b):=by cases p<;>simp[Bd,h,h']
theorem UP {F:Nat} {c:Aa} (hF:c.fStr.length<F) (hs:c.fStr.length≤9223372036854775807):Ok F c=some (pl c):=by
 unfold Ok pl
 rw[Rv hF hs]
 refine ER rfl (ER ?_ (ER rfl (ER ?_ (ER rfl (ER rfl rfl)))))
 ·cases h:decide (c.fInt=0)<;>simp
 ·simp[imp,AN,ov]
def Nv:List AD→List AD
 | []=>[]
 | e::S=>bif decide (1<e.fLeft) then⟨e.fPairs,e.fLeft-1,e.fPairs,e.fLast,e.fStarted⟩::S else Nv S
theorem NX {α:Type} [Inhabited α] (xs:List α) (e:α):Am (xs++[e]) (xs.length:Int)=e:=by simp[Am]
theorem L8 {α:Type} (xs:List α) (e e':α):List.set (xs++[e]) (Int.toNat (xs.length:Int)) e'=xs++[e']:=by simp
theorem LZ {α:Type} (xs:List α) (e:α):((xs++[e]).length:Int)-1=(xs.length:Int):=by simp
theorem UX {α:Type} (xs:List α) (e:α):List.take (Int.toNat (xs.length:Int)) (xs++[e])=xs:=by simp
theorem Ng:∀(S:List AD) (F:Nat),S.length<F→(∀e∈S,1≤e.fLeft∧e.fLeft≤9223372036854775807)→S.length≤4611686018427387904→
  ∃o,BF (λσ=>En σ) F S.reverse=some o∧B6 (λν=>EZ ν) o=some (Nv S).reverse
 | [],F+1,_,_,_=>⟨.go [],by simp[BF,En,Bd],by simp[B6,EZ,Nv]⟩
 | e::S,F+1,hF,hb,hl=>by
  obtain⟨h1,h2⟩:=hb e (by simp)
  simp only[AcE] at hF hl
  have hx:S.reverse.length=S.length:=by simp
  generalize hxs:S.reverse=xs at hx
  have hr:(e::S).reverse=xs++[e]:=by simp[hxs]
  rw[hr]
  have hb1:En (xs++[e])=bif decide (1<e.fLeft) then some (.out (.ret (xs++[⟨e.fPairs,e.fLeft-1,e.fPairs,e.fLast,e.fStarted⟩]))) else some (.next xs):=by
   unfold En
   rw[AA (by simp)]
   simp only[LZ,NX,L8,Ls]
   rw[A1 (by omega) (by omega),AT (by omega) (by simp;omega),A1 (by omega) (by omega)]
   cases hd:decide (1<e.fLeft) with
   | true=>
    rw[AA (by simp at hd ⊢;omega)];rfl
   | false=>
    rw[Ay (by simp at hd ⊢;omega),A1 (by omega) (by omega),BS (by omega) (by simp;omega),UX];rfl
  rw[BF,hb1]
  cases hd:decide (1<e.fLeft) with
  | true=>exact⟨_,rfl,by simp[B6,EZ,Nv,hd,hxs]⟩
  | false=>
   obtain⟨o,ho1,ho2⟩:=Ng S F (by omega) (λe he=>hb e (by simp[he])) (by omega)
   rw[hxs] at ho1
   exact⟨o,ho1,by rw[ho2];simp[Nv,hd]⟩
theorem Om {S:List AD} {F:Nat} (hF:S.length<F) (hb:∀e∈S,1≤e.fLeft∧e.fLeft≤9223372036854775807) (hl:S.length≤4611686018427387904):L4 F S.reverse=some (Nv S).reverse:=by
 obtain⟨o,h1,h2⟩:=Ng S F hF hb hl
 unfold L4
 rw[AG h1,h2]
def MB (s:Ag):Int:=s.length+2+s.count 34+s.count 92
theorem Oi {s:Ag} (hs:s.length≤1152921504606846976):Kj s=some (MB s):=by
 have h1:s.count 34≤s.length:=List.count_le_length
 have h2:s.count 92≤s.length:=List.count_le_length
 unfold Kj Lib.countByte
 rw[A1 (by omega) (by omega),A1 (by omega) (by omega),A1 (by omega) (by omega)]
 rfl
def szc (c:Aa):Int:=
 bif decide (c.fKind=1) then 4 else bif decide (c.fKind=2) then IntKind.wrap .i64 (5-c.fInt) else bif decide (c.fKind=3) then((Lib.itoa c.fInt).length:Int) else
 bif decide (c.fKind=4) then MB c.fStr else IntKind.wrap .i64 (2+max 0 (IntKind.wrap .i64 (c.fN-1)))
theorem Rw {c:Aa} (hs:c.fStr.length≤1152921504606846976) (hi:Bl .i64 c.fInt=true):Rx c=some (szc c):=by
 unfold Rx szc
 rw[Oi hs]
 refine ER rfl (ER rfl (ER ?_ (ER rfl rfl)))
 rw[B3 hi]
def J6 (d:Nat) (sh:AM) (c:Aa):AM:=
 ⟨max sh.fDepth ((d:Int)+1),IntKind.wrap .i64 (sh.fBytes+szc c),sh.fOutside||(decide (c.fKind=3)&&!(decide ((-1000000000000)≤c.fInt)&&decide (c.fInt≤1000000000000))),sh.fLong||decide (200<(c.fStr.length:Int))⟩
def shk (sh:AM) (c:Aa):AM:=⟨sh.fDepth,IntKind.wrap .i64 (sh.fBytes+(MB c.fStr+1)),sh.fOutside,sh.fLong||decide (200<(c.fStr.length:Int))⟩
def MI:List AD→Bool
 | []=>false
 | e::_=>e.fKey
abbrev Rh:=List AD×Int×AM
abbrev LkO:=Out (Int×AM×Bool) AM
def SR (n:Int) (S:List AD) (i:Int) (sh:AM) (c:Aa):Stp Rh LkO:=
 bif !pl c then .out (.ret (0,sh,false)) else
 match S with
 | e::S'=>
  bif e.fKey then
   bif !decide (c.fKind=4)||(e.fStarted&&(Ci c.fStr e.fLast||decide (c.fStr=e.fLast))) then .out (.ret (0,sh,false))
   else .next ((⟨e.fPairs,e.fLeft,false,c.fStr,true⟩::S').reverse,i+1,shk sh c)
  else bif decide (0<c.fN) then
   bif decide (n<c.fN) then .out (.ret (0,J6 S.length sh c,false))
   else .next ((⟨decide (c.fKind=6),c.fN,decide (c.fKind=6),[],false⟩::S).reverse,i+1,J6 S.length sh c)
  else bif decide (Nv S=[]) then .out (.ret (i+1,J6 S.length sh c,true)) else .next ((Nv S).reverse,i+1,J6 S.length sh c)
 | []=>
  bif decide (0<c.fN) then
   bif decide (n<c.fN) then .out (.ret (0,J6 0 sh c,false))
   else .next ([⟨decide (c.fKind=6),c.fN,decide (c.fKind=6),[],false⟩],i+1,J6 0 sh c)
  else .out (.ret (i+1,J6 0 sh c,true))
theorem Pg {S:List AD}:decide (((Nv S).reverse.length:Int)=0)=decide (Nv S=[]):=by
 rw[Bool.eq_iff_iff];simp
theorem AbP {α:Type} {xs:List α} {e x:α} {M:Nat} (h:xs.length+1≤M) (hM2:(M+2)*48≤140737488355328):Dw 48 ((xs++[e]).length+([x]:List α).length)=true:=by
 refine AcI (Nat.le_trans (Nat.mul_le_mul_right 48 ?_) hM2)
 rw[AcK,List.length_singleton,List.length_singleton];omega
set_option maxHeartbeats 600000 in
theorem R2 {F:Nat} {v:List Aa} {S:List AD} {i:Int} {sh:AM} {c:Aa} (h0:0≤i) (hc:v[i.toNat]? =some c) {M:Nat} (hM:M≤1152921504606846976) (hM2:(M+2)*48≤140737488355328) (hv:v.length≤M) (hS:S.length≤M) (hF:M<F)
  (hs:c.fStr.length≤M) (hi:Bl .i64 c.fInt=true) (hb:∀e∈S,1≤e.fLeft∧e.fLeft≤9223372036854775807):Em F v S.reverse i sh=some (SR v.length S i sh c):=by
 have hil:i.toNat<v.length:=(List.getElem?_eq_some_iff.1 hc).1
 have hat:Am v i=c:=by simp[Am,hc]
 unfold Em SR
 rw[AA (by simp;omega),AT h0 (by omega),hat,UP (by omega) (by omega),AG rfl]
 cases hp:pl c with
 | false=>rw[AA (by simp)];rfl
 | true=>
  rw[Ay (by simp)]
  cases S with
  | nil=>
   rw[B3 (by simp[imp]),B3 (by simp[imp]),Ay (by simp),A1 (by simp) (by simp),Rw (by omega) hi,AG rfl,B3 (by simp[imp,BK])]
   simp only[BK,ov,Option.getD_some,AcO,AcF]
   cases hn:decide (0<c.fN) with
   | true=>
    rw[AA rfl]
    cases hm:decide ((v.length:Int)<c.fN) with
    | true=>rw[AA rfl];simp[J6]
    | false=>rw[Ay rfl,B3 (by simp[Dw])];unfold EK;rw[A1 (by omega) (by omega)];simp[J6]
   | false=>
    rw[Ay rfl,AG (Om (S:=[]) (by simp;omega) (by simp) (by simp)),AA (by simp[Nv]),A1 (by omega) (by omega)];simp[J6]
  | cons e S'=>
   have hx:S'.reverse.length=S'.length:=by simp
   generalize hxs:S'.reverse=xs at hx
   have hr:(e::S').reverse=xs++[e]:=by simp[hxs]
   simp only[AcE] at hS
   have hlen:((xs++[e]).length:Int)=(xs.length:Int)+1:=by simp
   rw[hr,B3 (by simp only[imp,LZ];rw[EP (by omega) (by omega)];simp),B3 (by simp only[imp,LZ];rw[Md (by omega) (by omega)];simp)]
   rw[LZ,NX]
   cases hk:e.fKey with
   | true=>
    rw[AA (by simp),A1 (by omega) (by omega),AT (by omega) (by omega)]
    simp only[hk,AcO,AcF,AcJ]
    cases ht : !decide (c.fKind=4)||(e.fStarted&&(Ci c.fStr e.fLast||decide (c.fStr=e.fLast))) with
    | true=>rw[AA rfl];rfl
    | false=>
     rw[Ay rfl,L8,Ls,NX,L8,Ls,NX,L8,Ls,Oi (by omega),AG rfl,A1 (by unfold MB;omega) (by unfold MB;have:=@List.count_le_length UInt8 _ 34 c.fStr;have:=@List.count_le_length UInt8 _ 92 c.fStr;omega)]
     unfold EK
     rw[A1 (by omega) (by omega)]
     simp[shk,hxs]
   | false=>
    rw[Ay (by simp),hlen,A1 (by omega) (by omega),Rw (by omega) hi,AG rfl,B3 (by simp[imp,BK])]
    simp only[hk,BK,ov,Option.getD_some,AcO,AcF,AcJ]
    cases hn:decide (0<c.fN) with
    | true=>
     rw[AA rfl]
     cases hm:decide ((v.length:Int)<c.fN) with
     | true=>rw[AA rfl];simp[J6,hx]
     | false=>rw[Ay rfl,B3 (AbP (by omega) hM2)];unfold EK;rw[A1 (by omega) (by omega)];simp[J6,hx,hxs]
    | false=>
     have hcl:=Om (S:=e::S') (F:=F) (by simp;omega) hb (by simp;omega)
     rw[hr] at hcl
     rw[Ay rfl,hcl,AG rfl,Pg]
     cases hq:decide (Nv (e::S')=[]) with
     | true=>rw[AA rfl,A1 (by omega) (by omega)];simp[J6,hx]
     | false=>rw[Ay rfl];unfold EK;rw[A1 (by omega) (by omega)];simp[J6,hx]
section
variable {S O : Type} {body : S → Option (Stp S O)} {s t u : S} {o : O}
def EU (body:S→Option (Stp S O)) (s t:S):Prop:=∃k,∀n,BF body (n+k) s=BF body n t
def Fin (body:S→Option (Stp S O)) (s:S) (o:O):Prop:=∃k,∀n,BF body (n+k) s=some o
theorem EU.refl (s:S):EU body s s:=⟨0,λ_=>rfl⟩
theorem EU.trans (h:EU body s t) (h':EU body t u):EU body s u:=by
 obtain⟨k,hk⟩:=h
 obtain⟨j,hj⟩:=h'
 exact⟨j+k,λn=>by rw[← Nat.add_assoc,hk,hj]⟩
theorem EU.step (h:body s=some (.next t)):EU body s t:=⟨1,λn=>by rw[BF,h]⟩
theorem Fin.step (h:body s=some (.out o)):Fin body s o:=⟨1,λn=>by rw[BF,h]⟩
theorem EU.fin (h:EU body s t) (h':Fin body t o):Fin body s o:=by
 obtain⟨k,hk⟩:=h
 obtain⟨j,hj⟩:=h'
 exact⟨j+k,λn=>by rw[← Nat.add_assoc,hk,hj]⟩
end
inductive Fo where
 | nil
 | cell (k:Option Ag) (c:Aa) (r:Fo)
 | node (k:Option Ag) (c:Aa) (kids r:Fo)
def By:Option Ag→List Aa
 | none=>[]
 | some s=>[⟨4,0,s,0⟩]
def Fo.flat:Fo→List Aa
 | .nil=>[]
 | .cell k c r=>By k++c::r.flat
 | .node k c kids r=>By k++c::(kids.flat++r.flat)
def Fo.cnt:Fo→Nat
 | .nil=>0
 | .cell _ _ r=>r.cnt+1
 | .node _ _ _ r=>r.cnt+1
def B1 (m:Bool) (last:Option Ag):Option Ag→Bool
 | none=>!m
 | some s=>m&&s.all Ku&&(match last with
  | none=>true
  | some p=>!(Ci s p||decide (s=p)))
def Fo.wf:Bool→Option Ag→Fo→Bool
 | _,_,.nil=>true
 | m,last,.cell k c r=>B1 m last k&&pl c&&!decide (0<c.fN)&&r.wf m k
 | m,last,.node k c kids r=>B1 m last k&&pl c&&decide (0<c.fN)&&decide (c.fN=kids.cnt)&&kids.wf (decide (c.fKind=6)) none&&r.wf m k
def Nj (k:Option Ag) (sh:AM):AM:=match k with
 | none=>sh
 | some s=>shk sh ⟨4,0,s,0⟩
def Fo.sh (d:Nat):AM→Fo→AM
 | s,.nil=>s
 | s,.cell k c r=>r.sh d (J6 d (Nj k s) c)
 | s,.node k c kids r=>r.sh d (kids.sh (d+1) (J6 d (Nj k s) c))
def I6 (body:Rh→Option (Stp Rh LkO)) (s:Rh) (S:List AD) (i:Int) (sh:AM):Prop:=
 if Nv S=[] then Fin body s (.ret (i,sh,true)) else EU body s ((Nv S).reverse,i,sh)
theorem I6.of {body:Rh→Option (Stp Rh LkO)} {s t:Rh} {S:List AD} {i:Int} {sh:AM} (h:EU body s t) (h':I6 body t S i sh):I6 body s S i sh:=by
 unfold I6 at *
 split
 ·rename_i e;rw[Adq e] at h';exact h.fin h'
 ·rename_i e;rw[Adj e] at h';exact h.trans h'
theorem I6.pop {body:Rh→Option (Stp Rh LkO)} {s:Rh} {e:AD} {S:List AD} {i:Int} {sh:AM} (h:I6 body s (e::S) i sh) (h1:e.fLeft=1):I6 body s S i sh:=by
 have:Nv (e::S)=Nv S:=by simp[Nv,h1]
 unfold I6 at *
 rw[this] at h;exact h
theorem I6.more {body:Rh→Option (Stp Rh LkO)} {s:Rh} {e:AD} {S:List AD} {i:Int} {sh:AM} (h:I6 body s (e::S) i sh) (h1:1<e.fLeft):EU body s ((⟨e.fPairs,e.fLeft-1,e.fPairs,e.fLast,e.fStarted⟩::S).reverse,i,sh):=by
 have:Nv (e::S)=⟨e.fPairs,e.fLeft-1,e.fPairs,e.fLast,e.fStarted⟩::S:=by simp[Nv,h1]
 unfold I6 at *
 rw[this,Adj (by simp)] at h;exact h
structure UD (F M:Nat) (v:List Aa):Prop where
 hM:M≤1152921504606846976
 hM2:(M+2)*48≤140737488355328
 hv:v.length≤M
 hF:M<F
 hc:∀c∈v,c.fStr.length≤M∧Bl .i64 c.fInt=true∧c.fN≤9223372036854775807
abbrev So (F:Nat) (v:List Aa):Rh→Option (Stp Rh LkO):=λσ=>Em F v σ.1 σ.2.1 σ.2.2
def Ey (S:List AD):Prop:=∀e∈S,1≤e.fLeft∧e.fLeft≤9223372036854775807
section
variable {F M : Nat} {v : List Aa} {S : List AD} {i : Int} {sh : AM} {c : Aa} {r : List Aa} {e : AD}
theorem Cs (h0:0≤i) (h:v.drop i.toNat=c::r):v[i.toNat]? =some c∧v.drop (i+1).toNat=r∧i<v.length:=by
 have h1:(v.drop i.toNat)[0]? =some c:=by rw[h];rfl
 have h2:v[i.toNat]? =some c:=by simpa using h1
 have h3:=(List.getElem?_eq_some_iff.1 h2).1
 refine⟨h2,?_,by omega⟩
 rw[show(i+1).toNat=i.toNat+1 from by omega,← Adx,h];rfl
theorem round (hA:UD F M v) (h0:0≤i) (h:v.drop i.toNat=c::r) (hS:(S.length:Int)≤i) (hb:Ey S):So F v (S.reverse,i,sh)=some (SR v.length S i sh c):=by
 obtain⟨h1,_,h3⟩:=Cs h0 h
 obtain⟨a,b,_⟩:=hA.hc c (AcU h1)
 have:=hA.hv
 exact R2 h0 h1 hA.hM hA.hM2 hA.hv (by omega) hA.hF a b hb
def Hk (e:AD):Option Ag→AD
 | none=>e
 | some s=>⟨e.fPairs,e.fLeft,false,s,true⟩
def JS (e:AD):Option Ag→Prop
 | none=>e.fStarted=false
 | some p=>e.fStarted=true∧e.fLast=p
theorem OH (hA:UD F M v) (h0:0≤i) {k last:Option Ag} (h:v.drop i.toNat=By k++r) (hS:(S.length:Int)+1≤i) (hb:Ey (e::S)) (hk:B1 e.fKey last k=true) (hl:JS e last) :
  EU (So F v) ((e::S).reverse,i,sh) ((Hk e k::S).reverse,i+(By k).length,Nj k sh):=by
 cases k with
 | none=>simpa[Hk,By,Nj] using EU.refl _
 | some s=>
  simp only[B1,AcH] at hk
  obtain⟨⟨hm,hok⟩,hcmp⟩:=hk
  refine EU.step ?_
  rw[round hA h0 (by simpa[By] using h) (by simpa using hS) hb]
  have hp:pl ⟨4,0,s,0⟩=true:=by simp[pl,hok]
  have ht:(e.fStarted&&(Ci s e.fLast||decide (s=e.fLast)))=false:=by
   cases last with
   | none=>simp only[JS] at hl;rw[hl];rfl
   | some p=>obtain⟨h1,h2⟩:=hl;rw[h1,h2];simpa using hcmp
  simp only[SR,hp,hm,ht,AcO,AcF,AcJ,decide_true,AcX,Bool.or_self]
  rfl
theorem MH {k last:Option Ag} (hk:B1 e.fKey last k=true):(Hk e k).fKey=false:=by
 cases k with
 | none=>simpa[Hk,B1] using hk
 | some s=>rfl
theorem Lj (k:Option Ag):(Hk e k).fLeft=e.fLeft∧(Hk e k).fPairs=e.fPairs:=by cases k<;>exact⟨rfl,rfl⟩
theorem MF (hA:UD F M v) (h0:0≤i) (h:v.drop i.toNat=c::r) (hS:(S.length:Int)≤i) (hb:Ey S) (hk:MI S=false) (hp:pl c=true) (hn:decide (0<c.fN)=false) :
  I6 (So F v) (S.reverse,i,sh) S (i+1) (J6 S.length sh c):=by
 have hr:=round (sh:=sh) hA h0 h hS hb
 unfold I6
 cases S with
 | nil=>
  rw[Adq (by simp[Nv])]
  refine Fin.step ?_
  rw[hr];simp[SR,hp,hn]
 | cons e S=>
  simp only[MI] at hk
  split
  ·rename_i hc
   refine Fin.step ?_
   rw[hr];simp[SR,hp,hn,hk,hc]
  ·rename_i hc
   refine EU.step ?_
   rw[hr];simp[SR,hp,hn,hk,hc]
theorem Kw (hA:UD F M v) (h0:0≤i) (h:v.drop i.toNat=c::r) (hS:(S.length:Int)≤i) (hb:Ey S) (hk:MI S=false) (hp:pl c=true) (hn:decide (0<c.fN)=true) (hv:c.fN≤v.length) :
  EU (So F v) (S.reverse,i,sh) ((⟨decide (c.fKind=6),c.fN,decide (c.fKind=6),[],false⟩::S).reverse,i+1,J6 S.length sh c):=by
 have hr:=round (sh:=sh) hA h0 h hS hb
 have hv':decide ((v.length:Int)<c.fN)=false:=by simpa using hv
 refine EU.step ?_
 rw[hr]
 cases S with
 | nil=>simp only[SR,hp,hn,hv',AcO,AcF,AcJ];rfl
 | cons e S=>
  simp only[MI] at hk
  simp only[SR,hp,hn,hv',hk,AcO,AcF,AcJ]
theorem Cp:∀f:Fo,f.cnt≤f.flat.length
 | .nil=>Adf _
 | .cell k c r=>by have:=Cp r;simp[Fo.cnt,Fo.flat];omega
 | .node k c kids r=>by have:=Cp r;simp[Fo.cnt,Fo.flat];omega
theorem CG {α:Type} {v xs r:List α} {i:Int} (h0:0≤i) (h:v.drop i.toNat=xs++r):v.drop (i+xs.length).toNat=r:=by
 rw[show(i+(xs.length:Int)).toNat=i.toNat+xs.length from by omega,← Adx,h,List.drop_left]
theorem RC (hA:UD F M v) {e':AD} {s:Rh} {k:Option Ag} {r':Fo}
  (ih:∀(e:AD) (S:List AD) (i:Int) (sh:AM) (last:Option Ag) (r:List Aa),1≤r'.cnt→r'.wf e.fPairs last=true→e.fKey=e.fPairs→e.fLeft=r'.cnt→JS e last→(e.fPairs=false→last=none)→v.drop i.toNat=r'.flat++r→0≤i→(S.length:Int)+1≤i→Ey S→
   I6 (So F v) ((e::S).reverse,i,sh) S (i+r'.flat.length) (r'.sh (S.length+1) sh))
  (hd:I6 (So F v) s (e'::S) i sh) (hl:e'.fLeft=r'.cnt+1) (hw:r'.wf e'.fPairs k=true) (hk:JS e' k) (hm:e'.fPairs=false→k=none) (hv:v.drop i.toNat=r'.flat++r) (h0:0≤i) (hS:(S.length:Int)+1≤i) (hb:Ey S) :
  I6 (So F v) s S (i+r'.flat.length) (r'.sh (S.length+1) sh):=by
 by_cases h1:r'.cnt=0
 ·cases r' with
  | nil=>simpa[Fo.flat,Fo.sh] using hd.pop (by rw[hl];rfl)
  | cell _ _ _=>simp[Fo.cnt] at h1
  | node _ _ _ _=>simp[Fo.cnt] at h1
 ·have:=hd.more (by omega)
  refine I6.of this (ih _ S i sh k r (by omega) hw rfl (by simp only;omega) ?_ hm hv h0 hS hb)
  cases k with
  | none=>exact hk
  | some p=>exact hk
theorem Lk {k last:Option Ag} (hl:JS e last) (hm:e.fPairs=false→last=none) (hk:B1 e.fPairs last k=true):JS (Hk e k) k∧((Hk e k).fPairs=false→k=none):=by
 cases k with
 | none=>
  have:e.fPairs=false:=by simpa[B1] using hk
  rw[hm this] at hl
  exact⟨hl,λ_=>rfl⟩
 | some s=>
  refine⟨⟨rfl,rfl⟩,λh=>?_⟩
  have h:e.fPairs=false:=h
  simp[B1,h] at hk
theorem Nt (hA:UD F M v):∀(f:Fo) (e:AD) (S:List AD) (i:Int) (sh:AM) (last:Option Ag) (r:List Aa),1≤f.cnt→f.wf e.fPairs last=true→e.fKey=e.fPairs→e.fLeft=f.cnt→JS e last→(e.fPairs=false→last=none)→v.drop i.toNat=f.flat++r→0≤i→(S.length:Int)+1≤i→Ey S→
   I6 (So F v) ((e::S).reverse,i,sh) S (i+f.flat.length) (f.sh (S.length+1) sh):=by
 have hmax:∀(i:Int) (xs:List Aa),0≤i→v.drop i.toNat=xs→xs.length≤v.length:=λi xs _ h=>by rw[← h,Adv];omega
 intro f
 induction f with
 | nil=>intro e S i sh last r h1;simp[Fo.cnt] at h1
 | cell k c r' ih=>
  intro e S i sh last r h1 hw hk hl hlo hm hv h0 hS hb
  simp only[Fo.wf,AcH,AcS] at hw
  obtain⟨⟨⟨w1,w2⟩,w3⟩,w4⟩:=hw
  simp only[Fo.flat,Adb,List.cons_append] at hv
  have hcnt:=hmax i _ h0 hv
  have hcf:=Cp r'
  simp only[AcK,AcE] at hcnt
  have hvM:=hA.hv;have hMM:=hA.hM
  simp only[Fo.cnt] at hl
  have hb':Ey (e::S):=λx hx=>by
   rcases List.mem_cons.1 hx with rfl | hx
   ·constructor<;>omega
   ·exact hb x hx
  have hkr:=OH (sh:=sh) hA h0 hv hS hb' (by rw[hk];exact w1) hlo
  have hv1:=CG h0 hv
  obtain⟨kl,kp⟩:=Lj (e:=e) k
  have hbk:Ey (Hk e k::S):=λx hx=>by
   rcases List.mem_cons.1 hx with rfl | hx
   ·rw[kl];exact hb' e (by simp)
   ·exact hb x hx
  have hd:=MF (sh:=Nj k sh) hA (by omega) hv1 (by simp only[AcE];omega) hbk (MH (by rw[hk];exact w1)) w2 w3
  obtain⟨q1,q2⟩:=Lk hlo hm w1
  have hv2:=(Cs (by omega) hv1).2.1
  have:=RC hA ih (hd.of hkr) (by rw[kl,hl];rfl) (by rw[kp];exact w4) q1 q2 hv2 (by omega) (by omega) hb
  simp only[Fo.flat,Fo.sh,AcK,AcE]
  rw[show i+((((By k).length+(r'.flat.length+1):Nat)):Int)=i+(By k).length+1+r'.flat.length from by omega]
  exact this
 | node k c kids r' ihk ih=>
  intro e S i sh last r h1 hw hk hl hlo hm hv h0 hS hb
  simp only[Fo.wf,AcH,AcC] at hw
  obtain⟨⟨⟨⟨⟨w1,w2⟩,w3⟩,w5⟩,w6⟩,w4⟩:=hw
  simp only[Fo.flat,Adb,List.cons_append] at hv
  have hcnt:=hmax i _ h0 hv
  have hcf:=Cp r'
  have hck:=Cp kids
  simp only[AcK,AcE] at hcnt
  have hvM:=hA.hv;have hMM:=hA.hM
  simp only[Fo.cnt] at hl
  have hb':Ey (e::S):=λx hx=>by
   rcases List.mem_cons.1 hx with rfl | hx
   ·constructor<;>omega
   ·exact hb x hx
  have hkr:=OH (sh:=sh) hA h0 hv hS hb' (by rw[hk];exact w1) hlo
  have hv1:=CG h0 hv
  obtain⟨kl,kp⟩:=Lj (e:=e) k
  have hbk:Ey (Hk e k::S):=λx hx=>by
   rcases List.mem_cons.1 hx with rfl | hx
   ·rw[kl];exact hb' e (by simp)
   ·exact hb x hx
  have hn:=Kw (sh:=Nj k sh) hA (by omega) hv1 (by simp only[AcE];omega) hbk (MH (by rw[hk];exact w1)) w2 (by simpa using w3) (by omega)
  have hv2:=(Cs (by omega) hv1).2.1
  have hd:=ihk ⟨decide (c.fKind=6),c.fN,decide (c.fKind=6),[],false⟩ (Hk e k::S) (i+(By k).length+1) (J6 (S.length+1) (Nj k sh) c) none _ (by omega) w6 rfl w5 rfl (λ_=>rfl) hv2 (by omega) (by simp only[AcE];omega) hbk
  obtain⟨q1,q2⟩:=Lk hlo hm w1
  have hv3:=CG (by omega) hv2
  have:=RC hA ih ((hd.of hn).of hkr) (by rw[kl,hl];rfl) (by rw[kp];exact w4) q1 q2 hv3 (by omega) (by omega) hb
  simp only[Fo.flat,Fo.sh,AcK,AcE]
  rw[show i+((((By k).length+(kids.flat.length+r'.flat.length+1):Nat)):Int)=i+(By k).length+1+kids.flat.length+r'.flat.length from by omega]
  exact this
end
theorem Sm {S O:Type} {body:S→Option (Stp S O)} {o:O}:∀{n:Nat} {s:S} (k:Nat),BF body n s=some o→BF body (n+k) s=some o
 | 0,s,k,h=>by cases h
 | n+1,s,k,h=>by
  rw[show n+1+k=n+k+1 from by omega,BF]
  rw[BF] at h
  cases hb:body s with
  | none=>rw[hb] at h;cases h
  | some t=>
   rw[hb] at h
   cases t with
   | next s'=>exact Sm k h
   | out o'=>exact h
theorem Fin.eq {S O:Type} {body:S→Option (Stp S O)} {s:S} {o o':O} {n:Nat} (h:Fin body s o) (h':BF body n s=some o'):o'=o:=by
 obtain⟨k,hk⟩:=h
 have:=Sm k h'
 rw[hk n] at this
 exact(As this).symm
theorem Qq:∀{S:List AD},Ey S→Ey (Nv S)∧(Nv S).length≤S.length
 | [],h=>⟨h,Adf _⟩
 | e::S,h=>by
  have hS:Ey S:=λx hx=>h x (by simp[hx])
  have he:=h e (by simp)
  unfold Nv
  cases hd:decide (1<e.fLeft) with
  | true=>
   simp only[AcC] at hd
   refine⟨λx hx=>?_,by simp⟩
   rcases List.mem_cons.1 hx with rfl | hx
   ·simp only;omega
   ·exact hS x hx
  | false=>
   obtain⟨h1,h2⟩:=Qq hS
   exact⟨h1,by simp only[AcF,AcE];omega⟩
theorem XI {n:Int} {S:List AD} {i:Int} {sh:AM} {c:Aa} {σ:Rh} (hb:Ey S) (hS:(S.length:Int)≤i) (hN:c.fN≤9223372036854775807) (h:SR n S i sh c = .next σ):∃S' sh',σ=(S'.reverse,i+1,sh')∧Ey S'∧(S'.length:Int)≤i+1:=by
 unfold SR at h
 cases hp:pl c with
 | false=>simp[hp] at h
 | true=>
  simp only[hp,AcO,AcF] at h
  cases S with
  | nil=>
   simp only at h
   cases hn:decide (0<c.fN) with
   | false=>simp[hn] at h
   | true=>
    simp only[hn,AcJ] at h
    cases hm:decide (n<c.fN) with
    | true=>simp[hm] at h
    | false=>
     simp only[hm,AcF,Stp.next.injEq] at h
     refine⟨[_],_,h.symm,λx hx=>?_,by simp at hS ⊢;omega⟩
     simp only[List.mem_singleton] at hx;subst hx
     simp only[AcC] at hn
     exact⟨by simp only;omega,hN⟩
  | cons e S=>
   have he:=hb e (by simp)
   have hbS:Ey S:=λx hx=>hb x (by simp[hx])
   simp only[AcE] at hS
   cases hk:e.fKey with
   | true=>
    simp only[hk,AcJ] at h
    cases hq:(!decide (c.fKind=4)||(e.fStarted&&(Ci c.fStr e.fLast||decide (c.fStr=e.fLast)))) with
    | true=>rw[hq] at h;simp at h
    | false=>
     rw[hq] at h
     simp only[AcF,Stp.next.injEq] at h
     refine⟨_::S,_,h.symm,λx hx=>?_,by simp only[AcE];omega⟩
     rcases List.mem_cons.1 hx with rfl | hx
     ·exact he
     ·exact hbS x hx
   | false=>
    simp only[hk,AcF] at h
    cases hn:decide (0<c.fN) with
    | true=>
     simp only[hn,AcJ] at h
     cases hm:decide (n<c.fN) with
     | true=>simp[hm] at h
     | false=>
      simp only[hm,AcF,Stp.next.injEq] at h
      refine⟨_::e::S,_,h.symm,λx hx=>?_,by simp only[AcE];omega⟩
      rcases List.mem_cons.1 hx with rfl | hx
      ·simp only[AcC] at hn
       exact⟨by simp only;omega,hN⟩
      ·exact hb x hx
    | false=>
     simp only[hn,AcF] at h
     cases hq:decide (Nv (e::S)=[]) with
     | true=>rw[hq] at h;simp at h
     | false=>
      rw[hq] at h
      simp only[AcF,Stp.next.injEq] at h
      obtain⟨h1,h2⟩:=Qq hb
      simp only[AcE] at h2
      exact⟨_,_,h.symm,h1,by omega⟩
theorem OD {F M:Nat} {v:List Aa} (hA:UD F M v):∃o,BF (So F v) F (([]:List AD),0,(⟨0,0,false,false⟩:AM))=some o∧True:=by
 refine Ik (λσ=>∃S i sh,σ=(S.reverse,i,sh)∧Ey S∧(S.length:Int)≤i∧0≤i∧i≤v.length) (λσ=>v.length-σ.2.1.toNat) (λ_=>True) (λσ hI=>?_) F _ ⟨[],0,_,rfl,(λx hx=>by cases hx),Ade _,Ade _,by omega⟩ (by have:=hA.hv;have:=hA.hF;simp;omega)
 obtain⟨S,i,sh,rfl,hb,hS,h0,hi⟩:=hI
 by_cases hx:i<v.length
 ·obtain⟨c,hc⟩:∃c,v[i.toNat]? =some c:=⟨v[i.toNat]'(by omega),List.getElem?_eq_getElem (by omega)⟩
  have hdr:v.drop i.toNat=c::v.drop (i.toNat+1):=by rw[List.drop_eq_getElem_cons (by omega)];congr 1;exact(List.getElem?_eq_some_iff.1 hc).2
  have hr:=round (sh:=sh) hA h0 hdr hS hb
  cases hl:SR v.length S i sh c with
  | next τ=>
   obtain⟨S',sh',rfl,h1,h2⟩:=XI hb hS (hA.hc c (AcU hc)).2.2 hl
   exact .inl ⟨_,by rw[hr,hl],⟨S',i+1,sh',rfl,h1,h2,by omega,by omega⟩,by simp only;omega⟩
  | out o=>exact .inr ⟨o,by rw[hr,hl],trivial⟩
 ·refine .inr ⟨.go sh,?_,trivial⟩
  show Em F v S.reverse i sh=_
  unfold Em
  rw[Ay (by simpa using hx)]
def Fo.one:Fo→Bool
 | .cell none _ .nil=>true
 | .node none _ _ .nil=>true
 | _=>false
def Ov:AM:=⟨0,0,false,false⟩
theorem XH {F M:Nat} {v:List Aa} (hA:UD F M v) {f:Fo} (h1:f.one=true) (hw:f.wf false none=true) {r:List Aa} (hv:v=f.flat++r):Fin (So F v) ([],0,Ov) (.ret (f.flat.length,f.sh 0 Ov,true)):=by
 have h0:v.drop (0:Int).toNat=f.flat++r:=by rw[hv];rfl
 have hlen:f.flat.length≤v.length:=by rw[hv];simp
 cases f with
 | nil=>cases h1
 | cell k c r'=>
  cases k with
  | some s=>cases h1
  | none=>
   cases r' with
   | nil=>
    simp only[Fo.wf,AcH,AcS] at hw
    have:=MF (S:=[]) (sh:=Ov) hA (Ade 0) h0 (by simp) (λx hx=>by cases hx) rfl hw.1.1.2 hw.1.2
    unfold I6 at this
    rw[Adq (show Nv []=[] from rfl)] at this
    simpa[Fo.flat,Fo.sh,By,Nj] using this
   | cell _ _ _=>cases h1
   | node _ _ _ _=>cases h1
 | node k c kids r'=>
  cases k with
  | some s=>cases h1
  | none=>
   cases r' with
   | nil=>
    simp only[Fo.wf,AcH,AcC] at hw
    obtain⟨⟨⟨⟨⟨w1,w2⟩,w3⟩,w5⟩,w6⟩,w4⟩:=hw
    have hck:=Cp kids
    simp only[Fo.flat,By,Adh,Adg,AcE] at hlen
    have hvM:=hA.hv;have hMM:=hA.hM
    have hn:=Kw (S:=[]) (sh:=Ov) hA (Ade 0) h0 (by simp) (λx hx=>by cases hx) rfl w2 (by simpa using w3) (by omega)
    have hv2:=(Cs (Ade 0) h0).2.1
    have hd:=Nt hA kids ⟨decide (c.fKind=6),c.fN,decide (c.fKind=6),[],false⟩ [] (0+1) (J6 0 Ov c) none r (by omega) w6 rfl w5 rfl (λ_=>rfl) (by rw[hv2];simp[Fo.flat]) (by omega) (by simp) (λx hx=>by cases hx)
    unfold I6 at hd
    rw[Adq (show Nv []=[] from rfl)] at hd
    have:=hn.fin hd
    have e:((0:Int)+1+kids.flat.length)=((Fo.node none c kids .nil).flat.length:Int):=by simp[Fo.flat,By];omega
    rw[e] at this
    exact this
   | cell _ _ _=>cases h1
   | node _ _ _ _=>cases h1
theorem Sn {F M:Nat} {v:List Aa} (hA:UD F M v) {f:Fo} (h1:f.one=true) (hw:f.wf false none=true) {r:List Aa} (hv:v=f.flat++r):Jy F v=some ((f.flat.length:Int),f.sh 0 Ov,true):=by
 obtain⟨o,ho,_⟩:=OD hA
 have e:=(XH hA h1 hw hv).eq ho
 subst e
 unfold Jy
 rw[AG ho];rfl
def IO (m:Bool) (last:Option Ag) (xs:List Aa):Option (Option Ag×List Aa):=
 bif m then match xs with
  | []=>none
  | c::r=>bif pl c&&decide (c.fKind=4)&&B1 true last (some c.fStr) then some (some c.fStr,r) else none
 else some (none,xs)
def Jc:Nat→Bool→Option Ag→Nat→List Aa→Option (Fo×List Aa)
 | 0,_,_,_,_=>none
 | _+1,_,_,0,xs=>some (.nil,xs)
 | F+1,m,last,k+1,xs=>
  match IO m last xs with
  | none=>none
  | some (_,[])=>none
  | some (key,c::xs')=>
   bif !pl c then none else
   bif decide (0<c.fN) then
    match Jc F (decide (c.fKind=6)) none c.fN.toNat xs' with
    | none=>none
    | some (kids,ys)=>match Jc F m key k ys with
     | none=>none
     | some (r,zs)=>some (.node key c kids r,zs)
   else match Jc F m key k xs' with
    | none=>none
    | some (r,zs)=>some (.cell key c r,zs)
theorem QC {c:Aa} (hp:pl c=true) (hk:c.fKind=4):c=⟨4,0,c.fStr,0⟩∧c.fStr.all Ku=true:=by
 cases c
 simp only at hk;subst hk
 simp[pl] at hp
 obtain⟨h1,h2,h3⟩:=hp
 subst h1;subst h2
 exact⟨rfl,by simpa using h3⟩
theorem NL {m:Bool} {last key:Option Ag} {xs r:List Aa} (h:IO m last xs=some (key,r)):xs=By key++r∧B1 m last key=true:=by
 unfold IO at h
 cases m with
 | false=>cases h;exact⟨rfl,rfl⟩
 | true=>
  simp only[AcJ] at h
  cases xs with
  | nil=>cases h
  | cons c r'=>
   simp only at h
   cases hb:(pl c&&decide (c.fKind=4)&&B1 true last (some c.fStr)) with
   | false=>rw[hb] at h;cases h
   | true=>
    rw[hb] at h
    simp only[AcH,AcC] at hb
    cases h
    exact⟨by rw[(QC hb.1.1 hb.1.2).1];rfl,hb.2⟩
theorem Iy:∀(F:Nat) (m:Bool) (last:Option Ag) (k:Nat) (xs:List Aa) (f:Fo) (ys:List Aa),Jc F m last k xs=some (f,ys)→xs=f.flat++ys∧f.wf m last=true∧f.cnt=k
 | 0,_,_,_,_,_,_,h=>by cases h
 | F+1,m,last,0,xs,f,ys,h=>by cases h;exact⟨rfl,rfl,rfl⟩
 | F+1,m,last,k+1,xs,f,ys,h=>by
  rw[Jc] at h
  cases hk:IO m last xs with
  | none=>rw[hk] at h;cases h
  | some p=>
   obtain⟨key,r⟩:=p
   obtain⟨h1,h2⟩:=NL hk
   rw[hk] at h
   cases r with
   | nil=>cases h
   | cons c xs'=>
    simp only at h
    cases hp:pl c with
    | false=>rw[hp] at h;cases h
    | true=>
     rw[hp] at h
     simp only[AcO,AcF] at h
     cases hn:decide (0<c.fN) with
     | true=>
      rw[hn] at h
      simp only[AcJ] at h
      cases hq:Jc F (decide (c.fKind=6)) none c.fN.toNat xs' with
      | none=>rw[hq] at h;cases h
      | some q=>
       obtain⟨kids,zs⟩:=q
       rw[hq] at h
       simp only at h
       cases hr:Jc F m key k zs with
       | none=>rw[hr] at h;cases h
       | some q2=>
        obtain⟨r2,us⟩:=q2
        rw[hr] at h;cases h
        obtain⟨a1,a2,a3⟩:=Iy F _ _ _ _ _ _ hq
        obtain⟨b1,b2,b3⟩:=Iy F _ _ _ _ _ _ hr
        refine⟨by rw[h1,a1,b1];simp[Fo.flat],?_,by simp[Fo.cnt,b3]⟩
        simp only[AcC] at hn
        simp only[Fo.wf,h2,hp,a2,b2,AcR,AcN,AcH,AcC]
        omega
     | false=>
      rw[hn] at h
      simp only[AcF] at h
      cases hr:Jc F m key k xs' with
      | none=>rw[hr] at h;cases h
      | some q2=>
       obtain⟨r2,us⟩:=q2
       rw[hr] at h;cases h
       obtain⟨b1,b2,b3⟩:=Iy F _ _ _ _ _ _ hr
       exact⟨by rw[h1,b1];simp[Fo.flat],by simp[Fo.wf,h2,hp,b2,hn],by simp[Fo.cnt,b3]⟩
theorem IN:∀(F F':Nat) (m:Bool) (last:Option Ag) (k:Nat) (xs:List Aa),xs.length<F→xs.length<F'→Jc F m last k xs=Jc F' m last k xs
 | 0,_,_,_,_,_,h,_=>by omega
 | _+1,0,_,_,_,_,_,h=>by omega
 | F+1,F'+1,m,last,0,xs,_,_=>rfl
 | F+1,F'+1,m,last,k+1,xs,h,h'=>by
  rw[Jc,Jc]
  cases hk:IO m last xs with
  | none=>rfl
  | some p=>
   obtain⟨key,r⟩:=p
   obtain⟨h1,h2⟩:=NL hk
   cases r with
   | nil=>rfl
   | cons c xs'=>
    have hl:xs'.length<xs.length:=by rw[h1];simp;omega
    simp only
    cases hp:pl c with
    | false=>rfl
    | true=>
     simp only[AcO,AcF]
     cases hn:decide (0<c.fN) with
     | true=>
      simp only[AcJ]
      rw[IN F F' _ _ _ xs' (by omega) (by omega)]
      cases hq:Jc F' (decide (c.fKind=6)) none c.fN.toNat xs' with
      | none=>rfl
      | some q=>
       obtain⟨kids,zs⟩:=q
       have:=(Iy _ _ _ _ _ _ _ hq).1
       have hz:zs.length≤xs'.length:=by rw[this];simp
       simp only
       rw[IN F F' m key k zs (by omega) (by omega)]
     | false=>
      simp only[AcF]
      rw[IN F F' m key k xs' (by omega) (by omega)]
def TE {S:Type} (body:S→Option (Stp S LkO)) (s:S):Prop:=∃sh',Fin body s (.ret (0,sh',false))∨Fin body s (.go sh')
theorem EU.bad {S:Type} {body:S→Option (Stp S LkO)} {s t:S} (h:EU body s t) (h':TE body t):TE body s:=by
 obtain⟨sh',h' | h'⟩:=h'
 ·exact⟨sh',.inl (h.fin h')⟩
 ·exact⟨sh',.inr (h.fin h')⟩
section
variable {F M : Nat} {v : List Aa}
theorem TE.end_ {S:List AD} {i:Int} {sh:AM} (h0:0≤i) (h:v.drop i.toNat=[]):TE (So F v) (S.reverse,i,sh):=by
 refine⟨sh,.inr (Fin.step ?_)⟩
 show Em F v S.reverse i sh=_
 unfold Em
 rw[Ay]
 have:v.length≤i.toNat:=by simpa using h
 simp;omega
theorem TE.pl_ (hA:UD F M v) {S:List AD} {i:Int} {sh:AM} {c:Aa} {r:List Aa} (h0:0≤i) (h:v.drop i.toNat=c::r) (hS:(S.length:Int)≤i) (hb:Ey S) (hp:pl c=false):TE (So F v) (S.reverse,i,sh):=by
 refine⟨sh,.inl (Fin.step ?_)⟩
 rw[round hA h0 h hS hb]
 simp[SR,hp]
theorem T4 (hA:UD F M v):∀(P:Nat) (k:Nat) (e:AD) (S:List AD) (i:Int) (sh:AM) (last:Option Ag) (xs:List Aa),xs.length<P→Jc P e.fPairs last (k+1) xs=none→e.fKey=e.fPairs→e.fLeft=(k:Int)+1→(k:Int)+1≤9223372036854775807→JS e last→(e.fPairs=false→last=none)→v.drop i.toNat=xs→0≤i→(S.length:Int)+1≤i→Ey S→
  TE (So F v) ((e::S).reverse,i,sh):=by
 intro P
 induction P with
 | zero=>intro k e S i sh last xs h;omega
 | succ P ih=>
  intro k e S i sh last xs hP hn hk hl hkm hlo hm hv h0 hS hb
  have hb':Ey (e::S):=λx hx=>by
   rcases List.mem_cons.1 hx with rfl | hx
   ·constructor<;>omega
   ·exact hb x hx
  rw[Jc] at hn
  cases hq:IO e.fPairs last xs with
  | none=>
   unfold IO at hq
   cases hpr:e.fPairs with
   | false=>rw[hpr] at hq;cases hq
   | true=>
    rw[hpr] at hq hk
    simp only[AcJ] at hq
    cases xs with
    | nil=>exact TE.end_ h0 hv
    | cons c r=>
     simp only at hq
     cases hp:pl c with
     | false=>exact TE.pl_ hA h0 hv (by simpa using hS) hb' hp
     | true=>
      refine⟨sh,.inl (Fin.step ?_)⟩
      rw[round hA h0 hv (by simpa using hS) hb']
      have ht:(!decide (c.fKind=4)||(e.fStarted&&(Ci c.fStr e.fLast||decide (c.fStr=e.fLast))))=true:=by
       rw[hp] at hq
       cases h4:decide (c.fKind=4) with
       | false=>rfl
       | true=>
        rw[h4] at hq
        simp only[Bool.and_self,AcN] at hq
        have hok:=(QC hp (by simpa using h4)).2
        cases last with
        | none=>simp[B1,hok] at hq
        | some p=>
         obtain⟨q1,q2⟩:=hlo
         rw[q1,q2]
         cases hc:(Ci c.fStr p||decide (c.fStr=p)) with
         | true=>rfl
         | false=>simp[B1,hok,hc] at hq
      simp only[SR,hp,hk,ht,AcO,AcF,AcJ]
  | some q=>
   obtain⟨key,r⟩:=q
   obtain⟨h1,h2⟩:=NL hq
   rw[hq] at hn
   have hkr:=OH (sh:=sh) hA h0 (by rw[hv];exact h1) hS hb' (by rw[hk];exact h2) hlo
   have hv1:=CG h0 (hv.trans h1)
   obtain⟨kl,kp⟩:=Lj (e:=e) key
   obtain⟨q1,q2⟩:=Lk hlo hm h2
   have hbk:Ey (Hk e key::S):=λx hx=>by
    rcases List.mem_cons.1 hx with rfl | hx
    ·rw[kl];exact hb' e (by simp)
    ·exact hb x hx
   refine hkr.bad ?_
   cases r with
   | nil=>exact TE.end_ (by omega) hv1
   | cons c xs'=>
    have hlen:xs'.length+1≤xs.length:=by rw[h1];simp
    have hvl:xs.length≤v.length:=by rw[← hv,Adv];omega
    have hvM:=hA.hv;have hMM:=hA.hM
    have hkk:=MH (e:=e) (last:=last) (k:=key) (by rw[hk];exact h2)
    simp only at hn
    have hSk:(((Hk e key::S).length:Nat):Int)≤i+(By key).length:=by simp only[AcE];omega
    cases hp:pl c with
    | false=>exact TE.pl_ hA (by omega) hv1 hSk hbk hp
    | true=>
     rw[hp] at hn
     simp only[AcO,AcF] at hn
     obtain⟨g1,g2,g3⟩:=Cs (by omega) hv1
     have hcN:=(hA.hc c (AcU g1)).2.2
     have more:∀(s:Rh) (j:Int) (sh':AM) (zs:List Aa),I6 (So F v) s (Hk e key::S) j sh'→v.drop j.toNat=zs→zs.length<P→0≤j→(S.length:Int)+1≤j→Jc P e.fPairs key k zs=none→TE (So F v) s:=λs j sh' zs hd hz hzl hj hSj hnone=>by
      cases k with
      | zero=>
       cases P with
       | zero=>omega
       | succ P=>cases hnone
      | succ k=>
       have:=hd.more (by rw[kl];omega)
       refine this.bad (ih k _ S j sh' key zs hzl (by rw[kp];exact hnone) rfl (by simp only[kl];omega) (by omega) ?_ (by simpa using q2) hz hj hSj hb)
       cases key with
       | none=>exact q1
       | some p=>exact q1
     cases hN:decide (0<c.fN) with
     | true=>
      rw[hN] at hn
      simp only[AcJ] at hn
      simp only[AcC] at hN
      by_cases hbig:c.fN≤v.length
      ·have hnd:=Kw (sh:=Nj key sh) hA (by omega) hv1 hSk hbk (by simpa[MI] using hkk) hp (by simpa using hN) hbig
       refine hnd.bad ?_
       cases hks:Jc P (decide (c.fKind=6)) none c.fN.toNat xs' with
       | none=>
        obtain⟨n',hn'⟩:∃n',c.fN.toNat=n'+1:=⟨c.fN.toNat-1,by omega⟩
        rw[hn'] at hks
        exact ih n' _ _ _ _ none xs' (by omega) hks rfl (by simp only;omega) (by omega) rfl (λ_=>rfl) g2 (by omega) (by simp only[AcE];omega) hbk
       | some q=>
        obtain⟨kids,zs⟩:=q
        rw[hks] at hn
        simp only at hn
        have hn2:Jc P e.fPairs key k zs=none:=by
         cases hz:Jc P e.fPairs key k zs with
         | none=>rfl
         | some q=>rw[hz] at hn;cases hn
        obtain⟨a1,a2,a3⟩:=Iy _ _ _ _ _ _ _ hks
        have hd:=Nt hA kids ⟨decide (c.fKind=6),c.fN,decide (c.fKind=6),[],false⟩ (Hk e key::S) (i+(By key).length+1) (J6 (S.length+1) (Nj key sh) c) none zs (by omega) a2 rfl (by simp only;omega) rfl (λ_=>rfl) (by rw[g2];exact a1) (by omega) (by simp only[AcE];omega) hbk
        have hz:v.drop (i+(By key).length+1+kids.flat.length).toNat=zs:=CG (by omega) (g2.trans a1)
        have hzl:zs.length≤xs'.length:=by rw[a1];simp
        exact more _ _ _ zs hd hz (by omega) (by omega) (by omega) hn2
      ·refine⟨J6 (Hk e key::S).length (Nj key sh) c,.inl (Fin.step ?_)⟩
       rw[round hA (by omega) hv1 hSk hbk]
       have hbig':decide ((v.length:Int)<c.fN)=true:=by simpa using hbig
       simp only[SR,hp,hkk,hbig',hN,AcO,AcF,AcJ,decide_true]
     | false=>
      rw[hN] at hn
      simp only[AcF] at hn
      have hn2:Jc P e.fPairs key k xs'=none:=by
       cases hz:Jc P e.fPairs key k xs' with
       | none=>rfl
       | some q=>rw[hz] at hn;cases hn
      have hd:=MF (sh:=Nj key sh) hA (by omega) hv1 hSk hbk (by simpa[MI] using hkk) hp hN
      exact more _ _ _ xs' hd g2 (by omega) (by omega) (by omega) hn2
def Iz (xs:List Aa):Option (Fo×List Aa):=Jc (xs.length+1) false none 1 xs
theorem TZ {P:Nat} {xs ys:List Aa} {f:Fo} (h:Jc P false none 1 xs=some (f,ys)):f.one=true:=by
 obtain⟨h1,h2,h3⟩:=Iy _ _ _ _ _ _ _ h
 cases f with
 | nil=>cases h3
 | cell k c r=>
  cases r with
  | nil=>
   cases k with
   | none=>rfl
   | some s=>simp[Fo.wf,B1] at h2
  | cell _ _ _=>simp[Fo.cnt] at h3
  | node _ _ _ _=>simp[Fo.cnt] at h3
 | node k c kids r=>
  cases r with
  | nil=>
   cases k with
   | none=>rfl
   | some s=>simp[Fo.wf,B1] at h2
  | cell _ _ _=>simp[Fo.cnt] at h3
  | node _ _ _ _=>simp[Fo.cnt] at h3
theorem V9 (hA:UD F M v) (h:Iz v=none):TE (So F v) ([],0,Ov):=by
 have hlf:Ey []:=λx hx=>by cases hx
 unfold Iz at h
 rw[Jc] at h
 simp only[IO,AcF] at h
 cases v with
 | nil=>exact TE.end_ (S:=[]) (Ade 0) rfl
 | cons c xs'=>
  have hv1:(c::xs').drop (0:Int).toNat=c::xs':=rfl
  have hvM:=hA.hv;have hMM:=hA.hM
  simp only at h
  cases hp:pl c with
  | false=>exact TE.pl_ (S:=[]) hA (Ade 0) hv1 (by simp) hlf hp
  | true=>
   rw[hp] at h
   simp only[AcO,AcF] at h
   have hcN:=(hA.hc c (by simp)).2.2
   cases hN:decide (0<c.fN) with
   | true=>
    rw[hN] at h
    simp only[AcJ] at h
    simp only[AcC] at hN
    by_cases hbig:c.fN≤(c::xs').length
    ·have hnd:=Kw (S:=[]) (sh:=Ov) hA (Ade 0) hv1 (by simp) hlf rfl hp (by simpa using hN) hbig
     refine hnd.bad ?_
     cases hks:Jc (c::xs').length (decide (c.fKind=6)) none c.fN.toNat xs' with
     | none=>
      obtain⟨n',hn'⟩:∃n',c.fN.toNat=n'+1:=⟨c.fN.toNat-1,by omega⟩
      rw[hn'] at hks
      exact T4 hA (c::xs').length n' ⟨decide (c.fKind=6),c.fN,decide (c.fKind=6),[],false⟩ [] (0+1) _ none xs' (by simp) hks rfl (by simp only;omega) (by omega) rfl (λ_=>rfl) rfl (by omega) (by simp) hlf
     | some q=>rw[hks] at h;cases h
    ·refine⟨J6 0 Ov c,.inl (Fin.step ?_)⟩
     rw[show So F (c::xs') (([]:List AD),0,Ov)=_ from round (S:=[]) hA (Ade 0) hv1 (by simp) hlf]
     have hbig':decide (((c::xs').length:Int)<c.fN)=true:=by simpa using hbig
     simp only[SR,hp,hbig',hN,AcO,AcF,AcJ,decide_true]
   | false=>rw[hN] at h;cases h
theorem ZD (hA:UD F M v):(∃f ys,Iz v=some (f,ys)∧Jy F v=some ((f.flat.length:Int),f.sh 0 Ov,true))∨(Iz v=none∧∃sh',Jy F v=some (0,sh',false)):=by
 cases h:Iz v with
 | some q=>
  obtain⟨f,ys⟩:=q
  obtain⟨h1,h2,h3⟩:=Iy _ _ _ _ _ _ _ h
  exact .inl ⟨f,ys,rfl,Sn hA (TZ h) h2 h1⟩
 | none=>
  refine .inr ⟨rfl,?_⟩
  obtain⟨o,ho,_⟩:=OD hA
  obtain⟨sh',hb | hb⟩:=V9 hA h
  ·have e:=hb.eq ho
   subst e
   exact⟨sh',by unfold Jy;rw[AG ho];rfl⟩
  ·have e:=hb.eq ho
   subst e
   exact⟨sh',by unfold Jy;rw[AG ho];rfl⟩
end
theorem Kd {x:Int} (h : -9223372036854775808≤x) (h':x≤9223372036854775807):IntKind.wrap .i64 x=x:=by
 simp only[IntKind.wrap,IntKind.bits,IntKind.signed]
 simp
 omega
def Fo.dep:Fo→Nat
 | .nil=>0
 | .cell _ _ r=>max 1 r.dep
 | .node _ _ kids r=>max (kids.dep+1) r.dep
theorem H5 (k:Option Ag) (s:AM):(Nj k s).fDepth=s.fDepth∧(Nj k s).fOutside=s.fOutside∧(Nj k s).fLong=(s.fLong||(By k).any λc=>decide (200<(c.fStr.length:Int))):=by
 cases k with
 | none=>simp[Nj,By]
 | some x=>simp[Nj,shk,By]
theorem L6:∀(f:Fo) (d:Nat) (s:AM),(d:Int)≤s.fDepth→(f.sh d s).fDepth=max s.fDepth ((d:Int)+f.dep)
 | .nil,d,s,h=>by simp only[Fo.sh,Fo.dep];omega
 | .cell k c r,d,s,h=>by
  have hk:=(H5 k s).1
  have e:(J6 d (Nj k s) c).fDepth=max s.fDepth ((d:Int)+1):=by rw[J6,hk]
  rw[Fo.sh,L6 r d _ (by rw[e];omega),e,Fo.dep];omega
 | .node k c kids r,d,s,h=>by
  have hk:=(H5 k s).1
  have e:(J6 d (Nj k s) c).fDepth=max s.fDepth ((d:Int)+1):=by rw[J6,hk]
  have e2:=L6 kids (d+1) (J6 d (Nj k s) c) (by rw[e];omega)
  rw[e] at e2
  rw[Fo.sh,L6 r d _ (by rw[e2];omega),e2,Fo.dep];omega
def Ca (c:Aa):Bool:=decide (c.fKind=3)&&!(decide ((-1000000000000)≤c.fInt)&&decide (c.fInt≤1000000000000))
def Il (c:Aa):Bool:=decide (200<(c.fStr.length:Int))
theorem OI (k:Option Ag):(By k).any Ca=false:=by cases k<;>simp[By,Ca]
theorem Q1:∀(f:Fo) (d:Nat) (s:AM),(f.sh d s).fOutside=(s.fOutside||f.flat.any Ca)
 | .nil,d,s=>by simp[Fo.sh,Fo.flat]
 | .cell k c r,d,s=>by
  rw[Fo.sh,Q1 r,J6,(H5 k s).2.1]
  simp only[Fo.flat,List.any_append,List.any_cons,OI,AcQ,Bool.or_assoc]
  rfl
 | .node k c kids r,d,s=>by
  rw[Fo.sh,Q1 r,Q1 kids,J6,(H5 k s).2.1]
  simp only[Fo.flat,List.any_append,List.any_cons,OI,AcQ,Bool.or_assoc]
  rfl
theorem NG:∀(f:Fo) (d:Nat) (s:AM),(f.sh d s).fLong=(s.fLong||f.flat.any Il)
 | .nil,d,s=>by simp[Fo.sh,Fo.flat]
 | .cell k c r,d,s=>by
  rw[Fo.sh,NG r,J6,(H5 k s).2.2]
  simp only[Fo.flat,List.any_append,List.any_cons,Bool.or_assoc]
  rfl
 | .node k c kids r,d,s=>by
  rw[Fo.sh,NG r,NG kids,J6,(H5 k s).2.2]
  simp only[Fo.flat,List.any_append,List.any_cons,Bool.or_assoc]
  rfl
def Wh (c:Aa):Int:=
 bif decide (c.fKind=1) then 4 else bif decide (c.fKind=2) then 5-c.fInt else bif decide (c.fKind=3) then((Lib.itoa c.fInt).length:Int) else
 bif decide (c.fKind=4) then MB c.fStr else 2
def QL:Option Ag→Int
 | none=>0
 | some s=>MB s+1
def Fo.byt:Fo→Int
 | .nil=>0
 | .cell k c r=>QL k+Wh c+r.byt
 | .node k c kids r=>QL k+(c.fN+1)+kids.byt+r.byt
theorem LK (s:Ag):2≤MB s:=by unfold MB;omega
theorem NS (k:Option Ag):0≤QL k:=by
 cases k with
 | none=>exact Ade 0
 | some s=>have:=LK s;simp only[QL];omega
theorem Ur {c:Aa} (hp:pl c=true):0≤Wh c:=by
 unfold Wh
 cases h1:decide (c.fKind=1) with
 | true=>simp
 | false=>
  cases h2:decide (c.fKind=2) with
  | true=>
   simp[pl,h1,h2] at hp
   simp only[AcF,AcJ];omega
  | false=>
   cases h3:decide (c.fKind=3) with
   | true=>simp
   | false=>
    cases h4:decide (c.fKind=4) with
    | true=>have:=LK c.fStr;simp only[AcF,AcJ];omega
    | false=>simp
theorem Xk {c:Aa} (hp:pl c=true):0≤c.fN:=by
 simp only[pl,← Bool.decide_or] at hp
 cases h1:decide (c.fKind=1)<;>cases h2:decide (c.fKind=2)<;>cases h3:decide (c.fKind=3)<;>cases h4:decide (c.fKind=4)<;>cases h5:decide (c.fKind=5)<;>cases h6:decide (c.fKind=6)<;>simp[h1,h2,h3,h4,h5,h6] at hp<;>omega
theorem Ii {c:Aa} (hp:pl c=true) (hn:0<c.fN):(c.fKind=5∨c.fKind=6)∧c.fInt=0∧c.fStr=[]:=by
 cases h1:decide (c.fKind=1)<;>cases h2:decide (c.fKind=2)<;>cases h3:decide (c.fKind=3)<;>cases h4:decide (c.fKind=4)<;>cases h5:decide (c.fKind=5)<;>cases h6:decide (c.fKind=6)<;>simp[pl,h1,h2,h3,h4,h5,h6] at hp<;>(simp only[AcC,AcD] at *;first | omega | exact⟨by omega,hp.1,hp.2.1⟩)
theorem WB {c:Aa} (hp:pl c=true) (hn:decide (0<c.fN)=false):szc c=Wh c:=by
 have hN:=Xk hp
 have h0:c.fN=0:=by simp only[AcD] at hn;omega
 unfold szc Wh
 rw[h0]
 cases h1:decide (c.fKind=1) with
 | true=>rfl
 | false=>
  cases h2:decide (c.fKind=2) with
  | true=>
   simp[pl,h1,h2] at hp
   simp only[AcF,AcJ]
   exact Kd (by omega) (by omega)
  | false=>rfl
theorem WA {c:Aa} (hp:pl c=true) (hn:0<c.fN) (hm:c.fN≤9223372036854775000):szc c=c.fN+1:=by
 obtain⟨hk,_,_⟩:=Ii hp hn
 unfold szc
 rw[AcG (by omega),AcG (by omega),AcG (by omega),AcG (by omega)]
 simp only[AcF]
 rw[Kd (x:=c.fN-1) (by omega) (by omega),Kd (by omega) (by omega)];omega
theorem Ir:∀{f:Fo} {m:Bool} {l:Option Ag},f.wf m l=true→0≤f.byt
 | .nil,_,_,_=>Ade 0
 | .cell k c r,m,l,h=>by
  simp only[Fo.wf,AcH] at h
  have h1:=Ir h.2;have h2:=Ur h.1.1.2;have h3:=NS k
  simp only[Fo.byt];omega
 | .node k c kids r,m,l,h=>by
  simp only[Fo.wf,AcH,AcC] at h
  have h1:=Ir h.2;have h2:=Ir h.1.2;have h3:=NS k
  simp only[Fo.byt];omega
theorem PC (k:Option Ag) (s:AM) (h0:0≤s.fBytes) (h:s.fBytes+QL k≤9223372036854775807):(Nj k s).fBytes=s.fBytes+QL k:=by
 cases k with
 | none=>simp[Nj,QL]
 | some x=>
  have:=LK x
  simp only[QL] at h
  simp only[Nj,shk,QL]
  exact Kd (by omega) (by omega)
theorem L7:∀(f:Fo) (m:Bool) (l:Option Ag) (d:Nat) (s:AM),f.wf m l=true→0≤s.fBytes→s.fBytes+f.byt≤9223372036854775000→(f.sh d s).fBytes=s.fBytes+f.byt
 | .nil,_,_,d,s,_,_,_=>by simp[Fo.sh,Fo.byt]
 | .cell k c r,m,l,d,s,hw,h0,h=>by
  simp only[Fo.wf,AcH,AcS] at hw
  obtain⟨⟨⟨w1,w2⟩,w3⟩,w4⟩:=hw
  have h1:=Ir w4;have h2:=Ur w2;have h3:=NS k
  simp only[Fo.byt] at h
  have e1:=PC k s h0 (by omega)
  have e:(J6 d (Nj k s) c).fBytes=s.fBytes+QL k+Wh c:=by
   rw[J6,e1,WB w2 w3];exact Kd (by omega) (by omega)
  rw[Fo.sh,L7 r _ _ d _ w4 (by rw[e];omega) (by rw[e];omega),e,Fo.byt];omega
 | .node k c kids r,m,l,d,s,hw,h0,h=>by
  simp only[Fo.wf,AcH,AcC] at hw
  obtain⟨⟨⟨⟨⟨w1,w2⟩,w3⟩,w5⟩,w6⟩,w4⟩:=hw
  have h1:=Ir w4;have h2:=Ir w6;have h3:=NS k
  simp only[Fo.byt] at h
  have e1:=PC k s h0 (by omega)
  have e:(J6 d (Nj k s) c).fBytes=s.fBytes+QL k+(c.fN+1):=by
   rw[J6,e1,WA w2 w3 (by omega)];exact Kd (by omega) (by omega)
  have e2:=L7 kids _ _ (d+1) (J6 d (Nj k s) c) w6 (by rw[e];omega) (by rw[e];omega)
  rw[Fo.sh,L7 r _ _ d _ w4 (by rw[e2,e];omega) (by rw[e2,e];omega),e2,e,Fo.byt];omega
def E0 (s:Ag):Ag:=s.flatMap λc=>bif (decide (c=34)||decide (c=92)) then[92,c] else[c]
def Eu (s:Ag):Ag:=34::(E0 s++[34])
theorem Ml:∀s:Ag,(E0 s).length=s.length+s.count 34+s.count 92
 | []=>rfl
 | c::s=>by
  have ih:=Ml s
  unfold E0 at ih ⊢
  rw[Adr,AcK,ih]
  by_cases h1:c=34
  ·subst h1;simp;omega
  ·by_cases h2:c=92
   ·subst h2;simp;omega
   ·simp[h1,h2,List.count_cons];omega
theorem RS (s:Ag):((Eu s).length:Int)=MB s:=by
 simp only[Eu,AcE,AcK,Ml,Adp,MB];omega
def DL (c:Aa):Ag:=
 bif decide (c.fKind=1) then[110,117,108,108] else
 bif decide (c.fKind=2) then(bif decide (c.fInt=1) then[116,114,117,101] else[102,97,108,115,101]) else
 bif decide (c.fKind=3) then Lib.itoa c.fInt else
 bif decide (c.fKind=4) then Eu c.fStr else
 bif decide (c.fKind=6) then[123,125] else[91,93]
def G9:Option Ag→Ag
 | none=>[]
 | some s=>Eu s++[58]
def Nw (c:Aa) (s:Ag):Ag:=bif decide (c.fKind=6) then 123::(s++[125]) else 91::(s++[93])
def CP (first:Bool):Ag:=bif first then[] else[44]
def Fo.txt:Bool→Fo→Ag
 | _,.nil=>[]
 | b,.cell k c r=>CP b++G9 k++DL c++r.txt false
 | b,.node k c kids r=>CP b++G9 k++Nw c (kids.txt true)++r.txt false
theorem Us (k:Option Ag):((G9 k).length:Int)=QL k:=by
 cases k with
 | none=>rfl
 | some s=>simp only[G9,AcK,QL,List.length_singleton];have:=RS s;omega
theorem PX {c:Aa} (hp:pl c=true):((DL c).length:Int)=Wh c:=by
  unfold DL Wh
  cases h1:decide (c.fKind=1) with
  | true=>rfl
  | false=>
    cases h2:decide (c.fKind=2) with
    | true=>
      simp[pl,h1,h2] at hp
      simp only[AcF,AcJ]
      cases h7:decide (c.fInt=1) with
      | true=>simp only[AcC] at h7;simp[h7]
      | false=>
                 simp only[AcD] at h7;have:c.fInt=0:=by omega
                 simp[this]
    | false=>
      cases h3:decide (c.fKind=3) with
      | true=>rfl
      | false=>
        cases h4:decide (c.fKind=4) with
        | true=>simpa using RS c.fStr
        | false=>cases h6:decide (c.fKind=6)<;>rfl
theorem Js (c:Aa) (s:Ag):(Nw c s).length=s.length+2:=by
 unfold Nw
 cases decide (c.fKind=6)<;>simp
theorem If:∀(f:Fo) (m:Bool) (l:Option Ag) (b:Bool),f.wf m l=true→((f.txt b).length:Int)=f.byt+(bif b then((f.cnt-1:Nat):Int) else(f.cnt:Int))
 | .nil,m,l,b,_=>by cases b<;>rfl
 | .cell k c r,m,l,b,hw=>by
  simp only[Fo.wf,AcH,AcS] at hw
  obtain⟨⟨⟨w1,w2⟩,w3⟩,w4⟩:=hw
  have ih:=If r _ _ false w4
  have a:=Us k;have d:=PX w2
  simp only[AcF] at ih
  cases b<;>simp only[Fo.txt,Fo.byt,Fo.cnt,CP,AcJ,AcF,AcK,Adp,List.length_singleton]<;>omega
 | .node k c kids r,m,l,b,hw=>by
  simp only[Fo.wf,AcH,AcC] at hw
  obtain⟨⟨⟨⟨⟨w1,w2⟩,w3⟩,w5⟩,w6⟩,w4⟩:=hw
  have ih:=If r _ _ false w4
  have ih2:=If kids _ _ true w6
  have a:=Us k;have d:=Js c (kids.txt true)
  simp only[AcF,AcJ] at ih ih2
  cases b<;>simp only[Fo.txt,Fo.byt,Fo.cnt,CP,AcJ,AcF,AcK,Adp,List.length_singleton]<;>omega
def Fo.put (k:Option Ag):Fo→Fo→Fo
 | .cell _ c _,r=>.cell k c r
 | .node _ c kids _,r=>.node k c kids r
 | .nil,_=>.nil
theorem Xj (P:Nat) (m:Bool) (last:Option Ag) (k:Nat) (xs:List Aa):Jc (P+2) m last (k+1) xs =
  match IO m last xs with
  | none=>none
  | some (key,ys)=>match Jc (P+2) false none 1 ys with
   | none=>none
   | some (f,zs)=>match Jc (P+1) m key k zs with
    | none=>none
    | some (r,us)=>some (f.put key r,us):=by
 rw[Jc]
 cases hk:IO m last xs with
 | none=>rfl
 | some p=>
  obtain⟨key,ys⟩:=p
  simp only
  rw[Jc]
  simp only[IO,AcF]
  cases ys with
  | nil=>rfl
  | cons c ys=>
   simp only
   cases hp:pl c with
   | false=>rfl
   | true=>
    simp only[AcO,AcF]
    cases hn:decide (0<c.fN) with
    | true=>
     simp only[AcJ]
     cases hq:Jc (P+1) (decide (c.fKind=6)) none c.fN.toNat ys with
     | none=>rfl
     | some q=>
      obtain⟨kids,zs⟩:=q
      simp only[Jc]
      cases hr:Jc (P+1) m key k zs with
      | none=>rfl
      | some q=>obtain⟨a,b⟩:=q;rfl
    | false=>
     simp only[AcF,Jc]
     cases hr:Jc (P+1) m key k ys with
     | none=>rfl
     | some q=>obtain⟨a,b⟩:=q;rfl
def N2 (m:Bool) (last:Option Ag) (k:Nat) (xs:List Aa):Option (Fo×List Aa):=Jc (xs.length+1) m last k xs
theorem MC (m:Bool) (last:Option Ag) (xs:List Aa):N2 m last 0 xs=some (.nil,xs):=rfl
theorem Gp (m:Bool) (last:Option Ag) (k:Nat) (xs:List Aa):N2 m last (k+1) xs =
  match IO m last xs with
  | none=>none
  | some (key,ys)=>match Iz ys with
   | none=>none
   | some (f,zs)=>match N2 m key k zs with
    | none=>none
    | some (r,us)=>some (f.put key r,us):=by
 unfold N2 Iz
 rw[IN (xs.length+1) (xs.length+2) m last (k+1) xs (by omega) (by omega),Xj]
 cases hk:IO m last xs with
 | none=>rfl
 | some p=>
  obtain⟨key,ys⟩:=p
  have h1:=(NL hk).1
  have hy:ys.length≤xs.length:=by rw[h1];simp
  simp only
  rw[IN (xs.length+2) (ys.length+1) false none 1 ys (by omega) (by omega)]
  cases hf:Jc (ys.length+1) false none 1 ys with
  | none=>rfl
  | some q=>
   obtain⟨f,zs⟩:=q
   have h2:=(Iy _ _ _ _ _ _ _ hf).1
   have hz:zs.length≤ys.length:=by rw[h2];simp
   simp only
   rw[IN (xs.length+1) (zs.length+1) m key k zs (by omega) (by omega)]
   all_goals (cases Jc (zs.length+1) m key k zs<;>rfl)
theorem G8 {S O:Type} {body:S→Option (Stp S O)} {n:Nat} {s s':S} {o:O} (h:body s=some (.next s')) (h':BF body n s'=some o):BF body (n+1) s=some o:=by rw[BF,h];exact h'
theorem Dd {S O:Type} {body:S→Option (Stp S O)} {n:Nat} {s:S} {o:O} (h:body s=some (.out o)):BF body (n+1) s=some o:=by rw[BF,h]
theorem RT:Iz []=none:=rfl
theorem GI (c:Aa) (r:List Aa):Iz (c::r)=bif !pl c then none else bif decide (0<c.fN) then(match N2 (decide (c.fKind=6)) none c.fN.toNat r with
  | none=>none
  | some (kids,zs)=>some (.node none c kids .nil,zs)) else some (.cell none c .nil,r):=by
 unfold Iz
 rw[Jc]
 simp only[IO,AcF]
 cases hp:pl c with
 | false=>rfl
 | true=>
  simp only[AcO,AcF]
  cases hn:decide (0<c.fN) with
  | true=>
   simp only[AcJ]
   unfold N2
   rw[AcE]
   cases hq:Jc (r.length+1) (decide (c.fKind=6)) none c.fN.toNat r with
   | none=>rfl
   | some q=>obtain⟨kids,zs⟩:=q;rfl
  | false=>rfl
theorem Ev {f:Fo} (h:f.one=true) (key:Option Ag) (r:Fo):(f.put key r).flat=By key++(f.flat++r.flat):=by
 cases f with
 | nil=>cases h
 | cell k c r'=>
  cases k with
  | some s=>cases h
  | none=>cases r' with
   | nil=>simp[Fo.put,Fo.flat,By]
   | cell _ _ _=>cases h
   | node _ _ _ _=>cases h
 | node k c kids r'=>
  cases k with
  | some s=>cases h
  | none=>cases r' with
   | nil=>simp[Fo.put,Fo.flat,By]
   | cell _ _ _=>cases h
   | node _ _ _ _=>cases h
theorem LQ {f:Fo} (h:f.one=true):1≤f.flat.length:=by
 cases f with
 | nil=>cases h
 | cell k c r'=>simp[Fo.flat];omega
 | node k c kids r'=>simp[Fo.flat];omega
theorem Kr {xs ys:List Aa} {f:Fo} (h:Iz xs=some (f,ys)):xs=f.flat++ys∧f.wf false none=true∧f.one=true:=
 ⟨(Iy _ _ _ _ _ _ _ h).1,(Iy _ _ _ _ _ _ _ h).2.1,TZ h⟩
def J0 (v:List Aa) (i:Int):Int:=match Iz (v.drop i.toNat) with
 | none=>-1
 | some (f,_)=>i+f.flat.length
def LS (m:Bool) (last:Option Ag) (v:List Aa) (i:Int) (k:Nat):Int:=match N2 m last k (v.drop i.toNat) with
 | none=>-1
 | some (f,_)=>i+f.flat.length
theorem PQ {v:List Aa} {i:Int} (h0:0≤i) (h1:i≤v.length):J0 v i = -1∨(i<J0 v i∧J0 v i≤v.length):=by
 unfold J0
 cases h:Iz (v.drop i.toNat) with
 | none=>exact .inl rfl
 | some q=>
  obtain⟨f,ys⟩:=q
  obtain⟨h2,_,h3⟩:=Kr h
  have:=LQ h3
  have hl:(v.drop i.toNat).length=f.flat.length+ys.length:=by rw[h2];simp
  rw[Adv] at hl
  right;simp only;omega
structure RfA (F M:Nat) (v:List Aa):Prop where
 hM:M≤1152921504606846976
 hv:v.length≤M
 hF:M<F
 hc:∀c∈v,c.fStr.length≤M
theorem Vo (ok:Bool) {i:Int} (h0:0≤i) (h1:i≤1152921504606846976):BN ok i=some (bif ok then i+1 else -1):=by
 unfold BN
 cases ok
 ·rfl
 ·rw[AA rfl,A1 (by omega) (by omega)];rfl
theorem TU {F:Nat} {c:Aa} (hF:c.fStr.length<F) (hs:c.fStr.length≤1152921504606846976):Px F c=some (decide (c.fKind=4)&&pl c):=by
 unfold Px
 rw[Vd hF (by omega)]
 simp only[Option.isSome_some,ov,Option.getD_some,imp,Ada,AN,AcJ]
 cases h4:decide (c.fKind=4) with
 | false=>rfl
 | true=>
  simp only[AcC] at h4
  simp[pl,h4]
theorem D9 {v:List Aa} {i:Int} {c:Aa} {r:List Aa} (h0:0≤i) (h:v.drop i.toNat=c::r):Am v i=c:=by
 have:=(Cs h0 h).1
 simp[Am,this]
section
variable {M : Nat} {v : List Aa}
theorem KO {F:Nat} (hA:RfA F M v) {g:List Aa→Int→Option Int} {n:Int} (hn:n≤9223372036854775807):∀(L:Nat) (i x:Int),0≤i→i≤v.length→0≤x→x≤n→(∀j,i≤j→j≤v.length→g v j=some (J0 v j))→v.length-i.toNat<L→
  ∃o,BF (λσ=>Df v n g σ.1 σ.2) L (i,x)=some o∧B6 (λν=>E8 ν) o=some (LS false none v i (n-x).toNat)
 | 0,i,x,_,_,_,_,_,h=>by omega
 | L+1,i,x,h0,h1,hx,hxn,hg,hL=>by
  cases hxl:decide (x<n) with
  | false=>
   refine⟨.go i,Dd (by show Df v n g i x=_;unfold Df;rw[Ay hxl]),?_⟩
   simp only[AcD] at hxl
   rw[show(n-x).toNat=0 from by omega]
   simp[B6,E8,LS,MC,Fo.flat]
  | true=>
   have hb:Df v n g i x=Bd (decide (J0 v i<0)) (some (.out (.ret (-1)))) (AN (Bl .i64 (x+1))<|some (.next (J0 v i,x+1))):=by unfold Df;rw[AA hxl,hg i (Ade i) h1,AG rfl]
   simp only[AcC] at hxl
   obtain⟨k,hk⟩:∃k,(n-x).toNat=k+1:=⟨(n-x).toNat-1,by omega⟩
   rw[hk]
   have e:LS false none v i (k+1)=bif decide (J0 v i<0) then -1 else LS false none v (J0 v i) k:=by
    unfold LS
    rw[Gp]
    simp only[IO,AcF]
    cases hp:Iz (v.drop i.toNat) with
    | none=>simp[J0,hp]
    | some q=>
     obtain⟨f,ys⟩:=q
     obtain⟨q1,q2,q3⟩:=Kr hp
     have hi:J0 v i=i+f.flat.length:=by simp[J0,hp]
     have hd:v.drop (J0 v i).toNat=ys:=by rw[hi];exact CG h0 q1
     rw[hd,AcG (by omega)]
     simp only[AcF]
     cases hr:N2 false none k ys with
     | none=>rfl
     | some q=>
      obtain⟨r,zs⟩:=q
      simp only[Ev q3,By,Adh,AcK,hi];omega
   rw[e]
   rcases PQ (v:=v) h0 h1 with hneg | ⟨hlt,hle⟩
   ·exact⟨.ret (-1),Dd (hb.trans (by rw[hneg,AA (by decide)])),by rw[hneg];rfl⟩
   ·have hM:=hA.hM;have hvM:=hA.hv
    obtain⟨o,ho1,ho2⟩:=KO hA hn L (J0 v i) (x+1) (by omega) hle (by omega) (by omega) (λj hj=>hg j (by omega)) (by omega)
    exact⟨o,G8 (hb.trans (by rw[Ay (AcG (by omega)),A1 (by omega) (by omega)])) ho1,by rw[ho2,show(n-(x+1)).toNat=k from by omega,AcG (by omega)];rfl⟩
theorem Oy {F:Nat} (hA:RfA F M v) {g:List Aa→Int→Option Int} {n:Int} (hn:n≤9223372036854775807):∀(L:Nat) (i x:Int) (last:Ag),0≤i→i≤v.length→0≤x→x≤n→(∀j,i≤j→j≤v.length→g v j=some (J0 v j))→v.length-i.toNat<L→
  ∃o,BF (λσ=>DJ F v n g σ.1 σ.2.1 σ.2.2) L (i,last,x)=some o∧B6 (λν=>H7 ν) o=some (LS true (bif decide (0<x) then some last else none) v i (n-x).toNat)
 | 0,i,x,_,_,_,_,_,_,h=>by omega
 | L+1,i,x,last,h0,h1,hx,hxn,hg,hL=>by
  have hM:=hA.hM;have hvM:=hA.hv;have hMF:=hA.hF
  cases hxl:decide (x<n) with
  | false=>
   refine⟨.go i,Dd (by show DJ F v n g i last x=_;unfold DJ;rw[Ay hxl]),?_⟩
   simp only[AcD] at hxl
   rw[show(n-x).toNat=0 from by omega]
   simp[B6,H7,LS,MC,Fo.flat]
  | true=>
   have hxl':=hxl
   simp only[AcC] at hxl
   obtain⟨k,hk⟩:∃k,(n-x).toNat=k+1:=⟨(n-x).toNat-1,by omega⟩
   rw[hk]
   cases hd:v.drop i.toNat with
   | nil=>
    have hl:v.length≤i.toNat:=by simpa using hd
    refine⟨.ret (-1),Dd (by
     show DJ F v n g i last x=_
     unfold DJ
     rw[AA hxl',B3 (by simp[imp,show(v.length:Int)≤i from by omega]),B3 (by simp[imp,show(v.length:Int)≤i from by omega]),AA (by simp[show(v.length:Int)≤i from by omega])]),?_⟩
    simp[B6,LS,hd,Gp,IO]
   | cons c r=>
    obtain⟨g1,g2,g3⟩:=Cs h0 hd
    have hcM:=hA.hc c (AcU g1)
    have hat:=D9 h0 hd
    have hnl:decide ((v.length:Int)≤i)=false:=by simp;omega
    have hb:DJ F v n g i last x=Bd (!(decide (c.fKind=4)&&pl c)||decide (0<x)&&(Ci c.fStr last||decide (c.fStr=last))) (some (.out (.ret (-1)))) (Bn (g v (i+1)) λha=>Bd (decide (ha<0)) (some (.out (.ret (-1)))) (AN (Bl .i64 (x+1))<|some (.next (ha,c.fStr,x+1)))):=by
     unfold DJ
     rw[AA hxl',B3 (by simp only[imp];rw[Md h0 g3];simp),hat,TU (by omega) (by omega),B3 (by simp[imp])]
     simp only[hnl,ov,Option.getD_some,AcQ]
     rw[AT h0 g3,A1 (by omega) (by omega)]
    have hpk:IO true (bif decide (0<x) then some last else none) (c::r)=bif (!(decide (c.fKind=4)&&pl c)||decide (0<x)&&(Ci c.fStr last||decide (c.fStr=last))) then none else some (some c.fStr,r):=by
     simp only[IO,AcJ]
     cases h4:decide (c.fKind=4) with
     | false=>simp
     | true=>
      cases hp:pl c with
      | false=>simp
      | true=>
       have hok:=(QC hp (by simpa using h4)).2
       cases h0x:decide (0<x) with
       | false=>simp[B1,hok]
       | true=>cases hs:(Ci c.fStr last||decide (c.fStr=last))<;>simp[B1,hok,hs]
    cases ht:(!(decide (c.fKind=4)&&pl c)||decide (0<x)&&(Ci c.fStr last||decide (c.fStr=last))) with
    | true=>
     rw[ht] at hpk
     refine⟨.ret (-1),Dd (hb.trans (AA ht)),?_⟩
     simp only[LS,hd,Gp,hpk,AcJ];rfl
    | false=>
     rw[ht] at hpk
     rw[Ay ht,hg (i+1) (by omega) (by omega),AG rfl] at hb
     have e:LS true (bif decide (0<x) then some last else none) v i (k+1)=bif decide (J0 v (i+1)<0) then -1 else LS true (some c.fStr) v (J0 v (i+1)) k:=by
      unfold LS
      rw[hd,Gp,hpk]
      simp only[AcF]
      have hx:J0 v (i+1)=match Iz r with | none=>-1 | some (f,_)=>i+1+f.flat.length:=by unfold J0;rw[g2]
      cases hp:Iz r with
      | none=>rw[hp] at hx;simp[hx]
      | some q=>
       obtain⟨f,ys⟩:=q
       obtain⟨q1,q2,q3⟩:=Kr hp
       rw[hp] at hx
       simp only at hx
       have hd2:v.drop (J0 v (i+1)).toNat=ys:=by rw[hx];exact CG (by omega) (g2.trans q1)
       rw[hd2,AcG (by omega)]
       simp only[AcF]
       cases hr:N2 true (some c.fStr) k ys with
       | none=>rfl
       | some q=>
        obtain⟨r',zs⟩:=q
        simp only[Ev q3,By,AcK,AcE,Adp,hx];omega
     rw[e]
     rcases PQ (v:=v) (i:=i+1) (by omega) (by omega) with hneg | ⟨hlt,hle⟩
     ·exact⟨.ret (-1),Dd (hb.trans (by rw[hneg,AA (by decide)])),by rw[hneg];rfl⟩
     ·obtain⟨o,ho1,ho2⟩:=Oy hA hn L (J0 v (i+1)) (x+1) c.fStr (by omega) hle (by omega) (by omega) (λj hj=>hg j (by omega)) (by omega)
      exact⟨o,G8 (hb.trans (by rw[Ay (AcG (by omega)),A1 (by omega) (by omega)])) ho1,by rw[ho2,show(n-(x+1)).toNat=k from by omega,AcI (show(0:Int)<x+1 from by omega),AcG (by omega)];rfl⟩
theorem Sh {i:Int} {c:Aa} {r:List Aa} (h0:0≤i) (hd:v.drop i.toNat=c::r) (hp:pl c=true):J0 v i=LS (decide (c.fKind=6)) none v (i+1) c.fN.toNat:=by
 have g2:=(Cs h0 hd).2.1
 have hN:=Xk hp
 unfold J0 LS
 rw[hd,GI,g2,hp]
 simp only[AcO,AcF]
 cases hn:decide (0<c.fN) with
 | true=>
  simp only[AcJ]
  cases hq:N2 (decide (c.fKind=6)) none c.fN.toNat r with
  | none=>rfl
  | some q=>
   obtain⟨kids,zs⟩:=q
   simp only[Fo.flat,By,Adh,AcE,Adg];omega
 | false=>
  simp only[AcD] at hn
  rw[show c.fN.toNat=0 from by omega,MC]
  simp[Fo.flat,By]
theorem RJ (hA:RfA (M+1) M v) (hN:∀c∈v,c.fN≤9223372036854775807):∀(d F:Nat) (i:Int),0≤i→i≤v.length→v.length-i.toNat=d→M+2*d+3<F→DO F v i=some (J0 v i):=by
 have hM:=hA.hM;have hvM:=hA.hv
 intro d
 induction d using Nat.strongRecOn with
 | ind d ih=>
  intro F i h0 h1 hd hF
  obtain⟨F,rfl⟩:∃G,F=G+1:=⟨F-1,by omega⟩
  obtain⟨F,rfl⟩:∃G,F=G+1:=⟨F-1,by omega⟩
  rw[DO]
  unfold Q7
  cases hdr:v.drop i.toNat with
  | nil=>
   have hl:v.length≤i.toNat:=by simpa using hdr
   rw[AA (by simp;omega)]
   simp[J0,hdr,RT]
  | cons c r=>
   obtain⟨g1,g2,g3⟩:=Cs h0 hdr
   have hcM:=hA.hc c (AcU g1)
   have hcN:=hN c (AcU g1)
   rw[Ay (by simp;omega),AT h0 g3,D9 h0 hdr]
   simp only[Vo _ h0 (show i≤1152921504606846976 by omega),Option.isSome_some,ov,Option.getD_some,imp,Ada,B3 (x:=_) (rfl:true=true)]
   have hg:∀j,i+1≤j→j≤v.length→DO F v j=some (J0 v j):=λj hj hj2=>ih (v.length-j.toNat) (by omega) F j (by omega) hj2 rfl (by omega)
   have hpl0:pl c=false→J0 v i = -1:=λhp=>by simp[J0,hdr,GI,hp]
   have hleaf:pl c=true→c.fN=0→J0 v i=i+1:=λhp h0'=>by simp[J0,hdr,GI,hp,h0',Fo.flat,By]
   have hscal:∀b:Bool,pl c=b→(b=true→c.fN=0)→J0 v i=bif b then i+1 else -1:=λb hb hz=>by
    cases b
    ·exact hpl0 hb
    ·exact hleaf hb (hz rfl)
   by_cases k1:c.fKind=1
   ·rw[AA (by simp[k1])]
    have hp:pl c=(decide (c.fInt=0)&&(decide (c.fStr=[])&&decide (c.fN=0))):=by simp[pl,k1]
    rw[hscal _ hp (λh=>by simp at h;exact h.2.2)]
    cases decide (c.fInt=0)<;>cases decide (c.fStr=[])<;>cases decide (c.fN=0)<;>rfl
   rw[Ay (by simp[k1])]
   by_cases k2:c.fKind=2
   ·rw[AA (by simp[k2])]
    have hp:pl c=((decide (c.fInt=0)||decide (c.fInt=1))&&(decide (c.fStr=[])&&decide (c.fN=0))):=by simp[pl,k2]
    rw[hscal _ hp (λh=>by simp at h;exact h.2.2)]
    cases decide (c.fInt=0)<;>cases decide (c.fInt=1)<;>cases decide (c.fStr=[])<;>cases decide (c.fN=0)<;>rfl
   rw[Ay (by simp[k2])]
   by_cases k3:c.fKind=3
   ·rw[AA (by simp[k3])]
    have hp:pl c=(decide (c.fStr=[])&&decide (c.fN=0)):=by simp[pl,k3]
    rw[hscal _ hp (λh=>by simp at h;exact h.2)]
    cases decide (c.fStr=[])<;>cases decide (c.fN=0)<;>rfl
   rw[Ay (by simp[k3])]
   by_cases k4:c.fKind=4
   ·rw[AA (by simp[k4]),TU (by omega) (by omega),AG rfl,AG rfl]
    rw[AcI k4,AcN,hscal (pl c) rfl (λhp=>by have:=(QC hp k4).1;rw[this])]
   rw[Ay (by simp[k4])]
   by_cases k5:c.fKind=5
   ·have hp:pl c=(decide (c.fInt=0)&&(decide (c.fStr=[])&&decide (0≤c.fN))):=by simp[pl,k5]
    rw[show(decide (c.fKind=5)&&(decide (c.fInt=0)&&(decide (c.fStr=[])&&decide (0≤c.fN))))=pl c from by rw[hp,AcI k5,AcN]]
    have k5' : ¬ c.fKind=6:=by omega
    cases hb:pl c with
    | false=>rw[Ay rfl,Ay (by simp[k5]),hpl0 hb]
    | true=>
     have hn0:=Xk hb
     rw[AA rfl,A1 (by omega) (by omega),H8]
     unfold Jl
     obtain⟨o,ho1,ho2⟩:=KO (F:=F) ⟨hM,hvM,by omega,hA.hc⟩ hcN F (i+1) 0 (by omega) (by omega) (Ade 0) hn0 hg (by omega)
     rw[AG ho1,ho2,AG rfl,Sh h0 hdr hb,AcG k5',Int.sub_zero]
   rw[Ay (by simp[k5])]
   by_cases k6:c.fKind=6
   ·have hp:pl c=(decide (c.fInt=0)&&(decide (c.fStr=[])&&decide (0≤c.fN))):=by simp[pl,k6]
    rw[show(decide (c.fKind=6)&&(decide (c.fInt=0)&&(decide (c.fStr=[])&&decide (0≤c.fN))))=pl c from by rw[hp,AcI k6,AcN]]
    cases hb:pl c with
    | false=>rw[Ay rfl,hpl0 hb]
    | true=>
     have hn0:=Xk hb
     rw[AA rfl,A1 (by omega) (by omega),M7]
     unfold NI
     obtain⟨o,ho1,ho2⟩:=Oy (F:=F) ⟨hM,hvM,by omega,hA.hc⟩ hcN F (i+1) 0 [] (by omega) (by omega) (Ade 0) hn0 hg (by omega)
     rw[AG ho1,ho2,AG rfl,Sh h0 hdr hb,AcI k6,Int.sub_zero]
     rfl
   ·rw[Ay (by simp[k6]),hpl0 (by simp[pl,k1,k2,k3,k4,k5,k6])]
theorem Ti (hA:RfA (M+1) M v) (hN:∀c∈v,c.fN≤9223372036854775807) {F:Nat} (hF:3*M+3<F):LB F v=some (decide (J0 v 0=v.length)):=by
 have hvM:=hA.hv
 unfold LB
 rw[RJ hA hN v.length F 0 (Ade 0) (by omega) (by simp) (by omega)]
 simp only[imp,Option.isSome_some,Ada,B3,ov,Option.getD_some]
 cases v with
 | nil=>simp[J0,RT]
 | cons c r=>
  rw[show decide (0<((c::r).length:Int))=true from by simp,AcN]
  rfl
end
theorem QB {m:Bool} {last key:Option Ag} {r:List Aa} (h:B1 m last key=true):IO m last (By key++r)=some (key,r):=by
 cases key with
 | none=>
  have:m=false:=by simpa[B1] using h
  subst this;rfl
 | some s=>
  have h':=h
  simp only[B1,AcH] at h
  obtain⟨⟨h1,h2⟩,h3⟩:=h
  subst h1
  have hp:pl ⟨4,0,s,0⟩=true:=by simp[pl,h2]
  show(bif pl ⟨4,0,s,0⟩&&decide ((4:Int)=4)&&B1 true last (some s) then _ else _)=_
  rw[hp,h'];rfl
theorem NN:∀(f:Fo) (m:Bool) (last:Option Ag) (ys:List Aa),f.wf m last=true→N2 m last f.cnt (f.flat++ys)=some (f,ys)
 | .nil,_,_,_,_=>rfl
 | .cell k c r,m,last,ys,hw=>by
  simp only[Fo.wf,AcH,AcS] at hw
  obtain⟨⟨⟨w1,w2⟩,w3⟩,w4⟩:=hw
  simp only[Fo.cnt,Fo.flat,Adb,List.cons_append]
  rw[Gp,QB w1]
  simp only[GI,w2,w3,AcO,AcF,NN r m k ys w4,Fo.put]
 | .node k c kids r,m,last,ys,hw=>by
  simp only[Fo.wf,AcH,AcC] at hw
  obtain⟨⟨⟨⟨⟨w1,w2⟩,w3⟩,w5⟩,w6⟩,w4⟩:=hw
  simp only[Fo.cnt,Fo.flat,Adb,List.cons_append]
  rw[Gp,QB w1]
  have e:c.fN.toNat=kids.cnt:=by omega
  simp only[GI,w2,AcI w3,AcO,AcF,AcJ,e,NN kids _ none (r.flat++ys) w6,NN r m k ys w4,Fo.put]
theorem Ub {f:Fo} {ys:List Aa} (h1:f.one=true) (hw:f.wf false none=true):Iz (f.flat++ys)=some (f,ys):=by
 have:=NN f false none ys hw
 have hc:f.cnt=1:=by
  cases f with
  | nil=>cases h1
  | cell k c r=>cases k with
   | some _=>cases h1
   | none=>cases r with
    | nil=>rfl
    | _=>cases h1
  | node k c kids r=>cases k with
   | some _=>cases h1
   | none=>cases r with
    | nil=>rfl
    | _=>cases h1
 rw[hc] at this
 exact this
structure I7 (M:Nat) (v:List Aa):Prop where
 hM:M≤1000000000
 hv:v.length≤M
 hc:∀c∈v,c.fStr.length≤M∧Bl .i64 c.fInt=true∧c.fN≤9223372036854775807
theorem I7.lk {M F:Nat} {v:List Aa} (h:I7 M v) (hF:M<F):UD F M v:=⟨by have:=h.hM;omega,by have:=h.hM;omega,h.hv,hF,h.hc⟩
theorem I7.rf {M F:Nat} {v:List Aa} (h:I7 M v) (hF:M<F):RfA F M v:=⟨by have:=h.hM;omega,h.hv,hF,λc hc=>(h.hc c hc).1⟩
theorem I7.drop {M:Nat} {v:List Aa} (h:I7 M v) (k:Nat):I7 M (v.drop k):=⟨h.hM,by have:=h.hv;rw[Adv];omega,λc hc=>h.hc c (Adu hc)⟩
theorem I7.take {M:Nat} {v:List Aa} (h:I7 M v) (k:Nat):I7 M (v.take k):=⟨h.hM,by have:=h.hv;rw[List.length_take];omega,λc hc=>h.hc c (List.mem_of_mem_take hc)⟩
def whole (v:List Aa):Option Fo:=match Iz v with
 | some (f,[])=>some f
 | _=>none
theorem Jh {v:List Aa} {f:Fo} (h:whole v=some f):v=f.flat∧f.wf false none=true∧f.one=true:=by
 unfold whole at h
 cases hp:Iz v with
 | none=>rw[hp] at h;cases h
 | some q=>
  obtain⟨g,ys⟩:=q
  rw[hp] at h
  cases ys with
  | cons _ _=>cases h
  | nil=>
   cases h
   obtain⟨h1,h2,h3⟩:=Kr hp
   exact⟨by simpa using h1,h2,h3⟩
theorem Lw {f:Fo} (h1:f.one=true) (hw:f.wf false none=true):whole f.flat=some f:=by
 have:=Ub (ys:=[]) h1 hw
 rw[Adg] at this
 simp[whole,this]
def Gd (f:Fo):Int:=
 bif f.flat.any Ca then 2 else bif f.flat.any Il||(decide (200<f.flat.length)||(decide (8<f.dep)||decide (4000<(f.txt true).length))) then 3 else 0
def HX (v:List Aa):Int:=match whole v with
 | none=>1
 | some f=>Gd f
theorem LR {f:Fo} (h1:f.one=true):f.cnt=1:=by
 cases f with
 | nil=>cases h1
 | cell k c r=>cases k with
  | some _=>cases h1
  | none=>cases r with
   | nil=>rfl
   | _=>cases h1
 | node k c kids r=>cases k with
  | some _=>cases h1
  | none=>cases r with
   | nil=>rfl
   | _=>cases h1
theorem Q9 (s:Ag):MB s≤2*s.length+2+s.length:=by
 have h1:s.count 34≤s.length:=List.count_le_length
 have h2:s.count 92≤s.length:=List.count_le_length
 unfold MB;omega
theorem AaP {c:Aa} {M:Nat} (hp:pl c=true) (hs:c.fStr.length≤M) (hi:(Lib.itoa c.fInt).length≤21):Wh c≤3*M+21:=by
 have:=Q9 c.fStr
 unfold Wh
 cases h1:decide (c.fKind=1) with
 | true=>simp only[AcJ];omega
 | false=>
  cases h2:decide (c.fKind=2) with
  | true=>
   simp[pl,h1,h2] at hp
   simp only[AcF,AcJ];omega
  | false=>
   cases h3:decide (c.fKind=3) with
   | true=>simp only[AcF,AcJ];omega
   | false=>cases h4:decide (c.fKind=4)<;>simp only[AcF,AcJ]<;>omega
theorem QZ {M:Nat}:∀{f:Fo} {m:Bool} {l:Option Ag},f.wf m l=true→(∀c∈f.flat,c.fStr.length≤M∧Bl .i64 c.fInt=true∧c.fN≤9223372036854775807)→f.byt+f.cnt≤(3*M+24)*f.flat.length
 | .nil,_,_,_,_=>by simp[Fo.byt,Fo.flat,Fo.cnt]
 | .cell k c r,m,l,hw,hc=>by
  simp only[Fo.wf,AcH,AcS] at hw
  obtain⟨⟨⟨w1,w2⟩,w3⟩,w4⟩:=hw
  simp only[Fo.flat] at hc
  have ih:=QZ w4 (λx hx=>hc x (by simp[hx]))
  obtain⟨c1,c2,c3⟩:=hc c (by simp)
  have i64:=G3 c2
  have hl:=AaP w2 c1 (Lib.itoa_length_le c.fInt i64.1 i64.2)
  have hk:QL k≤(3*M+24)*(By k).length:=by
   cases k with
   | none=>simp[QL,By]
   | some s=>
    have:=(hc ⟨4,0,s,0⟩ (by simp[By])).1
    have h2:=Q9 s
    simp only at this
    simp only[QL,By,List.length_singleton];omega
  simp only[Fo.byt,Fo.flat,Fo.cnt,AcK,AcE]
  have e:((3*(M:Int)+24)*(((By k).length+(r.flat.length+1):Nat):Int))=(3*(M:Int)+24)*(By k).length+((3*(M:Int)+24)*r.flat.length+(3*(M:Int)+24)):=by
   push_cast;rw[Int.mul_add,Int.mul_add,Int.mul_one]
  rw[e]
  push_cast at *
  omega
 | .node k c kids r,m,l,hw,hc=>by
  simp only[Fo.wf,AcH,AcC] at hw
  obtain⟨⟨⟨⟨⟨w1,w2⟩,w3⟩,w5⟩,w6⟩,w4⟩:=hw
  simp only[Fo.flat] at hc
  have ih:=QZ w4 (λx hx=>hc x (by simp[hx]))
  have ih2:=QZ w6 (λx hx=>hc x (by simp[hx]))
  have hcf:=Cp kids
  have hk:QL k≤(3*M+24)*(By k).length:=by
   cases k with
   | none=>simp[QL,By]
   | some s=>
    have:=(hc ⟨4,0,s,0⟩ (by simp[By])).1
    have h2:=Q9 s
    simp only at this
    simp only[QL,By,List.length_singleton];omega
  simp only[Fo.byt,Fo.flat,Fo.cnt,AcK,AcE]
  have e:((3*(M:Int)+24)*(((By k).length+(kids.flat.length+r.flat.length+1):Nat):Int))=(3*(M:Int)+24)*(By k).length+((3*(M:Int)+24)*kids.flat.length+(3*(M:Int)+24)*r.flat.length+(3*(M:Int)+24)):=by
   push_cast;rw[Int.mul_add,Int.mul_add,Int.mul_add,Int.mul_one]
  rw[e]
  push_cast at *
  omega
theorem KE {M:Nat} (hM:M≤1000000) {f:Fo} {m:Bool} {l:Option Ag} (hw:f.wf m l=true) (hl:f.flat.length≤M) (hc:∀c∈f.flat,c.fStr.length≤M∧Bl .i64 c.fInt=true∧c.fN≤9223372036854775807):f.byt≤4000000000000:=by
 have:=QZ (M:=M) hw hc
 have h2:(3*M+24)*f.flat.length≤(3*1000000+24)*1000000:=Nat.mul_le_mul (by omega) (by omega)
 have h3:(((3*M+24)*f.flat.length:Nat):Int)=(3*(M:Int)+24)*f.flat.length:=by push_cast;rfl
 omega
theorem M0 {M F:Nat} {v:List Aa} (hA:I7 M v) (hM:M≤1000000) (hF:M<F):KW F v=some (HX v):=by
 unfold KW HX whole
 have hvM:=hA.hv
 rcases ZD (hA.lk hF) with⟨f,ys,hp,hl⟩ | ⟨hp,sh',hl⟩
 ·rw[hl,AG rfl,hp]
  obtain⟨h1,h2,h3⟩:=Kr hp
  have hlen:v.length=f.flat.length+ys.length:=by rw[h1];simp
  cases ys with
  | cons c r=>
   rw[AA]
   simp only[AcE] at hlen
   simp;omega
  | nil=>
   simp only[Adp,Nat.add_zero] at hlen
   rw[Ay (by simp[hlen])]
   have hc:∀c∈f.flat,c.fStr.length≤M∧Bl .i64 c.fInt=true∧c.fN≤9223372036854775807:=λc hc=>hA.hc c (by rw[h1];simp[hc])
   have hb:=KE hM h2 (by omega) hc
   have hb0:=Ir h2
   have e1:(f.sh 0 Ov).fOutside=f.flat.any Ca:=by rw[Q1];rfl
   have e2:(f.sh 0 Ov).fLong=f.flat.any Il:=by rw[NG];rfl
   have e3:(f.sh 0 Ov).fDepth=f.dep:=by rw[L6 f 0 Ov (by simp[Ov])];simp[Ov]
   have e4:(f.sh 0 Ov).fBytes=(f.txt true).length:=by
    rw[L7 f false none 0 Ov h2 (by simp[Ov]) (by simp[Ov];omega),If f false none true h2,LR h3];simp[Ov]
   simp only
   rw[e1,e2,e3,e4,hlen]
   unfold Gd
   cases f.flat.any Ca with
   | true=>rw[AA rfl];rfl
   | false=>
    rw[Ay rfl]
    have a1:decide ((200:Int)<(f.flat.length:Int))=decide (200<f.flat.length):=by rw[Bool.eq_iff_iff];simp;omega
    have a2:decide ((8:Int)<(f.dep:Int))=decide (8<f.dep):=by rw[Bool.eq_iff_iff];simp;omega
    have a3:decide ((4000:Int)<((f.txt true).length:Int))=decide (4000<(f.txt true).length):=by rw[Bool.eq_iff_iff];simp;omega
    rw[a1,a2,a3]
    cases(f.flat.any Il||(decide (200<f.flat.length)||(decide (8<f.dep)||decide (4000<(f.txt true).length))))<;>rfl
 ·rw[hl,AG rfl,hp];rfl
theorem QH {v:List Aa} {p:Int} {f:Fo} {ys:List Aa} (h1:f.one=true) (hw:f.wf false none=true) (hd:v.drop p.toNat=f.flat++ys):J0 v p=p+f.flat.length:=by
 unfold J0
 rw[hd,Ub h1 hw]
theorem ND {c:Aa} (hp:pl c=true) (hn:decide (0<c.fN)=false):(Fo.cell none c .nil).wf false none=true:=by simp[Fo.wf,B1,hp,hn]
theorem NC {c:Aa} {kids:Fo} (hp:pl c=true) (hn:0<c.fN) (hk:c.fN=kids.cnt) (hw:kids.wf (decide (c.fKind=6)) none=true):(Fo.node none c kids .nil).wf false none=true:=by simp[Fo.wf,B1,hp,hn,hk,hw];omega
section
variable {M : Nat} {v : List Aa}
theorem I7.next (hA:I7 M v) {F:Nat} (hF:3*M+3<F) {p:Int} (h0:0≤p) (h1:p≤v.length):DO F v p=some (J0 v p):=by
 have hM:=hA.hM;have hvM:=hA.hv
 exact RJ (hA.rf (AcL M)) (λc hc=>(hA.hc c hc).2.2) (v.length-p.toNat) F p h0 h1 rfl (by omega)
theorem LA {F:Nat} {p:Int} {c:Aa} {r:List Aa} (h0:0≤p) (hpM:p≤1152921504606846976) (hd:v.drop p.toNat=c::r) (hp:pl c=true) (hn:decide (0<c.fN)=false):Ds (F+2) v p=some 1:=by
 obtain⟨g1,g2,g3⟩:=Cs h0 hd
 rw[Ds]
 unfold IJ
 rw[AT h0 g3,D9 h0 hd]
 cases hk:(!decide (c.fKind=5)&&!decide (c.fKind=6)) with
 | true=>rw[AA rfl]
 | false=>
  rw[Ay rfl,A1 (by omega) (by omega),AG (Dd (o:=.go 0) (by
   show CY (F+1) v p _ 0 (p+1) 0=_
   unfold CY
   rw[D9 h0 hd,Ay hn]))]
  simp only[B6,Er]
  rw[A1 (by omega) (by omega)];rfl
theorem PH {F:Nat} {i:Int} {rec:List Aa→Int→Option Int} {most at_ x L:Int} {m:Bool} {p q:Int} {pc:Aa} (hpc:Am v i=pc) (hm:decide (pc.fKind=6)=m) (hx:x<pc.fN) (hx0:0≤x) (hpcN:pc.fN≤9223372036854775807)
  (ha0:0≤at_) (haM:at_≤1152921504606846976) (hp:p=bif m then at_+1 else at_) (hr:rec v p=some L) (hq:DO F v p=some q):CY F v i rec most at_ x=some (.next (max most L,q,x+1)):=by
 unfold CY
 rw[hpc,AA (by simpa using hx),hm]
 cases m with
 | true=>
  simp only[AcJ] at hp
  rw[AA rfl,A1 (by omega) (by omega),← hp,hr,AG rfl]
  cases hl:decide (most<L) with
  | true=>rw[AA rfl,hq,AG rfl,A1 (by omega) (by omega),Int.max_eq_right (by simp at hl;omega)]
  | false=>rw[Ay rfl,hq,AG rfl,A1 (by omega) (by omega),Int.max_eq_left (by simp at hl;omega)]
 | false=>
  simp only[AcF] at hp
  rw[Ay rfl,← hp,hr,AG rfl]
  cases hl:decide (most<L) with
  | true=>rw[AA rfl,hq,AG rfl,A1 (by omega) (by omega),Int.max_eq_right (by simp at hl;omega)]
  | false=>rw[Ay rfl,hq,AG rfl,A1 (by omega) (by omega),Int.max_eq_left (by simp at hl;omega)]
theorem Ma {m:Bool} {last key:Option Ag} (h:B1 m last key=true):((By key).length:Int)=bif m then 1 else 0:=by
  cases key with
  | none=>
            have:m=false:=by simpa[B1] using h
            subst this;rfl
  | some s=>simp only[B1,AcH] at h;rw[h.1.1];rfl
theorem RK (hA:I7 M v):∀(g:Fo) (F L:Nat) (i at_ x most:Int) (m:Bool) (last:Option Ag) (ys:List Aa) (pc:Aa),Am v i=pc→decide (pc.fKind=6)=m→pc.fN≤9223372036854775807→g.wf m last=true→v.drop at_.toNat=g.flat++ys→0≤at_→at_≤v.length→pc.fN=x+g.cnt→0≤x→0≤most→most≤1152921504606846976→g.cnt<L→3*M+5+g.flat.length<F→
  ∃o,BF (λσ=>CY F v i (Ds F) σ.1 σ.2.1 σ.2.2) L (most,at_,x)=some o∧B6 (λν=>Er ν) o=some (max most (g.dep:Int)+1):=by
 have hM:=hA.hM;have hvM:=hA.hv
 have fin:∀(F L:Nat) (i at_ x most:Int) (pc:Aa),Am v i=pc→pc.fN≤x→0≤most→most≤1152921504606846976→0<L→∃o,BF (λσ=>CY F v i (Ds F) σ.1 σ.2.1 σ.2.2) L (most,at_,x)=some o∧B6 (λν=>Er ν) o=some (most+1):=λF L i at_ x most pc hpc hx h0 hb hL=>by
  obtain⟨L,rfl⟩:∃K,L=K+1:=⟨L-1,by omega⟩
  refine⟨.go most,Dd (by show CY F v i _ most at_ x=_;unfold CY;rw[hpc,Ay (by simp;omega)]),?_⟩
  simp only[B6,Er]
  rw[A1 (by omega) (by omega)]
 have depM:∀g:Fo,g.dep≤g.flat.length:=by
  intro g
  induction g with
  | nil=>simp[Fo.dep]
  | cell k c r ih=>simp[Fo.dep,Fo.flat];omega
  | node k c kids r ih1 ih2=>simp[Fo.dep,Fo.flat];omega
 intro g
 induction g with
 | nil=>
  intro F L i at_ x most m last ys pc hpc hm hpN hw hd h0 h1 hN hx hmo hmM hL hF
  obtain⟨o,h1,h2⟩:=fin F L i at_ x most pc hpc (by simp[Fo.cnt] at hN;omega) hmo hmM (by omega)
  exact⟨o,h1,by rw[h2];simp only[Fo.dep];congr 2<;>omega⟩
 | cell k c r ih=>
  intro F L i at_ x most m last ys pc hpc hm hpN hw hd h0 h1 hN hx hmo hmM hL hF
  simp only[Fo.wf,AcH,AcS] at hw
  obtain⟨⟨⟨w1,w2⟩,w3⟩,w4⟩:=hw
  simp only[Fo.flat,Adb,List.cons_append] at hd
  simp only[Fo.cnt] at hN hL
  simp only[Fo.flat,AcK,AcE] at hF
  obtain⟨L,rfl⟩:∃K,L=K+1:=⟨L-1,by omega⟩
  obtain⟨F,rfl⟩:∃K,F=K+2:=⟨F-2,by omega⟩
  have hd1:=CG h0 hd
  have hkl:=Ma w1
  obtain⟨g1,g2,g3⟩:=Cs (by omega) hd1
  have hlen:at_+(By k).length=bif m then at_+1 else at_:=by rw[hkl];cases m<;>simp
  have hq:=hA.next (F:=F+2) (by omega) (p:=at_+(By k).length) (by omega) (by omega)
  rw[QH (f:=.cell none c .nil) (ys:=r.flat++ys) rfl (ND w2 w3) hd1] at hq
  have hb:=PH (most:=most) (x:=x) hpc hm (by omega) hx hpN h0 (by omega) hlen (LA (F:=F) (by omega) (by omega) hd1 w2 w3) hq
  have hdd:=depM r
  obtain⟨o,ho1,ho2⟩:=ih (F+2) L i (at_+(By k).length+((Fo.cell none c .nil).flat.length:Int)) (x+1) (max most 1) m k ys pc hpc hm hpN w4 (by rw[show(Fo.cell none c .nil).flat.length=1 from rfl];exact g2) (by omega) (by rw[show(Fo.cell none c .nil).flat.length=1 from rfl];omega) (by omega) (by omega) (by omega) (by omega) (by omega) (by omega)
  refine⟨o,G8 hb ho1,?_⟩
  rw[ho2,Fo.dep];congr 2<;>omega
 | node k c kids r ihk ih=>
  intro F L i at_ x most m last ys pc hpc hm hpN hw hd h0 h1 hN hx hmo hmM hL hF
  simp only[Fo.wf,AcH,AcC] at hw
  obtain⟨⟨⟨⟨⟨w1,w2⟩,w3⟩,w5⟩,w6⟩,w4⟩:=hw
  simp only[Fo.flat,Adb,List.cons_append] at hd
  simp only[Fo.cnt] at hN hL
  simp only[Fo.flat,AcK,AcE] at hF
  obtain⟨L,rfl⟩:∃K,L=K+1:=⟨L-1,by omega⟩
  obtain⟨F,rfl⟩:∃K,F=K+1:=⟨F-1,by omega⟩
  have hd1:=CG h0 hd
  have hkl:=Ma w1
  obtain⟨g1,g2,g3⟩:=Cs (by omega) hd1
  have hcN:=(hA.hc c (AcU g1)).2.2
  have hlen:at_+(By k).length=bif m then at_+1 else at_:=by rw[hkl];cases m<;>simp
  have hq:=hA.next (F:=F+1) (by omega) (p:=at_+(By k).length) (by omega) (by omega)
  have hfl:(Fo.node none c kids .nil).flat=c::kids.flat:=by simp[Fo.flat,By]
  rw[QH (f:=.node none c kids .nil) (ys:=r.flat++ys) rfl (NC w2 w3 w5 w6) (by rw[hd1,hfl];simp)] at hq
  have hdk:=depM kids
  have hdd:=depM r
  have hcf:=Cp kids
  have hvl:(v.drop (at_+(By k).length+1).toNat).length=kids.flat.length+(r.flat.length+ys.length):=by rw[g2];simp
  rw[Adv] at hvl
  have hrec:Ds (F+1) v (at_+(By k).length)=some ((kids.dep:Int)+1):=by
   rw[Ds]
   unfold IJ
   rw[AT (by omega) g3,D9 (by omega) hd1]
   have ha:=(Ii w2 w3).1
   rw[Ay (by simp;omega),A1 (by omega) (by omega)]
   obtain⟨o,ho1,ho2⟩:=ihk F F (at_+(By k).length) (at_+(By k).length+1) 0 0 _ none (r.flat++ys) c (D9 (by omega) hd1) rfl hcN w6 (by rw[g2]) (by omega) (by omega) (by omega) (Ade 0) (Ade 0) (by omega) (by omega) (by omega)
   rw[AG ho1,ho2];congr 2<;>omega
  have hb:=PH (most:=most) (x:=x) hpc hm (by omega) hx hpN h0 (by omega) hlen hrec hq
  obtain⟨o,ho1,ho2⟩:=ih (F+1) L i (at_+(By k).length+((Fo.node none c kids .nil).flat.length:Int)) (x+1) (max most ((kids.dep:Int)+1)) m k ys pc hpc hm hpN w4 (by
   have:=CG (by omega) g2
   rw[hfl,AcE,show at_+(By k).length+((kids.flat.length+1:Nat):Int)=at_+(By k).length+1+kids.flat.length from by omega];exact this) (by omega) (by rw[hfl,AcE];omega) (by omega) (by omega) (by omega) (by omega) (by omega) (by omega)
  refine⟨o,G8 hb ho1,?_⟩
  rw[ho2,Fo.dep];congr 2<;>omega
theorem Th (hA:I7 M v) {F:Nat} {p:Int} {f:Fo} {ys:List Aa} (h0:0≤p) (h1:f.one=true) (hw:f.wf false none=true) (hd:v.drop p.toNat=f.flat++ys) (hF:3*M+6+f.flat.length<F):Ds F v p=some (f.dep:Int):=by
 have hM:=hA.hM;have hvM:=hA.hv
 cases f with
 | nil=>cases h1
 | cell k c r=>
  cases k with
  | some s=>cases h1
  | none=>
   cases r with
   | nil=>
    simp only[Fo.wf,AcH,AcS] at hw
    obtain⟨F,rfl⟩:∃K,F=K+2:=⟨F-2,by omega⟩
    have hd':v.drop p.toNat=c::ys:=by simpa[Fo.flat,By] using hd
    rw[LA h0 (by have:=(Cs h0 hd').2.2;omega) hd' hw.1.1.2 hw.1.2];rfl
   | cell _ _ _=>cases h1
   | node _ _ _ _=>cases h1
 | node k c kids r=>
  cases k with
  | some s=>cases h1
  | none=>
   cases r with
   | nil=>
    simp only[Fo.wf,AcH,AcC] at hw
    obtain⟨⟨⟨⟨⟨w1,w2⟩,w3⟩,w5⟩,w6⟩,w4⟩:=hw
    have hd':v.drop p.toNat=c::(kids.flat++ys):=by simpa[Fo.flat,By] using hd
    obtain⟨g1,g2,g3⟩:=Cs h0 hd'
    have hcN:=(hA.hc c (AcU g1)).2.2
    have hcf:=Cp kids
    simp only[Fo.flat,By,Adh,Adg,AcE] at hF
    obtain⟨F,rfl⟩:∃K,F=K+1:=⟨F-1,by omega⟩
    rw[Ds]
    unfold IJ
    have ha:=(Ii w2 w3).1
    rw[AT h0 g3,D9 h0 hd',Ay (by simp;omega),A1 (by omega) (by omega)]
    obtain⟨o,ho1,ho2⟩:=RK hA kids F F p (p+1) 0 0 _ none ys c (D9 h0 hd') rfl hcN w6 g2 (by omega) (by omega) (by omega) (Ade 0) (Ade 0) (by omega) (by omega) (by omega)
    rw[AG ho1,ho2];simp only[Fo.dep];congr 1<;>omega
   | cell _ _ _=>cases h1
   | node _ _ _ _=>cases h1
end
def N7 (c:UInt8):Ag:=bif (decide (c=34)||decide (c=92)) then[92,c] else[c]
theorem ML {s:Ag} {k:Nat} {c:UInt8} (h:s[k]? =some c):E0 (s.take (k+1))=E0 (s.take k)++N7 c:=by
 rw[List.take_add_one,h]
 simp[E0,List.flatMap_append,N7]
theorem S9 (s:Ag):(E0 s).length≤3*s.length:=by
 rw[Ml]
 have h1:s.count 34≤s.length:=List.count_le_length
 have h2:s.count 92≤s.length:=List.count_le_length
 omega
theorem Td {s:Ag} {x:Int} {c:UInt8} (h0:0≤x) (h:s[x.toNat]? =some c):List.take (Int.toNat (x+1)-Int.toNat x) (List.drop (Int.toNat x) s)=[c]:=by
 have hl:=(List.getElem?_eq_some_iff.1 h).1
 have hc:=(List.getElem?_eq_some_iff.1 h).2
 rw[show Int.toNat (x+1)-Int.toNat x=1 from by omega,List.drop_eq_getElem_cons hl,hc];rfl
theorem Aaw {s:Ag} {x:Int} {c:UInt8} (h:s[x.toNat]? =some c):decide (AK s x=34)=decide (c=34):=by
 rw[Dv h,Bool.eq_iff_iff,decide_eq_true_iff,decide_eq_true_iff,← UInt8.toNat_inj]
 show _↔c.toNat=34
 omega
theorem Aav {s:Ag} {x:Int} {c:UInt8} (h:s[x.toNat]? =some c):decide (AK s x=92)=decide (c=92):=by
 rw[Dv h,Bool.eq_iff_iff,decide_eq_true_iff,decide_eq_true_iff,← UInt8.toNat_inj]
 show _↔c.toNat=92
 omega
theorem Q5 {s out:Ag} {x:Int} {c:UInt8} (h0:0≤x) (hx:x<(s.length:Int)) (hs:s.length≤1152921504606846976) (ho:out.length≤3*s.length+1) (hc:s[x.toNat]? =some c):Do s out x=some (.next (out++N7 c,x+1)):=by
 unfold Do N7
 rw[AA (AcI hx),AT h0 hx,Aaw hc,Aav hc,Td h0 hc]
 have l1:(([92]:Ag).length:Int)=1:=rfl
 have l2:(([c]:Ag).length:Int)=1:=rfl
 cases hq:(decide (c=34)||decide (c=92)) with
 | true=>
  have l3:((out++([92]:Ag)).length:Int)=out.length+1:=by rw[AcK,List.length_singleton,Int.natCast_add];rfl
  rw[AA rfl,l1,l2,l3,A1 (by omega) (by omega),A1 (by omega) (by omega),BS (by omega) (by omega),BS (by omega) (by omega),A1 (by omega) (by omega),Adb]
  rfl
 | false=>
  rw[Ay rfl,l2,A1 (by omega) (by omega),BS (by omega) (by omega),BS (by omega) (by omega),A1 (by omega) (by omega)]
  rfl
theorem CE {R V:Type} (K:V→Option R) (v:V):B6 K (.go v)=K v:=rfl
theorem LO {R V:Type} (K:V→Option R) (r:R):B6 K (.ret r)=some r:=rfl
theorem RH {s out:Ag} {x:Int} (hx : ¬ x<(s.length:Int)):Do s out x=some (.out (.go out)):=by
 unfold Do
 rw[Ay (AcG hx)]
theorem Vc {out:Ag} (h:out.length≤4611686018427387904):DV out=some (out++[34]):=by
 unfold DV
 have l1:(([34]:Ag).length:Int)=1:=rfl
 rw[l1,A1 (by omega) (by omega)]
theorem Lc {F:Nat} {s:Ag} (hF:s.length<F) (hs:s.length≤1152921504606846976):Jk F s=some (Eu s):=by
 obtain⟨o,h1,h2⟩:=Ik (body:=λσ=>Do s σ.1 σ.2) (λσ=>0≤σ.2∧σ.2≤(s.length:Int)∧σ.1=34::E0 (s.take σ.2.toNat)) (λσ=>s.length-σ.2.toNat)
  (λo=>B6 (λν=>DV ν) o=some (Eu s)) (λσ ⟨h0,hl,ha⟩=>by
   obtain⟨out,x⟩:=σ
   simp only at h0 hl ha
   show(∃s',Do s out x=_∧_)∨∃o,Do s out x=_∧_
   have hb:=S9 (s.take x.toNat)
   have hb2:(s.take x.toNat).length≤s.length:=by rw[List.length_take];omega
   have hol:out.length≤3*s.length+1:=by rw[ha,AcE];omega
   by_cases hx:x<(s.length:Int)
   ·obtain⟨c,hc⟩:∃c,s[x.toNat]? =some c:=⟨s[x.toNat]'(by omega),List.getElem?_eq_getElem (by omega)⟩
    have a1:0≤x+1:=by omega
    have a2:x+1≤s.length:=by omega
    have a3:s.length-(x+1).toNat<s.length-x.toNat:=by omega
    have a4:out++N7 c=34::E0 (s.take (x+1).toNat):=by rw[show(x+1).toNat=x.toNat+1 from by omega,ML hc,ha];rfl
    exact .inl ⟨(out++N7 c,x+1),Q5 h0 hx hs hol hc,⟨a1,a2,a4⟩,a3⟩
   ·have e:x.toNat=s.length:=by omega
    have hk:DV out=some (out++[34]):=Vc (by omega)
    have hf:out++[34]=Eu s:=by rw[ha,e,Adw];rfl
    exact .inr ⟨.go out,RH hx,(CE (λν=>DV ν) out).trans (hk.trans (congrArg some hf))⟩) F ([34],0) ⟨Ade 0,by show(0:Int)≤s.length;omega,by show([34]:Ag)=34::E0 (s.take 0);simp[E0]⟩ (by show s.length-0<F;omega)
 unfold Jk
 rw[AG h1,h2]
section
variable {M : Nat} {v : List Aa}
theorem AbU (a b c d e:Ag):(((a++b)++c)++d)++e=a++(b++(c++d)++e):=by simp
theorem AbV (a b c d:Ag):((a++b)++c)++d=a++([]++(b++c)++d):=by simp
theorem AbW (a b c:Ag):(a++b)++c=a++(b++[]++c):=by simp
theorem AbX (a b:Ag):a++b=a++([]++[]++b):=by simp
theorem ZG (a:Ag) (c:UInt8):((a++[c]).length:Int)=a.length+1:=by rw[AcK,List.length_singleton,Int.natCast_add];rfl
theorem Sq (a b:Ag):((a++b).length:Int)=a.length+b.length:=by rw[AcK,Int.natCast_add]
theorem PE {F:Nat} {i:Int} {rec:List Aa→Int→Option Ag} {out tx:Ag} {at_ x:Int} {m:Bool} {p q:Int} {pc:Aa} {key:Option Ag} {last:Option Ag} (hpc:Am v i=pc) (hm:decide (pc.fKind=6)=m) (hx:x<pc.fN) (hx0:0≤x) (hpcN:pc.fN≤9223372036854775807)
  (ha0:0≤at_) (haM:at_<v.length) (hvM:(v.length:Int)≤1152921504606846976) (hk:B1 m last key=true) (hkey:∀s,key=some s→(Am v at_).fStr=s∧s.length<F∧s.length≤1152921504606846976) (hp:p=bif m then at_+1 else at_) (hr:rec v p=some tx) (hq:DO F v p=some q)
  (hlen:((out++(CP (decide (x=0))++G9 key++tx)).length:Int)≤4611686018427387904):Ep F v i rec out at_ x=some (.next (out++(CP (decide (x=0))++G9 key++tx),q,x+1)):=by
 have hb:(([44]:Ag).length:Int)=1:=rfl
 have hd:(([58]:Ag).length:Int)=1:=rfl
 have hx1:AN (Bl .i64 (x+1)) (some (Stp.next (out++(CP (decide (x=0))++G9 key++tx),q,x+1)):Option (Stp (Ag×Int×Int) (Out Ag Ag)))=some (Stp.next (out++(CP (decide (x=0))++G9 key++tx),q,x+1)):=A1 (by omega) (by omega)
 unfold Ep
 rw[hpc,AA (AcI hx),hm]
 cases ha:decide (x=0) with
 | true=>
  rw[ha] at hx1 hlen
  simp only[AcC] at ha
  rw[Ay (AcG (by omega))]
  cases m with
  | true=>
   cases key with
   | none=>simp[B1] at hk
   | some s=>
    obtain⟨e1,e2,e3⟩:=hkey s rfl
    simp only[AcJ] at hp
    have e:((out++Eu s)++[58])++tx=out++(CP true++G9 (some s)++tx):=AbV _ _ _ _
    rw[← e] at hx1 hlen ⊢
    have h1:=Sq ((out++Eu s)++[58]) tx
    have h2:=ZG (out++Eu s) 58
    have h3:=Sq out (Eu s)
    rw[AA rfl,AT ha0 haM,e1,Lc e2 e3,AG rfl,A1 (by omega) (by omega),hd,A1 (by omega) (by omega),A1 (by omega) (by omega),← hp,hr,AG rfl,A1 (by omega) (by omega),hq,AG rfl,hx1]
  | false=>
   cases key with
   | some s=>simp[B1] at hk
   | none=>
    simp only[AcF] at hp
    have e:out++tx=out++(CP true++G9 none++tx):=AbX _ _
    rw[← e] at hx1 hlen ⊢
    have h1:=Sq out tx
    rw[Ay rfl,← hp,hr,AG rfl,A1 (by omega) (by omega),hq,AG rfl,hx1]
 | false=>
  rw[ha] at hx1 hlen
  simp only[AcD] at ha
  rw[AA (AcI (by omega))]
  cases m with
  | true=>
   cases key with
   | none=>simp[B1] at hk
   | some s=>
    obtain⟨e1,e2,e3⟩:=hkey s rfl
    simp only[AcJ] at hp
    have e:(((out++[44])++Eu s)++[58])++tx=out++(CP false++G9 (some s)++tx):=AbU _ _ _ _ _
    rw[← e] at hx1 hlen ⊢
    have h1:=Sq (((out++[44])++Eu s)++[58]) tx
    have h2:=ZG ((out++[44])++Eu s) 58
    have h3:=Sq (out++[44]) (Eu s)
    have h4:=ZG out 44
    rw[hb,A1 (by omega) (by omega),AA rfl,AT ha0 haM,e1,Lc e2 e3,AG rfl,A1 (by omega) (by omega),hd,A1 (by omega) (by omega),A1 (by omega) (by omega),← hp,hr,AG rfl,A1 (by omega) (by omega),hq,AG rfl,hx1]
  | false=>
   cases key with
   | some s=>simp[B1] at hk
   | none=>
    simp only[AcF] at hp
    have e:(out++[44])++tx=out++(CP false++G9 none++tx):=AbW _ _ _
    rw[← e] at hx1 hlen ⊢
    have h1:=Sq (out++[44]) tx
    have h4:=ZG out 44
    rw[hb,A1 (by omega) (by omega),Ay rfl,← hp,hr,AG rfl,A1 (by omega) (by omega),hq,AG rfl,hx1]
theorem TT {i:Int} {pc:Aa} {out:Ag} (hpc:Am v i=pc) (h:out.length≤4611686018427387904):HO v i out=some (Nw pc out):=by
 unfold HO Nw
 have l1:(([123]:Ag).length:Int)=1:=rfl
 have l2:(([91]:Ag).length:Int)=1:=rfl
 have l3:(([125]:Ag).length:Int)=1:=rfl
 have l4:(([93]:Ag).length:Int)=1:=rfl
 have h1:=Sq [123] out
 have h2:=Sq [91] out
 rw[hpc]
 cases hk:decide (pc.fKind=6) with
 | true=>rw[AA rfl,A1 (by omega) (by omega),A1 (by omega) (by omega)];rfl
 | false=>rw[Ay rfl,A1 (by omega) (by omega),A1 (by omega) (by omega)];rfl
theorem Ox {F:Nat} {p:Int} {c:Aa} {r:List Aa} (h0:0≤p) (hpM:p≤1152921504606846976) (hd:v.drop p.toNat=c::r) (hp:pl c=true) (hn:decide (0<c.fN)=false) (hs:c.fStr.length<F+1) (hs2:c.fStr.length≤1152921504606846976) (hi:Bl .i64 c.fInt=true):GU (F+2) v p=some (DL c):=by
 obtain⟨g1,g2,g3⟩:=Cs h0 hd
 rw[GU]
 unfold M4 DL
 rw[AT h0 g3,D9 h0 hd]
 cases k1:decide (c.fKind=1) with
 | true=>rw[AA rfl];rfl
 | false=>
 rw[Ay rfl]
 cases k2:decide (c.fKind=2) with
 | true=>rw[AA rfl];cases decide (c.fInt=1)<;>rfl
 | false=>
 rw[Ay rfl]
 cases k3:decide (c.fKind=3) with
 | true=>rw[AA rfl,B3 hi];rfl
 | false=>
 rw[Ay rfl]
 cases k4:decide (c.fKind=4) with
 | true=>rw[AA rfl,Lc hs hs2,AG rfl];rfl
 | false=>
 have hgo:Ep (F+1) v p (GU (F+1)) [] (p+1) 0=some (.out (.go [])):=by
  unfold Ep
  rw[D9 h0 hd,Ay hn]
 rw[Ay rfl,A1 (by omega) (by omega),AG (Dd (o:=.go []) hgo),CE,TT (D9 h0 hd) (by simp)]
 simp only[AcF,Nw]
 cases decide (c.fKind=6)<;>rfl
end
section
variable {M : Nat} {v : List Aa}
theorem GP {α:Type} [Inhabited α] (a:α):ov (some a)=a:=rfl
theorem XP {at_:Int} {k:Option Ag} {r:List Aa} (h0:0≤at_) (hA:I7 M v) {F:Nat} (hF:M<F) (hd:v.drop at_.toNat=By k++r):∀s,k=some s→(Am v at_).fStr=s∧s.length<F∧s.length≤1152921504606846976:=λs e=>by
 subst e
 have hd':v.drop at_.toNat=⟨4,0,s,0⟩::r:=by simpa[By] using hd
 have h1:=D9 h0 hd'
 have h2:=(hA.hc _ (AcU (Cs h0 hd').1)).1
 have hM:=hA.hM
 simp only at h2
 exact⟨by rw[h1],by omega,by omega⟩
theorem RD (hA:I7 M v):∀(g:Fo) (F L:Nat) (i at_ x:Int) (out:Ag) (m:Bool) (last:Option Ag) (ys:List Aa) (pc:Aa),Am v i=pc→decide (pc.fKind=6)=m→pc.fN≤9223372036854775807→g.wf m last=true→v.drop at_.toNat=g.flat++ys→0≤at_→at_≤v.length→pc.fN=x+g.cnt→0≤x→(out++g.txt (decide (x=0))).length≤4611686018427387904→g.cnt<L→3*M+5+g.flat.length<F→
  ∃o,BF (λσ=>Ep F v i (GU F) σ.1 σ.2.1 σ.2.2) L (out,at_,x)=some o∧B6 (λν=>HO v i ν) o=some (Nw pc (out++g.txt (decide (x=0)))):=by
 have hM:=hA.hM;have hvM:=hA.hv
 intro g
 induction g with
 | nil=>
  intro F L i at_ x out m last ys pc hpc hm hpN hw hd h0 h1 hN hx hlen hL hF
  obtain⟨L,rfl⟩:∃K,L=K+1:=⟨L-1,by omega⟩
  have hgo:Ep F v i (GU F) out at_ x=some (.out (.go out)):=by
   simp only[Fo.cnt] at hN
   unfold Ep
   rw[hpc,Ay (AcG (by omega))]
  refine⟨.go out,Dd hgo,?_⟩
  simp only[Fo.txt,Adg] at hlen ⊢
  rw[CE,TT hpc hlen]
 | cell k c r ih=>
  intro F L i at_ x out m last ys pc hpc hm hpN hw hd h0 h1 hN hx hlen hL hF
  simp only[Fo.wf,AcH,AcS] at hw
  obtain⟨⟨⟨w1,w2⟩,w3⟩,w4⟩:=hw
  simp only[Fo.flat,Adb,List.cons_append] at hd
  simp only[Fo.cnt] at hN hL
  simp only[Fo.flat,AcK,AcE] at hF
  obtain⟨L,rfl⟩:∃K,L=K+1:=⟨L-1,by omega⟩
  obtain⟨F,rfl⟩:∃K,F=K+2:=⟨F-2,by omega⟩
  have hd1:=CG h0 hd
  have hkl:=Ma w1
  obtain⟨g1,g2,g3⟩:=Cs (by omega) hd1
  have hcM:=hA.hc c (AcU g1)
  have hp:at_+(By k).length=bif m then at_+1 else at_:=by rw[hkl];cases m<;>simp
  have hq:=hA.next (F:=F+2) (by omega) (p:=at_+(By k).length) (by omega) (by omega)
  rw[QH (f:=.cell none c .nil) (ys:=r.flat++ys) rfl (ND w2 w3) hd1] at hq
  have e:out++(Fo.cell k c r).txt (decide (x=0))=(out++(CP (decide (x=0))++G9 k++DL c))++r.txt (decide (x+1=0)):=by
   rw[AcG (show ¬ x+1=0 by omega)];simp[Fo.txt]
  rw[e] at hlen ⊢
  have hl2:((out++(CP (decide (x=0))++G9 k++DL c)).length:Int)≤4611686018427387904:=by rw[AcK] at hlen;omega
  have hat:at_<v.length:=by omega
  have hb:=PE hpc hm (by omega) hx hpN h0 hat (by omega) w1 (XP h0 hA (F:=F+2) (by omega) hd) hp (Ox (F:=F) (by omega) (by omega) hd1 w2 w3 (by omega) (by omega) hcM.2.1) hq hl2
  obtain⟨o,ho1,ho2⟩:=ih (F+2) L i (at_+(By k).length+((Fo.cell none c .nil).flat.length:Int)) (x+1) (out++(CP (decide (x=0))++G9 k++DL c)) m k ys pc hpc hm hpN w4 (by rw[show(Fo.cell none c .nil).flat.length=1 from rfl];exact g2) (by omega) (by rw[show(Fo.cell none c .nil).flat.length=1 from rfl];omega) (by omega) (by omega) hlen (by omega) (by omega)
  exact⟨o,G8 hb ho1,ho2⟩
 | node k c kids r ihk ih=>
  intro F L i at_ x out m last ys pc hpc hm hpN hw hd h0 h1 hN hx hlen hL hF
  simp only[Fo.wf,AcH,AcC] at hw
  obtain⟨⟨⟨⟨⟨w1,w2⟩,w3⟩,w5⟩,w6⟩,w4⟩:=hw
  simp only[Fo.flat,Adb,List.cons_append] at hd
  simp only[Fo.cnt] at hN hL
  simp only[Fo.flat,AcK,AcE] at hF
  obtain⟨L,rfl⟩:∃K,L=K+1:=⟨L-1,by omega⟩
  obtain⟨F,rfl⟩:∃K,F=K+1:=⟨F-1,by omega⟩
  have hd1:=CG h0 hd
  have hkl:=Ma w1
  obtain⟨g1,g2,g3⟩:=Cs (by omega) hd1
  have hcN:=(hA.hc c (AcU g1)).2.2
  have hp:at_+(By k).length=bif m then at_+1 else at_:=by rw[hkl];cases m<;>simp
  have hq:=hA.next (F:=F+1) (by omega) (p:=at_+(By k).length) (by omega) (by omega)
  have hfl:(Fo.node none c kids .nil).flat=c::kids.flat:=by simp[Fo.flat,By]
  rw[QH (f:=.node none c kids .nil) (ys:=r.flat++ys) rfl (NC w2 w3 w5 w6) (by rw[hd1,hfl];simp)] at hq
  have hcf:=Cp kids
  have hvl:(v.drop (at_+(By k).length+1).toNat).length=kids.flat.length+(r.flat.length+ys.length):=by rw[g2];simp
  rw[Adv] at hvl
  have e:out++(Fo.node k c kids r).txt (decide (x=0))=(out++(CP (decide (x=0))++G9 k++Nw c (kids.txt true)))++r.txt (decide (x+1=0)):=by
   rw[AcG (show ¬ x+1=0 by omega)];simp[Fo.txt]
  rw[e] at hlen ⊢
  have hl2:((out++(CP (decide (x=0))++G9 k++Nw c (kids.txt true))).length:Int)≤4611686018427387904:=by rw[AcK] at hlen;omega
  have hl3:(kids.txt true).length≤4611686018427387904:=by
   have:=Js c (kids.txt true)
   rw[AcK,AcK] at hl2;omega
  have hat:at_<v.length:=by omega
  have hrec:GU (F+1) v (at_+(By k).length)=some (Nw c (kids.txt true)):=by
   rw[GU]
   unfold M4
   have ha:=(Ii w2 w3).1
   rw[AT (by omega) g3,D9 (by omega) hd1,Ay (AcG (by omega)),Ay (AcG (by omega)),Ay (AcG (by omega)),Ay (AcG (by omega)),A1 (by omega) (by omega)]
   obtain⟨o,ho1,ho2⟩:=ihk F F (at_+(By k).length) (at_+(By k).length+1) 0 [] _ none (r.flat++ys) c (D9 (by omega) hd1) rfl hcN w6 (by rw[g2]) (by omega) (by omega) (by omega) (Ade 0) hl3 (by omega) (by omega)
   rw[AG ho1,ho2];rfl
  have hb:=PE hpc hm (by omega) hx hpN h0 hat (by omega) w1 (XP h0 hA (F:=F+1) (by omega) hd) hp hrec hq hl2
  obtain⟨o,ho1,ho2⟩:=ih (F+1) L i (at_+(By k).length+((Fo.node none c kids .nil).flat.length:Int)) (x+1) (out++(CP (decide (x=0))++G9 k++Nw c (kids.txt true))) m k ys pc hpc hm hpN w4 (by
   have:=CG (by omega) g2
   rw[hfl,AcE,show at_+(By k).length+((kids.flat.length+1:Nat):Int)=at_+(By k).length+1+kids.flat.length from by omega];exact this) (by omega) (by rw[hfl,AcE];omega) (by omega) (by omega) hlen (by omega) (by omega)
  exact⟨o,G8 hb ho1,ho2⟩
theorem RE (hA:I7 M v) {F:Nat} {p:Int} {f:Fo} {ys:List Aa} (h0:0≤p) (h1:f.one=true) (hw:f.wf false none=true) (hd:v.drop p.toNat=f.flat++ys) (hF:3*M+6+f.flat.length<F) (hlen:(f.txt true).length≤4611686018427387904):GU F v p=some (f.txt true):=by
 have hM:=hA.hM;have hvM:=hA.hv
 cases f with
 | nil=>cases h1
 | cell k c r=>
  cases k with
  | some s=>cases h1
  | none=>
   cases r with
   | nil=>
    simp only[Fo.wf,AcH,AcS] at hw
    obtain⟨F,rfl⟩:∃K,F=K+2:=⟨F-2,by omega⟩
    have hd':v.drop p.toNat=c::ys:=by simpa[Fo.flat,By] using hd
    have hcM:=hA.hc c (AcU (Cs h0 hd').1)
    rw[Ox h0 (by have:=(Cs h0 hd').2.2;omega) hd' hw.1.1.2 hw.1.2 (by omega) (by omega) hcM.2.1];simp[Fo.txt,CP,G9]
   | cell _ _ _=>cases h1
   | node _ _ _ _=>cases h1
 | node k c kids r=>
  cases k with
  | some s=>cases h1
  | none=>
   cases r with
   | nil=>
    simp only[Fo.wf,AcH,AcC] at hw
    obtain⟨⟨⟨⟨⟨w1,w2⟩,w3⟩,w5⟩,w6⟩,w4⟩:=hw
    have hd':v.drop p.toNat=c::(kids.flat++ys):=by simpa[Fo.flat,By] using hd
    obtain⟨g1,g2,g3⟩:=Cs h0 hd'
    have hcN:=(hA.hc c (AcU g1)).2.2
    have hcf:=Cp kids
    simp only[Fo.flat,By,Adh,Adg,AcE] at hF
    have et:(Fo.node none c kids .nil).txt true=Nw c (kids.txt true):=by simp[Fo.txt,CP,G9]
    rw[et] at hlen ⊢
    have hbl:=Js c (kids.txt true)
    obtain⟨F,rfl⟩:∃K,F=K+1:=⟨F-1,by omega⟩
    rw[GU]
    unfold M4
    have ha:=(Ii w2 w3).1
    rw[AT h0 g3,D9 h0 hd',Ay (AcG (by omega)),Ay (AcG (by omega)),Ay (AcG (by omega)),Ay (AcG (by omega)),A1 (by omega) (by omega)]
    obtain⟨o,ho1,ho2⟩:=RD hA kids F F p (p+1) 0 [] _ none ys c (D9 h0 hd') rfl hcN w6 g2 (by omega) (by omega) (by omega) (Ade 0) (by show(kids.txt true).length≤_;omega) (by omega) (by omega)
    rw[AG ho1,ho2];rfl
   | cell _ _ _=>cases h1
   | node _ _ _ _=>cases h1
theorem Vm {F:Nat} {K:Option Int} (hF:v.length<F) (hv:v.length≤1152921504606846976):Bn (BF (λσ=>EA v σ) F 0) (B6 λ_=>K)=bif v.any Ca then some 2 else K:=by
 obtain⟨o,h1,h2⟩:=Ik (body:=λσ=>EA v σ) (λx=>0≤x∧x≤(v.length:Int)∧(v.take x.toNat).any Ca=false) (λx=>v.length-x.toNat)
  (λo=>B6 (λ_=>K) o=bif v.any Ca then some 2 else K) (λx ⟨h0,hl,ha⟩=>by
   by_cases hx:x<(v.length:Int)
   ·obtain⟨c,hc⟩:∃c,v[x.toNat]? =some c:=⟨v[x.toNat]'(by omega),List.getElem?_eq_getElem (by omega)⟩
    have hat:Am v x=c:=by simp[Am,hc]
    have ho:(decide (c.fKind=3)&&(decide (c.fInt<(-1000000000000))||decide (1000000000000<c.fInt)))=Ca c:=by
     unfold Ca
     cases decide (c.fKind=3) with
     | false=>rfl
     | true=>
      rw[AcN,AcN,Bool.eq_iff_iff]
      simp only[Adi,AcC,AcS,Adk,AcD];omega
    have hb:EA v x=Bd (Ca c) (some (.out (.ret 2))) (some (.next (x+1))):=by
     unfold EA
     rw[AA (AcI hx),AT h0 hx,hat,ho,A1 (by omega) (by omega)]
    cases hq:Ca c with
    | true=>
     refine .inr ⟨.ret 2,hb.trans (AA hq),?_⟩
     have:v.any Ca=true:=List.any_eq_true.2 ⟨c,AcU hc,hq⟩
     rw[LO,this];rfl
    | false=>
     have a3:(v.take (x+1).toNat).any Ca=false:=by
      rw[show(x+1).toNat=x.toNat+1 from by omega,List.take_add_one,hc,List.any_append,ha];simp[hq]
     exact .inl ⟨x+1,hb.trans (Ay hq),⟨by omega,by omega,a3⟩,by omega⟩
   ·refine .inr ⟨.go (),by unfold EA;rw[Ay (AcG hx)],?_⟩
    rw[show x.toNat=v.length from by omega,Adw] at ha
    rw[CE,ha];rfl) F 0 ⟨Ade 0,by omega,by simp⟩ (by simpa using hF)
 rw[AG h1,h2]
theorem Vl {F:Nat} {K:Option Int} (hF:v.length<F) (hv:v.length≤1152921504606846976):Bn (BF (λσ=>E9 v σ) F 0) (B6 λ_=>K)=bif v.any Il then some 3 else K:=by
 obtain⟨o,h1,h2⟩:=Ik (body:=λσ=>E9 v σ) (λx=>0≤x∧x≤(v.length:Int)∧(v.take x.toNat).any Il=false) (λx=>v.length-x.toNat)
  (λo=>B6 (λ_=>K) o=bif v.any Il then some 3 else K) (λx ⟨h0,hl,ha⟩=>by
   by_cases hx:x<(v.length:Int)
   ·obtain⟨c,hc⟩:∃c,v[x.toNat]? =some c:=⟨v[x.toNat]'(by omega),List.getElem?_eq_getElem (by omega)⟩
    have hat:Am v x=c:=by simp[Am,hc]
    have hb:E9 v x=Bd (Il c) (some (.out (.ret 3))) (some (.next (x+1))):=by
     unfold E9
     rw[AA (AcI hx),AT h0 hx,hat,A1 (by omega) (by omega)];rfl
    cases hq:Il c with
    | true=>
     refine .inr ⟨.ret 3,hb.trans (AA hq),?_⟩
     have:v.any Il=true:=List.any_eq_true.2 ⟨c,AcU hc,hq⟩
     rw[LO,this];rfl
    | false=>
     have a3:(v.take (x+1).toNat).any Il=false:=by
      rw[show(x+1).toNat=x.toNat+1 from by omega,List.take_add_one,hc,List.any_append,ha];simp[hq]
     exact .inl ⟨x+1,hb.trans (Ay hq),⟨by omega,by omega,a3⟩,by omega⟩
   ·refine .inr ⟨.go (),by unfold E9;rw[Ay (AcG hx)],?_⟩
    rw[show x.toNat=v.length from by omega,Adw] at ha
    rw[CE,ha];rfl) F 0 ⟨Ade 0,by omega,by simp⟩ (by simpa using hF)
 rw[AG h1,h2]
theorem QS:decide (J0 v 0=v.length)=(whole v).isSome:=by
 unfold J0 whole
 rw[show v.drop (0:Int).toNat=v from rfl]
 cases hp:Iz v with
 | none=>simp
 | some q=>
  obtain⟨f,ys⟩:=q
  have h1:=(Kr hp).1
  have hl:v.length=f.flat.length+ys.length:=by rw[h1];simp
  cases ys with
  | nil=>simp at hl ⊢;omega
  | cons c r=>simp at hl ⊢;omega
theorem M8 (hA:I7 M v) (hM:M≤1000000) {F:Nat} (hF:4*M+6<F):Ld F v=some (HX v):=by
 have hvM:=hA.hv
 unfold Ld
 rw[Ti (hA.rf (AcL M)) (λc hc=>(hA.hc c hc).2.2) (by omega),AG rfl,QS]
 unfold HX
 cases hwh:whole v with
 | none=>rfl
 | some f=>
  obtain⟨h1,h2,h3⟩:=Jh hwh
  rw[Ay (p:=!(some f).isSome) rfl]
  change _=some (Gd f)
  have hl:v.length=f.flat.length:=by rw[h1]
  have hc:∀c∈f.flat,c.fStr.length≤M∧Bl .i64 c.fInt=true∧c.fN≤9223372036854775807:=λc hc=>hA.hc c (by rw[h1];exact hc)
  have hb:=KE hM h2 (by omega) hc
  have htl:((f.txt true).length:Int)=f.byt:=by rw[If f false none true h2,LR h3];simp
  have hd0:v.drop (0:Int).toNat=f.flat++[]:=by rw[Adg];exact h1
  rw[Vm (by omega) (by omega)]
  unfold Gd IL
  rw[Th hA (Ade 0) h3 h2 hd0 (by omega),B3 (by simp[imp]),Vl (by omega) (by omega)]
  unfold IK
  rw[RE hA (Ade 0) h3 h2 hd0 (by omega) (by omega),AG rfl]
  rw[GP,hl,← h1]
  have a1:decide ((200:Int)<(v.length:Int))=decide (200<v.length):=by rw[Bool.eq_iff_iff];simp;omega
  have a2:decide ((8:Int)<(f.dep:Int))=decide (8<f.dep):=by rw[Bool.eq_iff_iff];simp;omega
  have a3:decide ((4000:Int)<((f.txt true).length:Int))=decide (4000<(f.txt true).length):=by rw[Bool.eq_iff_iff];simp;omega
  rw[a1,a2,a3]
  cases v.any Ca<;>cases v.any Il<;>cases decide (200<v.length)<;>cases decide (8<f.dep)<;>cases decide (4000<(f.txt true).length)<;>rfl
end
theorem Du {α:Type} {n:Nat} {x:Option α} (h:n≤140737488355328):AN (Dw 1 n) x=x:=B3 (AcI (by omega))
theorem Gu {α β:Type} (a:α) (k:α→Option β):Ls a k=k a:=rfl
theorem Hf {α:Type} {n:Int} {x:Option α} (h:0≤n) (h':n≤255):AN (Bl .u8 n) x=x:=B3 (ZM h h')
theorem YH {s:Ag} {x:Int} {c:UInt8} (h:s[x.toNat]? =some c):UInt8.ofNat (Int.toNat (AK s x))=c∧0≤AK s x∧AK s x≤255:=by
 have:=UInt8.toNat_lt c
 rw[Dv h]
 refine⟨?_,by omega,by omega⟩
 rw[← UInt8.toNat_inj];simp
theorem R1 {s l:Ag} {x:Int} {c:UInt8} (h0:0≤x) (hx:x<(s.length:Int)) (hs:s.length≤1152921504606846976) (hl:l.length+2≤140737488355328) (hc:s[x.toNat]? =some c):DG s x l=some (.next (x+1,l++N7 c)):=by
 obtain⟨b1,b2,b3⟩:=YH hc
 unfold DG N7
 rw[AA (AcI hx),AT h0 hx,Aaw hc,Aav hc]
 have l1:(l++[UInt8.ofNat (Int.toNat 92)]).length=l.length+1:=by simp
 cases hq:(decide (c=34)||decide (c=92)) with
 | true=>
  rw[AA rfl,Du (by omega),Hf (by decide) (by decide),Gu,l1,Du (by omega),Hf b2 b3,Gu,b1,A1 (by omega) (by omega),Adb]
  rfl
 | false=>
  rw[Ay rfl,Du (by omega),Hf b2 b3,Gu,b1,A1 (by omega) (by omega)]
  rfl
theorem W1 {l:Ag} (h:l.length+1≤140737488355328):Gh l=some (l++[34]):=by
 unfold Gh
 rw[Du h,Gu];rfl
theorem Mz {F:Nat} {l s:Ag} (hF:s.length<F) (hl:(l++Eu s).length≤140737488355328):KV F l s=some (l++Eu s):=by
 have hq:(Eu s).length=(E0 s).length+2:=by simp[Eu]
 rw[AcK,hq] at hl
 have hesc:∀k,(E0 (s.take k)).length≤(E0 s).length:=λk=>by
  have:E0 s=E0 (s.take k)++E0 (s.drop k):=by rw[E0,E0,E0,← List.flatMap_append,Ads]
  rw[this,AcK];omega
 have hsl:s.length≤(E0 s).length:=by rw[Ml];omega
 obtain⟨o,h1,h2⟩:=Ik (body:=λσ=>DG s σ.1 σ.2) (λσ=>0≤σ.1∧σ.1≤(s.length:Int)∧σ.2=l++[34]++E0 (s.take σ.1.toNat)) (λσ=>s.length-σ.1.toNat)
  (λo=>B6 (λν=>Gh ν) o=some (l++Eu s)) (λσ ⟨h0,hlx,ha⟩=>by
   obtain⟨x,out⟩:=σ
   simp only at h0 hlx ha
   show(∃s',DG s x out=_∧_)∨∃o,DG s x out=_∧_
   have hol:out.length=l.length+1+(E0 (s.take x.toNat)).length:=by rw[ha];simp;omega
   have he:=hesc x.toNat
   by_cases hx:x<(s.length:Int)
   ·obtain⟨c,hc⟩:∃c,s[x.toNat]? =some c:=⟨s[x.toNat]'(by omega),List.getElem?_eq_getElem (by omega)⟩
    have he2:=hesc (x.toNat+1)
    rw[ML hc,AcK] at he2
    have hc1:1≤(N7 c).length:=by unfold N7;cases(decide (c=34)||decide (c=92))<;>simp
    have a1:0≤x+1:=by omega
    have a2:x+1≤s.length:=by omega
    have a3:s.length-(x+1).toNat<s.length-x.toNat:=by omega
    have a4:out++N7 c=l++[34]++E0 (s.take (x+1).toNat):=by rw[show(x+1).toNat=x.toNat+1 from by omega,ML hc,ha,Adb]
    exact .inl ⟨(x+1,out++N7 c),R1 h0 hx (by omega) (by omega) hc,⟨a1,a2,a4⟩,a3⟩
   ·have e:x.toNat=s.length:=by omega
    rw[e,Adw] at ha
    have hf:out++[34]=l++Eu s:=by rw[ha];simp[Eu]
    have hgo:DG s x out=some (.out (.go out)):=by unfold DG;rw[Ay (AcG hx)]
    exact .inr ⟨.go out,hgo,(CE (λν=>Gh ν) out).trans ((W1 (by omega)).trans (congrArg some hf))⟩) F (0,l++[34]) ⟨Ade 0,by show(0:Int)≤s.length;omega,by show l++[34]=l++[34]++E0 (s.take 0);simp[E0]⟩ (by show s.length-0<F;omega)
 unfold KV
 rw[Du (by omega),Hf (by decide) (by decide),Gu]
 have hb:[UInt8.ofNat (Int.toNat 34)]=([34]:Ag):=rfl
 rw[hb,AG h1,h2]
theorem Of {F:Nat} {l key:Ag} {x:List Aa} {first:Bool} {c:Aa} {k last:Option Ag} {tx:Ag} (hk:B1 (decide (c.fKind=6)) last k=true) (hkey:∀s,k=some s→key=s∧s.length<F)
  (hlen:(l++(CP first++G9 k++tx)).length≤140737488355328) (hw:∀l':Ag,(l'++tx).length≤140737488355328→GF F l' x=some (l'++tx)):EV (F+1) key x first l c=some (true,false,l++(CP first++G9 k++tx)):=by
 rw[EV]
 unfold Lx
 have hb:[UInt8.ofNat (Int.toNat 44)]=([44]:Ag):=rfl
 have ha:[UInt8.ofNat (Int.toNat 58)]=([58]:Ag):=rfl
 have hlen':=hlen
 simp only[AcK] at hlen'
 cases first with
 | true=>
  rw[Ay (p:=!true) rfl]
  cases hm:decide (c.fKind=6) with
  | true=>
   rw[hm] at hk
   cases k with
   | none=>simp[B1] at hk
   | some s=>
    obtain⟨e1,e2⟩:=hkey s rfl
    subst e1
    simp only[G9,AcK,List.length_singleton] at hlen'
    have h1:(l++Eu key).length≤140737488355328:=by rw[AcK];omega
    have e:((l++Eu key)++[58])++tx=l++(CP true++G9 (some key)++tx):=AbV _ _ _ _
    rw[← e] at hlen ⊢
    rw[AA rfl,Mz e2 h1,AG rfl,Du (by rw[AcK];omega),Hf (by decide) (by decide),Gu,ha,hw _ hlen,AG rfl]
  | false=>
   rw[hm] at hk
   cases k with
   | some s=>simp[B1] at hk
   | none=>
    have e:l++tx=l++(CP true++G9 none++tx):=AbX _ _
    rw[← e] at hlen ⊢
    rw[Ay rfl,hw _ hlen,AG rfl]
 | false=>
  simp only[CP,AcF,List.length_singleton] at hlen'
  rw[AA (p:=!false) rfl,Du (by omega),Hf (by decide) (by decide),Gu,hb]
  cases hm:decide (c.fKind=6) with
  | true=>
   rw[hm] at hk
   cases k with
   | none=>simp[B1] at hk
   | some s=>
    obtain⟨e1,e2⟩:=hkey s rfl
    subst e1
    simp only[G9,AcK,List.length_singleton] at hlen'
    have h1:((l++[44])++Eu key).length≤140737488355328:=by simp only[AcK,List.length_singleton];omega
    have e:(((l++[44])++Eu key)++[58])++tx=l++(CP false++G9 (some key)++tx):=AbU _ _ _ _ _
    rw[← e] at hlen ⊢
    rw[AA rfl,Mz e2 h1,AG rfl,Du (by simp only[AcK,List.length_singleton];omega),Hf (by decide) (by decide),Gu,ha,hw _ hlen,AG rfl]
  | false=>
   rw[hm] at hk
   cases k with
   | some s=>simp[B1] at hk
   | none=>
    have e:(l++[44])++tx=l++(CP false++G9 none++tx):=AbW _ _ _
    rw[← e] at hlen ⊢
    rw[Ay rfl,hw _ hlen,AG rfl]
section
variable {M : Nat}
theorem Ol {F:Nat} {v:List Aa} {c:Aa} {at_ x:Int} {first:Bool} {l l2:Ag} {k last:Option Ag} {f1:Fo} {ys:List Aa} (hA:I7 M v) (hF:M<F) (hpc:Am v 0=c) (hx:x<c.fN) (hx0:0≤x) (hcN:c.fN≤9223372036854775807) (h0:0≤at_) (hk:B1 (decide (c.fKind=6)) last k=true)
  (hd:v.drop at_.toNat=By k++(f1.flat++ys)) (h1:f1.one=true) (hw:f1.wf false none=true) (hr:∀key,(∀s,k=some s→key=s)→EV F key f1.flat first l c=some (true,false,l2)) :
  DT F v c (EV F) at_ x first l=some (.next (at_+(By k).length+f1.flat.length,x+1,false,l2)):=by
 have hM:=hA.hM;have hvM:=hA.hv
 have hd1:=CG h0 hd
 have hkl:=Ma hk
 have hfl:=LQ h1
 have hll:(v.drop (at_+(By k).length).toNat).length=f1.flat.length+ys.length:=by rw[hd1];simp
 rw[Adv] at hll
 have hlook:Jy F (v.drop (at_+(By k).length).toNat)=some ((f1.flat.length:Int),f1.sh 0 Ov,true):=Sn ((hA.drop _).lk hF) h1 hw hd1
 have htake:List.take (Int.toNat (at_+(By k).length+(f1.flat.length:Int))-Int.toNat (at_+(By k).length)) (v.drop (at_+(By k).length).toNat)=f1.flat:=by
  rw[hd1,show Int.toNat (at_+(By k).length+(f1.flat.length:Int))-Int.toNat (at_+(By k).length)=f1.flat.length from by omega,List.take_left]
 have hmono:0≤at_+(By k).length+f1.flat.length:=by omega
 unfold DT
 rw[hpc,AA (AcI hx)]
 cases hm:decide (c.fKind=6) with
 | true=>
  rw[hm] at hk hkl
  cases k with
  | none=>simp[B1] at hk
  | some s=>
   have e1:((By (some s)).length:Int)=1:=rfl
   rw[e1] at hlook htake hll hmono ⊢
   have hats:(Am v at_).fStr=s:=by
    have:v.drop at_.toNat=⟨4,0,s,0⟩::(f1.flat++ys):=by simpa[By] using hd
    rw[D9 h0 this]
   have hin:at_<v.length:=by omega
   rw[AA rfl,AT h0 hin,A1 (by omega) (by omega),BS (by omega) (by omega),hlook,AG rfl,A1 (by omega) (by omega),BS (by omega) (by omega),BS (by omega) (by omega),htake,hats,hr s (λs' h=>by cases h;rfl),AG rfl]
   rw[Ay (p:=!true) rfl,A1 (by omega) (by omega)]
 | false=>
  rw[hm] at hk hkl
  cases k with
  | some s=>simp[B1] at hk
  | none=>
   have e1:((By none).length:Int)=0:=rfl
   rw[e1,Int.add_zero] at hlook htake hll hmono ⊢
   rw[Ay rfl,BS (by omega) (by omega),hlook,AG rfl,A1 (by omega) (by omega),BS (by omega) (by omega),BS (by omega) (by omega),htake,hr [] (λs' h=>by cases h),AG rfl]
   rw[Ay (p:=!true) rfl,A1 (by omega) (by omega)]
end
section
variable {M : Nat}
theorem ET (l:Ag) (c:UInt8):(l++[c]).length=l.length+1:=by rw[AcK,List.length_singleton]
theorem KU {F:Nat} {l p:Ag} {v:List Aa} {c:Aa} {rf:Ag→(List Aa)→Bool→Ag→Aa→Option (Bool×Bool×Ag)} {rp:(List Aa)→Bool→Ag→Aa→Option (Bool×Ag)} (hc:Am v 0=c) (hv:0<v.length) (hk:c.fKind=5∨c.fKind=6) (hlen:(l++Nw c p).length≤140737488355328)
  (hp:∀l':Ag,l'.length=l.length+1→∃b,rp v true l' c=some (b,l'++p)):Ki F rf rp l v=some (l++Nw c p):=by
 have hbl:=Js c p
 rw[AcK,hbl] at hlen
 have i0:(0:Int)<(v.length:Int):=by omega
 unfold Ki
 rw[AT (Ade 0) i0,hc,Ay (AcG (by omega)),Ay (AcG (by omega)),Ay (AcG (by omega)),Ay (AcG (by omega))]
 have b1:[UInt8.ofNat (Int.toNat (AK ([123,125]:Ag) 0))]=([123]:Ag):=rfl
 have b2:[UInt8.ofNat (Int.toNat (AK ([123,125]:Ag) 1))]=([125]:Ag):=rfl
 have b3:[UInt8.ofNat (Int.toNat (AK ([91,93]:Ag) 0))]=([91]:Ag):=rfl
 have b4:[UInt8.ofNat (Int.toNat (AK ([91,93]:Ag) 1))]=([93]:Ag):=rfl
 have c1:AK ([123,125]:Ag) 0=123:=rfl
 have c2:AK ([123,125]:Ag) 1=125:=rfl
 have c3:AK ([91,93]:Ag) 0=91:=rfl
 have c4:AK ([91,93]:Ag) 1=93:=rfl
 have n2:(([123,125]:Ag).length:Int)=2:=rfl
 have n3:(([91,93]:Ag).length:Int)=2:=rfl
 cases h6:decide (c.fKind=6) with
 | true=>
  obtain⟨b,hb⟩:=hp _ (ET l 123)
  rw[AA rfl,n2,AT (by decide) (by decide),Du (by omega),b1,b2,c1,c2,Hf (by decide) (by decide),Gu,hb,AG rfl,AT (by decide) (by decide)]
  have e:((l++[123])++p).length=l.length+1+p.length:=by rw[AcK,ET]
  rw[e,Du (by omega),Hf (by decide) (by decide),Gu]
  simp[Nw,h6]
 | false=>
  obtain⟨b,hb⟩:=hp _ (ET l 91)
  rw[Ay rfl,n3,AT (by decide) (by decide),Du (by omega),b3,b4,c3,c4,Hf (by decide) (by decide),Gu,hb,AG rfl,AT (by decide) (by decide)]
  have e:((l++[91])++p).length=l.length+1+p.length:=by rw[AcK,ET]
  rw[e,Du (by omega),Hf (by decide) (by decide),Gu]
  simp[Nw,h6]
theorem Nd {F:Nat} {v:List Aa} {c:Aa} {at_ x:Int} {first:Bool} {l:Ag} {rf:Ag→(List Aa)→Bool→Ag→Aa→Option (Bool×Bool×Ag)} (hc:Am v 0=c) (hx : ¬ x<c.fN):DT F v c rf at_ x first l=some (.out (.go (first,l))):=by
 unfold DT
 rw[hc,Ay (AcG hx)]
theorem Nc {F:Nat} {l:Ag} {c:Aa} (hp:pl c=true) (hn:decide (0<c.fN)=false) (hs:c.fStr.length<F+2) (hi:Bl .i64 c.fInt=true) (hlen:(l++DL c).length≤140737488355328):GF (F+3) l [c]=some (l++DL c):=by
 rw[GF]
 have hat:Am [c] 0=c:=rfl
 have i0:(0:Int)<(([c]:List Aa).length:Int):=by simp
 have hN : ¬ (0:Int)<c.fN:=by simpa using hn
 by_cases ha:c.fKind=5∨c.fKind=6
 ·have el:DL c=Nw c []:=by
   have k1:decide (c.fKind=1)=false:=AcG (by omega)
   have k2:decide (c.fKind=2)=false:=AcG (by omega)
   have k3:decide (c.fKind=3)=false:=AcG (by omega)
   have k4:decide (c.fKind=4)=false:=AcG (by omega)
   unfold DL Nw
   rw[k1,k2,k3,k4];rfl
  rw[el] at hlen ⊢
  refine KU hat (by simp) ha hlen (λl' hl'=>⟨true,?_⟩)
  rw[Hm]
  unfold I8
  rw[AT (Ade 0) i0,AG (Dd (o:=.go (true,l')) (Nd hat hN)),CE,Adg];rfl
 ·unfold Ki DL
  unfold DL at hlen
  rw[AT (Ade 0) i0,hat]
  cases k1:decide (c.fKind=1) with
  | true=>
   rw[k1] at hlen
   simp only[AcJ] at hlen
   rw[AA rfl,Du (by rw[AcK] at hlen;exact hlen),Gu];rfl
  | false=>
  rw[k1] at hlen
  simp only[AcF] at hlen
  rw[Ay rfl]
  cases k2:decide (c.fKind=2) with
  | true=>
   rw[k2] at hlen
   simp only[AcJ] at hlen
   rw[AA rfl]
   simp[pl,k1,k2] at hp
   simp only[AcK] at hlen
   rcases hp.1 with h0 | h1
   ·rw[h0] at hlen ⊢
    have a:Am ([([102,97,108,115,101]:Ag),([116,114,117,101]:Ag)]:List Ag) 0=[102,97,108,115,101]:=rfl
    have hlen2:l.length+([102,97,108,115,101]:Ag).length≤140737488355328:=hlen
    rw[AT (by decide) (by decide),a,Du hlen2,Gu];rfl
   ·rw[h1] at hlen ⊢
    have a:Am ([([102,97,108,115,101]:Ag),([116,114,117,101]:Ag)]:List Ag) 1=[116,114,117,101]:=rfl
    have hlen2:l.length+([116,114,117,101]:Ag).length≤140737488355328:=hlen
    rw[AT (by decide) (by decide),a,Du hlen2,Gu];rfl
  | false=>
  rw[k2] at hlen
  simp only[AcF] at hlen
  rw[Ay rfl]
  cases k3:decide (c.fKind=3) with
  | true=>
   rw[k3] at hlen
   simp only[AcJ,AcK] at hlen
   rw[AA rfl,B3 hi,Du hlen,Gu];rfl
  | false=>
  rw[k3] at hlen
  simp only[AcF] at hlen
  rw[Ay rfl]
  cases k4:decide (c.fKind=4) with
  | true=>
   rw[k4] at hlen
   simp only[AcJ] at hlen
   rw[AA rfl,Mz hs hlen,AG rfl];rfl
  | false=>
   exfalso
   simp only[AcD] at k1 k2 k3 k4
   simp[pl,k1,k2,k3,k4,show ¬ c.fKind=5 by omega,show ¬ c.fKind=6 by omega] at hp
theorem I7.mem {v:List Aa} (hA:I7 M v) {p:Int} {a b:List Aa} (h:v.drop p.toNat=a++b):I7 M a:=by
 have:=(hA.drop p.toNat).take a.length
 rwa [h,List.take_left] at this
theorem Pt:∀(g:Fo) (v:List Aa) (c:Aa) (F L:Nat) (at_ x:Int) (first:Bool) (l:Ag) (m:Bool) (last:Option Ag) (ys:List Aa),I7 M v→Am v 0=c→decide (c.fKind=6)=m→c.fN≤9223372036854775807→g.wf m last=true→v.drop at_.toNat=g.flat++ys→0≤at_→c.fN=x+g.cnt→0≤x→(l++g.txt first).length≤140737488355328→g.cnt<L→M+5+3*g.flat.length<F→
  ∃o b,BF (λσ=>DT F v c (EV F) σ.1 σ.2.1 σ.2.2.1 σ.2.2.2) L (at_,x,first,l)=some o∧B6 (λν=>HK ν.1 ν.2) o=some (b,l++g.txt first):=by
 intro g
 induction g with
 | nil=>
  intro v c F L at_ x first l m last ys hA hpc hm hcN hw hd h0 hN hx hlen hL hF
  obtain⟨L,rfl⟩:∃K,L=K+1:=⟨L-1,by omega⟩
  simp only[Fo.cnt] at hN
  have hx' : ¬ x<c.fN:=by omega
  refine⟨.go (first,l),first,Dd (Nd hpc hx'),?_⟩
  rw[CE,Fo.txt,Adg];rfl
 | cell k cc r ih=>
  intro v c F L at_ x first l m last ys hA hpc hm hcN hw hd h0 hN hx hlen hL hF
  simp only[Fo.wf,AcH,AcS] at hw
  obtain⟨⟨⟨w1,w2⟩,w3⟩,w4⟩:=hw
  have hd2:v.drop at_.toNat=By k++((Fo.cell none cc .nil).flat++(r.flat++ys)):=by rw[hd];simp[Fo.flat,By]
  have hd1:=CG h0 hd2
  simp only[Fo.cnt] at hN hL
  simp only[Fo.flat,AcK,AcE] at hF
  obtain⟨L,rfl⟩:∃K,L=K+1:=⟨L-1,by omega⟩
  obtain⟨F,rfl⟩:∃K,F=K+4:=⟨F-4,by omega⟩
  have hAe:=hA.mem hd1
  have hcM:=hAe.hc cc (by simp[Fo.flat,By])
  have e:l++(Fo.cell k cc r).txt first=(l++(CP first++G9 k++DL cc))++r.txt false:=by simp[Fo.txt]
  rw[e] at hlen ⊢
  have hl2:(l++(CP first++G9 k++DL cc)).length≤140737488355328:=by rw[AcK] at hlen;omega
  have hb:=Ol (F:=F+4) (last:=last) hA (by omega) hpc (by omega) hx hcN h0 (by rw[hm];exact w1) hd2 rfl (ND w2 w3) (first:=first) (l:=l) (λkey hkey=>
   Of (last:=last) (by rw[hm];exact w1) (λs hs=>⟨hkey s hs,by
    have hM:=hA.hM
    subst hs
    have:=(hA.hc ⟨4,0,s,0⟩ (Adu (by rw[hd2];simp[By]))).1
    simp only at this;omega⟩) hl2 (λl' hl'=>Nc (F:=F) w2 w3 (by omega) hcM.2.1 hl'))
  obtain⟨o,b,ho1,ho2⟩:=ih v c (F+4) L (at_+(By k).length+((Fo.cell none cc .nil).flat.length:Int)) (x+1) false (l++(CP first++G9 k++DL cc)) m k ys hA hpc hm hcN w4 (CG (by omega) hd1) (by omega) (by omega) (by omega) hlen (by omega) (by omega)
  exact⟨o,b,G8 hb ho1,ho2⟩
 | node k cc kids r ihk ih=>
  intro v c F L at_ x first l m last ys hA hpc hm hcN hw hd h0 hN hx hlen hL hF
  simp only[Fo.wf,AcH,AcC] at hw
  obtain⟨⟨⟨⟨⟨w1,w2⟩,w3⟩,w5⟩,w6⟩,w4⟩:=hw
  have hd2:v.drop at_.toNat=By k++((Fo.node none cc kids .nil).flat++(r.flat++ys)):=by rw[hd];simp[Fo.flat,By]
  have hd1:=CG h0 hd2
  simp only[Fo.cnt] at hN hL
  simp only[Fo.flat,AcK,AcE] at hF
  obtain⟨L,rfl⟩:∃K,L=K+1:=⟨L-1,by omega⟩
  obtain⟨F,rfl⟩:∃K,F=K+3:=⟨F-3,by omega⟩
  have hAe:=hA.mem hd1
  have hfl:(Fo.node none cc kids .nil).flat=cc::kids.flat:=by simp[Fo.flat,By]
  have hcM:=hAe.hc cc (by rw[hfl];simp)
  have hcf:=Cp kids
  have e:l++(Fo.node k cc kids r).txt first=(l++(CP first++G9 k++Nw cc (kids.txt true)))++r.txt false:=by simp[Fo.txt]
  rw[e] at hlen ⊢
  have hl2:(l++(CP first++G9 k++Nw cc (kids.txt true))).length≤140737488355328:=by rw[AcK] at hlen;omega
  have hb:=Ol (F:=F+3) (last:=last) hA (by omega) hpc (by omega) hx hcN h0 (by rw[hm];exact w1) hd2 rfl (NC w2 w3 w5 w6) (first:=first) (l:=l) (λkey hkey=>
   Of (last:=last) (by rw[hm];exact w1) (λs hs=>⟨hkey s hs,by
    have hM:=hA.hM
    subst hs
    have:=(hA.hc ⟨4,0,s,0⟩ (Adu (by rw[hd2];simp[By]))).1
    simp only at this;omega⟩) hl2 (λl' hl'=>by
     rw[GF]
     have hat:Am (Fo.node none cc kids .nil).flat 0=cc:=by rw[hfl];rfl
     have hlen0:0<(Fo.node none cc kids .nil).flat.length:=by rw[hfl];simp
     have hbl:=Js cc (kids.txt true)
     rw[AcK,hbl] at hl'
     have hb:∀l2:Ag,l2.length=l'.length+1→∃b,Hm (F+1) (Fo.node none cc kids .nil).flat true l2 cc=some (b,l2++kids.txt true):=λl2 hl2'=>by
       rw[Hm]
       unfold I8
       have i0:(0:Int)<((Fo.node none cc kids .nil).flat.length:Int):=by omega
       obtain⟨o,b,ho1,ho2⟩:=ihk (Fo.node none cc kids .nil).flat cc F F 1 0 true l2 _ none [] hAe hat rfl hcM.2.2 w6 (by rw[hfl];simp) (by decide) (by omega) (Ade 0) (by rw[AcK];omega) (by omega) (by omega)
       exact⟨b,by rw[AT (Ade 0) i0,AG ho1,ho2]⟩
     exact KU hat hlen0 (Ii w2 w3).1 (by rw[AcK,hbl];exact hl') hb))
  obtain⟨o,b,ho1,ho2⟩:=ih v c (F+3) L (at_+(By k).length+((Fo.node none cc kids .nil).flat.length:Int)) (x+1) false (l++(CP first++G9 k++Nw cc (kids.txt true))) m k ys hA hpc hm hcN w4 (CG (by omega) hd1) (by omega) (by omega) (by omega) hlen (by omega) (by omega)
  exact⟨o,b,G8 hb ho1,ho2⟩
theorem UM {f:Fo} {F:Nat} {l:Ag} (hA:I7 M f.flat) (h1:f.one=true) (hw:f.wf false none=true) (hF:M+8+3*f.flat.length<F) (hlen:(l++f.txt true).length≤140737488355328):GF F l f.flat=some (l++f.txt true):=by
 have hM:=hA.hM;have hvM:=hA.hv
 cases f with
 | nil=>cases h1
 | cell k c r=>
  cases k with
  | some s=>cases h1
  | none=>
   cases r with
   | nil=>
    simp only[Fo.wf,AcH,AcS] at hw
    have hfl:(Fo.cell none c .nil).flat=[c]:=by simp[Fo.flat,By]
    have hcM:=hA.hc c (by rw[hfl];simp)
    have et:(Fo.cell none c .nil).txt true=DL c:=by simp[Fo.txt,CP,G9]
    rw[et] at hlen ⊢
    obtain⟨F,rfl⟩:∃K,F=K+3:=⟨F-3,by omega⟩
    rw[hfl]
    exact Nc hw.1.1.2 hw.1.2 (by omega) hcM.2.1 hlen
   | cell _ _ _=>cases h1
   | node _ _ _ _=>cases h1
 | node k c kids r=>
  cases k with
  | some s=>cases h1
  | none=>
   cases r with
   | nil=>
    simp only[Fo.wf,AcH,AcC] at hw
    obtain⟨⟨⟨⟨⟨w1,w2⟩,w3⟩,w5⟩,w6⟩,w4⟩:=hw
    have hfl:(Fo.node none c kids .nil).flat=c::kids.flat:=by simp[Fo.flat,By]
    have hcM:=hA.hc c (by rw[hfl];simp)
    have et:(Fo.node none c kids .nil).txt true=Nw c (kids.txt true):=by simp[Fo.txt,CP,G9]
    rw[et] at hlen ⊢
    have hcf:=Cp kids
    have hat:Am (Fo.node none c kids .nil).flat 0=c:=by rw[hfl];rfl
    have hlen0:0<(Fo.node none c kids .nil).flat.length:=by rw[hfl];simp
    have hl1:(Fo.node none c kids .nil).flat.length=kids.flat.length+1:=by rw[hfl];simp
    have hbl:=Js c (kids.txt true)
    obtain⟨F,rfl⟩:∃K,F=K+2:=⟨F-2,by omega⟩
    rw[GF]
    refine KU hat hlen0 (Ii w2 w3).1 hlen (λl2 hl2=>?_)
    rw[AcK,hbl] at hlen
    rw[Hm]
    unfold I8
    have i0:(0:Int)<((Fo.node none c kids .nil).flat.length:Int):=by omega
    obtain⟨o,b,ho1,ho2⟩:=Pt kids (Fo.node none c kids .nil).flat c F F 1 0 true l2 _ none [] hA hat rfl hcM.2.2 w6 (by rw[hfl];simp) (by decide) (by omega) (Ade 0) (by rw[AcK];omega) (by omega) (by omega)
    exact⟨b,by rw[AT (Ade 0) i0,AG ho1,ho2]⟩
   | cell _ _ _=>cases h1
   | node _ _ _ _=>cases h1
def I2 (v:List Aa):Ag×Int:=match whole v with
 | none=>([],1)
 | some f=>bif decide (Gd f=0) then(f.txt true,0) else([],Gd f)
theorem ZK (n:Int):Lib.itoa n≠[]:=by
 unfold Lib.itoa
 split
 ·simp
 ·intro h
  have:=congrArg List.length h
  rw[Lib.decDigits_length] at this
  have:=Lib.nDigits_pos n.toNat
  simp at *;omega
theorem Zr {f:Fo} (hw:f.wf false none=true) (h1:f.one=true):0<(f.txt true).length:=by
 have e:=If f false none true hw
 cases f with
 | nil=>cases h1
 | cell k c r=>
  have h2:=Ir hw
  simp only[Fo.txt,AcK]
  simp only[Fo.wf,AcH] at hw
  have hp:=hw.1.1.2
  have:0<(DL c).length:=by
   have hl:=PX hp
   have:0<Wh c:=by
    unfold Wh
    cases h1:decide (c.fKind=1) with
    | true=>simp
    | false=>
     cases h2:decide (c.fKind=2) with
     | true=>
      simp[pl,h1,h2] at hp
      simp only[AcF,AcJ];omega
     | false=>
      cases h3:decide (c.fKind=3) with
      | true=>
       simp only[AcF,AcJ]
       have:Lib.itoa c.fInt≠[]:=ZK _
       have:=List.length_pos_iff.2 this
       omega
      | false=>
       cases h4:decide (c.fKind=4) with
       | true=>have:=LK c.fStr;simp only[AcF,AcJ];omega
       | false=>simp
   omega
  omega
 | node k c kids r=>
  have:=Js c (kids.txt true)
  simp only[Fo.txt,AcK];omega
theorem Ta {v:List Aa} (hA:I7 M v) (hM:M≤1000000) {F:Nat} (hF:4*M+8<F):L2 F v=some (I2 v):=by
 have hvM:=hA.hv
 unfold L2 I2
 rw[M0 hA hM (by omega),AG rfl]
 unfold HX
 cases hwh:whole v with
 | none=>rfl
 | some f=>
  change Bd (!decide (Gd f=0)) _ _=some (bif decide (Gd f=0) then(f.txt true,0) else([],Gd f))
  cases he:decide (Gd f=0) with
  | false=>rw[AA (p:=!false) rfl];rfl
  | true=>
   obtain⟨h1,h2,h3⟩:=Jh hwh
   have hl:v.length=f.flat.length:=by rw[h1]
   have hc:∀c∈f.flat,c.fStr.length≤M∧Bl .i64 c.fInt=true∧c.fN≤9223372036854775807:=λc hc=>hA.hc c (by rw[h1];exact hc)
   have hb:=KE hM h2 (by omega) hc
   have htl:((f.txt true).length:Int)=f.byt:=by rw[If f false none true h2,LR h3];simp
   have hA':I7 M f.flat:=by rw[← h1];exact hA
   have hw:=UM (F:=F) (l:=[]) hA' h3 h2 (by omega) (by rw[Adh];omega)
   rw[Ay (p:=!true) rfl,h1,hw,AG rfl,Adh,B3 (AcI (Zr h2 h3))];rfl
end
def WF (v:List Aa):Bool:=!decide (300<v.length)&&v.all λc=>!decide (300<c.fStr.length)
def Xu (c:Aa):Bool:=Bl .i64 c.fKind&&Bl .i64 c.fInt&&okS c.fStr&&Bl .i64 c.fN
theorem I7.of {v:List Aa} (hs:WF v=true) (hc:v.all Xu=true):I7 300 v:=by
 unfold WF at hs
 simp only[AcH,AcS,AcD,Adl] at hs hc
 refine⟨by decide,by omega,λc h=>?_⟩
 obtain h1:=hs.2 c h
 obtain h2:=hc c h
 unfold Xu at h2
 simp only[AcH] at h2
 exact⟨by omega,h2.1.1.2,(G3 h2.2).2⟩
theorem T3 (a:Bool):imp a true=true:=by cases a<;>rfl
section
variable {M : Nat}
end
def SL (n:Nat):Ag:=[UInt8.ofNat (n/16777216),UInt8.ofNat (n/65536),UInt8.ofNat (n/256),UInt8.ofNat n]
def DC:Ag→Nat
 | a::b::c::d::_=>((a.toNat*256+b.toNat)*256+c.toNat)*256+d.toNat
 | _=>0
def Iq (c:UInt8):BitVec 32:=BitVec.ofNat 32 c.toNat
def T7 (b:BitVec 32):Ag→BitVec 32
 | []=>b
 | c::s=>T7 (Rg 8 (b^^^Iq c)) s
def Mq (s:Ag):Nat:=(~~~ (T7 4294967295#32 s)).toNat
theorem U7 (s:Ag):Mq s<4294967296:=(~~~ (T7 4294967295#32 s)).isLt
def Cc (b:Ag):Ag:=SL b.length++SL (Mq b)++b
theorem DH (b:Ag):(Cc b).length=8+b.length:=by simp[Cc,SL];omega
def Db (s:Ag):Ag×Int×Int:=
 bif decide (s.length<8) then([],0,14)
 else bif decide (262136<DC s) then([],0,13)
 else bif decide (s.length-8<DC s) then([],0,14)
 else bif !decide (Mq ((s.drop 8).take (DC s))=DC (s.drop 4)) then([],0,13)
 else((s.drop 8).take (DC s),((8+DC s:Nat):Int),0)
def B8:Nat→Ag→List Ag×Nat
 | 0,_=>([],0)
 | n+1,s=>bif decide ((Db s).2.2=0) then((Db s).1::(B8 n (s.drop (Db s).2.1.toNat)).1,(Db s).2.1.toNat+(B8 n (s.drop (Db s).2.1.toNat)).2) else([],0)
theorem LT {n:Nat} (h:n<4294967296) (r:Ag):DC (SL n++r)=n:=by
 show((((UInt8.ofNat (n/16777216)).toNat*256+(UInt8.ofNat (n/65536)).toNat)*256+(UInt8.ofNat (n/256)).toNat)*256+(UInt8.ofNat n).toNat)=n
 simp only[UInt8.toNat_ofNat']
 omega
theorem Pk {s:Ag} (h:4≤s.length):SL (DC s)=s.take 4:=by
 match s,h with
 | a::b::c::d::r,_=>
  have ha:=a.toNat_lt
  have hb:=b.toNat_lt
  have hc:=c.toNat_lt
  have hd:=d.toNat_lt
  show SL (((a.toNat*256+b.toNat)*256+c.toNat)*256+d.toNat)=[a,b,c,d]
  unfold SL
  have e:∀x y:UInt8,x.toNat=y.toNat→x=y:=λx y h=>UInt8.toNat_inj.1 h
  congr 1
  ·apply e;simp only[UInt8.toNat_ofNat'];omega
  ·congr 1
   ·apply e;simp only[UInt8.toNat_ofNat'];omega
   ·congr 1
    ·apply e;simp only[UInt8.toNat_ofNat'];omega
    ·congr 1
     apply e;simp only[UInt8.toNat_ofNat'];omega
theorem QJ (s:Ag):DC s<4294967296:=by
 match s with
 | a::b::c::d::r=>
  have ha:=a.toNat_lt
  have hb:=b.toNat_lt
  have hc:=c.toNat_lt
  have hd:=d.toNat_lt
  show((a.toNat*256+b.toNat)*256+c.toNat)*256+d.toNat<_
  omega
 | []=>decide
 | [_]=>show 0<_;decide
 | [_,_]=>show 0<_;decide
 | [_,_,_]=>show 0<_;decide
theorem Vv {b:Ag} (h:b.length≤262136) (r:Ag):Db (Cc b++r)=(b,((8+b.length:Nat):Int),0):=by
 have h1:DC (Cc b++r)=b.length:=by
  unfold Cc
  rw[Adb,Adb]
  exact LT (by omega) _
 have h2:DC ((Cc b++r).drop 4)=Mq b:=by
  have:(Cc b++r).drop 4=SL (Mq b)++(b++r):=by unfold Cc SL;simp
  rw[this];exact LT (U7 b) _
 have h3:((Cc b++r).drop 8).take b.length=b:=by
  have:(Cc b++r).drop 8=b++r:=by unfold Cc SL;simp
  rw[this];simp
 have hl:=DH b
 unfold Db
 rw[h1,h2,h3,AcK,hl]
 rw[AcG (by omega),AcG (by omega),AcG (by omega),AcI rfl];rfl
theorem LP {s:Ag} (h:(Db s).2.2=0):(Db s).1.length≤262136∧(Db s).2.1=((8+(Db s).1.length:Nat):Int)∧s=Cc (Db s).1++s.drop (8+(Db s).1.length):=by
 unfold Db at h ⊢
 cases h1:decide (s.length<8) with
 | true=>rw[h1] at h;cases h
 | false=>
  rw[h1] at h
  simp only[AcF] at h ⊢
  cases h2:decide (262136<DC s) with
  | true=>rw[h2] at h;cases h
  | false=>
   rw[h2] at h
   simp only[AcF] at h ⊢
   cases h3:decide (s.length-8<DC s) with
   | true=>rw[h3] at h;cases h
   | false=>
    rw[h3] at h
    simp only[AcF] at h ⊢
    cases h4:decide (Mq ((s.drop 8).take (DC s))=DC (s.drop 4)) with
    | false=>rw[h4] at h;cases h
    | true=>
     simp only[AcD,AcC] at h1 h2 h3 h4
     simp only[AcO,AcF]
     have hl:((s.drop 8).take (DC s)).length=DC s:=by simp;omega
     refine⟨by omega,by rw[hl],?_⟩
     rw[hl]
     unfold Cc
     rw[hl,Pk (by omega),h4,Pk (by simp;omega)]
     rw[Adb,Adb,← Adx,Ads]
     rw[show s.drop 8=(s.drop 4).drop 4 from by rw[Adx],Ads,Ads]
theorem KQ (l:List Ag):∀b∈l,8+b.length≤(l.flatMap Cc).length:=by
 induction l with
 | nil=>intro b hb;cases hb
 | cons c l ih=>
  intro b hb
  rw[Adr,AcK,DH]
  rcases List.mem_cons.1 hb with rfl | hb
  ·omega
  ·have:=ih b hb;omega
theorem RZ:(Db []).2.2=14:=rfl
theorem Ni:∀(l:List Ag) (n:Nat),(∀b∈l,b.length≤262136)→l.length≤n→B8 n (l.flatMap Cc)=(l,(l.flatMap Cc).length)
 | [],0,_,_=>rfl
 | [],n+1,_,_=>by
  rw[B8]
  show(bif decide ((Db []).2.2=0) then _ else _)=_
  rw[RZ];rfl
 | b::l,0,_,h=>by simp at h
 | b::l,n+1,hb,h=>by
  simp only[AcE] at h
  rw[B8,Adr,Vv (hb b (by simp))]
  have hd:(Cc b++l.flatMap Cc).drop (8+b.length)=l.flatMap Cc:=by rw[← DH b];simp
  simp only[decide_true,AcJ]
  rw[show(((8+b.length:Nat):Int)).toNat=8+b.length from by omega,hd,Ni l n (λx hx=>hb x (by simp[hx])) (by omega)]
  rw[AcK,DH]
theorem IG:∀(n:Nat) (s:Ag),(B8 n s).2≤s.length∧s.take (B8 n s).2=(B8 n s).1.flatMap Cc∧∀b∈(B8 n s).1,b.length≤262136
 | 0,s=>⟨Adn _,by simp[B8],λb hb=>by cases hb⟩
 | n+1,s=>by
  rw[B8]
  cases h:decide ((Db s).2.2=0) with
  | false=>exact⟨Adn _,by simp,λb hb=>by cases hb⟩
  | true=>
   simp only[AcJ]
   obtain⟨h1,h2,h3⟩:=LP (AcM h)
   generalize(Db s).1=b at *
   rw[h2,show(((8+b.length:Nat):Int)).toNat=8+b.length from by omega]
   obtain⟨g1,g2,g3⟩:=IG n (s.drop (8+b.length))
   generalize B8 n (s.drop (8+b.length))=t at *
   have hl:s.length=8+b.length+(s.drop (8+b.length)).length:=by
    have:=congrArg List.length h3
    rw[AcK,DH] at this;exact this
   refine⟨by omega,?_,λx hx=>?_⟩
   ·rw[Adr,← g2]
    conv=>lhs;rw[h3]
    rw[← DH b,List.take_length_add_append]
   ·rcases List.mem_cons.1 hx with rfl | hx
    ·exact h1
    ·exact g3 x hx
def Qb (l:List Ag):Ag×Int:=bif decide ((l.flatMap Cc).length≤262144) then(l.flatMap Cc,0) else([],3)
theorem Jn (s:Ag):Id (CM s)=s:=by
 unfold Id CM
 rw[Adz]
 have:((λx:Int=>UInt8.ofNat x.toNat) ∘ λc:UInt8=>(c.toNat:Int))=id:=by funext c;simp
 rw[this,List.map_id]
theorem Qx (a b:Ag):CM a++CM b=CM (a++b):=by simp[CM]
theorem Tc (a:Ag):(CM a).length=a.length:=by simp[CM]
theorem KL (n:Nat):IntKind.wrap .u8 (n:Int)=((UInt8.ofNat n).toNat:Int):=by
 simp[IntKind.wrap,IntKind.signed,IntKind.bits]
theorem Acn (n:Nat):BQ .i64 (n:Int) 8=((n/256:Nat):Int):=by
 unfold BQ
 have e:min (8:Int).toNat (IntKind.bits .i64)=8:=by decide
 rw[e,Int.fdiv_eq_ediv_of_nonneg _ (by decide)]
 simp
def MM (f:Ag):Ag:=UInt8.ofNat (f.length/256)::UInt8.ofNat (f.length % 256)::f
def LM (l:List Ag):Ag:=UInt8.ofNat l.length::l.flatMap MM
def Xt (l:List Ag):Bool:=decide (l.length≤64)&&l.all λf=>decide (f.length≤4000)
def Nn (l:List Ag):Ag×Int:=bif Xt l then(LM l,0) else([],3)
theorem PL (l:List Ag) (b:List Int×Int→Option (Stp (List Int×Int) (Out (Ag×Int) (List Int)))) (hl:l.length≤64)
  (hb:∀(acc:List Int) (x:Int) (f:Ag),acc.length≤300000→0≤x→x<(l.length:Int)→Am l x=f→b (acc,x)=bif decide (4000<f.length) then some (.out (.ret ([],3))) else some (.next (acc++CM (MM f),x+1)))
  (he:∀acc,b (acc,(l.length:Int))=some (.out (.go acc))) {F:Nat} (hF:64<F) :
  Bn (BF b F (CM [UInt8.ofNat l.length],0)) (B6 λq=>some (Id q,0))=some (Nn l):=by
 have key:∀(k:Nat) (F:Nat) (acc:Ag),k<F→k≤l.length→acc.length≤1+(l.length-k)*4002→
   Bn (BF b F (CM acc,((l.length-k:Nat):Int))) (B6 λq=>some (Id q,0))=some (bif (l.drop (l.length-k)).all (λf=>decide (f.length≤4000)) then(acc++(l.drop (l.length-k)).flatMap MM,0) else([],3)):=by
  intro k
  induction k with
  | zero=>
   intro F acc hF _ _
   cases F with
   | zero=>omega
   | succ F=>rw[BF,Nat.sub_zero,he];simp[Bn,B6,Jn]
  | succ k ih=>
   intro F acc hF hk hacc
   cases F with
   | zero=>omega
   | succ F=>
    have hlt:l.length-(k+1)<l.length:=by omega
    have hat:Am l ((l.length-(k+1):Nat):Int)=l[l.length-(k+1)]:=by simp[Am,hlt]
    have hd:l.drop (l.length-(k+1))=l[l.length-(k+1)]::l.drop (l.length-k):=by
     rw[List.drop_eq_getElem_cons hlt];congr 2;omega
    have ha:(l.length-(k+1))*4002≤64*4002:=Nat.mul_le_mul_right _ (by omega)
    rw[BF,hb _ _ _ (by rw[Tc];omega) (by omega) (by omega) hat,hd]
    generalize l[l.length-(k+1)]=f at *
    cases h4:decide (4000<f.length) with
    | true=>
     simp only[AcC] at h4
     rw[Adm,AcG (by omega),AcT];rfl
    | false=>
     simp only[AcD] at h4
     have e2:(l.length-(k+1))*4002+4002=(l.length-k)*4002:=by
      rw[show l.length-k=l.length-(k+1)+1 from by omega,Nat.succ_mul]
     have:=ih F (acc++MM f) (by omega) (by omega) (by simp[MM];omega)
     rw[show((l.length-(k+1):Nat):Int)+1=((l.length-k:Nat):Int) from by omega]
     simp only[AcF,Qx]
     rw[this,Adm,AcI (by omega),AcN,Adr,Adb]
 have:=key l.length F [UInt8.ofNat l.length] (by omega) (Adf _) (by simp)
 simp only[Nat.sub_self,List.drop_zero] at this
 refine Eq.trans this ?_
 unfold Nn Xt LM
 rw[AcI hl,AcN];rfl
theorem ES {α:Type} {n:Nat} {x:Option α} (h:n≤1000000000):AN (Dw 1 n) x=x:=B3 (AcI (by omega))
theorem GN {α:Type} {n:Nat} {x:Option α} (h:n≤1000000000):AN (Dw 16 n) x=x:=B3 (AcI (by omega))
theorem Nu (f:Ag):decide ((4000:Int)<(f.length:Int))=decide (4000<f.length):=by rw[Bool.eq_iff_iff];simp;omega
theorem S6 {F:Nat} {l:List Ag} (hF:64<F):Qi F l=some (Nn l):=by
 unfold Qi
 by_cases ha:l.length≤64
 ·rw[Ay (AcG (by omega)),KL]
  refine PL l _ ha (λacc x f hacc h0 hx hat=>?_) (λacc=>?_) hF
  ·show GY l acc x=_
   unfold GY
   rw[AA (AcI hx),AT h0 hx,hat,Nu]
   cases h4:decide (4000<f.length) with
   | true=>rfl
   | false=>
    simp only[AcD] at h4
    have e1:([IntKind.wrap .u8 (BQ .i64 (f.length:Int) 8),IntKind.wrap .u8 (f.length:Int)]:List Int)++CM f=CM (MM f):=by
     rw[Acn,KL,KL];simp[CM,MM]
    rw[Ay rfl,ES (by simp;omega),ES (by simp;omega),A1 (by omega) (by omega),Adb,e1];rfl
  ·show GY l acc _=_
   unfold GY
   rw[Ay (AcG (by omega))]
 ·rw[AA (AcI (by omega))]
  unfold Nn Xt
  rw[AcG ha];rfl
theorem PI {F:Nat} {l:List Ag} (hF:64<F):JL F l=some (Nn l):=by
 unfold JL
 by_cases ha:l.length≤64
 ·rw[Ay (AcG (by omega)),KL]
  refine PL l _ ha (λacc x f hacc h0 hx hat=>?_) (λacc=>?_) hF
  ·show Gn l acc x=_
   unfold Gn
   rw[AA (AcI hx),AT h0 hx,hat,Nu]
   cases h4:decide (4000<f.length) with
   | true=>rfl
   | false=>
    simp only[AcD] at h4
    have ed:Int.tdiv (f.length:Int) 256=((f.length/256:Nat):Int):=by rw[Int.tdiv_eq_ediv_of_nonneg (by omega)];rfl
    have em:Int.tmod (f.length:Int) 256=((f.length % 256:Nat):Int):=by rw[Int.tmod_eq_emod_of_nonneg (by omega)];rfl
    have e1:([IntKind.wrap .u8 (Int.tdiv (f.length:Int) 256),IntKind.wrap .u8 (Int.tmod (f.length:Int) 256)]:List Int)++CM f=CM (MM f):=by
     rw[ed,em,KL,KL];simp[CM,MM]
    rw[Ay rfl,A1 (by rw[ed];omega) (by rw[ed];omega),ES (by simp;omega),ES (by simp;omega),A1 (by omega) (by omega),Adb,e1];rfl
  ·show Gn l acc _=_
   unfold Gn
   rw[Ay (AcG (by omega))]
 ·rw[AA (AcI (by omega))]
  unfold Nn Xt
  rw[AcG ha];rfl
def KX:Nat→Ag→List Ag→List Ag×Int
 | 0,s,acc=>bif decide (s=[]) then(acc,0) else([],13)
 | n+1,a::b::r,acc=>bif decide (4000<a.toNat*256+b.toNat) then([],13) else bif decide (r.length<a.toNat*256+b.toNat) then([],14) else KX n (r.drop (a.toNat*256+b.toNat)) (acc++[r.take (a.toNat*256+b.toNat)])
 | n+1,_,acc=>([],14)
def GH:Ag→List Ag×Int
 | []=>([],14)
 | c::s=>bif decide (64<c.toNat) then([],13) else KX c.toNat s []
theorem Acs (a b:UInt8):Jd .i64 (De .i64 (a.toNat:Int) 8) (b.toNat:Int)=((a.toNat*256+b.toNat:Nat):Int):=by
 have ha:=a.toNat_lt
 have hb:=b.toNat_lt
 have e0:De .i64 (a.toNat:Int) 8=((a.toNat*256:Nat):Int):=by
  unfold De
  have e:min (8:Int).toNat (IntKind.bits .i64)=8:=by decide
  rw[e,IntKind.wrap_i64];omega
 rw[e0]
 unfold Jd
 have h1:(BitVec.ofInt (IntKind.bits .i64) ((a.toNat*256:Nat):Int)||| BitVec.ofInt (IntKind.bits .i64) (b.toNat:Int)).toNat=a.toNat*256+b.toNat:=by
  rw[BitVec.toNat_or,BitVec.toNat_ofInt,BitVec.toNat_ofInt]
  have hbits:IntKind.bits .i64=64:=rfl
  rw[hbits]
  have e1:(((a.toNat*256:Nat):Int) % ((2 ^ 64:Nat):Int)).toNat=a.toNat*256:=by omega
  have e2:(((b.toNat:Nat):Int) % ((2 ^ 64:Nat):Int)).toNat=b.toNat:=by omega
  rw[e1,e2,show a.toNat*256=a.toNat <<< 8 from by rw[Nat.shiftLeft_eq]]
  rw[Nat.shiftLeft_add_eq_or_of_lt (by simpa using hb)]
 rw[h1,IntKind.wrap_i64];omega
theorem Abq (a:UInt8) (r:Ag):AK (a::r) 0=(a.toNat:Int):=rfl
theorem Acu (a b:UInt8) (r:Ag):AK (a::b::r) 1=(b.toNat:Int):=rfl
theorem Ys (s:Ag) (c:UInt8) (hs:AK s 0=(c.toNat:Int)):∀(k:Nat) (F:Nat) (t:Ag) (acc:List Ag) (z i:Int),k<F→i+k=(c.toNat:Int)→0≤i→acc.length≤64-k→k≤64→t.length≤1000000000→
  Bn (BF (λσ=>CL s σ.1 σ.2.1 σ.2.2.1 σ.2.2.2) F (t,acc,z,i)) (B6 λν=>Gc ν.1 ν.2)=some (KX k t acc)
 | k,0,t,acc,z,i,h,_,_,_,_,_=>by omega
 | 0,F+1,t,acc,z,i,hF,hi,h0,ha,hk,ht=>by
  rw[BF]
  have hb:CL s t acc z i=some (.out (.go (t,acc))):=by
   unfold CL;rw[Ay (AcG (by omega))]
  simp only[hb]
  show Gc t acc=_
  unfold Gc KX
  cases h:decide (t=[]) with
  | true=>rw[Ay (p:=!true) rfl,BS (by omega) (Ade _)];simp
  | false=>rfl
 | k+1,F+1,t,acc,z,i,hF,hi,h0,ha,hk,ht=>by
  rw[BF]
  have hcc:=c.toNat_lt
  match t,ht with
  | [],ht=>
   have hb:CL s [] acc z i=some (.out (.ret ([],14))):=by
    unfold CL;rw[AA (AcI (by omega)),AA (by decide)];rfl
   simp only[hb];rfl
  | [a],ht=>
   have hb:CL s [a] acc z i=some (.out (.ret ([],14))):=by
    unfold CL;rw[AA (AcI (by omega)),AA (by simp)];rfl
   simp only[hb];rfl
  | a::b::r,ht=>
   have haa:=a.toNat_lt
   have hbb:=b.toNat_lt
   simp only[AcE] at ht
   have hd:List.drop (Int.toNat 2) (a::b::r)=r:=rfl
   have hb:CL s (a::b::r) acc z i=bif decide (4000<a.toNat*256+b.toNat) then some (.out (.ret ([],13))) else bif decide (r.length<a.toNat*256+b.toNat) then some (.out (.ret ([],14))) else some (.next (r.drop (a.toNat*256+b.toNat),acc++[r.take (a.toNat*256+b.toNat)],((a.toNat*256+b.toNat:Nat):Int),i+1)):=by
    unfold CL
    rw[AA (AcI (by omega)),Ay (AcG (by simp only[AcE];omega)),Abq,Acu,hd,Acs]
    have hlen:((a::b::r).length:Int)=(r.length:Int)+2:=by simp only[AcE];omega
    rw[hlen,AT (by omega) (by omega),A1 (by omega) (by omega),AT (by omega) (by omega),A1 (by omega) (by omega),BS (by omega) (by omega)]
    generalize a.toNat*256+b.toNat=m
    rw[show decide ((4000:Int)<(m:Int))=decide (4000<m) from by rw[Bool.eq_iff_iff];simp;omega,show decide ((r.length:Int)<(m:Int))=decide (r.length<m) from by rw[Bool.eq_iff_iff];simp]
    cases h1:decide (4000<m) with
    | true=>rfl
    | false=>
     cases h2:decide (r.length<m) with
     | true=>rfl
     | false=>
      simp only[AcD] at h1 h2
      rw[Ay rfl,Ay rfl,BS (by omega) (by omega),GN (by simp;omega),A1 (by omega) (by omega)];rfl
   simp only[hb]
   rw[KX]
   cases h1:decide (4000<a.toNat*256+b.toNat) with
   | true=>rfl
   | false=>
    cases h2:decide (r.length<a.toNat*256+b.toNat) with
    | true=>rfl
    | false=>
     simp only[AcF]
     exact Ys s c hs k F _ _ _ _ (by omega) (by omega) (by omega) (by simp;omega) (by omega) (by simp;omega)
theorem T5 {F:Nat} {s:Ag} (hF:64<F) (hs:s.length≤1000000000):Mj F s=some (GH s):=by
 unfold Mj
 cases s with
 | nil=>rfl
 | cons c t=>
  have hc:=c.toNat_lt
  simp only[AcE] at hs
  rw[Ay (by simp),AT (by omega) (by simp only[AcE];omega),Abq,A1 (by omega) (by omega),BS (by omega) (by simp only[AcE];omega)]
  rw[show decide ((64:Int)<(c.toNat:Int))=decide (64<c.toNat) from by rw[Bool.eq_iff_iff];simp;omega]
  rw[GH]
  cases h:decide (64<c.toNat) with
  | true=>rfl
  | false=>
   simp only[AcD] at h
   rw[Ay rfl]
   exact Ys (c::t) c rfl c.toNat F t [] 0 0 (by omega) (by omega) (Ade 0) (by simp) (by omega) (by omega)
theorem Mr {s:Ag} {k:Nat} {a:UInt8} {r:Ag} (h:s.drop k=a::r):AK s (k:Int)=(a.toNat:Int):=by
 have:s[k]? =some a:=by rw[← List.head?_drop,h];rfl
 simp[AK,this]
theorem Tp {s:Ag} {c a b:UInt8} {r:Ag} {p:Nat} {acc:List Ag} {i:Int} (hs:AK s 0=(c.toNat:Int)) (hsl:s.length≤1000000000) (hd:s.drop p=a::b::r) (hi:i<(c.toNat:Int)) (h0:0≤i) (ha:acc.length≤64) :
  Cz s acc (p:Int) i=bif decide (4000<a.toNat*256+b.toNat) then some (.out (.ret ([],13))) else bif decide (r.length<a.toNat*256+b.toNat) then some (.out (.ret ([],14))) else some (.next (acc++[r.take (a.toNat*256+b.toNat)],((p+2+(a.toNat*256+b.toNat):Nat):Int),i+1)):=by
 have hcc:=c.toNat_lt
 have haa:=a.toNat_lt
 have hbb:=b.toNat_lt
 have hdl:(s.drop p).length=s.length-p:=Adv ..
 rw[hd] at hdl;simp only[AcE] at hdl
 have hd1:s.drop (p+1)=b::r:=by rw[← Adx,hd];rfl
 have hd2:s.drop (p+2)=r:=by rw[← Adx,hd];rfl
 have b1:AK s ((p:Int)+1)=(b.toNat:Int):=by rw[show(p:Int)+1=((p+1:Nat):Int) from by omega];exact Mr hd1
 unfold Cz
 rw[hs,AA (AcI hi),A1 (by omega) (by omega),Ay (AcG (by omega)),Mr hd,b1]
 have e1:(a.toNat:Int)*256+(b.toNat:Int)=((a.toNat*256+b.toNat:Nat):Int):=by omega
 rw[AT (by omega) (by omega),A1 (by omega) (by omega),A1 (by omega) (by omega),A1 (by omega) (by omega),AT (by omega) (by omega),A1 (by omega) (by omega),A1 (by omega) (by omega),e1]
 have hm2:a.toNat*256+b.toNat≤100000:=by omega
 generalize a.toNat*256+b.toNat=m at *
 have e2:(s.length:Int)-(p:Int)-2=(r.length:Int):=by omega
 have e3:(p:Int)+2+(m:Int)=((p+2+m:Nat):Int):=by omega
 have e4:Int.toNat ((p:Int)+2)=p+2:=by omega
 rw[e2,e3,e4,hd2,show decide ((4000:Int)<(m:Int))=decide (4000<m) from by rw[Bool.eq_iff_iff];simp;omega,show decide ((r.length:Int)<(m:Int))=decide (r.length<m) from by rw[Bool.eq_iff_iff];simp]
 cases h1:decide (4000<m) with
 | true=>rw[AA rfl,AcJ]
 | false=>
  rw[Ay rfl,AcF,A1 (by omega) (by omega)]
  cases h2:decide (r.length<m) with
  | true=>rw[AA rfl,AcJ]
  | false=>
   simp only[AcD] at h1 h2
   rw[Ay rfl,AcF,A1 (by omega) (by omega),A1 (by omega) (by omega),BS (by omega) (by omega),BS (by omega) (by omega),GN (by simp;omega),A1 (by omega) (by omega)]
   rw[show(((p+2+m:Nat):Int)).toNat-(p+2)=m from by omega]
theorem Zz (s:Ag) (c:UInt8) (hs:AK s 0=(c.toNat:Int)) (hsl:s.length≤1000000000) (k:Nat):∀(F:Nat) (p:Nat) (acc:List Ag) (i:Int),k<F→i+k=(c.toNat:Int)→0≤i→acc.length≤64-k→k≤64→p≤s.length→
  Bn (BF (λσ=>Cz s σ.1 σ.2.1 σ.2.2) F (acc,(p:Int),i)) (B6 λν=>Et s ν.1 ν.2)=some (KX k (s.drop p) acc):=by
 induction k with
 | zero=>
  intro F p acc i hF hi h0 ha hk hp
  obtain⟨F,rfl⟩:∃G,F=G+1:=⟨F-1,by omega⟩
  rw[BF]
  have hb:Cz s acc (p:Int) i=some (.out (.go (acc,(p:Int)))):=by
   unfold Cz;rw[Ay (AcG (by omega))]
  simp only[hb]
  show Et s acc p=_
  unfold Et KX
  rw[show decide ((p:Int)<(s.length:Int)) = !decide (s.drop p=[]) from by rw[Bool.eq_iff_iff];simp]
  cases h:decide (s.drop p=[])<;>rfl
 | succ k ih=>
  intro F p acc i hF hi h0 ha hk hp
  obtain⟨F,rfl⟩:∃G,F=G+1:=⟨F-1,by omega⟩
  rw[BF]
  have hcc:=c.toNat_lt
  have hdl:(s.drop p).length=s.length-p:=Adv ..
  match hd:s.drop p with
  | []=>
   rw[hd] at hdl;simp only[Adp] at hdl
   have hb:Cz s acc (p:Int) i=some (.out (.ret ([],14))):=by
    unfold Cz;rw[AA (AcI (by omega)),A1 (by omega) (by omega),AA (AcI (by omega))]
   simp only[hb];rfl
  | [a]=>
   rw[hd] at hdl;simp only[AcE,Adp] at hdl
   have hb:Cz s acc (p:Int) i=some (.out (.ret ([],14))):=by
    unfold Cz;rw[AA (AcI (by omega)),A1 (by omega) (by omega),AA (AcI (by omega))]
   simp only[hb];rfl
  | a::b::r=>
   have hd2:s.drop (p+2)=r:=by rw[← Adx,hd];rfl
   have hb:=Tp (acc:=acc) (i:=i) hs hsl hd (by omega) h0 (by omega)
   simp only[hb]
   rw[hd] at hdl;simp only[AcE] at hdl
   rw[KX]
   generalize a.toNat*256+b.toNat=m
   cases h1:decide (4000<m) with
   | true=>simp only[AcJ];rfl
   | false=>
    cases h2:decide (r.length<m) with
    | true=>simp only[AcJ,AcF];rfl
    | false=>
     simp only[AcD] at h1 h2
     simp only[AcF]
     have:=ih F (p+2+m) (acc++[r.take m]) (i+1) (by omega) (by omega) (by omega) (by rw[AcK];simp only[AcE,Adp];omega) (by omega) (by omega)
     rw[← Adx,hd2] at this
     exact this
theorem RP {F:Nat} {s:Ag} (hF:64<F) (hs:s.length≤1000000000):JK F s=some (GH s):=by
 unfold JK
 cases s with
 | nil=>rfl
 | cons c t=>
  have hc:=c.toNat_lt
  simp only[AcE] at hs
  rw[Ay (AcG (by simp;omega)),AT (by omega) (by simp only[AcE];omega),Abq]
  rw[show decide ((64:Int)<(c.toNat:Int))=decide (64<c.toNat) from by rw[Bool.eq_iff_iff];simp;omega]
  rw[GH]
  cases h:decide (64<c.toNat) with
  | true=>rfl
  | false=>
   simp only[AcD] at h
   rw[Ay rfl,A1 (by omega) (by omega)]
   exact Zz (c::t) c rfl (by simp;omega) c.toNat F 1 [] 0 (by omega) (by omega) (Ade 0) (by simp) (by omega) (by simp)
theorem P7:∀(l:List Ag) (acc:List Ag),(l.all λf=>decide (f.length≤4000))=true→KX l.length (l.flatMap MM) acc=(acc++l,0)
 | [],acc,_=>by simp[KX]
 | f::l,acc,h=>by
  simp only[Adm,AcH,AcC] at h
  rw[Adr,AcE]
  show KX (l.length+1) (UInt8.ofNat (f.length/256)::UInt8.ofNat (f.length % 256)::(f++l.flatMap MM)) acc=_
  rw[KX]
  have e:(UInt8.ofNat (f.length/256)).toNat*256+(UInt8.ofNat (f.length % 256)).toNat=f.length:=by
   simp only[UInt8.toNat_ofNat'];omega
  rw[e,AcG (by omega),AcG (by simp),AcF,AcF,List.take_left,List.drop_left,P7 l _ (by simpa using h.2)]
  simp
theorem W3 {l:List Ag} (h:Xt l=true):GH (LM l)=(l,0):=by
 unfold Xt at h
 simp only[AcH,AcC] at h
 unfold LM
 rw[GH]
 have e:(UInt8.ofNat l.length).toNat=l.length:=by simp only[UInt8.toNat_ofNat'];omega
 rw[e,AcG (by omega),AcF,P7 l [] h.2];rfl
theorem R5:∀(n:Nat) (s:Ag) (acc:List Ag) (q:List Ag),KX n s acc=(q,0)→∃l,q=acc++l∧l.length=n∧(l.all λf=>decide (f.length≤4000))=true∧l.flatMap MM=s
 | 0,s,acc,q,h=>by
  rw[KX] at h
  cases hs:decide (s=[]) with
  | true=>rw[hs] at h;simp only[AcJ,Prod.mk.injEq] at h;exact⟨[],by simp[h.1],rfl,rfl,by rw[AcM hs];rfl⟩
  | false=>rw[hs] at h;cases h
 | n+1,[],acc,q,h=>by have h2:(([]:List Ag),(14:Int))=(q,0):=h;cases h2
 | n+1,[a],acc,q,h=>by have h2:(([]:List Ag),(14:Int))=(q,0):=h;cases h2
 | n+1,a::b::r,acc,q,h=>by
  rw[KX] at h
  have ha:=a.toNat_lt
  have hb:=b.toNat_lt
  cases h1:decide (4000<a.toNat*256+b.toNat) with
  | true=>rw[h1] at h;cases h
  | false=>
   cases h2:decide (r.length<a.toNat*256+b.toNat) with
   | true=>rw[h1,h2] at h;cases h
   | false=>
    rw[h1,h2] at h
    simp only[AcF] at h
    simp only[AcD] at h1 h2
    obtain⟨l,e1,e2,e3,e4⟩:=R5 n _ _ _ h
    have hl:(r.take (a.toNat*256+b.toNat)).length=a.toNat*256+b.toNat:=by simp;omega
    refine⟨r.take (a.toNat*256+b.toNat)::l,by rw[e1];simp,by simp[e2],?_,?_⟩
    ·rw[Adm,e3,AcR,AcC,hl];omega
    ·rw[Adr,e4]
     unfold MM
     rw[hl]
     have x1:UInt8.ofNat ((a.toNat*256+b.toNat)/256)=a:=by
      apply UInt8.toNat_inj.1;simp only[UInt8.toNat_ofNat'];omega
     have x2:UInt8.ofNat ((a.toNat*256+b.toNat) % 256)=b:=by
      apply UInt8.toNat_inj.1;simp only[UInt8.toNat_ofNat'];omega
     rw[x1,x2]
     simp
theorem RY {s:Ag} {l:List Ag} (h:GH s=(l,0)):Xt l=true∧LM l=s:=by
 cases s with
 | nil=>cases h
 | cons c t=>
  rw[GH] at h
  cases h1:decide (64<c.toNat) with
  | true=>rw[h1] at h;cases h
  | false=>
   rw[h1] at h
   simp only[AcF] at h
   simp only[AcD] at h1
   obtain⟨l',e1,e2,e3,e4⟩:=R5 _ _ _ _ h
   simp only[Adh] at e1
   subst e1
   unfold Xt LM
   rw[e3,e4,e2,AcI (by omega)]
   exact⟨rfl,by simp⟩
theorem UT {s:Ag} {f:Ag} (h:f∈(GH s).1) (h0:(GH s).2=0):f.length≤4000:=by
 have:=(RY (s:=s) (l:=(GH s).1) (by rw[← h0])).1
 unfold Xt at this
 simp only[AcH,AcC,Adl] at this
 exact this.2 f h
def pre:Ag→Ag→Option Ag
 | [],s=>some s
 | c::w,d::s=>bif decide (c=d) then pre w s else none
 | _::_,[]=>none
def C6 (strict:Bool):Ag→Option (Ag×Ag)
 | []=>none
 | c::r=>
  bif decide (c=34) then some ([],r) else
  bif strict&&!Ku c then none else
  bif decide (c=92) then(match r with
   | []=>none
   | d::r'=>bif decide (d=34)||decide (d=92) then(match C6 strict r' with
    | none=>none
    | some (t,u)=>some (d::t,u)) else none)
  else(match C6 strict r with
   | none=>none
   | some (t,u)=>some (c::t,u))
def BU (c:UInt8):Bool:=decide (48≤c.toNat)&&decide (c.toNat≤57)
def BL:Ag→Ag×Ag
 | []=>([],[])
 | c::r=>bif BU c then(c::(BL r).1,(BL r).2) else([],c::r)
def Hx (d:Ag):Int:=d.foldl (λn c=>10*n+((c.toNat:Int)-48)) 0
def J7 (neg:Bool) (d:Ag):Int:=
 bif decide (18<d.length) then(bif neg then -2000000000000 else 2000000000000) else bif neg then -(Hx d) else Hx d
def DN (neg:Bool) (d:Ag):Bool:=!decide (d=[])&&!(decide (d.head? =some 48)&&(decide (1<d.length)||neg))
def Hz (s:Ag):Option (Fo×Ag):=
 let neg:=decide (s.head? =some 45)
 let r:=bif neg then s.tail else s
 bif DN neg (BL r).1 then some (.cell none ⟨3,J7 neg (BL r).1,[],0⟩ .nil,(BL r).2) else none
def lf (k i:Int) (t:Ag):Fo:=.cell none ⟨k,i,t,0⟩ .nil
def nd (m:Bool) (g:Fo):Fo:=bif decide (g.cnt=0) then .cell none ⟨bif m then 6 else 5,0,[],0⟩ .nil else .node none ⟨bif m then 6 else 5,0,[],(g.cnt:Int)⟩ g .nil
def Be (m:Bool):UInt8:=bif m then 125 else 93
def DD (strict m:Bool) (last:Option Ag) (s:Ag):Option (Option Ag×Ag):=
 bif m then(match s with
  | []=>none
  | c::r=>bif decide (c=34) then(match C6 strict r with
   | none=>none
   | some (k,u)=>bif strict&&!B1 true last (some k) then none else(match u with
    | []=>none
    | d::u'=>bif decide (d=58) then some (some k,u') else none)) else none)
 else some (none,s)
mutual
def Gb (strict:Bool):Nat→Ag→Option (Fo×Ag)
 | 0,_=>none
 | F+1,s=>
  match pre [110,117,108,108] s with
  | some r=>some (lf 1 0 [],r)
  | none=>match pre [116,114,117,101] s with
   | some r=>some (lf 2 1 [],r)
   | none=>match pre [102,97,108,115,101] s with
    | some r=>some (lf 2 0 [],r)
    | none=>match s with
     | []=>none
     | c::r=>
      bif decide (c=34) then(match C6 strict r with
       | none=>none
       | some (t,u)=>some (lf 4 0 t,u)) else
      bif decide (c=91)||decide (c=123) then(match r with
       | []=>none
       | d::r'=>bif decide (d=Be (decide (c=123))) then some (nd (decide (c=123)) .nil,r') else(match Dp strict F (decide (c=123)) none (d::r') with
        | none=>none
        | some (g,u)=>some (nd (decide (c=123)) g,u))) else
      Hz (c::r)
def Dp (strict:Bool):Nat→Bool→Option Ag→Ag→Option (Fo×Ag)
 | 0,_,_,_=>none
 | F+1,m,last,s=>
  match DD strict m last s with
  | none=>none
  | some (key,s1)=>match Gb strict F s1 with
   | none=>none
   | some (f,s2)=>match s2 with
    | []=>none
    | c::s3=>
     bif decide (c=Be m) then some (f.put key .nil,s3) else
     bif decide (c=44) then(match Dp strict F m key s3 with
      | none=>none
      | some (g,u)=>some (f.put key g,u)) else none
end
theorem D5 (strict:Bool) (F:Nat) (s:Ag):Gb strict (F+1) s =
  match pre [110,117,108,108] s with
  | some r=>some (lf 1 0 [],r)
  | none=>match pre [116,114,117,101] s with
   | some r=>some (lf 2 1 [],r)
   | none=>match pre [102,97,108,115,101] s with
    | some r=>some (lf 2 0 [],r)
    | none=>match s with
     | []=>none
     | c::r=>
      bif decide (c=34) then(match C6 strict r with
       | none=>none
       | some (t,u)=>some (lf 4 0 t,u)) else
      bif decide (c=91)||decide (c=123) then(match r with
       | []=>none
       | d::r'=>bif decide (d=Be (decide (c=123))) then some (nd (decide (c=123)) .nil,r') else(match Dp strict F (decide (c=123)) none (d::r') with
        | none=>none
        | some (g,u)=>some (nd (decide (c=123)) g,u))) else
      Hz (c::r):=by
 rw[Gb.eq_def]
theorem Dl (strict:Bool) (F:Nat) (m:Bool) (last:Option Ag) (s:Ag):Dp strict (F+1) m last s =
  match DD strict m last s with
  | none=>none
  | some (key,s1)=>match Gb strict F s1 with
   | none=>none
   | some (f,s2)=>match s2 with
    | []=>none
    | c::s3=>
     bif decide (c=Be m) then some (f.put key .nil,s3) else
     bif decide (c=44) then(match Dp strict F m key s3 with
      | none=>none
      | some (g,u)=>some (f.put key g,u)) else none:=by
 rw[Dp.eq_def]
theorem Dg:∀{w s r:Ag},pre w s=some r→s=w++r
 | [],s,r,h=>by cases h;rfl
 | c::w,[],r,h=>by cases h
 | c::w,d::s,r,h=>by
  rw[pre] at h
  cases hc:decide (c=d) with
  | false=>rw[hc] at h;cases h
  | true=>
   rw[hc] at h
   simp only[AcC] at hc
   rw[hc,Dg h];rfl
theorem D0 (b:Bool) (c:UInt8) (r:Ag):C6 b (c::r) =
  bif decide (c=34) then some ([],r) else
  bif b&&!Ku c then none else
  bif decide (c=92) then(match r with
   | []=>none
   | d::r'=>bif decide (d=34)||decide (d=92) then(match C6 b r' with
    | none=>none
    | some (t,u)=>some (d::t,u)) else none)
  else(match C6 b r with
   | none=>none
   | some (t,u)=>some (c::t,u)):=by
 rw[C6.eq_def]
 cases r<;>rfl
theorem IF (b:Bool):∀(n:Nat) (s t u:Ag),s.length=n→C6 b s=some (t,u)→u.length<s.length:=by
 intro n
 induction n using Nat.strongRecOn with
 | ind n ih=>
  intro s t u hn h
  cases s with
  | nil=>cases h
  | cons c r=>
   simp only[AcE] at hn ⊢
   rw[D0] at h
   cases h1:decide (c=34) with
   | true=>rw[h1] at h;cases h;omega
   | false=>
    rw[h1] at h
    simp only[AcF] at h
    cases h2:(b&&!Ku c) with
    | true=>rw[h2] at h;cases h
    | false=>
     rw[h2] at h
     simp only[AcF] at h
     cases h3:decide (c=92) with
     | true=>
      rw[h3] at h
      cases r with
      | nil=>cases h
      | cons d r'=>
       simp only[AcJ] at h
       cases h4:(decide (d=34)||decide (d=92)) with
       | false=>rw[h4] at h;cases h
       | true=>
        rw[h4] at h
        simp only[AcJ] at h
        cases h5:C6 b r' with
        | none=>rw[h5] at h;cases h
        | some q=>
         obtain⟨t',u'⟩:=q
         rw[h5] at h;cases h
         simp only[AcE] at hn ⊢
         have:=ih r'.length (by omega) r' t' u rfl h5
         omega
     | false=>
      rw[h3] at h
      simp only[AcF] at h
      cases h5:C6 b r with
      | none=>rw[h5] at h;cases h
      | some q=>
       obtain⟨t',u'⟩:=q
       rw[h5] at h;cases h
       have:=ih r.length (by omega) r t' u rfl h5
       omega
theorem Io:∀s:Ag,s=(BL s).1++(BL s).2
 | []=>rfl
 | c::r=>by
  have:=Io r
  rw[BL]
  cases BU c with
  | true=>simp only[AcJ,List.cons_append];rw[← this]
  | false=>rfl
theorem ON {s u:Ag} {f:Fo} (h:Hz s=some (f,u)):u.length<s.length:=by
 unfold Hz at h
 simp only at h
 cases hc:DN (decide (s.head? =some 45)) (BL (bif decide (s.head? =some 45) then s.tail else s)).1 with
 | false=>rw[hc] at h;cases h
 | true=>
  rw[hc] at h
  simp only[AcJ,Option.some.injEq,Prod.mk.injEq] at h
  obtain⟨_,h⟩:=h
  have e:=congrArg List.length (Io (bif decide (s.head? =some 45) then s.tail else s))
  rw[AcK,h] at e
  have h1:0<(BL (bif decide (s.head? =some 45) then s.tail else s)).1.length:=by
   unfold DN at hc
   simp only[AcH,AcS,AcD] at hc
   exact List.length_pos_iff.2 hc.1
  have h2:(bif decide (s.head? =some 45) then s.tail else s).length≤s.length:=by
   cases decide (s.head? =some 45)<;>simp
  omega
theorem Sr {b m:Bool} {last key:Option Ag} {s u:Ag} (h:DD b m last s=some (key,u)):u.length≤s.length:=by
 unfold DD at h
 cases m with
 | false=>cases h;exact Adf _
 | true=>
  simp only[AcJ] at h
  cases s with
  | nil=>cases h
  | cons c r=>
   simp only at h
   cases h1:decide (c=34) with
   | false=>rw[h1] at h;cases h
   | true=>
    rw[h1] at h
    simp only[AcJ] at h
    cases h2:C6 b r with
    | none=>rw[h2] at h;cases h
    | some q=>
     obtain⟨k,w⟩:=q
     have:=IF b _ r k w rfl h2
     rw[h2] at h
     simp only at h
     cases h3:(b&&!B1 true last (some k)) with
     | true=>rw[h3] at h;cases h
     | false=>
      rw[h3] at h
      simp only[AcF] at h
      cases w with
      | nil=>cases h
      | cons d w'=>
       simp only at h
       cases h4:decide (d=58) with
       | false=>rw[h4] at h;cases h
       | true=>rw[h4] at h;cases h;simp only[AcE] at this ⊢;omega
theorem X8 (m:Bool) (g:Fo):(nd m g).one=true:=by
 unfold nd
 cases decide (g.cnt=0)<;>rfl
theorem XY {s u:Ag} {f:Fo} (h:Hz s=some (f,u)):f.one=true:=by
 unfold Hz at h
 simp only at h
 cases hc:DN (decide (s.head? =some 45)) (BL (bif decide (s.head? =some 45) then s.tail else s)).1 with
 | false=>rw[hc] at h;cases h
 | true=>rw[hc] at h;cases h;rfl
theorem DW (b:Bool):∀F:Nat,(∀s f u,Gb b F s=some (f,u)→u.length<s.length∧f.one=true)∧(∀m last s g u,Dp b F m last s=some (g,u)→u.length<s.length∧1≤g.cnt)
 | 0=>⟨(λs f u h=>by rw[Gb.eq_def] at h;cases h),(λm last s g u h=>by rw[Dp.eq_def] at h;cases h)⟩
 | F+1=>by
  obtain⟨ih1,ih2⟩:=DW b F
  constructor
  ·intro s f u h
   rw[D5] at h
   cases h1:pre [110,117,108,108] s with
   | some r=>rw[h1] at h;cases h;rw[Dg h1];exact⟨by simp;omega,rfl⟩
   | none=>
   rw[h1] at h;simp only at h
   cases h2:pre [116,114,117,101] s with
   | some r=>rw[h2] at h;cases h;rw[Dg h2];exact⟨by simp;omega,rfl⟩
   | none=>
   rw[h2] at h;simp only at h
   cases h3:pre [102,97,108,115,101] s with
   | some r=>rw[h3] at h;cases h;rw[Dg h3];exact⟨by simp;omega,rfl⟩
   | none=>
   rw[h3] at h;simp only at h
   cases s with
   | nil=>cases h
   | cons c r=>
   simp only at h
   cases h4:decide (c=34) with
   | true=>
    rw[h4] at h;simp only[AcJ] at h
    cases h5:C6 b r with
    | none=>rw[h5] at h;cases h
    | some q=>
     obtain⟨t,w⟩:=q
     rw[h5] at h;cases h
     have:=IF b _ r t u rfl h5
     exact⟨by simp only[AcE];omega,rfl⟩
   | false=>
   rw[h4] at h;simp only[AcF] at h
   cases h5:(decide (c=91)||decide (c=123)) with
   | false=>rw[h5] at h;simp only[AcF] at h;exact⟨ON h,XY h⟩
   | true=>
   rw[h5] at h;simp only[AcJ] at h
   cases r with
   | nil=>cases h
   | cons d r'=>
   simp only at h
   cases h6:decide (d=Be (decide (c=123))) with
   | true=>rw[h6] at h;cases h;exact⟨by simp only[AcE];omega,X8 _ _⟩
   | false=>
   rw[h6] at h;simp only[AcF] at h
   cases h7:Dp b F (decide (c=123)) none (d::r') with
   | none=>rw[h7] at h;cases h
   | some q=>
    obtain⟨g,w⟩:=q
    rw[h7] at h;cases h
    have:=(ih2 _ _ _ _ _ h7).1
    exact⟨by simp only[AcE] at this ⊢;omega,X8 _ _⟩
  ·intro m last s g u h
   rw[Dl] at h
   cases h1:DD b m last s with
   | none=>rw[h1] at h;cases h
   | some q=>
   obtain⟨key,s1⟩:=q
   have l1:=Sr h1
   rw[h1] at h;simp only at h
   cases h2:Gb b F s1 with
   | none=>rw[h2] at h;cases h
   | some q=>
   obtain⟨f,s2⟩:=q
   obtain⟨l2,o2⟩:=ih1 _ _ _ h2
   rw[h2] at h;simp only at h
   cases s2 with
   | nil=>cases h
   | cons c s3=>
   simp only[AcE] at l2
   have hput:∀r:Fo,1≤(f.put key r).cnt:=λr=>by
    cases f with
    | nil=>cases o2
    | cell _ _ _=>simp[Fo.put,Fo.cnt]
    | node _ _ _ _=>simp[Fo.put,Fo.cnt]
   simp only at h
   cases h3:decide (c=Be m) with
   | true=>rw[h3] at h;cases h;exact⟨by omega,hput _⟩
   | false=>
   rw[h3] at h;simp only[AcF] at h
   cases h4:decide (c=44) with
   | false=>rw[h4] at h;cases h
   | true=>
   rw[h4] at h;simp only[AcJ] at h
   cases h5:Dp b F m key s3 with
   | none=>rw[h5] at h;cases h
   | some q=>
    obtain⟨g',w⟩:=q
    rw[h5] at h;cases h
    have:=(ih2 _ _ _ _ _ h5).1
    exact⟨by omega,hput _⟩
def CF (acc:Nat) (d:Ag):Nat:=d.foldl (λn c=>10*n+(c.toNat-48)) acc
theorem IQ:∀(d:Ag) (a:Nat),a≤CF a d
 | [],a=>Adf _
 | c::d,a=>by
  have:=IQ d (10*a+(c.toNat-48))
  show a≤CF (10*a+(c.toNat-48)) d
  omega
theorem Si:∀(d:Ag) (a:Nat),1≤a→10 ^ d.length≤CF a d
 | [],a,h=>by simpa[CF] using h
 | c::d,a,h=>by
  have hm:∀(d:Ag) (a b:Nat),a≤b→CF a d≤CF b d:=by
   intro d
   induction d with
   | nil=>intro a b h;exact h
   | cons c d ih=>intro a b h;show CF (10*a+(c.toNat-48)) d≤CF (10*b+(c.toNat-48)) d;exact ih _ _ (by omega)
  have hs:∀(d:Ag) (a:Nat),10 ^ d.length*a≤CF a d:=by
   intro d
   induction d with
   | nil=>intro a;simp[CF]
   | cons c d ih=>
    intro a
    have:=ih (10*a+(c.toNat-48))
    show 10 ^ (d.length+1)*a≤CF (10*a+(c.toNat-48)) d
    refine Nat.le_trans ?_ this
    rw[Nat.pow_succ,Nat.mul_assoc]
    exact Nat.mul_le_mul_left _ (by omega)
  exact Nat.le_trans (Nat.le_mul_of_pos_right _ h) (hs (c::d) a)
theorem IP:∀(d:Ag) (a:Nat),d.all BU=true→d.foldl (λn c=>10*n+((c.toNat:Int)-48)) (a:Int)=(CF a d:Int)
 | [],a,_=>rfl
 | c::d,a,h=>by
  simp only[Adm,AcH] at h
  have hc:48≤c.toNat:=by have:=h.1;simp[BU] at this;omega
  have:=IP d (10*a+(c.toNat-48)) h.2
  show d.foldl _ (10*(a:Int)+((c.toNat:Int)-48))=(CF (10*a+(c.toNat-48)) d:Int)
  rw[← this]
  congr 1
  omega
theorem QD:∀(d:Ag) (a:Nat),d.all BU=true→Lib.parseUint10 a d = .ok (CF a d)∨(Lib.parseUint10 a d = .range∧1000000000000<CF a d)
 | [],a,_=>.inl rfl
 | c::d,a,h=>by
  simp only[Adm,AcH] at h
  have hc:48≤c.toNat∧c.toNat≤57:=by have:=h.1;simp[BU] at this;omega
  have hm:=IQ d (10*a+(c.toNat-48))
  have e:CF a (c::d)=CF (10*a+(c.toNat-48)) d:=rfl
  rw[e]
  unfold Lib.parseUint10
  rw[Adq hc]
  split
  ·exact .inr ⟨rfl,by omega⟩
  ·split
   ·exact .inr ⟨rfl,by omega⟩
   ·rw[show a*10+(c.toNat-48)=10*a+(c.toNat-48) from by omega]
    exact QD d _ h.2
theorem MU:∀(d:Ag) (i:Nat),Bt D7 i d=d.all BU
 | [],_=>rfl
 | c::d,i=>by
  rw[Bt,Adm,MU d]
  congr 1
  simp only[D7,BU]
  rw[Bool.eq_iff_iff]
  simp only[AcS,AcZ,AcD,AcH,AcC];omega
def Hn (neg:Bool) (d:Ag):Ag:=bif neg then 45::d else d
theorem Yc {d:Ag} (hd:d.all BU=true) : ¬ d.head? =some 45:=by
 cases d with
 | nil=>simp
 | cons c d=>
  simp only[Adm,AcH] at hd
  have:=hd.1
  intro e
  simp only[List.head?_cons,Option.some.injEq] at e
  subst e
  simp[BU] at this
theorem UY (s:Ag):Gy s=decide (s.head? =some 45):=by
 cases s with
 | nil=>rfl
 | cons c r=>
  have:AK (c::r) 0=c.toNat:=Dv rfl
  unfold Gy
  rw[this,Bool.eq_iff_iff]
  simp only[AcH,AcC,List.head?_cons,Option.some.injEq,← UInt8.toNat_inj,AcE]
  show _∧(c.toNat:Int)=45↔c.toNat=45
  omega
theorem Y2 {neg:Bool} {d:Ag} (hd:d.all BU=true):Dz (Hn neg d)=d:=by
 unfold Dz
 rw[UY]
 cases neg with
 | true=>rfl
 | false=>
  have:=Yc hd
  show(if decide (d.head? =some 45)=true then d.drop 1 else d)=d
  rw[Adj (by simpa using this)]
theorem Y6 {neg:Bool} {d:Ag} (hd:d.all BU=true):EQ (Hn neg d)=DN neg d:=by
 unfold EQ DN
 rw[Y2 hd,MU,hd,AcR]
 cases d with
 | nil=>simp
 | cons c r=>
  have hb:AK (c::r) 0=c.toNat:=Dv rfl
  have h1:decide (c::r=([]:Ag))=false:=by simp
  have h2:decide (AK (c::r) 0=48)=decide ((c::r).head? =some 48):=by
   rw[hb,Bool.eq_iff_iff]
   simp only[AcC,List.head?_cons,Option.some.injEq,← UInt8.toNat_inj]
   show(c.toNat:Int)=48↔c.toNat=48
   omega
  rw[h1,h2,AcQ,AcW,AcN]
  cases ha:decide ((c::r).head? =some 48) with
  | false=>rfl
  | true=>
   simp only[AcC,List.head?_cons,Option.some.injEq] at ha
   subst ha
   cases neg with
   | true=>simp[Hn]
   | false=>
    cases r with
    | nil=>simp[Hn]
    | cons a r=>simp[Hn]
theorem YI {neg:Bool} {d:Ag} (hd:d.all BU=true) (hne:d≠[]):Lib.atoiAll (Hn neg d)=(bif neg then Lib.signed (Lib.parseUint10 0 d) else Lib.signless (Lib.parseUint10 0 d)):=by
 cases neg with
 | true=>
  simp only[Hn,AcJ]
  rw[Lib.atoiAll_minus,Lib.parseMag,Adj hne]
 | false=>
  cases d with
  | nil=>exact absurd rfl hne
  | cons c r=>
   have hc:=hd
   simp only[Adm,AcH] at hc
   have ha:48≤c.toNat:=by have:=hc.1;simp[BU] at this;omega
   simp only[Hn,AcF]
   rw[Lib.atoiAll_plain c r (by omega) (by omega),Lib.parseMag,Adj hne]
theorem Vu {neg:Bool} {d:Ag} (hd:d.all BU=true):(DN neg d=false∧BA (Hn neg d)=1)∨(DN neg d=true∧Ca ⟨3,J7 neg d,[],0⟩=false∧BA (Hn neg d)=0∧AJ (Hn neg d)=J7 neg d)∨(DN neg d=true∧Ca ⟨3,J7 neg d,[],0⟩=true∧BA (Hn neg d)=2∧AJ (Hn neg d)=0):=by
 unfold BA AJ
 rw[Y6 hd]
 cases hc:DN neg d with
 | false=>exact .inl ⟨rfl,rfl⟩
 | true=>
  right
  have hc':=hc
  unfold DN at hc'
  simp only[AcH,AcS,AcD] at hc'
  have hne:=hc'.1
  rw[Adq rfl,Adq rfl,YI hd hne]
  have hnum:Hx d=(CF 0 d:Int):=IP d 0 hd
  have hbig:18<d.length→1000000000000<CF 0 d:=λhl=>by
   cases d with
   | nil=>simp at hl
   | cons c r=>
    have hc1:=hd
    simp only[Adm,AcH] at hc1
    have he:48≤c.toNat:=by have:=hc1.1;simp[BU] at this;omega
    have hne48 : ¬ c=48:=by
     intro e
     have:=hc'.2
     subst e
     simp only[AcE] at hl
     have h1r:1<r.length+1:=by omega
     simp[h1r] at this
    have hf:49≤c.toNat:=by
     have : ¬ c.toNat=48:=λe=>hne48 (UInt8.toNat_inj.1 (by rw[e];rfl))
     omega
    have:=Si r (10*0+(c.toNat-48)) (by omega)
    have ha:10 ^ 18≤10 ^ r.length:=Nat.pow_le_pow_right (by decide) (by simp at hl;omega)
    have e:CF 0 (c::r)=CF (10*0+(c.toNat-48)) r:=rfl
    rw[e]
    have:(1000000000000:Nat)<10 ^ 18:=by decide
    omega
  have hout:Ca ⟨3,J7 neg d,[],0⟩=decide (1000000000000<CF 0 d):=by
   unfold Ca J7
   rw[hnum]
   cases ha:decide (18<d.length) with
   | true=>
    simp only[AcC] at ha
    rw[AcI (hbig ha)]
    cases neg<;>rfl
   | false=>
    rw[Bool.eq_iff_iff]
    cases neg<;>simp<;>omega
  rw[hout]
  rcases QD d 0 hd with hu | ⟨hu,hg⟩
  ·rw[hu]
   cases hg:decide (1000000000000<CF 0 d) with
   | false=>
    simp only[AcD] at hg
    have ha:decide (18<d.length)=false:=by
     rw[AcD]
     intro h;have:=hbig h;omega
    refine .inl ⟨rfl,rfl,?_,?_⟩
    ·cases neg with
     | true=>simp only[AcJ,Lib.signed];rw[Adj (by omega)];simp only;rw[Adq (by unfold Dn;simp;omega)]
     | false=>simp only[AcF,Lib.signless];rw[Adj (by omega)];simp only;rw[Adq (by unfold Dn;simp;omega)]
    ·unfold J7
     rw[ha,hnum]
     cases neg with
     | true=>simp only[AcJ,AcF,Lib.signed];rw[Adj (by omega)];simp only;rw[Adq (by unfold Dn;simp;omega)]
     | false=>simp only[AcF,Lib.signless];rw[Adj (by omega)];simp only;rw[Adq (by unfold Dn;simp;omega)]
   | true=>
    simp only[AcC] at hg
    refine .inr ⟨rfl,rfl,?_,?_⟩
    ·cases neg with
     | true=>
      simp only[AcJ,Lib.signed]
      by_cases hb:9223372036854775808<CF 0 d
      ·rw[Adq hb]
      ·rw[Adj hb];simp only;rw[Adj (by unfold Dn;simp;omega)]
     | false=>
      simp only[AcF,Lib.signless]
      by_cases hb:9223372036854775808≤CF 0 d
      ·rw[Adq hb]
      ·rw[Adj hb];simp only;rw[Adj (by unfold Dn;simp;omega)]
    ·cases neg with
     | true=>
      simp only[AcJ,Lib.signed]
      by_cases hb:9223372036854775808<CF 0 d
      ·rw[Adq hb]
      ·rw[Adj hb];simp only;rw[Adj (by unfold Dn;simp;omega)]
     | false=>
      simp only[AcF,Lib.signless]
      by_cases hb:9223372036854775808≤CF 0 d
      ·rw[Adq hb]
      ·rw[Adj hb];simp only;rw[Adj (by unfold Dn;simp;omega)]
  ·rw[hu,AcI hg]
   refine .inr ⟨rfl,rfl,?_,?_⟩<;>cases neg<;>rfl
def Ea (u S:Ag):Prop:=∃p,S=p++u
theorem Ea.len {u S:Ag} (h:Ea u S):u.length≤S.length:=by obtain⟨p,rfl⟩:=h;simp
theorem Ea.tail {c:UInt8} {r S:Ag} (h:Ea (c::r) S):Ea r S:=by obtain⟨p,rfl⟩:=h;exact⟨p++[c],by simp⟩
theorem Ea.app {w r S:Ag} (h:Ea (w++r) S):Ea r S:=by obtain⟨p,rfl⟩:=h;exact⟨p++w,by simp⟩
theorem Ea.drop {u S:Ag} (h:Ea u S):S.drop (Int.toNat ((S.length:Int)-u.length))=u:=by
 obtain⟨p,rfl⟩:=h
 rw[show Int.toNat (((p++u).length:Int)-u.length)=p.length from by rw[AcK];omega,List.drop_left]
theorem Ea.get {c:UInt8} {r S:Ag} (h:Ea (c::r) S):S[(Int.toNat ((S.length:Int)-(c::r).length))]? =some c:=by
 have:=h.drop
 have h2:(S.drop (Int.toNat ((S.length:Int)-(c::r).length)))[0]? =some c:=by rw[this];rfl
 simpa using h2
def DK (S u:Ag) (cs:List Aa) (g:Bool):Aw:=⟨S,(S.length:Int)-u.length,cs,g⟩
theorem LL:∀(w r:Ag),pre w (w++r)=some r
 | [],r=>rfl
 | c::w,r=>by
  show(bif decide (c=c) then pre w (w++r) else none)=some r
  rw[AcI rfl];exact LL w r
theorem O6 (w s:Ag):(decide ((w.length:Int)≤(s.length:Int))&&decide (List.take (Int.toNat (w.length:Int)) s=w))=(pre w s).isSome:=by
 cases h:pre w s with
 | some r=>
  have:=Dg h
  subst this
  simp
  omega
 | none=>
  rw[Bool.eq_iff_iff]
  simp only[AcH,AcC,Option.isSome_none,Bool.false_eq_true,iff_false,not_and]
  intro hl e
  have:s=w++s.drop w.length:=by
   conv=>lhs;rw[← Ads w.length s]
   rw[show Int.toNat (w.length:Int)=w.length from by omega] at e
   rw[e]
  rw[this,LL] at h
  cases h
theorem Me (s w:Ag):HC s w=some (pre w s).isSome:=by
 unfold HC Ig
 rw[← O6]
 have:imp (decide ((w.length:Int)≤(s.length:Int))) (GJ (w.length:Int) (s.length:Int))=true:=by
  cases hd:decide ((w.length:Int)≤(s.length:Int)) with
  | false=>rfl
  | true=>simp only[imp];rw[ZN (by omega) (by simpa using hd)];rfl
 rw[B3 this];rfl
theorem Da {S u w:Ag} {cs:List Aa} {g:Bool} (hS:S.length≤100000) (h:Ea u S):Ej (DK S u cs g) w=match pre w u with
  | some r=>some (true,DK S r cs g)
  | none=>some (false,DK S u cs g):=by
 have hl:=h.len
 unfold Ej DK
 simp only
 rw[BS (by omega) (by omega),h.drop,Me,AG rfl]
 cases hp:pre w u with
 | none=>rfl
 | some r=>
  have e:=Dg hp
  have el:u.length=w.length+r.length:=by rw[e];simp
  rw[Ay (p:=!(some r).isSome) rfl,A1 (by omega) (by omega),show(S.length:Int)-u.length+w.length=S.length-r.length from by omega]
theorem Jm (c:UInt8) (u:Ag):pre [c] u=match u with
  | []=>none
  | d::r=>bif decide (d=c) then some r else none:=by
 cases u with
 | nil=>rfl
 | cons d r=>
  show(bif decide (c=d) then some r else none)=_
  have:decide (c=d)=decide (d=c):=by rw[Bool.eq_iff_iff];simp only[AcC];exact eq_comm
  rw[this]
theorem Xw (A:Ag):Id (CM A)=A:=by
 induction A with
 | nil=>rfl
 | cons c A ih=>
  show UInt8.ofNat (Int.toNat (c.toNat:Int))::Id (CM A)=c::A
  rw[ih,← (show UInt8.ofNat c.toNat=c from by simp)];simp
theorem Zt:∀(n:Nat) (s t u:Ag),s.length=n→C6 true s=some (t,u)→t.all Ku=true:=by
 intro n
 induction n using Nat.strongRecOn with
 | ind n ih=>
  intro s t u hn h
  cases s with
  | nil=>cases h
  | cons c r=>
   simp only[AcE] at hn
   rw[D0] at h
   cases h1:decide (c=34) with
   | true=>rw[h1] at h;cases h;rfl
   | false=>
    rw[h1] at h
    simp only[AcF,AcN] at h
    cases h2:Ku c with
    | false=>rw[h2] at h;cases h
    | true=>
     rw[h2] at h
     simp only[AcO,AcF] at h
     cases h3:decide (c=92) with
     | true=>
      rw[h3] at h
      cases r with
      | nil=>cases h
      | cons d r'=>
       simp only[AcJ] at h
       cases h4:(decide (d=34)||decide (d=92)) with
       | false=>rw[h4] at h;cases h
       | true=>
        rw[h4] at h
        simp only[AcJ] at h
        cases h5:C6 true r' with
        | none=>rw[h5] at h;cases h
        | some q=>
         obtain⟨t',u'⟩:=q
         rw[h5] at h;cases h
         simp only[AcE] at hn
         have:=ih r'.length (by omega) r' t' u rfl h5
         have hd:Ku d=true:=by
          simp only[Adi,AcC] at h4
          rcases h4 with e | e<;>subst e<;>rfl
         simp[hd,this]
     | false=>
      rw[h3] at h
      simp only[AcF] at h
      cases h5:C6 true r with
      | none=>rw[h5] at h;cases h
      | some q=>
       obtain⟨t',u'⟩:=q
       rw[h5] at h;cases h
       have:=ih r.length (by omega) r t' u rfl h5
       simp[h2,this]
theorem Z4 {c:UInt8}:(decide ((c.toNat:Int)<32)||decide (126<(c.toNat:Int))) = !Ku c:=by
 unfold Ku
 rw[Bool.eq_iff_iff]
 simp only[Adi,AcC,AcS,Adk,AcD];omega
theorem Qe (c:UInt8):decide ((c.toNat:Int)=34)=decide (c=34):=by
 rw[Bool.eq_iff_iff,decide_eq_true_iff,decide_eq_true_iff,← UInt8.toNat_inj]
 show _↔c.toNat=34
 omega
theorem Uu (c:UInt8):decide ((c.toNat:Int)=92)=decide (c=92):=by
 rw[Bool.eq_iff_iff,decide_eq_true_iff,decide_eq_true_iff,← UInt8.toNat_inj]
 show _↔c.toNat=92
 omega
theorem W8 (A:Ag) (c:UInt8):CM A++([(c.toNat:Int)]:List Int)=CM (A++[c]):=by simp[CM]
theorem UO {S:Ag} {cs:List Aa} {g b:Bool} {p:Int} (hS:S.length≤100000):∀(n L:Nat) (u A:Ag),u.length=n→Ea u S→n<L→A.length≤S.length-n→
  ∃o,BF (λσ=>EI (b,⟨S,p,cs,g⟩) σ.1 σ.2) L (CM A,(S.length:Int)-u.length)=some o∧((∃t w,C6 true u=some (t,w)∧Ea w S∧B6 (λν=>IB (b,⟨S,p,cs,g⟩) ν) o=some (A++t,true,DK S w cs g))∨(C6 true u=none∧∃q',B6 (λν=>IB (b,⟨S,p,cs,g⟩) ν) o=some ([],false,q'))):=by
 intro n
 induction n using Nat.strongRecOn with
 | ind n ih=>
  intro L u A hn hs hL hA
  obtain⟨L,rfl⟩:∃K,L=K+1:=⟨L-1,by omega⟩
  have hsl:=hs.len
  cases u with
  | nil=>
   have hgo:EI (b,⟨S,p,cs,g⟩) (CM A) ((S.length:Int)-([]:Ag).length)=some (.out (.go ((S.length:Int)-([]:Ag).length))):=by
    unfold EI
    rw[Ay (AcG (by simp))]
   exact⟨_,Dd hgo,.inr ⟨rfl,_,rfl⟩⟩
  | cons c r=>
   have hb:AK S ((S.length:Int)-(c::r).length)=c.toNat:=Dv hs.get
   have hpos:(S.length:Int)-(c::r).length+1=S.length-r.length:=by rw[AcE];omega
   simp only[AcE] at hn hsl
   have hlt:(S.length:Int)-(c::r).length<S.length:=by rw[AcE];omega
   have h0:0≤(S.length:Int)-(c::r).length:=by rw[AcE];omega
   have hb1:EI (b,⟨S,p,cs,g⟩) (CM A) ((S.length:Int)-(c::r).length)=Bd (decide (c=34)) (some (.out (.ret (A,true,DK S r cs g)))) (Bd (!Ku c) (some (.out (.ret ([],false,DK S r cs g)))) (Bd (decide (c=92)) (AN (imp (!(decide ((S.length:Int)≤S.length-r.length))) (Cu (S.length-r.length) (S.length:Int)))<|Bd (((decide ((S.length:Int)≤S.length-r.length))||((!decide ((AK S (S.length-r.length))=34))&&(!decide ((AK S (S.length-r.length))=92))))) (some (.out (.ret ([],false,DK S r cs g)))) (AN (Cu (S.length-r.length) (S.length:Int))<|AN (Bl .i64 (((S.length:Int)-r.length)+1))<|Gx (CM A) (AK S (S.length-r.length)) (((S.length:Int)-r.length)+1))) (Gx (CM A) (c.toNat:Int) ((S.length:Int)-r.length)))):=by
    unfold EI
    simp only
    rw[AA (AcI hlt),AT h0 hlt,hb,hpos,A1 (by omega) (by omega),Qe,Uu,Z4,Xw]
    rfl
   have hj:∀(x:UInt8) (y:Int),Gx (CM A) (x.toNat:Int) y=some (.next (CM (A++[x]),y)):=λx y=>by
    unfold Gx
    rw[Du (by simp[CM];omega),W8]
   rw[D0]
   cases h1:decide (c=34) with
   | true=>
    rw[h1] at hb1
    exact⟨.ret (A,true,DK S r cs g),Dd hb1,.inl ⟨[],r,rfl,hs.tail,by rw[LO,Adg]⟩⟩
   | false=>
    rw[h1,Ay rfl] at hb1
    simp only[AcF,AcN]
    cases h2:Ku c with
    | false=>
     rw[h2,AA (p:=!false) rfl] at hb1
     exact⟨_,Dd hb1,.inr ⟨rfl,_,rfl⟩⟩
    | true=>
     rw[h2,Ay (p:=!true) rfl] at hb1
     simp only[AcO,AcF]
     cases h3:decide (c=92) with
     | true=>
      rw[h3,AA rfl] at hb1
      cases r with
      | nil=>
       have e:decide ((S.length:Int)≤S.length-([]:Ag).length)=true:=by simp
       rw[e,B3 (p:=imp (!true) _) rfl,AA (p:=true||_) rfl] at hb1
       exact⟨_,Dd hb1,.inr ⟨rfl,_,rfl⟩⟩
      | cons d r'=>
       simp only[AcE] at hn hsl
       have hbd:AK S ((S.length:Int)-(d::r').length)=d.toNat:=Dv hs.tail.get
       have hlt2:(S.length:Int)-(d::r').length<S.length:=by rw[AcE];omega
       have ha:0≤(S.length:Int)-(d::r').length:=by rw[AcE];omega
       have hpos2:(S.length:Int)-(d::r').length+1=S.length-r'.length:=by rw[AcE];omega
       have e:decide ((S.length:Int)≤S.length-(d::r').length)=false:=AcG (by omega)
       rw[e,Md ha hlt2,hbd,hpos2,Qe,Uu,B3 (p:=imp (!false) true) rfl] at hb1
       simp only[AcJ]
       cases h4:(decide (d=34)||decide (d=92)) with
       | false=>
        have e4:(false||(!decide (d=34)&&!decide (d=92)))=true:=by rw[← Bool.not_or,h4];rfl
        rw[AA e4] at hb1
        exact⟨_,Dd hb1,.inr ⟨rfl,_,rfl⟩⟩
       | true=>
        have e4:(false||(!decide (d=34)&&!decide (d=92)))=false:=by rw[← Bool.not_or,h4];rfl
        rw[Ay e4,B3 rfl,A1 (by omega) (by omega),hj] at hb1
        obtain⟨o,ho1,ho2⟩:=ih r'.length (by omega) L r' (A++[d]) rfl hs.tail.tail (by omega) (by rw[ET];omega)
        refine⟨o,G8 hb1 ho1,?_⟩
        simp only[AcJ]
        rcases ho2 with⟨t,w,q1,q2,q3⟩ | ⟨q1,q2⟩
        ·rw[q1];exact .inl ⟨d::t,w,rfl,q2,by rw[q3];simp⟩
        ·rw[q1];exact .inr ⟨rfl,q2⟩
     | false=>
      rw[h3,Ay rfl,hj] at hb1
      obtain⟨o,ho1,ho2⟩:=ih r.length (by omega) L r (A++[c]) rfl hs.tail (by omega) (by rw[ET];omega)
      refine⟨o,G8 hb1 ho1,?_⟩
      simp only[AcF]
      rcases ho2 with⟨t,w,q1,q2,q3⟩ | ⟨q1,q2⟩
      ·rw[q1];exact .inl ⟨c::t,w,rfl,q2,by rw[q3];simp⟩
      ·rw[q1];exact .inr ⟨rfl,q2⟩
theorem Ry {F:Nat} {S u:Ag} {cs:List Aa} {g:Bool} (hS:S.length≤100000) (h:Ea u S) (hF:S.length<F) :
  (∃r t w,u=34::r∧C6 true r=some (t,w)∧Ea w S∧Og F (DK S u cs g)=some (t,true,DK S w cs g))∨((∀r,u=34::r→C6 true r=none)∧∃q',Og F (DK S u cs g)=some ([],false,q')):=by
 unfold Og
 rw[Da hS h,Jm]
 cases u with
 | nil=>exact .inr ⟨(λr e=>by cases e),_,rfl⟩
 | cons c r=>
  simp only
  cases hc:decide (c=34) with
  | false=>
   simp only[AcD] at hc
   exact .inr ⟨(λr' e=>by cases e;exact absurd rfl hc),_,rfl⟩
  | true=>
   simp only[AcC] at hc
   subst hc
   have hl:=h.len
   simp only[AcE] at hl
   simp only[AcJ]
   rw[AG rfl,Ay (p:=!true) rfl]
   obtain⟨o,ho1,ho2⟩:=UO (b:=true) (cs:=cs) (g:=g) (p:=(S.length:Int)-r.length) hS r.length F r [] rfl h.tail (by omega) (Adn _)
   have ho1':BF (λσ=>EI (true,DK S r cs g) σ.1 σ.2) F ([],(S.length:Int)-r.length)=some o:=ho1
   rw[show(true,DK S r cs g).2.fAt=(S.length:Int)-r.length from rfl,AG ho1']
   rcases ho2 with⟨t,w,q1,q2,q3⟩ | ⟨q1,q',q2⟩
   ·exact .inl ⟨r,t,w,rfl,q1,q2,q3⟩
   ·exact .inr ⟨(λr' e=>by cases e;exact q1),q',q2⟩
def CV (c:Aa):Aa:=bif Ca c then⟨3,0,[],0⟩ else c
theorem IY:∀s:Ag,(BL s).1.all BU=true
 | []=>rfl
 | c::r=>by
  rw[BL]
  cases h:BU c with
  | true=>simp only[AcJ,Adm,h,IY r];rfl
  | false=>rfl
theorem U5 {c:UInt8}:(decide (48≤(c.toNat:Int))&&decide ((c.toNat:Int)≤57))=BU c:=by
 unfold BU
 rw[Bool.eq_iff_iff]
 simp only[AcH,AcC];omega
theorem P5 {S:Ag} {cs:List Aa} {g b:Bool} {p:Int} (hS:S.length≤100000):∀(u:Ag) (L:Nat),Ea u S→u.length<L→
  BF (λσ=>EJ (b,⟨S,p,cs,g⟩) σ) L ((S.length:Int)-u.length)=some (.go ((S.length:Int)-(BL u).2.length))
 | [],L,hs,hL=>by
  obtain⟨L,rfl⟩:∃K,L=K+1:=⟨L-1,by omega⟩
  refine Dd ?_
  show EJ _ _=_
  unfold EJ
  have e:decide ((S.length:Int)-([]:Ag).length<(S.length:Int))=false:=by simp
  simp only
  rw[e,B3 (p:=imp false _) rfl,Ay (p:=false&&_) rfl];rfl
 | c::r,L,hs,hL=>by
  obtain⟨L,rfl⟩:∃K,L=K+1:=⟨L-1,by omega⟩
  have hsl:=hs.len
  have hb:AK S ((S.length:Int)-(c::r).length)=c.toNat:=Dv hs.get
  have hpos:(S.length:Int)-(c::r).length+1=S.length-r.length:=by rw[AcE];omega
  simp only[AcE] at hsl hL
  have hlt:(S.length:Int)-(c::r).length<S.length:=by rw[AcE];omega
  have h0:0≤(S.length:Int)-(c::r).length:=by rw[AcE];omega
  have hb1:EJ (b,⟨S,p,cs,g⟩) ((S.length:Int)-(c::r).length)=Bd (BU c) (some (.next ((S.length:Int)-r.length))) (some (.out (.go ((S.length:Int)-(c::r).length)))):=by
   unfold EJ
   simp only
   rw[AcI hlt,Md h0 hlt,B3 (p:=imp true true) rfl,hb,U5,hpos,A1 (by omega) (by omega),AcN]
  rw[BL]
  cases hd:BU c with
  | true=>
   rw[hd] at hb1
   exact G8 hb1 (P5 hS r L hs.tail (by omega))
  | false=>
   rw[hd] at hb1
   exact Dd hb1
theorem R0 {F:Nat} {S u:Ag} {cs:List Aa} {g:Bool} (hS:S.length≤100000) (h:Ea u S) (hF:S.length<F) (hcs:cs.length≤100000) :
  (∃f w,Hz u=some (f,w)∧Ea w S∧Oh F (DK S u cs g)=some (true,DK S w (cs++f.flat.map CV) (g||f.flat.any Ca)))∨(Hz u=none∧∃q',Oh F (DK S u cs g)=some (false,q')):=by
 have hl:=h.len
 have hneg:∃neg r b,neg=decide (u.head? =some 45)∧r=(bif neg then u.tail else u)∧Ej (DK S u cs g) [45]=some (b,DK S r cs g)∧u=(bif neg then 45::r else r):=by
  rw[Da hS h,Jm]
  cases u with
  | nil=>exact⟨false,[],false,rfl,rfl,rfl,rfl⟩
  | cons c r=>
   simp only[List.head?_cons,Option.some.injEq]
   cases hc:decide (c=45) with
   | true=>simp only[AcC] at hc;subst hc;exact⟨true,r,true,rfl,rfl,rfl,rfl⟩
   | false=>exact⟨false,c::r,false,rfl,rfl,rfl,rfl⟩
 obtain⟨neg,r,b,e1,e2,e3,e4⟩:=hneg
 have hr:Ea r S:=by
  rw[e4] at h
  cases neg with
  | true=>exact h.tail
  | false=>exact h
 have hrl:=hr.len
 have hd:=IY r
 have hsplit:=Io r
 have hlen:r.length=(BL r).1.length+(BL r).2.length:=by conv=>lhs;rw[hsplit,AcK]
 have hw:Ea (BL r).2 S:=by rw[hsplit] at hr;exact hr.app
 have hut:u=Hn neg (BL r).1++(BL r).2:=by
  rw[e4]
  cases neg with
  | true=>show 45::r=45::((BL r).1++(BL r).2);rw[← hsplit]
  | false=>exact hsplit
 have hul:u.length=(Hn neg (BL r).1).length+(BL r).2.length:=by conv=>lhs;rw[hut,AcK]
 have hslice:List.take (Int.toNat ((S.length:Int)-(BL r).2.length)-Int.toNat ((S.length:Int)-u.length)) (List.drop (Int.toNat ((S.length:Int)-u.length)) S)=Hn neg (BL r).1:=by
  rw[h.drop,show Int.toNat ((S.length:Int)-(BL r).2.length)-Int.toNat ((S.length:Int)-u.length)=(Hn neg (BL r).1).length from by omega]
  conv=>lhs;rw[hut]
  rw[List.take_left]
 have hlop:BF (λσ=>EJ (b,DK S r cs g) σ) F ((S.length:Int)-r.length)=some (.go ((S.length:Int)-(BL r).2.length)):=P5 hS r F hr (by omega)
 have hrun:Oh F (DK S u cs g)=Bd (((decide ((BA (Hn neg (BL r).1))=1))||(decide ((S.length:Int)-r.length=(S.length:Int)-(BL r).2.length)))) (some (false,DK S (BL r).2 cs g)) (some (true,DK S (BL r).2 (cs++[⟨3,AJ (Hn neg (BL r).1),[],0⟩]) (g||!decide (BA (Hn neg (BL r).1)=0)))):=by
  unfold Oh
  rw[e3,AG rfl,show(b,DK S r cs g).2.fAt=(S.length:Int)-r.length from rfl,AG hlop,CE]
  unfold JE
  rw[show(DK S u cs g).fAt=(S.length:Int)-u.length from rfl,show(b,DK S r cs g).2.fS=S from rfl,show(b,DK S r cs g).2.fAt=(S.length:Int)-r.length from rfl,BS (by omega) (by omega),BS (by omega) (by omega),hslice,Du (by omega),B3 (p:=Dw 40 _) (AcI (by
   show(cs.length+1)*40≤140737488355328
   omega))]
  rfl
 rw[hrun]
 unfold Hz
 simp only
 rw[← e1,← e2]
 rcases Vu (neg:=neg) hd with⟨p1,p2⟩ | ⟨p1,p2,p3,p4⟩ | ⟨p1,p2,p3,p4⟩
 ·rw[p1,p2];exact .inr ⟨rfl,_,rfl⟩
 ·have hne:(BL r).1≠[]:=by
   intro e
   rw[e] at p1
   cases neg<;>cases p1
  have hpos:0<(BL r).1.length:=List.length_pos_iff.2 hne
  rw[p1,p3,p4,AcG (show ¬ (S.length:Int)-r.length=(S.length:Int)-(BL r).2.length by omega)]
  refine .inl ⟨_,_,rfl,hw,?_⟩
  simp[Fo.flat,By,CV,p2,Bd]
 ·have hne:(BL r).1≠[]:=by
   intro e
   rw[e] at p1
   cases neg<;>cases p1
  have hpos:0<(BL r).1.length:=List.length_pos_iff.2 hne
  rw[p1,p3,p4,AcG (show ¬ (S.length:Int)-r.length=(S.length:Int)-(BL r).2.length by omega)]
  refine .inl ⟨_,_,rfl,hw,?_⟩
  simp[Fo.flat,By,CV,p2,Bd]
def WI (strict:Bool) (s:Ag):Option (Fo×Ag):=
 match pre [110,117,108,108] s with
 | some r=>some (lf 1 0 [],r)
 | none=>match pre [116,114,117,101] s with
  | some r=>some (lf 2 1 [],r)
  | none=>match pre [102,97,108,115,101] s with
   | some r=>some (lf 2 0 [],r)
   | none=>match s with
    | []=>none
    | c::r=>bif decide (c=34) then(match C6 strict r with
     | none=>none
     | some (t,u)=>some (lf 4 0 t,u)) else Hz (c::r)
theorem Xo (b:Bool) (F:Nat) {s:Ag} (h:∀c r,s=c::r→(decide (c=91)||decide (c=123))=false):Gb b (F+1) s=WI b s:=by
 rw[D5]
 unfold WI
 cases pre [110,117,108,108] s with
 | some r=>rfl
 | none=>
 cases pre [116,114,117,101] s with
 | some r=>rfl
 | none=>
 cases pre [102,97,108,115,101] s with
 | some r=>rfl
 | none=>
 cases s with
 | nil=>rfl
 | cons c r=>
  simp only
  rw[h c r rfl];rfl
theorem Rz {F:Nat} {S u:Ag} {cs:List Aa} {g:Bool} (hS:S.length≤100000) (h:Ea u S) (hF:S.length<F) (hcs:cs.length≤100000) :
  (∃f w,WI true u=some (f,w)∧Ea w S∧IC F (DK S u cs g)=some (true,DK S w (cs++f.flat.map CV) (g||f.flat.any Ca)))∨(WI true u=none∧∃q',IC F (DK S u cs g)=some (false,q')):=by
 have hA:∀c:Aa,Dw 40 (cs.length+([c]:List Aa).length)=true:=λc=>AcI (by show(cs.length+1)*40≤140737488355328;omega)
 unfold IC WI
 rw[Da hS h]
 cases h1:pre [110,117,108,108] u with
 | some r=>
  have hr:Ea r S:=by rw[Dg h1] at h;exact h.app
  refine .inl ⟨_,r,rfl,hr,?_⟩
  simp only
  rw[AG rfl,AA rfl]
  show AN (Dw 40 (cs.length+([⟨1,0,[],0⟩]:List Aa).length)) (some (true,DK S r (cs++[⟨1,0,[],0⟩]) g))=_
  rw[B3 (hA _)]
  simp[lf,Fo.flat,By,CV,Ca]
 | none=>
 simp only
 rw[AG rfl,Ay rfl,show(false,DK S u cs g).2=DK S u cs g from rfl,Da hS h]
 cases h2:pre [116,114,117,101] u with
 | some r=>
  have hr:Ea r S:=by rw[Dg h2] at h;exact h.app
  refine .inl ⟨_,r,rfl,hr,?_⟩
  simp only
  rw[AG rfl,AA rfl]
  show AN (Dw 40 (cs.length+([⟨2,1,[],0⟩]:List Aa).length)) (some (true,DK S r (cs++[⟨2,1,[],0⟩]) g))=_
  rw[B3 (hA _)]
  simp[lf,Fo.flat,By,CV,Ca]
 | none=>
 simp only
 rw[AG rfl,Ay rfl,show(false,DK S u cs g).2=DK S u cs g from rfl,Da hS h]
 cases h3:pre [102,97,108,115,101] u with
 | some r=>
  have hr:Ea r S:=by rw[Dg h3] at h;exact h.app
  refine .inl ⟨_,r,rfl,hr,?_⟩
  simp only
  rw[AG rfl,AA rfl]
  show AN (Dw 40 (cs.length+([⟨2,0,[],0⟩]:List Aa).length)) (some (true,DK S r (cs++[⟨2,0,[],0⟩]) g))=_
  rw[B3 (hA _)]
  simp[lf,Fo.flat,By,CV,Ca]
 | none=>
 have hl:=h.len
 simp only
 rw[AG rfl,Ay rfl,show(false,DK S u cs g).2=DK S u cs g from rfl,show(DK S u cs g).fAt=(S.length:Int)-u.length from rfl,show(DK S u cs g).fS=S from rfl,BS (by omega) (by omega),h.drop,Me,AG rfl,Jm]
 cases u with
 | nil=>
  simp only
  rw[Ay (p:=(none:Option Ag).isSome) rfl]
  rcases R0 (g:=g) hS h hF hcs with⟨f,w,q1,q2,q3⟩ | ⟨q1,q',q2⟩
  ·exact absurd (ON q1) (by simp)
  ·rw[q2];exact .inr ⟨trivial,_,rfl⟩
 | cons c r=>
  simp only
  cases hc:decide (c=34) with
  | true=>
   simp only[AcJ]
   rw[AA (p:=(some r).isSome) rfl]
   simp only[AcC] at hc
   subst hc
   rcases Ry (cs:=cs) (g:=g) hS h hF with⟨r',t,w,q1,q2,q3,q4⟩ | ⟨q1,q',q2⟩
   ·cases q1
    rw[q2,q4,AG rfl,Ay (p:=!true) rfl]
    refine .inl ⟨_,w,rfl,q3,?_⟩
    simp only
    show AN (Dw 40 (cs.length+([⟨4,0,t,0⟩]:List Aa).length)) (some (true,DK S w (cs++[⟨4,0,t,0⟩]) g))=_
    rw[B3 (hA _)]
    simp[lf,Fo.flat,By,CV,Ca]
   ·rw[q1 r rfl,q2,AG rfl]
    exact .inr ⟨rfl,_,rfl⟩
  | false=>
   simp only[AcF]
   rw[Ay (p:=(none:Option Ag).isSome) rfl]
   rcases R0 (g:=g) hS h hF hcs with⟨f,w,q1,q2,q3⟩ | ⟨q1,q',q2⟩
   ·rw[q3,AG rfl];exact .inl ⟨f,w,q1,q2,rfl⟩
   ·rw[q2,AG rfl];exact .inr ⟨q1,_,rfl⟩
theorem NK {f:Fo} (h:f.one=true) (key:Option Ag) (r:Fo):(f.put key r).cnt=r.cnt+1:=by
 cases f with
 | nil=>cases h
 | cell _ _ _=>rfl
 | node _ _ _ _=>rfl
theorem Jo (m:Bool) (g:Fo) (h:g.cnt=0→g = .nil):(nd m g).flat=⟨bif m then 6 else 5,0,[],(g.cnt:Int)⟩::g.flat:=by
 unfold nd
 cases hd:decide (g.cnt=0) with
 | true=>
  simp only[AcC] at hd
  rw[h hd];rfl
 | false=>simp[Fo.flat,By]
theorem Ip {g:Fo} (h:g.cnt=0):g = .nil:=by
 cases g with
 | nil=>rfl
 | cell _ _ _=>simp[Fo.cnt] at h
 | node _ _ _ _=>simp[Fo.cnt] at h
theorem PY {b m:Bool} {last key:Option Ag} {s u:Ag} (h:DD b m last s=some (key,u)):(By key).length+u.length≤s.length:=by
 unfold DD at h
 cases m with
 | false=>cases h;simp[By]
 | true=>
  simp only[AcJ] at h
  cases s with
  | nil=>cases h
  | cons c r=>
   simp only at h
   cases h1:decide (c=34) with
   | false=>rw[h1] at h;cases h
   | true=>
    rw[h1] at h
    simp only[AcJ] at h
    cases h2:C6 b r with
    | none=>rw[h2] at h;cases h
    | some q=>
     obtain⟨k,w⟩:=q
     have:=IF b _ r k w rfl h2
     rw[h2] at h
     simp only at h
     cases h3:(b&&!B1 true last (some k)) with
     | true=>rw[h3] at h;cases h
     | false=>
      rw[h3] at h
      simp only[AcF] at h
      cases w with
      | nil=>cases h
      | cons d w'=>
       simp only at h
       cases h4:decide (d=58) with
       | false=>rw[h4] at h;cases h
       | true=>rw[h4] at h;cases h;simp only[AcE,By,Adp] at this ⊢;omega
theorem Ew (b:Bool):∀F:Nat,(∀s f u,Gb b F s=some (f,u)→f.flat.length+u.length≤s.length)∧(∀m last s g u,Dp b F m last s=some (g,u)→g.flat.length+u.length+1≤s.length)
 | 0=>⟨(λs f u h=>by rw[Gb.eq_def] at h;cases h),(λm last s g u h=>by rw[Dp.eq_def] at h;cases h)⟩
 | F+1=>by
  obtain⟨ih1,ih2⟩:=Ew b F
  have lfl:∀k i t,(lf k i t).flat.length=1:=λ_ _ _=>rfl
  constructor
  ·intro s f u h
   rw[D5] at h
   cases h1:pre [110,117,108,108] s with
   | some r=>rw[h1] at h;cases h;rw[Dg h1,lfl];simp;omega
   | none=>
   rw[h1] at h;simp only at h
   cases h2:pre [116,114,117,101] s with
   | some r=>rw[h2] at h;cases h;rw[Dg h2,lfl];simp;omega
   | none=>
   rw[h2] at h;simp only at h
   cases h3:pre [102,97,108,115,101] s with
   | some r=>rw[h3] at h;cases h;rw[Dg h3,lfl];simp;omega
   | none=>
   rw[h3] at h;simp only at h
   cases s with
   | nil=>cases h
   | cons c r=>
   simp only at h
   cases h4:decide (c=34) with
   | true=>
    rw[h4] at h;simp only[AcJ] at h
    cases h5:C6 b r with
    | none=>rw[h5] at h;cases h
    | some q=>
     obtain⟨t,w⟩:=q
     rw[h5] at h;cases h
     have:=IF b _ r t u rfl h5
     rw[lfl];simp only[AcE];omega
   | false=>
   rw[h4] at h;simp only[AcF] at h
   cases h5:(decide (c=91)||decide (c=123)) with
   | false=>
    rw[h5] at h;simp only[AcF] at h
    have h6:=ON h
    have h7:f.flat.length=1:=by
     unfold Hz at h
     simp only at h
     cases hc:DN (decide ((c::r).head? =some 45)) (BL (bif decide ((c::r).head? =some 45) then(c::r).tail else c::r)).1 with
     | false=>rw[hc] at h;cases h
     | true=>rw[hc] at h;cases h;rfl
    omega
   | true=>
   rw[h5] at h;simp only[AcJ] at h
   cases r with
   | nil=>cases h
   | cons d r'=>
   simp only at h
   cases h6:decide (d=Be (decide (c=123))) with
   | true=>rw[h6] at h;cases h;rw[Jo _ _ Ip];simp[Fo.flat];omega
   | false=>
   rw[h6] at h;simp only[AcF] at h
   cases h7:Dp b F (decide (c=123)) none (d::r') with
   | none=>rw[h7] at h;cases h
   | some q=>
    obtain⟨g,w⟩:=q
    rw[h7] at h;cases h
    have:=ih2 _ _ _ _ _ h7
    rw[Jo _ _ Ip]
    simp only[AcE] at this ⊢;omega
  ·intro m last s g u h
   rw[Dl] at h
   cases h1:DD b m last s with
   | none=>rw[h1] at h;cases h
   | some q=>
   obtain⟨key,s1⟩:=q
   have l1:=PY h1
   rw[h1] at h;simp only at h
   cases h2:Gb b F s1 with
   | none=>rw[h2] at h;cases h
   | some q=>
   obtain⟨f,s2⟩:=q
   have l2:=ih1 _ _ _ h2
   have o2:=((DW b F).1 _ _ _ h2).2
   rw[h2] at h;simp only at h
   cases s2 with
   | nil=>cases h
   | cons c s3=>
   simp only[AcE] at l2
   simp only at h
   cases h3:decide (c=Be m) with
   | true=>rw[h3] at h;cases h;rw[Ev o2,AcK,AcK];simp only[Fo.flat,Adp];omega
   | false=>
   rw[h3] at h;simp only[AcF] at h
   cases h4:decide (c=44) with
   | false=>rw[h4] at h;cases h
   | true=>
   rw[h4] at h;simp only[AcJ] at h
   cases h5:Dp b F m key s3 with
   | none=>rw[h5] at h;cases h
   | some q=>
    obtain⟨g',w⟩:=q
    rw[h5] at h;cases h
    have:=ih2 _ _ _ _ _ h5
    rw[Ev o2,AcK,AcK];omega
theorem TN {α:Type} (xs D:List α) (a b:α):List.set (xs++a::D) (Int.toNat (xs.length:Int)) b=xs++b::D:=by
 rw[show Int.toNat (xs.length:Int)=xs.length from by omega,List.set_append_right _ _ (Adf _)];simp
theorem YK {α:Type} [Inhabited α] (xs D:List α) (a:α):Am (xs++a::D) (xs.length:Int)=a:=by simp[Am]
def VOk (F P:Nat) (S u:Ag) (cs:List Aa) (g:Bool):Prop:=
 (∃f w,Gb true P u=some (f,w)∧Ea w S∧C5 F (DK S u cs g)=some (true,DK S w (cs++f.flat.map CV) (g||f.flat.any Ca)))∨(Gb true P u=none∧∃q',C5 F (DK S u cs g)=some (false,q'))
abbrev LB2 (F:Nat) (x16:List Aa):Int×Ag×Int×List Aa×Bool→Option (Stp (Int×Ag×Int×List Aa×Bool) (Out (Bool×Aw) Unit)):=λσ=>EY (C5 F) x16 σ.1 σ.2.1 σ.2.2.1 σ.2.2.2.1 σ.2.2.2.2
abbrev LB3 (F:Nat) (x16:List Aa):Ag×Int×Ag×Int×List Aa×Bool→Option (Stp (Ag×Int×Ag×Int×List Aa×Bool) (Out (Bool×Aw) Unit)):=λσ=>EX F (C5 F) x16 σ.1 σ.2.1 σ.2.2.1 σ.2.2.2.1 σ.2.2.2.2.1 σ.2.2.2.2.2
def Wg (P:Nat) (m:Bool) (last:Option Ag) (S u:Ag) (x16 D:List Aa) (k:Int) (g:Bool) (o:Out (Bool×Aw) Unit):Prop:=
 (∃G w,Dp true P m last u=some (G,w)∧Ea w S∧o = .ret (true,DK S w (x16++⟨bif m then 6 else 5,0,[],k-1+(G.cnt:Int)⟩::(D++G.flat.map CV)) (g||G.flat.any Ca)))∨(Dp true P m last u=none∧∃q',o = .ret (false,q'))
theorem ZV (k:Option Ag):(By k).map CV=By k∧(By k).any Ca=false:=by
 cases k with
 | none=>exact⟨rfl,rfl⟩
 | some s=>exact⟨by simp[By,CV,Ca],by simp[By,Ca]⟩
theorem Wg.join {P:Nat} {m:Bool} {last key:Option Ag} {S u s1 s2:Ag} {x16 D:List Aa} {k:Int} {g:Bool} {o:Out (Bool×Aw) Unit} {f:Fo} (hk:DD true m last u=some (key,s1)) (hf:Gb true P s1=some (f,s2)) (ho:f.one=true)
  (h:(∃s3,s2=Be m::s3∧Ea s3 S∧o = .ret (true,DK S s3 (x16++⟨bif m then 6 else 5,0,[],k⟩::(D++(By key++f.flat.map CV))) (g||f.flat.any Ca)))∨(∃s3,s2=44::s3∧Wg P m key S s3 x16 (D++(By key++f.flat.map CV)) (k+1) (g||f.flat.any Ca) o)∨((∀c s3,s2=c::s3→decide (c=Be m)=false∧decide (c=44)=false)∧∃q',o = .ret (false,q'))):Wg (P+1) m last S u x16 D k g o:=by
 obtain⟨fk1,fk2⟩:=ZV key
 unfold Wg
 rw[Dl,hk]
 simp only[hf]
 have ha:decide ((44:UInt8)=Be m)=false:=by cases m<;>rfl
 rcases h with⟨s3,rfl,h1,h2⟩ | ⟨s3,rfl,h⟩ | ⟨h1,h2⟩
 ·simp only[decide_true,AcJ]
  refine .inl ⟨_,s3,rfl,h1,?_⟩
  rw[h2,NK ho,Ev ho]
  simp only[Fo.flat,Fo.cnt,Adg,List.map_append,List.any_append,fk1,fk2,AcQ]
  congr 6
  omega
 ·simp only[ha,AcF,decide_true,AcJ]
  rcases h with⟨G,w,q1,q2,q3⟩ | ⟨q1,q2⟩
  ·rw[q1]
   refine .inl ⟨_,w,rfl,q2,?_⟩
   rw[q3,NK ho,Ev ho]
   simp only[List.map_append,List.any_append,fk1,fk2,AcQ,Bool.or_assoc,Adb]
   congr 6
   omega
  ·rw[q1];exact .inr ⟨rfl,q2⟩
 ·refine .inr ⟨?_,h2⟩
  cases s2 with
  | nil=>rfl
  | cons c s3=>
   obtain⟨a,b⟩:=h1 c s3 rfl
   simp only[a,b,AcF]
end Go.Proofs.YtjfnokmpfekniaaGreatDoor
