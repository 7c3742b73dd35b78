/-
  Texts of the proof, put together: WFr, PTe, WTe, PTf, WTf, OkTimerRecovers, LvA, LvB, LvC, LvD, LvE, LvF, LvG, LvH, LvI, LvJ, LvK, LvL, LvM, LvN, LvO, LvP, LrA, LdA, LdB, LdC, LdD, LdE, LdF, LdG, LdH, LdI, LdJ, LdK, LtA, LrB, LtB, LtD, PO.
-/
import Derived.Test.YtmmbdclkpijkpaaGreatDoorTV3
import GoSem.ClaimData
namespace Go.Proofs.YtmmbdclkpijkpaaGreatDoor.Q
open Go Go.RowKit
set_option linter.unusedVariables false
set_option linter.unusedSimpArgs false
set_option maxRecDepth 100000
set_option maxHeartbeats 4000000
theorem Xu:∃inf,Tryz.prog.info? 9=some inf∧inf.zero=some (.string ⟨#[]⟩)∧inf.size=1∧inf.bytes=16:=by
  have key:(Tryz.prog.info? 9).map (λi=>(i.zero,i.size,i.bytes))=some (some (.string ⟨#[]⟩),1,16):=by kernel_rfl
  obtain⟨inf,h1,h2⟩:=Option.map_eq_some_iff.1 key;simp only[Prod.mk.injEq] at h2;exact⟨inf,h1,h2.1,h2.2.1,h2.2.2⟩
theorem V6 (F:Nat)(fields:(List Ae))(r:Ae×Int)(h:OR F fields=some r):Fn Tryz.prog GE 43 [Bz 1 (AG eS fields)] [] (λR H=>R=C0 [rS r.1,Ao r.2]∧H=[]):=by
 refine enter (n:=39) Tryz.func43 rfl Tryz.ntmps43 rfl (λw Z=>?_);unfold OR at h;refine Aj (wv (r:=rS ([]:Ae)) (Az rfl) (wa rfl (Aw (Ap (Aj (wm rfl (wv (BO (ys:=fields) (enc:=eS) GA rfl) (wv (Et rfl rfl) (Aw (cz h rfl (λc1 h2=>?_) (λc1 h3=>?_)))))))))))
 ·refine Aj (wv (r:=rS ([]:Ae)) (Az rfl) (wa rfl (Aw (A1 (Af ?_)))));obtain rfl:=A2 h2;exact A0 (Ie Tryz.results43 (AP rfl) (AP rfl)) sN ⟨rfl,rfl⟩
 ·refine A3 (AS (Aj (wm rfl (wv (BO (ys:=fields) (enc:=eS) GA rfl) (wv (r:=rI .u8 (IntKind.wrap .u8 (fields.length:Int))) (HC ⟨_,UC⟩ VN rfl) (Bo (ys:=([IntKind.wrap .u8 (fields.length:Int)]:List Int)) (enc:=Ba) (css:=[[rI .u8 (IntKind.wrap .u8 (fields.length:Int))]]) (xs:=[.tmp 12]) EE WY WX rfl rfl rfl ⟨Ja.one rfl (Up.refl _),trivial⟩ rfl D4 rfl rfl rfl (λb4=>?_)))))));refine wa rfl (Aw (Ap (Aj (wm rfl (wv (BO (ys:=fields) (enc:=eS) GA rfl) (wv (r:=Ao 0) (Am rfl) (Aw (AO (ob h3 λhk hl hi=>BH (S:=Nat×((List Int)×Int)×(Value)) (V:=((List Int))×(Value)) 0 (λσ=>Cs (λσ=>EB fields σ.1 σ.2) σ.1 σ.2.1=some hk) (λσ=>[(2,rS ([]:Ae)),(3,Ao 0),(4,rv σ.2.2),(14,Bz 1 (AG eS fields)),(15,Ao (fields.length:Int)),(16,Ao σ.2.1.2)]) (λσ=>[.row σ.2.2 5 1 (AG Ba σ.2.1.1)]) (λσ=>σ.1) (F,(([IntKind.wrap .u8 (fields.length:Int)]:List Int),0),(.slice (some ⟨b4,0,none⟩) 1 1)) hl (AD.c rfl (AD.c5 rfl rfl rfl rfl rfl AD.nil)) (sC sN) (λσ=>JK σ.1=some r) (λσ=>[(2,rS ([]:Ae)),(3,Ao 0),(4,rv σ.2)]) (λσ=>[.row σ.2 5 1 (AG Ba σ.1)]) ?_ ?_)))))))))
  ·rintro⟨h9,⟨hb,ha⟩,hg⟩ hm;refine Cn (l':=[(2,rS ([]:Ae)),(3,Ao 0),(4,rv hg),(14,Bz 1 (AG eS fields)),(15,Ao (fields.length:Int)),(16,Ao ha)]) (H':=[.row hg 5 1 (AG Ba hb)]) rfl rfl ?_;obtain⟨hn,rfl,ho,hd,hh⟩:=DY hm;replace hd:EB fields hb ha=some ho:=hd;unfold EB at hd;refine Aj (wv (E1 rfl rfl) (Aw (Ap (cz hd rfl (λhp hq=>?_) (λhp hr=>?_)))))
   ·refine A3 (AS (Ap (AO (Aj (ck hq λhs ht=>wv (Cv (enc:=eS) (ys:=fields) GA Df rfl rfl hs) (wv (CF D8 rfl rfl) (wa rfl (Aw (Ap (Aj (wm rfl (wv (Bp CA rfl) (wv (Et rfl rfl) (Aw (cz ht rfl (λc75 hu=>?_) (λc75 hw=>?_))))))))))))))))
    ·refine Aj (wv (r:=rS ([]:Ae)) (Az rfl) (wa rfl (Aw (A1 (Af (A6 (Af (Af (Bj ?_)))))))));have hx:=BB hu hh hi;refine A6 (Af ?_);obtain rfl:=A2 hx;exact A0 (Ie Tryz.results43 (AP rfl) (AP rfl)) (sS sN) ⟨rfl,rfl⟩
    ·refine A3 (AS (Aj (wm rfl (wm rfl (wv (Bp CA rfl) (wv (r:=Ao (IU .i64 ((Ar fields ha).length:Int) 8)) (Xi rfl rfl (by decide)) (wv (r:=rI .u8 (IntKind.wrap .u8 (IU .i64 ((Ar fields ha).length:Int) 8))) (HC ⟨_,UC⟩ VN rfl) (wm rfl (wv (Bp CA rfl) (wv (r:=rI .u8 (IntKind.wrap .u8 ((Ar fields ha).length:Int))) (HC ⟨_,UC⟩ VN rfl) (Bo (ys:=([IntKind.wrap .u8 (IU .i64 ((Ar fields ha).length:Int) 8),IntKind.wrap .u8 ((Ar fields ha).length:Int)]:List Int)) (enc:=Ba) (css:=[[rI .u8 (IntKind.wrap .u8 (IU .i64 ((Ar fields ha).length:Int) 8))],[rI .u8 (IntKind.wrap .u8 ((Ar fields ha).length:Int))]]) (xs:=[.tmp 27,.tmp 30]) EE WY WX rfl rfl rfl ⟨Ja.one rfl (Up.refl _),Ja.one rfl (Up.refl _),trivial⟩ rfl D4 rfl rfl rfl (λhA=>?_))))))))))));refine ck hw λhy hz=>Exists.elim LQ λinf hinf=>Cj (xs:=hb) (ys:=([IntKind.wrap .u8 (IU .i64 ((Ar fields ha).length:Int) 8),IntKind.wrap .u8 ((Ar fields ha).length:Int)]:List Int)) (enc:=Ba) (i:=1) EE hinf.1 hinf.2.1 hinf.2.2.1 hinf.2.2.2 rfl rfl rfl rfl rfl (Li.w (i:=0) rfl rfl) D4 Iq hy rfl (λv80=>?_);refine wa rfl (Aw (Ak (wm rfl (wm rfl (ck hz λh0 h1=>Exists.elim LQ λinf hinf=>Hc (xs:=hb++([IntKind.wrap .u8 (IU .i64 ((Ar fields ha).length:Int) 8),IntKind.wrap .u8 ((Ar fields ha).length:Int)]:List Int)) (i:=0) EE CA hinf.1 hinf.2.1 hinf.2.2.1 hinf.2.2.2 rfl rfl rfl h0 rfl (λh4=>?_))))));refine wa rfl (An (AK (AS (Ak (ck h1 λh5 h6=>wv (BQ rfl rfl h5) (wm rfl (An ?_)))))));have h7:=BD h6 hh;exact Au (AF (hn,((hb++([IntKind.wrap .u8 (IU .i64 ((Ar fields ha).length:Int) 8),IntKind.wrap .u8 ((Ar fields ha).length:Int)]:List Int))++CH (Ar fields ha),ha+1),h4) ⟨h7,YI _⟩ (AD.c rfl (AD.c5 rfl rfl rfl rfl rfl AD.nil)) (sC (sS sN)))
   ·refine BJ (AB ?_);have h8:=CY hr hh hi;exact AB (B4 (AF (hb,hg) h8 (AD.c rfl (AD.c rfl (AD.c rfl AD.nil))) (sC sN)))
  ·rintro⟨he,hj⟩ hf;refine Eh (l':=[(2,rS ([]:Ae)),(3,Ao 0),(4,rv hj)]) (H':=[.row hj 5 1 (AG Ba he)]) rfl rfl ?_;replace hf:JK he=some r:=hf;unfold JK at hf;refine Bt (AS (Aj (wm rfl (wv (r:=rS (Ph he)) (VT (xs:=he) (i:=0) EE CA VN rfl rfl) (wa rfl (wa rfl (Aw (A1 ?_))))))));obtain rfl:=A2 hf;exact A0 (Ie Tryz.results43 (AP rfl) (AP rfl)) (sS sN) ⟨rfl,rfl⟩
theorem Sc (F:Nat)(s:Ae)(r:(List Ae)×Int)(h:JJ F s=some r):Fn Tryz.prog GE 45 [rS s] [] (λR H=>R=C0 [Bz 1 (AG eS r.1),Ao r.2]∧H=[]):=by
 refine enter (n:=58) Tryz.func45 rfl Tryz.ntmps45 rfl (λw Z=>?_);unfold JJ at h;refine Aj (wa rfl (wa rfl (Aw (Mm (S:=(Int)×(Unit)) 0 (λσ=>CN σ.1=some r) (λσ=>[(2,rv (.slice none 0 0)),(3,Ao 0),(7,Ao σ.1)]) (λσ=>[]) rfl ?_ ?_))))
 ·refine Aj (wa rfl (B5 (wa rfl (wa rfl (B5 (wa rfl (Aw (Ap (Aj (wm rfl (wv (I7 rfl rfl) (Aw (cz h rfl (λhq hr=>?_) (λhq hs=>?_))))))))))))))
  ·exact HW (B3 (HU (AF (14,()) hr (AD.c rfl (AD.c rfl (AD.c rfl AD.nil))) sN)))
  ·refine A3 (AS (Ap (ck hs λht hu=>ck hu λhw hx=>ck hx λhy hz=>Hb 6 [0,2,3,4,6,7] [⟨[],rS s,none,none,none⟩,⟨[0],rI .u8 (Be s 0),none,none,none⟩,⟨[1],Ao (Be s 0),none,none,none⟩,⟨[],rS s,none,none,none⟩,⟨[3],rS (List.drop (Bh 1) s),none,none,none⟩,⟨[2],Ao (Be s 0),none,none,none⟩] ?_ (λβ=>?_))))
   ·refine E9 (Am rfl) (E9 (Bq CA rfl rfl ht) (E9 (Hg ⟨_,VN⟩ UC rfl hw) (E9 (Am rfl) (E9 (DL CA rfl rfl hy) (E9 (Az rfl) ?_)))));exact Ws
   refine H0 (H1:=[]) [10,11,12,13,14,5,0,2,3,4,6,7] ?_;refine wa rfl (Aw (Ap (Aj (wm rfl (wv (Et rfl rfl) (Aw (cz hz rfl (λc167 h0=>?_) (λc167 h1=>?_))))))))
   ·exact Aj (wa rfl (Aw (HW (B3 (HU (AF (13,()) h0 (AD.c rfl (AD.c rfl (AD.c rfl AD.nil))) sN))))))
   ·refine A3 (AS (Ap (Aj (wm rfl (wv (r:=Ao 0) (Am rfl) (Aw (AO (WC.nilrow (e:=9) (sz:=1) (ob h1 λh2 h3 hg=>BH (S:=Nat×(Ae×(List Ae)×Int×Int)×(Value)) (V:=(Ae×(List Ae))×(Value)) 0 (λσ=>Cs (λσ=>Cb s σ.1 σ.2.1 σ.2.2.1 σ.2.2.2) σ.1 σ.2.1=some h2) (λσ=>[(0,rS σ.2.1.1),(2,rv (.slice none 0 0)),(3,Ao 0),(4,rv σ.2.2),(6,Ao σ.2.1.2.2.1),(7,Ao 14),(17,Ao (Be s 0)),(18,Ao σ.2.1.2.2.2)]) (λσ=>[.row σ.2.2 9 1 (AG eS σ.2.1.2.1)]) (λσ=>σ.1) (F,(List.drop (Bh 1) s,([]:List Ae),0,0),(.slice none 0 0         )) h3 (AD.c rfl (AD.c rfl (AD.c rfl (AD.c5 rfl rfl rfl rfl rfl AD.nil)))) (sC sN) (λσ=>DP σ.1.1 σ.1.2=some r) (λσ=>[(0,rS σ.1.1),(2,rv (.slice none 0 0)),(3,Ao 0),(4,rv σ.2),(7,Ao 14)]) (λσ=>[.row σ.2 9 1 (AG eS σ.1.2)]) ?_ ?_)))))))))
    ·rintro⟨gt,⟨ha,hd,hl,hk⟩,v233⟩ h4;refine Cn (l':=[(0,rS ha),(2,rv (.slice none 0 0)),(3,Ao 0),(4,rv v233),(6,Ao hl),(7,Ao 14),(17,Ao (Be s 0)),(18,Ao hk)]) (H':=[.row v233 9 1 (AG eS hd)]) rfl rfl ?_;obtain⟨h5,rfl,h6,hh,hf⟩:=DY h4;replace hh:Cb s ha hd hl hk=some h6:=hh;unfold Cb at hh;refine Aj (wv (E1 rfl rfl) (Aw (Ap (cz hh rfl (λh7 h8=>?_) (λh7 h9=>?_)))))
     ·refine A3 (AS (Ap (AO (Ap (Aj (wm rfl (wv (Bp CA rfl) (wv (E1 rfl rfl) (Aw (cz h8 rfl (λhA hB=>?_) (λhA hC=>?_)))))))))))
      ·refine HW (B3 (Ew (B3 (B3 (H3 (Ew (B3 (HU (ob hB λgu hD hE=>?_)))))))));have hG:=BB hE hf hg;obtain rfl:=A2 hG;exact AF (14,()) hD (AD.c rfl (AD.c rfl (AD.c rfl AD.nil))) (sS sN)
      ·refine A3 (AS (Ap (ck hC λhH hI=>ck hI λhJ hK=>ck hK λhL hN=>ck hN λhO hP=>ck hP λhQ hR=>Hb 11 [0,2,3,4,7,17,18,19,20,21,22] [⟨[],rS ha,none,none,none⟩,⟨[0],rI .u8 (Be ha 0),none,none,none⟩,⟨[1],Ao (Be ha 0),none,none,none⟩,⟨[2],Ao (Eu .i64 (Be ha 0) 8),none,none,none⟩,⟨[],rS ha,none,none,none⟩,⟨[4],rI .u8 (Be ha 1),none,none,none⟩,⟨[5],Ao (Be ha 1),none,none,none⟩,⟨[3,6],Ao (KA .i64 (Eu .i64 (Be ha 0) 8) (Be ha 1)),none,none,none⟩,⟨[],rS ha,none,none,none⟩,⟨[8],rS (List.drop (Bh 2) ha),none,none,none⟩,⟨[7],Ao (KA .i64 (Eu .i64 (Be ha 0) 8) (Be ha 1)),none,none,none⟩] ?_ (λβ=>?_))))
       ·refine E9 (Am rfl) (E9 (Bq CA rfl rfl hH) (E9 (Hg ⟨_,VN⟩ UC rfl hJ) (E9 (Xj rfl rfl (by decide)) (E9 (Am rfl) (E9 (Bq CA rfl rfl hL) (E9 (Hg ⟨_,VN⟩ UC rfl hO) (E9 (XP rfl rfl) (E9 (Am rfl) (E9 (DL CA rfl rfl hQ) (E9 (Az rfl) ?_))))))))));exact Ws
       refine H0 (H1:=[.row v233 9 1 (AG eS hd)]) [23,24,25,26,27,28,29,30,31,32,6,0,2,3,4,7,17,18,19,20,21,22] ?_;refine wa rfl (Aw (Ap (Aj (wm rfl (wv (Et rfl rfl) (Aw (cz hR rfl (λhS hT=>?_) (λhS hU=>?_))))))))
       ·refine Aj (wa rfl (Aw (HW (B3 (Ew (B3 (B3 (H3 (Ew (B3 (HU (ob hT λgv hV hW=>?_))))))))))));have hX:=BB hW hf hg;obtain rfl:=A2 hX;exact AF (13,()) hV (AD.c rfl (AD.c rfl (AD.c rfl AD.nil))) (sS sN)
       ·refine A3 (AS (Ap (Aj (wm rfl (wv (Bp CA rfl) (wm rfl (wv (E1 rfl rfl) (Aw (cz hU rfl (λhY hZ=>?_) (λhY ga=>?_))))))))))
        ·refine HW (B3 (Ew (B3 (B3 (H3 (Ew (B3 (HU (ob hZ λgw gb gc=>?_)))))))));have gd:=BB gc hf hg;obtain rfl:=A2 gd;exact AF (14,()) gb (AD.c rfl (AD.c rfl (AD.c rfl AD.nil))) (sS sN)
        ·refine A3 (AS (ck ga λhm ge=>ck ge λgf gg=>Exists.elim Xu λinf hinf=>We 10 5 [0,2,3,6,7,17,18,20,21,22,23,24,25,26,27,28,29,30,31,32,33,34,35,36,37,38] [4] [{ deps:=[],r:=λ_=>rv v233,old:=[4] },{ deps:=[],r:=λ_=>rS (List.drop (Bh 2) ha) },{ deps:=[],r:=λ_=>Ao (KA .i64 (Eu .i64 (Be ha 0) 8) (Be ha 1)) },{ deps:=[1,2],r:=λ_=>rS (List.take (Bh (KA .i64 (Eu .i64 (Be ha 0) 8) (Be ha 1))) (List.drop (Bh 2) ha)) },{ deps:=[3],r:=λ_=>Bz 1 (AG eS ([List.take (Bh (KA .i64 (Eu .i64 (Be ha 0) 8) (Be ha 1))) (List.drop (Bh 2) ha)]:List Ae)) },{ deps:=[0,4],r:=λhb=>rv hb,dyn:=true },{ deps:=[],r:=λ_=>rS (List.drop (Bh 2) ha) },{ deps:=[],r:=λ_=>Ao (KA .i64 (Eu .i64 (Be ha 0) 8) (Be ha 1)) },{ deps:=[6,7],r:=λ_=>rS (List.drop (Bh (KA .i64 (Eu .i64 (Be ha 0) 8) (Be ha 1))) (List.drop (Bh 2) ha)) },{ deps:=[5],r:=λhb=>rv hb,dyn:=true }] (λhb=>[.row hb 9 1 (AG eS (hd++([List.take (Bh (KA .i64 (Eu .i64 (Be ha 0) 8) (Be ha 1))) (List.drop (Bh 2) ha)]:List Ae)))]) ?_ (λhb=>?_)))
         ·refine VQ (Am rfl) (VQ (Am rfl) (VQ (Am rfl) (VQ (IP CA rfl rfl hm) (Yj (G3 (ys:=([List.take (Bh (KA .i64 (Eu .i64 (Be ha 0) 8) (Be ha 1))) (List.drop (Bh 2) ha)]:List Ae)) (enc:=eS) (css:=[[rS (List.take (Bh (KA .i64 (Eu .i64 (Be ha 0) 8) (Be ha 1))) (List.drop (Bh 2) ha))]]) (xs:=[.tmp 42]) GA Df XF rfl rfl rfl ⟨Ja.one rfl (Up.refl _),trivial⟩ rfl ND rfl rfl) (Yh (SE (xs:=hd) (ys:=([List.take (Bh (KA .i64 (Eu .i64 (Be ha 0) 8) (Be ha 1))) (List.drop (Bh 2) ha)]:List Ae)) (enc:=eS) (i:=0) GA hinf.1 hinf.2.1 hinf.2.2.1 hinf.2.2.2 rfl rfl rfl rfl rfl (Li.z rfl rfl) ND WE gf) (VQ (Am rfl) (VQ (Am rfl) (VQ (DL CA rfl rfl hm) (VQ (fun {hb _}=>(Az rfl)) ?_)))))))));exact Yi
         refine H0 (H1:=[.row hb 9 1 (AG eS (hd++([List.take (Bh (KA .i64 (Eu .i64 (Be ha 0) 8) (Be ha 1))) (List.drop (Bh 2) ha)]:List Ae)))]) [39,40,41,42,43,44,45,46,47,4,0,2,3,6,7,17,18,20,21,22,23,24,25,26,27,28,29,30,31,32,33,34,35,36,37,38] ?_;refine wa rfl (An (AK (AS (Ak (ck gg λgh gi=>wv (BQ rfl rfl gh) (wm rfl (An ?_)))))));have gj:=BD gi hf;exact Au (AF (h5,(List.drop (Bh (KA .i64 (Eu .i64 (Be ha 0) 8) (Be ha 1))) (List.drop (Bh 2) ha),hd++([List.take (Bh (KA .i64 (Eu .i64 (Be ha 0) 8) (Be ha 1))) (List.drop (Bh 2) ha)]:List Ae),KA .i64 (Eu .i64 (Be ha 0) 8) (Be ha 1),hk+1),hb) ⟨gj,YI _⟩ (AD.c rfl (AD.c rfl (AD.c rfl (AD.c5 rfl rfl rfl rfl rfl AD.nil)))) (sC sN))
     ·refine BJ (AB ?_);have gl:=CY h9 hf hg;exact AB (B4 (AF ((ha,hd),v233) gl (AD.c5 rfl rfl rfl rfl rfl AD.nil) (sC sN)))
    ·rintro⟨⟨hn,he⟩,ho⟩ hi;refine Eh (l':=[(0,rS hn),(2,rv (.slice none 0 0)),(3,Ao 0),(4,rv ho),(7,Ao 14)]) (H':=[.row ho 9 1 (AG eS he)]) rfl rfl ?_;replace hi:DP hn he=some r:=hi;unfold DP at hi;refine Bt (AS (Ap (Aj (wm rfl (wv (J6 rfl rfl) (Aw (cz hi rfl (λgm gp=>?_) (λgm gq=>?_))))))))
     ·exact Aj (wa rfl (Aw (HW (B3 (HU (AF (13,()) gp (AD.c rfl (AD.c rfl (AD.c rfl AD.nil))) (sS sN)))))))
     ·refine A3 (AS (Ap (Aj (wm rfl (wm rfl (wv (BY (ys:=he) (enc:=eS) (i:=0) GA rfl rfl) (wm rfl (wv (BY (ys:=he) (enc:=eS) (i:=0) GA rfl rfl) (WL.freeze (i:=0) rfl (WL.up (d:=51) (r:=Bz 1 (AG eS he)) rfl (Up.fact (i:=0) rfl) (ck gq λgr gs=>wv (r:=Bz 1 (AG eS (List.take (Bh (he.length:Int)) he))) (O1 GA Df rfl rfl rfl gr) (wa rfl (wa rfl (Aw (A1 (Af (UJ ?_)))))))))))))))));obtain rfl:=A2 gs;exact A0 (Ie Tryz.results45 (AP rfl) (AP rfl)) (sS sN) ⟨rfl,rfl⟩
 ·rintro⟨hp,⟨⟩⟩ hj;refine Cn (l':=[(2,rv (.slice none 0 0)),(3,Ao 0),(7,Ao hp)]) (H':=[]) rfl rfl ?_;replace hj:CN hp=some r:=hj;unfold CN at hj;refine Ap (A3 (AS (Aj (wm rfl (wa rfl (wa rfl (Aw (A1 (HT (WK.up (d:=2) (r:=Bz 1 (AG eS ([]:List Ae))) rfl (Up.le (Ks.nil _)) ?_))))))))));obtain rfl:=A2 hj;exact A0 (Ie Tryz.results45 (AP rfl) (AP rfl)) sN ⟨rfl,rfl⟩
end Go.Proofs.YtmmbdclkpijkpaaGreatDoor.Q
namespace Go.Proofs.YtmmbdclkpijkpaaGreatDoor
open Go
set_option linter.unusedVariables false
def Ic (F:Nat)(t:Ad):Option (Ae×Int):=
 B0 (H7 F t) λr2=>Bw (!decide (r2=0)) (some (([]:Ae),r2)) (B0 (Jj F t.fBody) λr8=>Bw (!decide (r8.2=0)) (some (([]:Ae),r8.2)) (Bc (BT .i64 t.fAt)<|B0 (OR F ([t.fID,Lib.itoa t.fAt,t.fTenant,t.fSource,r8.1]:List Ae)) λha=>some (ha.1,ha.2)))
def Jp (F:Nat)(s:Ae):Option (Ad×Int):=
 B0 (JJ F s) λr2=>Bw (((!decide (r2.2=0))||(!decide ((r2.1.length:Int)=5)))) (some ((Ad.mk ([]:Ae) 0 ([]:Ae) ([]:Ae) ([]:List Aa)),13)) (Bc (Dt 1 (r2.1.length:Int))<|Bc (Ea 1 (Ar r2.1 1).length)<|Bc (Dt 4 (r2.1.length:Int))<|B0 (Jk F (Ar r2.1 4)) λha=>Bw (((!decide ((B1 (Ar r2.1 1))=0))||(!decide (ha.2=0)))) (some ((Ad.mk ([]:Ae) 0 ([]:Ae) ([]:Ae) ([]:List Aa)),13)) (Bc (Dt 0 (r2.1.length:Int))<|Bc (Dt 2 (r2.1.length:Int))<|Bc (Dt 3 (r2.1.length:Int))<|B0 (Ic F (Ad.mk (Ar r2.1 0) (Bn (Ar r2.1 1)) (Ar r2.1 2) (Ar r2.1 3) ha.1)) λhb=>Bw (((!decide (hb.2=0))||(!decide (hb.1=s)))) (some ((Ad.mk ([]:Ae) 0 ([]:Ae) ([]:Ae) ([]:List Aa)),13)) (some ((Ad.mk (Ar r2.1 0) (Bn (Ar r2.1 1)) (Ar r2.1 2) (Ar r2.1 3) ha.1),0))))
end Go.Proofs.YtmmbdclkpijkpaaGreatDoor
namespace Go.Proofs.YtmmbdclkpijkpaaGreatDoor.Q
open Go Go.RowKit
set_option linter.unusedVariables false
set_option linter.unusedSimpArgs false
set_option maxRecDepth 100000
set_option maxHeartbeats 4000000
theorem IR {n:Nat}{c:Cx}{l:Fr}{H:List Ent}{d:Option Nat}{ty:TypeId}{pos:String}{af:Array Edge}{g:Option (Nat×Bool)}:AZ Tryz.prog n c l H { dst:=d,op:=.build 31 #[],type:=ty,pos:=pos,after:=af,guard:=g } (Bm [rS ([]:Ae),Ao 0,rS ([]:Ae),rS ([]:Ae),rv (.slice none 0 0)]):=λa w Z ha _=>by
  have hb:Tryz.prog.built 31 []=some #[(.string ⟨#[]⟩),(.int .i64 0),(.string ⟨#[]⟩),(.string ⟨#[]⟩),((.slice none 0 0))]:=by
    rw[QU];simp[Instr.fill,Value.cells]
  refine⟨.agg #[(.string ⟨#[]⟩),(.int .i64 0),(.string ⟨#[]⟩),(.string ⟨#[]⟩),((.slice none 0 0))],⟨[(.string ⟨#[]⟩),(.int .i64 0),(.string ⟨#[]⟩),(.string ⟨#[]⟩),((.slice none 0 0))],rfl,rfl,rfl,rfl,rfl,rfl,trivial⟩,?_⟩;have:=run_build w 31 #[] _ (by simpa using hb);simp[execOp,this]
theorem M7 (F:Nat)(t:Ad)(r:Ae×Int)(h:Ic F t=some r):Fn Tryz.prog GE 19 [Bm (Ah t)] [] (λR H=>R=C0 [rS r.1,Ao r.2]∧H=[]):=by
 refine enter (n:=35) Tryz.func19 rfl Tryz.ntmps19 rfl (λw Z=>?_);unfold Ic at h;refine Aj (Cr rfl rfl (λb1=>?_));refine wv (r:=rS ([]:Ae)) (Az rfl) (wa rfl (Aw (Ap (Aj (wv (B2 (i:=0) EY Ci rfl rfl rfl rfl) (ob h λr2 e4 h3=>HX Tryz.call41 (Oj F t r2 e4) rfl (wa rfl (B5 (wm rfl (wv (D2 rfl rfl) (Aw (cz h3 rfl (λc5 h6=>?_) (λc5 h7=>?_)))))))))))))
 ·refine Aj (wm rfl (wv (r:=rS ([]:Ae)) (Az rfl) (wa rfl (Aw (A1 (Af ?_))))));obtain rfl:=A2 h6;exact A0 (Ie Tryz.results19 (AP rfl) (AP rfl)) (sS sN) ⟨rfl,rfl⟩
 ·refine A3 (AS (Aj (vF CC rfl CB (vL 0 EI rfl (ob h7 λr8 hb h9=>HX Tryz.call42 (Rl F t.fBody r8 hb) rfl (wm rfl (wv (AI rfl rfl) (wv (AI rfl rfl) (wa rfl (wa rfl (Aw (Ap (Aj (wm rfl (wv (D2 rfl rfl) (Aw (cz h9 rfl (λhd he=>?_) (λhd hf=>?_))))))))))))))))))
  ·refine Aj (wm rfl (wv (r:=rS ([]:Ae)) (Az rfl) (wa rfl (Aw (A1 (Af ?_))))));obtain rfl:=A2 he;exact A0 (Ie Tryz.results19 (AP rfl) (AP rfl)) (sS sN) ⟨rfl,rfl⟩
  ·refine A3 (AS (Ap (ck hf λhg hh=>ob hh λha hi hj=>Dh [1,5] [⟨[],rP b1 0,0⟩,⟨[0],rS t.fID,1⟩,⟨[],rP b1 1,0⟩,⟨[2],Ao t.fAt,1⟩,⟨[3],rS (Lib.itoa t.fAt),0⟩,⟨[],rP b1 2,0⟩,⟨[5],rS t.fTenant,1⟩,⟨[],rP b1 3,0⟩,⟨[7],rS t.fSource,1⟩,⟨[],rS r8.1,0⟩,⟨[1,4,6,8,9],Bz 1 (AG eS ([t.fID,Lib.itoa t.fAt,t.fTenant,t.fSource,r8.1]:List Ae)),0⟩,⟨[10],C0 [rS ha.1,Ao ha.2],0⟩,⟨[11],rS ha.1,0⟩,⟨[11],Ao ha.2,0⟩,⟨[12],rS ha.1,0⟩,⟨[13],Ao ha.2,0⟩] [2,3] ?_ ?_)))
   ·refine oq (A4 CC rfl Df rfl rfl) (of (AW (i:=0) D8 rfl rfl rfl) (oq (A4 CC rfl C2 rfl rfl) (of (AW (i:=0) De rfl rfl rfl) (GO rfl (λH=>J4 (rs:=[Ao t.fAt]) (r:=rS (Lib.itoa t.fAt)) Tryz.call44 rfl (LR t.fAt hg) rfl) ?_))));refine oq (A4 CC rfl Df rfl rfl) (of (AW (i:=0) D8 rfl rfl rfl) (oq (A4 CC rfl Df rfl rfl) (of (AW (i:=0) D8 rfl rfl rfl) (oq (Am rfl) (GO rfl (λH=>G3 (ys:=([t.fID,Lib.itoa t.fAt,t.fTenant,t.fSource,r8.1]:List Ae)) (enc:=eS) (css:=[[rS t.fID],[rS (Lib.itoa t.fAt)],[rS t.fTenant],[rS t.fSource],[rS r8.1]]) (xs:=[.tmp 22,.tmp 25,.tmp 27,.tmp 29,.tmp 30]) GA Df XF rfl rfl rfl ⟨Ja.one rfl (Up.refl _),Ja.one rfl (Up.refl _),Ja.one rfl (Up.refl _),Ja.one rfl (Up.refl _),Ja.one rfl (Up.refl _),trivial⟩ rfl ND rfl rfl) ?_)))));refine GO rfl (λH=>MG Tryz.call43 (V6 F ([t.fID,Lib.itoa t.fAt,t.fTenant,t.fSource,r8.1]:List Ae) ha hi) rfl) ?_;refine oq (AI rfl rfl) (oq (AI rfl rfl) (oq (Az rfl) (oq (Az rfl) ?_)));exact Co
   refine AS (A1 ?_);obtain rfl:=A2 hj;exact A0 (Ie Tryz.results19 (AP rfl) (AP rfl)) (sS sN) ⟨rfl,rfl⟩
theorem Rt (F:Nat)(s:Ae)(r:Ad×Int)(h:Jp F s=some r):Fn Tryz.prog GE 20 [rS s] [] (λR H=>R=C0 [Bm (Ah r.1),Ao r.2]∧H=[]):=by
 refine enter (n:=72) Tryz.func20 rfl Tryz.ntmps20 rfl (λw Z=>?_);unfold Jp at h;refine Aj (Cl (cs:=[rS ([]:Ae),Ao 0,rS ([]:Ae),rS ([]:Ae),rv (.slice none 0 0)]) NR rfl rfl (λb1=>?_));refine wa rfl (B5 (wm rfl (ob h λr2 e4 h3=>HX Tryz.call45 (Sc F s r2 e4) rfl (wm rfl (wv (AI rfl rfl) (wv (AI rfl rfl) (wa rfl (wa rfl (Aw (Ap (AH [(0,rS s),(2,rP b1 0),(4,Bz 1 (AG eS r2.1)),(23,rB ((!decide (r2.2=0))||(!decide ((r2.1.length:Int)=5))))] [.blk b1 [rS ([]:Ae),Ao 0,rS ([]:Ae),rS ([]:Ae),rv (.slice none 0 0)] 31] ?_ ?_)))))))))))
 ·refine Ak (wm rfl (wv (D2 rfl rfl) (wm rfl (AR (!decide (r2.2=0)) (λc5=>?_) (λc5=>?_)))))
  ·refine wf c5 (wf c5 (wf c5 (wv (r:=rB true) (Ax rfl c5 rfl) (An ?_))));exact Dg c5
  ·refine wo c5 (wm rfl (wo c5 (wv (BO (ys:=r2.1) (enc:=eS) GA rfl) (wo c5 (wv (D2 rfl rfl) (It rfl c5 rfl (An ?_)))))));exact Dg c5
 refine cz h3 rfl (λc6 h7=>?_) (λc6 h8=>?_)
 ·refine Aj (wv (r:=Bm [rS ([]:Ae),Ao 0,rS ([]:Ae),rS ([]:Ae),rv (.slice none 0 0)]) (IR ) (By (i:=0) Ci rfl rfl rfl (BI.c rfl) rfl rfl (cs':=[rS ([]:Ae),Ao 0,rS ([]:Ae),rS ([]:Ae),rv (.slice none 0 0)]) rfl (H':=[.blk b1 [rS ([]:Ae),Ao 0,rS ([]:Ae),rS ([]:Ae),rv (.slice none 0 0)] 31]) rfl (wa rfl (Aw (A1 (Af (WK.upBlk (i:=0) (cs':=[rS ([]:Ae),Ao 0,rS ([]:Ae),rS ([]:Ae),Bz 4 (AG Ac ([]:List Aa))]) rfl ⟨Up.refl _,Up.refl _,Up.refl _,Up.refl _,Up.le (Ks.nil _),trivial⟩ ?_)))))));obtain rfl:=A2 h7;exact A0 (Ie UH (HB (i:=0) EY Ci rfl rfl rfl) (AP rfl)) (sS sN) ⟨rfl,rfl⟩
 ·refine A3 (AS (Aj (wm rfl (ck h8 λg9 hg=>wv (Cv (enc:=eS) (ys:=r2.1) GA Df rfl rfl g9) (wv (CF D8 rfl rfl) (ck hg λhh hi=>Gt (rs:=[rS (Ar r2.1 1)]) (r:=C0 [Ao (Bn (Ar r2.1 1)),Ao (B1 (Ar r2.1 1))]) Tryz.call46 rfl (Qz (Ar r2.1 1) hh) rfl rfl (wm rfl (wv (AI rfl rfl) (wv (AI rfl rfl) (wa rfl (wa rfl (B5 (wm rfl (ck hi λhj hk=>wv (Cv (enc:=eS) (ys:=r2.1) GA Df rfl rfl hj) (wv (CF D8 rfl rfl) (ob hk λha hl hm=>HX Tryz.call47 (Rm F (Ar r2.1 4) ha hl) rfl (wm rfl (wv (AI rfl rfl) (wv (AI rfl rfl) ?_)))))))))))))))))));refine wa rfl (wa rfl (Aw (Ap (AH [(0,rS s),(2,rP b1 0),(4,Bz 1 (AG eS r2.1)),(6,Ao (Bn (Ar r2.1 1))),(7,Bz 4 (AG Ac ha.1)),(44,rB ((!decide ((B1 (Ar r2.1 1))=0))||(!decide (ha.2=0))))] [.blk b1 [rS ([]:Ae),Ao 0,rS ([]:Ae),rS ([]:Ae),rv (.slice none 0 0)] 31] ?_ ?_))))
  ·refine Ak (wm rfl (wv (D2 rfl rfl) (wm rfl (AR (!decide ((B1 (Ar r2.1 1))=0)) (λhd=>?_) (λhd=>?_)))))
   ·refine wf hd (wf hd (wv (r:=rB true) (Ax rfl hd rfl) (An ?_)));exact Dg hd
   ·refine wo hd (wm rfl (wo hd (wv (D2 rfl rfl) (It rfl hd rfl (An ?_)))));exact Dg hd
  refine cz hm rfl (λhn ho=>?_) (λhn hp=>?_)
  ·refine Aj (wv (r:=Bm [rS ([]:Ae),Ao 0,rS ([]:Ae),rS ([]:Ae),rv (.slice none 0 0)]) (IR ) (By (i:=0) Ci rfl rfl rfl (BI.c rfl) rfl rfl (cs':=[rS ([]:Ae),Ao 0,rS ([]:Ae),rS ([]:Ae),rv (.slice none 0 0)]) rfl (H':=[.blk b1 [rS ([]:Ae),Ao 0,rS ([]:Ae),rS ([]:Ae),rv (.slice none 0 0)] 31]) rfl (wa rfl (Aw (A1 (Af (WK.upBlk (i:=0) (cs':=[rS ([]:Ae),Ao 0,rS ([]:Ae),rS ([]:Ae),Bz 4 (AG Ac ([]:List Aa))]) rfl ⟨Up.refl _,Up.refl _,Up.refl _,Up.refl _,Up.le (Ks.nil _),trivial⟩ ?_)))))));obtain rfl:=A2 ho;exact A0 (Ie UH (HB (i:=0) EY Ci rfl rfl rfl) (AP rfl)) (sS sN) ⟨rfl,rfl⟩
  ·refine A3 (AS (Ap (ck hp λhq hr=>ck hr λhs ht=>ck ht λhu hw=>Hb 13 [0,2,4,6,7] [⟨[],Bz 1 (AG eS r2.1),none,none,none⟩,⟨[0],R3 [rS (Ar r2.1 0)],none,none,none⟩,⟨[1],rS (Ar r2.1 0),none,none,none⟩,⟨[],Ao (Bn (Ar r2.1 1)),none,none,none⟩,⟨[],Bz 1 (AG eS r2.1),none,none,none⟩,⟨[4],R3 [rS (Ar r2.1 2)],none,none,none⟩,⟨[5],rS (Ar r2.1 2),none,none,none⟩,⟨[],Bz 1 (AG eS r2.1),none,none,none⟩,⟨[7],R3 [rS (Ar r2.1 3)],none,none,none⟩,⟨[8],rS (Ar r2.1 3),none,none,none⟩,⟨[],Bz 4 (AG Ac ha.1),none,none,none⟩,⟨[2,3,6,9,10],Bm [rS (Ar r2.1 0),Ao (Bn (Ar r2.1 1)),rS (Ar r2.1 2),rS (Ar r2.1 3),Bz 4 (AG Ac ha.1)],none,none,none⟩,⟨[],rv undef,some ([rS ([]:Ae),Ao 0,rS ([]:Ae),rS ([]:Ae),rv (.slice none 0 0)],31),none,none⟩] ?_ (λβ=>?_))))
   ·refine E9 (Am rfl) (E9 (Cv (enc:=eS) (ys:=r2.1) GA Df rfl rfl hq) (E9 (CF D8 rfl rfl) (E9 (Am rfl) (E9 (Am rfl) (E9 (Cv (enc:=eS) (ys:=r2.1) GA Df rfl rfl hs) (E9 (CF D8 rfl rfl) (E9 (Am rfl) (E9 (Cv (enc:=eS) (ys:=r2.1) GA Df rfl rfl hu) (E9 (CF D8 rfl rfl) (E9 (Am rfl) (E9 (EG rfl rfl rfl rfl rfl rfl rfl rfl rfl rfl) (Ye (VY (cs:=[rS ([]:Ae),Ao 0,rS ([]:Ae),rS ([]:Ae),rv (.slice none 0 0)]) NR rfl) ?_))))))))))));exact Ws
   refine H0 (H1:=[.blk b1 [rS ([]:Ae),Ao 0,rS ([]:Ae),rS ([]:Ae),rv (.slice none 0 0)] 31,.blk (β 12) [rS ([]:Ae),Ao 0,rS ([]:Ae),rS ([]:Ae),rv (.slice none 0 0)] 31]) [46,47,48,49,50,51,52,53,54,55,56,57,9,0,2,4,6,7] ?_;generalize β 12=he;refine By (i:=1) Ci rfl rfl rfl (BI.c rfl) rfl rfl (cs':=[rS (Ar r2.1 0),Ao (Bn (Ar r2.1 1)),rS (Ar r2.1 2),rS (Ar r2.1 3),Bz 4 (AG Ac ha.1)]) rfl (H':=[.blk b1 [rS ([]:Ae),Ao 0,rS ([]:Ae),rS ([]:Ae),rv (.slice none 0 0)] 31,.blk he [rS (Ar r2.1 0),Ao (Bn (Ar r2.1 1)),rS (Ar r2.1 2),rS (Ar r2.1 3),Bz 4 (AG Ac ha.1)] 31]) rfl (Aw (Ap (Aj (wv (B2 (i:=1) EY Ci rfl rfl rfl rfl) (ob hw λhf hx hy=>HX Tryz.call19 (M7 F (Ad.mk (Ar r2.1 0) (Bn (Ar r2.1 1)) (Ar r2.1 2) (Ar r2.1 3) ha.1) hf hx) rfl (wm rfl (wv (AI rfl rfl) (wv (AI rfl rfl) (wa rfl (wa rfl (Aw (AH [(2,rP b1 0),(9,rP he 0),(69,rB ((!decide (hf.2=0))||(!decide (hf.1=s))))] [.blk b1 [rS ([]:Ae),Ao 0,rS ([]:Ae),rS ([]:Ae),rv (.slice none 0 0)] 31,.blk he [rS (Ar r2.1 0),Ao (Bn (Ar r2.1 1)),rS (Ar r2.1 2),rS (Ar r2.1 3),Bz 4 (AG Ac ha.1)] 31] ?_ ?_))))))))))))
   ·refine Ak (wm rfl (wv (D2 rfl rfl) (wm rfl (AR (!decide (hf.2=0)) (λhb=>?_) (λhb=>?_)))))
    ·refine wf hb (wf hb (wf hb (wv (r:=rB true) (Ax rfl hb rfl) (An ?_))));exact Dg hb
    ·refine wo hb (wm rfl (wo hb (wm rfl (wo hb (wv (J6 rfl rfl) (It rfl hb rfl (An ?_)))))));exact Dg hb
   refine cz hy rfl (λhz h0=>?_) (λhz h1=>?_)
   ·refine Aj (wv (r:=Bm [rS ([]:Ae),Ao 0,rS ([]:Ae),rS ([]:Ae),rv (.slice none 0 0)]) (IR ) (By (i:=0) Ci rfl rfl rfl (BI.c rfl) rfl rfl (cs':=[rS ([]:Ae),Ao 0,rS ([]:Ae),rS ([]:Ae),rv (.slice none 0 0)]) rfl (H':=[.blk b1 [rS ([]:Ae),Ao 0,rS ([]:Ae),rS ([]:Ae),rv (.slice none 0 0)] 31,.blk he [rS (Ar r2.1 0),Ao (Bn (Ar r2.1 1)),rS (Ar r2.1 2),rS (Ar r2.1 3),Bz 4 (AG Ac ha.1)] 31]) rfl (wa rfl (Aw (A1 (Af (WK.upBlk (i:=0) (cs':=[rS ([]:Ae),Ao 0,rS ([]:Ae),rS ([]:Ae),Bz 4 (AG Ac ([]:List Aa))]) rfl ⟨Up.refl _,Up.refl _,Up.refl _,Up.refl _,Up.le (Ks.nil _),trivial⟩ ?_)))))));obtain rfl:=A2 h0;exact A0 (Ie UH (HB (i:=0) EY Ci rfl rfl rfl) (AP rfl)) (sS (sS sN)) ⟨rfl,rfl⟩
   ·refine A3 (AS (Aj (wv (B2 (i:=1) EY Ci rfl rfl rfl rfl) (By (i:=0) Ci rfl rfl rfl (BI.c rfl) rfl rfl (cs':=[rS (Ar r2.1 0),Ao (Bn (Ar r2.1 1)),rS (Ar r2.1 2),rS (Ar r2.1 3),Bz 4 (AG Ac ha.1)]) rfl (H':=[.blk b1 [rS (Ar r2.1 0),Ao (Bn (Ar r2.1 1)),rS (Ar r2.1 2),rS (Ar r2.1 3),Bz 4 (AG Ac ha.1)] 31,.blk he [rS (Ar r2.1 0),Ao (Bn (Ar r2.1 1)),rS (Ar r2.1 2),rS (Ar r2.1 3),Bz 4 (AG Ac ha.1)] 31]) rfl (wa rfl (Aw (A1 ?_)))))));obtain rfl:=A2 h1;exact A0 (Ie UH (HB (i:=0) EY Ci rfl rfl rfl) (AP rfl)) (sS (sS sN)) ⟨rfl,rfl⟩
end Go.Proofs.YtmmbdclkpijkpaaGreatDoor.Q
namespace Go.Proofs.YtmmbdclkpijkpaaGreatDoor
open Go
set_option linter.unusedVariables false
def CM (ha:Int)(he:Bool)(hf:Bool)(hb:Bool)(hd:(List (Ae×Ab))):Option (Stp (Int×(List (Ae×Ab))) (Out (Bool) ((List (Ae×Ab))))):=
 Bw (hb) (some (.out (.ret false))) (Bc (BT .i64 (ha+1))<|some (.next (ha+1,hd)))
def Em (ha:Bool):Option (Bool):=
 some ha
def C4 (F:Nat)(he:(List Ad)×A5)(ha:Int)(hd:(List (Ae×Ab))):Option (Stp (Int×(List (Ae×Ab))) (Out (Bool) ((List (Ae×Ab))))):=
 Bw (decide (ha<(he.1.length:Int))) (Bc (Dt ha (he.1.length:Int))<|B0 (Ic F (Ar he.1 ha)) λhf=>B0 (Jp F hf.1) λhb=>Bw (!decide (hf.2=0)) (CM ha true true true hd) (Bw (!decide (hb.2=0)) (CM ha (!decide (hb.2=0)) (!decide (hb.2=0)) true hd) (B0 (Mq F (A5.mk hd) hb.1 0) λhg=>CM ha (!decide (hb.2=0)) (!decide (hb.2=0)) (!decide (hg.1=0)) hg.2.fTimers))) (some (.out (.go hd)))
def El (F:Nat)(ha:(List Ad)×A5)(hb:(List (Ae×Ab))):Option (Bool):=
 B0 (K5 (A5.mk hb)) λhd=>B0 (JX F hd.1 ha.1) λhe=>Bw (he) (B0 (LM F) λhf=>Em hf) (Em false)
def GR (F:Nat)(l:(List AQ)):Option (Bool):=
 B0 (LL F l) λr1=>Bw (!r1) (B0 (LM F) λr6=>some r6) (B0 (JE F l) λhb=>B0 (Pv) λhd=>B0 (K5 hb) λha=>B0 (Cs (λσ=>C4 F ha σ.1 σ.2) F (0,hd.fTimers)) (BN λν=>El F ha ν))
end Go.Proofs.YtmmbdclkpijkpaaGreatDoor
namespace Go.Proofs.YtmmbdclkpijkpaaGreatDoor.Q
open Go Go.RowKit
set_option linter.unusedVariables false
set_option linter.unusedSimpArgs false
set_option maxRecDepth 100000
set_option maxHeartbeats 4000000
theorem OH (F:Nat)(l:(List AQ))(r:Bool)(h:GR F l=some r):Fn Tryz.prog GE 4 [Bz 7 (AG AX l)] [] (λR H=>R=rB r∧H=[]):=by
 refine enter (n:=64) Tryz.func4 rfl Tryz.ntmps4 rfl (λw Z=>?_);unfold GR at h;refine Aj (wa rfl (Aw (Ap (Aj (wm rfl (ob h λr1 e3 h2=>HX Tryz.call5 (TP F l r1 e3) rfl (wv (BK rfl) (Aw (cz h2 rfl (λc4 h5=>?_) (λc4 h9=>?_))))))))))
 ·refine Aj (ob h5 λr6 e8 h7=>HX Tryz.call6 (OJ F r6 e8) rfl (wa rfl (Aw (A1 (Af ?_)))));obtain rfl:=A2 h7;exact A0 (BX Tryz.results4 (AP rfl)) sN ⟨rfl,rfl⟩
 ·refine A3 (AS (Aj (wm rfl (ob h9 λhn hB hC=>Du (Hr:=[]) Tryz.call18 (RR F l hn hB) rfl (Ys _) rfl ?_))));rintro _ _ ⟨ho,hl,rfl,rfl⟩;refine ob hC λhp hD hE=>Du (Hr:=[.blk ho [rv (.map (some hl))] 54,.map hl (AY Al hn.fTimers)]) Tryz.call7 (Pu hp hD) rfl (Ys _) rfl ?_;rintro _ _ ⟨hf,he,rfl,rfl⟩;refine wa rfl (wa rfl (Aw (Ap (AH [(3,rP ho 0),(4,rP hf 0),(23,rB false)] [.blk hf [rv (.map (some he))] 54,.map he (AY Al hp.fTimers),.blk ho [rv (.map (some hl))] 54,.map hl (AY Al hn.fTimers)] ?_ ?_))))
  ·refine Ak (wm rfl (wv (r:=rB false) (N5 ⟨_,S8⟩ rfl) (wm rfl (AJ (b:=false) rfl rfl rfl (wm rfl (AJ (b:=false) rfl rfl rfl (wv (r:=rB false) (N5 ⟨_,S8⟩ rfl) (wv (r:=rB false) (AA (b:=false) rfl rfl rfl) (An ?_)))))))));exact wt
  refine CU rfl rfl (A3 (AS (Aj (wm rfl (ob hE λhb hG hH=>Du (Hr:=[.blk hf [rv (.map (some he))] 54,.map he (AY Al hp.fTimers)]) Tryz.call14 (KT ho hl hn hb hG) rfl ((As (i:=2) rfl).trans (Yy _ ((As (i:=2) rfl).trans (Yy _ (Ys _))))) rfl ?_)))));rintro _ _ ⟨v23,rfl,rfl⟩;refine WL.freeze (i:=0) rfl (WL.up (d:=25) (r:=Bz 5 (AG Ah hb.1)) rfl (Up.fact (i:=0) rfl) (wa rfl (Aw (Ap (Aj (wm rfl (wv (BO (ys:=hb.1) (enc:=Ah) EX rfl) (wv (r:=Ao 0) (Am rfl) (Aw (AO (ob hH λhI hJ h1=>BH (S:=Nat×(Int×(List (Ae×Ab)))×(Unit)) (V:=((List (Ae×Ab)))×(Unit)) 0 (λσ=>Cs (λσ=>C4 F hb σ.1 σ.2) σ.1 σ.2.1=some hI) (λσ=>[(4,rP hf 0),(5,Bz 5 (AG Ah hb.1)),(27,Ao (hb.1.length:Int)),(28,Ao σ.2.1.1)]) (λσ=>[.blk hf [rv (.map (some he))] 54,.map he (AY Al σ.2.1.2)]) (λσ=>σ.1) (F,(0,hp.fTimers),()) hJ (AD.c rfl (AD.c rfl (AD.c rfl (AD.c rfl AD.nil)))) (sS (sS (sS (sC (sC sN))))) (λσ=>El F hb σ.1=some r) (λσ=>[(4,rP hf 0),(5,Bz 5 (AG Ah hb.1))]) (λσ=>[.blk hf [rv (.map (some he))] 54,.map he (AY Al σ.1)]) ?_ ?_)))))))))))
  ·rintro⟨gw,⟨hg,hi⟩,⟨⟩⟩ hK;refine Cn (l':=[(4,rP hf 0),(5,Bz 5 (AG Ah hb.1)),(27,Ao (hb.1.length:Int)),(28,Ao hg)]) (H':=[.blk hf [rv (.map (some he))] 54,.map he (AY Al hi)]) rfl rfl ?_;obtain⟨hL,rfl,hw,hq,hx⟩:=DY hK;replace hq:C4 F hb hg hi=some hw:=hq;unfold C4 at hq;refine Aj (wv (E1 rfl rfl) (Aw (Ap (cz hq rfl (λhN hO=>?_) (λhN hP=>?_)))))
   ·refine A3 (AS (Ap (AO (Aj (wm rfl (wa rfl (B5 (wm rfl (wm rfl (ck hO λhQ hR=>wv (Cv (enc:=Ah) (ys:=hb.1) EX Ci rfl rfl hQ) (wv (CW EY Ci rfl rfl rfl) (ob hR λhd hS hT=>HX Tryz.call19 (M7 F (Ar hb.1 hg) hd hS) rfl (wm rfl (wv (AI rfl rfl) (wv (AI rfl rfl) (wa rfl (wa rfl (B5 (wm rfl (ob hT λha hU hV=>HX Tryz.call20 (Rt F hd.1 ha hU) rfl ?_))))))))))))))))))));refine wm rfl (wv (AI rfl rfl) (wv (AI rfl rfl) (Cl (cs:=[rS ([]:Ae),Ao 0,rS ([]:Ae),rS ([]:Ae),rv (.slice none 0 0)]) NR rfl rfl (λhj=>?_))));refine By (i:=0) Ci rfl rfl rfl (BI.c rfl) rfl rfl (cs':=[rS ha.1.fID,Ao ha.1.fAt,rS ha.1.fTenant,rS ha.1.fSource,Bz 4 (AG Ac ha.1.fBody)]) rfl (H':=[.blk hj (Ah ha.1) 31,.blk hf [rv (.map (some he))] 54,.map he (AY Al hi)]) rfl (wa rfl (Aw (Ct (S:=(Bool×Bool×Bool×(List (Ae×Ab)))×(Unit)) (λσ=>CM hg σ.1.1 σ.1.2.1 σ.1.2.2.1 σ.1.2.2.2=some hw) (λσ=>[(4,rP hf 0),(5,Bz 5 (AG Ah hb.1)),(6,Ao hg),(7,rS hd.1),(8,Ao hd.2),(9,rP hj 0),(10,Ao ha.2),(27,Ao (hb.1.length:Int)),(28,Ao hg),(29,rB (decide (hg<(hb.1.length:Int)))),(30,Ao hg),(31,C0 [rS hd.1,Ao hd.2]),(32,Bz 5 (AG Ah hb.1)),(33,Ao hg),(35,Bm (Ah (Ar hb.1 hg))),(36,C0 [rS hd.1,Ao hd.2]),(37,rS hd.1),(38,Ao hd.2),(39,C0 [Bm (Ah ha.1),Ao ha.2]),(40,rS hd.1),(41,C0 [Bm (Ah ha.1),Ao ha.2]),(42,Bm (Ah ha.1)),(43,Ao ha.2),(44,Ao hd.2),(45,rB (!decide (hd.2=0))),(46,rB (!decide (hd.2=0))),(49,rB σ.1.1),(50,rB σ.1.2.1),(55,rB σ.1.2.2.1)]) (λσ=>[.blk hj (Ah ha.1) 31,.blk hf [rv (.map (some he))] 54,.map he (AY Al σ.1.2.2.2)]) ?_ ?_)))
    ·refine Ak (wm rfl (wv (D2 rfl rfl) (wm rfl (bz hV (λhk hW=>?_) (λhk hX=>?_)))))
     ·exact wf hk (wf hk (wv (r:=rB true) (Ax rfl hk rfl) (wm rfl (wz rfl rfl (wz rfl rfl (wz rfl rfl (wz rfl rfl (wv (r:=rB true) (Ax (b:=true) rfl rfl rfl) (An (Au (AF ((true,true,true,hi),()) hW (AD.c rfl (AD.c rfl (AD.c rfl (AD.c rfl (AD.c5 rfl rfl rfl rfl rfl (AD.c5 rfl rfl rfl rfl rfl (AD.c5 rfl rfl rfl rfl rfl (AD.c5 rfl rfl rfl rfl rfl (AD.c5 rfl rfl rfl rfl rfl AD.nil))))))))) (sC (sC (sC sN))))))))))))))
     ·refine wo hk (wm rfl (wo hk (wv (D2 rfl rfl) (It rfl hk rfl (wm rfl (bz hX (λhh hY=>?_) (λhh hZ=>?_)))))))
      ·exact wf hh (wf hh (wf hh (wf hh (wv (r:=rB true) (Ax rfl hh rfl) (An (Au (AF ((!decide (ha.2=0),!decide (ha.2=0),true,hi),()) hY (AD.c rfl (AD.c rfl (AD.c rfl (AD.c rfl (AD.c5 rfl rfl rfl rfl rfl (AD.c5 rfl rfl rfl rfl rfl (AD.c5 rfl rfl rfl rfl rfl (AD.c5 rfl rfl rfl rfl rfl (AD.c5 rfl rfl rfl rfl rfl AD.nil))))))))) (sC (sC (sC sN))))))))))
      ·refine wo hh (wm rfl (wo hh (wv (B2 (i:=0) EY Ci rfl rfl rfl rfl) (wo hh (ob hZ λhr ga gb=>Du (Hr:=[.blk hj (Ah ha.1) 31]) Rd (JV F hf he (A5.mk hi) ha.1 0 hr ga) rfl ((As (i:=1) rfl).trans (Yy _ ((As (i:=1) rfl).trans (Yy _ (Ys _))))) rfl ?_)))));rintro _ _ ⟨rfl,rfl⟩;exact wo hh (wv (D2 rfl rfl) (It rfl hh rfl (An (Ce (H2:=[.blk hj (Ah ha.1) 31,.blk hf [rv (.map (some he))] 54,.map he (AY Al hr.2.fTimers)]) ((As (i:=2) rfl).trans (Yy _ (Ys _))) (Au (AF ((!decide (ha.2=0),!decide (ha.2=0),!decide (hr.1=0),hr.2.fTimers),()) gb (AD.c rfl (AD.c rfl (AD.c rfl (AD.c rfl (AD.c5 rfl rfl rfl rfl rfl (AD.c5 rfl rfl rfl rfl rfl (AD.c5 rfl rfl rfl rfl rfl (AD.c5 rfl rfl rfl rfl rfl (AD.c5 rfl rfl rfl rfl rfl AD.nil))))))))) (sC (sC (sC sN)))))))))
    ·rintro⟨⟨h3,h4,h6,hy⟩,⟨⟩⟩ hs;refine Cn (l':=[(4,rP hf 0),(5,Bz 5 (AG Ah hb.1)),(6,Ao hg),(7,rS hd.1),(8,Ao hd.2),(9,rP hj 0),(10,Ao ha.2),(27,Ao (hb.1.length:Int)),(28,Ao hg),(29,rB (decide (hg<(hb.1.length:Int)))),(30,Ao hg),(31,C0 [rS hd.1,Ao hd.2]),(32,Bz 5 (AG Ah hb.1)),(33,Ao hg),(35,Bm (Ah (Ar hb.1 hg))),(36,C0 [rS hd.1,Ao hd.2]),(37,rS hd.1),(38,Ao hd.2),(39,C0 [Bm (Ah ha.1),Ao ha.2]),(40,rS hd.1),(41,C0 [Bm (Ah ha.1),Ao ha.2]),(42,Bm (Ah ha.1)),(43,Ao ha.2),(44,Ao hd.2),(45,rB (!decide (hd.2=0))),(46,rB (!decide (hd.2=0))),(49,rB h3),(50,rB h4),(55,rB h6)]) (H':=[.blk hj (Ah ha.1) 31,.blk hf [rv (.map (some he))] 54,.map he (AY Al hy)]) rfl rfl ?_;replace hs:CM hg h3 h4 h6 hy=some hw:=hs;unfold CM at hs;refine cz hs rfl (λgc gd=>?_) (λgc ge=>?_)
     ·refine Aj (wa rfl (Aw (A1 (A6 (Af (Af (Bj ?_)))))));have gf:=BB gd hx h1;refine A6 (Af ?_);obtain rfl:=A2 gf;exact A0 (BX Tryz.results4 (AP rfl)) (sS (sS (sS sN))) ⟨rfl,rfl⟩
     ·refine A3 (AK (AS (Ak (ck ge λgg gh=>wv (BQ rfl rfl gg) (wm rfl (An ?_))))));have gi:=BD gh hx;exact Au (AF (hL,(hg+1,hy),()) ⟨gi,YI _⟩ (AD.c rfl (AD.c rfl (AD.c rfl (AD.c rfl AD.nil)))) (sS (sC (sC sN))))
   ·refine BJ (AB ?_);have gj:=CY hP hx h1;exact AB (B4 (AF (hi,()) gj (AD.c rfl (AD.c rfl AD.nil)) (sC (sC sN))))
  ·rintro⟨hz,⟨⟩⟩ ht;refine Eh (l':=[(4,rP hf 0),(5,Bz 5 (AG Ah hb.1))]) (H':=[.blk hf [rv (.map (some he))] 54,.map he (AY Al hz)]) rfl rfl ?_;replace ht:El F hb hz=some r:=ht;unfold El at ht;refine Bt (AS (Ct (S:=(Bool)×(Unit)) (λσ=>Em σ.1=some r) (λσ=>[(2,rB σ.1)]) (λσ=>[]) ?_ ?_))
   ·refine Ak (wm rfl (ob ht λh0 gl gm=>Du (Hr:=[]) Tryz.call14 (KT hf he (A5.mk hz) h0 gl) rfl (Ys _) rfl ?_));rintro _ _ ⟨gx,rfl,rfl⟩;refine WL.freeze (i:=0) rfl (WL.up (d:=58) (r:=Bz 5 (AG Ah h0.1)) rfl (Up.fact (i:=0) rfl) (wm rfl (ob gm λgp gq gr=>HX Tryz.call9 (Th F h0.1 hb.1 gp gq) rfl (wm rfl (bz gr (λhm gs=>?_) (λhm gt=>?_))))))
    ·exact wo hm (ob gs λh8 gu gv=>HX Tryz.call6 (OJ F h8 gu) rfl (KR rfl hm rfl (wa rfl (An (Au (AF (h8,()) gv (AD.c rfl AD.nil) (sS (sS (sS sN)))))))))
    ·exact wf hm (wv (r:=rB false) (AA rfl hm rfl) (wa rfl (An (Au (AF (false,()) gt (AD.c rfl AD.nil) (sS (sS (sS sN))))))))
   ·rintro⟨hA,⟨⟩⟩ hu;refine Cn (l':=[(2,rB hA)]) (H':=[]) rfl rfl ?_;replace hu:Em hA=some r:=hu;unfold Em at hu;refine A1 ?_;obtain rfl:=A2 hu;exact A0 (BX Tryz.results4 (AP rfl)) sN ⟨rfl,rfl⟩
end Go.Proofs.YtmmbdclkpijkpaaGreatDoor.Q
namespace Go.Proofs.YtmmbdclkpijkpaaGreatDoor.lawTimerRecovers
open Go
set_option linter.unusedVariables false
def T1 (y:Aa):Bool:=(BT .i64) y.fKind&&(BT .i64) y.fInt&&UA y.fStr&&(BT .i64) y.fN
def T2 (y:Ad):Bool:=UA y.fID&&(BT .i64) y.fAt&&UA y.fTenant&&UA y.fSource&&(λys:(List Aa)=>ys.all T1&&decide (ys.length≤9223372036854775807)) y.fBody
def R9 (y:AQ):Bool:=(BT .i64) y.fKind&&(BT .i64) y.fNow&&T2 y.fTimer
def Yo:Prop:=∀(y0:(List AQ)) (o0:(λys:(List AQ)=>ys.all R9&&decide (ys.length≤9223372036854775807)) y0=true),∃F,GR F y0=some true
end Go.Proofs.YtmmbdclkpijkpaaGreatDoor.lawTimerRecovers
namespace Go.Proofs.YtmmbdclkpijkpaaGreatDoor
open Go
set_option linter.unusedVariables false
set_option linter.unusedSimpArgs false
def Iw (c:UInt8):Bool:=decide (32≤c.toNat)&&decide (c.toNat≤126)
theorem EQ {s:Ae}{x:Int}{c:UInt8}(h:s[x.toNat]? =some c):Be s x=(c.toNat:Int):=by simp[Be,h]
theorem Mp {α:Type}{p:α→Bool}{s:List α}{k:Nat}{c:α}(h:s[k]? =some c):(s.take (k+1)).all p=((s.take k).all p&&p c):=by
 rw[List.take_add_one,h];simp
theorem NL {α:Type}{p:α→Bool}{s:List α}{k:Nat}{c:α}(h:s[k]? =some c)(hp:p c=false):s.all p=false:=by
 rw[List.all_eq_false];exact⟨c,Y6 h,by simp[hp]⟩
theorem NZ {F:Nat}{s:Ae}(hF:s.length<F)(hs:s.length≤9223372036854775807):Jg F s=some (s.all Iw):=by
 obtain⟨o,h1,h2⟩:=E8 (body:=λσ=>GD s σ) (λx=>0≤x∧x≤(s.length:Int)∧(s.take x.toNat).all Iw=true) (λx=>s.length-x.toNat)
  (λo=>BN (λ_=>GC) o=some (s.all Iw)) (λx ⟨h0,hl,ha⟩=>by
   unfold GD
   by_cases hx:x<(s.length:Int)
   ·obtain⟨c,hc⟩:∃c,s[x.toNat]? =some c:=⟨s[x.toNat]'(by omega),Y1 (by omega)⟩
    rw[AL (by simpa using hx),Bg h0 hx,EQ hc]
    cases ho:Iw c with
    | false=>
     refine .inr ⟨.ret false,?_,?_⟩
     ·rw[AL];simp only[Iw,Zm,Yr] at ho;simp only[YZ,Yq];omega
     ·simp[BN,NL hc ho]
    | true=>
     refine .inl ⟨x+1,?_,⟨by omega,by omega,?_⟩,by omega⟩
     ·rw[A8,AV (by omega) (by omega)];simp only[Iw,Yv,Yq] at ho;simp only[YM,Yr];omega
     ·rw[show(x+1).toNat=x.toNat+1 from by omega,Mp hc,ha,ho];rfl
   ·refine .inr ⟨.go (),by rw[A8 (by simpa using hx)],?_⟩;rw[show x.toNat=s.length from by omega,Zo] at ha;simp[BN,GC,ha]) F 0 ⟨by omega,by omega,by simp⟩ (by simpa using hF)
 unfold Jg;rw[AC h1,h2]
theorem Ny (F:Nat)(s:Ae):Nz F s=Jg F s:=rfl
theorem R1 {F:Nat}{s:Ae}(hF:s.length<F)(hs:s.length≤9223372036854775807):Nz F s=some (s.all Iw):=by rw[Ny];exact NZ hF hs
def pl (c:Aa):Bool:=
 bif decide (c.fKind=1) then(decide (c.fInt=0)&&(decide (c.fStr=[])&&decide (c.fN=0))) else
 bif decide (c.fKind=2) then((decide (c.fInt=0)||decide (c.fInt=1))&&(decide (c.fStr=[])&&decide (c.fN=0))) else
 bif decide (c.fKind=3) then(decide (c.fStr=[])&&decide (c.fN=0)) else
 bif decide (c.fKind=4) then(decide (c.fInt=0)&&(decide (c.fN=0)&&c.fStr.all Iw)) else
 bif decide (c.fKind=5) then(decide (c.fInt=0)&&(decide (c.fStr=[])&&decide (0≤c.fN))) else
 bif decide (c.fKind=6) then(decide (c.fInt=0)&&(decide (c.fStr=[])&&decide (0≤c.fN))) else false
theorem DD {α:Type}{p:Bool}{x y:Option α}{a b:α}(h:x=some a)(h':y=some b):Bw p x y=some (bif p then a else b):=by cases p<;>simp[Bw,h,h']
theorem Rk {F:Nat}{c:Aa}(hF:c.fStr.length<F)(hs:c.fStr.length≤9223372036854775807):Lv F c=some (pl c):=by
 unfold Lv pl;rw[NZ hF hs];refine DD rfl (DD ?_ (DD rfl (DD ?_ (DD rfl (DD rfl rfl)))))
 ·cases h:decide (c.fInt=0)<;>simp
 ·simp[imp,Bc,ov]
def KD:List Av→List Av
 | []=>[]
 | e::S=>bif decide (1<e.fLeft) then⟨e.fPairs,e.fLeft-1,e.fPairs,e.fLast,e.fStarted⟩::S else KD S
theorem Lh {α:Type}[Inhabited α](xs:List α)(e:α):Ar (xs++[e]) (xs.length:Int)=e:=by simp[Ar]
theorem Ju {α:Type}(xs:List α)(e e':α):List.set (xs++[e]) (Int.toNat (xs.length:Int)) e'=xs++[e']:=by simp
theorem JD {α:Type}(xs:List α)(e:α):((xs++[e]).length:Int)-1=(xs.length:Int):=by simp
theorem Rq {α:Type}(xs:List α)(e:α):List.take (Int.toNat (xs.length:Int)) (xs++[e])=xs:=by simp
theorem K3:∀(S:List Av) (F:Nat),S.length<F→(∀e∈S,1≤e.fLeft∧e.fLeft≤9223372036854775807)→S.length≤4611686018427387904→
  ∃o,Cs (λσ=>Dn σ) F S.reverse=some o∧BN (λν=>DK ν) o=some (KD S).reverse
 | [],F+1,_,_,_=>⟨.go [],by simp[Cs,Dn,Bw],by simp[BN,DK,KD]⟩
 | e::S,F+1,hF,hb,hl=>by
  obtain⟨h1,h2⟩:=hb e (by simp);simp only[Yu] at hF hl;have hx:S.reverse.length=S.length:=by simp
  generalize hxs:S.reverse=xs at hx;have hr:(e::S).reverse=xs++[e]:=by simp[hxs]
  rw[hr];have hb1:Dn (xs++[e])=bif decide (1<e.fLeft) then some (.out (.ret (xs++[⟨e.fPairs,e.fLeft-1,e.fPairs,e.fLast,e.fStarted⟩]))) else some (.next xs):=by
   unfold Dn;rw[AL (by simp)];simp only[JD,Lh,Ju,IZ];rw[AV (by omega) (by omega),Bg (by omega) (by simp;omega),AV (by omega) (by omega)]
   cases hd:decide (1<e.fLeft) with
   | true=>
    rw[AL (by simp at hd ⊢;omega)];rfl
   | false=>
    rw[A8 (by simp at hd ⊢;omega),AV (by omega) (by omega),C7 (by omega) (by simp;omega),Rq];rfl
  rw[Cs,hb1]
  cases hd:decide (1<e.fLeft) with
  | true=>exact⟨_,rfl,by simp[BN,DK,KD,hd,hxs]⟩
  | false=>
   obtain⟨o,ho1,ho2⟩:=K3 S F (by omega) (λe he=>hb e (by simp[he])) (by omega);rw[hxs] at ho1;exact⟨o,ho1,by rw[ho2];simp[KD,hd]⟩
theorem Lx {S:List Av}{F:Nat}(hF:S.length<F)(hb:∀e∈S,1≤e.fLeft∧e.fLeft≤9223372036854775807)(hl:S.length≤4611686018427387904):Jl F S.reverse=some (KD S).reverse:=by
 obtain⟨o,h1,h2⟩:=K3 S F hF hb hl;unfold Jl;rw[AC h1,h2]
def JZ (s:Ae):Int:=s.length+2+s.count 34+s.count 92
theorem Lt {s:Ae}(hs:s.length≤1152921504606846976):HZ s=some (JZ s):=by
 have h1:s.count 34≤s.length:=List.count_le_length;have h2:s.count 92≤s.length:=List.count_le_length;unfold HZ Lib.countByte;rw[AV (by omega) (by omega),AV (by omega) (by omega),AV (by omega) (by omega)];rfl
def Wk (c:Aa):Int:=
 bif decide (c.fKind=1) then 4 else bif decide (c.fKind=2) then IntKind.wrap .i64 (5-c.fInt) else bif decide (c.fKind=3) then((Lib.itoa c.fInt).length:Int) else
 bif decide (c.fKind=4) then JZ c.fStr else IntKind.wrap .i64 (2+max 0 (IntKind.wrap .i64 (c.fN-1)))
theorem Oa {c:Aa}(hs:c.fStr.length≤1152921504606846976)(hi:BT .i64 c.fInt=true):Ob c=some (Wk c):=by
 unfold Ob Wk;rw[Lt hs];refine DD rfl (DD rfl (DD ?_ (DD rfl rfl)));rw[BG hi]
def Hy (d:Nat)(sh:A7)(c:Aa):A7:=
 ⟨max sh.fDepth ((d:Int)+1),IntKind.wrap .i64 (sh.fBytes+Wk c),sh.fOutside||(decide (c.fKind=3)&&!(decide ((-1000000000000)≤c.fInt)&&decide (c.fInt≤1000000000000))),sh.fLong||decide (200<(c.fStr.length:Int))⟩
def Xa (sh:A7)(c:Aa):A7:=⟨sh.fDepth,IntKind.wrap .i64 (sh.fBytes+(JZ c.fStr+1)),sh.fOutside,sh.fLong||decide (200<(c.fStr.length:Int))⟩
def Ki:List Av→Bool
 | []=>false
 | e::_=>e.fKey
abbrev NO:=List Av×Int×A7
abbrev Wa:=Out (Int×A7×Bool) A7
def Pi (n:Int)(S:List Av)(i:Int)(sh:A7)(c:Aa):Stp NO Wa:=
 bif !pl c then .out (.ret (0,sh,false)) else
 match S with
 | e::S'=>
  bif e.fKey then
   bif !decide (c.fKind=4)||(e.fStarted&&(Bv c.fStr e.fLast||decide (c.fStr=e.fLast))) then .out (.ret (0,sh,false))
   else .next ((⟨e.fPairs,e.fLeft,false,c.fStr,true⟩::S').reverse,i+1,Xa sh c)
  else bif decide (0<c.fN) then
   bif decide (n<c.fN) then .out (.ret (0,Hy S.length sh c,false))
   else .next ((⟨decide (c.fKind=6),c.fN,decide (c.fKind=6),[],false⟩::S).reverse,i+1,Hy S.length sh c)
  else bif decide (KD S=[]) then .out (.ret (i+1,Hy S.length sh c,true)) else .next ((KD S).reverse,i+1,Hy S.length sh c)
 | []=>
  bif decide (0<c.fN) then
   bif decide (n<c.fN) then .out (.ret (0,Hy 0 sh c,false))
   else .next ([⟨decide (c.fKind=6),c.fN,decide (c.fKind=6),[],false⟩],i+1,Hy 0 sh c)
  else .out (.ret (i+1,Hy 0 sh c,true))
theorem LY {S:List Av}:decide (((KD S).reverse.length:Int)=0)=decide (KD S=[]):=by
 rw[Y9];simp
theorem Xw {α:Type}{xs:List α}{e x:α}{M:Nat}(h:xs.length+1≤M)(hM2:(M+2)*48≤140737488355328):Ea 48 ((xs++[e]).length+([x]:List α).length)=true:=by
 refine Y0 (Nat.le_trans (Nat.mul_le_mul_right 48 ?_) hM2);rw[Yz,YP,YP];omega
set_option maxHeartbeats 600000 in
theorem Og {F:Nat}{v:List Aa}{S:List Av}{i:Int}{sh:A7}{c:Aa}(h0:0≤i)(hc:v[i.toNat]? =some c){M:Nat}(hM:M≤1152921504606846976)(hM2:(M+2)*48≤140737488355328)(hv:v.length≤M)(hS:S.length≤M)(hF:M<F)
  (hs:c.fStr.length≤M) (hi:BT .i64 c.fInt=true) (hb:∀e∈S,1≤e.fLeft∧e.fLeft≤9223372036854775807):Dm F v S.reverse i sh=some (Pi v.length S i sh c):=by
 have hil:i.toNat<v.length:=(List.getElem?_eq_some_iff.1 hc).1;have hat:Ar v i=c:=by simp[Ar,hc]
 unfold Dm Pi;rw[AL (by simp;omega),Bg h0 (by omega),hat,Rk (by omega) (by omega),AC rfl]
 cases hp:pl c with
 | false=>rw[AL (by simp)];rfl
 | true=>
  rw[A8 (by simp)]
  cases S with
  | nil=>
   rw[BG (by simp[imp]),BG (by simp[imp]),A8 (by simp),AV (by simp) (by simp),Oa (by omega) hi,AC rfl,BG (by simp[imp,Br])];simp only[Br,ov,YS,Y3,Yt]
   cases hn:decide (0<c.fN) with
   | true=>
    rw[AL rfl]
    cases hm:decide ((v.length:Int)<c.fN) with
    | true=>rw[AL rfl];simp[Hy]
    | false=>rw[A8 rfl,BG (by simp[Ea])];unfold DB;rw[AV (by omega) (by omega)];simp[Hy]
   | false=>
    rw[A8 rfl,AC (Lx (S:=[]) (by simp;omega) (by simp) (by simp)),AL (by simp[KD]),AV (by omega) (by omega)];simp[Hy]
  | cons e S'=>
   have hx:S'.reverse.length=S'.length:=by simp
   generalize hxs:S'.reverse=xs at hx;have hr:(e::S').reverse=xs++[e]:=by simp[hxs]
   simp only[Yu] at hS;have hlen:((xs++[e]).length:Int)=(xs.length:Int)+1:=by simp
   rw[hr,BG (by simp only[imp,JD];rw[JF (by omega) (by omega)];simp),BG (by simp only[imp,JD];rw[PN (by omega) (by omega)];simp)];rw[JD,Lh]
   cases hk:e.fKey with
   | true=>
    rw[AL (by simp),AV (by omega) (by omega),Bg (by omega) (by omega)];simp only[hk,Y3,Yt,Yw]
    cases ht : !decide (c.fKind=4)||(e.fStarted&&(Bv c.fStr e.fLast||decide (c.fStr=e.fLast))) with
    | true=>rw[AL rfl];rfl
    | false=>
     rw[A8 rfl,Ju,IZ,Lh,Ju,IZ,Lh,Ju,IZ,Lt (by omega),AC rfl,AV (by unfold JZ;omega) (by unfold JZ;have:=@List.count_le_length UInt8 _ 34 c.fStr;have:=@List.count_le_length UInt8 _ 92 c.fStr;omega)];unfold DB;rw[AV (by omega) (by omega)];simp[Xa,hxs]
   | false=>
    rw[A8 (by simp),hlen,AV (by omega) (by omega),Oa (by omega) hi,AC rfl,BG (by simp[imp,Br])];simp only[hk,Br,ov,YS,Y3,Yt,Yw]
    cases hn:decide (0<c.fN) with
    | true=>
     rw[AL rfl]
     cases hm:decide ((v.length:Int)<c.fN) with
     | true=>rw[AL rfl];simp[Hy,hx]
     | false=>rw[A8 rfl,BG (Xw (by omega) hM2)];unfold DB;rw[AV (by omega) (by omega)];simp[Hy,hx,hxs]
    | false=>
     have hcl:=Lx (S:=e::S') (F:=F) (by simp;omega) hb (by simp;omega);rw[hr] at hcl;rw[A8 rfl,hcl,AC rfl,LY]
     cases hq:decide (KD (e::S')=[]) with
     | true=>rw[AL rfl,AV (by omega) (by omega)];simp[Hy,hx]
     | false=>rw[A8 rfl];unfold DB;rw[AV (by omega) (by omega)];simp[Hy,hx]
section
variable {S O : Type} {body : S → Option (Stp S O)} {s t u : S} {o : O}
def DE (body:S→Option (Stp S O))(s t:S):Prop:=∃k,∀n,Cs body (n+k) s=Cs body n t
def Fin (body:S→Option (Stp S O))(s:S)(o:O):Prop:=∃k,∀n,Cs body (n+k) s=some o
theorem DE.refl (s:S):DE body s s:=⟨0,λ_=>rfl⟩
theorem DE.trans (h:DE body s t)(h':DE body t u):DE body s u:=by
 obtain⟨k,hk⟩:=h;obtain⟨j,hj⟩:=h';exact⟨j+k,λn=>by rw[← Nat.add_assoc,hk,hj]⟩
theorem DE.step (h:body s=some (.next t)):DE body s t:=⟨1,λn=>by rw[Cs,h]⟩
theorem Fin.step (h:body s=some (.out o)):Fin body s o:=⟨1,λn=>by rw[Cs,h]⟩
theorem DE.fin (h:DE body s t)(h':Fin body t o):Fin body s o:=by
 obtain⟨k,hk⟩:=h;obtain⟨j,hj⟩:=h';exact⟨j+k,λn=>by rw[← Nat.add_assoc,hk,hj]⟩
end
inductive Fo where
 | nil
 | cell (k:Option Ae) (c:Aa) (r:Fo)
 | node (k:Option Ae) (c:Aa) (kids r:Fo)
def Bs:Option Ae→List Aa
 | none=>[]
 | some s=>[⟨4,0,s,0⟩]
def Fo.flat:Fo→List Aa
 | .nil=>[]
 | .cell k c r=>Bs k++c::r.flat
 | .node k c kids r=>Bs k++c::(kids.flat++r.flat)
def Fo.cnt:Fo→Nat
 | .nil=>0
 | .cell _ _ r=>r.cnt+1
 | .node _ _ _ r=>r.cnt+1
def Bi (m:Bool)(last:Option Ae):Option Ae→Bool
 | none=>!m
 | some s=>m&&s.all Iw&&(match last with
  | none=>true
  | some p=>!(Bv s p||decide (s=p)))
def Fo.wf:Bool→Option Ae→Fo→Bool
 | _,_,.nil=>true
 | m,last,.cell k c r=>Bi m last k&&pl c&&!decide (0<c.fN)&&r.wf m k
 | m,last,.node k c kids r=>Bi m last k&&pl c&&decide (0<c.fN)&&decide (c.fN=kids.cnt)&&kids.wf (decide (c.fKind=6)) none&&r.wf m k
def K6 (k:Option Ae)(sh:A7):A7:=match k with
 | none=>sh
 | some s=>Xa sh ⟨4,0,s,0⟩
def Fo.sh (d:Nat):A7→Fo→A7
 | s,.nil=>s
 | s,.cell k c r=>r.sh d (Hy d (K6 k s) c)
 | s,.node k c kids r=>r.sh d (kids.sh (d+1) (Hy d (K6 k s) c))
def G8 (body:NO→Option (Stp NO Wa))(s:NO)(S:List Av)(i:Int)(sh:A7):Prop:=
 if KD S=[] then Fin body s (.ret (i,sh,true)) else DE body s ((KD S).reverse,i,sh)
theorem G8.of {body:NO→Option (Stp NO Wa)}{s t:NO}{S:List Av}{i:Int}{sh:A7}(h:DE body s t)(h':G8 body t S i sh):G8 body s S i sh:=by
 unfold G8 at *
 split
 ·rename_i e;rw[Zd e] at h';exact h.fin h'
 ·rename_i e;rw[YW e] at h';exact h.trans h'
theorem G8.pop {body:NO→Option (Stp NO Wa)}{s:NO}{e:Av}{S:List Av}{i:Int}{sh:A7}(h:G8 body s (e::S) i sh)(h1:e.fLeft=1):G8 body s S i sh:=by
 have:KD (e::S)=KD S:=by simp[KD,h1]
 unfold G8 at *;rw[this] at h;exact h
theorem G8.more {body:NO→Option (Stp NO Wa)}{s:NO}{e:Av}{S:List Av}{i:Int}{sh:A7}(h:G8 body s (e::S) i sh)(h1:1<e.fLeft):DE body s ((⟨e.fPairs,e.fLeft-1,e.fPairs,e.fLast,e.fStarted⟩::S).reverse,i,sh):=by
 have:KD (e::S)=⟨e.fPairs,e.fLeft-1,e.fPairs,e.fLast,e.fStarted⟩::S:=by simp[KD,h1]
 unfold G8 at *;rw[this,YW (by simp)] at h;exact h
structure QY (F M:Nat) (v:List Aa):Prop where
 hM:M≤1152921504606846976
 hM2:(M+2)*48≤140737488355328
 hv:v.length≤M
 hF:M<F
 hc:∀c∈v,c.fStr.length≤M∧BT .i64 c.fInt=true∧c.fN≤9223372036854775807
abbrev OE (F:Nat)(v:List Aa):NO→Option (Stp NO Wa):=λσ=>Dm F v σ.1 σ.2.1 σ.2.2
def Dp (S:List Av):Prop:=∀e∈S,1≤e.fLeft∧e.fLeft≤9223372036854775807
section
variable {F M : Nat} {v : List Aa} {S : List Av} {i : Int} {sh : A7} {c : Aa} {r : List Aa} {e : Av}
theorem Ep (h0:0≤i)(h:v.drop i.toNat=c::r):v[i.toNat]? =some c∧v.drop (i+1).toNat=r∧i<v.length:=by
 have h1:(v.drop i.toNat)[0]? =some c:=by rw[h];rfl
 have h2:v[i.toNat]? =some c:=by simpa using h1
 have h3:=(List.getElem?_eq_some_iff.1 h2).1;refine⟨h2,?_,by omega⟩;rw[show(i+1).toNat=i.toNat+1 from by omega,← List.drop_drop,h];rfl
theorem round (hA:QY F M v)(h0:0≤i)(h:v.drop i.toNat=c::r)(hS:(S.length:Int)≤i)(hb:Dp S):OE F v (S.reverse,i,sh)=some (Pi v.length S i sh c):=by
 obtain⟨h1,_,h3⟩:=Ep h0 h;obtain⟨a,b,_⟩:=hA.hc c (Y6 h1);have:=hA.hv;exact Og h0 h1 hA.hM hA.hM2 hA.hv (by omega) hA.hF a b hb
def EH (e:Av):Option Ae→Av
 | none=>e
 | some s=>⟨e.fPairs,e.fLeft,false,s,true⟩
def HI (e:Av):Option Ae→Prop
 | none=>e.fStarted=false
 | some p=>e.fStarted=true∧e.fLast=p
theorem LN (hA:QY F M v)(h0:0≤i){k last:Option Ae}(h:v.drop i.toNat=Bs k++r)(hS:(S.length:Int)+1≤i)(hb:Dp (e::S))(hk:Bi e.fKey last k=true)(hl:HI e last) :
  DE (OE F v) ((e::S).reverse,i,sh) ((EH e k::S).reverse,i+(Bs k).length,K6 k sh):=by
 cases k with
 | none=>simpa[EH,Bs,K6] using DE.refl _
 | some s=>
  simp only[Bi,Yv] at hk;obtain⟨⟨hm,hok⟩,hcmp⟩:=hk;refine DE.step ?_;rw[round hA h0 (by simpa[Bs] using h) (by simpa using hS) hb];have hp:pl ⟨4,0,s,0⟩=true:=by simp[pl,hok]
  have ht:(e.fStarted&&(Bv s e.fLast||decide (s=e.fLast)))=false:=by
   cases last with
   | none=>simp only[HI] at hl;rw[hl];rfl
   | some p=>obtain⟨h1,h2⟩:=hl;rw[h1,h2];simpa using hcmp
  simp only[Pi,hp,hm,ht,Y3,Yt,Yw,decide_true,YD,Bool.or_self];rfl
theorem Kh {k last:Option Ae}(hk:Bi e.fKey last k=true):(EH e k).fKey=false:=by
 cases k with
 | none=>simpa[EH,Bi] using hk
 | some s=>rfl
theorem IS (k:Option Ae):(EH e k).fLeft=e.fLeft∧(EH e k).fPairs=e.fPairs:=by cases k<;>exact⟨rfl,rfl⟩
theorem Kf (hA:QY F M v)(h0:0≤i)(h:v.drop i.toNat=c::r)(hS:(S.length:Int)≤i)(hb:Dp S)(hk:Ki S=false)(hp:pl c=true)(hn:decide (0<c.fN)=false) :
  G8 (OE F v) (S.reverse,i,sh) S (i+1) (Hy S.length sh c):=by
 have hr:=round (sh:=sh) hA h0 h hS hb;unfold G8
 cases S with
 | nil=>
  rw[Zd (by simp[KD])];refine Fin.step ?_;rw[hr];simp[Pi,hp,hn]
 | cons e S=>
  simp only[Ki] at hk
  split
  ·rename_i hc
   refine Fin.step ?_;rw[hr];simp[Pi,hp,hn,hk,hc]
  ·rename_i hc
   refine DE.step ?_;rw[hr];simp[Pi,hp,hn,hk,hc]
theorem Il (hA:QY F M v)(h0:0≤i)(h:v.drop i.toNat=c::r)(hS:(S.length:Int)≤i)(hb:Dp S)(hk:Ki S=false)(hp:pl c=true)(hn:decide (0<c.fN)=true)(hv:c.fN≤v.length) :
  DE (OE F v) (S.reverse,i,sh) ((⟨decide (c.fKind=6),c.fN,decide (c.fKind=6),[],false⟩::S).reverse,i+1,Hy S.length sh c):=by
 have hr:=round (sh:=sh) hA h0 h hS hb;have hv':decide ((v.length:Int)<c.fN)=false:=by simpa using hv
 refine DE.step ?_;rw[hr]
 cases S with
 | nil=>simp only[Pi,hp,hn,hv',Y3,Yt,Yw];rfl
 | cons e S=>
  simp only[Ki] at hk;simp only[Pi,hp,hn,hv',hk,Y3,Yt,Yw]
theorem Cq:∀f:Fo,f.cnt≤f.flat.length
 | .nil=>Y8 _
 | .cell k c r=>by have:=Cq r;simp[Fo.cnt,Fo.flat];omega
 | .node k c kids r=>by have:=Cq r;simp[Fo.cnt,Fo.flat];omega
theorem CT {α:Type}{v xs r:List α}{i:Int}(h0:0≤i)(h:v.drop i.toNat=xs++r):v.drop (i+xs.length).toNat=r:=by
 rw[show(i+(xs.length:Int)).toNat=i.toNat+xs.length from by omega,← List.drop_drop,h,List.drop_left]
theorem On (hA:QY F M v){e':Av}{s:NO}{k:Option Ae}{r':Fo}
  (ih:∀(e:Av) (S:List Av) (i:Int) (sh:A7) (last:Option Ae) (r:List Aa),1≤r'.cnt→r'.wf e.fPairs last=true→e.fKey=e.fPairs→e.fLeft=r'.cnt→HI e last→(e.fPairs=false→last=none)→v.drop i.toNat=r'.flat++r→0≤i→(S.length:Int)+1≤i→Dp S→
   G8 (OE F v) ((e::S).reverse,i,sh) S (i+r'.flat.length) (r'.sh (S.length+1) sh))
  (hd:G8 (OE F v) s (e'::S) i sh) (hl:e'.fLeft=r'.cnt+1) (hw:r'.wf e'.fPairs k=true) (hk:HI e' k) (hm:e'.fPairs=false→k=none) (hv:v.drop i.toNat=r'.flat++r) (h0:0≤i) (hS:(S.length:Int)+1≤i) (hb:Dp S) :
  G8 (OE F v) s S (i+r'.flat.length) (r'.sh (S.length+1) sh):=by
 by_cases h1:r'.cnt=0
 ·cases r' with
  | nil=>simpa[Fo.flat,Fo.sh] using hd.pop (by rw[hl];rfl)
  | cell _ _ _=>simp[Fo.cnt] at h1
  | node _ _ _ _=>simp[Fo.cnt] at h1
 ·have:=hd.more (by omega);refine G8.of this (ih _ S i sh k r (by omega) hw rfl (by simp only;omega) ?_ hm hv h0 hS hb)
  cases k with
  | none=>exact hk
  | some p=>exact hk
theorem IT {k last:Option Ae}(hl:HI e last)(hm:e.fPairs=false→last=none)(hk:Bi e.fPairs last k=true):HI (EH e k) k∧((EH e k).fPairs=false→k=none):=by
 cases k with
 | none=>
  have:e.fPairs=false:=by simpa[Bi] using hk
  rw[hm this] at hl;exact⟨hl,λ_=>rfl⟩
 | some s=>
  refine⟨⟨rfl,rfl⟩,λh=>?_⟩;have h:e.fPairs=false:=h;simp[Bi,h] at hk
theorem KC (hA:QY F M v):∀(f:Fo) (e:Av) (S:List Av) (i:Int) (sh:A7) (last:Option Ae) (r:List Aa),1≤f.cnt→f.wf e.fPairs last=true→e.fKey=e.fPairs→e.fLeft=f.cnt→HI e last→(e.fPairs=false→last=none)→v.drop i.toNat=f.flat++r→0≤i→(S.length:Int)+1≤i→Dp S→
   G8 (OE F v) ((e::S).reverse,i,sh) S (i+f.flat.length) (f.sh (S.length+1) sh):=by
 have hmax:∀(i:Int) (xs:List Aa),0≤i→v.drop i.toNat=xs→xs.length≤v.length:=λi xs _ h=>by rw[← h,List.length_drop];omega
 intro f
 induction f with
 | nil=>intro e S i sh last r h1;simp[Fo.cnt] at h1
 | cell k c r' ih=>
  intro e S i sh last r h1 hw hk hl hlo hm hv h0 hS hb;simp only[Fo.wf,Yv,YC] at hw;obtain⟨⟨⟨w1,w2⟩,w3⟩,w4⟩:=hw;simp only[Fo.flat,YY,Zb] at hv;have hcnt:=hmax i _ h0 hv;have hcf:=Cq r';simp only[Yz,Yu] at hcnt;have hvM:=hA.hv;have hMM:=hA.hM;simp only[Fo.cnt] at hl;have hb':Dp (e::S):=λx hx=>by
   rcases List.mem_cons.1 hx with rfl | hx
   ·constructor<;>omega
   ·exact hb x hx
  have hkr:=LN (sh:=sh) hA h0 hv hS hb' (by rw[hk];exact w1) hlo;have hv1:=CT h0 hv;obtain⟨kl,kp⟩:=IS (e:=e) k;have hbk:Dp (EH e k::S):=λx hx=>by
   rcases List.mem_cons.1 hx with rfl | hx
   ·rw[kl];exact hb' e (by simp)
   ·exact hb x hx
  have hd:=Kf (sh:=K6 k sh) hA (by omega) hv1 (by simp only[Yu];omega) hbk (Kh (by rw[hk];exact w1)) w2 w3;obtain⟨q1,q2⟩:=IT hlo hm w1;have hv2:=(Ep (by omega) hv1).2.1;have:=On hA ih (hd.of hkr) (by rw[kl,hl];rfl) (by rw[kp];exact w4) q1 q2 hv2 (by omega) (by omega) hb;simp only[Fo.flat,Fo.sh,Yz,Yu];rw[show i+((((Bs k).length+(r'.flat.length+1):Nat)):Int)=i+(Bs k).length+1+r'.flat.length from by omega];exact this
 | node k c kids r' ihk ih=>
  intro e S i sh last r h1 hw hk hl hlo hm hv h0 hS hb;simp only[Fo.wf,Yv,Yq] at hw;obtain⟨⟨⟨⟨⟨w1,w2⟩,w3⟩,w5⟩,w6⟩,w4⟩:=hw;simp only[Fo.flat,YY,Zb] at hv;have hcnt:=hmax i _ h0 hv;have hcf:=Cq r';have hck:=Cq kids;simp only[Yz,Yu] at hcnt;have hvM:=hA.hv;have hMM:=hA.hM;simp only[Fo.cnt] at hl;have hb':Dp (e::S):=λx hx=>by
   rcases List.mem_cons.1 hx with rfl | hx
   ·constructor<;>omega
   ·exact hb x hx
  have hkr:=LN (sh:=sh) hA h0 hv hS hb' (by rw[hk];exact w1) hlo;have hv1:=CT h0 hv;obtain⟨kl,kp⟩:=IS (e:=e) k;have hbk:Dp (EH e k::S):=λx hx=>by
   rcases List.mem_cons.1 hx with rfl | hx
   ·rw[kl];exact hb' e (by simp)
   ·exact hb x hx
  have hn:=Il (sh:=K6 k sh) hA (by omega) hv1 (by simp only[Yu];omega) hbk (Kh (by rw[hk];exact w1)) w2 (by simpa using w3) (by omega);have hv2:=(Ep (by omega) hv1).2.1;have hd:=ihk ⟨decide (c.fKind=6),c.fN,decide (c.fKind=6),[],false⟩ (EH e k::S) (i+(Bs k).length+1) (Hy (S.length+1) (K6 k sh) c) none _ (by omega) w6 rfl w5 rfl (λ_=>rfl) hv2 (by omega) (by simp only[Yu];omega) hbk;obtain⟨q1,q2⟩:=IT hlo hm w1;have hv3:=CT (by omega) hv2;have:=On hA ih ((hd.of hn).of hkr) (by rw[kl,hl];rfl) (by rw[kp];exact w4) q1 q2 hv3 (by omega) (by omega) hb;simp only[Fo.flat,Fo.sh,Yz,Yu];rw[show i+((((Bs k).length+(kids.flat.length+r'.flat.length+1):Nat)):Int)=i+(Bs k).length+1+kids.flat.length+r'.flat.length from by omega];exact this
end
theorem OC {S O:Type}{body:S→Option (Stp S O)}{o:O}:∀{n:Nat} {s:S} (k:Nat),Cs body n s=some o→Cs body (n+k) s=some o
 | 0,s,k,h=>by cases h
 | n+1,s,k,h=>by
  rw[show n+1+k=n+k+1 from by omega,Cs];rw[Cs] at h
  cases hb:body s with
  | none=>rw[hb] at h;cases h
  | some t=>
   rw[hb] at h
   cases t with
   | next s'=>exact OC k h
   | out o'=>exact h
theorem Fin.eq {S O:Type}{body:S→Option (Stp S O)}{s:S}{o o':O}{n:Nat}(h:Fin body s o)(h':Cs body n s=some o'):o'=o:=by
 obtain⟨k,hk⟩:=h;have:=OC k h';rw[hk n] at this;exact(A2 this).symm
theorem Nh:∀{S:List Av},Dp S→Dp (KD S)∧(KD S).length≤S.length
 | [],h=>⟨h,Y8 _⟩
 | e::S,h=>by
  have hS:Dp S:=λx hx=>h x (by simp[hx]);have he:=h e (by simp);unfold KD
  cases hd:decide (1<e.fLeft) with
  | true=>
   simp only[Yq] at hd;refine⟨λx hx=>?_,by simp⟩;rcases List.mem_cons.1 hx with rfl | hx
   ·simp only;omega
   ·exact hS x hx
  | false=>
   obtain⟨h1,h2⟩:=Nh hS;exact⟨h1,by simp only[Yt,Yu];omega⟩
theorem TL {n:Int}{S:List Av}{i:Int}{sh:A7}{c:Aa}{σ:NO}(hb:Dp S)(hS:(S.length:Int)≤i)(hN:c.fN≤9223372036854775807)(h:Pi n S i sh c = .next σ):∃S' sh',σ=(S'.reverse,i+1,sh')∧Dp S'∧(S'.length:Int)≤i+1:=by
 unfold Pi at h
 cases hp:pl c with
 | false=>simp[hp] at h
 | true=>
  simp only[hp,Y3,Yt] at h
  cases S with
  | nil=>
   simp only at h
   cases hn:decide (0<c.fN) with
   | false=>simp[hn] at h
   | true=>
    simp only[hn,Yw] at h
    cases hm:decide (n<c.fN) with
    | true=>simp[hm] at h
    | false=>
     simp only[hm,Yt,Stp.next.injEq] at h;refine⟨[_],_,h.symm,λx hx=>?_,by simp at hS ⊢;omega⟩;simp only[YO] at hx;subst hx;simp only[Yq] at hn;exact⟨by simp only;omega,hN⟩
  | cons e S=>
   have he:=hb e (by simp);have hbS:Dp S:=λx hx=>hb x (by simp[hx]);simp only[Yu] at hS
   cases hk:e.fKey with
   | true=>
    simp only[hk,Yw] at h
    cases hq:(!decide (c.fKind=4)||(e.fStarted&&(Bv c.fStr e.fLast||decide (c.fStr=e.fLast)))) with
    | true=>rw[hq] at h;simp at h
    | false=>
     rw[hq] at h;simp only[Yt,Stp.next.injEq] at h;refine⟨_::S,_,h.symm,λx hx=>?_,by simp only[Yu];omega⟩;rcases List.mem_cons.1 hx with rfl | hx
     ·exact he
     ·exact hbS x hx
   | false=>
    simp only[hk,Yt] at h
    cases hn:decide (0<c.fN) with
    | true=>
     simp only[hn,Yw] at h
     cases hm:decide (n<c.fN) with
     | true=>simp[hm] at h
     | false=>
      simp only[hm,Yt,Stp.next.injEq] at h;refine⟨_::e::S,_,h.symm,λx hx=>?_,by simp only[Yu];omega⟩;rcases List.mem_cons.1 hx with rfl | hx
      ·simp only[Yq] at hn;exact⟨by simp only;omega,hN⟩
      ·exact hb x hx
    | false=>
     simp only[hn,Yt] at h
     cases hq:decide (KD (e::S)=[]) with
     | true=>rw[hq] at h;simp at h
     | false=>
      rw[hq] at h;simp only[Yt,Stp.next.injEq] at h;obtain⟨h1,h2⟩:=Nh hb;simp only[Yu] at h2;exact⟨_,_,h.symm,h1,by omega⟩
theorem LJ {F M:Nat}{v:List Aa}(hA:QY F M v):∃o,Cs (OE F v) F (([]:List Av),0,(⟨0,0,false,false⟩:A7))=some o∧True:=by
 refine E8 (λσ=>∃S i sh,σ=(S.reverse,i,sh)∧Dp S∧(S.length:Int)≤i∧0≤i∧i≤v.length) (λσ=>v.length-σ.2.1.toNat) (λ_=>True) (λσ hI=>?_) F _ ⟨[],0,_,rfl,(λx hx=>by cases hx),YQ _,YQ _,by omega⟩ (by have:=hA.hv;have:=hA.hF;simp;omega);obtain⟨S,i,sh,rfl,hb,hS,h0,hi⟩:=hI
 by_cases hx:i<v.length
 ·obtain⟨c,hc⟩:∃c,v[i.toNat]? =some c:=⟨v[i.toNat]'(by omega),Y1 (by omega)⟩
  have hdr:v.drop i.toNat=c::v.drop (i.toNat+1):=by rw[List.drop_eq_getElem_cons (by omega)];congr 1;exact(List.getElem?_eq_some_iff.1 hc).2
  have hr:=round (sh:=sh) hA h0 hdr hS hb
  cases hl:Pi v.length S i sh c with
  | next τ=>
   obtain⟨S',sh',rfl,h1,h2⟩:=TL hb hS (hA.hc c (Y6 hc)).2.2 hl;exact .inl ⟨_,by rw[hr,hl],⟨S',i+1,sh',rfl,h1,h2,by omega,by omega⟩,by simp only;omega⟩
  | out o=>exact .inr ⟨o,by rw[hr,hl],trivial⟩
 ·refine .inr ⟨.go sh,?_,trivial⟩;show Dm F v S.reverse i sh=_;unfold Dm;rw[A8 (by simpa using hx)]
def Fo.one:Fo→Bool
 | .cell none _ .nil=>true
 | .node none _ _ .nil=>true
 | _=>false
def L6:A7:=⟨0,0,false,false⟩
theorem TK {F M:Nat}{v:List Aa}(hA:QY F M v){f:Fo}(h1:f.one=true)(hw:f.wf false none=true){r:List Aa}(hv:v=f.flat++r):Fin (OE F v) ([],0,L6) (.ret (f.flat.length,f.sh 0 L6,true)):=by
 have h0:v.drop (0:Int).toNat=f.flat++r:=by rw[hv];rfl
 have hlen:f.flat.length≤v.length:=by rw[hv];simp
 cases f with
 | nil=>cases h1
 | cell k c r'=>
  cases k with
  | some s=>cases h1
  | none=>
   cases r' with
   | nil=>
    simp only[Fo.wf,Yv,YC] at hw;have:=Kf (S:=[]) (sh:=L6) hA (YQ 0) h0 (by simp) (λx hx=>by cases hx) rfl hw.1.1.2 hw.1.2;unfold G8 at this;rw[Zd (show KD []=[] from rfl)] at this;simpa[Fo.flat,Fo.sh,Bs,K6] using this
   | cell _ _ _=>cases h1
   | node _ _ _ _=>cases h1
 | node k c kids r'=>
  cases k with
  | some s=>cases h1
  | none=>
   cases r' with
   | nil=>
    simp only[Fo.wf,Yv,Yq] at hw;obtain⟨⟨⟨⟨⟨w1,w2⟩,w3⟩,w5⟩,w6⟩,w4⟩:=hw;have hck:=Cq kids;simp only[Fo.flat,Bs,Zf,Zg,Yu] at hlen;have hvM:=hA.hv;have hMM:=hA.hM;have hn:=Il (S:=[]) (sh:=L6) hA (YQ 0) h0 (by simp) (λx hx=>by cases hx) rfl w2 (by simpa using w3) (by omega);have hv2:=(Ep (YQ 0) h0).2.1;have hd:=KC hA kids ⟨decide (c.fKind=6),c.fN,decide (c.fKind=6),[],false⟩ [] (0+1) (Hy 0 L6 c) none r (by omega) w6 rfl w5 rfl (λ_=>rfl) (by rw[hv2];simp[Fo.flat]) (by omega) (by simp) (λx hx=>by cases hx);unfold G8 at hd;rw[Zd (show KD []=[] from rfl)] at hd;have:=hn.fin hd;have e:((0:Int)+1+kids.flat.length)=((Fo.node none c kids .nil).flat.length:Int):=by simp[Fo.flat,Bs];omega
    rw[e] at this;exact this
   | cell _ _ _=>cases h1
   | node _ _ _ _=>cases h1
theorem OD {F M:Nat}{v:List Aa}(hA:QY F M v){f:Fo}(h1:f.one=true)(hw:f.wf false none=true){r:List Aa}(hv:v=f.flat++r):Hu F v=some ((f.flat.length:Int),f.sh 0 L6,true):=by
 obtain⟨o,ho,_⟩:=LJ hA;have e:=(TK hA h1 hw hv).eq ho;subst e;unfold Hu;rw[AC ho];rfl
def He (m:Bool)(last:Option Ae)(xs:List Aa):Option (Option Ae×List Aa):=
 bif m then match xs with
  | []=>none
  | c::r=>bif pl c&&decide (c.fKind=4)&&Bi true last (some c.fStr) then some (some c.fStr,r) else none
 else some (none,xs)
def GY:Nat→Bool→Option Ae→Nat→List Aa→Option (Fo×List Aa)
 | 0,_,_,_,_=>none
 | _+1,_,_,0,xs=>some (.nil,xs)
 | F+1,m,last,k+1,xs=>
  match He m last xs with
  | none=>none
  | some (_,[])=>none
  | some (key,c::xs')=>
   bif !pl c then none else
   bif decide (0<c.fN) then
    match GY F (decide (c.fKind=6)) none c.fN.toNat xs' with
    | none=>none
    | some (kids,ys)=>match GY F m key k ys with
     | none=>none
     | some (r,zs)=>some (.node key c kids r,zs)
   else match GY F m key k xs' with
    | none=>none
    | some (r,zs)=>some (.cell key c r,zs)
theorem N2 {c:Aa}(hp:pl c=true)(hk:c.fKind=4):c=⟨4,0,c.fStr,0⟩∧c.fStr.all Iw=true:=by
 cases c
 simp only at hk;subst hk;simp[pl] at hp;obtain⟨h1,h2,h3⟩:=hp;subst h1;subst h2;exact⟨rfl,by simpa using h3⟩
theorem KX {m:Bool}{last key:Option Ae}{xs r:List Aa}(h:He m last xs=some (key,r)):xs=Bs key++r∧Bi m last key=true:=by
 unfold He at h
 cases m with
 | false=>cases h;exact⟨rfl,rfl⟩
 | true=>
  simp only[Yw] at h
  cases xs with
  | nil=>cases h
  | cons c r'=>
   simp only at h
   cases hb:(pl c&&decide (c.fKind=4)&&Bi true last (some c.fStr)) with
   | false=>rw[hb] at h;cases h
   | true=>
    rw[hb] at h;simp only[Yv,Yq] at hb
    cases h
    exact⟨by rw[(N2 hb.1.1 hb.1.2).1];rfl,hb.2⟩
theorem G2:∀(F:Nat) (m:Bool) (last:Option Ae) (k:Nat) (xs:List Aa) (f:Fo) (ys:List Aa),GY F m last k xs=some (f,ys)→xs=f.flat++ys∧f.wf m last=true∧f.cnt=k
 | 0,_,_,_,_,_,_,h=>by cases h
 | F+1,m,last,0,xs,f,ys,h=>by cases h;exact⟨rfl,rfl,rfl⟩
 | F+1,m,last,k+1,xs,f,ys,h=>by
  rw[GY] at h
  cases hk:He m last xs with
  | none=>rw[hk] at h;cases h
  | some p=>
   obtain⟨key,r⟩:=p;obtain⟨h1,h2⟩:=KX hk;rw[hk] at h
   cases r with
   | nil=>cases h
   | cons c xs'=>
    simp only at h
    cases hp:pl c with
    | false=>rw[hp] at h;cases h
    | true=>
     rw[hp] at h;simp only[Y3,Yt] at h
     cases hn:decide (0<c.fN) with
     | true=>
      rw[hn] at h;simp only[Yw] at h
      cases hq:GY F (decide (c.fKind=6)) none c.fN.toNat xs' with
      | none=>rw[hq] at h;cases h
      | some q=>
       obtain⟨kids,zs⟩:=q;rw[hq] at h;simp only at h
       cases hr:GY F m key k zs with
       | none=>rw[hr] at h;cases h
       | some q2=>
        obtain⟨r2,us⟩:=q2;rw[hr] at h;cases h;obtain⟨a1,a2,a3⟩:=G2 F _ _ _ _ _ _ hq;obtain⟨b1,b2,b3⟩:=G2 F _ _ _ _ _ _ hr;refine⟨by rw[h1,a1,b1];simp[Fo.flat],?_,by simp[Fo.cnt,b3]⟩;simp only[Yq] at hn;simp only[Fo.wf,h2,hp,a2,b2,YB,Y5,Yv,Yq];omega
     | false=>
      rw[hn] at h;simp only[Yt] at h
      cases hr:GY F m key k xs' with
      | none=>rw[hr] at h;cases h
      | some q2=>
       obtain⟨r2,us⟩:=q2;rw[hr] at h;cases h;obtain⟨b1,b2,b3⟩:=G2 F _ _ _ _ _ _ hr;exact⟨by rw[h1,b1];simp[Fo.flat],by simp[Fo.wf,h2,hp,b2,hn],by simp[Fo.cnt,b3]⟩
theorem GL:∀(F F':Nat) (m:Bool) (last:Option Ae) (k:Nat) (xs:List Aa),xs.length<F→xs.length<F'→GY F m last k xs=GY F' m last k xs
 | 0,_,_,_,_,_,h,_=>by omega
 | _+1,0,_,_,_,_,_,h=>by omega
 | F+1,F'+1,m,last,0,xs,_,_=>rfl
 | F+1,F'+1,m,last,k+1,xs,h,h'=>by
  rw[GY,GY]
  cases hk:He m last xs with
  | none=>rfl
  | some p=>
   obtain⟨key,r⟩:=p;obtain⟨h1,h2⟩:=KX hk
   cases r with
   | nil=>rfl
   | cons c xs'=>
    have hl:xs'.length<xs.length:=by rw[h1];simp;omega
    simp only
    cases hp:pl c with
    | false=>rfl
    | true=>
     simp only[Y3,Yt]
     cases hn:decide (0<c.fN) with
     | true=>
      simp only[Yw];rw[GL F F' _ _ _ xs' (by omega) (by omega)]
      cases hq:GY F' (decide (c.fKind=6)) none c.fN.toNat xs' with
      | none=>rfl
      | some q=>
       obtain⟨kids,zs⟩:=q;have:=(G2 _ _ _ _ _ _ _ hq).1;have hz:zs.length≤xs'.length:=by rw[this];simp
       simp only;rw[GL F F' m key k zs (by omega) (by omega)]
     | false=>
      simp only[Yt];rw[GL F F' m key k xs' (by omega) (by omega)]
def Qb {S:Type}(body:S→Option (Stp S Wa))(s:S):Prop:=∃sh',Fin body s (.ret (0,sh',false))∨Fin body s (.go sh')
theorem DE.bad {S:Type}{body:S→Option (Stp S Wa)}{s t:S}(h:DE body s t)(h':Qb body t):Qb body s:=by
 obtain⟨sh',h' | h'⟩:=h'
 ·exact⟨sh',.inl (h.fin h')⟩
 ·exact⟨sh',.inr (h.fin h')⟩
section
variable {F M : Nat} {v : List Aa}
theorem Qb.end_ {S:List Av}{i:Int}{sh:A7}(h0:0≤i)(h:v.drop i.toNat=[]):Qb (OE F v) (S.reverse,i,sh):=by
 refine⟨sh,.inr (Fin.step ?_)⟩;show Dm F v S.reverse i sh=_;unfold Dm;rw[A8];have:v.length≤i.toNat:=by simpa using h
 simp;omega
theorem Qb.pl_ (hA:QY F M v){S:List Av}{i:Int}{sh:A7}{c:Aa}{r:List Aa}(h0:0≤i)(h:v.drop i.toNat=c::r)(hS:(S.length:Int)≤i)(hb:Dp S)(hp:pl c=false):Qb (OE F v) (S.reverse,i,sh):=by
 refine⟨sh,.inl (Fin.step ?_)⟩;rw[round hA h0 h hS hb];simp[Pi,hp]
theorem PO (hA:QY F M v):∀(P:Nat) (k:Nat) (e:Av) (S:List Av) (i:Int) (sh:A7) (last:Option Ae) (xs:List Aa),xs.length<P→GY P e.fPairs last (k+1) xs=none→e.fKey=e.fPairs→e.fLeft=(k:Int)+1→(k:Int)+1≤9223372036854775807→HI e last→(e.fPairs=false→last=none)→v.drop i.toNat=xs→0≤i→(S.length:Int)+1≤i→Dp S→
  Qb (OE F v) ((e::S).reverse,i,sh):=by
 intro P
 induction P with
 | zero=>intro k e S i sh last xs h;omega
 | succ P ih=>
  intro k e S i sh last xs hP hn hk hl hkm hlo hm hv h0 hS hb;have hb':Dp (e::S):=λx hx=>by
   rcases List.mem_cons.1 hx with rfl | hx
   ·constructor<;>omega
   ·exact hb x hx
  rw[GY] at hn
  cases hq:He e.fPairs last xs with
  | none=>
   unfold He at hq
   cases hpr:e.fPairs with
   | false=>rw[hpr] at hq;cases hq
   | true=>
    rw[hpr] at hq hk;simp only[Yw] at hq
    cases xs with
    | nil=>exact Qb.end_ h0 hv
    | cons c r=>
     simp only at hq
     cases hp:pl c with
     | false=>exact Qb.pl_ hA h0 hv (by simpa using hS) hb' hp
     | true=>
      refine⟨sh,.inl (Fin.step ?_)⟩;rw[round hA h0 hv (by simpa using hS) hb'];have ht:(!decide (c.fKind=4)||(e.fStarted&&(Bv c.fStr e.fLast||decide (c.fStr=e.fLast))))=true:=by
       rw[hp] at hq
       cases h4:decide (c.fKind=4) with
       | false=>rfl
       | true=>
        rw[h4] at hq;simp only[Bool.and_self,Y5] at hq;have hok:=(N2 hp (by simpa using h4)).2
        cases last with
        | none=>simp[Bi,hok] at hq
        | some p=>
         obtain⟨q1,q2⟩:=hlo;rw[q1,q2]
         cases hc:(Bv c.fStr p||decide (c.fStr=p)) with
         | true=>rfl
         | false=>simp[Bi,hok,hc] at hq
      simp only[Pi,hp,hk,ht,Y3,Yt,Yw]
  | some q=>
   obtain⟨key,r⟩:=q;obtain⟨h1,h2⟩:=KX hq;rw[hq] at hn;have hkr:=LN (sh:=sh) hA h0 (by rw[hv];exact h1) hS hb' (by rw[hk];exact h2) hlo;have hv1:=CT h0 (hv.trans h1);obtain⟨kl,kp⟩:=IS (e:=e) key;obtain⟨q1,q2⟩:=IT hlo hm h2;have hbk:Dp (EH e key::S):=λx hx=>by
    rcases List.mem_cons.1 hx with rfl | hx
    ·rw[kl];exact hb' e (by simp)
    ·exact hb x hx
   refine hkr.bad ?_
   cases r with
   | nil=>exact Qb.end_ (by omega) hv1
   | cons c xs'=>
    have hlen:xs'.length+1≤xs.length:=by rw[h1];simp
    have hvl:xs.length≤v.length:=by rw[← hv,List.length_drop];omega
    have hvM:=hA.hv;have hMM:=hA.hM;have hkk:=Kh (e:=e) (last:=last) (k:=key) (by rw[hk];exact h2);simp only at hn;have hSk:(((EH e key::S).length:Nat):Int)≤i+(Bs key).length:=by simp only[Yu];omega
    cases hp:pl c with
    | false=>exact Qb.pl_ hA (by omega) hv1 hSk hbk hp
    | true=>
     rw[hp] at hn;simp only[Y3,Yt] at hn;obtain⟨g1,g2,g3⟩:=Ep (by omega) hv1;have hcN:=(hA.hc c (Y6 g1)).2.2;have more:∀(s:NO) (j:Int) (sh':A7) (zs:List Aa),G8 (OE F v) s (EH e key::S) j sh'→v.drop j.toNat=zs→zs.length<P→0≤j→(S.length:Int)+1≤j→GY P e.fPairs key k zs=none→Qb (OE F v) s:=λs j sh' zs hd hz hzl hj hSj hnone=>by
      cases k with
      | zero=>
       cases P with
       | zero=>omega
       | succ P=>cases hnone
      | succ k=>
       have:=hd.more (by rw[kl];omega);refine this.bad (ih k _ S j sh' key zs hzl (by rw[kp];exact hnone) rfl (by simp only[kl];omega) (by omega) ?_ (by simpa using q2) hz hj hSj hb)
       cases key with
       | none=>exact q1
       | some p=>exact q1
     cases hN:decide (0<c.fN) with
     | true=>
      rw[hN] at hn;simp only[Yw] at hn;simp only[Yq] at hN
      by_cases hbig:c.fN≤v.length
      ·have hnd:=Il (sh:=K6 key sh) hA (by omega) hv1 hSk hbk (by simpa[Ki] using hkk) hp (by simpa using hN) hbig;refine hnd.bad ?_
       cases hks:GY P (decide (c.fKind=6)) none c.fN.toNat xs' with
       | none=>
        obtain⟨n',hn'⟩:∃n',c.fN.toNat=n'+1:=⟨c.fN.toNat-1,by omega⟩
        rw[hn'] at hks;exact ih n' _ _ _ _ none xs' (by omega) hks rfl (by simp only;omega) (by omega) rfl (λ_=>rfl) g2 (by omega) (by simp only[Yu];omega) hbk
       | some q=>
        obtain⟨kids,zs⟩:=q;rw[hks] at hn;simp only at hn;have hn2:GY P e.fPairs key k zs=none:=by
         cases hz:GY P e.fPairs key k zs with
         | none=>rfl
         | some q=>rw[hz] at hn;cases hn
        obtain⟨a1,a2,a3⟩:=G2 _ _ _ _ _ _ _ hks;have hd:=KC hA kids ⟨decide (c.fKind=6),c.fN,decide (c.fKind=6),[],false⟩ (EH e key::S) (i+(Bs key).length+1) (Hy (S.length+1) (K6 key sh) c) none zs (by omega) a2 rfl (by simp only;omega) rfl (λ_=>rfl) (by rw[g2];exact a1) (by omega) (by simp only[Yu];omega) hbk;have hz:v.drop (i+(Bs key).length+1+kids.flat.length).toNat=zs:=CT (by omega) (g2.trans a1);have hzl:zs.length≤xs'.length:=by rw[a1];simp
        exact more _ _ _ zs hd hz (by omega) (by omega) (by omega) hn2
      ·refine⟨Hy (EH e key::S).length (K6 key sh) c,.inl (Fin.step ?_)⟩;rw[round hA (by omega) hv1 hSk hbk];have hbig':decide ((v.length:Int)<c.fN)=true:=by simpa using hbig
       simp only[Pi,hp,hkk,hbig',hN,Y3,Yt,Yw,decide_true]
     | false=>
      rw[hN] at hn;simp only[Yt] at hn;have hn2:GY P e.fPairs key k xs'=none:=by
       cases hz:GY P e.fPairs key k xs' with
       | none=>rfl
       | some q=>rw[hz] at hn;cases hn
      have hd:=Kf (sh:=K6 key sh) hA (by omega) hv1 hSk hbk (by simpa[Ki] using hkk) hp hN;exact more _ _ _ xs' hd g2 (by omega) (by omega) (by omega) hn2
def Hf (xs:List Aa):Option (Fo×List Aa):=GY (xs.length+1) false none 1 xs
theorem Qw {P:Nat}{xs ys:List Aa}{f:Fo}(h:GY P false none 1 xs=some (f,ys)):f.one=true:=by
 obtain⟨h1,h2,h3⟩:=G2 _ _ _ _ _ _ _ h
 cases f with
 | nil=>cases h3
 | cell k c r=>
  cases r with
  | nil=>
   cases k with
   | none=>rfl
   | some s=>simp[Fo.wf,Bi] at h2
  | cell _ _ _=>simp[Fo.cnt] at h3
  | node _ _ _ _=>simp[Fo.cnt] at h3
 | node k c kids r=>
  cases r with
  | nil=>
   cases k with
   | none=>rfl
   | some s=>simp[Fo.wf,Bi] at h2
  | cell _ _ _=>simp[Fo.cnt] at h3
  | node _ _ _ _=>simp[Fo.cnt] at h3
theorem RQ (hA:QY F M v)(h:Hf v=none):Qb (OE F v) ([],0,L6):=by
 have hlf:Dp []:=λx hx=>by cases hx
 unfold Hf at h;rw[GY] at h;simp only[He,Yt] at h
 cases v with
 | nil=>exact Qb.end_ (S:=[]) (YQ 0) rfl
 | cons c xs'=>
  have hv1:(c::xs').drop (0:Int).toNat=c::xs':=rfl;have hvM:=hA.hv;have hMM:=hA.hM;simp only at h
  cases hp:pl c with
  | false=>exact Qb.pl_ (S:=[]) hA (YQ 0) hv1 (by simp) hlf hp
  | true=>
   rw[hp] at h;simp only[Y3,Yt] at h;have hcN:=(hA.hc c (by simp)).2.2
   cases hN:decide (0<c.fN) with
   | true=>
    rw[hN] at h;simp only[Yw] at h;simp only[Yq] at hN
    by_cases hbig:c.fN≤(c::xs').length
    ·have hnd:=Il (S:=[]) (sh:=L6) hA (YQ 0) hv1 (by simp) hlf rfl hp (by simpa using hN) hbig;refine hnd.bad ?_
     cases hks:GY (c::xs').length (decide (c.fKind=6)) none c.fN.toNat xs' with
     | none=>
      obtain⟨n',hn'⟩:∃n',c.fN.toNat=n'+1:=⟨c.fN.toNat-1,by omega⟩
      rw[hn'] at hks;exact PO hA (c::xs').length n' ⟨decide (c.fKind=6),c.fN,decide (c.fKind=6),[],false⟩ [] (0+1) _ none xs' (by simp) hks rfl (by simp only;omega) (by omega) rfl (λ_=>rfl) rfl (by omega) (by simp) hlf
     | some q=>rw[hks] at h;cases h
    ·refine⟨Hy 0 L6 c,.inl (Fin.step ?_)⟩;rw[show OE F (c::xs') (([]:List Av),0,L6)=_ from round (S:=[]) hA (YQ 0) hv1 (by simp) hlf];have hbig':decide (((c::xs').length:Int)<c.fN)=true:=by simpa using hbig
     simp only[Pi,hp,hbig',hN,Y3,Yt,Yw,decide_true]
   | false=>rw[hN] at h;cases h
theorem Vu (hA:QY F M v):(∃f ys,Hf v=some (f,ys)∧Hu F v=some ((f.flat.length:Int),f.sh 0 L6,true))∨(Hf v=none∧∃sh',Hu F v=some (0,sh',false)):=by
 cases h:Hf v with
 | some q=>
  obtain⟨f,ys⟩:=q;obtain⟨h1,h2,h3⟩:=G2 _ _ _ _ _ _ _ h;exact .inl ⟨f,ys,rfl,OD hA (Qw h) h2 h1⟩
 | none=>
  refine .inr ⟨rfl,?_⟩;obtain⟨o,ho,_⟩:=LJ hA;obtain⟨sh',hb | hb⟩:=RQ hA h
  ·have e:=hb.eq ho;subst e;exact⟨sh',by unfold Hu;rw[AC ho];rfl⟩
  ·have e:=hb.eq ho;subst e;exact⟨sh',by unfold Hu;rw[AC ho];rfl⟩
end
theorem HS {x:Int}(h : -9223372036854775808≤x)(h':x≤9223372036854775807):IntKind.wrap .i64 x=x:=by
 simp only[IntKind.wrap,IntKind.bits,IntKind.signed];simp;omega
def Fo.dep:Fo→Nat
 | .nil=>0
 | .cell _ _ r=>max 1 r.dep
 | .node _ _ kids r=>max (kids.dep+1) r.dep
theorem ES (k:Option Ae)(s:A7):(K6 k s).fDepth=s.fDepth∧(K6 k s).fOutside=s.fOutside∧(K6 k s).fLong=(s.fLong||(Bs k).any λc=>decide (200<(c.fStr.length:Int))):=by
 cases k with
 | none=>simp[K6,Bs]
 | some x=>simp[K6,Xa,Bs]
theorem Js:∀(f:Fo) (d:Nat) (s:A7),(d:Int)≤s.fDepth→(f.sh d s).fDepth=max s.fDepth ((d:Int)+f.dep)
 | .nil,d,s,h=>by simp only[Fo.sh,Fo.dep];omega
 | .cell k c r,d,s,h=>by
  have hk:=(ES k s).1;have e:(Hy d (K6 k s) c).fDepth=max s.fDepth ((d:Int)+1):=by rw[Hy,hk]
  rw[Fo.sh,Js r d _ (by rw[e];omega),e,Fo.dep];omega
 | .node k c kids r,d,s,h=>by
  have hk:=(ES k s).1;have e:(Hy d (K6 k s) c).fDepth=max s.fDepth ((d:Int)+1):=by rw[Hy,hk]
  have e2:=Js kids (d+1) (Hy d (K6 k s) c) (by rw[e];omega);rw[e] at e2;rw[Fo.sh,Js r d _ (by rw[e2];omega),e2,Fo.dep];omega
def BE (c:Aa):Bool:=decide (c.fKind=3)&&!(decide ((-1000000000000)≤c.fInt)&&decide (c.fInt≤1000000000000))
def MQ (c:Aa):Bool:=decide (200<(c.fStr.length:Int))
theorem LO (k:Option Ae):(Bs k).any BE=false:=by cases k<;>simp[Bs,BE]
theorem Nt:∀(f:Fo) (d:Nat) (s:A7),(f.sh d s).fOutside=(s.fOutside||f.flat.any BE)
 | .nil,d,s=>by simp[Fo.sh,Fo.flat]
 | .cell k c r,d,s=>by
  rw[Fo.sh,Nt r,Hy,(ES k s).2.1];simp only[Fo.flat,List.any_append,List.any_cons,LO,Y7,Bool.or_assoc];rfl
 | .node k c kids r,d,s=>by
  rw[Fo.sh,Nt r,Nt kids,Hy,(ES k s).2.1];simp only[Fo.flat,List.any_append,List.any_cons,LO,Y7,Bool.or_assoc];rfl
theorem KU:∀(f:Fo) (d:Nat) (s:A7),(f.sh d s).fLong=(s.fLong||f.flat.any MQ)
 | .nil,d,s=>by simp[Fo.sh,Fo.flat]
 | .cell k c r,d,s=>by
  rw[Fo.sh,KU r,Hy,(ES k s).2.2];simp only[Fo.flat,List.any_append,List.any_cons,Bool.or_assoc];rfl
 | .node k c kids r,d,s=>by
  rw[Fo.sh,KU r,KU kids,Hy,(ES k s).2.2];simp only[Fo.flat,List.any_append,List.any_cons,Bool.or_assoc];rfl
def S6 (c:Aa):Int:=
 bif decide (c.fKind=1) then 4 else bif decide (c.fKind=2) then 5-c.fInt else bif decide (c.fKind=3) then((Lib.itoa c.fInt).length:Int) else
 bif decide (c.fKind=4) then JZ c.fStr else 2
def N8:Option Ae→Int
 | none=>0
 | some s=>JZ s+1
def Fo.byt:Fo→Int
 | .nil=>0
 | .cell k c r=>N8 k+S6 c+r.byt
 | .node k c kids r=>N8 k+(c.fN+1)+kids.byt+r.byt
theorem Jx (s:Ae):2≤JZ s:=by unfold JZ;omega
theorem Lf (k:Option Ae):0≤N8 k:=by
 cases k with
 | none=>exact YQ 0
 | some s=>have:=Jx s;simp only[N8];omega
theorem QB {c:Aa}(hp:pl c=true):0≤S6 c:=by
 unfold S6
 cases h1:decide (c.fKind=1) with
 | true=>simp
 | false=>
  cases h2:decide (c.fKind=2) with
  | true=>
   simp[pl,h1,h2] at hp;simp only[Yt,Yw];omega
  | false=>
   cases h3:decide (c.fKind=3) with
   | true=>simp
   | false=>
    cases h4:decide (c.fKind=4) with
    | true=>have:=Jx c.fStr;simp only[Yt,Yw];omega
    | false=>simp
theorem Tr {c:Aa}(hp:pl c=true):0≤c.fN:=by
 simp only[pl,← Bool.decide_or] at hp
 cases h1:decide (c.fKind=1)<;>cases h2:decide (c.fKind=2)<;>cases h3:decide (c.fKind=3)<;>cases h4:decide (c.fKind=4)<;>cases h5:decide (c.fKind=5)<;>cases h6:decide (c.fKind=6)<;>simp[h1,h2,h3,h4,h5,h6] at hp<;>omega
theorem La {c:Aa}(hp:pl c=true)(hn:0<c.fN):(c.fKind=5∨c.fKind=6)∧c.fInt=0∧c.fStr=[]:=by
 cases h1:decide (c.fKind=1)<;>cases h2:decide (c.fKind=2)<;>cases h3:decide (c.fKind=3)<;>cases h4:decide (c.fKind=4)<;>cases h5:decide (c.fKind=5)<;>cases h6:decide (c.fKind=6)<;>simp[pl,h1,h2,h3,h4,h5,h6] at hp<;>(simp only[Yq,Yr] at *;first | omega | exact⟨by omega,hp.1,hp.2.1⟩)
theorem SW {c:Aa}(hp:pl c=true)(hn:decide (0<c.fN)=false):Wk c=S6 c:=by
 have hN:=Tr hp;have h0:c.fN=0:=by simp only[Yr] at hn;omega
 unfold Wk S6;rw[h0]
 cases h1:decide (c.fKind=1) with
 | true=>rfl
 | false=>
  cases h2:decide (c.fKind=2) with
  | true=>
   simp[pl,h1,h2] at hp;simp only[Yt,Yw];exact HS (by omega) (by omega)
  | false=>rfl
theorem SV {c:Aa}(hp:pl c=true)(hn:0<c.fN)(hm:c.fN≤9223372036854775000):Wk c=c.fN+1:=by
 obtain⟨hk,_,_⟩:=La hp hn;unfold Wk;rw[Yx (by omega),Yx (by omega),Yx (by omega),Yx (by omega)];simp only[Yt];rw[HS (x:=c.fN-1) (by omega) (by omega),HS (by omega) (by omega)];omega
theorem Gx:∀{f:Fo} {m:Bool} {l:Option Ae},f.wf m l=true→0≤f.byt
 | .nil,_,_,_=>YQ 0
 | .cell k c r,m,l,h=>by
  simp only[Fo.wf,Yv] at h;have h1:=Gx h.2;have h2:=QB h.1.1.2;have h3:=Lf k;simp only[Fo.byt];omega
 | .node k c kids r,m,l,h=>by
  simp only[Fo.wf,Yv,Yq] at h;have h1:=Gx h.2;have h2:=Gx h.1.2;have h3:=Lf k;simp only[Fo.byt];omega
theorem MD (k:Option Ae)(s:A7)(h0:0≤s.fBytes)(h:s.fBytes+N8 k≤9223372036854775807):(K6 k s).fBytes=s.fBytes+N8 k:=by
 cases k with
 | none=>simp[K6,N8]
 | some x=>
  have:=Jx x;simp only[N8] at h;simp only[K6,Xa,N8];exact HS (by omega) (by omega)
theorem Jt:∀(f:Fo) (m:Bool) (l:Option Ae) (d:Nat) (s:A7),f.wf m l=true→0≤s.fBytes→s.fBytes+f.byt≤9223372036854775000→(f.sh d s).fBytes=s.fBytes+f.byt
 | .nil,_,_,d,s,_,_,_=>by simp[Fo.sh,Fo.byt]
 | .cell k c r,m,l,d,s,hw,h0,h=>by
  simp only[Fo.wf,Yv,YC] at hw;obtain⟨⟨⟨w1,w2⟩,w3⟩,w4⟩:=hw;have h1:=Gx w4;have h2:=QB w2;have h3:=Lf k;simp only[Fo.byt] at h;have e1:=MD k s h0 (by omega);have e:(Hy d (K6 k s) c).fBytes=s.fBytes+N8 k+S6 c:=by
   rw[Hy,e1,SW w2 w3];exact HS (by omega) (by omega)
  rw[Fo.sh,Jt r _ _ d _ w4 (by rw[e];omega) (by rw[e];omega),e,Fo.byt];omega
 | .node k c kids r,m,l,d,s,hw,h0,h=>by
  simp only[Fo.wf,Yv,Yq] at hw;obtain⟨⟨⟨⟨⟨w1,w2⟩,w3⟩,w5⟩,w6⟩,w4⟩:=hw;have h1:=Gx w4;have h2:=Gx w6;have h3:=Lf k;simp only[Fo.byt] at h;have e1:=MD k s h0 (by omega);have e:(Hy d (K6 k s) c).fBytes=s.fBytes+N8 k+(c.fN+1):=by
   rw[Hy,e1,SV w2 w3 (by omega)];exact HS (by omega) (by omega)
  have e2:=Jt kids _ _ (d+1) (Hy d (K6 k s) c) w6 (by rw[e];omega) (by rw[e];omega);rw[Fo.sh,Jt r _ _ d _ w4 (by rw[e2,e];omega) (by rw[e2,e];omega),e2,e,Fo.byt];omega
def Ef (s:Ae):Ae:=s.flatMap λc=>bif (decide (c=34)||decide (c=92)) then[92,c] else[c]
def EL (s:Ae):Ae:=34::(Ef s++[34])
theorem LT:∀s:Ae,(Ef s).length=s.length+s.count 34+s.count 92
 | []=>rfl
 | c::s=>by
  have ih:=LT s;unfold Ef at ih ⊢;rw[List.flatMap_cons,Yz,ih]
  by_cases h1:c=34
  ·subst h1;simp;omega
  ·by_cases h2:c=92
   ·subst h2;simp;omega
   ·simp[h1,h2,List.count_cons];omega
theorem Ot (s:Ae):((EL s).length:Int)=JZ s:=by
 simp only[EL,Yu,Yz,LT,Zc,JZ];omega
def D5 (c:Aa):Ae:=
 bif decide (c.fKind=1) then[110,117,108,108] else
 bif decide (c.fKind=2) then(bif decide (c.fInt=1) then[116,114,117,101] else[102,97,108,115,101]) else
 bif decide (c.fKind=3) then Lib.itoa c.fInt else
 bif decide (c.fKind=4) then EL c.fStr else
 bif decide (c.fKind=6) then[123,125] else[91,93]
def GZ:Option Ae→Ae
 | none=>[]
 | some s=>EL s++[58]
def Pc (c:Aa)(s:Ae):Ae:=bif decide (c.fKind=6) then 123::(s++[125]) else 91::(s++[93])
def CO (first:Bool):Ae:=bif first then[] else[44]
def Fo.txt:Bool→Fo→Ae
 | _,.nil=>[]
 | b,.cell k c r=>CO b++GZ k++D5 c++r.txt false
 | b,.node k c kids r=>CO b++GZ k++Pc c (kids.txt true)++r.txt false
theorem QG (k:Option Ae):((GZ k).length:Int)=N8 k:=by
 cases k with
 | none=>rfl
 | some s=>simp only[GZ,Yz,N8,YP];have:=Ot s;omega
theorem MT {c:Aa}(hp:pl c=true):((D5 c).length:Int)=S6 c:=by
  unfold D5 S6
  cases h1:decide (c.fKind=1) with
  | true=>rfl
  | false=>
    cases h2:decide (c.fKind=2) with
    | true=>
      simp[pl,h1,h2] at hp;simp only[Yt,Yw]
      cases h7:decide (c.fInt=1) with
      | true=>simp only[Yq] at h7;simp[h7]
      | false=>
                 simp only[Yr] at h7;have:c.fInt=0:=by omega
                 simp[this]
    | false=>
      cases h3:decide (c.fKind=3) with
      | true=>rfl
      | false=>
        cases h4:decide (c.fKind=4) with
        | true=>simpa using Ot c.fStr
        | false=>cases h6:decide (c.fKind=6)<;>rfl
theorem JP (c:Aa)(s:Ae):(Pc c s).length=s.length+2:=by
 unfold Pc
 cases decide (c.fKind=6)<;>simp
theorem Ib:∀(f:Fo) (m:Bool) (l:Option Ae) (b:Bool),f.wf m l=true→((f.txt b).length:Int)=f.byt+(bif b then((f.cnt-1:Nat):Int) else(f.cnt:Int))
 | .nil,m,l,b,_=>by cases b<;>rfl
 | .cell k c r,m,l,b,hw=>by
  simp only[Fo.wf,Yv,YC] at hw;obtain⟨⟨⟨w1,w2⟩,w3⟩,w4⟩:=hw;have ih:=Ib r _ _ false w4;have a:=QG k;have d:=MT w2;simp only[Yt] at ih
  cases b<;>simp only[Fo.txt,Fo.byt,Fo.cnt,CO,Yw,Yt,Yz,Zc,YP]<;>omega
 | .node k c kids r,m,l,b,hw=>by
  simp only[Fo.wf,Yv,Yq] at hw;obtain⟨⟨⟨⟨⟨w1,w2⟩,w3⟩,w5⟩,w6⟩,w4⟩:=hw;have ih:=Ib r _ _ false w4;have ih2:=Ib kids _ _ true w6;have a:=QG k;have d:=JP c (kids.txt true);simp only[Yt,Yw] at ih ih2
  cases b<;>simp only[Fo.txt,Fo.byt,Fo.cnt,CO,Yw,Yt,Yz,Zc,YP]<;>omega
def Fo.put (k:Option Ae):Fo→Fo→Fo
 | .cell _ c _,r=>.cell k c r
 | .node _ c kids _,r=>.node k c kids r
 | .nil,_=>.nil
theorem Tp (P:Nat)(m:Bool)(last:Option Ae)(k:Nat)(xs:List Aa):GY (P+2) m last (k+1) xs =
  match He m last xs with
  | none=>none
  | some (key,ys)=>match GY (P+2) false none 1 ys with
   | none=>none
   | some (f,zs)=>match GY (P+1) m key k zs with
    | none=>none
    | some (r,us)=>some (f.put key r,us):=by
 rw[GY]
 cases hk:He m last xs with
 | none=>rfl
 | some p=>
  obtain⟨key,ys⟩:=p;simp only;rw[GY];simp only[He,Yt]
  cases ys with
  | nil=>rfl
  | cons c ys=>
   simp only
   cases hp:pl c with
   | false=>rfl
   | true=>
    simp only[Y3,Yt]
    cases hn:decide (0<c.fN) with
    | true=>
     simp only[Yw]
     cases hq:GY (P+1) (decide (c.fKind=6)) none c.fN.toNat ys with
     | none=>rfl
     | some q=>
      obtain⟨kids,zs⟩:=q;simp only[GY]
      cases hr:GY (P+1) m key k zs with
      | none=>rfl
      | some q=>obtain⟨a,b⟩:=q;rfl
    | false=>
     simp only[Yt,GY]
     cases hr:GY (P+1) m key k ys with
     | none=>rfl
     | some q=>obtain⟨a,b⟩:=q;rfl
def LD (m:Bool)(last:Option Ae)(k:Nat)(xs:List Aa):Option (Fo×List Aa):=GY (xs.length+1) m last k xs
theorem Ka (m:Bool)(last:Option Ae)(xs:List Aa):LD m last 0 xs=some (.nil,xs):=rfl
theorem EU (m:Bool)(last:Option Ae)(k:Nat)(xs:List Aa):LD m last (k+1) xs =
  match He m last xs with
  | none=>none
  | some (key,ys)=>match Hf ys with
   | none=>none
   | some (f,zs)=>match LD m key k zs with
    | none=>none
    | some (r,us)=>some (f.put key r,us):=by
 unfold LD Hf;rw[GL (xs.length+1) (xs.length+2) m last (k+1) xs (by omega) (by omega),Tp]
 cases hk:He m last xs with
 | none=>rfl
 | some p=>
  obtain⟨key,ys⟩:=p;have h1:=(KX hk).1;have hy:ys.length≤xs.length:=by rw[h1];simp
  simp only;rw[GL (xs.length+2) (ys.length+1) false none 1 ys (by omega) (by omega)]
  cases hf:GY (ys.length+1) false none 1 ys with
  | none=>rfl
  | some q=>
   obtain⟨f,zs⟩:=q;have h2:=(G2 _ _ _ _ _ _ _ hf).1;have hz:zs.length≤ys.length:=by rw[h2];simp
   simp only;rw[GL (xs.length+1) (zs.length+1) m key k zs (by omega) (by omega)]
   all_goals (cases GY (zs.length+1) m key k zs<;>rfl)
theorem JA {S O:Type}{body:S→Option (Stp S O)}{n:Nat}{s s':S}{o:O}(h:body s=some (.next s'))(h':Cs body n s'=some o):Cs body (n+1) s=some o:=by rw[Cs,h];exact h'
theorem DX {S O:Type}{body:S→Option (Stp S O)}{n:Nat}{s:S}{o:O}(h:body s=some (.out o)):Cs body (n+1) s=some o:=by rw[Cs,h]
theorem Tq:Hf []=none:=rfl
theorem GM (c:Aa)(r:List Aa):Hf (c::r)=bif !pl c then none else bif decide (0<c.fN) then(match LD (decide (c.fKind=6)) none c.fN.toNat r with
  | none=>none
  | some (kids,zs)=>some (.node none c kids .nil,zs)) else some (.cell none c .nil,r):=by
 unfold Hf;rw[GY];simp only[He,Yt]
 cases hp:pl c with
 | false=>rfl
 | true=>
  simp only[Y3,Yt]
  cases hn:decide (0<c.fN) with
  | true=>
   simp only[Yw];unfold LD;rw[Yu]
   cases hq:GY (r.length+1) (decide (c.fKind=6)) none c.fN.toNat r with
   | none=>rfl
   | some q=>obtain⟨kids,zs⟩:=q;rfl
  | false=>rfl
theorem Ej {f:Fo}(h:f.one=true)(key:Option Ae)(r:Fo):(f.put key r).flat=Bs key++(f.flat++r.flat):=by
 cases f with
 | nil=>cases h
 | cell k c r'=>
  cases k with
  | some s=>cases h
  | none=>cases r' with
   | nil=>simp[Fo.put,Fo.flat,Bs]
   | cell _ _ _=>cases h
   | node _ _ _ _=>cases h
 | node k c kids r'=>
  cases k with
  | some s=>cases h
  | none=>cases r' with
   | nil=>simp[Fo.put,Fo.flat,Bs]
   | cell _ _ _=>cases h
   | node _ _ _ _=>cases h
theorem J3 {f:Fo}(h:f.one=true):1≤f.flat.length:=by
 cases f with
 | nil=>cases h
 | cell k c r'=>simp[Fo.flat];omega
 | node k c kids r'=>simp[Fo.flat];omega
theorem Jy {xs ys:List Aa}{f:Fo}(h:Hf xs=some (f,ys)):xs=f.flat++ys∧f.wf false none=true∧f.one=true:=
 ⟨(G2 _ _ _ _ _ _ _ h).1,(G2 _ _ _ _ _ _ _ h).2.1,Qw h⟩
def IA (v:List Aa)(i:Int):Int:=match Hf (v.drop i.toNat) with
 | none=>-1
 | some (f,_)=>i+f.flat.length
def J7 (m:Bool)(last:Option Ae)(v:List Aa)(i:Int)(k:Nat):Int:=match LD m last k (v.drop i.toNat) with
 | none=>-1
 | some (f,_)=>i+f.flat.length
theorem MK {v:List Aa}{i:Int}(h0:0≤i)(h1:i≤v.length):IA v i = -1∨(i<IA v i∧IA v i≤v.length):=by
 unfold IA
 cases h:Hf (v.drop i.toNat) with
 | none=>exact .inl rfl
 | some q=>
  obtain⟨f,ys⟩:=q;obtain⟨h2,_,h3⟩:=Jy h;have:=J3 h3;have hl:(v.drop i.toNat).length=f.flat.length+ys.length:=by rw[h2];simp
  rw[List.length_drop] at hl
  right;simp only;omega
structure XB (F M:Nat) (v:List Aa):Prop where
 hM:M≤1152921504606846976
 hv:v.length≤M
 hF:M<F
 hc:∀c∈v,c.fStr.length≤M
theorem R4 (ok:Bool){i:Int}(h0:0≤i)(h1:i≤1152921504606846976):Cu ok i=some (bif ok then i+1 else -1):=by
 unfold Cu
 cases ok
 ·rfl
 ·rw[AL rfl,AV (by omega) (by omega)];rfl
theorem Qs {F:Nat}{c:Aa}(hF:c.fStr.length<F)(hs:c.fStr.length≤1152921504606846976):Tm F c=some (decide (c.fKind=4)&&pl c):=by
 unfold Tm;rw[R1 hF (by omega)];simp only[Option.isSome_some,ov,YS,imp,YJ,Bc,Yw]
 cases h4:decide (c.fKind=4) with
 | false=>rfl
 | true=>
  simp only[Yq] at h4;simp[pl,h4]
theorem NK {v:List Aa}{i:Int}{c:Aa}{r:List Aa}(h0:0≤i)(h:v.drop i.toNat=c::r):Ar v i=c:=by
 have:=(Ep h0 h).1;simp[Ar,this]
section
variable {M : Nat} {v : List Aa}
theorem I4 {F:Nat}(hA:XB F M v){g:List Aa→Int→Option Int}{n:Int}(hn:n≤9223372036854775807):∀(L:Nat) (i x:Int),0≤i→i≤v.length→0≤x→x≤n→(∀j,i≤j→j≤v.length→g v j=some (IA v j))→v.length-i.toNat<L→
  ∃o,Cs (λσ=>Dz v n g σ.1 σ.2) L (i,x)=some o∧BN (λν=>Hd ν) o=some (J7 false none v i (n-x).toNat)
 | 0,i,x,_,_,_,_,_,h=>by omega
 | L+1,i,x,h0,h1,hx,hxn,hg,hL=>by
  cases hxl:decide (x<n) with
  | false=>
   refine⟨.go i,DX (by show Dz v n g i x=_;unfold Dz;rw[A8 hxl]),?_⟩;simp only[Yr] at hxl;rw[show(n-x).toNat=0 from by omega];simp[BN,Hd,J7,Ka,Fo.flat]
  | true=>
   have hb:Dz v n g i x=Bw (decide (IA v i<0)) (some (.out (.ret (-1)))) (Bc (BT .i64 (x+1))<|some (.next (IA v i,x+1))):=by unfold Dz;rw[AL hxl,hg i (YQ i) h1,AC rfl]
   simp only[Yq] at hxl;obtain⟨k,hk⟩:∃k,(n-x).toNat=k+1:=⟨(n-x).toNat-1,by omega⟩
   rw[hk];have e:J7 false none v i (k+1)=bif decide (IA v i<0) then -1 else J7 false none v (IA v i) k:=by
    unfold J7;rw[EU];simp only[He,Yt]
    cases hp:Hf (v.drop i.toNat) with
    | none=>simp[IA,hp]
    | some q=>
     obtain⟨f,ys⟩:=q;obtain⟨q1,q2,q3⟩:=Jy hp;have hi:IA v i=i+f.flat.length:=by simp[IA,hp]
     have hd:v.drop (IA v i).toNat=ys:=by rw[hi];exact CT h0 q1
     rw[hd,Yx (by omega)];simp only[Yt]
     cases hr:LD false none k ys with
     | none=>rfl
     | some q=>
      obtain⟨r,zs⟩:=q;simp only[Ej q3,Bs,Zf,Yz,hi];omega
   rw[e];rcases MK (v:=v) h0 h1 with hneg | ⟨hlt,hle⟩
   ·exact⟨.ret (-1),DX (hb.trans (by rw[hneg,AL (by decide)])),by rw[hneg];rfl⟩
   ·have hM:=hA.hM;have hvM:=hA.hv;obtain⟨o,ho1,ho2⟩:=I4 hA hn L (IA v i) (x+1) (by omega) hle (by omega) (by omega) (λj hj=>hg j (by omega)) (by omega);exact⟨o,JA (hb.trans (by rw[A8 (Yx (by omega)),AV (by omega) (by omega)])) ho1,by rw[ho2,show(n-(x+1)).toNat=k from by omega,Yx (by omega)];rfl⟩
theorem LB {F:Nat}(hA:XB F M v){g:List Aa→Int→Option Int}{n:Int}(hn:n≤9223372036854775807):∀(L:Nat) (i x:Int) (last:Ae),0≤i→i≤v.length→0≤x→x≤n→(∀j,i≤j→j≤v.length→g v j=some (IA v j))→v.length-i.toNat<L→
  ∃o,Cs (λσ=>DW F v n g σ.1 σ.2.1 σ.2.2) L (i,last,x)=some o∧BN (λν=>JY ν) o=some (J7 true (bif decide (0<x) then some last else none) v i (n-x).toNat)
 | 0,i,x,_,_,_,_,_,_,h=>by omega
 | L+1,i,x,last,h0,h1,hx,hxn,hg,hL=>by
  have hM:=hA.hM;have hvM:=hA.hv;have hMF:=hA.hF
  cases hxl:decide (x<n) with
  | false=>
   refine⟨.go i,DX (by show DW F v n g i last x=_;unfold DW;rw[A8 hxl]),?_⟩;simp only[Yr] at hxl;rw[show(n-x).toNat=0 from by omega];simp[BN,JY,J7,Ka,Fo.flat]
  | true=>
   have hxl':=hxl;simp only[Yq] at hxl;obtain⟨k,hk⟩:∃k,(n-x).toNat=k+1:=⟨(n-x).toNat-1,by omega⟩
   rw[hk]
   cases hd:v.drop i.toNat with
   | nil=>
    have hl:v.length≤i.toNat:=by simpa using hd
    refine⟨.ret (-1),DX (by
     show DW F v n g i last x=_;unfold DW;rw[AL hxl',BG (by simp[imp,show(v.length:Int)≤i from by omega]),BG (by simp[imp,show(v.length:Int)≤i from by omega]),AL (by simp[show(v.length:Int)≤i from by omega])]),?_⟩
    simp[BN,J7,hd,EU,He]
   | cons c r=>
    obtain⟨g1,g2,g3⟩:=Ep h0 hd;have hcM:=hA.hc c (Y6 g1);have hat:=NK h0 hd;have hnl:decide ((v.length:Int)≤i)=false:=by simp;omega
    have hb:DW F v n g i last x=Bw (!(decide (c.fKind=4)&&pl c)||decide (0<x)&&(Bv c.fStr last||decide (c.fStr=last))) (some (.out (.ret (-1)))) (B0 (g v (i+1)) λha=>Bw (decide (ha<0)) (some (.out (.ret (-1)))) (Bc (BT .i64 (x+1))<|some (.next (ha,c.fStr,x+1)))):=by
     unfold DW;rw[AL hxl',BG (by simp only[imp];rw[PN h0 g3];simp),hat,Qs (by omega) (by omega),BG (by simp[imp])];simp only[hnl,ov,YS,Y7];rw[Bg h0 g3,AV (by omega) (by omega)]
    have hpk:He true (bif decide (0<x) then some last else none) (c::r)=bif (!(decide (c.fKind=4)&&pl c)||decide (0<x)&&(Bv c.fStr last||decide (c.fStr=last))) then none else some (some c.fStr,r):=by
     simp only[He,Yw]
     cases h4:decide (c.fKind=4) with
     | false=>simp
     | true=>
      cases hp:pl c with
      | false=>simp
      | true=>
       have hok:=(N2 hp (by simpa using h4)).2
       cases h0x:decide (0<x) with
       | false=>simp[Bi,hok]
       | true=>cases hs:(Bv c.fStr last||decide (c.fStr=last))<;>simp[Bi,hok,hs]
    cases ht:(!(decide (c.fKind=4)&&pl c)||decide (0<x)&&(Bv c.fStr last||decide (c.fStr=last))) with
    | true=>
     rw[ht] at hpk;refine⟨.ret (-1),DX (hb.trans (AL ht)),?_⟩;simp only[J7,hd,EU,hpk,Yw];rfl
    | false=>
     rw[ht] at hpk;rw[A8 ht,hg (i+1) (by omega) (by omega),AC rfl] at hb;have e:J7 true (bif decide (0<x) then some last else none) v i (k+1)=bif decide (IA v (i+1)<0) then -1 else J7 true (some c.fStr) v (IA v (i+1)) k:=by
      unfold J7;rw[hd,EU,hpk];simp only[Yt];have hx:IA v (i+1)=match Hf r with | none=>-1 | some (f,_)=>i+1+f.flat.length:=by unfold IA;rw[g2]
      cases hp:Hf r with
      | none=>rw[hp] at hx;simp[hx]
      | some q=>
       obtain⟨f,ys⟩:=q;obtain⟨q1,q2,q3⟩:=Jy hp;rw[hp] at hx;simp only at hx;have hd2:v.drop (IA v (i+1)).toNat=ys:=by rw[hx];exact CT (by omega) (g2.trans q1)
       rw[hd2,Yx (by omega)];simp only[Yt]
       cases hr:LD true (some c.fStr) k ys with
       | none=>rfl
       | some q=>
        obtain⟨r',zs⟩:=q;simp only[Ej q3,Bs,Yz,Yu,Zc,hx];omega
     rw[e];rcases MK (v:=v) (i:=i+1) (by omega) (by omega) with hneg | ⟨hlt,hle⟩
     ·exact⟨.ret (-1),DX (hb.trans (by rw[hneg,AL (by decide)])),by rw[hneg];rfl⟩
     ·obtain⟨o,ho1,ho2⟩:=LB hA hn L (IA v (i+1)) (x+1) c.fStr (by omega) hle (by omega) (by omega) (λj hj=>hg j (by omega)) (by omega);exact⟨o,JA (hb.trans (by rw[A8 (Yx (by omega)),AV (by omega) (by omega)])) ho1,by rw[ho2,show(n-(x+1)).toNat=k from by omega,Y0 (show(0:Int)<x+1 from by omega),Yx (by omega)];rfl⟩
theorem O7 {i:Int}{c:Aa}{r:List Aa}(h0:0≤i)(hd:v.drop i.toNat=c::r)(hp:pl c=true):IA v i=J7 (decide (c.fKind=6)) none v (i+1) c.fN.toNat:=by
 have g2:=(Ep h0 hd).2.1;have hN:=Tr hp;unfold IA J7;rw[hd,GM,g2,hp];simp only[Y3,Yt]
 cases hn:decide (0<c.fN) with
 | true=>
  simp only[Yw]
  cases hq:LD (decide (c.fKind=6)) none c.fN.toNat r with
  | none=>rfl
  | some q=>
   obtain⟨kids,zs⟩:=q;simp only[Fo.flat,Bs,Zf,Yu,Zg];omega
 | false=>
  simp only[Yr] at hn;rw[show c.fN.toNat=0 from by omega,Ka];simp[Fo.flat,Bs]
theorem Tl (hA:XB (M+1) M v)(hN:∀c∈v,c.fN≤9223372036854775807):∀(d F:Nat) (i:Int),0≤i→i≤v.length→v.length-i.toNat=d→M+2*d+3<F→ME F v i=some (IA v i):=by
 have hM:=hA.hM;have hvM:=hA.hv;intro d
 induction d using Nat.strongRecOn with
 | ind d ih=>
  intro F i h0 h1 hd hF;obtain⟨F,rfl⟩:∃G,F=G+1:=⟨F-1,by omega⟩
  obtain⟨F,rfl⟩:∃G,F=G+1:=⟨F-1,by omega⟩
  rw[ME];unfold Tk
  cases hdr:v.drop i.toNat with
  | nil=>
   have hl:v.length≤i.toNat:=by simpa using hdr
   rw[AL (by simp;omega)];simp[IA,hdr,Tq]
  | cons c r=>
   obtain⟨g1,g2,g3⟩:=Ep h0 hdr;have hcM:=hA.hc c (Y6 g1);have hcN:=hN c (Y6 g1);rw[A8 (by simp;omega),Bg h0 g3,NK h0 hdr];simp only[R4 _ h0 (show i≤1152921504606846976 by omega),Option.isSome_some,ov,YS,imp,YJ,BG (x:=_) (rfl:true=true)];have hg:∀j,i+1≤j→j≤v.length→ME F v j=some (IA v j):=λj hj hj2=>ih (v.length-j.toNat) (by omega) F j (by omega) hj2 rfl (by omega);have hpl0:pl c=false→IA v i = -1:=λhp=>by simp[IA,hdr,GM,hp]
   have hleaf:pl c=true→c.fN=0→IA v i=i+1:=λhp h0'=>by simp[IA,hdr,GM,hp,h0',Fo.flat,Bs]
   have hscal:∀b:Bool,pl c=b→(b=true→c.fN=0)→IA v i=bif b then i+1 else -1:=λb hb hz=>by
    cases b
    ·exact hpl0 hb
    ·exact hleaf hb (hz rfl)
   by_cases k1:c.fKind=1
   ·rw[AL (by simp[k1])];have hp:pl c=(decide (c.fInt=0)&&(decide (c.fStr=[])&&decide (c.fN=0))):=by simp[pl,k1]
    rw[hscal _ hp (λh=>by simp at h;exact h.2.2)]
    cases decide (c.fInt=0)<;>cases decide (c.fStr=[])<;>cases decide (c.fN=0)<;>rfl
   rw[A8 (by simp[k1])]
   by_cases k2:c.fKind=2
   ·rw[AL (by simp[k2])];have hp:pl c=((decide (c.fInt=0)||decide (c.fInt=1))&&(decide (c.fStr=[])&&decide (c.fN=0))):=by simp[pl,k2]
    rw[hscal _ hp (λh=>by simp at h;exact h.2.2)]
    cases decide (c.fInt=0)<;>cases decide (c.fInt=1)<;>cases decide (c.fStr=[])<;>cases decide (c.fN=0)<;>rfl
   rw[A8 (by simp[k2])]
   by_cases k3:c.fKind=3
   ·rw[AL (by simp[k3])];have hp:pl c=(decide (c.fStr=[])&&decide (c.fN=0)):=by simp[pl,k3]
    rw[hscal _ hp (λh=>by simp at h;exact h.2)]
    cases decide (c.fStr=[])<;>cases decide (c.fN=0)<;>rfl
   rw[A8 (by simp[k3])]
   by_cases k4:c.fKind=4
   ·rw[AL (by simp[k4]),Qs (by omega) (by omega),AC rfl,AC rfl];rw[Y0 k4,Y5,hscal (pl c) rfl (λhp=>by have:=(N2 hp k4).1;rw[this])]
   rw[A8 (by simp[k4])]
   by_cases k5:c.fKind=5
   ·have hp:pl c=(decide (c.fInt=0)&&(decide (c.fStr=[])&&decide (0≤c.fN))):=by simp[pl,k5]
    rw[show(decide (c.fKind=5)&&(decide (c.fInt=0)&&(decide (c.fStr=[])&&decide (0≤c.fN))))=pl c from by rw[hp,Y0 k5,Y5]];have k5' : ¬ c.fKind=6:=by omega
    cases hb:pl c with
    | false=>rw[A8 rfl,A8 (by simp[k5]),hpl0 hb]
    | true=>
     have hn0:=Tr hb;rw[AL rfl,AV (by omega) (by omega),MF];unfold LC;obtain⟨o,ho1,ho2⟩:=I4 (F:=F) ⟨hM,hvM,by omega,hA.hc⟩ hcN F (i+1) 0 (by omega) (by omega) (YQ 0) hn0 hg (by omega);rw[AC ho1,ho2,AC rfl,O7 h0 hdr hb,Yx k5',Int.sub_zero]
   rw[A8 (by simp[k5])]
   by_cases k6:c.fKind=6
   ·have hp:pl c=(decide (c.fInt=0)&&(decide (c.fStr=[])&&decide (0≤c.fN))):=by simp[pl,k6]
    rw[show(decide (c.fKind=6)&&(decide (c.fInt=0)&&(decide (c.fStr=[])&&decide (0≤c.fN))))=pl c from by rw[hp,Y0 k6,Y5]]
    cases hb:pl c with
    | false=>rw[A8 rfl,hpl0 hb]
    | true=>
     have hn0:=Tr hb;rw[AL rfl,AV (by omega) (by omega),Tj];unfold Qr;obtain⟨o,ho1,ho2⟩:=LB (F:=F) ⟨hM,hvM,by omega,hA.hc⟩ hcN F (i+1) 0 [] (by omega) (by omega) (YQ 0) hn0 hg (by omega);rw[AC ho1,ho2,AC rfl,O7 h0 hdr hb,Y0 k6,Int.sub_zero];rfl
   ·rw[A8 (by simp[k6]),hpl0 (by simp[pl,k1,k2,k3,k4,k5,k6])]
end
theorem Qx {m:Bool}{last key:Option Ae}{r:List Aa}(h:Bi m last key=true):He m last (Bs key++r)=some (key,r):=by
 cases key with
 | none=>
  have:m=false:=by simpa[Bi] using h
  subst this;rfl
 | some s=>
  have h':=h;simp only[Bi,Yv] at h;obtain⟨⟨h1,h2⟩,h3⟩:=h;subst h1;have hp:pl ⟨4,0,s,0⟩=true:=by simp[pl,h2]
  show(bif pl ⟨4,0,s,0⟩&&decide ((4:Int)=4)&&Bi true last (some s) then _ else _)=_;rw[hp,h'];rfl
theorem KY:∀(f:Fo) (m:Bool) (last:Option Ae) (ys:List Aa),f.wf m last=true→LD m last f.cnt (f.flat++ys)=some (f,ys)
 | .nil,_,_,_,_=>rfl
 | .cell k c r,m,last,ys,hw=>by
  simp only[Fo.wf,Yv,YC] at hw;obtain⟨⟨⟨w1,w2⟩,w3⟩,w4⟩:=hw;simp only[Fo.cnt,Fo.flat,YY,Zb];rw[EU,Qx w1];simp only[GM,w2,w3,Y3,Yt,KY r m k ys w4,Fo.put]
 | .node k c kids r,m,last,ys,hw=>by
  simp only[Fo.wf,Yv,Yq] at hw;obtain⟨⟨⟨⟨⟨w1,w2⟩,w3⟩,w5⟩,w6⟩,w4⟩:=hw;simp only[Fo.cnt,Fo.flat,YY,Zb];rw[EU,Qx w1];have e:c.fN.toNat=kids.cnt:=by omega
  simp only[GM,w2,Y0 w3,Y3,Yt,Yw,e,KY kids _ none (r.flat++ys) w6,KY r m k ys w4,Fo.put]
theorem Ve {f:Fo}{ys:List Aa}(h1:f.one=true)(hw:f.wf false none=true):Hf (f.flat++ys)=some (f,ys):=by
 have:=KY f false none ys hw;have hc:f.cnt=1:=by
  cases f with
  | nil=>cases h1
  | cell k c r=>cases k with
   | some _=>cases h1
   | none=>cases r with
    | nil=>rfl
    | _=>cases h1
  | node k c kids r=>cases k with
   | some _=>cases h1
   | none=>cases r with
    | nil=>rfl
    | _=>cases h1
 rw[hc] at this;exact this
structure JS (M:Nat) (v:List Aa):Prop where
 hM:M≤1000000000
 hv:v.length≤M
 hc:∀c∈v,c.fStr.length≤M∧BT .i64 c.fInt=true∧c.fN≤9223372036854775807
theorem JS.lk {M F:Nat}{v:List Aa}(h:JS M v)(hF:M<F):QY F M v:=⟨by have:=h.hM;omega,by have:=h.hM;omega,h.hv,hF,h.hc⟩
theorem JS.rf {M F:Nat}{v:List Aa}(h:JS M v)(hF:M<F):XB F M v:=⟨by have:=h.hM;omega,h.hv,hF,λc hc=>(h.hc c hc).1⟩
theorem JS.drop {M:Nat}{v:List Aa}(h:JS M v)(k:Nat):JS M (v.drop k):=⟨h.hM,by have:=h.hv;rw[List.length_drop];omega,λc hc=>h.hc c (List.mem_of_mem_drop hc)⟩
theorem JS.take {M:Nat}{v:List Aa}(h:JS M v)(k:Nat):JS M (v.take k):=⟨h.hM,by have:=h.hv;rw[List.length_take];omega,λc hc=>h.hc c (List.mem_of_mem_take hc)⟩
def whole (v:List Aa):Option Fo:=match Hf v with
 | some (f,[])=>some f
 | _=>none
theorem Lo {v:List Aa}{f:Fo}(h:whole v=some f):v=f.flat∧f.wf false none=true∧f.one=true:=by
 unfold whole at h
 cases hp:Hf v with
 | none=>rw[hp] at h;cases h
 | some q=>
  obtain⟨g,ys⟩:=q;rw[hp] at h
  cases ys with
  | cons _ _=>cases h
  | nil=>
   cases h
   obtain⟨h1,h2,h3⟩:=Jy hp;exact⟨by simpa using h1,h2,h3⟩
theorem Lp {f:Fo}(h1:f.one=true)(hw:f.wf false none=true):whole f.flat=some f:=by
 have:=Ve (ys:=[]) h1 hw;rw[Zg] at this;simp[whole,this]
def Gl (f:Fo):Int:=
 bif f.flat.any BE then 2 else bif f.flat.any MQ||(decide (200<f.flat.length)||(decide (8<f.dep)||decide (4000<(f.txt true).length))) then 3 else 0
def Kj (v:List Aa):Int:=match whole v with
 | none=>1
 | some f=>Gl f
theorem Q1 {f:Fo}(h1:f.one=true):f.cnt=1:=by
 cases f with
 | nil=>cases h1
 | cell k c r=>cases k with
  | some _=>cases h1
  | none=>cases r with
   | nil=>rfl
   | _=>cases h1
 | node k c kids r=>cases k with
  | some _=>cases h1
  | none=>cases r with
   | nil=>rfl
   | _=>cases h1
theorem N0 (s:Ae):JZ s≤2*s.length+2+s.length:=by
 have h1:s.count 34≤s.length:=List.count_le_length;have h2:s.count 92≤s.length:=List.count_le_length;unfold JZ;omega
theorem Wx {c:Aa}{M:Nat}(hp:pl c=true)(hs:c.fStr.length≤M)(hi:(Lib.itoa c.fInt).length≤21):S6 c≤3*M+21:=by
 have:=N0 c.fStr;unfold S6
 cases h1:decide (c.fKind=1) with
 | true=>simp only[Yw];omega
 | false=>
  cases h2:decide (c.fKind=2) with
  | true=>
   simp[pl,h1,h2] at hp;simp only[Yt,Yw];omega
  | false=>
   cases h3:decide (c.fKind=3) with
   | true=>simp only[Yt,Yw];omega
   | false=>cases h4:decide (c.fKind=4)<;>simp only[Yt,Yw]<;>omega
theorem NI {M:Nat}:∀{f:Fo} {m:Bool} {l:Option Ae},f.wf m l=true→(∀c∈f.flat,c.fStr.length≤M∧BT .i64 c.fInt=true∧c.fN≤9223372036854775807)→f.byt+f.cnt≤(3*M+24)*f.flat.length
 | .nil,_,_,_,_=>by simp[Fo.byt,Fo.flat,Fo.cnt]
 | .cell k c r,m,l,hw,hc=>by
  simp only[Fo.wf,Yv,YC] at hw;obtain⟨⟨⟨w1,w2⟩,w3⟩,w4⟩:=hw;simp only[Fo.flat] at hc;have ih:=NI w4 (λx hx=>hc x (by simp[hx]));obtain⟨c1,c2,c3⟩:=hc c (by simp);have i64:=JG c2;have hl:=Wx w2 c1 (Lib.itoa_length_le c.fInt i64.1 i64.2);have hk:N8 k≤(3*M+24)*(Bs k).length:=by
   cases k with
   | none=>simp[N8,Bs]
   | some s=>
    have:=(hc ⟨4,0,s,0⟩ (by simp[Bs])).1;have h2:=N0 s;simp only at this;simp only[N8,Bs,YP];omega
  simp only[Fo.byt,Fo.flat,Fo.cnt,Yz,Yu];have e:((3*(M:Int)+24)*(((Bs k).length+(r.flat.length+1):Nat):Int))=(3*(M:Int)+24)*(Bs k).length+((3*(M:Int)+24)*r.flat.length+(3*(M:Int)+24)):=by
   push_cast;rw[Int.mul_add,Int.mul_add,Int.mul_one]
  rw[e]
  push_cast at *
  omega
 | .node k c kids r,m,l,hw,hc=>by
  simp only[Fo.wf,Yv,Yq] at hw;obtain⟨⟨⟨⟨⟨w1,w2⟩,w3⟩,w5⟩,w6⟩,w4⟩:=hw;simp only[Fo.flat] at hc;have ih:=NI w4 (λx hx=>hc x (by simp[hx]));have ih2:=NI w6 (λx hx=>hc x (by simp[hx]));have hcf:=Cq kids;have hk:N8 k≤(3*M+24)*(Bs k).length:=by
   cases k with
   | none=>simp[N8,Bs]
   | some s=>
    have:=(hc ⟨4,0,s,0⟩ (by simp[Bs])).1;have h2:=N0 s;simp only at this;simp only[N8,Bs,YP];omega
  simp only[Fo.byt,Fo.flat,Fo.cnt,Yz,Yu];have e:((3*(M:Int)+24)*(((Bs k).length+(kids.flat.length+r.flat.length+1):Nat):Int))=(3*(M:Int)+24)*(Bs k).length+((3*(M:Int)+24)*kids.flat.length+(3*(M:Int)+24)*r.flat.length+(3*(M:Int)+24)):=by
   push_cast;rw[Int.mul_add,Int.mul_add,Int.mul_add,Int.mul_one]
  rw[e]
  push_cast at *
  omega
theorem Nj {M:Nat}(hM:M≤1000000){f:Fo}{m:Bool}{l:Option Ae}(hw:f.wf m l=true)(hl:f.flat.length≤M)(hc:∀c∈f.flat,c.fStr.length≤M∧BT .i64 c.fInt=true∧c.fN≤9223372036854775807):f.byt≤4000000000000:=by
 have:=NI (M:=M) hw hc;have h2:(3*M+24)*f.flat.length≤(3*1000000+24)*1000000:=Nat.mul_le_mul (by omega) (by omega);have h3:(((3*M+24)*f.flat.length:Nat):Int)=(3*(M:Int)+24)*f.flat.length:=by push_cast;rfl
 omega
theorem Ia {M F:Nat}{v:List Aa}(hA:JS M v)(hM:M≤1000000)(hF:M<F):II F v=some (Kj v):=by
 unfold II Kj whole;have hvM:=hA.hv;rcases Vu (hA.lk hF) with⟨f,ys,hp,hl⟩ | ⟨hp,sh',hl⟩
 ·rw[hl,AC rfl,hp];obtain⟨h1,h2,h3⟩:=Jy hp;have hlen:v.length=f.flat.length+ys.length:=by rw[h1];simp
  cases ys with
  | cons c r=>
   rw[AL];simp only[Yu] at hlen;simp;omega
  | nil=>
   simp only[Zc,Nat.add_zero] at hlen;rw[A8 (by simp[hlen])];have hc:∀c∈f.flat,c.fStr.length≤M∧BT .i64 c.fInt=true∧c.fN≤9223372036854775807:=λc hc=>hA.hc c (by rw[h1];simp[hc]);have hb:=Nj hM h2 (by omega) hc;have hb0:=Gx h2;have e1:(f.sh 0 L6).fOutside=f.flat.any BE:=by rw[Nt];rfl
   have e2:(f.sh 0 L6).fLong=f.flat.any MQ:=by rw[KU];rfl
   have e3:(f.sh 0 L6).fDepth=f.dep:=by rw[Js f 0 L6 (by simp[L6])];simp[L6]
   have e4:(f.sh 0 L6).fBytes=(f.txt true).length:=by
    rw[Jt f false none 0 L6 h2 (by simp[L6]) (by simp[L6];omega),Ib f false none true h2,Q1 h3];simp[L6]
   simp only;rw[e1,e2,e3,e4,hlen];unfold Gl
   cases f.flat.any BE with
   | true=>rw[AL rfl];rfl
   | false=>
    rw[A8 rfl];have a1:decide ((200:Int)<(f.flat.length:Int))=decide (200<f.flat.length):=by rw[Y9];simp;omega
    have a2:decide ((8:Int)<(f.dep:Int))=decide (8<f.dep):=by rw[Y9];simp;omega
    have a3:decide ((4000:Int)<((f.txt true).length:Int))=decide (4000<(f.txt true).length):=by rw[Y9];simp;omega
    rw[a1,a2,a3]
    cases(f.flat.any MQ||(decide (200<f.flat.length)||(decide (8<f.dep)||decide (4000<(f.txt true).length))))<;>rfl
 ·rw[hl,AC rfl,hp];rfl
theorem Qf {c:Aa}(hp:pl c=true)(hn:decide (0<c.fN)=false):(Fo.cell none c .nil).wf false none=true:=by simp[Fo.wf,Bi,hp,hn]
theorem Qe {c:Aa}{kids:Fo}(hp:pl c=true)(hn:0<c.fN)(hk:c.fN=kids.cnt)(hw:kids.wf (decide (c.fKind=6)) none=true):(Fo.node none c kids .nil).wf false none=true:=by simp[Fo.wf,Bi,hp,hn,hk,hw];omega
section
variable {M : Nat} {v : List Aa}
theorem JS.next (hA:JS M v){F:Nat}(hF:3*M+3<F){p:Int}(h0:0≤p)(h1:p≤v.length):ME F v p=some (IA v p):=by
 have hM:=hA.hM;have hvM:=hA.hv;exact Tl (hA.rf (YI M)) (λc hc=>(hA.hc c hc).2.2) (v.length-p.toNat) F p h0 h1 rfl (by omega)
theorem Vx {m:Bool}{last key:Option Ae}(h:Bi m last key=true):((Bs key).length:Int)=bif m then 1 else 0:=by
  cases key with
  | none=>
            have:m=false:=by simpa[Bi] using h
            subst this;rfl
  | some s=>simp only[Bi,Yv] at h;rw[h.1.1];rfl
end
def OS (c:UInt8):Ae:=bif (decide (c=34)||decide (c=92)) then[92,c] else[c]
theorem Na {s:Ae}{k:Nat}{c:UInt8}(h:s[k]? =some c):Ef (s.take (k+1))=Ef (s.take k)++OS c:=by
 rw[List.take_add_one,h];simp[Ef,List.flatMap_append,OS]
theorem X2 {s:Ae}{x:Int}{c:UInt8}(h:s[x.toNat]? =some c):decide (Be s x=34)=decide (c=34):=by
 rw[EQ h,Y9,decide_eq_true_iff,decide_eq_true_iff,← Zl];show _↔c.toNat=34;omega
theorem X1 {s:Ae}{x:Int}{c:UInt8}(h:s[x.toNat]? =some c):decide (Be s x=92)=decide (c=92):=by
 rw[EQ h,Y9,decide_eq_true_iff,decide_eq_true_iff,← Zl];show _↔c.toNat=92;omega
theorem Lc {R V:Type}(K:V→Option R)(v:V):BN K (.go v)=K v:=rfl
theorem Tw {R V:Type}(K:V→Option R)(r:R):BN K (.ret r)=some r:=rfl
section
variable {M : Nat} {v : List Aa}
theorem XV (a b c d e:Ae):(((a++b)++c)++d)++e=a++(b++(c++d)++e):=by simp
theorem XW (a b c d:Ae):((a++b)++c)++d=a++([]++(b++c)++d):=by simp
theorem XX (a b c:Ae):(a++b)++c=a++(b++[]++c):=by simp
theorem XY (a b:Ae):a++b=a++([]++[]++b):=by simp
end
section
variable {M : Nat} {v : List Aa}
theorem Q0 {α:Type}[Inhabited α](a:α):ov (some a)=a:=rfl
end
theorem Cy {α:Type}{n:Nat}{x:Option α}(h:n≤140737488355328):Bc (Ea 1 n) x=x:=BG (Y0 (by omega))
theorem Er {α β:Type}(a:α)(k:α→Option β):IZ a k=k a:=rfl
theorem Gp {α:Type}{n:Int}{x:Option α}(h:0≤n)(h':n≤255):Bc (BT .u8 n) x=x:=BG (V3 h h')
theorem U0 {s:Ae}{x:Int}{c:UInt8}(h:s[x.toNat]? =some c):UInt8.ofNat (Int.toNat (Be s x))=c∧0≤Be s x∧Be s x≤255:=by
 have:=UInt8.toNat_lt c;rw[EQ h];refine⟨?_,by omega,by omega⟩;rw[← Zl];simp
theorem Of {s l:Ae}{x:Int}{c:UInt8}(h0:0≤x)(hx:x<(s.length:Int))(hs:s.length≤1152921504606846976)(hl:l.length+2≤140737488355328)(hc:s[x.toNat]? =some c):CD s x l=some (.next (x+1,l++OS c)):=by
 obtain⟨b1,b2,b3⟩:=U0 hc;unfold CD OS;rw[AL (Y0 hx),Bg h0 hx,X2 hc,X1 hc];have l1:(l++[UInt8.ofNat (Int.toNat 92)]).length=l.length+1:=by simp
 cases hq:(decide (c=34)||decide (c=92)) with
 | true=>
  rw[AL rfl,Cy (by omega),Gp (by decide) (by decide),Er,l1,Cy (by omega),Gp b2 b3,Er,b1,AV (by omega) (by omega),YY];rfl
 | false=>
  rw[A8 rfl,Cy (by omega),Gp b2 b3,Er,b1,AV (by omega) (by omega)];rfl
theorem SM {l:Ae}(h:l.length+1≤140737488355328):DV l=some (l++[34]):=by
 unfold DV;rw[Cy h,Er];rfl
theorem JU {F:Nat}{l s:Ae}(hF:s.length<F)(hl:(l++EL s).length≤140737488355328):IH F l s=some (l++EL s):=by
 have hq:(EL s).length=(Ef s).length+2:=by simp[EL]
 rw[Yz,hq] at hl;have hesc:∀k,(Ef (s.take k)).length≤(Ef s).length:=λk=>by
  have:Ef s=Ef (s.take k)++Ef (s.drop k):=by rw[Ef,Ef,Ef,← List.flatMap_append,Zi]
  rw[this,Yz];omega
 have hsl:s.length≤(Ef s).length:=by rw[LT];omega
 obtain⟨o,h1,h2⟩:=E8 (body:=λσ=>CD s σ.1 σ.2) (λσ=>0≤σ.1∧σ.1≤(s.length:Int)∧σ.2=l++[34]++Ef (s.take σ.1.toNat)) (λσ=>s.length-σ.1.toNat)
  (λo=>BN (λν=>DV ν) o=some (l++EL s)) (λσ ⟨h0,hlx,ha⟩=>by
   obtain⟨x,out⟩:=σ;simp only at h0 hlx ha;show(∃s',CD s x out=_∧_)∨∃o,CD s x out=_∧_;have hol:out.length=l.length+1+(Ef (s.take x.toNat)).length:=by rw[ha];simp;omega
   have he:=hesc x.toNat
   by_cases hx:x<(s.length:Int)
   ·obtain⟨c,hc⟩:∃c,s[x.toNat]? =some c:=⟨s[x.toNat]'(by omega),Y1 (by omega)⟩
    have he2:=hesc (x.toNat+1);rw[Na hc,Yz] at he2;have hc1:1≤(OS c).length:=by unfold OS;cases(decide (c=34)||decide (c=92))<;>simp
    have a1:0≤x+1:=by omega
    have a2:x+1≤s.length:=by omega
    have a3:s.length-(x+1).toNat<s.length-x.toNat:=by omega
    have a4:out++OS c=l++[34]++Ef (s.take (x+1).toNat):=by rw[show(x+1).toNat=x.toNat+1 from by omega,Na hc,ha,YY]
    exact .inl ⟨(x+1,out++OS c),Of h0 hx (by omega) (by omega) hc,⟨a1,a2,a4⟩,a3⟩
   ·have e:x.toNat=s.length:=by omega
    rw[e,Zo] at ha;have hf:out++[34]=l++EL s:=by rw[ha];simp[EL]
    have hgo:CD s x out=some (.out (.go out)):=by unfold CD;rw[A8 (Yx hx)]
    exact .inr ⟨.go out,hgo,(Lc (λν=>DV ν) out).trans ((SM (by omega)).trans (congrArg some hf))⟩) F (0,l++[34]) ⟨YQ 0,by show(0:Int)≤s.length;omega,by show l++[34]=l++[34]++Ef (s.take 0);simp[Ef]⟩ (by show s.length-0<F;omega)
 unfold IH;rw[Cy (by omega),Gp (by decide) (by decide),Er];have hb:[UInt8.ofNat (Int.toNat 34)]=([34]:Ae):=rfl;rw[hb,AC h1,h2]
theorem Lq {F:Nat}{l key:Ae}{x:List Aa}{first:Bool}{c:Aa}{k last:Option Ae}{tx:Ae}(hk:Bi (decide (c.fKind=6)) last k=true)(hkey:∀s,k=some s→key=s∧s.length<F)
  (hlen:(l++(CO first++GZ k++tx)).length≤140737488355328) (hw:∀l':Ae,(l'++tx).length≤140737488355328→Ex F l' x=some (l'++tx)):DF (F+1) key x first l c=some (true,false,l++(CO first++GZ k++tx)):=by
 rw[DF];unfold Jf;have hb:[UInt8.ofNat (Int.toNat 44)]=([44]:Ae):=rfl;have ha:[UInt8.ofNat (Int.toNat 58)]=([58]:Ae):=rfl;have hlen':=hlen;simp only[Yz] at hlen'
 cases first with
 | true=>
  rw[A8 (p:=!true) rfl]
  cases hm:decide (c.fKind=6) with
  | true=>
   rw[hm] at hk
   cases k with
   | none=>simp[Bi] at hk
   | some s=>
    obtain⟨e1,e2⟩:=hkey s rfl;subst e1;simp only[GZ,Yz,YP] at hlen';have h1:(l++EL key).length≤140737488355328:=by rw[Yz];omega
    have e:((l++EL key)++[58])++tx=l++(CO true++GZ (some key)++tx):=XW _ _ _ _;rw[← e] at hlen ⊢;rw[AL rfl,JU e2 h1,AC rfl,Cy (by rw[Yz];omega),Gp (by decide) (by decide),Er,ha,hw _ hlen,AC rfl]
  | false=>
   rw[hm] at hk
   cases k with
   | some s=>simp[Bi] at hk
   | none=>
    have e:l++tx=l++(CO true++GZ none++tx):=XY _ _;rw[← e] at hlen ⊢;rw[A8 rfl,hw _ hlen,AC rfl]
 | false=>
  simp only[CO,Yt,YP] at hlen';rw[AL (p:=!false) rfl,Cy (by omega),Gp (by decide) (by decide),Er,hb]
  cases hm:decide (c.fKind=6) with
  | true=>
   rw[hm] at hk
   cases k with
   | none=>simp[Bi] at hk
   | some s=>
    obtain⟨e1,e2⟩:=hkey s rfl;subst e1;simp only[GZ,Yz,YP] at hlen';have h1:((l++[44])++EL key).length≤140737488355328:=by simp only[Yz,YP];omega
    have e:(((l++[44])++EL key)++[58])++tx=l++(CO false++GZ (some key)++tx):=XV _ _ _ _ _;rw[← e] at hlen ⊢;rw[AL rfl,JU e2 h1,AC rfl,Cy (by simp only[Yz,YP];omega),Gp (by decide) (by decide),Er,ha,hw _ hlen,AC rfl]
  | false=>
   rw[hm] at hk
   cases k with
   | some s=>simp[Bi] at hk
   | none=>
    have e:(l++[44])++tx=l++(CO false++GZ none++tx):=XX _ _ _;rw[← e] at hlen ⊢;rw[A8 rfl,hw _ hlen,AC rfl]
section
variable {M : Nat}
theorem Lw {F:Nat}{v:List Aa}{c:Aa}{at_ x:Int}{first:Bool}{l l2:Ae}{k last:Option Ae}{f1:Fo}{ys:List Aa}(hA:JS M v)(hF:M<F)(hpc:Ar v 0=c)(hx:x<c.fN)(hx0:0≤x)(hcN:c.fN≤9223372036854775807)(h0:0≤at_)(hk:Bi (decide (c.fKind=6)) last k=true)
  (hd:v.drop at_.toNat=Bs k++(f1.flat++ys)) (h1:f1.one=true) (hw:f1.wf false none=true) (hr:∀key,(∀s,k=some s→key=s)→DF F key f1.flat first l c=some (true,false,l2)) :
  CJ F v c (DF F) at_ x first l=some (.next (at_+(Bs k).length+f1.flat.length,x+1,false,l2)):=by
 have hM:=hA.hM;have hvM:=hA.hv;have hd1:=CT h0 hd;have hkl:=Vx hk;have hfl:=J3 h1;have hll:(v.drop (at_+(Bs k).length).toNat).length=f1.flat.length+ys.length:=by rw[hd1];simp
 rw[List.length_drop] at hll;have hlook:Hu F (v.drop (at_+(Bs k).length).toNat)=some ((f1.flat.length:Int),f1.sh 0 L6,true):=OD ((hA.drop _).lk hF) h1 hw hd1;have htake:List.take (Int.toNat (at_+(Bs k).length+(f1.flat.length:Int))-Int.toNat (at_+(Bs k).length)) (v.drop (at_+(Bs k).length).toNat)=f1.flat:=by
  rw[hd1,show Int.toNat (at_+(Bs k).length+(f1.flat.length:Int))-Int.toNat (at_+(Bs k).length)=f1.flat.length from by omega,List.take_left]
 have hmono:0≤at_+(Bs k).length+f1.flat.length:=by omega
 unfold CJ;rw[hpc,AL (Y0 hx)]
 cases hm:decide (c.fKind=6) with
 | true=>
  rw[hm] at hk hkl
  cases k with
  | none=>simp[Bi] at hk
  | some s=>
   have e1:((Bs (some s)).length:Int)=1:=rfl;rw[e1] at hlook htake hll hmono ⊢;have hats:(Ar v at_).fStr=s:=by
    have:v.drop at_.toNat=⟨4,0,s,0⟩::(f1.flat++ys):=by simpa[Bs] using hd
    rw[NK h0 this]
   have hin:at_<v.length:=by omega
   rw[AL rfl,Bg h0 hin,AV (by omega) (by omega),C7 (by omega) (by omega),hlook,AC rfl,AV (by omega) (by omega),C7 (by omega) (by omega),C7 (by omega) (by omega),htake,hats,hr s (λs' h=>by cases h;rfl),AC rfl];rw[A8 (p:=!true) rfl,AV (by omega) (by omega)]
 | false=>
  rw[hm] at hk hkl
  cases k with
  | some s=>simp[Bi] at hk
  | none=>
   have e1:((Bs none).length:Int)=0:=rfl;rw[e1,Int.add_zero] at hlook htake hll hmono ⊢;rw[A8 rfl,C7 (by omega) (by omega),hlook,AC rfl,AV (by omega) (by omega),C7 (by omega) (by omega),C7 (by omega) (by omega),htake,hr [] (λs' h=>by cases h),AC rfl];rw[A8 (p:=!true) rfl,AV (by omega) (by omega)]
end
section
variable {M : Nat}
theorem GX (l:Ae)(c:UInt8):(l++[c]).length=l.length+1:=by rw[Yz,YP]
theorem IG {F:Nat}{l p:Ae}{v:List Aa}{c:Aa}{rf:Ae→(List Aa)→Bool→Ae→Aa→Option (Bool×Bool×Ae)}{rp:(List Aa)→Bool→Ae→Aa→Option (Bool×Ae)}(hc:Ar v 0=c)(hv:0<v.length)(hk:c.fKind=5∨c.fKind=6)(hlen:(l++Pc c p).length≤140737488355328)
  (hp:∀l':Ae,l'.length=l.length+1→∃b,rp v true l' c=some (b,l'++p)):HY F rf rp l v=some (l++Pc c p):=by
 have hbl:=JP c p;rw[Yz,hbl] at hlen;have i0:(0:Int)<(v.length:Int):=by omega
 unfold HY;rw[Bg (YQ 0) i0,hc,A8 (Yx (by omega)),A8 (Yx (by omega)),A8 (Yx (by omega)),A8 (Yx (by omega))];have b1:[UInt8.ofNat (Int.toNat (Be ([123,125]:Ae) 0))]=([123]:Ae):=rfl;have b2:[UInt8.ofNat (Int.toNat (Be ([123,125]:Ae) 1))]=([125]:Ae):=rfl;have b3:[UInt8.ofNat (Int.toNat (Be ([91,93]:Ae) 0))]=([91]:Ae):=rfl;have b4:[UInt8.ofNat (Int.toNat (Be ([91,93]:Ae) 1))]=([93]:Ae):=rfl;have c1:Be ([123,125]:Ae) 0=123:=rfl;have c2:Be ([123,125]:Ae) 1=125:=rfl;have c3:Be ([91,93]:Ae) 0=91:=rfl;have c4:Be ([91,93]:Ae) 1=93:=rfl;have n2:(([123,125]:Ae).length:Int)=2:=rfl;have n3:(([91,93]:Ae).length:Int)=2:=rfl
 cases h6:decide (c.fKind=6) with
 | true=>
  obtain⟨b,hb⟩:=hp _ (GX l 123);rw[AL rfl,n2,Bg (by decide) (by decide),Cy (by omega),b1,b2,c1,c2,Gp (by decide) (by decide),Er,hb,AC rfl,Bg (by decide) (by decide)];have e:((l++[123])++p).length=l.length+1+p.length:=by rw[Yz,GX]
  rw[e,Cy (by omega),Gp (by decide) (by decide),Er];simp[Pc,h6]
 | false=>
  obtain⟨b,hb⟩:=hp _ (GX l 91);rw[A8 rfl,n3,Bg (by decide) (by decide),Cy (by omega),b3,b4,c3,c4,Gp (by decide) (by decide),Er,hb,AC rfl,Bg (by decide) (by decide)];have e:((l++[91])++p).length=l.length+1+p.length:=by rw[Yz,GX]
  rw[e,Cy (by omega),Gp (by decide) (by decide),Er];simp[Pc,h6]
theorem K1 {F:Nat}{v:List Aa}{c:Aa}{at_ x:Int}{first:Bool}{l:Ae}{rf:Ae→(List Aa)→Bool→Ae→Aa→Option (Bool×Bool×Ae)}(hc:Ar v 0=c)(hx : ¬ x<c.fN):CJ F v c rf at_ x first l=some (.out (.go (first,l))):=by
 unfold CJ;rw[hc,A8 (Yx hx)]
theorem Ky {F:Nat}{l:Ae}{c:Aa}(hp:pl c=true)(hn:decide (0<c.fN)=false)(hs:c.fStr.length<F+2)(hi:BT .i64 c.fInt=true)(hlen:(l++D5 c).length≤140737488355328):Ex (F+3) l [c]=some (l++D5 c):=by
 rw[Ex];have hat:Ar [c] 0=c:=rfl;have i0:(0:Int)<(([c]:List Aa).length:Int):=by simp
 have hN : ¬ (0:Int)<c.fN:=by simpa using hn
 by_cases ha:c.fKind=5∨c.fKind=6
 ·have el:D5 c=Pc c []:=by
   have k1:decide (c.fKind=1)=false:=Yx (by omega);have k2:decide (c.fKind=2)=false:=Yx (by omega);have k3:decide (c.fKind=3)=false:=Yx (by omega);have k4:decide (c.fKind=4)=false:=Yx (by omega);unfold D5 Pc;rw[k1,k2,k3,k4];rfl
  rw[el] at hlen ⊢;refine IG hat (by simp) ha hlen (λl' hl'=>⟨true,?_⟩);rw[EJ];unfold GB;rw[Bg (YQ 0) i0,AC (DX (o:=.go (true,l')) (K1 hat hN)),Lc,Zg];rfl
 ·unfold HY D5;unfold D5 at hlen;rw[Bg (YQ 0) i0,hat]
  cases k1:decide (c.fKind=1) with
  | true=>
   rw[k1] at hlen;simp only[Yw] at hlen;rw[AL rfl,Cy (by rw[Yz] at hlen;exact hlen),Er];rfl
  | false=>
  rw[k1] at hlen;simp only[Yt] at hlen;rw[A8 rfl]
  cases k2:decide (c.fKind=2) with
  | true=>
   rw[k2] at hlen;simp only[Yw] at hlen;rw[AL rfl];simp[pl,k1,k2] at hp;simp only[Yz] at hlen;rcases hp.1 with h0 | h1
   ·rw[h0] at hlen ⊢;have a:Ar ([([102,97,108,115,101]:Ae),([116,114,117,101]:Ae)]:List Ae) 0=[102,97,108,115,101]:=rfl;have hlen2:l.length+([102,97,108,115,101]:Ae).length≤140737488355328:=hlen;rw[Bg (by decide) (by decide),a,Cy hlen2,Er];rfl
   ·rw[h1] at hlen ⊢;have a:Ar ([([102,97,108,115,101]:Ae),([116,114,117,101]:Ae)]:List Ae) 1=[116,114,117,101]:=rfl;have hlen2:l.length+([116,114,117,101]:Ae).length≤140737488355328:=hlen;rw[Bg (by decide) (by decide),a,Cy hlen2,Er];rfl
  | false=>
  rw[k2] at hlen;simp only[Yt] at hlen;rw[A8 rfl]
  cases k3:decide (c.fKind=3) with
  | true=>
   rw[k3] at hlen;simp only[Yw,Yz] at hlen;rw[AL rfl,BG hi,Cy hlen,Er];rfl
  | false=>
  rw[k3] at hlen;simp only[Yt] at hlen;rw[A8 rfl]
  cases k4:decide (c.fKind=4) with
  | true=>
   rw[k4] at hlen;simp only[Yw] at hlen;rw[AL rfl,JU hs hlen,AC rfl];rfl
  | false=>
   exfalso;simp only[Yr] at k1 k2 k3 k4;simp[pl,k1,k2,k3,k4,show ¬ c.fKind=5 by omega,show ¬ c.fKind=6 by omega] at hp
theorem JS.mem {v:List Aa}(hA:JS M v){p:Int}{a b:List Aa}(h:v.drop p.toNat=a++b):JS M a:=by
 have:=(hA.drop p.toNat).take a.length
 rwa [h,List.take_left] at this
theorem Mn:∀(g:Fo) (v:List Aa) (c:Aa) (F L:Nat) (at_ x:Int) (first:Bool) (l:Ae) (m:Bool) (last:Option Ae) (ys:List Aa),JS M v→Ar v 0=c→decide (c.fKind=6)=m→c.fN≤9223372036854775807→g.wf m last=true→v.drop at_.toNat=g.flat++ys→0≤at_→c.fN=x+g.cnt→0≤x→(l++g.txt first).length≤140737488355328→g.cnt<L→M+5+3*g.flat.length<F→
  ∃o b,Cs (λσ=>CJ F v c (DF F) σ.1 σ.2.1 σ.2.2.1 σ.2.2.2) L (at_,x,first,l)=some o∧BN (λν=>Gc ν.1 ν.2) o=some (b,l++g.txt first):=by
 intro g
 induction g with
 | nil=>
  intro v c F L at_ x first l m last ys hA hpc hm hcN hw hd h0 hN hx hlen hL hF
  obtain⟨L,rfl⟩:∃K,L=K+1:=⟨L-1,by omega⟩
  simp only[Fo.cnt] at hN;have hx' : ¬ x<c.fN:=by omega
  refine⟨.go (first,l),first,DX (K1 hpc hx'),?_⟩;rw[Lc,Fo.txt,Zg];rfl
 | cell k cc r ih=>
  intro v c F L at_ x first l m last ys hA hpc hm hcN hw hd h0 hN hx hlen hL hF
  simp only[Fo.wf,Yv,YC] at hw;obtain⟨⟨⟨w1,w2⟩,w3⟩,w4⟩:=hw;have hd2:v.drop at_.toNat=Bs k++((Fo.cell none cc .nil).flat++(r.flat++ys)):=by rw[hd];simp[Fo.flat,Bs]
  have hd1:=CT h0 hd2;simp only[Fo.cnt] at hN hL;simp only[Fo.flat,Yz,Yu] at hF;obtain⟨L,rfl⟩:∃K,L=K+1:=⟨L-1,by omega⟩
  obtain⟨F,rfl⟩:∃K,F=K+4:=⟨F-4,by omega⟩
  have hAe:=hA.mem hd1;have hcM:=hAe.hc cc (by simp[Fo.flat,Bs]);have e:l++(Fo.cell k cc r).txt first=(l++(CO first++GZ k++D5 cc))++r.txt false:=by simp[Fo.txt]
  rw[e] at hlen ⊢;have hl2:(l++(CO first++GZ k++D5 cc)).length≤140737488355328:=by rw[Yz] at hlen;omega
  have hb:=Lw (F:=F+4) (last:=last) hA (by omega) hpc (by omega) hx hcN h0 (by rw[hm];exact w1) hd2 rfl (Qf w2 w3) (first:=first) (l:=l) (λkey hkey=>
   Lq (last:=last) (by rw[hm];exact w1) (λs hs=>⟨hkey s hs,by
    have hM:=hA.hM;subst hs;have:=(hA.hc ⟨4,0,s,0⟩ (List.mem_of_mem_drop (by rw[hd2];simp[Bs]))).1;simp only at this;omega⟩) hl2 (λl' hl'=>Ky (F:=F) w2 w3 (by omega) hcM.2.1 hl'))
  obtain⟨o,b,ho1,ho2⟩:=ih v c (F+4) L (at_+(Bs k).length+((Fo.cell none cc .nil).flat.length:Int)) (x+1) false (l++(CO first++GZ k++D5 cc)) m k ys hA hpc hm hcN w4 (CT (by omega) hd1) (by omega) (by omega) (by omega) hlen (by omega) (by omega);exact⟨o,b,JA hb ho1,ho2⟩
 | node k cc kids r ihk ih=>
  intro v c F L at_ x first l m last ys hA hpc hm hcN hw hd h0 hN hx hlen hL hF
  simp only[Fo.wf,Yv,Yq] at hw;obtain⟨⟨⟨⟨⟨w1,w2⟩,w3⟩,w5⟩,w6⟩,w4⟩:=hw;have hd2:v.drop at_.toNat=Bs k++((Fo.node none cc kids .nil).flat++(r.flat++ys)):=by rw[hd];simp[Fo.flat,Bs]
  have hd1:=CT h0 hd2;simp only[Fo.cnt] at hN hL;simp only[Fo.flat,Yz,Yu] at hF;obtain⟨L,rfl⟩:∃K,L=K+1:=⟨L-1,by omega⟩
  obtain⟨F,rfl⟩:∃K,F=K+3:=⟨F-3,by omega⟩
  have hAe:=hA.mem hd1;have hfl:(Fo.node none cc kids .nil).flat=cc::kids.flat:=by simp[Fo.flat,Bs]
  have hcM:=hAe.hc cc (by rw[hfl];simp);have hcf:=Cq kids;have e:l++(Fo.node k cc kids r).txt first=(l++(CO first++GZ k++Pc cc (kids.txt true)))++r.txt false:=by simp[Fo.txt]
  rw[e] at hlen ⊢;have hl2:(l++(CO first++GZ k++Pc cc (kids.txt true))).length≤140737488355328:=by rw[Yz] at hlen;omega
  have hb:=Lw (F:=F+3) (last:=last) hA (by omega) hpc (by omega) hx hcN h0 (by rw[hm];exact w1) hd2 rfl (Qe w2 w3 w5 w6) (first:=first) (l:=l) (λkey hkey=>
   Lq (last:=last) (by rw[hm];exact w1) (λs hs=>⟨hkey s hs,by
    have hM:=hA.hM;subst hs;have:=(hA.hc ⟨4,0,s,0⟩ (List.mem_of_mem_drop (by rw[hd2];simp[Bs]))).1;simp only at this;omega⟩) hl2 (λl' hl'=>by
     rw[Ex];have hat:Ar (Fo.node none cc kids .nil).flat 0=cc:=by rw[hfl];rfl
     have hlen0:0<(Fo.node none cc kids .nil).flat.length:=by rw[hfl];simp
     have hbl:=JP cc (kids.txt true);rw[Yz,hbl] at hl';have hb:∀l2:Ae,l2.length=l'.length+1→∃b,EJ (F+1) (Fo.node none cc kids .nil).flat true l2 cc=some (b,l2++kids.txt true):=λl2 hl2'=>by
       rw[EJ];unfold GB;have i0:(0:Int)<((Fo.node none cc kids .nil).flat.length:Int):=by omega
       obtain⟨o,b,ho1,ho2⟩:=ihk (Fo.node none cc kids .nil).flat cc F F 1 0 true l2 _ none [] hAe hat rfl hcM.2.2 w6 (by rw[hfl];simp) (by decide) (by omega) (YQ 0) (by rw[Yz];omega) (by omega) (by omega);exact⟨b,by rw[Bg (YQ 0) i0,AC ho1,ho2]⟩
     exact IG hat hlen0 (La w2 w3).1 (by rw[Yz,hbl];exact hl') hb))
  obtain⟨o,b,ho1,ho2⟩:=ih v c (F+3) L (at_+(Bs k).length+((Fo.node none cc kids .nil).flat.length:Int)) (x+1) false (l++(CO first++GZ k++Pc cc (kids.txt true))) m k ys hA hpc hm hcN w4 (CT (by omega) hd1) (by omega) (by omega) (by omega) hlen (by omega) (by omega);exact⟨o,b,JA hb ho1,ho2⟩
theorem Rh {f:Fo}{F:Nat}{l:Ae}(hA:JS M f.flat)(h1:f.one=true)(hw:f.wf false none=true)(hF:M+8+3*f.flat.length<F)(hlen:(l++f.txt true).length≤140737488355328):Ex F l f.flat=some (l++f.txt true):=by
 have hM:=hA.hM;have hvM:=hA.hv
 cases f with
 | nil=>cases h1
 | cell k c r=>
  cases k with
  | some s=>cases h1
  | none=>
   cases r with
   | nil=>
    simp only[Fo.wf,Yv,YC] at hw;have hfl:(Fo.cell none c .nil).flat=[c]:=by simp[Fo.flat,Bs]
    have hcM:=hA.hc c (by rw[hfl];simp);have et:(Fo.cell none c .nil).txt true=D5 c:=by simp[Fo.txt,CO,GZ]
    rw[et] at hlen ⊢;obtain⟨F,rfl⟩:∃K,F=K+3:=⟨F-3,by omega⟩
    rw[hfl];exact Ky hw.1.1.2 hw.1.2 (by omega) hcM.2.1 hlen
   | cell _ _ _=>cases h1
   | node _ _ _ _=>cases h1
 | node k c kids r=>
  cases k with
  | some s=>cases h1
  | none=>
   cases r with
   | nil=>
    simp only[Fo.wf,Yv,Yq] at hw;obtain⟨⟨⟨⟨⟨w1,w2⟩,w3⟩,w5⟩,w6⟩,w4⟩:=hw;have hfl:(Fo.node none c kids .nil).flat=c::kids.flat:=by simp[Fo.flat,Bs]
    have hcM:=hA.hc c (by rw[hfl];simp);have et:(Fo.node none c kids .nil).txt true=Pc c (kids.txt true):=by simp[Fo.txt,CO,GZ]
    rw[et] at hlen ⊢;have hcf:=Cq kids;have hat:Ar (Fo.node none c kids .nil).flat 0=c:=by rw[hfl];rfl
    have hlen0:0<(Fo.node none c kids .nil).flat.length:=by rw[hfl];simp
    have hl1:(Fo.node none c kids .nil).flat.length=kids.flat.length+1:=by rw[hfl];simp
    have hbl:=JP c (kids.txt true);obtain⟨F,rfl⟩:∃K,F=K+2:=⟨F-2,by omega⟩
    rw[Ex];refine IG hat hlen0 (La w2 w3).1 hlen (λl2 hl2=>?_);rw[Yz,hbl] at hlen;rw[EJ];unfold GB;have i0:(0:Int)<((Fo.node none c kids .nil).flat.length:Int):=by omega
    obtain⟨o,b,ho1,ho2⟩:=Mn kids (Fo.node none c kids .nil).flat c F F 1 0 true l2 _ none [] hA hat rfl hcM.2.2 w6 (by rw[hfl];simp) (by decide) (by omega) (YQ 0) (by rw[Yz];omega) (by omega) (by omega);exact⟨b,by rw[Bg (YQ 0) i0,AC ho1,ho2]⟩
   | cell _ _ _=>cases h1
   | node _ _ _ _=>cases h1
def Iz (v:List Aa):Ae×Int:=match whole v with
 | none=>([],1)
 | some f=>bif decide (Gl f=0) then(f.txt true,0) else([],Gl f)
theorem Vz (n:Int):Lib.itoa n≠[]:=by
 unfold Lib.itoa
 split
 ·simp
 ·intro h;have:=congrArg List.length h;rw[Lib.decDigits_length] at this;have:=Lib.nDigits_pos n.toNat;simp at *;omega
theorem UT {f:Fo}(hw:f.wf false none=true)(h1:f.one=true):0<(f.txt true).length:=by
 have e:=Ib f false none true hw
 cases f with
 | nil=>cases h1
 | cell k c r=>
  have h2:=Gx hw;simp only[Fo.txt,Yz];simp only[Fo.wf,Yv] at hw;have hp:=hw.1.1.2;have:0<(D5 c).length:=by
   have hl:=MT hp;have:0<S6 c:=by
    unfold S6
    cases h1:decide (c.fKind=1) with
    | true=>simp
    | false=>
     cases h2:decide (c.fKind=2) with
     | true=>
      simp[pl,h1,h2] at hp;simp only[Yt,Yw];omega
     | false=>
      cases h3:decide (c.fKind=3) with
      | true=>
       simp only[Yt,Yw];have:Lib.itoa c.fInt≠[]:=Vz _;have:=List.length_pos_iff.2 this;omega
      | false=>
       cases h4:decide (c.fKind=4) with
       | true=>have:=Jx c.fStr;simp only[Yt,Yw];omega
       | false=>simp
   omega
  omega
 | node k c kids r=>
  have:=JP c (kids.txt true);simp only[Fo.txt,Yz];omega
theorem Pr {v:List Aa}(hA:JS M v)(hM:M≤1000000){F:Nat}(hF:4*M+8<F):Jj F v=some (Iz v):=by
 have hvM:=hA.hv;unfold Jj Iz;rw[Ia hA hM (by omega),AC rfl];unfold Kj
 cases hwh:whole v with
 | none=>rfl
 | some f=>
  change Bw (!decide (Gl f=0)) _ _=some (bif decide (Gl f=0) then(f.txt true,0) else([],Gl f))
  cases he:decide (Gl f=0) with
  | false=>rw[AL (p:=!false) rfl];rfl
  | true=>
   obtain⟨h1,h2,h3⟩:=Lo hwh;have hl:v.length=f.flat.length:=by rw[h1]
   have hc:∀c∈f.flat,c.fStr.length≤M∧BT .i64 c.fInt=true∧c.fN≤9223372036854775807:=λc hc=>hA.hc c (by rw[h1];exact hc);have hb:=Nj hM h2 (by omega) hc;have htl:((f.txt true).length:Int)=f.byt:=by rw[Ib f false none true h2,Q1 h3];simp
   have hA':JS M f.flat:=by rw[← h1];exact hA
   have hw:=Rh (F:=F) (l:=[]) hA' h3 h2 (by omega) (by rw[Zf];omega);rw[A8 (p:=!true) rfl,h1,hw,AC rfl,Zf,BG (Y0 (UT h2 h3))];rfl
end
def SZ (v:List Aa):Bool:=!decide (300<v.length)&&v.all λc=>!decide (300<c.fStr.length)
def T0 (c:Aa):Bool:=BT .i64 c.fKind&&BT .i64 c.fInt&&UA c.fStr&&BT .i64 c.fN
theorem JS.of {v:List Aa}(hs:SZ v=true)(hc:v.all T0=true):JS 300 v:=by
 unfold SZ at hs;simp only[Yv,YC,Yr,YL] at hs hc;refine⟨by decide,by omega,λc h=>?_⟩;obtain h1:=hs.2 c h;obtain h2:=hc c h;unfold T0 at h2;simp only[Yv] at h2;exact⟨by omega,h2.1.1.2,(JG h2.2).2⟩
section
variable {M : Nat}
end
theorem Sn {α:Type}{n:Nat}{x:Option α}(h:n≤1000000000):Bc (Ea 40 n) x=x:=BG (Y0 (by omega))
theorem Vk (s:Ae):Ph (CH s)=s:=by
 unfold Ph CH;rw[Zh];have:((λx:Int=>UInt8.ofNat x.toNat) ∘ λc:UInt8=>(c.toNat:Int))=id:=by funext c;simp
 rw[this,List.map_id]
theorem UV (a b:Ae):CH a++CH b=CH (a++b):=by simp[CH]
theorem Pt (a:Ae):(CH a).length=a.length:=by simp[CH]
theorem SF (n:Nat):IntKind.wrap .u8 (n:Int)=((UInt8.ofNat n).toNat:Int):=by
 simp[IntKind.wrap,IntKind.signed,IntKind.bits]
theorem XL (n:Nat):IU .i64 (n:Int) 8=((n/256:Nat):Int):=by
 unfold IU;have e:min (8:Int).toNat (IntKind.bits .i64)=8:=by decide
 rw[e,Int.fdiv_eq_ediv_of_nonneg _ (by decide)];simp
def Kk (f:Ae):Ae:=UInt8.ofNat (f.length/256)::UInt8.ofNat (f.length % 256)::f
def J1 (l:List Ae):Ae:=UInt8.ofNat l.length::l.flatMap Kk
def Q3 (l:List Ae):Bool:=decide (l.length≤64)&&l.all λf=>decide (f.length≤4000)
def K7 (l:List Ae):Ae×Int:=bif Q3 l then(J1 l,0) else([],3)
theorem R7 (l:List Ae)(b:List Int×Int→Option (Stp (List Int×Int) (Out (Ae×Int) (List Int))))(hl:l.length≤64)
  (hb:∀(acc:List Int) (x:Int) (f:Ae),acc.length≤300000→0≤x→x<(l.length:Int)→Ar l x=f→b (acc,x)=bif decide (4000<f.length) then some (.out (.ret ([],3))) else some (.next (acc++CH (Kk f),x+1)))
  (he:∀acc,b (acc,(l.length:Int))=some (.out (.go acc))) {F:Nat} (hF:64<F) :
  B0 (Cs b F (CH [UInt8.ofNat l.length],0)) (BN λq=>some (Ph q,0))=some (K7 l):=by
 have key:∀(k:Nat) (F:Nat) (acc:Ae),k<F→k≤l.length→acc.length≤1+(l.length-k)*4002→
   B0 (Cs b F (CH acc,((l.length-k:Nat):Int))) (BN λq=>some (Ph q,0))=some (bif (l.drop (l.length-k)).all (λf=>decide (f.length≤4000)) then(acc++(l.drop (l.length-k)).flatMap Kk,0) else([],3)):=by
  intro k
  induction k with
  | zero=>
   intro F acc hF _ _
   cases F with
   | zero=>omega
   | succ F=>rw[Cs,Nat.sub_zero,he];simp[B0,BN,Vk]
  | succ k ih=>
   intro F acc hF hk hacc
   cases F with
   | zero=>omega
   | succ F=>
    have hlt:l.length-(k+1)<l.length:=by omega
    have hat:Ar l ((l.length-(k+1):Nat):Int)=l[l.length-(k+1)]:=by simp[Ar,hlt]
    have hd:l.drop (l.length-(k+1))=l[l.length-(k+1)]::l.drop (l.length-k):=by
     rw[List.drop_eq_getElem_cons hlt];congr 2;omega
    have ha:(l.length-(k+1))*4002≤64*4002:=Nat.mul_le_mul_right _ (by omega);rw[Cs,hb _ _ _ (by rw[Pt];omega) (by omega) (by omega) hat,hd];generalize l[l.length-(k+1)]=f at *
    cases h4:decide (4000<f.length) with
    | true=>
     simp only[Yq] at h4;rw[YT,Yx (by omega),YA];rfl
    | false=>
     simp only[Yr] at h4;have e2:(l.length-(k+1))*4002+4002=(l.length-k)*4002:=by
      rw[show l.length-k=l.length-(k+1)+1 from by omega,Nat.succ_mul]
     have:=ih F (acc++Kk f) (by omega) (by omega) (by simp[Kk];omega);rw[show((l.length-(k+1):Nat):Int)+1=((l.length-k:Nat):Int) from by omega];simp only[Yt,UV];rw[this,YT,Y0 (by omega),Y5,List.flatMap_cons,YY]
 have:=key l.length F [UInt8.ofNat l.length] (by omega) (Y8 _) (by simp);simp only[Nat.sub_self,List.drop_zero] at this;refine Eq.trans this ?_;unfold K7 Q3 J1;rw[Y0 hl,Y5];rfl
theorem OZ {α:Type}{n:Nat}{x:Option α}(h:n≤1000000000):Bc (Ea 1 n) x=x:=BG (Y0 (by omega))
theorem So {α:Type}{n:Nat}{x:Option α}(h:n≤1000000000):Bc (Ea 16 n) x=x:=BG (Y0 (by omega))
theorem OX (f:Ae):decide ((4000:Int)<(f.length:Int))=decide (4000<f.length):=by rw[Y9];simp;omega
theorem Uf {F:Nat}{l:List Ae}(hF:64<F):OR F l=some (K7 l):=by
 unfold OR
 by_cases ha:l.length≤64
 ·rw[A8 (Yx (by omega)),SF];refine R7 l _ ha (λacc x f hacc h0 hx hat=>?_) (λacc=>?_) hF
  ·show EB l acc x=_;unfold EB;rw[AL (Y0 hx),Bg h0 hx,hat,OX]
   cases h4:decide (4000<f.length) with
   | true=>rfl
   | false=>
    simp only[Yr] at h4;have e1:([IntKind.wrap .u8 (IU .i64 (f.length:Int) 8),IntKind.wrap .u8 (f.length:Int)]:List Int)++CH f=CH (Kk f):=by
     rw[XL,SF,SF];simp[CH,Kk]
    rw[A8 rfl,OZ (by simp;omega),OZ (by simp;omega),AV (by omega) (by omega),YY,e1];rfl
  ·show EB l acc _=_;unfold EB;rw[A8 (Yx (by omega))]
 ·rw[AL (Y0 (by omega))];unfold K7 Q3;rw[Yx ha];rfl
def KI:Nat→Ae→List Ae→List Ae×Int
 | 0,s,acc=>bif decide (s=[]) then(acc,0) else([],13)
 | n+1,a::b::r,acc=>bif decide (4000<a.toNat*256+b.toNat) then([],13) else bif decide (r.length<a.toNat*256+b.toNat) then([],14) else KI n (r.drop (a.toNat*256+b.toNat)) (acc++[r.take (a.toNat*256+b.toNat)])
 | n+1,_,acc=>([],14)
def Dv:Ae→List Ae×Int
 | []=>([],14)
 | c::s=>bif decide (64<c.toNat) then([],13) else KI c.toNat s []
theorem XS (a b:UInt8):KA .i64 (Eu .i64 (a.toNat:Int) 8) (b.toNat:Int)=((a.toNat*256+b.toNat:Nat):Int):=by
 have ha:=a.toNat_lt;have hb:=b.toNat_lt;have e0:Eu .i64 (a.toNat:Int) 8=((a.toNat*256:Nat):Int):=by
  unfold Eu;have e:min (8:Int).toNat (IntKind.bits .i64)=8:=by decide
  rw[e,IntKind.wrap_i64];omega
 rw[e0];unfold KA;have h1:(BitVec.ofInt (IntKind.bits .i64) ((a.toNat*256:Nat):Int)||| BitVec.ofInt (IntKind.bits .i64) (b.toNat:Int)).toNat=a.toNat*256+b.toNat:=by
  rw[BitVec.toNat_or,BitVec.toNat_ofInt,BitVec.toNat_ofInt];have hbits:IntKind.bits .i64=64:=rfl;rw[hbits];have e1:(((a.toNat*256:Nat):Int) % ((2 ^ 64:Nat):Int)).toNat=a.toNat*256:=by omega
  have e2:(((b.toNat:Nat):Int) % ((2 ^ 64:Nat):Int)).toNat=b.toNat:=by omega
  rw[e1,e2,show a.toNat*256=a.toNat <<< 8 from by rw[Nat.shiftLeft_eq]];rw[Nat.shiftLeft_add_eq_or_of_lt (by simpa using hb)]
 rw[h1,IntKind.wrap_i64];omega
theorem X3 (a:UInt8)(r:Ae):Be (a::r) 0=(a.toNat:Int):=rfl
theorem XZ (a b:UInt8)(r:Ae):Be (a::b::r) 1=(b.toNat:Int):=rfl
theorem Ue (s:Ae)(c:UInt8)(hs:Be s 0=(c.toNat:Int)):∀(k:Nat) (F:Nat) (t:Ae) (acc:List Ae) (z i:Int),k<F→i+k=(c.toNat:Int)→0≤i→acc.length≤64-k→k≤64→t.length≤1000000000→
  B0 (Cs (λσ=>Cb s σ.1 σ.2.1 σ.2.2.1 σ.2.2.2) F (t,acc,z,i)) (BN λν=>DP ν.1 ν.2)=some (KI k t acc)
 | k,0,t,acc,z,i,h,_,_,_,_,_=>by omega
 | 0,F+1,t,acc,z,i,hF,hi,h0,ha,hk,ht=>by
  rw[Cs];have hb:Cb s t acc z i=some (.out (.go (t,acc))):=by
   unfold Cb;rw[A8 (Yx (by omega))]
  simp only[hb];show DP t acc=_;unfold DP KI
  cases h:decide (t=[]) with
  | true=>rw[A8 (p:=!true) rfl,C7 (by omega) (YQ _)];simp
  | false=>rfl
 | k+1,F+1,t,acc,z,i,hF,hi,h0,ha,hk,ht=>by
  rw[Cs];have hcc:=c.toNat_lt
  match t,ht with
  | [],ht=>
   have hb:Cb s [] acc z i=some (.out (.ret ([],14))):=by
    unfold Cb;rw[AL (Y0 (by omega)),AL (by decide)];rfl
   simp only[hb];rfl
  | [a],ht=>
   have hb:Cb s [a] acc z i=some (.out (.ret ([],14))):=by
    unfold Cb;rw[AL (Y0 (by omega)),AL (by simp)];rfl
   simp only[hb];rfl
  | a::b::r,ht=>
   have haa:=a.toNat_lt;have hbb:=b.toNat_lt;simp only[Yu] at ht;have hd:List.drop (Int.toNat 2) (a::b::r)=r:=rfl;have hb:Cb s (a::b::r) acc z i=bif decide (4000<a.toNat*256+b.toNat) then some (.out (.ret ([],13))) else bif decide (r.length<a.toNat*256+b.toNat) then some (.out (.ret ([],14))) else some (.next (r.drop (a.toNat*256+b.toNat),acc++[r.take (a.toNat*256+b.toNat)],((a.toNat*256+b.toNat:Nat):Int),i+1)):=by
    unfold Cb;rw[AL (Y0 (by omega)),A8 (Yx (by simp only[Yu];omega)),X3,XZ,hd,XS];have hlen:((a::b::r).length:Int)=(r.length:Int)+2:=by simp only[Yu];omega
    rw[hlen,Bg (by omega) (by omega),AV (by omega) (by omega),Bg (by omega) (by omega),AV (by omega) (by omega),C7 (by omega) (by omega)];generalize a.toNat*256+b.toNat=m;rw[show decide ((4000:Int)<(m:Int))=decide (4000<m) from by rw[Y9];simp;omega,show decide ((r.length:Int)<(m:Int))=decide (r.length<m) from by rw[Y9];simp]
    cases h1:decide (4000<m) with
    | true=>rfl
    | false=>
     cases h2:decide (r.length<m) with
     | true=>rfl
     | false=>
      simp only[Yr] at h1 h2;rw[A8 rfl,A8 rfl,C7 (by omega) (by omega),So (by simp;omega),AV (by omega) (by omega)];rfl
   simp only[hb];rw[KI]
   cases h1:decide (4000<a.toNat*256+b.toNat) with
   | true=>rfl
   | false=>
    cases h2:decide (r.length<a.toNat*256+b.toNat) with
    | true=>rfl
    | false=>
     simp only[Yt];exact Ue s c hs k F _ _ _ _ (by omega) (by omega) (by omega) (by simp;omega) (by omega) (by simp;omega)
theorem PP {F:Nat}{s:Ae}(hF:64<F)(hs:s.length≤1000000000):JJ F s=some (Dv s):=by
 unfold JJ
 cases s with
 | nil=>rfl
 | cons c t=>
  have hc:=c.toNat_lt;simp only[Yu] at hs;rw[A8 (by simp),Bg (by omega) (by simp only[Yu];omega),X3,AV (by omega) (by omega),C7 (by omega) (by simp only[Yu];omega)];rw[show decide ((64:Int)<(c.toNat:Int))=decide (64<c.toNat) from by rw[Y9];simp;omega];rw[Dv]
  cases h:decide (64<c.toNat) with
  | true=>rfl
  | false=>
   simp only[Yr] at h;rw[A8 rfl];exact Ue (c::t) c rfl c.toNat F t [] 0 0 (by omega) (by omega) (YQ 0) (by simp) (by omega) (by omega)
theorem M5:∀(l:List Ae) (acc:List Ae),(l.all λf=>decide (f.length≤4000))=true→KI l.length (l.flatMap Kk) acc=(acc++l,0)
 | [],acc,_=>by simp[KI]
 | f::l,acc,h=>by
  simp only[YT,Yv,Yq] at h;rw[List.flatMap_cons,Yu];show KI (l.length+1) (UInt8.ofNat (f.length/256)::UInt8.ofNat (f.length % 256)::(f++l.flatMap Kk)) acc=_;rw[KI];have e:(UInt8.ofNat (f.length/256)).toNat*256+(UInt8.ofNat (f.length % 256)).toNat=f.length:=by
   simp only[UInt8.toNat_ofNat'];omega
  rw[e,Yx (by omega),Yx (by simp),Yt,Yt,List.take_left,List.drop_left,M5 l _ (by simpa using h.2)];simp
theorem SO {l:List Ae}(h:Q3 l=true):Dv (J1 l)=(l,0):=by
 unfold Q3 at h;simp only[Yv,Yq] at h;unfold J1;rw[Dv];have e:(UInt8.ofNat l.length).toNat=l.length:=by simp only[UInt8.toNat_ofNat'];omega
 rw[e,Yx (by omega),Yt,M5 l [] h.2];rfl
theorem Oi:∀(n:Nat) (s:Ae) (acc:List Ae) (q:List Ae),KI n s acc=(q,0)→∃l,q=acc++l∧l.length=n∧(l.all λf=>decide (f.length≤4000))=true∧l.flatMap Kk=s
 | 0,s,acc,q,h=>by
  rw[KI] at h
  cases hs:decide (s=[]) with
  | true=>rw[hs] at h;simp only[Yw,Prod.mk.injEq] at h;exact⟨[],by simp[h.1],rfl,rfl,by rw[YG hs];rfl⟩
  | false=>rw[hs] at h;cases h
 | n+1,[],acc,q,h=>by have h2:(([]:List Ae),(14:Int))=(q,0):=h;cases h2
 | n+1,[a],acc,q,h=>by have h2:(([]:List Ae),(14:Int))=(q,0):=h;cases h2
 | n+1,a::b::r,acc,q,h=>by
  rw[KI] at h;have ha:=a.toNat_lt;have hb:=b.toNat_lt
  cases h1:decide (4000<a.toNat*256+b.toNat) with
  | true=>rw[h1] at h;cases h
  | false=>
   cases h2:decide (r.length<a.toNat*256+b.toNat) with
   | true=>rw[h1,h2] at h;cases h
   | false=>
    rw[h1,h2] at h;simp only[Yt] at h;simp only[Yr] at h1 h2;obtain⟨l,e1,e2,e3,e4⟩:=Oi n _ _ _ h;have hl:(r.take (a.toNat*256+b.toNat)).length=a.toNat*256+b.toNat:=by simp;omega
    refine⟨r.take (a.toNat*256+b.toNat)::l,by rw[e1];simp,by simp[e2],?_,?_⟩
    ·rw[YT,e3,YB,Yq,hl];omega
    ·rw[List.flatMap_cons,e4];unfold Kk;rw[hl];have x1:UInt8.ofNat ((a.toNat*256+b.toNat)/256)=a:=by
      apply UInt8.toNat_inj.1;simp only[UInt8.toNat_ofNat'];omega
     have x2:UInt8.ofNat ((a.toNat*256+b.toNat) % 256)=b:=by
      apply UInt8.toNat_inj.1;simp only[UInt8.toNat_ofNat'];omega
     rw[x1,x2];simp
theorem Ox {s:Ae}{l:List Ae}(h:Dv s=(l,0)):Q3 l=true∧J1 l=s:=by
 cases s with
 | nil=>cases h
 | cons c t=>
  rw[Dv] at h
  cases h1:decide (64<c.toNat) with
  | true=>rw[h1] at h;cases h
  | false=>
   rw[h1] at h;simp only[Yt] at h;simp only[Yr] at h1;obtain⟨l',e1,e2,e3,e4⟩:=Oi _ _ _ _ h;simp only[Zf] at e1;subst e1;unfold Q3 J1;rw[e3,e4,e2,Y0 (by omega)];exact⟨rfl,by simp⟩
theorem Ro {s:Ae}{f:Ae}(h:f∈(Dv s).1)(h0:(Dv s).2=0):f.length≤4000:=by
 have:=(Ox (s:=s) (l:=(Dv s).1) (by rw[← h0])).1;unfold Q3 at this;simp only[Yv,Yq,YL] at this;exact this.2 f h
def pre:Ae→Ae→Option Ae
 | [],s=>some s
 | c::w,d::s=>bif decide (c=d) then pre w s else none
 | _::_,[]=>none
def Cm (strict:Bool):Ae→Option (Ae×Ae)
 | []=>none
 | c::r=>
  bif decide (c=34) then some ([],r) else
  bif strict&&!Iw c then none else
  bif decide (c=92) then(match r with
   | []=>none
   | d::r'=>bif decide (d=34)||decide (d=92) then(match Cm strict r' with
    | none=>none
    | some (t,u)=>some (d::t,u)) else none)
  else(match Cm strict r with
   | none=>none
   | some (t,u)=>some (c::t,u))
def B7 (c:UInt8):Bool:=decide (48≤c.toNat)&&decide (c.toNat≤57)
def Cc:Ae→Ae×Ae
 | []=>([],[])
 | c::r=>bif B7 c then(c::(Cc r).1,(Cc r).2) else([],c::r)
def Mu (d:Ae):Int:=d.foldl (λn c=>10*n+((c.toNat:Int)-48)) 0
def Iy (neg:Bool)(d:Ae):Int:=
 bif decide (18<d.length) then(bif neg then -2000000000000 else 2000000000000) else bif neg then -(Mu d) else Mu d
def Ee (neg:Bool)(d:Ae):Bool:=!decide (d=[])&&!(decide (d.head? =some 48)&&(decide (1<d.length)||neg))
def GS (s:Ae):Option (Fo×Ae):=
 let neg:=decide (s.head? =some 45)
 let r:=bif neg then s.tail else s
 bif Ee neg (Cc r).1 then some (.cell none ⟨3,Iy neg (Cc r).1,[],0⟩ .nil,(Cc r).2) else none
def lf (k i:Int)(t:Ae):Fo:=.cell none ⟨k,i,t,0⟩ .nil
def nd (m:Bool)(g:Fo):Fo:=bif decide (g.cnt=0) then .cell none ⟨bif m then 6 else 5,0,[],0⟩ .nil else .node none ⟨bif m then 6 else 5,0,[],(g.cnt:Int)⟩ g .nil
def B6 (m:Bool):UInt8:=bif m then 125 else 93
def DO (strict m:Bool)(last:Option Ae)(s:Ae):Option (Option Ae×Ae):=
 bif m then(match s with
  | []=>none
  | c::r=>bif decide (c=34) then(match Cm strict r with
   | none=>none
   | some (k,u)=>bif strict&&!Bi true last (some k) then none else(match u with
    | []=>none
    | d::u'=>bif decide (d=58) then some (some k,u') else none)) else none)
 else some (none,s)
mutual
def E0 (strict:Bool):Nat→Ae→Option (Fo×Ae)
 | 0,_=>none
 | F+1,s=>
  match pre [110,117,108,108] s with
  | some r=>some (lf 1 0 [],r)
  | none=>match pre [116,114,117,101] s with
   | some r=>some (lf 2 1 [],r)
   | none=>match pre [102,97,108,115,101] s with
    | some r=>some (lf 2 0 [],r)
    | none=>match s with
     | []=>none
     | c::r=>
      bif decide (c=34) then(match Cm strict r with
       | none=>none
       | some (t,u)=>some (lf 4 0 t,u)) else
      bif decide (c=91)||decide (c=123) then(match r with
       | []=>none
       | d::r'=>bif decide (d=B6 (decide (c=123))) then some (nd (decide (c=123)) .nil,r') else(match CR strict F (decide (c=123)) none (d::r') with
        | none=>none
        | some (g,u)=>some (nd (decide (c=123)) g,u))) else
      GS (c::r)
def CR (strict:Bool):Nat→Bool→Option Ae→Ae→Option (Fo×Ae)
 | 0,_,_,_=>none
 | F+1,m,last,s=>
  match DO strict m last s with
  | none=>none
  | some (key,s1)=>match E0 strict F s1 with
   | none=>none
   | some (f,s2)=>match s2 with
    | []=>none
    | c::s3=>
     bif decide (c=B6 m) then some (f.put key .nil,s3) else
     bif decide (c=44) then(match CR strict F m key s3 with
      | none=>none
      | some (g,u)=>some (f.put key g,u)) else none
end
theorem CQ (strict:Bool)(F:Nat)(s:Ae):E0 strict (F+1) s =
  match pre [110,117,108,108] s with
  | some r=>some (lf 1 0 [],r)
  | none=>match pre [116,114,117,101] s with
   | some r=>some (lf 2 1 [],r)
   | none=>match pre [102,97,108,115,101] s with
    | some r=>some (lf 2 0 [],r)
    | none=>match s with
     | []=>none
     | c::r=>
      bif decide (c=34) then(match Cm strict r with
       | none=>none
       | some (t,u)=>some (lf 4 0 t,u)) else
      bif decide (c=91)||decide (c=123) then(match r with
       | []=>none
       | d::r'=>bif decide (d=B6 (decide (c=123))) then some (nd (decide (c=123)) .nil,r') else(match CR strict F (decide (c=123)) none (d::r') with
        | none=>none
        | some (g,u)=>some (nd (decide (c=123)) g,u))) else
      GS (c::r):=by
 rw[E0.eq_def]
theorem CE (strict:Bool)(F:Nat)(m:Bool)(last:Option Ae)(s:Ae):CR strict (F+1) m last s =
  match DO strict m last s with
  | none=>none
  | some (key,s1)=>match E0 strict F s1 with
   | none=>none
   | some (f,s2)=>match s2 with
    | []=>none
    | c::s3=>
     bif decide (c=B6 m) then some (f.put key .nil,s3) else
     bif decide (c=44) then(match CR strict F m key s3 with
      | none=>none
      | some (g,u)=>some (f.put key g,u)) else none:=by
 rw[CR.eq_def]
theorem CL:∀{w s r:Ae},pre w s=some r→s=w++r
 | [],s,r,h=>by cases h;rfl
 | c::w,[],r,h=>by cases h
 | c::w,d::s,r,h=>by
  rw[pre] at h
  cases hc:decide (c=d) with
  | false=>rw[hc] at h;cases h
  | true=>
   rw[hc] at h;simp only[Yq] at hc;rw[hc,CL h];rfl
theorem CV (b:Bool)(c:UInt8)(r:Ae):Cm b (c::r) =
  bif decide (c=34) then some ([],r) else
  bif b&&!Iw c then none else
  bif decide (c=92) then(match r with
   | []=>none
   | d::r'=>bif decide (d=34)||decide (d=92) then(match Cm b r' with
    | none=>none
    | some (t,u)=>some (d::t,u)) else none)
  else(match Cm b r with
   | none=>none
   | some (t,u)=>some (c::t,u)):=by
 rw[Cm.eq_def]
 cases r<;>rfl
theorem H8 (b:Bool):∀(n:Nat) (s t u:Ae),s.length=n→Cm b s=some (t,u)→u.length<s.length:=by
 intro n
 induction n using Nat.strongRecOn with
 | ind n ih=>
  intro s t u hn h
  cases s with
  | nil=>cases h
  | cons c r=>
   simp only[Yu] at hn ⊢;rw[CV] at h
   cases h1:decide (c=34) with
   | true=>rw[h1] at h;cases h;omega
   | false=>
    rw[h1] at h;simp only[Yt] at h
    cases h2:(b&&!Iw c) with
    | true=>rw[h2] at h;cases h
    | false=>
     rw[h2] at h;simp only[Yt] at h
     cases h3:decide (c=92) with
     | true=>
      rw[h3] at h
      cases r with
      | nil=>cases h
      | cons d r'=>
       simp only[Yw] at h
       cases h4:(decide (d=34)||decide (d=92)) with
       | false=>rw[h4] at h;cases h
       | true=>
        rw[h4] at h;simp only[Yw] at h
        cases h5:Cm b r' with
        | none=>rw[h5] at h;cases h
        | some q=>
         obtain⟨t',u'⟩:=q;rw[h5] at h;cases h;simp only[Yu] at hn ⊢;have:=ih r'.length (by omega) r' t' u rfl h5;omega
     | false=>
      rw[h3] at h;simp only[Yt] at h
      cases h5:Cm b r with
      | none=>rw[h5] at h;cases h
      | some q=>
       obtain⟨t',u'⟩:=q;rw[h5] at h;cases h;have:=ih r.length (by omega) r t' u rfl h5;omega
theorem Lg:∀s:Ae,s=(Cc s).1++(Cc s).2
 | []=>rfl
 | c::r=>by
  have:=Lg r;rw[Cc]
  cases B7 c with
  | true=>simp only[Yw,Zb];rw[← this]
  | false=>rfl
theorem LP {s u:Ae}{f:Fo}(h:GS s=some (f,u)):u.length<s.length:=by
 unfold GS at h;simp only at h
 cases hc:Ee (decide (s.head? =some 45)) (Cc (bif decide (s.head? =some 45) then s.tail else s)).1 with
 | false=>rw[hc] at h;cases h
 | true=>
  rw[hc] at h;simp only[Yw,Option.some.injEq,Prod.mk.injEq] at h;obtain⟨_,h⟩:=h;have e:=congrArg List.length (Lg (bif decide (s.head? =some 45) then s.tail else s));rw[Yz,h] at e;have h1:0<(Cc (bif decide (s.head? =some 45) then s.tail else s)).1.length:=by
   unfold Ee at hc;simp only[Yv,YC,Yr] at hc;exact List.length_pos_iff.2 hc.1
  have h2:(bif decide (s.head? =some 45) then s.tail else s).length≤s.length:=by
   cases decide (s.head? =some 45)<;>simp
  omega
theorem OK {b m:Bool}{last key:Option Ae}{s u:Ae}(h:DO b m last s=some (key,u)):u.length≤s.length:=by
 unfold DO at h
 cases m with
 | false=>cases h;exact Y8 _
 | true=>
  simp only[Yw] at h
  cases s with
  | nil=>cases h
  | cons c r=>
   simp only at h
   cases h1:decide (c=34) with
   | false=>rw[h1] at h;cases h
   | true=>
    rw[h1] at h;simp only[Yw] at h
    cases h2:Cm b r with
    | none=>rw[h2] at h;cases h
    | some q=>
     obtain⟨k,w⟩:=q;have:=H8 b _ r k w rfl h2;rw[h2] at h;simp only at h
     cases h3:(b&&!Bi true last (some k)) with
     | true=>rw[h3] at h;cases h
     | false=>
      rw[h3] at h;simp only[Yt] at h
      cases w with
      | nil=>cases h
      | cons d w'=>
       simp only at h
       cases h4:decide (d=58) with
       | false=>rw[h4] at h;cases h
       | true=>rw[h4] at h;cases h;simp only[Yu] at this ⊢;omega
theorem T8 (m:Bool)(g:Fo):(nd m g).one=true:=by
 unfold nd
 cases decide (g.cnt=0)<;>rfl
theorem TX {s u:Ae}{f:Fo}(h:GS s=some (f,u)):f.one=true:=by
 unfold GS at h;simp only at h
 cases hc:Ee (decide (s.head? =some 45)) (Cc (bif decide (s.head? =some 45) then s.tail else s)).1 with
 | false=>rw[hc] at h;cases h
 | true=>rw[hc] at h;cases h;rfl
theorem DG (b:Bool):∀F:Nat,(∀s f u,E0 b F s=some (f,u)→u.length<s.length∧f.one=true)∧(∀m last s g u,CR b F m last s=some (g,u)→u.length<s.length∧1≤g.cnt)
 | 0=>⟨(λs f u h=>by rw[E0.eq_def] at h;cases h),(λm last s g u h=>by rw[CR.eq_def] at h;cases h)⟩
 | F+1=>by
  obtain⟨ih1,ih2⟩:=DG b F;constructor
  ·intro s f u h;rw[CQ] at h
   cases h1:pre [110,117,108,108] s with
   | some r=>rw[h1] at h;cases h;rw[CL h1];exact⟨by simp;omega,rfl⟩
   | none=>
   rw[h1] at h;simp only at h
   cases h2:pre [116,114,117,101] s with
   | some r=>rw[h2] at h;cases h;rw[CL h2];exact⟨by simp;omega,rfl⟩
   | none=>
   rw[h2] at h;simp only at h
   cases h3:pre [102,97,108,115,101] s with
   | some r=>rw[h3] at h;cases h;rw[CL h3];exact⟨by simp;omega,rfl⟩
   | none=>
   rw[h3] at h;simp only at h
   cases s with
   | nil=>cases h
   | cons c r=>
   simp only at h
   cases h4:decide (c=34) with
   | true=>
    rw[h4] at h;simp only[Yw] at h
    cases h5:Cm b r with
    | none=>rw[h5] at h;cases h
    | some q=>
     obtain⟨t,w⟩:=q;rw[h5] at h;cases h;have:=H8 b _ r t u rfl h5;exact⟨by simp only[Yu];omega,rfl⟩
   | false=>
   rw[h4] at h;simp only[Yt] at h
   cases h5:(decide (c=91)||decide (c=123)) with
   | false=>rw[h5] at h;simp only[Yt] at h;exact⟨LP h,TX h⟩
   | true=>
   rw[h5] at h;simp only[Yw] at h
   cases r with
   | nil=>cases h
   | cons d r'=>
   simp only at h
   cases h6:decide (d=B6 (decide (c=123))) with
   | true=>rw[h6] at h;cases h;exact⟨by simp only[Yu];omega,T8 _ _⟩
   | false=>
   rw[h6] at h;simp only[Yt] at h
   cases h7:CR b F (decide (c=123)) none (d::r') with
   | none=>rw[h7] at h;cases h
   | some q=>
    obtain⟨g,w⟩:=q;rw[h7] at h;cases h;have:=(ih2 _ _ _ _ _ h7).1;exact⟨by simp only[Yu] at this ⊢;omega,T8 _ _⟩
  ·intro m last s g u h;rw[CE] at h
   cases h1:DO b m last s with
   | none=>rw[h1] at h;cases h
   | some q=>
   obtain⟨key,s1⟩:=q;have l1:=OK h1;rw[h1] at h;simp only at h
   cases h2:E0 b F s1 with
   | none=>rw[h2] at h;cases h
   | some q=>
   obtain⟨f,s2⟩:=q;obtain⟨l2,o2⟩:=ih1 _ _ _ h2;rw[h2] at h;simp only at h
   cases s2 with
   | nil=>cases h
   | cons c s3=>
   simp only[Yu] at l2;have hput:∀r:Fo,1≤(f.put key r).cnt:=λr=>by
    cases f with
    | nil=>cases o2
    | cell _ _ _=>simp[Fo.put,Fo.cnt]
    | node _ _ _ _=>simp[Fo.put,Fo.cnt]
   simp only at h
   cases h3:decide (c=B6 m) with
   | true=>rw[h3] at h;cases h;exact⟨by omega,hput _⟩
   | false=>
   rw[h3] at h;simp only[Yt] at h
   cases h4:decide (c=44) with
   | false=>rw[h4] at h;cases h
   | true=>
   rw[h4] at h;simp only[Yw] at h
   cases h5:CR b F m key s3 with
   | none=>rw[h5] at h;cases h
   | some q=>
    obtain⟨g',w⟩:=q;rw[h5] at h;cases h;have:=(ih2 _ _ _ _ _ h5).1;exact⟨by omega,hput _⟩
def Ca (acc:Nat)(d:Ae):Nat:=d.foldl (λn c=>10*n+(c.toNat-48)) acc
theorem GP:∀(d:Ae) (a:Nat),a≤Ca a d
 | [],a=>Y8 _
 | c::d,a=>by
  have:=GP d (10*a+(c.toNat-48));show a≤Ca (10*a+(c.toNat-48)) d;omega
theorem O8:∀(d:Ae) (a:Nat),1≤a→10 ^ d.length≤Ca a d
 | [],a,h=>by simpa[Ca] using h
 | c::d,a,h=>by
  have hm:∀(d:Ae) (a b:Nat),a≤b→Ca a d≤Ca b d:=by
   intro d
   induction d with
   | nil=>intro a b h;exact h
   | cons c d ih=>intro a b h;show Ca (10*a+(c.toNat-48)) d≤Ca (10*b+(c.toNat-48)) d;exact ih _ _ (by omega)
  have hs:∀(d:Ae) (a:Nat),10 ^ d.length*a≤Ca a d:=by
   intro d
   induction d with
   | nil=>intro a;simp[Ca]
   | cons c d ih=>
    intro a;have:=ih (10*a+(c.toNat-48));show 10 ^ (d.length+1)*a≤Ca (10*a+(c.toNat-48)) d;refine Nat.le_trans ?_ this;rw[Nat.pow_succ,Nat.mul_assoc];exact Nat.mul_le_mul_left _ (by omega)
  exact Nat.le_trans (Nat.le_mul_of_pos_right _ h) (hs (c::d) a)
theorem HD:∀(d:Ae) (a:Nat),d.all B7=true→d.foldl (λn c=>10*n+((c.toNat:Int)-48)) (a:Int)=(Ca a d:Int)
 | [],a,_=>rfl
 | c::d,a,h=>by
  simp only[YT,Yv] at h;have hc:48≤c.toNat:=by have:=h.1;simp[B7] at this;omega
  have:=HD d (10*a+(c.toNat-48)) h.2;show d.foldl _ (10*(a:Int)+((c.toNat:Int)-48))=(Ca (10*a+(c.toNat-48)) d:Int);rw[← this]
  congr 1
  omega
theorem N3:∀(d:Ae) (a:Nat),d.all B7=true→Lib.parseUint10 a d = .ok (Ca a d)∨(Lib.parseUint10 a d = .range∧1000000000000<Ca a d)
 | [],a,_=>.inl rfl
 | c::d,a,h=>by
  simp only[YT,Yv] at h;have hc:48≤c.toNat∧c.toNat≤57:=by have:=h.1;simp[B7] at this;omega
  have hm:=GP d (10*a+(c.toNat-48));have e:Ca a (c::d)=Ca (10*a+(c.toNat-48)) d:=rfl;rw[e];unfold Lib.parseUint10;rw[Zd hc]
  split
  ·exact .inr ⟨rfl,by omega⟩
  ·split
   ·exact .inr ⟨rfl,by omega⟩
   ·rw[show a*10+(c.toNat-48)=10*a+(c.toNat-48) from by omega];exact N3 d _ h.2
theorem Kq:∀(d:Ae) (i:Nat),AT Dq i d=d.all B7
 | [],_=>rfl
 | c::d,i=>by
  rw[AT,YT,Kq d]
  congr 1
  simp only[Dq,B7];rw[Y9];simp only[YC,YM,Yr,Yv,Yq];omega
def EK (neg:Bool)(d:Ae):Ae:=bif neg then 45::d else d
theorem TY {d:Ae}(hd:d.all B7=true) : ¬ d.head? =some 45:=by
 cases d with
 | nil=>simp
 | cons c d=>
  simp only[YT,Yv] at hd;have:=hd.1;intro e;simp only[List.head?_cons,Option.some.injEq] at e;subst e;simp[B7] at this
theorem Rx (s:Ae):L7 s=decide (s.head? =some 45):=by
 cases s with
 | nil=>rfl
 | cons c r=>
  have:Be (c::r) 0=c.toNat:=EQ rfl;unfold L7;rw[this,Y9];simp only[Yv,Yq,List.head?_cons,Option.some.injEq,← Zl,Yu];show _∧(c.toNat:Int)=45↔c.toNat=45;omega
theorem Uk {neg:Bool}{d:Ae}(hd:d.all B7=true):G5 (EK neg d)=d:=by
 unfold G5;rw[Rx]
 cases neg with
 | true=>rfl
 | false=>
  have:=TY hd;show(if decide (d.head? =some 45)=true then d.drop 1 else d)=d;rw[YW (by simpa using this)]
theorem Uq {neg:Bool}{d:Ae}(hd:d.all B7=true):IX (EK neg d)=Ee neg d:=by
 unfold IX Ee;rw[Uk hd,Kq,hd,YB]
 cases d with
 | nil=>simp
 | cons c r=>
  have hb:Be (c::r) 0=c.toNat:=EQ rfl;have h1:decide (c::r=([]:Ae))=false:=by simp
  have h2:decide (Be (c::r) 0=48)=decide ((c::r).head? =some 48):=by
   rw[hb,Y9];simp only[Yq,List.head?_cons,Option.some.injEq,← Zl];show(c.toNat:Int)=48↔c.toNat=48;omega
  rw[h1,h2,Y7,YE,Y5]
  cases ha:decide ((c::r).head? =some 48) with
  | false=>rfl
  | true=>
   simp only[Yq,List.head?_cons,Option.some.injEq] at ha;subst ha
   cases neg with
   | true=>simp[EK]
   | false=>
    cases r with
    | nil=>simp[EK]
    | cons a r=>simp[EK]
theorem U1 {neg:Bool}{d:Ae}(hd:d.all B7=true)(hne:d≠[]):Lib.atoiAll (EK neg d)=(bif neg then Lib.signed (Lib.parseUint10 0 d) else Lib.signless (Lib.parseUint10 0 d)):=by
 cases neg with
 | true=>
  simp only[EK,Yw];rw[Lib.atoiAll_minus,Lib.parseMag,YW hne]
 | false=>
  cases d with
  | nil=>exact absurd rfl hne
  | cons c r=>
   have hc:=hd;simp only[YT,Yv] at hc;have ha:48≤c.toNat:=by have:=hc.1;simp[B7] at this;omega
   simp only[EK,Yt];rw[Lib.atoiAll_plain c r (by omega) (by omega),Lib.parseMag,YW hne]
theorem R6 {neg:Bool}{d:Ae}(hd:d.all B7=true):(Ee neg d=false∧B1 (EK neg d)=1)∨(Ee neg d=true∧BE ⟨3,Iy neg d,[],0⟩=false∧B1 (EK neg d)=0∧Bn (EK neg d)=Iy neg d)∨(Ee neg d=true∧BE ⟨3,Iy neg d,[],0⟩=true∧B1 (EK neg d)=2∧Bn (EK neg d)=0):=by
 unfold B1 Bn;rw[Uq hd]
 cases hc:Ee neg d with
 | false=>exact .inl ⟨rfl,rfl⟩
 | true=>
  right
  have hc':=hc;unfold Ee at hc';simp only[Yv,YC,Yr] at hc';have hne:=hc'.1;rw[Zd rfl,Zd rfl,U1 hd hne];have hnum:Mu d=(Ca 0 d:Int):=HD d 0 hd;have hbig:18<d.length→1000000000000<Ca 0 d:=λhl=>by
   cases d with
   | nil=>simp at hl
   | cons c r=>
    have hc1:=hd;simp only[YT,Yv] at hc1;have he:48≤c.toNat:=by have:=hc1.1;simp[B7] at this;omega
    have hne48 : ¬ c=48:=by
     intro e;have:=hc'.2;subst e;simp only[Yu] at hl;have h1r:1<r.length+1:=by omega
     simp[h1r] at this
    have hf:49≤c.toNat:=by
     have : ¬ c.toNat=48:=λe=>hne48 (UInt8.toNat_inj.1 (by rw[e];rfl));omega
    have:=O8 r (10*0+(c.toNat-48)) (by omega);have ha:10 ^ 18≤10 ^ r.length:=Nat.pow_le_pow_right (by decide) (by simp at hl;omega);have e:Ca 0 (c::r)=Ca (10*0+(c.toNat-48)) r:=rfl;rw[e];have:(1000000000000:Nat)<10 ^ 18:=by decide
    omega
  have hout:BE ⟨3,Iy neg d,[],0⟩=decide (1000000000000<Ca 0 d):=by
   unfold BE Iy;rw[hnum]
   cases ha:decide (18<d.length) with
   | true=>
    simp only[Yq] at ha;rw[Y0 (hbig ha)]
    cases neg<;>rfl
   | false=>
    rw[Y9]
    cases neg<;>simp<;>omega
  rw[hout];rcases N3 d 0 hd with hu | ⟨hu,hg⟩
  ·rw[hu]
   cases hg:decide (1000000000000<Ca 0 d) with
   | false=>
    simp only[Yr] at hg;have ha:decide (18<d.length)=false:=by
     rw[Yr];intro h;have:=hbig h;omega
    refine .inl ⟨rfl,rfl,?_,?_⟩
    ·cases neg with
     | true=>simp only[Yw,Lib.signed];rw[YW (by omega)];simp only;rw[Zd (by unfold Di;simp;omega)]
     | false=>simp only[Yt,Lib.signless];rw[YW (by omega)];simp only;rw[Zd (by unfold Di;simp;omega)]
    ·unfold Iy;rw[ha,hnum]
     cases neg with
     | true=>simp only[Yw,Yt,Lib.signed];rw[YW (by omega)];simp only;rw[Zd (by unfold Di;simp;omega)]
     | false=>simp only[Yt,Lib.signless];rw[YW (by omega)];simp only;rw[Zd (by unfold Di;simp;omega)]
   | true=>
    simp only[Yq] at hg;refine .inr ⟨rfl,rfl,?_,?_⟩
    ·cases neg with
     | true=>
      simp only[Yw,Lib.signed]
      by_cases hb:9223372036854775808<Ca 0 d
      ·rw[Zd hb]
      ·rw[YW hb];simp only;rw[YW (by unfold Di;simp;omega)]
     | false=>
      simp only[Yt,Lib.signless]
      by_cases hb:9223372036854775808≤Ca 0 d
      ·rw[Zd hb]
      ·rw[YW hb];simp only;rw[YW (by unfold Di;simp;omega)]
    ·cases neg with
     | true=>
      simp only[Yw,Lib.signed]
      by_cases hb:9223372036854775808<Ca 0 d
      ·rw[Zd hb]
      ·rw[YW hb];simp only;rw[YW (by unfold Di;simp;omega)]
     | false=>
      simp only[Yt,Lib.signless]
      by_cases hb:9223372036854775808≤Ca 0 d
      ·rw[Zd hb]
      ·rw[YW hb];simp only;rw[YW (by unfold Di;simp;omega)]
  ·rw[hu,Y0 hg];refine .inr ⟨rfl,rfl,?_,?_⟩<;>cases neg<;>rfl
def Gr (u S:Ae):Prop:=∃p,S=p++u
theorem Gr.len {u S:Ae}(h:Gr u S):u.length≤S.length:=by obtain⟨p,rfl⟩:=h;simp
theorem Gr.tail {c:UInt8}{r S:Ae}(h:Gr (c::r) S):Gr r S:=by obtain⟨p,rfl⟩:=h;exact⟨p++[c],by simp⟩
theorem Gr.app {w r S:Ae}(h:Gr (w++r) S):Gr r S:=by obtain⟨p,rfl⟩:=h;exact⟨p++w,by simp⟩
theorem Gr.drop {u S:Ae}(h:Gr u S):S.drop (Int.toNat ((S.length:Int)-u.length))=u:=by
 obtain⟨p,rfl⟩:=h;rw[show Int.toNat (((p++u).length:Int)-u.length)=p.length from by rw[Yz];omega,List.drop_left]
theorem Gr.get {c:UInt8}{r S:Ae}(h:Gr (c::r) S):S[(Int.toNat ((S.length:Int)-(c::r).length))]? =some c:=by
 have:=h.drop;have h2:(S.drop (Int.toNat ((S.length:Int)-(c::r).length)))[0]? =some c:=by rw[this];rfl
 simpa using h2
def CG (S u:Ae)(cs:List Aa)(g:Bool):Ai:=⟨S,(S.length:Int)-u.length,cs,g⟩
theorem Jz:∀(w r:Ae),pre w (w++r)=some r
 | [],r=>rfl
 | c::w,r=>by
  show(bif decide (c=c) then pre w (w++r) else none)=some r;rw[Y0 rfl];exact Jz w r
theorem P9 (w s:Ae):(decide ((w.length:Int)≤(s.length:Int))&&decide (List.take (Int.toNat (w.length:Int)) s=w))=(pre w s).isSome:=by
 cases h:pre w s with
 | some r=>
  have:=CL h;subst this;simp;omega
 | none=>
  rw[Y9];simp only[Yv,Yq,Option.isSome_none,YH,iff_false,not_and];intro hl e;have:s=w++s.drop w.length:=by
   conv=>lhs;rw[← Zi w.length s]
   rw[show Int.toNat (w.length:Int)=w.length from by omega] at e;rw[e]
  rw[this,Jz] at h
  cases h
theorem JH (s w:Ae):EV s w=some (pre w s).isSome:=by
 unfold EV Gv;rw[← P9];have:imp (decide ((w.length:Int)≤(s.length:Int))) (HJ (w.length:Int) (s.length:Int))=true:=by
  cases hd:decide ((w.length:Int)≤(s.length:Int)) with
  | false=>rfl
  | true=>simp only[imp];rw[Xv (by omega) (by simpa using hd)];rfl
 rw[BG this];rfl
theorem Ck {S u w:Ae}{cs:List Aa}{g:Bool}(hS:S.length≤100000)(h:Gr u S):Dj (CG S u cs g) w=match pre w u with
  | some r=>some (true,CG S r cs g)
  | none=>some (false,CG S u cs g):=by
 have hl:=h.len;unfold Dj CG;simp only;rw[C7 (by omega) (by omega),h.drop,JH,AC rfl]
 cases hp:pre w u with
 | none=>rfl
 | some r=>
  have e:=CL hp;have el:u.length=w.length+r.length:=by rw[e];simp
  rw[A8 (p:=!(some r).isSome) rfl,AV (by omega) (by omega),show(S.length:Int)-u.length+w.length=S.length-r.length from by omega]
theorem J0 (c:UInt8)(u:Ae):pre [c] u=match u with
  | []=>none
  | d::r=>bif decide (d=c) then some r else none:=by
 cases u with
 | nil=>rfl
 | cons d r=>
  show(bif decide (c=d) then some r else none)=_;have:decide (c=d)=decide (d=c):=by rw[Y9];simp only[Yq];exact eq_comm
  rw[this]
theorem T3 (A:Ae):Ph (CH A)=A:=by
 induction A with
 | nil=>rfl
 | cons c A ih=>
  show UInt8.ofNat (Int.toNat (c.toNat:Int))::Ph (CH A)=c::A;rw[ih,← (show UInt8.ofNat c.toNat=c from by simp)];simp
theorem Va:∀(n:Nat) (s t u:Ae),s.length=n→Cm true s=some (t,u)→t.all Iw=true:=by
 intro n
 induction n using Nat.strongRecOn with
 | ind n ih=>
  intro s t u hn h
  cases s with
  | nil=>cases h
  | cons c r=>
   simp only[Yu] at hn;rw[CV] at h
   cases h1:decide (c=34) with
   | true=>rw[h1] at h;cases h;rfl
   | false=>
    rw[h1] at h;simp only[Yt,Y5] at h
    cases h2:Iw c with
    | false=>rw[h2] at h;cases h
    | true=>
     rw[h2] at h;simp only[Y3,Yt] at h
     cases h3:decide (c=92) with
     | true=>
      rw[h3] at h
      cases r with
      | nil=>cases h
      | cons d r'=>
       simp only[Yw] at h
       cases h4:(decide (d=34)||decide (d=92)) with
       | false=>rw[h4] at h;cases h
       | true=>
        rw[h4] at h;simp only[Yw] at h
        cases h5:Cm true r' with
        | none=>rw[h5] at h;cases h
        | some q=>
         obtain⟨t',u'⟩:=q;rw[h5] at h;cases h;simp only[Yu] at hn;have:=ih r'.length (by omega) r' t' u rfl h5;have hd:Iw d=true:=by
          simp only[YZ,Yq] at h4;rcases h4 with e | e<;>subst e<;>rfl
         simp[hd,this]
     | false=>
      rw[h3] at h;simp only[Yt] at h
      cases h5:Cm true r with
      | none=>rw[h5] at h;cases h
      | some q=>
       obtain⟨t',u'⟩:=q;rw[h5] at h;cases h;have:=ih r.length (by omega) r t' u rfl h5;simp[h2,this]
theorem Vj {c:UInt8}:(decide ((c.toNat:Int)<32)||decide (126<(c.toNat:Int))) = !Iw c:=by
 unfold Iw;rw[Y9];simp only[YZ,Yq,YC,Zm,Yr];omega
theorem VV (c:UInt8):decide ((c.toNat:Int)=34)=decide (c=34):=by
 rw[Y9,decide_eq_true_iff,decide_eq_true_iff,← Zl];show _↔c.toNat=34;omega
theorem VU (c:UInt8):decide ((c.toNat:Int)=92)=decide (c=92):=by
 rw[Y9,decide_eq_true_iff,decide_eq_true_iff,← Zl];show _↔c.toNat=92;omega
theorem SR (A:Ae)(c:UInt8):CH A++([(c.toNat:Int)]:List Int)=CH (A++[c]):=by simp[CH]
theorem Rj {S:Ae}{cs:List Aa}{g b:Bool}{p:Int}(hS:S.length≤100000):∀(n L:Nat) (u A:Ae),u.length=n→Gr u S→n<L→A.length≤S.length-n→
  ∃o,Cs (λσ=>D9 (b,⟨S,p,cs,g⟩) σ.1 σ.2) L (CH A,(S.length:Int)-u.length)=some o∧((∃t w,Cm true u=some (t,w)∧Gr w S∧BN (λν=>GF (b,⟨S,p,cs,g⟩) ν) o=some (A++t,true,CG S w cs g))∨(Cm true u=none∧∃q',BN (λν=>GF (b,⟨S,p,cs,g⟩) ν) o=some ([],false,q'))):=by
 intro n
 induction n using Nat.strongRecOn with
 | ind n ih=>
  intro L u A hn hs hL hA;obtain⟨L,rfl⟩:∃K,L=K+1:=⟨L-1,by omega⟩
  have hsl:=hs.len
  cases u with
  | nil=>
   have hgo:D9 (b,⟨S,p,cs,g⟩) (CH A) ((S.length:Int)-([]:Ae).length)=some (.out (.go ((S.length:Int)-([]:Ae).length))):=by
    unfold D9;rw[A8 (Yx (by simp))]
   exact⟨_,DX hgo,.inr ⟨rfl,_,rfl⟩⟩
  | cons c r=>
   have hb:Be S ((S.length:Int)-(c::r).length)=c.toNat:=EQ hs.get;have hpos:(S.length:Int)-(c::r).length+1=S.length-r.length:=by rw[Yu];omega
   simp only[Yu] at hn hsl;have hlt:(S.length:Int)-(c::r).length<S.length:=by rw[Yu];omega
   have h0:0≤(S.length:Int)-(c::r).length:=by rw[Yu];omega
   have hb1:D9 (b,⟨S,p,cs,g⟩) (CH A) ((S.length:Int)-(c::r).length)=Bw (decide (c=34)) (some (.out (.ret (A,true,CG S r cs g)))) (Bw (!Iw c) (some (.out (.ret ([],false,CG S r cs g)))) (Bw (decide (c=92)) (Bc (imp (!(decide ((S.length:Int)≤S.length-r.length))) (Dt (S.length-r.length) (S.length:Int)))<|Bw (((decide ((S.length:Int)≤S.length-r.length))||((!decide ((Be S (S.length-r.length))=34))&&(!decide ((Be S (S.length-r.length))=92))))) (some (.out (.ret ([],false,CG S r cs g)))) (Bc (Dt (S.length-r.length) (S.length:Int))<|Bc (BT .i64 (((S.length:Int)-r.length)+1))<|Ei (CH A) (Be S (S.length-r.length)) (((S.length:Int)-r.length)+1))) (Ei (CH A) (c.toNat:Int) ((S.length:Int)-r.length)))):=by
    unfold D9;simp only;rw[AL (Y0 hlt),Bg h0 hlt,hb,hpos,AV (by omega) (by omega),VV,VU,Vj,T3];rfl
   have hj:∀(x:UInt8) (y:Int),Ei (CH A) (x.toNat:Int) y=some (.next (CH (A++[x]),y)):=λx y=>by
    unfold Ei;rw[Cy (by simp[CH];omega),SR]
   rw[CV]
   cases h1:decide (c=34) with
   | true=>
    rw[h1] at hb1;exact⟨.ret (A,true,CG S r cs g),DX hb1,.inl ⟨[],r,rfl,hs.tail,by rw[Tw,Zg]⟩⟩
   | false=>
    rw[h1,A8 rfl] at hb1;simp only[Yt,Y5]
    cases h2:Iw c with
    | false=>
     rw[h2,AL (p:=!false) rfl] at hb1;exact⟨_,DX hb1,.inr ⟨rfl,_,rfl⟩⟩
    | true=>
     rw[h2,A8 (p:=!true) rfl] at hb1;simp only[Y3,Yt]
     cases h3:decide (c=92) with
     | true=>
      rw[h3,AL rfl] at hb1
      cases r with
      | nil=>
       have e:decide ((S.length:Int)≤S.length-([]:Ae).length)=true:=by simp
       rw[e,BG (p:=imp (!true) _) rfl,AL (p:=true||_) rfl] at hb1;exact⟨_,DX hb1,.inr ⟨rfl,_,rfl⟩⟩
      | cons d r'=>
       simp only[Yu] at hn hsl;have hbd:Be S ((S.length:Int)-(d::r').length)=d.toNat:=EQ hs.tail.get;have hlt2:(S.length:Int)-(d::r').length<S.length:=by rw[Yu];omega
       have ha:0≤(S.length:Int)-(d::r').length:=by rw[Yu];omega
       have hpos2:(S.length:Int)-(d::r').length+1=S.length-r'.length:=by rw[Yu];omega
       have e:decide ((S.length:Int)≤S.length-(d::r').length)=false:=Yx (by omega);rw[e,PN ha hlt2,hbd,hpos2,VV,VU,BG (p:=imp (!false) true) rfl] at hb1;simp only[Yw]
       cases h4:(decide (d=34)||decide (d=92)) with
       | false=>
        have e4:(false||(!decide (d=34)&&!decide (d=92)))=true:=by rw[← Bool.not_or,h4];rfl
        rw[AL e4] at hb1;exact⟨_,DX hb1,.inr ⟨rfl,_,rfl⟩⟩
       | true=>
        have e4:(false||(!decide (d=34)&&!decide (d=92)))=false:=by rw[← Bool.not_or,h4];rfl
        rw[A8 e4,BG rfl,AV (by omega) (by omega),hj] at hb1;obtain⟨o,ho1,ho2⟩:=ih r'.length (by omega) L r' (A++[d]) rfl hs.tail.tail (by omega) (by rw[GX];omega);refine⟨o,JA hb1 ho1,?_⟩;simp only[Yw];rcases ho2 with⟨t,w,q1,q2,q3⟩ | ⟨q1,q2⟩
        ·rw[q1];exact .inl ⟨d::t,w,rfl,q2,by rw[q3];simp⟩
        ·rw[q1];exact .inr ⟨rfl,q2⟩
     | false=>
      rw[h3,A8 rfl,hj] at hb1;obtain⟨o,ho1,ho2⟩:=ih r.length (by omega) L r (A++[c]) rfl hs.tail (by omega) (by rw[GX];omega);refine⟨o,JA hb1 ho1,?_⟩;simp only[Yt];rcases ho2 with⟨t,w,q1,q2,q3⟩ | ⟨q1,q2⟩
      ·rw[q1];exact .inl ⟨c::t,w,rfl,q2,by rw[q3];simp⟩
      ·rw[q1];exact .inr ⟨rfl,q2⟩
theorem Oc {F:Nat}{S u:Ae}{cs:List Aa}{g:Bool}(hS:S.length≤100000)(h:Gr u S)(hF:S.length<F) :
  (∃r t w,u=34::r∧Cm true r=some (t,w)∧Gr w S∧Lr F (CG S u cs g)=some (t,true,CG S w cs g))∨((∀r,u=34::r→Cm true r=none)∧∃q',Lr F (CG S u cs g)=some ([],false,q')):=by
 unfold Lr;rw[Ck hS h,J0]
 cases u with
 | nil=>exact .inr ⟨(λr e=>by cases e),_,rfl⟩
 | cons c r=>
  simp only
  cases hc:decide (c=34) with
  | false=>
   simp only[Yr] at hc;exact .inr ⟨(λr' e=>by cases e;exact absurd rfl hc),_,rfl⟩
  | true=>
   simp only[Yq] at hc;subst hc;have hl:=h.len;simp only[Yu] at hl;simp only[Yw];rw[AC rfl,A8 (p:=!true) rfl];obtain⟨o,ho1,ho2⟩:=Rj (b:=true) (cs:=cs) (g:=g) (p:=(S.length:Int)-r.length) hS r.length F r [] rfl h.tail (by omega) (YU _);have ho1':Cs (λσ=>D9 (true,CG S r cs g) σ.1 σ.2) F ([],(S.length:Int)-r.length)=some o:=ho1;rw[show(true,CG S r cs g).2.fAt=(S.length:Int)-r.length from rfl,AC ho1'];rcases ho2 with⟨t,w,q1,q2,q3⟩ | ⟨q1,q',q2⟩
   ·exact .inl ⟨r,t,w,rfl,q1,q2,q3⟩
   ·exact .inr ⟨(λr' e=>by cases e;exact q1),q',q2⟩
def Cg (c:Aa):Aa:=bif BE c then⟨3,0,[],0⟩ else c
theorem JN:∀s:Ae,(Cc s).1.all B7=true
 | []=>rfl
 | c::r=>by
  rw[Cc]
  cases h:B7 c with
  | true=>simp only[Yw,YT,h,JN r];rfl
  | false=>rfl
theorem VA {c:UInt8}:(decide (48≤(c.toNat:Int))&&decide ((c.toNat:Int)≤57))=B7 c:=by
 unfold B7;rw[Y9];simp only[Yv,Yq];omega
theorem M3 {S:Ae}{cs:List Aa}{g b:Bool}{p:Int}(hS:S.length≤100000):∀(u:Ae) (L:Nat),Gr u S→u.length<L→
  Cs (λσ=>DA (b,⟨S,p,cs,g⟩) σ) L ((S.length:Int)-u.length)=some (.go ((S.length:Int)-(Cc u).2.length))
 | [],L,hs,hL=>by
  obtain⟨L,rfl⟩:∃K,L=K+1:=⟨L-1,by omega⟩
  refine DX ?_;show DA _ _=_;unfold DA;have e:decide ((S.length:Int)-([]:Ae).length<(S.length:Int))=false:=by simp
  simp only;rw[e,BG (p:=imp false _) rfl,A8 (p:=false&&_) rfl];rfl
 | c::r,L,hs,hL=>by
  obtain⟨L,rfl⟩:∃K,L=K+1:=⟨L-1,by omega⟩
  have hsl:=hs.len;have hb:Be S ((S.length:Int)-(c::r).length)=c.toNat:=EQ hs.get;have hpos:(S.length:Int)-(c::r).length+1=S.length-r.length:=by rw[Yu];omega
  simp only[Yu] at hsl hL;have hlt:(S.length:Int)-(c::r).length<S.length:=by rw[Yu];omega
  have h0:0≤(S.length:Int)-(c::r).length:=by rw[Yu];omega
  have hb1:DA (b,⟨S,p,cs,g⟩) ((S.length:Int)-(c::r).length)=Bw (B7 c) (some (.next ((S.length:Int)-r.length))) (some (.out (.go ((S.length:Int)-(c::r).length)))):=by
   unfold DA;simp only;rw[Y0 hlt,PN h0 hlt,BG (p:=imp true true) rfl,hb,VA,hpos,AV (by omega) (by omega),Y5]
  rw[Cc]
  cases hd:B7 c with
  | true=>
   rw[hd] at hb1;exact JA hb1 (M3 hS r L hs.tail (by omega))
  | false=>
   rw[hd] at hb1;exact DX hb1
theorem Oe {F:Nat}{S u:Ae}{cs:List Aa}{g:Bool}(hS:S.length≤100000)(h:Gr u S)(hF:S.length<F)(hcs:cs.length≤100000) :
  (∃f w,GS u=some (f,w)∧Gr w S∧Ls F (CG S u cs g)=some (true,CG S w (cs++f.flat.map Cg) (g||f.flat.any BE)))∨(GS u=none∧∃q',Ls F (CG S u cs g)=some (false,q')):=by
 have hl:=h.len;have hneg:∃neg r b,neg=decide (u.head? =some 45)∧r=(bif neg then u.tail else u)∧Dj (CG S u cs g) [45]=some (b,CG S r cs g)∧u=(bif neg then 45::r else r):=by
  rw[Ck hS h,J0]
  cases u with
  | nil=>exact⟨false,[],false,rfl,rfl,rfl,rfl⟩
  | cons c r=>
   simp only[List.head?_cons,Option.some.injEq]
   cases hc:decide (c=45) with
   | true=>simp only[Yq] at hc;subst hc;exact⟨true,r,true,rfl,rfl,rfl,rfl⟩
   | false=>exact⟨false,c::r,false,rfl,rfl,rfl,rfl⟩
 obtain⟨neg,r,b,e1,e2,e3,e4⟩:=hneg;have hr:Gr r S:=by
  rw[e4] at h
  cases neg with
  | true=>exact h.tail
  | false=>exact h
 have hrl:=hr.len;have hd:=JN r;have hsplit:=Lg r;have hlen:r.length=(Cc r).1.length+(Cc r).2.length:=by conv=>lhs;rw[hsplit,Yz]
 have hw:Gr (Cc r).2 S:=by rw[hsplit] at hr;exact hr.app
 have hut:u=EK neg (Cc r).1++(Cc r).2:=by
  rw[e4]
  cases neg with
  | true=>show 45::r=45::((Cc r).1++(Cc r).2);rw[← hsplit]
  | false=>exact hsplit
 have hul:u.length=(EK neg (Cc r).1).length+(Cc r).2.length:=by conv=>lhs;rw[hut,Yz]
 have hslice:List.take (Int.toNat ((S.length:Int)-(Cc r).2.length)-Int.toNat ((S.length:Int)-u.length)) (List.drop (Int.toNat ((S.length:Int)-u.length)) S)=EK neg (Cc r).1:=by
  rw[h.drop,show Int.toNat ((S.length:Int)-(Cc r).2.length)-Int.toNat ((S.length:Int)-u.length)=(EK neg (Cc r).1).length from by omega]
  conv=>lhs;rw[hut]
  rw[List.take_left]
 have hlop:Cs (λσ=>DA (b,CG S r cs g) σ) F ((S.length:Int)-r.length)=some (.go ((S.length:Int)-(Cc r).2.length)):=M3 hS r F hr (by omega);have hrun:Ls F (CG S u cs g)=Bw (((decide ((B1 (EK neg (Cc r).1))=1))||(decide ((S.length:Int)-r.length=(S.length:Int)-(Cc r).2.length)))) (some (false,CG S (Cc r).2 cs g)) (some (true,CG S (Cc r).2 (cs++[⟨3,Bn (EK neg (Cc r).1),[],0⟩]) (g||!decide (B1 (EK neg (Cc r).1)=0)))):=by
  unfold Ls;rw[e3,AC rfl,show(b,CG S r cs g).2.fAt=(S.length:Int)-r.length from rfl,AC hlop,Lc];unfold H4;rw[show(CG S u cs g).fAt=(S.length:Int)-u.length from rfl,show(b,CG S r cs g).2.fS=S from rfl,show(b,CG S r cs g).2.fAt=(S.length:Int)-r.length from rfl,C7 (by omega) (by omega),C7 (by omega) (by omega),hslice,Cy (by omega),BG (p:=Ea 40 _) (Y0 (by
   show(cs.length+1)*40≤140737488355328;omega))]
  rfl
 rw[hrun];unfold GS;simp only;rw[← e1,← e2];rcases R6 (neg:=neg) hd with⟨p1,p2⟩ | ⟨p1,p2,p3,p4⟩ | ⟨p1,p2,p3,p4⟩
 ·rw[p1,p2];exact .inr ⟨rfl,_,rfl⟩
 ·have hne:(Cc r).1≠[]:=by
   intro e;rw[e] at p1
   cases neg<;>cases p1
  have hpos:0<(Cc r).1.length:=List.length_pos_iff.2 hne;rw[p1,p3,p4,Yx (show ¬ (S.length:Int)-r.length=(S.length:Int)-(Cc r).2.length by omega)];refine .inl ⟨_,_,rfl,hw,?_⟩;simp[Fo.flat,Bs,Cg,p2,Bw]
 ·have hne:(Cc r).1≠[]:=by
   intro e;rw[e] at p1
   cases neg<;>cases p1
  have hpos:0<(Cc r).1.length:=List.length_pos_iff.2 hne;rw[p1,p3,p4,Yx (show ¬ (S.length:Int)-r.length=(S.length:Int)-(Cc r).2.length by omega)];refine .inl ⟨_,_,rfl,hw,?_⟩;simp[Fo.flat,Bs,Cg,p2,Bw]
def Tb (strict:Bool)(s:Ae):Option (Fo×Ae):=
 match pre [110,117,108,108] s with
 | some r=>some (lf 1 0 [],r)
 | none=>match pre [116,114,117,101] s with
  | some r=>some (lf 2 1 [],r)
  | none=>match pre [102,97,108,115,101] s with
   | some r=>some (lf 2 0 [],r)
   | none=>match s with
    | []=>none
    | c::r=>bif decide (c=34) then(match Cm strict r with
     | none=>none
     | some (t,u)=>some (lf 4 0 t,u)) else GS (c::r)
theorem Tu (b:Bool)(F:Nat){s:Ae}(h:∀c r,s=c::r→(decide (c=91)||decide (c=123))=false):E0 b (F+1) s=Tb b s:=by
 rw[CQ];unfold Tb
 cases pre [110,117,108,108] s with
 | some r=>rfl
 | none=>
 cases pre [116,114,117,101] s with
 | some r=>rfl
 | none=>
 cases pre [102,97,108,115,101] s with
 | some r=>rfl
 | none=>
 cases s with
 | nil=>rfl
 | cons c r=>
  simp only;rw[h c r rfl];rfl
theorem Od {F:Nat}{S u:Ae}{cs:List Aa}{g:Bool}(hS:S.length≤100000)(h:Gr u S)(hF:S.length<F)(hcs:cs.length≤100000) :
  (∃f w,Tb true u=some (f,w)∧Gr w S∧GG F (CG S u cs g)=some (true,CG S w (cs++f.flat.map Cg) (g||f.flat.any BE)))∨(Tb true u=none∧∃q',GG F (CG S u cs g)=some (false,q')):=by
 have hA:∀c:Aa,Ea 40 (cs.length+([c]:List Aa).length)=true:=λc=>Y0 (by show(cs.length+1)*40≤140737488355328;omega);unfold GG Tb;rw[Ck hS h]
 cases h1:pre [110,117,108,108] u with
 | some r=>
  have hr:Gr r S:=by rw[CL h1] at h;exact h.app
  refine .inl ⟨_,r,rfl,hr,?_⟩;simp only;rw[AC rfl,AL rfl];show Bc (Ea 40 (cs.length+([⟨1,0,[],0⟩]:List Aa).length)) (some (true,CG S r (cs++[⟨1,0,[],0⟩]) g))=_;rw[BG (hA _)];simp[lf,Fo.flat,Bs,Cg,BE]
 | none=>
 simp only;rw[AC rfl,A8 rfl,show(false,CG S u cs g).2=CG S u cs g from rfl,Ck hS h]
 cases h2:pre [116,114,117,101] u with
 | some r=>
  have hr:Gr r S:=by rw[CL h2] at h;exact h.app
  refine .inl ⟨_,r,rfl,hr,?_⟩;simp only;rw[AC rfl,AL rfl];show Bc (Ea 40 (cs.length+([⟨2,1,[],0⟩]:List Aa).length)) (some (true,CG S r (cs++[⟨2,1,[],0⟩]) g))=_;rw[BG (hA _)];simp[lf,Fo.flat,Bs,Cg,BE]
 | none=>
 simp only;rw[AC rfl,A8 rfl,show(false,CG S u cs g).2=CG S u cs g from rfl,Ck hS h]
 cases h3:pre [102,97,108,115,101] u with
 | some r=>
  have hr:Gr r S:=by rw[CL h3] at h;exact h.app
  refine .inl ⟨_,r,rfl,hr,?_⟩;simp only;rw[AC rfl,AL rfl];show Bc (Ea 40 (cs.length+([⟨2,0,[],0⟩]:List Aa).length)) (some (true,CG S r (cs++[⟨2,0,[],0⟩]) g))=_;rw[BG (hA _)];simp[lf,Fo.flat,Bs,Cg,BE]
 | none=>
 have hl:=h.len;simp only;rw[AC rfl,A8 rfl,show(false,CG S u cs g).2=CG S u cs g from rfl,show(CG S u cs g).fAt=(S.length:Int)-u.length from rfl,show(CG S u cs g).fS=S from rfl,C7 (by omega) (by omega),h.drop,JH,AC rfl,J0]
 cases u with
 | nil=>
  simp only;rw[A8 (p:=(none:Option Ae).isSome) rfl];rcases Oe (g:=g) hS h hF hcs with⟨f,w,q1,q2,q3⟩ | ⟨q1,q',q2⟩
  ·exact absurd (LP q1) (by simp)
  ·rw[q2];exact .inr ⟨trivial,_,rfl⟩
 | cons c r=>
  simp only
  cases hc:decide (c=34) with
  | true=>
   simp only[Yw];rw[AL (p:=(some r).isSome) rfl];simp only[Yq] at hc;subst hc;rcases Oc (cs:=cs) (g:=g) hS h hF with⟨r',t,w,q1,q2,q3,q4⟩ | ⟨q1,q',q2⟩
   ·cases q1
    rw[q2,q4,AC rfl,A8 (p:=!true) rfl];refine .inl ⟨_,w,rfl,q3,?_⟩;simp only;show Bc (Ea 40 (cs.length+([⟨4,0,t,0⟩]:List Aa).length)) (some (true,CG S w (cs++[⟨4,0,t,0⟩]) g))=_;rw[BG (hA _)];simp[lf,Fo.flat,Bs,Cg,BE]
   ·rw[q1 r rfl,q2,AC rfl];exact .inr ⟨rfl,_,rfl⟩
  | false=>
   simp only[Yt];rw[A8 (p:=(none:Option Ae).isSome) rfl];rcases Oe (g:=g) hS h hF hcs with⟨f,w,q1,q2,q3⟩ | ⟨q1,q',q2⟩
   ·rw[q3,AC rfl];exact .inl ⟨f,w,q1,q2,rfl⟩
   ·rw[q2,AC rfl];exact .inr ⟨q1,_,rfl⟩
theorem Qu {f:Fo}(h:f.one=true)(key:Option Ae)(r:Fo):(f.put key r).cnt=r.cnt+1:=by
 cases f with
 | nil=>cases h
 | cell _ _ _=>rfl
 | node _ _ _ _=>rfl
theorem Im (m:Bool)(g:Fo)(h:g.cnt=0→g = .nil):(nd m g).flat=⟨bif m then 6 else 5,0,[],(g.cnt:Int)⟩::g.flat:=by
 unfold nd
 cases hd:decide (g.cnt=0) with
 | true=>
  simp only[Yq] at hd;rw[h hd];rfl
 | false=>simp[Fo.flat,Bs]
theorem Hm {g:Fo}(h:g.cnt=0):g = .nil:=by
 cases g with
 | nil=>rfl
 | cell _ _ _=>simp[Fo.cnt] at h
 | node _ _ _ _=>simp[Fo.cnt] at h
theorem RW {b m:Bool}{last key:Option Ae}{s u:Ae}(h:DO b m last s=some (key,u)):(Bs key).length+u.length≤s.length:=by
 unfold DO at h
 cases m with
 | false=>cases h;simp[Bs]
 | true=>
  simp only[Yw] at h
  cases s with
  | nil=>cases h
  | cons c r=>
   simp only at h
   cases h1:decide (c=34) with
   | false=>rw[h1] at h;cases h
   | true=>
    rw[h1] at h;simp only[Yw] at h
    cases h2:Cm b r with
    | none=>rw[h2] at h;cases h
    | some q=>
     obtain⟨k,w⟩:=q;have:=H8 b _ r k w rfl h2;rw[h2] at h;simp only at h
     cases h3:(b&&!Bi true last (some k)) with
     | true=>rw[h3] at h;cases h
     | false=>
      rw[h3] at h;simp only[Yt] at h
      cases w with
      | nil=>cases h
      | cons d w'=>
       simp only at h
       cases h4:decide (d=58) with
       | false=>rw[h4] at h;cases h
       | true=>rw[h4] at h;cases h;simp only[Yu,Bs,Zc] at this ⊢;omega
theorem GN (b:Bool):∀F:Nat,(∀s f u,E0 b F s=some (f,u)→f.flat.length+u.length≤s.length)∧(∀m last s g u,CR b F m last s=some (g,u)→g.flat.length+u.length+1≤s.length)
 | 0=>⟨(λs f u h=>by rw[E0.eq_def] at h;cases h),(λm last s g u h=>by rw[CR.eq_def] at h;cases h)⟩
 | F+1=>by
  obtain⟨ih1,ih2⟩:=GN b F;have lfl:∀k i t,(lf k i t).flat.length=1:=λ_ _ _=>rfl;constructor
  ·intro s f u h;rw[CQ] at h
   cases h1:pre [110,117,108,108] s with
   | some r=>rw[h1] at h;cases h;rw[CL h1,lfl];simp;omega
   | none=>
   rw[h1] at h;simp only at h
   cases h2:pre [116,114,117,101] s with
   | some r=>rw[h2] at h;cases h;rw[CL h2,lfl];simp;omega
   | none=>
   rw[h2] at h;simp only at h
   cases h3:pre [102,97,108,115,101] s with
   | some r=>rw[h3] at h;cases h;rw[CL h3,lfl];simp;omega
   | none=>
   rw[h3] at h;simp only at h
   cases s with
   | nil=>cases h
   | cons c r=>
   simp only at h
   cases h4:decide (c=34) with
   | true=>
    rw[h4] at h;simp only[Yw] at h
    cases h5:Cm b r with
    | none=>rw[h5] at h;cases h
    | some q=>
     obtain⟨t,w⟩:=q;rw[h5] at h;cases h;have:=H8 b _ r t u rfl h5;rw[lfl];simp only[Yu];omega
   | false=>
   rw[h4] at h;simp only[Yt] at h
   cases h5:(decide (c=91)||decide (c=123)) with
   | false=>
    rw[h5] at h;simp only[Yt] at h;have h6:=LP h;have h7:f.flat.length=1:=by
     unfold GS at h;simp only at h
     cases hc:Ee (decide ((c::r).head? =some 45)) (Cc (bif decide ((c::r).head? =some 45) then(c::r).tail else c::r)).1 with
     | false=>rw[hc] at h;cases h
     | true=>rw[hc] at h;cases h;rfl
    omega
   | true=>
   rw[h5] at h;simp only[Yw] at h
   cases r with
   | nil=>cases h
   | cons d r'=>
   simp only at h
   cases h6:decide (d=B6 (decide (c=123))) with
   | true=>rw[h6] at h;cases h;rw[Im _ _ Hm];simp[Fo.flat];omega
   | false=>
   rw[h6] at h;simp only[Yt] at h
   cases h7:CR b F (decide (c=123)) none (d::r') with
   | none=>rw[h7] at h;cases h
   | some q=>
    obtain⟨g,w⟩:=q;rw[h7] at h;cases h;have:=ih2 _ _ _ _ _ h7;rw[Im _ _ Hm];simp only[Yu] at this ⊢;omega
  ·intro m last s g u h;rw[CE] at h
   cases h1:DO b m last s with
   | none=>rw[h1] at h;cases h
   | some q=>
   obtain⟨key,s1⟩:=q;have l1:=RW h1;rw[h1] at h;simp only at h
   cases h2:E0 b F s1 with
   | none=>rw[h2] at h;cases h
   | some q=>
   obtain⟨f,s2⟩:=q;have l2:=ih1 _ _ _ h2;have o2:=((DG b F).1 _ _ _ h2).2;rw[h2] at h;simp only at h
   cases s2 with
   | nil=>cases h
   | cons c s3=>
   simp only[Yu] at l2;simp only at h
   cases h3:decide (c=B6 m) with
   | true=>rw[h3] at h;cases h;rw[Ej o2,Yz,Yz];simp only[Fo.flat,Zc];omega
   | false=>
   rw[h3] at h;simp only[Yt] at h
   cases h4:decide (c=44) with
   | false=>rw[h4] at h;cases h
   | true=>
   rw[h4] at h;simp only[Yw] at h
   cases h5:CR b F m key s3 with
   | none=>rw[h5] at h;cases h
   | some q=>
    obtain⟨g',w⟩:=q;rw[h5] at h;cases h;have:=ih2 _ _ _ _ _ h5;rw[Ej o2,Yz,Yz];omega
theorem Qp {α:Type}(xs D:List α)(a b:α):List.set (xs++a::D) (Int.toNat (xs.length:Int)) b=xs++b::D:=by
 rw[show Int.toNat (xs.length:Int)=xs.length from by omega,List.set_append_right _ _ (Y8 _)];simp
theorem U3 {α:Type}[Inhabited α](xs D:List α)(a:α):Ar (xs++a::D) (xs.length:Int)=a:=by simp[Ar]
def WW (F P:Nat)(S u:Ae)(cs:List Aa)(g:Bool):Prop:=
 (∃f w,E0 true P u=some (f,w)∧Gr w S∧BR F (CG S u cs g)=some (true,CG S w (cs++f.flat.map Cg) (g||f.flat.any BE)))∨(E0 true P u=none∧∃q',BR F (CG S u cs g)=some (false,q'))
abbrev VM (F:Nat)(x16:List Aa):Int×Ae×Int×List Aa×Bool→Option (Stp (Int×Ae×Int×List Aa×Bool) (Out (Bool×Ai) Unit)):=λσ=>DJ (BR F) x16 σ.1 σ.2.1 σ.2.2.1 σ.2.2.2.1 σ.2.2.2.2
abbrev Wb (F:Nat)(x16:List Aa):Ae×Int×Ae×Int×List Aa×Bool→Option (Stp (Ae×Int×Ae×Int×List Aa×Bool) (Out (Bool×Ai) Unit)):=λσ=>DI F (BR F) x16 σ.1 σ.2.1 σ.2.2.1 σ.2.2.2.1 σ.2.2.2.2.1 σ.2.2.2.2.2
def S2 (P:Nat)(m:Bool)(last:Option Ae)(S u:Ae)(x16 D:List Aa)(k:Int)(g:Bool)(o:Out (Bool×Ai) Unit):Prop:=
 (∃G w,CR true P m last u=some (G,w)∧Gr w S∧o = .ret (true,CG S w (x16++⟨bif m then 6 else 5,0,[],k-1+(G.cnt:Int)⟩::(D++G.flat.map Cg)) (g||G.flat.any BE)))∨(CR true P m last u=none∧∃q',o = .ret (false,q'))
theorem V5 (k:Option Ae):(Bs k).map Cg=Bs k∧(Bs k).any BE=false:=by
 cases k with
 | none=>exact⟨rfl,rfl⟩
 | some s=>exact⟨by simp[Bs,Cg,BE],by simp[Bs,BE]⟩
theorem S2.join {P:Nat}{m:Bool}{last key:Option Ae}{S u s1 s2:Ae}{x16 D:List Aa}{k:Int}{g:Bool}{o:Out (Bool×Ai) Unit}{f:Fo}(hk:DO true m last u=some (key,s1))(hf:E0 true P s1=some (f,s2))(ho:f.one=true)
  (h:(∃s3,s2=B6 m::s3∧Gr s3 S∧o = .ret (true,CG S s3 (x16++⟨bif m then 6 else 5,0,[],k⟩::(D++(Bs key++f.flat.map Cg))) (g||f.flat.any BE)))∨(∃s3,s2=44::s3∧S2 P m key S s3 x16 (D++(Bs key++f.flat.map Cg)) (k+1) (g||f.flat.any BE) o)∨((∀c s3,s2=c::s3→decide (c=B6 m)=false∧decide (c=44)=false)∧∃q',o = .ret (false,q'))):S2 (P+1) m last S u x16 D k g o:=by
 obtain⟨fk1,fk2⟩:=V5 key;unfold S2;rw[CE,hk];simp only[hf];have ha:decide ((44:UInt8)=B6 m)=false:=by cases m<;>rfl
 rcases h with⟨s3,rfl,h1,h2⟩ | ⟨s3,rfl,h⟩ | ⟨h1,h2⟩
 ·simp only[decide_true,Yw];refine .inl ⟨_,s3,rfl,h1,?_⟩;rw[h2,Qu ho,Ej ho];simp only[Fo.flat,Fo.cnt,Zg,Zn,List.any_append,fk1,fk2,Y7]
  congr 6
  omega
 ·simp only[ha,Yt,decide_true,Yw];rcases h with⟨G,w,q1,q2,q3⟩ | ⟨q1,q2⟩
  ·rw[q1];refine .inl ⟨_,w,rfl,q2,?_⟩;rw[q3,Qu ho,Ej ho];simp only[Zn,List.any_append,fk1,fk2,Y7,Bool.or_assoc,YY]
   congr 6
   omega
  ·rw[q1];exact .inr ⟨rfl,q2⟩
 ·refine .inr ⟨?_,h2⟩
  cases s2 with
  | nil=>rfl
  | cons c s3=>
   obtain⟨a,b⟩:=h1 c s3 rfl;simp only[a,b,Yt]
theorem Ld (S u:Ae)(cs:List Aa)(g:Bool):Ai.mk S ((S.length:Int)-u.length) cs g=CG S u cs g:=rfl
theorem Lb {o:Out (Bool×Ai) Unit}{r:Bool×Ai}{K:Unit→Option (Bool×Ai)}(h:o = .ret r):BN K o=some r:=by rw[h];rfl
theorem QT {α:Type}{n:Nat}{x:Option α}(h:n≤1000000):Bc (Ea 40 n) x=x:=BG (Y0 (by omega))
theorem PI {F P:Nat}{S u:Ae}{x16 D:List Aa}{k:Int}{g:Bool}(hS:S.length≤100000)(hs:Gr u S)(hk1:1≤k)(hk2:k≤200000)(hV:WW F P S u (x16++⟨5,0,[],k-1⟩::D) g) :
  (∃q',VM F x16 (k,S,(S.length:Int)-u.length,x16++⟨5,0,[],k-1⟩::D,g)=some (.out (.ret (false,q')))∧(E0 true P u=none∨∃f s2,E0 true P u=some (f,s2)∧∀c s3,s2=c::s3→decide (c=B6 false)=false∧decide (c=44)=false))∨
  ∃f s2,E0 true P u=some (f,s2)∧Gr s2 S∧((∃s3,s2=B6 false::s3∧VM F x16 (k,S,(S.length:Int)-u.length,x16++⟨5,0,[],k-1⟩::D,g)=some (.out (.ret (true,CG S s3 (x16++⟨5,0,[],k⟩::(D++f.flat.map Cg)) (g||f.flat.any BE)))))∨
   (∃s3,s2=44::s3∧VM F x16 (k,S,(S.length:Int)-u.length,x16++⟨5,0,[],k-1⟩::D,g)=some (.next (k+1,S,(S.length:Int)-s3.length,x16++⟨5,0,[],k⟩::(D++f.flat.map Cg),g||f.flat.any BE)))):=by
 have hb:VM F x16 (k,S,(S.length:Int)-u.length,x16++⟨5,0,[],k-1⟩::D,g)=DJ (BR F) x16 k S ((S.length:Int)-u.length) (x16++⟨5,0,[],k-1⟩::D) g:=rfl;rw[hb];unfold DJ;rw[Ld];rcases hV with⟨f,s2,q1,q2,q3⟩ | ⟨q1,q',q2⟩
 ·have ec:(x16++⟨5,0,[],k-1⟩::D)++f.flat.map Cg=x16++⟨5,0,[],k-1⟩::(D++f.flat.map Cg):=by simp
  rw[ec] at q3;rw[q3,AC rfl,A8 (p:=!true) rfl];have hin:Dt (x16.length:Int) (((x16++(⟨5,0,[],k-1⟩:Aa)::(D++f.flat.map Cg)).length:Nat):Int)=true:=PN (by omega) (by rw[Yz,Yu];omega);have e1:(true,CG S s2 (x16++⟨5,0,[],k-1⟩::(D++f.flat.map Cg)) (g||f.flat.any BE)).2.fCells=x16++⟨5,0,[],k-1⟩::(D++f.flat.map Cg):=rfl;rw[e1,BG hin,U3,Qp,Er];have e2:Ai.mk (true,CG S s2 (x16++⟨5,0,[],k-1⟩::(D++f.flat.map Cg)) (g||f.flat.any BE)).2.fS (true,CG S s2 (x16++⟨5,0,[],k-1⟩::(D++f.flat.map Cg)) (g||f.flat.any BE)).2.fAt (x16++⟨5,0,[],k⟩::(D++f.flat.map Cg)) (true,CG S s2 (x16++⟨5,0,[],k-1⟩::(D++f.flat.map Cg)) (g||f.flat.any BE)).2.fGreat=CG S s2 (x16++⟨5,0,[],k⟩::(D++f.flat.map Cg)) (g||f.flat.any BE):=rfl;rw[e2,Ck hS q2,J0]
  cases s2 with
  | nil=>
   simp only;rw[AC rfl,A8 rfl,Ck hS q2,J0];exact .inl ⟨_,rfl,.inr ⟨f,[],q1,λc s3 e=>by cases e⟩⟩
  | cons c s3=>
   simp only
   cases ha:decide (c=93) with
   | true=>
    simp only[Yq] at ha;subst ha;exact .inr ⟨f,_,q1,q2,.inl ⟨s3,rfl,rfl⟩⟩
   | false=>
    simp only[Yt];rw[AC rfl,A8 rfl,Ck hS q2,J0];simp only
    cases hd:decide (c=44) with
    | true=>
     simp only[Yq] at hd;subst hd;simp only[Yw];rw[AC rfl,A8 (p:=!true) rfl,AV (by omega) (by omega)];exact .inr ⟨f,_,q1,q2,.inr ⟨s3,rfl,rfl⟩⟩
    | false=>
     exact .inl ⟨_,rfl,.inr ⟨f,_,q1,λc' s3' e=>by cases e;exact⟨ha,hd⟩⟩⟩
 ·rw[q2,AC rfl];exact .inl ⟨q',rfl,.inl q1⟩
theorem TJ {F P:Nat}{S u:Ae}{x16 D:List Aa}{k:Int}{g b1 b2:Bool}{r:Ae×Bool×Ai}(hS:S.length≤100000)(hs:Gr u S)(hk1:1≤k)(hk2:k≤200000)(hD:x16.length+D.length≤200000)(hV:WW F P S u (x16++⟨6,0,[],k-1⟩::(D++[⟨4,0,r.1,0⟩])) g) :
  (∃q',BM (BR F) x16 k r b1 b2 false S ((S.length:Int)-u.length) (x16++⟨6,0,[],k-1⟩::D) g=some (.out (.ret (false,q')))∧(E0 true P u=none∨∃f s2,E0 true P u=some (f,s2)∧∀c s3,s2=c::s3→decide (c=B6 true)=false∧decide (c=44)=false))∨
  ∃f s2,E0 true P u=some (f,s2)∧Gr s2 S∧((∃s3,s2=B6 true::s3∧BM (BR F) x16 k r b1 b2 false S ((S.length:Int)-u.length) (x16++⟨6,0,[],k-1⟩::D) g=some (.out (.ret (true,CG S s3 (x16++⟨6,0,[],k⟩::(D++([⟨4,0,r.1,0⟩]++f.flat.map Cg))) (g||f.flat.any BE)))))∨
   (∃s3,s2=44::s3∧BM (BR F) x16 k r b1 b2 false S ((S.length:Int)-u.length) (x16++⟨6,0,[],k-1⟩::D) g=some (.next (r.1,k+1,S,(S.length:Int)-s3.length,x16++⟨6,0,[],k⟩::(D++([⟨4,0,r.1,0⟩]++f.flat.map Cg)),g||f.flat.any BE)))):=by
 unfold BM;have e0:(x16++⟨6,0,[],k-1⟩::D)++([⟨4,0,r.1,0⟩]:List Aa)=x16++⟨6,0,[],k-1⟩::(D++[⟨4,0,r.1,0⟩]):=by simp
 rw[A8 rfl,QT (by rw[Yz,Yu,YP];omega),e0,Ld];rcases hV with⟨f,s2,q1,q2,q3⟩ | ⟨q1,q',q2⟩
 ·have ec:(x16++⟨6,0,[],k-1⟩::(D++[⟨4,0,r.1,0⟩]))++f.flat.map Cg=x16++⟨6,0,[],k-1⟩::(D++([⟨4,0,r.1,0⟩]++f.flat.map Cg)):=by simp
  rw[ec] at q3;rw[q3,AC rfl,A8 (p:=!true) rfl];have hin:Dt (x16.length:Int) (((x16++(⟨6,0,[],k-1⟩:Aa)::(D++([⟨4,0,r.1,0⟩]++f.flat.map Cg))).length:Nat):Int)=true:=PN (by omega) (by rw[Yz,Yu];omega);have e1:(true,CG S s2 (x16++⟨6,0,[],k-1⟩::(D++([⟨4,0,r.1,0⟩]++f.flat.map Cg))) (g||f.flat.any BE)).2.fCells=x16++⟨6,0,[],k-1⟩::(D++([⟨4,0,r.1,0⟩]++f.flat.map Cg)):=rfl;rw[e1,BG hin,U3,Qp,Er];have e2:Ai.mk (true,CG S s2 (x16++⟨6,0,[],k-1⟩::(D++([⟨4,0,r.1,0⟩]++f.flat.map Cg))) (g||f.flat.any BE)).2.fS (true,CG S s2 (x16++⟨6,0,[],k-1⟩::(D++([⟨4,0,r.1,0⟩]++f.flat.map Cg))) (g||f.flat.any BE)).2.fAt (x16++⟨6,0,[],k⟩::(D++([⟨4,0,r.1,0⟩]++f.flat.map Cg))) (true,CG S s2 (x16++⟨6,0,[],k-1⟩::(D++([⟨4,0,r.1,0⟩]++f.flat.map Cg))) (g||f.flat.any BE)).2.fGreat=CG S s2 (x16++⟨6,0,[],k⟩::(D++([⟨4,0,r.1,0⟩]++f.flat.map Cg))) (g||f.flat.any BE):=rfl;rw[e2,Ck hS q2,J0]
  cases s2 with
  | nil=>
   simp only;rw[AC rfl,A8 rfl,Ck hS q2,J0];exact .inl ⟨_,rfl,.inr ⟨f,[],q1,λc s3 e=>by cases e⟩⟩
  | cons c s3=>
   simp only
   cases ha:decide (c=125) with
   | true=>
    simp only[Yq] at ha;subst ha;exact .inr ⟨f,_,q1,q2,.inl ⟨s3,rfl,rfl⟩⟩
   | false=>
    simp only[Yt];rw[AC rfl,A8 rfl,Ck hS q2,J0];simp only
    cases hb:decide (c=44) with
    | true=>
     simp only[Yq] at hb;subst hb;simp only[Yw];rw[AC rfl,A8 (p:=!true) rfl,AV (by omega) (by omega)];exact .inr ⟨f,_,q1,q2,.inr ⟨s3,rfl,rfl⟩⟩
    | false=>
     exact .inl ⟨_,rfl,.inr ⟨f,_,q1,λc' s3' e=>by cases e;exact⟨ha,hb⟩⟩⟩
 ·rw[q2,AC rfl];exact .inl ⟨q',rfl,.inl q1⟩
def WG (t:Ae):Ae→Option (Option Ae×Ae)
 | []=>none
 | d::u'=>bif decide (d=58) then some (some t,u') else none
theorem QH (b:Bool)(last:Option Ae)(r:Ae):DO b true last (34::r)=match Cm b r with
  | none=>none
  | some (k,u)=>bif b&&!Bi true last (some k) then none else WG k u:=by
 show(match Cm b r with
   | none=>none
   | some (k,u)=>bif b&&!Bi true last (some k) then none else(match u with
    | []=>none
    | d::u'=>bif decide (d=58) then some (some k,u') else none))=_
 cases Cm b r with
 | none=>rfl
 | some q=>obtain⟨k,u⟩:=q;cases u<;>rfl
theorem Vy (b:Bool)(last:Option Ae){u:Ae}(h:∀r,u=34::r→Cm b r=none):DO b true last u=none:=by
 cases u with
 | nil=>rfl
 | cons c r=>
  by_cases hc:c=34
  ·subst hc;rw[QH,h r rfl]
  ·show(bif decide (c=34) then _ else none)=none;rw[Yx hc];rfl
theorem MP {F:Nat}{S w t:Ae}{x16 cs:List Aa}{k:Int}{g:Bool}(b1 b2:Bool)(hS:S.length≤100000)(hw:Gr w S) :
  (∃q',B0 (Dj (t,true,CG S w cs g).2.2 ([58]:Ae)) (λha=>BM (BR F) x16 k (t,true,CG S w cs g) b1 b2 (!ha.1) ha.2.fS ha.2.fAt ha.2.fCells ha.2.fGreat)=some (.out (.ret (false,q')))∧WG t w=none)∨
  ∃s1,w=58::s1∧WG t w=some (some t,s1)∧B0 (Dj (t,true,CG S w cs g).2.2 ([58]:Ae)) (λha=>BM (BR F) x16 k (t,true,CG S w cs g) b1 b2 (!ha.1) ha.2.fS ha.2.fAt ha.2.fCells ha.2.fGreat)=BM (BR F) x16 k (t,true,CG S w cs g) b1 b2 false S ((S.length:Int)-s1.length) cs g:=by
 rw[show(t,true,CG S w cs g).2.2=CG S w cs g from rfl,Ck hS hw,J0]
 cases w with
 | nil=>exact .inl ⟨_,rfl,rfl⟩
 | cons d s1=>
  by_cases hd:d=58
  ·subst hd;exact .inr ⟨s1,rfl,rfl,rfl⟩
  ·simp only[Yx hd,Yt];refine .inl ⟨_,rfl,?_⟩;show(bif decide (d=58) then _ else none)=none;rw[Yx hd];rfl
theorem Vt {F:Nat}{S u last:Ae}{x16 cs:List Aa}{k:Int}{g:Bool}(hS:S.length≤100000)(hs:Gr u S)(hF:S.length<F) :
  (DO true true (bif decide (1<k) then some last else none) u=none∧∃q',Wb F x16 (last,k,S,(S.length:Int)-u.length,cs,g)=some (.out (.ret (false,q'))))∨
  ∃t s1 b1 b2 q0,DO true true (bif decide (1<k) then some last else none) u=some (some t,s1)∧Gr s1 S∧s1.length+2≤u.length∧Wb F x16 (last,k,S,(S.length:Int)-u.length,cs,g)=BM (BR F) x16 k (t,true,q0) b1 b2 false S ((S.length:Int)-s1.length) cs g:=by
 have hb:Wb F x16 (last,k,S,(S.length:Int)-u.length,cs,g)=DI F (BR F) x16 last k S ((S.length:Int)-u.length) cs g:=rfl;rw[hb];unfold DI;rw[Ld];rcases Oc (cs:=cs) (g:=g) hS hs hF with⟨r,t,w,q1,q2,q3,q4⟩ | ⟨q1,q',q2⟩
 ·rw[q4,AC rfl,A8 (p:=!true) rfl];subst q1;have hok:=Va _ r t w rfl q2;have hwl:=H8 true _ r t w rfl q2;rw[QH,q2];simp only[Y5]
  cases h1:decide (1<k) with
  | true=>
   rw[AL rfl];simp only[Yw];have hko:Bi true (some last) (some t) = !(Bv t last||decide (t=last)):=by simp[Bi,hok]
   rw[hko,Bool.not_not]
   cases hlt:(Bv t last||decide (t=last)) with
   | true=>
    rw[AL rfl];exact .inl ⟨rfl,_,rfl⟩
   | false=>
    rw[A8 rfl];simp only[Yt];rcases MP (F:=F) (cs:=cs) (g:=g) (x16:=x16) (k:=k) (t:=t) false false hS q3 with⟨q',c1,c2⟩ | ⟨s1,c1,c2,c3⟩
    ·exact .inl ⟨c2,q',c1⟩
    ·subst c1;exact .inr ⟨t,s1,false,false,CG S (58::s1) cs g,c2,q3.tail,by simp only[Yu] at hwl ⊢;omega,c3⟩
  | false=>
   rw[A8 rfl];simp only[Yt];have hko:Bi true none (some t)=true:=by simp[Bi,hok]
   rw[hko];simp only[Y3,Yt];rcases MP (F:=F) (cs:=cs) (g:=g) (x16:=x16) (k:=k) (t:=t) false false hS q3 with⟨q',c1,c2⟩ | ⟨s1,c1,c2,c3⟩
   ·exact .inl ⟨c2,q',c1⟩
   ·subst c1;exact .inr ⟨t,s1,false,false,CG S (58::s1) cs g,c2,q3.tail,by simp only[Yu] at hwl ⊢;omega,c3⟩
 ·rw[q2,AC rfl];exact .inl ⟨Vy _ _ q1,_,rfl⟩
def Sv (b:Bool)(F:Nat)(m:Bool):Ae→Option (Fo×Ae)
 | []=>none
 | d::r'=>bif decide (d=B6 m) then some (nd m .nil,r') else(match CR b F m none (d::r') with
  | none=>none
  | some (g,u)=>some (nd m g,u))
theorem Ir (b:Bool)(F:Nat)(m:Bool)(d:UInt8)(r':Ae):Sv b F m (d::r')=bif decide (d=B6 m) then some (nd m .nil,r') else(match CR b F m none (d::r') with
  | none=>none
  | some (g,u)=>some (nd m g,u)):=rfl
theorem PA (b:Bool)(F:Nat)(r:Ae)(m:Bool):E0 b (F+1) ((bif m then 123 else 91)::r)=Sv b F m r:=by
 rw[CQ]
 cases m<;>cases r<;>rfl
theorem TM {S:Ae}(hS:S.length≤100000):∀n:Nat,
  (∀(F P:Nat) (u:Ae) (cs:List Aa) (g:Bool),u.length=n→Gr u S→S.length+n+5<F→2*n+2≤P→cs.length+n≤S.length→WW F P S u cs g)∧
  (∀(F P L:Nat) (u:Ae) (x16 D:List Aa) (k:Int) (g:Bool),u.length=n→Gr u S→S.length+n+5<F→2*n+3≤P→n<L→x16.length+1+D.length+n≤S.length→1≤k→k+n≤S.length+1→∃o,Cs (VM F x16) L (k,S,(S.length:Int)-u.length,x16++⟨5,0,[],k-1⟩::D,g)=some o∧S2 P false none S u x16 D k g o)∧
  (∀(F P L:Nat) (u last:Ae) (x16 D:List Aa) (k:Int) (g:Bool),u.length=n→Gr u S→S.length+n+5<F→2*n+3≤P→n<L→x16.length+1+D.length+n≤S.length→1≤k→k+n≤S.length+1→∃o,Cs (Wb F x16) L (last,k,S,(S.length:Int)-u.length,x16++⟨6,0,[],k-1⟩::D,g)=some o∧S2 P true (bif decide (1<k) then some last else none) S u x16 D k g o):=by
 intro n
 induction n using Nat.strongRecOn with
 | ind n ih=>
 have hV:∀(F P:Nat) (u:Ae) (cs:List Aa) (g:Bool),u.length=n→Gr u S→S.length+n+5<F→2*n+2≤P→cs.length+n≤S.length→WW F P S u cs g:=by
  intro F P u cs g hn hs hF hP hcs;obtain⟨F,rfl⟩:∃K,F=K+1:=⟨F-1,by omega⟩
  obtain⟨P,rfl⟩:∃K,P=K+1:=⟨P-1,by omega⟩
  unfold WW;rw[BR];unfold Jh;rw[Ck hS hs,J0];have hsc:(∀c r,u=c::r→(decide (c=91)||decide (c=123))=false)→∀r1:Bool×Ai,(∃f w,E0 true (P+1) u=some (f,w)∧Gr w S∧Dk F (BR F) r1 true S ((S.length:Int)-u.length) cs g=some (true,CG S w (cs++f.flat.map Cg) (g||f.flat.any BE)))∨(E0 true (P+1) u=none∧∃q',Dk F (BR F) r1 true S ((S.length:Int)-u.length) cs g=some (false,q')):=λhc r1=>by
   rw[Tu true P hc];unfold Dk;rw[AL rfl,Ld];rcases Od (F:=F) (cs:=cs) (g:=g) hS hs (by omega) (by omega) with⟨f,w,q1,q2,q3⟩ | ⟨q1,q',q2⟩
   ·rw[q3,AC rfl];exact .inl ⟨f,w,q1,q2,rfl⟩
   ·rw[q2,AC rfl];exact .inr ⟨q1,q',rfl⟩
  have hsl:=hs.len
  cases u with
  | nil=>
   simp only;rw[AC rfl,AL (p:=!false) rfl,show(false,CG S [] cs g).2=CG S [] cs g from rfl,Ck hS hs,J0,AC rfl];exact hsc (λc r e=>by cases e) _
  | cons c r=>
   simp only[Yu] at hn hsl;simp only;have hbr:∀m:Bool,c=(bif m then 123 else 91)→∀body:Option (Bool×Ai),body=(Bc (Ea 40 (cs.length+([⟨bif m then 6 else 5,0,[],0⟩]:List Aa).length))<|B0 (Dj (CG S r (cs++[⟨bif m then 6 else 5,0,[],0⟩]) g) ([B6 m]:Ae)) λha=>Bw ha.1 (some (true,ha.2)) (bif m then B0 (Cs (Wb F cs) F ([],1,ha.2.fS,ha.2.fAt,ha.2.fCells,ha.2.fGreat)) (BN λ_=>Gd) else B0 (Cs (VM F cs) F (1,ha.2.fS,ha.2.fAt,ha.2.fCells,ha.2.fGreat)) (BN λ_=>Ge)))→
     (∃f w,E0 true (P+1) (c::r)=some (f,w)∧Gr w S∧body=some (true,CG S w (cs++f.flat.map Cg) (g||f.flat.any BE)))∨(E0 true (P+1) (c::r)=none∧∃q',body=some (false,q')):=λm hc body hbody=>by
    rw[hbody,hc,PA,QT (by rw[YP];omega),Ck hS hs.tail,J0];have hfh:Cg ⟨bif m then 6 else 5,0,[],0⟩=⟨bif m then 6 else 5,0,[],0⟩∧∀N,BE ⟨bif m then 6 else 5,0,[],N⟩=false:=by cases m<;>exact⟨rfl,λ_=>rfl⟩
    have hfn:∀N,Cg ⟨bif m then 6 else 5,0,[],N⟩=⟨bif m then 6 else 5,0,[],N⟩:=λN=>by cases m<;>rfl
    have hloop:∀o:Out (Bool×Ai) Unit,S2 P m none S r cs [] 1 g o→(r=[]∨∃d r',r=d::r'∧decide (d=B6 m)=false)→
      (∃f w,Sv true P m r=some (f,w)∧Gr w S∧o = .ret (true,CG S w (cs++f.flat.map Cg) (g||f.flat.any BE)))∨(Sv true P m r=(none:Option (Fo×Ae))∧∃q',o = .ret (false,q')):=λo ho hr=>by
     rcases hr with rfl | ⟨d,r',rfl,hd⟩
     ·rcases ho with⟨G,w,q1,_,_⟩ | ⟨_,q2⟩
      ·exact absurd ((DG true P).2 _ _ _ _ _ q1).1 (by simp)
      ·exact .inr ⟨rfl,q2⟩
     ·rw[Ir,hd];simp only[Yt];rcases ho with⟨G,w,q1,q2,q3⟩ | ⟨q1,q2⟩
      ·rw[q1];refine .inl ⟨_,w,rfl,q2,?_⟩;rw[q3,Im _ _ Hm,YV,List.any_cons,hfn,hfh.2,Y7,Zf,show(1:Int)-1+(G.cnt:Int)=G.cnt from by omega]
      ·rw[q1];exact .inr ⟨rfl,q2⟩
    have hrest:(r=[]∨∃d r',r=d::r'∧decide (d=B6 m)=false)→(∃f w,Sv true P m r=some (f,w)∧Gr w S∧(bif m then B0 (Cs (Wb F cs) F ([],1,S,(S.length:Int)-r.length,cs++[⟨bif m then 6 else 5,0,[],0⟩],g)) (BN λ_=>Gd) else B0 (Cs (VM F cs) F (1,S,(S.length:Int)-r.length,cs++[⟨bif m then 6 else 5,0,[],0⟩],g)) (BN λ_=>Ge))=some (true,CG S w (cs++f.flat.map Cg) (g||f.flat.any BE)))∨(Sv true P m r=(none:Option (Fo×Ae))∧∃q',(bif m then B0 (Cs (Wb F cs) F ([],1,S,(S.length:Int)-r.length,cs++[⟨bif m then 6 else 5,0,[],0⟩],g)) (BN λ_=>Gd) else B0 (Cs (VM F cs) F (1,S,(S.length:Int)-r.length,cs++[⟨bif m then 6 else 5,0,[],0⟩],g)) (BN λ_=>Ge))=some (false,q')):=λhr=>by
     cases m with
     | true=>
      obtain⟨o,ho1,ho2⟩:=(ih r.length (by omega)).2.2 F P F r [] cs [] 1 g rfl hs.tail (by omega) (by omega) (by omega) (by simp;omega) (by decide) (by omega);simp only[Yw];have ho1':Cs (Wb F cs) F ([],1,S,(S.length:Int)-r.length,cs++[⟨6,0,[],0⟩],g)=some o:=ho1;rw[AC ho1'];rcases hloop o ho2 hr with⟨f,w,q1,q2,q3⟩ | ⟨q1,q',q2⟩
      ·exact .inl ⟨f,w,q1,q2,Lb q3⟩
      ·exact .inr ⟨q1,q',Lb q2⟩
     | false=>
      obtain⟨o,ho1,ho2⟩:=(ih r.length (by omega)).2.1 F P F r cs [] 1 g rfl hs.tail (by omega) (by omega) (by omega) (by simp;omega) (by decide) (by omega);simp only[Yt];have ho1':Cs (VM F cs) F (1,S,(S.length:Int)-r.length,cs++[⟨5,0,[],0⟩],g)=some o:=ho1;rw[AC ho1'];rcases hloop o ho2 hr with⟨f,w,q1,q2,q3⟩ | ⟨q1,q',q2⟩
      ·exact .inl ⟨f,w,q1,q2,Lb q3⟩
      ·exact .inr ⟨q1,q',Lb q2⟩
    cases r with
    | nil=>
     simp only;rw[AC rfl,A8 rfl];exact hrest (.inl rfl)
    | cons d r'=>
     simp only
     cases hd:decide (d=B6 m) with
     | true=>
      simp only[Yw];rw[AC rfl,AL rfl];refine .inl ⟨_,r',by rw[Ir,hd];rfl,hs.tail.tail,?_⟩;rw[Im _ _ Hm];simp only[Fo.flat,Fo.cnt,YV,List.map_nil,List.any_cons,List.any_nil,YD];rw[show((0:Nat):Int)=0 from rfl,hfh.1,hfh.2,YD]
     | false=>
      simp only[Yt];rw[AC rfl,A8 rfl];exact hrest (.inr ⟨d,r',rfl,hd⟩)
   cases he:decide (c=91) with
   | true=>
    simp only[Yq] at he;simp only[Yw];rw[AC rfl,A8 (p:=!true) rfl];exact hbr false he _ rfl
   | false=>
    simp only[Yt];rw[AC rfl,AL (p:=!false) rfl,show(false,CG S (c::r) cs g).2=CG S (c::r) cs g from rfl,Ck hS hs,J0];simp only
    cases hg:decide (c=123) with
    | true=>
     simp only[Yq] at hg;simp only[Yw];rw[AC rfl];exact hbr true hg _ rfl
    | false=>
     simp only[Yt];rw[AC rfl];exact hsc (λc' r' e=>by cases e;rw[he,hg];rfl) _
 refine⟨hV,?_,?_⟩
 ·intro F P L u x16 D k g hn hs hF hP hL hb hk1 hk2;obtain⟨P,rfl⟩:∃K,P=K+1:=⟨P-1,by omega⟩
  obtain⟨L,rfl⟩:∃K,L=K+1:=⟨L-1,by omega⟩
  have hsl:=hs.len;have hv:=hV F P u (x16++⟨5,0,[],k-1⟩::D) g hn hs hF (by omega) (by simp;omega);have hkp:DO true false none u=some (none,u):=rfl;rcases PI hS hs hk1 (by omega) hv with⟨q',hb1,hf⟩ | ⟨f,s2,q1,q2,h⟩
  ·refine⟨_,DX hb1,?_⟩;rcases hf with hf | ⟨f,s2,hf,hno⟩
   ·refine .inr ⟨?_,q',rfl⟩;rw[CE,hkp];simp only[hf]
   ·exact S2.join hkp hf ((DG true P).1 _ _ _ hf).2 (.inr (.inr ⟨hno,q',rfl⟩))
  ·obtain⟨l1,ho⟩:=(DG true P).1 _ _ _ q1;have l2:=(GN true P).1 _ _ _ q1;rcases h with⟨s3,e,hb1⟩ | ⟨s3,e,hb1⟩
   ·subst e;exact⟨_,DX hb1,S2.join hkp q1 ho (.inl ⟨s3,rfl,q2.tail,rfl⟩)⟩
   ·subst e;simp only[Yu] at l1 l2;obtain⟨o,ho1,ho2⟩:=(ih s3.length (by omega)).2.1 F P L s3 x16 (D++f.flat.map Cg) (k+1) (g||f.flat.any BE) rfl q2.tail (by omega) (by omega) (by omega) (by rw[Yz,Y4];omega) (by omega) (by omega);rw[show k+1-1=k from by omega] at ho1;exact⟨o,JA hb1 ho1,S2.join hkp q1 ho (.inr (.inl ⟨s3,rfl,ho2⟩))⟩
 ·intro F P L u last x16 D k g hn hs hF hP hL hb hk1 hk2;obtain⟨P,rfl⟩:∃K,P=K+1:=⟨P-1,by omega⟩
  obtain⟨L,rfl⟩:∃K,L=K+1:=⟨L-1,by omega⟩
  have hsl:=hs.len;rcases Vt (last:=last) (x16:=x16) (cs:=x16++⟨6,0,[],k-1⟩::D) (k:=k) (g:=g) hS hs (F:=F) (by omega) with⟨hk,q',hb1⟩ | ⟨t,s1,b1,b2,q0,hk,hs1,hl1,hb0⟩
  ·refine⟨_,DX hb1,.inr ⟨?_,q',rfl⟩⟩;rw[CE,hk]
  ·have hv:=(ih s1.length (by omega)).1 F P s1 (x16++⟨6,0,[],k-1⟩::(D++[⟨4,0,t,0⟩])) g rfl hs1 (by omega) (by omega) (by simp;omega);rcases TJ (r:=(t,true,q0)) (b1:=b1) (b2:=b2) hS hs1 hk1 (by omega) (by omega) hv with⟨q',hb1,hf⟩ | ⟨f,s2,q1,q2,h⟩
   ·refine⟨_,DX (hb0.trans hb1),?_⟩;rcases hf with hf | ⟨f,s2,hf,hno⟩
    ·refine .inr ⟨?_,q',rfl⟩;rw[CE,hk];simp only[hf]
    ·exact S2.join hk hf ((DG true P).1 _ _ _ hf).2 (.inr (.inr ⟨hno,q',rfl⟩))
   ·obtain⟨l1,ho⟩:=(DG true P).1 _ _ _ q1;have l2:=(GN true P).1 _ _ _ q1;rcases h with⟨s3,e,hb1⟩ | ⟨s3,e,hb1⟩
    ·subst e;exact⟨_,DX (hb0.trans hb1),S2.join hk q1 ho (.inl ⟨s3,rfl,q2.tail,rfl⟩)⟩
    ·subst e;simp only[Yu] at l1 l2;obtain⟨o,ho1,ho2⟩:=(ih s3.length (by omega)).2.2 F P L s3 t x16 (D++([⟨4,0,t,0⟩]++f.flat.map Cg)) (k+1) (g||f.flat.any BE) rfl q2.tail (by omega) (by omega) (by omega) (by rw[Yz,Yz,Y4,YP];omega) (by omega) (by omega);rw[show k+1-1=k from by omega] at ho1;rw[show decide (1<k+1)=true from Y0 (by omega)] at ho2;exact⟨o,JA (hb0.trans hb1) ho1,S2.join hk q1 ho (.inr (.inl ⟨s3,rfl,ho2⟩))⟩
theorem Pp {S:Ae}(hS:S.length≤100000){F P:Nat}(hF:2*S.length+6≤F)(hP:2*S.length+2≤P):WW F P S S [] false:=
 (TM hS S.length).1 F P S [] false rfl ⟨[],rfl⟩ (by omega) hP (by simp)
theorem Vr:∀(d:Ae),d.all B7=true→Ca 0 d<10 ^ d.length:=by
 have key:∀(d:Ae) (a m:Nat),d.all B7=true→a<10 ^ m→Ca a d<10 ^ (m+d.length):=by
  intro d
  induction d with
  | nil=>intro a m _ h;simpa[Ca] using h
  | cons c d ih=>
   intro a m hd h;simp only[YT,Yv] at hd;have hc:48≤c.toNat∧c.toNat≤57:=by have:=hd.1;simp[B7] at this;omega
   have:=ih (10*a+(c.toNat-48)) (m+1) hd.2 (by rw[Nat.pow_succ];omega);rw[Yu,show m+(d.length+1)=m+1+d.length from by omega];exact this
 intro d hd;have:=key d 0 0 hd (by decide);simpa using this
theorem Vq {d:Ae}(hd:d.all B7=true)(hl:d.length≤18):0≤Mu d∧Mu d<1000000000000000000:=by
 have h1:Mu d=(Ca 0 d:Int):=HD d 0 hd;have h2:=Vr d hd;have h3:10 ^ d.length≤10 ^ 18:=Nat.pow_le_pow_right (by decide) hl;have:(10:Nat) ^ 18=1000000000000000000:=by decide
 omega
def hd (m:Bool)(N:Int):Aa:=⟨bif m then 6 else 5,0,[],N⟩
theorem Ok:∀(n:Nat) (s:Ae),s.length=n→Cm true s=match Cm false s with
  | none=>none
  | some (t,u)=>bif t.all Iw then some (t,u) else none:=by
 intro n
 induction n using Nat.strongRecOn with
 | ind n ih=>
  intro s hn
  cases s with
  | nil=>rfl
  | cons c r=>
   simp only[Yu] at hn;rw[CV,CV]
   cases h1:decide (c=34) with
   | true=>rfl
   | false=>
    simp only[Yt,Y5,YA]
    cases h3:decide (c=92) with
    | true=>
     have hc:Iw c=true:=by simp only[Yq] at h3;subst h3;rfl
     rw[hc]
     cases r with
     | nil=>rfl
     | cons d r'=>
      simp only[Y3,Yt,Yw];simp only[Yu] at hn
      cases h4:(decide (d=34)||decide (d=92)) with
      | false=>rfl
      | true=>
       have hd:Iw d=true:=by
        simp only[YZ,Yq] at h4;rcases h4 with e | e<;>subst e<;>rfl
       simp only[Yw];rw[ih r'.length (by omega) r' rfl]
       cases Cm false r' with
       | none=>rfl
       | some q=>
        obtain⟨t,u⟩:=q;simp only[YT,hd,Y5]
        cases t.all Iw<;>rfl
    | false=>
     simp only[Yt];rw[ih r.length (by omega) r rfl]
     cases hc:Iw c with
     | false=>
      simp only[YE,Yw]
      cases Cm false r with
      | none=>rfl
      | some q=>obtain⟨t,u⟩:=q;simp[hc]
     | true=>
      simp only[Y3,Yt]
      cases Cm false r with
      | none=>rfl
      | some q=>
       obtain⟨t,u⟩:=q;simp only[YT,hc,Y5]
       cases t.all Iw<;>rfl
theorem TR (m:Bool)(last:Option Ae)(s:Ae):DO true m last s=match DO false m none s with
  | none=>none
  | some (k,u)=>bif Bi m last k then some (k,u) else none:=by
 cases m with
 | false=>rfl
 | true=>
  cases s with
  | nil=>rfl
  | cons c r=>
   unfold DO;simp only[Yw,Y5,YA,Yt]
   cases hc:decide (c=34) with
   | false=>rfl
   | true=>
    simp only[Yw];rw[Ok _ r rfl]
    cases Cm false r with
    | none=>rfl
    | some q=>
     obtain⟨t,u⟩:=q;simp only
     cases ht:t.all Iw with
     | false=>
      have hk:Bi true last (some t)=false:=by simp[Bi,ht]
      simp only[Yt]
      cases u with
      | nil=>rfl
      | cons d u'=>
       simp only
       cases decide (d=58) with
       | false=>rfl
       | true=>simp only[Yw,hk];rfl
     | true=>
      simp only[Yw]
      cases u with
      | nil=>cases Bi true last (some t)<;>rfl
      | cons d u'=>
       simp only
       cases decide (d=58) with
       | false=>cases Bi true last (some t)<;>rfl
       | true=>cases hk:Bi true last (some t)<;>simp[hk]
def X9 (c:Aa):Bool:=bif decide (c.fKind=4) then decide (c.fInt=0)&&decide (c.fN=0) else pl c
def Fo.rw:Bool→Fo→Bool
 | _,.nil=>true
 | m,.cell k c r=>(k.isSome ==m)&&X9 c&&!decide (0<c.fN)&&r.rw m
 | m,.node k c kids r=>(k.isSome ==m)&&X9 c&&decide (0<c.fN)&&decide (c.fN=kids.cnt)&&kids.rw (decide (c.fKind=6))&&r.rw m
theorem Tn {f:Fo}(h:f.one=true)(m:Bool)(last key:Option Ae)(r:Fo):(f.put key r).wf m last=(Bi m last key&&f.wf false none&&r.wf m key):=by
 cases f with
 | nil=>cases h
 | cell k c r'=>
  cases k with
  | some _=>cases h
  | none=>cases r' with
   | nil=>simp[Fo.put,Fo.wf,Bi,Bool.and_assoc]
   | cell _ _ _=>cases h
   | node _ _ _ _=>cases h
 | node k c kids r'=>
  cases k with
  | some _=>cases h
  | none=>cases r' with
   | nil=>simp[Fo.put,Fo.wf,Bi,Bool.and_assoc]
   | cell _ _ _=>cases h
   | node _ _ _ _=>cases h
theorem To {f:Fo}(h:f.one=true)(m:Bool)(key:Option Ae)(r:Fo):(f.put key r).rw m=((key.isSome ==m)&&f.rw false&&r.rw m):=by
 cases f with
 | nil=>cases h
 | cell k c r'=>
  cases k with
  | some _=>cases h
  | none=>cases r' with
   | nil=>simp[Fo.put,Fo.rw,Bool.and_assoc]
   | cell _ _ _=>cases h
   | node _ _ _ _=>cases h
 | node k c kids r'=>
  cases k with
  | some _=>cases h
  | none=>cases r' with
   | nil=>simp[Fo.put,Fo.rw,Bool.and_assoc]
   | cell _ _ _=>cases h
   | node _ _ _ _=>cases h
theorem Q7 (m:Bool)(g:Fo):(nd m g).wf false none=g.wf m none∧(nd m g).rw false=g.rw m:=by
 unfold nd
 cases hd:decide (g.cnt=0) with
 | true=>
  simp only[Yq] at hd;rw[Hm hd]
  cases m<;>exact⟨rfl,rfl⟩
 | false=>
  simp only[Yr] at hd;have h1:decide ((0:Int)<(g.cnt:Int))=true:=Y0 (by omega);have h2:decide ((0:Int)≤(g.cnt:Int))=true:=Y0 (by omega)
  cases m<;>simp[Fo.wf,Fo.rw,Bi,pl,X9]<;>omega
theorem RT {m:Bool}{last k:Option Ae}{s u:Ae}{b:Bool}(h:DO b m last s=some (k,u)):(k.isSome ==m)=true:=by
 unfold DO at h
 cases m with
 | false=>cases h;rfl
 | true=>
  simp only[Yw] at h
  cases s with
  | nil=>cases h
  | cons c r=>
   simp only at h
   cases h1:decide (c=34) with
   | false=>rw[h1] at h;cases h
   | true=>
    rw[h1] at h;simp only[Yw] at h
    cases h2:Cm b r with
    | none=>rw[h2] at h;cases h
    | some q=>
     obtain⟨t,w⟩:=q;rw[h2] at h;simp only at h
     cases h3:(b&&!Bi true last (some t)) with
     | true=>rw[h3] at h;cases h
     | false=>
      rw[h3] at h;simp only[Yt] at h
      cases w with
      | nil=>cases h
      | cons d w'=>
       simp only at h
       cases h4:decide (d=58) with
       | false=>rw[h4] at h;cases h
       | true=>rw[h4] at h;cases h;rfl
theorem N4:∀F:Nat,(∀s,E0 true F s=(match E0 false F s with
   | none=>none
   | some (f,u)=>bif f.wf false none then some (f,u) else none)∧∀f u,E0 false F s=some (f,u)→f.rw false=true)∧
  (∀m last last' s,CR true F m last s=(match CR false F m last' s with
   | none=>none
   | some (g,u)=>bif g.wf m last then some (g,u) else none)∧∀g u,CR false F m last' s=some (g,u)→g.rw m=true)
 | 0=>⟨λs=>⟨by rw[E0.eq_def,E0.eq_def],(λf u h=>by rw[E0.eq_def] at h;cases h)⟩,λm last last' s=>⟨by rw[CR.eq_def,CR.eq_def],(λg u h=>by rw[CR.eq_def] at h;cases h)⟩⟩
 | F+1=>by
  obtain⟨ih1,ih2⟩:=N4 F;have lfw:∀k i t,pl ⟨k,i,t,0⟩=true→(lf k i t).wf false none=true:=λk i t h=>by simp[lf,Fo.wf,Bi,h]
  have lfr:∀k i t,X9 ⟨k,i,t,0⟩=true→(lf k i t).rw false=true:=λk i t h=>by simp[lf,Fo.rw,h]
  constructor
  ·intro s;rw[CQ,CQ]
   cases h1:pre [110,117,108,108] s with
   | some r=>exact⟨rfl,λf u h=>by cases h;rfl⟩
   | none=>
   simp only
   cases h2:pre [116,114,117,101] s with
   | some r=>exact⟨rfl,λf u h=>by cases h;rfl⟩
   | none=>
   simp only
   cases h3:pre [102,97,108,115,101] s with
   | some r=>exact⟨rfl,λf u h=>by cases h;rfl⟩
   | none=>
   simp only
   cases s with
   | nil=>exact⟨rfl,λf u h=>by cases h⟩
   | cons c r=>
   simp only
   cases h4:decide (c=34) with
   | true=>
    simp only[Yw];rw[Ok _ r rfl]
    cases hq:Cm false r with
    | none=>exact⟨rfl,λf u h=>by cases h⟩
    | some q=>
     obtain⟨t,u⟩:=q;simp only;have e:(lf 4 0 t).wf false none=t.all Iw:=by simp[lf,Fo.wf,Bi,pl]
     rw[e];refine⟨by cases t.all Iw<;>rfl,λf u' h=>by cases h;exact lfr 4 0 t rfl⟩
   | false=>
   simp only[Yt]
   cases h5:(decide (c=91)||decide (c=123)) with
   | false=>
    simp only[Yt]
    cases hi:GS (c::r) with
    | none=>exact⟨rfl,λf u h=>by cases h⟩
    | some q=>
     obtain⟨f,u⟩:=q;have hf:f.wf false none=true∧f.rw false=true:=by
      unfold GS at hi;simp only at hi
      cases hc:Ee (decide ((c::r).head? =some 45)) (Cc (bif decide ((c::r).head? =some 45) then(c::r).tail else c::r)).1 with
      | false=>rw[hc] at hi;cases hi
      | true=>rw[hc] at hi;cases hi;exact⟨rfl,rfl⟩
     refine⟨by simp only[hf.1];rfl,λf' u' h=>by cases h;exact hf.2⟩
   | true=>
   simp only[Yw]
   cases r with
   | nil=>exact⟨rfl,λf u h=>by cases h⟩
   | cons d r'=>
   simp only
   cases h6:decide (d=B6 (decide (c=123))) with
   | true=>
    simp only[Yw,(Q7 _ _).1,Fo.wf];exact⟨trivial,λf u h=>by cases h;rw[(Q7 _ _).2];rfl⟩
   | false=>
   simp only[Yt];obtain⟨e1,e2⟩:=ih2 (decide (c=123)) none none (d::r');rw[e1]
   cases hq:CR false F (decide (c=123)) none (d::r') with
   | none=>exact⟨rfl,λf u h=>by cases h⟩
   | some q=>
    obtain⟨g,u⟩:=q;simp only[(Q7 _ _).1];refine⟨by cases g.wf (decide (c=123)) none<;>rfl,λf u' h=>by cases h;rw[(Q7 _ _).2];exact e2 g u hq⟩
  ·intro m last last' s;rw[CE,CE,TR m last s];have hkl:DO false m last' s=DO false m none s:=by
    cases m with
    | false=>rfl
    | true=>unfold DO;simp only[YA]
   rw[hkl]
   cases hk:DO false m none s with
   | none=>exact⟨rfl,λf u h=>by cases h⟩
   | some q=>
   obtain⟨key,s1⟩:=q;have hks:=RT hk;simp only;obtain⟨e1,e2⟩:=ih1 s1
   cases hf:E0 false F s1 with
   | none=>
    rw[hf] at e1;refine⟨?_,λf u h=>by cases h⟩
    cases Bi m last key with
    | false=>rfl
    | true=>simp only[Yw,e1]
   | some q=>
   obtain⟨f,s2⟩:=q;have ho:=((DG false F).1 _ _ _ hf).2;have hfr:=e2 f s2 hf;rw[hf] at e1;simp only at e1;simp only
   cases s2 with
   | nil=>
    refine⟨?_,λf u h=>by cases h⟩
    cases Bi m last key with
    | false=>rfl
    | true=>simp only[Yw,e1];cases f.wf false none<;>rfl
   | cons c s3=>
   simp only
   cases h3:decide (c=B6 m) with
   | true=>
    simp only[Yw,Tn ho,Fo.wf,YB];refine⟨?_,λg u h=>by cases h;rw[To ho,hks,hfr];rfl⟩
    cases Bi m last key with
    | false=>rfl
    | true=>simp only[Yw,e1,Y5];cases f.wf false none<;>simp[h3]
   | false=>
   simp only[Yt]
   cases h4:decide (c=44) with
   | false=>
    refine⟨?_,λg u h=>by cases h⟩
    cases Bi m last key with
    | false=>rfl
    | true=>simp only[Yw,e1];cases f.wf false none<;>simp[h3,h4]
   | true=>
   simp only[Yw];obtain⟨e3,e4⟩:=ih2 m key key s3
   cases hq:CR false F m key s3 with
   | none=>
    rw[hq] at e3;refine⟨?_,λg u h=>by cases h⟩
    cases Bi m last key with
    | false=>rfl
    | true=>simp only[Yw,e1];cases f.wf false none<;>simp[h3,h4,e3]
   | some q=>
    obtain⟨g,u⟩:=q;rw[hq] at e3;simp only at e3;simp only[Tn ho];refine⟨?_,λg' u' h=>by cases h;rw[To ho,hks,hfr,e4 g u hq];rfl⟩
    cases Bi m last key with
    | false=>rfl
    | true=>
     simp only[Yw,e1,Y5]
     cases f.wf false none with
     | false=>rfl
     | true=>
      simp only[Yw,h3,h4,Yt,e3,Y5]
      cases g.wf m key<;>rfl
def HN (K:Nat)(c:Aa):Prop:=c.fStr.length≤K∧BT .i64 c.fInt=true∧c.fN≤(K:Int)
theorem HN.mono {K K':Nat}{c:Aa}(h:HN K c)(hk:K≤K'):HN K' c:=⟨by have:=h.1;omega,h.2.1,by have:=h.2.2;omega⟩
theorem M9 (b:Bool):∀(n:Nat) (s t u:Ae),s.length=n→Cm b s=some (t,u)→t.length≤s.length:=by
 intro n
 induction n using Nat.strongRecOn with
 | ind n ih=>
  intro s t u hn h
  cases s with
  | nil=>cases h
  | cons c r=>
   simp only[Yu] at hn ⊢;rw[CV] at h
   cases h1:decide (c=34) with
   | true=>rw[h1] at h;cases h;simp
   | false=>
    rw[h1] at h;simp only[Yt] at h
    cases h2:(b&&!Iw c) with
    | true=>rw[h2] at h;cases h
    | false=>
     rw[h2] at h;simp only[Yt] at h
     cases h3:decide (c=92) with
     | true=>
      rw[h3] at h
      cases r with
      | nil=>cases h
      | cons d r'=>
       simp only[Yw] at h
       cases h4:(decide (d=34)||decide (d=92)) with
       | false=>rw[h4] at h;cases h
       | true=>
        rw[h4] at h;simp only[Yw] at h
        cases h5:Cm b r' with
        | none=>rw[h5] at h;cases h
        | some q=>
         obtain⟨t',u'⟩:=q;rw[h5] at h;cases h;simp only[Yu] at hn ⊢;have:=ih r'.length (by omega) r' t' u rfl h5;omega
     | false=>
      rw[h3] at h;simp only[Yt] at h
      cases h5:Cm b r with
      | none=>rw[h5] at h;cases h
      | some q=>
       obtain⟨t',u'⟩:=q;rw[h5] at h;cases h;have:=ih r.length (by omega) r t' u rfl h5;simp only[Yu];omega
theorem RS {b m:Bool}{last:Option Ae}{s u:Ae}{t:Ae}(h:DO b m last s=some (some t,u)):t.length≤s.length:=by
 unfold DO at h
 cases m with
 | false=>cases h
 | true=>
  simp only[Yw] at h
  cases s with
  | nil=>cases h
  | cons c r=>
   simp only at h
   cases h1:decide (c=34) with
   | false=>rw[h1] at h;cases h
   | true=>
    rw[h1] at h;simp only[Yw] at h
    cases h2:Cm b r with
    | none=>rw[h2] at h;cases h
    | some q=>
     obtain⟨k,w⟩:=q;have:=M9 b _ r k w rfl h2;rw[h2] at h;simp only at h
     cases h3:(b&&!Bi true last (some k)) with
     | true=>rw[h3] at h;cases h
     | false=>
      rw[h3] at h;simp only[Yt] at h
      cases w with
      | nil=>cases h
      | cons d w'=>
       simp only at h
       cases h4:decide (d=58) with
       | false=>rw[h4] at h;cases h
       | true=>rw[h4] at h;cases h;simp only[Yu];omega
theorem TW (neg:Bool){d:Ae}(hd:d.all B7=true):BT .i64 (Iy neg d)=true:=by
 unfold Iy
 cases ha:decide (18<d.length) with
 | true=>
  cases neg with
  | true=>exact(by decide:BT .i64 (-2000000000000)=true)
  | false=>exact(by decide:BT .i64 2000000000000=true)
 | false=>
  simp only[Yr] at ha;have hb:=Vq hd (by omega)
  cases neg with
  | true=>exact JF (by simp only[Yt,Yw];omega) (by simp only[Yt,Yw];omega)
  | false=>exact JF (by simp only[Yt];omega) (by simp only[Yt];omega)
theorem T9 {m:Bool}{g:Fo}{K:Nat}(hg:∀c∈g.flat,HN K c)(hl:g.flat.length≤K):∀c∈(nd m g).flat,HN K c:=λc hc=>by
 rw[Im _ _ Hm] at hc;have hcf:=Cq g;rcases List.mem_cons.1 hc with rfl | hc
 ·exact⟨YU _,(by decide:BT .i64 0=true),by show(g.cnt:Int)≤K;omega⟩
 ·exact hg c hc
theorem Qt {f r:Fo}{K:Nat}{key:Option Ae}(ho:f.one=true)(hf:∀c∈f.flat,HN K c)(hr:∀c∈r.flat,HN K c)(hk:∀t,key=some t→t.length≤K):∀c∈(f.put key r).flat,HN K c:=λc hc=>by
 rw[Ej ho] at hc;rcases List.mem_append.1 hc with h | h
 ·cases key with
  | none=>cases h
  | some t=>
   have:c=⟨4,0,t,0⟩:=by simpa[Bs] using h
   subst this;exact⟨hk t rfl,(by decide:BT .i64 0=true),by show(0:Int)≤K;omega⟩
 ·rcases List.mem_append.1 h with h | h
  ·exact hf c h
  ·exact hr c h
theorem Kb (b:Bool)(K:Nat):∀F:Nat,(∀s f u,s.length≤K→E0 b F s=some (f,u)→∀c∈f.flat,HN K c)∧(∀m last s g u,s.length≤K→CR b F m last s=some (g,u)→∀c∈g.flat,HN K c)
 | 0=>⟨(λs f u _ h=>by rw[E0.eq_def] at h;cases h),(λm last s g u _ h=>by rw[CR.eq_def] at h;cases h)⟩
 | F+1=>by
  obtain⟨ih1,ih2⟩:=Kb b K F;have lfc:∀k i t,t.length≤K→BT .i64 i=true→∀c∈(lf k i t).flat,HN K c:=λk i t ht hi c hc=>by
   have:c=⟨k,i,t,0⟩:=by simpa[lf,Fo.flat,Bs] using hc
   subst this;exact⟨ht,hi,by show(0:Int)≤K;omega⟩
  constructor
  ·intro s f u hs h;rw[CQ] at h
   cases h1:pre [110,117,108,108] s with
   | some r=>rw[h1] at h;cases h;exact lfc _ _ _ (YU _) (by decide)
   | none=>
   rw[h1] at h;simp only at h
   cases h2:pre [116,114,117,101] s with
   | some r=>rw[h2] at h;cases h;exact lfc _ _ _ (YU _) (by decide)
   | none=>
   rw[h2] at h;simp only at h
   cases h3:pre [102,97,108,115,101] s with
   | some r=>rw[h3] at h;cases h;exact lfc _ _ _ (YU _) (by decide)
   | none=>
   rw[h3] at h;simp only at h
   cases s with
   | nil=>cases h
   | cons c r=>
   simp only[Yu] at hs;simp only at h
   cases h4:decide (c=34) with
   | true=>
    rw[h4] at h;simp only[Yw] at h
    cases h5:Cm b r with
    | none=>rw[h5] at h;cases h
    | some q=>
     obtain⟨t,w⟩:=q;rw[h5] at h;cases h;have:=M9 b _ r t u rfl h5;exact lfc _ _ _ (by omega) (by decide)
   | false=>
   rw[h4] at h;simp only[Yt] at h
   cases h5:(decide (c=91)||decide (c=123)) with
   | false=>
    rw[h5] at h;simp only[Yt] at h;unfold GS at h;simp only at h
    cases hc:Ee (decide ((c::r).head? =some 45)) (Cc (bif decide ((c::r).head? =some 45) then(c::r).tail else c::r)).1 with
    | false=>rw[hc] at h;cases h
    | true=>
     rw[hc] at h;cases h;exact lfc 3 _ [] (YU _) (TW _ (JN _))
   | true=>
   rw[h5] at h;simp only[Yw] at h
   cases r with
   | nil=>cases h
   | cons d r'=>
   simp only at h
   cases h6:decide (d=B6 (decide (c=123))) with
   | true=>rw[h6] at h;cases h;exact T9 (λc hc=>by cases hc) (YU _)
   | false=>
   rw[h6] at h;simp only[Yt] at h
   cases h7:CR b F (decide (c=123)) none (d::r') with
   | none=>rw[h7] at h;cases h
   | some q=>
    obtain⟨g,w⟩:=q;rw[h7] at h;cases h;have:=(GN b F).2 _ _ _ _ _ h7;exact T9 (ih2 _ _ _ _ _ (by omega) h7) (by omega)
  ·intro m last s g u hs h;rw[CE] at h
   cases h1:DO b m last s with
   | none=>rw[h1] at h;cases h
   | some q=>
   obtain⟨key,s1⟩:=q;have l1:=OK h1;have hkt:∀t,key=some t→t.length≤K:=λt e=>by subst e;have:=RS h1;omega
   rw[h1] at h;simp only at h
   cases h2:E0 b F s1 with
   | none=>rw[h2] at h;cases h
   | some q=>
   obtain⟨f,s2⟩:=q;obtain⟨l2,o2⟩:=(DG b F).1 _ _ _ h2;have hf:=ih1 _ _ _ (by omega) h2;rw[h2] at h;simp only at h
   cases s2 with
   | nil=>cases h
   | cons c s3=>
   simp only[Yu] at l2;simp only at h
   cases h3:decide (c=B6 m) with
   | true=>rw[h3] at h;cases h;exact Qt o2 hf (λc hc=>by cases hc) hkt
   | false=>
   rw[h3] at h;simp only[Yt] at h
   cases h4:decide (c=44) with
   | false=>rw[h4] at h;cases h
   | true=>
   rw[h4] at h;simp only[Yw] at h
   cases h5:CR b F m key s3 with
   | none=>rw[h5] at h;cases h
   | some q=>
    obtain⟨g',w⟩:=q;rw[h5] at h;cases h;exact Qt o2 hf (ih2 _ _ _ _ _ (by omega) h5) hkt
theorem Ud:∀l:List Aa,l.any BE=false→l.map Cg=l
 | [],_=>rfl
 | c::l,h=>by
  simp only[List.any_cons,YM] at h;simp only[YV,Ud l h.2,Cg,h.1,Yt]
def JO (s:Ae):Option (List Aa×Int):=
 bif decide (4000<s.length) then some ([],3) else match E0 true 10000 s with
  | some (f,[])=>some (bif decide (Gl f=0) then(f.flat,0) else([],Gl f))
  | _=>some ([],1)
theorem Mo (s:Ae):Ai.mk s 0 [] false=CG s s [] false:=by simp[CG]
theorem Ug {f:Fo}(h:f.flat.any BE=true):Gl f=2:=by unfold Gl;rw[h];rfl
theorem Oh {F:Nat}(hF:20000≤F){s:Ae}:Jk F s=JO s:=by
 unfold Jk JO;have a1:decide ((4000:Int)<(s.length:Int))=decide (4000<s.length):=by rw[Y9];simp;omega
 rw[a1]
 cases h4:decide (4000<s.length) with
 | true=>rfl
 | false=>
  simp only[Yr] at h4;rw[A8 rfl,Mo];simp only[Yt];rcases Pp (S:=s) (by omega) (F:=F) (P:=10000) (by omega) (by omega) with⟨f,w,q1,q2,q3⟩ | ⟨q1,q',q2⟩
  ·rw[q3,q1,AC rfl,A8 (p:=!true) rfl];obtain⟨_,hone⟩:=(DG true 10000).1 _ _ _ q1;have hwl:=q2.len;have hcells:=(Kb true 4000 10000).1 _ _ _ (by omega) q1;have hfl:=(GN true 10000).1 _ _ _ q1;unfold Ey;have hat:(true,CG s w ([]++f.flat.map Cg) (false||f.flat.any BE)).2.fAt=(s.length:Int)-w.length:=rfl;rw[hat]
   cases w with
   | cons c w'=>
    have hd:decide ((s.length:Int)-(c::w').length=(s.length:Int))=false:=Yx (by simp only[Yu];omega);rw[hd];rfl
   | nil=>
    have hd:decide ((s.length:Int)-([]:Ae).length=(s.length:Int))=true:=Y0 (by simp);rw[hd,A8 (p:=!true) rfl]
    change _=some (bif decide (Gl f=0) then(f.flat,0) else([],Gl f))
    have hgr:(true,CG s [] ([]++f.flat.map Cg) (false||f.flat.any BE)).2.fGreat=f.flat.any BE:=rfl;have hce:(true,CG s [] ([]++f.flat.map Cg) (false||f.flat.any BE)).2.fCells=f.flat.map Cg:=rfl;rw[hgr,hce]
    cases ho:f.flat.any BE with
    | true=>rw[Ug ho];rfl
    | false=>
     rw[A8 rfl,Ud _ ho];have hA:JS 4000 f.flat:=⟨by decide,by omega,λc hc=>by obtain⟨c1,c2,c3⟩:=hcells c hc;exact⟨c1,c2,by omega⟩⟩
     have hwf:f.wf false none=true:=by
      have:=((N4 10000).1 s).1;rw[q1] at this
      cases hp:E0 false 10000 s with
      | none=>rw[hp] at this;cases this
      | some q=>
       obtain⟨f',u'⟩:=q;rw[hp] at this;simp only at this
       cases hw:f'.wf false none with
       | false=>rw[hw] at this;cases this
       | true=>rw[hw] at this;cases this;exact hw
     have hev:Kj f.flat=Gl f:=by unfold Kj;rw[Lp hone hwf]
     unfold Jm;rw[Ia hA (by decide) (by omega),AC rfl,hev]
     cases decide (Gl f=0)<;>rfl
  ·rw[q2,q1];rfl
theorem Ik {x:Nat}(h:x<10):(UInt8.ofNat (48+x)).toNat=48+x:=by simp;omega
theorem MY {x:Nat}(h:x<10):B7 (UInt8.ofNat (48+x))=true:=by
 unfold B7;rw[Ik h];simp;omega
theorem ML (d:Ae)(c:UInt8)(a:Nat):Ca a (d++[c])=10*Ca a d+(c.toNat-48):=by simp[Ca]
theorem NF {u:Nat}(h:u<10):Lib.decDigits u=[UInt8.ofNat (48+u)]:=by rw[Lib.decDigits,dif_pos h]
theorem Uo {u:Nat}(h : ¬ u<10):Lib.decDigits u=Lib.decDigits (u/10)++[UInt8.ofNat (48+u % 10)]:=by
 rw[Lib.decDigits,dif_neg h]
theorem Ng:∀u:Nat,(Lib.decDigits u).all B7=true∧Lib.decDigits u≠[]∧Ca 0 (Lib.decDigits u)=u∧((Lib.decDigits u).head? =some 48→u=0):=by
 intro u
 induction u using Nat.strongRecOn with
 | ind u ih=>
  by_cases h:u<10
  ·rw[NF h];refine⟨by simp only[YT,List.all_nil,MY h,Bool.and_self],by simp,?_,?_⟩
   ·show 10*0+((UInt8.ofNat (48+u)).toNat-48)=u;rw[Ik h];omega
   ·intro e;simp only[List.head?_cons,Option.some.injEq] at e;have:=congrArg UInt8.toNat e;rw[Ik h] at this;have ha:(48:UInt8).toNat=48:=rfl;omega
  ·obtain⟨a,b,c,d⟩:=ih (u/10) (by omega);rw[Uo h];refine⟨by simp only[List.all_append,a,YT,List.all_nil,MY (show u % 10<10 by omega),Bool.and_self],by simp,?_,?_⟩
   ·rw[ML,c,Ik (by omega)];omega
   ·intro e
    cases hd:Lib.decDigits (u/10) with
    | nil=>exact absurd hd b
    | cons x r=>
     rw[hd] at e;have:=d (by rw[hd];simpa using e);omega
theorem LX:∀(n:Nat) (d:Ae),d.length=n→d.all B7=true→d≠[]→(d.head? =some 48→d.length=1)→Lib.decDigits (Ca 0 d)=d:=by
 intro n
 induction n with
 | zero=>intro d hn _ hne;exact absurd (YN hn) hne
 | succ n ih=>
  intro d hn ha hne hh;obtain⟨d',c,rfl⟩:∃d' c,d=d'++[c]:=⟨d.dropLast,d.getLast hne,(List.dropLast_concat_getLast hne).symm⟩
  rw[List.all_append] at ha;simp only[YT,List.all_nil,YB,Yv] at ha;have hc:48≤c.toNat∧c.toNat≤57:=by have:=ha.2;simp[B7] at this;omega
  have ec:UInt8.ofNat (48+(c.toNat-48))=c:=by rw[show 48+(c.toNat-48)=c.toNat from by omega];simp
  rw[ML]
  cases hd:d' with
  | nil=>
   show Lib.decDigits (10*0+(c.toNat-48))=[c];rw[NF (by omega),show 48+(10*0+(c.toNat-48))=48+(c.toNat-48) from by omega,ec]
  | cons x r=>
   rw[← hd];have hne':d'≠[]:=by rw[hd];simp
   have h1:d'.head?≠some 48:=λe=>by
    have:=hh (by rw[hd] at e ⊢;simpa using e);rw[hd] at this;simp at this
   have ih':=ih d' (by simp at hn;omega) ha.1 hne' (λe=>absurd e h1);have hpos:1≤Ca 0 d':=by
    rw[hd];show 1≤Ca (10*0+(x.toNat-48)) r;have hx:48≤x.toNat∧x.toNat≤57:=by have:=ha.1;rw[hd] at this;simp[B7] at this;omega
    have hx2:x.toNat≠48:=λe=>h1 (by rw[hd];simp;rw[← Zl];exact e);exact Nat.le_trans (by omega) (GP r _)
   rw[Uo (by omega),show(10*Ca 0 d'+(c.toNat-48))/10=Ca 0 d' from by omega,show(10*Ca 0 d'+(c.toNat-48)) % 10=c.toNat-48 from by omega,ih',ec]
theorem LW:∀(d w:Ae),d.all B7=true→(∀c r,w=c::r→B7 c=false)→Cc (d++w)=(d,w)
 | [],w,_,hw=>by
  cases w with
  | nil=>rfl
  | cons c r=>simp[Cc,hw c r rfl]
 | c::d,w,ha,hw=>by
  simp only[YT,Yv] at ha;simp[Cc,ha.1,LW d w ha.2 hw]
theorem RY {n:Int}{w:Ae}(h0 : -1000000000000≤n)(h1:n≤1000000000000)(hw:∀c r,w=c::r→B7 c=false):GS (Lib.itoa n++w)=some (.cell none ⟨3,n,[],0⟩ .nil,w):=by
 have key:∀(u:Nat) (neg:Bool),u≤1000000000000→(neg=true→1≤u)→GS (EK neg (Lib.decDigits u)++w)=some (.cell none ⟨3,bif neg then -(u:Int) else u,[],0⟩ .nil,w):=λu neg hu hneg=>by
  obtain⟨a,b,c,d⟩:=Ng u;have hl:(Lib.decDigits u).length≤18:=by
   cases hdd:Lib.decDigits u with
   | nil=>simp
   | cons x r=>
    by_cases ha:(x::r).length≤18
    ·exact ha
    ·exfalso;have hx:48≤x.toNat∧x.toNat≤57:=by rw[hdd] at a;simp[B7] at a;omega
     have hr:18≤r.length:=by simp only[Yu] at ha;omega
     by_cases hb:x=48
     ·have:=d (by rw[hdd,hb];rfl);subst this;have e0:Lib.decDigits 0=[UInt8.ofNat 48]:=NF (by omega);rw[e0] at hdd;cases hdd;simp at hr
     ·have hx2:x.toNat≠48:=λe=>hb (by rw[← Zl];exact e);rw[hdd] at c;have c':Ca (10*0+(x.toNat-48)) r=u:=c;have:=O8 r (10*0+(x.toNat-48)) (by omega);have h2:10 ^ 18≤10 ^ r.length:=Nat.pow_le_pow_right (by omega) hr;omega
  have hhead:∀(x:UInt8) (r:Ae),Lib.decDigits u=x::r→x≠45:=λx r e=>by
   rw[e] at a;intro e2;subst e2;simp[B7] at a
  have hcan:Ee neg (Lib.decDigits u)=true:=by
   unfold Ee;have e1:decide (Lib.decDigits u=[])=false:=Yx b;rw[e1]
   by_cases hh:(Lib.decDigits u).head? =some 48
   ·have hu0:=d hh;subst hu0;have:neg=false:=by cases neg with
     | false=>rfl
     | true=>have:=hneg rfl;omega
    subst this;rw[NF (by omega)];rfl
   ·rw[Yx hh];rfl
  have hv:Iy neg (Lib.decDigits u)=bif neg then -(u:Int) else u:=by
   have hn:Mu (Lib.decDigits u)=(u:Int):=by
    have:=HD (Lib.decDigits u) 0 a;rw[c] at this;exact this
   unfold Iy;rw[Yx (by omega),hn];rfl
  unfold GS EK
  cases neg with
  | true=>
   have e1:decide ((45::(Lib.decDigits u++w)).head? =some 45)=true:=rfl;simp only[Yw,Zb,e1,List.tail_cons,LW _ _ a hw,hcan,hv]
  | false=>
   have e1:decide ((((bif false then 45::Lib.decDigits u else Lib.decDigits u)++w).head?)=some 45)=false:=by
    cases hdd:Lib.decDigits u with
    | nil=>exact absurd hdd b
    | cons x r=>simp[hhead x r hdd]
   simp only[Yt] at e1;simp only[Yt,e1,LW _ _ a hw,hcan,hv,Yw]
 by_cases hneg:n<0
 ·have e:Lib.itoa n=EK true (Lib.decDigits n.natAbs):=by
   have:=Lib.itoa_neg n.natAbs (by omega);rw[show -(n.natAbs:Int)=n from by omega] at this;rw[this];rfl
  have:=key n.natAbs true (by omega) (λ_=>by omega);rw[e,this];show some (Fo.cell none ⟨3,-(n.natAbs:Int),[],0⟩ .nil,w)=_;rw[show -(n.natAbs:Int)=n from by omega]
 ·have e:Lib.itoa n=EK false (Lib.decDigits n.natAbs):=by
   have:=Lib.itoa_nonneg n.natAbs;rw[show(n.natAbs:Int)=n from by omega] at this;rw[this];rfl
  have:=key n.natAbs false (by omega) (λh=>by cases h);rw[e,this];show some (Fo.cell none ⟨3,(n.natAbs:Int),[],0⟩ .nil,w)=_;rw[show(n.natAbs:Int)=n from by omega]
theorem RZ {s u:Ae}{f:Fo}(h:GS s=some (f,u)):∃n,f = .cell none ⟨3,n,[],0⟩ .nil∧(BE ⟨3,n,[],0⟩=false→s=Lib.itoa n++u):=by
 unfold GS at h;simp only at h;have key:∀(neg:Bool) (r:Ae),s=(bif neg then 45::r else r)→Ee neg (Cc r).1=true→BE ⟨3,Iy neg (Cc r).1,[],0⟩=false→s=Lib.itoa (Iy neg (Cc r).1)++(Cc r).2:=λneg r es hcan hout=>by
  have hd:=JN r;have he:=Lg r;generalize(Cc r).1=d at *;generalize(Cc r).2=w at *;unfold Ee at hcan;simp only[Yv,YC,Yr] at hcan;obtain⟨hne,hz⟩:=hcan;have hl:d.length≤18:=by
   by_cases ha:d.length≤18
   ·exact ha
   ·exfalso;unfold Iy at hout;rw[Y0 (by omega)] at hout
    cases neg<;>simp[BE] at hout
  have hn:Iy neg d=bif neg then -(Ca 0 d:Int) else(Ca 0 d:Int):=by
   have:=HD d 0 hd;unfold Iy;rw[Yx (by omega)];show(bif neg then -(Mu d) else Mu d)=_;rw[show Mu d=(Ca 0 d:Int) from this]
  have hback:=LX d.length d rfl hd hne (λe=>by
   cases h1:decide (1<d.length) with
   | true=>rw[Y0 e,h1] at hz;simp at hz
   | false=>
    simp only[Yr] at h1
    cases d with
    | nil=>exact absurd rfl hne
    | cons x y=>simp only[Yu] at h1 ⊢;omega)
  rw[hn]
  cases neg with
  | true=>
   have hpos:1≤Ca 0 d:=by
    cases d with
    | nil=>exact absurd rfl hne
    | cons x y=>
     have hx:48≤x.toNat∧x.toNat≤57:=by simp[B7] at hd;omega
     have hx2:x.toNat≠48:=λe=>by
      have:x=48:=by rw[← Zl];exact e
      rw[this] at hz;simp at hz
     show 1≤Ca (10*0+(x.toNat-48)) y;exact Nat.le_trans (by omega) (GP y _)
   have:=Lib.itoa_neg (Ca 0 d) hpos;simp only[Yw] at es ⊢;rw[this,hback,es,Zb,← he]
  | false=>
   have:=Lib.itoa_nonneg (Ca 0 d);simp only[Yt] at es ⊢;rw[this,hback,es,← he]
 cases hneg:decide (s.head? =some 45) with
 | true=>
  rw[hneg] at h;simp only[Yw] at h
  cases hcan:Ee true (Cc s.tail).1 with
  | false=>rw[hcan] at h;cases h
  | true=>
   rw[hcan] at h;simp only[Yw,Option.some.injEq,Prod.mk.injEq] at h;obtain⟨rfl,rfl⟩:=h;refine⟨_,rfl,λhout=>key true s.tail ?_ hcan hout⟩
   cases s with
   | nil=>simp at hneg
   | cons c r=>
    simp at hneg;subst hneg;rfl
 | false=>
  rw[hneg] at h;simp only[Yt] at h
  cases hcan:Ee false (Cc s).1 with
  | false=>rw[hcan] at h;cases h
  | true=>
   rw[hcan] at h;simp only[Yw,Option.some.injEq,Prod.mk.injEq] at h;obtain⟨rfl,rfl⟩:=h;exact⟨_,rfl,λhout=>key false s rfl hcan hout⟩
theorem L4:∀(s w:Ae),s.all Iw=true→Cm true (Ef s++34::w)=some (s,w)
 | [],w,_=>by
  show Cm true (34::w)=_;rw[CV];rfl
 | c::s,w,ha=>by
  simp only[YT,Yv] at ha;have ih:=L4 s w ha.2;have e:Ef (c::s)=(bif (decide (c=34)||decide (c=92)) then[92,c] else[c])++Ef s:=by simp[Ef]
  rw[e]
  cases hq:(decide (c=34)||decide (c=92)) with
  | true=>
   simp only[Yw,Zb,Zf];rw[CV,show decide ((92:UInt8)=34)=false from by decide,show(true&&!Iw 92)=false from by decide,show decide ((92:UInt8)=92)=true from by decide];simp only[Yt,Yw,hq,ih]
  | false=>
   simp only[Yt,Zb,Zf];simp only[YM] at hq;rw[CV,hq.1,ha.1,hq.2];simp only[Y3,YF,Yt,ih]
theorem MA:∀(n:Nat) (s t u:Ae),s.length=n→Cm true s=some (t,u)→s=Ef t++34::u:=by
 intro n
 induction n using Nat.strongRecOn with
 | ind n ih=>
  intro s t u hn h
  cases s with
  | nil=>cases h
  | cons c r=>
   simp only[Yu] at hn;rw[CV] at h
   cases h1:decide (c=34) with
   | true=>
    rw[h1] at h;cases h;rw[YG h1];rfl
   | false=>
    rw[h1] at h;simp only[Yt] at h
    cases h2:(true&&!Iw c) with
    | true=>rw[h2] at h;cases h
    | false=>
     rw[h2] at h;simp only[Yt] at h
     cases h3:decide (c=92) with
     | true=>
      rw[h3] at h
      cases r with
      | nil=>cases h
      | cons d r'=>
       simp only[Yw] at h
       cases h4:(decide (d=34)||decide (d=92)) with
       | false=>rw[h4] at h;cases h
       | true=>
        rw[h4] at h;simp only[Yw] at h
        cases h5:Cm true r' with
        | none=>rw[h5] at h;cases h
        | some q=>
         obtain⟨t',u'⟩:=q;rw[h5] at h;cases h;simp only[Yu] at hn;have:=ih r'.length (by omega) r' t' u rfl h5;rw[YG h3,this];simp[Ef,h4]
     | false=>
      rw[h3] at h;simp only[Yt] at h
      cases h5:Cm true r with
      | none=>rw[h5] at h;cases h
      | some q=>
       obtain⟨t',u'⟩:=q;rw[h5] at h;cases h;have:=ih r.length (by omega) r t' u rfl h5;rw[this];simp only[Yr] at h1 h3;simp[Ef,h1,h3]
theorem Ou {s:Ae}(h:B1 s=0):Lib.itoa (Bn s)=s:=by
 unfold B1 at h;unfold Bn
 cases hd:IX s with
 | false=>rw[hd] at h;simp at h
 | true=>
  simp only[hd,Zk] at h ⊢;have hdec:=hd;simp only[IX,Yv,YC,YM,Yr] at hdec;obtain⟨⟨hne,hz⟩,hall⟩:=hdec;rw[Kq] at hall
  cases hs:s with
  | nil=>subst hs;exact absurd (show G5 []=[] by simp[G5,L7]) hne
  | cons c r=>
   subst hs
   by_cases hc:c=45
   ·subst hc;have hdg:G5 (45::r)=r:=by simp[G5,L7,Be]
    rw[hdg] at hne hall hz;have he:Be r 0≠48:=by
     intro e;rw[e] at hz;simp at hz
    rw[Lib.atoiAll_minus] at h ⊢;have hpm:Lib.parseMag r=Lib.parseUint10 0 r:=by unfold Lib.parseMag;rw[YW hne]
    rw[hpm] at h ⊢;have hpos:1≤Ca 0 r:=by
     cases r with
     | nil=>exact absurd rfl hne
     | cons x y=>
      have hx:48≤x.toNat∧x.toNat≤57:=by simp[B7] at hall;omega
      have hx2:x.toNat≠48:=λe=>he (by show((x.toNat:Nat):Int)=48;omega);show 1≤Ca (10*0+(x.toNat-48)) y;exact Nat.le_trans (by omega) (GP y _)
    rcases N3 r 0 hall with e | ⟨e,_⟩
    ·rw[e] at h ⊢;simp only[Lib.signed] at h ⊢
     by_cases hbig:9223372036854775808<Ca 0 r
     ·rw[Zd hbig] at h;simp at h
     ·rw[YW hbig] at h ⊢;simp only at h ⊢
      cases hv:Di (-(Ca 0 r:Int)) with
      | false=>rw[hv] at h;simp at h
      | true=>
       rw[Zd rfl,Lib.itoa_neg _ hpos,LX r.length r rfl hall hne (λha=>?_)]
       cases r with
       | nil=>exact absurd rfl hne
       | cons x y=>
        simp only[List.head?_cons,Option.some.injEq] at ha;subst ha;exact absurd rfl he
    ·rw[e] at h;simp[Lib.signed] at h
   ·have hb : ¬ Be (c::r) 0=45:=by
     intro e;exact hc (UInt8.toNat_inj.1 (by have:((c.toNat:Nat):Int)=45:=e;simp;omega))
    have hdg:G5 (c::r)=c::r:=by simp[G5,L7,hb]
    rw[hdg] at hne hall hz;have hf:48≤c.toNat:=by simp[B7] at hall;omega
    rw[Lib.atoiAll_plain c r (by omega) (by omega)] at h ⊢;have hpm:Lib.parseMag (c::r)=Lib.parseUint10 0 (c::r):=by unfold Lib.parseMag;rw[YW hne]
    rw[hpm] at h ⊢;rcases N3 (c::r) 0 hall with e | ⟨e,_⟩
    ·rw[e] at h ⊢;simp only[Lib.signless] at h ⊢
     by_cases hbig:9223372036854775808≤Ca 0 (c::r)
     ·rw[Zd hbig] at h;simp at h
     ·rw[YW hbig] at h ⊢;simp only at h ⊢
      cases hv:Di (Ca 0 (c::r):Int) with
      | false=>rw[hv] at h;simp at h
      | true=>
       rw[Zd rfl,Lib.itoa_nonneg];refine LX (c::r).length (c::r) rfl hall hne (λha=>?_);simp only[List.head?_cons,Option.some.injEq] at ha;subst ha;have:Be (48::r) 0=48:=rfl;rw[this] at hz;simp only[decide_true,Y5,Bool.not_eq_false',Yq] at hz;rw[hz];rfl
    ·rw[e] at h;simp[Lib.signless] at h
theorem Ii {f:Fo}(h:f.one=true)(key:Option Ae)(r:Fo)(b:Bool):(f.put key r).txt b=CO b++(GZ key++(f.txt true++r.txt false)):=by
 cases f with
 | nil=>cases h
 | cell k c s=>cases k with
  | some _=>cases h
  | none=>cases s with
   | nil=>simp[Fo.put,Fo.txt,CO,GZ]
   | _=>cases h
 | node k c kids s=>cases k with
  | some _=>cases h
  | none=>cases s with
   | nil=>simp[Fo.put,Fo.txt,CO,GZ]
   | _=>cases h
theorem N1 {f:Fo}(h:f.one=true)(key:Option Ae)(r:Fo):(f.put key r).flat.any BE=(f.flat.any BE||r.flat.any BE):=by
 rw[Ej h,List.any_append,List.any_append,LO,Y7]
theorem PY {m:Bool}{last:Option Ae}{g:Fo}(hw:g.wf m last=true):g = .nil∨∃ (k:Option Ae) (f r:Fo),g=f.put k r∧f.one=true∧f.wf false none=true∧Bi m last k=true∧r.wf m k=true:=by
 cases g with
 | nil=>exact .inl rfl
 | cell k c r=>
  simp only[Fo.wf,Yv,YC] at hw;obtain⟨⟨⟨w1,w2⟩,w3⟩,w4⟩:=hw;exact .inr ⟨k,.cell none c .nil,r,rfl,rfl,Qf w2 w3,w1,w4⟩
 | node k c kids r=>
  simp only[Fo.wf,Yv,Yq] at hw;obtain⟨⟨⟨⟨⟨w1,w2⟩,w3⟩,w5⟩,w6⟩,w4⟩:=hw;exact .inr ⟨k,.node none c kids .nil,r,rfl,rfl,Qe w2 w3 w5 w6,w1,w4⟩
theorem SP {m:Bool}{last:Option Ae}{g:Fo}(hw:g.wf m last=true)(hn:g≠.nil):g.txt false=44::g.txt true:=by
 rcases PY hw with h | ⟨k,f,r,rfl,h1,_⟩
 ·exact absurd h hn
 ·rw[Ii h1,Ii h1];rfl
theorem TS {m:Bool}{last k:Option Ae}{w:Ae}(h:Bi m last k=true):DO true m last (GZ k++w)=some (k,w):=by
 cases k with
 | none=>
  have:m=false:=by simpa[Bi] using h
  subst this;rfl
 | some s=>
  have h':=h;simp only[Bi,Yv] at h;obtain⟨⟨h1,h2⟩,h3⟩:=h;subst h1;have e:GZ (some s)++w=34::(Ef s++34::(58::w)):=by simp[GZ,EL]
  rw[e];unfold DO;simp only[Yw,decide_true,L4 s (58::w) h2,h',Y3,YF,Yt]
theorem MW {m:Bool}{last k:Option Ae}{s w:Ae}(h:DO true m last s=some (k,w)):s=GZ k++w:=by
 unfold DO at h
 cases m with
 | false=>cases h;rfl
 | true=>
  simp only[Yw] at h
  cases s with
  | nil=>cases h
  | cons c r=>
   simp only at h
   cases h1:decide (c=34) with
   | false=>rw[h1] at h;cases h
   | true=>
    rw[h1] at h;simp only[Yw] at h
    cases h2:Cm true r with
    | none=>rw[h2] at h;cases h
    | some q=>
     obtain⟨t,u⟩:=q;have:=MA _ r t u rfl h2;rw[h2] at h;simp only at h
     cases h3:(true&&!Bi true last (some t)) with
     | true=>rw[h3] at h;cases h
     | false=>
      rw[h3] at h;simp only[Yt] at h
      cases u with
      | nil=>cases h
      | cons d u'=>
       simp only at h
       cases h4:decide (d=58) with
       | false=>rw[h4] at h;cases h
       | true=>
        rw[h4] at h;cases h;rw[YG h1,this,YG h4];simp[GZ,EL]
def WU (c:UInt8):Prop:=c=110∨c=116∨c=102∨c=34∨c=91∨c=123∨c=45∨B7 c=true
theorem MH {c:UInt8}(h:WU c)(m:Bool):decide (c=B6 m)=false:=by
 refine Yx λe=>?_;subst e
 cases m<;>revert h<;>unfold WU B7 B6<;>decide
theorem MX (n:Int):∃c r,Lib.itoa n=c::r∧(c=45∨B7 c=true):=by
 obtain⟨a,b,_,_⟩:=Ng n.natAbs
 by_cases hneg:n<0
 ·have:=Lib.itoa_neg n.natAbs (by omega);rw[show -(n.natAbs:Int)=n from by omega] at this;exact⟨45,_,this,.inl rfl⟩
 ·have:=Lib.itoa_nonneg n.natAbs;rw[show(n.natAbs:Int)=n from by omega] at this
  cases hd:Lib.decDigits n.natAbs with
  | nil=>exact absurd hd b
  | cons x r=>
   rw[hd] at a;simp only[YT,Yv] at a;exact⟨x,r,by rw[this,hd],.inr a.1⟩
theorem PK {c:Aa}:∃x r,D5 c=x::r∧WU x:=by
 unfold D5
 cases decide (c.fKind=1) with
 | true=>exact⟨_,_,rfl,.inl rfl⟩
 | false=>
 cases decide (c.fKind=2) with
 | true=>cases decide (c.fInt=1) with
  | true=>exact⟨_,_,rfl,.inr (.inl rfl)⟩
  | false=>exact⟨_,_,rfl,.inr (.inr (.inl rfl))⟩
 | false=>
 cases decide (c.fKind=3) with
 | true=>
  obtain⟨x,r,e,h⟩:=MX c.fInt;exact⟨x,r,e,by unfold WU;rcases h with h | h<;>simp[h]⟩
 | false=>
 cases decide (c.fKind=4) with
 | true=>exact⟨_,_,rfl,.inr (.inr (.inr (.inl rfl)))⟩
 | false=>cases decide (c.fKind=6) with
  | true=>exact⟨_,_,rfl,.inr (.inr (.inr (.inr (.inr (.inl rfl)))))⟩
  | false=>exact⟨_,_,rfl,.inr (.inr (.inr (.inr (.inl rfl))))⟩
theorem Tx {f:Fo}(h:f.one=true):∃x r,f.txt true=x::r∧WU x:=by
 cases f with
 | nil=>cases h
 | cell k c s=>cases k with
  | some _=>cases h
  | none=>cases s with
   | nil=>
    obtain⟨x,r,e,ho⟩:=PK (c:=c);exact⟨x,r,by simp[Fo.txt,CO,GZ,e],ho⟩
   | _=>cases h
 | node k c kids s=>cases k with
  | some _=>cases h
  | none=>cases s with
   | nil=>
    simp only[Fo.txt,CO,GZ,Yw,Zf,Zg];unfold Pc
    cases decide (c.fKind=6) with
    | true=>exact⟨_,_,rfl,.inr (.inr (.inr (.inr (.inr (.inl rfl)))))⟩
    | false=>exact⟨_,_,rfl,.inr (.inr (.inr (.inr (.inl rfl))))⟩
   | _=>cases h
theorem SQ {m:Bool}{last:Option Ae}{g:Fo}(hw:g.wf m last=true)(hn:g≠.nil):∃x r,g.txt true=x::r∧WU x:=by
 rcases PY hw with h | ⟨k,f,r,rfl,h1,_⟩
 ·exact absurd h hn
 ·rw[Ii h1]
  cases k with
  | none=>
   obtain⟨x,y,e,ho⟩:=Tx h1;exact⟨x,y++r.txt false,by simp[CO,GZ,e],ho⟩
  | some s=>exact⟨34,_,by simp[CO,GZ,EL];rfl,.inr (.inr (.inr (.inl rfl)))⟩
theorem P8 {a b:UInt8}{x y:Ae}(h:a≠b):pre (a::x) (b::y)=none:=by
 rw[pre,Yx h];rfl
theorem Ij {F:Nat}{c:UInt8}{r:Ae}(h1:c≠110)(h2:c≠116)(h3:c≠102):E0 true (F+1) (c::r) =
  bif decide (c=34) then(match Cm true r with
   | none=>none
   | some (t,u)=>some (lf 4 0 t,u)) else
  bif decide (c=91)||decide (c=123) then(match r with
   | []=>none
   | d::r'=>bif decide (d=B6 (decide (c=123))) then some (nd (decide (c=123)) .nil,r') else(match CR true F (decide (c=123)) none (d::r') with
    | none=>none
    | some (g,u)=>some (nd (decide (c=123)) g,u))) else
  GS (c::r):=by
 rw[CQ,P8 (Ne.symm h1),P8 (Ne.symm h2),P8 (Ne.symm h3)];rfl
theorem Tv {F:Nat}{c:Aa}{w:Ae}(hp:pl c=true)(hn:decide (0<c.fN)=false)(ho:BE c=false)(hw:∀x r,w=x::r→B7 x=false):E0 true (F+1) (D5 c++w)=some (.cell none c .nil,w):=by
 have hN:=Tr hp;have h0:c.fN=0:=by simp only[Yr] at hn;omega
 cases c with
 | mk k n s N=>
 simp only at h0;subst h0;unfold D5
 by_cases k1:k=1
 ·subst k1;simp[pl] at hp;obtain⟨rfl,rfl⟩:=hp;show E0 true (F+1) ([110,117,108,108]++w)=_;rw[CQ,Jz];rfl
 by_cases k2:k=2
 ·subst k2;simp[pl] at hp;obtain⟨hb,rfl⟩:=hp;rcases hb with rfl | rfl
  ·show E0 true (F+1) ([102,97,108,115,101]++w)=_;rw[CQ,Jz];rfl
  ·show E0 true (F+1) ([116,114,117,101]++w)=_;rw[CQ,Jz];rfl
 by_cases k3:k=3
 ·subst k3;simp[pl] at hp;subst hp;show E0 true (F+1) (Lib.itoa n++w)=_;obtain⟨x,r,e,hx⟩:=MX n;have hx2:45≤x.toNat∧x.toNat≤57:=by
   rcases hx with rfl | hx
   ·decide
   ·simp[B7] at hx;omega
  have hne:∀y:UInt8,57<y.toNat∨y.toNat<45→x≠y:=λy hy e=>by subst e;omega
  rw[e,Zb,Ij (hne 110 (by decide)) (hne 116 (by decide)) (hne 102 (by decide)),Yx (hne 34 (by decide)),Yx (hne 91 (by decide)),Yx (hne 123 (by decide))];simp only[Bool.or_self,Yt];rw[← Zb,← e];simp[BE] at ho;exact RY (by omega) (by omega) hw
 by_cases k4:k=4
 ·subst k4;simp[pl] at hp;obtain⟨rfl,hs⟩:=hp;have e:(bif decide ((4:Int)=1) then([110,117,108,108]:Ae) else bif decide ((4:Int)=2) then(bif decide ((0:Int)=1) then[116,114,117,101] else[102,97,108,115,101]) else bif decide ((4:Int)=3) then Lib.itoa 0 else bif decide ((4:Int)=4) then EL s else bif decide ((4:Int)=6) then[123,125] else[91,93])=EL s:=rfl;show E0 true (F+1) (EL s++w)=_;have e2:EL s++w=34::(Ef s++34::w):=by simp[EL]
  rw[e2,Ij (by decide) (by decide) (by decide),Y0 rfl];simp only[Yw];rw[L4 s w (by rw[YL];exact hs)];rfl
 by_cases k5:k=5
 ·subst k5;simp[pl] at hp;obtain⟨rfl,rfl⟩:=hp;show E0 true (F+1) (91::93::w)=_;rw[Ij (by decide) (by decide) (by decide)];rfl
 by_cases k6:k=6
 ·subst k6;simp[pl] at hp;obtain⟨rfl,rfl⟩:=hp;show E0 true (F+1) (123::125::w)=_;rw[Ij (by decide) (by decide) (by decide)];rfl
 exfalso;simp[pl,k1,k2,k3,k4,k5,k6] at hp
theorem Sk (m:Bool):B7 (B6 m)=false:=by cases m<;>decide
theorem UU:∀n:Nat,(∀f:Fo,f.flat.length=n→f.one=true→f.wf false none=true→f.flat.any BE=false→∀(F:Nat) (w:Ae),2*n≤F→(∀x r,w=x::r→B7 x=false)→E0 true F (f.txt true++w)=some (f,w))∧
  (∀(g:Fo) (m:Bool) (last:Option Ae),g.flat.length=n→g≠.nil→g.wf m last=true→g.flat.any BE=false→∀(F:Nat) (w:Ae),2*n+1≤F→CR true F m last (g.txt true++B6 m::w)=some (g,w)):=by
 intro n
 induction n using Nat.strongRecOn with
 | ind n ih=>
  have hP:∀f:Fo,f.flat.length=n→f.one=true→f.wf false none=true→f.flat.any BE=false→∀(F:Nat) (w:Ae),2*n≤F→(∀x r,w=x::r→B7 x=false)→E0 true F (f.txt true++w)=some (f,w):=by
   intro f hn h1 hw ho F w hF hd;have hl:=J3 h1;obtain⟨F,rfl⟩:∃K,F=K+1:=⟨F-1,by omega⟩
   cases f with
   | nil=>cases h1
   | cell k c s=>cases k with
    | some _=>cases h1
    | none=>cases s with
     | nil=>
      simp only[Fo.wf,Yv,YC] at hw;simp[Fo.flat,Bs] at ho;have e:(Fo.cell none c .nil).txt true=D5 c:=by simp[Fo.txt,CO,GZ]
      rw[e];exact Tv hw.1.1.2 hw.1.2 ho hd
     | _=>cases h1
   | node k c kids s=>cases k with
    | some _=>cases h1
    | none=>cases s with
     | nil=>
      simp only[Fo.wf,Yv,Yq] at hw;obtain⟨⟨⟨⟨⟨w1,w2⟩,w3⟩,w5⟩,w6⟩,w4⟩:=hw;have hfl:(Fo.node none c kids .nil).flat=c::kids.flat:=by simp[Fo.flat,Bs]
      rw[hfl] at hn ho;simp only[Yu] at hn;simp only[List.any_cons,YM] at ho;have hne:kids≠.nil:=λe=>by subst e;simp[Fo.cnt] at w5;omega
      obtain⟨x,r,ex,hx⟩:=SQ w6 hne;obtain⟨ha,hi,hs⟩:=La w2 w3;have e:(Fo.node none c kids .nil).txt true=Pc c (kids.txt true):=by simp[Fo.txt,CO,GZ]
      have ih2:=(ih kids.flat.length (by omega)).2 kids (decide (c.fKind=6)) none rfl hne w6 ho.2 F w (by omega);have hnd:nd (decide (c.fKind=6)) kids = .node none c kids .nil:=by
       unfold nd;rw[Yx (by omega)]
       cases c with
       | mk a1 a2 a3 a4=>
        simp only at ha hi hs w5 ⊢;subst hi;subst hs;subst w5;rcases ha with rfl | rfl<;>rfl
      rw[e];unfold Pc
      cases hm:decide (c.fKind=6) with
      | true=>
       rw[hm] at ih2 hnd;have e3:(bif true then 123::(kids.txt true++[125]) else 91::(kids.txt true++[93]))++w=(bif true then(123:UInt8) else 91)::(x::(r++125::w)):=by simp[ex]
       have ih3:CR true F true none (x::(r++125::w))=some (kids,w):=by rw[ex] at ih2;exact ih2
       rw[e3,PA,Ir,MH hx true,Yt,ih3];show some (nd true kids,w)=_;rw[hnd]
      | false=>
       rw[hm] at ih2 hnd;have e3:(bif false then 123::(kids.txt true++[125]) else 91::(kids.txt true++[93]))++w=(bif false then(123:UInt8) else 91)::(x::(r++93::w)):=by simp[ex]
       have ih3:CR true F false none (x::(r++93::w))=some (kids,w):=by rw[ex] at ih2;exact ih2
       rw[e3,PA,Ir,MH hx false,Yt,ih3];show some (nd false kids,w)=_;rw[hnd]
     | _=>cases h1
  refine⟨hP,?_⟩;intro g m last hn hne hw ho F w hF;rcases PY hw with h | ⟨k,f,r,rfl,h1,h2,h3,h4⟩
  ·exact absurd h hne
  obtain⟨F,rfl⟩:∃K,F=K+1:=⟨F-1,by omega⟩
  have hl:=J3 h1;rw[Ej h1,Yz,Yz] at hn;rw[N1 h1,YM] at ho;rw[Ii h1,CE];have e:(CO true++(GZ k++(f.txt true++r.txt false)))++B6 m::w=GZ k++(f.txt true++(r.txt false++B6 m::w)):=by simp[CO]
  rw[e,TS h3];simp only;have hpar:∀v:Ae,(∀x y,v=x::y→B7 x=false)→E0 true F (f.txt true++v)=some (f,v):=λv hv=>by
   rcases Nat.lt_or_ge f.flat.length n with hlt | hge
   ·exact(ih f.flat.length hlt).1 f rfl h1 h2 ho.1 F v (by omega) hv
   ·exact hP f (by omega) h1 h2 ho.1 F v (by omega) hv
  by_cases hr:r = .nil
  ·subst hr;rw[hpar _ (λx y e=>by simp[Fo.txt] at e;rw[← e.1];exact Sk m)];simp[Fo.txt]
  ·rw[SP h4 hr,Zb,hpar _ (λx y e=>by cases e;decide)];simp only;have hb:decide ((44:UInt8)=B6 m)=false:=by cases m<;>decide
   have:=(ih r.flat.length (by omega)).2 r m k rfl hr h4 ho.2 F w (by omega);rw[hb,this];rfl
theorem Ov:∀F:Nat,(∀s f u,E0 true F s=some (f,u)→f.flat.any BE=false→s=f.txt true++u)∧(∀m last s g u,CR true F m last s=some (g,u)→g.flat.any BE=false→s=g.txt true++B6 m::u)
 | 0=>⟨(λs f u h=>by rw[E0.eq_def] at h;cases h),(λm last s g u h=>by rw[CR.eq_def] at h;cases h)⟩
 | F+1=>by
  obtain⟨ih1,ih2⟩:=Ov F;obtain⟨pl1,pl2⟩:=DG true F;constructor
  ·intro s f u h ho;rw[CQ] at h
   cases h1:pre [110,117,108,108] s with
   | some r=>rw[h1] at h;cases h;rw[CL h1];rfl
   | none=>
   rw[h1] at h;simp only at h
   cases h2:pre [116,114,117,101] s with
   | some r=>rw[h2] at h;cases h;rw[CL h2];rfl
   | none=>
   rw[h2] at h;simp only at h
   cases h3:pre [102,97,108,115,101] s with
   | some r=>rw[h3] at h;cases h;rw[CL h3];rfl
   | none=>
   rw[h3] at h;simp only at h
   cases s with
   | nil=>cases h
   | cons c r=>
    simp only at h
    cases h4:decide (c=34) with
    | true=>
     rw[h4] at h;simp only[Yw] at h
     cases h5:Cm true r with
     | none=>rw[h5] at h;cases h
     | some q=>
      obtain⟨t,u'⟩:=q;rw[h5] at h;cases h;rw[YG h4,MA _ r t _ rfl h5];simp[lf,Fo.txt,CO,GZ,D5,EL]
    | false=>
    rw[h4] at h;simp only[Yt] at h
    cases h5:(decide (c=91)||decide (c=123)) with
    | true=>
     rw[h5] at h;simp only[Yw] at h;have hopen:∀x:Ae,(c::x)=(bif decide (c=123) then(123:UInt8) else 91)::x:=λx=>by
      cases h6:decide (c=123) with
      | true=>rw[YG h6];rfl
      | false=>rw[h6,YD] at h5;rw[YG h5];rfl
     rw[hopen];generalize decide (c=123)=m at *
     cases r with
     | nil=>cases h
     | cons d r'=>
      simp only at h
      cases h6:decide (d=B6 m) with
      | true=>
       rw[h6] at h;cases h;rw[YG h6]
       cases m<;>simp[nd,Fo.cnt,Fo.txt,CO,GZ,D5,B6]
      | false=>
       rw[h6] at h;simp only[Yt] at h
       cases h7:CR true F m none (d::r') with
       | none=>rw[h7] at h;cases h
       | some q=>
        obtain⟨g,u'⟩:=q;rw[h7] at h;cases h;have hc:=(pl2 _ _ _ _ _ h7).2;rw[Im _ _ Hm,List.any_cons,YM] at ho;rw[ih2 _ _ _ _ _ h7 ho.2];unfold nd;rw[Yx (by omega)]
        cases m<;>simp[Fo.txt,CO,GZ,Pc,B6]
    | false=>
     rw[h5] at h;simp only[Yt] at h;obtain⟨n,rfl,hb⟩:=RZ h;have ho':BE ⟨3,n,[],0⟩=false:=by simpa[Fo.flat,Bs] using ho
     rw[hb ho'];simp[Fo.txt,CO,GZ,D5]
  ·intro m last s g u h ho;rw[CE] at h
   cases h1:DO true m last s with
   | none=>rw[h1] at h;cases h
   | some q=>
    obtain⟨key,s1⟩:=q;rw[h1] at h;simp only at h
    cases h2:E0 true F s1 with
    | none=>rw[h2] at h;cases h
    | some q=>
     obtain⟨f,s2⟩:=q;have hone:=(pl1 _ _ _ h2).2;rw[h2] at h;simp only at h
     cases s2 with
     | nil=>cases h
     | cons c s3=>
      simp only at h
      cases h3:decide (c=B6 m) with
      | true=>
       rw[h3] at h;cases h;rw[N1 hone,YM] at ho;rw[MW h1,ih1 _ _ _ h2 ho.1,Ii hone,YG h3];simp[CO,Fo.txt]
      | false=>
       rw[h3] at h;simp only[Yt] at h
       cases h4:decide (c=44) with
       | false=>rw[h4] at h;cases h
       | true=>
        rw[h4] at h;simp only[Yw] at h
        cases h5:CR true F m key s3 with
        | none=>rw[h5] at h;cases h
        | some q=>
         obtain⟨g',w⟩:=q;rw[h5] at h;cases h;have hc:=(pl2 _ _ _ _ _ h5).2;rw[N1 hone,YM] at ho;have e5:=ih2 _ _ _ _ _ h5 ho.2;have e6:g'.txt false=44::g'.txt true:=by
          cases g' with
          | nil=>simp[Fo.cnt] at hc
          | cell k c r=>simp[Fo.txt,CO]
          | node k c kids r=>simp[Fo.txt,CO]
         rw[MW h1,ih1 _ _ _ h2 ho.1,Ii hone,YG h4,e5,e6];simp[CO]
open Go Go.RowKit
theorem LU {f:Fo}(h:Gl f=0):f.flat.any BE=false∧f.flat.any MQ=false∧f.flat.length≤200∧f.dep≤8∧(f.txt true).length≤4000:=by
 unfold Gl at h
 cases h1:f.flat.any BE with
 | true=>rw[h1] at h;cases h
 | false=>
  rw[h1] at h
  cases h2:(f.flat.any MQ||(decide (200<f.flat.length)||(decide (8<f.dep)||decide (4000<(f.txt true).length)))) with
  | true=>rw[h2] at h;cases h
  | false=>
   simp only[YM,Yr] at h2;exact⟨rfl,h2.1,by omega,by omega,by omega⟩
theorem V7 {f:Fo}(h1:f.one=true)(hw:f.wf false none=true)(he:Gl f=0):Kj f.flat=0:=by
 unfold Kj;rw[Lp h1 hw];exact he
theorem Wo {F:Nat}{s u:Ae}{f:Fo}(h:E0 true F s=some (f,u)):f.wf false none=true:=by
 have:=((N4 F).1 s).1;rw[h] at this
 cases h2:E0 false F s with
 | none=>rw[h2] at this;cases this
 | some q=>
  obtain⟨g,w⟩:=q;rw[h2] at this;simp only at this
  cases hw:g.wf false none with
  | true=>rw[hw] at this;cases this;exact hw
  | false=>rw[hw] at this;cases this
theorem V8 {v:List Aa}(h:(Iz v).2=0):JO (Iz v).1=some (v,0):=by
 unfold Iz at h ⊢
 cases hw:whole v with
 | none=>rw[hw] at h;cases h
 | some f=>
  rw[hw] at h;simp only at h
  cases he:decide (Gl f=0) with
  | false=>rw[he] at h;exact absurd h (of_decide_eq_false he)
  | true=>
   obtain⟨x1,x2,x3⟩:=Lo hw;obtain⟨h1,h2,h3,h4,h5⟩:=LU (YG he);have hp:=(UU f.flat.length).1 f rfl x3 x2 h1 10000 [] (by omega) (λx r e=>by cases e);rw[Zg] at hp;simp only[he];show JO (f.txt true)=_;unfold JO;rw[Yx (by omega),Yt,hp];simp only;rw[he,x1];rfl
theorem QR {s:Ae}{r:List Aa×Int}(h:JO s=some r)(h0:r.2=0):JS 4000 r.1∧Iz r.1=(s,0)∧Kj r.1=0:=by
 unfold JO at h
 cases h4:decide (4000<s.length) with
 | true=>rw[h4] at h;cases h;cases h0
 | false=>
  rw[h4] at h;simp only[Yr] at h4;simp only[Yt] at h
  cases hp:E0 true 10000 s with
  | none=>rw[hp] at h;cases h;cases h0
  | some q=>
   obtain⟨f,w⟩:=q;rw[hp] at h
   cases w with
   | cons _ _=>cases h;cases h0
   | nil=>
    simp only[Option.some.injEq] at h;subst h
    cases he:decide (Gl f=0) with
    | false=>rw[he] at h0;exact absurd h0 (of_decide_eq_false he)
    | true=>
     have hf:=YG he;have hw:=Wo hp;have hone:=((DG true 10000).1 _ _ _ hp).2;have hcells:=(Kb true 4000 10000).1 _ _ _ (by omega) hp;have hfl:=(GN true 10000).1 _ _ _ hp;obtain⟨h1,h2,h3,_⟩:=LU hf;have hb:=(Ov 10000).1 _ _ _ hp h1;rw[Zg] at hb;refine⟨⟨by decide,by show f.flat.length≤4000;omega,λc hc=>?_⟩,?_,V7 hone hw hf⟩
     ·obtain⟨a,b,c'⟩:=hcells c hc;exact⟨a,b,by omega⟩
     ·show Iz f.flat=_;unfold Iz;rw[Lp hone hw];simp only;rw[he,hb];rfl
theorem Sh (s:Ae):∃r,JO s=some r:=by
 unfold JO
 cases decide (4000<s.length) with
 | true=>exact⟨_,rfl⟩
 | false=>
  simp only[Yt]
  split<;>exact⟨_,rfl⟩
section
variable {M : Nat} {v : List Aa}
end
section
variable {T : Type}
end
end Go.Proofs.YtmmbdclkpijkpaaGreatDoor
