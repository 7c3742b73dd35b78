/-
  Texts of the proof, put together: WVc, PVd, WVd, PVe, WVe, PVf, WVf, PM, QT, QN, QU, QM, QK, PKa, QI, QW, Iter, QKs.
-/
import Derived.Test.YtjfnokmpfekniaaGreatDoorKR2
import Derived.Laws.StructEq
import Derived.Laws.Cover3
import Derived.MapKept
import Derived.Maps.RangeRun
import Derived.Sort.KeysCollected
import Derived.Shelf.SlIter.Nil
import Derived.Shelf.SortM.Plain
import Derived.Shelf.SortM.SortNone
import Derived.Test.YtjfnokmpfekniaaGreatDoorProg
namespace Go.Proofs.YtjfnokmpfekniaaGreatDoor.Q
open Go Go.RowKit
set_option linter.unusedVariables false
set_option linter.unusedSimpArgs false
set_option maxRecDepth 100000
set_option maxHeartbeats 4000000
theorem Oj (F:Nat) (b_l:Nat) (v_l:Value) (l:Ag) (s:Ag) (r:Ag) (h:KV F l s=some r):Fn Tryz.prog GE 121 [rP b_l 0,rS s] [.bld 112 5 b_l v_l l] (λR H=>∃w0b:Value,R=rv (.tuple #[])∧H=[.bld 112 5 b_l w0b r]):=by
 refine enter (n:=32) Tryz.func121 rfl Tryz.ntmps121 rfl (λw Z=>?_)
 unfold KV at h
 refine Ae (wm rfl (ck h λg1 h2=>ck h2 λg3 h4=>CI (rs:=[rP b_l 0,rI .u8 34]) (Hin:=[.bld 112 5 b_l v_l l]) (Hr:=[]) Jx rfl (List.Perm.refl _) (CC b_l v_l l 34 g1 g3) rfl ?_))
 rintro _ _ ⟨v5,rfl,rfl⟩
 refine bd h4 λr6 e8 h7=>?_
 rw[← e8]
 refine Ak (Ai (Ae (wm rfl (wv (AW BC rfl) (wv (r:=rI .i64 0) (Al rfl) (Ak (AB (ob h7 λho hp hq=>Bk (S:=Nat×(Int×Ag)×(Value)) (V:=(Ag)×(Value)) 0 (λσ=>BF (λσ=>DG s σ.1 σ.2) σ.1 σ.2.1=some ho) (λσ=>[(0,rP b_l 0),(1,rS s),(8,rI .i64 (s.length:Int)),(9,rI .i64 σ.2.1.1)]) (λσ=>[.bld 112 5 b_l σ.2.2 σ.2.1.2]) (λσ=>σ.1) (F,(0,r6),v5) hp (AC.c rfl (AC.c rfl (AC.c rfl (AC.c rfl AC.nil)))) (sC sN) (λσ=>Gh σ.1=some r) (λσ=>[(0,rP b_l 0)]) (λσ=>[.bld 112 5 b_l σ.2 σ.1]) ?_ ?_))))))))
 ·rintro⟨gd,⟨ha,hd⟩,he⟩ hr
  refine BO (l':=[(0,rP b_l 0),(1,rS s),(8,rI .i64 (s.length:Int)),(9,rI .i64 ha)]) (H':=[.bld 112 5 b_l he hd]) rfl rfl ?_
  obtain⟨hl,rfl,t127,hf,hj⟩:=Ce hr
  replace hf:DG s ha hd=some t127:=hf
  unfold DG at hf
  refine Ae (wv (BY rfl rfl) (Ak (Ai (cz hf rfl (λhs ht=>?_) (λhs hu=>?_)))))
  ·refine An (AF (Ai (AB (Ae (wm rfl (wa rfl (Ak (Ai (ck ht λhg hw=>A6 [(0,rP b_l 0),(1,rS s),(4,rI .i64 ha),(8,rI .i64 (s.length:Int)),(9,rI .i64 ha),(21,rB ((decide ((AK s ha)=34))||(decide ((AK s ha)=92))))] [.bld 112 5 b_l he hd] ?_ ?_)))))))))
   ·refine Af (wm rfl (wm rfl (wv (AO BC rfl rfl hg) (wv (Bx rfl rfl) (wm rfl (AI (decide ((AK s ha)=34)) (λhb=>?_) (λhb=>?_)))))))
    ·refine wf hb (wf hb (wf hb (wf hb (wv (r:=rB true) (Au rfl hb rfl) (Aj ?_)))))
     exact BM hb
    ·refine wo hb (wm rfl (wo hb (wm rfl (wo hb (wv (AO BC rfl rfl hg) (wo hb (wv (Bx rfl rfl) (DR rfl hb rfl (Aj ?_)))))))))
     exact BM hb
   refine cz hw rfl (λhx hy=>?_) (λhx hz=>?_)
   ·refine Af (wm rfl (ck hy λh0 h1=>ck h1 λh3 h5=>CI (rs:=[rP b_l 0,rI .u8 92]) (Hin:=[.bld 112 5 b_l he hd]) (Hr:=[]) Jx rfl (List.Perm.refl _) (CC b_l he hd 92 h0 h3) rfl ?_))
    rintro _ _ ⟨hm,rfl,rfl⟩
    refine bd h5 λhn h6 h8=>?_
    rw[← h6]
    refine Ak (Af (wm rfl (wm rfl (wm rfl (wv (AO BC rfl rfl hg) (ck h8 λh9 hA=>ck hA λhB hC=>CI (rs:=[rP b_l 0,rI .u8 (AK s ha)]) (Hin:=[.bld 112 5 b_l hm hn]) (Hr:=[]) Jx rfl (List.Perm.refl _) (CC b_l hm hn (AK s ha) h9 hB) rfl ?_))))))
    rintro _ _ ⟨hD,rfl,rfl⟩
    refine bd hC λhE hG hH=>?_
    rw[← hG]
    refine Aj (A8 (AF (Af (ck hH λhI hJ=>wv (AX rfl rfl hI) (wm rfl (Aj ?_))))))
    have hK:=Bb hJ hj
    exact Ar (A3 (hl,(ha+1,hE),hD) ⟨hK,AcL _⟩ (AC.c rfl (AC.c rfl (AC.c rfl (AC.c rfl AC.nil)))) (sC sN))
   ·refine An (AF (Af (wm rfl (wm rfl (wm rfl (wv (AO BC rfl rfl hg) (ck hz λhL hN=>ck hN λhO hP=>CI (rs:=[rP b_l 0,rI .u8 (AK s ha)]) (Hin:=[.bld 112 5 b_l he hd]) (Hr:=[]) Jx rfl (List.Perm.refl _) (CC b_l he hd (AK s ha) hL hO) rfl ?_)))))))
    rintro _ _ ⟨hQ,rfl,rfl⟩
    refine bd hP λhR hS hT=>?_
    rw[← hS]
    refine Aj (A8 (AF (Af (ck hT λhU hV=>wv (AX rfl rfl hU) (wm rfl (Aj ?_))))))
    have hW:=Bb hV hj
    exact Ar (A3 (hl,(ha+1,hR),hQ) ⟨hW,AcL _⟩ (AC.c rfl (AC.c rfl (AC.c rfl (AC.c rfl AC.nil)))) (sC sN))
  ·refine Bo (At ?_)
   have hX:=BI hu hj hq
   exact At (Bc (A3 (hd,he) hX (AC.c rfl AC.nil) (sC sN)))
 ·rintro⟨hh,hk⟩ hi
  refine Cf (l':=[(0,rP b_l 0)]) (H':=[.bld 112 5 b_l hk hh]) rfl rfl ?_
  replace hi:Gh hh=some r:=hi
  unfold Gh at hi
  refine AZ (AF (Af (wm rfl (ck hi λhY hZ=>CI (rs:=[rP b_l 0,rI .u8 34]) (Hin:=[.bld 112 5 b_l hk hh]) (Hr:=[]) Jx rfl (List.Perm.refl _) (CC b_l hk hh 34 hY g3) rfl ?_))))
  rintro _ _ ⟨ga,rfl,rfl⟩
  refine bd hZ λge gb gc=>?_
  rw[← gb]
  refine Aj ?_
  obtain rfl:=As gc
  exact HI (Vb Tryz.results121) (sC sN) ⟨ga,rfl,rfl⟩
theorem UL (F:Nat) (rec_vWriteF:Ag→(List Aa)→Bool→Ag→Aa→Option (Bool×Bool×Ag)) (rec_vWriteP:(List Aa)→Bool→Ag→Aa→Option (Bool×Ag)) (ih_vWriteF:(∀(b_first:Nat) (bx_l:Nat) (b_l:Nat) (v_l:Value) (b_c:Nat) (key:Ag) (x:(List Aa)) (first:Bool) (l:Ag) (c:Aa) (r:Bool×Bool×Ag),rec_vWriteF key x first l c=some r→Fn Tryz.prog GE 124 [rS key,AV 4 (List.map Ab x),rP b_first 0,rP bx_l 0,rP b_c 0] [.blk b_first [rB first] 4,.blk bx_l [rP b_l 0] 110,.bld 112 5 b_l v_l l,.blk b_c (Ab c) 78] (λR H=>∃w3b:Value,R=rB r.1∧H=[.blk b_first [rB r.2.1] 4,.blk bx_l [rP b_l 0] 110,.bld 112 5 b_l w3b r.2.2,.blk b_c (Ab c) 78]))) (ih_vWriteP:(∀(b_first:Nat) (bx_l:Nat) (b_l:Nat) (v_l:Value) (b_c:Nat) (v:(List Aa)) (first:Bool) (l:Ag) (c:Aa) (r:Bool×Ag),rec_vWriteP v first l c=some r→Fn Tryz.prog GE 123 [AV 4 (List.map Ab v),rv (.func (.func 124) #[] #[(.pointer (some ⟨b_first,0,none⟩)),(.pointer (some ⟨bx_l,0,none⟩)),(.pointer (some ⟨b_c,0,none⟩))])] [.blk b_first [rB first] 4,.blk bx_l [rP b_l 0] 110,.bld 112 5 b_l v_l l,.blk b_c (Ab c) 78] (λR H=>∃w1_1b:Value,R=rv (.tuple #[])∧H=[.blk b_first [rB r.1] 4,.blk bx_l [rP b_l 0] 110,.bld 112 5 b_l w1_1b r.2,.blk b_c (Ab c) 78]))) (b_l:Nat) (v_l:Value) (l:Ag) (v:(List Aa)) (r:Ag) (h:Ki F rec_vWriteF rec_vWriteP l v=some r):Fn Tryz.prog GE 87 [rP b_l 0,AV 4 (List.map Ab v)] [.bld 112 5 b_l v_l l] (λR H=>∃w0b:Value,R=rv (.tuple #[])∧H=[.bld 112 5 b_l w0b r]):=by
 refine enter (n:=52) Tryz.func87 rfl Tryz.ntmps87 rfl (λw Z=>?_)
 unfold Ki at h
 refine Ae (Aan rfl (Co rfl) rfl (λb1=>?_))
 refine Bf (wm rfl (ck h λg2 h3=>wv (Bh (enc:=Ab) (ys:=v) BP Ch rfl rfl g2) (wv (D1 Mx Ch rfl rfl rfl) (BT (cs:=[rI .i64 0,rI .i64 0,rS ([]:Ag),rI .i64 0]) EH rfl rfl (λb4=>?_)))))
 refine Bj (i:=0) Ch rfl rfl rfl (BE.c rfl) rfl rfl (cs':=[rI .i64 ((Am v 0).fKind),rI .i64 ((Am v 0).fInt),rS ((Am v 0).fStr),rI .i64 ((Am v 0).fN)]) rfl (H':=[.blk b4 (Ab (Am v 0)) 78,.blk b1 [rP b_l 0] 110,.bld 112 5 b_l v_l l]) rfl (Bf (vF B2 rfl Eh (vL 0 E3 rfl (Ak (AB (Ae (wv (Bx rfl rfl) (wa rfl (Ak (cz h3 rfl (λc5 h6=>?_) (λc5 hj=>?_)))))))))))
 ·refine Af (vL 1 Gg rfl (ck h6 λg7 h8=>CI (rs:=[rP b_l 0,rS ([110,117,108,108]:Ag)]) (Hin:=[.bld 112 5 b_l v_l l]) (Hr:=[.blk b4 (Ab (Am v 0)) 78,.blk b1 [rP b_l 0] 110]) Tryz.call120 rfl ((A5 (i:=2) rfl).trans (List.Perm.cons _ (List.Perm.refl _))) (Iu b_l v_l l ([110,117,108,108]:Ag) g7) rfl ?_))
  rintro _ _ ⟨v9,rfl,rfl⟩
  refine bd h8 λgw hk hl=>?_
  rw[← hk]
  refine Aj (A8 ?_)
  obtain rfl:=As hl
  exact HI (Vb UF) (sC (sS (sS sN))) ⟨v9,rfl,rfl⟩
 ·refine Ae (wv (Bx rfl rfl) (wa rfl (Ak (cz hj rfl (λhm hn=>?_) (λhm ho=>?_)))))
  ·refine ck hn λg16 hp=>Kg (H1:=[.blk b4 (Ab (Am v 0)) 78,.blk b1 [rP b_l 0] 110,.bld 112 5 b_l v_l l]) 6 [2,4] [⟨[],rP b_l 0,1⟩,⟨[],AV 1 (List.map eS ([([102,97,108,115,101]:Ag),([116,114,117,101]:Ag)]:List Ag)),0⟩,⟨[],rP b4 1,0⟩,⟨[2],rI .i64 ((Am v 0).fInt),1⟩,⟨[1,3],EL [rS (Am ([([102,97,108,115,101]:Ag),([116,114,117,101]:Ag)]:List Ag) ((Am v 0).fInt))],0⟩,⟨[4],rS (Am ([([102,97,108,115,101]:Ag),([116,114,117,101]:Ag)]:List Ag) ((Am v 0).fInt)),0⟩] (rle [(7,_)]) [32,33,34,35,36,37,2,4] ?_ ?_
   ·refine of (Bp (i:=1) Gg rfl rfl rfl) (Ee rfl (λH=>EM (ys:=([([102,97,108,115,101]:Ag),([116,114,117,101]:Ag)]:List Ag)) (enc:=eS) (css:=[[rS ([102,97,108,115,101]:Ag)],[rS ([116,114,117,101]:Ag)]]) (xs:=[.const (.string ⟨#[102,97,108,115,101]⟩),.const (.string ⟨#[116,114,117,101]⟩)]) Cn CD Wj rfl rfl rfl ⟨Eb.one rfl (Up.refl _),Eb.one rfl (Up.refl _),trivial⟩ rfl Ed rfl rfl) ?_)
    refine oq (AH B2 rfl Cq rfl rfl) (of (Bp (i:=0) CU rfl rfl rfl) (oq (Bh (enc:=eS) (ys:=([([102,97,108,115,101]:Ag),([116,114,117,101]:Ag)]:List Ag)) Cn CD rfl rfl g16) (oq (AY Dm rfl rfl) ?_)))
    exact Cj
   refine ck hp λg18 hq=>CI (rs:=[rP b_l 0,rS (Am ([([102,97,108,115,101]:Ag),([116,114,117,101]:Ag)]:List Ag) ((Am v 0).fInt))]) (Hin:=[.bld 112 5 b_l v_l l]) (Hr:=[.blk b4 (Ab (Am v 0)) 78,.blk b1 [rP b_l 0] 110]) Tryz.call120 rfl ((A5 (i:=2) rfl).trans (List.Perm.cons _ (List.Perm.refl _))) (Iu b_l v_l l (Am ([([102,97,108,115,101]:Ag),([116,114,117,101]:Ag)]:List Ag) ((Am v 0).fInt)) g18) rfl ?_
   rintro _ _ ⟨v20,rfl,rfl⟩
   refine bd hq λgx hr hs=>?_
   rw[← hr]
   refine Aj (A8 ?_)
   obtain rfl:=As hs
   exact HI (Vb UF) (sC (sS (sS sN))) ⟨v20,rfl,rfl⟩
  ·refine Ae (wv (Bx rfl rfl) (wa rfl (Ak (cz ho rfl (λht hu=>?_) (λht hw=>?_)))))
   ·refine ck hu λhx hy=>Kg (H1:=[.blk b4 (Ab (Am v 0)) 78,.blk b1 [rP b_l 0] 110,.bld 112 5 b_l v_l l]) 4 [2,4] [⟨[],rP b_l 0,1⟩,⟨[],rP b4 1,0⟩,⟨[1],rI .i64 ((Am v 0).fInt),1⟩,⟨[2],rS (Lib.itoa ((Am v 0).fInt)),0⟩] (rle [(5,_)]) [41,42,43,44,2,4] ?_ ?_
    ·refine of (Bp (i:=1) Gg rfl rfl rfl) (oq (AH B2 rfl Cq rfl rfl) (of (Bp (i:=0) CU rfl rfl rfl) (Ee rfl (λH=>HQ (rs:=[rI .i64 ((Am v 0).fInt)]) (r:=rS (Lib.itoa ((Am v 0).fInt))) Tryz.call67 rfl (Mf ((Am v 0).fInt) hx) rfl) ?_)))
     exact Cj
    refine ck hy λhz h0=>CI (rs:=[rP b_l 0,rS (Lib.itoa ((Am v 0).fInt))]) (Hin:=[.bld 112 5 b_l v_l l]) (Hr:=[.blk b4 (Ab (Am v 0)) 78,.blk b1 [rP b_l 0] 110]) Tryz.call120 rfl ((A5 (i:=2) rfl).trans (List.Perm.cons _ (List.Perm.refl _))) (Iu b_l v_l l (Lib.itoa ((Am v 0).fInt)) hz) rfl ?_
    rintro _ _ ⟨h1,rfl,rfl⟩
    refine bd h0 λgy h2 h4=>?_
    rw[← h2]
    refine Aj (A8 ?_)
    obtain rfl:=As h4
    exact HI (Vb UF) (sC (sS (sS sN))) ⟨h1,rfl,rfl⟩
   ·refine Ae (wv (Bx rfl rfl) (wa rfl (Ak (cz hw rfl (λh5 h7=>?_) (λh5 h9=>?_)))))
    ·refine Af (vL 1 Gg rfl (vF B2 rfl CD (vL 0 Dm rfl (ob h7 λhA hB hC=>Hb (Hr:=[.blk b4 (Ab (Am v 0)) 78,.blk b1 [rP b_l 0] 110]) Tryz.call121 (Oj F b_l v_l l ((Am v 0).fStr) hA hB) rfl ((A5 (i:=2) rfl).trans (List.Perm.cons _ (List.Perm.refl _))) rfl ?_))))
     rintro _ _ ⟨hD,rfl,rfl⟩
     refine Aj (A8 ?_)
     obtain rfl:=As hC
     exact HI (Vb UF) (sC (sS (sS sN))) ⟨hD,rfl,rfl⟩
    ·refine Ae (wv (r:=rS ([91,93]:Ag)) (Ao rfl) (Ak (Ai (Ae (vF B2 rfl Eh (vL 0 E3 rfl (wv (Bx rfl rfl) (Ak (cz h9 rfl (λhE hG=>?_) (λhE hH=>?_))))))))))
     ·refine Af (wv (r:=rS ([123,125]:Ag)) (Ao rfl) (Ak (Ai (ck hG λhI hJ=>Kg (H1:=[.blk b4 (Ab (Am v 0)) 78,.blk b1 [rP b_l 0] 110,.bld 112 5 b_l v_l l]) 3 [1,2,4,5] [⟨[],rP b_l 0,1⟩,⟨[],rS ([123,125]:Ag),0⟩,⟨[1],rI .u8 (AK ([123,125]:Ag) 0),0⟩] (rle [(4,_)]) [15,16,17,1,2,4,5] ?_ ?_))))
      ·refine of (Bp (i:=1) Gg rfl rfl rfl) (oq (Al rfl) (oq (AO BC rfl rfl hI) ?_))
       exact Cj
      refine ck hJ λhK hL=>ck hL λhN hO=>CI (rs:=[rP b_l 0,rI .u8 (AK ([123,125]:Ag) 0)]) (Hin:=[.bld 112 5 b_l v_l l]) (Hr:=[.blk b4 (Ab (Am v 0)) 78,.blk b1 [rP b_l 0] 110]) Jx rfl ((A5 (i:=2) rfl).trans (List.Perm.cons _ (List.Perm.refl _))) (CC b_l v_l l (AK ([123,125]:Ag) 0) hK hN) rfl ?_
      rintro _ _ ⟨v51,rfl,rfl⟩
      refine bd hO λhg hP hQ=>?_
      rw[← hP]
      refine Bf (BT (cs:=[rB false]) Tryz.zeroValue4 rfl rfl (λhd=>?_))
      refine BB (i:=0) GR rfl rfl (Co rfl) rfl rfl (cs':=[rB true]) rfl (H':=[.blk hd [rB true] 4,.bld 112 5 b_l v51 hg,.blk b4 (Ab (Am v 0)) 78,.blk b1 [rP b_l 0] 110]) rfl (Bf (wm rfl (wv (r:=rv (.func (.func 124) #[] #[(.pointer (some ⟨hd,0,none⟩)),(.pointer (some ⟨b1,0,none⟩)),(.pointer (some ⟨b4,0,none⟩))])) (OB rfl) (ob hQ λha hR hS=>Hb (Hr:=[]) Tryz.call123 (ih_vWriteP hd b1 b_l v51 b4 v true hg (Am v 0) ha hR) rfl ((A5 (i:=0) rfl).trans (List.Perm.cons _ ((A5 (i:=2) rfl).trans (List.Perm.cons _ (List.Perm.refl _))))) rfl ?_))))
      rintro _ _ ⟨hf,rfl,rfl⟩
      refine Ak (ck hS λhT hU=>Kg (H1:=[.blk hd [rB ha.1] 4,.blk b1 [rP b_l 0] 110,.bld 112 5 b_l hf ha.2,.blk b4 (Ab (Am v 0)) 78]) 3 [2,5] [⟨[],rP b_l 0,1⟩,⟨[],rS ([123,125]:Ag),0⟩,⟨[1],rI .u8 (AK ([123,125]:Ag) 1),0⟩] (rle [(4,_)]) [22,23,24,2,5] ?_ ?_)
      ·refine of (Bp (i:=1) Gg rfl rfl rfl) (oq (Al rfl) (oq (AO BC rfl rfl hT) ?_))
       exact Cj
      refine ck hU λhV hW=>ck hW λhX hY=>CI (rs:=[rP b_l 0,rI .u8 (AK ([123,125]:Ag) 1)]) (Hin:=[.bld 112 5 b_l hf ha.2]) (Hr:=[.blk hd [rB ha.1] 4,.blk b1 [rP b_l 0] 110,.blk b4 (Ab (Am v 0)) 78]) Jx rfl ((A5 (i:=2) rfl).trans (List.Perm.cons _ (List.Perm.refl _))) (CC b_l hf ha.2 (AK ([123,125]:Ag) 1) hV hX) rfl ?_
      rintro _ _ ⟨hZ,rfl,rfl⟩
      refine bd hY λgz ga gb=>?_
      rw[← ga]
      refine Aj (A8 ?_)
      obtain rfl:=As gb
      exact HI (Vb UF) (sC (sS (sS (sS sN)))) ⟨hZ,rfl,rfl⟩
     ·refine An (AF (Ai (ck hH λgc gd=>Kg (H1:=[.blk b4 (Ab (Am v 0)) 78,.blk b1 [rP b_l 0] 110,.bld 112 5 b_l v_l l]) 3 [1,2,4,5] [⟨[],rP b_l 0,1⟩,⟨[],rS ([91,93]:Ag),0⟩,⟨[1],rI .u8 (AK ([91,93]:Ag) 0),0⟩] (rle [(4,_)]) [15,16,17,1,2,4,5] ?_ ?_)))
      ·refine of (Bp (i:=1) Gg rfl rfl rfl) (oq (Al rfl) (oq (AO BC rfl rfl gc) ?_))
       exact Cj
      refine ck gd λge gf=>ck gf λgg gh=>CI (rs:=[rP b_l 0,rI .u8 (AK ([91,93]:Ag) 0)]) (Hin:=[.bld 112 5 b_l v_l l]) (Hr:=[.blk b4 (Ab (Am v 0)) 78,.blk b1 [rP b_l 0] 110]) Jx rfl ((A5 (i:=2) rfl).trans (List.Perm.cons _ (List.Perm.refl _))) (CC b_l v_l l (AK ([91,93]:Ag) 0) ge gg) rfl ?_
      rintro _ _ ⟨hh,rfl,rfl⟩
      refine bd gh λhi gi gj=>?_
      rw[← gi]
      refine Bf (BT (cs:=[rB false]) Tryz.zeroValue4 rfl rfl (λhe=>?_))
      refine BB (i:=0) GR rfl rfl (Co rfl) rfl rfl (cs':=[rB true]) rfl (H':=[.blk he [rB true] 4,.bld 112 5 b_l hh hi,.blk b4 (Ab (Am v 0)) 78,.blk b1 [rP b_l 0] 110]) rfl (Bf (wm rfl (wv (r:=rv (.func (.func 124) #[] #[(.pointer (some ⟨he,0,none⟩)),(.pointer (some ⟨b1,0,none⟩)),(.pointer (some ⟨b4,0,none⟩))])) (OB rfl) (ob gj λhb gk gl=>Hb (Hr:=[]) Tryz.call123 (ih_vWriteP he b1 b_l hh b4 v true hi (Am v 0) hb gk) rfl ((A5 (i:=0) rfl).trans (List.Perm.cons _ ((A5 (i:=2) rfl).trans (List.Perm.cons _ (List.Perm.refl _))))) rfl ?_))))
      rintro _ _ ⟨v85,rfl,rfl⟩
      refine Ak (ck gl λgm gn=>Kg (H1:=[.blk he [rB hb.1] 4,.blk b1 [rP b_l 0] 110,.bld 112 5 b_l v85 hb.2,.blk b4 (Ab (Am v 0)) 78]) 3 [2,5] [⟨[],rP b_l 0,1⟩,⟨[],rS ([91,93]:Ag),0⟩,⟨[1],rI .u8 (AK ([91,93]:Ag) 1),0⟩] (rle [(4,_)]) [22,23,24,2,5] ?_ ?_)
      ·refine of (Bp (i:=1) Gg rfl rfl rfl) (oq (Al rfl) (oq (AO BC rfl rfl gm) ?_))
       exact Cj
      refine ck gn λgp gq=>ck gq λgr gs=>CI (rs:=[rP b_l 0,rI .u8 (AK ([91,93]:Ag) 1)]) (Hin:=[.bld 112 5 b_l v85 hb.2]) (Hr:=[.blk he [rB hb.1] 4,.blk b1 [rP b_l 0] 110,.blk b4 (Ab (Am v 0)) 78]) Jx rfl ((A5 (i:=2) rfl).trans (List.Perm.cons _ (List.Perm.refl _))) (CC b_l v85 hb.2 (AK ([91,93]:Ag) 1) gp gr) rfl ?_
      rintro _ _ ⟨gt,rfl,rfl⟩
      refine bd gs λg0 gu gv=>?_
      rw[← gu]
      refine Aj (A8 ?_)
      obtain rfl:=As gv
      exact HI (Vb UF) (sC (sS (sS (sS sN)))) ⟨gt,rfl,rfl⟩
theorem SW (F:Nat) (rec_vWrite:Ag→(List Aa)→Option (Ag)) (ih_vWrite:(∀(b_l:Nat) (v_l:Value) (l:Ag) (v:(List Aa)) (r:Ag),rec_vWrite l v=some r→Fn Tryz.prog GE 87 [rP b_l 0,AV 4 (List.map Ab v)] [.bld 112 5 b_l v_l l] (λR H=>∃w0b:Value,R=rv (.tuple #[])∧H=[.bld 112 5 b_l w0b r]))) (b_first:Nat) (bx_l:Nat) (b_l:Nat) (v_l:Value) (b_c:Nat) (key:Ag) (x:(List Aa)) (first:Bool) (l:Ag) (c:Aa) (r:Bool×Bool×Ag) (h:Lx F rec_vWrite key x first l c=some r):Fn Tryz.prog GE 124 [rS key,AV 4 (List.map Ab x),rP b_first 0,rP bx_l 0,rP b_c 0] [.blk b_first [rB first] 4,.blk bx_l [rP b_l 0] 110,.bld 112 5 b_l v_l l,.blk b_c (Ab c) 78] (λR H=>∃w3b:Value,R=rB r.1∧H=[.blk b_first [rB r.2.1] 4,.blk bx_l [rP b_l 0] 110,.bld 112 5 b_l w3b r.2.2,.blk b_c (Ab c) 78]):=by
 refine enter (n:=23) Tryz.func124 rfl Tryz.ntmps124 rfl (λw Z=>?_)
 unfold Lx at h
 refine Ae (wa rfl (Ak (Ai (Ae (vL 0 MZ rfl (wv (Cd rfl) (Ak (cz h rfl (λc1 h2=>?_) (λc1 hn=>?_)))))))))
 ·refine Af (vL 1 Gg rfl (ck h2 λg3 h4=>ck h4 λg5 h6=>CI (rs:=[rP b_l 0,rI .u8 44]) (Hin:=[.bld 112 5 b_l v_l l]) (Hr:=[.blk b_first [rB first] 4,.blk bx_l [rP b_l 0] 110,.blk b_c (Ab c) 78]) Jx rfl ((A5 (i:=2) rfl).trans (List.Perm.cons _ (List.Perm.refl _))) (CC b_l v_l l 44 g3 g5) rfl ?_))
  rintro _ _ ⟨v7,rfl,rfl⟩
  refine bd h6 λr8 ho h9=>?_
  rw[← ho]
  refine Bf (BB (i:=1) GR rfl rfl (Co rfl) rfl rfl (cs':=[rB false]) rfl (H':=[.bld 112 5 b_l v7 r8,.blk b_first [rB false] 4,.blk bx_l [rP b_l 0] 110,.blk b_c (Ab c) 78]) rfl (Ak (Ai (Ae (vF B2 rfl Eh (vL 3 E3 rfl (wv (Bx rfl rfl) (Ak (cz h9 rfl (λhp hq=>?_) (λhp hr=>?_))))))))))
  ·refine Ae (vL 2 Gg rfl (wm rfl (ob hq λha hs ht=>Hb (Hr:=[.blk b_first [rB false] 4,.blk bx_l [rP b_l 0] 110,.blk b_c (Ab c) 78]) Tryz.call121 (Oj F b_l v7 r8 key ha hs) rfl (List.Perm.refl _) rfl ?_)))
   rintro _ _ ⟨hd,rfl,rfl⟩
   refine Ak (Af (vL 2 Gg rfl (ck ht λg17 hu=>ck hu λg19 hw=>CI (rs:=[rP b_l 0,rI .u8 58]) (Hin:=[.bld 112 5 b_l hd ha]) (Hr:=[.blk b_first [rB false] 4,.blk bx_l [rP b_l 0] 110,.blk b_c (Ab c) 78]) Jx rfl (List.Perm.refl _) (CC b_l hd ha 58 g17 g19) rfl ?_)))
   rintro _ _ ⟨v21,rfl,rfl⟩
   refine bd hw λhx hy hz=>?_
   rw[← hy]
   refine Bf (vL 2 Gg rfl (wm rfl (ob hz λhe h0 h1=>Hb (Hr:=[.blk b_first [rB false] 4,.blk bx_l [rP b_l 0] 110,.blk b_c (Ab c) 78]) Wp (ih_vWrite b_l v21 hx x he h0) rfl (List.Perm.refl _) rfl ?_)))
   rintro _ _ ⟨hf,rfl,rfl⟩
   refine Bf (wa rfl (Ak (Aq (Cv (H2:=[.blk b_first [rB false] 4,.blk bx_l [rP b_l 0] 110,.bld 112 5 b_l hf he,.blk b_c (Ab c) 78]) ((A5 (i:=1) rfl).trans (List.Perm.cons _ ((A5 (i:=1) rfl).trans (List.Perm.cons _ (List.Perm.refl _))))) ?_))))
   obtain rfl:=As h1
   exact Ap (BW TI (A4 rfl)) (sC (sC (sC (sC sN)))) ⟨hf,rfl,rfl⟩
  ·refine An (AF (Ae (vL 2 Gg rfl (wm rfl (ob hr λhg h3 h5=>Hb (Hr:=[.blk b_first [rB false] 4,.blk bx_l [rP b_l 0] 110,.blk b_c (Ab c) 78]) Wp (ih_vWrite b_l v7 r8 x hg h3) rfl (List.Perm.refl _) rfl ?_)))))
   rintro _ _ ⟨hh,rfl,rfl⟩
   refine Bf (wa rfl (Ak (Aq (Cv (H2:=[.blk b_first [rB false] 4,.blk bx_l [rP b_l 0] 110,.bld 112 5 b_l hh hg,.blk b_c (Ab c) 78]) ((A5 (i:=1) rfl).trans (List.Perm.cons _ ((A5 (i:=1) rfl).trans (List.Perm.cons _ (List.Perm.refl _))))) ?_))))
   obtain rfl:=As h5
   exact Ap (BW TI (A4 rfl)) (sC (sC (sC (sC sN)))) ⟨hh,rfl,rfl⟩
 ·refine An (AF (Ae (BB (i:=0) GR rfl rfl (Co rfl) rfl rfl (cs':=[rB false]) rfl (H':=[.blk b_first [rB false] 4,.blk bx_l [rP b_l 0] 110,.bld 112 5 b_l v_l l,.blk b_c (Ab c) 78]) rfl (Ak (Ai (Ae (vF B2 rfl Eh (vL 3 E3 rfl (wv (Bx rfl rfl) (Ak (cz hn rfl (λh7 h8=>?_) (λh7 hA=>?_))))))))))))
  ·refine Ae (vL 1 Gg rfl (wm rfl (ob h8 λhb hB hC=>Hb (Hr:=[.blk b_first [rB false] 4,.blk bx_l [rP b_l 0] 110,.blk b_c (Ab c) 78]) Tryz.call121 (Oj F b_l v_l l key hb hB) rfl ((A5 (i:=2) rfl).trans (List.Perm.cons _ (List.Perm.refl _))) rfl ?_)))
   rintro _ _ ⟨hi,rfl,rfl⟩
   refine Ak (Af (vL 2 Gg rfl (ck hC λhD hE=>ck hE λhG hH=>CI (rs:=[rP b_l 0,rI .u8 58]) (Hin:=[.bld 112 5 b_l hi hb]) (Hr:=[.blk b_first [rB false] 4,.blk bx_l [rP b_l 0] 110,.blk b_c (Ab c) 78]) Jx rfl (List.Perm.refl _) (CC b_l hi hb 58 hD hG) rfl ?_)))
   rintro _ _ ⟨hI,rfl,rfl⟩
   refine bd hH λhJ hK hL=>?_
   rw[← hK]
   refine Bf (vL 2 Gg rfl (wm rfl (ob hL λhj hN hO=>Hb (Hr:=[.blk b_first [rB false] 4,.blk bx_l [rP b_l 0] 110,.blk b_c (Ab c) 78]) Wp (ih_vWrite b_l hI hJ x hj hN) rfl (List.Perm.refl _) rfl ?_)))
   rintro _ _ ⟨hk,rfl,rfl⟩
   refine Bf (wa rfl (Ak (Aq (Cv (H2:=[.blk b_first [rB false] 4,.blk bx_l [rP b_l 0] 110,.bld 112 5 b_l hk hj,.blk b_c (Ab c) 78]) ((A5 (i:=1) rfl).trans (List.Perm.cons _ ((A5 (i:=1) rfl).trans (List.Perm.cons _ (List.Perm.refl _))))) ?_))))
   obtain rfl:=As hO
   exact Ap (BW TI (A4 rfl)) (sC (sC (sC (sC sN)))) ⟨hk,rfl,rfl⟩
  ·refine An (AF (Ae (vL 1 Gg rfl (wm rfl (ob hA λhl hP hQ=>Hb (Hr:=[.blk b_first [rB false] 4,.blk bx_l [rP b_l 0] 110,.blk b_c (Ab c) 78]) Wp (ih_vWrite b_l v_l l x hl hP) rfl ((A5 (i:=2) rfl).trans (List.Perm.cons _ (List.Perm.refl _))) rfl ?_)))))
   rintro _ _ ⟨hm,rfl,rfl⟩
   refine Bf (wa rfl (Ak (Aq (Cv (H2:=[.blk b_first [rB false] 4,.blk bx_l [rP b_l 0] 110,.bld 112 5 b_l hm hl,.blk b_c (Ab c) 78]) ((A5 (i:=1) rfl).trans (List.Perm.cons _ ((A5 (i:=1) rfl).trans (List.Perm.cons _ (List.Perm.refl _))))) ?_))))
   obtain rfl:=As hQ
   exact Ap (BW TI (A4 rfl)) (sC (sC (sC (sC sN)))) ⟨hm,rfl,rfl⟩
theorem SV (F:Nat) (rec_vWriteF:Ag→(List Aa)→Bool→Ag→Aa→Option (Bool×Bool×Ag)) (ih_vWriteF:(∀(b_first:Nat) (bx_l:Nat) (b_l:Nat) (v_l:Value) (b_c:Nat) (key:Ag) (x:(List Aa)) (first:Bool) (l:Ag) (c:Aa) (r:Bool×Bool×Ag),rec_vWriteF key x first l c=some r→Fn Tryz.prog GE 124 [rS key,AV 4 (List.map Ab x),rP b_first 0,rP bx_l 0,rP b_c 0] [.blk b_first [rB first] 4,.blk bx_l [rP b_l 0] 110,.bld 112 5 b_l v_l l,.blk b_c (Ab c) 78] (λR H=>∃w3b:Value,R=rB r.1∧H=[.blk b_first [rB r.2.1] 4,.blk bx_l [rP b_l 0] 110,.bld 112 5 b_l w3b r.2.2,.blk b_c (Ab c) 78]))) (b_first:Nat) (bx_l:Nat) (b_l:Nat) (v_l:Value) (b_c:Nat) (v:(List Aa)) (first:Bool) (l:Ag) (c:Aa) (r:Bool×Ag) (h:I8 F rec_vWriteF v first l c=some r):Fn Tryz.prog GE 123 [AV 4 (List.map Ab v),rv (.func (.func 124) #[] #[(.pointer (some ⟨b_first,0,none⟩)),(.pointer (some ⟨bx_l,0,none⟩)),(.pointer (some ⟨b_c,0,none⟩))])] [.blk b_first [rB first] 4,.blk bx_l [rP b_l 0] 110,.bld 112 5 b_l v_l l,.blk b_c (Ab c) 78] (λR H=>∃w1_1b:Value,R=rv (.tuple #[])∧H=[.blk b_first [rB r.1] 4,.blk bx_l [rP b_l 0] 110,.bld 112 5 b_l w1_1b r.2,.blk b_c (Ab c) 78]):=by
 refine enter (n:=52) Tryz.func123 rfl Tryz.ntmps123 rfl (λw Z=>?_)
 unfold I8 at h
 refine Ae (wa rfl (Bf (wm rfl (ck h λg1 h2=>wv (Bh (enc:=Ab) (ys:=v) BP Ch rfl rfl g1) (wv (AU B2 rfl Cq rfl rfl) (wv (AY CU rfl rfl) (wv (r:=rI .i64 0) (Al rfl) (Ak (AB (ob h2 λhz h0 hl=>Bk (S:=Nat×(Int×Int×Bool×Ag)×(Value)) (V:=(Bool×Ag)×(Value)) 0 (λσ=>BF (λσ=>DT F v c rec_vWriteF σ.1 σ.2.1 σ.2.2.1 σ.2.2.2) σ.1 σ.2.1=some hz) (λσ=>[(0,AV 4 (List.map Ab v)),(1,rv (.func (.func 124) #[] #[(.pointer (some ⟨b_first,0,none⟩)),(.pointer (some ⟨bx_l,0,none⟩)),(.pointer (some ⟨b_c,0,none⟩))])),(4,rI .i64 σ.2.1.1),(12,rI .i64 ((Am v 0).fN)),(13,rI .i64 σ.2.1.2.1)]) (λσ=>[.blk b_first [rB σ.2.1.2.2.1] 4,.blk bx_l [rP b_l 0] 110,.bld 112 5 b_l σ.2.2 σ.2.1.2.2.2,.blk b_c (Ab c) 78]) (λσ=>σ.1) (F,(1,0,first,l),v_l) h0 (AC.c5 rfl rfl rfl rfl rfl AC.nil) (sC (sC (sC (sC sN)))) (λσ=>HK σ.1.1 σ.1.2=some r) (λσ=>[]) (λσ=>[.blk b_first [rB σ.1.1] 4,.blk bx_l [rP b_l 0] 110,.bld 112 5 b_l σ.2 σ.1.2,.blk b_c (Ab c) 78]) ?_ ?_))))))))))
 ·rintro⟨gr,⟨ha,hi,he,hf⟩,hg⟩ h1
  refine BO (l':=[(0,AV 4 (List.map Ab v)),(1,rv (.func (.func 124) #[] #[(.pointer (some ⟨b_first,0,none⟩)),(.pointer (some ⟨bx_l,0,none⟩)),(.pointer (some ⟨b_c,0,none⟩))])),(4,rI .i64 ha),(12,rI .i64 ((Am v 0).fN)),(13,rI .i64 hi)]) (H':=[.blk b_first [rB he] 4,.blk bx_l [rP b_l 0] 110,.bld 112 5 b_l hg hf,.blk b_c (Ab c) 78]) rfl rfl ?_
  obtain⟨hq,rfl,h3,hj,hh⟩:=Ce h1
  replace hj:DT F v c rec_vWriteF ha hi he hf=some h3:=hj
  unfold DT at hj
  refine Ae (wv (BY rfl rfl) (Ak (Ai (cz hj rfl (λc175 h4=>?_) (λc175 h5=>?_)))))
  ·refine An (AF (Ai (AB (Ae (wv (r:=rS ([]:Ag)) (Ao rfl) (Ak (Ai (Ae (wm rfl (wv (Bh (enc:=Ab) (ys:=v) BP Ch rfl rfl g1) (wv (AU B2 rfl Eh rfl rfl) (wv (AY E3 rfl rfl) (wv (Bx rfl rfl) (Ak (cz h4 rfl (λh6 h7=>?_) (λh6 h8=>?_))))))))))))))))
   ·refine Ae (wm rfl (wm rfl (ck h7 λh9 hA=>wv (Bh (enc:=Ab) (ys:=v) BP Ch rfl rfl h9) (wv (AU B2 rfl CD rfl rfl) (wv (AY Dm rfl rfl) (wa rfl (Ak (Af (wm rfl (ck hA λhB hC=>wv (AX rfl rfl hB) (wa rfl (Bf (wm rfl (wm rfl (ck hC λhD hE=>wv (r:=AV 4 (List.map Ab (List.drop (Int.toNat (ha+1)) v))) (O9 BP Ch rfl rfl hD) (ob hE λhb hG hH=>Cg Tryz.call106 (Qw F (List.drop (Int.toNat (ha+1)) v) hb hG) rfl (wm rfl (wv (Az rfl rfl) (wv (Az rfl rfl) ?_)))))))))))))))))))
    refine wv (Az rfl rfl) (BT (cs:=[rI .i64 0,rI .i64 0,rB false,rB false]) Rj rfl rfl (λhr=>?_))
    refine wa rfl (Bj (i:=0) G7 rfl rfl rfl (BE.c rfl) rfl rfl (cs':=[rI .i64 hb.2.1.fDepth,rI .i64 hb.2.1.fBytes,rB hb.2.1.fOutside,rB hb.2.1.fLong]) rfl (H':=[.blk hr (Ba hb.2.1) 133,.blk b_first [rB he] 4,.blk bx_l [rP b_l 0] 110,.bld 112 5 b_l hg hf,.blk b_c (Ab c) 78]) rfl (wa rfl (Ak (Ai (Ae (wm rfl (wm rfl (wm rfl (wm rfl (wm rfl (wm rfl (ck hH λhm hI=>wv (AX rfl rfl hm) (wm rfl (wm rfl (wv (AX rfl rfl hm) (ck hI λhJ hK=>ck hK λhL hN=>wv (r:=AV 4 (List.map Ab (List.take (Int.toNat ((ha+1)+hb.1)-Int.toNat (ha+1)) (List.drop (Int.toNat (ha+1)) v)))) (O8 BP Ch rfl rfl rfl rfl hJ hL) (ob hN λhn hO hP=>TJ (rs:=[rS ((Am v ha).fStr),AV 4 (List.map Ab (List.take (Int.toNat ((ha+1)+hb.1)-Int.toNat (ha+1)) (List.drop (Int.toNat (ha+1)) v)))]) (Hin:=[.blk b_first [rB he] 4,.blk bx_l [rP b_l 0] 110,.bld 112 5 b_l hg hf,.blk b_c (Ab c) 78]) (Hr:=[.blk hr (Ba hb.2.1) 133]) Tryz.call124 rfl rfl ((A5 (i:=1) rfl).trans (List.Perm.cons _ ((A5 (i:=1) rfl).trans (List.Perm.cons _ ((A5 (i:=1) rfl).trans (List.Perm.cons _ ((A5 (i:=1) rfl).trans (List.Perm.cons _ (List.Perm.refl _))))))))) (ih_vWriteF b_first bx_l b_l hg b_c ((Am v ha).fStr) (List.take (Int.toNat ((ha+1)+hb.1)-Int.toNat (ha+1)) (List.drop (Int.toNat (ha+1)) v)) he hf c hn hO) rfl ?_)))))))))))))))))
    rintro _ _ ⟨hs,rfl,rfl⟩
    refine wv (Cd rfl) (Ak (cz hP rfl (λhQ hR=>?_) (λhQ hS=>?_)))
    ·refine Aq (Ac (Av (Ac (Ac (AS ?_)))))
     have hT:=Bm hR hh hl
     refine Av ?_
     obtain rfl:=As hT
     exact Ap (Vb Tryz.results123) (sC (sC (sC (sC (sS sN))))) ⟨hs,rfl,rfl⟩
    ·refine An (AF (Af (wm rfl (wm rfl (wv (AX rfl rfl hm) (wa rfl (Aj (A8 (AF (Af (ck hS λhU hV=>wv (AX rfl rfl hU) (wm rfl (Aj ?_)))))))))))))
     have hW:=Bb hV hh
     exact Ar (A3 (hq,((ha+1)+hb.1,hi+1,hn.2.1,hn.2.2),hs) ⟨hW,AcL _⟩ (AC.c5 rfl rfl rfl rfl rfl AC.nil) (sC (sC (sC (sC (sS sN))))))
   ·refine An (AF (Ae (wm rfl (wm rfl (ck h8 λhX hY=>wv (r:=AV 4 (List.map Ab (List.drop (Int.toNat ha) v))) (O9 BP Ch rfl rfl hX) (ob hY λhd hZ ga=>Cg Tryz.call106 (Qw F (List.drop (Int.toNat ha) v) hd hZ) rfl (wm rfl (wv (Az rfl rfl) (wv (Az rfl rfl) (wv (Az rfl rfl) (BT (cs:=[rI .i64 0,rI .i64 0,rB false,rB false]) Rj rfl rfl (λht=>?_))))))))))))
    refine wa rfl (Bj (i:=0) G7 rfl rfl rfl (BE.c rfl) rfl rfl (cs':=[rI .i64 hd.2.1.fDepth,rI .i64 hd.2.1.fBytes,rB hd.2.1.fOutside,rB hd.2.1.fLong]) rfl (H':=[.blk ht (Ba hd.2.1) 133,.blk b_first [rB he] 4,.blk bx_l [rP b_l 0] 110,.bld 112 5 b_l hg hf,.blk b_c (Ab c) 78]) rfl (wa rfl (Ak (Ai (Ae (wm rfl (wm rfl (wm rfl (wm rfl (wm rfl (wm rfl (ck ga λho gb=>wv (AX rfl rfl ho) (wm rfl (wm rfl (wv (AX rfl rfl ho) (ck gb λgc gd=>ck gd λge gf=>wv (r:=AV 4 (List.map Ab (List.take (Int.toNat (ha+hd.1)-Int.toNat ha) (List.drop (Int.toNat ha) v)))) (O8 BP Ch rfl rfl rfl rfl gc ge) (ob gf λhp gg gh=>TJ (rs:=[rS ([]:Ag),AV 4 (List.map Ab (List.take (Int.toNat (ha+hd.1)-Int.toNat ha) (List.drop (Int.toNat ha) v)))]) (Hin:=[.blk b_first [rB he] 4,.blk bx_l [rP b_l 0] 110,.bld 112 5 b_l hg hf,.blk b_c (Ab c) 78]) (Hr:=[.blk ht (Ba hd.2.1) 133]) Tryz.call124 rfl rfl ((A5 (i:=1) rfl).trans (List.Perm.cons _ ((A5 (i:=1) rfl).trans (List.Perm.cons _ ((A5 (i:=1) rfl).trans (List.Perm.cons _ ((A5 (i:=1) rfl).trans (List.Perm.cons _ (List.Perm.refl _))))))))) (ih_vWriteF b_first bx_l b_l hg b_c ([]:Ag) (List.take (Int.toNat (ha+hd.1)-Int.toNat ha) (List.drop (Int.toNat ha) v)) he hf c hp gg) rfl ?_)))))))))))))))))
    rintro _ _ ⟨hu,rfl,rfl⟩
    refine wv (Cd rfl) (Ak (cz gh rfl (λgi gj=>?_) (λgi gk=>?_)))
    ·refine Aq (Ac (Av (Ac (Ac (AS ?_)))))
     have gl:=Bm gj hh hl
     refine Av ?_
     obtain rfl:=As gl
     exact Ap (Vb Tryz.results123) (sC (sC (sC (sC (sS sN))))) ⟨hu,rfl,rfl⟩
    ·refine An (AF (Af (wm rfl (wm rfl (wv (AX rfl rfl ho) (wa rfl (Aj (A8 (AF (Af (ck gk λgm gn=>wv (AX rfl rfl gm) (wm rfl (Aj ?_)))))))))))))
     have gp:=Bb gn hh
     exact Ar (A3 (hq,(ha+hd.1,hi+1,hp.2.1,hp.2.2),hu) ⟨gp,AcL _⟩ (AC.c5 rfl rfl rfl rfl rfl AC.nil) (sC (sC (sC (sC (sS sN))))))
  ·refine Bo (At ?_)
   have gq:=BI h5 hh hl
   exact At (Bc (A3 ((he,hf),hg) gq AC.nil (sC (sC (sC (sC sN))))))
 ·rintro⟨⟨hw,hx⟩,hy⟩ hk
  refine Cf (l':=[]) (H':=[.blk b_first [rB hw] 4,.blk bx_l [rP b_l 0] 110,.bld 112 5 b_l hy hx,.blk b_c (Ab c) 78]) rfl rfl ?_
  replace hk:HK hw hx=some r:=hk
  unfold HK at hk
  refine AZ ?_
  obtain rfl:=As hk
  exact HI (Vb Tryz.results123) (sC (sC (sC (sC sN)))) ⟨hy,rfl,rfl⟩
theorem HJ:∀F:Nat,(∀(b_l:Nat) (v_l:Value) (l:Ag) (v:(List Aa)) (r:Ag),GF F l v=some r→Fn Tryz.prog GE 87 [rP b_l 0,AV 4 (List.map Ab v)] [.bld 112 5 b_l v_l l] (λR H=>∃w0b:Value,R=rv (.tuple #[])∧H=[.bld 112 5 b_l w0b r]))∧(∀(b_first:Nat) (bx_l:Nat) (b_l:Nat) (v_l:Value) (b_c:Nat) (key:Ag) (x:(List Aa)) (first:Bool) (l:Ag) (c:Aa) (r:Bool×Bool×Ag),EV F key x first l c=some r→Fn Tryz.prog GE 124 [rS key,AV 4 (List.map Ab x),rP b_first 0,rP bx_l 0,rP b_c 0] [.blk b_first [rB first] 4,.blk bx_l [rP b_l 0] 110,.bld 112 5 b_l v_l l,.blk b_c (Ab c) 78] (λR H=>∃w3b:Value,R=rB r.1∧H=[.blk b_first [rB r.2.1] 4,.blk bx_l [rP b_l 0] 110,.bld 112 5 b_l w3b r.2.2,.blk b_c (Ab c) 78]))∧(∀(b_first:Nat) (bx_l:Nat) (b_l:Nat) (v_l:Value) (b_c:Nat) (v:(List Aa)) (first:Bool) (l:Ag) (c:Aa) (r:Bool×Ag),Hm F v first l c=some r→Fn Tryz.prog GE 123 [AV 4 (List.map Ab v),rv (.func (.func 124) #[] #[(.pointer (some ⟨b_first,0,none⟩)),(.pointer (some ⟨bx_l,0,none⟩)),(.pointer (some ⟨b_c,0,none⟩))])] [.blk b_first [rB first] 4,.blk bx_l [rP b_l 0] 110,.bld 112 5 b_l v_l l,.blk b_c (Ab c) 78] (λR H=>∃w1_1b:Value,R=rv (.tuple #[])∧H=[.blk b_first [rB r.1] 4,.blk bx_l [rP b_l 0] 110,.bld 112 5 b_l w1_1b r.2,.blk b_c (Ab c) 78]))
  | 0=>⟨(λ_ _ _ _ _ h=>by simp[GF] at h),(λ_ _ _ _ _ _ _ _ _ _ _ h=>by simp[EV] at h),(λ_ _ _ _ _ _ _ _ _ _ h=>by simp[Hm] at h)⟩
  | nn+1=>⟨(λb_l v_l l v r h=>UL nn (EV nn) (Hm nn) (HJ nn).2.1 (HJ nn).2.2 b_l v_l l v r (by rw[GF] at h;exact h)),(λb_first bx_l b_l v_l b_c key x first l c r h=>SW nn (GF nn) (HJ nn).1 b_first bx_l b_l v_l b_c key x first l c r (by rw[EV] at h;exact h)),(λb_first bx_l b_l v_l b_c v first l c r h=>SV nn (EV nn) (HJ nn).2.1 b_first bx_l b_l v_l b_c v first l c r (by rw[Hm] at h;exact h))⟩
theorem W0 (F:Nat) (b_l:Nat) (v_l:Value) (l:Ag) (v:(List Aa)) (r:Ag) (h:GF F l v=some r):Fn Tryz.prog GE 87 [rP b_l 0,AV 4 (List.map Ab v)] [.bld 112 5 b_l v_l l] (λR H=>∃w0b:Value,R=rv (.tuple #[])∧H=[.bld 112 5 b_l w0b r]):=(HJ F).1 b_l v_l l v r h
theorem UQ (F:Nat) (v:(List Aa)) (r:Ag×Int) (h:L2 F v=some r):Fn Tryz.prog GE 65 [AV 4 (List.map Ab v)] [] (λR H=>R=Cm [rS r.1,rI .i64 r.2]∧H=[]):=by
 refine enter (n:=14) Tryz.func65 rfl Tryz.ntmps65 rfl (λw Z=>?_)
 unfold L2 at h
 refine Ae (wv (r:=rS ([]:Ag)) (Ao rfl) (wa rfl (Ak (Ai (Ae (wm rfl (ob h λr1 e3 h2=>Cg Tryz.call80 (On F v r1 e3) rfl (wa rfl (Bf (wm rfl (wv (CB rfl rfl) (Ak (cz h2 rfl (λc4 h5=>?_) (λc4 h6=>?_))))))))))))))
 ·refine Ae (wm rfl (wv (r:=rS ([]:Ag)) (Ao rfl) (wa rfl (Ak (Aq (Ac ?_))))))
  obtain rfl:=As h5
  exact Ap (Cy Tryz.results65 (A4 rfl) (A4 rfl)) sN ⟨rfl,rfl⟩
 ·refine An (AF (Ae (BT (cs:=[rv (.pointer none),rv (.slice none 0 0)]) Tryz.zeroValue112 rfl rfl (λb7=>?_))))
  refine Bf (wm rfl (WL.tobld (te:=5) (i:=0) rfl (ob h6 λr8 hb h9=>Hb (Hr:=[]) Wp (W0 F b7 (.slice none 0 0) ([]:Ag) v r8 hb) rfl (List.Perm.refl _) rfl ?_)))
  rintro _ _ ⟨ha,rfl,rfl⟩
  refine Bf (ck h9 λhd he=>CI (rs:=[rP b7 0]) (Hin:=[.bld 112 5 b7 ha r8]) (Hr:=[]) Tryz.call88 rfl (List.Perm.refl _) (Wd b7 ha r8  hd) rfl ?_)
  rintro _ _ ⟨rfl,rfl⟩
  refine wa rfl (wa rfl (Ak (Aq ?_)))
  obtain rfl:=As he
  exact Ap (Cy Tryz.results65 (A4 rfl) (A4 rfl)) sN ⟨rfl,rfl⟩
end Go.Proofs.YtjfnokmpfekniaaGreatDoor.Q
namespace Go.Proofs.YtjfnokmpfekniaaGreatDoor
open Go
set_option linter.unusedVariables false
structure Aw where
 fS:Ag
 fAt:Int
 fCells:(List Aa)
 fGreat:Bool
 deriving DecidableEq,Inhabited
def Ig (s:Ag) (p:Ag):Option (Bool):=
 AN (imp (decide ((p.length:Int)≤(s.length:Int))) (GJ (p.length:Int) (s.length:Int)))<|some ((decide ((p.length:Int)≤(s.length:Int)))&&(decide ((List.take (Int.toNat (p.length:Int)) s)=p)))
def HC (s:Ag) (p:Ag):Option (Bool):=
 Bn (Ig s p) λr1=>some r1
def Ej (q:Aw) (s:Ag):Option (Bool×Aw):=
 AN (GJ q.fAt (q.fS.length:Int))<|Bn (HC (List.drop (Int.toNat q.fAt) q.fS) s) λr3=>Bd (!r3) (some (false,q)) (AN (Bl .i64 (q.fAt+(s.length:Int)))<|some (true,(Aw.mk q.fS (q.fAt+(s.length:Int)) q.fCells q.fGreat)))
def Gx (ha:(List Int)) (hb:Int) (hd:Int):Option (Stp ((List Int)×Int) (Out (Ag×Bool×Aw) (Int))):=
 AN (Dw 1 (ha.length+([hb]:List Int).length))<|some (.next (ha++([hb]:List Int),hd))
def EI (r1:Bool×Aw) (hb:(List Int)) (ha:Int):Option (Stp ((List Int)×Int) (Out (Ag×Bool×Aw) (Int))):=
 Bd (decide (ha<(r1.2.fS.length:Int))) (AN (Cu ha (r1.2.fS.length:Int))<|AN (Bl .i64 (ha+1))<|Bd (decide ((AK r1.2.fS ha)=34)) (some (.out (.ret (Id hb,true,(Aw.mk r1.2.fS (ha+1) r1.2.fCells r1.2.fGreat))))) (Bd (((decide ((AK r1.2.fS ha)<32))||(decide (126<(AK r1.2.fS ha))))) (some (.out (.ret (([]:Ag),false,(Aw.mk r1.2.fS (ha+1) r1.2.fCells r1.2.fGreat))))) (Bd (decide ((AK r1.2.fS ha)=92)) (AN (imp (!(decide ((r1.2.fS.length:Int)≤(ha+1)))) (Cu (ha+1) (r1.2.fS.length:Int)))<|Bd (((decide ((r1.2.fS.length:Int)≤(ha+1)))||((!decide ((AK r1.2.fS (ha+1))=34))&&(!decide ((AK r1.2.fS (ha+1))=92))))) (some (.out (.ret (([]:Ag),false,(Aw.mk r1.2.fS (ha+1) r1.2.fCells r1.2.fGreat))))) (AN (Cu (ha+1) (r1.2.fS.length:Int))<|AN (Bl .i64 ((ha+1)+1))<|Gx hb (AK r1.2.fS (ha+1)) ((ha+1)+1))) (Gx hb (AK r1.2.fS ha) (ha+1))))) (some (.out (.go ha)))
def IB (r1:Bool×Aw) (ha:Int):Option (Ag×Bool×Aw):=
 some (([]:Ag),false,(Aw.mk r1.2.fS ha r1.2.fCells r1.2.fGreat))
def Og (F:Nat) (q:Aw):Option (Ag×Bool×Aw):=
 Bn (Ej q ([34]:Ag)) λr1=>Bd (!r1.1) (some (([]:Ag),false,r1.2)) (Bn (BF (λσ=>EI r1 σ.1 σ.2) F (([]:List Int),r1.2.fAt)) (B6 λν=>IB r1 ν))
def EJ (r1:Bool×Aw) (ha:Int):Option (Stp (Int) (Out (Bool×Aw) (Int))):=
 AN (imp (decide (ha<(r1.2.fS.length:Int))) (Cu ha (r1.2.fS.length:Int)))<|Bd (((decide (ha<(r1.2.fS.length:Int)))&&((decide (48≤(AK r1.2.fS ha)))&&(decide ((AK r1.2.fS ha)≤57))))) (AN (Bl .i64 (ha+1))<|some (.next (ha+1))) (some (.out (.go ha)))
def JE (q:Aw) (r1:Bool×Aw) (ha:Int):Option (Bool×Aw):=
 AN (GJ q.fAt ha)<|AN (GJ ha (r1.2.fS.length:Int))<|AN (Dw 1 (List.take (Int.toNat ha-Int.toNat q.fAt) (List.drop (Int.toNat q.fAt) r1.2.fS)).length)<|Bd (((decide ((BA (List.take (Int.toNat ha-Int.toNat q.fAt) (List.drop (Int.toNat q.fAt) r1.2.fS)))=1))||(decide (r1.2.fAt=ha)))) (some (false,(Aw.mk r1.2.fS ha r1.2.fCells r1.2.fGreat))) (AN (Dw 40 (r1.2.fCells.length+([(Aa.mk 3 (AJ (List.take (Int.toNat ha-Int.toNat q.fAt) (List.drop (Int.toNat q.fAt) r1.2.fS))) ([]:Ag) 0)]:List Aa).length))<|some (true,(Aw.mk r1.2.fS ha (r1.2.fCells++([(Aa.mk 3 (AJ (List.take (Int.toNat ha-Int.toNat q.fAt) (List.drop (Int.toNat q.fAt) r1.2.fS))) ([]:Ag) 0)]:List Aa)) (r1.2.fGreat||(!decide ((BA (List.take (Int.toNat ha-Int.toNat q.fAt) (List.drop (Int.toNat q.fAt) r1.2.fS)))=0))))))
def Oh (F:Nat) (q:Aw):Option (Bool×Aw):=
 Bn (Ej q ([45]:Ag)) λr1=>Bn (BF (λσ=>EJ r1 σ) F r1.2.fAt) (B6 λν=>JE q r1 ν)
def El (ha:Ag) (hb:Int) (hd:(List Aa)) (he:Bool):Option (Bool×Aw):=
 some (true,(Aw.mk ha hb hd he))
def IC (F:Nat) (q:Aw):Option (Bool×Aw):=
 Bn (Ej q ([110,117,108,108]:Ag)) λhd=>Bd (hd.1) (AN (Dw 40 (hd.2.fCells.length+([(Aa.mk 1 0 ([]:Ag) 0)]:List Aa).length))<|El hd.2.fS hd.2.fAt (hd.2.fCells++([(Aa.mk 1 0 ([]:Ag) 0)]:List Aa)) hd.2.fGreat) (Bn (Ej hd.2 ([116,114,117,101]:Ag)) λhe=>Bd (he.1) (AN (Dw 40 (he.2.fCells.length+([(Aa.mk 2 1 ([]:Ag) 0)]:List Aa).length))<|El he.2.fS he.2.fAt (he.2.fCells++([(Aa.mk 2 1 ([]:Ag) 0)]:List Aa)) he.2.fGreat) (Bn (Ej he.2 ([102,97,108,115,101]:Ag)) λha=>Bd (ha.1) (AN (Dw 40 (ha.2.fCells.length+([(Aa.mk 2 0 ([]:Ag) 0)]:List Aa).length))<|El ha.2.fS ha.2.fAt (ha.2.fCells++([(Aa.mk 2 0 ([]:Ag) 0)]:List Aa)) ha.2.fGreat) (AN (GJ ha.2.fAt (ha.2.fS.length:Int))<|Bn (HC (List.drop (Int.toNat ha.2.fAt) ha.2.fS) ([34]:Ag)) λhg=>Bd (hg) (Bn (Og F ha.2) λhb=>Bd (!hb.2.1) (some (false,hb.2.2)) (AN (Dw 40 (hb.2.2.fCells.length+([(Aa.mk 4 0 hb.1 0)]:List Aa).length))<|El hb.2.2.fS hb.2.2.fAt (hb.2.2.fCells++([(Aa.mk 4 0 hb.1 0)]:List Aa)) hb.2.2.fGreat)) (Bn (Oh F ha.2) λhf=>some (hf.1,hf.2)))))
def EY (rec_vRValue:Aw→Option (Bool×Aw)) (x16:(List Aa)) (hd:Int) (hf:Ag) (hg:Int) (hh:(List Aa)) (hi:Bool):Option (Stp (Int×Ag×Int×(List Aa)×Bool) (Out (Bool×Aw) (Unit))):=
 Bn (rec_vRValue (Aw.mk hf hg hh hi)) λha=>Bd (!ha.1) (some (.out (.ret (false,ha.2)))) (AN (Cu (x16.length:Int) (ha.2.fCells.length:Int))<|Ls (List.set ha.2.fCells (Int.toNat (x16.length:Int)) (Aa.mk ((Am ha.2.fCells (x16.length:Int)).fKind) ((Am ha.2.fCells (x16.length:Int)).fInt) ((Am ha.2.fCells (x16.length:Int)).fStr) hd)) λhj=>Bn (Ej (Aw.mk ha.2.fS ha.2.fAt hj ha.2.fGreat) ([93]:Ag)) λhe=>Bd (he.1) (some (.out (.ret (true,he.2)))) (Bn (Ej he.2 ([44]:Ag)) λhb=>Bd (!hb.1) (some (.out (.ret (false,hb.2)))) (AN (Bl .i64 (hd+1))<|some (.next (hd+1,hb.2.fS,hb.2.fAt,hb.2.fCells,hb.2.fGreat)))))
def HM :Option (Bool×Aw):=
 none
def Cw (rec_vRValue:Aw→Option (Bool×Aw)) (x16:(List Aa)) (hd:Int) (he:Ag×Bool×Aw) (hm:Bool) (hn:Bool) (hk:Bool) (hh:Ag) (hi:Int) (hf:(List Aa)) (hj:Bool):Option (Stp (Ag×Int×Ag×Int×(List Aa)×Bool) (Out (Bool×Aw) (Unit))):=
 Bd (hk) (some (.out (.ret (false,(Aw.mk hh hi hf hj))))) (AN (Dw 40 (hf.length+([(Aa.mk 4 0 he.1 0)]:List Aa).length))<|Bn (rec_vRValue (Aw.mk hh hi (hf++([(Aa.mk 4 0 he.1 0)]:List Aa)) hj)) λha=>Bd (!ha.1) (some (.out (.ret (false,ha.2)))) (AN (Cu (x16.length:Int) (ha.2.fCells.length:Int))<|Ls (List.set ha.2.fCells (Int.toNat (x16.length:Int)) (Aa.mk ((Am ha.2.fCells (x16.length:Int)).fKind) ((Am ha.2.fCells (x16.length:Int)).fInt) ((Am ha.2.fCells (x16.length:Int)).fStr) hd)) λhl=>Bn (Ej (Aw.mk ha.2.fS ha.2.fAt hl ha.2.fGreat) ([125]:Ag)) λhg=>Bd (hg.1) (some (.out (.ret (true,hg.2)))) (Bn (Ej hg.2 ([44]:Ag)) λhb=>Bd (!hb.1) (some (.out (.ret (false,hb.2)))) (AN (Bl .i64 (hd+1))<|some (.next (he.1,hd+1,hb.2.fS,hb.2.fAt,hb.2.fCells,hb.2.fGreat))))))
def EX (F:Nat) (rec_vRValue:Aw→Option (Bool×Aw)) (x16:(List Aa)) (hb:Ag) (hd:Int) (hg:Ag) (hh:Int) (hi:(List Aa)) (hj:Bool):Option (Stp (Ag×Int×Ag×Int×(List Aa)×Bool) (Out (Bool×Aw) (Unit))):=
 Bn (Og F (Aw.mk hg hh hi hj)) λha=>Bd (!ha.2.1) (Cw rec_vRValue x16 hd ha true true true ha.2.2.fS ha.2.2.fAt ha.2.2.fCells ha.2.2.fGreat) (Bd (decide (1<hd)) (Bd (Ci ha.1 hb||decide (ha.1=hb)) (Cw rec_vRValue x16 hd ha (Ci ha.1 hb||decide (ha.1=hb)) (Ci ha.1 hb||decide (ha.1=hb)) true ha.2.2.fS ha.2.2.fAt ha.2.2.fCells ha.2.2.fGreat) (Bn (Ej ha.2.2 ([58]:Ag)) λhe=>Cw rec_vRValue x16 hd ha (Ci ha.1 hb||decide (ha.1=hb)) (Ci ha.1 hb||decide (ha.1=hb)) (!he.1) he.2.fS he.2.fAt he.2.fCells he.2.fGreat)) (Bn (Ej ha.2.2 ([58]:Ag)) λhf=>Cw rec_vRValue x16 hd ha false false (!hf.1) hf.2.fS hf.2.fAt hf.2.fCells hf.2.fGreat))
def HL :Option (Bool×Aw):=
 none
def Ek (F:Nat) (rec_vRValue:Aw→Option (Bool×Aw)) (r1:Bool×Aw) (hh:Bool) (hd:Ag) (he:Int) (x16:(List Aa)) (hf:Bool):Option (Bool×Aw):=
 Bd (hh) (Bn (IC F (Aw.mk hd he x16 hf)) λhg=>some (hg.1,hg.2)) (Bd (r1.1) (AN (Dw 40 (x16.length+([(Aa.mk 5 0 ([]:Ag) 0)]:List Aa).length))<|Bn (Ej (Aw.mk hd he (x16++([(Aa.mk 5 0 ([]:Ag) 0)]:List Aa)) hf) ([93]:Ag)) λha=>Bd (ha.1) (some (true,ha.2)) (Bn (BF (λσ=>EY rec_vRValue x16 σ.1 σ.2.1 σ.2.2.1 σ.2.2.2.1 σ.2.2.2.2) F (1,ha.2.fS,ha.2.fAt,ha.2.fCells,ha.2.fGreat)) (B6 λν=>HM ))) (AN (Dw 40 (x16.length+([(Aa.mk 6 0 ([]:Ag) 0)]:List Aa).length))<|Bn (Ej (Aw.mk hd he (x16++([(Aa.mk 6 0 ([]:Ag) 0)]:List Aa)) hf) ([125]:Ag)) λhb=>Bd (hb.1) (some (true,hb.2)) (Bn (BF (λσ=>EX F rec_vRValue x16 σ.1 σ.2.1 σ.2.2.1 σ.2.2.2.1 σ.2.2.2.2.1 σ.2.2.2.2.2) F (([]:Ag),1,hb.2.fS,hb.2.fAt,hb.2.fCells,hb.2.fGreat)) (B6 λν=>HL ))))
def Lz (F:Nat) (rec_vRValue:Aw→Option (Bool×Aw)) (q:Aw):Option (Bool×Aw):=
 Bn (Ej q ([91]:Ag)) λr1=>Bd (!r1.1) (Bn (Ej r1.2 ([123]:Ag)) λha=>Ek F rec_vRValue r1 (!ha.1) ha.2.fS ha.2.fAt ha.2.fCells ha.2.fGreat) (Ek F rec_vRValue r1 false r1.2.fS r1.2.fAt r1.2.fCells r1.2.fGreat)
def C5:Nat→Aw→Option (Bool×Aw)
 | 0,_=>none
 | nn+1,q=>Lz nn (C5 nn) q
def GG (F:Nat) (hb:Bool) (hf:Ag) (hg:Int) (hd:(List Aa)) (he:Bool):Option ((List Aa)×Int):=
 Bd (hb) (some (([]:List Aa),1)) (Bd (he) (some (([]:List Aa),2)) (Bn (L5 F hd) λha=>some (ha.1,ha.2)))
def L3 (F:Nat) (s:Ag):Option ((List Aa)×Int):=
 Bd (decide (4000<(s.length:Int))) (some (([]:List Aa),3)) (Bn (C5 F (Aw.mk s 0 ([]:List Aa) false)) λha=>Bd (!ha.1) (GG F true ha.2.fS ha.2.fAt ha.2.fCells ha.2.fGreat) (GG F (!decide (ha.2.fAt=(s.length:Int))) ha.2.fS ha.2.fAt ha.2.fCells ha.2.fGreat))
end Go.Proofs.YtjfnokmpfekniaaGreatDoor
namespace Go.Proofs.YtjfnokmpfekniaaGreatDoor.Q
open Go Go.RowKit
set_option linter.unusedVariables false
set_option linter.unusedSimpArgs false
set_option maxRecDepth 100000
set_option maxHeartbeats 4000000
theorem Ez:∃inf,Tryz.prog.info? 78=some inf∧inf.zero=some (.agg #[(.int .i64 0),(.int .i64 0),(.string ⟨#[]⟩),(.int .i64 0)])∧inf.size=4∧inf.bytes=40:=by
  have key:(Tryz.prog.info? 78).map (λi=>(i.zero,i.size,i.bytes))=some (some (.agg #[(.int .i64 0),(.int .i64 0),(.string ⟨#[]⟩),(.int .i64 0)]),4,40):=by kernel_rfl
  obtain⟨inf,h1,h2⟩:=Option.map_eq_some_iff.1 key
  simp only[Prod.mk.injEq] at h2
  exact⟨inf,h1,h2.1,h2.2.1,h2.2.2⟩
theorem Ra (parts:List (Nat×Value)):Tryz.prog.built 78 parts=Instr.fill (λi=>(#[(0,1),(1,1),(2,1),(3,1)]:Array (Nat×Nat))[i]?) #[(.int .i64 0),(.int .i64 0),(.string ⟨#[]⟩),(.int .i64 0)] parts:=by kernel_rfl
theorem Ex {n:Nat} {c:Cx} {l:Fr} {H:List Ent} {d:Option Nat} {ty:TypeId} {pos:String} {af:Array Edge} {g:Option (Nat×Bool)} {x0:Operand} {r0:Rp} (h0:ev l x0=some r0) (u0:r0.one=true):Bq Tryz.prog n c l H { dst:=d,op:=.build 78 #[(0,x0)],type:=ty,pos:=pos,after:=af,guard:=g } (B9 [r0,rI .i64 0,rS ([]:Ag),rI .i64 0]):=λa w Z ha _=>by
  have p0:=ha.ev h0
  have c0:=BR (r0.hone u0 Z _ p0)
  have hb:Tryz.prog.built 78 [(0,a.eval x0)]=some #[a.eval x0,(.int .i64 0),(.string ⟨#[]⟩),(.int .i64 0)]:=by
    rw[Ra]
    generalize a.eval x0=v0 at *
    simp[Instr.fill,c0]
  refine⟨.agg #[a.eval x0,(.int .i64 0),(.string ⟨#[]⟩),(.int .i64 0)],⟨[a.eval x0,(.int .i64 0),(.string ⟨#[]⟩),(.int .i64 0)],rfl,p0,rfl,rfl,rfl,trivial⟩,?_⟩
  have:=run_build w 78 #[(0,a.eval x0)] _ (by simpa using hb)
  simp[execOp,this]
theorem Ck {n:Nat} {c:Cx} {l:Fr} {H:List Ent} {d:Option Nat} {ty:TypeId} {pos:String} {af:Array Edge} {g:Option (Nat×Bool)} {x0:Operand} {r0:Rp} (h0:ev l x0=some r0) (u0:r0.one=true) {x1:Operand} {r1:Rp} (h1:ev l x1=some r1) (u1:r1.one=true):Bq Tryz.prog n c l H { dst:=d,op:=.build 78 #[(0,x0),(1,x1)],type:=ty,pos:=pos,after:=af,guard:=g } (B9 [r0,r1,rS ([]:Ag),rI .i64 0]):=λa w Z ha _=>by
  have p0:=ha.ev h0
  have c0:=BR (r0.hone u0 Z _ p0)
  have p1:=ha.ev h1
  have c1:=BR (r1.hone u1 Z _ p1)
  have hb:Tryz.prog.built 78 [(0,a.eval x0),(1,a.eval x1)]=some #[a.eval x0,a.eval x1,(.string ⟨#[]⟩),(.int .i64 0)]:=by
    rw[Ra]
    generalize a.eval x0=v0 at *
    generalize a.eval x1=v1 at *
    simp[Instr.fill,c0,c1]
  refine⟨.agg #[a.eval x0,a.eval x1,(.string ⟨#[]⟩),(.int .i64 0)],⟨[a.eval x0,a.eval x1,(.string ⟨#[]⟩),(.int .i64 0)],rfl,p0,p1,rfl,rfl,trivial⟩,?_⟩
  have:=run_build w 78 #[(0,a.eval x0),(1,a.eval x1)] _ (by simpa using hb)
  simp[execOp,this]
theorem EO {n:Nat} {c:Cx} {l:Fr} {H:List Ent} {d:Option Nat} {ty:TypeId} {pos:String} {af:Array Edge} {g:Option (Nat×Bool)} {x0:Operand} {r0:Rp} (h0:ev l x0=some r0) (u0:r0.one=true) {x2:Operand} {r2:Rp} (h2:ev l x2=some r2) (u2:r2.one=true):Bq Tryz.prog n c l H { dst:=d,op:=.build 78 #[(0,x0),(2,x2)],type:=ty,pos:=pos,after:=af,guard:=g } (B9 [r0,rI .i64 0,r2,rI .i64 0]):=λa w Z ha _=>by
  have p0:=ha.ev h0
  have c0:=BR (r0.hone u0 Z _ p0)
  have p2:=ha.ev h2
  have c2:=BR (r2.hone u2 Z _ p2)
  have hb:Tryz.prog.built 78 [(0,a.eval x0),(2,a.eval x2)]=some #[a.eval x0,(.int .i64 0),a.eval x2,(.int .i64 0)]:=by
    rw[Ra]
    generalize a.eval x0=v0 at *
    generalize a.eval x2=v2 at *
    simp[Instr.fill,c0,c2]
  refine⟨.agg #[a.eval x0,(.int .i64 0),a.eval x2,(.int .i64 0)],⟨[a.eval x0,(.int .i64 0),a.eval x2,(.int .i64 0)],rfl,p0,rfl,p2,rfl,trivial⟩,?_⟩
  have:=run_build w 78 #[(0,a.eval x0),(2,a.eval x2)] _ (by simpa using hb)
  simp[execOp,this]
theorem YG (parts:List (Nat×Value)):Tryz.prog.built 127 parts=Instr.fill (λi=>(#[(0,1),(1,1),(2,1),(3,1)]:Array (Nat×Nat))[i]?) #[(.string ⟨#[]⟩),(.int .i64 0),((.slice none 0 0)),(.bool false)] parts:=by kernel_rfl
theorem QF {n:Nat} {c:Cx} {l:Fr} {H:List Ent} {d:Option Nat} {ty:TypeId} {pos:String} {af:Array Edge} {g:Option (Nat×Bool)} {x0:Operand} {r0:Rp} (h0:ev l x0=some r0) (u0:r0.one=true):Bq Tryz.prog n c l H { dst:=d,op:=.build 127 #[(0,x0)],type:=ty,pos:=pos,after:=af,guard:=g } (B9 [r0,rI .i64 0,rv (.slice none 0 0),rB false]):=λa w Z ha _=>by
  have p0:=ha.ev h0
  have c0:=BR (r0.hone u0 Z _ p0)
  have hb:Tryz.prog.built 127 [(0,a.eval x0)]=some #[a.eval x0,(.int .i64 0),((.slice none 0 0)),(.bool false)]:=by
    rw[YG]
    generalize a.eval x0=v0 at *
    simp[Instr.fill,c0]
  refine⟨.agg #[a.eval x0,(.int .i64 0),((.slice none 0 0)),(.bool false)],⟨[a.eval x0,(.int .i64 0),((.slice none 0 0)),(.bool false)],rfl,p0,rfl,rfl,rfl,trivial⟩,?_⟩
  have:=run_build w 127 #[(0,a.eval x0)] _ (by simpa using hb)
  simp[execOp,this]
theorem Pw (s:Ag) (p:Ag) (r:Bool) (h:Ig s p=some r):Fn Tryz.prog GE 64 [rS s,rS p] [] (λR H=>R=rB r∧H=[]):=by
 refine enter (n:=18) Tryz.func64 rfl Tryz.ntmps64 rfl (λw Z=>?_)
 unfold Ig at h
 refine Ae (wa rfl (Ak (ck h λg1 h2=>A6 [(4,rB ((decide ((p.length:Int)≤(s.length:Int)))&&(decide ((List.take (Int.toNat (p.length:Int)) s)=p))))] [] ?_ ?_)))
 ·refine Af (wm rfl (wv (AW BC rfl) (wm rfl (wv (AW BC rfl) (wv (G0 rfl rfl) (wm rfl (AI (decide ((p.length:Int)≤(s.length:Int))) (λc3=>?_) (λc3=>?_))))))))
  ·refine wo c3 (wm rfl (wo c3 (wm rfl (wo c3 (wv (AW BC rfl) (wo c3 (wv (Lg BC rfl rfl (C2 g1 c3)) (wo c3 (wm rfl (wo c3 (wv (Ef rfl rfl) (EF rfl c3 rfl (wa rfl (Aj ?_))))))))))))))
   exact BM c3
  ·refine wf c3 (wf c3 (wf c3 (wf c3 (wf c3 (wf c3 (wv (r:=rB false) (A7 rfl c3 rfl) (wa rfl (Aj ?_))))))))
   exact BM c3
 refine Aq ?_
 obtain rfl:=As h2
 exact Ap (BW Tryz.results64 (A4 rfl)) sN ⟨rfl,rfl⟩
theorem Ns (s:Ag) (p:Ag) (r:Bool) (h:HC s p=some r):Fn Tryz.prog GE 44 [rS s,rS p] [] (λR H=>R=rB r∧H=[]):=by
 refine enter (n:=8) Tryz.func44 rfl Tryz.ntmps44 rfl (λw Z=>?_)
 unfold HC at h
 refine Ae (wa rfl (Bf (wm rfl (wm rfl (ob h λr1 e3 h2=>Cg Tryz.call64 (Pw s p r1 e3) rfl (wa rfl (Ak (Aq ?_))))))))
 obtain rfl:=As h2
 exact Ap (BW Tryz.results44 (A4 rfl)) sN ⟨rfl,rfl⟩
theorem DU (b_q:Nat) (v_q_2:Value) (q:Aw) (s:Ag) (r:Bool×Aw) (h:Ej q s=some r):Fn Tryz.prog GE 133 [rP b_q 0,rS s] [.blk b_q [rS q.fS,rI .i64 q.fAt,rv v_q_2,rB q.fGreat] 127,.row v_q_2 78 4 (List.map Ab q.fCells)] (λR H=>∃w0_2:Value,R=rB r.1∧H=[.blk b_q [rS r.2.fS,rI .i64 r.2.fAt,rv w0_2,rB r.2.fGreat] 127,.row w0_2 78 4 (List.map Ab r.2.fCells)]):=by
 refine enter (n:=26) Tryz.func133 rfl Tryz.ntmps133 rfl (λw Z=>?_)
 unfold Ej at h
 refine Ae (wa rfl (Ak (Ai (Ai (ck h λg1 h2=>ob h2 λr3 e5 h4=>CH [0,1] [⟨[],rP b_q 0,0⟩,⟨[0],rP b_q 0,0⟩,⟨[1],rP b_q 0,0⟩,⟨[2],rS q.fS,1⟩,⟨[],rP b_q 0,0⟩,⟨[4],rP b_q 0,0⟩,⟨[5],rP b_q 1,0⟩,⟨[6],rI .i64 q.fAt,1⟩,⟨[3,7],rS (List.drop (Int.toNat q.fAt) q.fS),0⟩,⟨[],rS s,0⟩,⟨[8,9],rB r3,0⟩,⟨[10],rB (!r3),0⟩] [16,0,1] ?_ ?_)))))
 ·refine oq (Al rfl) (oq (A2 rfl) (oq (AH B5 rfl CD rfl rfl) (of (Bp (i:=0) Dm rfl rfl rfl) (oq (Al rfl) (oq (A2 rfl) (oq (AH B5 rfl Cq rfl rfl) (of (Bp (i:=0) CU rfl rfl rfl) (oq (Dq BC rfl rfl g1) (oq (Al rfl) (Ee rfl (λH=>HR Tryz.call44 (Ns (List.drop (Int.toNat q.fAt) q.fS) s r3 e5) rfl) ?_))))))))))
  refine oq (Cd rfl) ?_
  exact Cj
 refine AF (cz h4 rfl (λc6 h7=>?_) (λc6 h8=>?_))
 ·refine Ae (wa rfl (Ak (Aq (Ac ?_))))
  obtain rfl:=As h7
  exact Ap (BW Tryz.results133 (A4 rfl)) (sC (sC sN)) ⟨v_q_2,rfl,rfl⟩
 ·refine An (AF (Ae (wm rfl (wv (A2 rfl) (vF B5 rfl Cq (vL 0 CU rfl (wm rfl (wv (AW BC rfl) (ck h8 λg9 ha=>wv (AX rfl rfl g9) (wv (A2 rfl) (vF B5 rfl Cq (BB (i:=0) Cq rfl rfl (Co rfl) rfl rfl (cs':=[rS q.fS,rI .i64 (q.fAt+(s.length:Int)),rv v_q_2,rB q.fGreat]) rfl (H':=[.blk b_q [rS q.fS,rI .i64 (q.fAt+(s.length:Int)),rv v_q_2,rB q.fGreat] 127,.row v_q_2 78 4 (List.map Ab q.fCells)]) rfl (Bf (wa rfl (Ak (Aq ?_))))))))))))))))
  obtain rfl:=As ha
  exact Ap (BW Tryz.results133 (A4 rfl)) (sC (sC sN)) ⟨v_q_2,rfl,rfl⟩
theorem TK (F:Nat) (b_q:Nat) (v_q_2:Value) (q:Aw) (r:Ag×Bool×Aw) (h:Og F q=some r):Fn Tryz.prog GE 135 [rP b_q 0] [.blk b_q [rS q.fS,rI .i64 q.fAt,rv v_q_2,rB q.fGreat] 127,.row v_q_2 78 4 (List.map Ab q.fCells)] (λR H=>∃w0_2:Value,R=Cm [rS r.1,rB r.2.1]∧H=[.blk b_q [rS r.2.2.fS,rI .i64 r.2.2.fAt,rv w0_2,rB r.2.2.fGreat] 127,.row w0_2 78 4 (List.map Ab r.2.2.fCells)]):=by
 refine enter (n:=104) Tryz.func135 rfl Tryz.ntmps135 rfl (λw Z=>?_)
 unfold Og at h
 refine Ae (wv (r:=rS ([]:Ag)) (Ao rfl) (wa rfl (Ak (Ai (Ae (wm rfl (ob h λr1 e3 h2=>Hb (Hr:=[]) HH (DU b_q v_q_2 q ([34]:Ag) r1 e3) rfl (List.Perm.refl _) rfl ?_)))))))
 rintro _ _ ⟨v4,rfl,rfl⟩
 refine wv (Cd rfl) (Ak (cz h2 rfl (λc5 h6=>?_) (λc5 h7=>?_)))
 ·refine Ae (wv (r:=rS ([]:Ag)) (Ao rfl) (wa rfl (Ak (Aq (Ac ?_)))))
  obtain rfl:=As h6
  exact Ap (Cy Rq (A4 rfl) (A4 rfl)) (sC (sC sN)) ⟨v4,rfl,rfl⟩
 ·refine An (AF (Ae (wa rfl (Ak (Ai (AB (WC.nilrow (e:=5) (sz:=1) (NE (H2:=[.blk b_q [rS r1.2.fS,rI .i64 r1.2.fAt,rv v4,rB r1.2.fGreat] 127,.row v4 78 4 (List.map Ab r1.2.fCells),.row (.slice none 0 0     ) 5 1 (List.map Bi ([]:List Int))]) ((A5 (i:=1) rfl).trans (List.Perm.cons _ ((A5 (i:=1) rfl).trans (List.Perm.cons _ (List.Perm.refl _))))) (ob h7 λhs ht hj=>Bk (S:=Nat×((List Int)×Int)×(Value)) (V:=(Int)×(Unit)) 0 (λσ=>BF (λσ=>EI r1 σ.1 σ.2) σ.1 σ.2.1=some hs) (λσ=>[(0,rP b_q 0),(4,rv σ.2.2)]) (λσ=>[.blk b_q [rS r1.2.fS,rI .i64 σ.2.1.2,rv v4,rB r1.2.fGreat] 127,.row v4 78 4 (List.map Ab r1.2.fCells),.row σ.2.2 5 1 (List.map Bi σ.2.1.1)]) (λσ=>σ.1) (F,(([]:List Int),r1.2.fAt),(.slice none 0 0     )) ht (AC.c rfl (AC.c rfl AC.nil)) (sC (sC (sC sN))) (λσ=>IB r1 σ.1=some r) (λσ=>[]) (λσ=>[.blk b_q [rS r1.2.fS,rI .i64 σ.1,rv v4,rB r1.2.fGreat] 127,.row v4 78 4 (List.map Ab r1.2.fCells)]) ?_ ?_)))))))))
  ·rintro⟨hY,⟨he,ha⟩,hf⟩ hu
   refine BO (l':=[(0,rP b_q 0),(4,rv hf)]) (H':=[.blk b_q [rS r1.2.fS,rI .i64 ha,rv v4,rB r1.2.fGreat] 127,.row v4 78 4 (List.map Ab r1.2.fCells),.row hf 5 1 (List.map Bi he)]) rfl rfl ?_
   obtain⟨hw,rfl,ho,hk,hi⟩:=Ce hu
   replace hk:EI r1 he ha=some ho:=hk
   unfold EI at hk
   refine Ai (Ai (CH [0,4] [⟨[],rP b_q 0,0⟩,⟨[0],rP b_q 0,0⟩,⟨[1],rP b_q 1,0⟩,⟨[2],rI .i64 ha,1⟩,⟨[],rP b_q 0,0⟩,⟨[4],rP b_q 0,0⟩,⟨[5],rP b_q 0,0⟩,⟨[6],rS r1.2.fS,1⟩,⟨[7],rI .i64 (r1.2.fS.length:Int),0⟩,⟨[3,8],rB (decide (ha<(r1.2.fS.length:Int))),0⟩] [9,10,11,12,13,14,15,16,17,18,0,4] ?_ ?_))
   ·refine oq (Al rfl) (oq (A2 rfl) (oq (AH B5 rfl Cq rfl rfl) (of (Bp (i:=0) CU rfl rfl rfl) (oq (Al rfl) (oq (A2 rfl) (oq (AH B5 rfl CD rfl rfl) (of (Bp (i:=0) Dm rfl rfl rfl) (oq (AW BC rfl) (oq (BY rfl rfl) ?_)))))))))
    exact Cj
   refine AF (cz hk rfl (λhx hy=>?_) (λhx hz=>?_))
   ·refine An (AF (AB (Ai (ck hy λh0 h1=>CH [0,4,9,10,11,12,13,14,15,16,17] [⟨[],rP b_q 0,0⟩,⟨[0],rP b_q 0,0⟩,⟨[1],rP b_q 0,0⟩,⟨[2],rS r1.2.fS,1⟩,⟨[],rP b_q 0,0⟩,⟨[4],rP b_q 0,0⟩,⟨[5],rP b_q 1,0⟩,⟨[6],rI .i64 ha,1⟩,⟨[3,7],rI .u8 (AK r1.2.fS ha),0⟩,⟨[8],rI .u8 (AK r1.2.fS ha),0⟩] [19,20,21,22,23,24,25,26,27,5,0,4,9,10,11,12,13,14,15,16,17] ?_ ?_))))
    ·refine oq (Al rfl) (oq (A2 rfl) (oq (AH B5 rfl CD rfl rfl) (of (Bp (i:=0) Dm rfl rfl rfl) (oq (Al rfl) (oq (A2 rfl) (oq (AH B5 rfl Cq rfl rfl) (of (Bp (i:=0) CU rfl rfl rfl) (oq (AO BC rfl rfl h0) (oq (Ao rfl) ?_)))))))))
     exact Cj
    refine AF (Ae (wm rfl (wv (A2 rfl) (vF B5 rfl Cq (vL 0 CU rfl (ck h1 λh3 h4=>wv (AX rfl rfl h3) (wv (A2 rfl) (vF B5 rfl Cq (BB (i:=0) Cq rfl rfl (Co rfl) rfl rfl (cs':=[rS r1.2.fS,rI .i64 (ha+1),rv v4,rB r1.2.fGreat]) rfl (H':=[.blk b_q [rS r1.2.fS,rI .i64 (ha+1),rv v4,rB r1.2.fGreat] 127,.row v4 78 4 (List.map Ab r1.2.fCells),.row hf 5 1 (List.map Bi he)]) rfl (Ak (DS (S:=(Int×Int)×(Unit)) (λσ=>Gx he σ.1.1 σ.1.2=some ho) (λσ=>[(0,rP b_q 0),(4,rv hf),(5,rI .u8 σ.1.1),(9,rP b_q 0),(10,rP b_q 0),(11,rP b_q 1),(12,rI .i64 ha),(13,rP b_q 0),(14,rP b_q 0),(15,rP b_q 0),(16,rS r1.2.fS),(17,rI .i64 (r1.2.fS.length:Int)),(19,rP b_q 0),(20,rP b_q 0),(21,rP b_q 0),(22,rS r1.2.fS),(23,rP b_q 0),(24,rP b_q 0),(25,rP b_q 1),(26,rI .i64 ha),(27,rI .u8 (AK r1.2.fS ha))]) (λσ=>[.blk b_q [rS r1.2.fS,rI .i64 σ.1.2,rv v4,rB r1.2.fGreat] 127,.row v4 78 4 (List.map Ab r1.2.fCells),.row hf 5 1 (List.map Bi he)]) ?_ ?_)))))))))))
    ·refine AB (Ae (wm rfl (wv (Bx rfl rfl) (wa rfl (Ak (cz h4 rfl (λh5 h8=>?_) (λh5 h9=>?_)))))))
     ·refine Ae (wm rfl (wv (r:=rS (Id he)) (PP (xs:=he) (i:=2) E2 BC It rfl rfl) (wa rfl (wa rfl (Ak (Aq (Av (Ac (Av (Ac (AS ?_)))))))))))
      have hA:=Bm h8 hi hj
      refine Av (Ac ?_)
      obtain rfl:=As hA
      exact Ap (Cy Rq (A4 rfl) (A4 rfl)) (sC (sC (sS sN))) ⟨v4,rfl,rfl⟩
     ·refine A6 [(0,rP b_q 0),(4,rv hf),(5,rI .u8 (AK r1.2.fS ha)),(9,rP b_q 0),(10,rP b_q 0),(11,rP b_q 1),(12,rI .i64 ha),(13,rP b_q 0),(14,rP b_q 0),(15,rP b_q 0),(16,rS r1.2.fS),(17,rI .i64 (r1.2.fS.length:Int)),(19,rP b_q 0),(20,rP b_q 0),(21,rP b_q 0),(22,rS r1.2.fS),(23,rP b_q 0),(24,rP b_q 0),(25,rP b_q 1),(26,rI .i64 ha),(27,rI .u8 (AK r1.2.fS ha)),(40,rB ((decide ((AK r1.2.fS ha)<32))||(decide (126<(AK r1.2.fS ha)))))] [.blk b_q [rS r1.2.fS,rI .i64 (ha+1),rv v4,rB r1.2.fGreat] 127,.row v4 78 4 (List.map Ab r1.2.fCells),.row hf 5 1 (List.map Bi he)] ?_ ?_
      ·refine Af (wm rfl (wv (BY rfl rfl) (wm rfl (AI (decide ((AK r1.2.fS ha)<32)) (λhg=>?_) (λhg=>?_)))))
       ·refine wf hg (wf hg (wv (r:=rB true) (Au rfl hg rfl) (wa rfl (Aj ?_))))
        exact BM hg
       ·refine wo hg (wm rfl (wo hg (wv (Cb rfl rfl) (DR rfl hg rfl (wa rfl (Aj ?_))))))
        exact BM hg
      refine cz h9 rfl (λhB hC=>?_) (λhB hD=>?_)
      ·refine Ae (wv (r:=rS ([]:Ag)) (Ao rfl) (wa rfl (Ak (Aq (Av (Ac (Av (Ac (AS ?_)))))))))
       have hE:=Bm hC hi hj
       refine Av (Ac ?_)
       obtain rfl:=As hE
       exact Ap (Cy Rq (A4 rfl) (A4 rfl)) (sC (sC (sS sN))) ⟨v4,rfl,rfl⟩
      ·refine Ae (wm rfl (wv (Bx rfl rfl) (wa rfl (Ak (cz hD rfl (λhG hH=>?_) (λhG hI=>?_))))))
       ·refine Ai (ck hH λhp hJ=>A6 [(0,rP b_q 0),(4,rv hf),(9,rP b_q 0),(10,rP b_q 0),(11,rP b_q 1),(12,rI .i64 ha),(13,rP b_q 0),(14,rP b_q 0),(15,rP b_q 0),(16,rS r1.2.fS),(17,rI .i64 (r1.2.fS.length:Int)),(19,rP b_q 0),(20,rP b_q 0),(21,rP b_q 0),(22,rS r1.2.fS),(23,rP b_q 0),(24,rP b_q 0),(25,rP b_q 1),(26,rI .i64 ha),(27,rI .u8 (AK r1.2.fS ha)),(50,rP b_q 0),(51,rP b_q 0),(52,rP b_q 1),(53,rI .i64 (ha+1)),(54,rP b_q 0),(55,rP b_q 0),(56,rP b_q 0),(57,rS r1.2.fS),(58,rI .i64 (r1.2.fS.length:Int)),(59,rB (decide ((r1.2.fS.length:Int)≤(ha+1)))),(60,rB (decide ((r1.2.fS.length:Int)≤(ha+1)))),(83,rB ((decide ((r1.2.fS.length:Int)≤(ha+1)))||((!decide ((AK r1.2.fS (ha+1))=34))&&(!decide ((AK r1.2.fS (ha+1))=92)))))] [.blk b_q [rS r1.2.fS,rI .i64 (ha+1),rv v4,rB r1.2.fGreat] 127,.row v4 78 4 (List.map Ab r1.2.fCells),.row hf 5 1 (List.map Bi he)] ?_ ?_)
        ·refine AI (decide ((r1.2.fS.length:Int)≤(ha+1))) (λhb=>?_) (λhb=>?_)
         ·refine CH [0,4,9,10,11,12,13,14,15,16,17,19,20,21,22,23,24,25,26,27] [⟨[],rP b_q 0,0⟩,⟨[0],rP b_q 0,0⟩,⟨[1],rP b_q 1,0⟩,⟨[2],rI .i64 (ha+1),1⟩,⟨[],rP b_q 0,0⟩,⟨[4],rP b_q 0,0⟩,⟨[5],rP b_q 0,0⟩,⟨[6],rS r1.2.fS,1⟩,⟨[7],rI .i64 (r1.2.fS.length:Int),0⟩,⟨[3,8],rB (decide ((r1.2.fS.length:Int)≤(ha+1))),0⟩,⟨[9],rB (decide ((r1.2.fS.length:Int)≤(ha+1))),0⟩,⟨[10],rv undef,0⟩,⟨[11,10],rv undef,0⟩,⟨[12,10],rv undef,0⟩,⟨[13,10],rv undef,0⟩,⟨[10],rv undef,0⟩,⟨[15,10],rv undef,0⟩,⟨[16,10],rv undef,0⟩,⟨[17,10],rv undef,0⟩,⟨[14,18,10],rv undef,0⟩,⟨[19,10],rv undef,0⟩,⟨[20,10],rv undef,0⟩,⟨[21],rv undef,0⟩,⟨[22,21],rv undef,0⟩,⟨[23,21],rv undef,0⟩,⟨[24,21],rv undef,0⟩,⟨[21],rv undef,0⟩,⟨[26,21],rv undef,0⟩,⟨[27,21],rv undef,0⟩,⟨[28,21],rv undef,0⟩,⟨[25,29,21],rv undef,0⟩,⟨[30,21],rv undef,0⟩,⟨[21,31,10],rv undef,0⟩,⟨[10,32],rB true,0⟩] [50,51,52,53,54,55,56,57,58,59,60,61,62,63,64,65,66,67,68,69,70,71,72,73,74,75,76,77,78,79,80,81,82,83,0,4,9,10,11,12,13,14,15,16,17,19,20,21,22,23,24,25,26,27] ?_ ?_
          ·refine oq (Al rfl) (oq (A2 rfl) (oq (AH B5 rfl Cq rfl rfl) (of (Bp (i:=0) CU rfl rfl rfl) (oq (Al rfl) (oq (A2 rfl) (oq (AH B5 rfl CD rfl rfl) (of (Bp (i:=0) Dm rfl rfl rfl) (oq (AW BC rfl) (oq (G0 rfl rfl) (oq (Al rfl) (oz hb (oz hb (oz hb (oz hb (oz hb (oz hb (oz hb (oz hb (oz hb (oz hb (oz hb (ou (ou ?_)))))))))))))))))))))))
           refine ou (ou (ou (ou (ou (ou (ou (ou (oz hb (oq (Au (b:=decide ((r1.2.fS.length:Int)≤(ha+1))) rfl hb rfl) ?_)))))))))
           exact Cj
          exact BM hb
         ·refine AI (!decide ((AK r1.2.fS (ha+1))=34)) (λhd=>?_) (λhd=>?_)
          ·refine CH [0,4,9,10,11,12,13,14,15,16,17,19,20,21,22,23,24,25,26,27] [⟨[],rP b_q 0,0⟩,⟨[0],rP b_q 0,0⟩,⟨[1],rP b_q 1,0⟩,⟨[2],rI .i64 (ha+1),1⟩,⟨[],rP b_q 0,0⟩,⟨[4],rP b_q 0,0⟩,⟨[5],rP b_q 0,0⟩,⟨[6],rS r1.2.fS,1⟩,⟨[7],rI .i64 (r1.2.fS.length:Int),0⟩,⟨[3,8],rB (decide ((r1.2.fS.length:Int)≤(ha+1))),0⟩,⟨[9],rB (decide ((r1.2.fS.length:Int)≤(ha+1))),0⟩,⟨[10],rP b_q 0,0⟩,⟨[11,10],rP b_q 0,0⟩,⟨[12,10],rP b_q 0,0⟩,⟨[13,10],rS r1.2.fS,1⟩,⟨[10],rP b_q 0,0⟩,⟨[15,10],rP b_q 0,0⟩,⟨[16,10],rP b_q 1,0⟩,⟨[17,10],rI .i64 (ha+1),1⟩,⟨[14,18,10],rI .u8 (AK r1.2.fS (ha+1)),0⟩,⟨[19,10],rB (!decide ((AK r1.2.fS (ha+1))=34)),0⟩,⟨[20,10],rB (!decide ((AK r1.2.fS (ha+1))=34)),0⟩,⟨[21],rP b_q 0,0⟩,⟨[22,21],rP b_q 0,0⟩,⟨[23,21],rP b_q 0,0⟩,⟨[24,21],rS r1.2.fS,1⟩,⟨[21],rP b_q 0,0⟩,⟨[26,21],rP b_q 0,0⟩,⟨[27,21],rP b_q 1,0⟩,⟨[28,21],rI .i64 (ha+1),1⟩,⟨[25,29,21],rI .u8 (AK r1.2.fS (ha+1)),0⟩,⟨[30,21],rB (!decide ((AK r1.2.fS (ha+1))=92)),0⟩,⟨[21,31,10],rB (!decide ((AK r1.2.fS (ha+1))=92)),0⟩,⟨[10,32],rB (!decide ((AK r1.2.fS (ha+1))=92)),0⟩] [50,51,52,53,54,55,56,57,58,59,60,61,62,63,64,65,66,67,68,69,70,71,72,73,74,75,76,77,78,79,80,81,82,83,0,4,9,10,11,12,13,14,15,16,17,19,20,21,22,23,24,25,26,27] ?_ ?_
           ·refine oq (Al rfl) (oq (A2 rfl) (oq (AH B5 rfl Cq rfl rfl) (of (Bp (i:=0) CU rfl rfl rfl) (oq (Al rfl) (oq (A2 rfl) (oq (AH B5 rfl CD rfl rfl) (of (Bp (i:=0) Dm rfl rfl rfl) (oq (AW BC rfl) (oq (G0 rfl rfl) (oq (Al rfl) (on hb (oq (Al rfl) (on hb (oq (A2 rfl) (on hb (oq (AH B5 rfl CD rfl rfl) (on hb (of (Bp (i:=0) Dm rfl rfl rfl) (on hb (oq (Al rfl) (on hb (oq (A2 rfl) (on hb ?_)))))))))))))))))))))))
            refine oq (AH B5 rfl Cq rfl rfl) (on hb (of (Bp (i:=0) CU rfl rfl rfl) (on hb (oq (AO BC rfl rfl (Cr hp hb)) (on hb (oq (CB rfl rfl) (on hb (oq (Al rfl) (on hd (oq (Al rfl) (on hd (oq (A2 rfl) (on hd (oq (AH B5 rfl CD rfl rfl) (on hd (of (Bp (i:=0) Dm rfl rfl rfl) (on hd (oq (Al rfl) (on hd (oq (A2 rfl) (on hd (oq (AH B5 rfl Cq rfl rfl) (on hd ?_)))))))))))))))))))))))
            refine of (Bp (i:=0) CU rfl rfl rfl) (on hd (oq (AO BC rfl rfl (Cr hp hb)) (on hd (oq (CB rfl rfl) (on hb (oq (Au rfl hd rfl) (oq (A7 rfl hb rfl) ?_)))))))
            exact Cj
           exact BM (And.intro hb hd)
          ·refine CH [0,4,9,10,11,12,13,14,15,16,17,19,20,21,22,23,24,25,26,27] [⟨[],rP b_q 0,0⟩,⟨[0],rP b_q 0,0⟩,⟨[1],rP b_q 1,0⟩,⟨[2],rI .i64 (ha+1),1⟩,⟨[],rP b_q 0,0⟩,⟨[4],rP b_q 0,0⟩,⟨[5],rP b_q 0,0⟩,⟨[6],rS r1.2.fS,1⟩,⟨[7],rI .i64 (r1.2.fS.length:Int),0⟩,⟨[3,8],rB (decide ((r1.2.fS.length:Int)≤(ha+1))),0⟩,⟨[9],rB (decide ((r1.2.fS.length:Int)≤(ha+1))),0⟩,⟨[10],rP b_q 0,0⟩,⟨[11,10],rP b_q 0,0⟩,⟨[12,10],rP b_q 0,0⟩,⟨[13,10],rS r1.2.fS,1⟩,⟨[10],rP b_q 0,0⟩,⟨[15,10],rP b_q 0,0⟩,⟨[16,10],rP b_q 1,0⟩,⟨[17,10],rI .i64 (ha+1),1⟩,⟨[14,18,10],rI .u8 (AK r1.2.fS (ha+1)),0⟩,⟨[19,10],rB (!decide ((AK r1.2.fS (ha+1))=34)),0⟩,⟨[20,10],rB (!decide ((AK r1.2.fS (ha+1))=34)),0⟩,⟨[21],rv undef,0⟩,⟨[22,21],rv undef,0⟩,⟨[23,21],rv undef,0⟩,⟨[24,21],rv undef,0⟩,⟨[21],rv undef,0⟩,⟨[26,21],rv undef,0⟩,⟨[27,21],rv undef,0⟩,⟨[28,21],rv undef,0⟩,⟨[25,29,21],rv undef,0⟩,⟨[30,21],rv undef,0⟩,⟨[21,31,10],rB false,0⟩,⟨[10,32],rB false,0⟩] [50,51,52,53,54,55,56,57,58,59,60,61,62,63,64,65,66,67,68,69,70,71,72,73,74,75,76,77,78,79,80,81,82,83,0,4,9,10,11,12,13,14,15,16,17,19,20,21,22,23,24,25,26,27] ?_ ?_
           ·refine oq (Al rfl) (oq (A2 rfl) (oq (AH B5 rfl Cq rfl rfl) (of (Bp (i:=0) CU rfl rfl rfl) (oq (Al rfl) (oq (A2 rfl) (oq (AH B5 rfl CD rfl rfl) (of (Bp (i:=0) Dm rfl rfl rfl) (oq (AW BC rfl) (oq (G0 rfl rfl) (oq (Al rfl) (on hb (oq (Al rfl) (on hb (oq (A2 rfl) (on hb (oq (AH B5 rfl CD rfl rfl) (on hb (of (Bp (i:=0) Dm rfl rfl rfl) (on hb (oq (Al rfl) (on hb (oq (A2 rfl) (on hb ?_)))))))))))))))))))))))
            refine oq (AH B5 rfl Cq rfl rfl) (on hb (of (Bp (i:=0) CU rfl rfl rfl) (on hb (oq (AO BC rfl rfl (Cr hp hb)) (on hb (oq (CB rfl rfl) (on hb (oq (Al rfl) (oz hd (oz hd (oz hd (oz hd (oz hd (oz hd (oz hd (oz hd (oz hd (oz hd (on hb (oq (A7 (b:=!decide ((AK r1.2.fS (ha+1))=34)) rfl hd rfl) (oq (A7 rfl hb rfl) ?_)))))))))))))))))))))
            exact Cj
           exact BM (And.intro hb hd)
        refine cz hJ rfl (λhK hL=>?_) (λhK hN=>?_)
        ·refine Ae (wv (r:=rS ([]:Ag)) (Ao rfl) (wa rfl (Ak (Aq (Ac (Av (Ac (Av (Ac (AS ?_))))))))))
         have hO:=Bm hL hi hj
         refine Av (Ac ?_)
         obtain rfl:=As hO
         exact Ap (Cy Rq (A4 rfl) (A4 rfl)) (sC (sC (sS sN))) ⟨v4,rfl,rfl⟩
        ·refine An (AF (Ai (ck hN λhP hQ=>CH [0,4,9,10,11,12,13,14,15,16,17,19,20,21,22,23,24,25,26,27,50,51,52,53,54,55,56,57,58,59,60] [⟨[],rP b_q 0,0⟩,⟨[0],rP b_q 0,0⟩,⟨[1],rP b_q 0,0⟩,⟨[2],rS r1.2.fS,1⟩,⟨[],rP b_q 0,0⟩,⟨[4],rP b_q 0,0⟩,⟨[5],rP b_q 1,0⟩,⟨[6],rI .i64 (ha+1),1⟩,⟨[3,7],rI .u8 (AK r1.2.fS (ha+1)),0⟩,⟨[8],rI .u8 (AK r1.2.fS (ha+1)),0⟩] [84,85,86,87,88,89,90,91,92,5,0,4,9,10,11,12,13,14,15,16,17,19,20,21,22,23,24,25,26,27,50,51,52,53,54,55,56,57,58,59,60] ?_ ?_)))
         ·refine oq (Al rfl) (oq (A2 rfl) (oq (AH B5 rfl CD rfl rfl) (of (Bp (i:=0) Dm rfl rfl rfl) (oq (Al rfl) (oq (A2 rfl) (oq (AH B5 rfl Cq rfl rfl) (of (Bp (i:=0) CU rfl rfl rfl) (oq (AO BC rfl rfl hP) (oq (Ao rfl) ?_)))))))))
          exact Cj
         exact AF (Af (wm rfl (wv (A2 rfl) (vF B5 rfl Cq (vL 0 CU rfl (ck hQ λhR hS=>wv (AX rfl rfl hR) (wv (A2 rfl) (vF B5 rfl Cq (BB (i:=0) Cq rfl rfl (Co rfl) rfl rfl (cs':=[rS r1.2.fS,rI .i64 ((ha+1)+1),rv v4,rB r1.2.fGreat]) rfl (H':=[.blk b_q [rS r1.2.fS,rI .i64 ((ha+1)+1),rv v4,rB r1.2.fGreat] 127,.row v4 78 4 (List.map Ab r1.2.fCells),.row hf 5 1 (List.map Bi he)]) rfl (Aj (A8 (Ar (A3 ((AK r1.2.fS (ha+1),(ha+1)+1),()) hS (AC.c rfl (AC.c5 rfl rfl rfl rfl rfl (AC.c5 rfl rfl rfl rfl rfl (AC.c5 rfl rfl rfl rfl rfl (AC.c5 rfl rfl rfl rfl rfl AC.nil))))) (sC (sC (sC sN))))))))))))))))
       ·exact An (A8 (Ar (A3 ((AK r1.2.fS ha,ha+1),()) hI (AC.c rfl (AC.c5 rfl rfl rfl rfl rfl (AC.c5 rfl rfl rfl rfl rfl (AC.c5 rfl rfl rfl rfl rfl (AC.c5 rfl rfl rfl rfl rfl AC.nil))))) (sC (sC (sC sN))))))
    ·rintro⟨⟨hh,hl⟩,⟨⟩⟩ hm
     refine BO (l':=[(0,rP b_q 0),(4,rv hf),(5,rI .u8 hh),(9,rP b_q 0),(10,rP b_q 0),(11,rP b_q 1),(12,rI .i64 ha),(13,rP b_q 0),(14,rP b_q 0),(15,rP b_q 0),(16,rS r1.2.fS),(17,rI .i64 (r1.2.fS.length:Int)),(19,rP b_q 0),(20,rP b_q 0),(21,rP b_q 0),(22,rS r1.2.fS),(23,rP b_q 0),(24,rP b_q 0),(25,rP b_q 1),(26,rI .i64 ha),(27,rI .u8 (AK r1.2.fS ha))]) (H':=[.blk b_q [rS r1.2.fS,rI .i64 hl,rv v4,rB r1.2.fGreat] 127,.row v4 78 4 (List.map Ab r1.2.fCells),.row hf 5 1 (List.map Bi he)]) rfl rfl ?_
     replace hm:Gx he hh hl=some ho:=hm
     unfold Gx at hm
     refine Af (wm rfl (wm rfl (AQ (ys:=([hh]:List Int)) (enc:=Bi) (css:=[[rI .u8 hh]]) (xs:=[.tmp 101]) E2 YW YV rfl rfl rfl ⟨Eb.one rfl (Up.refl _),trivial⟩ rfl CW rfl rfl rfl (λhT=>?_))))
     refine ck hm λhU hV=>Exists.elim J1 λinf hinf=>BG (xs:=he) (ys:=([hh]:List Int)) (enc:=Bi) (i:=3) E2 hinf.1 hinf.2.1 hinf.2.2.1 hinf.2.2.2 rfl rfl rfl rfl rfl (Ja.w (i:=0) rfl rfl) CW IW hU rfl (λhq=>?_)
     refine wa rfl (Aj (A8 (Cv (H2:=[.blk b_q [rS r1.2.fS,rI .i64 hl,rv v4,rB r1.2.fGreat] 127,.row v4 78 4 (List.map Ab r1.2.fCells),.row hq 5 1 (List.map Bi (he++([hh]:List Int))),.row (.slice (some ⟨hT,0,none⟩) 1 1) 5 1 (List.map Bi ([hh]:List Int))]) ((A5 (i:=2) rfl).trans (List.Perm.cons _ ((A5 (i:=2) rfl).trans (List.Perm.cons _ (List.Perm.refl _))))) ?_)))
     have hW:=Bb hV hi
     exact Ar (A3 (hw,(he++([hh]:List Int),hl),hq) ⟨hW,AcL _⟩ (AC.c rfl (AC.c rfl AC.nil)) (sC (sC (sC (sS sN)))))
   ·refine Bo (At ?_)
    have hX:=BI hz hi hj
    exact At (Bc (A3 (ha,()) hX AC.nil (sC (sC (sS sN)))))
  ·rintro⟨hr,⟨⟩⟩ hn
   refine Cf (l':=[]) (H':=[.blk b_q [rS r1.2.fS,rI .i64 hr,rv v4,rB r1.2.fGreat] 127,.row v4 78 4 (List.map Ab r1.2.fCells)]) rfl rfl ?_
   replace hn:IB r1 hr=some r:=hn
   unfold IB at hn
   refine AZ (AF (Ae (wv (r:=rS ([]:Ag)) (Ao rfl) (wa rfl (Ak (Aq ?_))))))
   obtain rfl:=As hn
   exact Ap (Cy Rq (A4 rfl) (A4 rfl)) (sC (sC sN)) ⟨v4,rfl,rfl⟩
theorem Zp (F:Nat) (b_q:Nat) (v_q_2:Value) (q:Aw) (r:Bool×Aw) (h:Oh F q=some r):Fn Tryz.prog GE 162 [rP b_q 0] [.blk b_q [rS q.fS,rI .i64 q.fAt,rv v_q_2,rB q.fGreat] 127,.row v_q_2 78 4 (List.map Ab q.fCells)] (λR H=>∃w0_2:Value,R=rB r.1∧H=[.blk b_q [rS r.2.fS,rI .i64 r.2.fAt,rv w0_2,rB r.2.fGreat] 127,.row w0_2 78 4 (List.map Ab r.2.fCells)]):=by
 refine enter (n:=104) Tryz.func162 rfl Tryz.ntmps162 rfl (λw Z=>?_)
 unfold Oh at h
 refine Ae (wa rfl (Bf (wm rfl (wv (A2 rfl) (vF B5 rfl Cq (vL 0 CU rfl (wa rfl (Bf (wm rfl (ob h λr1 e3 h2=>Hb (Hr:=[]) HH (DU b_q v_q_2 q ([45]:Ag) r1 e3) rfl (List.Perm.refl _) rfl ?_))))))))))
 rintro _ _ ⟨v4,rfl,rfl⟩
 refine Bf (wm rfl (wv (A2 rfl) (vF B5 rfl Cq (vL 0 CU rfl (wa rfl (Ak (Ai (AB (ob h2 λhn ho hp=>Bk (S:=Nat×(Int)×(Unit)) (V:=(Int)×(Unit)) 0 (λσ=>BF (λσ=>EJ r1 σ) σ.1 σ.2.1=some hn) (λσ=>[(0,rP b_q 0),(3,rI .i64 q.fAt),(4,rI .i64 r1.2.fAt)]) (λσ=>[.blk b_q [rS r1.2.fS,rI .i64 σ.2.1,rv v4,rB r1.2.fGreat] 127,.row v4 78 4 (List.map Ab r1.2.fCells)]) (λσ=>σ.1) (F,r1.2.fAt,()) ho (AC.c rfl (AC.c rfl (AC.c rfl AC.nil))) (sC (sC sN)) (λσ=>JE q r1 σ.1=some r) (λσ=>[(0,rP b_q 0),(3,rI .i64 q.fAt),(4,rI .i64 r1.2.fAt)]) (λσ=>[.blk b_q [rS r1.2.fS,rI .i64 σ.1,rv v4,rB r1.2.fGreat] 127,.row v4 78 4 (List.map Ab r1.2.fCells)]) ?_ ?_)))))))))
 ·rintro⟨hE,hb,⟨⟩⟩ hq
  refine BO (l':=[(0,rP b_q 0),(3,rI .i64 q.fAt),(4,rI .i64 r1.2.fAt)]) (H':=[.blk b_q [rS r1.2.fS,rI .i64 hb,rv v4,rB r1.2.fGreat] 127,.row v4 78 4 (List.map Ab r1.2.fCells)]) rfl rfl ?_
  obtain⟨hr,rfl,hs,hi,hl⟩:=Ce hq
  replace hi:EJ r1 hb=some hs:=hi
  unfold EJ at hi
  refine Ai (ck hi λhk ht=>A6 [(0,rP b_q 0),(3,rI .i64 q.fAt),(4,rI .i64 r1.2.fAt),(17,rP b_q 0),(18,rP b_q 0),(19,rP b_q 1),(20,rI .i64 hb),(21,rP b_q 0),(22,rP b_q 0),(23,rP b_q 0),(24,rS r1.2.fS),(25,rI .i64 (r1.2.fS.length:Int)),(26,rB (decide (hb<(r1.2.fS.length:Int)))),(27,rB (decide (hb<(r1.2.fS.length:Int)))),(38,rB ((decide (hb<(r1.2.fS.length:Int)))&&(decide (48≤(AK r1.2.fS hb))))),(39,rB ((decide (hb<(r1.2.fS.length:Int)))&&(decide (48≤(AK r1.2.fS hb))))),(50,rB ((decide (hb<(r1.2.fS.length:Int)))&&((decide (48≤(AK r1.2.fS hb)))&&(decide ((AK r1.2.fS hb)≤57)))))] [.blk b_q [rS r1.2.fS,rI .i64 hb,rv v4,rB r1.2.fGreat] 127,.row v4 78 4 (List.map Ab r1.2.fCells)] ?_ ?_)
  ·refine AI (decide (hb<(r1.2.fS.length:Int))) (λhd=>?_) (λhd=>?_)
   ·refine AI (decide (48≤(AK r1.2.fS hb))) (λhe=>?_) (λhe=>?_)
    ·refine CH [0,3,4] [⟨[],rP b_q 0,0⟩,⟨[0],rP b_q 0,0⟩,⟨[1],rP b_q 1,0⟩,⟨[2],rI .i64 hb,1⟩,⟨[],rP b_q 0,0⟩,⟨[4],rP b_q 0,0⟩,⟨[5],rP b_q 0,0⟩,⟨[6],rS r1.2.fS,1⟩,⟨[7],rI .i64 (r1.2.fS.length:Int),0⟩,⟨[3,8],rB (decide (hb<(r1.2.fS.length:Int))),0⟩,⟨[9],rB (decide (hb<(r1.2.fS.length:Int))),0⟩,⟨[10],rP b_q 0,0⟩,⟨[11,10],rP b_q 0,0⟩,⟨[12,10],rP b_q 0,0⟩,⟨[13,10],rS r1.2.fS,1⟩,⟨[10],rP b_q 0,0⟩,⟨[15,10],rP b_q 0,0⟩,⟨[16,10],rP b_q 1,0⟩,⟨[17,10],rI .i64 hb,1⟩,⟨[14,18,10],rI .u8 (AK r1.2.fS hb),0⟩,⟨[19,10],rB (decide (48≤(AK r1.2.fS hb))),0⟩,⟨[10,20],rB (decide (48≤(AK r1.2.fS hb))),0⟩,⟨[21],rB (decide (48≤(AK r1.2.fS hb))),0⟩,⟨[22],rP b_q 0,0⟩,⟨[23,22],rP b_q 0,0⟩,⟨[24,22],rP b_q 0,0⟩,⟨[25,22],rS r1.2.fS,1⟩,⟨[22],rP b_q 0,0⟩,⟨[27,22],rP b_q 0,0⟩,⟨[28,22],rP b_q 1,0⟩,⟨[29,22],rI .i64 hb,1⟩,⟨[26,30,22],rI .u8 (AK r1.2.fS hb),0⟩,⟨[31,22],rB (decide ((AK r1.2.fS hb)≤57)),0⟩,⟨[22,32],rB (decide ((AK r1.2.fS hb)≤57)),0⟩] [17,18,19,20,21,22,23,24,25,26,27,28,29,30,31,32,33,34,35,36,37,38,39,40,41,42,43,44,45,46,47,48,49,50,0,3,4] ?_ ?_
     ·refine oq (Al rfl) (oq (A2 rfl) (oq (AH B5 rfl Cq rfl rfl) (of (Bp (i:=0) CU rfl rfl rfl) (oq (Al rfl) (oq (A2 rfl) (oq (AH B5 rfl CD rfl rfl) (of (Bp (i:=0) Dm rfl rfl rfl) (oq (AW BC rfl) (oq (BY rfl rfl) (oq (Al rfl) (on hd (oq (Al rfl) (on hd (oq (A2 rfl) (on hd (oq (AH B5 rfl CD rfl rfl) (on hd (of (Bp (i:=0) Dm rfl rfl rfl) (on hd (oq (Al rfl) (on hd (oq (A2 rfl) (on hd ?_)))))))))))))))))))))))
      refine oq (AH B5 rfl Cq rfl rfl) (on hd (of (Bp (i:=0) CU rfl rfl rfl) (on hd (oq (AO BC rfl rfl (C2 hk hd)) (on hd (oq (G0 rfl rfl) (oq (Au rfl hd rfl) (oq (Al rfl) (on he (oq (Al rfl) (on he (oq (A2 rfl) (on he (oq (AH B5 rfl CD rfl rfl) (on he (of (Bp (i:=0) Dm rfl rfl rfl) (on he (oq (Al rfl) (on he (oq (A2 rfl) (on he (oq (AH B5 rfl Cq rfl rfl) (on he ?_)))))))))))))))))))))))
      refine of (Bp (i:=0) CU rfl rfl rfl) (on he (oq (AO BC rfl rfl (C2 hk hd)) (on he (oq (KG rfl rfl) (oq (Au rfl he rfl) ?_)))))
      exact Cj
     exact BM (And.intro hd he)
    ·refine CH [0,3,4] [⟨[],rP b_q 0,0⟩,⟨[0],rP b_q 0,0⟩,⟨[1],rP b_q 1,0⟩,⟨[2],rI .i64 hb,1⟩,⟨[],rP b_q 0,0⟩,⟨[4],rP b_q 0,0⟩,⟨[5],rP b_q 0,0⟩,⟨[6],rS r1.2.fS,1⟩,⟨[7],rI .i64 (r1.2.fS.length:Int),0⟩,⟨[3,8],rB (decide (hb<(r1.2.fS.length:Int))),0⟩,⟨[9],rB (decide (hb<(r1.2.fS.length:Int))),0⟩,⟨[10],rP b_q 0,0⟩,⟨[11,10],rP b_q 0,0⟩,⟨[12,10],rP b_q 0,0⟩,⟨[13,10],rS r1.2.fS,1⟩,⟨[10],rP b_q 0,0⟩,⟨[15,10],rP b_q 0,0⟩,⟨[16,10],rP b_q 1,0⟩,⟨[17,10],rI .i64 hb,1⟩,⟨[14,18,10],rI .u8 (AK r1.2.fS hb),0⟩,⟨[19,10],rB (decide (48≤(AK r1.2.fS hb))),0⟩,⟨[10,20],rB (decide (48≤(AK r1.2.fS hb))),0⟩,⟨[21],rB (decide (48≤(AK r1.2.fS hb))),0⟩,⟨[22],rv undef,0⟩,⟨[23,22],rv undef,0⟩,⟨[24,22],rv undef,0⟩,⟨[25,22],rv undef,0⟩,⟨[22],rv undef,0⟩,⟨[27,22],rv undef,0⟩,⟨[28,22],rv undef,0⟩,⟨[29,22],rv undef,0⟩,⟨[26,30,22],rv undef,0⟩,⟨[31,22],rv undef,0⟩,⟨[22,32],rB false,0⟩] [17,18,19,20,21,22,23,24,25,26,27,28,29,30,31,32,33,34,35,36,37,38,39,40,41,42,43,44,45,46,47,48,49,50,0,3,4] ?_ ?_
     ·refine oq (Al rfl) (oq (A2 rfl) (oq (AH B5 rfl Cq rfl rfl) (of (Bp (i:=0) CU rfl rfl rfl) (oq (Al rfl) (oq (A2 rfl) (oq (AH B5 rfl CD rfl rfl) (of (Bp (i:=0) Dm rfl rfl rfl) (oq (AW BC rfl) (oq (BY rfl rfl) (oq (Al rfl) (on hd (oq (Al rfl) (on hd (oq (A2 rfl) (on hd (oq (AH B5 rfl CD rfl rfl) (on hd (of (Bp (i:=0) Dm rfl rfl rfl) (on hd (oq (Al rfl) (on hd (oq (A2 rfl) (on hd ?_)))))))))))))))))))))))
      refine oq (AH B5 rfl Cq rfl rfl) (on hd (of (Bp (i:=0) CU rfl rfl rfl) (on hd (oq (AO BC rfl rfl (C2 hk hd)) (on hd (oq (G0 rfl rfl) (oq (Au rfl hd rfl) (oq (Al rfl) (oz he (oz he (oz he (oz he (oz he (oz he (oz he (oz he (oz he (oz he (oq (A7 (b:=decide (48≤(AK r1.2.fS hb))) rfl he rfl) ?_)))))))))))))))))))
      exact Cj
     exact BM (And.intro hd he)
   ·refine CH [0,3,4] [⟨[],rP b_q 0,0⟩,⟨[0],rP b_q 0,0⟩,⟨[1],rP b_q 1,0⟩,⟨[2],rI .i64 hb,1⟩,⟨[],rP b_q 0,0⟩,⟨[4],rP b_q 0,0⟩,⟨[5],rP b_q 0,0⟩,⟨[6],rS r1.2.fS,1⟩,⟨[7],rI .i64 (r1.2.fS.length:Int),0⟩,⟨[3,8],rB (decide (hb<(r1.2.fS.length:Int))),0⟩,⟨[9],rB (decide (hb<(r1.2.fS.length:Int))),0⟩,⟨[10],rv undef,0⟩,⟨[11,10],rv undef,0⟩,⟨[12,10],rv undef,0⟩,⟨[13,10],rv undef,0⟩,⟨[10],rv undef,0⟩,⟨[15,10],rv undef,0⟩,⟨[16,10],rv undef,0⟩,⟨[17,10],rv undef,0⟩,⟨[14,18,10],rv undef,0⟩,⟨[19,10],rv undef,0⟩,⟨[10,20],rB false,0⟩,⟨[21],rB false,0⟩,⟨[22],rv undef,0⟩,⟨[23,22],rv undef,0⟩,⟨[24,22],rv undef,0⟩,⟨[25,22],rv undef,0⟩,⟨[22],rv undef,0⟩,⟨[27,22],rv undef,0⟩,⟨[28,22],rv undef,0⟩,⟨[29,22],rv undef,0⟩,⟨[26,30,22],rv undef,0⟩,⟨[31,22],rv undef,0⟩,⟨[22,32],rB false,0⟩] [17,18,19,20,21,22,23,24,25,26,27,28,29,30,31,32,33,34,35,36,37,38,39,40,41,42,43,44,45,46,47,48,49,50,0,3,4] ?_ ?_
    ·refine oq (Al rfl) (oq (A2 rfl) (oq (AH B5 rfl Cq rfl rfl) (of (Bp (i:=0) CU rfl rfl rfl) (oq (Al rfl) (oq (A2 rfl) (oq (AH B5 rfl CD rfl rfl) (of (Bp (i:=0) Dm rfl rfl rfl) (oq (AW BC rfl) (oq (BY rfl rfl) (oq (Al rfl) (oz hd (oz hd (oz hd (oz hd (oz hd (oz hd (oz hd (oz hd (oz hd (oz hd (oq (A7 (b:=decide (hb<(r1.2.fS.length:Int))) rfl hd rfl) (oq (Al rfl) (oz rfl ?_)))))))))))))))))))))))
     refine oz rfl (oz rfl (oz rfl (oz rfl (oz rfl (oz rfl (oz rfl (oz rfl (oz rfl (oq (A7 (b:=false) rfl rfl rfl) ?_)))))))))
     exact Cj
    exact BM hd
  refine cz ht rfl (λhu hw=>?_) (λhu hx=>?_)
  ·refine An (AF (AB (Af (wm rfl (wv (A2 rfl) (vF B5 rfl Cq (vL 0 CU rfl (ck hw λhy hz=>wv (AX rfl rfl hy) (wv (A2 rfl) (vF B5 rfl Cq (BB (i:=0) Cq rfl rfl (Co rfl) rfl rfl (cs':=[rS r1.2.fS,rI .i64 (hb+1),rv v4,rB r1.2.fGreat]) rfl (H':=[.blk b_q [rS r1.2.fS,rI .i64 (hb+1),rv v4,rB r1.2.fGreat] 127,.row v4 78 4 (List.map Ab r1.2.fCells)]) rfl (Aj (A8 ?_)))))))))))))
   have h0:=Bb hz hl
   exact Ar (A3 (hr,hb+1,()) ⟨h0,AcL _⟩ (AC.c rfl (AC.c rfl (AC.c rfl AC.nil))) (sC (sC sN)))
  ·refine Bo (At ?_)
   have h1:=BI hx hl hp
   exact At (Bc (A3 (hb,()) h1 (AC.c rfl (AC.c rfl (AC.c rfl AC.nil))) (sC (sC sN))))
 ·rintro⟨ha,⟨⟩⟩ hj
  refine Cf (l':=[(0,rP b_q 0),(3,rI .i64 q.fAt),(4,rI .i64 r1.2.fAt)]) (H':=[.blk b_q [rS r1.2.fS,rI .i64 ha,rv v4,rB r1.2.fGreat] 127,.row v4 78 4 (List.map Ab r1.2.fCells)]) rfl rfl ?_
  replace hj:JE q r1 ha=some r:=hj
  unfold JE at hj
  refine AZ (AF (Ai (ck hj λh3 h4=>ck h4 λh5 h6=>ck h6 λh7 h8=>CH [0,3,4] [⟨[],rP b_q 0,0⟩,⟨[0],rP b_q 0,0⟩,⟨[1],rP b_q 0,0⟩,⟨[2],rS r1.2.fS,1⟩,⟨[],rI .i64 q.fAt,0⟩,⟨[],rP b_q 0,0⟩,⟨[5],rP b_q 0,0⟩,⟨[6],rP b_q 1,0⟩,⟨[7],rI .i64 ha,1⟩,⟨[3,4,8],rS (List.take (Int.toNat ha-Int.toNat q.fAt) (List.drop (Int.toNat q.fAt) r1.2.fS)),0⟩,⟨[9],Cm [rI .i64 (AJ (List.take (Int.toNat ha-Int.toNat q.fAt) (List.drop (Int.toNat q.fAt) r1.2.fS))),rI .i64 (BA (List.take (Int.toNat ha-Int.toNat q.fAt) (List.drop (Int.toNat q.fAt) r1.2.fS)))],0⟩,⟨[10],Cm [rI .i64 (AJ (List.take (Int.toNat ha-Int.toNat q.fAt) (List.drop (Int.toNat q.fAt) r1.2.fS))),rI .i64 (BA (List.take (Int.toNat ha-Int.toNat q.fAt) (List.drop (Int.toNat q.fAt) r1.2.fS)))],0⟩,⟨[11],rI .i64 (AJ (List.take (Int.toNat ha-Int.toNat q.fAt) (List.drop (Int.toNat q.fAt) r1.2.fS))),0⟩,⟨[11],rI .i64 (BA (List.take (Int.toNat ha-Int.toNat q.fAt) (List.drop (Int.toNat q.fAt) r1.2.fS))),0⟩,⟨[12],rI .i64 (AJ (List.take (Int.toNat ha-Int.toNat q.fAt) (List.drop (Int.toNat q.fAt) r1.2.fS))),0⟩,⟨[13],rI .i64 (BA (List.take (Int.toNat ha-Int.toNat q.fAt) (List.drop (Int.toNat q.fAt) r1.2.fS))),0⟩] [5,6,0,4] ?_ ?_)))
  ·refine oq (Al rfl) (oq (A2 rfl) (oq (AH B5 rfl CD rfl rfl) (of (Bp (i:=0) Dm rfl rfl rfl) (oq (Al rfl) (oq (Al rfl) (oq (A2 rfl) (oq (AH B5 rfl Cq rfl rfl) (of (Bp (i:=0) CU rfl rfl rfl) (oq (CK BC rfl rfl rfl h3 h5) (Ee rfl (λH=>HQ (rs:=[rS (List.take (Int.toNat ha-Int.toNat q.fAt) (List.drop (Int.toNat q.fAt) r1.2.fS))]) (r:=Cm [rI .i64 (AJ (List.take (Int.toNat ha-Int.toNat q.fAt) (List.drop (Int.toNat q.fAt) r1.2.fS))),rI .i64 (BA (List.take (Int.toNat ha-Int.toNat q.fAt) (List.drop (Int.toNat q.fAt) r1.2.fS)))]) Tryz.call73 rfl (Ue (List.take (Int.toNat ha-Int.toNat q.fAt) (List.drop (Int.toNat q.fAt) r1.2.fS)) h7) rfl) ?_))))))))))
   refine oq (Al rfl) (oq (Az rfl rfl) (oq (Az rfl rfl) (oq (Ao rfl) (oq (Ao rfl) ?_))))
   exact Cj
  refine AF (Ai (A6 [(0,rP b_q 0),(5,rI .i64 (AJ (List.take (Int.toNat ha-Int.toNat q.fAt) (List.drop (Int.toNat q.fAt) r1.2.fS)))),(6,rI .i64 (BA (List.take (Int.toNat ha-Int.toNat q.fAt) (List.drop (Int.toNat q.fAt) r1.2.fS)))),(81,rB ((decide ((BA (List.take (Int.toNat ha-Int.toNat q.fAt) (List.drop (Int.toNat q.fAt) r1.2.fS)))=1))||(decide (r1.2.fAt=ha))))] [.blk b_q [rS r1.2.fS,rI .i64 ha,rv v4,rB r1.2.fGreat] 127,.row v4 78 4 (List.map Ab r1.2.fCells)] ?_ ?_))
  ·refine Af (wm rfl (wv (Bx rfl rfl) (wm rfl (AI (decide ((BA (List.take (Int.toNat ha-Int.toNat q.fAt) (List.drop (Int.toNat q.fAt) r1.2.fS)))=1)) (λhf=>?_) (λhf=>?_)))))
   ·refine wf hf (wf hf (wf hf (wf hf (wf hf (wf hf (wv (r:=rB true) (Au rfl hf rfl) (Aj ?_)))))))
    exact BM hf
   ·refine wo hf (wm rfl (wo hf (wm rfl (wo hf (wv (A2 rfl) (wo hf (vF B5 rfl Cq (wo hf (vL 0 CU rfl (wo hf (wv (Bx rfl rfl) (DR rfl hf rfl (Aj ?_)))))))))))))
    exact BM hf
  refine cz h8 rfl (λh9 hA=>?_) (λh9 hB=>?_)
  ·refine Ae (wa rfl (Ak (Aq (Ac ?_))))
   obtain rfl:=As hA
   exact Ap (BW Tryz.results162 (A4 rfl)) (sC (sC sN)) ⟨v4,rfl,rfl⟩
  ·refine An (AF (A6 [(0,rP b_q 0),(5,rI .i64 (AJ (List.take (Int.toNat ha-Int.toNat q.fAt) (List.drop (Int.toNat q.fAt) r1.2.fS))))] [.blk b_q [rS r1.2.fS,rI .i64 ha,rv v4,rB (r1.2.fGreat||(!decide ((BA (List.take (Int.toNat ha-Int.toNat q.fAt) (List.drop (Int.toNat q.fAt) r1.2.fS)))=0)))] 127,.row v4 78 4 (List.map Ab r1.2.fCells)] ?_ ?_))
   ·refine Af (wm rfl (wm rfl (wv (A2 rfl) (vF B5 rfl GR (vL 0 MZ rfl (wm rfl (AI (r1.2.fGreat) (λhg=>?_) (λhg=>?_))))))))
    ·refine wf hg (wf hg (wv (r:=rB true) (Au rfl hg rfl) (wv (A2 rfl) (vF B5 rfl GR (BB (i:=0) GR rfl rfl (Co rfl) rfl rfl (cs':=[rS r1.2.fS,rI .i64 ha,rv v4,rB true]) rfl (H':=[.blk b_q [rS r1.2.fS,rI .i64 ha,rv v4,rB true] 127,.row v4 78 4 (List.map Ab r1.2.fCells)]) rfl (Aj (Jg (H':=[.blk b_q [rS r1.2.fS,rI .i64 ha,rv v4,rB (r1.2.fGreat||(!decide ((BA (List.take (Int.toNat ha-Int.toNat q.fAt) (List.drop (Int.toNat q.fAt) r1.2.fS)))=0)))] 127,.row v4 78 4 (List.map Ab r1.2.fCells)]) (by simp only[hg,AcN,AcT,Adc,AcQ,AcR,AcV,Ada,AcX,AcO,AcW,AcJ,AcF]) ?_)))))))
     exact wt
    ·refine wo hg (wm rfl (wo hg (wv (CB rfl rfl) (DR rfl hg rfl (wv (A2 rfl) (vF B5 rfl GR (BB (i:=0) GR rfl rfl (Co rfl) rfl rfl (cs':=[rS r1.2.fS,rI .i64 ha,rv v4,rB (!decide ((BA (List.take (Int.toNat ha-Int.toNat q.fAt) (List.drop (Int.toNat q.fAt) r1.2.fS)))=0))]) rfl (H':=[.blk b_q [rS r1.2.fS,rI .i64 ha,rv v4,rB (!decide ((BA (List.take (Int.toNat ha-Int.toNat q.fAt) (List.drop (Int.toNat q.fAt) r1.2.fS)))=0))] 127,.row v4 78 4 (List.map Ab r1.2.fCells)]) rfl (Aj (Jg (H':=[.blk b_q [rS r1.2.fS,rI .i64 ha,rv v4,rB (r1.2.fGreat||(!decide ((BA (List.take (Int.toNat ha-Int.toNat q.fAt) (List.drop (Int.toNat q.fAt) r1.2.fS)))=0)))] 127,.row v4 78 4 (List.map Ab r1.2.fCells)]) (by simp only[hg,AcN,AcT,Adc,AcQ,AcR,AcV,Ada,AcX,AcO,AcW,AcJ,AcF]) ?_)))))))))
     exact wt
   refine Ae (wm rfl (wm rfl (wv (A2 rfl) (vF B5 rfl Dk (vL 0 GS rfl (wm rfl (wv (r:=B9 [rI .i64 3,rI .i64 (AJ (List.take (Int.toNat ha-Int.toNat q.fAt) (List.drop (Int.toNat q.fAt) r1.2.fS))),rS ([]:Ag),rI .i64 0]) (Ck rfl rfl rfl rfl) (AQ (ys:=([(Aa.mk 3 (AJ (List.take (Int.toNat ha-Int.toNat q.fAt) (List.drop (Int.toNat q.fAt) r1.2.fS))) ([]:Ag) 0)]:List Aa)) (enc:=Ab) (css:=[[rI .i64 3,rI .i64 (AJ (List.take (Int.toNat ha-Int.toNat q.fAt) (List.drop (Int.toNat q.fAt) r1.2.fS))),rS ([]:Ag),rI .i64 0]]) (xs:=[.tmp 99]) BP Ch EH rfl rfl rfl ⟨Eb.agg ⟨Up.refl _,Up.refl _,Up.refl _,Up.refl _,trivial⟩,trivial⟩ rfl AR rfl rfl rfl (λhm=>?_)))))))))
   refine ck hB λhC hD=>Exists.elim Ez λinf hinf=>BG (xs:=r1.2.fCells) (ys:=([(Aa.mk 3 (AJ (List.take (Int.toNat ha-Int.toNat q.fAt) (List.drop (Int.toNat q.fAt) r1.2.fS))) ([]:Ag) 0)]:List Aa)) (enc:=Ab) (i:=2) BP hinf.1 hinf.2.1 hinf.2.2.1 hinf.2.2.2 rfl rfl rfl rfl rfl (Ja.w (i:=0) rfl rfl) AR BH hC rfl (λhh=>?_)
   refine wv (A2 rfl) (vF B5 rfl Dk (BB (i:=2) Dk rfl rfl (EE (i:=0) rfl) rfl rfl (cs':=[rS r1.2.fS,rI .i64 ha,rv hh,rB (r1.2.fGreat||(!decide ((BA (List.take (Int.toNat ha-Int.toNat q.fAt) (List.drop (Int.toNat q.fAt) r1.2.fS)))=0)))]) rfl (H':=[.row hh 78 4 (List.map Ab (r1.2.fCells++([(Aa.mk 3 (AJ (List.take (Int.toNat ha-Int.toNat q.fAt) (List.drop (Int.toNat q.fAt) r1.2.fS))) ([]:Ag) 0)]:List Aa))),.row (.slice (some ⟨hm,0,none⟩) 1 1) 78 4 (List.map Ab ([(Aa.mk 3 (AJ (List.take (Int.toNat ha-Int.toNat q.fAt) (List.drop (Int.toNat q.fAt) r1.2.fS))) ([]:Ag) 0)]:List Aa)),.blk b_q [rS r1.2.fS,rI .i64 ha,rv hh,rB (r1.2.fGreat||(!decide ((BA (List.take (Int.toNat ha-Int.toNat q.fAt) (List.drop (Int.toNat q.fAt) r1.2.fS)))=0)))] 127]) rfl (Bf (wa rfl (Ak (Aq (Cv (H2:=[.blk b_q [rS r1.2.fS,rI .i64 ha,rv hh,rB (r1.2.fGreat||(!decide ((BA (List.take (Int.toNat ha-Int.toNat q.fAt) (List.drop (Int.toNat q.fAt) r1.2.fS)))=0)))] 127,.row hh 78 4 (List.map Ab (r1.2.fCells++([(Aa.mk 3 (AJ (List.take (Int.toNat ha-Int.toNat q.fAt) (List.drop (Int.toNat q.fAt) r1.2.fS))) ([]:Ag) 0)]:List Aa))),.row (.slice (some ⟨hm,0,none⟩) 1 1) 78 4 (List.map Ab ([(Aa.mk 3 (AJ (List.take (Int.toNat ha-Int.toNat q.fAt) (List.drop (Int.toNat q.fAt) r1.2.fS))) ([]:Ag) 0)]:List Aa))]) ((A5 (i:=2) rfl).trans (List.Perm.cons _ (List.Perm.refl _))) ?_)))))))
   obtain rfl:=As hD
   exact Ap (BW Tryz.results162 (A4 rfl)) (sC (sC (sS sN))) ⟨hh,rfl,rfl⟩
theorem SZ (F:Nat) (b_q:Nat) (v_q_2:Value) (q:Aw) (r:Bool×Aw) (h:IC F q=some r):Fn Tryz.prog GE 134 [rP b_q 0] [.blk b_q [rS q.fS,rI .i64 q.fAt,rv v_q_2,rB q.fGreat] 127,.row v_q_2 78 4 (List.map Ab q.fCells)] (λR H=>∃w0_2:Value,R=rB r.1∧H=[.blk b_q [rS r.2.fS,rI .i64 r.2.fAt,rv w0_2,rB r.2.fGreat] 127,.row w0_2 78 4 (List.map Ab r.2.fCells)]):=by
 refine enter (n:=75) Tryz.func134 rfl Tryz.ntmps134 rfl (λw Z=>?_)
 unfold IC at h
 refine Ae (wa rfl (Ak (DS (S:=(Ag×Int×(List Aa)×Bool)×(Value)) (λσ=>El σ.1.1 σ.1.2.1 σ.1.2.2.1 σ.1.2.2.2=some r) (λσ=>[]) (λσ=>[.blk b_q [rS σ.1.1,rI .i64 σ.1.2.1,rv σ.2,rB σ.1.2.2.2] 127,.row σ.2 78 4 (List.map Ab σ.1.2.2.1)]) ?_ ?_)))
 ·refine AB (Ae (wm rfl (ob h λhd hu hw=>Hb (Hr:=[]) HH (DU b_q v_q_2 q ([110,117,108,108]:Ag) hd hu) rfl (List.Perm.refl _) rfl ?_)))
  rintro _ _ ⟨hx,rfl,rfl⟩
  refine wa rfl (Ak (cz hw rfl (λhy hz=>?_) (λhy h0=>?_)))
  ·refine Af (wm rfl (wm rfl (wv (A2 rfl) (vF B5 rfl Dk (vL 0 GS rfl (wv (r:=B9 [rI .i64 1,rI .i64 0,rS ([]:Ag),rI .i64 0]) (Ex rfl rfl) (AQ (ys:=([(Aa.mk 1 0 ([]:Ag) 0)]:List Aa)) (enc:=Ab) (css:=[[rI .i64 1,rI .i64 0,rS ([]:Ag),rI .i64 0]]) (xs:=[.tmp 15]) BP Ch EH rfl rfl rfl ⟨Eb.agg ⟨Up.refl _,Up.refl _,Up.refl _,Up.refl _,trivial⟩,trivial⟩ rfl AR rfl rfl rfl (λhl=>?_))))))))
   refine ck hz λh1 h2=>Exists.elim Ez λinf hinf=>BG (xs:=hd.2.fCells) (ys:=([(Aa.mk 1 0 ([]:Ag) 0)]:List Aa)) (enc:=Ab) (i:=2) BP hinf.1 hinf.2.1 hinf.2.2.1 hinf.2.2.2 rfl rfl rfl rfl rfl (Ja.w (i:=0) rfl rfl) AR BH h1 rfl (λhf=>?_)
   exact wv (A2 rfl) (vF B5 rfl Dk (BB (i:=2) Dk rfl rfl (EE (i:=0) rfl) rfl rfl (cs':=[rS hd.2.fS,rI .i64 hd.2.fAt,rv hf,rB hd.2.fGreat]) rfl (H':=[.row hf 78 4 (List.map Ab (hd.2.fCells++([(Aa.mk 1 0 ([]:Ag) 0)]:List Aa))),.row (.slice (some ⟨hl,0,none⟩) 1 1) 78 4 (List.map Ab ([(Aa.mk 1 0 ([]:Ag) 0)]:List Aa)),.blk b_q [rS hd.2.fS,rI .i64 hd.2.fAt,rv hf,rB hd.2.fGreat] 127]) rfl (Aj (A8 (Cv (H2:=[.blk b_q [rS hd.2.fS,rI .i64 hd.2.fAt,rv hf,rB hd.2.fGreat] 127,.row hf 78 4 (List.map Ab (hd.2.fCells++([(Aa.mk 1 0 ([]:Ag) 0)]:List Aa))),.row (.slice (some ⟨hl,0,none⟩) 1 1) 78 4 (List.map Ab ([(Aa.mk 1 0 ([]:Ag) 0)]:List Aa))]) ((A5 (i:=2) rfl).trans (List.Perm.cons _ (List.Perm.refl _))) (Ar (A3 ((hd.2.fS,hd.2.fAt,hd.2.fCells++([(Aa.mk 1 0 ([]:Ag) 0)]:List Aa),hd.2.fGreat),hf) h2 AC.nil (sC (sC (sS sN))))))))))
  ·refine Ae (wm rfl (ob h0 λhe h3 h4=>Hb (Hr:=[]) HH (DU b_q hx hd.2 ([116,114,117,101]:Ag) he h3) rfl (List.Perm.refl _) rfl ?_))
   rintro _ _ ⟨v76,rfl,rfl⟩
   refine wa rfl (Ak (cz h4 rfl (λh5 h6=>?_) (λh5 h7=>?_)))
   ·refine Af (wm rfl (wm rfl (wv (A2 rfl) (vF B5 rfl Dk (vL 0 GS rfl (wv (r:=B9 [rI .i64 2,rI .i64 1,rS ([]:Ag),rI .i64 0]) (Ck rfl rfl rfl rfl) (AQ (ys:=([(Aa.mk 2 1 ([]:Ag) 0)]:List Aa)) (enc:=Ab) (css:=[[rI .i64 2,rI .i64 1,rS ([]:Ag),rI .i64 0]]) (xs:=[.tmp 28]) BP Ch EH rfl rfl rfl ⟨Eb.agg ⟨Up.refl _,Up.refl _,Up.refl _,Up.refl _,trivial⟩,trivial⟩ rfl AR rfl rfl rfl (λhm=>?_))))))))
    refine ck h6 λh8 h9=>Exists.elim Ez λinf hinf=>BG (xs:=he.2.fCells) (ys:=([(Aa.mk 2 1 ([]:Ag) 0)]:List Aa)) (enc:=Ab) (i:=2) BP hinf.1 hinf.2.1 hinf.2.2.1 hinf.2.2.2 rfl rfl rfl rfl rfl (Ja.w (i:=0) rfl rfl) AR BH h8 rfl (λv80=>?_)
    exact wv (A2 rfl) (vF B5 rfl Dk (BB (i:=2) Dk rfl rfl (EE (i:=0) rfl) rfl rfl (cs':=[rS he.2.fS,rI .i64 he.2.fAt,rv v80,rB he.2.fGreat]) rfl (H':=[.row v80 78 4 (List.map Ab (he.2.fCells++([(Aa.mk 2 1 ([]:Ag) 0)]:List Aa))),.row (.slice (some ⟨hm,0,none⟩) 1 1) 78 4 (List.map Ab ([(Aa.mk 2 1 ([]:Ag) 0)]:List Aa)),.blk b_q [rS he.2.fS,rI .i64 he.2.fAt,rv v80,rB he.2.fGreat] 127]) rfl (Aj (A8 (Cv (H2:=[.blk b_q [rS he.2.fS,rI .i64 he.2.fAt,rv v80,rB he.2.fGreat] 127,.row v80 78 4 (List.map Ab (he.2.fCells++([(Aa.mk 2 1 ([]:Ag) 0)]:List Aa))),.row (.slice (some ⟨hm,0,none⟩) 1 1) 78 4 (List.map Ab ([(Aa.mk 2 1 ([]:Ag) 0)]:List Aa))]) ((A5 (i:=2) rfl).trans (List.Perm.cons _ (List.Perm.refl _))) (Ar (A3 ((he.2.fS,he.2.fAt,he.2.fCells++([(Aa.mk 2 1 ([]:Ag) 0)]:List Aa),he.2.fGreat),v80) h9 AC.nil (sC (sC (sS sN))))))))))
   ·refine Ae (wm rfl (ob h7 λhb hA hB=>Hb (Hr:=[]) HH (DU b_q v76 he.2 ([102,97,108,115,101]:Ag) hb hA) rfl (List.Perm.refl _) rfl ?_))
    rintro _ _ ⟨hn,rfl,rfl⟩
    refine wa rfl (Ak (cz hB rfl (λhC hD=>?_) (λhC hE=>?_)))
    ·refine Af (wm rfl (wm rfl (wv (A2 rfl) (vF B5 rfl Dk (vL 0 GS rfl (wv (r:=B9 [rI .i64 2,rI .i64 0,rS ([]:Ag),rI .i64 0]) (Ex rfl rfl) (AQ (ys:=([(Aa.mk 2 0 ([]:Ag) 0)]:List Aa)) (enc:=Ab) (css:=[[rI .i64 2,rI .i64 0,rS ([]:Ag),rI .i64 0]]) (xs:=[.tmp 41]) BP Ch EH rfl rfl rfl ⟨Eb.agg ⟨Up.refl _,Up.refl _,Up.refl _,Up.refl _,trivial⟩,trivial⟩ rfl AR rfl rfl rfl (λho=>?_))))))))
     refine ck hD λhG hH=>Exists.elim Ez λinf hinf=>BG (xs:=hb.2.fCells) (ys:=([(Aa.mk 2 0 ([]:Ag) 0)]:List Aa)) (enc:=Ab) (i:=2) BP hinf.1 hinf.2.1 hinf.2.2.1 hinf.2.2.2 rfl rfl rfl rfl rfl (Ja.w (i:=0) rfl rfl) AR BH hG rfl (λhg=>?_)
     exact wv (A2 rfl) (vF B5 rfl Dk (BB (i:=2) Dk rfl rfl (EE (i:=0) rfl) rfl rfl (cs':=[rS hb.2.fS,rI .i64 hb.2.fAt,rv hg,rB hb.2.fGreat]) rfl (H':=[.row hg 78 4 (List.map Ab (hb.2.fCells++([(Aa.mk 2 0 ([]:Ag) 0)]:List Aa))),.row (.slice (some ⟨ho,0,none⟩) 1 1) 78 4 (List.map Ab ([(Aa.mk 2 0 ([]:Ag) 0)]:List Aa)),.blk b_q [rS hb.2.fS,rI .i64 hb.2.fAt,rv hg,rB hb.2.fGreat] 127]) rfl (Aj (A8 (Cv (H2:=[.blk b_q [rS hb.2.fS,rI .i64 hb.2.fAt,rv hg,rB hb.2.fGreat] 127,.row hg 78 4 (List.map Ab (hb.2.fCells++([(Aa.mk 2 0 ([]:Ag) 0)]:List Aa))),.row (.slice (some ⟨ho,0,none⟩) 1 1) 78 4 (List.map Ab ([(Aa.mk 2 0 ([]:Ag) 0)]:List Aa))]) ((A5 (i:=2) rfl).trans (List.Perm.cons _ (List.Perm.refl _))) (Ar (A3 ((hb.2.fS,hb.2.fAt,hb.2.fCells++([(Aa.mk 2 0 ([]:Ag) 0)]:List Aa),hb.2.fGreat),hg) hH AC.nil (sC (sC (sS sN))))))))))
    ·refine Ai (ck hE λhI hJ=>ob hJ λhj hK hL=>CH [0] [⟨[],rP b_q 0,0⟩,⟨[0],rP b_q 0,0⟩,⟨[1],rP b_q 0,0⟩,⟨[2],rS hb.2.fS,1⟩,⟨[],rP b_q 0,0⟩,⟨[4],rP b_q 0,0⟩,⟨[5],rP b_q 1,0⟩,⟨[6],rI .i64 hb.2.fAt,1⟩,⟨[3,7],rS (List.drop (Int.toNat hb.2.fAt) hb.2.fS),0⟩,⟨[8],rB hj,0⟩,⟨[9],rB hj,0⟩] [46,0] ?_ ?_)
     ·refine oq (Al rfl) (oq (A2 rfl) (oq (AH B5 rfl CD rfl rfl) (of (Bp (i:=0) Dm rfl rfl rfl) (oq (Al rfl) (oq (A2 rfl) (oq (AH B5 rfl Cq rfl rfl) (of (Bp (i:=0) CU rfl rfl rfl) (oq (Dq BC rfl rfl hI) (Ee rfl (λH=>HR Tryz.call44 (Ns (List.drop (Int.toNat hb.2.fAt) hb.2.fS) ([34]:Ag) hj hK) rfl) ?_)))))))))
      refine oq (Ao rfl) ?_
      exact Cj
     refine AF (cz hL rfl (λhN hO=>?_) (λhN hP=>?_))
     ·refine Ae (wm rfl (ob hO λha hQ hR=>Hb (Hr:=[]) Tryz.call135 (TK F b_q hn hb.2 ha hQ) rfl (List.Perm.refl _) rfl ?_))
      rintro _ _ ⟨hS,rfl,rfl⟩
      refine wm rfl (wv (Az rfl rfl) (wv (Az rfl rfl) (wa rfl (wa rfl (Ak (Ai (Ae (wm rfl (wv (Cd rfl) (Ak (cz hR rfl (λhT hU=>?_) (λhT hV=>?_))))))))))))
      ·refine Ae (wa rfl (Ak (Aq (Ac (Av (Ac ?_))))))
       obtain rfl:=As hU
       exact Ap (BW Tryz.results134 (A4 rfl)) (sC (sC sN)) ⟨hS,rfl,rfl⟩
      ·refine An (AF (Af (wm rfl (wm rfl (wv (A2 rfl) (vF B5 rfl Dk (vL 0 GS rfl (wm rfl (wv (r:=B9 [rI .i64 4,rI .i64 0,rS ha.1,rI .i64 0]) (EO rfl rfl rfl rfl) (AQ (ys:=([(Aa.mk 4 0 ha.1 0)]:List Aa)) (enc:=Ab) (css:=[[rI .i64 4,rI .i64 0,rS ha.1,rI .i64 0]]) (xs:=[.tmp 70]) BP Ch EH rfl rfl rfl ⟨Eb.agg ⟨Up.refl _,Up.refl _,Up.refl _,Up.refl _,trivial⟩,trivial⟩ rfl AR rfl rfl rfl (λhp=>?_)))))))))))
       refine ck hV λhW hX=>Exists.elim Ez λinf hinf=>BG (xs:=ha.2.2.fCells) (ys:=([(Aa.mk 4 0 ha.1 0)]:List Aa)) (enc:=Ab) (i:=2) BP hinf.1 hinf.2.1 hinf.2.2.1 hinf.2.2.2 rfl rfl rfl rfl rfl (Ja.w (i:=0) rfl rfl) AR BH hW rfl (λhh=>?_)
       exact wv (A2 rfl) (vF B5 rfl Dk (BB (i:=2) Dk rfl rfl (EE (i:=0) rfl) rfl rfl (cs':=[rS ha.2.2.fS,rI .i64 ha.2.2.fAt,rv hh,rB ha.2.2.fGreat]) rfl (H':=[.row hh 78 4 (List.map Ab (ha.2.2.fCells++([(Aa.mk 4 0 ha.1 0)]:List Aa))),.row (.slice (some ⟨hp,0,none⟩) 1 1) 78 4 (List.map Ab ([(Aa.mk 4 0 ha.1 0)]:List Aa)),.blk b_q [rS ha.2.2.fS,rI .i64 ha.2.2.fAt,rv hh,rB ha.2.2.fGreat] 127]) rfl (Aj (A8 (Cv (H2:=[.blk b_q [rS ha.2.2.fS,rI .i64 ha.2.2.fAt,rv hh,rB ha.2.2.fGreat] 127,.row hh 78 4 (List.map Ab (ha.2.2.fCells++([(Aa.mk 4 0 ha.1 0)]:List Aa))),.row (.slice (some ⟨hp,0,none⟩) 1 1) 78 4 (List.map Ab ([(Aa.mk 4 0 ha.1 0)]:List Aa))]) ((A5 (i:=2) rfl).trans (List.Perm.cons _ (List.Perm.refl _))) (Ar (A3 ((ha.2.2.fS,ha.2.2.fAt,ha.2.2.fCells++([(Aa.mk 4 0 ha.1 0)]:List Aa),ha.2.2.fGreat),hh) hX AC.nil (sC (sC (sS sN))))))))))
     ·refine Ae (wm rfl (ob hP λhY hZ ga=>Hb (Hr:=[]) Tryz.call162 (Zp F b_q hn hb.2 hY hZ) rfl (List.Perm.refl _) rfl ?_))
      rintro _ _ ⟨gb,rfl,rfl⟩
      refine wa rfl (Ak (Aq (Av (Ac ?_))))
      obtain rfl:=As ga
      exact Ap (BW Tryz.results134 (A4 rfl)) (sC (sC sN)) ⟨gb,rfl,rfl⟩
 ·rintro⟨⟨hq,hr,hs,ht⟩,hk⟩ hi
  refine BO (l':=[]) (H':=[.blk b_q [rS hq,rI .i64 hr,rv hk,rB ht] 127,.row hk 78 4 (List.map Ab hs)]) rfl rfl ?_
  replace hi:El hq hr hs ht=some r:=hi
  unfold El at hi
  refine Ae (wa rfl (Ak (Aq ?_)))
  obtain rfl:=As hi
  exact Ap (BW Tryz.results134 (A4 rfl)) (sC (sC sN)) ⟨hk,rfl,rfl⟩
theorem SX (F:Nat) (rec_vRValue:Aw→Option (Bool×Aw)) (ih_vRValue:(∀(b_q:Nat) (v_q_2:Value) (q:Aw) (r:Bool×Aw),rec_vRValue q=some r→Fn Tryz.prog GE 100 [rP b_q 0] [.blk b_q [rS q.fS,rI .i64 q.fAt,rv v_q_2,rB q.fGreat] 127,.row v_q_2 78 4 (List.map Ab q.fCells)] (λR H=>∃w0_2:Value,R=rB r.1∧H=[.blk b_q [rS r.2.fS,rI .i64 r.2.fAt,rv w0_2,rB r.2.fGreat] 127,.row w0_2 78 4 (List.map Ab r.2.fCells)]))) (b_q:Nat) (v_q_2:Value) (q:Aw) (r:Bool×Aw) (h:Lz F rec_vRValue q=some r):Fn Tryz.prog GE 100 [rP b_q 0] [.blk b_q [rS q.fS,rI .i64 q.fAt,rv v_q_2,rB q.fGreat] 127,.row v_q_2 78 4 (List.map Ab q.fCells)] (λR H=>∃w0_2:Value,R=rB r.1∧H=[.blk b_q [rS r.2.fS,rI .i64 r.2.fAt,rv w0_2,rB r.2.fGreat] 127,.row w0_2 78 4 (List.map Ab r.2.fCells)]):=by
 refine enter (n:=96) Tryz.func100 rfl Tryz.ntmps100 rfl (λw Z=>?_)
 unfold Lz at h
 refine Ae (wa rfl (Bf (wm rfl (ob h λr1 e3 h2=>Hb (Hr:=[]) HH (DU b_q v_q_2 q ([91]:Ag) r1 e3) rfl (List.Perm.refl _) rfl ?_))))
 rintro _ _ ⟨v4,rfl,rfl⟩
 refine wa rfl (Ak (Ai (DS (S:=(Bool×Ag×Int×(List Aa)×Bool)×(Value)) (λσ=>Ek F rec_vRValue r1 σ.1.1 σ.1.2.1 σ.1.2.2.1 σ.1.2.2.2.1 σ.1.2.2.2.2=some r) (λσ=>[(0,rP b_q 0),(2,rB false),(3,rB r1.1),(19,rB σ.1.1)]) (λσ=>[.blk b_q [rS σ.1.2.1,rI .i64 σ.1.2.2.1,rv σ.2,rB σ.1.2.2.2.2] 127,.row σ.2 78 4 (List.map Ab σ.1.2.2.2.1)]) ?_ ?_)))
 ·refine Af (wm rfl (wv (Cd rfl) (wm rfl (bz h2 (λhg gl=>?_) (λhg gm=>?_)))))
  ·refine wo hg (wm rfl (wo hg (ob gl λho gn gp=>Hb (Hr:=[]) HH (DU b_q v4 r1.2 ([123]:Ag) ho gn) rfl (List.Perm.refl _) rfl ?_)))
   rintro _ _ ⟨gq,rfl,rfl⟩
   exact wo hg (wv (Cd rfl) (EF rfl hg rfl (Aj (Ar (A3 ((!ho.1,ho.2.fS,ho.2.fAt,ho.2.fCells,ho.2.fGreat),gq) gp (AC.c rfl (AC.c rfl (AC.c rfl (AC.c rfl AC.nil)))) (sC (sC sN)))))))
  ·exact wf hg (wf hg (wf hg (wv (r:=rB false) (A7 rfl hg rfl) (Aj (Ar (A3 ((false,r1.2.fS,r1.2.fAt,r1.2.fCells,r1.2.fGreat),v4) gm (AC.c rfl (AC.c rfl (AC.c rfl (AC.c rfl AC.nil)))) (sC (sC sN))))))))
 ·rintro⟨⟨hX,hh,hi,x16,hj⟩,hE⟩ h5
  refine BO (l':=[(0,rP b_q 0),(2,rB false),(3,rB r1.1),(19,rB hX)]) (H':=[.blk b_q [rS hh,rI .i64 hi,rv hE,rB hj] 127,.row hE 78 4 (List.map Ab x16)]) rfl rfl ?_
  replace h5:Ek F rec_vRValue r1 hX hh hi x16 hj=some r:=h5
  unfold Ek at h5
  refine cz h5 rfl (λgr gs=>?_) (λgr gt=>?_)
  ·refine Ae (wm rfl (ob gs λgu gv gw=>Hb (Hr:=[]) Tryz.call134 (SZ F b_q hE (Aw.mk hh hi x16 hj) gu gv) rfl (List.Perm.refl _) rfl ?_))
   rintro _ _ ⟨gx,rfl,rfl⟩
   refine wa rfl (Ak (Aq (Ac ?_)))
   obtain rfl:=As gw
   exact Ap (BW KJ (A4 rfl)) (sC (sC sN)) ⟨gx,rfl,rfl⟩
  ·refine An (AF (Ae (wa rfl (wv (r:=rS ([125]:Ag)) (Ao rfl) (Ak (Ai (Ae (wm rfl (Ak (cz gt rfl (λhG gy=>?_) (λhG gz=>?_)))))))))))
   ·refine Af (wa rfl (wv (r:=rS ([93]:Ag)) (Ao rfl) (Bf (wm rfl (wv (A2 rfl) (vF B5 rfl Dk (vL 0 GS rfl (wv (Dr (ys:=x16) (enc:=Ab) (i:=1) BP rfl rfl) (wa rfl (Bf (wm rfl (wm rfl (wv (A2 rfl) (vF B5 rfl Dk (vL 0 GS rfl (wm rfl (wv (r:=B9 [rI .i64 5,rI .i64 0,rS ([]:Ag),rI .i64 0]) (Ex rfl rfl) (AQ (ys:=([(Aa.mk 5 0 ([]:Ag) 0)]:List Aa)) (enc:=Ab) (css:=[[rI .i64 5,rI .i64 0,rS ([]:Ag),rI .i64 0]]) (xs:=[.tmp 34]) BP Ch EH rfl rfl rfl ⟨Eb.agg ⟨Up.refl _,Up.refl _,Up.refl _,Up.refl _,trivial⟩,trivial⟩ rfl AR rfl rfl rfl (λhY=>?_)))))))))))))))))))
    refine ck gy λg0 g1=>Exists.elim Ez λinf hinf=>BG (xs:=x16) (ys:=([(Aa.mk 5 0 ([]:Ag) 0)]:List Aa)) (enc:=Ab) (i:=2) BP hinf.1 hinf.2.1 hinf.2.2.1 hinf.2.2.2 rfl rfl rfl rfl rfl (Ja.w (i:=0) rfl rfl) AR BH g0 rfl (λv37=>?_)
    refine wv (A2 rfl) (vF B5 rfl Dk (BB (i:=2) Dk rfl rfl (EE (i:=0) rfl) rfl rfl (cs':=[rS hh,rI .i64 hi,rv v37,rB hj]) rfl (H':=[.row v37 78 4 (List.map Ab (x16++([(Aa.mk 5 0 ([]:Ag) 0)]:List Aa))),.row (.slice (some ⟨hY,0,none⟩) 1 1) 78 4 (List.map Ab ([(Aa.mk 5 0 ([]:Ag) 0)]:List Aa)),.blk b_q [rS hh,rI .i64 hi,rv v37,rB hj] 127]) rfl (Ak (Ai (Ae (wm rfl (wm rfl (ob g1 λhs g2 g3=>Hb (Hr:=[.row (.slice (some ⟨hY,0,none⟩) 1 1) 78 4 (List.map Ab ([(Aa.mk 5 0 ([]:Ag) 0)]:List Aa))]) HH (DU b_q v37 (Aw.mk hh hi (x16++([(Aa.mk 5 0 ([]:Ag) 0)]:List Aa)) hj) ([93]:Ag) hs g2) rfl ((A5 (i:=2) rfl).trans (List.Perm.cons _ (List.Perm.refl _))) rfl ?_))))))))
    rintro _ _ ⟨hZ,rfl,rfl⟩
    refine Ak (cz g3 rfl (λg4 g5=>?_) (λg4 g6=>?_))
    ·refine Ae (wa rfl (Ak (Aq (Ac ?_))))
     obtain rfl:=As g5
     exact Ap (BW KJ (A4 rfl)) (sC (sC (sS sN))) ⟨hZ,rfl,rfl⟩
    ·refine An (AF (Ae (wv (r:=rS ([]:Ag)) (Ao rfl) (Bf (wa rfl (Ak (AB (ob g6 λg7 g8 hH=>Bk (S:=Nat×(Int×Ag×Int×(List Aa)×Bool)×(Value)) (V:=(Unit)×(Unit)) 0 (λσ=>BF (λσ=>EY rec_vRValue x16 σ.1 σ.2.1 σ.2.2.1 σ.2.2.2.1 σ.2.2.2.2) σ.1 σ.2.1=some g7) (λσ=>[(0,rP b_q 0),(2,rB false),(3,rB r1.1),(5,rS ([93]:Ag)),(6,rI .i64 (x16.length:Int)),(7,rS ([]:Ag)),(8,rI .i64 σ.2.1.1)]) (λσ=>[.blk b_q [rS σ.2.1.2.1,rI .i64 σ.2.1.2.2.1,rv σ.2.2,rB σ.2.1.2.2.2.2] 127,.row σ.2.2 78 4 (List.map Ab σ.2.1.2.2.2.1)]) (λσ=>σ.1) (F,(1,hs.2.fS,hs.2.fAt,hs.2.fCells,hs.2.fGreat),hZ) g8 (AC.c rfl (AC.c rfl (AC.c5 rfl rfl rfl rfl rfl AC.nil))) (sC (sC (sS sN))) (λσ=>HM =some r) (λσ=>[]) (λσ=>[]) ?_ ?_))))))))
     ·rintro⟨cZ,⟨ht,hI,hJ,hK,hL⟩,hN⟩ g9
      refine BO (l':=[(0,rP b_q 0),(2,rB false),(3,rB r1.1),(5,rS ([93]:Ag)),(6,rI .i64 (x16.length:Int)),(7,rS ([]:Ag)),(8,rI .i64 ht)]) (H':=[.blk b_q [rS hI,rI .i64 hJ,rv hN,rB hL] 127,.row hN 78 4 (List.map Ab hK)]) rfl rfl ?_
      obtain⟨gA,rfl,gB,h6,h7⟩:=Ce g9
      replace h6:EY rec_vRValue x16 ht hI hJ hK hL=some gB:=h6
      unfold EY at h6
      refine Ai (AB (Ai (Ae (wm rfl (wv (Cd rfl) (Ak (E4 rfl (AbH hG) (An (AF (Ai (Ae (wm rfl (ob h6 λhb gC gD=>Hb (Hr:=[]) Tryz.call100 (ih_vRValue b_q hN (Aw.mk hI hJ hK hL) hb gC) rfl (List.Perm.refl _) rfl ?_)))))))))))))
      rintro _ _ ⟨hp,rfl,rfl⟩
      refine wv (Cd rfl) (Ak (cz gD rfl (λgE gF=>?_) (λgE gG=>?_)))
      ·refine Ae (wa rfl (Ak (Aq (Ac (Av (Ac (Ac (AS ?_))))))))
       have gH:=Bm gF h7 hH
       refine Av ?_
       obtain rfl:=As gH
       exact Ap (BW KJ (A4 rfl)) (sC (sC sN)) ⟨hp,rfl,rfl⟩
      ·refine An (AF (Ae (wm rfl (wv (A2 rfl) (vF B5 rfl Dk (vL 0 GS rfl (wm rfl (wm rfl (ck gG λhO gI=>wv (r:=rv (GQ 4 hp (Int.toNat (x16.length:Int)) 0)) (JP (i:=1) BP Ch rfl rfl rfl (BX hO)) (wv (r:=rv (GQ 4 hp (Int.toNat (x16.length:Int)) 3)) (G1 (k:=1) B2 rfl Cq rfl (BX hO) rfl rfl rfl) (Iv (enc:=Ab) (ys:=hb.2.fCells) (y':=(Aa.mk ((Am hb.2.fCells (x16.length:Int)).fKind) ((Am hb.2.fCells (x16.length:Int)).fInt) ((Am hb.2.fCells (x16.length:Int)).fStr) ht)) (i:=1) (j:=(x16.length:Int)) Cq rfl rfl (Co rfl) rfl hO rfl rfl (H':=[.blk b_q [rS hb.2.fS,rI .i64 hb.2.fAt,rv hp,rB hb.2.fGreat] 127,.row hp 78 4 (List.map Ab (List.set hb.2.fCells (Int.toNat (x16.length:Int)) (Aa.mk ((Am hb.2.fCells (x16.length:Int)).fKind) ((Am hb.2.fCells (x16.length:Int)).fInt) ((Am hb.2.fCells (x16.length:Int)).fStr) ht)))]) rfl (bd gI λgJ gK gL=>?_))))))))))))
       rw[← gK]
       refine Ak (Ai (Ae (wm rfl (wm rfl (ob gL λga gM gN=>Hb (Hr:=[]) HH (DU b_q hp (Aw.mk hb.2.fS hb.2.fAt gJ hb.2.fGreat) ([93]:Ag) ga gM) rfl (List.Perm.refl _) rfl ?_)))))
       rintro _ _ ⟨gb,rfl,rfl⟩
       refine Ak (cz gN rfl (λc167 gO=>?_) (λc167 gP=>?_))
       ·refine Ae (wa rfl (Ak (Aq (Ac (Av (Ac (Ac (AS ?_))))))))
        have gQ:=Bm gO h7 hH
        refine Av ?_
        obtain rfl:=As gQ
        exact Ap (BW KJ (A4 rfl)) (sC (sC sN)) ⟨gb,rfl,rfl⟩
       ·refine An (AF (Ae (wm rfl (ob gP λhu gR gS=>Hb (Hr:=[]) HH (DU b_q gb ga.2 ([44]:Ag) hu gR) rfl (List.Perm.refl _) rfl ?_))))
        rintro _ _ ⟨gc,rfl,rfl⟩
        refine wv (Cd rfl) (Ak (cz gS rfl (λc175 gT=>?_) (λc175 gU=>?_)))
        ·refine Ae (wa rfl (Ak (Aq (Av (Ac (Ac (AS ?_)))))))
         have gV:=Bm gT h7 hH
         refine Av ?_
         obtain rfl:=As gV
         exact Ap (BW KJ (A4 rfl)) (sC (sC sN)) ⟨gc,rfl,rfl⟩
        ·refine An (A8 (AF (Af (wm rfl (ck gU λgW gX=>wv (AX rfl rfl gW) (wa rfl (Aj ?_)))))))
         have gY:=Bb gX h7
         exact Ar (A3 (gA,(ht+1,hu.2.fS,hu.2.fAt,hu.2.fCells,hu.2.fGreat),gc) ⟨gY,AcL _⟩ (AC.c rfl (AC.c rfl (AC.c5 rfl rfl rfl rfl rfl AC.nil))) (sC (sC sN)))
     ·rintro⟨⟨⟩,⟨⟩⟩ gZ
      cases gZ
   ·refine An (AF (Ae (wm rfl (wv (A2 rfl) (vF B5 rfl Dk (vL 0 GS rfl (wv (Dr (ys:=x16) (enc:=Ab) (i:=1) BP rfl rfl) (wa rfl (Bf (wm rfl (wm rfl (wv (A2 rfl) (vF B5 rfl Dk (vL 0 GS rfl (wm rfl (wv (r:=B9 [rI .i64 6,rI .i64 0,rS ([]:Ag),rI .i64 0]) (Ex rfl rfl) (AQ (ys:=([(Aa.mk 6 0 ([]:Ag) 0)]:List Aa)) (enc:=Ab) (css:=[[rI .i64 6,rI .i64 0,rS ([]:Ag),rI .i64 0]]) (xs:=[.tmp 34]) BP Ch EH rfl rfl rfl ⟨Eb.agg ⟨Up.refl _,Up.refl _,Up.refl _,Up.refl _,trivial⟩,trivial⟩ rfl AR rfl rfl rfl (λgd=>?_))))))))))))))))))
    refine ck gz λca cb=>Exists.elim Ez λinf hinf=>BG (xs:=x16) (ys:=([(Aa.mk 6 0 ([]:Ag) 0)]:List Aa)) (enc:=Ab) (i:=2) BP hinf.1 hinf.2.1 hinf.2.2.1 hinf.2.2.2 rfl rfl rfl rfl rfl (Ja.w (i:=0) rfl rfl) AR BH ca rfl (λh8=>?_)
    refine wv (A2 rfl) (vF B5 rfl Dk (BB (i:=2) Dk rfl rfl (EE (i:=0) rfl) rfl rfl (cs':=[rS hh,rI .i64 hi,rv h8,rB hj]) rfl (H':=[.row h8 78 4 (List.map Ab (x16++([(Aa.mk 6 0 ([]:Ag) 0)]:List Aa))),.row (.slice (some ⟨gd,0,none⟩) 1 1) 78 4 (List.map Ab ([(Aa.mk 6 0 ([]:Ag) 0)]:List Aa)),.blk b_q [rS hh,rI .i64 hi,rv h8,rB hj] 127]) rfl (Ak (Ai (Ae (wm rfl (wm rfl (ob cb λhw cc cd=>Hb (Hr:=[.row (.slice (some ⟨gd,0,none⟩) 1 1) 78 4 (List.map Ab ([(Aa.mk 6 0 ([]:Ag) 0)]:List Aa))]) HH (DU b_q h8 (Aw.mk hh hi (x16++([(Aa.mk 6 0 ([]:Ag) 0)]:List Aa)) hj) ([125]:Ag) hw cc) rfl ((A5 (i:=2) rfl).trans (List.Perm.cons _ (List.Perm.refl _))) rfl ?_))))))))
    rintro _ _ ⟨ge,rfl,rfl⟩
    refine Ak (cz cd rfl (λce cf=>?_) (λce cg=>?_))
    ·refine Ae (wa rfl (Ak (Aq (Ac ?_))))
     obtain rfl:=As cf
     exact Ap (BW KJ (A4 rfl)) (sC (sC (sS sN))) ⟨ge,rfl,rfl⟩
    ·refine An (AF (Ae (wv (r:=rS ([]:Ag)) (Ao rfl) (Bf (wa rfl (Ak (AB (ob cg λci cj h9=>Bk (S:=Nat×(Ag×Int×Ag×Int×(List Aa)×Bool)×(Value)) (V:=(Unit)×(Unit)) 0 (λσ=>BF (λσ=>EX F rec_vRValue x16 σ.1 σ.2.1 σ.2.2.1 σ.2.2.2.1 σ.2.2.2.2.1 σ.2.2.2.2.2) σ.1 σ.2.1=some ci) (λσ=>[(0,rP b_q 0),(2,rB false),(3,rB r1.1),(5,rS ([125]:Ag)),(6,rI .i64 (x16.length:Int)),(7,rS σ.2.1.1),(8,rI .i64 σ.2.1.2.1)]) (λσ=>[.blk b_q [rS σ.2.1.2.2.1,rI .i64 σ.2.1.2.2.2.1,rv σ.2.2,rB σ.2.1.2.2.2.2.2] 127,.row σ.2.2 78 4 (List.map Ab σ.2.1.2.2.2.2.1)]) (λσ=>σ.1) (F,(([]:Ag),1,hw.2.fS,hw.2.fAt,hw.2.fCells,hw.2.fGreat),ge) cj (AC.c rfl (AC.c rfl (AC.c5 rfl rfl rfl rfl rfl AC.nil))) (sC (sC (sS sN))) (λσ=>HL =some r) (λσ=>[]) (λσ=>[]) ?_ ?_))))))))
     ·rintro⟨xa,⟨hf,hk,hP,hQ,hR,hS⟩,hT⟩ cl
      refine BO (l':=[(0,rP b_q 0),(2,rB false),(3,rB r1.1),(5,rS ([125]:Ag)),(6,rI .i64 (x16.length:Int)),(7,rS hf),(8,rI .i64 hk)]) (H':=[.blk b_q [rS hP,rI .i64 hQ,rv hT,rB hS] 127,.row hT 78 4 (List.map Ab hR)]) rfl rfl ?_
      obtain⟨cm,rfl,hU,hA,hx⟩:=Ce cl
      replace hA:EX F rec_vRValue x16 hf hk hP hQ hR hS=some hU:=hA
      unfold EX at hA
      refine Ai (AB (Ai (Ae (wm rfl (wv (Cd rfl) (Ak (GD rfl (AbI hG) (Ae (wm rfl (ob hA λha cn co=>Hb (Hr:=[]) Tryz.call135 (TK F b_q hT (Aw.mk hP hQ hR hS) ha cn) rfl (List.Perm.refl _) rfl ?_))))))))))
      rintro _ _ ⟨hB,rfl,rfl⟩
      refine wm rfl (wv (Az rfl rfl) (wv (Az rfl rfl) (wa rfl (wa rfl (Ak (Ai (DS (S:=(Bool×Bool×Bool×Ag×Int×(List Aa)×Bool)×(Value)) (λσ=>Cw rec_vRValue x16 hk ha σ.1.1 σ.1.2.1 σ.1.2.2.1 σ.1.2.2.2.1 σ.1.2.2.2.2.1 σ.1.2.2.2.2.2.1 σ.1.2.2.2.2.2.2=some hU) (λσ=>[(0,rP b_q 0),(2,rB false),(3,rB r1.1),(5,rS ([125]:Ag)),(6,rI .i64 (x16.length:Int)),(7,rS hf),(8,rI .i64 hk),(9,rS ha.1),(10,rB ha.2.1),(44,rB r1.1),(45,rB (!r1.1)),(46,Cm [rS ha.1,rB ha.2.1]),(47,rP b_q 0),(48,Cm [rS ha.1,rB ha.2.1]),(49,rS ha.1),(50,rB ha.2.1),(51,rB ha.2.1),(52,rB (!ha.2.1)),(53,rB (!ha.2.1)),(61,rB σ.1.1),(62,rB σ.1.2.1),(66,rB σ.1.2.2.1)]) (λσ=>[.blk b_q [rS σ.1.2.2.2.1,rI .i64 σ.1.2.2.2.2.1,rv σ.2,rB σ.1.2.2.2.2.2.2] 127,.row σ.2 78 4 (List.map Ab σ.1.2.2.2.2.2.1)]) ?_ ?_)))))))
      ·refine Af (wm rfl (wv (Cd rfl) (wm rfl (bz co (λhe cp=>?_) (λhe cq=>?_)))))
       ·exact wf he (wf he (wf he (wu (wu (wu (wf he (wv (r:=rB true) (Au rfl he rfl) (wm rfl (wz rfl rfl (wz rfl rfl (wz rfl rfl (wv (r:=rB true) (Au (b:=true) rfl rfl rfl) (Aj (Ar (A3 ((true,true,true,ha.2.2.fS,ha.2.2.fAt,ha.2.2.fCells,ha.2.2.fGreat),hB) cp (AC.c rfl (AC.c rfl (AC.c5 rfl rfl rfl rfl rfl (AC.c5 rfl rfl rfl rfl rfl (AC.c5 rfl rfl rfl rfl rfl (AC.c5 rfl rfl rfl rfl rfl AC.nil)))))) (sC (sC sN)))))))))))))))))
       ·refine wo he (wm rfl (wo he (wv (Cb rfl rfl) (wo he (wm rfl (bz cq (λhl cr=>?_) (λhl cs=>?_)))))))
        ·refine wo hl (wm rfl (wo hl (wm rfl (wo hl (wv (Uf rfl rfl) (wo he (EF rfl hl rfl (DR rfl he rfl (wm rfl (bz cr (λhm ct=>?_) (λhm cu=>?_)))))))))))
         ·exact wf hm (wf hm (wf hm (wv (r:=rB true) (Au rfl hm rfl) (Aj (Ar (A3 ((Ci ha.1 hf||decide (ha.1=hf),Ci ha.1 hf||decide (ha.1=hf),true,ha.2.2.fS,ha.2.2.fAt,ha.2.2.fCells,ha.2.2.fGreat),hB) ct (AC.c rfl (AC.c rfl (AC.c5 rfl rfl rfl rfl rfl (AC.c5 rfl rfl rfl rfl rfl (AC.c5 rfl rfl rfl rfl rfl (AC.c5 rfl rfl rfl rfl rfl AC.nil)))))) (sC (sC sN))))))))
         ·refine wo hm (wm rfl (wo hm (ob cu λhq cv cw=>Hb (Hr:=[]) HH (DU b_q hB ha.2.2 ([58]:Ag) hq cv) rfl (List.Perm.refl _) rfl ?_)))
          rintro _ _ ⟨cx,rfl,rfl⟩
          exact wo hm (wv (Cd rfl) (DR rfl hm rfl (Aj (Ar (A3 ((Ci ha.1 hf||decide (ha.1=hf),Ci ha.1 hf||decide (ha.1=hf),!hq.1,hq.2.fS,hq.2.fAt,hq.2.fCells,hq.2.fGreat),cx) cw (AC.c rfl (AC.c rfl (AC.c5 rfl rfl rfl rfl rfl (AC.c5 rfl rfl rfl rfl rfl (AC.c5 rfl rfl rfl rfl rfl (AC.c5 rfl rfl rfl rfl rfl AC.nil)))))) (sC (sC sN)))))))
        ·refine wf hl (wf hl (wf hl (wo he (wv (r:=rB false) (A7 rfl hl rfl) (DR rfl he rfl (wm rfl (Bg (b:=false) rfl rfl rfl (wm rfl (Bg (b:=false) rfl rfl rfl (ob cs λhn cy c0=>Hb (Hr:=[]) HH (DU b_q hB ha.2.2 ([58]:Ag) hn cy) rfl (List.Perm.refl _) rfl ?_))))))))))
         rintro _ _ ⟨c1,rfl,rfl⟩
         exact Bg (b:=false) rfl rfl rfl (wv (Cd rfl) (wv (r:=rB (!hn.1)) (A7 (b:=false) rfl rfl rfl) (Aj (Ar (A3 ((false,false,!hn.1,hn.2.fS,hn.2.fAt,hn.2.fCells,hn.2.fGreat),c1) c0 (AC.c rfl (AC.c rfl (AC.c5 rfl rfl rfl rfl rfl (AC.c5 rfl rfl rfl rfl rfl (AC.c5 rfl rfl rfl rfl rfl (AC.c5 rfl rfl rfl rfl rfl AC.nil)))))) (sC (sC sN)))))))
      ·rintro⟨⟨gf,gg,gh,hy,hz,h0,h1⟩,hV⟩ hC
       refine BO (l':=[(0,rP b_q 0),(2,rB false),(3,rB r1.1),(5,rS ([125]:Ag)),(6,rI .i64 (x16.length:Int)),(7,rS hf),(8,rI .i64 hk),(9,rS ha.1),(10,rB ha.2.1),(44,rB r1.1),(45,rB (!r1.1)),(46,Cm [rS ha.1,rB ha.2.1]),(47,rP b_q 0),(48,Cm [rS ha.1,rB ha.2.1]),(49,rS ha.1),(50,rB ha.2.1),(51,rB ha.2.1),(52,rB (!ha.2.1)),(53,rB (!ha.2.1)),(61,rB gf),(62,rB gg),(66,rB gh)]) (H':=[.blk b_q [rS hy,rI .i64 hz,rv hV,rB h1] 127,.row hV 78 4 (List.map Ab h0)]) rfl rfl ?_
       replace hC:Cw rec_vRValue x16 hk ha gf gg gh hy hz h0 h1=some hU:=hC
       unfold Cw at hC
       refine cz hC rfl (λc2 c3=>?_) (λc2 c4=>?_)
       ·refine Ae (wa rfl (Ak (Aq (Ac (Ac (Av (Ac (Ac (AS ?_)))))))))
        have c6:=Bm c3 hx h9
        refine Av ?_
        obtain rfl:=As c6
        exact Ap (BW KJ (A4 rfl)) (sC (sC sN)) ⟨hV,rfl,rfl⟩
       ·refine An (AF (Ae (wm rfl (wa rfl (Ak (Af (wm rfl (wm rfl (wv (A2 rfl) (vF B5 rfl Dk (vL 0 GS rfl (wm rfl (wv (r:=B9 [rI .i64 4,rI .i64 0,rS ha.1,rI .i64 0]) (EO rfl rfl rfl rfl) (AQ (ys:=([(Aa.mk 4 0 ha.1 0)]:List Aa)) (enc:=Ab) (css:=[[rI .i64 4,rI .i64 0,rS ha.1,rI .i64 0]]) (xs:=[.tmp 74]) BP Ch EH rfl rfl rfl ⟨Eb.agg ⟨Up.refl _,Up.refl _,Up.refl _,Up.refl _,trivial⟩,trivial⟩ rfl AR rfl rfl rfl (λh3=>?_)))))))))))))))
        refine ck c4 λc7 c8=>Exists.elim Ez λinf hinf=>BG (xs:=h0) (ys:=([(Aa.mk 4 0 ha.1 0)]:List Aa)) (enc:=Ab) (i:=2) BP hinf.1 hinf.2.1 hinf.2.2.1 hinf.2.2.2 rfl rfl rfl rfl rfl (Ja.w (i:=0) rfl rfl) AR BH c7 rfl (λhD=>?_)
        refine wv (A2 rfl) (vF B5 rfl Dk (BB (i:=2) Dk rfl rfl (EE (i:=0) rfl) rfl rfl (cs':=[rS hy,rI .i64 hz,rv hD,rB h1]) rfl (H':=[.row hD 78 4 (List.map Ab (h0++([(Aa.mk 4 0 ha.1 0)]:List Aa))),.row (.slice (some ⟨h3,0,none⟩) 1 1) 78 4 (List.map Ab ([(Aa.mk 4 0 ha.1 0)]:List Aa)),.blk b_q [rS hy,rI .i64 hz,rv hD,rB h1] 127]) rfl (Ak (Ai (Ae (wm rfl (ob c8 λhd c9 cA=>Hb (Hr:=[.row (.slice (some ⟨h3,0,none⟩) 1 1) 78 4 (List.map Ab ([(Aa.mk 4 0 ha.1 0)]:List Aa))]) Tryz.call100 (ih_vRValue b_q hD (Aw.mk hy hz (h0++([(Aa.mk 4 0 ha.1 0)]:List Aa)) h1) hd c9) rfl ((A5 (i:=2) rfl).trans (List.Perm.cons _ (List.Perm.refl _))) rfl ?_)))))))
        rintro _ _ ⟨hr,rfl,rfl⟩
        refine wv (Cd rfl) (Ak (cz cA rfl (λcB cC=>?_) (λcB cD=>?_)))
        ·refine Ae (wa rfl (Ak (Aq (Ac (Av (Ac (Ac (AS ?_))))))))
         have cE:=Bm cC hx h9
         refine Av ?_
         obtain rfl:=As cE
         exact Ap (BW KJ (A4 rfl)) (sC (sC (sS sN))) ⟨hr,rfl,rfl⟩
        ·refine An (AF (Ae (wm rfl (wv (A2 rfl) (vF B5 rfl Dk (vL 0 GS rfl (wm rfl (wm rfl (ck cD λhW cF=>wv (r:=rv (GQ 4 hr (Int.toNat (x16.length:Int)) 0)) (JP (i:=1) BP Ch rfl rfl rfl (BX hW)) (wv (r:=rv (GQ 4 hr (Int.toNat (x16.length:Int)) 3)) (G1 (k:=1) B2 rfl Cq rfl (BX hW) rfl rfl rfl) (Iv (enc:=Ab) (ys:=hd.2.fCells) (y':=(Aa.mk ((Am hd.2.fCells (x16.length:Int)).fKind) ((Am hd.2.fCells (x16.length:Int)).fInt) ((Am hd.2.fCells (x16.length:Int)).fStr) hk)) (i:=1) (j:=(x16.length:Int)) Cq rfl rfl (Co rfl) rfl hW rfl rfl (H':=[.blk b_q [rS hd.2.fS,rI .i64 hd.2.fAt,rv hr,rB hd.2.fGreat] 127,.row hr 78 4 (List.map Ab (List.set hd.2.fCells (Int.toNat (x16.length:Int)) (Aa.mk ((Am hd.2.fCells (x16.length:Int)).fKind) ((Am hd.2.fCells (x16.length:Int)).fInt) ((Am hd.2.fCells (x16.length:Int)).fStr) hk))),.row (.slice (some ⟨h3,0,none⟩) 1 1) 78 4 (List.map Ab ([(Aa.mk 4 0 ha.1 0)]:List Aa))]) rfl (bd cF λcG cH cI=>?_))))))))))))
         rw[← cH]
         refine Ak (Ai (Ae (wm rfl (wm rfl (ob cI λgi cJ cK=>Hb (Hr:=[.row (.slice (some ⟨h3,0,none⟩) 1 1) 78 4 (List.map Ab ([(Aa.mk 4 0 ha.1 0)]:List Aa))]) HH (DU b_q hr (Aw.mk hd.2.fS hd.2.fAt cG hd.2.fGreat) ([125]:Ag) gi cJ) rfl (List.Perm.refl _) rfl ?_)))))
         rintro _ _ ⟨gj,rfl,rfl⟩
         refine Ak (cz cK rfl (λcL cM=>?_) (λcL cN=>?_))
         ·refine Ae (wa rfl (Ak (Aq (Ac (Av (Ac (Ac (AS ?_))))))))
          have cO:=Bm cM hx h9
          refine Av ?_
          obtain rfl:=As cO
          exact Ap (BW KJ (A4 rfl)) (sC (sC (sS sN))) ⟨gj,rfl,rfl⟩
         ·refine An (AF (Ae (wm rfl (ob cN λh4 cP cQ=>Hb (Hr:=[.row (.slice (some ⟨h3,0,none⟩) 1 1) 78 4 (List.map Ab ([(Aa.mk 4 0 ha.1 0)]:List Aa))]) HH (DU b_q gj gi.2 ([44]:Ag) h4 cP) rfl (List.Perm.refl _) rfl ?_))))
          rintro _ _ ⟨gk,rfl,rfl⟩
          refine wv (Cd rfl) (Ak (cz cQ rfl (λcR cS=>?_) (λcR cT=>?_)))
          ·refine Ae (wa rfl (Ak (Aq (Av (Ac (Ac (AS ?_)))))))
           have cU:=Bm cS hx h9
           refine Av ?_
           obtain rfl:=As cU
           exact Ap (BW KJ (A4 rfl)) (sC (sC (sS sN))) ⟨gk,rfl,rfl⟩
          ·refine An (A8 (AF (Af (wm rfl (ck cT λcV cW=>wv (AX rfl rfl cV) (wa rfl (Aj ?_)))))))
           have cX:=Bb cW hx
           exact Ar (A3 (cm,(ha.1,hk+1,h4.2.fS,h4.2.fAt,h4.2.fCells,h4.2.fGreat),gk) ⟨cX,AcL _⟩ (AC.c rfl (AC.c rfl (AC.c5 rfl rfl rfl rfl rfl AC.nil))) (sC (sC (sS sN))))
     ·rintro⟨⟨⟩,⟨⟩⟩ cY
      cases cY
theorem Nf:∀F:Nat,(∀(b_q:Nat) (v_q_2:Value) (q:Aw) (r:Bool×Aw),C5 F q=some r→Fn Tryz.prog GE 100 [rP b_q 0] [.blk b_q [rS q.fS,rI .i64 q.fAt,rv v_q_2,rB q.fGreat] 127,.row v_q_2 78 4 (List.map Ab q.fCells)] (λR H=>∃w0_2:Value,R=rB r.1∧H=[.blk b_q [rS r.2.fS,rI .i64 r.2.fAt,rv w0_2,rB r.2.fGreat] 127,.row w0_2 78 4 (List.map Ab r.2.fCells)]))
  | 0=>(λ_ _ _ _ h=>by simp[C5] at h)
  | nn+1=>(λb_q v_q_2 q r h=>SX nn (C5 nn) (Nf nn) b_q v_q_2 q r (by rw[C5] at h;exact h))
theorem UN (F:Nat) (b_q:Nat) (v_q_2:Value) (q:Aw) (r:Bool×Aw) (h:C5 F q=some r):Fn Tryz.prog GE 100 [rP b_q 0] [.blk b_q [rS q.fS,rI .i64 q.fAt,rv v_q_2,rB q.fGreat] 127,.row v_q_2 78 4 (List.map Ab q.fCells)] (λR H=>∃w0_2:Value,R=rB r.1∧H=[.blk b_q [rS r.2.fS,rI .i64 r.2.fAt,rv w0_2,rB r.2.fGreat] 127,.row w0_2 78 4 (List.map Ab r.2.fCells)]):=(Nf F) b_q v_q_2 q r h
theorem UR (F:Nat) (s:Ag) (r:(List Aa)×Int) (h:L3 F s=some r):Fn Tryz.prog GE 74 [rS s] [] (λR H=>R=Cm [AV 4 (List.map Ab r.1),rI .i64 r.2]∧H=[]):=by
 refine enter (n:=34) Tryz.func74 rfl Tryz.ntmps74 rfl (λw Z=>?_)
 unfold L3 at h
 refine Ae (wa rfl (wa rfl (Ak (Ai (Ae (wm rfl (wv (AW BC rfl) (wv (Cb rfl rfl) (Ak (cz h rfl (λc1 h2=>?_) (λc1 h3=>?_)))))))))))
 ·refine Ae (wa rfl (wa rfl (Ak (Aq (Ac (WK.up (d:=2) (r:=AV 4 (List.map Ab ([]:List Aa))) rfl (Up.le (E1.nil _)) ?_))))))
  obtain rfl:=As h2
  exact Ap (Cy YY (A4 rfl) (A4 rfl)) sN ⟨rfl,rfl⟩
 ·refine An (AF (Ae (wm rfl (wv (r:=B9 [rS s,rI .i64 0,rv (.slice none 0 0),rB false]) (QF rfl rfl) (Ec rfl rfl (λb4=>?_))))))
  refine wa rfl (Ak (Ai (DS (S:=(Bool×Ag×Int×(List Aa)×Bool)×(Value)) (λσ=>GG F σ.1.1 σ.1.2.1 σ.1.2.2.1 σ.1.2.2.2.1 σ.1.2.2.2.2=some r) (λσ=>[(2,rv (.slice none 0 0)),(3,rI .i64 0),(4,rP b4 0),(22,rB σ.1.1)]) (λσ=>[.blk b4 [rS σ.1.2.1,rI .i64 σ.1.2.2.1,rv σ.2,rB σ.1.2.2.2.2] 127,.row σ.2 78 4 (List.map Ab σ.1.2.2.2.1)]) ?_ ?_)))
  ·refine Af (wm rfl (WL.nilrow (e:=78) (sz:=4) (ob h3 λhb hk hl=>Hb (Hr:=[]) Tryz.call100 (UN F b4 (.slice none 0 0                                                                              ) (Aw.mk s 0 ([]:List Aa) false) hb hk) rfl ((A5 (i:=1) rfl).trans (List.Perm.cons _ (List.Perm.refl _))) rfl ?_)))
   rintro _ _ ⟨v21,rfl,rfl⟩
   refine wv (Cd rfl) (wm rfl (bz hl (λha hm=>?_) (λha hn=>?_)))
   ·exact wf ha (wf ha (wf ha (wf ha (wf ha (wf ha (wf ha (wv (r:=rB true) (Au rfl ha rfl) (Aj (Ar (A3 ((true,hb.2.fS,hb.2.fAt,hb.2.fCells,hb.2.fGreat),v21) hm (AC.c rfl (AC.c rfl (AC.c rfl (AC.c rfl AC.nil)))) (sC (sC sN))))))))))))
   ·exact wo ha (wm rfl (wo ha (wv (A2 rfl) (wo ha (vF B5 rfl Cq (wo ha (vL 0 CU rfl (wo ha (wm rfl (wo ha (wv (AW BC rfl) (wo ha (wv (CB rfl rfl) (DR rfl ha rfl (Aj (Ar (A3 ((!decide (hb.2.fAt=(s.length:Int)),hb.2.fS,hb.2.fAt,hb.2.fCells,hb.2.fGreat),v21) hn (AC.c rfl (AC.c rfl (AC.c rfl (AC.c rfl AC.nil)))) (sC (sC sN)))))))))))))))))))
  ·rintro⟨⟨hf,hg,hh,hd,hi⟩,hj⟩ he
   refine BO (l':=[(2,rv (.slice none 0 0)),(3,rI .i64 0),(4,rP b4 0),(22,rB hf)]) (H':=[.blk b4 [rS hg,rI .i64 hh,rv hj,rB hi] 127,.row hj 78 4 (List.map Ab hd)]) rfl rfl ?_
   replace he:GG F hf hg hh hd hi=some r:=he
   unfold GG at he
   refine cz he rfl (λho hp=>?_) (λho hq=>?_)
   ·refine Ae (wa rfl (wa rfl (Ak (Aq (Ac (WK.up (d:=2) (r:=AV 4 (List.map Ab ([]:List Aa))) rfl (Up.le (E1.nil _)) ?_))))))
    obtain rfl:=As hp
    exact Ap (Cy YY (A4 rfl) (A4 rfl)) (sS (sS sN)) ⟨rfl,rfl⟩
   ·refine An (AF (Ai (Ae (wm rfl (wv (A2 rfl) (vF B5 rfl GR (vL 0 MZ rfl (Ak (cz hq rfl (λhr hs=>?_) (λhr ht=>?_))))))))))
    ·refine Ae (wa rfl (wa rfl (Ak (Aq (Ac (WK.up (d:=2) (r:=AV 4 (List.map Ab ([]:List Aa))) rfl (Up.le (E1.nil _)) ?_))))))
     obtain rfl:=As hs
     exact Ap (Cy YY (A4 rfl) (A4 rfl)) (sS (sS sN)) ⟨rfl,rfl⟩
    ·refine An (AF (Ae (wm rfl (wv (A2 rfl) (vF B5 rfl Dk (vL 0 GS rfl (WL.freeze (i:=1) rfl (WL.up (d:=30) (r:=AV 4 (List.map Ab hd)) rfl (Up.fact (i:=0) rfl) (ob ht λhu hw hx=>Cg Tryz.call101 (Tb F hd hu hw) rfl (wv (Az rfl rfl) (wv (Az rfl rfl) (wa rfl (wa rfl (Ak (Aq ?_)))))))))))))))
     obtain rfl:=As hx
     exact Ap (Cy YY (A4 rfl) (A4 rfl)) (sS (sS sN)) ⟨rfl,rfl⟩
end Go.Proofs.YtjfnokmpfekniaaGreatDoor.Q
namespace Go.Proofs.YtjfnokmpfekniaaGreatDoor
open Go
set_option linter.unusedVariables false
end Go.Proofs.YtjfnokmpfekniaaGreatDoor
namespace Go.Proofs.YtjfnokmpfekniaaGreatDoor.Q
open Go Go.RowKit
set_option linter.unusedVariables false
set_option linter.unusedSimpArgs false
set_option maxRecDepth 100000
set_option maxHeartbeats 4000000
end Go.Proofs.YtjfnokmpfekniaaGreatDoor.Q
namespace Go.Proofs.YtjfnokmpfekniaaGreatDoor
open Go
set_option linter.unusedVariables false
def LE (F:Nat) (v:(List Aa)):Option ((List Aa)×Int):=
 Bn (Ld F v) λr1=>Bd (!decide (r1=0)) (some (([]:List Aa),r1)) (some (v,0))
def RI :Option ((List Aa)):=
 some ([(Aa.mk 1 0 ([]:Ag) 0)]:List Aa)
def Nm (b:Bool):Option ((List Aa)):=
 Bd (b) (some ([(Aa.mk 2 1 ([]:Ag) 0)]:List Aa)) (some ([(Aa.mk 2 0 ([]:Ag) 0)]:List Aa))
def Bu (s:Ag) (at_:Int) (word:Ag):Option (Bool):=
 AN (Bl .i64 (at_+(word.length:Int)))<|AN (imp (decide ((at_+(word.length:Int))≤(s.length:Int))) (GJ at_ (at_+(word.length:Int))))<|AN (imp (decide ((at_+(word.length:Int))≤(s.length:Int))) (GJ (at_+(word.length:Int)) (s.length:Int)))<|some ((decide ((at_+(word.length:Int))≤(s.length:Int)))&&(decide ((List.take (Int.toNat (at_+(word.length:Int))-Int.toNat at_) (List.drop (Int.toNat at_) s))=word)))
def C7 (s:Ag) (hb:Ag) (ha:Int):Option (Stp (Ag×Int) (Out (Ag×Int) (Ag×Int))):=
 AN (imp (decide (ha<(s.length:Int))) (Cu ha (s.length:Int)))<|Bd (((decide (ha<(s.length:Int)))&&(!decide ((AK s ha)=34)))) (AN (Cu ha (s.length:Int))<|Bd (decide ((AK s ha)=92)) (AN (Bl .i64 (ha+1))<|AN (imp (!(decide ((s.length:Int)≤(ha+1)))) (Cu (ha+1) (s.length:Int)))<|Bd (((decide ((s.length:Int)≤(ha+1)))||((!decide ((AK s (ha+1))=34))&&(!decide ((AK s (ha+1))=92))))) (some (.out (.ret (([]:Ag),(-1))))) (AN (Bl .i64 ((ha+1)+1))<|AN (GJ (ha+1) ((ha+1)+1))<|AN (GJ ((ha+1)+1) (s.length:Int))<|AN (Bl .i64 ((hb.length:Int)+((List.take (Int.toNat ((ha+1)+1)-Int.toNat (ha+1)) (List.drop (Int.toNat (ha+1)) s)).length:Int)))<|some (.next (hb++(List.take (Int.toNat ((ha+1)+1)-Int.toNat (ha+1)) (List.drop (Int.toNat (ha+1)) s)),(ha+1)+1)))) (AN (Bl .i64 (ha+1))<|AN (GJ ha (ha+1))<|AN (GJ (ha+1) (s.length:Int))<|AN (Bl .i64 ((hb.length:Int)+((List.take (Int.toNat (ha+1)-Int.toNat ha) (List.drop (Int.toNat ha) s)).length:Int)))<|some (.next (hb++(List.take (Int.toNat (ha+1)-Int.toNat ha) (List.drop (Int.toNat ha) s)),ha+1)))) (some (.out (.go (hb,ha))))
def CR (s:Ag) (hb:Ag) (ha:Int):Option (Ag×Int):=
 Bd (decide ((s.length:Int)≤ha)) (some (([]:Ag),(-1))) (AN (Bl .i64 (ha+1))<|some (hb,ha+1))
def Dj (F:Nat) (s:Ag) (at_:Int):Option (Ag×Int):=
 AN (imp (!(decide ((s.length:Int)≤at_))) (Cu at_ (s.length:Int)))<|Bd (((decide ((s.length:Int)≤at_))||(!decide ((AK s at_)=34)))) (some (([]:Ag),(-1))) (AN (Bl .i64 (at_+1))<|Bn (BF (λσ=>C7 s σ.1 σ.2) F (([]:Ag),at_+1)) (B6 λν=>CR s ν.1 ν.2))
def Gm (s:Ag) (at_:Int) (ha:Int) (hb:Int):Option (Stp (Int×Int) (Out ((List Aa)×Int) (Int×Int))):=
 AN (imp (decide (ha<(s.length:Int))) (Cu ha (s.length:Int)))<|Bd (((decide (ha<(s.length:Int)))&&((decide (48≤(AK s ha)))&&(decide ((AK s ha)≤57))))) (AN (Bl .i64 (ha-(at_+1)))<|Bd (decide ((ha-(at_+1))<18)) (AN (Bl .i64 (10*hb))<|AN (Cu ha (s.length:Int))<|AN (Bl .u8 ((AK s ha)-48))<|AN (Bl .i64 ((AK s ha)-48))<|AN (Bl .i64 ((10*hb)+((AK s ha)-48)))<|AN (Bl .i64 (ha+1))<|some (.next (ha+1,(10*hb)+((AK s ha)-48)))) (AN (Bl .i64 (ha+1))<|some (.next (ha+1,hb)))) (some (.out (.go (ha,hb))))
def Gk (s:Ag) (at_:Int) (ha:Int) (hb:Int):Option ((List Aa)×Int):=
 AN (imp (!(decide (ha=(at_+1)))) (Cu (at_+1) (s.length:Int)))<|AN (imp (!(decide (ha=(at_+1)))) (imp (decide ((AK s (at_+1))=48)) (Bl .i64 ((at_+1)+1))))<|Bd (((decide (ha=(at_+1)))||((decide ((AK s (at_+1))=48))&&((decide (((at_+1)+1)<ha))||(decide (at_<(at_+1))))))) (some (([]:List Aa),(-1))) (AN (Bl .i64 (ha-(at_+1)))<|Bd (decide (18<(ha-(at_+1)))) (Bd (decide (at_<(at_+1))) (AN (Bl .i64 (-2000000000000))<|some (([(Aa.mk 3 (-2000000000000) ([]:Ag) 0)]:List Aa),ha)) (some (([(Aa.mk 3 2000000000000 ([]:Ag) 0)]:List Aa),ha))) (Bd (decide (at_<(at_+1))) (AN (Bl .i64 (-hb))<|some (([(Aa.mk 3 (-hb) ([]:Ag) 0)]:List Aa),ha)) (some (([(Aa.mk 3 hb ([]:Ag) 0)]:List Aa),ha))))
def Gl (s:Ag) (at_:Int) (ha:Int) (hb:Int):Option (Stp (Int×Int) (Out ((List Aa)×Int) (Int×Int))):=
 AN (imp (decide (ha<(s.length:Int))) (Cu ha (s.length:Int)))<|Bd (((decide (ha<(s.length:Int)))&&((decide (48≤(AK s ha)))&&(decide ((AK s ha)≤57))))) (AN (Bl .i64 (ha-at_))<|Bd (decide ((ha-at_)<18)) (AN (Bl .i64 (10*hb))<|AN (Cu ha (s.length:Int))<|AN (Bl .u8 ((AK s ha)-48))<|AN (Bl .i64 ((AK s ha)-48))<|AN (Bl .i64 ((10*hb)+((AK s ha)-48)))<|AN (Bl .i64 (ha+1))<|some (.next (ha+1,(10*hb)+((AK s ha)-48)))) (AN (Bl .i64 (ha+1))<|some (.next (ha+1,hb)))) (some (.out (.go (ha,hb))))
def Gj (s:Ag) (at_:Int) (ha:Int) (hb:Int):Option ((List Aa)×Int):=
 AN (imp (!(decide (ha=at_))) (imp (decide ((AK s at_)=48)) (Bl .i64 (at_+1))))<|Bd (((decide (ha=at_))||((decide ((AK s at_)=48))&&((decide ((at_+1)<ha))||(decide (at_<at_)))))) (some (([]:List Aa),(-1))) (AN (Bl .i64 (ha-at_))<|Bd (decide (18<(ha-at_))) (Bd (decide (at_<at_)) (AN (Bl .i64 (-2000000000000))<|some (([(Aa.mk 3 (-2000000000000) ([]:Ag) 0)]:List Aa),ha)) (some (([(Aa.mk 3 2000000000000 ([]:Ag) 0)]:List Aa),ha))) (Bd (decide (at_<at_)) (AN (Bl .i64 (-hb))<|some (([(Aa.mk 3 (-hb) ([]:Ag) 0)]:List Aa),ha)) (some (([(Aa.mk 3 hb ([]:Ag) 0)]:List Aa),ha))))
def IH (F:Nat) (s:Ag) (at_:Int):Option ((List Aa)×Int):=
 AN (Cu at_ (s.length:Int))<|Bd (decide ((AK s at_)=45)) (AN (Bl .i64 (at_+1))<|Bn (BF (λσ=>Gm s at_ σ.1 σ.2) F (at_+1,0)) (B6 λν=>Gk s at_ ν.1 ν.2)) (Bn (BF (λσ=>Gl s at_ σ.1 σ.2) F (at_,0)) (B6 λν=>Gj s at_ ν.1 ν.2))
def Q3 (F:Nat) (rec_rReadMany:Ag→Int→Option ((List Aa)×Int)) (s:Ag) (at_:Int):Option ((List Aa)×Int):=
 Bd (decide ((s.length:Int)≤at_)) (some (([]:List Aa),(-1))) (Bn (Bu s at_ ([110,117,108,108]:Ag)) λr4=>Bd (r4) (Bn (RI) λr9=>AN (Bl .i64 (at_+4))<|some (r9,at_+4)) (Bn (Bu s at_ ([116,114,117,101]:Ag)) λhe=>Bd (he) (Bn (Nm true) λhf=>AN (Bl .i64 (at_+4))<|some (hf,at_+4)) (Bn (Bu s at_ ([102,97,108,115,101]:Ag)) λhg=>Bd (hg) (Bn (Nm false) λhh=>AN (Bl .i64 (at_+5))<|some (hh,at_+5)) (AN (Cu at_ (s.length:Int))<|Bd (decide ((AK s at_)=34)) (Bn (Dj F s at_) λha=>some (([(Aa.mk 4 0 ha.1 0)]:List Aa),ha.2)) (Bd (((decide ((AK s at_)=91))||(decide ((AK s at_)=123)))) (Bn (rec_rReadMany s at_) λhb=>some (hb.1,hb.2)) (Bn (IH F s at_) λhd=>some (hd.1,hd.2)))))))
def Hv (F:Nat) (s:Ag) (rec_rRead:Ag→Int→Option ((List Aa)×Int)) (hg:(List Aa)) (hb:Int) (ha:Aa):Option (Stp ((List Aa)×Int×Aa) (Out ((List Aa)×Int) ((List Aa)×Int×Aa))):=
 AN ((Bu s hb ([125]:Ag)).isSome)<|AN (imp (!(!(ov (Bu s hb ([125]:Ag))))) (imp (decide (0<ha.fN)) (Bl .i64 (hb-1))))<|AN (imp (!(!(ov (Bu s hb ([125]:Ag))))) (imp (decide (0<ha.fN)) (Cu (hb-1) (s.length:Int))))<|Bd (((!(ov (Bu s hb ([125]:Ag))))||((decide (0<ha.fN))&&(decide ((AK s (hb-1))=44))))) (Bd (decide (ha.fKind=6)) (Bn (Dj F s hb) λhd=>AN (imp (!(decide (hd.2<0))) ((Bu s hd.2 ([58]:Ag)).isSome))<|Bd (((decide (hd.2<0))||(!(ov (Bu s hd.2 ([58]:Ag)))))) (some (.out (.ret (([]:List Aa),(-1))))) (AN (Dw 40 (hg.length+([(Aa.mk 4 0 hd.1 0)]:List Aa).length))<|AN (Bl .i64 (hd.2+1))<|Bn (rec_rRead s (hd.2+1)) λhe=>Bd (decide (he.2<0)) (some (.out (.ret (([]:List Aa),(-1))))) (AN (Dw 40 ((hg++([(Aa.mk 4 0 hd.1 0)]:List Aa)).length+he.1.length))<|AN (Bl .i64 (ha.fN+1))<|Bn (Bu s he.2 ([44]:Ag)) λhh=>Bd (hh) (AN (Bl .i64 (he.2+1))<|some (.next ((hg++([(Aa.mk 4 0 hd.1 0)]:List Aa))++he.1,he.2+1,(Aa.mk ha.fKind ha.fInt ha.fStr (ha.fN+1))))) (Bn (Bu s he.2 ([125]:Ag)) λhi=>Bd (!hi) (some (.out (.ret (([]:List Aa),(-1))))) (some (.next ((hg++([(Aa.mk 4 0 hd.1 0)]:List Aa))++he.1,he.2,(Aa.mk ha.fKind ha.fInt ha.fStr (ha.fN+1))))))))) (Bn (rec_rRead s hb) λhf=>Bd (decide (hf.2<0)) (some (.out (.ret (([]:List Aa),(-1))))) (AN (Dw 40 (hg.length+hf.1.length))<|AN (Bl .i64 (ha.fN+1))<|Bn (Bu s hf.2 ([44]:Ag)) λhj=>Bd (hj) (AN (Bl .i64 (hf.2+1))<|some (.next (hg++hf.1,hf.2+1,(Aa.mk ha.fKind ha.fInt ha.fStr (ha.fN+1))))) (Bn (Bu s hf.2 ([125]:Ag)) λhk=>Bd (!hk) (some (.out (.ret (([]:List Aa),(-1))))) (some (.next (hg++hf.1,hf.2,(Aa.mk ha.fKind ha.fInt ha.fStr (ha.fN+1))))))))) (some (.out (.go (hg,hb,ha))))
def Ht (ha:(List Aa)) (hb:Int) (hd:Aa):Option ((List Aa)×Int):=
 AN (Dw 40 (([hd]:List Aa).length+ha.length))<|AN (Bl .i64 (hb+1))<|some (([hd]:List Aa)++ha,hb+1)
def Hu (F:Nat) (s:Ag) (rec_rRead:Ag→Int→Option ((List Aa)×Int)) (hg:(List Aa)) (hb:Int) (ha:Aa):Option (Stp ((List Aa)×Int×Aa) (Out ((List Aa)×Int) ((List Aa)×Int×Aa))):=
 AN ((Bu s hb ([93]:Ag)).isSome)<|AN (imp (!(!(ov (Bu s hb ([93]:Ag))))) (imp (decide (0<ha.fN)) (Bl .i64 (hb-1))))<|AN (imp (!(!(ov (Bu s hb ([93]:Ag))))) (imp (decide (0<ha.fN)) (Cu (hb-1) (s.length:Int))))<|Bd (((!(ov (Bu s hb ([93]:Ag))))||((decide (0<ha.fN))&&(decide ((AK s (hb-1))=44))))) (Bd (decide (ha.fKind=6)) (Bn (Dj F s hb) λhd=>AN (imp (!(decide (hd.2<0))) ((Bu s hd.2 ([58]:Ag)).isSome))<|Bd (((decide (hd.2<0))||(!(ov (Bu s hd.2 ([58]:Ag)))))) (some (.out (.ret (([]:List Aa),(-1))))) (AN (Dw 40 (hg.length+([(Aa.mk 4 0 hd.1 0)]:List Aa).length))<|AN (Bl .i64 (hd.2+1))<|Bn (rec_rRead s (hd.2+1)) λhe=>Bd (decide (he.2<0)) (some (.out (.ret (([]:List Aa),(-1))))) (AN (Dw 40 ((hg++([(Aa.mk 4 0 hd.1 0)]:List Aa)).length+he.1.length))<|AN (Bl .i64 (ha.fN+1))<|Bn (Bu s he.2 ([44]:Ag)) λhh=>Bd (hh) (AN (Bl .i64 (he.2+1))<|some (.next ((hg++([(Aa.mk 4 0 hd.1 0)]:List Aa))++he.1,he.2+1,(Aa.mk ha.fKind ha.fInt ha.fStr (ha.fN+1))))) (Bn (Bu s he.2 ([93]:Ag)) λhi=>Bd (!hi) (some (.out (.ret (([]:List Aa),(-1))))) (some (.next ((hg++([(Aa.mk 4 0 hd.1 0)]:List Aa))++he.1,he.2,(Aa.mk ha.fKind ha.fInt ha.fStr (ha.fN+1))))))))) (Bn (rec_rRead s hb) λhf=>Bd (decide (hf.2<0)) (some (.out (.ret (([]:List Aa),(-1))))) (AN (Dw 40 (hg.length+hf.1.length))<|AN (Bl .i64 (ha.fN+1))<|Bn (Bu s hf.2 ([44]:Ag)) λhj=>Bd (hj) (AN (Bl .i64 (hf.2+1))<|some (.next (hg++hf.1,hf.2+1,(Aa.mk ha.fKind ha.fInt ha.fStr (ha.fN+1))))) (Bn (Bu s hf.2 ([93]:Ag)) λhk=>Bd (!hk) (some (.out (.ret (([]:List Aa),(-1))))) (some (.next (hg++hf.1,hf.2,(Aa.mk ha.fKind ha.fInt ha.fStr (ha.fN+1))))))))) (some (.out (.go (hg,hb,ha))))
def Hq (ha:(List Aa)) (hb:Int) (hd:Aa):Option ((List Aa)×Int):=
 AN (Dw 40 (([hd]:List Aa).length+ha.length))<|AN (Bl .i64 (hb+1))<|some (([hd]:List Aa)++ha,hb+1)
def Jj (F:Nat) (rec_rRead:Ag→Int→Option ((List Aa)×Int)) (s:Ag) (at_:Int):Option ((List Aa)×Int):=
 AN (Cu at_ (s.length:Int))<|Bd (decide ((AK s at_)=123)) (AN (Bl .i64 (at_+1))<|Bn (BF (λσ=>Hv F s rec_rRead σ.1 σ.2.1 σ.2.2) F (([]:List Aa),at_+1,(Aa.mk 6 0 ([]:Ag) 0))) (B6 λν=>Ht ν.1 ν.2.1 ν.2.2)) (AN (Bl .i64 (at_+1))<|Bn (BF (λσ=>Hu F s rec_rRead σ.1 σ.2.1 σ.2.2) F (([]:List Aa),at_+1,(Aa.mk 5 0 ([]:Ag) 0))) (B6 λν=>Hq ν.1 ν.2.1 ν.2.2))
mutual
def Hi:Nat→Ag→Int→Option ((List Aa)×Int)
 | 0,_,_=>none
 | nn+1,s,at_=>Q3 nn (DI nn) s at_
def DI:Nat→Ag→Int→Option ((List Aa)×Int)
 | 0,_,_=>none
 | nn+1,s,at_=>Jj nn (Hi nn) s at_
end
def LD (F:Nat) (s:Ag):Option ((List Aa)×Int):=
 Bd (decide (4000<(s.length:Int))) (some (([]:List Aa),3)) (Bn (Hi F s 0) λr4=>Bd (!decide (r4.2=(s.length:Int))) (some (([]:List Aa),1)) (Bn (LE F r4.1) λha=>some (ha.1,ha.2)))
end Go.Proofs.YtjfnokmpfekniaaGreatDoor
namespace Go.Proofs.YtjfnokmpfekniaaGreatDoor.Q
open Go Go.RowKit
set_option linter.unusedVariables false
set_option linter.unusedSimpArgs false
set_option maxRecDepth 100000
set_option maxHeartbeats 4000000
theorem Tm (F:Nat) (v:(List Aa)) (r:(List Aa)×Int) (h:LE F v=some r):Fn Tryz.prog GE 104 [AV 4 (List.map Ab v)] [] (λR H=>R=Cm [AV 4 (List.map Ab r.1),rI .i64 r.2]∧H=[]):=by
 refine enter (n:=11) Tryz.func104 rfl Tryz.ntmps104 rfl (λw Z=>?_)
 unfold LE at h
 refine Ae (wa rfl (wa rfl (Bf (wm rfl (ob h λr1 e3 h2=>Cg Tryz.call57 (O0 F v r1 e3) rfl (wa rfl (Ak (Ai (Ae (wm rfl (wv (CB rfl rfl) (Ak (cz h2 rfl (λc4 h5=>?_) (λc4 h6=>?_))))))))))))))
 ·refine Ae (wm rfl (wa rfl (wa rfl (Ak (Aq (Ac (WK.up (d:=2) (r:=AV 4 (List.map Ab ([]:List Aa))) rfl (Up.le (E1.nil _)) ?_)))))))
  obtain rfl:=As h5
  exact Ap (Cy Tryz.results104 (A4 rfl) (A4 rfl)) sN ⟨rfl,rfl⟩
 ·refine An (AF (Ae (wm rfl (wa rfl (wa rfl (Ak (Aq ?_)))))))
  obtain rfl:=As h6
  exact Ap (Cy Tryz.results104 (A4 rfl) (A4 rfl)) sN ⟨rfl,rfl⟩
theorem Zy  (r:(List Aa)) (h:RI=some r):Fn Tryz.prog GE 137 [] [] (λR H=>R=AV 4 (List.map Ab r)∧H=[]):=by
 refine enter (n:=3) Tryz.func137 rfl Tryz.ntmps137 rfl (λw Z=>?_)
 unfold RI at h
 refine Ae (wa rfl (Bf (wv (r:=B9 [rI .i64 1,rI .i64 0,rS ([]:Ag),rI .i64 0]) (Ex rfl rfl) (AQ (ys:=([(Aa.mk 1 0 ([]:Ag) 0)]:List Aa)) (enc:=Ab) (css:=[[rI .i64 1,rI .i64 0,rS ([]:Ag),rI .i64 0]]) (xs:=[.tmp 1]) BP Ch EH rfl rfl rfl ⟨Eb.agg ⟨Up.refl _,Up.refl _,Up.refl _,Up.refl _,trivial⟩,trivial⟩ rfl AR rfl rfl rfl (λb1=>?_)))))
 refine wa rfl (Ak (Aq (WK.freeze (i:=0) rfl (WK.up (d:=0) (r:=AV 4 (List.map Ab ([(Aa.mk 1 0 ([]:Ag) 0)]:List Aa))) rfl (Up.fact (i:=0) rfl) ?_))))
 obtain rfl:=As h
 exact Ap (BW Tryz.results137 (A4 rfl)) (sS sN) ⟨rfl,rfl⟩
theorem TV (b:Bool) (r:(List Aa)) (h:Nm b=some r):Fn Tryz.prog GE 138 [rB b] [] (λR H=>R=AV 4 (List.map Ab r)∧H=[]):=by
 refine enter (n:=8) Tryz.func138 rfl Tryz.ntmps138 rfl (λw Z=>?_)
 unfold Nm at h
 refine Ae (wa rfl (Ak (Ai (Ae (wm rfl (Ak (cz h rfl (λc1 h2=>?_) (λc1 h4=>?_))))))))
 ·refine Ae (wv (r:=B9 [rI .i64 2,rI .i64 1,rS ([]:Ag),rI .i64 0]) (Ck rfl rfl rfl rfl) (AQ (ys:=([(Aa.mk 2 1 ([]:Ag) 0)]:List Aa)) (enc:=Ab) (css:=[[rI .i64 2,rI .i64 1,rS ([]:Ag),rI .i64 0]]) (xs:=[.tmp 4]) BP Ch EH rfl rfl rfl ⟨Eb.agg ⟨Up.refl _,Up.refl _,Up.refl _,Up.refl _,trivial⟩,trivial⟩ rfl AR rfl rfl rfl (λb3=>?_)))
  refine wa rfl (Ak (Aq (Ac (WK.freeze (i:=0) rfl (WK.up (d:=2) (r:=AV 4 (List.map Ab ([(Aa.mk 2 1 ([]:Ag) 0)]:List Aa))) rfl (Up.fact (i:=0) rfl) ?_)))))
  obtain rfl:=As h2
  exact Ap (BW Tryz.results138 (A4 rfl)) (sS sN) ⟨rfl,rfl⟩
 ·refine An (AF (Ae (wv (r:=B9 [rI .i64 2,rI .i64 0,rS ([]:Ag),rI .i64 0]) (Ex rfl rfl) (AQ (ys:=([(Aa.mk 2 0 ([]:Ag) 0)]:List Aa)) (enc:=Ab) (css:=[[rI .i64 2,rI .i64 0,rS ([]:Ag),rI .i64 0]]) (xs:=[.tmp 6]) BP Ch EH rfl rfl rfl ⟨Eb.agg ⟨Up.refl _,Up.refl _,Up.refl _,Up.refl _,trivial⟩,trivial⟩ rfl AR rfl rfl rfl (λb5=>?_)))))
  refine wa rfl (Ak (Aq (WK.freeze (i:=0) rfl (WK.up (d:=2) (r:=AV 4 (List.map Ab ([(Aa.mk 2 0 ([]:Ag) 0)]:List Aa))) rfl (Up.fact (i:=0) rfl) ?_))))
  obtain rfl:=As h4
  exact Ap (BW Tryz.results138 (A4 rfl)) (sS sN) ⟨rfl,rfl⟩
theorem CJ (s:Ag) (at_:Int) (word:Ag) (r:Bool) (h:Bu s at_ word=some r):Fn Tryz.prog GE 136 [rS s,rI .i64 at_,rS word] [] (λR H=>R=rB r∧H=[]):=by
 refine enter (n:=25) Tryz.func136 rfl Tryz.ntmps136 rfl (λw Z=>?_)
 unfold Bu at h
 refine Ae (wa rfl (Ak (ck h λg1 h2=>ck h2 λg3 h4=>ck h4 λg5 h6=>A6 [(6,rB ((decide ((at_+(word.length:Int))≤(s.length:Int)))&&(decide ((List.take (Int.toNat (at_+(word.length:Int))-Int.toNat at_) (List.drop (Int.toNat at_) s))=word))))] [] ?_ ?_)))
 ·refine Af (wm rfl (wm rfl (wv (AW BC rfl) (wv (AX rfl rfl g1) (wm rfl (wv (AW BC rfl) (wv (KG rfl rfl) (wm rfl (AI (decide ((at_+(word.length:Int))≤(s.length:Int))) (λc7=>?_) (λc7=>?_))))))))))
  ·refine wo c7 (wm rfl (wo c7 (wm rfl (wo c7 (wm rfl (wo c7 (wm rfl (wo c7 (wv (AW BC rfl) (wo c7 (wv (AX rfl rfl g1) (wo c7 (wv (CK BC rfl rfl rfl (C2 g3 c7) (C2 g5 c7)) (wo c7 (wm rfl (wo c7 (wv (Ef rfl rfl) (EF rfl c7 rfl (wa rfl (Aj ?_))))))))))))))))))))
   exact BM c7
  ·refine wf c7 (wf c7 (wf c7 (wf c7 (wf c7 (wf c7 (wf c7 (wf c7 (wf c7 (wv (r:=rB false) (A7 rfl c7 rfl) (wa rfl (Aj ?_)))))))))))
   exact BM c7
 refine Aq ?_
 obtain rfl:=As h6
 exact Ap (BW Tryz.results136 (A4 rfl)) sN ⟨rfl,rfl⟩
theorem Ix (F:Nat) (s:Ag) (at_:Int) (r:Ag×Int) (h:Dj F s at_=some r):Fn Tryz.prog GE 139 [rS s,rI .i64 at_] [] (λR H=>R=Cm [rS r.1,rI .i64 r.2]∧H=[]):=by
 refine enter (n:=68) Tryz.func139 rfl Tryz.ntmps139 rfl (λw Z=>?_)
 unfold Dj at h
 refine Ae (wv (r:=rS ([]:Ag)) (Ao rfl) (wa rfl (Ak (Ai (ck h λg1 h2=>A6 [(0,rS s),(1,rI .i64 at_),(17,rB ((decide ((s.length:Int)≤at_))||(!decide ((AK s at_)=34))))] [] ?_ ?_)))))
 ·refine Af (wm rfl (wm rfl (wv (AW BC rfl) (wv (G0 rfl rfl) (wm rfl (AI (decide ((s.length:Int)≤at_)) (λc3=>?_) (λc3=>?_)))))))
  ·refine wf c3 (wf c3 (wf c3 (wf c3 (wv (r:=rB true) (Au rfl c3 rfl) (Aj ?_)))))
   exact BM c3
  ·refine wo c3 (wm rfl (wo c3 (wm rfl (wo c3 (wv (AO BC rfl rfl (Cr g1 c3)) (wo c3 (wv (CB rfl rfl) (DR rfl c3 rfl (Aj ?_)))))))))
   exact BM c3
 refine cz h2 rfl (λc4 h5=>?_) (λc4 h6=>?_)
 ·refine Ae (wv (r:=rS ([]:Ag)) (Ao rfl) (wv (r:=rI .i64 (-1)) (Ao rfl) (Ak (Aq (Ac ?_)))))
  obtain rfl:=As h5
  exact Ap (Cy TH (A4 rfl) (A4 rfl)) sN ⟨rfl,rfl⟩
 ·refine An (AF (Ae (wv (r:=rS ([]:Ag)) (Ao rfl) (Bf (wm rfl (ck h6 λg7 h8=>wv (AX rfl rfl g7) (wa rfl (Ak (Ai (AB (ob h8 λhq hr hj=>Bk (S:=Nat×(Ag×Int)×(Unit)) (V:=(Ag×Int)×(Unit)) 0 (λσ=>BF (λσ=>C7 s σ.1 σ.2) σ.1 σ.2.1=some hq) (λσ=>[(0,rS s),(6,rS σ.2.1.1),(7,rI .i64 σ.2.1.2)]) (λσ=>[]) (λσ=>σ.1) (F,(([]:Ag),at_+1),()) hr (AC.c rfl (AC.c rfl (AC.c rfl AC.nil))) sN (λσ=>CR s σ.1.1 σ.1.2=some r) (λσ=>[(0,rS s),(6,rS σ.1.1),(7,rI .i64 σ.1.2)]) (λσ=>[]) ?_ ?_)))))))))))
  ·rintro⟨ge,⟨hf,hb⟩,⟨⟩⟩ hs
   refine BO (l':=[(0,rS s),(6,rS hf),(7,rI .i64 hb)]) (H':=[]) rfl rfl ?_
   obtain⟨hk,rfl,ht,hg,hh⟩:=Ce hs
   replace hg:C7 s hf hb=some ht:=hg
   unfold C7 at hg
   refine Ai (ck hg λhu hw=>A6 [(0,rS s),(6,rS hf),(7,rI .i64 hb),(29,rB ((decide (hb<(s.length:Int)))&&(!decide ((AK s hb)=34))))] [] ?_ ?_)
   ·refine Af (wm rfl (wm rfl (wv (AW BC rfl) (wv (BY rfl rfl) (wm rfl (AI (decide (hb<(s.length:Int))) (λhd=>?_) (λhd=>?_)))))))
    ·refine wo hd (wm rfl (wo hd (wm rfl (wo hd (wv (AO BC rfl rfl (C2 hu hd)) (wo hd (wv (CB rfl rfl) (EF rfl hd rfl (Aj ?_)))))))))
     exact BM hd
    ·refine wf hd (wf hd (wf hd (wf hd (wv (r:=rB false) (A7 rfl hd rfl) (Aj ?_)))))
     exact BM hd
   refine cz hw rfl (λhx hy=>?_) (λhx hz=>?_)
   ·refine An (AF (AB (Ai (Ae (wm rfl (wm rfl (ck hy λh0 h1=>wv (AO BC rfl rfl h0) (wv (Bx rfl rfl) (Ak (cz h1 rfl (λh3 h4=>?_) (λh3 h7=>?_)))))))))))
    ·refine Ae (wm rfl (ck h4 λh9 hA=>wv (AX rfl rfl h9) (wa rfl (Ak (ck hA λhl hB=>A6 [(0,rS s),(6,rS hf),(7,rI .i64 (hb+1)),(51,rB ((decide ((s.length:Int)≤(hb+1)))||((!decide ((AK s (hb+1))=34))&&(!decide ((AK s (hb+1))=92)))))] [] ?_ ?_)))))
     ·refine Af (wm rfl (wm rfl (wv (AW BC rfl) (wv (G0 rfl rfl) (wm rfl (AI (decide ((s.length:Int)≤(hb+1))) (λha=>?_) (λha=>?_)))))))
      ·refine wf ha (wf ha (wf ha (wf ha (wf ha (wu (wu (wu (wu (wf ha (wv (r:=rB true) (Au rfl ha rfl) (Aj ?_)))))))))))
       exact BM ha
      ·refine wo ha (wm rfl (wo ha (wm rfl (wo ha (wv (AO BC rfl rfl (Cr hl ha)) (wo ha (wv (CB rfl rfl) (wo ha (wm rfl (AI (!decide ((AK s (hb+1))=34)) (λhe=>?_) (λhe=>?_)))))))))))
       ·refine wo he (wm rfl (wo he (wm rfl (wo he (wv (AO BC rfl rfl (Cr hl ha)) (wo he (wv (CB rfl rfl) (wo ha (EF rfl he rfl (DR rfl ha rfl (Aj ?_)))))))))))
        exact BM (And.intro ha he)
       ·refine wf he (wf he (wf he (wf he (wo ha (wv (r:=rB false) (A7 rfl he rfl) (DR rfl ha rfl (Aj ?_)))))))
        exact BM (And.intro ha he)
     refine cz hB rfl (λhC hD=>?_) (λhC hE=>?_)
     ·refine Ae (wv (r:=rS ([]:Ag)) (Ao rfl) (wv (r:=rI .i64 (-1)) (Ao rfl) (Ak (Aq (Ac (Av (Ac (AS ?_))))))))
      have hG:=Bm hD hh hj
      refine Av (Ac ?_)
      obtain rfl:=As hG
      exact Ap (Cy TH (A4 rfl) (A4 rfl)) sN ⟨rfl,rfl⟩
     ·refine An (AF (Ae (wm rfl (wm rfl (wm rfl (wm rfl (ck hE λhm hH=>wv (AX rfl rfl hm) (ck hH λhI hJ=>ck hJ λhK hL=>wv (CK BC rfl rfl rfl hI hK) (ck hL λhN hO=>wv (CS rfl rfl hN) (wa rfl (Ak (Af (wm rfl (wv (AX rfl rfl hm) (wa rfl (Aj (A8 ?_)))))))))))))))))
      have hP:=Bb hO hh
      exact Ar (A3 (hk,(hf++(List.take (Int.toNat ((hb+1)+1)-Int.toNat (hb+1)) (List.drop (Int.toNat (hb+1)) s)),(hb+1)+1),()) ⟨hP,AcL _⟩ (AC.c rfl (AC.c rfl (AC.c rfl AC.nil))) sN)
    ·refine An (AF (Ae (wm rfl (wm rfl (wm rfl (wm rfl (ck h7 λhn hQ=>wv (AX rfl rfl hn) (ck hQ λhR hS=>ck hS λhT hU=>wv (CK BC rfl rfl rfl hR hT) (ck hU λhV hW=>wv (CS rfl rfl hV) (wa rfl (Ak (Af (wm rfl (wv (AX rfl rfl hn) (wa rfl (Aj (A8 ?_)))))))))))))))))
     have hX:=Bb hW hh
     exact Ar (A3 (hk,(hf++(List.take (Int.toNat (hb+1)-Int.toNat hb) (List.drop (Int.toNat hb) s)),hb+1),()) ⟨hX,AcL _⟩ (AC.c rfl (AC.c rfl (AC.c rfl AC.nil))) sN)
   ·refine Bo (At ?_)
    have hY:=BI hz hh hj
    exact At (Bc (A3 ((hf,hb),()) hY (AC.c rfl (AC.c rfl (AC.c rfl AC.nil))) sN))
  ·rintro⟨⟨ho,hp⟩,⟨⟩⟩ hi
   refine Cf (l':=[(0,rS s),(6,rS ho),(7,rI .i64 hp)]) (H':=[]) rfl rfl ?_
   replace hi:CR s ho hp=some r:=hi
   unfold CR at hi
   refine AZ (AF (Ai (Ae (wm rfl (wm rfl (wv (AW BC rfl) (wv (G0 rfl rfl) (Ak (cz hi rfl (λhZ ga=>?_) (λhZ gb=>?_))))))))))
   ·refine Ae (wv (r:=rS ([]:Ag)) (Ao rfl) (wv (r:=rI .i64 (-1)) (Ao rfl) (Ak (Aq (Ac ?_)))))
    obtain rfl:=As ga
    exact Ap (Cy TH (A4 rfl) (A4 rfl)) sN ⟨rfl,rfl⟩
   ·refine An (AF (Ae (wm rfl (wm rfl (ck gb λgc gd=>wv (AX rfl rfl gc) (wa rfl (wa rfl (Ak (Aq ?_)))))))))
    obtain rfl:=As gd
    exact Ap (Cy TH (A4 rfl) (A4 rfl)) sN ⟨rfl,rfl⟩
theorem Tf (F:Nat) (s:Ag) (at_:Int) (r:(List Aa)×Int) (h:IH F s at_=some r):Fn Tryz.prog GE 141 [rS s,rI .i64 at_] [] (λR H=>R=Cm [AV 4 (List.map Ab r.1),rI .i64 r.2]∧H=[]):=by
 refine enter (n:=80) Tryz.func141 rfl Tryz.ntmps141 rfl (λw Z=>?_)
 unfold IH at h
 refine Ae (wa rfl (wa rfl (Bf (wm rfl (wa rfl (Ak (Ai (Ae (wm rfl (wm rfl (ck h λg1 h2=>wv (AO BC rfl rfl g1) (wv (Bx rfl rfl) (Ak (cz h2 rfl (λc3 h4=>?_) (λc3 h7=>?_)))))))))))))))
 ·refine Af (wm rfl (ck h4 λg5 h6=>wv (AX rfl rfl g5) (wa rfl (Bf (wm rfl (wa rfl (Bf (wa rfl (Ak (Ai (AB (ob h6 λh8 h9 hA=>Bk (S:=Nat×(Int×Int)×(Unit)) (V:=(Int×Int)×(Unit)) 0 (λσ=>BF (λσ=>Gm s at_ σ.1 σ.2) σ.1 σ.2.1=some h8) (λσ=>[(0,rS s),(1,rI .i64 at_),(6,rI .i64 σ.2.1.1),(7,rI .i64 (at_+1)),(8,rI .i64 σ.2.1.2)]) (λσ=>[]) (λσ=>σ.1) (F,(at_+1,0),()) h9 (AC.c5 rfl rfl rfl rfl rfl AC.nil) sN (λσ=>Gk s at_ σ.1.1 σ.1.2=some r) (λσ=>[(0,rS s),(1,rI .i64 at_),(6,rI .i64 σ.1.1),(7,rI .i64 (at_+1)),(8,rI .i64 σ.1.2)]) (λσ=>[]) ?_ ?_))))))))))))
  ·rintro⟨cu,⟨hj,hr⟩,⟨⟩⟩ hB
   refine BO (l':=[(0,rS s),(1,rI .i64 at_),(6,rI .i64 hj),(7,rI .i64 (at_+1)),(8,rI .i64 hr)]) (H':=[]) rfl rfl ?_
   obtain⟨h0,rfl,t213,ht,hy⟩:=Ce hB
   replace ht:Gm s at_ hj hr=some t213:=ht
   unfold Gm at ht
   refine Ai (ck ht λh1 hC=>A6 [(0,rS s),(1,rI .i64 at_),(6,rI .i64 hj),(7,rI .i64 (at_+1)),(8,rI .i64 hr),(32,rB ((decide (hj<(s.length:Int)))&&((decide (48≤(AK s hj)))&&(decide ((AK s hj)≤57)))))] [] ?_ ?_)
   ·refine Af (wm rfl (wm rfl (wv (AW BC rfl) (wv (BY rfl rfl) (wm rfl (AI (decide (hj<(s.length:Int))) (λhf=>?_) (λhf=>?_)))))))
    ·refine wo hf (wm rfl (wo hf (wm rfl (wo hf (wv (AO BC rfl rfl (C2 h1 hf)) (wo hf (wv (G0 rfl rfl) (EF rfl hf rfl (wm rfl (AI (decide (48≤(AK s hj))) (λhh=>?_) (λhh=>?_)))))))))))
     ·refine wo hh (wm rfl (wo hh (wm rfl (wo hh (wv (AO BC rfl rfl (C2 h1 hf)) (wo hh (wv (KG rfl rfl) (EF rfl hh rfl (Aj ?_)))))))))
      exact BM (And.intro hf hh)
     ·refine wf hh (wf hh (wf hh (wf hh (wv (r:=rB false) (A7 rfl hh rfl) (Aj ?_)))))
      exact BM (And.intro hf hh)
    ·refine wf hf (wf hf (wf hf (wf hf (wv (r:=rB false) (A7 rfl hf rfl) (wm rfl (wz rfl rfl (wz rfl rfl (wz rfl rfl (wz rfl rfl (wv (r:=rB false) (A7 (b:=false) rfl rfl rfl) (Aj ?_)))))))))))
     exact BM hf
   refine cz hC rfl (λhD hE=>?_) (λhD hG=>?_)
   ·refine An (AF (AB (Ai (Ae (wm rfl (wm rfl (ck hE λhH hI=>wv (EN rfl rfl hH) (wv (BY rfl rfl) (Ak (cz hI rfl (λhJ hK=>?_) (λhJ hL=>?_)))))))))))
    ·refine Af (wm rfl (ck hK λhN hO=>wv (Nq rfl rfl hN) (wm rfl (wm rfl (ck hO λhP hQ=>wv (AO BC rfl rfl hP) (ck hQ λhR hS=>wv (EN rfl rfl hR) (ck hS λhT hU=>wv (C9 ⟨_,It⟩ MY rfl hT) (ck hU λhV hW=>wv (AX rfl rfl hV) (wa rfl (Ak (Af (wm rfl (ck hW λhX hY=>wv (AX rfl rfl hX) (wa rfl (Aj (A8 ?_))))))))))))))))
     have hZ:=Bb hY hy
     exact Ar (A3 (h0,(hj+1,(10*hr)+((AK s hj)-48)),()) ⟨hZ,AcL _⟩ (AC.c5 rfl rfl rfl rfl rfl AC.nil) sN)
    ·refine An (AF (Af (wm rfl (ck hL λga gb=>wv (AX rfl rfl ga) (wa rfl (Aj (A8 ?_)))))))
     have gc:=Bb gb hy
     exact Ar (A3 (h0,(hj+1,hr),()) ⟨gc,AcL _⟩ (AC.c5 rfl rfl rfl rfl rfl AC.nil) sN)
   ·refine Bo (At ?_)
    have gd:=BI hG hy hA
    exact At (Bc (A3 ((hj,hr),()) gd (AC.c5 rfl rfl rfl rfl rfl AC.nil) sN))
  ·rintro⟨⟨hp,hl⟩,⟨⟩⟩ hu
   refine Cf (l':=[(0,rS s),(1,rI .i64 at_),(6,rI .i64 hp),(7,rI .i64 (at_+1)),(8,rI .i64 hl)]) (H':=[]) rfl rfl ?_
   replace hu:Gk s at_ hp hl=some r:=hu
   unfold Gk at hu
   refine AZ (AF (Ai (ck hu λge gf=>ck gf λgg gh=>A6 [(1,rI .i64 at_),(6,rI .i64 hp),(7,rI .i64 (at_+1)),(8,rI .i64 hl),(66,rB ((decide (hp=(at_+1)))||((decide ((AK s (at_+1))=48))&&((decide (((at_+1)+1)<hp))||(decide (at_<(at_+1)))))))] [] ?_ ?_)))
   ·refine Af (wm rfl (wm rfl (wv (Bx rfl rfl) (wm rfl (AI (decide (hp=(at_+1))) (λha=>?_) (λha=>?_))))))
    ·refine wf ha (wf ha (wf ha (wf ha (wf ha (wu (wu (wu (wu (wu (wu (wu (wu (wu (wf ha (wv (r:=rB true) (Au rfl ha rfl) (Aj ?_))))))))))))))))
     exact BM ha
    ·refine wo ha (wm rfl (wo ha (wm rfl (wo ha (wv (AO BC rfl rfl (Cr ge ha)) (wo ha (wv (Bx rfl rfl) (wo ha (wm rfl (AI (decide ((AK s (at_+1))=48)) (λhd=>?_) (λhd=>?_)))))))))))
     ·refine wo hd (wm rfl (wo hd (wm rfl (wo hd (wv (AX rfl rfl (C2 (Cr gg ha) hd)) (wo hd (wv (Cb rfl rfl) (wo hd (wm rfl (AI (decide (((at_+1)+1)<hp)) (λhm=>?_) (λhm=>?_)))))))))))
      ·refine wf hm (wf hm (wf hm (wo hd (wv (r:=rB true) (Au rfl hm rfl) (wo ha (EF rfl hd rfl (DR rfl ha rfl (Aj ?_))))))))
       exact BM (And.intro ha (And.intro hd hm))
      ·refine wo hm (wm rfl (wo hm (wm rfl (wo hm (wv (Cb rfl rfl) (wo hd (DR rfl hm rfl (wo ha (EF rfl hd rfl (DR rfl ha rfl (Aj ?_)))))))))))
       exact BM (And.intro ha (And.intro hd hm))
     ·refine wf hd (wf hd (wf hd (wf hd (wf hd (wu (wu (wu (wf hd (wo ha (wv (r:=rB false) (A7 rfl hd rfl) (DR rfl ha rfl (Aj ?_))))))))))))
      exact BM (And.intro ha hd)
   refine cz gh rfl (λgi gj=>?_) (λgi gk=>?_)
   ·refine Ae (wa rfl (wv (r:=rI .i64 (-1)) (Ao rfl) (Ak (Aq (Ac (WK.up (d:=4) (r:=AV 4 (List.map Ab ([]:List Aa))) rfl (Up.le (E1.nil _)) ?_))))))
    obtain rfl:=As gj
    exact Ap (Cy KI (A4 rfl) (A4 rfl)) sN ⟨rfl,rfl⟩
   ·refine An (AF (Ai (Ae (wm rfl (wm rfl (ck gk λgl gm=>wv (EN rfl rfl gl) (wv (Cb rfl rfl) (Ak (cz gm rfl (λgn gp=>?_) (λgn gq=>?_))))))))))
    ·refine Af (wa rfl (Ak (Ai (Ae (wm rfl (wm rfl (wv (Cb rfl rfl) (Ak (cz gp rfl (λgr gs=>?_) (λgr gt=>?_))))))))))
     ·refine Af (wm rfl (ck gs λgu gv=>wv (OA rfl gu) (wa rfl (Bf (wm rfl (wv (r:=B9 [rI .i64 3,rI .i64 (-2000000000000),rS ([]:Ag),rI .i64 0]) (Ck rfl rfl rfl rfl) (AQ (ys:=([(Aa.mk 3 (-2000000000000) ([]:Ag) 0)]:List Aa)) (enc:=Ab) (css:=[[rI .i64 3,rI .i64 (-2000000000000),rS ([]:Ag),rI .i64 0]]) (xs:=[.tmp 77]) BP Ch EH rfl rfl rfl ⟨Eb.agg ⟨Up.refl _,Up.refl _,Up.refl _,Up.refl _,trivial⟩,trivial⟩ rfl AR rfl rfl rfl (λcv=>?_))))))))
      refine wm rfl (wa rfl (wa rfl (Ak (Aq (WK.freeze (i:=0) rfl (WK.up (d:=4) (r:=AV 4 (List.map Ab ([(Aa.mk 3 (-2000000000000) ([]:Ag) 0)]:List Aa))) rfl (Up.fact (i:=0) rfl) ?_))))))
      obtain rfl:=As gv
      exact Ap (Cy KI (A4 rfl) (A4 rfl)) (sS sN) ⟨rfl,rfl⟩
     ·refine An (AF (Ae (wm rfl (wv (r:=B9 [rI .i64 3,rI .i64 2000000000000,rS ([]:Ag),rI .i64 0]) (Ck rfl rfl rfl rfl) (AQ (ys:=([(Aa.mk 3 2000000000000 ([]:Ag) 0)]:List Aa)) (enc:=Ab) (css:=[[rI .i64 3,rI .i64 2000000000000,rS ([]:Ag),rI .i64 0]]) (xs:=[.tmp 77]) BP Ch EH rfl rfl rfl ⟨Eb.agg ⟨Up.refl _,Up.refl _,Up.refl _,Up.refl _,trivial⟩,trivial⟩ rfl AR rfl rfl rfl (λcw=>?_))))))
      refine wm rfl (wa rfl (wa rfl (Ak (Aq (WK.freeze (i:=0) rfl (WK.up (d:=4) (r:=AV 4 (List.map Ab ([(Aa.mk 3 2000000000000 ([]:Ag) 0)]:List Aa))) rfl (Up.fact (i:=0) rfl) ?_))))))
      obtain rfl:=As gt
      exact Ap (Cy KI (A4 rfl) (A4 rfl)) (sS sN) ⟨rfl,rfl⟩
    ·refine An (AF (Ai (Ae (wm rfl (wm rfl (wv (Cb rfl rfl) (Ak (cz gq rfl (λgw gx=>?_) (λgw gy=>?_)))))))))
     ·refine Af (wm rfl (ck gx λgz g0=>wv (OA rfl gz) (wa rfl (Bf (wm rfl (wv (r:=B9 [rI .i64 3,rI .i64 (-hl),rS ([]:Ag),rI .i64 0]) (Ck rfl rfl rfl rfl) (AQ (ys:=([(Aa.mk 3 (-hl) ([]:Ag) 0)]:List Aa)) (enc:=Ab) (css:=[[rI .i64 3,rI .i64 (-hl),rS ([]:Ag),rI .i64 0]]) (xs:=[.tmp 77]) BP Ch EH rfl rfl rfl ⟨Eb.agg ⟨Up.refl _,Up.refl _,Up.refl _,Up.refl _,trivial⟩,trivial⟩ rfl AR rfl rfl rfl (λcx=>?_))))))))
      refine wm rfl (wa rfl (wa rfl (Ak (Aq (WK.freeze (i:=0) rfl (WK.up (d:=4) (r:=AV 4 (List.map Ab ([(Aa.mk 3 (-hl) ([]:Ag) 0)]:List Aa))) rfl (Up.fact (i:=0) rfl) ?_))))))
      obtain rfl:=As g0
      exact Ap (Cy KI (A4 rfl) (A4 rfl)) (sS sN) ⟨rfl,rfl⟩
     ·refine An (AF (Ae (wm rfl (wv (r:=B9 [rI .i64 3,rI .i64 hl,rS ([]:Ag),rI .i64 0]) (Ck rfl rfl rfl rfl) (AQ (ys:=([(Aa.mk 3 hl ([]:Ag) 0)]:List Aa)) (enc:=Ab) (css:=[[rI .i64 3,rI .i64 hl,rS ([]:Ag),rI .i64 0]]) (xs:=[.tmp 77]) BP Ch EH rfl rfl rfl ⟨Eb.agg ⟨Up.refl _,Up.refl _,Up.refl _,Up.refl _,trivial⟩,trivial⟩ rfl AR rfl rfl rfl (λcy=>?_))))))
      refine wm rfl (wa rfl (wa rfl (Ak (Aq (WK.freeze (i:=0) rfl (WK.up (d:=4) (r:=AV 4 (List.map Ab ([(Aa.mk 3 hl ([]:Ag) 0)]:List Aa))) rfl (Up.fact (i:=0) rfl) ?_))))))
      obtain rfl:=As gy
      exact Ap (Cy KI (A4 rfl) (A4 rfl)) (sS sN) ⟨rfl,rfl⟩
 ·refine An (AF (Ae (wm rfl (wa rfl (Bf (wa rfl (Ak (Ai (AB (ob h7 λg2 g3 g4=>Bk (S:=Nat×(Int×Int)×(Unit)) (V:=(Int×Int)×(Unit)) 0 (λσ=>BF (λσ=>Gl s at_ σ.1 σ.2) σ.1 σ.2.1=some g2) (λσ=>[(0,rS s),(1,rI .i64 at_),(6,rI .i64 σ.2.1.1),(7,rI .i64 at_),(8,rI .i64 σ.2.1.2)]) (λσ=>[]) (λσ=>σ.1) (F,(at_,0),()) g3 (AC.c5 rfl rfl rfl rfl rfl AC.nil) sN (λσ=>Gj s at_ σ.1.1 σ.1.2=some r) (λσ=>[(0,rS s),(1,rI .i64 at_),(6,rI .i64 σ.1.1),(7,rI .i64 at_),(8,rI .i64 σ.1.2)]) (λσ=>[]) ?_ ?_))))))))))
  ·rintro⟨c0,⟨hk,hs⟩,⟨⟩⟩ g6
   refine BO (l':=[(0,rS s),(1,rI .i64 at_),(6,rI .i64 hk),(7,rI .i64 at_),(8,rI .i64 hs)]) (H':=[]) rfl rfl ?_
   obtain⟨h3,rfl,g7,hw,hz⟩:=Ce g6
   replace hw:Gl s at_ hk hs=some g7:=hw
   unfold Gl at hw
   refine Ai (ck hw λh5 g8=>A6 [(0,rS s),(1,rI .i64 at_),(6,rI .i64 hk),(7,rI .i64 at_),(8,rI .i64 hs),(32,rB ((decide (hk<(s.length:Int)))&&((decide (48≤(AK s hk)))&&(decide ((AK s hk)≤57)))))] [] ?_ ?_)
   ·refine Af (wm rfl (wm rfl (wv (AW BC rfl) (wv (BY rfl rfl) (wm rfl (AI (decide (hk<(s.length:Int))) (λhg=>?_) (λhg=>?_)))))))
    ·refine wo hg (wm rfl (wo hg (wm rfl (wo hg (wv (AO BC rfl rfl (C2 h5 hg)) (wo hg (wv (G0 rfl rfl) (EF rfl hg rfl (wm rfl (AI (decide (48≤(AK s hk))) (λhi=>?_) (λhi=>?_)))))))))))
     ·refine wo hi (wm rfl (wo hi (wm rfl (wo hi (wv (AO BC rfl rfl (C2 h5 hg)) (wo hi (wv (KG rfl rfl) (EF rfl hi rfl (Aj ?_)))))))))
      exact BM (And.intro hg hi)
     ·refine wf hi (wf hi (wf hi (wf hi (wv (r:=rB false) (A7 rfl hi rfl) (Aj ?_)))))
      exact BM (And.intro hg hi)
    ·refine wf hg (wf hg (wf hg (wf hg (wv (r:=rB false) (A7 rfl hg rfl) (wm rfl (wz rfl rfl (wz rfl rfl (wz rfl rfl (wz rfl rfl (wv (r:=rB false) (A7 (b:=false) rfl rfl rfl) (Aj ?_)))))))))))
     exact BM hg
   refine cz g8 rfl (λg9 gA=>?_) (λg9 gB=>?_)
   ·refine An (AF (AB (Ai (Ae (wm rfl (wm rfl (ck gA λgC gD=>wv (EN rfl rfl gC) (wv (BY rfl rfl) (Ak (cz gD rfl (λgE gF=>?_) (λgE gG=>?_)))))))))))
    ·refine Af (wm rfl (ck gF λgH gI=>wv (Nq rfl rfl gH) (wm rfl (wm rfl (ck gI λgJ gK=>wv (AO BC rfl rfl gJ) (ck gK λgL gM=>wv (EN rfl rfl gL) (ck gM λgN gO=>wv (C9 ⟨_,It⟩ MY rfl gN) (ck gO λgP gQ=>wv (AX rfl rfl gP) (wa rfl (Ak (Af (wm rfl (ck gQ λgR gS=>wv (AX rfl rfl gR) (wa rfl (Aj (A8 ?_))))))))))))))))
     have gT:=Bb gS hz
     exact Ar (A3 (h3,(hk+1,(10*hs)+((AK s hk)-48)),()) ⟨gT,AcL _⟩ (AC.c5 rfl rfl rfl rfl rfl AC.nil) sN)
    ·refine An (AF (Af (wm rfl (ck gG λgU gV=>wv (AX rfl rfl gU) (wa rfl (Aj (A8 ?_)))))))
     have gW:=Bb gV hz
     exact Ar (A3 (h3,(hk+1,hs),()) ⟨gW,AcL _⟩ (AC.c5 rfl rfl rfl rfl rfl AC.nil) sN)
   ·refine Bo (At ?_)
    have gX:=BI gB hz g4
    exact At (Bc (A3 ((hk,hs),()) gX (AC.c5 rfl rfl rfl rfl rfl AC.nil) sN))
  ·rintro⟨⟨hq,hn⟩,⟨⟩⟩ hx
   refine Cf (l':=[(0,rS s),(1,rI .i64 at_),(6,rI .i64 hq),(7,rI .i64 at_),(8,rI .i64 hn)]) (H':=[]) rfl rfl ?_
   replace hx:Gj s at_ hq hn=some r:=hx
   unfold Gj at hx
   refine AZ (AF (Ai (ck hx λgY gZ=>A6 [(1,rI .i64 at_),(6,rI .i64 hq),(7,rI .i64 at_),(8,rI .i64 hn),(66,rB ((decide (hq=at_))||((decide ((AK s at_)=48))&&((decide ((at_+1)<hq))||(decide (at_<at_))))))] [] ?_ ?_)))
   ·refine Af (wm rfl (wm rfl (wv (Bx rfl rfl) (wm rfl (AI (decide (hq=at_)) (λhb=>?_) (λhb=>?_))))))
    ·refine wf hb (wf hb (wf hb (wf hb (wf hb (wu (wu (wu (wu (wu (wu (wu (wu (wu (wf hb (wv (r:=rB true) (Au rfl hb rfl) (Aj ?_))))))))))))))))
     exact BM hb
    ·refine wo hb (wm rfl (wo hb (wm rfl (wo hb (wv (AO BC rfl rfl g1) (wo hb (wv (Bx rfl rfl) (wo hb (wm rfl (AI (decide ((AK s at_)=48)) (λhe=>?_) (λhe=>?_)))))))))))
     ·refine wo he (wm rfl (wo he (wm rfl (wo he (wv (AX rfl rfl (C2 (Cr gY hb) he)) (wo he (wv (Cb rfl rfl) (wo he (wm rfl (AI (decide ((at_+1)<hq)) (λho=>?_) (λho=>?_)))))))))))
      ·refine wf ho (wf ho (wf ho (wo he (wv (r:=rB true) (Au rfl ho rfl) (wo hb (EF rfl he rfl (DR rfl hb rfl (Aj ?_))))))))
       exact BM (And.intro hb (And.intro he ho))
      ·refine wo ho (wm rfl (wo ho (wm rfl (wo ho (wv (Cb rfl rfl) (wo he (DR rfl ho rfl (wo hb (EF rfl he rfl (DR rfl hb rfl (Aj ?_)))))))))))
       exact BM (And.intro hb (And.intro he ho))
     ·refine wf he (wf he (wf he (wf he (wf he (wu (wu (wu (wf he (wo hb (wv (r:=rB false) (A7 rfl he rfl) (DR rfl hb rfl (Aj ?_))))))))))))
      exact BM (And.intro hb he)
   refine cz gZ rfl (λca cb=>?_) (λca cc=>?_)
   ·refine Ae (wa rfl (wv (r:=rI .i64 (-1)) (Ao rfl) (Ak (Aq (Ac (WK.up (d:=4) (r:=AV 4 (List.map Ab ([]:List Aa))) rfl (Up.le (E1.nil _)) ?_))))))
    obtain rfl:=As cb
    exact Ap (Cy KI (A4 rfl) (A4 rfl)) sN ⟨rfl,rfl⟩
   ·refine An (AF (Ai (Ae (wm rfl (wm rfl (ck cc λcd ce=>wv (EN rfl rfl cd) (wv (Cb rfl rfl) (Ak (cz ce rfl (λcf cg=>?_) (λcf ci=>?_))))))))))
    ·refine Af (wa rfl (Ak (Ai (Ae (wm rfl (wm rfl (wv (Cb rfl rfl) (Ak (cz cg rfl (λcj cl=>?_) (λcj cm=>?_))))))))))
     ·refine Af (wm rfl (ck cl λcn co=>wv (OA rfl cn) (wa rfl (Bf (wm rfl (wv (r:=B9 [rI .i64 3,rI .i64 (-2000000000000),rS ([]:Ag),rI .i64 0]) (Ck rfl rfl rfl rfl) (AQ (ys:=([(Aa.mk 3 (-2000000000000) ([]:Ag) 0)]:List Aa)) (enc:=Ab) (css:=[[rI .i64 3,rI .i64 (-2000000000000),rS ([]:Ag),rI .i64 0]]) (xs:=[.tmp 77]) BP Ch EH rfl rfl rfl ⟨Eb.agg ⟨Up.refl _,Up.refl _,Up.refl _,Up.refl _,trivial⟩,trivial⟩ rfl AR rfl rfl rfl (λc1=>?_))))))))
      refine wm rfl (wa rfl (wa rfl (Ak (Aq (WK.freeze (i:=0) rfl (WK.up (d:=4) (r:=AV 4 (List.map Ab ([(Aa.mk 3 (-2000000000000) ([]:Ag) 0)]:List Aa))) rfl (Up.fact (i:=0) rfl) ?_))))))
      obtain rfl:=As co
      exact Ap (Cy KI (A4 rfl) (A4 rfl)) (sS sN) ⟨rfl,rfl⟩
     ·refine An (AF (Ae (wm rfl (wv (r:=B9 [rI .i64 3,rI .i64 2000000000000,rS ([]:Ag),rI .i64 0]) (Ck rfl rfl rfl rfl) (AQ (ys:=([(Aa.mk 3 2000000000000 ([]:Ag) 0)]:List Aa)) (enc:=Ab) (css:=[[rI .i64 3,rI .i64 2000000000000,rS ([]:Ag),rI .i64 0]]) (xs:=[.tmp 77]) BP Ch EH rfl rfl rfl ⟨Eb.agg ⟨Up.refl _,Up.refl _,Up.refl _,Up.refl _,trivial⟩,trivial⟩ rfl AR rfl rfl rfl (λc2=>?_))))))
      refine wm rfl (wa rfl (wa rfl (Ak (Aq (WK.freeze (i:=0) rfl (WK.up (d:=4) (r:=AV 4 (List.map Ab ([(Aa.mk 3 2000000000000 ([]:Ag) 0)]:List Aa))) rfl (Up.fact (i:=0) rfl) ?_))))))
      obtain rfl:=As cm
      exact Ap (Cy KI (A4 rfl) (A4 rfl)) (sS sN) ⟨rfl,rfl⟩
    ·refine An (AF (Ai (Ae (wm rfl (wm rfl (wv (Cb rfl rfl) (Ak (cz ci rfl (λcp cq=>?_) (λcp cr=>?_)))))))))
     ·refine Af (wm rfl (ck cq λcs ct=>wv (OA rfl cs) (wa rfl (Bf (wm rfl (wv (r:=B9 [rI .i64 3,rI .i64 (-hn),rS ([]:Ag),rI .i64 0]) (Ck rfl rfl rfl rfl) (AQ (ys:=([(Aa.mk 3 (-hn) ([]:Ag) 0)]:List Aa)) (enc:=Ab) (css:=[[rI .i64 3,rI .i64 (-hn),rS ([]:Ag),rI .i64 0]]) (xs:=[.tmp 77]) BP Ch EH rfl rfl rfl ⟨Eb.agg ⟨Up.refl _,Up.refl _,Up.refl _,Up.refl _,trivial⟩,trivial⟩ rfl AR rfl rfl rfl (λc4=>?_))))))))
      refine wm rfl (wa rfl (wa rfl (Ak (Aq (WK.freeze (i:=0) rfl (WK.up (d:=4) (r:=AV 4 (List.map Ab ([(Aa.mk 3 (-hn) ([]:Ag) 0)]:List Aa))) rfl (Up.fact (i:=0) rfl) ?_))))))
      obtain rfl:=As ct
      exact Ap (Cy KI (A4 rfl) (A4 rfl)) (sS sN) ⟨rfl,rfl⟩
     ·refine An (AF (Ae (wm rfl (wv (r:=B9 [rI .i64 3,rI .i64 hn,rS ([]:Ag),rI .i64 0]) (Ck rfl rfl rfl rfl) (AQ (ys:=([(Aa.mk 3 hn ([]:Ag) 0)]:List Aa)) (enc:=Ab) (css:=[[rI .i64 3,rI .i64 hn,rS ([]:Ag),rI .i64 0]]) (xs:=[.tmp 77]) BP Ch EH rfl rfl rfl ⟨Eb.agg ⟨Up.refl _,Up.refl _,Up.refl _,Up.refl _,trivial⟩,trivial⟩ rfl AR rfl rfl rfl (λc6=>?_))))))
      refine wm rfl (wa rfl (wa rfl (Ak (Aq (WK.freeze (i:=0) rfl (WK.up (d:=4) (r:=AV 4 (List.map Ab ([(Aa.mk 3 hn ([]:Ag) 0)]:List Aa))) rfl (Up.fact (i:=0) rfl) ?_))))))
      obtain rfl:=As cr
      exact Ap (Cy KI (A4 rfl) (A4 rfl)) (sS sN) ⟨rfl,rfl⟩
theorem WU (F:Nat) (rec_rReadMany:Ag→Int→Option ((List Aa)×Int)) (ih_rReadMany:(∀(s:Ag) (at_:Int) (r:(List Aa)×Int),rec_rReadMany s at_=some r→Fn Tryz.prog GE 140 [rS s,rI .i64 at_] [] (λR H=>R=Cm [AV 4 (List.map Ab r.1),rI .i64 r.2]∧H=[]))) (s:Ag) (at_:Int) (r:(List Aa)×Int) (h:Q3 F rec_rReadMany s at_=some r):Fn Tryz.prog GE 103 [rS s,rI .i64 at_] [] (λR H=>R=Cm [AV 4 (List.map Ab r.1),rI .i64 r.2]∧H=[]):=by
 refine enter (n:=64) Tryz.func103 rfl Tryz.ntmps103 rfl (λw Z=>?_)
 unfold Q3 at h
 refine Ae (wa rfl (wa rfl (Ak (Ai (Ae (wm rfl (wm rfl (wv (AW BC rfl) (wv (G0 rfl rfl) (Ak (cz h rfl (λc1 h2=>?_) (λc1 h3=>?_))))))))))))
 ·refine Ae (wa rfl (wv (r:=rI .i64 (-1)) (Ao rfl) (Ak (Aq (Ac (WK.up (d:=4) (r:=AV 4 (List.map Ab ([]:List Aa))) rfl (Up.le (E1.nil _)) ?_))))))
  obtain rfl:=As h2
  exact Ap (Cy Ob (A4 rfl) (A4 rfl)) sN ⟨rfl,rfl⟩
 ·refine An (AF (Ai (Ae (wm rfl (wm rfl (ob h3 λr4 e6 h5=>Cg HG (CJ s at_ ([110,117,108,108]:Ag) r4 e6) rfl (Ak (cz h5 rfl (λc7 h8=>?_) (λc7 hd=>?_)))))))))
  ·refine Ae (ob h8 λr9 he hf=>Cg Tryz.call137 (Zy r9 he) rfl (wm rfl (ck hf λhg hh=>wv (AX rfl rfl hg) (wa rfl (wa rfl (Ak (Aq (Ac ?_))))))))
   obtain rfl:=As hh
   exact Ap (Cy Ob (A4 rfl) (A4 rfl)) sN ⟨rfl,rfl⟩
  ·refine An (AF (Ai (Ae (wm rfl (wm rfl (ob hd λhi hj hk=>Cg HG (CJ s at_ ([116,114,117,101]:Ag) hi hj) rfl (Ak (cz hk rfl (λhl hm=>?_) (λhl hn=>?_)))))))))
   ·refine Ae (ob hm λho hp hq=>Cg Tryz.call138 (TV true ho hp) rfl (wm rfl (ck hq λhr hs=>wv (AX rfl rfl hr) (wa rfl (wa rfl (Ak (Aq (Ac ?_))))))))
    obtain rfl:=As hs
    exact Ap (Cy Ob (A4 rfl) (A4 rfl)) sN ⟨rfl,rfl⟩
   ·refine An (AF (Ai (Ae (wm rfl (wm rfl (ob hn λht hu hw=>Cg HG (CJ s at_ ([102,97,108,115,101]:Ag) ht hu) rfl (Ak (cz hw rfl (λhx hy=>?_) (λhx hz=>?_)))))))))
    ·refine Ae (ob hy λh0 h1 h4=>Cg Tryz.call138 (TV false h0 h1) rfl (wm rfl (ck h4 λh6 h7=>wv (AX rfl rfl h6) (wa rfl (wa rfl (Ak (Aq (Ac ?_))))))))
     obtain rfl:=As h7
     exact Ap (Cy Ob (A4 rfl) (A4 rfl)) sN ⟨rfl,rfl⟩
    ·refine An (AF (Ai (Ae (wm rfl (wm rfl (ck hz λhb h9=>wv (AO BC rfl rfl hb) (wv (Bx rfl rfl) (Ak (cz h9 rfl (λhA hB=>?_) (λhA hC=>?_))))))))))
     ·refine Ae (wm rfl (wm rfl (ob hB λha hD hE=>Cg Tryz.call139 (Ix F s at_ ha hD) rfl (wm rfl (wv (Az rfl rfl) (wv (Az rfl rfl) (wa rfl (wa rfl (Bf (wm rfl (wv (r:=B9 [rI .i64 4,rI .i64 0,rS ha.1,rI .i64 0]) (EO rfl rfl rfl rfl) (AQ (ys:=([(Aa.mk 4 0 ha.1 0)]:List Aa)) (enc:=Ab) (css:=[[rI .i64 4,rI .i64 0,rS ha.1,rI .i64 0]]) (xs:=[.tmp 41]) BP Ch EH rfl rfl rfl ⟨Eb.agg ⟨Up.refl _,Up.refl _,Up.refl _,Up.refl _,trivial⟩,trivial⟩ rfl AR rfl rfl rfl (λhQ=>?_)))))))))))))
      refine wm rfl (wa rfl (wa rfl (Ak (Aq (Ac (WK.freeze (i:=0) rfl (WK.up (d:=4) (r:=AV 4 (List.map Ab ([(Aa.mk 4 0 ha.1 0)]:List Aa))) rfl (Up.fact (i:=0) rfl) ?_)))))))
      obtain rfl:=As hE
      exact Ap (Cy Ob (A4 rfl) (A4 rfl)) (sS sN) ⟨rfl,rfl⟩
     ·refine An (AF (Ai (A6 [(0,rS s),(1,rI .i64 at_),(53,rB ((decide ((AK s at_)=91))||(decide ((AK s at_)=123))))] [] ?_ ?_)))
      ·refine Af (wm rfl (wm rfl (wv (AO BC rfl rfl hb) (wv (Bx rfl rfl) (wm rfl (AI (decide ((AK s at_)=91)) (λc46=>?_) (λc46=>?_)))))))
       ·refine wf c46 (wf c46 (wf c46 (wf c46 (wv (r:=rB true) (Au rfl c46 rfl) (Aj ?_)))))
        exact BM c46
       ·refine wo c46 (wm rfl (wo c46 (wm rfl (wo c46 (wv (AO BC rfl rfl hb) (wo c46 (wv (Bx rfl rfl) (DR rfl c46 rfl (Aj ?_)))))))))
        exact BM c46
      refine cz hC rfl (λhG hH=>?_) (λhG hI=>?_)
      ·refine Ae (wm rfl (wm rfl (ob hH λhJ hK hL=>Cg Tryz.call140 (ih_rReadMany s at_ hJ hK) rfl (wv (Az rfl rfl) (wv (Az rfl rfl) (wa rfl (wa rfl (Ak (Aq (Ac ?_))))))))))
       obtain rfl:=As hL
       exact Ap (Cy Ob (A4 rfl) (A4 rfl)) sN ⟨rfl,rfl⟩
      ·refine An (AF (Ae (wm rfl (wm rfl (ob hI λhN hO hP=>Cg Tryz.call141 (Tf F s at_ hN hO) rfl (wv (Az rfl rfl) (wv (Az rfl rfl) (wa rfl (wa rfl (Ak (Aq ?_)))))))))))
       obtain rfl:=As hP
       exact Ap (Cy Ob (A4 rfl) (A4 rfl)) sN ⟨rfl,rfl⟩
theorem Q4 (F:Nat) (rec_rRead:Ag→Int→Option ((List Aa)×Int)) (ih_rRead:(∀(s:Ag) (at_:Int) (r:(List Aa)×Int),rec_rRead s at_=some r→Fn Tryz.prog GE 103 [rS s,rI .i64 at_] [] (λR H=>R=Cm [AV 4 (List.map Ab r.1),rI .i64 r.2]∧H=[]))) (s:Ag) (at_:Int) (r:(List Aa)×Int) (h:Jj F rec_rRead s at_=some r):Fn Tryz.prog GE 140 [rS s,rI .i64 at_] [] (λR H=>R=Cm [AV 4 (List.map Ab r.1),rI .i64 r.2]∧H=[]):=by
 refine enter (n:=98) Tryz.func140 rfl Tryz.ntmps140 rfl (λw Z=>?_)
 unfold Jj at h
 refine Ae (wa rfl (wa rfl (Bf (wv (r:=B9 [rI .i64 5,rI .i64 0,rS ([]:Ag),rI .i64 0]) (Ex rfl rfl) (BT (cs:=[rI .i64 0,rI .i64 0,rS ([]:Ag),rI .i64 0]) EH rfl rfl (λb1=>?_))))))
 refine Bj (i:=0) Ch rfl rfl rfl (BE.c rfl) rfl rfl (cs':=[rI .i64 5,rI .i64 0,rS ([]:Ag),rI .i64 0]) rfl (H':=[.blk b1 [rI .i64 5,rI .i64 0,rS ([]:Ag),rI .i64 0] 78]) rfl (Bf (wv (r:=rS ([93]:Ag)) (Ao rfl) (Ak (Ai (Ae (wm rfl (wm rfl (ck h λg2 h3=>wv (AO BC rfl rfl g2) (wv (Bx rfl rfl) (Ak (cz h3 rfl (λc4 h5=>?_) (λc4 hP=>?_))))))))))))
 ·refine Ae (vF B2 rfl Eh (BB (i:=0) Eh rfl rfl (Co rfl) rfl rfl (cs':=[rI .i64 6,rI .i64 0,rS ([]:Ag),rI .i64 0]) rfl (H':=[.blk b1 [rI .i64 6,rI .i64 0,rS ([]:Ag),rI .i64 0] 78]) rfl (Ak (Af (wv (r:=rS ([125]:Ag)) (Ao rfl) (Bf (wa rfl (Bf (wm rfl (ck h5 λg6 h7=>wv (AX rfl rfl g6) (wa rfl (Ak (Ai (AB (WC.nilrow (e:=78) (sz:=4) (NE (H2:=[.blk b1 [rI .i64 6,rI .i64 0,rS ([]:Ag),rI .i64 0] 78,.row (.slice none 0 0                                                                              ) 78 4 (List.map Ab ([]:List Aa))]) ((A5 (i:=1) rfl).trans (List.Perm.cons _ (List.Perm.refl _))) (ob h7 λhQ hR h0=>Bk (S:=Nat×((List Aa)×Int×Aa)×(Value)) (V:=((List Aa)×Int×Aa)×(Value)) 0 (λσ=>BF (λσ=>Hv F s rec_rRead σ.1 σ.2.1 σ.2.2) σ.1 σ.2.1=some hQ) (λσ=>[(0,rS s),(6,rP b1 0),(7,rS ([125]:Ag)),(8,rv σ.2.2),(9,rI .i64 σ.2.1.2.1)]) (λσ=>[.blk b1 (Ab σ.2.1.2.2) 78,.row σ.2.2 78 4 (List.map Ab σ.2.1.1)]) (λσ=>σ.1) (F,(([]:List Aa),at_+1,(Aa.mk 6 0 ([]:Ag) 0)),(.slice none 0 0                                                                              )) hR (AC.c5 rfl rfl rfl rfl rfl AC.nil) (sC (sC sN)) (λσ=>Ht σ.1.1 σ.1.2.1 σ.1.2.2=some r) (λσ=>[(6,rP b1 0),(8,rv σ.2),(9,rI .i64 σ.1.2.1)]) (λσ=>[.blk b1 (Ab σ.1.2.2) 78,.row σ.2 78 4 (List.map Ab σ.1.1)]) ?_ ?_)))))))))))))))))
  ·rintro⟨xQ,⟨hh,hn,ha⟩,hy⟩ hS
   refine BO (l':=[(0,rS s),(6,rP b1 0),(7,rS ([125]:Ag)),(8,rv hy),(9,rI .i64 hn)]) (H':=[.blk b1 (Ab ha) 78,.row hy 78 4 (List.map Ab hh)]) rfl rfl ?_
   obtain⟨h9,rfl,hT,hA,ht⟩:=Ce hS
   replace hA:Hv F s rec_rRead hh hn ha=some hT:=hA
   unfold Hv at hA
   refine Ai (ck hA λhU hV=>ck hV λhW hX=>ck hX λhY hZ=>A6 [(0,rS s),(6,rP b1 0),(7,rS ([125]:Ag)),(8,rv hy),(9,rI .i64 hn),(39,rB ((!(ov (Bu s hn ([125]:Ag))))||((decide (0<ha.fN))&&(decide ((AK s (hn-1))=44)))))] [.blk b1 (Ab ha) 78,.row hy 78 4 (List.map Ab hh)] ?_ ?_)
   ·refine Af (wm rfl (wm rfl (wm rfl (Cg HG (CJ s hn ([125]:Ag) (ov (Bu s hn ([125]:Ag))) (GX hU)) rfl (wv (Cd rfl) (wm rfl (AI (!(ov (Bu s hn ([125]:Ag)))) (λhf=>?_) (λhf=>?_))))))))
    ·refine wf hf (wf hf (wf hf (wf hf (wu (wu (wu (wu (wu (wf hf (wv (r:=rB true) (Au rfl hf rfl) (Aj ?_)))))))))))
     exact BM hf
    ·refine wo hf (vF B2 rfl Cq (wo hf (vL 0 CU rfl (wo hf (wv (Cb rfl rfl) (wo hf (wm rfl (AI (decide (0<ha.fN)) (λhj=>?_) (λhj=>?_)))))))))
     ·refine wo hj (wm rfl (wo hj (wm rfl (wo hj (wv (EN rfl rfl (C2 (Cr hW hf) hj)) (wo hj (wv (AO BC rfl rfl (C2 (Cr hY hf) hj)) (wo hj (wv (Bx rfl rfl) (wo hf (EF rfl hj rfl (DR rfl hf rfl (Aj ?_)))))))))))))
      exact BM (And.intro hf hj)
     ·refine wf hj (wf hj (wf hj (wf hj (wf hj (wo hf (wv (r:=rB false) (A7 rfl hj rfl) (DR rfl hf rfl (Aj ?_))))))))
      exact BM (And.intro hf hj)
   refine cz hZ rfl (λga gb=>?_) (λga gc=>?_)
   ·refine An (AF (AB (Ai (Ae (vF B2 rfl Eh (vL 0 E3 rfl (wv (Bx rfl rfl) (Ak (cz gb rfl (λgd ge=>?_) (λgd gf=>?_))))))))))
    ·refine Ae (wm rfl (wm rfl (ob ge λhd gg gh=>Cg Tryz.call139 (Ix F s hn hd gg) rfl (wm rfl (wv (Az rfl rfl) (wv (Az rfl rfl) (wa rfl (wa rfl (Ak (Ai (ck gh λgi gj=>A6 [(0,rS s),(6,rP b1 0),(7,rS ([125]:Ag)),(8,rv hy),(10,rS hd.1),(11,rI .i64 hd.2),(56,rB ((decide (hd.2<0))||(!(ov (Bu s hd.2 ([58]:Ag))))))] [.blk b1 (Ab ha) 78,.row hy 78 4 (List.map Ab hh)] ?_ ?_)))))))))))
     ·refine Af (wm rfl (wv (BY rfl rfl) (wm rfl (AI (decide (hd.2<0)) (λhl=>?_) (λhl=>?_)))))
      ·refine wf hl (wf hl (wf hl (wf hl (wv (r:=rB true) (Au rfl hl rfl) (Aj ?_)))))
       exact BM hl
      ·refine wo hl (wm rfl (wo hl (wm rfl (wo hl (Cg HG (CJ s hd.2 ([58]:Ag) (ov (Bu s hd.2 ([58]:Ag))) (GX (Cr gi hl))) rfl (wo hl (wv (Cd rfl) (DR rfl hl rfl (Aj ?_)))))))))
       exact BM hl
     refine cz gj rfl (λgk gl=>?_) (λgk gm=>?_)
     ·refine Ae (wa rfl (wv (r:=rI .i64 (-1)) (Ao rfl) (Ak (Aq (Ac (Ac (Av (Ac (AS ?_)))))))))
      have gn:=Bm gl ht h0
      refine Av (Ac (WK.up (d:=4) (r:=AV 4 (List.map Ab ([]:List Aa))) rfl (Up.le (E1.nil _)) ?_))
      obtain rfl:=As gn
      exact Ap (Cy Jw (A4 rfl) (A4 rfl)) (sS (sS sN)) ⟨rfl,rfl⟩
     ·refine An (AF (Ae (wm rfl (wm rfl (wv (r:=B9 [rI .i64 4,rI .i64 0,rS hd.1,rI .i64 0]) (EO rfl rfl rfl rfl) (AQ (ys:=([(Aa.mk 4 0 hd.1 0)]:List Aa)) (enc:=Ab) (css:=[[rI .i64 4,rI .i64 0,rS hd.1,rI .i64 0]]) (xs:=[.tmp 59]) BP Ch EH rfl rfl rfl ⟨Eb.agg ⟨Up.refl _,Up.refl _,Up.refl _,Up.refl _,trivial⟩,trivial⟩ rfl AR rfl rfl rfl (λhI=>?_)))))))
      refine ck gm λgp gq=>Exists.elim Ez λinf hinf=>BG (xs:=hh) (ys:=([(Aa.mk 4 0 hd.1 0)]:List Aa)) (enc:=Ab) (i:=2) BP hinf.1 hinf.2.1 hinf.2.2.1 hinf.2.2.2 rfl rfl rfl rfl rfl (Ja.w (i:=0) rfl rfl) AR BH gp rfl (λxR=>?_)
      refine wa rfl (Ak (Af (wm rfl (ck gq λgr gs=>wv (AX rfl rfl gr) (wa rfl (Bf (wm rfl (wm rfl (ob gs λho gt gu=>Cg Rs (ih_rRead s (hd.2+1) ho gt) rfl (wm rfl (wv (Az rfl rfl) (wv (Az rfl rfl) (wa rfl (wa rfl (Ak (Ai (Ae (wm rfl (wv (BY rfl rfl) (Ak (cz gu rfl (λgv gw=>?_) (λgv gx=>?_))))))))))))))))))))))
      ·refine Ae (wa rfl (wv (r:=rI .i64 (-1)) (Ao rfl) (Ak (Aq (Ac (Av (Ac (AS ?_))))))))
       have gy:=Bm gw ht h0
       refine Av (Ac (WK.up (d:=4) (r:=AV 4 (List.map Ab ([]:List Aa))) rfl (Up.le (E1.nil _)) ?_))
       obtain rfl:=As gy
       exact Ap (Cy Jw (A4 rfl) (A4 rfl)) (sS (sS (sS sN))) ⟨rfl,rfl⟩
      ·refine An (AF (Ae (wm rfl (wm rfl (ck gx λgz g0=>Exists.elim Ez λinf hinf=>BG (xs:=hh++([(Aa.mk 4 0 hd.1 0)]:List Aa)) (ys:=ho.1) (enc:=Ab) (i:=0) BP hinf.1 hinf.2.1 hinf.2.2.1 hinf.2.2.2 rfl rfl rfl rfl rfl (Ja.z rfl rfl) AR BH gz rfl (λh2=>?_))))))
       refine wa rfl (Bf (vF B2 rfl Cq (vL 2 CU rfl (ck g0 λg1 g3=>wv (AX rfl rfl g1) (vF B2 rfl Cq (BB (i:=2) Cq rfl rfl (Co rfl) rfl rfl (cs':=[rI .i64 ha.fKind,rI .i64 ha.fInt,rS ha.fStr,rI .i64 (ha.fN+1)]) rfl (H':=[.row h2 78 4 (List.map Ab ((hh++([(Aa.mk 4 0 hd.1 0)]:List Aa))++ho.1)),.row (.slice (some ⟨hI,0,none⟩) 1 1) 78 4 (List.map Ab ([(Aa.mk 4 0 hd.1 0)]:List Aa)),.blk b1 [rI .i64 ha.fKind,rI .i64 ha.fInt,rS ha.fStr,rI .i64 (ha.fN+1)] 78]) rfl (Bf (wm rfl (wa rfl (Bf (wm rfl (wm rfl (ob g3 λg4 g5 g7=>Cg HG (CJ s ho.2 ([44]:Ag) g4 g5) rfl (Ak (cz g7 rfl (λg8 g9=>?_) (λg8 gA=>?_))))))))))))))))
       ·refine Af (wm rfl (ck g9 λgB gC=>wv (AX rfl rfl gB) (wa rfl (Aj (A8 (Cv (H2:=[.blk b1 [rI .i64 ha.fKind,rI .i64 ha.fInt,rS ha.fStr,rI .i64 (ha.fN+1)] 78,.row h2 78 4 (List.map Ab ((hh++([(Aa.mk 4 0 hd.1 0)]:List Aa))++ho.1)),.row (.slice (some ⟨hI,0,none⟩) 1 1) 78 4 (List.map Ab ([(Aa.mk 4 0 hd.1 0)]:List Aa))]) ((A5 (i:=2) rfl).trans (List.Perm.cons _ (List.Perm.refl _))) ?_))))))
        have gD:=Bb gC ht
        exact Ar (A3 (h9,((hh++([(Aa.mk 4 0 hd.1 0)]:List Aa))++ho.1,ho.2+1,(Aa.mk ha.fKind ha.fInt ha.fStr (ha.fN+1))),h2) ⟨gD,AcL _⟩ (AC.c5 rfl rfl rfl rfl rfl AC.nil) (sC (sC (sS sN))))
       ·refine Ae (wm rfl (wm rfl (wm rfl (ob gA λgE gF gG=>Cg HG (CJ s ho.2 ([125]:Ag) gE gF) rfl (wv (Cd rfl) (Ak (cz gG rfl (λgH gI=>?_) (λgH gJ=>?_))))))))
        ·refine Ae (wa rfl (wv (r:=rI .i64 (-1)) (Ao rfl) (Ak (Aq (Av (Ac (AS ?_)))))))
         have gK:=Bm gI ht h0
         refine Av (Ac (WK.up (d:=4) (r:=AV 4 (List.map Ab ([]:List Aa))) rfl (Up.le (E1.nil _)) ?_))
         obtain rfl:=As gK
         exact Ap (Cy Jw (A4 rfl) (A4 rfl)) (sS (sS (sS sN))) ⟨rfl,rfl⟩
        ·refine An (A8 (Cv (H2:=[.blk b1 [rI .i64 ha.fKind,rI .i64 ha.fInt,rS ha.fStr,rI .i64 (ha.fN+1)] 78,.row h2 78 4 (List.map Ab ((hh++([(Aa.mk 4 0 hd.1 0)]:List Aa))++ho.1)),.row (.slice (some ⟨hI,0,none⟩) 1 1) 78 4 (List.map Ab ([(Aa.mk 4 0 hd.1 0)]:List Aa))]) ((A5 (i:=2) rfl).trans (List.Perm.cons _ (List.Perm.refl _))) ?_))
         have gL:=Bb gJ ht
         exact Ar (A3 (h9,((hh++([(Aa.mk 4 0 hd.1 0)]:List Aa))++ho.1,ho.2,(Aa.mk ha.fKind ha.fInt ha.fStr (ha.fN+1))),h2) ⟨gL,AcL _⟩ (AC.c5 rfl rfl rfl rfl rfl AC.nil) (sC (sC (sS sN))))
    ·refine An (AF (Ae (wm rfl (wm rfl (ob gf λhp gM gN=>Cg Rs (ih_rRead s hn hp gM) rfl (wm rfl (wv (Az rfl rfl) (wv (Az rfl rfl) (wa rfl (wa rfl (Ak (Ai (Ae (wm rfl (wv (BY rfl rfl) (Ak (cz gN rfl (λgO gP=>?_) (λgO gQ=>?_))))))))))))))))))
     ·refine Ae (wa rfl (wv (r:=rI .i64 (-1)) (Ao rfl) (Ak (Aq (Ac (Av (Ac (AS ?_))))))))
      have gR:=Bm gP ht h0
      refine Av (Ac (WK.up (d:=4) (r:=AV 4 (List.map Ab ([]:List Aa))) rfl (Up.le (E1.nil _)) ?_))
      obtain rfl:=As gR
      exact Ap (Cy Jw (A4 rfl) (A4 rfl)) (sS (sS sN)) ⟨rfl,rfl⟩
     ·refine An (AF (Ae (wm rfl (wm rfl (ck gQ λgS gT=>Exists.elim Ez λinf hinf=>BG (xs:=hh) (ys:=hp.1) (enc:=Ab) (i:=1) BP hinf.1 hinf.2.1 hinf.2.2.1 hinf.2.2.2 rfl rfl rfl rfl rfl (Ja.z rfl rfl) AR BH gS rfl (λh4=>?_))))))
      refine wa rfl (Bf (vF B2 rfl Cq (vL 1 CU rfl (ck gT λgU gV=>wv (AX rfl rfl gU) (vF B2 rfl Cq (BB (i:=1) Cq rfl rfl (Co rfl) rfl rfl (cs':=[rI .i64 ha.fKind,rI .i64 ha.fInt,rS ha.fStr,rI .i64 (ha.fN+1)]) rfl (H':=[.row h4 78 4 (List.map Ab (hh++hp.1)),.blk b1 [rI .i64 ha.fKind,rI .i64 ha.fInt,rS ha.fStr,rI .i64 (ha.fN+1)] 78]) rfl (Bf (wm rfl (wa rfl (Bf (wm rfl (wm rfl (ob gV λgW gX gY=>Cg HG (CJ s hp.2 ([44]:Ag) gW gX) rfl (Ak (cz gY rfl (λgZ ca=>?_) (λgZ cb=>?_))))))))))))))))
      ·refine Af (wm rfl (ck ca λcc cd=>wv (AX rfl rfl cc) (wa rfl (Aj (A8 (Cv (H2:=[.blk b1 [rI .i64 ha.fKind,rI .i64 ha.fInt,rS ha.fStr,rI .i64 (ha.fN+1)] 78,.row h4 78 4 (List.map Ab (hh++hp.1))]) ((A5 (i:=1) rfl).trans (List.Perm.cons _ (List.Perm.refl _))) ?_))))))
       have ce:=Bb cd ht
       exact Ar (A3 (h9,(hh++hp.1,hp.2+1,(Aa.mk ha.fKind ha.fInt ha.fStr (ha.fN+1))),h4) ⟨ce,AcL _⟩ (AC.c5 rfl rfl rfl rfl rfl AC.nil) (sC (sC sN)))
      ·refine Ae (wm rfl (wm rfl (wm rfl (ob cb λcf cg ci=>Cg HG (CJ s hp.2 ([125]:Ag) cf cg) rfl (wv (Cd rfl) (Ak (cz ci rfl (λcj cl=>?_) (λcj cm=>?_))))))))
       ·refine Ae (wa rfl (wv (r:=rI .i64 (-1)) (Ao rfl) (Ak (Aq (Av (Ac (AS ?_)))))))
        have cn:=Bm cl ht h0
        refine Av (Ac (WK.up (d:=4) (r:=AV 4 (List.map Ab ([]:List Aa))) rfl (Up.le (E1.nil _)) ?_))
        obtain rfl:=As cn
        exact Ap (Cy Jw (A4 rfl) (A4 rfl)) (sS (sS sN)) ⟨rfl,rfl⟩
       ·refine An (A8 (Cv (H2:=[.blk b1 [rI .i64 ha.fKind,rI .i64 ha.fInt,rS ha.fStr,rI .i64 (ha.fN+1)] 78,.row h4 78 4 (List.map Ab (hh++hp.1))]) ((A5 (i:=1) rfl).trans (List.Perm.cons _ (List.Perm.refl _))) ?_))
        have co:=Bb cm ht
        exact Ar (A3 (h9,(hh++hp.1,hp.2,(Aa.mk ha.fKind ha.fInt ha.fStr (ha.fN+1))),h4) ⟨co,AcL _⟩ (AC.c5 rfl rfl rfl rfl rfl AC.nil) (sC (sC sN)))
   ·refine Bo (At ?_)
    have cp:=BI gc ht h0
    exact At (Bc (A3 ((hh,hn,ha),hy) cp (AC.c rfl (AC.c rfl (AC.c rfl AC.nil))) (sC (sC sN))))
  ·rintro⟨⟨hB,hK,hw⟩,hL⟩ hC
   refine Cf (l':=[(6,rP b1 0),(8,rv hL),(9,rI .i64 hK)]) (H':=[.blk b1 (Ab hw) 78,.row hL 78 4 (List.map Ab hB)]) rfl rfl ?_
   replace hC:Ht hB hK hw=some r:=hC
   unfold Ht at hC
   refine AZ (AF (Ae (wv (B0 (i:=0) Mx Ch rfl rfl rfl rfl) (AQ (ys:=([hw]:List Aa)) (enc:=Ab) (css:=[[rI .i64 hw.fKind,rI .i64 hw.fInt,rS hw.fStr,rI .i64 hw.fN]]) (xs:=[.tmp 90]) BP Ch EH rfl rfl rfl ⟨Eb.agg ⟨Up.refl _,Up.refl _,Up.refl _,Up.refl _,trivial⟩,trivial⟩ rfl AR rfl rfl rfl (λxS=>?_)))))
   refine wa rfl (Bf (wm rfl (wm rfl (ck hC λcq cr=>Exists.elim Ez λinf hinf=>BG (xs:=([hw]:List Aa)) (ys:=hB) (enc:=Ab) (i:=0) BP hinf.1 hinf.2.1 hinf.2.2.1 hinf.2.2.2 rfl rfl rfl rfl rfl (Ja.w (i:=2) rfl rfl) AR BH cq rfl (λxT=>?_)))))
   refine wa rfl (Bf (wm rfl (wm rfl (ck cr λct cu=>wv (AX rfl rfl ct) (wa rfl (wa rfl (Ak (Aq (WK.freeze (i:=0) rfl (WK.up (d:=4) (r:=AV 4 (List.map Ab (([hw]:List Aa)++hB))) rfl (Up.fact (i:=0) rfl) ?_))))))))))
   obtain rfl:=As cu
   exact Ap (Cy Jw (A4 rfl) (A4 rfl)) (sS (sS (sS sN))) ⟨rfl,rfl⟩
 ·refine An (AF (Ae (wa rfl (Bf (wm rfl (ck hP λcv cw=>wv (AX rfl rfl cv) (wa rfl (Ak (Ai (AB (WC.nilrow (e:=78) (sz:=4) (NE (H2:=[.blk b1 [rI .i64 5,rI .i64 0,rS ([]:Ag),rI .i64 0] 78,.row (.slice none 0 0                                                                              ) 78 4 (List.map Ab ([]:List Aa))]) ((A5 (i:=1) rfl).trans (List.Perm.cons _ (List.Perm.refl _))) (ob cw λcx cy h1=>Bk (S:=Nat×((List Aa)×Int×Aa)×(Value)) (V:=((List Aa)×Int×Aa)×(Value)) 0 (λσ=>BF (λσ=>Hu F s rec_rRead σ.1 σ.2.1 σ.2.2) σ.1 σ.2.1=some cx) (λσ=>[(0,rS s),(6,rP b1 0),(7,rS ([93]:Ag)),(8,rv σ.2.2),(9,rI .i64 σ.2.1.2.1)]) (λσ=>[.blk b1 (Ab σ.2.1.2.2) 78,.row σ.2.2 78 4 (List.map Ab σ.2.1.1)]) (λσ=>σ.1) (F,(([]:List Aa),at_+1,(Aa.mk 5 0 ([]:Ag) 0)),(.slice none 0 0                                                                              )) cy (AC.c5 rfl rfl rfl rfl rfl AC.nil) (sC (sC sN)) (λσ=>Hq σ.1.1 σ.1.2.1 σ.1.2.2=some r) (λσ=>[(6,rP b1 0),(8,rv σ.2),(9,rI .i64 σ.1.2.1)]) (λσ=>[.blk b1 (Ab σ.1.2.2) 78,.row σ.2 78 4 (List.map Ab σ.1.1)]) ?_ ?_)))))))))))))
  ·rintro⟨xU,⟨hi,hq,hb⟩,hz⟩ c0
   refine BO (l':=[(0,rS s),(6,rP b1 0),(7,rS ([93]:Ag)),(8,rv hz),(9,rI .i64 hq)]) (H':=[.blk b1 (Ab hb) 78,.row hz 78 4 (List.map Ab hi)]) rfl rfl ?_
   obtain⟨hD,rfl,c1,hE,hu⟩:=Ce c0
   replace hE:Hu F s rec_rRead hi hq hb=some c1:=hE
   unfold Hu at hE
   refine Ai (ck hE λc2 c3=>ck c3 λc6 c7=>ck c7 λc8 c9=>A6 [(0,rS s),(6,rP b1 0),(7,rS ([93]:Ag)),(8,rv hz),(9,rI .i64 hq),(39,rB ((!(ov (Bu s hq ([93]:Ag))))||((decide (0<hb.fN))&&(decide ((AK s (hq-1))=44)))))] [.blk b1 (Ab hb) 78,.row hz 78 4 (List.map Ab hi)] ?_ ?_)
   ·refine Af (wm rfl (wm rfl (wm rfl (Cg HG (CJ s hq ([93]:Ag) (ov (Bu s hq ([93]:Ag))) (GX c2)) rfl (wv (Cd rfl) (wm rfl (AI (!(ov (Bu s hq ([93]:Ag)))) (λhg=>?_) (λhg=>?_))))))))
    ·refine wf hg (wf hg (wf hg (wf hg (wu (wu (wu (wu (wu (wf hg (wv (r:=rB true) (Au rfl hg rfl) (Aj ?_)))))))))))
     exact BM hg
    ·refine wo hg (vF B2 rfl Cq (wo hg (vL 0 CU rfl (wo hg (wv (Cb rfl rfl) (wo hg (wm rfl (AI (decide (0<hb.fN)) (λhk=>?_) (λhk=>?_)))))))))
     ·refine wo hk (wm rfl (wo hk (wm rfl (wo hk (wv (EN rfl rfl (C2 (Cr c6 hg) hk)) (wo hk (wv (AO BC rfl rfl (C2 (Cr c8 hg) hk)) (wo hk (wv (Bx rfl rfl) (wo hg (EF rfl hk rfl (DR rfl hg rfl (Aj ?_)))))))))))))
      exact BM (And.intro hg hk)
     ·refine wf hk (wf hk (wf hk (wf hk (wf hk (wo hg (wv (r:=rB false) (A7 rfl hk rfl) (DR rfl hg rfl (Aj ?_))))))))
      exact BM (And.intro hg hk)
   refine cz c9 rfl (λcA cB=>?_) (λcA cC=>?_)
   ·refine An (AF (AB (Ai (Ae (vF B2 rfl Eh (vL 0 E3 rfl (wv (Bx rfl rfl) (Ak (cz cB rfl (λcD cE=>?_) (λcD cF=>?_))))))))))
    ·refine Ae (wm rfl (wm rfl (ob cE λhe cG cH=>Cg Tryz.call139 (Ix F s hq he cG) rfl (wm rfl (wv (Az rfl rfl) (wv (Az rfl rfl) (wa rfl (wa rfl (Ak (Ai (ck cH λcI cJ=>A6 [(0,rS s),(6,rP b1 0),(7,rS ([93]:Ag)),(8,rv hz),(10,rS he.1),(11,rI .i64 he.2),(56,rB ((decide (he.2<0))||(!(ov (Bu s he.2 ([58]:Ag))))))] [.blk b1 (Ab hb) 78,.row hz 78 4 (List.map Ab hi)] ?_ ?_)))))))))))
     ·refine Af (wm rfl (wv (BY rfl rfl) (wm rfl (AI (decide (he.2<0)) (λhm=>?_) (λhm=>?_)))))
      ·refine wf hm (wf hm (wf hm (wf hm (wv (r:=rB true) (Au rfl hm rfl) (Aj ?_)))))
       exact BM hm
      ·refine wo hm (wm rfl (wo hm (wm rfl (wo hm (Cg HG (CJ s he.2 ([58]:Ag) (ov (Bu s he.2 ([58]:Ag))) (GX (Cr cI hm))) rfl (wo hm (wv (Cd rfl) (DR rfl hm rfl (Aj ?_)))))))))
       exact BM hm
     refine cz cJ rfl (λcK cL=>?_) (λcK cM=>?_)
     ·refine Ae (wa rfl (wv (r:=rI .i64 (-1)) (Ao rfl) (Ak (Aq (Ac (Ac (Av (Ac (AS ?_)))))))))
      have cN:=Bm cL hu h1
      refine Av (Ac (WK.up (d:=4) (r:=AV 4 (List.map Ab ([]:List Aa))) rfl (Up.le (E1.nil _)) ?_))
      obtain rfl:=As cN
      exact Ap (Cy Jw (A4 rfl) (A4 rfl)) (sS (sS sN)) ⟨rfl,rfl⟩
     ·refine An (AF (Ae (wm rfl (wm rfl (wv (r:=B9 [rI .i64 4,rI .i64 0,rS he.1,rI .i64 0]) (EO rfl rfl rfl rfl) (AQ (ys:=([(Aa.mk 4 0 he.1 0)]:List Aa)) (enc:=Ab) (css:=[[rI .i64 4,rI .i64 0,rS he.1,rI .i64 0]]) (xs:=[.tmp 59]) BP Ch EH rfl rfl rfl ⟨Eb.agg ⟨Up.refl _,Up.refl _,Up.refl _,Up.refl _,trivial⟩,trivial⟩ rfl AR rfl rfl rfl (λhJ=>?_)))))))
      refine ck cM λcO cP=>Exists.elim Ez λinf hinf=>BG (xs:=hi) (ys:=([(Aa.mk 4 0 he.1 0)]:List Aa)) (enc:=Ab) (i:=2) BP hinf.1 hinf.2.1 hinf.2.2.1 hinf.2.2.2 rfl rfl rfl rfl rfl (Ja.w (i:=0) rfl rfl) AR BH cO rfl (λxV=>?_)
      refine wa rfl (Ak (Af (wm rfl (ck cP λcQ cR=>wv (AX rfl rfl cQ) (wa rfl (Bf (wm rfl (wm rfl (ob cR λhr cS cT=>Cg Rs (ih_rRead s (he.2+1) hr cS) rfl (wm rfl (wv (Az rfl rfl) (wv (Az rfl rfl) (wa rfl (wa rfl (Ak (Ai (Ae (wm rfl (wv (BY rfl rfl) (Ak (cz cT rfl (λcU cV=>?_) (λcU cW=>?_))))))))))))))))))))))
      ·refine Ae (wa rfl (wv (r:=rI .i64 (-1)) (Ao rfl) (Ak (Aq (Ac (Av (Ac (AS ?_))))))))
       have cX:=Bm cV hu h1
       refine Av (Ac (WK.up (d:=4) (r:=AV 4 (List.map Ab ([]:List Aa))) rfl (Up.le (E1.nil _)) ?_))
       obtain rfl:=As cX
       exact Ap (Cy Jw (A4 rfl) (A4 rfl)) (sS (sS (sS sN))) ⟨rfl,rfl⟩
      ·refine An (AF (Ae (wm rfl (wm rfl (ck cW λcY cZ=>Exists.elim Ez λinf hinf=>BG (xs:=hi++([(Aa.mk 4 0 he.1 0)]:List Aa)) (ys:=hr.1) (enc:=Ab) (i:=0) BP hinf.1 hinf.2.1 hinf.2.2.1 hinf.2.2.2 rfl rfl rfl rfl rfl (Ja.z rfl rfl) AR BH cY rfl (λh6=>?_))))))
       refine wa rfl (Bf (vF B2 rfl Cq (vL 2 CU rfl (ck cZ λxa xb=>wv (AX rfl rfl xa) (vF B2 rfl Cq (BB (i:=2) Cq rfl rfl (Co rfl) rfl rfl (cs':=[rI .i64 hb.fKind,rI .i64 hb.fInt,rS hb.fStr,rI .i64 (hb.fN+1)]) rfl (H':=[.row h6 78 4 (List.map Ab ((hi++([(Aa.mk 4 0 he.1 0)]:List Aa))++hr.1)),.row (.slice (some ⟨hJ,0,none⟩) 1 1) 78 4 (List.map Ab ([(Aa.mk 4 0 he.1 0)]:List Aa)),.blk b1 [rI .i64 hb.fKind,rI .i64 hb.fInt,rS hb.fStr,rI .i64 (hb.fN+1)] 78]) rfl (Bf (wm rfl (wa rfl (Bf (wm rfl (wm rfl (ob xb λxc xd xe=>Cg HG (CJ s hr.2 ([44]:Ag) xc xd) rfl (Ak (cz xe rfl (λxf xg=>?_) (λxf xh=>?_))))))))))))))))
       ·refine Af (wm rfl (ck xg λxi xj=>wv (AX rfl rfl xi) (wa rfl (Aj (A8 (Cv (H2:=[.blk b1 [rI .i64 hb.fKind,rI .i64 hb.fInt,rS hb.fStr,rI .i64 (hb.fN+1)] 78,.row h6 78 4 (List.map Ab ((hi++([(Aa.mk 4 0 he.1 0)]:List Aa))++hr.1)),.row (.slice (some ⟨hJ,0,none⟩) 1 1) 78 4 (List.map Ab ([(Aa.mk 4 0 he.1 0)]:List Aa))]) ((A5 (i:=2) rfl).trans (List.Perm.cons _ (List.Perm.refl _))) ?_))))))
        have xk:=Bb xj hu
        exact Ar (A3 (hD,((hi++([(Aa.mk 4 0 he.1 0)]:List Aa))++hr.1,hr.2+1,(Aa.mk hb.fKind hb.fInt hb.fStr (hb.fN+1))),h6) ⟨xk,AcL _⟩ (AC.c5 rfl rfl rfl rfl rfl AC.nil) (sC (sC (sS sN))))
       ·refine Ae (wm rfl (wm rfl (wm rfl (ob xh λxl xm xn=>Cg HG (CJ s hr.2 ([93]:Ag) xl xm) rfl (wv (Cd rfl) (Ak (cz xn rfl (λxo xp=>?_) (λxo xq=>?_))))))))
        ·refine Ae (wa rfl (wv (r:=rI .i64 (-1)) (Ao rfl) (Ak (Aq (Av (Ac (AS ?_)))))))
         have xr:=Bm xp hu h1
         refine Av (Ac (WK.up (d:=4) (r:=AV 4 (List.map Ab ([]:List Aa))) rfl (Up.le (E1.nil _)) ?_))
         obtain rfl:=As xr
         exact Ap (Cy Jw (A4 rfl) (A4 rfl)) (sS (sS (sS sN))) ⟨rfl,rfl⟩
        ·refine An (A8 (Cv (H2:=[.blk b1 [rI .i64 hb.fKind,rI .i64 hb.fInt,rS hb.fStr,rI .i64 (hb.fN+1)] 78,.row h6 78 4 (List.map Ab ((hi++([(Aa.mk 4 0 he.1 0)]:List Aa))++hr.1)),.row (.slice (some ⟨hJ,0,none⟩) 1 1) 78 4 (List.map Ab ([(Aa.mk 4 0 he.1 0)]:List Aa))]) ((A5 (i:=2) rfl).trans (List.Perm.cons _ (List.Perm.refl _))) ?_))
         have xt:=Bb xq hu
         exact Ar (A3 (hD,((hi++([(Aa.mk 4 0 he.1 0)]:List Aa))++hr.1,hr.2,(Aa.mk hb.fKind hb.fInt hb.fStr (hb.fN+1))),h6) ⟨xt,AcL _⟩ (AC.c5 rfl rfl rfl rfl rfl AC.nil) (sC (sC (sS sN))))
    ·refine An (AF (Ae (wm rfl (wm rfl (ob cF λhs xu xv=>Cg Rs (ih_rRead s hq hs xu) rfl (wm rfl (wv (Az rfl rfl) (wv (Az rfl rfl) (wa rfl (wa rfl (Ak (Ai (Ae (wm rfl (wv (BY rfl rfl) (Ak (cz xv rfl (λxw xx=>?_) (λxw xy=>?_))))))))))))))))))
     ·refine Ae (wa rfl (wv (r:=rI .i64 (-1)) (Ao rfl) (Ak (Aq (Ac (Av (Ac (AS ?_))))))))
      have xz:=Bm xx hu h1
      refine Av (Ac (WK.up (d:=4) (r:=AV 4 (List.map Ab ([]:List Aa))) rfl (Up.le (E1.nil _)) ?_))
      obtain rfl:=As xz
      exact Ap (Cy Jw (A4 rfl) (A4 rfl)) (sS (sS sN)) ⟨rfl,rfl⟩
     ·refine An (AF (Ae (wm rfl (wm rfl (ck xy λx0 x1=>Exists.elim Ez λinf hinf=>BG (xs:=hi) (ys:=hs.1) (enc:=Ab) (i:=1) BP hinf.1 hinf.2.1 hinf.2.2.1 hinf.2.2.2 rfl rfl rfl rfl rfl (Ja.z rfl rfl) AR BH x0 rfl (λh8=>?_))))))
      refine wa rfl (Bf (vF B2 rfl Cq (vL 1 CU rfl (ck x1 λx2 x3=>wv (AX rfl rfl x2) (vF B2 rfl Cq (BB (i:=1) Cq rfl rfl (Co rfl) rfl rfl (cs':=[rI .i64 hb.fKind,rI .i64 hb.fInt,rS hb.fStr,rI .i64 (hb.fN+1)]) rfl (H':=[.row h8 78 4 (List.map Ab (hi++hs.1)),.blk b1 [rI .i64 hb.fKind,rI .i64 hb.fInt,rS hb.fStr,rI .i64 (hb.fN+1)] 78]) rfl (Bf (wm rfl (wa rfl (Bf (wm rfl (wm rfl (ob x3 λx4 x5 x6=>Cg HG (CJ s hs.2 ([44]:Ag) x4 x5) rfl (Ak (cz x6 rfl (λx7 x8=>?_) (λx7 x9=>?_))))))))))))))))
      ·refine Af (wm rfl (ck x8 λxA xB=>wv (AX rfl rfl xA) (wa rfl (Aj (A8 (Cv (H2:=[.blk b1 [rI .i64 hb.fKind,rI .i64 hb.fInt,rS hb.fStr,rI .i64 (hb.fN+1)] 78,.row h8 78 4 (List.map Ab (hi++hs.1))]) ((A5 (i:=1) rfl).trans (List.Perm.cons _ (List.Perm.refl _))) ?_))))))
       have xC:=Bb xB hu
       exact Ar (A3 (hD,(hi++hs.1,hs.2+1,(Aa.mk hb.fKind hb.fInt hb.fStr (hb.fN+1))),h8) ⟨xC,AcL _⟩ (AC.c5 rfl rfl rfl rfl rfl AC.nil) (sC (sC sN)))
      ·refine Ae (wm rfl (wm rfl (wm rfl (ob x9 λxD xE xF=>Cg HG (CJ s hs.2 ([93]:Ag) xD xE) rfl (wv (Cd rfl) (Ak (cz xF rfl (λxG xH=>?_) (λxG xI=>?_))))))))
       ·refine Ae (wa rfl (wv (r:=rI .i64 (-1)) (Ao rfl) (Ak (Aq (Av (Ac (AS ?_)))))))
        have xJ:=Bm xH hu h1
        refine Av (Ac (WK.up (d:=4) (r:=AV 4 (List.map Ab ([]:List Aa))) rfl (Up.le (E1.nil _)) ?_))
        obtain rfl:=As xJ
        exact Ap (Cy Jw (A4 rfl) (A4 rfl)) (sS (sS sN)) ⟨rfl,rfl⟩
       ·refine An (A8 (Cv (H2:=[.blk b1 [rI .i64 hb.fKind,rI .i64 hb.fInt,rS hb.fStr,rI .i64 (hb.fN+1)] 78,.row h8 78 4 (List.map Ab (hi++hs.1))]) ((A5 (i:=1) rfl).trans (List.Perm.cons _ (List.Perm.refl _))) ?_))
        have xK:=Bb xI hu
        exact Ar (A3 (hD,(hi++hs.1,hs.2,(Aa.mk hb.fKind hb.fInt hb.fStr (hb.fN+1))),h8) ⟨xK,AcL _⟩ (AC.c5 rfl rfl rfl rfl rfl AC.nil) (sC (sC sN)))
   ·refine Bo (At ?_)
    have xL:=BI cC hu h1
    exact At (Bc (A3 ((hi,hq,hb),hz) xL (AC.c rfl (AC.c rfl (AC.c rfl AC.nil))) (sC (sC sN))))
  ·rintro⟨⟨hG,hN,hx⟩,hO⟩ hH
   refine Cf (l':=[(6,rP b1 0),(8,rv hO),(9,rI .i64 hN)]) (H':=[.blk b1 (Ab hx) 78,.row hO 78 4 (List.map Ab hG)]) rfl rfl ?_
   replace hH:Hq hG hN hx=some r:=hH
   unfold Hq at hH
   refine AZ (AF (Ae (wv (B0 (i:=0) Mx Ch rfl rfl rfl rfl) (AQ (ys:=([hx]:List Aa)) (enc:=Ab) (css:=[[rI .i64 hx.fKind,rI .i64 hx.fInt,rS hx.fStr,rI .i64 hx.fN]]) (xs:=[.tmp 90]) BP Ch EH rfl rfl rfl ⟨Eb.agg ⟨Up.refl _,Up.refl _,Up.refl _,Up.refl _,trivial⟩,trivial⟩ rfl AR rfl rfl rfl (λxW=>?_)))))
   refine wa rfl (Bf (wm rfl (wm rfl (ck hH λxM xN=>Exists.elim Ez λinf hinf=>BG (xs:=([hx]:List Aa)) (ys:=hG) (enc:=Ab) (i:=0) BP hinf.1 hinf.2.1 hinf.2.2.1 hinf.2.2.2 rfl rfl rfl rfl rfl (Ja.w (i:=2) rfl rfl) AR BH xM rfl (λxX=>?_)))))
   refine wa rfl (Bf (wm rfl (wm rfl (ck xN λxO xP=>wv (AX rfl rfl xO) (wa rfl (wa rfl (Ak (Aq (WK.freeze (i:=0) rfl (WK.up (d:=4) (r:=AV 4 (List.map Ab (([hx]:List Aa)++hG))) rfl (Up.fact (i:=0) rfl) ?_))))))))))
   obtain rfl:=As xP
   exact Ap (Cy Jw (A4 rfl) (A4 rfl)) (sS (sS (sS sN))) ⟨rfl,rfl⟩
theorem M5:∀F:Nat,(∀(s:Ag) (at_:Int) (r:(List Aa)×Int),Hi F s at_=some r→Fn Tryz.prog GE 103 [rS s,rI .i64 at_] [] (λR H=>R=Cm [AV 4 (List.map Ab r.1),rI .i64 r.2]∧H=[]))∧(∀(s:Ag) (at_:Int) (r:(List Aa)×Int),DI F s at_=some r→Fn Tryz.prog GE 140 [rS s,rI .i64 at_] [] (λR H=>R=Cm [AV 4 (List.map Ab r.1),rI .i64 r.2]∧H=[]))
  | 0=>⟨(λ_ _ _ h=>by simp[Hi] at h),(λ_ _ _ h=>by simp[DI] at h)⟩
  | nn+1=>⟨(λs at_ r h=>WU nn (DI nn) (M5 nn).2 s at_ r (by rw[Hi] at h;exact h)),(λs at_ r h=>Q4 nn (Hi nn) (M5 nn).1 s at_ r (by rw[DI] at h;exact h))⟩
theorem Zx (F:Nat) (s:Ag) (at_:Int) (r:(List Aa)×Int) (h:Hi F s at_=some r):Fn Tryz.prog GE 103 [rS s,rI .i64 at_] [] (λR H=>R=Cm [AV 4 (List.map Ab r.1),rI .i64 r.2]∧H=[]):=(M5 F).1 s at_ r h
theorem Vk (F:Nat) (s:Ag) (r:(List Aa)×Int) (h:LD F s=some r):Fn Tryz.prog GE 78 [rS s] [] (λR H=>R=Cm [AV 4 (List.map Ab r.1),rI .i64 r.2]∧H=[]):=by
 refine enter (n:=22) Tryz.func78 rfl Tryz.ntmps78 rfl (λw Z=>?_)
 unfold LD at h
 refine Ae (wa rfl (wa rfl (Ak (Ai (Ae (wm rfl (wv (AW BC rfl) (wv (Cb rfl rfl) (Ak (cz h rfl (λc1 h2=>?_) (λc1 h3=>?_)))))))))))
 ·refine Ae (wa rfl (wa rfl (Ak (Aq (Ac (WK.up (d:=2) (r:=AV 4 (List.map Ab ([]:List Aa))) rfl (Up.le (E1.nil _)) ?_))))))
  obtain rfl:=As h2
  exact Ap (Cy Tryz.results78 (A4 rfl) (A4 rfl)) sN ⟨rfl,rfl⟩
 ·refine An (AF (Ae (wm rfl (ob h3 λr4 e6 h5=>Cg Rs (Zx F s 0 r4 e6) rfl (wm rfl (wv (Az rfl rfl) (wv (Az rfl rfl) (wa rfl (wa rfl (Ak (Ai (Ae (wm rfl (wm rfl (wv (AW BC rfl) (wv (CB rfl rfl) (Ak (cz h5 rfl (λc7 h8=>?_) (λc7 h9=>?_)))))))))))))))))))
  ·refine Ae (wa rfl (wa rfl (Ak (Aq (Ac (WK.up (d:=2) (r:=AV 4 (List.map Ab ([]:List Aa))) rfl (Up.le (E1.nil _)) ?_))))))
   obtain rfl:=As h8
   exact Ap (Cy Tryz.results78 (A4 rfl) (A4 rfl)) sN ⟨rfl,rfl⟩
  ·refine An (AF (Ae (wm rfl (ob h9 λha hb hd=>Cg Tryz.call104 (Tm F r4.1 ha hb) rfl (wv (Az rfl rfl) (wv (Az rfl rfl) (wa rfl (wa rfl (Ak (Aq ?_))))))))))
   obtain rfl:=As hd
   exact Ap (Cy Tryz.results78 (A4 rfl) (A4 rfl)) sN ⟨rfl,rfl⟩
end Go.Proofs.YtjfnokmpfekniaaGreatDoor.Q
namespace Go.Proofs.YtjfnokmpfekniaaGreatDoor
open Go
set_option linter.unusedVariables false
set_option linter.unusedSimpArgs false
section
variable {T S : Type}
def CZ:List (Ag×T)→Ag→Option T
 | [],_=>none
 | p::r,k=>bif decide (p.1=k) then some p.2 else CZ r k
def Dc (xs:List (Ag×T)) (k:Ag) (z:T):T:=(CZ xs k).getD z
def IR (xs:List (Ag×T)) (k:Ag):Bool:=(CZ xs k).isSome
def mins (k:Ag) (v:T):List (Ag×T)→List (Ag×T)
 | []=>[(k,v)]
 | p::r=>bif Ci k p.1 then(k,v)::p::r else p::mins k v r
def mput (xs:List (Ag×T)) (k:Ag) (v:T):List (Ag×T):=xs.map λp=>bif decide (p.1=k) then(k,v) else p
def mset (xs:List (Ag×T)) (k:Ag) (v:T):List (Ag×T):=bif IR xs k then mput xs k v else mins k v xs
def mdel (xs:List (Ag×T)) (k:Ag):List (Ag×T):=xs.filter λp=>!decide (p.1=k)
def Br (f:T→S) (xs:List (Ag×T)):List (Ag×S):=xs.map λp=>(p.1,f p.2)
theorem LW (f:T→S):∀(xs:List (Ag×T)) (k:Ag),CZ (Br f xs) k=(CZ xs k).map f
 | [],k=>rfl
 | p::r,k=>by
  show(bif decide (p.1=k) then some (f p.2) else CZ (Br f r) k)=_
  rw[CZ,LW f r k]
  cases decide (p.1=k)<;>rfl
theorem XC (f:T→S) (xs:List (Ag×T)) (k:Ag):IR (Br f xs) k=IR xs k:=by
 unfold IR;rw[LW];cases CZ xs k<;>rfl
theorem Sj (f:T→S) (k:Ag) (v:T):∀xs:List (Ag×T),Br f (mins k v xs)=mins k (f v) (Br f xs)
 | []=>rfl
 | p::r=>by
  show Br f (bif Ci k p.1 then(k,v)::p::r else p::mins k v r)=(bif Ci k p.1 then(k,f v)::(p.1,f p.2)::Br f r else(p.1,f p.2)::mins k (f v) (Br f r))
  rw[← Sj f k v r]
  cases Ci k p.1<;>rfl
theorem XB (f:T→S) (xs:List (Ag×T)) (k:Ag) (v:T):Br f (mset xs k v)=mset (Br f xs) k (f v):=by
 unfold mset
 rw[XC]
 cases IR xs k with
 | false=>exact Sj f k v xs
 | true=>
  show Br f (mput xs k v)=mput (Br f xs) k (f v)
  unfold Br mput
  rw[Adz,Adz]
  refine List.map_congr_left λp _=>?_
  show _=(bif decide (p.1=k) then(k,f v) else(p.1,f p.2))
  simp only[Function.comp]
  cases decide (p.1=k)<;>rfl
theorem XE (f:T→S) (xs:List (Ag×T)) (k:Ag):Br f (mdel xs k)=mdel (Br f xs) k:=by
 unfold Br mdel
 rw[List.filter_map]
 rfl
theorem JQ (f:T→S) (xs:List (Ag×T)):(Br f xs).length=xs.length:=by simp[Br]
theorem PS (k:Ag) (v:T):∀xs:List (Ag×T),(mins k v xs).Perm ((k,v)::xs)
 | []=>List.Perm.refl _
 | p::r=>by
  rw[mins]
  cases Ci k p.1 with
  | true=>exact List.Perm.refl _
  | false=>exact((PS k v r).cons p).trans (List.Perm.swap _ _ _)
def K7 (x:T):List T→List (List T)
 | []=>[[x]]
 | y::r=>(x::y::r)::(K7 x r).map (y::·)
def PK:List T→List (List T)
 | []=>[[]]
 | x::r=>(PK r).flatMap (K7 x)
theorem Nr (x:T):∀(a b:List T),a++x::b∈K7 x (a++b)
 | [],[]=>by simp[K7]
 | [],y::b=>by simp[K7]
 | y::a,b=>by
  simp only[List.cons_append,K7,Ady,List.mem_map]
  exact .inr ⟨_,Nr x a b,rfl⟩
theorem PU:∀(xs ys:List T),ys.Perm xs→ys∈PK xs
 | [],ys,h=>by rw[h.eq_nil];simp[PK]
 | x::r,ys,h=>by
  have hx:x∈ys:=h.symm.subset (List.mem_cons_self ..)
  obtain⟨a,b,rfl⟩:=List.append_of_mem hx
  have h2:(a++b).Perm r:=(List.perm_middle.symm.trans h).cons_inv
  simp only[PK,List.mem_flatMap]
  exact⟨a++b,PU r _ h2,Nr x a b⟩
def AaN {R:Type} [DecidableEq R] (xs:List T) (K:List T→Option R):Option R:=match K xs with
 | none=>none
 | some r=>bif (PK xs).all (λp=>decide (K p=some r)) then some r else none
theorem AaM {R:Type} [DecidableEq R] {xs:List T} {K:List T→Option R} {r:R} (h:AaN xs K=some r):∀p:List T,p.Perm xs→K p=some r:=λp hp=>by
 unfold AaN at h
 cases hk:K xs with
 | none=>rw[hk] at h;cases h
 | some q=>
  rw[hk] at h
  simp only at h
  cases ha:(PK xs).all (λp=>decide (K p=some q)) with
  | false=>rw[ha] at h;cases h
  | true=>
   rw[ha] at h;cases h
   exact AcM (List.all_eq_true.1 ha p (PU xs p hp))
def XK {St O:Type} (body:T→St→Option (Stp St (Out O St))):List T→St→Option (Out O St)
 | [],s=>some (.go s)
 | x::r,s=>match body x s with
  | none=>none
  | some (.next s')=>XK body r s'
  | some (.out o)=>some o
def Acb {St R:Type} (body:T→St→Option (Stp St (Out R St))) (ys:List T) (K:St→Option R) (r:R):Stp St (Out R St)→Prop
 | .next s'=>∀q:List T,q.Perm ys→Bn (XK body q s') (B6 K)=some r
 | .out o=>B6 K o=some r
theorem AbJ {St R:Type} {body:T→St→Option (Stp St (Out R St))} {ys ys':List T} {p:T} {s:St} {K:St→Option R} {r:R} (h:∀q:List T,q.Perm ys→Bn (XK body q s) (B6 K)=some r) (hp:ys.Perm (p::ys')):∃t,body p s=some t∧Acb body ys' K r t:=by
 have h1:∀q:List T,q.Perm ys'→Bn (XK body (p::q) s) (B6 K)=some r:=λq hq=>h _ ((hq.cons p).trans hp.symm)
 cases hb:body p s with
 | none=>
  have:=h1 ys' (List.Perm.refl _)
  rw[XK,hb] at this;cases this
 | some t=>
  refine⟨t,rfl,?_⟩
  cases t with
  | next s'=>
   intro q hq
   have:=h1 q hq
   rw[XK,hb] at this;exact this
  | out o=>
   have:=h1 ys' (List.Perm.refl _)
   rw[XK,hb] at this;exact this
theorem ZE {St R:Type} {body:T→St→Option (Stp St (Out R St))} {ys:List T} {s:St} {K:St→Option R} {r:R} (h:∀q:List T,q.Perm ys→Bn (XK body q s) (B6 K)=some r) (hy:ys=[]):K s=some r:=by
 subst hy;exact h [] (List.Perm.refl _)
theorem PW {St R:Type} {body:T→St→Option (Stp St (Out R St))} {ys:List T} {s':St} {K:St→Option R} {r:R} {t:Stp St (Out R St)} (h:some (Stp.next s')=some t) (ht:Acb body ys K r t):∀q:List T,q.Perm ys→Bn (XK body q s') (B6 K)=some r:=by cases h;exact ht
theorem Uc {ys ys':List T} {p:T} (h:ys.Perm (p::ys')):ys'.length<ys.length:=by rw[h.length_eq];exact AcL _
end
end Go.Proofs.YtjfnokmpfekniaaGreatDoor
namespace Go.Proofs.YtjfnokmpfekniaaGreatDoor.Q
open Go Go.RowKit
set_option linter.unusedVariables false
set_option linter.unusedSimpArgs false
def rBx (p:Bool→Prop):Rp:=⟨λ_ v=>∃b,v = .bool b∧p b,λ_ h=>h,true,λ_ Z v ⟨b,e,_⟩=>by rw[e];rfl⟩
section
variable {P : Program} {n : Nat} {c : Cx} {ops : Array Oper} {Q : Exit → Act → World → Prop} {rest : List Oper} {l : Fr} {H : List Ent} {d : Option Nat} {ty rty t e : TypeId} {pos : String} {af : Array Edge} {g : Option (Nat × Bool)} {r : Rp} {x : Operand} {cx cy : Code} {sz : Nat} {xs : List (List Rp)}
theorem Wy {o:Operand} {p:Bool→Prop} (ho:ev l o=some (rBx p)) (h1:p true→WC P n c cx Q l H) (h2:p false→WC P n c cy Q l H):WC P n c (.cond o cx cy) Q l H:=λa w Z ha hw=>by
 obtain⟨b,e,hp⟩:=ha.ev ho
 exact wp_cond_split e (λe=>h1 (e▸hp) a w Z ha hw) (λe=>h2 (e▸hp) a w Z ha hw)
theorem Vx (ht:P.underlying t=some (.slice e)) (h:ev l x=some (AV sz xs)):Bq P n c l H { dst:=d,op:=.binOp .eql t x (.const (.slice none 0 0)) rty,type:=ty,pos:=pos,after:=af,guard:=g } (rBx (λb=>b=true→xs=[])):=λa w Z ha hw=>by
 obtain⟨A,cap,e1,h1,h2,h3,h4⟩:=ha.ev h
 refine⟨.bool A.isNone,⟨_,rfl,λhb=>?_⟩,?_⟩
 ·cases A with
  | some a=>cases hb
  | none=>
   have:=h3 rfl
   exact List.length_eq_zero_iff.1 (by omega)
 ·have:=run_equal_slice_nil (P:=P) w t e A xs.length cap ht
  have e2:a.eval (.const (.slice none 0 0)) = .slice none 0 0:=rfl
  simp[execOp,e1,e2,binOp,this,eqGuard]
end
section
variable {P : Program} {n : Nat} {c : Cx} {l : Fr} {H : List Ent} {d : Option Nat} {ty rty t e : TypeId} {pos : String} {af : Array Edge} {g : Option (Nat × Bool)} {x : Operand} {sz : Nat}
end
def QY (ops:List Oper) (N:Nat):Bool:=
 let cl:=Ph ops []
 (List.range ops.length).all (λi=>(Gv (ops.getD i default)).all (·<i))&&
 (List.range ops.length).all (λi=>i<N||(List.range i).all (λj=>(cl.getD i 0).testBit j))
section
variable {P : Program} {Q : Exit → Act → World → Prop}
theorem SI {listed:Array Bool} {len m:Nat} (hs:listed.size=len) (hm:m≤len) (h:∀j,j<len→(listed.getD j true=true↔j<m)):listed.toList.count false=len-m:=by
 have:listed.toList=List.replicate m true++List.replicate (len-m) false:=by
  apply List.ext_getElem
  ·simp[hs];omega
  ·intro j h1 h2
   have hj:j<len:=by simpa[hs] using h1
   have:=h j hj
   rw[Array.getD_eq_getD_getElem?,Array.getElem?_eq_getElem (by omega)] at this
   simp only[Option.getD_some] at this
   rw[Array.getElem_toList,List.getElem_append]
   split
   ·rename_i h3
    simp at h3
    simp[this.2 h3]
   ·rename_i h3
    simp at h3
    simp only[List.getElem_replicate]
    cases hb:listed[j] with
    | false=>rfl
    | true=>have:=this.1 hb;omega
 rw[this];simp[List.count_append,List.count_replicate]
theorem Uz {listed:Array Bool} {j:Nat} (h:j<listed.size) (d d':Bool):listed.getD j d=listed.getD j d':=by
 simp[Array.getD_eq_getD_getElem?,Array.getElem?_eq_getElem h]
theorem Po {ops:List Oper} {listed:Array Bool} {i:Nat} {o:Oper} (ho:ops[i]? =some o) (hb:∀e∈Gv o,listed.getD e true=true)
  (hcl:∀j o,ops[j]? =some o→listed.getD j true=true→∀e∈Gv o,listed.getD e true=true) (j:Nat) (h:((Ph ops []).getD i 0).testBit j=true):j=i∨listed.getD j true=true:=
 IZ ops (λk=>k=i∨listed.getD k true=true) ops [] (λt o' ht e he hF=>by
  rcases hF with hF | hF
  ·simp at hF;subst hF;rw[ho] at ht;simp at ht;subst ht;exact .inr (hb e he)
  ·exact .inr (hcl t o' ht (by simpa using hF) e he)) (λj i hb=>by simp at hb) i j h (.inl rfl)
theorem La {ops:List Oper} {listed:Array Bool} {i:Nat} (hsz:listed.size=ops.length) (hlt:∀i,i<ops.length→∀e∈Gv (ops.getD i default),e<i) (h:i∈Region.ready .any ops.toArray listed) :
  listed.getD i true=false∧i<ops.length∧∃o,ops[i]? =some o∧∀e∈Gv o,listed.getD e true=true:=by
 obtain⟨h1,o,ho,h2⟩:=mem_ready.1 h
 have ho':ops[i]? =some o:=by simpa using ho
 have hil:=(List.getElem?_eq_some_iff.1 ho').1
 refine⟨h1,hil,o,ho',λe he=>?_⟩
 have hei:=hlt i hil e (by rw[AcP,ho'];exact he)
 simp only[Gv,List.mem_map,List.mem_filter] at he
 obtain⟨x,⟨hx1,hx2⟩,rfl⟩:=he
 have h3:=h2 x (by simpa using hx1) hx2
 rw[Uz (by omega) true false];exact h3
theorem KP {ops:List Oper} {listed:Array Bool} (hsz:listed.size=ops.length) (hlt:∀i,i<ops.length→∀e∈Gv (ops.getD i default),e<i) (h:Region.ready .any ops.toArray listed=[]) :
  ∀j,j<ops.length→listed.getD j true=true:=by
 intro j
 induction j using Nat.strongRecOn with
 | ind j ih=>
  intro hj
  cases hb:listed.getD j true with
  | true=>rfl
  | false=>
   have:j∈Region.ready .any ops.toArray listed:=mem_ready.2 ⟨hb,ops[j],by simp[hj],λe he hbn=>by
    have hel:e.on<j:=hlt j hj e.on (by
     rw[AcP,List.getElem?_eq_getElem hj]
     simp only[Gv,Option.getD_some,List.mem_map,List.mem_filter]
     exact⟨e,⟨by simpa using he,hbn⟩,rfl⟩)
    rw[Uz (by omega) false true]
    exact ih e.on hel (by omega)⟩
   rw[h] at this;cases this
theorem NH {listed:Array Bool} {i j:Nat} (hi:i<listed.size):(listed.setIfInBounds i true).getD j true=true↔(j=i∨listed.getD j true=true):=by
 by_cases hj:i=j
 ·subst hj;simp[hi]
 ·rw[getD_set_ne true hj]
  exact⟨.inr,λh=>h.elim (λh=>absurd h.symm hj) id⟩
theorem UZ {listed:Array Bool} {i fuel:Nat} (hi:i<listed.size) (hun:listed.getD i true=false) (hc:listed.toList.count false=fuel+1):(listed.setIfInBounds i true).toList.count false=fuel:=by
 have hfi:listed.toList[i]? =some false:=by
  rw[Array.getD_eq_getD_getElem?,Array.getElem?_eq_getElem hi] at hun
  simp at hun;simp[hi,hun]
 rw[Array.toList_setIfInBounds]
 have h1:=List.count_set (a:=true) (b:=false) (l:=listed.toList) (i:=i) (by simpa using hi)
 have h2:listed.toList[i]'(by simpa using hi)=false:=by
  have:=List.getElem?_eq_some_iff.1 hfi;exact this.2
 rw[h1,h2,hc];rfl
theorem Na {ops:List Oper} {N:Nat} (hlt:∀i,i<ops.length→∀e∈Gv (ops.getD i default),e<i)
  (hch:∀i,N≤i→i<ops.length→∀j,j<i→((Ph ops []).getD i 0).testBit j=true):∀(k m:Nat) (listed:Array Bool) (a:Act) (w:World),m+k=ops.length→N≤m→listed.size=ops.length→
   (∀j,j<ops.length→(listed.getD j true=true↔j<m))→(∀j o,ops[j]? =some o→listed.getD j true=true→∀e∈Gv o,listed.getD e true=true)→wpList P ops.toArray Q (ops.drop m) a w→wpAny P .any ops.toArray Q k listed a w
 | 0,m,listed,a,w,hk,hN,hsz,hl,hcl,h=>by
  refine⟨?_,?_⟩
  ·cases hr:Region.ready .any ops.toArray listed with
   | nil=>rfl
   | cons i r=>
    obtain⟨h1,h2,_⟩:=La hsz hlt (i:=i) (by rw[hr];simp)
    rw[(hl i h2).2 (by omega)] at h1;cases h1
  ·rw[List.drop_of_length_le (by omega)] at h
   exact h
 | k+1,m,listed,a,w,hk,hN,hsz,hl,hcl,h=>by
  refine⟨λhr=>?_,λi hi=>?_⟩
  ·have:=(hl m (by omega)).1 (KP hsz hlt hr m (by omega));omega
  ·obtain⟨h1,h2,o,ho,hb⟩:=La hsz hlt hi
   have him:i=m:=by
    have hmi : ¬ i<m:=λh'=>by rw[(hl i h2).2 h'] at h1;cases h1
    by_cases e:i=m
    ·exact e
    ·rcases Po ho hb hcl m (hch i (by omega) h2 m (by omega)) with h3 | h3
     ·exact h3.symm
     ·have:=(hl m (by omega)).1 h3;omega
   subst him
   have hd:ops.drop i=o::ops.drop (i+1):=by
    rw[List.drop_eq_getElem_cons h2]
    congr 1
    exact(List.getElem?_eq_some_iff.1 ho).2
   rw[hd] at h
   have ih:∀a' w',wpList P ops.toArray Q (ops.drop (i+1)) a' w'→wpAny P .any ops.toArray Q k (listed.setIfInBounds i true) a' w':=λa' w' h'=>by
    refine Na hlt hch k (i+1) _ a' w' (by omega) (by omega) (by simpa using hsz) (λj hj=>?_) (λj o' hj hlj e he=>?_) h'
    ·rw[NH (by omega),hl j hj];omega
    ·rw[NH (by omega)] at hlj ⊢
     rcases hlj with rfl | hlj
     ·rw[ho] at hj;simp at hj;subst hj;exact .inr (hb e he)
     ·exact .inr (hcl j o' hj hlj e he)
   unfold wpOp
   have hoA:ops.toArray[i]? =some o:=by simpa using ho
   simp only[hoA]
   simp only[wpList] at h
   split
   ·rename_i hw'
    rw[Adq hw'] at h
    exact h.imp (λh=>Oper.wp_mono ih h) (λh=>h)
   ·rename_i hw'
    rw[Adj hw'] at h
    exact ih _ _ h
theorem Wv {id:Nat} {ops:List Oper} {N:Nat} (hm:P.follows .mixedOrders=true) (hB:QY ops N=true) (hN:N≤ops.length) (I:(Nat→Bool)→Act→World→Prop)
  (hext:∀S S' a w,(∀j,j<N→S j=S' j)→I S a w→I S' a w) {a:Act} {w:World} (h0:I (λ_=>false) a { w with drawn:=w.drawn+1 })
  (step:∀S i o a w,i<N→S i=false→ops[i]? =some o→(∀e∈Gv o,e<i∧S e=true)→I S a w→∀K:Act→World→Prop,(∀a' w',I (λj=>j ==i||S j) a' w'→K a' w')→
   (Region.wanted o (yielded ops.toArray a.tmps)=true→o.wp P a w K Q)∧(Region.wanted o (yielded ops.toArray a.tmps)=false→K (a.put o.dst undef) w))
  (fin:∀a w,I (λ_=>true) a w→wpList P ops.toArray Q (ops.drop N) a w):(Code.region id ops.toArray true).wp P Q a w:=by
 simp only[QY,AcH,Adl,List.mem_range,AcC,Adi] at hB
 obtain⟨hlt,hch0⟩:=hB
 have hch:∀i,N≤i→i<ops.length→∀j,j<i→((Ph ops []).getD i 0).testBit j=true:=λi h1 h2 j hj=>by
  rcases hch0 i h2 with h3 | h3
  ·omega
  ·exact h3 j hj
 refine wp_region_any hm ?_
 have main:∀(fuel:Nat) (listed:Array Bool) (a:Act) (w:World),listed.size=ops.length→listed.toList.count false=fuel→I (λj=>listed.getD j true) a w→
   (∀j o,ops[j]? =some o→listed.getD j true=true→∀e∈Gv o,listed.getD e true=true)→(∀j,N≤j→j<ops.length→listed.getD j true=false)→wpAny P .any ops.toArray Q fuel listed a w:=by
  intro fuel
  have allin:∀(fuel:Nat) (listed:Array Bool) (a:Act) (w:World),listed.size=ops.length→listed.toList.count false=fuel→I (λj=>listed.getD j true) a w→
   (∀j o,ops[j]? =some o→listed.getD j true=true→∀e∈Gv o,listed.getD e true=true)→(∀j,N≤j→j<ops.length→listed.getD j true=false)→(∀j,j<N→listed.getD j true=true)→wpAny P .any ops.toArray Q fuel listed a w:=by
   intro fuel listed a w hsz hc hI hcl hlast hall
   have hl:∀j,j<ops.length→(listed.getD j true=true↔j<N):=λj hj=>by
    constructor
    ·intro h
     by_cases hjN:j<N
     ·exact hjN
     ·rw[hlast j (by omega) hj] at h;cases h
    ·exact hall j
   have:=SI hsz hN hl
   refine Na hlt hch fuel N listed a w (by omega) (Adf _) hsz hl hcl (fin a w (hext _ _ a w (λj hj=>hall j hj) hI))
  induction fuel with
  | zero=>
   intro listed a w hsz hc hI hcl hlast
   refine allin 0 listed a w hsz hc hI hcl hlast (λj hj=>?_)
   cases hb:listed.getD j true with
   | true=>rfl
   | false=>
    have:false∈listed.toList:=by
     rw[Array.getD_eq_getD_getElem?,Array.getElem?_eq_getElem (by omega)] at hb
     simp at hb;rw[← hb];simp
    have:=List.count_pos_iff.2 this
    omega
  | succ fuel ih=>
   intro listed a w hsz hc hI hcl hlast
   by_cases hall:∀j,j<N→listed.getD j true=true
   ·exact allin (fuel+1) listed a w hsz hc hI hcl hlast hall
   ·refine⟨λhr=>absurd (λj hj=>KP hsz hlt hr j (by omega)) hall,λi hi=>?_⟩
    obtain⟨h1,h2,o,ho,hb⟩:=La hsz hlt hi
    have hiN:i<N:=by
     by_cases h:i<N
     ·exact h
     ·refine absurd (λj hj=>?_) hall
      rcases Po ho hb hcl j (hch i (by omega) h2 j (by omega)) with h3 | h3
      ·omega
      ·exact h3
    have K':∀a' w',I (λj=>j ==i||listed.getD j true) a' w'→wpAny P .any ops.toArray Q fuel (listed.setIfInBounds i true) a' w':=λa' w' hI'=>by
     refine ih _ a' w' (by simpa using hsz) (UZ (by omega) h1 hc) (hext _ _ a' w' (λj hj=>?_) hI') (λj o' hj hlj e he=>?_) (λj h3 h4=>?_)
     ·have:=NH (listed:=listed) (i:=i) (j:=j) (by omega)
      cases hq:(listed.setIfInBounds i true).getD j true with
      | true=>
       rw[hq] at this
       rcases this.1 rfl with h | h
       ·simp[h]
       ·simp[h]
      | false=>
       rw[hq] at this
       have h5 : ¬ (j=i∨listed.getD j true=true):=λh=>by have:=this.2 h;cases this
       cases hz:listed.getD j true with
       | true=>exact absurd (.inr hz) h5
       | false=>
        have:j≠i:=λh=>h5 (.inl h)
        simp[this]
     ·rw[NH (by omega)] at hlj ⊢
      rcases hlj with rfl | hlj
      ·rw[ho] at hj;simp at hj;subst hj;exact .inr (hb e he)
      ·exact .inr (hcl j o' hj hlj e he)
     ·rw[getD_set_ne true (by omega)];exact hlast j h3 h4
    obtain⟨k1,k2⟩:=step _ i o a w hiN h1 ho (λe he=>⟨hlt i h2 e (by rw[AcP,ho];exact he),hb e he⟩) hI _ K'
    unfold wpOp
    have hoA:ops.toArray[i]? =some o:=by simpa using ho
    simp only[hoA]
    split
    ·rename_i hw';exact .inl (k1 hw')
    ·rename_i hw';exact k2 (by simpa using hw')
 have e0:∀j,j<ops.length→(Array.replicate ops.length false).getD j true=false:=λj hj=>by simp[hj]
 have hsz0:ops.toArray.size=ops.length:=by simp
 rw[hsz0]
 refine main ops.length (Array.replicate ops.length false) a _ (by simp) (by simp) (hext _ _ _ _ (λj hj=>(e0 j (by omega)).symm) h0) (λj o hj hl=>?_) (λj _ h2=>e0 j h2)
 rw[e0 j (List.getElem?_eq_some_iff.1 hj).1] at hl;cases hl
end
structure Sa where
 deps:List Nat
 r:Rp
 al:Option (List Rp×TypeId):=none
 late:Option (Nat×List Rp):=none
 sto:Option Nat:=none
def Hh (sp:List Sa) (i:Nat):Sa:=sp.getD i { deps:=[],r:=rv undef }
def Zu (sp:List Sa):List Sp:=sp.map λs=>⟨s.deps,s.r,0⟩
def M3 (β:Nat→Nat) (s:Sa) (i:Nat):Rp:=match s.al with
 | none=>s.r
 | some _=>rv (.pointer (some ⟨β i,0,none⟩))
def MP (S:Nat→Bool) (late:Option (Nat×List Rp)) (cs:List Rp):List Rp:=match late with
 | none=>cs
 | some q=>if S q.1 then q.2 else cs
def H4 (S:Nat→Bool) (β:Nat→Nat):List Sa→Nat→List Ent
 | [],_=>[]
 | s::r,t=>match s.al with
  | some p=>if S t then .blk (β t) (MP S s.late p.1) p.2::H4 S β r (t+1) else H4 S β r (t+1)
  | none=>H4 S β r (t+1)
def VV (β:Nat→Nat):List Sa→Nat→List Ent
 | [],_=>[]
 | s::r,t=>match s.al with
  | some p=>.blk (β t) (match s.late with | none=>p.1 | some q=>q.2) p.2::VV β r (t+1)
  | none=>VV β r (t+1)
def N0 (β:Nat→Nat):List Oper→List Sa→Nat→Fr→Fr
 | o::os,s::sp,i,l=>match o.dst with
  | some d=>(d,M3 β s i)::N0 β os sp (i+1) l
  | none=>N0 β os sp (i+1) l
 | _,_,_,l=>l
theorem Lr {S S':Nat→Bool} {late:Option (Nat×List Rp)} {cs:List Rp} (h:∀q,late=some q→S q.1=S' q.1):MP S late cs=MP S' late cs:=by
 unfold MP
 cases late with
 | none=>rfl
 | some q=>simp only[];rw[h q rfl]
theorem Gt (S:Nat→Bool) (β:Nat→Nat) (s:Sa) (r:List Sa) (t:Nat):H4 S β (s::r) t=match s.al with
  | some p=>if S t then .blk (β t) (MP S s.late p.1) p.2::H4 S β r (t+1) else H4 S β r (t+1)
  | none=>H4 S β r (t+1):=rfl
theorem Ia {S S':Nat→Bool} {β β':Nat→Nat}:∀(r:List Sa) (t0:Nat),(∀(t:Nat) (s:Sa),r[t]? =some s→s.al≠none→S (t0+t)=S' (t0+t)∧(S (t0+t)=true→β (t0+t)=β' (t0+t)∧∀q,s.late=some q→S q.1=S' q.1))→H4 S β r t0=H4 S' β' r t0
 | [],_,_=>rfl
 | s::r,t0,h=>by
  have ih:=Ia r (t0+1) (λt s hs hn=>by
   have:=h (t+1) s (by simpa using hs) hn
   rw[show t0+1+t=t0+(t+1) from by omega];exact this)
  unfold H4
  rw[ih]
  cases ha:s.al with
  | none=>rfl
  | some p=>
   obtain⟨h1,h2⟩:=h 0 s rfl (by rw[ha];exact nofun)
   simp only[Nat.add_zero] at h1 h2
   simp only[]
   rw[← h1]
   split
   ·rename_i hS;rw[(h2 hS).1,Lr (h2 hS).2]
   ·rfl
theorem SD (β:Nat→Nat):∀(r:List Sa) (t0:Nat),H4 (λ_=>true) β r t0=VV β r t0
 | [],_=>rfl
 | s::r,t0=>by
  unfold H4 VV
  rw[SD β r (t0+1)]
  cases s.al with
  | none=>rfl
  | some p=>cases hl:s.late<;>simp[MP,hl]
theorem Ql (β:Nat→Nat):∀(r:List Sa) (t0:Nat),H4 (λ_=>false) β r t0=[]
 | [],_=>rfl
 | s::r,t0=>by
  unfold H4
  rw[Ql β r (t0+1)]
  cases s.al<;>simp
theorem SC {S:Nat→Bool} {β:Nat→Nat} {i b:Nat} {p:List Rp×TypeId}:∀(r:List Sa) (t0 k:Nat) (s:Sa),i=t0+k→r[k]? =some s→s.al=some p→S i=false→(∀(t:Nat) (s:Sa) (q:Nat×List Rp),r[t]? =some s→s.al≠none→s.late=some q→q.1≠i)→(∀q,s.late=some q→S q.1=false∧q.1≠i)→
  (H4 (λj=>j ==i||S j) (λj=>if j=i then b else β j) r t0).Perm (.blk b p.1 p.2::H4 S β r t0)
 | [],_,_,_,_,h,_,_,_,_=>by simp at h
 | s'::r,t0,0,s,hi,h,ha,hS,hne,hl=>by
  simp at h hi;subst h;subst hi
  have e:=Ia (S:=λj=>j ==i||S j) (S':=S) (β:=λj=>if j=i then b else β j) (β':=β) r (i+1) (λt s hs hn=>by
   have:i+1+t≠i:=by omega
   refine⟨by simp[this],λ_=>⟨by simp[this],λq hq=>?_⟩⟩
   have:=hne (t+1) s q (by simpa using hs) hn hq
   simp[this])
  have ec:MP (λj=>j ==i||S j) s'.late p.1=p.1:=by
   unfold MP
   cases hq:s'.late with
   | none=>rfl
   | some q=>
    obtain⟨h1,h2⟩:=hl q hq
    simp[h1,h2]
  unfold H4
  rw[e,ha]
  simp only[hS,BEq.rfl,Adc,if_true,ec]
  simp
 | s'::r,t0,k+1,s,hi,h,ha,hS,hne,hl=>by
  have ih:=SC (S:=S) (β:=β) (i:=i) (b:=b) (p:=p) r (t0+1) k s (by omega) (by simpa using h) ha hS (λt s q hs=>hne (t+1) s q (by simpa using hs)) hl
  have hne0:t0≠i:=by omega
  have hne':(t0 ==i)=false:=by simpa using hne0
  unfold H4
  cases ha':s'.al with
  | none=>exact ih
  | some q=>
   simp only[hne',AcQ,Adj hne0]
   rw[Lr (S:=λj=>j ==i||S j) (S':=S) (λq hq=>by
    have:=hne 0 s' q rfl (by rw[ha'];exact nofun) hq
    simp[this])]
   cases hS':S t0 with
   | true=>simpa using(List.Perm.cons _ ih).trans (List.Perm.swap _ _ _)
   | false=>simpa using ih
theorem SB {S:Nat→Bool} {β:Nat→Nat} {i j:Nat} {p:List Rp×TypeId} {ncs:List Rp}:∀(r:List Sa) (t0 k:Nat) (s:Sa),j=t0+k→r[k]? =some s→s.al=some p→s.late=some (i,ncs)→S j=true→S i=false→(∀(t:Nat) (s:Sa) (q:Nat×List Rp),r[t]? =some s→s.al≠none→s.late=some q→t0+t≠j→q.1≠i)→(∀(t:Nat) (s:Sa),r[t]? =some s→s.al≠none→t0+t≠i)→
  ∃H',(H4 S β r t0).Perm (.blk (β j) p.1 p.2::H')∧(H4 (λj=>j ==i||S j) β r t0).Perm (.blk (β j) ncs p.2::H')
 | [],_,_,_,_,h,_,_,_,_,_,_=>by simp at h
 | s'::r,t0,0,s,hj,h,ha,hl,hSj,hSi,hne,hni=>by
  simp at h hj;subst h;subst hj
  have e:=Ia (S:=λx=>x ==i||S x) (S':=S) (β:=β) (β':=β) r (j+1) (λt s hs hn=>by
   have h1:=hni (t+1) s (by simpa using hs) hn
   have h1':j+1+t≠i:=by omega
   refine⟨by simp[h1'],λ_=>⟨rfl,λq hq=>?_⟩⟩
   have:=hne (t+1) s q (by simpa using hs) hn hq (by omega)
   simp[this])
  refine⟨H4 S β r (j+1),?_,?_⟩
  ·rw[Gt]
   rw[ha]
   simp[hSj,MP,hl,hSi]
  ·rw[Gt]
   rw[ha,e]
   simp[hSj,MP,hl]
 | s'::r,t0,k+1,s,hj,h,ha,hl,hSj,hSi,hne,hni=>by
  obtain⟨H',h1,h2⟩:=SB (S:=S) (β:=β) (i:=i) (j:=j) (p:=p) (ncs:=ncs) r (t0+1) k s (by omega) (by simpa using h) ha hl hSj hSi (λt s q hs hn hq hx=>hne (t+1) s q (by simpa using hs) hn hq (by omega)) (λt s hs hn=>by
   have:=hni (t+1) s (by simpa using hs) hn;omega)
  cases ha':s'.al with
  | none=>exact⟨H',by rw[Gt,ha'];exact h1,by rw[Gt,ha'];exact h2⟩
  | some q=>
   have hi0:=hni 0 s' rfl (by rw[ha'];exact nofun)
   have hi0':(t0 ==i)=false:=by simpa using hi0
   have ec:MP (λx=>x ==i||S x) s'.late q.1=MP S s'.late q.1:=Lr (λq hq=>by
    have:=hne 0 s' q rfl (by rw[ha'];exact nofun) hq (by omega)
    simp[this])
   cases hS':S t0 with
   | true=>
    refine⟨.blk (β t0) (MP S s'.late q.1) q.2::H',?_,?_⟩
    ·rw[Gt]
     rw[ha'];simpa[hS'] using(List.Perm.cons _ h1).trans (List.Perm.swap _ _ _)
    ·rw[Gt]
     rw[ha']
     simp only[hi0',AcQ,hS',if_true,ec]
     exact(List.Perm.cons _ h2).trans (List.Perm.swap _ _ _)
   | false=>
    refine⟨H',?_,?_⟩
    ·rw[Gt]
     rw[ha'];simpa[hS'] using h1
    ·rw[Gt]
     rw[ha']
     simp only[hi0',AcQ,hS']
     simpa using h2
def okA (n:Nat) (ops:List Oper) (N:Nat) (keys:List Nat) (deps:List (List Nat)) (als:List Bool) (lates stos:List (Option Nat)):Bool:=
 QY ops N&&decide (N≤ops.length)&&
 (List.range N).all (λi=>match CT ops i with
  | some d=>decide (d<n)&&!keys.contains d&&(List.range N).all (λj=>j ==i||CT ops j !=some d)
  | none=>true)&&
 (List.range N).all (λi=>(deps.getD i []).all (λj=>decide (j<N)&&(Gv (ops.getD i default)).contains j&&!als.getD j true))&&
 (List.range N).all (λi=>match stos.getD i none with
  | some j=>decide (j<N)&&(Gv (ops.getD i default)).contains j&&als.getD j false&&!als.getD i true
  | none=>true)&&
 (List.range N).all (λj=>match lates.getD j none with
  | some k=>decide (k<N)&&als.getD j false&&stos.getD k none ==some j
  | none=>true)
def Ab0 (P:Program) (n:Nat) (c:Cx) (opsA:Array Oper) (Q:Exit→Act→World→Prop) (o:Oper) (p:List Rp×TypeId):Prop:=
 ∀H a w Z (K:Act→World→Prop),St c H Z w→(∀b w',St c (.blk b p.1 p.2::H) Z w'→K (a.put o.dst (.pointer (some ⟨b,0,none⟩))) w')→
  Region.wanted o (yielded opsA a.tmps)=true∧o.wp P a w K Q
def ObA (P:Program) (n:Nat) (c:Cx) (opsA:Array Oper) (Q:Exit→Act→World→Prop) (ops:List Oper) (sp:List Sa) (l0:Fr) (H:List Ent) (i:Nat) (o:Oper):Prop:=
 match (Hh sp i).sto with
 | some j=>o.dst=none∧∃d p ncs,CT ops j=some d∧(Hh sp j).al=some p∧(Hh sp j).late=some (i,ncs)∧
   ∀b H,GZ P n c opsA Q ((d,rv (.pointer (some ⟨b,0,none⟩)))::Ct ops (Zu sp) (Hh sp i).deps l0) (.blk b p.1 p.2::H) o (rv undef) (.blk b ncs p.2::H)
 | none=>match (Hh sp i).al with
  | none=>∀E,GZ P n c opsA Q (Ct ops (Zu sp) (Hh sp i).deps l0) (H++E) o (Hh sp i).r (H++E)
  | some p=>Ab0 P n c opsA Q o p
def Lt (P:Program) (n:Nat) (c:Cx) (opsA:Array Oper) (Q:Exit→Act→World→Prop) (ops:List Oper) (sp:List Sa) (l0:Fr) (H:List Ent):Nat→List Oper→Prop
 | i,o::rest=>ObA P n c opsA Q ops sp l0 H i o∧Lt P n c opsA Q ops sp l0 H (i+1) rest
 | _,[]=>True
section
variable {P : Program} {n : Nat} {c : Cx} {opsA : Array Oper} {Q : Exit → Act → World → Prop} {l l0 : Fr} {H : List Ent} {sp : List Sa}
theorem Lt.at {ops:List Oper}:∀{k:Nat} {rest:List Oper},Lt P n c opsA Q ops sp l0 H k rest→∀(t:Nat) o,rest[t]? =some o→ObA P n c opsA Q ops sp l0 H (k+t) o
 | k,o::rest,⟨h1,h2⟩,t,o',ht=>by
  cases t with
  | zero=>simp at ht;subst ht;exact h1
  | succ t=>
   have:=Lt.at h2 t o' (by simpa using ht)
   rw[show k+(t+1)=k+1+t from by omega]
   exact this
 | _,[],_,t,o,h=>by simp at h
theorem Re {β:Nat→Nat} {a:Act} {Z:Fz} (h0:Dx n l0 a Z):∀(os:List Oper) (ss:List Sa) (k:Nat),(∀(t:Nat) o s d,os[t]? =some o→ss[t]? =some s→o.dst=some d→∃v,a.tmps[d]? =some v∧(M3 β s (k+t)).p Z v)→Dx n (N0 β os ss k l0) a Z
 | [],_,_,_=>by unfold N0;exact h0
 | _::_,[],_,_=>by unfold N0;exact h0
 | o::os,s::ss,k,h=>by
  have ih:=Re h0 os ss (k+1) (λt o' s' d h1 h2 h3=>by
   have:=h (t+1) o' s' d (by simpa using h1) (by simpa using h2) h3
   rw[show k+1+t=k+(t+1) from by omega];exact this)
  unfold N0
  cases hd:o.dst with
  | none=>exact ih
  | some d=>
   refine⟨ih.size,ih.defers,λi r hi=>?_⟩
   rw[CA] at hi
   split at hi
   ·rename_i e;subst e;simp at hi;subst hi;exact h 0 o s d rfl rfl hd
   ·exact ih.tm i r hi
theorem Aa6 {id:Nat} {ops:List Oper} (N:Nat) (sp:List Sa) (hm:P.follows .mixedOrders=true) (hB:okA n ops N (G2 l0) (sp.map (·.deps)) (sp.map (·.al.isSome)) (sp.map (·.late.map (·.1))) (sp.map (·.sto))=true) (hl0:We l0 l) (hsp:sp.length=N)
  (hob:Lt P n c ops.toArray Q ops sp l0 H 0 (ops.take N)) (h:∀β,WL P n c ops.toArray Q (ops.drop N) (N0 β (ops.take N) sp 0 l0) (H++VV β sp 0)):WC P n c (.region id ops.toArray true) Q l H:=by
 intro a w Z ha hw
 simp only[okA,AcH,Adl,List.mem_range,AcC] at hB
 obtain⟨⟨⟨⟨⟨b1,bN⟩,b2⟩,b3⟩,b4⟩,b5⟩:=hB
 have hget:∀i,i<N→(ops.take N)[i]? =ops[i]?:=λi hi=>by rw[List.getElem?_take,Adq hi]
 have hsa:∀i,i<N→sp[i]? =some (Hh sp i):=λi hi=>by
  simp[Hh,AcP,List.getElem?_eq_getElem (show i<sp.length by omega)]
 have hspq:∀i,i<N→(E6 (Zu sp) i)=⟨(Hh sp i).deps,(Hh sp i).r,0⟩:=λi hi=>by
  simp[E6,Zu,AcP,List.getElem?_map,hsa i hi]
 have hals:∀j b,j<N→(sp.map (·.al.isSome)).getD j b=(Hh sp j).al.isSome:=λj b hj=>by simp[AcP,List.getElem?_map,hsa j hj]
 have hstos:∀j,j<N→(sp.map (·.sto)).getD j none=(Hh sp j).sto:=λj hj=>by simp[AcP,List.getElem?_map,hsa j hj]
 have hlates:∀j,j<N→(sp.map (·.late.map (·.1))).getD j none=(Hh sp j).late.map (·.1):=λj hj=>by simp[AcP,List.getElem?_map,hsa j hj]
 have S1:∀i o j,i<N→ops[i]? =some o→(Hh sp i).sto=some j→j<N∧j∈Gv o∧(Hh sp j).al≠none∧(Hh sp i).al=none:=λi o j hi ho hs=>by
  have h1:=b4 i hi
  rw[hstos i hi,hs] at h1
  simp only[AcH,AcS,AcC] at h1
  obtain⟨⟨⟨h2,h3⟩,h4⟩,h5⟩:=h1
  rw[hals j _ h2] at h4
  rw[hals i _ hi] at h5
  rw[AcP,ho,Option.getD_some,List.contains_iff_mem] at h3
  exact⟨h2,h3,λe=>(by rw[e] at h4;cases h4),(by simpa using h5)⟩
 have L1:∀t q,t<N→(Hh sp t).late=some q→q.1<N∧(Hh sp q.1).sto=some t:=λt q ht hq=>by
  have h1:=b5 t ht
  rw[hlates t ht,hq] at h1
  simp only[Option.map_some,AcH,AcC,beq_iff_eq] at h1
  obtain⟨⟨h2,h3⟩,h4⟩:=h1
  rw[hstos _ h2] at h4
  exact⟨h2,h4⟩
 have hops:∀j,j<N→∃o,ops[j]? =some o:=λj hj=>⟨ops[j]'(by omega),List.getElem?_eq_getElem (by omega)⟩
 have lt_of:∀(t:Nat) (s:Sa),sp[t]? =some s→t<N∧s=Hh sp t:=λt s hs=>by
  have h1:t<N:=by have:=(List.getElem?_eq_some_iff.1 hs).1;omega
  refine⟨h1,?_⟩
  rw[hsa t h1] at hs;simpa using hs.symm
 have hdst:∀i o d,i<N→ops[i]? =some o→o.dst=some d→(d<n∧d ∉ G2 l0)∧∀j,j<N→j≠i→CT ops j≠some d:=λi o d hi ho hd=>by
  have h3:=b2 i hi
  have:CT ops i=some d:=by simp[CT,ho,hd]
  rw[this] at h3
  simp only[AcH,AcS,Adl,List.mem_range,AcC] at h3
  refine⟨⟨h3.1.1,λhmem=>by rw[← List.contains_iff_mem] at hmem;rw[hmem] at h3;cases h3.1.2⟩,λj hj hne he=>?_⟩
  have:=h3.2 j hj
  simp[hne,he] at this
 refine Wv (N:=N) hm b1 bN (λS a w=>∃ (β:Nat→Nat) (Z:Fz),St c (H++H4 S β sp 0) Z w∧Dx n l0 a Z∧(∀j o d,j<N→S j=true→ops[j]? =some o→o.dst=some d→∃v,a.tmps[d]? =some v∧(M3 β (Hh sp j) j).p Z v)∧
   ∀k j,k<N→(Hh sp k).sto=some j→S k=true→S j=true)
  (λS S' a w hS hI=>?_) ⟨λ_=>0,Z,?_,ha.subL hl0,λj o d _ hS=>(by cases hS),λk j _ _ hS=>(by cases hS)⟩ (λS i o a w hi hun ho hb hI K hK=>?_) (λa w hI=>?_)
 ·obtain⟨β,Z,h1,h2,h3,h4⟩:=hI
  refine⟨β,Z,?_,h2,λj o d hj hS'=>h3 j o d hj (by rw[hS j hj];exact hS'),λk j hk hs hSk=>?_⟩
  ·rw[← Ia (S:=S) (β:=β) (β':=β) sp 0 (λt s hs _=>by
    obtain⟨ht,rfl⟩:=lt_of t s hs
    exact⟨hS _ (by omega),λ_=>⟨rfl,λq hq=>hS _ (L1 t q ht hq).1⟩⟩)]
   exact h1
  ·obtain⟨o,ho⟩:=hops k hk
   rw[← hS j (S1 k o j hk ho hs).1]
   exact h4 k j hk hs (by rw[hS k hk];exact hSk)
 ·rw[Ql,Adg];exact hw.drawn _
 ·obtain⟨β,Z,h1,h2,h3,hx⟩:=hI
  have hput:∀k u v,a.tmps[k]? =some u→o.dst≠some k→(a.put o.dst v).tmps[k]? =some u:=λk u v hk hne=>by
   cases hd:o.dst with
   | none=>simpa[Act.put] using hk
   | some d=>
    simp only[Act.put,Array.getElem?_setIfInBounds]
    rw[Adj (λe=>hne (by rw[hd,e]))];exact hk
  have hagr:∀v Z',Fz.le Z Z'→Dx n l0 (a.put o.dst v) Z':=λv Z' hz=>by
   refine⟨?_,?_,λk r hk=>?_⟩
   ·cases o.dst<;>simp[Act.put,h2.size]
   ·cases o.dst<;>simp[Act.put,h2.defers]
   ·obtain⟨u,hu,hpu⟩:=h2.tm k r hk
    exact⟨u,hput k u v hu (λe=>((hdst i o k hi ho e).1).2 (LY hk)),r.mono hz hpu⟩
  have hvals:∀(v:Value) (Z':Fz) (β':Nat→Nat),Fz.le Z Z'→(∀j,j≠i→β' j=β j)→(o.dst≠none→(M3 β' (Hh sp i) i).p Z' v)→∀j o' d,j<N→(j ==i||S j)=true→ops[j]? =some o'→o'.dst=some d→∃u,(a.put o.dst v).tmps[d]? =some u∧(M3 β' (Hh sp j) j).p Z' u:=by
   intro v Z' β' hz hβ hp j o' d hj hS' ho' hd
   by_cases hji:j=i
   ·subst hji
    rw[ho] at ho';simp at ho';subst ho'
    refine⟨v,?_,hp (by simp[hd])⟩
    have hdn:d<a.tmps.size:=by rw[h2.size];exact(hdst j o d hi ho hd).1.1
    simp[Act.put,hd,hdn]
   ·have hSj:S j=true:=by simpa[hji] using hS'
    obtain⟨u,hu,hpu⟩:=h3 j o' d hj hSj ho' hd
    refine⟨u,hput d u v hu (λe=>(hdst i o d hi ho e).2 j hj hji (by simp[CT,ho',hd])),?_⟩
    have:M3 β' (Hh sp j) j=M3 β (Hh sp j) j:=by unfold M3;rw[hβ j hji]
    rw[this];exact(M3 β (Hh sp j) j).mono hz hpu
  have hx':∀k j,k<N→(Hh sp k).sto=some j→(k ==i||S k)=true→(j ==i||S j)=true:=λk j hk hs hSk=>by
   by_cases hki:k=i
   ·subst hki
    have:=(hb j (S1 k o j hk ho hs).2.1).2
    simp[this]
   ·have:S j=true:=hx k j hk hs (by simpa[hki] using hSk)
    simp[this]
  have hat:=hob.at i o (by rw[hget i hi];exact ho)
  rw[Nat.zero_add] at hat
  unfold ObA at hat
  have hag':Dx n (Ct ops (Zu sp) (Hh sp i).deps l0) a Z:=Mt h2 (λj hj d hd=>by
    have h4:=b3 i hi j (by simpa[AcP,List.getElem?_map,hsa i hi] using hj)
    simp only[AcH,AcS,AcC] at h4
    obtain⟨⟨h5,h6⟩,h7⟩:=h4
    rw[AcP,ho,Option.getD_some,List.contains_iff_mem] at h6
    have hjal:(Hh sp j).al=none:=by
     rw[hals j _ h5] at h7
     simpa using h7
    obtain⟨o2,ho2⟩:=hops j h5
    obtain⟨v,hv1,hv2⟩:=h3 j o2 d h5 (hb j h6).2 ho2 (by simpa[CT,ho2] using hd)
    refine⟨v,hv1,?_⟩
    rw[hspq j h5]
    simpa[M3,hjal] using hv2)
  cases hst:(Hh sp i).sto with
  | some j=>
   rw[hst] at hat
   obtain⟨hod,d,p,ncs,hd,hal,hlate,hok⟩:=hat
   obtain⟨hjN,hjb,_,hial⟩:=S1 i o j hi ho hst
   have hSj:=(hb j hjb).2
   obtain⟨H',p1,p2⟩:=SB (S:=S) (β:=β) (i:=i) (j:=j) (p:=p) (ncs:=ncs) sp 0 j (Hh sp j) (by omega) (hsa j hjN) hal hlate hSj hun (λt s q hs _ hq hne he=>by
     obtain⟨ht,rfl⟩:=lt_of t s hs
     have:=(L1 t q ht hq).2
     rw[he,hst] at this
     simp at this;omega) (λt s hs hn he=>by
     obtain⟨ht,rfl⟩:=lt_of t s hs
     rw[Nat.zero_add] at he;subst he
     exact hn hial)
   obtain⟨o2,ho2⟩:=hops j hjN
   obtain⟨v,hv1,hv2⟩:=h3 j o2 d hjN hSj ho2 (by simpa[CT,ho2] using hd)
   have hag2:Dx n ((d,rv (.pointer (some ⟨β j,0,none⟩)))::Ct ops (Zu sp) (Hh sp i).deps l0) a Z:=⟨hag'.size,hag'.defers,λk r hk=>by
    rw[CA] at hk
    split at hk
    ·rename_i e;subst e;simp at hk;subst hk
     exact⟨v,hv1,by simpa[M3,hal] using hv2⟩
    ·exact hag'.tm k r hk⟩
   refine hok (β j) (H++H') a w Z K hag2 (h1.perm ((List.Perm.append_left H p1).trans List.perm_middle)) (λv w' Z' hz _ hs'=>hK _ _ ⟨β,Z',?_,hagr v Z' hz,hvals v Z' β hz (λ_ _=>rfl) (λhne=>absurd hod hne),hx'⟩)
   exact hs'.perm (List.perm_middle.symm.trans (List.Perm.append_left H p2.symm))
  | none=>
   rw[hst] at hat
   have latene:∀t q,t<N→(Hh sp t).late=some q→q.1≠i:=λt q ht hq he=>by
    have:=(L1 t q ht hq).2
    rw[he,hst] at this;cases this
   cases hal:(Hh sp i).al with
   | none=>
    rw[hal] at hat
    refine hat _ a w Z K hag' h1 (λv w' Z' hz hp hst'=>hK _ _ ⟨β,Z',?_,hagr v Z' hz,hvals v Z' β hz (λ_ _=>rfl) (λ_=>by unfold M3;rw[hal];exact hp),hx'⟩)
    rw[Ia (S':=S) (β':=β) sp 0 (λt s hs hn=>by
     obtain⟨ht,rfl⟩:=lt_of t s hs
     have:t≠i:=λe=>by subst e;exact hn hal
     refine⟨by simp[this],λ_=>⟨rfl,λq hq=>?_⟩⟩
     have:=latene t q ht hq
     simp[this])]
    exact hst'
   | some p=>
    rw[hal] at hat
    have key:=λK' hK'=>hat (H++H4 S β sp 0) a w Z K' h1 hK'
    have h5:∀b w',St c (.blk b p.1 p.2::(H++H4 S β sp 0)) Z w'→K (a.put o.dst (.pointer (some ⟨b,0,none⟩))) w':=λb w' hst'=>by
     refine hK _ _ ⟨λj=>if j=i then b else β j,Z,?_,hagr _ Z (Fz.le.refl _),hvals _ Z _ (Fz.le.refl _) (λj hj=>by simp[hj]) (λ_=>by simp[M3,hal,rv]),hx'⟩
     have hp:=SC (S:=S) (β:=β) (i:=i) (b:=b) (p:=p) sp 0 i (Hh sp i) (by omega) (hsa i hi) hal hun (λt s q hs _ hq=>by
      obtain⟨ht,rfl⟩:=lt_of t s hs
      exact latene t q ht hq) (λq hq=>by
       refine⟨?_,latene i q hi hq⟩
       cases hS:S q.1 with
       | false=>rfl
       | true=>
        obtain⟨h6,h7⟩:=L1 i q hi hq
        have:=hx q.1 i h6 h7 hS
        rw[this] at hun;cases hun)
     exact hst'.perm ((List.perm_middle.symm).trans (List.Perm.append_left H hp.symm))
    refine⟨λ_=>(key K h5).2,λhw'=>?_⟩
    rw[(key K h5).1] at hw';cases hw'
 ·obtain⟨β,Z,h1,h2,h3,_⟩:=hI
  refine h β a w Z (Re h2 _ _ 0 (λt o s d ht hs hd=>?_)) (by rw[← SD];exact h1)
  obtain⟨htN,rfl⟩:=lt_of t s hs
  rw[Nat.zero_add]
  exact h3 t o d htN rfl (by rw[← hget t htN];exact ht) hd
end
theorem Aax {P:Program} {n:Nat} {c:Cx} {opsA:Array Oper} {Q:Exit→Act→World→Prop} {d:Nat} {e:TypeId} {ty:TypeId} {pos:String} {af:Array Edge} {z:Value} {cs:List Rp} (hz:∀w,(zeroValue e).run P w = .ok z w) (hcs:z.cells.toList.map rv=cs) :
  Ab0 P n c opsA Q { dst:=some d,op:=.alloc e,type:=ty,pos:=pos,after:=af,guard:=none } (cs,e):=λH a w Z K hw hK=>by
 refine⟨by simp[Region.wanted],?_⟩
 unfold Oper.wp
 rw[show(execOp a.eval { dst:=some d,op:=.alloc e,type:=ty,pos:=pos,after:=af,guard:=none }).run P w = .ok (.value (.pointer (some ⟨w.heap.size,0,none⟩))) (w.alloc (.cells z.cells e)) from by simp[execOp,Instr.alloc,hz,newVar,newRow,newObj,Sem.run,Sem.run_bind]]
 exact hK _ _ (hw.alloc _ (e:=.blk w.heap.size cs e) ⟨z.cells.toList,by simpa using heap_alloc_new w _,by subst hcs;exact Bz.rvs Z _⟩ rfl)
section
variable {P : Program} {n : Nat} {c : Cx} {opsA : Array Oper} {Q : Exit → Act → World → Prop} {l l0 : Fr} {H : List Ent} {sp : List Sa}
theorem Gw {id:Nat} {ops:List Oper} (N:Nat) (ks0:List Nat) (sp:List Sa) (hob:Lt P n c ops.toArray Q ops sp l0 H 0 (ops.take N)) (h:∀β,WL P n c ops.toArray Q (ops.drop N) (N0 β (ops.take N) sp 0 l0) (H++VV β sp 0))
  (h0:Kp ks0 l l0:=by repeat (first | exact P0 | (apply MG;rfl) | (apply N6;rfl))) (hm:P.follows .mixedOrders=true:=by kernel_rfl) (hB:okA n ops N (G2 l0) (sp.map (·.deps)) (sp.map (·.al.isSome)) (sp.map (·.late.map (·.1))) (sp.map (·.sto))=true:=by kernel_rfl)
  (hsp:sp.length=N:=by rfl):WC P n c (.region id ops.toArray true) Q l H:=Aa6 N sp hm hB h0.one hsp hob h
theorem DB {all rest:List Oper} {d:Nat} {op:Op} {ty:TypeId} {pos:String} {af:Array Edge} {i:Nat}
  (hr:∀{H},Bq P n c (Ct all (Zu sp) (Hh sp i).deps l0) H { dst:=some d,op:=op,type:=ty,pos:=pos,after:=af,guard:=none } (Hh sp i).r) (h:Lt P n c opsA Q all sp l0 H (i+1) rest) (ha:(Hh sp i).al=none:=by rfl) (hs:(Hh sp i).sto=none:=by rfl) :
  Lt P n c opsA Q all sp l0 H i ({ dst:=some d,op:=op,type:=ty,pos:=pos,after:=af,guard:=none }::rest):=by
 refine⟨?_,h⟩
 unfold ObA;rw[hs,ha];exact λ_=>Xr hr
theorem Xx {all rest:List Oper} {d:Nat} {op:Op} {ty:TypeId} {pos:String} {af:Array Edge} {i:Nat}
  (hr:∀{E},Bq P n c (Ct all (Zu sp) (Hh sp i).deps l0) (H++E) { dst:=some d,op:=op,type:=ty,pos:=pos,after:=af,guard:=none } (Hh sp i).r) (h:Lt P n c opsA Q all sp l0 H (i+1) rest) (ha:(Hh sp i).al=none:=by rfl) (hs:(Hh sp i).sto=none:=by rfl) :
  Lt P n c opsA Q all sp l0 H i ({ dst:=some d,op:=op,type:=ty,pos:=pos,after:=af,guard:=none }::rest):=by
 refine⟨?_,h⟩
 unfold ObA;rw[hs,ha];exact λ_=>Xr hr
theorem oal {all rest:List Oper} {o:Oper} {p:List Rp×TypeId} {i:Nat} (hr:Ab0 P n c opsA Q o p) (h:Lt P n c opsA Q all sp l0 H (i+1) rest) (ha:(Hh sp i).al=some p:=by rfl) (hs:(Hh sp i).sto=none:=by rfl):Lt P n c opsA Q all sp l0 H i (o::rest):=by
 refine⟨?_,h⟩
 unfold ObA;rw[hs,ha];exact hr
theorem Xy {all:List Oper} {i:Nat}:Lt P n c opsA Q all sp l0 H i []:=trivial
end
structure YT (ks:List Nat) (β:Nat→Nat) (os:List Oper) (sp:List Sa) (i:Nat) (l0 l1:Fr):Prop where
 go:Kp ks (N0 β os sp i l0) l1
section
variable {ks : List Nat} {β : Nat → Nat} {os : List Oper} {sp : List Sa} {i d : Nat} {l0 l1 : Fr} {ds : List Nat} {r : Rp} {p : List Rp × TypeId} {lt : Option (Nat × List Rp)} {so : Option Nat} {op : Op} {ty : TypeId} {pos : String} {af : Array Edge} {g : Option (Nat × Bool)}
theorem AbK (h:ks.contains d=true) (t:YT ks β os sp (i+1) l0 l1):YT ks β ({ dst:=some d,op:=op,type:=ty,pos:=pos,after:=af,guard:=g }::os) ({ deps:=ds,r:=r,sto:=so }::sp) i l0 ((d,r)::l1):=⟨MG h t.go⟩
theorem AbN (h:ks.contains d=true) (t:YT ks β os sp (i+1) l0 l1):YT ks β ({ dst:=some d,op:=op,type:=ty,pos:=pos,after:=af,guard:=g }::os) ({ deps:=ds,r:=r,al:=some p,late:=lt,sto:=so }::sp) i l0 ((d,rv (.pointer (some ⟨β i,0,none⟩)))::l1):=⟨MG h t.go⟩
theorem AbM {s:Sa} (h:ks.contains d=false) (t:YT ks β os sp (i+1) l0 l1):YT ks β ({ dst:=some d,op:=op,type:=ty,pos:=pos,after:=af,guard:=g }::os) (s::sp) i l0 l1:=⟨N6 h t.go⟩
theorem AbL {s:Sa} (t:YT ks β os sp (i+1) l0 l1):YT ks β ({ dst:=none,op:=op,type:=ty,pos:=pos,after:=af,guard:=g }::os) (s::sp) i l0 l1:=⟨t.go⟩
theorem AbO (t:Kp ks l0 l1):YT ks β [] [] i l0 l1:=⟨t⟩
theorem Ha {P:Program} {n:Nat} {c:Cx} {opsA:Array Oper} {Q:Exit→Act→World→Prop} {rest:List Oper} {H H1:List Ent} (ks:List Nat) (h:WL P n c opsA Q rest l1 H1)
  (hz:YT ks β os sp i l0 l1:=by repeat (first | (apply AbK;rfl) | (apply AbN;rfl) | (apply AbM;rfl) | apply AbL | apply AbO | exact P0 | (apply MG;rfl) | (apply N6;rfl))) (hH:H=H1:=by rfl) :
  WL P n c opsA Q rest (N0 β os sp i l0) H:=λa w Z ha hw=>h a w Z (ha.subL hz.go.one) (hH▸hw)
end
section
variable {P : Program} {n : Nat} {c : Cx} {opsA : Array Oper} {Q : Exit → Act → World → Prop} {l l0 : Fr} {H : List Ent} {sp : List Sa}
theorem oac {all rest:List Oper} {o:Oper} {i:Nat} (hr:∀{E},GZ P n c opsA Q (Ct all (Zu sp) (Hh sp i).deps l0) (H++E) o (Hh sp i).r (H++E)) (h:Lt P n c opsA Q all sp l0 H (i+1) rest) (ha:(Hh sp i).al=none:=by rfl) (hs:(Hh sp i).sto=none:=by rfl):Lt P n c opsA Q all sp l0 H i (o::rest):=by
 refine⟨?_,h⟩
 unfold ObA;rw[hs,ha];exact λ_=>hr
end
theorem Gs (s:ByteArray):MapKept.IsKey .string (.string s):=by simp[MapKept.IsKey]
theorem KR.keys {Z:Fz}:∀{f:List (List UInt8×Rp)} {es:List MapEntry},KR Z f es→∀x∈es,MapKept.IsKey .string x.key
 | [],[],_,x,hx=>by cases hx
 | p::f,e::es,⟨⟨h1,h2⟩,h3⟩,x,hx=>by
  rcases List.mem_cons.1 hx with rfl | hx
  ·rw[h1];exact Gs _
  ·exact KR.keys h3 x hx
theorem KR.at {Z:Fz}:∀{f:List (List UInt8×Rp)} {es:List MapEntry},KR Z f es→f.length=es.length∧∀(j:Nat) (e:MapEntry),es[j]? =some e→∃k r,f[j]? =some (k,r)∧e.key = .string (B k)∧r.p Z e.val
 | [],[],_=>⟨rfl,λj e h=>by simp at h⟩
 | p::f,e::es,⟨⟨h1,h2⟩,h3⟩=>by
  obtain⟨hl,ha⟩:=KR.at h3
  refine⟨by simp[hl],λj e' hj=>?_⟩
  cases j with
  | zero=>simp at hj;subst hj;exact⟨p.1,p.2,rfl,h1,h2⟩
  | succ j=>simp at hj;simpa using ha j e' hj
theorem KR.of {Z:Fz}:∀{f:List (List UInt8×Rp)} {es:List MapEntry},f.length=es.length→(∀(j:Nat) (e:MapEntry),es[j]? =some e→∃k r,f[j]? =some (k,r)∧e.key = .string (B k)∧r.p Z e.val)→KR Z f es
 | [],[],_,_=>trivial
 | p::f,e::es,hl,h=>by
  obtain⟨k,r,h1,h2,h3⟩:=h 0 e rfl
  simp at h1;subst h1
  exact⟨⟨h2,h3⟩,KR.of (by simpa using hl) λj e' hj=>by simpa using h (j+1) e' (by simpa using hj)⟩
 | [],_::_,hl,_=>by simp at hl
 | _::_,[],hl,_=>by simp at hl
theorem KR.snoc {Z:Fz} {k:List UInt8} {r:Rp} {e:MapEntry} (h1:e.key = .string (B k)) (h2:r.p Z e.val):∀{f:List (List UInt8×Rp)} {es:List MapEntry},KR Z f es→KR Z (f++[(k,r)]) (es++[e])
 | [],[],_=>⟨⟨h1,h2⟩,trivial⟩
 | p::f,e'::es,⟨h,h3⟩=>⟨h,KR.snoc h1 h2 h3⟩
theorem KR.filter {Z:Fz} (q:MapEntry→Bool):∀{f:List (List UInt8×Rp)} {es:List MapEntry},KR Z f es→∃g,KR Z g (es.filter q)∧g.Sublist f
 | [],[],_=>⟨[],trivial,List.Sublist.refl _⟩
 | p::f,e::es,⟨h,h3⟩=>by
  obtain⟨g,hg,hs⟩:=KR.filter q h3
  cases hq:q e with
  | true=>exact⟨p::g,by rw[List.filter_cons_of_pos hq];exact⟨h,hg⟩,hs.cons_cons p⟩
  | false=>exact⟨g,by rw[List.filter_cons_of_neg (by simp[hq])];exact hg,hs.cons p⟩
theorem Sk {T:Type}:∀{m:List (Ag×T)} {k:Ag} {r:T},(m.map (·.1)).Nodup→(k,r)∈m→CZ m k=some r
 | p::m,k,r,hn,h=>by
  rw[Adt,List.nodup_cons] at hn
  rw[CZ]
  rcases List.mem_cons.1 h with h | h
  ·subst h;rw[AcI rfl];rfl
  ·have hne : ¬ p.1=k:=λe=>hn.1 (by rw[e];exact List.mem_map.2 ⟨(k,r),h,rfl⟩)
   rw[AcG hne];exact Sk hn.2 h
theorem PT {T:Type}:∀{m:List (Ag×T)} {k:Ag},(∀p∈m,p.1≠k)→CZ m k=none
 | [],_,_=>rfl
 | p::m,k,h=>by
  rw[CZ,AcG (h p (by simp))];exact PT λq hq=>h q (by simp[hq])
theorem Acc {a b:List UInt8} (h:B a=B b):a=b:=by
 have:=congrArg ByteArray.toList h
 rwa [G5,G5] at this
theorem Or {a b:List UInt8} (h:Value.string (B a) = .string (B b)):a=b:=Acc (by cases h;rfl)
theorem QT {Z:Fz} {m:List (List UInt8×Rp)} {es:List MapEntry} {ck:Nat} (h:GA Z m es ck) (k:List UInt8) :
  (Instr.findNow .string (.string (B k)) es 0=some none∧CZ m k=none∧∀p∈m,p.1≠k)∨∃j e r,Instr.findNow .string (.string (B k)) es 0=some (some (j,e.val))∧es[j]? =some e∧e.key = .string (B k)∧CZ m k=some r∧r.p Z e.val:=by
 obtain⟨h1,h2,h3,f,h4,h5⟩:=h
 obtain⟨hl,ha⟩:=h5.at
 rcases MapKept.findNow_spec (Gs (B k)) es 0 h5.keys with⟨q1,q2⟩ | ⟨j,e,q1,q2,q3⟩
 ·have hne:∀p∈m,p.1≠k:=λp hp e=>by
   obtain⟨j,hj⟩:=List.mem_iff_getElem?.1 (h4.symm.subset hp)
   have hjl:j<es.length:=by rw[← hl];exact(List.getElem?_eq_some_iff.1 hj).1
   obtain⟨k',r',e1,e2,_⟩:=ha j es[j] (List.getElem?_eq_getElem hjl)
   rw[hj] at e1;cases e1
   exact q2 es[j] (List.getElem_mem hjl) (by rw[e2,← e])
  exact .inl ⟨q1,PT hne,hne⟩
 ·obtain⟨k',r,e1,e2,e3⟩:=ha j e q2
  rw[q3] at e2
  obtain rfl:=Or e2
  exact .inr ⟨j,e,r,by simpa using q1,q2,q3,Sk h1 (h4.subset (AcU e1)),e3⟩
section
variable {P : Program} {n : Nat} {c : Cx} {ops : Array Oper} {Q : Exit → Act → World → Prop} {rest : List Oper} {l : Fr} {H : List Ent} {d : Nat} {d' : Option Nat} {ty t kt et rty : TypeId} {pos : String} {af : Array Edge} {g : Option (Nat × Bool)} {x y u : Operand} {K : Act → World → Prop} {cx : Code}
variable {T : Type} {enc : T → Rp} {xs : List (Ag × T)} {z : T} {k : Ag} {zv : Value} {i b : Nat}
theorem KN {Z:Fz} {w:World} {m:List (List UInt8×Rp)} {rz:Rp} (ht:P.underlying t=some (.map kt et)) (hk:P.underlying kt=some .string) (hz:∀w,(zeroValue et).run P w = .ok zv w) (hzr:rz.p Z zv) (hm:(Ent.map b m).holds Z w) (ok:Bool) :
  ∃v,((CZ m k).getD rz).p Z v∧(Instr.lookup t (.map (some b)) (.string (B k)) ok).run P w = .ok (if ok then .tuple #[v,.bool (CZ m k).isSome] else v) w:=by
 obtain⟨es,ck,h1,h2⟩:=hm
 rcases QT h2 k with⟨q1,q2,_⟩ | ⟨j,e,r,q1,_,_,q2,q3⟩
 ·exact⟨zv,by rw[q2];exact hzr,by simp[Instr.lookup,run_underlying ht,MapKept.run_getObj_map h1,MapKept.run_checkKey hk (Gs _),MapKept.run_findKey hk q1,hz,q2]⟩
 ·exact⟨e.val,by rw[q2];exact q3,by simp[Instr.lookup,run_underlying ht,MapKept.run_getObj_map h1,MapKept.run_checkKey hk (Gs _),MapKept.run_findKey hk q1,q2]⟩
theorem S3 (enc:T→Rp) (xs:List (Ag×T)) (k:Ag) (z:T):(CZ (Br enc xs) k).getD (enc z)=enc (Dc xs k z):=by
 rw[LW];unfold Dc;cases CZ xs k<;>rfl
theorem T2 (enc:T→Rp) (xs:List (Ag×T)) (k:Ag):(CZ (Br enc xs) k).isSome=IR xs k:=by
 rw[LW];unfold IR;cases CZ xs k<;>rfl
theorem Uh (ht:P.underlying t=some (.map kt et)) (hk:P.underlying kt=some .string) (hz:∀w,(zeroValue et).run P w = .ok zv w) (hzr:∀Z,(enc z).p Z zv) (hx:ev l x=some (rv (.map (some b)))) (hi:H[i]? =some (.map b (Br enc xs))) (hy:ev l y=some (rS k)) :
  Bq P n c l H { dst:=d',op:=.lookup t x y true,type:=ty,pos:=pos,after:=af,guard:=g } (Cm [enc (Dc xs k z),rB (IR xs k)]):=λa w Z ha hw=>by
 obtain⟨v,h1,h2⟩:=KN (k:=k) ht hk hz (hzr Z) (hw.ent hi) true
 rw[S3] at h1
 refine⟨.tuple #[v,.bool (IR xs k)],⟨[v,.bool (IR xs k)],rfl,h1,rfl,trivial⟩,?_⟩
 rw[T2] at h2
 simp[execOp,ha.eval hx,ha.eval hy,h2]
theorem AaL (ht:P.underlying t=some (.map kt et)) (hk:P.underlying kt=some .string) (hz:∀w,(zeroValue et).run P w = .ok zv w) (hzr:∀Z,(enc z).p Z zv) (hx:ev l x=some (rv (.map (some b)))) (hi:H[i]? =some (.map b (Br enc xs))) (hy:ev l y=some (rS k)) :
  Bq P n c l H { dst:=d',op:=.lookup t x y false,type:=ty,pos:=pos,after:=af,guard:=g } (enc (Dc xs k z)):=λa w Z ha hw=>by
 obtain⟨v,h1,h2⟩:=KN (k:=k) ht hk hz (hzr Z) (hw.ent hi) false
 rw[S3] at h1
 simp only[Bool.false_eq_true,if_false] at h2
 exact⟨v,h1,by simp[execOp,ha.eval hx,ha.eval hy,h2]⟩
theorem GA.length {Z:Fz} {m:List (List UInt8×Rp)} {es:List MapEntry} {ck:Nat} (h:GA Z m es ck):es.length=m.length:=by
 obtain⟨_,_,_,f,h4,h5⟩:=h
 rw[← h5.at.1,h4.length_eq]
theorem X4 {m:List (List UInt8×Rp)} {N:Nat} (ht:P.underlying t=some (.map kt et)) (hx:ev l x=some (rv (.map (some b)))) (hi:H[i]? =some (.map b m)) (hN:m.length=N) :
  Bq P n c l H { dst:=d',op:=.call { callee:=.builtin .len,args:=#[x],argTypes:=#[t] },type:=ty,pos:=pos,after:=af,guard:=g } (rI .i64 N):=λa w Z ha hw=>CQ<|by
 obtain⟨es,ck,h1,h2⟩:=hw.ent hi
 have hl:es.size=N:=by rw[← hN,← h2.length];simp
 simp[execOp,resolve,invoke,builtin,ha.eval hx,Builtin.len_,run_underlying ht,goInt,MapKept.run_getObj_map h1,hl]
theorem Vz {v:Option Nat} (ht:P.underlying t=some (.map kt et)) (hx:ev l x=some (rv (.map v))):Bq P n c l H { dst:=d',op:=.binOp .neq t x (.const (.map none)) rty,type:=ty,pos:=pos,after:=af,guard:=g } (rB (!v.isNone)):=λa w Z ha hw=>CQ<|by
 have e2:a.eval (.const (.map none)) = .map none:=rfl
 have h:=run_equal_map_nil (P:=P) w t kt et v ht
 simp[execOp,ha.eval hx,e2,eqGuard,binOp,h]
theorem P4 (hn:Nat.blt d n=true) (h:∀b,WL P n c ops Q rest ((d,rv (.map (some b)))::l) (.map b []::H)) :
  WL P n c ops Q ({ dst:=some d,op:=.makeMap t none,type:=ty,pos:=pos,after:=af,guard:=none }::rest) l H:=
 JC (λa w Z ha hw=>⟨_,w.alloc (.map #[] 0),_,_,Z,by simp[execOp,run_makeMap],Fz.le.refl _,rfl,
  hw.alloc _ (e:=.map w.heap.size []) ⟨#[],0,by simpa using heap_alloc_new w _,by simp,by simp,by simp,[],List.Perm.refl _,trivial⟩ rfl,h w.heap.size⟩) hn
theorem Xl {m f:List (Ag×Rp)} (h:f.Perm m) (k:Ag) (r:Rp):(mput f k r).Perm (mput m k r):=h.map _
theorem Un {T:Type}:∀{f:List (Ag×T)} {j:Nat} {k:Ag} {r0:T} (r:T),(f.map (·.1)).Nodup→f[j]? =some (k,r0)→mput f k r=f.set j (k,r)
 | p::f,0,k,r0,r,hn,h=>by
  simp at h;subst h
  rw[Adt,List.nodup_cons] at hn
  have:mput f k r=f:=by
   unfold mput
   rw[List.map_congr_left (g:=id) (λq hq=>?_),List.map_id]
   have hne : ¬ q.1=k:=λe=>hn.1 (by rw[← e];exact List.mem_map.2 ⟨q,hq,rfl⟩)
   rw[AcG hne];rfl
  show(bif decide (k=k) then(k,r) else(k,r0))::mput f k r=_
  rw[AcI rfl,this];rfl
 | p::f,j+1,k,r0,r,hn,h=>by
  rw[Adt,List.nodup_cons] at hn
  simp at h
  have hne : ¬ p.1=k:=λe=>hn.1 (by rw[e];exact List.mem_map.2 ⟨(k,r0),AcU h,rfl⟩)
  show(bif decide (p.1=k) then(k,r) else p)::mput f k r=_
  rw[AcG hne,Un r hn.2 h];rfl
theorem Uo {T:Type}:∀{f:List (Ag×T)} {j:Nat} {k:Ag} {r0:T},(f.map (·.1)).Nodup→f[j]? =some (k,r0)→mdel f k=f.eraseIdx j
 | p::f,0,k,r0,hn,h=>by
  simp at h;subst h
  rw[Adt,List.nodup_cons] at hn
  have:f.filter (λq=>!decide (q.1=k))=f:=List.filter_eq_self.2 λq hq=>by
   have hne : ¬ q.1=k:=λe=>hn.1 (by rw[← e];exact List.mem_map.2 ⟨q,hq,rfl⟩)
   simp[hne]
  unfold mdel
  rw[List.filter_cons_of_neg (by simp),this];rfl
 | p::f,j+1,k,r0,hn,h=>by
  rw[Adt,List.nodup_cons] at hn
  simp at h
  have hne : ¬ p.1=k:=λe=>hn.1 (by rw[e];exact List.mem_map.2 ⟨(k,r0),AcU h,rfl⟩)
  unfold mdel
  rw[List.filter_cons_of_pos (by simp[hne])]
  show p::mdel f k=_
  rw[Uo hn.2 h];rfl
theorem V5 {T:Type} (m:List (Ag×T)) (k:Ag) (r:T):(mput m k r).map (·.1)=m.map (·.1):=by
 unfold mput
 rw[Adz]
 refine List.map_congr_left λp _=>?_
 simp only[Function.comp]
 by_cases h:p.1=k
 ·rw[AcI h];exact h.symm
 ·rw[AcG h];rfl
theorem V6 {T:Type} {m:List (Ag×T)} {k:Ag} {r:T} (h:CZ m k=some r):IR m k=true:=by unfold IR;rw[h];rfl
theorem V7 {T:Type} {m:List (Ag×T)} {k:Ag} (h:CZ m k=none):IR m k=false:=by unfold IR;rw[h];rfl
theorem GA.put {Z:Fz} {m:List (Ag×Rp)} {es:List MapEntry} {ck j:Nat} {e:MapEntry} {k:Ag} {r0 r:Rp} {v:Value} (h:GA Z m es ck) (he:es[j]? =some e) (hk:e.key = .string (B k)) (hm:CZ m k=some r0) (hr:r.p Z v) :
  GA Z (mset m k r) (es.set j { e with key:=.string (B k),val:=v }) ck:=by
 obtain⟨h1,h2,h3,f,h4,h5⟩:=h
 obtain⟨hl,ha⟩:=h5.at
 have hjl:=(List.getElem?_eq_some_iff.1 he).1
 unfold mset
 rw[V6 hm,AcJ]
 obtain⟨k',r',e1,e2,_⟩:=ha j e he
 rw[hk] at e2
 obtain rfl:=Or e2
 have hfn:(f.map (·.1)).Nodup:=(h4.map (·.1)).nodup_iff.2 h1
 refine⟨by rw[V5];exact h1,?_,?_,f.set j (k,r),?_,KR.of (by simp[hl]) λi x hx=>?_⟩
 ·rw[List.map_set]
  have:(es.map (·.born)).set j e.born=es.map (·.born):=by
   apply List.ext_getElem?
   intro i
   rw[List.getElem?_set]
   split
   ·rename_i hij;subst hij
    simp[hjl,List.getElem?_eq_some_iff.1 he |>.2]
   ·rfl
  show((es.map (·.born)).set j e.born).Nodup
  rw[this];exact h2
 ·intro x hx
  rcases List.mem_or_eq_of_mem_set hx with hx | rfl
  ·exact h3 x hx
  ·exact h3 e (AcU he)
 ·have:=Xl h4 k r
  rwa [Un r hfn e1] at this
 ·rw[List.getElem?_set] at hx ⊢
  split at hx
  ·rename_i hij;subst hij
   cases hx
   exact⟨k,r,by rw[Adq rfl,Adq (by rw[hl];exact hjl)],rfl,hr⟩
  ·rename_i hij
   rw[Adj hij];exact ha i x hx
theorem GA.ins {Z:Fz} {m:List (Ag×Rp)} {es:List MapEntry} {ck:Nat} {k:Ag} {r:Rp} {v:Value} (h:GA Z m es ck) (hm:CZ m k=none) (hk:∀p∈m,p.1≠k) (hr:r.p Z v) :
  GA Z (mset m k r) (es++[{ key:=.string (B k),val:=v,born:=ck }]) (ck+1):=by
 obtain⟨h1,h2,h3,f,h4,h5⟩:=h
 unfold mset
 rw[V7 hm,AcF]
 have hp:=PS k r m
 refine⟨?_,?_,?_,f++[(k,r)],?_,KR.snoc rfl hr h5⟩
 ·rw[(hp.map (·.1)).nodup_iff,Adt,List.nodup_cons]
  exact⟨λhx=>by obtain⟨p,hp,e⟩:=List.mem_map.1 hx;exact hk p hp e,h1⟩
 ·rw[List.map_append,List.nodup_append]
  refine⟨h2,by simp,λa ha b hb e=>?_⟩
  simp at hb;subst hb
  obtain⟨x,hx,e'⟩:=List.mem_map.1 ha
  have:=h3 x hx
  omega
 ·intro x hx
  rcases List.mem_append.1 hx with hx | hx
  ·have:=h3 x hx;omega
  ·simp at hx;subst hx;exact AcL _
 ·exact(List.perm_append_comm (l₁:=f) (l₂:=[(k,r)])).trans ((h4.cons (k,r)).trans hp.symm)
theorem GA.del {Z:Fz} {m:List (Ag×Rp)} {es:List MapEntry} {ck j:Nat} {e:MapEntry} {k:Ag} (h:GA Z m es ck) (he:es[j]? =some e) (hk:e.key = .string (B k)):GA Z (mdel m k) (es.eraseIdx j) ck:=by
 obtain⟨h1,h2,h3,f,h4,h5⟩:=h
 obtain⟨hl,ha⟩:=h5.at
 obtain⟨k',r',e1,e2,_⟩:=ha j e he
 rw[hk] at e2
 obtain rfl:=Or e2
 have hfn:(f.map (·.1)).Nodup:=(h4.map (·.1)).nodup_iff.2 h1
 have hs:=List.eraseIdx_sublist es j
 refine⟨h1.sublist ((List.filter_sublist ..).map _),h2.sublist (hs.map _),λx hx=>h3 x (hs.subset hx),f.eraseIdx j,?_,KR.of (by rw[List.length_eraseIdx,List.length_eraseIdx,hl]) λi x hx=>?_⟩
 ·rw[← Uo hfn e1];exact h4.filter _
 ·rw[List.getElem?_eraseIdx] at hx ⊢
  split at hx
  ·rename_i hij;rw[Adq hij];exact ha i x hx
  ·rename_i hij;rw[Adj hij];exact ha (i+1) x hx
theorem V8 {m:List (Ag×Rp)} {k:Ag} (hk:∀p∈m,p.1≠k):mdel m k=m:=List.filter_eq_self.2 λp hp=>by simp[hk p hp]
theorem St.mapset {Z:Fz} {w:World} (h:St c H Z w) {m m':List (Ag×Rp)} (hi:H[i]? =some (.map b m)) {es es':Array MapEntry} {ck ck':Nat} (h1:w.heap[b]? =some (.map es ck)) (h2:GA Z m' es'.toList ck') :
  St c (H.set i (.map b m')) Z { w with heap:=w.heap.setIfInBounds b (.map es' ck') }:=by
 obtain⟨q1,q2⟩:=MapKept.heap_set (o':=.map es' ck') h1
 exact h.set hi rfl rfl rfl (by simp) (λk _ hk=>q2 k (by simpa[Ent.foot] using hk)) ⟨es',ck',q1,h2⟩ (by simp[Ent.foot])
theorem Q2 (s:ByteArray):Instr.sameBits 10000 (.string s) (.string s)=true:=by
 show(s ==s)=true
 exact(MapKept.bytes_beq s s).2 rfl |> λh=>by simpa using h
theorem Aa8 {r:Rp} {m:List (Ag×Rp)} (ht:P.underlying t=some (.map kt et)) (hk:P.underlying kt=some .string) (hx:ev l x=some (rv (.map (some b)))) (hi:H[i]? =some (.map b m)) (hy:ev l y=some (rS k)) (hu:ev l u=some r) {H':List Ent} (hH:H.set i (.map b (mset m k r))=H') (h:WL P n c ops Q rest l H') :
  WL P n c ops Q ({ dst:=none,op:=.mapUpdate t x y u,type:=ty,pos:=pos,after:=af,guard:=none }::rest) l H:=
 Ru λa w Z ha hw=>by
  obtain⟨es,ck,h1,h2⟩:=hw.ent hi
  have hv:=ha.ev hu
  subst hH
  rcases QT h2 k with⟨q1,q2,q3⟩ | ⟨j,e,r0,q1,q2,q3,q4,_⟩
  ·refine⟨_,_,?_,hw.mapset hi h1 (es':=es.push { key:=.string (B k),val:=a.eval u,born:=ck }) (by simpa using h2.ins q2 q3 hv),h⟩
   simp[execOp,ha.eval hx,ha.eval hy,Instr.mapUpdate,run_underlying ht,MapKept.run_getObj_map h1,MapKept.run_checkKey hk (Gs _),MapKept.run_findKey hk q1,MapKept.run_setObj_map _ h1]
  ·have hje:es[j]? =some e:=by simpa using q2
   refine⟨_,_,?_,hw.mapset hi h1 (es':=es.modify j λe=>{ e with key:=.string (B k),val:=a.eval u }) (ck':=ck) (by
    have:=h2.put q2 q3 q4 hv
    have e1:(es.modify j λe=>{ e with key:=.string (B k),val:=a.eval u }).toList=es.toList.set j { e with key:=.string (B k),val:=a.eval u }:=by
     rw[Array.toList_modify]
     rw[List.modify_eq_set,q2];rfl
    rw[e1];exact this),h⟩
   have hkey:((es[j]?).map (·.key)).getD (.string (B k)) = .string (B k):=by rw[hje];exact q3
   simp[execOp,ha.eval hx,ha.eval hy,Instr.mapUpdate,run_underlying ht,MapKept.run_getObj_map h1,MapKept.run_checkKey hk (Gs _),MapKept.run_findKey hk q1,MapKept.run_setObj_map _ h1,hkey,Instr.keyThatStays,Q2]
theorem Aam {op:Op} {ty:TypeId} {pos:String} {af:Array Edge}
  (hr:∀a w Z,Dx n l a Z→St c H Z w→∃v w' H',(execOp a.eval { dst:=none,op:=op,type:=ty,pos:=pos,after:=af,guard:=none }).run P w = .ok (.value v) w'∧St c H' Z w'∧WL P n c ops Q rest l H') :
  WL P n c ops Q ({ dst:=none,op:=op,type:=ty,pos:=pos,after:=af,guard:=none }::rest) l H:=λa w Z ha hw=>
 wpList_plain rfl λK hK=>by
  obtain⟨v,w',H',h1,h2,h3⟩:=hr a w Z ha hw
  unfold Oper.wp
  rw[h1]
  exact hK _ _ (h3 _ w' Z (ha.put_none _) h2)
theorem Aa9 {m:List (Ag×Rp)} (ht:P.underlying t=some (.map kt et)) (hk:P.underlying kt=some .string) {kt':TypeId} (hx:ev l x=some (rv (.map (some b)))) (hi:H[i]? =some (.map b m)) (hy:ev l y=some (rS k)) {H':List Ent} (hH:H.set i (.map b (mdel m k))=H') (h:WL P n c ops Q rest l H') :
  WL P n c ops Q ({ dst:=none,op:=.call { callee:=.builtin .delete,args:=#[x,y],argTypes:=#[t,kt'] },type:=ty,pos:=pos,after:=af,guard:=none }::rest) l H:=
 Aam (λa w Z ha hw=>by
  obtain⟨es,ck,h1,h2⟩:=hw.ent hi
  subst hH
  rcases QT h2 k with⟨q1,q2,q3⟩ | ⟨j,e,r0,q1,q2,q3,q4,_⟩
  ·refine⟨.tuple #[],_,_,?_,hw.mapset hi h1 (es':=es) (ck':=ck) (by rw[V8 q3];exact h2),h⟩
   simp[execOp,resolve,invoke,builtin,ha.eval hx,ha.eval hy,Builtin.delete_,run_underlying ht,MapKept.run_getObj_map h1,MapKept.run_checkKey hk (Gs _),MapKept.run_findKey hk q1,MapKept.run_setObj_map _ h1]
  ·refine⟨.tuple #[],_,_,?_,hw.mapset hi h1 (es':=es.eraseIdxIfInBounds j) (ck':=ck) (by
    have e1:(es.eraseIdxIfInBounds j).toList=es.toList.eraseIdx j:=by simp
    rw[e1];exact h2.del q2 q3),h⟩
   simp[execOp,resolve,invoke,builtin,ha.eval hx,ha.eval hy,Builtin.delete_,run_underlying ht,MapKept.run_getObj_map h1,MapKept.run_checkKey hk (Gs _),MapKept.run_findKey hk q1,MapKept.run_setObj_map _ h1])
theorem W5 {m:List (Ag×Rp)} (ht:P.underlying t=some (.map kt et)) (hx:ev l x=some (rv (.map (some b)))) (hi:H[i]? =some (.map b m)) {H':List Ent} (hH:H.set i (.map b [])=H') (h:WL P n c ops Q rest l H') :
  WL P n c ops Q ({ dst:=none,op:=.call { callee:=.builtin .clear,args:=#[x],argTypes:=#[t] },type:=ty,pos:=pos,after:=af,guard:=none }::rest) l H:=
 Aam (λa w Z ha hw=>by
  obtain⟨es,ck,h1,h2⟩:=hw.ent hi
  subst hH
  refine⟨.tuple #[],_,_,?_,hw.mapset hi h1 (es':=#[]) (ck':=ck) ⟨by simp,by simp,by simp,[],List.Perm.refl _,trivial⟩,h⟩
  simp[execOp,resolve,invoke,builtin,ha.eval hx,Builtin.clear_,run_underlying ht,MapKept.run_getObj_map h1,MapKept.run_setObj_map _ h1])
theorem NF {v:T} (ht:P.underlying t=some (.map kt et)) (hk:P.underlying kt=some .string) (hx:ev l x=some (rv (.map (some b)))) (hi:H[i]? =some (.map b (Br enc xs))) (hy:ev l y=some (rS k)) (hu:ev l u=some (enc v)) {H':List Ent} (hH:H.set i (.map b (Br enc (mset xs k v)))=H') (h:WL P n c ops Q rest l H') :
  WL P n c ops Q ({ dst:=none,op:=.mapUpdate t x y u,type:=ty,pos:=pos,after:=af,guard:=none }::rest) l H:=Aa8 ht hk hx hi hy hu (by rw[← XB];exact hH) h
theorem Zq (ht:P.underlying t=some (.map kt et)) (hk:P.underlying kt=some .string) {kt':TypeId} (hx:ev l x=some (rv (.map (some b)))) (hi:H[i]? =some (.map b (Br enc xs))) (hy:ev l y=some (rS k)) {H':List Ent} (hH:H.set i (.map b (Br enc (mdel xs k)))=H') (h:WL P n c ops Q rest l H') :
  WL P n c ops Q ({ dst:=none,op:=.call { callee:=.builtin .delete,args:=#[x,y],argTypes:=#[t,kt'] },type:=ty,pos:=pos,after:=af,guard:=none }::rest) l H:=Aa9 ht hk hx hi hy (by rw[← XE];exact hH) h
end
end Go.Proofs.YtjfnokmpfekniaaGreatDoor.Q
namespace Go.Proofs.YtjfnokmpfekniaaGreatDoor
open Go
end Go.Proofs.YtjfnokmpfekniaaGreatDoor
namespace Go.Proofs.YtjfnokmpfekniaaGreatDoor.Q
open Go Go.RowKit Go.ChangeMaps
set_option linter.unusedVariables false
set_option linter.unusedSimpArgs false
end Go.Proofs.YtjfnokmpfekniaaGreatDoor.Q
namespace Go.Proofs.YtjfnokmpfekniaaGreatDoor
open Go
set_option linter.unusedVariables false
structure Ah where
 fKey:Ag
 fDelete:Bool
 fValue:(List Aa)
 fIfVersion:Int
 deriving DecidableEq,Inhabited
structure AE where
 fKey:Ag
 fValue:(List Aa)
 fVersion:Int
 deriving DecidableEq,Inhabited
structure Bs where
 fItems:(List (Ag×AE))
 fChanged:(List (Ag×AE))
 deriving DecidableEq,Inhabited
def QX (ys:(List Aa)):Option ((List Aa)):=
 AN (Dw 40 (([]:List Aa).length+ys.length))<|some (([]:List Aa)++ys)
def QQ (c:Int):Option (Bool):=
 some ((decide (97≤c))&&(decide (c≤122)))
def NV (c:Int):Option (Bool):=
 some ((decide (48≤c))&&(decide (c≤57)))
def C0 (ha:Bool):Option (Bool):=
 some ha
def QR (c:Int):Option (Bool):=
 Bn (QQ c) λha=>Bd (ha) (C0 true) (Bd (decide (65≤c)) (Bd (decide (c≤90)) (C0 true) (Bn (NV c) λhb=>Bd (hb) (C0 true) (Bd (decide (c=45)) (C0 true) (Bd (decide (c=95)) (C0 true) (Bd (decide (c=46)) (C0 true) (Bd (decide (c=58)) (C0 true) (C0 (decide (c=47))))))))) (Bn (NV c) λhd=>Bd (hd) (C0 true) (Bd (decide (c=45)) (C0 true) (Bd (decide (c=95)) (C0 true) (Bd (decide (c=46)) (C0 true) (Bd (decide (c=58)) (C0 true) (C0 (decide (c=47)))))))))
def H0 (s:Ag) (ha:Int):Option (Stp (Int) (Out (Bool) (Unit))):=
 Bd (decide (ha<(s.length:Int))) (AN (Cu ha (s.length:Int))<|Bn (QR (AK s ha)) λhb=>Bd (!hb) (some (.out (.ret false))) (AN (Bl .i64 (ha+1))<|some (.next (ha+1)))) (some (.out (.go ())))
def NU :Option (Bool):=
 some true
def Yb (F:Nat) (s:Ag):Option (Bool):=
 Bd (((decide ((s.length:Int)<1))||(decide (64<(s.length:Int))))) (some false) (Bn (BF (λσ=>H0 s σ) F 0) (B6 λν=>NU ))
def OM (F:Nat) (c:Ah):Option (Int):=
 Bd (!(S0 c.fKey)) (some 4) (Bd (((decide (c.fIfVersion<(-1)))||(decide (1000000000000<c.fIfVersion)))) (some 2) (Bd ((c.fDelete&&(decide (0<(c.fValue.length:Int))))) (some 7) (Bd (c.fDelete) (some 0) (Bn (KW F c.fValue) λha=>some ha))))
def Gr (F:Nat) (l:(List Ah)) (ha:Int):Option (Stp (Int) (Out (Int) (Unit))):=
 Bd (decide (ha<(l.length:Int))) (AN (Cu ha (l.length:Int))<|Bn (OM F (Am l ha)) λhb=>Bd (!decide (hb=0)) (some (.out (.ret hb))) (AN (Bl .i64 (ha+1))<|some (.next (ha+1)))) (some (.out (.go ())))
def K1 :Option (Int):=
 some 0
def Ll (F:Nat) (l:(List Ah)):Option (Int):=
 Bd (decide (256<(l.length:Int))) (some 3) (Bn (BF (λσ=>Gr F l σ) F 0) (B6 λν=>K1 ))
def Aba :Option (Bs):=
 some (Bs.mk ([]:List (Ag×AE)) ([]:List (Ag×AE)))
def Sv (q:Bs):Option (Bool×Bs):=
 some (true,q)
def AaY (q:Bs) (key:Ag):Option (AE×Bs):=
 Bd (IR q.fChanged key) (some ((Dc q.fChanged key (AE.mk ([]:Ag) ([]:(List Aa)) 0)),q)) (some ((Dc q.fItems key (AE.mk ([]:Ag) ([]:(List Aa)) 0)),q))
def HV (c:Ah) (r2:AE×Bs) (ha:Int):Option (Int×Int×Bs):=
 Bn (QX c.fValue) λhb=>AN (Bl .i64 (r2.1.fVersion+1))<|some (ha,0,(Bs.mk r2.2.fItems (mset r2.2.fChanged c.fKey (AE.mk c.fKey hb (r2.1.fVersion+1)))))
def QN (q:Bs) (c:Ah) (size:Int):Option (Int×Int×Bs):=
 Bn (AaY q c.fKey) λr2=>Bd (((decide (0≤c.fIfVersion))&&(!decide (c.fIfVersion=r2.1.fVersion)))) (some (0,19,r2.2)) (Bd (c.fDelete) (Bd (decide (0<r2.1.fVersion)) (AN (Bl .i64 (size-1))<|some (size-1,0,(Bs.mk r2.2.fItems (mset r2.2.fChanged c.fKey (AE.mk ([]:Ag) ([]:List Aa) 0))))) (some (size,0,(Bs.mk r2.2.fItems (mset r2.2.fChanged c.fKey (AE.mk ([]:Ag) ([]:List Aa) 0)))))) (Bd (((decide (r2.1.fVersion=0))&&(decide (256≤size)))) (some (0,3,r2.2)) (Bd (decide (1000000000000≤r2.1.fVersion)) (some (0,8,r2.2)) (Bd (decide (r2.1.fVersion=0)) (AN (Bl .i64 (size+1))<|HV c r2 (size+1)) (HV c r2 size)))))
def K5 (ha:Ag) (hb:AE) (hd:(List (Ag×AE))):Option (Stp ((List (Ag×AE))) (Out (Int×Bs) ((List (Ag×AE))))):=
 Bd (decide (hb.fVersion=0)) (some (.next (mdel hd ha))) (some (.next (mset hd ha hb)))
def HB (ha:(List (Ag×AE))) (hb:(List (Ag×AE))):Option (Int×Bs):=
 some (0,(Bs.mk hb ha))
def K6 (l:(List Ah)) (hf:Int) (hb:Int) (hd:(List (Ag×AE))) (he:(List (Ag×AE))):Option (Stp (Int×Int×(List (Ag×AE))×(List (Ag×AE))) (Out (Int×Bs) ((List (Ag×AE))×(List (Ag×AE))))):=
 Bd (decide (hb<(l.length:Int))) (AN (Cu hb (l.length:Int))<|Bn (QN (Bs.mk hd he) (Am l hb) hf) λha=>Bd (!decide (ha.2.1=0)) (some (.out (.ret (ha.2.1,ha.2.2)))) (AN (Bl .i64 (hb+1))<|some (.next (ha.1,hb+1,ha.2.2.fItems,ha.2.2.fChanged)))) (some (.out (.go (hd,he))))
def K4 (hb:(List (Ag×AE))) (ha:(List (Ag×AE))):Option (Int×Bs):=
 AaN ha λord=>Bn (XK (λp τ=>K5 p.1 p.2 τ) ord hb) (B6 λν=>HB ha ν)
def Ln (F:Nat) (q:Bs) (l:(List Ah)):Option (Int×Bs):=
 Bn (Sv q) λr1=>Bd (!r1.1) (some (10,r1.2)) (Bn (Ll F l) λr7=>Bd (!decide (r7=0)) (some (r7,r1.2)) (Bn (BF (λσ=>K6 l σ.1 σ.2.1 σ.2.2.1 σ.2.2.2) F ((r1.2.fItems.length:Int),0,r1.2.fItems,([]:List (Ag×AE)))) (B6 λν=>K4 ν.1 ν.2)))
def AaW (x:AE):Option (AE):=
 Bn (QX x.fValue) λr3=>some (AE.mk x.fKey r3 x.fVersion)
def Abc (q:Bs) (key:Ag):Option (AE×Bool×Bs):=
 Bn (Sv q) λr2=>Bd (!r2.1) (some ((AE.mk ([]:Ag) ([]:List Aa) 0),false,r2.2)) (Bn (AaW (Dc r2.2.fItems key (AE.mk ([]:Ag) ([]:(List Aa)) 0))) λr9=>some (r9,IR r2.2.fItems key,r2.2))
def ZJ (q:Bs):Option (Int×Bs):=
 Bn (Sv q) λr1=>Bd (!r1.1) (some (0,r1.2)) (some ((r1.2.fItems.length:Int),r1.2))
end Go.Proofs.YtjfnokmpfekniaaGreatDoor
namespace Go.Proofs.YtjfnokmpfekniaaGreatDoor.Q
open Go Go.RowKit
set_option linter.unusedVariables false
set_option linter.unusedSimpArgs false
theorem Mi {q:MapEntry→Bool}:∀{l:List MapEntry} {j:Nat} {e:MapEntry},(l.map (·.born)).Nodup→l[j]? =some e→l.filter (λx=>!(x.born ==e.born))=l.eraseIdx j
 | x::l,0,e,hn,h=>by
  simp at h;subst h
  rw[Adt,List.nodup_cons] at hn
  rw[List.filter_cons_of_neg (by simp),List.filter_eq_self.2 λy hy=>?_];rfl
  have:y.born≠x.born:=λe=>hn.1 (by rw[← e];exact List.mem_map.2 ⟨y,hy,rfl⟩)
  simp[this]
 | x::l,j+1,e,hn,h=>by
  rw[Adt,List.nodup_cons] at hn
  simp at h
  have hne:x.born≠e.born:=λe'=>hn.1 (by rw[e'];exact List.mem_map.2 ⟨e,AcU h,rfl⟩)
  rw[List.filter_cons_of_pos (by simp[hne]),Mi (q:=q) hn.2 h];rfl
theorem KR.erase {Z:Fz}:∀{f:List (List UInt8×Rp)} {es:List MapEntry} (j:Nat),KR Z f es→KR Z (f.eraseIdx j) (es.eraseIdx j)
 | [],[],j,_=>by simp[KR]
 | p::f,e::es,0,⟨_,h⟩=>h
 | p::f,e::es,j+1,⟨h,h3⟩=>⟨h,KR.erase j h3⟩
theorem Ud {α:Type}:∀{l:List α} {j:Nat} {a:α},l[j]? =some a→l.Perm (a::l.eraseIdx j)
 | x::l,0,a,h=>by simp at h;subst h;exact List.Perm.refl _
 | x::l,j+1,a,h=>by
  simp at h
  exact((Ud h).cons x).trans (List.Perm.swap a x _)
theorem Xm {T:Type} {enc:T→Rp} {ys:List (Ag×T)} {f:List (Ag×Rp)} {j:Nat} {k:Ag} {r:Rp} (h:f.Perm (Br enc ys)) (hj:f[j]? =some (k,r)):∃ (p:Ag×T) (ys':List (Ag×T)),ys.Perm (p::ys')∧p.1=k∧enc p.2=r∧(f.eraseIdx j).Perm (Br enc ys'):=by
 have hm:(k,r)∈Br enc ys:=h.subset (AcU hj)
 obtain⟨p,hp,e⟩:=List.mem_map.1 hm
 simp only[Prod.mk.injEq] at e
 obtain⟨a,b,rfl⟩:=List.append_of_mem hp
 refine⟨p,a++b,List.perm_middle,e.1,e.2,?_⟩
 have h1:f.Perm ((k,r)::f.eraseIdx j):=by
  exact Ud hj
 have h2:(Br enc (a++p::b)).Perm ((k,r)::Br enc (a++b)):=by
  have:(Br enc (a++p::b)).Perm (Br enc (p::(a++b))):=List.perm_middle.map _
  refine this.trans ?_
  show((p.1,enc p.2)::Br enc (a++b)).Perm _
  rw[e.1,e.2]
 exact((h1.symm.trans h).trans h2).cons_inv
section
variable {P : Program} {n : Nat} {c : Cx} {ops : Array Oper} {Q : Exit → Act → World → Prop} {rest : List Oper} {l : Fr} {H : List Ent} {d : Nat} {ty t kt et rty : TypeId} {pos : String} {af : Array Edge} {x y u : Operand} {K : Act → World → Prop} {cx : Code}
variable {T : Type} {enc : T → Rp} {xs ys : List (Ag × T)} {i b it : Nat} {m lf : List (List UInt8 × Rp)} {cur : Option (List UInt8 × Rp)} {k : Ag} {r : Rp}
theorem Zj (ht:P.underlying t=some (.map kt et)) (hx:ev l x=some (rv (.map (some b)))) (hi:H[i]? =some (.map b m)) (hn:Nat.blt d n=true) (h:∀it,WL P n c ops Q rest ((d,rv (.pointer (some ⟨it,0,none⟩)))::l) (H.set i (.mit b it m m none))) :
  WL P n c ops Q ({ dst:=some d,op:=.range t x,type:=ty,pos:=pos,after:=af,guard:=none }::rest) l H:=
 JC (λa w Z ha hw=>by
  obtain⟨es,ck,h1,h2⟩:=hw.ent hi
  have hb:b<w.heap.size:=(Array.getElem?_eq_some_iff.1 h1).1
  have hf:es.toList.filter (λe=>!(#[]:Array Nat).contains e.born)=es.toList:=List.filter_eq_self.2 λ_ _=>by simp
  obtain⟨f,h4,h5⟩:=h2.2.2.2
  refine⟨.pointer (some ⟨w.heap.size,0,none⟩),w.alloc (.mapIter (some b) ck #[] ck),_,_,Z,?_,Fz.le.refl _,rfl,hw.set hi rfl rfl rfl (by simp) (λk hk _=>Below.heap_alloc w _ k hk) ?_ ?_,h w.heap.size⟩
  ·simp[execOp,ha.eval hx,run_range_map w t kt et b es ck ht h1]
  ·exact⟨es,ck,#[],ck,ck,(Below.heap_alloc w _ b hb).trans h1,by simpa using heap_alloc_new w _,h2,h2.2.2.1,Adf _,Adf _,Nat.ne_of_lt hb,⟨f,h4,by rw[hf];exact h5⟩,trivial⟩
  ·intro k hk
   simp only[Ent.foot,Ady,List.not_mem_nil,or_false] at hk
   rcases hk with rfl | rfl
   ·exact .inl (by simp[Ent.foot])
   ·exact .inr (Adf _)) hn
theorem Aa7 (hx:ev l x=some (rv (.pointer (some ⟨it,0,none⟩)))) (hi:H[i]? =some (.mit b it m (Br enc ys) cur)) (hn:Nat.blt d n=true)
  (h0:ys=[]→WL P n c ops Q rest ((d,Cm [rB false])::l) H)
  (h1:∀p ys',ys.Perm (p::ys')→WL P n c ops Q rest ((d,Cm [rB true,rS p.1,enc p.2])::l) (H.set i (.mit b it m (Br enc ys') (some (p.1,enc p.2))))) :
  WL P n c ops Q ({ dst:=some d,op:=.next x false,type:=ty,pos:=pos,after:=af,guard:=none }::rest) l H:=
 JC (λa w Z ha hw=>by
  obtain⟨es,ck,seen,since,c0,q1,q2,q3,q4,q5,q6,q7,⟨f,q8,q9⟩,_⟩:=hw.ent hi
  have hlf:(leftOf es seen).toList=es.toList.filter λe=>!seen.contains e.born:=by simp[leftOf]
  rcases run_next_at (P:=P) w ty it b since c0 seen es ck q2 q1 q4 q5 with⟨r1,r2⟩ | ⟨e,r1,w1,r2,r3⟩
  ·have he:es.toList.filter (λe=>!seen.contains e.born)=[]:=by rw[← hlf];exact List.eq_nil_of_length_eq_zero (by simpa using r1)
   rw[he] at q9
   have hf:f=[]:=by cases f with
    | nil=>rfl
    | cons _ _=>exact absurd q9 id
   subst hf
   have hy:ys=[]:=by
    have:=q8.length_eq
    rw[JQ] at this
    exact List.eq_nil_of_length_eq_zero this.symm
   exact⟨.tuple #[.bool false],w,Cm [rB false],H,Z,by simp[execOp,ha.eval hx,r2],Fz.le.refl _,⟨[.bool false],rfl,rfl,trivial⟩,hw,h0 hy⟩
  ·rw[hlf] at r1
   obtain⟨j,hj⟩:=List.mem_iff_getElem?.1 r1
   obtain⟨k,r,e1,e2,e3⟩:=q9.at.2 j e hj
   obtain⟨p,ys',s1,s2,s3,s4⟩:=Xm q8 e1
   have hnl:((es.toList.filter λe=>!seen.contains e.born).map (·.born)).Nodup:=q3.2.1.sublist ((List.filter_sublist ..).map _)
   have hleft:es.toList.filter (λx=>!(seen.push e.born).contains x.born)=(es.toList.filter λe=>!seen.contains e.born).eraseIdx j:=by
    rw[← Mi (q:=λ_=>true) hnl hj,List.filter_filter]
    refine List.filter_congr λx _=>?_
    simp only[Array.contains_push,Bool.not_or]
    rw[Bool.and_comm]
   have hd:St c H Z w1:=by
    rcases r2 with rfl | rfl
    ·exact hw
    ·exact hw.drawn _
   have q2':w1.heap[it]? =some (.mapIter (some b) since seen c0):=by rcases r2 with rfl | rfl<;>exact q2
   have q1':w1.heap[b]? =some (.map es ck):=by rcases r2 with rfl | rfl<;>exact q1
   obtain⟨t1,t2⟩:=MapKept.heap_set (o':=.mapIter (some b) since (seen.push e.born) ck) q2'
   refine⟨.tuple #[.bool true,e.key,e.val],ChangeMaps.setBlock w1 it (.mapIter (some b) since (seen.push e.born) ck),Cm [rB true,rS p.1,enc p.2],H.set i (.mit b it m (Br enc ys') (some (p.1,enc p.2))),Z,by simp[execOp,ha.eval hx,r3],Fz.le.refl _,⟨[.bool true,e.key,e.val],rfl,rfl,?_,?_,trivial⟩,hd.set hi rfl rfl rfl (by simp[ChangeMaps.setBlock]) (λk' _ hk'=>t2 k' (λe'=>hk' (by simp[Ent.foot,e']))) ?_ (λk' hk'=>.inl (by simpa[Ent.foot] using hk')),h1 p ys' s1⟩
   ·show e.key = .string (B p.1);rw[s2];exact e2
   ·rw[s3];exact e3
   ·exact⟨es,ck,seen.push e.born,since,ck,(t2 b q7).trans q1',t1,q3,q4,Nat.le_trans q5 q6,Adf _,q7,⟨f.eraseIdx j,s4,by rw[hleft];exact q9.erase j⟩,rfl,seen,e,rfl,(List.mem_filter.1 r1).1,by rw[s2];exact e2,by rw[s3];exact e3⟩) hn
theorem St.unmit {Z:Fz} {w:World} (h:St c H Z w) (hi:H[i]? =some (.mit b it m lf cur)):St c (H.set i (.map b m)) Z w:=by
 obtain⟨es,ck,seen,since,c0,q1,q2,q3,_⟩:=h.ent hi
 exact h.set hi rfl rfl rfl (Adf _) (λ_ _ _=>rfl) ⟨es,ck,q1,q3⟩ (by simp[Ent.foot])
theorem WK.unmit (hi:H[i]? =some (.mit b it m lf cur)) (h:WK n c K l (H.set i (.map b m))):WK n c K l H:=λa w Z ha hw=>h a w Z ha (hw.unmit hi)
theorem WC.unmit (hi:H[i]? =some (.mit b it m lf cur)) (h:WC P n c cx Q l (H.set i (.map b m))):WC P n c cx Q l H:=λa w Z ha hw=>h a w Z ha (hw.unmit hi)
theorem WL.unmit (hi:H[i]? =some (.mit b it m lf cur)) (h:WL P n c ops Q rest l (H.set i (.map b m))):WL P n c ops Q rest l H:=λa w Z ha hw=>h a w Z ha (hw.unmit hi)
theorem St.uncur {Z:Fz} {w:World} (h:St c H Z w) (hi:H[i]? =some (.mit b it m lf cur)):St c (H.set i (.mit b it m lf none)) Z w:=by
 obtain⟨es,ck,seen,since,c0,q1,q2,q3,q4,q5,q6,q7,q8,_⟩:=h.ent hi
 exact h.set hi rfl rfl rfl (Adf _) (λ_ _ _=>rfl) ⟨es,ck,seen,since,c0,q1,q2,q3,q4,q5,q6,q7,q8,trivial⟩ (λk hk=>.inl (by simpa[Ent.foot] using hk))
theorem WK.uncur (hi:H[i]? =some (.mit b it m lf cur)) (h:WK n c K l (H.set i (.mit b it m lf none))):WK n c K l H:=λa w Z ha hw=>h a w Z ha (hw.uncur hi)
theorem Z9 {dd:Option Nat} {g:Option (Nat×Bool)} (hx:ev l x=some (rv (.pointer (some ⟨it,0,none⟩)))) (hi:H[i]? =some (.mit b it m lf (some (k,r)))) :
  Bq P n c l H { dst:=dd,op:=.entry x,type:=ty,pos:=pos,after:=af,guard:=g } (Cm [rS k,r]):=λa w Z ha hw=>by
 obtain⟨es,ck,seen,since,c0,q1,q2,q3,q4,q5,q6,q7,q8,rfl,s0,e,rfl,h1,h2,h3⟩:=hw.ent hi
 exact⟨.tuple #[e.key,e.val],⟨[e.key,e.val],rfl,h2,h3,trivial⟩,by simp[execOp,ha.eval hx,run_entry_at w it b since s0 es c0 e q2 q1 h1 q3.2.1]⟩
end
section
variable {P : Program} {n : Nat} {c : Cx} {opsA : Array Oper} {Q : Exit → Act → World → Prop} {l : Fr} {H : List Ent} {d : Nat} {ty : TypeId} {pos : String} {af : Array Edge}
end
section
variable {P : Program} {n : Nat} {c : Cx} {ops : Array Oper} {Q : Exit → Act → World → Prop} {rest : List Oper} {l : Fr} {H H' : List Ent} {d : Nat} {d' : Option Nat} {x y z3 : Operand} {ty t t' e : TypeId} {pos : String} {af : Array Edge} {g : Option (Nat × Bool)} {v u : Value} {r : Rp} {sz : Nat}
theorem QG {xs:List Int} (hs:P.underlying t=some (.slice e)) (hd:P.underlying t'=some .string) (he:P.underlying e=some (.int .u8)) (hx:ev l x=some (AV 1 (xs.map Bi))) :
  Bq P n c l H { dst:=d',op:=.convert t t' x,type:=ty,pos:=pos,after:=af,guard:=g } (rS (Id xs)):=λa w Z ha hw=>by
 obtain⟨us,h3,h4⟩:=Ja.z (P:=P) (ys:=xs) (enc:=Bi) hx rfl a w Z ha hw
 rw[SE] at h3
 have e2:=Bz.eq_rv h3
 subst e2
 refine⟨.string (B (Id xs)),rfl,?_⟩
 obtain⟨_,h2⟩:=h4
 rcases h2 with⟨hv,hz⟩ | ⟨b,cap,hv,hcell⟩
 ·have hx0:xs=[]:=List.eq_nil_of_length_eq_zero hz
  subst hx0
  have:=run_convert_bytes_string w t t' e none 0 0 hs he hd
  simp only[execOp,hv]
  have e3:(Conv.bytesToString (.slice none 0 0)).run P w = .ok (.string (B [])) w:=rfl
  rw[e3] at this
  simp[this,Id]
 ·have hld:=run_loadCells_list (P:=P) w b (xs.map λc=>Value.int .u8 c) hcell
  rw[AcY] at hld
  have h4:=run_bytesToString w b xs.length cap xs hld
  have h5:=run_convert_bytes_string w t t' e (some b) xs.length cap hs he hd
  have h6:=Yo xs []
  rw[h4,show ByteArray.empty=B [] from rfl,h6] at h5
  simp[execOp,hv,h5]
end
end Go.Proofs.YtjfnokmpfekniaaGreatDoor.Q
namespace Go.Proofs
open Go.Shelf
end Go.Proofs
namespace Go.Proofs.YtjfnokmpfekniaaGreatDoor.Q
open Go Go.RowKit Go.Maps Go.Sort Go.Shelf Go.Proofs
set_option linter.unusedVariables false
set_option maxHeartbeats 1000000
end Go.Proofs.YtjfnokmpfekniaaGreatDoor.Q
