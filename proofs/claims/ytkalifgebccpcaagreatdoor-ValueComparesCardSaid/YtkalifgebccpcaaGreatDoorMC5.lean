/-
  Texts of the proof, put together: WVg, OkValueCompares, LvA, LvB, LvC, LvD, LvE, LvF, LvG, LvH, LvI, LvJ, LvK, LvL, LvM, LvN, LvO, LvP, LcA, LcB, LcC, LcD, LcE, LcF.
-/
import Derived.Test.YtkalifgebccpcaaGreatDoorMC4
import GoSem.ClaimData
/-
  Walks, printed by a small program of ours (gq.py).
-/
namespace Go.Proofs.YtkalifgebccpcaaGreatDoor.Q
open Go Go.RowKit
set_option linter.unusedVariables false
set_option linter.unusedSimpArgs false
set_option maxRecDepth 100000
set_option maxHeartbeats 4000000
theorem info9 : ∃ inf, Tryz.prog.info? 9 = some inf ∧ inf.zero = some (.string ⟨#[]⟩) ∧ inf.size = 1 ∧ inf.bytes = 16 := by
  have key : (Tryz.prog.info? 9).map (fun i => (i.zero, i.size, i.bytes)) = some (some (.string ⟨#[]⟩), 1, 16) := by kernel_rfl
  obtain ⟨inf, h1, h2⟩ := Option.map_eq_some_iff.1 key
  simp only [Prod.mk.injEq] at h2
  exact ⟨inf, h1, h2.1, h2.2.1, h2.2.2⟩
theorem info23 : ∃ inf, Tryz.prog.info? 23 = some inf ∧ inf.zero = some (.slice none 0 0) ∧ inf.size = 1 ∧ inf.bytes = 24 := by
  have key : (Tryz.prog.info? 23).map (fun i => (i.zero, i.size, i.bytes)) = some (some (.slice none 0 0), 1, 24) := by kernel_rfl
  obtain ⟨inf, h1, h2⟩ := Option.map_eq_some_iff.1 key
  simp only [Prod.mk.injEq] at h2
  exact ⟨inf, h1, h2.1, h2.2.1, h2.2.2⟩
theorem rOrder_w (a : Int) (b : Int) (r : Int) (h : rOrder a b = some r) : Fn Tryz.prog GE 78 [rI .i64 a, rI .i64 b] [] (fun R H => R = rI .i64 r ∧ H = []) := by
 refine enter (n := 11) Tryz.func78 rfl Tryz.ntmps78 rfl (fun w Z => ?_)
 refine wc_as (l' := [(0, rI .i64 a), (1, rI .i64 b)]) (H' := []) rfl rfl ?_
 unfold rOrder at h
 refine wc_sr ?_
 refine wv (r := rI .i64 0) (o_assign rfl) ?_
 refine wl_x ?_
 refine wc_seq ?_
 refine wc_sr ?_
 refine wm rfl ?_
 refine wm rfl ?_
 refine wv (o_lt rfl rfl) ?_
 refine wl_x ?_
 refine wc_cond (b := decide (a < b)) rfl (fun c1 => ?_) (fun c1 => ?_)
 ·have h2 := cnd_t c1 h
  refine wc_sr ?_
  refine wv (r := rI .i64 (-1)) (o_assign rfl) ?_
  refine wl_x ?_
  refine wc_ret ?_
  refine wk_then_ret ?_
  obtain rfl := some_e h2
  exact wk_ret (r_1 Tryz.results78 (rv_t rfl)) sN ⟨rfl, rfl⟩
 ·have h3 := cnd_f c1 h
  refine wc_skip ?_
  refine wk_x ?_
  refine wc_seq ?_
  refine wc_sr ?_
  refine wm rfl ?_
  refine wm rfl ?_
  refine wv (o_gt rfl rfl) ?_
  refine wl_x ?_
  refine wc_cond (b := decide (b < a)) rfl (fun c4 => ?_) (fun c4 => ?_)
  ·have h5 := cnd_t c4 h3
   refine wc_sr ?_
   refine wv (r := rI .i64 1) (o_assign rfl) ?_
   refine wl_x ?_
   refine wc_ret ?_
   refine wk_then_ret ?_
   obtain rfl := some_e h5
   exact wk_ret (r_1 Tryz.results78 (rv_t rfl)) sN ⟨rfl, rfl⟩
  ·have h6 := cnd_f c4 h3
   refine wc_skip ?_
   refine wk_x ?_
   refine wc_sr ?_
   refine wv (r := rI .i64 0) (o_assign rfl) ?_
   refine wl_x ?_
   refine wc_ret ?_
   obtain rfl := some_e h6
   exact wk_ret (r_1 Tryz.results78 (rv_t rfl)) sN ⟨rfl, rfl⟩

theorem rWords_w (a : Str) (b : Str) (r : Int) (h : rWords a b = some r) : Fn Tryz.prog GE 79 [rS a, rS b] [] (fun R H => R = rI .i64 r ∧ H = []) := by
 refine enter (n := 11) Tryz.func79 rfl Tryz.ntmps79 rfl (fun w Z => ?_)
 refine wc_as (l' := [(0, rS a), (1, rS b)]) (H' := []) rfl rfl ?_
 unfold rWords at h
 refine wc_sr ?_
 refine wv (r := rI .i64 0) (o_assign rfl) ?_
 refine wl_x ?_
 refine wc_seq ?_
 refine wc_sr ?_
 refine wm rfl ?_
 refine wm rfl ?_
 refine wv (o_slt rfl rfl) ?_
 refine wl_x ?_
 refine wc_cond (b := sLess a b) rfl (fun c1 => ?_) (fun c1 => ?_)
 ·have h2 := cnd_t c1 h
  refine wc_sr ?_
  refine wv (r := rI .i64 (-1)) (o_assign rfl) ?_
  refine wl_x ?_
  refine wc_ret ?_
  refine wk_then_ret ?_
  obtain rfl := some_e h2
  exact wk_ret (r_1 Tryz.results79 (rv_t rfl)) sN ⟨rfl, rfl⟩
 ·have h3 := cnd_f c1 h
  refine wc_skip ?_
  refine wk_x ?_
  refine wc_seq ?_
  refine wc_sr ?_
  refine wm rfl ?_
  refine wm rfl ?_
  refine wv (o_sgt rfl rfl) ?_
  refine wl_x ?_
  refine wc_cond (b := !(sLess a b || decide (a = b))) rfl (fun c4 => ?_) (fun c4 => ?_)
  ·have h5 := cnd_t c4 h3
   refine wc_sr ?_
   refine wv (r := rI .i64 1) (o_assign rfl) ?_
   refine wl_x ?_
   refine wc_ret ?_
   refine wk_then_ret ?_
   obtain rfl := some_e h5
   exact wk_ret (r_1 Tryz.results79 (rv_t rfl)) sN ⟨rfl, rfl⟩
  ·have h6 := cnd_f c4 h3
   refine wc_skip ?_
   refine wk_x ?_
   refine wc_sr ?_
   refine wv (r := rI .i64 0) (o_assign rfl) ?_
   refine wl_x ?_
   refine wc_ret ?_
   obtain rfl := some_e h6
   exact wk_ret (r_1 Tryz.results79 (rv_t rfl)) sN ⟨rfl, rfl⟩

theorem rComparem_w (F : Nat) (rec_rCompare : (List TApiCell) → Int → (List TApiCell) → Int → Option (Int)) (ih_rCompare : (∀ (a : (List TApiCell)) (i : Int) (b : (List TApiCell)) (k : Int) (r : Int), rec_rCompare a i b k = some r → Fn Tryz.prog GE 50 [rSl 4 (List.map eTApiCell a), rI .i64 i, rSl 4 (List.map eTApiCell b), rI .i64 k] [] (fun R H => R = rI .i64 r ∧ H = []))) (a : (List TApiCell)) (i : Int) (b : (List TApiCell)) (k : Int) (r : Int) (h : rComparem F rec_rCompare a i b k = some r) : Fn Tryz.prog GE 50 [rSl 4 (List.map eTApiCell a), rI .i64 i, rSl 4 (List.map eTApiCell b), rI .i64 k] [] (fun R H => R = rI .i64 r ∧ H = []) := by
 refine enter (n := 109) Tryz.func50 rfl Tryz.ntmps50 rfl (fun w Z => ?_)
 refine wc_as (l' := [(0, rSl 4 (List.map eTApiCell a)), (1, rI .i64 i), (2, rSl 4 (List.map eTApiCell b)), (3, rI .i64 k)]) (H' := []) rfl rfl ?_
 unfold rComparem at h
 refine wc_sr ?_
 refine wv (r := rI .i64 0) (o_assign rfl) ?_
 refine wl_y ?_
 refine wm rfl ?_
 refine wm rfl ?_
 obtain ⟨g1, h2⟩ := chk_e h
 refine wv (o_ix_z (enc := eTApiCell) (ys := a) Tryz.underlying23 Tryz.sizeOf63 rfl rfl g1) ?_
 refine wv (o_load_za Tryz.isAgg63 Tryz.sizeOf63 rfl rfl rfl) ?_
 refine w_alloc (cs := [rI .i64 0, rI .i64 0, rS ([] : Str), rI .i64 0]) Tryz.zeroValue63 rfl rfl (fun b3 => ?_)
 refine u_store_agg (i := 0) Tryz.sizeOf63 rfl rfl rfl (OneAll.c rfl) rfl rfl (cs' := [rI .i64 ((at' a i).fKind), rI .i64 ((at' a i).fInt), rS ((at' a i).fStr), rI .i64 ((at' a i).fN)]) rfl (H' := [.blk b3 (eTApiCell (at' a i)) 63]) rfl ?_
 refine wl_y ?_
 refine wm rfl ?_
 refine wm rfl ?_
 obtain ⟨g4, h5⟩ := chk_e h2
 refine wv (o_ix_z (enc := eTApiCell) (ys := b) Tryz.underlying23 Tryz.sizeOf63 rfl rfl g4) ?_
 refine wv (o_load_za Tryz.isAgg63 Tryz.sizeOf63 rfl rfl rfl) ?_
 refine w_alloc (cs := [rI .i64 0, rI .i64 0, rS ([] : Str), rI .i64 0]) Tryz.zeroValue63 rfl rfl (fun b6 => ?_)
 refine u_store_agg (i := 0) Tryz.sizeOf63 rfl rfl rfl (OneAll.c rfl) rfl rfl (cs' := [rI .i64 ((at' b k).fKind), rI .i64 ((at' b k).fInt), rS ((at' b k).fStr), rI .i64 ((at' b k).fN)]) rfl (H' := [.blk b6 (eTApiCell (at' b k)) 63, .blk b3 (eTApiCell (at' a i)) 63]) rfl ?_
 refine wl_x ?_
 refine wc_seq ?_
 refine wc_sr ?_
 refine wv (o_fieldAddr Tryz.underlying63 rfl Tryz.sizeOf61 rfl rfl) ?_
 refine wv (o_load (i := 1) Tryz.isAgg61 rfl rfl rfl) ?_
 refine wv (o_fieldAddr Tryz.underlying63 rfl Tryz.sizeOf61 rfl rfl) ?_
 refine wv (o_load (i := 0) Tryz.isAgg61 rfl rfl rfl) ?_
 refine wv (o_ne rfl rfl) ?_
 refine wl_x ?_
 refine wc_cond (b := !decide (((at' a i).fKind) = ((at' b k).fKind))) rfl (fun c7 => ?_) (fun c7 => ?_)
 ·have h8 := cnd_t c7 h5
  refine wc_sr ?_
  refine wv (o_fieldAddr Tryz.underlying63 rfl Tryz.sizeOf61 rfl rfl) ?_
  refine wv (o_load (i := 1) Tryz.isAgg61 rfl rfl rfl) ?_
  refine wv (o_fieldAddr Tryz.underlying63 rfl Tryz.sizeOf61 rfl rfl) ?_
  refine wv (o_load (i := 0) Tryz.isAgg61 rfl rfl rfl) ?_
  obtain ⟨r9, e11, h10⟩ := obn_e h8
  refine wc0 Tryz.call78 (rOrder_w ((at' a i).fKind) ((at' b k).fKind) r9 e11) rfl ?_
  refine wa rfl ?_
  refine wl_x ?_
  refine wc_ret ?_
  refine wk_then_ret ?_
  obtain rfl := some_e h10
  exact wk_ret (r_1 Tryz.results50 (rv_t rfl)) (sS (sS sN)) ⟨rfl, rfl⟩
 ·have h12 := cnd_f c7 h5
  refine wc_skip ?_
  refine wk_x ?_
  refine wc_seq ?_
  refine wc_seq_mid [(0, rSl 4 (List.map eTApiCell a)), (1, rI .i64 i), (2, rSl 4 (List.map eTApiCell b)), (3, rI .i64 k), (9, rv (.pointer (some ⟨b3, 0, none⟩))), (10, rv (.pointer (some ⟨b6, 0, none⟩))), (39, rB ((decide (((at' a i).fKind) = 2)) || (decide (((at' a i).fKind) = 3))))] [.blk b6 (eTApiCell (at' b k)) 63, .blk b3 (eTApiCell (at' a i)) 63] ?_ ?_
  ·refine wc_region ?_
   refine wv (o_fieldAddr Tryz.underlying63 rfl Tryz.sizeOf61 rfl rfl) ?_
   refine wv (o_load (i := 1) Tryz.isAgg61 rfl rfl rfl) ?_
   refine wv (o_eq rfl rfl) ?_
   refine wm rfl ?_
   refine bsplit (decide (((at' a i).fKind) = 2)) (fun c13 => ?_) (fun c13 => ?_)
   ·refine wf c13 ?_
    refine wf c13 ?_
    refine wf c13 ?_
    refine wv (r := rB true) (o_pick_t (b := decide (((at' a i).fKind) = 2)) rfl c13 rfl) ?_
    refine wl_nil ?_
    exact wtc c13
   ·refine wo c13 ?_
    refine wv (o_fieldAddr Tryz.underlying63 rfl Tryz.sizeOf61 rfl rfl) ?_
    refine wo c13 ?_
    refine wv (o_load (i := 1) Tryz.isAgg61 rfl rfl rfl) ?_
    refine wo c13 ?_
    refine wv (o_eq rfl rfl) ?_
    refine wpf rfl c13 rfl ?_
    refine wl_nil ?_
    exact wtc c13
  refine wc_cond (b := ((decide (((at' a i).fKind) = 2)) || (decide (((at' a i).fKind) = 3)))) rfl (fun c14 => ?_) (fun c14 => ?_)
  ·have h15 := cnd_t c14 h12
   refine wc_sr ?_
   refine wv (o_fieldAddr Tryz.underlying63 rfl Tryz.sizeOf3 rfl rfl) ?_
   refine wv (o_load (i := 1) Tryz.isAgg3 rfl rfl rfl) ?_
   refine wv (o_fieldAddr Tryz.underlying63 rfl Tryz.sizeOf3 rfl rfl) ?_
   refine wv (o_load (i := 0) Tryz.isAgg3 rfl rfl rfl) ?_
   obtain ⟨r16, e18, h17⟩ := obn_e h15
   refine wc0 Tryz.call78 (rOrder_w ((at' a i).fInt) ((at' b k).fInt) r16 e18) rfl ?_
   refine wa rfl ?_
   refine wl_x ?_
   refine wc_ret ?_
   refine wk_then_ret ?_
   obtain rfl := some_e h17
   exact wk_ret (r_1 Tryz.results50 (rv_t rfl)) (sS (sS sN)) ⟨rfl, rfl⟩
  ·have h19 := cnd_f c14 h12
   refine wc_skip ?_
   refine wk_x ?_
   refine wc_seq ?_
   refine wc_sr ?_
   refine wv (o_fieldAddr Tryz.underlying63 rfl Tryz.sizeOf61 rfl rfl) ?_
   refine wv (o_load (i := 1) Tryz.isAgg61 rfl rfl rfl) ?_
   refine wv (o_eq rfl rfl) ?_
   refine wl_x ?_
   refine wc_cond (b := decide (((at' a i).fKind) = 4)) rfl (fun c20 => ?_) (fun c20 => ?_)
   ·have h21 := cnd_t c20 h19
    refine wc_sr ?_
    refine wv (o_fieldAddr Tryz.underlying63 rfl Tryz.sizeOf9 rfl rfl) ?_
    refine wv (o_load (i := 1) Tryz.isAgg9 rfl rfl rfl) ?_
    refine wv (o_fieldAddr Tryz.underlying63 rfl Tryz.sizeOf9 rfl rfl) ?_
    refine wv (o_load (i := 0) Tryz.isAgg9 rfl rfl rfl) ?_
    obtain ⟨r22, e24, h23⟩ := obn_e h21
    refine wc0 Tryz.call79 (rWords_w ((at' a i).fStr) ((at' b k).fStr) r22 e24) rfl ?_
    refine wa rfl ?_
    refine wl_x ?_
    refine wc_ret ?_
    refine wk_then_ret ?_
    obtain rfl := some_e h23
    exact wk_ret (r_1 Tryz.results50 (rv_t rfl)) (sS (sS sN)) ⟨rfl, rfl⟩
   ·have h25 := cnd_f c20 h19
    refine wc_skip ?_
    refine wk_x ?_
    refine wc_sr ?_
    refine wm rfl ?_
    obtain ⟨g26, h27⟩ := chk_e h25
    refine wv (o_add rfl rfl g26) ?_
    refine wa rfl ?_
    refine wl_y ?_
    refine wm rfl ?_
    obtain ⟨g28, h29⟩ := chk_e h27
    refine wv (o_add rfl rfl g28) ?_
    refine wa rfl ?_
    refine wl_x ?_
    refine wc_seq ?_
    refine wc_sr ?_
    refine wv (r := rI .i64 0) (o_assign rfl) ?_
    refine wl_x ?_
    refine wc_block ?_
    obtain ⟨o179, eo180, hK181⟩ := obn_e h29
    refine wc_loop2 (S := Nat × (Int × Int × Int) × (Unit)) (V := (Unit) × (Unit)) 0 (fun σ => lop (fun σ => rCompare_b1 F a i b k rec_rCompare σ.1 σ.2.1 σ.2.2) σ.1 σ.2.1 = some o179) (fun σ => [(0, rSl 4 (List.map eTApiCell a)), (1, rI .i64 σ.2.1.1), (2, rSl 4 (List.map eTApiCell b)), (3, rI .i64 σ.2.1.2.1), (9, rv (.pointer (some ⟨b3, 0, none⟩))), (10, rv (.pointer (some ⟨b6, 0, none⟩))), (11, rI .i64 σ.2.1.2.2)]) (fun σ => [.blk b6 (eTApiCell (at' b k)) 63, .blk b3 (eTApiCell (at' a i)) 63]) (fun σ => σ.1) (F, (i + 1, k + 1, 0), ()) eo180 (Sub.c rfl (Sub.c rfl (Sub.c5 rfl rfl rfl rfl rfl Sub.nil))) (sC (sC sN)) (fun σ => rCompare_k1 a i b k  = some r) (fun σ => [(9, rv (.pointer (some ⟨b3, 0, none⟩))), (10, rv (.pointer (some ⟨b6, 0, none⟩)))]) (fun σ => [.blk b6 (eTApiCell (at' b k)) 63, .blk b3 (eTApiCell (at' a i)) 63]) ?_ ?_
    ·rintro ⟨n187, ⟨x127, x128, x129⟩, ⟨⟩⟩ hi185
     refine wc_as (l' := [(0, rSl 4 (List.map eTApiCell a)), (1, rI .i64 x127), (2, rSl 4 (List.map eTApiCell b)), (3, rI .i64 x128), (9, rv (.pointer (some ⟨b3, 0, none⟩))), (10, rv (.pointer (some ⟨b6, 0, none⟩))), (11, rI .i64 x129)]) (H' := [.blk b6 (eTApiCell (at' b k)) 63, .blk b3 (eTApiCell (at' a i)) 63]) rfl rfl ?_
     obtain ⟨m184, rfl, t182, h186, ht183⟩ := lop_e hi185
     replace h186 : rCompare_b1 F a i b k rec_rCompare x127 x128 x129 = some t182 := h186
     unfold rCompare_b1 at h186
     refine wc_seq ?_
     refine wc_seq_mid [(0, rSl 4 (List.map eTApiCell a)), (1, rI .i64 x127), (2, rSl 4 (List.map eTApiCell b)), (3, rI .i64 x128), (9, rv (.pointer (some ⟨b3, 0, none⟩))), (10, rv (.pointer (some ⟨b6, 0, none⟩))), (11, rI .i64 x129), (66, rB ((decide (x129 < ((at' a i).fN))) && (decide (x129 < ((at' b k).fN)))))] [.blk b6 (eTApiCell (at' b k)) 63, .blk b3 (eTApiCell (at' a i)) 63] ?_ ?_
     ·refine wc_region ?_
      refine wm rfl ?_
      refine wv (o_fieldAddr Tryz.underlying63 rfl Tryz.sizeOf3 rfl rfl) ?_
      refine wv (o_load (i := 1) Tryz.isAgg3 rfl rfl rfl) ?_
      refine wv (o_lt rfl rfl) ?_
      refine wm rfl ?_
      refine bsplit (decide (x129 < ((at' a i).fN))) (fun c188 => ?_) (fun c188 => ?_)
      ·refine wo c188 ?_
       refine wm rfl ?_
       refine wo c188 ?_
       refine wv (o_fieldAddr Tryz.underlying63 rfl Tryz.sizeOf3 rfl rfl) ?_
       refine wo c188 ?_
       refine wv (o_load (i := 0) Tryz.isAgg3 rfl rfl rfl) ?_
       refine wo c188 ?_
       refine wv (o_lt rfl rfl) ?_
       refine wpt rfl c188 rfl ?_
       refine wl_nil ?_
       exact wtc c188
      ·refine wf c188 ?_
       refine wf c188 ?_
       refine wf c188 ?_
       refine wf c188 ?_
       refine wv (r := rB false) (o_pick_f (b := decide (x129 < ((at' a i).fN))) rfl c188 rfl) ?_
       refine wl_nil ?_
       exact wtc c188
     refine wc_cond (b := ((decide (x129 < ((at' a i).fN))) && (decide (x129 < ((at' b k).fN))))) rfl (fun c189 => ?_) (fun c189 => ?_)
     ·have h190 := cnd_t c189 h186
      refine wc_skip ?_
      refine wk_x ?_
      refine wc_seq ?_
      refine wc_block ?_
      refine wc_seq ?_
      refine wc_sr ?_
      refine wv (o_fieldAddr Tryz.underlying63 rfl Tryz.sizeOf61 rfl rfl) ?_
      refine wv (o_load (i := 1) Tryz.isAgg61 rfl rfl rfl) ?_
      refine wv (o_eq rfl rfl) ?_
      refine wl_x ?_
      refine wc_cond (b := decide (((at' a i).fKind) = 6)) rfl (fun c191 => ?_) (fun c191 => ?_)
      ·have h192 := cnd_t c191 h190
       refine wc_seq ?_
       obtain ⟨g193, h194⟩ := chk_e h192
       obtain ⟨g195, h196⟩ := chk_e h194
       refine wc_rdak 10 [0, 1, 2, 3, 9, 10, 11] [⟨[], rSl 4 (List.map eTApiCell a), none, none, none⟩, ⟨[], rI .i64 x127, none, none, none⟩, ⟨[0, 1], rAt (eTApiCell (at' a x127)), none, none, none⟩, ⟨[2], rAt [rS ((at' a x127).fStr), rI .i64 ((at' a x127).fN)], none, none, none⟩, ⟨[3], rS ((at' a x127).fStr), none, none, none⟩, ⟨[], rSl 4 (List.map eTApiCell b), none, none, none⟩, ⟨[], rI .i64 x128, none, none, none⟩, ⟨[5, 6], rAt (eTApiCell (at' b x128)), none, none, none⟩, ⟨[7], rAt [rS ((at' b x128).fStr), rI .i64 ((at' b x128).fN)], none, none, none⟩, ⟨[8], rS ((at' b x128).fStr), none, none, none⟩] ?_ (fun β => ?_)
       ·refine oaq (o_move rfl) ?_
        refine oaq (o_move rfl) ?_
        refine oaq (o_ix_z (enc := eTApiCell) (ys := a) Tryz.underlying23 Tryz.sizeOf63 rfl rfl g193) ?_
        refine oaq (o_fieldAddr_z Tryz.underlying63 rfl Tryz.sizeOf9 rfl rfl) ?_
        refine oaq (o_load_z Tryz.isAgg9 rfl rfl) ?_
        refine oaq (o_move rfl) ?_
        refine oaq (o_move rfl) ?_
        refine oaq (o_ix_z (enc := eTApiCell) (ys := b) Tryz.underlying23 Tryz.sizeOf63 rfl rfl g195) ?_
        refine oaq (o_fieldAddr_z Tryz.underlying63 rfl Tryz.sizeOf9 rfl rfl) ?_
        refine oaq (o_load_z Tryz.isAgg9 rfl rfl) ?_
        exact oae
       refine wl_kza (H1 := [.blk b6 (eTApiCell (at' b k)) 63, .blk b3 (eTApiCell (at' a i)) 63]) [72, 73, 74, 75, 76, 77, 78, 79, 80, 81, 0, 1, 2, 3, 9, 10, 11] ?_
       obtain ⟨r197, e199, h198⟩ := obn_e h196
       refine wc0 Tryz.call79 (rWords_w ((at' a x127).fStr) ((at' b x128).fStr) r197 e199) rfl ?_
       refine wa rfl ?_
       refine wl_x ?_
       refine wc_seq ?_
       refine wc_sr ?_
       refine wm rfl ?_
       refine wv (o_ne rfl rfl) ?_
       refine wl_x ?_
       refine wc_cond (b := !decide (r197 = 0)) rfl (fun c200 => ?_) (fun c200 => ?_)
       ·have h201 := cnd_t c200 h198
        refine wc_sr ?_
        refine wm rfl ?_
        refine wa rfl ?_
        refine wl_x ?_
        refine wc_ret ?_
        refine wk_then_ret ?_
        refine wk_then_ret ?_
        refine wk_in_ret ?_
        refine wk_then_ret ?_
        refine wk_then_ret ?_
        refine wk_cut_ret ?_
        have h202 := stp_ret h201 ht183 hK181
        refine wk_in_ret ?_
        refine wk_then_ret ?_
        obtain rfl := some_e h202
        exact wk_ret (r_1 Tryz.results50 (rv_t rfl)) (sS (sS sN)) ⟨rfl, rfl⟩
       ·have h203 := cnd_f c200 h198
        refine wc_skip ?_
        refine wk_x ?_
        refine wc_sr ?_
        refine wm rfl ?_
        obtain ⟨g204, h205⟩ := chk_e h203
        refine wv (o_add rfl rfl g204) ?_
        refine wa rfl ?_
        refine wl_x ?_
        refine wc_region ?_
        refine wm rfl ?_
        obtain ⟨g206, h207⟩ := chk_e h205
        refine wv (o_add rfl rfl g206) ?_
        refine wa rfl ?_
        refine wl_y ?_
        refine wm rfl ?_
        refine wm rfl ?_
        refine wm rfl ?_
        refine wm rfl ?_
        obtain ⟨r208, e210, h209⟩ := obn_e h207
        refine wc0 Tryz.call50 (ih_rCompare a (x127 + 1) b (x128 + 1) r208 e210) rfl ?_
        refine wa rfl ?_
        refine wl_x ?_
        refine wc_seq ?_
        refine wc_sr ?_
        refine wm rfl ?_
        refine wv (o_ne rfl rfl) ?_
        refine wl_x ?_
        refine wc_cond (b := !decide (r208 = 0)) rfl (fun c211 => ?_) (fun c211 => ?_)
        ·have h212 := cnd_t c211 h209
         refine wc_sr ?_
         refine wm rfl ?_
         refine wa rfl ?_
         refine wl_x ?_
         refine wc_ret ?_
         refine wk_then_ret ?_
         refine wk_in_ret ?_
         refine wk_then_ret ?_
         refine wk_then_ret ?_
         refine wk_cut_ret ?_
         have h213 := stp_ret h212 ht183 hK181
         refine wk_in_ret ?_
         refine wk_then_ret ?_
         obtain rfl := some_e h213
         exact wk_ret (r_1 Tryz.results50 (rv_t rfl)) (sS (sS sN)) ⟨rfl, rfl⟩
        ·have h214 := cnd_f c211 h209
         refine wc_skip ?_
         refine wk_x ?_
         refine wc_sr ?_
         refine wm rfl ?_
         refine wm rfl ?_
         obtain ⟨r215, e217, h216⟩ := obn_e h214
         refine wc0 Tryz.call55 (rNext_w F a (x127 + 1) r215 e217) rfl ?_
         refine wa rfl ?_
         refine wl_x ?_
         refine wc_region ?_
         refine wm rfl ?_
         refine wm rfl ?_
         obtain ⟨r218, e220, h219⟩ := obn_e h216
         refine wc0 Tryz.call55 (rNext_w F b (x128 + 1) r218 e220) rfl ?_
         refine wa rfl ?_
         refine wl_nil ?_
         refine wk_in_norm ?_
         refine wk_x ?_
         refine wc_region ?_
         refine wm rfl ?_
         obtain ⟨g221, h222⟩ := chk_e h219
         refine wv (o_add rfl rfl g221) ?_
         refine wa rfl ?_
         refine wl_nil ?_
         have h223 := stp_next h222 ht183
         exact wk_then (wk_some (m184, (r215, r218, x129 + 1), ()) ⟨h223, Nat.lt_succ_self _⟩ (Sub.c rfl (Sub.c rfl (Sub.c5 rfl rfl rfl rfl rfl Sub.nil))) (sC (sC sN)))
      ·have h224 := cnd_f c191 h190
       refine wc_skip ?_
       refine wk_x ?_
       refine wc_sr ?_
       refine wm rfl ?_
       refine wm rfl ?_
       refine wm rfl ?_
       refine wm rfl ?_
       obtain ⟨r225, e227, h226⟩ := obn_e h224
       refine wc0 Tryz.call50 (ih_rCompare a x127 b x128 r225 e227) rfl ?_
       refine wa rfl ?_
       refine wl_x ?_
       refine wc_seq ?_
       refine wc_sr ?_
       refine wm rfl ?_
       refine wv (o_ne rfl rfl) ?_
       refine wl_x ?_
       refine wc_cond (b := !decide (r225 = 0)) rfl (fun c228 => ?_) (fun c228 => ?_)
       ·have h229 := cnd_t c228 h226
        refine wc_sr ?_
        refine wm rfl ?_
        refine wa rfl ?_
        refine wl_x ?_
        refine wc_ret ?_
        refine wk_then_ret ?_
        refine wk_in_ret ?_
        refine wk_then_ret ?_
        refine wk_then_ret ?_
        refine wk_cut_ret ?_
        have h230 := stp_ret h229 ht183 hK181
        refine wk_in_ret ?_
        refine wk_then_ret ?_
        obtain rfl := some_e h230
        exact wk_ret (r_1 Tryz.results50 (rv_t rfl)) (sS (sS sN)) ⟨rfl, rfl⟩
       ·have h231 := cnd_f c228 h226
        refine wc_skip ?_
        refine wk_x ?_
        refine wc_sr ?_
        refine wm rfl ?_
        refine wm rfl ?_
        obtain ⟨r232, e234, h233⟩ := obn_e h231
        refine wc0 Tryz.call55 (rNext_w F a x127 r232 e234) rfl ?_
        refine wa rfl ?_
        refine wl_x ?_
        refine wc_region ?_
        refine wm rfl ?_
        refine wm rfl ?_
        obtain ⟨r235, e237, h236⟩ := obn_e h233
        refine wc0 Tryz.call55 (rNext_w F b x128 r235 e237) rfl ?_
        refine wa rfl ?_
        refine wl_nil ?_
        refine wk_in_norm ?_
        refine wk_x ?_
        refine wc_region ?_
        refine wm rfl ?_
        obtain ⟨g238, h239⟩ := chk_e h236
        refine wv (o_add rfl rfl g238) ?_
        refine wa rfl ?_
        refine wl_nil ?_
        have h240 := stp_next h239 ht183
        exact wk_then (wk_some (m184, (r232, r235, x129 + 1), ()) ⟨h240, Nat.lt_succ_self _⟩ (Sub.c rfl (Sub.c rfl (Sub.c5 rfl rfl rfl rfl rfl Sub.nil))) (sC (sC sN)))
     ·have h241 := cnd_f c189 h186
      refine wc_exit ?_
      refine wk_then_exit ?_
      have h242 := stp_go h241 ht183 hK181
      exact wk_then_exit (wk_cut_hit (wk_some ((), ()) h242 (Sub.c rfl (Sub.c rfl Sub.nil)) (sC (sC sN))))
    ·rintro ⟨⟨⟩, ⟨⟩⟩ h243
     refine wk_as (l' := [(9, rv (.pointer (some ⟨b3, 0, none⟩))), (10, rv (.pointer (some ⟨b6, 0, none⟩)))]) (H' := [.blk b6 (eTApiCell (at' b k)) 63, .blk b3 (eTApiCell (at' a i)) 63]) rfl rfl ?_
     replace h243 : rCompare_k1 a i b k  = some r := h243
     unfold rCompare_k1 at h243
     refine wk_in_hit ?_
     refine wk_x ?_
     refine wc_sr ?_
     refine wv (o_fieldAddr Tryz.underlying63 rfl Tryz.sizeOf3 rfl rfl) ?_
     refine wv (o_load (i := 1) Tryz.isAgg3 rfl rfl rfl) ?_
     refine wv (o_fieldAddr Tryz.underlying63 rfl Tryz.sizeOf3 rfl rfl) ?_
     refine wv (o_load (i := 0) Tryz.isAgg3 rfl rfl rfl) ?_
     obtain ⟨r244, e246, h245⟩ := obn_e h243
     refine wc0 Tryz.call78 (rOrder_w ((at' a i).fN) ((at' b k).fN) r244 e246) rfl ?_
     refine wa rfl ?_
     refine wl_x ?_
     refine wc_ret ?_
     obtain rfl := some_e h245
     exact wk_ret (r_1 Tryz.results50 (rv_t rfl)) (sS (sS sN)) ⟨rfl, rfl⟩

theorem rCompare_all : ∀ F : Nat, (∀ (a : (List TApiCell)) (i : Int) (b : (List TApiCell)) (k : Int) (r : Int), rCompare F a i b k = some r → Fn Tryz.prog GE 50 [rSl 4 (List.map eTApiCell a), rI .i64 i, rSl 4 (List.map eTApiCell b), rI .i64 k] [] (fun R H => R = rI .i64 r ∧ H = []))
  | 0 => (fun _ _ _ _ _ h => by simp [rCompare] at h)
  | nn + 1 => (fun a i b k r h => rComparem_w nn (rCompare nn) (rCompare_all nn) a i b k r (by rw [rCompare] at h; exact h))

theorem rCompare_w (F : Nat) (a : (List TApiCell)) (i : Int) (b : (List TApiCell)) (k : Int) (r : Int) (h : rCompare F a i b k = some r) : Fn Tryz.prog GE 50 [rSl 4 (List.map eTApiCell a), rI .i64 i, rSl 4 (List.map eTApiCell b), rI .i64 k] [] (fun R H => R = rI .i64 r ∧ H = []) := (rCompare_all F) a i b k r h

theorem rCmp_w (F : Nat) (a : (List TApiCell)) (b : (List TApiCell)) (r : Int) (h : rCmp F a b = some r) : Fn Tryz.prog GE 27 [rSl 4 (List.map eTApiCell a), rSl 4 (List.map eTApiCell b)] [] (fun R H => R = rI .i64 r ∧ H = []) := by
 refine enter (n := 16) Tryz.func27 rfl Tryz.ntmps27 rfl (fun w Z => ?_)
 refine wc_as (l' := [(0, rSl 4 (List.map eTApiCell a)), (1, rSl 4 (List.map eTApiCell b))]) (H' := []) rfl rfl ?_
 unfold rCmp at h
 refine wc_sr ?_
 refine wv (r := rI .i64 0) (o_assign rfl) ?_
 refine wl_x ?_
 refine wc_seq ?_
 obtain ⟨g1, h2⟩ := chk_e h
 obtain ⟨g3, h4⟩ := chk_e h2
 refine wc_seq_mid [(0, rSl 4 (List.map eTApiCell a)), (1, rSl 4 (List.map eTApiCell b)), (12, rB ((!decide ((ov (rCheck F a)) = 0)) || (!decide ((ov (rCheck F b)) = 0))))] [] ?_ ?_
 ·refine wc_region ?_
  refine wm rfl ?_
  refine wc0 Tryz.call48 (rCheck_w F a (ov (rCheck F a)) (ov_e g1)) rfl ?_
  refine wv (o_ne rfl rfl) ?_
  refine wm rfl ?_
  refine bsplit (!decide ((ov (rCheck F a)) = 0)) (fun c5 => ?_) (fun c5 => ?_)
  ·refine wf c5 ?_
   refine wf c5 ?_
   refine wf c5 ?_
   refine wv (r := rB true) (o_pick_t (b := !decide ((ov (rCheck F a)) = 0)) rfl c5 rfl) ?_
   refine wl_nil ?_
   exact wtc c5
  ·refine wo c5 ?_
   refine wm rfl ?_
   refine wo c5 ?_
   refine wc0 Tryz.call48 (rCheck_w F b (ov (rCheck F b)) (ov_e (imp_f g3 c5))) rfl ?_
   refine wo c5 ?_
   refine wv (o_ne rfl rfl) ?_
   refine wpf rfl c5 rfl ?_
   refine wl_nil ?_
   exact wtc c5
 refine wc_cond (b := ((!decide ((ov (rCheck F a)) = 0)) || (!decide ((ov (rCheck F b)) = 0)))) rfl (fun c6 => ?_) (fun c6 => ?_)
 ·have h7 := cnd_t c6 h4
  refine wc_sr ?_
  refine wv (r := rI .i64 0) (o_assign rfl) ?_
  refine wl_x ?_
  refine wc_ret ?_
  refine wk_then_ret ?_
  obtain rfl := some_e h7
  exact wk_ret (r_1 Tryz.results27 (rv_t rfl)) sN ⟨rfl, rfl⟩
 ·have h8 := cnd_f c6 h4
  refine wc_skip ?_
  refine wk_x ?_
  refine wc_sr ?_
  refine wm rfl ?_
  refine wm rfl ?_
  obtain ⟨r9, e11, h10⟩ := obn_e h8
  refine wc0 Tryz.call50 (rCompare_w F a 0 b 0 r9 e11) rfl ?_
  refine wa rfl ?_
  refine wl_x ?_
  refine wc_ret ?_
  obtain rfl := some_e h10
  exact wk_ret (r_1 Tryz.results27 (rv_t rfl)) sN ⟨rfl, rfl⟩

theorem vCmpF_w (b_ks : Nat) (v_ks_0 : Value) (b_vs1 : Nat) (v_vs1_0 : Value) (key : Str) (x : (List TApiCell)) (ks : (List Str)) (vs1 : (List (List TApiCell))) (r : Bool × (List Str) × (List (List TApiCell))) (h : vCmpF key x ks vs1 = some r) : Fn Tryz.prog GE 76 [rS key, rSl 4 (List.map eTApiCell x), rv (.pointer (some ⟨b_ks, 0, none⟩)), rv (.pointer (some ⟨b_vs1, 0, none⟩))] [.blk b_ks [rv v_ks_0] 29, .row v_ks_0 9 1 (List.map eS ks), .blk b_vs1 [rv v_vs1_0] 30, .row v_vs1_0 23 1 (List.map eL_TApiCell vs1)] (fun R H => ∃ w2_0 : Value, ∃ w3_0 : Value, R = rB r.1 ∧ H = [.blk b_ks [rv w2_0] 29, .row w2_0 9 1 (List.map eS r.2.1), .blk b_vs1 [rv w3_0] 30, .row w3_0 23 1 (List.map eL_TApiCell r.2.2)]) := by
 refine enter (n := 15) Tryz.func76 rfl Tryz.ntmps76 rfl (fun w Z => ?_)
 refine wc_as (l' := [(0, rS key), (1, rSl 4 (List.map eTApiCell x)), (2, rv (.pointer (some ⟨b_ks, 0, none⟩))), (3, rv (.pointer (some ⟨b_vs1, 0, none⟩)))]) (H' := [.blk b_ks [rv v_ks_0] 29, .row v_ks_0 9 1 (List.map eS ks), .blk b_vs1 [rv v_vs1_0] 30, .row v_vs1_0 23 1 (List.map eL_TApiCell vs1)]) rfl rfl ?_
 unfold vCmpF at h
 refine wc_sr ?_
 refine wv (r := rB false) (o_assign rfl) ?_
 refine wl_y ?_
 refine wv (o_load (i := 0) Tryz.isAgg29 rfl rfl rfl) ?_
 refine wm rfl ?_
 refine w_buildSlice (ys := ([key] : List Str)) (enc := eS) (css := [[rS key]]) (xs := [.tmp 8]) Tryz.underlying29 Tryz.sizeOf9 Tryz.zeroValue9 rfl rfl rfl ⟨Cel.one rfl (Up.refl _), trivial⟩ rfl eS_len rfl rfl rfl (fun b1 => ?_)
 obtain ⟨g3, h4⟩ := chk_e h
 obtain ⟨inf, hinf⟩ := info9
 refine w_append (xs := ks) (ys := ([key] : List Str)) (enc := eS) (i := 2) Tryz.underlying29 hinf.1 hinf.2.1 hinf.2.2.1 hinf.2.2.2 rfl rfl rfl rfl rfl (Src.w (i := 0) rfl rfl) eS_len eS_one g3 rfl (fun v2 => ?_)
 refine u_store (i := 2) Tryz.sizeOf29 rfl rfl (one_row (i := 0) rfl) rfl rfl (cs' := [rv v2]) rfl (H' := [.row v2 9 1 (List.map eS (ks ++ ([key] : List Str))), .row (.slice (some ⟨b1, 0, none⟩) 1 1) 9 1 (List.map eS ([key] : List Str)), .blk b_ks [rv v2] 29, .blk b_vs1 [rv v_vs1_0] 30, .row v_vs1_0 23 1 (List.map eL_TApiCell vs1)]) rfl ?_
 refine wl_y ?_
 refine wv (o_load (i := 3) Tryz.isAgg30 rfl rfl rfl) ?_
 refine wm rfl ?_
 refine w_buildSlice (ys := ([x] : List (List TApiCell))) (enc := eL_TApiCell) (css := [[rSl 4 (List.map eTApiCell x)]]) (xs := [.tmp 12]) Tryz.underlying30 Tryz.sizeOf23 Tryz.zeroValue23 rfl rfl rfl ⟨Cel.one rfl (Up.refl _), trivial⟩ rfl eL_TApiCell_len rfl rfl rfl (fun b5 => ?_)
 obtain ⟨g7, h8⟩ := chk_e h4
 obtain ⟨inf, hinf⟩ := info23
 refine w_append (xs := vs1) (ys := ([x] : List (List TApiCell))) (enc := eL_TApiCell) (i := 5) Tryz.underlying30 hinf.1 hinf.2.1 hinf.2.2.1 hinf.2.2.2 rfl rfl rfl rfl rfl (Src.w (i := 0) rfl rfl) eL_TApiCell_len eL_TApiCell_one g7 rfl (fun v6 => ?_)
 refine u_store (i := 5) Tryz.sizeOf30 rfl rfl (one_row (i := 0) rfl) rfl rfl (cs' := [rv v6]) rfl (H' := [.row v6 23 1 (List.map eL_TApiCell (vs1 ++ ([x] : List (List TApiCell)))), .row (.slice (some ⟨b5, 0, none⟩) 1 1) 23 1 (List.map eL_TApiCell ([x] : List (List TApiCell))), .row v2 9 1 (List.map eS (ks ++ ([key] : List Str))), .row (.slice (some ⟨b1, 0, none⟩) 1 1) 9 1 (List.map eS ([key] : List Str)), .blk b_ks [rv v2] 29, .blk b_vs1 [rv v6] 30]) rfl ?_
 refine wl_y ?_
 refine wv (r := rB true) (o_assign rfl) ?_
 refine wl_x ?_
 refine wc_ret ?_
 refine wk_perm (H2 := [.blk b_ks [rv v2] 29, .row v2 9 1 (List.map eS (ks ++ ([key] : List Str))), .blk b_vs1 [rv v6] 30, .row v6 23 1 (List.map eL_TApiCell (vs1 ++ ([x] : List (List TApiCell)))), .row (.slice (some ⟨b5, 0, none⟩) 1 1) 23 1 (List.map eL_TApiCell ([x] : List (List TApiCell))), .row (.slice (some ⟨b1, 0, none⟩) 1 1) 9 1 (List.map eS ([key] : List Str))]) ((perm_front (i := 4) rfl).trans (List.Perm.cons _ ((perm_front (i := 2) rfl).trans (List.Perm.cons _ ((perm_front (i := 3) rfl).trans (List.Perm.cons _ (List.Perm.refl _))))))) ?_
 obtain rfl := some_e h8
 exact wk_ret (r_1 Tryz.results76 (rv_t rfl)) (sC (sC (sC (sC (sS (sS sN)))))) ⟨v2, v6, rfl, rfl⟩

theorem vCmpP_w (F : Nat) (b_ks : Nat) (v_ks_0 : Value) (b_vs1 : Nat) (v_vs1_0 : Value) (v : (List TApiCell)) (ks : (List Str)) (vs1 : (List (List TApiCell))) (r : (List Str) × (List (List TApiCell))) (h : vCmpP F v ks vs1 = some r) : Fn Tryz.prog GE 52 [rSl 4 (List.map eTApiCell v), rv (.func (.func 76) #[] #[(.pointer (some ⟨b_ks, 0, none⟩)), (.pointer (some ⟨b_vs1, 0, none⟩))])] [.blk b_ks [rv v_ks_0] 29, .row v_ks_0 9 1 (List.map eS ks), .blk b_vs1 [rv v_vs1_0] 30, .row v_vs1_0 23 1 (List.map eL_TApiCell vs1)] (fun R H => ∃ w1_0_0 : Value, ∃ w1_1_0 : Value, R = rv (.tuple #[]) ∧ H = [.blk b_ks [rv w1_0_0] 29, .row w1_0_0 9 1 (List.map eS r.1), .blk b_vs1 [rv w1_1_0] 30, .row w1_1_0 23 1 (List.map eL_TApiCell r.2)]) := by
 refine enter (n := 52) Tryz.func52 rfl Tryz.ntmps52 rfl (fun w Z => ?_)
 refine wc_as (l' := [(0, rSl 4 (List.map eTApiCell v)), (1, rv (.func (.func 76) #[] #[(.pointer (some ⟨b_ks, 0, none⟩)), (.pointer (some ⟨b_vs1, 0, none⟩))]))]) (H' := [.blk b_ks [rv v_ks_0] 29, .row v_ks_0 9 1 (List.map eS ks), .blk b_vs1 [rv v_vs1_0] 30, .row v_vs1_0 23 1 (List.map eL_TApiCell vs1)]) rfl rfl ?_
 unfold vCmpP at h
 refine wc_sr ?_
 refine wv (r := rI .i64 1) (o_assign rfl) ?_
 refine wl_y ?_
 refine wm rfl ?_
 obtain ⟨g1, h2⟩ := chk_e h
 refine wv (o_ix_z (enc := eTApiCell) (ys := v) Tryz.underlying23 Tryz.sizeOf63 rfl rfl g1) ?_
 refine wv (o_fieldAddr_z Tryz.underlying63 rfl Tryz.sizeOf3 rfl rfl) ?_
 refine wv (o_load_z Tryz.isAgg3 rfl rfl) ?_
 refine wv (r := rI .i64 0) (o_move rfl) ?_
 refine wl_x ?_
 refine wc_block ?_
 refine wc_perm (H2 := [.blk b_ks [rv v_ks_0] 29, .blk b_vs1 [rv v_vs1_0] 30, .row v_ks_0 9 1 (List.map eS ks), .row v_vs1_0 23 1 (List.map eL_TApiCell vs1)]) ((perm_front (i := 0) rfl).trans (List.Perm.cons _ ((perm_front (i := 1) rfl).trans (List.Perm.cons _ (List.Perm.refl _))))) ?_
 obtain ⟨o175, eo176, hK177⟩ := obn_e h2
 refine wc_loop2 (S := Nat × (Int × Int × (List Str) × (List (List TApiCell))) × (Value × Value)) (V := ((List Str) × (List (List TApiCell))) × (Value × Value)) 0 (fun σ => lop (fun σ => vCmpP_b1 F v σ.1 σ.2.1 σ.2.2.1 σ.2.2.2) σ.1 σ.2.1 = some o175) (fun σ => [(0, rSl 4 (List.map eTApiCell v)), (1, rv (.func (.func 76) #[] #[(.pointer (some ⟨b_ks, 0, none⟩)), (.pointer (some ⟨b_vs1, 0, none⟩))])), (4, rI .i64 σ.2.1.1), (12, rI .i64 ((at' v 0).fN)), (13, rI .i64 σ.2.1.2.1)]) (fun σ => [.blk b_ks [rv σ.2.2.1] 29, .blk b_vs1 [rv σ.2.2.2] 30, .row σ.2.2.1 9 1 (List.map eS σ.2.1.2.2.1), .row σ.2.2.2 23 1 (List.map eL_TApiCell σ.2.1.2.2.2)]) (fun σ => σ.1) (F, (1, 0, ks, vs1), (v_ks_0, v_vs1_0)) eo176 (Sub.c5 rfl rfl rfl rfl rfl Sub.nil) (sC (sC (sC (sC sN)))) (fun σ => vCmpP_k1 σ.1.1 σ.1.2 = some r) (fun σ => []) (fun σ => [.blk b_ks [rv σ.2.1] 29, .blk b_vs1 [rv σ.2.2] 30, .row σ.2.1 9 1 (List.map eS σ.1.1), .row σ.2.2 23 1 (List.map eL_TApiCell σ.1.2)]) ?_ ?_
 ·rintro ⟨n183, ⟨x111, x112, x113, x115⟩, ⟨v114, v116⟩⟩ hi181
  refine wc_as (l' := [(0, rSl 4 (List.map eTApiCell v)), (1, rv (.func (.func 76) #[] #[(.pointer (some ⟨b_ks, 0, none⟩)), (.pointer (some ⟨b_vs1, 0, none⟩))])), (4, rI .i64 x111), (12, rI .i64 ((at' v 0).fN)), (13, rI .i64 x112)]) (H' := [.blk b_ks [rv v114] 29, .blk b_vs1 [rv v116] 30, .row v114 9 1 (List.map eS x113), .row v116 23 1 (List.map eL_TApiCell x115)]) rfl rfl ?_
  obtain ⟨m180, rfl, t178, h182, ht179⟩ := lop_e hi181
  replace h182 : vCmpP_b1 F v x111 x112 x113 x115 = some t178 := h182
  unfold vCmpP_b1 at h182
  refine wc_sr ?_
  refine wv (o_lt rfl rfl) ?_
  refine wl_x ?_
  refine wc_seq ?_
  refine wc_cond (b := decide (x112 < ((at' v 0).fN))) rfl (fun c184 => ?_) (fun c184 => ?_)
  ·have h185 := cnd_t c184 h182
   refine wc_skip ?_
   refine wk_x ?_
   refine wc_seq ?_
   refine wc_block ?_
   refine wc_sr ?_
   refine wv (r := rS ([] : Str)) (o_assign rfl) ?_
   refine wl_x ?_
   refine wc_seq ?_
   refine wc_sr ?_
   refine wm rfl ?_
   refine wv (o_ix_z (enc := eTApiCell) (ys := v) Tryz.underlying23 Tryz.sizeOf63 rfl rfl g1) ?_
   refine wv (o_fieldAddr_z Tryz.underlying63 rfl Tryz.sizeOf61 rfl rfl) ?_
   refine wv (o_load_z Tryz.isAgg61 rfl rfl) ?_
   refine wv (o_eq rfl rfl) ?_
   refine wl_x ?_
   refine wc_cond (b := decide (((at' v 0).fKind) = 6)) rfl (fun c186 => ?_) (fun c186 => ?_)
   ·have h187 := cnd_t c186 h185
    refine wc_sr ?_
    refine wm rfl ?_
    refine wm rfl ?_
    obtain ⟨g188, h189⟩ := chk_e h187
    refine wv (o_ix_z (enc := eTApiCell) (ys := v) Tryz.underlying23 Tryz.sizeOf63 rfl rfl g188) ?_
    refine wv (o_fieldAddr_z Tryz.underlying63 rfl Tryz.sizeOf9 rfl rfl) ?_
    refine wv (o_load_z Tryz.isAgg9 rfl rfl) ?_
    refine wa rfl ?_
    refine wl_x ?_
    refine wc_region ?_
    refine wm rfl ?_
    obtain ⟨g190, h191⟩ := chk_e h189
    refine wv (o_add rfl rfl g190) ?_
    refine wa rfl ?_
    refine wl_y ?_
    refine wm rfl ?_
    refine wm rfl ?_
    obtain ⟨g192, h193⟩ := chk_e h191
    refine wv (r := rSl 4 (List.map eTApiCell (List.drop (Int.toNat (x111 + 1)) v))) (o_slice_zl Tryz.underlying23 Tryz.sizeOf63 rfl rfl g192) ?_
    obtain ⟨r194, e196, h195⟩ := obn_e h193
    refine wc0 Tryz.call63 (vLook_w F (List.drop (Int.toNat (x111 + 1)) v) r194 e196) rfl ?_
    refine wm rfl ?_
    refine wv (o_extract rfl rfl) ?_
    refine wv (o_extract rfl rfl) ?_
    refine wv (o_extract rfl rfl) ?_
    refine w_alloc (cs := [rI .i64 0, rI .i64 0, rB false, rB false]) Tryz.zeroValue78 rfl rfl (fun b197 => ?_)
    refine wa rfl ?_
    refine u_store_agg (i := 0) Tryz.sizeOf78 rfl rfl rfl (OneAll.c rfl) rfl rfl (cs' := [rI .i64 r194.2.1.fDepth, rI .i64 r194.2.1.fBytes, rB r194.2.1.fOutside, rB r194.2.1.fLong]) rfl (H' := [.blk b197 (eTValueShape r194.2.1) 78, .blk b_ks [rv v114] 29, .blk b_vs1 [rv v116] 30, .row v114 9 1 (List.map eS x113), .row v116 23 1 (List.map eL_TApiCell x115)]) rfl ?_
    refine wa rfl ?_
    refine wl_x ?_
    refine wc_seq ?_
    refine wc_sr ?_
    refine wm rfl ?_
    refine wm rfl ?_
    refine wm rfl ?_
    refine wm rfl ?_
    refine wm rfl ?_
    refine wm rfl ?_
    obtain ⟨g198, h199⟩ := chk_e h195
    refine wv (o_add rfl rfl g198) ?_
    refine wm rfl ?_
    refine wm rfl ?_
    refine wv (o_add rfl rfl g198) ?_
    obtain ⟨g200, h201⟩ := chk_e h199
    obtain ⟨g202, h203⟩ := chk_e h201
    refine wv (r := rSl 4 (List.map eTApiCell (List.take (Int.toNat ((x111 + 1) + r194.1) - Int.toNat (x111 + 1)) (List.drop (Int.toNat (x111 + 1)) v)))) (o_slice_zm Tryz.underlying23 Tryz.sizeOf63 rfl rfl rfl rfl g200 g202) ?_
    obtain ⟨r204, e206, h205⟩ := obn_e h203
    refine w_callc (rs := [rS ((at' v x111).fStr), rSl 4 (List.map eTApiCell (List.take (Int.toNat ((x111 + 1) + r194.1) - Int.toNat (x111 + 1)) (List.drop (Int.toNat (x111 + 1)) v)))]) (Hin := [.blk b_ks [rv v114] 29, .row v114 9 1 (List.map eS x113), .blk b_vs1 [rv v116] 30, .row v116 23 1 (List.map eL_TApiCell x115)]) (Hr := [.blk b197 (eTValueShape r194.2.1) 78]) Tryz.call76 rfl rfl ((perm_front (i := 1) rfl).trans (List.Perm.cons _ ((perm_front (i := 2) rfl).trans (List.Perm.cons _ ((perm_front (i := 1) rfl).trans (List.Perm.cons _ ((perm_front (i := 1) rfl).trans (List.Perm.cons _ (List.Perm.refl _))))))))) (vCmpF_w b_ks v114 b_vs1 v116 ((at' v x111).fStr) (List.take (Int.toNat ((x111 + 1) + r194.1) - Int.toNat (x111 + 1)) (List.drop (Int.toNat (x111 + 1)) v)) x113 x115 r204 e206) rfl ?_
    rintro _ _ ⟨v207, v208, rfl, rfl⟩
    refine wv (o_not rfl) ?_
    refine wl_x ?_
    refine wc_cond (b := !r204.1) rfl (fun c209 => ?_) (fun c209 => ?_)
    ·have h210 := cnd_t c209 h205
     refine wc_ret ?_
     refine wk_then_ret ?_
     refine wk_in_ret ?_
     refine wk_then_ret ?_
     refine wk_then_ret ?_
     refine wk_cut_ret ?_
     have h211 := stp_ret h210 ht179 hK177
     refine wk_in_ret ?_
     obtain rfl := some_e h211
     exact wk_ret (r_0 Tryz.results52) (sC (sC (sC (sC (sS sN))))) ⟨v207, v208, rfl, rfl⟩
    ·have h212 := cnd_f c209 h205
     refine wc_skip ?_
     refine wk_x ?_
     refine wc_region ?_
     refine wm rfl ?_
     refine wm rfl ?_
     refine wv (o_add rfl rfl g198) ?_
     refine wa rfl ?_
     refine wl_nil ?_
     refine wk_in_norm ?_
     refine wk_x ?_
     refine wc_region ?_
     obtain ⟨g213, h214⟩ := chk_e h212
     refine wv (o_add rfl rfl g213) ?_
     refine wm rfl ?_
     refine wl_nil ?_
     refine wk_perm (H2 := [.blk b_ks [rv v207] 29, .blk b_vs1 [rv v208] 30, .row v207 9 1 (List.map eS r204.2.1), .row v208 23 1 (List.map eL_TApiCell r204.2.2), .blk b197 (eTValueShape r194.2.1) 78]) ((perm_front (i := 0) rfl).trans (List.Perm.cons _ ((perm_front (i := 1) rfl).trans (List.Perm.cons _ (List.Perm.refl _))))) ?_
     have h215 := stp_next h214 ht179
     exact wk_then (wk_some (m180, ((x111 + 1) + r194.1, x112 + 1, r204.2.1, r204.2.2), (v207, v208)) ⟨h215, Nat.lt_succ_self _⟩ (Sub.c5 rfl rfl rfl rfl rfl Sub.nil) (sC (sC (sC (sC (sS sN))))))
   ·have h216 := cnd_f c186 h185
    refine wc_skip ?_
    refine wk_x ?_
    refine wc_sr ?_
    refine wm rfl ?_
    refine wm rfl ?_
    obtain ⟨g217, h218⟩ := chk_e h216
    refine wv (r := rSl 4 (List.map eTApiCell (List.drop (Int.toNat x111) v))) (o_slice_zl Tryz.underlying23 Tryz.sizeOf63 rfl rfl g217) ?_
    obtain ⟨r219, e221, h220⟩ := obn_e h218
    refine wc0 Tryz.call63 (vLook_w F (List.drop (Int.toNat x111) v) r219 e221) rfl ?_
    refine wm rfl ?_
    refine wv (o_extract rfl rfl) ?_
    refine wv (o_extract rfl rfl) ?_
    refine wv (o_extract rfl rfl) ?_
    refine w_alloc (cs := [rI .i64 0, rI .i64 0, rB false, rB false]) Tryz.zeroValue78 rfl rfl (fun b222 => ?_)
    refine wa rfl ?_
    refine u_store_agg (i := 0) Tryz.sizeOf78 rfl rfl rfl (OneAll.c rfl) rfl rfl (cs' := [rI .i64 r219.2.1.fDepth, rI .i64 r219.2.1.fBytes, rB r219.2.1.fOutside, rB r219.2.1.fLong]) rfl (H' := [.blk b222 (eTValueShape r219.2.1) 78, .blk b_ks [rv v114] 29, .blk b_vs1 [rv v116] 30, .row v114 9 1 (List.map eS x113), .row v116 23 1 (List.map eL_TApiCell x115)]) rfl ?_
    refine wa rfl ?_
    refine wl_x ?_
    refine wc_seq ?_
    refine wc_sr ?_
    refine wm rfl ?_
    refine wm rfl ?_
    refine wm rfl ?_
    refine wm rfl ?_
    refine wm rfl ?_
    refine wm rfl ?_
    obtain ⟨g223, h224⟩ := chk_e h220
    refine wv (o_add rfl rfl g223) ?_
    refine wm rfl ?_
    refine wm rfl ?_
    refine wv (o_add rfl rfl g223) ?_
    obtain ⟨g225, h226⟩ := chk_e h224
    obtain ⟨g227, h228⟩ := chk_e h226
    refine wv (r := rSl 4 (List.map eTApiCell (List.take (Int.toNat (x111 + r219.1) - Int.toNat x111) (List.drop (Int.toNat x111) v)))) (o_slice_zm Tryz.underlying23 Tryz.sizeOf63 rfl rfl rfl rfl g225 g227) ?_
    obtain ⟨r229, e231, h230⟩ := obn_e h228
    refine w_callc (rs := [rS ([] : Str), rSl 4 (List.map eTApiCell (List.take (Int.toNat (x111 + r219.1) - Int.toNat x111) (List.drop (Int.toNat x111) v)))]) (Hin := [.blk b_ks [rv v114] 29, .row v114 9 1 (List.map eS x113), .blk b_vs1 [rv v116] 30, .row v116 23 1 (List.map eL_TApiCell x115)]) (Hr := [.blk b222 (eTValueShape r219.2.1) 78]) Tryz.call76 rfl rfl ((perm_front (i := 1) rfl).trans (List.Perm.cons _ ((perm_front (i := 2) rfl).trans (List.Perm.cons _ ((perm_front (i := 1) rfl).trans (List.Perm.cons _ ((perm_front (i := 1) rfl).trans (List.Perm.cons _ (List.Perm.refl _))))))))) (vCmpF_w b_ks v114 b_vs1 v116 ([] : Str) (List.take (Int.toNat (x111 + r219.1) - Int.toNat x111) (List.drop (Int.toNat x111) v)) x113 x115 r229 e231) rfl ?_
    rintro _ _ ⟨v232, v233, rfl, rfl⟩
    refine wv (o_not rfl) ?_
    refine wl_x ?_
    refine wc_cond (b := !r229.1) rfl (fun c234 => ?_) (fun c234 => ?_)
    ·have h235 := cnd_t c234 h230
     refine wc_ret ?_
     refine wk_then_ret ?_
     refine wk_in_ret ?_
     refine wk_then_ret ?_
     refine wk_then_ret ?_
     refine wk_cut_ret ?_
     have h236 := stp_ret h235 ht179 hK177
     refine wk_in_ret ?_
     obtain rfl := some_e h236
     exact wk_ret (r_0 Tryz.results52) (sC (sC (sC (sC (sS sN))))) ⟨v232, v233, rfl, rfl⟩
    ·have h237 := cnd_f c234 h230
     refine wc_skip ?_
     refine wk_x ?_
     refine wc_region ?_
     refine wm rfl ?_
     refine wm rfl ?_
     refine wv (o_add rfl rfl g223) ?_
     refine wa rfl ?_
     refine wl_nil ?_
     refine wk_in_norm ?_
     refine wk_x ?_
     refine wc_region ?_
     obtain ⟨g238, h239⟩ := chk_e h237
     refine wv (o_add rfl rfl g238) ?_
     refine wm rfl ?_
     refine wl_nil ?_
     refine wk_perm (H2 := [.blk b_ks [rv v232] 29, .blk b_vs1 [rv v233] 30, .row v232 9 1 (List.map eS r229.2.1), .row v233 23 1 (List.map eL_TApiCell r229.2.2), .blk b222 (eTValueShape r219.2.1) 78]) ((perm_front (i := 0) rfl).trans (List.Perm.cons _ ((perm_front (i := 1) rfl).trans (List.Perm.cons _ (List.Perm.refl _))))) ?_
     have h240 := stp_next h239 ht179
     exact wk_then (wk_some (m180, (x111 + r219.1, x112 + 1, r229.2.1, r229.2.2), (v232, v233)) ⟨h240, Nat.lt_succ_self _⟩ (Sub.c5 rfl rfl rfl rfl rfl Sub.nil) (sC (sC (sC (sC (sS sN))))))
  ·have h241 := cnd_f c184 h182
   refine wc_exit ?_
   refine wk_then_exit ?_
   have h242 := stp_go h241 ht179 hK177
   exact wk_then_exit (wk_cut_hit (wk_some ((x113, x115), (v114, v116)) h242 Sub.nil (sC (sC (sC (sC sN))))))
 ·rintro ⟨⟨x171, x173⟩, ⟨v172, v174⟩⟩ h243
  refine wk_as (l' := []) (H' := [.blk b_ks [rv v172] 29, .blk b_vs1 [rv v174] 30, .row v172 9 1 (List.map eS x171), .row v174 23 1 (List.map eL_TApiCell x173)]) rfl rfl ?_
  replace h243 : vCmpP_k1 x171 x173 = some r := h243
  unfold vCmpP_k1 at h243
  refine wk_in_hit ?_
  refine wk_perm (H2 := [.blk b_ks [rv v172] 29, .row v172 9 1 (List.map eS x171), .blk b_vs1 [rv v174] 30, .row v174 23 1 (List.map eL_TApiCell x173)]) ((perm_front (i := 0) rfl).trans (List.Perm.cons _ ((perm_front (i := 1) rfl).trans (List.Perm.cons _ (List.Perm.refl _))))) ?_
  obtain rfl := some_e h243
  exact wk_end (r_0 Tryz.results52) (sC (sC (sC (sC sN)))) ⟨v172, v174, rfl, rfl⟩

theorem vComparem_w (F : Nat) (rec_vCmpG : Str → (List TApiCell) → Int → (List (List TApiCell)) → (List Str) → Int → Option (Bool × Int × (List (List TApiCell)) × (List Str) × Int)) (rec_vCmpQ : (List TApiCell) → Int → (List (List TApiCell)) → (List Str) → Int → Option (Int × (List (List TApiCell)) × (List Str) × Int)) (ih_vCmpG : (∀ (b_i1 : Nat) (b_vs1 : Nat) (v_vs1_0 : Value) (b_ks : Nat) (v_ks_0 : Value) (b_res : Nat) (key : Str) (x : (List TApiCell)) (i1 : Int) (vs1 : (List (List TApiCell))) (ks : (List Str)) (res : Int) (r : Bool × Int × (List (List TApiCell)) × (List Str) × Int), rec_vCmpG key x i1 vs1 ks res = some r → Fn Tryz.prog GE 77 [rS key, rSl 4 (List.map eTApiCell x), rv (.pointer (some ⟨b_i1, 0, none⟩)), rv (.pointer (some ⟨b_vs1, 0, none⟩)), rv (.pointer (some ⟨b_ks, 0, none⟩)), rv (.pointer (some ⟨b_res, 0, none⟩))] [.blk b_i1 [rI .i64 i1] 3, .blk b_vs1 [rv v_vs1_0] 30, .row v_vs1_0 23 1 (List.map eL_TApiCell vs1), .blk b_ks [rv v_ks_0] 29, .row v_ks_0 9 1 (List.map eS ks), .blk b_res [rI .i64 res] 3] (fun R H => ∃ w3_0 : Value, ∃ w4_0 : Value, R = rB r.1 ∧ H = [.blk b_i1 [rI .i64 r.2.1] 3, .blk b_vs1 [rv w3_0] 30, .row w3_0 23 1 (List.map eL_TApiCell r.2.2.1), .blk b_ks [rv w4_0] 29, .row w4_0 9 1 (List.map eS r.2.2.2.1), .blk b_res [rI .i64 r.2.2.2.2] 3]))) (ih_vCmpQ : (∀ (b_i1 : Nat) (b_vs1 : Nat) (v_vs1_0 : Value) (b_ks : Nat) (v_ks_0 : Value) (b_res : Nat) (v : (List TApiCell)) (i1 : Int) (vs1 : (List (List TApiCell))) (ks : (List Str)) (res : Int) (r : Int × (List (List TApiCell)) × (List Str) × Int), rec_vCmpQ v i1 vs1 ks res = some r → Fn Tryz.prog GE 52 [rSl 4 (List.map eTApiCell v), rv (.func (.func 77) #[] #[(.pointer (some ⟨b_i1, 0, none⟩)), (.pointer (some ⟨b_vs1, 0, none⟩)), (.pointer (some ⟨b_ks, 0, none⟩)), (.pointer (some ⟨b_res, 0, none⟩))])] [.blk b_i1 [rI .i64 i1] 3, .blk b_vs1 [rv v_vs1_0] 30, .row v_vs1_0 23 1 (List.map eL_TApiCell vs1), .blk b_ks [rv v_ks_0] 29, .row v_ks_0 9 1 (List.map eS ks), .blk b_res [rI .i64 res] 3] (fun R H => ∃ w1_1_0 : Value, ∃ w1_2_0 : Value, R = rv (.tuple #[]) ∧ H = [.blk b_i1 [rI .i64 r.1] 3, .blk b_vs1 [rv w1_1_0] 30, .row w1_1_0 23 1 (List.map eL_TApiCell r.2.1), .blk b_ks [rv w1_2_0] 29, .row w1_2_0 9 1 (List.map eS r.2.2.1), .blk b_res [rI .i64 r.2.2.2] 3]))) (a : (List TApiCell)) (b : (List TApiCell)) (r : Int) (h : vComparem F rec_vCmpG rec_vCmpQ a b = some r) : Fn Tryz.prog GE 49 [rSl 4 (List.map eTApiCell a), rSl 4 (List.map eTApiCell b)] [] (fun R H => R = rI .i64 r ∧ H = []) := by
 refine enter (n := 65) Tryz.func49 rfl Tryz.ntmps49 rfl (fun w Z => ?_)
 refine wc_as (l' := [(0, rSl 4 (List.map eTApiCell a)), (1, rSl 4 (List.map eTApiCell b))]) (H' := []) rfl rfl ?_
 unfold vComparem at h
 refine wc_sr ?_
 refine wv (r := rI .i64 0) (o_assign rfl) ?_
 refine wl_x ?_
 refine wc_seq ?_
 obtain ⟨g1, h2⟩ := chk_e h
 obtain ⟨g3, h4⟩ := chk_e h2
 refine wc_rdak 9 [0, 1] [⟨[], rSl 4 (List.map eTApiCell a), none, none, none⟩, ⟨[0], rAt (eTApiCell (at' a 0)), none, none, none⟩, ⟨[1], rAgg (eTApiCell (at' a 0)), none, none, none⟩, ⟨[], rSl 4 (List.map eTApiCell b), none, none, none⟩, ⟨[3], rAt (eTApiCell (at' b 0)), none, none, none⟩, ⟨[4], rAgg (eTApiCell (at' b 0)), none, none, none⟩, ⟨[], rv undef, some ([rI .i64 0, rI .i64 0, rS ([] : Str), rI .i64 0], 63), some (8, [rI .i64 ((at' a 0).fKind), rI .i64 ((at' a 0).fInt), rS ((at' a 0).fStr), rI .i64 ((at' a 0).fN)]), none⟩, ⟨[], rv undef, some ([rI .i64 0, rI .i64 0, rS ([] : Str), rI .i64 0], 63), none, none⟩, ⟨[2], rv undef, none, none, some 6⟩] ?_ (fun β => ?_)
 ·refine oaq (o_move rfl) ?_
  refine oaq (o_ix_z (enc := eTApiCell) (ys := a) Tryz.underlying23 Tryz.sizeOf63 rfl rfl g1) ?_
  refine oaq (o_load_za Tryz.isAgg63 Tryz.sizeOf63 rfl rfl rfl) ?_
  refine oaq (o_move rfl) ?_
  refine oaq (o_ix_z (enc := eTApiCell) (ys := b) Tryz.underlying23 Tryz.sizeOf63 rfl rfl g3) ?_
  refine oaq (o_load_za Tryz.isAgg63 Tryz.sizeOf63 rfl rfl rfl) ?_
  refine oal (al_ok (cs := [rI .i64 0, rI .i64 0, rS ([] : Str), rI .i64 0]) Tryz.zeroValue63 rfl) ?_
  refine oal (al_ok (cs := [rI .i64 0, rI .i64 0, rS ([] : Str), rI .i64 0]) Tryz.zeroValue63 rfl) ?_
  refine oas (fun {b5 hh} => ok_u (U_u_store_agg (i := 0) Tryz.sizeOf63 rfl rfl rfl (OneAll.c rfl) rfl rfl (cs' := [rI .i64 ((at' a 0).fKind), rI .i64 ((at' a 0).fInt), rS ((at' a 0).fStr), rI .i64 ((at' a 0).fN)]) rfl (H' := .blk b5 (eTApiCell (at' a 0)) 63 :: hh) rfl)) ?_
  exact oae
 refine wl_kza (H1 := [.blk (β 6) (eTApiCell (at' a 0)) 63, .blk (β 7) [rI .i64 0, rI .i64 0, rS ([] : Str), rI .i64 0] 63]) [11, 12, 13, 14, 15, 16, 5, 6, 0, 1] ?_
 generalize β 6 = b5
 generalize β 7 = b6
 refine u_store_agg (i := 1) Tryz.sizeOf63 rfl rfl rfl (OneAll.c rfl) rfl rfl (cs' := [rI .i64 ((at' b 0).fKind), rI .i64 ((at' b 0).fInt), rS ((at' b 0).fStr), rI .i64 ((at' b 0).fN)]) rfl (H' := [.blk b5 (eTApiCell (at' a 0)) 63, .blk b6 (eTApiCell (at' b 0)) 63]) rfl ?_
 refine wl_x ?_
 refine wc_seq ?_
 refine wc_block ?_
 refine wc_sr ?_
 refine wv (o_fieldAddr Tryz.underlying63 rfl Tryz.sizeOf61 rfl rfl) ?_
 refine wv (o_load (i := 0) Tryz.isAgg61 rfl rfl rfl) ?_
 refine wv (o_fieldAddr Tryz.underlying63 rfl Tryz.sizeOf61 rfl rfl) ?_
 refine wv (o_load (i := 1) Tryz.isAgg61 rfl rfl rfl) ?_
 refine wv (o_ne rfl rfl) ?_
 refine wa rfl ?_
 refine wl_x ?_
 refine wc_cond (b := !decide (((at' a 0).fKind) = ((at' b 0).fKind))) rfl (fun c7 => ?_) (fun c7 => ?_)
 ·have h8 := cnd_t c7 h4
  refine wc_sr ?_
  refine wv (o_fieldAddr Tryz.underlying63 rfl Tryz.sizeOf61 rfl rfl) ?_
  refine wv (o_load (i := 0) Tryz.isAgg61 rfl rfl rfl) ?_
  refine wv (o_fieldAddr Tryz.underlying63 rfl Tryz.sizeOf61 rfl rfl) ?_
  refine wv (o_load (i := 1) Tryz.isAgg61 rfl rfl rfl) ?_
  obtain ⟨r9, e11, h10⟩ := obn_e h8
  refine wc0 Tryz.call74 (vOrder_w ((at' a 0).fKind) ((at' b 0).fKind) r9 e11) rfl ?_
  refine wa rfl ?_
  refine wl_x ?_
  refine wc_ret ?_
  refine wk_in_ret ?_
  refine wk_then_ret ?_
  obtain rfl := some_e h10
  exact wk_ret (r_1 Tryz.results49 (rv_t rfl)) (sS (sS sN)) ⟨rfl, rfl⟩
 ·have h12 := cnd_f c7 h4
  refine wc_sr ?_
  refine wv (o_fieldAddr Tryz.underlying63 rfl Tryz.sizeOf61 rfl rfl) ?_
  refine wv (o_load (i := 0) Tryz.isAgg61 rfl rfl rfl) ?_
  refine wv (o_eq rfl rfl) ?_
  refine wa rfl ?_
  refine wl_x ?_
  refine wc_cond (b := decide (((at' a 0).fKind) = 4)) rfl (fun c13 => ?_) (fun c13 => ?_)
  ·have h14 := cnd_t c13 h12
   refine wc_sr ?_
   refine wv (o_fieldAddr Tryz.underlying63 rfl Tryz.sizeOf9 rfl rfl) ?_
   refine wv (o_load (i := 0) Tryz.isAgg9 rfl rfl rfl) ?_
   refine wv (o_fieldAddr Tryz.underlying63 rfl Tryz.sizeOf9 rfl rfl) ?_
   refine wv (o_load (i := 1) Tryz.isAgg9 rfl rfl rfl) ?_
   refine w_call0 (rs := [rS ((at' a 0).fStr), rS ((at' b 0).fStr)]) (r := rI .i64 (Lib.compareBytes ((at' a 0).fStr) ((at' b 0).fStr))) Tryz.call75 rfl (compare_q ((at' a 0).fStr) ((at' b 0).fStr)) rfl rfl ?_
   refine wa rfl ?_
   refine wl_x ?_
   refine wc_ret ?_
   refine wk_in_ret ?_
   refine wk_then_ret ?_
   obtain rfl := some_e h14
   exact wk_ret (r_1 Tryz.results49 (rv_t rfl)) (sS (sS sN)) ⟨rfl, rfl⟩
  ·have h15 := cnd_f c13 h12
   refine wc_seq_mid [(0, rSl 4 (List.map eTApiCell a)), (1, rSl 4 (List.map eTApiCell b)), (5, rv (.pointer (some ⟨b5, 0, none⟩))), (6, rv (.pointer (some ⟨b6, 0, none⟩))), (37, rB ((!decide (((at' a 0).fKind) = 5)) && (!decide (((at' a 0).fKind) = 6))))] [.blk b5 (eTApiCell (at' a 0)) 63, .blk b6 (eTApiCell (at' b 0)) 63] ?_ ?_
   ·refine wc_region ?_
    refine wv (o_fieldAddr Tryz.underlying63 rfl Tryz.sizeOf61 rfl rfl) ?_
    refine wv (o_load (i := 0) Tryz.isAgg61 rfl rfl rfl) ?_
    refine wv (o_ne rfl rfl) ?_
    refine wm rfl ?_
    refine bsplit (!decide (((at' a 0).fKind) = 5)) (fun c16 => ?_) (fun c16 => ?_)
    ·refine wo c16 ?_
     refine wv (o_fieldAddr Tryz.underlying63 rfl Tryz.sizeOf61 rfl rfl) ?_
     refine wo c16 ?_
     refine wv (o_load (i := 0) Tryz.isAgg61 rfl rfl rfl) ?_
     refine wo c16 ?_
     refine wv (o_ne rfl rfl) ?_
     refine wpt rfl c16 rfl ?_
     refine wa rfl ?_
     refine wl_nil ?_
     exact wtc c16
    ·refine wf c16 ?_
     refine wf c16 ?_
     refine wf c16 ?_
     refine wv (r := rB false) (o_pick_f (b := !decide (((at' a 0).fKind) = 5)) rfl c16 rfl) ?_
     refine wa rfl ?_
     refine wl_nil ?_
     exact wtc c16
   refine wc_cond (b := ((!decide (((at' a 0).fKind) = 5)) && (!decide (((at' a 0).fKind) = 6)))) rfl (fun c17 => ?_) (fun c17 => ?_)
   ·have h18 := cnd_t c17 h15
    refine wc_sr ?_
    refine wv (o_fieldAddr Tryz.underlying63 rfl Tryz.sizeOf3 rfl rfl) ?_
    refine wv (o_load (i := 0) Tryz.isAgg3 rfl rfl rfl) ?_
    refine wv (o_fieldAddr Tryz.underlying63 rfl Tryz.sizeOf3 rfl rfl) ?_
    refine wv (o_load (i := 1) Tryz.isAgg3 rfl rfl rfl) ?_
    obtain ⟨r19, e21, h20⟩ := obn_e h18
    refine wc0 Tryz.call74 (vOrder_w ((at' a 0).fInt) ((at' b 0).fInt) r19 e21) rfl ?_
    refine wa rfl ?_
    refine wl_x ?_
    refine wc_ret ?_
    refine wk_in_ret ?_
    refine wk_then_ret ?_
    obtain rfl := some_e h20
    exact wk_ret (r_1 Tryz.results49 (rv_t rfl)) (sS (sS sN)) ⟨rfl, rfl⟩
   ·have h22 := cnd_f c17 h15
    refine wc_skip ?_
    refine wk_in_norm ?_
    refine wk_x ?_
    refine wc_sr ?_
    refine w_alloc (cs := [rv (.slice none 0 0)]) Tryz.zeroValue29 rfl rfl (fun b23 => ?_)
    refine wl_y ?_
    refine w_alloc (cs := [rv (.slice none 0 0)]) Tryz.zeroValue30 rfl rfl (fun b24 => ?_)
    refine wl_y ?_
    refine wm rfl ?_
    refine wv (r := rv (.func (.func 76) #[] #[(.pointer (some ⟨b23, 0, none⟩)), (.pointer (some ⟨b24, 0, none⟩))])) (o_makeFunc rfl) ?_
    refine WL.nilrow (e := 9) (sz := 1) ?_
    refine WL.nilrow (e := 23) (sz := 1) ?_
    obtain ⟨r25, e27, h26⟩ := obn_e h22
    refine wcl (Hr := [.blk b5 (eTApiCell (at' a 0)) 63, .blk b6 (eTApiCell (at' b 0)) 63]) Tryz.call52 (vCmpP_w F b23 (.slice none 0 0         ) b24 (.slice none 0 0                       ) b ([] : List Str) ([] : List (List TApiCell)) r25 e27) rfl ((perm_front (i := 3) rfl).trans (List.Perm.cons _ ((perm_front (i := 1) rfl).trans (List.Perm.cons _ ((perm_front (i := 1) rfl).trans (List.Perm.cons _ (List.Perm.refl _))))))) rfl ?_
    rintro _ _ ⟨v28, v29, rfl, rfl⟩
    refine wl_y ?_
    refine w_alloc (cs := [rI .i64 0]) Tryz.zeroValue3 rfl rfl (fun b30 => ?_)
    refine w_alloc (cs := [rI .i64 0]) Tryz.zeroValue3 rfl rfl (fun b31 => ?_)
    refine u_store (i := 1) Tryz.sizeOf3 rfl rfl (one_c rfl) rfl rfl (cs' := [rI .i64 0]) rfl (H' := [.blk b31 [rI .i64 0] 3, .blk b30 [rI .i64 0] 3, .blk b23 [rv v28] 29, .row v28 9 1 (List.map eS r25.1), .blk b24 [rv v29] 30, .row v29 23 1 (List.map eL_TApiCell r25.2), .blk b5 (eTApiCell (at' a 0)) 63, .blk b6 (eTApiCell (at' b 0)) 63]) rfl ?_
    refine u_store (i := 0) Tryz.sizeOf3 rfl rfl (one_c rfl) rfl rfl (cs' := [rI .i64 0]) rfl (H' := [.blk b31 [rI .i64 0] 3, .blk b30 [rI .i64 0] 3, .blk b23 [rv v28] 29, .row v28 9 1 (List.map eS r25.1), .blk b24 [rv v29] 30, .row v29 23 1 (List.map eL_TApiCell r25.2), .blk b5 (eTApiCell (at' a 0)) 63, .blk b6 (eTApiCell (at' b 0)) 63]) rfl ?_
    refine wl_y ?_
    refine wm rfl ?_
    refine wv (r := rv (.func (.func 77) #[] #[(.pointer (some ⟨b30, 0, none⟩)), (.pointer (some ⟨b24, 0, none⟩)), (.pointer (some ⟨b23, 0, none⟩)), (.pointer (some ⟨b31, 0, none⟩))])) (o_makeFunc rfl) ?_
    obtain ⟨r32, e34, h33⟩ := obn_e h26
    refine wcl (Hr := [.blk b5 (eTApiCell (at' a 0)) 63, .blk b6 (eTApiCell (at' b 0)) 63]) Tryz.call52 (ih_vCmpQ b30 b24 v29 b23 v28 b31 a 0 r25.2 r25.1 0 r32 e34) rfl ((perm_front (i := 1) rfl).trans (List.Perm.cons _ ((perm_front (i := 3) rfl).trans (List.Perm.cons _ ((perm_front (i := 3) rfl).trans (List.Perm.cons _ ((perm_front (i := 1) rfl).trans (List.Perm.cons _ ((perm_front (i := 1) rfl).trans (List.Perm.cons _ (List.Perm.refl _))))))))))) rfl ?_
    rintro _ _ ⟨v35, v36, rfl, rfl⟩
    refine wl_x ?_
    refine wc_seq ?_
    refine wc_sr ?_
    refine wv (o_load (i := 5) Tryz.isAgg3 rfl rfl rfl) ?_
    refine wv (o_ne rfl rfl) ?_
    refine wl_x ?_
    refine wc_cond (b := !decide (r32.2.2.2 = 0)) rfl (fun c37 => ?_) (fun c37 => ?_)
    ·have h38 := cnd_t c37 h33
     refine wc_sr ?_
     refine wv (o_load (i := 5) Tryz.isAgg3 rfl rfl rfl) ?_
     refine wa rfl ?_
     refine wl_x ?_
     refine wc_ret ?_
     refine wk_then_ret ?_
     obtain rfl := some_e h38
     exact wk_ret (r_1 Tryz.results49 (rv_t rfl)) (sS (sS (sS (sS (sS (sS (sS (sS sN)))))))) ⟨rfl, rfl⟩
    ·have h39 := cnd_f c37 h33
     refine wc_skip ?_
     refine wk_x ?_
     refine wc_sr ?_
     refine wv (o_fieldAddr Tryz.underlying63 rfl Tryz.sizeOf3 rfl rfl) ?_
     refine wv (o_load (i := 6) Tryz.isAgg3 rfl rfl rfl) ?_
     refine wv (o_fieldAddr Tryz.underlying63 rfl Tryz.sizeOf3 rfl rfl) ?_
     refine wv (o_load (i := 7) Tryz.isAgg3 rfl rfl rfl) ?_
     obtain ⟨r40, e42, h41⟩ := obn_e h39
     refine wc0 Tryz.call74 (vOrder_w ((at' a 0).fN) ((at' b 0).fN) r40 e42) rfl ?_
     refine wa rfl ?_
     refine wl_x ?_
     refine wc_ret ?_
     obtain rfl := some_e h41
     exact wk_ret (r_1 Tryz.results49 (rv_t rfl)) (sS (sS (sS (sS (sS (sS (sS (sS sN)))))))) ⟨rfl, rfl⟩

theorem vCmpGm_w (F : Nat) (rec_vCompare : (List TApiCell) → (List TApiCell) → Option (Int)) (ih_vCompare : (∀ (a : (List TApiCell)) (b : (List TApiCell)) (r : Int), rec_vCompare a b = some r → Fn Tryz.prog GE 49 [rSl 4 (List.map eTApiCell a), rSl 4 (List.map eTApiCell b)] [] (fun R H => R = rI .i64 r ∧ H = []))) (b_i1 : Nat) (b_vs1 : Nat) (v_vs1_0 : Value) (b_ks : Nat) (v_ks_0 : Value) (b_res : Nat) (key : Str) (x : (List TApiCell)) (i1 : Int) (vs1 : (List (List TApiCell))) (ks : (List Str)) (res : Int) (r : Bool × Int × (List (List TApiCell)) × (List Str) × Int) (h : vCmpGm F rec_vCompare key x i1 vs1 ks res = some r) : Fn Tryz.prog GE 77 [rS key, rSl 4 (List.map eTApiCell x), rv (.pointer (some ⟨b_i1, 0, none⟩)), rv (.pointer (some ⟨b_vs1, 0, none⟩)), rv (.pointer (some ⟨b_ks, 0, none⟩)), rv (.pointer (some ⟨b_res, 0, none⟩))] [.blk b_i1 [rI .i64 i1] 3, .blk b_vs1 [rv v_vs1_0] 30, .row v_vs1_0 23 1 (List.map eL_TApiCell vs1), .blk b_ks [rv v_ks_0] 29, .row v_ks_0 9 1 (List.map eS ks), .blk b_res [rI .i64 res] 3] (fun R H => ∃ w3_0 : Value, ∃ w4_0 : Value, R = rB r.1 ∧ H = [.blk b_i1 [rI .i64 r.2.1] 3, .blk b_vs1 [rv w3_0] 30, .row w3_0 23 1 (List.map eL_TApiCell r.2.2.1), .blk b_ks [rv w4_0] 29, .row w4_0 9 1 (List.map eS r.2.2.2.1), .blk b_res [rI .i64 r.2.2.2.2] 3]) := by
 refine enter (n := 31) Tryz.func77 rfl Tryz.ntmps77 rfl (fun w Z => ?_)
 refine wc_as (l' := [(0, rS key), (1, rSl 4 (List.map eTApiCell x)), (2, rv (.pointer (some ⟨b_i1, 0, none⟩))), (3, rv (.pointer (some ⟨b_vs1, 0, none⟩))), (4, rv (.pointer (some ⟨b_ks, 0, none⟩))), (5, rv (.pointer (some ⟨b_res, 0, none⟩)))]) (H' := [.blk b_i1 [rI .i64 i1] 3, .blk b_vs1 [rv v_vs1_0] 30, .row v_vs1_0 23 1 (List.map eL_TApiCell vs1), .blk b_ks [rv v_ks_0] 29, .row v_ks_0 9 1 (List.map eS ks), .blk b_res [rI .i64 res] 3]) rfl rfl ?_
 unfold vCmpGm at h
 refine wc_sr ?_
 refine wv (r := rB false) (o_assign rfl) ?_
 refine wl_x ?_
 refine wc_seq ?_
 refine wc_sr ?_
 refine wv (o_load (i := 0) Tryz.isAgg3 rfl rfl rfl) ?_
 refine wv (o_load (i := 1) Tryz.isAgg30 rfl rfl rfl) ?_
 refine wv (o_len_wt (ys := vs1) (enc := eL_TApiCell) (i := 2) Tryz.underlying30 rfl rfl) ?_
 refine wv (o_eq rfl rfl) ?_
 refine wl_x ?_
 refine wc_cond (b := decide (i1 = (vs1.length : Int))) rfl (fun c1 => ?_) (fun c1 => ?_)
 ·have h2 := cnd_t c1 h
  refine wc_sr ?_
  refine wv (r := rB false) (o_assign rfl) ?_
  refine wl_x ?_
  refine wc_ret ?_
  refine wk_then_ret ?_
  obtain rfl := some_e h2
  exact wk_ret (r_1 Tryz.results77 (rv_t rfl)) (sC (sC (sC (sC (sC (sC sN)))))) ⟨v_vs1_0, v_ks_0, rfl, rfl⟩
 ·have h3 := cnd_f c1 h
  refine wc_skip ?_
  refine wk_x ?_
  refine wc_sr ?_
  refine wm rfl ?_
  refine wv (o_load (i := 3) Tryz.isAgg29 rfl rfl rfl) ?_
  refine wv (o_load (i := 0) Tryz.isAgg3 rfl rfl rfl) ?_
  obtain ⟨g4, h5⟩ := chk_e h3
  refine wv (r := rv (elp 1 v_ks_0 (Int.toNat i1) 0)) (o_ix_w (i := 4) Tryz.underlying29 Tryz.sizeOf9 rfl rfl rfl (len_map g4)) ?_
  refine wv (r := rS (at' ks i1)) (o_ld_w (enc := eS) (ys := ks) (i := 4) (j := i1) Tryz.isAgg9 rfl rfl g4 rfl) ?_
  refine w_call0 (rs := [rS key, rS (at' ks i1)]) (r := rI .i64 (Lib.compareBytes key (at' ks i1))) Tryz.call75 rfl (compare_q key (at' ks i1)) rfl rfl ?_
  refine u_store (i := 5) Tryz.sizeOf3 rfl rfl (one_c rfl) rfl rfl (cs' := [rI .i64 (Lib.compareBytes key (at' ks i1))]) rfl (H' := [.blk b_i1 [rI .i64 i1] 3, .blk b_vs1 [rv v_vs1_0] 30, .row v_vs1_0 23 1 (List.map eL_TApiCell vs1), .blk b_ks [rv v_ks_0] 29, .row v_ks_0 9 1 (List.map eS ks), .blk b_res [rI .i64 (Lib.compareBytes key (at' ks i1))] 3]) rfl ?_
  refine wl_x ?_
  refine wc_seq ?_
  refine wc_sr ?_
  refine wv (o_load (i := 5) Tryz.isAgg3 rfl rfl rfl) ?_
  refine wv (o_eq rfl rfl) ?_
  refine wl_x ?_
  refine wc_cond (b := decide ((Lib.compareBytes key (at' ks i1)) = 0)) rfl (fun c6 => ?_) (fun c6 => ?_)
  ·have h7 := cnd_t c6 h5
   refine wc_region ?_
   refine wm rfl ?_
   refine wv (o_load (i := 1) Tryz.isAgg30 rfl rfl rfl) ?_
   refine wv (o_load (i := 0) Tryz.isAgg3 rfl rfl rfl) ?_
   obtain ⟨g8, h9⟩ := chk_e h7
   refine wv (r := rv (elp 1 v_vs1_0 (Int.toNat i1) 0)) (o_ix_w (i := 2) Tryz.underlying30 Tryz.sizeOf23 rfl rfl rfl (len_map g8)) ?_
   refine wv (r := rSl 4 (List.map eTApiCell (at' vs1 i1))) (o_ld_w (enc := eL_TApiCell) (ys := vs1) (i := 2) (j := i1) Tryz.isAgg23 rfl rfl g8 rfl) ?_
   obtain ⟨r10, e12, h11⟩ := obn_e h9
   refine wc0 Tryz.call49 (ih_vCompare x (at' vs1 i1) r10 e12) rfl ?_
   refine u_store (i := 5) Tryz.sizeOf3 rfl rfl (one_c rfl) rfl rfl (cs' := [rI .i64 r10]) rfl (H' := [.blk b_i1 [rI .i64 i1] 3, .blk b_vs1 [rv v_vs1_0] 30, .row v_vs1_0 23 1 (List.map eL_TApiCell vs1), .blk b_ks [rv v_ks_0] 29, .row v_ks_0 9 1 (List.map eS ks), .blk b_res [rI .i64 r10] 3]) rfl ?_
   refine wl_y ?_
   refine wv (o_load (i := 0) Tryz.isAgg3 rfl rfl rfl) ?_
   obtain ⟨g13, h14⟩ := chk_e h11
   refine wv (o_add rfl rfl g13) ?_
   refine u_store (i := 0) Tryz.sizeOf3 rfl rfl (one_c rfl) rfl rfl (cs' := [rI .i64 (i1 + 1)]) rfl (H' := [.blk b_i1 [rI .i64 (i1 + 1)] 3, .blk b_vs1 [rv v_vs1_0] 30, .row v_vs1_0 23 1 (List.map eL_TApiCell vs1), .blk b_ks [rv v_ks_0] 29, .row v_ks_0 9 1 (List.map eS ks), .blk b_res [rI .i64 r10] 3]) rfl ?_
   refine wl_y ?_
   refine wv (o_load (i := 5) Tryz.isAgg3 rfl rfl rfl) ?_
   refine wv (o_eq rfl rfl) ?_
   refine wa rfl ?_
   refine wl_x ?_
   refine wc_ret ?_
   obtain rfl := some_e h14
   exact wk_ret (r_1 Tryz.results77 (rv_t rfl)) (sC (sC (sC (sC (sC (sC sN)))))) ⟨v_vs1_0, v_ks_0, rfl, rfl⟩
  ·have h15 := cnd_f c6 h5
   refine wc_skip ?_
   refine wk_x ?_
   refine wc_sr ?_
   refine wv (o_load (i := 0) Tryz.isAgg3 rfl rfl rfl) ?_
   obtain ⟨g16, h17⟩ := chk_e h15
   refine wv (o_add rfl rfl g16) ?_
   refine u_store (i := 0) Tryz.sizeOf3 rfl rfl (one_c rfl) rfl rfl (cs' := [rI .i64 (i1 + 1)]) rfl (H' := [.blk b_i1 [rI .i64 (i1 + 1)] 3, .blk b_vs1 [rv v_vs1_0] 30, .row v_vs1_0 23 1 (List.map eL_TApiCell vs1), .blk b_ks [rv v_ks_0] 29, .row v_ks_0 9 1 (List.map eS ks), .blk b_res [rI .i64 (Lib.compareBytes key (at' ks i1))] 3]) rfl ?_
   refine wl_y ?_
   refine wv (o_load (i := 5) Tryz.isAgg3 rfl rfl rfl) ?_
   refine wv (o_eq rfl rfl) ?_
   refine wa rfl ?_
   refine wl_x ?_
   refine wc_ret ?_
   obtain rfl := some_e h17
   exact wk_ret (r_1 Tryz.results77 (rv_t rfl)) (sC (sC (sC (sC (sC (sC sN)))))) ⟨v_vs1_0, v_ks_0, rfl, rfl⟩

theorem vCmpQm_w (F : Nat) (rec_vCmpG : Str → (List TApiCell) → Int → (List (List TApiCell)) → (List Str) → Int → Option (Bool × Int × (List (List TApiCell)) × (List Str) × Int)) (ih_vCmpG : (∀ (b_i1 : Nat) (b_vs1 : Nat) (v_vs1_0 : Value) (b_ks : Nat) (v_ks_0 : Value) (b_res : Nat) (key : Str) (x : (List TApiCell)) (i1 : Int) (vs1 : (List (List TApiCell))) (ks : (List Str)) (res : Int) (r : Bool × Int × (List (List TApiCell)) × (List Str) × Int), rec_vCmpG key x i1 vs1 ks res = some r → Fn Tryz.prog GE 77 [rS key, rSl 4 (List.map eTApiCell x), rv (.pointer (some ⟨b_i1, 0, none⟩)), rv (.pointer (some ⟨b_vs1, 0, none⟩)), rv (.pointer (some ⟨b_ks, 0, none⟩)), rv (.pointer (some ⟨b_res, 0, none⟩))] [.blk b_i1 [rI .i64 i1] 3, .blk b_vs1 [rv v_vs1_0] 30, .row v_vs1_0 23 1 (List.map eL_TApiCell vs1), .blk b_ks [rv v_ks_0] 29, .row v_ks_0 9 1 (List.map eS ks), .blk b_res [rI .i64 res] 3] (fun R H => ∃ w3_0 : Value, ∃ w4_0 : Value, R = rB r.1 ∧ H = [.blk b_i1 [rI .i64 r.2.1] 3, .blk b_vs1 [rv w3_0] 30, .row w3_0 23 1 (List.map eL_TApiCell r.2.2.1), .blk b_ks [rv w4_0] 29, .row w4_0 9 1 (List.map eS r.2.2.2.1), .blk b_res [rI .i64 r.2.2.2.2] 3]))) (b_i1 : Nat) (b_vs1 : Nat) (v_vs1_0 : Value) (b_ks : Nat) (v_ks_0 : Value) (b_res : Nat) (v : (List TApiCell)) (i1 : Int) (vs1 : (List (List TApiCell))) (ks : (List Str)) (res : Int) (r : Int × (List (List TApiCell)) × (List Str) × Int) (h : vCmpQm F rec_vCmpG v i1 vs1 ks res = some r) : Fn Tryz.prog GE 52 [rSl 4 (List.map eTApiCell v), rv (.func (.func 77) #[] #[(.pointer (some ⟨b_i1, 0, none⟩)), (.pointer (some ⟨b_vs1, 0, none⟩)), (.pointer (some ⟨b_ks, 0, none⟩)), (.pointer (some ⟨b_res, 0, none⟩))])] [.blk b_i1 [rI .i64 i1] 3, .blk b_vs1 [rv v_vs1_0] 30, .row v_vs1_0 23 1 (List.map eL_TApiCell vs1), .blk b_ks [rv v_ks_0] 29, .row v_ks_0 9 1 (List.map eS ks), .blk b_res [rI .i64 res] 3] (fun R H => ∃ w1_1_0 : Value, ∃ w1_2_0 : Value, R = rv (.tuple #[]) ∧ H = [.blk b_i1 [rI .i64 r.1] 3, .blk b_vs1 [rv w1_1_0] 30, .row w1_1_0 23 1 (List.map eL_TApiCell r.2.1), .blk b_ks [rv w1_2_0] 29, .row w1_2_0 9 1 (List.map eS r.2.2.1), .blk b_res [rI .i64 r.2.2.2] 3]) := by
 refine enter (n := 52) Tryz.func52 rfl Tryz.ntmps52 rfl (fun w Z => ?_)
 refine wc_as (l' := [(0, rSl 4 (List.map eTApiCell v)), (1, rv (.func (.func 77) #[] #[(.pointer (some ⟨b_i1, 0, none⟩)), (.pointer (some ⟨b_vs1, 0, none⟩)), (.pointer (some ⟨b_ks, 0, none⟩)), (.pointer (some ⟨b_res, 0, none⟩))]))]) (H' := [.blk b_i1 [rI .i64 i1] 3, .blk b_vs1 [rv v_vs1_0] 30, .row v_vs1_0 23 1 (List.map eL_TApiCell vs1), .blk b_ks [rv v_ks_0] 29, .row v_ks_0 9 1 (List.map eS ks), .blk b_res [rI .i64 res] 3]) rfl rfl ?_
 unfold vCmpQm at h
 refine wc_sr ?_
 refine wv (r := rI .i64 1) (o_assign rfl) ?_
 refine wl_y ?_
 refine wm rfl ?_
 obtain ⟨g1, h2⟩ := chk_e h
 refine wv (o_ix_z (enc := eTApiCell) (ys := v) Tryz.underlying23 Tryz.sizeOf63 rfl rfl g1) ?_
 refine wv (o_fieldAddr_z Tryz.underlying63 rfl Tryz.sizeOf3 rfl rfl) ?_
 refine wv (o_load_z Tryz.isAgg3 rfl rfl) ?_
 refine wv (r := rI .i64 0) (o_move rfl) ?_
 refine wl_x ?_
 refine wc_block ?_
 refine wc_perm (H2 := [.blk b_i1 [rI .i64 i1] 3, .blk b_vs1 [rv v_vs1_0] 30, .blk b_ks [rv v_ks_0] 29, .blk b_res [rI .i64 res] 3, .row v_vs1_0 23 1 (List.map eL_TApiCell vs1), .row v_ks_0 9 1 (List.map eS ks)]) ((perm_front (i := 0) rfl).trans (List.Perm.cons _ ((perm_front (i := 0) rfl).trans (List.Perm.cons _ ((perm_front (i := 1) rfl).trans (List.Perm.cons _ ((perm_front (i := 2) rfl).trans (List.Perm.cons _ (List.Perm.refl _))))))))) ?_
 obtain ⟨o181, eo182, hK183⟩ := obn_e h2
 refine wc_loop2 (S := Nat × (Int × Int × Int × (List (List TApiCell)) × (List Str) × Int) × (Value × Value)) (V := (Int × (List (List TApiCell)) × (List Str) × Int) × (Value × Value)) 0 (fun σ => lop (fun σ => vCmpQ_b1 F v rec_vCmpG σ.1 σ.2.1 σ.2.2.1 σ.2.2.2.1 σ.2.2.2.2.1 σ.2.2.2.2.2) σ.1 σ.2.1 = some o181) (fun σ => [(0, rSl 4 (List.map eTApiCell v)), (1, rv (.func (.func 77) #[] #[(.pointer (some ⟨b_i1, 0, none⟩)), (.pointer (some ⟨b_vs1, 0, none⟩)), (.pointer (some ⟨b_ks, 0, none⟩)), (.pointer (some ⟨b_res, 0, none⟩))])), (4, rI .i64 σ.2.1.1), (12, rI .i64 ((at' v 0).fN)), (13, rI .i64 σ.2.1.2.1)]) (fun σ => [.blk b_i1 [rI .i64 σ.2.1.2.2.1] 3, .blk b_vs1 [rv σ.2.2.1] 30, .blk b_ks [rv σ.2.2.2] 29, .blk b_res [rI .i64 σ.2.1.2.2.2.2.2] 3, .row σ.2.2.1 23 1 (List.map eL_TApiCell σ.2.1.2.2.2.1), .row σ.2.2.2 9 1 (List.map eS σ.2.1.2.2.2.2.1)]) (fun σ => σ.1) (F, (1, 0, i1, vs1, ks, res), (v_vs1_0, v_ks_0)) eo182 (Sub.c5 rfl rfl rfl rfl rfl Sub.nil) (sC (sC (sC (sC (sC (sC sN)))))) (fun σ => vCmpQ_k1 σ.1.1 σ.1.2.1 σ.1.2.2.1 σ.1.2.2.2 = some r) (fun σ => []) (fun σ => [.blk b_i1 [rI .i64 σ.1.1] 3, .blk b_vs1 [rv σ.2.1] 30, .blk b_ks [rv σ.2.2] 29, .blk b_res [rI .i64 σ.1.2.2.2] 3, .row σ.2.1 23 1 (List.map eL_TApiCell σ.1.2.1), .row σ.2.2 9 1 (List.map eS σ.1.2.2.1)]) ?_ ?_
 ·rintro ⟨n189, ⟨x113, x114, x115, x116, x118, x120⟩, ⟨v117, v119⟩⟩ hi187
  refine wc_as (l' := [(0, rSl 4 (List.map eTApiCell v)), (1, rv (.func (.func 77) #[] #[(.pointer (some ⟨b_i1, 0, none⟩)), (.pointer (some ⟨b_vs1, 0, none⟩)), (.pointer (some ⟨b_ks, 0, none⟩)), (.pointer (some ⟨b_res, 0, none⟩))])), (4, rI .i64 x113), (12, rI .i64 ((at' v 0).fN)), (13, rI .i64 x114)]) (H' := [.blk b_i1 [rI .i64 x115] 3, .blk b_vs1 [rv v117] 30, .blk b_ks [rv v119] 29, .blk b_res [rI .i64 x120] 3, .row v117 23 1 (List.map eL_TApiCell x116), .row v119 9 1 (List.map eS x118)]) rfl rfl ?_
  obtain ⟨m186, rfl, t184, h188, ht185⟩ := lop_e hi187
  replace h188 : vCmpQ_b1 F v rec_vCmpG x113 x114 x115 x116 x118 x120 = some t184 := h188
  unfold vCmpQ_b1 at h188
  refine wc_sr ?_
  refine wv (o_lt rfl rfl) ?_
  refine wl_x ?_
  refine wc_seq ?_
  refine wc_cond (b := decide (x114 < ((at' v 0).fN))) rfl (fun c190 => ?_) (fun c190 => ?_)
  ·have h191 := cnd_t c190 h188
   refine wc_skip ?_
   refine wk_x ?_
   refine wc_seq ?_
   refine wc_block ?_
   refine wc_sr ?_
   refine wv (r := rS ([] : Str)) (o_assign rfl) ?_
   refine wl_x ?_
   refine wc_seq ?_
   refine wc_sr ?_
   refine wm rfl ?_
   refine wv (o_ix_z (enc := eTApiCell) (ys := v) Tryz.underlying23 Tryz.sizeOf63 rfl rfl g1) ?_
   refine wv (o_fieldAddr_z Tryz.underlying63 rfl Tryz.sizeOf61 rfl rfl) ?_
   refine wv (o_load_z Tryz.isAgg61 rfl rfl) ?_
   refine wv (o_eq rfl rfl) ?_
   refine wl_x ?_
   refine wc_cond (b := decide (((at' v 0).fKind) = 6)) rfl (fun c192 => ?_) (fun c192 => ?_)
   ·have h193 := cnd_t c192 h191
    refine wc_sr ?_
    refine wm rfl ?_
    refine wm rfl ?_
    obtain ⟨g194, h195⟩ := chk_e h193
    refine wv (o_ix_z (enc := eTApiCell) (ys := v) Tryz.underlying23 Tryz.sizeOf63 rfl rfl g194) ?_
    refine wv (o_fieldAddr_z Tryz.underlying63 rfl Tryz.sizeOf9 rfl rfl) ?_
    refine wv (o_load_z Tryz.isAgg9 rfl rfl) ?_
    refine wa rfl ?_
    refine wl_x ?_
    refine wc_region ?_
    refine wm rfl ?_
    obtain ⟨g196, h197⟩ := chk_e h195
    refine wv (o_add rfl rfl g196) ?_
    refine wa rfl ?_
    refine wl_y ?_
    refine wm rfl ?_
    refine wm rfl ?_
    obtain ⟨g198, h199⟩ := chk_e h197
    refine wv (r := rSl 4 (List.map eTApiCell (List.drop (Int.toNat (x113 + 1)) v))) (o_slice_zl Tryz.underlying23 Tryz.sizeOf63 rfl rfl g198) ?_
    obtain ⟨r200, e202, h201⟩ := obn_e h199
    refine wc0 Tryz.call63 (vLook_w F (List.drop (Int.toNat (x113 + 1)) v) r200 e202) rfl ?_
    refine wm rfl ?_
    refine wv (o_extract rfl rfl) ?_
    refine wv (o_extract rfl rfl) ?_
    refine wv (o_extract rfl rfl) ?_
    refine w_alloc (cs := [rI .i64 0, rI .i64 0, rB false, rB false]) Tryz.zeroValue78 rfl rfl (fun b203 => ?_)
    refine wa rfl ?_
    refine u_store_agg (i := 0) Tryz.sizeOf78 rfl rfl rfl (OneAll.c rfl) rfl rfl (cs' := [rI .i64 r200.2.1.fDepth, rI .i64 r200.2.1.fBytes, rB r200.2.1.fOutside, rB r200.2.1.fLong]) rfl (H' := [.blk b203 (eTValueShape r200.2.1) 78, .blk b_i1 [rI .i64 x115] 3, .blk b_vs1 [rv v117] 30, .blk b_ks [rv v119] 29, .blk b_res [rI .i64 x120] 3, .row v117 23 1 (List.map eL_TApiCell x116), .row v119 9 1 (List.map eS x118)]) rfl ?_
    refine wa rfl ?_
    refine wl_x ?_
    refine wc_seq ?_
    refine wc_sr ?_
    refine wm rfl ?_
    refine wm rfl ?_
    refine wm rfl ?_
    refine wm rfl ?_
    refine wm rfl ?_
    refine wm rfl ?_
    obtain ⟨g204, h205⟩ := chk_e h201
    refine wv (o_add rfl rfl g204) ?_
    refine wm rfl ?_
    refine wm rfl ?_
    refine wv (o_add rfl rfl g204) ?_
    obtain ⟨g206, h207⟩ := chk_e h205
    obtain ⟨g208, h209⟩ := chk_e h207
    refine wv (r := rSl 4 (List.map eTApiCell (List.take (Int.toNat ((x113 + 1) + r200.1) - Int.toNat (x113 + 1)) (List.drop (Int.toNat (x113 + 1)) v)))) (o_slice_zm Tryz.underlying23 Tryz.sizeOf63 rfl rfl rfl rfl g206 g208) ?_
    obtain ⟨r210, e212, h211⟩ := obn_e h209
    refine w_callc (rs := [rS ((at' v x113).fStr), rSl 4 (List.map eTApiCell (List.take (Int.toNat ((x113 + 1) + r200.1) - Int.toNat (x113 + 1)) (List.drop (Int.toNat (x113 + 1)) v)))]) (Hin := [.blk b_i1 [rI .i64 x115] 3, .blk b_vs1 [rv v117] 30, .row v117 23 1 (List.map eL_TApiCell x116), .blk b_ks [rv v119] 29, .row v119 9 1 (List.map eS x118), .blk b_res [rI .i64 x120] 3]) (Hr := [.blk b203 (eTValueShape r200.2.1) 78]) Tryz.call77 rfl rfl ((perm_front (i := 1) rfl).trans (List.Perm.cons _ ((perm_front (i := 1) rfl).trans (List.Perm.cons _ ((perm_front (i := 3) rfl).trans (List.Perm.cons _ ((perm_front (i := 1) rfl).trans (List.Perm.cons _ ((perm_front (i := 2) rfl).trans (List.Perm.cons _ ((perm_front (i := 1) rfl).trans (List.Perm.cons _ (List.Perm.refl _))))))))))))) (ih_vCmpG b_i1 b_vs1 v117 b_ks v119 b_res ((at' v x113).fStr) (List.take (Int.toNat ((x113 + 1) + r200.1) - Int.toNat (x113 + 1)) (List.drop (Int.toNat (x113 + 1)) v)) x115 x116 x118 x120 r210 e212) rfl ?_
    rintro _ _ ⟨v213, v214, rfl, rfl⟩
    refine wv (o_not rfl) ?_
    refine wl_x ?_
    refine wc_cond (b := !r210.1) rfl (fun c215 => ?_) (fun c215 => ?_)
    ·have h216 := cnd_t c215 h211
     refine wc_ret ?_
     refine wk_then_ret ?_
     refine wk_in_ret ?_
     refine wk_then_ret ?_
     refine wk_then_ret ?_
     refine wk_cut_ret ?_
     have h217 := stp_ret h216 ht185 hK183
     refine wk_in_ret ?_
     obtain rfl := some_e h217
     exact wk_ret (r_0 Tryz.results52) (sC (sC (sC (sC (sC (sC (sS sN))))))) ⟨v213, v214, rfl, rfl⟩
    ·have h218 := cnd_f c215 h211
     refine wc_skip ?_
     refine wk_x ?_
     refine wc_region ?_
     refine wm rfl ?_
     refine wm rfl ?_
     refine wv (o_add rfl rfl g204) ?_
     refine wa rfl ?_
     refine wl_nil ?_
     refine wk_in_norm ?_
     refine wk_x ?_
     refine wc_region ?_
     obtain ⟨g219, h220⟩ := chk_e h218
     refine wv (o_add rfl rfl g219) ?_
     refine wm rfl ?_
     refine wl_nil ?_
     refine wk_perm (H2 := [.blk b_i1 [rI .i64 r210.2.1] 3, .blk b_vs1 [rv v213] 30, .blk b_ks [rv v214] 29, .blk b_res [rI .i64 r210.2.2.2.2] 3, .row v213 23 1 (List.map eL_TApiCell r210.2.2.1), .row v214 9 1 (List.map eS r210.2.2.2.1), .blk b203 (eTValueShape r200.2.1) 78]) ((perm_front (i := 0) rfl).trans (List.Perm.cons _ ((perm_front (i := 0) rfl).trans (List.Perm.cons _ ((perm_front (i := 1) rfl).trans (List.Perm.cons _ ((perm_front (i := 2) rfl).trans (List.Perm.cons _ (List.Perm.refl _))))))))) ?_
     have h221 := stp_next h220 ht185
     exact wk_then (wk_some (m186, ((x113 + 1) + r200.1, x114 + 1, r210.2.1, r210.2.2.1, r210.2.2.2.1, r210.2.2.2.2), (v213, v214)) ⟨h221, Nat.lt_succ_self _⟩ (Sub.c5 rfl rfl rfl rfl rfl Sub.nil) (sC (sC (sC (sC (sC (sC (sS sN))))))))
   ·have h222 := cnd_f c192 h191
    refine wc_skip ?_
    refine wk_x ?_
    refine wc_sr ?_
    refine wm rfl ?_
    refine wm rfl ?_
    obtain ⟨g223, h224⟩ := chk_e h222
    refine wv (r := rSl 4 (List.map eTApiCell (List.drop (Int.toNat x113) v))) (o_slice_zl Tryz.underlying23 Tryz.sizeOf63 rfl rfl g223) ?_
    obtain ⟨r225, e227, h226⟩ := obn_e h224
    refine wc0 Tryz.call63 (vLook_w F (List.drop (Int.toNat x113) v) r225 e227) rfl ?_
    refine wm rfl ?_
    refine wv (o_extract rfl rfl) ?_
    refine wv (o_extract rfl rfl) ?_
    refine wv (o_extract rfl rfl) ?_
    refine w_alloc (cs := [rI .i64 0, rI .i64 0, rB false, rB false]) Tryz.zeroValue78 rfl rfl (fun b228 => ?_)
    refine wa rfl ?_
    refine u_store_agg (i := 0) Tryz.sizeOf78 rfl rfl rfl (OneAll.c rfl) rfl rfl (cs' := [rI .i64 r225.2.1.fDepth, rI .i64 r225.2.1.fBytes, rB r225.2.1.fOutside, rB r225.2.1.fLong]) rfl (H' := [.blk b228 (eTValueShape r225.2.1) 78, .blk b_i1 [rI .i64 x115] 3, .blk b_vs1 [rv v117] 30, .blk b_ks [rv v119] 29, .blk b_res [rI .i64 x120] 3, .row v117 23 1 (List.map eL_TApiCell x116), .row v119 9 1 (List.map eS x118)]) rfl ?_
    refine wa rfl ?_
    refine wl_x ?_
    refine wc_seq ?_
    refine wc_sr ?_
    refine wm rfl ?_
    refine wm rfl ?_
    refine wm rfl ?_
    refine wm rfl ?_
    refine wm rfl ?_
    refine wm rfl ?_
    obtain ⟨g229, h230⟩ := chk_e h226
    refine wv (o_add rfl rfl g229) ?_
    refine wm rfl ?_
    refine wm rfl ?_
    refine wv (o_add rfl rfl g229) ?_
    obtain ⟨g231, h232⟩ := chk_e h230
    obtain ⟨g233, h234⟩ := chk_e h232
    refine wv (r := rSl 4 (List.map eTApiCell (List.take (Int.toNat (x113 + r225.1) - Int.toNat x113) (List.drop (Int.toNat x113) v)))) (o_slice_zm Tryz.underlying23 Tryz.sizeOf63 rfl rfl rfl rfl g231 g233) ?_
    obtain ⟨r235, e237, h236⟩ := obn_e h234
    refine w_callc (rs := [rS ([] : Str), rSl 4 (List.map eTApiCell (List.take (Int.toNat (x113 + r225.1) - Int.toNat x113) (List.drop (Int.toNat x113) v)))]) (Hin := [.blk b_i1 [rI .i64 x115] 3, .blk b_vs1 [rv v117] 30, .row v117 23 1 (List.map eL_TApiCell x116), .blk b_ks [rv v119] 29, .row v119 9 1 (List.map eS x118), .blk b_res [rI .i64 x120] 3]) (Hr := [.blk b228 (eTValueShape r225.2.1) 78]) Tryz.call77 rfl rfl ((perm_front (i := 1) rfl).trans (List.Perm.cons _ ((perm_front (i := 1) rfl).trans (List.Perm.cons _ ((perm_front (i := 3) rfl).trans (List.Perm.cons _ ((perm_front (i := 1) rfl).trans (List.Perm.cons _ ((perm_front (i := 2) rfl).trans (List.Perm.cons _ ((perm_front (i := 1) rfl).trans (List.Perm.cons _ (List.Perm.refl _))))))))))))) (ih_vCmpG b_i1 b_vs1 v117 b_ks v119 b_res ([] : Str) (List.take (Int.toNat (x113 + r225.1) - Int.toNat x113) (List.drop (Int.toNat x113) v)) x115 x116 x118 x120 r235 e237) rfl ?_
    rintro _ _ ⟨v238, v239, rfl, rfl⟩
    refine wv (o_not rfl) ?_
    refine wl_x ?_
    refine wc_cond (b := !r235.1) rfl (fun c240 => ?_) (fun c240 => ?_)
    ·have h241 := cnd_t c240 h236
     refine wc_ret ?_
     refine wk_then_ret ?_
     refine wk_in_ret ?_
     refine wk_then_ret ?_
     refine wk_then_ret ?_
     refine wk_cut_ret ?_
     have h242 := stp_ret h241 ht185 hK183
     refine wk_in_ret ?_
     obtain rfl := some_e h242
     exact wk_ret (r_0 Tryz.results52) (sC (sC (sC (sC (sC (sC (sS sN))))))) ⟨v238, v239, rfl, rfl⟩
    ·have h243 := cnd_f c240 h236
     refine wc_skip ?_
     refine wk_x ?_
     refine wc_region ?_
     refine wm rfl ?_
     refine wm rfl ?_
     refine wv (o_add rfl rfl g229) ?_
     refine wa rfl ?_
     refine wl_nil ?_
     refine wk_in_norm ?_
     refine wk_x ?_
     refine wc_region ?_
     obtain ⟨g244, h245⟩ := chk_e h243
     refine wv (o_add rfl rfl g244) ?_
     refine wm rfl ?_
     refine wl_nil ?_
     refine wk_perm (H2 := [.blk b_i1 [rI .i64 r235.2.1] 3, .blk b_vs1 [rv v238] 30, .blk b_ks [rv v239] 29, .blk b_res [rI .i64 r235.2.2.2.2] 3, .row v238 23 1 (List.map eL_TApiCell r235.2.2.1), .row v239 9 1 (List.map eS r235.2.2.2.1), .blk b228 (eTValueShape r225.2.1) 78]) ((perm_front (i := 0) rfl).trans (List.Perm.cons _ ((perm_front (i := 0) rfl).trans (List.Perm.cons _ ((perm_front (i := 1) rfl).trans (List.Perm.cons _ ((perm_front (i := 2) rfl).trans (List.Perm.cons _ (List.Perm.refl _))))))))) ?_
     have h246 := stp_next h245 ht185
     exact wk_then (wk_some (m186, (x113 + r225.1, x114 + 1, r235.2.1, r235.2.2.1, r235.2.2.2.1, r235.2.2.2.2), (v238, v239)) ⟨h246, Nat.lt_succ_self _⟩ (Sub.c5 rfl rfl rfl rfl rfl Sub.nil) (sC (sC (sC (sC (sC (sC (sS sN))))))))
  ·have h247 := cnd_f c190 h188
   refine wc_exit ?_
   refine wk_then_exit ?_
   have h248 := stp_go h247 ht185 hK183
   exact wk_then_exit (wk_cut_hit (wk_some ((x115, x116, x118, x120), (v117, v119)) h248 Sub.nil (sC (sC (sC (sC (sC (sC sN))))))))
 ·rintro ⟨⟨x175, x176, x178, x180⟩, ⟨v177, v179⟩⟩ h249
  refine wk_as (l' := []) (H' := [.blk b_i1 [rI .i64 x175] 3, .blk b_vs1 [rv v177] 30, .blk b_ks [rv v179] 29, .blk b_res [rI .i64 x180] 3, .row v177 23 1 (List.map eL_TApiCell x176), .row v179 9 1 (List.map eS x178)]) rfl rfl ?_
  replace h249 : vCmpQ_k1 x175 x176 x178 x180 = some r := h249
  unfold vCmpQ_k1 at h249
  refine wk_in_hit ?_
  refine wk_perm (H2 := [.blk b_i1 [rI .i64 x175] 3, .blk b_vs1 [rv v177] 30, .row v177 23 1 (List.map eL_TApiCell x176), .blk b_ks [rv v179] 29, .row v179 9 1 (List.map eS x178), .blk b_res [rI .i64 x180] 3]) ((perm_front (i := 0) rfl).trans (List.Perm.cons _ ((perm_front (i := 0) rfl).trans (List.Perm.cons _ ((perm_front (i := 2) rfl).trans (List.Perm.cons _ ((perm_front (i := 0) rfl).trans (List.Perm.cons _ ((perm_front (i := 1) rfl).trans (List.Perm.cons _ (List.Perm.refl _))))))))))) ?_
  obtain rfl := some_e h249
  exact wk_end (r_0 Tryz.results52) (sC (sC (sC (sC (sC (sC sN)))))) ⟨v177, v179, rfl, rfl⟩

theorem vCompare_all : ∀ F : Nat, (∀ (a : (List TApiCell)) (b : (List TApiCell)) (r : Int), vCompare F a b = some r → Fn Tryz.prog GE 49 [rSl 4 (List.map eTApiCell a), rSl 4 (List.map eTApiCell b)] [] (fun R H => R = rI .i64 r ∧ H = [])) ∧ (∀ (b_i1 : Nat) (b_vs1 : Nat) (v_vs1_0 : Value) (b_ks : Nat) (v_ks_0 : Value) (b_res : Nat) (key : Str) (x : (List TApiCell)) (i1 : Int) (vs1 : (List (List TApiCell))) (ks : (List Str)) (res : Int) (r : Bool × Int × (List (List TApiCell)) × (List Str) × Int), vCmpG F key x i1 vs1 ks res = some r → Fn Tryz.prog GE 77 [rS key, rSl 4 (List.map eTApiCell x), rv (.pointer (some ⟨b_i1, 0, none⟩)), rv (.pointer (some ⟨b_vs1, 0, none⟩)), rv (.pointer (some ⟨b_ks, 0, none⟩)), rv (.pointer (some ⟨b_res, 0, none⟩))] [.blk b_i1 [rI .i64 i1] 3, .blk b_vs1 [rv v_vs1_0] 30, .row v_vs1_0 23 1 (List.map eL_TApiCell vs1), .blk b_ks [rv v_ks_0] 29, .row v_ks_0 9 1 (List.map eS ks), .blk b_res [rI .i64 res] 3] (fun R H => ∃ w3_0 : Value, ∃ w4_0 : Value, R = rB r.1 ∧ H = [.blk b_i1 [rI .i64 r.2.1] 3, .blk b_vs1 [rv w3_0] 30, .row w3_0 23 1 (List.map eL_TApiCell r.2.2.1), .blk b_ks [rv w4_0] 29, .row w4_0 9 1 (List.map eS r.2.2.2.1), .blk b_res [rI .i64 r.2.2.2.2] 3])) ∧ (∀ (b_i1 : Nat) (b_vs1 : Nat) (v_vs1_0 : Value) (b_ks : Nat) (v_ks_0 : Value) (b_res : Nat) (v : (List TApiCell)) (i1 : Int) (vs1 : (List (List TApiCell))) (ks : (List Str)) (res : Int) (r : Int × (List (List TApiCell)) × (List Str) × Int), vCmpQ F v i1 vs1 ks res = some r → Fn Tryz.prog GE 52 [rSl 4 (List.map eTApiCell v), rv (.func (.func 77) #[] #[(.pointer (some ⟨b_i1, 0, none⟩)), (.pointer (some ⟨b_vs1, 0, none⟩)), (.pointer (some ⟨b_ks, 0, none⟩)), (.pointer (some ⟨b_res, 0, none⟩))])] [.blk b_i1 [rI .i64 i1] 3, .blk b_vs1 [rv v_vs1_0] 30, .row v_vs1_0 23 1 (List.map eL_TApiCell vs1), .blk b_ks [rv v_ks_0] 29, .row v_ks_0 9 1 (List.map eS ks), .blk b_res [rI .i64 res] 3] (fun R H => ∃ w1_1_0 : Value, ∃ w1_2_0 : Value, R = rv (.tuple #[]) ∧ H = [.blk b_i1 [rI .i64 r.1] 3, .blk b_vs1 [rv w1_1_0] 30, .row w1_1_0 23 1 (List.map eL_TApiCell r.2.1), .blk b_ks [rv w1_2_0] 29, .row w1_2_0 9 1 (List.map eS r.2.2.1), .blk b_res [rI .i64 r.2.2.2] 3]))
  | 0 => ⟨(fun _ _ _ h => by simp [vCompare] at h), (fun _ _ _ _ _ _ _ _ _ _ _ _ _ h => by simp [vCmpG] at h), (fun _ _ _ _ _ _ _ _ _ _ _ _ h => by simp [vCmpQ] at h)⟩
  | nn + 1 => ⟨(fun a b r h => vComparem_w nn (vCmpG nn) (vCmpQ nn) (vCompare_all nn).2.1 (vCompare_all nn).2.2 a b r (by rw [vCompare] at h; exact h)), (fun b_i1 b_vs1 v_vs1_0 b_ks v_ks_0 b_res key x i1 vs1 ks res r h => vCmpGm_w nn (vCompare nn) (vCompare_all nn).1 b_i1 b_vs1 v_vs1_0 b_ks v_ks_0 b_res key x i1 vs1 ks res r (by rw [vCmpG] at h; exact h)), (fun b_i1 b_vs1 v_vs1_0 b_ks v_ks_0 b_res v i1 vs1 ks res r h => vCmpQm_w nn (vCmpG nn) (vCompare_all nn).2.1 b_i1 b_vs1 v_vs1_0 b_ks v_ks_0 b_res v i1 vs1 ks res r (by rw [vCmpQ] at h; exact h))⟩

theorem vCompare_w (F : Nat) (a : (List TApiCell)) (b : (List TApiCell)) (r : Int) (h : vCompare F a b = some r) : Fn Tryz.prog GE 49 [rSl 4 (List.map eTApiCell a), rSl 4 (List.map eTApiCell b)] [] (fun R H => R = rI .i64 r ∧ H = []) := (vCompare_all F).1 a b r h

theorem vCmp_w (F : Nat) (a : (List TApiCell)) (b : (List TApiCell)) (r : Int) (h : vCmp F a b = some r) : Fn Tryz.prog GE 26 [rSl 4 (List.map eTApiCell a), rSl 4 (List.map eTApiCell b)] [] (fun R H => R = rI .i64 r ∧ H = []) := by
 refine enter (n := 16) Tryz.func26 rfl Tryz.ntmps26 rfl (fun w Z => ?_)
 refine wc_as (l' := [(0, rSl 4 (List.map eTApiCell a)), (1, rSl 4 (List.map eTApiCell b))]) (H' := []) rfl rfl ?_
 unfold vCmp at h
 refine wc_sr ?_
 refine wv (r := rI .i64 0) (o_assign rfl) ?_
 refine wl_x ?_
 refine wc_seq ?_
 obtain ⟨g1, h2⟩ := chk_e h
 obtain ⟨g3, h4⟩ := chk_e h2
 refine wc_seq_mid [(0, rSl 4 (List.map eTApiCell a)), (1, rSl 4 (List.map eTApiCell b)), (12, rB ((!decide ((ov (vCheck F a)) = 0)) || (!decide ((ov (vCheck F b)) = 0))))] [] ?_ ?_
 ·refine wc_region ?_
  refine wm rfl ?_
  refine wc0 Tryz.call43 (vCheck_w F a (ov (vCheck F a)) (ov_e g1)) rfl ?_
  refine wv (o_ne rfl rfl) ?_
  refine wm rfl ?_
  refine bsplit (!decide ((ov (vCheck F a)) = 0)) (fun c5 => ?_) (fun c5 => ?_)
  ·refine wf c5 ?_
   refine wf c5 ?_
   refine wf c5 ?_
   refine wv (r := rB true) (o_pick_t (b := !decide ((ov (vCheck F a)) = 0)) rfl c5 rfl) ?_
   refine wl_nil ?_
   exact wtc c5
  ·refine wo c5 ?_
   refine wm rfl ?_
   refine wo c5 ?_
   refine wc0 Tryz.call43 (vCheck_w F b (ov (vCheck F b)) (ov_e (imp_f g3 c5))) rfl ?_
   refine wo c5 ?_
   refine wv (o_ne rfl rfl) ?_
   refine wpf rfl c5 rfl ?_
   refine wl_nil ?_
   exact wtc c5
 refine wc_cond (b := ((!decide ((ov (vCheck F a)) = 0)) || (!decide ((ov (vCheck F b)) = 0)))) rfl (fun c6 => ?_) (fun c6 => ?_)
 ·have h7 := cnd_t c6 h4
  refine wc_sr ?_
  refine wv (r := rI .i64 0) (o_assign rfl) ?_
  refine wl_x ?_
  refine wc_ret ?_
  refine wk_then_ret ?_
  obtain rfl := some_e h7
  exact wk_ret (r_1 Tryz.results26 (rv_t rfl)) sN ⟨rfl, rfl⟩
 ·have h8 := cnd_f c6 h4
  refine wc_skip ?_
  refine wk_x ?_
  refine wc_sr ?_
  refine wm rfl ?_
  refine wm rfl ?_
  obtain ⟨r9, e11, h10⟩ := obn_e h8
  refine wc0 Tryz.call49 (vCompare_w F a b r9 e11) rfl ?_
  refine wa rfl ?_
  refine wl_x ?_
  refine wc_ret ?_
  obtain rfl := some_e h10
  exact wk_ret (r_1 Tryz.results26 (rv_t rfl)) sN ⟨rfl, rfl⟩

theorem lCompares_w (F : Nat) (a : (List TApiCell)) (b : (List TApiCell)) (r : Bool) (h : lCompares F a b = some r) : Fn Tryz.prog GE 5 [rSl 4 (List.map eTApiCell a), rSl 4 (List.map eTApiCell b)] [] (fun R H => R = rB r ∧ H = []) := by
 refine enter (n := 33) Tryz.func5 rfl Tryz.ntmps5 rfl (fun w Z => ?_)
 refine wc_as (l' := [(0, rSl 4 (List.map eTApiCell a)), (1, rSl 4 (List.map eTApiCell b))]) (H' := []) rfl rfl ?_
 unfold lCompares at h
 refine wc_sr ?_
 refine wv (r := rB false) (o_assign rfl) ?_
 refine wl_x ?_
 refine wc_seq ?_
 obtain ⟨g1, h2⟩ := chk_e h
 obtain ⟨g3, h4⟩ := chk_e h2
 refine wc_seq_mid [(0, rSl 4 (List.map eTApiCell a)), (1, rSl 4 (List.map eTApiCell b)), (12, rB ((!(ov (lSmall F a))) || (!(ov (lSmall F b)))))] [] ?_ ?_
 ·refine wc_region ?_
  refine wm rfl ?_
  refine wc0 Tryz.call25 (lSmall_w F a (ov (lSmall F a)) (ov_e g1)) rfl ?_
  refine wv (o_not rfl) ?_
  refine wm rfl ?_
  refine bsplit (!(ov (lSmall F a))) (fun c5 => ?_) (fun c5 => ?_)
  ·refine wf c5 ?_
   refine wf c5 ?_
   refine wf c5 ?_
   refine wv (r := rB true) (o_pick_t (b := !(ov (lSmall F a))) rfl c5 rfl) ?_
   refine wl_nil ?_
   exact wtc c5
  ·refine wo c5 ?_
   refine wm rfl ?_
   refine wo c5 ?_
   refine wc0 Tryz.call25 (lSmall_w F b (ov (lSmall F b)) (ov_e (imp_f g3 c5))) rfl ?_
   refine wo c5 ?_
   refine wv (o_not rfl) ?_
   refine wpf rfl c5 rfl ?_
   refine wl_nil ?_
   exact wtc c5
 refine wc_cond (b := ((!(ov (lSmall F a))) || (!(ov (lSmall F b))))) rfl (fun c6 => ?_) (fun c6 => ?_)
 ·have h7 := cnd_t c6 h4
  refine wc_sr ?_
  obtain ⟨r8, e10, h9⟩ := obn_e h7
  refine wc0 Tryz.call7 (lAwake_w F r8 e10) rfl ?_
  refine wa rfl ?_
  refine wl_x ?_
  refine wc_ret ?_
  refine wk_then_ret ?_
  obtain rfl := some_e h9
  exact wk_ret (r_1 Tryz.results5 (rv_t rfl)) sN ⟨rfl, rfl⟩
 ·have h11 := cnd_f c6 h4
  refine wc_skip ?_
  refine wk_x ?_
  obtain ⟨g12, h13⟩ := chk_e h11
  obtain ⟨g14, h15⟩ := chk_e h13
  obtain ⟨g16, h17⟩ := chk_e h15
  obtain ⟨g18, h19⟩ := chk_e h17
  obtain ⟨g20, h21⟩ := chk_e h19
  refine wc_seq_mid [(4, rB ((decide ((ov (vCmp F a b)) = (ov (rCmp F a b)))) && (((ov (vSame F a b)) == (ov (rSame F a b))) && (ov (lAwake F)))))] [] ?_ ?_
  ·refine wc_region ?_
   refine wm rfl ?_
   refine wm rfl ?_
   refine wc0 Tryz.call26 (vCmp_w F a b (ov (vCmp F a b)) (ov_e g12)) rfl ?_
   refine wm rfl ?_
   refine wm rfl ?_
   refine wc0 Tryz.call27 (rCmp_w F a b (ov (rCmp F a b)) (ov_e g14)) rfl ?_
   refine wv (o_eq rfl rfl) ?_
   refine wm rfl ?_
   refine bsplit (decide ((ov (vCmp F a b)) = (ov (rCmp F a b)))) (fun c22 => ?_) (fun c22 => ?_)
   ·refine wo c22 ?_
    refine wm rfl ?_
    refine wo c22 ?_
    refine wm rfl ?_
    refine wo c22 ?_
    refine wc0 Tryz.call28 (vSame_w F a b (ov (vSame F a b)) (ov_e (imp_t g16 c22))) rfl ?_
    refine wo c22 ?_
    refine wm rfl ?_
    refine wo c22 ?_
    refine wm rfl ?_
    refine wo c22 ?_
    refine wc0 Tryz.call10 (rSame_w F a b (ov (rSame F a b)) (ov_e (imp_t g18 c22))) rfl ?_
    refine wo c22 ?_
    refine wv (r := rB ((ov (vSame F a b)) == (ov (rSame F a b)))) (o_beq Tryz.underlying4 rfl rfl) ?_
    refine wpt rfl c22 rfl ?_
    refine wm rfl ?_
    refine bsplit ((ov (vSame F a b)) == (ov (rSame F a b))) (fun c23 => ?_) (fun c23 => ?_)
    ·refine wo c23 ?_
     refine wc0 Tryz.call7 (lAwake_w F (ov (lAwake F)) (ov_e (imp_t (imp_t g20 c22) c23))) rfl ?_
     refine wpt rfl c23 rfl ?_
     refine wa rfl ?_
     refine wl_nil ?_
     exact wtc (And.intro c22 c23)
    ·refine wf c23 ?_
     refine wv (r := rB false) (o_pick_f (b := (ov (vSame F a b)) == (ov (rSame F a b))) rfl c23 rfl) ?_
     refine wa rfl ?_
     refine wl_nil ?_
     exact wtc (And.intro c22 c23)
   ·refine wf c22 ?_
    refine wf c22 ?_
    refine wf c22 ?_
    refine wf c22 ?_
    refine wf c22 ?_
    refine wf c22 ?_
    refine wf c22 ?_
    refine wv (r := rB false) (o_pick_f (b := decide ((ov (vCmp F a b)) = (ov (rCmp F a b)))) rfl c22 rfl) ?_
    refine wm rfl ?_
    refine wl_off (b := false) rfl rfl rfl rfl ?_
    refine wv (r := rB false) (o_pick_f (b := false) rfl rfl rfl) ?_
    refine wa rfl ?_
    refine wl_nil ?_
    exact wtc c22
  refine wc_ret ?_
  obtain rfl := some_e h21
  exact wk_ret (r_1 Tryz.results5 (rv_t rfl)) sN ⟨rfl, rfl⟩

end Go.Proofs.YtkalifgebccpcaaGreatDoor.Q

/-
 What is known of the values that the law is handed. Plain definitions.
-/
namespace Go.Proofs.YtkalifgebccpcaaGreatDoor.lawValueCompares
open Go
set_option linter.unusedVariables false
def ok63 (y : TApiCell) : Bool := (inK .i64) y.fKind && (inK .i64) y.fInt && okS y.fStr && (inK .i64) y.fN
def Law : Prop := ∀ (y0 : (List TApiCell)) (y1 : (List TApiCell)) (o0 : (fun ys : (List TApiCell) => ys.all ok63 && decide (ys.length ≤ 9223372036854775807)) y0 = true) (o1 : (fun ys : (List TApiCell) => ys.all ok63 && decide (ys.length ≤ 9223372036854775807)) y1 = true), ∃ F, lCompares F y0 y1 = some true
end Go.Proofs.YtkalifgebccpcaaGreatDoor.lawValueCompares

/-
 What small functions of the package value and of its reference compute. Plain laws.
-/
namespace Go.Proofs.YtkalifgebccpcaaGreatDoor
open Go
set_option linter.unusedVariables false
set_option linter.unusedSimpArgs false
def okc (c : UInt8) : Bool := decide (32 ≤ c.toNat) && decide (c.toNat ≤ 126)
theorem bat_get {s : Str} {x : Int} {c : UInt8} (h : s[x.toNat]? = some c) : bat s x = (c.toNat : Int) := by simp [bat, h]
theorem take_all_succ {α : Type} {p : α → Bool} {s : List α} {k : Nat} {c : α} (h : s[k]? = some c) : (s.take (k + 1)).all p = ((s.take k).all p && p c) := by
 rw [List.take_add_one, h]; simp
theorem all_false_of {α : Type} {p : α → Bool} {s : List α} {k : Nat} {c : α} (h : s[k]? = some c) (hp : p c = false) : s.all p = false := by
 rw [List.all_eq_false]; exact ⟨c, List.mem_of_getElem? h, by simp [hp]⟩
theorem vText_eq {F : Nat} {s : Str} (hF : s.length < F) (hs : s.length ≤ 9223372036854775807) : vText F s = some (s.all okc) := by
 obtain ⟨o, h1, h2⟩ := lop_ind (body := fun σ => vText_b1 s σ) (fun x => 0 ≤ x ∧ x ≤ (s.length : Int) ∧ (s.take x.toNat).all okc = true) (fun x => s.length - x.toNat)
  (fun o => oute (fun _ => vText_k1) o = some (s.all okc)) (fun x ⟨h0, hl, ha⟩ => by
   unfold vText_b1
   by_cases hx : x < (s.length : Int)
   ·obtain ⟨c, hc⟩ : ∃ c, s[x.toNat]? = some c := ⟨s[x.toNat]'(by omega), List.getElem?_eq_getElem (by omega)⟩
    rw [cnd_tt (by simpa using hx), chk_inR h0 hx, bat_get hc]
    cases ho : okc c with
    | false =>
     refine .inr ⟨.ret false, ?_, ?_⟩
     ·rw [cnd_tt]
      simp only [okc, Bool.and_eq_false_iff, decide_eq_false_iff_not] at ho
      simp only [Bool.or_eq_true, decide_eq_true_eq]; omega
     ·simp [oute, all_false_of hc ho]
    | true =>
     refine .inl ⟨x + 1, ?_, ⟨by omega, by omega, ?_⟩, by omega⟩
     ·rw [cnd_ff, chk_i64 (by omega) (by omega)]
      simp only [okc, Bool.and_eq_true, decide_eq_true_eq] at ho
      simp only [Bool.or_eq_false_iff, decide_eq_false_iff_not]; omega
     ·rw [show (x + 1).toNat = x.toNat + 1 from by omega, take_all_succ hc, ha, ho]; rfl
   ·refine .inr ⟨.go (), by rw [cnd_ff (by simpa using hx)], ?_⟩
    rw [show x.toNat = s.length from by omega, List.take_length] at ha
    simp [oute, vText_k1, ha]) F 0 ⟨by omega, by omega, by simp⟩ (by simpa using hF)
 unfold vText
 rw [obn_s h1, h2]
theorem rPlain_vText (F : Nat) (s : Str) : rPlain F s = vText F s := rfl
theorem rPlain_eq {F : Nat} {s : Str} (hF : s.length < F) (hs : s.length ≤ 9223372036854775807) : rPlain F s = some (s.all okc) := by rw [rPlain_vText]; exact vText_eq hF hs
def pl (c : TApiCell) : Bool :=
 bif decide (c.fKind = 1) then (decide (c.fInt = 0) && (decide (c.fStr = []) && decide (c.fN = 0))) else
 bif decide (c.fKind = 2) then ((decide (c.fInt = 0) || decide (c.fInt = 1)) && (decide (c.fStr = []) && decide (c.fN = 0))) else
 bif decide (c.fKind = 3) then (decide (c.fStr = []) && decide (c.fN = 0)) else
 bif decide (c.fKind = 4) then (decide (c.fInt = 0) && (decide (c.fN = 0) && c.fStr.all okc)) else
 bif decide (c.fKind = 5) then (decide (c.fInt = 0) && (decide (c.fStr = []) && decide (0 ≤ c.fN))) else
 bif decide (c.fKind = 6) then (decide (c.fInt = 0) && (decide (c.fStr = []) && decide (0 ≤ c.fN))) else false
theorem cnd_some {α : Type} {p : Bool} {x y : Option α} {a b : α} (h : x = some a) (h' : y = some b) : cnd p x y = some (bif p then a else b) := by cases p <;> simp [cnd, h, h']
theorem vPlain_eq {F : Nat} {c : TApiCell} (hF : c.fStr.length < F) (hs : c.fStr.length ≤ 9223372036854775807) : vPlain F c = some (pl c) := by
 unfold vPlain pl
 rw [vText_eq hF hs]
 refine cnd_some rfl (cnd_some ?_ (cnd_some rfl (cnd_some ?_ (cnd_some rfl (cnd_some rfl rfl)))))
 ·cases h : decide (c.fInt = 0) <;> simp
 ·simp [imp, chk, ov]
def clr : List TValueOpen → List TValueOpen
 | [] => []
 | e :: S => bif decide (1 < e.fLeft) then ⟨e.fPairs, e.fLeft - 1, e.fPairs, e.fLast, e.fStarted⟩ :: S else clr S
theorem at_last {α : Type} [Inhabited α] (xs : List α) (e : α) : at' (xs ++ [e]) (xs.length : Int) = e := by simp [at']
theorem set_last {α : Type} (xs : List α) (e e' : α) : List.set (xs ++ [e]) (Int.toNat (xs.length : Int)) e' = xs ++ [e'] := by simp
theorem len_last {α : Type} (xs : List α) (e : α) : ((xs ++ [e]).length : Int) - 1 = (xs.length : Int) := by simp
theorem take_last {α : Type} (xs : List α) (e : α) : List.take (Int.toNat (xs.length : Int)) (xs ++ [e]) = xs := by simp
theorem vClosed_lop : ∀ (S : List TValueOpen) (F : Nat), S.length < F → (∀ e ∈ S, 1 ≤ e.fLeft ∧ e.fLeft ≤ 9223372036854775807) → S.length ≤ 4611686018427387904 →
  ∃ o, lop (fun σ => vClosed_b1 σ) F S.reverse = some o ∧ oute (fun ν => vClosed_k1 ν) o = some (clr S).reverse
 | [], F + 1, _, _, _ => ⟨.go [], by simp [lop, vClosed_b1, cnd], by simp [oute, vClosed_k1, clr]⟩
 | e :: S, F + 1, hF, hb, hl => by
  obtain ⟨h1, h2⟩ := hb e (by simp)
  simp only [List.length_cons] at hF hl
  have hx : S.reverse.length = S.length := by simp
  generalize hxs : S.reverse = xs at hx
  have hr : (e :: S).reverse = xs ++ [e] := by simp [hxs]
  rw [hr]
  have hb1 : vClosed_b1 (xs ++ [e]) = bif decide (1 < e.fLeft) then some (.out (.ret (xs ++ [⟨e.fPairs, e.fLeft - 1, e.fPairs, e.fLast, e.fStarted⟩]))) else some (.next xs) := by
   unfold vClosed_b1
   rw [cnd_tt (by simp)]
   simp only [len_last, at_last, set_last, bnd]
   rw [chk_i64 (by omega) (by omega), chk_inR (by omega) (by simp; omega), chk_i64 (by omega) (by omega)]
   cases hd : decide (1 < e.fLeft) with
   | true =>
    rw [cnd_tt (by simp at hd ⊢; omega)]; rfl
   | false =>
    rw [cnd_ff (by simp at hd ⊢; omega), chk_i64 (by omega) (by omega), chk_inC (by omega) (by simp; omega), take_last]; rfl
  rw [lop, hb1]
  cases hd : decide (1 < e.fLeft) with
  | true => exact ⟨_, rfl, by simp [oute, vClosed_k1, clr, hd, hxs]⟩
  | false =>
   obtain ⟨o, ho1, ho2⟩ := vClosed_lop S F (by omega) (fun e he => hb e (by simp [he])) (by omega)
   rw [hxs] at ho1
   exact ⟨o, ho1, by rw [ho2]; simp [clr, hd]⟩
theorem vClosed_eq {S : List TValueOpen} {F : Nat} (hF : S.length < F) (hb : ∀ e ∈ S, 1 ≤ e.fLeft ∧ e.fLeft ≤ 9223372036854775807) (hl : S.length ≤ 4611686018427387904) : vClosed F S.reverse = some (clr S).reverse := by
 obtain ⟨o, h1, h2⟩ := vClosed_lop S F hF hb hl
 unfold vClosed
 rw [obn_s h1, h2]
end Go.Proofs.YtkalifgebccpcaaGreatDoor

/-
 value.look, one cell at a time. Plain laws.
-/
namespace Go.Proofs.YtkalifgebccpcaaGreatDoor
open Go
set_option linter.unusedVariables false
set_option linter.unusedSimpArgs false
def qlen (s : Str) : Int := s.length + 2 + s.count 34 + s.count 92
theorem vQuoted_eq {s : Str} (hs : s.length ≤ 1152921504606846976) : vQuoted s = some (qlen s) := by
 have h1 : s.count 34 ≤ s.length := List.count_le_length
 have h2 : s.count 92 ≤ s.length := List.count_le_length
 unfold vQuoted Lib.countByte
 rw [chk_i64 (by omega) (by omega), chk_i64 (by omega) (by omega), chk_i64 (by omega) (by omega)]
 rfl
def szc (c : TApiCell) : Int :=
 bif decide (c.fKind = 1) then 4 else bif decide (c.fKind = 2) then IntKind.wrap .i64 (5 - c.fInt) else bif decide (c.fKind = 3) then ((Lib.itoa c.fInt).length : Int) else
 bif decide (c.fKind = 4) then qlen c.fStr else IntKind.wrap .i64 (2 + max 0 (IntKind.wrap .i64 (c.fN - 1)))
theorem vSize_eq {c : TApiCell} (hs : c.fStr.length ≤ 1152921504606846976) (hi : inK .i64 c.fInt = true) : vSize c = some (szc c) := by
 unfold vSize szc
 rw [vQuoted_eq hs]
 refine cnd_some rfl (cnd_some rfl (cnd_some ?_ (cnd_some rfl rfl)))
 rw [chk_t hi]
def shc (d : Nat) (sh : TValueShape) (c : TApiCell) : TValueShape :=
 ⟨max sh.fDepth ((d : Int) + 1), IntKind.wrap .i64 (sh.fBytes + szc c), sh.fOutside || (decide (c.fKind = 3) && !(decide ((-1000000000000) ≤ c.fInt) && decide (c.fInt ≤ 1000000000000))), sh.fLong || decide (200 < (c.fStr.length : Int))⟩
def shk (sh : TValueShape) (c : TApiCell) : TValueShape := ⟨sh.fDepth, IntKind.wrap .i64 (sh.fBytes + (qlen c.fStr + 1)), sh.fOutside, sh.fLong || decide (200 < (c.fStr.length : Int))⟩
def keyTop : List TValueOpen → Bool
 | [] => false
 | e :: _ => e.fKey
abbrev LkS := List TValueOpen × Int × TValueShape
abbrev LkO := Out (Int × TValueShape × Bool) TValueShape
def lkc (n : Int) (S : List TValueOpen) (i : Int) (sh : TValueShape) (c : TApiCell) : Stp LkS LkO :=
 bif !pl c then .out (.ret (0, sh, false)) else
 match S with
 | e :: S' =>
  bif e.fKey then
   bif !decide (c.fKind = 4) || (e.fStarted && (sLess c.fStr e.fLast || decide (c.fStr = e.fLast))) then .out (.ret (0, sh, false))
   else .next ((⟨e.fPairs, e.fLeft, false, c.fStr, true⟩ :: S').reverse, i + 1, shk sh c)
  else bif decide (0 < c.fN) then
   bif decide (n < c.fN) then .out (.ret (0, shc S.length sh c, false))
   else .next ((⟨decide (c.fKind = 6), c.fN, decide (c.fKind = 6), [], false⟩ :: S).reverse, i + 1, shc S.length sh c)
  else bif decide (clr S = []) then .out (.ret (i + 1, shc S.length sh c, true)) else .next ((clr S).reverse, i + 1, shc S.length sh c)
 | [] =>
  bif decide (0 < c.fN) then
   bif decide (n < c.fN) then .out (.ret (0, shc 0 sh c, false))
   else .next ([⟨decide (c.fKind = 6), c.fN, decide (c.fKind = 6), [], false⟩], i + 1, shc 0 sh c)
  else .out (.ret (i + 1, shc 0 sh c, true))
theorem clr_nil_length {S : List TValueOpen} : decide (((clr S).reverse.length : Int) = 0) = decide (clr S = []) := by
 rw [Bool.eq_iff_iff]; simp
theorem inA48 {α : Type} {xs : List α} {e x : α} {M : Nat} (h : xs.length + 1 ≤ M) (hM2 : (M + 2) * 48 ≤ 140737488355328) : inA 48 ((xs ++ [e]).length + ([x] : List α).length) = true := by
 refine decide_eq_true (Nat.le_trans (Nat.mul_le_mul_right 48 ?_) hM2)
 rw [List.length_append, List.length_singleton, List.length_singleton]; omega
set_option maxHeartbeats 600000 in
theorem vLook_b1_eq {F : Nat} {v : List TApiCell} {S : List TValueOpen} {i : Int} {sh : TValueShape} {c : TApiCell} (h0 : 0 ≤ i) (hc : v[i.toNat]? = some c) {M : Nat} (hM : M ≤ 1152921504606846976) (hM2 : (M + 2) * 48 ≤ 140737488355328) (hv : v.length ≤ M) (hS : S.length ≤ M) (hF : M < F)
  (hs : c.fStr.length ≤ M) (hi : inK .i64 c.fInt = true) (hb : ∀ e ∈ S, 1 ≤ e.fLeft ∧ e.fLeft ≤ 9223372036854775807) : vLook_b1 F v S.reverse i sh = some (lkc v.length S i sh c) := by
 have hil : i.toNat < v.length := (List.getElem?_eq_some_iff.1 hc).1
 have hat : at' v i = c := by simp [at', hc]
 unfold vLook_b1 lkc
 rw [cnd_tt (by simp; omega), chk_inR h0 (by omega), hat, vPlain_eq (by omega) (by omega), obn_s rfl]
 cases hp : pl c with
 | false => rw [cnd_tt (by simp)]; rfl
 | true =>
  rw [cnd_ff (by simp)]
  cases S with
  | nil =>
   rw [chk_t (by simp [imp]), chk_t (by simp [imp]), cnd_ff (by simp), chk_i64 (by simp) (by simp), vSize_eq (by omega) hi, obn_s rfl, chk_t (by simp [imp, nValid])]
   simp only [nValid, ov, Option.getD_some, Bool.not_true, cond_false]
   cases hn : decide (0 < c.fN) with
   | true =>
    rw [cnd_tt rfl]
    cases hm : decide ((v.length : Int) < c.fN) with
    | true => rw [cnd_tt rfl]; simp [shc]
    | false => rw [cnd_ff rfl, chk_t (by simp [inA])]; unfold vLook_j2; rw [chk_i64 (by omega) (by omega)]; simp [shc]
   | false =>
    rw [cnd_ff rfl, obn_s (vClosed_eq (S := []) (by simp; omega) (by simp) (by simp)), cnd_tt (by simp [clr]), chk_i64 (by omega) (by omega)]; simp [shc]
  | cons e S' =>
   have hx : S'.reverse.length = S'.length := by simp
   generalize hxs : S'.reverse = xs at hx
   have hr : (e :: S').reverse = xs ++ [e] := by simp [hxs]
   simp only [List.length_cons] at hS
   have hlen : ((xs ++ [e]).length : Int) = (xs.length : Int) + 1 := by simp
   rw [hr, chk_t (by simp only [imp, len_last]; rw [inK_i64' (by omega) (by omega)]; simp), chk_t (by simp only [imp, len_last]; rw [inR' (by omega) (by omega)]; simp)]
   rw [len_last, at_last]
   cases hk : e.fKey with
   | true =>
    rw [cnd_tt (by simp), chk_i64 (by omega) (by omega), chk_inR (by omega) (by omega)]
    simp only [hk, Bool.not_true, cond_false, cond_true]
    cases ht : !decide (c.fKind = 4) || (e.fStarted && (sLess c.fStr e.fLast || decide (c.fStr = e.fLast))) with
    | true => rw [cnd_tt rfl]; rfl
    | false =>
     rw [cnd_ff rfl, set_last, bnd, at_last, set_last, bnd, at_last, set_last, bnd, vQuoted_eq (by omega), obn_s rfl, chk_i64 (by unfold qlen; omega) (by unfold qlen; have := @List.count_le_length UInt8 _ 34 c.fStr; have := @List.count_le_length UInt8 _ 92 c.fStr; omega)]
     unfold vLook_j2
     rw [chk_i64 (by omega) (by omega)]
     simp [shk, hxs]
   | false =>
    rw [cnd_ff (by simp), hlen, chk_i64 (by omega) (by omega), vSize_eq (by omega) hi, obn_s rfl, chk_t (by simp [imp, nValid])]
    simp only [hk, nValid, ov, Option.getD_some, Bool.not_true, cond_false, cond_true]
    cases hn : decide (0 < c.fN) with
    | true =>
     rw [cnd_tt rfl]
     cases hm : decide ((v.length : Int) < c.fN) with
     | true => rw [cnd_tt rfl]; simp [shc, hx]
     | false => rw [cnd_ff rfl, chk_t (inA48 (by omega) hM2)]; unfold vLook_j2; rw [chk_i64 (by omega) (by omega)]; simp [shc, hx, hxs]
    | false =>
     have hcl := vClosed_eq (S := e :: S') (F := F) (by simp; omega) hb (by simp; omega)
     rw [hr] at hcl
     rw [cnd_ff rfl, hcl, obn_s rfl, clr_nil_length]
     cases hq : decide (clr (e :: S') = []) with
     | true => rw [cnd_tt rfl, chk_i64 (by omega) (by omega)]; simp [shc, hx]
     | false => rw [cnd_ff rfl]; unfold vLook_j2; rw [chk_i64 (by omega) (by omega)]; simp [shc, hx]
end Go.Proofs.YtkalifgebccpcaaGreatDoor

/-
 Values as forests; value.look on the cells of a forest. Plain laws.
-/
namespace Go.Proofs.YtkalifgebccpcaaGreatDoor
open Go
set_option linter.unusedVariables false
set_option linter.unusedSimpArgs false
section
variable {S O : Type} {body : S → Option (Stp S O)} {s t u : S} {o : O}
def Reach (body : S → Option (Stp S O)) (s t : S) : Prop := ∃ k, ∀ n, lop body (n + k) s = lop body n t
def Fin (body : S → Option (Stp S O)) (s : S) (o : O) : Prop := ∃ k, ∀ n, lop body (n + k) s = some o
theorem Reach.refl (s : S) : Reach body s s := ⟨0, fun _ => rfl⟩
theorem Reach.trans (h : Reach body s t) (h' : Reach body t u) : Reach body s u := by
 obtain ⟨k, hk⟩ := h
 obtain ⟨j, hj⟩ := h'
 exact ⟨j + k, fun n => by rw [← Nat.add_assoc, hk, hj]⟩
theorem Reach.step (h : body s = some (.next t)) : Reach body s t := ⟨1, fun n => by rw [lop, h]⟩
theorem Fin.step (h : body s = some (.out o)) : Fin body s o := ⟨1, fun n => by rw [lop, h]⟩
theorem Reach.fin (h : Reach body s t) (h' : Fin body t o) : Fin body s o := by
 obtain ⟨k, hk⟩ := h
 obtain ⟨j, hj⟩ := h'
 exact ⟨j + k, fun n => by rw [← Nat.add_assoc, hk, hj]⟩
end
inductive Fo where
 | nil
 | cell (k : Option Str) (c : TApiCell) (r : Fo)
 | node (k : Option Str) (c : TApiCell) (kids r : Fo)
def keyC : Option Str → List TApiCell
 | none => []
 | some s => [⟨4, 0, s, 0⟩]
def Fo.flat : Fo → List TApiCell
 | .nil => []
 | .cell k c r => keyC k ++ c :: r.flat
 | .node k c kids r => keyC k ++ c :: (kids.flat ++ r.flat)
def Fo.cnt : Fo → Nat
 | .nil => 0
 | .cell _ _ r => r.cnt + 1
 | .node _ _ _ r => r.cnt + 1
def keyOk (m : Bool) (last : Option Str) : Option Str → Bool
 | none => !m
 | some s => m && s.all okc && (match last with
  | none => true
  | some p => !(sLess s p || decide (s = p)))
def Fo.wf : Bool → Option Str → Fo → Bool
 | _, _, .nil => true
 | m, last, .cell k c r => keyOk m last k && pl c && !decide (0 < c.fN) && r.wf m k
 | m, last, .node k c kids r => keyOk m last k && pl c && decide (0 < c.fN) && decide (c.fN = kids.cnt) && kids.wf (decide (c.fKind = 6)) none && r.wf m k
def shK (k : Option Str) (sh : TValueShape) : TValueShape := match k with
 | none => sh
 | some s => shk sh ⟨4, 0, s, 0⟩
def Fo.sh (d : Nat) : TValueShape → Fo → TValueShape
 | s, .nil => s
 | s, .cell k c r => r.sh d (shc d (shK k s) c)
 | s, .node k c kids r => r.sh d (kids.sh (d + 1) (shc d (shK k s) c))
def Done (body : LkS → Option (Stp LkS LkO)) (s : LkS) (S : List TValueOpen) (i : Int) (sh : TValueShape) : Prop :=
 if clr S = [] then Fin body s (.ret (i, sh, true)) else Reach body s ((clr S).reverse, i, sh)
theorem Done.of {body : LkS → Option (Stp LkS LkO)} {s t : LkS} {S : List TValueOpen} {i : Int} {sh : TValueShape} (h : Reach body s t) (h' : Done body t S i sh) : Done body s S i sh := by
 unfold Done at *
 split
 ·rename_i e; rw [if_pos e] at h'; exact h.fin h'
 ·rename_i e; rw [if_neg e] at h'; exact h.trans h'
theorem Done.pop {body : LkS → Option (Stp LkS LkO)} {s : LkS} {e : TValueOpen} {S : List TValueOpen} {i : Int} {sh : TValueShape} (h : Done body s (e :: S) i sh) (h1 : e.fLeft = 1) : Done body s S i sh := by
 have : clr (e :: S) = clr S := by simp [clr, h1]
 unfold Done at *
 rw [this] at h; exact h
theorem Done.more {body : LkS → Option (Stp LkS LkO)} {s : LkS} {e : TValueOpen} {S : List TValueOpen} {i : Int} {sh : TValueShape} (h : Done body s (e :: S) i sh) (h1 : 1 < e.fLeft) : Reach body s ((⟨e.fPairs, e.fLeft - 1, e.fPairs, e.fLast, e.fStarted⟩ :: S).reverse, i, sh) := by
 have : clr (e :: S) = ⟨e.fPairs, e.fLeft - 1, e.fPairs, e.fLast, e.fStarted⟩ :: S := by simp [clr, h1]
 unfold Done at *
 rw [this, if_neg (by simp)] at h; exact h
end Go.Proofs.YtkalifgebccpcaaGreatDoor

/-
 value.look on the cells of a forest: it goes through them. Plain laws.
-/
namespace Go.Proofs.YtkalifgebccpcaaGreatDoor
open Go
set_option linter.unusedVariables false
set_option linter.unusedSimpArgs false
structure LkA (F M : Nat) (v : List TApiCell) : Prop where
 hM : M ≤ 1152921504606846976
 hM2 : (M + 2) * 48 ≤ 140737488355328
 hv : v.length ≤ M
 hF : M < F
 hc : ∀ c ∈ v, c.fStr.length ≤ M ∧ inK .i64 c.fInt = true ∧ c.fN ≤ 9223372036854775807
abbrev lkB (F : Nat) (v : List TApiCell) : LkS → Option (Stp LkS LkO) := fun σ => vLook_b1 F v σ.1 σ.2.1 σ.2.2
def lefts (S : List TValueOpen) : Prop := ∀ e ∈ S, 1 ≤ e.fLeft ∧ e.fLeft ≤ 9223372036854775807
section
variable {F M : Nat} {v : List TApiCell} {S : List TValueOpen} {i : Int} {sh : TValueShape} {c : TApiCell} {r : List TApiCell} {e : TValueOpen}
theorem drop_get (h0 : 0 ≤ i) (h : v.drop i.toNat = c :: r) : v[i.toNat]? = some c ∧ v.drop (i + 1).toNat = r ∧ i < v.length := by
 have h1 : (v.drop i.toNat)[0]? = some c := by rw [h]; rfl
 have h2 : v[i.toNat]? = some c := by simpa using h1
 have h3 := (List.getElem?_eq_some_iff.1 h2).1
 refine ⟨h2, ?_, by omega⟩
 rw [show (i + 1).toNat = i.toNat + 1 from by omega, ← List.drop_drop, h]; rfl
theorem round (hA : LkA F M v) (h0 : 0 ≤ i) (h : v.drop i.toNat = c :: r) (hS : (S.length : Int) ≤ i) (hb : lefts S) : lkB F v (S.reverse, i, sh) = some (lkc v.length S i sh c) := by
 obtain ⟨h1, _, h3⟩ := drop_get h0 h
 obtain ⟨a, b, _⟩ := hA.hc c (List.mem_of_getElem? h1)
 have := hA.hv
 exact vLook_b1_eq h0 h1 hA.hM hA.hM2 hA.hv (by omega) hA.hF a b hb
def keyed (e : TValueOpen) : Option Str → TValueOpen
 | none => e
 | some s => ⟨e.fPairs, e.fLeft, false, s, true⟩
def lastOk (e : TValueOpen) : Option Str → Prop
 | none => e.fStarted = false
 | some p => e.fStarted = true ∧ e.fLast = p
theorem keyRound (hA : LkA F M v) (h0 : 0 ≤ i) {k last : Option Str} (h : v.drop i.toNat = keyC k ++ r) (hS : (S.length : Int) + 1 ≤ i) (hb : lefts (e :: S)) (hk : keyOk e.fKey last k = true) (hl : lastOk e last) :
  Reach (lkB F v) ((e :: S).reverse, i, sh) ((keyed e k :: S).reverse, i + (keyC k).length, shK k sh) := by
 cases k with
 | none => simpa [keyed, keyC, shK] using Reach.refl _
 | some s =>
  simp only [keyOk, Bool.and_eq_true] at hk
  obtain ⟨⟨hm, hok⟩, hcmp⟩ := hk
  refine Reach.step ?_
  rw [round hA h0 (by simpa [keyC] using h) (by simpa using hS) hb]
  have hp : pl ⟨4, 0, s, 0⟩ = true := by simp [pl, hok]
  have ht : (e.fStarted && (sLess s e.fLast || decide (s = e.fLast))) = false := by
   cases last with
   | none => simp only [lastOk] at hl; rw [hl]; rfl
   | some p => obtain ⟨h1, h2⟩ := hl; rw [h1, h2]; simpa using hcmp
  simp only [lkc, hp, hm, ht, Bool.not_true, cond_false, cond_true, decide_true, Bool.or_false, Bool.or_self]
  rfl
theorem keyed_key {k last : Option Str} (hk : keyOk e.fKey last k = true) : (keyed e k).fKey = false := by
 cases k with
 | none => simpa [keyed, keyOk] using hk
 | some s => rfl
theorem keyed_left (k : Option Str) : (keyed e k).fLeft = e.fLeft ∧ (keyed e k).fPairs = e.fPairs := by cases k <;> exact ⟨rfl, rfl⟩
theorem leafRound (hA : LkA F M v) (h0 : 0 ≤ i) (h : v.drop i.toNat = c :: r) (hS : (S.length : Int) ≤ i) (hb : lefts S) (hk : keyTop S = false) (hp : pl c = true) (hn : decide (0 < c.fN) = false) :
  Done (lkB F v) (S.reverse, i, sh) S (i + 1) (shc S.length sh c) := by
 have hr := round (sh := sh) hA h0 h hS hb
 unfold Done
 cases S with
 | nil =>
  rw [if_pos (by simp [clr])]
  refine Fin.step ?_
  rw [hr]; simp [lkc, hp, hn]
 | cons e S =>
  simp only [keyTop] at hk
  split
  ·rename_i hc
   refine Fin.step ?_
   rw [hr]; simp [lkc, hp, hn, hk, hc]
  ·rename_i hc
   refine Reach.step ?_
   rw [hr]; simp [lkc, hp, hn, hk, hc]
theorem nodeRound (hA : LkA F M v) (h0 : 0 ≤ i) (h : v.drop i.toNat = c :: r) (hS : (S.length : Int) ≤ i) (hb : lefts S) (hk : keyTop S = false) (hp : pl c = true) (hn : decide (0 < c.fN) = true) (hv : c.fN ≤ v.length) :
  Reach (lkB F v) (S.reverse, i, sh) ((⟨decide (c.fKind = 6), c.fN, decide (c.fKind = 6), [], false⟩ :: S).reverse, i + 1, shc S.length sh c) := by
 have hr := round (sh := sh) hA h0 h hS hb
 have hv' : decide ((v.length : Int) < c.fN) = false := by simpa using hv
 refine Reach.step ?_
 rw [hr]
 cases S with
 | nil => simp only [lkc, hp, hn, hv', Bool.not_true, cond_false, cond_true]; rfl
 | cons e S =>
  simp only [keyTop] at hk
  simp only [lkc, hp, hn, hv', hk, Bool.not_true, cond_false, cond_true]
theorem cnt_le_flat : ∀ f : Fo, f.cnt ≤ f.flat.length
 | .nil => Nat.le_refl _
 | .cell k c r => by have := cnt_le_flat r; simp [Fo.cnt, Fo.flat]; omega
 | .node k c kids r => by have := cnt_le_flat r; simp [Fo.cnt, Fo.flat]; omega
theorem drop_app {α : Type} {v xs r : List α} {i : Int} (h0 : 0 ≤ i) (h : v.drop i.toNat = xs ++ r) : v.drop (i + xs.length).toNat = r := by
 rw [show (i + (xs.length : Int)).toNat = i.toNat + xs.length from by omega, ← List.drop_drop, h, List.drop_left]
theorem restLook (hA : LkA F M v) {e' : TValueOpen} {s : LkS} {k : Option Str} {r' : Fo}
  (ih : ∀ (e : TValueOpen) (S : List TValueOpen) (i : Int) (sh : TValueShape) (last : Option Str) (r : List TApiCell), 1 ≤ r'.cnt → r'.wf e.fPairs last = true → e.fKey = e.fPairs → e.fLeft = r'.cnt → lastOk e last → (e.fPairs = false → last = none) → v.drop i.toNat = r'.flat ++ r → 0 ≤ i → (S.length : Int) + 1 ≤ i → lefts S →
   Done (lkB F v) ((e :: S).reverse, i, sh) S (i + r'.flat.length) (r'.sh (S.length + 1) sh))
  (hd : Done (lkB F v) s (e' :: S) i sh) (hl : e'.fLeft = r'.cnt + 1) (hw : r'.wf e'.fPairs k = true) (hk : lastOk e' k) (hm : e'.fPairs = false → k = none) (hv : v.drop i.toNat = r'.flat ++ r) (h0 : 0 ≤ i) (hS : (S.length : Int) + 1 ≤ i) (hb : lefts S) :
  Done (lkB F v) s S (i + r'.flat.length) (r'.sh (S.length + 1) sh) := by
 by_cases h1 : r'.cnt = 0
 ·cases r' with
  | nil => simpa [Fo.flat, Fo.sh] using hd.pop (by rw [hl]; rfl)
  | cell _ _ _ => simp [Fo.cnt] at h1
  | node _ _ _ _ => simp [Fo.cnt] at h1
 ·have := hd.more (by omega)
  refine Done.of this (ih _ S i sh k r (by omega) hw rfl (by simp only; omega) ?_ hm hv h0 hS hb)
  cases k with
  | none => exact hk
  | some p => exact hk
theorem keyed_last {k last : Option Str} (hl : lastOk e last) (hm : e.fPairs = false → last = none) (hk : keyOk e.fPairs last k = true) : lastOk (keyed e k) k ∧ ((keyed e k).fPairs = false → k = none) := by
 cases k with
 | none =>
  have : e.fPairs = false := by simpa [keyOk] using hk
  rw [hm this] at hl
  exact ⟨hl, fun _ => rfl⟩
 | some s =>
  refine ⟨⟨rfl, rfl⟩, fun h => ?_⟩
  have h : e.fPairs = false := h
  simp [keyOk, h] at hk
theorem forest_look (hA : LkA F M v) : ∀ (f : Fo) (e : TValueOpen) (S : List TValueOpen) (i : Int) (sh : TValueShape) (last : Option Str) (r : List TApiCell), 1 ≤ f.cnt → f.wf e.fPairs last = true → e.fKey = e.fPairs → e.fLeft = f.cnt → lastOk e last → (e.fPairs = false → last = none) → v.drop i.toNat = f.flat ++ r → 0 ≤ i → (S.length : Int) + 1 ≤ i → lefts S →
   Done (lkB F v) ((e :: S).reverse, i, sh) S (i + f.flat.length) (f.sh (S.length + 1) sh) := by
 have hmax : ∀ (i : Int) (xs : List TApiCell), 0 ≤ i → v.drop i.toNat = xs → xs.length ≤ v.length := fun i xs _ h => by rw [← h, List.length_drop]; omega
 intro f
 induction f with
 | nil => intro e S i sh last r h1; simp [Fo.cnt] at h1
 | cell k c r' ih =>
  intro e S i sh last r h1 hw hk hl hlo hm hv h0 hS hb
  simp only [Fo.wf, Bool.and_eq_true, Bool.not_eq_true'] at hw
  obtain ⟨⟨⟨w1, w2⟩, w3⟩, w4⟩ := hw
  simp only [Fo.flat, List.append_assoc, List.cons_append] at hv
  have hcnt := hmax i _ h0 hv
  have hcf := cnt_le_flat r'
  simp only [List.length_append, List.length_cons] at hcnt
  have hvM := hA.hv; have hMM := hA.hM
  simp only [Fo.cnt] at hl
  have hb' : lefts (e :: S) := fun x hx => by
   rcases List.mem_cons.1 hx with rfl | hx
   ·constructor <;> omega
   ·exact hb x hx
  have hkr := keyRound (sh := sh) hA h0 hv hS hb' (by rw [hk]; exact w1) hlo
  have hv1 := drop_app h0 hv
  obtain ⟨kl, kp⟩ := keyed_left (e := e) k
  have hbk : lefts (keyed e k :: S) := fun x hx => by
   rcases List.mem_cons.1 hx with rfl | hx
   ·rw [kl]; exact hb' e (by simp)
   ·exact hb x hx
  have hd := leafRound (sh := shK k sh) hA (by omega) hv1 (by simp only [List.length_cons]; omega) hbk (keyed_key (by rw [hk]; exact w1)) w2 w3
  obtain ⟨q1, q2⟩ := keyed_last hlo hm w1
  have hv2 := (drop_get (by omega) hv1).2.1
  have := restLook hA ih (hd.of hkr) (by rw [kl, hl]; rfl) (by rw [kp]; exact w4) q1 q2 hv2 (by omega) (by omega) hb
  simp only [Fo.flat, Fo.sh, List.length_append, List.length_cons]
  rw [show i + ((((keyC k).length + (r'.flat.length + 1) : Nat)) : Int) = i + (keyC k).length + 1 + r'.flat.length from by omega]
  exact this
 | node k c kids r' ihk ih =>
  intro e S i sh last r h1 hw hk hl hlo hm hv h0 hS hb
  simp only [Fo.wf, Bool.and_eq_true, decide_eq_true_eq] at hw
  obtain ⟨⟨⟨⟨⟨w1, w2⟩, w3⟩, w5⟩, w6⟩, w4⟩ := hw
  simp only [Fo.flat, List.append_assoc, List.cons_append] at hv
  have hcnt := hmax i _ h0 hv
  have hcf := cnt_le_flat r'
  have hck := cnt_le_flat kids
  simp only [List.length_append, List.length_cons] at hcnt
  have hvM := hA.hv; have hMM := hA.hM
  simp only [Fo.cnt] at hl
  have hb' : lefts (e :: S) := fun x hx => by
   rcases List.mem_cons.1 hx with rfl | hx
   ·constructor <;> omega
   ·exact hb x hx
  have hkr := keyRound (sh := sh) hA h0 hv hS hb' (by rw [hk]; exact w1) hlo
  have hv1 := drop_app h0 hv
  obtain ⟨kl, kp⟩ := keyed_left (e := e) k
  have hbk : lefts (keyed e k :: S) := fun x hx => by
   rcases List.mem_cons.1 hx with rfl | hx
   ·rw [kl]; exact hb' e (by simp)
   ·exact hb x hx
  have hn := nodeRound (sh := shK k sh) hA (by omega) hv1 (by simp only [List.length_cons]; omega) hbk (keyed_key (by rw [hk]; exact w1)) w2 (by simpa using w3) (by omega)
  have hv2 := (drop_get (by omega) hv1).2.1
  have hd := ihk ⟨decide (c.fKind = 6), c.fN, decide (c.fKind = 6), [], false⟩ (keyed e k :: S) (i + (keyC k).length + 1) (shc (S.length + 1) (shK k sh) c) none _ (by omega) w6 rfl w5 rfl (fun _ => rfl) hv2 (by omega) (by simp only [List.length_cons]; omega) hbk
  obtain ⟨q1, q2⟩ := keyed_last hlo hm w1
  have hv3 := drop_app (by omega) hv2
  have := restLook hA ih ((hd.of hn).of hkr) (by rw [kl, hl]; rfl) (by rw [kp]; exact w4) q1 q2 hv3 (by omega) (by omega) hb
  simp only [Fo.flat, Fo.sh, List.length_append, List.length_cons]
  rw [show i + ((((keyC k).length + (kids.flat.length + r'.flat.length + 1) : Nat)) : Int) = i + (keyC k).length + 1 + kids.flat.length + r'.flat.length from by omega]
  exact this
end
end Go.Proofs.YtkalifgebccpcaaGreatDoor

/-
 value.look always ends; what it says of a value. Plain laws.
-/
namespace Go.Proofs.YtkalifgebccpcaaGreatDoor
open Go
set_option linter.unusedVariables false
set_option linter.unusedSimpArgs false
theorem lop_mono {S O : Type} {body : S → Option (Stp S O)} {o : O} : ∀ {n : Nat} {s : S} (k : Nat), lop body n s = some o → lop body (n + k) s = some o
 | 0, s, k, h => by cases h
 | n + 1, s, k, h => by
  rw [show n + 1 + k = n + k + 1 from by omega, lop]
  rw [lop] at h
  cases hb : body s with
  | none => rw [hb] at h; cases h
  | some t =>
   rw [hb] at h
   cases t with
   | next s' => exact lop_mono k h
   | out o' => exact h
theorem Fin.eq {S O : Type} {body : S → Option (Stp S O)} {s : S} {o o' : O} {n : Nat} (h : Fin body s o) (h' : lop body n s = some o') : o' = o := by
 obtain ⟨k, hk⟩ := h
 have := lop_mono k h'
 rw [hk n] at this
 exact (some_e this).symm
theorem clr_lefts : ∀ {S : List TValueOpen}, lefts S → lefts (clr S) ∧ (clr S).length ≤ S.length
 | [], h => ⟨h, Nat.le_refl _⟩
 | e :: S, h => by
  have hS : lefts S := fun x hx => h x (by simp [hx])
  have he := h e (by simp)
  unfold clr
  cases hd : decide (1 < e.fLeft) with
  | true =>
   simp only [decide_eq_true_eq] at hd
   refine ⟨fun x hx => ?_, by simp⟩
   rcases List.mem_cons.1 hx with rfl | hx
   ·simp only; omega
   ·exact hS x hx
  | false =>
   obtain ⟨h1, h2⟩ := clr_lefts hS
   exact ⟨h1, by simp only [cond_false, List.length_cons]; omega⟩
theorem lkc_next {n : Int} {S : List TValueOpen} {i : Int} {sh : TValueShape} {c : TApiCell} {σ : LkS} (hb : lefts S) (hS : (S.length : Int) ≤ i) (hN : c.fN ≤ 9223372036854775807) (h : lkc n S i sh c = .next σ) : ∃ S' sh', σ = (S'.reverse, i + 1, sh') ∧ lefts S' ∧ (S'.length : Int) ≤ i + 1 := by
 unfold lkc at h
 cases hp : pl c with
 | false => simp [hp] at h
 | true =>
  simp only [hp, Bool.not_true, cond_false] at h
  cases S with
  | nil =>
   simp only at h
   cases hn : decide (0 < c.fN) with
   | false => simp [hn] at h
   | true =>
    simp only [hn, cond_true] at h
    cases hm : decide (n < c.fN) with
    | true => simp [hm] at h
    | false =>
     simp only [hm, cond_false, Stp.next.injEq] at h
     refine ⟨[_], _, h.symm, fun x hx => ?_, by simp at hS ⊢; omega⟩
     simp only [List.mem_singleton] at hx; subst hx
     simp only [decide_eq_true_eq] at hn
     exact ⟨by simp only; omega, hN⟩
  | cons e S =>
   have he := hb e (by simp)
   have hbS : lefts S := fun x hx => hb x (by simp [hx])
   simp only [List.length_cons] at hS
   cases hk : e.fKey with
   | true =>
    simp only [hk, cond_true] at h
    cases hq : (!decide (c.fKind = 4) || (e.fStarted && (sLess c.fStr e.fLast || decide (c.fStr = e.fLast)))) with
    | true => rw [hq] at h; simp at h
    | false =>
     rw [hq] at h
     simp only [cond_false, Stp.next.injEq] at h
     refine ⟨_ :: S, _, h.symm, fun x hx => ?_, by simp only [List.length_cons]; omega⟩
     rcases List.mem_cons.1 hx with rfl | hx
     ·exact he
     ·exact hbS x hx
   | false =>
    simp only [hk, cond_false] at h
    cases hn : decide (0 < c.fN) with
    | true =>
     simp only [hn, cond_true] at h
     cases hm : decide (n < c.fN) with
     | true => simp [hm] at h
     | false =>
      simp only [hm, cond_false, Stp.next.injEq] at h
      refine ⟨_ :: e :: S, _, h.symm, fun x hx => ?_, by simp only [List.length_cons]; omega⟩
      rcases List.mem_cons.1 hx with rfl | hx
      ·simp only [decide_eq_true_eq] at hn
       exact ⟨by simp only; omega, hN⟩
      ·exact hb x hx
    | false =>
     simp only [hn, cond_false] at h
     cases hq : decide (clr (e :: S) = []) with
     | true => rw [hq] at h; simp at h
     | false =>
      rw [hq] at h
      simp only [cond_false, Stp.next.injEq] at h
      obtain ⟨h1, h2⟩ := clr_lefts hb
      simp only [List.length_cons] at h2
      exact ⟨_, _, h.symm, h1, by omega⟩
theorem look_total {F M : Nat} {v : List TApiCell} (hA : LkA F M v) : ∃ o, lop (lkB F v) F (([] : List TValueOpen), 0, (⟨0, 0, false, false⟩ : TValueShape)) = some o ∧ True := by
 refine lop_ind (fun σ => ∃ S i sh, σ = (S.reverse, i, sh) ∧ lefts S ∧ (S.length : Int) ≤ i ∧ 0 ≤ i ∧ i ≤ v.length) (fun σ => v.length - σ.2.1.toNat) (fun _ => True) (fun σ hI => ?_) F _ ⟨[], 0, _, rfl, (fun x hx => by cases hx), Int.le_refl _, Int.le_refl _, by omega⟩ (by have := hA.hv; have := hA.hF; simp; omega)
 obtain ⟨S, i, sh, rfl, hb, hS, h0, hi⟩ := hI
 by_cases hx : i < v.length
 ·obtain ⟨c, hc⟩ : ∃ c, v[i.toNat]? = some c := ⟨v[i.toNat]'(by omega), List.getElem?_eq_getElem (by omega)⟩
  have hdr : v.drop i.toNat = c :: v.drop (i.toNat + 1) := by rw [List.drop_eq_getElem_cons (by omega)]; congr 1; exact (List.getElem?_eq_some_iff.1 hc).2
  have hr := round (sh := sh) hA h0 hdr hS hb
  cases hl : lkc v.length S i sh c with
  | next τ =>
   obtain ⟨S', sh', rfl, h1, h2⟩ := lkc_next hb hS (hA.hc c (List.mem_of_getElem? hc)).2.2 hl
   exact .inl ⟨_, by rw [hr, hl], ⟨S', i + 1, sh', rfl, h1, h2, by omega, by omega⟩, by simp only; omega⟩
  | out o => exact .inr ⟨o, by rw [hr, hl], trivial⟩
 ·refine .inr ⟨.go sh, ?_, trivial⟩
  show vLook_b1 F v S.reverse i sh = _
  unfold vLook_b1
  rw [cnd_ff (by simpa using hx)]
def Fo.one : Fo → Bool
 | .cell none _ .nil => true
 | .node none _ _ .nil => true
 | _ => false
def sh0 : TValueShape := ⟨0, 0, false, false⟩
theorem look_fin {F M : Nat} {v : List TApiCell} (hA : LkA F M v) {f : Fo} (h1 : f.one = true) (hw : f.wf false none = true) {r : List TApiCell} (hv : v = f.flat ++ r) : Fin (lkB F v) ([], 0, sh0) (.ret (f.flat.length, f.sh 0 sh0, true)) := by
 have h0 : v.drop (0 : Int).toNat = f.flat ++ r := by rw [hv]; rfl
 have hlen : f.flat.length ≤ v.length := by rw [hv]; simp
 cases f with
 | nil => cases h1
 | cell k c r' =>
  cases k with
  | some s => cases h1
  | none =>
   cases r' with
   | nil =>
    simp only [Fo.wf, Bool.and_eq_true, Bool.not_eq_true'] at hw
    have := leafRound (S := []) (sh := sh0) hA (Int.le_refl 0) h0 (by simp) (fun x hx => by cases hx) rfl hw.1.1.2 hw.1.2
    unfold Done at this
    rw [if_pos (show clr [] = [] from rfl)] at this
    simpa [Fo.flat, Fo.sh, keyC, shK] using this
   | cell _ _ _ => cases h1
   | node _ _ _ _ => cases h1
 | node k c kids r' =>
  cases k with
  | some s => cases h1
  | none =>
   cases r' with
   | nil =>
    simp only [Fo.wf, Bool.and_eq_true, decide_eq_true_eq] at hw
    obtain ⟨⟨⟨⟨⟨w1, w2⟩, w3⟩, w5⟩, w6⟩, w4⟩ := hw
    have hck := cnt_le_flat kids
    simp only [Fo.flat, keyC, List.nil_append, List.append_nil, List.length_cons] at hlen
    have hvM := hA.hv; have hMM := hA.hM
    have hn := nodeRound (S := []) (sh := sh0) hA (Int.le_refl 0) h0 (by simp) (fun x hx => by cases hx) rfl w2 (by simpa using w3) (by omega)
    have hv2 := (drop_get (Int.le_refl 0) h0).2.1
    have hd := forest_look hA kids ⟨decide (c.fKind = 6), c.fN, decide (c.fKind = 6), [], false⟩ [] (0 + 1) (shc 0 sh0 c) none r (by omega) w6 rfl w5 rfl (fun _ => rfl) (by rw [hv2]; simp [Fo.flat]) (by omega) (by simp) (fun x hx => by cases hx)
    unfold Done at hd
    rw [if_pos (show clr [] = [] from rfl)] at hd
    have := hn.fin hd
    have e : ((0 : Int) + 1 + kids.flat.length) = ((Fo.node none c kids .nil).flat.length : Int) := by simp [Fo.flat, keyC]; omega
    rw [e] at this
    exact this
   | cell _ _ _ => cases h1
   | node _ _ _ _ => cases h1
theorem look_val {F M : Nat} {v : List TApiCell} (hA : LkA F M v) {f : Fo} (h1 : f.one = true) (hw : f.wf false none = true) {r : List TApiCell} (hv : v = f.flat ++ r) : vLook F v = some ((f.flat.length : Int), f.sh 0 sh0, true) := by
 obtain ⟨o, ho, _⟩ := look_total hA
 have e := (look_fin hA h1 hw hv).eq ho
 subst e
 unfold vLook
 rw [obn_s ho]; rfl
end Go.Proofs.YtkalifgebccpcaaGreatDoor

/-
 Reading values of cells: a plain reader; value.look says what it says. Plain laws.
-/
namespace Go.Proofs.YtkalifgebccpcaaGreatDoor
open Go
set_option linter.unusedVariables false
set_option linter.unusedSimpArgs false
def prsK (m : Bool) (last : Option Str) (xs : List TApiCell) : Option (Option Str × List TApiCell) :=
 bif m then match xs with
  | [] => none
  | c :: r => bif pl c && decide (c.fKind = 4) && keyOk true last (some c.fStr) then some (some c.fStr, r) else none
 else some (none, xs)
def prs : Nat → Bool → Option Str → Nat → List TApiCell → Option (Fo × List TApiCell)
 | 0, _, _, _, _ => none
 | _ + 1, _, _, 0, xs => some (.nil, xs)
 | F + 1, m, last, k + 1, xs =>
  match prsK m last xs with
  | none => none
  | some (_, []) => none
  | some (key, c :: xs') =>
   bif !pl c then none else
   bif decide (0 < c.fN) then
    match prs F (decide (c.fKind = 6)) none c.fN.toNat xs' with
    | none => none
    | some (kids, ys) => match prs F m key k ys with
     | none => none
     | some (r, zs) => some (.node key c kids r, zs)
   else match prs F m key k xs' with
    | none => none
    | some (r, zs) => some (.cell key c r, zs)
theorem pl_key {c : TApiCell} (hp : pl c = true) (hk : c.fKind = 4) : c = ⟨4, 0, c.fStr, 0⟩ ∧ c.fStr.all okc = true := by
 cases c
 simp only at hk; subst hk
 simp [pl] at hp
 obtain ⟨h1, h2, h3⟩ := hp
 subst h1; subst h2
 exact ⟨rfl, by simpa using h3⟩
theorem prsK_ok {m : Bool} {last key : Option Str} {xs r : List TApiCell} (h : prsK m last xs = some (key, r)) : xs = keyC key ++ r ∧ keyOk m last key = true := by
 unfold prsK at h
 cases m with
 | false => cases h; exact ⟨rfl, rfl⟩
 | true =>
  simp only [cond_true] at h
  cases xs with
  | nil => cases h
  | cons c r' =>
   simp only at h
   cases hb : (pl c && decide (c.fKind = 4) && keyOk true last (some c.fStr)) with
   | false => rw [hb] at h; cases h
   | true =>
    rw [hb] at h
    simp only [Bool.and_eq_true, decide_eq_true_eq] at hb
    cases h
    exact ⟨by rw [(pl_key hb.1.1 hb.1.2).1]; rfl, hb.2⟩
theorem prs_ok : ∀ (F : Nat) (m : Bool) (last : Option Str) (k : Nat) (xs : List TApiCell) (f : Fo) (ys : List TApiCell), prs F m last k xs = some (f, ys) → xs = f.flat ++ ys ∧ f.wf m last = true ∧ f.cnt = k
 | 0, _, _, _, _, _, _, h => by cases h
 | F + 1, m, last, 0, xs, f, ys, h => by cases h; exact ⟨rfl, rfl, rfl⟩
 | F + 1, m, last, k + 1, xs, f, ys, h => by
  rw [prs] at h
  cases hk : prsK m last xs with
  | none => rw [hk] at h; cases h
  | some p =>
   obtain ⟨key, r⟩ := p
   obtain ⟨h1, h2⟩ := prsK_ok hk
   rw [hk] at h
   cases r with
   | nil => cases h
   | cons c xs' =>
    simp only at h
    cases hp : pl c with
    | false => rw [hp] at h; cases h
    | true =>
     rw [hp] at h
     simp only [Bool.not_true, cond_false] at h
     cases hn : decide (0 < c.fN) with
     | true =>
      rw [hn] at h
      simp only [cond_true] at h
      cases hq : prs F (decide (c.fKind = 6)) none c.fN.toNat xs' with
      | none => rw [hq] at h; cases h
      | some q =>
       obtain ⟨kids, zs⟩ := q
       rw [hq] at h
       simp only at h
       cases hr : prs F m key k zs with
       | none => rw [hr] at h; cases h
       | some q2 =>
        obtain ⟨r2, us⟩ := q2
        rw [hr] at h; cases h
        obtain ⟨a1, a2, a3⟩ := prs_ok F _ _ _ _ _ _ hq
        obtain ⟨b1, b2, b3⟩ := prs_ok F _ _ _ _ _ _ hr
        refine ⟨by rw [h1, a1, b1]; simp [Fo.flat], ?_, by simp [Fo.cnt, b3]⟩
        simp only [decide_eq_true_eq] at hn
        simp only [Fo.wf, h2, hp, a2, b2, Bool.and_true, Bool.true_and, Bool.and_eq_true, decide_eq_true_eq]
        omega
     | false =>
      rw [hn] at h
      simp only [cond_false] at h
      cases hr : prs F m key k xs' with
      | none => rw [hr] at h; cases h
      | some q2 =>
       obtain ⟨r2, us⟩ := q2
       rw [hr] at h; cases h
       obtain ⟨b1, b2, b3⟩ := prs_ok F _ _ _ _ _ _ hr
       exact ⟨by rw [h1, b1]; simp [Fo.flat], by simp [Fo.wf, h2, hp, b2, hn], by simp [Fo.cnt, b3]⟩
theorem prs_fuel : ∀ (F F' : Nat) (m : Bool) (last : Option Str) (k : Nat) (xs : List TApiCell), xs.length < F → xs.length < F' → prs F m last k xs = prs F' m last k xs
 | 0, _, _, _, _, _, h, _ => by omega
 | _ + 1, 0, _, _, _, _, _, h => by omega
 | F + 1, F' + 1, m, last, 0, xs, _, _ => rfl
 | F + 1, F' + 1, m, last, k + 1, xs, h, h' => by
  rw [prs, prs]
  cases hk : prsK m last xs with
  | none => rfl
  | some p =>
   obtain ⟨key, r⟩ := p
   obtain ⟨h1, h2⟩ := prsK_ok hk
   cases r with
   | nil => rfl
   | cons c xs' =>
    have hl : xs'.length < xs.length := by rw [h1]; simp; omega
    simp only
    cases hp : pl c with
    | false => rfl
    | true =>
     simp only [Bool.not_true, cond_false]
     cases hn : decide (0 < c.fN) with
     | true =>
      simp only [cond_true]
      rw [prs_fuel F F' _ _ _ xs' (by omega) (by omega)]
      cases hq : prs F' (decide (c.fKind = 6)) none c.fN.toNat xs' with
      | none => rfl
      | some q =>
       obtain ⟨kids, zs⟩ := q
       have := (prs_ok _ _ _ _ _ _ _ hq).1
       have hz : zs.length ≤ xs'.length := by rw [this]; simp
       simp only
       rw [prs_fuel F F' m key k zs (by omega) (by omega)]
     | false =>
      simp only [cond_false]
      rw [prs_fuel F F' m key k xs' (by omega) (by omega)]
def Bad {S : Type} (body : S → Option (Stp S LkO)) (s : S) : Prop := ∃ sh', Fin body s (.ret (0, sh', false)) ∨ Fin body s (.go sh')
theorem Reach.bad {S : Type} {body : S → Option (Stp S LkO)} {s t : S} (h : Reach body s t) (h' : Bad body t) : Bad body s := by
 obtain ⟨sh', h' | h'⟩ := h'
 ·exact ⟨sh', .inl (h.fin h')⟩
 ·exact ⟨sh', .inr (h.fin h')⟩
section
variable {F M : Nat} {v : List TApiCell}
theorem Bad.end_ {S : List TValueOpen} {i : Int} {sh : TValueShape} (h0 : 0 ≤ i) (h : v.drop i.toNat = []) : Bad (lkB F v) (S.reverse, i, sh) := by
 refine ⟨sh, .inr (Fin.step ?_)⟩
 show vLook_b1 F v S.reverse i sh = _
 unfold vLook_b1
 rw [cnd_ff]
 have : v.length ≤ i.toNat := by simpa using h
 simp; omega
theorem Bad.pl_ (hA : LkA F M v) {S : List TValueOpen} {i : Int} {sh : TValueShape} {c : TApiCell} {r : List TApiCell} (h0 : 0 ≤ i) (h : v.drop i.toNat = c :: r) (hS : (S.length : Int) ≤ i) (hb : lefts S) (hp : pl c = false) : Bad (lkB F v) (S.reverse, i, sh) := by
 refine ⟨sh, .inl (Fin.step ?_)⟩
 rw [round hA h0 h hS hb]
 simp [lkc, hp]
theorem forest_bad (hA : LkA F M v) : ∀ (P : Nat) (k : Nat) (e : TValueOpen) (S : List TValueOpen) (i : Int) (sh : TValueShape) (last : Option Str) (xs : List TApiCell), xs.length < P → prs P e.fPairs last (k + 1) xs = none → e.fKey = e.fPairs → e.fLeft = (k : Int) + 1 → (k : Int) + 1 ≤ 9223372036854775807 → lastOk e last → (e.fPairs = false → last = none) → v.drop i.toNat = xs → 0 ≤ i → (S.length : Int) + 1 ≤ i → lefts S →
  Bad (lkB F v) ((e :: S).reverse, i, sh) := by
 intro P
 induction P with
 | zero => intro k e S i sh last xs h; omega
 | succ P ih =>
  intro k e S i sh last xs hP hn hk hl hkm hlo hm hv h0 hS hb
  have hb' : lefts (e :: S) := fun x hx => by
   rcases List.mem_cons.1 hx with rfl | hx
   ·constructor <;> omega
   ·exact hb x hx
  rw [prs] at hn
  cases hq : prsK e.fPairs last xs with
  | none =>
   unfold prsK at hq
   cases hpr : e.fPairs with
   | false => rw [hpr] at hq; cases hq
   | true =>
    rw [hpr] at hq hk
    simp only [cond_true] at hq
    cases xs with
    | nil => exact Bad.end_ h0 hv
    | cons c r =>
     simp only at hq
     cases hp : pl c with
     | false => exact Bad.pl_ hA h0 hv (by simpa using hS) hb' hp
     | true =>
      refine ⟨sh, .inl (Fin.step ?_)⟩
      rw [round hA h0 hv (by simpa using hS) hb']
      have ht : (!decide (c.fKind = 4) || (e.fStarted && (sLess c.fStr e.fLast || decide (c.fStr = e.fLast)))) = true := by
       rw [hp] at hq
       cases h4 : decide (c.fKind = 4) with
       | false => rfl
       | true =>
        rw [h4] at hq
        simp only [Bool.and_self, Bool.true_and] at hq
        have hok := (pl_key hp (by simpa using h4)).2
        cases last with
        | none => simp [keyOk, hok] at hq
        | some p =>
         obtain ⟨q1, q2⟩ := hlo
         rw [q1, q2]
         cases hc : (sLess c.fStr p || decide (c.fStr = p)) with
         | true => rfl
         | false => simp [keyOk, hok, hc] at hq
      simp only [lkc, hp, hk, ht, Bool.not_true, cond_false, cond_true]
  | some q =>
   obtain ⟨key, r⟩ := q
   obtain ⟨h1, h2⟩ := prsK_ok hq
   rw [hq] at hn
   have hkr := keyRound (sh := sh) hA h0 (by rw [hv]; exact h1) hS hb' (by rw [hk]; exact h2) hlo
   have hv1 := drop_app h0 (hv.trans h1)
   obtain ⟨kl, kp⟩ := keyed_left (e := e) key
   obtain ⟨q1, q2⟩ := keyed_last hlo hm h2
   have hbk : lefts (keyed e key :: S) := fun x hx => by
    rcases List.mem_cons.1 hx with rfl | hx
    ·rw [kl]; exact hb' e (by simp)
    ·exact hb x hx
   refine hkr.bad ?_
   cases r with
   | nil => exact Bad.end_ (by omega) hv1
   | cons c xs' =>
    have hlen : xs'.length + 1 ≤ xs.length := by rw [h1]; simp
    have hvl : xs.length ≤ v.length := by rw [← hv, List.length_drop]; omega
    have hvM := hA.hv; have hMM := hA.hM
    have hkk := keyed_key (e := e) (last := last) (k := key) (by rw [hk]; exact h2)
    simp only at hn
    have hSk : (((keyed e key :: S).length : Nat) : Int) ≤ i + (keyC key).length := by simp only [List.length_cons]; omega
    cases hp : pl c with
    | false => exact Bad.pl_ hA (by omega) hv1 hSk hbk hp
    | true =>
     rw [hp] at hn
     simp only [Bool.not_true, cond_false] at hn
     obtain ⟨g1, g2, g3⟩ := drop_get (by omega) hv1
     have hcN := (hA.hc c (List.mem_of_getElem? g1)).2.2
     -- what follows a whole value
     have more : ∀ (s : LkS) (j : Int) (sh' : TValueShape) (zs : List TApiCell), Done (lkB F v) s (keyed e key :: S) j sh' → v.drop j.toNat = zs → zs.length < P → 0 ≤ j → (S.length : Int) + 1 ≤ j → prs P e.fPairs key k zs = none → Bad (lkB F v) s := fun s j sh' zs hd hz hzl hj hSj hnone => by
      cases k with
      | zero =>
       cases P with
       | zero => omega
       | succ P => cases hnone
      | succ k =>
       have := hd.more (by rw [kl]; omega)
       refine this.bad (ih k _ S j sh' key zs hzl (by rw [kp]; exact hnone) rfl (by simp only [kl]; omega) (by omega) ?_ (by simpa using q2) hz hj hSj hb)
       cases key with
       | none => exact q1
       | some p => exact q1
     cases hN : decide (0 < c.fN) with
     | true =>
      rw [hN] at hn
      simp only [cond_true] at hn
      simp only [decide_eq_true_eq] at hN
      by_cases hbig : c.fN ≤ v.length
      ·have hnd := nodeRound (sh := shK key sh) hA (by omega) hv1 hSk hbk (by simpa [keyTop] using hkk) hp (by simpa using hN) hbig
       refine hnd.bad ?_
       cases hks : prs P (decide (c.fKind = 6)) none c.fN.toNat xs' with
       | none =>
        obtain ⟨n', hn'⟩ : ∃ n', c.fN.toNat = n' + 1 := ⟨c.fN.toNat - 1, by omega⟩
        rw [hn'] at hks
        exact ih n' _ _ _ _ none xs' (by omega) hks rfl (by simp only; omega) (by omega) rfl (fun _ => rfl) g2 (by omega) (by simp only [List.length_cons]; omega) hbk
       | some q =>
        obtain ⟨kids, zs⟩ := q
        rw [hks] at hn
        simp only at hn
        have hn2 : prs P e.fPairs key k zs = none := by
         cases hz : prs P e.fPairs key k zs with
         | none => rfl
         | some q => rw [hz] at hn; cases hn
        obtain ⟨a1, a2, a3⟩ := prs_ok _ _ _ _ _ _ _ hks
        have hd := forest_look hA kids ⟨decide (c.fKind = 6), c.fN, decide (c.fKind = 6), [], false⟩ (keyed e key :: S) (i + (keyC key).length + 1) (shc (S.length + 1) (shK key sh) c) none zs (by omega) a2 rfl (by simp only; omega) rfl (fun _ => rfl) (by rw [g2]; exact a1) (by omega) (by simp only [List.length_cons]; omega) hbk
        have hz : v.drop (i + (keyC key).length + 1 + kids.flat.length).toNat = zs := drop_app (by omega) (g2.trans a1)
        have hzl : zs.length ≤ xs'.length := by rw [a1]; simp
        exact more _ _ _ zs hd hz (by omega) (by omega) (by omega) hn2
      ·refine ⟨shc (keyed e key :: S).length (shK key sh) c, .inl (Fin.step ?_)⟩
       rw [round hA (by omega) hv1 hSk hbk]
       have hbig' : decide ((v.length : Int) < c.fN) = true := by simpa using hbig
       simp only [lkc, hp, hkk, hbig', hN, Bool.not_true, cond_false, cond_true, decide_true]
     | false =>
      rw [hN] at hn
      simp only [cond_false] at hn
      have hn2 : prs P e.fPairs key k xs' = none := by
       cases hz : prs P e.fPairs key k xs' with
       | none => rfl
       | some q => rw [hz] at hn; cases hn
      have hd := leafRound (sh := shK key sh) hA (by omega) hv1 hSk hbk (by simpa [keyTop] using hkk) hp hN
      exact more _ _ _ xs' hd g2 (by omega) (by omega) (by omega) hn2
def prs1 (xs : List TApiCell) : Option (Fo × List TApiCell) := prs (xs.length + 1) false none 1 xs
theorem prs_one {P : Nat} {xs ys : List TApiCell} {f : Fo} (h : prs P false none 1 xs = some (f, ys)) : f.one = true := by
 obtain ⟨h1, h2, h3⟩ := prs_ok _ _ _ _ _ _ _ h
 cases f with
 | nil => cases h3
 | cell k c r =>
  cases r with
  | nil =>
   cases k with
   | none => rfl
   | some s => simp [Fo.wf, keyOk] at h2
  | cell _ _ _ => simp [Fo.cnt] at h3
  | node _ _ _ _ => simp [Fo.cnt] at h3
 | node k c kids r =>
  cases r with
  | nil =>
   cases k with
   | none => rfl
   | some s => simp [Fo.wf, keyOk] at h2
  | cell _ _ _ => simp [Fo.cnt] at h3
  | node _ _ _ _ => simp [Fo.cnt] at h3
theorem look_bad0 (hA : LkA F M v) (h : prs1 v = none) : Bad (lkB F v) ([], 0, sh0) := by
 have hlf : lefts [] := fun x hx => by cases hx
 unfold prs1 at h
 rw [prs] at h
 simp only [prsK, cond_false] at h
 cases v with
 | nil => exact Bad.end_ (S := []) (Int.le_refl 0) rfl
 | cons c xs' =>
  have hv1 : (c :: xs').drop (0 : Int).toNat = c :: xs' := rfl
  have hvM := hA.hv; have hMM := hA.hM
  simp only at h
  cases hp : pl c with
  | false => exact Bad.pl_ (S := []) hA (Int.le_refl 0) hv1 (by simp) hlf hp
  | true =>
   rw [hp] at h
   simp only [Bool.not_true, cond_false] at h
   have hcN := (hA.hc c (by simp)).2.2
   cases hN : decide (0 < c.fN) with
   | true =>
    rw [hN] at h
    simp only [cond_true] at h
    simp only [decide_eq_true_eq] at hN
    by_cases hbig : c.fN ≤ (c :: xs').length
    ·have hnd := nodeRound (S := []) (sh := sh0) hA (Int.le_refl 0) hv1 (by simp) hlf rfl hp (by simpa using hN) hbig
     refine hnd.bad ?_
     cases hks : prs (c :: xs').length (decide (c.fKind = 6)) none c.fN.toNat xs' with
     | none =>
      obtain ⟨n', hn'⟩ : ∃ n', c.fN.toNat = n' + 1 := ⟨c.fN.toNat - 1, by omega⟩
      rw [hn'] at hks
      exact forest_bad hA (c :: xs').length n' ⟨decide (c.fKind = 6), c.fN, decide (c.fKind = 6), [], false⟩ [] (0 + 1) _ none xs' (by simp) hks rfl (by simp only; omega) (by omega) rfl (fun _ => rfl) rfl (by omega) (by simp) hlf
     | some q => rw [hks] at h; cases h
    ·refine ⟨shc 0 sh0 c, .inl (Fin.step ?_)⟩
     rw [show lkB F (c :: xs') (([] : List TValueOpen), 0, sh0) = _ from round (S := []) hA (Int.le_refl 0) hv1 (by simp) hlf]
     have hbig' : decide (((c :: xs').length : Int) < c.fN) = true := by simpa using hbig
     simp only [lkc, hp, hbig', hN, Bool.not_true, cond_false, cond_true, decide_true]
   | false => rw [hN] at h; cases h
theorem look_eq (hA : LkA F M v) : (∃ f ys, prs1 v = some (f, ys) ∧ vLook F v = some ((f.flat.length : Int), f.sh 0 sh0, true)) ∨ (prs1 v = none ∧ ∃ sh', vLook F v = some (0, sh', false)) := by
 cases h : prs1 v with
 | some q =>
  obtain ⟨f, ys⟩ := q
  obtain ⟨h1, h2, h3⟩ := prs_ok _ _ _ _ _ _ _ h
  exact .inl ⟨f, ys, rfl, look_val hA (prs_one h) h2 h1⟩
 | none =>
  refine .inr ⟨rfl, ?_⟩
  obtain ⟨o, ho, _⟩ := look_total hA
  obtain ⟨sh', hb | hb⟩ := look_bad0 hA h
  ·have e := hb.eq ho
   subst e
   exact ⟨sh', by unfold vLook; rw [obn_s ho]; rfl⟩
  ·have e := hb.eq ho
   subst e
   exact ⟨sh', by unfold vLook; rw [obn_s ho]; rfl⟩
end
end Go.Proofs.YtkalifgebccpcaaGreatDoor

/-
 Forests: depth, bytes, text; what value.look tells of them. Plain laws.
-/
namespace Go.Proofs.YtkalifgebccpcaaGreatDoor
open Go
set_option linter.unusedVariables false
set_option linter.unusedSimpArgs false
theorem wrap_id {x : Int} (h : -9223372036854775808 ≤ x) (h' : x ≤ 9223372036854775807) : IntKind.wrap .i64 x = x := by
 simp only [IntKind.wrap, IntKind.bits, IntKind.signed]
 simp
 omega
def Fo.dep : Fo → Nat
 | .nil => 0
 | .cell _ _ r => max 1 r.dep
 | .node _ _ kids r => max (kids.dep + 1) r.dep
theorem shK_depth (k : Option Str) (s : TValueShape) : (shK k s).fDepth = s.fDepth ∧ (shK k s).fOutside = s.fOutside ∧ (shK k s).fLong = (s.fLong || (keyC k).any fun c => decide (200 < (c.fStr.length : Int))) := by
 cases k with
 | none => simp [shK, keyC]
 | some x => simp [shK, shk, keyC]
theorem sh_depth : ∀ (f : Fo) (d : Nat) (s : TValueShape), (d : Int) ≤ s.fDepth → (f.sh d s).fDepth = max s.fDepth ((d : Int) + f.dep)
 | .nil, d, s, h => by simp only [Fo.sh, Fo.dep]; omega
 | .cell k c r, d, s, h => by
  have hk := (shK_depth k s).1
  have e : (shc d (shK k s) c).fDepth = max s.fDepth ((d : Int) + 1) := by rw [shc, hk]
  rw [Fo.sh, sh_depth r d _ (by rw [e]; omega), e, Fo.dep]; omega
 | .node k c kids r, d, s, h => by
  have hk := (shK_depth k s).1
  have e : (shc d (shK k s) c).fDepth = max s.fDepth ((d : Int) + 1) := by rw [shc, hk]
  have e2 := sh_depth kids (d + 1) (shc d (shK k s) c) (by rw [e]; omega)
  rw [e] at e2
  rw [Fo.sh, sh_depth r d _ (by rw [e2]; omega), e2, Fo.dep]; omega
def outC (c : TApiCell) : Bool := decide (c.fKind = 3) && !(decide ((-1000000000000) ≤ c.fInt) && decide (c.fInt ≤ 1000000000000))
def longC (c : TApiCell) : Bool := decide (200 < (c.fStr.length : Int))
theorem keyC_out (k : Option Str) : (keyC k).any outC = false := by cases k <;> simp [keyC, outC]
theorem sh_out : ∀ (f : Fo) (d : Nat) (s : TValueShape), (f.sh d s).fOutside = (s.fOutside || f.flat.any outC)
 | .nil, d, s => by simp [Fo.sh, Fo.flat]
 | .cell k c r, d, s => by
  rw [Fo.sh, sh_out r, shc, (shK_depth k s).2.1]
  simp only [Fo.flat, List.any_append, List.any_cons, keyC_out, Bool.false_or, Bool.or_assoc]
  rfl
 | .node k c kids r, d, s => by
  rw [Fo.sh, sh_out r, sh_out kids, shc, (shK_depth k s).2.1]
  simp only [Fo.flat, List.any_append, List.any_cons, keyC_out, Bool.false_or, Bool.or_assoc]
  rfl
theorem sh_long : ∀ (f : Fo) (d : Nat) (s : TValueShape), (f.sh d s).fLong = (s.fLong || f.flat.any longC)
 | .nil, d, s => by simp [Fo.sh, Fo.flat]
 | .cell k c r, d, s => by
  rw [Fo.sh, sh_long r, shc, (shK_depth k s).2.2]
  simp only [Fo.flat, List.any_append, List.any_cons, Bool.or_assoc]
  rfl
 | .node k c kids r, d, s => by
  rw [Fo.sh, sh_long r, sh_long kids, shc, (shK_depth k s).2.2]
  simp only [Fo.flat, List.any_append, List.any_cons, Bool.or_assoc]
  rfl
def lsz (c : TApiCell) : Int :=
 bif decide (c.fKind = 1) then 4 else bif decide (c.fKind = 2) then 5 - c.fInt else bif decide (c.fKind = 3) then ((Lib.itoa c.fInt).length : Int) else
 bif decide (c.fKind = 4) then qlen c.fStr else 2
def kbn : Option Str → Int
 | none => 0
 | some s => qlen s + 1
def Fo.byt : Fo → Int
 | .nil => 0
 | .cell k c r => kbn k + lsz c + r.byt
 | .node k c kids r => kbn k + (c.fN + 1) + kids.byt + r.byt
theorem qlen_pos (s : Str) : 2 ≤ qlen s := by unfold qlen; omega
theorem kbn_pos (k : Option Str) : 0 ≤ kbn k := by
 cases k with
 | none => exact Int.le_refl 0
 | some s => have := qlen_pos s; simp only [kbn]; omega
theorem lsz_pos {c : TApiCell} (hp : pl c = true) : 0 ≤ lsz c := by
 unfold lsz
 cases h1 : decide (c.fKind = 1) with
 | true => simp
 | false =>
  cases h2 : decide (c.fKind = 2) with
  | true =>
   simp [pl, h1, h2] at hp
   simp only [cond_false, cond_true]; omega
  | false =>
   cases h3 : decide (c.fKind = 3) with
   | true => simp
   | false =>
    cases h4 : decide (c.fKind = 4) with
    | true => have := qlen_pos c.fStr; simp only [cond_false, cond_true]; omega
    | false => simp
theorem pl_N {c : TApiCell} (hp : pl c = true) : 0 ≤ c.fN := by
 simp only [pl, ← Bool.decide_or] at hp
 cases h1 : decide (c.fKind = 1) <;> cases h2 : decide (c.fKind = 2) <;> cases h3 : decide (c.fKind = 3) <;> cases h4 : decide (c.fKind = 4) <;> cases h5 : decide (c.fKind = 5) <;> cases h6 : decide (c.fKind = 6) <;> simp [h1, h2, h3, h4, h5, h6] at hp <;> omega
theorem pl_node {c : TApiCell} (hp : pl c = true) (hn : 0 < c.fN) : (c.fKind = 5 ∨ c.fKind = 6) ∧ c.fInt = 0 ∧ c.fStr = [] := by
 cases h1 : decide (c.fKind = 1) <;> cases h2 : decide (c.fKind = 2) <;> cases h3 : decide (c.fKind = 3) <;> cases h4 : decide (c.fKind = 4) <;> cases h5 : decide (c.fKind = 5) <;> cases h6 : decide (c.fKind = 6) <;> simp [pl, h1, h2, h3, h4, h5, h6] at hp <;> (simp only [decide_eq_true_eq, decide_eq_false_iff_not] at *; first | omega | exact ⟨by omega, hp.1, hp.2.1⟩)
theorem szc_leaf {c : TApiCell} (hp : pl c = true) (hn : decide (0 < c.fN) = false) : szc c = lsz c := by
 have hN := pl_N hp
 have h0 : c.fN = 0 := by simp only [decide_eq_false_iff_not] at hn; omega
 unfold szc lsz
 rw [h0]
 cases h1 : decide (c.fKind = 1) with
 | true => rfl
 | false =>
  cases h2 : decide (c.fKind = 2) with
  | true =>
   simp [pl, h1, h2] at hp
   simp only [cond_false, cond_true]
   exact wrap_id (by omega) (by omega)
  | false => rfl
theorem szc_node {c : TApiCell} (hp : pl c = true) (hn : 0 < c.fN) (hm : c.fN ≤ 9223372036854775000) : szc c = c.fN + 1 := by
 obtain ⟨hk, _, _⟩ := pl_node hp hn
 unfold szc
 rw [decide_eq_false (by omega), decide_eq_false (by omega), decide_eq_false (by omega), decide_eq_false (by omega)]
 simp only [cond_false]
 rw [wrap_id (x := c.fN - 1) (by omega) (by omega), wrap_id (by omega) (by omega)]; omega
theorem byt_pos : ∀ {f : Fo} {m : Bool} {l : Option Str}, f.wf m l = true → 0 ≤ f.byt
 | .nil, _, _, _ => Int.le_refl 0
 | .cell k c r, m, l, h => by
  simp only [Fo.wf, Bool.and_eq_true] at h
  have h1 := byt_pos h.2; have h2 := lsz_pos h.1.1.2; have h3 := kbn_pos k
  simp only [Fo.byt]; omega
 | .node k c kids r, m, l, h => by
  simp only [Fo.wf, Bool.and_eq_true, decide_eq_true_eq] at h
  have h1 := byt_pos h.2; have h2 := byt_pos h.1.2; have h3 := kbn_pos k
  simp only [Fo.byt]; omega
theorem shK_bytes (k : Option Str) (s : TValueShape) (h0 : 0 ≤ s.fBytes) (h : s.fBytes + kbn k ≤ 9223372036854775807) : (shK k s).fBytes = s.fBytes + kbn k := by
 cases k with
 | none => simp [shK, kbn]
 | some x =>
  have := qlen_pos x
  simp only [kbn] at h
  simp only [shK, shk, kbn]
  exact wrap_id (by omega) (by omega)
theorem sh_bytes : ∀ (f : Fo) (m : Bool) (l : Option Str) (d : Nat) (s : TValueShape), f.wf m l = true → 0 ≤ s.fBytes → s.fBytes + f.byt ≤ 9223372036854775000 → (f.sh d s).fBytes = s.fBytes + f.byt
 | .nil, _, _, d, s, _, _, _ => by simp [Fo.sh, Fo.byt]
 | .cell k c r, m, l, d, s, hw, h0, h => by
  simp only [Fo.wf, Bool.and_eq_true, Bool.not_eq_true'] at hw
  obtain ⟨⟨⟨w1, w2⟩, w3⟩, w4⟩ := hw
  have h1 := byt_pos w4; have h2 := lsz_pos w2; have h3 := kbn_pos k
  simp only [Fo.byt] at h
  have e1 := shK_bytes k s h0 (by omega)
  have e : (shc d (shK k s) c).fBytes = s.fBytes + kbn k + lsz c := by
   rw [shc, e1, szc_leaf w2 w3]; exact wrap_id (by omega) (by omega)
  rw [Fo.sh, sh_bytes r _ _ d _ w4 (by rw [e]; omega) (by rw [e]; omega), e, Fo.byt]; omega
 | .node k c kids r, m, l, d, s, hw, h0, h => by
  simp only [Fo.wf, Bool.and_eq_true, decide_eq_true_eq] at hw
  obtain ⟨⟨⟨⟨⟨w1, w2⟩, w3⟩, w5⟩, w6⟩, w4⟩ := hw
  have h1 := byt_pos w4; have h2 := byt_pos w6; have h3 := kbn_pos k
  simp only [Fo.byt] at h
  have e1 := shK_bytes k s h0 (by omega)
  have e : (shc d (shK k s) c).fBytes = s.fBytes + kbn k + (c.fN + 1) := by
   rw [shc, e1, szc_node w2 w3 (by omega)]; exact wrap_id (by omega) (by omega)
  have e2 := sh_bytes kids _ _ (d + 1) (shc d (shK k s) c) w6 (by rw [e]; omega) (by rw [e]; omega)
  rw [Fo.sh, sh_bytes r _ _ d _ w4 (by rw [e2, e]; omega) (by rw [e2, e]; omega), e2, e, Fo.byt]; omega
def escS (s : Str) : Str := s.flatMap fun c => bif (decide (c = 34) || decide (c = 92)) then [92, c] else [c]
def quoS (s : Str) : Str := 34 :: (escS s ++ [34])
theorem escS_len : ∀ s : Str, (escS s).length = s.length + s.count 34 + s.count 92
 | [] => rfl
 | c :: s => by
  have ih := escS_len s
  unfold escS at ih ⊢
  rw [List.flatMap_cons, List.length_append, ih]
  by_cases h1 : c = 34
  ·subst h1; simp; omega
  ·by_cases h2 : c = 92
   ·subst h2; simp; omega
   ·simp [h1, h2, List.count_cons]; omega
theorem quoS_len (s : Str) : ((quoS s).length : Int) = qlen s := by
 simp only [quoS, List.length_cons, List.length_append, escS_len, List.length_nil, qlen]; omega
def leafT (c : TApiCell) : Str :=
 bif decide (c.fKind = 1) then [110, 117, 108, 108] else
 bif decide (c.fKind = 2) then (bif decide (c.fInt = 1) then [116, 114, 117, 101] else [102, 97, 108, 115, 101]) else
 bif decide (c.fKind = 3) then Lib.itoa c.fInt else
 bif decide (c.fKind = 4) then quoS c.fStr else
 bif decide (c.fKind = 6) then [123, 125] else [91, 93]
def ktx : Option Str → Str
 | none => []
 | some s => quoS s ++ [58]
def brk (c : TApiCell) (s : Str) : Str := bif decide (c.fKind = 6) then 123 :: (s ++ [125]) else 91 :: (s ++ [93])
def sepT (first : Bool) : Str := bif first then [] else [44]
def Fo.txt : Bool → Fo → Str
 | _, .nil => []
 | b, .cell k c r => sepT b ++ ktx k ++ leafT c ++ r.txt false
 | b, .node k c kids r => sepT b ++ ktx k ++ brk c (kids.txt true) ++ r.txt false
theorem ktx_len (k : Option Str) : ((ktx k).length : Int) = kbn k := by
 cases k with
 | none => rfl
 | some s => simp only [ktx, List.length_append, kbn, List.length_singleton]; have := quoS_len s; omega
theorem leafT_len {c : TApiCell} (hp : pl c = true) : ((leafT c).length : Int) = lsz c := by
  unfold leafT lsz
  cases h1 : decide (c.fKind = 1) with
  | true => rfl
  | false =>
    cases h2 : decide (c.fKind = 2) with
    | true =>
      simp [pl, h1, h2] at hp
      simp only [cond_false, cond_true]
      cases h7 : decide (c.fInt = 1) with
      | true => simp only [decide_eq_true_eq] at h7; simp [h7]
      | false => simp only [decide_eq_false_iff_not] at h7; have : c.fInt = 0 := by omega
                 simp [this]
    | false =>
      cases h3 : decide (c.fKind = 3) with
      | true => rfl
      | false =>
        cases h4 : decide (c.fKind = 4) with
        | true => simpa using quoS_len c.fStr
        | false => cases h6 : decide (c.fKind = 6) <;> rfl
theorem brk_len (c : TApiCell) (s : Str) : (brk c s).length = s.length + 2 := by
 unfold brk
 cases decide (c.fKind = 6) <;> simp
theorem txt_len : ∀ (f : Fo) (m : Bool) (l : Option Str) (b : Bool), f.wf m l = true → ((f.txt b).length : Int) = f.byt + (bif b then ((f.cnt - 1 : Nat) : Int) else (f.cnt : Int))
 | .nil, m, l, b, _ => by cases b <;> rfl
 | .cell k c r, m, l, b, hw => by
  simp only [Fo.wf, Bool.and_eq_true, Bool.not_eq_true'] at hw
  obtain ⟨⟨⟨w1, w2⟩, w3⟩, w4⟩ := hw
  have ih := txt_len r _ _ false w4
  have a := ktx_len k; have d := leafT_len w2
  simp only [cond_false] at ih
  cases b <;> simp only [Fo.txt, Fo.byt, Fo.cnt, sepT, cond_true, cond_false, List.length_append, List.length_nil, List.length_singleton] <;> omega
 | .node k c kids r, m, l, b, hw => by
  simp only [Fo.wf, Bool.and_eq_true, decide_eq_true_eq] at hw
  obtain ⟨⟨⟨⟨⟨w1, w2⟩, w3⟩, w5⟩, w6⟩, w4⟩ := hw
  have ih := txt_len r _ _ false w4
  have ih2 := txt_len kids _ _ true w6
  have a := ktx_len k; have d := brk_len c (kids.txt true)
  simp only [cond_false, cond_true] at ih ih2
  cases b <;> simp only [Fo.txt, Fo.byt, Fo.cnt, sepT, cond_true, cond_false, List.length_append, List.length_nil, List.length_singleton] <;> omega
def Fo.put (k : Option Str) : Fo → Fo → Fo
 | .cell _ c _, r => .cell k c r
 | .node _ c kids _, r => .node k c kids r
 | .nil, _ => .nil
theorem prs_cons (P : Nat) (m : Bool) (last : Option Str) (k : Nat) (xs : List TApiCell) : prs (P + 2) m last (k + 1) xs =
  match prsK m last xs with
  | none => none
  | some (key, ys) => match prs (P + 2) false none 1 ys with
   | none => none
   | some (f, zs) => match prs (P + 1) m key k zs with
    | none => none
    | some (r, us) => some (f.put key r, us) := by
 rw [prs]
 cases hk : prsK m last xs with
 | none => rfl
 | some p =>
  obtain ⟨key, ys⟩ := p
  simp only
  rw [prs]
  simp only [prsK, cond_false]
  cases ys with
  | nil => rfl
  | cons c ys =>
   simp only
   cases hp : pl c with
   | false => rfl
   | true =>
    simp only [Bool.not_true, cond_false]
    cases hn : decide (0 < c.fN) with
    | true =>
     simp only [cond_true]
     cases hq : prs (P + 1) (decide (c.fKind = 6)) none c.fN.toNat ys with
     | none => rfl
     | some q =>
      obtain ⟨kids, zs⟩ := q
      simp only [prs]
      cases hr : prs (P + 1) m key k zs with
      | none => rfl
      | some q => obtain ⟨a, b⟩ := q; rfl
    | false =>
     simp only [cond_false, prs]
     cases hr : prs (P + 1) m key k ys with
     | none => rfl
     | some q => obtain ⟨a, b⟩ := q; rfl
end Go.Proofs.YtkalifgebccpcaaGreatDoor

/-
 The reference reads values as the plain reader does. Plain laws.
-/
namespace Go.Proofs.YtkalifgebccpcaaGreatDoor
open Go
set_option linter.unusedVariables false
set_option linter.unusedSimpArgs false
def prsF (m : Bool) (last : Option Str) (k : Nat) (xs : List TApiCell) : Option (Fo × List TApiCell) := prs (xs.length + 1) m last k xs
theorem prsF_zero (m : Bool) (last : Option Str) (xs : List TApiCell) : prsF m last 0 xs = some (.nil, xs) := rfl
theorem prsF_cons (m : Bool) (last : Option Str) (k : Nat) (xs : List TApiCell) : prsF m last (k + 1) xs =
  match prsK m last xs with
  | none => none
  | some (key, ys) => match prs1 ys with
   | none => none
   | some (f, zs) => match prsF m key k zs with
    | none => none
    | some (r, us) => some (f.put key r, us) := by
 unfold prsF prs1
 rw [prs_fuel (xs.length + 1) (xs.length + 2) m last (k + 1) xs (by omega) (by omega), prs_cons]
 cases hk : prsK m last xs with
 | none => rfl
 | some p =>
  obtain ⟨key, ys⟩ := p
  have h1 := (prsK_ok hk).1
  have hy : ys.length ≤ xs.length := by rw [h1]; simp
  simp only
  rw [prs_fuel (xs.length + 2) (ys.length + 1) false none 1 ys (by omega) (by omega)]
  cases hf : prs (ys.length + 1) false none 1 ys with
  | none => rfl
  | some q =>
   obtain ⟨f, zs⟩ := q
   have h2 := (prs_ok _ _ _ _ _ _ _ hf).1
   have hz : zs.length ≤ ys.length := by rw [h2]; simp
   simp only
   rw [prs_fuel (xs.length + 1) (zs.length + 1) m key k zs (by omega) (by omega)]
   all_goals (cases prs (zs.length + 1) m key k zs <;> rfl)
theorem lop_n {S O : Type} {body : S → Option (Stp S O)} {n : Nat} {s s' : S} {o : O} (h : body s = some (.next s')) (h' : lop body n s' = some o) : lop body (n + 1) s = some o := by rw [lop, h]; exact h'
theorem lop_o {S O : Type} {body : S → Option (Stp S O)} {n : Nat} {s : S} {o : O} (h : body s = some (.out o)) : lop body (n + 1) s = some o := by rw [lop, h]
theorem prs1_nil : prs1 [] = none := rfl
theorem prs1_cons (c : TApiCell) (r : List TApiCell) : prs1 (c :: r) = bif !pl c then none else bif decide (0 < c.fN) then (match prsF (decide (c.fKind = 6)) none c.fN.toNat r with
  | none => none
  | some (kids, zs) => some (.node none c kids .nil, zs)) else some (.cell none c .nil, r) := by
 unfold prs1
 rw [prs]
 simp only [prsK, cond_false]
 cases hp : pl c with
 | false => rfl
 | true =>
  simp only [Bool.not_true, cond_false]
  cases hn : decide (0 < c.fN) with
  | true =>
   simp only [cond_true]
   unfold prsF
   rw [List.length_cons]
   cases hq : prs (r.length + 1) (decide (c.fKind = 6)) none c.fN.toNat r with
   | none => rfl
   | some q => obtain ⟨kids, zs⟩ := q; rfl
  | false => rfl
theorem put_flat {f : Fo} (h : f.one = true) (key : Option Str) (r : Fo) : (f.put key r).flat = keyC key ++ (f.flat ++ r.flat) := by
 cases f with
 | nil => cases h
 | cell k c r' =>
  cases k with
  | some s => cases h
  | none => cases r' with
   | nil => simp [Fo.put, Fo.flat, keyC]
   | cell _ _ _ => cases h
   | node _ _ _ _ => cases h
 | node k c kids r' =>
  cases k with
  | some s => cases h
  | none => cases r' with
   | nil => simp [Fo.put, Fo.flat, keyC]
   | cell _ _ _ => cases h
   | node _ _ _ _ => cases h
theorem one_flat {f : Fo} (h : f.one = true) : 1 ≤ f.flat.length := by
 cases f with
 | nil => cases h
 | cell k c r' => simp [Fo.flat]; omega
 | node k c kids r' => simp [Fo.flat]; omega
theorem prs1_ok {xs ys : List TApiCell} {f : Fo} (h : prs1 xs = some (f, ys)) : xs = f.flat ++ ys ∧ f.wf false none = true ∧ f.one = true :=
 ⟨(prs_ok _ _ _ _ _ _ _ h).1, (prs_ok _ _ _ _ _ _ _ h).2.1, prs_one h⟩
def nxt (v : List TApiCell) (i : Int) : Int := match prs1 (v.drop i.toNat) with
 | none => -1
 | some (f, _) => i + f.flat.length
def nxts (m : Bool) (last : Option Str) (v : List TApiCell) (i : Int) (k : Nat) : Int := match prsF m last k (v.drop i.toNat) with
 | none => -1
 | some (f, _) => i + f.flat.length
theorem nxt_range {v : List TApiCell} {i : Int} (h0 : 0 ≤ i) (h1 : i ≤ v.length) : nxt v i = -1 ∨ (i < nxt v i ∧ nxt v i ≤ v.length) := by
 unfold nxt
 cases h : prs1 (v.drop i.toNat) with
 | none => exact .inl rfl
 | some q =>
  obtain ⟨f, ys⟩ := q
  obtain ⟨h2, _, h3⟩ := prs1_ok h
  have := one_flat h3
  have hl : (v.drop i.toNat).length = f.flat.length + ys.length := by rw [h2]; simp
  rw [List.length_drop] at hl
  right; simp only; omega
structure RfA (F M : Nat) (v : List TApiCell) : Prop where
 hM : M ≤ 1152921504606846976
 hv : v.length ≤ M
 hF : M < F
 hc : ∀ c ∈ v, c.fStr.length ≤ M
theorem rAfter_eq (ok : Bool) {i : Int} (h0 : 0 ≤ i) (h1 : i ≤ 1152921504606846976) : rAfter ok i = some (bif ok then i + 1 else -1) := by
 unfold rAfter
 cases ok
 ·rfl
 ·rw [cnd_tt rfl, chk_i64 (by omega) (by omega)]; rfl
theorem rKey_eq {F : Nat} {c : TApiCell} (hF : c.fStr.length < F) (hs : c.fStr.length ≤ 1152921504606846976) : rKey F c = some (decide (c.fKind = 4) && pl c) := by
 unfold rKey
 rw [rPlain_eq hF (by omega)]
 simp only [Option.isSome_some, ov, Option.getD_some, imp, Bool.or_true, chk, cond_true]
 cases h4 : decide (c.fKind = 4) with
 | false => rfl
 | true =>
  simp only [decide_eq_true_eq] at h4
  simp [pl, h4]
theorem at_drop {v : List TApiCell} {i : Int} {c : TApiCell} {r : List TApiCell} (h0 : 0 ≤ i) (h : v.drop i.toNat = c :: r) : at' v i = c := by
 have := (drop_get h0 h).1
 simp [at', this]
section
variable {M : Nat} {v : List TApiCell}
theorem rElements_lop {F : Nat} (hA : RfA F M v) {g : List TApiCell → Int → Option Int} {n : Int} (hn : n ≤ 9223372036854775807) : ∀ (L : Nat) (i x : Int), 0 ≤ i → i ≤ v.length → 0 ≤ x → x ≤ n → (∀ j, i ≤ j → j ≤ v.length → g v j = some (nxt v j)) → v.length - i.toNat < L →
  ∃ o, lop (fun σ => rElements_b1 v n g σ.1 σ.2) L (i, x) = some o ∧ oute (fun ν => rElements_k1 ν) o = some (nxts false none v i (n - x).toNat)
 | 0, i, x, _, _, _, _, _, h => by omega
 | L + 1, i, x, h0, h1, hx, hxn, hg, hL => by
  cases hxl : decide (x < n) with
  | false =>
   refine ⟨.go i, lop_o (by show rElements_b1 v n g i x = _; unfold rElements_b1; rw [cnd_ff hxl]), ?_⟩
   simp only [decide_eq_false_iff_not] at hxl
   rw [show (n - x).toNat = 0 from by omega]
   simp [oute, rElements_k1, nxts, prsF_zero, Fo.flat]
  | true =>
   have hb : rElements_b1 v n g i x = cnd (decide (nxt v i < 0)) (some (.out (.ret (-1)))) (chk (inK .i64 (x + 1)) <| some (.next (nxt v i, x + 1))) := by unfold rElements_b1; rw [cnd_tt hxl, hg i (Int.le_refl i) h1, obn_s rfl]
   simp only [decide_eq_true_eq] at hxl
   obtain ⟨k, hk⟩ : ∃ k, (n - x).toNat = k + 1 := ⟨(n - x).toNat - 1, by omega⟩
   rw [hk]
   have e : nxts false none v i (k + 1) = bif decide (nxt v i < 0) then -1 else nxts false none v (nxt v i) k := by
    unfold nxts
    rw [prsF_cons]
    simp only [prsK, cond_false]
    cases hp : prs1 (v.drop i.toNat) with
    | none => simp [nxt, hp]
    | some q =>
     obtain ⟨f, ys⟩ := q
     obtain ⟨q1, q2, q3⟩ := prs1_ok hp
     have hi : nxt v i = i + f.flat.length := by simp [nxt, hp]
     have hd : v.drop (nxt v i).toNat = ys := by rw [hi]; exact drop_app h0 q1
     rw [hd, decide_eq_false (by omega)]
     simp only [cond_false]
     cases hr : prsF false none k ys with
     | none => rfl
     | some q =>
      obtain ⟨r, zs⟩ := q
      simp only [put_flat q3, keyC, List.nil_append, List.length_append, hi]; omega
   rw [e]
   rcases nxt_range (v := v) h0 h1 with hneg | ⟨hlt, hle⟩
   ·exact ⟨.ret (-1), lop_o (hb.trans (by rw [hneg, cnd_tt (by decide)])), by rw [hneg]; rfl⟩
   ·have hM := hA.hM; have hvM := hA.hv
    obtain ⟨o, ho1, ho2⟩ := rElements_lop hA hn L (nxt v i) (x + 1) (by omega) hle (by omega) (by omega) (fun j hj => hg j (by omega)) (by omega)
    exact ⟨o, lop_n (hb.trans (by rw [cnd_ff (decide_eq_false (by omega)), chk_i64 (by omega) (by omega)])) ho1, by rw [ho2, show (n - (x + 1)).toNat = k from by omega, decide_eq_false (by omega)]; rfl⟩
theorem rPairs_lop {F : Nat} (hA : RfA F M v) {g : List TApiCell → Int → Option Int} {n : Int} (hn : n ≤ 9223372036854775807) : ∀ (L : Nat) (i x : Int) (last : Str), 0 ≤ i → i ≤ v.length → 0 ≤ x → x ≤ n → (∀ j, i ≤ j → j ≤ v.length → g v j = some (nxt v j)) → v.length - i.toNat < L →
  ∃ o, lop (fun σ => rPairs_b1 F v n g σ.1 σ.2.1 σ.2.2) L (i, last, x) = some o ∧ oute (fun ν => rPairs_k1 ν) o = some (nxts true (bif decide (0 < x) then some last else none) v i (n - x).toNat)
 | 0, i, x, _, _, _, _, _, _, h => by omega
 | L + 1, i, x, last, h0, h1, hx, hxn, hg, hL => by
  have hM := hA.hM; have hvM := hA.hv; have hMF := hA.hF
  cases hxl : decide (x < n) with
  | false =>
   refine ⟨.go i, lop_o (by show rPairs_b1 F v n g i last x = _; unfold rPairs_b1; rw [cnd_ff hxl]), ?_⟩
   simp only [decide_eq_false_iff_not] at hxl
   rw [show (n - x).toNat = 0 from by omega]
   simp [oute, rPairs_k1, nxts, prsF_zero, Fo.flat]
  | true =>
   have hxl' := hxl
   simp only [decide_eq_true_eq] at hxl
   obtain ⟨k, hk⟩ : ∃ k, (n - x).toNat = k + 1 := ⟨(n - x).toNat - 1, by omega⟩
   rw [hk]
   cases hd : v.drop i.toNat with
   | nil =>
    have hl : v.length ≤ i.toNat := by simpa using hd
    refine ⟨.ret (-1), lop_o (by
     show rPairs_b1 F v n g i last x = _
     unfold rPairs_b1
     rw [cnd_tt hxl', chk_t (by simp [imp, show (v.length : Int) ≤ i from by omega]), chk_t (by simp [imp, show (v.length : Int) ≤ i from by omega]), cnd_tt (by simp [show (v.length : Int) ≤ i from by omega])]), ?_⟩
    simp [oute, nxts, hd, prsF_cons, prsK]
   | cons c r =>
    obtain ⟨g1, g2, g3⟩ := drop_get h0 hd
    have hcM := hA.hc c (List.mem_of_getElem? g1)
    have hat := at_drop h0 hd
    have hnl : decide ((v.length : Int) ≤ i) = false := by simp; omega
    have hb : rPairs_b1 F v n g i last x = cnd (!(decide (c.fKind = 4) && pl c) || decide (0 < x) && (sLess c.fStr last || decide (c.fStr = last))) (some (.out (.ret (-1)))) (obn (g v (i + 1)) fun r106 => cnd (decide (r106 < 0)) (some (.out (.ret (-1)))) (chk (inK .i64 (x + 1)) <| some (.next (r106, c.fStr, x + 1)))) := by
     unfold rPairs_b1
     rw [cnd_tt hxl', chk_t (by simp only [imp]; rw [inR' h0 g3]; simp), hat, rKey_eq (by omega) (by omega), chk_t (by simp [imp])]
     simp only [hnl, ov, Option.getD_some, Bool.false_or]
     rw [chk_inR h0 g3, chk_i64 (by omega) (by omega)]
    have hpk : prsK true (bif decide (0 < x) then some last else none) (c :: r) = bif (!(decide (c.fKind = 4) && pl c) || decide (0 < x) && (sLess c.fStr last || decide (c.fStr = last))) then none else some (some c.fStr, r) := by
     simp only [prsK, cond_true]
     cases h4 : decide (c.fKind = 4) with
     | false => simp
     | true =>
      cases hp : pl c with
      | false => simp
      | true =>
       have hok := (pl_key hp (by simpa using h4)).2
       cases h0x : decide (0 < x) with
       | false => simp [keyOk, hok]
       | true => cases hs : (sLess c.fStr last || decide (c.fStr = last)) <;> simp [keyOk, hok, hs]
    cases ht : (!(decide (c.fKind = 4) && pl c) || decide (0 < x) && (sLess c.fStr last || decide (c.fStr = last))) with
    | true =>
     rw [ht] at hpk
     refine ⟨.ret (-1), lop_o (hb.trans (cnd_tt ht)), ?_⟩
     simp only [nxts, hd, prsF_cons, hpk, cond_true]; rfl
    | false =>
     rw [ht] at hpk
     rw [cnd_ff ht, hg (i + 1) (by omega) (by omega), obn_s rfl] at hb
     have e : nxts true (bif decide (0 < x) then some last else none) v i (k + 1) = bif decide (nxt v (i + 1) < 0) then -1 else nxts true (some c.fStr) v (nxt v (i + 1)) k := by
      unfold nxts
      rw [hd, prsF_cons, hpk]
      simp only [cond_false]
      have hx : nxt v (i + 1) = match prs1 r with | none => -1 | some (f, _) => i + 1 + f.flat.length := by unfold nxt; rw [g2]
      cases hp : prs1 r with
      | none => rw [hp] at hx; simp [hx]
      | some q =>
       obtain ⟨f, ys⟩ := q
       obtain ⟨q1, q2, q3⟩ := prs1_ok hp
       rw [hp] at hx
       simp only at hx
       have hd2 : v.drop (nxt v (i + 1)).toNat = ys := by rw [hx]; exact drop_app (by omega) (g2.trans q1)
       rw [hd2, decide_eq_false (by omega)]
       simp only [cond_false]
       cases hr : prsF true (some c.fStr) k ys with
       | none => rfl
       | some q =>
        obtain ⟨r', zs⟩ := q
        simp only [put_flat q3, keyC, List.length_append, List.length_cons, List.length_nil, hx]; omega
     rw [e]
     rcases nxt_range (v := v) (i := i + 1) (by omega) (by omega) with hneg | ⟨hlt, hle⟩
     ·exact ⟨.ret (-1), lop_o (hb.trans (by rw [hneg, cnd_tt (by decide)])), by rw [hneg]; rfl⟩
     ·obtain ⟨o, ho1, ho2⟩ := rPairs_lop hA hn L (nxt v (i + 1)) (x + 1) c.fStr (by omega) hle (by omega) (by omega) (fun j hj => hg j (by omega)) (by omega)
      exact ⟨o, lop_n (hb.trans (by rw [cnd_ff (decide_eq_false (by omega)), chk_i64 (by omega) (by omega)])) ho1, by rw [ho2, show (n - (x + 1)).toNat = k from by omega, decide_eq_true (show (0 : Int) < x + 1 from by omega), decide_eq_false (by omega)]; rfl⟩
theorem nxts_one {i : Int} {c : TApiCell} {r : List TApiCell} (h0 : 0 ≤ i) (hd : v.drop i.toNat = c :: r) (hp : pl c = true) : nxt v i = nxts (decide (c.fKind = 6)) none v (i + 1) c.fN.toNat := by
 have g2 := (drop_get h0 hd).2.1
 have hN := pl_N hp
 unfold nxt nxts
 rw [hd, prs1_cons, g2, hp]
 simp only [Bool.not_true, cond_false]
 cases hn : decide (0 < c.fN) with
 | true =>
  simp only [cond_true]
  cases hq : prsF (decide (c.fKind = 6)) none c.fN.toNat r with
  | none => rfl
  | some q =>
   obtain ⟨kids, zs⟩ := q
   simp only [Fo.flat, keyC, List.nil_append, List.length_cons, List.append_nil]; omega
 | false =>
  simp only [decide_eq_false_iff_not] at hn
  rw [show c.fN.toNat = 0 from by omega, prsF_zero]
  simp [Fo.flat, keyC]
theorem rNext_eq (hA : RfA (M + 1) M v) (hN : ∀ c ∈ v, c.fN ≤ 9223372036854775807) : ∀ (d F : Nat) (i : Int), 0 ≤ i → i ≤ v.length → v.length - i.toNat = d → M + 2 * d + 3 < F → rNext F v i = some (nxt v i) := by
 have hM := hA.hM; have hvM := hA.hv
 intro d
 induction d using Nat.strongRecOn with
 | ind d ih =>
  intro F i h0 h1 hd hF
  obtain ⟨F, rfl⟩ : ∃ G, F = G + 1 := ⟨F - 1, by omega⟩
  obtain ⟨F, rfl⟩ : ∃ G, F = G + 1 := ⟨F - 1, by omega⟩
  rw [rNext]
  unfold rNextm
  cases hdr : v.drop i.toNat with
  | nil =>
   have hl : v.length ≤ i.toNat := by simpa using hdr
   rw [cnd_tt (by simp; omega)]
   simp [nxt, hdr, prs1_nil]
  | cons c r =>
   obtain ⟨g1, g2, g3⟩ := drop_get h0 hdr
   have hcM := hA.hc c (List.mem_of_getElem? g1)
   have hcN := hN c (List.mem_of_getElem? g1)
   rw [cnd_ff (by simp; omega), chk_inR h0 g3, at_drop h0 hdr]
   simp only [rAfter_eq _ h0 (show i ≤ 1152921504606846976 by omega), Option.isSome_some, ov, Option.getD_some, imp, Bool.or_true, chk_t (x := _) (rfl : true = true)]
   have hg : ∀ j, i + 1 ≤ j → j ≤ v.length → rNext F v j = some (nxt v j) := fun j hj hj2 => ih (v.length - j.toNat) (by omega) F j (by omega) hj2 rfl (by omega)
   have hpl0 : pl c = false → nxt v i = -1 := fun hp => by simp [nxt, hdr, prs1_cons, hp]
   have hleaf : pl c = true → c.fN = 0 → nxt v i = i + 1 := fun hp h0' => by simp [nxt, hdr, prs1_cons, hp, h0', Fo.flat, keyC]
   have hscal : ∀ b : Bool, pl c = b → (b = true → c.fN = 0) → nxt v i = bif b then i + 1 else -1 := fun b hb hz => by
    cases b
    ·exact hpl0 hb
    ·exact hleaf hb (hz rfl)
   by_cases k1 : c.fKind = 1
   ·rw [cnd_tt (by simp [k1])]
    have hp : pl c = (decide (c.fInt = 0) && (decide (c.fStr = []) && decide (c.fN = 0))) := by simp [pl, k1]
    rw [hscal _ hp (fun h => by simp at h; exact h.2.2)]
    cases decide (c.fInt = 0) <;> cases decide (c.fStr = []) <;> cases decide (c.fN = 0) <;> rfl
   rw [cnd_ff (by simp [k1])]
   by_cases k2 : c.fKind = 2
   ·rw [cnd_tt (by simp [k2])]
    have hp : pl c = ((decide (c.fInt = 0) || decide (c.fInt = 1)) && (decide (c.fStr = []) && decide (c.fN = 0))) := by simp [pl, k2]
    rw [hscal _ hp (fun h => by simp at h; exact h.2.2)]
    cases decide (c.fInt = 0) <;> cases decide (c.fInt = 1) <;> cases decide (c.fStr = []) <;> cases decide (c.fN = 0) <;> rfl
   rw [cnd_ff (by simp [k2])]
   by_cases k3 : c.fKind = 3
   ·rw [cnd_tt (by simp [k3])]
    have hp : pl c = (decide (c.fStr = []) && decide (c.fN = 0)) := by simp [pl, k3]
    rw [hscal _ hp (fun h => by simp at h; exact h.2)]
    cases decide (c.fStr = []) <;> cases decide (c.fN = 0) <;> rfl
   rw [cnd_ff (by simp [k3])]
   by_cases k4 : c.fKind = 4
   ·rw [cnd_tt (by simp [k4]), rKey_eq (by omega) (by omega), obn_s rfl, obn_s rfl]
    rw [decide_eq_true k4, Bool.true_and, hscal (pl c) rfl (fun hp => by have := (pl_key hp k4).1; rw [this])]
   rw [cnd_ff (by simp [k4])]
   by_cases k5 : c.fKind = 5
   ·have hp : pl c = (decide (c.fInt = 0) && (decide (c.fStr = []) && decide (0 ≤ c.fN))) := by simp [pl, k5]
    rw [show (decide (c.fKind = 5) && (decide (c.fInt = 0) && (decide (c.fStr = []) && decide (0 ≤ c.fN)))) = pl c from by rw [hp, decide_eq_true k5, Bool.true_and]]
    have k5' : ¬ c.fKind = 6 := by omega
    cases hb : pl c with
    | false => rw [cnd_ff rfl, cnd_ff (by simp [k5]), hpl0 hb]
    | true =>
     have hn0 := pl_N hb
     rw [cnd_tt rfl, chk_i64 (by omega) (by omega), rElements]
     unfold rElementsm
     obtain ⟨o, ho1, ho2⟩ := rElements_lop (F := F) ⟨hM, hvM, by omega, hA.hc⟩ hcN F (i + 1) 0 (by omega) (by omega) (Int.le_refl 0) hn0 hg (by omega)
     rw [obn_s ho1, ho2, obn_s rfl, nxts_one h0 hdr hb, decide_eq_false k5', Int.sub_zero]
   rw [cnd_ff (by simp [k5])]
   by_cases k6 : c.fKind = 6
   ·have hp : pl c = (decide (c.fInt = 0) && (decide (c.fStr = []) && decide (0 ≤ c.fN))) := by simp [pl, k6]
    rw [show (decide (c.fKind = 6) && (decide (c.fInt = 0) && (decide (c.fStr = []) && decide (0 ≤ c.fN)))) = pl c from by rw [hp, decide_eq_true k6, Bool.true_and]]
    cases hb : pl c with
    | false => rw [cnd_ff rfl, hpl0 hb]
    | true =>
     have hn0 := pl_N hb
     rw [cnd_tt rfl, chk_i64 (by omega) (by omega), rPairs]
     unfold rPairsm
     obtain ⟨o, ho1, ho2⟩ := rPairs_lop (F := F) ⟨hM, hvM, by omega, hA.hc⟩ hcN F (i + 1) 0 [] (by omega) (by omega) (Int.le_refl 0) hn0 hg (by omega)
     rw [obn_s ho1, ho2, obn_s rfl, nxts_one h0 hdr hb, decide_eq_true k6, Int.sub_zero]
     rfl
   ·rw [cnd_ff (by simp [k6]), hpl0 (by simp [pl, k1, k2, k3, k4, k5, k6])]
theorem rFormed_eq (hA : RfA (M + 1) M v) (hN : ∀ c ∈ v, c.fN ≤ 9223372036854775807) {F : Nat} (hF : 3 * M + 3 < F) : rFormed F v = some (decide (nxt v 0 = v.length)) := by
 have hvM := hA.hv
 unfold rFormed
 rw [rNext_eq hA hN v.length F 0 (Int.le_refl 0) (by omega) (by simp) (by omega)]
 simp only [imp, Option.isSome_some, Bool.or_true, chk_t, ov, Option.getD_some]
 cases v with
 | nil => simp [nxt, prs1_nil]
 | cons c r =>
  rw [show decide (0 < ((c :: r).length : Int)) = true from by simp, Bool.true_and]
  rfl
end
end Go.Proofs.YtkalifgebccpcaaGreatDoor

/-
 The plain reader reads each forest's cells; value.Check, and the reference's levels. Plain laws.
-/
namespace Go.Proofs.YtkalifgebccpcaaGreatDoor
open Go
set_option linter.unusedVariables false
set_option linter.unusedSimpArgs false
theorem prsK_of {m : Bool} {last key : Option Str} {r : List TApiCell} (h : keyOk m last key = true) : prsK m last (keyC key ++ r) = some (key, r) := by
 cases key with
 | none =>
  have : m = false := by simpa [keyOk] using h
  subst this; rfl
 | some s =>
  have h' := h
  simp only [keyOk, Bool.and_eq_true] at h
  obtain ⟨⟨h1, h2⟩, h3⟩ := h
  subst h1
  have hp : pl ⟨4, 0, s, 0⟩ = true := by simp [pl, h2]
  show (bif pl ⟨4, 0, s, 0⟩ && decide ((4 : Int) = 4) && keyOk true last (some s) then _ else _) = _
  rw [hp, h']; rfl
theorem prsF_of : ∀ (f : Fo) (m : Bool) (last : Option Str) (ys : List TApiCell), f.wf m last = true → prsF m last f.cnt (f.flat ++ ys) = some (f, ys)
 | .nil, _, _, _, _ => rfl
 | .cell k c r, m, last, ys, hw => by
  simp only [Fo.wf, Bool.and_eq_true, Bool.not_eq_true'] at hw
  obtain ⟨⟨⟨w1, w2⟩, w3⟩, w4⟩ := hw
  simp only [Fo.cnt, Fo.flat, List.append_assoc, List.cons_append]
  rw [prsF_cons, prsK_of w1]
  simp only [prs1_cons, w2, w3, Bool.not_true, cond_false, prsF_of r m k ys w4, Fo.put]
 | .node k c kids r, m, last, ys, hw => by
  simp only [Fo.wf, Bool.and_eq_true, decide_eq_true_eq] at hw
  obtain ⟨⟨⟨⟨⟨w1, w2⟩, w3⟩, w5⟩, w6⟩, w4⟩ := hw
  simp only [Fo.cnt, Fo.flat, List.append_assoc, List.cons_append]
  rw [prsF_cons, prsK_of w1]
  have e : c.fN.toNat = kids.cnt := by omega
  simp only [prs1_cons, w2, decide_eq_true w3, Bool.not_true, cond_false, cond_true, e, prsF_of kids _ none (r.flat ++ ys) w6, prsF_of r m k ys w4, Fo.put]
theorem prs1_of {f : Fo} {ys : List TApiCell} (h1 : f.one = true) (hw : f.wf false none = true) : prs1 (f.flat ++ ys) = some (f, ys) := by
 have := prsF_of f false none ys hw
 have hc : f.cnt = 1 := by
  cases f with
  | nil => cases h1
  | cell k c r => cases k with
   | some _ => cases h1
   | none => cases r with
    | nil => rfl
    | _ => cases h1
  | node k c kids r => cases k with
   | some _ => cases h1
   | none => cases r with
    | nil => rfl
    | _ => cases h1
 rw [hc] at this
 exact this
structure CkA (M : Nat) (v : List TApiCell) : Prop where
 hM : M ≤ 1000000000
 hv : v.length ≤ M
 hc : ∀ c ∈ v, c.fStr.length ≤ M ∧ inK .i64 c.fInt = true ∧ c.fN ≤ 9223372036854775807
theorem CkA.lk {M F : Nat} {v : List TApiCell} (h : CkA M v) (hF : M < F) : LkA F M v := ⟨by have := h.hM; omega, by have := h.hM; omega, h.hv, hF, h.hc⟩
theorem CkA.rf {M F : Nat} {v : List TApiCell} (h : CkA M v) (hF : M < F) : RfA F M v := ⟨by have := h.hM; omega, h.hv, hF, fun c hc => (h.hc c hc).1⟩
theorem CkA.drop {M : Nat} {v : List TApiCell} (h : CkA M v) (k : Nat) : CkA M (v.drop k) := ⟨h.hM, by have := h.hv; rw [List.length_drop]; omega, fun c hc => h.hc c (List.mem_of_mem_drop hc)⟩
theorem CkA.take {M : Nat} {v : List TApiCell} (h : CkA M v) (k : Nat) : CkA M (v.take k) := ⟨h.hM, by have := h.hv; rw [List.length_take]; omega, fun c hc => h.hc c (List.mem_of_mem_take hc)⟩
def whole (v : List TApiCell) : Option Fo := match prs1 v with
 | some (f, []) => some f
 | _ => none
theorem whole_some {v : List TApiCell} {f : Fo} (h : whole v = some f) : v = f.flat ∧ f.wf false none = true ∧ f.one = true := by
 unfold whole at h
 cases hp : prs1 v with
 | none => rw [hp] at h; cases h
 | some q =>
  obtain ⟨g, ys⟩ := q
  rw [hp] at h
  cases ys with
  | cons _ _ => cases h
  | nil =>
   cases h
   obtain ⟨h1, h2, h3⟩ := prs1_ok hp
   exact ⟨by simpa using h1, h2, h3⟩
def errF (f : Fo) : Int :=
 bif f.flat.any outC then 2 else bif f.flat.any longC || (decide (200 < f.flat.length) || (decide (8 < f.dep) || decide (4000 < (f.txt true).length))) then 3 else 0
def errV (v : List TApiCell) : Int := match whole v with
 | none => 1
 | some f => errF f
theorem one_cnt {f : Fo} (h1 : f.one = true) : f.cnt = 1 := by
 cases f with
 | nil => cases h1
 | cell k c r => cases k with
  | some _ => cases h1
  | none => cases r with
   | nil => rfl
   | _ => cases h1
 | node k c kids r => cases k with
  | some _ => cases h1
  | none => cases r with
   | nil => rfl
   | _ => cases h1
theorem qlen_le (s : Str) : qlen s ≤ 2 * s.length + 2 + s.length := by
 have h1 : s.count 34 ≤ s.length := List.count_le_length
 have h2 : s.count 92 ≤ s.length := List.count_le_length
 unfold qlen; omega
theorem lsz_le {c : TApiCell} {M : Nat} (hp : pl c = true) (hs : c.fStr.length ≤ M) (hi : (Lib.itoa c.fInt).length ≤ 21) : lsz c ≤ 3 * M + 21 := by
 have := qlen_le c.fStr
 unfold lsz
 cases h1 : decide (c.fKind = 1) with
 | true => simp only [cond_true]; omega
 | false =>
  cases h2 : decide (c.fKind = 2) with
  | true =>
   simp [pl, h1, h2] at hp
   simp only [cond_false, cond_true]; omega
  | false =>
   cases h3 : decide (c.fKind = 3) with
   | true => simp only [cond_false, cond_true]; omega
   | false => cases h4 : decide (c.fKind = 4) <;> simp only [cond_false, cond_true] <;> omega
theorem byt_le {M : Nat} : ∀ {f : Fo} {m : Bool} {l : Option Str}, f.wf m l = true → (∀ c ∈ f.flat, c.fStr.length ≤ M ∧ inK .i64 c.fInt = true ∧ c.fN ≤ 9223372036854775807) → f.byt + f.cnt ≤ (3 * M + 24) * f.flat.length
 | .nil, _, _, _, _ => by simp [Fo.byt, Fo.flat, Fo.cnt]
 | .cell k c r, m, l, hw, hc => by
  simp only [Fo.wf, Bool.and_eq_true, Bool.not_eq_true'] at hw
  obtain ⟨⟨⟨w1, w2⟩, w3⟩, w4⟩ := hw
  simp only [Fo.flat] at hc
  have ih := byt_le w4 (fun x hx => hc x (by simp [hx]))
  obtain ⟨c1, c2, c3⟩ := hc c (by simp)
  have i64 := inK_i64 c2
  have hl := lsz_le w2 c1 (Lib.itoa_length_le c.fInt i64.1 i64.2)
  have hk : kbn k ≤ (3 * M + 24) * (keyC k).length := by
   cases k with
   | none => simp [kbn, keyC]
   | some s =>
    have := (hc ⟨4, 0, s, 0⟩ (by simp [keyC])).1
    have h2 := qlen_le s
    simp only at this
    simp only [kbn, keyC, List.length_singleton]; omega
  simp only [Fo.byt, Fo.flat, Fo.cnt, List.length_append, List.length_cons]
  have e : ((3 * (M : Int) + 24) * (((keyC k).length + (r.flat.length + 1) : Nat) : Int)) = (3 * (M : Int) + 24) * (keyC k).length + ((3 * (M : Int) + 24) * r.flat.length + (3 * (M : Int) + 24)) := by
   push_cast; rw [Int.mul_add, Int.mul_add, Int.mul_one]
  rw [e]
  push_cast at *
  omega
 | .node k c kids r, m, l, hw, hc => by
  simp only [Fo.wf, Bool.and_eq_true, decide_eq_true_eq] at hw
  obtain ⟨⟨⟨⟨⟨w1, w2⟩, w3⟩, w5⟩, w6⟩, w4⟩ := hw
  simp only [Fo.flat] at hc
  have ih := byt_le w4 (fun x hx => hc x (by simp [hx]))
  have ih2 := byt_le w6 (fun x hx => hc x (by simp [hx]))
  have hcf := cnt_le_flat kids
  have hk : kbn k ≤ (3 * M + 24) * (keyC k).length := by
   cases k with
   | none => simp [kbn, keyC]
   | some s =>
    have := (hc ⟨4, 0, s, 0⟩ (by simp [keyC])).1
    have h2 := qlen_le s
    simp only at this
    simp only [kbn, keyC, List.length_singleton]; omega
  simp only [Fo.byt, Fo.flat, Fo.cnt, List.length_append, List.length_cons]
  have e : ((3 * (M : Int) + 24) * (((keyC k).length + (kids.flat.length + r.flat.length + 1) : Nat) : Int)) = (3 * (M : Int) + 24) * (keyC k).length + ((3 * (M : Int) + 24) * kids.flat.length + (3 * (M : Int) + 24) * r.flat.length + (3 * (M : Int) + 24)) := by
   push_cast; rw [Int.mul_add, Int.mul_add, Int.mul_add, Int.mul_one]
  rw [e]
  push_cast at *
  omega
theorem byt_bound {M : Nat} (hM : M ≤ 1000000) {f : Fo} {m : Bool} {l : Option Str} (hw : f.wf m l = true) (hl : f.flat.length ≤ M) (hc : ∀ c ∈ f.flat, c.fStr.length ≤ M ∧ inK .i64 c.fInt = true ∧ c.fN ≤ 9223372036854775807) : f.byt ≤ 4000000000000 := by
 have := byt_le (M := M) hw hc
 have h2 : (3 * M + 24) * f.flat.length ≤ (3 * 1000000 + 24) * 1000000 := Nat.mul_le_mul (by omega) (by omega)
 have h3 : (((3 * M + 24) * f.flat.length : Nat) : Int) = (3 * (M : Int) + 24) * f.flat.length := by push_cast; rfl
 omega
theorem vCheck_eq {M F : Nat} {v : List TApiCell} (hA : CkA M v) (hM : M ≤ 1000000) (hF : M < F) : vCheck F v = some (errV v) := by
 unfold vCheck errV whole
 have hvM := hA.hv
 rcases look_eq (hA.lk hF) with ⟨f, ys, hp, hl⟩ | ⟨hp, sh', hl⟩
 ·rw [hl, obn_s rfl, hp]
  obtain ⟨h1, h2, h3⟩ := prs1_ok hp
  have hlen : v.length = f.flat.length + ys.length := by rw [h1]; simp
  cases ys with
  | cons c r =>
   rw [cnd_tt]
   simp only [List.length_cons] at hlen
   simp; omega
  | nil =>
   simp only [List.length_nil, Nat.add_zero] at hlen
   rw [cnd_ff (by simp [hlen])]
   have hc : ∀ c ∈ f.flat, c.fStr.length ≤ M ∧ inK .i64 c.fInt = true ∧ c.fN ≤ 9223372036854775807 := fun c hc => hA.hc c (by rw [h1]; simp [hc])
   have hb := byt_bound hM h2 (by omega) hc
   have hb0 := byt_pos h2
   have e1 : (f.sh 0 sh0).fOutside = f.flat.any outC := by rw [sh_out]; rfl
   have e2 : (f.sh 0 sh0).fLong = f.flat.any longC := by rw [sh_long]; rfl
   have e3 : (f.sh 0 sh0).fDepth = f.dep := by rw [sh_depth f 0 sh0 (by simp [sh0])]; simp [sh0]
   have e4 : (f.sh 0 sh0).fBytes = (f.txt true).length := by
    rw [sh_bytes f false none 0 sh0 h2 (by simp [sh0]) (by simp [sh0]; omega), txt_len f false none true h2, one_cnt h3]; simp [sh0]
   simp only
   rw [e1, e2, e3, e4, hlen]
   unfold errF
   cases f.flat.any outC with
   | true => rw [cnd_tt rfl]; rfl
   | false =>
    rw [cnd_ff rfl]
    have a1 : decide ((200 : Int) < (f.flat.length : Int)) = decide (200 < f.flat.length) := by rw [Bool.eq_iff_iff]; simp; omega
    have a2 : decide ((8 : Int) < (f.dep : Int)) = decide (8 < f.dep) := by rw [Bool.eq_iff_iff]; simp; omega
    have a3 : decide ((4000 : Int) < ((f.txt true).length : Int)) = decide (4000 < (f.txt true).length) := by rw [Bool.eq_iff_iff]; simp; omega
    rw [a1, a2, a3]
    cases (f.flat.any longC || (decide (200 < f.flat.length) || (decide (8 < f.dep) || decide (4000 < (f.txt true).length)))) <;> rfl
 ·rw [hl, obn_s rfl, hp]; rfl
end Go.Proofs.YtkalifgebccpcaaGreatDoor

/-
 The reference's levels and texts of a forest. Plain laws.
-/
namespace Go.Proofs.YtkalifgebccpcaaGreatDoor
open Go
set_option linter.unusedVariables false
set_option linter.unusedSimpArgs false
theorem nxt_of {v : List TApiCell} {p : Int} {f : Fo} {ys : List TApiCell} (h1 : f.one = true) (hw : f.wf false none = true) (hd : v.drop p.toNat = f.flat ++ ys) : nxt v p = p + f.flat.length := by
 unfold nxt
 rw [hd, prs1_of h1 hw]
theorem wf_leaf {c : TApiCell} (hp : pl c = true) (hn : decide (0 < c.fN) = false) : (Fo.cell none c .nil).wf false none = true := by simp [Fo.wf, keyOk, hp, hn]
theorem wf_node {c : TApiCell} {kids : Fo} (hp : pl c = true) (hn : 0 < c.fN) (hk : c.fN = kids.cnt) (hw : kids.wf (decide (c.fKind = 6)) none = true) : (Fo.node none c kids .nil).wf false none = true := by simp [Fo.wf, keyOk, hp, hn, hk, hw]; omega
section
variable {M : Nat} {v : List TApiCell}
theorem CkA.next (hA : CkA M v) {F : Nat} (hF : 3 * M + 3 < F) {p : Int} (h0 : 0 ≤ p) (h1 : p ≤ v.length) : rNext F v p = some (nxt v p) := by
 have hM := hA.hM; have hvM := hA.hv
 exact rNext_eq (hA.rf (Nat.lt_succ_self M)) (fun c hc => (hA.hc c hc).2.2) (v.length - p.toNat) F p h0 h1 rfl (by omega)
theorem rLevels_leaf {F : Nat} {p : Int} {c : TApiCell} {r : List TApiCell} (h0 : 0 ≤ p) (hpM : p ≤ 1152921504606846976) (hd : v.drop p.toNat = c :: r) (hp : pl c = true) (hn : decide (0 < c.fN) = false) : rLevels (F + 2) v p = some 1 := by
 obtain ⟨g1, g2, g3⟩ := drop_get h0 hd
 rw [rLevels]
 unfold rLevelsm
 rw [chk_inR h0 g3, at_drop h0 hd]
 cases hk : (!decide (c.fKind = 5) && !decide (c.fKind = 6)) with
 | true => rw [cnd_tt rfl]
 | false =>
  rw [cnd_ff rfl, chk_i64 (by omega) (by omega), obn_s (lop_o (o := .go 0) (by
   show rLevels_b1 (F + 1) v p _ 0 (p + 1) 0 = _
   unfold rLevels_b1
   rw [at_drop h0 hd, cnd_ff hn]))]
  simp only [oute, rLevels_k1]
  rw [chk_i64 (by omega) (by omega)]; rfl
theorem rLev_body {F : Nat} {i : Int} {rec : List TApiCell → Int → Option Int} {most at_ x L : Int} {m : Bool} {p q : Int} {pc : TApiCell} (hpc : at' v i = pc) (hm : decide (pc.fKind = 6) = m) (hx : x < pc.fN) (hx0 : 0 ≤ x) (hpcN : pc.fN ≤ 9223372036854775807)
  (ha0 : 0 ≤ at_) (haM : at_ ≤ 1152921504606846976) (hp : p = bif m then at_ + 1 else at_) (hr : rec v p = some L) (hq : rNext F v p = some q) : rLevels_b1 F v i rec most at_ x = some (.next (max most L, q, x + 1)) := by
 unfold rLevels_b1
 rw [hpc, cnd_tt (by simpa using hx), hm]
 cases m with
 | true =>
  simp only [cond_true] at hp
  rw [cnd_tt rfl, chk_i64 (by omega) (by omega), ← hp, hr, obn_s rfl]
  cases hl : decide (most < L) with
  | true => rw [cnd_tt rfl, hq, obn_s rfl, chk_i64 (by omega) (by omega), Int.max_eq_right (by simp at hl; omega)]
  | false => rw [cnd_ff rfl, hq, obn_s rfl, chk_i64 (by omega) (by omega), Int.max_eq_left (by simp at hl; omega)]
 | false =>
  simp only [cond_false] at hp
  rw [cnd_ff rfl, ← hp, hr, obn_s rfl]
  cases hl : decide (most < L) with
  | true => rw [cnd_tt rfl, hq, obn_s rfl, chk_i64 (by omega) (by omega), Int.max_eq_right (by simp at hl; omega)]
  | false => rw [cnd_ff rfl, hq, obn_s rfl, chk_i64 (by omega) (by omega), Int.max_eq_left (by simp at hl; omega)]
theorem key_len {m : Bool} {last key : Option Str} (h : keyOk m last key = true) : ((keyC key).length : Int) = bif m then 1 else 0 := by
  cases key with
  | none => have : m = false := by simpa [keyOk] using h
            subst this; rfl
  | some s => simp only [keyOk, Bool.and_eq_true] at h; rw [h.1.1]; rfl
theorem rLev_forest (hA : CkA M v) : ∀ (g : Fo) (F L : Nat) (i at_ x most : Int) (m : Bool) (last : Option Str) (ys : List TApiCell) (pc : TApiCell), at' v i = pc → decide (pc.fKind = 6) = m → pc.fN ≤ 9223372036854775807 → g.wf m last = true → v.drop at_.toNat = g.flat ++ ys → 0 ≤ at_ → at_ ≤ v.length → pc.fN = x + g.cnt → 0 ≤ x → 0 ≤ most → most ≤ 1152921504606846976 → g.cnt < L → 3 * M + 5 + g.flat.length < F →
  ∃ o, lop (fun σ => rLevels_b1 F v i (rLevels F) σ.1 σ.2.1 σ.2.2) L (most, at_, x) = some o ∧ oute (fun ν => rLevels_k1 ν) o = some (max most (g.dep : Int) + 1) := by
 have hM := hA.hM; have hvM := hA.hv
 have fin : ∀ (F L : Nat) (i at_ x most : Int) (pc : TApiCell), at' v i = pc → pc.fN ≤ x → 0 ≤ most → most ≤ 1152921504606846976 → 0 < L → ∃ o, lop (fun σ => rLevels_b1 F v i (rLevels F) σ.1 σ.2.1 σ.2.2) L (most, at_, x) = some o ∧ oute (fun ν => rLevels_k1 ν) o = some (most + 1) := fun F L i at_ x most pc hpc hx h0 hb hL => by
  obtain ⟨L, rfl⟩ : ∃ K, L = K + 1 := ⟨L - 1, by omega⟩
  refine ⟨.go most, lop_o (by show rLevels_b1 F v i _ most at_ x = _; unfold rLevels_b1; rw [hpc, cnd_ff (by simp; omega)]), ?_⟩
  simp only [oute, rLevels_k1]
  rw [chk_i64 (by omega) (by omega)]
 have depM : ∀ g : Fo, g.dep ≤ g.flat.length := by
  intro g
  induction g with
  | nil => simp [Fo.dep]
  | cell k c r ih => simp [Fo.dep, Fo.flat]; omega
  | node k c kids r ih1 ih2 => simp [Fo.dep, Fo.flat]; omega
 intro g
 induction g with
 | nil =>
  intro F L i at_ x most m last ys pc hpc hm hpN hw hd h0 h1 hN hx hmo hmM hL hF
  obtain ⟨o, h1, h2⟩ := fin F L i at_ x most pc hpc (by simp [Fo.cnt] at hN; omega) hmo hmM (by omega)
  exact ⟨o, h1, by rw [h2]; simp only [Fo.dep]; congr 2 <;> omega⟩
 | cell k c r ih =>
  intro F L i at_ x most m last ys pc hpc hm hpN hw hd h0 h1 hN hx hmo hmM hL hF
  simp only [Fo.wf, Bool.and_eq_true, Bool.not_eq_true'] at hw
  obtain ⟨⟨⟨w1, w2⟩, w3⟩, w4⟩ := hw
  simp only [Fo.flat, List.append_assoc, List.cons_append] at hd
  simp only [Fo.cnt] at hN hL
  simp only [Fo.flat, List.length_append, List.length_cons] at hF
  obtain ⟨L, rfl⟩ : ∃ K, L = K + 1 := ⟨L - 1, by omega⟩
  obtain ⟨F, rfl⟩ : ∃ K, F = K + 2 := ⟨F - 2, by omega⟩
  have hd1 := drop_app h0 hd
  have hkl := key_len w1
  obtain ⟨g1, g2, g3⟩ := drop_get (by omega) hd1
  have hlen : at_ + (keyC k).length = bif m then at_ + 1 else at_ := by rw [hkl]; cases m <;> simp
  have hq := hA.next (F := F + 2) (by omega) (p := at_ + (keyC k).length) (by omega) (by omega)
  rw [nxt_of (f := .cell none c .nil) (ys := r.flat ++ ys) rfl (wf_leaf w2 w3) hd1] at hq
  have hb := rLev_body (most := most) (x := x) hpc hm (by omega) hx hpN h0 (by omega) hlen (rLevels_leaf (F := F) (by omega) (by omega) hd1 w2 w3) hq
  have hdd := depM r
  obtain ⟨o, ho1, ho2⟩ := ih (F + 2) L i (at_ + (keyC k).length + ((Fo.cell none c .nil).flat.length : Int)) (x + 1) (max most 1) m k ys pc hpc hm hpN w4 (by rw [show (Fo.cell none c .nil).flat.length = 1 from rfl]; exact g2) (by omega) (by rw [show (Fo.cell none c .nil).flat.length = 1 from rfl]; omega) (by omega) (by omega) (by omega) (by omega) (by omega) (by omega)
  refine ⟨o, lop_n hb ho1, ?_⟩
  rw [ho2, Fo.dep]; congr 2 <;> omega
 | node k c kids r ihk ih =>
  intro F L i at_ x most m last ys pc hpc hm hpN hw hd h0 h1 hN hx hmo hmM hL hF
  simp only [Fo.wf, Bool.and_eq_true, decide_eq_true_eq] at hw
  obtain ⟨⟨⟨⟨⟨w1, w2⟩, w3⟩, w5⟩, w6⟩, w4⟩ := hw
  simp only [Fo.flat, List.append_assoc, List.cons_append] at hd
  simp only [Fo.cnt] at hN hL
  simp only [Fo.flat, List.length_append, List.length_cons] at hF
  obtain ⟨L, rfl⟩ : ∃ K, L = K + 1 := ⟨L - 1, by omega⟩
  obtain ⟨F, rfl⟩ : ∃ K, F = K + 1 := ⟨F - 1, by omega⟩
  have hd1 := drop_app h0 hd
  have hkl := key_len w1
  obtain ⟨g1, g2, g3⟩ := drop_get (by omega) hd1
  have hcN := (hA.hc c (List.mem_of_getElem? g1)).2.2
  have hlen : at_ + (keyC k).length = bif m then at_ + 1 else at_ := by rw [hkl]; cases m <;> simp
  have hq := hA.next (F := F + 1) (by omega) (p := at_ + (keyC k).length) (by omega) (by omega)
  have hfl : (Fo.node none c kids .nil).flat = c :: kids.flat := by simp [Fo.flat, keyC]
  rw [nxt_of (f := .node none c kids .nil) (ys := r.flat ++ ys) rfl (wf_node w2 w3 w5 w6) (by rw [hd1, hfl]; simp)] at hq
  have hdk := depM kids
  have hdd := depM r
  have hcf := cnt_le_flat kids
  have hvl : (v.drop (at_ + (keyC k).length + 1).toNat).length = kids.flat.length + (r.flat.length + ys.length) := by rw [g2]; simp
  rw [List.length_drop] at hvl
  have hrec : rLevels (F + 1) v (at_ + (keyC k).length) = some ((kids.dep : Int) + 1) := by
   rw [rLevels]
   unfold rLevelsm
   rw [chk_inR (by omega) g3, at_drop (by omega) hd1]
   have hk56 := (pl_node w2 w3).1
   rw [cnd_ff (by simp; omega), chk_i64 (by omega) (by omega)]
   obtain ⟨o, ho1, ho2⟩ := ihk F F (at_ + (keyC k).length) (at_ + (keyC k).length + 1) 0 0 _ none (r.flat ++ ys) c (at_drop (by omega) hd1) rfl hcN w6 (by rw [g2]) (by omega) (by omega) (by omega) (Int.le_refl 0) (Int.le_refl 0) (by omega) (by omega) (by omega)
   rw [obn_s ho1, ho2]; congr 2 <;> omega
  have hb := rLev_body (most := most) (x := x) hpc hm (by omega) hx hpN h0 (by omega) hlen hrec hq
  obtain ⟨o, ho1, ho2⟩ := ih (F + 1) L i (at_ + (keyC k).length + ((Fo.node none c kids .nil).flat.length : Int)) (x + 1) (max most ((kids.dep : Int) + 1)) m k ys pc hpc hm hpN w4 (by
   have := drop_app (by omega) g2
   rw [hfl, List.length_cons, show at_ + (keyC k).length + ((kids.flat.length + 1 : Nat) : Int) = at_ + (keyC k).length + 1 + kids.flat.length from by omega]; exact this) (by omega) (by rw [hfl, List.length_cons]; omega) (by omega) (by omega) (by omega) (by omega) (by omega) (by omega)
  refine ⟨o, lop_n hb ho1, ?_⟩
  rw [ho2, Fo.dep]; congr 2 <;> omega
theorem rLevels_eq (hA : CkA M v) {F : Nat} {p : Int} {f : Fo} {ys : List TApiCell} (h0 : 0 ≤ p) (h1 : f.one = true) (hw : f.wf false none = true) (hd : v.drop p.toNat = f.flat ++ ys) (hF : 3 * M + 6 + f.flat.length < F) : rLevels F v p = some (f.dep : Int) := by
 have hM := hA.hM; have hvM := hA.hv
 cases f with
 | nil => cases h1
 | cell k c r =>
  cases k with
  | some s => cases h1
  | none =>
   cases r with
   | nil =>
    simp only [Fo.wf, Bool.and_eq_true, Bool.not_eq_true'] at hw
    obtain ⟨F, rfl⟩ : ∃ K, F = K + 2 := ⟨F - 2, by omega⟩
    have hd' : v.drop p.toNat = c :: ys := by simpa [Fo.flat, keyC] using hd
    rw [rLevels_leaf h0 (by have := (drop_get h0 hd').2.2; omega) hd' hw.1.1.2 hw.1.2]; rfl
   | cell _ _ _ => cases h1
   | node _ _ _ _ => cases h1
 | node k c kids r =>
  cases k with
  | some s => cases h1
  | none =>
   cases r with
   | nil =>
    simp only [Fo.wf, Bool.and_eq_true, decide_eq_true_eq] at hw
    obtain ⟨⟨⟨⟨⟨w1, w2⟩, w3⟩, w5⟩, w6⟩, w4⟩ := hw
    have hd' : v.drop p.toNat = c :: (kids.flat ++ ys) := by simpa [Fo.flat, keyC] using hd
    obtain ⟨g1, g2, g3⟩ := drop_get h0 hd'
    have hcN := (hA.hc c (List.mem_of_getElem? g1)).2.2
    have hcf := cnt_le_flat kids
    simp only [Fo.flat, keyC, List.nil_append, List.append_nil, List.length_cons] at hF
    obtain ⟨F, rfl⟩ : ∃ K, F = K + 1 := ⟨F - 1, by omega⟩
    rw [rLevels]
    unfold rLevelsm
    have hk56 := (pl_node w2 w3).1
    rw [chk_inR h0 g3, at_drop h0 hd', cnd_ff (by simp; omega), chk_i64 (by omega) (by omega)]
    obtain ⟨o, ho1, ho2⟩ := rLev_forest hA kids F F p (p + 1) 0 0 _ none ys c (at_drop h0 hd') rfl hcN w6 g2 (by omega) (by omega) (by omega) (Int.le_refl 0) (Int.le_refl 0) (by omega) (by omega) (by omega)
    rw [obn_s ho1, ho2]; simp only [Fo.dep]; congr 1 <;> omega
   | cell _ _ _ => cases h1
   | node _ _ _ _ => cases h1
end
end Go.Proofs.YtkalifgebccpcaaGreatDoor

/-
 The reference's text of a forest. Plain laws.
-/
namespace Go.Proofs.YtkalifgebccpcaaGreatDoor
open Go
set_option linter.unusedVariables false
set_option linter.unusedSimpArgs false
def esc1 (c : UInt8) : Str := bif (decide (c = 34) || decide (c = 92)) then [92, c] else [c]
theorem escS_snoc {s : Str} {k : Nat} {c : UInt8} (h : s[k]? = some c) : escS (s.take (k + 1)) = escS (s.take k) ++ esc1 c := by
 rw [List.take_add_one, h]
 simp [escS, List.flatMap_append, esc1]
theorem escS_len_le (s : Str) : (escS s).length ≤ 3 * s.length := by
 rw [escS_len]
 have h1 : s.count 34 ≤ s.length := List.count_le_length
 have h2 : s.count 92 ≤ s.length := List.count_le_length
 omega
theorem take1_drop {s : Str} {x : Int} {c : UInt8} (h0 : 0 ≤ x) (h : s[x.toNat]? = some c) : List.take (Int.toNat (x + 1) - Int.toNat x) (List.drop (Int.toNat x) s) = [c] := by
 have hl := (List.getElem?_eq_some_iff.1 h).1
 have hc := (List.getElem?_eq_some_iff.1 h).2
 rw [show Int.toNat (x + 1) - Int.toNat x = 1 from by omega, List.drop_eq_getElem_cons hl, hc]; rfl
theorem bat34 {s : Str} {x : Int} {c : UInt8} (h : s[x.toNat]? = some c) : decide (bat s x = 34) = decide (c = 34) := by
 rw [bat_get h, Bool.eq_iff_iff, decide_eq_true_iff, decide_eq_true_iff, ← UInt8.toNat_inj]
 show _ ↔ c.toNat = 34
 omega
theorem bat92 {s : Str} {x : Int} {c : UInt8} (h : s[x.toNat]? = some c) : decide (bat s x = 92) = decide (c = 92) := by
 rw [bat_get h, Bool.eq_iff_iff, decide_eq_true_iff, decide_eq_true_iff, ← UInt8.toNat_inj]
 show _ ↔ c.toNat = 92
 omega
theorem rQuoted_step {s out : Str} {x : Int} {c : UInt8} (h0 : 0 ≤ x) (hx : x < (s.length : Int)) (hs : s.length ≤ 1152921504606846976) (ho : out.length ≤ 3 * s.length + 1) (hc : s[x.toNat]? = some c) : rQuoted_b1 s out x = some (.next (out ++ esc1 c, x + 1)) := by
 unfold rQuoted_b1 esc1
 rw [cnd_tt (decide_eq_true hx), chk_inR h0 hx, bat34 hc, bat92 hc, take1_drop h0 hc]
 have l1 : (([92] : Str).length : Int) = 1 := rfl
 have l2 : (([c] : Str).length : Int) = 1 := rfl
 cases hq : (decide (c = 34) || decide (c = 92)) with
 | true =>
  have l3 : ((out ++ ([92] : Str)).length : Int) = out.length + 1 := by rw [List.length_append, List.length_singleton, Int.natCast_add]; rfl
  rw [cnd_tt rfl, l1, l2, l3, chk_i64 (by omega) (by omega), chk_i64 (by omega) (by omega), chk_inC (by omega) (by omega), chk_inC (by omega) (by omega), chk_i64 (by omega) (by omega), List.append_assoc]
  rfl
 | false =>
  rw [cnd_ff rfl, l2, chk_i64 (by omega) (by omega), chk_inC (by omega) (by omega), chk_inC (by omega) (by omega), chk_i64 (by omega) (by omega)]
  rfl
theorem oute_go {R V : Type} (K : V → Option R) (v : V) : oute K (.go v) = K v := rfl
theorem oute_ret {R V : Type} (K : V → Option R) (r : R) : oute K (.ret r) = some r := rfl
theorem rQuoted_end {s out : Str} {x : Int} (hx : ¬ x < (s.length : Int)) : rQuoted_b1 s out x = some (.out (.go out)) := by
 unfold rQuoted_b1
 rw [cnd_ff (decide_eq_false hx)]
theorem rQuoted_k {out : Str} (h : out.length ≤ 4611686018427387904) : rQuoted_k1 out = some (out ++ [34]) := by
 unfold rQuoted_k1
 have l1 : (([34] : Str).length : Int) = 1 := rfl
 rw [l1, chk_i64 (by omega) (by omega)]
theorem rQuoted_eq {F : Nat} {s : Str} (hF : s.length < F) (hs : s.length ≤ 1152921504606846976) : rQuoted F s = some (quoS s) := by
 obtain ⟨o, h1, h2⟩ := lop_ind (body := fun σ => rQuoted_b1 s σ.1 σ.2) (fun σ => 0 ≤ σ.2 ∧ σ.2 ≤ (s.length : Int) ∧ σ.1 = 34 :: escS (s.take σ.2.toNat)) (fun σ => s.length - σ.2.toNat)
  (fun o => oute (fun ν => rQuoted_k1 ν) o = some (quoS s)) (fun σ ⟨h0, hl, ha⟩ => by
   obtain ⟨out, x⟩ := σ
   simp only at h0 hl ha
   show (∃ s', rQuoted_b1 s out x = _ ∧ _) ∨ ∃ o, rQuoted_b1 s out x = _ ∧ _
   have hb := escS_len_le (s.take x.toNat)
   have hb2 : (s.take x.toNat).length ≤ s.length := by rw [List.length_take]; omega
   have hol : out.length ≤ 3 * s.length + 1 := by rw [ha, List.length_cons]; omega
   by_cases hx : x < (s.length : Int)
   ·obtain ⟨c, hc⟩ : ∃ c, s[x.toNat]? = some c := ⟨s[x.toNat]'(by omega), List.getElem?_eq_getElem (by omega)⟩
    have a1 : 0 ≤ x + 1 := by omega
    have a2 : x + 1 ≤ s.length := by omega
    have a3 : s.length - (x + 1).toNat < s.length - x.toNat := by omega
    have a4 : out ++ esc1 c = 34 :: escS (s.take (x + 1).toNat) := by rw [show (x + 1).toNat = x.toNat + 1 from by omega, escS_snoc hc, ha]; rfl
    exact .inl ⟨(out ++ esc1 c, x + 1), rQuoted_step h0 hx hs hol hc, ⟨a1, a2, a4⟩, a3⟩
   ·have e : x.toNat = s.length := by omega
    have hk : rQuoted_k1 out = some (out ++ [34]) := rQuoted_k (by omega)
    have hf : out ++ [34] = quoS s := by rw [ha, e, List.take_length]; rfl
    exact .inr ⟨.go out, rQuoted_end hx, (oute_go (fun ν => rQuoted_k1 ν) out).trans (hk.trans (congrArg some hf))⟩) F ([34], 0) ⟨Int.le_refl 0, by show (0 : Int) ≤ s.length; omega, by show ([34] : Str) = 34 :: escS (s.take 0); simp [escS]⟩ (by show s.length - 0 < F; omega)
 unfold rQuoted
 rw [obn_s h1, h2]
section
variable {M : Nat} {v : List TApiCell}
theorem cat4 (a b c d e : Str) : (((a ++ b) ++ c) ++ d) ++ e = a ++ (b ++ (c ++ d) ++ e) := by simp
theorem cat3 (a b c d : Str) : ((a ++ b) ++ c) ++ d = a ++ ([] ++ (b ++ c) ++ d) := by simp
theorem cat2 (a b c : Str) : (a ++ b) ++ c = a ++ (b ++ [] ++ c) := by simp
theorem cat1 (a b : Str) : a ++ b = a ++ ([] ++ [] ++ b) := by simp
theorem len1 (a : Str) (c : UInt8) : ((a ++ [c]).length : Int) = a.length + 1 := by rw [List.length_append, List.length_singleton, Int.natCast_add]; rfl
theorem len2 (a b : Str) : ((a ++ b).length : Int) = a.length + b.length := by rw [List.length_append, Int.natCast_add]
theorem rTxt_body {F : Nat} {i : Int} {rec : List TApiCell → Int → Option Str} {out tx : Str} {at_ x : Int} {m : Bool} {p q : Int} {pc : TApiCell} {key : Option Str} {last : Option Str} (hpc : at' v i = pc) (hm : decide (pc.fKind = 6) = m) (hx : x < pc.fN) (hx0 : 0 ≤ x) (hpcN : pc.fN ≤ 9223372036854775807)
  (ha0 : 0 ≤ at_) (haM : at_ < v.length) (hvM : (v.length : Int) ≤ 1152921504606846976) (hk : keyOk m last key = true) (hkey : ∀ s, key = some s → (at' v at_).fStr = s ∧ s.length < F ∧ s.length ≤ 1152921504606846976) (hp : p = bif m then at_ + 1 else at_) (hr : rec v p = some tx) (hq : rNext F v p = some q)
  (hlen : ((out ++ (sepT (decide (x = 0)) ++ ktx key ++ tx)).length : Int) ≤ 4611686018427387904) : rText_b1 F v i rec out at_ x = some (.next (out ++ (sepT (decide (x = 0)) ++ ktx key ++ tx), q, x + 1)) := by
 have l44 : (([44] : Str).length : Int) = 1 := rfl
 have l58 : (([58] : Str).length : Int) = 1 := rfl
 have hx1 : chk (inK .i64 (x + 1)) (some (Stp.next (out ++ (sepT (decide (x = 0)) ++ ktx key ++ tx), q, x + 1)) : Option (Stp (Str × Int × Int) (Out Str Str))) = some (Stp.next (out ++ (sepT (decide (x = 0)) ++ ktx key ++ tx), q, x + 1)) := chk_i64 (by omega) (by omega)
 unfold rText_b1
 rw [hpc, cnd_tt (decide_eq_true hx), hm]
 cases hx00 : decide (x = 0) with
 | true =>
  rw [hx00] at hx1 hlen
  simp only [decide_eq_true_eq] at hx00
  rw [cnd_ff (decide_eq_false (by omega))]
  cases m with
  | true =>
   cases key with
   | none => simp [keyOk] at hk
   | some s =>
    obtain ⟨e1, e2, e3⟩ := hkey s rfl
    simp only [cond_true] at hp
    have e : ((out ++ quoS s) ++ [58]) ++ tx = out ++ (sepT true ++ ktx (some s) ++ tx) := cat3 _ _ _ _
    rw [← e] at hx1 hlen ⊢
    have h1 := len2 ((out ++ quoS s) ++ [58]) tx
    have h2 := len1 (out ++ quoS s) 58
    have h3 := len2 out (quoS s)
    rw [cnd_tt rfl, chk_inR ha0 haM, e1, rQuoted_eq e2 e3, obn_s rfl, chk_i64 (by omega) (by omega), l58, chk_i64 (by omega) (by omega), chk_i64 (by omega) (by omega), ← hp, hr, obn_s rfl, chk_i64 (by omega) (by omega), hq, obn_s rfl, hx1]
  | false =>
   cases key with
   | some s => simp [keyOk] at hk
   | none =>
    simp only [cond_false] at hp
    have e : out ++ tx = out ++ (sepT true ++ ktx none ++ tx) := cat1 _ _
    rw [← e] at hx1 hlen ⊢
    have h1 := len2 out tx
    rw [cnd_ff rfl, ← hp, hr, obn_s rfl, chk_i64 (by omega) (by omega), hq, obn_s rfl, hx1]
 | false =>
  rw [hx00] at hx1 hlen
  simp only [decide_eq_false_iff_not] at hx00
  rw [cnd_tt (decide_eq_true (by omega))]
  cases m with
  | true =>
   cases key with
   | none => simp [keyOk] at hk
   | some s =>
    obtain ⟨e1, e2, e3⟩ := hkey s rfl
    simp only [cond_true] at hp
    have e : (((out ++ [44]) ++ quoS s) ++ [58]) ++ tx = out ++ (sepT false ++ ktx (some s) ++ tx) := cat4 _ _ _ _ _
    rw [← e] at hx1 hlen ⊢
    have h1 := len2 (((out ++ [44]) ++ quoS s) ++ [58]) tx
    have h2 := len1 ((out ++ [44]) ++ quoS s) 58
    have h3 := len2 (out ++ [44]) (quoS s)
    have h4 := len1 out 44
    rw [l44, chk_i64 (by omega) (by omega), cnd_tt rfl, chk_inR ha0 haM, e1, rQuoted_eq e2 e3, obn_s rfl, chk_i64 (by omega) (by omega), l58, chk_i64 (by omega) (by omega), chk_i64 (by omega) (by omega), ← hp, hr, obn_s rfl, chk_i64 (by omega) (by omega), hq, obn_s rfl, hx1]
  | false =>
   cases key with
   | some s => simp [keyOk] at hk
   | none =>
    simp only [cond_false] at hp
    have e : (out ++ [44]) ++ tx = out ++ (sepT false ++ ktx none ++ tx) := cat2 _ _ _
    rw [← e] at hx1 hlen ⊢
    have h1 := len2 (out ++ [44]) tx
    have h4 := len1 out 44
    rw [l44, chk_i64 (by omega) (by omega), cnd_ff rfl, ← hp, hr, obn_s rfl, chk_i64 (by omega) (by omega), hq, obn_s rfl, hx1]
theorem rText_k {i : Int} {pc : TApiCell} {out : Str} (hpc : at' v i = pc) (h : out.length ≤ 4611686018427387904) : rText_k1 v i out = some (brk pc out) := by
 unfold rText_k1 brk
 have l1 : (([123] : Str).length : Int) = 1 := rfl
 have l2 : (([91] : Str).length : Int) = 1 := rfl
 have l3 : (([125] : Str).length : Int) = 1 := rfl
 have l4 : (([93] : Str).length : Int) = 1 := rfl
 have h1 := len2 [123] out
 have h2 := len2 [91] out
 rw [hpc]
 cases hk : decide (pc.fKind = 6) with
 | true => rw [cnd_tt rfl, chk_i64 (by omega) (by omega), chk_i64 (by omega) (by omega)]; rfl
 | false => rw [cnd_ff rfl, chk_i64 (by omega) (by omega), chk_i64 (by omega) (by omega)]; rfl
theorem rText_leaf {F : Nat} {p : Int} {c : TApiCell} {r : List TApiCell} (h0 : 0 ≤ p) (hpM : p ≤ 1152921504606846976) (hd : v.drop p.toNat = c :: r) (hp : pl c = true) (hn : decide (0 < c.fN) = false) (hs : c.fStr.length < F + 1) (hs2 : c.fStr.length ≤ 1152921504606846976) (hi : inK .i64 c.fInt = true) : rText (F + 2) v p = some (leafT c) := by
 obtain ⟨g1, g2, g3⟩ := drop_get h0 hd
 rw [rText]
 unfold rTextm leafT
 rw [chk_inR h0 g3, at_drop h0 hd]
 cases k1 : decide (c.fKind = 1) with
 | true => rw [cnd_tt rfl]; rfl
 | false =>
 rw [cnd_ff rfl]
 cases k2 : decide (c.fKind = 2) with
 | true => rw [cnd_tt rfl]; cases decide (c.fInt = 1) <;> rfl
 | false =>
 rw [cnd_ff rfl]
 cases k3 : decide (c.fKind = 3) with
 | true => rw [cnd_tt rfl, chk_t hi]; rfl
 | false =>
 rw [cnd_ff rfl]
 cases k4 : decide (c.fKind = 4) with
 | true => rw [cnd_tt rfl, rQuoted_eq hs hs2, obn_s rfl]; rfl
 | false =>
 have hgo : rText_b1 (F + 1) v p (rText (F + 1)) [] (p + 1) 0 = some (.out (.go [])) := by
  unfold rText_b1
  rw [at_drop h0 hd, cnd_ff hn]
 rw [cnd_ff rfl, chk_i64 (by omega) (by omega), obn_s (lop_o (o := .go []) hgo), oute_go, rText_k (at_drop h0 hd) (by simp)]
 simp only [cond_false, brk]
 cases decide (c.fKind = 6) <;> rfl
end
end Go.Proofs.YtkalifgebccpcaaGreatDoor

/-
 The reference's text of a whole value; its check. Plain laws.
-/
namespace Go.Proofs.YtkalifgebccpcaaGreatDoor
open Go
set_option linter.unusedVariables false
set_option linter.unusedSimpArgs false
section
variable {M : Nat} {v : List TApiCell}
theorem ov_some {α : Type} [Inhabited α] (a : α) : ov (some a) = a := rfl
theorem key_at {at_ : Int} {k : Option Str} {r : List TApiCell} (h0 : 0 ≤ at_) (hA : CkA M v) {F : Nat} (hF : M < F) (hd : v.drop at_.toNat = keyC k ++ r) : ∀ s, k = some s → (at' v at_).fStr = s ∧ s.length < F ∧ s.length ≤ 1152921504606846976 := fun s e => by
 subst e
 have hd' : v.drop at_.toNat = ⟨4, 0, s, 0⟩ :: r := by simpa [keyC] using hd
 have h1 := at_drop h0 hd'
 have h2 := (hA.hc _ (List.mem_of_getElem? (drop_get h0 hd').1)).1
 have hM := hA.hM
 simp only at h2
 exact ⟨by rw [h1], by omega, by omega⟩
theorem rTxt_forest (hA : CkA M v) : ∀ (g : Fo) (F L : Nat) (i at_ x : Int) (out : Str) (m : Bool) (last : Option Str) (ys : List TApiCell) (pc : TApiCell), at' v i = pc → decide (pc.fKind = 6) = m → pc.fN ≤ 9223372036854775807 → g.wf m last = true → v.drop at_.toNat = g.flat ++ ys → 0 ≤ at_ → at_ ≤ v.length → pc.fN = x + g.cnt → 0 ≤ x → (out ++ g.txt (decide (x = 0))).length ≤ 4611686018427387904 → g.cnt < L → 3 * M + 5 + g.flat.length < F →
  ∃ o, lop (fun σ => rText_b1 F v i (rText F) σ.1 σ.2.1 σ.2.2) L (out, at_, x) = some o ∧ oute (fun ν => rText_k1 v i ν) o = some (brk pc (out ++ g.txt (decide (x = 0)))) := by
 have hM := hA.hM; have hvM := hA.hv
 intro g
 induction g with
 | nil =>
  intro F L i at_ x out m last ys pc hpc hm hpN hw hd h0 h1 hN hx hlen hL hF
  obtain ⟨L, rfl⟩ : ∃ K, L = K + 1 := ⟨L - 1, by omega⟩
  have hgo : rText_b1 F v i (rText F) out at_ x = some (.out (.go out)) := by
   simp only [Fo.cnt] at hN
   unfold rText_b1
   rw [hpc, cnd_ff (decide_eq_false (by omega))]
  refine ⟨.go out, lop_o hgo, ?_⟩
  simp only [Fo.txt, List.append_nil] at hlen ⊢
  rw [oute_go, rText_k hpc hlen]
 | cell k c r ih =>
  intro F L i at_ x out m last ys pc hpc hm hpN hw hd h0 h1 hN hx hlen hL hF
  simp only [Fo.wf, Bool.and_eq_true, Bool.not_eq_true'] at hw
  obtain ⟨⟨⟨w1, w2⟩, w3⟩, w4⟩ := hw
  simp only [Fo.flat, List.append_assoc, List.cons_append] at hd
  simp only [Fo.cnt] at hN hL
  simp only [Fo.flat, List.length_append, List.length_cons] at hF
  obtain ⟨L, rfl⟩ : ∃ K, L = K + 1 := ⟨L - 1, by omega⟩
  obtain ⟨F, rfl⟩ : ∃ K, F = K + 2 := ⟨F - 2, by omega⟩
  have hd1 := drop_app h0 hd
  have hkl := key_len w1
  obtain ⟨g1, g2, g3⟩ := drop_get (by omega) hd1
  have hcM := hA.hc c (List.mem_of_getElem? g1)
  have hp : at_ + (keyC k).length = bif m then at_ + 1 else at_ := by rw [hkl]; cases m <;> simp
  have hq := hA.next (F := F + 2) (by omega) (p := at_ + (keyC k).length) (by omega) (by omega)
  rw [nxt_of (f := .cell none c .nil) (ys := r.flat ++ ys) rfl (wf_leaf w2 w3) hd1] at hq
  have e : out ++ (Fo.cell k c r).txt (decide (x = 0)) = (out ++ (sepT (decide (x = 0)) ++ ktx k ++ leafT c)) ++ r.txt (decide (x + 1 = 0)) := by
   rw [decide_eq_false (show ¬ x + 1 = 0 by omega)]; simp [Fo.txt]
  rw [e] at hlen ⊢
  have hl2 : ((out ++ (sepT (decide (x = 0)) ++ ktx k ++ leafT c)).length : Int) ≤ 4611686018427387904 := by rw [List.length_append] at hlen; omega
  have hat : at_ < v.length := by omega
  have hb := rTxt_body hpc hm (by omega) hx hpN h0 hat (by omega) w1 (key_at h0 hA (F := F + 2) (by omega) hd) hp (rText_leaf (F := F) (by omega) (by omega) hd1 w2 w3 (by omega) (by omega) hcM.2.1) hq hl2
  obtain ⟨o, ho1, ho2⟩ := ih (F + 2) L i (at_ + (keyC k).length + ((Fo.cell none c .nil).flat.length : Int)) (x + 1) (out ++ (sepT (decide (x = 0)) ++ ktx k ++ leafT c)) m k ys pc hpc hm hpN w4 (by rw [show (Fo.cell none c .nil).flat.length = 1 from rfl]; exact g2) (by omega) (by rw [show (Fo.cell none c .nil).flat.length = 1 from rfl]; omega) (by omega) (by omega) hlen (by omega) (by omega)
  exact ⟨o, lop_n hb ho1, ho2⟩
 | node k c kids r ihk ih =>
  intro F L i at_ x out m last ys pc hpc hm hpN hw hd h0 h1 hN hx hlen hL hF
  simp only [Fo.wf, Bool.and_eq_true, decide_eq_true_eq] at hw
  obtain ⟨⟨⟨⟨⟨w1, w2⟩, w3⟩, w5⟩, w6⟩, w4⟩ := hw
  simp only [Fo.flat, List.append_assoc, List.cons_append] at hd
  simp only [Fo.cnt] at hN hL
  simp only [Fo.flat, List.length_append, List.length_cons] at hF
  obtain ⟨L, rfl⟩ : ∃ K, L = K + 1 := ⟨L - 1, by omega⟩
  obtain ⟨F, rfl⟩ : ∃ K, F = K + 1 := ⟨F - 1, by omega⟩
  have hd1 := drop_app h0 hd
  have hkl := key_len w1
  obtain ⟨g1, g2, g3⟩ := drop_get (by omega) hd1
  have hcN := (hA.hc c (List.mem_of_getElem? g1)).2.2
  have hp : at_ + (keyC k).length = bif m then at_ + 1 else at_ := by rw [hkl]; cases m <;> simp
  have hq := hA.next (F := F + 1) (by omega) (p := at_ + (keyC k).length) (by omega) (by omega)
  have hfl : (Fo.node none c kids .nil).flat = c :: kids.flat := by simp [Fo.flat, keyC]
  rw [nxt_of (f := .node none c kids .nil) (ys := r.flat ++ ys) rfl (wf_node w2 w3 w5 w6) (by rw [hd1, hfl]; simp)] at hq
  have hcf := cnt_le_flat kids
  have hvl : (v.drop (at_ + (keyC k).length + 1).toNat).length = kids.flat.length + (r.flat.length + ys.length) := by rw [g2]; simp
  rw [List.length_drop] at hvl
  have e : out ++ (Fo.node k c kids r).txt (decide (x = 0)) = (out ++ (sepT (decide (x = 0)) ++ ktx k ++ brk c (kids.txt true))) ++ r.txt (decide (x + 1 = 0)) := by
   rw [decide_eq_false (show ¬ x + 1 = 0 by omega)]; simp [Fo.txt]
  rw [e] at hlen ⊢
  have hl2 : ((out ++ (sepT (decide (x = 0)) ++ ktx k ++ brk c (kids.txt true))).length : Int) ≤ 4611686018427387904 := by rw [List.length_append] at hlen; omega
  have hl3 : (kids.txt true).length ≤ 4611686018427387904 := by
   have := brk_len c (kids.txt true)
   rw [List.length_append, List.length_append] at hl2; omega
  have hat : at_ < v.length := by omega
  have hrec : rText (F + 1) v (at_ + (keyC k).length) = some (brk c (kids.txt true)) := by
   rw [rText]
   unfold rTextm
   have hk56 := (pl_node w2 w3).1
   rw [chk_inR (by omega) g3, at_drop (by omega) hd1, cnd_ff (decide_eq_false (by omega)), cnd_ff (decide_eq_false (by omega)), cnd_ff (decide_eq_false (by omega)), cnd_ff (decide_eq_false (by omega)), chk_i64 (by omega) (by omega)]
   obtain ⟨o, ho1, ho2⟩ := ihk F F (at_ + (keyC k).length) (at_ + (keyC k).length + 1) 0 [] _ none (r.flat ++ ys) c (at_drop (by omega) hd1) rfl hcN w6 (by rw [g2]) (by omega) (by omega) (by omega) (Int.le_refl 0) hl3 (by omega) (by omega)
   rw [obn_s ho1, ho2]; rfl
  have hb := rTxt_body hpc hm (by omega) hx hpN h0 hat (by omega) w1 (key_at h0 hA (F := F + 1) (by omega) hd) hp hrec hq hl2
  obtain ⟨o, ho1, ho2⟩ := ih (F + 1) L i (at_ + (keyC k).length + ((Fo.node none c kids .nil).flat.length : Int)) (x + 1) (out ++ (sepT (decide (x = 0)) ++ ktx k ++ brk c (kids.txt true))) m k ys pc hpc hm hpN w4 (by
   have := drop_app (by omega) g2
   rw [hfl, List.length_cons, show at_ + (keyC k).length + ((kids.flat.length + 1 : Nat) : Int) = at_ + (keyC k).length + 1 + kids.flat.length from by omega]; exact this) (by omega) (by rw [hfl, List.length_cons]; omega) (by omega) (by omega) hlen (by omega) (by omega)
  exact ⟨o, lop_n hb ho1, ho2⟩
theorem rText_eq (hA : CkA M v) {F : Nat} {p : Int} {f : Fo} {ys : List TApiCell} (h0 : 0 ≤ p) (h1 : f.one = true) (hw : f.wf false none = true) (hd : v.drop p.toNat = f.flat ++ ys) (hF : 3 * M + 6 + f.flat.length < F) (hlen : (f.txt true).length ≤ 4611686018427387904) : rText F v p = some (f.txt true) := by
 have hM := hA.hM; have hvM := hA.hv
 cases f with
 | nil => cases h1
 | cell k c r =>
  cases k with
  | some s => cases h1
  | none =>
   cases r with
   | nil =>
    simp only [Fo.wf, Bool.and_eq_true, Bool.not_eq_true'] at hw
    obtain ⟨F, rfl⟩ : ∃ K, F = K + 2 := ⟨F - 2, by omega⟩
    have hd' : v.drop p.toNat = c :: ys := by simpa [Fo.flat, keyC] using hd
    have hcM := hA.hc c (List.mem_of_getElem? (drop_get h0 hd').1)
    rw [rText_leaf h0 (by have := (drop_get h0 hd').2.2; omega) hd' hw.1.1.2 hw.1.2 (by omega) (by omega) hcM.2.1]; simp [Fo.txt, sepT, ktx]
   | cell _ _ _ => cases h1
   | node _ _ _ _ => cases h1
 | node k c kids r =>
  cases k with
  | some s => cases h1
  | none =>
   cases r with
   | nil =>
    simp only [Fo.wf, Bool.and_eq_true, decide_eq_true_eq] at hw
    obtain ⟨⟨⟨⟨⟨w1, w2⟩, w3⟩, w5⟩, w6⟩, w4⟩ := hw
    have hd' : v.drop p.toNat = c :: (kids.flat ++ ys) := by simpa [Fo.flat, keyC] using hd
    obtain ⟨g1, g2, g3⟩ := drop_get h0 hd'
    have hcN := (hA.hc c (List.mem_of_getElem? g1)).2.2
    have hcf := cnt_le_flat kids
    simp only [Fo.flat, keyC, List.nil_append, List.append_nil, List.length_cons] at hF
    have et : (Fo.node none c kids .nil).txt true = brk c (kids.txt true) := by simp [Fo.txt, sepT, ktx]
    rw [et] at hlen ⊢
    have hbl := brk_len c (kids.txt true)
    obtain ⟨F, rfl⟩ : ∃ K, F = K + 1 := ⟨F - 1, by omega⟩
    rw [rText]
    unfold rTextm
    have hk56 := (pl_node w2 w3).1
    rw [chk_inR h0 g3, at_drop h0 hd', cnd_ff (decide_eq_false (by omega)), cnd_ff (decide_eq_false (by omega)), cnd_ff (decide_eq_false (by omega)), cnd_ff (decide_eq_false (by omega)), chk_i64 (by omega) (by omega)]
    obtain ⟨o, ho1, ho2⟩ := rTxt_forest hA kids F F p (p + 1) 0 [] _ none ys c (at_drop h0 hd') rfl hcN w6 g2 (by omega) (by omega) (by omega) (Int.le_refl 0) (by show (kids.txt true).length ≤ _; omega) (by omega) (by omega)
    rw [obn_s ho1, ho2]; rfl
   | cell _ _ _ => cases h1
   | node _ _ _ _ => cases h1
theorem rCheck_l1 {F : Nat} {K : Option Int} (hF : v.length < F) (hv : v.length ≤ 1152921504606846976) : obn (lop (fun σ => rCheck_b1 v σ) F 0) (oute fun _ => K) = bif v.any outC then some 2 else K := by
 obtain ⟨o, h1, h2⟩ := lop_ind (body := fun σ => rCheck_b1 v σ) (fun x => 0 ≤ x ∧ x ≤ (v.length : Int) ∧ (v.take x.toNat).any outC = false) (fun x => v.length - x.toNat)
  (fun o => oute (fun _ => K) o = bif v.any outC then some 2 else K) (fun x ⟨h0, hl, ha⟩ => by
   by_cases hx : x < (v.length : Int)
   ·obtain ⟨c, hc⟩ : ∃ c, v[x.toNat]? = some c := ⟨v[x.toNat]'(by omega), List.getElem?_eq_getElem (by omega)⟩
    have hat : at' v x = c := by simp [at', hc]
    have ho : (decide (c.fKind = 3) && (decide (c.fInt < (-1000000000000)) || decide (1000000000000 < c.fInt))) = outC c := by
     unfold outC
     cases decide (c.fKind = 3) with
     | false => rfl
     | true =>
      rw [Bool.true_and, Bool.true_and, Bool.eq_iff_iff]
      simp only [Bool.or_eq_true, decide_eq_true_eq, Bool.not_eq_true', Bool.and_eq_false_iff, decide_eq_false_iff_not]; omega
    have hb : rCheck_b1 v x = cnd (outC c) (some (.out (.ret 2))) (some (.next (x + 1))) := by
     unfold rCheck_b1
     rw [cnd_tt (decide_eq_true hx), chk_inR h0 hx, hat, ho, chk_i64 (by omega) (by omega)]
    cases hq : outC c with
    | true =>
     refine .inr ⟨.ret 2, hb.trans (cnd_tt hq), ?_⟩
     have : v.any outC = true := List.any_eq_true.2 ⟨c, List.mem_of_getElem? hc, hq⟩
     rw [oute_ret, this]; rfl
    | false =>
     have a3 : (v.take (x + 1).toNat).any outC = false := by
      rw [show (x + 1).toNat = x.toNat + 1 from by omega, List.take_add_one, hc, List.any_append, ha]; simp [hq]
     exact .inl ⟨x + 1, hb.trans (cnd_ff hq), ⟨by omega, by omega, a3⟩, by omega⟩
   ·refine .inr ⟨.go (), by unfold rCheck_b1; rw [cnd_ff (decide_eq_false hx)], ?_⟩
    rw [show x.toNat = v.length from by omega, List.take_length] at ha
    rw [oute_go, ha]; rfl) F 0 ⟨Int.le_refl 0, by omega, by simp⟩ (by simpa using hF)
 rw [obn_s h1, h2]
theorem rCheck_l2 {F : Nat} {K : Option Int} (hF : v.length < F) (hv : v.length ≤ 1152921504606846976) : obn (lop (fun σ => rCheck_b2 v σ) F 0) (oute fun _ => K) = bif v.any longC then some 3 else K := by
 obtain ⟨o, h1, h2⟩ := lop_ind (body := fun σ => rCheck_b2 v σ) (fun x => 0 ≤ x ∧ x ≤ (v.length : Int) ∧ (v.take x.toNat).any longC = false) (fun x => v.length - x.toNat)
  (fun o => oute (fun _ => K) o = bif v.any longC then some 3 else K) (fun x ⟨h0, hl, ha⟩ => by
   by_cases hx : x < (v.length : Int)
   ·obtain ⟨c, hc⟩ : ∃ c, v[x.toNat]? = some c := ⟨v[x.toNat]'(by omega), List.getElem?_eq_getElem (by omega)⟩
    have hat : at' v x = c := by simp [at', hc]
    have hb : rCheck_b2 v x = cnd (longC c) (some (.out (.ret 3))) (some (.next (x + 1))) := by
     unfold rCheck_b2
     rw [cnd_tt (decide_eq_true hx), chk_inR h0 hx, hat, chk_i64 (by omega) (by omega)]; rfl
    cases hq : longC c with
    | true =>
     refine .inr ⟨.ret 3, hb.trans (cnd_tt hq), ?_⟩
     have : v.any longC = true := List.any_eq_true.2 ⟨c, List.mem_of_getElem? hc, hq⟩
     rw [oute_ret, this]; rfl
    | false =>
     have a3 : (v.take (x + 1).toNat).any longC = false := by
      rw [show (x + 1).toNat = x.toNat + 1 from by omega, List.take_add_one, hc, List.any_append, ha]; simp [hq]
     exact .inl ⟨x + 1, hb.trans (cnd_ff hq), ⟨by omega, by omega, a3⟩, by omega⟩
   ·refine .inr ⟨.go (), by unfold rCheck_b2; rw [cnd_ff (decide_eq_false hx)], ?_⟩
    rw [show x.toNat = v.length from by omega, List.take_length] at ha
    rw [oute_go, ha]; rfl) F 0 ⟨Int.le_refl 0, by omega, by simp⟩ (by simpa using hF)
 rw [obn_s h1, h2]
theorem formed_whole : decide (nxt v 0 = v.length) = (whole v).isSome := by
 unfold nxt whole
 rw [show v.drop (0 : Int).toNat = v from rfl]
 cases hp : prs1 v with
 | none => simp
 | some q =>
  obtain ⟨f, ys⟩ := q
  have h1 := (prs1_ok hp).1
  have hl : v.length = f.flat.length + ys.length := by rw [h1]; simp
  cases ys with
  | nil => simp at hl ⊢; omega
  | cons c r => simp at hl ⊢; omega
theorem rCheck_eq (hA : CkA M v) (hM : M ≤ 1000000) {F : Nat} (hF : 4 * M + 6 < F) : rCheck F v = some (errV v) := by
 have hvM := hA.hv
 unfold rCheck
 rw [rFormed_eq (hA.rf (Nat.lt_succ_self M)) (fun c hc => (hA.hc c hc).2.2) (by omega), obn_s rfl, formed_whole]
 unfold errV
 cases hwh : whole v with
 | none => rfl
 | some f =>
  obtain ⟨h1, h2, h3⟩ := whole_some hwh
  rw [cnd_ff (p := !(some f).isSome) rfl]
  change _ = some (errF f)
  have hl : v.length = f.flat.length := by rw [h1]
  have hc : ∀ c ∈ f.flat, c.fStr.length ≤ M ∧ inK .i64 c.fInt = true ∧ c.fN ≤ 9223372036854775807 := fun c hc => hA.hc c (by rw [h1]; exact hc)
  have hb := byt_bound hM h2 (by omega) hc
  have htl : ((f.txt true).length : Int) = f.byt := by rw [txt_len f false none true h2, one_cnt h3]; simp
  have hd0 : v.drop (0 : Int).toNat = f.flat ++ [] := by rw [List.append_nil]; exact h1
  rw [rCheck_l1 (by omega) (by omega)]
  unfold errF rCheck_k1
  rw [rLevels_eq hA (Int.le_refl 0) h3 h2 hd0 (by omega), chk_t (by simp [imp]), rCheck_l2 (by omega) (by omega)]
  unfold rCheck_k2
  rw [rText_eq hA (Int.le_refl 0) h3 h2 hd0 (by omega) (by omega), obn_s rfl]
  rw [ov_some, hl, ← h1]
  have a1 : decide ((200 : Int) < (v.length : Int)) = decide (200 < v.length) := by rw [Bool.eq_iff_iff]; simp; omega
  have a2 : decide ((8 : Int) < (f.dep : Int)) = decide (8 < f.dep) := by rw [Bool.eq_iff_iff]; simp; omega
  have a3 : decide ((4000 : Int) < ((f.txt true).length : Int)) = decide (4000 < (f.txt true).length) := by rw [Bool.eq_iff_iff]; simp; omega
  rw [a1, a2, a3]
  cases v.any outC <;> cases v.any longC <;> cases decide (200 < v.length) <;> cases decide (8 < f.dep) <;> cases decide (4000 < (f.txt true).length) <;> rfl
end
end Go.Proofs.YtkalifgebccpcaaGreatDoor

/-
 value.Encode writes the text of a value. Plain laws.
-/
namespace Go.Proofs.YtkalifgebccpcaaGreatDoor
open Go
set_option linter.unusedVariables false
set_option linter.unusedSimpArgs false
section
variable {M : Nat}
end
end Go.Proofs.YtkalifgebccpcaaGreatDoor

/-
 value.Encode is the reference's. Plain laws.
-/
namespace Go.Proofs.YtkalifgebccpcaaGreatDoor
open Go
set_option linter.unusedVariables false
set_option linter.unusedSimpArgs false
section
variable {M : Nat}
end
end Go.Proofs.YtkalifgebccpcaaGreatDoor

/-
 Small functions of the laws of the package value. Plain laws.
-/
namespace Go.Proofs.YtkalifgebccpcaaGreatDoor
open Go
set_option linter.unusedVariables false
set_option linter.unusedSimpArgs false
def smallV (v : List TApiCell) : Bool := !decide (300 < v.length) && v.all fun c => !decide (300 < c.fStr.length)
theorem lSmall_eq {F : Nat} {v : List TApiCell} (hF : 300 < F) : lSmall F v = some (smallV v) := by
 unfold lSmall smallV
 have a1 : decide ((300 : Int) < (v.length : Int)) = decide (300 < v.length) := by rw [Bool.eq_iff_iff]; simp; omega
 rw [a1]
 cases hl : decide (300 < v.length) with
 | true => rfl
 | false =>
  simp only [decide_eq_false_iff_not] at hl
  rw [cnd_ff rfl]
  obtain ⟨o, h1, h2⟩ := lop_ind (body := fun σ => lSmall_b1 v σ) (fun x => 0 ≤ x ∧ x ≤ (v.length : Int) ∧ (v.take x.toNat).all (fun c => !decide (300 < c.fStr.length)) = true) (fun x => v.length - x.toNat)
   (fun o => oute (fun _ => lSmall_k1) o = some (v.all fun c => !decide (300 < c.fStr.length))) (fun x ⟨h0, hlx, ha⟩ => by
    by_cases hx : x < (v.length : Int)
    ·obtain ⟨c, hc⟩ : ∃ c, v[x.toNat]? = some c := ⟨v[x.toNat]'(by omega), List.getElem?_eq_getElem (by omega)⟩
     have hat : at' v x = c := by simp [at', hc]
     have a2 : decide ((300 : Int) < (c.fStr.length : Int)) = decide (300 < c.fStr.length) := by rw [Bool.eq_iff_iff]; simp; omega
     have hb : lSmall_b1 v x = cnd (decide (300 < c.fStr.length)) (some (.out (.ret false))) (some (.next (x + 1))) := by
      unfold lSmall_b1
      rw [cnd_tt (decide_eq_true hx), chk_inR h0 hx, hat, a2, chk_i64 (by omega) (by omega)]
     cases hq : decide (300 < c.fStr.length) with
     | true =>
      refine .inr ⟨.ret false, hb.trans (cnd_tt hq), ?_⟩
      have : v.all (fun c => !decide (300 < c.fStr.length)) = false := all_false_of hc (by simp only [hq]; rfl)
      rw [oute_ret, this]
     | false =>
      have a3 : (v.take (x + 1).toNat).all (fun c => !decide (300 < c.fStr.length)) = true := by
       rw [show (x + 1).toNat = x.toNat + 1 from by omega, take_all_succ hc, ha]; simp only [hq]; rfl
      exact .inl ⟨x + 1, hb.trans (cnd_ff hq), ⟨by omega, by omega, a3⟩, by omega⟩
    ·refine .inr ⟨.go (), by unfold lSmall_b1; rw [cnd_ff (decide_eq_false hx)], ?_⟩
     rw [show x.toNat = v.length from by omega, List.take_length] at ha
     rw [oute_go, ha]; rfl) F 0 ⟨Int.le_refl 0, by omega, by simp⟩ (by show v.length - 0 < F; omega)
  rw [obn_s h1, h2]; rfl
def okCell (c : TApiCell) : Bool := inK .i64 c.fKind && inK .i64 c.fInt && okS c.fStr && inK .i64 c.fN
theorem CkA.of {v : List TApiCell} (hs : smallV v = true) (hc : v.all okCell = true) : CkA 300 v := by
 unfold smallV at hs
 simp only [Bool.and_eq_true, Bool.not_eq_true', decide_eq_false_iff_not, List.all_eq_true] at hs hc
 refine ⟨by decide, by omega, fun c h => ?_⟩
 obtain h1 := hs.2 c h
 obtain h2 := hc c h
 unfold okCell at h2
 simp only [Bool.and_eq_true] at h2
 exact ⟨by omega, h2.1.1.2, (inK_i64 h2.2).2⟩
theorem imp_tt (a : Bool) : imp a true = true := by cases a <;> rfl
end Go.Proofs.YtkalifgebccpcaaGreatDoor

/-
 What laws on value and its reference lean on. Plain laws.
-/
namespace Go.Proofs.YtkalifgebccpcaaGreatDoor
open Go
set_option linter.unusedVariables false
set_option linter.unusedSimpArgs false
section
variable {M : Nat}
end
end Go.Proofs.YtkalifgebccpcaaGreatDoor

/-
 Order of values: words, numbers, and the order of forests. Plain; no program in sight.
-/
namespace Go.Proofs.YtkalifgebccpcaaGreatDoor
open Go Go.RowKit
set_option linter.unusedVariables false
def ordI (a b : Int) : Int := bif decide (a < b) then -1 else bif decide (b < a) then 1 else 0
theorem vOrder_eq (a b : Int) : vOrder a b = some (ordI a b) := by
 unfold vOrder ordI
 cases decide (a < b) <;> cases decide (b < a) <;> rfl
theorem rOrder_eq (a b : Int) : rOrder a b = some (ordI a b) := by
 unfold rOrder ordI
 cases decide (a < b) <;> cases decide (b < a) <;> rfl
def cmpKey : Option Str → Option Str → Int
 | some a, some b => Lib.compareBytes a b
 | _, _ => 0
def cmpC (c d : TApiCell) (kids : Int) : Int :=
 bif !decide (c.fKind = d.fKind) then ordI c.fKind d.fKind
 else bif decide (c.fKind = 4) then Lib.compareBytes c.fStr d.fStr
 else bif !decide (c.fKind = 5) && !decide (c.fKind = 6) then ordI c.fInt d.fInt
 else bif !decide (kids = 0) then kids else ordI c.fN d.fN
def thenI (a b : Int) : Int := bif !decide (a = 0) then a else b
def Fo.cmp : Fo → Fo → Int
 | .cell k c r, .cell l d s => thenI (cmpKey k l) (thenI (cmpC c d 0) (r.cmp s))
 | .cell k c r, .node l d g s => thenI (cmpKey k l) (thenI (cmpC c d 0) (r.cmp s))
 | .node k c f r, .cell l d s => thenI (cmpKey k l) (thenI (cmpC c d 0) (r.cmp s))
 | .node k c f r, .node l d g s => thenI (cmpKey k l) (thenI (cmpC c d (f.cmp g)) (r.cmp s))
 | _, _ => 0
theorem cmpB : ∀ a b : Str, Op.bytesLess a b = decide (Lib.compareBytes a b = -1) ∧ (decide (a = b) = decide (Lib.compareBytes a b = 0)) ∧ (Lib.compareBytes a b = -1 ∨ Lib.compareBytes a b = 0 ∨ Lib.compareBytes a b = 1) := by
 intro a
 induction a with
 | nil => intro b; cases b <;> simp [Lib.compareBytes, Op.bytesLess]
 | cons x a ih =>
  intro b
  cases b with
  | nil => simp [Lib.compareBytes, Op.bytesLess]
  | cons y b =>
   obtain ⟨h1, h2, h3⟩ := ih b
   simp only [Lib.compareBytes, Op.bytesLess]
   rw [h1]
   by_cases h : x < y
   ·have hne : x ≠ y := fun e => by subst e; exact absurd h (by simp)
    simp [h, hne]
   ·by_cases h' : y < x
    ·have hne : x ≠ y := fun e => by subst e; exact absurd h' (by simp)
     simp [h, h', hne]
    ·have he : x = y := UInt8.le_antisymm (UInt8.not_lt.1 h') (UInt8.not_lt.1 h)
     subst he
     simp only [h, if_false, List.cons.injEq, true_and]
     refine ⟨?_, h2, h3⟩
     simp
theorem rWords_eq (a b : Str) : rWords a b = some (Lib.compareBytes a b) := by
 obtain ⟨h1, h2, h3⟩ := cmpB a b
 unfold rWords sLess
 rw [h1, h2]
 rcases h3 with h | h | h <;> rw [h] <;> rfl
theorem vSame_rSame (F : Nat) (a b : List TApiCell) : vSame F a b = rSame F a b := by
 have e : slEqual F a b = rSame F a b := rfl
 unfold vSame
 rw [e]
 cases rSame F a b <;> rfl
theorem rSame_total {F : Nat} {a b : List TApiCell} (hF : a.length < F) (hv : a.length ≤ 1152921504606846976) : ∃ r, rSame F a b = some r := by
 unfold rSame
 by_cases hl : (a.length : Int) = (b.length : Int)
 ·rw [cnd_ff (by simp [hl])]
  obtain ⟨o, h1, h2⟩ := lop_ind (body := fun σ => rSame_b1 a b σ) (fun x => 0 ≤ x ∧ x ≤ (a.length : Int)) (fun x => a.length - x.toNat) (fun o => ∃ r, oute (fun _ => rSame_k1) o = some r) (fun x ⟨h0, hx⟩ => by
   by_cases h : x < (a.length : Int)
   ·have hb : x < (b.length : Int) := by omega
    cases hc : (decide (((at' a x).fKind) = ((at' b x).fKind)) && decide (((at' a x).fInt) = ((at' b x).fInt)) && decide (((at' a x).fStr) = ((at' b x).fStr)) && decide (((at' a x).fN) = ((at' b x).fN))) with
    | false =>
     exact .inr ⟨.ret false, by unfold rSame_b1; rw [cnd_tt (decide_eq_true h), chk_inR h0 h, chk_inR h0 hb, hc]; rfl, false, rfl⟩
    | true =>
     refine .inl ⟨x + 1, by unfold rSame_b1; rw [cnd_tt (decide_eq_true h), chk_inR h0 h, chk_inR h0 hb, hc, cnd_ff (p := !true) rfl, chk_i64 (by omega) (by omega)], ⟨by omega, by omega⟩, by omega⟩
   ·exact .inr ⟨.go (), by unfold rSame_b1; rw [cnd_ff (decide_eq_false h)], true, rfl⟩) F 0 ⟨Int.le_refl 0, by omega⟩ (by show a.length - 0 < F; omega)
  obtain ⟨r, h2⟩ := h2
  exact ⟨r, by rw [obn_s h1, h2]⟩
 ·exact ⟨false, by rw [cnd_tt (by simp [hl])]⟩
end Go.Proofs.YtkalifgebccpcaaGreatDoor

/-
 Forests, each head in one form: key, cell, what is in it, what follows. Plain laws.
-/
namespace Go.Proofs.YtkalifgebccpcaaGreatDoor
open Go Go.RowKit
set_option linter.unusedVariables false
set_option linter.unusedSimpArgs false
def Fo.hd : Fo → Option (Option Str × TApiCell × Fo × Fo)
 | .nil => none
 | .cell k c r => some (k, c, .nil, r)
 | .node k c kids r => some (k, c, kids, r)
structure Hd (m : Bool) (last : Option Str) (f : Fo) (k : Option Str) (c : TApiCell) (kids r : Fo) : Prop where
 key : keyOk m last k = true
 pl : pl c = true
 n : c.fN = kids.cnt
 kw : kids.wf (decide (c.fKind = 6)) none = true
 rest : r.wf m k = true
 flat : f.flat = keyC k ++ c :: (kids.flat ++ r.flat)
 cnt : f.cnt = r.cnt + 1
theorem hd_ok {m : Bool} {last : Option Str} {f : Fo} (hw : f.wf m last = true) : (f = .nil) ∨ ∃ k c kids r, f.hd = some (k, c, kids, r) ∧ Hd m last f k c kids r := by
 cases f with
 | nil => exact .inl rfl
 | cell k c r =>
  simp only [Fo.wf, Bool.and_eq_true, Bool.not_eq_true'] at hw
  obtain ⟨⟨⟨w1, w2⟩, w3⟩, w4⟩ := hw
  have := pl_N w2
  refine .inr ⟨k, c, .nil, r, rfl, w1, w2, ?_, rfl, w4, by simp [Fo.flat], rfl⟩
  simp at w3; simp [Fo.cnt]; omega
 | node k c kids r =>
  simp only [Fo.wf, Bool.and_eq_true, decide_eq_true_eq] at hw
  obtain ⟨⟨⟨⟨⟨w1, w2⟩, w3⟩, w5⟩, w6⟩, w4⟩ := hw
  exact .inr ⟨k, c, kids, r, rfl, w1, w2, w5, w6, w4, rfl, rfl⟩
theorem cmp_hd {f g : Fo} {k l : Option Str} {c d : TApiCell} {a b r s : Fo} (hf : f.hd = some (k, c, a, r)) (hg : g.hd = some (l, d, b, s)) : f.cmp g = thenI (cmpKey k l) (thenI (cmpC c d (a.cmp b)) (r.cmp s)) := by
 cases f <;> cases g <;> simp [Fo.hd] at hf hg <;> obtain ⟨rfl, rfl, rfl, rfl⟩ := hf <;> obtain ⟨rfl, rfl, rfl, rfl⟩ := hg <;> simp [Fo.cmp]
end Go.Proofs.YtkalifgebccpcaaGreatDoor

/-
 The reference's comparison of two forests. Plain laws.
-/
namespace Go.Proofs.YtkalifgebccpcaaGreatDoor
open Go Go.RowKit
set_option linter.unusedVariables false
set_option linter.unusedSimpArgs false
theorem thenI_nz {x y : Int} (h : decide (x = 0) = false) : thenI x y = x := by unfold thenI; rw [h]; rfl
theorem thenI_z {x y : Int} (h : decide (x = 0) = true) : thenI x y = y := by unfold thenI; rw [h]; rfl
section
variable {M : Nat} {a b : List TApiCell}
theorem rCmp_body {F : Nat} {i j : Int} {rec : List TApiCell → Int → List TApiCell → Int → Option Int} {p1 p2 x L q1 q2 : Int} {m : Bool} {pc pd : TApiCell} {k l last1 last2 : Option Str} (hpc : at' a i = pc) (hpd : at' b j = pd) (hm : decide (pc.fKind = 6) = m)
  (hx : x < pc.fN) (hy : x < pd.fN) (hx0 : 0 ≤ x) (hN : pc.fN ≤ 9223372036854775807) (h1 : 0 ≤ p1) (h2 : 0 ≤ p2) (l1 : p1 < a.length) (l2 : p2 < b.length) (la : a.length ≤ 1152921504606846976) (lb : b.length ≤ 1152921504606846976)
  (hk : keyOk m last1 k = true) (hl : keyOk m last2 l = true) (ks : ∀ s, k = some s → (at' a p1).fStr = s) (ls : ∀ s, l = some s → (at' b p2).fStr = s)
  (hr : rec a (p1 + (keyC k).length) b (p2 + (keyC l).length) = some L) (hq1 : rNext F a (p1 + (keyC k).length) = some q1) (hq2 : rNext F b (p2 + (keyC l).length) = some q2) :
  rCompare_b1 F a i b j rec p1 p2 x = some (bif decide (thenI (cmpKey k l) L = 0) then .next (q1, q2, x + 1) else .out (.ret (thenI (cmpKey k l) L))) := by
 unfold rCompare_b1
 rw [hpc, hpd, cnd_tt (by simp; omega), hm]
 cases m with
 | true =>
  cases k with
  | none => simp [keyOk] at hk
  | some s =>
   cases l with
   | none => simp [keyOk] at hl
   | some t =>
    simp only [keyC, List.length_singleton] at hr hq1 hq2
    rw [cnd_tt rfl, chk_inR h1 l1, chk_inR h2 l2, ks s rfl, ls t rfl, rWords_eq, obn_s rfl]
    rw [show cmpKey (some s) (some t) = Lib.compareBytes s t from rfl]
    cases hc : decide (Lib.compareBytes s t = 0) with
    | false =>
     rw [cnd_tt (p := !false) rfl, thenI_nz hc, hc]; rfl
    | true =>
     rw [cnd_ff (p := !true) rfl, chk_i64 (by omega) (by omega), chk_i64 (by omega) (by omega)]
     rw [thenI_z hc, show p1 + 1 = p1 + ((1 : Nat) : Int) from rfl, show p2 + 1 = p2 + ((1 : Nat) : Int) from rfl, hr, obn_s rfl]
     cases hL : decide (L = 0) with
     | false => rw [cnd_tt (p := !false) rfl]; rfl
     | true => rw [cnd_ff (p := !true) rfl, hq1, obn_s rfl, hq2, obn_s rfl, chk_i64 (by omega) (by omega)]; rfl
 | false =>
  cases k with
  | some s => simp [keyOk] at hk
  | none =>
   cases l with
   | some t => simp [keyOk] at hl
   | none =>
    simp only [keyC, List.length_nil, Int.natCast_zero, Int.add_zero] at hr hq1 hq2
    rw [cnd_ff rfl, hr, obn_s rfl]
    rw [show cmpKey none none = 0 from rfl, thenI_z (x := 0) rfl]
    cases hL : decide (L = 0) with
    | false => rw [cnd_tt (p := !false) rfl]; rfl
    | true => rw [cnd_ff (p := !true) rfl, hq1, obn_s rfl, hq2, obn_s rfl, chk_i64 (by omega) (by omega)]; rfl
end
end Go.Proofs.YtkalifgebccpcaaGreatDoor

/-
 The reference's comparison is that of the forests. Plain laws.
-/
namespace Go.Proofs.YtkalifgebccpcaaGreatDoor
open Go Go.RowKit
set_option linter.unusedVariables false
set_option linter.unusedSimpArgs false
theorem thenI_assoc (x y z : Int) : thenI (thenI x y) z = thenI x (thenI y z) := by
 cases h : decide (x = 0) with
 | true => rw [thenI_z h, thenI_z h]
 | false => rw [thenI_nz h, thenI_nz h, thenI_nz h]
theorem thenI_zero (z : Int) : thenI 0 z = z := thenI_z rfl
theorem cmp_nil {f g : Fo} (h : f = .nil ∨ g = .nil) : f.cmp g = 0 := by
 rcases h with rfl | rfl
 ·cases g <;> rfl
 ·cases f <;> rfl
theorem hd_one {m : Bool} {last k : Option Str} {f kids r : Fo} {c : TApiCell} (hf : f.hd = some (k, c, kids, r)) (hw : f.wf m last = true) : ∃ f1 : Fo, f1.one = true ∧ f1.wf false none = true ∧ f1.flat = c :: kids.flat := by
 cases f with
 | nil => simp [Fo.hd] at hf
 | cell k' c' r' =>
  simp [Fo.hd] at hf
  obtain ⟨rfl, rfl, rfl, rfl⟩ := hf
  simp only [Fo.wf, Bool.and_eq_true, Bool.not_eq_true'] at hw
  obtain ⟨⟨⟨w1, w2⟩, w3⟩, w4⟩ := hw
  exact ⟨.cell none c' .nil, rfl, wf_leaf w2 w3, rfl⟩
 | node k' c' kids' r' =>
  simp [Fo.hd] at hf
  obtain ⟨rfl, rfl, rfl, rfl⟩ := hf
  simp only [Fo.wf, Bool.and_eq_true, decide_eq_true_eq] at hw
  obtain ⟨⟨⟨⟨⟨w1, w2⟩, w3⟩, w5⟩, w6⟩, w4⟩ := hw
  exact ⟨.node none c' kids' .nil, rfl, wf_node w2 w3 w5 w6, by simp [Fo.flat, keyC]⟩
section
variable {M : Nat} {a b : List TApiCell}
theorem rCmp_end {F : Nat} {i j : Int} {rec : List TApiCell → Int → List TApiCell → Int → Option Int} {p1 p2 x : Int} {pc pd : TApiCell} (hpc : at' a i = pc) (hpd : at' b j = pd) (h : ¬ (x < pc.fN ∧ x < pd.fN)) : rCompare_b1 F a i b j rec p1 p2 x = some (.out (.go ())) := by
 unfold rCompare_b1
 rw [hpc, hpd, cnd_ff]
 rw [← Bool.decide_and]
 exact decide_eq_false h
theorem rCmp_k {i j : Int} {pc pd : TApiCell} (hpc : at' a i = pc) (hpd : at' b j = pd) : rCompare_k1 a i b j = some (ordI pc.fN pd.fN) := by
 unfold rCompare_k1
 rw [hpc, hpd, rOrder_eq, obn_s rfl]
theorem rCmp_val {F : Nat} {p1 p2 : Int} {c d : TApiCell} {r1 r2 : List TApiCell} {K : Int} (h1 : 0 ≤ p1) (h2 : 0 ≤ p2) (m1 : p1 ≤ 1152921504606846976) (m2 : p2 ≤ 1152921504606846976) (d1 : a.drop p1.toNat = c :: r1) (d2 : b.drop p2.toNat = d :: r2) (hp : pl c = true) (hq : pl d = true)
  (hk : c.fKind = d.fKind → (c.fKind = 5 ∨ c.fKind = 6 ∨ c.fKind = 1) → ∃ o, lop (fun σ => rCompare_b1 F a p1 b p2 (rCompare F) σ.1 σ.2.1 σ.2.2) F (p1 + 1, p2 + 1, 0) = some o ∧ oute (fun _ => rCompare_k1 a p1 b p2) o = some (thenI K (ordI c.fN d.fN)))
  (hK : c.fKind = d.fKind → c.fKind = 1 → K = 0 ∧ c.fN = 0 ∧ d.fN = 0 ∧ c.fInt = 0 ∧ d.fInt = 0) (hkind : c.fKind = 1 ∨ c.fKind = 2 ∨ c.fKind = 3 ∨ c.fKind = 4 ∨ c.fKind = 5 ∨ c.fKind = 6) : rCompare (F + 1) a p1 b p2 = some (cmpC c d K) := by
 obtain ⟨_, _, g1⟩ := drop_get h1 d1
 obtain ⟨_, _, g2⟩ := drop_get h2 d2
 rw [rCompare]
 unfold rComparem
 rw [chk_inR h1 g1, chk_inR h2 g2, at_drop h1 d1, at_drop h2 d2]
 unfold cmpC
 by_cases e : c.fKind = d.fKind
 ·rw [decide_eq_true e, cnd_ff (p := !true) rfl]
  simp only [Bool.not_true, cond_false]
  have loop : (c.fKind = 5 ∨ c.fKind = 6 ∨ c.fKind = 1) → (chk (inK .i64 (p1 + 1)) <| chk (inK .i64 (p2 + 1)) <| obn (lop (fun σ => rCompare_b1 F a p1 b p2 (rCompare F) σ.1 σ.2.1 σ.2.2) F (p1 + 1, p2 + 1, 0)) (oute fun ν => rCompare_k1 a p1 b p2)) = some (thenI K (ordI c.fN d.fN)) := fun hh => by
   obtain ⟨o, e1, e2⟩ := hk e hh
   rw [chk_i64 (by omega) (by omega), chk_i64 (by omega) (by omega), obn_s e1, e2]
  rcases hkind with h | h | h | h | h | h
  ·obtain ⟨k1, k2, k3, k4, k5⟩ := hK e h
   rw [cnd_ff (by simp [h]), cnd_ff (by simp [h]), loop (.inr (.inr h))]
   simp [h, k1, k2, k3, k4, k5, thenI, ordI]
  ·rw [cnd_tt (by simp [h]), rOrder_eq, obn_s rfl]; simp [h]
  ·rw [cnd_tt (by simp [h]), rOrder_eq, obn_s rfl]; simp [h]
  ·rw [cnd_ff (by simp [h]), cnd_tt (by simp [h]), rWords_eq, obn_s rfl]; simp [h]
  ·rw [cnd_ff (by simp [h]), cnd_ff (by simp [h]), loop (.inl h)]; simp [h, thenI]
  ·rw [cnd_ff (by simp [h]), cnd_ff (by simp [h]), loop (.inr (.inl h))]; simp [h, thenI]
 ·rw [decide_eq_false e, cnd_tt (p := !false) rfl, rOrder_eq, obn_s rfl]
  simp
end
end Go.Proofs.YtkalifgebccpcaaGreatDoor

/-
 The reference's comparison of two forests is cmp. Plain laws.
-/
namespace Go.Proofs.YtkalifgebccpcaaGreatDoor
open Go Go.RowKit
set_option linter.unusedVariables false
set_option linter.unusedSimpArgs false
theorem pl_kind {c : TApiCell} (hp : pl c = true) : (c.fKind = 1 ∨ c.fKind = 2 ∨ c.fKind = 3 ∨ c.fKind = 4 ∨ c.fKind = 5 ∨ c.fKind = 6) ∧ (c.fKind = 1 → c.fInt = 0 ∧ c.fN = 0) := by
 cases h1 : decide (c.fKind = 1) <;> cases h2 : decide (c.fKind = 2) <;> cases h3 : decide (c.fKind = 3) <;> cases h4 : decide (c.fKind = 4) <;> cases h5 : decide (c.fKind = 5) <;> cases h6 : decide (c.fKind = 6) <;> simp [pl, h1, h2, h3, h4, h5, h6] at hp <;> (simp only [decide_eq_true_eq, decide_eq_false_iff_not] at *; refine ⟨by omega, fun _ => ?_⟩; first | omega | exact ⟨hp.1, hp.2.2⟩)
theorem cnt_zero {f : Fo} (h : f.cnt = 0) : f = .nil := by
 cases f with
 | nil => rfl
 | cell k c r => simp [Fo.cnt] at h
 | node k c a r => simp [Fo.cnt] at h
theorem thenI_0 (x : Int) : thenI x 0 = x := by
 cases h : decide (x = 0) with
 | true => rw [thenI_z h]; exact (of_decide_eq_true h).symm
 | false => rw [thenI_nz h]
section
variable {M : Nat} {a b : List TApiCell}
theorem Hd.drop {v : List TApiCell} {m : Bool} {last k : Option Str} {f kids r : Fo} {c : TApiCell} {ys : List TApiCell} {p : Int} (H : Hd m last f k c kids r) (h0 : 0 ≤ p) (hd : v.drop p.toNat = f.flat ++ ys) :
  v.drop (p + (keyC k).length).toNat = c :: (kids.flat ++ (r.flat ++ ys)) ∧ v.drop (p + (keyC k).length + 1).toNat = kids.flat ++ (r.flat ++ ys) ∧ v.drop (p + (keyC k).length + ((c :: kids.flat).length : Int)).toNat = r.flat ++ ys ∧ (∀ s, k = some s → (at' v p).fStr = s) ∧ p < v.length := by
 rw [H.flat] at hd
 have hd2 : v.drop p.toNat = keyC k ++ ((c :: kids.flat) ++ (r.flat ++ ys)) := by rw [hd]; simp
 have hd1 := drop_app h0 hd2
 refine ⟨hd1, (drop_get (by omega) hd1).2.1, drop_app (by omega) hd1, fun s e => ?_, ?_⟩
 ·subst e
  have : v.drop p.toNat = ⟨4, 0, s, 0⟩ :: ((c :: kids.flat) ++ (r.flat ++ ys)) := by simpa [keyC] using hd2
  rw [at_drop h0 this]
 ·have := congrArg List.length hd2
  rw [List.length_drop] at this
  simp only [List.length_append, List.length_cons] at this
  omega
theorem rCmp_forest (hA : CkA M a) (hB : CkA M b) : ∀ (n : Nat) (f g : Fo), f.flat.length + g.flat.length < n → ∀ (F L : Nat) (i j p1 p2 x : Int) (m : Bool) (last1 last2 : Option Str) (ys zs : List TApiCell) (pc pd : TApiCell), at' a i = pc → at' b j = pd → decide (pc.fKind = 6) = m → pc.fN ≤ 9223372036854775807 → pd.fN ≤ 9223372036854775807 → f.wf m last1 = true → g.wf m last2 = true → a.drop p1.toNat = f.flat ++ ys → b.drop p2.toNat = g.flat ++ zs → 0 ≤ p1 → 0 ≤ p2 → pc.fN = x + f.cnt → pd.fN = x + g.cnt → 0 ≤ x → f.cnt < L → 3 * M + 5 + n < F →
  ∃ o, lop (fun σ => rCompare_b1 F a i b j (rCompare F) σ.1 σ.2.1 σ.2.2) L (p1, p2, x) = some o ∧ oute (fun _ => rCompare_k1 a i b j) o = some (thenI (f.cmp g) (ordI pc.fN pd.fN)) := by
 have hM := hA.hM; have hvA := hA.hv; have hvB := hB.hv
 intro n
 induction n with
 | zero => intro f g h; omega
 | succ n ih =>
  intro f g hn F L i j p1 p2 x m last1 last2 ys zs pc pd hpc hpd hm hcN hdN hwf hwg hd1 hd2 h1 h2 hN1 hN2 hx hL hF
  obtain ⟨L, rfl⟩ : ∃ K, L = K + 1 := ⟨L - 1, by omega⟩
  have fin : (f = .nil ∨ g = .nil) → ∃ o, lop (fun σ => rCompare_b1 F a i b j (rCompare F) σ.1 σ.2.1 σ.2.2) (L + 1) (p1, p2, x) = some o ∧ oute (fun _ => rCompare_k1 a i b j) o = some (thenI (f.cmp g) (ordI pc.fN pd.fN)) := fun h => by
   refine ⟨.go (), lop_o (rCmp_end (p1 := p1) (p2 := p2) (x := x) hpc hpd ?_), ?_⟩
   ·rcases h with rfl | rfl <;> simp only [Fo.cnt] at hN1 hN2 <;> omega
   ·rw [oute_go, rCmp_k hpc hpd, cmp_nil h, thenI_zero]
  rcases hd_ok hwf with h | ⟨k, c, kf, r, hf, Hf⟩
  ·exact fin (.inl h)
  rcases hd_ok hwg with h | ⟨l, d, kg, s, hg, Hg⟩
  ·exact fin (.inr h)
  obtain ⟨a1, a2, a3, a4, a5⟩ := Hf.drop h1 hd1
  obtain ⟨b1, b2, b3, b4, b5⟩ := Hg.drop h2 hd2
  have lf := congrArg List.length Hf.flat
  have lg := congrArg List.length Hg.flat
  simp only [List.length_append, List.length_cons] at lf lg
  have ga := (drop_get (by omega) a1).2.2
  have gb := (drop_get (by omega) b1).2.2
  have ca := hA.hc c (List.mem_of_getElem? (drop_get (by omega) a1).1)
  have cb := hB.hc d (List.mem_of_getElem? (drop_get (by omega) b1).1)
  have kf1 := cnt_le_flat kf
  have cf := Hf.cnt; have cg := Hg.cnt; have nf := Hf.n; have ng := Hg.n
  obtain ⟨F, rfl⟩ : ∃ K, F = K + 1 := ⟨F - 1, by omega⟩
  have hval : rCompare (F + 1) a (p1 + (keyC k).length) b (p2 + (keyC l).length) = some (cmpC c d (kf.cmp kg)) := by
   refine rCmp_val (by omega) (by omega) (by omega) (by omega) a1 b1 Hf.pl Hg.pl (fun e _ => ?_) (fun e e1 => ?_) (pl_kind Hf.pl).1
   ·exact ih kf kg (by omega) F F _ _ _ _ 0 _ none none _ _ c d (at_drop (by omega) a1) (at_drop (by omega) b1) rfl ca.2.2 cb.2.2 Hf.kw (by rw [e]; exact Hg.kw) a2 b2 (by omega) (by omega) (by omega) (by omega) (Int.le_refl 0) (by omega) (by omega)
   ·obtain ⟨q1, q2⟩ := (pl_kind Hf.pl).2 e1
    obtain ⟨q3, q4⟩ := (pl_kind Hg.pl).2 (by rw [← e]; exact e1)
    exact ⟨cmp_nil (.inl (cnt_zero (by omega))), q2, q4, q1, q3⟩
  obtain ⟨f1, o1, w1, e1⟩ := hd_one hf hwf
  obtain ⟨g1, o2, w2, e2⟩ := hd_one hg hwg
  have na := hA.next (F := F + 1) (by omega) (p := p1 + (keyC k).length) (by omega) (by omega)
  have nb := hB.next (F := F + 1) (by omega) (p := p2 + (keyC l).length) (by omega) (by omega)
  rw [nxt_of o1 w1 (by rw [a1, e1]; rfl), e1] at na
  rw [nxt_of o2 w2 (by rw [b1, e2]; rfl), e2] at nb
  have hb := rCmp_body hpc hpd hm (x := x) (by omega) (by omega) hx hcN h1 h2 a5 b5 (by omega) (by omega) Hf.key Hg.key a4 b4 hval na nb
  rw [cmp_hd hf hg, ← thenI_assoc (cmpKey k l), thenI_assoc (thenI (cmpKey k l) _)]
  cases hz : decide (thenI (cmpKey k l) (cmpC c d (kf.cmp kg)) = 0) with
  | true =>
   rw [hz] at hb
   simp only [cond_true] at hb
   rw [thenI_z hz]
   obtain ⟨o, ho1, ho2⟩ := ih r s (by omega) (F + 1) L i j _ _ (x + 1) m k l ys zs pc pd hpc hpd hm hcN hdN Hf.rest Hg.rest a3 b3 (by omega) (by omega) (by omega) (by omega) (by omega) (by omega) (by omega)
   exact ⟨o, lop_n hb ho1, ho2⟩
  | false =>
   rw [hz] at hb
   simp only [cond_false] at hb
   exact ⟨.ret _, lop_o hb, by rw [oute_ret, thenI_nz hz]⟩
theorem rCompare_eq (hA : CkA M a) (hB : CkA M b) {f g : Fo} (hf : f.one = true) (hg : g.one = true) (wf : f.wf false none = true) (wg : g.wf false none = true) (ea : a = f.flat) (eb : b = g.flat) {F : Nat} (hF : 5 * M + 10 < F) : rCompare F a 0 b 0 = some (f.cmp g) := by
 have hM := hA.hM; have hvA := hA.hv; have hvB := hB.hv
 rcases hd_ok wf with h | ⟨k, c, kf, r, hdf, Hf⟩
 ·subst h; cases hf
 rcases hd_ok wg with h | ⟨l, d, kg, s, hdg, Hg⟩
 ·subst h; cases hg
 have cf := Hf.cnt; have cg := Hg.cnt
 rw [one_cnt hf] at cf
 rw [one_cnt hg] at cg
 obtain rfl := cnt_zero (f := r) (by omega)
 obtain rfl := cnt_zero (f := s) (by omega)
 have hk : k = none := by
  have := Hf.key
  cases k with
  | none => rfl
  | some _ => simp [keyOk] at this
 have hl : l = none := by
  have := Hg.key
  cases l with
  | none => rfl
  | some _ => simp [keyOk] at this
 subst hk; subst hl
 have hd1 : a.drop (0 : Int).toNat = f.flat ++ [] := by rw [ea]; simp
 have hd2 : b.drop (0 : Int).toNat = g.flat ++ [] := by rw [eb]; simp
 obtain ⟨a1, a2, a3, a4, a5⟩ := Hf.drop (Int.le_refl 0) hd1
 obtain ⟨b1, b2, b3, b4, b5⟩ := Hg.drop (Int.le_refl 0) hd2
 simp only [keyC, List.length_nil, Int.natCast_zero, Int.add_zero] at a1 a2 b1 b2
 have lf := congrArg List.length Hf.flat
 have lg := congrArg List.length Hg.flat
 simp only [List.length_append, List.length_cons] at lf lg
 rw [← ea] at lf
 rw [← eb] at lg
 have ca := hA.hc c (List.mem_of_getElem? (drop_get (Int.le_refl 0) a1).1)
 have cb := hB.hc d (List.mem_of_getElem? (drop_get (Int.le_refl 0) b1).1)
 have kf1 := cnt_le_flat kf
 have nf := Hf.n; have ng := Hg.n
 obtain ⟨F, rfl⟩ : ∃ K, F = K + 1 := ⟨F - 1, by omega⟩
 rw [cmp_hd hdf hdg, show (Fo.nil.cmp Fo.nil) = 0 from rfl, thenI_0, show cmpKey none none = 0 from rfl, thenI_zero]
 refine rCmp_val (Int.le_refl 0) (Int.le_refl 0) (by omega) (by omega) a1 b1 Hf.pl Hg.pl (fun e _ => ?_) (fun e e1 => ?_) (pl_kind Hf.pl).1
 ·exact rCmp_forest hA hB (kf.flat.length + kg.flat.length + 1) kf kg (by omega) F F _ _ _ _ 0 _ none none _ _ c d (at_drop (Int.le_refl 0) a1) (at_drop (Int.le_refl 0) b1) rfl ca.2.2 cb.2.2 Hf.kw (by rw [e]; exact Hg.kw) a2 b2 (by omega) (by omega) (by omega) (by omega) (Int.le_refl 0) (by omega) (by omega)
 ·obtain ⟨q1, q2⟩ := (pl_kind Hf.pl).2 e1
  obtain ⟨q3, q4⟩ := (pl_kind Hg.pl).2 (by rw [← e]; exact e1)
  exact ⟨cmp_nil (.inl (cnt_zero (by omega))), q2, q4, q1, q3⟩
def cmpV (a b : List TApiCell) : Int := bif decide (errV a = 0) && decide (errV b = 0) then (match whole a, whole b with
 | some f, some g => f.cmp g
 | _, _ => 0) else 0
theorem rCmp_eq (hA : CkA M a) (hB : CkA M b) (hM : M ≤ 1000000) {F : Nat} (hF : 5 * M + 10 < F) : rCmp F a b = some (cmpV a b) := by
 unfold rCmp cmpV
 rw [rCheck_eq hA hM (by omega), rCheck_eq hB hM (by omega)]
 have key : errV a = 0 → errV b = 0 → rCompare F a 0 b 0 = some (match whole a, whole b with
  | some f, some g => f.cmp g
  | _, _ => 0) := fun h1 h2 => by
  unfold errV at h1 h2
  cases hwa : whole a with
  | none => rw [hwa] at h1; cases h1
  | some f =>
   cases hwb : whole b with
   | none => rw [hwb] at h2; cases h2
   | some g =>
    obtain ⟨x1, x2, x3⟩ := whole_some hwa
    obtain ⟨y1, y2, y3⟩ := whole_some hwb
    exact rCompare_eq hA hB x3 y3 x2 y2 x1 y1 hF
 simp only [ov_some, Option.isSome_some, imp_tt, chk_t]
 by_cases h1 : errV a = 0
 ·by_cases h2 : errV b = 0
  ·rw [cnd_ff (by simp [h1, h2]), key h1 h2, obn_s rfl, decide_eq_true h1, decide_eq_true h2]; rfl
  ·rw [cnd_tt (by simp [h2]), decide_eq_false h2, Bool.and_false]; rfl
 ·rw [cnd_tt (by simp [h1]), decide_eq_false h1]; rfl
end
end Go.Proofs.YtkalifgebccpcaaGreatDoor

/-
 The parts of a list or a map, one after the other: what value.parts does with any yield. Plain laws.
-/
namespace Go.Proofs.YtkalifgebccpcaaGreatDoor
open Go Go.RowKit
set_option linter.unusedVariables false
set_option linter.unusedSimpArgs false
theorem lop_none {S O : Type} {body : S → Option (Stp S O)} {n : Nat} {s : S} (h : body s = none) : lop body (n + 1) s = none := by rw [lop, h]
theorem lop_nx {S O : Type} {body : S → Option (Stp S O)} {n : Nat} {s s' : S} (h : body s = some (.next s')) : lop body (n + 1) s = lop body n s' := by rw [lop, h]
section
variable {S : Type}
def pB (F : Nat) (v : List TApiCell) (Y : Str → List TApiCell → S → Option (Bool × S)) (p x : Int) (s : S) : Option (Stp (Int × Int × S) (Out S S)) :=
 cnd (decide (x < ((at' v 0).fN))) (cnd (decide (((at' v 0).fKind) = 6)) (chk (inR p (v.length : Int)) <| chk (inK .i64 (p + 1)) <| chk (inC (p + 1) (v.length : Int)) <| obn (vLook F (List.drop (Int.toNat (p + 1)) v)) fun q => chk (inK .i64 ((p + 1) + q.1)) <| chk (inC (p + 1) ((p + 1) + q.1)) <| chk (inC ((p + 1) + q.1) (v.length : Int)) <| obn (Y ((at' v p).fStr) (List.take (Int.toNat ((p + 1) + q.1) - Int.toNat (p + 1)) (List.drop (Int.toNat (p + 1)) v)) s) fun r => cnd (!r.1) (some (.out (.ret r.2))) (chk (inK .i64 (x + 1)) <| some (.next ((p + 1) + q.1, x + 1, r.2)))) (chk (inC p (v.length : Int)) <| obn (vLook F (List.drop (Int.toNat p) v)) fun q => chk (inK .i64 (p + q.1)) <| chk (inC p (p + q.1)) <| chk (inC (p + q.1) (v.length : Int)) <| obn (Y ([] : Str) (List.take (Int.toNat (p + q.1) - Int.toNat p) (List.drop (Int.toNat p) v)) s) fun r => cnd (!r.1) (some (.out (.ret r.2))) (chk (inK .i64 (x + 1)) <| some (.next (p + q.1, x + 1, r.2))))) (some (.out (.go s)))
def keyS : Option Str → Str
 | none => []
 | some s => s
def onY {T : Type} (y : Option (Bool × S)) (go : S → Option T) (stop : S → Option T) : Option T := match y with
 | none => none
 | some (b, s) => bif b then go s else stop s
theorem onY_some {T : Type} {y : Option (Bool × S)} {go : S → Option T} {stop : S → Option T} {b : Bool} {s : S} (h : y = some (b, s)) : onY y go stop = bif b then go s else stop s := by subst h; rfl
def fparts (Y : Str → List TApiCell → S → Option (Bool × S)) : Fo → S → Option (Out S S)
 | .nil, s => some (.go s)
 | .cell k c r, s => onY (Y (keyS k) [c] s) (fparts Y r) (fun s => some (.ret s))
 | .node k c kids r, s => onY (Y (keyS k) (c :: kids.flat) s) (fparts Y r) (fun s => some (.ret s))
variable {Y : Str → List TApiCell → S → Option (Bool × S)}
theorem fparts_hd {f kids r : Fo} {k : Option Str} {c : TApiCell} {s : S} (h : f.hd = some (k, c, kids, r)) : fparts Y f s = onY (Y (keyS k) (c :: kids.flat) s) (fparts Y r) (fun s => some (.ret s)) := by
 cases f <;> simp [Fo.hd] at h <;> obtain ⟨rfl, rfl, rfl, rfl⟩ := h <;> simp [fparts, Fo.flat]
section
variable {M : Nat} {v : List TApiCell}
theorem pB_round {F : Nat} {c : TApiCell} {p x : Int} {s : S} {k last : Option Str} {f1 : Fo} {ys : List TApiCell} (hA : CkA M v) (hF : M < F) (hpc : at' v 0 = c) (hx : x < c.fN) (hx0 : 0 ≤ x) (hcN : c.fN ≤ 9223372036854775807) (h0 : 0 ≤ p) (hk : keyOk (decide (c.fKind = 6)) last k = true)
  (hd : v.drop p.toNat = keyC k ++ (f1.flat ++ ys)) (h1 : f1.one = true) (hw : f1.wf false none = true) :
  pB F v Y p x s = onY (Y (keyS k) f1.flat s) (fun s' => some (.next (p + (keyC k).length + f1.flat.length, x + 1, s'))) (fun s' => some (.out (.ret s'))) := by
 have hM := hA.hM; have hvM := hA.hv
 have hd1 := drop_app h0 hd
 have hkl := key_len hk
 have hfl := one_flat h1
 have hll : (v.drop (p + (keyC k).length).toNat).length = f1.flat.length + ys.length := by rw [hd1]; simp
 rw [List.length_drop] at hll
 have hlook : vLook F (v.drop (p + (keyC k).length).toNat) = some ((f1.flat.length : Int), f1.sh 0 sh0, true) := look_val ((hA.drop _).lk hF) h1 hw hd1
 have htake : List.take (Int.toNat (p + (keyC k).length + (f1.flat.length : Int)) - Int.toNat (p + (keyC k).length)) (v.drop (p + (keyC k).length).toNat) = f1.flat := by
  rw [hd1, show Int.toNat (p + (keyC k).length + (f1.flat.length : Int)) - Int.toNat (p + (keyC k).length) = f1.flat.length from by omega, List.take_left]
 have hmono : 0 ≤ p + (keyC k).length + f1.flat.length := by omega
 have fin : ∀ (y : Option (Bool × S)) (q : Int), (obn y fun r => cnd (!r.1) (some (Stp.out (Out.ret r.2))) (chk (inK .i64 (x + 1)) <| some (.next (q, x + 1, r.2)))) = onY y (fun s' => some (.next (q, x + 1, s'))) (fun s' => some (Stp.out (Out.ret (V := S) s'))) := fun y q => by
  cases y with
  | none => rfl
  | some r =>
   obtain ⟨b, s'⟩ := r
   rw [obn_s rfl, onY_some rfl]
   cases b with
   | false => rfl
   | true => rw [cnd_ff (p := !true) rfl, chk_i64 (by omega) (by omega)]; rfl
 unfold pB
 rw [hpc, cnd_tt (decide_eq_true hx)]
 cases hm : decide (c.fKind = 6) with
 | true =>
  rw [hm] at hk hkl
  cases k with
  | none => simp [keyOk] at hk
  | some t =>
   have e1 : ((keyC (some t)).length : Int) = 1 := rfl
   rw [e1] at hlook htake hll hmono ⊢
   have hats : (at' v p).fStr = t := by
    have : v.drop p.toNat = ⟨4, 0, t, 0⟩ :: (f1.flat ++ ys) := by simpa [keyC] using hd
    rw [at_drop h0 this]
   have hin : p < v.length := by omega
   rw [cnd_tt rfl, chk_inR h0 hin, chk_i64 (by omega) (by omega), chk_inC (by omega) (by omega), hlook, obn_s rfl, chk_i64 (by omega) (by omega), chk_inC (by omega) (by omega), chk_inC (by omega) (by omega), htake, hats, fin]; rfl
 | false =>
  rw [hm] at hk hkl
  cases k with
  | some t => simp [keyOk] at hk
  | none =>
   have e1 : ((keyC none).length : Int) = 0 := rfl
   rw [e1, Int.add_zero] at hlook htake hll hmono ⊢
   rw [cnd_ff rfl, chk_inC (by omega) (by omega), hlook, obn_s rfl, chk_i64 (by omega) (by omega), chk_inC (by omega) (by omega), chk_inC (by omega) (by omega), htake, fin]; rfl
theorem pB_forest {F : Nat} {c : TApiCell} (hA : CkA M v) (hF : M < F) (hpc : at' v 0 = c) (hcN : c.fN ≤ 9223372036854775807) : ∀ (n : Nat) (f : Fo) (L : Nat) (p x : Int) (s : S) (last : Option Str) (ys : List TApiCell), f.flat.length < n → f.wf (decide (c.fKind = 6)) last = true → v.drop p.toNat = f.flat ++ ys → 0 ≤ p → c.fN = x + f.cnt → 0 ≤ x → f.cnt < L →
  lop (fun σ => pB F v Y σ.1 σ.2.1 σ.2.2) L (p, x, s) = fparts Y f s := by
 intro n
 induction n with
 | zero => intro f L p x s last ys h; omega
 | succ n ih =>
  intro f L p x s last ys hn hw hd h0 hN hx hL
  obtain ⟨L, rfl⟩ : ∃ K, L = K + 1 := ⟨L - 1, by omega⟩
  rcases hd_ok hw with rfl | ⟨k, d, kf, r, hf, Hf⟩
  ·have hx' : ¬ x < c.fN := by simp only [Fo.cnt] at hN; omega
   refine lop_o ?_
   show pB F v Y p x s = _
   unfold pB
   rw [hpc, cnd_ff (decide_eq_false hx')]
  ·obtain ⟨a1, a2, a3, a4, a5⟩ := Hf.drop h0 hd
   obtain ⟨f1, o1, w1, e1⟩ := hd_one hf hw
   have cf := Hf.cnt
   have lf := congrArg List.length Hf.flat
   simp only [List.length_append, List.length_cons] at lf
   have hd2 : v.drop p.toNat = keyC k ++ (f1.flat ++ (r.flat ++ ys)) := by rw [hd, Hf.flat, e1]; simp
   have hb := pB_round (Y := Y) (s := s) hA hF hpc (x := x) (by omega) hx hcN h0 Hf.key hd2 o1 w1
   rw [fparts_hd hf]
   cases hy : Y (keyS k) (d :: kf.flat) s with
   | none =>
    rw [e1, hy] at hb
    exact lop_none hb
   | some q =>
    obtain ⟨b, s'⟩ := q
    rw [e1, hy] at hb
    cases b with
    | false => exact lop_o hb
    | true => exact (lop_nx hb).trans (ih r L _ (x + 1) s' k ys (by omega) Hf.rest a3 (by omega) (by omega) (by omega) (by omega))
theorem pB_whole {F : Nat} {c : TApiCell} {f : Fo} (hA : CkA M v) (hF : M < F) (hv : v = c :: f.flat) (hn : c.fN = f.cnt) (hw : f.wf (decide (c.fKind = 6)) none = true) (s : S) : lop (fun σ => pB F v Y σ.1 σ.2.1 σ.2.2) F (1, 0, s) = fparts Y f s := by
 have hvM := hA.hv
 have hl : v.length = f.flat.length + 1 := by rw [hv]; simp
 have hcf := cnt_le_flat f
 exact pB_forest hA hF (by rw [hv]; rfl) (hA.hc c (by rw [hv]; simp)).2.2 (f.flat.length + 1) f F 1 0 s none [] (by omega) hw (by rw [hv]; simp) (by decide) (by omega) (Int.le_refl 0) (by omega)
end
end
end Go.Proofs.YtkalifgebccpcaaGreatDoor
