/-
  Texts of the proof, put together: WVc, PVd, WVd, PVe, WVe, PVf, WVf, PVg, QU, QT, WVg, PVh, QN.
-/
import Derived.Test.YtkalifgebccpcaaDoorMR2
import Derived.Laws.StructEq
import Derived.Laws.Cover3
/-
  Walks, printed by a small program of ours (gq.py).
-/
namespace Go.Proofs.YtkalifgebccpcaaDoor.Q
open Go Go.RowKit
set_option linter.unusedVariables false
set_option linter.unusedSimpArgs false
set_option maxRecDepth 100000
set_option maxHeartbeats 4000000
theorem vQuote_w (F : Nat) (b_l : Nat) (v_l : Value) (l : Str) (s : Str) (r : Str) (h : vQuote F l s = some r) : Fn Tryd.prog GE 41 [rv (.pointer (some ⟨b_l, 0, none⟩)), rS s] [.bld 50 5 b_l v_l l] (fun R H => ∃ w0b : Value, R = rv (.tuple #[]) ∧ H = [.bld 50 5 b_l w0b r]) := by
 refine enter (n := 32) Tryd.func41 rfl Tryd.ntmps41 rfl (fun w Z => ?_)
 refine wc_as (l' := [(0, rv (.pointer (some ⟨b_l, 0, none⟩))), (1, rS s)]) (H' := [.bld 50 5 b_l v_l l]) rfl rfl ?_
 unfold vQuote at h
 refine wc_sr ?_
 refine wm rfl ?_
 obtain ⟨g1, h2⟩ := chk_e h
 obtain ⟨g3, h4⟩ := chk_e h2
 refine w_call (rs := [rv (.pointer (some ⟨b_l, 0, none⟩)), rI .u8 34]) (Hin := [.bld 50 5 b_l v_l l]) (Hr := []) Tryd.call42 rfl (List.Perm.refl _) (writeByte_q b_l v_l l 34 g1 g3) rfl ?_
 rintro _ _ ⟨v5, rfl, rfl⟩
 obtain ⟨r6, e8, h7⟩ := bnd_e h4
 rw [← e8]
 refine wl_x ?_
 refine wc_seq ?_
 refine wc_sr ?_
 refine wm rfl ?_
 refine wv (o_len_s Tryd.underlying9 rfl) ?_
 refine wv (r := rI .i64 0) (o_move rfl) ?_
 refine wl_x ?_
 refine wc_block ?_
 obtain ⟨o124, eo125, hK126⟩ := obn_e h7
 refine wc_loop2 (S := Nat × (Int × Str) × (Value)) (V := (Str) × (Value)) 0 (fun σ => lop (fun σ => vQuote_b1 s σ.1 σ.2) σ.1 σ.2.1 = some o124) (fun σ => [(0, rv (.pointer (some ⟨b_l, 0, none⟩))), (1, rS s), (8, rI .i64 (s.length : Int)), (9, rI .i64 σ.2.1.1)]) (fun σ => [.bld 50 5 b_l σ.2.2 σ.2.1.2]) (fun σ => σ.1) (F, (0, r6), v5) eo125 (Sub.c rfl (Sub.c rfl (Sub.c rfl (Sub.c rfl Sub.nil)))) (sC sN) (fun σ => vQuote_k1 σ.1 = some r) (fun σ => [(0, rv (.pointer (some ⟨b_l, 0, none⟩)))]) (fun σ => [.bld 50 5 b_l σ.2 σ.1]) ?_ ?_
 ·rintro ⟨n132, ⟨x82, x83⟩, v84⟩ hi130
  refine wc_as (l' := [(0, rv (.pointer (some ⟨b_l, 0, none⟩))), (1, rS s), (8, rI .i64 (s.length : Int)), (9, rI .i64 x82)]) (H' := [.bld 50 5 b_l v84 x83]) rfl rfl ?_
  obtain ⟨m129, rfl, t127, h131, ht128⟩ := lop_e hi130
  replace h131 : vQuote_b1 s x82 x83 = some t127 := h131
  unfold vQuote_b1 at h131
  refine wc_sr ?_
  refine wv (o_lt rfl rfl) ?_
  refine wl_x ?_
  refine wc_seq ?_
  refine wc_cond (b := decide (x82 < (s.length : Int))) rfl (fun c133 => ?_) (fun c133 => ?_)
  ·have h134 := cnd_t c133 h131
   refine wc_skip ?_
   refine wk_x ?_
   refine wc_seq ?_
   refine wc_block ?_
   refine wc_sr ?_
   refine wm rfl ?_
   refine wa rfl ?_
   refine wl_x ?_
   refine wc_seq ?_
   obtain ⟨g135, h136⟩ := chk_e h134
   refine wc_seq_mid [(0, rv (.pointer (some ⟨b_l, 0, none⟩))), (1, rS s), (4, rI .i64 x82), (8, rI .i64 (s.length : Int)), (9, rI .i64 x82), (21, rB ((decide ((bat s x82) = 34)) || (decide ((bat s x82) = 92))))] [.bld 50 5 b_l v84 x83] ?_ ?_
   ·refine wc_region ?_
    refine wm rfl ?_
    refine wm rfl ?_
    refine wv (o_index_b Tryd.underlying9 rfl rfl g135) ?_
    refine wv (o_eq rfl rfl) ?_
    refine wm rfl ?_
    refine bsplit (decide ((bat s x82) = 34)) (fun c137 => ?_) (fun c137 => ?_)
    ·refine wf c137 ?_
     refine wf c137 ?_
     refine wf c137 ?_
     refine wf c137 ?_
     refine wv (r := rB true) (o_pick_t (b := decide ((bat s x82) = 34)) rfl c137 rfl) ?_
     refine wl_nil ?_
     exact wtc c137
    ·refine wo c137 ?_
     refine wm rfl ?_
     refine wo c137 ?_
     refine wm rfl ?_
     refine wo c137 ?_
     refine wv (o_index_b Tryd.underlying9 rfl rfl g135) ?_
     refine wo c137 ?_
     refine wv (o_eq rfl rfl) ?_
     refine wpf rfl c137 rfl ?_
     refine wl_nil ?_
     exact wtc c137
   refine wc_cond (b := ((decide ((bat s x82) = 34)) || (decide ((bat s x82) = 92)))) rfl (fun c138 => ?_) (fun c138 => ?_)
   ·have h139 := cnd_t c138 h136
    refine wc_region ?_
    refine wm rfl ?_
    obtain ⟨g140, h141⟩ := chk_e h139
    obtain ⟨g142, h143⟩ := chk_e h141
    refine w_call (rs := [rv (.pointer (some ⟨b_l, 0, none⟩)), rI .u8 92]) (Hin := [.bld 50 5 b_l v84 x83]) (Hr := []) Tryd.call42 rfl (List.Perm.refl _) (writeByte_q b_l v84 x83 92 g140 g142) rfl ?_
    rintro _ _ ⟨v144, rfl, rfl⟩
    obtain ⟨r145, e147, h146⟩ := bnd_e h143
    rw [← e147]
    refine wl_x ?_
    refine wc_region ?_
    refine wm rfl ?_
    refine wm rfl ?_
    refine wm rfl ?_
    refine wv (o_index_b Tryd.underlying9 rfl rfl g135) ?_
    obtain ⟨g148, h149⟩ := chk_e h146
    obtain ⟨g150, h151⟩ := chk_e h149
    refine w_call (rs := [rv (.pointer (some ⟨b_l, 0, none⟩)), rI .u8 (bat s x82)]) (Hin := [.bld 50 5 b_l v144 r145]) (Hr := []) Tryd.call42 rfl (List.Perm.refl _) (writeByte_q b_l v144 r145 (bat s x82) g148 g150) rfl ?_
    rintro _ _ ⟨v152, rfl, rfl⟩
    obtain ⟨r153, e155, h154⟩ := bnd_e h151
    rw [← e155]
    refine wl_nil ?_
    refine wk_in_norm ?_
    refine wk_x ?_
    refine wc_region ?_
    obtain ⟨g156, h157⟩ := chk_e h154
    refine wv (o_add rfl rfl g156) ?_
    refine wm rfl ?_
    refine wl_nil ?_
    have h158 := stp_next h157 ht128
    exact wk_then (wk_some (m129, (x82 + 1, r153), v152) ⟨h158, Nat.lt_succ_self _⟩ (Sub.c rfl (Sub.c rfl (Sub.c rfl (Sub.c rfl Sub.nil)))) (sC sN))
   ·have h159 := cnd_f c138 h136
    refine wc_skip ?_
    refine wk_x ?_
    refine wc_region ?_
    refine wm rfl ?_
    refine wm rfl ?_
    refine wm rfl ?_
    refine wv (o_index_b Tryd.underlying9 rfl rfl g135) ?_
    obtain ⟨g160, h161⟩ := chk_e h159
    obtain ⟨g162, h163⟩ := chk_e h161
    refine w_call (rs := [rv (.pointer (some ⟨b_l, 0, none⟩)), rI .u8 (bat s x82)]) (Hin := [.bld 50 5 b_l v84 x83]) (Hr := []) Tryd.call42 rfl (List.Perm.refl _) (writeByte_q b_l v84 x83 (bat s x82) g160 g162) rfl ?_
    rintro _ _ ⟨v164, rfl, rfl⟩
    obtain ⟨r165, e167, h166⟩ := bnd_e h163
    rw [← e167]
    refine wl_nil ?_
    refine wk_in_norm ?_
    refine wk_x ?_
    refine wc_region ?_
    obtain ⟨g168, h169⟩ := chk_e h166
    refine wv (o_add rfl rfl g168) ?_
    refine wm rfl ?_
    refine wl_nil ?_
    have h170 := stp_next h169 ht128
    exact wk_then (wk_some (m129, (x82 + 1, r165), v164) ⟨h170, Nat.lt_succ_self _⟩ (Sub.c rfl (Sub.c rfl (Sub.c rfl (Sub.c rfl Sub.nil)))) (sC sN))
  ·have h171 := cnd_f c133 h131
   refine wc_exit ?_
   refine wk_then_exit ?_
   have h172 := stp_go h171 ht128 hK126
   exact wk_then_exit (wk_cut_hit (wk_some (x83, v84) h172 (Sub.c rfl Sub.nil) (sC sN)))
 ·rintro ⟨x122, v123⟩ h173
  refine wk_as (l' := [(0, rv (.pointer (some ⟨b_l, 0, none⟩)))]) (H' := [.bld 50 5 b_l v123 x122]) rfl rfl ?_
  replace h173 : vQuote_k1 x122 = some r := h173
  unfold vQuote_k1 at h173
  refine wk_in_hit ?_
  refine wk_x ?_
  refine wc_region ?_
  refine wm rfl ?_
  obtain ⟨g174, h175⟩ := chk_e h173
  refine w_call (rs := [rv (.pointer (some ⟨b_l, 0, none⟩)), rI .u8 34]) (Hin := [.bld 50 5 b_l v123 x122]) (Hr := []) Tryd.call42 rfl (List.Perm.refl _) (writeByte_q b_l v123 x122 34 g174 g3) rfl ?_
  rintro _ _ ⟨v176, rfl, rfl⟩
  obtain ⟨r177, e179, h178⟩ := bnd_e h175
  rw [← e179]
  refine wl_nil ?_
  obtain rfl := some_e h178
  exact wk_end (r_0 Tryd.results41) (sC sN) ⟨v176, rfl, rfl⟩

theorem vWritem_w (F : Nat) (rec_vWriteF : Str → (List TApiCell) → Bool → Str → TApiCell → Option (Bool × Bool × Str)) (rec_vWriteP : (List TApiCell) → Bool → Str → TApiCell → Option (Bool × Str)) (ih_vWriteF : (∀ (b_first : Nat) (bx_l : Nat) (b_l : Nat) (v_l : Value) (b_c : Nat) (key : Str) (x : (List TApiCell)) (first : Bool) (l : Str) (c : TApiCell) (r : Bool × Bool × Str), rec_vWriteF key x first l c = some r → Fn Tryd.prog GE 43 [rS key, rSl 4 (List.map eTApiCell x), rv (.pointer (some ⟨b_first, 0, none⟩)), rv (.pointer (some ⟨bx_l, 0, none⟩)), rv (.pointer (some ⟨b_c, 0, none⟩))] [.blk b_first [rB first] 4, .blk bx_l [rv (.pointer (some ⟨b_l, 0, none⟩))] 47, .bld 50 5 b_l v_l l, .blk b_c (eTApiCell c) 40] (fun R H => ∃ w3b : Value, R = rB r.1 ∧ H = [.blk b_first [rB r.2.1] 4, .blk bx_l [rv (.pointer (some ⟨b_l, 0, none⟩))] 47, .bld 50 5 b_l w3b r.2.2, .blk b_c (eTApiCell c) 40]))) (ih_vWriteP : (∀ (b_first : Nat) (bx_l : Nat) (b_l : Nat) (v_l : Value) (b_c : Nat) (v : (List TApiCell)) (first : Bool) (l : Str) (c : TApiCell) (r : Bool × Str), rec_vWriteP v first l c = some r → Fn Tryd.prog GE 35 [rSl 4 (List.map eTApiCell v), rv (.func (.func 43) #[] #[(.pointer (some ⟨b_first, 0, none⟩)), (.pointer (some ⟨bx_l, 0, none⟩)), (.pointer (some ⟨b_c, 0, none⟩))])] [.blk b_first [rB first] 4, .blk bx_l [rv (.pointer (some ⟨b_l, 0, none⟩))] 47, .bld 50 5 b_l v_l l, .blk b_c (eTApiCell c) 40] (fun R H => ∃ w1_1b : Value, R = rv (.tuple #[]) ∧ H = [.blk b_first [rB r.1] 4, .blk bx_l [rv (.pointer (some ⟨b_l, 0, none⟩))] 47, .bld 50 5 b_l w1_1b r.2, .blk b_c (eTApiCell c) 40]))) (b_l : Nat) (v_l : Value) (l : Str) (v : (List TApiCell)) (r : Str) (h : vWritem F rec_vWriteF rec_vWriteP l v = some r) : Fn Tryd.prog GE 24 [rv (.pointer (some ⟨b_l, 0, none⟩)), rSl 4 (List.map eTApiCell v)] [.bld 50 5 b_l v_l l] (fun R H => ∃ w0b : Value, R = rv (.tuple #[]) ∧ H = [.bld 50 5 b_l w0b r]) := by
 refine enter (n := 52) Tryd.func24 rfl Tryd.ntmps24 rfl (fun w Z => ?_)
 refine wc_as (l' := [(0, rv (.pointer (some ⟨b_l, 0, none⟩))), (1, rSl 4 (List.map eTApiCell v))]) (H' := [.bld 50 5 b_l v_l l]) rfl rfl ?_
 unfold vWritem at h
 refine wc_sr ?_
 refine w_box rfl (one_c rfl) rfl (fun b1 => ?_)
 refine wl_y ?_
 refine wm rfl ?_
 obtain ⟨g2, h3⟩ := chk_e h
 refine wv (o_ix_z (enc := eTApiCell) (ys := v) Tryd.underlying22 Tryd.sizeOf40 rfl rfl g2) ?_
 refine wv (o_load_za Tryd.isAgg40 Tryd.sizeOf40 rfl rfl rfl) ?_
 refine w_alloc (cs := [rI .i64 0, rI .i64 0, rS ([] : Str), rI .i64 0]) Tryd.zeroValue40 rfl rfl (fun b4 => ?_)
 refine u_store_agg (i := 0) Tryd.sizeOf40 rfl rfl rfl (OneAll.c rfl) rfl rfl (cs' := [rI .i64 ((at' v 0).fKind), rI .i64 ((at' v 0).fInt), rS ((at' v 0).fStr), rI .i64 ((at' v 0).fN)]) rfl (H' := [.blk b4 (eTApiCell (at' v 0)) 40, .blk b1 [rv (.pointer (some ⟨b_l, 0, none⟩))] 47, .bld 50 5 b_l v_l l]) rfl ?_
 refine wl_y ?_
 refine wv (o_fieldAddr Tryd.underlying40 rfl Tryd.sizeOf38 rfl rfl) ?_
 refine wv (o_load (i := 0) Tryd.isAgg38 rfl rfl rfl) ?_
 refine wl_x ?_
 refine wc_block ?_
 refine wc_sr ?_
 refine wv (o_eq rfl rfl) ?_
 refine wa rfl ?_
 refine wl_x ?_
 refine wc_cond (b := decide (((at' v 0).fKind) = 1)) rfl (fun c5 => ?_) (fun c5 => ?_)
 ·have h6 := cnd_t c5 h3
  refine wc_region ?_
  refine wv (o_load (i := 1) Tryd.isAgg47 rfl rfl rfl) ?_
  obtain ⟨g7, h8⟩ := chk_e h6
  refine w_call (rs := [rv (.pointer (some ⟨b_l, 0, none⟩)), rS ([110, 117, 108, 108] : Str)]) (Hin := [.bld 50 5 b_l v_l l]) (Hr := [.blk b4 (eTApiCell (at' v 0)) 40, .blk b1 [rv (.pointer (some ⟨b_l, 0, none⟩))] 47]) Tryd.call39 rfl ((perm_front (i := 2) rfl).trans (List.Perm.cons _ (List.Perm.refl _))) (writeString_q b_l v_l l ([110, 117, 108, 108] : Str) g7) rfl ?_
  rintro _ _ ⟨v9, rfl, rfl⟩
  obtain ⟨r10, e12, h11⟩ := bnd_e h8
  rw [← e12]
  refine wl_nil ?_
  refine wk_in_norm ?_
  obtain rfl := some_e h11
  exact wk_end (r_0 Tryd.results24) (sC (sS (sS sN))) ⟨v9, rfl, rfl⟩
 ·have h13 := cnd_f c5 h3
  refine wc_sr ?_
  refine wv (o_eq rfl rfl) ?_
  refine wa rfl ?_
  refine wl_x ?_
  refine wc_cond (b := decide (((at' v 0).fKind) = 2)) rfl (fun c14 => ?_) (fun c14 => ?_)
  ·have h15 := cnd_t c14 h13
   obtain ⟨g16, h17⟩ := chk_e h15
   refine wc_rdlk (H1 := [.blk b4 (eTApiCell (at' v 0)) 40, .blk b1 [rv (.pointer (some ⟨b_l, 0, none⟩))] 47, .bld 50 5 b_l v_l l]) 6 [2, 4] [⟨[], rv (.pointer (some ⟨b_l, 0, none⟩)), 1⟩, ⟨[], rSl 1 (List.map eS ([([102, 97, 108, 115, 101] : Str), ([116, 114, 117, 101] : Str)] : List Str)), 0⟩, ⟨[], rv (.pointer (some ⟨b4, 1, none⟩)), 0⟩, ⟨[2], rI .i64 ((at' v 0).fInt), 1⟩, ⟨[1, 3], rAt [rS (at' ([([102, 97, 108, 115, 101] : Str), ([116, 114, 117, 101] : Str)] : List Str) ((at' v 0).fInt))], 0⟩, ⟨[4], rS (at' ([([102, 97, 108, 115, 101] : Str), ([116, 114, 117, 101] : Str)] : List Str) ((at' v 0).fInt)), 0⟩] (rle [(7, _)]) [32, 33, 34, 35, 36, 37, 2, 4] ?_ ?_
   ·refine of (o_load (i := 1) Tryd.isAgg47 rfl rfl rfl) ?_
    refine obl_q rfl (fun H => ok_buildSlice (ys := ([([102, 97, 108, 115, 101] : Str), ([116, 114, 117, 101] : Str)] : List Str)) (enc := eS) (css := [[rS ([102, 97, 108, 115, 101] : Str)], [rS ([116, 114, 117, 101] : Str)]]) (xs := [.const (.string ⟨#[102, 97, 108, 115, 101]⟩), .const (.string ⟨#[116, 114, 117, 101]⟩)]) Tryd.underlying46 Tryd.sizeOf9 Tryd.zeroValue9 rfl rfl rfl ⟨Cel.one rfl (Up.refl _), Cel.one rfl (Up.refl _), trivial⟩ rfl eS_len rfl rfl) ?_
    refine oq (o_fieldAddr Tryd.underlying40 rfl Tryd.sizeOf3 rfl rfl) ?_
    refine of (o_load (i := 0) Tryd.isAgg3 rfl rfl rfl) ?_
    refine oq (o_ix_z (enc := eS) (ys := ([([102, 97, 108, 115, 101] : Str), ([116, 114, 117, 101] : Str)] : List Str)) Tryd.underlying46 Tryd.sizeOf9 rfl rfl g16) ?_
    refine oq (o_load_z Tryd.isAgg9 rfl rfl) ?_
    exact obl_e
   obtain ⟨g18, h19⟩ := chk_e h17
   refine w_call (rs := [rv (.pointer (some ⟨b_l, 0, none⟩)), rS (at' ([([102, 97, 108, 115, 101] : Str), ([116, 114, 117, 101] : Str)] : List Str) ((at' v 0).fInt))]) (Hin := [.bld 50 5 b_l v_l l]) (Hr := [.blk b4 (eTApiCell (at' v 0)) 40, .blk b1 [rv (.pointer (some ⟨b_l, 0, none⟩))] 47]) Tryd.call39 rfl ((perm_front (i := 2) rfl).trans (List.Perm.cons _ (List.Perm.refl _))) (writeString_q b_l v_l l (at' ([([102, 97, 108, 115, 101] : Str), ([116, 114, 117, 101] : Str)] : List Str) ((at' v 0).fInt)) g18) rfl ?_
   rintro _ _ ⟨v20, rfl, rfl⟩
   obtain ⟨r21, e23, h22⟩ := bnd_e h19
   rw [← e23]
   refine wl_nil ?_
   refine wk_in_norm ?_
   obtain rfl := some_e h22
   exact wk_end (r_0 Tryd.results24) (sC (sS (sS sN))) ⟨v20, rfl, rfl⟩
  ·have h24 := cnd_f c14 h13
   refine wc_sr ?_
   refine wv (o_eq rfl rfl) ?_
   refine wa rfl ?_
   refine wl_x ?_
   refine wc_cond (b := decide (((at' v 0).fKind) = 3)) rfl (fun c25 => ?_) (fun c25 => ?_)
   ·have h26 := cnd_t c25 h24
    obtain ⟨g27, h28⟩ := chk_e h26
    refine wc_rdlk (H1 := [.blk b4 (eTApiCell (at' v 0)) 40, .blk b1 [rv (.pointer (some ⟨b_l, 0, none⟩))] 47, .bld 50 5 b_l v_l l]) 4 [2, 4] [⟨[], rv (.pointer (some ⟨b_l, 0, none⟩)), 1⟩, ⟨[], rv (.pointer (some ⟨b4, 1, none⟩)), 0⟩, ⟨[1], rI .i64 ((at' v 0).fInt), 1⟩, ⟨[2], rS (Lib.itoa ((at' v 0).fInt)), 0⟩] (rle [(5, _)]) [41, 42, 43, 44, 2, 4] ?_ ?_
    ·refine of (o_load (i := 1) Tryd.isAgg47 rfl rfl rfl) ?_
     refine oq (o_fieldAddr Tryd.underlying40 rfl Tryd.sizeOf3 rfl rfl) ?_
     refine of (o_load (i := 0) Tryd.isAgg3 rfl rfl rfl) ?_
     refine obl_q rfl (fun H => ok_call0 (rs := [rI .i64 ((at' v 0).fInt)]) (r := rS (Lib.itoa ((at' v 0).fInt))) Tryd.call40 rfl (format_q ((at' v 0).fInt) g27) rfl) ?_
     exact obl_e
    obtain ⟨g29, h30⟩ := chk_e h28
    refine w_call (rs := [rv (.pointer (some ⟨b_l, 0, none⟩)), rS (Lib.itoa ((at' v 0).fInt))]) (Hin := [.bld 50 5 b_l v_l l]) (Hr := [.blk b4 (eTApiCell (at' v 0)) 40, .blk b1 [rv (.pointer (some ⟨b_l, 0, none⟩))] 47]) Tryd.call39 rfl ((perm_front (i := 2) rfl).trans (List.Perm.cons _ (List.Perm.refl _))) (writeString_q b_l v_l l (Lib.itoa ((at' v 0).fInt)) g29) rfl ?_
    rintro _ _ ⟨v31, rfl, rfl⟩
    obtain ⟨r32, e34, h33⟩ := bnd_e h30
    rw [← e34]
    refine wl_nil ?_
    refine wk_in_norm ?_
    obtain rfl := some_e h33
    exact wk_end (r_0 Tryd.results24) (sC (sS (sS sN))) ⟨v31, rfl, rfl⟩
   ·have h35 := cnd_f c25 h24
    refine wc_sr ?_
    refine wv (o_eq rfl rfl) ?_
    refine wa rfl ?_
    refine wl_x ?_
    refine wc_cond (b := decide (((at' v 0).fKind) = 4)) rfl (fun c36 => ?_) (fun c36 => ?_)
    ·have h37 := cnd_t c36 h35
     refine wc_region ?_
     refine wv (o_load (i := 1) Tryd.isAgg47 rfl rfl rfl) ?_
     refine wv (o_fieldAddr Tryd.underlying40 rfl Tryd.sizeOf9 rfl rfl) ?_
     refine wv (o_load (i := 0) Tryd.isAgg9 rfl rfl rfl) ?_
     obtain ⟨r38, e40, h39⟩ := obn_e h37
     refine wcl (Hr := [.blk b4 (eTApiCell (at' v 0)) 40, .blk b1 [rv (.pointer (some ⟨b_l, 0, none⟩))] 47]) Tryd.call41 (vQuote_w F b_l v_l l ((at' v 0).fStr) r38 e40) rfl ((perm_front (i := 2) rfl).trans (List.Perm.cons _ (List.Perm.refl _))) rfl ?_
     rintro _ _ ⟨v41, rfl, rfl⟩
     refine wl_nil ?_
     refine wk_in_norm ?_
     obtain rfl := some_e h39
     exact wk_end (r_0 Tryd.results24) (sC (sS (sS sN))) ⟨v41, rfl, rfl⟩
    ·have h42 := cnd_f c36 h35
     refine wc_sr ?_
     refine wv (r := rS ([91, 93] : Str)) (o_assign rfl) ?_
     refine wl_x ?_
     refine wc_seq ?_
     refine wc_sr ?_
     refine wv (o_fieldAddr Tryd.underlying40 rfl Tryd.sizeOf38 rfl rfl) ?_
     refine wv (o_load (i := 0) Tryd.isAgg38 rfl rfl rfl) ?_
     refine wv (o_eq rfl rfl) ?_
     refine wl_x ?_
     refine wc_cond (b := decide (((at' v 0).fKind) = 6)) rfl (fun c43 => ?_) (fun c43 => ?_)
     ·have h44 := cnd_t c43 h42
      refine wc_region ?_
      refine wv (r := rS ([123, 125] : Str)) (o_assign rfl) ?_
      refine wl_x ?_
      refine wc_seq ?_
      obtain ⟨g45, h46⟩ := chk_e h44
      refine wc_rdlk (H1 := [.blk b4 (eTApiCell (at' v 0)) 40, .blk b1 [rv (.pointer (some ⟨b_l, 0, none⟩))] 47, .bld 50 5 b_l v_l l]) 3 [1, 2, 4, 5] [⟨[], rv (.pointer (some ⟨b_l, 0, none⟩)), 1⟩, ⟨[], rS ([123, 125] : Str), 0⟩, ⟨[1], rI .u8 (bat ([123, 125] : Str) 0), 0⟩] (rle [(4, _)]) [15, 16, 17, 1, 2, 4, 5] ?_ ?_
      ·refine of (o_load (i := 1) Tryd.isAgg47 rfl rfl rfl) ?_
       refine oq (o_move rfl) ?_
       refine oq (o_index_b Tryd.underlying9 rfl rfl g45) ?_
       exact obl_e
      obtain ⟨g47, h48⟩ := chk_e h46
      obtain ⟨g49, h50⟩ := chk_e h48
      refine w_call (rs := [rv (.pointer (some ⟨b_l, 0, none⟩)), rI .u8 (bat ([123, 125] : Str) 0)]) (Hin := [.bld 50 5 b_l v_l l]) (Hr := [.blk b4 (eTApiCell (at' v 0)) 40, .blk b1 [rv (.pointer (some ⟨b_l, 0, none⟩))] 47]) Tryd.call42 rfl ((perm_front (i := 2) rfl).trans (List.Perm.cons _ (List.Perm.refl _))) (writeByte_q b_l v_l l (bat ([123, 125] : Str) 0) g47 g49) rfl ?_
      rintro _ _ ⟨v51, rfl, rfl⟩
      obtain ⟨r52, e54, h53⟩ := bnd_e h50
      rw [← e54]
      refine wl_y ?_
      refine w_alloc (cs := [rB false]) Tryd.zeroValue4 rfl rfl (fun b55 => ?_)
      refine u_store (i := 0) Tryd.sizeOf4 rfl rfl (one_c rfl) rfl rfl (cs' := [rB true]) rfl (H' := [.blk b55 [rB true] 4, .bld 50 5 b_l v51 r52, .blk b4 (eTApiCell (at' v 0)) 40, .blk b1 [rv (.pointer (some ⟨b_l, 0, none⟩))] 47]) rfl ?_
      refine wl_y ?_
      refine wm rfl ?_
      refine wv (r := rv (.func (.func 43) #[] #[(.pointer (some ⟨b55, 0, none⟩)), (.pointer (some ⟨b1, 0, none⟩)), (.pointer (some ⟨b4, 0, none⟩))])) (o_makeFunc rfl) ?_
      obtain ⟨r56, e58, h57⟩ := obn_e h53
      refine wcl (Hr := []) Tryd.call35 (ih_vWriteP b55 b1 b_l v51 b4 v true r52 (at' v 0) r56 e58) rfl ((perm_front (i := 0) rfl).trans (List.Perm.cons _ ((perm_front (i := 2) rfl).trans (List.Perm.cons _ (List.Perm.refl _))))) rfl ?_
      rintro _ _ ⟨v59, rfl, rfl⟩
      refine wl_x ?_
      obtain ⟨g60, h61⟩ := chk_e h57
      refine wc_rdlk (H1 := [.blk b55 [rB r56.1] 4, .blk b1 [rv (.pointer (some ⟨b_l, 0, none⟩))] 47, .bld 50 5 b_l v59 r56.2, .blk b4 (eTApiCell (at' v 0)) 40]) 3 [2, 5] [⟨[], rv (.pointer (some ⟨b_l, 0, none⟩)), 1⟩, ⟨[], rS ([123, 125] : Str), 0⟩, ⟨[1], rI .u8 (bat ([123, 125] : Str) 1), 0⟩] (rle [(4, _)]) [22, 23, 24, 2, 5] ?_ ?_
      ·refine of (o_load (i := 1) Tryd.isAgg47 rfl rfl rfl) ?_
       refine oq (o_move rfl) ?_
       refine oq (o_index_b Tryd.underlying9 rfl rfl g60) ?_
       exact obl_e
      obtain ⟨g62, h63⟩ := chk_e h61
      obtain ⟨g64, h65⟩ := chk_e h63
      refine w_call (rs := [rv (.pointer (some ⟨b_l, 0, none⟩)), rI .u8 (bat ([123, 125] : Str) 1)]) (Hin := [.bld 50 5 b_l v59 r56.2]) (Hr := [.blk b55 [rB r56.1] 4, .blk b1 [rv (.pointer (some ⟨b_l, 0, none⟩))] 47, .blk b4 (eTApiCell (at' v 0)) 40]) Tryd.call42 rfl ((perm_front (i := 2) rfl).trans (List.Perm.cons _ (List.Perm.refl _))) (writeByte_q b_l v59 r56.2 (bat ([123, 125] : Str) 1) g62 g64) rfl ?_
      rintro _ _ ⟨v66, rfl, rfl⟩
      obtain ⟨r67, e69, h68⟩ := bnd_e h65
      rw [← e69]
      refine wl_nil ?_
      refine wk_in_norm ?_
      obtain rfl := some_e h68
      exact wk_end (r_0 Tryd.results24) (sC (sS (sS (sS sN)))) ⟨v66, rfl, rfl⟩
     ·have h70 := cnd_f c43 h42
      refine wc_skip ?_
      refine wk_x ?_
      refine wc_seq ?_
      obtain ⟨g71, h72⟩ := chk_e h70
      refine wc_rdlk (H1 := [.blk b4 (eTApiCell (at' v 0)) 40, .blk b1 [rv (.pointer (some ⟨b_l, 0, none⟩))] 47, .bld 50 5 b_l v_l l]) 3 [1, 2, 4, 5] [⟨[], rv (.pointer (some ⟨b_l, 0, none⟩)), 1⟩, ⟨[], rS ([91, 93] : Str), 0⟩, ⟨[1], rI .u8 (bat ([91, 93] : Str) 0), 0⟩] (rle [(4, _)]) [15, 16, 17, 1, 2, 4, 5] ?_ ?_
      ·refine of (o_load (i := 1) Tryd.isAgg47 rfl rfl rfl) ?_
       refine oq (o_move rfl) ?_
       refine oq (o_index_b Tryd.underlying9 rfl rfl g71) ?_
       exact obl_e
      obtain ⟨g73, h74⟩ := chk_e h72
      obtain ⟨g75, h76⟩ := chk_e h74
      refine w_call (rs := [rv (.pointer (some ⟨b_l, 0, none⟩)), rI .u8 (bat ([91, 93] : Str) 0)]) (Hin := [.bld 50 5 b_l v_l l]) (Hr := [.blk b4 (eTApiCell (at' v 0)) 40, .blk b1 [rv (.pointer (some ⟨b_l, 0, none⟩))] 47]) Tryd.call42 rfl ((perm_front (i := 2) rfl).trans (List.Perm.cons _ (List.Perm.refl _))) (writeByte_q b_l v_l l (bat ([91, 93] : Str) 0) g73 g75) rfl ?_
      rintro _ _ ⟨v77, rfl, rfl⟩
      obtain ⟨r78, e80, h79⟩ := bnd_e h76
      rw [← e80]
      refine wl_y ?_
      refine w_alloc (cs := [rB false]) Tryd.zeroValue4 rfl rfl (fun b81 => ?_)
      refine u_store (i := 0) Tryd.sizeOf4 rfl rfl (one_c rfl) rfl rfl (cs' := [rB true]) rfl (H' := [.blk b81 [rB true] 4, .bld 50 5 b_l v77 r78, .blk b4 (eTApiCell (at' v 0)) 40, .blk b1 [rv (.pointer (some ⟨b_l, 0, none⟩))] 47]) rfl ?_
      refine wl_y ?_
      refine wm rfl ?_
      refine wv (r := rv (.func (.func 43) #[] #[(.pointer (some ⟨b81, 0, none⟩)), (.pointer (some ⟨b1, 0, none⟩)), (.pointer (some ⟨b4, 0, none⟩))])) (o_makeFunc rfl) ?_
      obtain ⟨r82, e84, h83⟩ := obn_e h79
      refine wcl (Hr := []) Tryd.call35 (ih_vWriteP b81 b1 b_l v77 b4 v true r78 (at' v 0) r82 e84) rfl ((perm_front (i := 0) rfl).trans (List.Perm.cons _ ((perm_front (i := 2) rfl).trans (List.Perm.cons _ (List.Perm.refl _))))) rfl ?_
      rintro _ _ ⟨v85, rfl, rfl⟩
      refine wl_x ?_
      obtain ⟨g86, h87⟩ := chk_e h83
      refine wc_rdlk (H1 := [.blk b81 [rB r82.1] 4, .blk b1 [rv (.pointer (some ⟨b_l, 0, none⟩))] 47, .bld 50 5 b_l v85 r82.2, .blk b4 (eTApiCell (at' v 0)) 40]) 3 [2, 5] [⟨[], rv (.pointer (some ⟨b_l, 0, none⟩)), 1⟩, ⟨[], rS ([91, 93] : Str), 0⟩, ⟨[1], rI .u8 (bat ([91, 93] : Str) 1), 0⟩] (rle [(4, _)]) [22, 23, 24, 2, 5] ?_ ?_
      ·refine of (o_load (i := 1) Tryd.isAgg47 rfl rfl rfl) ?_
       refine oq (o_move rfl) ?_
       refine oq (o_index_b Tryd.underlying9 rfl rfl g86) ?_
       exact obl_e
      obtain ⟨g88, h89⟩ := chk_e h87
      obtain ⟨g90, h91⟩ := chk_e h89
      refine w_call (rs := [rv (.pointer (some ⟨b_l, 0, none⟩)), rI .u8 (bat ([91, 93] : Str) 1)]) (Hin := [.bld 50 5 b_l v85 r82.2]) (Hr := [.blk b81 [rB r82.1] 4, .blk b1 [rv (.pointer (some ⟨b_l, 0, none⟩))] 47, .blk b4 (eTApiCell (at' v 0)) 40]) Tryd.call42 rfl ((perm_front (i := 2) rfl).trans (List.Perm.cons _ (List.Perm.refl _))) (writeByte_q b_l v85 r82.2 (bat ([91, 93] : Str) 1) g88 g90) rfl ?_
      rintro _ _ ⟨v92, rfl, rfl⟩
      obtain ⟨r93, e95, h94⟩ := bnd_e h91
      rw [← e95]
      refine wl_nil ?_
      refine wk_in_norm ?_
      obtain rfl := some_e h94
      exact wk_end (r_0 Tryd.results24) (sC (sS (sS (sS sN)))) ⟨v92, rfl, rfl⟩

theorem vWriteFm_w (F : Nat) (rec_vWrite : Str → (List TApiCell) → Option (Str)) (ih_vWrite : (∀ (b_l : Nat) (v_l : Value) (l : Str) (v : (List TApiCell)) (r : Str), rec_vWrite l v = some r → Fn Tryd.prog GE 24 [rv (.pointer (some ⟨b_l, 0, none⟩)), rSl 4 (List.map eTApiCell v)] [.bld 50 5 b_l v_l l] (fun R H => ∃ w0b : Value, R = rv (.tuple #[]) ∧ H = [.bld 50 5 b_l w0b r]))) (b_first : Nat) (bx_l : Nat) (b_l : Nat) (v_l : Value) (b_c : Nat) (key : Str) (x : (List TApiCell)) (first : Bool) (l : Str) (c : TApiCell) (r : Bool × Bool × Str) (h : vWriteFm F rec_vWrite key x first l c = some r) : Fn Tryd.prog GE 43 [rS key, rSl 4 (List.map eTApiCell x), rv (.pointer (some ⟨b_first, 0, none⟩)), rv (.pointer (some ⟨bx_l, 0, none⟩)), rv (.pointer (some ⟨b_c, 0, none⟩))] [.blk b_first [rB first] 4, .blk bx_l [rv (.pointer (some ⟨b_l, 0, none⟩))] 47, .bld 50 5 b_l v_l l, .blk b_c (eTApiCell c) 40] (fun R H => ∃ w3b : Value, R = rB r.1 ∧ H = [.blk b_first [rB r.2.1] 4, .blk bx_l [rv (.pointer (some ⟨b_l, 0, none⟩))] 47, .bld 50 5 b_l w3b r.2.2, .blk b_c (eTApiCell c) 40]) := by
 refine enter (n := 23) Tryd.func43 rfl Tryd.ntmps43 rfl (fun w Z => ?_)
 refine wc_as (l' := [(0, rS key), (1, rSl 4 (List.map eTApiCell x)), (2, rv (.pointer (some ⟨b_first, 0, none⟩))), (3, rv (.pointer (some ⟨bx_l, 0, none⟩))), (4, rv (.pointer (some ⟨b_c, 0, none⟩)))]) (H' := [.blk b_first [rB first] 4, .blk bx_l [rv (.pointer (some ⟨b_l, 0, none⟩))] 47, .bld 50 5 b_l v_l l, .blk b_c (eTApiCell c) 40]) rfl rfl ?_
 unfold vWriteFm at h
 refine wc_sr ?_
 refine wv (r := rB false) (o_assign rfl) ?_
 refine wl_x ?_
 refine wc_seq ?_
 refine wc_sr ?_
 refine wv (o_load (i := 0) Tryd.isAgg4 rfl rfl rfl) ?_
 refine wv (o_not rfl) ?_
 refine wl_x ?_
 refine wc_cond (b := !first) rfl (fun c1 => ?_) (fun c1 => ?_)
 ·have h2 := cnd_t c1 h
  refine wc_region ?_
  refine wv (o_load (i := 1) Tryd.isAgg47 rfl rfl rfl) ?_
  obtain ⟨g3, h4⟩ := chk_e h2
  obtain ⟨g5, h6⟩ := chk_e h4
  refine w_call (rs := [rv (.pointer (some ⟨b_l, 0, none⟩)), rI .u8 44]) (Hin := [.bld 50 5 b_l v_l l]) (Hr := [.blk b_first [rB first] 4, .blk bx_l [rv (.pointer (some ⟨b_l, 0, none⟩))] 47, .blk b_c (eTApiCell c) 40]) Tryd.call42 rfl ((perm_front (i := 2) rfl).trans (List.Perm.cons _ (List.Perm.refl _))) (writeByte_q b_l v_l l 44 g3 g5) rfl ?_
  rintro _ _ ⟨v7, rfl, rfl⟩
  obtain ⟨r8, e10, h9⟩ := bnd_e h6
  rw [← e10]
  refine wl_y ?_
  refine u_store (i := 1) Tryd.sizeOf4 rfl rfl (one_c rfl) rfl rfl (cs' := [rB false]) rfl (H' := [.bld 50 5 b_l v7 r8, .blk b_first [rB false] 4, .blk bx_l [rv (.pointer (some ⟨b_l, 0, none⟩))] 47, .blk b_c (eTApiCell c) 40]) rfl ?_
  refine wl_x ?_
  refine wc_seq ?_
  refine wc_sr ?_
  refine wv (o_fieldAddr Tryd.underlying40 rfl Tryd.sizeOf38 rfl rfl) ?_
  refine wv (o_load (i := 3) Tryd.isAgg38 rfl rfl rfl) ?_
  refine wv (o_eq rfl rfl) ?_
  refine wl_x ?_
  refine wc_cond (b := decide (c.fKind = 6)) rfl (fun c11 => ?_) (fun c11 => ?_)
  ·have h12 := cnd_t c11 h9
   refine wc_sr ?_
   refine wv (o_load (i := 2) Tryd.isAgg47 rfl rfl rfl) ?_
   refine wm rfl ?_
   obtain ⟨r13, e15, h14⟩ := obn_e h12
   refine wcl (Hr := [.blk b_first [rB false] 4, .blk bx_l [rv (.pointer (some ⟨b_l, 0, none⟩))] 47, .blk b_c (eTApiCell c) 40]) Tryd.call41 (vQuote_w F b_l v7 r8 key r13 e15) rfl (List.Perm.refl _) rfl ?_
   rintro _ _ ⟨v16, rfl, rfl⟩
   refine wl_x ?_
   refine wc_region ?_
   refine wv (o_load (i := 2) Tryd.isAgg47 rfl rfl rfl) ?_
   obtain ⟨g17, h18⟩ := chk_e h14
   obtain ⟨g19, h20⟩ := chk_e h18
   refine w_call (rs := [rv (.pointer (some ⟨b_l, 0, none⟩)), rI .u8 58]) (Hin := [.bld 50 5 b_l v16 r13]) (Hr := [.blk b_first [rB false] 4, .blk bx_l [rv (.pointer (some ⟨b_l, 0, none⟩))] 47, .blk b_c (eTApiCell c) 40]) Tryd.call42 rfl (List.Perm.refl _) (writeByte_q b_l v16 r13 58 g17 g19) rfl ?_
   rintro _ _ ⟨v21, rfl, rfl⟩
   obtain ⟨r22, e24, h23⟩ := bnd_e h20
   rw [← e24]
   refine wl_y ?_
   refine wv (o_load (i := 2) Tryd.isAgg47 rfl rfl rfl) ?_
   refine wm rfl ?_
   obtain ⟨r25, e27, h26⟩ := obn_e h23
   refine wcl (Hr := [.blk b_first [rB false] 4, .blk bx_l [rv (.pointer (some ⟨b_l, 0, none⟩))] 47, .blk b_c (eTApiCell c) 40]) Tryd.call24 (ih_vWrite b_l v21 r22 x r25 e27) rfl (List.Perm.refl _) rfl ?_
   rintro _ _ ⟨v28, rfl, rfl⟩
   refine wl_y ?_
   refine wv (r := rB true) (o_assign rfl) ?_
   refine wl_x ?_
   refine wc_ret ?_
   refine wk_perm (H2 := [.blk b_first [rB false] 4, .blk bx_l [rv (.pointer (some ⟨b_l, 0, none⟩))] 47, .bld 50 5 b_l v28 r25, .blk b_c (eTApiCell c) 40]) ((perm_front (i := 1) rfl).trans (List.Perm.cons _ ((perm_front (i := 1) rfl).trans (List.Perm.cons _ (List.Perm.refl _))))) ?_
   obtain rfl := some_e h26
   exact wk_ret (r_1 Tryd.results43 (rv_t rfl)) (sC (sC (sC (sC sN)))) ⟨v28, rfl, rfl⟩
  ·have h29 := cnd_f c11 h9
   refine wc_skip ?_
   refine wk_x ?_
   refine wc_sr ?_
   refine wv (o_load (i := 2) Tryd.isAgg47 rfl rfl rfl) ?_
   refine wm rfl ?_
   obtain ⟨r30, e32, h31⟩ := obn_e h29
   refine wcl (Hr := [.blk b_first [rB false] 4, .blk bx_l [rv (.pointer (some ⟨b_l, 0, none⟩))] 47, .blk b_c (eTApiCell c) 40]) Tryd.call24 (ih_vWrite b_l v7 r8 x r30 e32) rfl (List.Perm.refl _) rfl ?_
   rintro _ _ ⟨v33, rfl, rfl⟩
   refine wl_y ?_
   refine wv (r := rB true) (o_assign rfl) ?_
   refine wl_x ?_
   refine wc_ret ?_
   refine wk_perm (H2 := [.blk b_first [rB false] 4, .blk bx_l [rv (.pointer (some ⟨b_l, 0, none⟩))] 47, .bld 50 5 b_l v33 r30, .blk b_c (eTApiCell c) 40]) ((perm_front (i := 1) rfl).trans (List.Perm.cons _ ((perm_front (i := 1) rfl).trans (List.Perm.cons _ (List.Perm.refl _))))) ?_
   obtain rfl := some_e h31
   exact wk_ret (r_1 Tryd.results43 (rv_t rfl)) (sC (sC (sC (sC sN)))) ⟨v33, rfl, rfl⟩
 ·have h34 := cnd_f c1 h
  refine wc_skip ?_
  refine wk_x ?_
  refine wc_sr ?_
  refine u_store (i := 0) Tryd.sizeOf4 rfl rfl (one_c rfl) rfl rfl (cs' := [rB false]) rfl (H' := [.blk b_first [rB false] 4, .blk bx_l [rv (.pointer (some ⟨b_l, 0, none⟩))] 47, .bld 50 5 b_l v_l l, .blk b_c (eTApiCell c) 40]) rfl ?_
  refine wl_x ?_
  refine wc_seq ?_
  refine wc_sr ?_
  refine wv (o_fieldAddr Tryd.underlying40 rfl Tryd.sizeOf38 rfl rfl) ?_
  refine wv (o_load (i := 3) Tryd.isAgg38 rfl rfl rfl) ?_
  refine wv (o_eq rfl rfl) ?_
  refine wl_x ?_
  refine wc_cond (b := decide (c.fKind = 6)) rfl (fun c35 => ?_) (fun c35 => ?_)
  ·have h36 := cnd_t c35 h34
   refine wc_sr ?_
   refine wv (o_load (i := 1) Tryd.isAgg47 rfl rfl rfl) ?_
   refine wm rfl ?_
   obtain ⟨r37, e39, h38⟩ := obn_e h36
   refine wcl (Hr := [.blk b_first [rB false] 4, .blk bx_l [rv (.pointer (some ⟨b_l, 0, none⟩))] 47, .blk b_c (eTApiCell c) 40]) Tryd.call41 (vQuote_w F b_l v_l l key r37 e39) rfl ((perm_front (i := 2) rfl).trans (List.Perm.cons _ (List.Perm.refl _))) rfl ?_
   rintro _ _ ⟨v40, rfl, rfl⟩
   refine wl_x ?_
   refine wc_region ?_
   refine wv (o_load (i := 2) Tryd.isAgg47 rfl rfl rfl) ?_
   obtain ⟨g41, h42⟩ := chk_e h38
   obtain ⟨g43, h44⟩ := chk_e h42
   refine w_call (rs := [rv (.pointer (some ⟨b_l, 0, none⟩)), rI .u8 58]) (Hin := [.bld 50 5 b_l v40 r37]) (Hr := [.blk b_first [rB false] 4, .blk bx_l [rv (.pointer (some ⟨b_l, 0, none⟩))] 47, .blk b_c (eTApiCell c) 40]) Tryd.call42 rfl (List.Perm.refl _) (writeByte_q b_l v40 r37 58 g41 g43) rfl ?_
   rintro _ _ ⟨v45, rfl, rfl⟩
   obtain ⟨r46, e48, h47⟩ := bnd_e h44
   rw [← e48]
   refine wl_y ?_
   refine wv (o_load (i := 2) Tryd.isAgg47 rfl rfl rfl) ?_
   refine wm rfl ?_
   obtain ⟨r49, e51, h50⟩ := obn_e h47
   refine wcl (Hr := [.blk b_first [rB false] 4, .blk bx_l [rv (.pointer (some ⟨b_l, 0, none⟩))] 47, .blk b_c (eTApiCell c) 40]) Tryd.call24 (ih_vWrite b_l v45 r46 x r49 e51) rfl (List.Perm.refl _) rfl ?_
   rintro _ _ ⟨v52, rfl, rfl⟩
   refine wl_y ?_
   refine wv (r := rB true) (o_assign rfl) ?_
   refine wl_x ?_
   refine wc_ret ?_
   refine wk_perm (H2 := [.blk b_first [rB false] 4, .blk bx_l [rv (.pointer (some ⟨b_l, 0, none⟩))] 47, .bld 50 5 b_l v52 r49, .blk b_c (eTApiCell c) 40]) ((perm_front (i := 1) rfl).trans (List.Perm.cons _ ((perm_front (i := 1) rfl).trans (List.Perm.cons _ (List.Perm.refl _))))) ?_
   obtain rfl := some_e h50
   exact wk_ret (r_1 Tryd.results43 (rv_t rfl)) (sC (sC (sC (sC sN)))) ⟨v52, rfl, rfl⟩
  ·have h53 := cnd_f c35 h34
   refine wc_skip ?_
   refine wk_x ?_
   refine wc_sr ?_
   refine wv (o_load (i := 1) Tryd.isAgg47 rfl rfl rfl) ?_
   refine wm rfl ?_
   obtain ⟨r54, e56, h55⟩ := obn_e h53
   refine wcl (Hr := [.blk b_first [rB false] 4, .blk bx_l [rv (.pointer (some ⟨b_l, 0, none⟩))] 47, .blk b_c (eTApiCell c) 40]) Tryd.call24 (ih_vWrite b_l v_l l x r54 e56) rfl ((perm_front (i := 2) rfl).trans (List.Perm.cons _ (List.Perm.refl _))) rfl ?_
   rintro _ _ ⟨v57, rfl, rfl⟩
   refine wl_y ?_
   refine wv (r := rB true) (o_assign rfl) ?_
   refine wl_x ?_
   refine wc_ret ?_
   refine wk_perm (H2 := [.blk b_first [rB false] 4, .blk bx_l [rv (.pointer (some ⟨b_l, 0, none⟩))] 47, .bld 50 5 b_l v57 r54, .blk b_c (eTApiCell c) 40]) ((perm_front (i := 1) rfl).trans (List.Perm.cons _ ((perm_front (i := 1) rfl).trans (List.Perm.cons _ (List.Perm.refl _))))) ?_
   obtain rfl := some_e h55
   exact wk_ret (r_1 Tryd.results43 (rv_t rfl)) (sC (sC (sC (sC sN)))) ⟨v57, rfl, rfl⟩

theorem vWritePm_w (F : Nat) (rec_vWriteF : Str → (List TApiCell) → Bool → Str → TApiCell → Option (Bool × Bool × Str)) (ih_vWriteF : (∀ (b_first : Nat) (bx_l : Nat) (b_l : Nat) (v_l : Value) (b_c : Nat) (key : Str) (x : (List TApiCell)) (first : Bool) (l : Str) (c : TApiCell) (r : Bool × Bool × Str), rec_vWriteF key x first l c = some r → Fn Tryd.prog GE 43 [rS key, rSl 4 (List.map eTApiCell x), rv (.pointer (some ⟨b_first, 0, none⟩)), rv (.pointer (some ⟨bx_l, 0, none⟩)), rv (.pointer (some ⟨b_c, 0, none⟩))] [.blk b_first [rB first] 4, .blk bx_l [rv (.pointer (some ⟨b_l, 0, none⟩))] 47, .bld 50 5 b_l v_l l, .blk b_c (eTApiCell c) 40] (fun R H => ∃ w3b : Value, R = rB r.1 ∧ H = [.blk b_first [rB r.2.1] 4, .blk bx_l [rv (.pointer (some ⟨b_l, 0, none⟩))] 47, .bld 50 5 b_l w3b r.2.2, .blk b_c (eTApiCell c) 40]))) (b_first : Nat) (bx_l : Nat) (b_l : Nat) (v_l : Value) (b_c : Nat) (v : (List TApiCell)) (first : Bool) (l : Str) (c : TApiCell) (r : Bool × Str) (h : vWritePm F rec_vWriteF v first l c = some r) : Fn Tryd.prog GE 35 [rSl 4 (List.map eTApiCell v), rv (.func (.func 43) #[] #[(.pointer (some ⟨b_first, 0, none⟩)), (.pointer (some ⟨bx_l, 0, none⟩)), (.pointer (some ⟨b_c, 0, none⟩))])] [.blk b_first [rB first] 4, .blk bx_l [rv (.pointer (some ⟨b_l, 0, none⟩))] 47, .bld 50 5 b_l v_l l, .blk b_c (eTApiCell c) 40] (fun R H => ∃ w1_1b : Value, R = rv (.tuple #[]) ∧ H = [.blk b_first [rB r.1] 4, .blk bx_l [rv (.pointer (some ⟨b_l, 0, none⟩))] 47, .bld 50 5 b_l w1_1b r.2, .blk b_c (eTApiCell c) 40]) := by
 refine enter (n := 52) Tryd.func35 rfl Tryd.ntmps35 rfl (fun w Z => ?_)
 refine wc_as (l' := [(0, rSl 4 (List.map eTApiCell v)), (1, rv (.func (.func 43) #[] #[(.pointer (some ⟨b_first, 0, none⟩)), (.pointer (some ⟨bx_l, 0, none⟩)), (.pointer (some ⟨b_c, 0, none⟩))]))]) (H' := [.blk b_first [rB first] 4, .blk bx_l [rv (.pointer (some ⟨b_l, 0, none⟩))] 47, .bld 50 5 b_l v_l l, .blk b_c (eTApiCell c) 40]) rfl rfl ?_
 unfold vWritePm at h
 refine wc_sr ?_
 refine wv (r := rI .i64 1) (o_assign rfl) ?_
 refine wl_y ?_
 refine wm rfl ?_
 obtain ⟨g1, h2⟩ := chk_e h
 refine wv (o_ix_z (enc := eTApiCell) (ys := v) Tryd.underlying22 Tryd.sizeOf40 rfl rfl g1) ?_
 refine wv (o_fieldAddr_z Tryd.underlying40 rfl Tryd.sizeOf3 rfl rfl) ?_
 refine wv (o_load_z Tryd.isAgg3 rfl rfl) ?_
 refine wv (r := rI .i64 0) (o_move rfl) ?_
 refine wl_x ?_
 refine wc_block ?_
 obtain ⟨o166, eo167, hK168⟩ := obn_e h2
 refine wc_loop2 (S := Nat × (Int × Int × Bool × Str) × (Value)) (V := (Bool × Str) × (Value)) 0 (fun σ => lop (fun σ => vWriteP_b1 F v c rec_vWriteF σ.1 σ.2.1 σ.2.2.1 σ.2.2.2) σ.1 σ.2.1 = some o166) (fun σ => [(0, rSl 4 (List.map eTApiCell v)), (1, rv (.func (.func 43) #[] #[(.pointer (some ⟨b_first, 0, none⟩)), (.pointer (some ⟨bx_l, 0, none⟩)), (.pointer (some ⟨b_c, 0, none⟩))])), (4, rI .i64 σ.2.1.1), (12, rI .i64 ((at' v 0).fN)), (13, rI .i64 σ.2.1.2.1)]) (fun σ => [.blk b_first [rB σ.2.1.2.2.1] 4, .blk bx_l [rv (.pointer (some ⟨b_l, 0, none⟩))] 47, .bld 50 5 b_l σ.2.2 σ.2.1.2.2.2, .blk b_c (eTApiCell c) 40]) (fun σ => σ.1) (F, (1, 0, first, l), v_l) eo167 (Sub.c5 rfl rfl rfl rfl rfl Sub.nil) (sC (sC (sC (sC sN)))) (fun σ => vWriteP_k1 σ.1.1 σ.1.2 = some r) (fun σ => []) (fun σ => [.blk b_first [rB σ.1.1] 4, .blk bx_l [rv (.pointer (some ⟨b_l, 0, none⟩))] 47, .bld 50 5 b_l σ.2 σ.1.2, .blk b_c (eTApiCell c) 40]) ?_ ?_
 ·rintro ⟨n174, ⟨x106, x107, x108, x109⟩, v110⟩ hi172
  refine wc_as (l' := [(0, rSl 4 (List.map eTApiCell v)), (1, rv (.func (.func 43) #[] #[(.pointer (some ⟨b_first, 0, none⟩)), (.pointer (some ⟨bx_l, 0, none⟩)), (.pointer (some ⟨b_c, 0, none⟩))])), (4, rI .i64 x106), (12, rI .i64 ((at' v 0).fN)), (13, rI .i64 x107)]) (H' := [.blk b_first [rB x108] 4, .blk bx_l [rv (.pointer (some ⟨b_l, 0, none⟩))] 47, .bld 50 5 b_l v110 x109, .blk b_c (eTApiCell c) 40]) rfl rfl ?_
  obtain ⟨m171, rfl, t169, h173, ht170⟩ := lop_e hi172
  replace h173 : vWriteP_b1 F v c rec_vWriteF x106 x107 x108 x109 = some t169 := h173
  unfold vWriteP_b1 at h173
  refine wc_sr ?_
  refine wv (o_lt rfl rfl) ?_
  refine wl_x ?_
  refine wc_seq ?_
  refine wc_cond (b := decide (x107 < ((at' v 0).fN))) rfl (fun c175 => ?_) (fun c175 => ?_)
  ·have h176 := cnd_t c175 h173
   refine wc_skip ?_
   refine wk_x ?_
   refine wc_seq ?_
   refine wc_block ?_
   refine wc_sr ?_
   refine wv (r := rS ([] : Str)) (o_assign rfl) ?_
   refine wl_x ?_
   refine wc_seq ?_
   refine wc_sr ?_
   refine wm rfl ?_
   refine wv (o_ix_z (enc := eTApiCell) (ys := v) Tryd.underlying22 Tryd.sizeOf40 rfl rfl g1) ?_
   refine wv (o_fieldAddr_z Tryd.underlying40 rfl Tryd.sizeOf38 rfl rfl) ?_
   refine wv (o_load_z Tryd.isAgg38 rfl rfl) ?_
   refine wv (o_eq rfl rfl) ?_
   refine wl_x ?_
   refine wc_cond (b := decide (((at' v 0).fKind) = 6)) rfl (fun c177 => ?_) (fun c177 => ?_)
   ·have h178 := cnd_t c177 h176
    refine wc_sr ?_
    refine wm rfl ?_
    refine wm rfl ?_
    obtain ⟨g179, h180⟩ := chk_e h178
    refine wv (o_ix_z (enc := eTApiCell) (ys := v) Tryd.underlying22 Tryd.sizeOf40 rfl rfl g179) ?_
    refine wv (o_fieldAddr_z Tryd.underlying40 rfl Tryd.sizeOf9 rfl rfl) ?_
    refine wv (o_load_z Tryd.isAgg9 rfl rfl) ?_
    refine wa rfl ?_
    refine wl_x ?_
    refine wc_region ?_
    refine wm rfl ?_
    obtain ⟨g181, h182⟩ := chk_e h180
    refine wv (o_add rfl rfl g181) ?_
    refine wa rfl ?_
    refine wl_y ?_
    refine wm rfl ?_
    refine wm rfl ?_
    obtain ⟨g183, h184⟩ := chk_e h182
    refine wv (r := rSl 4 (List.map eTApiCell (List.drop (Int.toNat (x106 + 1)) v))) (o_slice_zl Tryd.underlying22 Tryd.sizeOf40 rfl rfl g183) ?_
    obtain ⟨r185, e187, h186⟩ := obn_e h184
    refine wc0 Tryd.call27 (vLook_w F (List.drop (Int.toNat (x106 + 1)) v) r185 e187) rfl ?_
    refine wm rfl ?_
    refine wv (o_extract rfl rfl) ?_
    refine wv (o_extract rfl rfl) ?_
    refine wv (o_extract rfl rfl) ?_
    refine w_alloc (cs := [rI .i64 0, rI .i64 0, rB false, rB false]) Tryd.zeroValue55 rfl rfl (fun b188 => ?_)
    refine wa rfl ?_
    refine u_store_agg (i := 0) Tryd.sizeOf55 rfl rfl rfl (OneAll.c rfl) rfl rfl (cs' := [rI .i64 r185.2.1.fDepth, rI .i64 r185.2.1.fBytes, rB r185.2.1.fOutside, rB r185.2.1.fLong]) rfl (H' := [.blk b188 (eTValueShape r185.2.1) 55, .blk b_first [rB x108] 4, .blk bx_l [rv (.pointer (some ⟨b_l, 0, none⟩))] 47, .bld 50 5 b_l v110 x109, .blk b_c (eTApiCell c) 40]) rfl ?_
    refine wa rfl ?_
    refine wl_x ?_
    refine wc_seq ?_
    refine wc_sr ?_
    refine wm rfl ?_
    refine wm rfl ?_
    refine wm rfl ?_
    refine wm rfl ?_
    refine wm rfl ?_
    refine wm rfl ?_
    obtain ⟨g189, h190⟩ := chk_e h186
    refine wv (o_add rfl rfl g189) ?_
    refine wm rfl ?_
    refine wm rfl ?_
    refine wv (o_add rfl rfl g189) ?_
    obtain ⟨g191, h192⟩ := chk_e h190
    obtain ⟨g193, h194⟩ := chk_e h192
    refine wv (r := rSl 4 (List.map eTApiCell (List.take (Int.toNat ((x106 + 1) + r185.1) - Int.toNat (x106 + 1)) (List.drop (Int.toNat (x106 + 1)) v)))) (o_slice_zm Tryd.underlying22 Tryd.sizeOf40 rfl rfl rfl rfl g191 g193) ?_
    obtain ⟨r195, e197, h196⟩ := obn_e h194
    refine w_callc (rs := [rS ((at' v x106).fStr), rSl 4 (List.map eTApiCell (List.take (Int.toNat ((x106 + 1) + r185.1) - Int.toNat (x106 + 1)) (List.drop (Int.toNat (x106 + 1)) v)))]) (Hin := [.blk b_first [rB x108] 4, .blk bx_l [rv (.pointer (some ⟨b_l, 0, none⟩))] 47, .bld 50 5 b_l v110 x109, .blk b_c (eTApiCell c) 40]) (Hr := [.blk b188 (eTValueShape r185.2.1) 55]) Tryd.call43 rfl rfl ((perm_front (i := 1) rfl).trans (List.Perm.cons _ ((perm_front (i := 1) rfl).trans (List.Perm.cons _ ((perm_front (i := 1) rfl).trans (List.Perm.cons _ ((perm_front (i := 1) rfl).trans (List.Perm.cons _ (List.Perm.refl _))))))))) (ih_vWriteF b_first bx_l b_l v110 b_c ((at' v x106).fStr) (List.take (Int.toNat ((x106 + 1) + r185.1) - Int.toNat (x106 + 1)) (List.drop (Int.toNat (x106 + 1)) v)) x108 x109 c r195 e197) rfl ?_
    rintro _ _ ⟨v198, rfl, rfl⟩
    refine wv (o_not rfl) ?_
    refine wl_x ?_
    refine wc_cond (b := !r195.1) rfl (fun c199 => ?_) (fun c199 => ?_)
    ·have h200 := cnd_t c199 h196
     refine wc_ret ?_
     refine wk_then_ret ?_
     refine wk_in_ret ?_
     refine wk_then_ret ?_
     refine wk_then_ret ?_
     refine wk_cut_ret ?_
     have h201 := stp_ret h200 ht170 hK168
     refine wk_in_ret ?_
     obtain rfl := some_e h201
     exact wk_ret (r_0 Tryd.results35) (sC (sC (sC (sC (sS sN))))) ⟨v198, rfl, rfl⟩
    ·have h202 := cnd_f c199 h196
     refine wc_skip ?_
     refine wk_x ?_
     refine wc_region ?_
     refine wm rfl ?_
     refine wm rfl ?_
     refine wv (o_add rfl rfl g189) ?_
     refine wa rfl ?_
     refine wl_nil ?_
     refine wk_in_norm ?_
     refine wk_x ?_
     refine wc_region ?_
     obtain ⟨g203, h204⟩ := chk_e h202
     refine wv (o_add rfl rfl g203) ?_
     refine wm rfl ?_
     refine wl_nil ?_
     have h205 := stp_next h204 ht170
     exact wk_then (wk_some (m171, ((x106 + 1) + r185.1, x107 + 1, r195.2.1, r195.2.2), v198) ⟨h205, Nat.lt_succ_self _⟩ (Sub.c5 rfl rfl rfl rfl rfl Sub.nil) (sC (sC (sC (sC (sS sN))))))
   ·have h206 := cnd_f c177 h176
    refine wc_skip ?_
    refine wk_x ?_
    refine wc_sr ?_
    refine wm rfl ?_
    refine wm rfl ?_
    obtain ⟨g207, h208⟩ := chk_e h206
    refine wv (r := rSl 4 (List.map eTApiCell (List.drop (Int.toNat x106) v))) (o_slice_zl Tryd.underlying22 Tryd.sizeOf40 rfl rfl g207) ?_
    obtain ⟨r209, e211, h210⟩ := obn_e h208
    refine wc0 Tryd.call27 (vLook_w F (List.drop (Int.toNat x106) v) r209 e211) rfl ?_
    refine wm rfl ?_
    refine wv (o_extract rfl rfl) ?_
    refine wv (o_extract rfl rfl) ?_
    refine wv (o_extract rfl rfl) ?_
    refine w_alloc (cs := [rI .i64 0, rI .i64 0, rB false, rB false]) Tryd.zeroValue55 rfl rfl (fun b212 => ?_)
    refine wa rfl ?_
    refine u_store_agg (i := 0) Tryd.sizeOf55 rfl rfl rfl (OneAll.c rfl) rfl rfl (cs' := [rI .i64 r209.2.1.fDepth, rI .i64 r209.2.1.fBytes, rB r209.2.1.fOutside, rB r209.2.1.fLong]) rfl (H' := [.blk b212 (eTValueShape r209.2.1) 55, .blk b_first [rB x108] 4, .blk bx_l [rv (.pointer (some ⟨b_l, 0, none⟩))] 47, .bld 50 5 b_l v110 x109, .blk b_c (eTApiCell c) 40]) rfl ?_
    refine wa rfl ?_
    refine wl_x ?_
    refine wc_seq ?_
    refine wc_sr ?_
    refine wm rfl ?_
    refine wm rfl ?_
    refine wm rfl ?_
    refine wm rfl ?_
    refine wm rfl ?_
    refine wm rfl ?_
    obtain ⟨g213, h214⟩ := chk_e h210
    refine wv (o_add rfl rfl g213) ?_
    refine wm rfl ?_
    refine wm rfl ?_
    refine wv (o_add rfl rfl g213) ?_
    obtain ⟨g215, h216⟩ := chk_e h214
    obtain ⟨g217, h218⟩ := chk_e h216
    refine wv (r := rSl 4 (List.map eTApiCell (List.take (Int.toNat (x106 + r209.1) - Int.toNat x106) (List.drop (Int.toNat x106) v)))) (o_slice_zm Tryd.underlying22 Tryd.sizeOf40 rfl rfl rfl rfl g215 g217) ?_
    obtain ⟨r219, e221, h220⟩ := obn_e h218
    refine w_callc (rs := [rS ([] : Str), rSl 4 (List.map eTApiCell (List.take (Int.toNat (x106 + r209.1) - Int.toNat x106) (List.drop (Int.toNat x106) v)))]) (Hin := [.blk b_first [rB x108] 4, .blk bx_l [rv (.pointer (some ⟨b_l, 0, none⟩))] 47, .bld 50 5 b_l v110 x109, .blk b_c (eTApiCell c) 40]) (Hr := [.blk b212 (eTValueShape r209.2.1) 55]) Tryd.call43 rfl rfl ((perm_front (i := 1) rfl).trans (List.Perm.cons _ ((perm_front (i := 1) rfl).trans (List.Perm.cons _ ((perm_front (i := 1) rfl).trans (List.Perm.cons _ ((perm_front (i := 1) rfl).trans (List.Perm.cons _ (List.Perm.refl _))))))))) (ih_vWriteF b_first bx_l b_l v110 b_c ([] : Str) (List.take (Int.toNat (x106 + r209.1) - Int.toNat x106) (List.drop (Int.toNat x106) v)) x108 x109 c r219 e221) rfl ?_
    rintro _ _ ⟨v222, rfl, rfl⟩
    refine wv (o_not rfl) ?_
    refine wl_x ?_
    refine wc_cond (b := !r219.1) rfl (fun c223 => ?_) (fun c223 => ?_)
    ·have h224 := cnd_t c223 h220
     refine wc_ret ?_
     refine wk_then_ret ?_
     refine wk_in_ret ?_
     refine wk_then_ret ?_
     refine wk_then_ret ?_
     refine wk_cut_ret ?_
     have h225 := stp_ret h224 ht170 hK168
     refine wk_in_ret ?_
     obtain rfl := some_e h225
     exact wk_ret (r_0 Tryd.results35) (sC (sC (sC (sC (sS sN))))) ⟨v222, rfl, rfl⟩
    ·have h226 := cnd_f c223 h220
     refine wc_skip ?_
     refine wk_x ?_
     refine wc_region ?_
     refine wm rfl ?_
     refine wm rfl ?_
     refine wv (o_add rfl rfl g213) ?_
     refine wa rfl ?_
     refine wl_nil ?_
     refine wk_in_norm ?_
     refine wk_x ?_
     refine wc_region ?_
     obtain ⟨g227, h228⟩ := chk_e h226
     refine wv (o_add rfl rfl g227) ?_
     refine wm rfl ?_
     refine wl_nil ?_
     have h229 := stp_next h228 ht170
     exact wk_then (wk_some (m171, (x106 + r209.1, x107 + 1, r219.2.1, r219.2.2), v222) ⟨h229, Nat.lt_succ_self _⟩ (Sub.c5 rfl rfl rfl rfl rfl Sub.nil) (sC (sC (sC (sC (sS sN))))))
  ·have h230 := cnd_f c175 h173
   refine wc_exit ?_
   refine wk_then_exit ?_
   have h231 := stp_go h230 ht170 hK168
   exact wk_then_exit (wk_cut_hit (wk_some ((x108, x109), v110) h231 Sub.nil (sC (sC (sC (sC sN))))))
 ·rintro ⟨⟨x163, x164⟩, v165⟩ h232
  refine wk_as (l' := []) (H' := [.blk b_first [rB x163] 4, .blk bx_l [rv (.pointer (some ⟨b_l, 0, none⟩))] 47, .bld 50 5 b_l v165 x164, .blk b_c (eTApiCell c) 40]) rfl rfl ?_
  replace h232 : vWriteP_k1 x163 x164 = some r := h232
  unfold vWriteP_k1 at h232
  refine wk_in_hit ?_
  obtain rfl := some_e h232
  exact wk_end (r_0 Tryd.results35) (sC (sC (sC (sC sN)))) ⟨v165, rfl, rfl⟩

theorem vWrite_all : ∀ F : Nat, (∀ (b_l : Nat) (v_l : Value) (l : Str) (v : (List TApiCell)) (r : Str), vWrite F l v = some r → Fn Tryd.prog GE 24 [rv (.pointer (some ⟨b_l, 0, none⟩)), rSl 4 (List.map eTApiCell v)] [.bld 50 5 b_l v_l l] (fun R H => ∃ w0b : Value, R = rv (.tuple #[]) ∧ H = [.bld 50 5 b_l w0b r])) ∧ (∀ (b_first : Nat) (bx_l : Nat) (b_l : Nat) (v_l : Value) (b_c : Nat) (key : Str) (x : (List TApiCell)) (first : Bool) (l : Str) (c : TApiCell) (r : Bool × Bool × Str), vWriteF F key x first l c = some r → Fn Tryd.prog GE 43 [rS key, rSl 4 (List.map eTApiCell x), rv (.pointer (some ⟨b_first, 0, none⟩)), rv (.pointer (some ⟨bx_l, 0, none⟩)), rv (.pointer (some ⟨b_c, 0, none⟩))] [.blk b_first [rB first] 4, .blk bx_l [rv (.pointer (some ⟨b_l, 0, none⟩))] 47, .bld 50 5 b_l v_l l, .blk b_c (eTApiCell c) 40] (fun R H => ∃ w3b : Value, R = rB r.1 ∧ H = [.blk b_first [rB r.2.1] 4, .blk bx_l [rv (.pointer (some ⟨b_l, 0, none⟩))] 47, .bld 50 5 b_l w3b r.2.2, .blk b_c (eTApiCell c) 40])) ∧ (∀ (b_first : Nat) (bx_l : Nat) (b_l : Nat) (v_l : Value) (b_c : Nat) (v : (List TApiCell)) (first : Bool) (l : Str) (c : TApiCell) (r : Bool × Str), vWriteP F v first l c = some r → Fn Tryd.prog GE 35 [rSl 4 (List.map eTApiCell v), rv (.func (.func 43) #[] #[(.pointer (some ⟨b_first, 0, none⟩)), (.pointer (some ⟨bx_l, 0, none⟩)), (.pointer (some ⟨b_c, 0, none⟩))])] [.blk b_first [rB first] 4, .blk bx_l [rv (.pointer (some ⟨b_l, 0, none⟩))] 47, .bld 50 5 b_l v_l l, .blk b_c (eTApiCell c) 40] (fun R H => ∃ w1_1b : Value, R = rv (.tuple #[]) ∧ H = [.blk b_first [rB r.1] 4, .blk bx_l [rv (.pointer (some ⟨b_l, 0, none⟩))] 47, .bld 50 5 b_l w1_1b r.2, .blk b_c (eTApiCell c) 40]))
  | 0 => ⟨(fun _ _ _ _ _ h => by simp [vWrite] at h), (fun _ _ _ _ _ _ _ _ _ _ _ h => by simp [vWriteF] at h), (fun _ _ _ _ _ _ _ _ _ _ h => by simp [vWriteP] at h)⟩
  | nn + 1 => ⟨(fun b_l v_l l v r h => vWritem_w nn (vWriteF nn) (vWriteP nn) (vWrite_all nn).2.1 (vWrite_all nn).2.2 b_l v_l l v r (by rw [vWrite] at h; exact h)), (fun b_first bx_l b_l v_l b_c key x first l c r h => vWriteFm_w nn (vWrite nn) (vWrite_all nn).1 b_first bx_l b_l v_l b_c key x first l c r (by rw [vWriteF] at h; exact h)), (fun b_first bx_l b_l v_l b_c v first l c r h => vWritePm_w nn (vWriteF nn) (vWrite_all nn).2.1 b_first bx_l b_l v_l b_c v first l c r (by rw [vWriteP] at h; exact h))⟩

theorem vWrite_w (F : Nat) (b_l : Nat) (v_l : Value) (l : Str) (v : (List TApiCell)) (r : Str) (h : vWrite F l v = some r) : Fn Tryd.prog GE 24 [rv (.pointer (some ⟨b_l, 0, none⟩)), rSl 4 (List.map eTApiCell v)] [.bld 50 5 b_l v_l l] (fun R H => ∃ w0b : Value, R = rv (.tuple #[]) ∧ H = [.bld 50 5 b_l w0b r]) := (vWrite_all F).1 b_l v_l l v r h

theorem vEncode_w (F : Nat) (v : (List TApiCell)) (r : Str × Int) (h : vEncode F v = some r) : Fn Tryd.prog GE 8 [rSl 4 (List.map eTApiCell v)] [] (fun R H => R = rTup [rS r.1, rI .i64 r.2] ∧ H = []) := by
 refine enter (n := 14) Tryd.func8 rfl Tryd.ntmps8 rfl (fun w Z => ?_)
 refine wc_as (l' := [(0, rSl 4 (List.map eTApiCell v))]) (H' := []) rfl rfl ?_
 unfold vEncode at h
 refine wc_sr ?_
 refine wv (r := rS ([] : Str)) (o_assign rfl) ?_
 refine wv (r := rI .i64 0) (o_assign rfl) ?_
 refine wl_x ?_
 refine wc_seq ?_
 refine wc_sr ?_
 refine wm rfl ?_
 obtain ⟨r1, e3, h2⟩ := obn_e h
 refine wc0 Tryd.call10 (vCheck_w F v r1 e3) rfl ?_
 refine wa rfl ?_
 refine wl_y ?_
 refine wm rfl ?_
 refine wv (o_ne rfl rfl) ?_
 refine wl_x ?_
 refine wc_cond (b := !decide (r1 = 0)) rfl (fun c4 => ?_) (fun c4 => ?_)
 ·have h5 := cnd_t c4 h2
  refine wc_sr ?_
  refine wm rfl ?_
  refine wv (r := rS ([] : Str)) (o_assign rfl) ?_
  refine wa rfl ?_
  refine wl_x ?_
  refine wc_ret ?_
  refine wk_then_ret ?_
  obtain rfl := some_e h5
  exact wk_ret (r_2 Tryd.results8 (rv_t rfl) (rv_t rfl)) sN ⟨rfl, rfl⟩
 ·have h6 := cnd_f c4 h2
  refine wc_skip ?_
  refine wk_x ?_
  refine wc_sr ?_
  refine w_alloc (cs := [rv (.pointer none), rv (.slice none 0 0)]) Tryd.zeroValue50 rfl rfl (fun b7 => ?_)
  refine wl_y ?_
  refine wm rfl ?_
  refine WL.tobld (te := 5) (i := 0) rfl ?_
  obtain ⟨r8, e10, h9⟩ := obn_e h6
  refine wcl (Hr := []) Tryd.call24 (vWrite_w F b7 (.slice none 0 0) ([] : Str) v r8 e10) rfl (List.Perm.refl _) rfl ?_
  rintro _ _ ⟨v11, rfl, rfl⟩
  refine wl_y ?_
  obtain ⟨g12, h13⟩ := chk_e h9
  refine w_call (rs := [rv (.pointer (some ⟨b7, 0, none⟩))]) (Hin := [.bld 50 5 b7 v11 r8]) (Hr := []) Tryd.call25 rfl (List.Perm.refl _) (bstring_q b7 v11 r8  g12) rfl ?_
  rintro _ _ ⟨rfl, rfl⟩
  refine wa rfl ?_
  refine wv (r := rI .i64 0) (o_assign rfl) ?_
  refine wl_x ?_
  refine wc_ret ?_
  obtain rfl := some_e h13
  exact wk_ret (r_2 Tryd.results8 (rv_t rfl) (rv_t rfl)) sN ⟨rfl, rfl⟩

end Go.Proofs.YtkalifgebccpcaaDoor.Q

/-
 What functions compute, with checks: plain definitions, printed by a small program of ours (gq.py). No program in sight.
-/
namespace Go.Proofs.YtkalifgebccpcaaDoor
open Go
set_option linter.unusedVariables false
structure TValueReader where
 fS : Str
 fAt : Int
 fCells : (List TApiCell)
 fGreat : Bool
 deriving DecidableEq, Inhabited
def slHasPrefix (s : Str) (p : Str) : Option (Bool) :=
 chk (imp (decide ((p.length : Int) ≤ (s.length : Int))) (inC (p.length : Int) (s.length : Int))) <| some ((decide ((p.length : Int) ≤ (s.length : Int))) && (decide ((List.take (Int.toNat (p.length : Int)) s) = p)))

def hasPrefix (s : Str) (p : Str) : Option (Bool) :=
 obn (slHasPrefix s p) fun r1 => some r1

def vTake (q : TValueReader) (s : Str) : Option (Bool × TValueReader) :=
 chk (inC q.fAt (q.fS.length : Int)) <| obn (hasPrefix (List.drop (Int.toNat q.fAt) q.fS) s) fun r3 => cnd (!r3) (some (false, q)) (chk (inK .i64 (q.fAt + (s.length : Int))) <| some (true, (TValueReader.mk q.fS (q.fAt + (s.length : Int)) q.fCells q.fGreat)))

def vRStr_j2 (x366 : (List Int)) (x462 : Int) (x463 : Int) : Option (Stp ((List Int) × Int) (Out (Str × Bool × TValueReader) (Int))) :=
 chk (inA 1 (x366.length + ([x462] : List Int).length)) <| some (.next (x366 ++ ([x462] : List Int), x463))

def vRStr_b1 (r1 : Bool × TValueReader) (x366 : (List Int)) (x368 : Int) : Option (Stp ((List Int) × Int) (Out (Str × Bool × TValueReader) (Int))) :=
 cnd (decide (x368 < (r1.2.fS.length : Int))) (chk (inR x368 (r1.2.fS.length : Int)) <| chk (inK .i64 (x368 + 1)) <| cnd (decide ((bat r1.2.fS x368) = 34)) (some (.out (.ret (ofI x366, true, (TValueReader.mk r1.2.fS (x368 + 1) r1.2.fCells r1.2.fGreat))))) (cnd (((decide ((bat r1.2.fS x368) < 32)) || (decide (126 < (bat r1.2.fS x368))))) (some (.out (.ret (([] : Str), false, (TValueReader.mk r1.2.fS (x368 + 1) r1.2.fCells r1.2.fGreat))))) (cnd (decide ((bat r1.2.fS x368) = 92)) (chk (imp (!(decide ((r1.2.fS.length : Int) ≤ (x368 + 1)))) (inR (x368 + 1) (r1.2.fS.length : Int))) <| cnd (((decide ((r1.2.fS.length : Int) ≤ (x368 + 1))) || ((!decide ((bat r1.2.fS (x368 + 1)) = 34)) && (!decide ((bat r1.2.fS (x368 + 1)) = 92))))) (some (.out (.ret (([] : Str), false, (TValueReader.mk r1.2.fS (x368 + 1) r1.2.fCells r1.2.fGreat))))) (chk (inR (x368 + 1) (r1.2.fS.length : Int)) <| chk (inK .i64 ((x368 + 1) + 1)) <| vRStr_j2 x366 (bat r1.2.fS (x368 + 1)) ((x368 + 1) + 1))) (vRStr_j2 x366 (bat r1.2.fS x368) (x368 + 1))))) (some (.out (.go x368)))

def vRStr_k1 (r1 : Bool × TValueReader) (x425 : Int) : Option (Str × Bool × TValueReader) :=
 some (([] : Str), false, (TValueReader.mk r1.2.fS x425 r1.2.fCells r1.2.fGreat))

def vRStr (F : Nat) (q : TValueReader) : Option (Str × Bool × TValueReader) :=
 obn (vTake q ([34] : Str)) fun r1 => cnd (!r1.1) (some (([] : Str), false, r1.2)) (obn (lop (fun σ => vRStr_b1 r1 σ.1 σ.2) F (([] : List Int), r1.2.fAt)) (oute fun ν => vRStr_k1 r1 ν))

def vRInt_b1 (r1 : Bool × TValueReader) (x75 : Int) : Option (Stp (Int) (Out (Bool × TValueReader) (Int))) :=
 chk (imp (decide (x75 < (r1.2.fS.length : Int))) (inR x75 (r1.2.fS.length : Int))) <| cnd (((decide (x75 < (r1.2.fS.length : Int))) && ((decide (48 ≤ (bat r1.2.fS x75))) && (decide ((bat r1.2.fS x75) ≤ 57))))) (chk (inK .i64 (x75 + 1)) <| some (.next (x75 + 1))) (some (.out (.go x75)))

def vRInt_k1 (q : TValueReader) (r1 : Bool × TValueReader) (x85 : Int) : Option (Bool × TValueReader) :=
 chk (inC q.fAt x85) <| chk (inC x85 (r1.2.fS.length : Int)) <| chk (inA 1 (List.take (Int.toNat x85 - Int.toNat q.fAt) (List.drop (Int.toNat q.fAt) r1.2.fS)).length) <| cnd (((decide ((parseE (List.take (Int.toNat x85 - Int.toNat q.fAt) (List.drop (Int.toNat q.fAt) r1.2.fS))) = 1)) || (decide (r1.2.fAt = x85)))) (some (false, (TValueReader.mk r1.2.fS x85 r1.2.fCells r1.2.fGreat))) (chk (inA 40 (r1.2.fCells.length + ([(TApiCell.mk 3 (parseV (List.take (Int.toNat x85 - Int.toNat q.fAt) (List.drop (Int.toNat q.fAt) r1.2.fS))) ([] : Str) 0)] : List TApiCell).length)) <| some (true, (TValueReader.mk r1.2.fS x85 (r1.2.fCells ++ ([(TApiCell.mk 3 (parseV (List.take (Int.toNat x85 - Int.toNat q.fAt) (List.drop (Int.toNat q.fAt) r1.2.fS))) ([] : Str) 0)] : List TApiCell)) (r1.2.fGreat || (!decide ((parseE (List.take (Int.toNat x85 - Int.toNat q.fAt) (List.drop (Int.toNat q.fAt) r1.2.fS))) = 0))))))

def vRInt (F : Nat) (q : TValueReader) : Option (Bool × TValueReader) :=
 obn (vTake q ([45] : Str)) fun r1 => obn (lop (fun σ => vRInt_b1 r1 σ) F r1.2.fAt) (oute fun ν => vRInt_k1 q r1 ν)

def vRScalar_j1 (x57 : Str) (x58 : Int) (x59 : (List TApiCell)) (x61 : Bool) : Option (Bool × TValueReader) :=
 some (true, (TValueReader.mk x57 x58 x59 x61))

def vRScalar (F : Nat) (q : TValueReader) : Option (Bool × TValueReader) :=
 obn (vTake q ([110, 117, 108, 108] : Str)) fun r62 => cnd (r62.1) (chk (inA 40 (r62.2.fCells.length + ([(TApiCell.mk 1 0 ([] : Str) 0)] : List TApiCell).length)) <| vRScalar_j1 r62.2.fS r62.2.fAt (r62.2.fCells ++ ([(TApiCell.mk 1 0 ([] : Str) 0)] : List TApiCell)) r62.2.fGreat) (obn (vTake r62.2 ([116, 114, 117, 101] : Str)) fun r73 => cnd (r73.1) (chk (inA 40 (r73.2.fCells.length + ([(TApiCell.mk 2 1 ([] : Str) 0)] : List TApiCell).length)) <| vRScalar_j1 r73.2.fS r73.2.fAt (r73.2.fCells ++ ([(TApiCell.mk 2 1 ([] : Str) 0)] : List TApiCell)) r73.2.fGreat) (obn (vTake r73.2 ([102, 97, 108, 115, 101] : Str)) fun r84 => cnd (r84.1) (chk (inA 40 (r84.2.fCells.length + ([(TApiCell.mk 2 0 ([] : Str) 0)] : List TApiCell).length)) <| vRScalar_j1 r84.2.fS r84.2.fAt (r84.2.fCells ++ ([(TApiCell.mk 2 0 ([] : Str) 0)] : List TApiCell)) r84.2.fGreat) (chk (inC r84.2.fAt (r84.2.fS.length : Int)) <| obn (hasPrefix (List.drop (Int.toNat r84.2.fAt) r84.2.fS) ([34] : Str)) fun r97 => cnd (r97) (obn (vRStr F r84.2) fun r102 => cnd (!r102.2.1) (some (false, r102.2.2)) (chk (inA 40 (r102.2.2.fCells.length + ([(TApiCell.mk 4 0 r102.1 0)] : List TApiCell).length)) <| vRScalar_j1 r102.2.2.fS r102.2.2.fAt (r102.2.2.fCells ++ ([(TApiCell.mk 4 0 r102.1 0)] : List TApiCell)) r102.2.2.fGreat)) (obn (vRInt F r84.2) fun r114 => some (r114.1, r114.2)))))

def vRValue_b2 (rec_vRValue : TValueReader → Option (Bool × TValueReader)) (x16 : (List TApiCell)) (x107 : Int) (x108 : Str) (x109 : Int) (x110 : (List TApiCell)) (x112 : Bool) : Option (Stp (Int × Str × Int × (List TApiCell) × Bool) (Out (Bool × TValueReader) (Unit))) :=
 obn (rec_vRValue (TValueReader.mk x108 x109 x110 x112)) fun r150 => cnd (!r150.1) (some (.out (.ret (false, r150.2)))) (chk (inR (x16.length : Int) (r150.2.fCells.length : Int)) <| bnd (List.set r150.2.fCells (Int.toNat (x16.length : Int)) (TApiCell.mk ((at' r150.2.fCells (x16.length : Int)).fKind) ((at' r150.2.fCells (x16.length : Int)).fInt) ((at' r150.2.fCells (x16.length : Int)).fStr) x107)) fun r160 => obn (vTake (TValueReader.mk r150.2.fS r150.2.fAt r160 r150.2.fGreat) ([93] : Str)) fun r163 => cnd (r163.1) (some (.out (.ret (true, r163.2)))) (obn (vTake r163.2 ([44] : Str)) fun r171 => cnd (!r171.1) (some (.out (.ret (false, r171.2)))) (chk (inK .i64 (x107 + 1)) <| some (.next (x107 + 1, r171.2.fS, r171.2.fAt, r171.2.fCells, r171.2.fGreat)))))

def vRValue_k2  : Option (Bool × TValueReader) :=
 none

def vRValue_j4 (rec_vRValue : TValueReader → Option (Bool × TValueReader)) (x16 : (List TApiCell)) (x349 : Int) (r449 : Str × Bool × TValueReader) (x473 : Bool) (x474 : Bool) (x475 : Bool) (x476 : Str) (x477 : Int) (x478 : (List TApiCell)) (x480 : Bool) : Option (Stp (Str × Int × Str × Int × (List TApiCell) × Bool) (Out (Bool × TValueReader) (Unit))) :=
 cnd (x475) (some (.out (.ret (false, (TValueReader.mk x476 x477 x478 x480))))) (chk (inA 40 (x478.length + ([(TApiCell.mk 4 0 r449.1 0)] : List TApiCell).length)) <| obn (rec_vRValue (TValueReader.mk x476 x477 (x478 ++ ([(TApiCell.mk 4 0 r449.1 0)] : List TApiCell)) x480)) fun r507 => cnd (!r507.1) (some (.out (.ret (false, r507.2)))) (chk (inR (x16.length : Int) (r507.2.fCells.length : Int)) <| bnd (List.set r507.2.fCells (Int.toNat (x16.length : Int)) (TApiCell.mk ((at' r507.2.fCells (x16.length : Int)).fKind) ((at' r507.2.fCells (x16.length : Int)).fInt) ((at' r507.2.fCells (x16.length : Int)).fStr) x349)) fun r517 => obn (vTake (TValueReader.mk r507.2.fS r507.2.fAt r517 r507.2.fGreat) ([125] : Str)) fun r520 => cnd (r520.1) (some (.out (.ret (true, r520.2)))) (obn (vTake r520.2 ([44] : Str)) fun r528 => cnd (!r528.1) (some (.out (.ret (false, r528.2)))) (chk (inK .i64 (x349 + 1)) <| some (.next (r449.1, x349 + 1, r528.2.fS, r528.2.fAt, r528.2.fCells, r528.2.fGreat))))))

def vRValue_b3 (F : Nat) (rec_vRValue : TValueReader → Option (Bool × TValueReader)) (x16 : (List TApiCell)) (x348 : Str) (x349 : Int) (x350 : Str) (x351 : Int) (x352 : (List TApiCell)) (x354 : Bool) : Option (Stp (Str × Int × Str × Int × (List TApiCell) × Bool) (Out (Bool × TValueReader) (Unit))) :=
 obn (vRStr F (TValueReader.mk x350 x351 x352 x354)) fun r449 => cnd (!r449.2.1) (vRValue_j4 rec_vRValue x16 x349 r449 true true true r449.2.2.fS r449.2.2.fAt r449.2.2.fCells r449.2.2.fGreat) (cnd (decide (1 < x349)) (cnd (sLess r449.1 x348 || decide (r449.1 = x348)) (vRValue_j4 rec_vRValue x16 x349 r449 (sLess r449.1 x348 || decide (r449.1 = x348)) (sLess r449.1 x348 || decide (r449.1 = x348)) true r449.2.2.fS r449.2.2.fAt r449.2.2.fCells r449.2.2.fGreat) (obn (vTake r449.2.2 ([58] : Str)) fun r489 => vRValue_j4 rec_vRValue x16 x349 r449 (sLess r449.1 x348 || decide (r449.1 = x348)) (sLess r449.1 x348 || decide (r449.1 = x348)) (!r489.1) r489.2.fS r489.2.fAt r489.2.fCells r489.2.fGreat)) (obn (vTake r449.2.2 ([58] : Str)) fun r494 => vRValue_j4 rec_vRValue x16 x349 r449 false false (!r494.1) r494.2.fS r494.2.fAt r494.2.fCells r494.2.fGreat))

def vRValue_k3  : Option (Bool × TValueReader) :=
 none

def vRValue_j1 (F : Nat) (rec_vRValue : TValueReader → Option (Bool × TValueReader)) (r1 : Bool × TValueReader) (x13 : Bool) (x14 : Str) (x15 : Int) (x16 : (List TApiCell)) (x18 : Bool) : Option (Bool × TValueReader) :=
 cnd (x13) (obn (vRScalar F (TValueReader.mk x14 x15 x16 x18)) fun r29 => some (r29.1, r29.2)) (cnd (r1.1) (chk (inA 40 (x16.length + ([(TApiCell.mk 5 0 ([] : Str) 0)] : List TApiCell).length)) <| obn (vTake (TValueReader.mk x14 x15 (x16 ++ ([(TApiCell.mk 5 0 ([] : Str) 0)] : List TApiCell)) x18) ([93] : Str)) fun r40 => cnd (r40.1) (some (true, r40.2)) (obn (lop (fun σ => vRValue_b2 rec_vRValue x16 σ.1 σ.2.1 σ.2.2.1 σ.2.2.2.1 σ.2.2.2.2) F (1, r40.2.fS, r40.2.fAt, r40.2.fCells, r40.2.fGreat)) (oute fun ν => vRValue_k2 ))) (chk (inA 40 (x16.length + ([(TApiCell.mk 6 0 ([] : Str) 0)] : List TApiCell).length)) <| obn (vTake (TValueReader.mk x14 x15 (x16 ++ ([(TApiCell.mk 6 0 ([] : Str) 0)] : List TApiCell)) x18) ([125] : Str)) fun r188 => cnd (r188.1) (some (true, r188.2)) (obn (lop (fun σ => vRValue_b3 F rec_vRValue x16 σ.1 σ.2.1 σ.2.2.1 σ.2.2.2.1 σ.2.2.2.2.1 σ.2.2.2.2.2) F (([] : Str), 1, r188.2.fS, r188.2.fAt, r188.2.fCells, r188.2.fGreat)) (oute fun ν => vRValue_k3 ))))

def vRValuem (F : Nat) (rec_vRValue : TValueReader → Option (Bool × TValueReader)) (q : TValueReader) : Option (Bool × TValueReader) :=
 obn (vTake q ([91] : Str)) fun r1 => cnd (!r1.1) (obn (vTake r1.2 ([123] : Str)) fun r21 => vRValue_j1 F rec_vRValue r1 (!r21.1) r21.2.fS r21.2.fAt r21.2.fCells r21.2.fGreat) (vRValue_j1 F rec_vRValue r1 false r1.2.fS r1.2.fAt r1.2.fCells r1.2.fGreat)

def vRValue : Nat → TValueReader → Option (Bool × TValueReader)
 | 0, _ => none
 | nn + 1, q => vRValuem nn (vRValue nn) q

def vDecode_j1 (F : Nat) (x12 : Bool) (x13 : Str) (x14 : Int) (x15 : (List TApiCell)) (x17 : Bool) : Option ((List TApiCell) × Int) :=
 cnd (x12) (some (([] : List TApiCell), 1)) (cnd (x17) (some (([] : List TApiCell), 2)) (obn (vChecked F x15) fun r32 => some (r32.1, r32.2)))

def vDecode (F : Nat) (s : Str) : Option ((List TApiCell) × Int) :=
 cnd (decide (4000 < (s.length : Int))) (some (([] : List TApiCell), 3)) (obn (vRValue F (TValueReader.mk s 0 ([] : List TApiCell) false)) fun r18 => cnd (!r18.1) (vDecode_j1 F true r18.2.fS r18.2.fAt r18.2.fCells r18.2.fGreat) (vDecode_j1 F (!decide (r18.2.fAt = (s.length : Int))) r18.2.fS r18.2.fAt r18.2.fCells r18.2.fGreat))

end Go.Proofs.YtkalifgebccpcaaDoor

/-
  Walks, printed by a small program of ours (gq.py).
-/
namespace Go.Proofs.YtkalifgebccpcaaDoor.Q
open Go Go.RowKit
set_option linter.unusedVariables false
set_option linter.unusedSimpArgs false
set_option maxRecDepth 100000
set_option maxHeartbeats 4000000
theorem built61 (parts : List (Nat × Value)) : Tryd.prog.built 61 parts = Instr.fill (fun i => (#[(0, 1), (1, 1), (2, 1), (3, 1)] : Array (Nat × Nat))[i]?) #[(.string ⟨#[]⟩), (.int .i64 0), ((.slice none 0 0)), (.bool false)] parts := by kernel_rfl
theorem o_build61_0 {n : Nat} {c : Cx} {l : Fr} {H : List Ent} {d : Option Nat} {ty : TypeId} {pos : String} {af : Array Edge} {g : Option (Nat × Bool)} {x0 : Operand} {r0 : Rp} (h0 : ev l x0 = some r0) (u0 : r0.one = true) : ORun Tryd.prog n c l H { dst := d, op := .build 61 #[(0, x0)], type := ty, pos := pos, after := af, guard := g } (rAgg [r0, rI .i64 0, rv (.slice none 0 0), rB false]) := fun a w Z ha _ => by
  have p0 := ha.ev h0
  have c0 := cells_one (r0.hone u0 Z _ p0)
  have hb : Tryd.prog.built 61 [(0, a.eval x0)] = some #[a.eval x0, (.int .i64 0), ((.slice none 0 0)), (.bool false)] := by
    rw [built61]
    generalize a.eval x0 = v0 at *
    simp [Instr.fill, c0]
  refine ⟨.agg #[a.eval x0, (.int .i64 0), ((.slice none 0 0)), (.bool false)], ⟨[a.eval x0, (.int .i64 0), ((.slice none 0 0)), (.bool false)], rfl, p0, rfl, rfl, rfl, trivial⟩, ?_⟩
  have := run_build w 61 #[(0, a.eval x0)] _ (by simpa using hb)
  simp [execOp, this]
theorem slHasPrefix_w (s : Str) (p : Str) (r : Bool) (h : slHasPrefix s p = some r) : Fn Tryd.prog GE 77 [rS s, rS p] [] (fun R H => R = rB r ∧ H = []) := by
 refine enter (n := 18) Tryd.func77 rfl Tryd.ntmps77 rfl (fun w Z => ?_)
 refine wc_as (l' := [(0, rS s), (1, rS p)]) (H' := []) rfl rfl ?_
 unfold slHasPrefix at h
 refine wc_sr ?_
 refine wv (r := rB false) (o_assign rfl) ?_
 refine wl_x ?_
 obtain ⟨g1, h2⟩ := chk_e h
 refine wc_seq_mid [(4, rB ((decide ((p.length : Int) ≤ (s.length : Int))) && (decide ((List.take (Int.toNat (p.length : Int)) s) = p))))] [] ?_ ?_
 ·refine wc_region ?_
  refine wm rfl ?_
  refine wv (o_len_s Tryd.underlying9 rfl) ?_
  refine wm rfl ?_
  refine wv (o_len_s Tryd.underlying9 rfl) ?_
  refine wv (o_ge rfl rfl) ?_
  refine wm rfl ?_
  refine bsplit (decide ((p.length : Int) ≤ (s.length : Int))) (fun c3 => ?_) (fun c3 => ?_)
  ·refine wo c3 ?_
   refine wm rfl ?_
   refine wo c3 ?_
   refine wm rfl ?_
   refine wo c3 ?_
   refine wv (o_len_s Tryd.underlying9 rfl) ?_
   refine wo c3 ?_
   refine wv (o_slice_hi Tryd.underlying9 rfl rfl (imp_t g1 c3)) ?_
   refine wo c3 ?_
   refine wm rfl ?_
   refine wo c3 ?_
   refine wv (o_seq rfl rfl) ?_
   refine wpt rfl c3 rfl ?_
   refine wa rfl ?_
   refine wl_nil ?_
   exact wtc c3
  ·refine wf c3 ?_
   refine wf c3 ?_
   refine wf c3 ?_
   refine wf c3 ?_
   refine wf c3 ?_
   refine wf c3 ?_
   refine wv (r := rB false) (o_pick_f (b := decide ((p.length : Int) ≤ (s.length : Int))) rfl c3 rfl) ?_
   refine wa rfl ?_
   refine wl_nil ?_
   exact wtc c3
 refine wc_ret ?_
 obtain rfl := some_e h2
 exact wk_ret (r_1 Tryd.results77 (rv_t rfl)) sN ⟨rfl, rfl⟩

theorem hasPrefix_w (s : Str) (p : Str) (r : Bool) (h : hasPrefix s p = some r) : Fn Tryd.prog GE 68 [rS s, rS p] [] (fun R H => R = rB r ∧ H = []) := by
 refine enter (n := 8) Tryd.func68 rfl Tryd.ntmps68 rfl (fun w Z => ?_)
 refine wc_as (l' := [(0, rS s), (1, rS p)]) (H' := []) rfl rfl ?_
 unfold hasPrefix at h
 refine wc_sr ?_
 refine wv (r := rB false) (o_assign rfl) ?_
 refine wl_y ?_
 refine wm rfl ?_
 refine wm rfl ?_
 obtain ⟨r1, e3, h2⟩ := obn_e h
 refine wc0 Tryd.call77 (slHasPrefix_w s p r1 e3) rfl ?_
 refine wa rfl ?_
 refine wl_x ?_
 refine wc_ret ?_
 obtain rfl := some_e h2
 exact wk_ret (r_1 Tryd.results68 (rv_t rfl)) sN ⟨rfl, rfl⟩

theorem vTake_w (b_q : Nat) (v_q_2 : Value) (q : TValueReader) (s : Str) (r : Bool × TValueReader) (h : vTake q s = some r) : Fn Tryd.prog GE 56 [rv (.pointer (some ⟨b_q, 0, none⟩)), rS s] [.blk b_q [rS q.fS, rI .i64 q.fAt, rv v_q_2, rB q.fGreat] 61, .row v_q_2 40 4 (List.map eTApiCell q.fCells)] (fun R H => ∃ w0_2 : Value, R = rB r.1 ∧ H = [.blk b_q [rS r.2.fS, rI .i64 r.2.fAt, rv w0_2, rB r.2.fGreat] 61, .row w0_2 40 4 (List.map eTApiCell r.2.fCells)]) := by
 refine enter (n := 26) Tryd.func56 rfl Tryd.ntmps56 rfl (fun w Z => ?_)
 refine wc_as (l' := [(0, rv (.pointer (some ⟨b_q, 0, none⟩))), (1, rS s)]) (H' := [.blk b_q [rS q.fS, rI .i64 q.fAt, rv v_q_2, rB q.fGreat] 61, .row v_q_2 40 4 (List.map eTApiCell q.fCells)]) rfl rfl ?_
 unfold vTake at h
 refine wc_sr ?_
 refine wv (r := rB false) (o_assign rfl) ?_
 refine wl_x ?_
 refine wc_seq ?_
 refine wc_seq ?_
 obtain ⟨g1, h2⟩ := chk_e h
 obtain ⟨r3, e5, h4⟩ := obn_e h2
 refine wc_rdq [0, 1] [⟨[], rv (.pointer (some ⟨b_q, 0, none⟩)), 0⟩, ⟨[0], rv (.pointer (some ⟨b_q, 0, none⟩)), 0⟩, ⟨[1], rv (.pointer (some ⟨b_q, 0, none⟩)), 0⟩, ⟨[2], rS q.fS, 1⟩, ⟨[], rv (.pointer (some ⟨b_q, 0, none⟩)), 0⟩, ⟨[4], rv (.pointer (some ⟨b_q, 0, none⟩)), 0⟩, ⟨[5], rv (.pointer (some ⟨b_q, 1, none⟩)), 0⟩, ⟨[6], rI .i64 q.fAt, 1⟩, ⟨[3, 7], rS (List.drop (Int.toNat q.fAt) q.fS), 0⟩, ⟨[], rS s, 0⟩, ⟨[8, 9], rB r3, 0⟩, ⟨[10], rB (!r3), 0⟩] [16, 0, 1] ?_ ?_
 ·refine oq (o_move rfl) ?_
  refine oq (o_nilcheck rfl) ?_
  refine oq (o_fieldAddr Tryd.underlying61 rfl Tryd.sizeOf9 rfl rfl) ?_
  refine of (o_load (i := 0) Tryd.isAgg9 rfl rfl rfl) ?_
  refine oq (o_move rfl) ?_
  refine oq (o_nilcheck rfl) ?_
  refine oq (o_fieldAddr Tryd.underlying61 rfl Tryd.sizeOf3 rfl rfl) ?_
  refine of (o_load (i := 0) Tryd.isAgg3 rfl rfl rfl) ?_
  refine oq (o_slice_lo Tryd.underlying9 rfl rfl g1) ?_
  refine oq (o_move rfl) ?_
  refine obl_q rfl (fun H => ok_c0 Tryd.call68 (hasPrefix_w (List.drop (Int.toNat q.fAt) q.fS) s r3 e5) rfl) ?_
  refine oq (o_not rfl) ?_
  exact obl_e
 refine wk_x ?_
 refine wc_cond (b := !r3) rfl (fun c6 => ?_) (fun c6 => ?_)
 ·have h7 := cnd_t c6 h4
  refine wc_sr ?_
  refine wv (r := rB false) (o_assign rfl) ?_
  refine wl_x ?_
  refine wc_ret ?_
  refine wk_then_ret ?_
  obtain rfl := some_e h7
  exact wk_ret (r_1 Tryd.results56 (rv_t rfl)) (sC (sC sN)) ⟨v_q_2, rfl, rfl⟩
 ·have h8 := cnd_f c6 h4
  refine wc_skip ?_
  refine wk_x ?_
  refine wc_sr ?_
  refine wm rfl ?_
  refine wv (o_nilcheck rfl) ?_
  refine wv (o_fieldAddr Tryd.underlying61 rfl Tryd.sizeOf3 rfl rfl) ?_
  refine wv (o_load (i := 0) Tryd.isAgg3 rfl rfl rfl) ?_
  refine wm rfl ?_
  refine wv (o_len_s Tryd.underlying9 rfl) ?_
  obtain ⟨g9, h10⟩ := chk_e h8
  refine wv (o_add rfl rfl g9) ?_
  refine wv (o_nilcheck rfl) ?_
  refine wv (o_fieldAddr Tryd.underlying61 rfl Tryd.sizeOf3 rfl rfl) ?_
  refine u_store (i := 0) Tryd.sizeOf3 rfl rfl (one_c rfl) rfl rfl (cs' := [rS q.fS, rI .i64 (q.fAt + (s.length : Int)), rv v_q_2, rB q.fGreat]) rfl (H' := [.blk b_q [rS q.fS, rI .i64 (q.fAt + (s.length : Int)), rv v_q_2, rB q.fGreat] 61, .row v_q_2 40 4 (List.map eTApiCell q.fCells)]) rfl ?_
  refine wl_y ?_
  refine wv (r := rB true) (o_assign rfl) ?_
  refine wl_x ?_
  refine wc_ret ?_
  obtain rfl := some_e h10
  exact wk_ret (r_1 Tryd.results56 (rv_t rfl)) (sC (sC sN)) ⟨v_q_2, rfl, rfl⟩

theorem vRStr_w (F : Nat) (b_q : Nat) (v_q_2 : Value) (q : TValueReader) (r : Str × Bool × TValueReader) (h : vRStr F q = some r) : Fn Tryd.prog GE 58 [rv (.pointer (some ⟨b_q, 0, none⟩))] [.blk b_q [rS q.fS, rI .i64 q.fAt, rv v_q_2, rB q.fGreat] 61, .row v_q_2 40 4 (List.map eTApiCell q.fCells)] (fun R H => ∃ w0_2 : Value, R = rTup [rS r.1, rB r.2.1] ∧ H = [.blk b_q [rS r.2.2.fS, rI .i64 r.2.2.fAt, rv w0_2, rB r.2.2.fGreat] 61, .row w0_2 40 4 (List.map eTApiCell r.2.2.fCells)]) := by
 refine enter (n := 104) Tryd.func58 rfl Tryd.ntmps58 rfl (fun w Z => ?_)
 refine wc_as (l' := [(0, rv (.pointer (some ⟨b_q, 0, none⟩)))]) (H' := [.blk b_q [rS q.fS, rI .i64 q.fAt, rv v_q_2, rB q.fGreat] 61, .row v_q_2 40 4 (List.map eTApiCell q.fCells)]) rfl rfl ?_
 unfold vRStr at h
 refine wc_sr ?_
 refine wv (r := rS ([] : Str)) (o_assign rfl) ?_
 refine wv (r := rB false) (o_assign rfl) ?_
 refine wl_x ?_
 refine wc_seq ?_
 refine wc_sr ?_
 refine wm rfl ?_
 obtain ⟨r1, e3, h2⟩ := obn_e h
 refine wcl (Hr := []) Tryd.call56 (vTake_w b_q v_q_2 q ([34] : Str) r1 e3) rfl (List.Perm.refl _) rfl ?_
 rintro _ _ ⟨v4, rfl, rfl⟩
 refine wv (o_not rfl) ?_
 refine wl_x ?_
 refine wc_cond (b := !r1.1) rfl (fun c5 => ?_) (fun c5 => ?_)
 ·have h6 := cnd_t c5 h2
  refine wc_sr ?_
  refine wv (r := rS ([] : Str)) (o_assign rfl) ?_
  refine wv (r := rB false) (o_assign rfl) ?_
  refine wl_x ?_
  refine wc_ret ?_
  refine wk_then_ret ?_
  obtain rfl := some_e h6
  exact wk_ret (r_2 Tryd.results58 (rv_t rfl) (rv_t rfl)) (sC (sC sN)) ⟨v4, rfl, rfl⟩
 ·have h7 := cnd_f c5 h2
  refine wc_skip ?_
  refine wk_x ?_
  refine wc_sr ?_
  refine wv (r := rv (.slice none 0 0)) (o_assign rfl) ?_
  refine wl_x ?_
  refine wc_seq ?_
  refine wc_block ?_
  refine WC.nilrow (e := 5) (sz := 1) ?_
  refine wc_perm (H2 := [.blk b_q [rS r1.2.fS, rI .i64 r1.2.fAt, rv v4, rB r1.2.fGreat] 61, .row v4 40 4 (List.map eTApiCell r1.2.fCells), .row (.slice none 0 0     ) 5 1 (List.map eI_u8 ([] : List Int))]) ((perm_front (i := 1) rfl).trans (List.Perm.cons _ ((perm_front (i := 1) rfl).trans (List.Perm.cons _ (List.Perm.refl _))))) ?_
  obtain ⟨o426, eo427, hK428⟩ := obn_e h7
  refine wc_loop2 (S := Nat × ((List Int) × Int) × (Value)) (V := (Int) × (Unit)) 0 (fun σ => lop (fun σ => vRStr_b1 r1 σ.1 σ.2) σ.1 σ.2.1 = some o426) (fun σ => [(0, rv (.pointer (some ⟨b_q, 0, none⟩))), (4, rv σ.2.2)]) (fun σ => [.blk b_q [rS r1.2.fS, rI .i64 σ.2.1.2, rv v4, rB r1.2.fGreat] 61, .row v4 40 4 (List.map eTApiCell r1.2.fCells), .row σ.2.2 5 1 (List.map eI_u8 σ.2.1.1)]) (fun σ => σ.1) (F, (([] : List Int), r1.2.fAt), (.slice none 0 0     )) eo427 (Sub.c rfl (Sub.c rfl Sub.nil)) (sC (sC (sC sN))) (fun σ => vRStr_k1 r1 σ.1 = some r) (fun σ => []) (fun σ => [.blk b_q [rS r1.2.fS, rI .i64 σ.1, rv v4, rB r1.2.fGreat] 61, .row v4 40 4 (List.map eTApiCell r1.2.fCells)]) ?_ ?_
  ·rintro ⟨n434, ⟨x366, x368⟩, v367⟩ hi432
   refine wc_as (l' := [(0, rv (.pointer (some ⟨b_q, 0, none⟩))), (4, rv v367)]) (H' := [.blk b_q [rS r1.2.fS, rI .i64 x368, rv v4, rB r1.2.fGreat] 61, .row v4 40 4 (List.map eTApiCell r1.2.fCells), .row v367 5 1 (List.map eI_u8 x366)]) rfl rfl ?_
   obtain ⟨m431, rfl, t429, h433, ht430⟩ := lop_e hi432
   replace h433 : vRStr_b1 r1 x366 x368 = some t429 := h433
   unfold vRStr_b1 at h433
   refine wc_seq ?_
   refine wc_seq ?_
   refine wc_rdq [0, 4] [⟨[], rv (.pointer (some ⟨b_q, 0, none⟩)), 0⟩, ⟨[0], rv (.pointer (some ⟨b_q, 0, none⟩)), 0⟩, ⟨[1], rv (.pointer (some ⟨b_q, 1, none⟩)), 0⟩, ⟨[2], rI .i64 x368, 1⟩, ⟨[], rv (.pointer (some ⟨b_q, 0, none⟩)), 0⟩, ⟨[4], rv (.pointer (some ⟨b_q, 0, none⟩)), 0⟩, ⟨[5], rv (.pointer (some ⟨b_q, 0, none⟩)), 0⟩, ⟨[6], rS r1.2.fS, 1⟩, ⟨[7], rI .i64 (r1.2.fS.length : Int), 0⟩, ⟨[3, 8], rB (decide (x368 < (r1.2.fS.length : Int))), 0⟩] [9, 10, 11, 12, 13, 14, 15, 16, 17, 18, 0, 4] ?_ ?_
   ·refine oq (o_move rfl) ?_
    refine oq (o_nilcheck rfl) ?_
    refine oq (o_fieldAddr Tryd.underlying61 rfl Tryd.sizeOf3 rfl rfl) ?_
    refine of (o_load (i := 0) Tryd.isAgg3 rfl rfl rfl) ?_
    refine oq (o_move rfl) ?_
    refine oq (o_nilcheck rfl) ?_
    refine oq (o_fieldAddr Tryd.underlying61 rfl Tryd.sizeOf9 rfl rfl) ?_
    refine of (o_load (i := 0) Tryd.isAgg9 rfl rfl rfl) ?_
    refine oq (o_len_s Tryd.underlying9 rfl) ?_
    refine oq (o_lt rfl rfl) ?_
    exact obl_e
   refine wk_x ?_
   refine wc_cond (b := decide (x368 < (r1.2.fS.length : Int))) rfl (fun c435 => ?_) (fun c435 => ?_)
   ·have h436 := cnd_t c435 h433
    refine wc_skip ?_
    refine wk_x ?_
    refine wc_block ?_
    refine wc_seq ?_
    obtain ⟨g437, h438⟩ := chk_e h436
    refine wc_rdq [0, 4, 9, 10, 11, 12, 13, 14, 15, 16, 17] [⟨[], rv (.pointer (some ⟨b_q, 0, none⟩)), 0⟩, ⟨[0], rv (.pointer (some ⟨b_q, 0, none⟩)), 0⟩, ⟨[1], rv (.pointer (some ⟨b_q, 0, none⟩)), 0⟩, ⟨[2], rS r1.2.fS, 1⟩, ⟨[], rv (.pointer (some ⟨b_q, 0, none⟩)), 0⟩, ⟨[4], rv (.pointer (some ⟨b_q, 0, none⟩)), 0⟩, ⟨[5], rv (.pointer (some ⟨b_q, 1, none⟩)), 0⟩, ⟨[6], rI .i64 x368, 1⟩, ⟨[3, 7], rI .u8 (bat r1.2.fS x368), 0⟩, ⟨[8], rI .u8 (bat r1.2.fS x368), 0⟩] [19, 20, 21, 22, 23, 24, 25, 26, 27, 5, 0, 4, 9, 10, 11, 12, 13, 14, 15, 16, 17] ?_ ?_
    ·refine oq (o_move rfl) ?_
     refine oq (o_nilcheck rfl) ?_
     refine oq (o_fieldAddr Tryd.underlying61 rfl Tryd.sizeOf9 rfl rfl) ?_
     refine of (o_load (i := 0) Tryd.isAgg9 rfl rfl rfl) ?_
     refine oq (o_move rfl) ?_
     refine oq (o_nilcheck rfl) ?_
     refine oq (o_fieldAddr Tryd.underlying61 rfl Tryd.sizeOf3 rfl rfl) ?_
     refine of (o_load (i := 0) Tryd.isAgg3 rfl rfl rfl) ?_
     refine oq (o_index_b Tryd.underlying9 rfl rfl g437) ?_
     refine oq (o_assign rfl) ?_
     exact obl_e
    refine wk_x ?_
    refine wc_sr ?_
    refine wm rfl ?_
    refine wv (o_nilcheck rfl) ?_
    refine wv (o_fieldAddr Tryd.underlying61 rfl Tryd.sizeOf3 rfl rfl) ?_
    refine wv (o_load (i := 0) Tryd.isAgg3 rfl rfl rfl) ?_
    obtain ⟨g439, h440⟩ := chk_e h438
    refine wv (o_add rfl rfl g439) ?_
    refine wv (o_nilcheck rfl) ?_
    refine wv (o_fieldAddr Tryd.underlying61 rfl Tryd.sizeOf3 rfl rfl) ?_
    refine u_store (i := 0) Tryd.sizeOf3 rfl rfl (one_c rfl) rfl rfl (cs' := [rS r1.2.fS, rI .i64 (x368 + 1), rv v4, rB r1.2.fGreat]) rfl (H' := [.blk b_q [rS r1.2.fS, rI .i64 (x368 + 1), rv v4, rB r1.2.fGreat] 61, .row v4 40 4 (List.map eTApiCell r1.2.fCells), .row v367 5 1 (List.map eI_u8 x366)]) rfl ?_
    refine wl_x ?_
    refine wc_seq_cut (S := (Int × Int) × (Unit)) (fun σ => vRStr_j2 x366 σ.1.1 σ.1.2 = some t429) (fun σ => [(0, rv (.pointer (some ⟨b_q, 0, none⟩))), (4, rv v367), (5, rI .u8 σ.1.1), (9, rv (.pointer (some ⟨b_q, 0, none⟩))), (10, rv (.pointer (some ⟨b_q, 0, none⟩))), (11, rv (.pointer (some ⟨b_q, 1, none⟩))), (12, rI .i64 x368), (13, rv (.pointer (some ⟨b_q, 0, none⟩))), (14, rv (.pointer (some ⟨b_q, 0, none⟩))), (15, rv (.pointer (some ⟨b_q, 0, none⟩))), (16, rS r1.2.fS), (17, rI .i64 (r1.2.fS.length : Int)), (19, rv (.pointer (some ⟨b_q, 0, none⟩))), (20, rv (.pointer (some ⟨b_q, 0, none⟩))), (21, rv (.pointer (some ⟨b_q, 0, none⟩))), (22, rS r1.2.fS), (23, rv (.pointer (some ⟨b_q, 0, none⟩))), (24, rv (.pointer (some ⟨b_q, 0, none⟩))), (25, rv (.pointer (some ⟨b_q, 1, none⟩))), (26, rI .i64 x368), (27, rI .u8 (bat r1.2.fS x368))]) (fun σ => [.blk b_q [rS r1.2.fS, rI .i64 σ.1.2, rv v4, rB r1.2.fGreat] 61, .row v4 40 4 (List.map eTApiCell r1.2.fCells), .row v367 5 1 (List.map eI_u8 x366)]) ?_ ?_
    ·refine wc_block ?_
     refine wc_sr ?_
     refine wm rfl ?_
     refine wv (o_eq rfl rfl) ?_
     refine wa rfl ?_
     refine wl_x ?_
     refine wc_cond (b := decide ((bat r1.2.fS x368) = 34)) rfl (fun c464 => ?_) (fun c464 => ?_)
     ·have h465 := cnd_t c464 h440
      refine wc_sr ?_
      refine wm rfl ?_
      refine wv (r := rS (ofI x366)) (o_b2s (xs := x366) (i := 2) Tryd.underlying48 Tryd.underlying9 Tryd.underlying5 rfl rfl) ?_
      refine wa rfl ?_
      refine wv (r := rB true) (o_assign rfl) ?_
      refine wl_x ?_
      refine wc_ret ?_
      refine wk_in_ret ?_
      refine wk_then_ret ?_
      refine wk_in_ret ?_
      refine wk_then_ret ?_
      refine wk_cut_ret ?_
      have h466 := stp_ret h465 ht430 hK428
      refine wk_in_ret ?_
      refine wk_then_ret ?_
      obtain rfl := some_e h466
      exact wk_ret (r_2 Tryd.results58 (rv_t rfl) (rv_t rfl)) (sC (sC (sS sN))) ⟨v4, rfl, rfl⟩
     ·have h467 := cnd_f c464 h440
      refine wc_seq_mid [(0, rv (.pointer (some ⟨b_q, 0, none⟩))), (4, rv v367), (5, rI .u8 (bat r1.2.fS x368)), (9, rv (.pointer (some ⟨b_q, 0, none⟩))), (10, rv (.pointer (some ⟨b_q, 0, none⟩))), (11, rv (.pointer (some ⟨b_q, 1, none⟩))), (12, rI .i64 x368), (13, rv (.pointer (some ⟨b_q, 0, none⟩))), (14, rv (.pointer (some ⟨b_q, 0, none⟩))), (15, rv (.pointer (some ⟨b_q, 0, none⟩))), (16, rS r1.2.fS), (17, rI .i64 (r1.2.fS.length : Int)), (19, rv (.pointer (some ⟨b_q, 0, none⟩))), (20, rv (.pointer (some ⟨b_q, 0, none⟩))), (21, rv (.pointer (some ⟨b_q, 0, none⟩))), (22, rS r1.2.fS), (23, rv (.pointer (some ⟨b_q, 0, none⟩))), (24, rv (.pointer (some ⟨b_q, 0, none⟩))), (25, rv (.pointer (some ⟨b_q, 1, none⟩))), (26, rI .i64 x368), (27, rI .u8 (bat r1.2.fS x368)), (40, rB ((decide ((bat r1.2.fS x368) < 32)) || (decide (126 < (bat r1.2.fS x368)))))] [.blk b_q [rS r1.2.fS, rI .i64 (x368 + 1), rv v4, rB r1.2.fGreat] 61, .row v4 40 4 (List.map eTApiCell r1.2.fCells), .row v367 5 1 (List.map eI_u8 x366)] ?_ ?_
      ·refine wc_region ?_
       refine wm rfl ?_
       refine wv (o_lt rfl rfl) ?_
       refine wm rfl ?_
       refine bsplit (decide ((bat r1.2.fS x368) < 32)) (fun c468 => ?_) (fun c468 => ?_)
       ·refine wf c468 ?_
        refine wf c468 ?_
        refine wv (r := rB true) (o_pick_t (b := decide ((bat r1.2.fS x368) < 32)) rfl c468 rfl) ?_
        refine wa rfl ?_
        refine wl_nil ?_
        exact wtc c468
       ·refine wo c468 ?_
        refine wm rfl ?_
        refine wo c468 ?_
        refine wv (o_gt rfl rfl) ?_
        refine wpf rfl c468 rfl ?_
        refine wa rfl ?_
        refine wl_nil ?_
        exact wtc c468
      refine wc_cond (b := ((decide ((bat r1.2.fS x368) < 32)) || (decide (126 < (bat r1.2.fS x368))))) rfl (fun c469 => ?_) (fun c469 => ?_)
      ·have h470 := cnd_t c469 h467
       refine wc_sr ?_
       refine wv (r := rS ([] : Str)) (o_assign rfl) ?_
       refine wv (r := rB false) (o_assign rfl) ?_
       refine wl_x ?_
       refine wc_ret ?_
       refine wk_in_ret ?_
       refine wk_then_ret ?_
       refine wk_in_ret ?_
       refine wk_then_ret ?_
       refine wk_cut_ret ?_
       have h471 := stp_ret h470 ht430 hK428
       refine wk_in_ret ?_
       refine wk_then_ret ?_
       obtain rfl := some_e h471
       exact wk_ret (r_2 Tryd.results58 (rv_t rfl) (rv_t rfl)) (sC (sC (sS sN))) ⟨v4, rfl, rfl⟩
      ·have h472 := cnd_f c469 h467
       refine wc_sr ?_
       refine wm rfl ?_
       refine wv (o_eq rfl rfl) ?_
       refine wa rfl ?_
       refine wl_x ?_
       refine wc_cond (b := decide ((bat r1.2.fS x368) = 92)) rfl (fun c473 => ?_) (fun c473 => ?_)
       ·have h474 := cnd_t c473 h472
        refine wc_seq ?_
        obtain ⟨g475, h476⟩ := chk_e h474
        refine wc_seq_mid [(0, rv (.pointer (some ⟨b_q, 0, none⟩))), (4, rv v367), (9, rv (.pointer (some ⟨b_q, 0, none⟩))), (10, rv (.pointer (some ⟨b_q, 0, none⟩))), (11, rv (.pointer (some ⟨b_q, 1, none⟩))), (12, rI .i64 x368), (13, rv (.pointer (some ⟨b_q, 0, none⟩))), (14, rv (.pointer (some ⟨b_q, 0, none⟩))), (15, rv (.pointer (some ⟨b_q, 0, none⟩))), (16, rS r1.2.fS), (17, rI .i64 (r1.2.fS.length : Int)), (19, rv (.pointer (some ⟨b_q, 0, none⟩))), (20, rv (.pointer (some ⟨b_q, 0, none⟩))), (21, rv (.pointer (some ⟨b_q, 0, none⟩))), (22, rS r1.2.fS), (23, rv (.pointer (some ⟨b_q, 0, none⟩))), (24, rv (.pointer (some ⟨b_q, 0, none⟩))), (25, rv (.pointer (some ⟨b_q, 1, none⟩))), (26, rI .i64 x368), (27, rI .u8 (bat r1.2.fS x368)), (50, rv (.pointer (some ⟨b_q, 0, none⟩))), (51, rv (.pointer (some ⟨b_q, 0, none⟩))), (52, rv (.pointer (some ⟨b_q, 1, none⟩))), (53, rI .i64 (x368 + 1)), (54, rv (.pointer (some ⟨b_q, 0, none⟩))), (55, rv (.pointer (some ⟨b_q, 0, none⟩))), (56, rv (.pointer (some ⟨b_q, 0, none⟩))), (57, rS r1.2.fS), (58, rI .i64 (r1.2.fS.length : Int)), (59, rB (decide ((r1.2.fS.length : Int) ≤ (x368 + 1)))), (60, rB (decide ((r1.2.fS.length : Int) ≤ (x368 + 1)))), (83, rB ((decide ((r1.2.fS.length : Int) ≤ (x368 + 1))) || ((!decide ((bat r1.2.fS (x368 + 1)) = 34)) && (!decide ((bat r1.2.fS (x368 + 1)) = 92)))))] [.blk b_q [rS r1.2.fS, rI .i64 (x368 + 1), rv v4, rB r1.2.fGreat] 61, .row v4 40 4 (List.map eTApiCell r1.2.fCells), .row v367 5 1 (List.map eI_u8 x366)] ?_ ?_
        ·refine bsplit (decide ((r1.2.fS.length : Int) ≤ (x368 + 1))) (fun c477 => ?_) (fun c477 => ?_)
         ·refine wc_rdq [0, 4, 9, 10, 11, 12, 13, 14, 15, 16, 17, 19, 20, 21, 22, 23, 24, 25, 26, 27] [⟨[], rv (.pointer (some ⟨b_q, 0, none⟩)), 0⟩, ⟨[0], rv (.pointer (some ⟨b_q, 0, none⟩)), 0⟩, ⟨[1], rv (.pointer (some ⟨b_q, 1, none⟩)), 0⟩, ⟨[2], rI .i64 (x368 + 1), 1⟩, ⟨[], rv (.pointer (some ⟨b_q, 0, none⟩)), 0⟩, ⟨[4], rv (.pointer (some ⟨b_q, 0, none⟩)), 0⟩, ⟨[5], rv (.pointer (some ⟨b_q, 0, none⟩)), 0⟩, ⟨[6], rS r1.2.fS, 1⟩, ⟨[7], rI .i64 (r1.2.fS.length : Int), 0⟩, ⟨[3, 8], rB (decide ((r1.2.fS.length : Int) ≤ (x368 + 1))), 0⟩, ⟨[9], rB (decide ((r1.2.fS.length : Int) ≤ (x368 + 1))), 0⟩, ⟨[10], rv undef, 0⟩, ⟨[11, 10], rv undef, 0⟩, ⟨[12, 10], rv undef, 0⟩, ⟨[13, 10], rv undef, 0⟩, ⟨[10], rv undef, 0⟩, ⟨[15, 10], rv undef, 0⟩, ⟨[16, 10], rv undef, 0⟩, ⟨[17, 10], rv undef, 0⟩, ⟨[14, 18, 10], rv undef, 0⟩, ⟨[19, 10], rv undef, 0⟩, ⟨[20, 10], rv undef, 0⟩, ⟨[21], rv undef, 0⟩, ⟨[22, 21], rv undef, 0⟩, ⟨[23, 21], rv undef, 0⟩, ⟨[24, 21], rv undef, 0⟩, ⟨[21], rv undef, 0⟩, ⟨[26, 21], rv undef, 0⟩, ⟨[27, 21], rv undef, 0⟩, ⟨[28, 21], rv undef, 0⟩, ⟨[25, 29, 21], rv undef, 0⟩, ⟨[30, 21], rv undef, 0⟩, ⟨[21, 31, 10], rv undef, 0⟩, ⟨[10, 32], rB true, 0⟩] [50, 51, 52, 53, 54, 55, 56, 57, 58, 59, 60, 61, 62, 63, 64, 65, 66, 67, 68, 69, 70, 71, 72, 73, 74, 75, 76, 77, 78, 79, 80, 81, 82, 83, 0, 4, 9, 10, 11, 12, 13, 14, 15, 16, 17, 19, 20, 21, 22, 23, 24, 25, 26, 27] ?_ ?_
          ·refine oq (o_move rfl) ?_
           refine oq (o_nilcheck rfl) ?_
           refine oq (o_fieldAddr Tryd.underlying61 rfl Tryd.sizeOf3 rfl rfl) ?_
           refine of (o_load (i := 0) Tryd.isAgg3 rfl rfl rfl) ?_
           refine oq (o_move rfl) ?_
           refine oq (o_nilcheck rfl) ?_
           refine oq (o_fieldAddr Tryd.underlying61 rfl Tryd.sizeOf9 rfl rfl) ?_
           refine of (o_load (i := 0) Tryd.isAgg9 rfl rfl rfl) ?_
           refine oq (o_len_s Tryd.underlying9 rfl) ?_
           refine oq (o_ge rfl rfl) ?_
           refine oq (o_move rfl) ?_
           refine oz c477 ?_
           refine oz c477 ?_
           refine oz c477 ?_
           refine oz c477 ?_
           refine oz c477 ?_
           refine oz c477 ?_
           refine oz c477 ?_
           refine oz c477 ?_
           refine oz c477 ?_
           refine oz c477 ?_
           refine oz c477 ?_
           refine ou ?_
           refine ou ?_
           refine ou ?_
           refine ou ?_
           refine ou ?_
           refine ou ?_
           refine ou ?_
           refine ou ?_
           refine ou ?_
           refine ou ?_
           refine oz c477 ?_
           refine oq (o_pick_t (b := decide ((r1.2.fS.length : Int) ≤ (x368 + 1))) rfl c477 rfl) ?_
           exact obl_e
          exact wtc c477
         ·refine bsplit (!decide ((bat r1.2.fS (x368 + 1)) = 34)) (fun c478 => ?_) (fun c478 => ?_)
          ·refine wc_rdq [0, 4, 9, 10, 11, 12, 13, 14, 15, 16, 17, 19, 20, 21, 22, 23, 24, 25, 26, 27] [⟨[], rv (.pointer (some ⟨b_q, 0, none⟩)), 0⟩, ⟨[0], rv (.pointer (some ⟨b_q, 0, none⟩)), 0⟩, ⟨[1], rv (.pointer (some ⟨b_q, 1, none⟩)), 0⟩, ⟨[2], rI .i64 (x368 + 1), 1⟩, ⟨[], rv (.pointer (some ⟨b_q, 0, none⟩)), 0⟩, ⟨[4], rv (.pointer (some ⟨b_q, 0, none⟩)), 0⟩, ⟨[5], rv (.pointer (some ⟨b_q, 0, none⟩)), 0⟩, ⟨[6], rS r1.2.fS, 1⟩, ⟨[7], rI .i64 (r1.2.fS.length : Int), 0⟩, ⟨[3, 8], rB (decide ((r1.2.fS.length : Int) ≤ (x368 + 1))), 0⟩, ⟨[9], rB (decide ((r1.2.fS.length : Int) ≤ (x368 + 1))), 0⟩, ⟨[10], rv (.pointer (some ⟨b_q, 0, none⟩)), 0⟩, ⟨[11, 10], rv (.pointer (some ⟨b_q, 0, none⟩)), 0⟩, ⟨[12, 10], rv (.pointer (some ⟨b_q, 0, none⟩)), 0⟩, ⟨[13, 10], rS r1.2.fS, 1⟩, ⟨[10], rv (.pointer (some ⟨b_q, 0, none⟩)), 0⟩, ⟨[15, 10], rv (.pointer (some ⟨b_q, 0, none⟩)), 0⟩, ⟨[16, 10], rv (.pointer (some ⟨b_q, 1, none⟩)), 0⟩, ⟨[17, 10], rI .i64 (x368 + 1), 1⟩, ⟨[14, 18, 10], rI .u8 (bat r1.2.fS (x368 + 1)), 0⟩, ⟨[19, 10], rB (!decide ((bat r1.2.fS (x368 + 1)) = 34)), 0⟩, ⟨[20, 10], rB (!decide ((bat r1.2.fS (x368 + 1)) = 34)), 0⟩, ⟨[21], rv (.pointer (some ⟨b_q, 0, none⟩)), 0⟩, ⟨[22, 21], rv (.pointer (some ⟨b_q, 0, none⟩)), 0⟩, ⟨[23, 21], rv (.pointer (some ⟨b_q, 0, none⟩)), 0⟩, ⟨[24, 21], rS r1.2.fS, 1⟩, ⟨[21], rv (.pointer (some ⟨b_q, 0, none⟩)), 0⟩, ⟨[26, 21], rv (.pointer (some ⟨b_q, 0, none⟩)), 0⟩, ⟨[27, 21], rv (.pointer (some ⟨b_q, 1, none⟩)), 0⟩, ⟨[28, 21], rI .i64 (x368 + 1), 1⟩, ⟨[25, 29, 21], rI .u8 (bat r1.2.fS (x368 + 1)), 0⟩, ⟨[30, 21], rB (!decide ((bat r1.2.fS (x368 + 1)) = 92)), 0⟩, ⟨[21, 31, 10], rB (!decide ((bat r1.2.fS (x368 + 1)) = 92)), 0⟩, ⟨[10, 32], rB (!decide ((bat r1.2.fS (x368 + 1)) = 92)), 0⟩] [50, 51, 52, 53, 54, 55, 56, 57, 58, 59, 60, 61, 62, 63, 64, 65, 66, 67, 68, 69, 70, 71, 72, 73, 74, 75, 76, 77, 78, 79, 80, 81, 82, 83, 0, 4, 9, 10, 11, 12, 13, 14, 15, 16, 17, 19, 20, 21, 22, 23, 24, 25, 26, 27] ?_ ?_
           ·refine oq (o_move rfl) ?_
            refine oq (o_nilcheck rfl) ?_
            refine oq (o_fieldAddr Tryd.underlying61 rfl Tryd.sizeOf3 rfl rfl) ?_
            refine of (o_load (i := 0) Tryd.isAgg3 rfl rfl rfl) ?_
            refine oq (o_move rfl) ?_
            refine oq (o_nilcheck rfl) ?_
            refine oq (o_fieldAddr Tryd.underlying61 rfl Tryd.sizeOf9 rfl rfl) ?_
            refine of (o_load (i := 0) Tryd.isAgg9 rfl rfl rfl) ?_
            refine oq (o_len_s Tryd.underlying9 rfl) ?_
            refine oq (o_ge rfl rfl) ?_
            refine oq (o_move rfl) ?_
            refine on c477 ?_
            refine oq (o_move rfl) ?_
            refine on c477 ?_
            refine oq (o_nilcheck rfl) ?_
            refine on c477 ?_
            refine oq (o_fieldAddr Tryd.underlying61 rfl Tryd.sizeOf9 rfl rfl) ?_
            refine on c477 ?_
            refine of (o_load (i := 0) Tryd.isAgg9 rfl rfl rfl) ?_
            refine on c477 ?_
            refine oq (o_move rfl) ?_
            refine on c477 ?_
            refine oq (o_nilcheck rfl) ?_
            refine on c477 ?_
            refine oq (o_fieldAddr Tryd.underlying61 rfl Tryd.sizeOf3 rfl rfl) ?_
            refine on c477 ?_
            refine of (o_load (i := 0) Tryd.isAgg3 rfl rfl rfl) ?_
            refine on c477 ?_
            refine oq (o_index_b Tryd.underlying9 rfl rfl (imp_f g475 c477)) ?_
            refine on c477 ?_
            refine oq (o_ne rfl rfl) ?_
            refine on c477 ?_
            refine oq (o_move rfl) ?_
            refine on c478 ?_
            refine oq (o_move rfl) ?_
            refine on c478 ?_
            refine oq (o_nilcheck rfl) ?_
            refine on c478 ?_
            refine oq (o_fieldAddr Tryd.underlying61 rfl Tryd.sizeOf9 rfl rfl) ?_
            refine on c478 ?_
            refine of (o_load (i := 0) Tryd.isAgg9 rfl rfl rfl) ?_
            refine on c478 ?_
            refine oq (o_move rfl) ?_
            refine on c478 ?_
            refine oq (o_nilcheck rfl) ?_
            refine on c478 ?_
            refine oq (o_fieldAddr Tryd.underlying61 rfl Tryd.sizeOf3 rfl rfl) ?_
            refine on c478 ?_
            refine of (o_load (i := 0) Tryd.isAgg3 rfl rfl rfl) ?_
            refine on c478 ?_
            refine oq (o_index_b Tryd.underlying9 rfl rfl (imp_f g475 c477)) ?_
            refine on c478 ?_
            refine oq (o_ne rfl rfl) ?_
            refine on c477 ?_
            refine oq (o_pick_t rfl c478 rfl) ?_
            refine oq (o_pick_f rfl c477 rfl) ?_
            exact obl_e
           exact wtc (And.intro c477 c478)
          ·refine wc_rdq [0, 4, 9, 10, 11, 12, 13, 14, 15, 16, 17, 19, 20, 21, 22, 23, 24, 25, 26, 27] [⟨[], rv (.pointer (some ⟨b_q, 0, none⟩)), 0⟩, ⟨[0], rv (.pointer (some ⟨b_q, 0, none⟩)), 0⟩, ⟨[1], rv (.pointer (some ⟨b_q, 1, none⟩)), 0⟩, ⟨[2], rI .i64 (x368 + 1), 1⟩, ⟨[], rv (.pointer (some ⟨b_q, 0, none⟩)), 0⟩, ⟨[4], rv (.pointer (some ⟨b_q, 0, none⟩)), 0⟩, ⟨[5], rv (.pointer (some ⟨b_q, 0, none⟩)), 0⟩, ⟨[6], rS r1.2.fS, 1⟩, ⟨[7], rI .i64 (r1.2.fS.length : Int), 0⟩, ⟨[3, 8], rB (decide ((r1.2.fS.length : Int) ≤ (x368 + 1))), 0⟩, ⟨[9], rB (decide ((r1.2.fS.length : Int) ≤ (x368 + 1))), 0⟩, ⟨[10], rv (.pointer (some ⟨b_q, 0, none⟩)), 0⟩, ⟨[11, 10], rv (.pointer (some ⟨b_q, 0, none⟩)), 0⟩, ⟨[12, 10], rv (.pointer (some ⟨b_q, 0, none⟩)), 0⟩, ⟨[13, 10], rS r1.2.fS, 1⟩, ⟨[10], rv (.pointer (some ⟨b_q, 0, none⟩)), 0⟩, ⟨[15, 10], rv (.pointer (some ⟨b_q, 0, none⟩)), 0⟩, ⟨[16, 10], rv (.pointer (some ⟨b_q, 1, none⟩)), 0⟩, ⟨[17, 10], rI .i64 (x368 + 1), 1⟩, ⟨[14, 18, 10], rI .u8 (bat r1.2.fS (x368 + 1)), 0⟩, ⟨[19, 10], rB (!decide ((bat r1.2.fS (x368 + 1)) = 34)), 0⟩, ⟨[20, 10], rB (!decide ((bat r1.2.fS (x368 + 1)) = 34)), 0⟩, ⟨[21], rv undef, 0⟩, ⟨[22, 21], rv undef, 0⟩, ⟨[23, 21], rv undef, 0⟩, ⟨[24, 21], rv undef, 0⟩, ⟨[21], rv undef, 0⟩, ⟨[26, 21], rv undef, 0⟩, ⟨[27, 21], rv undef, 0⟩, ⟨[28, 21], rv undef, 0⟩, ⟨[25, 29, 21], rv undef, 0⟩, ⟨[30, 21], rv undef, 0⟩, ⟨[21, 31, 10], rB false, 0⟩, ⟨[10, 32], rB false, 0⟩] [50, 51, 52, 53, 54, 55, 56, 57, 58, 59, 60, 61, 62, 63, 64, 65, 66, 67, 68, 69, 70, 71, 72, 73, 74, 75, 76, 77, 78, 79, 80, 81, 82, 83, 0, 4, 9, 10, 11, 12, 13, 14, 15, 16, 17, 19, 20, 21, 22, 23, 24, 25, 26, 27] ?_ ?_
           ·refine oq (o_move rfl) ?_
            refine oq (o_nilcheck rfl) ?_
            refine oq (o_fieldAddr Tryd.underlying61 rfl Tryd.sizeOf3 rfl rfl) ?_
            refine of (o_load (i := 0) Tryd.isAgg3 rfl rfl rfl) ?_
            refine oq (o_move rfl) ?_
            refine oq (o_nilcheck rfl) ?_
            refine oq (o_fieldAddr Tryd.underlying61 rfl Tryd.sizeOf9 rfl rfl) ?_
            refine of (o_load (i := 0) Tryd.isAgg9 rfl rfl rfl) ?_
            refine oq (o_len_s Tryd.underlying9 rfl) ?_
            refine oq (o_ge rfl rfl) ?_
            refine oq (o_move rfl) ?_
            refine on c477 ?_
            refine oq (o_move rfl) ?_
            refine on c477 ?_
            refine oq (o_nilcheck rfl) ?_
            refine on c477 ?_
            refine oq (o_fieldAddr Tryd.underlying61 rfl Tryd.sizeOf9 rfl rfl) ?_
            refine on c477 ?_
            refine of (o_load (i := 0) Tryd.isAgg9 rfl rfl rfl) ?_
            refine on c477 ?_
            refine oq (o_move rfl) ?_
            refine on c477 ?_
            refine oq (o_nilcheck rfl) ?_
            refine on c477 ?_
            refine oq (o_fieldAddr Tryd.underlying61 rfl Tryd.sizeOf3 rfl rfl) ?_
            refine on c477 ?_
            refine of (o_load (i := 0) Tryd.isAgg3 rfl rfl rfl) ?_
            refine on c477 ?_
            refine oq (o_index_b Tryd.underlying9 rfl rfl (imp_f g475 c477)) ?_
            refine on c477 ?_
            refine oq (o_ne rfl rfl) ?_
            refine on c477 ?_
            refine oq (o_move rfl) ?_
            refine oz c478 ?_
            refine oz c478 ?_
            refine oz c478 ?_
            refine oz c478 ?_
            refine oz c478 ?_
            refine oz c478 ?_
            refine oz c478 ?_
            refine oz c478 ?_
            refine oz c478 ?_
            refine oz c478 ?_
            refine on c477 ?_
            refine oq (o_pick_f (b := !decide ((bat r1.2.fS (x368 + 1)) = 34)) rfl c478 rfl) ?_
            refine oq (o_pick_f rfl c477 rfl) ?_
            exact obl_e
           exact wtc (And.intro c477 c478)
        refine wc_cond (b := ((decide ((r1.2.fS.length : Int) ≤ (x368 + 1))) || ((!decide ((bat r1.2.fS (x368 + 1)) = 34)) && (!decide ((bat r1.2.fS (x368 + 1)) = 92))))) rfl (fun c479 => ?_) (fun c479 => ?_)
        ·have h480 := cnd_t c479 h476
         refine wc_sr ?_
         refine wv (r := rS ([] : Str)) (o_assign rfl) ?_
         refine wv (r := rB false) (o_assign rfl) ?_
         refine wl_x ?_
         refine wc_ret ?_
         refine wk_then_ret ?_
         refine wk_in_ret ?_
         refine wk_then_ret ?_
         refine wk_in_ret ?_
         refine wk_then_ret ?_
         refine wk_cut_ret ?_
         have h481 := stp_ret h480 ht430 hK428
         refine wk_in_ret ?_
         refine wk_then_ret ?_
         obtain rfl := some_e h481
         exact wk_ret (r_2 Tryd.results58 (rv_t rfl) (rv_t rfl)) (sC (sC (sS sN))) ⟨v4, rfl, rfl⟩
        ·have h482 := cnd_f c479 h476
         refine wc_skip ?_
         refine wk_x ?_
         refine wc_seq ?_
         obtain ⟨g483, h484⟩ := chk_e h482
         refine wc_rdq [0, 4, 9, 10, 11, 12, 13, 14, 15, 16, 17, 19, 20, 21, 22, 23, 24, 25, 26, 27, 50, 51, 52, 53, 54, 55, 56, 57, 58, 59, 60] [⟨[], rv (.pointer (some ⟨b_q, 0, none⟩)), 0⟩, ⟨[0], rv (.pointer (some ⟨b_q, 0, none⟩)), 0⟩, ⟨[1], rv (.pointer (some ⟨b_q, 0, none⟩)), 0⟩, ⟨[2], rS r1.2.fS, 1⟩, ⟨[], rv (.pointer (some ⟨b_q, 0, none⟩)), 0⟩, ⟨[4], rv (.pointer (some ⟨b_q, 0, none⟩)), 0⟩, ⟨[5], rv (.pointer (some ⟨b_q, 1, none⟩)), 0⟩, ⟨[6], rI .i64 (x368 + 1), 1⟩, ⟨[3, 7], rI .u8 (bat r1.2.fS (x368 + 1)), 0⟩, ⟨[8], rI .u8 (bat r1.2.fS (x368 + 1)), 0⟩] [84, 85, 86, 87, 88, 89, 90, 91, 92, 5, 0, 4, 9, 10, 11, 12, 13, 14, 15, 16, 17, 19, 20, 21, 22, 23, 24, 25, 26, 27, 50, 51, 52, 53, 54, 55, 56, 57, 58, 59, 60] ?_ ?_
         ·refine oq (o_move rfl) ?_
          refine oq (o_nilcheck rfl) ?_
          refine oq (o_fieldAddr Tryd.underlying61 rfl Tryd.sizeOf9 rfl rfl) ?_
          refine of (o_load (i := 0) Tryd.isAgg9 rfl rfl rfl) ?_
          refine oq (o_move rfl) ?_
          refine oq (o_nilcheck rfl) ?_
          refine oq (o_fieldAddr Tryd.underlying61 rfl Tryd.sizeOf3 rfl rfl) ?_
          refine of (o_load (i := 0) Tryd.isAgg3 rfl rfl rfl) ?_
          refine oq (o_index_b Tryd.underlying9 rfl rfl g483) ?_
          refine oq (o_assign rfl) ?_
          exact obl_e
         refine wk_x ?_
         refine wc_region ?_
         refine wm rfl ?_
         refine wv (o_nilcheck rfl) ?_
         refine wv (o_fieldAddr Tryd.underlying61 rfl Tryd.sizeOf3 rfl rfl) ?_
         refine wv (o_load (i := 0) Tryd.isAgg3 rfl rfl rfl) ?_
         obtain ⟨g485, h486⟩ := chk_e h484
         refine wv (o_add rfl rfl g485) ?_
         refine wv (o_nilcheck rfl) ?_
         refine wv (o_fieldAddr Tryd.underlying61 rfl Tryd.sizeOf3 rfl rfl) ?_
         refine u_store (i := 0) Tryd.sizeOf3 rfl rfl (one_c rfl) rfl rfl (cs' := [rS r1.2.fS, rI .i64 ((x368 + 1) + 1), rv v4, rB r1.2.fGreat]) rfl (H' := [.blk b_q [rS r1.2.fS, rI .i64 ((x368 + 1) + 1), rv v4, rB r1.2.fGreat] 61, .row v4 40 4 (List.map eTApiCell r1.2.fCells), .row v367 5 1 (List.map eI_u8 x366)]) rfl ?_
         refine wl_nil ?_
         refine wk_in_norm ?_
         exact wk_then (wk_some ((bat r1.2.fS (x368 + 1), (x368 + 1) + 1), ()) h486 (Sub.c rfl (Sub.c5 rfl rfl rfl rfl rfl (Sub.c5 rfl rfl rfl rfl rfl (Sub.c5 rfl rfl rfl rfl rfl (Sub.c5 rfl rfl rfl rfl rfl Sub.nil))))) (sC (sC (sC sN))))
       ·have h487 := cnd_f c473 h472
        refine wc_skip ?_
        refine wk_in_norm ?_
        exact wk_then (wk_some ((bat r1.2.fS x368, x368 + 1), ()) h487 (Sub.c rfl (Sub.c5 rfl rfl rfl rfl rfl (Sub.c5 rfl rfl rfl rfl rfl (Sub.c5 rfl rfl rfl rfl rfl (Sub.c5 rfl rfl rfl rfl rfl Sub.nil))))) (sC (sC (sC sN))))
    ·rintro ⟨⟨x462, x463⟩, ⟨⟩⟩ h488
     refine wc_as (l' := [(0, rv (.pointer (some ⟨b_q, 0, none⟩))), (4, rv v367), (5, rI .u8 x462), (9, rv (.pointer (some ⟨b_q, 0, none⟩))), (10, rv (.pointer (some ⟨b_q, 0, none⟩))), (11, rv (.pointer (some ⟨b_q, 1, none⟩))), (12, rI .i64 x368), (13, rv (.pointer (some ⟨b_q, 0, none⟩))), (14, rv (.pointer (some ⟨b_q, 0, none⟩))), (15, rv (.pointer (some ⟨b_q, 0, none⟩))), (16, rS r1.2.fS), (17, rI .i64 (r1.2.fS.length : Int)), (19, rv (.pointer (some ⟨b_q, 0, none⟩))), (20, rv (.pointer (some ⟨b_q, 0, none⟩))), (21, rv (.pointer (some ⟨b_q, 0, none⟩))), (22, rS r1.2.fS), (23, rv (.pointer (some ⟨b_q, 0, none⟩))), (24, rv (.pointer (some ⟨b_q, 0, none⟩))), (25, rv (.pointer (some ⟨b_q, 1, none⟩))), (26, rI .i64 x368), (27, rI .u8 (bat r1.2.fS x368))]) (H' := [.blk b_q [rS r1.2.fS, rI .i64 x463, rv v4, rB r1.2.fGreat] 61, .row v4 40 4 (List.map eTApiCell r1.2.fCells), .row v367 5 1 (List.map eI_u8 x366)]) rfl rfl ?_
     replace h488 : vRStr_j2 x366 x462 x463 = some t429 := h488
     unfold vRStr_j2 at h488
     refine wc_region ?_
     refine wm rfl ?_
     refine wm rfl ?_
     refine w_buildSlice (ys := ([x462] : List Int)) (enc := eI_u8) (css := [[rI .u8 x462]]) (xs := [.tmp 101]) Tryd.underlying48 Tryd.sizeOf5 Tryd.zeroValue5 rfl rfl rfl ⟨Cel.one rfl (Up.refl _), trivial⟩ rfl eI_u8_len rfl rfl rfl (fun b489 => ?_)
     obtain ⟨g491, h492⟩ := chk_e h488
     obtain ⟨inf, hinf⟩ := info5
     refine w_append (xs := x366) (ys := ([x462] : List Int)) (enc := eI_u8) (i := 3) Tryd.underlying48 hinf.1 hinf.2.1 hinf.2.2.1 hinf.2.2.2 rfl rfl rfl rfl rfl (Src.w (i := 0) rfl rfl) eI_u8_len eI_u8_one g491 rfl (fun v490 => ?_)
     refine wa rfl ?_
     refine wl_nil ?_
     refine wk_in_norm ?_
     refine wk_perm (H2 := [.blk b_q [rS r1.2.fS, rI .i64 x463, rv v4, rB r1.2.fGreat] 61, .row v4 40 4 (List.map eTApiCell r1.2.fCells), .row v490 5 1 (List.map eI_u8 (x366 ++ ([x462] : List Int))), .row (.slice (some ⟨b489, 0, none⟩) 1 1) 5 1 (List.map eI_u8 ([x462] : List Int))]) ((perm_front (i := 2) rfl).trans (List.Perm.cons _ ((perm_front (i := 2) rfl).trans (List.Perm.cons _ (List.Perm.refl _))))) ?_
     have h493 := stp_next h492 ht430
     exact wk_then (wk_some (m431, (x366 ++ ([x462] : List Int), x463), v490) ⟨h493, Nat.lt_succ_self _⟩ (Sub.c rfl (Sub.c rfl Sub.nil)) (sC (sC (sC (sS sN)))))
   ·have h494 := cnd_f c435 h433
    refine wc_exit ?_
    refine wk_then_exit ?_
    have h495 := stp_go h494 ht430 hK428
    exact wk_then_exit (wk_cut_hit (wk_some (x368, ()) h495 Sub.nil (sC (sC (sS sN)))))
  ·rintro ⟨x425, ⟨⟩⟩ h496
   refine wk_as (l' := []) (H' := [.blk b_q [rS r1.2.fS, rI .i64 x425, rv v4, rB r1.2.fGreat] 61, .row v4 40 4 (List.map eTApiCell r1.2.fCells)]) rfl rfl ?_
   replace h496 : vRStr_k1 r1 x425 = some r := h496
   unfold vRStr_k1 at h496
   refine wk_in_hit ?_
   refine wk_x ?_
   refine wc_sr ?_
   refine wv (r := rS ([] : Str)) (o_assign rfl) ?_
   refine wv (r := rB false) (o_assign rfl) ?_
   refine wl_x ?_
   refine wc_ret ?_
   obtain rfl := some_e h496
   exact wk_ret (r_2 Tryd.results58 (rv_t rfl) (rv_t rfl)) (sC (sC sN)) ⟨v4, rfl, rfl⟩

theorem vRInt_w (F : Nat) (b_q : Nat) (v_q_2 : Value) (q : TValueReader) (r : Bool × TValueReader) (h : vRInt F q = some r) : Fn Tryd.prog GE 69 [rv (.pointer (some ⟨b_q, 0, none⟩))] [.blk b_q [rS q.fS, rI .i64 q.fAt, rv v_q_2, rB q.fGreat] 61, .row v_q_2 40 4 (List.map eTApiCell q.fCells)] (fun R H => ∃ w0_2 : Value, R = rB r.1 ∧ H = [.blk b_q [rS r.2.fS, rI .i64 r.2.fAt, rv w0_2, rB r.2.fGreat] 61, .row w0_2 40 4 (List.map eTApiCell r.2.fCells)]) := by
 refine enter (n := 104) Tryd.func69 rfl Tryd.ntmps69 rfl (fun w Z => ?_)
 refine wc_as (l' := [(0, rv (.pointer (some ⟨b_q, 0, none⟩)))]) (H' := [.blk b_q [rS q.fS, rI .i64 q.fAt, rv v_q_2, rB q.fGreat] 61, .row v_q_2 40 4 (List.map eTApiCell q.fCells)]) rfl rfl ?_
 unfold vRInt at h
 refine wc_sr ?_
 refine wv (r := rB false) (o_assign rfl) ?_
 refine wl_y ?_
 refine wm rfl ?_
 refine wv (o_nilcheck rfl) ?_
 refine wv (o_fieldAddr Tryd.underlying61 rfl Tryd.sizeOf3 rfl rfl) ?_
 refine wv (o_load (i := 0) Tryd.isAgg3 rfl rfl rfl) ?_
 refine wa rfl ?_
 refine wl_y ?_
 refine wm rfl ?_
 obtain ⟨r1, e3, h2⟩ := obn_e h
 refine wcl (Hr := []) Tryd.call56 (vTake_w b_q v_q_2 q ([45] : Str) r1 e3) rfl (List.Perm.refl _) rfl ?_
 rintro _ _ ⟨v4, rfl, rfl⟩
 refine wl_y ?_
 refine wm rfl ?_
 refine wv (o_nilcheck rfl) ?_
 refine wv (o_fieldAddr Tryd.underlying61 rfl Tryd.sizeOf3 rfl rfl) ?_
 refine wv (o_load (i := 0) Tryd.isAgg3 rfl rfl rfl) ?_
 refine wa rfl ?_
 refine wl_x ?_
 refine wc_seq ?_
 refine wc_block ?_
 obtain ⟨o86, eo87, hK88⟩ := obn_e h2
 refine wc_loop2 (S := Nat × (Int) × (Unit)) (V := (Int) × (Unit)) 0 (fun σ => lop (fun σ => vRInt_b1 r1 σ) σ.1 σ.2.1 = some o86) (fun σ => [(0, rv (.pointer (some ⟨b_q, 0, none⟩))), (3, rI .i64 q.fAt), (4, rI .i64 r1.2.fAt)]) (fun σ => [.blk b_q [rS r1.2.fS, rI .i64 σ.2.1, rv v4, rB r1.2.fGreat] 61, .row v4 40 4 (List.map eTApiCell r1.2.fCells)]) (fun σ => σ.1) (F, r1.2.fAt, ()) eo87 (Sub.c rfl (Sub.c rfl (Sub.c rfl Sub.nil))) (sC (sC sN)) (fun σ => vRInt_k1 q r1 σ.1 = some r) (fun σ => [(0, rv (.pointer (some ⟨b_q, 0, none⟩))), (3, rI .i64 q.fAt), (4, rI .i64 r1.2.fAt)]) (fun σ => [.blk b_q [rS r1.2.fS, rI .i64 σ.1, rv v4, rB r1.2.fGreat] 61, .row v4 40 4 (List.map eTApiCell r1.2.fCells)]) ?_ ?_
 ·rintro ⟨n94, x75, ⟨⟩⟩ hi92
  refine wc_as (l' := [(0, rv (.pointer (some ⟨b_q, 0, none⟩))), (3, rI .i64 q.fAt), (4, rI .i64 r1.2.fAt)]) (H' := [.blk b_q [rS r1.2.fS, rI .i64 x75, rv v4, rB r1.2.fGreat] 61, .row v4 40 4 (List.map eTApiCell r1.2.fCells)]) rfl rfl ?_
  obtain ⟨m91, rfl, t89, h93, ht90⟩ := lop_e hi92
  replace h93 : vRInt_b1 r1 x75 = some t89 := h93
  unfold vRInt_b1 at h93
  refine wc_seq ?_
  obtain ⟨g95, h96⟩ := chk_e h93
  refine wc_seq_mid [(0, rv (.pointer (some ⟨b_q, 0, none⟩))), (3, rI .i64 q.fAt), (4, rI .i64 r1.2.fAt), (17, rv (.pointer (some ⟨b_q, 0, none⟩))), (18, rv (.pointer (some ⟨b_q, 0, none⟩))), (19, rv (.pointer (some ⟨b_q, 1, none⟩))), (20, rI .i64 x75), (21, rv (.pointer (some ⟨b_q, 0, none⟩))), (22, rv (.pointer (some ⟨b_q, 0, none⟩))), (23, rv (.pointer (some ⟨b_q, 0, none⟩))), (24, rS r1.2.fS), (25, rI .i64 (r1.2.fS.length : Int)), (26, rB (decide (x75 < (r1.2.fS.length : Int)))), (27, rB (decide (x75 < (r1.2.fS.length : Int)))), (38, rB ((decide (x75 < (r1.2.fS.length : Int))) && (decide (48 ≤ (bat r1.2.fS x75))))), (39, rB ((decide (x75 < (r1.2.fS.length : Int))) && (decide (48 ≤ (bat r1.2.fS x75))))), (50, rB ((decide (x75 < (r1.2.fS.length : Int))) && ((decide (48 ≤ (bat r1.2.fS x75))) && (decide ((bat r1.2.fS x75) ≤ 57)))))] [.blk b_q [rS r1.2.fS, rI .i64 x75, rv v4, rB r1.2.fGreat] 61, .row v4 40 4 (List.map eTApiCell r1.2.fCells)] ?_ ?_
  ·refine bsplit (decide (x75 < (r1.2.fS.length : Int))) (fun c97 => ?_) (fun c97 => ?_)
   ·refine bsplit (decide (48 ≤ (bat r1.2.fS x75))) (fun c98 => ?_) (fun c98 => ?_)
    ·refine wc_rdq [0, 3, 4] [⟨[], rv (.pointer (some ⟨b_q, 0, none⟩)), 0⟩, ⟨[0], rv (.pointer (some ⟨b_q, 0, none⟩)), 0⟩, ⟨[1], rv (.pointer (some ⟨b_q, 1, none⟩)), 0⟩, ⟨[2], rI .i64 x75, 1⟩, ⟨[], rv (.pointer (some ⟨b_q, 0, none⟩)), 0⟩, ⟨[4], rv (.pointer (some ⟨b_q, 0, none⟩)), 0⟩, ⟨[5], rv (.pointer (some ⟨b_q, 0, none⟩)), 0⟩, ⟨[6], rS r1.2.fS, 1⟩, ⟨[7], rI .i64 (r1.2.fS.length : Int), 0⟩, ⟨[3, 8], rB (decide (x75 < (r1.2.fS.length : Int))), 0⟩, ⟨[9], rB (decide (x75 < (r1.2.fS.length : Int))), 0⟩, ⟨[10], rv (.pointer (some ⟨b_q, 0, none⟩)), 0⟩, ⟨[11, 10], rv (.pointer (some ⟨b_q, 0, none⟩)), 0⟩, ⟨[12, 10], rv (.pointer (some ⟨b_q, 0, none⟩)), 0⟩, ⟨[13, 10], rS r1.2.fS, 1⟩, ⟨[10], rv (.pointer (some ⟨b_q, 0, none⟩)), 0⟩, ⟨[15, 10], rv (.pointer (some ⟨b_q, 0, none⟩)), 0⟩, ⟨[16, 10], rv (.pointer (some ⟨b_q, 1, none⟩)), 0⟩, ⟨[17, 10], rI .i64 x75, 1⟩, ⟨[14, 18, 10], rI .u8 (bat r1.2.fS x75), 0⟩, ⟨[19, 10], rB (decide (48 ≤ (bat r1.2.fS x75))), 0⟩, ⟨[10, 20], rB (decide (48 ≤ (bat r1.2.fS x75))), 0⟩, ⟨[21], rB (decide (48 ≤ (bat r1.2.fS x75))), 0⟩, ⟨[22], rv (.pointer (some ⟨b_q, 0, none⟩)), 0⟩, ⟨[23, 22], rv (.pointer (some ⟨b_q, 0, none⟩)), 0⟩, ⟨[24, 22], rv (.pointer (some ⟨b_q, 0, none⟩)), 0⟩, ⟨[25, 22], rS r1.2.fS, 1⟩, ⟨[22], rv (.pointer (some ⟨b_q, 0, none⟩)), 0⟩, ⟨[27, 22], rv (.pointer (some ⟨b_q, 0, none⟩)), 0⟩, ⟨[28, 22], rv (.pointer (some ⟨b_q, 1, none⟩)), 0⟩, ⟨[29, 22], rI .i64 x75, 1⟩, ⟨[26, 30, 22], rI .u8 (bat r1.2.fS x75), 0⟩, ⟨[31, 22], rB (decide ((bat r1.2.fS x75) ≤ 57)), 0⟩, ⟨[22, 32], rB (decide ((bat r1.2.fS x75) ≤ 57)), 0⟩] [17, 18, 19, 20, 21, 22, 23, 24, 25, 26, 27, 28, 29, 30, 31, 32, 33, 34, 35, 36, 37, 38, 39, 40, 41, 42, 43, 44, 45, 46, 47, 48, 49, 50, 0, 3, 4] ?_ ?_
     ·refine oq (o_move rfl) ?_
      refine oq (o_nilcheck rfl) ?_
      refine oq (o_fieldAddr Tryd.underlying61 rfl Tryd.sizeOf3 rfl rfl) ?_
      refine of (o_load (i := 0) Tryd.isAgg3 rfl rfl rfl) ?_
      refine oq (o_move rfl) ?_
      refine oq (o_nilcheck rfl) ?_
      refine oq (o_fieldAddr Tryd.underlying61 rfl Tryd.sizeOf9 rfl rfl) ?_
      refine of (o_load (i := 0) Tryd.isAgg9 rfl rfl rfl) ?_
      refine oq (o_len_s Tryd.underlying9 rfl) ?_
      refine oq (o_lt rfl rfl) ?_
      refine oq (o_move rfl) ?_
      refine on c97 ?_
      refine oq (o_move rfl) ?_
      refine on c97 ?_
      refine oq (o_nilcheck rfl) ?_
      refine on c97 ?_
      refine oq (o_fieldAddr Tryd.underlying61 rfl Tryd.sizeOf9 rfl rfl) ?_
      refine on c97 ?_
      refine of (o_load (i := 0) Tryd.isAgg9 rfl rfl rfl) ?_
      refine on c97 ?_
      refine oq (o_move rfl) ?_
      refine on c97 ?_
      refine oq (o_nilcheck rfl) ?_
      refine on c97 ?_
      refine oq (o_fieldAddr Tryd.underlying61 rfl Tryd.sizeOf3 rfl rfl) ?_
      refine on c97 ?_
      refine of (o_load (i := 0) Tryd.isAgg3 rfl rfl rfl) ?_
      refine on c97 ?_
      refine oq (o_index_b Tryd.underlying9 rfl rfl (imp_t g95 c97)) ?_
      refine on c97 ?_
      refine oq (o_ge rfl rfl) ?_
      refine oq (o_pick_t rfl c97 rfl) ?_
      refine oq (o_move rfl) ?_
      refine on c98 ?_
      refine oq (o_move rfl) ?_
      refine on c98 ?_
      refine oq (o_nilcheck rfl) ?_
      refine on c98 ?_
      refine oq (o_fieldAddr Tryd.underlying61 rfl Tryd.sizeOf9 rfl rfl) ?_
      refine on c98 ?_
      refine of (o_load (i := 0) Tryd.isAgg9 rfl rfl rfl) ?_
      refine on c98 ?_
      refine oq (o_move rfl) ?_
      refine on c98 ?_
      refine oq (o_nilcheck rfl) ?_
      refine on c98 ?_
      refine oq (o_fieldAddr Tryd.underlying61 rfl Tryd.sizeOf3 rfl rfl) ?_
      refine on c98 ?_
      refine of (o_load (i := 0) Tryd.isAgg3 rfl rfl rfl) ?_
      refine on c98 ?_
      refine oq (o_index_b Tryd.underlying9 rfl rfl (imp_t g95 c97)) ?_
      refine on c98 ?_
      refine oq (o_le rfl rfl) ?_
      refine oq (o_pick_t rfl c98 rfl) ?_
      exact obl_e
     exact wtc (And.intro c97 c98)
    ·refine wc_rdq [0, 3, 4] [⟨[], rv (.pointer (some ⟨b_q, 0, none⟩)), 0⟩, ⟨[0], rv (.pointer (some ⟨b_q, 0, none⟩)), 0⟩, ⟨[1], rv (.pointer (some ⟨b_q, 1, none⟩)), 0⟩, ⟨[2], rI .i64 x75, 1⟩, ⟨[], rv (.pointer (some ⟨b_q, 0, none⟩)), 0⟩, ⟨[4], rv (.pointer (some ⟨b_q, 0, none⟩)), 0⟩, ⟨[5], rv (.pointer (some ⟨b_q, 0, none⟩)), 0⟩, ⟨[6], rS r1.2.fS, 1⟩, ⟨[7], rI .i64 (r1.2.fS.length : Int), 0⟩, ⟨[3, 8], rB (decide (x75 < (r1.2.fS.length : Int))), 0⟩, ⟨[9], rB (decide (x75 < (r1.2.fS.length : Int))), 0⟩, ⟨[10], rv (.pointer (some ⟨b_q, 0, none⟩)), 0⟩, ⟨[11, 10], rv (.pointer (some ⟨b_q, 0, none⟩)), 0⟩, ⟨[12, 10], rv (.pointer (some ⟨b_q, 0, none⟩)), 0⟩, ⟨[13, 10], rS r1.2.fS, 1⟩, ⟨[10], rv (.pointer (some ⟨b_q, 0, none⟩)), 0⟩, ⟨[15, 10], rv (.pointer (some ⟨b_q, 0, none⟩)), 0⟩, ⟨[16, 10], rv (.pointer (some ⟨b_q, 1, none⟩)), 0⟩, ⟨[17, 10], rI .i64 x75, 1⟩, ⟨[14, 18, 10], rI .u8 (bat r1.2.fS x75), 0⟩, ⟨[19, 10], rB (decide (48 ≤ (bat r1.2.fS x75))), 0⟩, ⟨[10, 20], rB (decide (48 ≤ (bat r1.2.fS x75))), 0⟩, ⟨[21], rB (decide (48 ≤ (bat r1.2.fS x75))), 0⟩, ⟨[22], rv undef, 0⟩, ⟨[23, 22], rv undef, 0⟩, ⟨[24, 22], rv undef, 0⟩, ⟨[25, 22], rv undef, 0⟩, ⟨[22], rv undef, 0⟩, ⟨[27, 22], rv undef, 0⟩, ⟨[28, 22], rv undef, 0⟩, ⟨[29, 22], rv undef, 0⟩, ⟨[26, 30, 22], rv undef, 0⟩, ⟨[31, 22], rv undef, 0⟩, ⟨[22, 32], rB false, 0⟩] [17, 18, 19, 20, 21, 22, 23, 24, 25, 26, 27, 28, 29, 30, 31, 32, 33, 34, 35, 36, 37, 38, 39, 40, 41, 42, 43, 44, 45, 46, 47, 48, 49, 50, 0, 3, 4] ?_ ?_
     ·refine oq (o_move rfl) ?_
      refine oq (o_nilcheck rfl) ?_
      refine oq (o_fieldAddr Tryd.underlying61 rfl Tryd.sizeOf3 rfl rfl) ?_
      refine of (o_load (i := 0) Tryd.isAgg3 rfl rfl rfl) ?_
      refine oq (o_move rfl) ?_
      refine oq (o_nilcheck rfl) ?_
      refine oq (o_fieldAddr Tryd.underlying61 rfl Tryd.sizeOf9 rfl rfl) ?_
      refine of (o_load (i := 0) Tryd.isAgg9 rfl rfl rfl) ?_
      refine oq (o_len_s Tryd.underlying9 rfl) ?_
      refine oq (o_lt rfl rfl) ?_
      refine oq (o_move rfl) ?_
      refine on c97 ?_
      refine oq (o_move rfl) ?_
      refine on c97 ?_
      refine oq (o_nilcheck rfl) ?_
      refine on c97 ?_
      refine oq (o_fieldAddr Tryd.underlying61 rfl Tryd.sizeOf9 rfl rfl) ?_
      refine on c97 ?_
      refine of (o_load (i := 0) Tryd.isAgg9 rfl rfl rfl) ?_
      refine on c97 ?_
      refine oq (o_move rfl) ?_
      refine on c97 ?_
      refine oq (o_nilcheck rfl) ?_
      refine on c97 ?_
      refine oq (o_fieldAddr Tryd.underlying61 rfl Tryd.sizeOf3 rfl rfl) ?_
      refine on c97 ?_
      refine of (o_load (i := 0) Tryd.isAgg3 rfl rfl rfl) ?_
      refine on c97 ?_
      refine oq (o_index_b Tryd.underlying9 rfl rfl (imp_t g95 c97)) ?_
      refine on c97 ?_
      refine oq (o_ge rfl rfl) ?_
      refine oq (o_pick_t rfl c97 rfl) ?_
      refine oq (o_move rfl) ?_
      refine oz c98 ?_
      refine oz c98 ?_
      refine oz c98 ?_
      refine oz c98 ?_
      refine oz c98 ?_
      refine oz c98 ?_
      refine oz c98 ?_
      refine oz c98 ?_
      refine oz c98 ?_
      refine oz c98 ?_
      refine oq (o_pick_f (b := decide (48 ≤ (bat r1.2.fS x75))) rfl c98 rfl) ?_
      exact obl_e
     exact wtc (And.intro c97 c98)
   ·refine wc_rdq [0, 3, 4] [⟨[], rv (.pointer (some ⟨b_q, 0, none⟩)), 0⟩, ⟨[0], rv (.pointer (some ⟨b_q, 0, none⟩)), 0⟩, ⟨[1], rv (.pointer (some ⟨b_q, 1, none⟩)), 0⟩, ⟨[2], rI .i64 x75, 1⟩, ⟨[], rv (.pointer (some ⟨b_q, 0, none⟩)), 0⟩, ⟨[4], rv (.pointer (some ⟨b_q, 0, none⟩)), 0⟩, ⟨[5], rv (.pointer (some ⟨b_q, 0, none⟩)), 0⟩, ⟨[6], rS r1.2.fS, 1⟩, ⟨[7], rI .i64 (r1.2.fS.length : Int), 0⟩, ⟨[3, 8], rB (decide (x75 < (r1.2.fS.length : Int))), 0⟩, ⟨[9], rB (decide (x75 < (r1.2.fS.length : Int))), 0⟩, ⟨[10], rv undef, 0⟩, ⟨[11, 10], rv undef, 0⟩, ⟨[12, 10], rv undef, 0⟩, ⟨[13, 10], rv undef, 0⟩, ⟨[10], rv undef, 0⟩, ⟨[15, 10], rv undef, 0⟩, ⟨[16, 10], rv undef, 0⟩, ⟨[17, 10], rv undef, 0⟩, ⟨[14, 18, 10], rv undef, 0⟩, ⟨[19, 10], rv undef, 0⟩, ⟨[10, 20], rB false, 0⟩, ⟨[21], rB false, 0⟩, ⟨[22], rv undef, 0⟩, ⟨[23, 22], rv undef, 0⟩, ⟨[24, 22], rv undef, 0⟩, ⟨[25, 22], rv undef, 0⟩, ⟨[22], rv undef, 0⟩, ⟨[27, 22], rv undef, 0⟩, ⟨[28, 22], rv undef, 0⟩, ⟨[29, 22], rv undef, 0⟩, ⟨[26, 30, 22], rv undef, 0⟩, ⟨[31, 22], rv undef, 0⟩, ⟨[22, 32], rB false, 0⟩] [17, 18, 19, 20, 21, 22, 23, 24, 25, 26, 27, 28, 29, 30, 31, 32, 33, 34, 35, 36, 37, 38, 39, 40, 41, 42, 43, 44, 45, 46, 47, 48, 49, 50, 0, 3, 4] ?_ ?_
    ·refine oq (o_move rfl) ?_
     refine oq (o_nilcheck rfl) ?_
     refine oq (o_fieldAddr Tryd.underlying61 rfl Tryd.sizeOf3 rfl rfl) ?_
     refine of (o_load (i := 0) Tryd.isAgg3 rfl rfl rfl) ?_
     refine oq (o_move rfl) ?_
     refine oq (o_nilcheck rfl) ?_
     refine oq (o_fieldAddr Tryd.underlying61 rfl Tryd.sizeOf9 rfl rfl) ?_
     refine of (o_load (i := 0) Tryd.isAgg9 rfl rfl rfl) ?_
     refine oq (o_len_s Tryd.underlying9 rfl) ?_
     refine oq (o_lt rfl rfl) ?_
     refine oq (o_move rfl) ?_
     refine oz c97 ?_
     refine oz c97 ?_
     refine oz c97 ?_
     refine oz c97 ?_
     refine oz c97 ?_
     refine oz c97 ?_
     refine oz c97 ?_
     refine oz c97 ?_
     refine oz c97 ?_
     refine oz c97 ?_
     refine oq (o_pick_f (b := decide (x75 < (r1.2.fS.length : Int))) rfl c97 rfl) ?_
     refine oq (o_move rfl) ?_
     refine oz rfl ?_
     refine oz rfl ?_
     refine oz rfl ?_
     refine oz rfl ?_
     refine oz rfl ?_
     refine oz rfl ?_
     refine oz rfl ?_
     refine oz rfl ?_
     refine oz rfl ?_
     refine oz rfl ?_
     refine oq (o_pick_f (b := false) rfl rfl rfl) ?_
     exact obl_e
    exact wtc c97
  refine wc_cond (b := ((decide (x75 < (r1.2.fS.length : Int))) && ((decide (48 ≤ (bat r1.2.fS x75))) && (decide ((bat r1.2.fS x75) ≤ 57))))) rfl (fun c99 => ?_) (fun c99 => ?_)
  ·have h100 := cnd_t c99 h96
   refine wc_skip ?_
   refine wk_x ?_
   refine wc_block ?_
   refine wc_region ?_
   refine wm rfl ?_
   refine wv (o_nilcheck rfl) ?_
   refine wv (o_fieldAddr Tryd.underlying61 rfl Tryd.sizeOf3 rfl rfl) ?_
   refine wv (o_load (i := 0) Tryd.isAgg3 rfl rfl rfl) ?_
   obtain ⟨g101, h102⟩ := chk_e h100
   refine wv (o_add rfl rfl g101) ?_
   refine wv (o_nilcheck rfl) ?_
   refine wv (o_fieldAddr Tryd.underlying61 rfl Tryd.sizeOf3 rfl rfl) ?_
   refine u_store (i := 0) Tryd.sizeOf3 rfl rfl (one_c rfl) rfl rfl (cs' := [rS r1.2.fS, rI .i64 (x75 + 1), rv v4, rB r1.2.fGreat]) rfl (H' := [.blk b_q [rS r1.2.fS, rI .i64 (x75 + 1), rv v4, rB r1.2.fGreat] 61, .row v4 40 4 (List.map eTApiCell r1.2.fCells)]) rfl ?_
   refine wl_nil ?_
   refine wk_in_norm ?_
   have h103 := stp_next h102 ht90
   exact wk_then (wk_some (m91, x75 + 1, ()) ⟨h103, Nat.lt_succ_self _⟩ (Sub.c rfl (Sub.c rfl (Sub.c rfl Sub.nil))) (sC (sC sN)))
  ·have h104 := cnd_f c99 h96
   refine wc_exit ?_
   refine wk_then_exit ?_
   have h105 := stp_go h104 ht90 hK88
   exact wk_then_exit (wk_cut_hit (wk_some (x75, ()) h105 (Sub.c rfl (Sub.c rfl (Sub.c rfl Sub.nil))) (sC (sC sN))))
 ·rintro ⟨x85, ⟨⟩⟩ h106
  refine wk_as (l' := [(0, rv (.pointer (some ⟨b_q, 0, none⟩))), (3, rI .i64 q.fAt), (4, rI .i64 r1.2.fAt)]) (H' := [.blk b_q [rS r1.2.fS, rI .i64 x85, rv v4, rB r1.2.fGreat] 61, .row v4 40 4 (List.map eTApiCell r1.2.fCells)]) rfl rfl ?_
  replace h106 : vRInt_k1 q r1 x85 = some r := h106
  unfold vRInt_k1 at h106
  refine wk_in_hit ?_
  refine wk_x ?_
  refine wc_seq ?_
  obtain ⟨g107, h108⟩ := chk_e h106
  obtain ⟨g109, h110⟩ := chk_e h108
  obtain ⟨g111, h112⟩ := chk_e h110
  refine wc_rdq [0, 3, 4] [⟨[], rv (.pointer (some ⟨b_q, 0, none⟩)), 0⟩, ⟨[0], rv (.pointer (some ⟨b_q, 0, none⟩)), 0⟩, ⟨[1], rv (.pointer (some ⟨b_q, 0, none⟩)), 0⟩, ⟨[2], rS r1.2.fS, 1⟩, ⟨[], rI .i64 q.fAt, 0⟩, ⟨[], rv (.pointer (some ⟨b_q, 0, none⟩)), 0⟩, ⟨[5], rv (.pointer (some ⟨b_q, 0, none⟩)), 0⟩, ⟨[6], rv (.pointer (some ⟨b_q, 1, none⟩)), 0⟩, ⟨[7], rI .i64 x85, 1⟩, ⟨[3, 4, 8], rS (List.take (Int.toNat x85 - Int.toNat q.fAt) (List.drop (Int.toNat q.fAt) r1.2.fS)), 0⟩, ⟨[9], rTup [rI .i64 (parseV (List.take (Int.toNat x85 - Int.toNat q.fAt) (List.drop (Int.toNat q.fAt) r1.2.fS))), rI .i64 (parseE (List.take (Int.toNat x85 - Int.toNat q.fAt) (List.drop (Int.toNat q.fAt) r1.2.fS)))], 0⟩, ⟨[10], rTup [rI .i64 (parseV (List.take (Int.toNat x85 - Int.toNat q.fAt) (List.drop (Int.toNat q.fAt) r1.2.fS))), rI .i64 (parseE (List.take (Int.toNat x85 - Int.toNat q.fAt) (List.drop (Int.toNat q.fAt) r1.2.fS)))], 0⟩, ⟨[11], rI .i64 (parseV (List.take (Int.toNat x85 - Int.toNat q.fAt) (List.drop (Int.toNat q.fAt) r1.2.fS))), 0⟩, ⟨[11], rI .i64 (parseE (List.take (Int.toNat x85 - Int.toNat q.fAt) (List.drop (Int.toNat q.fAt) r1.2.fS))), 0⟩, ⟨[12], rI .i64 (parseV (List.take (Int.toNat x85 - Int.toNat q.fAt) (List.drop (Int.toNat q.fAt) r1.2.fS))), 0⟩, ⟨[13], rI .i64 (parseE (List.take (Int.toNat x85 - Int.toNat q.fAt) (List.drop (Int.toNat q.fAt) r1.2.fS))), 0⟩] [5, 6, 0, 4] ?_ ?_
  ·refine oq (o_move rfl) ?_
   refine oq (o_nilcheck rfl) ?_
   refine oq (o_fieldAddr Tryd.underlying61 rfl Tryd.sizeOf9 rfl rfl) ?_
   refine of (o_load (i := 0) Tryd.isAgg9 rfl rfl rfl) ?_
   refine oq (o_move rfl) ?_
   refine oq (o_move rfl) ?_
   refine oq (o_nilcheck rfl) ?_
   refine oq (o_fieldAddr Tryd.underlying61 rfl Tryd.sizeOf3 rfl rfl) ?_
   refine of (o_load (i := 0) Tryd.isAgg3 rfl rfl rfl) ?_
   refine oq (o_slice_lh Tryd.underlying9 rfl rfl rfl g107 g109) ?_
   refine obl_q rfl (fun H => ok_call0 (rs := [rS (List.take (Int.toNat x85 - Int.toNat q.fAt) (List.drop (Int.toNat q.fAt) r1.2.fS))]) (r := rTup [rI .i64 (parseV (List.take (Int.toNat x85 - Int.toNat q.fAt) (List.drop (Int.toNat q.fAt) r1.2.fS))), rI .i64 (parseE (List.take (Int.toNat x85 - Int.toNat q.fAt) (List.drop (Int.toNat q.fAt) r1.2.fS)))]) Tryd.call78 rfl (parse_q (List.take (Int.toNat x85 - Int.toNat q.fAt) (List.drop (Int.toNat q.fAt) r1.2.fS)) g111) rfl) ?_
   refine oq (o_move rfl) ?_
   refine oq (o_extract rfl rfl) ?_
   refine oq (o_extract rfl rfl) ?_
   refine oq (o_assign rfl) ?_
   refine oq (o_assign rfl) ?_
   exact obl_e
  refine wk_x ?_
  refine wc_seq ?_
  refine wc_seq_mid [(0, rv (.pointer (some ⟨b_q, 0, none⟩))), (5, rI .i64 (parseV (List.take (Int.toNat x85 - Int.toNat q.fAt) (List.drop (Int.toNat q.fAt) r1.2.fS)))), (6, rI .i64 (parseE (List.take (Int.toNat x85 - Int.toNat q.fAt) (List.drop (Int.toNat q.fAt) r1.2.fS)))), (81, rB ((decide ((parseE (List.take (Int.toNat x85 - Int.toNat q.fAt) (List.drop (Int.toNat q.fAt) r1.2.fS))) = 1)) || (decide (r1.2.fAt = x85))))] [.blk b_q [rS r1.2.fS, rI .i64 x85, rv v4, rB r1.2.fGreat] 61, .row v4 40 4 (List.map eTApiCell r1.2.fCells)] ?_ ?_
  ·refine wc_region ?_
   refine wm rfl ?_
   refine wv (o_eq rfl rfl) ?_
   refine wm rfl ?_
   refine bsplit (decide ((parseE (List.take (Int.toNat x85 - Int.toNat q.fAt) (List.drop (Int.toNat q.fAt) r1.2.fS))) = 1)) (fun c113 => ?_) (fun c113 => ?_)
   ·refine wf c113 ?_
    refine wf c113 ?_
    refine wf c113 ?_
    refine wf c113 ?_
    refine wf c113 ?_
    refine wf c113 ?_
    refine wv (r := rB true) (o_pick_t (b := decide ((parseE (List.take (Int.toNat x85 - Int.toNat q.fAt) (List.drop (Int.toNat q.fAt) r1.2.fS))) = 1)) rfl c113 rfl) ?_
    refine wl_nil ?_
    exact wtc c113
   ·refine wo c113 ?_
    refine wm rfl ?_
    refine wo c113 ?_
    refine wm rfl ?_
    refine wo c113 ?_
    refine wv (o_nilcheck rfl) ?_
    refine wo c113 ?_
    refine wv (o_fieldAddr Tryd.underlying61 rfl Tryd.sizeOf3 rfl rfl) ?_
    refine wo c113 ?_
    refine wv (o_load (i := 0) Tryd.isAgg3 rfl rfl rfl) ?_
    refine wo c113 ?_
    refine wv (o_eq rfl rfl) ?_
    refine wpf rfl c113 rfl ?_
    refine wl_nil ?_
    exact wtc c113
  refine wc_cond (b := ((decide ((parseE (List.take (Int.toNat x85 - Int.toNat q.fAt) (List.drop (Int.toNat q.fAt) r1.2.fS))) = 1)) || (decide (r1.2.fAt = x85)))) rfl (fun c114 => ?_) (fun c114 => ?_)
  ·have h115 := cnd_t c114 h112
   refine wc_sr ?_
   refine wv (r := rB false) (o_assign rfl) ?_
   refine wl_x ?_
   refine wc_ret ?_
   refine wk_then_ret ?_
   obtain rfl := some_e h115
   exact wk_ret (r_1 Tryd.results69 (rv_t rfl)) (sC (sC sN)) ⟨v4, rfl, rfl⟩
  ·have h116 := cnd_f c114 h112
   refine wc_skip ?_
   refine wk_x ?_
   refine wc_seq_mid [(0, rv (.pointer (some ⟨b_q, 0, none⟩))), (5, rI .i64 (parseV (List.take (Int.toNat x85 - Int.toNat q.fAt) (List.drop (Int.toNat q.fAt) r1.2.fS))))] [.blk b_q [rS r1.2.fS, rI .i64 x85, rv v4, rB (r1.2.fGreat || (!decide ((parseE (List.take (Int.toNat x85 - Int.toNat q.fAt) (List.drop (Int.toNat q.fAt) r1.2.fS))) = 0)))] 61, .row v4 40 4 (List.map eTApiCell r1.2.fCells)] ?_ ?_
   ·refine wc_region ?_
    refine wm rfl ?_
    refine wm rfl ?_
    refine wv (o_nilcheck rfl) ?_
    refine wv (o_fieldAddr Tryd.underlying61 rfl Tryd.sizeOf4 rfl rfl) ?_
    refine wv (o_load (i := 0) Tryd.isAgg4 rfl rfl rfl) ?_
    refine wm rfl ?_
    refine bsplit (r1.2.fGreat) (fun c117 => ?_) (fun c117 => ?_)
    ·refine wf c117 ?_
     refine wf c117 ?_
     refine wv (r := rB true) (o_pick_t (b := r1.2.fGreat) rfl c117 rfl) ?_
     refine wv (o_nilcheck rfl) ?_
     refine wv (o_fieldAddr Tryd.underlying61 rfl Tryd.sizeOf4 rfl rfl) ?_
     refine u_store (i := 0) Tryd.sizeOf4 rfl rfl (one_c rfl) rfl rfl (cs' := [rS r1.2.fS, rI .i64 x85, rv v4, rB true]) rfl (H' := [.blk b_q [rS r1.2.fS, rI .i64 x85, rv v4, rB true] 61, .row v4 40 4 (List.map eTApiCell r1.2.fCells)]) rfl ?_
     refine wl_nil ?_
     refine wk_asH (H' := [.blk b_q [rS r1.2.fS, rI .i64 x85, rv v4, rB (r1.2.fGreat || (!decide ((parseE (List.take (Int.toNat x85 - Int.toNat q.fAt) (List.drop (Int.toNat q.fAt) r1.2.fS))) = 0)))] 61, .row v4 40 4 (List.map eTApiCell r1.2.fCells)]) (by simp only [c117, Bool.true_and, Bool.false_and, Bool.true_or, Bool.false_or, Bool.and_true, Bool.and_false, Bool.or_true, Bool.or_false, Bool.not_true, Bool.not_false, cond_true, cond_false]) ?_
     exact wt
    ·refine wo c117 ?_
     refine wm rfl ?_
     refine wo c117 ?_
     refine wv (o_ne rfl rfl) ?_
     refine wpf rfl c117 rfl ?_
     refine wv (o_nilcheck rfl) ?_
     refine wv (o_fieldAddr Tryd.underlying61 rfl Tryd.sizeOf4 rfl rfl) ?_
     refine u_store (i := 0) Tryd.sizeOf4 rfl rfl (one_c rfl) rfl rfl (cs' := [rS r1.2.fS, rI .i64 x85, rv v4, rB (!decide ((parseE (List.take (Int.toNat x85 - Int.toNat q.fAt) (List.drop (Int.toNat q.fAt) r1.2.fS))) = 0))]) rfl (H' := [.blk b_q [rS r1.2.fS, rI .i64 x85, rv v4, rB (!decide ((parseE (List.take (Int.toNat x85 - Int.toNat q.fAt) (List.drop (Int.toNat q.fAt) r1.2.fS))) = 0))] 61, .row v4 40 4 (List.map eTApiCell r1.2.fCells)]) rfl ?_
     refine wl_nil ?_
     refine wk_asH (H' := [.blk b_q [rS r1.2.fS, rI .i64 x85, rv v4, rB (r1.2.fGreat || (!decide ((parseE (List.take (Int.toNat x85 - Int.toNat q.fAt) (List.drop (Int.toNat q.fAt) r1.2.fS))) = 0)))] 61, .row v4 40 4 (List.map eTApiCell r1.2.fCells)]) (by simp only [c117, Bool.true_and, Bool.false_and, Bool.true_or, Bool.false_or, Bool.and_true, Bool.and_false, Bool.or_true, Bool.or_false, Bool.not_true, Bool.not_false, cond_true, cond_false]) ?_
     exact wt
   refine wc_sr ?_
   refine wm rfl ?_
   refine wm rfl ?_
   refine wv (o_nilcheck rfl) ?_
   refine wv (o_fieldAddr Tryd.underlying61 rfl Tryd.sizeOf22 rfl rfl) ?_
   refine wv (o_load (i := 0) Tryd.isAgg22 rfl rfl rfl) ?_
   refine wm rfl ?_
   refine wv (r := rAgg [rI .i64 3, rI .i64 (parseV (List.take (Int.toNat x85 - Int.toNat q.fAt) (List.drop (Int.toNat q.fAt) r1.2.fS))), rS ([] : Str), rI .i64 0]) (o_build40_0_1 rfl rfl rfl rfl) ?_
   refine w_buildSlice (ys := ([(TApiCell.mk 3 (parseV (List.take (Int.toNat x85 - Int.toNat q.fAt) (List.drop (Int.toNat q.fAt) r1.2.fS))) ([] : Str) 0)] : List TApiCell)) (enc := eTApiCell) (css := [[rI .i64 3, rI .i64 (parseV (List.take (Int.toNat x85 - Int.toNat q.fAt) (List.drop (Int.toNat q.fAt) r1.2.fS))), rS ([] : Str), rI .i64 0]]) (xs := [.tmp 99]) Tryd.underlying22 Tryd.sizeOf40 Tryd.zeroValue40 rfl rfl rfl ⟨Cel.agg ⟨Up.refl _, Up.refl _, Up.refl _, Up.refl _, trivial⟩, trivial⟩ rfl eTApiCell_len rfl rfl rfl (fun b118 => ?_)
   obtain ⟨g120, h121⟩ := chk_e h116
   obtain ⟨inf, hinf⟩ := info40
   refine w_append (xs := r1.2.fCells) (ys := ([(TApiCell.mk 3 (parseV (List.take (Int.toNat x85 - Int.toNat q.fAt) (List.drop (Int.toNat q.fAt) r1.2.fS))) ([] : Str) 0)] : List TApiCell)) (enc := eTApiCell) (i := 2) Tryd.underlying22 hinf.1 hinf.2.1 hinf.2.2.1 hinf.2.2.2 rfl rfl rfl rfl rfl (Src.w (i := 0) rfl rfl) eTApiCell_len eTApiCell_one g120 rfl (fun v119 => ?_)
   refine wv (o_nilcheck rfl) ?_
   refine wv (o_fieldAddr Tryd.underlying61 rfl Tryd.sizeOf22 rfl rfl) ?_
   refine u_store (i := 2) Tryd.sizeOf22 rfl rfl (one_row (i := 0) rfl) rfl rfl (cs' := [rS r1.2.fS, rI .i64 x85, rv v119, rB (r1.2.fGreat || (!decide ((parseE (List.take (Int.toNat x85 - Int.toNat q.fAt) (List.drop (Int.toNat q.fAt) r1.2.fS))) = 0)))]) rfl (H' := [.row v119 40 4 (List.map eTApiCell (r1.2.fCells ++ ([(TApiCell.mk 3 (parseV (List.take (Int.toNat x85 - Int.toNat q.fAt) (List.drop (Int.toNat q.fAt) r1.2.fS))) ([] : Str) 0)] : List TApiCell))), .row (.slice (some ⟨b118, 0, none⟩) 1 1) 40 4 (List.map eTApiCell ([(TApiCell.mk 3 (parseV (List.take (Int.toNat x85 - Int.toNat q.fAt) (List.drop (Int.toNat q.fAt) r1.2.fS))) ([] : Str) 0)] : List TApiCell)), .blk b_q [rS r1.2.fS, rI .i64 x85, rv v119, rB (r1.2.fGreat || (!decide ((parseE (List.take (Int.toNat x85 - Int.toNat q.fAt) (List.drop (Int.toNat q.fAt) r1.2.fS))) = 0)))] 61]) rfl ?_
   refine wl_y ?_
   refine wv (r := rB true) (o_assign rfl) ?_
   refine wl_x ?_
   refine wc_ret ?_
   refine wk_perm (H2 := [.blk b_q [rS r1.2.fS, rI .i64 x85, rv v119, rB (r1.2.fGreat || (!decide ((parseE (List.take (Int.toNat x85 - Int.toNat q.fAt) (List.drop (Int.toNat q.fAt) r1.2.fS))) = 0)))] 61, .row v119 40 4 (List.map eTApiCell (r1.2.fCells ++ ([(TApiCell.mk 3 (parseV (List.take (Int.toNat x85 - Int.toNat q.fAt) (List.drop (Int.toNat q.fAt) r1.2.fS))) ([] : Str) 0)] : List TApiCell))), .row (.slice (some ⟨b118, 0, none⟩) 1 1) 40 4 (List.map eTApiCell ([(TApiCell.mk 3 (parseV (List.take (Int.toNat x85 - Int.toNat q.fAt) (List.drop (Int.toNat q.fAt) r1.2.fS))) ([] : Str) 0)] : List TApiCell))]) ((perm_front (i := 2) rfl).trans (List.Perm.cons _ (List.Perm.refl _))) ?_
   obtain rfl := some_e h121
   exact wk_ret (r_1 Tryd.results69 (rv_t rfl)) (sC (sC (sS sN))) ⟨v119, rfl, rfl⟩

theorem vRScalar_w (F : Nat) (b_q : Nat) (v_q_2 : Value) (q : TValueReader) (r : Bool × TValueReader) (h : vRScalar F q = some r) : Fn Tryd.prog GE 57 [rv (.pointer (some ⟨b_q, 0, none⟩))] [.blk b_q [rS q.fS, rI .i64 q.fAt, rv v_q_2, rB q.fGreat] 61, .row v_q_2 40 4 (List.map eTApiCell q.fCells)] (fun R H => ∃ w0_2 : Value, R = rB r.1 ∧ H = [.blk b_q [rS r.2.fS, rI .i64 r.2.fAt, rv w0_2, rB r.2.fGreat] 61, .row w0_2 40 4 (List.map eTApiCell r.2.fCells)]) := by
 refine enter (n := 75) Tryd.func57 rfl Tryd.ntmps57 rfl (fun w Z => ?_)
 refine wc_as (l' := [(0, rv (.pointer (some ⟨b_q, 0, none⟩)))]) (H' := [.blk b_q [rS q.fS, rI .i64 q.fAt, rv v_q_2, rB q.fGreat] 61, .row v_q_2 40 4 (List.map eTApiCell q.fCells)]) rfl rfl ?_
 unfold vRScalar at h
 refine wc_sr ?_
 refine wv (r := rB false) (o_assign rfl) ?_
 refine wl_x ?_
 refine wc_seq_cut (S := (Str × Int × (List TApiCell) × Bool) × (Value)) (fun σ => vRScalar_j1 σ.1.1 σ.1.2.1 σ.1.2.2.1 σ.1.2.2.2 = some r) (fun σ => []) (fun σ => [.blk b_q [rS σ.1.1, rI .i64 σ.1.2.1, rv σ.2, rB σ.1.2.2.2] 61, .row σ.2 40 4 (List.map eTApiCell σ.1.2.2.1)]) ?_ ?_
 ·refine wc_block ?_
  refine wc_sr ?_
  refine wm rfl ?_
  obtain ⟨r62, e64, h63⟩ := obn_e h
  refine wcl (Hr := []) Tryd.call56 (vTake_w b_q v_q_2 q ([110, 117, 108, 108] : Str) r62 e64) rfl (List.Perm.refl _) rfl ?_
  rintro _ _ ⟨v65, rfl, rfl⟩
  refine wa rfl ?_
  refine wl_x ?_
  refine wc_cond (b := r62.1) rfl (fun c66 => ?_) (fun c66 => ?_)
  ·have h67 := cnd_t c66 h63
   refine wc_region ?_
   refine wm rfl ?_
   refine wm rfl ?_
   refine wv (o_nilcheck rfl) ?_
   refine wv (o_fieldAddr Tryd.underlying61 rfl Tryd.sizeOf22 rfl rfl) ?_
   refine wv (o_load (i := 0) Tryd.isAgg22 rfl rfl rfl) ?_
   refine wv (r := rAgg [rI .i64 1, rI .i64 0, rS ([] : Str), rI .i64 0]) (o_build40_0 rfl rfl) ?_
   refine w_buildSlice (ys := ([(TApiCell.mk 1 0 ([] : Str) 0)] : List TApiCell)) (enc := eTApiCell) (css := [[rI .i64 1, rI .i64 0, rS ([] : Str), rI .i64 0]]) (xs := [.tmp 15]) Tryd.underlying22 Tryd.sizeOf40 Tryd.zeroValue40 rfl rfl rfl ⟨Cel.agg ⟨Up.refl _, Up.refl _, Up.refl _, Up.refl _, trivial⟩, trivial⟩ rfl eTApiCell_len rfl rfl rfl (fun b68 => ?_)
   obtain ⟨g70, h71⟩ := chk_e h67
   obtain ⟨inf, hinf⟩ := info40
   refine w_append (xs := r62.2.fCells) (ys := ([(TApiCell.mk 1 0 ([] : Str) 0)] : List TApiCell)) (enc := eTApiCell) (i := 2) Tryd.underlying22 hinf.1 hinf.2.1 hinf.2.2.1 hinf.2.2.2 rfl rfl rfl rfl rfl (Src.w (i := 0) rfl rfl) eTApiCell_len eTApiCell_one g70 rfl (fun v69 => ?_)
   refine wv (o_nilcheck rfl) ?_
   refine wv (o_fieldAddr Tryd.underlying61 rfl Tryd.sizeOf22 rfl rfl) ?_
   refine u_store (i := 2) Tryd.sizeOf22 rfl rfl (one_row (i := 0) rfl) rfl rfl (cs' := [rS r62.2.fS, rI .i64 r62.2.fAt, rv v69, rB r62.2.fGreat]) rfl (H' := [.row v69 40 4 (List.map eTApiCell (r62.2.fCells ++ ([(TApiCell.mk 1 0 ([] : Str) 0)] : List TApiCell))), .row (.slice (some ⟨b68, 0, none⟩) 1 1) 40 4 (List.map eTApiCell ([(TApiCell.mk 1 0 ([] : Str) 0)] : List TApiCell)), .blk b_q [rS r62.2.fS, rI .i64 r62.2.fAt, rv v69, rB r62.2.fGreat] 61]) rfl ?_
   refine wl_nil ?_
   refine wk_in_norm ?_
   refine wk_perm (H2 := [.blk b_q [rS r62.2.fS, rI .i64 r62.2.fAt, rv v69, rB r62.2.fGreat] 61, .row v69 40 4 (List.map eTApiCell (r62.2.fCells ++ ([(TApiCell.mk 1 0 ([] : Str) 0)] : List TApiCell))), .row (.slice (some ⟨b68, 0, none⟩) 1 1) 40 4 (List.map eTApiCell ([(TApiCell.mk 1 0 ([] : Str) 0)] : List TApiCell))]) ((perm_front (i := 2) rfl).trans (List.Perm.cons _ (List.Perm.refl _))) ?_
   exact wk_then (wk_some ((r62.2.fS, r62.2.fAt, r62.2.fCells ++ ([(TApiCell.mk 1 0 ([] : Str) 0)] : List TApiCell), r62.2.fGreat), v69) h71 Sub.nil (sC (sC (sS sN))))
  ·have h72 := cnd_f c66 h63
   refine wc_sr ?_
   refine wm rfl ?_
   obtain ⟨r73, e75, h74⟩ := obn_e h72
   refine wcl (Hr := []) Tryd.call56 (vTake_w b_q v65 r62.2 ([116, 114, 117, 101] : Str) r73 e75) rfl (List.Perm.refl _) rfl ?_
   rintro _ _ ⟨v76, rfl, rfl⟩
   refine wa rfl ?_
   refine wl_x ?_
   refine wc_cond (b := r73.1) rfl (fun c77 => ?_) (fun c77 => ?_)
   ·have h78 := cnd_t c77 h74
    refine wc_region ?_
    refine wm rfl ?_
    refine wm rfl ?_
    refine wv (o_nilcheck rfl) ?_
    refine wv (o_fieldAddr Tryd.underlying61 rfl Tryd.sizeOf22 rfl rfl) ?_
    refine wv (o_load (i := 0) Tryd.isAgg22 rfl rfl rfl) ?_
    refine wv (r := rAgg [rI .i64 2, rI .i64 1, rS ([] : Str), rI .i64 0]) (o_build40_0_1 rfl rfl rfl rfl) ?_
    refine w_buildSlice (ys := ([(TApiCell.mk 2 1 ([] : Str) 0)] : List TApiCell)) (enc := eTApiCell) (css := [[rI .i64 2, rI .i64 1, rS ([] : Str), rI .i64 0]]) (xs := [.tmp 28]) Tryd.underlying22 Tryd.sizeOf40 Tryd.zeroValue40 rfl rfl rfl ⟨Cel.agg ⟨Up.refl _, Up.refl _, Up.refl _, Up.refl _, trivial⟩, trivial⟩ rfl eTApiCell_len rfl rfl rfl (fun b79 => ?_)
    obtain ⟨g81, h82⟩ := chk_e h78
    obtain ⟨inf, hinf⟩ := info40
    refine w_append (xs := r73.2.fCells) (ys := ([(TApiCell.mk 2 1 ([] : Str) 0)] : List TApiCell)) (enc := eTApiCell) (i := 2) Tryd.underlying22 hinf.1 hinf.2.1 hinf.2.2.1 hinf.2.2.2 rfl rfl rfl rfl rfl (Src.w (i := 0) rfl rfl) eTApiCell_len eTApiCell_one g81 rfl (fun v80 => ?_)
    refine wv (o_nilcheck rfl) ?_
    refine wv (o_fieldAddr Tryd.underlying61 rfl Tryd.sizeOf22 rfl rfl) ?_
    refine u_store (i := 2) Tryd.sizeOf22 rfl rfl (one_row (i := 0) rfl) rfl rfl (cs' := [rS r73.2.fS, rI .i64 r73.2.fAt, rv v80, rB r73.2.fGreat]) rfl (H' := [.row v80 40 4 (List.map eTApiCell (r73.2.fCells ++ ([(TApiCell.mk 2 1 ([] : Str) 0)] : List TApiCell))), .row (.slice (some ⟨b79, 0, none⟩) 1 1) 40 4 (List.map eTApiCell ([(TApiCell.mk 2 1 ([] : Str) 0)] : List TApiCell)), .blk b_q [rS r73.2.fS, rI .i64 r73.2.fAt, rv v80, rB r73.2.fGreat] 61]) rfl ?_
    refine wl_nil ?_
    refine wk_in_norm ?_
    refine wk_perm (H2 := [.blk b_q [rS r73.2.fS, rI .i64 r73.2.fAt, rv v80, rB r73.2.fGreat] 61, .row v80 40 4 (List.map eTApiCell (r73.2.fCells ++ ([(TApiCell.mk 2 1 ([] : Str) 0)] : List TApiCell))), .row (.slice (some ⟨b79, 0, none⟩) 1 1) 40 4 (List.map eTApiCell ([(TApiCell.mk 2 1 ([] : Str) 0)] : List TApiCell))]) ((perm_front (i := 2) rfl).trans (List.Perm.cons _ (List.Perm.refl _))) ?_
    exact wk_then (wk_some ((r73.2.fS, r73.2.fAt, r73.2.fCells ++ ([(TApiCell.mk 2 1 ([] : Str) 0)] : List TApiCell), r73.2.fGreat), v80) h82 Sub.nil (sC (sC (sS sN))))
   ·have h83 := cnd_f c77 h74
    refine wc_sr ?_
    refine wm rfl ?_
    obtain ⟨r84, e86, h85⟩ := obn_e h83
    refine wcl (Hr := []) Tryd.call56 (vTake_w b_q v76 r73.2 ([102, 97, 108, 115, 101] : Str) r84 e86) rfl (List.Perm.refl _) rfl ?_
    rintro _ _ ⟨v87, rfl, rfl⟩
    refine wa rfl ?_
    refine wl_x ?_
    refine wc_cond (b := r84.1) rfl (fun c88 => ?_) (fun c88 => ?_)
    ·have h89 := cnd_t c88 h85
     refine wc_region ?_
     refine wm rfl ?_
     refine wm rfl ?_
     refine wv (o_nilcheck rfl) ?_
     refine wv (o_fieldAddr Tryd.underlying61 rfl Tryd.sizeOf22 rfl rfl) ?_
     refine wv (o_load (i := 0) Tryd.isAgg22 rfl rfl rfl) ?_
     refine wv (r := rAgg [rI .i64 2, rI .i64 0, rS ([] : Str), rI .i64 0]) (o_build40_0 rfl rfl) ?_
     refine w_buildSlice (ys := ([(TApiCell.mk 2 0 ([] : Str) 0)] : List TApiCell)) (enc := eTApiCell) (css := [[rI .i64 2, rI .i64 0, rS ([] : Str), rI .i64 0]]) (xs := [.tmp 41]) Tryd.underlying22 Tryd.sizeOf40 Tryd.zeroValue40 rfl rfl rfl ⟨Cel.agg ⟨Up.refl _, Up.refl _, Up.refl _, Up.refl _, trivial⟩, trivial⟩ rfl eTApiCell_len rfl rfl rfl (fun b90 => ?_)
     obtain ⟨g92, h93⟩ := chk_e h89
     obtain ⟨inf, hinf⟩ := info40
     refine w_append (xs := r84.2.fCells) (ys := ([(TApiCell.mk 2 0 ([] : Str) 0)] : List TApiCell)) (enc := eTApiCell) (i := 2) Tryd.underlying22 hinf.1 hinf.2.1 hinf.2.2.1 hinf.2.2.2 rfl rfl rfl rfl rfl (Src.w (i := 0) rfl rfl) eTApiCell_len eTApiCell_one g92 rfl (fun v91 => ?_)
     refine wv (o_nilcheck rfl) ?_
     refine wv (o_fieldAddr Tryd.underlying61 rfl Tryd.sizeOf22 rfl rfl) ?_
     refine u_store (i := 2) Tryd.sizeOf22 rfl rfl (one_row (i := 0) rfl) rfl rfl (cs' := [rS r84.2.fS, rI .i64 r84.2.fAt, rv v91, rB r84.2.fGreat]) rfl (H' := [.row v91 40 4 (List.map eTApiCell (r84.2.fCells ++ ([(TApiCell.mk 2 0 ([] : Str) 0)] : List TApiCell))), .row (.slice (some ⟨b90, 0, none⟩) 1 1) 40 4 (List.map eTApiCell ([(TApiCell.mk 2 0 ([] : Str) 0)] : List TApiCell)), .blk b_q [rS r84.2.fS, rI .i64 r84.2.fAt, rv v91, rB r84.2.fGreat] 61]) rfl ?_
     refine wl_nil ?_
     refine wk_in_norm ?_
     refine wk_perm (H2 := [.blk b_q [rS r84.2.fS, rI .i64 r84.2.fAt, rv v91, rB r84.2.fGreat] 61, .row v91 40 4 (List.map eTApiCell (r84.2.fCells ++ ([(TApiCell.mk 2 0 ([] : Str) 0)] : List TApiCell))), .row (.slice (some ⟨b90, 0, none⟩) 1 1) 40 4 (List.map eTApiCell ([(TApiCell.mk 2 0 ([] : Str) 0)] : List TApiCell))]) ((perm_front (i := 2) rfl).trans (List.Perm.cons _ (List.Perm.refl _))) ?_
     exact wk_then (wk_some ((r84.2.fS, r84.2.fAt, r84.2.fCells ++ ([(TApiCell.mk 2 0 ([] : Str) 0)] : List TApiCell), r84.2.fGreat), v91) h93 Sub.nil (sC (sC (sS sN))))
    ·have h94 := cnd_f c88 h85
     refine wc_seq ?_
     obtain ⟨g95, h96⟩ := chk_e h94
     obtain ⟨r97, e99, h98⟩ := obn_e h96
     refine wc_rdq [0] [⟨[], rv (.pointer (some ⟨b_q, 0, none⟩)), 0⟩, ⟨[0], rv (.pointer (some ⟨b_q, 0, none⟩)), 0⟩, ⟨[1], rv (.pointer (some ⟨b_q, 0, none⟩)), 0⟩, ⟨[2], rS r84.2.fS, 1⟩, ⟨[], rv (.pointer (some ⟨b_q, 0, none⟩)), 0⟩, ⟨[4], rv (.pointer (some ⟨b_q, 0, none⟩)), 0⟩, ⟨[5], rv (.pointer (some ⟨b_q, 1, none⟩)), 0⟩, ⟨[6], rI .i64 r84.2.fAt, 1⟩, ⟨[3, 7], rS (List.drop (Int.toNat r84.2.fAt) r84.2.fS), 0⟩, ⟨[8], rB r97, 0⟩, ⟨[9], rB r97, 0⟩] [46, 0] ?_ ?_
     ·refine oq (o_move rfl) ?_
      refine oq (o_nilcheck rfl) ?_
      refine oq (o_fieldAddr Tryd.underlying61 rfl Tryd.sizeOf9 rfl rfl) ?_
      refine of (o_load (i := 0) Tryd.isAgg9 rfl rfl rfl) ?_
      refine oq (o_move rfl) ?_
      refine oq (o_nilcheck rfl) ?_
      refine oq (o_fieldAddr Tryd.underlying61 rfl Tryd.sizeOf3 rfl rfl) ?_
      refine of (o_load (i := 0) Tryd.isAgg3 rfl rfl rfl) ?_
      refine oq (o_slice_lo Tryd.underlying9 rfl rfl g95) ?_
      refine obl_q rfl (fun H => ok_c0 Tryd.call68 (hasPrefix_w (List.drop (Int.toNat r84.2.fAt) r84.2.fS) ([34] : Str) r97 e99) rfl) ?_
      refine oq (o_assign rfl) ?_
      exact obl_e
     refine wk_x ?_
     refine wc_cond (b := r97) rfl (fun c100 => ?_) (fun c100 => ?_)
     ·have h101 := cnd_t c100 h98
      refine wc_sr ?_
      refine wm rfl ?_
      obtain ⟨r102, e104, h103⟩ := obn_e h101
      refine wcl (Hr := []) Tryd.call58 (vRStr_w F b_q v87 r84.2 r102 e104) rfl (List.Perm.refl _) rfl ?_
      rintro _ _ ⟨v105, rfl, rfl⟩
      refine wm rfl ?_
      refine wv (o_extract rfl rfl) ?_
      refine wv (o_extract rfl rfl) ?_
      refine wa rfl ?_
      refine wa rfl ?_
      refine wl_x ?_
      refine wc_seq ?_
      refine wc_sr ?_
      refine wm rfl ?_
      refine wv (o_not rfl) ?_
      refine wl_x ?_
      refine wc_cond (b := !r102.2.1) rfl (fun c106 => ?_) (fun c106 => ?_)
      ·have h107 := cnd_t c106 h103
       refine wc_sr ?_
       refine wv (r := rB false) (o_assign rfl) ?_
       refine wl_x ?_
       refine wc_ret ?_
       refine wk_then_ret ?_
       refine wk_in_ret ?_
       refine wk_then_ret ?_
       obtain rfl := some_e h107
       exact wk_ret (r_1 Tryd.results57 (rv_t rfl)) (sC (sC sN)) ⟨v105, rfl, rfl⟩
      ·have h108 := cnd_f c106 h103
       refine wc_skip ?_
       refine wk_x ?_
       refine wc_region ?_
       refine wm rfl ?_
       refine wm rfl ?_
       refine wv (o_nilcheck rfl) ?_
       refine wv (o_fieldAddr Tryd.underlying61 rfl Tryd.sizeOf22 rfl rfl) ?_
       refine wv (o_load (i := 0) Tryd.isAgg22 rfl rfl rfl) ?_
       refine wm rfl ?_
       refine wv (r := rAgg [rI .i64 4, rI .i64 0, rS r102.1, rI .i64 0]) (o_build40_0_2 rfl rfl rfl rfl) ?_
       refine w_buildSlice (ys := ([(TApiCell.mk 4 0 r102.1 0)] : List TApiCell)) (enc := eTApiCell) (css := [[rI .i64 4, rI .i64 0, rS r102.1, rI .i64 0]]) (xs := [.tmp 70]) Tryd.underlying22 Tryd.sizeOf40 Tryd.zeroValue40 rfl rfl rfl ⟨Cel.agg ⟨Up.refl _, Up.refl _, Up.refl _, Up.refl _, trivial⟩, trivial⟩ rfl eTApiCell_len rfl rfl rfl (fun b109 => ?_)
       obtain ⟨g111, h112⟩ := chk_e h108
       obtain ⟨inf, hinf⟩ := info40
       refine w_append (xs := r102.2.2.fCells) (ys := ([(TApiCell.mk 4 0 r102.1 0)] : List TApiCell)) (enc := eTApiCell) (i := 2) Tryd.underlying22 hinf.1 hinf.2.1 hinf.2.2.1 hinf.2.2.2 rfl rfl rfl rfl rfl (Src.w (i := 0) rfl rfl) eTApiCell_len eTApiCell_one g111 rfl (fun v110 => ?_)
       refine wv (o_nilcheck rfl) ?_
       refine wv (o_fieldAddr Tryd.underlying61 rfl Tryd.sizeOf22 rfl rfl) ?_
       refine u_store (i := 2) Tryd.sizeOf22 rfl rfl (one_row (i := 0) rfl) rfl rfl (cs' := [rS r102.2.2.fS, rI .i64 r102.2.2.fAt, rv v110, rB r102.2.2.fGreat]) rfl (H' := [.row v110 40 4 (List.map eTApiCell (r102.2.2.fCells ++ ([(TApiCell.mk 4 0 r102.1 0)] : List TApiCell))), .row (.slice (some ⟨b109, 0, none⟩) 1 1) 40 4 (List.map eTApiCell ([(TApiCell.mk 4 0 r102.1 0)] : List TApiCell)), .blk b_q [rS r102.2.2.fS, rI .i64 r102.2.2.fAt, rv v110, rB r102.2.2.fGreat] 61]) rfl ?_
       refine wl_nil ?_
       refine wk_in_norm ?_
       refine wk_perm (H2 := [.blk b_q [rS r102.2.2.fS, rI .i64 r102.2.2.fAt, rv v110, rB r102.2.2.fGreat] 61, .row v110 40 4 (List.map eTApiCell (r102.2.2.fCells ++ ([(TApiCell.mk 4 0 r102.1 0)] : List TApiCell))), .row (.slice (some ⟨b109, 0, none⟩) 1 1) 40 4 (List.map eTApiCell ([(TApiCell.mk 4 0 r102.1 0)] : List TApiCell))]) ((perm_front (i := 2) rfl).trans (List.Perm.cons _ (List.Perm.refl _))) ?_
       exact wk_then (wk_some ((r102.2.2.fS, r102.2.2.fAt, r102.2.2.fCells ++ ([(TApiCell.mk 4 0 r102.1 0)] : List TApiCell), r102.2.2.fGreat), v110) h112 Sub.nil (sC (sC (sS sN))))
     ·have h113 := cnd_f c100 h98
      refine wc_sr ?_
      refine wm rfl ?_
      obtain ⟨r114, e116, h115⟩ := obn_e h113
      refine wcl (Hr := []) Tryd.call69 (vRInt_w F b_q v87 r84.2 r114 e116) rfl (List.Perm.refl _) rfl ?_
      rintro _ _ ⟨v117, rfl, rfl⟩
      refine wa rfl ?_
      refine wl_x ?_
      refine wc_ret ?_
      refine wk_in_ret ?_
      refine wk_then_ret ?_
      obtain rfl := some_e h115
      exact wk_ret (r_1 Tryd.results57 (rv_t rfl)) (sC (sC sN)) ⟨v117, rfl, rfl⟩
 ·rintro ⟨⟨x57, x58, x59, x61⟩, v60⟩ h118
  refine wc_as (l' := []) (H' := [.blk b_q [rS x57, rI .i64 x58, rv v60, rB x61] 61, .row v60 40 4 (List.map eTApiCell x59)]) rfl rfl ?_
  replace h118 : vRScalar_j1 x57 x58 x59 x61 = some r := h118
  unfold vRScalar_j1 at h118
  refine wc_sr ?_
  refine wv (r := rB true) (o_assign rfl) ?_
  refine wl_x ?_
  refine wc_ret ?_
  obtain rfl := some_e h118
  exact wk_ret (r_1 Tryd.results57 (rv_t rfl)) (sC (sC sN)) ⟨v60, rfl, rfl⟩

theorem vRValuem_w (F : Nat) (rec_vRValue : TValueReader → Option (Bool × TValueReader)) (ih_vRValue : (∀ (b_q : Nat) (v_q_2 : Value) (q : TValueReader) (r : Bool × TValueReader), rec_vRValue q = some r → Fn Tryd.prog GE 32 [rv (.pointer (some ⟨b_q, 0, none⟩))] [.blk b_q [rS q.fS, rI .i64 q.fAt, rv v_q_2, rB q.fGreat] 61, .row v_q_2 40 4 (List.map eTApiCell q.fCells)] (fun R H => ∃ w0_2 : Value, R = rB r.1 ∧ H = [.blk b_q [rS r.2.fS, rI .i64 r.2.fAt, rv w0_2, rB r.2.fGreat] 61, .row w0_2 40 4 (List.map eTApiCell r.2.fCells)]))) (b_q : Nat) (v_q_2 : Value) (q : TValueReader) (r : Bool × TValueReader) (h : vRValuem F rec_vRValue q = some r) : Fn Tryd.prog GE 32 [rv (.pointer (some ⟨b_q, 0, none⟩))] [.blk b_q [rS q.fS, rI .i64 q.fAt, rv v_q_2, rB q.fGreat] 61, .row v_q_2 40 4 (List.map eTApiCell q.fCells)] (fun R H => ∃ w0_2 : Value, R = rB r.1 ∧ H = [.blk b_q [rS r.2.fS, rI .i64 r.2.fAt, rv w0_2, rB r.2.fGreat] 61, .row w0_2 40 4 (List.map eTApiCell r.2.fCells)]) := by
 refine enter (n := 96) Tryd.func32 rfl Tryd.ntmps32 rfl (fun w Z => ?_)
 refine wc_as (l' := [(0, rv (.pointer (some ⟨b_q, 0, none⟩)))]) (H' := [.blk b_q [rS q.fS, rI .i64 q.fAt, rv v_q_2, rB q.fGreat] 61, .row v_q_2 40 4 (List.map eTApiCell q.fCells)]) rfl rfl ?_
 unfold vRValuem at h
 refine wc_sr ?_
 refine wv (r := rB false) (o_assign rfl) ?_
 refine wl_y ?_
 refine wm rfl ?_
 obtain ⟨r1, e3, h2⟩ := obn_e h
 refine wcl (Hr := []) Tryd.call56 (vTake_w b_q v_q_2 q ([91] : Str) r1 e3) rfl (List.Perm.refl _) rfl ?_
 rintro _ _ ⟨v4, rfl, rfl⟩
 refine wa rfl ?_
 refine wl_x ?_
 refine wc_seq ?_
 refine wc_seq_cut (S := (Bool × Str × Int × (List TApiCell) × Bool) × (Value)) (fun σ => vRValue_j1 F rec_vRValue r1 σ.1.1 σ.1.2.1 σ.1.2.2.1 σ.1.2.2.2.1 σ.1.2.2.2.2 = some r) (fun σ => [(0, rv (.pointer (some ⟨b_q, 0, none⟩))), (2, rB false), (3, rB r1.1), (19, rB σ.1.1)]) (fun σ => [.blk b_q [rS σ.1.2.1, rI .i64 σ.1.2.2.1, rv σ.2, rB σ.1.2.2.2.2] 61, .row σ.2 40 4 (List.map eTApiCell σ.1.2.2.2.1)]) ?_ ?_
 ·refine wc_region ?_
  refine wm rfl ?_
  refine wv (o_not rfl) ?_
  refine wm rfl ?_
  refine bsplit (!r1.1) (fun c19 => ?_) (fun c19 => ?_)
  ·have h20 := cnd_t c19 h2
   refine wo c19 ?_
   refine wm rfl ?_
   refine wo c19 ?_
   obtain ⟨r21, e23, h22⟩ := obn_e h20
   refine wcl (Hr := []) Tryd.call56 (vTake_w b_q v4 r1.2 ([123] : Str) r21 e23) rfl (List.Perm.refl _) rfl ?_
   rintro _ _ ⟨v24, rfl, rfl⟩
   refine wo c19 ?_
   refine wv (o_not rfl) ?_
   refine wpt rfl c19 rfl ?_
   refine wl_nil ?_
   exact wk_then (wk_some ((!r21.1, r21.2.fS, r21.2.fAt, r21.2.fCells, r21.2.fGreat), v24) h22 (Sub.c rfl (Sub.c rfl (Sub.c rfl (Sub.c rfl Sub.nil)))) (sC (sC sN)))
  ·have h25 := cnd_f c19 h2
   refine wf c19 ?_
   refine wf c19 ?_
   refine wf c19 ?_
   refine wv (r := rB false) (o_pick_f (b := !r1.1) rfl c19 rfl) ?_
   refine wl_nil ?_
   exact wk_then (wk_some ((false, r1.2.fS, r1.2.fAt, r1.2.fCells, r1.2.fGreat), v4) h25 (Sub.c rfl (Sub.c rfl (Sub.c rfl (Sub.c rfl Sub.nil)))) (sC (sC sN)))
 ·rintro ⟨⟨x13, x14, x15, x16, x18⟩, v17⟩ h26
  refine wc_as (l' := [(0, rv (.pointer (some ⟨b_q, 0, none⟩))), (2, rB false), (3, rB r1.1), (19, rB x13)]) (H' := [.blk b_q [rS x14, rI .i64 x15, rv v17, rB x18] 61, .row v17 40 4 (List.map eTApiCell x16)]) rfl rfl ?_
  replace h26 : vRValue_j1 F rec_vRValue r1 x13 x14 x15 x16 x18 = some r := h26
  unfold vRValue_j1 at h26
  refine wc_cond (b := x13) rfl (fun c27 => ?_) (fun c27 => ?_)
  ·have h28 := cnd_t c27 h26
   refine wc_sr ?_
   refine wm rfl ?_
   obtain ⟨r29, e31, h30⟩ := obn_e h28
   refine wcl (Hr := []) Tryd.call57 (vRScalar_w F b_q v17 (TValueReader.mk x14 x15 x16 x18) r29 e31) rfl (List.Perm.refl _) rfl ?_
   rintro _ _ ⟨v32, rfl, rfl⟩
   refine wa rfl ?_
   refine wl_x ?_
   refine wc_ret ?_
   refine wk_then_ret ?_
   obtain rfl := some_e h30
   exact wk_ret (r_1 Tryd.results32 (rv_t rfl)) (sC (sC sN)) ⟨v32, rfl, rfl⟩
  ·have h33 := cnd_f c27 h26
   refine wc_skip ?_
   refine wk_x ?_
   refine wc_sr ?_
   refine wv (r := rI .i64 6) (o_assign rfl) ?_
   refine wv (r := rS ([125] : Str)) (o_assign rfl) ?_
   refine wl_x ?_
   refine wc_seq ?_
   refine wc_sr ?_
   refine wm rfl ?_
   refine wl_x ?_
   refine wc_cond (b := r1.1) rfl (fun c34 => ?_) (fun c34 => ?_)
   ·have h35 := cnd_t c34 h33
    refine wc_region ?_
    refine wv (r := rI .i64 5) (o_assign rfl) ?_
    refine wv (r := rS ([93] : Str)) (o_assign rfl) ?_
    refine wl_y ?_
    refine wm rfl ?_
    refine wv (o_nilcheck rfl) ?_
    refine wv (o_fieldAddr Tryd.underlying61 rfl Tryd.sizeOf22 rfl rfl) ?_
    refine wv (o_load (i := 0) Tryd.isAgg22 rfl rfl rfl) ?_
    refine wv (o_len_wt (ys := x16) (enc := eTApiCell) (i := 1) Tryd.underlying22 rfl rfl) ?_
    refine wa rfl ?_
    refine wl_y ?_
    refine wm rfl ?_
    refine wm rfl ?_
    refine wv (o_nilcheck rfl) ?_
    refine wv (o_fieldAddr Tryd.underlying61 rfl Tryd.sizeOf22 rfl rfl) ?_
    refine wv (o_load (i := 0) Tryd.isAgg22 rfl rfl rfl) ?_
    refine wm rfl ?_
    refine wv (r := rAgg [rI .i64 5, rI .i64 0, rS ([] : Str), rI .i64 0]) (o_build40_0 rfl rfl) ?_
    refine w_buildSlice (ys := ([(TApiCell.mk 5 0 ([] : Str) 0)] : List TApiCell)) (enc := eTApiCell) (css := [[rI .i64 5, rI .i64 0, rS ([] : Str), rI .i64 0]]) (xs := [.tmp 34]) Tryd.underlying22 Tryd.sizeOf40 Tryd.zeroValue40 rfl rfl rfl ⟨Cel.agg ⟨Up.refl _, Up.refl _, Up.refl _, Up.refl _, trivial⟩, trivial⟩ rfl eTApiCell_len rfl rfl rfl (fun b36 => ?_)
    obtain ⟨g38, h39⟩ := chk_e h35
    obtain ⟨inf, hinf⟩ := info40
    refine w_append (xs := x16) (ys := ([(TApiCell.mk 5 0 ([] : Str) 0)] : List TApiCell)) (enc := eTApiCell) (i := 2) Tryd.underlying22 hinf.1 hinf.2.1 hinf.2.2.1 hinf.2.2.2 rfl rfl rfl rfl rfl (Src.w (i := 0) rfl rfl) eTApiCell_len eTApiCell_one g38 rfl (fun v37 => ?_)
    refine wv (o_nilcheck rfl) ?_
    refine wv (o_fieldAddr Tryd.underlying61 rfl Tryd.sizeOf22 rfl rfl) ?_
    refine u_store (i := 2) Tryd.sizeOf22 rfl rfl (one_row (i := 0) rfl) rfl rfl (cs' := [rS x14, rI .i64 x15, rv v37, rB x18]) rfl (H' := [.row v37 40 4 (List.map eTApiCell (x16 ++ ([(TApiCell.mk 5 0 ([] : Str) 0)] : List TApiCell))), .row (.slice (some ⟨b36, 0, none⟩) 1 1) 40 4 (List.map eTApiCell ([(TApiCell.mk 5 0 ([] : Str) 0)] : List TApiCell)), .blk b_q [rS x14, rI .i64 x15, rv v37, rB x18] 61]) rfl ?_
    refine wl_x ?_
    refine wc_seq ?_
    refine wc_sr ?_
    refine wm rfl ?_
    refine wm rfl ?_
    obtain ⟨r40, e42, h41⟩ := obn_e h39
    refine wcl (Hr := [.row (.slice (some ⟨b36, 0, none⟩) 1 1) 40 4 (List.map eTApiCell ([(TApiCell.mk 5 0 ([] : Str) 0)] : List TApiCell))]) Tryd.call56 (vTake_w b_q v37 (TValueReader.mk x14 x15 (x16 ++ ([(TApiCell.mk 5 0 ([] : Str) 0)] : List TApiCell)) x18) ([93] : Str) r40 e42) rfl ((perm_front (i := 2) rfl).trans (List.Perm.cons _ (List.Perm.refl _))) rfl ?_
    rintro _ _ ⟨v43, rfl, rfl⟩
    refine wl_x ?_
    refine wc_cond (b := r40.1) rfl (fun c44 => ?_) (fun c44 => ?_)
    ·have h45 := cnd_t c44 h41
     refine wc_sr ?_
     refine wv (r := rB true) (o_assign rfl) ?_
     refine wl_x ?_
     refine wc_ret ?_
     refine wk_then_ret ?_
     obtain rfl := some_e h45
     exact wk_ret (r_1 Tryd.results32 (rv_t rfl)) (sC (sC (sS sN))) ⟨v43, rfl, rfl⟩
    ·have h46 := cnd_f c44 h41
     refine wc_skip ?_
     refine wk_x ?_
     refine wc_sr ?_
     refine wv (r := rS ([] : Str)) (o_assign rfl) ?_
     refine wl_y ?_
     refine wv (r := rI .i64 1) (o_assign rfl) ?_
     refine wl_x ?_
     refine wc_block ?_
     obtain ⟨o141, eo142, hK143⟩ := obn_e h46
     refine wc_loop2 (S := Nat × (Int × Str × Int × (List TApiCell) × Bool) × (Value)) (V := (Unit) × (Unit)) 0 (fun σ => lop (fun σ => vRValue_b2 rec_vRValue x16 σ.1 σ.2.1 σ.2.2.1 σ.2.2.2.1 σ.2.2.2.2) σ.1 σ.2.1 = some o141) (fun σ => [(0, rv (.pointer (some ⟨b_q, 0, none⟩))), (2, rB false), (3, rB r1.1), (5, rS ([93] : Str)), (6, rI .i64 (x16.length : Int)), (7, rS ([] : Str)), (8, rI .i64 σ.2.1.1)]) (fun σ => [.blk b_q [rS σ.2.1.2.1, rI .i64 σ.2.1.2.2.1, rv σ.2.2, rB σ.2.1.2.2.2.2] 61, .row σ.2.2 40 4 (List.map eTApiCell σ.2.1.2.2.2.1)]) (fun σ => σ.1) (F, (1, r40.2.fS, r40.2.fAt, r40.2.fCells, r40.2.fGreat), v43) eo142 (Sub.c rfl (Sub.c rfl (Sub.c5 rfl rfl rfl rfl rfl Sub.nil))) (sC (sC (sS sN))) (fun σ => vRValue_k2  = some r) (fun σ => []) (fun σ => []) ?_ ?_
     ·rintro ⟨n149, ⟨x107, x108, x109, x110, x112⟩, v111⟩ hi147
      refine wc_as (l' := [(0, rv (.pointer (some ⟨b_q, 0, none⟩))), (2, rB false), (3, rB r1.1), (5, rS ([93] : Str)), (6, rI .i64 (x16.length : Int)), (7, rS ([] : Str)), (8, rI .i64 x107)]) (H' := [.blk b_q [rS x108, rI .i64 x109, rv v111, rB x112] 61, .row v111 40 4 (List.map eTApiCell x110)]) rfl rfl ?_
      obtain ⟨m146, rfl, t144, h148, ht145⟩ := lop_e hi147
      replace h148 : vRValue_b2 rec_vRValue x16 x107 x108 x109 x110 x112 = some t144 := h148
      unfold vRValue_b2 at h148
      refine wc_seq ?_
      refine wc_block ?_
      refine wc_seq ?_
      refine wc_sr ?_
      refine wm rfl ?_
      refine wv (o_not rfl) ?_
      refine wl_x ?_
      refine wc_cond_f rfl (not_t c34) ?_
      refine wc_skip ?_
      refine wk_x ?_
      refine wc_seq ?_
      refine wc_sr ?_
      refine wm rfl ?_
      obtain ⟨r150, e152, h151⟩ := obn_e h148
      refine wcl (Hr := []) Tryd.call32 (ih_vRValue b_q v111 (TValueReader.mk x108 x109 x110 x112) r150 e152) rfl (List.Perm.refl _) rfl ?_
      rintro _ _ ⟨v153, rfl, rfl⟩
      refine wv (o_not rfl) ?_
      refine wl_x ?_
      refine wc_cond (b := !r150.1) rfl (fun c154 => ?_) (fun c154 => ?_)
      ·have h155 := cnd_t c154 h151
       refine wc_sr ?_
       refine wv (r := rB false) (o_assign rfl) ?_
       refine wl_x ?_
       refine wc_ret ?_
       refine wk_then_ret ?_
       refine wk_in_ret ?_
       refine wk_then_ret ?_
       refine wk_then_ret ?_
       refine wk_cut_ret ?_
       have h156 := stp_ret h155 ht145 hK143
       refine wk_in_ret ?_
       obtain rfl := some_e h156
       exact wk_ret (r_1 Tryd.results32 (rv_t rfl)) (sC (sC sN)) ⟨v153, rfl, rfl⟩
      ·have h157 := cnd_f c154 h151
       refine wc_skip ?_
       refine wk_x ?_
       refine wc_sr ?_
       refine wm rfl ?_
       refine wv (o_nilcheck rfl) ?_
       refine wv (o_fieldAddr Tryd.underlying61 rfl Tryd.sizeOf22 rfl rfl) ?_
       refine wv (o_load (i := 0) Tryd.isAgg22 rfl rfl rfl) ?_
       refine wm rfl ?_
       refine wm rfl ?_
       obtain ⟨g158, h159⟩ := chk_e h157
       refine wv (r := rv (elp 4 v153 (Int.toNat (x16.length : Int)) 0)) (o_ix_w (i := 1) Tryd.underlying22 Tryd.sizeOf40 rfl rfl rfl (len_map g158)) ?_
       refine wv (r := rv (elp 4 v153 (Int.toNat (x16.length : Int)) 3)) (o_fa_w (k := 1) Tryd.underlying40 rfl Tryd.sizeOf3 rfl (len_map g158) rfl rfl rfl) ?_
       refine u_st_w (enc := eTApiCell) (ys := r150.2.fCells) (y' := (TApiCell.mk ((at' r150.2.fCells (x16.length : Int)).fKind) ((at' r150.2.fCells (x16.length : Int)).fInt) ((at' r150.2.fCells (x16.length : Int)).fStr) x107)) (i := 1) (j := (x16.length : Int)) Tryd.sizeOf3 rfl rfl (one_c rfl) rfl g158 rfl rfl (H' := [.blk b_q [rS r150.2.fS, rI .i64 r150.2.fAt, rv v153, rB r150.2.fGreat] 61, .row v153 40 4 (List.map eTApiCell (List.set r150.2.fCells (Int.toNat (x16.length : Int)) (TApiCell.mk ((at' r150.2.fCells (x16.length : Int)).fKind) ((at' r150.2.fCells (x16.length : Int)).fInt) ((at' r150.2.fCells (x16.length : Int)).fStr) x107)))]) rfl ?_
       obtain ⟨r160, e162, h161⟩ := bnd_e h159
       rw [← e162]
       refine wl_x ?_
       refine wc_seq ?_
       refine wc_sr ?_
       refine wm rfl ?_
       refine wm rfl ?_
       obtain ⟨r163, e165, h164⟩ := obn_e h161
       refine wcl (Hr := []) Tryd.call56 (vTake_w b_q v153 (TValueReader.mk r150.2.fS r150.2.fAt r160 r150.2.fGreat) ([93] : Str) r163 e165) rfl (List.Perm.refl _) rfl ?_
       rintro _ _ ⟨v166, rfl, rfl⟩
       refine wl_x ?_
       refine wc_cond (b := r163.1) rfl (fun c167 => ?_) (fun c167 => ?_)
       ·have h168 := cnd_t c167 h164
        refine wc_sr ?_
        refine wv (r := rB true) (o_assign rfl) ?_
        refine wl_x ?_
        refine wc_ret ?_
        refine wk_then_ret ?_
        refine wk_in_ret ?_
        refine wk_then_ret ?_
        refine wk_then_ret ?_
        refine wk_cut_ret ?_
        have h169 := stp_ret h168 ht145 hK143
        refine wk_in_ret ?_
        obtain rfl := some_e h169
        exact wk_ret (r_1 Tryd.results32 (rv_t rfl)) (sC (sC sN)) ⟨v166, rfl, rfl⟩
       ·have h170 := cnd_f c167 h164
        refine wc_skip ?_
        refine wk_x ?_
        refine wc_sr ?_
        refine wm rfl ?_
        obtain ⟨r171, e173, h172⟩ := obn_e h170
        refine wcl (Hr := []) Tryd.call56 (vTake_w b_q v166 r163.2 ([44] : Str) r171 e173) rfl (List.Perm.refl _) rfl ?_
        rintro _ _ ⟨v174, rfl, rfl⟩
        refine wv (o_not rfl) ?_
        refine wl_x ?_
        refine wc_cond (b := !r171.1) rfl (fun c175 => ?_) (fun c175 => ?_)
        ·have h176 := cnd_t c175 h172
         refine wc_sr ?_
         refine wv (r := rB false) (o_assign rfl) ?_
         refine wl_x ?_
         refine wc_ret ?_
         refine wk_in_ret ?_
         refine wk_then_ret ?_
         refine wk_then_ret ?_
         refine wk_cut_ret ?_
         have h177 := stp_ret h176 ht145 hK143
         refine wk_in_ret ?_
         obtain rfl := some_e h177
         exact wk_ret (r_1 Tryd.results32 (rv_t rfl)) (sC (sC sN)) ⟨v174, rfl, rfl⟩
        ·have h178 := cnd_f c175 h172
         refine wc_skip ?_
         refine wk_in_norm ?_
         refine wk_x ?_
         refine wc_region ?_
         refine wm rfl ?_
         obtain ⟨g179, h180⟩ := chk_e h178
         refine wv (o_add rfl rfl g179) ?_
         refine wa rfl ?_
         refine wl_nil ?_
         have h181 := stp_next h180 ht145
         exact wk_then (wk_some (m146, (x107 + 1, r171.2.fS, r171.2.fAt, r171.2.fCells, r171.2.fGreat), v174) ⟨h181, Nat.lt_succ_self _⟩ (Sub.c rfl (Sub.c rfl (Sub.c5 rfl rfl rfl rfl rfl Sub.nil))) (sC (sC sN)))
     ·rintro ⟨⟨⟩, ⟨⟩⟩ h182
      cases h182
   ·have h183 := cnd_f c34 h33
    refine wc_skip ?_
    refine wk_x ?_
    refine wc_sr ?_
    refine wm rfl ?_
    refine wv (o_nilcheck rfl) ?_
    refine wv (o_fieldAddr Tryd.underlying61 rfl Tryd.sizeOf22 rfl rfl) ?_
    refine wv (o_load (i := 0) Tryd.isAgg22 rfl rfl rfl) ?_
    refine wv (o_len_wt (ys := x16) (enc := eTApiCell) (i := 1) Tryd.underlying22 rfl rfl) ?_
    refine wa rfl ?_
    refine wl_y ?_
    refine wm rfl ?_
    refine wm rfl ?_
    refine wv (o_nilcheck rfl) ?_
    refine wv (o_fieldAddr Tryd.underlying61 rfl Tryd.sizeOf22 rfl rfl) ?_
    refine wv (o_load (i := 0) Tryd.isAgg22 rfl rfl rfl) ?_
    refine wm rfl ?_
    refine wv (r := rAgg [rI .i64 6, rI .i64 0, rS ([] : Str), rI .i64 0]) (o_build40_0 rfl rfl) ?_
    refine w_buildSlice (ys := ([(TApiCell.mk 6 0 ([] : Str) 0)] : List TApiCell)) (enc := eTApiCell) (css := [[rI .i64 6, rI .i64 0, rS ([] : Str), rI .i64 0]]) (xs := [.tmp 34]) Tryd.underlying22 Tryd.sizeOf40 Tryd.zeroValue40 rfl rfl rfl ⟨Cel.agg ⟨Up.refl _, Up.refl _, Up.refl _, Up.refl _, trivial⟩, trivial⟩ rfl eTApiCell_len rfl rfl rfl (fun b184 => ?_)
    obtain ⟨g186, h187⟩ := chk_e h183
    obtain ⟨inf, hinf⟩ := info40
    refine w_append (xs := x16) (ys := ([(TApiCell.mk 6 0 ([] : Str) 0)] : List TApiCell)) (enc := eTApiCell) (i := 2) Tryd.underlying22 hinf.1 hinf.2.1 hinf.2.2.1 hinf.2.2.2 rfl rfl rfl rfl rfl (Src.w (i := 0) rfl rfl) eTApiCell_len eTApiCell_one g186 rfl (fun v185 => ?_)
    refine wv (o_nilcheck rfl) ?_
    refine wv (o_fieldAddr Tryd.underlying61 rfl Tryd.sizeOf22 rfl rfl) ?_
    refine u_store (i := 2) Tryd.sizeOf22 rfl rfl (one_row (i := 0) rfl) rfl rfl (cs' := [rS x14, rI .i64 x15, rv v185, rB x18]) rfl (H' := [.row v185 40 4 (List.map eTApiCell (x16 ++ ([(TApiCell.mk 6 0 ([] : Str) 0)] : List TApiCell))), .row (.slice (some ⟨b184, 0, none⟩) 1 1) 40 4 (List.map eTApiCell ([(TApiCell.mk 6 0 ([] : Str) 0)] : List TApiCell)), .blk b_q [rS x14, rI .i64 x15, rv v185, rB x18] 61]) rfl ?_
    refine wl_x ?_
    refine wc_seq ?_
    refine wc_sr ?_
    refine wm rfl ?_
    refine wm rfl ?_
    obtain ⟨r188, e190, h189⟩ := obn_e h187
    refine wcl (Hr := [.row (.slice (some ⟨b184, 0, none⟩) 1 1) 40 4 (List.map eTApiCell ([(TApiCell.mk 6 0 ([] : Str) 0)] : List TApiCell))]) Tryd.call56 (vTake_w b_q v185 (TValueReader.mk x14 x15 (x16 ++ ([(TApiCell.mk 6 0 ([] : Str) 0)] : List TApiCell)) x18) ([125] : Str) r188 e190) rfl ((perm_front (i := 2) rfl).trans (List.Perm.cons _ (List.Perm.refl _))) rfl ?_
    rintro _ _ ⟨v191, rfl, rfl⟩
    refine wl_x ?_
    refine wc_cond (b := r188.1) rfl (fun c192 => ?_) (fun c192 => ?_)
    ·have h193 := cnd_t c192 h189
     refine wc_sr ?_
     refine wv (r := rB true) (o_assign rfl) ?_
     refine wl_x ?_
     refine wc_ret ?_
     refine wk_then_ret ?_
     obtain rfl := some_e h193
     exact wk_ret (r_1 Tryd.results32 (rv_t rfl)) (sC (sC (sS sN))) ⟨v191, rfl, rfl⟩
    ·have h194 := cnd_f c192 h189
     refine wc_skip ?_
     refine wk_x ?_
     refine wc_sr ?_
     refine wv (r := rS ([] : Str)) (o_assign rfl) ?_
     refine wl_y ?_
     refine wv (r := rI .i64 1) (o_assign rfl) ?_
     refine wl_x ?_
     refine wc_block ?_
     obtain ⟨o440, eo441, hK442⟩ := obn_e h194
     refine wc_loop2 (S := Nat × (Str × Int × Str × Int × (List TApiCell) × Bool) × (Value)) (V := (Unit) × (Unit)) 0 (fun σ => lop (fun σ => vRValue_b3 F rec_vRValue x16 σ.1 σ.2.1 σ.2.2.1 σ.2.2.2.1 σ.2.2.2.2.1 σ.2.2.2.2.2) σ.1 σ.2.1 = some o440) (fun σ => [(0, rv (.pointer (some ⟨b_q, 0, none⟩))), (2, rB false), (3, rB r1.1), (5, rS ([125] : Str)), (6, rI .i64 (x16.length : Int)), (7, rS σ.2.1.1), (8, rI .i64 σ.2.1.2.1)]) (fun σ => [.blk b_q [rS σ.2.1.2.2.1, rI .i64 σ.2.1.2.2.2.1, rv σ.2.2, rB σ.2.1.2.2.2.2.2] 61, .row σ.2.2 40 4 (List.map eTApiCell σ.2.1.2.2.2.2.1)]) (fun σ => σ.1) (F, (([] : Str), 1, r188.2.fS, r188.2.fAt, r188.2.fCells, r188.2.fGreat), v191) eo441 (Sub.c rfl (Sub.c rfl (Sub.c5 rfl rfl rfl rfl rfl Sub.nil))) (sC (sC (sS sN))) (fun σ => vRValue_k3  = some r) (fun σ => []) (fun σ => []) ?_ ?_
     ·rintro ⟨n448, ⟨x348, x349, x350, x351, x352, x354⟩, v353⟩ hi446
      refine wc_as (l' := [(0, rv (.pointer (some ⟨b_q, 0, none⟩))), (2, rB false), (3, rB r1.1), (5, rS ([125] : Str)), (6, rI .i64 (x16.length : Int)), (7, rS x348), (8, rI .i64 x349)]) (H' := [.blk b_q [rS x350, rI .i64 x351, rv v353, rB x354] 61, .row v353 40 4 (List.map eTApiCell x352)]) rfl rfl ?_
      obtain ⟨m445, rfl, t443, h447, ht444⟩ := lop_e hi446
      replace h447 : vRValue_b3 F rec_vRValue x16 x348 x349 x350 x351 x352 x354 = some t443 := h447
      unfold vRValue_b3 at h447
      refine wc_seq ?_
      refine wc_block ?_
      refine wc_seq ?_
      refine wc_sr ?_
      refine wm rfl ?_
      refine wv (o_not rfl) ?_
      refine wl_x ?_
      refine wc_cond_t rfl (not_f c34) ?_
      refine wc_sr ?_
      refine wm rfl ?_
      obtain ⟨r449, e451, h450⟩ := obn_e h447
      refine wcl (Hr := []) Tryd.call58 (vRStr_w F b_q v353 (TValueReader.mk x350 x351 x352 x354) r449 e451) rfl (List.Perm.refl _) rfl ?_
      rintro _ _ ⟨v452, rfl, rfl⟩
      refine wm rfl ?_
      refine wv (o_extract rfl rfl) ?_
      refine wv (o_extract rfl rfl) ?_
      refine wa rfl ?_
      refine wa rfl ?_
      refine wl_x ?_
      refine wc_seq ?_
      refine wc_seq_cut (S := (Bool × Bool × Bool × Str × Int × (List TApiCell) × Bool) × (Value)) (fun σ => vRValue_j4 rec_vRValue x16 x349 r449 σ.1.1 σ.1.2.1 σ.1.2.2.1 σ.1.2.2.2.1 σ.1.2.2.2.2.1 σ.1.2.2.2.2.2.1 σ.1.2.2.2.2.2.2 = some t443) (fun σ => [(0, rv (.pointer (some ⟨b_q, 0, none⟩))), (2, rB false), (3, rB r1.1), (5, rS ([125] : Str)), (6, rI .i64 (x16.length : Int)), (7, rS x348), (8, rI .i64 x349), (9, rS r449.1), (10, rB r449.2.1), (44, rB r1.1), (45, rB (!r1.1)), (46, rTup [rS r449.1, rB r449.2.1]), (47, rv (.pointer (some ⟨b_q, 0, none⟩))), (48, rTup [rS r449.1, rB r449.2.1]), (49, rS r449.1), (50, rB r449.2.1), (51, rB r449.2.1), (52, rB (!r449.2.1)), (53, rB (!r449.2.1)), (61, rB σ.1.1), (62, rB σ.1.2.1), (66, rB σ.1.2.2.1)]) (fun σ => [.blk b_q [rS σ.1.2.2.2.1, rI .i64 σ.1.2.2.2.2.1, rv σ.2, rB σ.1.2.2.2.2.2.2] 61, .row σ.2 40 4 (List.map eTApiCell σ.1.2.2.2.2.2.1)]) ?_ ?_
      ·refine wc_region ?_
       refine wm rfl ?_
       refine wv (o_not rfl) ?_
       refine wm rfl ?_
       refine bsplit (!r449.2.1) (fun c481 => ?_) (fun c481 => ?_)
       ·have h482 := cnd_t c481 h450
        refine wf c481 ?_
        refine wf c481 ?_
        refine wf c481 ?_
        refine wu ?_
        refine wu ?_
        refine wu ?_
        refine wf c481 ?_
        refine wv (r := rB true) (o_pick_t (b := !r449.2.1) rfl c481 rfl) ?_
        refine wm rfl ?_
        refine wl_off (b := true) rfl rfl rfl rfl ?_
        refine wl_off (b := true) rfl rfl rfl rfl ?_
        refine wl_off (b := true) rfl rfl rfl rfl ?_
        refine wv (r := rB true) (o_pick_t (b := true) rfl rfl rfl) ?_
        refine wl_nil ?_
        exact wk_then (wk_some ((true, true, true, r449.2.2.fS, r449.2.2.fAt, r449.2.2.fCells, r449.2.2.fGreat), v452) h482 (Sub.c rfl (Sub.c rfl (Sub.c5 rfl rfl rfl rfl rfl (Sub.c5 rfl rfl rfl rfl rfl (Sub.c5 rfl rfl rfl rfl rfl (Sub.c5 rfl rfl rfl rfl rfl Sub.nil)))))) (sC (sC sN)))
       ·have h483 := cnd_f c481 h450
        refine wo c481 ?_
        refine wm rfl ?_
        refine wo c481 ?_
        refine wv (o_gt rfl rfl) ?_
        refine wo c481 ?_
        refine wm rfl ?_
        refine bsplit (decide (1 < x349)) (fun c484 => ?_) (fun c484 => ?_)
        ·have h485 := cnd_t c484 h483
         refine wo c484 ?_
         refine wm rfl ?_
         refine wo c484 ?_
         refine wm rfl ?_
         refine wo c484 ?_
         refine wv (o_sle rfl rfl) ?_
         refine wo c481 ?_
         refine wpt rfl c484 rfl ?_
         refine wpf rfl c481 rfl ?_
         refine wm rfl ?_
         refine bsplit (sLess r449.1 x348 || decide (r449.1 = x348)) (fun c486 => ?_) (fun c486 => ?_)
         ·have h487 := cnd_t c486 h485
          refine wf c486 ?_
          refine wf c486 ?_
          refine wf c486 ?_
          refine wv (r := rB true) (o_pick_t (b := sLess r449.1 x348 || decide (r449.1 = x348)) rfl c486 rfl) ?_
          refine wl_nil ?_
          exact wk_then (wk_some ((sLess r449.1 x348 || decide (r449.1 = x348), sLess r449.1 x348 || decide (r449.1 = x348), true, r449.2.2.fS, r449.2.2.fAt, r449.2.2.fCells, r449.2.2.fGreat), v452) h487 (Sub.c rfl (Sub.c rfl (Sub.c5 rfl rfl rfl rfl rfl (Sub.c5 rfl rfl rfl rfl rfl (Sub.c5 rfl rfl rfl rfl rfl (Sub.c5 rfl rfl rfl rfl rfl Sub.nil)))))) (sC (sC sN)))
         ·have h488 := cnd_f c486 h485
          refine wo c486 ?_
          refine wm rfl ?_
          refine wo c486 ?_
          obtain ⟨r489, e491, h490⟩ := obn_e h488
          refine wcl (Hr := []) Tryd.call56 (vTake_w b_q v452 r449.2.2 ([58] : Str) r489 e491) rfl (List.Perm.refl _) rfl ?_
          rintro _ _ ⟨v492, rfl, rfl⟩
          refine wo c486 ?_
          refine wv (o_not rfl) ?_
          refine wpf rfl c486 rfl ?_
          refine wl_nil ?_
          exact wk_then (wk_some ((sLess r449.1 x348 || decide (r449.1 = x348), sLess r449.1 x348 || decide (r449.1 = x348), !r489.1, r489.2.fS, r489.2.fAt, r489.2.fCells, r489.2.fGreat), v492) h490 (Sub.c rfl (Sub.c rfl (Sub.c5 rfl rfl rfl rfl rfl (Sub.c5 rfl rfl rfl rfl rfl (Sub.c5 rfl rfl rfl rfl rfl (Sub.c5 rfl rfl rfl rfl rfl Sub.nil)))))) (sC (sC sN)))
        ·have h493 := cnd_f c484 h483
         refine wf c484 ?_
         refine wf c484 ?_
         refine wf c484 ?_
         refine wo c481 ?_
         refine wv (r := rB false) (o_pick_f (b := decide (1 < x349)) rfl c484 rfl) ?_
         refine wpf rfl c481 rfl ?_
         refine wm rfl ?_
         refine wl_on (b := false) rfl rfl rfl ?_
         refine wm rfl ?_
         refine wl_on (b := false) rfl rfl rfl ?_
         obtain ⟨r494, e496, h495⟩ := obn_e h493
         refine wcl (Hr := []) Tryd.call56 (vTake_w b_q v452 r449.2.2 ([58] : Str) r494 e496) rfl (List.Perm.refl _) rfl ?_
         rintro _ _ ⟨v497, rfl, rfl⟩
         refine wl_on (b := false) rfl rfl rfl ?_
         refine wv (o_not rfl) ?_
         refine wv (r := rB (!r494.1)) (o_pick_f (b := false) rfl rfl rfl) ?_
         refine wl_nil ?_
         exact wk_then (wk_some ((false, false, !r494.1, r494.2.fS, r494.2.fAt, r494.2.fCells, r494.2.fGreat), v497) h495 (Sub.c rfl (Sub.c rfl (Sub.c5 rfl rfl rfl rfl rfl (Sub.c5 rfl rfl rfl rfl rfl (Sub.c5 rfl rfl rfl rfl rfl (Sub.c5 rfl rfl rfl rfl rfl Sub.nil)))))) (sC (sC sN)))
      ·rintro ⟨⟨x473, x474, x475, x476, x477, x478, x480⟩, v479⟩ h498
       refine wc_as (l' := [(0, rv (.pointer (some ⟨b_q, 0, none⟩))), (2, rB false), (3, rB r1.1), (5, rS ([125] : Str)), (6, rI .i64 (x16.length : Int)), (7, rS x348), (8, rI .i64 x349), (9, rS r449.1), (10, rB r449.2.1), (44, rB r1.1), (45, rB (!r1.1)), (46, rTup [rS r449.1, rB r449.2.1]), (47, rv (.pointer (some ⟨b_q, 0, none⟩))), (48, rTup [rS r449.1, rB r449.2.1]), (49, rS r449.1), (50, rB r449.2.1), (51, rB r449.2.1), (52, rB (!r449.2.1)), (53, rB (!r449.2.1)), (61, rB x473), (62, rB x474), (66, rB x475)]) (H' := [.blk b_q [rS x476, rI .i64 x477, rv v479, rB x480] 61, .row v479 40 4 (List.map eTApiCell x478)]) rfl rfl ?_
       replace h498 : vRValue_j4 rec_vRValue x16 x349 r449 x473 x474 x475 x476 x477 x478 x480 = some t443 := h498
       unfold vRValue_j4 at h498
       refine wc_cond (b := x475) rfl (fun c499 => ?_) (fun c499 => ?_)
       ·have h500 := cnd_t c499 h498
        refine wc_sr ?_
        refine wv (r := rB false) (o_assign rfl) ?_
        refine wl_x ?_
        refine wc_ret ?_
        refine wk_then_ret ?_
        refine wk_then_ret ?_
        refine wk_in_ret ?_
        refine wk_then_ret ?_
        refine wk_then_ret ?_
        refine wk_cut_ret ?_
        have h501 := stp_ret h500 ht444 hK442
        refine wk_in_ret ?_
        obtain rfl := some_e h501
        exact wk_ret (r_1 Tryd.results32 (rv_t rfl)) (sC (sC sN)) ⟨v479, rfl, rfl⟩
       ·have h502 := cnd_f c499 h498
        refine wc_skip ?_
        refine wk_x ?_
        refine wc_sr ?_
        refine wm rfl ?_
        refine wa rfl ?_
        refine wl_x ?_
        refine wc_region ?_
        refine wm rfl ?_
        refine wm rfl ?_
        refine wv (o_nilcheck rfl) ?_
        refine wv (o_fieldAddr Tryd.underlying61 rfl Tryd.sizeOf22 rfl rfl) ?_
        refine wv (o_load (i := 0) Tryd.isAgg22 rfl rfl rfl) ?_
        refine wm rfl ?_
        refine wv (r := rAgg [rI .i64 4, rI .i64 0, rS r449.1, rI .i64 0]) (o_build40_0_2 rfl rfl rfl rfl) ?_
        refine w_buildSlice (ys := ([(TApiCell.mk 4 0 r449.1 0)] : List TApiCell)) (enc := eTApiCell) (css := [[rI .i64 4, rI .i64 0, rS r449.1, rI .i64 0]]) (xs := [.tmp 74]) Tryd.underlying22 Tryd.sizeOf40 Tryd.zeroValue40 rfl rfl rfl ⟨Cel.agg ⟨Up.refl _, Up.refl _, Up.refl _, Up.refl _, trivial⟩, trivial⟩ rfl eTApiCell_len rfl rfl rfl (fun b503 => ?_)
        obtain ⟨g505, h506⟩ := chk_e h502
        obtain ⟨inf, hinf⟩ := info40
        refine w_append (xs := x478) (ys := ([(TApiCell.mk 4 0 r449.1 0)] : List TApiCell)) (enc := eTApiCell) (i := 2) Tryd.underlying22 hinf.1 hinf.2.1 hinf.2.2.1 hinf.2.2.2 rfl rfl rfl rfl rfl (Src.w (i := 0) rfl rfl) eTApiCell_len eTApiCell_one g505 rfl (fun v504 => ?_)
        refine wv (o_nilcheck rfl) ?_
        refine wv (o_fieldAddr Tryd.underlying61 rfl Tryd.sizeOf22 rfl rfl) ?_
        refine u_store (i := 2) Tryd.sizeOf22 rfl rfl (one_row (i := 0) rfl) rfl rfl (cs' := [rS x476, rI .i64 x477, rv v504, rB x480]) rfl (H' := [.row v504 40 4 (List.map eTApiCell (x478 ++ ([(TApiCell.mk 4 0 r449.1 0)] : List TApiCell))), .row (.slice (some ⟨b503, 0, none⟩) 1 1) 40 4 (List.map eTApiCell ([(TApiCell.mk 4 0 r449.1 0)] : List TApiCell)), .blk b_q [rS x476, rI .i64 x477, rv v504, rB x480] 61]) rfl ?_
        refine wl_x ?_
        refine wc_seq ?_
        refine wc_sr ?_
        refine wm rfl ?_
        obtain ⟨r507, e509, h508⟩ := obn_e h506
        refine wcl (Hr := [.row (.slice (some ⟨b503, 0, none⟩) 1 1) 40 4 (List.map eTApiCell ([(TApiCell.mk 4 0 r449.1 0)] : List TApiCell))]) Tryd.call32 (ih_vRValue b_q v504 (TValueReader.mk x476 x477 (x478 ++ ([(TApiCell.mk 4 0 r449.1 0)] : List TApiCell)) x480) r507 e509) rfl ((perm_front (i := 2) rfl).trans (List.Perm.cons _ (List.Perm.refl _))) rfl ?_
        rintro _ _ ⟨v510, rfl, rfl⟩
        refine wv (o_not rfl) ?_
        refine wl_x ?_
        refine wc_cond (b := !r507.1) rfl (fun c511 => ?_) (fun c511 => ?_)
        ·have h512 := cnd_t c511 h508
         refine wc_sr ?_
         refine wv (r := rB false) (o_assign rfl) ?_
         refine wl_x ?_
         refine wc_ret ?_
         refine wk_then_ret ?_
         refine wk_in_ret ?_
         refine wk_then_ret ?_
         refine wk_then_ret ?_
         refine wk_cut_ret ?_
         have h513 := stp_ret h512 ht444 hK442
         refine wk_in_ret ?_
         obtain rfl := some_e h513
         exact wk_ret (r_1 Tryd.results32 (rv_t rfl)) (sC (sC (sS sN))) ⟨v510, rfl, rfl⟩
        ·have h514 := cnd_f c511 h508
         refine wc_skip ?_
         refine wk_x ?_
         refine wc_sr ?_
         refine wm rfl ?_
         refine wv (o_nilcheck rfl) ?_
         refine wv (o_fieldAddr Tryd.underlying61 rfl Tryd.sizeOf22 rfl rfl) ?_
         refine wv (o_load (i := 0) Tryd.isAgg22 rfl rfl rfl) ?_
         refine wm rfl ?_
         refine wm rfl ?_
         obtain ⟨g515, h516⟩ := chk_e h514
         refine wv (r := rv (elp 4 v510 (Int.toNat (x16.length : Int)) 0)) (o_ix_w (i := 1) Tryd.underlying22 Tryd.sizeOf40 rfl rfl rfl (len_map g515)) ?_
         refine wv (r := rv (elp 4 v510 (Int.toNat (x16.length : Int)) 3)) (o_fa_w (k := 1) Tryd.underlying40 rfl Tryd.sizeOf3 rfl (len_map g515) rfl rfl rfl) ?_
         refine u_st_w (enc := eTApiCell) (ys := r507.2.fCells) (y' := (TApiCell.mk ((at' r507.2.fCells (x16.length : Int)).fKind) ((at' r507.2.fCells (x16.length : Int)).fInt) ((at' r507.2.fCells (x16.length : Int)).fStr) x349)) (i := 1) (j := (x16.length : Int)) Tryd.sizeOf3 rfl rfl (one_c rfl) rfl g515 rfl rfl (H' := [.blk b_q [rS r507.2.fS, rI .i64 r507.2.fAt, rv v510, rB r507.2.fGreat] 61, .row v510 40 4 (List.map eTApiCell (List.set r507.2.fCells (Int.toNat (x16.length : Int)) (TApiCell.mk ((at' r507.2.fCells (x16.length : Int)).fKind) ((at' r507.2.fCells (x16.length : Int)).fInt) ((at' r507.2.fCells (x16.length : Int)).fStr) x349))), .row (.slice (some ⟨b503, 0, none⟩) 1 1) 40 4 (List.map eTApiCell ([(TApiCell.mk 4 0 r449.1 0)] : List TApiCell))]) rfl ?_
         obtain ⟨r517, e519, h518⟩ := bnd_e h516
         rw [← e519]
         refine wl_x ?_
         refine wc_seq ?_
         refine wc_sr ?_
         refine wm rfl ?_
         refine wm rfl ?_
         obtain ⟨r520, e522, h521⟩ := obn_e h518
         refine wcl (Hr := [.row (.slice (some ⟨b503, 0, none⟩) 1 1) 40 4 (List.map eTApiCell ([(TApiCell.mk 4 0 r449.1 0)] : List TApiCell))]) Tryd.call56 (vTake_w b_q v510 (TValueReader.mk r507.2.fS r507.2.fAt r517 r507.2.fGreat) ([125] : Str) r520 e522) rfl (List.Perm.refl _) rfl ?_
         rintro _ _ ⟨v523, rfl, rfl⟩
         refine wl_x ?_
         refine wc_cond (b := r520.1) rfl (fun c524 => ?_) (fun c524 => ?_)
         ·have h525 := cnd_t c524 h521
          refine wc_sr ?_
          refine wv (r := rB true) (o_assign rfl) ?_
          refine wl_x ?_
          refine wc_ret ?_
          refine wk_then_ret ?_
          refine wk_in_ret ?_
          refine wk_then_ret ?_
          refine wk_then_ret ?_
          refine wk_cut_ret ?_
          have h526 := stp_ret h525 ht444 hK442
          refine wk_in_ret ?_
          obtain rfl := some_e h526
          exact wk_ret (r_1 Tryd.results32 (rv_t rfl)) (sC (sC (sS sN))) ⟨v523, rfl, rfl⟩
         ·have h527 := cnd_f c524 h521
          refine wc_skip ?_
          refine wk_x ?_
          refine wc_sr ?_
          refine wm rfl ?_
          obtain ⟨r528, e530, h529⟩ := obn_e h527
          refine wcl (Hr := [.row (.slice (some ⟨b503, 0, none⟩) 1 1) 40 4 (List.map eTApiCell ([(TApiCell.mk 4 0 r449.1 0)] : List TApiCell))]) Tryd.call56 (vTake_w b_q v523 r520.2 ([44] : Str) r528 e530) rfl (List.Perm.refl _) rfl ?_
          rintro _ _ ⟨v531, rfl, rfl⟩
          refine wv (o_not rfl) ?_
          refine wl_x ?_
          refine wc_cond (b := !r528.1) rfl (fun c532 => ?_) (fun c532 => ?_)
          ·have h533 := cnd_t c532 h529
           refine wc_sr ?_
           refine wv (r := rB false) (o_assign rfl) ?_
           refine wl_x ?_
           refine wc_ret ?_
           refine wk_in_ret ?_
           refine wk_then_ret ?_
           refine wk_then_ret ?_
           refine wk_cut_ret ?_
           have h534 := stp_ret h533 ht444 hK442
           refine wk_in_ret ?_
           obtain rfl := some_e h534
           exact wk_ret (r_1 Tryd.results32 (rv_t rfl)) (sC (sC (sS sN))) ⟨v531, rfl, rfl⟩
          ·have h535 := cnd_f c532 h529
           refine wc_skip ?_
           refine wk_in_norm ?_
           refine wk_x ?_
           refine wc_region ?_
           refine wm rfl ?_
           obtain ⟨g536, h537⟩ := chk_e h535
           refine wv (o_add rfl rfl g536) ?_
           refine wa rfl ?_
           refine wl_nil ?_
           have h538 := stp_next h537 ht444
           exact wk_then (wk_some (m445, (r449.1, x349 + 1, r528.2.fS, r528.2.fAt, r528.2.fCells, r528.2.fGreat), v531) ⟨h538, Nat.lt_succ_self _⟩ (Sub.c rfl (Sub.c rfl (Sub.c5 rfl rfl rfl rfl rfl Sub.nil))) (sC (sC (sS sN))))
     ·rintro ⟨⟨⟩, ⟨⟩⟩ h539
      cases h539

theorem vRValue_all : ∀ F : Nat, (∀ (b_q : Nat) (v_q_2 : Value) (q : TValueReader) (r : Bool × TValueReader), vRValue F q = some r → Fn Tryd.prog GE 32 [rv (.pointer (some ⟨b_q, 0, none⟩))] [.blk b_q [rS q.fS, rI .i64 q.fAt, rv v_q_2, rB q.fGreat] 61, .row v_q_2 40 4 (List.map eTApiCell q.fCells)] (fun R H => ∃ w0_2 : Value, R = rB r.1 ∧ H = [.blk b_q [rS r.2.fS, rI .i64 r.2.fAt, rv w0_2, rB r.2.fGreat] 61, .row w0_2 40 4 (List.map eTApiCell r.2.fCells)]))
  | 0 => (fun _ _ _ _ h => by simp [vRValue] at h)
  | nn + 1 => (fun b_q v_q_2 q r h => vRValuem_w nn (vRValue nn) (vRValue_all nn) b_q v_q_2 q r (by rw [vRValue] at h; exact h))

theorem vRValue_w (F : Nat) (b_q : Nat) (v_q_2 : Value) (q : TValueReader) (r : Bool × TValueReader) (h : vRValue F q = some r) : Fn Tryd.prog GE 32 [rv (.pointer (some ⟨b_q, 0, none⟩))] [.blk b_q [rS q.fS, rI .i64 q.fAt, rv v_q_2, rB q.fGreat] 61, .row v_q_2 40 4 (List.map eTApiCell q.fCells)] (fun R H => ∃ w0_2 : Value, R = rB r.1 ∧ H = [.blk b_q [rS r.2.fS, rI .i64 r.2.fAt, rv w0_2, rB r.2.fGreat] 61, .row w0_2 40 4 (List.map eTApiCell r.2.fCells)]) := (vRValue_all F) b_q v_q_2 q r h

theorem vDecode_w (F : Nat) (s : Str) (r : (List TApiCell) × Int) (h : vDecode F s = some r) : Fn Tryd.prog GE 16 [rS s] [] (fun R H => R = rTup [rSl 4 (List.map eTApiCell r.1), rI .i64 r.2] ∧ H = []) := by
 refine enter (n := 34) Tryd.func16 rfl Tryd.ntmps16 rfl (fun w Z => ?_)
 refine wc_as (l' := [(0, rS s)]) (H' := []) rfl rfl ?_
 unfold vDecode at h
 refine wc_sr ?_
 refine wv (r := rv (.slice none 0 0)) (o_assign rfl) ?_
 refine wv (r := rI .i64 0) (o_assign rfl) ?_
 refine wl_x ?_
 refine wc_seq ?_
 refine wc_sr ?_
 refine wm rfl ?_
 refine wv (o_len_s Tryd.underlying9 rfl) ?_
 refine wv (o_gt rfl rfl) ?_
 refine wl_x ?_
 refine wc_cond (b := decide (4000 < (s.length : Int))) rfl (fun c1 => ?_) (fun c1 => ?_)
 ·have h2 := cnd_t c1 h
  refine wc_sr ?_
  refine wv (r := rv (.slice none 0 0)) (o_assign rfl) ?_
  refine wv (r := rI .i64 3) (o_assign rfl) ?_
  refine wl_x ?_
  refine wc_ret ?_
  refine wk_then_ret ?_
  refine WK.up (d := 2) (r := rSl 4 (List.map eTApiCell ([] : List TApiCell))) rfl (Up.le (Rle.nil _)) ?_
  obtain rfl := some_e h2
  exact wk_ret (r_2 Tryd.results16 (rv_t rfl) (rv_t rfl)) sN ⟨rfl, rfl⟩
 ·have h3 := cnd_f c1 h
  refine wc_skip ?_
  refine wk_x ?_
  refine wc_sr ?_
  refine wm rfl ?_
  refine wv (r := rAgg [rS s, rI .i64 0, rv (.slice none 0 0), rB false]) (o_build61_0 rfl rfl) ?_
  refine w_box_agg rfl rfl (fun b4 => ?_)
  refine wa rfl ?_
  refine wl_x ?_
  refine wc_seq ?_
  refine wc_seq_cut (S := (Bool × Str × Int × (List TApiCell) × Bool) × (Value)) (fun σ => vDecode_j1 F σ.1.1 σ.1.2.1 σ.1.2.2.1 σ.1.2.2.2.1 σ.1.2.2.2.2 = some r) (fun σ => [(2, rv (.slice none 0 0)), (3, rI .i64 0), (4, rv (.pointer (some ⟨b4, 0, none⟩))), (22, rB σ.1.1)]) (fun σ => [.blk b4 [rS σ.1.2.1, rI .i64 σ.1.2.2.1, rv σ.2, rB σ.1.2.2.2.2] 61, .row σ.2 40 4 (List.map eTApiCell σ.1.2.2.2.1)]) ?_ ?_
  ·refine wc_region ?_
   refine wm rfl ?_
   refine WL.nilrow (e := 40) (sz := 4) ?_
   obtain ⟨r18, e20, h19⟩ := obn_e h3
   refine wcl (Hr := []) Tryd.call32 (vRValue_w F b4 (.slice none 0 0                                        ) (TValueReader.mk s 0 ([] : List TApiCell) false) r18 e20) rfl ((perm_front (i := 1) rfl).trans (List.Perm.cons _ (List.Perm.refl _))) rfl ?_
   rintro _ _ ⟨v21, rfl, rfl⟩
   refine wv (o_not rfl) ?_
   refine wm rfl ?_
   refine bsplit (!r18.1) (fun c22 => ?_) (fun c22 => ?_)
   ·have h23 := cnd_t c22 h19
    refine wf c22 ?_
    refine wf c22 ?_
    refine wf c22 ?_
    refine wf c22 ?_
    refine wf c22 ?_
    refine wf c22 ?_
    refine wf c22 ?_
    refine wv (r := rB true) (o_pick_t (b := !r18.1) rfl c22 rfl) ?_
    refine wl_nil ?_
    exact wk_then (wk_some ((true, r18.2.fS, r18.2.fAt, r18.2.fCells, r18.2.fGreat), v21) h23 (Sub.c rfl (Sub.c rfl (Sub.c rfl (Sub.c rfl Sub.nil)))) (sC (sC sN)))
   ·have h24 := cnd_f c22 h19
    refine wo c22 ?_
    refine wm rfl ?_
    refine wo c22 ?_
    refine wv (o_nilcheck rfl) ?_
    refine wo c22 ?_
    refine wv (o_fieldAddr Tryd.underlying61 rfl Tryd.sizeOf3 rfl rfl) ?_
    refine wo c22 ?_
    refine wv (o_load (i := 0) Tryd.isAgg3 rfl rfl rfl) ?_
    refine wo c22 ?_
    refine wm rfl ?_
    refine wo c22 ?_
    refine wv (o_len_s Tryd.underlying9 rfl) ?_
    refine wo c22 ?_
    refine wv (o_ne rfl rfl) ?_
    refine wpf rfl c22 rfl ?_
    refine wl_nil ?_
    exact wk_then (wk_some ((!decide (r18.2.fAt = (s.length : Int)), r18.2.fS, r18.2.fAt, r18.2.fCells, r18.2.fGreat), v21) h24 (Sub.c rfl (Sub.c rfl (Sub.c rfl (Sub.c rfl Sub.nil)))) (sC (sC sN)))
  ·rintro ⟨⟨x12, x13, x14, x15, x17⟩, v16⟩ h25
   refine wc_as (l' := [(2, rv (.slice none 0 0)), (3, rI .i64 0), (4, rv (.pointer (some ⟨b4, 0, none⟩))), (22, rB x12)]) (H' := [.blk b4 [rS x13, rI .i64 x14, rv v16, rB x17] 61, .row v16 40 4 (List.map eTApiCell x15)]) rfl rfl ?_
   replace h25 : vDecode_j1 F x12 x13 x14 x15 x17 = some r := h25
   unfold vDecode_j1 at h25
   refine wc_cond (b := x12) rfl (fun c26 => ?_) (fun c26 => ?_)
   ·have h27 := cnd_t c26 h25
    refine wc_sr ?_
    refine wv (r := rv (.slice none 0 0)) (o_assign rfl) ?_
    refine wv (r := rI .i64 1) (o_assign rfl) ?_
    refine wl_x ?_
    refine wc_ret ?_
    refine wk_then_ret ?_
    refine WK.up (d := 2) (r := rSl 4 (List.map eTApiCell ([] : List TApiCell))) rfl (Up.le (Rle.nil _)) ?_
    obtain rfl := some_e h27
    exact wk_ret (r_2 Tryd.results16 (rv_t rfl) (rv_t rfl)) (sS (sS sN)) ⟨rfl, rfl⟩
   ·have h28 := cnd_f c26 h25
    refine wc_skip ?_
    refine wk_x ?_
    refine wc_seq ?_
    refine wc_sr ?_
    refine wm rfl ?_
    refine wv (o_nilcheck rfl) ?_
    refine wv (o_fieldAddr Tryd.underlying61 rfl Tryd.sizeOf4 rfl rfl) ?_
    refine wv (o_load (i := 0) Tryd.isAgg4 rfl rfl rfl) ?_
    refine wl_x ?_
    refine wc_cond (b := x17) rfl (fun c29 => ?_) (fun c29 => ?_)
    ·have h30 := cnd_t c29 h28
     refine wc_sr ?_
     refine wv (r := rv (.slice none 0 0)) (o_assign rfl) ?_
     refine wv (r := rI .i64 2) (o_assign rfl) ?_
     refine wl_x ?_
     refine wc_ret ?_
     refine wk_then_ret ?_
     refine WK.up (d := 2) (r := rSl 4 (List.map eTApiCell ([] : List TApiCell))) rfl (Up.le (Rle.nil _)) ?_
     obtain rfl := some_e h30
     exact wk_ret (r_2 Tryd.results16 (rv_t rfl) (rv_t rfl)) (sS (sS sN)) ⟨rfl, rfl⟩
    ·have h31 := cnd_f c29 h28
     refine wc_skip ?_
     refine wk_x ?_
     refine wc_sr ?_
     refine wm rfl ?_
     refine wv (o_nilcheck rfl) ?_
     refine wv (o_fieldAddr Tryd.underlying61 rfl Tryd.sizeOf22 rfl rfl) ?_
     refine wv (o_load (i := 0) Tryd.isAgg22 rfl rfl rfl) ?_
     refine WL.freeze (i := 1) rfl ?_
     refine WL.up (d := 30) (r := rSl 4 (List.map eTApiCell x15)) rfl (Up.fact (i := 0) rfl) ?_
     obtain ⟨r32, e34, h33⟩ := obn_e h31
     refine wc0 Tryd.call33 (vChecked_w F x15 r32 e34) rfl ?_
     refine wv (o_extract rfl rfl) ?_
     refine wv (o_extract rfl rfl) ?_
     refine wa rfl ?_
     refine wa rfl ?_
     refine wl_x ?_
     refine wc_ret ?_
     obtain rfl := some_e h33
     exact wk_ret (r_2 Tryd.results16 (rv_t rfl) (rv_t rfl)) (sS (sS sN)) ⟨rfl, rfl⟩

end Go.Proofs.YtkalifgebccpcaaDoor.Q

/-
 What functions compute, with checks: plain definitions, printed by a small program of ours (gq.py). No program in sight.
-/
namespace Go.Proofs.YtkalifgebccpcaaDoor
open Go
set_option linter.unusedVariables false
def slEqual_b1 (a : (List TApiCell)) (b : (List TApiCell)) (x27 : Int) : Option (Stp (Int) (Out (Bool) (Unit))) :=
 cnd (decide (x27 < (a.length : Int))) (chk (inR x27 (a.length : Int)) <| chk (inR x27 (b.length : Int)) <| cnd (!(decide (((at' a x27).fKind) = ((at' b x27).fKind)) && decide (((at' a x27).fInt) = ((at' b x27).fInt)) && decide (((at' a x27).fStr) = ((at' b x27).fStr)) && decide (((at' a x27).fN) = ((at' b x27).fN)))) (some (.out (.ret false))) (chk (inK .i64 (x27 + 1)) <| some (.next (x27 + 1)))) (some (.out (.go ())))

def slEqual_k1  : Option (Bool) :=
 some true

def slEqual (F : Nat) (a : (List TApiCell)) (b : (List TApiCell)) : Option (Bool) :=
 cnd (!decide ((a.length : Int) = (b.length : Int))) (some false) (obn (lop (fun σ => slEqual_b1 a b σ) F 0) (oute fun ν => slEqual_k1 ))

def vSame (F : Nat) (a : (List TApiCell)) (b : (List TApiCell)) : Option (Bool) :=
 obn (slEqual F a b) fun r1 => some r1

def lSmall_b1 (v : (List TApiCell)) (x23 : Int) : Option (Stp (Int) (Out (Bool) (Unit))) :=
 cnd (decide (x23 < (v.length : Int))) (chk (inR x23 (v.length : Int)) <| cnd (decide (300 < (((at' v x23).fStr).length : Int))) (some (.out (.ret false))) (chk (inK .i64 (x23 + 1)) <| some (.next (x23 + 1)))) (some (.out (.go ())))

def lSmall_k1  : Option (Bool) :=
 some true

def lSmall (F : Nat) (v : (List TApiCell)) : Option (Bool) :=
 cnd (decide (300 < (v.length : Int))) (some false) (obn (lop (fun σ => lSmall_b1 v σ) F 0) (oute fun ν => lSmall_k1 ))

def lAwake (F : Nat)  : Option (Bool) :=
 obn (vInt F 1) fun r1 => obn (vNull) fun r4 => obn (vList F ([r1.1, r4] : List (List TApiCell))) fun r8 => obn (vStr F ([120] : Str)) fun r11 => obn (vMap F ([([97] : Str), ([98] : Str)] : List Str) ([r8.1, r11.1] : List (List TApiCell))) fun r16 => obn (vEncode F r16.1) fun r19 => obn (vDecode F r19.1) fun r22 => chk (imp (decide (r8.2 = 0)) (imp (decide (r16.2 = 0)) (imp (decide (r19.2 = 0)) (imp (decide (r22.2 = 0)) (imp (decide ((r16.1.length : Int) = 7)) (imp (decide (r19.1 = ([123, 34, 97, 34, 58, 91, 49, 44, 110, 117, 108, 108, 93, 44, 34, 98, 34, 58, 34, 120, 34, 125] : Str))) ((vSame F r22.1 r16.1).isSome))))))) <| chk (imp (decide (r8.2 = 0)) (imp (decide (r16.2 = 0)) (imp (decide (r19.2 = 0)) (imp (decide (r22.2 = 0)) (imp (decide ((r16.1.length : Int) = 7)) (imp (decide (r19.1 = ([123, 34, 97, 34, 58, 91, 49, 44, 110, 117, 108, 108, 93, 44, 34, 98, 34, 58, 34, 120, 34, 125] : Str))) (imp ((ov (vSame F r22.1 r16.1))) ((vDepth F r16.1).isSome)))))))) <| chk (imp (decide (r8.2 = 0)) (imp (decide (r16.2 = 0)) (imp (decide (r19.2 = 0)) (imp (decide (r22.2 = 0)) (imp (decide ((r16.1.length : Int) = 7)) (imp (decide (r19.1 = ([123, 34, 97, 34, 58, 91, 49, 44, 110, 117, 108, 108, 93, 44, 34, 98, 34, 58, 34, 120, 34, 125] : Str))) (imp ((ov (vSame F r22.1 r16.1))) (imp (decide ((ov (vDepth F r16.1)) = 3)) ((vCheck F ([] : List TApiCell)).isSome))))))))) <| some ((decide (r8.2 = 0)) && ((decide (r16.2 = 0)) && ((decide (r19.2 = 0)) && ((decide (r22.2 = 0)) && ((decide ((r16.1.length : Int) = 7)) && ((decide (r19.1 = ([123, 34, 97, 34, 58, 91, 49, 44, 110, 117, 108, 108, 93, 44, 34, 98, 34, 58, 34, 120, 34, 125] : Str))) && ((ov (vSame F r22.1 r16.1)) && ((decide ((ov (vDepth F r16.1)) = 3)) && (decide ((ov (vCheck F ([] : List TApiCell))) = 1))))))))))

end Go.Proofs.YtkalifgebccpcaaDoor

/-
  Walks, printed by a small program of ours (gq.py).
-/
namespace Go.Proofs.YtkalifgebccpcaaDoor.Q
open Go Go.RowKit
set_option linter.unusedVariables false
set_option linter.unusedSimpArgs false
set_option maxRecDepth 100000
set_option maxHeartbeats 4000000
theorem agg_eq40 {a0 b0 : Int} {a1 b1 : Int} {a2 b2 : Str} {a3 b3 : Int} (w : World) : (Op.equalIn 10000 40 (.agg #[.int .i64 a0, .int .i64 a1, .string (B a2), .int .i64 a3]) (.agg #[.int .i64 b0, .int .i64 b1, .string (B b2), .int .i64 b3])).run Tryd.prog w = .ok (decide (a0 = b0) && decide (a1 = b1) && decide (a2 = b2) && decide (a3 = b3)) w := by
  have hS : Tryd.prog.underlying 40 = some (.struct (Tryd.prog.fieldsOf 40)) := by kernel_rfl
  have hp : Tryd.prog.stoodInHeld 40 = false := by kernel_rfl
  have u3 := Tryd.underlying3
  have ia3 := Tryd.isAgg3
  have so3 := Tryd.sizeOf3
  have u9 := Tryd.underlying9
  have ia9 := Tryd.isAgg9
  have so9 := Tryd.sizeOf9
  have u38 := Tryd.underlying38
  have ia38 := Tryd.isAgg38
  have so38 := Tryd.sizeOf38
  rw [show (10000 : Nat) = 9999 + 1 from rfl, run_equalIn_agg w 9999 40 _ _ hS hp]
  simp only [Program.fieldsOf, Tryd.underlying40]
  go_simp
  simp only [B_toList]
  by_cases h0 : a0 = b0 <;> by_cases h1 : a1 = b1 <;> by_cases h2 : a2 = b2 <;> by_cases h3 : a3 = b3 <;> simp [h0, h1, h2, h3]
theorem o_agg_ne_40 {n : Nat} {c : Cx} {l : Fr} {H : List Ent} {d : Option Nat} {ty rty : TypeId} {pos : String} {af : Array Edge} {g : Option (Nat × Bool)} {x y : Operand} {a0 b0 : Int} {a1 b1 : Int} {a2 b2 : Str} {a3 b3 : Int} (hx : ev l x = some (rAgg [rI .i64 a0, rI .i64 a1, rS a2, rI .i64 a3])) (hy : ev l y = some (rAgg [rI .i64 b0, rI .i64 b1, rS b2, rI .i64 b3])) : ORun Tryd.prog n c l H { dst := d, op := .binOp .neq 40 x y rty, type := ty, pos := pos, after := af, guard := g } (rB (!(decide (a0 = b0) && decide (a1 = b1) && decide (a2 = b2) && decide (a3 = b3)))) := fun a w Z ha hw => by
  obtain ⟨us, e1, q1⟩ := ha.ev hx
  obtain ⟨vs, e2, q2⟩ := ha.ev hy
  have k1 := RpAll.eq_rv (us := [.int .i64 a0, .int .i64 a1, .string (B a2), .int .i64 a3]) q1
  have k2 := RpAll.eq_rv (us := [.int .i64 b0, .int .i64 b1, .string (B b2), .int .i64 b3]) q2
  subst k1; subst k2
  have hm : Tryd.prog.eqGuardType Tryd.prog.depth 40 = false := by kernel_rfl
  have hb := agg_eq40 (a0 := a0) (a1 := a1) (a2 := a2) (a3 := a3) (b0 := b0) (b1 := b1) (b2 := b2) (b3 := b3) w
  refine ⟨.bool (!(decide (a0 = b0) && decide (a1 = b1) && decide (a2 = b2) && decide (a3 = b3))), rfl, ?_⟩
  have hg := run_eqGuard_agg (P := Tryd.prog) w .neq 40 x y #[.int .i64 a0, .int .i64 a1, .string (B a2), .int .i64 a3] #[.int .i64 b0, .int .i64 b1, .string (B b2), .int .i64 b3] hm
  simp only [execOp, e1, e2, Sem.run_bind, hg, Result.andThen_ok, run_neq_struct, hb, Sem.run_pure]
theorem slEqual_w (F : Nat) (a : (List TApiCell)) (b : (List TApiCell)) (r : Bool) (h : slEqual F a b = some r) : Fn Tryd.prog GE 31 [rSl 4 (List.map eTApiCell a), rSl 4 (List.map eTApiCell b)] [] (fun R H => R = rB r ∧ H = []) := by
 refine enter (n := 26) Tryd.func31 rfl Tryd.ntmps31 rfl (fun w Z => ?_)
 refine wc_as (l' := [(0, rSl 4 (List.map eTApiCell a)), (1, rSl 4 (List.map eTApiCell b))]) (H' := []) rfl rfl ?_
 unfold slEqual at h
 refine wc_sr ?_
 refine wv (r := rB false) (o_assign rfl) ?_
 refine wl_x ?_
 refine wc_seq ?_
 refine wc_sr ?_
 refine wm rfl ?_
 refine wv (o_len_zt (ys := a) (enc := eTApiCell) Tryd.underlying22 rfl) ?_
 refine wm rfl ?_
 refine wv (o_len_zt (ys := b) (enc := eTApiCell) Tryd.underlying22 rfl) ?_
 refine wv (o_ne rfl rfl) ?_
 refine wl_x ?_
 refine wc_cond (b := !decide ((a.length : Int) = (b.length : Int))) rfl (fun c1 => ?_) (fun c1 => ?_)
 ·have h2 := cnd_t c1 h
  refine wc_sr ?_
  refine wv (r := rB false) (o_assign rfl) ?_
  refine wl_x ?_
  refine wc_ret ?_
  refine wk_then_ret ?_
  obtain rfl := some_e h2
  exact wk_ret (r_1 Tryd.results31 (rv_t rfl)) sN ⟨rfl, rfl⟩
 ·have h3 := cnd_f c1 h
  refine wc_skip ?_
  refine wk_x ?_
  refine wc_seq ?_
  refine wc_sr ?_
  refine wm rfl ?_
  refine wv (o_len_zt (ys := a) (enc := eTApiCell) Tryd.underlying22 rfl) ?_
  refine wv (r := rI .i64 0) (o_move rfl) ?_
  refine wl_x ?_
  refine wc_block ?_
  obtain ⟨o40, eo41, hK42⟩ := obn_e h3
  refine wc_loop2 (S := Nat × (Int) × (Unit)) (V := (Unit) × (Unit)) 0 (fun σ => lop (fun σ => slEqual_b1 a b σ) σ.1 σ.2.1 = some o40) (fun σ => [(0, rSl 4 (List.map eTApiCell a)), (1, rSl 4 (List.map eTApiCell b)), (12, rI .i64 (a.length : Int)), (13, rI .i64 σ.2.1)]) (fun σ => []) (fun σ => σ.1) (F, 0, ()) eo41 (Sub.c rfl (Sub.c rfl (Sub.c rfl (Sub.c rfl Sub.nil)))) sN (fun σ => slEqual_k1  = some r) (fun σ => []) (fun σ => []) ?_ ?_
  ·rintro ⟨n48, x27, ⟨⟩⟩ hi46
   refine wc_as (l' := [(0, rSl 4 (List.map eTApiCell a)), (1, rSl 4 (List.map eTApiCell b)), (12, rI .i64 (a.length : Int)), (13, rI .i64 x27)]) (H' := []) rfl rfl ?_
   obtain ⟨m45, rfl, t43, h47, ht44⟩ := lop_e hi46
   replace h47 : slEqual_b1 a b x27 = some t43 := h47
   unfold slEqual_b1 at h47
   refine wc_sr ?_
   refine wv (o_lt rfl rfl) ?_
   refine wl_x ?_
   refine wc_seq ?_
   refine wc_cond (b := decide (x27 < (a.length : Int))) rfl (fun c49 => ?_) (fun c49 => ?_)
   ·have h50 := cnd_t c49 h47
    refine wc_skip ?_
    refine wk_x ?_
    refine wc_seq ?_
    refine wc_block ?_
    refine wc_sr ?_
    refine wm rfl ?_
    refine wa rfl ?_
    refine wl_x ?_
    refine wc_seq ?_
    obtain ⟨g51, h52⟩ := chk_e h50
    obtain ⟨g53, h54⟩ := chk_e h52
    refine wc_rdq [0, 1, 5, 12, 13] [⟨[], rSl 4 (List.map eTApiCell a), 0⟩, ⟨[], rI .i64 x27, 0⟩, ⟨[0, 1], rAt (eTApiCell (at' a x27)), 0⟩, ⟨[2], rAgg (eTApiCell (at' a x27)), 0⟩, ⟨[], rSl 4 (List.map eTApiCell b), 0⟩, ⟨[], rI .i64 x27, 0⟩, ⟨[4, 5], rAt (eTApiCell (at' b x27)), 0⟩, ⟨[6], rAgg (eTApiCell (at' b x27)), 0⟩, ⟨[3, 7], rB (!(decide (((at' a x27).fKind) = ((at' b x27).fKind)) && decide (((at' a x27).fInt) = ((at' b x27).fInt)) && decide (((at' a x27).fStr) = ((at' b x27).fStr)) && decide (((at' a x27).fN) = ((at' b x27).fN)))), 0⟩] [16, 17, 18, 19, 20, 21, 22, 23, 24, 0, 1, 12, 13] ?_ ?_
    ·refine oq (o_move rfl) ?_
     refine oq (o_move rfl) ?_
     refine oq (o_ix_z (enc := eTApiCell) (ys := a) Tryd.underlying22 Tryd.sizeOf40 rfl rfl g51) ?_
     refine oq (o_load_za Tryd.isAgg40 Tryd.sizeOf40 rfl rfl rfl) ?_
     refine oq (o_move rfl) ?_
     refine oq (o_move rfl) ?_
     refine oq (o_ix_z (enc := eTApiCell) (ys := b) Tryd.underlying22 Tryd.sizeOf40 rfl rfl g53) ?_
     refine oq (o_load_za Tryd.isAgg40 Tryd.sizeOf40 rfl rfl rfl) ?_
     refine oq (o_agg_ne_40 rfl rfl) ?_
     exact obl_e
    refine wk_x ?_
    refine wc_cond (b := !(decide (((at' a x27).fKind) = ((at' b x27).fKind)) && decide (((at' a x27).fInt) = ((at' b x27).fInt)) && decide (((at' a x27).fStr) = ((at' b x27).fStr)) && decide (((at' a x27).fN) = ((at' b x27).fN)))) rfl (fun c55 => ?_) (fun c55 => ?_)
    ·have h56 := cnd_t c55 h54
     refine wc_sr ?_
     refine wv (r := rB false) (o_assign rfl) ?_
     refine wl_x ?_
     refine wc_ret ?_
     refine wk_in_ret ?_
     refine wk_then_ret ?_
     refine wk_then_ret ?_
     refine wk_cut_ret ?_
     have h57 := stp_ret h56 ht44 hK42
     refine wk_in_ret ?_
     refine wk_then_ret ?_
     obtain rfl := some_e h57
     exact wk_ret (r_1 Tryd.results31 (rv_t rfl)) sN ⟨rfl, rfl⟩
    ·have h58 := cnd_f c55 h54
     refine wc_skip ?_
     refine wk_in_norm ?_
     refine wk_x ?_
     refine wc_region ?_
     obtain ⟨g59, h60⟩ := chk_e h58
     refine wv (o_add rfl rfl g59) ?_
     refine wm rfl ?_
     refine wl_nil ?_
     have h61 := stp_next h60 ht44
     exact wk_then (wk_some (m45, x27 + 1, ()) ⟨h61, Nat.lt_succ_self _⟩ (Sub.c rfl (Sub.c rfl (Sub.c rfl (Sub.c rfl Sub.nil)))) sN)
   ·have h62 := cnd_f c49 h47
    refine wc_exit ?_
    refine wk_then_exit ?_
    have h63 := stp_go h62 ht44 hK42
    exact wk_then_exit (wk_cut_hit (wk_some ((), ()) h63 Sub.nil sN))
  ·rintro ⟨⟨⟩, ⟨⟩⟩ h64
   refine wk_as (l' := []) (H' := []) rfl rfl ?_
   replace h64 : slEqual_k1  = some r := h64
   unfold slEqual_k1 at h64
   refine wk_in_hit ?_
   refine wk_x ?_
   refine wc_sr ?_
   refine wv (r := rB true) (o_assign rfl) ?_
   refine wl_x ?_
   refine wc_ret ?_
   obtain rfl := some_e h64
   exact wk_ret (r_1 Tryd.results31 (rv_t rfl)) sN ⟨rfl, rfl⟩

theorem vSame_w (F : Nat) (a : (List TApiCell)) (b : (List TApiCell)) (r : Bool) (h : vSame F a b = some r) : Fn Tryd.prog GE 15 [rSl 4 (List.map eTApiCell a), rSl 4 (List.map eTApiCell b)] [] (fun R H => R = rB r ∧ H = []) := by
 refine enter (n := 8) Tryd.func15 rfl Tryd.ntmps15 rfl (fun w Z => ?_)
 refine wc_as (l' := [(0, rSl 4 (List.map eTApiCell a)), (1, rSl 4 (List.map eTApiCell b))]) (H' := []) rfl rfl ?_
 unfold vSame at h
 refine wc_sr ?_
 refine wv (r := rB false) (o_assign rfl) ?_
 refine wl_y ?_
 refine wm rfl ?_
 refine wm rfl ?_
 obtain ⟨r1, e3, h2⟩ := obn_e h
 refine wc0 Tryd.call31 (slEqual_w F a b r1 e3) rfl ?_
 refine wa rfl ?_
 refine wl_x ?_
 refine wc_ret ?_
 obtain rfl := some_e h2
 exact wk_ret (r_1 Tryd.results15 (rv_t rfl)) sN ⟨rfl, rfl⟩

theorem lSmall_w (F : Nat) (v : (List TApiCell)) (r : Bool) (h : lSmall F v = some r) : Fn Tryd.prog GE 6 [rSl 4 (List.map eTApiCell v)] [] (fun R H => R = rB r ∧ H = []) := by
 refine enter (n := 20) Tryd.func6 rfl Tryd.ntmps6 rfl (fun w Z => ?_)
 refine wc_as (l' := [(0, rSl 4 (List.map eTApiCell v))]) (H' := []) rfl rfl ?_
 unfold lSmall at h
 refine wc_sr ?_
 refine wv (r := rB false) (o_assign rfl) ?_
 refine wl_x ?_
 refine wc_seq ?_
 refine wc_sr ?_
 refine wm rfl ?_
 refine wv (o_len_zt (ys := v) (enc := eTApiCell) Tryd.underlying22 rfl) ?_
 refine wv (o_gt rfl rfl) ?_
 refine wl_x ?_
 refine wc_cond (b := decide (300 < (v.length : Int))) rfl (fun c1 => ?_) (fun c1 => ?_)
 ·have h2 := cnd_t c1 h
  refine wc_sr ?_
  refine wv (r := rB false) (o_assign rfl) ?_
  refine wl_x ?_
  refine wc_ret ?_
  refine wk_then_ret ?_
  obtain rfl := some_e h2
  exact wk_ret (r_1 Tryd.results6 (rv_t rfl)) sN ⟨rfl, rfl⟩
 ·have h3 := cnd_f c1 h
  refine wc_skip ?_
  refine wk_x ?_
  refine wc_seq ?_
  refine wc_sr ?_
  refine wm rfl ?_
  refine wv (o_len_zt (ys := v) (enc := eTApiCell) Tryd.underlying22 rfl) ?_
  refine wv (r := rI .i64 0) (o_move rfl) ?_
  refine wl_x ?_
  refine wc_block ?_
  obtain ⟨o34, eo35, hK36⟩ := obn_e h3
  refine wc_loop2 (S := Nat × (Int) × (Unit)) (V := (Unit) × (Unit)) 0 (fun σ => lop (fun σ => lSmall_b1 v σ) σ.1 σ.2.1 = some o34) (fun σ => [(0, rSl 4 (List.map eTApiCell v)), (2, rB false), (8, rI .i64 (v.length : Int)), (9, rI .i64 σ.2.1)]) (fun σ => []) (fun σ => σ.1) (F, 0, ()) eo35 (Sub.c rfl (Sub.c rfl (Sub.c rfl (Sub.c rfl Sub.nil)))) sN (fun σ => lSmall_k1  = some r) (fun σ => [(2, rB false)]) (fun σ => []) ?_ ?_
  ·rintro ⟨n42, x23, ⟨⟩⟩ hi40
   refine wc_as (l' := [(0, rSl 4 (List.map eTApiCell v)), (2, rB false), (8, rI .i64 (v.length : Int)), (9, rI .i64 x23)]) (H' := []) rfl rfl ?_
   obtain ⟨m39, rfl, t37, h41, ht38⟩ := lop_e hi40
   replace h41 : lSmall_b1 v x23 = some t37 := h41
   unfold lSmall_b1 at h41
   refine wc_sr ?_
   refine wv (o_lt rfl rfl) ?_
   refine wl_x ?_
   refine wc_seq ?_
   refine wc_cond (b := decide (x23 < (v.length : Int))) rfl (fun c43 => ?_) (fun c43 => ?_)
   ·have h44 := cnd_t c43 h41
    refine wc_skip ?_
    refine wk_x ?_
    refine wc_seq ?_
    refine wc_block ?_
    refine wc_sr ?_
    refine wm rfl ?_
    refine wa rfl ?_
    refine wl_y ?_
    refine wm rfl ?_
    refine wm rfl ?_
    obtain ⟨g45, h46⟩ := chk_e h44
    refine wv (o_ix_z (enc := eTApiCell) (ys := v) Tryd.underlying22 Tryd.sizeOf40 rfl rfl g45) ?_
    refine wv (o_fieldAddr_z Tryd.underlying40 rfl Tryd.sizeOf9 rfl rfl) ?_
    refine wv (o_load_z Tryd.isAgg9 rfl rfl) ?_
    refine wv (o_len_s Tryd.underlying9 rfl) ?_
    refine wv (o_gt rfl rfl) ?_
    refine wl_x ?_
    refine wc_cond (b := decide (300 < (((at' v x23).fStr).length : Int))) rfl (fun c47 => ?_) (fun c47 => ?_)
    ·have h48 := cnd_t c47 h46
     refine wc_sr ?_
     refine wv (r := rB false) (o_assign rfl) ?_
     refine wl_x ?_
     refine wc_ret ?_
     refine wk_in_ret ?_
     refine wk_then_ret ?_
     refine wk_then_ret ?_
     refine wk_cut_ret ?_
     have h49 := stp_ret h48 ht38 hK36
     refine wk_in_ret ?_
     refine wk_then_ret ?_
     obtain rfl := some_e h49
     exact wk_ret (r_1 Tryd.results6 (rv_t rfl)) sN ⟨rfl, rfl⟩
    ·have h50 := cnd_f c47 h46
     refine wc_skip ?_
     refine wk_in_norm ?_
     refine wk_x ?_
     refine wc_region ?_
     obtain ⟨g51, h52⟩ := chk_e h50
     refine wv (o_add rfl rfl g51) ?_
     refine wm rfl ?_
     refine wl_nil ?_
     have h53 := stp_next h52 ht38
     exact wk_then (wk_some (m39, x23 + 1, ()) ⟨h53, Nat.lt_succ_self _⟩ (Sub.c rfl (Sub.c rfl (Sub.c rfl (Sub.c rfl Sub.nil)))) sN)
   ·have h54 := cnd_f c43 h41
    refine wc_exit ?_
    refine wk_then_exit ?_
    have h55 := stp_go h54 ht38 hK36
    exact wk_then_exit (wk_cut_hit (wk_some ((), ()) h55 (Sub.c rfl Sub.nil) sN))
  ·rintro ⟨⟨⟩, ⟨⟩⟩ h56
   refine wk_as (l' := [(2, rB false)]) (H' := []) rfl rfl ?_
   replace h56 : lSmall_k1  = some r := h56
   unfold lSmall_k1 at h56
   refine wk_in_hit ?_
   refine wk_x ?_
   refine wc_sr ?_
   refine wv (r := rB true) (o_assign rfl) ?_
   refine wl_x ?_
   refine wc_ret ?_
   obtain rfl := some_e h56
   exact wk_ret (r_1 Tryd.results6 (rv_t rfl)) sN ⟨rfl, rfl⟩

theorem lAwake_w (F : Nat)  (r : Bool) (h : lAwake F = some r) : Fn Tryd.prog GE 7 [] [] (fun R H => R = rB r ∧ H = []) := by
 refine enter (n := 83) Tryd.func7 rfl Tryd.ntmps7 rfl (fun w Z => ?_)
 refine wc_as (l' := []) (H' := []) rfl rfl ?_
 unfold lAwake at h
 refine wc_sr ?_
 refine wv (r := rB false) (o_assign rfl) ?_
 refine wl_y ?_
 obtain ⟨r1, e3, h2⟩ := obn_e h
 refine wc0 Tryd.call19 (vInt_w F 1 r1 e3) rfl ?_
 refine wm rfl ?_
 refine wv (o_extract rfl rfl) ?_
 refine wv (o_extract rfl rfl) ?_
 refine wa rfl ?_
 refine wa rfl ?_
 refine wl_y ?_
 refine wm rfl ?_
 obtain ⟨r4, e6, h5⟩ := obn_e h2
 refine wc0 Tryd.call21 (vNull_w r4 e6) rfl ?_
 refine w_buildSlice (ys := ([r1.1, r4] : List (List TApiCell))) (enc := eL_TApiCell) (css := [[rSl 4 (List.map eTApiCell r1.1)], [rSl 4 (List.map eTApiCell r4)]]) (xs := [.tmp 18, .tmp 19]) Tryd.underlying44 Tryd.sizeOf22 Tryd.zeroValue22 rfl rfl rfl ⟨Cel.one rfl (Up.refl _), Cel.one rfl (Up.refl _), trivial⟩ rfl eL_TApiCell_len rfl rfl rfl (fun b7 => ?_)
 refine WL.freeze (i := 0) rfl ?_
 refine WL.up (d := 20) (r := rSl 1 (List.map eL_TApiCell ([r1.1, r4] : List (List TApiCell)))) rfl (Up.fact (i := 0) rfl) ?_
 obtain ⟨r8, e10, h9⟩ := obn_e h5
 refine wc0 Tryd.call20 (vList_w F ([r1.1, r4] : List (List TApiCell)) r8 e10) rfl ?_
 refine wm rfl ?_
 refine wv (o_extract rfl rfl) ?_
 refine wv (o_extract rfl rfl) ?_
 refine wa rfl ?_
 refine wa rfl ?_
 refine wl_y ?_
 obtain ⟨r11, e13, h12⟩ := obn_e h9
 refine wc0 Tryd.call22 (vStr_w F ([120] : Str) r11 e13) rfl ?_
 refine wm rfl ?_
 refine wv (o_extract rfl rfl) ?_
 refine wv (o_extract rfl rfl) ?_
 refine wa rfl ?_
 refine wa rfl ?_
 refine wl_y ?_
 refine w_buildSlice (ys := ([([97] : Str), ([98] : Str)] : List Str)) (enc := eS) (css := [[rS ([97] : Str)], [rS ([98] : Str)]]) (xs := [.const (.string ⟨#[97]⟩), .const (.string ⟨#[98]⟩)]) Tryd.underlying46 Tryd.sizeOf9 Tryd.zeroValue9 rfl rfl rfl ⟨Cel.one rfl (Up.refl _), Cel.one rfl (Up.refl _), trivial⟩ rfl eS_len rfl rfl rfl (fun b14 => ?_)
 refine wm rfl ?_
 refine wm rfl ?_
 refine w_buildSlice (ys := ([r8.1, r11.1] : List (List TApiCell))) (enc := eL_TApiCell) (css := [[rSl 4 (List.map eTApiCell r8.1)], [rSl 4 (List.map eTApiCell r11.1)]]) (xs := [.tmp 30, .tmp 31]) Tryd.underlying44 Tryd.sizeOf22 Tryd.zeroValue22 rfl rfl rfl ⟨Cel.one rfl (Up.refl _), Cel.one rfl (Up.refl _), trivial⟩ rfl eL_TApiCell_len rfl rfl rfl (fun b15 => ?_)
 refine WL.freeze (i := 1) rfl ?_
 refine WL.up (d := 29) (r := rSl 1 (List.map eS ([([97] : Str), ([98] : Str)] : List Str))) rfl (Up.fact (i := 0) rfl) ?_
 refine WL.freeze (i := 1) rfl ?_
 refine WL.up (d := 32) (r := rSl 1 (List.map eL_TApiCell ([r8.1, r11.1] : List (List TApiCell)))) rfl (Up.fact (i := 0) rfl) ?_
 obtain ⟨r16, e18, h17⟩ := obn_e h12
 refine wc0 Tryd.call23 (vMap_w F ([([97] : Str), ([98] : Str)] : List Str) ([r8.1, r11.1] : List (List TApiCell)) r16 e18) rfl ?_
 refine wm rfl ?_
 refine wv (o_extract rfl rfl) ?_
 refine wv (o_extract rfl rfl) ?_
 refine wa rfl ?_
 refine wa rfl ?_
 refine wl_y ?_
 refine wm rfl ?_
 obtain ⟨r19, e21, h20⟩ := obn_e h17
 refine wc0 Tryd.call8 (vEncode_w F r16.1 r19 e21) rfl ?_
 refine wm rfl ?_
 refine wv (o_extract rfl rfl) ?_
 refine wv (o_extract rfl rfl) ?_
 refine wa rfl ?_
 refine wa rfl ?_
 refine wl_y ?_
 refine wm rfl ?_
 obtain ⟨r22, e24, h23⟩ := obn_e h20
 refine wc0 Tryd.call16 (vDecode_w F r19.1 r22 e24) rfl ?_
 refine wm rfl ?_
 refine wv (o_extract rfl rfl) ?_
 refine wv (o_extract rfl rfl) ?_
 refine wa rfl ?_
 refine wa rfl ?_
 refine wl_x ?_
 obtain ⟨g25, h26⟩ := chk_e h23
 obtain ⟨g27, h28⟩ := chk_e h26
 obtain ⟨g29, h30⟩ := chk_e h28
 refine wc_seq_mid [(0, rB ((decide (r8.2 = 0)) && ((decide (r16.2 = 0)) && ((decide (r19.2 = 0)) && ((decide (r22.2 = 0)) && ((decide ((r16.1.length : Int) = 7)) && ((decide (r19.1 = ([123, 34, 97, 34, 58, 91, 49, 44, 110, 117, 108, 108, 93, 44, 34, 98, 34, 58, 34, 120, 34, 125] : Str))) && ((ov (vSame F r22.1 r16.1)) && ((decide ((ov (vDepth F r16.1)) = 3)) && (decide ((ov (vCheck F ([] : List TApiCell))) = 1)))))))))))] [] ?_ ?_
 ·refine wc_region ?_
  refine wm rfl ?_
  refine wv (o_eq rfl rfl) ?_
  refine wm rfl ?_
  refine bsplit (decide (r8.2 = 0)) (fun c31 => ?_) (fun c31 => ?_)
  ·refine wo c31 ?_
   refine wm rfl ?_
   refine wo c31 ?_
   refine wv (o_eq rfl rfl) ?_
   refine wpt rfl c31 rfl ?_
   refine wm rfl ?_
   refine bsplit (decide (r16.2 = 0)) (fun c32 => ?_) (fun c32 => ?_)
   ·refine wo c32 ?_
    refine wm rfl ?_
    refine wo c32 ?_
    refine wv (o_eq rfl rfl) ?_
    refine wpt rfl c32 rfl ?_
    refine wm rfl ?_
    refine bsplit (decide (r19.2 = 0)) (fun c33 => ?_) (fun c33 => ?_)
    ·refine wo c33 ?_
     refine wm rfl ?_
     refine wo c33 ?_
     refine wv (o_eq rfl rfl) ?_
     refine wpt rfl c33 rfl ?_
     refine wm rfl ?_
     refine bsplit (decide (r22.2 = 0)) (fun c34 => ?_) (fun c34 => ?_)
     ·refine wo c34 ?_
      refine wm rfl ?_
      refine wo c34 ?_
      refine wv (o_len_zt (ys := r16.1) (enc := eTApiCell) Tryd.underlying22 rfl) ?_
      refine wo c34 ?_
      refine wv (o_eq rfl rfl) ?_
      refine wpt rfl c34 rfl ?_
      refine wm rfl ?_
      refine bsplit (decide ((r16.1.length : Int) = 7)) (fun c35 => ?_) (fun c35 => ?_)
      ·refine wo c35 ?_
       refine wm rfl ?_
       refine wo c35 ?_
       refine wv (o_seq rfl rfl) ?_
       refine wpt rfl c35 rfl ?_
       refine wm rfl ?_
       refine bsplit (decide (r19.1 = ([123, 34, 97, 34, 58, 91, 49, 44, 110, 117, 108, 108, 93, 44, 34, 98, 34, 58, 34, 120, 34, 125] : Str))) (fun c36 => ?_) (fun c36 => ?_)
       ·refine wo c36 ?_
        refine wm rfl ?_
        refine wo c36 ?_
        refine wm rfl ?_
        refine wo c36 ?_
        refine wc0 Tryd.call15 (vSame_w F r22.1 r16.1 (ov (vSame F r22.1 r16.1)) (ov_e (imp_t (imp_t (imp_t (imp_t (imp_t (imp_t g25 c31) c32) c33) c34) c35) c36))) rfl ?_
        refine wpt rfl c36 rfl ?_
        refine wm rfl ?_
        refine bsplit ((ov (vSame F r22.1 r16.1))) (fun c37 => ?_) (fun c37 => ?_)
        ·refine wo c37 ?_
         refine wm rfl ?_
         refine wo c37 ?_
         refine wc0 Tryd.call12 (vDepth_w F r16.1 (ov (vDepth F r16.1)) (ov_e (imp_t (imp_t (imp_t (imp_t (imp_t (imp_t (imp_t g27 c31) c32) c33) c34) c35) c36) c37))) rfl ?_
         refine wo c37 ?_
         refine wv (o_eq rfl rfl) ?_
         refine wpt rfl c37 rfl ?_
         refine wm rfl ?_
         refine bsplit (decide ((ov (vDepth F r16.1)) = 3)) (fun c38 => ?_) (fun c38 => ?_)
         ·refine wo c38 ?_
          refine w_call0 (rs := [rv (.slice none 0 0)]) (r := rI .i64 (ov (vCheck F ([] : List TApiCell)))) Tryd.call10 rfl (Fn.args (vCheck_w F ([] : List TApiCell) (ov (vCheck F ([] : List TApiCell))) (ov_e (imp_t (imp_t (imp_t (imp_t (imp_t (imp_t (imp_t (imp_t g29 c31) c32) c33) c34) c35) c36) c37) c38))) ⟨Rle.nil _, trivial⟩) rfl rfl ?_
          refine wo c38 ?_
          refine wv (o_eq rfl rfl) ?_
          refine wpt rfl c38 rfl ?_
          refine wa rfl ?_
          refine wl_nil ?_
          exact wtc (And.intro c31 (And.intro c32 (And.intro c33 (And.intro c34 (And.intro c35 (And.intro c36 (And.intro c37 c38)))))))
         ·refine wf c38 ?_
          refine wf c38 ?_
          refine wv (r := rB false) (o_pick_f (b := decide ((ov (vDepth F r16.1)) = 3)) rfl c38 rfl) ?_
          refine wa rfl ?_
          refine wl_nil ?_
          exact wtc (And.intro c31 (And.intro c32 (And.intro c33 (And.intro c34 (And.intro c35 (And.intro c36 (And.intro c37 c38)))))))
        ·refine wf c37 ?_
         refine wf c37 ?_
         refine wf c37 ?_
         refine wv (r := rB false) (o_pick_f (b := (ov (vSame F r22.1 r16.1))) rfl c37 rfl) ?_
         refine wm rfl ?_
         refine wl_off (b := false) rfl rfl rfl rfl ?_
         refine wl_off (b := false) rfl rfl rfl rfl ?_
         refine wv (r := rB false) (o_pick_f (b := false) rfl rfl rfl) ?_
         refine wa rfl ?_
         refine wl_nil ?_
         exact wtc (And.intro c31 (And.intro c32 (And.intro c33 (And.intro c34 (And.intro c35 (And.intro c36 c37))))))
       ·refine wf c36 ?_
        refine wf c36 ?_
        refine wf c36 ?_
        refine wv (r := rB false) (o_pick_f (b := decide (r19.1 = ([123, 34, 97, 34, 58, 91, 49, 44, 110, 117, 108, 108, 93, 44, 34, 98, 34, 58, 34, 120, 34, 125] : Str))) rfl c36 rfl) ?_
        refine wm rfl ?_
        refine wl_off (b := false) rfl rfl rfl rfl ?_
        refine wl_off (b := false) rfl rfl rfl rfl ?_
        refine wl_off (b := false) rfl rfl rfl rfl ?_
        refine wv (r := rB false) (o_pick_f (b := false) rfl rfl rfl) ?_
        refine wm rfl ?_
        refine wl_off (b := false) rfl rfl rfl rfl ?_
        refine wl_off (b := false) rfl rfl rfl rfl ?_
        refine wv (r := rB false) (o_pick_f (b := false) rfl rfl rfl) ?_
        refine wa rfl ?_
        refine wl_nil ?_
        exact wtc (And.intro c31 (And.intro c32 (And.intro c33 (And.intro c34 (And.intro c35 c36)))))
      ·refine wf c35 ?_
       refine wf c35 ?_
       refine wv (r := rB false) (o_pick_f (b := decide ((r16.1.length : Int) = 7)) rfl c35 rfl) ?_
       refine wm rfl ?_
       refine wl_off (b := false) rfl rfl rfl rfl ?_
       refine wl_off (b := false) rfl rfl rfl rfl ?_
       refine wl_off (b := false) rfl rfl rfl rfl ?_
       refine wv (r := rB false) (o_pick_f (b := false) rfl rfl rfl) ?_
       refine wm rfl ?_
       refine wl_off (b := false) rfl rfl rfl rfl ?_
       refine wl_off (b := false) rfl rfl rfl rfl ?_
       refine wl_off (b := false) rfl rfl rfl rfl ?_
       refine wv (r := rB false) (o_pick_f (b := false) rfl rfl rfl) ?_
       refine wm rfl ?_
       refine wl_off (b := false) rfl rfl rfl rfl ?_
       refine wl_off (b := false) rfl rfl rfl rfl ?_
       refine wv (r := rB false) (o_pick_f (b := false) rfl rfl rfl) ?_
       refine wa rfl ?_
       refine wl_nil ?_
       exact wtc (And.intro c31 (And.intro c32 (And.intro c33 (And.intro c34 c35))))
     ·refine wf c34 ?_
      refine wf c34 ?_
      refine wf c34 ?_
      refine wv (r := rB false) (o_pick_f (b := decide (r22.2 = 0)) rfl c34 rfl) ?_
      refine wm rfl ?_
      refine wl_off (b := false) rfl rfl rfl rfl ?_
      refine wl_off (b := false) rfl rfl rfl rfl ?_
      refine wv (r := rB false) (o_pick_f (b := false) rfl rfl rfl) ?_
      refine wm rfl ?_
      refine wl_off (b := false) rfl rfl rfl rfl ?_
      refine wl_off (b := false) rfl rfl rfl rfl ?_
      refine wl_off (b := false) rfl rfl rfl rfl ?_
      refine wv (r := rB false) (o_pick_f (b := false) rfl rfl rfl) ?_
      refine wm rfl ?_
      refine wl_off (b := false) rfl rfl rfl rfl ?_
      refine wl_off (b := false) rfl rfl rfl rfl ?_
      refine wl_off (b := false) rfl rfl rfl rfl ?_
      refine wv (r := rB false) (o_pick_f (b := false) rfl rfl rfl) ?_
      refine wm rfl ?_
      refine wl_off (b := false) rfl rfl rfl rfl ?_
      refine wl_off (b := false) rfl rfl rfl rfl ?_
      refine wv (r := rB false) (o_pick_f (b := false) rfl rfl rfl) ?_
      refine wa rfl ?_
      refine wl_nil ?_
      exact wtc (And.intro c31 (And.intro c32 (And.intro c33 c34)))
    ·refine wf c33 ?_
     refine wf c33 ?_
     refine wv (r := rB false) (o_pick_f (b := decide (r19.2 = 0)) rfl c33 rfl) ?_
     refine wm rfl ?_
     refine wl_off (b := false) rfl rfl rfl rfl ?_
     refine wl_off (b := false) rfl rfl rfl rfl ?_
     refine wl_off (b := false) rfl rfl rfl rfl ?_
     refine wv (r := rB false) (o_pick_f (b := false) rfl rfl rfl) ?_
     refine wm rfl ?_
     refine wl_off (b := false) rfl rfl rfl rfl ?_
     refine wl_off (b := false) rfl rfl rfl rfl ?_
     refine wv (r := rB false) (o_pick_f (b := false) rfl rfl rfl) ?_
     refine wm rfl ?_
     refine wl_off (b := false) rfl rfl rfl rfl ?_
     refine wl_off (b := false) rfl rfl rfl rfl ?_
     refine wl_off (b := false) rfl rfl rfl rfl ?_
     refine wv (r := rB false) (o_pick_f (b := false) rfl rfl rfl) ?_
     refine wm rfl ?_
     refine wl_off (b := false) rfl rfl rfl rfl ?_
     refine wl_off (b := false) rfl rfl rfl rfl ?_
     refine wl_off (b := false) rfl rfl rfl rfl ?_
     refine wv (r := rB false) (o_pick_f (b := false) rfl rfl rfl) ?_
     refine wm rfl ?_
     refine wl_off (b := false) rfl rfl rfl rfl ?_
     refine wl_off (b := false) rfl rfl rfl rfl ?_
     refine wv (r := rB false) (o_pick_f (b := false) rfl rfl rfl) ?_
     refine wa rfl ?_
     refine wl_nil ?_
     exact wtc (And.intro c31 (And.intro c32 c33))
   ·refine wf c32 ?_
    refine wf c32 ?_
    refine wv (r := rB false) (o_pick_f (b := decide (r16.2 = 0)) rfl c32 rfl) ?_
    refine wm rfl ?_
    refine wl_off (b := false) rfl rfl rfl rfl ?_
    refine wl_off (b := false) rfl rfl rfl rfl ?_
    refine wv (r := rB false) (o_pick_f (b := false) rfl rfl rfl) ?_
    refine wm rfl ?_
    refine wl_off (b := false) rfl rfl rfl rfl ?_
    refine wl_off (b := false) rfl rfl rfl rfl ?_
    refine wl_off (b := false) rfl rfl rfl rfl ?_
    refine wv (r := rB false) (o_pick_f (b := false) rfl rfl rfl) ?_
    refine wm rfl ?_
    refine wl_off (b := false) rfl rfl rfl rfl ?_
    refine wl_off (b := false) rfl rfl rfl rfl ?_
    refine wv (r := rB false) (o_pick_f (b := false) rfl rfl rfl) ?_
    refine wm rfl ?_
    refine wl_off (b := false) rfl rfl rfl rfl ?_
    refine wl_off (b := false) rfl rfl rfl rfl ?_
    refine wl_off (b := false) rfl rfl rfl rfl ?_
    refine wv (r := rB false) (o_pick_f (b := false) rfl rfl rfl) ?_
    refine wm rfl ?_
    refine wl_off (b := false) rfl rfl rfl rfl ?_
    refine wl_off (b := false) rfl rfl rfl rfl ?_
    refine wl_off (b := false) rfl rfl rfl rfl ?_
    refine wv (r := rB false) (o_pick_f (b := false) rfl rfl rfl) ?_
    refine wm rfl ?_
    refine wl_off (b := false) rfl rfl rfl rfl ?_
    refine wl_off (b := false) rfl rfl rfl rfl ?_
    refine wv (r := rB false) (o_pick_f (b := false) rfl rfl rfl) ?_
    refine wa rfl ?_
    refine wl_nil ?_
    exact wtc (And.intro c31 c32)
  ·refine wf c31 ?_
   refine wf c31 ?_
   refine wv (r := rB false) (o_pick_f (b := decide (r8.2 = 0)) rfl c31 rfl) ?_
   refine wm rfl ?_
   refine wl_off (b := false) rfl rfl rfl rfl ?_
   refine wl_off (b := false) rfl rfl rfl rfl ?_
   refine wv (r := rB false) (o_pick_f (b := false) rfl rfl rfl) ?_
   refine wm rfl ?_
   refine wl_off (b := false) rfl rfl rfl rfl ?_
   refine wl_off (b := false) rfl rfl rfl rfl ?_
   refine wv (r := rB false) (o_pick_f (b := false) rfl rfl rfl) ?_
   refine wm rfl ?_
   refine wl_off (b := false) rfl rfl rfl rfl ?_
   refine wl_off (b := false) rfl rfl rfl rfl ?_
   refine wl_off (b := false) rfl rfl rfl rfl ?_
   refine wv (r := rB false) (o_pick_f (b := false) rfl rfl rfl) ?_
   refine wm rfl ?_
   refine wl_off (b := false) rfl rfl rfl rfl ?_
   refine wl_off (b := false) rfl rfl rfl rfl ?_
   refine wv (r := rB false) (o_pick_f (b := false) rfl rfl rfl) ?_
   refine wm rfl ?_
   refine wl_off (b := false) rfl rfl rfl rfl ?_
   refine wl_off (b := false) rfl rfl rfl rfl ?_
   refine wl_off (b := false) rfl rfl rfl rfl ?_
   refine wv (r := rB false) (o_pick_f (b := false) rfl rfl rfl) ?_
   refine wm rfl ?_
   refine wl_off (b := false) rfl rfl rfl rfl ?_
   refine wl_off (b := false) rfl rfl rfl rfl ?_
   refine wl_off (b := false) rfl rfl rfl rfl ?_
   refine wv (r := rB false) (o_pick_f (b := false) rfl rfl rfl) ?_
   refine wm rfl ?_
   refine wl_off (b := false) rfl rfl rfl rfl ?_
   refine wl_off (b := false) rfl rfl rfl rfl ?_
   refine wv (r := rB false) (o_pick_f (b := false) rfl rfl rfl) ?_
   refine wa rfl ?_
   refine wl_nil ?_
   exact wtc c31
 refine wc_ret ?_
 obtain rfl := some_e h30
 exact wk_ret (r_1 Tryd.results7 (rv_t rfl)) sN ⟨rfl, rfl⟩

end Go.Proofs.YtkalifgebccpcaaDoor.Q

/-
 What functions compute, with checks: plain definitions, printed by a small program of ours (gq.py). No program in sight.
-/
namespace Go.Proofs.YtkalifgebccpcaaDoor
open Go
set_option linter.unusedVariables false

end Go.Proofs.YtkalifgebccpcaaDoor

/-
  Walks, printed by a small program of ours (gq.py).
-/
namespace Go.Proofs.YtkalifgebccpcaaDoor.Q
open Go Go.RowKit
set_option linter.unusedVariables false
set_option linter.unusedSimpArgs false
set_option maxRecDepth 100000
set_option maxHeartbeats 4000000

end Go.Proofs.YtkalifgebccpcaaDoor.Q

/-
 What functions compute, with checks: plain definitions, printed by a small program of ours (gq.py). No program in sight.
-/
namespace Go.Proofs.YtkalifgebccpcaaDoor
open Go
set_option linter.unusedVariables false
def cloneN (ys : (List TApiCell)) : Option ((List TApiCell)) :=
 chk (inA 40 (([] : List TApiCell).length + ys.length)) <| some (([] : List TApiCell) ++ ys)

end Go.Proofs.YtkalifgebccpcaaDoor

/-
 Regions that draw, with operations in a row behind them, and with allocations in any order. Plain theorems over any program; no condition.
-/
namespace Go.Proofs.YtkalifgebccpcaaDoor.Q
open Go Go.RowKit
set_option linter.unusedVariables false
set_option linter.unusedSimpArgs false
section
variable {P : Program} {Q : Exit → Act → World → Prop}
end
/-! ### Allocations in any order -/
structure Sa where
 deps : List Nat
 r : Rp
 al : Option (List Rp × TypeId) := none
 late : Option (Nat × List Rp) := none
 sto : Option Nat := none
def sas (sp : List Sa) (i : Nat) : Sa := sp.getD i { deps := [], r := rv undef }
def spq (sp : List Sa) : List Sp := sp.map fun s => ⟨s.deps, s.r, 0⟩
def raOf (β : Nat → Nat) (s : Sa) (i : Nat) : Rp := match s.al with
 | none => s.r
 | some _ => rv (.pointer (some ⟨β i, 0, none⟩))
def zipA (β : Nat → Nat) : List Oper → List Sa → Nat → Fr → Fr
 | o :: os, s :: sp, i, l => match o.dst with
  | some d => (d, raOf β s i) :: zipA β os sp (i + 1) l
  | none => zipA β os sp (i + 1) l
 | _, _, _, l => l
def AlOk (P : Program) (n : Nat) (c : Cx) (opsA : Array Oper) (Q : Exit → Act → World → Prop) (o : Oper) (p : List Rp × TypeId) : Prop :=
 ∀ H a w Z (K : Act → World → Prop), St c H Z w → (∀ b w', St c (.blk b p.1 p.2 :: H) Z w' → K (a.put o.dst (.pointer (some ⟨b, 0, none⟩))) w') →
  Region.wanted o (yielded opsA a.tmps) = true ∧ o.wp P a w K Q
def ObA (P : Program) (n : Nat) (c : Cx) (opsA : Array Oper) (Q : Exit → Act → World → Prop) (ops : List Oper) (sp : List Sa) (l0 : Fr) (H : List Ent) (i : Nat) (o : Oper) : Prop :=
 match (sas sp i).sto with
 | some j => o.dst = none ∧ ∃ d p ncs, dstOf ops j = some d ∧ (sas sp j).al = some p ∧ (sas sp j).late = some (i, ncs) ∧
   ∀ b H, OpOk P n c opsA Q ((d, rv (.pointer (some ⟨b, 0, none⟩))) :: depFr ops (spq sp) (sas sp i).deps l0) (.blk b p.1 p.2 :: H) o (rv undef) (.blk b ncs p.2 :: H)
 | none => match (sas sp i).al with
  | none => ∀ E, OpOk P n c opsA Q (depFr ops (spq sp) (sas sp i).deps l0) (H ++ E) o (sas sp i).r (H ++ E)
  | some p => AlOk P n c opsA Q o p
def OblA (P : Program) (n : Nat) (c : Cx) (opsA : Array Oper) (Q : Exit → Act → World → Prop) (ops : List Oper) (sp : List Sa) (l0 : Fr) (H : List Ent) : Nat → List Oper → Prop
 | i, o :: rest => ObA P n c opsA Q ops sp l0 H i o ∧ OblA P n c opsA Q ops sp l0 H (i + 1) rest
 | _, [] => True
section
variable {P : Program} {n : Nat} {c : Cx} {opsA : Array Oper} {Q : Exit → Act → World → Prop} {l l0 : Fr} {H : List Ent} {sp : List Sa}
theorem OblA.at {ops : List Oper} : ∀ {k : Nat} {rest : List Oper}, OblA P n c opsA Q ops sp l0 H k rest → ∀ (t : Nat) o, rest[t]? = some o → ObA P n c opsA Q ops sp l0 H (k + t) o
 | k, o :: rest, ⟨h1, h2⟩, t, o', ht => by
  cases t with
  | zero => simp at ht; subst ht; exact h1
  | succ t =>
   have := OblA.at h2 t o' (by simpa using ht)
   rw [show k + (t + 1) = k + 1 + t from by omega]
   exact this
 | _, [], _, t, o, h => by simp at h
end
section
variable {P : Program} {n : Nat} {c : Cx} {opsA : Array Oper} {Q : Exit → Act → World → Prop} {l l0 : Fr} {H : List Ent} {sp : List Sa}
end
structure Kza (ks : List Nat) (β : Nat → Nat) (os : List Oper) (sp : List Sa) (i : Nat) (l0 l1 : Fr) : Prop where
 go : Kp ks (zipA β os sp i l0) l1
section
variable {ks : List Nat} {β : Nat → Nat} {os : List Oper} {sp : List Sa} {i d : Nat} {l0 l1 : Fr} {ds : List Nat} {r : Rp} {p : List Rp × TypeId} {lt : Option (Nat × List Rp)} {so : Option Nat} {op : Op} {ty : TypeId} {pos : String} {af : Array Edge} {g : Option (Nat × Bool)}
end
section
variable {P : Program} {n : Nat} {c : Cx} {opsA : Array Oper} {Q : Exit → Act → World → Prop} {l l0 : Fr} {H : List Ent} {sp : List Sa}
end
end Go.Proofs.YtkalifgebccpcaaDoor.Q

/-
 More rules: tests of slices for nil. Plain theorems over any program; no condition.
-/
namespace Go.Proofs.YtkalifgebccpcaaDoor.Q
open Go Go.RowKit
set_option linter.unusedVariables false
set_option linter.unusedSimpArgs false
def rBx (p : Bool → Prop) : Rp := ⟨fun _ v => ∃ b, v = .bool b ∧ p b, fun _ h => h, true, fun _ Z v ⟨b, e, _⟩ => by rw [e]; rfl⟩
section
variable {P : Program} {n : Nat} {c : Cx} {ops : Array Oper} {Q : Exit → Act → World → Prop} {rest : List Oper} {l : Fr} {H : List Ent} {d : Option Nat} {ty rty t e : TypeId} {pos : String} {af : Array Edge} {g : Option (Nat × Bool)} {r : Rp} {x : Operand} {cx cy : Code} {sz : Nat} {xs : List (List Rp)}
theorem wc_condx {o : Operand} {p : Bool → Prop} (ho : ev l o = some (rBx p)) (h1 : p true → WC P n c cx Q l H) (h2 : p false → WC P n c cy Q l H) : WC P n c (.cond o cx cy) Q l H := fun a w Z ha hw => by
 obtain ⟨b, e, hp⟩ := ha.ev ho
 exact wp_cond_split e (fun e => h1 (e ▸ hp) a w Z ha hw) (fun e => h2 (e ▸ hp) a w Z ha hw)
theorem o_slnil_z (ht : P.underlying t = some (.slice e)) (h : ev l x = some (rSl sz xs)) : ORun P n c l H { dst := d, op := .binOp .eql t x (.const (.slice none 0 0)) rty, type := ty, pos := pos, after := af, guard := g } (rBx (fun b => b = true → xs = [])) := fun a w Z ha hw => by
 obtain ⟨A, cap, e1, h1, h2, h3, h4⟩ := ha.ev h
 refine ⟨.bool A.isNone, ⟨_, rfl, fun hb => ?_⟩, ?_⟩
 ·cases A with
  | some a => cases hb
  | none =>
   have := h3 rfl
   exact List.length_eq_zero_iff.1 (by omega)
 ·have := run_equal_slice_nil (P := P) w t e A xs.length cap ht
  have e2 : a.eval (.const (.slice none 0 0)) = .slice none 0 0 := rfl
  simp [execOp, e1, e2, binOp, this, eqGuard]
end
end Go.Proofs.YtkalifgebccpcaaDoor.Q

/-
  Walks, printed by a small program of ours (gq.py).
-/
namespace Go.Proofs.YtkalifgebccpcaaDoor.Q
open Go Go.RowKit
set_option linter.unusedVariables false
set_option linter.unusedSimpArgs false
set_option maxRecDepth 100000
set_option maxHeartbeats 4000000
theorem cloneN_w (ys : (List TApiCell)) (r : (List TApiCell)) (h : cloneN ys = some r) : Fn Tryd.prog GE 38 [rSl 4 (List.map eTApiCell ys)] [] (fun R H => R = rSl 4 (List.map eTApiCell r) ∧ H = []) := by
 refine enter (n := 8) Tryd.func38 rfl Tryd.ntmps38 rfl (fun w Z => ?_)
 refine wc_as (l' := [(0, rSl 4 (List.map eTApiCell ys))]) (H' := []) rfl rfl ?_
 unfold cloneN at h
 refine wc_sr ?_
 refine wv (r := rv (.slice none 0 0)) (o_assign rfl) ?_
 refine wl_x ?_
 refine wc_seq ?_
 refine wc_sr ?_
 refine wm rfl ?_
 refine wv (o_slnil_z Tryd.underlying22 rfl) ?_
 refine wl_x ?_
 refine wc_condx rfl (fun c1 => ?_) (fun c1 => ?_)
 ·have e2 : ys = [] := List.map_eq_nil_iff.1 (c1 rfl)
  have h3 : some ([] : List TApiCell) = some r := by rw [e2] at h; exact (chk_e h).2
  refine wc_sr ?_
  refine wv (r := rv (.slice none 0 0)) (o_assign rfl) ?_
  refine wl_x ?_
  refine wc_ret ?_
  refine wk_then_ret ?_
  refine WK.up (d := 2) (r := rSl 4 (List.map eTApiCell ([] : List TApiCell))) rfl (Up.le (Rle.nil _)) ?_
  obtain rfl := some_e h3
  exact wk_ret (r_1 Tryd.results38 (rv_t rfl)) sN ⟨rfl, rfl⟩
 ·refine wc_skip ?_
  refine wk_x ?_
  refine wc_sr ?_
  refine w_buildSlice (ys := ([] : List TApiCell)) (enc := eTApiCell) (css := []) (xs := []) Tryd.underlying22 Tryd.sizeOf40 Tryd.zeroValue40 rfl rfl rfl trivial rfl eTApiCell_len rfl rfl rfl (fun b4 => ?_)
  refine wm rfl ?_
  obtain ⟨g6, h7⟩ := chk_e h
  obtain ⟨inf, hinf⟩ := info40
  refine w_append (xs := ([] : List TApiCell)) (ys := ys) (enc := eTApiCell) (i := 0) Tryd.underlying22 hinf.1 hinf.2.1 hinf.2.2.1 hinf.2.2.2 rfl rfl rfl rfl rfl (Src.z rfl rfl) eTApiCell_len eTApiCell_one g6 rfl (fun v5 => ?_)
  refine wa rfl ?_
  refine wl_x ?_
  refine wc_ret ?_
  refine WK.freeze (i := 0) rfl ?_
  refine WK.up (d := 2) (r := rSl 4 (List.map eTApiCell (([] : List TApiCell) ++ ys))) rfl (Up.fact (i := 0) rfl) ?_
  obtain rfl := some_e h7
  exact wk_ret (r_1 Tryd.results38 (rv_t rfl)) (sS sN) ⟨rfl, rfl⟩

end Go.Proofs.YtkalifgebccpcaaDoor.Q

/-
 What functions compute, with checks: plain definitions, printed by a small program of ours (gq.py). No program in sight.
-/
namespace Go.Proofs.YtkalifgebccpcaaDoor
open Go
set_option linter.unusedVariables false
def vGetF (k : Str) (x : (List TApiCell)) (key : Str) (out : (List TApiCell)) : Option (Bool × (List TApiCell)) :=
 cnd (decide (k = key)) (obn (cloneN x) fun r3 => chk (decide (0 < r3.length)) <| some (!decide (k = key), r3)) (some (!decide (k = key), out))

def vGetP_b1 (F : Nat) (v : (List TApiCell)) (key : Str) (x100 : Int) (x101 : Int) (x102 : (List TApiCell)) : Option (Stp (Int × Int × (List TApiCell)) (Out ((List TApiCell)) ((List TApiCell)))) :=
 cnd (decide (x101 < ((at' v 0).fN))) (cnd (decide (((at' v 0).fKind) = 6)) (chk (inR x100 (v.length : Int)) <| chk (inK .i64 (x100 + 1)) <| chk (inC (x100 + 1) (v.length : Int)) <| obn (vLook F (List.drop (Int.toNat (x100 + 1)) v)) fun r173 => chk (inK .i64 ((x100 + 1) + r173.1)) <| chk (inC (x100 + 1) ((x100 + 1) + r173.1)) <| chk (inC ((x100 + 1) + r173.1) (v.length : Int)) <| obn (vGetF ((at' v x100).fStr) (List.take (Int.toNat ((x100 + 1) + r173.1) - Int.toNat (x100 + 1)) (List.drop (Int.toNat (x100 + 1)) v)) key x102) fun r183 => cnd (!r183.1) (some (.out (.ret r183.2))) (chk (inK .i64 (x101 + 1)) <| some (.next ((x100 + 1) + r173.1, x101 + 1, r183.2)))) (chk (inC x100 (v.length : Int)) <| obn (vLook F (List.drop (Int.toNat x100) v)) fun r196 => chk (inK .i64 (x100 + r196.1)) <| chk (inC x100 (x100 + r196.1)) <| chk (inC (x100 + r196.1) (v.length : Int)) <| obn (vGetF ([] : Str) (List.take (Int.toNat (x100 + r196.1) - Int.toNat x100) (List.drop (Int.toNat x100) v)) key x102) fun r206 => cnd (!r206.1) (some (.out (.ret r206.2))) (chk (inK .i64 (x101 + 1)) <| some (.next (x100 + r196.1, x101 + 1, r206.2))))) (some (.out (.go x102)))

def vGetP_k1 (x153 : (List TApiCell)) : Option ((List TApiCell)) :=
 some x153

def vGetP (F : Nat) (v : (List TApiCell)) (key : Str) (out : (List TApiCell)) : Option ((List TApiCell)) :=
 chk (inR 0 (v.length : Int)) <| obn (lop (fun σ => vGetP_b1 F v key σ.1 σ.2.1 σ.2.2) F (1, 0, out)) (oute fun ν => vGetP_k1 ν)

def vGet (F : Nat) (v : (List TApiCell)) (key : Str) : Option ((List TApiCell) × Int) :=
 obn (vCheck F v) fun r2 => cnd (!decide (r2 = 0)) (some (([] : List TApiCell), r2)) (chk (inR 0 (v.length : Int)) <| cnd (!decide (((at' v 0).fKind) = 6)) (some (([] : List TApiCell), 7)) (obn (vGetP F v key ([] : List TApiCell)) fun r14 => cnd (List.isEmpty r14) (some (([] : List TApiCell), 5)) (some (r14, 0))))

def vPutA (k : Str) (y : (List TApiCell)) (out : (List TApiCell)) : Option ((List TApiCell)) :=
 chk (inR 0 (out.length : Int)) <| chk (inK .i64 (((at' out 0).fN) + 1)) <| bnd (List.set out (Int.toNat 0) (TApiCell.mk ((at' out 0).fKind) ((at' out 0).fInt) ((at' out 0).fStr) (((at' out 0).fN) + 1))) fun r5 => chk (inA 40 (r5.length + ([(TApiCell.mk 4 0 k 0)] : List TApiCell).length)) <| chk (inA 40 ((r5 ++ ([(TApiCell.mk 4 0 k 0)] : List TApiCell)).length + y.length)) <| some ((r5 ++ ([(TApiCell.mk 4 0 k 0)] : List TApiCell)) ++ y)

def vPutF (k : Str) (y : (List TApiCell)) (done : Bool) (key : Str) (out : (List TApiCell)) (xx : (List TApiCell)) : Option (Bool × Bool × (List TApiCell)) :=
 cnd (((!done) && (!sLess k key))) (obn (vPutA key xx out) fun r4 => cnd (!decide (k = key)) (obn (vPutA k y r4) fun r10 => some (true, true, r10)) (some (true, true, r4))) (cnd (!decide (k = key)) (obn (vPutA k y out) fun r18 => some (true, done, r18)) (some (true, done, out)))

def vPutP_b1 (F : Nat) (v : (List TApiCell)) (key : Str) (xx : (List TApiCell)) (x106 : Int) (x107 : Int) (x108 : Bool) (x109 : (List TApiCell)) : Option (Stp (Int × Int × Bool × (List TApiCell)) (Out (Bool × (List TApiCell)) (Bool × (List TApiCell)))) :=
 cnd (decide (x107 < ((at' v 0).fN))) (cnd (decide (((at' v 0).fKind) = 6)) (chk (inR x106 (v.length : Int)) <| chk (inK .i64 (x106 + 1)) <| chk (inC (x106 + 1) (v.length : Int)) <| obn (vLook F (List.drop (Int.toNat (x106 + 1)) v)) fun r185 => chk (inK .i64 ((x106 + 1) + r185.1)) <| chk (inC (x106 + 1) ((x106 + 1) + r185.1)) <| chk (inC ((x106 + 1) + r185.1) (v.length : Int)) <| obn (vPutF ((at' v x106).fStr) (List.take (Int.toNat ((x106 + 1) + r185.1) - Int.toNat (x106 + 1)) (List.drop (Int.toNat (x106 + 1)) v)) x108 key x109 xx) fun r195 => cnd (!r195.1) (some (.out (.ret (r195.2.1, r195.2.2)))) (chk (inK .i64 (x107 + 1)) <| some (.next ((x106 + 1) + r185.1, x107 + 1, r195.2.1, r195.2.2)))) (chk (inC x106 (v.length : Int)) <| obn (vLook F (List.drop (Int.toNat x106) v)) fun r209 => chk (inK .i64 (x106 + r209.1)) <| chk (inC x106 (x106 + r209.1)) <| chk (inC (x106 + r209.1) (v.length : Int)) <| obn (vPutF ([] : Str) (List.take (Int.toNat (x106 + r209.1) - Int.toNat x106) (List.drop (Int.toNat x106) v)) x108 key x109 xx) fun r219 => cnd (!r219.1) (some (.out (.ret (r219.2.1, r219.2.2)))) (chk (inK .i64 (x107 + 1)) <| some (.next (x106 + r209.1, x107 + 1, r219.2.1, r219.2.2))))) (some (.out (.go (x108, x109))))

def vPutP_k1 (x163 : Bool) (x164 : (List TApiCell)) : Option (Bool × (List TApiCell)) :=
 some (x163, x164)

def vPutP (F : Nat) (v : (List TApiCell)) (done : Bool) (key : Str) (out : (List TApiCell)) (xx : (List TApiCell)) : Option (Bool × (List TApiCell)) :=
 chk (inR 0 (v.length : Int)) <| obn (lop (fun σ => vPutP_b1 F v key xx σ.1 σ.2.1 σ.2.2.1 σ.2.2.2) F (1, 0, done, out)) (oute fun ν => vPutP_k1 ν.1 ν.2)

def vPut (F : Nat) (v : (List TApiCell)) (key : Str) (x : (List TApiCell)) : Option ((List TApiCell) × Int) :=
 obn (vCheck F v) fun r3 => cnd (!decide (r3 = 0)) (some (([] : List TApiCell), r3)) (chk (inR 0 (v.length : Int)) <| cnd (!decide (((at' v 0).fKind) = 6)) (some (([] : List TApiCell), 7)) (obn (vCheck F x) fun r14 => cnd (!decide (r14 = 0)) (some (([] : List TApiCell), r14)) (obn (vPutP F v false key ([(TApiCell.mk 6 0 ([] : Str) 0)] : List TApiCell) x) fun r24 => cnd (!r24.1) (obn (vPutA key x r24.2) fun r30 => obn (vChecked F r30) fun r34 => some (r34.1, r34.2)) (obn (vChecked F r24.2) fun r38 => some (r38.1, r38.2)))))

def lTrips (F : Nat) (v : (List TApiCell)) (s : Str) (key : Str) (other : Str) (x : (List TApiCell)) : Option (Bool) :=
 chk ((lSmall F v).isSome) <| chk (imp (!(!(ov (lSmall F v)))) ((lSmall F x).isSome)) <| cnd (((!(ov (lSmall F v))) || ((!(ov (lSmall F x))) || ((decide (4100 < (s.length : Int))) || ((decide (300 < (key.length : Int))) || (decide (300 < (other.length : Int)))))))) (obn (lAwake F) fun r11 => some r11) (obn (vEncode F v) fun r15 => cnd (decide (r15.2 = 0)) (obn (vDecode F r15.1) fun r20 => chk (imp (!(!decide (r20.2 = 0))) ((vSame F v r20.1).isSome)) <| cnd (((!decide (r20.2 = 0)) || (!(ov (vSame F v r20.1))))) (some false) (obn (vDecode F s) fun r29 => cnd (decide (r29.2 = 0)) (obn (vEncode F r29.1) fun r34 => chk (imp (!(!decide (r34.2 = 0))) (imp (!(!decide (r34.1 = s))) ((vCheck F r29.1).isSome))) <| cnd (((!decide (r34.2 = 0)) || ((!decide (r34.1 = s)) || (!decide ((ov (vCheck F r29.1)) = 0))))) (some false) (obn (vPut F v key x) fun r44 => cnd (decide (r44.2 = 0)) (obn (vGet F r44.1 key) fun r49 => chk (imp (!(!decide (r49.2 = 0))) ((vSame F r49.1 x).isSome)) <| chk (imp (!(!decide (r49.2 = 0))) (imp (!(!(ov (vSame F r49.1 x)))) ((vCheck F r44.1).isSome))) <| cnd (((!decide (r49.2 = 0)) || ((!(ov (vSame F r49.1 x))) || (!decide ((ov (vCheck F r44.1)) = 0))))) (some false) (obn (vGet F v other) fun r61 => obn (vGet F r44.1 other) fun r64 => chk (imp (!decide (other = key)) (imp (!(!decide (r61.2 = r64.2))) ((vSame F r61.1 r64.1).isSome))) <| cnd (((!decide (other = key)) && ((!decide (r61.2 = r64.2)) || (!(ov (vSame F r61.1 r64.1)))))) (some false) (obn (lAwake F) fun r74 => some r74))) (obn (lAwake F) fun r78 => some r78))) (obn (vPut F v key x) fun r82 => cnd (decide (r82.2 = 0)) (obn (vGet F r82.1 key) fun r87 => chk (imp (!(!decide (r87.2 = 0))) ((vSame F r87.1 x).isSome)) <| chk (imp (!(!decide (r87.2 = 0))) (imp (!(!(ov (vSame F r87.1 x)))) ((vCheck F r82.1).isSome))) <| cnd (((!decide (r87.2 = 0)) || ((!(ov (vSame F r87.1 x))) || (!decide ((ov (vCheck F r82.1)) = 0))))) (some false) (obn (vGet F v other) fun r99 => obn (vGet F r82.1 other) fun r102 => chk (imp (!decide (other = key)) (imp (!(!decide (r99.2 = r102.2))) ((vSame F r99.1 r102.1).isSome))) <| cnd (((!decide (other = key)) && ((!decide (r99.2 = r102.2)) || (!(ov (vSame F r99.1 r102.1)))))) (some false) (obn (lAwake F) fun r112 => some r112))) (obn (lAwake F) fun r116 => some r116)))) (obn (vDecode F s) fun r120 => cnd (decide (r120.2 = 0)) (obn (vEncode F r120.1) fun r125 => chk (imp (!(!decide (r125.2 = 0))) (imp (!(!decide (r125.1 = s))) ((vCheck F r120.1).isSome))) <| cnd (((!decide (r125.2 = 0)) || ((!decide (r125.1 = s)) || (!decide ((ov (vCheck F r120.1)) = 0))))) (some false) (obn (vPut F v key x) fun r135 => cnd (decide (r135.2 = 0)) (obn (vGet F r135.1 key) fun r140 => chk (imp (!(!decide (r140.2 = 0))) ((vSame F r140.1 x).isSome)) <| chk (imp (!(!decide (r140.2 = 0))) (imp (!(!(ov (vSame F r140.1 x)))) ((vCheck F r135.1).isSome))) <| cnd (((!decide (r140.2 = 0)) || ((!(ov (vSame F r140.1 x))) || (!decide ((ov (vCheck F r135.1)) = 0))))) (some false) (obn (vGet F v other) fun r152 => obn (vGet F r135.1 other) fun r155 => chk (imp (!decide (other = key)) (imp (!(!decide (r152.2 = r155.2))) ((vSame F r152.1 r155.1).isSome))) <| cnd (((!decide (other = key)) && ((!decide (r152.2 = r155.2)) || (!(ov (vSame F r152.1 r155.1)))))) (some false) (obn (lAwake F) fun r165 => some r165))) (obn (lAwake F) fun r169 => some r169))) (obn (vPut F v key x) fun r173 => cnd (decide (r173.2 = 0)) (obn (vGet F r173.1 key) fun r178 => chk (imp (!(!decide (r178.2 = 0))) ((vSame F r178.1 x).isSome)) <| chk (imp (!(!decide (r178.2 = 0))) (imp (!(!(ov (vSame F r178.1 x)))) ((vCheck F r173.1).isSome))) <| cnd (((!decide (r178.2 = 0)) || ((!(ov (vSame F r178.1 x))) || (!decide ((ov (vCheck F r173.1)) = 0))))) (some false) (obn (vGet F v other) fun r190 => obn (vGet F r173.1 other) fun r193 => chk (imp (!decide (other = key)) (imp (!(!decide (r190.2 = r193.2))) ((vSame F r190.1 r193.1).isSome))) <| cnd (((!decide (other = key)) && ((!decide (r190.2 = r193.2)) || (!(ov (vSame F r190.1 r193.1)))))) (some false) (obn (lAwake F) fun r203 => some r203))) (obn (lAwake F) fun r207 => some r207))))

end Go.Proofs.YtkalifgebccpcaaDoor

/-
 Frozen slices of which it is known that they are nil if they are empty. Plain theorems.
-/
namespace Go.Proofs.YtkalifgebccpcaaDoor.Q
open Go Go.RowKit
set_option linter.unusedVariables false
def rSn (sz : Nat) (xs : List (List Rp)) : Rp := ⟨fun Z v => SlZ sz xs Z v ∧ (xs = [] → v = .slice none 0 0), fun h ⟨a, b⟩ => ⟨SlZ.mono h a, b⟩, true, fun _ Z v ⟨⟨A, cap, e, _⟩, _⟩ => by rw [e]; rfl⟩
theorem Rle.sn {sz : Nat} {xs : List (List Rp)} : Rle (rSn sz xs) (rSl sz xs) := fun _ _ h => h.1
theorem Rle.niln (sz : Nat) : Rle (rv (.slice none 0 0)) (rSn sz []) := fun Z v h => by rw [show v = _ from h]; exact ⟨SlZ.nil sz Z, fun _ => rfl⟩
theorem Rle.upn {T : Type} {sz : Nat} {enc : T → List Rp} {ys : List T} (h : decide (0 < ys.length) = true) : Rle (rSl sz (List.map enc ys)) (rSn sz (List.map enc ys)) := fun Z v hv => ⟨hv, fun e => by
 have := of_decide_eq_true h
 rw [List.map_eq_nil_iff.1 e] at this
 exact absurd this (by simp)⟩
section
variable {P : Program} {n : Nat} {c : Cx} {l : Fr} {H : List Ent} {d : Option Nat} {ty rty t e : TypeId} {pos : String} {af : Array Edge} {g : Option (Nat × Bool)} {x : Operand} {sz : Nat}
theorem o_slnil_sn {T : Type} {enc : T → List Rp} {ys : List T} (ht : P.underlying t = some (.slice e)) (h : ev l x = some (rSn sz (List.map enc ys))) : ORun P n c l H { dst := d, op := .binOp .eql t x (.const (.slice none 0 0)) rty, type := ty, pos := pos, after := af, guard := g } (rB (List.isEmpty ys)) := fun a w Z ha hw => by
 obtain ⟨⟨A, cap, e1, h1, h2, h3, h4⟩, h5⟩ := ha.ev h
 have e2 : a.eval (.const (.slice none 0 0)) = .slice none 0 0 := rfl
 refine ⟨.bool A.isNone, ?_, ?_⟩
 ·show Value.bool A.isNone = .bool ys.isEmpty
  cases ys with
  | nil =>
   have := h5 rfl
   rw [e1] at this
   cases this; rfl
  | cons y r =>
   cases A with
   | some a => rfl
   | none =>
    have := h3 rfl
    simp only [List.length_map, List.length_cons] at h1
    omega
 ·have := run_equal_slice_nil (P := P) w t e A (List.map enc ys).length cap ht
  simp only [List.length_map] at this
  simp [execOp, e1, e2, binOp, this, eqGuard]
end
end Go.Proofs.YtkalifgebccpcaaDoor.Q
