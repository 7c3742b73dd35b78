/-
  Texts of the proof, put together: WVc, PVd.
-/
import Derived.Test.YtkalifgebccpcaaGreatDoorMB4
/-
  Walks, printed by a small program of ours (gq.py).
-/
namespace Go.Proofs.YtkalifgebccpcaaGreatDoor.Q
open Go Go.RowKit
set_option linter.unusedVariables false
set_option linter.unusedSimpArgs false
set_option maxRecDepth 100000
set_option maxHeartbeats 4000000
theorem vQuote_w (F : Nat) (b_l : Nat) (v_l : Value) (l : Str) (s : Str) (r : Str) (h : vQuote F l s = some r) : Fn Tryz.prog GE 86 [rv (.pointer (some ⟨b_l, 0, none⟩)), rS s] [.bld 74 5 b_l v_l l] (fun R H => ∃ w0b : Value, R = rv (.tuple #[]) ∧ H = [.bld 74 5 b_l w0b r]) := by
 refine enter (n := 32) Tryz.func86 rfl Tryz.ntmps86 rfl (fun w Z => ?_)
 refine wc_as (l' := [(0, rv (.pointer (some ⟨b_l, 0, none⟩))), (1, rS s)]) (H' := [.bld 74 5 b_l v_l l]) rfl rfl ?_
 unfold vQuote at h
 refine wc_sr ?_
 refine wl_v (r := rv (.pointer (some ⟨b_l, 0, none⟩))) (o_move rfl) rfl ?_
 obtain ⟨g1, h2⟩ := chk_e h
 obtain ⟨g3, h4⟩ := chk_e h2
 refine w_call (rs := [rv (.pointer (some ⟨b_l, 0, none⟩)), rI .u8 34]) (Hin := [.bld 74 5 b_l v_l l]) (Hr := []) Tryz.call87 rfl (List.Perm.refl _) (writeByte_q b_l v_l l 34 g1 g3) rfl ?_
 rintro _ _ ⟨v5, rfl, rfl⟩
 obtain ⟨r6, e8, h7⟩ := bnd_e h4
 rw [← e8]
 refine wl_x ?_
 refine wc_seq ?_
 refine wc_sr ?_
 refine wl_v (r := rS s) (o_move rfl) rfl ?_
 refine wl_v (r := rI .i64 (s.length : Int)) (o_len_s Tryz.underlying9 rfl) rfl ?_
 refine wl_v (r := rI .i64 0) (o_move rfl) rfl ?_
 refine wl_x ?_
 refine wc_block ?_
 obtain ⟨o124, eo125, hK126⟩ := obn_e h7
 refine wc_loop2 (S := Nat × (Int × Str) × (Value)) (V := (Str) × (Value)) 0 (fun σ => lop (fun σ => vQuote_b1 s σ.1 σ.2) σ.1 σ.2.1 = some o124) (fun σ => [(0, rv (.pointer (some ⟨b_l, 0, none⟩))), (1, rS s), (8, rI .i64 (s.length : Int)), (9, rI .i64 σ.2.1.1)]) (fun σ => [.bld 74 5 b_l σ.2.2 σ.2.1.2]) (fun σ => σ.1) (F, (0, r6), v5) eo125 (Sub.c rfl (Sub.c rfl (Sub.c rfl (Sub.c rfl Sub.nil)))) (List.Sublist.cons_cons _ List.Sublist.slnil) (fun σ => vQuote_k1 σ.1 = some r) (fun σ => [(0, rv (.pointer (some ⟨b_l, 0, none⟩)))]) (fun σ => [.bld 74 5 b_l σ.2 σ.1]) ?_ ?_
 ·rintro ⟨n132, ⟨x82, x83⟩, v84⟩ hi130
  refine wc_as (l' := [(0, rv (.pointer (some ⟨b_l, 0, none⟩))), (1, rS s), (8, rI .i64 (s.length : Int)), (9, rI .i64 x82)]) (H' := [.bld 74 5 b_l v84 x83]) rfl rfl ?_
  obtain ⟨m129, rfl, t127, h131, ht128⟩ := lop_e hi130
  replace h131 : vQuote_b1 s x82 x83 = some t127 := h131
  unfold vQuote_b1 at h131
  refine wc_sr ?_
  refine wl_v (r := rB (decide (x82 < (s.length : Int)))) (o_lt rfl rfl) rfl ?_
  refine wl_x ?_
  refine wc_seq ?_
  refine wc_cond (b := decide (x82 < (s.length : Int))) rfl (fun c133 => ?_) (fun c133 => ?_)
  ·have h134 := cnd_t c133 h131
   refine wc_skip ?_
   refine wk_x ?_
   refine wc_seq ?_
   refine wc_block ?_
   refine wc_sr ?_
   refine wl_v (r := rI .i64 x82) (o_move rfl) rfl ?_
   refine wl_v (r := rI .i64 x82) (o_assign rfl) rfl ?_
   refine wl_x ?_
   refine wc_seq ?_
   obtain ⟨g135, h136⟩ := chk_e h134
   refine wc_seq_mid [(0, rv (.pointer (some ⟨b_l, 0, none⟩))), (1, rS s), (4, rI .i64 x82), (8, rI .i64 (s.length : Int)), (9, rI .i64 x82), (10, rB (decide (x82 < (s.length : Int)))), (11, rI .i64 x82), (12, rS s), (13, rI .i64 x82), (14, rI .u8 (bat s x82)), (15, rB (decide ((bat s x82) = 34))), (16, rB (decide ((bat s x82) = 34))), (21, rB ((decide ((bat s x82) = 34)) || (decide ((bat s x82) = 92))))] [.bld 74 5 b_l v84 x83] ?_ ?_
   ·refine wc_region ?_
    refine wl_v (r := rS s) (o_move rfl) rfl ?_
    refine wl_v (r := rI .i64 x82) (o_move rfl) rfl ?_
    refine wl_v (r := rI .u8 (bat s x82)) (o_index_b Tryz.underlying9 rfl rfl g135) rfl ?_
    refine wl_v (r := rB (decide ((bat s x82) = 34))) (o_eq rfl rfl) rfl ?_
    refine wl_v (r := rB (decide ((bat s x82) = 34))) (o_move rfl) rfl ?_
    refine bsplit (decide ((bat s x82) = 34)) (fun c137 => ?_) (fun c137 => ?_)
    ·refine wl_off (b := decide ((bat s x82) = 34)) rfl rfl c137 rfl ?_
     refine wl_off (b := decide ((bat s x82) = 34)) rfl rfl c137 rfl ?_
     refine wl_off (b := decide ((bat s x82) = 34)) rfl rfl c137 rfl ?_
     refine wl_off (b := decide ((bat s x82) = 34)) rfl rfl c137 rfl ?_
     refine wl_v (r := rB true) (o_pick_t (b := decide ((bat s x82) = 34)) rfl c137 rfl) rfl ?_
     refine wl_nil ?_
     exact wk_then (wk_mid (Sub.c rfl (Sub.c rfl (Sub.c rfl (Sub.c rfl (Sub.c rfl (Sub.c rfl (Sub.c rfl (Sub.c rfl (Sub.c rfl (Sub.c rfl (Sub.c rfl (Sub.c rfl (Sub.c (by first | rfl | (simp only [c137, Bool.true_and, Bool.false_and, Bool.true_or, Bool.false_or, Bool.and_true, Bool.and_false, Bool.or_true, Bool.or_false, Bool.not_true, Bool.not_false, cond_true, cond_false]; rfl)) Sub.nil))))))))))))) (List.Sublist.cons_cons _ List.Sublist.slnil))
    ·refine wl_on (b := decide ((bat s x82) = 34)) rfl rfl c137 ?_
     refine wl_v (r := rS s) (o_move rfl) rfl ?_
     refine wl_on (b := decide ((bat s x82) = 34)) rfl rfl c137 ?_
     refine wl_v (r := rI .i64 x82) (o_move rfl) rfl ?_
     refine wl_on (b := decide ((bat s x82) = 34)) rfl rfl c137 ?_
     refine wl_v (r := rI .u8 (bat s x82)) (o_index_b Tryz.underlying9 rfl rfl g135) rfl ?_
     refine wl_on (b := decide ((bat s x82) = 34)) rfl rfl c137 ?_
     refine wl_v (r := rB (decide ((bat s x82) = 92))) (o_eq rfl rfl) rfl ?_
     refine wl_v (r := rB (decide ((bat s x82) = 92))) (o_pick_f (b := decide ((bat s x82) = 34)) rfl c137 rfl) rfl ?_
     refine wl_nil ?_
     exact wk_then (wk_mid (Sub.c rfl (Sub.c rfl (Sub.c rfl (Sub.c rfl (Sub.c rfl (Sub.c rfl (Sub.c rfl (Sub.c rfl (Sub.c rfl (Sub.c rfl (Sub.c rfl (Sub.c rfl (Sub.c (by first | rfl | (simp only [c137, Bool.true_and, Bool.false_and, Bool.true_or, Bool.false_or, Bool.and_true, Bool.and_false, Bool.or_true, Bool.or_false, Bool.not_true, Bool.not_false, cond_true, cond_false]; rfl)) Sub.nil))))))))))))) (List.Sublist.cons_cons _ List.Sublist.slnil))
   refine wc_cond (b := ((decide ((bat s x82) = 34)) || (decide ((bat s x82) = 92)))) rfl (fun c138 => ?_) (fun c138 => ?_)
   ·have h139 := cnd_t c138 h136
    refine wc_region ?_
    refine wl_v (r := rv (.pointer (some ⟨b_l, 0, none⟩))) (o_move rfl) rfl ?_
    obtain ⟨g140, h141⟩ := chk_e h139
    obtain ⟨g142, h143⟩ := chk_e h141
    refine w_call (rs := [rv (.pointer (some ⟨b_l, 0, none⟩)), rI .u8 92]) (Hin := [.bld 74 5 b_l v84 x83]) (Hr := []) Tryz.call87 rfl (List.Perm.refl _) (writeByte_q b_l v84 x83 92 g140 g142) rfl ?_
    rintro _ _ ⟨v144, rfl, rfl⟩
    obtain ⟨r145, e147, h146⟩ := bnd_e h143
    rw [← e147]
    refine wl_x ?_
    refine wc_region ?_
    refine wl_v (r := rv (.pointer (some ⟨b_l, 0, none⟩))) (o_move rfl) rfl ?_
    refine wl_v (r := rS s) (o_move rfl) rfl ?_
    refine wl_v (r := rI .i64 x82) (o_move rfl) rfl ?_
    refine wl_v (r := rI .u8 (bat s x82)) (o_index_b Tryz.underlying9 rfl rfl g135) rfl ?_
    obtain ⟨g148, h149⟩ := chk_e h146
    obtain ⟨g150, h151⟩ := chk_e h149
    refine w_call (rs := [rv (.pointer (some ⟨b_l, 0, none⟩)), rI .u8 (bat s x82)]) (Hin := [.bld 74 5 b_l v144 r145]) (Hr := []) Tryz.call87 rfl (List.Perm.refl _) (writeByte_q b_l v144 r145 (bat s x82) g148 g150) rfl ?_
    rintro _ _ ⟨v152, rfl, rfl⟩
    obtain ⟨r153, e155, h154⟩ := bnd_e h151
    rw [← e155]
    refine wl_nil ?_
    refine wk_in_norm ?_
    refine wk_x ?_
    refine wc_region ?_
    obtain ⟨g156, h157⟩ := chk_e h154
    refine wl_v (r := rI .i64 (x82 + 1)) (o_add rfl rfl g156) rfl ?_
    refine wl_v (r := rI .i64 (x82 + 1)) (o_move rfl) rfl ?_
    refine wl_nil ?_
    have h158 := stp_next h157 ht128
    exact wk_then (wk_some (m129, (x82 + 1, r153), v152) ⟨h158, Nat.lt_succ_self _⟩ (Sub.c rfl (Sub.c rfl (Sub.c rfl (Sub.c rfl Sub.nil)))) (List.Sublist.cons_cons _ List.Sublist.slnil))
   ·have h159 := cnd_f c138 h136
    refine wc_skip ?_
    refine wk_x ?_
    refine wc_region ?_
    refine wl_v (r := rv (.pointer (some ⟨b_l, 0, none⟩))) (o_move rfl) rfl ?_
    refine wl_v (r := rS s) (o_move rfl) rfl ?_
    refine wl_v (r := rI .i64 x82) (o_move rfl) rfl ?_
    refine wl_v (r := rI .u8 (bat s x82)) (o_index_b Tryz.underlying9 rfl rfl g135) rfl ?_
    obtain ⟨g160, h161⟩ := chk_e h159
    obtain ⟨g162, h163⟩ := chk_e h161
    refine w_call (rs := [rv (.pointer (some ⟨b_l, 0, none⟩)), rI .u8 (bat s x82)]) (Hin := [.bld 74 5 b_l v84 x83]) (Hr := []) Tryz.call87 rfl (List.Perm.refl _) (writeByte_q b_l v84 x83 (bat s x82) g160 g162) rfl ?_
    rintro _ _ ⟨v164, rfl, rfl⟩
    obtain ⟨r165, e167, h166⟩ := bnd_e h163
    rw [← e167]
    refine wl_nil ?_
    refine wk_in_norm ?_
    refine wk_x ?_
    refine wc_region ?_
    obtain ⟨g168, h169⟩ := chk_e h166
    refine wl_v (r := rI .i64 (x82 + 1)) (o_add rfl rfl g168) rfl ?_
    refine wl_v (r := rI .i64 (x82 + 1)) (o_move rfl) rfl ?_
    refine wl_nil ?_
    have h170 := stp_next h169 ht128
    exact wk_then (wk_some (m129, (x82 + 1, r165), v164) ⟨h170, Nat.lt_succ_self _⟩ (Sub.c rfl (Sub.c rfl (Sub.c rfl (Sub.c rfl Sub.nil)))) (List.Sublist.cons_cons _ List.Sublist.slnil))
  ·have h171 := cnd_f c133 h131
   refine wc_exit ?_
   refine wk_then_exit ?_
   have h172 := stp_go h171 ht128 hK126
   exact wk_then_exit (wk_cut_hit (wk_some (x83, v84) h172 (Sub.c rfl Sub.nil) (List.Sublist.cons_cons _ List.Sublist.slnil)))
 ·rintro ⟨x122, v123⟩ h173
  refine wk_as (l' := [(0, rv (.pointer (some ⟨b_l, 0, none⟩)))]) (H' := [.bld 74 5 b_l v123 x122]) rfl rfl ?_
  replace h173 : vQuote_k1 x122 = some r := h173
  unfold vQuote_k1 at h173
  refine wk_in_hit ?_
  refine wk_x ?_
  refine wc_region ?_
  refine wl_v (r := rv (.pointer (some ⟨b_l, 0, none⟩))) (o_move rfl) rfl ?_
  obtain ⟨g174, h175⟩ := chk_e h173
  refine w_call (rs := [rv (.pointer (some ⟨b_l, 0, none⟩)), rI .u8 34]) (Hin := [.bld 74 5 b_l v123 x122]) (Hr := []) Tryz.call87 rfl (List.Perm.refl _) (writeByte_q b_l v123 x122 34 g174 g3) rfl ?_
  rintro _ _ ⟨v176, rfl, rfl⟩
  obtain ⟨r177, e179, h178⟩ := bnd_e h175
  rw [← e179]
  refine wl_nil ?_
  obtain rfl := some_e h178
  exact wk_end (r_0 Tryz.results86) (List.Sublist.cons_cons _ List.Sublist.slnil) ⟨v176, rfl, rfl⟩

theorem vWritem_w (F : Nat) (rec_vWriteF : Str → (List TApiCell) → Bool → Str → TApiCell → Option (Bool × Bool × Str)) (rec_vWriteP : (List TApiCell) → Bool → Str → TApiCell → Option (Bool × Str)) (ih_vWriteF : (∀ (b_first : Nat) (bx_l : Nat) (b_l : Nat) (v_l : Value) (b_c : Nat) (key : Str) (x : (List TApiCell)) (first : Bool) (l : Str) (c : TApiCell) (r : Bool × Bool × Str), rec_vWriteF key x first l c = some r → Fn Tryz.prog GE 88 [rS key, rSl 4 (List.map eTApiCell x), rv (.pointer (some ⟨b_first, 0, none⟩)), rv (.pointer (some ⟨bx_l, 0, none⟩)), rv (.pointer (some ⟨b_c, 0, none⟩))] [.blk b_first [rB first] 4, .blk bx_l [rv (.pointer (some ⟨b_l, 0, none⟩))] 71, .bld 74 5 b_l v_l l, .blk b_c (eTApiCell c) 63] (fun R H => ∃ w3b : Value, R = rB r.1 ∧ H = [.blk b_first [rB r.2.1] 4, .blk bx_l [rv (.pointer (some ⟨b_l, 0, none⟩))] 71, .bld 74 5 b_l w3b r.2.2, .blk b_c (eTApiCell c) 63]))) (ih_vWriteP : (∀ (b_first : Nat) (bx_l : Nat) (b_l : Nat) (v_l : Value) (b_c : Nat) (v : (List TApiCell)) (first : Bool) (l : Str) (c : TApiCell) (r : Bool × Str), rec_vWriteP v first l c = some r → Fn Tryz.prog GE 52 [rSl 4 (List.map eTApiCell v), rv (.func (.func 88) #[] #[(.pointer (some ⟨b_first, 0, none⟩)), (.pointer (some ⟨bx_l, 0, none⟩)), (.pointer (some ⟨b_c, 0, none⟩))])] [.blk b_first [rB first] 4, .blk bx_l [rv (.pointer (some ⟨b_l, 0, none⟩))] 71, .bld 74 5 b_l v_l l, .blk b_c (eTApiCell c) 63] (fun R H => ∃ w1_1b : Value, R = rv (.tuple #[]) ∧ H = [.blk b_first [rB r.1] 4, .blk bx_l [rv (.pointer (some ⟨b_l, 0, none⟩))] 71, .bld 74 5 b_l w1_1b r.2, .blk b_c (eTApiCell c) 63]))) (b_l : Nat) (v_l : Value) (l : Str) (v : (List TApiCell)) (r : Str) (h : vWritem F rec_vWriteF rec_vWriteP l v = some r) : Fn Tryz.prog GE 61 [rv (.pointer (some ⟨b_l, 0, none⟩)), rSl 4 (List.map eTApiCell v)] [.bld 74 5 b_l v_l l] (fun R H => ∃ w0b : Value, R = rv (.tuple #[]) ∧ H = [.bld 74 5 b_l w0b r]) := by
 refine enter (n := 52) Tryz.func61 rfl Tryz.ntmps61 rfl (fun w Z => ?_)
 refine wc_as (l' := [(0, rv (.pointer (some ⟨b_l, 0, none⟩))), (1, rSl 4 (List.map eTApiCell v))]) (H' := [.bld 74 5 b_l v_l l]) rfl rfl ?_
 unfold vWritem at h
 refine wc_sr ?_
 refine w_box rfl (one_c rfl) rfl (fun b1 => ?_)
 refine wl_y ?_
 refine wl_v (r := rSl 4 (List.map eTApiCell v)) (o_move rfl) rfl ?_
 obtain ⟨g2, h3⟩ := chk_e h
 refine wl_v (r := rAt (eTApiCell (at' v 0))) (o_ix_z (enc := eTApiCell) (ys := v) Tryz.underlying23 Tryz.sizeOf63 rfl rfl g2) rfl ?_
 refine wl_v (r := rAgg (eTApiCell (at' v 0))) (o_load_za Tryz.isAgg63 Tryz.sizeOf63 rfl rfl rfl) rfl ?_
 refine w_alloc (cs := [rI .i64 0, rI .i64 0, rS ([] : Str), rI .i64 0]) Tryz.zeroValue63 rfl rfl (fun b4 => ?_)
 refine u_store_agg (i := 0) Tryz.sizeOf63 rfl rfl rfl (OneAll.c rfl) rfl rfl (cs' := [rI .i64 ((at' v 0).fKind), rI .i64 ((at' v 0).fInt), rS ((at' v 0).fStr), rI .i64 ((at' v 0).fN)]) rfl (H' := [.blk b4 (eTApiCell (at' v 0)) 63, .blk b1 [rv (.pointer (some ⟨b_l, 0, none⟩))] 71, .bld 74 5 b_l v_l l]) rfl ?_
 refine wl_y ?_
 refine wl_v (r := rv (.pointer (some ⟨b4, 0, none⟩))) (o_fieldAddr Tryz.underlying63 rfl Tryz.sizeOf61 rfl rfl) rfl ?_
 refine wl_v (r := rI .i64 ((at' v 0).fKind)) (o_load (i := 0) Tryz.isAgg61 rfl rfl rfl) rfl ?_
 refine wl_x ?_
 refine wc_block ?_
 refine wc_sr ?_
 refine wl_v (r := rB (decide (((at' v 0).fKind) = 1))) (o_eq rfl rfl) rfl ?_
 refine wl_v (r := rB (decide (((at' v 0).fKind) = 1))) (o_assign rfl) rfl ?_
 refine wl_x ?_
 refine wc_cond (b := decide (((at' v 0).fKind) = 1)) rfl (fun c5 => ?_) (fun c5 => ?_)
 ·have h6 := cnd_t c5 h3
  refine wc_region ?_
  refine wl_v (r := rv (.pointer (some ⟨b_l, 0, none⟩))) (o_load (i := 1) Tryz.isAgg71 rfl rfl rfl) rfl ?_
  obtain ⟨g7, h8⟩ := chk_e h6
  refine w_call (rs := [rv (.pointer (some ⟨b_l, 0, none⟩)), rS ([110, 117, 108, 108] : Str)]) (Hin := [.bld 74 5 b_l v_l l]) (Hr := [.blk b4 (eTApiCell (at' v 0)) 63, .blk b1 [rv (.pointer (some ⟨b_l, 0, none⟩))] 71]) Tryz.call84 rfl ((perm_front (i := 2) rfl).trans (List.Perm.cons _ (List.Perm.refl _))) (writeString_q b_l v_l l ([110, 117, 108, 108] : Str) g7) rfl ?_
  rintro _ _ ⟨v9, rfl, rfl⟩
  obtain ⟨r10, e12, h11⟩ := bnd_e h8
  rw [← e12]
  refine wl_nil ?_
  refine wk_in_norm ?_
  obtain rfl := some_e h11
  exact wk_end (r_0 Tryz.results61) (List.Sublist.cons_cons _ (List.Sublist.cons _ (List.Sublist.cons _ List.Sublist.slnil))) ⟨v9, rfl, rfl⟩
 ·have h13 := cnd_f c5 h3
  refine wc_sr ?_
  refine wl_v (r := rB (decide (((at' v 0).fKind) = 2))) (o_eq rfl rfl) rfl ?_
  refine wl_v (r := rB (decide (((at' v 0).fKind) = 2))) (o_assign rfl) rfl ?_
  refine wl_x ?_
  refine wc_cond (b := decide (((at' v 0).fKind) = 2)) rfl (fun c14 => ?_) (fun c14 => ?_)
  ·have h15 := cnd_t c14 h13
   obtain ⟨g16, h17⟩ := chk_e h15
   refine wc_rdl 6 [⟨[], rv (.pointer (some ⟨b_l, 0, none⟩)), 1⟩, ⟨[], rSl 1 (List.map eS ([([102, 97, 108, 115, 101] : Str), ([116, 114, 117, 101] : Str)] : List Str)), 0⟩, ⟨[], rv (.pointer (some ⟨b4, 1, none⟩)), 0⟩, ⟨[2], rI .i64 ((at' v 0).fInt), 1⟩, ⟨[1, 3], rAt [rS (at' ([([102, 97, 108, 115, 101] : Str), ([116, 114, 117, 101] : Str)] : List Str) ((at' v 0).fInt))], 0⟩, ⟨[4], rS (at' ([([102, 97, 108, 115, 101] : Str), ([116, 114, 117, 101] : Str)] : List Str) ((at' v 0).fInt)), 0⟩] (rle [(7, [.blk b4 (eTApiCell (at' v 0)) 63, .blk b1 [rv (.pointer (some ⟨b_l, 0, none⟩))] 71, .bld 74 5 b_l v_l l])]) [(2, rv (.pointer (some ⟨b1, 0, none⟩))), (4, rv (.pointer (some ⟨b4, 0, none⟩)))] (by kernel_rfl) rfl (by kernel_rfl) (Sub.c rfl (Sub.c rfl Sub.nil)) rfl rfl ?_ ?_
   ·refine obl_f rfl (ok_v (r := rv (.pointer (some ⟨b_l, 0, none⟩))) (o_load (i := 1) Tryz.isAgg71 rfl rfl rfl)) ?_
    refine obl_q rfl (fun H => ok_buildSlice (ys := ([([102, 97, 108, 115, 101] : Str), ([116, 114, 117, 101] : Str)] : List Str)) (enc := eS) (css := [[rS ([102, 97, 108, 115, 101] : Str)], [rS ([116, 114, 117, 101] : Str)]]) (xs := [.const (.string ⟨#[102, 97, 108, 115, 101]⟩), .const (.string ⟨#[116, 114, 117, 101]⟩)]) Tryz.underlying29 Tryz.sizeOf9 Tryz.zeroValue9 rfl rfl rfl ⟨Cel.one rfl (Up.refl _), Cel.one rfl (Up.refl _), trivial⟩ rfl eS_len rfl rfl) ?_
    refine obl_q rfl (fun H => ok_v (r := rv (.pointer (some ⟨b4, 1, none⟩))) (o_fieldAddr Tryz.underlying63 rfl Tryz.sizeOf3 rfl rfl)) ?_
    refine obl_f rfl (ok_v (r := rI .i64 ((at' v 0).fInt)) (o_load (i := 0) Tryz.isAgg3 rfl rfl rfl)) ?_
    refine obl_q rfl (fun H => ok_v (r := rAt [rS (at' ([([102, 97, 108, 115, 101] : Str), ([116, 114, 117, 101] : Str)] : List Str) ((at' v 0).fInt))]) (o_ix_z (enc := eS) (ys := ([([102, 97, 108, 115, 101] : Str), ([116, 114, 117, 101] : Str)] : List Str)) Tryz.underlying29 Tryz.sizeOf9 rfl rfl g16)) ?_
    refine obl_q rfl (fun H => ok_v (r := rS (at' ([([102, 97, 108, 115, 101] : Str), ([116, 114, 117, 101] : Str)] : List Str) ((at' v 0).fInt))) (o_load_z Tryz.isAgg9 rfl rfl)) ?_
    exact obl_e
   refine wl_as (l' := [(32, rv (.pointer (some ⟨b_l, 0, none⟩))), (33, rSl 1 (List.map eS ([([102, 97, 108, 115, 101] : Str), ([116, 114, 117, 101] : Str)] : List Str))), (34, rv (.pointer (some ⟨b4, 1, none⟩))), (35, rI .i64 ((at' v 0).fInt)), (36, rAt [rS (at' ([([102, 97, 108, 115, 101] : Str), ([116, 114, 117, 101] : Str)] : List Str) ((at' v 0).fInt))]), (37, rS (at' ([([102, 97, 108, 115, 101] : Str), ([116, 114, 117, 101] : Str)] : List Str) ((at' v 0).fInt))), (2, rv (.pointer (some ⟨b1, 0, none⟩))), (4, rv (.pointer (some ⟨b4, 0, none⟩)))]) (H' := [.blk b4 (eTApiCell (at' v 0)) 63, .blk b1 [rv (.pointer (some ⟨b_l, 0, none⟩))] 71, .bld 74 5 b_l v_l l]) rfl rfl ?_
   obtain ⟨g18, h19⟩ := chk_e h17
   refine w_call (rs := [rv (.pointer (some ⟨b_l, 0, none⟩)), rS (at' ([([102, 97, 108, 115, 101] : Str), ([116, 114, 117, 101] : Str)] : List Str) ((at' v 0).fInt))]) (Hin := [.bld 74 5 b_l v_l l]) (Hr := [.blk b4 (eTApiCell (at' v 0)) 63, .blk b1 [rv (.pointer (some ⟨b_l, 0, none⟩))] 71]) Tryz.call84 rfl ((perm_front (i := 2) rfl).trans (List.Perm.cons _ (List.Perm.refl _))) (writeString_q b_l v_l l (at' ([([102, 97, 108, 115, 101] : Str), ([116, 114, 117, 101] : Str)] : List Str) ((at' v 0).fInt)) g18) rfl ?_
   rintro _ _ ⟨v20, rfl, rfl⟩
   obtain ⟨r21, e23, h22⟩ := bnd_e h19
   rw [← e23]
   refine wl_nil ?_
   refine wk_in_norm ?_
   obtain rfl := some_e h22
   exact wk_end (r_0 Tryz.results61) (List.Sublist.cons_cons _ (List.Sublist.cons _ (List.Sublist.cons _ List.Sublist.slnil))) ⟨v20, rfl, rfl⟩
  ·have h24 := cnd_f c14 h13
   refine wc_sr ?_
   refine wl_v (r := rB (decide (((at' v 0).fKind) = 3))) (o_eq rfl rfl) rfl ?_
   refine wl_v (r := rB (decide (((at' v 0).fKind) = 3))) (o_assign rfl) rfl ?_
   refine wl_x ?_
   refine wc_cond (b := decide (((at' v 0).fKind) = 3)) rfl (fun c25 => ?_) (fun c25 => ?_)
   ·have h26 := cnd_t c25 h24
    obtain ⟨g27, h28⟩ := chk_e h26
    refine wc_rdl 4 [⟨[], rv (.pointer (some ⟨b_l, 0, none⟩)), 1⟩, ⟨[], rv (.pointer (some ⟨b4, 1, none⟩)), 0⟩, ⟨[1], rI .i64 ((at' v 0).fInt), 1⟩, ⟨[2], rS (Lib.itoa ((at' v 0).fInt)), 0⟩] (rle [(5, [.blk b4 (eTApiCell (at' v 0)) 63, .blk b1 [rv (.pointer (some ⟨b_l, 0, none⟩))] 71, .bld 74 5 b_l v_l l])]) [(2, rv (.pointer (some ⟨b1, 0, none⟩))), (4, rv (.pointer (some ⟨b4, 0, none⟩)))] (by kernel_rfl) rfl (by kernel_rfl) (Sub.c rfl (Sub.c rfl Sub.nil)) rfl rfl ?_ ?_
    ·refine obl_f rfl (ok_v (r := rv (.pointer (some ⟨b_l, 0, none⟩))) (o_load (i := 1) Tryz.isAgg71 rfl rfl rfl)) ?_
     refine obl_q rfl (fun H => ok_v (r := rv (.pointer (some ⟨b4, 1, none⟩))) (o_fieldAddr Tryz.underlying63 rfl Tryz.sizeOf3 rfl rfl)) ?_
     refine obl_f rfl (ok_v (r := rI .i64 ((at' v 0).fInt)) (o_load (i := 0) Tryz.isAgg3 rfl rfl rfl)) ?_
     refine obl_q rfl (fun H => ok_call0 (rs := [rI .i64 ((at' v 0).fInt)]) (r := rS (Lib.itoa ((at' v 0).fInt))) Tryz.call85 rfl (format_q ((at' v 0).fInt) g27) rfl) ?_
     exact obl_e
    refine wl_as (l' := [(41, rv (.pointer (some ⟨b_l, 0, none⟩))), (42, rv (.pointer (some ⟨b4, 1, none⟩))), (43, rI .i64 ((at' v 0).fInt)), (44, rS (Lib.itoa ((at' v 0).fInt))), (2, rv (.pointer (some ⟨b1, 0, none⟩))), (4, rv (.pointer (some ⟨b4, 0, none⟩)))]) (H' := [.blk b4 (eTApiCell (at' v 0)) 63, .blk b1 [rv (.pointer (some ⟨b_l, 0, none⟩))] 71, .bld 74 5 b_l v_l l]) rfl rfl ?_
    obtain ⟨g29, h30⟩ := chk_e h28
    refine w_call (rs := [rv (.pointer (some ⟨b_l, 0, none⟩)), rS (Lib.itoa ((at' v 0).fInt))]) (Hin := [.bld 74 5 b_l v_l l]) (Hr := [.blk b4 (eTApiCell (at' v 0)) 63, .blk b1 [rv (.pointer (some ⟨b_l, 0, none⟩))] 71]) Tryz.call84 rfl ((perm_front (i := 2) rfl).trans (List.Perm.cons _ (List.Perm.refl _))) (writeString_q b_l v_l l (Lib.itoa ((at' v 0).fInt)) g29) rfl ?_
    rintro _ _ ⟨v31, rfl, rfl⟩
    obtain ⟨r32, e34, h33⟩ := bnd_e h30
    rw [← e34]
    refine wl_nil ?_
    refine wk_in_norm ?_
    obtain rfl := some_e h33
    exact wk_end (r_0 Tryz.results61) (List.Sublist.cons_cons _ (List.Sublist.cons _ (List.Sublist.cons _ List.Sublist.slnil))) ⟨v31, rfl, rfl⟩
   ·have h35 := cnd_f c25 h24
    refine wc_sr ?_
    refine wl_v (r := rB (decide (((at' v 0).fKind) = 4))) (o_eq rfl rfl) rfl ?_
    refine wl_v (r := rB (decide (((at' v 0).fKind) = 4))) (o_assign rfl) rfl ?_
    refine wl_x ?_
    refine wc_cond (b := decide (((at' v 0).fKind) = 4)) rfl (fun c36 => ?_) (fun c36 => ?_)
    ·have h37 := cnd_t c36 h35
     refine wc_region ?_
     refine wl_v (r := rv (.pointer (some ⟨b_l, 0, none⟩))) (o_load (i := 1) Tryz.isAgg71 rfl rfl rfl) rfl ?_
     refine wl_v (r := rv (.pointer (some ⟨b4, 2, none⟩))) (o_fieldAddr Tryz.underlying63 rfl Tryz.sizeOf9 rfl rfl) rfl ?_
     refine wl_v (r := rS ((at' v 0).fStr)) (o_load (i := 0) Tryz.isAgg9 rfl rfl rfl) rfl ?_
     obtain ⟨r38, e40, h39⟩ := obn_e h37
     refine w_call (rs := [rv (.pointer (some ⟨b_l, 0, none⟩)), rS ((at' v 0).fStr)]) (Hin := [.bld 74 5 b_l v_l l]) (Hr := [.blk b4 (eTApiCell (at' v 0)) 63, .blk b1 [rv (.pointer (some ⟨b_l, 0, none⟩))] 71]) Tryz.call86 rfl ((perm_front (i := 2) rfl).trans (List.Perm.cons _ (List.Perm.refl _))) (vQuote_w F b_l v_l l ((at' v 0).fStr) r38 e40) rfl ?_
     rintro _ _ ⟨v41, rfl, rfl⟩
     refine wl_nil ?_
     refine wk_in_norm ?_
     obtain rfl := some_e h39
     exact wk_end (r_0 Tryz.results61) (List.Sublist.cons_cons _ (List.Sublist.cons _ (List.Sublist.cons _ List.Sublist.slnil))) ⟨v41, rfl, rfl⟩
    ·have h42 := cnd_f c36 h35
     refine wc_sr ?_
     refine wl_v (r := rS ([91, 93] : Str)) (o_assign rfl) rfl ?_
     refine wl_x ?_
     refine wc_seq ?_
     refine wc_sr ?_
     refine wl_v (r := rv (.pointer (some ⟨b4, 0, none⟩))) (o_fieldAddr Tryz.underlying63 rfl Tryz.sizeOf61 rfl rfl) rfl ?_
     refine wl_v (r := rI .i64 ((at' v 0).fKind)) (o_load (i := 0) Tryz.isAgg61 rfl rfl rfl) rfl ?_
     refine wl_v (r := rB (decide (((at' v 0).fKind) = 6))) (o_eq rfl rfl) rfl ?_
     refine wl_x ?_
     refine wc_cond (b := decide (((at' v 0).fKind) = 6)) rfl (fun c43 => ?_) (fun c43 => ?_)
     ·have h44 := cnd_t c43 h42
      refine wc_region ?_
      refine wl_v (r := rS ([123, 125] : Str)) (o_assign rfl) rfl ?_
      refine wl_x ?_
      refine wc_seq ?_
      obtain ⟨g45, h46⟩ := chk_e h44
      refine wc_rdl 3 [⟨[], rv (.pointer (some ⟨b_l, 0, none⟩)), 1⟩, ⟨[], rS ([123, 125] : Str), 0⟩, ⟨[1], rI .u8 (bat ([123, 125] : Str) 0), 0⟩] (rle [(4, [.blk b4 (eTApiCell (at' v 0)) 63, .blk b1 [rv (.pointer (some ⟨b_l, 0, none⟩))] 71, .bld 74 5 b_l v_l l])]) [(1, rSl 4 (List.map eTApiCell v)), (2, rv (.pointer (some ⟨b1, 0, none⟩))), (4, rv (.pointer (some ⟨b4, 0, none⟩))), (5, rS ([123, 125] : Str))] (by kernel_rfl) rfl (by kernel_rfl) (Sub.c rfl (Sub.c rfl (Sub.c rfl (Sub.c rfl Sub.nil)))) rfl rfl ?_ ?_
      ·refine obl_f rfl (ok_v (r := rv (.pointer (some ⟨b_l, 0, none⟩))) (o_load (i := 1) Tryz.isAgg71 rfl rfl rfl)) ?_
       refine obl_q rfl (fun H => ok_v (r := rS ([123, 125] : Str)) (o_move rfl)) ?_
       refine obl_q rfl (fun H => ok_v (r := rI .u8 (bat ([123, 125] : Str) 0)) (o_index_b Tryz.underlying9 rfl rfl g45)) ?_
       exact obl_e
      refine wl_as (l' := [(15, rv (.pointer (some ⟨b_l, 0, none⟩))), (16, rS ([123, 125] : Str)), (17, rI .u8 (bat ([123, 125] : Str) 0)), (1, rSl 4 (List.map eTApiCell v)), (2, rv (.pointer (some ⟨b1, 0, none⟩))), (4, rv (.pointer (some ⟨b4, 0, none⟩))), (5, rS ([123, 125] : Str))]) (H' := [.blk b4 (eTApiCell (at' v 0)) 63, .blk b1 [rv (.pointer (some ⟨b_l, 0, none⟩))] 71, .bld 74 5 b_l v_l l]) rfl rfl ?_
      obtain ⟨g47, h48⟩ := chk_e h46
      obtain ⟨g49, h50⟩ := chk_e h48
      refine w_call (rs := [rv (.pointer (some ⟨b_l, 0, none⟩)), rI .u8 (bat ([123, 125] : Str) 0)]) (Hin := [.bld 74 5 b_l v_l l]) (Hr := [.blk b4 (eTApiCell (at' v 0)) 63, .blk b1 [rv (.pointer (some ⟨b_l, 0, none⟩))] 71]) Tryz.call87 rfl ((perm_front (i := 2) rfl).trans (List.Perm.cons _ (List.Perm.refl _))) (writeByte_q b_l v_l l (bat ([123, 125] : Str) 0) g47 g49) rfl ?_
      rintro _ _ ⟨v51, rfl, rfl⟩
      obtain ⟨r52, e54, h53⟩ := bnd_e h50
      rw [← e54]
      refine wl_y ?_
      refine w_alloc (cs := [rB false]) Tryz.zeroValue4 rfl rfl (fun b55 => ?_)
      refine u_store (i := 0) Tryz.sizeOf4 rfl rfl (one_c rfl) rfl rfl (cs' := [rB true]) rfl (H' := [.blk b55 [rB true] 4, .bld 74 5 b_l v51 r52, .blk b4 (eTApiCell (at' v 0)) 63, .blk b1 [rv (.pointer (some ⟨b_l, 0, none⟩))] 71]) rfl ?_
      refine wl_y ?_
      refine wl_v (r := rSl 4 (List.map eTApiCell v)) (o_move rfl) rfl ?_
      refine wl_v (r := rv (.func (.func 88) #[] #[(.pointer (some ⟨b55, 0, none⟩)), (.pointer (some ⟨b1, 0, none⟩)), (.pointer (some ⟨b4, 0, none⟩))])) (o_makeFunc rfl) rfl ?_
      obtain ⟨r56, e58, h57⟩ := obn_e h53
      refine w_call (rs := [rSl 4 (List.map eTApiCell v), rv (.func (.func 88) #[] #[(.pointer (some ⟨b55, 0, none⟩)), (.pointer (some ⟨b1, 0, none⟩)), (.pointer (some ⟨b4, 0, none⟩))])]) (Hin := [.blk b55 [rB true] 4, .blk b1 [rv (.pointer (some ⟨b_l, 0, none⟩))] 71, .bld 74 5 b_l v51 r52, .blk b4 (eTApiCell (at' v 0)) 63]) (Hr := []) Tryz.call52 rfl ((perm_front (i := 0) rfl).trans (List.Perm.cons _ ((perm_front (i := 2) rfl).trans (List.Perm.cons _ (List.Perm.refl _))))) (ih_vWriteP b55 b1 b_l v51 b4 v true r52 (at' v 0) r56 e58) rfl ?_
      rintro _ _ ⟨v59, rfl, rfl⟩
      refine wl_x ?_
      obtain ⟨g60, h61⟩ := chk_e h57
      refine wc_rdl 3 [⟨[], rv (.pointer (some ⟨b_l, 0, none⟩)), 1⟩, ⟨[], rS ([123, 125] : Str), 0⟩, ⟨[1], rI .u8 (bat ([123, 125] : Str) 1), 0⟩] (rle [(4, [.blk b55 [rB r56.1] 4, .blk b1 [rv (.pointer (some ⟨b_l, 0, none⟩))] 71, .bld 74 5 b_l v59 r56.2, .blk b4 (eTApiCell (at' v 0)) 63])]) [(2, rv (.pointer (some ⟨b1, 0, none⟩))), (5, rS ([123, 125] : Str))] (by kernel_rfl) rfl (by kernel_rfl) (Sub.c rfl (Sub.c rfl Sub.nil)) rfl rfl ?_ ?_
      ·refine obl_f rfl (ok_v (r := rv (.pointer (some ⟨b_l, 0, none⟩))) (o_load (i := 1) Tryz.isAgg71 rfl rfl rfl)) ?_
       refine obl_q rfl (fun H => ok_v (r := rS ([123, 125] : Str)) (o_move rfl)) ?_
       refine obl_q rfl (fun H => ok_v (r := rI .u8 (bat ([123, 125] : Str) 1)) (o_index_b Tryz.underlying9 rfl rfl g60)) ?_
       exact obl_e
      refine wl_as (l' := [(22, rv (.pointer (some ⟨b_l, 0, none⟩))), (23, rS ([123, 125] : Str)), (24, rI .u8 (bat ([123, 125] : Str) 1)), (2, rv (.pointer (some ⟨b1, 0, none⟩))), (5, rS ([123, 125] : Str))]) (H' := [.blk b55 [rB r56.1] 4, .blk b1 [rv (.pointer (some ⟨b_l, 0, none⟩))] 71, .bld 74 5 b_l v59 r56.2, .blk b4 (eTApiCell (at' v 0)) 63]) rfl rfl ?_
      obtain ⟨g62, h63⟩ := chk_e h61
      obtain ⟨g64, h65⟩ := chk_e h63
      refine w_call (rs := [rv (.pointer (some ⟨b_l, 0, none⟩)), rI .u8 (bat ([123, 125] : Str) 1)]) (Hin := [.bld 74 5 b_l v59 r56.2]) (Hr := [.blk b55 [rB r56.1] 4, .blk b1 [rv (.pointer (some ⟨b_l, 0, none⟩))] 71, .blk b4 (eTApiCell (at' v 0)) 63]) Tryz.call87 rfl ((perm_front (i := 2) rfl).trans (List.Perm.cons _ (List.Perm.refl _))) (writeByte_q b_l v59 r56.2 (bat ([123, 125] : Str) 1) g62 g64) rfl ?_
      rintro _ _ ⟨v66, rfl, rfl⟩
      obtain ⟨r67, e69, h68⟩ := bnd_e h65
      rw [← e69]
      refine wl_nil ?_
      refine wk_in_norm ?_
      obtain rfl := some_e h68
      exact wk_end (r_0 Tryz.results61) (List.Sublist.cons_cons _ (List.Sublist.cons _ (List.Sublist.cons _ (List.Sublist.cons _ List.Sublist.slnil)))) ⟨v66, rfl, rfl⟩
     ·have h70 := cnd_f c43 h42
      refine wc_skip ?_
      refine wk_x ?_
      refine wc_seq ?_
      obtain ⟨g71, h72⟩ := chk_e h70
      refine wc_rdl 3 [⟨[], rv (.pointer (some ⟨b_l, 0, none⟩)), 1⟩, ⟨[], rS ([91, 93] : Str), 0⟩, ⟨[1], rI .u8 (bat ([91, 93] : Str) 0), 0⟩] (rle [(4, [.blk b4 (eTApiCell (at' v 0)) 63, .blk b1 [rv (.pointer (some ⟨b_l, 0, none⟩))] 71, .bld 74 5 b_l v_l l])]) [(1, rSl 4 (List.map eTApiCell v)), (2, rv (.pointer (some ⟨b1, 0, none⟩))), (4, rv (.pointer (some ⟨b4, 0, none⟩))), (5, rS ([91, 93] : Str))] (by kernel_rfl) rfl (by kernel_rfl) (Sub.c rfl (Sub.c rfl (Sub.c rfl (Sub.c rfl Sub.nil)))) rfl rfl ?_ ?_
      ·refine obl_f rfl (ok_v (r := rv (.pointer (some ⟨b_l, 0, none⟩))) (o_load (i := 1) Tryz.isAgg71 rfl rfl rfl)) ?_
       refine obl_q rfl (fun H => ok_v (r := rS ([91, 93] : Str)) (o_move rfl)) ?_
       refine obl_q rfl (fun H => ok_v (r := rI .u8 (bat ([91, 93] : Str) 0)) (o_index_b Tryz.underlying9 rfl rfl g71)) ?_
       exact obl_e
      refine wl_as (l' := [(15, rv (.pointer (some ⟨b_l, 0, none⟩))), (16, rS ([91, 93] : Str)), (17, rI .u8 (bat ([91, 93] : Str) 0)), (1, rSl 4 (List.map eTApiCell v)), (2, rv (.pointer (some ⟨b1, 0, none⟩))), (4, rv (.pointer (some ⟨b4, 0, none⟩))), (5, rS ([91, 93] : Str))]) (H' := [.blk b4 (eTApiCell (at' v 0)) 63, .blk b1 [rv (.pointer (some ⟨b_l, 0, none⟩))] 71, .bld 74 5 b_l v_l l]) rfl rfl ?_
      obtain ⟨g73, h74⟩ := chk_e h72
      obtain ⟨g75, h76⟩ := chk_e h74
      refine w_call (rs := [rv (.pointer (some ⟨b_l, 0, none⟩)), rI .u8 (bat ([91, 93] : Str) 0)]) (Hin := [.bld 74 5 b_l v_l l]) (Hr := [.blk b4 (eTApiCell (at' v 0)) 63, .blk b1 [rv (.pointer (some ⟨b_l, 0, none⟩))] 71]) Tryz.call87 rfl ((perm_front (i := 2) rfl).trans (List.Perm.cons _ (List.Perm.refl _))) (writeByte_q b_l v_l l (bat ([91, 93] : Str) 0) g73 g75) rfl ?_
      rintro _ _ ⟨v77, rfl, rfl⟩
      obtain ⟨r78, e80, h79⟩ := bnd_e h76
      rw [← e80]
      refine wl_y ?_
      refine w_alloc (cs := [rB false]) Tryz.zeroValue4 rfl rfl (fun b81 => ?_)
      refine u_store (i := 0) Tryz.sizeOf4 rfl rfl (one_c rfl) rfl rfl (cs' := [rB true]) rfl (H' := [.blk b81 [rB true] 4, .bld 74 5 b_l v77 r78, .blk b4 (eTApiCell (at' v 0)) 63, .blk b1 [rv (.pointer (some ⟨b_l, 0, none⟩))] 71]) rfl ?_
      refine wl_y ?_
      refine wl_v (r := rSl 4 (List.map eTApiCell v)) (o_move rfl) rfl ?_
      refine wl_v (r := rv (.func (.func 88) #[] #[(.pointer (some ⟨b81, 0, none⟩)), (.pointer (some ⟨b1, 0, none⟩)), (.pointer (some ⟨b4, 0, none⟩))])) (o_makeFunc rfl) rfl ?_
      obtain ⟨r82, e84, h83⟩ := obn_e h79
      refine w_call (rs := [rSl 4 (List.map eTApiCell v), rv (.func (.func 88) #[] #[(.pointer (some ⟨b81, 0, none⟩)), (.pointer (some ⟨b1, 0, none⟩)), (.pointer (some ⟨b4, 0, none⟩))])]) (Hin := [.blk b81 [rB true] 4, .blk b1 [rv (.pointer (some ⟨b_l, 0, none⟩))] 71, .bld 74 5 b_l v77 r78, .blk b4 (eTApiCell (at' v 0)) 63]) (Hr := []) Tryz.call52 rfl ((perm_front (i := 0) rfl).trans (List.Perm.cons _ ((perm_front (i := 2) rfl).trans (List.Perm.cons _ (List.Perm.refl _))))) (ih_vWriteP b81 b1 b_l v77 b4 v true r78 (at' v 0) r82 e84) rfl ?_
      rintro _ _ ⟨v85, rfl, rfl⟩
      refine wl_x ?_
      obtain ⟨g86, h87⟩ := chk_e h83
      refine wc_rdl 3 [⟨[], rv (.pointer (some ⟨b_l, 0, none⟩)), 1⟩, ⟨[], rS ([91, 93] : Str), 0⟩, ⟨[1], rI .u8 (bat ([91, 93] : Str) 1), 0⟩] (rle [(4, [.blk b81 [rB r82.1] 4, .blk b1 [rv (.pointer (some ⟨b_l, 0, none⟩))] 71, .bld 74 5 b_l v85 r82.2, .blk b4 (eTApiCell (at' v 0)) 63])]) [(2, rv (.pointer (some ⟨b1, 0, none⟩))), (5, rS ([91, 93] : Str))] (by kernel_rfl) rfl (by kernel_rfl) (Sub.c rfl (Sub.c rfl Sub.nil)) rfl rfl ?_ ?_
      ·refine obl_f rfl (ok_v (r := rv (.pointer (some ⟨b_l, 0, none⟩))) (o_load (i := 1) Tryz.isAgg71 rfl rfl rfl)) ?_
       refine obl_q rfl (fun H => ok_v (r := rS ([91, 93] : Str)) (o_move rfl)) ?_
       refine obl_q rfl (fun H => ok_v (r := rI .u8 (bat ([91, 93] : Str) 1)) (o_index_b Tryz.underlying9 rfl rfl g86)) ?_
       exact obl_e
      refine wl_as (l' := [(22, rv (.pointer (some ⟨b_l, 0, none⟩))), (23, rS ([91, 93] : Str)), (24, rI .u8 (bat ([91, 93] : Str) 1)), (2, rv (.pointer (some ⟨b1, 0, none⟩))), (5, rS ([91, 93] : Str))]) (H' := [.blk b81 [rB r82.1] 4, .blk b1 [rv (.pointer (some ⟨b_l, 0, none⟩))] 71, .bld 74 5 b_l v85 r82.2, .blk b4 (eTApiCell (at' v 0)) 63]) rfl rfl ?_
      obtain ⟨g88, h89⟩ := chk_e h87
      obtain ⟨g90, h91⟩ := chk_e h89
      refine w_call (rs := [rv (.pointer (some ⟨b_l, 0, none⟩)), rI .u8 (bat ([91, 93] : Str) 1)]) (Hin := [.bld 74 5 b_l v85 r82.2]) (Hr := [.blk b81 [rB r82.1] 4, .blk b1 [rv (.pointer (some ⟨b_l, 0, none⟩))] 71, .blk b4 (eTApiCell (at' v 0)) 63]) Tryz.call87 rfl ((perm_front (i := 2) rfl).trans (List.Perm.cons _ (List.Perm.refl _))) (writeByte_q b_l v85 r82.2 (bat ([91, 93] : Str) 1) g88 g90) rfl ?_
      rintro _ _ ⟨v92, rfl, rfl⟩
      obtain ⟨r93, e95, h94⟩ := bnd_e h91
      rw [← e95]
      refine wl_nil ?_
      refine wk_in_norm ?_
      obtain rfl := some_e h94
      exact wk_end (r_0 Tryz.results61) (List.Sublist.cons_cons _ (List.Sublist.cons _ (List.Sublist.cons _ (List.Sublist.cons _ List.Sublist.slnil)))) ⟨v92, rfl, rfl⟩

theorem vWriteFm_w (F : Nat) (rec_vWrite : Str → (List TApiCell) → Option (Str)) (ih_vWrite : (∀ (b_l : Nat) (v_l : Value) (l : Str) (v : (List TApiCell)) (r : Str), rec_vWrite l v = some r → Fn Tryz.prog GE 61 [rv (.pointer (some ⟨b_l, 0, none⟩)), rSl 4 (List.map eTApiCell v)] [.bld 74 5 b_l v_l l] (fun R H => ∃ w0b : Value, R = rv (.tuple #[]) ∧ H = [.bld 74 5 b_l w0b r]))) (b_first : Nat) (bx_l : Nat) (b_l : Nat) (v_l : Value) (b_c : Nat) (key : Str) (x : (List TApiCell)) (first : Bool) (l : Str) (c : TApiCell) (r : Bool × Bool × Str) (h : vWriteFm F rec_vWrite key x first l c = some r) : Fn Tryz.prog GE 88 [rS key, rSl 4 (List.map eTApiCell x), rv (.pointer (some ⟨b_first, 0, none⟩)), rv (.pointer (some ⟨bx_l, 0, none⟩)), rv (.pointer (some ⟨b_c, 0, none⟩))] [.blk b_first [rB first] 4, .blk bx_l [rv (.pointer (some ⟨b_l, 0, none⟩))] 71, .bld 74 5 b_l v_l l, .blk b_c (eTApiCell c) 63] (fun R H => ∃ w3b : Value, R = rB r.1 ∧ H = [.blk b_first [rB r.2.1] 4, .blk bx_l [rv (.pointer (some ⟨b_l, 0, none⟩))] 71, .bld 74 5 b_l w3b r.2.2, .blk b_c (eTApiCell c) 63]) := by
 refine enter (n := 23) Tryz.func88 rfl Tryz.ntmps88 rfl (fun w Z => ?_)
 refine wc_as (l' := [(0, rS key), (1, rSl 4 (List.map eTApiCell x)), (2, rv (.pointer (some ⟨b_first, 0, none⟩))), (3, rv (.pointer (some ⟨bx_l, 0, none⟩))), (4, rv (.pointer (some ⟨b_c, 0, none⟩)))]) (H' := [.blk b_first [rB first] 4, .blk bx_l [rv (.pointer (some ⟨b_l, 0, none⟩))] 71, .bld 74 5 b_l v_l l, .blk b_c (eTApiCell c) 63]) rfl rfl ?_
 unfold vWriteFm at h
 refine wc_sr ?_
 refine wl_v (r := rB false) (o_assign rfl) rfl ?_
 refine wl_x ?_
 refine wc_seq ?_
 refine wc_sr ?_
 refine wl_v (r := rB first) (o_load (i := 0) Tryz.isAgg4 rfl rfl rfl) rfl ?_
 refine wl_v (r := rB (!first)) (o_not rfl) rfl ?_
 refine wl_x ?_
 refine wc_cond (b := !first) rfl (fun c1 => ?_) (fun c1 => ?_)
 ·have h2 := cnd_t c1 h
  refine wc_region ?_
  refine wl_v (r := rv (.pointer (some ⟨b_l, 0, none⟩))) (o_load (i := 1) Tryz.isAgg71 rfl rfl rfl) rfl ?_
  obtain ⟨g3, h4⟩ := chk_e h2
  obtain ⟨g5, h6⟩ := chk_e h4
  refine w_call (rs := [rv (.pointer (some ⟨b_l, 0, none⟩)), rI .u8 44]) (Hin := [.bld 74 5 b_l v_l l]) (Hr := [.blk b_first [rB first] 4, .blk bx_l [rv (.pointer (some ⟨b_l, 0, none⟩))] 71, .blk b_c (eTApiCell c) 63]) Tryz.call87 rfl ((perm_front (i := 2) rfl).trans (List.Perm.cons _ (List.Perm.refl _))) (writeByte_q b_l v_l l 44 g3 g5) rfl ?_
  rintro _ _ ⟨v7, rfl, rfl⟩
  obtain ⟨r8, e10, h9⟩ := bnd_e h6
  rw [← e10]
  refine wl_y ?_
  refine u_store (i := 1) Tryz.sizeOf4 rfl rfl (one_c rfl) rfl rfl (cs' := [rB false]) rfl (H' := [.bld 74 5 b_l v7 r8, .blk b_first [rB false] 4, .blk bx_l [rv (.pointer (some ⟨b_l, 0, none⟩))] 71, .blk b_c (eTApiCell c) 63]) rfl ?_
  refine wl_x ?_
  refine wc_seq ?_
  refine wc_sr ?_
  refine wl_v (r := rv (.pointer (some ⟨b_c, 0, none⟩))) (o_fieldAddr Tryz.underlying63 rfl Tryz.sizeOf61 rfl rfl) rfl ?_
  refine wl_v (r := rI .i64 c.fKind) (o_load (i := 3) Tryz.isAgg61 rfl rfl rfl) rfl ?_
  refine wl_v (r := rB (decide (c.fKind = 6))) (o_eq rfl rfl) rfl ?_
  refine wl_x ?_
  refine wc_cond (b := decide (c.fKind = 6)) rfl (fun c11 => ?_) (fun c11 => ?_)
  ·have h12 := cnd_t c11 h9
   refine wc_sr ?_
   refine wl_v (r := rv (.pointer (some ⟨b_l, 0, none⟩))) (o_load (i := 2) Tryz.isAgg71 rfl rfl rfl) rfl ?_
   refine wl_v (r := rS key) (o_move rfl) rfl ?_
   obtain ⟨r13, e15, h14⟩ := obn_e h12
   refine w_call (rs := [rv (.pointer (some ⟨b_l, 0, none⟩)), rS key]) (Hin := [.bld 74 5 b_l v7 r8]) (Hr := [.blk b_first [rB false] 4, .blk bx_l [rv (.pointer (some ⟨b_l, 0, none⟩))] 71, .blk b_c (eTApiCell c) 63]) Tryz.call86 rfl (List.Perm.refl _) (vQuote_w F b_l v7 r8 key r13 e15) rfl ?_
   rintro _ _ ⟨v16, rfl, rfl⟩
   refine wl_x ?_
   refine wc_region ?_
   refine wl_v (r := rv (.pointer (some ⟨b_l, 0, none⟩))) (o_load (i := 2) Tryz.isAgg71 rfl rfl rfl) rfl ?_
   obtain ⟨g17, h18⟩ := chk_e h14
   obtain ⟨g19, h20⟩ := chk_e h18
   refine w_call (rs := [rv (.pointer (some ⟨b_l, 0, none⟩)), rI .u8 58]) (Hin := [.bld 74 5 b_l v16 r13]) (Hr := [.blk b_first [rB false] 4, .blk bx_l [rv (.pointer (some ⟨b_l, 0, none⟩))] 71, .blk b_c (eTApiCell c) 63]) Tryz.call87 rfl (List.Perm.refl _) (writeByte_q b_l v16 r13 58 g17 g19) rfl ?_
   rintro _ _ ⟨v21, rfl, rfl⟩
   obtain ⟨r22, e24, h23⟩ := bnd_e h20
   rw [← e24]
   refine wl_y ?_
   refine wl_v (r := rv (.pointer (some ⟨b_l, 0, none⟩))) (o_load (i := 2) Tryz.isAgg71 rfl rfl rfl) rfl ?_
   refine wl_v (r := rSl 4 (List.map eTApiCell x)) (o_move rfl) rfl ?_
   obtain ⟨r25, e27, h26⟩ := obn_e h23
   refine w_call (rs := [rv (.pointer (some ⟨b_l, 0, none⟩)), rSl 4 (List.map eTApiCell x)]) (Hin := [.bld 74 5 b_l v21 r22]) (Hr := [.blk b_first [rB false] 4, .blk bx_l [rv (.pointer (some ⟨b_l, 0, none⟩))] 71, .blk b_c (eTApiCell c) 63]) Tryz.call61 rfl (List.Perm.refl _) (ih_vWrite b_l v21 r22 x r25 e27) rfl ?_
   rintro _ _ ⟨v28, rfl, rfl⟩
   refine wl_y ?_
   refine wl_v (r := rB true) (o_assign rfl) rfl ?_
   refine wl_x ?_
   refine wc_ret ?_
   refine wk_perm (H2 := [.blk b_first [rB false] 4, .blk bx_l [rv (.pointer (some ⟨b_l, 0, none⟩))] 71, .bld 74 5 b_l v28 r25, .blk b_c (eTApiCell c) 63]) ((perm_front (i := 1) rfl).trans (List.Perm.cons _ ((perm_front (i := 1) rfl).trans (List.Perm.cons _ (List.Perm.refl _))))) ?_
   obtain rfl := some_e h26
   exact wk_ret (r_1 Tryz.results88 (rv_t rfl)) (List.Sublist.cons_cons _ (List.Sublist.cons_cons _ (List.Sublist.cons_cons _ (List.Sublist.cons_cons _ List.Sublist.slnil)))) ⟨v28, rfl, rfl⟩
  ·have h29 := cnd_f c11 h9
   refine wc_skip ?_
   refine wk_x ?_
   refine wc_sr ?_
   refine wl_v (r := rv (.pointer (some ⟨b_l, 0, none⟩))) (o_load (i := 2) Tryz.isAgg71 rfl rfl rfl) rfl ?_
   refine wl_v (r := rSl 4 (List.map eTApiCell x)) (o_move rfl) rfl ?_
   obtain ⟨r30, e32, h31⟩ := obn_e h29
   refine w_call (rs := [rv (.pointer (some ⟨b_l, 0, none⟩)), rSl 4 (List.map eTApiCell x)]) (Hin := [.bld 74 5 b_l v7 r8]) (Hr := [.blk b_first [rB false] 4, .blk bx_l [rv (.pointer (some ⟨b_l, 0, none⟩))] 71, .blk b_c (eTApiCell c) 63]) Tryz.call61 rfl (List.Perm.refl _) (ih_vWrite b_l v7 r8 x r30 e32) rfl ?_
   rintro _ _ ⟨v33, rfl, rfl⟩
   refine wl_y ?_
   refine wl_v (r := rB true) (o_assign rfl) rfl ?_
   refine wl_x ?_
   refine wc_ret ?_
   refine wk_perm (H2 := [.blk b_first [rB false] 4, .blk bx_l [rv (.pointer (some ⟨b_l, 0, none⟩))] 71, .bld 74 5 b_l v33 r30, .blk b_c (eTApiCell c) 63]) ((perm_front (i := 1) rfl).trans (List.Perm.cons _ ((perm_front (i := 1) rfl).trans (List.Perm.cons _ (List.Perm.refl _))))) ?_
   obtain rfl := some_e h31
   exact wk_ret (r_1 Tryz.results88 (rv_t rfl)) (List.Sublist.cons_cons _ (List.Sublist.cons_cons _ (List.Sublist.cons_cons _ (List.Sublist.cons_cons _ List.Sublist.slnil)))) ⟨v33, rfl, rfl⟩
 ·have h34 := cnd_f c1 h
  refine wc_skip ?_
  refine wk_x ?_
  refine wc_sr ?_
  refine u_store (i := 0) Tryz.sizeOf4 rfl rfl (one_c rfl) rfl rfl (cs' := [rB false]) rfl (H' := [.blk b_first [rB false] 4, .blk bx_l [rv (.pointer (some ⟨b_l, 0, none⟩))] 71, .bld 74 5 b_l v_l l, .blk b_c (eTApiCell c) 63]) rfl ?_
  refine wl_x ?_
  refine wc_seq ?_
  refine wc_sr ?_
  refine wl_v (r := rv (.pointer (some ⟨b_c, 0, none⟩))) (o_fieldAddr Tryz.underlying63 rfl Tryz.sizeOf61 rfl rfl) rfl ?_
  refine wl_v (r := rI .i64 c.fKind) (o_load (i := 3) Tryz.isAgg61 rfl rfl rfl) rfl ?_
  refine wl_v (r := rB (decide (c.fKind = 6))) (o_eq rfl rfl) rfl ?_
  refine wl_x ?_
  refine wc_cond (b := decide (c.fKind = 6)) rfl (fun c35 => ?_) (fun c35 => ?_)
  ·have h36 := cnd_t c35 h34
   refine wc_sr ?_
   refine wl_v (r := rv (.pointer (some ⟨b_l, 0, none⟩))) (o_load (i := 1) Tryz.isAgg71 rfl rfl rfl) rfl ?_
   refine wl_v (r := rS key) (o_move rfl) rfl ?_
   obtain ⟨r37, e39, h38⟩ := obn_e h36
   refine w_call (rs := [rv (.pointer (some ⟨b_l, 0, none⟩)), rS key]) (Hin := [.bld 74 5 b_l v_l l]) (Hr := [.blk b_first [rB false] 4, .blk bx_l [rv (.pointer (some ⟨b_l, 0, none⟩))] 71, .blk b_c (eTApiCell c) 63]) Tryz.call86 rfl ((perm_front (i := 2) rfl).trans (List.Perm.cons _ (List.Perm.refl _))) (vQuote_w F b_l v_l l key r37 e39) rfl ?_
   rintro _ _ ⟨v40, rfl, rfl⟩
   refine wl_x ?_
   refine wc_region ?_
   refine wl_v (r := rv (.pointer (some ⟨b_l, 0, none⟩))) (o_load (i := 2) Tryz.isAgg71 rfl rfl rfl) rfl ?_
   obtain ⟨g41, h42⟩ := chk_e h38
   obtain ⟨g43, h44⟩ := chk_e h42
   refine w_call (rs := [rv (.pointer (some ⟨b_l, 0, none⟩)), rI .u8 58]) (Hin := [.bld 74 5 b_l v40 r37]) (Hr := [.blk b_first [rB false] 4, .blk bx_l [rv (.pointer (some ⟨b_l, 0, none⟩))] 71, .blk b_c (eTApiCell c) 63]) Tryz.call87 rfl (List.Perm.refl _) (writeByte_q b_l v40 r37 58 g41 g43) rfl ?_
   rintro _ _ ⟨v45, rfl, rfl⟩
   obtain ⟨r46, e48, h47⟩ := bnd_e h44
   rw [← e48]
   refine wl_y ?_
   refine wl_v (r := rv (.pointer (some ⟨b_l, 0, none⟩))) (o_load (i := 2) Tryz.isAgg71 rfl rfl rfl) rfl ?_
   refine wl_v (r := rSl 4 (List.map eTApiCell x)) (o_move rfl) rfl ?_
   obtain ⟨r49, e51, h50⟩ := obn_e h47
   refine w_call (rs := [rv (.pointer (some ⟨b_l, 0, none⟩)), rSl 4 (List.map eTApiCell x)]) (Hin := [.bld 74 5 b_l v45 r46]) (Hr := [.blk b_first [rB false] 4, .blk bx_l [rv (.pointer (some ⟨b_l, 0, none⟩))] 71, .blk b_c (eTApiCell c) 63]) Tryz.call61 rfl (List.Perm.refl _) (ih_vWrite b_l v45 r46 x r49 e51) rfl ?_
   rintro _ _ ⟨v52, rfl, rfl⟩
   refine wl_y ?_
   refine wl_v (r := rB true) (o_assign rfl) rfl ?_
   refine wl_x ?_
   refine wc_ret ?_
   refine wk_perm (H2 := [.blk b_first [rB false] 4, .blk bx_l [rv (.pointer (some ⟨b_l, 0, none⟩))] 71, .bld 74 5 b_l v52 r49, .blk b_c (eTApiCell c) 63]) ((perm_front (i := 1) rfl).trans (List.Perm.cons _ ((perm_front (i := 1) rfl).trans (List.Perm.cons _ (List.Perm.refl _))))) ?_
   obtain rfl := some_e h50
   exact wk_ret (r_1 Tryz.results88 (rv_t rfl)) (List.Sublist.cons_cons _ (List.Sublist.cons_cons _ (List.Sublist.cons_cons _ (List.Sublist.cons_cons _ List.Sublist.slnil)))) ⟨v52, rfl, rfl⟩
  ·have h53 := cnd_f c35 h34
   refine wc_skip ?_
   refine wk_x ?_
   refine wc_sr ?_
   refine wl_v (r := rv (.pointer (some ⟨b_l, 0, none⟩))) (o_load (i := 1) Tryz.isAgg71 rfl rfl rfl) rfl ?_
   refine wl_v (r := rSl 4 (List.map eTApiCell x)) (o_move rfl) rfl ?_
   obtain ⟨r54, e56, h55⟩ := obn_e h53
   refine w_call (rs := [rv (.pointer (some ⟨b_l, 0, none⟩)), rSl 4 (List.map eTApiCell x)]) (Hin := [.bld 74 5 b_l v_l l]) (Hr := [.blk b_first [rB false] 4, .blk bx_l [rv (.pointer (some ⟨b_l, 0, none⟩))] 71, .blk b_c (eTApiCell c) 63]) Tryz.call61 rfl ((perm_front (i := 2) rfl).trans (List.Perm.cons _ (List.Perm.refl _))) (ih_vWrite b_l v_l l x r54 e56) rfl ?_
   rintro _ _ ⟨v57, rfl, rfl⟩
   refine wl_y ?_
   refine wl_v (r := rB true) (o_assign rfl) rfl ?_
   refine wl_x ?_
   refine wc_ret ?_
   refine wk_perm (H2 := [.blk b_first [rB false] 4, .blk bx_l [rv (.pointer (some ⟨b_l, 0, none⟩))] 71, .bld 74 5 b_l v57 r54, .blk b_c (eTApiCell c) 63]) ((perm_front (i := 1) rfl).trans (List.Perm.cons _ ((perm_front (i := 1) rfl).trans (List.Perm.cons _ (List.Perm.refl _))))) ?_
   obtain rfl := some_e h55
   exact wk_ret (r_1 Tryz.results88 (rv_t rfl)) (List.Sublist.cons_cons _ (List.Sublist.cons_cons _ (List.Sublist.cons_cons _ (List.Sublist.cons_cons _ List.Sublist.slnil)))) ⟨v57, rfl, rfl⟩

theorem vWritePm_w (F : Nat) (rec_vWriteF : Str → (List TApiCell) → Bool → Str → TApiCell → Option (Bool × Bool × Str)) (ih_vWriteF : (∀ (b_first : Nat) (bx_l : Nat) (b_l : Nat) (v_l : Value) (b_c : Nat) (key : Str) (x : (List TApiCell)) (first : Bool) (l : Str) (c : TApiCell) (r : Bool × Bool × Str), rec_vWriteF key x first l c = some r → Fn Tryz.prog GE 88 [rS key, rSl 4 (List.map eTApiCell x), rv (.pointer (some ⟨b_first, 0, none⟩)), rv (.pointer (some ⟨bx_l, 0, none⟩)), rv (.pointer (some ⟨b_c, 0, none⟩))] [.blk b_first [rB first] 4, .blk bx_l [rv (.pointer (some ⟨b_l, 0, none⟩))] 71, .bld 74 5 b_l v_l l, .blk b_c (eTApiCell c) 63] (fun R H => ∃ w3b : Value, R = rB r.1 ∧ H = [.blk b_first [rB r.2.1] 4, .blk bx_l [rv (.pointer (some ⟨b_l, 0, none⟩))] 71, .bld 74 5 b_l w3b r.2.2, .blk b_c (eTApiCell c) 63]))) (b_first : Nat) (bx_l : Nat) (b_l : Nat) (v_l : Value) (b_c : Nat) (v : (List TApiCell)) (first : Bool) (l : Str) (c : TApiCell) (r : Bool × Str) (h : vWritePm F rec_vWriteF v first l c = some r) : Fn Tryz.prog GE 52 [rSl 4 (List.map eTApiCell v), rv (.func (.func 88) #[] #[(.pointer (some ⟨b_first, 0, none⟩)), (.pointer (some ⟨bx_l, 0, none⟩)), (.pointer (some ⟨b_c, 0, none⟩))])] [.blk b_first [rB first] 4, .blk bx_l [rv (.pointer (some ⟨b_l, 0, none⟩))] 71, .bld 74 5 b_l v_l l, .blk b_c (eTApiCell c) 63] (fun R H => ∃ w1_1b : Value, R = rv (.tuple #[]) ∧ H = [.blk b_first [rB r.1] 4, .blk bx_l [rv (.pointer (some ⟨b_l, 0, none⟩))] 71, .bld 74 5 b_l w1_1b r.2, .blk b_c (eTApiCell c) 63]) := by
 refine enter (n := 52) Tryz.func52 rfl Tryz.ntmps52 rfl (fun w Z => ?_)
 refine wc_as (l' := [(0, rSl 4 (List.map eTApiCell v)), (1, rv (.func (.func 88) #[] #[(.pointer (some ⟨b_first, 0, none⟩)), (.pointer (some ⟨bx_l, 0, none⟩)), (.pointer (some ⟨b_c, 0, none⟩))]))]) (H' := [.blk b_first [rB first] 4, .blk bx_l [rv (.pointer (some ⟨b_l, 0, none⟩))] 71, .bld 74 5 b_l v_l l, .blk b_c (eTApiCell c) 63]) rfl rfl ?_
 unfold vWritePm at h
 refine wc_sr ?_
 refine wl_v (r := rI .i64 1) (o_assign rfl) rfl ?_
 refine wl_y ?_
 refine wl_v (r := rSl 4 (List.map eTApiCell v)) (o_move rfl) rfl ?_
 obtain ⟨g1, h2⟩ := chk_e h
 refine wl_v (r := rAt (eTApiCell (at' v 0))) (o_ix_z (enc := eTApiCell) (ys := v) Tryz.underlying23 Tryz.sizeOf63 rfl rfl g1) rfl ?_
 refine wl_v (r := rAt [rI .i64 ((at' v 0).fN)]) (o_fieldAddr_z Tryz.underlying63 rfl Tryz.sizeOf3 rfl rfl) rfl ?_
 refine wl_v (r := rI .i64 ((at' v 0).fN)) (o_load_z Tryz.isAgg3 rfl rfl) rfl ?_
 refine wl_v (r := rI .i64 0) (o_move rfl) rfl ?_
 refine wl_x ?_
 refine wc_block ?_
 obtain ⟨o166, eo167, hK168⟩ := obn_e h2
 refine wc_loop2 (S := Nat × (Int × Int × Bool × Str) × (Value)) (V := (Bool × Str) × (Value)) 0 (fun σ => lop (fun σ => vWriteP_b1 F v c rec_vWriteF σ.1 σ.2.1 σ.2.2.1 σ.2.2.2) σ.1 σ.2.1 = some o166) (fun σ => [(0, rSl 4 (List.map eTApiCell v)), (1, rv (.func (.func 88) #[] #[(.pointer (some ⟨b_first, 0, none⟩)), (.pointer (some ⟨bx_l, 0, none⟩)), (.pointer (some ⟨b_c, 0, none⟩))])), (4, rI .i64 σ.2.1.1), (12, rI .i64 ((at' v 0).fN)), (13, rI .i64 σ.2.1.2.1)]) (fun σ => [.blk b_first [rB σ.2.1.2.2.1] 4, .blk bx_l [rv (.pointer (some ⟨b_l, 0, none⟩))] 71, .bld 74 5 b_l σ.2.2 σ.2.1.2.2.2, .blk b_c (eTApiCell c) 63]) (fun σ => σ.1) (F, (1, 0, first, l), v_l) eo167 (Sub.c rfl (Sub.c rfl (Sub.c rfl (Sub.c rfl (Sub.c rfl Sub.nil))))) (List.Sublist.cons_cons _ (List.Sublist.cons_cons _ (List.Sublist.cons_cons _ (List.Sublist.cons_cons _ List.Sublist.slnil)))) (fun σ => vWriteP_k1 σ.1.1 σ.1.2 = some r) (fun σ => []) (fun σ => [.blk b_first [rB σ.1.1] 4, .blk bx_l [rv (.pointer (some ⟨b_l, 0, none⟩))] 71, .bld 74 5 b_l σ.2 σ.1.2, .blk b_c (eTApiCell c) 63]) ?_ ?_
 ·rintro ⟨n174, ⟨x106, x107, x108, x109⟩, v110⟩ hi172
  refine wc_as (l' := [(0, rSl 4 (List.map eTApiCell v)), (1, rv (.func (.func 88) #[] #[(.pointer (some ⟨b_first, 0, none⟩)), (.pointer (some ⟨bx_l, 0, none⟩)), (.pointer (some ⟨b_c, 0, none⟩))])), (4, rI .i64 x106), (12, rI .i64 ((at' v 0).fN)), (13, rI .i64 x107)]) (H' := [.blk b_first [rB x108] 4, .blk bx_l [rv (.pointer (some ⟨b_l, 0, none⟩))] 71, .bld 74 5 b_l v110 x109, .blk b_c (eTApiCell c) 63]) rfl rfl ?_
  obtain ⟨m171, rfl, t169, h173, ht170⟩ := lop_e hi172
  replace h173 : vWriteP_b1 F v c rec_vWriteF x106 x107 x108 x109 = some t169 := h173
  unfold vWriteP_b1 at h173
  refine wc_sr ?_
  refine wl_v (r := rB (decide (x107 < ((at' v 0).fN)))) (o_lt rfl rfl) rfl ?_
  refine wl_x ?_
  refine wc_seq ?_
  refine wc_cond (b := decide (x107 < ((at' v 0).fN))) rfl (fun c175 => ?_) (fun c175 => ?_)
  ·have h176 := cnd_t c175 h173
   refine wc_skip ?_
   refine wk_x ?_
   refine wc_seq ?_
   refine wc_block ?_
   refine wc_sr ?_
   refine wl_v (r := rS ([] : Str)) (o_assign rfl) rfl ?_
   refine wl_x ?_
   refine wc_seq ?_
   refine wc_sr ?_
   refine wl_v (r := rSl 4 (List.map eTApiCell v)) (o_move rfl) rfl ?_
   refine wl_v (r := rAt (eTApiCell (at' v 0))) (o_ix_z (enc := eTApiCell) (ys := v) Tryz.underlying23 Tryz.sizeOf63 rfl rfl g1) rfl ?_
   refine wl_v (r := rAt (eTApiCell (at' v 0))) (o_fieldAddr_z Tryz.underlying63 rfl Tryz.sizeOf61 rfl rfl) rfl ?_
   refine wl_v (r := rI .i64 ((at' v 0).fKind)) (o_load_z Tryz.isAgg61 rfl rfl) rfl ?_
   refine wl_v (r := rB (decide (((at' v 0).fKind) = 6))) (o_eq rfl rfl) rfl ?_
   refine wl_x ?_
   refine wc_cond (b := decide (((at' v 0).fKind) = 6)) rfl (fun c177 => ?_) (fun c177 => ?_)
   ·have h178 := cnd_t c177 h176
    refine wc_sr ?_
    refine wl_v (r := rSl 4 (List.map eTApiCell v)) (o_move rfl) rfl ?_
    refine wl_v (r := rI .i64 x106) (o_move rfl) rfl ?_
    obtain ⟨g179, h180⟩ := chk_e h178
    refine wl_v (r := rAt (eTApiCell (at' v x106))) (o_ix_z (enc := eTApiCell) (ys := v) Tryz.underlying23 Tryz.sizeOf63 rfl rfl g179) rfl ?_
    refine wl_v (r := rAt [rS ((at' v x106).fStr), rI .i64 ((at' v x106).fN)]) (o_fieldAddr_z Tryz.underlying63 rfl Tryz.sizeOf9 rfl rfl) rfl ?_
    refine wl_v (r := rS ((at' v x106).fStr)) (o_load_z Tryz.isAgg9 rfl rfl) rfl ?_
    refine wl_v (r := rS ((at' v x106).fStr)) (o_assign rfl) rfl ?_
    refine wl_x ?_
    refine wc_region ?_
    refine wl_v (r := rI .i64 x106) (o_move rfl) rfl ?_
    obtain ⟨g181, h182⟩ := chk_e h180
    refine wl_v (r := rI .i64 (x106 + 1)) (o_add rfl rfl g181) rfl ?_
    refine wl_v (r := rI .i64 (x106 + 1)) (o_assign rfl) rfl ?_
    refine wl_y ?_
    refine wl_v (r := rSl 4 (List.map eTApiCell v)) (o_move rfl) rfl ?_
    refine wl_v (r := rI .i64 (x106 + 1)) (o_move rfl) rfl ?_
    obtain ⟨g183, h184⟩ := chk_e h182
    refine wl_v (r := rSl 4 (List.map eTApiCell (List.drop (Int.toNat (x106 + 1)) v))) (o_slice_zl Tryz.underlying23 Tryz.sizeOf63 rfl rfl g183) rfl ?_
    obtain ⟨r185, e187, h186⟩ := obn_e h184
    refine w_call0 (rs := [rSl 4 (List.map eTApiCell (List.drop (Int.toNat (x106 + 1)) v))]) (r := rTup [rI .i64 r185.1, rAgg (eTValueShape r185.2.1), rB r185.2.2]) Tryz.call63 rfl (vLook_w F (List.drop (Int.toNat (x106 + 1)) v) r185 e187) rfl rfl ?_
    refine wl_v (r := rTup [rI .i64 r185.1, rAgg (eTValueShape r185.2.1), rB r185.2.2]) (o_move rfl) rfl ?_
    refine wl_v (r := rI .i64 r185.1) (o_extract rfl rfl) rfl ?_
    refine wl_v (r := rAgg (eTValueShape r185.2.1)) (o_extract rfl rfl) rfl ?_
    refine wl_v (r := rB r185.2.2) (o_extract rfl rfl) rfl ?_
    refine w_alloc (cs := [rI .i64 0, rI .i64 0, rB false, rB false]) Tryz.zeroValue78 rfl rfl (fun b188 => ?_)
    refine wl_v (r := rI .i64 r185.1) (o_assign rfl) rfl ?_
    refine u_store_agg (i := 0) Tryz.sizeOf78 rfl rfl rfl (OneAll.c rfl) rfl rfl (cs' := [rI .i64 r185.2.1.fDepth, rI .i64 r185.2.1.fBytes, rB r185.2.1.fOutside, rB r185.2.1.fLong]) rfl (H' := [.blk b188 (eTValueShape r185.2.1) 78, .blk b_first [rB x108] 4, .blk bx_l [rv (.pointer (some ⟨b_l, 0, none⟩))] 71, .bld 74 5 b_l v110 x109, .blk b_c (eTApiCell c) 63]) rfl ?_
    refine wl_v (r := rB r185.2.2) (o_assign rfl) rfl ?_
    refine wl_x ?_
    refine wc_seq ?_
    refine wc_sr ?_
    refine wl_v (r := rv (.func (.func 88) #[] #[(.pointer (some ⟨b_first, 0, none⟩)), (.pointer (some ⟨bx_l, 0, none⟩)), (.pointer (some ⟨b_c, 0, none⟩))])) (o_move rfl) rfl ?_
    refine wl_v (r := rS ((at' v x106).fStr)) (o_move rfl) rfl ?_
    refine wl_v (r := rSl 4 (List.map eTApiCell v)) (o_move rfl) rfl ?_
    refine wl_v (r := rI .i64 (x106 + 1)) (o_move rfl) rfl ?_
    refine wl_v (r := rI .i64 (x106 + 1)) (o_move rfl) rfl ?_
    refine wl_v (r := rI .i64 r185.1) (o_move rfl) rfl ?_
    obtain ⟨g189, h190⟩ := chk_e h186
    refine wl_v (r := rI .i64 ((x106 + 1) + r185.1)) (o_add rfl rfl g189) rfl ?_
    refine wl_v (r := rI .i64 (x106 + 1)) (o_move rfl) rfl ?_
    refine wl_v (r := rI .i64 r185.1) (o_move rfl) rfl ?_
    refine wl_v (r := rI .i64 ((x106 + 1) + r185.1)) (o_add rfl rfl g189) rfl ?_
    obtain ⟨g191, h192⟩ := chk_e h190
    obtain ⟨g193, h194⟩ := chk_e h192
    refine wl_v (r := rSl 4 (List.map eTApiCell (List.take (Int.toNat ((x106 + 1) + r185.1) - Int.toNat (x106 + 1)) (List.drop (Int.toNat (x106 + 1)) v)))) (o_slice_zm Tryz.underlying23 Tryz.sizeOf63 rfl rfl rfl rfl g191 g193) rfl ?_
    obtain ⟨r195, e197, h196⟩ := obn_e h194
    refine w_callc (rs := [rS ((at' v x106).fStr), rSl 4 (List.map eTApiCell (List.take (Int.toNat ((x106 + 1) + r185.1) - Int.toNat (x106 + 1)) (List.drop (Int.toNat (x106 + 1)) v)))]) (Hin := [.blk b_first [rB x108] 4, .blk bx_l [rv (.pointer (some ⟨b_l, 0, none⟩))] 71, .bld 74 5 b_l v110 x109, .blk b_c (eTApiCell c) 63]) (Hr := [.blk b188 (eTValueShape r185.2.1) 78]) Tryz.call88 rfl rfl ((perm_front (i := 1) rfl).trans (List.Perm.cons _ ((perm_front (i := 1) rfl).trans (List.Perm.cons _ ((perm_front (i := 1) rfl).trans (List.Perm.cons _ ((perm_front (i := 1) rfl).trans (List.Perm.cons _ (List.Perm.refl _))))))))) (ih_vWriteF b_first bx_l b_l v110 b_c ((at' v x106).fStr) (List.take (Int.toNat ((x106 + 1) + r185.1) - Int.toNat (x106 + 1)) (List.drop (Int.toNat (x106 + 1)) v)) x108 x109 c r195 e197) rfl ?_
    rintro _ _ ⟨v198, rfl, rfl⟩
    refine wl_v (r := rB (!r195.1)) (o_not rfl) rfl ?_
    refine wl_x ?_
    refine wc_cond (b := !r195.1) rfl (fun c199 => ?_) (fun c199 => ?_)
    ·have h200 := cnd_t c199 h196
     refine wc_ret ?_
     refine wk_then_ret ?_
     refine wk_in_ret ?_
     refine wk_then_ret ?_
     refine wk_then_ret ?_
     refine wk_cut_ret ?_
     have h201 := stp_ret h200 ht170 hK168
     refine wk_in_ret ?_
     obtain rfl := some_e h201
     exact wk_ret (r_0 Tryz.results52) (List.Sublist.cons_cons _ (List.Sublist.cons_cons _ (List.Sublist.cons_cons _ (List.Sublist.cons_cons _ (List.Sublist.cons _ List.Sublist.slnil))))) ⟨v198, rfl, rfl⟩
    ·have h202 := cnd_f c199 h196
     refine wc_skip ?_
     refine wk_x ?_
     refine wc_region ?_
     refine wl_v (r := rI .i64 (x106 + 1)) (o_move rfl) rfl ?_
     refine wl_v (r := rI .i64 r185.1) (o_move rfl) rfl ?_
     refine wl_v (r := rI .i64 ((x106 + 1) + r185.1)) (o_add rfl rfl g189) rfl ?_
     refine wl_v (r := rI .i64 ((x106 + 1) + r185.1)) (o_assign rfl) rfl ?_
     refine wl_nil ?_
     refine wk_in_norm ?_
     refine wk_x ?_
     refine wc_region ?_
     obtain ⟨g203, h204⟩ := chk_e h202
     refine wl_v (r := rI .i64 (x107 + 1)) (o_add rfl rfl g203) rfl ?_
     refine wl_v (r := rI .i64 (x107 + 1)) (o_move rfl) rfl ?_
     refine wl_nil ?_
     have h205 := stp_next h204 ht170
     exact wk_then (wk_some (m171, ((x106 + 1) + r185.1, x107 + 1, r195.2.1, r195.2.2), v198) ⟨h205, Nat.lt_succ_self _⟩ (Sub.c rfl (Sub.c rfl (Sub.c rfl (Sub.c rfl (Sub.c rfl Sub.nil))))) (List.Sublist.cons_cons _ (List.Sublist.cons_cons _ (List.Sublist.cons_cons _ (List.Sublist.cons_cons _ (List.Sublist.cons _ List.Sublist.slnil))))))
   ·have h206 := cnd_f c177 h176
    refine wc_skip ?_
    refine wk_x ?_
    refine wc_sr ?_
    refine wl_v (r := rSl 4 (List.map eTApiCell v)) (o_move rfl) rfl ?_
    refine wl_v (r := rI .i64 x106) (o_move rfl) rfl ?_
    obtain ⟨g207, h208⟩ := chk_e h206
    refine wl_v (r := rSl 4 (List.map eTApiCell (List.drop (Int.toNat x106) v))) (o_slice_zl Tryz.underlying23 Tryz.sizeOf63 rfl rfl g207) rfl ?_
    obtain ⟨r209, e211, h210⟩ := obn_e h208
    refine w_call0 (rs := [rSl 4 (List.map eTApiCell (List.drop (Int.toNat x106) v))]) (r := rTup [rI .i64 r209.1, rAgg (eTValueShape r209.2.1), rB r209.2.2]) Tryz.call63 rfl (vLook_w F (List.drop (Int.toNat x106) v) r209 e211) rfl rfl ?_
    refine wl_v (r := rTup [rI .i64 r209.1, rAgg (eTValueShape r209.2.1), rB r209.2.2]) (o_move rfl) rfl ?_
    refine wl_v (r := rI .i64 r209.1) (o_extract rfl rfl) rfl ?_
    refine wl_v (r := rAgg (eTValueShape r209.2.1)) (o_extract rfl rfl) rfl ?_
    refine wl_v (r := rB r209.2.2) (o_extract rfl rfl) rfl ?_
    refine w_alloc (cs := [rI .i64 0, rI .i64 0, rB false, rB false]) Tryz.zeroValue78 rfl rfl (fun b212 => ?_)
    refine wl_v (r := rI .i64 r209.1) (o_assign rfl) rfl ?_
    refine u_store_agg (i := 0) Tryz.sizeOf78 rfl rfl rfl (OneAll.c rfl) rfl rfl (cs' := [rI .i64 r209.2.1.fDepth, rI .i64 r209.2.1.fBytes, rB r209.2.1.fOutside, rB r209.2.1.fLong]) rfl (H' := [.blk b212 (eTValueShape r209.2.1) 78, .blk b_first [rB x108] 4, .blk bx_l [rv (.pointer (some ⟨b_l, 0, none⟩))] 71, .bld 74 5 b_l v110 x109, .blk b_c (eTApiCell c) 63]) rfl ?_
    refine wl_v (r := rB r209.2.2) (o_assign rfl) rfl ?_
    refine wl_x ?_
    refine wc_seq ?_
    refine wc_sr ?_
    refine wl_v (r := rv (.func (.func 88) #[] #[(.pointer (some ⟨b_first, 0, none⟩)), (.pointer (some ⟨bx_l, 0, none⟩)), (.pointer (some ⟨b_c, 0, none⟩))])) (o_move rfl) rfl ?_
    refine wl_v (r := rS ([] : Str)) (o_move rfl) rfl ?_
    refine wl_v (r := rSl 4 (List.map eTApiCell v)) (o_move rfl) rfl ?_
    refine wl_v (r := rI .i64 x106) (o_move rfl) rfl ?_
    refine wl_v (r := rI .i64 x106) (o_move rfl) rfl ?_
    refine wl_v (r := rI .i64 r209.1) (o_move rfl) rfl ?_
    obtain ⟨g213, h214⟩ := chk_e h210
    refine wl_v (r := rI .i64 (x106 + r209.1)) (o_add rfl rfl g213) rfl ?_
    refine wl_v (r := rI .i64 x106) (o_move rfl) rfl ?_
    refine wl_v (r := rI .i64 r209.1) (o_move rfl) rfl ?_
    refine wl_v (r := rI .i64 (x106 + r209.1)) (o_add rfl rfl g213) rfl ?_
    obtain ⟨g215, h216⟩ := chk_e h214
    obtain ⟨g217, h218⟩ := chk_e h216
    refine wl_v (r := rSl 4 (List.map eTApiCell (List.take (Int.toNat (x106 + r209.1) - Int.toNat x106) (List.drop (Int.toNat x106) v)))) (o_slice_zm Tryz.underlying23 Tryz.sizeOf63 rfl rfl rfl rfl g215 g217) rfl ?_
    obtain ⟨r219, e221, h220⟩ := obn_e h218
    refine w_callc (rs := [rS ([] : Str), rSl 4 (List.map eTApiCell (List.take (Int.toNat (x106 + r209.1) - Int.toNat x106) (List.drop (Int.toNat x106) v)))]) (Hin := [.blk b_first [rB x108] 4, .blk bx_l [rv (.pointer (some ⟨b_l, 0, none⟩))] 71, .bld 74 5 b_l v110 x109, .blk b_c (eTApiCell c) 63]) (Hr := [.blk b212 (eTValueShape r209.2.1) 78]) Tryz.call88 rfl rfl ((perm_front (i := 1) rfl).trans (List.Perm.cons _ ((perm_front (i := 1) rfl).trans (List.Perm.cons _ ((perm_front (i := 1) rfl).trans (List.Perm.cons _ ((perm_front (i := 1) rfl).trans (List.Perm.cons _ (List.Perm.refl _))))))))) (ih_vWriteF b_first bx_l b_l v110 b_c ([] : Str) (List.take (Int.toNat (x106 + r209.1) - Int.toNat x106) (List.drop (Int.toNat x106) v)) x108 x109 c r219 e221) rfl ?_
    rintro _ _ ⟨v222, rfl, rfl⟩
    refine wl_v (r := rB (!r219.1)) (o_not rfl) rfl ?_
    refine wl_x ?_
    refine wc_cond (b := !r219.1) rfl (fun c223 => ?_) (fun c223 => ?_)
    ·have h224 := cnd_t c223 h220
     refine wc_ret ?_
     refine wk_then_ret ?_
     refine wk_in_ret ?_
     refine wk_then_ret ?_
     refine wk_then_ret ?_
     refine wk_cut_ret ?_
     have h225 := stp_ret h224 ht170 hK168
     refine wk_in_ret ?_
     obtain rfl := some_e h225
     exact wk_ret (r_0 Tryz.results52) (List.Sublist.cons_cons _ (List.Sublist.cons_cons _ (List.Sublist.cons_cons _ (List.Sublist.cons_cons _ (List.Sublist.cons _ List.Sublist.slnil))))) ⟨v222, rfl, rfl⟩
    ·have h226 := cnd_f c223 h220
     refine wc_skip ?_
     refine wk_x ?_
     refine wc_region ?_
     refine wl_v (r := rI .i64 x106) (o_move rfl) rfl ?_
     refine wl_v (r := rI .i64 r209.1) (o_move rfl) rfl ?_
     refine wl_v (r := rI .i64 (x106 + r209.1)) (o_add rfl rfl g213) rfl ?_
     refine wl_v (r := rI .i64 (x106 + r209.1)) (o_assign rfl) rfl ?_
     refine wl_nil ?_
     refine wk_in_norm ?_
     refine wk_x ?_
     refine wc_region ?_
     obtain ⟨g227, h228⟩ := chk_e h226
     refine wl_v (r := rI .i64 (x107 + 1)) (o_add rfl rfl g227) rfl ?_
     refine wl_v (r := rI .i64 (x107 + 1)) (o_move rfl) rfl ?_
     refine wl_nil ?_
     have h229 := stp_next h228 ht170
     exact wk_then (wk_some (m171, (x106 + r209.1, x107 + 1, r219.2.1, r219.2.2), v222) ⟨h229, Nat.lt_succ_self _⟩ (Sub.c rfl (Sub.c rfl (Sub.c rfl (Sub.c rfl (Sub.c rfl Sub.nil))))) (List.Sublist.cons_cons _ (List.Sublist.cons_cons _ (List.Sublist.cons_cons _ (List.Sublist.cons_cons _ (List.Sublist.cons _ List.Sublist.slnil))))))
  ·have h230 := cnd_f c175 h173
   refine wc_exit ?_
   refine wk_then_exit ?_
   have h231 := stp_go h230 ht170 hK168
   exact wk_then_exit (wk_cut_hit (wk_some ((x108, x109), v110) h231 Sub.nil (List.Sublist.cons_cons _ (List.Sublist.cons_cons _ (List.Sublist.cons_cons _ (List.Sublist.cons_cons _ List.Sublist.slnil))))))
 ·rintro ⟨⟨x163, x164⟩, v165⟩ h232
  refine wk_as (l' := []) (H' := [.blk b_first [rB x163] 4, .blk bx_l [rv (.pointer (some ⟨b_l, 0, none⟩))] 71, .bld 74 5 b_l v165 x164, .blk b_c (eTApiCell c) 63]) rfl rfl ?_
  replace h232 : vWriteP_k1 x163 x164 = some r := h232
  unfold vWriteP_k1 at h232
  refine wk_in_hit ?_
  obtain rfl := some_e h232
  exact wk_end (r_0 Tryz.results52) (List.Sublist.cons_cons _ (List.Sublist.cons_cons _ (List.Sublist.cons_cons _ (List.Sublist.cons_cons _ List.Sublist.slnil)))) ⟨v165, rfl, rfl⟩

theorem vWrite_all : ∀ F : Nat, (∀ (b_l : Nat) (v_l : Value) (l : Str) (v : (List TApiCell)) (r : Str), vWrite F l v = some r → Fn Tryz.prog GE 61 [rv (.pointer (some ⟨b_l, 0, none⟩)), rSl 4 (List.map eTApiCell v)] [.bld 74 5 b_l v_l l] (fun R H => ∃ w0b : Value, R = rv (.tuple #[]) ∧ H = [.bld 74 5 b_l w0b r])) ∧ (∀ (b_first : Nat) (bx_l : Nat) (b_l : Nat) (v_l : Value) (b_c : Nat) (key : Str) (x : (List TApiCell)) (first : Bool) (l : Str) (c : TApiCell) (r : Bool × Bool × Str), vWriteF F key x first l c = some r → Fn Tryz.prog GE 88 [rS key, rSl 4 (List.map eTApiCell x), rv (.pointer (some ⟨b_first, 0, none⟩)), rv (.pointer (some ⟨bx_l, 0, none⟩)), rv (.pointer (some ⟨b_c, 0, none⟩))] [.blk b_first [rB first] 4, .blk bx_l [rv (.pointer (some ⟨b_l, 0, none⟩))] 71, .bld 74 5 b_l v_l l, .blk b_c (eTApiCell c) 63] (fun R H => ∃ w3b : Value, R = rB r.1 ∧ H = [.blk b_first [rB r.2.1] 4, .blk bx_l [rv (.pointer (some ⟨b_l, 0, none⟩))] 71, .bld 74 5 b_l w3b r.2.2, .blk b_c (eTApiCell c) 63])) ∧ (∀ (b_first : Nat) (bx_l : Nat) (b_l : Nat) (v_l : Value) (b_c : Nat) (v : (List TApiCell)) (first : Bool) (l : Str) (c : TApiCell) (r : Bool × Str), vWriteP F v first l c = some r → Fn Tryz.prog GE 52 [rSl 4 (List.map eTApiCell v), rv (.func (.func 88) #[] #[(.pointer (some ⟨b_first, 0, none⟩)), (.pointer (some ⟨bx_l, 0, none⟩)), (.pointer (some ⟨b_c, 0, none⟩))])] [.blk b_first [rB first] 4, .blk bx_l [rv (.pointer (some ⟨b_l, 0, none⟩))] 71, .bld 74 5 b_l v_l l, .blk b_c (eTApiCell c) 63] (fun R H => ∃ w1_1b : Value, R = rv (.tuple #[]) ∧ H = [.blk b_first [rB r.1] 4, .blk bx_l [rv (.pointer (some ⟨b_l, 0, none⟩))] 71, .bld 74 5 b_l w1_1b r.2, .blk b_c (eTApiCell c) 63]))
  | 0 => ⟨(fun _ _ _ _ _ h => by simp [vWrite] at h), (fun _ _ _ _ _ _ _ _ _ _ _ h => by simp [vWriteF] at h), (fun _ _ _ _ _ _ _ _ _ _ h => by simp [vWriteP] at h)⟩
  | nn + 1 => ⟨(fun b_l v_l l v r h => vWritem_w nn (vWriteF nn) (vWriteP nn) (vWrite_all nn).2.1 (vWrite_all nn).2.2 b_l v_l l v r (by rw [vWrite] at h; exact h)), (fun b_first bx_l b_l v_l b_c key x first l c r h => vWriteFm_w nn (vWrite nn) (vWrite_all nn).1 b_first bx_l b_l v_l b_c key x first l c r (by rw [vWriteF] at h; exact h)), (fun b_first bx_l b_l v_l b_c v first l c r h => vWritePm_w nn (vWriteF nn) (vWrite_all nn).2.1 b_first bx_l b_l v_l b_c v first l c r (by rw [vWriteP] at h; exact h))⟩

theorem vWrite_w (F : Nat) (b_l : Nat) (v_l : Value) (l : Str) (v : (List TApiCell)) (r : Str) (h : vWrite F l v = some r) : Fn Tryz.prog GE 61 [rv (.pointer (some ⟨b_l, 0, none⟩)), rSl 4 (List.map eTApiCell v)] [.bld 74 5 b_l v_l l] (fun R H => ∃ w0b : Value, R = rv (.tuple #[]) ∧ H = [.bld 74 5 b_l w0b r]) := (vWrite_all F).1 b_l v_l l v r h

theorem vEncode_w (F : Nat) (v : (List TApiCell)) (r : Str × Int) (h : vEncode F v = some r) : Fn Tryz.prog GE 41 [rSl 4 (List.map eTApiCell v)] [] (fun R H => R = rTup [rS r.1, rI .i64 r.2] ∧ H = []) := by
 refine enter (n := 14) Tryz.func41 rfl Tryz.ntmps41 rfl (fun w Z => ?_)
 refine wc_as (l' := [(0, rSl 4 (List.map eTApiCell v))]) (H' := []) rfl rfl ?_
 unfold vEncode at h
 refine wc_sr ?_
 refine wl_v (r := rS ([] : Str)) (o_assign rfl) rfl ?_
 refine wl_v (r := rI .i64 0) (o_assign rfl) rfl ?_
 refine wl_x ?_
 refine wc_seq ?_
 refine wc_sr ?_
 refine wl_v (r := rSl 4 (List.map eTApiCell v)) (o_move rfl) rfl ?_
 obtain ⟨r1, e3, h2⟩ := obn_e h
 refine w_call0 (rs := [rSl 4 (List.map eTApiCell v)]) (r := rI .i64 r1) Tryz.call43 rfl (vCheck_w F v r1 e3) rfl rfl ?_
 refine wl_v (r := rI .i64 r1) (o_assign rfl) rfl ?_
 refine wl_y ?_
 refine wl_v (r := rI .i64 r1) (o_move rfl) rfl ?_
 refine wl_v (r := rB (!decide (r1 = 0))) (o_ne rfl rfl) rfl ?_
 refine wl_x ?_
 refine wc_cond (b := !decide (r1 = 0)) rfl (fun c4 => ?_) (fun c4 => ?_)
 ·have h5 := cnd_t c4 h2
  refine wc_sr ?_
  refine wl_v (r := rI .i64 r1) (o_move rfl) rfl ?_
  refine wl_v (r := rS ([] : Str)) (o_assign rfl) rfl ?_
  refine wl_v (r := rI .i64 r1) (o_assign rfl) rfl ?_
  refine wl_x ?_
  refine wc_ret ?_
  refine wk_then_ret ?_
  obtain rfl := some_e h5
  exact wk_ret (r_2 Tryz.results41 (rv_t rfl) (rv_t rfl)) List.Sublist.slnil ⟨rfl, rfl⟩
 ·have h6 := cnd_f c4 h2
  refine wc_skip ?_
  refine wk_x ?_
  refine wc_sr ?_
  refine w_alloc (cs := [rv (.pointer none), rv (.slice none 0 0)]) Tryz.zeroValue74 rfl rfl (fun b7 => ?_)
  refine wl_y ?_
  refine wl_v (r := rSl 4 (List.map eTApiCell v)) (o_move rfl) rfl ?_
  refine WL.tobld (te := 5) (i := 0) rfl ?_
  obtain ⟨r8, e10, h9⟩ := obn_e h6
  refine w_call (rs := [rv (.pointer (some ⟨b7, 0, none⟩)), rSl 4 (List.map eTApiCell v)]) (Hin := [.bld 74 5 b7 (.slice none 0 0) ([] : Str)]) (Hr := []) Tryz.call61 rfl (List.Perm.refl _) (vWrite_w F b7 (.slice none 0 0) ([] : Str) v r8 e10) rfl ?_
  rintro _ _ ⟨v11, rfl, rfl⟩
  refine wl_y ?_
  obtain ⟨g12, h13⟩ := chk_e h9
  refine w_call (rs := [rv (.pointer (some ⟨b7, 0, none⟩))]) (Hin := [.bld 74 5 b7 v11 r8]) (Hr := []) Tryz.call62 rfl (List.Perm.refl _) (bstring_q b7 v11 r8  g12) rfl ?_
  rintro _ _ ⟨rfl, rfl⟩
  refine wl_v (r := rS r8) (o_assign rfl) rfl ?_
  refine wl_v (r := rI .i64 0) (o_assign rfl) rfl ?_
  refine wl_x ?_
  refine wc_ret ?_
  obtain rfl := some_e h13
  exact wk_ret (r_2 Tryz.results41 (rv_t rfl) (rv_t rfl)) List.Sublist.slnil ⟨rfl, rfl⟩

end Go.Proofs.YtkalifgebccpcaaGreatDoor.Q

/-
  What functions compute, with checks: plain definitions, printed by a small program of ours (gq.py). No program in sight.
-/
namespace Go.Proofs.YtkalifgebccpcaaGreatDoor
open Go
set_option linter.unusedVariables false
structure TValueReader where
  fS : Str
  fAt : Int
  fCells : (List TApiCell)
  fGreat : Bool
  deriving DecidableEq, Inhabited
def slHasPrefix (s : Str) (p : Str) : Option (Bool) :=
  chk (imp (decide ((p.length : Int) ≤ (s.length : Int))) (inC (p.length : Int) (s.length : Int))) <| some ((decide ((p.length : Int) ≤ (s.length : Int))) && (decide ((List.take (Int.toNat (p.length : Int)) s) = p)))

def hasPrefix (s : Str) (p : Str) : Option (Bool) :=
  obn (slHasPrefix s p) fun r1 => some r1

def vTake (q : TValueReader) (s : Str) : Option (Bool × TValueReader) :=
  chk (inC q.fAt (q.fS.length : Int)) <| obn (hasPrefix (List.drop (Int.toNat q.fAt) q.fS) s) fun r3 => cnd (!r3) (some (false, q)) (chk (inK .i64 (q.fAt + (s.length : Int))) <| some (true, (TValueReader.mk q.fS (q.fAt + (s.length : Int)) q.fCells q.fGreat)))

def vRStr_j2 (x366 : (List Int)) (x462 : Int) (x463 : Int) : Option (Stp ((List Int) × Int) (Out (Str × Bool × TValueReader) (Int))) :=
  chk (inA 1 (x366.length + ([x462] : List Int).length)) <| some (.next (x366 ++ ([x462] : List Int), x463))

def vRStr_b1 (r1 : Bool × TValueReader) (x366 : (List Int)) (x368 : Int) : Option (Stp ((List Int) × Int) (Out (Str × Bool × TValueReader) (Int))) :=
  cnd (decide (x368 < (r1.2.fS.length : Int))) (chk (inR x368 (r1.2.fS.length : Int)) <| chk (inK .i64 (x368 + 1)) <| cnd (decide ((bat r1.2.fS x368) = 34)) (some (.out (.ret (ofI x366, true, (TValueReader.mk r1.2.fS (x368 + 1) r1.2.fCells r1.2.fGreat))))) (cnd (((decide ((bat r1.2.fS x368) < 32)) || (decide (126 < (bat r1.2.fS x368))))) (some (.out (.ret (([] : Str), false, (TValueReader.mk r1.2.fS (x368 + 1) r1.2.fCells r1.2.fGreat))))) (cnd (decide ((bat r1.2.fS x368) = 92)) (chk (imp (!(decide ((r1.2.fS.length : Int) ≤ (x368 + 1)))) (inR (x368 + 1) (r1.2.fS.length : Int))) <| cnd (((decide ((r1.2.fS.length : Int) ≤ (x368 + 1))) || ((!decide ((bat r1.2.fS (x368 + 1)) = 34)) && (!decide ((bat r1.2.fS (x368 + 1)) = 92))))) (some (.out (.ret (([] : Str), false, (TValueReader.mk r1.2.fS (x368 + 1) r1.2.fCells r1.2.fGreat))))) (chk (inR (x368 + 1) (r1.2.fS.length : Int)) <| chk (inK .i64 ((x368 + 1) + 1)) <| vRStr_j2 x366 (bat r1.2.fS (x368 + 1)) ((x368 + 1) + 1))) (vRStr_j2 x366 (bat r1.2.fS x368) (x368 + 1))))) (some (.out (.go x368)))

def vRStr_k1 (r1 : Bool × TValueReader) (x425 : Int) : Option (Str × Bool × TValueReader) :=
  some (([] : Str), false, (TValueReader.mk r1.2.fS x425 r1.2.fCells r1.2.fGreat))

def vRStr (F : Nat) (q : TValueReader) : Option (Str × Bool × TValueReader) :=
  obn (vTake q ([34] : Str)) fun r1 => cnd (!r1.1) (some (([] : Str), false, r1.2)) (obn (lop (fun σ => vRStr_b1 r1 σ.1 σ.2) F (([] : List Int), r1.2.fAt)) (oute fun ν => vRStr_k1 r1 ν))

def vRInt_b1 (r1 : Bool × TValueReader) (x75 : Int) : Option (Stp (Int) (Out (Bool × TValueReader) (Int))) :=
  chk (imp (decide (x75 < (r1.2.fS.length : Int))) (inR x75 (r1.2.fS.length : Int))) <| cnd (((decide (x75 < (r1.2.fS.length : Int))) && ((decide (48 ≤ (bat r1.2.fS x75))) && (decide ((bat r1.2.fS x75) ≤ 57))))) (chk (inK .i64 (x75 + 1)) <| some (.next (x75 + 1))) (some (.out (.go x75)))

def vRInt_k1 (q : TValueReader) (r1 : Bool × TValueReader) (x85 : Int) : Option (Bool × TValueReader) :=
  chk (inC q.fAt x85) <| chk (inC x85 (r1.2.fS.length : Int)) <| chk (inA 1 (List.take (Int.toNat x85 - Int.toNat q.fAt) (List.drop (Int.toNat q.fAt) r1.2.fS)).length) <| cnd (((decide ((parseE (List.take (Int.toNat x85 - Int.toNat q.fAt) (List.drop (Int.toNat q.fAt) r1.2.fS))) = 1)) || (decide (r1.2.fAt = x85)))) (some (false, (TValueReader.mk r1.2.fS x85 r1.2.fCells r1.2.fGreat))) (chk (inA 40 (r1.2.fCells.length + ([(TApiCell.mk 3 (parseV (List.take (Int.toNat x85 - Int.toNat q.fAt) (List.drop (Int.toNat q.fAt) r1.2.fS))) ([] : Str) 0)] : List TApiCell).length)) <| some (true, (TValueReader.mk r1.2.fS x85 (r1.2.fCells ++ ([(TApiCell.mk 3 (parseV (List.take (Int.toNat x85 - Int.toNat q.fAt) (List.drop (Int.toNat q.fAt) r1.2.fS))) ([] : Str) 0)] : List TApiCell)) (r1.2.fGreat || (!decide ((parseE (List.take (Int.toNat x85 - Int.toNat q.fAt) (List.drop (Int.toNat q.fAt) r1.2.fS))) = 0))))))

def vRInt (F : Nat) (q : TValueReader) : Option (Bool × TValueReader) :=
  obn (vTake q ([45] : Str)) fun r1 => obn (lop (fun σ => vRInt_b1 r1 σ) F r1.2.fAt) (oute fun ν => vRInt_k1 q r1 ν)

def vRScalar_j1 (x57 : Str) (x58 : Int) (x59 : (List TApiCell)) (x61 : Bool) : Option (Bool × TValueReader) :=
  some (true, (TValueReader.mk x57 x58 x59 x61))

def vRScalar (F : Nat) (q : TValueReader) : Option (Bool × TValueReader) :=
  obn (vTake q ([110, 117, 108, 108] : Str)) fun r62 => cnd (r62.1) (chk (inA 40 (r62.2.fCells.length + ([(TApiCell.mk 1 0 ([] : Str) 0)] : List TApiCell).length)) <| vRScalar_j1 r62.2.fS r62.2.fAt (r62.2.fCells ++ ([(TApiCell.mk 1 0 ([] : Str) 0)] : List TApiCell)) r62.2.fGreat) (obn (vTake r62.2 ([116, 114, 117, 101] : Str)) fun r73 => cnd (r73.1) (chk (inA 40 (r73.2.fCells.length + ([(TApiCell.mk 2 1 ([] : Str) 0)] : List TApiCell).length)) <| vRScalar_j1 r73.2.fS r73.2.fAt (r73.2.fCells ++ ([(TApiCell.mk 2 1 ([] : Str) 0)] : List TApiCell)) r73.2.fGreat) (obn (vTake r73.2 ([102, 97, 108, 115, 101] : Str)) fun r84 => cnd (r84.1) (chk (inA 40 (r84.2.fCells.length + ([(TApiCell.mk 2 0 ([] : Str) 0)] : List TApiCell).length)) <| vRScalar_j1 r84.2.fS r84.2.fAt (r84.2.fCells ++ ([(TApiCell.mk 2 0 ([] : Str) 0)] : List TApiCell)) r84.2.fGreat) (chk (inC r84.2.fAt (r84.2.fS.length : Int)) <| obn (hasPrefix (List.drop (Int.toNat r84.2.fAt) r84.2.fS) ([34] : Str)) fun r97 => cnd (r97) (obn (vRStr F r84.2) fun r102 => cnd (!r102.2.1) (some (false, r102.2.2)) (chk (inA 40 (r102.2.2.fCells.length + ([(TApiCell.mk 4 0 r102.1 0)] : List TApiCell).length)) <| vRScalar_j1 r102.2.2.fS r102.2.2.fAt (r102.2.2.fCells ++ ([(TApiCell.mk 4 0 r102.1 0)] : List TApiCell)) r102.2.2.fGreat)) (obn (vRInt F r84.2) fun r114 => some (r114.1, r114.2)))))

def vRValue_b2 (rec_vRValue : TValueReader → Option (Bool × TValueReader)) (x16 : (List TApiCell)) (x107 : Int) (x108 : Str) (x109 : Int) (x110 : (List TApiCell)) (x112 : Bool) : Option (Stp (Int × Str × Int × (List TApiCell) × Bool) (Out (Bool × TValueReader) (Unit))) :=
  obn (rec_vRValue (TValueReader.mk x108 x109 x110 x112)) fun r150 => cnd (!r150.1) (some (.out (.ret (false, r150.2)))) (chk (inR (x16.length : Int) (r150.2.fCells.length : Int)) <| bnd (List.set r150.2.fCells (Int.toNat (x16.length : Int)) (TApiCell.mk ((at' r150.2.fCells (x16.length : Int)).fKind) ((at' r150.2.fCells (x16.length : Int)).fInt) ((at' r150.2.fCells (x16.length : Int)).fStr) x107)) fun r160 => obn (vTake (TValueReader.mk r150.2.fS r150.2.fAt r160 r150.2.fGreat) ([93] : Str)) fun r163 => cnd (r163.1) (some (.out (.ret (true, r163.2)))) (obn (vTake r163.2 ([44] : Str)) fun r171 => cnd (!r171.1) (some (.out (.ret (false, r171.2)))) (chk (inK .i64 (x107 + 1)) <| some (.next (x107 + 1, r171.2.fS, r171.2.fAt, r171.2.fCells, r171.2.fGreat)))))

def vRValue_k2  : Option (Bool × TValueReader) :=
  none

def vRValue_j4 (rec_vRValue : TValueReader → Option (Bool × TValueReader)) (x16 : (List TApiCell)) (x349 : Int) (r449 : Str × Bool × TValueReader) (x473 : Bool) (x474 : Bool) (x475 : Bool) (x476 : Str) (x477 : Int) (x478 : (List TApiCell)) (x480 : Bool) : Option (Stp (Str × Int × Str × Int × (List TApiCell) × Bool) (Out (Bool × TValueReader) (Unit))) :=
  cnd (x475) (some (.out (.ret (false, (TValueReader.mk x476 x477 x478 x480))))) (chk (inA 40 (x478.length + ([(TApiCell.mk 4 0 r449.1 0)] : List TApiCell).length)) <| obn (rec_vRValue (TValueReader.mk x476 x477 (x478 ++ ([(TApiCell.mk 4 0 r449.1 0)] : List TApiCell)) x480)) fun r507 => cnd (!r507.1) (some (.out (.ret (false, r507.2)))) (chk (inR (x16.length : Int) (r507.2.fCells.length : Int)) <| bnd (List.set r507.2.fCells (Int.toNat (x16.length : Int)) (TApiCell.mk ((at' r507.2.fCells (x16.length : Int)).fKind) ((at' r507.2.fCells (x16.length : Int)).fInt) ((at' r507.2.fCells (x16.length : Int)).fStr) x349)) fun r517 => obn (vTake (TValueReader.mk r507.2.fS r507.2.fAt r517 r507.2.fGreat) ([125] : Str)) fun r520 => cnd (r520.1) (some (.out (.ret (true, r520.2)))) (obn (vTake r520.2 ([44] : Str)) fun r528 => cnd (!r528.1) (some (.out (.ret (false, r528.2)))) (chk (inK .i64 (x349 + 1)) <| some (.next (r449.1, x349 + 1, r528.2.fS, r528.2.fAt, r528.2.fCells, r528.2.fGreat))))))

def vRValue_b3 (F : Nat) (rec_vRValue : TValueReader → Option (Bool × TValueReader)) (x16 : (List TApiCell)) (x348 : Str) (x349 : Int) (x350 : Str) (x351 : Int) (x352 : (List TApiCell)) (x354 : Bool) : Option (Stp (Str × Int × Str × Int × (List TApiCell) × Bool) (Out (Bool × TValueReader) (Unit))) :=
  obn (vRStr F (TValueReader.mk x350 x351 x352 x354)) fun r449 => cnd (!r449.2.1) (vRValue_j4 rec_vRValue x16 x349 r449 true true true r449.2.2.fS r449.2.2.fAt r449.2.2.fCells r449.2.2.fGreat) (cnd (decide (1 < x349)) (cnd (sLess r449.1 x348 || decide (r449.1 = x348)) (vRValue_j4 rec_vRValue x16 x349 r449 (sLess r449.1 x348 || decide (r449.1 = x348)) (sLess r449.1 x348 || decide (r449.1 = x348)) true r449.2.2.fS r449.2.2.fAt r449.2.2.fCells r449.2.2.fGreat) (obn (vTake r449.2.2 ([58] : Str)) fun r489 => vRValue_j4 rec_vRValue x16 x349 r449 (sLess r449.1 x348 || decide (r449.1 = x348)) (sLess r449.1 x348 || decide (r449.1 = x348)) (!r489.1) r489.2.fS r489.2.fAt r489.2.fCells r489.2.fGreat)) (obn (vTake r449.2.2 ([58] : Str)) fun r494 => vRValue_j4 rec_vRValue x16 x349 r449 false false (!r494.1) r494.2.fS r494.2.fAt r494.2.fCells r494.2.fGreat))

def vRValue_k3  : Option (Bool × TValueReader) :=
  none

def vRValue_j1 (F : Nat) (rec_vRValue : TValueReader → Option (Bool × TValueReader)) (r1 : Bool × TValueReader) (x13 : Bool) (x14 : Str) (x15 : Int) (x16 : (List TApiCell)) (x18 : Bool) : Option (Bool × TValueReader) :=
  cnd (x13) (obn (vRScalar F (TValueReader.mk x14 x15 x16 x18)) fun r29 => some (r29.1, r29.2)) (cnd (r1.1) (chk (inA 40 (x16.length + ([(TApiCell.mk 5 0 ([] : Str) 0)] : List TApiCell).length)) <| obn (vTake (TValueReader.mk x14 x15 (x16 ++ ([(TApiCell.mk 5 0 ([] : Str) 0)] : List TApiCell)) x18) ([93] : Str)) fun r40 => cnd (r40.1) (some (true, r40.2)) (obn (lop (fun σ => vRValue_b2 rec_vRValue x16 σ.1 σ.2.1 σ.2.2.1 σ.2.2.2.1 σ.2.2.2.2) F (1, r40.2.fS, r40.2.fAt, r40.2.fCells, r40.2.fGreat)) (oute fun ν => vRValue_k2 ))) (chk (inA 40 (x16.length + ([(TApiCell.mk 6 0 ([] : Str) 0)] : List TApiCell).length)) <| obn (vTake (TValueReader.mk x14 x15 (x16 ++ ([(TApiCell.mk 6 0 ([] : Str) 0)] : List TApiCell)) x18) ([125] : Str)) fun r188 => cnd (r188.1) (some (true, r188.2)) (obn (lop (fun σ => vRValue_b3 F rec_vRValue x16 σ.1 σ.2.1 σ.2.2.1 σ.2.2.2.1 σ.2.2.2.2.1 σ.2.2.2.2.2) F (([] : Str), 1, r188.2.fS, r188.2.fAt, r188.2.fCells, r188.2.fGreat)) (oute fun ν => vRValue_k3 ))))

def vRValuem (F : Nat) (rec_vRValue : TValueReader → Option (Bool × TValueReader)) (q : TValueReader) : Option (Bool × TValueReader) :=
  obn (vTake q ([91] : Str)) fun r1 => cnd (!r1.1) (obn (vTake r1.2 ([123] : Str)) fun r21 => vRValue_j1 F rec_vRValue r1 (!r21.1) r21.2.fS r21.2.fAt r21.2.fCells r21.2.fGreat) (vRValue_j1 F rec_vRValue r1 false r1.2.fS r1.2.fAt r1.2.fCells r1.2.fGreat)

def vRValue : Nat → TValueReader → Option (Bool × TValueReader)
  | 0, _ => none
  | nn + 1, q => vRValuem nn (vRValue nn) q

def vDecode_j1 (F : Nat) (x12 : Bool) (x13 : Str) (x14 : Int) (x15 : (List TApiCell)) (x17 : Bool) : Option ((List TApiCell) × Int) :=
  cnd (x12) (some (([] : List TApiCell), 1)) (cnd (x17) (some (([] : List TApiCell), 2)) (obn (vChecked F x15) fun r32 => some (r32.1, r32.2)))

def vDecode (F : Nat) (s : Str) : Option ((List TApiCell) × Int) :=
  cnd (decide (4000 < (s.length : Int))) (some (([] : List TApiCell), 3)) (obn (vRValue F (TValueReader.mk s 0 ([] : List TApiCell) false)) fun r18 => cnd (!r18.1) (vDecode_j1 F true r18.2.fS r18.2.fAt r18.2.fCells r18.2.fGreat) (vDecode_j1 F (!decide (r18.2.fAt = (s.length : Int))) r18.2.fS r18.2.fAt r18.2.fCells r18.2.fGreat))

end Go.Proofs.YtkalifgebccpcaaGreatDoor
