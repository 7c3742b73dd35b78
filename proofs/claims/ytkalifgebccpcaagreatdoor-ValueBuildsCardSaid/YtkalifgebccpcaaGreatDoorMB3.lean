/-
  Texts of the proof, put together: WVa, PVb.
-/
import Derived.Test.YtkalifgebccpcaaGreatDoorMB2
/-
  Walks, printed by a small program of ours (gq.py).
-/
namespace Go.Proofs.YtkalifgebccpcaaGreatDoor.Q
open Go Go.RowKit
set_option linter.unusedVariables false
set_option linter.unusedSimpArgs false
set_option maxRecDepth 100000
set_option maxHeartbeats 4000000
@[reducible] def eTApiCell (x : TApiCell) : List Rp := [rI .i64 x.fKind, rI .i64 x.fInt, rS x.fStr, rI .i64 x.fN]
theorem eTApiCell_len (x : TApiCell) : (eTApiCell x).length = 4 := rfl
theorem eTApiCell_one (x : TApiCell) : (eTApiCell x).all (·.one) = true := rfl
theorem rPlain_w (F : Nat) (s : Str) (r : Bool) (h : rPlain F s = some r) : Fn Tryz.prog GE 99 [rS s] [] (fun R H => R = rB r ∧ H = []) := by
 refine enter (n := 20) Tryz.func99 rfl Tryz.ntmps99 rfl (fun w Z => ?_)
 refine wc_as (l' := [(0, rS s)]) (H' := []) rfl rfl ?_
 unfold rPlain at h
 refine wc_sr ?_
 refine wl_v (r := rB false) (o_assign rfl) rfl ?_
 refine wl_x ?_
 refine wc_seq ?_
 refine wc_sr ?_
 refine wl_v (r := rI .i64 0) (o_assign rfl) rfl ?_
 refine wl_x ?_
 refine wc_block ?_
 obtain ⟨o34, eo35, hK36⟩ := obn_e h
 refine wc_loop2 (S := Nat × (Int) × (Unit)) (V := (Unit) × (Unit)) 0 (fun σ => lop (fun σ => rPlain_b1 s σ) σ.1 σ.2.1 = some o34) (fun σ => [(0, rS s), (2, rB false), (3, rI .i64 σ.2.1)]) (fun σ => []) (fun σ => σ.1) (F, 0, ()) eo35 (Sub.c rfl (Sub.c rfl (Sub.c rfl Sub.nil))) List.Sublist.slnil (fun σ => rPlain_k1  = some r) (fun σ => [(2, rB false)]) (fun σ => []) ?_ ?_
 ·rintro ⟨n42, x22, ⟨⟩⟩ hi40
  refine wc_as (l' := [(0, rS s), (2, rB false), (3, rI .i64 x22)]) (H' := []) rfl rfl ?_
  obtain ⟨m39, rfl, t37, h41, ht38⟩ := lop_e hi40
  replace h41 : rPlain_b1 s x22 = some t37 := h41
  unfold rPlain_b1 at h41
  refine wc_seq ?_
  refine wc_sr ?_
  refine wl_v (r := rI .i64 x22) (o_move rfl) rfl ?_
  refine wl_v (r := rS s) (o_move rfl) rfl ?_
  refine wl_v (r := rI .i64 (s.length : Int)) (o_len_s Tryz.underlying9 rfl) rfl ?_
  refine wl_v (r := rB (decide (x22 < (s.length : Int)))) (o_lt rfl rfl) rfl ?_
  refine wl_x ?_
  refine wc_cond (b := decide (x22 < (s.length : Int))) rfl (fun c43 => ?_) (fun c43 => ?_)
  ·have h44 := cnd_t c43 h41
   refine wc_skip ?_
   refine wk_x ?_
   refine wc_seq ?_
   refine wc_block ?_
   obtain ⟨g45, h46⟩ := chk_e h44
   refine wc_seq_mid [(0, rS s), (2, rB false), (3, rI .i64 x22), (4, rI .i64 x22), (5, rS s), (6, rI .i64 (s.length : Int)), (7, rB (decide (x22 < (s.length : Int)))), (10, rS s), (11, rI .i64 x22), (12, rI .u8 (bat s x22)), (13, rB (decide ((bat s x22) < 32))), (14, rB (decide ((bat s x22) < 32))), (19, rB ((decide ((bat s x22) < 32)) || (decide (126 < (bat s x22)))))] [] ?_ ?_
   ·refine wc_region ?_
    refine wl_v (r := rS s) (o_move rfl) rfl ?_
    refine wl_v (r := rI .i64 x22) (o_move rfl) rfl ?_
    refine wl_v (r := rI .u8 (bat s x22)) (o_index_b Tryz.underlying9 rfl rfl g45) rfl ?_
    refine wl_v (r := rB (decide ((bat s x22) < 32))) (o_lt rfl rfl) rfl ?_
    refine wl_v (r := rB (decide ((bat s x22) < 32))) (o_move rfl) rfl ?_
    refine bsplit (decide ((bat s x22) < 32)) (fun c47 => ?_) (fun c47 => ?_)
    ·refine wl_off (b := decide ((bat s x22) < 32)) rfl rfl c47 rfl ?_
     refine wl_off (b := decide ((bat s x22) < 32)) rfl rfl c47 rfl ?_
     refine wl_off (b := decide ((bat s x22) < 32)) rfl rfl c47 rfl ?_
     refine wl_off (b := decide ((bat s x22) < 32)) rfl rfl c47 rfl ?_
     refine wl_v (r := rB true) (o_pick_t (b := decide ((bat s x22) < 32)) rfl c47 rfl) rfl ?_
     refine wl_nil ?_
     exact wk_then (wk_mid (Sub.c rfl (Sub.c rfl (Sub.c rfl (Sub.c rfl (Sub.c rfl (Sub.c rfl (Sub.c rfl (Sub.c rfl (Sub.c rfl (Sub.c rfl (Sub.c rfl (Sub.c rfl (Sub.c (by first | rfl | (simp only [c47, Bool.true_and, Bool.false_and, Bool.true_or, Bool.false_or, Bool.and_true, Bool.and_false, Bool.or_true, Bool.or_false, Bool.not_true, Bool.not_false, cond_true, cond_false]; rfl)) Sub.nil))))))))))))) List.Sublist.slnil)
    ·refine wl_on (b := decide ((bat s x22) < 32)) rfl rfl c47 ?_
     refine wl_v (r := rS s) (o_move rfl) rfl ?_
     refine wl_on (b := decide ((bat s x22) < 32)) rfl rfl c47 ?_
     refine wl_v (r := rI .i64 x22) (o_move rfl) rfl ?_
     refine wl_on (b := decide ((bat s x22) < 32)) rfl rfl c47 ?_
     refine wl_v (r := rI .u8 (bat s x22)) (o_index_b Tryz.underlying9 rfl rfl g45) rfl ?_
     refine wl_on (b := decide ((bat s x22) < 32)) rfl rfl c47 ?_
     refine wl_v (r := rB (decide (126 < (bat s x22)))) (o_gt rfl rfl) rfl ?_
     refine wl_v (r := rB (decide (126 < (bat s x22)))) (o_pick_f (b := decide ((bat s x22) < 32)) rfl c47 rfl) rfl ?_
     refine wl_nil ?_
     exact wk_then (wk_mid (Sub.c rfl (Sub.c rfl (Sub.c rfl (Sub.c rfl (Sub.c rfl (Sub.c rfl (Sub.c rfl (Sub.c rfl (Sub.c rfl (Sub.c rfl (Sub.c rfl (Sub.c rfl (Sub.c (by first | rfl | (simp only [c47, Bool.true_and, Bool.false_and, Bool.true_or, Bool.false_or, Bool.and_true, Bool.and_false, Bool.or_true, Bool.or_false, Bool.not_true, Bool.not_false, cond_true, cond_false]; rfl)) Sub.nil))))))))))))) List.Sublist.slnil)
   refine wc_cond (b := ((decide ((bat s x22) < 32)) || (decide (126 < (bat s x22))))) rfl (fun c48 => ?_) (fun c48 => ?_)
   ·have h49 := cnd_t c48 h46
    refine wc_sr ?_
    refine wl_v (r := rB false) (o_assign rfl) rfl ?_
    refine wl_x ?_
    refine wc_ret ?_
    refine wk_in_ret ?_
    refine wk_then_ret ?_
    refine wk_then_ret ?_
    refine wk_cut_ret ?_
    have h50 := stp_ret h49 ht38 hK36
    refine wk_in_ret ?_
    refine wk_then_ret ?_
    obtain rfl := some_e h50
    exact wk_ret (r_1 Tryz.results99 (rv_t rfl)) List.Sublist.slnil ⟨rfl, rfl⟩
   ·have h51 := cnd_f c48 h46
    refine wc_skip ?_
    refine wk_in_norm ?_
    refine wk_x ?_
    refine wc_region ?_
    refine wl_v (r := rI .i64 x22) (o_move rfl) rfl ?_
    obtain ⟨g52, h53⟩ := chk_e h51
    refine wl_v (r := rI .i64 (x22 + 1)) (o_add rfl rfl g52) rfl ?_
    refine wl_v (r := rI .i64 (x22 + 1)) (o_assign rfl) rfl ?_
    refine wl_nil ?_
    have h54 := stp_next h53 ht38
    exact wk_then (wk_some (m39, x22 + 1, ()) ⟨h54, Nat.lt_succ_self _⟩ (Sub.c rfl (Sub.c rfl (Sub.c rfl Sub.nil))) List.Sublist.slnil)
  ·have h55 := cnd_f c43 h41
   refine wc_exit ?_
   refine wk_then_exit ?_
   have h56 := stp_go h55 ht38 hK36
   exact wk_then_exit (wk_cut_hit (wk_some ((), ()) h56 (Sub.c rfl Sub.nil) List.Sublist.slnil))
 ·rintro ⟨⟨⟩, ⟨⟩⟩ h57
  refine wk_as (l' := [(2, rB false)]) (H' := []) rfl rfl ?_
  replace h57 : rPlain_k1  = some r := h57
  unfold rPlain_k1 at h57
  refine wk_in_hit ?_
  refine wk_x ?_
  refine wc_sr ?_
  refine wl_v (r := rB true) (o_assign rfl) rfl ?_
  refine wl_x ?_
  refine wc_ret ?_
  obtain rfl := some_e h57
  exact wk_ret (r_1 Tryz.results99 (rv_t rfl)) List.Sublist.slnil ⟨rfl, rfl⟩

theorem rAfter_w (ok : Bool) (i : Int) (r : Int) (h : rAfter ok i = some r) : Fn Tryz.prog GE 80 [rB ok, rI .i64 i] [] (fun R H => R = rI .i64 r ∧ H = []) := by
 refine enter (n := 8) Tryz.func80 rfl Tryz.ntmps80 rfl (fun w Z => ?_)
 refine wc_as (l' := [(0, rB ok), (1, rI .i64 i)]) (H' := []) rfl rfl ?_
 unfold rAfter at h
 refine wc_sr ?_
 refine wl_v (r := rI .i64 0) (o_assign rfl) rfl ?_
 refine wl_x ?_
 refine wc_seq ?_
 refine wc_sr ?_
 refine wl_v (r := rB ok) (o_move rfl) rfl ?_
 refine wl_x ?_
 refine wc_cond (b := ok) rfl (fun c1 => ?_) (fun c1 => ?_)
 ·have h2 := cnd_t c1 h
  refine wc_sr ?_
  refine wl_v (r := rI .i64 i) (o_move rfl) rfl ?_
  obtain ⟨g3, h4⟩ := chk_e h2
  refine wl_v (r := rI .i64 (i + 1)) (o_add rfl rfl g3) rfl ?_
  refine wl_v (r := rI .i64 (i + 1)) (o_assign rfl) rfl ?_
  refine wl_x ?_
  refine wc_ret ?_
  refine wk_then_ret ?_
  obtain rfl := some_e h4
  exact wk_ret (r_1 Tryz.results80 (rv_t rfl)) List.Sublist.slnil ⟨rfl, rfl⟩
 ·have h5 := cnd_f c1 h
  refine wc_skip ?_
  refine wk_x ?_
  refine wc_sr ?_
  refine wl_v (r := rI .i64 (-1)) (o_assign rfl) rfl ?_
  refine wl_x ?_
  refine wc_ret ?_
  obtain rfl := some_e h5
  exact wk_ret (r_1 Tryz.results80 (rv_t rfl)) List.Sublist.slnil ⟨rfl, rfl⟩

theorem rKey_w (F : Nat) (c : TApiCell) (r : Bool) (h : rKey F c = some r) : Fn Tryz.prog GE 81 [rAgg (eTApiCell c)] [] (fun R H => R = rB r ∧ H = []) := by
 refine enter (n := 21) Tryz.func81 rfl Tryz.ntmps81 rfl (fun w Z => ?_)
 refine wc_as (l' := [(0, rAgg (eTApiCell c))]) (H' := []) rfl rfl ?_
 unfold rKey at h
 refine wc_sr ?_
 refine w_box_agg rfl rfl (fun b1 => ?_)
 refine wl_v (r := rB false) (o_assign rfl) rfl ?_
 refine wl_x ?_
 obtain ⟨g2, h3⟩ := chk_e h
 refine wc_seq_mid [(2, rB ((decide (c.fKind = 4)) && ((decide (c.fInt = 0)) && ((decide (c.fN = 0)) && (ov (rPlain F c.fStr))))))] [] ?_ ?_
 ·refine wc_region ?_
  refine wl_v (r := rv (.pointer (some ⟨b1, 0, none⟩))) (o_fieldAddr Tryz.underlying63 rfl Tryz.sizeOf61 rfl rfl) rfl ?_
  refine wl_v (r := rI .i64 c.fKind) (o_load (i := 0) Tryz.isAgg61 rfl rfl rfl) rfl ?_
  refine wl_v (r := rB (decide (c.fKind = 4))) (o_eq rfl rfl) rfl ?_
  refine wl_v (r := rB (decide (c.fKind = 4))) (o_move rfl) rfl ?_
  refine bsplit (decide (c.fKind = 4)) (fun c4 => ?_) (fun c4 => ?_)
  ·refine wl_on (b := decide (c.fKind = 4)) rfl rfl c4 ?_
   refine wl_v (r := rv (.pointer (some ⟨b1, 1, none⟩))) (o_fieldAddr Tryz.underlying63 rfl Tryz.sizeOf3 rfl rfl) rfl ?_
   refine wl_on (b := decide (c.fKind = 4)) rfl rfl c4 ?_
   refine wl_v (r := rI .i64 c.fInt) (o_load (i := 0) Tryz.isAgg3 rfl rfl rfl) rfl ?_
   refine wl_on (b := decide (c.fKind = 4)) rfl rfl c4 ?_
   refine wl_v (r := rB (decide (c.fInt = 0))) (o_eq rfl rfl) rfl ?_
   refine wl_v (r := rB (decide (c.fInt = 0))) (o_pick_t (b := decide (c.fKind = 4)) rfl c4 rfl) rfl ?_
   refine wl_v (r := rB (decide (c.fInt = 0))) (o_move rfl) rfl ?_
   refine bsplit (decide (c.fInt = 0)) (fun c5 => ?_) (fun c5 => ?_)
   ·refine wl_on (b := decide (c.fInt = 0)) rfl rfl c5 ?_
    refine wl_v (r := rv (.pointer (some ⟨b1, 3, none⟩))) (o_fieldAddr Tryz.underlying63 rfl Tryz.sizeOf3 rfl rfl) rfl ?_
    refine wl_on (b := decide (c.fInt = 0)) rfl rfl c5 ?_
    refine wl_v (r := rI .i64 c.fN) (o_load (i := 0) Tryz.isAgg3 rfl rfl rfl) rfl ?_
    refine wl_on (b := decide (c.fInt = 0)) rfl rfl c5 ?_
    refine wl_v (r := rB (decide (c.fN = 0))) (o_eq rfl rfl) rfl ?_
    refine wl_v (r := rB (decide (c.fN = 0))) (o_pick_t (b := decide (c.fInt = 0)) rfl c5 rfl) rfl ?_
    refine wl_v (r := rB (decide (c.fN = 0))) (o_move rfl) rfl ?_
    refine bsplit (decide (c.fN = 0)) (fun c6 => ?_) (fun c6 => ?_)
    ·refine wl_on (b := decide (c.fN = 0)) rfl rfl c6 ?_
     refine wl_v (r := rv (.pointer (some ⟨b1, 2, none⟩))) (o_fieldAddr Tryz.underlying63 rfl Tryz.sizeOf9 rfl rfl) rfl ?_
     refine wl_on (b := decide (c.fN = 0)) rfl rfl c6 ?_
     refine wl_v (r := rS c.fStr) (o_load (i := 0) Tryz.isAgg9 rfl rfl rfl) rfl ?_
     refine wl_on (b := decide (c.fN = 0)) rfl rfl c6 ?_
     refine w_call0 (rs := [rS c.fStr]) (r := rB (ov (rPlain F c.fStr))) Tryz.call99 rfl (rPlain_w F c.fStr (ov (rPlain F c.fStr)) (ov_e (imp_t (imp_t (imp_t g2 c4) c5) c6))) rfl rfl ?_
     refine wl_v (r := rB (ov (rPlain F c.fStr))) (o_pick_t (b := decide (c.fN = 0)) rfl c6 rfl) rfl ?_
     refine wl_v (r := rB (ov (rPlain F c.fStr))) (o_assign rfl) rfl ?_
     refine wl_nil ?_
     exact wk_then (wk_mid (Sub.c (by first | rfl | (simp only [c4, c5, c6, Bool.true_and, Bool.false_and, Bool.true_or, Bool.false_or, Bool.and_true, Bool.and_false, Bool.or_true, Bool.or_false, Bool.not_true, Bool.not_false, cond_true, cond_false]; rfl)) Sub.nil) (List.Sublist.cons _ List.Sublist.slnil))
    ·refine wl_off (b := decide (c.fN = 0)) rfl rfl c6 rfl ?_
     refine wl_off (b := decide (c.fN = 0)) rfl rfl c6 rfl ?_
     refine wl_off (b := decide (c.fN = 0)) rfl rfl c6 rfl ?_
     refine wl_v (r := rB false) (o_pick_f (b := decide (c.fN = 0)) rfl c6 rfl) rfl ?_
     refine wl_v (r := rB false) (o_assign rfl) rfl ?_
     refine wl_nil ?_
     exact wk_then (wk_mid (Sub.c (by first | rfl | (simp only [c4, c5, c6, Bool.true_and, Bool.false_and, Bool.true_or, Bool.false_or, Bool.and_true, Bool.and_false, Bool.or_true, Bool.or_false, Bool.not_true, Bool.not_false, cond_true, cond_false]; rfl)) Sub.nil) (List.Sublist.cons _ List.Sublist.slnil))
   ·refine wl_off (b := decide (c.fInt = 0)) rfl rfl c5 rfl ?_
    refine wl_off (b := decide (c.fInt = 0)) rfl rfl c5 rfl ?_
    refine wl_off (b := decide (c.fInt = 0)) rfl rfl c5 rfl ?_
    refine wl_v (r := rB false) (o_pick_f (b := decide (c.fInt = 0)) rfl c5 rfl) rfl ?_
    refine wl_v (r := rB false) (o_move rfl) rfl ?_
    refine wl_off (b := false) rfl rfl rfl rfl ?_
    refine wl_off (b := false) rfl rfl rfl rfl ?_
    refine wl_off (b := false) rfl rfl rfl rfl ?_
    refine wl_v (r := rB false) (o_pick_f (b := false) rfl rfl rfl) rfl ?_
    refine wl_v (r := rB false) (o_assign rfl) rfl ?_
    refine wl_nil ?_
    exact wk_then (wk_mid (Sub.c (by first | rfl | (simp only [c4, c5, Bool.true_and, Bool.false_and, Bool.true_or, Bool.false_or, Bool.and_true, Bool.and_false, Bool.or_true, Bool.or_false, Bool.not_true, Bool.not_false, cond_true, cond_false]; rfl)) Sub.nil) (List.Sublist.cons _ List.Sublist.slnil))
  ·refine wl_off (b := decide (c.fKind = 4)) rfl rfl c4 rfl ?_
   refine wl_off (b := decide (c.fKind = 4)) rfl rfl c4 rfl ?_
   refine wl_off (b := decide (c.fKind = 4)) rfl rfl c4 rfl ?_
   refine wl_v (r := rB false) (o_pick_f (b := decide (c.fKind = 4)) rfl c4 rfl) rfl ?_
   refine wl_v (r := rB false) (o_move rfl) rfl ?_
   refine wl_off (b := false) rfl rfl rfl rfl ?_
   refine wl_off (b := false) rfl rfl rfl rfl ?_
   refine wl_off (b := false) rfl rfl rfl rfl ?_
   refine wl_v (r := rB false) (o_pick_f (b := false) rfl rfl rfl) rfl ?_
   refine wl_v (r := rB false) (o_move rfl) rfl ?_
   refine wl_off (b := false) rfl rfl rfl rfl ?_
   refine wl_off (b := false) rfl rfl rfl rfl ?_
   refine wl_off (b := false) rfl rfl rfl rfl ?_
   refine wl_v (r := rB false) (o_pick_f (b := false) rfl rfl rfl) rfl ?_
   refine wl_v (r := rB false) (o_assign rfl) rfl ?_
   refine wl_nil ?_
   exact wk_then (wk_mid (Sub.c (by first | rfl | (simp only [c4, Bool.true_and, Bool.false_and, Bool.true_or, Bool.false_or, Bool.and_true, Bool.and_false, Bool.or_true, Bool.or_false, Bool.not_true, Bool.not_false, cond_true, cond_false]; rfl)) Sub.nil) (List.Sublist.cons _ List.Sublist.slnil))
 refine wc_ret ?_
 obtain rfl := some_e h3
 exact wk_ret (r_1 Tryz.results81 (rv_t rfl)) List.Sublist.slnil ⟨rfl, rfl⟩

theorem rNextm_w (F : Nat) (rec_rElements : (List TApiCell) → Int → Int → Option (Int)) (rec_rPairs : (List TApiCell) → Int → Int → Option (Int)) (ih_rElements : (∀ (v : (List TApiCell)) (i : Int) (n : Int) (r : Int), rec_rElements v i n = some r → Fn Tryz.prog GE 82 [rSl 4 (List.map eTApiCell v), rI .i64 i, rI .i64 n] [] (fun R H => R = rI .i64 r ∧ H = []))) (ih_rPairs : (∀ (v : (List TApiCell)) (i : Int) (n : Int) (r : Int), rec_rPairs v i n = some r → Fn Tryz.prog GE 83 [rSl 4 (List.map eTApiCell v), rI .i64 i, rI .i64 n] [] (fun R H => R = rI .i64 r ∧ H = []))) (v : (List TApiCell)) (i : Int) (r : Int) (h : rNextm F rec_rElements rec_rPairs v i = some r) : Fn Tryz.prog GE 55 [rSl 4 (List.map eTApiCell v), rI .i64 i] [] (fun R H => R = rI .i64 r ∧ H = []) := by
 refine enter (n := 127) Tryz.func55 rfl Tryz.ntmps55 rfl (fun w Z => ?_)
 refine wc_as (l' := [(0, rSl 4 (List.map eTApiCell v)), (1, rI .i64 i)]) (H' := []) rfl rfl ?_
 unfold rNextm at h
 refine wc_sr ?_
 refine wl_v (r := rI .i64 0) (o_assign rfl) rfl ?_
 refine wl_x ?_
 refine wc_seq ?_
 refine wc_seq_mid [(0, rSl 4 (List.map eTApiCell v)), (1, rI .i64 i), (4, rI .i64 0), (13, rB ((decide (i < 0)) || (decide ((v.length : Int) ≤ i))))] [] ?_ ?_
 ·refine wc_region ?_
  refine wl_v (r := rI .i64 i) (o_move rfl) rfl ?_
  refine wl_v (r := rB (decide (i < 0))) (o_lt rfl rfl) rfl ?_
  refine wl_v (r := rB (decide (i < 0))) (o_move rfl) rfl ?_
  refine bsplit (decide (i < 0)) (fun c1 => ?_) (fun c1 => ?_)
  ·refine wl_off (b := decide (i < 0)) rfl rfl c1 rfl ?_
   refine wl_off (b := decide (i < 0)) rfl rfl c1 rfl ?_
   refine wl_off (b := decide (i < 0)) rfl rfl c1 rfl ?_
   refine wl_off (b := decide (i < 0)) rfl rfl c1 rfl ?_
   refine wl_v (r := rB true) (o_pick_t (b := decide (i < 0)) rfl c1 rfl) rfl ?_
   refine wl_nil ?_
   exact wk_then (wk_mid (Sub.c rfl (Sub.c rfl (Sub.c rfl (Sub.c (by first | rfl | (simp only [c1, Bool.true_and, Bool.false_and, Bool.true_or, Bool.false_or, Bool.and_true, Bool.and_false, Bool.or_true, Bool.or_false, Bool.not_true, Bool.not_false, cond_true, cond_false]; rfl)) Sub.nil)))) List.Sublist.slnil)
  ·refine wl_on (b := decide (i < 0)) rfl rfl c1 ?_
   refine wl_v (r := rI .i64 i) (o_move rfl) rfl ?_
   refine wl_on (b := decide (i < 0)) rfl rfl c1 ?_
   refine wl_v (r := rSl 4 (List.map eTApiCell v)) (o_move rfl) rfl ?_
   refine wl_on (b := decide (i < 0)) rfl rfl c1 ?_
   refine wl_v (r := rI .i64 (v.length : Int)) (o_len_zt (ys := v) (enc := eTApiCell) Tryz.underlying23 rfl) rfl ?_
   refine wl_on (b := decide (i < 0)) rfl rfl c1 ?_
   refine wl_v (r := rB (decide ((v.length : Int) ≤ i))) (o_ge rfl rfl) rfl ?_
   refine wl_v (r := rB (decide ((v.length : Int) ≤ i))) (o_pick_f (b := decide (i < 0)) rfl c1 rfl) rfl ?_
   refine wl_nil ?_
   exact wk_then (wk_mid (Sub.c rfl (Sub.c rfl (Sub.c rfl (Sub.c (by first | rfl | (simp only [c1, Bool.true_and, Bool.false_and, Bool.true_or, Bool.false_or, Bool.and_true, Bool.and_false, Bool.or_true, Bool.or_false, Bool.not_true, Bool.not_false, cond_true, cond_false]; rfl)) Sub.nil)))) List.Sublist.slnil)
 refine wc_cond (b := ((decide (i < 0)) || (decide ((v.length : Int) ≤ i)))) rfl (fun c2 => ?_) (fun c2 => ?_)
 ·have h3 := cnd_t c2 h
  refine wc_sr ?_
  refine wl_v (r := rI .i64 (-1)) (o_assign rfl) rfl ?_
  refine wl_x ?_
  refine wc_ret ?_
  refine wk_then_ret ?_
  obtain rfl := some_e h3
  exact wk_ret (r_1 Tryz.results55 (rv_t rfl)) List.Sublist.slnil ⟨rfl, rfl⟩
 ·have h4 := cnd_f c2 h
  refine wc_skip ?_
  refine wk_x ?_
  refine wc_sr ?_
  refine wl_v (r := rSl 4 (List.map eTApiCell v)) (o_move rfl) rfl ?_
  refine wl_v (r := rI .i64 i) (o_move rfl) rfl ?_
  obtain ⟨g5, h6⟩ := chk_e h4
  refine wl_v (r := rAt (eTApiCell (at' v i))) (o_ix_z (enc := eTApiCell) (ys := v) Tryz.underlying23 Tryz.sizeOf63 rfl rfl g5) rfl ?_
  refine wl_v (r := rAgg (eTApiCell (at' v i))) (o_load_za Tryz.isAgg63 Tryz.sizeOf63 rfl rfl rfl) rfl ?_
  refine w_alloc (cs := [rI .i64 0, rI .i64 0, rS ([] : Str), rI .i64 0]) Tryz.zeroValue63 rfl rfl (fun b7 => ?_)
  refine u_store_agg (i := 0) Tryz.sizeOf63 rfl rfl rfl (OneAll.c rfl) rfl rfl (cs' := [rI .i64 ((at' v i).fKind), rI .i64 ((at' v i).fInt), rS ((at' v i).fStr), rI .i64 ((at' v i).fN)]) rfl (H' := [.blk b7 (eTApiCell (at' v i)) 63]) rfl ?_
  refine wl_x ?_
  refine wc_seq ?_
  refine wc_sr ?_
  refine wl_v (r := rv (.pointer (some ⟨b7, 0, none⟩))) (o_fieldAddr Tryz.underlying63 rfl Tryz.sizeOf61 rfl rfl) rfl ?_
  refine wl_v (r := rI .i64 ((at' v i).fKind)) (o_load (i := 0) Tryz.isAgg61 rfl rfl rfl) rfl ?_
  refine wl_v (r := rB (decide (((at' v i).fKind) = 1))) (o_eq rfl rfl) rfl ?_
  refine wl_x ?_
  refine wc_cond (b := decide (((at' v i).fKind) = 1)) rfl (fun c8 => ?_) (fun c8 => ?_)
  ·have h9 := cnd_t c8 h6
   obtain ⟨g10, h11⟩ := chk_e h9
   obtain ⟨g12, h13⟩ := chk_e h11
   obtain ⟨g14, h15⟩ := chk_e h13
   refine wc_seq_mid [(0, rSl 4 (List.map eTApiCell v)), (1, rI .i64 i), (4, rI .i64 (bif decide (((at' v i).fInt) = 0) then (bif decide (((at' v i).fStr) = ([] : Str)) then (ov (rAfter (decide (((at' v i).fN) = 0)) i)) else (ov (rAfter false i))) else (ov (rAfter false i)))), (5, rv (.pointer (some ⟨b7, 0, none⟩)))] [.blk b7 (eTApiCell (at' v i)) 63] ?_ ?_
   ·refine wc_region ?_
    refine wl_v (r := rv (.pointer (some ⟨b7, 1, none⟩))) (o_fieldAddr Tryz.underlying63 rfl Tryz.sizeOf3 rfl rfl) rfl ?_
    refine wl_v (r := rI .i64 ((at' v i).fInt)) (o_load (i := 0) Tryz.isAgg3 rfl rfl rfl) rfl ?_
    refine wl_v (r := rB (decide (((at' v i).fInt) = 0))) (o_eq rfl rfl) rfl ?_
    refine wl_v (r := rB (decide (((at' v i).fInt) = 0))) (o_move rfl) rfl ?_
    refine bsplit (decide (((at' v i).fInt) = 0)) (fun c16 => ?_) (fun c16 => ?_)
    ·refine wl_on (b := decide (((at' v i).fInt) = 0)) rfl rfl c16 ?_
     refine wl_v (r := rv (.pointer (some ⟨b7, 2, none⟩))) (o_fieldAddr Tryz.underlying63 rfl Tryz.sizeOf9 rfl rfl) rfl ?_
     refine wl_on (b := decide (((at' v i).fInt) = 0)) rfl rfl c16 ?_
     refine wl_v (r := rS ((at' v i).fStr)) (o_load (i := 0) Tryz.isAgg9 rfl rfl rfl) rfl ?_
     refine wl_on (b := decide (((at' v i).fInt) = 0)) rfl rfl c16 ?_
     refine wl_v (r := rB (decide (((at' v i).fStr) = ([] : Str)))) (o_seq rfl rfl) rfl ?_
     refine wl_v (r := rB (decide (((at' v i).fStr) = ([] : Str)))) (o_pick_t (b := decide (((at' v i).fInt) = 0)) rfl c16 rfl) rfl ?_
     refine wl_v (r := rB (decide (((at' v i).fStr) = ([] : Str)))) (o_move rfl) rfl ?_
     refine bsplit (decide (((at' v i).fStr) = ([] : Str))) (fun c17 => ?_) (fun c17 => ?_)
     ·refine wl_on (b := decide (((at' v i).fStr) = ([] : Str))) rfl rfl c17 ?_
      refine wl_v (r := rv (.pointer (some ⟨b7, 3, none⟩))) (o_fieldAddr Tryz.underlying63 rfl Tryz.sizeOf3 rfl rfl) rfl ?_
      refine wl_on (b := decide (((at' v i).fStr) = ([] : Str))) rfl rfl c17 ?_
      refine wl_v (r := rI .i64 ((at' v i).fN)) (o_load (i := 0) Tryz.isAgg3 rfl rfl rfl) rfl ?_
      refine wl_on (b := decide (((at' v i).fStr) = ([] : Str))) rfl rfl c17 ?_
      refine wl_v (r := rB (decide (((at' v i).fN) = 0))) (o_eq rfl rfl) rfl ?_
      refine wl_v (r := rB (decide (((at' v i).fN) = 0))) (o_pick_t (b := decide (((at' v i).fStr) = ([] : Str))) rfl c17 rfl) rfl ?_
      refine wl_v (r := rI .i64 i) (o_move rfl) rfl ?_
      refine w_call0 (rs := [rB (decide (((at' v i).fN) = 0)), rI .i64 i]) (r := rI .i64 (ov (rAfter (decide (((at' v i).fN) = 0)) i))) Tryz.call80 rfl (rAfter_w (decide (((at' v i).fN) = 0)) i (ov (rAfter (decide (((at' v i).fN) = 0)) i)) (ov_e (imp_t (imp_t g10 c16) c17))) rfl rfl ?_
      refine wl_v (r := rI .i64 (ov (rAfter (decide (((at' v i).fN) = 0)) i))) (o_assign rfl) rfl ?_
      refine wl_nil ?_
      exact wk_then (wk_mid (Sub.c rfl (Sub.c rfl (Sub.c (by first | rfl | (simp only [c16, c17, Bool.true_and, Bool.false_and, Bool.true_or, Bool.false_or, Bool.and_true, Bool.and_false, Bool.or_true, Bool.or_false, Bool.not_true, Bool.not_false, cond_true, cond_false]; rfl)) (Sub.c rfl Sub.nil)))) (List.Sublist.cons_cons _ List.Sublist.slnil))
     ·refine wl_off (b := decide (((at' v i).fStr) = ([] : Str))) rfl rfl c17 rfl ?_
      refine wl_off (b := decide (((at' v i).fStr) = ([] : Str))) rfl rfl c17 rfl ?_
      refine wl_off (b := decide (((at' v i).fStr) = ([] : Str))) rfl rfl c17 rfl ?_
      refine wl_v (r := rB false) (o_pick_f (b := decide (((at' v i).fStr) = ([] : Str))) rfl c17 rfl) rfl ?_
      refine wl_v (r := rI .i64 i) (o_move rfl) rfl ?_
      refine w_call0 (rs := [rB false, rI .i64 i]) (r := rI .i64 (ov (rAfter false i))) Tryz.call80 rfl (rAfter_w false i (ov (rAfter false i)) (ov_e (imp_f (imp_t g12 c16) c17))) rfl rfl ?_
      refine wl_v (r := rI .i64 (ov (rAfter false i))) (o_assign rfl) rfl ?_
      refine wl_nil ?_
      exact wk_then (wk_mid (Sub.c rfl (Sub.c rfl (Sub.c (by first | rfl | (simp only [c16, c17, Bool.true_and, Bool.false_and, Bool.true_or, Bool.false_or, Bool.and_true, Bool.and_false, Bool.or_true, Bool.or_false, Bool.not_true, Bool.not_false, cond_true, cond_false]; rfl)) (Sub.c rfl Sub.nil)))) (List.Sublist.cons_cons _ List.Sublist.slnil))
    ·refine wl_off (b := decide (((at' v i).fInt) = 0)) rfl rfl c16 rfl ?_
     refine wl_off (b := decide (((at' v i).fInt) = 0)) rfl rfl c16 rfl ?_
     refine wl_off (b := decide (((at' v i).fInt) = 0)) rfl rfl c16 rfl ?_
     refine wl_v (r := rB false) (o_pick_f (b := decide (((at' v i).fInt) = 0)) rfl c16 rfl) rfl ?_
     refine wl_v (r := rB false) (o_move rfl) rfl ?_
     refine wl_off (b := false) rfl rfl rfl rfl ?_
     refine wl_off (b := false) rfl rfl rfl rfl ?_
     refine wl_off (b := false) rfl rfl rfl rfl ?_
     refine wl_v (r := rB false) (o_pick_f (b := false) rfl rfl rfl) rfl ?_
     refine wl_v (r := rI .i64 i) (o_move rfl) rfl ?_
     refine w_call0 (rs := [rB false, rI .i64 i]) (r := rI .i64 (ov (rAfter false i))) Tryz.call80 rfl (rAfter_w false i (ov (rAfter false i)) (ov_e (imp_f g14 c16))) rfl rfl ?_
     refine wl_v (r := rI .i64 (ov (rAfter false i))) (o_assign rfl) rfl ?_
     refine wl_nil ?_
     exact wk_then (wk_mid (Sub.c rfl (Sub.c rfl (Sub.c (by first | rfl | (simp only [c16, Bool.true_and, Bool.false_and, Bool.true_or, Bool.false_or, Bool.and_true, Bool.and_false, Bool.or_true, Bool.or_false, Bool.not_true, Bool.not_false, cond_true, cond_false]; rfl)) (Sub.c rfl Sub.nil)))) (List.Sublist.cons_cons _ List.Sublist.slnil))
   refine wc_ret ?_
   refine wk_then_ret ?_
   obtain rfl := some_e h15
   exact wk_ret (r_1 Tryz.results55 (rv_t rfl)) (List.Sublist.cons _ List.Sublist.slnil) ⟨rfl, rfl⟩
  ·have h18 := cnd_f c8 h6
   refine wc_skip ?_
   refine wk_x ?_
   refine wc_seq ?_
   refine wc_sr ?_
   refine wl_v (r := rv (.pointer (some ⟨b7, 0, none⟩))) (o_fieldAddr Tryz.underlying63 rfl Tryz.sizeOf61 rfl rfl) rfl ?_
   refine wl_v (r := rI .i64 ((at' v i).fKind)) (o_load (i := 0) Tryz.isAgg61 rfl rfl rfl) rfl ?_
   refine wl_v (r := rB (decide (((at' v i).fKind) = 2))) (o_eq rfl rfl) rfl ?_
   refine wl_x ?_
   refine wc_cond (b := decide (((at' v i).fKind) = 2)) rfl (fun c19 => ?_) (fun c19 => ?_)
   ·have h20 := cnd_t c19 h18
    obtain ⟨g21, h22⟩ := chk_e h20
    obtain ⟨g23, h24⟩ := chk_e h22
    obtain ⟨g25, h26⟩ := chk_e h24
    obtain ⟨g27, h28⟩ := chk_e h26
    obtain ⟨g29, h30⟩ := chk_e h28
    refine wc_seq_mid [(0, rSl 4 (List.map eTApiCell v)), (1, rI .i64 i), (4, rI .i64 (bif decide (((at' v i).fInt) = 0) then (bif decide (((at' v i).fStr) = ([] : Str)) then (ov (rAfter (decide (((at' v i).fN) = 0)) i)) else (ov (rAfter false i))) else (bif decide (((at' v i).fInt) = 1) then (bif decide (((at' v i).fStr) = ([] : Str)) then (ov (rAfter (decide (((at' v i).fN) = 0)) i)) else (ov (rAfter false i))) else (ov (rAfter false i))))), (5, rv (.pointer (some ⟨b7, 0, none⟩)))] [.blk b7 (eTApiCell (at' v i)) 63] ?_ ?_
    ·refine wc_region ?_
     refine wl_v (r := rv (.pointer (some ⟨b7, 1, none⟩))) (o_fieldAddr Tryz.underlying63 rfl Tryz.sizeOf3 rfl rfl) rfl ?_
     refine wl_v (r := rI .i64 ((at' v i).fInt)) (o_load (i := 0) Tryz.isAgg3 rfl rfl rfl) rfl ?_
     refine wl_v (r := rB (decide (((at' v i).fInt) = 0))) (o_eq rfl rfl) rfl ?_
     refine wl_v (r := rB (decide (((at' v i).fInt) = 0))) (o_move rfl) rfl ?_
     refine bsplit (decide (((at' v i).fInt) = 0)) (fun c31 => ?_) (fun c31 => ?_)
     ·refine wl_off (b := decide (((at' v i).fInt) = 0)) rfl rfl c31 rfl ?_
      refine wl_off (b := decide (((at' v i).fInt) = 0)) rfl rfl c31 rfl ?_
      refine wl_off (b := decide (((at' v i).fInt) = 0)) rfl rfl c31 rfl ?_
      refine wl_v (r := rB true) (o_pick_t (b := decide (((at' v i).fInt) = 0)) rfl c31 rfl) rfl ?_
      refine wl_v (r := rB true) (o_move rfl) rfl ?_
      refine wl_on (b := true) rfl rfl rfl ?_
      refine wl_v (r := rv (.pointer (some ⟨b7, 2, none⟩))) (o_fieldAddr Tryz.underlying63 rfl Tryz.sizeOf9 rfl rfl) rfl ?_
      refine wl_on (b := true) rfl rfl rfl ?_
      refine wl_v (r := rS ((at' v i).fStr)) (o_load (i := 0) Tryz.isAgg9 rfl rfl rfl) rfl ?_
      refine wl_on (b := true) rfl rfl rfl ?_
      refine wl_v (r := rB (decide (((at' v i).fStr) = ([] : Str)))) (o_seq rfl rfl) rfl ?_
      refine wl_v (r := rB (decide (((at' v i).fStr) = ([] : Str)))) (o_pick_t (b := true) rfl rfl rfl) rfl ?_
      refine wl_v (r := rB (decide (((at' v i).fStr) = ([] : Str)))) (o_move rfl) rfl ?_
      refine bsplit (decide (((at' v i).fStr) = ([] : Str))) (fun c32 => ?_) (fun c32 => ?_)
      ·refine wl_on (b := decide (((at' v i).fStr) = ([] : Str))) rfl rfl c32 ?_
       refine wl_v (r := rv (.pointer (some ⟨b7, 3, none⟩))) (o_fieldAddr Tryz.underlying63 rfl Tryz.sizeOf3 rfl rfl) rfl ?_
       refine wl_on (b := decide (((at' v i).fStr) = ([] : Str))) rfl rfl c32 ?_
       refine wl_v (r := rI .i64 ((at' v i).fN)) (o_load (i := 0) Tryz.isAgg3 rfl rfl rfl) rfl ?_
       refine wl_on (b := decide (((at' v i).fStr) = ([] : Str))) rfl rfl c32 ?_
       refine wl_v (r := rB (decide (((at' v i).fN) = 0))) (o_eq rfl rfl) rfl ?_
       refine wl_v (r := rB (decide (((at' v i).fN) = 0))) (o_pick_t (b := decide (((at' v i).fStr) = ([] : Str))) rfl c32 rfl) rfl ?_
       refine wl_v (r := rI .i64 i) (o_move rfl) rfl ?_
       refine w_call0 (rs := [rB (decide (((at' v i).fN) = 0)), rI .i64 i]) (r := rI .i64 (ov (rAfter (decide (((at' v i).fN) = 0)) i))) Tryz.call80 rfl (rAfter_w (decide (((at' v i).fN) = 0)) i (ov (rAfter (decide (((at' v i).fN) = 0)) i)) (ov_e (imp_t (imp_t g21 c31) c32))) rfl rfl ?_
       refine wl_v (r := rI .i64 (ov (rAfter (decide (((at' v i).fN) = 0)) i))) (o_assign rfl) rfl ?_
       refine wl_nil ?_
       exact wk_then (wk_mid (Sub.c rfl (Sub.c rfl (Sub.c (by first | rfl | (simp only [c31, c32, Bool.true_and, Bool.false_and, Bool.true_or, Bool.false_or, Bool.and_true, Bool.and_false, Bool.or_true, Bool.or_false, Bool.not_true, Bool.not_false, cond_true, cond_false]; rfl)) (Sub.c rfl Sub.nil)))) (List.Sublist.cons_cons _ List.Sublist.slnil))
      ·refine wl_off (b := decide (((at' v i).fStr) = ([] : Str))) rfl rfl c32 rfl ?_
       refine wl_off (b := decide (((at' v i).fStr) = ([] : Str))) rfl rfl c32 rfl ?_
       refine wl_off (b := decide (((at' v i).fStr) = ([] : Str))) rfl rfl c32 rfl ?_
       refine wl_v (r := rB false) (o_pick_f (b := decide (((at' v i).fStr) = ([] : Str))) rfl c32 rfl) rfl ?_
       refine wl_v (r := rI .i64 i) (o_move rfl) rfl ?_
       refine w_call0 (rs := [rB false, rI .i64 i]) (r := rI .i64 (ov (rAfter false i))) Tryz.call80 rfl (rAfter_w false i (ov (rAfter false i)) (ov_e (imp_f (imp_t g23 c31) c32))) rfl rfl ?_
       refine wl_v (r := rI .i64 (ov (rAfter false i))) (o_assign rfl) rfl ?_
       refine wl_nil ?_
       exact wk_then (wk_mid (Sub.c rfl (Sub.c rfl (Sub.c (by first | rfl | (simp only [c31, c32, Bool.true_and, Bool.false_and, Bool.true_or, Bool.false_or, Bool.and_true, Bool.and_false, Bool.or_true, Bool.or_false, Bool.not_true, Bool.not_false, cond_true, cond_false]; rfl)) (Sub.c rfl Sub.nil)))) (List.Sublist.cons_cons _ List.Sublist.slnil))
     ·refine wl_on (b := decide (((at' v i).fInt) = 0)) rfl rfl c31 ?_
      refine wl_v (r := rv (.pointer (some ⟨b7, 1, none⟩))) (o_fieldAddr Tryz.underlying63 rfl Tryz.sizeOf3 rfl rfl) rfl ?_
      refine wl_on (b := decide (((at' v i).fInt) = 0)) rfl rfl c31 ?_
      refine wl_v (r := rI .i64 ((at' v i).fInt)) (o_load (i := 0) Tryz.isAgg3 rfl rfl rfl) rfl ?_
      refine wl_on (b := decide (((at' v i).fInt) = 0)) rfl rfl c31 ?_
      refine wl_v (r := rB (decide (((at' v i).fInt) = 1))) (o_eq rfl rfl) rfl ?_
      refine wl_v (r := rB (decide (((at' v i).fInt) = 1))) (o_pick_f (b := decide (((at' v i).fInt) = 0)) rfl c31 rfl) rfl ?_
      refine wl_v (r := rB (decide (((at' v i).fInt) = 1))) (o_move rfl) rfl ?_
      refine bsplit (decide (((at' v i).fInt) = 1)) (fun c33 => ?_) (fun c33 => ?_)
      ·refine wl_on (b := decide (((at' v i).fInt) = 1)) rfl rfl c33 ?_
       refine wl_v (r := rv (.pointer (some ⟨b7, 2, none⟩))) (o_fieldAddr Tryz.underlying63 rfl Tryz.sizeOf9 rfl rfl) rfl ?_
       refine wl_on (b := decide (((at' v i).fInt) = 1)) rfl rfl c33 ?_
       refine wl_v (r := rS ((at' v i).fStr)) (o_load (i := 0) Tryz.isAgg9 rfl rfl rfl) rfl ?_
       refine wl_on (b := decide (((at' v i).fInt) = 1)) rfl rfl c33 ?_
       refine wl_v (r := rB (decide (((at' v i).fStr) = ([] : Str)))) (o_seq rfl rfl) rfl ?_
       refine wl_v (r := rB (decide (((at' v i).fStr) = ([] : Str)))) (o_pick_t (b := decide (((at' v i).fInt) = 1)) rfl c33 rfl) rfl ?_
       refine wl_v (r := rB (decide (((at' v i).fStr) = ([] : Str)))) (o_move rfl) rfl ?_
       refine bsplit (decide (((at' v i).fStr) = ([] : Str))) (fun c34 => ?_) (fun c34 => ?_)
       ·refine wl_on (b := decide (((at' v i).fStr) = ([] : Str))) rfl rfl c34 ?_
        refine wl_v (r := rv (.pointer (some ⟨b7, 3, none⟩))) (o_fieldAddr Tryz.underlying63 rfl Tryz.sizeOf3 rfl rfl) rfl ?_
        refine wl_on (b := decide (((at' v i).fStr) = ([] : Str))) rfl rfl c34 ?_
        refine wl_v (r := rI .i64 ((at' v i).fN)) (o_load (i := 0) Tryz.isAgg3 rfl rfl rfl) rfl ?_
        refine wl_on (b := decide (((at' v i).fStr) = ([] : Str))) rfl rfl c34 ?_
        refine wl_v (r := rB (decide (((at' v i).fN) = 0))) (o_eq rfl rfl) rfl ?_
        refine wl_v (r := rB (decide (((at' v i).fN) = 0))) (o_pick_t (b := decide (((at' v i).fStr) = ([] : Str))) rfl c34 rfl) rfl ?_
        refine wl_v (r := rI .i64 i) (o_move rfl) rfl ?_
        refine w_call0 (rs := [rB (decide (((at' v i).fN) = 0)), rI .i64 i]) (r := rI .i64 (ov (rAfter (decide (((at' v i).fN) = 0)) i))) Tryz.call80 rfl (rAfter_w (decide (((at' v i).fN) = 0)) i (ov (rAfter (decide (((at' v i).fN) = 0)) i)) (ov_e (imp_t (imp_t (imp_f g25 c31) c33) c34))) rfl rfl ?_
        refine wl_v (r := rI .i64 (ov (rAfter (decide (((at' v i).fN) = 0)) i))) (o_assign rfl) rfl ?_
        refine wl_nil ?_
        exact wk_then (wk_mid (Sub.c rfl (Sub.c rfl (Sub.c (by first | rfl | (simp only [c31, c33, c34, Bool.true_and, Bool.false_and, Bool.true_or, Bool.false_or, Bool.and_true, Bool.and_false, Bool.or_true, Bool.or_false, Bool.not_true, Bool.not_false, cond_true, cond_false]; rfl)) (Sub.c rfl Sub.nil)))) (List.Sublist.cons_cons _ List.Sublist.slnil))
       ·refine wl_off (b := decide (((at' v i).fStr) = ([] : Str))) rfl rfl c34 rfl ?_
        refine wl_off (b := decide (((at' v i).fStr) = ([] : Str))) rfl rfl c34 rfl ?_
        refine wl_off (b := decide (((at' v i).fStr) = ([] : Str))) rfl rfl c34 rfl ?_
        refine wl_v (r := rB false) (o_pick_f (b := decide (((at' v i).fStr) = ([] : Str))) rfl c34 rfl) rfl ?_
        refine wl_v (r := rI .i64 i) (o_move rfl) rfl ?_
        refine w_call0 (rs := [rB false, rI .i64 i]) (r := rI .i64 (ov (rAfter false i))) Tryz.call80 rfl (rAfter_w false i (ov (rAfter false i)) (ov_e (imp_f (imp_t (imp_f g27 c31) c33) c34))) rfl rfl ?_
        refine wl_v (r := rI .i64 (ov (rAfter false i))) (o_assign rfl) rfl ?_
        refine wl_nil ?_
        exact wk_then (wk_mid (Sub.c rfl (Sub.c rfl (Sub.c (by first | rfl | (simp only [c31, c33, c34, Bool.true_and, Bool.false_and, Bool.true_or, Bool.false_or, Bool.and_true, Bool.and_false, Bool.or_true, Bool.or_false, Bool.not_true, Bool.not_false, cond_true, cond_false]; rfl)) (Sub.c rfl Sub.nil)))) (List.Sublist.cons_cons _ List.Sublist.slnil))
      ·refine wl_off (b := decide (((at' v i).fInt) = 1)) rfl rfl c33 rfl ?_
       refine wl_off (b := decide (((at' v i).fInt) = 1)) rfl rfl c33 rfl ?_
       refine wl_off (b := decide (((at' v i).fInt) = 1)) rfl rfl c33 rfl ?_
       refine wl_v (r := rB false) (o_pick_f (b := decide (((at' v i).fInt) = 1)) rfl c33 rfl) rfl ?_
       refine wl_v (r := rB false) (o_move rfl) rfl ?_
       refine wl_off (b := false) rfl rfl rfl rfl ?_
       refine wl_off (b := false) rfl rfl rfl rfl ?_
       refine wl_off (b := false) rfl rfl rfl rfl ?_
       refine wl_v (r := rB false) (o_pick_f (b := false) rfl rfl rfl) rfl ?_
       refine wl_v (r := rI .i64 i) (o_move rfl) rfl ?_
       refine w_call0 (rs := [rB false, rI .i64 i]) (r := rI .i64 (ov (rAfter false i))) Tryz.call80 rfl (rAfter_w false i (ov (rAfter false i)) (ov_e (imp_f (imp_f g29 c31) c33))) rfl rfl ?_
       refine wl_v (r := rI .i64 (ov (rAfter false i))) (o_assign rfl) rfl ?_
       refine wl_nil ?_
       exact wk_then (wk_mid (Sub.c rfl (Sub.c rfl (Sub.c (by first | rfl | (simp only [c31, c33, Bool.true_and, Bool.false_and, Bool.true_or, Bool.false_or, Bool.and_true, Bool.and_false, Bool.or_true, Bool.or_false, Bool.not_true, Bool.not_false, cond_true, cond_false]; rfl)) (Sub.c rfl Sub.nil)))) (List.Sublist.cons_cons _ List.Sublist.slnil))
    refine wc_ret ?_
    refine wk_then_ret ?_
    obtain rfl := some_e h30
    exact wk_ret (r_1 Tryz.results55 (rv_t rfl)) (List.Sublist.cons _ List.Sublist.slnil) ⟨rfl, rfl⟩
   ·have h35 := cnd_f c19 h18
    refine wc_skip ?_
    refine wk_x ?_
    refine wc_seq ?_
    refine wc_sr ?_
    refine wl_v (r := rv (.pointer (some ⟨b7, 0, none⟩))) (o_fieldAddr Tryz.underlying63 rfl Tryz.sizeOf61 rfl rfl) rfl ?_
    refine wl_v (r := rI .i64 ((at' v i).fKind)) (o_load (i := 0) Tryz.isAgg61 rfl rfl rfl) rfl ?_
    refine wl_v (r := rB (decide (((at' v i).fKind) = 3))) (o_eq rfl rfl) rfl ?_
    refine wl_x ?_
    refine wc_cond (b := decide (((at' v i).fKind) = 3)) rfl (fun c36 => ?_) (fun c36 => ?_)
    ·have h37 := cnd_t c36 h35
     obtain ⟨g38, h39⟩ := chk_e h37
     obtain ⟨g40, h41⟩ := chk_e h39
     refine wc_seq_mid [(0, rSl 4 (List.map eTApiCell v)), (1, rI .i64 i), (4, rI .i64 (bif decide (((at' v i).fStr) = ([] : Str)) then (ov (rAfter (decide (((at' v i).fN) = 0)) i)) else (ov (rAfter false i)))), (5, rv (.pointer (some ⟨b7, 0, none⟩)))] [.blk b7 (eTApiCell (at' v i)) 63] ?_ ?_
     ·refine wc_region ?_
      refine wl_v (r := rv (.pointer (some ⟨b7, 2, none⟩))) (o_fieldAddr Tryz.underlying63 rfl Tryz.sizeOf9 rfl rfl) rfl ?_
      refine wl_v (r := rS ((at' v i).fStr)) (o_load (i := 0) Tryz.isAgg9 rfl rfl rfl) rfl ?_
      refine wl_v (r := rB (decide (((at' v i).fStr) = ([] : Str)))) (o_seq rfl rfl) rfl ?_
      refine wl_v (r := rB (decide (((at' v i).fStr) = ([] : Str)))) (o_move rfl) rfl ?_
      refine bsplit (decide (((at' v i).fStr) = ([] : Str))) (fun c42 => ?_) (fun c42 => ?_)
      ·refine wl_on (b := decide (((at' v i).fStr) = ([] : Str))) rfl rfl c42 ?_
       refine wl_v (r := rv (.pointer (some ⟨b7, 3, none⟩))) (o_fieldAddr Tryz.underlying63 rfl Tryz.sizeOf3 rfl rfl) rfl ?_
       refine wl_on (b := decide (((at' v i).fStr) = ([] : Str))) rfl rfl c42 ?_
       refine wl_v (r := rI .i64 ((at' v i).fN)) (o_load (i := 0) Tryz.isAgg3 rfl rfl rfl) rfl ?_
       refine wl_on (b := decide (((at' v i).fStr) = ([] : Str))) rfl rfl c42 ?_
       refine wl_v (r := rB (decide (((at' v i).fN) = 0))) (o_eq rfl rfl) rfl ?_
       refine wl_v (r := rB (decide (((at' v i).fN) = 0))) (o_pick_t (b := decide (((at' v i).fStr) = ([] : Str))) rfl c42 rfl) rfl ?_
       refine wl_v (r := rI .i64 i) (o_move rfl) rfl ?_
       refine w_call0 (rs := [rB (decide (((at' v i).fN) = 0)), rI .i64 i]) (r := rI .i64 (ov (rAfter (decide (((at' v i).fN) = 0)) i))) Tryz.call80 rfl (rAfter_w (decide (((at' v i).fN) = 0)) i (ov (rAfter (decide (((at' v i).fN) = 0)) i)) (ov_e (imp_t g38 c42))) rfl rfl ?_
       refine wl_v (r := rI .i64 (ov (rAfter (decide (((at' v i).fN) = 0)) i))) (o_assign rfl) rfl ?_
       refine wl_nil ?_
       exact wk_then (wk_mid (Sub.c rfl (Sub.c rfl (Sub.c (by first | rfl | (simp only [c42, Bool.true_and, Bool.false_and, Bool.true_or, Bool.false_or, Bool.and_true, Bool.and_false, Bool.or_true, Bool.or_false, Bool.not_true, Bool.not_false, cond_true, cond_false]; rfl)) (Sub.c rfl Sub.nil)))) (List.Sublist.cons_cons _ List.Sublist.slnil))
      ·refine wl_off (b := decide (((at' v i).fStr) = ([] : Str))) rfl rfl c42 rfl ?_
       refine wl_off (b := decide (((at' v i).fStr) = ([] : Str))) rfl rfl c42 rfl ?_
       refine wl_off (b := decide (((at' v i).fStr) = ([] : Str))) rfl rfl c42 rfl ?_
       refine wl_v (r := rB false) (o_pick_f (b := decide (((at' v i).fStr) = ([] : Str))) rfl c42 rfl) rfl ?_
       refine wl_v (r := rI .i64 i) (o_move rfl) rfl ?_
       refine w_call0 (rs := [rB false, rI .i64 i]) (r := rI .i64 (ov (rAfter false i))) Tryz.call80 rfl (rAfter_w false i (ov (rAfter false i)) (ov_e (imp_f g40 c42))) rfl rfl ?_
       refine wl_v (r := rI .i64 (ov (rAfter false i))) (o_assign rfl) rfl ?_
       refine wl_nil ?_
       exact wk_then (wk_mid (Sub.c rfl (Sub.c rfl (Sub.c (by first | rfl | (simp only [c42, Bool.true_and, Bool.false_and, Bool.true_or, Bool.false_or, Bool.and_true, Bool.and_false, Bool.or_true, Bool.or_false, Bool.not_true, Bool.not_false, cond_true, cond_false]; rfl)) (Sub.c rfl Sub.nil)))) (List.Sublist.cons_cons _ List.Sublist.slnil))
     refine wc_ret ?_
     refine wk_then_ret ?_
     obtain rfl := some_e h41
     exact wk_ret (r_1 Tryz.results55 (rv_t rfl)) (List.Sublist.cons _ List.Sublist.slnil) ⟨rfl, rfl⟩
    ·have h43 := cnd_f c36 h35
     refine wc_skip ?_
     refine wk_x ?_
     refine wc_seq ?_
     refine wc_sr ?_
     refine wl_v (r := rv (.pointer (some ⟨b7, 0, none⟩))) (o_fieldAddr Tryz.underlying63 rfl Tryz.sizeOf61 rfl rfl) rfl ?_
     refine wl_v (r := rI .i64 ((at' v i).fKind)) (o_load (i := 0) Tryz.isAgg61 rfl rfl rfl) rfl ?_
     refine wl_v (r := rB (decide (((at' v i).fKind) = 4))) (o_eq rfl rfl) rfl ?_
     refine wl_x ?_
     refine wc_cond (b := decide (((at' v i).fKind) = 4)) rfl (fun c44 => ?_) (fun c44 => ?_)
     ·have h45 := cnd_t c44 h43
      refine wc_sr ?_
      refine wl_v (r := rAgg (eTApiCell (at' v i))) (o_load_agg (i := 0) Tryz.isAgg63 Tryz.sizeOf63 rfl rfl rfl rfl) rfl ?_
      obtain ⟨r46, e48, h47⟩ := obn_e h45
      refine w_call0 (rs := [rAgg (eTApiCell (at' v i))]) (r := rB r46) Tryz.call81 rfl (rKey_w F (at' v i) r46 e48) rfl rfl ?_
      refine wl_v (r := rI .i64 i) (o_move rfl) rfl ?_
      obtain ⟨r49, e51, h50⟩ := obn_e h47
      refine w_call0 (rs := [rB r46, rI .i64 i]) (r := rI .i64 r49) Tryz.call80 rfl (rAfter_w r46 i r49 e51) rfl rfl ?_
      refine wl_v (r := rI .i64 r49) (o_assign rfl) rfl ?_
      refine wl_x ?_
      refine wc_ret ?_
      refine wk_then_ret ?_
      obtain rfl := some_e h50
      exact wk_ret (r_1 Tryz.results55 (rv_t rfl)) (List.Sublist.cons _ List.Sublist.slnil) ⟨rfl, rfl⟩
     ·have h52 := cnd_f c44 h43
      refine wc_skip ?_
      refine wk_x ?_
      refine wc_seq ?_
      refine wc_seq_mid [(0, rSl 4 (List.map eTApiCell v)), (1, rI .i64 i), (4, rI .i64 0), (5, rv (.pointer (some ⟨b7, 0, none⟩))), (96, rB ((decide (((at' v i).fKind) = 5)) && ((decide (((at' v i).fInt) = 0)) && ((decide (((at' v i).fStr) = ([] : Str))) && (decide (0 ≤ ((at' v i).fN)))))))] [.blk b7 (eTApiCell (at' v i)) 63] ?_ ?_
      ·refine wc_region ?_
       refine wl_v (r := rv (.pointer (some ⟨b7, 0, none⟩))) (o_fieldAddr Tryz.underlying63 rfl Tryz.sizeOf61 rfl rfl) rfl ?_
       refine wl_v (r := rI .i64 ((at' v i).fKind)) (o_load (i := 0) Tryz.isAgg61 rfl rfl rfl) rfl ?_
       refine wl_v (r := rB (decide (((at' v i).fKind) = 5))) (o_eq rfl rfl) rfl ?_
       refine wl_v (r := rB (decide (((at' v i).fKind) = 5))) (o_move rfl) rfl ?_
       refine bsplit (decide (((at' v i).fKind) = 5)) (fun c53 => ?_) (fun c53 => ?_)
       ·refine wl_on (b := decide (((at' v i).fKind) = 5)) rfl rfl c53 ?_
        refine wl_v (r := rv (.pointer (some ⟨b7, 1, none⟩))) (o_fieldAddr Tryz.underlying63 rfl Tryz.sizeOf3 rfl rfl) rfl ?_
        refine wl_on (b := decide (((at' v i).fKind) = 5)) rfl rfl c53 ?_
        refine wl_v (r := rI .i64 ((at' v i).fInt)) (o_load (i := 0) Tryz.isAgg3 rfl rfl rfl) rfl ?_
        refine wl_on (b := decide (((at' v i).fKind) = 5)) rfl rfl c53 ?_
        refine wl_v (r := rB (decide (((at' v i).fInt) = 0))) (o_eq rfl rfl) rfl ?_
        refine wl_v (r := rB (decide (((at' v i).fInt) = 0))) (o_pick_t (b := decide (((at' v i).fKind) = 5)) rfl c53 rfl) rfl ?_
        refine wl_v (r := rB (decide (((at' v i).fInt) = 0))) (o_move rfl) rfl ?_
        refine bsplit (decide (((at' v i).fInt) = 0)) (fun c54 => ?_) (fun c54 => ?_)
        ·refine wl_on (b := decide (((at' v i).fInt) = 0)) rfl rfl c54 ?_
         refine wl_v (r := rv (.pointer (some ⟨b7, 2, none⟩))) (o_fieldAddr Tryz.underlying63 rfl Tryz.sizeOf9 rfl rfl) rfl ?_
         refine wl_on (b := decide (((at' v i).fInt) = 0)) rfl rfl c54 ?_
         refine wl_v (r := rS ((at' v i).fStr)) (o_load (i := 0) Tryz.isAgg9 rfl rfl rfl) rfl ?_
         refine wl_on (b := decide (((at' v i).fInt) = 0)) rfl rfl c54 ?_
         refine wl_v (r := rB (decide (((at' v i).fStr) = ([] : Str)))) (o_seq rfl rfl) rfl ?_
         refine wl_v (r := rB (decide (((at' v i).fStr) = ([] : Str)))) (o_pick_t (b := decide (((at' v i).fInt) = 0)) rfl c54 rfl) rfl ?_
         refine wl_v (r := rB (decide (((at' v i).fStr) = ([] : Str)))) (o_move rfl) rfl ?_
         refine bsplit (decide (((at' v i).fStr) = ([] : Str))) (fun c55 => ?_) (fun c55 => ?_)
         ·refine wl_on (b := decide (((at' v i).fStr) = ([] : Str))) rfl rfl c55 ?_
          refine wl_v (r := rv (.pointer (some ⟨b7, 3, none⟩))) (o_fieldAddr Tryz.underlying63 rfl Tryz.sizeOf3 rfl rfl) rfl ?_
          refine wl_on (b := decide (((at' v i).fStr) = ([] : Str))) rfl rfl c55 ?_
          refine wl_v (r := rI .i64 ((at' v i).fN)) (o_load (i := 0) Tryz.isAgg3 rfl rfl rfl) rfl ?_
          refine wl_on (b := decide (((at' v i).fStr) = ([] : Str))) rfl rfl c55 ?_
          refine wl_v (r := rB (decide (0 ≤ ((at' v i).fN)))) (o_ge rfl rfl) rfl ?_
          refine wl_v (r := rB (decide (0 ≤ ((at' v i).fN)))) (o_pick_t (b := decide (((at' v i).fStr) = ([] : Str))) rfl c55 rfl) rfl ?_
          refine wl_nil ?_
          exact wk_then (wk_mid (Sub.c rfl (Sub.c rfl (Sub.c rfl (Sub.c rfl (Sub.c (by first | rfl | (simp only [c53, c54, c55, Bool.true_and, Bool.false_and, Bool.true_or, Bool.false_or, Bool.and_true, Bool.and_false, Bool.or_true, Bool.or_false, Bool.not_true, Bool.not_false, cond_true, cond_false]; rfl)) Sub.nil))))) (List.Sublist.cons_cons _ List.Sublist.slnil))
         ·refine wl_off (b := decide (((at' v i).fStr) = ([] : Str))) rfl rfl c55 rfl ?_
          refine wl_off (b := decide (((at' v i).fStr) = ([] : Str))) rfl rfl c55 rfl ?_
          refine wl_off (b := decide (((at' v i).fStr) = ([] : Str))) rfl rfl c55 rfl ?_
          refine wl_v (r := rB false) (o_pick_f (b := decide (((at' v i).fStr) = ([] : Str))) rfl c55 rfl) rfl ?_
          refine wl_nil ?_
          exact wk_then (wk_mid (Sub.c rfl (Sub.c rfl (Sub.c rfl (Sub.c rfl (Sub.c (by first | rfl | (simp only [c53, c54, c55, Bool.true_and, Bool.false_and, Bool.true_or, Bool.false_or, Bool.and_true, Bool.and_false, Bool.or_true, Bool.or_false, Bool.not_true, Bool.not_false, cond_true, cond_false]; rfl)) Sub.nil))))) (List.Sublist.cons_cons _ List.Sublist.slnil))
        ·refine wl_off (b := decide (((at' v i).fInt) = 0)) rfl rfl c54 rfl ?_
         refine wl_off (b := decide (((at' v i).fInt) = 0)) rfl rfl c54 rfl ?_
         refine wl_off (b := decide (((at' v i).fInt) = 0)) rfl rfl c54 rfl ?_
         refine wl_v (r := rB false) (o_pick_f (b := decide (((at' v i).fInt) = 0)) rfl c54 rfl) rfl ?_
         refine wl_v (r := rB false) (o_move rfl) rfl ?_
         refine wl_off (b := false) rfl rfl rfl rfl ?_
         refine wl_off (b := false) rfl rfl rfl rfl ?_
         refine wl_off (b := false) rfl rfl rfl rfl ?_
         refine wl_v (r := rB false) (o_pick_f (b := false) rfl rfl rfl) rfl ?_
         refine wl_nil ?_
         exact wk_then (wk_mid (Sub.c rfl (Sub.c rfl (Sub.c rfl (Sub.c rfl (Sub.c (by first | rfl | (simp only [c53, c54, Bool.true_and, Bool.false_and, Bool.true_or, Bool.false_or, Bool.and_true, Bool.and_false, Bool.or_true, Bool.or_false, Bool.not_true, Bool.not_false, cond_true, cond_false]; rfl)) Sub.nil))))) (List.Sublist.cons_cons _ List.Sublist.slnil))
       ·refine wl_off (b := decide (((at' v i).fKind) = 5)) rfl rfl c53 rfl ?_
        refine wl_off (b := decide (((at' v i).fKind) = 5)) rfl rfl c53 rfl ?_
        refine wl_off (b := decide (((at' v i).fKind) = 5)) rfl rfl c53 rfl ?_
        refine wl_v (r := rB false) (o_pick_f (b := decide (((at' v i).fKind) = 5)) rfl c53 rfl) rfl ?_
        refine wl_v (r := rB false) (o_move rfl) rfl ?_
        refine wl_off (b := false) rfl rfl rfl rfl ?_
        refine wl_off (b := false) rfl rfl rfl rfl ?_
        refine wl_off (b := false) rfl rfl rfl rfl ?_
        refine wl_v (r := rB false) (o_pick_f (b := false) rfl rfl rfl) rfl ?_
        refine wl_v (r := rB false) (o_move rfl) rfl ?_
        refine wl_off (b := false) rfl rfl rfl rfl ?_
        refine wl_off (b := false) rfl rfl rfl rfl ?_
        refine wl_off (b := false) rfl rfl rfl rfl ?_
        refine wl_v (r := rB false) (o_pick_f (b := false) rfl rfl rfl) rfl ?_
        refine wl_nil ?_
        exact wk_then (wk_mid (Sub.c rfl (Sub.c rfl (Sub.c rfl (Sub.c rfl (Sub.c (by first | rfl | (simp only [c53, Bool.true_and, Bool.false_and, Bool.true_or, Bool.false_or, Bool.and_true, Bool.and_false, Bool.or_true, Bool.or_false, Bool.not_true, Bool.not_false, cond_true, cond_false]; rfl)) Sub.nil))))) (List.Sublist.cons_cons _ List.Sublist.slnil))
      refine wc_cond (b := ((decide (((at' v i).fKind) = 5)) && ((decide (((at' v i).fInt) = 0)) && ((decide (((at' v i).fStr) = ([] : Str))) && (decide (0 ≤ ((at' v i).fN))))))) rfl (fun c56 => ?_) (fun c56 => ?_)
      ·have h57 := cnd_t c56 h52
       refine wc_sr ?_
       refine wl_v (r := rSl 4 (List.map eTApiCell v)) (o_move rfl) rfl ?_
       refine wl_v (r := rI .i64 i) (o_move rfl) rfl ?_
       obtain ⟨g58, h59⟩ := chk_e h57
       refine wl_v (r := rI .i64 (i + 1)) (o_add rfl rfl g58) rfl ?_
       refine wl_v (r := rv (.pointer (some ⟨b7, 3, none⟩))) (o_fieldAddr Tryz.underlying63 rfl Tryz.sizeOf3 rfl rfl) rfl ?_
       refine wl_v (r := rI .i64 ((at' v i).fN)) (o_load (i := 0) Tryz.isAgg3 rfl rfl rfl) rfl ?_
       obtain ⟨r60, e62, h61⟩ := obn_e h59
       refine w_call0 (rs := [rSl 4 (List.map eTApiCell v), rI .i64 (i + 1), rI .i64 ((at' v i).fN)]) (r := rI .i64 r60) Tryz.call82 rfl (ih_rElements v (i + 1) ((at' v i).fN) r60 e62) rfl rfl ?_
       refine wl_v (r := rI .i64 r60) (o_assign rfl) rfl ?_
       refine wl_x ?_
       refine wc_ret ?_
       refine wk_then_ret ?_
       obtain rfl := some_e h61
       exact wk_ret (r_1 Tryz.results55 (rv_t rfl)) (List.Sublist.cons _ List.Sublist.slnil) ⟨rfl, rfl⟩
      ·have h63 := cnd_f c56 h52
       refine wc_skip ?_
       refine wk_x ?_
       refine wc_seq ?_
       refine wc_seq_mid [(0, rSl 4 (List.map eTApiCell v)), (1, rI .i64 i), (4, rI .i64 0), (5, rv (.pointer (some ⟨b7, 0, none⟩))), (120, rB ((decide (((at' v i).fKind) = 6)) && ((decide (((at' v i).fInt) = 0)) && ((decide (((at' v i).fStr) = ([] : Str))) && (decide (0 ≤ ((at' v i).fN)))))))] [.blk b7 (eTApiCell (at' v i)) 63] ?_ ?_
       ·refine wc_region ?_
        refine wl_v (r := rv (.pointer (some ⟨b7, 0, none⟩))) (o_fieldAddr Tryz.underlying63 rfl Tryz.sizeOf61 rfl rfl) rfl ?_
        refine wl_v (r := rI .i64 ((at' v i).fKind)) (o_load (i := 0) Tryz.isAgg61 rfl rfl rfl) rfl ?_
        refine wl_v (r := rB (decide (((at' v i).fKind) = 6))) (o_eq rfl rfl) rfl ?_
        refine wl_v (r := rB (decide (((at' v i).fKind) = 6))) (o_move rfl) rfl ?_
        refine bsplit (decide (((at' v i).fKind) = 6)) (fun c64 => ?_) (fun c64 => ?_)
        ·refine wl_on (b := decide (((at' v i).fKind) = 6)) rfl rfl c64 ?_
         refine wl_v (r := rv (.pointer (some ⟨b7, 1, none⟩))) (o_fieldAddr Tryz.underlying63 rfl Tryz.sizeOf3 rfl rfl) rfl ?_
         refine wl_on (b := decide (((at' v i).fKind) = 6)) rfl rfl c64 ?_
         refine wl_v (r := rI .i64 ((at' v i).fInt)) (o_load (i := 0) Tryz.isAgg3 rfl rfl rfl) rfl ?_
         refine wl_on (b := decide (((at' v i).fKind) = 6)) rfl rfl c64 ?_
         refine wl_v (r := rB (decide (((at' v i).fInt) = 0))) (o_eq rfl rfl) rfl ?_
         refine wl_v (r := rB (decide (((at' v i).fInt) = 0))) (o_pick_t (b := decide (((at' v i).fKind) = 6)) rfl c64 rfl) rfl ?_
         refine wl_v (r := rB (decide (((at' v i).fInt) = 0))) (o_move rfl) rfl ?_
         refine bsplit (decide (((at' v i).fInt) = 0)) (fun c65 => ?_) (fun c65 => ?_)
         ·refine wl_on (b := decide (((at' v i).fInt) = 0)) rfl rfl c65 ?_
          refine wl_v (r := rv (.pointer (some ⟨b7, 2, none⟩))) (o_fieldAddr Tryz.underlying63 rfl Tryz.sizeOf9 rfl rfl) rfl ?_
          refine wl_on (b := decide (((at' v i).fInt) = 0)) rfl rfl c65 ?_
          refine wl_v (r := rS ((at' v i).fStr)) (o_load (i := 0) Tryz.isAgg9 rfl rfl rfl) rfl ?_
          refine wl_on (b := decide (((at' v i).fInt) = 0)) rfl rfl c65 ?_
          refine wl_v (r := rB (decide (((at' v i).fStr) = ([] : Str)))) (o_seq rfl rfl) rfl ?_
          refine wl_v (r := rB (decide (((at' v i).fStr) = ([] : Str)))) (o_pick_t (b := decide (((at' v i).fInt) = 0)) rfl c65 rfl) rfl ?_
          refine wl_v (r := rB (decide (((at' v i).fStr) = ([] : Str)))) (o_move rfl) rfl ?_
          refine bsplit (decide (((at' v i).fStr) = ([] : Str))) (fun c66 => ?_) (fun c66 => ?_)
          ·refine wl_on (b := decide (((at' v i).fStr) = ([] : Str))) rfl rfl c66 ?_
           refine wl_v (r := rv (.pointer (some ⟨b7, 3, none⟩))) (o_fieldAddr Tryz.underlying63 rfl Tryz.sizeOf3 rfl rfl) rfl ?_
           refine wl_on (b := decide (((at' v i).fStr) = ([] : Str))) rfl rfl c66 ?_
           refine wl_v (r := rI .i64 ((at' v i).fN)) (o_load (i := 0) Tryz.isAgg3 rfl rfl rfl) rfl ?_
           refine wl_on (b := decide (((at' v i).fStr) = ([] : Str))) rfl rfl c66 ?_
           refine wl_v (r := rB (decide (0 ≤ ((at' v i).fN)))) (o_ge rfl rfl) rfl ?_
           refine wl_v (r := rB (decide (0 ≤ ((at' v i).fN)))) (o_pick_t (b := decide (((at' v i).fStr) = ([] : Str))) rfl c66 rfl) rfl ?_
           refine wl_nil ?_
           exact wk_then (wk_mid (Sub.c rfl (Sub.c rfl (Sub.c rfl (Sub.c rfl (Sub.c (by first | rfl | (simp only [c64, c65, c66, Bool.true_and, Bool.false_and, Bool.true_or, Bool.false_or, Bool.and_true, Bool.and_false, Bool.or_true, Bool.or_false, Bool.not_true, Bool.not_false, cond_true, cond_false]; rfl)) Sub.nil))))) (List.Sublist.cons_cons _ List.Sublist.slnil))
          ·refine wl_off (b := decide (((at' v i).fStr) = ([] : Str))) rfl rfl c66 rfl ?_
           refine wl_off (b := decide (((at' v i).fStr) = ([] : Str))) rfl rfl c66 rfl ?_
           refine wl_off (b := decide (((at' v i).fStr) = ([] : Str))) rfl rfl c66 rfl ?_
           refine wl_v (r := rB false) (o_pick_f (b := decide (((at' v i).fStr) = ([] : Str))) rfl c66 rfl) rfl ?_
           refine wl_nil ?_
           exact wk_then (wk_mid (Sub.c rfl (Sub.c rfl (Sub.c rfl (Sub.c rfl (Sub.c (by first | rfl | (simp only [c64, c65, c66, Bool.true_and, Bool.false_and, Bool.true_or, Bool.false_or, Bool.and_true, Bool.and_false, Bool.or_true, Bool.or_false, Bool.not_true, Bool.not_false, cond_true, cond_false]; rfl)) Sub.nil))))) (List.Sublist.cons_cons _ List.Sublist.slnil))
         ·refine wl_off (b := decide (((at' v i).fInt) = 0)) rfl rfl c65 rfl ?_
          refine wl_off (b := decide (((at' v i).fInt) = 0)) rfl rfl c65 rfl ?_
          refine wl_off (b := decide (((at' v i).fInt) = 0)) rfl rfl c65 rfl ?_
          refine wl_v (r := rB false) (o_pick_f (b := decide (((at' v i).fInt) = 0)) rfl c65 rfl) rfl ?_
          refine wl_v (r := rB false) (o_move rfl) rfl ?_
          refine wl_off (b := false) rfl rfl rfl rfl ?_
          refine wl_off (b := false) rfl rfl rfl rfl ?_
          refine wl_off (b := false) rfl rfl rfl rfl ?_
          refine wl_v (r := rB false) (o_pick_f (b := false) rfl rfl rfl) rfl ?_
          refine wl_nil ?_
          exact wk_then (wk_mid (Sub.c rfl (Sub.c rfl (Sub.c rfl (Sub.c rfl (Sub.c (by first | rfl | (simp only [c64, c65, Bool.true_and, Bool.false_and, Bool.true_or, Bool.false_or, Bool.and_true, Bool.and_false, Bool.or_true, Bool.or_false, Bool.not_true, Bool.not_false, cond_true, cond_false]; rfl)) Sub.nil))))) (List.Sublist.cons_cons _ List.Sublist.slnil))
        ·refine wl_off (b := decide (((at' v i).fKind) = 6)) rfl rfl c64 rfl ?_
         refine wl_off (b := decide (((at' v i).fKind) = 6)) rfl rfl c64 rfl ?_
         refine wl_off (b := decide (((at' v i).fKind) = 6)) rfl rfl c64 rfl ?_
         refine wl_v (r := rB false) (o_pick_f (b := decide (((at' v i).fKind) = 6)) rfl c64 rfl) rfl ?_
         refine wl_v (r := rB false) (o_move rfl) rfl ?_
         refine wl_off (b := false) rfl rfl rfl rfl ?_
         refine wl_off (b := false) rfl rfl rfl rfl ?_
         refine wl_off (b := false) rfl rfl rfl rfl ?_
         refine wl_v (r := rB false) (o_pick_f (b := false) rfl rfl rfl) rfl ?_
         refine wl_v (r := rB false) (o_move rfl) rfl ?_
         refine wl_off (b := false) rfl rfl rfl rfl ?_
         refine wl_off (b := false) rfl rfl rfl rfl ?_
         refine wl_off (b := false) rfl rfl rfl rfl ?_
         refine wl_v (r := rB false) (o_pick_f (b := false) rfl rfl rfl) rfl ?_
         refine wl_nil ?_
         exact wk_then (wk_mid (Sub.c rfl (Sub.c rfl (Sub.c rfl (Sub.c rfl (Sub.c (by first | rfl | (simp only [c64, Bool.true_and, Bool.false_and, Bool.true_or, Bool.false_or, Bool.and_true, Bool.and_false, Bool.or_true, Bool.or_false, Bool.not_true, Bool.not_false, cond_true, cond_false]; rfl)) Sub.nil))))) (List.Sublist.cons_cons _ List.Sublist.slnil))
       refine wc_cond (b := ((decide (((at' v i).fKind) = 6)) && ((decide (((at' v i).fInt) = 0)) && ((decide (((at' v i).fStr) = ([] : Str))) && (decide (0 ≤ ((at' v i).fN))))))) rfl (fun c67 => ?_) (fun c67 => ?_)
       ·have h68 := cnd_t c67 h63
        refine wc_sr ?_
        refine wl_v (r := rSl 4 (List.map eTApiCell v)) (o_move rfl) rfl ?_
        refine wl_v (r := rI .i64 i) (o_move rfl) rfl ?_
        obtain ⟨g69, h70⟩ := chk_e h68
        refine wl_v (r := rI .i64 (i + 1)) (o_add rfl rfl g69) rfl ?_
        refine wl_v (r := rv (.pointer (some ⟨b7, 3, none⟩))) (o_fieldAddr Tryz.underlying63 rfl Tryz.sizeOf3 rfl rfl) rfl ?_
        refine wl_v (r := rI .i64 ((at' v i).fN)) (o_load (i := 0) Tryz.isAgg3 rfl rfl rfl) rfl ?_
        obtain ⟨r71, e73, h72⟩ := obn_e h70
        refine w_call0 (rs := [rSl 4 (List.map eTApiCell v), rI .i64 (i + 1), rI .i64 ((at' v i).fN)]) (r := rI .i64 r71) Tryz.call83 rfl (ih_rPairs v (i + 1) ((at' v i).fN) r71 e73) rfl rfl ?_
        refine wl_v (r := rI .i64 r71) (o_assign rfl) rfl ?_
        refine wl_x ?_
        refine wc_ret ?_
        refine wk_then_ret ?_
        obtain rfl := some_e h72
        exact wk_ret (r_1 Tryz.results55 (rv_t rfl)) (List.Sublist.cons _ List.Sublist.slnil) ⟨rfl, rfl⟩
       ·have h74 := cnd_f c67 h63
        refine wc_skip ?_
        refine wk_x ?_
        refine wc_sr ?_
        refine wl_v (r := rI .i64 (-1)) (o_assign rfl) rfl ?_
        refine wl_x ?_
        refine wc_ret ?_
        obtain rfl := some_e h74
        exact wk_ret (r_1 Tryz.results55 (rv_t rfl)) (List.Sublist.cons _ List.Sublist.slnil) ⟨rfl, rfl⟩

theorem rElementsm_w (F : Nat) (rec_rNext : (List TApiCell) → Int → Option (Int)) (ih_rNext : (∀ (v : (List TApiCell)) (i : Int) (r : Int), rec_rNext v i = some r → Fn Tryz.prog GE 55 [rSl 4 (List.map eTApiCell v), rI .i64 i] [] (fun R H => R = rI .i64 r ∧ H = []))) (v : (List TApiCell)) (i : Int) (n : Int) (r : Int) (h : rElementsm F rec_rNext v i n = some r) : Fn Tryz.prog GE 82 [rSl 4 (List.map eTApiCell v), rI .i64 i, rI .i64 n] [] (fun R H => R = rI .i64 r ∧ H = []) := by
 refine enter (n := 19) Tryz.func82 rfl Tryz.ntmps82 rfl (fun w Z => ?_)
 refine wc_as (l' := [(0, rSl 4 (List.map eTApiCell v)), (1, rI .i64 i), (2, rI .i64 n)]) (H' := []) rfl rfl ?_
 unfold rElementsm at h
 refine wc_sr ?_
 refine wl_v (r := rI .i64 0) (o_assign rfl) rfl ?_
 refine wl_x ?_
 refine wc_seq ?_
 refine wc_sr ?_
 refine wl_v (r := rI .i64 0) (o_assign rfl) rfl ?_
 refine wl_x ?_
 refine wc_block ?_
 obtain ⟨o37, eo38, hK39⟩ := obn_e h
 refine wc_loop2 (S := Nat × (Int × Int) × (Unit)) (V := (Int) × (Unit)) 0 (fun σ => lop (fun σ => rElements_b1 v n rec_rNext σ.1 σ.2) σ.1 σ.2.1 = some o37) (fun σ => [(0, rSl 4 (List.map eTApiCell v)), (1, rI .i64 σ.2.1.1), (2, rI .i64 n), (6, rI .i64 0), (7, rI .i64 σ.2.1.2)]) (fun σ => []) (fun σ => σ.1) (F, (i, 0), ()) eo38 (Sub.c rfl (Sub.c rfl (Sub.c rfl (Sub.c rfl (Sub.c rfl Sub.nil))))) List.Sublist.slnil (fun σ => rElements_k1 σ.1 = some r) (fun σ => [(1, rI .i64 σ.1), (6, rI .i64 0)]) (fun σ => []) ?_ ?_
 ·rintro ⟨n45, ⟨x23, x24⟩, ⟨⟩⟩ hi43
  refine wc_as (l' := [(0, rSl 4 (List.map eTApiCell v)), (1, rI .i64 x23), (2, rI .i64 n), (6, rI .i64 0), (7, rI .i64 x24)]) (H' := []) rfl rfl ?_
  obtain ⟨m42, rfl, t40, h44, ht41⟩ := lop_e hi43
  replace h44 : rElements_b1 v n rec_rNext x23 x24 = some t40 := h44
  unfold rElements_b1 at h44
  refine wc_seq ?_
  refine wc_sr ?_
  refine wl_v (r := rI .i64 x24) (o_move rfl) rfl ?_
  refine wl_v (r := rI .i64 n) (o_move rfl) rfl ?_
  refine wl_v (r := rB (decide (x24 < n))) (o_lt rfl rfl) rfl ?_
  refine wl_x ?_
  refine wc_cond (b := decide (x24 < n)) rfl (fun c46 => ?_) (fun c46 => ?_)
  ·have h47 := cnd_t c46 h44
   refine wc_skip ?_
   refine wk_x ?_
   refine wc_seq ?_
   refine wc_block ?_
   refine wc_sr ?_
   refine wl_v (r := rSl 4 (List.map eTApiCell v)) (o_move rfl) rfl ?_
   refine wl_v (r := rI .i64 x23) (o_move rfl) rfl ?_
   obtain ⟨r48, e50, h49⟩ := obn_e h47
   refine w_call0 (rs := [rSl 4 (List.map eTApiCell v), rI .i64 x23]) (r := rI .i64 r48) Tryz.call55 rfl (ih_rNext v x23 r48 e50) rfl rfl ?_
   refine wl_v (r := rI .i64 r48) (o_assign rfl) rfl ?_
   refine wl_y ?_
   refine wl_v (r := rI .i64 r48) (o_move rfl) rfl ?_
   refine wl_v (r := rB (decide (r48 < 0))) (o_lt rfl rfl) rfl ?_
   refine wl_x ?_
   refine wc_cond (b := decide (r48 < 0)) rfl (fun c51 => ?_) (fun c51 => ?_)
   ·have h52 := cnd_t c51 h49
    refine wc_sr ?_
    refine wl_v (r := rI .i64 (-1)) (o_assign rfl) rfl ?_
    refine wl_x ?_
    refine wc_ret ?_
    refine wk_in_ret ?_
    refine wk_then_ret ?_
    refine wk_then_ret ?_
    refine wk_cut_ret ?_
    have h53 := stp_ret h52 ht41 hK39
    refine wk_in_ret ?_
    refine wk_then_ret ?_
    obtain rfl := some_e h53
    exact wk_ret (r_1 Tryz.results82 (rv_t rfl)) List.Sublist.slnil ⟨rfl, rfl⟩
   ·have h54 := cnd_f c51 h49
    refine wc_skip ?_
    refine wk_in_norm ?_
    refine wk_x ?_
    refine wc_region ?_
    refine wl_v (r := rI .i64 x24) (o_move rfl) rfl ?_
    obtain ⟨g55, h56⟩ := chk_e h54
    refine wl_v (r := rI .i64 (x24 + 1)) (o_add rfl rfl g55) rfl ?_
    refine wl_v (r := rI .i64 (x24 + 1)) (o_assign rfl) rfl ?_
    refine wl_nil ?_
    have h57 := stp_next h56 ht41
    exact wk_then (wk_some (m42, (r48, x24 + 1), ()) ⟨h57, Nat.lt_succ_self _⟩ (Sub.c rfl (Sub.c rfl (Sub.c rfl (Sub.c rfl (Sub.c rfl Sub.nil))))) List.Sublist.slnil)
  ·have h58 := cnd_f c46 h44
   refine wc_exit ?_
   refine wk_then_exit ?_
   have h59 := stp_go h58 ht41 hK39
   exact wk_then_exit (wk_cut_hit (wk_some (x23, ()) h59 (Sub.c rfl (Sub.c rfl Sub.nil)) List.Sublist.slnil))
 ·rintro ⟨x36, ⟨⟩⟩ h60
  refine wk_as (l' := [(1, rI .i64 x36), (6, rI .i64 0)]) (H' := []) rfl rfl ?_
  replace h60 : rElements_k1 x36 = some r := h60
  unfold rElements_k1 at h60
  refine wk_in_hit ?_
  refine wk_x ?_
  refine wc_sr ?_
  refine wl_v (r := rI .i64 x36) (o_move rfl) rfl ?_
  refine wl_v (r := rI .i64 x36) (o_assign rfl) rfl ?_
  refine wl_x ?_
  refine wc_ret ?_
  obtain rfl := some_e h60
  exact wk_ret (r_1 Tryz.results82 (rv_t rfl)) List.Sublist.slnil ⟨rfl, rfl⟩

theorem rPairsm_w (F : Nat) (rec_rNext : (List TApiCell) → Int → Option (Int)) (ih_rNext : (∀ (v : (List TApiCell)) (i : Int) (r : Int), rec_rNext v i = some r → Fn Tryz.prog GE 55 [rSl 4 (List.map eTApiCell v), rI .i64 i] [] (fun R H => R = rI .i64 r ∧ H = []))) (v : (List TApiCell)) (i : Int) (n : Int) (r : Int) (h : rPairsm F rec_rNext v i n = some r) : Fn Tryz.prog GE 83 [rSl 4 (List.map eTApiCell v), rI .i64 i, rI .i64 n] [] (fun R H => R = rI .i64 r ∧ H = []) := by
 refine enter (n := 51) Tryz.func83 rfl Tryz.ntmps83 rfl (fun w Z => ?_)
 refine wc_as (l' := [(0, rSl 4 (List.map eTApiCell v)), (1, rI .i64 i), (2, rI .i64 n)]) (H' := []) rfl rfl ?_
 unfold rPairsm at h
 refine wc_sr ?_
 refine wl_v (r := rI .i64 0) (o_assign rfl) rfl ?_
 refine wl_y ?_
 refine wl_v (r := rS ([] : Str)) (o_assign rfl) rfl ?_
 refine wl_x ?_
 refine wc_seq ?_
 refine wc_sr ?_
 refine wl_v (r := rI .i64 0) (o_assign rfl) rfl ?_
 refine wl_x ?_
 refine wc_block ?_
 obtain ⟨o80, eo81, hK82⟩ := obn_e h
 refine wc_loop2 (S := Nat × (Int × Str × Int) × (Unit)) (V := (Int) × (Unit)) 0 (fun σ => lop (fun σ => rPairs_b1 F v n rec_rNext σ.1 σ.2.1 σ.2.2) σ.1 σ.2.1 = some o80) (fun σ => [(0, rSl 4 (List.map eTApiCell v)), (1, rI .i64 σ.2.1.1), (2, rI .i64 n), (6, rI .i64 0), (7, rS σ.2.1.2.1), (8, rI .i64 σ.2.1.2.2)]) (fun σ => []) (fun σ => σ.1) (F, (i, ([] : Str), 0), ()) eo81 (Sub.c rfl (Sub.c rfl (Sub.c rfl (Sub.c rfl (Sub.c rfl (Sub.c rfl Sub.nil)))))) List.Sublist.slnil (fun σ => rPairs_k1 σ.1 = some r) (fun σ => [(1, rI .i64 σ.1), (6, rI .i64 0)]) (fun σ => []) ?_ ?_
 ·rintro ⟨n88, ⟨x51, x52, x53⟩, ⟨⟩⟩ hi86
  refine wc_as (l' := [(0, rSl 4 (List.map eTApiCell v)), (1, rI .i64 x51), (2, rI .i64 n), (6, rI .i64 0), (7, rS x52), (8, rI .i64 x53)]) (H' := []) rfl rfl ?_
  obtain ⟨m85, rfl, t83, h87, ht84⟩ := lop_e hi86
  replace h87 : rPairs_b1 F v n rec_rNext x51 x52 x53 = some t83 := h87
  unfold rPairs_b1 at h87
  refine wc_seq ?_
  refine wc_sr ?_
  refine wl_v (r := rI .i64 x53) (o_move rfl) rfl ?_
  refine wl_v (r := rI .i64 n) (o_move rfl) rfl ?_
  refine wl_v (r := rB (decide (x53 < n))) (o_lt rfl rfl) rfl ?_
  refine wl_x ?_
  refine wc_cond (b := decide (x53 < n)) rfl (fun c89 => ?_) (fun c89 => ?_)
  ·have h90 := cnd_t c89 h87
   refine wc_skip ?_
   refine wk_x ?_
   refine wc_seq ?_
   refine wc_block ?_
   refine wc_seq ?_
   obtain ⟨g91, h92⟩ := chk_e h90
   obtain ⟨g93, h94⟩ := chk_e h92
   refine wc_seq_mid [(0, rSl 4 (List.map eTApiCell v)), (1, rI .i64 x51), (2, rI .i64 n), (6, rI .i64 0), (7, rS x52), (8, rI .i64 x53), (9, rI .i64 x53), (10, rI .i64 n), (11, rB (decide (x53 < n))), (14, rI .i64 x51), (15, rSl 4 (List.map eTApiCell v)), (16, rI .i64 (v.length : Int)), (17, rB (decide ((v.length : Int) ≤ x51))), (18, rB (decide ((v.length : Int) ≤ x51))), (25, rB ((decide ((v.length : Int) ≤ x51)) || (!(ov (rKey F (at' v x51)))))), (26, rB ((decide ((v.length : Int) ≤ x51)) || (!(ov (rKey F (at' v x51)))))), (38, rB ((decide ((v.length : Int) ≤ x51)) || ((!(ov (rKey F (at' v x51)))) || ((decide (0 < x53)) && (sLess ((at' v x51).fStr) x52 || decide (((at' v x51).fStr) = x52))))))] [] ?_ ?_
   ·refine wc_region ?_
    refine wl_v (r := rI .i64 x51) (o_move rfl) rfl ?_
    refine wl_v (r := rSl 4 (List.map eTApiCell v)) (o_move rfl) rfl ?_
    refine wl_v (r := rI .i64 (v.length : Int)) (o_len_zt (ys := v) (enc := eTApiCell) Tryz.underlying23 rfl) rfl ?_
    refine wl_v (r := rB (decide ((v.length : Int) ≤ x51))) (o_ge rfl rfl) rfl ?_
    refine wl_v (r := rB (decide ((v.length : Int) ≤ x51))) (o_move rfl) rfl ?_
    refine bsplit (decide ((v.length : Int) ≤ x51)) (fun c95 => ?_) (fun c95 => ?_)
    ·refine wl_off (b := decide ((v.length : Int) ≤ x51)) rfl rfl c95 rfl ?_
     refine wl_off (b := decide ((v.length : Int) ≤ x51)) rfl rfl c95 rfl ?_
     refine wl_off (b := decide ((v.length : Int) ≤ x51)) rfl rfl c95 rfl ?_
     refine wl_off (b := decide ((v.length : Int) ≤ x51)) rfl rfl c95 rfl ?_
     refine wl_off (b := decide ((v.length : Int) ≤ x51)) rfl rfl c95 rfl ?_
     refine wl_off (b := decide ((v.length : Int) ≤ x51)) rfl rfl c95 rfl ?_
     refine wl_v (r := rB true) (o_pick_t (b := decide ((v.length : Int) ≤ x51)) rfl c95 rfl) rfl ?_
     refine wl_v (r := rB true) (o_move rfl) rfl ?_
     refine wl_off (b := true) rfl rfl rfl rfl ?_
     refine wl_off (b := true) rfl rfl rfl rfl ?_
     refine wl_off (b := true) rfl rfl rfl rfl ?_
     refine wl_off_u rfl rfl rfl ?_
     refine wl_off_u rfl rfl rfl ?_
     refine wl_off_u rfl rfl rfl ?_
     refine wl_off_u rfl rfl rfl ?_
     refine wl_off_u rfl rfl rfl ?_
     refine wl_off_u rfl rfl rfl ?_
     refine wl_off_u rfl rfl rfl ?_
     refine wl_off (b := true) rfl rfl rfl rfl ?_
     refine wl_v (r := rB true) (o_pick_t (b := true) rfl rfl rfl) rfl ?_
     refine wl_nil ?_
     exact wk_then (wk_mid (Sub.c rfl (Sub.c rfl (Sub.c rfl (Sub.c rfl (Sub.c rfl (Sub.c rfl (Sub.c rfl (Sub.c rfl (Sub.c rfl (Sub.c rfl (Sub.c rfl (Sub.c rfl (Sub.c rfl (Sub.c rfl (Sub.c (by first | rfl | (simp only [c95, Bool.true_and, Bool.false_and, Bool.true_or, Bool.false_or, Bool.and_true, Bool.and_false, Bool.or_true, Bool.or_false, Bool.not_true, Bool.not_false, cond_true, cond_false]; rfl)) (Sub.c (by first | rfl | (simp only [c95, Bool.true_and, Bool.false_and, Bool.true_or, Bool.false_or, Bool.and_true, Bool.and_false, Bool.or_true, Bool.or_false, Bool.not_true, Bool.not_false, cond_true, cond_false]; rfl)) (Sub.c (by first | rfl | (simp only [c95, Bool.true_and, Bool.false_and, Bool.true_or, Bool.false_or, Bool.and_true, Bool.and_false, Bool.or_true, Bool.or_false, Bool.not_true, Bool.not_false, cond_true, cond_false]; rfl)) Sub.nil))))))))))))))))) List.Sublist.slnil)
    ·refine wl_on (b := decide ((v.length : Int) ≤ x51)) rfl rfl c95 ?_
     refine wl_v (r := rSl 4 (List.map eTApiCell v)) (o_move rfl) rfl ?_
     refine wl_on (b := decide ((v.length : Int) ≤ x51)) rfl rfl c95 ?_
     refine wl_v (r := rI .i64 x51) (o_move rfl) rfl ?_
     refine wl_on (b := decide ((v.length : Int) ≤ x51)) rfl rfl c95 ?_
     refine wl_v (r := rAt (eTApiCell (at' v x51))) (o_ix_z (enc := eTApiCell) (ys := v) Tryz.underlying23 Tryz.sizeOf63 rfl rfl (imp_f g91 c95)) rfl ?_
     refine wl_on (b := decide ((v.length : Int) ≤ x51)) rfl rfl c95 ?_
     refine wl_v (r := rAgg (eTApiCell (at' v x51))) (o_load_za Tryz.isAgg63 Tryz.sizeOf63 rfl rfl rfl) rfl ?_
     refine wl_on (b := decide ((v.length : Int) ≤ x51)) rfl rfl c95 ?_
     refine w_call0 (rs := [rAgg (eTApiCell (at' v x51))]) (r := rB (ov (rKey F (at' v x51)))) Tryz.call81 rfl (rKey_w F (at' v x51) (ov (rKey F (at' v x51))) (ov_e (imp_f g93 c95))) rfl rfl ?_
     refine wl_on (b := decide ((v.length : Int) ≤ x51)) rfl rfl c95 ?_
     refine wl_v (r := rB (!(ov (rKey F (at' v x51))))) (o_not rfl) rfl ?_
     refine wl_v (r := rB (!(ov (rKey F (at' v x51))))) (o_pick_f (b := decide ((v.length : Int) ≤ x51)) rfl c95 rfl) rfl ?_
     refine wl_v (r := rB (!(ov (rKey F (at' v x51))))) (o_move rfl) rfl ?_
     refine bsplit (!(ov (rKey F (at' v x51)))) (fun c96 => ?_) (fun c96 => ?_)
     ·refine wl_off (b := !(ov (rKey F (at' v x51)))) rfl rfl c96 rfl ?_
      refine wl_off (b := !(ov (rKey F (at' v x51)))) rfl rfl c96 rfl ?_
      refine wl_off (b := !(ov (rKey F (at' v x51)))) rfl rfl c96 rfl ?_
      refine wl_off_u rfl rfl rfl ?_
      refine wl_off_u rfl rfl rfl ?_
      refine wl_off_u rfl rfl rfl ?_
      refine wl_off_u rfl rfl rfl ?_
      refine wl_off_u rfl rfl rfl ?_
      refine wl_off_u rfl rfl rfl ?_
      refine wl_off_u rfl rfl rfl ?_
      refine wl_off (b := !(ov (rKey F (at' v x51)))) rfl rfl c96 rfl ?_
      refine wl_v (r := rB true) (o_pick_t (b := !(ov (rKey F (at' v x51)))) rfl c96 rfl) rfl ?_
      refine wl_nil ?_
      exact wk_then (wk_mid (Sub.c rfl (Sub.c rfl (Sub.c rfl (Sub.c rfl (Sub.c rfl (Sub.c rfl (Sub.c rfl (Sub.c rfl (Sub.c rfl (Sub.c rfl (Sub.c rfl (Sub.c rfl (Sub.c rfl (Sub.c rfl (Sub.c (by first | rfl | (simp only [c95, c96, Bool.true_and, Bool.false_and, Bool.true_or, Bool.false_or, Bool.and_true, Bool.and_false, Bool.or_true, Bool.or_false, Bool.not_true, Bool.not_false, cond_true, cond_false]; rfl)) (Sub.c (by first | rfl | (simp only [c95, c96, Bool.true_and, Bool.false_and, Bool.true_or, Bool.false_or, Bool.and_true, Bool.and_false, Bool.or_true, Bool.or_false, Bool.not_true, Bool.not_false, cond_true, cond_false]; rfl)) (Sub.c (by first | rfl | (simp only [c95, c96, Bool.true_and, Bool.false_and, Bool.true_or, Bool.false_or, Bool.and_true, Bool.and_false, Bool.or_true, Bool.or_false, Bool.not_true, Bool.not_false, cond_true, cond_false]; rfl)) Sub.nil))))))))))))))))) List.Sublist.slnil)
     ·refine wl_on (b := !(ov (rKey F (at' v x51)))) rfl rfl c96 ?_
      refine wl_v (r := rI .i64 x53) (o_move rfl) rfl ?_
      refine wl_on (b := !(ov (rKey F (at' v x51)))) rfl rfl c96 ?_
      refine wl_v (r := rB (decide (0 < x53))) (o_gt rfl rfl) rfl ?_
      refine wl_on (b := !(ov (rKey F (at' v x51)))) rfl rfl c96 ?_
      refine wl_v (r := rB (decide (0 < x53))) (o_move rfl) rfl ?_
      refine bsplit (decide (0 < x53)) (fun c97 => ?_) (fun c97 => ?_)
      ·refine wl_on (b := decide (0 < x53)) rfl rfl c97 ?_
       refine wl_v (r := rSl 4 (List.map eTApiCell v)) (o_move rfl) rfl ?_
       refine wl_on (b := decide (0 < x53)) rfl rfl c97 ?_
       refine wl_v (r := rI .i64 x51) (o_move rfl) rfl ?_
       refine wl_on (b := decide (0 < x53)) rfl rfl c97 ?_
       refine wl_v (r := rAt (eTApiCell (at' v x51))) (o_ix_z (enc := eTApiCell) (ys := v) Tryz.underlying23 Tryz.sizeOf63 rfl rfl (imp_f g91 c95)) rfl ?_
       refine wl_on (b := decide (0 < x53)) rfl rfl c97 ?_
       refine wl_v (r := rAt [rS ((at' v x51).fStr), rI .i64 ((at' v x51).fN)]) (o_fieldAddr_z Tryz.underlying63 rfl Tryz.sizeOf9 rfl rfl) rfl ?_
       refine wl_on (b := decide (0 < x53)) rfl rfl c97 ?_
       refine wl_v (r := rS ((at' v x51).fStr)) (o_load_z Tryz.isAgg9 rfl rfl) rfl ?_
       refine wl_on (b := decide (0 < x53)) rfl rfl c97 ?_
       refine wl_v (r := rS x52) (o_move rfl) rfl ?_
       refine wl_on (b := decide (0 < x53)) rfl rfl c97 ?_
       refine wl_v (r := rB (sLess ((at' v x51).fStr) x52 || decide (((at' v x51).fStr) = x52))) (o_sle rfl rfl) rfl ?_
       refine wl_on (b := !(ov (rKey F (at' v x51)))) rfl rfl c96 ?_
       refine wl_v (r := rB (sLess ((at' v x51).fStr) x52 || decide (((at' v x51).fStr) = x52))) (o_pick_t (b := decide (0 < x53)) rfl c97 rfl) rfl ?_
       refine wl_v (r := rB (sLess ((at' v x51).fStr) x52 || decide (((at' v x51).fStr) = x52))) (o_pick_f (b := !(ov (rKey F (at' v x51)))) rfl c96 rfl) rfl ?_
       refine wl_nil ?_
       exact wk_then (wk_mid (Sub.c rfl (Sub.c rfl (Sub.c rfl (Sub.c rfl (Sub.c rfl (Sub.c rfl (Sub.c rfl (Sub.c rfl (Sub.c rfl (Sub.c rfl (Sub.c rfl (Sub.c rfl (Sub.c rfl (Sub.c rfl (Sub.c (by first | rfl | (simp only [c95, c96, c97, Bool.true_and, Bool.false_and, Bool.true_or, Bool.false_or, Bool.and_true, Bool.and_false, Bool.or_true, Bool.or_false, Bool.not_true, Bool.not_false, cond_true, cond_false]; rfl)) (Sub.c (by first | rfl | (simp only [c95, c96, c97, Bool.true_and, Bool.false_and, Bool.true_or, Bool.false_or, Bool.and_true, Bool.and_false, Bool.or_true, Bool.or_false, Bool.not_true, Bool.not_false, cond_true, cond_false]; rfl)) (Sub.c (by first | rfl | (simp only [c95, c96, c97, Bool.true_and, Bool.false_and, Bool.true_or, Bool.false_or, Bool.and_true, Bool.and_false, Bool.or_true, Bool.or_false, Bool.not_true, Bool.not_false, cond_true, cond_false]; rfl)) Sub.nil))))))))))))))))) List.Sublist.slnil)
      ·refine wl_off (b := decide (0 < x53)) rfl rfl c97 rfl ?_
       refine wl_off (b := decide (0 < x53)) rfl rfl c97 rfl ?_
       refine wl_off (b := decide (0 < x53)) rfl rfl c97 rfl ?_
       refine wl_off (b := decide (0 < x53)) rfl rfl c97 rfl ?_
       refine wl_off (b := decide (0 < x53)) rfl rfl c97 rfl ?_
       refine wl_off (b := decide (0 < x53)) rfl rfl c97 rfl ?_
       refine wl_off (b := decide (0 < x53)) rfl rfl c97 rfl ?_
       refine wl_on (b := !(ov (rKey F (at' v x51)))) rfl rfl c96 ?_
       refine wl_v (r := rB false) (o_pick_f (b := decide (0 < x53)) rfl c97 rfl) rfl ?_
       refine wl_v (r := rB false) (o_pick_f (b := !(ov (rKey F (at' v x51)))) rfl c96 rfl) rfl ?_
       refine wl_nil ?_
       exact wk_then (wk_mid (Sub.c rfl (Sub.c rfl (Sub.c rfl (Sub.c rfl (Sub.c rfl (Sub.c rfl (Sub.c rfl (Sub.c rfl (Sub.c rfl (Sub.c rfl (Sub.c rfl (Sub.c rfl (Sub.c rfl (Sub.c rfl (Sub.c (by first | rfl | (simp only [c95, c96, c97, Bool.true_and, Bool.false_and, Bool.true_or, Bool.false_or, Bool.and_true, Bool.and_false, Bool.or_true, Bool.or_false, Bool.not_true, Bool.not_false, cond_true, cond_false]; rfl)) (Sub.c (by first | rfl | (simp only [c95, c96, c97, Bool.true_and, Bool.false_and, Bool.true_or, Bool.false_or, Bool.and_true, Bool.and_false, Bool.or_true, Bool.or_false, Bool.not_true, Bool.not_false, cond_true, cond_false]; rfl)) (Sub.c (by first | rfl | (simp only [c95, c96, c97, Bool.true_and, Bool.false_and, Bool.true_or, Bool.false_or, Bool.and_true, Bool.and_false, Bool.or_true, Bool.or_false, Bool.not_true, Bool.not_false, cond_true, cond_false]; rfl)) Sub.nil))))))))))))))))) List.Sublist.slnil)
   refine wc_cond (b := ((decide ((v.length : Int) ≤ x51)) || ((!(ov (rKey F (at' v x51)))) || ((decide (0 < x53)) && (sLess ((at' v x51).fStr) x52 || decide (((at' v x51).fStr) = x52)))))) rfl (fun c98 => ?_) (fun c98 => ?_)
   ·have h99 := cnd_t c98 h94
    refine wc_sr ?_
    refine wl_v (r := rI .i64 (-1)) (o_assign rfl) rfl ?_
    refine wl_x ?_
    refine wc_ret ?_
    refine wk_then_ret ?_
    refine wk_in_ret ?_
    refine wk_then_ret ?_
    refine wk_then_ret ?_
    refine wk_cut_ret ?_
    have h100 := stp_ret h99 ht84 hK82
    refine wk_in_ret ?_
    refine wk_then_ret ?_
    obtain rfl := some_e h100
    exact wk_ret (r_1 Tryz.results83 (rv_t rfl)) List.Sublist.slnil ⟨rfl, rfl⟩
   ·have h101 := cnd_f c98 h94
    refine wc_skip ?_
    refine wk_x ?_
    refine wc_sr ?_
    refine wl_v (r := rSl 4 (List.map eTApiCell v)) (o_move rfl) rfl ?_
    refine wl_v (r := rI .i64 x51) (o_move rfl) rfl ?_
    obtain ⟨g102, h103⟩ := chk_e h101
    refine wl_v (r := rAt (eTApiCell (at' v x51))) (o_ix_z (enc := eTApiCell) (ys := v) Tryz.underlying23 Tryz.sizeOf63 rfl rfl g102) rfl ?_
    refine wl_v (r := rAt [rS ((at' v x51).fStr), rI .i64 ((at' v x51).fN)]) (o_fieldAddr_z Tryz.underlying63 rfl Tryz.sizeOf9 rfl rfl) rfl ?_
    refine wl_v (r := rS ((at' v x51).fStr)) (o_load_z Tryz.isAgg9 rfl rfl) rfl ?_
    refine wl_v (r := rS ((at' v x51).fStr)) (o_assign rfl) rfl ?_
    refine wl_y ?_
    refine wl_v (r := rSl 4 (List.map eTApiCell v)) (o_move rfl) rfl ?_
    refine wl_v (r := rI .i64 x51) (o_move rfl) rfl ?_
    obtain ⟨g104, h105⟩ := chk_e h103
    refine wl_v (r := rI .i64 (x51 + 1)) (o_add rfl rfl g104) rfl ?_
    obtain ⟨r106, e108, h107⟩ := obn_e h105
    refine w_call0 (rs := [rSl 4 (List.map eTApiCell v), rI .i64 (x51 + 1)]) (r := rI .i64 r106) Tryz.call55 rfl (ih_rNext v (x51 + 1) r106 e108) rfl rfl ?_
    refine wl_v (r := rI .i64 r106) (o_assign rfl) rfl ?_
    refine wl_y ?_
    refine wl_v (r := rI .i64 r106) (o_move rfl) rfl ?_
    refine wl_v (r := rB (decide (r106 < 0))) (o_lt rfl rfl) rfl ?_
    refine wl_x ?_
    refine wc_cond (b := decide (r106 < 0)) rfl (fun c109 => ?_) (fun c109 => ?_)
    ·have h110 := cnd_t c109 h107
     refine wc_sr ?_
     refine wl_v (r := rI .i64 (-1)) (o_assign rfl) rfl ?_
     refine wl_x ?_
     refine wc_ret ?_
     refine wk_in_ret ?_
     refine wk_then_ret ?_
     refine wk_then_ret ?_
     refine wk_cut_ret ?_
     have h111 := stp_ret h110 ht84 hK82
     refine wk_in_ret ?_
     refine wk_then_ret ?_
     obtain rfl := some_e h111
     exact wk_ret (r_1 Tryz.results83 (rv_t rfl)) List.Sublist.slnil ⟨rfl, rfl⟩
    ·have h112 := cnd_f c109 h107
     refine wc_skip ?_
     refine wk_in_norm ?_
     refine wk_x ?_
     refine wc_region ?_
     refine wl_v (r := rI .i64 x53) (o_move rfl) rfl ?_
     obtain ⟨g113, h114⟩ := chk_e h112
     refine wl_v (r := rI .i64 (x53 + 1)) (o_add rfl rfl g113) rfl ?_
     refine wl_v (r := rI .i64 (x53 + 1)) (o_assign rfl) rfl ?_
     refine wl_nil ?_
     have h115 := stp_next h114 ht84
     exact wk_then (wk_some (m85, (r106, (at' v x51).fStr, x53 + 1), ()) ⟨h115, Nat.lt_succ_self _⟩ (Sub.c rfl (Sub.c rfl (Sub.c rfl (Sub.c rfl (Sub.c rfl (Sub.c rfl Sub.nil)))))) List.Sublist.slnil)
  ·have h116 := cnd_f c89 h87
   refine wc_exit ?_
   refine wk_then_exit ?_
   have h117 := stp_go h116 ht84 hK82
   exact wk_then_exit (wk_cut_hit (wk_some (x51, ()) h117 (Sub.c rfl (Sub.c rfl Sub.nil)) List.Sublist.slnil))
 ·rintro ⟨x79, ⟨⟩⟩ h118
  refine wk_as (l' := [(1, rI .i64 x79), (6, rI .i64 0)]) (H' := []) rfl rfl ?_
  replace h118 : rPairs_k1 x79 = some r := h118
  unfold rPairs_k1 at h118
  refine wk_in_hit ?_
  refine wk_x ?_
  refine wc_sr ?_
  refine wl_v (r := rI .i64 x79) (o_move rfl) rfl ?_
  refine wl_v (r := rI .i64 x79) (o_assign rfl) rfl ?_
  refine wl_x ?_
  refine wc_ret ?_
  obtain rfl := some_e h118
  exact wk_ret (r_1 Tryz.results83 (rv_t rfl)) List.Sublist.slnil ⟨rfl, rfl⟩

theorem rNext_all : ∀ F : Nat, (∀ (v : (List TApiCell)) (i : Int) (r : Int), rNext F v i = some r → Fn Tryz.prog GE 55 [rSl 4 (List.map eTApiCell v), rI .i64 i] [] (fun R H => R = rI .i64 r ∧ H = [])) ∧ (∀ (v : (List TApiCell)) (i : Int) (n : Int) (r : Int), rElements F v i n = some r → Fn Tryz.prog GE 82 [rSl 4 (List.map eTApiCell v), rI .i64 i, rI .i64 n] [] (fun R H => R = rI .i64 r ∧ H = [])) ∧ (∀ (v : (List TApiCell)) (i : Int) (n : Int) (r : Int), rPairs F v i n = some r → Fn Tryz.prog GE 83 [rSl 4 (List.map eTApiCell v), rI .i64 i, rI .i64 n] [] (fun R H => R = rI .i64 r ∧ H = []))
  | 0 => ⟨(fun _ _ _ h => by simp [rNext] at h), (fun _ _ _ _ h => by simp [rElements] at h), (fun _ _ _ _ h => by simp [rPairs] at h)⟩
  | nn + 1 => ⟨(fun v i r h => rNextm_w nn (rElements nn) (rPairs nn) (rNext_all nn).2.1 (rNext_all nn).2.2 v i r (by rw [rNext] at h; exact h)), (fun v i n r h => rElementsm_w nn (rNext nn) (rNext_all nn).1 v i n r (by rw [rElements] at h; exact h)), (fun v i n r h => rPairsm_w nn (rNext nn) (rNext_all nn).1 v i n r (by rw [rPairs] at h; exact h))⟩

theorem rNext_w (F : Nat) (v : (List TApiCell)) (i : Int) (r : Int) (h : rNext F v i = some r) : Fn Tryz.prog GE 55 [rSl 4 (List.map eTApiCell v), rI .i64 i] [] (fun R H => R = rI .i64 r ∧ H = []) := (rNext_all F).1 v i r h

theorem rFormed_w (F : Nat) (v : (List TApiCell)) (r : Bool) (h : rFormed F v = some r) : Fn Tryz.prog GE 71 [rSl 4 (List.map eTApiCell v)] [] (fun R H => R = rB r ∧ H = []) := by
 refine enter (n := 13) Tryz.func71 rfl Tryz.ntmps71 rfl (fun w Z => ?_)
 refine wc_as (l' := [(0, rSl 4 (List.map eTApiCell v))]) (H' := []) rfl rfl ?_
 unfold rFormed at h
 refine wc_sr ?_
 refine wl_v (r := rB false) (o_assign rfl) rfl ?_
 refine wl_x ?_
 obtain ⟨g1, h2⟩ := chk_e h
 refine wc_seq_mid [(2, rB ((decide (0 < (v.length : Int))) && (decide ((ov (rNext F v 0)) = (v.length : Int)))))] [] ?_ ?_
 ·refine wc_region ?_
  refine wl_v (r := rSl 4 (List.map eTApiCell v)) (o_move rfl) rfl ?_
  refine wl_v (r := rI .i64 (v.length : Int)) (o_len_zt (ys := v) (enc := eTApiCell) Tryz.underlying23 rfl) rfl ?_
  refine wl_v (r := rB (decide (0 < (v.length : Int)))) (o_gt rfl rfl) rfl ?_
  refine wl_v (r := rB (decide (0 < (v.length : Int)))) (o_move rfl) rfl ?_
  refine bsplit (decide (0 < (v.length : Int))) (fun c3 => ?_) (fun c3 => ?_)
  ·refine wl_on (b := decide (0 < (v.length : Int))) rfl rfl c3 ?_
   refine wl_v (r := rSl 4 (List.map eTApiCell v)) (o_move rfl) rfl ?_
   refine wl_on (b := decide (0 < (v.length : Int))) rfl rfl c3 ?_
   refine w_call0 (rs := [rSl 4 (List.map eTApiCell v), rI .i64 0]) (r := rI .i64 (ov (rNext F v 0))) Tryz.call55 rfl (rNext_w F v 0 (ov (rNext F v 0)) (ov_e (imp_t g1 c3))) rfl rfl ?_
   refine wl_on (b := decide (0 < (v.length : Int))) rfl rfl c3 ?_
   refine wl_v (r := rSl 4 (List.map eTApiCell v)) (o_move rfl) rfl ?_
   refine wl_on (b := decide (0 < (v.length : Int))) rfl rfl c3 ?_
   refine wl_v (r := rI .i64 (v.length : Int)) (o_len_zt (ys := v) (enc := eTApiCell) Tryz.underlying23 rfl) rfl ?_
   refine wl_on (b := decide (0 < (v.length : Int))) rfl rfl c3 ?_
   refine wl_v (r := rB (decide ((ov (rNext F v 0)) = (v.length : Int)))) (o_eq rfl rfl) rfl ?_
   refine wl_v (r := rB (decide ((ov (rNext F v 0)) = (v.length : Int)))) (o_pick_t (b := decide (0 < (v.length : Int))) rfl c3 rfl) rfl ?_
   refine wl_v (r := rB (decide ((ov (rNext F v 0)) = (v.length : Int)))) (o_assign rfl) rfl ?_
   refine wl_nil ?_
   exact wk_then (wk_mid (Sub.c (by first | rfl | (simp only [c3, Bool.true_and, Bool.false_and, Bool.true_or, Bool.false_or, Bool.and_true, Bool.and_false, Bool.or_true, Bool.or_false, Bool.not_true, Bool.not_false, cond_true, cond_false]; rfl)) Sub.nil) List.Sublist.slnil)
  ·refine wl_off (b := decide (0 < (v.length : Int))) rfl rfl c3 rfl ?_
   refine wl_off (b := decide (0 < (v.length : Int))) rfl rfl c3 rfl ?_
   refine wl_off (b := decide (0 < (v.length : Int))) rfl rfl c3 rfl ?_
   refine wl_off (b := decide (0 < (v.length : Int))) rfl rfl c3 rfl ?_
   refine wl_off (b := decide (0 < (v.length : Int))) rfl rfl c3 rfl ?_
   refine wl_v (r := rB false) (o_pick_f (b := decide (0 < (v.length : Int))) rfl c3 rfl) rfl ?_
   refine wl_v (r := rB false) (o_assign rfl) rfl ?_
   refine wl_nil ?_
   exact wk_then (wk_mid (Sub.c (by first | rfl | (simp only [c3, Bool.true_and, Bool.false_and, Bool.true_or, Bool.false_or, Bool.and_true, Bool.and_false, Bool.or_true, Bool.or_false, Bool.not_true, Bool.not_false, cond_true, cond_false]; rfl)) Sub.nil) List.Sublist.slnil)
 refine wc_ret ?_
 obtain rfl := some_e h2
 exact wk_ret (r_1 Tryz.results71 (rv_t rfl)) List.Sublist.slnil ⟨rfl, rfl⟩

theorem rLevelsm_w (F : Nat) (rec_rLevels : (List TApiCell) → Int → Option (Int)) (ih_rLevels : (∀ (v : (List TApiCell)) (i : Int) (r : Int), rec_rLevels v i = some r → Fn Tryz.prog GE 72 [rSl 4 (List.map eTApiCell v), rI .i64 i] [] (fun R H => R = rI .i64 r ∧ H = []))) (v : (List TApiCell)) (i : Int) (r : Int) (h : rLevelsm F rec_rLevels v i = some r) : Fn Tryz.prog GE 72 [rSl 4 (List.map eTApiCell v), rI .i64 i] [] (fun R H => R = rI .i64 r ∧ H = []) := by
 refine enter (n := 47) Tryz.func72 rfl Tryz.ntmps72 rfl (fun w Z => ?_)
 refine wc_as (l' := [(0, rSl 4 (List.map eTApiCell v)), (1, rI .i64 i)]) (H' := []) rfl rfl ?_
 unfold rLevelsm at h
 refine wc_sr ?_
 refine wl_v (r := rI .i64 0) (o_assign rfl) rfl ?_
 refine wl_y ?_
 refine wl_v (r := rSl 4 (List.map eTApiCell v)) (o_move rfl) rfl ?_
 refine wl_v (r := rI .i64 i) (o_move rfl) rfl ?_
 obtain ⟨g1, h2⟩ := chk_e h
 refine wl_v (r := rAt (eTApiCell (at' v i))) (o_ix_z (enc := eTApiCell) (ys := v) Tryz.underlying23 Tryz.sizeOf63 rfl rfl g1) rfl ?_
 refine wl_v (r := rAgg (eTApiCell (at' v i))) (o_load_za Tryz.isAgg63 Tryz.sizeOf63 rfl rfl rfl) rfl ?_
 refine w_alloc (cs := [rI .i64 0, rI .i64 0, rS ([] : Str), rI .i64 0]) Tryz.zeroValue63 rfl rfl (fun b3 => ?_)
 refine u_store_agg (i := 0) Tryz.sizeOf63 rfl rfl rfl (OneAll.c rfl) rfl rfl (cs' := [rI .i64 ((at' v i).fKind), rI .i64 ((at' v i).fInt), rS ((at' v i).fStr), rI .i64 ((at' v i).fN)]) rfl (H' := [.blk b3 (eTApiCell (at' v i)) 63]) rfl ?_
 refine wl_x ?_
 refine wc_seq ?_
 refine wc_seq_mid [(0, rSl 4 (List.map eTApiCell v)), (1, rI .i64 i), (4, rI .i64 0), (5, rv (.pointer (some ⟨b3, 0, none⟩))), (21, rB ((!decide (((at' v i).fKind) = 5)) && (!decide (((at' v i).fKind) = 6))))] [.blk b3 (eTApiCell (at' v i)) 63] ?_ ?_
 ·refine wc_region ?_
  refine wl_v (r := rv (.pointer (some ⟨b3, 0, none⟩))) (o_fieldAddr Tryz.underlying63 rfl Tryz.sizeOf61 rfl rfl) rfl ?_
  refine wl_v (r := rI .i64 ((at' v i).fKind)) (o_load (i := 0) Tryz.isAgg61 rfl rfl rfl) rfl ?_
  refine wl_v (r := rB (!decide (((at' v i).fKind) = 5))) (o_ne rfl rfl) rfl ?_
  refine wl_v (r := rB (!decide (((at' v i).fKind) = 5))) (o_move rfl) rfl ?_
  refine bsplit (!decide (((at' v i).fKind) = 5)) (fun c4 => ?_) (fun c4 => ?_)
  ·refine wl_on (b := !decide (((at' v i).fKind) = 5)) rfl rfl c4 ?_
   refine wl_v (r := rv (.pointer (some ⟨b3, 0, none⟩))) (o_fieldAddr Tryz.underlying63 rfl Tryz.sizeOf61 rfl rfl) rfl ?_
   refine wl_on (b := !decide (((at' v i).fKind) = 5)) rfl rfl c4 ?_
   refine wl_v (r := rI .i64 ((at' v i).fKind)) (o_load (i := 0) Tryz.isAgg61 rfl rfl rfl) rfl ?_
   refine wl_on (b := !decide (((at' v i).fKind) = 5)) rfl rfl c4 ?_
   refine wl_v (r := rB (!decide (((at' v i).fKind) = 6))) (o_ne rfl rfl) rfl ?_
   refine wl_v (r := rB (!decide (((at' v i).fKind) = 6))) (o_pick_t (b := !decide (((at' v i).fKind) = 5)) rfl c4 rfl) rfl ?_
   refine wl_nil ?_
   exact wk_then (wk_mid (Sub.c rfl (Sub.c rfl (Sub.c rfl (Sub.c rfl (Sub.c (by first | rfl | (simp only [c4, Bool.true_and, Bool.false_and, Bool.true_or, Bool.false_or, Bool.and_true, Bool.and_false, Bool.or_true, Bool.or_false, Bool.not_true, Bool.not_false, cond_true, cond_false]; rfl)) Sub.nil))))) (List.Sublist.cons_cons _ List.Sublist.slnil))
  ·refine wl_off (b := !decide (((at' v i).fKind) = 5)) rfl rfl c4 rfl ?_
   refine wl_off (b := !decide (((at' v i).fKind) = 5)) rfl rfl c4 rfl ?_
   refine wl_off (b := !decide (((at' v i).fKind) = 5)) rfl rfl c4 rfl ?_
   refine wl_v (r := rB false) (o_pick_f (b := !decide (((at' v i).fKind) = 5)) rfl c4 rfl) rfl ?_
   refine wl_nil ?_
   exact wk_then (wk_mid (Sub.c rfl (Sub.c rfl (Sub.c rfl (Sub.c rfl (Sub.c (by first | rfl | (simp only [c4, Bool.true_and, Bool.false_and, Bool.true_or, Bool.false_or, Bool.and_true, Bool.and_false, Bool.or_true, Bool.or_false, Bool.not_true, Bool.not_false, cond_true, cond_false]; rfl)) Sub.nil))))) (List.Sublist.cons_cons _ List.Sublist.slnil))
 refine wc_cond (b := ((!decide (((at' v i).fKind) = 5)) && (!decide (((at' v i).fKind) = 6)))) rfl (fun c5 => ?_) (fun c5 => ?_)
 ·have h6 := cnd_t c5 h2
  refine wc_sr ?_
  refine wl_v (r := rI .i64 1) (o_assign rfl) rfl ?_
  refine wl_x ?_
  refine wc_ret ?_
  refine wk_then_ret ?_
  obtain rfl := some_e h6
  exact wk_ret (r_1 Tryz.results72 (rv_t rfl)) (List.Sublist.cons _ List.Sublist.slnil) ⟨rfl, rfl⟩
 ·have h7 := cnd_f c5 h2
  refine wc_skip ?_
  refine wk_x ?_
  refine wc_sr ?_
  refine wl_v (r := rI .i64 0) (o_assign rfl) rfl ?_
  refine wl_y ?_
  refine wl_v (r := rI .i64 i) (o_move rfl) rfl ?_
  obtain ⟨g8, h9⟩ := chk_e h7
  refine wl_v (r := rI .i64 (i + 1)) (o_add rfl rfl g8) rfl ?_
  refine wl_v (r := rI .i64 (i + 1)) (o_assign rfl) rfl ?_
  refine wl_x ?_
  refine wc_seq ?_
  refine wc_sr ?_
  refine wl_v (r := rI .i64 0) (o_assign rfl) rfl ?_
  refine wl_x ?_
  refine wc_block ?_
  obtain ⟨o129, eo130, hK131⟩ := obn_e h9
  refine wc_loop2 (S := Nat × (Int × Int × Int) × (Unit)) (V := (Int) × (Unit)) 0 (fun σ => lop (fun σ => rLevels_b1 F v i rec_rLevels σ.1 σ.2.1 σ.2.2) σ.1 σ.2.1 = some o129) (fun σ => [(0, rSl 4 (List.map eTApiCell v)), (4, rI .i64 0), (5, rv (.pointer (some ⟨b3, 0, none⟩))), (6, rI .i64 σ.2.1.1), (7, rI .i64 σ.2.1.2.1), (8, rI .i64 σ.2.1.2.2)]) (fun σ => [.blk b3 (eTApiCell (at' v i)) 63]) (fun σ => σ.1) (F, (0, i + 1, 0), ()) eo130 (Sub.c rfl (Sub.c rfl (Sub.c rfl (Sub.c rfl (Sub.c rfl (Sub.c rfl Sub.nil)))))) (List.Sublist.cons_cons _ List.Sublist.slnil) (fun σ => rLevels_k1 σ.1 = some r) (fun σ => [(4, rI .i64 0), (6, rI .i64 σ.1)]) (fun σ => []) ?_ ?_
  ·rintro ⟨n137, ⟨x85, x86, x87⟩, ⟨⟩⟩ hi135
   refine wc_as (l' := [(0, rSl 4 (List.map eTApiCell v)), (4, rI .i64 0), (5, rv (.pointer (some ⟨b3, 0, none⟩))), (6, rI .i64 x85), (7, rI .i64 x86), (8, rI .i64 x87)]) (H' := [.blk b3 (eTApiCell (at' v i)) 63]) rfl rfl ?_
   obtain ⟨m134, rfl, t132, h136, ht133⟩ := lop_e hi135
   replace h136 : rLevels_b1 F v i rec_rLevels x85 x86 x87 = some t132 := h136
   unfold rLevels_b1 at h136
   refine wc_seq ?_
   refine wc_sr ?_
   refine wl_v (r := rI .i64 x87) (o_move rfl) rfl ?_
   refine wl_v (r := rv (.pointer (some ⟨b3, 3, none⟩))) (o_fieldAddr Tryz.underlying63 rfl Tryz.sizeOf3 rfl rfl) rfl ?_
   refine wl_v (r := rI .i64 ((at' v i).fN)) (o_load (i := 0) Tryz.isAgg3 rfl rfl rfl) rfl ?_
   refine wl_v (r := rB (decide (x87 < ((at' v i).fN)))) (o_lt rfl rfl) rfl ?_
   refine wl_x ?_
   refine wc_cond (b := decide (x87 < ((at' v i).fN))) rfl (fun c138 => ?_) (fun c138 => ?_)
   ·have h139 := cnd_t c138 h136
    refine wc_skip ?_
    refine wk_x ?_
    refine wc_seq ?_
    refine wc_block ?_
    refine wc_seq ?_
    refine wc_sr ?_
    refine wl_v (r := rv (.pointer (some ⟨b3, 0, none⟩))) (o_fieldAddr Tryz.underlying63 rfl Tryz.sizeOf61 rfl rfl) rfl ?_
    refine wl_v (r := rI .i64 ((at' v i).fKind)) (o_load (i := 0) Tryz.isAgg61 rfl rfl rfl) rfl ?_
    refine wl_v (r := rB (decide (((at' v i).fKind) = 6))) (o_eq rfl rfl) rfl ?_
    refine wl_x ?_
    refine wc_cond (b := decide (((at' v i).fKind) = 6)) rfl (fun c140 => ?_) (fun c140 => ?_)
    ·have h141 := cnd_t c140 h139
     refine wc_region ?_
     refine wl_v (r := rI .i64 x86) (o_move rfl) rfl ?_
     obtain ⟨g142, h143⟩ := chk_e h141
     refine wl_v (r := rI .i64 (x86 + 1)) (o_add rfl rfl g142) rfl ?_
     refine wl_v (r := rI .i64 (x86 + 1)) (o_assign rfl) rfl ?_
     refine wl_y ?_
     refine wl_v (r := rSl 4 (List.map eTApiCell v)) (o_move rfl) rfl ?_
     refine wl_v (r := rI .i64 (x86 + 1)) (o_move rfl) rfl ?_
     obtain ⟨r144, e146, h145⟩ := obn_e h143
     refine w_call0 (rs := [rSl 4 (List.map eTApiCell v), rI .i64 (x86 + 1)]) (r := rI .i64 r144) Tryz.call72 rfl (ih_rLevels v (x86 + 1) r144 e146) rfl rfl ?_
     refine wl_v (r := rI .i64 r144) (o_assign rfl) rfl ?_
     refine wl_x ?_
     refine wc_seq ?_
     refine wc_sr ?_
     refine wl_v (r := rI .i64 r144) (o_move rfl) rfl ?_
     refine wl_v (r := rI .i64 x85) (o_move rfl) rfl ?_
     refine wl_v (r := rB (decide (x85 < r144))) (o_gt rfl rfl) rfl ?_
     refine wl_x ?_
     refine wc_cond (b := decide (x85 < r144)) rfl (fun c147 => ?_) (fun c147 => ?_)
     ·have h148 := cnd_t c147 h145
      refine wc_region ?_
      refine wl_v (r := rI .i64 r144) (o_move rfl) rfl ?_
      refine wl_v (r := rI .i64 r144) (o_assign rfl) rfl ?_
      refine wl_x ?_
      refine wc_region ?_
      refine wl_v (r := rSl 4 (List.map eTApiCell v)) (o_move rfl) rfl ?_
      refine wl_v (r := rI .i64 (x86 + 1)) (o_move rfl) rfl ?_
      obtain ⟨r149, e151, h150⟩ := obn_e h148
      refine w_call0 (rs := [rSl 4 (List.map eTApiCell v), rI .i64 (x86 + 1)]) (r := rI .i64 r149) Tryz.call55 rfl (rNext_w F v (x86 + 1) r149 e151) rfl rfl ?_
      refine wl_v (r := rI .i64 r149) (o_assign rfl) rfl ?_
      refine wl_nil ?_
      refine wk_in_norm ?_
      refine wk_x ?_
      refine wc_region ?_
      refine wl_v (r := rI .i64 x87) (o_move rfl) rfl ?_
      obtain ⟨g152, h153⟩ := chk_e h150
      refine wl_v (r := rI .i64 (x87 + 1)) (o_add rfl rfl g152) rfl ?_
      refine wl_v (r := rI .i64 (x87 + 1)) (o_assign rfl) rfl ?_
      refine wl_nil ?_
      have h154 := stp_next h153 ht133
      exact wk_then (wk_some (m134, (r144, r149, x87 + 1), ()) ⟨h154, Nat.lt_succ_self _⟩ (Sub.c rfl (Sub.c rfl (Sub.c rfl (Sub.c rfl (Sub.c rfl (Sub.c rfl Sub.nil)))))) (List.Sublist.cons_cons _ List.Sublist.slnil))
     ·have h155 := cnd_f c147 h145
      refine wc_skip ?_
      refine wk_x ?_
      refine wc_region ?_
      refine wl_v (r := rSl 4 (List.map eTApiCell v)) (o_move rfl) rfl ?_
      refine wl_v (r := rI .i64 (x86 + 1)) (o_move rfl) rfl ?_
      obtain ⟨r156, e158, h157⟩ := obn_e h155
      refine w_call0 (rs := [rSl 4 (List.map eTApiCell v), rI .i64 (x86 + 1)]) (r := rI .i64 r156) Tryz.call55 rfl (rNext_w F v (x86 + 1) r156 e158) rfl rfl ?_
      refine wl_v (r := rI .i64 r156) (o_assign rfl) rfl ?_
      refine wl_nil ?_
      refine wk_in_norm ?_
      refine wk_x ?_
      refine wc_region ?_
      refine wl_v (r := rI .i64 x87) (o_move rfl) rfl ?_
      obtain ⟨g159, h160⟩ := chk_e h157
      refine wl_v (r := rI .i64 (x87 + 1)) (o_add rfl rfl g159) rfl ?_
      refine wl_v (r := rI .i64 (x87 + 1)) (o_assign rfl) rfl ?_
      refine wl_nil ?_
      have h161 := stp_next h160 ht133
      exact wk_then (wk_some (m134, (x85, r156, x87 + 1), ()) ⟨h161, Nat.lt_succ_self _⟩ (Sub.c rfl (Sub.c rfl (Sub.c rfl (Sub.c rfl (Sub.c rfl (Sub.c rfl Sub.nil)))))) (List.Sublist.cons_cons _ List.Sublist.slnil))
    ·have h162 := cnd_f c140 h139
     refine wc_skip ?_
     refine wk_x ?_
     refine wc_sr ?_
     refine wl_v (r := rSl 4 (List.map eTApiCell v)) (o_move rfl) rfl ?_
     refine wl_v (r := rI .i64 x86) (o_move rfl) rfl ?_
     obtain ⟨r163, e165, h164⟩ := obn_e h162
     refine w_call0 (rs := [rSl 4 (List.map eTApiCell v), rI .i64 x86]) (r := rI .i64 r163) Tryz.call72 rfl (ih_rLevels v x86 r163 e165) rfl rfl ?_
     refine wl_v (r := rI .i64 r163) (o_assign rfl) rfl ?_
     refine wl_x ?_
     refine wc_seq ?_
     refine wc_sr ?_
     refine wl_v (r := rI .i64 r163) (o_move rfl) rfl ?_
     refine wl_v (r := rI .i64 x85) (o_move rfl) rfl ?_
     refine wl_v (r := rB (decide (x85 < r163))) (o_gt rfl rfl) rfl ?_
     refine wl_x ?_
     refine wc_cond (b := decide (x85 < r163)) rfl (fun c166 => ?_) (fun c166 => ?_)
     ·have h167 := cnd_t c166 h164
      refine wc_region ?_
      refine wl_v (r := rI .i64 r163) (o_move rfl) rfl ?_
      refine wl_v (r := rI .i64 r163) (o_assign rfl) rfl ?_
      refine wl_x ?_
      refine wc_region ?_
      refine wl_v (r := rSl 4 (List.map eTApiCell v)) (o_move rfl) rfl ?_
      refine wl_v (r := rI .i64 x86) (o_move rfl) rfl ?_
      obtain ⟨r168, e170, h169⟩ := obn_e h167
      refine w_call0 (rs := [rSl 4 (List.map eTApiCell v), rI .i64 x86]) (r := rI .i64 r168) Tryz.call55 rfl (rNext_w F v x86 r168 e170) rfl rfl ?_
      refine wl_v (r := rI .i64 r168) (o_assign rfl) rfl ?_
      refine wl_nil ?_
      refine wk_in_norm ?_
      refine wk_x ?_
      refine wc_region ?_
      refine wl_v (r := rI .i64 x87) (o_move rfl) rfl ?_
      obtain ⟨g171, h172⟩ := chk_e h169
      refine wl_v (r := rI .i64 (x87 + 1)) (o_add rfl rfl g171) rfl ?_
      refine wl_v (r := rI .i64 (x87 + 1)) (o_assign rfl) rfl ?_
      refine wl_nil ?_
      have h173 := stp_next h172 ht133
      exact wk_then (wk_some (m134, (r163, r168, x87 + 1), ()) ⟨h173, Nat.lt_succ_self _⟩ (Sub.c rfl (Sub.c rfl (Sub.c rfl (Sub.c rfl (Sub.c rfl (Sub.c rfl Sub.nil)))))) (List.Sublist.cons_cons _ List.Sublist.slnil))
     ·have h174 := cnd_f c166 h164
      refine wc_skip ?_
      refine wk_x ?_
      refine wc_region ?_
      refine wl_v (r := rSl 4 (List.map eTApiCell v)) (o_move rfl) rfl ?_
      refine wl_v (r := rI .i64 x86) (o_move rfl) rfl ?_
      obtain ⟨r175, e177, h176⟩ := obn_e h174
      refine w_call0 (rs := [rSl 4 (List.map eTApiCell v), rI .i64 x86]) (r := rI .i64 r175) Tryz.call55 rfl (rNext_w F v x86 r175 e177) rfl rfl ?_
      refine wl_v (r := rI .i64 r175) (o_assign rfl) rfl ?_
      refine wl_nil ?_
      refine wk_in_norm ?_
      refine wk_x ?_
      refine wc_region ?_
      refine wl_v (r := rI .i64 x87) (o_move rfl) rfl ?_
      obtain ⟨g178, h179⟩ := chk_e h176
      refine wl_v (r := rI .i64 (x87 + 1)) (o_add rfl rfl g178) rfl ?_
      refine wl_v (r := rI .i64 (x87 + 1)) (o_assign rfl) rfl ?_
      refine wl_nil ?_
      have h180 := stp_next h179 ht133
      exact wk_then (wk_some (m134, (x85, r175, x87 + 1), ()) ⟨h180, Nat.lt_succ_self _⟩ (Sub.c rfl (Sub.c rfl (Sub.c rfl (Sub.c rfl (Sub.c rfl (Sub.c rfl Sub.nil)))))) (List.Sublist.cons_cons _ List.Sublist.slnil))
   ·have h181 := cnd_f c138 h136
    refine wc_exit ?_
    refine wk_then_exit ?_
    have h182 := stp_go h181 ht133 hK131
    exact wk_then_exit (wk_cut_hit (wk_some (x85, ()) h182 (Sub.c rfl (Sub.c rfl Sub.nil)) (List.Sublist.cons _ List.Sublist.slnil)))
  ·rintro ⟨x128, ⟨⟩⟩ h183
   refine wk_as (l' := [(4, rI .i64 0), (6, rI .i64 x128)]) (H' := []) rfl rfl ?_
   replace h183 : rLevels_k1 x128 = some r := h183
   unfold rLevels_k1 at h183
   refine wk_in_hit ?_
   refine wk_x ?_
   refine wc_sr ?_
   refine wl_v (r := rI .i64 x128) (o_move rfl) rfl ?_
   obtain ⟨g184, h185⟩ := chk_e h183
   refine wl_v (r := rI .i64 (x128 + 1)) (o_add rfl rfl g184) rfl ?_
   refine wl_v (r := rI .i64 (x128 + 1)) (o_assign rfl) rfl ?_
   refine wl_x ?_
   refine wc_ret ?_
   obtain rfl := some_e h185
   exact wk_ret (r_1 Tryz.results72 (rv_t rfl)) List.Sublist.slnil ⟨rfl, rfl⟩

theorem rLevels_all : ∀ F : Nat, (∀ (v : (List TApiCell)) (i : Int) (r : Int), rLevels F v i = some r → Fn Tryz.prog GE 72 [rSl 4 (List.map eTApiCell v), rI .i64 i] [] (fun R H => R = rI .i64 r ∧ H = []))
  | 0 => (fun _ _ _ h => by simp [rLevels] at h)
  | nn + 1 => (fun v i r h => rLevelsm_w nn (rLevels nn) (rLevels_all nn) v i r (by rw [rLevels] at h; exact h))

theorem rLevels_w (F : Nat) (v : (List TApiCell)) (i : Int) (r : Int) (h : rLevels F v i = some r) : Fn Tryz.prog GE 72 [rSl 4 (List.map eTApiCell v), rI .i64 i] [] (fun R H => R = rI .i64 r ∧ H = []) := (rLevels_all F) v i r h

theorem rQuoted_w (F : Nat) (s : Str) (r : Str) (h : rQuoted F s = some r) : Fn Tryz.prog GE 97 [rS s] [] (fun R H => R = rS r ∧ H = []) := by
 refine enter (n := 32) Tryz.func97 rfl Tryz.ntmps97 rfl (fun w Z => ?_)
 refine wc_as (l' := [(0, rS s)]) (H' := []) rfl rfl ?_
 unfold rQuoted at h
 refine wc_sr ?_
 refine wl_v (r := rS ([] : Str)) (o_assign rfl) rfl ?_
 refine wl_y ?_
 refine wl_v (r := rS ([34] : Str)) (o_assign rfl) rfl ?_
 refine wl_x ?_
 refine wc_seq ?_
 refine wc_sr ?_
 refine wl_v (r := rI .i64 0) (o_assign rfl) rfl ?_
 refine wl_x ?_
 refine wc_block ?_
 obtain ⟨o83, eo84, hK85⟩ := obn_e h
 refine wc_loop2 (S := Nat × (Str × Int) × (Unit)) (V := (Str) × (Unit)) 0 (fun σ => lop (fun σ => rQuoted_b1 s σ.1 σ.2) σ.1 σ.2.1 = some o83) (fun σ => [(0, rS s), (2, rS ([] : Str)), (3, rS σ.2.1.1), (4, rI .i64 σ.2.1.2)]) (fun σ => []) (fun σ => σ.1) (F, (([34] : Str), 0), ()) eo84 (Sub.c rfl (Sub.c rfl (Sub.c rfl (Sub.c rfl Sub.nil)))) List.Sublist.slnil (fun σ => rQuoted_k1 σ.1 = some r) (fun σ => [(2, rS ([] : Str)), (3, rS σ.1)]) (fun σ => []) ?_ ?_
 ·rintro ⟨n91, ⟨x53, x54⟩, ⟨⟩⟩ hi89
  refine wc_as (l' := [(0, rS s), (2, rS ([] : Str)), (3, rS x53), (4, rI .i64 x54)]) (H' := []) rfl rfl ?_
  obtain ⟨m88, rfl, t86, h90, ht87⟩ := lop_e hi89
  replace h90 : rQuoted_b1 s x53 x54 = some t86 := h90
  unfold rQuoted_b1 at h90
  refine wc_seq ?_
  refine wc_sr ?_
  refine wl_v (r := rI .i64 x54) (o_move rfl) rfl ?_
  refine wl_v (r := rS s) (o_move rfl) rfl ?_
  refine wl_v (r := rI .i64 (s.length : Int)) (o_len_s Tryz.underlying9 rfl) rfl ?_
  refine wl_v (r := rB (decide (x54 < (s.length : Int)))) (o_lt rfl rfl) rfl ?_
  refine wl_x ?_
  refine wc_cond (b := decide (x54 < (s.length : Int))) rfl (fun c92 => ?_) (fun c92 => ?_)
  ·have h93 := cnd_t c92 h90
   refine wc_skip ?_
   refine wk_x ?_
   refine wc_seq ?_
   refine wc_block ?_
   refine wc_seq ?_
   obtain ⟨g94, h95⟩ := chk_e h93
   refine wc_seq_mid [(0, rS s), (2, rS ([] : Str)), (3, rS x53), (4, rI .i64 x54), (5, rI .i64 x54), (6, rS s), (7, rI .i64 (s.length : Int)), (8, rB (decide (x54 < (s.length : Int)))), (11, rS s), (12, rI .i64 x54), (13, rI .u8 (bat s x54)), (14, rB (decide ((bat s x54) = 34))), (15, rB (decide ((bat s x54) = 34))), (20, rB ((decide ((bat s x54) = 34)) || (decide ((bat s x54) = 92))))] [] ?_ ?_
   ·refine wc_region ?_
    refine wl_v (r := rS s) (o_move rfl) rfl ?_
    refine wl_v (r := rI .i64 x54) (o_move rfl) rfl ?_
    refine wl_v (r := rI .u8 (bat s x54)) (o_index_b Tryz.underlying9 rfl rfl g94) rfl ?_
    refine wl_v (r := rB (decide ((bat s x54) = 34))) (o_eq rfl rfl) rfl ?_
    refine wl_v (r := rB (decide ((bat s x54) = 34))) (o_move rfl) rfl ?_
    refine bsplit (decide ((bat s x54) = 34)) (fun c96 => ?_) (fun c96 => ?_)
    ·refine wl_off (b := decide ((bat s x54) = 34)) rfl rfl c96 rfl ?_
     refine wl_off (b := decide ((bat s x54) = 34)) rfl rfl c96 rfl ?_
     refine wl_off (b := decide ((bat s x54) = 34)) rfl rfl c96 rfl ?_
     refine wl_off (b := decide ((bat s x54) = 34)) rfl rfl c96 rfl ?_
     refine wl_v (r := rB true) (o_pick_t (b := decide ((bat s x54) = 34)) rfl c96 rfl) rfl ?_
     refine wl_nil ?_
     exact wk_then (wk_mid (Sub.c rfl (Sub.c rfl (Sub.c rfl (Sub.c rfl (Sub.c rfl (Sub.c rfl (Sub.c rfl (Sub.c rfl (Sub.c rfl (Sub.c rfl (Sub.c rfl (Sub.c rfl (Sub.c rfl (Sub.c (by first | rfl | (simp only [c96, Bool.true_and, Bool.false_and, Bool.true_or, Bool.false_or, Bool.and_true, Bool.and_false, Bool.or_true, Bool.or_false, Bool.not_true, Bool.not_false, cond_true, cond_false]; rfl)) Sub.nil)))))))))))))) List.Sublist.slnil)
    ·refine wl_on (b := decide ((bat s x54) = 34)) rfl rfl c96 ?_
     refine wl_v (r := rS s) (o_move rfl) rfl ?_
     refine wl_on (b := decide ((bat s x54) = 34)) rfl rfl c96 ?_
     refine wl_v (r := rI .i64 x54) (o_move rfl) rfl ?_
     refine wl_on (b := decide ((bat s x54) = 34)) rfl rfl c96 ?_
     refine wl_v (r := rI .u8 (bat s x54)) (o_index_b Tryz.underlying9 rfl rfl g94) rfl ?_
     refine wl_on (b := decide ((bat s x54) = 34)) rfl rfl c96 ?_
     refine wl_v (r := rB (decide ((bat s x54) = 92))) (o_eq rfl rfl) rfl ?_
     refine wl_v (r := rB (decide ((bat s x54) = 92))) (o_pick_f (b := decide ((bat s x54) = 34)) rfl c96 rfl) rfl ?_
     refine wl_nil ?_
     exact wk_then (wk_mid (Sub.c rfl (Sub.c rfl (Sub.c rfl (Sub.c rfl (Sub.c rfl (Sub.c rfl (Sub.c rfl (Sub.c rfl (Sub.c rfl (Sub.c rfl (Sub.c rfl (Sub.c rfl (Sub.c rfl (Sub.c (by first | rfl | (simp only [c96, Bool.true_and, Bool.false_and, Bool.true_or, Bool.false_or, Bool.and_true, Bool.and_false, Bool.or_true, Bool.or_false, Bool.not_true, Bool.not_false, cond_true, cond_false]; rfl)) Sub.nil)))))))))))))) List.Sublist.slnil)
   refine wc_cond (b := ((decide ((bat s x54) = 34)) || (decide ((bat s x54) = 92)))) rfl (fun c97 => ?_) (fun c97 => ?_)
   ·have h98 := cnd_t c97 h95
    refine wc_region ?_
    refine wl_v (r := rS x53) (o_move rfl) rfl ?_
    obtain ⟨g99, h100⟩ := chk_e h98
    refine wl_v (r := rS (x53 ++ ([92] : Str))) (o_sadd rfl rfl g99) rfl ?_
    refine wl_v (r := rS (x53 ++ ([92] : Str))) (o_assign rfl) rfl ?_
    refine wl_x ?_
    refine wc_region ?_
    refine wl_v (r := rS (x53 ++ ([92] : Str))) (o_move rfl) rfl ?_
    refine wl_v (r := rS s) (o_move rfl) rfl ?_
    refine wl_v (r := rI .i64 x54) (o_move rfl) rfl ?_
    refine wl_v (r := rI .i64 x54) (o_move rfl) rfl ?_
    obtain ⟨g101, h102⟩ := chk_e h100
    refine wl_v (r := rI .i64 (x54 + 1)) (o_add rfl rfl g101) rfl ?_
    obtain ⟨g103, h104⟩ := chk_e h102
    obtain ⟨g105, h106⟩ := chk_e h104
    refine wl_v (r := rS (List.take (Int.toNat (x54 + 1) - Int.toNat x54) (List.drop (Int.toNat x54) s))) (o_slice_lh Tryz.underlying9 rfl rfl rfl g103 g105) rfl ?_
    obtain ⟨g107, h108⟩ := chk_e h106
    refine wl_v (r := rS ((x53 ++ ([92] : Str)) ++ (List.take (Int.toNat (x54 + 1) - Int.toNat x54) (List.drop (Int.toNat x54) s)))) (o_sadd rfl rfl g107) rfl ?_
    refine wl_v (r := rS ((x53 ++ ([92] : Str)) ++ (List.take (Int.toNat (x54 + 1) - Int.toNat x54) (List.drop (Int.toNat x54) s)))) (o_assign rfl) rfl ?_
    refine wl_nil ?_
    refine wk_in_norm ?_
    refine wk_x ?_
    refine wc_region ?_
    refine wl_v (r := rI .i64 x54) (o_move rfl) rfl ?_
    refine wl_v (r := rI .i64 (x54 + 1)) (o_add rfl rfl g101) rfl ?_
    refine wl_v (r := rI .i64 (x54 + 1)) (o_assign rfl) rfl ?_
    refine wl_nil ?_
    have h109 := stp_next h108 ht87
    exact wk_then (wk_some (m88, ((x53 ++ ([92] : Str)) ++ (List.take (Int.toNat (x54 + 1) - Int.toNat x54) (List.drop (Int.toNat x54) s)), x54 + 1), ()) ⟨h109, Nat.lt_succ_self _⟩ (Sub.c rfl (Sub.c rfl (Sub.c rfl (Sub.c rfl Sub.nil)))) List.Sublist.slnil)
   ·have h110 := cnd_f c97 h95
    refine wc_skip ?_
    refine wk_x ?_
    refine wc_region ?_
    refine wl_v (r := rS x53) (o_move rfl) rfl ?_
    refine wl_v (r := rS s) (o_move rfl) rfl ?_
    refine wl_v (r := rI .i64 x54) (o_move rfl) rfl ?_
    refine wl_v (r := rI .i64 x54) (o_move rfl) rfl ?_
    obtain ⟨g111, h112⟩ := chk_e h110
    refine wl_v (r := rI .i64 (x54 + 1)) (o_add rfl rfl g111) rfl ?_
    obtain ⟨g113, h114⟩ := chk_e h112
    obtain ⟨g115, h116⟩ := chk_e h114
    refine wl_v (r := rS (List.take (Int.toNat (x54 + 1) - Int.toNat x54) (List.drop (Int.toNat x54) s))) (o_slice_lh Tryz.underlying9 rfl rfl rfl g113 g115) rfl ?_
    obtain ⟨g117, h118⟩ := chk_e h116
    refine wl_v (r := rS (x53 ++ (List.take (Int.toNat (x54 + 1) - Int.toNat x54) (List.drop (Int.toNat x54) s)))) (o_sadd rfl rfl g117) rfl ?_
    refine wl_v (r := rS (x53 ++ (List.take (Int.toNat (x54 + 1) - Int.toNat x54) (List.drop (Int.toNat x54) s)))) (o_assign rfl) rfl ?_
    refine wl_nil ?_
    refine wk_in_norm ?_
    refine wk_x ?_
    refine wc_region ?_
    refine wl_v (r := rI .i64 x54) (o_move rfl) rfl ?_
    refine wl_v (r := rI .i64 (x54 + 1)) (o_add rfl rfl g111) rfl ?_
    refine wl_v (r := rI .i64 (x54 + 1)) (o_assign rfl) rfl ?_
    refine wl_nil ?_
    have h119 := stp_next h118 ht87
    exact wk_then (wk_some (m88, (x53 ++ (List.take (Int.toNat (x54 + 1) - Int.toNat x54) (List.drop (Int.toNat x54) s)), x54 + 1), ()) ⟨h119, Nat.lt_succ_self _⟩ (Sub.c rfl (Sub.c rfl (Sub.c rfl (Sub.c rfl Sub.nil)))) List.Sublist.slnil)
  ·have h120 := cnd_f c92 h90
   refine wc_exit ?_
   refine wk_then_exit ?_
   have h121 := stp_go h120 ht87 hK85
   exact wk_then_exit (wk_cut_hit (wk_some (x53, ()) h121 (Sub.c rfl (Sub.c rfl Sub.nil)) List.Sublist.slnil))
 ·rintro ⟨x82, ⟨⟩⟩ h122
  refine wk_as (l' := [(2, rS ([] : Str)), (3, rS x82)]) (H' := []) rfl rfl ?_
  replace h122 : rQuoted_k1 x82 = some r := h122
  unfold rQuoted_k1 at h122
  refine wk_in_hit ?_
  refine wk_x ?_
  refine wc_sr ?_
  refine wl_v (r := rS x82) (o_move rfl) rfl ?_
  obtain ⟨g123, h124⟩ := chk_e h122
  refine wl_v (r := rS (x82 ++ ([34] : Str))) (o_sadd rfl rfl g123) rfl ?_
  refine wl_v (r := rS (x82 ++ ([34] : Str))) (o_assign rfl) rfl ?_
  refine wl_x ?_
  refine wc_ret ?_
  obtain rfl := some_e h124
  exact wk_ret (r_1 Tryz.results97 (rv_t rfl)) List.Sublist.slnil ⟨rfl, rfl⟩

theorem rTextm_w (F : Nat) (rec_rText : (List TApiCell) → Int → Option (Str)) (ih_rText : (∀ (v : (List TApiCell)) (i : Int) (r : Str), rec_rText v i = some r → Fn Tryz.prog GE 73 [rSl 4 (List.map eTApiCell v), rI .i64 i] [] (fun R H => R = rS r ∧ H = []))) (v : (List TApiCell)) (i : Int) (r : Str) (h : rTextm F rec_rText v i = some r) : Fn Tryz.prog GE 73 [rSl 4 (List.map eTApiCell v), rI .i64 i] [] (fun R H => R = rS r ∧ H = []) := by
 refine enter (n := 77) Tryz.func73 rfl Tryz.ntmps73 rfl (fun w Z => ?_)
 refine wc_as (l' := [(0, rSl 4 (List.map eTApiCell v)), (1, rI .i64 i)]) (H' := []) rfl rfl ?_
 unfold rTextm at h
 refine wc_sr ?_
 refine wl_v (r := rS ([] : Str)) (o_assign rfl) rfl ?_
 refine wl_y ?_
 refine wl_v (r := rSl 4 (List.map eTApiCell v)) (o_move rfl) rfl ?_
 refine wl_v (r := rI .i64 i) (o_move rfl) rfl ?_
 obtain ⟨g1, h2⟩ := chk_e h
 refine wl_v (r := rAt (eTApiCell (at' v i))) (o_ix_z (enc := eTApiCell) (ys := v) Tryz.underlying23 Tryz.sizeOf63 rfl rfl g1) rfl ?_
 refine wl_v (r := rAgg (eTApiCell (at' v i))) (o_load_za Tryz.isAgg63 Tryz.sizeOf63 rfl rfl rfl) rfl ?_
 refine w_alloc (cs := [rI .i64 0, rI .i64 0, rS ([] : Str), rI .i64 0]) Tryz.zeroValue63 rfl rfl (fun b3 => ?_)
 refine u_store_agg (i := 0) Tryz.sizeOf63 rfl rfl rfl (OneAll.c rfl) rfl rfl (cs' := [rI .i64 ((at' v i).fKind), rI .i64 ((at' v i).fInt), rS ((at' v i).fStr), rI .i64 ((at' v i).fN)]) rfl (H' := [.blk b3 (eTApiCell (at' v i)) 63]) rfl ?_
 refine wl_x ?_
 refine wc_seq ?_
 refine wc_sr ?_
 refine wl_v (r := rv (.pointer (some ⟨b3, 0, none⟩))) (o_fieldAddr Tryz.underlying63 rfl Tryz.sizeOf61 rfl rfl) rfl ?_
 refine wl_v (r := rI .i64 ((at' v i).fKind)) (o_load (i := 0) Tryz.isAgg61 rfl rfl rfl) rfl ?_
 refine wl_v (r := rB (decide (((at' v i).fKind) = 1))) (o_eq rfl rfl) rfl ?_
 refine wl_x ?_
 refine wc_cond (b := decide (((at' v i).fKind) = 1)) rfl (fun c4 => ?_) (fun c4 => ?_)
 ·have h5 := cnd_t c4 h2
  refine wc_sr ?_
  refine wl_v (r := rS ([110, 117, 108, 108] : Str)) (o_assign rfl) rfl ?_
  refine wl_x ?_
  refine wc_ret ?_
  refine wk_then_ret ?_
  obtain rfl := some_e h5
  exact wk_ret (r_1 Tryz.results73 (rv_t rfl)) (List.Sublist.cons _ List.Sublist.slnil) ⟨rfl, rfl⟩
 ·have h6 := cnd_f c4 h2
  refine wc_skip ?_
  refine wk_x ?_
  refine wc_seq ?_
  refine wc_sr ?_
  refine wl_v (r := rv (.pointer (some ⟨b3, 0, none⟩))) (o_fieldAddr Tryz.underlying63 rfl Tryz.sizeOf61 rfl rfl) rfl ?_
  refine wl_v (r := rI .i64 ((at' v i).fKind)) (o_load (i := 0) Tryz.isAgg61 rfl rfl rfl) rfl ?_
  refine wl_v (r := rB (decide (((at' v i).fKind) = 2))) (o_eq rfl rfl) rfl ?_
  refine wl_x ?_
  refine wc_cond (b := decide (((at' v i).fKind) = 2)) rfl (fun c7 => ?_) (fun c7 => ?_)
  ·have h8 := cnd_t c7 h6
   refine wc_seq ?_
   refine wc_sr ?_
   refine wl_v (r := rv (.pointer (some ⟨b3, 1, none⟩))) (o_fieldAddr Tryz.underlying63 rfl Tryz.sizeOf3 rfl rfl) rfl ?_
   refine wl_v (r := rI .i64 ((at' v i).fInt)) (o_load (i := 0) Tryz.isAgg3 rfl rfl rfl) rfl ?_
   refine wl_v (r := rB (decide (((at' v i).fInt) = 1))) (o_eq rfl rfl) rfl ?_
   refine wl_x ?_
   refine wc_cond (b := decide (((at' v i).fInt) = 1)) rfl (fun c9 => ?_) (fun c9 => ?_)
   ·have h10 := cnd_t c9 h8
    refine wc_sr ?_
    refine wl_v (r := rS ([116, 114, 117, 101] : Str)) (o_assign rfl) rfl ?_
    refine wl_x ?_
    refine wc_ret ?_
    refine wk_then_ret ?_
    refine wk_then_ret ?_
    obtain rfl := some_e h10
    exact wk_ret (r_1 Tryz.results73 (rv_t rfl)) (List.Sublist.cons _ List.Sublist.slnil) ⟨rfl, rfl⟩
   ·have h11 := cnd_f c9 h8
    refine wc_skip ?_
    refine wk_x ?_
    refine wc_sr ?_
    refine wl_v (r := rS ([102, 97, 108, 115, 101] : Str)) (o_assign rfl) rfl ?_
    refine wl_x ?_
    refine wc_ret ?_
    refine wk_then_ret ?_
    obtain rfl := some_e h11
    exact wk_ret (r_1 Tryz.results73 (rv_t rfl)) (List.Sublist.cons _ List.Sublist.slnil) ⟨rfl, rfl⟩
  ·have h12 := cnd_f c7 h6
   refine wc_skip ?_
   refine wk_x ?_
   refine wc_seq ?_
   refine wc_sr ?_
   refine wl_v (r := rv (.pointer (some ⟨b3, 0, none⟩))) (o_fieldAddr Tryz.underlying63 rfl Tryz.sizeOf61 rfl rfl) rfl ?_
   refine wl_v (r := rI .i64 ((at' v i).fKind)) (o_load (i := 0) Tryz.isAgg61 rfl rfl rfl) rfl ?_
   refine wl_v (r := rB (decide (((at' v i).fKind) = 3))) (o_eq rfl rfl) rfl ?_
   refine wl_x ?_
   refine wc_cond (b := decide (((at' v i).fKind) = 3)) rfl (fun c13 => ?_) (fun c13 => ?_)
   ·have h14 := cnd_t c13 h12
    refine wc_sr ?_
    refine wl_v (r := rv (.pointer (some ⟨b3, 1, none⟩))) (o_fieldAddr Tryz.underlying63 rfl Tryz.sizeOf3 rfl rfl) rfl ?_
    refine wl_v (r := rI .i64 ((at' v i).fInt)) (o_load (i := 0) Tryz.isAgg3 rfl rfl rfl) rfl ?_
    obtain ⟨g15, h16⟩ := chk_e h14
    refine w_call0 (rs := [rI .i64 ((at' v i).fInt)]) (r := rS (Lib.itoa ((at' v i).fInt))) Tryz.call96 rfl (itoa_q ((at' v i).fInt) g15) rfl rfl ?_
    refine wl_v (r := rS (Lib.itoa ((at' v i).fInt))) (o_assign rfl) rfl ?_
    refine wl_x ?_
    refine wc_ret ?_
    refine wk_then_ret ?_
    obtain rfl := some_e h16
    exact wk_ret (r_1 Tryz.results73 (rv_t rfl)) (List.Sublist.cons _ List.Sublist.slnil) ⟨rfl, rfl⟩
   ·have h17 := cnd_f c13 h12
    refine wc_skip ?_
    refine wk_x ?_
    refine wc_seq ?_
    refine wc_sr ?_
    refine wl_v (r := rv (.pointer (some ⟨b3, 0, none⟩))) (o_fieldAddr Tryz.underlying63 rfl Tryz.sizeOf61 rfl rfl) rfl ?_
    refine wl_v (r := rI .i64 ((at' v i).fKind)) (o_load (i := 0) Tryz.isAgg61 rfl rfl rfl) rfl ?_
    refine wl_v (r := rB (decide (((at' v i).fKind) = 4))) (o_eq rfl rfl) rfl ?_
    refine wl_x ?_
    refine wc_cond (b := decide (((at' v i).fKind) = 4)) rfl (fun c18 => ?_) (fun c18 => ?_)
    ·have h19 := cnd_t c18 h17
     refine wc_sr ?_
     refine wl_v (r := rv (.pointer (some ⟨b3, 2, none⟩))) (o_fieldAddr Tryz.underlying63 rfl Tryz.sizeOf9 rfl rfl) rfl ?_
     refine wl_v (r := rS ((at' v i).fStr)) (o_load (i := 0) Tryz.isAgg9 rfl rfl rfl) rfl ?_
     obtain ⟨r20, e22, h21⟩ := obn_e h19
     refine w_call0 (rs := [rS ((at' v i).fStr)]) (r := rS r20) Tryz.call97 rfl (rQuoted_w F ((at' v i).fStr) r20 e22) rfl rfl ?_
     refine wl_v (r := rS r20) (o_assign rfl) rfl ?_
     refine wl_x ?_
     refine wc_ret ?_
     refine wk_then_ret ?_
     obtain rfl := some_e h21
     exact wk_ret (r_1 Tryz.results73 (rv_t rfl)) (List.Sublist.cons _ List.Sublist.slnil) ⟨rfl, rfl⟩
    ·have h23 := cnd_f c18 h17
     refine wc_skip ?_
     refine wk_x ?_
     refine wc_sr ?_
     refine wl_v (r := rS ([] : Str)) (o_assign rfl) rfl ?_
     refine wl_y ?_
     refine wl_v (r := rI .i64 i) (o_move rfl) rfl ?_
     obtain ⟨g24, h25⟩ := chk_e h23
     refine wl_v (r := rI .i64 (i + 1)) (o_add rfl rfl g24) rfl ?_
     refine wl_v (r := rI .i64 (i + 1)) (o_assign rfl) rfl ?_
     refine wl_x ?_
     refine wc_seq ?_
     refine wc_sr ?_
     refine wl_v (r := rI .i64 0) (o_assign rfl) rfl ?_
     refine wl_x ?_
     refine wc_block ?_
     obtain ⟨o218, eo219, hK220⟩ := obn_e h25
     refine wc_loop2 (S := Nat × (Str × Int × Int) × (Unit)) (V := (Str) × (Unit)) 0 (fun σ => lop (fun σ => rText_b1 F v i rec_rText σ.1 σ.2.1 σ.2.2) σ.1 σ.2.1 = some o218) (fun σ => [(0, rSl 4 (List.map eTApiCell v)), (4, rS ([] : Str)), (5, rv (.pointer (some ⟨b3, 0, none⟩))), (6, rS σ.2.1.1), (7, rI .i64 σ.2.1.2.1), (8, rI .i64 σ.2.1.2.2)]) (fun σ => [.blk b3 (eTApiCell (at' v i)) 63]) (fun σ => σ.1) (F, (([] : Str), i + 1, 0), ()) eo219 (Sub.c rfl (Sub.c rfl (Sub.c rfl (Sub.c rfl (Sub.c rfl (Sub.c rfl Sub.nil)))))) (List.Sublist.cons_cons _ List.Sublist.slnil) (fun σ => rText_k1 v i σ.1 = some r) (fun σ => [(4, rS ([] : Str)), (5, rv (.pointer (some ⟨b3, 0, none⟩))), (6, rS σ.1)]) (fun σ => [.blk b3 (eTApiCell (at' v i)) 63]) ?_ ?_
     ·rintro ⟨n226, ⟨x138, x139, x140⟩, ⟨⟩⟩ hi224
      refine wc_as (l' := [(0, rSl 4 (List.map eTApiCell v)), (4, rS ([] : Str)), (5, rv (.pointer (some ⟨b3, 0, none⟩))), (6, rS x138), (7, rI .i64 x139), (8, rI .i64 x140)]) (H' := [.blk b3 (eTApiCell (at' v i)) 63]) rfl rfl ?_
      obtain ⟨m223, rfl, t221, h225, ht222⟩ := lop_e hi224
      replace h225 : rText_b1 F v i rec_rText x138 x139 x140 = some t221 := h225
      unfold rText_b1 at h225
      refine wc_seq ?_
      refine wc_sr ?_
      refine wl_v (r := rI .i64 x140) (o_move rfl) rfl ?_
      refine wl_v (r := rv (.pointer (some ⟨b3, 3, none⟩))) (o_fieldAddr Tryz.underlying63 rfl Tryz.sizeOf3 rfl rfl) rfl ?_
      refine wl_v (r := rI .i64 ((at' v i).fN)) (o_load (i := 0) Tryz.isAgg3 rfl rfl rfl) rfl ?_
      refine wl_v (r := rB (decide (x140 < ((at' v i).fN)))) (o_lt rfl rfl) rfl ?_
      refine wl_x ?_
      refine wc_cond (b := decide (x140 < ((at' v i).fN))) rfl (fun c227 => ?_) (fun c227 => ?_)
      ·have h228 := cnd_t c227 h225
       refine wc_skip ?_
       refine wk_x ?_
       refine wc_seq ?_
       refine wc_block ?_
       refine wc_seq ?_
       refine wc_sr ?_
       refine wl_v (r := rI .i64 x140) (o_move rfl) rfl ?_
       refine wl_v (r := rB (decide (0 < x140))) (o_gt rfl rfl) rfl ?_
       refine wl_x ?_
       refine wc_cond (b := decide (0 < x140)) rfl (fun c229 => ?_) (fun c229 => ?_)
       ·have h230 := cnd_t c229 h228
        refine wc_region ?_
        refine wl_v (r := rS x138) (o_move rfl) rfl ?_
        obtain ⟨g231, h232⟩ := chk_e h230
        refine wl_v (r := rS (x138 ++ ([44] : Str))) (o_sadd rfl rfl g231) rfl ?_
        refine wl_v (r := rS (x138 ++ ([44] : Str))) (o_assign rfl) rfl ?_
        refine wl_x ?_
        refine wc_seq ?_
        refine wc_sr ?_
        refine wl_v (r := rv (.pointer (some ⟨b3, 0, none⟩))) (o_fieldAddr Tryz.underlying63 rfl Tryz.sizeOf61 rfl rfl) rfl ?_
        refine wl_v (r := rI .i64 ((at' v i).fKind)) (o_load (i := 0) Tryz.isAgg61 rfl rfl rfl) rfl ?_
        refine wl_v (r := rB (decide (((at' v i).fKind) = 6))) (o_eq rfl rfl) rfl ?_
        refine wl_x ?_
        refine wc_cond (b := decide (((at' v i).fKind) = 6)) rfl (fun c233 => ?_) (fun c233 => ?_)
        ·have h234 := cnd_t c233 h232
         refine wc_sr ?_
         refine wl_v (r := rS (x138 ++ ([44] : Str))) (o_move rfl) rfl ?_
         refine wl_v (r := rSl 4 (List.map eTApiCell v)) (o_move rfl) rfl ?_
         refine wl_v (r := rI .i64 x139) (o_move rfl) rfl ?_
         obtain ⟨g235, h236⟩ := chk_e h234
         refine wl_v (r := rAt (eTApiCell (at' v x139))) (o_ix_z (enc := eTApiCell) (ys := v) Tryz.underlying23 Tryz.sizeOf63 rfl rfl g235) rfl ?_
         refine wl_v (r := rAt [rS ((at' v x139).fStr), rI .i64 ((at' v x139).fN)]) (o_fieldAddr_z Tryz.underlying63 rfl Tryz.sizeOf9 rfl rfl) rfl ?_
         refine wl_v (r := rS ((at' v x139).fStr)) (o_load_z Tryz.isAgg9 rfl rfl) rfl ?_
         obtain ⟨r237, e239, h238⟩ := obn_e h236
         refine w_call0 (rs := [rS ((at' v x139).fStr)]) (r := rS r237) Tryz.call97 rfl (rQuoted_w F ((at' v x139).fStr) r237 e239) rfl rfl ?_
         obtain ⟨g240, h241⟩ := chk_e h238
         refine wl_v (r := rS ((x138 ++ ([44] : Str)) ++ r237)) (o_sadd rfl rfl g240) rfl ?_
         obtain ⟨g242, h243⟩ := chk_e h241
         refine wl_v (r := rS (((x138 ++ ([44] : Str)) ++ r237) ++ ([58] : Str))) (o_sadd rfl rfl g242) rfl ?_
         refine wl_v (r := rS (((x138 ++ ([44] : Str)) ++ r237) ++ ([58] : Str))) (o_assign rfl) rfl ?_
         refine wl_x ?_
         refine wc_region ?_
         refine wl_v (r := rI .i64 x139) (o_move rfl) rfl ?_
         obtain ⟨g244, h245⟩ := chk_e h243
         refine wl_v (r := rI .i64 (x139 + 1)) (o_add rfl rfl g244) rfl ?_
         refine wl_v (r := rI .i64 (x139 + 1)) (o_assign rfl) rfl ?_
         refine wl_y ?_
         refine wl_v (r := rS (((x138 ++ ([44] : Str)) ++ r237) ++ ([58] : Str))) (o_move rfl) rfl ?_
         refine wl_v (r := rSl 4 (List.map eTApiCell v)) (o_move rfl) rfl ?_
         refine wl_v (r := rI .i64 (x139 + 1)) (o_move rfl) rfl ?_
         obtain ⟨r246, e248, h247⟩ := obn_e h245
         refine w_call0 (rs := [rSl 4 (List.map eTApiCell v), rI .i64 (x139 + 1)]) (r := rS r246) Tryz.call73 rfl (ih_rText v (x139 + 1) r246 e248) rfl rfl ?_
         obtain ⟨g249, h250⟩ := chk_e h247
         refine wl_v (r := rS ((((x138 ++ ([44] : Str)) ++ r237) ++ ([58] : Str)) ++ r246)) (o_sadd rfl rfl g249) rfl ?_
         refine wl_v (r := rS ((((x138 ++ ([44] : Str)) ++ r237) ++ ([58] : Str)) ++ r246)) (o_assign rfl) rfl ?_
         refine wl_x ?_
         refine wc_region ?_
         refine wl_v (r := rSl 4 (List.map eTApiCell v)) (o_move rfl) rfl ?_
         refine wl_v (r := rI .i64 (x139 + 1)) (o_move rfl) rfl ?_
         obtain ⟨r251, e253, h252⟩ := obn_e h250
         refine w_call0 (rs := [rSl 4 (List.map eTApiCell v), rI .i64 (x139 + 1)]) (r := rI .i64 r251) Tryz.call55 rfl (rNext_w F v (x139 + 1) r251 e253) rfl rfl ?_
         refine wl_v (r := rI .i64 r251) (o_assign rfl) rfl ?_
         refine wl_nil ?_
         refine wk_in_norm ?_
         refine wk_x ?_
         refine wc_region ?_
         refine wl_v (r := rI .i64 x140) (o_move rfl) rfl ?_
         obtain ⟨g254, h255⟩ := chk_e h252
         refine wl_v (r := rI .i64 (x140 + 1)) (o_add rfl rfl g254) rfl ?_
         refine wl_v (r := rI .i64 (x140 + 1)) (o_assign rfl) rfl ?_
         refine wl_nil ?_
         have h256 := stp_next h255 ht222
         exact wk_then (wk_some (m223, ((((x138 ++ ([44] : Str)) ++ r237) ++ ([58] : Str)) ++ r246, r251, x140 + 1), ()) ⟨h256, Nat.lt_succ_self _⟩ (Sub.c rfl (Sub.c rfl (Sub.c rfl (Sub.c rfl (Sub.c rfl (Sub.c rfl Sub.nil)))))) (List.Sublist.cons_cons _ List.Sublist.slnil))
        ·have h257 := cnd_f c233 h232
         refine wc_skip ?_
         refine wk_x ?_
         refine wc_sr ?_
         refine wl_v (r := rS (x138 ++ ([44] : Str))) (o_move rfl) rfl ?_
         refine wl_v (r := rSl 4 (List.map eTApiCell v)) (o_move rfl) rfl ?_
         refine wl_v (r := rI .i64 x139) (o_move rfl) rfl ?_
         obtain ⟨r258, e260, h259⟩ := obn_e h257
         refine w_call0 (rs := [rSl 4 (List.map eTApiCell v), rI .i64 x139]) (r := rS r258) Tryz.call73 rfl (ih_rText v x139 r258 e260) rfl rfl ?_
         obtain ⟨g261, h262⟩ := chk_e h259
         refine wl_v (r := rS ((x138 ++ ([44] : Str)) ++ r258)) (o_sadd rfl rfl g261) rfl ?_
         refine wl_v (r := rS ((x138 ++ ([44] : Str)) ++ r258)) (o_assign rfl) rfl ?_
         refine wl_x ?_
         refine wc_region ?_
         refine wl_v (r := rSl 4 (List.map eTApiCell v)) (o_move rfl) rfl ?_
         refine wl_v (r := rI .i64 x139) (o_move rfl) rfl ?_
         obtain ⟨r263, e265, h264⟩ := obn_e h262
         refine w_call0 (rs := [rSl 4 (List.map eTApiCell v), rI .i64 x139]) (r := rI .i64 r263) Tryz.call55 rfl (rNext_w F v x139 r263 e265) rfl rfl ?_
         refine wl_v (r := rI .i64 r263) (o_assign rfl) rfl ?_
         refine wl_nil ?_
         refine wk_in_norm ?_
         refine wk_x ?_
         refine wc_region ?_
         refine wl_v (r := rI .i64 x140) (o_move rfl) rfl ?_
         obtain ⟨g266, h267⟩ := chk_e h264
         refine wl_v (r := rI .i64 (x140 + 1)) (o_add rfl rfl g266) rfl ?_
         refine wl_v (r := rI .i64 (x140 + 1)) (o_assign rfl) rfl ?_
         refine wl_nil ?_
         have h268 := stp_next h267 ht222
         exact wk_then (wk_some (m223, ((x138 ++ ([44] : Str)) ++ r258, r263, x140 + 1), ()) ⟨h268, Nat.lt_succ_self _⟩ (Sub.c rfl (Sub.c rfl (Sub.c rfl (Sub.c rfl (Sub.c rfl (Sub.c rfl Sub.nil)))))) (List.Sublist.cons_cons _ List.Sublist.slnil))
       ·have h269 := cnd_f c229 h228
        refine wc_skip ?_
        refine wk_x ?_
        refine wc_seq ?_
        refine wc_sr ?_
        refine wl_v (r := rv (.pointer (some ⟨b3, 0, none⟩))) (o_fieldAddr Tryz.underlying63 rfl Tryz.sizeOf61 rfl rfl) rfl ?_
        refine wl_v (r := rI .i64 ((at' v i).fKind)) (o_load (i := 0) Tryz.isAgg61 rfl rfl rfl) rfl ?_
        refine wl_v (r := rB (decide (((at' v i).fKind) = 6))) (o_eq rfl rfl) rfl ?_
        refine wl_x ?_
        refine wc_cond (b := decide (((at' v i).fKind) = 6)) rfl (fun c270 => ?_) (fun c270 => ?_)
        ·have h271 := cnd_t c270 h269
         refine wc_sr ?_
         refine wl_v (r := rS x138) (o_move rfl) rfl ?_
         refine wl_v (r := rSl 4 (List.map eTApiCell v)) (o_move rfl) rfl ?_
         refine wl_v (r := rI .i64 x139) (o_move rfl) rfl ?_
         obtain ⟨g272, h273⟩ := chk_e h271
         refine wl_v (r := rAt (eTApiCell (at' v x139))) (o_ix_z (enc := eTApiCell) (ys := v) Tryz.underlying23 Tryz.sizeOf63 rfl rfl g272) rfl ?_
         refine wl_v (r := rAt [rS ((at' v x139).fStr), rI .i64 ((at' v x139).fN)]) (o_fieldAddr_z Tryz.underlying63 rfl Tryz.sizeOf9 rfl rfl) rfl ?_
         refine wl_v (r := rS ((at' v x139).fStr)) (o_load_z Tryz.isAgg9 rfl rfl) rfl ?_
         obtain ⟨r274, e276, h275⟩ := obn_e h273
         refine w_call0 (rs := [rS ((at' v x139).fStr)]) (r := rS r274) Tryz.call97 rfl (rQuoted_w F ((at' v x139).fStr) r274 e276) rfl rfl ?_
         obtain ⟨g277, h278⟩ := chk_e h275
         refine wl_v (r := rS (x138 ++ r274)) (o_sadd rfl rfl g277) rfl ?_
         obtain ⟨g279, h280⟩ := chk_e h278
         refine wl_v (r := rS ((x138 ++ r274) ++ ([58] : Str))) (o_sadd rfl rfl g279) rfl ?_
         refine wl_v (r := rS ((x138 ++ r274) ++ ([58] : Str))) (o_assign rfl) rfl ?_
         refine wl_x ?_
         refine wc_region ?_
         refine wl_v (r := rI .i64 x139) (o_move rfl) rfl ?_
         obtain ⟨g281, h282⟩ := chk_e h280
         refine wl_v (r := rI .i64 (x139 + 1)) (o_add rfl rfl g281) rfl ?_
         refine wl_v (r := rI .i64 (x139 + 1)) (o_assign rfl) rfl ?_
         refine wl_y ?_
         refine wl_v (r := rS ((x138 ++ r274) ++ ([58] : Str))) (o_move rfl) rfl ?_
         refine wl_v (r := rSl 4 (List.map eTApiCell v)) (o_move rfl) rfl ?_
         refine wl_v (r := rI .i64 (x139 + 1)) (o_move rfl) rfl ?_
         obtain ⟨r283, e285, h284⟩ := obn_e h282
         refine w_call0 (rs := [rSl 4 (List.map eTApiCell v), rI .i64 (x139 + 1)]) (r := rS r283) Tryz.call73 rfl (ih_rText v (x139 + 1) r283 e285) rfl rfl ?_
         obtain ⟨g286, h287⟩ := chk_e h284
         refine wl_v (r := rS (((x138 ++ r274) ++ ([58] : Str)) ++ r283)) (o_sadd rfl rfl g286) rfl ?_
         refine wl_v (r := rS (((x138 ++ r274) ++ ([58] : Str)) ++ r283)) (o_assign rfl) rfl ?_
         refine wl_x ?_
         refine wc_region ?_
         refine wl_v (r := rSl 4 (List.map eTApiCell v)) (o_move rfl) rfl ?_
         refine wl_v (r := rI .i64 (x139 + 1)) (o_move rfl) rfl ?_
         obtain ⟨r288, e290, h289⟩ := obn_e h287
         refine w_call0 (rs := [rSl 4 (List.map eTApiCell v), rI .i64 (x139 + 1)]) (r := rI .i64 r288) Tryz.call55 rfl (rNext_w F v (x139 + 1) r288 e290) rfl rfl ?_
         refine wl_v (r := rI .i64 r288) (o_assign rfl) rfl ?_
         refine wl_nil ?_
         refine wk_in_norm ?_
         refine wk_x ?_
         refine wc_region ?_
         refine wl_v (r := rI .i64 x140) (o_move rfl) rfl ?_
         obtain ⟨g291, h292⟩ := chk_e h289
         refine wl_v (r := rI .i64 (x140 + 1)) (o_add rfl rfl g291) rfl ?_
         refine wl_v (r := rI .i64 (x140 + 1)) (o_assign rfl) rfl ?_
         refine wl_nil ?_
         have h293 := stp_next h292 ht222
         exact wk_then (wk_some (m223, (((x138 ++ r274) ++ ([58] : Str)) ++ r283, r288, x140 + 1), ()) ⟨h293, Nat.lt_succ_self _⟩ (Sub.c rfl (Sub.c rfl (Sub.c rfl (Sub.c rfl (Sub.c rfl (Sub.c rfl Sub.nil)))))) (List.Sublist.cons_cons _ List.Sublist.slnil))
        ·have h294 := cnd_f c270 h269
         refine wc_skip ?_
         refine wk_x ?_
         refine wc_sr ?_
         refine wl_v (r := rS x138) (o_move rfl) rfl ?_
         refine wl_v (r := rSl 4 (List.map eTApiCell v)) (o_move rfl) rfl ?_
         refine wl_v (r := rI .i64 x139) (o_move rfl) rfl ?_
         obtain ⟨r295, e297, h296⟩ := obn_e h294
         refine w_call0 (rs := [rSl 4 (List.map eTApiCell v), rI .i64 x139]) (r := rS r295) Tryz.call73 rfl (ih_rText v x139 r295 e297) rfl rfl ?_
         obtain ⟨g298, h299⟩ := chk_e h296
         refine wl_v (r := rS (x138 ++ r295)) (o_sadd rfl rfl g298) rfl ?_
         refine wl_v (r := rS (x138 ++ r295)) (o_assign rfl) rfl ?_
         refine wl_x ?_
         refine wc_region ?_
         refine wl_v (r := rSl 4 (List.map eTApiCell v)) (o_move rfl) rfl ?_
         refine wl_v (r := rI .i64 x139) (o_move rfl) rfl ?_
         obtain ⟨r300, e302, h301⟩ := obn_e h299
         refine w_call0 (rs := [rSl 4 (List.map eTApiCell v), rI .i64 x139]) (r := rI .i64 r300) Tryz.call55 rfl (rNext_w F v x139 r300 e302) rfl rfl ?_
         refine wl_v (r := rI .i64 r300) (o_assign rfl) rfl ?_
         refine wl_nil ?_
         refine wk_in_norm ?_
         refine wk_x ?_
         refine wc_region ?_
         refine wl_v (r := rI .i64 x140) (o_move rfl) rfl ?_
         obtain ⟨g303, h304⟩ := chk_e h301
         refine wl_v (r := rI .i64 (x140 + 1)) (o_add rfl rfl g303) rfl ?_
         refine wl_v (r := rI .i64 (x140 + 1)) (o_assign rfl) rfl ?_
         refine wl_nil ?_
         have h305 := stp_next h304 ht222
         exact wk_then (wk_some (m223, (x138 ++ r295, r300, x140 + 1), ()) ⟨h305, Nat.lt_succ_self _⟩ (Sub.c rfl (Sub.c rfl (Sub.c rfl (Sub.c rfl (Sub.c rfl (Sub.c rfl Sub.nil)))))) (List.Sublist.cons_cons _ List.Sublist.slnil))
      ·have h306 := cnd_f c227 h225
       refine wc_exit ?_
       refine wk_then_exit ?_
       have h307 := stp_go h306 ht222 hK220
       exact wk_then_exit (wk_cut_hit (wk_some (x138, ()) h307 (Sub.c rfl (Sub.c rfl (Sub.c rfl Sub.nil))) (List.Sublist.cons_cons _ List.Sublist.slnil)))
     ·rintro ⟨x217, ⟨⟩⟩ h308
      refine wk_as (l' := [(4, rS ([] : Str)), (5, rv (.pointer (some ⟨b3, 0, none⟩))), (6, rS x217)]) (H' := [.blk b3 (eTApiCell (at' v i)) 63]) rfl rfl ?_
      replace h308 : rText_k1 v i x217 = some r := h308
      unfold rText_k1 at h308
      refine wk_in_hit ?_
      refine wk_x ?_
      refine wc_seq ?_
      refine wc_sr ?_
      refine wl_v (r := rv (.pointer (some ⟨b3, 0, none⟩))) (o_fieldAddr Tryz.underlying63 rfl Tryz.sizeOf61 rfl rfl) rfl ?_
      refine wl_v (r := rI .i64 ((at' v i).fKind)) (o_load (i := 0) Tryz.isAgg61 rfl rfl rfl) rfl ?_
      refine wl_v (r := rB (decide (((at' v i).fKind) = 6))) (o_eq rfl rfl) rfl ?_
      refine wl_x ?_
      refine wc_cond (b := decide (((at' v i).fKind) = 6)) rfl (fun c309 => ?_) (fun c309 => ?_)
      ·have h310 := cnd_t c309 h308
       refine wc_sr ?_
       refine wl_v (r := rS x217) (o_move rfl) rfl ?_
       obtain ⟨g311, h312⟩ := chk_e h310
       refine wl_v (r := rS (([123] : Str) ++ x217)) (o_sadd rfl rfl g311) rfl ?_
       obtain ⟨g313, h314⟩ := chk_e h312
       refine wl_v (r := rS ((([123] : Str) ++ x217) ++ ([125] : Str))) (o_sadd rfl rfl g313) rfl ?_
       refine wl_v (r := rS ((([123] : Str) ++ x217) ++ ([125] : Str))) (o_assign rfl) rfl ?_
       refine wl_x ?_
       refine wc_ret ?_
       refine wk_then_ret ?_
       obtain rfl := some_e h314
       exact wk_ret (r_1 Tryz.results73 (rv_t rfl)) (List.Sublist.cons _ List.Sublist.slnil) ⟨rfl, rfl⟩
      ·have h315 := cnd_f c309 h308
       refine wc_skip ?_
       refine wk_x ?_
       refine wc_sr ?_
       refine wl_v (r := rS x217) (o_move rfl) rfl ?_
       obtain ⟨g316, h317⟩ := chk_e h315
       refine wl_v (r := rS (([91] : Str) ++ x217)) (o_sadd rfl rfl g316) rfl ?_
       obtain ⟨g318, h319⟩ := chk_e h317
       refine wl_v (r := rS ((([91] : Str) ++ x217) ++ ([93] : Str))) (o_sadd rfl rfl g318) rfl ?_
       refine wl_v (r := rS ((([91] : Str) ++ x217) ++ ([93] : Str))) (o_assign rfl) rfl ?_
       refine wl_x ?_
       refine wc_ret ?_
       obtain rfl := some_e h319
       exact wk_ret (r_1 Tryz.results73 (rv_t rfl)) (List.Sublist.cons _ List.Sublist.slnil) ⟨rfl, rfl⟩

theorem rText_all : ∀ F : Nat, (∀ (v : (List TApiCell)) (i : Int) (r : Str), rText F v i = some r → Fn Tryz.prog GE 73 [rSl 4 (List.map eTApiCell v), rI .i64 i] [] (fun R H => R = rS r ∧ H = []))
  | 0 => (fun _ _ _ h => by simp [rText] at h)
  | nn + 1 => (fun v i r h => rTextm_w nn (rText nn) (rText_all nn) v i r (by rw [rText] at h; exact h))

theorem rText_w (F : Nat) (v : (List TApiCell)) (i : Int) (r : Str) (h : rText F v i = some r) : Fn Tryz.prog GE 73 [rSl 4 (List.map eTApiCell v), rI .i64 i] [] (fun R H => R = rS r ∧ H = []) := (rText_all F) v i r h

theorem rCheck_w (F : Nat) (v : (List TApiCell)) (r : Int) (h : rCheck F v = some r) : Fn Tryz.prog GE 48 [rSl 4 (List.map eTApiCell v)] [] (fun R H => R = rI .i64 r ∧ H = []) := by
 refine enter (n := 61) Tryz.func48 rfl Tryz.ntmps48 rfl (fun w Z => ?_)
 refine wc_as (l' := [(0, rSl 4 (List.map eTApiCell v))]) (H' := []) rfl rfl ?_
 unfold rCheck at h
 refine wc_sr ?_
 refine wl_v (r := rI .i64 0) (o_assign rfl) rfl ?_
 refine wl_x ?_
 refine wc_seq ?_
 refine wc_sr ?_
 refine wl_v (r := rSl 4 (List.map eTApiCell v)) (o_move rfl) rfl ?_
 obtain ⟨r1, e3, h2⟩ := obn_e h
 refine w_call0 (rs := [rSl 4 (List.map eTApiCell v)]) (r := rB r1) Tryz.call71 rfl (rFormed_w F v r1 e3) rfl rfl ?_
 refine wl_v (r := rB (!r1)) (o_not rfl) rfl ?_
 refine wl_x ?_
 refine wc_cond (b := !r1) rfl (fun c4 => ?_) (fun c4 => ?_)
 ·have h5 := cnd_t c4 h2
  refine wc_sr ?_
  refine wl_v (r := rI .i64 1) (o_assign rfl) rfl ?_
  refine wl_x ?_
  refine wc_ret ?_
  refine wk_then_ret ?_
  obtain rfl := some_e h5
  exact wk_ret (r_1 Tryz.results48 (rv_t rfl)) List.Sublist.slnil ⟨rfl, rfl⟩
 ·have h6 := cnd_f c4 h2
  refine wc_skip ?_
  refine wk_x ?_
  refine wc_seq ?_
  refine wc_sr ?_
  refine wl_v (r := rI .i64 0) (o_assign rfl) rfl ?_
  refine wl_x ?_
  refine wc_block ?_
  obtain ⟨o43, eo44, hK45⟩ := obn_e h6
  refine wc_loop2 (S := Nat × (Int) × (Unit)) (V := (Unit) × (Unit)) 0 (fun σ => lop (fun σ => rCheck_b1 v σ) σ.1 σ.2.1 = some o43) (fun σ => [(0, rSl 4 (List.map eTApiCell v)), (2, rI .i64 0), (3, rI .i64 σ.2.1)]) (fun σ => []) (fun σ => σ.1) (F, 0, ()) eo44 (Sub.c rfl (Sub.c rfl (Sub.c rfl Sub.nil))) List.Sublist.slnil (fun σ => rCheck_k1 F v  = some r) (fun σ => [(0, rSl 4 (List.map eTApiCell v)), (2, rI .i64 0)]) (fun σ => []) ?_ ?_
  ·rintro ⟨n51, x30, ⟨⟩⟩ hi49
   refine wc_as (l' := [(0, rSl 4 (List.map eTApiCell v)), (2, rI .i64 0), (3, rI .i64 x30)]) (H' := []) rfl rfl ?_
   obtain ⟨m48, rfl, t46, h50, ht47⟩ := lop_e hi49
   replace h50 : rCheck_b1 v x30 = some t46 := h50
   unfold rCheck_b1 at h50
   refine wc_seq ?_
   refine wc_sr ?_
   refine wl_v (r := rI .i64 x30) (o_move rfl) rfl ?_
   refine wl_v (r := rSl 4 (List.map eTApiCell v)) (o_move rfl) rfl ?_
   refine wl_v (r := rI .i64 (v.length : Int)) (o_len_zt (ys := v) (enc := eTApiCell) Tryz.underlying23 rfl) rfl ?_
   refine wl_v (r := rB (decide (x30 < (v.length : Int)))) (o_lt rfl rfl) rfl ?_
   refine wl_x ?_
   refine wc_cond (b := decide (x30 < (v.length : Int))) rfl (fun c52 => ?_) (fun c52 => ?_)
   ·have h53 := cnd_t c52 h50
    refine wc_skip ?_
    refine wk_x ?_
    refine wc_seq ?_
    refine wc_block ?_
    obtain ⟨g54, h55⟩ := chk_e h53
    refine wc_seq_mid [(0, rSl 4 (List.map eTApiCell v)), (2, rI .i64 0), (3, rI .i64 x30), (8, rI .i64 x30), (9, rSl 4 (List.map eTApiCell v)), (10, rI .i64 (v.length : Int)), (11, rB (decide (x30 < (v.length : Int)))), (14, rSl 4 (List.map eTApiCell v)), (15, rI .i64 x30), (16, rAt (eTApiCell (at' v x30))), (17, rAt (eTApiCell (at' v x30))), (18, rI .i64 ((at' v x30).fKind)), (19, rB (decide (((at' v x30).fKind) = 3))), (20, rB (decide (((at' v x30).fKind) = 3))), (35, rB ((decide (((at' v x30).fKind) = 3)) && ((decide (((at' v x30).fInt) < (-1000000000000))) || (decide (1000000000000 < ((at' v x30).fInt))))))] [] ?_ ?_
    ·refine wc_region ?_
     refine wl_v (r := rSl 4 (List.map eTApiCell v)) (o_move rfl) rfl ?_
     refine wl_v (r := rI .i64 x30) (o_move rfl) rfl ?_
     refine wl_v (r := rAt (eTApiCell (at' v x30))) (o_ix_z (enc := eTApiCell) (ys := v) Tryz.underlying23 Tryz.sizeOf63 rfl rfl g54) rfl ?_
     refine wl_v (r := rAt (eTApiCell (at' v x30))) (o_fieldAddr_z Tryz.underlying63 rfl Tryz.sizeOf61 rfl rfl) rfl ?_
     refine wl_v (r := rI .i64 ((at' v x30).fKind)) (o_load_z Tryz.isAgg61 rfl rfl) rfl ?_
     refine wl_v (r := rB (decide (((at' v x30).fKind) = 3))) (o_eq rfl rfl) rfl ?_
     refine wl_v (r := rB (decide (((at' v x30).fKind) = 3))) (o_move rfl) rfl ?_
     refine bsplit (decide (((at' v x30).fKind) = 3)) (fun c56 => ?_) (fun c56 => ?_)
     ·refine wl_on (b := decide (((at' v x30).fKind) = 3)) rfl rfl c56 ?_
      refine wl_v (r := rSl 4 (List.map eTApiCell v)) (o_move rfl) rfl ?_
      refine wl_on (b := decide (((at' v x30).fKind) = 3)) rfl rfl c56 ?_
      refine wl_v (r := rI .i64 x30) (o_move rfl) rfl ?_
      refine wl_on (b := decide (((at' v x30).fKind) = 3)) rfl rfl c56 ?_
      refine wl_v (r := rAt (eTApiCell (at' v x30))) (o_ix_z (enc := eTApiCell) (ys := v) Tryz.underlying23 Tryz.sizeOf63 rfl rfl g54) rfl ?_
      refine wl_on (b := decide (((at' v x30).fKind) = 3)) rfl rfl c56 ?_
      refine wl_v (r := rAt [rI .i64 ((at' v x30).fInt), rS ((at' v x30).fStr), rI .i64 ((at' v x30).fN)]) (o_fieldAddr_z Tryz.underlying63 rfl Tryz.sizeOf3 rfl rfl) rfl ?_
      refine wl_on (b := decide (((at' v x30).fKind) = 3)) rfl rfl c56 ?_
      refine wl_v (r := rI .i64 ((at' v x30).fInt)) (o_load_z Tryz.isAgg3 rfl rfl) rfl ?_
      refine wl_on (b := decide (((at' v x30).fKind) = 3)) rfl rfl c56 ?_
      refine wl_v (r := rB (decide (((at' v x30).fInt) < (-1000000000000)))) (o_lt rfl rfl) rfl ?_
      refine wl_on (b := decide (((at' v x30).fKind) = 3)) rfl rfl c56 ?_
      refine wl_v (r := rB (decide (((at' v x30).fInt) < (-1000000000000)))) (o_move rfl) rfl ?_
      refine bsplit (decide (((at' v x30).fInt) < (-1000000000000))) (fun c57 => ?_) (fun c57 => ?_)
      ·refine wl_off (b := decide (((at' v x30).fInt) < (-1000000000000))) rfl rfl c57 rfl ?_
       refine wl_off (b := decide (((at' v x30).fInt) < (-1000000000000))) rfl rfl c57 rfl ?_
       refine wl_off (b := decide (((at' v x30).fInt) < (-1000000000000))) rfl rfl c57 rfl ?_
       refine wl_off (b := decide (((at' v x30).fInt) < (-1000000000000))) rfl rfl c57 rfl ?_
       refine wl_off (b := decide (((at' v x30).fInt) < (-1000000000000))) rfl rfl c57 rfl ?_
       refine wl_off (b := decide (((at' v x30).fInt) < (-1000000000000))) rfl rfl c57 rfl ?_
       refine wl_on (b := decide (((at' v x30).fKind) = 3)) rfl rfl c56 ?_
       refine wl_v (r := rB true) (o_pick_t (b := decide (((at' v x30).fInt) < (-1000000000000))) rfl c57 rfl) rfl ?_
       refine wl_v (r := rB true) (o_pick_t (b := decide (((at' v x30).fKind) = 3)) rfl c56 rfl) rfl ?_
       refine wl_nil ?_
       exact wk_then (wk_mid (Sub.c rfl (Sub.c rfl (Sub.c rfl (Sub.c rfl (Sub.c rfl (Sub.c rfl (Sub.c rfl (Sub.c rfl (Sub.c rfl (Sub.c rfl (Sub.c rfl (Sub.c rfl (Sub.c rfl (Sub.c rfl (Sub.c (by first | rfl | (simp only [c56, c57, Bool.true_and, Bool.false_and, Bool.true_or, Bool.false_or, Bool.and_true, Bool.and_false, Bool.or_true, Bool.or_false, Bool.not_true, Bool.not_false, cond_true, cond_false]; rfl)) Sub.nil))))))))))))))) List.Sublist.slnil)
      ·refine wl_on (b := decide (((at' v x30).fInt) < (-1000000000000))) rfl rfl c57 ?_
       refine wl_v (r := rSl 4 (List.map eTApiCell v)) (o_move rfl) rfl ?_
       refine wl_on (b := decide (((at' v x30).fInt) < (-1000000000000))) rfl rfl c57 ?_
       refine wl_v (r := rI .i64 x30) (o_move rfl) rfl ?_
       refine wl_on (b := decide (((at' v x30).fInt) < (-1000000000000))) rfl rfl c57 ?_
       refine wl_v (r := rAt (eTApiCell (at' v x30))) (o_ix_z (enc := eTApiCell) (ys := v) Tryz.underlying23 Tryz.sizeOf63 rfl rfl g54) rfl ?_
       refine wl_on (b := decide (((at' v x30).fInt) < (-1000000000000))) rfl rfl c57 ?_
       refine wl_v (r := rAt [rI .i64 ((at' v x30).fInt), rS ((at' v x30).fStr), rI .i64 ((at' v x30).fN)]) (o_fieldAddr_z Tryz.underlying63 rfl Tryz.sizeOf3 rfl rfl) rfl ?_
       refine wl_on (b := decide (((at' v x30).fInt) < (-1000000000000))) rfl rfl c57 ?_
       refine wl_v (r := rI .i64 ((at' v x30).fInt)) (o_load_z Tryz.isAgg3 rfl rfl) rfl ?_
       refine wl_on (b := decide (((at' v x30).fInt) < (-1000000000000))) rfl rfl c57 ?_
       refine wl_v (r := rB (decide (1000000000000 < ((at' v x30).fInt)))) (o_gt rfl rfl) rfl ?_
       refine wl_on (b := decide (((at' v x30).fKind) = 3)) rfl rfl c56 ?_
       refine wl_v (r := rB (decide (1000000000000 < ((at' v x30).fInt)))) (o_pick_f (b := decide (((at' v x30).fInt) < (-1000000000000))) rfl c57 rfl) rfl ?_
       refine wl_v (r := rB (decide (1000000000000 < ((at' v x30).fInt)))) (o_pick_t (b := decide (((at' v x30).fKind) = 3)) rfl c56 rfl) rfl ?_
       refine wl_nil ?_
       exact wk_then (wk_mid (Sub.c rfl (Sub.c rfl (Sub.c rfl (Sub.c rfl (Sub.c rfl (Sub.c rfl (Sub.c rfl (Sub.c rfl (Sub.c rfl (Sub.c rfl (Sub.c rfl (Sub.c rfl (Sub.c rfl (Sub.c rfl (Sub.c (by first | rfl | (simp only [c56, c57, Bool.true_and, Bool.false_and, Bool.true_or, Bool.false_or, Bool.and_true, Bool.and_false, Bool.or_true, Bool.or_false, Bool.not_true, Bool.not_false, cond_true, cond_false]; rfl)) Sub.nil))))))))))))))) List.Sublist.slnil)
     ·refine wl_off (b := decide (((at' v x30).fKind) = 3)) rfl rfl c56 rfl ?_
      refine wl_off (b := decide (((at' v x30).fKind) = 3)) rfl rfl c56 rfl ?_
      refine wl_off (b := decide (((at' v x30).fKind) = 3)) rfl rfl c56 rfl ?_
      refine wl_off (b := decide (((at' v x30).fKind) = 3)) rfl rfl c56 rfl ?_
      refine wl_off (b := decide (((at' v x30).fKind) = 3)) rfl rfl c56 rfl ?_
      refine wl_off (b := decide (((at' v x30).fKind) = 3)) rfl rfl c56 rfl ?_
      refine wl_off (b := decide (((at' v x30).fKind) = 3)) rfl rfl c56 rfl ?_
      refine wl_off_u rfl rfl rfl ?_
      refine wl_off_u rfl rfl rfl ?_
      refine wl_off_u rfl rfl rfl ?_
      refine wl_off_u rfl rfl rfl ?_
      refine wl_off_u rfl rfl rfl ?_
      refine wl_off_u rfl rfl rfl ?_
      refine wl_off (b := decide (((at' v x30).fKind) = 3)) rfl rfl c56 rfl ?_
      refine wl_v (r := rB false) (o_pick_f (b := decide (((at' v x30).fKind) = 3)) rfl c56 rfl) rfl ?_
      refine wl_nil ?_
      exact wk_then (wk_mid (Sub.c rfl (Sub.c rfl (Sub.c rfl (Sub.c rfl (Sub.c rfl (Sub.c rfl (Sub.c rfl (Sub.c rfl (Sub.c rfl (Sub.c rfl (Sub.c rfl (Sub.c rfl (Sub.c rfl (Sub.c rfl (Sub.c (by first | rfl | (simp only [c56, Bool.true_and, Bool.false_and, Bool.true_or, Bool.false_or, Bool.and_true, Bool.and_false, Bool.or_true, Bool.or_false, Bool.not_true, Bool.not_false, cond_true, cond_false]; rfl)) Sub.nil))))))))))))))) List.Sublist.slnil)
    refine wc_cond (b := ((decide (((at' v x30).fKind) = 3)) && ((decide (((at' v x30).fInt) < (-1000000000000))) || (decide (1000000000000 < ((at' v x30).fInt)))))) rfl (fun c58 => ?_) (fun c58 => ?_)
    ·have h59 := cnd_t c58 h55
     refine wc_sr ?_
     refine wl_v (r := rI .i64 2) (o_assign rfl) rfl ?_
     refine wl_x ?_
     refine wc_ret ?_
     refine wk_in_ret ?_
     refine wk_then_ret ?_
     refine wk_then_ret ?_
     refine wk_cut_ret ?_
     have h60 := stp_ret h59 ht47 hK45
     refine wk_in_ret ?_
     refine wk_then_ret ?_
     obtain rfl := some_e h60
     exact wk_ret (r_1 Tryz.results48 (rv_t rfl)) List.Sublist.slnil ⟨rfl, rfl⟩
    ·have h61 := cnd_f c58 h55
     refine wc_skip ?_
     refine wk_in_norm ?_
     refine wk_x ?_
     refine wc_region ?_
     refine wl_v (r := rI .i64 x30) (o_move rfl) rfl ?_
     obtain ⟨g62, h63⟩ := chk_e h61
     refine wl_v (r := rI .i64 (x30 + 1)) (o_add rfl rfl g62) rfl ?_
     refine wl_v (r := rI .i64 (x30 + 1)) (o_assign rfl) rfl ?_
     refine wl_nil ?_
     have h64 := stp_next h63 ht47
     exact wk_then (wk_some (m48, x30 + 1, ()) ⟨h64, Nat.lt_succ_self _⟩ (Sub.c rfl (Sub.c rfl (Sub.c rfl Sub.nil))) List.Sublist.slnil)
   ·have h65 := cnd_f c52 h50
    refine wc_exit ?_
    refine wk_then_exit ?_
    have h66 := stp_go h65 ht47 hK45
    exact wk_then_exit (wk_cut_hit (wk_some ((), ()) h66 (Sub.c rfl (Sub.c rfl Sub.nil)) List.Sublist.slnil))
  ·rintro ⟨⟨⟩, ⟨⟩⟩ h67
   refine wk_as (l' := [(0, rSl 4 (List.map eTApiCell v)), (2, rI .i64 0)]) (H' := []) rfl rfl ?_
   replace h67 : rCheck_k1 F v  = some r := h67
   unfold rCheck_k1 at h67
   refine wk_in_hit ?_
   refine wk_x ?_
   refine wc_seq ?_
   obtain ⟨g68, h69⟩ := chk_e h67
   refine wc_seq_mid [(0, rSl 4 (List.map eTApiCell v)), (2, rI .i64 0), (43, rB ((decide (200 < (v.length : Int))) || (decide (8 < (ov (rLevels F v 0))))))] [] ?_ ?_
   ·refine wc_region ?_
    refine wl_v (r := rSl 4 (List.map eTApiCell v)) (o_move rfl) rfl ?_
    refine wl_v (r := rI .i64 (v.length : Int)) (o_len_zt (ys := v) (enc := eTApiCell) Tryz.underlying23 rfl) rfl ?_
    refine wl_v (r := rB (decide (200 < (v.length : Int)))) (o_gt rfl rfl) rfl ?_
    refine wl_v (r := rB (decide (200 < (v.length : Int)))) (o_move rfl) rfl ?_
    refine bsplit (decide (200 < (v.length : Int))) (fun c70 => ?_) (fun c70 => ?_)
    ·refine wl_off (b := decide (200 < (v.length : Int))) rfl rfl c70 rfl ?_
     refine wl_off (b := decide (200 < (v.length : Int))) rfl rfl c70 rfl ?_
     refine wl_off (b := decide (200 < (v.length : Int))) rfl rfl c70 rfl ?_
     refine wl_v (r := rB true) (o_pick_t (b := decide (200 < (v.length : Int))) rfl c70 rfl) rfl ?_
     refine wl_nil ?_
     exact wk_then (wk_mid (Sub.c rfl (Sub.c rfl (Sub.c (by first | rfl | (simp only [c70, Bool.true_and, Bool.false_and, Bool.true_or, Bool.false_or, Bool.and_true, Bool.and_false, Bool.or_true, Bool.or_false, Bool.not_true, Bool.not_false, cond_true, cond_false]; rfl)) Sub.nil))) List.Sublist.slnil)
    ·refine wl_on (b := decide (200 < (v.length : Int))) rfl rfl c70 ?_
     refine wl_v (r := rSl 4 (List.map eTApiCell v)) (o_move rfl) rfl ?_
     refine wl_on (b := decide (200 < (v.length : Int))) rfl rfl c70 ?_
     refine w_call0 (rs := [rSl 4 (List.map eTApiCell v), rI .i64 0]) (r := rI .i64 (ov (rLevels F v 0))) Tryz.call72 rfl (rLevels_w F v 0 (ov (rLevels F v 0)) (ov_e (imp_f g68 c70))) rfl rfl ?_
     refine wl_on (b := decide (200 < (v.length : Int))) rfl rfl c70 ?_
     refine wl_v (r := rB (decide (8 < (ov (rLevels F v 0))))) (o_gt rfl rfl) rfl ?_
     refine wl_v (r := rB (decide (8 < (ov (rLevels F v 0))))) (o_pick_f (b := decide (200 < (v.length : Int))) rfl c70 rfl) rfl ?_
     refine wl_nil ?_
     exact wk_then (wk_mid (Sub.c rfl (Sub.c rfl (Sub.c (by first | rfl | (simp only [c70, Bool.true_and, Bool.false_and, Bool.true_or, Bool.false_or, Bool.and_true, Bool.and_false, Bool.or_true, Bool.or_false, Bool.not_true, Bool.not_false, cond_true, cond_false]; rfl)) Sub.nil))) List.Sublist.slnil)
   refine wc_cond (b := ((decide (200 < (v.length : Int))) || (decide (8 < (ov (rLevels F v 0)))))) rfl (fun c71 => ?_) (fun c71 => ?_)
   ·have h72 := cnd_t c71 h69
    refine wc_sr ?_
    refine wl_v (r := rI .i64 3) (o_assign rfl) rfl ?_
    refine wl_x ?_
    refine wc_ret ?_
    refine wk_then_ret ?_
    obtain rfl := some_e h72
    exact wk_ret (r_1 Tryz.results48 (rv_t rfl)) List.Sublist.slnil ⟨rfl, rfl⟩
   ·have h73 := cnd_f c71 h69
    refine wc_skip ?_
    refine wk_x ?_
    refine wc_seq ?_
    refine wc_sr ?_
    refine wl_v (r := rI .i64 0) (o_assign rfl) rfl ?_
    refine wl_x ?_
    refine wc_block ?_
    obtain ⟨o104, eo105, hK106⟩ := obn_e h73
    refine wc_loop2 (S := Nat × (Int) × (Unit)) (V := (Unit) × (Unit)) 2 (fun σ => lop (fun σ => rCheck_b2 v σ) σ.1 σ.2.1 = some o104) (fun σ => [(0, rSl 4 (List.map eTApiCell v)), (2, rI .i64 0), (4, rI .i64 σ.2.1)]) (fun σ => []) (fun σ => σ.1) (F, 0, ()) eo105 (Sub.c rfl (Sub.c rfl (Sub.c rfl Sub.nil))) List.Sublist.slnil (fun σ => rCheck_k2 F v  = some r) (fun σ => [(0, rSl 4 (List.map eTApiCell v)), (2, rI .i64 0)]) (fun σ => []) ?_ ?_
    ·rintro ⟨n112, x93, ⟨⟩⟩ hi110
     refine wc_as (l' := [(0, rSl 4 (List.map eTApiCell v)), (2, rI .i64 0), (4, rI .i64 x93)]) (H' := []) rfl rfl ?_
     obtain ⟨m109, rfl, t107, h111, ht108⟩ := lop_e hi110
     replace h111 : rCheck_b2 v x93 = some t107 := h111
     unfold rCheck_b2 at h111
     refine wc_seq ?_
     refine wc_sr ?_
     refine wl_v (r := rI .i64 x93) (o_move rfl) rfl ?_
     refine wl_v (r := rSl 4 (List.map eTApiCell v)) (o_move rfl) rfl ?_
     refine wl_v (r := rI .i64 (v.length : Int)) (o_len_zt (ys := v) (enc := eTApiCell) Tryz.underlying23 rfl) rfl ?_
     refine wl_v (r := rB (decide (x93 < (v.length : Int)))) (o_lt rfl rfl) rfl ?_
     refine wl_x ?_
     refine wc_cond (b := decide (x93 < (v.length : Int))) rfl (fun c113 => ?_) (fun c113 => ?_)
     ·have h114 := cnd_t c113 h111
      refine wc_skip ?_
      refine wk_x ?_
      refine wc_seq ?_
      refine wc_block ?_
      refine wc_sr ?_
      refine wl_v (r := rSl 4 (List.map eTApiCell v)) (o_move rfl) rfl ?_
      refine wl_v (r := rI .i64 x93) (o_move rfl) rfl ?_
      obtain ⟨g115, h116⟩ := chk_e h114
      refine wl_v (r := rAt (eTApiCell (at' v x93))) (o_ix_z (enc := eTApiCell) (ys := v) Tryz.underlying23 Tryz.sizeOf63 rfl rfl g115) rfl ?_
      refine wl_v (r := rAt [rS ((at' v x93).fStr), rI .i64 ((at' v x93).fN)]) (o_fieldAddr_z Tryz.underlying63 rfl Tryz.sizeOf9 rfl rfl) rfl ?_
      refine wl_v (r := rS ((at' v x93).fStr)) (o_load_z Tryz.isAgg9 rfl rfl) rfl ?_
      refine wl_v (r := rI .i64 (((at' v x93).fStr).length : Int)) (o_len_s Tryz.underlying9 rfl) rfl ?_
      refine wl_v (r := rB (decide (200 < (((at' v x93).fStr).length : Int)))) (o_gt rfl rfl) rfl ?_
      refine wl_x ?_
      refine wc_cond (b := decide (200 < (((at' v x93).fStr).length : Int))) rfl (fun c117 => ?_) (fun c117 => ?_)
      ·have h118 := cnd_t c117 h116
       refine wc_sr ?_
       refine wl_v (r := rI .i64 3) (o_assign rfl) rfl ?_
       refine wl_x ?_
       refine wc_ret ?_
       refine wk_in_ret ?_
       refine wk_then_ret ?_
       refine wk_then_ret ?_
       refine wk_cut_ret ?_
       have h119 := stp_ret h118 ht108 hK106
       refine wk_in_ret ?_
       refine wk_then_ret ?_
       obtain rfl := some_e h119
       exact wk_ret (r_1 Tryz.results48 (rv_t rfl)) List.Sublist.slnil ⟨rfl, rfl⟩
      ·have h120 := cnd_f c117 h116
       refine wc_skip ?_
       refine wk_in_norm ?_
       refine wk_x ?_
       refine wc_region ?_
       refine wl_v (r := rI .i64 x93) (o_move rfl) rfl ?_
       obtain ⟨g121, h122⟩ := chk_e h120
       refine wl_v (r := rI .i64 (x93 + 1)) (o_add rfl rfl g121) rfl ?_
       refine wl_v (r := rI .i64 (x93 + 1)) (o_assign rfl) rfl ?_
       refine wl_nil ?_
       have h123 := stp_next h122 ht108
       exact wk_then (wk_some (m109, x93 + 1, ()) ⟨h123, Nat.lt_succ_self _⟩ (Sub.c rfl (Sub.c rfl (Sub.c rfl Sub.nil))) List.Sublist.slnil)
     ·have h124 := cnd_f c113 h111
      refine wc_exit ?_
      refine wk_then_exit ?_
      have h125 := stp_go h124 ht108 hK106
      exact wk_then_exit (wk_cut_hit (wk_some ((), ()) h125 (Sub.c rfl (Sub.c rfl Sub.nil)) List.Sublist.slnil))
    ·rintro ⟨⟨⟩, ⟨⟩⟩ h126
     refine wk_as (l' := [(0, rSl 4 (List.map eTApiCell v)), (2, rI .i64 0)]) (H' := []) rfl rfl ?_
     replace h126 : rCheck_k2 F v  = some r := h126
     unfold rCheck_k2 at h126
     refine wk_in_hit ?_
     refine wk_x ?_
     refine wc_seq ?_
     refine wc_sr ?_
     refine wl_v (r := rSl 4 (List.map eTApiCell v)) (o_move rfl) rfl ?_
     obtain ⟨r127, e129, h128⟩ := obn_e h126
     refine w_call0 (rs := [rSl 4 (List.map eTApiCell v), rI .i64 0]) (r := rS r127) Tryz.call73 rfl (rText_w F v 0 r127 e129) rfl rfl ?_
     refine wl_v (r := rI .i64 (r127.length : Int)) (o_len_s Tryz.underlying9 rfl) rfl ?_
     refine wl_v (r := rB (decide (4000 < (r127.length : Int)))) (o_gt rfl rfl) rfl ?_
     refine wl_x ?_
     refine wc_cond (b := decide (4000 < (r127.length : Int))) rfl (fun c130 => ?_) (fun c130 => ?_)
     ·have h131 := cnd_t c130 h128
      refine wc_sr ?_
      refine wl_v (r := rI .i64 3) (o_assign rfl) rfl ?_
      refine wl_x ?_
      refine wc_ret ?_
      refine wk_then_ret ?_
      obtain rfl := some_e h131
      exact wk_ret (r_1 Tryz.results48 (rv_t rfl)) List.Sublist.slnil ⟨rfl, rfl⟩
     ·have h132 := cnd_f c130 h128
      refine wc_skip ?_
      refine wk_x ?_
      refine wc_sr ?_
      refine wl_v (r := rI .i64 0) (o_assign rfl) rfl ?_
      refine wl_x ?_
      refine wc_ret ?_
      obtain rfl := some_e h132
      exact wk_ret (r_1 Tryz.results48 (rv_t rfl)) List.Sublist.slnil ⟨rfl, rfl⟩

end Go.Proofs.YtkalifgebccpcaaGreatDoor.Q

/-
  What functions compute, with checks: plain definitions, printed by a small program of ours (gq.py). No program in sight.
-/
namespace Go.Proofs.YtkalifgebccpcaaGreatDoor
open Go
set_option linter.unusedVariables false
structure TValueOpen where
  fPairs : Bool
  fLeft : Int
  fKey : Bool
  fLast : Str
  fStarted : Bool
  deriving DecidableEq, Inhabited
structure TValueShape where
  fDepth : Int
  fBytes : Int
  fOutside : Bool
  fLong : Bool
  deriving DecidableEq, Inhabited
def nValid (n : Int) : Option (Bool) :=
  some ((decide ((-1000000000000) ≤ n)) && (decide (n ≤ 1000000000000)))

def vText_b1 (s : Str) (x22 : Int) : Option (Stp (Int) (Out (Bool) (Unit))) :=
  cnd (decide (x22 < (s.length : Int))) (chk (inR x22 (s.length : Int)) <| cnd (((decide ((bat s x22) < 32)) || (decide (126 < (bat s x22))))) (some (.out (.ret false))) (chk (inK .i64 (x22 + 1)) <| some (.next (x22 + 1)))) (some (.out (.go ())))

def vText_k1  : Option (Bool) :=
  some true

def vText (F : Nat) (s : Str) : Option (Bool) :=
  obn (lop (fun σ => vText_b1 s σ) F 0) (oute fun ν => vText_k1 )

def vQuoted (s : Str) : Option (Int) :=
  chk (inK .i64 ((s.length : Int) + 2)) <| chk (inK .i64 (((s.length : Int) + 2) + (Lib.countByte s 34 : Int))) <| chk (inK .i64 ((((s.length : Int) + 2) + (Lib.countByte s 34 : Int)) + (Lib.countByte s 92 : Int))) <| some ((((s.length : Int) + 2) + (Lib.countByte s 34 : Int)) + (Lib.countByte s 92 : Int))

def vPlain (F : Nat) (c : TApiCell) : Option (Bool) :=
  cnd (decide (c.fKind = 1)) (some ((decide (c.fInt = 0)) && ((decide (c.fStr = ([] : Str))) && (decide (c.fN = 0))))) (cnd (decide (c.fKind = 2)) (some (bif decide (c.fInt = 0) then ((decide (c.fStr = ([] : Str))) && (decide (c.fN = 0))) else ((decide (c.fInt = 1)) && ((decide (c.fStr = ([] : Str))) && (decide (c.fN = 0)))))) (cnd (decide (c.fKind = 3)) (some ((decide (c.fStr = ([] : Str))) && (decide (c.fN = 0)))) (cnd (decide (c.fKind = 4)) (chk (imp (decide (c.fInt = 0)) (imp (decide (c.fN = 0)) ((vText F c.fStr).isSome))) <| some ((decide (c.fInt = 0)) && ((decide (c.fN = 0)) && (ov (vText F c.fStr))))) (cnd (decide (c.fKind = 5)) (some ((decide (c.fInt = 0)) && ((decide (c.fStr = ([] : Str))) && (decide (0 ≤ c.fN))))) (cnd (decide (c.fKind = 6)) (some ((decide (c.fInt = 0)) && ((decide (c.fStr = ([] : Str))) && (decide (0 ≤ c.fN))))) (some false))))))

def vSize (c : TApiCell) : Option (Int) :=
  cnd (decide (c.fKind = 1)) (some 4) (cnd (decide (c.fKind = 2)) (some (IntKind.wrap .i64 (5 - c.fInt))) (cnd (decide (c.fKind = 3)) (chk (inK .i64 c.fInt) <| some ((Lib.itoa c.fInt).length : Int)) (cnd (decide (c.fKind = 4)) (obn (vQuoted c.fStr) fun r15 => some r15) (some (IntKind.wrap .i64 (2 + (max 0 (IntKind.wrap .i64 (c.fN - 1)))))))))

def vClosed_b1 (x159 : (List TValueOpen)) : Option (Stp ((List TValueOpen)) (Out ((List TValueOpen)) ((List TValueOpen)))) :=
  cnd (decide (0 < (x159.length : Int))) (chk (inK .i64 ((x159.length : Int) - 1)) <| chk (inR ((x159.length : Int) - 1) (x159.length : Int)) <| chk (inK .i64 (((at' x159 ((x159.length : Int) - 1)).fLeft) - 1)) <| bnd (List.set x159 (Int.toNat ((x159.length : Int) - 1)) (TValueOpen.mk ((at' x159 ((x159.length : Int) - 1)).fPairs) (((at' x159 ((x159.length : Int) - 1)).fLeft) - 1) ((at' x159 ((x159.length : Int) - 1)).fKey) ((at' x159 ((x159.length : Int) - 1)).fLast) ((at' x159 ((x159.length : Int) - 1)).fStarted))) fun r203 => cnd (decide (0 < ((at' r203 ((x159.length : Int) - 1)).fLeft))) (bnd (List.set r203 (Int.toNat ((x159.length : Int) - 1)) (TValueOpen.mk ((at' r203 ((x159.length : Int) - 1)).fPairs) ((at' r203 ((x159.length : Int) - 1)).fLeft) ((at' r203 ((x159.length : Int) - 1)).fPairs) ((at' r203 ((x159.length : Int) - 1)).fLast) ((at' r203 ((x159.length : Int) - 1)).fStarted))) fun r208 => some (.out (.ret r208))) (chk (inK .i64 ((r203.length : Int) - 1)) <| chk (inC ((r203.length : Int) - 1) (r203.length : Int)) <| some (.next (List.take (Int.toNat ((r203.length : Int) - 1)) r203)))) (some (.out (.go x159)))

def vClosed_k1 (x184 : (List TValueOpen)) : Option ((List TValueOpen)) :=
  some x184

def vClosed (F : Nat) (stack : (List TValueOpen)) : Option ((List TValueOpen)) :=
  obn (lop (fun σ => vClosed_b1 σ) F stack) (oute fun ν => vClosed_k1 ν)

def vLook_j2 (x239 : Int) (x474 : (List TValueOpen)) (x476 : Bool) (x477 : Bool) (x478 : TValueShape) : Option (Stp ((List TValueOpen) × Int × TValueShape) (Out (Int × TValueShape × Bool) (TValueShape))) :=
  chk (inK .i64 (x239 + 1)) <| some (.next (x474, x239 + 1, x478))

def vLook_b1 (F : Nat) (v : (List TApiCell)) (x237 : (List TValueOpen)) (x239 : Int) (x240 : TValueShape) : Option (Stp ((List TValueOpen) × Int × TValueShape) (Out (Int × TValueShape × Bool) (TValueShape))) :=
  cnd (decide (x239 < (v.length : Int))) (chk (inR x239 (v.length : Int)) <| obn (vPlain F (at' v x239)) fun r482 => cnd (!r482) (some (.out (.ret (0, x240, false)))) (chk (imp (decide (0 < (x237.length : Int))) (inK .i64 ((x237.length : Int) - 1))) <| chk (imp (decide (0 < (x237.length : Int))) (inR ((x237.length : Int) - 1) (x237.length : Int))) <| cnd (((decide (0 < (x237.length : Int))) && ((at' x237 ((x237.length : Int) - 1)).fKey))) (chk (inK .i64 ((x237.length : Int) - 1)) <| chk (inR ((x237.length : Int) - 1) (x237.length : Int)) <| cnd (((!decide (((at' v x239).fKind) = 4)) || (((at' x237 ((x237.length : Int) - 1)).fStarted) && (sLess ((at' v x239).fStr) ((at' x237 ((x237.length : Int) - 1)).fLast) || decide (((at' v x239).fStr) = ((at' x237 ((x237.length : Int) - 1)).fLast)))))) (some (.out (.ret (0, x240, false)))) (bnd (List.set x237 (Int.toNat ((x237.length : Int) - 1)) (TValueOpen.mk ((at' x237 ((x237.length : Int) - 1)).fPairs) ((at' x237 ((x237.length : Int) - 1)).fLeft) ((at' x237 ((x237.length : Int) - 1)).fKey) ((at' v x239).fStr) ((at' x237 ((x237.length : Int) - 1)).fStarted))) fun r506 => bnd (List.set r506 (Int.toNat ((x237.length : Int) - 1)) (TValueOpen.mk ((at' r506 ((x237.length : Int) - 1)).fPairs) ((at' r506 ((x237.length : Int) - 1)).fLeft) ((at' r506 ((x237.length : Int) - 1)).fKey) ((at' r506 ((x237.length : Int) - 1)).fLast) true)) fun r509 => bnd (List.set r509 (Int.toNat ((x237.length : Int) - 1)) (TValueOpen.mk ((at' r509 ((x237.length : Int) - 1)).fPairs) ((at' r509 ((x237.length : Int) - 1)).fLeft) false ((at' r509 ((x237.length : Int) - 1)).fLast) ((at' r509 ((x237.length : Int) - 1)).fStarted))) fun r512 => obn (vQuoted ((at' v x239).fStr)) fun r515 => chk (inK .i64 (r515 + 1)) <| vLook_j2 x239 r512 r482 (!r482) (TValueShape.mk x240.fDepth (IntKind.wrap .i64 (x240.fBytes + (r515 + 1))) x240.fOutside (x240.fLong || (decide (200 < (((at' v x239).fStr).length : Int))))))) (chk (inK .i64 ((x237.length : Int) + 1)) <| obn (vSize (at' v x239)) fun r524 => chk (imp (!x240.fOutside) (imp (decide (((at' v x239).fKind) = 3)) ((nValid ((at' v x239).fInt)).isSome))) <| cnd (decide (0 < ((at' v x239).fN))) (cnd (decide ((v.length : Int) < ((at' v x239).fN))) (some (.out (.ret (0, (TValueShape.mk (max x240.fDepth ((x237.length : Int) + 1)) (IntKind.wrap .i64 (x240.fBytes + r524)) (x240.fOutside || ((decide (((at' v x239).fKind) = 3)) && (!(ov (nValid ((at' v x239).fInt)))))) (x240.fLong || (decide (200 < (((at' v x239).fStr).length : Int))))), false)))) (chk (inA 48 (x237.length + ([(TValueOpen.mk (decide (((at' v x239).fKind) = 6)) ((at' v x239).fN) (decide (((at' v x239).fKind) = 6)) ([] : Str) false)] : List TValueOpen).length)) <| vLook_j2 x239 (x237 ++ ([(TValueOpen.mk (decide (((at' v x239).fKind) = 6)) ((at' v x239).fN) (decide (((at' v x239).fKind) = 6)) ([] : Str) false)] : List TValueOpen)) r482 (!r482) (TValueShape.mk (max x240.fDepth ((x237.length : Int) + 1)) (IntKind.wrap .i64 (x240.fBytes + r524)) (x240.fOutside || ((decide (((at' v x239).fKind) = 3)) && (!(ov (nValid ((at' v x239).fInt)))))) (x240.fLong || (decide (200 < (((at' v x239).fStr).length : Int))))))) (obn (vClosed F x237) fun r543 => cnd (decide ((r543.length : Int) = 0)) (chk (inK .i64 (x239 + 1)) <| some (.out (.ret (x239 + 1, (TValueShape.mk (max x240.fDepth ((x237.length : Int) + 1)) (IntKind.wrap .i64 (x240.fBytes + r524)) (x240.fOutside || ((decide (((at' v x239).fKind) = 3)) && (!(ov (nValid ((at' v x239).fInt)))))) (x240.fLong || (decide (200 < (((at' v x239).fStr).length : Int))))), true)))) (vLook_j2 x239 r543 r482 (!r482) (TValueShape.mk (max x240.fDepth ((x237.length : Int) + 1)) (IntKind.wrap .i64 (x240.fBytes + r524)) (x240.fOutside || ((decide (((at' v x239).fKind) = 3)) && (!(ov (nValid ((at' v x239).fInt)))))) (x240.fLong || (decide (200 < (((at' v x239).fStr).length : Int)))))))))) (some (.out (.go x240)))

def vLook_k1 (x392 : TValueShape) : Option (Int × TValueShape × Bool) :=
  some (0, x392, false)

def vLook (F : Nat) (v : (List TApiCell)) : Option (Int × TValueShape × Bool) :=
  obn (lop (fun σ => vLook_b1 F v σ.1 σ.2.1 σ.2.2) F (([] : List TValueOpen), 0, (TValueShape.mk 0 0 false false))) (oute fun ν => vLook_k1 ν)

def vCheck (F : Nat) (v : (List TApiCell)) : Option (Int) :=
  obn (vLook F v) fun r1 => cnd (((!r1.2.2) || (!decide (r1.1 = (v.length : Int))))) (some 1) (cnd (r1.2.1.fOutside) (some 2) (cnd ((r1.2.1.fLong || ((decide (200 < (v.length : Int))) || ((decide (8 < r1.2.1.fDepth)) || (decide (4000 < r1.2.1.fBytes)))))) (some 3) (some 0)))

def vDepth (F : Nat) (v : (List TApiCell)) : Option (Int) :=
  obn (vCheck F v) fun r1 => cnd (!decide (r1 = 0)) (some 0) (obn (vLook F v) fun r7 => some r7.2.1.fDepth)

def vChecked (F : Nat) (v : (List TApiCell)) : Option ((List TApiCell) × Int) :=
  obn (vCheck F v) fun r1 => cnd (!decide (r1 = 0)) (some (([] : List TApiCell), r1)) (some (v, 0))

def vNull  : Option ((List TApiCell)) :=
  some ([(TApiCell.mk 1 0 ([] : Str) 0)] : List TApiCell)

def vBool (b : Bool) : Option ((List TApiCell)) :=
  cnd (b) (some ([(TApiCell.mk 2 1 ([] : Str) 0)] : List TApiCell)) (some ([(TApiCell.mk 2 0 ([] : Str) 0)] : List TApiCell))

def vInt (F : Nat) (n : Int) : Option ((List TApiCell) × Int) :=
  obn (vChecked F ([(TApiCell.mk 3 n ([] : Str) 0)] : List TApiCell)) fun r2 => some (r2.1, r2.2)

def vStr (F : Nat) (s : Str) : Option ((List TApiCell) × Int) :=
  obn (vChecked F ([(TApiCell.mk 4 0 s 0)] : List TApiCell)) fun r2 => some (r2.1, r2.2)

def vList_b1 (F : Nat) (l : (List (List TApiCell))) (x35 : (List TApiCell)) (x37 : Int) : Option (Stp ((List TApiCell) × Int) (Out ((List TApiCell) × Int) ((List TApiCell)))) :=
  cnd (decide (x37 < (l.length : Int))) (chk (inR x37 (l.length : Int)) <| obn (vCheck F (at' l x37)) fun r69 => cnd (!decide (r69 = 0)) (some (.out (.ret (([] : List TApiCell), r69)))) (chk (inA 40 (x35.length + (at' l x37).length)) <| chk (inK .i64 (x37 + 1)) <| some (.next (x35 ++ (at' l x37), x37 + 1)))) (some (.out (.go x35)))

def vList_k1 (F : Nat) (x54 : (List TApiCell)) : Option ((List TApiCell) × Int) :=
  obn (vChecked F x54) fun r85 => some (r85.1, r85.2)

def vList (F : Nat) (l : (List (List TApiCell))) : Option ((List TApiCell) × Int) :=
  obn (lop (fun σ => vList_b1 F l σ.1 σ.2) F (([(TApiCell.mk 5 0 ([] : Str) (l.length : Int))] : List TApiCell), 0)) (oute fun ν => vList_k1 F ν)

def vMap_b1 (F : Nat) (keys : (List Str)) (l : (List (List TApiCell))) (x50 : (List TApiCell)) (x52 : Int) : Option (Stp ((List TApiCell) × Int) (Out ((List TApiCell) × Int) ((List TApiCell)))) :=
  cnd (decide (x52 < (l.length : Int))) (chk (inR x52 (l.length : Int)) <| obn (vCheck F (at' l x52)) fun r90 => cnd (!decide (r90 = 0)) (some (.out (.ret (([] : List TApiCell), r90)))) (chk (inR x52 (keys.length : Int)) <| chk (inA 40 (x50.length + ([(TApiCell.mk 4 0 (at' keys x52) 0)] : List TApiCell).length)) <| chk (inA 40 ((x50 ++ ([(TApiCell.mk 4 0 (at' keys x52) 0)] : List TApiCell)).length + (at' l x52).length)) <| chk (inK .i64 (x52 + 1)) <| some (.next ((x50 ++ ([(TApiCell.mk 4 0 (at' keys x52) 0)] : List TApiCell)) ++ (at' l x52), x52 + 1)))) (some (.out (.go x50)))

def vMap_k1 (F : Nat) (x75 : (List TApiCell)) : Option ((List TApiCell) × Int) :=
  obn (vChecked F x75) fun r112 => some (r112.1, r112.2)

def vMap (F : Nat) (keys : (List Str)) (l : (List (List TApiCell))) : Option ((List TApiCell) × Int) :=
  cnd (!decide ((keys.length : Int) = (l.length : Int))) (some (([] : List TApiCell), 1)) (obn (lop (fun σ => vMap_b1 F keys l σ.1 σ.2) F (([(TApiCell.mk 6 0 ([] : Str) (l.length : Int))] : List TApiCell), 0)) (oute fun ν => vMap_k1 F ν))

end Go.Proofs.YtkalifgebccpcaaGreatDoor
