/-
  Texts of the proof, put together: WVa, PVb, WVb, PVc, WVc, PVd.
-/
import Derived.Test.YtpmiamphppcfeaaGreatDoorED2
/-
  Walks, printed by a small program of ours (gq.py).
-/
namespace Go.Proofs.YtpmiamphppcfeaaGreatDoor.Q
open Go Go.RowKit
set_option linter.unusedVariables false
set_option linter.unusedSimpArgs false
set_option maxRecDepth 100000
set_option maxHeartbeats 4000000
@[reducible] def eTApiCell (x : TApiCell) : List Rp := [rI .i64 x.fKind, rI .i64 x.fInt, rS x.fStr, rI .i64 x.fN]
theorem eTApiCell_len (x : TApiCell) : (eTApiCell x).length = 4 := rfl
theorem eTApiCell_one (x : TApiCell) : (eTApiCell x).all (·.one) = true := rfl
theorem rPlain_w (F : Nat) (s : Str) (r : Bool) (h : rPlain F s = some r) : Fn Tryz.prog GE 138 [rS s] [] (fun R H => R = rB r ∧ H = []) := by
 refine enter (n := 20) Tryz.func138 rfl Tryz.ntmps138 rfl (fun w Z => ?_)
 unfold rPlain at h
 refine wc_sr (wa rfl (wl_x (wc_seq (wc_sr (wa rfl (wl_x (wc_block (ob h fun o34 eo35 hK36 => wc_loop2 (S := Nat × (Int) × (Unit)) (V := (Unit) × (Unit)) 0 (fun σ => lop (fun σ => rPlain_b1 s σ) σ.1 σ.2.1 = some o34) (fun σ => [(0, rS s), (3, rI .i64 σ.2.1)]) (fun σ => []) (fun σ => σ.1) (F, 0, ()) eo35 (Sub.c rfl (Sub.c rfl Sub.nil)) sN (fun σ => rPlain_k1  = some r) (fun σ => []) (fun σ => []) ?_ ?_))))))))
 ·rintro ⟨n42, x22, ⟨⟩⟩ hi40
  refine wc_as (l' := [(0, rS s), (3, rI .i64 x22)]) (H' := []) rfl rfl ?_
  obtain ⟨m39, rfl, t37, h41, ht38⟩ := lop_e hi40
  replace h41 : rPlain_b1 s x22 = some t37 := h41
  unfold rPlain_b1 at h41
  refine wc_seq (wc_sr (wm rfl (wm rfl (wv (o_len_s yu9 rfl) (wv (o_lt rfl rfl) (wl_x (cz h41 rfl (fun c43 h44 => ?_) (fun c43 h55 => ?_))))))))
  ·refine wc_skip (wk_x (wc_seq (wc_block (ck h44 fun g45 h46 => wc_seq_mid [(0, rS s), (3, rI .i64 x22), (19, rB ((decide ((bat s x22) < 32)) || (decide (126 < (bat s x22)))))] [] ?_ ?_))))
   ·refine wc_region (wm rfl (wm rfl (wv (o_index_b yu9 rfl rfl g45) (wv (o_lt rfl rfl) (wm rfl (bsplit (decide ((bat s x22) < 32)) (fun c47 => ?_) (fun c47 => ?_)))))))
    ·refine wf c47 (wf c47 (wf c47 (wf c47 (wv (r := rB true) (o_pick_t rfl c47 rfl) (wl_nil ?_)))))
     exact wtc c47
    ·refine wo c47 (wm rfl (wo c47 (wm rfl (wo c47 (wv (o_index_b yu9 rfl rfl g45) (wo c47 (wv (o_gt rfl rfl) (wpf rfl c47 rfl (wl_nil ?_)))))))))
     exact wtc c47
   refine cz h46 rfl (fun c48 h49 => ?_) (fun c48 h51 => ?_)
   ·refine wc_sr (wa rfl (wl_x (wc_ret (wk_in_ret (wk_then_ret (wk_then_ret (wk_cut_ret ?_)))))))
    have h50 := stp_ret h49 ht38 hK36
    refine wk_in_ret (wk_then_ret ?_)
    obtain rfl := some_e h50
    exact wk_ret (r_1 Tryz.results138 (rv_t rfl)) sN ⟨rfl, rfl⟩
   ·refine wc_skip (wk_in_norm (wk_x (wc_region (wm rfl (ck h51 fun g52 h53 => wv (o_add rfl rfl g52) (wa rfl (wl_nil ?_)))))))
    have h54 := stp_next h53 ht38
    exact wk_then (wk_some (m39, x22 + 1, ()) ⟨h54, Nat.lt_succ_self _⟩ (Sub.c rfl (Sub.c rfl Sub.nil)) sN)
  ·refine wc_exit (wk_then_exit ?_)
   have h56 := stp_go h55 ht38 hK36
   exact wk_then_exit (wk_cut_hit (wk_some ((), ()) h56 Sub.nil sN))
 ·rintro ⟨⟨⟩, ⟨⟩⟩ h57
  refine wk_as (l' := []) (H' := []) rfl rfl ?_
  replace h57 : rPlain_k1  = some r := h57
  unfold rPlain_k1 at h57
  refine wk_in_hit (wk_x (wc_sr (wa rfl (wl_x (wc_ret ?_)))))
  obtain rfl := some_e h57
  exact wk_ret (r_1 Tryz.results138 (rv_t rfl)) sN ⟨rfl, rfl⟩

theorem rAfter_w (ok : Bool) (i : Int) (r : Int) (h : rAfter ok i = some r) : Fn Tryz.prog GE 120 [rB ok, rI .i64 i] [] (fun R H => R = rI .i64 r ∧ H = []) := by
 refine enter (n := 8) Tryz.func120 rfl Tryz.ntmps120 rfl (fun w Z => ?_)
 unfold rAfter at h
 refine wc_sr (wa rfl (wl_x (wc_seq (wc_sr (wm rfl (wl_x (cz h rfl (fun c1 h2 => ?_) (fun c1 h5 => ?_))))))))
 ·refine wc_sr (wm rfl (ck h2 fun g3 h4 => wv (o_add rfl rfl g3) (wa rfl (wl_x (wc_ret (wk_then_ret ?_))))))
  obtain rfl := some_e h4
  exact wk_ret (r_1 Tryz.results120 (rv_t rfl)) sN ⟨rfl, rfl⟩
 ·refine wc_skip (wk_x (wc_sr (wv (r := rI .i64 (-1)) (o_assign rfl) (wl_x (wc_ret ?_)))))
  obtain rfl := some_e h5
  exact wk_ret (r_1 Tryz.results120 (rv_t rfl)) sN ⟨rfl, rfl⟩

theorem rKey_w (F : Nat) (c : TApiCell) (r : Bool) (h : rKey F c = some r) : Fn Tryz.prog GE 121 [rAgg (eTApiCell c)] [] (fun R H => R = rB r ∧ H = []) := by
 refine enter (n := 21) Tryz.func121 rfl Tryz.ntmps121 rfl (fun w Z => ?_)
 unfold rKey at h
 refine wc_sr (w_box_agg rfl rfl (fun b1 => ?_))
 refine wa rfl (wl_x (ck h fun g2 h3 => wc_seq_mid [(2, rB ((decide (c.fKind = 4)) && ((decide (c.fInt = 0)) && ((decide (c.fN = 0)) && (ov (rPlain F c.fStr))))))] [] ?_ ?_))
 ·refine wc_region (vF yu51 rfl ys49 (vL 0 ya49 rfl (wv (o_eq rfl rfl) (wm rfl (bsplit (decide (c.fKind = 4)) (fun c4 => ?_) (fun c4 => ?_))))))
  ·refine wo c4 (vF yu51 rfl ys3 (wo c4 (vL 0 ya3 rfl (wo c4 (wv (o_eq rfl rfl) (wpt rfl c4 rfl (wm rfl (bsplit (decide (c.fInt = 0)) (fun c5 => ?_) (fun c5 => ?_)))))))))
   ·refine wo c5 (vF yu51 rfl ys3 (wo c5 (vL 0 ya3 rfl (wo c5 (wv (o_eq rfl rfl) (wpt rfl c5 rfl (wm rfl (bsplit (decide (c.fN = 0)) (fun c6 => ?_) (fun c6 => ?_)))))))))
    ·refine wo c6 (vF yu51 rfl ys9 (wo c6 (vL 0 ya9 rfl (wo c6 (wc0 Tryz.call138 (rPlain_w F c.fStr (ov (rPlain F c.fStr)) (ov_e (imp_t (imp_t (imp_t g2 c4) c5) c6))) rfl (wpt rfl c6 rfl (wa rfl (wl_nil ?_))))))))
     exact wtc (And.intro c4 (And.intro c5 c6))
    ·refine wf c6 (wf c6 (wf c6 (wv (r := rB false) (o_pick_f rfl c6 rfl) (wa rfl (wl_nil ?_)))))
     exact wtc (And.intro c4 (And.intro c5 c6))
   ·refine wf c5 (wf c5 (wf c5 (wv (r := rB false) (o_pick_f rfl c5 rfl) (wm rfl (wz rfl rfl (wz rfl rfl (wz rfl rfl (wv (r := rB false) (o_pick_f (b := false) rfl rfl rfl) (wa rfl (wl_nil ?_))))))))))
    exact wtc (And.intro c4 c5)
  ·refine wf c4 (wf c4 (wf c4 (wv (r := rB false) (o_pick_f rfl c4 rfl) (wm rfl (wz rfl rfl (wz rfl rfl (wz rfl rfl (wv (r := rB false) (o_pick_f (b := false) rfl rfl rfl) (wm rfl (wz rfl rfl (wz rfl rfl (wz rfl rfl (wv (r := rB false) (o_pick_f (b := false) rfl rfl rfl) (wa rfl (wl_nil ?_)))))))))))))))
   exact wtc c4
 refine wc_ret ?_
 obtain rfl := some_e h3
 exact wk_ret (r_1 Tryz.results121 (rv_t rfl)) sN ⟨rfl, rfl⟩

theorem rNextm_w (F : Nat) (rec_rElements : (List TApiCell) → Int → Int → Option (Int)) (rec_rPairs : (List TApiCell) → Int → Int → Option (Int)) (ih_rElements : (∀ (v : (List TApiCell)) (i : Int) (n : Int) (r : Int), rec_rElements v i n = some r → Fn Tryz.prog GE 122 [rSl 4 (List.map eTApiCell v), rI .i64 i, rI .i64 n] [] (fun R H => R = rI .i64 r ∧ H = []))) (ih_rPairs : (∀ (v : (List TApiCell)) (i : Int) (n : Int) (r : Int), rec_rPairs v i n = some r → Fn Tryz.prog GE 123 [rSl 4 (List.map eTApiCell v), rI .i64 i, rI .i64 n] [] (fun R H => R = rI .i64 r ∧ H = []))) (v : (List TApiCell)) (i : Int) (r : Int) (h : rNextm F rec_rElements rec_rPairs v i = some r) : Fn Tryz.prog GE 102 [rSl 4 (List.map eTApiCell v), rI .i64 i] [] (fun R H => R = rI .i64 r ∧ H = []) := by
 refine enter (n := 127) Tryz.func102 rfl Tryz.ntmps102 rfl (fun w Z => ?_)
 unfold rNextm at h
 refine wc_sr (wa rfl (wl_x (wc_seq (wc_seq_mid [(0, rSl 4 (List.map eTApiCell v)), (1, rI .i64 i), (13, rB ((decide (i < 0)) || (decide ((v.length : Int) ≤ i))))] [] ?_ ?_))))
 ·refine wc_region (wm rfl (wv (o_lt rfl rfl) (wm rfl (bsplit (decide (i < 0)) (fun c1 => ?_) (fun c1 => ?_)))))
  ·refine wf c1 (wf c1 (wf c1 (wf c1 (wv (r := rB true) (o_pick_t rfl c1 rfl) (wl_nil ?_)))))
   exact wtc c1
  ·refine wo c1 (wm rfl (wo c1 (wm rfl (wo c1 (wv (o_len_zt (ys := v) (enc := eTApiCell) yu23 rfl) (wo c1 (wv (o_ge rfl rfl) (wpf rfl c1 rfl (wl_nil ?_)))))))))
   exact wtc c1
 refine cz h rfl (fun c2 h3 => ?_) (fun c2 h4 => ?_)
 ·refine wc_sr (wv (r := rI .i64 (-1)) (o_assign rfl) (wl_x (wc_ret (wk_then_ret ?_))))
  obtain rfl := some_e h3
  exact wk_ret (r_1 yr102 (rv_t rfl)) sN ⟨rfl, rfl⟩
 ·refine wc_skip (wk_x (wc_sr (wm rfl (wm rfl (ck h4 fun g5 h6 => wv (o_ix_z (enc := eTApiCell) (ys := v) yu23 ys51 rfl rfl g5) (wv (o_load_za ya51 ys51 rfl rfl rfl) (w_alloc (cs := [rI .i64 0, rI .i64 0, rS ([] : Str), rI .i64 0]) yz51 rfl rfl (fun b7 => ?_))))))))
  refine u_store_agg (i := 0) ys51 rfl rfl rfl (OneAll.c rfl) rfl rfl (cs' := [rI .i64 ((at' v i).fKind), rI .i64 ((at' v i).fInt), rS ((at' v i).fStr), rI .i64 ((at' v i).fN)]) rfl (H' := [.blk b7 (eTApiCell (at' v i)) 51]) rfl (wl_x (wc_seq (wc_sr (vF yu51 rfl ys49 (vL 0 ya49 rfl (wv (o_eq rfl rfl) (wl_x (cz h6 rfl (fun c8 h9 => ?_) (fun c8 h18 => ?_)))))))))
  ·refine ck h9 fun g10 h11 => ck h11 fun g12 h13 => ck h13 fun g14 h15 => wc_seq_mid [(4, rI .i64 (bif decide (((at' v i).fInt) = 0) then (bif decide (((at' v i).fStr) = ([] : Str)) then (ov (rAfter (decide (((at' v i).fN) = 0)) i)) else (ov (rAfter false i))) else (ov (rAfter false i))))] [] ?_ ?_
   ·refine wc_region (vF yu51 rfl ys3 (vL 0 ya3 rfl (wv (o_eq rfl rfl) (wm rfl (bsplit (decide (((at' v i).fInt) = 0)) (fun c16 => ?_) (fun c16 => ?_))))))
    ·refine wo c16 (vF yu51 rfl ys9 (wo c16 (vL 0 ya9 rfl (wo c16 (wv (o_seq rfl rfl) (wpt rfl c16 rfl (wm rfl (bsplit (decide (((at' v i).fStr) = ([] : Str))) (fun c17 => ?_) (fun c17 => ?_)))))))))
     ·refine wo c17 (vF yu51 rfl ys3 (wo c17 (vL 0 ya3 rfl (wo c17 (wv (o_eq rfl rfl) (wpt rfl c17 rfl (wm rfl (wc0 yk120 (rAfter_w (decide (((at' v i).fN) = 0)) i (ov (rAfter (decide (((at' v i).fN) = 0)) i)) (ov_e (imp_t (imp_t g10 c16) c17))) rfl (wa rfl (wl_nil ?_))))))))))
      exact wtc (And.intro c16 c17)
     ·refine wf c17 (wf c17 (wf c17 (wv (r := rB false) (o_pick_f rfl c17 rfl) (wm rfl (wc0 yk120 (rAfter_w false i (ov (rAfter false i)) (ov_e (imp_f (imp_t g12 c16) c17))) rfl (wa rfl (wl_nil ?_)))))))
      exact wtc (And.intro c16 c17)
    ·refine wf c16 (wf c16 (wf c16 (wv (r := rB false) (o_pick_f rfl c16 rfl) (wm rfl (wz rfl rfl (wz rfl rfl (wz rfl rfl (wv (r := rB false) (o_pick_f (b := false) rfl rfl rfl) (wm rfl (wc0 yk120 (rAfter_w false i (ov (rAfter false i)) (ov_e (imp_f g14 c16))) rfl (wa rfl (wl_nil ?_))))))))))))
     exact wtc c16
   refine wc_ret (wk_then_ret ?_)
   obtain rfl := some_e h15
   exact wk_ret (r_1 yr102 (rv_t rfl)) sN ⟨rfl, rfl⟩
  ·refine wc_skip (wk_x (wc_seq (wc_sr (vF yu51 rfl ys49 (vL 0 ya49 rfl (wv (o_eq rfl rfl) (wl_x (cz h18 rfl (fun c19 h20 => ?_) (fun c19 h35 => ?_)))))))))
   ·refine ck h20 fun g21 h22 => ck h22 fun g23 h24 => ck h24 fun g25 h26 => ck h26 fun g27 h28 => ck h28 fun g29 h30 => wc_seq_mid [(4, rI .i64 (bif decide (((at' v i).fInt) = 0) then (bif decide (((at' v i).fStr) = ([] : Str)) then (ov (rAfter (decide (((at' v i).fN) = 0)) i)) else (ov (rAfter false i))) else (bif decide (((at' v i).fInt) = 1) then (bif decide (((at' v i).fStr) = ([] : Str)) then (ov (rAfter (decide (((at' v i).fN) = 0)) i)) else (ov (rAfter false i))) else (ov (rAfter false i)))))] [] ?_ ?_
    ·refine wc_region (vF yu51 rfl ys3 (vL 0 ya3 rfl (wv (o_eq rfl rfl) (wm rfl (bsplit (decide (((at' v i).fInt) = 0)) (fun c31 => ?_) (fun c31 => ?_))))))
     ·refine wf c31 (wf c31 (wf c31 (wv (r := rB true) (o_pick_t rfl c31 rfl) (wm rfl (wl_on (b := true) rfl rfl rfl (vF yu51 rfl ys9 (wl_on (b := true) rfl rfl rfl (vL 0 ya9 rfl (wl_on (b := true) rfl rfl rfl (wv (o_seq rfl rfl) (wv (r := rB (decide (((at' v i).fStr) = ([] : Str)))) (o_pick_t (b := true) rfl rfl rfl) (wm rfl (bsplit (decide (((at' v i).fStr) = ([] : Str))) (fun c32 => ?_) (fun c32 => ?_))))))))))))))
      ·refine wo c32 (vF yu51 rfl ys3 (wo c32 (vL 0 ya3 rfl (wo c32 (wv (o_eq rfl rfl) (wpt rfl c32 rfl (wm rfl (wc0 yk120 (rAfter_w (decide (((at' v i).fN) = 0)) i (ov (rAfter (decide (((at' v i).fN) = 0)) i)) (ov_e (imp_t (imp_t g21 c31) c32))) rfl (wa rfl (wl_nil ?_))))))))))
       exact wtc (And.intro c31 c32)
      ·refine wf c32 (wf c32 (wf c32 (wv (r := rB false) (o_pick_f rfl c32 rfl) (wm rfl (wc0 yk120 (rAfter_w false i (ov (rAfter false i)) (ov_e (imp_f (imp_t g23 c31) c32))) rfl (wa rfl (wl_nil ?_)))))))
       exact wtc (And.intro c31 c32)
     ·refine wo c31 (vF yu51 rfl ys3 (wo c31 (vL 0 ya3 rfl (wo c31 (wv (o_eq rfl rfl) (wpf rfl c31 rfl (wm rfl (bsplit (decide (((at' v i).fInt) = 1)) (fun c33 => ?_) (fun c33 => ?_)))))))))
      ·refine wo c33 (vF yu51 rfl ys9 (wo c33 (vL 0 ya9 rfl (wo c33 (wv (o_seq rfl rfl) (wpt rfl c33 rfl (wm rfl (bsplit (decide (((at' v i).fStr) = ([] : Str))) (fun c34 => ?_) (fun c34 => ?_)))))))))
       ·refine wo c34 (vF yu51 rfl ys3 (wo c34 (vL 0 ya3 rfl (wo c34 (wv (o_eq rfl rfl) (wpt rfl c34 rfl (wm rfl (wc0 yk120 (rAfter_w (decide (((at' v i).fN) = 0)) i (ov (rAfter (decide (((at' v i).fN) = 0)) i)) (ov_e (imp_t (imp_t (imp_f g25 c31) c33) c34))) rfl (wa rfl (wl_nil ?_))))))))))
        exact wtc (And.intro c31 (And.intro c33 c34))
       ·refine wf c34 (wf c34 (wf c34 (wv (r := rB false) (o_pick_f rfl c34 rfl) (wm rfl (wc0 yk120 (rAfter_w false i (ov (rAfter false i)) (ov_e (imp_f (imp_t (imp_f g27 c31) c33) c34))) rfl (wa rfl (wl_nil ?_)))))))
        exact wtc (And.intro c31 (And.intro c33 c34))
      ·refine wf c33 (wf c33 (wf c33 (wv (r := rB false) (o_pick_f rfl c33 rfl) (wm rfl (wz rfl rfl (wz rfl rfl (wz rfl rfl (wv (r := rB false) (o_pick_f (b := false) rfl rfl rfl) (wm rfl (wc0 yk120 (rAfter_w false i (ov (rAfter false i)) (ov_e (imp_f (imp_f g29 c31) c33))) rfl (wa rfl (wl_nil ?_))))))))))))
       exact wtc (And.intro c31 c33)
    refine wc_ret (wk_then_ret ?_)
    obtain rfl := some_e h30
    exact wk_ret (r_1 yr102 (rv_t rfl)) sN ⟨rfl, rfl⟩
   ·refine wc_skip (wk_x (wc_seq (wc_sr (vF yu51 rfl ys49 (vL 0 ya49 rfl (wv (o_eq rfl rfl) (wl_x (cz h35 rfl (fun c36 h37 => ?_) (fun c36 h43 => ?_)))))))))
    ·refine ck h37 fun g38 h39 => ck h39 fun g40 h41 => wc_seq_mid [(4, rI .i64 (bif decide (((at' v i).fStr) = ([] : Str)) then (ov (rAfter (decide (((at' v i).fN) = 0)) i)) else (ov (rAfter false i))))] [] ?_ ?_
     ·refine wc_region (vF yu51 rfl ys9 (vL 0 ya9 rfl (wv (o_seq rfl rfl) (wm rfl (bsplit (decide (((at' v i).fStr) = ([] : Str))) (fun c42 => ?_) (fun c42 => ?_))))))
      ·refine wo c42 (vF yu51 rfl ys3 (wo c42 (vL 0 ya3 rfl (wo c42 (wv (o_eq rfl rfl) (wpt rfl c42 rfl (wm rfl (wc0 yk120 (rAfter_w (decide (((at' v i).fN) = 0)) i (ov (rAfter (decide (((at' v i).fN) = 0)) i)) (ov_e (imp_t g38 c42))) rfl (wa rfl (wl_nil ?_))))))))))
       exact wtc c42
      ·refine wf c42 (wf c42 (wf c42 (wv (r := rB false) (o_pick_f rfl c42 rfl) (wm rfl (wc0 yk120 (rAfter_w false i (ov (rAfter false i)) (ov_e (imp_f g40 c42))) rfl (wa rfl (wl_nil ?_)))))))
       exact wtc c42
     refine wc_ret (wk_then_ret ?_)
     obtain rfl := some_e h41
     exact wk_ret (r_1 yr102 (rv_t rfl)) sN ⟨rfl, rfl⟩
    ·refine wc_skip (wk_x (wc_seq (wc_sr (vF yu51 rfl ys49 (vL 0 ya49 rfl (wv (o_eq rfl rfl) (wl_x (cz h43 rfl (fun c44 h45 => ?_) (fun c44 h52 => ?_)))))))))
     ·refine wc_sr (wv (o_load_agg (i := 0) ya51 ys51 rfl rfl rfl rfl) (ob h45 fun r46 e48 h47 => wc0 Tryz.call121 (rKey_w F (at' v i) r46 e48) rfl (wm rfl (ob h47 fun r49 e51 h50 => wc0 yk120 (rAfter_w r46 i r49 e51) rfl (wa rfl (wl_x (wc_ret (wk_then_ret ?_))))))))
      obtain rfl := some_e h50
      exact wk_ret (r_1 yr102 (rv_t rfl)) (sS sN) ⟨rfl, rfl⟩
     ·refine wc_skip (wk_x (wc_seq (wc_seq_mid [(0, rSl 4 (List.map eTApiCell v)), (1, rI .i64 i), (5, rP b7 0), (96, rB ((decide (((at' v i).fKind) = 5)) && ((decide (((at' v i).fInt) = 0)) && ((decide (((at' v i).fStr) = ([] : Str))) && (decide (0 ≤ ((at' v i).fN)))))))] [.blk b7 (eTApiCell (at' v i)) 51] ?_ ?_)))
      ·refine wc_region (vF yu51 rfl ys49 (vL 0 ya49 rfl (wv (o_eq rfl rfl) (wm rfl (bsplit (decide (((at' v i).fKind) = 5)) (fun c53 => ?_) (fun c53 => ?_))))))
       ·refine wo c53 (vF yu51 rfl ys3 (wo c53 (vL 0 ya3 rfl (wo c53 (wv (o_eq rfl rfl) (wpt rfl c53 rfl (wm rfl (bsplit (decide (((at' v i).fInt) = 0)) (fun c54 => ?_) (fun c54 => ?_)))))))))
        ·refine wo c54 (vF yu51 rfl ys9 (wo c54 (vL 0 ya9 rfl (wo c54 (wv (o_seq rfl rfl) (wpt rfl c54 rfl (wm rfl (bsplit (decide (((at' v i).fStr) = ([] : Str))) (fun c55 => ?_) (fun c55 => ?_)))))))))
         ·refine wo c55 (vF yu51 rfl ys3 (wo c55 (vL 0 ya3 rfl (wo c55 (wv (o_ge rfl rfl) (wpt rfl c55 rfl (wl_nil ?_)))))))
          exact wtc (And.intro c53 (And.intro c54 c55))
         ·refine wf c55 (wf c55 (wf c55 (wv (r := rB false) (o_pick_f rfl c55 rfl) (wl_nil ?_))))
          exact wtc (And.intro c53 (And.intro c54 c55))
        ·refine wf c54 (wf c54 (wf c54 (wv (r := rB false) (o_pick_f rfl c54 rfl) (wm rfl (wz rfl rfl (wz rfl rfl (wz rfl rfl (wv (r := rB false) (o_pick_f (b := false) rfl rfl rfl) (wl_nil ?_)))))))))
         exact wtc (And.intro c53 c54)
       ·refine wf c53 (wf c53 (wf c53 (wv (r := rB false) (o_pick_f rfl c53 rfl) (wm rfl (wz rfl rfl (wz rfl rfl (wz rfl rfl (wv (r := rB false) (o_pick_f (b := false) rfl rfl rfl) (wm rfl (wz rfl rfl (wz rfl rfl (wz rfl rfl (wv (r := rB false) (o_pick_f (b := false) rfl rfl rfl) (wl_nil ?_))))))))))))))
        exact wtc c53
      refine cz h52 rfl (fun c56 h57 => ?_) (fun c56 h63 => ?_)
      ·refine wc_sr (wm rfl (wm rfl (ck h57 fun g58 h59 => wv (o_add rfl rfl g58) (vF yu51 rfl ys3 (vL 0 ya3 rfl (ob h59 fun r60 e62 h61 => wc0 Tryz.call122 (ih_rElements v (i + 1) ((at' v i).fN) r60 e62) rfl (wa rfl (wl_x (wc_ret (wk_then_ret ?_))))))))))
       obtain rfl := some_e h61
       exact wk_ret (r_1 yr102 (rv_t rfl)) (sS sN) ⟨rfl, rfl⟩
      ·refine wc_skip (wk_x (wc_seq (wc_seq_mid [(0, rSl 4 (List.map eTApiCell v)), (1, rI .i64 i), (5, rP b7 0), (120, rB ((decide (((at' v i).fKind) = 6)) && ((decide (((at' v i).fInt) = 0)) && ((decide (((at' v i).fStr) = ([] : Str))) && (decide (0 ≤ ((at' v i).fN)))))))] [.blk b7 (eTApiCell (at' v i)) 51] ?_ ?_)))
       ·refine wc_region (vF yu51 rfl ys49 (vL 0 ya49 rfl (wv (o_eq rfl rfl) (wm rfl (bsplit (decide (((at' v i).fKind) = 6)) (fun c64 => ?_) (fun c64 => ?_))))))
        ·refine wo c64 (vF yu51 rfl ys3 (wo c64 (vL 0 ya3 rfl (wo c64 (wv (o_eq rfl rfl) (wpt rfl c64 rfl (wm rfl (bsplit (decide (((at' v i).fInt) = 0)) (fun c65 => ?_) (fun c65 => ?_)))))))))
         ·refine wo c65 (vF yu51 rfl ys9 (wo c65 (vL 0 ya9 rfl (wo c65 (wv (o_seq rfl rfl) (wpt rfl c65 rfl (wm rfl (bsplit (decide (((at' v i).fStr) = ([] : Str))) (fun c66 => ?_) (fun c66 => ?_)))))))))
          ·refine wo c66 (vF yu51 rfl ys3 (wo c66 (vL 0 ya3 rfl (wo c66 (wv (o_ge rfl rfl) (wpt rfl c66 rfl (wl_nil ?_)))))))
           exact wtc (And.intro c64 (And.intro c65 c66))
          ·refine wf c66 (wf c66 (wf c66 (wv (r := rB false) (o_pick_f rfl c66 rfl) (wl_nil ?_))))
           exact wtc (And.intro c64 (And.intro c65 c66))
         ·refine wf c65 (wf c65 (wf c65 (wv (r := rB false) (o_pick_f rfl c65 rfl) (wm rfl (wz rfl rfl (wz rfl rfl (wz rfl rfl (wv (r := rB false) (o_pick_f (b := false) rfl rfl rfl) (wl_nil ?_)))))))))
          exact wtc (And.intro c64 c65)
        ·refine wf c64 (wf c64 (wf c64 (wv (r := rB false) (o_pick_f rfl c64 rfl) (wm rfl (wz rfl rfl (wz rfl rfl (wz rfl rfl (wv (r := rB false) (o_pick_f (b := false) rfl rfl rfl) (wm rfl (wz rfl rfl (wz rfl rfl (wz rfl rfl (wv (r := rB false) (o_pick_f (b := false) rfl rfl rfl) (wl_nil ?_))))))))))))))
         exact wtc c64
       refine cz h63 rfl (fun c67 h68 => ?_) (fun c67 h74 => ?_)
       ·refine wc_sr (wm rfl (wm rfl (ck h68 fun g69 h70 => wv (o_add rfl rfl g69) (vF yu51 rfl ys3 (vL 0 ya3 rfl (ob h70 fun r71 e73 h72 => wc0 Tryz.call123 (ih_rPairs v (i + 1) ((at' v i).fN) r71 e73) rfl (wa rfl (wl_x (wc_ret (wk_then_ret ?_))))))))))
        obtain rfl := some_e h72
        exact wk_ret (r_1 yr102 (rv_t rfl)) (sS sN) ⟨rfl, rfl⟩
       ·refine wc_skip (wk_x (wc_sr (wv (r := rI .i64 (-1)) (o_assign rfl) (wl_x (wc_ret ?_)))))
        obtain rfl := some_e h74
        exact wk_ret (r_1 yr102 (rv_t rfl)) (sS sN) ⟨rfl, rfl⟩

theorem rElementsm_w (F : Nat) (rec_rNext : (List TApiCell) → Int → Option (Int)) (ih_rNext : (∀ (v : (List TApiCell)) (i : Int) (r : Int), rec_rNext v i = some r → Fn Tryz.prog GE 102 [rSl 4 (List.map eTApiCell v), rI .i64 i] [] (fun R H => R = rI .i64 r ∧ H = []))) (v : (List TApiCell)) (i : Int) (n : Int) (r : Int) (h : rElementsm F rec_rNext v i n = some r) : Fn Tryz.prog GE 122 [rSl 4 (List.map eTApiCell v), rI .i64 i, rI .i64 n] [] (fun R H => R = rI .i64 r ∧ H = []) := by
 refine enter (n := 19) Tryz.func122 rfl Tryz.ntmps122 rfl (fun w Z => ?_)
 unfold rElementsm at h
 refine wc_sr (wa rfl (wl_x (wc_seq (wc_sr (wa rfl (wl_x (wc_block (ob h fun o37 eo38 hK39 => wc_loop2 (S := Nat × (Int × Int) × (Unit)) (V := (Int) × (Unit)) 0 (fun σ => lop (fun σ => rElements_b1 v n rec_rNext σ.1 σ.2) σ.1 σ.2.1 = some o37) (fun σ => [(0, rSl 4 (List.map eTApiCell v)), (1, rI .i64 σ.2.1.1), (2, rI .i64 n), (6, rI .i64 0), (7, rI .i64 σ.2.1.2)]) (fun σ => []) (fun σ => σ.1) (F, (i, 0), ()) eo38 (Sub.c5 rfl rfl rfl rfl rfl Sub.nil) sN (fun σ => rElements_k1 σ.1 = some r) (fun σ => [(1, rI .i64 σ.1), (6, rI .i64 0)]) (fun σ => []) ?_ ?_))))))))
 ·rintro ⟨n45, ⟨x23, x24⟩, ⟨⟩⟩ hi43
  refine wc_as (l' := [(0, rSl 4 (List.map eTApiCell v)), (1, rI .i64 x23), (2, rI .i64 n), (6, rI .i64 0), (7, rI .i64 x24)]) (H' := []) rfl rfl ?_
  obtain ⟨m42, rfl, t40, h44, ht41⟩ := lop_e hi43
  replace h44 : rElements_b1 v n rec_rNext x23 x24 = some t40 := h44
  unfold rElements_b1 at h44
  refine wc_seq (wc_sr (wm rfl (wm rfl (wv (o_lt rfl rfl) (wl_x (cz h44 rfl (fun c46 h47 => ?_) (fun c46 h58 => ?_)))))))
  ·refine wc_skip (wk_x (wc_seq (wc_block (wc_sr (wm rfl (wm rfl (ob h47 fun r48 e50 h49 => wc0 yk102 (ih_rNext v x23 r48 e50) rfl (wa rfl (wl_y (wm rfl (wv (o_lt rfl rfl) (wl_x (cz h49 rfl (fun c51 h52 => ?_) (fun c51 h54 => ?_))))))))))))))
   ·refine wc_sr (wv (r := rI .i64 (-1)) (o_assign rfl) (wl_x (wc_ret (wk_in_ret (wk_then_ret (wk_then_ret (wk_cut_ret ?_)))))))
    have h53 := stp_ret h52 ht41 hK39
    refine wk_in_ret (wk_then_ret ?_)
    obtain rfl := some_e h53
    exact wk_ret (r_1 Tryz.results122 (rv_t rfl)) sN ⟨rfl, rfl⟩
   ·refine wc_skip (wk_in_norm (wk_x (wc_region (wm rfl (ck h54 fun g55 h56 => wv (o_add rfl rfl g55) (wa rfl (wl_nil ?_)))))))
    have h57 := stp_next h56 ht41
    exact wk_then (wk_some (m42, (r48, x24 + 1), ()) ⟨h57, Nat.lt_succ_self _⟩ (Sub.c5 rfl rfl rfl rfl rfl Sub.nil) sN)
  ·refine wc_exit (wk_then_exit ?_)
   have h59 := stp_go h58 ht41 hK39
   exact wk_then_exit (wk_cut_hit (wk_some (x23, ()) h59 (Sub.c rfl (Sub.c rfl Sub.nil)) sN))
 ·rintro ⟨x36, ⟨⟩⟩ h60
  refine wk_as (l' := [(1, rI .i64 x36), (6, rI .i64 0)]) (H' := []) rfl rfl ?_
  replace h60 : rElements_k1 x36 = some r := h60
  unfold rElements_k1 at h60
  refine wk_in_hit (wk_x (wc_sr (wm rfl (wa rfl (wl_x (wc_ret ?_))))))
  obtain rfl := some_e h60
  exact wk_ret (r_1 Tryz.results122 (rv_t rfl)) sN ⟨rfl, rfl⟩

theorem rPairsm_w (F : Nat) (rec_rNext : (List TApiCell) → Int → Option (Int)) (ih_rNext : (∀ (v : (List TApiCell)) (i : Int) (r : Int), rec_rNext v i = some r → Fn Tryz.prog GE 102 [rSl 4 (List.map eTApiCell v), rI .i64 i] [] (fun R H => R = rI .i64 r ∧ H = []))) (v : (List TApiCell)) (i : Int) (n : Int) (r : Int) (h : rPairsm F rec_rNext v i n = some r) : Fn Tryz.prog GE 123 [rSl 4 (List.map eTApiCell v), rI .i64 i, rI .i64 n] [] (fun R H => R = rI .i64 r ∧ H = []) := by
 refine enter (n := 51) Tryz.func123 rfl Tryz.ntmps123 rfl (fun w Z => ?_)
 unfold rPairsm at h
 refine wc_sr (wa rfl (wl_y (wv (r := rS ([] : Str)) (o_assign rfl) (wl_x (wc_seq (wc_sr (wa rfl (wl_x (wc_block (ob h fun o80 eo81 hK82 => wc_loop2 (S := Nat × (Int × Str × Int) × (Unit)) (V := (Int) × (Unit)) 0 (fun σ => lop (fun σ => rPairs_b1 F v n rec_rNext σ.1 σ.2.1 σ.2.2) σ.1 σ.2.1 = some o80) (fun σ => [(0, rSl 4 (List.map eTApiCell v)), (1, rI .i64 σ.2.1.1), (2, rI .i64 n), (7, rS σ.2.1.2.1), (8, rI .i64 σ.2.1.2.2)]) (fun σ => []) (fun σ => σ.1) (F, (i, ([] : Str), 0), ()) eo81 (Sub.c5 rfl rfl rfl rfl rfl Sub.nil) sN (fun σ => rPairs_k1 σ.1 = some r) (fun σ => [(1, rI .i64 σ.1)]) (fun σ => []) ?_ ?_))))))))))
 ·rintro ⟨n88, ⟨x51, x52, x53⟩, ⟨⟩⟩ hi86
  refine wc_as (l' := [(0, rSl 4 (List.map eTApiCell v)), (1, rI .i64 x51), (2, rI .i64 n), (7, rS x52), (8, rI .i64 x53)]) (H' := []) rfl rfl ?_
  obtain ⟨m85, rfl, t83, h87, ht84⟩ := lop_e hi86
  replace h87 : rPairs_b1 F v n rec_rNext x51 x52 x53 = some t83 := h87
  unfold rPairs_b1 at h87
  refine wc_seq (wc_sr (wm rfl (wm rfl (wv (o_lt rfl rfl) (wl_x (cz h87 rfl (fun c89 h90 => ?_) (fun c89 h116 => ?_)))))))
  ·refine wc_skip (wk_x (wc_seq (wc_block (wc_seq (ck h90 fun g91 h92 => ck h92 fun g93 h94 => wc_seq_mid [(0, rSl 4 (List.map eTApiCell v)), (1, rI .i64 x51), (2, rI .i64 n), (8, rI .i64 x53), (38, rB ((decide ((v.length : Int) ≤ x51)) || ((!(ov (rKey F (at' v x51)))) || ((decide (0 < x53)) && (sLess ((at' v x51).fStr) x52 || decide (((at' v x51).fStr) = x52))))))] [] ?_ ?_)))))
   ·refine wc_region (wm rfl (wm rfl (wv (o_len_zt (ys := v) (enc := eTApiCell) yu23 rfl) (wv (o_ge rfl rfl) (wm rfl (bsplit (decide ((v.length : Int) ≤ x51)) (fun c95 => ?_) (fun c95 => ?_)))))))
    ·refine wf c95 (wf c95 (wf c95 (wf c95 (wf c95 (wf c95 (wv (r := rB true) (o_pick_t rfl c95 rfl) (wm rfl (wz rfl rfl (wz rfl rfl (wz rfl rfl (wu (wu (wu (wu (wu (wu (wu (wz rfl rfl (wv (r := rB true) (o_pick_t (b := true) rfl rfl rfl) (wl_nil ?_))))))))))))))))))))
     exact wtc c95
    ·refine wo c95 (wm rfl (wo c95 (wm rfl (wo c95 (wv (o_ix_z (enc := eTApiCell) (ys := v) yu23 ys51 rfl rfl (imp_f g91 c95)) (wo c95 (wv (o_load_za ya51 ys51 rfl rfl rfl) (wo c95 (wc0 Tryz.call121 (rKey_w F (at' v x51) (ov (rKey F (at' v x51))) (ov_e (imp_f g93 c95))) rfl (wo c95 (wv (o_not rfl) (wpf rfl c95 rfl (wm rfl (bsplit (!(ov (rKey F (at' v x51)))) (fun c96 => ?_) (fun c96 => ?_)))))))))))))))
     ·refine wf c96 (wf c96 (wf c96 (wu (wu (wu (wu (wu (wu (wu (wf c96 (wv (r := rB true) (o_pick_t rfl c96 rfl) (wl_nil ?_))))))))))))
      exact wtc (And.intro c95 c96)
     ·refine wo c96 (wm rfl (wo c96 (wv (o_gt rfl rfl) (wo c96 (wm rfl (bsplit (decide (0 < x53)) (fun c97 => ?_) (fun c97 => ?_)))))))
      ·refine wo c97 (wm rfl (wo c97 (wm rfl (wo c97 (wv (o_ix_z (enc := eTApiCell) (ys := v) yu23 ys51 rfl rfl (imp_f g91 c95)) (wo c97 (wv (o_fieldAddr_z yu51 rfl ys9 rfl rfl) (wo c97 (wv (o_load_z ya9 rfl rfl) (wo c97 (wm rfl (wo c97 (wv (o_sle rfl rfl) (wo c96 (wpt rfl c97 rfl (wpf rfl c96 rfl (wl_nil ?_)))))))))))))))))
       exact wtc (And.intro c95 (And.intro c96 c97))
      ·refine wf c97 (wf c97 (wf c97 (wf c97 (wf c97 (wf c97 (wf c97 (wo c96 (wv (r := rB false) (o_pick_f rfl c97 rfl) (wpf rfl c96 rfl (wl_nil ?_))))))))))
       exact wtc (And.intro c95 (And.intro c96 c97))
   refine cz h94 rfl (fun c98 h99 => ?_) (fun c98 h101 => ?_)
   ·refine wc_sr (wv (r := rI .i64 (-1)) (o_assign rfl) (wl_x (wc_ret (wk_then_ret (wk_in_ret (wk_then_ret (wk_then_ret (wk_cut_ret ?_))))))))
    have h100 := stp_ret h99 ht84 hK82
    refine wk_in_ret (wk_then_ret ?_)
    obtain rfl := some_e h100
    exact wk_ret (r_1 Tryz.results123 (rv_t rfl)) sN ⟨rfl, rfl⟩
   ·refine wc_skip (wk_x (wc_sr (wm rfl (wm rfl (ck h101 fun g102 h103 => wv (o_ix_z (enc := eTApiCell) (ys := v) yu23 ys51 rfl rfl g102) (wv (o_fieldAddr_z yu51 rfl ys9 rfl rfl) (wv (o_load_z ya9 rfl rfl) (wa rfl (wl_y (wm rfl (wm rfl (ck h103 fun g104 h105 => wv (o_add rfl rfl g104) (ob h105 fun r106 e108 h107 => wc0 yk102 (ih_rNext v (x51 + 1) r106 e108) rfl (wa rfl (wl_y (wm rfl (wv (o_lt rfl rfl) (wl_x (cz h107 rfl (fun c109 h110 => ?_) (fun c109 h112 => ?_))))))))))))))))))))
    ·refine wc_sr (wv (r := rI .i64 (-1)) (o_assign rfl) (wl_x (wc_ret (wk_in_ret (wk_then_ret (wk_then_ret (wk_cut_ret ?_)))))))
     have h111 := stp_ret h110 ht84 hK82
     refine wk_in_ret (wk_then_ret ?_)
     obtain rfl := some_e h111
     exact wk_ret (r_1 Tryz.results123 (rv_t rfl)) sN ⟨rfl, rfl⟩
    ·refine wc_skip (wk_in_norm (wk_x (wc_region (wm rfl (ck h112 fun g113 h114 => wv (o_add rfl rfl g113) (wa rfl (wl_nil ?_)))))))
     have h115 := stp_next h114 ht84
     exact wk_then (wk_some (m85, (r106, (at' v x51).fStr, x53 + 1), ()) ⟨h115, Nat.lt_succ_self _⟩ (Sub.c5 rfl rfl rfl rfl rfl Sub.nil) sN)
  ·refine wc_exit (wk_then_exit ?_)
   have h117 := stp_go h116 ht84 hK82
   exact wk_then_exit (wk_cut_hit (wk_some (x51, ()) h117 (Sub.c rfl Sub.nil) sN))
 ·rintro ⟨x79, ⟨⟩⟩ h118
  refine wk_as (l' := [(1, rI .i64 x79)]) (H' := []) rfl rfl ?_
  replace h118 : rPairs_k1 x79 = some r := h118
  unfold rPairs_k1 at h118
  refine wk_in_hit (wk_x (wc_sr (wm rfl (wa rfl (wl_x (wc_ret ?_))))))
  obtain rfl := some_e h118
  exact wk_ret (r_1 Tryz.results123 (rv_t rfl)) sN ⟨rfl, rfl⟩

theorem rNext_all : ∀ F : Nat, (∀ (v : (List TApiCell)) (i : Int) (r : Int), rNext F v i = some r → Fn Tryz.prog GE 102 [rSl 4 (List.map eTApiCell v), rI .i64 i] [] (fun R H => R = rI .i64 r ∧ H = [])) ∧ (∀ (v : (List TApiCell)) (i : Int) (n : Int) (r : Int), rElements F v i n = some r → Fn Tryz.prog GE 122 [rSl 4 (List.map eTApiCell v), rI .i64 i, rI .i64 n] [] (fun R H => R = rI .i64 r ∧ H = [])) ∧ (∀ (v : (List TApiCell)) (i : Int) (n : Int) (r : Int), rPairs F v i n = some r → Fn Tryz.prog GE 123 [rSl 4 (List.map eTApiCell v), rI .i64 i, rI .i64 n] [] (fun R H => R = rI .i64 r ∧ H = []))
  | 0 => ⟨(fun _ _ _ h => by simp [rNext] at h), (fun _ _ _ _ h => by simp [rElements] at h), (fun _ _ _ _ h => by simp [rPairs] at h)⟩
  | nn + 1 => ⟨(fun v i r h => rNextm_w nn (rElements nn) (rPairs nn) (rNext_all nn).2.1 (rNext_all nn).2.2 v i r (by rw [rNext] at h; exact h)), (fun v i n r h => rElementsm_w nn (rNext nn) (rNext_all nn).1 v i n r (by rw [rElements] at h; exact h)), (fun v i n r h => rPairsm_w nn (rNext nn) (rNext_all nn).1 v i n r (by rw [rPairs] at h; exact h))⟩

theorem rNext_w (F : Nat) (v : (List TApiCell)) (i : Int) (r : Int) (h : rNext F v i = some r) : Fn Tryz.prog GE 102 [rSl 4 (List.map eTApiCell v), rI .i64 i] [] (fun R H => R = rI .i64 r ∧ H = []) := (rNext_all F).1 v i r h

theorem rFormed_w (F : Nat) (v : (List TApiCell)) (r : Bool) (h : rFormed F v = some r) : Fn Tryz.prog GE 76 [rSl 4 (List.map eTApiCell v)] [] (fun R H => R = rB r ∧ H = []) := by
 refine enter (n := 13) Tryz.func76 rfl Tryz.ntmps76 rfl (fun w Z => ?_)
 unfold rFormed at h
 refine wc_sr (wa rfl (wl_x (ck h fun g1 h2 => wc_seq_mid [(2, rB ((decide (0 < (v.length : Int))) && (decide ((ov (rNext F v 0)) = (v.length : Int)))))] [] ?_ ?_)))
 ·refine wc_region (wm rfl (wv (o_len_zt (ys := v) (enc := eTApiCell) yu23 rfl) (wv (o_gt rfl rfl) (wm rfl (bsplit (decide (0 < (v.length : Int))) (fun c3 => ?_) (fun c3 => ?_))))))
  ·refine wo c3 (wm rfl (wo c3 (wc0 yk102 (rNext_w F v 0 (ov (rNext F v 0)) (ov_e (imp_t g1 c3))) rfl (wo c3 (wm rfl (wo c3 (wv (o_len_zt (ys := v) (enc := eTApiCell) yu23 rfl) (wo c3 (wv (o_eq rfl rfl) (wpt rfl c3 rfl (wa rfl (wl_nil ?_))))))))))))
   exact wtc c3
  ·refine wf c3 (wf c3 (wf c3 (wf c3 (wf c3 (wv (r := rB false) (o_pick_f rfl c3 rfl) (wa rfl (wl_nil ?_)))))))
   exact wtc c3
 refine wc_ret ?_
 obtain rfl := some_e h2
 exact wk_ret (r_1 Tryz.results76 (rv_t rfl)) sN ⟨rfl, rfl⟩

theorem rLevelsm_w (F : Nat) (rec_rLevels : (List TApiCell) → Int → Option (Int)) (ih_rLevels : (∀ (v : (List TApiCell)) (i : Int) (r : Int), rec_rLevels v i = some r → Fn Tryz.prog GE 77 [rSl 4 (List.map eTApiCell v), rI .i64 i] [] (fun R H => R = rI .i64 r ∧ H = []))) (v : (List TApiCell)) (i : Int) (r : Int) (h : rLevelsm F rec_rLevels v i = some r) : Fn Tryz.prog GE 77 [rSl 4 (List.map eTApiCell v), rI .i64 i] [] (fun R H => R = rI .i64 r ∧ H = []) := by
 refine enter (n := 47) Tryz.func77 rfl Tryz.ntmps77 rfl (fun w Z => ?_)
 unfold rLevelsm at h
 refine wc_sr (wa rfl (wl_y (wm rfl (wm rfl (ck h fun g1 h2 => wv (o_ix_z (enc := eTApiCell) (ys := v) yu23 ys51 rfl rfl g1) (wv (o_load_za ya51 ys51 rfl rfl rfl) (w_alloc (cs := [rI .i64 0, rI .i64 0, rS ([] : Str), rI .i64 0]) yz51 rfl rfl (fun b3 => ?_))))))))
 refine u_store_agg (i := 0) ys51 rfl rfl rfl (OneAll.c rfl) rfl rfl (cs' := [rI .i64 ((at' v i).fKind), rI .i64 ((at' v i).fInt), rS ((at' v i).fStr), rI .i64 ((at' v i).fN)]) rfl (H' := [.blk b3 (eTApiCell (at' v i)) 51]) rfl (wl_x (wc_seq (wc_seq_mid [(0, rSl 4 (List.map eTApiCell v)), (1, rI .i64 i), (5, rP b3 0), (21, rB ((!decide (((at' v i).fKind) = 5)) && (!decide (((at' v i).fKind) = 6))))] [.blk b3 (eTApiCell (at' v i)) 51] ?_ ?_)))
 ·refine wc_region (vF yu51 rfl ys49 (vL 0 ya49 rfl (wv (o_ne rfl rfl) (wm rfl (bsplit (!decide (((at' v i).fKind) = 5)) (fun c4 => ?_) (fun c4 => ?_))))))
  ·refine wo c4 (vF yu51 rfl ys49 (wo c4 (vL 0 ya49 rfl (wo c4 (wv (o_ne rfl rfl) (wpt rfl c4 rfl (wl_nil ?_)))))))
   exact wtc c4
  ·refine wf c4 (wf c4 (wf c4 (wv (r := rB false) (o_pick_f rfl c4 rfl) (wl_nil ?_))))
   exact wtc c4
 refine cz h2 rfl (fun c5 h6 => ?_) (fun c5 h7 => ?_)
 ·refine wc_sr (wa rfl (wl_x (wc_ret (wk_then_ret ?_))))
  obtain rfl := some_e h6
  exact wk_ret (r_1 Tryz.results77 (rv_t rfl)) (sS sN) ⟨rfl, rfl⟩
 ·refine wc_skip (wk_x (wc_sr (wa rfl (wl_y (wm rfl (ck h7 fun g8 h9 => wv (o_add rfl rfl g8) (wa rfl (wl_x (wc_seq (wc_sr (wa rfl (wl_x (wc_block (ob h9 fun o129 eo130 hK131 => wc_loop2 (S := Nat × (Int × Int × Int) × (Unit)) (V := (Int) × (Unit)) 0 (fun σ => lop (fun σ => rLevels_b1 F v i rec_rLevels σ.1 σ.2.1 σ.2.2) σ.1 σ.2.1 = some o129) (fun σ => [(0, rSl 4 (List.map eTApiCell v)), (5, rP b3 0), (6, rI .i64 σ.2.1.1), (7, rI .i64 σ.2.1.2.1), (8, rI .i64 σ.2.1.2.2)]) (fun σ => [.blk b3 (eTApiCell (at' v i)) 51]) (fun σ => σ.1) (F, (0, i + 1, 0), ()) eo130 (Sub.c5 rfl rfl rfl rfl rfl Sub.nil) (sC sN) (fun σ => rLevels_k1 σ.1 = some r) (fun σ => [(6, rI .i64 σ.1)]) (fun σ => []) ?_ ?_))))))))))))))
  ·rintro ⟨n137, ⟨x85, x86, x87⟩, ⟨⟩⟩ hi135
   refine wc_as (l' := [(0, rSl 4 (List.map eTApiCell v)), (5, rP b3 0), (6, rI .i64 x85), (7, rI .i64 x86), (8, rI .i64 x87)]) (H' := [.blk b3 (eTApiCell (at' v i)) 51]) rfl rfl ?_
   obtain ⟨m134, rfl, t132, h136, ht133⟩ := lop_e hi135
   replace h136 : rLevels_b1 F v i rec_rLevels x85 x86 x87 = some t132 := h136
   unfold rLevels_b1 at h136
   refine wc_seq (wc_sr (wm rfl (vF yu51 rfl ys3 (vL 0 ya3 rfl (wv (o_lt rfl rfl) (wl_x (cz h136 rfl (fun c138 h139 => ?_) (fun c138 h181 => ?_))))))))
   ·refine wc_skip (wk_x (wc_seq (wc_block (wc_seq (wc_sr (vF yu51 rfl ys49 (vL 0 ya49 rfl (wv (o_eq rfl rfl) (wl_x (cz h139 rfl (fun c140 h141 => ?_) (fun c140 h162 => ?_)))))))))))
    ·refine wc_region (wm rfl (ck h141 fun g142 h143 => wv (o_add rfl rfl g142) (wa rfl (wl_y (wm rfl (wm rfl (ob h143 fun r144 e146 h145 => wc0 Tryz.call77 (ih_rLevels v (x86 + 1) r144 e146) rfl (wa rfl (wl_x (wc_seq (wc_sr (wm rfl (wm rfl (wv (o_gt rfl rfl) (wl_x (cz h145 rfl (fun c147 h148 => ?_) (fun c147 h155 => ?_)))))))))))))))))
     ·refine wc_region (wm rfl (wa rfl (wl_x (wc_region (wm rfl (wm rfl (ob h148 fun r149 e151 h150 => wc0 yk102 (rNext_w F v (x86 + 1) r149 e151) rfl (wa rfl (wl_nil (wk_in_norm (wk_x (wc_region (wm rfl (ck h150 fun g152 h153 => wv (o_add rfl rfl g152) (wa rfl (wl_nil ?_))))))))))))))))
      have h154 := stp_next h153 ht133
      exact wk_then (wk_some (m134, (r144, r149, x87 + 1), ()) ⟨h154, Nat.lt_succ_self _⟩ (Sub.c5 rfl rfl rfl rfl rfl Sub.nil) (sC sN))
     ·refine wc_skip (wk_x (wc_region (wm rfl (wm rfl (ob h155 fun r156 e158 h157 => wc0 yk102 (rNext_w F v (x86 + 1) r156 e158) rfl (wa rfl (wl_nil (wk_in_norm (wk_x (wc_region (wm rfl (ck h157 fun g159 h160 => wv (o_add rfl rfl g159) (wa rfl (wl_nil ?_))))))))))))))
      have h161 := stp_next h160 ht133
      exact wk_then (wk_some (m134, (x85, r156, x87 + 1), ()) ⟨h161, Nat.lt_succ_self _⟩ (Sub.c5 rfl rfl rfl rfl rfl Sub.nil) (sC sN))
    ·refine wc_skip (wk_x (wc_sr (wm rfl (wm rfl (ob h162 fun r163 e165 h164 => wc0 Tryz.call77 (ih_rLevels v x86 r163 e165) rfl (wa rfl (wl_x (wc_seq (wc_sr (wm rfl (wm rfl (wv (o_gt rfl rfl) (wl_x (cz h164 rfl (fun c166 h167 => ?_) (fun c166 h174 => ?_)))))))))))))))
     ·refine wc_region (wm rfl (wa rfl (wl_x (wc_region (wm rfl (wm rfl (ob h167 fun r168 e170 h169 => wc0 yk102 (rNext_w F v x86 r168 e170) rfl (wa rfl (wl_nil (wk_in_norm (wk_x (wc_region (wm rfl (ck h169 fun g171 h172 => wv (o_add rfl rfl g171) (wa rfl (wl_nil ?_))))))))))))))))
      have h173 := stp_next h172 ht133
      exact wk_then (wk_some (m134, (r163, r168, x87 + 1), ()) ⟨h173, Nat.lt_succ_self _⟩ (Sub.c5 rfl rfl rfl rfl rfl Sub.nil) (sC sN))
     ·refine wc_skip (wk_x (wc_region (wm rfl (wm rfl (ob h174 fun r175 e177 h176 => wc0 yk102 (rNext_w F v x86 r175 e177) rfl (wa rfl (wl_nil (wk_in_norm (wk_x (wc_region (wm rfl (ck h176 fun g178 h179 => wv (o_add rfl rfl g178) (wa rfl (wl_nil ?_))))))))))))))
      have h180 := stp_next h179 ht133
      exact wk_then (wk_some (m134, (x85, r175, x87 + 1), ()) ⟨h180, Nat.lt_succ_self _⟩ (Sub.c5 rfl rfl rfl rfl rfl Sub.nil) (sC sN))
   ·refine wc_exit (wk_then_exit ?_)
    have h182 := stp_go h181 ht133 hK131
    exact wk_then_exit (wk_cut_hit (wk_some (x85, ()) h182 (Sub.c rfl Sub.nil) (sS sN)))
  ·rintro ⟨x128, ⟨⟩⟩ h183
   refine wk_as (l' := [(6, rI .i64 x128)]) (H' := []) rfl rfl ?_
   replace h183 : rLevels_k1 x128 = some r := h183
   unfold rLevels_k1 at h183
   refine wk_in_hit (wk_x (wc_sr (wm rfl (ck h183 fun g184 h185 => wv (o_add rfl rfl g184) (wa rfl (wl_x (wc_ret ?_)))))))
   obtain rfl := some_e h185
   exact wk_ret (r_1 Tryz.results77 (rv_t rfl)) sN ⟨rfl, rfl⟩

theorem rLevels_all : ∀ F : Nat, (∀ (v : (List TApiCell)) (i : Int) (r : Int), rLevels F v i = some r → Fn Tryz.prog GE 77 [rSl 4 (List.map eTApiCell v), rI .i64 i] [] (fun R H => R = rI .i64 r ∧ H = []))
  | 0 => (fun _ _ _ h => by simp [rLevels] at h)
  | nn + 1 => (fun v i r h => rLevelsm_w nn (rLevels nn) (rLevels_all nn) v i r (by rw [rLevels] at h; exact h))

theorem rLevels_w (F : Nat) (v : (List TApiCell)) (i : Int) (r : Int) (h : rLevels F v i = some r) : Fn Tryz.prog GE 77 [rSl 4 (List.map eTApiCell v), rI .i64 i] [] (fun R H => R = rI .i64 r ∧ H = []) := (rLevels_all F) v i r h

theorem rQuoted_w (F : Nat) (s : Str) (r : Str) (h : rQuoted F s = some r) : Fn Tryz.prog GE 101 [rS s] [] (fun R H => R = rS r ∧ H = []) := by
 refine enter (n := 32) Tryz.func101 rfl Tryz.ntmps101 rfl (fun w Z => ?_)
 unfold rQuoted at h
 refine wc_sr (wv (r := rS ([] : Str)) (o_assign rfl) (wl_y (wv (r := rS ([34] : Str)) (o_assign rfl) (wl_x (wc_seq (wc_sr (wa rfl (wl_x (wc_block (ob h fun o83 eo84 hK85 => wc_loop2 (S := Nat × (Str × Int) × (Unit)) (V := (Str) × (Unit)) 0 (fun σ => lop (fun σ => rQuoted_b1 s σ.1 σ.2) σ.1 σ.2.1 = some o83) (fun σ => [(0, rS s), (3, rS σ.2.1.1), (4, rI .i64 σ.2.1.2)]) (fun σ => []) (fun σ => σ.1) (F, (([34] : Str), 0), ()) eo84 (Sub.c rfl (Sub.c rfl (Sub.c rfl Sub.nil))) sN (fun σ => rQuoted_k1 σ.1 = some r) (fun σ => [(3, rS σ.1)]) (fun σ => []) ?_ ?_))))))))))
 ·rintro ⟨n91, ⟨x53, x54⟩, ⟨⟩⟩ hi89
  refine wc_as (l' := [(0, rS s), (3, rS x53), (4, rI .i64 x54)]) (H' := []) rfl rfl ?_
  obtain ⟨m88, rfl, t86, h90, ht87⟩ := lop_e hi89
  replace h90 : rQuoted_b1 s x53 x54 = some t86 := h90
  unfold rQuoted_b1 at h90
  refine wc_seq (wc_sr (wm rfl (wm rfl (wv (o_len_s yu9 rfl) (wv (o_lt rfl rfl) (wl_x (cz h90 rfl (fun c92 h93 => ?_) (fun c92 h120 => ?_))))))))
  ·refine wc_skip (wk_x (wc_seq (wc_block (wc_seq (ck h93 fun g94 h95 => wc_seq_mid [(0, rS s), (3, rS x53), (4, rI .i64 x54), (20, rB ((decide ((bat s x54) = 34)) || (decide ((bat s x54) = 92))))] [] ?_ ?_)))))
   ·refine wc_region (wm rfl (wm rfl (wv (o_index_b yu9 rfl rfl g94) (wv (o_eq rfl rfl) (wm rfl (bsplit (decide ((bat s x54) = 34)) (fun c96 => ?_) (fun c96 => ?_)))))))
    ·refine wf c96 (wf c96 (wf c96 (wf c96 (wv (r := rB true) (o_pick_t rfl c96 rfl) (wl_nil ?_)))))
     exact wtc c96
    ·refine wo c96 (wm rfl (wo c96 (wm rfl (wo c96 (wv (o_index_b yu9 rfl rfl g94) (wo c96 (wv (o_eq rfl rfl) (wpf rfl c96 rfl (wl_nil ?_)))))))))
     exact wtc c96
   refine cz h95 rfl (fun c97 h98 => ?_) (fun c97 h110 => ?_)
   ·refine wc_region (wm rfl (ck h98 fun g99 h100 => wv (o_sadd rfl rfl g99) (wa rfl (wl_x (wc_region (wm rfl (wm rfl (wm rfl (wm rfl (ck h100 fun g101 h102 => wv (o_add rfl rfl g101) (ck h102 fun g103 h104 => ck h104 fun g105 h106 => wv (o_slice_lh yu9 rfl rfl rfl g103 g105) (ck h106 fun g107 h108 => wv (o_sadd rfl rfl g107) (wa rfl (wl_nil (wk_in_norm (wk_x (wc_region (wm rfl ?_))))))))))))))))))
    refine wv (o_add rfl rfl g101) (wa rfl (wl_nil ?_))
    have h109 := stp_next h108 ht87
    exact wk_then (wk_some (m88, ((x53 ++ ([92] : Str)) ++ (List.take (Int.toNat (x54 + 1) - Int.toNat x54) (List.drop (Int.toNat x54) s)), x54 + 1), ()) ⟨h109, Nat.lt_succ_self _⟩ (Sub.c rfl (Sub.c rfl (Sub.c rfl Sub.nil))) sN)
   ·refine wc_skip (wk_x (wc_region (wm rfl (wm rfl (wm rfl (wm rfl (ck h110 fun g111 h112 => wv (o_add rfl rfl g111) (ck h112 fun g113 h114 => ck h114 fun g115 h116 => wv (o_slice_lh yu9 rfl rfl rfl g113 g115) (ck h116 fun g117 h118 => wv (o_sadd rfl rfl g117) (wa rfl (wl_nil (wk_in_norm (wk_x (wc_region (wm rfl (wv (o_add rfl rfl g111) (wa rfl (wl_nil ?_))))))))))))))))))
    have h119 := stp_next h118 ht87
    exact wk_then (wk_some (m88, (x53 ++ (List.take (Int.toNat (x54 + 1) - Int.toNat x54) (List.drop (Int.toNat x54) s)), x54 + 1), ()) ⟨h119, Nat.lt_succ_self _⟩ (Sub.c rfl (Sub.c rfl (Sub.c rfl Sub.nil))) sN)
  ·refine wc_exit (wk_then_exit ?_)
   have h121 := stp_go h120 ht87 hK85
   exact wk_then_exit (wk_cut_hit (wk_some (x53, ()) h121 (Sub.c rfl Sub.nil) sN))
 ·rintro ⟨x82, ⟨⟩⟩ h122
  refine wk_as (l' := [(3, rS x82)]) (H' := []) rfl rfl ?_
  replace h122 : rQuoted_k1 x82 = some r := h122
  unfold rQuoted_k1 at h122
  refine wk_in_hit (wk_x (wc_sr (wm rfl (ck h122 fun g123 h124 => wv (o_sadd rfl rfl g123) (wa rfl (wl_x (wc_ret ?_)))))))
  obtain rfl := some_e h124
  exact wk_ret (r_1 Tryz.results101 (rv_t rfl)) sN ⟨rfl, rfl⟩

theorem rTextm_w (F : Nat) (rec_rText : (List TApiCell) → Int → Option (Str)) (ih_rText : (∀ (v : (List TApiCell)) (i : Int) (r : Str), rec_rText v i = some r → Fn Tryz.prog GE 72 [rSl 4 (List.map eTApiCell v), rI .i64 i] [] (fun R H => R = rS r ∧ H = []))) (v : (List TApiCell)) (i : Int) (r : Str) (h : rTextm F rec_rText v i = some r) : Fn Tryz.prog GE 72 [rSl 4 (List.map eTApiCell v), rI .i64 i] [] (fun R H => R = rS r ∧ H = []) := by
 refine enter (n := 77) Tryz.func72 rfl Tryz.ntmps72 rfl (fun w Z => ?_)
 unfold rTextm at h
 refine wc_sr (wv (r := rS ([] : Str)) (o_assign rfl) (wl_y (wm rfl (wm rfl (ck h fun g1 h2 => wv (o_ix_z (enc := eTApiCell) (ys := v) yu23 ys51 rfl rfl g1) (wv (o_load_za ya51 ys51 rfl rfl rfl) (w_alloc (cs := [rI .i64 0, rI .i64 0, rS ([] : Str), rI .i64 0]) yz51 rfl rfl (fun b3 => ?_))))))))
 refine u_store_agg (i := 0) ys51 rfl rfl rfl (OneAll.c rfl) rfl rfl (cs' := [rI .i64 ((at' v i).fKind), rI .i64 ((at' v i).fInt), rS ((at' v i).fStr), rI .i64 ((at' v i).fN)]) rfl (H' := [.blk b3 (eTApiCell (at' v i)) 51]) rfl (wl_x (wc_seq (wc_sr (vF yu51 rfl ys49 (vL 0 ya49 rfl (wv (o_eq rfl rfl) (wl_x (cz h2 rfl (fun c4 h5 => ?_) (fun c4 h6 => ?_)))))))))
 ·refine wc_sr (wv (r := rS ([110, 117, 108, 108] : Str)) (o_assign rfl) (wl_x (wc_ret (wk_then_ret ?_))))
  obtain rfl := some_e h5
  exact wk_ret (r_1 yr72 (rv_t rfl)) (sS sN) ⟨rfl, rfl⟩
 ·refine wc_skip (wk_x (wc_seq (wc_sr (vF yu51 rfl ys49 (vL 0 ya49 rfl (wv (o_eq rfl rfl) (wl_x (cz h6 rfl (fun c7 h8 => ?_) (fun c7 h12 => ?_)))))))))
  ·refine wc_seq (wc_sr (vF yu51 rfl ys3 (vL 0 ya3 rfl (wv (o_eq rfl rfl) (wl_x (cz h8 rfl (fun c9 h10 => ?_) (fun c9 h11 => ?_)))))))
   ·refine wc_sr (wv (r := rS ([116, 114, 117, 101] : Str)) (o_assign rfl) (wl_x (wc_ret (wk_then_ret (wk_then_ret ?_)))))
    obtain rfl := some_e h10
    exact wk_ret (r_1 yr72 (rv_t rfl)) (sS sN) ⟨rfl, rfl⟩
   ·refine wc_skip (wk_x (wc_sr (wv (r := rS ([102, 97, 108, 115, 101] : Str)) (o_assign rfl) (wl_x (wc_ret (wk_then_ret ?_))))))
    obtain rfl := some_e h11
    exact wk_ret (r_1 yr72 (rv_t rfl)) (sS sN) ⟨rfl, rfl⟩
  ·refine wc_skip (wk_x (wc_seq (wc_sr (vF yu51 rfl ys49 (vL 0 ya49 rfl (wv (o_eq rfl rfl) (wl_x (cz h12 rfl (fun c13 h14 => ?_) (fun c13 h17 => ?_)))))))))
   ·refine wc_sr (vF yu51 rfl ys3 (vL 0 ya3 rfl (ck h14 fun g15 h16 => w_call0 (rs := [rI .i64 ((at' v i).fInt)]) (r := rS (Lib.itoa ((at' v i).fInt))) Tryz.call71 rfl (itoa_q ((at' v i).fInt) g15) rfl rfl (wa rfl (wl_x (wc_ret (wk_then_ret ?_)))))))
    obtain rfl := some_e h16
    exact wk_ret (r_1 yr72 (rv_t rfl)) (sS sN) ⟨rfl, rfl⟩
   ·refine wc_skip (wk_x (wc_seq (wc_sr (vF yu51 rfl ys49 (vL 0 ya49 rfl (wv (o_eq rfl rfl) (wl_x (cz h17 rfl (fun c18 h19 => ?_) (fun c18 h23 => ?_)))))))))
    ·refine wc_sr (vF yu51 rfl ys9 (vL 0 ya9 rfl (ob h19 fun r20 e22 h21 => wc0 Tryz.call101 (rQuoted_w F ((at' v i).fStr) r20 e22) rfl (wa rfl (wl_x (wc_ret (wk_then_ret ?_)))))))
     obtain rfl := some_e h21
     exact wk_ret (r_1 yr72 (rv_t rfl)) (sS sN) ⟨rfl, rfl⟩
    ·refine wc_skip (wk_x (wc_sr (wv (r := rS ([] : Str)) (o_assign rfl) (wl_y (wm rfl (ck h23 fun g24 h25 => wv (o_add rfl rfl g24) (wa rfl (wl_x (wc_seq (wc_sr (wa rfl (wl_x (wc_block (ob h25 fun o218 eo219 hK220 => wc_loop2 (S := Nat × (Str × Int × Int) × (Unit)) (V := (Str) × (Unit)) 0 (fun σ => lop (fun σ => rText_b1 F v i rec_rText σ.1 σ.2.1 σ.2.2) σ.1 σ.2.1 = some o218) (fun σ => [(0, rSl 4 (List.map eTApiCell v)), (4, rS ([] : Str)), (5, rP b3 0), (6, rS σ.2.1.1), (7, rI .i64 σ.2.1.2.1), (8, rI .i64 σ.2.1.2.2)]) (fun σ => [.blk b3 (eTApiCell (at' v i)) 51]) (fun σ => σ.1) (F, (([] : Str), i + 1, 0), ()) eo219 (Sub.c rfl (Sub.c5 rfl rfl rfl rfl rfl Sub.nil)) (sC sN) (fun σ => rText_k1 v i σ.1 = some r) (fun σ => [(4, rS ([] : Str)), (5, rP b3 0), (6, rS σ.1)]) (fun σ => [.blk b3 (eTApiCell (at' v i)) 51]) ?_ ?_))))))))))))))
     ·rintro ⟨n226, ⟨x138, x139, x140⟩, ⟨⟩⟩ hi224
      refine wc_as (l' := [(0, rSl 4 (List.map eTApiCell v)), (4, rS ([] : Str)), (5, rP b3 0), (6, rS x138), (7, rI .i64 x139), (8, rI .i64 x140)]) (H' := [.blk b3 (eTApiCell (at' v i)) 51]) rfl rfl ?_
      obtain ⟨m223, rfl, t221, h225, ht222⟩ := lop_e hi224
      replace h225 : rText_b1 F v i rec_rText x138 x139 x140 = some t221 := h225
      unfold rText_b1 at h225
      refine wc_seq (wc_sr (wm rfl (vF yu51 rfl ys3 (vL 0 ya3 rfl (wv (o_lt rfl rfl) (wl_x (cz h225 rfl (fun c227 h228 => ?_) (fun c227 h306 => ?_))))))))
      ·refine wc_skip (wk_x (wc_seq (wc_block (wc_seq (wc_sr (wm rfl (wv (o_gt rfl rfl) (wl_x (cz h228 rfl (fun c229 h230 => ?_) (fun c229 h269 => ?_))))))))))
       ·refine wc_region (wm rfl (ck h230 fun g231 h232 => wv (o_sadd rfl rfl g231) (wa rfl (wl_x (wc_seq (wc_sr (vF yu51 rfl ys49 (vL 0 ya49 rfl (wv (o_eq rfl rfl) (wl_x (cz h232 rfl (fun c233 h234 => ?_) (fun c233 h257 => ?_))))))))))))
        ·refine wc_sr (wm rfl (wm rfl (wm rfl (ck h234 fun g235 h236 => wv (o_ix_z (enc := eTApiCell) (ys := v) yu23 ys51 rfl rfl g235) (wv (o_fieldAddr_z yu51 rfl ys9 rfl rfl) (wv (o_load_z ya9 rfl rfl) (ob h236 fun r237 e239 h238 => wc0 Tryz.call101 (rQuoted_w F ((at' v x139).fStr) r237 e239) rfl (ck h238 fun g240 h241 => wv (o_sadd rfl rfl g240) (ck h241 fun g242 h243 => wv (o_sadd rfl rfl g242) (wa rfl (wl_x (wc_region (wm rfl (ck h243 fun g244 h245 => wv (o_add rfl rfl g244) (wa rfl (wl_y (wm rfl (wm rfl ?_))))))))))))))))))
         refine wm rfl (ob h245 fun r246 e248 h247 => wc0 yk72 (ih_rText v (x139 + 1) r246 e248) rfl (ck h247 fun g249 h250 => wv (o_sadd rfl rfl g249) (wa rfl (wl_x (wc_region (wm rfl (wm rfl (ob h250 fun r251 e253 h252 => wc0 yk102 (rNext_w F v (x139 + 1) r251 e253) rfl (wa rfl (wl_nil (wk_in_norm (wk_x (wc_region (wm rfl (ck h252 fun g254 h255 => wv (o_add rfl rfl g254) (wa rfl (wl_nil ?_)))))))))))))))))
         have h256 := stp_next h255 ht222
         exact wk_then (wk_some (m223, ((((x138 ++ ([44] : Str)) ++ r237) ++ ([58] : Str)) ++ r246, r251, x140 + 1), ()) ⟨h256, Nat.lt_succ_self _⟩ (Sub.c rfl (Sub.c5 rfl rfl rfl rfl rfl Sub.nil)) (sC sN))
        ·refine wc_skip (wk_x (wc_sr (wm rfl (wm rfl (wm rfl (ob h257 fun r258 e260 h259 => wc0 yk72 (ih_rText v x139 r258 e260) rfl (ck h259 fun g261 h262 => wv (o_sadd rfl rfl g261) (wa rfl (wl_x (wc_region (wm rfl (wm rfl (ob h262 fun r263 e265 h264 => wc0 yk102 (rNext_w F v x139 r263 e265) rfl (wa rfl (wl_nil (wk_in_norm (wk_x (wc_region (wm rfl (ck h264 fun g266 h267 => ?_))))))))))))))))))))
         refine wv (o_add rfl rfl g266) (wa rfl (wl_nil ?_))
         have h268 := stp_next h267 ht222
         exact wk_then (wk_some (m223, ((x138 ++ ([44] : Str)) ++ r258, r263, x140 + 1), ()) ⟨h268, Nat.lt_succ_self _⟩ (Sub.c rfl (Sub.c5 rfl rfl rfl rfl rfl Sub.nil)) (sC sN))
       ·refine wc_skip (wk_x (wc_seq (wc_sr (vF yu51 rfl ys49 (vL 0 ya49 rfl (wv (o_eq rfl rfl) (wl_x (cz h269 rfl (fun c270 h271 => ?_) (fun c270 h294 => ?_)))))))))
        ·refine wc_sr (wm rfl (wm rfl (wm rfl (ck h271 fun g272 h273 => wv (o_ix_z (enc := eTApiCell) (ys := v) yu23 ys51 rfl rfl g272) (wv (o_fieldAddr_z yu51 rfl ys9 rfl rfl) (wv (o_load_z ya9 rfl rfl) (ob h273 fun r274 e276 h275 => wc0 Tryz.call101 (rQuoted_w F ((at' v x139).fStr) r274 e276) rfl (ck h275 fun g277 h278 => wv (o_sadd rfl rfl g277) (ck h278 fun g279 h280 => wv (o_sadd rfl rfl g279) (wa rfl (wl_x (wc_region (wm rfl (ck h280 fun g281 h282 => wv (o_add rfl rfl g281) (wa rfl (wl_y (wm rfl (wm rfl ?_))))))))))))))))))
         refine wm rfl (ob h282 fun r283 e285 h284 => wc0 yk72 (ih_rText v (x139 + 1) r283 e285) rfl (ck h284 fun g286 h287 => wv (o_sadd rfl rfl g286) (wa rfl (wl_x (wc_region (wm rfl (wm rfl (ob h287 fun r288 e290 h289 => wc0 yk102 (rNext_w F v (x139 + 1) r288 e290) rfl (wa rfl (wl_nil (wk_in_norm (wk_x (wc_region (wm rfl (ck h289 fun g291 h292 => wv (o_add rfl rfl g291) (wa rfl (wl_nil ?_)))))))))))))))))
         have h293 := stp_next h292 ht222
         exact wk_then (wk_some (m223, (((x138 ++ r274) ++ ([58] : Str)) ++ r283, r288, x140 + 1), ()) ⟨h293, Nat.lt_succ_self _⟩ (Sub.c rfl (Sub.c5 rfl rfl rfl rfl rfl Sub.nil)) (sC sN))
        ·refine wc_skip (wk_x (wc_sr (wm rfl (wm rfl (wm rfl (ob h294 fun r295 e297 h296 => wc0 yk72 (ih_rText v x139 r295 e297) rfl (ck h296 fun g298 h299 => wv (o_sadd rfl rfl g298) (wa rfl (wl_x (wc_region (wm rfl (wm rfl (ob h299 fun r300 e302 h301 => wc0 yk102 (rNext_w F v x139 r300 e302) rfl (wa rfl (wl_nil (wk_in_norm (wk_x (wc_region (wm rfl (ck h301 fun g303 h304 => ?_))))))))))))))))))))
         refine wv (o_add rfl rfl g303) (wa rfl (wl_nil ?_))
         have h305 := stp_next h304 ht222
         exact wk_then (wk_some (m223, (x138 ++ r295, r300, x140 + 1), ()) ⟨h305, Nat.lt_succ_self _⟩ (Sub.c rfl (Sub.c5 rfl rfl rfl rfl rfl Sub.nil)) (sC sN))
      ·refine wc_exit (wk_then_exit ?_)
       have h307 := stp_go h306 ht222 hK220
       exact wk_then_exit (wk_cut_hit (wk_some (x138, ()) h307 (Sub.c rfl (Sub.c rfl (Sub.c rfl Sub.nil))) (sC sN)))
     ·rintro ⟨x217, ⟨⟩⟩ h308
      refine wk_as (l' := [(4, rS ([] : Str)), (5, rP b3 0), (6, rS x217)]) (H' := [.blk b3 (eTApiCell (at' v i)) 51]) rfl rfl ?_
      replace h308 : rText_k1 v i x217 = some r := h308
      unfold rText_k1 at h308
      refine wk_in_hit (wk_x (wc_seq (wc_sr (vF yu51 rfl ys49 (vL 0 ya49 rfl (wv (o_eq rfl rfl) (wl_x (cz h308 rfl (fun c309 h310 => ?_) (fun c309 h315 => ?_)))))))))
      ·refine wc_sr (wm rfl (ck h310 fun g311 h312 => wv (o_sadd rfl rfl g311) (ck h312 fun g313 h314 => wv (o_sadd rfl rfl g313) (wa rfl (wl_x (wc_ret (wk_then_ret ?_)))))))
       obtain rfl := some_e h314
       exact wk_ret (r_1 yr72 (rv_t rfl)) (sS sN) ⟨rfl, rfl⟩
      ·refine wc_skip (wk_x (wc_sr (wm rfl (ck h315 fun g316 h317 => wv (o_sadd rfl rfl g316) (ck h317 fun g318 h319 => wv (o_sadd rfl rfl g318) (wa rfl (wl_x (wc_ret ?_))))))))
       obtain rfl := some_e h319
       exact wk_ret (r_1 yr72 (rv_t rfl)) (sS sN) ⟨rfl, rfl⟩

theorem rText_all : ∀ F : Nat, (∀ (v : (List TApiCell)) (i : Int) (r : Str), rText F v i = some r → Fn Tryz.prog GE 72 [rSl 4 (List.map eTApiCell v), rI .i64 i] [] (fun R H => R = rS r ∧ H = []))
  | 0 => (fun _ _ _ h => by simp [rText] at h)
  | nn + 1 => (fun v i r h => rTextm_w nn (rText nn) (rText_all nn) v i r (by rw [rText] at h; exact h))

theorem rText_w (F : Nat) (v : (List TApiCell)) (i : Int) (r : Str) (h : rText F v i = some r) : Fn Tryz.prog GE 72 [rSl 4 (List.map eTApiCell v), rI .i64 i] [] (fun R H => R = rS r ∧ H = []) := (rText_all F) v i r h

theorem rCheck_w (F : Nat) (v : (List TApiCell)) (r : Int) (h : rCheck F v = some r) : Fn Tryz.prog GE 56 [rSl 4 (List.map eTApiCell v)] [] (fun R H => R = rI .i64 r ∧ H = []) := by
 refine enter (n := 61) Tryz.func56 rfl Tryz.ntmps56 rfl (fun w Z => ?_)
 unfold rCheck at h
 refine wc_sr (wa rfl (wl_x (wc_seq (wc_sr (wm rfl (ob h fun r1 e3 h2 => wc0 Tryz.call76 (rFormed_w F v r1 e3) rfl (wv (o_not rfl) (wl_x (cz h2 rfl (fun c4 h5 => ?_) (fun c4 h6 => ?_))))))))))
 ·refine wc_sr (wa rfl (wl_x (wc_ret (wk_then_ret ?_))))
  obtain rfl := some_e h5
  exact wk_ret (r_1 yr56 (rv_t rfl)) sN ⟨rfl, rfl⟩
 ·refine wc_skip (wk_x (wc_seq (wc_sr (wa rfl (wl_x (wc_block (ob h6 fun o43 eo44 hK45 => wc_loop2 (S := Nat × (Int) × (Unit)) (V := (Unit) × (Unit)) 0 (fun σ => lop (fun σ => rCheck_b1 v σ) σ.1 σ.2.1 = some o43) (fun σ => [(0, rSl 4 (List.map eTApiCell v)), (3, rI .i64 σ.2.1)]) (fun σ => []) (fun σ => σ.1) (F, 0, ()) eo44 (Sub.c rfl (Sub.c rfl Sub.nil)) sN (fun σ => rCheck_k1 F v  = some r) (fun σ => [(0, rSl 4 (List.map eTApiCell v))]) (fun σ => []) ?_ ?_)))))))
  ·rintro ⟨n51, x30, ⟨⟩⟩ hi49
   refine wc_as (l' := [(0, rSl 4 (List.map eTApiCell v)), (3, rI .i64 x30)]) (H' := []) rfl rfl ?_
   obtain ⟨m48, rfl, t46, h50, ht47⟩ := lop_e hi49
   replace h50 : rCheck_b1 v x30 = some t46 := h50
   unfold rCheck_b1 at h50
   refine wc_seq (wc_sr (wm rfl (wm rfl (wv (o_len_zt (ys := v) (enc := eTApiCell) yu23 rfl) (wv (o_lt rfl rfl) (wl_x (cz h50 rfl (fun c52 h53 => ?_) (fun c52 h65 => ?_))))))))
   ·refine wc_skip (wk_x (wc_seq (wc_block (ck h53 fun g54 h55 => wc_seq_mid [(0, rSl 4 (List.map eTApiCell v)), (3, rI .i64 x30), (35, rB ((decide (((at' v x30).fKind) = 3)) && ((decide (((at' v x30).fInt) < (-1000000000000))) || (decide (1000000000000 < ((at' v x30).fInt))))))] [] ?_ ?_))))
    ·refine wc_region (wm rfl (wm rfl (wv (o_ix_z (enc := eTApiCell) (ys := v) yu23 ys51 rfl rfl g54) (wv (o_fieldAddr_z yu51 rfl ys49 rfl rfl) (wv (o_load_z ya49 rfl rfl) (wv (o_eq rfl rfl) (wm rfl (bsplit (decide (((at' v x30).fKind) = 3)) (fun c56 => ?_) (fun c56 => ?_)))))))))
     ·refine wo c56 (wm rfl (wo c56 (wm rfl (wo c56 (wv (o_ix_z (enc := eTApiCell) (ys := v) yu23 ys51 rfl rfl g54) (wo c56 (wv (o_fieldAddr_z yu51 rfl ys3 rfl rfl) (wo c56 (wv (o_load_z ya3 rfl rfl) (wo c56 (wv (o_lt rfl rfl) (wo c56 (wm rfl (bsplit (decide (((at' v x30).fInt) < (-1000000000000))) (fun c57 => ?_) (fun c57 => ?_)))))))))))))))
      ·refine wf c57 (wf c57 (wf c57 (wf c57 (wf c57 (wf c57 (wo c56 (wv (r := rB true) (o_pick_t rfl c57 rfl) (wpt rfl c56 rfl (wl_nil ?_)))))))))
       exact wtc (And.intro c56 c57)
      ·refine wo c57 (wm rfl (wo c57 (wm rfl (wo c57 (wv (o_ix_z (enc := eTApiCell) (ys := v) yu23 ys51 rfl rfl g54) (wo c57 (wv (o_fieldAddr_z yu51 rfl ys3 rfl rfl) (wo c57 (wv (o_load_z ya3 rfl rfl) (wo c57 (wv (o_gt rfl rfl) (wo c56 (wpf rfl c57 rfl (wpt rfl c56 rfl (wl_nil ?_)))))))))))))))
       exact wtc (And.intro c56 c57)
     ·refine wf c56 (wf c56 (wf c56 (wf c56 (wf c56 (wf c56 (wf c56 (wu (wu (wu (wu (wu (wu (wf c56 (wv (r := rB false) (o_pick_f rfl c56 rfl) (wl_nil ?_)))))))))))))))
      exact wtc c56
    refine cz h55 rfl (fun c58 h59 => ?_) (fun c58 h61 => ?_)
    ·refine wc_sr (wa rfl (wl_x (wc_ret (wk_in_ret (wk_then_ret (wk_then_ret (wk_cut_ret ?_)))))))
     have h60 := stp_ret h59 ht47 hK45
     refine wk_in_ret (wk_then_ret ?_)
     obtain rfl := some_e h60
     exact wk_ret (r_1 yr56 (rv_t rfl)) sN ⟨rfl, rfl⟩
    ·refine wc_skip (wk_in_norm (wk_x (wc_region (wm rfl (ck h61 fun g62 h63 => wv (o_add rfl rfl g62) (wa rfl (wl_nil ?_)))))))
     have h64 := stp_next h63 ht47
     exact wk_then (wk_some (m48, x30 + 1, ()) ⟨h64, Nat.lt_succ_self _⟩ (Sub.c rfl (Sub.c rfl Sub.nil)) sN)
   ·refine wc_exit (wk_then_exit ?_)
    have h66 := stp_go h65 ht47 hK45
    exact wk_then_exit (wk_cut_hit (wk_some ((), ()) h66 (Sub.c rfl Sub.nil) sN))
  ·rintro ⟨⟨⟩, ⟨⟩⟩ h67
   refine wk_as (l' := [(0, rSl 4 (List.map eTApiCell v))]) (H' := []) rfl rfl ?_
   replace h67 : rCheck_k1 F v  = some r := h67
   unfold rCheck_k1 at h67
   refine wk_in_hit (wk_x (wc_seq (ck h67 fun g68 h69 => wc_seq_mid [(0, rSl 4 (List.map eTApiCell v)), (43, rB ((decide (200 < (v.length : Int))) || (decide (8 < (ov (rLevels F v 0))))))] [] ?_ ?_)))
   ·refine wc_region (wm rfl (wv (o_len_zt (ys := v) (enc := eTApiCell) yu23 rfl) (wv (o_gt rfl rfl) (wm rfl (bsplit (decide (200 < (v.length : Int))) (fun c70 => ?_) (fun c70 => ?_))))))
    ·refine wf c70 (wf c70 (wf c70 (wv (r := rB true) (o_pick_t rfl c70 rfl) (wl_nil ?_))))
     exact wtc c70
    ·refine wo c70 (wm rfl (wo c70 (wc0 Tryz.call77 (rLevels_w F v 0 (ov (rLevels F v 0)) (ov_e (imp_f g68 c70))) rfl (wo c70 (wv (o_gt rfl rfl) (wpf rfl c70 rfl (wl_nil ?_)))))))
     exact wtc c70
   refine cz h69 rfl (fun c71 h72 => ?_) (fun c71 h73 => ?_)
   ·refine wc_sr (wa rfl (wl_x (wc_ret (wk_then_ret ?_))))
    obtain rfl := some_e h72
    exact wk_ret (r_1 yr56 (rv_t rfl)) sN ⟨rfl, rfl⟩
   ·refine wc_skip (wk_x (wc_seq (wc_sr (wa rfl (wl_x (wc_block (ob h73 fun o104 eo105 hK106 => wc_loop2 (S := Nat × (Int) × (Unit)) (V := (Unit) × (Unit)) 2 (fun σ => lop (fun σ => rCheck_b2 v σ) σ.1 σ.2.1 = some o104) (fun σ => [(0, rSl 4 (List.map eTApiCell v)), (4, rI .i64 σ.2.1)]) (fun σ => []) (fun σ => σ.1) (F, 0, ()) eo105 (Sub.c rfl (Sub.c rfl Sub.nil)) sN (fun σ => rCheck_k2 F v  = some r) (fun σ => [(0, rSl 4 (List.map eTApiCell v))]) (fun σ => []) ?_ ?_)))))))
    ·rintro ⟨n112, x93, ⟨⟩⟩ hi110
     refine wc_as (l' := [(0, rSl 4 (List.map eTApiCell v)), (4, rI .i64 x93)]) (H' := []) rfl rfl ?_
     obtain ⟨m109, rfl, t107, h111, ht108⟩ := lop_e hi110
     replace h111 : rCheck_b2 v x93 = some t107 := h111
     unfold rCheck_b2 at h111
     refine wc_seq (wc_sr (wm rfl (wm rfl (wv (o_len_zt (ys := v) (enc := eTApiCell) yu23 rfl) (wv (o_lt rfl rfl) (wl_x (cz h111 rfl (fun c113 h114 => ?_) (fun c113 h124 => ?_))))))))
     ·refine wc_skip (wk_x (wc_seq (wc_block (wc_sr (wm rfl (wm rfl (ck h114 fun g115 h116 => wv (o_ix_z (enc := eTApiCell) (ys := v) yu23 ys51 rfl rfl g115) (wv (o_fieldAddr_z yu51 rfl ys9 rfl rfl) (wv (o_load_z ya9 rfl rfl) (wv (o_len_s yu9 rfl) (wv (o_gt rfl rfl) (wl_x (cz h116 rfl (fun c117 h118 => ?_) (fun c117 h120 => ?_))))))))))))))
      ·refine wc_sr (wa rfl (wl_x (wc_ret (wk_in_ret (wk_then_ret (wk_then_ret (wk_cut_ret ?_)))))))
       have h119 := stp_ret h118 ht108 hK106
       refine wk_in_ret (wk_then_ret ?_)
       obtain rfl := some_e h119
       exact wk_ret (r_1 yr56 (rv_t rfl)) sN ⟨rfl, rfl⟩
      ·refine wc_skip (wk_in_norm (wk_x (wc_region (wm rfl (ck h120 fun g121 h122 => wv (o_add rfl rfl g121) (wa rfl (wl_nil ?_)))))))
       have h123 := stp_next h122 ht108
       exact wk_then (wk_some (m109, x93 + 1, ()) ⟨h123, Nat.lt_succ_self _⟩ (Sub.c rfl (Sub.c rfl Sub.nil)) sN)
     ·refine wc_exit (wk_then_exit ?_)
      have h125 := stp_go h124 ht108 hK106
      exact wk_then_exit (wk_cut_hit (wk_some ((), ()) h125 (Sub.c rfl Sub.nil) sN))
    ·rintro ⟨⟨⟩, ⟨⟩⟩ h126
     refine wk_as (l' := [(0, rSl 4 (List.map eTApiCell v))]) (H' := []) rfl rfl ?_
     replace h126 : rCheck_k2 F v  = some r := h126
     unfold rCheck_k2 at h126
     refine wk_in_hit (wk_x (wc_seq (wc_sr (wm rfl (ob h126 fun r127 e129 h128 => wc0 yk72 (rText_w F v 0 r127 e129) rfl (wv (o_len_s yu9 rfl) (wv (o_gt rfl rfl) (wl_x (cz h128 rfl (fun c130 h131 => ?_) (fun c130 h132 => ?_))))))))))
     ·refine wc_sr (wa rfl (wl_x (wc_ret (wk_then_ret ?_))))
      obtain rfl := some_e h131
      exact wk_ret (r_1 yr56 (rv_t rfl)) sN ⟨rfl, rfl⟩
     ·refine wc_skip (wk_x (wc_sr (wa rfl (wl_x (wc_ret ?_)))))
      obtain rfl := some_e h132
      exact wk_ret (r_1 yr56 (rv_t rfl)) sN ⟨rfl, rfl⟩

end Go.Proofs.YtpmiamphppcfeaaGreatDoor.Q

/-
 What functions compute, with checks: plain definitions, printed by a small program of ours (gq.py). No program in sight.
-/
namespace Go.Proofs.YtpmiamphppcfeaaGreatDoor
open Go
set_option linter.unusedVariables false
structure TValueOpen where
 fPairs : Bool
 fLeft : Int
 fKey : Bool
 fLast : Str
 fStarted : Bool
 deriving DecidableEq, Inhabited
structure TValueShape where
 fDepth : Int
 fBytes : Int
 fOutside : Bool
 fLong : Bool
 deriving DecidableEq, Inhabited
def nValid (n : Int) : Option (Bool) :=
 some ((decide ((-1000000000000) ≤ n)) && (decide (n ≤ 1000000000000)))

def vText_b1 (s : Str) (x22 : Int) : Option (Stp (Int) (Out (Bool) (Unit))) :=
 cnd (decide (x22 < (s.length : Int))) (chk (inR x22 (s.length : Int)) <| cnd (((decide ((bat s x22) < 32)) || (decide (126 < (bat s x22))))) (some (.out (.ret false))) (chk (inK .i64 (x22 + 1)) <| some (.next (x22 + 1)))) (some (.out (.go ())))

def vText_k1  : Option (Bool) :=
 some true

def vText (F : Nat) (s : Str) : Option (Bool) :=
 obn (lop (fun σ => vText_b1 s σ) F 0) (oute fun ν => vText_k1 )

def vQuoted (s : Str) : Option (Int) :=
 chk (inK .i64 ((s.length : Int) + 2)) <| chk (inK .i64 (((s.length : Int) + 2) + (Lib.countByte s 34 : Int))) <| chk (inK .i64 ((((s.length : Int) + 2) + (Lib.countByte s 34 : Int)) + (Lib.countByte s 92 : Int))) <| some ((((s.length : Int) + 2) + (Lib.countByte s 34 : Int)) + (Lib.countByte s 92 : Int))

def vPlain (F : Nat) (c : TApiCell) : Option (Bool) :=
 cnd (decide (c.fKind = 1)) (some ((decide (c.fInt = 0)) && ((decide (c.fStr = ([] : Str))) && (decide (c.fN = 0))))) (cnd (decide (c.fKind = 2)) (some (bif decide (c.fInt = 0) then ((decide (c.fStr = ([] : Str))) && (decide (c.fN = 0))) else ((decide (c.fInt = 1)) && ((decide (c.fStr = ([] : Str))) && (decide (c.fN = 0)))))) (cnd (decide (c.fKind = 3)) (some ((decide (c.fStr = ([] : Str))) && (decide (c.fN = 0)))) (cnd (decide (c.fKind = 4)) (chk (imp (decide (c.fInt = 0)) (imp (decide (c.fN = 0)) ((vText F c.fStr).isSome))) <| some ((decide (c.fInt = 0)) && ((decide (c.fN = 0)) && (ov (vText F c.fStr))))) (cnd (decide (c.fKind = 5)) (some ((decide (c.fInt = 0)) && ((decide (c.fStr = ([] : Str))) && (decide (0 ≤ c.fN))))) (cnd (decide (c.fKind = 6)) (some ((decide (c.fInt = 0)) && ((decide (c.fStr = ([] : Str))) && (decide (0 ≤ c.fN))))) (some false))))))

def vSize (c : TApiCell) : Option (Int) :=
 cnd (decide (c.fKind = 1)) (some 4) (cnd (decide (c.fKind = 2)) (some (IntKind.wrap .i64 (5 - c.fInt))) (cnd (decide (c.fKind = 3)) (chk (inK .i64 c.fInt) <| some ((Lib.itoa c.fInt).length : Int)) (cnd (decide (c.fKind = 4)) (obn (vQuoted c.fStr) fun r15 => some r15) (some (IntKind.wrap .i64 (2 + (max 0 (IntKind.wrap .i64 (c.fN - 1)))))))))

def vClosed_b1 (x159 : (List TValueOpen)) : Option (Stp ((List TValueOpen)) (Out ((List TValueOpen)) ((List TValueOpen)))) :=
 cnd (decide (0 < (x159.length : Int))) (chk (inK .i64 ((x159.length : Int) - 1)) <| chk (inR ((x159.length : Int) - 1) (x159.length : Int)) <| chk (inK .i64 (((at' x159 ((x159.length : Int) - 1)).fLeft) - 1)) <| bnd (List.set x159 (Int.toNat ((x159.length : Int) - 1)) (TValueOpen.mk ((at' x159 ((x159.length : Int) - 1)).fPairs) (((at' x159 ((x159.length : Int) - 1)).fLeft) - 1) ((at' x159 ((x159.length : Int) - 1)).fKey) ((at' x159 ((x159.length : Int) - 1)).fLast) ((at' x159 ((x159.length : Int) - 1)).fStarted))) fun r203 => cnd (decide (0 < ((at' r203 ((x159.length : Int) - 1)).fLeft))) (bnd (List.set r203 (Int.toNat ((x159.length : Int) - 1)) (TValueOpen.mk ((at' r203 ((x159.length : Int) - 1)).fPairs) ((at' r203 ((x159.length : Int) - 1)).fLeft) ((at' r203 ((x159.length : Int) - 1)).fPairs) ((at' r203 ((x159.length : Int) - 1)).fLast) ((at' r203 ((x159.length : Int) - 1)).fStarted))) fun r208 => some (.out (.ret r208))) (chk (inK .i64 ((r203.length : Int) - 1)) <| chk (inC ((r203.length : Int) - 1) (r203.length : Int)) <| some (.next (List.take (Int.toNat ((r203.length : Int) - 1)) r203)))) (some (.out (.go x159)))

def vClosed_k1 (x184 : (List TValueOpen)) : Option ((List TValueOpen)) :=
 some x184

def vClosed (F : Nat) (stack : (List TValueOpen)) : Option ((List TValueOpen)) :=
 obn (lop (fun σ => vClosed_b1 σ) F stack) (oute fun ν => vClosed_k1 ν)

def vLook_j2 (x235 : Int) (x468 : (List TValueOpen)) (x470 : TValueShape) : Option (Stp ((List TValueOpen) × Int × TValueShape) (Out (Int × TValueShape × Bool) (TValueShape))) :=
 chk (inK .i64 (x235 + 1)) <| some (.next (x468, x235 + 1, x470))

def vLook_b1 (F : Nat) (v : (List TApiCell)) (x233 : (List TValueOpen)) (x235 : Int) (x236 : TValueShape) : Option (Stp ((List TValueOpen) × Int × TValueShape) (Out (Int × TValueShape × Bool) (TValueShape))) :=
 cnd (decide (x235 < (v.length : Int))) (chk (inR x235 (v.length : Int)) <| obn (vPlain F (at' v x235)) fun r474 => cnd (!r474) (some (.out (.ret (0, x236, false)))) (chk (imp (decide (0 < (x233.length : Int))) (inK .i64 ((x233.length : Int) - 1))) <| chk (imp (decide (0 < (x233.length : Int))) (inR ((x233.length : Int) - 1) (x233.length : Int))) <| cnd (((decide (0 < (x233.length : Int))) && ((at' x233 ((x233.length : Int) - 1)).fKey))) (chk (inK .i64 ((x233.length : Int) - 1)) <| chk (inR ((x233.length : Int) - 1) (x233.length : Int)) <| cnd (((!decide (((at' v x235).fKind) = 4)) || (((at' x233 ((x233.length : Int) - 1)).fStarted) && (sLess ((at' v x235).fStr) ((at' x233 ((x233.length : Int) - 1)).fLast) || decide (((at' v x235).fStr) = ((at' x233 ((x233.length : Int) - 1)).fLast)))))) (some (.out (.ret (0, x236, false)))) (bnd (List.set x233 (Int.toNat ((x233.length : Int) - 1)) (TValueOpen.mk ((at' x233 ((x233.length : Int) - 1)).fPairs) ((at' x233 ((x233.length : Int) - 1)).fLeft) ((at' x233 ((x233.length : Int) - 1)).fKey) ((at' v x235).fStr) ((at' x233 ((x233.length : Int) - 1)).fStarted))) fun r498 => bnd (List.set r498 (Int.toNat ((x233.length : Int) - 1)) (TValueOpen.mk ((at' r498 ((x233.length : Int) - 1)).fPairs) ((at' r498 ((x233.length : Int) - 1)).fLeft) ((at' r498 ((x233.length : Int) - 1)).fKey) ((at' r498 ((x233.length : Int) - 1)).fLast) true)) fun r501 => bnd (List.set r501 (Int.toNat ((x233.length : Int) - 1)) (TValueOpen.mk ((at' r501 ((x233.length : Int) - 1)).fPairs) ((at' r501 ((x233.length : Int) - 1)).fLeft) false ((at' r501 ((x233.length : Int) - 1)).fLast) ((at' r501 ((x233.length : Int) - 1)).fStarted))) fun r504 => obn (vQuoted ((at' v x235).fStr)) fun r507 => chk (inK .i64 (r507 + 1)) <| vLook_j2 x235 r504 (TValueShape.mk x236.fDepth (IntKind.wrap .i64 (x236.fBytes + (r507 + 1))) x236.fOutside (x236.fLong || (decide (200 < (((at' v x235).fStr).length : Int))))))) (chk (inK .i64 ((x233.length : Int) + 1)) <| obn (vSize (at' v x235)) fun r516 => chk (imp (!x236.fOutside) (imp (decide (((at' v x235).fKind) = 3)) ((nValid ((at' v x235).fInt)).isSome))) <| cnd (decide (0 < ((at' v x235).fN))) (cnd (decide ((v.length : Int) < ((at' v x235).fN))) (some (.out (.ret (0, (TValueShape.mk (max x236.fDepth ((x233.length : Int) + 1)) (IntKind.wrap .i64 (x236.fBytes + r516)) (x236.fOutside || ((decide (((at' v x235).fKind) = 3)) && (!(ov (nValid ((at' v x235).fInt)))))) (x236.fLong || (decide (200 < (((at' v x235).fStr).length : Int))))), false)))) (chk (inA 48 (x233.length + ([(TValueOpen.mk (decide (((at' v x235).fKind) = 6)) ((at' v x235).fN) (decide (((at' v x235).fKind) = 6)) ([] : Str) false)] : List TValueOpen).length)) <| vLook_j2 x235 (x233 ++ ([(TValueOpen.mk (decide (((at' v x235).fKind) = 6)) ((at' v x235).fN) (decide (((at' v x235).fKind) = 6)) ([] : Str) false)] : List TValueOpen)) (TValueShape.mk (max x236.fDepth ((x233.length : Int) + 1)) (IntKind.wrap .i64 (x236.fBytes + r516)) (x236.fOutside || ((decide (((at' v x235).fKind) = 3)) && (!(ov (nValid ((at' v x235).fInt)))))) (x236.fLong || (decide (200 < (((at' v x235).fStr).length : Int))))))) (obn (vClosed F x233) fun r535 => cnd (decide ((r535.length : Int) = 0)) (chk (inK .i64 (x235 + 1)) <| some (.out (.ret (x235 + 1, (TValueShape.mk (max x236.fDepth ((x233.length : Int) + 1)) (IntKind.wrap .i64 (x236.fBytes + r516)) (x236.fOutside || ((decide (((at' v x235).fKind) = 3)) && (!(ov (nValid ((at' v x235).fInt)))))) (x236.fLong || (decide (200 < (((at' v x235).fStr).length : Int))))), true)))) (vLook_j2 x235 r535 (TValueShape.mk (max x236.fDepth ((x233.length : Int) + 1)) (IntKind.wrap .i64 (x236.fBytes + r516)) (x236.fOutside || ((decide (((at' v x235).fKind) = 3)) && (!(ov (nValid ((at' v x235).fInt)))))) (x236.fLong || (decide (200 < (((at' v x235).fStr).length : Int)))))))))) (some (.out (.go x236)))

def vLook_k1 (x386 : TValueShape) : Option (Int × TValueShape × Bool) :=
 some (0, x386, false)

def vLook (F : Nat) (v : (List TApiCell)) : Option (Int × TValueShape × Bool) :=
 obn (lop (fun σ => vLook_b1 F v σ.1 σ.2.1 σ.2.2) F (([] : List TValueOpen), 0, (TValueShape.mk 0 0 false false))) (oute fun ν => vLook_k1 ν)

def vCheck (F : Nat) (v : (List TApiCell)) : Option (Int) :=
 obn (vLook F v) fun r1 => cnd (((!r1.2.2) || (!decide (r1.1 = (v.length : Int))))) (some 1) (cnd (r1.2.1.fOutside) (some 2) (cnd ((r1.2.1.fLong || ((decide (200 < (v.length : Int))) || ((decide (8 < r1.2.1.fDepth)) || (decide (4000 < r1.2.1.fBytes)))))) (some 3) (some 0)))

def vChecked (F : Nat) (v : (List TApiCell)) : Option ((List TApiCell) × Int) :=
 obn (vCheck F v) fun r1 => cnd (!decide (r1 = 0)) (some (([] : List TApiCell), r1)) (some (v, 0))

end Go.Proofs.YtpmiamphppcfeaaGreatDoor

/-
  Walks, printed by a small program of ours (gq.py).
-/
namespace Go.Proofs.YtpmiamphppcfeaaGreatDoor.Q
open Go Go.RowKit
set_option linter.unusedVariables false
set_option linter.unusedSimpArgs false
set_option maxRecDepth 100000
set_option maxHeartbeats 4000000
@[reducible] def eTValueOpen (x : TValueOpen) : List Rp := [rB x.fPairs, rI .i64 x.fLeft, rB x.fKey, rS x.fLast, rB x.fStarted]
theorem eTValueOpen_len (x : TValueOpen) : (eTValueOpen x).length = 5 := rfl
theorem eTValueOpen_one (x : TValueOpen) : (eTValueOpen x).all (·.one) = true := rfl
@[reducible] def eTValueShape (x : TValueShape) : List Rp := [rI .i64 x.fDepth, rI .i64 x.fBytes, rB x.fOutside, rB x.fLong]
theorem info115 : ∃ inf, Tryz.prog.info? 115 = some inf ∧ inf.zero = some (.agg #[(.bool false), (.int .i64 0), (.bool false), (.string ⟨#[]⟩), (.bool false)]) ∧ inf.size = 5 ∧ inf.bytes = 48 := by
  have key : (Tryz.prog.info? 115).map (fun i => (i.zero, i.size, i.bytes)) = some (some (.agg #[(.bool false), (.int .i64 0), (.bool false), (.string ⟨#[]⟩), (.bool false)]), 5, 48) := by kernel_rfl
  obtain ⟨inf, h1, h2⟩ := Option.map_eq_some_iff.1 key
  simp only [Prod.mk.injEq] at h2
  exact ⟨inf, h1, h2.1, h2.2.1, h2.2.2⟩
theorem built115 (parts : List (Nat × Value)) : Tryz.prog.built 115 parts = Instr.fill (fun i => (#[(0, 1), (1, 1), (2, 1), (3, 1), (4, 1)] : Array (Nat × Nat))[i]?) #[(.bool false), (.int .i64 0), (.bool false), (.string ⟨#[]⟩), (.bool false)] parts := by kernel_rfl
theorem o_build115_0_1_2 {n : Nat} {c : Cx} {l : Fr} {H : List Ent} {d : Option Nat} {ty : TypeId} {pos : String} {af : Array Edge} {g : Option (Nat × Bool)} {x0 : Operand} {r0 : Rp} (h0 : ev l x0 = some r0) (u0 : r0.one = true) {x1 : Operand} {r1 : Rp} (h1 : ev l x1 = some r1) (u1 : r1.one = true) {x2 : Operand} {r2 : Rp} (h2 : ev l x2 = some r2) (u2 : r2.one = true) : ORun Tryz.prog n c l H { dst := d, op := .build 115 #[(0, x0), (1, x1), (2, x2)], type := ty, pos := pos, after := af, guard := g } (rAgg [r0, r1, r2, rS ([] : Str), rB false]) := fun a w Z ha _ => by
  have p0 := ha.ev h0
  have c0 := cells_one (r0.hone u0 Z _ p0)
  have p1 := ha.ev h1
  have c1 := cells_one (r1.hone u1 Z _ p1)
  have p2 := ha.ev h2
  have c2 := cells_one (r2.hone u2 Z _ p2)
  have hb : Tryz.prog.built 115 [(0, a.eval x0), (1, a.eval x1), (2, a.eval x2)] = some #[a.eval x0, a.eval x1, a.eval x2, (.string ⟨#[]⟩), (.bool false)] := by
    rw [built115]
    generalize a.eval x0 = v0 at *
    generalize a.eval x1 = v1 at *
    generalize a.eval x2 = v2 at *
    simp [Instr.fill, c0, c1, c2]
  refine ⟨.agg #[a.eval x0, a.eval x1, a.eval x2, (.string ⟨#[]⟩), (.bool false)], ⟨[a.eval x0, a.eval x1, a.eval x2, (.string ⟨#[]⟩), (.bool false)], rfl, p0, p1, p2, rfl, rfl, trivial⟩, ?_⟩
  have := run_build w 115 #[(0, a.eval x0), (1, a.eval x1), (2, a.eval x2)] _ (by simpa using hb)
  simp [execOp, this]
theorem nValid_w (n : Int) (r : Bool) (h : nValid n = some r) : Fn Tryz.prog GE 59 [rI .i64 n] [] (fun R H => R = rB r ∧ H = []) := by
 refine enter (n := 9) Tryz.func59 rfl Tryz.ntmps59 rfl (fun w Z => ?_)
 unfold nValid at h
 refine wc_sr (wa rfl (wl_x (wc_seq_mid [(2, rB ((decide ((-1000000000000) ≤ n)) && (decide (n ≤ 1000000000000))))] [] ?_ ?_)))
 ·refine wc_region (wm rfl (wv (o_le rfl rfl) (wm rfl (bsplit (decide ((-1000000000000) ≤ n)) (fun c1 => ?_) (fun c1 => ?_)))))
  ·refine wo c1 (wm rfl (wo c1 (wv (o_le rfl rfl) (wpt rfl c1 rfl (wa rfl (wl_nil ?_))))))
   exact wtc c1
  ·refine wf c1 (wf c1 (wv (r := rB false) (o_pick_f rfl c1 rfl) (wa rfl (wl_nil ?_))))
   exact wtc c1
 refine wc_ret ?_
 obtain rfl := some_e h
 exact wk_ret (r_1 Tryz.results59 (rv_t rfl)) sN ⟨rfl, rfl⟩

theorem vText_w (F : Nat) (s : Str) (r : Bool) (h : vText F s = some r) : Fn Tryz.prog GE 132 [rS s] [] (fun R H => R = rB r ∧ H = []) := by
 refine enter (n := 20) Tryz.func132 rfl Tryz.ntmps132 rfl (fun w Z => ?_)
 unfold vText at h
 refine wc_sr (wa rfl (wl_x (wc_seq (wc_sr (wm rfl (wv (o_len_s yu9 rfl) (wv (r := rI .i64 0) (o_move rfl) (wl_x (wc_block (ob h fun o34 eo35 hK36 => wc_loop2 (S := Nat × (Int) × (Unit)) (V := (Unit) × (Unit)) 0 (fun σ => lop (fun σ => vText_b1 s σ) σ.1 σ.2.1 = some o34) (fun σ => [(0, rS s), (5, rI .i64 (s.length : Int)), (6, rI .i64 σ.2.1)]) (fun σ => []) (fun σ => σ.1) (F, 0, ()) eo35 (Sub.c rfl (Sub.c rfl (Sub.c rfl Sub.nil))) sN (fun σ => vText_k1  = some r) (fun σ => []) (fun σ => []) ?_ ?_))))))))))
 ·rintro ⟨n42, x22, ⟨⟩⟩ hi40
  refine wc_as (l' := [(0, rS s), (5, rI .i64 (s.length : Int)), (6, rI .i64 x22)]) (H' := []) rfl rfl ?_
  obtain ⟨m39, rfl, t37, h41, ht38⟩ := lop_e hi40
  replace h41 : vText_b1 s x22 = some t37 := h41
  unfold vText_b1 at h41
  refine wc_sr (wv (o_lt rfl rfl) (wl_x (wc_seq (cz h41 rfl (fun c43 h44 => ?_) (fun c43 h55 => ?_)))))
  ·refine wc_skip (wk_x (wc_seq (wc_block (wc_sr (wm rfl (wa rfl (wl_x (ck h44 fun g45 h46 => wc_seq_mid [(0, rS s), (5, rI .i64 (s.length : Int)), (6, rI .i64 x22), (18, rB ((decide ((bat s x22) < 32)) || (decide (126 < (bat s x22)))))] [] ?_ ?_))))))))
   ·refine wc_region (wm rfl (wm rfl (wv (o_index_b yu9 rfl rfl g45) (wv (o_lt rfl rfl) (wm rfl (bsplit (decide ((bat s x22) < 32)) (fun c47 => ?_) (fun c47 => ?_)))))))
    ·refine wf c47 (wf c47 (wf c47 (wf c47 (wv (r := rB true) (o_pick_t rfl c47 rfl) (wl_nil ?_)))))
     exact wtc c47
    ·refine wo c47 (wm rfl (wo c47 (wm rfl (wo c47 (wv (o_index_b yu9 rfl rfl g45) (wo c47 (wv (o_gt rfl rfl) (wpf rfl c47 rfl (wl_nil ?_)))))))))
     exact wtc c47
   refine cz h46 rfl (fun c48 h49 => ?_) (fun c48 h51 => ?_)
   ·refine wc_sr (wa rfl (wl_x (wc_ret (wk_in_ret (wk_then_ret (wk_then_ret (wk_cut_ret ?_)))))))
    have h50 := stp_ret h49 ht38 hK36
    refine wk_in_ret (wk_then_ret ?_)
    obtain rfl := some_e h50
    exact wk_ret (r_1 Tryz.results132 (rv_t rfl)) sN ⟨rfl, rfl⟩
   ·refine wc_skip (wk_in_norm (wk_x (wc_region (ck h51 fun g52 h53 => wv (o_add rfl rfl g52) (wm rfl (wl_nil ?_))))))
    have h54 := stp_next h53 ht38
    exact wk_then (wk_some (m39, x22 + 1, ()) ⟨h54, Nat.lt_succ_self _⟩ (Sub.c rfl (Sub.c rfl (Sub.c rfl Sub.nil))) sN)
  ·refine wc_exit (wk_then_exit ?_)
   have h56 := stp_go h55 ht38 hK36
   exact wk_then_exit (wk_cut_hit (wk_some ((), ()) h56 Sub.nil sN))
 ·rintro ⟨⟨⟩, ⟨⟩⟩ h57
  refine wk_as (l' := []) (H' := []) rfl rfl ?_
  replace h57 : vText_k1  = some r := h57
  unfold vText_k1 at h57
  refine wk_in_hit (wk_x (wc_sr (wa rfl (wl_x (wc_ret ?_)))))
  obtain rfl := some_e h57
  exact wk_ret (r_1 Tryz.results132 (rv_t rfl)) sN ⟨rfl, rfl⟩

theorem vQuoted_w (s : Str) (r : Int) (h : vQuoted s = some r) : Fn Tryz.prog GE 109 [rS s] [] (fun R H => R = rI .i64 r ∧ H = []) := by
 refine enter (n := 12) Tryz.func109 rfl Tryz.ntmps109 rfl (fun w Z => ?_)
 unfold vQuoted at h
 refine wc_sr (wa rfl (wl_y (wm rfl (wv (o_len_s yu9 rfl) (ck h fun g1 h2 => wv (o_add rfl rfl g1) (wm rfl (w_call0 (rs := [rS s, rS ([34] : Str)]) (r := rI .i64 (Lib.countByte s 34 : Int)) Tryz.call133 rfl (count_q s 34) rfl rfl (ck h2 fun g3 h4 => wv (o_add rfl rfl g3) (wm rfl (w_call0 (rs := [rS s, rS ([92] : Str)]) (r := rI .i64 (Lib.countByte s 92 : Int)) Tryz.call133 rfl (count_q s 92) rfl rfl (ck h4 fun g5 h6 => wv (o_add rfl rfl g5) (wa rfl (wl_x (wc_ret ?_))))))))))))))
 obtain rfl := some_e h6
 exact wk_ret (r_1 Tryz.results109 (rv_t rfl)) sN ⟨rfl, rfl⟩

theorem vPlain_w (F : Nat) (c : TApiCell) (r : Bool) (h : vPlain F c = some r) : Fn Tryz.prog GE 108 [rAgg (eTApiCell c)] [] (fun R H => R = rB r ∧ H = []) := by
 refine enter (n := 81) Tryz.func108 rfl Tryz.ntmps108 rfl (fun w Z => ?_)
 unfold vPlain at h
 refine wc_sr (w_box_agg rfl rfl (fun b1 => ?_))
 refine wa rfl (wl_x (wc_seq (wc_sr (vF yu51 rfl ys49 (vL 0 ya49 rfl (wl_x (wc_block (wc_sr (wv (o_eq rfl rfl) (wa rfl (wl_x (cz h rfl (fun c2 h3 => ?_) (fun c2 h6 => ?_)))))))))))))
 ·refine wc_seq_mid [(2, rB ((decide (c.fInt = 0)) && ((decide (c.fStr = ([] : Str))) && (decide (c.fN = 0)))))] [] ?_ ?_
  ·refine wc_region (vF yu51 rfl ys3 (vL 0 ya3 rfl (wv (o_eq rfl rfl) (wm rfl (bsplit (decide (c.fInt = 0)) (fun c4 => ?_) (fun c4 => ?_))))))
   ·refine wo c4 (vF yu51 rfl ys9 (wo c4 (vL 0 ya9 rfl (wo c4 (wv (o_seq rfl rfl) (wpt rfl c4 rfl (wm rfl (bsplit (decide (c.fStr = ([] : Str))) (fun c5 => ?_) (fun c5 => ?_)))))))))
    ·refine wo c5 (vF yu51 rfl ys3 (wo c5 (vL 0 ya3 rfl (wo c5 (wv (o_eq rfl rfl) (wpt rfl c5 rfl (wa rfl (wl_nil ?_))))))))
     exact wtc (And.intro c4 c5)
    ·refine wf c5 (wf c5 (wf c5 (wv (r := rB false) (o_pick_f rfl c5 rfl) (wa rfl (wl_nil ?_)))))
     exact wtc (And.intro c4 c5)
   ·refine wf c4 (wf c4 (wf c4 (wv (r := rB false) (o_pick_f rfl c4 rfl) (wm rfl (wz rfl rfl (wz rfl rfl (wz rfl rfl (wv (r := rB false) (o_pick_f (b := false) rfl rfl rfl) (wa rfl (wl_nil ?_))))))))))
    exact wtc c4
  refine wc_ret (wk_in_ret (wk_then_ret ?_))
  obtain rfl := some_e h3
  exact wk_ret (r_1 yr108 (rv_t rfl)) sN ⟨rfl, rfl⟩
 ·refine wc_sr (wv (o_eq rfl rfl) (wa rfl (wl_x (cz h6 rfl (fun c7 h8 => ?_) (fun c7 h13 => ?_)))))
  ·refine wc_seq_mid [(2, rB (bif decide (c.fInt = 0) then ((decide (c.fStr = ([] : Str))) && (decide (c.fN = 0))) else ((decide (c.fInt = 1)) && ((decide (c.fStr = ([] : Str))) && (decide (c.fN = 0))))))] [] ?_ ?_
   ·refine wc_region (vF yu51 rfl ys3 (vL 0 ya3 rfl (wv (o_eq rfl rfl) (wm rfl (bsplit (decide (c.fInt = 0)) (fun c9 => ?_) (fun c9 => ?_))))))
    ·refine wf c9 (wf c9 (wf c9 (wv (r := rB true) (o_pick_t rfl c9 rfl) (wm rfl (wl_on (b := true) rfl rfl rfl (vF yu51 rfl ys9 (wl_on (b := true) rfl rfl rfl (vL 0 ya9 rfl (wl_on (b := true) rfl rfl rfl (wv (o_seq rfl rfl) (wv (r := rB (decide (c.fStr = ([] : Str)))) (o_pick_t (b := true) rfl rfl rfl) (wm rfl (bsplit (decide (c.fStr = ([] : Str))) (fun c10 => ?_) (fun c10 => ?_))))))))))))))
     ·refine wo c10 (vF yu51 rfl ys3 (wo c10 (vL 0 ya3 rfl (wo c10 (wv (o_eq rfl rfl) (wpt rfl c10 rfl (wa rfl (wl_nil ?_))))))))
      exact wtc (And.intro c9 c10)
     ·refine wf c10 (wf c10 (wf c10 (wv (r := rB false) (o_pick_f rfl c10 rfl) (wa rfl (wl_nil ?_)))))
      exact wtc (And.intro c9 c10)
    ·refine wo c9 (vF yu51 rfl ys3 (wo c9 (vL 0 ya3 rfl (wo c9 (wv (o_eq rfl rfl) (wpf rfl c9 rfl (wm rfl (bsplit (decide (c.fInt = 1)) (fun c11 => ?_) (fun c11 => ?_)))))))))
     ·refine wo c11 (vF yu51 rfl ys9 (wo c11 (vL 0 ya9 rfl (wo c11 (wv (o_seq rfl rfl) (wpt rfl c11 rfl (wm rfl (bsplit (decide (c.fStr = ([] : Str))) (fun c12 => ?_) (fun c12 => ?_)))))))))
      ·refine wo c12 (vF yu51 rfl ys3 (wo c12 (vL 0 ya3 rfl (wo c12 (wv (o_eq rfl rfl) (wpt rfl c12 rfl (wa rfl (wl_nil ?_))))))))
       exact wtc (And.intro c9 (And.intro c11 c12))
      ·refine wf c12 (wf c12 (wf c12 (wv (r := rB false) (o_pick_f rfl c12 rfl) (wa rfl (wl_nil ?_)))))
       exact wtc (And.intro c9 (And.intro c11 c12))
     ·refine wf c11 (wf c11 (wf c11 (wv (r := rB false) (o_pick_f rfl c11 rfl) (wm rfl (wz rfl rfl (wz rfl rfl (wz rfl rfl (wv (r := rB false) (o_pick_f (b := false) rfl rfl rfl) (wa rfl (wl_nil ?_))))))))))
      exact wtc (And.intro c9 c11)
   refine wc_ret (wk_in_ret (wk_then_ret ?_))
   obtain rfl := some_e h8
   exact wk_ret (r_1 yr108 (rv_t rfl)) sN ⟨rfl, rfl⟩
  ·refine wc_sr (wv (o_eq rfl rfl) (wa rfl (wl_x (cz h13 rfl (fun c14 h15 => ?_) (fun c14 h17 => ?_)))))
   ·refine wc_seq_mid [(2, rB ((decide (c.fStr = ([] : Str))) && (decide (c.fN = 0))))] [] ?_ ?_
    ·refine wc_region (vF yu51 rfl ys9 (vL 0 ya9 rfl (wv (o_seq rfl rfl) (wm rfl (bsplit (decide (c.fStr = ([] : Str))) (fun c16 => ?_) (fun c16 => ?_))))))
     ·refine wo c16 (vF yu51 rfl ys3 (wo c16 (vL 0 ya3 rfl (wo c16 (wv (o_eq rfl rfl) (wpt rfl c16 rfl (wa rfl (wl_nil ?_))))))))
      exact wtc c16
     ·refine wf c16 (wf c16 (wf c16 (wv (r := rB false) (o_pick_f rfl c16 rfl) (wa rfl (wl_nil ?_)))))
      exact wtc c16
    refine wc_ret (wk_in_ret (wk_then_ret ?_))
    obtain rfl := some_e h15
    exact wk_ret (r_1 yr108 (rv_t rfl)) sN ⟨rfl, rfl⟩
   ·refine wc_sr (wv (o_eq rfl rfl) (wa rfl (wl_x (cz h17 rfl (fun c18 h19 => ?_) (fun c18 h24 => ?_)))))
    ·refine ck h19 fun g20 h21 => wc_seq_mid [(2, rB ((decide (c.fInt = 0)) && ((decide (c.fN = 0)) && (ov (vText F c.fStr)))))] [] ?_ ?_
     ·refine wc_region (vF yu51 rfl ys3 (vL 0 ya3 rfl (wv (o_eq rfl rfl) (wm rfl (bsplit (decide (c.fInt = 0)) (fun c22 => ?_) (fun c22 => ?_))))))
      ·refine wo c22 (vF yu51 rfl ys3 (wo c22 (vL 0 ya3 rfl (wo c22 (wv (o_eq rfl rfl) (wpt rfl c22 rfl (wm rfl (bsplit (decide (c.fN = 0)) (fun c23 => ?_) (fun c23 => ?_)))))))))
       ·refine wo c23 (vF yu51 rfl ys9 (wo c23 (vL 0 ya9 rfl (wo c23 (wc0 Tryz.call132 (vText_w F c.fStr (ov (vText F c.fStr)) (ov_e (imp_t (imp_t g20 c22) c23))) rfl (wpt rfl c23 rfl (wa rfl (wl_nil ?_))))))))
        exact wtc (And.intro c22 c23)
       ·refine wf c23 (wf c23 (wf c23 (wv (r := rB false) (o_pick_f rfl c23 rfl) (wa rfl (wl_nil ?_)))))
        exact wtc (And.intro c22 c23)
      ·refine wf c22 (wf c22 (wf c22 (wv (r := rB false) (o_pick_f rfl c22 rfl) (wm rfl (wz rfl rfl (wz rfl rfl (wz rfl rfl (wv (r := rB false) (o_pick_f (b := false) rfl rfl rfl) (wa rfl (wl_nil ?_))))))))))
       exact wtc c22
     refine wc_ret (wk_in_ret (wk_then_ret ?_))
     obtain rfl := some_e h21
     exact wk_ret (r_1 yr108 (rv_t rfl)) sN ⟨rfl, rfl⟩
    ·refine wc_seq (wc_sr (wv (o_eq rfl rfl) (wa rfl (wl_x (cz h24 rfl (fun c25 h26 => ?_) (fun c25 h29 => ?_))))))
     ·refine wc_skip (wk_x (wc_cond_t rfl c25 (wc_seq_mid [(2, rB ((decide (c.fInt = 0)) && ((decide (c.fStr = ([] : Str))) && (decide (0 ≤ c.fN)))))] [] ?_ ?_)))
      ·refine wc_region (vF yu51 rfl ys3 (vL 0 ya3 rfl (wv (o_eq rfl rfl) (wm rfl (bsplit (decide (c.fInt = 0)) (fun c27 => ?_) (fun c27 => ?_))))))
       ·refine wo c27 (vF yu51 rfl ys9 (wo c27 (vL 0 ya9 rfl (wo c27 (wv (o_seq rfl rfl) (wpt rfl c27 rfl (wm rfl (bsplit (decide (c.fStr = ([] : Str))) (fun c28 => ?_) (fun c28 => ?_)))))))))
        ·refine wo c28 (vF yu51 rfl ys3 (wo c28 (vL 0 ya3 rfl (wo c28 (wv (o_ge rfl rfl) (wpt rfl c28 rfl (wa rfl (wl_nil ?_))))))))
         exact wtc (And.intro c27 c28)
        ·refine wf c28 (wf c28 (wf c28 (wv (r := rB false) (o_pick_f rfl c28 rfl) (wa rfl (wl_nil ?_)))))
         exact wtc (And.intro c27 c28)
       ·refine wf c27 (wf c27 (wf c27 (wv (r := rB false) (o_pick_f rfl c27 rfl) (wm rfl (wz rfl rfl (wz rfl rfl (wz rfl rfl (wv (r := rB false) (o_pick_f (b := false) rfl rfl rfl) (wa rfl (wl_nil ?_))))))))))
        exact wtc c27
      refine wc_ret (wk_in_ret (wk_then_ret ?_))
      obtain rfl := some_e h26
      exact wk_ret (r_1 yr108 (rv_t rfl)) sN ⟨rfl, rfl⟩
     ·refine wc_region (wv (o_eq rfl rfl) (wa rfl (wl_x (cz h29 rfl (fun c30 h31 => ?_) (fun c30 h34 => ?_)))))
      ·refine wc_seq_mid [(2, rB ((decide (c.fInt = 0)) && ((decide (c.fStr = ([] : Str))) && (decide (0 ≤ c.fN)))))] [] ?_ ?_
       ·refine wc_region (vF yu51 rfl ys3 (vL 0 ya3 rfl (wv (o_eq rfl rfl) (wm rfl (bsplit (decide (c.fInt = 0)) (fun c32 => ?_) (fun c32 => ?_))))))
        ·refine wo c32 (vF yu51 rfl ys9 (wo c32 (vL 0 ya9 rfl (wo c32 (wv (o_seq rfl rfl) (wpt rfl c32 rfl (wm rfl (bsplit (decide (c.fStr = ([] : Str))) (fun c33 => ?_) (fun c33 => ?_)))))))))
         ·refine wo c33 (vF yu51 rfl ys3 (wo c33 (vL 0 ya3 rfl (wo c33 (wv (o_ge rfl rfl) (wpt rfl c33 rfl (wa rfl (wl_nil ?_))))))))
          exact wtc (And.intro c32 c33)
         ·refine wf c33 (wf c33 (wf c33 (wv (r := rB false) (o_pick_f rfl c33 rfl) (wa rfl (wl_nil ?_)))))
          exact wtc (And.intro c32 c33)
        ·refine wf c32 (wf c32 (wf c32 (wv (r := rB false) (o_pick_f rfl c32 rfl) (wm rfl (wz rfl rfl (wz rfl rfl (wz rfl rfl (wv (r := rB false) (o_pick_f (b := false) rfl rfl rfl) (wa rfl (wl_nil ?_))))))))))
         exact wtc c32
       refine wc_ret (wk_in_ret (wk_then_ret ?_))
       obtain rfl := some_e h31
       exact wk_ret (r_1 yr108 (rv_t rfl)) sN ⟨rfl, rfl⟩
      ·refine wc_skip (wk_in_norm (wk_x (wc_sr (wa rfl (wl_x (wc_ret ?_))))))
       obtain rfl := some_e h34
       exact wk_ret (r_1 yr108 (rv_t rfl)) (sS sN) ⟨rfl, rfl⟩

theorem vSize_w (c : TApiCell) (r : Int) (h : vSize c = some r) : Fn Tryz.prog GE 110 [rAgg (eTApiCell c)] [] (fun R H => R = rI .i64 r ∧ H = []) := by
 refine enter (n := 28) Tryz.func110 rfl Tryz.ntmps110 rfl (fun w Z => ?_)
 unfold vSize at h
 refine wc_sr (w_box_agg rfl rfl (fun b1 => ?_))
 refine wa rfl (wl_x (wc_seq (wc_sr (vF yu51 rfl ys49 (vL 0 ya49 rfl (wl_x (wc_block (wc_sr (wv (o_eq rfl rfl) (wa rfl (wl_x (cz h rfl (fun c2 h3 => ?_) (fun c2 h4 => ?_)))))))))))))
 ·refine wc_sr (wa rfl (wl_x (wc_ret (wk_in_ret (wk_then_ret ?_)))))
  obtain rfl := some_e h3
  exact wk_ret (r_1 yr110 (rv_t rfl)) (sS sN) ⟨rfl, rfl⟩
 ·refine wc_sr (wv (o_eq rfl rfl) (wa rfl (wl_x (cz h4 rfl (fun c5 h6 => ?_) (fun c5 h7 => ?_)))))
  ·refine wc_sr (vF yu51 rfl ys3 (vL 0 ya3 rfl (wv (r := rI .i64 (IntKind.wrap .i64 (5 - c.fInt))) (o_subw rfl rfl) (wa rfl (wl_x (wc_ret (wk_in_ret (wk_then_ret ?_))))))))
   obtain rfl := some_e h6
   exact wk_ret (r_1 yr110 (rv_t rfl)) (sS sN) ⟨rfl, rfl⟩
  ·refine wc_sr (wv (o_eq rfl rfl) (wa rfl (wl_x (cz h7 rfl (fun c8 h9 => ?_) (fun c8 h12 => ?_)))))
   ·refine wc_sr (vF yu51 rfl ys3 (vL 0 ya3 rfl (ck h9 fun g10 h11 => w_call0 (rs := [rI .i64 c.fInt]) (r := rS (Lib.itoa c.fInt)) Tryz.call45 rfl (format_q c.fInt g10) rfl rfl (wv (o_len_s yu9 rfl) (wa rfl (wl_x (wc_ret (wk_in_ret (wk_then_ret ?_)))))))))
    obtain rfl := some_e h11
    exact wk_ret (r_1 yr110 (rv_t rfl)) (sS sN) ⟨rfl, rfl⟩
   ·refine wc_sr (wv (o_eq rfl rfl) (wa rfl (wl_x (cz h12 rfl (fun c13 h14 => ?_) (fun c13 h18 => ?_)))))
    ·refine wc_sr (vF yu51 rfl ys9 (vL 0 ya9 rfl (ob h14 fun r15 e17 h16 => wc0 Tryz.call109 (vQuoted_w c.fStr r15 e17) rfl (wa rfl (wl_x (wc_ret (wk_in_ret (wk_then_ret ?_))))))))
     obtain rfl := some_e h16
     exact wk_ret (r_1 yr110 (rv_t rfl)) (sS sN) ⟨rfl, rfl⟩
    ·refine wc_skip (wk_in_norm (wk_x (wc_sr (vF yu51 rfl ys3 (vL 0 ya3 rfl (wv (r := rI .i64 (IntKind.wrap .i64 (c.fN - 1))) (o_subw rfl rfl) (wv (o_max yu3 rfl rfl) (wv (r := rI .i64 (IntKind.wrap .i64 (2 + (max 0 (IntKind.wrap .i64 (c.fN - 1)))))) (o_addw rfl rfl) (wa rfl (wl_x (wc_ret ?_)))))))))))
     obtain rfl := some_e h18
     exact wk_ret (r_1 yr110 (rv_t rfl)) (sS sN) ⟨rfl, rfl⟩

theorem vClosed_w (F : Nat) (v_stack : Value) (stack : (List TValueOpen)) (r : (List TValueOpen)) (h : vClosed F stack = some r) : Fn Tryz.prog GE 111 [rv v_stack] [.row v_stack 115 5 (List.map eTValueOpen stack)] (fun R H => ∃ u0 : Value, R = rv u0 ∧ H = [.row u0 115 5 (List.map eTValueOpen r)]) := by
 refine enter (n := 38) Tryz.func111 rfl Tryz.ntmps111 rfl (fun w Z => ?_)
 unfold vClosed at h
 refine wc_sr (wa rfl (wl_x (wc_seq (wc_block (ob h fun o186 eo187 hK188 => wc_loop2 (S := Nat × ((List TValueOpen)) × (Value)) (V := ((List TValueOpen)) × (Value)) 0 (fun σ => lop (fun σ => vClosed_b1 σ) σ.1 σ.2.1 = some o186) (fun σ => [(0, rv σ.2.2), (2, rv (.slice none 0 0))]) (fun σ => [.row σ.2.2 115 5 (List.map eTValueOpen σ.2.1)]) (fun σ => σ.1) (F, stack, v_stack) eo187 (Sub.c rfl (Sub.c rfl Sub.nil)) (sC sN) (fun σ => vClosed_k1 σ.1 = some r) (fun σ => [(0, rv σ.2), (2, rv (.slice none 0 0))]) (fun σ => [.row σ.2 115 5 (List.map eTValueOpen σ.1)]) ?_ ?_)))))
 ·rintro ⟨n194, x159, v160⟩ hi192
  refine wc_as (l' := [(0, rv v160), (2, rv (.slice none 0 0))]) (H' := [.row v160 115 5 (List.map eTValueOpen x159)]) rfl rfl ?_
  obtain ⟨m191, rfl, t189, h193, ht190⟩ := lop_e hi192
  replace h193 : vClosed_b1 x159 = some t189 := h193
  unfold vClosed_b1 at h193
  refine wc_seq (wc_sr (wm rfl (wv (o_len_wt (ys := x159) (enc := eTValueOpen) (i := 0) yu112 rfl rfl) (wv (o_gt rfl rfl) (wl_x (cz h193 rfl (fun c195 h196 => ?_) (fun c195 h219 => ?_)))))))
  ·refine wc_skip (wk_x (wc_block (wc_sr (wm rfl (wm rfl (wv (o_len_wt (ys := x159) (enc := eTValueOpen) (i := 0) yu112 rfl rfl) (ck h196 fun g197 h198 => wv (o_sub rfl rfl g197) (ck h198 fun g199 h200 => wv (r := rv (elp 5 v160 (Int.toNat ((x159.length : Int) - 1)) 0)) (o_ix_w (i := 0) yu112 ys115 rfl rfl rfl (len_map g199)) (wa rfl (wl_y (wm rfl (wv (r := rv (elp 5 v160 (Int.toNat ((x159.length : Int) - 1)) 0)) (o_nilcheck_w (k := 0) rfl (len_map g199) rfl rfl) (wv (r := rv (elp 5 v160 (Int.toNat ((x159.length : Int) - 1)) 1)) (o_fa_w (k := 0) yu115 rfl ys3 rfl (len_map g199) rfl rfl rfl) (wv (r := rI .i64 ((at' x159 ((x159.length : Int) - 1)).fLeft)) (o_ld_w (enc := eTValueOpen) (ys := x159) (i := 0) (j := (x159.length : Int) - 1) ya3 rfl rfl g199 rfl) (ck h200 fun g201 h202 => wv (o_sub rfl rfl g201) (wv (r := rv (elp 5 v160 (Int.toNat ((x159.length : Int) - 1)) 0)) (o_nilcheck_w (k := 0) rfl (len_map g199) rfl rfl) (wv (r := rv (elp 5 v160 (Int.toNat ((x159.length : Int) - 1)) 1)) (o_fa_w (k := 0) yu115 rfl ys3 rfl (len_map g199) rfl rfl rfl) (u_st_w (enc := eTValueOpen) (ys := x159) (y' := (TValueOpen.mk ((at' x159 ((x159.length : Int) - 1)).fPairs) (((at' x159 ((x159.length : Int) - 1)).fLeft) - 1) ((at' x159 ((x159.length : Int) - 1)).fKey) ((at' x159 ((x159.length : Int) - 1)).fLast) ((at' x159 ((x159.length : Int) - 1)).fStarted))) (i := 0) (j := (x159.length : Int) - 1) ys3 rfl rfl (one_c rfl) rfl g199 rfl rfl (H' := [.row v160 115 5 (List.map eTValueOpen (List.set x159 (Int.toNat ((x159.length : Int) - 1)) (TValueOpen.mk ((at' x159 ((x159.length : Int) - 1)).fPairs) (((at' x159 ((x159.length : Int) - 1)).fLeft) - 1) ((at' x159 ((x159.length : Int) - 1)).fKey) ((at' x159 ((x159.length : Int) - 1)).fLast) ((at' x159 ((x159.length : Int) - 1)).fStarted))))]) rfl (bd h202 fun r203 e205 h204 => ?_)))))))))))))))))))
   rw [← e205]
   refine wl_x (wc_seq (wc_sr (wm rfl (wv (r := rv (elp 5 v160 (Int.toNat ((x159.length : Int) - 1)) 0)) (o_nilcheck_w (k := 0) rfl (len_map (inR_set g199 e205)) rfl rfl) (wv (r := rv (elp 5 v160 (Int.toNat ((x159.length : Int) - 1)) 1)) (o_fa_w (k := 0) yu115 rfl ys3 rfl (len_map (inR_set g199 e205)) rfl rfl rfl) (wv (r := rI .i64 ((at' r203 ((x159.length : Int) - 1)).fLeft)) (o_ld_w (enc := eTValueOpen) (ys := r203) (i := 0) (j := (x159.length : Int) - 1) ya3 rfl rfl (inR_set g199 e205) rfl) (wv (o_gt rfl rfl) (wl_x (cz h204 rfl (fun c206 h207 => ?_) (fun c206 h212 => ?_))))))))))
   ·refine wc_sr (wm rfl (wm rfl (wv (r := rv (elp 5 v160 (Int.toNat ((x159.length : Int) - 1)) 0)) (o_nilcheck_w (k := 0) rfl (len_map (inR_set g199 e205)) rfl rfl) (wv (r := rv (elp 5 v160 (Int.toNat ((x159.length : Int) - 1)) 0)) (o_fa_w (k := 0) yu115 rfl ys4 rfl (len_map (inR_set g199 e205)) rfl rfl rfl) (wv (r := rB ((at' r203 ((x159.length : Int) - 1)).fPairs)) (o_ld_w (enc := eTValueOpen) (ys := r203) (i := 0) (j := (x159.length : Int) - 1) ya4 rfl rfl (inR_set g199 e205) rfl) (wv (r := rv (elp 5 v160 (Int.toNat ((x159.length : Int) - 1)) 0)) (o_nilcheck_w (k := 0) rfl (len_map (inR_set g199 e205)) rfl rfl) (wv (r := rv (elp 5 v160 (Int.toNat ((x159.length : Int) - 1)) 2)) (o_fa_w (k := 0) yu115 rfl ys4 rfl (len_map (inR_set g199 e205)) rfl rfl rfl) (u_st_w (enc := eTValueOpen) (ys := r203) (y' := (TValueOpen.mk ((at' r203 ((x159.length : Int) - 1)).fPairs) ((at' r203 ((x159.length : Int) - 1)).fLeft) ((at' r203 ((x159.length : Int) - 1)).fPairs) ((at' r203 ((x159.length : Int) - 1)).fLast) ((at' r203 ((x159.length : Int) - 1)).fStarted))) (i := 0) (j := (x159.length : Int) - 1) ys4 rfl rfl (one_c rfl) rfl (inR_set g199 e205) rfl rfl (H' := [.row v160 115 5 (List.map eTValueOpen (List.set r203 (Int.toNat ((x159.length : Int) - 1)) (TValueOpen.mk ((at' r203 ((x159.length : Int) - 1)).fPairs) ((at' r203 ((x159.length : Int) - 1)).fLeft) ((at' r203 ((x159.length : Int) - 1)).fPairs) ((at' r203 ((x159.length : Int) - 1)).fLast) ((at' r203 ((x159.length : Int) - 1)).fStarted))))]) rfl (bd h207 fun r208 e210 h209 => ?_)))))))))
    rw [← e210]
    refine wl_y (wm rfl (wa rfl (wl_x (wc_ret (wk_then_ret (wk_in_ret (wk_then_ret (wk_cut_ret ?_))))))))
    have h211 := stp_ret h209 ht190 hK188
    refine wk_in_ret (wk_then_ret ?_)
    obtain rfl := some_e h211
    exact wk_ret (r_1 Tryz.results111 (rv_t rfl)) (sC sN) ⟨v160, rfl, rfl⟩
   ·refine wc_skip (wk_x (wc_region (wm rfl (wm rfl (wv (o_len_wt (ys := r203) (enc := eTValueOpen) (i := 0) yu112 rfl rfl) (ck h212 fun g213 h214 => wv (o_sub rfl rfl g213) (ck h214 fun g216 h217 => w_cut (i := 0) yu112 ys115 rfl rfl rfl g216 rfl (fun v215 => ?_))))))))
    refine wa rfl (wl_nil (wk_in_norm ?_))
    have h218 := stp_next h217 ht190
    exact wk_then (wk_some (m191, List.take (Int.toNat ((r203.length : Int) - 1)) r203, v215) ⟨h218, Nat.lt_succ_self _⟩ (Sub.c rfl (Sub.c rfl Sub.nil)) (sC sN))
  ·refine wc_exit (wk_then_exit ?_)
   have h220 := stp_go h219 ht190 hK188
   exact wk_then_exit (wk_cut_hit (wk_some (x159, v160) h220 (Sub.c rfl (Sub.c rfl Sub.nil)) (sC sN)))
 ·rintro ⟨x184, v185⟩ h221
  refine wk_as (l' := [(0, rv v185), (2, rv (.slice none 0 0))]) (H' := [.row v185 115 5 (List.map eTValueOpen x184)]) rfl rfl ?_
  replace h221 : vClosed_k1 x184 = some r := h221
  unfold vClosed_k1 at h221
  refine wk_in_hit (wk_x (wc_sr (wm rfl (wa rfl (wl_x (wc_ret ?_))))))
  obtain rfl := some_e h221
  exact wk_ret (r_1 Tryz.results111 (rv_t rfl)) (sC sN) ⟨v185, rfl, rfl⟩

theorem vLook_w (F : Nat) (v : (List TApiCell)) (r : Int × TValueShape × Bool) (h : vLook F v = some r) : Fn Tryz.prog GE 75 [rSl 4 (List.map eTApiCell v)] [] (fun R H => R = rTup [rI .i64 r.1, rAgg (eTValueShape r.2.1), rB r.2.2] ∧ H = []) := by
 refine enter (n := 152) Tryz.func75 rfl Tryz.ntmps75 rfl (fun w Z => ?_)
 unfold vLook at h
 refine wc_sr (wa rfl (w_alloc (cs := [rI .i64 0, rI .i64 0, rB false, rB false]) yz89 rfl rfl (fun b1 => ?_)))
 refine wa rfl (wl_x (wc_scope (wc_sr (w_alloc (cs := [rI .i64 0, rI .i64 0, rB false, rB false]) yz89 rfl rfl (fun b2 => ?_)))))
 refine wl_y (wa rfl (wl_x (wc_seq (wc_label (wk_x (wc_seq (wc_sr (wm rfl (wv (o_len_zt (ys := v) (enc := eTApiCell) yu23 rfl) (wv (r := rI .i64 0) (o_move rfl) (wl_x (wc_block (WC.nilrow (e := 115) (sz := 5) (wc_perm (H2 := [.blk b2 [rI .i64 0, rI .i64 0, rB false, rB false] 89, .blk b1 [rI .i64 0, rI .i64 0, rB false, rB false] 89, .row (.slice none 0 0                                                                                                                   ) 115 5 (List.map eTValueOpen ([] : List TValueOpen))]) ((perm_front (i := 1) rfl).trans (List.Perm.cons _ ((perm_front (i := 1) rfl).trans (List.Perm.cons _ (List.Perm.refl _))))) (ob h fun o387 eo388 hK389 => wc_loop2 (S := Nat × ((List TValueOpen) × Int × TValueShape) × (Value)) (V := (TValueShape) × (Unit)) 0 (fun σ => lop (fun σ => vLook_b1 F v σ.1 σ.2.1 σ.2.2) σ.1 σ.2.1 = some o387) (fun σ => [(0, rSl 4 (List.map eTApiCell v)), (3, rP b1 0), (5, rP b2 0), (6, rv σ.2.2), (11, rSl 4 (List.map eTApiCell v)), (12, rI .i64 (v.length : Int)), (13, rI .i64 σ.2.1.2.1)]) (fun σ => [.blk b2 (eTValueShape σ.2.1.2.2) 89, .blk b1 [rI .i64 0, rI .i64 0, rB false, rB false] 89, .row σ.2.2 115 5 (List.map eTValueOpen σ.2.1.1)]) (fun σ => σ.1) (F, (([] : List TValueOpen), 0, (TValueShape.mk 0 0 false false)), (.slice none 0 0                                                                                                                   )) eo388 (Sub.c rfl (Sub.c rfl (Sub.c5 rfl rfl rfl rfl rfl Sub.nil))) (sC (sC (sC sN))) (fun σ => vLook_k1 σ.1 = some r) (fun σ => [(3, rP b1 0), (5, rP b2 0)]) (fun σ => [.blk b2 (eTValueShape σ.1) 89, .blk b1 [rI .i64 0, rI .i64 0, rB false, rB false] 89]) ?_ ?_)))))))))))))))
 ·rintro ⟨n395, ⟨x233, x235, x236⟩, v234⟩ hi393
  refine wc_as (l' := [(0, rSl 4 (List.map eTApiCell v)), (3, rP b1 0), (5, rP b2 0), (6, rv v234), (11, rSl 4 (List.map eTApiCell v)), (12, rI .i64 (v.length : Int)), (13, rI .i64 x235)]) (H' := [.blk b2 (eTValueShape x236) 89, .blk b1 [rI .i64 0, rI .i64 0, rB false, rB false] 89, .row v234 115 5 (List.map eTValueOpen x233)]) rfl rfl ?_
  obtain ⟨m392, rfl, t390, h394, ht391⟩ := lop_e hi393
  replace h394 : vLook_b1 F v x233 x235 x236 = some t390 := h394
  unfold vLook_b1 at h394
  refine wc_sr (wv (o_lt rfl rfl) (wl_x (wc_seq (cz h394 rfl (fun c396 h397 => ?_) (fun c396 h549 => ?_)))))
  ·refine wc_skip (wk_x (wc_seq_cut (S := ((List TValueOpen) × TValueShape) × (Value)) (fun σ => vLook_j2 x235 σ.1.1 σ.1.2 = some t390) (fun σ => [(0, rSl 4 (List.map eTApiCell v)), (3, rP b1 0), (5, rP b2 0), (6, rv σ.2), (11, rSl 4 (List.map eTApiCell v)), (12, rI .i64 (v.length : Int)), (13, rI .i64 x235)]) (fun σ => [.blk b2 (eTValueShape σ.1.2) 89, .blk b1 [rI .i64 0, rI .i64 0, rB false, rB false] 89, .row σ.2 115 5 (List.map eTValueOpen σ.1.1)]) ?_ ?_))
   ·refine wc_block (wc_sr (wm rfl (ck h397 fun g471 h472 => wv (o_ix_z (enc := eTApiCell) (ys := v) yu23 ys51 rfl rfl g471) (wv (o_load_za ya51 ys51 rfl rfl rfl) (w_alloc (cs := [rI .i64 0, rI .i64 0, rS ([] : Str), rI .i64 0]) yz51 rfl rfl (fun b473 => ?_))))))
    refine wa rfl (u_store_agg (i := 0) ys51 rfl rfl rfl (OneAll.c rfl) rfl rfl (cs' := [rI .i64 ((at' v x235).fKind), rI .i64 ((at' v x235).fInt), rS ((at' v x235).fStr), rI .i64 ((at' v x235).fN)]) rfl (H' := [.blk b473 (eTApiCell (at' v x235)) 51, .blk b2 (eTValueShape x236) 89, .blk b1 [rI .i64 0, rI .i64 0, rB false, rB false] 89, .row v234 115 5 (List.map eTValueOpen x233)]) rfl (wl_x (wc_seq (wc_sr (wv (o_load_agg (i := 0) ya51 ys51 rfl rfl rfl rfl) (ob h472 fun r474 e476 h475 => wc0 Tryz.call108 (vPlain_w F (at' v x235) r474 e476) rfl (wv (o_not rfl) (wl_x (cz h475 rfl (fun c477 h478 => ?_) (fun c477 h480 => ?_))))))))))
    ·refine wc_seq (wc_rdk (H1 := [.blk b473 (eTApiCell (at' v x235)) 51, .blk b2 (eTValueShape x236) 89, .blk b1 (eTValueShape x236) 89, .row v234 115 5 (List.map eTValueOpen x233)]) [3, 5] [⟨[], rAgg (eTValueShape x236), 1⟩, ⟨[], rI .i64 0, 0⟩, ⟨[0], rv undef, 2⟩, ⟨[], rB false, 0⟩] (rle [(3, _), (2, [.blk b473 (eTApiCell (at' v x235)) 51, .blk b2 (eTValueShape x236) 89, .blk b1 (eTValueShape x236) 89, .row v234 115 5 (List.map eTValueOpen x233)])]) [2, 4, 3] ?_ ?_)
     ·refine of (o_load_agg (i := 1) ya89 ys89 rfl rfl rfl rfl) (oq (o_assign rfl) (obl_l rfl (ok_u (U_u_store_agg (i := 2) ys89 rfl rfl rfl (OneAll.c rfl) rfl rfl (cs' := [rI .i64 x236.fDepth, rI .i64 x236.fBytes, rB x236.fOutside, rB x236.fLong]) rfl (H' := [.blk b473 (eTApiCell (at' v x235)) 51, .blk b2 (eTValueShape x236) 89, .blk b1 (eTValueShape x236) 89, .row v234 115 5 (List.map eTValueOpen x233)]) rfl)) ?_))
      refine oq (o_assign rfl) ?_
      exact obl_e
     refine wk_x (wc_ret (wk_then_ret (wk_in_ret (wk_then_ret (wk_then_ret (wk_cut_ret ?_))))))
     have h479 := stp_ret h478 ht391 hK389
     refine wk_in_ret (wk_then_ret (wk_ng_r ?_))
     obtain rfl := some_e h479
     exact wk_ret (r_3 yr75 (rv_t rfl) (rv_ca (i := 2) ya89 ys89 rfl rfl rfl) (rv_t rfl)) (sS (sS (sS (sS sN)))) ⟨rfl, rfl⟩
    ·refine wc_skip (wk_x (wc_seq (wc_sr (wm rfl (wv (o_len_wt (ys := x233) (enc := eTValueOpen) (i := 3) yu112 rfl rfl) (wa rfl (wl_x (ck h480 fun g481 h482 => ck h482 fun g483 h484 => wc_seq_mid [(0, rSl 4 (List.map eTApiCell v)), (3, rP b1 0), (5, rP b2 0), (6, rv v234), (7, rI .i64 x235), (8, rP b473 0), (9, rI .i64 (x233.length : Int)), (11, rSl 4 (List.map eTApiCell v)), (12, rI .i64 (v.length : Int)), (13, rI .i64 x235), (33, rB ((decide (0 < (x233.length : Int))) && ((at' x233 ((x233.length : Int) - 1)).fKey)))] [.blk b473 (eTApiCell (at' v x235)) 51, .blk b2 (eTValueShape x236) 89, .blk b1 [rI .i64 0, rI .i64 0, rB false, rB false] 89, .row v234 115 5 (List.map eTValueOpen x233)] ?_ ?_))))))))
     ·refine wc_region (wm rfl (wv (o_gt rfl rfl) (wm rfl (bsplit (decide (0 < (x233.length : Int))) (fun c485 => ?_) (fun c485 => ?_)))))
      ·refine wo c485 (wm rfl (wo c485 (wm rfl (wo c485 (wv (o_sub rfl rfl (imp_t g481 c485)) (wo c485 (wv (r := rv (elp 5 v234 (Int.toNat ((x233.length : Int) - 1)) 0)) (o_ix_w (i := 3) yu112 ys115 rfl rfl rfl (len_map (imp_t g483 c485))) (wo c485 (wv (r := rv (elp 5 v234 (Int.toNat ((x233.length : Int) - 1)) 2)) (o_fa_w (k := 3) yu115 rfl ys4 rfl (len_map (imp_t g483 c485)) rfl rfl rfl) (wo c485 (wv (r := rB ((at' x233 ((x233.length : Int) - 1)).fKey)) (o_ld_w (enc := eTValueOpen) (ys := x233) (i := 3) (j := (x233.length : Int) - 1) ya4 rfl rfl (imp_t g483 c485) rfl) (wpt rfl c485 rfl (wl_nil ?_)))))))))))))
       exact wtc c485
      ·refine wf c485 (wf c485 (wf c485 (wf c485 (wf c485 (wf c485 (wv (r := rB false) (o_pick_f rfl c485 rfl) (wl_nil ?_)))))))
       exact wtc c485
     refine cz h484 rfl (fun c486 h487 => ?_) (fun c486 h513 => ?_)
     ·refine wc_sr (wm rfl (wm rfl (ck h487 fun g488 h489 => wv (o_sub rfl rfl g488) (ck h489 fun g490 h491 => wv (r := rv (elp 5 v234 (Int.toNat ((x233.length : Int) - 1)) 0)) (o_ix_w (i := 3) yu112 ys115 rfl rfl rfl (len_map g490)) (wa rfl (wl_x (wc_seq (wc_seq_mid [(0, rSl 4 (List.map eTApiCell v)), (3, rP b1 0), (5, rP b2 0), (6, rv v234), (8, rP b473 0), (10, rv (elp 5 v234 (Int.toNat ((x233.length : Int) - 1)) 0)), (11, rSl 4 (List.map eTApiCell v)), (12, rI .i64 (v.length : Int)), (13, rI .i64 x235), (38, rP b473 0), (39, rI .i64 ((at' v x235).fKind)), (40, rB (!decide (((at' v x235).fKind) = 4))), (41, rB (!decide (((at' v x235).fKind) = 4))), (55, rB ((!decide (((at' v x235).fKind) = 4)) || (((at' x233 ((x233.length : Int) - 1)).fStarted) && (sLess ((at' v x235).fStr) ((at' x233 ((x233.length : Int) - 1)).fLast) || decide (((at' v x235).fStr) = ((at' x233 ((x233.length : Int) - 1)).fLast))))))] [.blk b473 (eTApiCell (at' v x235)) 51, .blk b2 (eTValueShape x236) 89, .blk b1 [rI .i64 0, rI .i64 0, rB false, rB false] 89, .row v234 115 5 (List.map eTValueOpen x233)] ?_ ?_))))))))
      ·refine bsplit (!decide (((at' v x235).fKind) = 4)) (fun c492 => ?_) (fun c492 => ?_)
       ·refine wc_rdq [0, 3, 5, 6, 8, 10, 11, 12, 13] [⟨[], rP b473 0, 0⟩, ⟨[0], rI .i64 ((at' v x235).fKind), 1⟩, ⟨[1], rB (!decide (((at' v x235).fKind) = 4)), 0⟩, ⟨[2], rB (!decide (((at' v x235).fKind) = 4)), 0⟩, ⟨[3], rv undef, 0⟩, ⟨[4, 3], rv undef, 0⟩, ⟨[5, 3], rv undef, 0⟩, ⟨[6, 3], rv undef, 0⟩, ⟨[7, 3], rv undef, 0⟩, ⟨[8], rv undef, 0⟩, ⟨[9, 8], rv undef, 0⟩, ⟨[8], rv undef, 0⟩, ⟨[11, 8], rv undef, 0⟩, ⟨[12, 8], rv undef, 0⟩, ⟨[13, 8], rv undef, 0⟩, ⟨[10, 14, 8], rv undef, 0⟩, ⟨[8, 15, 3], rv undef, 0⟩, ⟨[3, 16], rB true, 0⟩] [38, 39, 40, 41, 42, 43, 44, 45, 46, 47, 48, 49, 50, 51, 52, 53, 54, 55, 0, 3, 5, 6, 8, 10, 11, 12, 13] ?_ ?_
        ·refine oq (o_fieldAddr yu51 rfl ys49 rfl rfl) (of (o_load (i := 0) ya49 rfl rfl rfl) (oq (o_ne rfl rfl) (oq (o_move rfl) (oz c492 (oz c492 (oz c492 (oz c492 (oz c492 (ou (ou (ou (ou (ou (ou (ou (oz c492 (oq (o_pick_t (b := !decide (((at' v x235).fKind) = 4)) rfl c492 rfl) ?_)))))))))))))))))
         exact obl_e
        exact wtc c492
       ·refine bsplit ((at' x233 ((x233.length : Int) - 1)).fStarted) (fun c493 => ?_) (fun c493 => ?_)
        ·refine wc_rdq [0, 3, 5, 6, 8, 10, 11, 12, 13] [⟨[], rP b473 0, 0⟩, ⟨[0], rI .i64 ((at' v x235).fKind), 1⟩, ⟨[1], rB (!decide (((at' v x235).fKind) = 4)), 0⟩, ⟨[2], rB (!decide (((at' v x235).fKind) = 4)), 0⟩, ⟨[3], rv (elp 5 v234 (Int.toNat ((x233.length : Int) - 1)) 0), 0⟩, ⟨[4, 3], rv (elp 5 v234 (Int.toNat ((x233.length : Int) - 1)) 0), 1⟩, ⟨[5, 3], rv (elp 5 v234 (Int.toNat ((x233.length : Int) - 1)) 4), 1⟩, ⟨[6, 3], rB ((at' x233 ((x233.length : Int) - 1)).fStarted), 1⟩, ⟨[7, 3], rB ((at' x233 ((x233.length : Int) - 1)).fStarted), 0⟩, ⟨[8], rP b473 2, 0⟩, ⟨[9, 8], rS ((at' v x235).fStr), 1⟩, ⟨[8], rv (elp 5 v234 (Int.toNat ((x233.length : Int) - 1)) 0), 0⟩, ⟨[11, 8], rv (elp 5 v234 (Int.toNat ((x233.length : Int) - 1)) 0), 1⟩, ⟨[12, 8], rv (elp 5 v234 (Int.toNat ((x233.length : Int) - 1)) 3), 1⟩, ⟨[13, 8], rS ((at' x233 ((x233.length : Int) - 1)).fLast), 1⟩, ⟨[10, 14, 8], rB (sLess ((at' v x235).fStr) ((at' x233 ((x233.length : Int) - 1)).fLast) || decide (((at' v x235).fStr) = ((at' x233 ((x233.length : Int) - 1)).fLast))), 0⟩, ⟨[8, 15, 3], rB (sLess ((at' v x235).fStr) ((at' x233 ((x233.length : Int) - 1)).fLast) || decide (((at' v x235).fStr) = ((at' x233 ((x233.length : Int) - 1)).fLast))), 0⟩, ⟨[3, 16], rB (sLess ((at' v x235).fStr) ((at' x233 ((x233.length : Int) - 1)).fLast) || decide (((at' v x235).fStr) = ((at' x233 ((x233.length : Int) - 1)).fLast))), 0⟩] [38, 39, 40, 41, 42, 43, 44, 45, 46, 47, 48, 49, 50, 51, 52, 53, 54, 55, 0, 3, 5, 6, 8, 10, 11, 12, 13] ?_ ?_
         ·refine oq (o_fieldAddr yu51 rfl ys49 rfl rfl) (of (o_load (i := 0) ya49 rfl rfl rfl) (oq (o_ne rfl rfl) (oq (o_move rfl) (on c492 (oq (o_move rfl) (on c492 (of (o_nilcheck_w (k := 3) rfl (len_map g490) rfl rfl) (on c492 (of (o_fa_w (k := 3) yu115 rfl ys4 rfl (len_map g490) rfl rfl rfl) (on c492 (of (o_ld_w (enc := eTValueOpen) (ys := x233) (i := 3) (j := (x233.length : Int) - 1) ya4 rfl rfl g490 rfl) (on c492 (oq (o_move rfl) (on c493 (oq (o_fieldAddr yu51 rfl ys9 rfl rfl) (on c493 (of (o_load (i := 0) ya9 rfl rfl rfl) (on c493 (oq (o_move rfl) (on c493 (of (o_nilcheck_w (k := 3) rfl (len_map g490) rfl rfl) (on c493 (of (o_fa_w (k := 3) yu115 rfl ys9 rfl (len_map g490) rfl rfl rfl) ?_)))))))))))))))))))))))
          refine on c493 (of (o_ld_w (enc := eTValueOpen) (ys := x233) (i := 3) (j := (x233.length : Int) - 1) ya9 rfl rfl g490 rfl) (on c493 (oq (o_sle rfl rfl) (on c492 (oq (o_pick_t rfl c493 rfl) (oq (o_pick_f rfl c492 rfl) ?_))))))
          exact obl_e
         exact wtc (And.intro c492 c493)
        ·refine wc_rdq [0, 3, 5, 6, 8, 10, 11, 12, 13] [⟨[], rP b473 0, 0⟩, ⟨[0], rI .i64 ((at' v x235).fKind), 1⟩, ⟨[1], rB (!decide (((at' v x235).fKind) = 4)), 0⟩, ⟨[2], rB (!decide (((at' v x235).fKind) = 4)), 0⟩, ⟨[3], rv (elp 5 v234 (Int.toNat ((x233.length : Int) - 1)) 0), 0⟩, ⟨[4, 3], rv (elp 5 v234 (Int.toNat ((x233.length : Int) - 1)) 0), 1⟩, ⟨[5, 3], rv (elp 5 v234 (Int.toNat ((x233.length : Int) - 1)) 4), 1⟩, ⟨[6, 3], rB ((at' x233 ((x233.length : Int) - 1)).fStarted), 1⟩, ⟨[7, 3], rB ((at' x233 ((x233.length : Int) - 1)).fStarted), 0⟩, ⟨[8], rv undef, 0⟩, ⟨[9, 8], rv undef, 0⟩, ⟨[8], rv undef, 0⟩, ⟨[11, 8], rv undef, 0⟩, ⟨[12, 8], rv undef, 0⟩, ⟨[13, 8], rv undef, 0⟩, ⟨[10, 14, 8], rv undef, 0⟩, ⟨[8, 15, 3], rB false, 0⟩, ⟨[3, 16], rB false, 0⟩] [38, 39, 40, 41, 42, 43, 44, 45, 46, 47, 48, 49, 50, 51, 52, 53, 54, 55, 0, 3, 5, 6, 8, 10, 11, 12, 13] ?_ ?_
         ·refine oq (o_fieldAddr yu51 rfl ys49 rfl rfl) (of (o_load (i := 0) ya49 rfl rfl rfl) (oq (o_ne rfl rfl) (oq (o_move rfl) (on c492 (oq (o_move rfl) (on c492 (of (o_nilcheck_w (k := 3) rfl (len_map g490) rfl rfl) (on c492 (of (o_fa_w (k := 3) yu115 rfl ys4 rfl (len_map g490) rfl rfl rfl) (on c492 (of (o_ld_w (enc := eTValueOpen) (ys := x233) (i := 3) (j := (x233.length : Int) - 1) ya4 rfl rfl g490 rfl) (on c492 (oq (o_move rfl) (oz c493 (oz c493 (oz c493 (oz c493 (oz c493 (oz c493 (oz c493 (on c492 (oq (o_pick_f (b := (at' x233 ((x233.length : Int) - 1)).fStarted) rfl c493 rfl) (oq (o_pick_f rfl c492 rfl) ?_)))))))))))))))))))))))
          exact obl_e
         exact wtc (And.intro c492 c493)
      refine cz h491 rfl (fun c494 h495 => ?_) (fun c494 h497 => ?_)
      ·refine wc_seq (wc_rdk (H1 := [.blk b473 (eTApiCell (at' v x235)) 51, .blk b2 (eTValueShape x236) 89, .blk b1 (eTValueShape x236) 89, .row v234 115 5 (List.map eTValueOpen x233)]) [3, 5] [⟨[], rAgg (eTValueShape x236), 1⟩, ⟨[], rI .i64 0, 0⟩, ⟨[0], rv undef, 2⟩, ⟨[], rB false, 0⟩] (rle [(3, _), (2, [.blk b473 (eTApiCell (at' v x235)) 51, .blk b2 (eTValueShape x236) 89, .blk b1 (eTValueShape x236) 89, .row v234 115 5 (List.map eTValueOpen x233)])]) [2, 4, 3] ?_ ?_)
       ·refine of (o_load_agg (i := 1) ya89 ys89 rfl rfl rfl rfl) (oq (o_assign rfl) (obl_l rfl (ok_u (U_u_store_agg (i := 2) ys89 rfl rfl rfl (OneAll.c rfl) rfl rfl (cs' := [rI .i64 x236.fDepth, rI .i64 x236.fBytes, rB x236.fOutside, rB x236.fLong]) rfl (H' := [.blk b473 (eTApiCell (at' v x235)) 51, .blk b2 (eTValueShape x236) 89, .blk b1 (eTValueShape x236) 89, .row v234 115 5 (List.map eTValueOpen x233)]) rfl)) ?_))
        refine oq (o_assign rfl) ?_
        exact obl_e
       refine wk_x (wc_ret (wk_then_ret (wk_then_ret (wk_in_ret (wk_then_ret (wk_then_ret (wk_cut_ret ?_)))))))
       have h496 := stp_ret h495 ht391 hK389
       refine wk_in_ret (wk_then_ret (wk_ng_r ?_))
       obtain rfl := some_e h496
       exact wk_ret (r_3 yr75 (rv_t rfl) (rv_ca (i := 2) ya89 ys89 rfl rfl rfl) (rv_t rfl)) (sS (sS (sS (sS sN)))) ⟨rfl, rfl⟩
      ·refine wc_skip (wk_x (wc_sr (wm rfl (wm rfl (wm rfl (vF yu51 rfl ys9 (vL 0 ya9 rfl (wv (r := rv (elp 5 v234 (Int.toNat ((x233.length : Int) - 1)) 0)) (o_nilcheck_w (k := 3) rfl (len_map g490) rfl rfl) (wv (r := rv (elp 5 v234 (Int.toNat ((x233.length : Int) - 1)) 3)) (o_fa_w (k := 3) yu115 rfl ys9 rfl (len_map g490) rfl rfl rfl) (u_st_w (enc := eTValueOpen) (ys := x233) (y' := (TValueOpen.mk ((at' x233 ((x233.length : Int) - 1)).fPairs) ((at' x233 ((x233.length : Int) - 1)).fLeft) ((at' x233 ((x233.length : Int) - 1)).fKey) ((at' v x235).fStr) ((at' x233 ((x233.length : Int) - 1)).fStarted))) (i := 3) (j := (x233.length : Int) - 1) ys9 rfl rfl (one_c rfl) rfl g490 rfl rfl (H' := [.blk b473 (eTApiCell (at' v x235)) 51, .blk b2 (eTValueShape x236) 89, .blk b1 [rI .i64 0, rI .i64 0, rB false, rB false] 89, .row v234 115 5 (List.map eTValueOpen (List.set x233 (Int.toNat ((x233.length : Int) - 1)) (TValueOpen.mk ((at' x233 ((x233.length : Int) - 1)).fPairs) ((at' x233 ((x233.length : Int) - 1)).fLeft) ((at' x233 ((x233.length : Int) - 1)).fKey) ((at' v x235).fStr) ((at' x233 ((x233.length : Int) - 1)).fStarted))))]) rfl (bd h497 fun r498 e500 h499 => ?_)))))))))))
       rw [← e500]
       refine wv (r := rv (elp 5 v234 (Int.toNat ((x233.length : Int) - 1)) 0)) (o_nilcheck_w (k := 3) rfl (len_map (inR_set g490 e500)) rfl rfl) (wv (r := rv (elp 5 v234 (Int.toNat ((x233.length : Int) - 1)) 4)) (o_fa_w (k := 3) yu115 rfl ys4 rfl (len_map (inR_set g490 e500)) rfl rfl rfl) (u_st_w (enc := eTValueOpen) (ys := r498) (y' := (TValueOpen.mk ((at' r498 ((x233.length : Int) - 1)).fPairs) ((at' r498 ((x233.length : Int) - 1)).fLeft) ((at' r498 ((x233.length : Int) - 1)).fKey) ((at' r498 ((x233.length : Int) - 1)).fLast) true)) (i := 3) (j := (x233.length : Int) - 1) ys4 rfl rfl (one_c rfl) rfl (inR_set g490 e500) rfl rfl (H' := [.blk b473 (eTApiCell (at' v x235)) 51, .blk b2 (eTValueShape x236) 89, .blk b1 [rI .i64 0, rI .i64 0, rB false, rB false] 89, .row v234 115 5 (List.map eTValueOpen (List.set r498 (Int.toNat ((x233.length : Int) - 1)) (TValueOpen.mk ((at' r498 ((x233.length : Int) - 1)).fPairs) ((at' r498 ((x233.length : Int) - 1)).fLeft) ((at' r498 ((x233.length : Int) - 1)).fKey) ((at' r498 ((x233.length : Int) - 1)).fLast) true)))]) rfl (bd h499 fun r501 e503 h502 => ?_)))
       rw [← e503]
       refine wv (r := rv (elp 5 v234 (Int.toNat ((x233.length : Int) - 1)) 0)) (o_nilcheck_w (k := 3) rfl (len_map (inR_set (inR_set g490 e500) e503)) rfl rfl) (wv (r := rv (elp 5 v234 (Int.toNat ((x233.length : Int) - 1)) 2)) (o_fa_w (k := 3) yu115 rfl ys4 rfl (len_map (inR_set (inR_set g490 e500) e503)) rfl rfl rfl) (u_st_w (enc := eTValueOpen) (ys := r501) (y' := (TValueOpen.mk ((at' r501 ((x233.length : Int) - 1)).fPairs) ((at' r501 ((x233.length : Int) - 1)).fLeft) false ((at' r501 ((x233.length : Int) - 1)).fLast) ((at' r501 ((x233.length : Int) - 1)).fStarted))) (i := 3) (j := (x233.length : Int) - 1) ys4 rfl rfl (one_c rfl) rfl (inR_set (inR_set g490 e500) e503) rfl rfl (H' := [.blk b473 (eTApiCell (at' v x235)) 51, .blk b2 (eTValueShape x236) 89, .blk b1 [rI .i64 0, rI .i64 0, rB false, rB false] 89, .row v234 115 5 (List.map eTValueOpen (List.set r501 (Int.toNat ((x233.length : Int) - 1)) (TValueOpen.mk ((at' r501 ((x233.length : Int) - 1)).fPairs) ((at' r501 ((x233.length : Int) - 1)).fLeft) false ((at' r501 ((x233.length : Int) - 1)).fLast) ((at' r501 ((x233.length : Int) - 1)).fStarted))))]) rfl (bd h502 fun r504 e506 h505 => ?_)))
       rw [← e506]
       refine wl_x (wc_seq (ob h505 fun r507 e509 h508 => ck h508 fun g510 h511 => wc_rdk (H1 := [.blk b473 (eTApiCell (at' v x235)) 51, .blk b2 [rI .i64 x236.fDepth, rI .i64 (IntKind.wrap .i64 (x236.fBytes + (r507 + 1))), rB x236.fOutside, rB x236.fLong] 89, .blk b1 [rI .i64 0, rI .i64 0, rB false, rB false] 89, .row v234 115 5 (List.map eTValueOpen r504)]) [0, 3, 5, 6, 8, 11, 12, 13, 38, 39, 40, 41] [⟨[], rP b2 1, 0⟩, ⟨[0], rI .i64 x236.fBytes, 1⟩, ⟨[], rP b473 2, 0⟩, ⟨[2], rS ((at' v x235).fStr), 1⟩, ⟨[3], rI .i64 r507, 0⟩, ⟨[4], rI .i64 (r507 + 1), 0⟩, ⟨[1, 5], rI .i64 (IntKind.wrap .i64 (x236.fBytes + (r507 + 1))), 0⟩, ⟨[], rP b2 1, 0⟩, ⟨[7, 6], rv undef, 2⟩] (rle [(9, _), (1, [.blk b473 (eTApiCell (at' v x235)) 51, .blk b2 [rI .i64 x236.fDepth, rI .i64 (IntKind.wrap .i64 (x236.fBytes + (r507 + 1))), rB x236.fOutside, rB x236.fLong] 89, .blk b1 [rI .i64 0, rI .i64 0, rB false, rB false] 89, .row v234 115 5 (List.map eTValueOpen r504)])]) [68, 69, 70, 71, 72, 73, 74, 75, 0, 3, 5, 6, 8, 11, 12, 13, 38, 39, 40, 41] ?_ ?_))
       ·refine oq (o_fieldAddr yu89 rfl ys3 rfl rfl) (of (o_load (i := 1) ya3 rfl rfl rfl) (oq (o_fieldAddr yu51 rfl ys9 rfl rfl) (of (o_load (i := 0) ya9 rfl rfl rfl) (obl_q rfl (fun H => ok_c0 Tryz.call109 (vQuoted_w ((at' v x235).fStr) r507 e509) rfl) ?_))))
        refine oq (o_add rfl rfl g510) (oq (o_addw rfl rfl) (oq (o_fieldAddr yu89 rfl ys3 rfl rfl) (obl_l rfl (ok_u (U_u_store (i := 1) ys3 rfl rfl (one_c rfl) rfl rfl (cs' := [rI .i64 x236.fDepth, rI .i64 (IntKind.wrap .i64 (x236.fBytes + (r507 + 1))), rB x236.fOutside, rB x236.fLong]) rfl (H' := [.blk b473 (eTApiCell (at' v x235)) 51, .blk b2 [rI .i64 x236.fDepth, rI .i64 (IntKind.wrap .i64 (x236.fBytes + (r507 + 1))), rB x236.fOutside, rB x236.fLong] 89, .blk b1 [rI .i64 0, rI .i64 0, rB false, rB false] 89, .row v234 115 5 (List.map eTValueOpen r504)]) rfl)) ?_)))
        exact obl_e
       refine wk_x (wc_seq_mid [(0, rSl 4 (List.map eTApiCell v)), (3, rP b1 0), (5, rP b2 0), (6, rv v234), (11, rSl 4 (List.map eTApiCell v)), (12, rI .i64 (v.length : Int)), (13, rI .i64 x235), (38, rP b473 0), (39, rI .i64 ((at' v x235).fKind)), (40, rB (!decide (((at' v x235).fKind) = 4))), (41, rB (!decide (((at' v x235).fKind) = 4))), (68, rP b2 1), (69, rI .i64 x236.fBytes), (70, rP b473 2), (71, rS ((at' v x235).fStr)), (72, rI .i64 r507), (73, rI .i64 (r507 + 1)), (74, rI .i64 (IntKind.wrap .i64 (x236.fBytes + (r507 + 1)))), (75, rP b2 1)] [.blk b473 (eTApiCell (at' v x235)) 51, .blk b2 [rI .i64 x236.fDepth, rI .i64 (IntKind.wrap .i64 (x236.fBytes + (r507 + 1))), rB x236.fOutside, rB (x236.fLong || (decide (200 < (((at' v x235).fStr).length : Int))))] 89, .blk b1 [rI .i64 0, rI .i64 0, rB false, rB false] 89, .row v234 115 5 (List.map eTValueOpen r504)] ?_ ?_)
       ·refine wc_region (vF yu89 rfl ys4 (vL 1 ya4 rfl (wm rfl (bsplit (x236.fLong) (fun c512 => ?_) (fun c512 => ?_)))))
        ·refine wf c512 (wf c512 (wf c512 (wf c512 (wv (r := rB true) (o_pick_t rfl c512 rfl) (vF yu89 rfl ys4 (u_store (i := 1) ys4 rfl rfl (one_c rfl) rfl rfl (cs' := [rI .i64 x236.fDepth, rI .i64 (IntKind.wrap .i64 (x236.fBytes + (r507 + 1))), rB x236.fOutside, rB true]) rfl (H' := [.blk b473 (eTApiCell (at' v x235)) 51, .blk b2 [rI .i64 x236.fDepth, rI .i64 (IntKind.wrap .i64 (x236.fBytes + (r507 + 1))), rB x236.fOutside, rB true] 89, .blk b1 [rI .i64 0, rI .i64 0, rB false, rB false] 89, .row v234 115 5 (List.map eTValueOpen r504)]) rfl (wl_nil (wk_asH (H' := [.blk b473 (eTApiCell (at' v x235)) 51, .blk b2 [rI .i64 x236.fDepth, rI .i64 (IntKind.wrap .i64 (x236.fBytes + (r507 + 1))), rB x236.fOutside, rB (x236.fLong || (decide (200 < (((at' v x235).fStr).length : Int))))] 89, .blk b1 [rI .i64 0, rI .i64 0, rB false, rB false] 89, .row v234 115 5 (List.map eTValueOpen r504)]) (by simp only [c512, Bool.true_and, Bool.false_and, Bool.true_or, Bool.false_or, Bool.and_true, Bool.and_false, Bool.or_true, Bool.or_false, Bool.not_true, Bool.not_false, cond_true, cond_false]) ?_))))))))
         exact wt
        ·refine wo c512 (vF yu51 rfl ys9 (wo c512 (vL 0 ya9 rfl (wo c512 (wv (o_len_s yu9 rfl) (wo c512 (wv (o_gt rfl rfl) (wpf rfl c512 rfl (vF yu89 rfl ys4 (u_store (i := 1) ys4 rfl rfl (one_c rfl) rfl rfl (cs' := [rI .i64 x236.fDepth, rI .i64 (IntKind.wrap .i64 (x236.fBytes + (r507 + 1))), rB x236.fOutside, rB (decide (200 < (((at' v x235).fStr).length : Int)))]) rfl (H' := [.blk b473 (eTApiCell (at' v x235)) 51, .blk b2 [rI .i64 x236.fDepth, rI .i64 (IntKind.wrap .i64 (x236.fBytes + (r507 + 1))), rB x236.fOutside, rB (decide (200 < (((at' v x235).fStr).length : Int)))] 89, .blk b1 [rI .i64 0, rI .i64 0, rB false, rB false] 89, .row v234 115 5 (List.map eTValueOpen r504)]) rfl (wl_nil (wk_asH (H' := [.blk b473 (eTApiCell (at' v x235)) 51, .blk b2 [rI .i64 x236.fDepth, rI .i64 (IntKind.wrap .i64 (x236.fBytes + (r507 + 1))), rB x236.fOutside, rB (x236.fLong || (decide (200 < (((at' v x235).fStr).length : Int))))] 89, .blk b1 [rI .i64 0, rI .i64 0, rB false, rB false] 89, .row v234 115 5 (List.map eTValueOpen r504)]) (by simp only [c512, Bool.true_and, Bool.false_and, Bool.true_or, Bool.false_or, Bool.and_true, Bool.and_false, Bool.or_true, Bool.or_false, Bool.not_true, Bool.not_false, cond_true, cond_false]) ?_))))))))))))
         exact wt
       exact wc_exit (wk_then_exit (wk_in_hit (wk_then (wk_some ((r504, (TValueShape.mk x236.fDepth (IntKind.wrap .i64 (x236.fBytes + (r507 + 1))) x236.fOutside (x236.fLong || (decide (200 < (((at' v x235).fStr).length : Int)))))), v234) h511 (Sub.c rfl (Sub.c rfl (Sub.c5 rfl rfl rfl rfl rfl Sub.nil))) (sS (sC (sC (sC sN))))))))
     ·refine wc_skip (wk_x (wc_sr (vF yu89 rfl ys3 (vL 1 ya3 rfl (wm rfl (wv (o_len_wt (ys := x233) (enc := eTValueOpen) (i := 3) yu112 rfl rfl) (ck h513 fun g514 h515 => wv (o_add rfl rfl g514) (wv (o_max yu3 rfl rfl) (vF yu89 rfl ys3 (u_store (i := 1) ys3 rfl rfl (one_c rfl) rfl rfl (cs' := [rI .i64 (max x236.fDepth ((x233.length : Int) + 1)), rI .i64 x236.fBytes, rB x236.fOutside, rB x236.fLong]) rfl (H' := [.blk b473 (eTApiCell (at' v x235)) 51, .blk b2 [rI .i64 (max x236.fDepth ((x233.length : Int) + 1)), rI .i64 x236.fBytes, rB x236.fOutside, rB x236.fLong] 89, .blk b1 [rI .i64 0, rI .i64 0, rB false, rB false] 89, .row v234 115 5 (List.map eTValueOpen x233)]) rfl (wl_x (wc_seq (ob h515 fun r516 e518 h517 => wc_rdk (H1 := [.blk b473 (eTApiCell (at' v x235)) 51, .blk b2 [rI .i64 (max x236.fDepth ((x233.length : Int) + 1)), rI .i64 (IntKind.wrap .i64 (x236.fBytes + r516)), rB x236.fOutside, rB x236.fLong] 89, .blk b1 [rI .i64 0, rI .i64 0, rB false, rB false] 89, .row v234 115 5 (List.map eTValueOpen x233)]) [0, 3, 5, 6, 7, 8, 11, 12, 13] [⟨[], rP b2 1, 0⟩, ⟨[0], rI .i64 x236.fBytes, 1⟩, ⟨[], rAgg (eTApiCell (at' v x235)), 1⟩, ⟨[2], rI .i64 r516, 0⟩, ⟨[1, 3], rI .i64 (IntKind.wrap .i64 (x236.fBytes + r516)), 0⟩, ⟨[], rP b2 1, 0⟩, ⟨[5, 4], rv undef, 2⟩] (rle [(7, _), (1, [.blk b473 (eTApiCell (at' v x235)) 51, .blk b2 [rI .i64 (max x236.fDepth ((x233.length : Int) + 1)), rI .i64 (IntKind.wrap .i64 (x236.fBytes + r516)), rB x236.fOutside, rB x236.fLong] 89, .blk b1 [rI .i64 0, rI .i64 0, rB false, rB false] 89, .row v234 115 5 (List.map eTValueOpen x233)])]) [92, 93, 94, 95, 96, 97, 0, 3, 5, 6, 7, 8, 11, 12, 13] ?_ ?_)))))))))))))
      ·refine oq (o_fieldAddr yu89 rfl ys3 rfl rfl) (of (o_load (i := 1) ya3 rfl rfl rfl) (of (o_load_agg (i := 0) ya51 ys51 rfl rfl rfl rfl) (obl_q rfl (fun H => ok_c0 Tryz.call110 (vSize_w (at' v x235) r516 e518) rfl) ?_)))
       refine oq (o_addw rfl rfl) (oq (o_fieldAddr yu89 rfl ys3 rfl rfl) (obl_l rfl (ok_u (U_u_store (i := 1) ys3 rfl rfl (one_c rfl) rfl rfl (cs' := [rI .i64 (max x236.fDepth ((x233.length : Int) + 1)), rI .i64 (IntKind.wrap .i64 (x236.fBytes + r516)), rB x236.fOutside, rB x236.fLong]) rfl (H' := [.blk b473 (eTApiCell (at' v x235)) 51, .blk b2 [rI .i64 (max x236.fDepth ((x233.length : Int) + 1)), rI .i64 (IntKind.wrap .i64 (x236.fBytes + r516)), rB x236.fOutside, rB x236.fLong] 89, .blk b1 [rI .i64 0, rI .i64 0, rB false, rB false] 89, .row v234 115 5 (List.map eTValueOpen x233)]) rfl)) ?_))
       exact obl_e
      refine wk_x (ck h517 fun g519 h520 => wc_seq_mid [(0, rSl 4 (List.map eTApiCell v)), (3, rP b1 0), (5, rP b2 0), (6, rv v234), (7, rI .i64 x235), (8, rP b473 0), (11, rSl 4 (List.map eTApiCell v)), (12, rI .i64 (v.length : Int)), (13, rI .i64 x235), (92, rP b2 1), (93, rI .i64 x236.fBytes), (94, rAgg (eTApiCell (at' v x235))), (95, rI .i64 r516), (96, rI .i64 (IntKind.wrap .i64 (x236.fBytes + r516))), (97, rP b2 1)] [.blk b473 (eTApiCell (at' v x235)) 51, .blk b2 [rI .i64 (max x236.fDepth ((x233.length : Int) + 1)), rI .i64 (IntKind.wrap .i64 (x236.fBytes + r516)), rB (x236.fOutside || ((decide (((at' v x235).fKind) = 3)) && (!(ov (nValid ((at' v x235).fInt)))))), rB x236.fLong] 89, .blk b1 [rI .i64 0, rI .i64 0, rB false, rB false] 89, .row v234 115 5 (List.map eTValueOpen x233)] ?_ ?_)
      ·refine wc_region (vF yu89 rfl ys4 (vL 1 ya4 rfl (wm rfl (bsplit (x236.fOutside) (fun c521 => ?_) (fun c521 => ?_)))))
       ·refine wf c521 (wf c521 (wf c521 (wf c521 (wu (wu (wu (wu (wf c521 (wv (r := rB true) (o_pick_t rfl c521 rfl) (vF yu89 rfl ys4 (u_store (i := 1) ys4 rfl rfl (one_c rfl) rfl rfl (cs' := [rI .i64 (max x236.fDepth ((x233.length : Int) + 1)), rI .i64 (IntKind.wrap .i64 (x236.fBytes + r516)), rB true, rB x236.fLong]) rfl (H' := [.blk b473 (eTApiCell (at' v x235)) 51, .blk b2 [rI .i64 (max x236.fDepth ((x233.length : Int) + 1)), rI .i64 (IntKind.wrap .i64 (x236.fBytes + r516)), rB true, rB x236.fLong] 89, .blk b1 [rI .i64 0, rI .i64 0, rB false, rB false] 89, .row v234 115 5 (List.map eTValueOpen x233)]) rfl (wl_nil (wk_asH (H' := [.blk b473 (eTApiCell (at' v x235)) 51, .blk b2 [rI .i64 (max x236.fDepth ((x233.length : Int) + 1)), rI .i64 (IntKind.wrap .i64 (x236.fBytes + r516)), rB (x236.fOutside || ((decide (((at' v x235).fKind) = 3)) && (!(ov (nValid ((at' v x235).fInt)))))), rB x236.fLong] 89, .blk b1 [rI .i64 0, rI .i64 0, rB false, rB false] 89, .row v234 115 5 (List.map eTValueOpen x233)]) (by simp only [c521, Bool.true_and, Bool.false_and, Bool.true_or, Bool.false_or, Bool.and_true, Bool.and_false, Bool.or_true, Bool.or_false, Bool.not_true, Bool.not_false, cond_true, cond_false]) ?_)))))))))))))
        exact wt
       ·refine wo c521 (vF yu51 rfl ys49 (wo c521 (vL 0 ya49 rfl (wo c521 (wv (o_eq rfl rfl) (wo c521 (wm rfl (bsplit (decide (((at' v x235).fKind) = 3)) (fun c522 => ?_) (fun c522 => ?_)))))))))
        ·refine wo c522 (vF yu51 rfl ys3 (wo c522 (vL 0 ya3 rfl (wo c522 (wc0 Tryz.call59 (nValid_w ((at' v x235).fInt) (ov (nValid ((at' v x235).fInt))) (ov_e (imp_t (imp_f g519 c521) c522))) rfl (wo c522 (wv (o_not rfl) (wo c521 (wpt rfl c522 rfl (wpf rfl c521 rfl (vF yu89 rfl ys4 (u_store (i := 1) ys4 rfl rfl (one_c rfl) rfl rfl (cs' := [rI .i64 (max x236.fDepth ((x233.length : Int) + 1)), rI .i64 (IntKind.wrap .i64 (x236.fBytes + r516)), rB (!(ov (nValid ((at' v x235).fInt)))), rB x236.fLong]) rfl (H' := [.blk b473 (eTApiCell (at' v x235)) 51, .blk b2 [rI .i64 (max x236.fDepth ((x233.length : Int) + 1)), rI .i64 (IntKind.wrap .i64 (x236.fBytes + r516)), rB (!(ov (nValid ((at' v x235).fInt)))), rB x236.fLong] 89, .blk b1 [rI .i64 0, rI .i64 0, rB false, rB false] 89, .row v234 115 5 (List.map eTValueOpen x233)]) rfl (wl_nil (wk_asH (H' := [.blk b473 (eTApiCell (at' v x235)) 51, .blk b2 [rI .i64 (max x236.fDepth ((x233.length : Int) + 1)), rI .i64 (IntKind.wrap .i64 (x236.fBytes + r516)), rB (x236.fOutside || ((decide (((at' v x235).fKind) = 3)) && (!(ov (nValid ((at' v x235).fInt)))))), rB x236.fLong] 89, .blk b1 [rI .i64 0, rI .i64 0, rB false, rB false] 89, .row v234 115 5 (List.map eTValueOpen x233)]) (by simp only [c521, c522, Bool.true_and, Bool.false_and, Bool.true_or, Bool.false_or, Bool.and_true, Bool.and_false, Bool.or_true, Bool.or_false, Bool.not_true, Bool.not_false, cond_true, cond_false]) ?_))))))))))))))
         exact wt
        ·refine wf c522 (wf c522 (wf c522 (wf c522 (wo c521 (wv (r := rB false) (o_pick_f rfl c522 rfl) (wpf rfl c521 rfl (vF yu89 rfl ys4 (u_store (i := 1) ys4 rfl rfl (one_c rfl) rfl rfl (cs' := [rI .i64 (max x236.fDepth ((x233.length : Int) + 1)), rI .i64 (IntKind.wrap .i64 (x236.fBytes + r516)), rB false, rB x236.fLong]) rfl (H' := [.blk b473 (eTApiCell (at' v x235)) 51, .blk b2 [rI .i64 (max x236.fDepth ((x233.length : Int) + 1)), rI .i64 (IntKind.wrap .i64 (x236.fBytes + r516)), rB false, rB x236.fLong] 89, .blk b1 [rI .i64 0, rI .i64 0, rB false, rB false] 89, .row v234 115 5 (List.map eTValueOpen x233)]) rfl (wl_nil (wk_asH (H' := [.blk b473 (eTApiCell (at' v x235)) 51, .blk b2 [rI .i64 (max x236.fDepth ((x233.length : Int) + 1)), rI .i64 (IntKind.wrap .i64 (x236.fBytes + r516)), rB (x236.fOutside || ((decide (((at' v x235).fKind) = 3)) && (!(ov (nValid ((at' v x235).fInt)))))), rB x236.fLong] 89, .blk b1 [rI .i64 0, rI .i64 0, rB false, rB false] 89, .row v234 115 5 (List.map eTValueOpen x233)]) (by simp only [c521, c522, Bool.true_and, Bool.false_and, Bool.true_or, Bool.false_or, Bool.and_true, Bool.and_false, Bool.or_true, Bool.or_false, Bool.not_true, Bool.not_false, cond_true, cond_false]) ?_))))))))))
         exact wt
      refine wc_seq_mid [(0, rSl 4 (List.map eTApiCell v)), (3, rP b1 0), (5, rP b2 0), (6, rv v234), (7, rI .i64 x235), (8, rP b473 0), (11, rSl 4 (List.map eTApiCell v)), (12, rI .i64 (v.length : Int)), (13, rI .i64 x235), (92, rP b2 1), (93, rI .i64 x236.fBytes), (94, rAgg (eTApiCell (at' v x235))), (95, rI .i64 r516), (96, rI .i64 (IntKind.wrap .i64 (x236.fBytes + r516))), (97, rP b2 1)] [.blk b473 (eTApiCell (at' v x235)) 51, .blk b2 [rI .i64 (max x236.fDepth ((x233.length : Int) + 1)), rI .i64 (IntKind.wrap .i64 (x236.fBytes + r516)), rB (x236.fOutside || ((decide (((at' v x235).fKind) = 3)) && (!(ov (nValid ((at' v x235).fInt)))))), rB (x236.fLong || (decide (200 < (((at' v x235).fStr).length : Int))))] 89, .blk b1 [rI .i64 0, rI .i64 0, rB false, rB false] 89, .row v234 115 5 (List.map eTValueOpen x233)] ?_ ?_
      ·refine wc_region (vF yu89 rfl ys4 (vL 1 ya4 rfl (wm rfl (bsplit (x236.fLong) (fun c523 => ?_) (fun c523 => ?_)))))
       ·refine wf c523 (wf c523 (wf c523 (wf c523 (wv (r := rB true) (o_pick_t rfl c523 rfl) (vF yu89 rfl ys4 (u_store (i := 1) ys4 rfl rfl (one_c rfl) rfl rfl (cs' := [rI .i64 (max x236.fDepth ((x233.length : Int) + 1)), rI .i64 (IntKind.wrap .i64 (x236.fBytes + r516)), rB (x236.fOutside || ((decide (((at' v x235).fKind) = 3)) && (!(ov (nValid ((at' v x235).fInt)))))), rB true]) rfl (H' := [.blk b473 (eTApiCell (at' v x235)) 51, .blk b2 [rI .i64 (max x236.fDepth ((x233.length : Int) + 1)), rI .i64 (IntKind.wrap .i64 (x236.fBytes + r516)), rB (x236.fOutside || ((decide (((at' v x235).fKind) = 3)) && (!(ov (nValid ((at' v x235).fInt)))))), rB true] 89, .blk b1 [rI .i64 0, rI .i64 0, rB false, rB false] 89, .row v234 115 5 (List.map eTValueOpen x233)]) rfl (wl_nil (wk_asH (H' := [.blk b473 (eTApiCell (at' v x235)) 51, .blk b2 [rI .i64 (max x236.fDepth ((x233.length : Int) + 1)), rI .i64 (IntKind.wrap .i64 (x236.fBytes + r516)), rB (x236.fOutside || ((decide (((at' v x235).fKind) = 3)) && (!(ov (nValid ((at' v x235).fInt)))))), rB (x236.fLong || (decide (200 < (((at' v x235).fStr).length : Int))))] 89, .blk b1 [rI .i64 0, rI .i64 0, rB false, rB false] 89, .row v234 115 5 (List.map eTValueOpen x233)]) (by simp only [c523, Bool.true_and, Bool.false_and, Bool.true_or, Bool.false_or, Bool.and_true, Bool.and_false, Bool.or_true, Bool.or_false, Bool.not_true, Bool.not_false, cond_true, cond_false]) ?_))))))))
        exact wt
       ·refine wo c523 (vF yu51 rfl ys9 (wo c523 (vL 0 ya9 rfl (wo c523 (wv (o_len_s yu9 rfl) (wo c523 (wv (o_gt rfl rfl) (wpf rfl c523 rfl (vF yu89 rfl ys4 (u_store (i := 1) ys4 rfl rfl (one_c rfl) rfl rfl (cs' := [rI .i64 (max x236.fDepth ((x233.length : Int) + 1)), rI .i64 (IntKind.wrap .i64 (x236.fBytes + r516)), rB (x236.fOutside || ((decide (((at' v x235).fKind) = 3)) && (!(ov (nValid ((at' v x235).fInt)))))), rB (decide (200 < (((at' v x235).fStr).length : Int)))]) rfl (H' := [.blk b473 (eTApiCell (at' v x235)) 51, .blk b2 [rI .i64 (max x236.fDepth ((x233.length : Int) + 1)), rI .i64 (IntKind.wrap .i64 (x236.fBytes + r516)), rB (x236.fOutside || ((decide (((at' v x235).fKind) = 3)) && (!(ov (nValid ((at' v x235).fInt)))))), rB (decide (200 < (((at' v x235).fStr).length : Int)))] 89, .blk b1 [rI .i64 0, rI .i64 0, rB false, rB false] 89, .row v234 115 5 (List.map eTValueOpen x233)]) rfl (wl_nil (wk_asH (H' := [.blk b473 (eTApiCell (at' v x235)) 51, .blk b2 [rI .i64 (max x236.fDepth ((x233.length : Int) + 1)), rI .i64 (IntKind.wrap .i64 (x236.fBytes + r516)), rB (x236.fOutside || ((decide (((at' v x235).fKind) = 3)) && (!(ov (nValid ((at' v x235).fInt)))))), rB (x236.fLong || (decide (200 < (((at' v x235).fStr).length : Int))))] 89, .blk b1 [rI .i64 0, rI .i64 0, rB false, rB false] 89, .row v234 115 5 (List.map eTValueOpen x233)]) (by simp only [c523, Bool.true_and, Bool.false_and, Bool.true_or, Bool.false_or, Bool.and_true, Bool.and_false, Bool.or_true, Bool.or_false, Bool.not_true, Bool.not_false, cond_true, cond_false]) ?_))))))))))))
        exact wt
      refine wc_seq (wc_sr (vF yu51 rfl ys3 (vL 0 ya3 rfl (wv (o_gt rfl rfl) (wl_x (cz h520 rfl (fun c524 h525 => ?_) (fun c524 h534 => ?_)))))))
      ·refine wc_seq (wc_sr (vF yu51 rfl ys3 (vL 0 ya3 rfl (wm rfl (wv (o_len_zt (ys := v) (enc := eTApiCell) yu23 rfl) (wv (o_gt rfl rfl) (wl_x (cz h525 rfl (fun c526 h527 => ?_) (fun c526 h529 => ?_)))))))))
       ·refine wc_seq (wc_rdk (H1 := [.blk b473 (eTApiCell (at' v x235)) 51, .blk b2 [rI .i64 (max x236.fDepth ((x233.length : Int) + 1)), rI .i64 (IntKind.wrap .i64 (x236.fBytes + r516)), rB (x236.fOutside || ((decide (((at' v x235).fKind) = 3)) && (!(ov (nValid ((at' v x235).fInt)))))), rB (x236.fLong || (decide (200 < (((at' v x235).fStr).length : Int))))] 89, .blk b1 [rI .i64 (max x236.fDepth ((x233.length : Int) + 1)), rI .i64 (IntKind.wrap .i64 (x236.fBytes + r516)), rB (x236.fOutside || ((decide (((at' v x235).fKind) = 3)) && (!(ov (nValid ((at' v x235).fInt)))))), rB (x236.fLong || (decide (200 < (((at' v x235).fStr).length : Int))))] 89, .row v234 115 5 (List.map eTValueOpen x233)]) [3, 5] [⟨[], rAgg [rI .i64 (max x236.fDepth ((x233.length : Int) + 1)), rI .i64 (IntKind.wrap .i64 (x236.fBytes + r516)), rB (x236.fOutside || ((decide (((at' v x235).fKind) = 3)) && (!(ov (nValid ((at' v x235).fInt)))))), rB (x236.fLong || (decide (200 < (((at' v x235).fStr).length : Int))))], 1⟩, ⟨[], rI .i64 0, 0⟩, ⟨[0], rv undef, 2⟩, ⟨[], rB false, 0⟩] (rle [(3, _), (2, [.blk b473 (eTApiCell (at' v x235)) 51, .blk b2 [rI .i64 (max x236.fDepth ((x233.length : Int) + 1)), rI .i64 (IntKind.wrap .i64 (x236.fBytes + r516)), rB (x236.fOutside || ((decide (((at' v x235).fKind) = 3)) && (!(ov (nValid ((at' v x235).fInt)))))), rB (x236.fLong || (decide (200 < (((at' v x235).fStr).length : Int))))] 89, .blk b1 [rI .i64 (max x236.fDepth ((x233.length : Int) + 1)), rI .i64 (IntKind.wrap .i64 (x236.fBytes + r516)), rB (x236.fOutside || ((decide (((at' v x235).fKind) = 3)) && (!(ov (nValid ((at' v x235).fInt)))))), rB (x236.fLong || (decide (200 < (((at' v x235).fStr).length : Int))))] 89, .row v234 115 5 (List.map eTValueOpen x233)])]) [2, 4, 3] ?_ ?_)
        ·refine of (o_load_agg (i := 1) ya89 ys89 rfl rfl rfl rfl) (oq (o_assign rfl) (obl_l rfl (ok_u (U_u_store_agg (i := 2) ys89 rfl rfl rfl (OneAll.c rfl) rfl rfl (cs' := [rI .i64 (max x236.fDepth ((x233.length : Int) + 1)), rI .i64 (IntKind.wrap .i64 (x236.fBytes + r516)), rB (x236.fOutside || ((decide (((at' v x235).fKind) = 3)) && (!(ov (nValid ((at' v x235).fInt)))))), rB (x236.fLong || (decide (200 < (((at' v x235).fStr).length : Int))))]) rfl (H' := [.blk b473 (eTApiCell (at' v x235)) 51, .blk b2 [rI .i64 (max x236.fDepth ((x233.length : Int) + 1)), rI .i64 (IntKind.wrap .i64 (x236.fBytes + r516)), rB (x236.fOutside || ((decide (((at' v x235).fKind) = 3)) && (!(ov (nValid ((at' v x235).fInt)))))), rB (x236.fLong || (decide (200 < (((at' v x235).fStr).length : Int))))] 89, .blk b1 [rI .i64 (max x236.fDepth ((x233.length : Int) + 1)), rI .i64 (IntKind.wrap .i64 (x236.fBytes + r516)), rB (x236.fOutside || ((decide (((at' v x235).fKind) = 3)) && (!(ov (nValid ((at' v x235).fInt)))))), rB (x236.fLong || (decide (200 < (((at' v x235).fStr).length : Int))))] 89, .row v234 115 5 (List.map eTValueOpen x233)]) rfl)) ?_))
         refine oq (o_assign rfl) ?_
         exact obl_e
        refine wk_x (wc_ret (wk_then_ret (wk_then_ret (wk_in_ret (wk_then_ret (wk_then_ret (wk_cut_ret ?_)))))))
        have h528 := stp_ret h527 ht391 hK389
        refine wk_in_ret (wk_then_ret (wk_ng_r ?_))
        obtain rfl := some_e h528
        exact wk_ret (r_3 yr75 (rv_t rfl) (rv_ca (i := 2) ya89 ys89 rfl rfl rfl) (rv_t rfl)) (sS (sS (sS (sS sN)))) ⟨rfl, rfl⟩
       ·refine wc_skip (wk_x (wc_sr (wm rfl (vF yu51 rfl ys49 (vL 0 ya49 rfl (wv (o_eq rfl rfl) (vF yu51 rfl ys3 (vL 0 ya3 rfl (vF yu51 rfl ys49 (vL 0 ya49 rfl (wv (o_eq rfl rfl) (wv (r := rAgg [rB (decide (((at' v x235).fKind) = 6)), rI .i64 ((at' v x235).fN), rB (decide (((at' v x235).fKind) = 6)), rS ([] : Str), rB false]) (o_build115_0_1_2 rfl rfl rfl rfl rfl rfl) (w_buildSlice (ys := ([(TValueOpen.mk (decide (((at' v x235).fKind) = 6)) ((at' v x235).fN) (decide (((at' v x235).fKind) = 6)) ([] : Str) false)] : List TValueOpen)) (enc := eTValueOpen) (css := [[rB (decide (((at' v x235).fKind) = 6)), rI .i64 ((at' v x235).fN), rB (decide (((at' v x235).fKind) = 6)), rS ([] : Str), rB false]]) (xs := [.tmp 139]) yu112 ys115 Tryz.zeroValue115 rfl rfl rfl ⟨Cel.agg ⟨Up.refl _, Up.refl _, Up.refl _, Up.refl _, Up.refl _, trivial⟩, trivial⟩ rfl eTValueOpen_len rfl rfl rfl (fun b530 => ?_))))))))))))))
        refine ck h529 fun g532 h533 => Exists.elim info115 fun inf hinf => w_append (xs := x233) (ys := ([(TValueOpen.mk (decide (((at' v x235).fKind) = 6)) ((at' v x235).fN) (decide (((at' v x235).fKind) = 6)) ([] : Str) false)] : List TValueOpen)) (enc := eTValueOpen) (i := 4) yu112 hinf.1 hinf.2.1 hinf.2.2.1 hinf.2.2.2 rfl rfl rfl rfl rfl (Src.w (i := 0) rfl rfl) eTValueOpen_len eTValueOpen_one g532 rfl (fun v531 => ?_)
        exact wa rfl (wl_x (wc_exit (wk_then_exit (wk_in_hit (wk_perm (H2 := [.blk b2 [rI .i64 (max x236.fDepth ((x233.length : Int) + 1)), rI .i64 (IntKind.wrap .i64 (x236.fBytes + r516)), rB (x236.fOutside || ((decide (((at' v x235).fKind) = 3)) && (!(ov (nValid ((at' v x235).fInt)))))), rB (x236.fLong || (decide (200 < (((at' v x235).fStr).length : Int))))] 89, .blk b1 [rI .i64 0, rI .i64 0, rB false, rB false] 89, .row v531 115 5 (List.map eTValueOpen (x233 ++ ([(TValueOpen.mk (decide (((at' v x235).fKind) = 6)) ((at' v x235).fN) (decide (((at' v x235).fKind) = 6)) ([] : Str) false)] : List TValueOpen))), .row (.slice (some ⟨b530, 0, none⟩) 1 1) 115 5 (List.map eTValueOpen ([(TValueOpen.mk (decide (((at' v x235).fKind) = 6)) ((at' v x235).fN) (decide (((at' v x235).fKind) = 6)) ([] : Str) false)] : List TValueOpen)), .blk b473 (eTApiCell (at' v x235)) 51]) ((perm_front (i := 3) rfl).trans (List.Perm.cons _ ((perm_front (i := 3) rfl).trans (List.Perm.cons _ (List.Perm.refl _))))) (wk_then (wk_some ((x233 ++ ([(TValueOpen.mk (decide (((at' v x235).fKind) = 6)) ((at' v x235).fN) (decide (((at' v x235).fKind) = 6)) ([] : Str) false)] : List TValueOpen), (TValueShape.mk (max x236.fDepth ((x233.length : Int) + 1)) (IntKind.wrap .i64 (x236.fBytes + r516)) (x236.fOutside || ((decide (((at' v x235).fKind) = 3)) && (!(ov (nValid ((at' v x235).fInt)))))) (x236.fLong || (decide (200 < (((at' v x235).fStr).length : Int)))))), v531) h533 (Sub.c rfl (Sub.c rfl (Sub.c5 rfl rfl rfl rfl rfl Sub.nil))) (sC (sC (sC (sS (sS sN))))))))))))
      ·refine wc_skip (wk_x (wc_sr (wm rfl (ob h534 fun r535 e537 h536 => wcl (Hr := [.blk b473 (eTApiCell (at' v x235)) 51, .blk b2 [rI .i64 (max x236.fDepth ((x233.length : Int) + 1)), rI .i64 (IntKind.wrap .i64 (x236.fBytes + r516)), rB (x236.fOutside || ((decide (((at' v x235).fKind) = 3)) && (!(ov (nValid ((at' v x235).fInt)))))), rB (x236.fLong || (decide (200 < (((at' v x235).fStr).length : Int))))] 89, .blk b1 [rI .i64 0, rI .i64 0, rB false, rB false] 89]) Tryz.call111 (vClosed_w F v234 x233 r535 e537) rfl ((perm_front (i := 3) rfl).trans (List.Perm.cons _ (List.Perm.refl _))) rfl ?_))))
       rintro _ _ ⟨v538, rfl, rfl⟩
       refine wa rfl (wl_y (wm rfl (wv (o_len_wt (ys := r535) (enc := eTValueOpen) (i := 0) yu112 rfl rfl) (wv (o_eq rfl rfl) (wl_x (cz h536 rfl (fun c539 h540 => ?_) (fun c539 h544 => ?_)))))))
       ·refine wc_seq (ck h540 fun g541 h542 => wc_rdk (H1 := [.row v538 115 5 (List.map eTValueOpen r535), .blk b473 (eTApiCell (at' v x235)) 51, .blk b2 [rI .i64 (max x236.fDepth ((x233.length : Int) + 1)), rI .i64 (IntKind.wrap .i64 (x236.fBytes + r516)), rB (x236.fOutside || ((decide (((at' v x235).fKind) = 3)) && (!(ov (nValid ((at' v x235).fInt)))))), rB (x236.fLong || (decide (200 < (((at' v x235).fStr).length : Int))))] 89, .blk b1 [rI .i64 (max x236.fDepth ((x233.length : Int) + 1)), rI .i64 (IntKind.wrap .i64 (x236.fBytes + r516)), rB (x236.fOutside || ((decide (((at' v x235).fKind) = 3)) && (!(ov (nValid ((at' v x235).fInt)))))), rB (x236.fLong || (decide (200 < (((at' v x235).fStr).length : Int))))] 89]) [3, 5, 7] [⟨[], rI .i64 x235, 0⟩, ⟨[0], rI .i64 (x235 + 1), 0⟩, ⟨[], rAgg [rI .i64 (max x236.fDepth ((x233.length : Int) + 1)), rI .i64 (IntKind.wrap .i64 (x236.fBytes + r516)), rB (x236.fOutside || ((decide (((at' v x235).fKind) = 3)) && (!(ov (nValid ((at' v x235).fInt)))))), rB (x236.fLong || (decide (200 < (((at' v x235).fStr).length : Int))))], 1⟩, ⟨[1], rI .i64 (x235 + 1), 0⟩, ⟨[2], rv undef, 2⟩, ⟨[], rB true, 0⟩] (rle [(5, _), (2, [.row v538 115 5 (List.map eTValueOpen r535), .blk b473 (eTApiCell (at' v x235)) 51, .blk b2 [rI .i64 (max x236.fDepth ((x233.length : Int) + 1)), rI .i64 (IntKind.wrap .i64 (x236.fBytes + r516)), rB (x236.fOutside || ((decide (((at' v x235).fKind) = 3)) && (!(ov (nValid ((at' v x235).fInt)))))), rB (x236.fLong || (decide (200 < (((at' v x235).fStr).length : Int))))] 89, .blk b1 [rI .i64 (max x236.fDepth ((x233.length : Int) + 1)), rI .i64 (IntKind.wrap .i64 (x236.fBytes + r516)), rB (x236.fOutside || ((decide (((at' v x235).fKind) = 3)) && (!(ov (nValid ((at' v x235).fInt)))))), rB (x236.fLong || (decide (200 < (((at' v x235).fStr).length : Int))))] 89])]) [2, 4, 3] ?_ ?_)
        ·refine oq (o_move rfl) (oq (o_add rfl rfl g541) (of (o_load_agg (i := 2) ya89 ys89 rfl rfl rfl rfl) (oq (o_assign rfl) (obl_l rfl (ok_u (U_u_store_agg (i := 3) ys89 rfl rfl rfl (OneAll.c rfl) rfl rfl (cs' := [rI .i64 (max x236.fDepth ((x233.length : Int) + 1)), rI .i64 (IntKind.wrap .i64 (x236.fBytes + r516)), rB (x236.fOutside || ((decide (((at' v x235).fKind) = 3)) && (!(ov (nValid ((at' v x235).fInt)))))), rB (x236.fLong || (decide (200 < (((at' v x235).fStr).length : Int))))]) rfl (H' := [.row v538 115 5 (List.map eTValueOpen r535), .blk b473 (eTApiCell (at' v x235)) 51, .blk b2 [rI .i64 (max x236.fDepth ((x233.length : Int) + 1)), rI .i64 (IntKind.wrap .i64 (x236.fBytes + r516)), rB (x236.fOutside || ((decide (((at' v x235).fKind) = 3)) && (!(ov (nValid ((at' v x235).fInt)))))), rB (x236.fLong || (decide (200 < (((at' v x235).fStr).length : Int))))] 89, .blk b1 [rI .i64 (max x236.fDepth ((x233.length : Int) + 1)), rI .i64 (IntKind.wrap .i64 (x236.fBytes + r516)), rB (x236.fOutside || ((decide (((at' v x235).fKind) = 3)) && (!(ov (nValid ((at' v x235).fInt)))))), rB (x236.fLong || (decide (200 < (((at' v x235).fStr).length : Int))))] 89]) rfl)) ?_))))
         refine oq (o_assign rfl) ?_
         exact obl_e
        refine wk_x (wc_ret (wk_in_ret (wk_then_ret (wk_then_ret (wk_cut_ret ?_)))))
        have h543 := stp_ret h542 ht391 hK389
        refine wk_in_ret (wk_then_ret (wk_ng_r ?_))
        obtain rfl := some_e h543
        exact wk_ret (r_3 yr75 (rv_t rfl) (rv_ca (i := 3) ya89 ys89 rfl rfl rfl) (rv_t rfl)) (sS (sS (sS (sS sN)))) ⟨rfl, rfl⟩
       ·exact wc_skip (wk_in_norm (wk_perm (H2 := [.blk b2 [rI .i64 (max x236.fDepth ((x233.length : Int) + 1)), rI .i64 (IntKind.wrap .i64 (x236.fBytes + r516)), rB (x236.fOutside || ((decide (((at' v x235).fKind) = 3)) && (!(ov (nValid ((at' v x235).fInt)))))), rB (x236.fLong || (decide (200 < (((at' v x235).fStr).length : Int))))] 89, .blk b1 [rI .i64 0, rI .i64 0, rB false, rB false] 89, .row v538 115 5 (List.map eTValueOpen r535), .blk b473 (eTApiCell (at' v x235)) 51]) ((perm_front (i := 2) rfl).trans (List.Perm.cons _ ((perm_front (i := 2) rfl).trans (List.Perm.cons _ (List.Perm.refl _))))) (wk_then (wk_some ((r535, (TValueShape.mk (max x236.fDepth ((x233.length : Int) + 1)) (IntKind.wrap .i64 (x236.fBytes + r516)) (x236.fOutside || ((decide (((at' v x235).fKind) = 3)) && (!(ov (nValid ((at' v x235).fInt)))))) (x236.fLong || (decide (200 < (((at' v x235).fStr).length : Int)))))), v538) h544 (Sub.c rfl (Sub.c rfl (Sub.c5 rfl rfl rfl rfl rfl Sub.nil))) (sC (sC (sC (sS sN))))))))
   ·rintro ⟨⟨x468, x470⟩, v469⟩ h545
    refine wc_as (l' := [(0, rSl 4 (List.map eTApiCell v)), (3, rP b1 0), (5, rP b2 0), (6, rv v469), (11, rSl 4 (List.map eTApiCell v)), (12, rI .i64 (v.length : Int)), (13, rI .i64 x235)]) (H' := [.blk b2 (eTValueShape x470) 89, .blk b1 [rI .i64 0, rI .i64 0, rB false, rB false] 89, .row v469 115 5 (List.map eTValueOpen x468)]) rfl rfl ?_
    replace h545 : vLook_j2 x235 x468 x470 = some t390 := h545
    unfold vLook_j2 at h545
    refine wc_region (ck h545 fun g546 h547 => wv (o_add rfl rfl g546) (wm rfl (wl_nil ?_)))
    have h548 := stp_next h547 ht391
    exact wk_then (wk_some (m392, (x468, x235 + 1, x470), v469) ⟨h548, Nat.lt_succ_self _⟩ (Sub.c rfl (Sub.c rfl (Sub.c5 rfl rfl rfl rfl rfl Sub.nil))) (sC (sC (sC sN))))
  ·refine wc_exit (wk_then_exit ?_)
   have h550 := stp_go h549 ht391 hK389
   exact wk_then_exit (wk_cut_hit (wk_some (x236, ()) h550 (Sub.c rfl (Sub.c rfl Sub.nil)) (sC (sC (sS sN)))))
 ·rintro ⟨x386, ⟨⟩⟩ h551
  refine wk_as (l' := [(3, rP b1 0), (5, rP b2 0)]) (H' := [.blk b2 (eTValueShape x386) 89, .blk b1 [rI .i64 0, rI .i64 0, rB false, rB false] 89]) rfl rfl ?_
  replace h551 : vLook_k1 x386 = some r := h551
  unfold vLook_k1 at h551
  refine wk_in_hit (wk_x (wc_seq (wc_rdk (H1 := [.blk b2 (eTValueShape x386) 89, .blk b1 (eTValueShape x386) 89]) [3, 5] [⟨[], rAgg (eTValueShape x386), 1⟩, ⟨[], rI .i64 0, 0⟩, ⟨[0], rv undef, 2⟩, ⟨[], rB false, 0⟩] (rle [(3, _), (2, [.blk b2 (eTValueShape x386) 89, .blk b1 (eTValueShape x386) 89])]) [2, 4, 3] ?_ ?_)))
  ·refine of (o_load_agg (i := 0) ya89 ys89 rfl rfl rfl rfl) (oq (o_assign rfl) (obl_l rfl (ok_u (U_u_store_agg (i := 1) ys89 rfl rfl rfl (OneAll.c rfl) rfl rfl (cs' := [rI .i64 x386.fDepth, rI .i64 x386.fBytes, rB x386.fOutside, rB x386.fLong]) rfl (H' := [.blk b2 (eTValueShape x386) 89, .blk b1 (eTValueShape x386) 89]) rfl)) ?_))
   refine oq (o_assign rfl) ?_
   exact obl_e
  refine wk_x (wc_ret (wk_ng_r ?_))
  obtain rfl := some_e h551
  exact wk_ret (r_3 yr75 (rv_t rfl) (rv_ca (i := 1) ya89 ys89 rfl rfl rfl) (rv_t rfl)) (sS (sS sN)) ⟨rfl, rfl⟩

theorem vCheck_w (F : Nat) (v : (List TApiCell)) (r : Int) (h : vCheck F v = some r) : Fn Tryz.prog GE 54 [rSl 4 (List.map eTApiCell v)] [] (fun R H => R = rI .i64 r ∧ H = []) := by
 refine enter (n := 42) Tryz.func54 rfl Tryz.ntmps54 rfl (fun w Z => ?_)
 unfold vCheck at h
 refine wc_sr (wa rfl (wl_y (wm rfl (ob h fun r1 e3 h2 => wc0 Tryz.call75 (vLook_w F v r1 e3) rfl (wm rfl (wv (o_extract rfl rfl) (wv (o_extract rfl rfl) (wv (o_extract rfl rfl) (w_alloc (cs := [rI .i64 0, rI .i64 0, rB false, rB false]) yz89 rfl rfl (fun b4 => ?_))))))))))
 refine wa rfl (u_store_agg (i := 0) ys89 rfl rfl rfl (OneAll.c rfl) rfl rfl (cs' := [rI .i64 r1.2.1.fDepth, rI .i64 r1.2.1.fBytes, rB r1.2.1.fOutside, rB r1.2.1.fLong]) rfl (H' := [.blk b4 (eTValueShape r1.2.1) 89]) rfl (wa rfl (wl_x (wc_seq (wc_block (wc_seq_mid [(0, rSl 4 (List.map eTApiCell v)), (4, rP b4 0), (12, rB ((!r1.2.2) || (!decide (r1.1 = (v.length : Int)))))] [.blk b4 (eTValueShape r1.2.1) 89] ?_ ?_))))))
 ·refine wc_region (wm rfl (wv (o_not rfl) (wm rfl (bsplit (!r1.2.2) (fun c5 => ?_) (fun c5 => ?_)))))
  ·refine wf c5 (wf c5 (wf c5 (wf c5 (wv (r := rB true) (o_pick_t rfl c5 rfl) (wa rfl (wl_nil ?_))))))
   exact wtc c5
  ·refine wo c5 (wm rfl (wo c5 (wm rfl (wo c5 (wv (o_len_zt (ys := v) (enc := eTApiCell) yu23 rfl) (wo c5 (wv (o_ne rfl rfl) (wpf rfl c5 rfl (wa rfl (wl_nil ?_))))))))))
   exact wtc c5
 refine cz h2 rfl (fun c6 h7 => ?_) (fun c6 h8 => ?_)
 ·refine wc_sr (wa rfl (wl_x (wc_ret (wk_in_ret (wk_then_ret ?_)))))
  obtain rfl := some_e h7
  exact wk_ret (r_1 yr54 (rv_t rfl)) (sS sN) ⟨rfl, rfl⟩
 ·refine wc_sr (vF yu89 rfl ys4 (vL 0 ya4 rfl (wa rfl (wl_x (cz h8 rfl (fun c9 h10 => ?_) (fun c9 h11 => ?_))))))
  ·refine wc_sr (wa rfl (wl_x (wc_ret (wk_in_ret (wk_then_ret ?_)))))
   obtain rfl := some_e h10
   exact wk_ret (r_1 yr54 (rv_t rfl)) (sS sN) ⟨rfl, rfl⟩
  ·refine wc_seq_mid [(24, rB (r1.2.1.fLong || ((decide (200 < (v.length : Int))) || ((decide (8 < r1.2.1.fDepth)) || (decide (4000 < r1.2.1.fBytes))))))] [] ?_ ?_
   ·refine wc_region (vF yu89 rfl ys4 (vL 0 ya4 rfl (wm rfl (bsplit (r1.2.1.fLong) (fun c12 => ?_) (fun c12 => ?_)))))
    ·refine wf c12 (wf c12 (wf c12 (wv (r := rB true) (o_pick_t rfl c12 rfl) (wm rfl (wz rfl rfl (wz rfl rfl (wz rfl rfl (wv (r := rB true) (o_pick_t (b := true) rfl rfl rfl) (wm rfl (wz rfl rfl (wz rfl rfl (wz rfl rfl (wv (r := rB true) (o_pick_t (b := true) rfl rfl rfl) (wa rfl (wl_nil ?_)))))))))))))))
     exact wtc c12
    ·refine wo c12 (wm rfl (wo c12 (wv (o_len_zt (ys := v) (enc := eTApiCell) yu23 rfl) (wo c12 (wv (o_gt rfl rfl) (wpf rfl c12 rfl (wm rfl (bsplit (decide (200 < (v.length : Int))) (fun c13 => ?_) (fun c13 => ?_)))))))))
     ·refine wf c13 (wf c13 (wf c13 (wv (r := rB true) (o_pick_t rfl c13 rfl) (wm rfl (wz rfl rfl (wz rfl rfl (wz rfl rfl (wv (r := rB true) (o_pick_t (b := true) rfl rfl rfl) (wa rfl (wl_nil ?_))))))))))
      exact wtc (And.intro c12 c13)
     ·refine wo c13 (vF yu89 rfl ys3 (wo c13 (vL 0 ya3 rfl (wo c13 (wv (o_gt rfl rfl) (wpf rfl c13 rfl (wm rfl (bsplit (decide (8 < r1.2.1.fDepth)) (fun c14 => ?_) (fun c14 => ?_)))))))))
      ·refine wf c14 (wf c14 (wf c14 (wv (r := rB true) (o_pick_t rfl c14 rfl) (wa rfl (wl_nil ?_)))))
       exact wtc (And.intro c12 (And.intro c13 c14))
      ·refine wo c14 (vF yu89 rfl ys3 (wo c14 (vL 0 ya3 rfl (wo c14 (wv (o_gt rfl rfl) (wpf rfl c14 rfl (wa rfl (wl_nil ?_))))))))
       exact wtc (And.intro c12 (And.intro c13 c14))
   refine cz h11 rfl (fun c15 h16 => ?_) (fun c15 h17 => ?_)
   ·refine wc_sr (wa rfl (wl_x (wc_ret (wk_in_ret (wk_then_ret ?_)))))
    obtain rfl := some_e h16
    exact wk_ret (r_1 yr54 (rv_t rfl)) sN ⟨rfl, rfl⟩
   ·refine wc_skip (wk_in_norm (wk_x (wc_sr (wa rfl (wl_x (wc_ret ?_))))))
    obtain rfl := some_e h17
    exact wk_ret (r_1 yr54 (rv_t rfl)) sN ⟨rfl, rfl⟩

theorem vChecked_w (F : Nat) (v : (List TApiCell)) (r : (List TApiCell) × Int) (h : vChecked F v = some r) : Fn Tryz.prog GE 61 [rSl 4 (List.map eTApiCell v)] [] (fun R H => R = rTup [rSl 4 (List.map eTApiCell r.1), rI .i64 r.2] ∧ H = []) := by
 refine enter (n := 11) Tryz.func61 rfl Tryz.ntmps61 rfl (fun w Z => ?_)
 unfold vChecked at h
 refine wc_sr (wa rfl (wa rfl (wl_x (wc_seq (wc_sr (wm rfl (ob h fun r1 e3 h2 => wc0 Tryz.call54 (vCheck_w F v r1 e3) rfl (wa rfl (wl_y (wm rfl (wv (o_ne rfl rfl) (wl_x (cz h2 rfl (fun c4 h5 => ?_) (fun c4 h6 => ?_))))))))))))))
 ·refine wc_sr (wm rfl (wa rfl (wa rfl (wl_x (wc_ret (wk_then_ret (WK.up (d := 2) (r := rSl 4 (List.map eTApiCell ([] : List TApiCell))) rfl (Up.le (Rle.nil _)) ?_)))))))
  obtain rfl := some_e h5
  exact wk_ret (r_2 Tryz.results61 (rv_t rfl) (rv_t rfl)) sN ⟨rfl, rfl⟩
 ·refine wc_skip (wk_x (wc_sr (wm rfl (wa rfl (wa rfl (wl_x (wc_ret ?_)))))))
  obtain rfl := some_e h6
  exact wk_ret (r_2 Tryz.results61 (rv_t rfl) (rv_t rfl)) sN ⟨rfl, rfl⟩

end Go.Proofs.YtpmiamphppcfeaaGreatDoor.Q

/-
 What functions compute, with checks: plain definitions, printed by a small program of ours (gq.py). No program in sight.
-/
namespace Go.Proofs.YtpmiamphppcfeaaGreatDoor
open Go
set_option linter.unusedVariables false
def vQuote_b1 (s : Str) (x82 : Int) (x83 : Str) : Option (Stp (Int × Str) (Out (Str) (Str))) :=
 cnd (decide (x82 < (s.length : Int))) (chk (inR x82 (s.length : Int)) <| cnd (((decide ((bat s x82) = 34)) || (decide ((bat s x82) = 92)))) (chk (inA 1 (x83.length + 1)) <| chk (inK .u8 92) <| bnd (x83 ++ [UInt8.ofNat (Int.toNat 92)]) fun r145 => chk (inA 1 (r145.length + 1)) <| chk (inK .u8 (bat s x82)) <| bnd (r145 ++ [UInt8.ofNat (Int.toNat (bat s x82))]) fun r153 => chk (inK .i64 (x82 + 1)) <| some (.next (x82 + 1, r153))) (chk (inA 1 (x83.length + 1)) <| chk (inK .u8 (bat s x82)) <| bnd (x83 ++ [UInt8.ofNat (Int.toNat (bat s x82))]) fun r165 => chk (inK .i64 (x82 + 1)) <| some (.next (x82 + 1, r165)))) (some (.out (.go x83)))

def vQuote_k1 (x122 : Str) : Option (Str) :=
 chk (inA 1 (x122.length + 1)) <| bnd (x122 ++ [UInt8.ofNat (Int.toNat 34)]) fun r177 => some r177

def vQuote (F : Nat) (l : Str) (s : Str) : Option (Str) :=
 chk (inA 1 (l.length + 1)) <| chk (inK .u8 34) <| bnd (l ++ [UInt8.ofNat (Int.toNat 34)]) fun r6 => obn (lop (fun σ => vQuote_b1 s σ.1 σ.2) F (0, r6)) (oute fun ν => vQuote_k1 ν)

def vWritem (F : Nat) (rec_vWriteF : Str → (List TApiCell) → Bool → Str → TApiCell → Option (Bool × Bool × Str)) (rec_vWriteP : (List TApiCell) → Bool → Str → TApiCell → Option (Bool × Str)) (l : Str) (v : (List TApiCell)) : Option (Str) :=
 chk (inR 0 (v.length : Int)) <| cnd (decide (((at' v 0).fKind) = 1)) (chk (inA 1 (l.length + ([110, 117, 108, 108] : Str).length)) <| bnd (l ++ ([110, 117, 108, 108] : Str)) fun r10 => some r10) (cnd (decide (((at' v 0).fKind) = 2)) (chk (inR ((at' v 0).fInt) (([([102, 97, 108, 115, 101] : Str), ([116, 114, 117, 101] : Str)] : List Str).length : Int)) <| chk (inA 1 (l.length + (at' ([([102, 97, 108, 115, 101] : Str), ([116, 114, 117, 101] : Str)] : List Str) ((at' v 0).fInt)).length)) <| bnd (l ++ (at' ([([102, 97, 108, 115, 101] : Str), ([116, 114, 117, 101] : Str)] : List Str) ((at' v 0).fInt))) fun r21 => some r21) (cnd (decide (((at' v 0).fKind) = 3)) (chk (inK .i64 ((at' v 0).fInt)) <| chk (inA 1 (l.length + (Lib.itoa ((at' v 0).fInt)).length)) <| bnd (l ++ (Lib.itoa ((at' v 0).fInt))) fun r32 => some r32) (cnd (decide (((at' v 0).fKind) = 4)) (obn (vQuote F l ((at' v 0).fStr)) fun r38 => some r38) (cnd (decide (((at' v 0).fKind) = 6)) (chk (inR 0 (([123, 125] : Str).length : Int)) <| chk (inA 1 (l.length + 1)) <| chk (inK .u8 (bat ([123, 125] : Str) 0)) <| bnd (l ++ [UInt8.ofNat (Int.toNat (bat ([123, 125] : Str) 0))]) fun r52 => obn (rec_vWriteP v true r52 (at' v 0)) fun r56 => chk (inR 1 (([123, 125] : Str).length : Int)) <| chk (inA 1 (r56.2.length + 1)) <| chk (inK .u8 (bat ([123, 125] : Str) 1)) <| bnd (r56.2 ++ [UInt8.ofNat (Int.toNat (bat ([123, 125] : Str) 1))]) fun r67 => some r67) (chk (inR 0 (([91, 93] : Str).length : Int)) <| chk (inA 1 (l.length + 1)) <| chk (inK .u8 (bat ([91, 93] : Str) 0)) <| bnd (l ++ [UInt8.ofNat (Int.toNat (bat ([91, 93] : Str) 0))]) fun r78 => obn (rec_vWriteP v true r78 (at' v 0)) fun r82 => chk (inR 1 (([91, 93] : Str).length : Int)) <| chk (inA 1 (r82.2.length + 1)) <| chk (inK .u8 (bat ([91, 93] : Str) 1)) <| bnd (r82.2 ++ [UInt8.ofNat (Int.toNat (bat ([91, 93] : Str) 1))]) fun r93 => some r93)))))

def vWriteFm (F : Nat) (rec_vWrite : Str → (List TApiCell) → Option (Str)) (key : Str) (x : (List TApiCell)) (first : Bool) (l : Str) (c : TApiCell) : Option (Bool × Bool × Str) :=
 cnd (!first) (chk (inA 1 (l.length + 1)) <| chk (inK .u8 44) <| bnd (l ++ [UInt8.ofNat (Int.toNat 44)]) fun r8 => cnd (decide (c.fKind = 6)) (obn (vQuote F r8 key) fun r13 => chk (inA 1 (r13.length + 1)) <| chk (inK .u8 58) <| bnd (r13 ++ [UInt8.ofNat (Int.toNat 58)]) fun r22 => obn (rec_vWrite r22 x) fun r25 => some (true, false, r25)) (obn (rec_vWrite r8 x) fun r30 => some (true, false, r30))) (cnd (decide (c.fKind = 6)) (obn (vQuote F l key) fun r37 => chk (inA 1 (r37.length + 1)) <| chk (inK .u8 58) <| bnd (r37 ++ [UInt8.ofNat (Int.toNat 58)]) fun r46 => obn (rec_vWrite r46 x) fun r49 => some (true, false, r49)) (obn (rec_vWrite l x) fun r54 => some (true, false, r54)))

def vWriteP_b1 (F : Nat) (v : (List TApiCell)) (c : TApiCell) (rec_vWriteF : Str → (List TApiCell) → Bool → Str → TApiCell → Option (Bool × Bool × Str)) (x106 : Int) (x107 : Int) (x108 : Bool) (x109 : Str) : Option (Stp (Int × Int × Bool × Str) (Out (Bool × Str) (Bool × Str))) :=
 cnd (decide (x107 < ((at' v 0).fN))) (cnd (decide (((at' v 0).fKind) = 6)) (chk (inR x106 (v.length : Int)) <| chk (inK .i64 (x106 + 1)) <| chk (inC (x106 + 1) (v.length : Int)) <| obn (vLook F (List.drop (Int.toNat (x106 + 1)) v)) fun r185 => chk (inK .i64 ((x106 + 1) + r185.1)) <| chk (inC (x106 + 1) ((x106 + 1) + r185.1)) <| chk (inC ((x106 + 1) + r185.1) (v.length : Int)) <| obn (rec_vWriteF ((at' v x106).fStr) (List.take (Int.toNat ((x106 + 1) + r185.1) - Int.toNat (x106 + 1)) (List.drop (Int.toNat (x106 + 1)) v)) x108 x109 c) fun r195 => cnd (!r195.1) (some (.out (.ret (r195.2.1, r195.2.2)))) (chk (inK .i64 (x107 + 1)) <| some (.next ((x106 + 1) + r185.1, x107 + 1, r195.2.1, r195.2.2)))) (chk (inC x106 (v.length : Int)) <| obn (vLook F (List.drop (Int.toNat x106) v)) fun r209 => chk (inK .i64 (x106 + r209.1)) <| chk (inC x106 (x106 + r209.1)) <| chk (inC (x106 + r209.1) (v.length : Int)) <| obn (rec_vWriteF ([] : Str) (List.take (Int.toNat (x106 + r209.1) - Int.toNat x106) (List.drop (Int.toNat x106) v)) x108 x109 c) fun r219 => cnd (!r219.1) (some (.out (.ret (r219.2.1, r219.2.2)))) (chk (inK .i64 (x107 + 1)) <| some (.next (x106 + r209.1, x107 + 1, r219.2.1, r219.2.2))))) (some (.out (.go (x108, x109))))

def vWriteP_k1 (x163 : Bool) (x164 : Str) : Option (Bool × Str) :=
 some (x163, x164)

def vWritePm (F : Nat) (rec_vWriteF : Str → (List TApiCell) → Bool → Str → TApiCell → Option (Bool × Bool × Str)) (v : (List TApiCell)) (first : Bool) (l : Str) (c : TApiCell) : Option (Bool × Str) :=
 chk (inR 0 (v.length : Int)) <| obn (lop (fun σ => vWriteP_b1 F v c rec_vWriteF σ.1 σ.2.1 σ.2.2.1 σ.2.2.2) F (1, 0, first, l)) (oute fun ν => vWriteP_k1 ν.1 ν.2)

mutual
def vWrite : Nat → Str → (List TApiCell) → Option (Str)
 | 0, _, _ => none
 | nn + 1, l, v => vWritem nn (vWriteF nn) (vWriteP nn) l v

def vWriteF : Nat → Str → (List TApiCell) → Bool → Str → TApiCell → Option (Bool × Bool × Str)
 | 0, _, _, _, _, _ => none
 | nn + 1, key, x, first, l, c => vWriteFm nn (vWrite nn) key x first l c

def vWriteP : Nat → (List TApiCell) → Bool → Str → TApiCell → Option (Bool × Str)
 | 0, _, _, _, _ => none
 | nn + 1, v, first, l, c => vWritePm nn (vWriteF nn) v first l c

end
def vEncode (F : Nat) (v : (List TApiCell)) : Option (Str × Int) :=
 obn (vCheck F v) fun r1 => cnd (!decide (r1 = 0)) (some (([] : Str), r1)) (obn (vWrite F ([] : Str) v) fun r8 => chk (decide (0 < r8.length)) <| some (r8, 0))

end Go.Proofs.YtpmiamphppcfeaaGreatDoor

/-
  Walks, printed by a small program of ours (gq.py).
-/
namespace Go.Proofs.YtpmiamphppcfeaaGreatDoor.Q
open Go Go.RowKit
set_option linter.unusedVariables false
set_option linter.unusedSimpArgs false
set_option maxRecDepth 100000
set_option maxHeartbeats 4000000
theorem vQuote_w (F : Nat) (b_l : Nat) (v_l : Value) (l : Str) (s : Str) (r : Str) (h : vQuote F l s = some r) : Fn Tryz.prog GE 96 [rP b_l 0, rS s] [.bld 82 5 b_l v_l l] (fun R H => ∃ w0b : Value, R = rv (.tuple #[]) ∧ H = [.bld 82 5 b_l w0b r]) := by
 refine enter (n := 32) Tryz.func96 rfl Tryz.ntmps96 rfl (fun w Z => ?_)
 unfold vQuote at h
 refine wc_sr (wm rfl (ck h fun g1 h2 => ck h2 fun g3 h4 => w_call (rs := [rP b_l 0, rI .u8 34]) (Hin := [.bld 82 5 b_l v_l l]) (Hr := []) yk97 rfl (List.Perm.refl _) (writeByte_q b_l v_l l 34 g1 g3) rfl ?_))
 rintro _ _ ⟨v5, rfl, rfl⟩
 refine bd h4 fun r6 e8 h7 => ?_
 rw [← e8]
 refine wl_x (wc_seq (wc_sr (wm rfl (wv (o_len_s yu9 rfl) (wv (r := rI .i64 0) (o_move rfl) (wl_x (wc_block (ob h7 fun o124 eo125 hK126 => wc_loop2 (S := Nat × (Int × Str) × (Value)) (V := (Str) × (Value)) 0 (fun σ => lop (fun σ => vQuote_b1 s σ.1 σ.2) σ.1 σ.2.1 = some o124) (fun σ => [(0, rP b_l 0), (1, rS s), (8, rI .i64 (s.length : Int)), (9, rI .i64 σ.2.1.1)]) (fun σ => [.bld 82 5 b_l σ.2.2 σ.2.1.2]) (fun σ => σ.1) (F, (0, r6), v5) eo125 (Sub.c rfl (Sub.c rfl (Sub.c rfl (Sub.c rfl Sub.nil)))) (sC sN) (fun σ => vQuote_k1 σ.1 = some r) (fun σ => [(0, rP b_l 0)]) (fun σ => [.bld 82 5 b_l σ.2 σ.1]) ?_ ?_))))))))
 ·rintro ⟨n132, ⟨x82, x83⟩, v84⟩ hi130
  refine wc_as (l' := [(0, rP b_l 0), (1, rS s), (8, rI .i64 (s.length : Int)), (9, rI .i64 x82)]) (H' := [.bld 82 5 b_l v84 x83]) rfl rfl ?_
  obtain ⟨m129, rfl, t127, h131, ht128⟩ := lop_e hi130
  replace h131 : vQuote_b1 s x82 x83 = some t127 := h131
  unfold vQuote_b1 at h131
  refine wc_sr (wv (o_lt rfl rfl) (wl_x (wc_seq (cz h131 rfl (fun c133 h134 => ?_) (fun c133 h171 => ?_)))))
  ·refine wc_skip (wk_x (wc_seq (wc_block (wc_sr (wm rfl (wa rfl (wl_x (wc_seq (ck h134 fun g135 h136 => wc_seq_mid [(0, rP b_l 0), (1, rS s), (4, rI .i64 x82), (8, rI .i64 (s.length : Int)), (9, rI .i64 x82), (21, rB ((decide ((bat s x82) = 34)) || (decide ((bat s x82) = 92))))] [.bld 82 5 b_l v84 x83] ?_ ?_)))))))))
   ·refine wc_region (wm rfl (wm rfl (wv (o_index_b yu9 rfl rfl g135) (wv (o_eq rfl rfl) (wm rfl (bsplit (decide ((bat s x82) = 34)) (fun c137 => ?_) (fun c137 => ?_)))))))
    ·refine wf c137 (wf c137 (wf c137 (wf c137 (wv (r := rB true) (o_pick_t rfl c137 rfl) (wl_nil ?_)))))
     exact wtc c137
    ·refine wo c137 (wm rfl (wo c137 (wm rfl (wo c137 (wv (o_index_b yu9 rfl rfl g135) (wo c137 (wv (o_eq rfl rfl) (wpf rfl c137 rfl (wl_nil ?_)))))))))
     exact wtc c137
   refine cz h136 rfl (fun c138 h139 => ?_) (fun c138 h159 => ?_)
   ·refine wc_region (wm rfl (ck h139 fun g140 h141 => ck h141 fun g142 h143 => w_call (rs := [rP b_l 0, rI .u8 92]) (Hin := [.bld 82 5 b_l v84 x83]) (Hr := []) yk97 rfl (List.Perm.refl _) (writeByte_q b_l v84 x83 92 g140 g142) rfl ?_))
    rintro _ _ ⟨v144, rfl, rfl⟩
    refine bd h143 fun r145 e147 h146 => ?_
    rw [← e147]
    refine wl_x (wc_region (wm rfl (wm rfl (wm rfl (wv (o_index_b yu9 rfl rfl g135) (ck h146 fun g148 h149 => ck h149 fun g150 h151 => w_call (rs := [rP b_l 0, rI .u8 (bat s x82)]) (Hin := [.bld 82 5 b_l v144 r145]) (Hr := []) yk97 rfl (List.Perm.refl _) (writeByte_q b_l v144 r145 (bat s x82) g148 g150) rfl ?_))))))
    rintro _ _ ⟨v152, rfl, rfl⟩
    refine bd h151 fun r153 e155 h154 => ?_
    rw [← e155]
    refine wl_nil (wk_in_norm (wk_x (wc_region (ck h154 fun g156 h157 => wv (o_add rfl rfl g156) (wm rfl (wl_nil ?_))))))
    have h158 := stp_next h157 ht128
    exact wk_then (wk_some (m129, (x82 + 1, r153), v152) ⟨h158, Nat.lt_succ_self _⟩ (Sub.c rfl (Sub.c rfl (Sub.c rfl (Sub.c rfl Sub.nil)))) (sC sN))
   ·refine wc_skip (wk_x (wc_region (wm rfl (wm rfl (wm rfl (wv (o_index_b yu9 rfl rfl g135) (ck h159 fun g160 h161 => ck h161 fun g162 h163 => w_call (rs := [rP b_l 0, rI .u8 (bat s x82)]) (Hin := [.bld 82 5 b_l v84 x83]) (Hr := []) yk97 rfl (List.Perm.refl _) (writeByte_q b_l v84 x83 (bat s x82) g160 g162) rfl ?_)))))))
    rintro _ _ ⟨v164, rfl, rfl⟩
    refine bd h163 fun r165 e167 h166 => ?_
    rw [← e167]
    refine wl_nil (wk_in_norm (wk_x (wc_region (ck h166 fun g168 h169 => wv (o_add rfl rfl g168) (wm rfl (wl_nil ?_))))))
    have h170 := stp_next h169 ht128
    exact wk_then (wk_some (m129, (x82 + 1, r165), v164) ⟨h170, Nat.lt_succ_self _⟩ (Sub.c rfl (Sub.c rfl (Sub.c rfl (Sub.c rfl Sub.nil)))) (sC sN))
  ·refine wc_exit (wk_then_exit ?_)
   have h172 := stp_go h171 ht128 hK126
   exact wk_then_exit (wk_cut_hit (wk_some (x83, v84) h172 (Sub.c rfl Sub.nil) (sC sN)))
 ·rintro ⟨x122, v123⟩ h173
  refine wk_as (l' := [(0, rP b_l 0)]) (H' := [.bld 82 5 b_l v123 x122]) rfl rfl ?_
  replace h173 : vQuote_k1 x122 = some r := h173
  unfold vQuote_k1 at h173
  refine wk_in_hit (wk_x (wc_region (wm rfl (ck h173 fun g174 h175 => w_call (rs := [rP b_l 0, rI .u8 34]) (Hin := [.bld 82 5 b_l v123 x122]) (Hr := []) yk97 rfl (List.Perm.refl _) (writeByte_q b_l v123 x122 34 g174 g3) rfl ?_))))
  rintro _ _ ⟨v176, rfl, rfl⟩
  refine bd h175 fun r177 e179 h178 => ?_
  rw [← e179]
  refine wl_nil ?_
  obtain rfl := some_e h178
  exact wk_end (r_0 Tryz.results96) (sC sN) ⟨v176, rfl, rfl⟩

theorem vWritem_w (F : Nat) (rec_vWriteF : Str → (List TApiCell) → Bool → Str → TApiCell → Option (Bool × Bool × Str)) (rec_vWriteP : (List TApiCell) → Bool → Str → TApiCell → Option (Bool × Str)) (ih_vWriteF : (∀ (b_first : Nat) (bx_l : Nat) (b_l : Nat) (v_l : Value) (b_c : Nat) (key : Str) (x : (List TApiCell)) (first : Bool) (l : Str) (c : TApiCell) (r : Bool × Bool × Str), rec_vWriteF key x first l c = some r → Fn Tryz.prog GE 99 [rS key, rSl 4 (List.map eTApiCell x), rP b_first 0, rP bx_l 0, rP b_c 0] [.blk b_first [rB first] 4, .blk bx_l [rP b_l 0] 79, .bld 82 5 b_l v_l l, .blk b_c (eTApiCell c) 51] (fun R H => ∃ w3b : Value, R = rB r.1 ∧ H = [.blk b_first [rB r.2.1] 4, .blk bx_l [rP b_l 0] 79, .bld 82 5 b_l w3b r.2.2, .blk b_c (eTApiCell c) 51]))) (ih_vWriteP : (∀ (b_first : Nat) (bx_l : Nat) (b_l : Nat) (v_l : Value) (b_c : Nat) (v : (List TApiCell)) (first : Bool) (l : Str) (c : TApiCell) (r : Bool × Str), rec_vWriteP v first l c = some r → Fn Tryz.prog GE 98 [rSl 4 (List.map eTApiCell v), rv (.func (.func 99) #[] #[(.pointer (some ⟨b_first, 0, none⟩)), (.pointer (some ⟨bx_l, 0, none⟩)), (.pointer (some ⟨b_c, 0, none⟩))])] [.blk b_first [rB first] 4, .blk bx_l [rP b_l 0] 79, .bld 82 5 b_l v_l l, .blk b_c (eTApiCell c) 51] (fun R H => ∃ w1_1b : Value, R = rv (.tuple #[]) ∧ H = [.blk b_first [rB r.1] 4, .blk bx_l [rP b_l 0] 79, .bld 82 5 b_l w1_1b r.2, .blk b_c (eTApiCell c) 51]))) (b_l : Nat) (v_l : Value) (l : Str) (v : (List TApiCell)) (r : Str) (h : vWritem F rec_vWriteF rec_vWriteP l v = some r) : Fn Tryz.prog GE 69 [rP b_l 0, rSl 4 (List.map eTApiCell v)] [.bld 82 5 b_l v_l l] (fun R H => ∃ w0b : Value, R = rv (.tuple #[]) ∧ H = [.bld 82 5 b_l w0b r]) := by
 refine enter (n := 52) Tryz.func69 rfl Tryz.ntmps69 rfl (fun w Z => ?_)
 unfold vWritem at h
 refine wc_sr (w_box rfl (one_c rfl) rfl (fun b1 => ?_))
 refine wl_y (wm rfl (ck h fun g2 h3 => wv (o_ix_z (enc := eTApiCell) (ys := v) yu23 ys51 rfl rfl g2) (wv (o_load_za ya51 ys51 rfl rfl rfl) (w_alloc (cs := [rI .i64 0, rI .i64 0, rS ([] : Str), rI .i64 0]) yz51 rfl rfl (fun b4 => ?_)))))
 refine u_store_agg (i := 0) ys51 rfl rfl rfl (OneAll.c rfl) rfl rfl (cs' := [rI .i64 ((at' v 0).fKind), rI .i64 ((at' v 0).fInt), rS ((at' v 0).fStr), rI .i64 ((at' v 0).fN)]) rfl (H' := [.blk b4 (eTApiCell (at' v 0)) 51, .blk b1 [rP b_l 0] 79, .bld 82 5 b_l v_l l]) rfl (wl_y (vF yu51 rfl ys49 (vL 0 ya49 rfl (wl_x (wc_block (wc_sr (wv (o_eq rfl rfl) (wa rfl (wl_x (cz h3 rfl (fun c5 h6 => ?_) (fun c5 h13 => ?_)))))))))))
 ·refine wc_region (vL 1 ya79 rfl (ck h6 fun g7 h8 => w_call (rs := [rP b_l 0, rS ([110, 117, 108, 108] : Str)]) (Hin := [.bld 82 5 b_l v_l l]) (Hr := [.blk b4 (eTApiCell (at' v 0)) 51, .blk b1 [rP b_l 0] 79]) Tryz.call95 rfl ((perm_front (i := 2) rfl).trans (List.Perm.cons _ (List.Perm.refl _))) (writeString_q b_l v_l l ([110, 117, 108, 108] : Str) g7) rfl ?_))
  rintro _ _ ⟨v9, rfl, rfl⟩
  refine bd h8 fun r10 e12 h11 => ?_
  rw [← e12]
  refine wl_nil (wk_in_norm ?_)
  obtain rfl := some_e h11
  exact wk_end (r_0 yr69) (sC (sS (sS sN))) ⟨v9, rfl, rfl⟩
 ·refine wc_sr (wv (o_eq rfl rfl) (wa rfl (wl_x (cz h13 rfl (fun c14 h15 => ?_) (fun c14 h24 => ?_)))))
  ·refine ck h15 fun g16 h17 => wc_rdlk (H1 := [.blk b4 (eTApiCell (at' v 0)) 51, .blk b1 [rP b_l 0] 79, .bld 82 5 b_l v_l l]) 6 [2, 4] [⟨[], rP b_l 0, 1⟩, ⟨[], rSl 1 (List.map eS ([([102, 97, 108, 115, 101] : Str), ([116, 114, 117, 101] : Str)] : List Str)), 0⟩, ⟨[], rP b4 1, 0⟩, ⟨[2], rI .i64 ((at' v 0).fInt), 1⟩, ⟨[1, 3], rAt [rS (at' ([([102, 97, 108, 115, 101] : Str), ([116, 114, 117, 101] : Str)] : List Str) ((at' v 0).fInt))], 0⟩, ⟨[4], rS (at' ([([102, 97, 108, 115, 101] : Str), ([116, 114, 117, 101] : Str)] : List Str) ((at' v 0).fInt)), 0⟩] (rle [(7, _)]) [32, 33, 34, 35, 36, 37, 2, 4] ?_ ?_
   ·refine of (o_load (i := 1) ya79 rfl rfl rfl) (obl_q rfl (fun H => ok_buildSlice (ys := ([([102, 97, 108, 115, 101] : Str), ([116, 114, 117, 101] : Str)] : List Str)) (enc := eS) (css := [[rS ([102, 97, 108, 115, 101] : Str)], [rS ([116, 114, 117, 101] : Str)]]) (xs := [.const (.string ⟨#[102, 97, 108, 115, 101]⟩), .const (.string ⟨#[116, 114, 117, 101]⟩)]) yu36 ys9 yz9 rfl rfl rfl ⟨Cel.one rfl (Up.refl _), Cel.one rfl (Up.refl _), trivial⟩ rfl eS_len rfl rfl) ?_)
    refine oq (o_fieldAddr yu51 rfl ys3 rfl rfl) (of (o_load (i := 0) ya3 rfl rfl rfl) (oq (o_ix_z (enc := eS) (ys := ([([102, 97, 108, 115, 101] : Str), ([116, 114, 117, 101] : Str)] : List Str)) yu36 ys9 rfl rfl g16) (oq (o_load_z ya9 rfl rfl) ?_)))
    exact obl_e
   refine ck h17 fun g18 h19 => w_call (rs := [rP b_l 0, rS (at' ([([102, 97, 108, 115, 101] : Str), ([116, 114, 117, 101] : Str)] : List Str) ((at' v 0).fInt))]) (Hin := [.bld 82 5 b_l v_l l]) (Hr := [.blk b4 (eTApiCell (at' v 0)) 51, .blk b1 [rP b_l 0] 79]) Tryz.call95 rfl ((perm_front (i := 2) rfl).trans (List.Perm.cons _ (List.Perm.refl _))) (writeString_q b_l v_l l (at' ([([102, 97, 108, 115, 101] : Str), ([116, 114, 117, 101] : Str)] : List Str) ((at' v 0).fInt)) g18) rfl ?_
   rintro _ _ ⟨v20, rfl, rfl⟩
   refine bd h19 fun r21 e23 h22 => ?_
   rw [← e23]
   refine wl_nil (wk_in_norm ?_)
   obtain rfl := some_e h22
   exact wk_end (r_0 yr69) (sC (sS (sS sN))) ⟨v20, rfl, rfl⟩
  ·refine wc_sr (wv (o_eq rfl rfl) (wa rfl (wl_x (cz h24 rfl (fun c25 h26 => ?_) (fun c25 h35 => ?_)))))
   ·refine ck h26 fun g27 h28 => wc_rdlk (H1 := [.blk b4 (eTApiCell (at' v 0)) 51, .blk b1 [rP b_l 0] 79, .bld 82 5 b_l v_l l]) 4 [2, 4] [⟨[], rP b_l 0, 1⟩, ⟨[], rP b4 1, 0⟩, ⟨[1], rI .i64 ((at' v 0).fInt), 1⟩, ⟨[2], rS (Lib.itoa ((at' v 0).fInt)), 0⟩] (rle [(5, _)]) [41, 42, 43, 44, 2, 4] ?_ ?_
    ·refine of (o_load (i := 1) ya79 rfl rfl rfl) (oq (o_fieldAddr yu51 rfl ys3 rfl rfl) (of (o_load (i := 0) ya3 rfl rfl rfl) (obl_q rfl (fun H => ok_call0 (rs := [rI .i64 ((at' v 0).fInt)]) (r := rS (Lib.itoa ((at' v 0).fInt))) Tryz.call45 rfl (format_q ((at' v 0).fInt) g27) rfl) ?_)))
     exact obl_e
    refine ck h28 fun g29 h30 => w_call (rs := [rP b_l 0, rS (Lib.itoa ((at' v 0).fInt))]) (Hin := [.bld 82 5 b_l v_l l]) (Hr := [.blk b4 (eTApiCell (at' v 0)) 51, .blk b1 [rP b_l 0] 79]) Tryz.call95 rfl ((perm_front (i := 2) rfl).trans (List.Perm.cons _ (List.Perm.refl _))) (writeString_q b_l v_l l (Lib.itoa ((at' v 0).fInt)) g29) rfl ?_
    rintro _ _ ⟨v31, rfl, rfl⟩
    refine bd h30 fun r32 e34 h33 => ?_
    rw [← e34]
    refine wl_nil (wk_in_norm ?_)
    obtain rfl := some_e h33
    exact wk_end (r_0 yr69) (sC (sS (sS sN))) ⟨v31, rfl, rfl⟩
   ·refine wc_sr (wv (o_eq rfl rfl) (wa rfl (wl_x (cz h35 rfl (fun c36 h37 => ?_) (fun c36 h42 => ?_)))))
    ·refine wc_region (vL 1 ya79 rfl (vF yu51 rfl ys9 (vL 0 ya9 rfl (ob h37 fun r38 e40 h39 => wcl (Hr := [.blk b4 (eTApiCell (at' v 0)) 51, .blk b1 [rP b_l 0] 79]) Tryz.call96 (vQuote_w F b_l v_l l ((at' v 0).fStr) r38 e40) rfl ((perm_front (i := 2) rfl).trans (List.Perm.cons _ (List.Perm.refl _))) rfl ?_))))
     rintro _ _ ⟨v41, rfl, rfl⟩
     refine wl_nil (wk_in_norm ?_)
     obtain rfl := some_e h39
     exact wk_end (r_0 yr69) (sC (sS (sS sN))) ⟨v41, rfl, rfl⟩
    ·refine wc_sr (wv (r := rS ([91, 93] : Str)) (o_assign rfl) (wl_x (wc_seq (wc_sr (vF yu51 rfl ys49 (vL 0 ya49 rfl (wv (o_eq rfl rfl) (wl_x (cz h42 rfl (fun c43 h44 => ?_) (fun c43 h70 => ?_))))))))))
     ·refine wc_region (wv (r := rS ([123, 125] : Str)) (o_assign rfl) (wl_x (wc_seq (ck h44 fun g45 h46 => wc_rdlk (H1 := [.blk b4 (eTApiCell (at' v 0)) 51, .blk b1 [rP b_l 0] 79, .bld 82 5 b_l v_l l]) 3 [1, 2, 4, 5] [⟨[], rP b_l 0, 1⟩, ⟨[], rS ([123, 125] : Str), 0⟩, ⟨[1], rI .u8 (bat ([123, 125] : Str) 0), 0⟩] (rle [(4, _)]) [15, 16, 17, 1, 2, 4, 5] ?_ ?_))))
      ·refine of (o_load (i := 1) ya79 rfl rfl rfl) (oq (o_move rfl) (oq (o_index_b yu9 rfl rfl g45) ?_))
       exact obl_e
      refine ck h46 fun g47 h48 => ck h48 fun g49 h50 => w_call (rs := [rP b_l 0, rI .u8 (bat ([123, 125] : Str) 0)]) (Hin := [.bld 82 5 b_l v_l l]) (Hr := [.blk b4 (eTApiCell (at' v 0)) 51, .blk b1 [rP b_l 0] 79]) yk97 rfl ((perm_front (i := 2) rfl).trans (List.Perm.cons _ (List.Perm.refl _))) (writeByte_q b_l v_l l (bat ([123, 125] : Str) 0) g47 g49) rfl ?_
      rintro _ _ ⟨v51, rfl, rfl⟩
      refine bd h50 fun r52 e54 h53 => ?_
      rw [← e54]
      refine wl_y (w_alloc (cs := [rB false]) Tryz.zeroValue4 rfl rfl (fun b55 => ?_))
      refine u_store (i := 0) ys4 rfl rfl (one_c rfl) rfl rfl (cs' := [rB true]) rfl (H' := [.blk b55 [rB true] 4, .bld 82 5 b_l v51 r52, .blk b4 (eTApiCell (at' v 0)) 51, .blk b1 [rP b_l 0] 79]) rfl (wl_y (wm rfl (wv (r := rv (.func (.func 99) #[] #[(.pointer (some ⟨b55, 0, none⟩)), (.pointer (some ⟨b1, 0, none⟩)), (.pointer (some ⟨b4, 0, none⟩))])) (o_makeFunc rfl) (ob h53 fun r56 e58 h57 => wcl (Hr := []) Tryz.call98 (ih_vWriteP b55 b1 b_l v51 b4 v true r52 (at' v 0) r56 e58) rfl ((perm_front (i := 0) rfl).trans (List.Perm.cons _ ((perm_front (i := 2) rfl).trans (List.Perm.cons _ (List.Perm.refl _))))) rfl ?_))))
      rintro _ _ ⟨v59, rfl, rfl⟩
      refine wl_x (ck h57 fun g60 h61 => wc_rdlk (H1 := [.blk b55 [rB r56.1] 4, .blk b1 [rP b_l 0] 79, .bld 82 5 b_l v59 r56.2, .blk b4 (eTApiCell (at' v 0)) 51]) 3 [2, 5] [⟨[], rP b_l 0, 1⟩, ⟨[], rS ([123, 125] : Str), 0⟩, ⟨[1], rI .u8 (bat ([123, 125] : Str) 1), 0⟩] (rle [(4, _)]) [22, 23, 24, 2, 5] ?_ ?_)
      ·refine of (o_load (i := 1) ya79 rfl rfl rfl) (oq (o_move rfl) (oq (o_index_b yu9 rfl rfl g60) ?_))
       exact obl_e
      refine ck h61 fun g62 h63 => ck h63 fun g64 h65 => w_call (rs := [rP b_l 0, rI .u8 (bat ([123, 125] : Str) 1)]) (Hin := [.bld 82 5 b_l v59 r56.2]) (Hr := [.blk b55 [rB r56.1] 4, .blk b1 [rP b_l 0] 79, .blk b4 (eTApiCell (at' v 0)) 51]) yk97 rfl ((perm_front (i := 2) rfl).trans (List.Perm.cons _ (List.Perm.refl _))) (writeByte_q b_l v59 r56.2 (bat ([123, 125] : Str) 1) g62 g64) rfl ?_
      rintro _ _ ⟨v66, rfl, rfl⟩
      refine bd h65 fun r67 e69 h68 => ?_
      rw [← e69]
      refine wl_nil (wk_in_norm ?_)
      obtain rfl := some_e h68
      exact wk_end (r_0 yr69) (sC (sS (sS (sS sN)))) ⟨v66, rfl, rfl⟩
     ·refine wc_skip (wk_x (wc_seq (ck h70 fun g71 h72 => wc_rdlk (H1 := [.blk b4 (eTApiCell (at' v 0)) 51, .blk b1 [rP b_l 0] 79, .bld 82 5 b_l v_l l]) 3 [1, 2, 4, 5] [⟨[], rP b_l 0, 1⟩, ⟨[], rS ([91, 93] : Str), 0⟩, ⟨[1], rI .u8 (bat ([91, 93] : Str) 0), 0⟩] (rle [(4, _)]) [15, 16, 17, 1, 2, 4, 5] ?_ ?_)))
      ·refine of (o_load (i := 1) ya79 rfl rfl rfl) (oq (o_move rfl) (oq (o_index_b yu9 rfl rfl g71) ?_))
       exact obl_e
      refine ck h72 fun g73 h74 => ck h74 fun g75 h76 => w_call (rs := [rP b_l 0, rI .u8 (bat ([91, 93] : Str) 0)]) (Hin := [.bld 82 5 b_l v_l l]) (Hr := [.blk b4 (eTApiCell (at' v 0)) 51, .blk b1 [rP b_l 0] 79]) yk97 rfl ((perm_front (i := 2) rfl).trans (List.Perm.cons _ (List.Perm.refl _))) (writeByte_q b_l v_l l (bat ([91, 93] : Str) 0) g73 g75) rfl ?_
      rintro _ _ ⟨v77, rfl, rfl⟩
      refine bd h76 fun r78 e80 h79 => ?_
      rw [← e80]
      refine wl_y (w_alloc (cs := [rB false]) Tryz.zeroValue4 rfl rfl (fun b81 => ?_))
      refine u_store (i := 0) ys4 rfl rfl (one_c rfl) rfl rfl (cs' := [rB true]) rfl (H' := [.blk b81 [rB true] 4, .bld 82 5 b_l v77 r78, .blk b4 (eTApiCell (at' v 0)) 51, .blk b1 [rP b_l 0] 79]) rfl (wl_y (wm rfl (wv (r := rv (.func (.func 99) #[] #[(.pointer (some ⟨b81, 0, none⟩)), (.pointer (some ⟨b1, 0, none⟩)), (.pointer (some ⟨b4, 0, none⟩))])) (o_makeFunc rfl) (ob h79 fun r82 e84 h83 => wcl (Hr := []) Tryz.call98 (ih_vWriteP b81 b1 b_l v77 b4 v true r78 (at' v 0) r82 e84) rfl ((perm_front (i := 0) rfl).trans (List.Perm.cons _ ((perm_front (i := 2) rfl).trans (List.Perm.cons _ (List.Perm.refl _))))) rfl ?_))))
      rintro _ _ ⟨v85, rfl, rfl⟩
      refine wl_x (ck h83 fun g86 h87 => wc_rdlk (H1 := [.blk b81 [rB r82.1] 4, .blk b1 [rP b_l 0] 79, .bld 82 5 b_l v85 r82.2, .blk b4 (eTApiCell (at' v 0)) 51]) 3 [2, 5] [⟨[], rP b_l 0, 1⟩, ⟨[], rS ([91, 93] : Str), 0⟩, ⟨[1], rI .u8 (bat ([91, 93] : Str) 1), 0⟩] (rle [(4, _)]) [22, 23, 24, 2, 5] ?_ ?_)
      ·refine of (o_load (i := 1) ya79 rfl rfl rfl) (oq (o_move rfl) (oq (o_index_b yu9 rfl rfl g86) ?_))
       exact obl_e
      refine ck h87 fun g88 h89 => ck h89 fun g90 h91 => w_call (rs := [rP b_l 0, rI .u8 (bat ([91, 93] : Str) 1)]) (Hin := [.bld 82 5 b_l v85 r82.2]) (Hr := [.blk b81 [rB r82.1] 4, .blk b1 [rP b_l 0] 79, .blk b4 (eTApiCell (at' v 0)) 51]) yk97 rfl ((perm_front (i := 2) rfl).trans (List.Perm.cons _ (List.Perm.refl _))) (writeByte_q b_l v85 r82.2 (bat ([91, 93] : Str) 1) g88 g90) rfl ?_
      rintro _ _ ⟨v92, rfl, rfl⟩
      refine bd h91 fun r93 e95 h94 => ?_
      rw [← e95]
      refine wl_nil (wk_in_norm ?_)
      obtain rfl := some_e h94
      exact wk_end (r_0 yr69) (sC (sS (sS (sS sN)))) ⟨v92, rfl, rfl⟩

theorem vWriteFm_w (F : Nat) (rec_vWrite : Str → (List TApiCell) → Option (Str)) (ih_vWrite : (∀ (b_l : Nat) (v_l : Value) (l : Str) (v : (List TApiCell)) (r : Str), rec_vWrite l v = some r → Fn Tryz.prog GE 69 [rP b_l 0, rSl 4 (List.map eTApiCell v)] [.bld 82 5 b_l v_l l] (fun R H => ∃ w0b : Value, R = rv (.tuple #[]) ∧ H = [.bld 82 5 b_l w0b r]))) (b_first : Nat) (bx_l : Nat) (b_l : Nat) (v_l : Value) (b_c : Nat) (key : Str) (x : (List TApiCell)) (first : Bool) (l : Str) (c : TApiCell) (r : Bool × Bool × Str) (h : vWriteFm F rec_vWrite key x first l c = some r) : Fn Tryz.prog GE 99 [rS key, rSl 4 (List.map eTApiCell x), rP b_first 0, rP bx_l 0, rP b_c 0] [.blk b_first [rB first] 4, .blk bx_l [rP b_l 0] 79, .bld 82 5 b_l v_l l, .blk b_c (eTApiCell c) 51] (fun R H => ∃ w3b : Value, R = rB r.1 ∧ H = [.blk b_first [rB r.2.1] 4, .blk bx_l [rP b_l 0] 79, .bld 82 5 b_l w3b r.2.2, .blk b_c (eTApiCell c) 51]) := by
 refine enter (n := 23) Tryz.func99 rfl Tryz.ntmps99 rfl (fun w Z => ?_)
 unfold vWriteFm at h
 refine wc_sr (wa rfl (wl_x (wc_seq (wc_sr (vL 0 ya4 rfl (wv (o_not rfl) (wl_x (cz h rfl (fun c1 h2 => ?_) (fun c1 h34 => ?_)))))))))
 ·refine wc_region (vL 1 ya79 rfl (ck h2 fun g3 h4 => ck h4 fun g5 h6 => w_call (rs := [rP b_l 0, rI .u8 44]) (Hin := [.bld 82 5 b_l v_l l]) (Hr := [.blk b_first [rB first] 4, .blk bx_l [rP b_l 0] 79, .blk b_c (eTApiCell c) 51]) yk97 rfl ((perm_front (i := 2) rfl).trans (List.Perm.cons _ (List.Perm.refl _))) (writeByte_q b_l v_l l 44 g3 g5) rfl ?_))
  rintro _ _ ⟨v7, rfl, rfl⟩
  refine bd h6 fun r8 e10 h9 => ?_
  rw [← e10]
  refine wl_y (u_store (i := 1) ys4 rfl rfl (one_c rfl) rfl rfl (cs' := [rB false]) rfl (H' := [.bld 82 5 b_l v7 r8, .blk b_first [rB false] 4, .blk bx_l [rP b_l 0] 79, .blk b_c (eTApiCell c) 51]) rfl (wl_x (wc_seq (wc_sr (vF yu51 rfl ys49 (vL 3 ya49 rfl (wv (o_eq rfl rfl) (wl_x (cz h9 rfl (fun c11 h12 => ?_) (fun c11 h29 => ?_))))))))))
  ·refine wc_sr (vL 2 ya79 rfl (wm rfl (ob h12 fun r13 e15 h14 => wcl (Hr := [.blk b_first [rB false] 4, .blk bx_l [rP b_l 0] 79, .blk b_c (eTApiCell c) 51]) Tryz.call96 (vQuote_w F b_l v7 r8 key r13 e15) rfl (List.Perm.refl _) rfl ?_)))
   rintro _ _ ⟨v16, rfl, rfl⟩
   refine wl_x (wc_region (vL 2 ya79 rfl (ck h14 fun g17 h18 => ck h18 fun g19 h20 => w_call (rs := [rP b_l 0, rI .u8 58]) (Hin := [.bld 82 5 b_l v16 r13]) (Hr := [.blk b_first [rB false] 4, .blk bx_l [rP b_l 0] 79, .blk b_c (eTApiCell c) 51]) yk97 rfl (List.Perm.refl _) (writeByte_q b_l v16 r13 58 g17 g19) rfl ?_)))
   rintro _ _ ⟨v21, rfl, rfl⟩
   refine bd h20 fun r22 e24 h23 => ?_
   rw [← e24]
   refine wl_y (vL 2 ya79 rfl (wm rfl (ob h23 fun r25 e27 h26 => wcl (Hr := [.blk b_first [rB false] 4, .blk bx_l [rP b_l 0] 79, .blk b_c (eTApiCell c) 51]) yk69 (ih_vWrite b_l v21 r22 x r25 e27) rfl (List.Perm.refl _) rfl ?_)))
   rintro _ _ ⟨v28, rfl, rfl⟩
   refine wl_y (wa rfl (wl_x (wc_ret (wk_perm (H2 := [.blk b_first [rB false] 4, .blk bx_l [rP b_l 0] 79, .bld 82 5 b_l v28 r25, .blk b_c (eTApiCell c) 51]) ((perm_front (i := 1) rfl).trans (List.Perm.cons _ ((perm_front (i := 1) rfl).trans (List.Perm.cons _ (List.Perm.refl _))))) ?_))))
   obtain rfl := some_e h26
   exact wk_ret (r_1 yr99 (rv_t rfl)) (sC (sC (sC (sC sN)))) ⟨v28, rfl, rfl⟩
  ·refine wc_skip (wk_x (wc_sr (vL 2 ya79 rfl (wm rfl (ob h29 fun r30 e32 h31 => wcl (Hr := [.blk b_first [rB false] 4, .blk bx_l [rP b_l 0] 79, .blk b_c (eTApiCell c) 51]) yk69 (ih_vWrite b_l v7 r8 x r30 e32) rfl (List.Perm.refl _) rfl ?_)))))
   rintro _ _ ⟨v33, rfl, rfl⟩
   refine wl_y (wa rfl (wl_x (wc_ret (wk_perm (H2 := [.blk b_first [rB false] 4, .blk bx_l [rP b_l 0] 79, .bld 82 5 b_l v33 r30, .blk b_c (eTApiCell c) 51]) ((perm_front (i := 1) rfl).trans (List.Perm.cons _ ((perm_front (i := 1) rfl).trans (List.Perm.cons _ (List.Perm.refl _))))) ?_))))
   obtain rfl := some_e h31
   exact wk_ret (r_1 yr99 (rv_t rfl)) (sC (sC (sC (sC sN)))) ⟨v33, rfl, rfl⟩
 ·refine wc_skip (wk_x (wc_sr (u_store (i := 0) ys4 rfl rfl (one_c rfl) rfl rfl (cs' := [rB false]) rfl (H' := [.blk b_first [rB false] 4, .blk bx_l [rP b_l 0] 79, .bld 82 5 b_l v_l l, .blk b_c (eTApiCell c) 51]) rfl (wl_x (wc_seq (wc_sr (vF yu51 rfl ys49 (vL 3 ya49 rfl (wv (o_eq rfl rfl) (wl_x (cz h34 rfl (fun c35 h36 => ?_) (fun c35 h53 => ?_))))))))))))
  ·refine wc_sr (vL 1 ya79 rfl (wm rfl (ob h36 fun r37 e39 h38 => wcl (Hr := [.blk b_first [rB false] 4, .blk bx_l [rP b_l 0] 79, .blk b_c (eTApiCell c) 51]) Tryz.call96 (vQuote_w F b_l v_l l key r37 e39) rfl ((perm_front (i := 2) rfl).trans (List.Perm.cons _ (List.Perm.refl _))) rfl ?_)))
   rintro _ _ ⟨v40, rfl, rfl⟩
   refine wl_x (wc_region (vL 2 ya79 rfl (ck h38 fun g41 h42 => ck h42 fun g43 h44 => w_call (rs := [rP b_l 0, rI .u8 58]) (Hin := [.bld 82 5 b_l v40 r37]) (Hr := [.blk b_first [rB false] 4, .blk bx_l [rP b_l 0] 79, .blk b_c (eTApiCell c) 51]) yk97 rfl (List.Perm.refl _) (writeByte_q b_l v40 r37 58 g41 g43) rfl ?_)))
   rintro _ _ ⟨v45, rfl, rfl⟩
   refine bd h44 fun r46 e48 h47 => ?_
   rw [← e48]
   refine wl_y (vL 2 ya79 rfl (wm rfl (ob h47 fun r49 e51 h50 => wcl (Hr := [.blk b_first [rB false] 4, .blk bx_l [rP b_l 0] 79, .blk b_c (eTApiCell c) 51]) yk69 (ih_vWrite b_l v45 r46 x r49 e51) rfl (List.Perm.refl _) rfl ?_)))
   rintro _ _ ⟨v52, rfl, rfl⟩
   refine wl_y (wa rfl (wl_x (wc_ret (wk_perm (H2 := [.blk b_first [rB false] 4, .blk bx_l [rP b_l 0] 79, .bld 82 5 b_l v52 r49, .blk b_c (eTApiCell c) 51]) ((perm_front (i := 1) rfl).trans (List.Perm.cons _ ((perm_front (i := 1) rfl).trans (List.Perm.cons _ (List.Perm.refl _))))) ?_))))
   obtain rfl := some_e h50
   exact wk_ret (r_1 yr99 (rv_t rfl)) (sC (sC (sC (sC sN)))) ⟨v52, rfl, rfl⟩
  ·refine wc_skip (wk_x (wc_sr (vL 1 ya79 rfl (wm rfl (ob h53 fun r54 e56 h55 => wcl (Hr := [.blk b_first [rB false] 4, .blk bx_l [rP b_l 0] 79, .blk b_c (eTApiCell c) 51]) yk69 (ih_vWrite b_l v_l l x r54 e56) rfl ((perm_front (i := 2) rfl).trans (List.Perm.cons _ (List.Perm.refl _))) rfl ?_)))))
   rintro _ _ ⟨v57, rfl, rfl⟩
   refine wl_y (wa rfl (wl_x (wc_ret (wk_perm (H2 := [.blk b_first [rB false] 4, .blk bx_l [rP b_l 0] 79, .bld 82 5 b_l v57 r54, .blk b_c (eTApiCell c) 51]) ((perm_front (i := 1) rfl).trans (List.Perm.cons _ ((perm_front (i := 1) rfl).trans (List.Perm.cons _ (List.Perm.refl _))))) ?_))))
   obtain rfl := some_e h55
   exact wk_ret (r_1 yr99 (rv_t rfl)) (sC (sC (sC (sC sN)))) ⟨v57, rfl, rfl⟩

theorem vWritePm_w (F : Nat) (rec_vWriteF : Str → (List TApiCell) → Bool → Str → TApiCell → Option (Bool × Bool × Str)) (ih_vWriteF : (∀ (b_first : Nat) (bx_l : Nat) (b_l : Nat) (v_l : Value) (b_c : Nat) (key : Str) (x : (List TApiCell)) (first : Bool) (l : Str) (c : TApiCell) (r : Bool × Bool × Str), rec_vWriteF key x first l c = some r → Fn Tryz.prog GE 99 [rS key, rSl 4 (List.map eTApiCell x), rP b_first 0, rP bx_l 0, rP b_c 0] [.blk b_first [rB first] 4, .blk bx_l [rP b_l 0] 79, .bld 82 5 b_l v_l l, .blk b_c (eTApiCell c) 51] (fun R H => ∃ w3b : Value, R = rB r.1 ∧ H = [.blk b_first [rB r.2.1] 4, .blk bx_l [rP b_l 0] 79, .bld 82 5 b_l w3b r.2.2, .blk b_c (eTApiCell c) 51]))) (b_first : Nat) (bx_l : Nat) (b_l : Nat) (v_l : Value) (b_c : Nat) (v : (List TApiCell)) (first : Bool) (l : Str) (c : TApiCell) (r : Bool × Str) (h : vWritePm F rec_vWriteF v first l c = some r) : Fn Tryz.prog GE 98 [rSl 4 (List.map eTApiCell v), rv (.func (.func 99) #[] #[(.pointer (some ⟨b_first, 0, none⟩)), (.pointer (some ⟨bx_l, 0, none⟩)), (.pointer (some ⟨b_c, 0, none⟩))])] [.blk b_first [rB first] 4, .blk bx_l [rP b_l 0] 79, .bld 82 5 b_l v_l l, .blk b_c (eTApiCell c) 51] (fun R H => ∃ w1_1b : Value, R = rv (.tuple #[]) ∧ H = [.blk b_first [rB r.1] 4, .blk bx_l [rP b_l 0] 79, .bld 82 5 b_l w1_1b r.2, .blk b_c (eTApiCell c) 51]) := by
 refine enter (n := 52) Tryz.func98 rfl Tryz.ntmps98 rfl (fun w Z => ?_)
 unfold vWritePm at h
 refine wc_sr (wa rfl (wl_y (wm rfl (ck h fun g1 h2 => wv (o_ix_z (enc := eTApiCell) (ys := v) yu23 ys51 rfl rfl g1) (wv (o_fieldAddr_z yu51 rfl ys3 rfl rfl) (wv (o_load_z ya3 rfl rfl) (wv (r := rI .i64 0) (o_move rfl) (wl_x (wc_block (ob h2 fun o166 eo167 hK168 => wc_loop2 (S := Nat × (Int × Int × Bool × Str) × (Value)) (V := (Bool × Str) × (Value)) 0 (fun σ => lop (fun σ => vWriteP_b1 F v c rec_vWriteF σ.1 σ.2.1 σ.2.2.1 σ.2.2.2) σ.1 σ.2.1 = some o166) (fun σ => [(0, rSl 4 (List.map eTApiCell v)), (1, rv (.func (.func 99) #[] #[(.pointer (some ⟨b_first, 0, none⟩)), (.pointer (some ⟨bx_l, 0, none⟩)), (.pointer (some ⟨b_c, 0, none⟩))])), (4, rI .i64 σ.2.1.1), (12, rI .i64 ((at' v 0).fN)), (13, rI .i64 σ.2.1.2.1)]) (fun σ => [.blk b_first [rB σ.2.1.2.2.1] 4, .blk bx_l [rP b_l 0] 79, .bld 82 5 b_l σ.2.2 σ.2.1.2.2.2, .blk b_c (eTApiCell c) 51]) (fun σ => σ.1) (F, (1, 0, first, l), v_l) eo167 (Sub.c5 rfl rfl rfl rfl rfl Sub.nil) (sC (sC (sC (sC sN)))) (fun σ => vWriteP_k1 σ.1.1 σ.1.2 = some r) (fun σ => []) (fun σ => [.blk b_first [rB σ.1.1] 4, .blk bx_l [rP b_l 0] 79, .bld 82 5 b_l σ.2 σ.1.2, .blk b_c (eTApiCell c) 51]) ?_ ?_))))))))))
 ·rintro ⟨n174, ⟨x106, x107, x108, x109⟩, v110⟩ hi172
  refine wc_as (l' := [(0, rSl 4 (List.map eTApiCell v)), (1, rv (.func (.func 99) #[] #[(.pointer (some ⟨b_first, 0, none⟩)), (.pointer (some ⟨bx_l, 0, none⟩)), (.pointer (some ⟨b_c, 0, none⟩))])), (4, rI .i64 x106), (12, rI .i64 ((at' v 0).fN)), (13, rI .i64 x107)]) (H' := [.blk b_first [rB x108] 4, .blk bx_l [rP b_l 0] 79, .bld 82 5 b_l v110 x109, .blk b_c (eTApiCell c) 51]) rfl rfl ?_
  obtain ⟨m171, rfl, t169, h173, ht170⟩ := lop_e hi172
  replace h173 : vWriteP_b1 F v c rec_vWriteF x106 x107 x108 x109 = some t169 := h173
  unfold vWriteP_b1 at h173
  refine wc_sr (wv (o_lt rfl rfl) (wl_x (wc_seq (cz h173 rfl (fun c175 h176 => ?_) (fun c175 h230 => ?_)))))
  ·refine wc_skip (wk_x (wc_seq (wc_block (wc_sr (wv (r := rS ([] : Str)) (o_assign rfl) (wl_x (wc_seq (wc_sr (wm rfl (wv (o_ix_z (enc := eTApiCell) (ys := v) yu23 ys51 rfl rfl g1) (wv (o_fieldAddr_z yu51 rfl ys49 rfl rfl) (wv (o_load_z ya49 rfl rfl) (wv (o_eq rfl rfl) (wl_x (cz h176 rfl (fun c177 h178 => ?_) (fun c177 h206 => ?_))))))))))))))))
   ·refine wc_sr (wm rfl (wm rfl (ck h178 fun g179 h180 => wv (o_ix_z (enc := eTApiCell) (ys := v) yu23 ys51 rfl rfl g179) (wv (o_fieldAddr_z yu51 rfl ys9 rfl rfl) (wv (o_load_z ya9 rfl rfl) (wa rfl (wl_x (wc_region (wm rfl (ck h180 fun g181 h182 => wv (o_add rfl rfl g181) (wa rfl (wl_y (wm rfl (wm rfl (ck h182 fun g183 h184 => wv (r := rSl 4 (List.map eTApiCell (List.drop (Int.toNat (x106 + 1)) v))) (o_slice_zl yu23 ys51 rfl rfl g183) (ob h184 fun r185 e187 h186 => wc0 Tryz.call75 (vLook_w F (List.drop (Int.toNat (x106 + 1)) v) r185 e187) rfl (wm rfl (wv (o_extract rfl rfl) (wv (o_extract rfl rfl) ?_)))))))))))))))))))
    refine wv (o_extract rfl rfl) (w_alloc (cs := [rI .i64 0, rI .i64 0, rB false, rB false]) yz89 rfl rfl (fun b188 => ?_))
    refine wa rfl (u_store_agg (i := 0) ys89 rfl rfl rfl (OneAll.c rfl) rfl rfl (cs' := [rI .i64 r185.2.1.fDepth, rI .i64 r185.2.1.fBytes, rB r185.2.1.fOutside, rB r185.2.1.fLong]) rfl (H' := [.blk b188 (eTValueShape r185.2.1) 89, .blk b_first [rB x108] 4, .blk bx_l [rP b_l 0] 79, .bld 82 5 b_l v110 x109, .blk b_c (eTApiCell c) 51]) rfl (wa rfl (wl_x (wc_seq (wc_sr (wm rfl (wm rfl (wm rfl (wm rfl (wm rfl (wm rfl (ck h186 fun g189 h190 => wv (o_add rfl rfl g189) (wm rfl (wm rfl (wv (o_add rfl rfl g189) (ck h190 fun g191 h192 => ck h192 fun g193 h194 => wv (r := rSl 4 (List.map eTApiCell (List.take (Int.toNat ((x106 + 1) + r185.1) - Int.toNat (x106 + 1)) (List.drop (Int.toNat (x106 + 1)) v)))) (o_slice_zm yu23 ys51 rfl rfl rfl rfl g191 g193) (ob h194 fun r195 e197 h196 => w_callc (rs := [rS ((at' v x106).fStr), rSl 4 (List.map eTApiCell (List.take (Int.toNat ((x106 + 1) + r185.1) - Int.toNat (x106 + 1)) (List.drop (Int.toNat (x106 + 1)) v)))]) (Hin := [.blk b_first [rB x108] 4, .blk bx_l [rP b_l 0] 79, .bld 82 5 b_l v110 x109, .blk b_c (eTApiCell c) 51]) (Hr := [.blk b188 (eTValueShape r185.2.1) 89]) Tryz.call99 rfl rfl ((perm_front (i := 1) rfl).trans (List.Perm.cons _ ((perm_front (i := 1) rfl).trans (List.Perm.cons _ ((perm_front (i := 1) rfl).trans (List.Perm.cons _ ((perm_front (i := 1) rfl).trans (List.Perm.cons _ (List.Perm.refl _))))))))) (ih_vWriteF b_first bx_l b_l v110 b_c ((at' v x106).fStr) (List.take (Int.toNat ((x106 + 1) + r185.1) - Int.toNat (x106 + 1)) (List.drop (Int.toNat (x106 + 1)) v)) x108 x109 c r195 e197) rfl ?_)))))))))))))))))
    rintro _ _ ⟨v198, rfl, rfl⟩
    refine wv (o_not rfl) (wl_x (cz h196 rfl (fun c199 h200 => ?_) (fun c199 h202 => ?_)))
    ·refine wc_ret (wk_then_ret (wk_in_ret (wk_then_ret (wk_then_ret (wk_cut_ret ?_)))))
     have h201 := stp_ret h200 ht170 hK168
     refine wk_in_ret ?_
     obtain rfl := some_e h201
     exact wk_ret (r_0 Tryz.results98) (sC (sC (sC (sC (sS sN))))) ⟨v198, rfl, rfl⟩
    ·refine wc_skip (wk_x (wc_region (wm rfl (wm rfl (wv (o_add rfl rfl g189) (wa rfl (wl_nil (wk_in_norm (wk_x (wc_region (ck h202 fun g203 h204 => wv (o_add rfl rfl g203) (wm rfl (wl_nil ?_)))))))))))))
     have h205 := stp_next h204 ht170
     exact wk_then (wk_some (m171, ((x106 + 1) + r185.1, x107 + 1, r195.2.1, r195.2.2), v198) ⟨h205, Nat.lt_succ_self _⟩ (Sub.c5 rfl rfl rfl rfl rfl Sub.nil) (sC (sC (sC (sC (sS sN))))))
   ·refine wc_skip (wk_x (wc_sr (wm rfl (wm rfl (ck h206 fun g207 h208 => wv (r := rSl 4 (List.map eTApiCell (List.drop (Int.toNat x106) v))) (o_slice_zl yu23 ys51 rfl rfl g207) (ob h208 fun r209 e211 h210 => wc0 Tryz.call75 (vLook_w F (List.drop (Int.toNat x106) v) r209 e211) rfl (wm rfl (wv (o_extract rfl rfl) (wv (o_extract rfl rfl) (wv (o_extract rfl rfl) (w_alloc (cs := [rI .i64 0, rI .i64 0, rB false, rB false]) yz89 rfl rfl (fun b212 => ?_))))))))))))
    refine wa rfl (u_store_agg (i := 0) ys89 rfl rfl rfl (OneAll.c rfl) rfl rfl (cs' := [rI .i64 r209.2.1.fDepth, rI .i64 r209.2.1.fBytes, rB r209.2.1.fOutside, rB r209.2.1.fLong]) rfl (H' := [.blk b212 (eTValueShape r209.2.1) 89, .blk b_first [rB x108] 4, .blk bx_l [rP b_l 0] 79, .bld 82 5 b_l v110 x109, .blk b_c (eTApiCell c) 51]) rfl (wa rfl (wl_x (wc_seq (wc_sr (wm rfl (wm rfl (wm rfl (wm rfl (wm rfl (wm rfl (ck h210 fun g213 h214 => wv (o_add rfl rfl g213) (wm rfl (wm rfl (wv (o_add rfl rfl g213) (ck h214 fun g215 h216 => ck h216 fun g217 h218 => wv (r := rSl 4 (List.map eTApiCell (List.take (Int.toNat (x106 + r209.1) - Int.toNat x106) (List.drop (Int.toNat x106) v)))) (o_slice_zm yu23 ys51 rfl rfl rfl rfl g215 g217) (ob h218 fun r219 e221 h220 => w_callc (rs := [rS ([] : Str), rSl 4 (List.map eTApiCell (List.take (Int.toNat (x106 + r209.1) - Int.toNat x106) (List.drop (Int.toNat x106) v)))]) (Hin := [.blk b_first [rB x108] 4, .blk bx_l [rP b_l 0] 79, .bld 82 5 b_l v110 x109, .blk b_c (eTApiCell c) 51]) (Hr := [.blk b212 (eTValueShape r209.2.1) 89]) Tryz.call99 rfl rfl ((perm_front (i := 1) rfl).trans (List.Perm.cons _ ((perm_front (i := 1) rfl).trans (List.Perm.cons _ ((perm_front (i := 1) rfl).trans (List.Perm.cons _ ((perm_front (i := 1) rfl).trans (List.Perm.cons _ (List.Perm.refl _))))))))) (ih_vWriteF b_first bx_l b_l v110 b_c ([] : Str) (List.take (Int.toNat (x106 + r209.1) - Int.toNat x106) (List.drop (Int.toNat x106) v)) x108 x109 c r219 e221) rfl ?_)))))))))))))))))
    rintro _ _ ⟨v222, rfl, rfl⟩
    refine wv (o_not rfl) (wl_x (cz h220 rfl (fun c223 h224 => ?_) (fun c223 h226 => ?_)))
    ·refine wc_ret (wk_then_ret (wk_in_ret (wk_then_ret (wk_then_ret (wk_cut_ret ?_)))))
     have h225 := stp_ret h224 ht170 hK168
     refine wk_in_ret ?_
     obtain rfl := some_e h225
     exact wk_ret (r_0 Tryz.results98) (sC (sC (sC (sC (sS sN))))) ⟨v222, rfl, rfl⟩
    ·refine wc_skip (wk_x (wc_region (wm rfl (wm rfl (wv (o_add rfl rfl g213) (wa rfl (wl_nil (wk_in_norm (wk_x (wc_region (ck h226 fun g227 h228 => wv (o_add rfl rfl g227) (wm rfl (wl_nil ?_)))))))))))))
     have h229 := stp_next h228 ht170
     exact wk_then (wk_some (m171, (x106 + r209.1, x107 + 1, r219.2.1, r219.2.2), v222) ⟨h229, Nat.lt_succ_self _⟩ (Sub.c5 rfl rfl rfl rfl rfl Sub.nil) (sC (sC (sC (sC (sS sN))))))
  ·refine wc_exit (wk_then_exit ?_)
   have h231 := stp_go h230 ht170 hK168
   exact wk_then_exit (wk_cut_hit (wk_some ((x108, x109), v110) h231 Sub.nil (sC (sC (sC (sC sN))))))
 ·rintro ⟨⟨x163, x164⟩, v165⟩ h232
  refine wk_as (l' := []) (H' := [.blk b_first [rB x163] 4, .blk bx_l [rP b_l 0] 79, .bld 82 5 b_l v165 x164, .blk b_c (eTApiCell c) 51]) rfl rfl ?_
  replace h232 : vWriteP_k1 x163 x164 = some r := h232
  unfold vWriteP_k1 at h232
  refine wk_in_hit ?_
  obtain rfl := some_e h232
  exact wk_end (r_0 Tryz.results98) (sC (sC (sC (sC sN)))) ⟨v165, rfl, rfl⟩

theorem vWrite_all : ∀ F : Nat, (∀ (b_l : Nat) (v_l : Value) (l : Str) (v : (List TApiCell)) (r : Str), vWrite F l v = some r → Fn Tryz.prog GE 69 [rP b_l 0, rSl 4 (List.map eTApiCell v)] [.bld 82 5 b_l v_l l] (fun R H => ∃ w0b : Value, R = rv (.tuple #[]) ∧ H = [.bld 82 5 b_l w0b r])) ∧ (∀ (b_first : Nat) (bx_l : Nat) (b_l : Nat) (v_l : Value) (b_c : Nat) (key : Str) (x : (List TApiCell)) (first : Bool) (l : Str) (c : TApiCell) (r : Bool × Bool × Str), vWriteF F key x first l c = some r → Fn Tryz.prog GE 99 [rS key, rSl 4 (List.map eTApiCell x), rP b_first 0, rP bx_l 0, rP b_c 0] [.blk b_first [rB first] 4, .blk bx_l [rP b_l 0] 79, .bld 82 5 b_l v_l l, .blk b_c (eTApiCell c) 51] (fun R H => ∃ w3b : Value, R = rB r.1 ∧ H = [.blk b_first [rB r.2.1] 4, .blk bx_l [rP b_l 0] 79, .bld 82 5 b_l w3b r.2.2, .blk b_c (eTApiCell c) 51])) ∧ (∀ (b_first : Nat) (bx_l : Nat) (b_l : Nat) (v_l : Value) (b_c : Nat) (v : (List TApiCell)) (first : Bool) (l : Str) (c : TApiCell) (r : Bool × Str), vWriteP F v first l c = some r → Fn Tryz.prog GE 98 [rSl 4 (List.map eTApiCell v), rv (.func (.func 99) #[] #[(.pointer (some ⟨b_first, 0, none⟩)), (.pointer (some ⟨bx_l, 0, none⟩)), (.pointer (some ⟨b_c, 0, none⟩))])] [.blk b_first [rB first] 4, .blk bx_l [rP b_l 0] 79, .bld 82 5 b_l v_l l, .blk b_c (eTApiCell c) 51] (fun R H => ∃ w1_1b : Value, R = rv (.tuple #[]) ∧ H = [.blk b_first [rB r.1] 4, .blk bx_l [rP b_l 0] 79, .bld 82 5 b_l w1_1b r.2, .blk b_c (eTApiCell c) 51]))
  | 0 => ⟨(fun _ _ _ _ _ h => by simp [vWrite] at h), (fun _ _ _ _ _ _ _ _ _ _ _ h => by simp [vWriteF] at h), (fun _ _ _ _ _ _ _ _ _ _ h => by simp [vWriteP] at h)⟩
  | nn + 1 => ⟨(fun b_l v_l l v r h => vWritem_w nn (vWriteF nn) (vWriteP nn) (vWrite_all nn).2.1 (vWrite_all nn).2.2 b_l v_l l v r (by rw [vWrite] at h; exact h)), (fun b_first bx_l b_l v_l b_c key x first l c r h => vWriteFm_w nn (vWrite nn) (vWrite_all nn).1 b_first bx_l b_l v_l b_c key x first l c r (by rw [vWriteF] at h; exact h)), (fun b_first bx_l b_l v_l b_c v first l c r h => vWritePm_w nn (vWriteF nn) (vWrite_all nn).2.1 b_first bx_l b_l v_l b_c v first l c r (by rw [vWriteP] at h; exact h))⟩

theorem vWrite_w (F : Nat) (b_l : Nat) (v_l : Value) (l : Str) (v : (List TApiCell)) (r : Str) (h : vWrite F l v = some r) : Fn Tryz.prog GE 69 [rP b_l 0, rSl 4 (List.map eTApiCell v)] [.bld 82 5 b_l v_l l] (fun R H => ∃ w0b : Value, R = rv (.tuple #[]) ∧ H = [.bld 82 5 b_l w0b r]) := (vWrite_all F).1 b_l v_l l v r h

theorem vEncode_w (F : Nat) (v : (List TApiCell)) (r : Str × Int) (h : vEncode F v = some r) : Fn Tryz.prog GE 44 [rSl 4 (List.map eTApiCell v)] [] (fun R H => R = rTup [rS r.1, rI .i64 r.2] ∧ H = []) := by
 refine enter (n := 14) Tryz.func44 rfl Tryz.ntmps44 rfl (fun w Z => ?_)
 unfold vEncode at h
 refine wc_sr (wv (r := rS ([] : Str)) (o_assign rfl) (wa rfl (wl_x (wc_seq (wc_sr (wm rfl (ob h fun r1 e3 h2 => wc0 Tryz.call54 (vCheck_w F v r1 e3) rfl (wa rfl (wl_y (wm rfl (wv (o_ne rfl rfl) (wl_x (cz h2 rfl (fun c4 h5 => ?_) (fun c4 h6 => ?_))))))))))))))
 ·refine wc_sr (wm rfl (wv (r := rS ([] : Str)) (o_assign rfl) (wa rfl (wl_x (wc_ret (wk_then_ret ?_))))))
  obtain rfl := some_e h5
  exact wk_ret (r_2 Tryz.results44 (rv_t rfl) (rv_t rfl)) sN ⟨rfl, rfl⟩
 ·refine wc_skip (wk_x (wc_sr (w_alloc (cs := [rv (.pointer none), rv (.slice none 0 0)]) Tryz.zeroValue82 rfl rfl (fun b7 => ?_))))
  refine wl_y (wm rfl (WL.tobld (te := 5) (i := 0) rfl (ob h6 fun r8 e10 h9 => wcl (Hr := []) yk69 (vWrite_w F b7 (.slice none 0 0) ([] : Str) v r8 e10) rfl (List.Perm.refl _) rfl ?_)))
  rintro _ _ ⟨v11, rfl, rfl⟩
  refine wl_y (ck h9 fun g12 h13 => w_call (rs := [rP b7 0]) (Hin := [.bld 82 5 b7 v11 r8]) (Hr := []) Tryz.call70 rfl (List.Perm.refl _) (bstring_q b7 v11 r8  g12) rfl ?_)
  rintro _ _ ⟨rfl, rfl⟩
  refine wa rfl (wa rfl (wl_x (wc_ret ?_)))
  obtain rfl := some_e h13
  exact wk_ret (r_2 Tryz.results44 (rv_t rfl) (rv_t rfl)) sN ⟨rfl, rfl⟩

end Go.Proofs.YtpmiamphppcfeaaGreatDoor.Q

/-
 What functions compute, with checks: plain definitions, printed by a small program of ours (gq.py). No program in sight.
-/
namespace Go.Proofs.YtpmiamphppcfeaaGreatDoor
open Go
set_option linter.unusedVariables false
structure TValueReader where
 fS : Str
 fAt : Int
 fCells : (List TApiCell)
 fGreat : Bool
 deriving DecidableEq, Inhabited
def slHasPrefix (s : Str) (p : Str) : Option (Bool) :=
 chk (imp (decide ((p.length : Int) ≤ (s.length : Int))) (inC (p.length : Int) (s.length : Int))) <| some ((decide ((p.length : Int) ≤ (s.length : Int))) && (decide ((List.take (Int.toNat (p.length : Int)) s) = p)))

def hasPrefix (s : Str) (p : Str) : Option (Bool) :=
 obn (slHasPrefix s p) fun r1 => some r1

def vTake (q : TValueReader) (s : Str) : Option (Bool × TValueReader) :=
 chk (inC q.fAt (q.fS.length : Int)) <| obn (hasPrefix (List.drop (Int.toNat q.fAt) q.fS) s) fun r3 => cnd (!r3) (some (false, q)) (chk (inK .i64 (q.fAt + (s.length : Int))) <| some (true, (TValueReader.mk q.fS (q.fAt + (s.length : Int)) q.fCells q.fGreat)))

def vRStr_j2 (x366 : (List Int)) (x462 : Int) (x463 : Int) : Option (Stp ((List Int) × Int) (Out (Str × Bool × TValueReader) (Int))) :=
 chk (inA 1 (x366.length + ([x462] : List Int).length)) <| some (.next (x366 ++ ([x462] : List Int), x463))

def vRStr_b1 (r1 : Bool × TValueReader) (x366 : (List Int)) (x368 : Int) : Option (Stp ((List Int) × Int) (Out (Str × Bool × TValueReader) (Int))) :=
 cnd (decide (x368 < (r1.2.fS.length : Int))) (chk (inR x368 (r1.2.fS.length : Int)) <| chk (inK .i64 (x368 + 1)) <| cnd (decide ((bat r1.2.fS x368) = 34)) (some (.out (.ret (ofI x366, true, (TValueReader.mk r1.2.fS (x368 + 1) r1.2.fCells r1.2.fGreat))))) (cnd (((decide ((bat r1.2.fS x368) < 32)) || (decide (126 < (bat r1.2.fS x368))))) (some (.out (.ret (([] : Str), false, (TValueReader.mk r1.2.fS (x368 + 1) r1.2.fCells r1.2.fGreat))))) (cnd (decide ((bat r1.2.fS x368) = 92)) (chk (imp (!(decide ((r1.2.fS.length : Int) ≤ (x368 + 1)))) (inR (x368 + 1) (r1.2.fS.length : Int))) <| cnd (((decide ((r1.2.fS.length : Int) ≤ (x368 + 1))) || ((!decide ((bat r1.2.fS (x368 + 1)) = 34)) && (!decide ((bat r1.2.fS (x368 + 1)) = 92))))) (some (.out (.ret (([] : Str), false, (TValueReader.mk r1.2.fS (x368 + 1) r1.2.fCells r1.2.fGreat))))) (chk (inR (x368 + 1) (r1.2.fS.length : Int)) <| chk (inK .i64 ((x368 + 1) + 1)) <| vRStr_j2 x366 (bat r1.2.fS (x368 + 1)) ((x368 + 1) + 1))) (vRStr_j2 x366 (bat r1.2.fS x368) (x368 + 1))))) (some (.out (.go x368)))

def vRStr_k1 (r1 : Bool × TValueReader) (x425 : Int) : Option (Str × Bool × TValueReader) :=
 some (([] : Str), false, (TValueReader.mk r1.2.fS x425 r1.2.fCells r1.2.fGreat))

def vRStr (F : Nat) (q : TValueReader) : Option (Str × Bool × TValueReader) :=
 obn (vTake q ([34] : Str)) fun r1 => cnd (!r1.1) (some (([] : Str), false, r1.2)) (obn (lop (fun σ => vRStr_b1 r1 σ.1 σ.2) F (([] : List Int), r1.2.fAt)) (oute fun ν => vRStr_k1 r1 ν))

def vRInt_b1 (r1 : Bool × TValueReader) (x75 : Int) : Option (Stp (Int) (Out (Bool × TValueReader) (Int))) :=
 chk (imp (decide (x75 < (r1.2.fS.length : Int))) (inR x75 (r1.2.fS.length : Int))) <| cnd (((decide (x75 < (r1.2.fS.length : Int))) && ((decide (48 ≤ (bat r1.2.fS x75))) && (decide ((bat r1.2.fS x75) ≤ 57))))) (chk (inK .i64 (x75 + 1)) <| some (.next (x75 + 1))) (some (.out (.go x75)))

def vRInt_k1 (q : TValueReader) (r1 : Bool × TValueReader) (x85 : Int) : Option (Bool × TValueReader) :=
 chk (inC q.fAt x85) <| chk (inC x85 (r1.2.fS.length : Int)) <| chk (inA 1 (List.take (Int.toNat x85 - Int.toNat q.fAt) (List.drop (Int.toNat q.fAt) r1.2.fS)).length) <| cnd (((decide ((parseE (List.take (Int.toNat x85 - Int.toNat q.fAt) (List.drop (Int.toNat q.fAt) r1.2.fS))) = 1)) || (decide (r1.2.fAt = x85)))) (some (false, (TValueReader.mk r1.2.fS x85 r1.2.fCells r1.2.fGreat))) (chk (inA 40 (r1.2.fCells.length + ([(TApiCell.mk 3 (parseV (List.take (Int.toNat x85 - Int.toNat q.fAt) (List.drop (Int.toNat q.fAt) r1.2.fS))) ([] : Str) 0)] : List TApiCell).length)) <| some (true, (TValueReader.mk r1.2.fS x85 (r1.2.fCells ++ ([(TApiCell.mk 3 (parseV (List.take (Int.toNat x85 - Int.toNat q.fAt) (List.drop (Int.toNat q.fAt) r1.2.fS))) ([] : Str) 0)] : List TApiCell)) (r1.2.fGreat || (!decide ((parseE (List.take (Int.toNat x85 - Int.toNat q.fAt) (List.drop (Int.toNat q.fAt) r1.2.fS))) = 0))))))

def vRInt (F : Nat) (q : TValueReader) : Option (Bool × TValueReader) :=
 obn (vTake q ([45] : Str)) fun r1 => obn (lop (fun σ => vRInt_b1 r1 σ) F r1.2.fAt) (oute fun ν => vRInt_k1 q r1 ν)

def vRScalar_j1 (x57 : Str) (x58 : Int) (x59 : (List TApiCell)) (x61 : Bool) : Option (Bool × TValueReader) :=
 some (true, (TValueReader.mk x57 x58 x59 x61))

def vRScalar (F : Nat) (q : TValueReader) : Option (Bool × TValueReader) :=
 obn (vTake q ([110, 117, 108, 108] : Str)) fun r62 => cnd (r62.1) (chk (inA 40 (r62.2.fCells.length + ([(TApiCell.mk 1 0 ([] : Str) 0)] : List TApiCell).length)) <| vRScalar_j1 r62.2.fS r62.2.fAt (r62.2.fCells ++ ([(TApiCell.mk 1 0 ([] : Str) 0)] : List TApiCell)) r62.2.fGreat) (obn (vTake r62.2 ([116, 114, 117, 101] : Str)) fun r73 => cnd (r73.1) (chk (inA 40 (r73.2.fCells.length + ([(TApiCell.mk 2 1 ([] : Str) 0)] : List TApiCell).length)) <| vRScalar_j1 r73.2.fS r73.2.fAt (r73.2.fCells ++ ([(TApiCell.mk 2 1 ([] : Str) 0)] : List TApiCell)) r73.2.fGreat) (obn (vTake r73.2 ([102, 97, 108, 115, 101] : Str)) fun r84 => cnd (r84.1) (chk (inA 40 (r84.2.fCells.length + ([(TApiCell.mk 2 0 ([] : Str) 0)] : List TApiCell).length)) <| vRScalar_j1 r84.2.fS r84.2.fAt (r84.2.fCells ++ ([(TApiCell.mk 2 0 ([] : Str) 0)] : List TApiCell)) r84.2.fGreat) (chk (inC r84.2.fAt (r84.2.fS.length : Int)) <| obn (hasPrefix (List.drop (Int.toNat r84.2.fAt) r84.2.fS) ([34] : Str)) fun r97 => cnd (r97) (obn (vRStr F r84.2) fun r102 => cnd (!r102.2.1) (some (false, r102.2.2)) (chk (inA 40 (r102.2.2.fCells.length + ([(TApiCell.mk 4 0 r102.1 0)] : List TApiCell).length)) <| vRScalar_j1 r102.2.2.fS r102.2.2.fAt (r102.2.2.fCells ++ ([(TApiCell.mk 4 0 r102.1 0)] : List TApiCell)) r102.2.2.fGreat)) (obn (vRInt F r84.2) fun r114 => some (r114.1, r114.2)))))

def vRValue_b2 (rec_vRValue : TValueReader → Option (Bool × TValueReader)) (x16 : (List TApiCell)) (x107 : Int) (x108 : Str) (x109 : Int) (x110 : (List TApiCell)) (x112 : Bool) : Option (Stp (Int × Str × Int × (List TApiCell) × Bool) (Out (Bool × TValueReader) (Unit))) :=
 obn (rec_vRValue (TValueReader.mk x108 x109 x110 x112)) fun r150 => cnd (!r150.1) (some (.out (.ret (false, r150.2)))) (chk (inR (x16.length : Int) (r150.2.fCells.length : Int)) <| bnd (List.set r150.2.fCells (Int.toNat (x16.length : Int)) (TApiCell.mk ((at' r150.2.fCells (x16.length : Int)).fKind) ((at' r150.2.fCells (x16.length : Int)).fInt) ((at' r150.2.fCells (x16.length : Int)).fStr) x107)) fun r160 => obn (vTake (TValueReader.mk r150.2.fS r150.2.fAt r160 r150.2.fGreat) ([93] : Str)) fun r163 => cnd (r163.1) (some (.out (.ret (true, r163.2)))) (obn (vTake r163.2 ([44] : Str)) fun r171 => cnd (!r171.1) (some (.out (.ret (false, r171.2)))) (chk (inK .i64 (x107 + 1)) <| some (.next (x107 + 1, r171.2.fS, r171.2.fAt, r171.2.fCells, r171.2.fGreat)))))

def vRValue_k2  : Option (Bool × TValueReader) :=
 none

def vRValue_j4 (rec_vRValue : TValueReader → Option (Bool × TValueReader)) (x16 : (List TApiCell)) (x349 : Int) (r449 : Str × Bool × TValueReader) (x473 : Bool) (x474 : Bool) (x475 : Bool) (x476 : Str) (x477 : Int) (x478 : (List TApiCell)) (x480 : Bool) : Option (Stp (Str × Int × Str × Int × (List TApiCell) × Bool) (Out (Bool × TValueReader) (Unit))) :=
 cnd (x475) (some (.out (.ret (false, (TValueReader.mk x476 x477 x478 x480))))) (chk (inA 40 (x478.length + ([(TApiCell.mk 4 0 r449.1 0)] : List TApiCell).length)) <| obn (rec_vRValue (TValueReader.mk x476 x477 (x478 ++ ([(TApiCell.mk 4 0 r449.1 0)] : List TApiCell)) x480)) fun r507 => cnd (!r507.1) (some (.out (.ret (false, r507.2)))) (chk (inR (x16.length : Int) (r507.2.fCells.length : Int)) <| bnd (List.set r507.2.fCells (Int.toNat (x16.length : Int)) (TApiCell.mk ((at' r507.2.fCells (x16.length : Int)).fKind) ((at' r507.2.fCells (x16.length : Int)).fInt) ((at' r507.2.fCells (x16.length : Int)).fStr) x349)) fun r517 => obn (vTake (TValueReader.mk r507.2.fS r507.2.fAt r517 r507.2.fGreat) ([125] : Str)) fun r520 => cnd (r520.1) (some (.out (.ret (true, r520.2)))) (obn (vTake r520.2 ([44] : Str)) fun r528 => cnd (!r528.1) (some (.out (.ret (false, r528.2)))) (chk (inK .i64 (x349 + 1)) <| some (.next (r449.1, x349 + 1, r528.2.fS, r528.2.fAt, r528.2.fCells, r528.2.fGreat))))))

def vRValue_b3 (F : Nat) (rec_vRValue : TValueReader → Option (Bool × TValueReader)) (x16 : (List TApiCell)) (x348 : Str) (x349 : Int) (x350 : Str) (x351 : Int) (x352 : (List TApiCell)) (x354 : Bool) : Option (Stp (Str × Int × Str × Int × (List TApiCell) × Bool) (Out (Bool × TValueReader) (Unit))) :=
 obn (vRStr F (TValueReader.mk x350 x351 x352 x354)) fun r449 => cnd (!r449.2.1) (vRValue_j4 rec_vRValue x16 x349 r449 true true true r449.2.2.fS r449.2.2.fAt r449.2.2.fCells r449.2.2.fGreat) (cnd (decide (1 < x349)) (cnd (sLess r449.1 x348 || decide (r449.1 = x348)) (vRValue_j4 rec_vRValue x16 x349 r449 (sLess r449.1 x348 || decide (r449.1 = x348)) (sLess r449.1 x348 || decide (r449.1 = x348)) true r449.2.2.fS r449.2.2.fAt r449.2.2.fCells r449.2.2.fGreat) (obn (vTake r449.2.2 ([58] : Str)) fun r489 => vRValue_j4 rec_vRValue x16 x349 r449 (sLess r449.1 x348 || decide (r449.1 = x348)) (sLess r449.1 x348 || decide (r449.1 = x348)) (!r489.1) r489.2.fS r489.2.fAt r489.2.fCells r489.2.fGreat)) (obn (vTake r449.2.2 ([58] : Str)) fun r494 => vRValue_j4 rec_vRValue x16 x349 r449 false false (!r494.1) r494.2.fS r494.2.fAt r494.2.fCells r494.2.fGreat))

def vRValue_k3  : Option (Bool × TValueReader) :=
 none

def vRValue_j1 (F : Nat) (rec_vRValue : TValueReader → Option (Bool × TValueReader)) (r1 : Bool × TValueReader) (x13 : Bool) (x14 : Str) (x15 : Int) (x16 : (List TApiCell)) (x18 : Bool) : Option (Bool × TValueReader) :=
 cnd (x13) (obn (vRScalar F (TValueReader.mk x14 x15 x16 x18)) fun r29 => some (r29.1, r29.2)) (cnd (r1.1) (chk (inA 40 (x16.length + ([(TApiCell.mk 5 0 ([] : Str) 0)] : List TApiCell).length)) <| obn (vTake (TValueReader.mk x14 x15 (x16 ++ ([(TApiCell.mk 5 0 ([] : Str) 0)] : List TApiCell)) x18) ([93] : Str)) fun r40 => cnd (r40.1) (some (true, r40.2)) (obn (lop (fun σ => vRValue_b2 rec_vRValue x16 σ.1 σ.2.1 σ.2.2.1 σ.2.2.2.1 σ.2.2.2.2) F (1, r40.2.fS, r40.2.fAt, r40.2.fCells, r40.2.fGreat)) (oute fun ν => vRValue_k2 ))) (chk (inA 40 (x16.length + ([(TApiCell.mk 6 0 ([] : Str) 0)] : List TApiCell).length)) <| obn (vTake (TValueReader.mk x14 x15 (x16 ++ ([(TApiCell.mk 6 0 ([] : Str) 0)] : List TApiCell)) x18) ([125] : Str)) fun r188 => cnd (r188.1) (some (true, r188.2)) (obn (lop (fun σ => vRValue_b3 F rec_vRValue x16 σ.1 σ.2.1 σ.2.2.1 σ.2.2.2.1 σ.2.2.2.2.1 σ.2.2.2.2.2) F (([] : Str), 1, r188.2.fS, r188.2.fAt, r188.2.fCells, r188.2.fGreat)) (oute fun ν => vRValue_k3 ))))

def vRValuem (F : Nat) (rec_vRValue : TValueReader → Option (Bool × TValueReader)) (q : TValueReader) : Option (Bool × TValueReader) :=
 obn (vTake q ([91] : Str)) fun r1 => cnd (!r1.1) (obn (vTake r1.2 ([123] : Str)) fun r21 => vRValue_j1 F rec_vRValue r1 (!r21.1) r21.2.fS r21.2.fAt r21.2.fCells r21.2.fGreat) (vRValue_j1 F rec_vRValue r1 false r1.2.fS r1.2.fAt r1.2.fCells r1.2.fGreat)

def vRValue : Nat → TValueReader → Option (Bool × TValueReader)
 | 0, _ => none
 | nn + 1, q => vRValuem nn (vRValue nn) q

def vDecode_j1 (F : Nat) (x12 : Bool) (x13 : Str) (x14 : Int) (x15 : (List TApiCell)) (x17 : Bool) : Option ((List TApiCell) × Int) :=
 cnd (x12) (some (([] : List TApiCell), 1)) (cnd (x17) (some (([] : List TApiCell), 2)) (obn (vChecked F x15) fun r32 => some (r32.1, r32.2)))

def vDecode (F : Nat) (s : Str) : Option ((List TApiCell) × Int) :=
 cnd (decide (4000 < (s.length : Int))) (some (([] : List TApiCell), 3)) (obn (vRValue F (TValueReader.mk s 0 ([] : List TApiCell) false)) fun r18 => cnd (!r18.1) (vDecode_j1 F true r18.2.fS r18.2.fAt r18.2.fCells r18.2.fGreat) (vDecode_j1 F (!decide (r18.2.fAt = (s.length : Int))) r18.2.fS r18.2.fAt r18.2.fCells r18.2.fGreat))

end Go.Proofs.YtpmiamphppcfeaaGreatDoor
