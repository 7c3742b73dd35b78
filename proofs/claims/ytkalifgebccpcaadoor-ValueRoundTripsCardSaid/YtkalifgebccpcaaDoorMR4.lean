/-
  Texts of the proof, put together: WVh, OkValueRoundTrips, LvA, LvB, LvC, LvD, LvE, LvF, LvG, LvH, LvI, LvJ, LvK, LvL, LvM, LvN, LdA, LdB, LdC.
-/
import Derived.Test.YtkalifgebccpcaaDoorMR3
import GoSem.ClaimData
/-
  Walks, printed by a small program of ours (gq.py).
-/
namespace Go.Proofs.YtkalifgebccpcaaDoor.Q
open Go Go.RowKit
set_option linter.unusedVariables false
set_option linter.unusedSimpArgs false
set_option maxRecDepth 100000
set_option maxHeartbeats 4000000
theorem vGetF_w (b_key : Nat) (b_out : Nat) (k : Str) (x : (List TApiCell)) (key : Str) (out : (List TApiCell)) (r : Bool × (List TApiCell)) (h : vGetF k x key out = some r) : Fn Tryd.prog GE 37 [rS k, rSl 4 (List.map eTApiCell x), rv (.pointer (some ⟨b_key, 0, none⟩)), rv (.pointer (some ⟨b_out, 0, none⟩))] [.blk b_key [rS key] 9, .blk b_out [rSn 4 (List.map eTApiCell out)] 22] (fun R H => R = rB r.1 ∧ H = [.blk b_key [rS key] 9, .blk b_out [rSn 4 (List.map eTApiCell r.2)] 22]) := by
 refine enter (n := 15) Tryd.func37 rfl Tryd.ntmps37 rfl (fun w Z => ?_)
 refine wc_as (l' := [(0, rS k), (1, rSl 4 (List.map eTApiCell x)), (2, rv (.pointer (some ⟨b_key, 0, none⟩))), (3, rv (.pointer (some ⟨b_out, 0, none⟩)))]) (H' := [.blk b_key [rS key] 9, .blk b_out [rSn 4 (List.map eTApiCell out)] 22]) rfl rfl ?_
 unfold vGetF at h
 refine wc_sr ?_
 refine wv (r := rB false) (o_assign rfl) ?_
 refine wl_x ?_
 refine wc_seq ?_
 refine wc_sr ?_
 refine wm rfl ?_
 refine wv (o_load (i := 0) Tryd.isAgg9 rfl rfl rfl) ?_
 refine wv (o_seq rfl rfl) ?_
 refine wl_x ?_
 refine wc_cond (b := decide (k = key)) rfl (fun c1 => ?_) (fun c1 => ?_)
 ·have h2 := cnd_t c1 h
  refine wc_region ?_
  refine wm rfl ?_
  obtain ⟨r3, e5, h4⟩ := obn_e h2
  refine wc0 Tryd.call38 (cloneN_w x r3 e5) rfl ?_
  obtain ⟨g6, h7⟩ := chk_e h4
  refine WL.up (d := 11) (r := rSn 4 (List.map eTApiCell r3)) rfl (Up.le (Rle.upn g6)) ?_
  refine u_store (i := 1) Tryd.sizeOf22 rfl rfl (one_c rfl) rfl rfl (cs' := [rSn 4 (List.map eTApiCell r3)]) rfl (H' := [.blk b_key [rS key] 9, .blk b_out [rSn 4 (List.map eTApiCell r3)] 22]) rfl ?_
  refine wl_y ?_
  refine wm rfl ?_
  refine wv (o_load (i := 0) Tryd.isAgg9 rfl rfl rfl) ?_
  refine wv (o_sne rfl rfl) ?_
  refine wa rfl ?_
  refine wl_x ?_
  refine wc_ret ?_
  obtain rfl := some_e h7
  exact wk_ret (r_1 Tryd.results37 (rv_t rfl)) (sC (sC sN)) ⟨rfl, rfl⟩
 ·have h8 := cnd_f c1 h
  refine wc_skip ?_
  refine wk_x ?_
  refine wc_sr ?_
  refine wm rfl ?_
  refine wv (o_load (i := 0) Tryd.isAgg9 rfl rfl rfl) ?_
  refine wv (o_sne rfl rfl) ?_
  refine wa rfl ?_
  refine wl_x ?_
  refine wc_ret ?_
  obtain rfl := some_e h8
  exact wk_ret (r_1 Tryd.results37 (rv_t rfl)) (sC (sC sN)) ⟨rfl, rfl⟩

theorem vGetP_w (F : Nat) (b_key : Nat) (b_out : Nat) (v : (List TApiCell)) (key : Str) (out : (List TApiCell)) (r : (List TApiCell)) (h : vGetP F v key out = some r) : Fn Tryd.prog GE 35 [rSl 4 (List.map eTApiCell v), rv (.func (.func 37) #[] #[(.pointer (some ⟨b_key, 0, none⟩)), (.pointer (some ⟨b_out, 0, none⟩))])] [.blk b_key [rS key] 9, .blk b_out [rSn 4 (List.map eTApiCell out)] 22] (fun R H => R = rv (.tuple #[]) ∧ H = [.blk b_key [rS key] 9, .blk b_out [rSn 4 (List.map eTApiCell r)] 22]) := by
 refine enter (n := 52) Tryd.func35 rfl Tryd.ntmps35 rfl (fun w Z => ?_)
 refine wc_as (l' := [(0, rSl 4 (List.map eTApiCell v)), (1, rv (.func (.func 37) #[] #[(.pointer (some ⟨b_key, 0, none⟩)), (.pointer (some ⟨b_out, 0, none⟩))]))]) (H' := [.blk b_key [rS key] 9, .blk b_out [rSn 4 (List.map eTApiCell out)] 22]) rfl rfl ?_
 unfold vGetP at h
 refine wc_sr ?_
 refine wv (r := rI .i64 1) (o_assign rfl) ?_
 refine wl_y ?_
 refine wm rfl ?_
 obtain ⟨g1, h2⟩ := chk_e h
 refine wv (o_ix_z (enc := eTApiCell) (ys := v) Tryd.underlying22 Tryd.sizeOf40 rfl rfl g1) ?_
 refine wv (o_fieldAddr_z Tryd.underlying40 rfl Tryd.sizeOf3 rfl rfl) ?_
 refine wv (o_load_z Tryd.isAgg3 rfl rfl) ?_
 refine wv (r := rI .i64 0) (o_move rfl) ?_
 refine wl_x ?_
 refine wc_block ?_
 obtain ⟨o154, eo155, hK156⟩ := obn_e h2
 refine wc_loop2 (S := Nat × (Int × Int × (List TApiCell)) × (Unit)) (V := ((List TApiCell)) × (Unit)) 0 (fun σ => lop (fun σ => vGetP_b1 F v key σ.1 σ.2.1 σ.2.2) σ.1 σ.2.1 = some o154) (fun σ => [(0, rSl 4 (List.map eTApiCell v)), (1, rv (.func (.func 37) #[] #[(.pointer (some ⟨b_key, 0, none⟩)), (.pointer (some ⟨b_out, 0, none⟩))])), (4, rI .i64 σ.2.1.1), (12, rI .i64 ((at' v 0).fN)), (13, rI .i64 σ.2.1.2.1)]) (fun σ => [.blk b_key [rS key] 9, .blk b_out [rSn 4 (List.map eTApiCell σ.2.1.2.2)] 22]) (fun σ => σ.1) (F, (1, 0, out), ()) eo155 (Sub.c5 rfl rfl rfl rfl rfl Sub.nil) (sC (sC sN)) (fun σ => vGetP_k1 σ.1 = some r) (fun σ => []) (fun σ => [.blk b_key [rS key] 9, .blk b_out [rSn 4 (List.map eTApiCell σ.1)] 22]) ?_ ?_
 ·rintro ⟨n162, ⟨x100, x101, x102⟩, ⟨⟩⟩ hi160
  refine wc_as (l' := [(0, rSl 4 (List.map eTApiCell v)), (1, rv (.func (.func 37) #[] #[(.pointer (some ⟨b_key, 0, none⟩)), (.pointer (some ⟨b_out, 0, none⟩))])), (4, rI .i64 x100), (12, rI .i64 ((at' v 0).fN)), (13, rI .i64 x101)]) (H' := [.blk b_key [rS key] 9, .blk b_out [rSn 4 (List.map eTApiCell x102)] 22]) rfl rfl ?_
  obtain ⟨m159, rfl, t157, h161, ht158⟩ := lop_e hi160
  replace h161 : vGetP_b1 F v key x100 x101 x102 = some t157 := h161
  unfold vGetP_b1 at h161
  refine wc_sr ?_
  refine wv (o_lt rfl rfl) ?_
  refine wl_x ?_
  refine wc_seq ?_
  refine wc_cond (b := decide (x101 < ((at' v 0).fN))) rfl (fun c163 => ?_) (fun c163 => ?_)
  ·have h164 := cnd_t c163 h161
   refine wc_skip ?_
   refine wk_x ?_
   refine wc_seq ?_
   refine wc_block ?_
   refine wc_sr ?_
   refine wv (r := rS ([] : Str)) (o_assign rfl) ?_
   refine wl_x ?_
   refine wc_seq ?_
   refine wc_sr ?_
   refine wm rfl ?_
   refine wv (o_ix_z (enc := eTApiCell) (ys := v) Tryd.underlying22 Tryd.sizeOf40 rfl rfl g1) ?_
   refine wv (o_fieldAddr_z Tryd.underlying40 rfl Tryd.sizeOf38 rfl rfl) ?_
   refine wv (o_load_z Tryd.isAgg38 rfl rfl) ?_
   refine wv (o_eq rfl rfl) ?_
   refine wl_x ?_
   refine wc_cond (b := decide (((at' v 0).fKind) = 6)) rfl (fun c165 => ?_) (fun c165 => ?_)
   ·have h166 := cnd_t c165 h164
    refine wc_sr ?_
    refine wm rfl ?_
    refine wm rfl ?_
    obtain ⟨g167, h168⟩ := chk_e h166
    refine wv (o_ix_z (enc := eTApiCell) (ys := v) Tryd.underlying22 Tryd.sizeOf40 rfl rfl g167) ?_
    refine wv (o_fieldAddr_z Tryd.underlying40 rfl Tryd.sizeOf9 rfl rfl) ?_
    refine wv (o_load_z Tryd.isAgg9 rfl rfl) ?_
    refine wa rfl ?_
    refine wl_x ?_
    refine wc_region ?_
    refine wm rfl ?_
    obtain ⟨g169, h170⟩ := chk_e h168
    refine wv (o_add rfl rfl g169) ?_
    refine wa rfl ?_
    refine wl_y ?_
    refine wm rfl ?_
    refine wm rfl ?_
    obtain ⟨g171, h172⟩ := chk_e h170
    refine wv (r := rSl 4 (List.map eTApiCell (List.drop (Int.toNat (x100 + 1)) v))) (o_slice_zl Tryd.underlying22 Tryd.sizeOf40 rfl rfl g171) ?_
    obtain ⟨r173, e175, h174⟩ := obn_e h172
    refine wc0 Tryd.call27 (vLook_w F (List.drop (Int.toNat (x100 + 1)) v) r173 e175) rfl ?_
    refine wm rfl ?_
    refine wv (o_extract rfl rfl) ?_
    refine wv (o_extract rfl rfl) ?_
    refine wv (o_extract rfl rfl) ?_
    refine w_alloc (cs := [rI .i64 0, rI .i64 0, rB false, rB false]) Tryd.zeroValue55 rfl rfl (fun b176 => ?_)
    refine wa rfl ?_
    refine u_store_agg (i := 0) Tryd.sizeOf55 rfl rfl rfl (OneAll.c rfl) rfl rfl (cs' := [rI .i64 r173.2.1.fDepth, rI .i64 r173.2.1.fBytes, rB r173.2.1.fOutside, rB r173.2.1.fLong]) rfl (H' := [.blk b176 (eTValueShape r173.2.1) 55, .blk b_key [rS key] 9, .blk b_out [rSn 4 (List.map eTApiCell x102)] 22]) rfl ?_
    refine wa rfl ?_
    refine wl_x ?_
    refine wc_seq ?_
    refine wc_sr ?_
    refine wm rfl ?_
    refine wm rfl ?_
    refine wm rfl ?_
    refine wm rfl ?_
    refine wm rfl ?_
    refine wm rfl ?_
    obtain ⟨g177, h178⟩ := chk_e h174
    refine wv (o_add rfl rfl g177) ?_
    refine wm rfl ?_
    refine wm rfl ?_
    refine wv (o_add rfl rfl g177) ?_
    obtain ⟨g179, h180⟩ := chk_e h178
    obtain ⟨g181, h182⟩ := chk_e h180
    refine wv (r := rSl 4 (List.map eTApiCell (List.take (Int.toNat ((x100 + 1) + r173.1) - Int.toNat (x100 + 1)) (List.drop (Int.toNat (x100 + 1)) v)))) (o_slice_zm Tryd.underlying22 Tryd.sizeOf40 rfl rfl rfl rfl g179 g181) ?_
    obtain ⟨r183, e185, h184⟩ := obn_e h182
    refine w_callc (rs := [rS ((at' v x100).fStr), rSl 4 (List.map eTApiCell (List.take (Int.toNat ((x100 + 1) + r173.1) - Int.toNat (x100 + 1)) (List.drop (Int.toNat (x100 + 1)) v)))]) (Hin := [.blk b_key [rS key] 9, .blk b_out [rSn 4 (List.map eTApiCell x102)] 22]) (Hr := [.blk b176 (eTValueShape r173.2.1) 55]) Tryd.call37 rfl rfl ((perm_front (i := 1) rfl).trans (List.Perm.cons _ ((perm_front (i := 1) rfl).trans (List.Perm.cons _ (List.Perm.refl _))))) (vGetF_w b_key b_out ((at' v x100).fStr) (List.take (Int.toNat ((x100 + 1) + r173.1) - Int.toNat (x100 + 1)) (List.drop (Int.toNat (x100 + 1)) v)) key x102 r183 e185) rfl ?_
    rintro _ _ ⟨rfl, rfl⟩
    refine wv (o_not rfl) ?_
    refine wl_x ?_
    refine wc_cond (b := !r183.1) rfl (fun c186 => ?_) (fun c186 => ?_)
    ·have h187 := cnd_t c186 h184
     refine wc_ret ?_
     refine wk_then_ret ?_
     refine wk_in_ret ?_
     refine wk_then_ret ?_
     refine wk_then_ret ?_
     refine wk_cut_ret ?_
     have h188 := stp_ret h187 ht158 hK156
     refine wk_in_ret ?_
     obtain rfl := some_e h188
     exact wk_ret (r_0 Tryd.results35) (sC (sC (sS sN))) ⟨rfl, rfl⟩
    ·have h189 := cnd_f c186 h184
     refine wc_skip ?_
     refine wk_x ?_
     refine wc_region ?_
     refine wm rfl ?_
     refine wm rfl ?_
     refine wv (o_add rfl rfl g177) ?_
     refine wa rfl ?_
     refine wl_nil ?_
     refine wk_in_norm ?_
     refine wk_x ?_
     refine wc_region ?_
     obtain ⟨g190, h191⟩ := chk_e h189
     refine wv (o_add rfl rfl g190) ?_
     refine wm rfl ?_
     refine wl_nil ?_
     have h192 := stp_next h191 ht158
     exact wk_then (wk_some (m159, ((x100 + 1) + r173.1, x101 + 1, r183.2), ()) ⟨h192, Nat.lt_succ_self _⟩ (Sub.c5 rfl rfl rfl rfl rfl Sub.nil) (sC (sC (sS sN))))
   ·have h193 := cnd_f c165 h164
    refine wc_skip ?_
    refine wk_x ?_
    refine wc_sr ?_
    refine wm rfl ?_
    refine wm rfl ?_
    obtain ⟨g194, h195⟩ := chk_e h193
    refine wv (r := rSl 4 (List.map eTApiCell (List.drop (Int.toNat x100) v))) (o_slice_zl Tryd.underlying22 Tryd.sizeOf40 rfl rfl g194) ?_
    obtain ⟨r196, e198, h197⟩ := obn_e h195
    refine wc0 Tryd.call27 (vLook_w F (List.drop (Int.toNat x100) v) r196 e198) rfl ?_
    refine wm rfl ?_
    refine wv (o_extract rfl rfl) ?_
    refine wv (o_extract rfl rfl) ?_
    refine wv (o_extract rfl rfl) ?_
    refine w_alloc (cs := [rI .i64 0, rI .i64 0, rB false, rB false]) Tryd.zeroValue55 rfl rfl (fun b199 => ?_)
    refine wa rfl ?_
    refine u_store_agg (i := 0) Tryd.sizeOf55 rfl rfl rfl (OneAll.c rfl) rfl rfl (cs' := [rI .i64 r196.2.1.fDepth, rI .i64 r196.2.1.fBytes, rB r196.2.1.fOutside, rB r196.2.1.fLong]) rfl (H' := [.blk b199 (eTValueShape r196.2.1) 55, .blk b_key [rS key] 9, .blk b_out [rSn 4 (List.map eTApiCell x102)] 22]) rfl ?_
    refine wa rfl ?_
    refine wl_x ?_
    refine wc_seq ?_
    refine wc_sr ?_
    refine wm rfl ?_
    refine wm rfl ?_
    refine wm rfl ?_
    refine wm rfl ?_
    refine wm rfl ?_
    refine wm rfl ?_
    obtain ⟨g200, h201⟩ := chk_e h197
    refine wv (o_add rfl rfl g200) ?_
    refine wm rfl ?_
    refine wm rfl ?_
    refine wv (o_add rfl rfl g200) ?_
    obtain ⟨g202, h203⟩ := chk_e h201
    obtain ⟨g204, h205⟩ := chk_e h203
    refine wv (r := rSl 4 (List.map eTApiCell (List.take (Int.toNat (x100 + r196.1) - Int.toNat x100) (List.drop (Int.toNat x100) v)))) (o_slice_zm Tryd.underlying22 Tryd.sizeOf40 rfl rfl rfl rfl g202 g204) ?_
    obtain ⟨r206, e208, h207⟩ := obn_e h205
    refine w_callc (rs := [rS ([] : Str), rSl 4 (List.map eTApiCell (List.take (Int.toNat (x100 + r196.1) - Int.toNat x100) (List.drop (Int.toNat x100) v)))]) (Hin := [.blk b_key [rS key] 9, .blk b_out [rSn 4 (List.map eTApiCell x102)] 22]) (Hr := [.blk b199 (eTValueShape r196.2.1) 55]) Tryd.call37 rfl rfl ((perm_front (i := 1) rfl).trans (List.Perm.cons _ ((perm_front (i := 1) rfl).trans (List.Perm.cons _ (List.Perm.refl _))))) (vGetF_w b_key b_out ([] : Str) (List.take (Int.toNat (x100 + r196.1) - Int.toNat x100) (List.drop (Int.toNat x100) v)) key x102 r206 e208) rfl ?_
    rintro _ _ ⟨rfl, rfl⟩
    refine wv (o_not rfl) ?_
    refine wl_x ?_
    refine wc_cond (b := !r206.1) rfl (fun c209 => ?_) (fun c209 => ?_)
    ·have h210 := cnd_t c209 h207
     refine wc_ret ?_
     refine wk_then_ret ?_
     refine wk_in_ret ?_
     refine wk_then_ret ?_
     refine wk_then_ret ?_
     refine wk_cut_ret ?_
     have h211 := stp_ret h210 ht158 hK156
     refine wk_in_ret ?_
     obtain rfl := some_e h211
     exact wk_ret (r_0 Tryd.results35) (sC (sC (sS sN))) ⟨rfl, rfl⟩
    ·have h212 := cnd_f c209 h207
     refine wc_skip ?_
     refine wk_x ?_
     refine wc_region ?_
     refine wm rfl ?_
     refine wm rfl ?_
     refine wv (o_add rfl rfl g200) ?_
     refine wa rfl ?_
     refine wl_nil ?_
     refine wk_in_norm ?_
     refine wk_x ?_
     refine wc_region ?_
     obtain ⟨g213, h214⟩ := chk_e h212
     refine wv (o_add rfl rfl g213) ?_
     refine wm rfl ?_
     refine wl_nil ?_
     have h215 := stp_next h214 ht158
     exact wk_then (wk_some (m159, (x100 + r196.1, x101 + 1, r206.2), ()) ⟨h215, Nat.lt_succ_self _⟩ (Sub.c5 rfl rfl rfl rfl rfl Sub.nil) (sC (sC (sS sN))))
  ·have h216 := cnd_f c163 h161
   refine wc_exit ?_
   refine wk_then_exit ?_
   have h217 := stp_go h216 ht158 hK156
   exact wk_then_exit (wk_cut_hit (wk_some (x102, ()) h217 Sub.nil (sC (sC sN))))
 ·rintro ⟨x153, ⟨⟩⟩ h218
  refine wk_as (l' := []) (H' := [.blk b_key [rS key] 9, .blk b_out [rSn 4 (List.map eTApiCell x153)] 22]) rfl rfl ?_
  replace h218 : vGetP_k1 x153 = some r := h218
  unfold vGetP_k1 at h218
  refine wk_in_hit ?_
  obtain rfl := some_e h218
  exact wk_end (r_0 Tryd.results35) (sC (sC sN)) ⟨rfl, rfl⟩

theorem vGet_w (F : Nat) (v : (List TApiCell)) (key : Str) (r : (List TApiCell) × Int) (h : vGet F v key = some r) : Fn Tryd.prog GE 18 [rSl 4 (List.map eTApiCell v), rS key] [] (fun R H => R = rTup [rSl 4 (List.map eTApiCell r.1), rI .i64 r.2] ∧ H = []) := by
 refine enter (n := 24) Tryd.func18 rfl Tryd.ntmps18 rfl (fun w Z => ?_)
 refine wc_as (l' := [(0, rSl 4 (List.map eTApiCell v)), (1, rS key)]) (H' := []) rfl rfl ?_
 unfold vGet at h
 refine wc_sr ?_
 refine w_box rfl (one_c rfl) rfl (fun b1 => ?_)
 refine wv (r := rv (.slice none 0 0)) (o_assign rfl) ?_
 refine wv (r := rI .i64 0) (o_assign rfl) ?_
 refine wl_x ?_
 refine wc_seq ?_
 refine wc_sr ?_
 refine wm rfl ?_
 obtain ⟨r2, e4, h3⟩ := obn_e h
 refine wc0 Tryd.call10 (vCheck_w F v r2 e4) rfl ?_
 refine wa rfl ?_
 refine wl_y ?_
 refine wm rfl ?_
 refine wv (o_ne rfl rfl) ?_
 refine wl_x ?_
 refine wc_cond (b := !decide (r2 = 0)) rfl (fun c5 => ?_) (fun c5 => ?_)
 ·have h6 := cnd_t c5 h3
  refine wc_sr ?_
  refine wm rfl ?_
  refine wv (r := rv (.slice none 0 0)) (o_assign rfl) ?_
  refine wa rfl ?_
  refine wl_x ?_
  refine wc_ret ?_
  refine wk_then_ret ?_
  refine WK.up (d := 4) (r := rSl 4 (List.map eTApiCell ([] : List TApiCell))) rfl (Up.le (Rle.nil _)) ?_
  obtain rfl := some_e h6
  exact wk_ret (r_2 Tryd.results18 (rv_t rfl) (rv_t rfl)) (sS sN) ⟨rfl, rfl⟩
 ·have h7 := cnd_f c5 h3
  refine wc_skip ?_
  refine wk_x ?_
  refine wc_seq ?_
  refine wc_sr ?_
  refine wm rfl ?_
  obtain ⟨g8, h9⟩ := chk_e h7
  refine wv (o_ix_z (enc := eTApiCell) (ys := v) Tryd.underlying22 Tryd.sizeOf40 rfl rfl g8) ?_
  refine wv (o_fieldAddr_z Tryd.underlying40 rfl Tryd.sizeOf38 rfl rfl) ?_
  refine wv (o_load_z Tryd.isAgg38 rfl rfl) ?_
  refine wv (o_ne rfl rfl) ?_
  refine wl_x ?_
  refine wc_cond (b := !decide (((at' v 0).fKind) = 6)) rfl (fun c10 => ?_) (fun c10 => ?_)
  ·have h11 := cnd_t c10 h9
   refine wc_sr ?_
   refine wv (r := rv (.slice none 0 0)) (o_assign rfl) ?_
   refine wv (r := rI .i64 7) (o_assign rfl) ?_
   refine wl_x ?_
   refine wc_ret ?_
   refine wk_then_ret ?_
   refine WK.up (d := 4) (r := rSl 4 (List.map eTApiCell ([] : List TApiCell))) rfl (Up.le (Rle.nil _)) ?_
   obtain rfl := some_e h11
   exact wk_ret (r_2 Tryd.results18 (rv_t rfl) (rv_t rfl)) (sS sN) ⟨rfl, rfl⟩
  ·have h12 := cnd_f c10 h9
   refine wc_skip ?_
   refine wk_x ?_
   refine wc_sr ?_
   refine w_alloc (cs := [rv (.slice none 0 0)]) Tryd.zeroValue22 rfl rfl (fun b13 => ?_)
   refine wl_y ?_
   refine wm rfl ?_
   refine wv (r := rv (.func (.func 37) #[] #[(.pointer (some ⟨b1, 0, none⟩)), (.pointer (some ⟨b13, 0, none⟩))])) (o_makeFunc rfl) ?_
   refine WL.upBlk (i := 0) (cs' := [rSn 4 (List.map eTApiCell ([] : List TApiCell))]) rfl ⟨Up.le (Rle.niln _), trivial⟩ ?_
   obtain ⟨r14, e16, h15⟩ := obn_e h12
   refine wcl (Hr := []) Tryd.call35 (vGetP_w F b1 b13 v key ([] : List TApiCell) r14 e16) rfl ((perm_front (i := 1) rfl).trans (List.Perm.cons _ (List.Perm.refl _))) rfl ?_
   rintro _ _ ⟨rfl, rfl⟩
   refine wl_x ?_
   refine wc_seq ?_
   refine wc_sr ?_
   refine wv (o_load (i := 1) Tryd.isAgg22 rfl rfl rfl) ?_
   refine wv (r := rB (List.isEmpty r14)) (o_slnil_sn Tryd.underlying22 rfl) ?_
   refine wl_x ?_
   refine wc_cond (b := List.isEmpty r14) rfl (fun c17 => ?_) (fun c17 => ?_)
   ·have h18 := cnd_t c17 h15
    refine wc_sr ?_
    refine wv (r := rv (.slice none 0 0)) (o_assign rfl) ?_
    refine wv (r := rI .i64 5) (o_assign rfl) ?_
    refine wl_x ?_
    refine wc_ret ?_
    refine wk_then_ret ?_
    refine WK.up (d := 4) (r := rSl 4 (List.map eTApiCell ([] : List TApiCell))) rfl (Up.le (Rle.nil _)) ?_
    obtain rfl := some_e h18
    exact wk_ret (r_2 Tryd.results18 (rv_t rfl) (rv_t rfl)) (sS (sS sN)) ⟨rfl, rfl⟩
   ·have h19 := cnd_f c17 h15
    refine wc_skip ?_
    refine wk_x ?_
    refine wc_sr ?_
    refine wv (o_load (i := 1) Tryd.isAgg22 rfl rfl rfl) ?_
    refine wa rfl ?_
    refine wv (r := rI .i64 0) (o_assign rfl) ?_
    refine wl_x ?_
    refine wc_ret ?_
    refine WK.up (d := 4) (r := rSl 4 (List.map eTApiCell r14)) rfl (Up.le Rle.sn) ?_
    obtain rfl := some_e h19
    exact wk_ret (r_2 Tryd.results18 (rv_t rfl) (rv_t rfl)) (sS (sS sN)) ⟨rfl, rfl⟩

theorem vPutA_w (b_out : Nat) (v_out_0 : Value) (k : Str) (y : (List TApiCell)) (out : (List TApiCell)) (r : (List TApiCell)) (h : vPutA k y out = some r) : Fn Tryd.prog GE 34 [rS k, rSl 4 (List.map eTApiCell y), rv (.pointer (some ⟨b_out, 0, none⟩))] [.blk b_out [rv v_out_0] 22, .row v_out_0 40 4 (List.map eTApiCell out)] (fun R H => ∃ w2_0 : Value, R = rv (.tuple #[]) ∧ H = [.blk b_out [rv w2_0] 22, .row w2_0 40 4 (List.map eTApiCell r)]) := by
 refine enter (n := 20) Tryd.func34 rfl Tryd.ntmps34 rfl (fun w Z => ?_)
 refine wc_as (l' := [(0, rS k), (1, rSl 4 (List.map eTApiCell y)), (2, rv (.pointer (some ⟨b_out, 0, none⟩)))]) (H' := [.blk b_out [rv v_out_0] 22, .row v_out_0 40 4 (List.map eTApiCell out)]) rfl rfl ?_
 unfold vPutA at h
 refine wc_sr ?_
 refine wv (o_load (i := 0) Tryd.isAgg22 rfl rfl rfl) ?_
 obtain ⟨g1, h2⟩ := chk_e h
 refine wv (r := rv (elp 4 v_out_0 (Int.toNat 0) 0)) (o_ix_w (i := 1) Tryd.underlying22 Tryd.sizeOf40 rfl rfl rfl (len_map g1)) ?_
 refine wv (r := rv (elp 4 v_out_0 (Int.toNat 0) 3)) (o_fa_w (k := 1) Tryd.underlying40 rfl Tryd.sizeOf3 rfl (len_map g1) rfl rfl rfl) ?_
 refine wv (r := rI .i64 ((at' out 0).fN)) (o_ld_w (enc := eTApiCell) (ys := out) (i := 1) (j := 0) Tryd.isAgg3 rfl rfl g1 rfl) ?_
 obtain ⟨g3, h4⟩ := chk_e h2
 refine wv (o_add rfl rfl g3) ?_
 refine wv (r := rv (elp 4 v_out_0 (Int.toNat 0) 0)) (o_ix_w (i := 1) Tryd.underlying22 Tryd.sizeOf40 rfl rfl rfl (len_map g1)) ?_
 refine wv (r := rv (elp 4 v_out_0 (Int.toNat 0) 3)) (o_fa_w (k := 1) Tryd.underlying40 rfl Tryd.sizeOf3 rfl (len_map g1) rfl rfl rfl) ?_
 refine u_st_w (enc := eTApiCell) (ys := out) (y' := (TApiCell.mk ((at' out 0).fKind) ((at' out 0).fInt) ((at' out 0).fStr) (((at' out 0).fN) + 1))) (i := 1) (j := 0) Tryd.sizeOf3 rfl rfl (one_c rfl) rfl g1 rfl rfl (H' := [.blk b_out [rv v_out_0] 22, .row v_out_0 40 4 (List.map eTApiCell (List.set out (Int.toNat 0) (TApiCell.mk ((at' out 0).fKind) ((at' out 0).fInt) ((at' out 0).fStr) (((at' out 0).fN) + 1))))]) rfl ?_
 obtain ⟨r5, e7, h6⟩ := bnd_e h4
 rw [← e7]
 refine wl_y ?_
 refine wv (o_load (i := 0) Tryd.isAgg22 rfl rfl rfl) ?_
 refine wm rfl ?_
 refine wv (r := rAgg [rI .i64 4, rI .i64 0, rS k, rI .i64 0]) (o_build40_0_2 rfl rfl rfl rfl) ?_
 refine w_buildSlice (ys := ([(TApiCell.mk 4 0 k 0)] : List TApiCell)) (enc := eTApiCell) (css := [[rI .i64 4, rI .i64 0, rS k, rI .i64 0]]) (xs := [.tmp 14]) Tryd.underlying22 Tryd.sizeOf40 Tryd.zeroValue40 rfl rfl rfl ⟨Cel.agg ⟨Up.refl _, Up.refl _, Up.refl _, Up.refl _, trivial⟩, trivial⟩ rfl eTApiCell_len rfl rfl rfl (fun b8 => ?_)
 obtain ⟨g10, h11⟩ := chk_e h6
 obtain ⟨inf, hinf⟩ := info40
 refine w_append (xs := r5) (ys := ([(TApiCell.mk 4 0 k 0)] : List TApiCell)) (enc := eTApiCell) (i := 2) Tryd.underlying22 hinf.1 hinf.2.1 hinf.2.2.1 hinf.2.2.2 rfl rfl rfl rfl rfl (Src.w (i := 0) rfl rfl) eTApiCell_len eTApiCell_one g10 rfl (fun v9 => ?_)
 refine u_store (i := 2) Tryd.sizeOf22 rfl rfl (one_row (i := 0) rfl) rfl rfl (cs' := [rv v9]) rfl (H' := [.row v9 40 4 (List.map eTApiCell (r5 ++ ([(TApiCell.mk 4 0 k 0)] : List TApiCell))), .row (.slice (some ⟨b8, 0, none⟩) 1 1) 40 4 (List.map eTApiCell ([(TApiCell.mk 4 0 k 0)] : List TApiCell)), .blk b_out [rv v9] 22]) rfl ?_
 refine wl_x ?_
 refine wc_region ?_
 refine wv (o_load (i := 2) Tryd.isAgg22 rfl rfl rfl) ?_
 refine wm rfl ?_
 obtain ⟨g13, h14⟩ := chk_e h11
 obtain ⟨inf, hinf⟩ := info40
 refine w_append (xs := r5 ++ ([(TApiCell.mk 4 0 k 0)] : List TApiCell)) (ys := y) (enc := eTApiCell) (i := 0) Tryd.underlying22 hinf.1 hinf.2.1 hinf.2.2.1 hinf.2.2.2 rfl rfl rfl rfl rfl (Src.z rfl rfl) eTApiCell_len eTApiCell_one g13 rfl (fun v12 => ?_)
 refine u_store (i := 2) Tryd.sizeOf22 rfl rfl (one_row (i := 0) rfl) rfl rfl (cs' := [rv v12]) rfl (H' := [.row v12 40 4 (List.map eTApiCell ((r5 ++ ([(TApiCell.mk 4 0 k 0)] : List TApiCell)) ++ y)), .row (.slice (some ⟨b8, 0, none⟩) 1 1) 40 4 (List.map eTApiCell ([(TApiCell.mk 4 0 k 0)] : List TApiCell)), .blk b_out [rv v12] 22]) rfl ?_
 refine wl_nil ?_
 refine wk_perm (H2 := [.blk b_out [rv v12] 22, .row v12 40 4 (List.map eTApiCell ((r5 ++ ([(TApiCell.mk 4 0 k 0)] : List TApiCell)) ++ y)), .row (.slice (some ⟨b8, 0, none⟩) 1 1) 40 4 (List.map eTApiCell ([(TApiCell.mk 4 0 k 0)] : List TApiCell))]) ((perm_front (i := 2) rfl).trans (List.Perm.cons _ (List.Perm.refl _))) ?_
 obtain rfl := some_e h14
 exact wk_end (r_0 Tryd.results34) (sC (sC (sS sN))) ⟨v12, rfl, rfl⟩

theorem vPutF_w (b_done : Nat) (b_key : Nat) (bx_34 : Nat) (b_out : Nat) (v_out_0 : Value) (b_xx : Nat) (k : Str) (y : (List TApiCell)) (done : Bool) (key : Str) (out : (List TApiCell)) (xx : (List TApiCell)) (r : Bool × Bool × (List TApiCell)) (h : vPutF k y done key out xx = some r) : Fn Tryd.prog GE 36 [rS k, rSl 4 (List.map eTApiCell y), rv (.pointer (some ⟨b_done, 0, none⟩)), rv (.pointer (some ⟨b_key, 0, none⟩)), rv (.pointer (some ⟨bx_34, 0, none⟩)), rv (.pointer (some ⟨b_xx, 0, none⟩))] [.blk b_done [rB done] 4, .blk b_key [rS key] 9, .blk bx_34 [rv (.func (.func 34) #[] #[(.pointer (some ⟨b_out, 0, none⟩))])] 63, .blk b_out [rv v_out_0] 22, .row v_out_0 40 4 (List.map eTApiCell out), .blk b_xx [rSl 4 (List.map eTApiCell xx)] 22] (fun R H => ∃ w4_0_0 : Value, R = rB r.1 ∧ H = [.blk b_done [rB r.2.1] 4, .blk b_key [rS key] 9, .blk bx_34 [rv (.func (.func 34) #[] #[(.pointer (some ⟨b_out, 0, none⟩))])] 63, .blk b_out [rv w4_0_0] 22, .row w4_0_0 40 4 (List.map eTApiCell r.2.2), .blk b_xx [rSl 4 (List.map eTApiCell xx)] 22]) := by
 refine enter (n := 27) Tryd.func36 rfl Tryd.ntmps36 rfl (fun w Z => ?_)
 refine wc_as (l' := [(0, rS k), (1, rSl 4 (List.map eTApiCell y)), (2, rv (.pointer (some ⟨b_done, 0, none⟩))), (3, rv (.pointer (some ⟨b_key, 0, none⟩))), (4, rv (.pointer (some ⟨bx_34, 0, none⟩))), (5, rv (.pointer (some ⟨b_xx, 0, none⟩)))]) (H' := [.blk b_done [rB done] 4, .blk b_key [rS key] 9, .blk bx_34 [rv (.func (.func 34) #[] #[(.pointer (some ⟨b_out, 0, none⟩))])] 63, .blk b_out [rv v_out_0] 22, .row v_out_0 40 4 (List.map eTApiCell out), .blk b_xx [rSl 4 (List.map eTApiCell xx)] 22]) rfl rfl ?_
 unfold vPutF at h
 refine wc_sr ?_
 refine wv (r := rB false) (o_assign rfl) ?_
 refine wl_x ?_
 refine wc_seq ?_
 refine wc_seq_mid [(0, rS k), (1, rSl 4 (List.map eTApiCell y)), (2, rv (.pointer (some ⟨b_done, 0, none⟩))), (3, rv (.pointer (some ⟨b_key, 0, none⟩))), (4, rv (.pointer (some ⟨bx_34, 0, none⟩))), (5, rv (.pointer (some ⟨b_xx, 0, none⟩))), (15, rB ((!done) && (!sLess k key)))] [.blk b_done [rB done] 4, .blk b_key [rS key] 9, .blk bx_34 [rv (.func (.func 34) #[] #[(.pointer (some ⟨b_out, 0, none⟩))])] 63, .blk b_out [rv v_out_0] 22, .row v_out_0 40 4 (List.map eTApiCell out), .blk b_xx [rSl 4 (List.map eTApiCell xx)] 22] ?_ ?_
 ·refine wc_region ?_
  refine wv (o_load (i := 0) Tryd.isAgg4 rfl rfl rfl) ?_
  refine wv (o_not rfl) ?_
  refine wm rfl ?_
  refine bsplit (!done) (fun c1 => ?_) (fun c1 => ?_)
  ·refine wo c1 ?_
   refine wm rfl ?_
   refine wo c1 ?_
   refine wv (o_load (i := 1) Tryd.isAgg9 rfl rfl rfl) ?_
   refine wo c1 ?_
   refine wv (o_sge rfl rfl) ?_
   refine wpt rfl c1 rfl ?_
   refine wl_nil ?_
   exact wtc c1
  ·refine wf c1 ?_
   refine wf c1 ?_
   refine wf c1 ?_
   refine wv (r := rB false) (o_pick_f (b := !done) rfl c1 rfl) ?_
   refine wl_nil ?_
   exact wtc c1
 refine wc_cond (b := ((!done) && (!sLess k key))) rfl (fun c2 => ?_) (fun c2 => ?_)
 ·have h3 := cnd_t c2 h
  refine wc_sr ?_
  refine wv (o_load (i := 2) Tryd.isAgg63 rfl rfl rfl) ?_
  refine wv (o_load (i := 1) Tryd.isAgg9 rfl rfl rfl) ?_
  refine wv (o_load (i := 5) Tryd.isAgg22 rfl rfl rfl) ?_
  obtain ⟨r4, e6, h5⟩ := obn_e h3
  refine w_callc (rs := [rS key, rSl 4 (List.map eTApiCell xx)]) (Hin := [.blk b_out [rv v_out_0] 22, .row v_out_0 40 4 (List.map eTApiCell out)]) (Hr := [.blk b_done [rB done] 4, .blk b_key [rS key] 9, .blk bx_34 [rv (.func (.func 34) #[] #[(.pointer (some ⟨b_out, 0, none⟩))])] 63, .blk b_xx [rSl 4 (List.map eTApiCell xx)] 22]) Tryd.call34 rfl rfl ((perm_front (i := 3) rfl).trans (List.Perm.cons _ ((perm_front (i := 3) rfl).trans (List.Perm.cons _ (List.Perm.refl _))))) (vPutA_w b_out v_out_0 key xx out r4 e6) rfl ?_
  rintro _ _ ⟨v7, rfl, rfl⟩
  refine wl_x ?_
  refine wc_region ?_
  refine u_store (i := 2) Tryd.sizeOf4 rfl rfl (one_c rfl) rfl rfl (cs' := [rB true]) rfl (H' := [.blk b_out [rv v7] 22, .row v7 40 4 (List.map eTApiCell r4), .blk b_done [rB true] 4, .blk b_key [rS key] 9, .blk bx_34 [rv (.func (.func 34) #[] #[(.pointer (some ⟨b_out, 0, none⟩))])] 63, .blk b_xx [rSl 4 (List.map eTApiCell xx)] 22]) rfl ?_
  refine wl_x ?_
  refine wc_seq ?_
  refine wc_sr ?_
  refine wm rfl ?_
  refine wv (o_load (i := 3) Tryd.isAgg9 rfl rfl rfl) ?_
  refine wv (o_sne rfl rfl) ?_
  refine wl_x ?_
  refine wc_cond (b := !decide (k = key)) rfl (fun c8 => ?_) (fun c8 => ?_)
  ·have h9 := cnd_t c8 h5
   refine wc_region ?_
   refine wv (o_load (i := 4) Tryd.isAgg63 rfl rfl rfl) ?_
   refine wm rfl ?_
   refine wm rfl ?_
   obtain ⟨r10, e12, h11⟩ := obn_e h9
   refine w_callc (rs := [rS k, rSl 4 (List.map eTApiCell y)]) (Hin := [.blk b_out [rv v7] 22, .row v7 40 4 (List.map eTApiCell r4)]) (Hr := [.blk b_done [rB true] 4, .blk b_key [rS key] 9, .blk bx_34 [rv (.func (.func 34) #[] #[(.pointer (some ⟨b_out, 0, none⟩))])] 63, .blk b_xx [rSl 4 (List.map eTApiCell xx)] 22]) Tryd.call34 rfl rfl (List.Perm.refl _) (vPutA_w b_out v7 k y r4 r10 e12) rfl ?_
   rintro _ _ ⟨v13, rfl, rfl⟩
   refine wl_y ?_
   refine wv (r := rB true) (o_assign rfl) ?_
   refine wl_x ?_
   refine wc_ret ?_
   refine wk_perm (H2 := [.blk b_done [rB true] 4, .blk b_key [rS key] 9, .blk bx_34 [rv (.func (.func 34) #[] #[(.pointer (some ⟨b_out, 0, none⟩))])] 63, .blk b_out [rv v13] 22, .row v13 40 4 (List.map eTApiCell r10), .blk b_xx [rSl 4 (List.map eTApiCell xx)] 22]) ((perm_front (i := 2) rfl).trans (List.Perm.cons _ ((perm_front (i := 2) rfl).trans (List.Perm.cons _ ((perm_front (i := 2) rfl).trans (List.Perm.cons _ (List.Perm.refl _))))))) ?_
   obtain rfl := some_e h11
   exact wk_ret (r_1 Tryd.results36 (rv_t rfl)) (sC (sC (sC (sC (sC (sC sN)))))) ⟨v13, rfl, rfl⟩
  ·have h14 := cnd_f c8 h5
   refine wc_skip ?_
   refine wk_x ?_
   refine wc_sr ?_
   refine wv (r := rB true) (o_assign rfl) ?_
   refine wl_x ?_
   refine wc_ret ?_
   refine wk_perm (H2 := [.blk b_done [rB true] 4, .blk b_key [rS key] 9, .blk bx_34 [rv (.func (.func 34) #[] #[(.pointer (some ⟨b_out, 0, none⟩))])] 63, .blk b_out [rv v7] 22, .row v7 40 4 (List.map eTApiCell r4), .blk b_xx [rSl 4 (List.map eTApiCell xx)] 22]) ((perm_front (i := 2) rfl).trans (List.Perm.cons _ ((perm_front (i := 2) rfl).trans (List.Perm.cons _ ((perm_front (i := 2) rfl).trans (List.Perm.cons _ (List.Perm.refl _))))))) ?_
   obtain rfl := some_e h14
   exact wk_ret (r_1 Tryd.results36 (rv_t rfl)) (sC (sC (sC (sC (sC (sC sN)))))) ⟨v7, rfl, rfl⟩
 ·have h15 := cnd_f c2 h
  refine wc_skip ?_
  refine wk_x ?_
  refine wc_seq ?_
  refine wc_sr ?_
  refine wm rfl ?_
  refine wv (o_load (i := 1) Tryd.isAgg9 rfl rfl rfl) ?_
  refine wv (o_sne rfl rfl) ?_
  refine wl_x ?_
  refine wc_cond (b := !decide (k = key)) rfl (fun c16 => ?_) (fun c16 => ?_)
  ·have h17 := cnd_t c16 h15
   refine wc_region ?_
   refine wv (o_load (i := 2) Tryd.isAgg63 rfl rfl rfl) ?_
   refine wm rfl ?_
   refine wm rfl ?_
   obtain ⟨r18, e20, h19⟩ := obn_e h17
   refine w_callc (rs := [rS k, rSl 4 (List.map eTApiCell y)]) (Hin := [.blk b_out [rv v_out_0] 22, .row v_out_0 40 4 (List.map eTApiCell out)]) (Hr := [.blk b_done [rB done] 4, .blk b_key [rS key] 9, .blk bx_34 [rv (.func (.func 34) #[] #[(.pointer (some ⟨b_out, 0, none⟩))])] 63, .blk b_xx [rSl 4 (List.map eTApiCell xx)] 22]) Tryd.call34 rfl rfl ((perm_front (i := 3) rfl).trans (List.Perm.cons _ ((perm_front (i := 3) rfl).trans (List.Perm.cons _ (List.Perm.refl _))))) (vPutA_w b_out v_out_0 k y out r18 e20) rfl ?_
   rintro _ _ ⟨v21, rfl, rfl⟩
   refine wl_y ?_
   refine wv (r := rB true) (o_assign rfl) ?_
   refine wl_x ?_
   refine wc_ret ?_
   refine wk_perm (H2 := [.blk b_done [rB done] 4, .blk b_key [rS key] 9, .blk bx_34 [rv (.func (.func 34) #[] #[(.pointer (some ⟨b_out, 0, none⟩))])] 63, .blk b_out [rv v21] 22, .row v21 40 4 (List.map eTApiCell r18), .blk b_xx [rSl 4 (List.map eTApiCell xx)] 22]) ((perm_front (i := 2) rfl).trans (List.Perm.cons _ ((perm_front (i := 2) rfl).trans (List.Perm.cons _ ((perm_front (i := 2) rfl).trans (List.Perm.cons _ (List.Perm.refl _))))))) ?_
   obtain rfl := some_e h19
   exact wk_ret (r_1 Tryd.results36 (rv_t rfl)) (sC (sC (sC (sC (sC (sC sN)))))) ⟨v21, rfl, rfl⟩
  ·have h22 := cnd_f c16 h15
   refine wc_skip ?_
   refine wk_x ?_
   refine wc_sr ?_
   refine wv (r := rB true) (o_assign rfl) ?_
   refine wl_x ?_
   refine wc_ret ?_
   obtain rfl := some_e h22
   exact wk_ret (r_1 Tryd.results36 (rv_t rfl)) (sC (sC (sC (sC (sC (sC sN)))))) ⟨v_out_0, rfl, rfl⟩

theorem vPutP_w (F : Nat) (b_done : Nat) (b_key : Nat) (bx_34 : Nat) (b_out : Nat) (v_out_0 : Value) (b_xx : Nat) (v : (List TApiCell)) (done : Bool) (key : Str) (out : (List TApiCell)) (xx : (List TApiCell)) (r : Bool × (List TApiCell)) (h : vPutP F v done key out xx = some r) : Fn Tryd.prog GE 35 [rSl 4 (List.map eTApiCell v), rv (.func (.func 36) #[] #[(.pointer (some ⟨b_done, 0, none⟩)), (.pointer (some ⟨b_key, 0, none⟩)), (.pointer (some ⟨bx_34, 0, none⟩)), (.pointer (some ⟨b_xx, 0, none⟩))])] [.blk b_done [rB done] 4, .blk b_key [rS key] 9, .blk bx_34 [rv (.func (.func 34) #[] #[(.pointer (some ⟨b_out, 0, none⟩))])] 63, .blk b_out [rv v_out_0] 22, .row v_out_0 40 4 (List.map eTApiCell out), .blk b_xx [rSl 4 (List.map eTApiCell xx)] 22] (fun R H => ∃ w1_2_0_0 : Value, R = rv (.tuple #[]) ∧ H = [.blk b_done [rB r.1] 4, .blk b_key [rS key] 9, .blk bx_34 [rv (.func (.func 34) #[] #[(.pointer (some ⟨b_out, 0, none⟩))])] 63, .blk b_out [rv w1_2_0_0] 22, .row w1_2_0_0 40 4 (List.map eTApiCell r.2), .blk b_xx [rSl 4 (List.map eTApiCell xx)] 22]) := by
 refine enter (n := 52) Tryd.func35 rfl Tryd.ntmps35 rfl (fun w Z => ?_)
 refine wc_as (l' := [(0, rSl 4 (List.map eTApiCell v)), (1, rv (.func (.func 36) #[] #[(.pointer (some ⟨b_done, 0, none⟩)), (.pointer (some ⟨b_key, 0, none⟩)), (.pointer (some ⟨bx_34, 0, none⟩)), (.pointer (some ⟨b_xx, 0, none⟩))]))]) (H' := [.blk b_done [rB done] 4, .blk b_key [rS key] 9, .blk bx_34 [rv (.func (.func 34) #[] #[(.pointer (some ⟨b_out, 0, none⟩))])] 63, .blk b_out [rv v_out_0] 22, .row v_out_0 40 4 (List.map eTApiCell out), .blk b_xx [rSl 4 (List.map eTApiCell xx)] 22]) rfl rfl ?_
 unfold vPutP at h
 refine wc_sr ?_
 refine wv (r := rI .i64 1) (o_assign rfl) ?_
 refine wl_y ?_
 refine wm rfl ?_
 obtain ⟨g1, h2⟩ := chk_e h
 refine wv (o_ix_z (enc := eTApiCell) (ys := v) Tryd.underlying22 Tryd.sizeOf40 rfl rfl g1) ?_
 refine wv (o_fieldAddr_z Tryd.underlying40 rfl Tryd.sizeOf3 rfl rfl) ?_
 refine wv (o_load_z Tryd.isAgg3 rfl rfl) ?_
 refine wv (r := rI .i64 0) (o_move rfl) ?_
 refine wl_x ?_
 refine wc_block ?_
 refine wc_perm (H2 := [.blk b_done [rB done] 4, .blk b_key [rS key] 9, .blk bx_34 [rv (.func (.func 34) #[] #[(.pointer (some ⟨b_out, 0, none⟩))])] 63, .blk b_out [rv v_out_0] 22, .blk b_xx [rSl 4 (List.map eTApiCell xx)] 22, .row v_out_0 40 4 (List.map eTApiCell out)]) ((perm_front (i := 0) rfl).trans (List.Perm.cons _ ((perm_front (i := 0) rfl).trans (List.Perm.cons _ ((perm_front (i := 0) rfl).trans (List.Perm.cons _ ((perm_front (i := 0) rfl).trans (List.Perm.cons _ ((perm_front (i := 1) rfl).trans (List.Perm.cons _ (List.Perm.refl _))))))))))) ?_
 obtain ⟨o166, eo167, hK168⟩ := obn_e h2
 refine wc_loop2 (S := Nat × (Int × Int × Bool × (List TApiCell)) × (Value)) (V := (Bool × (List TApiCell)) × (Value)) 0 (fun σ => lop (fun σ => vPutP_b1 F v key xx σ.1 σ.2.1 σ.2.2.1 σ.2.2.2) σ.1 σ.2.1 = some o166) (fun σ => [(0, rSl 4 (List.map eTApiCell v)), (1, rv (.func (.func 36) #[] #[(.pointer (some ⟨b_done, 0, none⟩)), (.pointer (some ⟨b_key, 0, none⟩)), (.pointer (some ⟨bx_34, 0, none⟩)), (.pointer (some ⟨b_xx, 0, none⟩))])), (4, rI .i64 σ.2.1.1), (12, rI .i64 ((at' v 0).fN)), (13, rI .i64 σ.2.1.2.1)]) (fun σ => [.blk b_done [rB σ.2.1.2.2.1] 4, .blk b_key [rS key] 9, .blk bx_34 [rv (.func (.func 34) #[] #[(.pointer (some ⟨b_out, 0, none⟩))])] 63, .blk b_out [rv σ.2.2] 22, .blk b_xx [rSl 4 (List.map eTApiCell xx)] 22, .row σ.2.2 40 4 (List.map eTApiCell σ.2.1.2.2.2)]) (fun σ => σ.1) (F, (1, 0, done, out), v_out_0) eo167 (Sub.c5 rfl rfl rfl rfl rfl Sub.nil) (sC (sC (sC (sC (sC (sC sN)))))) (fun σ => vPutP_k1 σ.1.1 σ.1.2 = some r) (fun σ => []) (fun σ => [.blk b_done [rB σ.1.1] 4, .blk b_key [rS key] 9, .blk bx_34 [rv (.func (.func 34) #[] #[(.pointer (some ⟨b_out, 0, none⟩))])] 63, .blk b_out [rv σ.2] 22, .blk b_xx [rSl 4 (List.map eTApiCell xx)] 22, .row σ.2 40 4 (List.map eTApiCell σ.1.2)]) ?_ ?_
 ·rintro ⟨n174, ⟨x106, x107, x108, x109⟩, v110⟩ hi172
  refine wc_as (l' := [(0, rSl 4 (List.map eTApiCell v)), (1, rv (.func (.func 36) #[] #[(.pointer (some ⟨b_done, 0, none⟩)), (.pointer (some ⟨b_key, 0, none⟩)), (.pointer (some ⟨bx_34, 0, none⟩)), (.pointer (some ⟨b_xx, 0, none⟩))])), (4, rI .i64 x106), (12, rI .i64 ((at' v 0).fN)), (13, rI .i64 x107)]) (H' := [.blk b_done [rB x108] 4, .blk b_key [rS key] 9, .blk bx_34 [rv (.func (.func 34) #[] #[(.pointer (some ⟨b_out, 0, none⟩))])] 63, .blk b_out [rv v110] 22, .blk b_xx [rSl 4 (List.map eTApiCell xx)] 22, .row v110 40 4 (List.map eTApiCell x109)]) rfl rfl ?_
  obtain ⟨m171, rfl, t169, h173, ht170⟩ := lop_e hi172
  replace h173 : vPutP_b1 F v key xx x106 x107 x108 x109 = some t169 := h173
  unfold vPutP_b1 at h173
  refine wc_sr ?_
  refine wv (o_lt rfl rfl) ?_
  refine wl_x ?_
  refine wc_seq ?_
  refine wc_cond (b := decide (x107 < ((at' v 0).fN))) rfl (fun c175 => ?_) (fun c175 => ?_)
  ·have h176 := cnd_t c175 h173
   refine wc_skip ?_
   refine wk_x ?_
   refine wc_seq ?_
   refine wc_block ?_
   refine wc_sr ?_
   refine wv (r := rS ([] : Str)) (o_assign rfl) ?_
   refine wl_x ?_
   refine wc_seq ?_
   refine wc_sr ?_
   refine wm rfl ?_
   refine wv (o_ix_z (enc := eTApiCell) (ys := v) Tryd.underlying22 Tryd.sizeOf40 rfl rfl g1) ?_
   refine wv (o_fieldAddr_z Tryd.underlying40 rfl Tryd.sizeOf38 rfl rfl) ?_
   refine wv (o_load_z Tryd.isAgg38 rfl rfl) ?_
   refine wv (o_eq rfl rfl) ?_
   refine wl_x ?_
   refine wc_cond (b := decide (((at' v 0).fKind) = 6)) rfl (fun c177 => ?_) (fun c177 => ?_)
   ·have h178 := cnd_t c177 h176
    refine wc_sr ?_
    refine wm rfl ?_
    refine wm rfl ?_
    obtain ⟨g179, h180⟩ := chk_e h178
    refine wv (o_ix_z (enc := eTApiCell) (ys := v) Tryd.underlying22 Tryd.sizeOf40 rfl rfl g179) ?_
    refine wv (o_fieldAddr_z Tryd.underlying40 rfl Tryd.sizeOf9 rfl rfl) ?_
    refine wv (o_load_z Tryd.isAgg9 rfl rfl) ?_
    refine wa rfl ?_
    refine wl_x ?_
    refine wc_region ?_
    refine wm rfl ?_
    obtain ⟨g181, h182⟩ := chk_e h180
    refine wv (o_add rfl rfl g181) ?_
    refine wa rfl ?_
    refine wl_y ?_
    refine wm rfl ?_
    refine wm rfl ?_
    obtain ⟨g183, h184⟩ := chk_e h182
    refine wv (r := rSl 4 (List.map eTApiCell (List.drop (Int.toNat (x106 + 1)) v))) (o_slice_zl Tryd.underlying22 Tryd.sizeOf40 rfl rfl g183) ?_
    obtain ⟨r185, e187, h186⟩ := obn_e h184
    refine wc0 Tryd.call27 (vLook_w F (List.drop (Int.toNat (x106 + 1)) v) r185 e187) rfl ?_
    refine wm rfl ?_
    refine wv (o_extract rfl rfl) ?_
    refine wv (o_extract rfl rfl) ?_
    refine wv (o_extract rfl rfl) ?_
    refine w_alloc (cs := [rI .i64 0, rI .i64 0, rB false, rB false]) Tryd.zeroValue55 rfl rfl (fun b188 => ?_)
    refine wa rfl ?_
    refine u_store_agg (i := 0) Tryd.sizeOf55 rfl rfl rfl (OneAll.c rfl) rfl rfl (cs' := [rI .i64 r185.2.1.fDepth, rI .i64 r185.2.1.fBytes, rB r185.2.1.fOutside, rB r185.2.1.fLong]) rfl (H' := [.blk b188 (eTValueShape r185.2.1) 55, .blk b_done [rB x108] 4, .blk b_key [rS key] 9, .blk bx_34 [rv (.func (.func 34) #[] #[(.pointer (some ⟨b_out, 0, none⟩))])] 63, .blk b_out [rv v110] 22, .blk b_xx [rSl 4 (List.map eTApiCell xx)] 22, .row v110 40 4 (List.map eTApiCell x109)]) rfl ?_
    refine wa rfl ?_
    refine wl_x ?_
    refine wc_seq ?_
    refine wc_sr ?_
    refine wm rfl ?_
    refine wm rfl ?_
    refine wm rfl ?_
    refine wm rfl ?_
    refine wm rfl ?_
    refine wm rfl ?_
    obtain ⟨g189, h190⟩ := chk_e h186
    refine wv (o_add rfl rfl g189) ?_
    refine wm rfl ?_
    refine wm rfl ?_
    refine wv (o_add rfl rfl g189) ?_
    obtain ⟨g191, h192⟩ := chk_e h190
    obtain ⟨g193, h194⟩ := chk_e h192
    refine wv (r := rSl 4 (List.map eTApiCell (List.take (Int.toNat ((x106 + 1) + r185.1) - Int.toNat (x106 + 1)) (List.drop (Int.toNat (x106 + 1)) v)))) (o_slice_zm Tryd.underlying22 Tryd.sizeOf40 rfl rfl rfl rfl g191 g193) ?_
    obtain ⟨r195, e197, h196⟩ := obn_e h194
    refine w_callc (rs := [rS ((at' v x106).fStr), rSl 4 (List.map eTApiCell (List.take (Int.toNat ((x106 + 1) + r185.1) - Int.toNat (x106 + 1)) (List.drop (Int.toNat (x106 + 1)) v)))]) (Hin := [.blk b_done [rB x108] 4, .blk b_key [rS key] 9, .blk bx_34 [rv (.func (.func 34) #[] #[(.pointer (some ⟨b_out, 0, none⟩))])] 63, .blk b_out [rv v110] 22, .row v110 40 4 (List.map eTApiCell x109), .blk b_xx [rSl 4 (List.map eTApiCell xx)] 22]) (Hr := [.blk b188 (eTValueShape r185.2.1) 55]) Tryd.call36 rfl rfl ((perm_front (i := 1) rfl).trans (List.Perm.cons _ ((perm_front (i := 1) rfl).trans (List.Perm.cons _ ((perm_front (i := 1) rfl).trans (List.Perm.cons _ ((perm_front (i := 1) rfl).trans (List.Perm.cons _ ((perm_front (i := 2) rfl).trans (List.Perm.cons _ ((perm_front (i := 1) rfl).trans (List.Perm.cons _ (List.Perm.refl _))))))))))))) (vPutF_w b_done b_key bx_34 b_out v110 b_xx ((at' v x106).fStr) (List.take (Int.toNat ((x106 + 1) + r185.1) - Int.toNat (x106 + 1)) (List.drop (Int.toNat (x106 + 1)) v)) x108 key x109 xx r195 e197) rfl ?_
    rintro _ _ ⟨v198, rfl, rfl⟩
    refine wv (o_not rfl) ?_
    refine wl_x ?_
    refine wc_cond (b := !r195.1) rfl (fun c199 => ?_) (fun c199 => ?_)
    ·have h200 := cnd_t c199 h196
     refine wc_ret ?_
     refine wk_then_ret ?_
     refine wk_in_ret ?_
     refine wk_then_ret ?_
     refine wk_then_ret ?_
     refine wk_cut_ret ?_
     have h201 := stp_ret h200 ht170 hK168
     refine wk_in_ret ?_
     obtain rfl := some_e h201
     exact wk_ret (r_0 Tryd.results35) (sC (sC (sC (sC (sC (sC (sS sN))))))) ⟨v198, rfl, rfl⟩
    ·have h202 := cnd_f c199 h196
     refine wc_skip ?_
     refine wk_x ?_
     refine wc_region ?_
     refine wm rfl ?_
     refine wm rfl ?_
     refine wv (o_add rfl rfl g189) ?_
     refine wa rfl ?_
     refine wl_nil ?_
     refine wk_in_norm ?_
     refine wk_x ?_
     refine wc_region ?_
     obtain ⟨g203, h204⟩ := chk_e h202
     refine wv (o_add rfl rfl g203) ?_
     refine wm rfl ?_
     refine wl_nil ?_
     refine wk_perm (H2 := [.blk b_done [rB r195.2.1] 4, .blk b_key [rS key] 9, .blk bx_34 [rv (.func (.func 34) #[] #[(.pointer (some ⟨b_out, 0, none⟩))])] 63, .blk b_out [rv v198] 22, .blk b_xx [rSl 4 (List.map eTApiCell xx)] 22, .row v198 40 4 (List.map eTApiCell r195.2.2), .blk b188 (eTValueShape r185.2.1) 55]) ((perm_front (i := 0) rfl).trans (List.Perm.cons _ ((perm_front (i := 0) rfl).trans (List.Perm.cons _ ((perm_front (i := 0) rfl).trans (List.Perm.cons _ ((perm_front (i := 0) rfl).trans (List.Perm.cons _ ((perm_front (i := 1) rfl).trans (List.Perm.cons _ (List.Perm.refl _))))))))))) ?_
     have h205 := stp_next h204 ht170
     exact wk_then (wk_some (m171, ((x106 + 1) + r185.1, x107 + 1, r195.2.1, r195.2.2), v198) ⟨h205, Nat.lt_succ_self _⟩ (Sub.c5 rfl rfl rfl rfl rfl Sub.nil) (sC (sC (sC (sC (sC (sC (sS sN))))))))
   ·have h206 := cnd_f c177 h176
    refine wc_skip ?_
    refine wk_x ?_
    refine wc_sr ?_
    refine wm rfl ?_
    refine wm rfl ?_
    obtain ⟨g207, h208⟩ := chk_e h206
    refine wv (r := rSl 4 (List.map eTApiCell (List.drop (Int.toNat x106) v))) (o_slice_zl Tryd.underlying22 Tryd.sizeOf40 rfl rfl g207) ?_
    obtain ⟨r209, e211, h210⟩ := obn_e h208
    refine wc0 Tryd.call27 (vLook_w F (List.drop (Int.toNat x106) v) r209 e211) rfl ?_
    refine wm rfl ?_
    refine wv (o_extract rfl rfl) ?_
    refine wv (o_extract rfl rfl) ?_
    refine wv (o_extract rfl rfl) ?_
    refine w_alloc (cs := [rI .i64 0, rI .i64 0, rB false, rB false]) Tryd.zeroValue55 rfl rfl (fun b212 => ?_)
    refine wa rfl ?_
    refine u_store_agg (i := 0) Tryd.sizeOf55 rfl rfl rfl (OneAll.c rfl) rfl rfl (cs' := [rI .i64 r209.2.1.fDepth, rI .i64 r209.2.1.fBytes, rB r209.2.1.fOutside, rB r209.2.1.fLong]) rfl (H' := [.blk b212 (eTValueShape r209.2.1) 55, .blk b_done [rB x108] 4, .blk b_key [rS key] 9, .blk bx_34 [rv (.func (.func 34) #[] #[(.pointer (some ⟨b_out, 0, none⟩))])] 63, .blk b_out [rv v110] 22, .blk b_xx [rSl 4 (List.map eTApiCell xx)] 22, .row v110 40 4 (List.map eTApiCell x109)]) rfl ?_
    refine wa rfl ?_
    refine wl_x ?_
    refine wc_seq ?_
    refine wc_sr ?_
    refine wm rfl ?_
    refine wm rfl ?_
    refine wm rfl ?_
    refine wm rfl ?_
    refine wm rfl ?_
    refine wm rfl ?_
    obtain ⟨g213, h214⟩ := chk_e h210
    refine wv (o_add rfl rfl g213) ?_
    refine wm rfl ?_
    refine wm rfl ?_
    refine wv (o_add rfl rfl g213) ?_
    obtain ⟨g215, h216⟩ := chk_e h214
    obtain ⟨g217, h218⟩ := chk_e h216
    refine wv (r := rSl 4 (List.map eTApiCell (List.take (Int.toNat (x106 + r209.1) - Int.toNat x106) (List.drop (Int.toNat x106) v)))) (o_slice_zm Tryd.underlying22 Tryd.sizeOf40 rfl rfl rfl rfl g215 g217) ?_
    obtain ⟨r219, e221, h220⟩ := obn_e h218
    refine w_callc (rs := [rS ([] : Str), rSl 4 (List.map eTApiCell (List.take (Int.toNat (x106 + r209.1) - Int.toNat x106) (List.drop (Int.toNat x106) v)))]) (Hin := [.blk b_done [rB x108] 4, .blk b_key [rS key] 9, .blk bx_34 [rv (.func (.func 34) #[] #[(.pointer (some ⟨b_out, 0, none⟩))])] 63, .blk b_out [rv v110] 22, .row v110 40 4 (List.map eTApiCell x109), .blk b_xx [rSl 4 (List.map eTApiCell xx)] 22]) (Hr := [.blk b212 (eTValueShape r209.2.1) 55]) Tryd.call36 rfl rfl ((perm_front (i := 1) rfl).trans (List.Perm.cons _ ((perm_front (i := 1) rfl).trans (List.Perm.cons _ ((perm_front (i := 1) rfl).trans (List.Perm.cons _ ((perm_front (i := 1) rfl).trans (List.Perm.cons _ ((perm_front (i := 2) rfl).trans (List.Perm.cons _ ((perm_front (i := 1) rfl).trans (List.Perm.cons _ (List.Perm.refl _))))))))))))) (vPutF_w b_done b_key bx_34 b_out v110 b_xx ([] : Str) (List.take (Int.toNat (x106 + r209.1) - Int.toNat x106) (List.drop (Int.toNat x106) v)) x108 key x109 xx r219 e221) rfl ?_
    rintro _ _ ⟨v222, rfl, rfl⟩
    refine wv (o_not rfl) ?_
    refine wl_x ?_
    refine wc_cond (b := !r219.1) rfl (fun c223 => ?_) (fun c223 => ?_)
    ·have h224 := cnd_t c223 h220
     refine wc_ret ?_
     refine wk_then_ret ?_
     refine wk_in_ret ?_
     refine wk_then_ret ?_
     refine wk_then_ret ?_
     refine wk_cut_ret ?_
     have h225 := stp_ret h224 ht170 hK168
     refine wk_in_ret ?_
     obtain rfl := some_e h225
     exact wk_ret (r_0 Tryd.results35) (sC (sC (sC (sC (sC (sC (sS sN))))))) ⟨v222, rfl, rfl⟩
    ·have h226 := cnd_f c223 h220
     refine wc_skip ?_
     refine wk_x ?_
     refine wc_region ?_
     refine wm rfl ?_
     refine wm rfl ?_
     refine wv (o_add rfl rfl g213) ?_
     refine wa rfl ?_
     refine wl_nil ?_
     refine wk_in_norm ?_
     refine wk_x ?_
     refine wc_region ?_
     obtain ⟨g227, h228⟩ := chk_e h226
     refine wv (o_add rfl rfl g227) ?_
     refine wm rfl ?_
     refine wl_nil ?_
     refine wk_perm (H2 := [.blk b_done [rB r219.2.1] 4, .blk b_key [rS key] 9, .blk bx_34 [rv (.func (.func 34) #[] #[(.pointer (some ⟨b_out, 0, none⟩))])] 63, .blk b_out [rv v222] 22, .blk b_xx [rSl 4 (List.map eTApiCell xx)] 22, .row v222 40 4 (List.map eTApiCell r219.2.2), .blk b212 (eTValueShape r209.2.1) 55]) ((perm_front (i := 0) rfl).trans (List.Perm.cons _ ((perm_front (i := 0) rfl).trans (List.Perm.cons _ ((perm_front (i := 0) rfl).trans (List.Perm.cons _ ((perm_front (i := 0) rfl).trans (List.Perm.cons _ ((perm_front (i := 1) rfl).trans (List.Perm.cons _ (List.Perm.refl _))))))))))) ?_
     have h229 := stp_next h228 ht170
     exact wk_then (wk_some (m171, (x106 + r209.1, x107 + 1, r219.2.1, r219.2.2), v222) ⟨h229, Nat.lt_succ_self _⟩ (Sub.c5 rfl rfl rfl rfl rfl Sub.nil) (sC (sC (sC (sC (sC (sC (sS sN))))))))
  ·have h230 := cnd_f c175 h173
   refine wc_exit ?_
   refine wk_then_exit ?_
   have h231 := stp_go h230 ht170 hK168
   exact wk_then_exit (wk_cut_hit (wk_some ((x108, x109), v110) h231 Sub.nil (sC (sC (sC (sC (sC (sC sN))))))))
 ·rintro ⟨⟨x163, x164⟩, v165⟩ h232
  refine wk_as (l' := []) (H' := [.blk b_done [rB x163] 4, .blk b_key [rS key] 9, .blk bx_34 [rv (.func (.func 34) #[] #[(.pointer (some ⟨b_out, 0, none⟩))])] 63, .blk b_out [rv v165] 22, .blk b_xx [rSl 4 (List.map eTApiCell xx)] 22, .row v165 40 4 (List.map eTApiCell x164)]) rfl rfl ?_
  replace h232 : vPutP_k1 x163 x164 = some r := h232
  unfold vPutP_k1 at h232
  refine wk_in_hit ?_
  refine wk_perm (H2 := [.blk b_done [rB x163] 4, .blk b_key [rS key] 9, .blk bx_34 [rv (.func (.func 34) #[] #[(.pointer (some ⟨b_out, 0, none⟩))])] 63, .blk b_out [rv v165] 22, .row v165 40 4 (List.map eTApiCell x164), .blk b_xx [rSl 4 (List.map eTApiCell xx)] 22]) ((perm_front (i := 0) rfl).trans (List.Perm.cons _ ((perm_front (i := 0) rfl).trans (List.Perm.cons _ ((perm_front (i := 0) rfl).trans (List.Perm.cons _ ((perm_front (i := 0) rfl).trans (List.Perm.cons _ ((perm_front (i := 1) rfl).trans (List.Perm.cons _ (List.Perm.refl _))))))))))) ?_
  obtain rfl := some_e h232
  exact wk_end (r_0 Tryd.results35) (sC (sC (sC (sC (sC (sC sN)))))) ⟨v165, rfl, rfl⟩

theorem vPut_w (F : Nat) (v : (List TApiCell)) (key : Str) (x : (List TApiCell)) (r : (List TApiCell) × Int) (h : vPut F v key x = some r) : Fn Tryd.prog GE 17 [rSl 4 (List.map eTApiCell v), rS key, rSl 4 (List.map eTApiCell x)] [] (fun R H => R = rTup [rSl 4 (List.map eTApiCell r.1), rI .i64 r.2] ∧ H = []) := by
 refine enter (n := 44) Tryd.func17 rfl Tryd.ntmps17 rfl (fun w Z => ?_)
 refine wc_as (l' := [(0, rSl 4 (List.map eTApiCell v)), (1, rS key), (2, rSl 4 (List.map eTApiCell x))]) (H' := []) rfl rfl ?_
 unfold vPut at h
 refine wc_sr ?_
 refine w_box rfl (one_c rfl) rfl (fun b1 => ?_)
 refine w_box rfl (one_c rfl) rfl (fun b2 => ?_)
 refine wv (r := rv (.slice none 0 0)) (o_assign rfl) ?_
 refine wv (r := rI .i64 0) (o_assign rfl) ?_
 refine wl_x ?_
 refine wc_seq ?_
 refine wc_sr ?_
 refine wm rfl ?_
 obtain ⟨r3, e5, h4⟩ := obn_e h
 refine wc0 Tryd.call10 (vCheck_w F v r3 e5) rfl ?_
 refine wa rfl ?_
 refine wl_y ?_
 refine wm rfl ?_
 refine wv (o_ne rfl rfl) ?_
 refine wl_x ?_
 refine wc_cond (b := !decide (r3 = 0)) rfl (fun c6 => ?_) (fun c6 => ?_)
 ·have h7 := cnd_t c6 h4
  refine wc_sr ?_
  refine wm rfl ?_
  refine wv (r := rv (.slice none 0 0)) (o_assign rfl) ?_
  refine wa rfl ?_
  refine wl_x ?_
  refine wc_ret ?_
  refine wk_then_ret ?_
  refine WK.up (d := 6) (r := rSl 4 (List.map eTApiCell ([] : List TApiCell))) rfl (Up.le (Rle.nil _)) ?_
  obtain rfl := some_e h7
  exact wk_ret (r_2 Tryd.results17 (rv_t rfl) (rv_t rfl)) (sS (sS sN)) ⟨rfl, rfl⟩
 ·have h8 := cnd_f c6 h4
  refine wc_skip ?_
  refine wk_x ?_
  refine wc_seq ?_
  refine wc_sr ?_
  refine wm rfl ?_
  obtain ⟨g9, h10⟩ := chk_e h8
  refine wv (o_ix_z (enc := eTApiCell) (ys := v) Tryd.underlying22 Tryd.sizeOf40 rfl rfl g9) ?_
  refine wv (o_fieldAddr_z Tryd.underlying40 rfl Tryd.sizeOf38 rfl rfl) ?_
  refine wv (o_load_z Tryd.isAgg38 rfl rfl) ?_
  refine wv (o_ne rfl rfl) ?_
  refine wl_x ?_
  refine wc_cond (b := !decide (((at' v 0).fKind) = 6)) rfl (fun c11 => ?_) (fun c11 => ?_)
  ·have h12 := cnd_t c11 h10
   refine wc_sr ?_
   refine wv (r := rv (.slice none 0 0)) (o_assign rfl) ?_
   refine wv (r := rI .i64 7) (o_assign rfl) ?_
   refine wl_x ?_
   refine wc_ret ?_
   refine wk_then_ret ?_
   refine WK.up (d := 6) (r := rSl 4 (List.map eTApiCell ([] : List TApiCell))) rfl (Up.le (Rle.nil _)) ?_
   obtain rfl := some_e h12
   exact wk_ret (r_2 Tryd.results17 (rv_t rfl) (rv_t rfl)) (sS (sS sN)) ⟨rfl, rfl⟩
  ·have h13 := cnd_f c11 h10
   refine wc_skip ?_
   refine wk_x ?_
   refine wc_seq ?_
   refine wc_sr ?_
   refine wv (o_load (i := 0) Tryd.isAgg22 rfl rfl rfl) ?_
   obtain ⟨r14, e16, h15⟩ := obn_e h13
   refine wc0 Tryd.call10 (vCheck_w F x r14 e16) rfl ?_
   refine wa rfl ?_
   refine wl_y ?_
   refine wm rfl ?_
   refine wv (o_ne rfl rfl) ?_
   refine wl_x ?_
   refine wc_cond (b := !decide (r14 = 0)) rfl (fun c17 => ?_) (fun c17 => ?_)
   ·have h18 := cnd_t c17 h15
    refine wc_sr ?_
    refine wm rfl ?_
    refine wv (r := rv (.slice none 0 0)) (o_assign rfl) ?_
    refine wa rfl ?_
    refine wl_x ?_
    refine wc_ret ?_
    refine wk_then_ret ?_
    refine WK.up (d := 6) (r := rSl 4 (List.map eTApiCell ([] : List TApiCell))) rfl (Up.le (Rle.nil _)) ?_
    obtain rfl := some_e h18
    exact wk_ret (r_2 Tryd.results17 (rv_t rfl) (rv_t rfl)) (sS (sS sN)) ⟨rfl, rfl⟩
   ·have h19 := cnd_f c17 h15
    refine wc_skip ?_
    refine wk_x ?_
    refine wc_sr ?_
    refine wv (r := rAgg [rI .i64 6, rI .i64 0, rS ([] : Str), rI .i64 0]) (o_build40_0 rfl rfl) ?_
    refine w_buildSlice (ys := ([(TApiCell.mk 6 0 ([] : Str) 0)] : List TApiCell)) (enc := eTApiCell) (css := [[rI .i64 6, rI .i64 0, rS ([] : Str), rI .i64 0]]) (xs := [.tmp 28]) Tryd.underlying22 Tryd.sizeOf40 Tryd.zeroValue40 rfl rfl rfl ⟨Cel.agg ⟨Up.refl _, Up.refl _, Up.refl _, Up.refl _, trivial⟩, trivial⟩ rfl eTApiCell_len rfl rfl rfl (fun b20 => ?_)
    refine w_alloc (cs := [rv (.slice none 0 0)]) Tryd.zeroValue22 rfl rfl (fun b21 => ?_)
    refine u_store (i := 0) Tryd.sizeOf22 rfl rfl (one_row (i := 1) rfl) rfl rfl (cs' := [rv (.slice (some ⟨b20, 0, none⟩) 1 1)]) rfl (H' := [.blk b21 [rv (.slice (some ⟨b20, 0, none⟩) 1 1)] 22, .row (.slice (some ⟨b20, 0, none⟩) 1 1) 40 4 (List.map eTApiCell ([(TApiCell.mk 6 0 ([] : Str) 0)] : List TApiCell)), .blk b2 [rSl 4 (List.map eTApiCell x)] 22, .blk b1 [rS key] 9]) rfl ?_
    refine wl_y ?_
    refine wv (r := rv (.func (.func 34) #[] #[(.pointer (some ⟨b21, 0, none⟩))])) (o_makeFunc rfl) ?_
    refine w_alloc (cs := [rv (.nilFunc)]) Tryd.zeroValue63 rfl rfl (fun b22 => ?_)
    refine u_store (i := 0) Tryd.sizeOf63 rfl rfl (one_c rfl) rfl rfl (cs' := [rv (.func (.func 34) #[] #[(.pointer (some ⟨b21, 0, none⟩))])]) rfl (H' := [.blk b22 [rv (.func (.func 34) #[] #[(.pointer (some ⟨b21, 0, none⟩))])] 63, .blk b21 [rv (.slice (some ⟨b20, 0, none⟩) 1 1)] 22, .row (.slice (some ⟨b20, 0, none⟩) 1 1) 40 4 (List.map eTApiCell ([(TApiCell.mk 6 0 ([] : Str) 0)] : List TApiCell)), .blk b2 [rSl 4 (List.map eTApiCell x)] 22, .blk b1 [rS key] 9]) rfl ?_
    refine wl_y ?_
    refine w_alloc (cs := [rB false]) Tryd.zeroValue4 rfl rfl (fun b23 => ?_)
    refine u_store (i := 0) Tryd.sizeOf4 rfl rfl (one_c rfl) rfl rfl (cs' := [rB false]) rfl (H' := [.blk b23 [rB false] 4, .blk b22 [rv (.func (.func 34) #[] #[(.pointer (some ⟨b21, 0, none⟩))])] 63, .blk b21 [rv (.slice (some ⟨b20, 0, none⟩) 1 1)] 22, .row (.slice (some ⟨b20, 0, none⟩) 1 1) 40 4 (List.map eTApiCell ([(TApiCell.mk 6 0 ([] : Str) 0)] : List TApiCell)), .blk b2 [rSl 4 (List.map eTApiCell x)] 22, .blk b1 [rS key] 9]) rfl ?_
    refine wl_y ?_
    refine wm rfl ?_
    refine wv (r := rv (.func (.func 36) #[] #[(.pointer (some ⟨b23, 0, none⟩)), (.pointer (some ⟨b1, 0, none⟩)), (.pointer (some ⟨b22, 0, none⟩)), (.pointer (some ⟨b2, 0, none⟩))])) (o_makeFunc rfl) ?_
    obtain ⟨r24, e26, h25⟩ := obn_e h19
    refine wcl (Hr := []) Tryd.call35 (vPutP_w F b23 b1 b22 b21 (.slice (some ⟨b20, 0, none⟩) 1 1) b2 v false key ([(TApiCell.mk 6 0 ([] : Str) 0)] : List TApiCell) x r24 e26) rfl ((perm_front (i := 0) rfl).trans (List.Perm.cons _ ((perm_front (i := 4) rfl).trans (List.Perm.cons _ (List.Perm.refl _))))) rfl ?_
    rintro _ _ ⟨v27, rfl, rfl⟩
    refine wl_x ?_
    refine wc_seq ?_
    refine wc_sr ?_
    refine wv (o_load (i := 0) Tryd.isAgg4 rfl rfl rfl) ?_
    refine wv (o_not rfl) ?_
    refine wl_x ?_
    refine wc_cond (b := !r24.1) rfl (fun c28 => ?_) (fun c28 => ?_)
    ·have h29 := cnd_t c28 h25
     refine wc_region ?_
     refine wv (o_load (i := 2) Tryd.isAgg63 rfl rfl rfl) ?_
     refine wv (o_load (i := 1) Tryd.isAgg9 rfl rfl rfl) ?_
     refine wv (o_load (i := 5) Tryd.isAgg22 rfl rfl rfl) ?_
     obtain ⟨r30, e32, h31⟩ := obn_e h29
     refine w_callc (rs := [rS key, rSl 4 (List.map eTApiCell x)]) (Hin := [.blk b21 [rv v27] 22, .row v27 40 4 (List.map eTApiCell r24.2)]) (Hr := [.blk b23 [rB r24.1] 4, .blk b1 [rS key] 9, .blk b22 [rv (.func (.func 34) #[] #[(.pointer (some ⟨b21, 0, none⟩))])] 63, .blk b2 [rSl 4 (List.map eTApiCell x)] 22]) Tryd.call34 rfl rfl ((perm_front (i := 3) rfl).trans (List.Perm.cons _ ((perm_front (i := 3) rfl).trans (List.Perm.cons _ (List.Perm.refl _))))) (vPutA_w b21 v27 key x r24.2 r30 e32) rfl ?_
     rintro _ _ ⟨v33, rfl, rfl⟩
     refine wl_y ?_
     refine wv (o_load (i := 0) Tryd.isAgg22 rfl rfl rfl) ?_
     refine WL.freeze (i := 1) rfl ?_
     refine WL.up (d := 40) (r := rSl 4 (List.map eTApiCell r30)) rfl (Up.fact (i := 0) rfl) ?_
     obtain ⟨r34, e36, h35⟩ := obn_e h31
     refine wc0 Tryd.call33 (vChecked_w F r30 r34 e36) rfl ?_
     refine wv (o_extract rfl rfl) ?_
     refine wv (o_extract rfl rfl) ?_
     refine wa rfl ?_
     refine wa rfl ?_
     refine wl_x ?_
     refine wc_ret ?_
     obtain rfl := some_e h35
     exact wk_ret (r_2 Tryd.results17 (rv_t rfl) (rv_t rfl)) (sS (sS (sS (sS (sS (sS sN)))))) ⟨rfl, rfl⟩
    ·have h37 := cnd_f c28 h25
     refine wc_skip ?_
     refine wk_x ?_
     refine wc_sr ?_
     refine wv (o_load (i := 3) Tryd.isAgg22 rfl rfl rfl) ?_
     refine WL.freeze (i := 4) rfl ?_
     refine WL.up (d := 40) (r := rSl 4 (List.map eTApiCell r24.2)) rfl (Up.fact (i := 0) rfl) ?_
     obtain ⟨r38, e40, h39⟩ := obn_e h37
     refine wc0 Tryd.call33 (vChecked_w F r24.2 r38 e40) rfl ?_
     refine wv (o_extract rfl rfl) ?_
     refine wv (o_extract rfl rfl) ?_
     refine wa rfl ?_
     refine wa rfl ?_
     refine wl_x ?_
     refine wc_ret ?_
     obtain rfl := some_e h39
     exact wk_ret (r_2 Tryd.results17 (rv_t rfl) (rv_t rfl)) (sS (sS (sS (sS (sS (sS sN)))))) ⟨rfl, rfl⟩

theorem lTrips_w (F : Nat) (v : (List TApiCell)) (s : Str) (key : Str) (other : Str) (x : (List TApiCell)) (r : Bool) (h : lTrips F v s key other x = some r) : Fn Tryd.prog GE 5 [rSl 4 (List.map eTApiCell v), rS s, rS key, rS other, rSl 4 (List.map eTApiCell x)] [] (fun R H => R = rB r ∧ H = []) := by
 refine enter (n := 149) Tryd.func5 rfl Tryd.ntmps5 rfl (fun w Z => ?_)
 refine wc_as (l' := [(0, rSl 4 (List.map eTApiCell v)), (1, rS s), (2, rS key), (3, rS other), (4, rSl 4 (List.map eTApiCell x))]) (H' := []) rfl rfl ?_
 unfold lTrips at h
 refine wc_sr ?_
 refine wv (r := rB false) (o_assign rfl) ?_
 refine wl_x ?_
 refine wc_seq ?_
 obtain ⟨g1, h2⟩ := chk_e h
 obtain ⟨g3, h4⟩ := chk_e h2
 refine wc_seq_mid [(0, rSl 4 (List.map eTApiCell v)), (1, rS s), (2, rS key), (3, rS other), (4, rSl 4 (List.map eTApiCell x)), (48, rB ((!(ov (lSmall F v))) || ((!(ov (lSmall F x))) || ((decide (4100 < (s.length : Int))) || ((decide (300 < (key.length : Int))) || (decide (300 < (other.length : Int))))))))] [] ?_ ?_
 ·refine wc_region ?_
  refine wm rfl ?_
  refine wc0 Tryd.call6 (lSmall_w F v (ov (lSmall F v)) (ov_e g1)) rfl ?_
  refine wv (o_not rfl) ?_
  refine wm rfl ?_
  refine bsplit (!(ov (lSmall F v))) (fun c5 => ?_) (fun c5 => ?_)
  ·refine wf c5 ?_
   refine wf c5 ?_
   refine wf c5 ?_
   refine wv (r := rB true) (o_pick_t (b := !(ov (lSmall F v))) rfl c5 rfl) ?_
   refine wm rfl ?_
   refine wl_off (b := true) rfl rfl rfl rfl ?_
   refine wl_off (b := true) rfl rfl rfl rfl ?_
   refine wl_off (b := true) rfl rfl rfl rfl ?_
   refine wv (r := rB true) (o_pick_t (b := true) rfl rfl rfl) ?_
   refine wm rfl ?_
   refine wl_off (b := true) rfl rfl rfl rfl ?_
   refine wl_off (b := true) rfl rfl rfl rfl ?_
   refine wl_off (b := true) rfl rfl rfl rfl ?_
   refine wv (r := rB true) (o_pick_t (b := true) rfl rfl rfl) ?_
   refine wm rfl ?_
   refine wl_off (b := true) rfl rfl rfl rfl ?_
   refine wl_off (b := true) rfl rfl rfl rfl ?_
   refine wl_off (b := true) rfl rfl rfl rfl ?_
   refine wv (r := rB true) (o_pick_t (b := true) rfl rfl rfl) ?_
   refine wl_nil ?_
   exact wtc c5
  ·refine wo c5 ?_
   refine wm rfl ?_
   refine wo c5 ?_
   refine wc0 Tryd.call6 (lSmall_w F x (ov (lSmall F x)) (ov_e (imp_f g3 c5))) rfl ?_
   refine wo c5 ?_
   refine wv (o_not rfl) ?_
   refine wpf rfl c5 rfl ?_
   refine wm rfl ?_
   refine bsplit (!(ov (lSmall F x))) (fun c6 => ?_) (fun c6 => ?_)
   ·refine wf c6 ?_
    refine wf c6 ?_
    refine wf c6 ?_
    refine wv (r := rB true) (o_pick_t (b := !(ov (lSmall F x))) rfl c6 rfl) ?_
    refine wm rfl ?_
    refine wl_off (b := true) rfl rfl rfl rfl ?_
    refine wl_off (b := true) rfl rfl rfl rfl ?_
    refine wl_off (b := true) rfl rfl rfl rfl ?_
    refine wv (r := rB true) (o_pick_t (b := true) rfl rfl rfl) ?_
    refine wm rfl ?_
    refine wl_off (b := true) rfl rfl rfl rfl ?_
    refine wl_off (b := true) rfl rfl rfl rfl ?_
    refine wl_off (b := true) rfl rfl rfl rfl ?_
    refine wv (r := rB true) (o_pick_t (b := true) rfl rfl rfl) ?_
    refine wl_nil ?_
    exact wtc (And.intro c5 c6)
   ·refine wo c6 ?_
    refine wm rfl ?_
    refine wo c6 ?_
    refine wv (o_len_s Tryd.underlying9 rfl) ?_
    refine wo c6 ?_
    refine wv (o_gt rfl rfl) ?_
    refine wpf rfl c6 rfl ?_
    refine wm rfl ?_
    refine bsplit (decide (4100 < (s.length : Int))) (fun c7 => ?_) (fun c7 => ?_)
    ·refine wf c7 ?_
     refine wf c7 ?_
     refine wf c7 ?_
     refine wv (r := rB true) (o_pick_t (b := decide (4100 < (s.length : Int))) rfl c7 rfl) ?_
     refine wm rfl ?_
     refine wl_off (b := true) rfl rfl rfl rfl ?_
     refine wl_off (b := true) rfl rfl rfl rfl ?_
     refine wl_off (b := true) rfl rfl rfl rfl ?_
     refine wv (r := rB true) (o_pick_t (b := true) rfl rfl rfl) ?_
     refine wl_nil ?_
     exact wtc (And.intro c5 (And.intro c6 c7))
    ·refine wo c7 ?_
     refine wm rfl ?_
     refine wo c7 ?_
     refine wv (o_len_s Tryd.underlying9 rfl) ?_
     refine wo c7 ?_
     refine wv (o_gt rfl rfl) ?_
     refine wpf rfl c7 rfl ?_
     refine wm rfl ?_
     refine bsplit (decide (300 < (key.length : Int))) (fun c8 => ?_) (fun c8 => ?_)
     ·refine wf c8 ?_
      refine wf c8 ?_
      refine wf c8 ?_
      refine wv (r := rB true) (o_pick_t (b := decide (300 < (key.length : Int))) rfl c8 rfl) ?_
      refine wl_nil ?_
      exact wtc (And.intro c5 (And.intro c6 (And.intro c7 c8)))
     ·refine wo c8 ?_
      refine wm rfl ?_
      refine wo c8 ?_
      refine wv (o_len_s Tryd.underlying9 rfl) ?_
      refine wo c8 ?_
      refine wv (o_gt rfl rfl) ?_
      refine wpf rfl c8 rfl ?_
      refine wl_nil ?_
      exact wtc (And.intro c5 (And.intro c6 (And.intro c7 c8)))
 refine wc_cond (b := ((!(ov (lSmall F v))) || ((!(ov (lSmall F x))) || ((decide (4100 < (s.length : Int))) || ((decide (300 < (key.length : Int))) || (decide (300 < (other.length : Int)))))))) rfl (fun c9 => ?_) (fun c9 => ?_)
 ·have h10 := cnd_t c9 h4
  refine wc_sr ?_
  obtain ⟨r11, e13, h12⟩ := obn_e h10
  refine wc0 Tryd.call7 (lAwake_w F r11 e13) rfl ?_
  refine wa rfl ?_
  refine wl_x ?_
  refine wc_ret ?_
  refine wk_then_ret ?_
  obtain rfl := some_e h12
  exact wk_ret (r_1 Tryd.results5 (rv_t rfl)) sN ⟨rfl, rfl⟩
 ·have h14 := cnd_f c9 h4
  refine wc_skip ?_
  refine wk_x ?_
  refine wc_seq ?_
  refine wc_sr ?_
  refine wm rfl ?_
  obtain ⟨r15, e17, h16⟩ := obn_e h14
  refine wc0 Tryd.call8 (vEncode_w F v r15 e17) rfl ?_
  refine wm rfl ?_
  refine wv (o_extract rfl rfl) ?_
  refine wv (o_extract rfl rfl) ?_
  refine wa rfl ?_
  refine wa rfl ?_
  refine wl_y ?_
  refine wm rfl ?_
  refine wv (o_eq rfl rfl) ?_
  refine wl_x ?_
  refine wc_cond (b := decide (r15.2 = 0)) rfl (fun c18 => ?_) (fun c18 => ?_)
  ·have h19 := cnd_t c18 h16
   refine wc_sr ?_
   refine wm rfl ?_
   obtain ⟨r20, e22, h21⟩ := obn_e h19
   refine wc0 Tryd.call16 (vDecode_w F r15.1 r20 e22) rfl ?_
   refine wm rfl ?_
   refine wv (o_extract rfl rfl) ?_
   refine wv (o_extract rfl rfl) ?_
   refine wa rfl ?_
   refine wa rfl ?_
   refine wl_x ?_
   obtain ⟨g23, h24⟩ := chk_e h21
   refine wc_seq_mid [(0, rSl 4 (List.map eTApiCell v)), (1, rS s), (2, rS key), (3, rS other), (4, rSl 4 (List.map eTApiCell x)), (69, rB ((!decide (r20.2 = 0)) || (!(ov (vSame F v r20.1)))))] [] ?_ ?_
   ·refine wc_region ?_
    refine wm rfl ?_
    refine wv (o_ne rfl rfl) ?_
    refine wm rfl ?_
    refine bsplit (!decide (r20.2 = 0)) (fun c25 => ?_) (fun c25 => ?_)
    ·refine wf c25 ?_
     refine wf c25 ?_
     refine wf c25 ?_
     refine wf c25 ?_
     refine wv (r := rB true) (o_pick_t (b := !decide (r20.2 = 0)) rfl c25 rfl) ?_
     refine wl_nil ?_
     exact wtc c25
    ·refine wo c25 ?_
     refine wm rfl ?_
     refine wo c25 ?_
     refine wm rfl ?_
     refine wo c25 ?_
     refine wc0 Tryd.call15 (vSame_w F v r20.1 (ov (vSame F v r20.1)) (ov_e (imp_f g23 c25))) rfl ?_
     refine wo c25 ?_
     refine wv (o_not rfl) ?_
     refine wpf rfl c25 rfl ?_
     refine wl_nil ?_
     exact wtc c25
   refine wc_cond (b := ((!decide (r20.2 = 0)) || (!(ov (vSame F v r20.1))))) rfl (fun c26 => ?_) (fun c26 => ?_)
   ·have h27 := cnd_t c26 h24
    refine wc_sr ?_
    refine wv (r := rB false) (o_assign rfl) ?_
    refine wl_x ?_
    refine wc_ret ?_
    refine wk_then_ret ?_
    obtain rfl := some_e h27
    exact wk_ret (r_1 Tryd.results5 (rv_t rfl)) sN ⟨rfl, rfl⟩
   ·have h28 := cnd_f c26 h24
    refine wc_skip ?_
    refine wk_x ?_
    refine wc_seq ?_
    refine wc_sr ?_
    refine wm rfl ?_
    obtain ⟨r29, e31, h30⟩ := obn_e h28
    refine wc0 Tryd.call16 (vDecode_w F s r29 e31) rfl ?_
    refine wm rfl ?_
    refine wv (o_extract rfl rfl) ?_
    refine wv (o_extract rfl rfl) ?_
    refine wa rfl ?_
    refine wa rfl ?_
    refine wl_y ?_
    refine wm rfl ?_
    refine wv (o_eq rfl rfl) ?_
    refine wl_x ?_
    refine wc_cond (b := decide (r29.2 = 0)) rfl (fun c32 => ?_) (fun c32 => ?_)
    ·have h33 := cnd_t c32 h30
     refine wc_sr ?_
     refine wm rfl ?_
     obtain ⟨r34, e36, h35⟩ := obn_e h33
     refine wc0 Tryd.call8 (vEncode_w F r29.1 r34 e36) rfl ?_
     refine wm rfl ?_
     refine wv (o_extract rfl rfl) ?_
     refine wv (o_extract rfl rfl) ?_
     refine wa rfl ?_
     refine wa rfl ?_
     refine wl_x ?_
     obtain ⟨g37, h38⟩ := chk_e h35
     refine wc_seq_mid [(0, rSl 4 (List.map eTApiCell v)), (2, rS key), (3, rS other), (4, rSl 4 (List.map eTApiCell x)), (93, rB ((!decide (r34.2 = 0)) || ((!decide (r34.1 = s)) || (!decide ((ov (vCheck F r29.1)) = 0)))))] [] ?_ ?_
     ·refine wc_region ?_
      refine wm rfl ?_
      refine wv (o_ne rfl rfl) ?_
      refine wm rfl ?_
      refine bsplit (!decide (r34.2 = 0)) (fun c39 => ?_) (fun c39 => ?_)
      ·refine wf c39 ?_
       refine wf c39 ?_
       refine wf c39 ?_
       refine wv (r := rB true) (o_pick_t (b := !decide (r34.2 = 0)) rfl c39 rfl) ?_
       refine wm rfl ?_
       refine wl_off (b := true) rfl rfl rfl rfl ?_
       refine wl_off (b := true) rfl rfl rfl rfl ?_
       refine wl_off (b := true) rfl rfl rfl rfl ?_
       refine wv (r := rB true) (o_pick_t (b := true) rfl rfl rfl) ?_
       refine wl_nil ?_
       exact wtc c39
      ·refine wo c39 ?_
       refine wm rfl ?_
       refine wo c39 ?_
       refine wm rfl ?_
       refine wo c39 ?_
       refine wv (o_sne rfl rfl) ?_
       refine wpf rfl c39 rfl ?_
       refine wm rfl ?_
       refine bsplit (!decide (r34.1 = s)) (fun c40 => ?_) (fun c40 => ?_)
       ·refine wf c40 ?_
        refine wf c40 ?_
        refine wf c40 ?_
        refine wv (r := rB true) (o_pick_t (b := !decide (r34.1 = s)) rfl c40 rfl) ?_
        refine wl_nil ?_
        exact wtc (And.intro c39 c40)
       ·refine wo c40 ?_
        refine wm rfl ?_
        refine wo c40 ?_
        refine wc0 Tryd.call10 (vCheck_w F r29.1 (ov (vCheck F r29.1)) (ov_e (imp_f (imp_f g37 c39) c40))) rfl ?_
        refine wo c40 ?_
        refine wv (o_ne rfl rfl) ?_
        refine wpf rfl c40 rfl ?_
        refine wl_nil ?_
        exact wtc (And.intro c39 c40)
     refine wc_cond (b := ((!decide (r34.2 = 0)) || ((!decide (r34.1 = s)) || (!decide ((ov (vCheck F r29.1)) = 0))))) rfl (fun c41 => ?_) (fun c41 => ?_)
     ·have h42 := cnd_t c41 h38
      refine wc_sr ?_
      refine wv (r := rB false) (o_assign rfl) ?_
      refine wl_x ?_
      refine wc_ret ?_
      refine wk_then_ret ?_
      obtain rfl := some_e h42
      exact wk_ret (r_1 Tryd.results5 (rv_t rfl)) sN ⟨rfl, rfl⟩
     ·have h43 := cnd_f c41 h38
      refine wc_skip ?_
      refine wk_x ?_
      refine wc_seq ?_
      refine wc_sr ?_
      refine wm rfl ?_
      refine wm rfl ?_
      refine wm rfl ?_
      obtain ⟨r44, e46, h45⟩ := obn_e h43
      refine wc0 Tryd.call17 (vPut_w F v key x r44 e46) rfl ?_
      refine wm rfl ?_
      refine wv (o_extract rfl rfl) ?_
      refine wv (o_extract rfl rfl) ?_
      refine wa rfl ?_
      refine wa rfl ?_
      refine wl_y ?_
      refine wm rfl ?_
      refine wv (o_eq rfl rfl) ?_
      refine wl_x ?_
      refine wc_cond (b := decide (r44.2 = 0)) rfl (fun c47 => ?_) (fun c47 => ?_)
      ·have h48 := cnd_t c47 h45
       refine wc_sr ?_
       refine wm rfl ?_
       refine wm rfl ?_
       obtain ⟨r49, e51, h50⟩ := obn_e h48
       refine wc0 Tryd.call18 (vGet_w F r44.1 key r49 e51) rfl ?_
       refine wm rfl ?_
       refine wv (o_extract rfl rfl) ?_
       refine wv (o_extract rfl rfl) ?_
       refine wa rfl ?_
       refine wa rfl ?_
       refine wl_x ?_
       refine wc_seq ?_
       obtain ⟨g52, h53⟩ := chk_e h50
       obtain ⟨g54, h55⟩ := chk_e h53
       refine wc_seq_mid [(0, rSl 4 (List.map eTApiCell v)), (2, rS key), (3, rS other), (19, rSl 4 (List.map eTApiCell r44.1)), (121, rB ((!decide (r49.2 = 0)) || ((!(ov (vSame F r49.1 x))) || (!decide ((ov (vCheck F r44.1)) = 0)))))] [] ?_ ?_
       ·refine wc_region ?_
        refine wm rfl ?_
        refine wv (o_ne rfl rfl) ?_
        refine wm rfl ?_
        refine bsplit (!decide (r49.2 = 0)) (fun c56 => ?_) (fun c56 => ?_)
        ·refine wf c56 ?_
         refine wf c56 ?_
         refine wf c56 ?_
         refine wf c56 ?_
         refine wv (r := rB true) (o_pick_t (b := !decide (r49.2 = 0)) rfl c56 rfl) ?_
         refine wm rfl ?_
         refine wl_off (b := true) rfl rfl rfl rfl ?_
         refine wl_off (b := true) rfl rfl rfl rfl ?_
         refine wl_off (b := true) rfl rfl rfl rfl ?_
         refine wv (r := rB true) (o_pick_t (b := true) rfl rfl rfl) ?_
         refine wl_nil ?_
         exact wtc c56
        ·refine wo c56 ?_
         refine wm rfl ?_
         refine wo c56 ?_
         refine wm rfl ?_
         refine wo c56 ?_
         refine wc0 Tryd.call15 (vSame_w F r49.1 x (ov (vSame F r49.1 x)) (ov_e (imp_f g52 c56))) rfl ?_
         refine wo c56 ?_
         refine wv (o_not rfl) ?_
         refine wpf rfl c56 rfl ?_
         refine wm rfl ?_
         refine bsplit (!(ov (vSame F r49.1 x))) (fun c57 => ?_) (fun c57 => ?_)
         ·refine wf c57 ?_
          refine wf c57 ?_
          refine wf c57 ?_
          refine wv (r := rB true) (o_pick_t (b := !(ov (vSame F r49.1 x))) rfl c57 rfl) ?_
          refine wl_nil ?_
          exact wtc (And.intro c56 c57)
         ·refine wo c57 ?_
          refine wm rfl ?_
          refine wo c57 ?_
          refine wc0 Tryd.call10 (vCheck_w F r44.1 (ov (vCheck F r44.1)) (ov_e (imp_f (imp_f g54 c56) c57))) rfl ?_
          refine wo c57 ?_
          refine wv (o_ne rfl rfl) ?_
          refine wpf rfl c57 rfl ?_
          refine wl_nil ?_
          exact wtc (And.intro c56 c57)
       refine wc_cond (b := ((!decide (r49.2 = 0)) || ((!(ov (vSame F r49.1 x))) || (!decide ((ov (vCheck F r44.1)) = 0))))) rfl (fun c58 => ?_) (fun c58 => ?_)
       ·have h59 := cnd_t c58 h55
        refine wc_sr ?_
        refine wv (r := rB false) (o_assign rfl) ?_
        refine wl_x ?_
        refine wc_ret ?_
        refine wk_then_ret ?_
        refine wk_then_ret ?_
        obtain rfl := some_e h59
        exact wk_ret (r_1 Tryd.results5 (rv_t rfl)) sN ⟨rfl, rfl⟩
       ·have h60 := cnd_f c58 h55
        refine wc_skip ?_
        refine wk_x ?_
        refine wc_sr ?_
        refine wm rfl ?_
        refine wm rfl ?_
        obtain ⟨r61, e63, h62⟩ := obn_e h60
        refine wc0 Tryd.call18 (vGet_w F v other r61 e63) rfl ?_
        refine wm rfl ?_
        refine wv (o_extract rfl rfl) ?_
        refine wv (o_extract rfl rfl) ?_
        refine wa rfl ?_
        refine wa rfl ?_
        refine wl_y ?_
        refine wm rfl ?_
        refine wm rfl ?_
        obtain ⟨r64, e66, h65⟩ := obn_e h62
        refine wc0 Tryd.call18 (vGet_w F r44.1 other r64 e66) rfl ?_
        refine wm rfl ?_
        refine wv (o_extract rfl rfl) ?_
        refine wv (o_extract rfl rfl) ?_
        refine wa rfl ?_
        refine wa rfl ?_
        refine wl_x ?_
        obtain ⟨g67, h68⟩ := chk_e h65
        refine wc_seq_mid [(147, rB ((!decide (other = key)) && ((!decide (r61.2 = r64.2)) || (!(ov (vSame F r61.1 r64.1))))))] [] ?_ ?_
        ·refine wc_region ?_
         refine wm rfl ?_
         refine wm rfl ?_
         refine wv (o_sne rfl rfl) ?_
         refine wm rfl ?_
         refine bsplit (!decide (other = key)) (fun c69 => ?_) (fun c69 => ?_)
         ·refine wo c69 ?_
          refine wm rfl ?_
          refine wo c69 ?_
          refine wm rfl ?_
          refine wo c69 ?_
          refine wv (o_ne rfl rfl) ?_
          refine wo c69 ?_
          refine wm rfl ?_
          refine bsplit (!decide (r61.2 = r64.2)) (fun c70 => ?_) (fun c70 => ?_)
          ·refine wf c70 ?_
           refine wf c70 ?_
           refine wf c70 ?_
           refine wf c70 ?_
           refine wo c69 ?_
           refine wv (r := rB true) (o_pick_t (b := !decide (r61.2 = r64.2)) rfl c70 rfl) ?_
           refine wpt rfl c69 rfl ?_
           refine wl_nil ?_
           exact wtc (And.intro c69 c70)
          ·refine wo c70 ?_
           refine wm rfl ?_
           refine wo c70 ?_
           refine wm rfl ?_
           refine wo c70 ?_
           refine wc0 Tryd.call15 (vSame_w F r61.1 r64.1 (ov (vSame F r61.1 r64.1)) (ov_e (imp_f (imp_t g67 c69) c70))) rfl ?_
           refine wo c70 ?_
           refine wv (o_not rfl) ?_
           refine wo c69 ?_
           refine wpf rfl c70 rfl ?_
           refine wpt rfl c69 rfl ?_
           refine wl_nil ?_
           exact wtc (And.intro c69 c70)
         ·refine wf c69 ?_
          refine wf c69 ?_
          refine wf c69 ?_
          refine wf c69 ?_
          refine wu ?_
          refine wu ?_
          refine wu ?_
          refine wu ?_
          refine wf c69 ?_
          refine wv (r := rB false) (o_pick_f (b := !decide (other = key)) rfl c69 rfl) ?_
          refine wl_nil ?_
          exact wtc c69
        refine wc_cond (b := ((!decide (other = key)) && ((!decide (r61.2 = r64.2)) || (!(ov (vSame F r61.1 r64.1)))))) rfl (fun c71 => ?_) (fun c71 => ?_)
        ·have h72 := cnd_t c71 h68
         refine wc_sr ?_
         refine wv (r := rB false) (o_assign rfl) ?_
         refine wl_x ?_
         refine wc_ret ?_
         refine wk_then_ret ?_
         obtain rfl := some_e h72
         exact wk_ret (r_1 Tryd.results5 (rv_t rfl)) sN ⟨rfl, rfl⟩
        ·have h73 := cnd_f c71 h68
         refine wc_skip ?_
         refine wk_x ?_
         refine wc_sr ?_
         obtain ⟨r74, e76, h75⟩ := obn_e h73
         refine wc0 Tryd.call7 (lAwake_w F r74 e76) rfl ?_
         refine wa rfl ?_
         refine wl_x ?_
         refine wc_ret ?_
         obtain rfl := some_e h75
         exact wk_ret (r_1 Tryd.results5 (rv_t rfl)) sN ⟨rfl, rfl⟩
      ·have h77 := cnd_f c47 h45
       refine wc_skip ?_
       refine wk_x ?_
       refine wc_sr ?_
       obtain ⟨r78, e80, h79⟩ := obn_e h77
       refine wc0 Tryd.call7 (lAwake_w F r78 e80) rfl ?_
       refine wa rfl ?_
       refine wl_x ?_
       refine wc_ret ?_
       obtain rfl := some_e h79
       exact wk_ret (r_1 Tryd.results5 (rv_t rfl)) sN ⟨rfl, rfl⟩
    ·have h81 := cnd_f c32 h30
     refine wc_skip ?_
     refine wk_x ?_
     refine wc_seq ?_
     refine wc_sr ?_
     refine wm rfl ?_
     refine wm rfl ?_
     refine wm rfl ?_
     obtain ⟨r82, e84, h83⟩ := obn_e h81
     refine wc0 Tryd.call17 (vPut_w F v key x r82 e84) rfl ?_
     refine wm rfl ?_
     refine wv (o_extract rfl rfl) ?_
     refine wv (o_extract rfl rfl) ?_
     refine wa rfl ?_
     refine wa rfl ?_
     refine wl_y ?_
     refine wm rfl ?_
     refine wv (o_eq rfl rfl) ?_
     refine wl_x ?_
     refine wc_cond (b := decide (r82.2 = 0)) rfl (fun c85 => ?_) (fun c85 => ?_)
     ·have h86 := cnd_t c85 h83
      refine wc_sr ?_
      refine wm rfl ?_
      refine wm rfl ?_
      obtain ⟨r87, e89, h88⟩ := obn_e h86
      refine wc0 Tryd.call18 (vGet_w F r82.1 key r87 e89) rfl ?_
      refine wm rfl ?_
      refine wv (o_extract rfl rfl) ?_
      refine wv (o_extract rfl rfl) ?_
      refine wa rfl ?_
      refine wa rfl ?_
      refine wl_x ?_
      refine wc_seq ?_
      obtain ⟨g90, h91⟩ := chk_e h88
      obtain ⟨g92, h93⟩ := chk_e h91
      refine wc_seq_mid [(0, rSl 4 (List.map eTApiCell v)), (2, rS key), (3, rS other), (19, rSl 4 (List.map eTApiCell r82.1)), (121, rB ((!decide (r87.2 = 0)) || ((!(ov (vSame F r87.1 x))) || (!decide ((ov (vCheck F r82.1)) = 0)))))] [] ?_ ?_
      ·refine wc_region ?_
       refine wm rfl ?_
       refine wv (o_ne rfl rfl) ?_
       refine wm rfl ?_
       refine bsplit (!decide (r87.2 = 0)) (fun c94 => ?_) (fun c94 => ?_)
       ·refine wf c94 ?_
        refine wf c94 ?_
        refine wf c94 ?_
        refine wf c94 ?_
        refine wv (r := rB true) (o_pick_t (b := !decide (r87.2 = 0)) rfl c94 rfl) ?_
        refine wm rfl ?_
        refine wl_off (b := true) rfl rfl rfl rfl ?_
        refine wl_off (b := true) rfl rfl rfl rfl ?_
        refine wl_off (b := true) rfl rfl rfl rfl ?_
        refine wv (r := rB true) (o_pick_t (b := true) rfl rfl rfl) ?_
        refine wl_nil ?_
        exact wtc c94
       ·refine wo c94 ?_
        refine wm rfl ?_
        refine wo c94 ?_
        refine wm rfl ?_
        refine wo c94 ?_
        refine wc0 Tryd.call15 (vSame_w F r87.1 x (ov (vSame F r87.1 x)) (ov_e (imp_f g90 c94))) rfl ?_
        refine wo c94 ?_
        refine wv (o_not rfl) ?_
        refine wpf rfl c94 rfl ?_
        refine wm rfl ?_
        refine bsplit (!(ov (vSame F r87.1 x))) (fun c95 => ?_) (fun c95 => ?_)
        ·refine wf c95 ?_
         refine wf c95 ?_
         refine wf c95 ?_
         refine wv (r := rB true) (o_pick_t (b := !(ov (vSame F r87.1 x))) rfl c95 rfl) ?_
         refine wl_nil ?_
         exact wtc (And.intro c94 c95)
        ·refine wo c95 ?_
         refine wm rfl ?_
         refine wo c95 ?_
         refine wc0 Tryd.call10 (vCheck_w F r82.1 (ov (vCheck F r82.1)) (ov_e (imp_f (imp_f g92 c94) c95))) rfl ?_
         refine wo c95 ?_
         refine wv (o_ne rfl rfl) ?_
         refine wpf rfl c95 rfl ?_
         refine wl_nil ?_
         exact wtc (And.intro c94 c95)
      refine wc_cond (b := ((!decide (r87.2 = 0)) || ((!(ov (vSame F r87.1 x))) || (!decide ((ov (vCheck F r82.1)) = 0))))) rfl (fun c96 => ?_) (fun c96 => ?_)
      ·have h97 := cnd_t c96 h93
       refine wc_sr ?_
       refine wv (r := rB false) (o_assign rfl) ?_
       refine wl_x ?_
       refine wc_ret ?_
       refine wk_then_ret ?_
       refine wk_then_ret ?_
       obtain rfl := some_e h97
       exact wk_ret (r_1 Tryd.results5 (rv_t rfl)) sN ⟨rfl, rfl⟩
      ·have h98 := cnd_f c96 h93
       refine wc_skip ?_
       refine wk_x ?_
       refine wc_sr ?_
       refine wm rfl ?_
       refine wm rfl ?_
       obtain ⟨r99, e101, h100⟩ := obn_e h98
       refine wc0 Tryd.call18 (vGet_w F v other r99 e101) rfl ?_
       refine wm rfl ?_
       refine wv (o_extract rfl rfl) ?_
       refine wv (o_extract rfl rfl) ?_
       refine wa rfl ?_
       refine wa rfl ?_
       refine wl_y ?_
       refine wm rfl ?_
       refine wm rfl ?_
       obtain ⟨r102, e104, h103⟩ := obn_e h100
       refine wc0 Tryd.call18 (vGet_w F r82.1 other r102 e104) rfl ?_
       refine wm rfl ?_
       refine wv (o_extract rfl rfl) ?_
       refine wv (o_extract rfl rfl) ?_
       refine wa rfl ?_
       refine wa rfl ?_
       refine wl_x ?_
       obtain ⟨g105, h106⟩ := chk_e h103
       refine wc_seq_mid [(147, rB ((!decide (other = key)) && ((!decide (r99.2 = r102.2)) || (!(ov (vSame F r99.1 r102.1))))))] [] ?_ ?_
       ·refine wc_region ?_
        refine wm rfl ?_
        refine wm rfl ?_
        refine wv (o_sne rfl rfl) ?_
        refine wm rfl ?_
        refine bsplit (!decide (other = key)) (fun c107 => ?_) (fun c107 => ?_)
        ·refine wo c107 ?_
         refine wm rfl ?_
         refine wo c107 ?_
         refine wm rfl ?_
         refine wo c107 ?_
         refine wv (o_ne rfl rfl) ?_
         refine wo c107 ?_
         refine wm rfl ?_
         refine bsplit (!decide (r99.2 = r102.2)) (fun c108 => ?_) (fun c108 => ?_)
         ·refine wf c108 ?_
          refine wf c108 ?_
          refine wf c108 ?_
          refine wf c108 ?_
          refine wo c107 ?_
          refine wv (r := rB true) (o_pick_t (b := !decide (r99.2 = r102.2)) rfl c108 rfl) ?_
          refine wpt rfl c107 rfl ?_
          refine wl_nil ?_
          exact wtc (And.intro c107 c108)
         ·refine wo c108 ?_
          refine wm rfl ?_
          refine wo c108 ?_
          refine wm rfl ?_
          refine wo c108 ?_
          refine wc0 Tryd.call15 (vSame_w F r99.1 r102.1 (ov (vSame F r99.1 r102.1)) (ov_e (imp_f (imp_t g105 c107) c108))) rfl ?_
          refine wo c108 ?_
          refine wv (o_not rfl) ?_
          refine wo c107 ?_
          refine wpf rfl c108 rfl ?_
          refine wpt rfl c107 rfl ?_
          refine wl_nil ?_
          exact wtc (And.intro c107 c108)
        ·refine wf c107 ?_
         refine wf c107 ?_
         refine wf c107 ?_
         refine wf c107 ?_
         refine wu ?_
         refine wu ?_
         refine wu ?_
         refine wu ?_
         refine wf c107 ?_
         refine wv (r := rB false) (o_pick_f (b := !decide (other = key)) rfl c107 rfl) ?_
         refine wl_nil ?_
         exact wtc c107
       refine wc_cond (b := ((!decide (other = key)) && ((!decide (r99.2 = r102.2)) || (!(ov (vSame F r99.1 r102.1)))))) rfl (fun c109 => ?_) (fun c109 => ?_)
       ·have h110 := cnd_t c109 h106
        refine wc_sr ?_
        refine wv (r := rB false) (o_assign rfl) ?_
        refine wl_x ?_
        refine wc_ret ?_
        refine wk_then_ret ?_
        obtain rfl := some_e h110
        exact wk_ret (r_1 Tryd.results5 (rv_t rfl)) sN ⟨rfl, rfl⟩
       ·have h111 := cnd_f c109 h106
        refine wc_skip ?_
        refine wk_x ?_
        refine wc_sr ?_
        obtain ⟨r112, e114, h113⟩ := obn_e h111
        refine wc0 Tryd.call7 (lAwake_w F r112 e114) rfl ?_
        refine wa rfl ?_
        refine wl_x ?_
        refine wc_ret ?_
        obtain rfl := some_e h113
        exact wk_ret (r_1 Tryd.results5 (rv_t rfl)) sN ⟨rfl, rfl⟩
     ·have h115 := cnd_f c85 h83
      refine wc_skip ?_
      refine wk_x ?_
      refine wc_sr ?_
      obtain ⟨r116, e118, h117⟩ := obn_e h115
      refine wc0 Tryd.call7 (lAwake_w F r116 e118) rfl ?_
      refine wa rfl ?_
      refine wl_x ?_
      refine wc_ret ?_
      obtain rfl := some_e h117
      exact wk_ret (r_1 Tryd.results5 (rv_t rfl)) sN ⟨rfl, rfl⟩
  ·have h119 := cnd_f c18 h16
   refine wc_skip ?_
   refine wk_x ?_
   refine wc_seq ?_
   refine wc_sr ?_
   refine wm rfl ?_
   obtain ⟨r120, e122, h121⟩ := obn_e h119
   refine wc0 Tryd.call16 (vDecode_w F s r120 e122) rfl ?_
   refine wm rfl ?_
   refine wv (o_extract rfl rfl) ?_
   refine wv (o_extract rfl rfl) ?_
   refine wa rfl ?_
   refine wa rfl ?_
   refine wl_y ?_
   refine wm rfl ?_
   refine wv (o_eq rfl rfl) ?_
   refine wl_x ?_
   refine wc_cond (b := decide (r120.2 = 0)) rfl (fun c123 => ?_) (fun c123 => ?_)
   ·have h124 := cnd_t c123 h121
    refine wc_sr ?_
    refine wm rfl ?_
    obtain ⟨r125, e127, h126⟩ := obn_e h124
    refine wc0 Tryd.call8 (vEncode_w F r120.1 r125 e127) rfl ?_
    refine wm rfl ?_
    refine wv (o_extract rfl rfl) ?_
    refine wv (o_extract rfl rfl) ?_
    refine wa rfl ?_
    refine wa rfl ?_
    refine wl_x ?_
    obtain ⟨g128, h129⟩ := chk_e h126
    refine wc_seq_mid [(0, rSl 4 (List.map eTApiCell v)), (2, rS key), (3, rS other), (4, rSl 4 (List.map eTApiCell x)), (93, rB ((!decide (r125.2 = 0)) || ((!decide (r125.1 = s)) || (!decide ((ov (vCheck F r120.1)) = 0)))))] [] ?_ ?_
    ·refine wc_region ?_
     refine wm rfl ?_
     refine wv (o_ne rfl rfl) ?_
     refine wm rfl ?_
     refine bsplit (!decide (r125.2 = 0)) (fun c130 => ?_) (fun c130 => ?_)
     ·refine wf c130 ?_
      refine wf c130 ?_
      refine wf c130 ?_
      refine wv (r := rB true) (o_pick_t (b := !decide (r125.2 = 0)) rfl c130 rfl) ?_
      refine wm rfl ?_
      refine wl_off (b := true) rfl rfl rfl rfl ?_
      refine wl_off (b := true) rfl rfl rfl rfl ?_
      refine wl_off (b := true) rfl rfl rfl rfl ?_
      refine wv (r := rB true) (o_pick_t (b := true) rfl rfl rfl) ?_
      refine wl_nil ?_
      exact wtc c130
     ·refine wo c130 ?_
      refine wm rfl ?_
      refine wo c130 ?_
      refine wm rfl ?_
      refine wo c130 ?_
      refine wv (o_sne rfl rfl) ?_
      refine wpf rfl c130 rfl ?_
      refine wm rfl ?_
      refine bsplit (!decide (r125.1 = s)) (fun c131 => ?_) (fun c131 => ?_)
      ·refine wf c131 ?_
       refine wf c131 ?_
       refine wf c131 ?_
       refine wv (r := rB true) (o_pick_t (b := !decide (r125.1 = s)) rfl c131 rfl) ?_
       refine wl_nil ?_
       exact wtc (And.intro c130 c131)
      ·refine wo c131 ?_
       refine wm rfl ?_
       refine wo c131 ?_
       refine wc0 Tryd.call10 (vCheck_w F r120.1 (ov (vCheck F r120.1)) (ov_e (imp_f (imp_f g128 c130) c131))) rfl ?_
       refine wo c131 ?_
       refine wv (o_ne rfl rfl) ?_
       refine wpf rfl c131 rfl ?_
       refine wl_nil ?_
       exact wtc (And.intro c130 c131)
    refine wc_cond (b := ((!decide (r125.2 = 0)) || ((!decide (r125.1 = s)) || (!decide ((ov (vCheck F r120.1)) = 0))))) rfl (fun c132 => ?_) (fun c132 => ?_)
    ·have h133 := cnd_t c132 h129
     refine wc_sr ?_
     refine wv (r := rB false) (o_assign rfl) ?_
     refine wl_x ?_
     refine wc_ret ?_
     refine wk_then_ret ?_
     obtain rfl := some_e h133
     exact wk_ret (r_1 Tryd.results5 (rv_t rfl)) sN ⟨rfl, rfl⟩
    ·have h134 := cnd_f c132 h129
     refine wc_skip ?_
     refine wk_x ?_
     refine wc_seq ?_
     refine wc_sr ?_
     refine wm rfl ?_
     refine wm rfl ?_
     refine wm rfl ?_
     obtain ⟨r135, e137, h136⟩ := obn_e h134
     refine wc0 Tryd.call17 (vPut_w F v key x r135 e137) rfl ?_
     refine wm rfl ?_
     refine wv (o_extract rfl rfl) ?_
     refine wv (o_extract rfl rfl) ?_
     refine wa rfl ?_
     refine wa rfl ?_
     refine wl_y ?_
     refine wm rfl ?_
     refine wv (o_eq rfl rfl) ?_
     refine wl_x ?_
     refine wc_cond (b := decide (r135.2 = 0)) rfl (fun c138 => ?_) (fun c138 => ?_)
     ·have h139 := cnd_t c138 h136
      refine wc_sr ?_
      refine wm rfl ?_
      refine wm rfl ?_
      obtain ⟨r140, e142, h141⟩ := obn_e h139
      refine wc0 Tryd.call18 (vGet_w F r135.1 key r140 e142) rfl ?_
      refine wm rfl ?_
      refine wv (o_extract rfl rfl) ?_
      refine wv (o_extract rfl rfl) ?_
      refine wa rfl ?_
      refine wa rfl ?_
      refine wl_x ?_
      refine wc_seq ?_
      obtain ⟨g143, h144⟩ := chk_e h141
      obtain ⟨g145, h146⟩ := chk_e h144
      refine wc_seq_mid [(0, rSl 4 (List.map eTApiCell v)), (2, rS key), (3, rS other), (19, rSl 4 (List.map eTApiCell r135.1)), (121, rB ((!decide (r140.2 = 0)) || ((!(ov (vSame F r140.1 x))) || (!decide ((ov (vCheck F r135.1)) = 0)))))] [] ?_ ?_
      ·refine wc_region ?_
       refine wm rfl ?_
       refine wv (o_ne rfl rfl) ?_
       refine wm rfl ?_
       refine bsplit (!decide (r140.2 = 0)) (fun c147 => ?_) (fun c147 => ?_)
       ·refine wf c147 ?_
        refine wf c147 ?_
        refine wf c147 ?_
        refine wf c147 ?_
        refine wv (r := rB true) (o_pick_t (b := !decide (r140.2 = 0)) rfl c147 rfl) ?_
        refine wm rfl ?_
        refine wl_off (b := true) rfl rfl rfl rfl ?_
        refine wl_off (b := true) rfl rfl rfl rfl ?_
        refine wl_off (b := true) rfl rfl rfl rfl ?_
        refine wv (r := rB true) (o_pick_t (b := true) rfl rfl rfl) ?_
        refine wl_nil ?_
        exact wtc c147
       ·refine wo c147 ?_
        refine wm rfl ?_
        refine wo c147 ?_
        refine wm rfl ?_
        refine wo c147 ?_
        refine wc0 Tryd.call15 (vSame_w F r140.1 x (ov (vSame F r140.1 x)) (ov_e (imp_f g143 c147))) rfl ?_
        refine wo c147 ?_
        refine wv (o_not rfl) ?_
        refine wpf rfl c147 rfl ?_
        refine wm rfl ?_
        refine bsplit (!(ov (vSame F r140.1 x))) (fun c148 => ?_) (fun c148 => ?_)
        ·refine wf c148 ?_
         refine wf c148 ?_
         refine wf c148 ?_
         refine wv (r := rB true) (o_pick_t (b := !(ov (vSame F r140.1 x))) rfl c148 rfl) ?_
         refine wl_nil ?_
         exact wtc (And.intro c147 c148)
        ·refine wo c148 ?_
         refine wm rfl ?_
         refine wo c148 ?_
         refine wc0 Tryd.call10 (vCheck_w F r135.1 (ov (vCheck F r135.1)) (ov_e (imp_f (imp_f g145 c147) c148))) rfl ?_
         refine wo c148 ?_
         refine wv (o_ne rfl rfl) ?_
         refine wpf rfl c148 rfl ?_
         refine wl_nil ?_
         exact wtc (And.intro c147 c148)
      refine wc_cond (b := ((!decide (r140.2 = 0)) || ((!(ov (vSame F r140.1 x))) || (!decide ((ov (vCheck F r135.1)) = 0))))) rfl (fun c149 => ?_) (fun c149 => ?_)
      ·have h150 := cnd_t c149 h146
       refine wc_sr ?_
       refine wv (r := rB false) (o_assign rfl) ?_
       refine wl_x ?_
       refine wc_ret ?_
       refine wk_then_ret ?_
       refine wk_then_ret ?_
       obtain rfl := some_e h150
       exact wk_ret (r_1 Tryd.results5 (rv_t rfl)) sN ⟨rfl, rfl⟩
      ·have h151 := cnd_f c149 h146
       refine wc_skip ?_
       refine wk_x ?_
       refine wc_sr ?_
       refine wm rfl ?_
       refine wm rfl ?_
       obtain ⟨r152, e154, h153⟩ := obn_e h151
       refine wc0 Tryd.call18 (vGet_w F v other r152 e154) rfl ?_
       refine wm rfl ?_
       refine wv (o_extract rfl rfl) ?_
       refine wv (o_extract rfl rfl) ?_
       refine wa rfl ?_
       refine wa rfl ?_
       refine wl_y ?_
       refine wm rfl ?_
       refine wm rfl ?_
       obtain ⟨r155, e157, h156⟩ := obn_e h153
       refine wc0 Tryd.call18 (vGet_w F r135.1 other r155 e157) rfl ?_
       refine wm rfl ?_
       refine wv (o_extract rfl rfl) ?_
       refine wv (o_extract rfl rfl) ?_
       refine wa rfl ?_
       refine wa rfl ?_
       refine wl_x ?_
       obtain ⟨g158, h159⟩ := chk_e h156
       refine wc_seq_mid [(147, rB ((!decide (other = key)) && ((!decide (r152.2 = r155.2)) || (!(ov (vSame F r152.1 r155.1))))))] [] ?_ ?_
       ·refine wc_region ?_
        refine wm rfl ?_
        refine wm rfl ?_
        refine wv (o_sne rfl rfl) ?_
        refine wm rfl ?_
        refine bsplit (!decide (other = key)) (fun c160 => ?_) (fun c160 => ?_)
        ·refine wo c160 ?_
         refine wm rfl ?_
         refine wo c160 ?_
         refine wm rfl ?_
         refine wo c160 ?_
         refine wv (o_ne rfl rfl) ?_
         refine wo c160 ?_
         refine wm rfl ?_
         refine bsplit (!decide (r152.2 = r155.2)) (fun c161 => ?_) (fun c161 => ?_)
         ·refine wf c161 ?_
          refine wf c161 ?_
          refine wf c161 ?_
          refine wf c161 ?_
          refine wo c160 ?_
          refine wv (r := rB true) (o_pick_t (b := !decide (r152.2 = r155.2)) rfl c161 rfl) ?_
          refine wpt rfl c160 rfl ?_
          refine wl_nil ?_
          exact wtc (And.intro c160 c161)
         ·refine wo c161 ?_
          refine wm rfl ?_
          refine wo c161 ?_
          refine wm rfl ?_
          refine wo c161 ?_
          refine wc0 Tryd.call15 (vSame_w F r152.1 r155.1 (ov (vSame F r152.1 r155.1)) (ov_e (imp_f (imp_t g158 c160) c161))) rfl ?_
          refine wo c161 ?_
          refine wv (o_not rfl) ?_
          refine wo c160 ?_
          refine wpf rfl c161 rfl ?_
          refine wpt rfl c160 rfl ?_
          refine wl_nil ?_
          exact wtc (And.intro c160 c161)
        ·refine wf c160 ?_
         refine wf c160 ?_
         refine wf c160 ?_
         refine wf c160 ?_
         refine wu ?_
         refine wu ?_
         refine wu ?_
         refine wu ?_
         refine wf c160 ?_
         refine wv (r := rB false) (o_pick_f (b := !decide (other = key)) rfl c160 rfl) ?_
         refine wl_nil ?_
         exact wtc c160
       refine wc_cond (b := ((!decide (other = key)) && ((!decide (r152.2 = r155.2)) || (!(ov (vSame F r152.1 r155.1)))))) rfl (fun c162 => ?_) (fun c162 => ?_)
       ·have h163 := cnd_t c162 h159
        refine wc_sr ?_
        refine wv (r := rB false) (o_assign rfl) ?_
        refine wl_x ?_
        refine wc_ret ?_
        refine wk_then_ret ?_
        obtain rfl := some_e h163
        exact wk_ret (r_1 Tryd.results5 (rv_t rfl)) sN ⟨rfl, rfl⟩
       ·have h164 := cnd_f c162 h159
        refine wc_skip ?_
        refine wk_x ?_
        refine wc_sr ?_
        obtain ⟨r165, e167, h166⟩ := obn_e h164
        refine wc0 Tryd.call7 (lAwake_w F r165 e167) rfl ?_
        refine wa rfl ?_
        refine wl_x ?_
        refine wc_ret ?_
        obtain rfl := some_e h166
        exact wk_ret (r_1 Tryd.results5 (rv_t rfl)) sN ⟨rfl, rfl⟩
     ·have h168 := cnd_f c138 h136
      refine wc_skip ?_
      refine wk_x ?_
      refine wc_sr ?_
      obtain ⟨r169, e171, h170⟩ := obn_e h168
      refine wc0 Tryd.call7 (lAwake_w F r169 e171) rfl ?_
      refine wa rfl ?_
      refine wl_x ?_
      refine wc_ret ?_
      obtain rfl := some_e h170
      exact wk_ret (r_1 Tryd.results5 (rv_t rfl)) sN ⟨rfl, rfl⟩
   ·have h172 := cnd_f c123 h121
    refine wc_skip ?_
    refine wk_x ?_
    refine wc_seq ?_
    refine wc_sr ?_
    refine wm rfl ?_
    refine wm rfl ?_
    refine wm rfl ?_
    obtain ⟨r173, e175, h174⟩ := obn_e h172
    refine wc0 Tryd.call17 (vPut_w F v key x r173 e175) rfl ?_
    refine wm rfl ?_
    refine wv (o_extract rfl rfl) ?_
    refine wv (o_extract rfl rfl) ?_
    refine wa rfl ?_
    refine wa rfl ?_
    refine wl_y ?_
    refine wm rfl ?_
    refine wv (o_eq rfl rfl) ?_
    refine wl_x ?_
    refine wc_cond (b := decide (r173.2 = 0)) rfl (fun c176 => ?_) (fun c176 => ?_)
    ·have h177 := cnd_t c176 h174
     refine wc_sr ?_
     refine wm rfl ?_
     refine wm rfl ?_
     obtain ⟨r178, e180, h179⟩ := obn_e h177
     refine wc0 Tryd.call18 (vGet_w F r173.1 key r178 e180) rfl ?_
     refine wm rfl ?_
     refine wv (o_extract rfl rfl) ?_
     refine wv (o_extract rfl rfl) ?_
     refine wa rfl ?_
     refine wa rfl ?_
     refine wl_x ?_
     refine wc_seq ?_
     obtain ⟨g181, h182⟩ := chk_e h179
     obtain ⟨g183, h184⟩ := chk_e h182
     refine wc_seq_mid [(0, rSl 4 (List.map eTApiCell v)), (2, rS key), (3, rS other), (19, rSl 4 (List.map eTApiCell r173.1)), (121, rB ((!decide (r178.2 = 0)) || ((!(ov (vSame F r178.1 x))) || (!decide ((ov (vCheck F r173.1)) = 0)))))] [] ?_ ?_
     ·refine wc_region ?_
      refine wm rfl ?_
      refine wv (o_ne rfl rfl) ?_
      refine wm rfl ?_
      refine bsplit (!decide (r178.2 = 0)) (fun c185 => ?_) (fun c185 => ?_)
      ·refine wf c185 ?_
       refine wf c185 ?_
       refine wf c185 ?_
       refine wf c185 ?_
       refine wv (r := rB true) (o_pick_t (b := !decide (r178.2 = 0)) rfl c185 rfl) ?_
       refine wm rfl ?_
       refine wl_off (b := true) rfl rfl rfl rfl ?_
       refine wl_off (b := true) rfl rfl rfl rfl ?_
       refine wl_off (b := true) rfl rfl rfl rfl ?_
       refine wv (r := rB true) (o_pick_t (b := true) rfl rfl rfl) ?_
       refine wl_nil ?_
       exact wtc c185
      ·refine wo c185 ?_
       refine wm rfl ?_
       refine wo c185 ?_
       refine wm rfl ?_
       refine wo c185 ?_
       refine wc0 Tryd.call15 (vSame_w F r178.1 x (ov (vSame F r178.1 x)) (ov_e (imp_f g181 c185))) rfl ?_
       refine wo c185 ?_
       refine wv (o_not rfl) ?_
       refine wpf rfl c185 rfl ?_
       refine wm rfl ?_
       refine bsplit (!(ov (vSame F r178.1 x))) (fun c186 => ?_) (fun c186 => ?_)
       ·refine wf c186 ?_
        refine wf c186 ?_
        refine wf c186 ?_
        refine wv (r := rB true) (o_pick_t (b := !(ov (vSame F r178.1 x))) rfl c186 rfl) ?_
        refine wl_nil ?_
        exact wtc (And.intro c185 c186)
       ·refine wo c186 ?_
        refine wm rfl ?_
        refine wo c186 ?_
        refine wc0 Tryd.call10 (vCheck_w F r173.1 (ov (vCheck F r173.1)) (ov_e (imp_f (imp_f g183 c185) c186))) rfl ?_
        refine wo c186 ?_
        refine wv (o_ne rfl rfl) ?_
        refine wpf rfl c186 rfl ?_
        refine wl_nil ?_
        exact wtc (And.intro c185 c186)
     refine wc_cond (b := ((!decide (r178.2 = 0)) || ((!(ov (vSame F r178.1 x))) || (!decide ((ov (vCheck F r173.1)) = 0))))) rfl (fun c187 => ?_) (fun c187 => ?_)
     ·have h188 := cnd_t c187 h184
      refine wc_sr ?_
      refine wv (r := rB false) (o_assign rfl) ?_
      refine wl_x ?_
      refine wc_ret ?_
      refine wk_then_ret ?_
      refine wk_then_ret ?_
      obtain rfl := some_e h188
      exact wk_ret (r_1 Tryd.results5 (rv_t rfl)) sN ⟨rfl, rfl⟩
     ·have h189 := cnd_f c187 h184
      refine wc_skip ?_
      refine wk_x ?_
      refine wc_sr ?_
      refine wm rfl ?_
      refine wm rfl ?_
      obtain ⟨r190, e192, h191⟩ := obn_e h189
      refine wc0 Tryd.call18 (vGet_w F v other r190 e192) rfl ?_
      refine wm rfl ?_
      refine wv (o_extract rfl rfl) ?_
      refine wv (o_extract rfl rfl) ?_
      refine wa rfl ?_
      refine wa rfl ?_
      refine wl_y ?_
      refine wm rfl ?_
      refine wm rfl ?_
      obtain ⟨r193, e195, h194⟩ := obn_e h191
      refine wc0 Tryd.call18 (vGet_w F r173.1 other r193 e195) rfl ?_
      refine wm rfl ?_
      refine wv (o_extract rfl rfl) ?_
      refine wv (o_extract rfl rfl) ?_
      refine wa rfl ?_
      refine wa rfl ?_
      refine wl_x ?_
      obtain ⟨g196, h197⟩ := chk_e h194
      refine wc_seq_mid [(147, rB ((!decide (other = key)) && ((!decide (r190.2 = r193.2)) || (!(ov (vSame F r190.1 r193.1))))))] [] ?_ ?_
      ·refine wc_region ?_
       refine wm rfl ?_
       refine wm rfl ?_
       refine wv (o_sne rfl rfl) ?_
       refine wm rfl ?_
       refine bsplit (!decide (other = key)) (fun c198 => ?_) (fun c198 => ?_)
       ·refine wo c198 ?_
        refine wm rfl ?_
        refine wo c198 ?_
        refine wm rfl ?_
        refine wo c198 ?_
        refine wv (o_ne rfl rfl) ?_
        refine wo c198 ?_
        refine wm rfl ?_
        refine bsplit (!decide (r190.2 = r193.2)) (fun c199 => ?_) (fun c199 => ?_)
        ·refine wf c199 ?_
         refine wf c199 ?_
         refine wf c199 ?_
         refine wf c199 ?_
         refine wo c198 ?_
         refine wv (r := rB true) (o_pick_t (b := !decide (r190.2 = r193.2)) rfl c199 rfl) ?_
         refine wpt rfl c198 rfl ?_
         refine wl_nil ?_
         exact wtc (And.intro c198 c199)
        ·refine wo c199 ?_
         refine wm rfl ?_
         refine wo c199 ?_
         refine wm rfl ?_
         refine wo c199 ?_
         refine wc0 Tryd.call15 (vSame_w F r190.1 r193.1 (ov (vSame F r190.1 r193.1)) (ov_e (imp_f (imp_t g196 c198) c199))) rfl ?_
         refine wo c199 ?_
         refine wv (o_not rfl) ?_
         refine wo c198 ?_
         refine wpf rfl c199 rfl ?_
         refine wpt rfl c198 rfl ?_
         refine wl_nil ?_
         exact wtc (And.intro c198 c199)
       ·refine wf c198 ?_
        refine wf c198 ?_
        refine wf c198 ?_
        refine wf c198 ?_
        refine wu ?_
        refine wu ?_
        refine wu ?_
        refine wu ?_
        refine wf c198 ?_
        refine wv (r := rB false) (o_pick_f (b := !decide (other = key)) rfl c198 rfl) ?_
        refine wl_nil ?_
        exact wtc c198
      refine wc_cond (b := ((!decide (other = key)) && ((!decide (r190.2 = r193.2)) || (!(ov (vSame F r190.1 r193.1)))))) rfl (fun c200 => ?_) (fun c200 => ?_)
      ·have h201 := cnd_t c200 h197
       refine wc_sr ?_
       refine wv (r := rB false) (o_assign rfl) ?_
       refine wl_x ?_
       refine wc_ret ?_
       refine wk_then_ret ?_
       obtain rfl := some_e h201
       exact wk_ret (r_1 Tryd.results5 (rv_t rfl)) sN ⟨rfl, rfl⟩
      ·have h202 := cnd_f c200 h197
       refine wc_skip ?_
       refine wk_x ?_
       refine wc_sr ?_
       obtain ⟨r203, e205, h204⟩ := obn_e h202
       refine wc0 Tryd.call7 (lAwake_w F r203 e205) rfl ?_
       refine wa rfl ?_
       refine wl_x ?_
       refine wc_ret ?_
       obtain rfl := some_e h204
       exact wk_ret (r_1 Tryd.results5 (rv_t rfl)) sN ⟨rfl, rfl⟩
    ·have h206 := cnd_f c176 h174
     refine wc_skip ?_
     refine wk_x ?_
     refine wc_sr ?_
     obtain ⟨r207, e209, h208⟩ := obn_e h206
     refine wc0 Tryd.call7 (lAwake_w F r207 e209) rfl ?_
     refine wa rfl ?_
     refine wl_x ?_
     refine wc_ret ?_
     obtain rfl := some_e h208
     exact wk_ret (r_1 Tryd.results5 (rv_t rfl)) sN ⟨rfl, rfl⟩

end Go.Proofs.YtkalifgebccpcaaDoor.Q

/-
 What is known of the values that the law is handed. Plain definitions.
-/
namespace Go.Proofs.YtkalifgebccpcaaDoor.lawValueRoundTrips
open Go
set_option linter.unusedVariables false
def ok40 (y : TApiCell) : Bool := (inK .i64) y.fKind && (inK .i64) y.fInt && okS y.fStr && (inK .i64) y.fN
def Law : Prop := ∀ (y0 : (List TApiCell)) (y1 : Str) (y2 : Str) (y3 : Str) (y4 : (List TApiCell)) (o0 : (fun ys : (List TApiCell) => ys.all ok40 && decide (ys.length ≤ 9223372036854775807)) y0 = true) (o1 : okS y1 = true) (o2 : okS y2 = true) (o3 : okS y3 = true) (o4 : (fun ys : (List TApiCell) => ys.all ok40 && decide (ys.length ≤ 9223372036854775807)) y4 = true), ∃ F, lTrips F y0 y1 y2 y3 y4 = some true
end Go.Proofs.YtkalifgebccpcaaDoor.lawValueRoundTrips

/-
 What small functions of the package value and of its reference compute. Plain laws.
-/
namespace Go.Proofs.YtkalifgebccpcaaDoor
open Go
set_option linter.unusedVariables false
set_option linter.unusedSimpArgs false
def okc (c : UInt8) : Bool := decide (32 ≤ c.toNat) && decide (c.toNat ≤ 126)
theorem bat_get {s : Str} {x : Int} {c : UInt8} (h : s[x.toNat]? = some c) : bat s x = (c.toNat : Int) := by simp [bat, h]
theorem take_all_succ {α : Type} {p : α → Bool} {s : List α} {k : Nat} {c : α} (h : s[k]? = some c) : (s.take (k + 1)).all p = ((s.take k).all p && p c) := by
 rw [List.take_add_one, h]; simp
theorem all_false_of {α : Type} {p : α → Bool} {s : List α} {k : Nat} {c : α} (h : s[k]? = some c) (hp : p c = false) : s.all p = false := by
 rw [List.all_eq_false]; exact ⟨c, List.mem_of_getElem? h, by simp [hp]⟩
theorem vText_eq {F : Nat} {s : Str} (hF : s.length < F) (hs : s.length ≤ 9223372036854775807) : vText F s = some (s.all okc) := by
 obtain ⟨o, h1, h2⟩ := lop_ind (body := fun σ => vText_b1 s σ) (fun x => 0 ≤ x ∧ x ≤ (s.length : Int) ∧ (s.take x.toNat).all okc = true) (fun x => s.length - x.toNat)
  (fun o => oute (fun _ => vText_k1) o = some (s.all okc)) (fun x ⟨h0, hl, ha⟩ => by
   unfold vText_b1
   by_cases hx : x < (s.length : Int)
   ·obtain ⟨c, hc⟩ : ∃ c, s[x.toNat]? = some c := ⟨s[x.toNat]'(by omega), List.getElem?_eq_getElem (by omega)⟩
    rw [cnd_tt (by simpa using hx), chk_inR h0 hx, bat_get hc]
    cases ho : okc c with
    | false =>
     refine .inr ⟨.ret false, ?_, ?_⟩
     ·rw [cnd_tt]
      simp only [okc, Bool.and_eq_false_iff, decide_eq_false_iff_not] at ho
      simp only [Bool.or_eq_true, decide_eq_true_eq]; omega
     ·simp [oute, all_false_of hc ho]
    | true =>
     refine .inl ⟨x + 1, ?_, ⟨by omega, by omega, ?_⟩, by omega⟩
     ·rw [cnd_ff, chk_i64 (by omega) (by omega)]
      simp only [okc, Bool.and_eq_true, decide_eq_true_eq] at ho
      simp only [Bool.or_eq_false_iff, decide_eq_false_iff_not]; omega
     ·rw [show (x + 1).toNat = x.toNat + 1 from by omega, take_all_succ hc, ha, ho]; rfl
   ·refine .inr ⟨.go (), by rw [cnd_ff (by simpa using hx)], ?_⟩
    rw [show x.toNat = s.length from by omega, List.take_length] at ha
    simp [oute, vText_k1, ha]) F 0 ⟨by omega, by omega, by simp⟩ (by simpa using hF)
 unfold vText
 rw [obn_s h1, h2]
theorem rPlain_vText (F : Nat) (s : Str) : rPlain F s = vText F s := rfl
theorem rPlain_eq {F : Nat} {s : Str} (hF : s.length < F) (hs : s.length ≤ 9223372036854775807) : rPlain F s = some (s.all okc) := by rw [rPlain_vText]; exact vText_eq hF hs
def pl (c : TApiCell) : Bool :=
 bif decide (c.fKind = 1) then (decide (c.fInt = 0) && (decide (c.fStr = []) && decide (c.fN = 0))) else
 bif decide (c.fKind = 2) then ((decide (c.fInt = 0) || decide (c.fInt = 1)) && (decide (c.fStr = []) && decide (c.fN = 0))) else
 bif decide (c.fKind = 3) then (decide (c.fStr = []) && decide (c.fN = 0)) else
 bif decide (c.fKind = 4) then (decide (c.fInt = 0) && (decide (c.fN = 0) && c.fStr.all okc)) else
 bif decide (c.fKind = 5) then (decide (c.fInt = 0) && (decide (c.fStr = []) && decide (0 ≤ c.fN))) else
 bif decide (c.fKind = 6) then (decide (c.fInt = 0) && (decide (c.fStr = []) && decide (0 ≤ c.fN))) else false
theorem cnd_some {α : Type} {p : Bool} {x y : Option α} {a b : α} (h : x = some a) (h' : y = some b) : cnd p x y = some (bif p then a else b) := by cases p <;> simp [cnd, h, h']
theorem vPlain_eq {F : Nat} {c : TApiCell} (hF : c.fStr.length < F) (hs : c.fStr.length ≤ 9223372036854775807) : vPlain F c = some (pl c) := by
 unfold vPlain pl
 rw [vText_eq hF hs]
 refine cnd_some rfl (cnd_some ?_ (cnd_some rfl (cnd_some ?_ (cnd_some rfl (cnd_some rfl rfl)))))
 ·cases h : decide (c.fInt = 0) <;> simp
 ·simp [imp, chk, ov]
def clr : List TValueOpen → List TValueOpen
 | [] => []
 | e :: S => bif decide (1 < e.fLeft) then ⟨e.fPairs, e.fLeft - 1, e.fPairs, e.fLast, e.fStarted⟩ :: S else clr S
theorem at_last {α : Type} [Inhabited α] (xs : List α) (e : α) : at' (xs ++ [e]) (xs.length : Int) = e := by simp [at']
theorem set_last {α : Type} (xs : List α) (e e' : α) : List.set (xs ++ [e]) (Int.toNat (xs.length : Int)) e' = xs ++ [e'] := by simp
theorem len_last {α : Type} (xs : List α) (e : α) : ((xs ++ [e]).length : Int) - 1 = (xs.length : Int) := by simp
theorem take_last {α : Type} (xs : List α) (e : α) : List.take (Int.toNat (xs.length : Int)) (xs ++ [e]) = xs := by simp
theorem vClosed_lop : ∀ (S : List TValueOpen) (F : Nat), S.length < F → (∀ e ∈ S, 1 ≤ e.fLeft ∧ e.fLeft ≤ 9223372036854775807) → S.length ≤ 4611686018427387904 →
  ∃ o, lop (fun σ => vClosed_b1 σ) F S.reverse = some o ∧ oute (fun ν => vClosed_k1 ν) o = some (clr S).reverse
 | [], F + 1, _, _, _ => ⟨.go [], by simp [lop, vClosed_b1, cnd], by simp [oute, vClosed_k1, clr]⟩
 | e :: S, F + 1, hF, hb, hl => by
  obtain ⟨h1, h2⟩ := hb e (by simp)
  simp only [List.length_cons] at hF hl
  have hx : S.reverse.length = S.length := by simp
  generalize hxs : S.reverse = xs at hx
  have hr : (e :: S).reverse = xs ++ [e] := by simp [hxs]
  rw [hr]
  have hb1 : vClosed_b1 (xs ++ [e]) = bif decide (1 < e.fLeft) then some (.out (.ret (xs ++ [⟨e.fPairs, e.fLeft - 1, e.fPairs, e.fLast, e.fStarted⟩]))) else some (.next xs) := by
   unfold vClosed_b1
   rw [cnd_tt (by simp)]
   simp only [len_last, at_last, set_last, bnd]
   rw [chk_i64 (by omega) (by omega), chk_inR (by omega) (by simp; omega), chk_i64 (by omega) (by omega)]
   cases hd : decide (1 < e.fLeft) with
   | true =>
    rw [cnd_tt (by simp at hd ⊢; omega)]; rfl
   | false =>
    rw [cnd_ff (by simp at hd ⊢; omega), chk_i64 (by omega) (by omega), chk_inC (by omega) (by simp; omega), take_last]; rfl
  rw [lop, hb1]
  cases hd : decide (1 < e.fLeft) with
  | true => exact ⟨_, rfl, by simp [oute, vClosed_k1, clr, hd, hxs]⟩
  | false =>
   obtain ⟨o, ho1, ho2⟩ := vClosed_lop S F (by omega) (fun e he => hb e (by simp [he])) (by omega)
   rw [hxs] at ho1
   exact ⟨o, ho1, by rw [ho2]; simp [clr, hd]⟩
theorem vClosed_eq {S : List TValueOpen} {F : Nat} (hF : S.length < F) (hb : ∀ e ∈ S, 1 ≤ e.fLeft ∧ e.fLeft ≤ 9223372036854775807) (hl : S.length ≤ 4611686018427387904) : vClosed F S.reverse = some (clr S).reverse := by
 obtain ⟨o, h1, h2⟩ := vClosed_lop S F hF hb hl
 unfold vClosed
 rw [obn_s h1, h2]
end Go.Proofs.YtkalifgebccpcaaDoor

/-
 value.look, one cell at a time. Plain laws.
-/
namespace Go.Proofs.YtkalifgebccpcaaDoor
open Go
set_option linter.unusedVariables false
set_option linter.unusedSimpArgs false
def qlen (s : Str) : Int := s.length + 2 + s.count 34 + s.count 92
theorem vQuoted_eq {s : Str} (hs : s.length ≤ 1152921504606846976) : vQuoted s = some (qlen s) := by
 have h1 : s.count 34 ≤ s.length := List.count_le_length
 have h2 : s.count 92 ≤ s.length := List.count_le_length
 unfold vQuoted Lib.countByte
 rw [chk_i64 (by omega) (by omega), chk_i64 (by omega) (by omega), chk_i64 (by omega) (by omega)]
 rfl
def szc (c : TApiCell) : Int :=
 bif decide (c.fKind = 1) then 4 else bif decide (c.fKind = 2) then IntKind.wrap .i64 (5 - c.fInt) else bif decide (c.fKind = 3) then ((Lib.itoa c.fInt).length : Int) else
 bif decide (c.fKind = 4) then qlen c.fStr else IntKind.wrap .i64 (2 + max 0 (IntKind.wrap .i64 (c.fN - 1)))
theorem vSize_eq {c : TApiCell} (hs : c.fStr.length ≤ 1152921504606846976) (hi : inK .i64 c.fInt = true) : vSize c = some (szc c) := by
 unfold vSize szc
 rw [vQuoted_eq hs]
 refine cnd_some rfl (cnd_some rfl (cnd_some ?_ (cnd_some rfl rfl)))
 rw [chk_t hi]
def shc (d : Nat) (sh : TValueShape) (c : TApiCell) : TValueShape :=
 ⟨max sh.fDepth ((d : Int) + 1), IntKind.wrap .i64 (sh.fBytes + szc c), sh.fOutside || (decide (c.fKind = 3) && !(decide ((-1000000000000) ≤ c.fInt) && decide (c.fInt ≤ 1000000000000))), sh.fLong || decide (200 < (c.fStr.length : Int))⟩
def shk (sh : TValueShape) (c : TApiCell) : TValueShape := ⟨sh.fDepth, IntKind.wrap .i64 (sh.fBytes + (qlen c.fStr + 1)), sh.fOutside, sh.fLong || decide (200 < (c.fStr.length : Int))⟩
def keyTop : List TValueOpen → Bool
 | [] => false
 | e :: _ => e.fKey
abbrev LkS := List TValueOpen × Int × TValueShape
abbrev LkO := Out (Int × TValueShape × Bool) TValueShape
def lkc (n : Int) (S : List TValueOpen) (i : Int) (sh : TValueShape) (c : TApiCell) : Stp LkS LkO :=
 bif !pl c then .out (.ret (0, sh, false)) else
 match S with
 | e :: S' =>
  bif e.fKey then
   bif !decide (c.fKind = 4) || (e.fStarted && (sLess c.fStr e.fLast || decide (c.fStr = e.fLast))) then .out (.ret (0, sh, false))
   else .next ((⟨e.fPairs, e.fLeft, false, c.fStr, true⟩ :: S').reverse, i + 1, shk sh c)
  else bif decide (0 < c.fN) then
   bif decide (n < c.fN) then .out (.ret (0, shc S.length sh c, false))
   else .next ((⟨decide (c.fKind = 6), c.fN, decide (c.fKind = 6), [], false⟩ :: S).reverse, i + 1, shc S.length sh c)
  else bif decide (clr S = []) then .out (.ret (i + 1, shc S.length sh c, true)) else .next ((clr S).reverse, i + 1, shc S.length sh c)
 | [] =>
  bif decide (0 < c.fN) then
   bif decide (n < c.fN) then .out (.ret (0, shc 0 sh c, false))
   else .next ([⟨decide (c.fKind = 6), c.fN, decide (c.fKind = 6), [], false⟩], i + 1, shc 0 sh c)
  else .out (.ret (i + 1, shc 0 sh c, true))
theorem clr_nil_length {S : List TValueOpen} : decide (((clr S).reverse.length : Int) = 0) = decide (clr S = []) := by
 rw [Bool.eq_iff_iff]; simp
theorem inA48 {α : Type} {xs : List α} {e x : α} {M : Nat} (h : xs.length + 1 ≤ M) (hM2 : (M + 2) * 48 ≤ 140737488355328) : inA 48 ((xs ++ [e]).length + ([x] : List α).length) = true := by
 refine decide_eq_true (Nat.le_trans (Nat.mul_le_mul_right 48 ?_) hM2)
 rw [List.length_append, List.length_singleton, List.length_singleton]; omega
set_option maxHeartbeats 600000 in
theorem vLook_b1_eq {F : Nat} {v : List TApiCell} {S : List TValueOpen} {i : Int} {sh : TValueShape} {c : TApiCell} (h0 : 0 ≤ i) (hc : v[i.toNat]? = some c) {M : Nat} (hM : M ≤ 1152921504606846976) (hM2 : (M + 2) * 48 ≤ 140737488355328) (hv : v.length ≤ M) (hS : S.length ≤ M) (hF : M < F)
  (hs : c.fStr.length ≤ M) (hi : inK .i64 c.fInt = true) (hb : ∀ e ∈ S, 1 ≤ e.fLeft ∧ e.fLeft ≤ 9223372036854775807) : vLook_b1 F v S.reverse i sh = some (lkc v.length S i sh c) := by
 have hil : i.toNat < v.length := (List.getElem?_eq_some_iff.1 hc).1
 have hat : at' v i = c := by simp [at', hc]
 unfold vLook_b1 lkc
 rw [cnd_tt (by simp; omega), chk_inR h0 (by omega), hat, vPlain_eq (by omega) (by omega), obn_s rfl]
 cases hp : pl c with
 | false => rw [cnd_tt (by simp)]; rfl
 | true =>
  rw [cnd_ff (by simp)]
  cases S with
  | nil =>
   rw [chk_t (by simp [imp]), chk_t (by simp [imp]), cnd_ff (by simp), chk_i64 (by simp) (by simp), vSize_eq (by omega) hi, obn_s rfl, chk_t (by simp [imp, nValid])]
   simp only [nValid, ov, Option.getD_some, Bool.not_true, cond_false]
   cases hn : decide (0 < c.fN) with
   | true =>
    rw [cnd_tt rfl]
    cases hm : decide ((v.length : Int) < c.fN) with
    | true => rw [cnd_tt rfl]; simp [shc]
    | false => rw [cnd_ff rfl, chk_t (by simp [inA])]; unfold vLook_j2; rw [chk_i64 (by omega) (by omega)]; simp [shc]
   | false =>
    rw [cnd_ff rfl, obn_s (vClosed_eq (S := []) (by simp; omega) (by simp) (by simp)), cnd_tt (by simp [clr]), chk_i64 (by omega) (by omega)]; simp [shc]
  | cons e S' =>
   have hx : S'.reverse.length = S'.length := by simp
   generalize hxs : S'.reverse = xs at hx
   have hr : (e :: S').reverse = xs ++ [e] := by simp [hxs]
   simp only [List.length_cons] at hS
   have hlen : ((xs ++ [e]).length : Int) = (xs.length : Int) + 1 := by simp
   rw [hr, chk_t (by simp only [imp, len_last]; rw [inK_i64' (by omega) (by omega)]; simp), chk_t (by simp only [imp, len_last]; rw [inR' (by omega) (by omega)]; simp)]
   rw [len_last, at_last]
   cases hk : e.fKey with
   | true =>
    rw [cnd_tt (by simp), chk_i64 (by omega) (by omega), chk_inR (by omega) (by omega)]
    simp only [hk, Bool.not_true, cond_false, cond_true]
    cases ht : !decide (c.fKind = 4) || (e.fStarted && (sLess c.fStr e.fLast || decide (c.fStr = e.fLast))) with
    | true => rw [cnd_tt rfl]; rfl
    | false =>
     rw [cnd_ff rfl, set_last, bnd, at_last, set_last, bnd, at_last, set_last, bnd, vQuoted_eq (by omega), obn_s rfl, chk_i64 (by unfold qlen; omega) (by unfold qlen; have := @List.count_le_length UInt8 _ 34 c.fStr; have := @List.count_le_length UInt8 _ 92 c.fStr; omega)]
     unfold vLook_j2
     rw [chk_i64 (by omega) (by omega)]
     simp [shk, hxs]
   | false =>
    rw [cnd_ff (by simp), hlen, chk_i64 (by omega) (by omega), vSize_eq (by omega) hi, obn_s rfl, chk_t (by simp [imp, nValid])]
    simp only [hk, nValid, ov, Option.getD_some, Bool.not_true, cond_false, cond_true]
    cases hn : decide (0 < c.fN) with
    | true =>
     rw [cnd_tt rfl]
     cases hm : decide ((v.length : Int) < c.fN) with
     | true => rw [cnd_tt rfl]; simp [shc, hx]
     | false => rw [cnd_ff rfl, chk_t (inA48 (by omega) hM2)]; unfold vLook_j2; rw [chk_i64 (by omega) (by omega)]; simp [shc, hx, hxs]
    | false =>
     have hcl := vClosed_eq (S := e :: S') (F := F) (by simp; omega) hb (by simp; omega)
     rw [hr] at hcl
     rw [cnd_ff rfl, hcl, obn_s rfl, clr_nil_length]
     cases hq : decide (clr (e :: S') = []) with
     | true => rw [cnd_tt rfl, chk_i64 (by omega) (by omega)]; simp [shc, hx]
     | false => rw [cnd_ff rfl]; unfold vLook_j2; rw [chk_i64 (by omega) (by omega)]; simp [shc, hx]
end Go.Proofs.YtkalifgebccpcaaDoor

/-
 Values as forests; value.look on the cells of a forest. Plain laws.
-/
namespace Go.Proofs.YtkalifgebccpcaaDoor
open Go
set_option linter.unusedVariables false
set_option linter.unusedSimpArgs false
section
variable {S O : Type} {body : S → Option (Stp S O)} {s t u : S} {o : O}
def Reach (body : S → Option (Stp S O)) (s t : S) : Prop := ∃ k, ∀ n, lop body (n + k) s = lop body n t
def Fin (body : S → Option (Stp S O)) (s : S) (o : O) : Prop := ∃ k, ∀ n, lop body (n + k) s = some o
theorem Reach.refl (s : S) : Reach body s s := ⟨0, fun _ => rfl⟩
theorem Reach.trans (h : Reach body s t) (h' : Reach body t u) : Reach body s u := by
 obtain ⟨k, hk⟩ := h
 obtain ⟨j, hj⟩ := h'
 exact ⟨j + k, fun n => by rw [← Nat.add_assoc, hk, hj]⟩
theorem Reach.step (h : body s = some (.next t)) : Reach body s t := ⟨1, fun n => by rw [lop, h]⟩
theorem Fin.step (h : body s = some (.out o)) : Fin body s o := ⟨1, fun n => by rw [lop, h]⟩
theorem Reach.fin (h : Reach body s t) (h' : Fin body t o) : Fin body s o := by
 obtain ⟨k, hk⟩ := h
 obtain ⟨j, hj⟩ := h'
 exact ⟨j + k, fun n => by rw [← Nat.add_assoc, hk, hj]⟩
end
inductive Fo where
 | nil
 | cell (k : Option Str) (c : TApiCell) (r : Fo)
 | node (k : Option Str) (c : TApiCell) (kids r : Fo)
def keyC : Option Str → List TApiCell
 | none => []
 | some s => [⟨4, 0, s, 0⟩]
def Fo.flat : Fo → List TApiCell
 | .nil => []
 | .cell k c r => keyC k ++ c :: r.flat
 | .node k c kids r => keyC k ++ c :: (kids.flat ++ r.flat)
def Fo.cnt : Fo → Nat
 | .nil => 0
 | .cell _ _ r => r.cnt + 1
 | .node _ _ _ r => r.cnt + 1
def keyOk (m : Bool) (last : Option Str) : Option Str → Bool
 | none => !m
 | some s => m && s.all okc && (match last with
  | none => true
  | some p => !(sLess s p || decide (s = p)))
def Fo.wf : Bool → Option Str → Fo → Bool
 | _, _, .nil => true
 | m, last, .cell k c r => keyOk m last k && pl c && !decide (0 < c.fN) && r.wf m k
 | m, last, .node k c kids r => keyOk m last k && pl c && decide (0 < c.fN) && decide (c.fN = kids.cnt) && kids.wf (decide (c.fKind = 6)) none && r.wf m k
def shK (k : Option Str) (sh : TValueShape) : TValueShape := match k with
 | none => sh
 | some s => shk sh ⟨4, 0, s, 0⟩
def Fo.sh (d : Nat) : TValueShape → Fo → TValueShape
 | s, .nil => s
 | s, .cell k c r => r.sh d (shc d (shK k s) c)
 | s, .node k c kids r => r.sh d (kids.sh (d + 1) (shc d (shK k s) c))
def Done (body : LkS → Option (Stp LkS LkO)) (s : LkS) (S : List TValueOpen) (i : Int) (sh : TValueShape) : Prop :=
 if clr S = [] then Fin body s (.ret (i, sh, true)) else Reach body s ((clr S).reverse, i, sh)
theorem Done.of {body : LkS → Option (Stp LkS LkO)} {s t : LkS} {S : List TValueOpen} {i : Int} {sh : TValueShape} (h : Reach body s t) (h' : Done body t S i sh) : Done body s S i sh := by
 unfold Done at *
 split
 ·rename_i e; rw [if_pos e] at h'; exact h.fin h'
 ·rename_i e; rw [if_neg e] at h'; exact h.trans h'
theorem Done.pop {body : LkS → Option (Stp LkS LkO)} {s : LkS} {e : TValueOpen} {S : List TValueOpen} {i : Int} {sh : TValueShape} (h : Done body s (e :: S) i sh) (h1 : e.fLeft = 1) : Done body s S i sh := by
 have : clr (e :: S) = clr S := by simp [clr, h1]
 unfold Done at *
 rw [this] at h; exact h
theorem Done.more {body : LkS → Option (Stp LkS LkO)} {s : LkS} {e : TValueOpen} {S : List TValueOpen} {i : Int} {sh : TValueShape} (h : Done body s (e :: S) i sh) (h1 : 1 < e.fLeft) : Reach body s ((⟨e.fPairs, e.fLeft - 1, e.fPairs, e.fLast, e.fStarted⟩ :: S).reverse, i, sh) := by
 have : clr (e :: S) = ⟨e.fPairs, e.fLeft - 1, e.fPairs, e.fLast, e.fStarted⟩ :: S := by simp [clr, h1]
 unfold Done at *
 rw [this, if_neg (by simp)] at h; exact h
end Go.Proofs.YtkalifgebccpcaaDoor

/-
 value.look on the cells of a forest: it goes through them. Plain laws.
-/
namespace Go.Proofs.YtkalifgebccpcaaDoor
open Go
set_option linter.unusedVariables false
set_option linter.unusedSimpArgs false
structure LkA (F M : Nat) (v : List TApiCell) : Prop where
 hM : M ≤ 1152921504606846976
 hM2 : (M + 2) * 48 ≤ 140737488355328
 hv : v.length ≤ M
 hF : M < F
 hc : ∀ c ∈ v, c.fStr.length ≤ M ∧ inK .i64 c.fInt = true ∧ c.fN ≤ 9223372036854775807
abbrev lkB (F : Nat) (v : List TApiCell) : LkS → Option (Stp LkS LkO) := fun σ => vLook_b1 F v σ.1 σ.2.1 σ.2.2
def lefts (S : List TValueOpen) : Prop := ∀ e ∈ S, 1 ≤ e.fLeft ∧ e.fLeft ≤ 9223372036854775807
section
variable {F M : Nat} {v : List TApiCell} {S : List TValueOpen} {i : Int} {sh : TValueShape} {c : TApiCell} {r : List TApiCell} {e : TValueOpen}
theorem drop_get (h0 : 0 ≤ i) (h : v.drop i.toNat = c :: r) : v[i.toNat]? = some c ∧ v.drop (i + 1).toNat = r ∧ i < v.length := by
 have h1 : (v.drop i.toNat)[0]? = some c := by rw [h]; rfl
 have h2 : v[i.toNat]? = some c := by simpa using h1
 have h3 := (List.getElem?_eq_some_iff.1 h2).1
 refine ⟨h2, ?_, by omega⟩
 rw [show (i + 1).toNat = i.toNat + 1 from by omega, ← List.drop_drop, h]; rfl
theorem round (hA : LkA F M v) (h0 : 0 ≤ i) (h : v.drop i.toNat = c :: r) (hS : (S.length : Int) ≤ i) (hb : lefts S) : lkB F v (S.reverse, i, sh) = some (lkc v.length S i sh c) := by
 obtain ⟨h1, _, h3⟩ := drop_get h0 h
 obtain ⟨a, b, _⟩ := hA.hc c (List.mem_of_getElem? h1)
 have := hA.hv
 exact vLook_b1_eq h0 h1 hA.hM hA.hM2 hA.hv (by omega) hA.hF a b hb
def keyed (e : TValueOpen) : Option Str → TValueOpen
 | none => e
 | some s => ⟨e.fPairs, e.fLeft, false, s, true⟩
def lastOk (e : TValueOpen) : Option Str → Prop
 | none => e.fStarted = false
 | some p => e.fStarted = true ∧ e.fLast = p
theorem keyRound (hA : LkA F M v) (h0 : 0 ≤ i) {k last : Option Str} (h : v.drop i.toNat = keyC k ++ r) (hS : (S.length : Int) + 1 ≤ i) (hb : lefts (e :: S)) (hk : keyOk e.fKey last k = true) (hl : lastOk e last) :
  Reach (lkB F v) ((e :: S).reverse, i, sh) ((keyed e k :: S).reverse, i + (keyC k).length, shK k sh) := by
 cases k with
 | none => simpa [keyed, keyC, shK] using Reach.refl _
 | some s =>
  simp only [keyOk, Bool.and_eq_true] at hk
  obtain ⟨⟨hm, hok⟩, hcmp⟩ := hk
  refine Reach.step ?_
  rw [round hA h0 (by simpa [keyC] using h) (by simpa using hS) hb]
  have hp : pl ⟨4, 0, s, 0⟩ = true := by simp [pl, hok]
  have ht : (e.fStarted && (sLess s e.fLast || decide (s = e.fLast))) = false := by
   cases last with
   | none => simp only [lastOk] at hl; rw [hl]; rfl
   | some p => obtain ⟨h1, h2⟩ := hl; rw [h1, h2]; simpa using hcmp
  simp only [lkc, hp, hm, ht, Bool.not_true, cond_false, cond_true, decide_true, Bool.or_false, Bool.or_self]
  rfl
theorem keyed_key {k last : Option Str} (hk : keyOk e.fKey last k = true) : (keyed e k).fKey = false := by
 cases k with
 | none => simpa [keyed, keyOk] using hk
 | some s => rfl
theorem keyed_left (k : Option Str) : (keyed e k).fLeft = e.fLeft ∧ (keyed e k).fPairs = e.fPairs := by cases k <;> exact ⟨rfl, rfl⟩
theorem leafRound (hA : LkA F M v) (h0 : 0 ≤ i) (h : v.drop i.toNat = c :: r) (hS : (S.length : Int) ≤ i) (hb : lefts S) (hk : keyTop S = false) (hp : pl c = true) (hn : decide (0 < c.fN) = false) :
  Done (lkB F v) (S.reverse, i, sh) S (i + 1) (shc S.length sh c) := by
 have hr := round (sh := sh) hA h0 h hS hb
 unfold Done
 cases S with
 | nil =>
  rw [if_pos (by simp [clr])]
  refine Fin.step ?_
  rw [hr]; simp [lkc, hp, hn]
 | cons e S =>
  simp only [keyTop] at hk
  split
  ·rename_i hc
   refine Fin.step ?_
   rw [hr]; simp [lkc, hp, hn, hk, hc]
  ·rename_i hc
   refine Reach.step ?_
   rw [hr]; simp [lkc, hp, hn, hk, hc]
theorem nodeRound (hA : LkA F M v) (h0 : 0 ≤ i) (h : v.drop i.toNat = c :: r) (hS : (S.length : Int) ≤ i) (hb : lefts S) (hk : keyTop S = false) (hp : pl c = true) (hn : decide (0 < c.fN) = true) (hv : c.fN ≤ v.length) :
  Reach (lkB F v) (S.reverse, i, sh) ((⟨decide (c.fKind = 6), c.fN, decide (c.fKind = 6), [], false⟩ :: S).reverse, i + 1, shc S.length sh c) := by
 have hr := round (sh := sh) hA h0 h hS hb
 have hv' : decide ((v.length : Int) < c.fN) = false := by simpa using hv
 refine Reach.step ?_
 rw [hr]
 cases S with
 | nil => simp only [lkc, hp, hn, hv', Bool.not_true, cond_false, cond_true]; rfl
 | cons e S =>
  simp only [keyTop] at hk
  simp only [lkc, hp, hn, hv', hk, Bool.not_true, cond_false, cond_true]
theorem cnt_le_flat : ∀ f : Fo, f.cnt ≤ f.flat.length
 | .nil => Nat.le_refl _
 | .cell k c r => by have := cnt_le_flat r; simp [Fo.cnt, Fo.flat]; omega
 | .node k c kids r => by have := cnt_le_flat r; simp [Fo.cnt, Fo.flat]; omega
theorem drop_app {α : Type} {v xs r : List α} {i : Int} (h0 : 0 ≤ i) (h : v.drop i.toNat = xs ++ r) : v.drop (i + xs.length).toNat = r := by
 rw [show (i + (xs.length : Int)).toNat = i.toNat + xs.length from by omega, ← List.drop_drop, h, List.drop_left]
theorem restLook (hA : LkA F M v) {e' : TValueOpen} {s : LkS} {k : Option Str} {r' : Fo}
  (ih : ∀ (e : TValueOpen) (S : List TValueOpen) (i : Int) (sh : TValueShape) (last : Option Str) (r : List TApiCell), 1 ≤ r'.cnt → r'.wf e.fPairs last = true → e.fKey = e.fPairs → e.fLeft = r'.cnt → lastOk e last → (e.fPairs = false → last = none) → v.drop i.toNat = r'.flat ++ r → 0 ≤ i → (S.length : Int) + 1 ≤ i → lefts S →
   Done (lkB F v) ((e :: S).reverse, i, sh) S (i + r'.flat.length) (r'.sh (S.length + 1) sh))
  (hd : Done (lkB F v) s (e' :: S) i sh) (hl : e'.fLeft = r'.cnt + 1) (hw : r'.wf e'.fPairs k = true) (hk : lastOk e' k) (hm : e'.fPairs = false → k = none) (hv : v.drop i.toNat = r'.flat ++ r) (h0 : 0 ≤ i) (hS : (S.length : Int) + 1 ≤ i) (hb : lefts S) :
  Done (lkB F v) s S (i + r'.flat.length) (r'.sh (S.length + 1) sh) := by
 by_cases h1 : r'.cnt = 0
 ·cases r' with
  | nil => simpa [Fo.flat, Fo.sh] using hd.pop (by rw [hl]; rfl)
  | cell _ _ _ => simp [Fo.cnt] at h1
  | node _ _ _ _ => simp [Fo.cnt] at h1
 ·have := hd.more (by omega)
  refine Done.of this (ih _ S i sh k r (by omega) hw rfl (by simp only; omega) ?_ hm hv h0 hS hb)
  cases k with
  | none => exact hk
  | some p => exact hk
theorem keyed_last {k last : Option Str} (hl : lastOk e last) (hm : e.fPairs = false → last = none) (hk : keyOk e.fPairs last k = true) : lastOk (keyed e k) k ∧ ((keyed e k).fPairs = false → k = none) := by
 cases k with
 | none =>
  have : e.fPairs = false := by simpa [keyOk] using hk
  rw [hm this] at hl
  exact ⟨hl, fun _ => rfl⟩
 | some s =>
  refine ⟨⟨rfl, rfl⟩, fun h => ?_⟩
  have h : e.fPairs = false := h
  simp [keyOk, h] at hk
theorem forest_look (hA : LkA F M v) : ∀ (f : Fo) (e : TValueOpen) (S : List TValueOpen) (i : Int) (sh : TValueShape) (last : Option Str) (r : List TApiCell), 1 ≤ f.cnt → f.wf e.fPairs last = true → e.fKey = e.fPairs → e.fLeft = f.cnt → lastOk e last → (e.fPairs = false → last = none) → v.drop i.toNat = f.flat ++ r → 0 ≤ i → (S.length : Int) + 1 ≤ i → lefts S →
   Done (lkB F v) ((e :: S).reverse, i, sh) S (i + f.flat.length) (f.sh (S.length + 1) sh) := by
 have hmax : ∀ (i : Int) (xs : List TApiCell), 0 ≤ i → v.drop i.toNat = xs → xs.length ≤ v.length := fun i xs _ h => by rw [← h, List.length_drop]; omega
 intro f
 induction f with
 | nil => intro e S i sh last r h1; simp [Fo.cnt] at h1
 | cell k c r' ih =>
  intro e S i sh last r h1 hw hk hl hlo hm hv h0 hS hb
  simp only [Fo.wf, Bool.and_eq_true, Bool.not_eq_true'] at hw
  obtain ⟨⟨⟨w1, w2⟩, w3⟩, w4⟩ := hw
  simp only [Fo.flat, List.append_assoc, List.cons_append] at hv
  have hcnt := hmax i _ h0 hv
  have hcf := cnt_le_flat r'
  simp only [List.length_append, List.length_cons] at hcnt
  have hvM := hA.hv; have hMM := hA.hM
  simp only [Fo.cnt] at hl
  have hb' : lefts (e :: S) := fun x hx => by
   rcases List.mem_cons.1 hx with rfl | hx
   ·constructor <;> omega
   ·exact hb x hx
  have hkr := keyRound (sh := sh) hA h0 hv hS hb' (by rw [hk]; exact w1) hlo
  have hv1 := drop_app h0 hv
  obtain ⟨kl, kp⟩ := keyed_left (e := e) k
  have hbk : lefts (keyed e k :: S) := fun x hx => by
   rcases List.mem_cons.1 hx with rfl | hx
   ·rw [kl]; exact hb' e (by simp)
   ·exact hb x hx
  have hd := leafRound (sh := shK k sh) hA (by omega) hv1 (by simp only [List.length_cons]; omega) hbk (keyed_key (by rw [hk]; exact w1)) w2 w3
  obtain ⟨q1, q2⟩ := keyed_last hlo hm w1
  have hv2 := (drop_get (by omega) hv1).2.1
  have := restLook hA ih (hd.of hkr) (by rw [kl, hl]; rfl) (by rw [kp]; exact w4) q1 q2 hv2 (by omega) (by omega) hb
  simp only [Fo.flat, Fo.sh, List.length_append, List.length_cons]
  rw [show i + ((((keyC k).length + (r'.flat.length + 1) : Nat)) : Int) = i + (keyC k).length + 1 + r'.flat.length from by omega]
  exact this
 | node k c kids r' ihk ih =>
  intro e S i sh last r h1 hw hk hl hlo hm hv h0 hS hb
  simp only [Fo.wf, Bool.and_eq_true, decide_eq_true_eq] at hw
  obtain ⟨⟨⟨⟨⟨w1, w2⟩, w3⟩, w5⟩, w6⟩, w4⟩ := hw
  simp only [Fo.flat, List.append_assoc, List.cons_append] at hv
  have hcnt := hmax i _ h0 hv
  have hcf := cnt_le_flat r'
  have hck := cnt_le_flat kids
  simp only [List.length_append, List.length_cons] at hcnt
  have hvM := hA.hv; have hMM := hA.hM
  simp only [Fo.cnt] at hl
  have hb' : lefts (e :: S) := fun x hx => by
   rcases List.mem_cons.1 hx with rfl | hx
   ·constructor <;> omega
   ·exact hb x hx
  have hkr := keyRound (sh := sh) hA h0 hv hS hb' (by rw [hk]; exact w1) hlo
  have hv1 := drop_app h0 hv
  obtain ⟨kl, kp⟩ := keyed_left (e := e) k
  have hbk : lefts (keyed e k :: S) := fun x hx => by
   rcases List.mem_cons.1 hx with rfl | hx
   ·rw [kl]; exact hb' e (by simp)
   ·exact hb x hx
  have hn := nodeRound (sh := shK k sh) hA (by omega) hv1 (by simp only [List.length_cons]; omega) hbk (keyed_key (by rw [hk]; exact w1)) w2 (by simpa using w3) (by omega)
  have hv2 := (drop_get (by omega) hv1).2.1
  have hd := ihk ⟨decide (c.fKind = 6), c.fN, decide (c.fKind = 6), [], false⟩ (keyed e k :: S) (i + (keyC k).length + 1) (shc (S.length + 1) (shK k sh) c) none _ (by omega) w6 rfl w5 rfl (fun _ => rfl) hv2 (by omega) (by simp only [List.length_cons]; omega) hbk
  obtain ⟨q1, q2⟩ := keyed_last hlo hm w1
  have hv3 := drop_app (by omega) hv2
  have := restLook hA ih ((hd.of hn).of hkr) (by rw [kl, hl]; rfl) (by rw [kp]; exact w4) q1 q2 hv3 (by omega) (by omega) hb
  simp only [Fo.flat, Fo.sh, List.length_append, List.length_cons]
  rw [show i + ((((keyC k).length + (kids.flat.length + r'.flat.length + 1) : Nat)) : Int) = i + (keyC k).length + 1 + kids.flat.length + r'.flat.length from by omega]
  exact this
end
end Go.Proofs.YtkalifgebccpcaaDoor

/-
 value.look always ends; what it says of a value. Plain laws.
-/
namespace Go.Proofs.YtkalifgebccpcaaDoor
open Go
set_option linter.unusedVariables false
set_option linter.unusedSimpArgs false
theorem lop_mono {S O : Type} {body : S → Option (Stp S O)} {o : O} : ∀ {n : Nat} {s : S} (k : Nat), lop body n s = some o → lop body (n + k) s = some o
 | 0, s, k, h => by cases h
 | n + 1, s, k, h => by
  rw [show n + 1 + k = n + k + 1 from by omega, lop]
  rw [lop] at h
  cases hb : body s with
  | none => rw [hb] at h; cases h
  | some t =>
   rw [hb] at h
   cases t with
   | next s' => exact lop_mono k h
   | out o' => exact h
theorem Fin.eq {S O : Type} {body : S → Option (Stp S O)} {s : S} {o o' : O} {n : Nat} (h : Fin body s o) (h' : lop body n s = some o') : o' = o := by
 obtain ⟨k, hk⟩ := h
 have := lop_mono k h'
 rw [hk n] at this
 exact (some_e this).symm
theorem clr_lefts : ∀ {S : List TValueOpen}, lefts S → lefts (clr S) ∧ (clr S).length ≤ S.length
 | [], h => ⟨h, Nat.le_refl _⟩
 | e :: S, h => by
  have hS : lefts S := fun x hx => h x (by simp [hx])
  have he := h e (by simp)
  unfold clr
  cases hd : decide (1 < e.fLeft) with
  | true =>
   simp only [decide_eq_true_eq] at hd
   refine ⟨fun x hx => ?_, by simp⟩
   rcases List.mem_cons.1 hx with rfl | hx
   ·simp only; omega
   ·exact hS x hx
  | false =>
   obtain ⟨h1, h2⟩ := clr_lefts hS
   exact ⟨h1, by simp only [cond_false, List.length_cons]; omega⟩
theorem lkc_next {n : Int} {S : List TValueOpen} {i : Int} {sh : TValueShape} {c : TApiCell} {σ : LkS} (hb : lefts S) (hS : (S.length : Int) ≤ i) (hN : c.fN ≤ 9223372036854775807) (h : lkc n S i sh c = .next σ) : ∃ S' sh', σ = (S'.reverse, i + 1, sh') ∧ lefts S' ∧ (S'.length : Int) ≤ i + 1 := by
 unfold lkc at h
 cases hp : pl c with
 | false => simp [hp] at h
 | true =>
  simp only [hp, Bool.not_true, cond_false] at h
  cases S with
  | nil =>
   simp only at h
   cases hn : decide (0 < c.fN) with
   | false => simp [hn] at h
   | true =>
    simp only [hn, cond_true] at h
    cases hm : decide (n < c.fN) with
    | true => simp [hm] at h
    | false =>
     simp only [hm, cond_false, Stp.next.injEq] at h
     refine ⟨[_], _, h.symm, fun x hx => ?_, by simp at hS ⊢; omega⟩
     simp only [List.mem_singleton] at hx; subst hx
     simp only [decide_eq_true_eq] at hn
     exact ⟨by simp only; omega, hN⟩
  | cons e S =>
   have he := hb e (by simp)
   have hbS : lefts S := fun x hx => hb x (by simp [hx])
   simp only [List.length_cons] at hS
   cases hk : e.fKey with
   | true =>
    simp only [hk, cond_true] at h
    cases hq : (!decide (c.fKind = 4) || (e.fStarted && (sLess c.fStr e.fLast || decide (c.fStr = e.fLast)))) with
    | true => rw [hq] at h; simp at h
    | false =>
     rw [hq] at h
     simp only [cond_false, Stp.next.injEq] at h
     refine ⟨_ :: S, _, h.symm, fun x hx => ?_, by simp only [List.length_cons]; omega⟩
     rcases List.mem_cons.1 hx with rfl | hx
     ·exact he
     ·exact hbS x hx
   | false =>
    simp only [hk, cond_false] at h
    cases hn : decide (0 < c.fN) with
    | true =>
     simp only [hn, cond_true] at h
     cases hm : decide (n < c.fN) with
     | true => simp [hm] at h
     | false =>
      simp only [hm, cond_false, Stp.next.injEq] at h
      refine ⟨_ :: e :: S, _, h.symm, fun x hx => ?_, by simp only [List.length_cons]; omega⟩
      rcases List.mem_cons.1 hx with rfl | hx
      ·simp only [decide_eq_true_eq] at hn
       exact ⟨by simp only; omega, hN⟩
      ·exact hb x hx
    | false =>
     simp only [hn, cond_false] at h
     cases hq : decide (clr (e :: S) = []) with
     | true => rw [hq] at h; simp at h
     | false =>
      rw [hq] at h
      simp only [cond_false, Stp.next.injEq] at h
      obtain ⟨h1, h2⟩ := clr_lefts hb
      simp only [List.length_cons] at h2
      exact ⟨_, _, h.symm, h1, by omega⟩
theorem look_total {F M : Nat} {v : List TApiCell} (hA : LkA F M v) : ∃ o, lop (lkB F v) F (([] : List TValueOpen), 0, (⟨0, 0, false, false⟩ : TValueShape)) = some o ∧ True := by
 refine lop_ind (fun σ => ∃ S i sh, σ = (S.reverse, i, sh) ∧ lefts S ∧ (S.length : Int) ≤ i ∧ 0 ≤ i ∧ i ≤ v.length) (fun σ => v.length - σ.2.1.toNat) (fun _ => True) (fun σ hI => ?_) F _ ⟨[], 0, _, rfl, (fun x hx => by cases hx), Int.le_refl _, Int.le_refl _, by omega⟩ (by have := hA.hv; have := hA.hF; simp; omega)
 obtain ⟨S, i, sh, rfl, hb, hS, h0, hi⟩ := hI
 by_cases hx : i < v.length
 ·obtain ⟨c, hc⟩ : ∃ c, v[i.toNat]? = some c := ⟨v[i.toNat]'(by omega), List.getElem?_eq_getElem (by omega)⟩
  have hdr : v.drop i.toNat = c :: v.drop (i.toNat + 1) := by rw [List.drop_eq_getElem_cons (by omega)]; congr 1; exact (List.getElem?_eq_some_iff.1 hc).2
  have hr := round (sh := sh) hA h0 hdr hS hb
  cases hl : lkc v.length S i sh c with
  | next τ =>
   obtain ⟨S', sh', rfl, h1, h2⟩ := lkc_next hb hS (hA.hc c (List.mem_of_getElem? hc)).2.2 hl
   exact .inl ⟨_, by rw [hr, hl], ⟨S', i + 1, sh', rfl, h1, h2, by omega, by omega⟩, by simp only; omega⟩
  | out o => exact .inr ⟨o, by rw [hr, hl], trivial⟩
 ·refine .inr ⟨.go sh, ?_, trivial⟩
  show vLook_b1 F v S.reverse i sh = _
  unfold vLook_b1
  rw [cnd_ff (by simpa using hx)]
def Fo.one : Fo → Bool
 | .cell none _ .nil => true
 | .node none _ _ .nil => true
 | _ => false
def sh0 : TValueShape := ⟨0, 0, false, false⟩
theorem look_fin {F M : Nat} {v : List TApiCell} (hA : LkA F M v) {f : Fo} (h1 : f.one = true) (hw : f.wf false none = true) {r : List TApiCell} (hv : v = f.flat ++ r) : Fin (lkB F v) ([], 0, sh0) (.ret (f.flat.length, f.sh 0 sh0, true)) := by
 have h0 : v.drop (0 : Int).toNat = f.flat ++ r := by rw [hv]; rfl
 have hlen : f.flat.length ≤ v.length := by rw [hv]; simp
 cases f with
 | nil => cases h1
 | cell k c r' =>
  cases k with
  | some s => cases h1
  | none =>
   cases r' with
   | nil =>
    simp only [Fo.wf, Bool.and_eq_true, Bool.not_eq_true'] at hw
    have := leafRound (S := []) (sh := sh0) hA (Int.le_refl 0) h0 (by simp) (fun x hx => by cases hx) rfl hw.1.1.2 hw.1.2
    unfold Done at this
    rw [if_pos (show clr [] = [] from rfl)] at this
    simpa [Fo.flat, Fo.sh, keyC, shK] using this
   | cell _ _ _ => cases h1
   | node _ _ _ _ => cases h1
 | node k c kids r' =>
  cases k with
  | some s => cases h1
  | none =>
   cases r' with
   | nil =>
    simp only [Fo.wf, Bool.and_eq_true, decide_eq_true_eq] at hw
    obtain ⟨⟨⟨⟨⟨w1, w2⟩, w3⟩, w5⟩, w6⟩, w4⟩ := hw
    have hck := cnt_le_flat kids
    simp only [Fo.flat, keyC, List.nil_append, List.append_nil, List.length_cons] at hlen
    have hvM := hA.hv; have hMM := hA.hM
    have hn := nodeRound (S := []) (sh := sh0) hA (Int.le_refl 0) h0 (by simp) (fun x hx => by cases hx) rfl w2 (by simpa using w3) (by omega)
    have hv2 := (drop_get (Int.le_refl 0) h0).2.1
    have hd := forest_look hA kids ⟨decide (c.fKind = 6), c.fN, decide (c.fKind = 6), [], false⟩ [] (0 + 1) (shc 0 sh0 c) none r (by omega) w6 rfl w5 rfl (fun _ => rfl) (by rw [hv2]; simp [Fo.flat]) (by omega) (by simp) (fun x hx => by cases hx)
    unfold Done at hd
    rw [if_pos (show clr [] = [] from rfl)] at hd
    have := hn.fin hd
    have e : ((0 : Int) + 1 + kids.flat.length) = ((Fo.node none c kids .nil).flat.length : Int) := by simp [Fo.flat, keyC]; omega
    rw [e] at this
    exact this
   | cell _ _ _ => cases h1
   | node _ _ _ _ => cases h1
theorem look_val {F M : Nat} {v : List TApiCell} (hA : LkA F M v) {f : Fo} (h1 : f.one = true) (hw : f.wf false none = true) {r : List TApiCell} (hv : v = f.flat ++ r) : vLook F v = some ((f.flat.length : Int), f.sh 0 sh0, true) := by
 obtain ⟨o, ho, _⟩ := look_total hA
 have e := (look_fin hA h1 hw hv).eq ho
 subst e
 unfold vLook
 rw [obn_s ho]; rfl
end Go.Proofs.YtkalifgebccpcaaDoor

/-
 Reading values of cells: a plain reader; value.look says what it says. Plain laws.
-/
namespace Go.Proofs.YtkalifgebccpcaaDoor
open Go
set_option linter.unusedVariables false
set_option linter.unusedSimpArgs false
def prsK (m : Bool) (last : Option Str) (xs : List TApiCell) : Option (Option Str × List TApiCell) :=
 bif m then match xs with
  | [] => none
  | c :: r => bif pl c && decide (c.fKind = 4) && keyOk true last (some c.fStr) then some (some c.fStr, r) else none
 else some (none, xs)
def prs : Nat → Bool → Option Str → Nat → List TApiCell → Option (Fo × List TApiCell)
 | 0, _, _, _, _ => none
 | _ + 1, _, _, 0, xs => some (.nil, xs)
 | F + 1, m, last, k + 1, xs =>
  match prsK m last xs with
  | none => none
  | some (_, []) => none
  | some (key, c :: xs') =>
   bif !pl c then none else
   bif decide (0 < c.fN) then
    match prs F (decide (c.fKind = 6)) none c.fN.toNat xs' with
    | none => none
    | some (kids, ys) => match prs F m key k ys with
     | none => none
     | some (r, zs) => some (.node key c kids r, zs)
   else match prs F m key k xs' with
    | none => none
    | some (r, zs) => some (.cell key c r, zs)
theorem pl_key {c : TApiCell} (hp : pl c = true) (hk : c.fKind = 4) : c = ⟨4, 0, c.fStr, 0⟩ ∧ c.fStr.all okc = true := by
 cases c
 simp only at hk; subst hk
 simp [pl] at hp
 obtain ⟨h1, h2, h3⟩ := hp
 subst h1; subst h2
 exact ⟨rfl, by simpa using h3⟩
theorem prsK_ok {m : Bool} {last key : Option Str} {xs r : List TApiCell} (h : prsK m last xs = some (key, r)) : xs = keyC key ++ r ∧ keyOk m last key = true := by
 unfold prsK at h
 cases m with
 | false => cases h; exact ⟨rfl, rfl⟩
 | true =>
  simp only [cond_true] at h
  cases xs with
  | nil => cases h
  | cons c r' =>
   simp only at h
   cases hb : (pl c && decide (c.fKind = 4) && keyOk true last (some c.fStr)) with
   | false => rw [hb] at h; cases h
   | true =>
    rw [hb] at h
    simp only [Bool.and_eq_true, decide_eq_true_eq] at hb
    cases h
    exact ⟨by rw [(pl_key hb.1.1 hb.1.2).1]; rfl, hb.2⟩
theorem prs_ok : ∀ (F : Nat) (m : Bool) (last : Option Str) (k : Nat) (xs : List TApiCell) (f : Fo) (ys : List TApiCell), prs F m last k xs = some (f, ys) → xs = f.flat ++ ys ∧ f.wf m last = true ∧ f.cnt = k
 | 0, _, _, _, _, _, _, h => by cases h
 | F + 1, m, last, 0, xs, f, ys, h => by cases h; exact ⟨rfl, rfl, rfl⟩
 | F + 1, m, last, k + 1, xs, f, ys, h => by
  rw [prs] at h
  cases hk : prsK m last xs with
  | none => rw [hk] at h; cases h
  | some p =>
   obtain ⟨key, r⟩ := p
   obtain ⟨h1, h2⟩ := prsK_ok hk
   rw [hk] at h
   cases r with
   | nil => cases h
   | cons c xs' =>
    simp only at h
    cases hp : pl c with
    | false => rw [hp] at h; cases h
    | true =>
     rw [hp] at h
     simp only [Bool.not_true, cond_false] at h
     cases hn : decide (0 < c.fN) with
     | true =>
      rw [hn] at h
      simp only [cond_true] at h
      cases hq : prs F (decide (c.fKind = 6)) none c.fN.toNat xs' with
      | none => rw [hq] at h; cases h
      | some q =>
       obtain ⟨kids, zs⟩ := q
       rw [hq] at h
       simp only at h
       cases hr : prs F m key k zs with
       | none => rw [hr] at h; cases h
       | some q2 =>
        obtain ⟨r2, us⟩ := q2
        rw [hr] at h; cases h
        obtain ⟨a1, a2, a3⟩ := prs_ok F _ _ _ _ _ _ hq
        obtain ⟨b1, b2, b3⟩ := prs_ok F _ _ _ _ _ _ hr
        refine ⟨by rw [h1, a1, b1]; simp [Fo.flat], ?_, by simp [Fo.cnt, b3]⟩
        simp only [decide_eq_true_eq] at hn
        simp only [Fo.wf, h2, hp, a2, b2, Bool.and_true, Bool.true_and, Bool.and_eq_true, decide_eq_true_eq]
        omega
     | false =>
      rw [hn] at h
      simp only [cond_false] at h
      cases hr : prs F m key k xs' with
      | none => rw [hr] at h; cases h
      | some q2 =>
       obtain ⟨r2, us⟩ := q2
       rw [hr] at h; cases h
       obtain ⟨b1, b2, b3⟩ := prs_ok F _ _ _ _ _ _ hr
       exact ⟨by rw [h1, b1]; simp [Fo.flat], by simp [Fo.wf, h2, hp, b2, hn], by simp [Fo.cnt, b3]⟩
theorem prs_fuel : ∀ (F F' : Nat) (m : Bool) (last : Option Str) (k : Nat) (xs : List TApiCell), xs.length < F → xs.length < F' → prs F m last k xs = prs F' m last k xs
 | 0, _, _, _, _, _, h, _ => by omega
 | _ + 1, 0, _, _, _, _, _, h => by omega
 | F + 1, F' + 1, m, last, 0, xs, _, _ => rfl
 | F + 1, F' + 1, m, last, k + 1, xs, h, h' => by
  rw [prs, prs]
  cases hk : prsK m last xs with
  | none => rfl
  | some p =>
   obtain ⟨key, r⟩ := p
   obtain ⟨h1, h2⟩ := prsK_ok hk
   cases r with
   | nil => rfl
   | cons c xs' =>
    have hl : xs'.length < xs.length := by rw [h1]; simp; omega
    simp only
    cases hp : pl c with
    | false => rfl
    | true =>
     simp only [Bool.not_true, cond_false]
     cases hn : decide (0 < c.fN) with
     | true =>
      simp only [cond_true]
      rw [prs_fuel F F' _ _ _ xs' (by omega) (by omega)]
      cases hq : prs F' (decide (c.fKind = 6)) none c.fN.toNat xs' with
      | none => rfl
      | some q =>
       obtain ⟨kids, zs⟩ := q
       have := (prs_ok _ _ _ _ _ _ _ hq).1
       have hz : zs.length ≤ xs'.length := by rw [this]; simp
       simp only
       rw [prs_fuel F F' m key k zs (by omega) (by omega)]
     | false =>
      simp only [cond_false]
      rw [prs_fuel F F' m key k xs' (by omega) (by omega)]
def Bad {S : Type} (body : S → Option (Stp S LkO)) (s : S) : Prop := ∃ sh', Fin body s (.ret (0, sh', false)) ∨ Fin body s (.go sh')
theorem Reach.bad {S : Type} {body : S → Option (Stp S LkO)} {s t : S} (h : Reach body s t) (h' : Bad body t) : Bad body s := by
 obtain ⟨sh', h' | h'⟩ := h'
 ·exact ⟨sh', .inl (h.fin h')⟩
 ·exact ⟨sh', .inr (h.fin h')⟩
section
variable {F M : Nat} {v : List TApiCell}
theorem Bad.end_ {S : List TValueOpen} {i : Int} {sh : TValueShape} (h0 : 0 ≤ i) (h : v.drop i.toNat = []) : Bad (lkB F v) (S.reverse, i, sh) := by
 refine ⟨sh, .inr (Fin.step ?_)⟩
 show vLook_b1 F v S.reverse i sh = _
 unfold vLook_b1
 rw [cnd_ff]
 have : v.length ≤ i.toNat := by simpa using h
 simp; omega
theorem Bad.pl_ (hA : LkA F M v) {S : List TValueOpen} {i : Int} {sh : TValueShape} {c : TApiCell} {r : List TApiCell} (h0 : 0 ≤ i) (h : v.drop i.toNat = c :: r) (hS : (S.length : Int) ≤ i) (hb : lefts S) (hp : pl c = false) : Bad (lkB F v) (S.reverse, i, sh) := by
 refine ⟨sh, .inl (Fin.step ?_)⟩
 rw [round hA h0 h hS hb]
 simp [lkc, hp]
theorem forest_bad (hA : LkA F M v) : ∀ (P : Nat) (k : Nat) (e : TValueOpen) (S : List TValueOpen) (i : Int) (sh : TValueShape) (last : Option Str) (xs : List TApiCell), xs.length < P → prs P e.fPairs last (k + 1) xs = none → e.fKey = e.fPairs → e.fLeft = (k : Int) + 1 → (k : Int) + 1 ≤ 9223372036854775807 → lastOk e last → (e.fPairs = false → last = none) → v.drop i.toNat = xs → 0 ≤ i → (S.length : Int) + 1 ≤ i → lefts S →
  Bad (lkB F v) ((e :: S).reverse, i, sh) := by
 intro P
 induction P with
 | zero => intro k e S i sh last xs h; omega
 | succ P ih =>
  intro k e S i sh last xs hP hn hk hl hkm hlo hm hv h0 hS hb
  have hb' : lefts (e :: S) := fun x hx => by
   rcases List.mem_cons.1 hx with rfl | hx
   ·constructor <;> omega
   ·exact hb x hx
  rw [prs] at hn
  cases hq : prsK e.fPairs last xs with
  | none =>
   unfold prsK at hq
   cases hpr : e.fPairs with
   | false => rw [hpr] at hq; cases hq
   | true =>
    rw [hpr] at hq hk
    simp only [cond_true] at hq
    cases xs with
    | nil => exact Bad.end_ h0 hv
    | cons c r =>
     simp only at hq
     cases hp : pl c with
     | false => exact Bad.pl_ hA h0 hv (by simpa using hS) hb' hp
     | true =>
      refine ⟨sh, .inl (Fin.step ?_)⟩
      rw [round hA h0 hv (by simpa using hS) hb']
      have ht : (!decide (c.fKind = 4) || (e.fStarted && (sLess c.fStr e.fLast || decide (c.fStr = e.fLast)))) = true := by
       rw [hp] at hq
       cases h4 : decide (c.fKind = 4) with
       | false => rfl
       | true =>
        rw [h4] at hq
        simp only [Bool.and_self, Bool.true_and] at hq
        have hok := (pl_key hp (by simpa using h4)).2
        cases last with
        | none => simp [keyOk, hok] at hq
        | some p =>
         obtain ⟨q1, q2⟩ := hlo
         rw [q1, q2]
         cases hc : (sLess c.fStr p || decide (c.fStr = p)) with
         | true => rfl
         | false => simp [keyOk, hok, hc] at hq
      simp only [lkc, hp, hk, ht, Bool.not_true, cond_false, cond_true]
  | some q =>
   obtain ⟨key, r⟩ := q
   obtain ⟨h1, h2⟩ := prsK_ok hq
   rw [hq] at hn
   have hkr := keyRound (sh := sh) hA h0 (by rw [hv]; exact h1) hS hb' (by rw [hk]; exact h2) hlo
   have hv1 := drop_app h0 (hv.trans h1)
   obtain ⟨kl, kp⟩ := keyed_left (e := e) key
   obtain ⟨q1, q2⟩ := keyed_last hlo hm h2
   have hbk : lefts (keyed e key :: S) := fun x hx => by
    rcases List.mem_cons.1 hx with rfl | hx
    ·rw [kl]; exact hb' e (by simp)
    ·exact hb x hx
   refine hkr.bad ?_
   cases r with
   | nil => exact Bad.end_ (by omega) hv1
   | cons c xs' =>
    have hlen : xs'.length + 1 ≤ xs.length := by rw [h1]; simp
    have hvl : xs.length ≤ v.length := by rw [← hv, List.length_drop]; omega
    have hvM := hA.hv; have hMM := hA.hM
    have hkk := keyed_key (e := e) (last := last) (k := key) (by rw [hk]; exact h2)
    simp only at hn
    have hSk : (((keyed e key :: S).length : Nat) : Int) ≤ i + (keyC key).length := by simp only [List.length_cons]; omega
    cases hp : pl c with
    | false => exact Bad.pl_ hA (by omega) hv1 hSk hbk hp
    | true =>
     rw [hp] at hn
     simp only [Bool.not_true, cond_false] at hn
     obtain ⟨g1, g2, g3⟩ := drop_get (by omega) hv1
     have hcN := (hA.hc c (List.mem_of_getElem? g1)).2.2
     -- what follows a whole value
     have more : ∀ (s : LkS) (j : Int) (sh' : TValueShape) (zs : List TApiCell), Done (lkB F v) s (keyed e key :: S) j sh' → v.drop j.toNat = zs → zs.length < P → 0 ≤ j → (S.length : Int) + 1 ≤ j → prs P e.fPairs key k zs = none → Bad (lkB F v) s := fun s j sh' zs hd hz hzl hj hSj hnone => by
      cases k with
      | zero =>
       cases P with
       | zero => omega
       | succ P => cases hnone
      | succ k =>
       have := hd.more (by rw [kl]; omega)
       refine this.bad (ih k _ S j sh' key zs hzl (by rw [kp]; exact hnone) rfl (by simp only [kl]; omega) (by omega) ?_ (by simpa using q2) hz hj hSj hb)
       cases key with
       | none => exact q1
       | some p => exact q1
     cases hN : decide (0 < c.fN) with
     | true =>
      rw [hN] at hn
      simp only [cond_true] at hn
      simp only [decide_eq_true_eq] at hN
      by_cases hbig : c.fN ≤ v.length
      ·have hnd := nodeRound (sh := shK key sh) hA (by omega) hv1 hSk hbk (by simpa [keyTop] using hkk) hp (by simpa using hN) hbig
       refine hnd.bad ?_
       cases hks : prs P (decide (c.fKind = 6)) none c.fN.toNat xs' with
       | none =>
        obtain ⟨n', hn'⟩ : ∃ n', c.fN.toNat = n' + 1 := ⟨c.fN.toNat - 1, by omega⟩
        rw [hn'] at hks
        exact ih n' _ _ _ _ none xs' (by omega) hks rfl (by simp only; omega) (by omega) rfl (fun _ => rfl) g2 (by omega) (by simp only [List.length_cons]; omega) hbk
       | some q =>
        obtain ⟨kids, zs⟩ := q
        rw [hks] at hn
        simp only at hn
        have hn2 : prs P e.fPairs key k zs = none := by
         cases hz : prs P e.fPairs key k zs with
         | none => rfl
         | some q => rw [hz] at hn; cases hn
        obtain ⟨a1, a2, a3⟩ := prs_ok _ _ _ _ _ _ _ hks
        have hd := forest_look hA kids ⟨decide (c.fKind = 6), c.fN, decide (c.fKind = 6), [], false⟩ (keyed e key :: S) (i + (keyC key).length + 1) (shc (S.length + 1) (shK key sh) c) none zs (by omega) a2 rfl (by simp only; omega) rfl (fun _ => rfl) (by rw [g2]; exact a1) (by omega) (by simp only [List.length_cons]; omega) hbk
        have hz : v.drop (i + (keyC key).length + 1 + kids.flat.length).toNat = zs := drop_app (by omega) (g2.trans a1)
        have hzl : zs.length ≤ xs'.length := by rw [a1]; simp
        exact more _ _ _ zs hd hz (by omega) (by omega) (by omega) hn2
      ·refine ⟨shc (keyed e key :: S).length (shK key sh) c, .inl (Fin.step ?_)⟩
       rw [round hA (by omega) hv1 hSk hbk]
       have hbig' : decide ((v.length : Int) < c.fN) = true := by simpa using hbig
       simp only [lkc, hp, hkk, hbig', hN, Bool.not_true, cond_false, cond_true, decide_true]
     | false =>
      rw [hN] at hn
      simp only [cond_false] at hn
      have hn2 : prs P e.fPairs key k xs' = none := by
       cases hz : prs P e.fPairs key k xs' with
       | none => rfl
       | some q => rw [hz] at hn; cases hn
      have hd := leafRound (sh := shK key sh) hA (by omega) hv1 hSk hbk (by simpa [keyTop] using hkk) hp hN
      exact more _ _ _ xs' hd g2 (by omega) (by omega) (by omega) hn2
def prs1 (xs : List TApiCell) : Option (Fo × List TApiCell) := prs (xs.length + 1) false none 1 xs
theorem prs_one {P : Nat} {xs ys : List TApiCell} {f : Fo} (h : prs P false none 1 xs = some (f, ys)) : f.one = true := by
 obtain ⟨h1, h2, h3⟩ := prs_ok _ _ _ _ _ _ _ h
 cases f with
 | nil => cases h3
 | cell k c r =>
  cases r with
  | nil =>
   cases k with
   | none => rfl
   | some s => simp [Fo.wf, keyOk] at h2
  | cell _ _ _ => simp [Fo.cnt] at h3
  | node _ _ _ _ => simp [Fo.cnt] at h3
 | node k c kids r =>
  cases r with
  | nil =>
   cases k with
   | none => rfl
   | some s => simp [Fo.wf, keyOk] at h2
  | cell _ _ _ => simp [Fo.cnt] at h3
  | node _ _ _ _ => simp [Fo.cnt] at h3
theorem look_bad0 (hA : LkA F M v) (h : prs1 v = none) : Bad (lkB F v) ([], 0, sh0) := by
 have hlf : lefts [] := fun x hx => by cases hx
 unfold prs1 at h
 rw [prs] at h
 simp only [prsK, cond_false] at h
 cases v with
 | nil => exact Bad.end_ (S := []) (Int.le_refl 0) rfl
 | cons c xs' =>
  have hv1 : (c :: xs').drop (0 : Int).toNat = c :: xs' := rfl
  have hvM := hA.hv; have hMM := hA.hM
  simp only at h
  cases hp : pl c with
  | false => exact Bad.pl_ (S := []) hA (Int.le_refl 0) hv1 (by simp) hlf hp
  | true =>
   rw [hp] at h
   simp only [Bool.not_true, cond_false] at h
   have hcN := (hA.hc c (by simp)).2.2
   cases hN : decide (0 < c.fN) with
   | true =>
    rw [hN] at h
    simp only [cond_true] at h
    simp only [decide_eq_true_eq] at hN
    by_cases hbig : c.fN ≤ (c :: xs').length
    ·have hnd := nodeRound (S := []) (sh := sh0) hA (Int.le_refl 0) hv1 (by simp) hlf rfl hp (by simpa using hN) hbig
     refine hnd.bad ?_
     cases hks : prs (c :: xs').length (decide (c.fKind = 6)) none c.fN.toNat xs' with
     | none =>
      obtain ⟨n', hn'⟩ : ∃ n', c.fN.toNat = n' + 1 := ⟨c.fN.toNat - 1, by omega⟩
      rw [hn'] at hks
      exact forest_bad hA (c :: xs').length n' ⟨decide (c.fKind = 6), c.fN, decide (c.fKind = 6), [], false⟩ [] (0 + 1) _ none xs' (by simp) hks rfl (by simp only; omega) (by omega) rfl (fun _ => rfl) rfl (by omega) (by simp) hlf
     | some q => rw [hks] at h; cases h
    ·refine ⟨shc 0 sh0 c, .inl (Fin.step ?_)⟩
     rw [show lkB F (c :: xs') (([] : List TValueOpen), 0, sh0) = _ from round (S := []) hA (Int.le_refl 0) hv1 (by simp) hlf]
     have hbig' : decide (((c :: xs').length : Int) < c.fN) = true := by simpa using hbig
     simp only [lkc, hp, hbig', hN, Bool.not_true, cond_false, cond_true, decide_true]
   | false => rw [hN] at h; cases h
theorem look_eq (hA : LkA F M v) : (∃ f ys, prs1 v = some (f, ys) ∧ vLook F v = some ((f.flat.length : Int), f.sh 0 sh0, true)) ∨ (prs1 v = none ∧ ∃ sh', vLook F v = some (0, sh', false)) := by
 cases h : prs1 v with
 | some q =>
  obtain ⟨f, ys⟩ := q
  obtain ⟨h1, h2, h3⟩ := prs_ok _ _ _ _ _ _ _ h
  exact .inl ⟨f, ys, rfl, look_val hA (prs_one h) h2 h1⟩
 | none =>
  refine .inr ⟨rfl, ?_⟩
  obtain ⟨o, ho, _⟩ := look_total hA
  obtain ⟨sh', hb | hb⟩ := look_bad0 hA h
  ·have e := hb.eq ho
   subst e
   exact ⟨sh', by unfold vLook; rw [obn_s ho]; rfl⟩
  ·have e := hb.eq ho
   subst e
   exact ⟨sh', by unfold vLook; rw [obn_s ho]; rfl⟩
end
end Go.Proofs.YtkalifgebccpcaaDoor

/-
 Forests: depth, bytes, text; what value.look tells of them. Plain laws.
-/
namespace Go.Proofs.YtkalifgebccpcaaDoor
open Go
set_option linter.unusedVariables false
set_option linter.unusedSimpArgs false
theorem wrap_id {x : Int} (h : -9223372036854775808 ≤ x) (h' : x ≤ 9223372036854775807) : IntKind.wrap .i64 x = x := by
 simp only [IntKind.wrap, IntKind.bits, IntKind.signed]
 simp
 omega
def Fo.dep : Fo → Nat
 | .nil => 0
 | .cell _ _ r => max 1 r.dep
 | .node _ _ kids r => max (kids.dep + 1) r.dep
theorem shK_depth (k : Option Str) (s : TValueShape) : (shK k s).fDepth = s.fDepth ∧ (shK k s).fOutside = s.fOutside ∧ (shK k s).fLong = (s.fLong || (keyC k).any fun c => decide (200 < (c.fStr.length : Int))) := by
 cases k with
 | none => simp [shK, keyC]
 | some x => simp [shK, shk, keyC]
theorem sh_depth : ∀ (f : Fo) (d : Nat) (s : TValueShape), (d : Int) ≤ s.fDepth → (f.sh d s).fDepth = max s.fDepth ((d : Int) + f.dep)
 | .nil, d, s, h => by simp only [Fo.sh, Fo.dep]; omega
 | .cell k c r, d, s, h => by
  have hk := (shK_depth k s).1
  have e : (shc d (shK k s) c).fDepth = max s.fDepth ((d : Int) + 1) := by rw [shc, hk]
  rw [Fo.sh, sh_depth r d _ (by rw [e]; omega), e, Fo.dep]; omega
 | .node k c kids r, d, s, h => by
  have hk := (shK_depth k s).1
  have e : (shc d (shK k s) c).fDepth = max s.fDepth ((d : Int) + 1) := by rw [shc, hk]
  have e2 := sh_depth kids (d + 1) (shc d (shK k s) c) (by rw [e]; omega)
  rw [e] at e2
  rw [Fo.sh, sh_depth r d _ (by rw [e2]; omega), e2, Fo.dep]; omega
def outC (c : TApiCell) : Bool := decide (c.fKind = 3) && !(decide ((-1000000000000) ≤ c.fInt) && decide (c.fInt ≤ 1000000000000))
def longC (c : TApiCell) : Bool := decide (200 < (c.fStr.length : Int))
theorem keyC_out (k : Option Str) : (keyC k).any outC = false := by cases k <;> simp [keyC, outC]
theorem sh_out : ∀ (f : Fo) (d : Nat) (s : TValueShape), (f.sh d s).fOutside = (s.fOutside || f.flat.any outC)
 | .nil, d, s => by simp [Fo.sh, Fo.flat]
 | .cell k c r, d, s => by
  rw [Fo.sh, sh_out r, shc, (shK_depth k s).2.1]
  simp only [Fo.flat, List.any_append, List.any_cons, keyC_out, Bool.false_or, Bool.or_assoc]
  rfl
 | .node k c kids r, d, s => by
  rw [Fo.sh, sh_out r, sh_out kids, shc, (shK_depth k s).2.1]
  simp only [Fo.flat, List.any_append, List.any_cons, keyC_out, Bool.false_or, Bool.or_assoc]
  rfl
theorem sh_long : ∀ (f : Fo) (d : Nat) (s : TValueShape), (f.sh d s).fLong = (s.fLong || f.flat.any longC)
 | .nil, d, s => by simp [Fo.sh, Fo.flat]
 | .cell k c r, d, s => by
  rw [Fo.sh, sh_long r, shc, (shK_depth k s).2.2]
  simp only [Fo.flat, List.any_append, List.any_cons, Bool.or_assoc]
  rfl
 | .node k c kids r, d, s => by
  rw [Fo.sh, sh_long r, sh_long kids, shc, (shK_depth k s).2.2]
  simp only [Fo.flat, List.any_append, List.any_cons, Bool.or_assoc]
  rfl
def lsz (c : TApiCell) : Int :=
 bif decide (c.fKind = 1) then 4 else bif decide (c.fKind = 2) then 5 - c.fInt else bif decide (c.fKind = 3) then ((Lib.itoa c.fInt).length : Int) else
 bif decide (c.fKind = 4) then qlen c.fStr else 2
def kbn : Option Str → Int
 | none => 0
 | some s => qlen s + 1
def Fo.byt : Fo → Int
 | .nil => 0
 | .cell k c r => kbn k + lsz c + r.byt
 | .node k c kids r => kbn k + (c.fN + 1) + kids.byt + r.byt
theorem qlen_pos (s : Str) : 2 ≤ qlen s := by unfold qlen; omega
theorem kbn_pos (k : Option Str) : 0 ≤ kbn k := by
 cases k with
 | none => exact Int.le_refl 0
 | some s => have := qlen_pos s; simp only [kbn]; omega
theorem lsz_pos {c : TApiCell} (hp : pl c = true) : 0 ≤ lsz c := by
 unfold lsz
 cases h1 : decide (c.fKind = 1) with
 | true => simp
 | false =>
  cases h2 : decide (c.fKind = 2) with
  | true =>
   simp [pl, h1, h2] at hp
   simp only [cond_false, cond_true]; omega
  | false =>
   cases h3 : decide (c.fKind = 3) with
   | true => simp
   | false =>
    cases h4 : decide (c.fKind = 4) with
    | true => have := qlen_pos c.fStr; simp only [cond_false, cond_true]; omega
    | false => simp
theorem pl_N {c : TApiCell} (hp : pl c = true) : 0 ≤ c.fN := by
 simp only [pl, ← Bool.decide_or] at hp
 cases h1 : decide (c.fKind = 1) <;> cases h2 : decide (c.fKind = 2) <;> cases h3 : decide (c.fKind = 3) <;> cases h4 : decide (c.fKind = 4) <;> cases h5 : decide (c.fKind = 5) <;> cases h6 : decide (c.fKind = 6) <;> simp [h1, h2, h3, h4, h5, h6] at hp <;> omega
theorem pl_node {c : TApiCell} (hp : pl c = true) (hn : 0 < c.fN) : (c.fKind = 5 ∨ c.fKind = 6) ∧ c.fInt = 0 ∧ c.fStr = [] := by
 cases h1 : decide (c.fKind = 1) <;> cases h2 : decide (c.fKind = 2) <;> cases h3 : decide (c.fKind = 3) <;> cases h4 : decide (c.fKind = 4) <;> cases h5 : decide (c.fKind = 5) <;> cases h6 : decide (c.fKind = 6) <;> simp [pl, h1, h2, h3, h4, h5, h6] at hp <;> (simp only [decide_eq_true_eq, decide_eq_false_iff_not] at *; first | omega | exact ⟨by omega, hp.1, hp.2.1⟩)
theorem szc_leaf {c : TApiCell} (hp : pl c = true) (hn : decide (0 < c.fN) = false) : szc c = lsz c := by
 have hN := pl_N hp
 have h0 : c.fN = 0 := by simp only [decide_eq_false_iff_not] at hn; omega
 unfold szc lsz
 rw [h0]
 cases h1 : decide (c.fKind = 1) with
 | true => rfl
 | false =>
  cases h2 : decide (c.fKind = 2) with
  | true =>
   simp [pl, h1, h2] at hp
   simp only [cond_false, cond_true]
   exact wrap_id (by omega) (by omega)
  | false => rfl
theorem szc_node {c : TApiCell} (hp : pl c = true) (hn : 0 < c.fN) (hm : c.fN ≤ 9223372036854775000) : szc c = c.fN + 1 := by
 obtain ⟨hk, _, _⟩ := pl_node hp hn
 unfold szc
 rw [decide_eq_false (by omega), decide_eq_false (by omega), decide_eq_false (by omega), decide_eq_false (by omega)]
 simp only [cond_false]
 rw [wrap_id (x := c.fN - 1) (by omega) (by omega), wrap_id (by omega) (by omega)]; omega
theorem byt_pos : ∀ {f : Fo} {m : Bool} {l : Option Str}, f.wf m l = true → 0 ≤ f.byt
 | .nil, _, _, _ => Int.le_refl 0
 | .cell k c r, m, l, h => by
  simp only [Fo.wf, Bool.and_eq_true] at h
  have h1 := byt_pos h.2; have h2 := lsz_pos h.1.1.2; have h3 := kbn_pos k
  simp only [Fo.byt]; omega
 | .node k c kids r, m, l, h => by
  simp only [Fo.wf, Bool.and_eq_true, decide_eq_true_eq] at h
  have h1 := byt_pos h.2; have h2 := byt_pos h.1.2; have h3 := kbn_pos k
  simp only [Fo.byt]; omega
theorem shK_bytes (k : Option Str) (s : TValueShape) (h0 : 0 ≤ s.fBytes) (h : s.fBytes + kbn k ≤ 9223372036854775807) : (shK k s).fBytes = s.fBytes + kbn k := by
 cases k with
 | none => simp [shK, kbn]
 | some x =>
  have := qlen_pos x
  simp only [kbn] at h
  simp only [shK, shk, kbn]
  exact wrap_id (by omega) (by omega)
theorem sh_bytes : ∀ (f : Fo) (m : Bool) (l : Option Str) (d : Nat) (s : TValueShape), f.wf m l = true → 0 ≤ s.fBytes → s.fBytes + f.byt ≤ 9223372036854775000 → (f.sh d s).fBytes = s.fBytes + f.byt
 | .nil, _, _, d, s, _, _, _ => by simp [Fo.sh, Fo.byt]
 | .cell k c r, m, l, d, s, hw, h0, h => by
  simp only [Fo.wf, Bool.and_eq_true, Bool.not_eq_true'] at hw
  obtain ⟨⟨⟨w1, w2⟩, w3⟩, w4⟩ := hw
  have h1 := byt_pos w4; have h2 := lsz_pos w2; have h3 := kbn_pos k
  simp only [Fo.byt] at h
  have e1 := shK_bytes k s h0 (by omega)
  have e : (shc d (shK k s) c).fBytes = s.fBytes + kbn k + lsz c := by
   rw [shc, e1, szc_leaf w2 w3]; exact wrap_id (by omega) (by omega)
  rw [Fo.sh, sh_bytes r _ _ d _ w4 (by rw [e]; omega) (by rw [e]; omega), e, Fo.byt]; omega
 | .node k c kids r, m, l, d, s, hw, h0, h => by
  simp only [Fo.wf, Bool.and_eq_true, decide_eq_true_eq] at hw
  obtain ⟨⟨⟨⟨⟨w1, w2⟩, w3⟩, w5⟩, w6⟩, w4⟩ := hw
  have h1 := byt_pos w4; have h2 := byt_pos w6; have h3 := kbn_pos k
  simp only [Fo.byt] at h
  have e1 := shK_bytes k s h0 (by omega)
  have e : (shc d (shK k s) c).fBytes = s.fBytes + kbn k + (c.fN + 1) := by
   rw [shc, e1, szc_node w2 w3 (by omega)]; exact wrap_id (by omega) (by omega)
  have e2 := sh_bytes kids _ _ (d + 1) (shc d (shK k s) c) w6 (by rw [e]; omega) (by rw [e]; omega)
  rw [Fo.sh, sh_bytes r _ _ d _ w4 (by rw [e2, e]; omega) (by rw [e2, e]; omega), e2, e, Fo.byt]; omega
def escS (s : Str) : Str := s.flatMap fun c => bif (decide (c = 34) || decide (c = 92)) then [92, c] else [c]
def quoS (s : Str) : Str := 34 :: (escS s ++ [34])
theorem escS_len : ∀ s : Str, (escS s).length = s.length + s.count 34 + s.count 92
 | [] => rfl
 | c :: s => by
  have ih := escS_len s
  unfold escS at ih ⊢
  rw [List.flatMap_cons, List.length_append, ih]
  by_cases h1 : c = 34
  ·subst h1; simp; omega
  ·by_cases h2 : c = 92
   ·subst h2; simp; omega
   ·simp [h1, h2, List.count_cons]; omega
theorem quoS_len (s : Str) : ((quoS s).length : Int) = qlen s := by
 simp only [quoS, List.length_cons, List.length_append, escS_len, List.length_nil, qlen]; omega
def leafT (c : TApiCell) : Str :=
 bif decide (c.fKind = 1) then [110, 117, 108, 108] else
 bif decide (c.fKind = 2) then (bif decide (c.fInt = 1) then [116, 114, 117, 101] else [102, 97, 108, 115, 101]) else
 bif decide (c.fKind = 3) then Lib.itoa c.fInt else
 bif decide (c.fKind = 4) then quoS c.fStr else
 bif decide (c.fKind = 6) then [123, 125] else [91, 93]
def ktx : Option Str → Str
 | none => []
 | some s => quoS s ++ [58]
def brk (c : TApiCell) (s : Str) : Str := bif decide (c.fKind = 6) then 123 :: (s ++ [125]) else 91 :: (s ++ [93])
def sepT (first : Bool) : Str := bif first then [] else [44]
def Fo.txt : Bool → Fo → Str
 | _, .nil => []
 | b, .cell k c r => sepT b ++ ktx k ++ leafT c ++ r.txt false
 | b, .node k c kids r => sepT b ++ ktx k ++ brk c (kids.txt true) ++ r.txt false
theorem ktx_len (k : Option Str) : ((ktx k).length : Int) = kbn k := by
 cases k with
 | none => rfl
 | some s => simp only [ktx, List.length_append, kbn, List.length_singleton]; have := quoS_len s; omega
theorem leafT_len {c : TApiCell} (hp : pl c = true) : ((leafT c).length : Int) = lsz c := by
  unfold leafT lsz
  cases h1 : decide (c.fKind = 1) with
  | true => rfl
  | false =>
    cases h2 : decide (c.fKind = 2) with
    | true =>
      simp [pl, h1, h2] at hp
      simp only [cond_false, cond_true]
      cases h7 : decide (c.fInt = 1) with
      | true => simp only [decide_eq_true_eq] at h7; simp [h7]
      | false => simp only [decide_eq_false_iff_not] at h7; have : c.fInt = 0 := by omega
                 simp [this]
    | false =>
      cases h3 : decide (c.fKind = 3) with
      | true => rfl
      | false =>
        cases h4 : decide (c.fKind = 4) with
        | true => simpa using quoS_len c.fStr
        | false => cases h6 : decide (c.fKind = 6) <;> rfl
theorem brk_len (c : TApiCell) (s : Str) : (brk c s).length = s.length + 2 := by
 unfold brk
 cases decide (c.fKind = 6) <;> simp
theorem txt_len : ∀ (f : Fo) (m : Bool) (l : Option Str) (b : Bool), f.wf m l = true → ((f.txt b).length : Int) = f.byt + (bif b then ((f.cnt - 1 : Nat) : Int) else (f.cnt : Int))
 | .nil, m, l, b, _ => by cases b <;> rfl
 | .cell k c r, m, l, b, hw => by
  simp only [Fo.wf, Bool.and_eq_true, Bool.not_eq_true'] at hw
  obtain ⟨⟨⟨w1, w2⟩, w3⟩, w4⟩ := hw
  have ih := txt_len r _ _ false w4
  have a := ktx_len k; have d := leafT_len w2
  simp only [cond_false] at ih
  cases b <;> simp only [Fo.txt, Fo.byt, Fo.cnt, sepT, cond_true, cond_false, List.length_append, List.length_nil, List.length_singleton] <;> omega
 | .node k c kids r, m, l, b, hw => by
  simp only [Fo.wf, Bool.and_eq_true, decide_eq_true_eq] at hw
  obtain ⟨⟨⟨⟨⟨w1, w2⟩, w3⟩, w5⟩, w6⟩, w4⟩ := hw
  have ih := txt_len r _ _ false w4
  have ih2 := txt_len kids _ _ true w6
  have a := ktx_len k; have d := brk_len c (kids.txt true)
  simp only [cond_false, cond_true] at ih ih2
  cases b <;> simp only [Fo.txt, Fo.byt, Fo.cnt, sepT, cond_true, cond_false, List.length_append, List.length_nil, List.length_singleton] <;> omega
def Fo.put (k : Option Str) : Fo → Fo → Fo
 | .cell _ c _, r => .cell k c r
 | .node _ c kids _, r => .node k c kids r
 | .nil, _ => .nil
theorem prs_cons (P : Nat) (m : Bool) (last : Option Str) (k : Nat) (xs : List TApiCell) : prs (P + 2) m last (k + 1) xs =
  match prsK m last xs with
  | none => none
  | some (key, ys) => match prs (P + 2) false none 1 ys with
   | none => none
   | some (f, zs) => match prs (P + 1) m key k zs with
    | none => none
    | some (r, us) => some (f.put key r, us) := by
 rw [prs]
 cases hk : prsK m last xs with
 | none => rfl
 | some p =>
  obtain ⟨key, ys⟩ := p
  simp only
  rw [prs]
  simp only [prsK, cond_false]
  cases ys with
  | nil => rfl
  | cons c ys =>
   simp only
   cases hp : pl c with
   | false => rfl
   | true =>
    simp only [Bool.not_true, cond_false]
    cases hn : decide (0 < c.fN) with
    | true =>
     simp only [cond_true]
     cases hq : prs (P + 1) (decide (c.fKind = 6)) none c.fN.toNat ys with
     | none => rfl
     | some q =>
      obtain ⟨kids, zs⟩ := q
      simp only [prs]
      cases hr : prs (P + 1) m key k zs with
      | none => rfl
      | some q => obtain ⟨a, b⟩ := q; rfl
    | false =>
     simp only [cond_false, prs]
     cases hr : prs (P + 1) m key k ys with
     | none => rfl
     | some q => obtain ⟨a, b⟩ := q; rfl
end Go.Proofs.YtkalifgebccpcaaDoor

/-
 The reference reads values as the plain reader does. Plain laws.
-/
namespace Go.Proofs.YtkalifgebccpcaaDoor
open Go
set_option linter.unusedVariables false
set_option linter.unusedSimpArgs false
def prsF (m : Bool) (last : Option Str) (k : Nat) (xs : List TApiCell) : Option (Fo × List TApiCell) := prs (xs.length + 1) m last k xs
theorem prsF_zero (m : Bool) (last : Option Str) (xs : List TApiCell) : prsF m last 0 xs = some (.nil, xs) := rfl
theorem prsF_cons (m : Bool) (last : Option Str) (k : Nat) (xs : List TApiCell) : prsF m last (k + 1) xs =
  match prsK m last xs with
  | none => none
  | some (key, ys) => match prs1 ys with
   | none => none
   | some (f, zs) => match prsF m key k zs with
    | none => none
    | some (r, us) => some (f.put key r, us) := by
 unfold prsF prs1
 rw [prs_fuel (xs.length + 1) (xs.length + 2) m last (k + 1) xs (by omega) (by omega), prs_cons]
 cases hk : prsK m last xs with
 | none => rfl
 | some p =>
  obtain ⟨key, ys⟩ := p
  have h1 := (prsK_ok hk).1
  have hy : ys.length ≤ xs.length := by rw [h1]; simp
  simp only
  rw [prs_fuel (xs.length + 2) (ys.length + 1) false none 1 ys (by omega) (by omega)]
  cases hf : prs (ys.length + 1) false none 1 ys with
  | none => rfl
  | some q =>
   obtain ⟨f, zs⟩ := q
   have h2 := (prs_ok _ _ _ _ _ _ _ hf).1
   have hz : zs.length ≤ ys.length := by rw [h2]; simp
   simp only
   rw [prs_fuel (xs.length + 1) (zs.length + 1) m key k zs (by omega) (by omega)]
   all_goals (cases prs (zs.length + 1) m key k zs <;> rfl)
theorem lop_n {S O : Type} {body : S → Option (Stp S O)} {n : Nat} {s s' : S} {o : O} (h : body s = some (.next s')) (h' : lop body n s' = some o) : lop body (n + 1) s = some o := by rw [lop, h]; exact h'
theorem lop_o {S O : Type} {body : S → Option (Stp S O)} {n : Nat} {s : S} {o : O} (h : body s = some (.out o)) : lop body (n + 1) s = some o := by rw [lop, h]
theorem prs1_nil : prs1 [] = none := rfl
theorem prs1_cons (c : TApiCell) (r : List TApiCell) : prs1 (c :: r) = bif !pl c then none else bif decide (0 < c.fN) then (match prsF (decide (c.fKind = 6)) none c.fN.toNat r with
  | none => none
  | some (kids, zs) => some (.node none c kids .nil, zs)) else some (.cell none c .nil, r) := by
 unfold prs1
 rw [prs]
 simp only [prsK, cond_false]
 cases hp : pl c with
 | false => rfl
 | true =>
  simp only [Bool.not_true, cond_false]
  cases hn : decide (0 < c.fN) with
  | true =>
   simp only [cond_true]
   unfold prsF
   rw [List.length_cons]
   cases hq : prs (r.length + 1) (decide (c.fKind = 6)) none c.fN.toNat r with
   | none => rfl
   | some q => obtain ⟨kids, zs⟩ := q; rfl
  | false => rfl
theorem put_flat {f : Fo} (h : f.one = true) (key : Option Str) (r : Fo) : (f.put key r).flat = keyC key ++ (f.flat ++ r.flat) := by
 cases f with
 | nil => cases h
 | cell k c r' =>
  cases k with
  | some s => cases h
  | none => cases r' with
   | nil => simp [Fo.put, Fo.flat, keyC]
   | cell _ _ _ => cases h
   | node _ _ _ _ => cases h
 | node k c kids r' =>
  cases k with
  | some s => cases h
  | none => cases r' with
   | nil => simp [Fo.put, Fo.flat, keyC]
   | cell _ _ _ => cases h
   | node _ _ _ _ => cases h
theorem one_flat {f : Fo} (h : f.one = true) : 1 ≤ f.flat.length := by
 cases f with
 | nil => cases h
 | cell k c r' => simp [Fo.flat]; omega
 | node k c kids r' => simp [Fo.flat]; omega
theorem prs1_ok {xs ys : List TApiCell} {f : Fo} (h : prs1 xs = some (f, ys)) : xs = f.flat ++ ys ∧ f.wf false none = true ∧ f.one = true :=
 ⟨(prs_ok _ _ _ _ _ _ _ h).1, (prs_ok _ _ _ _ _ _ _ h).2.1, prs_one h⟩
def nxt (v : List TApiCell) (i : Int) : Int := match prs1 (v.drop i.toNat) with
 | none => -1
 | some (f, _) => i + f.flat.length
def nxts (m : Bool) (last : Option Str) (v : List TApiCell) (i : Int) (k : Nat) : Int := match prsF m last k (v.drop i.toNat) with
 | none => -1
 | some (f, _) => i + f.flat.length
theorem nxt_range {v : List TApiCell} {i : Int} (h0 : 0 ≤ i) (h1 : i ≤ v.length) : nxt v i = -1 ∨ (i < nxt v i ∧ nxt v i ≤ v.length) := by
 unfold nxt
 cases h : prs1 (v.drop i.toNat) with
 | none => exact .inl rfl
 | some q =>
  obtain ⟨f, ys⟩ := q
  obtain ⟨h2, _, h3⟩ := prs1_ok h
  have := one_flat h3
  have hl : (v.drop i.toNat).length = f.flat.length + ys.length := by rw [h2]; simp
  rw [List.length_drop] at hl
  right; simp only; omega
structure RfA (F M : Nat) (v : List TApiCell) : Prop where
 hM : M ≤ 1152921504606846976
 hv : v.length ≤ M
 hF : M < F
 hc : ∀ c ∈ v, c.fStr.length ≤ M
theorem rAfter_eq (ok : Bool) {i : Int} (h0 : 0 ≤ i) (h1 : i ≤ 1152921504606846976) : rAfter ok i = some (bif ok then i + 1 else -1) := by
 unfold rAfter
 cases ok
 ·rfl
 ·rw [cnd_tt rfl, chk_i64 (by omega) (by omega)]; rfl
theorem rKey_eq {F : Nat} {c : TApiCell} (hF : c.fStr.length < F) (hs : c.fStr.length ≤ 1152921504606846976) : rKey F c = some (decide (c.fKind = 4) && pl c) := by
 unfold rKey
 rw [rPlain_eq hF (by omega)]
 simp only [Option.isSome_some, ov, Option.getD_some, imp, Bool.or_true, chk, cond_true]
 cases h4 : decide (c.fKind = 4) with
 | false => rfl
 | true =>
  simp only [decide_eq_true_eq] at h4
  simp [pl, h4]
theorem at_drop {v : List TApiCell} {i : Int} {c : TApiCell} {r : List TApiCell} (h0 : 0 ≤ i) (h : v.drop i.toNat = c :: r) : at' v i = c := by
 have := (drop_get h0 h).1
 simp [at', this]
section
variable {M : Nat} {v : List TApiCell}
theorem rElements_lop {F : Nat} (hA : RfA F M v) {g : List TApiCell → Int → Option Int} {n : Int} (hn : n ≤ 9223372036854775807) : ∀ (L : Nat) (i x : Int), 0 ≤ i → i ≤ v.length → 0 ≤ x → x ≤ n → (∀ j, i ≤ j → j ≤ v.length → g v j = some (nxt v j)) → v.length - i.toNat < L →
  ∃ o, lop (fun σ => rElements_b1 v n g σ.1 σ.2) L (i, x) = some o ∧ oute (fun ν => rElements_k1 ν) o = some (nxts false none v i (n - x).toNat)
 | 0, i, x, _, _, _, _, _, h => by omega
 | L + 1, i, x, h0, h1, hx, hxn, hg, hL => by
  cases hxl : decide (x < n) with
  | false =>
   refine ⟨.go i, lop_o (by show rElements_b1 v n g i x = _; unfold rElements_b1; rw [cnd_ff hxl]), ?_⟩
   simp only [decide_eq_false_iff_not] at hxl
   rw [show (n - x).toNat = 0 from by omega]
   simp [oute, rElements_k1, nxts, prsF_zero, Fo.flat]
  | true =>
   have hb : rElements_b1 v n g i x = cnd (decide (nxt v i < 0)) (some (.out (.ret (-1)))) (chk (inK .i64 (x + 1)) <| some (.next (nxt v i, x + 1))) := by unfold rElements_b1; rw [cnd_tt hxl, hg i (Int.le_refl i) h1, obn_s rfl]
   simp only [decide_eq_true_eq] at hxl
   obtain ⟨k, hk⟩ : ∃ k, (n - x).toNat = k + 1 := ⟨(n - x).toNat - 1, by omega⟩
   rw [hk]
   have e : nxts false none v i (k + 1) = bif decide (nxt v i < 0) then -1 else nxts false none v (nxt v i) k := by
    unfold nxts
    rw [prsF_cons]
    simp only [prsK, cond_false]
    cases hp : prs1 (v.drop i.toNat) with
    | none => simp [nxt, hp]
    | some q =>
     obtain ⟨f, ys⟩ := q
     obtain ⟨q1, q2, q3⟩ := prs1_ok hp
     have hi : nxt v i = i + f.flat.length := by simp [nxt, hp]
     have hd : v.drop (nxt v i).toNat = ys := by rw [hi]; exact drop_app h0 q1
     rw [hd, decide_eq_false (by omega)]
     simp only [cond_false]
     cases hr : prsF false none k ys with
     | none => rfl
     | some q =>
      obtain ⟨r, zs⟩ := q
      simp only [put_flat q3, keyC, List.nil_append, List.length_append, hi]; omega
   rw [e]
   rcases nxt_range (v := v) h0 h1 with hneg | ⟨hlt, hle⟩
   ·exact ⟨.ret (-1), lop_o (hb.trans (by rw [hneg, cnd_tt (by decide)])), by rw [hneg]; rfl⟩
   ·have hM := hA.hM; have hvM := hA.hv
    obtain ⟨o, ho1, ho2⟩ := rElements_lop hA hn L (nxt v i) (x + 1) (by omega) hle (by omega) (by omega) (fun j hj => hg j (by omega)) (by omega)
    exact ⟨o, lop_n (hb.trans (by rw [cnd_ff (decide_eq_false (by omega)), chk_i64 (by omega) (by omega)])) ho1, by rw [ho2, show (n - (x + 1)).toNat = k from by omega, decide_eq_false (by omega)]; rfl⟩
theorem rPairs_lop {F : Nat} (hA : RfA F M v) {g : List TApiCell → Int → Option Int} {n : Int} (hn : n ≤ 9223372036854775807) : ∀ (L : Nat) (i x : Int) (last : Str), 0 ≤ i → i ≤ v.length → 0 ≤ x → x ≤ n → (∀ j, i ≤ j → j ≤ v.length → g v j = some (nxt v j)) → v.length - i.toNat < L →
  ∃ o, lop (fun σ => rPairs_b1 F v n g σ.1 σ.2.1 σ.2.2) L (i, last, x) = some o ∧ oute (fun ν => rPairs_k1 ν) o = some (nxts true (bif decide (0 < x) then some last else none) v i (n - x).toNat)
 | 0, i, x, _, _, _, _, _, _, h => by omega
 | L + 1, i, x, last, h0, h1, hx, hxn, hg, hL => by
  have hM := hA.hM; have hvM := hA.hv; have hMF := hA.hF
  cases hxl : decide (x < n) with
  | false =>
   refine ⟨.go i, lop_o (by show rPairs_b1 F v n g i last x = _; unfold rPairs_b1; rw [cnd_ff hxl]), ?_⟩
   simp only [decide_eq_false_iff_not] at hxl
   rw [show (n - x).toNat = 0 from by omega]
   simp [oute, rPairs_k1, nxts, prsF_zero, Fo.flat]
  | true =>
   have hxl' := hxl
   simp only [decide_eq_true_eq] at hxl
   obtain ⟨k, hk⟩ : ∃ k, (n - x).toNat = k + 1 := ⟨(n - x).toNat - 1, by omega⟩
   rw [hk]
   cases hd : v.drop i.toNat with
   | nil =>
    have hl : v.length ≤ i.toNat := by simpa using hd
    refine ⟨.ret (-1), lop_o (by
     show rPairs_b1 F v n g i last x = _
     unfold rPairs_b1
     rw [cnd_tt hxl', chk_t (by simp [imp, show (v.length : Int) ≤ i from by omega]), chk_t (by simp [imp, show (v.length : Int) ≤ i from by omega]), cnd_tt (by simp [show (v.length : Int) ≤ i from by omega])]), ?_⟩
    simp [oute, nxts, hd, prsF_cons, prsK]
   | cons c r =>
    obtain ⟨g1, g2, g3⟩ := drop_get h0 hd
    have hcM := hA.hc c (List.mem_of_getElem? g1)
    have hat := at_drop h0 hd
    have hnl : decide ((v.length : Int) ≤ i) = false := by simp; omega
    have hb : rPairs_b1 F v n g i last x = cnd (!(decide (c.fKind = 4) && pl c) || decide (0 < x) && (sLess c.fStr last || decide (c.fStr = last))) (some (.out (.ret (-1)))) (obn (g v (i + 1)) fun r106 => cnd (decide (r106 < 0)) (some (.out (.ret (-1)))) (chk (inK .i64 (x + 1)) <| some (.next (r106, c.fStr, x + 1)))) := by
     unfold rPairs_b1
     rw [cnd_tt hxl', chk_t (by simp only [imp]; rw [inR' h0 g3]; simp), hat, rKey_eq (by omega) (by omega), chk_t (by simp [imp])]
     simp only [hnl, ov, Option.getD_some, Bool.false_or]
     rw [chk_inR h0 g3, chk_i64 (by omega) (by omega)]
    have hpk : prsK true (bif decide (0 < x) then some last else none) (c :: r) = bif (!(decide (c.fKind = 4) && pl c) || decide (0 < x) && (sLess c.fStr last || decide (c.fStr = last))) then none else some (some c.fStr, r) := by
     simp only [prsK, cond_true]
     cases h4 : decide (c.fKind = 4) with
     | false => simp
     | true =>
      cases hp : pl c with
      | false => simp
      | true =>
       have hok := (pl_key hp (by simpa using h4)).2
       cases h0x : decide (0 < x) with
       | false => simp [keyOk, hok]
       | true => cases hs : (sLess c.fStr last || decide (c.fStr = last)) <;> simp [keyOk, hok, hs]
    cases ht : (!(decide (c.fKind = 4) && pl c) || decide (0 < x) && (sLess c.fStr last || decide (c.fStr = last))) with
    | true =>
     rw [ht] at hpk
     refine ⟨.ret (-1), lop_o (hb.trans (cnd_tt ht)), ?_⟩
     simp only [nxts, hd, prsF_cons, hpk, cond_true]; rfl
    | false =>
     rw [ht] at hpk
     rw [cnd_ff ht, hg (i + 1) (by omega) (by omega), obn_s rfl] at hb
     have e : nxts true (bif decide (0 < x) then some last else none) v i (k + 1) = bif decide (nxt v (i + 1) < 0) then -1 else nxts true (some c.fStr) v (nxt v (i + 1)) k := by
      unfold nxts
      rw [hd, prsF_cons, hpk]
      simp only [cond_false]
      have hx : nxt v (i + 1) = match prs1 r with | none => -1 | some (f, _) => i + 1 + f.flat.length := by unfold nxt; rw [g2]
      cases hp : prs1 r with
      | none => rw [hp] at hx; simp [hx]
      | some q =>
       obtain ⟨f, ys⟩ := q
       obtain ⟨q1, q2, q3⟩ := prs1_ok hp
       rw [hp] at hx
       simp only at hx
       have hd2 : v.drop (nxt v (i + 1)).toNat = ys := by rw [hx]; exact drop_app (by omega) (g2.trans q1)
       rw [hd2, decide_eq_false (by omega)]
       simp only [cond_false]
       cases hr : prsF true (some c.fStr) k ys with
       | none => rfl
       | some q =>
        obtain ⟨r', zs⟩ := q
        simp only [put_flat q3, keyC, List.length_append, List.length_cons, List.length_nil, hx]; omega
     rw [e]
     rcases nxt_range (v := v) (i := i + 1) (by omega) (by omega) with hneg | ⟨hlt, hle⟩
     ·exact ⟨.ret (-1), lop_o (hb.trans (by rw [hneg, cnd_tt (by decide)])), by rw [hneg]; rfl⟩
     ·obtain ⟨o, ho1, ho2⟩ := rPairs_lop hA hn L (nxt v (i + 1)) (x + 1) c.fStr (by omega) hle (by omega) (by omega) (fun j hj => hg j (by omega)) (by omega)
      exact ⟨o, lop_n (hb.trans (by rw [cnd_ff (decide_eq_false (by omega)), chk_i64 (by omega) (by omega)])) ho1, by rw [ho2, show (n - (x + 1)).toNat = k from by omega, decide_eq_true (show (0 : Int) < x + 1 from by omega), decide_eq_false (by omega)]; rfl⟩
theorem nxts_one {i : Int} {c : TApiCell} {r : List TApiCell} (h0 : 0 ≤ i) (hd : v.drop i.toNat = c :: r) (hp : pl c = true) : nxt v i = nxts (decide (c.fKind = 6)) none v (i + 1) c.fN.toNat := by
 have g2 := (drop_get h0 hd).2.1
 have hN := pl_N hp
 unfold nxt nxts
 rw [hd, prs1_cons, g2, hp]
 simp only [Bool.not_true, cond_false]
 cases hn : decide (0 < c.fN) with
 | true =>
  simp only [cond_true]
  cases hq : prsF (decide (c.fKind = 6)) none c.fN.toNat r with
  | none => rfl
  | some q =>
   obtain ⟨kids, zs⟩ := q
   simp only [Fo.flat, keyC, List.nil_append, List.length_cons, List.append_nil]; omega
 | false =>
  simp only [decide_eq_false_iff_not] at hn
  rw [show c.fN.toNat = 0 from by omega, prsF_zero]
  simp [Fo.flat, keyC]
theorem rNext_eq (hA : RfA (M + 1) M v) (hN : ∀ c ∈ v, c.fN ≤ 9223372036854775807) : ∀ (d F : Nat) (i : Int), 0 ≤ i → i ≤ v.length → v.length - i.toNat = d → M + 2 * d + 3 < F → rNext F v i = some (nxt v i) := by
 have hM := hA.hM; have hvM := hA.hv
 intro d
 induction d using Nat.strongRecOn with
 | ind d ih =>
  intro F i h0 h1 hd hF
  obtain ⟨F, rfl⟩ : ∃ G, F = G + 1 := ⟨F - 1, by omega⟩
  obtain ⟨F, rfl⟩ : ∃ G, F = G + 1 := ⟨F - 1, by omega⟩
  rw [rNext]
  unfold rNextm
  cases hdr : v.drop i.toNat with
  | nil =>
   have hl : v.length ≤ i.toNat := by simpa using hdr
   rw [cnd_tt (by simp; omega)]
   simp [nxt, hdr, prs1_nil]
  | cons c r =>
   obtain ⟨g1, g2, g3⟩ := drop_get h0 hdr
   have hcM := hA.hc c (List.mem_of_getElem? g1)
   have hcN := hN c (List.mem_of_getElem? g1)
   rw [cnd_ff (by simp; omega), chk_inR h0 g3, at_drop h0 hdr]
   simp only [rAfter_eq _ h0 (show i ≤ 1152921504606846976 by omega), Option.isSome_some, ov, Option.getD_some, imp, Bool.or_true, chk_t (x := _) (rfl : true = true)]
   have hg : ∀ j, i + 1 ≤ j → j ≤ v.length → rNext F v j = some (nxt v j) := fun j hj hj2 => ih (v.length - j.toNat) (by omega) F j (by omega) hj2 rfl (by omega)
   have hpl0 : pl c = false → nxt v i = -1 := fun hp => by simp [nxt, hdr, prs1_cons, hp]
   have hleaf : pl c = true → c.fN = 0 → nxt v i = i + 1 := fun hp h0' => by simp [nxt, hdr, prs1_cons, hp, h0', Fo.flat, keyC]
   have hscal : ∀ b : Bool, pl c = b → (b = true → c.fN = 0) → nxt v i = bif b then i + 1 else -1 := fun b hb hz => by
    cases b
    ·exact hpl0 hb
    ·exact hleaf hb (hz rfl)
   by_cases k1 : c.fKind = 1
   ·rw [cnd_tt (by simp [k1])]
    have hp : pl c = (decide (c.fInt = 0) && (decide (c.fStr = []) && decide (c.fN = 0))) := by simp [pl, k1]
    rw [hscal _ hp (fun h => by simp at h; exact h.2.2)]
    cases decide (c.fInt = 0) <;> cases decide (c.fStr = []) <;> cases decide (c.fN = 0) <;> rfl
   rw [cnd_ff (by simp [k1])]
   by_cases k2 : c.fKind = 2
   ·rw [cnd_tt (by simp [k2])]
    have hp : pl c = ((decide (c.fInt = 0) || decide (c.fInt = 1)) && (decide (c.fStr = []) && decide (c.fN = 0))) := by simp [pl, k2]
    rw [hscal _ hp (fun h => by simp at h; exact h.2.2)]
    cases decide (c.fInt = 0) <;> cases decide (c.fInt = 1) <;> cases decide (c.fStr = []) <;> cases decide (c.fN = 0) <;> rfl
   rw [cnd_ff (by simp [k2])]
   by_cases k3 : c.fKind = 3
   ·rw [cnd_tt (by simp [k3])]
    have hp : pl c = (decide (c.fStr = []) && decide (c.fN = 0)) := by simp [pl, k3]
    rw [hscal _ hp (fun h => by simp at h; exact h.2)]
    cases decide (c.fStr = []) <;> cases decide (c.fN = 0) <;> rfl
   rw [cnd_ff (by simp [k3])]
   by_cases k4 : c.fKind = 4
   ·rw [cnd_tt (by simp [k4]), rKey_eq (by omega) (by omega), obn_s rfl, obn_s rfl]
    rw [decide_eq_true k4, Bool.true_and, hscal (pl c) rfl (fun hp => by have := (pl_key hp k4).1; rw [this])]
   rw [cnd_ff (by simp [k4])]
   by_cases k5 : c.fKind = 5
   ·have hp : pl c = (decide (c.fInt = 0) && (decide (c.fStr = []) && decide (0 ≤ c.fN))) := by simp [pl, k5]
    rw [show (decide (c.fKind = 5) && (decide (c.fInt = 0) && (decide (c.fStr = []) && decide (0 ≤ c.fN)))) = pl c from by rw [hp, decide_eq_true k5, Bool.true_and]]
    have k5' : ¬ c.fKind = 6 := by omega
    cases hb : pl c with
    | false => rw [cnd_ff rfl, cnd_ff (by simp [k5]), hpl0 hb]
    | true =>
     have hn0 := pl_N hb
     rw [cnd_tt rfl, chk_i64 (by omega) (by omega), rElements]
     unfold rElementsm
     obtain ⟨o, ho1, ho2⟩ := rElements_lop (F := F) ⟨hM, hvM, by omega, hA.hc⟩ hcN F (i + 1) 0 (by omega) (by omega) (Int.le_refl 0) hn0 hg (by omega)
     rw [obn_s ho1, ho2, obn_s rfl, nxts_one h0 hdr hb, decide_eq_false k5', Int.sub_zero]
   rw [cnd_ff (by simp [k5])]
   by_cases k6 : c.fKind = 6
   ·have hp : pl c = (decide (c.fInt = 0) && (decide (c.fStr = []) && decide (0 ≤ c.fN))) := by simp [pl, k6]
    rw [show (decide (c.fKind = 6) && (decide (c.fInt = 0) && (decide (c.fStr = []) && decide (0 ≤ c.fN)))) = pl c from by rw [hp, decide_eq_true k6, Bool.true_and]]
    cases hb : pl c with
    | false => rw [cnd_ff rfl, hpl0 hb]
    | true =>
     have hn0 := pl_N hb
     rw [cnd_tt rfl, chk_i64 (by omega) (by omega), rPairs]
     unfold rPairsm
     obtain ⟨o, ho1, ho2⟩ := rPairs_lop (F := F) ⟨hM, hvM, by omega, hA.hc⟩ hcN F (i + 1) 0 [] (by omega) (by omega) (Int.le_refl 0) hn0 hg (by omega)
     rw [obn_s ho1, ho2, obn_s rfl, nxts_one h0 hdr hb, decide_eq_true k6, Int.sub_zero]
     rfl
   ·rw [cnd_ff (by simp [k6]), hpl0 (by simp [pl, k1, k2, k3, k4, k5, k6])]
end
end Go.Proofs.YtkalifgebccpcaaDoor

/-
 The plain reader reads each forest's cells; value.Check, and the reference's levels. Plain laws.
-/
namespace Go.Proofs.YtkalifgebccpcaaDoor
open Go
set_option linter.unusedVariables false
set_option linter.unusedSimpArgs false
theorem prsK_of {m : Bool} {last key : Option Str} {r : List TApiCell} (h : keyOk m last key = true) : prsK m last (keyC key ++ r) = some (key, r) := by
 cases key with
 | none =>
  have : m = false := by simpa [keyOk] using h
  subst this; rfl
 | some s =>
  have h' := h
  simp only [keyOk, Bool.and_eq_true] at h
  obtain ⟨⟨h1, h2⟩, h3⟩ := h
  subst h1
  have hp : pl ⟨4, 0, s, 0⟩ = true := by simp [pl, h2]
  show (bif pl ⟨4, 0, s, 0⟩ && decide ((4 : Int) = 4) && keyOk true last (some s) then _ else _) = _
  rw [hp, h']; rfl
theorem prsF_of : ∀ (f : Fo) (m : Bool) (last : Option Str) (ys : List TApiCell), f.wf m last = true → prsF m last f.cnt (f.flat ++ ys) = some (f, ys)
 | .nil, _, _, _, _ => rfl
 | .cell k c r, m, last, ys, hw => by
  simp only [Fo.wf, Bool.and_eq_true, Bool.not_eq_true'] at hw
  obtain ⟨⟨⟨w1, w2⟩, w3⟩, w4⟩ := hw
  simp only [Fo.cnt, Fo.flat, List.append_assoc, List.cons_append]
  rw [prsF_cons, prsK_of w1]
  simp only [prs1_cons, w2, w3, Bool.not_true, cond_false, prsF_of r m k ys w4, Fo.put]
 | .node k c kids r, m, last, ys, hw => by
  simp only [Fo.wf, Bool.and_eq_true, decide_eq_true_eq] at hw
  obtain ⟨⟨⟨⟨⟨w1, w2⟩, w3⟩, w5⟩, w6⟩, w4⟩ := hw
  simp only [Fo.cnt, Fo.flat, List.append_assoc, List.cons_append]
  rw [prsF_cons, prsK_of w1]
  have e : c.fN.toNat = kids.cnt := by omega
  simp only [prs1_cons, w2, decide_eq_true w3, Bool.not_true, cond_false, cond_true, e, prsF_of kids _ none (r.flat ++ ys) w6, prsF_of r m k ys w4, Fo.put]
theorem prs1_of {f : Fo} {ys : List TApiCell} (h1 : f.one = true) (hw : f.wf false none = true) : prs1 (f.flat ++ ys) = some (f, ys) := by
 have := prsF_of f false none ys hw
 have hc : f.cnt = 1 := by
  cases f with
  | nil => cases h1
  | cell k c r => cases k with
   | some _ => cases h1
   | none => cases r with
    | nil => rfl
    | _ => cases h1
  | node k c kids r => cases k with
   | some _ => cases h1
   | none => cases r with
    | nil => rfl
    | _ => cases h1
 rw [hc] at this
 exact this
structure CkA (M : Nat) (v : List TApiCell) : Prop where
 hM : M ≤ 1000000000
 hv : v.length ≤ M
 hc : ∀ c ∈ v, c.fStr.length ≤ M ∧ inK .i64 c.fInt = true ∧ c.fN ≤ 9223372036854775807
theorem CkA.lk {M F : Nat} {v : List TApiCell} (h : CkA M v) (hF : M < F) : LkA F M v := ⟨by have := h.hM; omega, by have := h.hM; omega, h.hv, hF, h.hc⟩
theorem CkA.rf {M F : Nat} {v : List TApiCell} (h : CkA M v) (hF : M < F) : RfA F M v := ⟨by have := h.hM; omega, h.hv, hF, fun c hc => (h.hc c hc).1⟩
theorem CkA.drop {M : Nat} {v : List TApiCell} (h : CkA M v) (k : Nat) : CkA M (v.drop k) := ⟨h.hM, by have := h.hv; rw [List.length_drop]; omega, fun c hc => h.hc c (List.mem_of_mem_drop hc)⟩
theorem CkA.take {M : Nat} {v : List TApiCell} (h : CkA M v) (k : Nat) : CkA M (v.take k) := ⟨h.hM, by have := h.hv; rw [List.length_take]; omega, fun c hc => h.hc c (List.mem_of_mem_take hc)⟩
def whole (v : List TApiCell) : Option Fo := match prs1 v with
 | some (f, []) => some f
 | _ => none
theorem whole_some {v : List TApiCell} {f : Fo} (h : whole v = some f) : v = f.flat ∧ f.wf false none = true ∧ f.one = true := by
 unfold whole at h
 cases hp : prs1 v with
 | none => rw [hp] at h; cases h
 | some q =>
  obtain ⟨g, ys⟩ := q
  rw [hp] at h
  cases ys with
  | cons _ _ => cases h
  | nil =>
   cases h
   obtain ⟨h1, h2, h3⟩ := prs1_ok hp
   exact ⟨by simpa using h1, h2, h3⟩
theorem whole_of {f : Fo} (h1 : f.one = true) (hw : f.wf false none = true) : whole f.flat = some f := by
 have := prs1_of (ys := []) h1 hw
 rw [List.append_nil] at this
 simp [whole, this]
def errF (f : Fo) : Int :=
 bif f.flat.any outC then 2 else bif f.flat.any longC || (decide (200 < f.flat.length) || (decide (8 < f.dep) || decide (4000 < (f.txt true).length))) then 3 else 0
def errV (v : List TApiCell) : Int := match whole v with
 | none => 1
 | some f => errF f
theorem one_cnt {f : Fo} (h1 : f.one = true) : f.cnt = 1 := by
 cases f with
 | nil => cases h1
 | cell k c r => cases k with
  | some _ => cases h1
  | none => cases r with
   | nil => rfl
   | _ => cases h1
 | node k c kids r => cases k with
  | some _ => cases h1
  | none => cases r with
   | nil => rfl
   | _ => cases h1
theorem qlen_le (s : Str) : qlen s ≤ 2 * s.length + 2 + s.length := by
 have h1 : s.count 34 ≤ s.length := List.count_le_length
 have h2 : s.count 92 ≤ s.length := List.count_le_length
 unfold qlen; omega
theorem lsz_le {c : TApiCell} {M : Nat} (hp : pl c = true) (hs : c.fStr.length ≤ M) (hi : (Lib.itoa c.fInt).length ≤ 21) : lsz c ≤ 3 * M + 21 := by
 have := qlen_le c.fStr
 unfold lsz
 cases h1 : decide (c.fKind = 1) with
 | true => simp only [cond_true]; omega
 | false =>
  cases h2 : decide (c.fKind = 2) with
  | true =>
   simp [pl, h1, h2] at hp
   simp only [cond_false, cond_true]; omega
  | false =>
   cases h3 : decide (c.fKind = 3) with
   | true => simp only [cond_false, cond_true]; omega
   | false => cases h4 : decide (c.fKind = 4) <;> simp only [cond_false, cond_true] <;> omega
theorem byt_le {M : Nat} : ∀ {f : Fo} {m : Bool} {l : Option Str}, f.wf m l = true → (∀ c ∈ f.flat, c.fStr.length ≤ M ∧ inK .i64 c.fInt = true ∧ c.fN ≤ 9223372036854775807) → f.byt + f.cnt ≤ (3 * M + 24) * f.flat.length
 | .nil, _, _, _, _ => by simp [Fo.byt, Fo.flat, Fo.cnt]
 | .cell k c r, m, l, hw, hc => by
  simp only [Fo.wf, Bool.and_eq_true, Bool.not_eq_true'] at hw
  obtain ⟨⟨⟨w1, w2⟩, w3⟩, w4⟩ := hw
  simp only [Fo.flat] at hc
  have ih := byt_le w4 (fun x hx => hc x (by simp [hx]))
  obtain ⟨c1, c2, c3⟩ := hc c (by simp)
  have i64 := inK_i64 c2
  have hl := lsz_le w2 c1 (Lib.itoa_length_le c.fInt i64.1 i64.2)
  have hk : kbn k ≤ (3 * M + 24) * (keyC k).length := by
   cases k with
   | none => simp [kbn, keyC]
   | some s =>
    have := (hc ⟨4, 0, s, 0⟩ (by simp [keyC])).1
    have h2 := qlen_le s
    simp only at this
    simp only [kbn, keyC, List.length_singleton]; omega
  simp only [Fo.byt, Fo.flat, Fo.cnt, List.length_append, List.length_cons]
  have e : ((3 * (M : Int) + 24) * (((keyC k).length + (r.flat.length + 1) : Nat) : Int)) = (3 * (M : Int) + 24) * (keyC k).length + ((3 * (M : Int) + 24) * r.flat.length + (3 * (M : Int) + 24)) := by
   push_cast; rw [Int.mul_add, Int.mul_add, Int.mul_one]
  rw [e]
  push_cast at *
  omega
 | .node k c kids r, m, l, hw, hc => by
  simp only [Fo.wf, Bool.and_eq_true, decide_eq_true_eq] at hw
  obtain ⟨⟨⟨⟨⟨w1, w2⟩, w3⟩, w5⟩, w6⟩, w4⟩ := hw
  simp only [Fo.flat] at hc
  have ih := byt_le w4 (fun x hx => hc x (by simp [hx]))
  have ih2 := byt_le w6 (fun x hx => hc x (by simp [hx]))
  have hcf := cnt_le_flat kids
  have hk : kbn k ≤ (3 * M + 24) * (keyC k).length := by
   cases k with
   | none => simp [kbn, keyC]
   | some s =>
    have := (hc ⟨4, 0, s, 0⟩ (by simp [keyC])).1
    have h2 := qlen_le s
    simp only at this
    simp only [kbn, keyC, List.length_singleton]; omega
  simp only [Fo.byt, Fo.flat, Fo.cnt, List.length_append, List.length_cons]
  have e : ((3 * (M : Int) + 24) * (((keyC k).length + (kids.flat.length + r.flat.length + 1) : Nat) : Int)) = (3 * (M : Int) + 24) * (keyC k).length + ((3 * (M : Int) + 24) * kids.flat.length + (3 * (M : Int) + 24) * r.flat.length + (3 * (M : Int) + 24)) := by
   push_cast; rw [Int.mul_add, Int.mul_add, Int.mul_add, Int.mul_one]
  rw [e]
  push_cast at *
  omega
theorem byt_bound {M : Nat} (hM : M ≤ 1000000) {f : Fo} {m : Bool} {l : Option Str} (hw : f.wf m l = true) (hl : f.flat.length ≤ M) (hc : ∀ c ∈ f.flat, c.fStr.length ≤ M ∧ inK .i64 c.fInt = true ∧ c.fN ≤ 9223372036854775807) : f.byt ≤ 4000000000000 := by
 have := byt_le (M := M) hw hc
 have h2 : (3 * M + 24) * f.flat.length ≤ (3 * 1000000 + 24) * 1000000 := Nat.mul_le_mul (by omega) (by omega)
 have h3 : (((3 * M + 24) * f.flat.length : Nat) : Int) = (3 * (M : Int) + 24) * f.flat.length := by push_cast; rfl
 omega
theorem vCheck_eq {M F : Nat} {v : List TApiCell} (hA : CkA M v) (hM : M ≤ 1000000) (hF : M < F) : vCheck F v = some (errV v) := by
 unfold vCheck errV whole
 have hvM := hA.hv
 rcases look_eq (hA.lk hF) with ⟨f, ys, hp, hl⟩ | ⟨hp, sh', hl⟩
 ·rw [hl, obn_s rfl, hp]
  obtain ⟨h1, h2, h3⟩ := prs1_ok hp
  have hlen : v.length = f.flat.length + ys.length := by rw [h1]; simp
  cases ys with
  | cons c r =>
   rw [cnd_tt]
   simp only [List.length_cons] at hlen
   simp; omega
  | nil =>
   simp only [List.length_nil, Nat.add_zero] at hlen
   rw [cnd_ff (by simp [hlen])]
   have hc : ∀ c ∈ f.flat, c.fStr.length ≤ M ∧ inK .i64 c.fInt = true ∧ c.fN ≤ 9223372036854775807 := fun c hc => hA.hc c (by rw [h1]; simp [hc])
   have hb := byt_bound hM h2 (by omega) hc
   have hb0 := byt_pos h2
   have e1 : (f.sh 0 sh0).fOutside = f.flat.any outC := by rw [sh_out]; rfl
   have e2 : (f.sh 0 sh0).fLong = f.flat.any longC := by rw [sh_long]; rfl
   have e3 : (f.sh 0 sh0).fDepth = f.dep := by rw [sh_depth f 0 sh0 (by simp [sh0])]; simp [sh0]
   have e4 : (f.sh 0 sh0).fBytes = (f.txt true).length := by
    rw [sh_bytes f false none 0 sh0 h2 (by simp [sh0]) (by simp [sh0]; omega), txt_len f false none true h2, one_cnt h3]; simp [sh0]
   simp only
   rw [e1, e2, e3, e4, hlen]
   unfold errF
   cases f.flat.any outC with
   | true => rw [cnd_tt rfl]; rfl
   | false =>
    rw [cnd_ff rfl]
    have a1 : decide ((200 : Int) < (f.flat.length : Int)) = decide (200 < f.flat.length) := by rw [Bool.eq_iff_iff]; simp; omega
    have a2 : decide ((8 : Int) < (f.dep : Int)) = decide (8 < f.dep) := by rw [Bool.eq_iff_iff]; simp; omega
    have a3 : decide ((4000 : Int) < ((f.txt true).length : Int)) = decide (4000 < (f.txt true).length) := by rw [Bool.eq_iff_iff]; simp; omega
    rw [a1, a2, a3]
    cases (f.flat.any longC || (decide (200 < f.flat.length) || (decide (8 < f.dep) || decide (4000 < (f.txt true).length)))) <;> rfl
 ·rw [hl, obn_s rfl, hp]; rfl
end Go.Proofs.YtkalifgebccpcaaDoor

/-
 The reference's levels and texts of a forest. Plain laws.
-/
namespace Go.Proofs.YtkalifgebccpcaaDoor
open Go
set_option linter.unusedVariables false
set_option linter.unusedSimpArgs false
theorem wf_leaf {c : TApiCell} (hp : pl c = true) (hn : decide (0 < c.fN) = false) : (Fo.cell none c .nil).wf false none = true := by simp [Fo.wf, keyOk, hp, hn]
theorem wf_node {c : TApiCell} {kids : Fo} (hp : pl c = true) (hn : 0 < c.fN) (hk : c.fN = kids.cnt) (hw : kids.wf (decide (c.fKind = 6)) none = true) : (Fo.node none c kids .nil).wf false none = true := by simp [Fo.wf, keyOk, hp, hn, hk, hw]; omega
section
variable {M : Nat} {v : List TApiCell}
theorem CkA.next (hA : CkA M v) {F : Nat} (hF : 3 * M + 3 < F) {p : Int} (h0 : 0 ≤ p) (h1 : p ≤ v.length) : rNext F v p = some (nxt v p) := by
 have hM := hA.hM; have hvM := hA.hv
 exact rNext_eq (hA.rf (Nat.lt_succ_self M)) (fun c hc => (hA.hc c hc).2.2) (v.length - p.toNat) F p h0 h1 rfl (by omega)
theorem key_len {m : Bool} {last key : Option Str} (h : keyOk m last key = true) : ((keyC key).length : Int) = bif m then 1 else 0 := by
  cases key with
  | none => have : m = false := by simpa [keyOk] using h
            subst this; rfl
  | some s => simp only [keyOk, Bool.and_eq_true] at h; rw [h.1.1]; rfl
end
end Go.Proofs.YtkalifgebccpcaaDoor

/-
 The reference's text of a forest. Plain laws.
-/
namespace Go.Proofs.YtkalifgebccpcaaDoor
open Go
set_option linter.unusedVariables false
set_option linter.unusedSimpArgs false
def esc1 (c : UInt8) : Str := bif (decide (c = 34) || decide (c = 92)) then [92, c] else [c]
theorem escS_snoc {s : Str} {k : Nat} {c : UInt8} (h : s[k]? = some c) : escS (s.take (k + 1)) = escS (s.take k) ++ esc1 c := by
 rw [List.take_add_one, h]
 simp [escS, List.flatMap_append, esc1]
theorem bat34 {s : Str} {x : Int} {c : UInt8} (h : s[x.toNat]? = some c) : decide (bat s x = 34) = decide (c = 34) := by
 rw [bat_get h, Bool.eq_iff_iff, decide_eq_true_iff, decide_eq_true_iff, ← UInt8.toNat_inj]
 show _ ↔ c.toNat = 34
 omega
theorem bat92 {s : Str} {x : Int} {c : UInt8} (h : s[x.toNat]? = some c) : decide (bat s x = 92) = decide (c = 92) := by
 rw [bat_get h, Bool.eq_iff_iff, decide_eq_true_iff, decide_eq_true_iff, ← UInt8.toNat_inj]
 show _ ↔ c.toNat = 92
 omega
theorem oute_go {R V : Type} (K : V → Option R) (v : V) : oute K (.go v) = K v := rfl
theorem oute_ret {R V : Type} (K : V → Option R) (r : R) : oute K (.ret r) = some r := rfl
section
variable {M : Nat} {v : List TApiCell}
theorem cat4 (a b c d e : Str) : (((a ++ b) ++ c) ++ d) ++ e = a ++ (b ++ (c ++ d) ++ e) := by simp
theorem cat3 (a b c d : Str) : ((a ++ b) ++ c) ++ d = a ++ ([] ++ (b ++ c) ++ d) := by simp
theorem cat2 (a b c : Str) : (a ++ b) ++ c = a ++ (b ++ [] ++ c) := by simp
theorem cat1 (a b : Str) : a ++ b = a ++ ([] ++ [] ++ b) := by simp
end
end Go.Proofs.YtkalifgebccpcaaDoor

/-
 The reference's text of a whole value; its check. Plain laws.
-/
namespace Go.Proofs.YtkalifgebccpcaaDoor
open Go
set_option linter.unusedVariables false
set_option linter.unusedSimpArgs false
section
variable {M : Nat} {v : List TApiCell}
theorem ov_some {α : Type} [Inhabited α] (a : α) : ov (some a) = a := rfl
end
end Go.Proofs.YtkalifgebccpcaaDoor

/-
 value.Encode writes the text of a value. Plain laws.
-/
namespace Go.Proofs.YtkalifgebccpcaaDoor
open Go
set_option linter.unusedVariables false
set_option linter.unusedSimpArgs false
theorem chk_inA {α : Type} {n : Nat} {x : Option α} (h : n ≤ 140737488355328) : chk (inA 1 n) x = x := chk_t (decide_eq_true (by omega))
theorem bnd_s {α β : Type} (a : α) (k : α → Option β) : bnd a k = k a := rfl
theorem chk_u8 {α : Type} {n : Int} {x : Option α} (h : 0 ≤ n) (h' : n ≤ 255) : chk (inK .u8 n) x = x := chk_t (inK_u8' h h')
theorem bat_byte {s : Str} {x : Int} {c : UInt8} (h : s[x.toNat]? = some c) : UInt8.ofNat (Int.toNat (bat s x)) = c ∧ 0 ≤ bat s x ∧ bat s x ≤ 255 := by
 have := UInt8.toNat_lt c
 rw [bat_get h]
 refine ⟨?_, by omega, by omega⟩
 rw [← UInt8.toNat_inj]; simp
theorem vQuote_step {s l : Str} {x : Int} {c : UInt8} (h0 : 0 ≤ x) (hx : x < (s.length : Int)) (hs : s.length ≤ 1152921504606846976) (hl : l.length + 2 ≤ 140737488355328) (hc : s[x.toNat]? = some c) : vQuote_b1 s x l = some (.next (x + 1, l ++ esc1 c)) := by
 obtain ⟨b1, b2, b3⟩ := bat_byte hc
 unfold vQuote_b1 esc1
 rw [cnd_tt (decide_eq_true hx), chk_inR h0 hx, bat34 hc, bat92 hc]
 have l1 : (l ++ [UInt8.ofNat (Int.toNat 92)]).length = l.length + 1 := by simp
 cases hq : (decide (c = 34) || decide (c = 92)) with
 | true =>
  rw [cnd_tt rfl, chk_inA (by omega), chk_u8 (by decide) (by decide), bnd_s, l1, chk_inA (by omega), chk_u8 b2 b3, bnd_s, b1, chk_i64 (by omega) (by omega), List.append_assoc]
  rfl
 | false =>
  rw [cnd_ff rfl, chk_inA (by omega), chk_u8 b2 b3, bnd_s, b1, chk_i64 (by omega) (by omega)]
  rfl
theorem vQuote_k {l : Str} (h : l.length + 1 ≤ 140737488355328) : vQuote_k1 l = some (l ++ [34]) := by
 unfold vQuote_k1
 rw [chk_inA h, bnd_s]; rfl
theorem vQuote_eq {F : Nat} {l s : Str} (hF : s.length < F) (hl : (l ++ quoS s).length ≤ 140737488355328) : vQuote F l s = some (l ++ quoS s) := by
 have hq : (quoS s).length = (escS s).length + 2 := by simp [quoS]
 rw [List.length_append, hq] at hl
 have hesc : ∀ k, (escS (s.take k)).length ≤ (escS s).length := fun k => by
  have : escS s = escS (s.take k) ++ escS (s.drop k) := by rw [escS, escS, escS, ← List.flatMap_append, List.take_append_drop]
  rw [this, List.length_append]; omega
 have hsl : s.length ≤ (escS s).length := by rw [escS_len]; omega
 obtain ⟨o, h1, h2⟩ := lop_ind (body := fun σ => vQuote_b1 s σ.1 σ.2) (fun σ => 0 ≤ σ.1 ∧ σ.1 ≤ (s.length : Int) ∧ σ.2 = l ++ [34] ++ escS (s.take σ.1.toNat)) (fun σ => s.length - σ.1.toNat)
  (fun o => oute (fun ν => vQuote_k1 ν) o = some (l ++ quoS s)) (fun σ ⟨h0, hlx, ha⟩ => by
   obtain ⟨x, out⟩ := σ
   simp only at h0 hlx ha
   show (∃ s', vQuote_b1 s x out = _ ∧ _) ∨ ∃ o, vQuote_b1 s x out = _ ∧ _
   have hol : out.length = l.length + 1 + (escS (s.take x.toNat)).length := by rw [ha]; simp; omega
   have he := hesc x.toNat
   by_cases hx : x < (s.length : Int)
   ·obtain ⟨c, hc⟩ : ∃ c, s[x.toNat]? = some c := ⟨s[x.toNat]'(by omega), List.getElem?_eq_getElem (by omega)⟩
    have he2 := hesc (x.toNat + 1)
    rw [escS_snoc hc, List.length_append] at he2
    have hc1 : 1 ≤ (esc1 c).length := by unfold esc1; cases (decide (c = 34) || decide (c = 92)) <;> simp
    have a1 : 0 ≤ x + 1 := by omega
    have a2 : x + 1 ≤ s.length := by omega
    have a3 : s.length - (x + 1).toNat < s.length - x.toNat := by omega
    have a4 : out ++ esc1 c = l ++ [34] ++ escS (s.take (x + 1).toNat) := by rw [show (x + 1).toNat = x.toNat + 1 from by omega, escS_snoc hc, ha, List.append_assoc]
    exact .inl ⟨(x + 1, out ++ esc1 c), vQuote_step h0 hx (by omega) (by omega) hc, ⟨a1, a2, a4⟩, a3⟩
   ·have e : x.toNat = s.length := by omega
    rw [e, List.take_length] at ha
    have hf : out ++ [34] = l ++ quoS s := by rw [ha]; simp [quoS]
    have hgo : vQuote_b1 s x out = some (.out (.go out)) := by unfold vQuote_b1; rw [cnd_ff (decide_eq_false hx)]
    exact .inr ⟨.go out, hgo, (oute_go (fun ν => vQuote_k1 ν) out).trans ((vQuote_k (by omega)).trans (congrArg some hf))⟩) F (0, l ++ [34]) ⟨Int.le_refl 0, by show (0 : Int) ≤ s.length; omega, by show l ++ [34] = l ++ [34] ++ escS (s.take 0); simp [escS]⟩ (by show s.length - 0 < F; omega)
 unfold vQuote
 rw [chk_inA (by omega), chk_u8 (by decide) (by decide), bnd_s]
 have e34 : [UInt8.ofNat (Int.toNat 34)] = ([34] : Str) := rfl
 rw [e34, obn_s h1, h2]
theorem vWriteF_eq {F : Nat} {l key : Str} {x : List TApiCell} {first : Bool} {c : TApiCell} {k last : Option Str} {tx : Str} (hk : keyOk (decide (c.fKind = 6)) last k = true) (hkey : ∀ s, k = some s → key = s ∧ s.length < F)
  (hlen : (l ++ (sepT first ++ ktx k ++ tx)).length ≤ 140737488355328) (hw : ∀ l' : Str, (l' ++ tx).length ≤ 140737488355328 → vWrite F l' x = some (l' ++ tx)) : vWriteF (F + 1) key x first l c = some (true, false, l ++ (sepT first ++ ktx k ++ tx)) := by
 rw [vWriteF]
 unfold vWriteFm
 have e44 : [UInt8.ofNat (Int.toNat 44)] = ([44] : Str) := rfl
 have e58 : [UInt8.ofNat (Int.toNat 58)] = ([58] : Str) := rfl
 have hlen' := hlen
 simp only [List.length_append] at hlen'
 cases first with
 | true =>
  rw [cnd_ff (p := !true) rfl]
  cases hm : decide (c.fKind = 6) with
  | true =>
   rw [hm] at hk
   cases k with
   | none => simp [keyOk] at hk
   | some s =>
    obtain ⟨e1, e2⟩ := hkey s rfl
    subst e1
    simp only [ktx, List.length_append, List.length_singleton] at hlen'
    have h1 : (l ++ quoS key).length ≤ 140737488355328 := by rw [List.length_append]; omega
    have e : ((l ++ quoS key) ++ [58]) ++ tx = l ++ (sepT true ++ ktx (some key) ++ tx) := cat3 _ _ _ _
    rw [← e] at hlen ⊢
    rw [cnd_tt rfl, vQuote_eq e2 h1, obn_s rfl, chk_inA (by rw [List.length_append]; omega), chk_u8 (by decide) (by decide), bnd_s, e58, hw _ hlen, obn_s rfl]
  | false =>
   rw [hm] at hk
   cases k with
   | some s => simp [keyOk] at hk
   | none =>
    have e : l ++ tx = l ++ (sepT true ++ ktx none ++ tx) := cat1 _ _
    rw [← e] at hlen ⊢
    rw [cnd_ff rfl, hw _ hlen, obn_s rfl]
 | false =>
  simp only [sepT, cond_false, List.length_singleton] at hlen'
  rw [cnd_tt (p := !false) rfl, chk_inA (by omega), chk_u8 (by decide) (by decide), bnd_s, e44]
  cases hm : decide (c.fKind = 6) with
  | true =>
   rw [hm] at hk
   cases k with
   | none => simp [keyOk] at hk
   | some s =>
    obtain ⟨e1, e2⟩ := hkey s rfl
    subst e1
    simp only [ktx, List.length_append, List.length_singleton] at hlen'
    have h1 : ((l ++ [44]) ++ quoS key).length ≤ 140737488355328 := by simp only [List.length_append, List.length_singleton]; omega
    have e : (((l ++ [44]) ++ quoS key) ++ [58]) ++ tx = l ++ (sepT false ++ ktx (some key) ++ tx) := cat4 _ _ _ _ _
    rw [← e] at hlen ⊢
    rw [cnd_tt rfl, vQuote_eq e2 h1, obn_s rfl, chk_inA (by simp only [List.length_append, List.length_singleton]; omega), chk_u8 (by decide) (by decide), bnd_s, e58, hw _ hlen, obn_s rfl]
  | false =>
   rw [hm] at hk
   cases k with
   | some s => simp [keyOk] at hk
   | none =>
    have e : (l ++ [44]) ++ tx = l ++ (sepT false ++ ktx none ++ tx) := cat2 _ _ _
    rw [← e] at hlen ⊢
    rw [cnd_ff rfl, hw _ hlen, obn_s rfl]
section
variable {M : Nat}
theorem vPart_body {F : Nat} {v : List TApiCell} {c : TApiCell} {at_ x : Int} {first : Bool} {l l2 : Str} {k last : Option Str} {f1 : Fo} {ys : List TApiCell} (hA : CkA M v) (hF : M < F) (hpc : at' v 0 = c) (hx : x < c.fN) (hx0 : 0 ≤ x) (hcN : c.fN ≤ 9223372036854775807) (h0 : 0 ≤ at_) (hk : keyOk (decide (c.fKind = 6)) last k = true)
  (hd : v.drop at_.toNat = keyC k ++ (f1.flat ++ ys)) (h1 : f1.one = true) (hw : f1.wf false none = true) (hr : ∀ key, (∀ s, k = some s → key = s) → vWriteF F key f1.flat first l c = some (true, false, l2)) :
  vWriteP_b1 F v c (vWriteF F) at_ x first l = some (.next (at_ + (keyC k).length + f1.flat.length, x + 1, false, l2)) := by
 have hM := hA.hM; have hvM := hA.hv
 have hd1 := drop_app h0 hd
 have hkl := key_len hk
 have hfl := one_flat h1
 have hll : (v.drop (at_ + (keyC k).length).toNat).length = f1.flat.length + ys.length := by rw [hd1]; simp
 rw [List.length_drop] at hll
 have hlook : vLook F (v.drop (at_ + (keyC k).length).toNat) = some ((f1.flat.length : Int), f1.sh 0 sh0, true) := look_val ((hA.drop _).lk hF) h1 hw hd1
 have htake : List.take (Int.toNat (at_ + (keyC k).length + (f1.flat.length : Int)) - Int.toNat (at_ + (keyC k).length)) (v.drop (at_ + (keyC k).length).toNat) = f1.flat := by
  rw [hd1, show Int.toNat (at_ + (keyC k).length + (f1.flat.length : Int)) - Int.toNat (at_ + (keyC k).length) = f1.flat.length from by omega, List.take_left]
 have hmono : 0 ≤ at_ + (keyC k).length + f1.flat.length := by omega
 unfold vWriteP_b1
 rw [hpc, cnd_tt (decide_eq_true hx)]
 cases hm : decide (c.fKind = 6) with
 | true =>
  rw [hm] at hk hkl
  cases k with
  | none => simp [keyOk] at hk
  | some s =>
   have e1 : ((keyC (some s)).length : Int) = 1 := rfl
   rw [e1] at hlook htake hll hmono ⊢
   have hats : (at' v at_).fStr = s := by
    have : v.drop at_.toNat = ⟨4, 0, s, 0⟩ :: (f1.flat ++ ys) := by simpa [keyC] using hd
    rw [at_drop h0 this]
   have hin : at_ < v.length := by omega
   rw [cnd_tt rfl, chk_inR h0 hin, chk_i64 (by omega) (by omega), chk_inC (by omega) (by omega), hlook, obn_s rfl, chk_i64 (by omega) (by omega), chk_inC (by omega) (by omega), chk_inC (by omega) (by omega), htake, hats, hr s (fun s' h => by cases h; rfl), obn_s rfl]
   rw [cnd_ff (p := !true) rfl, chk_i64 (by omega) (by omega)]
 | false =>
  rw [hm] at hk hkl
  cases k with
  | some s => simp [keyOk] at hk
  | none =>
   have e1 : ((keyC none).length : Int) = 0 := rfl
   rw [e1, Int.add_zero] at hlook htake hll hmono ⊢
   rw [cnd_ff rfl, chk_inC (by omega) (by omega), hlook, obn_s rfl, chk_i64 (by omega) (by omega), chk_inC (by omega) (by omega), chk_inC (by omega) (by omega), htake, hr [] (fun s' h => by cases h), obn_s rfl]
   rw [cnd_ff (p := !true) rfl, chk_i64 (by omega) (by omega)]
end
end Go.Proofs.YtkalifgebccpcaaDoor

/-
 value.Encode is the reference's. Plain laws.
-/
namespace Go.Proofs.YtkalifgebccpcaaDoor
open Go
set_option linter.unusedVariables false
set_option linter.unusedSimpArgs false
section
variable {M : Nat}
theorem app1_len (l : Str) (c : UInt8) : (l ++ [c]).length = l.length + 1 := by rw [List.length_append, List.length_singleton]
theorem vWrite_brk {F : Nat} {l p : Str} {v : List TApiCell} {c : TApiCell} {rf : Str → (List TApiCell) → Bool → Str → TApiCell → Option (Bool × Bool × Str)} {rp : (List TApiCell) → Bool → Str → TApiCell → Option (Bool × Str)} (hc : at' v 0 = c) (hv : 0 < v.length) (hk : c.fKind = 5 ∨ c.fKind = 6) (hlen : (l ++ brk c p).length ≤ 140737488355328)
  (hp : ∀ l' : Str, l'.length = l.length + 1 → ∃ b, rp v true l' c = some (b, l' ++ p)) : vWritem F rf rp l v = some (l ++ brk c p) := by
 have hbl := brk_len c p
 rw [List.length_append, hbl] at hlen
 have i0 : (0 : Int) < (v.length : Int) := by omega
 unfold vWritem
 rw [chk_inR (Int.le_refl 0) i0, hc, cnd_ff (decide_eq_false (by omega)), cnd_ff (decide_eq_false (by omega)), cnd_ff (decide_eq_false (by omega)), cnd_ff (decide_eq_false (by omega))]
 have b1 : [UInt8.ofNat (Int.toNat (bat ([123, 125] : Str) 0))] = ([123] : Str) := rfl
 have b2 : [UInt8.ofNat (Int.toNat (bat ([123, 125] : Str) 1))] = ([125] : Str) := rfl
 have b3 : [UInt8.ofNat (Int.toNat (bat ([91, 93] : Str) 0))] = ([91] : Str) := rfl
 have b4 : [UInt8.ofNat (Int.toNat (bat ([91, 93] : Str) 1))] = ([93] : Str) := rfl
 have c1 : bat ([123, 125] : Str) 0 = 123 := rfl
 have c2 : bat ([123, 125] : Str) 1 = 125 := rfl
 have c3 : bat ([91, 93] : Str) 0 = 91 := rfl
 have c4 : bat ([91, 93] : Str) 1 = 93 := rfl
 have n2 : (([123, 125] : Str).length : Int) = 2 := rfl
 have n3 : (([91, 93] : Str).length : Int) = 2 := rfl
 cases h6 : decide (c.fKind = 6) with
 | true =>
  obtain ⟨b, hb⟩ := hp _ (app1_len l 123)
  rw [cnd_tt rfl, n2, chk_inR (by decide) (by decide), chk_inA (by omega), b1, b2, c1, c2, chk_u8 (by decide) (by decide), bnd_s, hb, obn_s rfl, chk_inR (by decide) (by decide)]
  have e : ((l ++ [123]) ++ p).length = l.length + 1 + p.length := by rw [List.length_append, app1_len]
  rw [e, chk_inA (by omega), chk_u8 (by decide) (by decide), bnd_s]
  simp [brk, h6]
 | false =>
  obtain ⟨b, hb⟩ := hp _ (app1_len l 91)
  rw [cnd_ff rfl, n3, chk_inR (by decide) (by decide), chk_inA (by omega), b3, b4, c3, c4, chk_u8 (by decide) (by decide), bnd_s, hb, obn_s rfl, chk_inR (by decide) (by decide)]
  have e : ((l ++ [91]) ++ p).length = l.length + 1 + p.length := by rw [List.length_append, app1_len]
  rw [e, chk_inA (by omega), chk_u8 (by decide) (by decide), bnd_s]
  simp [brk, h6]
theorem vWriteP_end {F : Nat} {v : List TApiCell} {c : TApiCell} {at_ x : Int} {first : Bool} {l : Str} {rf : Str → (List TApiCell) → Bool → Str → TApiCell → Option (Bool × Bool × Str)} (hc : at' v 0 = c) (hx : ¬ x < c.fN) : vWriteP_b1 F v c rf at_ x first l = some (.out (.go (first, l))) := by
 unfold vWriteP_b1
 rw [hc, cnd_ff (decide_eq_false hx)]
theorem vWrite_leaf {F : Nat} {l : Str} {c : TApiCell} (hp : pl c = true) (hn : decide (0 < c.fN) = false) (hs : c.fStr.length < F + 2) (hi : inK .i64 c.fInt = true) (hlen : (l ++ leafT c).length ≤ 140737488355328) : vWrite (F + 3) l [c] = some (l ++ leafT c) := by
 rw [vWrite]
 have hat : at' [c] 0 = c := rfl
 have i0 : (0 : Int) < (([c] : List TApiCell).length : Int) := by simp
 have hN : ¬ (0 : Int) < c.fN := by simpa using hn
 by_cases h56 : c.fKind = 5 ∨ c.fKind = 6
 ·have el : leafT c = brk c [] := by
   have k1 : decide (c.fKind = 1) = false := decide_eq_false (by omega)
   have k2 : decide (c.fKind = 2) = false := decide_eq_false (by omega)
   have k3 : decide (c.fKind = 3) = false := decide_eq_false (by omega)
   have k4 : decide (c.fKind = 4) = false := decide_eq_false (by omega)
   unfold leafT brk
   rw [k1, k2, k3, k4]; rfl
  rw [el] at hlen ⊢
  refine vWrite_brk hat (by simp) h56 hlen (fun l' hl' => ⟨true, ?_⟩)
  rw [vWriteP]
  unfold vWritePm
  rw [chk_inR (Int.le_refl 0) i0, obn_s (lop_o (o := .go (true, l')) (vWriteP_end hat hN)), oute_go, List.append_nil]; rfl
 ·unfold vWritem leafT
  unfold leafT at hlen
  rw [chk_inR (Int.le_refl 0) i0, hat]
  cases k1 : decide (c.fKind = 1) with
  | true =>
   rw [k1] at hlen
   simp only [cond_true] at hlen
   rw [cnd_tt rfl, chk_inA (by rw [List.length_append] at hlen; exact hlen), bnd_s]; rfl
  | false =>
  rw [k1] at hlen
  simp only [cond_false] at hlen
  rw [cnd_ff rfl]
  cases k2 : decide (c.fKind = 2) with
  | true =>
   rw [k2] at hlen
   simp only [cond_true] at hlen
   rw [cnd_tt rfl]
   simp [pl, k1, k2] at hp
   simp only [List.length_append] at hlen
   rcases hp.1 with h0 | h1
   ·rw [h0] at hlen ⊢
    have a : at' ([([102, 97, 108, 115, 101] : Str), ([116, 114, 117, 101] : Str)] : List Str) 0 = [102, 97, 108, 115, 101] := rfl
    have hlen2 : l.length + ([102, 97, 108, 115, 101] : Str).length ≤ 140737488355328 := hlen
    rw [chk_inR (by decide) (by decide), a, chk_inA hlen2, bnd_s]; rfl
   ·rw [h1] at hlen ⊢
    have a : at' ([([102, 97, 108, 115, 101] : Str), ([116, 114, 117, 101] : Str)] : List Str) 1 = [116, 114, 117, 101] := rfl
    have hlen2 : l.length + ([116, 114, 117, 101] : Str).length ≤ 140737488355328 := hlen
    rw [chk_inR (by decide) (by decide), a, chk_inA hlen2, bnd_s]; rfl
  | false =>
  rw [k2] at hlen
  simp only [cond_false] at hlen
  rw [cnd_ff rfl]
  cases k3 : decide (c.fKind = 3) with
  | true =>
   rw [k3] at hlen
   simp only [cond_true, List.length_append] at hlen
   rw [cnd_tt rfl, chk_t hi, chk_inA hlen, bnd_s]; rfl
  | false =>
  rw [k3] at hlen
  simp only [cond_false] at hlen
  rw [cnd_ff rfl]
  cases k4 : decide (c.fKind = 4) with
  | true =>
   rw [k4] at hlen
   simp only [cond_true] at hlen
   rw [cnd_tt rfl, vQuote_eq hs hlen, obn_s rfl]; rfl
  | false =>
   exfalso
   simp only [decide_eq_false_iff_not] at k1 k2 k3 k4
   simp [pl, k1, k2, k3, k4, show ¬ c.fKind = 5 by omega, show ¬ c.fKind = 6 by omega] at hp
theorem CkA.mem {v : List TApiCell} (hA : CkA M v) {p : Int} {a b : List TApiCell} (h : v.drop p.toNat = a ++ b) : CkA M a := by
 have := (hA.drop p.toNat).take a.length
 rwa [h, List.take_left] at this
theorem vWrite_forest : ∀ (g : Fo) (v : List TApiCell) (c : TApiCell) (F L : Nat) (at_ x : Int) (first : Bool) (l : Str) (m : Bool) (last : Option Str) (ys : List TApiCell), CkA M v → at' v 0 = c → decide (c.fKind = 6) = m → c.fN ≤ 9223372036854775807 → g.wf m last = true → v.drop at_.toNat = g.flat ++ ys → 0 ≤ at_ → c.fN = x + g.cnt → 0 ≤ x → (l ++ g.txt first).length ≤ 140737488355328 → g.cnt < L → M + 5 + 3 * g.flat.length < F →
  ∃ o b, lop (fun σ => vWriteP_b1 F v c (vWriteF F) σ.1 σ.2.1 σ.2.2.1 σ.2.2.2) L (at_, x, first, l) = some o ∧ oute (fun ν => vWriteP_k1 ν.1 ν.2) o = some (b, l ++ g.txt first) := by
 intro g
 induction g with
 | nil =>
  intro v c F L at_ x first l m last ys hA hpc hm hcN hw hd h0 hN hx hlen hL hF
  obtain ⟨L, rfl⟩ : ∃ K, L = K + 1 := ⟨L - 1, by omega⟩
  simp only [Fo.cnt] at hN
  have hx' : ¬ x < c.fN := by omega
  refine ⟨.go (first, l), first, lop_o (vWriteP_end hpc hx'), ?_⟩
  rw [oute_go, Fo.txt, List.append_nil]; rfl
 | cell k cc r ih =>
  intro v c F L at_ x first l m last ys hA hpc hm hcN hw hd h0 hN hx hlen hL hF
  simp only [Fo.wf, Bool.and_eq_true, Bool.not_eq_true'] at hw
  obtain ⟨⟨⟨w1, w2⟩, w3⟩, w4⟩ := hw
  have hd2 : v.drop at_.toNat = keyC k ++ ((Fo.cell none cc .nil).flat ++ (r.flat ++ ys)) := by rw [hd]; simp [Fo.flat, keyC]
  have hd1 := drop_app h0 hd2
  simp only [Fo.cnt] at hN hL
  simp only [Fo.flat, List.length_append, List.length_cons] at hF
  obtain ⟨L, rfl⟩ : ∃ K, L = K + 1 := ⟨L - 1, by omega⟩
  obtain ⟨F, rfl⟩ : ∃ K, F = K + 4 := ⟨F - 4, by omega⟩
  have hAe := hA.mem hd1
  have hcM := hAe.hc cc (by simp [Fo.flat, keyC])
  have e : l ++ (Fo.cell k cc r).txt first = (l ++ (sepT first ++ ktx k ++ leafT cc)) ++ r.txt false := by simp [Fo.txt]
  rw [e] at hlen ⊢
  have hl2 : (l ++ (sepT first ++ ktx k ++ leafT cc)).length ≤ 140737488355328 := by rw [List.length_append] at hlen; omega
  have hb := vPart_body (F := F + 4) (last := last) hA (by omega) hpc (by omega) hx hcN h0 (by rw [hm]; exact w1) hd2 rfl (wf_leaf w2 w3) (first := first) (l := l) (fun key hkey =>
   vWriteF_eq (last := last) (by rw [hm]; exact w1) (fun s hs => ⟨hkey s hs, by
    have hM := hA.hM
    subst hs
    have := (hA.hc ⟨4, 0, s, 0⟩ (List.mem_of_mem_drop (by rw [hd2]; simp [keyC]))).1
    simp only at this; omega⟩) hl2 (fun l' hl' => vWrite_leaf (F := F) w2 w3 (by omega) hcM.2.1 hl'))
  obtain ⟨o, b, ho1, ho2⟩ := ih v c (F + 4) L (at_ + (keyC k).length + ((Fo.cell none cc .nil).flat.length : Int)) (x + 1) false (l ++ (sepT first ++ ktx k ++ leafT cc)) m k ys hA hpc hm hcN w4 (drop_app (by omega) hd1) (by omega) (by omega) (by omega) hlen (by omega) (by omega)
  exact ⟨o, b, lop_n hb ho1, ho2⟩
 | node k cc kids r ihk ih =>
  intro v c F L at_ x first l m last ys hA hpc hm hcN hw hd h0 hN hx hlen hL hF
  simp only [Fo.wf, Bool.and_eq_true, decide_eq_true_eq] at hw
  obtain ⟨⟨⟨⟨⟨w1, w2⟩, w3⟩, w5⟩, w6⟩, w4⟩ := hw
  have hd2 : v.drop at_.toNat = keyC k ++ ((Fo.node none cc kids .nil).flat ++ (r.flat ++ ys)) := by rw [hd]; simp [Fo.flat, keyC]
  have hd1 := drop_app h0 hd2
  simp only [Fo.cnt] at hN hL
  simp only [Fo.flat, List.length_append, List.length_cons] at hF
  obtain ⟨L, rfl⟩ : ∃ K, L = K + 1 := ⟨L - 1, by omega⟩
  obtain ⟨F, rfl⟩ : ∃ K, F = K + 3 := ⟨F - 3, by omega⟩
  have hAe := hA.mem hd1
  have hfl : (Fo.node none cc kids .nil).flat = cc :: kids.flat := by simp [Fo.flat, keyC]
  have hcM := hAe.hc cc (by rw [hfl]; simp)
  have hcf := cnt_le_flat kids
  have e : l ++ (Fo.node k cc kids r).txt first = (l ++ (sepT first ++ ktx k ++ brk cc (kids.txt true))) ++ r.txt false := by simp [Fo.txt]
  rw [e] at hlen ⊢
  have hl2 : (l ++ (sepT first ++ ktx k ++ brk cc (kids.txt true))).length ≤ 140737488355328 := by rw [List.length_append] at hlen; omega
  have hb := vPart_body (F := F + 3) (last := last) hA (by omega) hpc (by omega) hx hcN h0 (by rw [hm]; exact w1) hd2 rfl (wf_node w2 w3 w5 w6) (first := first) (l := l) (fun key hkey =>
   vWriteF_eq (last := last) (by rw [hm]; exact w1) (fun s hs => ⟨hkey s hs, by
    have hM := hA.hM
    subst hs
    have := (hA.hc ⟨4, 0, s, 0⟩ (List.mem_of_mem_drop (by rw [hd2]; simp [keyC]))).1
    simp only at this; omega⟩) hl2 (fun l' hl' => by
     rw [vWrite]
     have hat : at' (Fo.node none cc kids .nil).flat 0 = cc := by rw [hfl]; rfl
     have hlen0 : 0 < (Fo.node none cc kids .nil).flat.length := by rw [hfl]; simp
     have hbl := brk_len cc (kids.txt true)
     rw [List.length_append, hbl] at hl'
     have hb : ∀ l2 : Str, l2.length = l'.length + 1 → ∃ b, vWriteP (F + 1) (Fo.node none cc kids .nil).flat true l2 cc = some (b, l2 ++ kids.txt true) := fun l2 hl2' => by
       rw [vWriteP]
       unfold vWritePm
       have i0 : (0 : Int) < ((Fo.node none cc kids .nil).flat.length : Int) := by omega
       obtain ⟨o, b, ho1, ho2⟩ := ihk (Fo.node none cc kids .nil).flat cc F F 1 0 true l2 _ none [] hAe hat rfl hcM.2.2 w6 (by rw [hfl]; simp) (by decide) (by omega) (Int.le_refl 0) (by rw [List.length_append]; omega) (by omega) (by omega)
       exact ⟨b, by rw [chk_inR (Int.le_refl 0) i0, obn_s ho1, ho2]⟩
     exact vWrite_brk hat hlen0 (pl_node w2 w3).1 (by rw [List.length_append, hbl]; exact hl') hb))
  obtain ⟨o, b, ho1, ho2⟩ := ih v c (F + 3) L (at_ + (keyC k).length + ((Fo.node none cc kids .nil).flat.length : Int)) (x + 1) false (l ++ (sepT first ++ ktx k ++ brk cc (kids.txt true))) m k ys hA hpc hm hcN w4 (drop_app (by omega) hd1) (by omega) (by omega) (by omega) hlen (by omega) (by omega)
  exact ⟨o, b, lop_n hb ho1, ho2⟩
theorem vWrite_eq {f : Fo} {F : Nat} {l : Str} (hA : CkA M f.flat) (h1 : f.one = true) (hw : f.wf false none = true) (hF : M + 8 + 3 * f.flat.length < F) (hlen : (l ++ f.txt true).length ≤ 140737488355328) : vWrite F l f.flat = some (l ++ f.txt true) := by
 have hM := hA.hM; have hvM := hA.hv
 cases f with
 | nil => cases h1
 | cell k c r =>
  cases k with
  | some s => cases h1
  | none =>
   cases r with
   | nil =>
    simp only [Fo.wf, Bool.and_eq_true, Bool.not_eq_true'] at hw
    have hfl : (Fo.cell none c .nil).flat = [c] := by simp [Fo.flat, keyC]
    have hcM := hA.hc c (by rw [hfl]; simp)
    have et : (Fo.cell none c .nil).txt true = leafT c := by simp [Fo.txt, sepT, ktx]
    rw [et] at hlen ⊢
    obtain ⟨F, rfl⟩ : ∃ K, F = K + 3 := ⟨F - 3, by omega⟩
    rw [hfl]
    exact vWrite_leaf hw.1.1.2 hw.1.2 (by omega) hcM.2.1 hlen
   | cell _ _ _ => cases h1
   | node _ _ _ _ => cases h1
 | node k c kids r =>
  cases k with
  | some s => cases h1
  | none =>
   cases r with
   | nil =>
    simp only [Fo.wf, Bool.and_eq_true, decide_eq_true_eq] at hw
    obtain ⟨⟨⟨⟨⟨w1, w2⟩, w3⟩, w5⟩, w6⟩, w4⟩ := hw
    have hfl : (Fo.node none c kids .nil).flat = c :: kids.flat := by simp [Fo.flat, keyC]
    have hcM := hA.hc c (by rw [hfl]; simp)
    have et : (Fo.node none c kids .nil).txt true = brk c (kids.txt true) := by simp [Fo.txt, sepT, ktx]
    rw [et] at hlen ⊢
    have hcf := cnt_le_flat kids
    have hat : at' (Fo.node none c kids .nil).flat 0 = c := by rw [hfl]; rfl
    have hlen0 : 0 < (Fo.node none c kids .nil).flat.length := by rw [hfl]; simp
    have hl1 : (Fo.node none c kids .nil).flat.length = kids.flat.length + 1 := by rw [hfl]; simp
    have hbl := brk_len c (kids.txt true)
    obtain ⟨F, rfl⟩ : ∃ K, F = K + 2 := ⟨F - 2, by omega⟩
    rw [vWrite]
    refine vWrite_brk hat hlen0 (pl_node w2 w3).1 hlen (fun l2 hl2 => ?_)
    rw [List.length_append, hbl] at hlen
    rw [vWriteP]
    unfold vWritePm
    have i0 : (0 : Int) < ((Fo.node none c kids .nil).flat.length : Int) := by omega
    obtain ⟨o, b, ho1, ho2⟩ := vWrite_forest kids (Fo.node none c kids .nil).flat c F F 1 0 true l2 _ none [] hA hat rfl hcM.2.2 w6 (by rw [hfl]; simp) (by decide) (by omega) (Int.le_refl 0) (by rw [List.length_append]; omega) (by omega) (by omega)
    exact ⟨b, by rw [chk_inR (Int.le_refl 0) i0, obn_s ho1, ho2]⟩
   | cell _ _ _ => cases h1
   | node _ _ _ _ => cases h1
def encV (v : List TApiCell) : Str × Int := match whole v with
 | none => ([], 1)
 | some f => bif decide (errF f = 0) then (f.txt true, 0) else ([], errF f)
theorem itoa_ne (n : Int) : Lib.itoa n ≠ [] := by
 unfold Lib.itoa
 split
 ·simp
 ·intro h
  have := congrArg List.length h
  rw [Lib.decDigits_length] at this
  have := Lib.nDigits_pos n.toNat
  simp at *; omega
theorem txt_pos {f : Fo} (hw : f.wf false none = true) (h1 : f.one = true) : 0 < (f.txt true).length := by
 have e := txt_len f false none true hw
 cases f with
 | nil => cases h1
 | cell k c r =>
  have h2 := byt_pos hw
  simp only [Fo.txt, List.length_append]
  simp only [Fo.wf, Bool.and_eq_true] at hw
  have hp := hw.1.1.2
  have : 0 < (leafT c).length := by
   have hl := leafT_len hp
   have : 0 < lsz c := by
    unfold lsz
    cases h1 : decide (c.fKind = 1) with
    | true => simp
    | false =>
     cases h2 : decide (c.fKind = 2) with
     | true =>
      simp [pl, h1, h2] at hp
      simp only [cond_false, cond_true]; omega
     | false =>
      cases h3 : decide (c.fKind = 3) with
      | true =>
       simp only [cond_false, cond_true]
       have : Lib.itoa c.fInt ≠ [] := itoa_ne _
       have := List.length_pos_iff.2 this
       omega
      | false =>
       cases h4 : decide (c.fKind = 4) with
       | true => have := qlen_pos c.fStr; simp only [cond_false, cond_true]; omega
       | false => simp
   omega
  omega
 | node k c kids r =>
  have := brk_len c (kids.txt true)
  simp only [Fo.txt, List.length_append]; omega
theorem vEncode_eq {v : List TApiCell} (hA : CkA M v) (hM : M ≤ 1000000) {F : Nat} (hF : 4 * M + 8 < F) : vEncode F v = some (encV v) := by
 have hvM := hA.hv
 unfold vEncode encV
 rw [vCheck_eq hA hM (by omega), obn_s rfl]
 unfold errV
 cases hwh : whole v with
 | none => rfl
 | some f =>
  change cnd (!decide (errF f = 0)) _ _ = some (bif decide (errF f = 0) then (f.txt true, 0) else ([], errF f))
  cases he : decide (errF f = 0) with
  | false => rw [cnd_tt (p := !false) rfl]; rfl
  | true =>
   obtain ⟨h1, h2, h3⟩ := whole_some hwh
   have hl : v.length = f.flat.length := by rw [h1]
   have hc : ∀ c ∈ f.flat, c.fStr.length ≤ M ∧ inK .i64 c.fInt = true ∧ c.fN ≤ 9223372036854775807 := fun c hc => hA.hc c (by rw [h1]; exact hc)
   have hb := byt_bound hM h2 (by omega) hc
   have htl : ((f.txt true).length : Int) = f.byt := by rw [txt_len f false none true h2, one_cnt h3]; simp
   have hA' : CkA M f.flat := by rw [← h1]; exact hA
   have hw := vWrite_eq (F := F) (l := []) hA' h3 h2 (by omega) (by rw [List.nil_append]; omega)
   rw [cnd_ff (p := !true) rfl, h1, hw, obn_s rfl, List.nil_append, chk_t (decide_eq_true (txt_pos h2 h3))]; rfl
end
end Go.Proofs.YtkalifgebccpcaaDoor

/-
 Texts of values: a plain reader of bytes. Plain definitions and laws.
-/
namespace Go.Proofs.YtkalifgebccpcaaDoor
open Go
set_option linter.unusedVariables false
set_option linter.unusedSimpArgs false
def pre : Str → Str → Option Str
 | [], s => some s
 | c :: w, d :: s => bif decide (c = d) then pre w s else none
 | _ :: _, [] => none
def strP (strict : Bool) : Str → Option (Str × Str)
 | [] => none
 | c :: r =>
  bif decide (c = 34) then some ([], r) else
  bif strict && !okc c then none else
  bif decide (c = 92) then (match r with
   | [] => none
   | d :: r' => bif decide (d = 34) || decide (d = 92) then (match strP strict r' with
    | none => none
    | some (t, u) => some (d :: t, u)) else none)
  else (match strP strict r with
   | none => none
   | some (t, u) => some (c :: t, u))
def isDig (c : UInt8) : Bool := decide (48 ≤ c.toNat) && decide (c.toNat ≤ 57)
def digP : Str → Str × Str
 | [] => ([], [])
 | c :: r => bif isDig c then (c :: (digP r).1, (digP r).2) else ([], c :: r)
def numD (d : Str) : Int := d.foldl (fun n c => 10 * n + ((c.toNat : Int) - 48)) 0
def intV (neg : Bool) (d : Str) : Int :=
 bif decide (18 < d.length) then (bif neg then -2000000000000 else 2000000000000) else bif neg then -(numD d) else numD d
def canon (neg : Bool) (d : Str) : Bool := !decide (d = []) && !(decide (d.head? = some 48) && (decide (1 < d.length) || neg))
def intP (s : Str) : Option (Fo × Str) :=
 let neg := decide (s.head? = some 45)
 let r := bif neg then s.tail else s
 bif canon neg (digP r).1 then some (.cell none ⟨3, intV neg (digP r).1, [], 0⟩ .nil, (digP r).2) else none
def lf (k i : Int) (t : Str) : Fo := .cell none ⟨k, i, t, 0⟩ .nil
def nd (m : Bool) (g : Fo) : Fo := bif decide (g.cnt = 0) then .cell none ⟨bif m then 6 else 5, 0, [], 0⟩ .nil else .node none ⟨bif m then 6 else 5, 0, [], (g.cnt : Int)⟩ g .nil
def closeC (m : Bool) : UInt8 := bif m then 125 else 93
def keyP (strict m : Bool) (last : Option Str) (s : Str) : Option (Option Str × Str) :=
 bif m then (match s with
  | [] => none
  | c :: r => bif decide (c = 34) then (match strP strict r with
   | none => none
   | some (k, u) => bif strict && !keyOk true last (some k) then none else (match u with
    | [] => none
    | d :: u' => bif decide (d = 58) then some (some k, u') else none)) else none)
 else some (none, s)
mutual
def par (strict : Bool) : Nat → Str → Option (Fo × Str)
 | 0, _ => none
 | F + 1, s =>
  match pre [110, 117, 108, 108] s with
  | some r => some (lf 1 0 [], r)
  | none => match pre [116, 114, 117, 101] s with
   | some r => some (lf 2 1 [], r)
   | none => match pre [102, 97, 108, 115, 101] s with
    | some r => some (lf 2 0 [], r)
    | none => match s with
     | [] => none
     | c :: r =>
      bif decide (c = 34) then (match strP strict r with
       | none => none
       | some (t, u) => some (lf 4 0 t, u)) else
      bif decide (c = 91) || decide (c = 123) then (match r with
       | [] => none
       | d :: r' => bif decide (d = closeC (decide (c = 123))) then some (nd (decide (c = 123)) .nil, r') else (match parL strict F (decide (c = 123)) none (d :: r') with
        | none => none
        | some (g, u) => some (nd (decide (c = 123)) g, u))) else
      intP (c :: r)
def parL (strict : Bool) : Nat → Bool → Option Str → Str → Option (Fo × Str)
 | 0, _, _, _ => none
 | F + 1, m, last, s =>
  match keyP strict m last s with
  | none => none
  | some (key, s1) => match par strict F s1 with
   | none => none
   | some (f, s2) => match s2 with
    | [] => none
    | c :: s3 =>
     bif decide (c = closeC m) then some (f.put key .nil, s3) else
     bif decide (c = 44) then (match parL strict F m key s3 with
      | none => none
      | some (g, u) => some (f.put key g, u)) else none
end
theorem par_succ (strict : Bool) (F : Nat) (s : Str) : par strict (F + 1) s =
  match pre [110, 117, 108, 108] s with
  | some r => some (lf 1 0 [], r)
  | none => match pre [116, 114, 117, 101] s with
   | some r => some (lf 2 1 [], r)
   | none => match pre [102, 97, 108, 115, 101] s with
    | some r => some (lf 2 0 [], r)
    | none => match s with
     | [] => none
     | c :: r =>
      bif decide (c = 34) then (match strP strict r with
       | none => none
       | some (t, u) => some (lf 4 0 t, u)) else
      bif decide (c = 91) || decide (c = 123) then (match r with
       | [] => none
       | d :: r' => bif decide (d = closeC (decide (c = 123))) then some (nd (decide (c = 123)) .nil, r') else (match parL strict F (decide (c = 123)) none (d :: r') with
        | none => none
        | some (g, u) => some (nd (decide (c = 123)) g, u))) else
      intP (c :: r) := by
 rw [par.eq_def]
theorem parL_succ (strict : Bool) (F : Nat) (m : Bool) (last : Option Str) (s : Str) : parL strict (F + 1) m last s =
  match keyP strict m last s with
  | none => none
  | some (key, s1) => match par strict F s1 with
   | none => none
   | some (f, s2) => match s2 with
    | [] => none
    | c :: s3 =>
     bif decide (c = closeC m) then some (f.put key .nil, s3) else
     bif decide (c = 44) then (match parL strict F m key s3 with
      | none => none
      | some (g, u) => some (f.put key g, u)) else none := by
 rw [parL.eq_def]
theorem pre_len : ∀ {w s r : Str}, pre w s = some r → s = w ++ r
 | [], s, r, h => by cases h; rfl
 | c :: w, [], r, h => by cases h
 | c :: w, d :: s, r, h => by
  rw [pre] at h
  cases hc : decide (c = d) with
  | false => rw [hc] at h; cases h
  | true =>
   rw [hc] at h
   simp only [decide_eq_true_eq] at hc
   rw [hc, pre_len h]; rfl
theorem strP_cons (b : Bool) (c : UInt8) (r : Str) : strP b (c :: r) =
  bif decide (c = 34) then some ([], r) else
  bif b && !okc c then none else
  bif decide (c = 92) then (match r with
   | [] => none
   | d :: r' => bif decide (d = 34) || decide (d = 92) then (match strP b r' with
    | none => none
    | some (t, u) => some (d :: t, u)) else none)
  else (match strP b r with
   | none => none
   | some (t, u) => some (c :: t, u)) := by
 rw [strP.eq_def]
 cases r <;> rfl
theorem strP_len (b : Bool) : ∀ (n : Nat) (s t u : Str), s.length = n → strP b s = some (t, u) → u.length < s.length := by
 intro n
 induction n using Nat.strongRecOn with
 | ind n ih =>
  intro s t u hn h
  cases s with
  | nil => cases h
  | cons c r =>
   simp only [List.length_cons] at hn ⊢
   rw [strP_cons] at h
   cases h1 : decide (c = 34) with
   | true => rw [h1] at h; cases h; omega
   | false =>
    rw [h1] at h
    simp only [cond_false] at h
    cases h2 : (b && !okc c) with
    | true => rw [h2] at h; cases h
    | false =>
     rw [h2] at h
     simp only [cond_false] at h
     cases h3 : decide (c = 92) with
     | true =>
      rw [h3] at h
      cases r with
      | nil => cases h
      | cons d r' =>
       simp only [cond_true] at h
       cases h4 : (decide (d = 34) || decide (d = 92)) with
       | false => rw [h4] at h; cases h
       | true =>
        rw [h4] at h
        simp only [cond_true] at h
        cases h5 : strP b r' with
        | none => rw [h5] at h; cases h
        | some q =>
         obtain ⟨t', u'⟩ := q
         rw [h5] at h; cases h
         simp only [List.length_cons] at hn ⊢
         have := ih r'.length (by omega) r' t' u rfl h5
         omega
     | false =>
      rw [h3] at h
      simp only [cond_false] at h
      cases h5 : strP b r with
      | none => rw [h5] at h; cases h
      | some q =>
       obtain ⟨t', u'⟩ := q
       rw [h5] at h; cases h
       have := ih r.length (by omega) r t' u rfl h5
       omega
theorem digP_eq : ∀ s : Str, s = (digP s).1 ++ (digP s).2
 | [] => rfl
 | c :: r => by
  have := digP_eq r
  rw [digP]
  cases isDig c with
  | true => simp only [cond_true, List.cons_append]; rw [← this]
  | false => rfl
theorem intP_len {s u : Str} {f : Fo} (h : intP s = some (f, u)) : u.length < s.length := by
 unfold intP at h
 simp only at h
 cases hc : canon (decide (s.head? = some 45)) (digP (bif decide (s.head? = some 45) then s.tail else s)).1 with
 | false => rw [hc] at h; cases h
 | true =>
  rw [hc] at h
  simp only [cond_true, Option.some.injEq, Prod.mk.injEq] at h
  obtain ⟨_, h⟩ := h
  have e := congrArg List.length (digP_eq (bif decide (s.head? = some 45) then s.tail else s))
  rw [List.length_append, h] at e
  have h1 : 0 < (digP (bif decide (s.head? = some 45) then s.tail else s)).1.length := by
   unfold canon at hc
   simp only [Bool.and_eq_true, Bool.not_eq_true', decide_eq_false_iff_not] at hc
   exact List.length_pos_iff.2 hc.1
  have h2 : (bif decide (s.head? = some 45) then s.tail else s).length ≤ s.length := by
   cases decide (s.head? = some 45) <;> simp
  omega
theorem keyP_len {b m : Bool} {last key : Option Str} {s u : Str} (h : keyP b m last s = some (key, u)) : u.length ≤ s.length := by
 unfold keyP at h
 cases m with
 | false => cases h; exact Nat.le_refl _
 | true =>
  simp only [cond_true] at h
  cases s with
  | nil => cases h
  | cons c r =>
   simp only at h
   cases h1 : decide (c = 34) with
   | false => rw [h1] at h; cases h
   | true =>
    rw [h1] at h
    simp only [cond_true] at h
    cases h2 : strP b r with
    | none => rw [h2] at h; cases h
    | some q =>
     obtain ⟨k, w⟩ := q
     have := strP_len b _ r k w rfl h2
     rw [h2] at h
     simp only at h
     cases h3 : (b && !keyOk true last (some k)) with
     | true => rw [h3] at h; cases h
     | false =>
      rw [h3] at h
      simp only [cond_false] at h
      cases w with
      | nil => cases h
      | cons d w' =>
       simp only at h
       cases h4 : decide (d = 58) with
       | false => rw [h4] at h; cases h
       | true => rw [h4] at h; cases h; simp only [List.length_cons] at this ⊢; omega
end Go.Proofs.YtkalifgebccpcaaDoor

/-
 The plain reader of bytes: what it leaves is shorter; numbers. Plain laws.
-/
namespace Go.Proofs.YtkalifgebccpcaaDoor
open Go
set_option linter.unusedVariables false
set_option linter.unusedSimpArgs false
theorem nd_one (m : Bool) (g : Fo) : (nd m g).one = true := by
 unfold nd
 cases decide (g.cnt = 0) <;> rfl
theorem intP_one {s u : Str} {f : Fo} (h : intP s = some (f, u)) : f.one = true := by
 unfold intP at h
 simp only at h
 cases hc : canon (decide (s.head? = some 45)) (digP (bif decide (s.head? = some 45) then s.tail else s)).1 with
 | false => rw [hc] at h; cases h
 | true => rw [hc] at h; cases h; rfl
theorem par_len (b : Bool) : ∀ F : Nat, (∀ s f u, par b F s = some (f, u) → u.length < s.length ∧ f.one = true) ∧ (∀ m last s g u, parL b F m last s = some (g, u) → u.length < s.length ∧ 1 ≤ g.cnt)
 | 0 => ⟨(fun s f u h => by rw [par.eq_def] at h; cases h), (fun m last s g u h => by rw [parL.eq_def] at h; cases h)⟩
 | F + 1 => by
  obtain ⟨ih1, ih2⟩ := par_len b F
  constructor
  ·intro s f u h
   rw [par_succ] at h
   cases h1 : pre [110, 117, 108, 108] s with
   | some r => rw [h1] at h; cases h; rw [pre_len h1]; exact ⟨by simp; omega, rfl⟩
   | none =>
   rw [h1] at h; simp only at h
   cases h2 : pre [116, 114, 117, 101] s with
   | some r => rw [h2] at h; cases h; rw [pre_len h2]; exact ⟨by simp; omega, rfl⟩
   | none =>
   rw [h2] at h; simp only at h
   cases h3 : pre [102, 97, 108, 115, 101] s with
   | some r => rw [h3] at h; cases h; rw [pre_len h3]; exact ⟨by simp; omega, rfl⟩
   | none =>
   rw [h3] at h; simp only at h
   cases s with
   | nil => cases h
   | cons c r =>
   simp only at h
   cases h4 : decide (c = 34) with
   | true =>
    rw [h4] at h; simp only [cond_true] at h
    cases h5 : strP b r with
    | none => rw [h5] at h; cases h
    | some q =>
     obtain ⟨t, w⟩ := q
     rw [h5] at h; cases h
     have := strP_len b _ r t u rfl h5
     exact ⟨by simp only [List.length_cons]; omega, rfl⟩
   | false =>
   rw [h4] at h; simp only [cond_false] at h
   cases h5 : (decide (c = 91) || decide (c = 123)) with
   | false => rw [h5] at h; simp only [cond_false] at h; exact ⟨intP_len h, intP_one h⟩
   | true =>
   rw [h5] at h; simp only [cond_true] at h
   cases r with
   | nil => cases h
   | cons d r' =>
   simp only at h
   cases h6 : decide (d = closeC (decide (c = 123))) with
   | true => rw [h6] at h; cases h; exact ⟨by simp only [List.length_cons]; omega, nd_one _ _⟩
   | false =>
   rw [h6] at h; simp only [cond_false] at h
   cases h7 : parL b F (decide (c = 123)) none (d :: r') with
   | none => rw [h7] at h; cases h
   | some q =>
    obtain ⟨g, w⟩ := q
    rw [h7] at h; cases h
    have := (ih2 _ _ _ _ _ h7).1
    exact ⟨by simp only [List.length_cons] at this ⊢; omega, nd_one _ _⟩
  ·intro m last s g u h
   rw [parL_succ] at h
   cases h1 : keyP b m last s with
   | none => rw [h1] at h; cases h
   | some q =>
   obtain ⟨key, s1⟩ := q
   have l1 := keyP_len h1
   rw [h1] at h; simp only at h
   cases h2 : par b F s1 with
   | none => rw [h2] at h; cases h
   | some q =>
   obtain ⟨f, s2⟩ := q
   obtain ⟨l2, o2⟩ := ih1 _ _ _ h2
   rw [h2] at h; simp only at h
   cases s2 with
   | nil => cases h
   | cons c s3 =>
   simp only [List.length_cons] at l2
   have hput : ∀ r : Fo, 1 ≤ (f.put key r).cnt := fun r => by
    cases f with
    | nil => cases o2
    | cell _ _ _ => simp [Fo.put, Fo.cnt]
    | node _ _ _ _ => simp [Fo.put, Fo.cnt]
   simp only at h
   cases h3 : decide (c = closeC m) with
   | true => rw [h3] at h; cases h; exact ⟨by omega, hput _⟩
   | false =>
   rw [h3] at h; simp only [cond_false] at h
   cases h4 : decide (c = 44) with
   | false => rw [h4] at h; cases h
   | true =>
   rw [h4] at h; simp only [cond_true] at h
   cases h5 : parL b F m key s3 with
   | none => rw [h5] at h; cases h
   | some q =>
    obtain ⟨g', w⟩ := q
    rw [h5] at h; cases h
    have := (ih2 _ _ _ _ _ h5).1
    exact ⟨by omega, hput _⟩
/-! ### numbers -/
def natF (acc : Nat) (d : Str) : Nat := d.foldl (fun n c => 10 * n + (c.toNat - 48)) acc
theorem natF_mono : ∀ (d : Str) (a : Nat), a ≤ natF a d
 | [], a => Nat.le_refl _
 | c :: d, a => by
  have := natF_mono d (10 * a + (c.toNat - 48))
  show a ≤ natF (10 * a + (c.toNat - 48)) d
  omega
theorem natF_pow : ∀ (d : Str) (a : Nat), 1 ≤ a → 10 ^ d.length ≤ natF a d
 | [], a, h => by simpa [natF] using h
 | c :: d, a, h => by
  have hm : ∀ (d : Str) (a b : Nat), a ≤ b → natF a d ≤ natF b d := by
   intro d
   induction d with
   | nil => intro a b h; exact h
   | cons c d ih => intro a b h; show natF (10 * a + (c.toNat - 48)) d ≤ natF (10 * b + (c.toNat - 48)) d; exact ih _ _ (by omega)
  have hs : ∀ (d : Str) (a : Nat), 10 ^ d.length * a ≤ natF a d := by
   intro d
   induction d with
   | nil => intro a; simp [natF]
   | cons c d ih =>
    intro a
    have := ih (10 * a + (c.toNat - 48))
    show 10 ^ (d.length + 1) * a ≤ natF (10 * a + (c.toNat - 48)) d
    refine Nat.le_trans ?_ this
    rw [Nat.pow_succ, Nat.mul_assoc]
    exact Nat.mul_le_mul_left _ (by omega)
  exact Nat.le_trans (Nat.le_mul_of_pos_right _ h) (hs (c :: d) a)
theorem numD_nat : ∀ (d : Str) (a : Nat), d.all isDig = true → d.foldl (fun n c => 10 * n + ((c.toNat : Int) - 48)) (a : Int) = (natF a d : Int)
 | [], a, _ => rfl
 | c :: d, a, h => by
  simp only [List.all_cons, Bool.and_eq_true] at h
  have hc : 48 ≤ c.toNat := by have := h.1; simp [isDig] at this; omega
  have := numD_nat d (10 * a + (c.toNat - 48)) h.2
  show d.foldl _ (10 * (a : Int) + ((c.toNat : Int) - 48)) = (natF (10 * a + (c.toNat - 48)) d : Int)
  rw [← this]
  congr 1
  omega
theorem parseU : ∀ (d : Str) (a : Nat), d.all isDig = true → Lib.parseUint10 a d = .ok (natF a d) ∨ (Lib.parseUint10 a d = .range ∧ 1000000000000 < natF a d)
 | [], a, _ => .inl rfl
 | c :: d, a, h => by
  simp only [List.all_cons, Bool.and_eq_true] at h
  have hc : 48 ≤ c.toNat ∧ c.toNat ≤ 57 := by have := h.1; simp [isDig] at this; omega
  have hm := natF_mono d (10 * a + (c.toNat - 48))
  have e : natF a (c :: d) = natF (10 * a + (c.toNat - 48)) d := rfl
  rw [e]
  unfold Lib.parseUint10
  rw [if_pos hc]
  split
  ·exact .inr ⟨rfl, by omega⟩
  ·split
   ·exact .inr ⟨rfl, by omega⟩
   ·rw [show a * 10 + (c.toNat - 48) = 10 * a + (c.toNat - 48) from by omega]
    exact parseU d _ h.2
theorem all_digCh : ∀ (d : Str) (i : Nat), allFrom digCh i d = d.all isDig
 | [], _ => rfl
 | c :: d, i => by
  rw [allFrom, List.all_cons, all_digCh d]
  congr 1
  simp only [digCh, isDig]
  rw [Bool.eq_iff_iff]
  simp only [Bool.not_eq_true', Bool.or_eq_false_iff, decide_eq_false_iff_not, Bool.and_eq_true, decide_eq_true_eq]; omega
def txtD (neg : Bool) (d : Str) : Str := bif neg then 45 :: d else d
theorem head_dig {d : Str} (hd : d.all isDig = true) : ¬ d.head? = some 45 := by
 cases d with
 | nil => simp
 | cons c d =>
  simp only [List.all_cons, Bool.and_eq_true] at hd
  have := hd.1
  intro e
  simp only [List.head?_cons, Option.some.injEq] at e
  subst e
  simp [isDig] at this
theorem sgnS_head (s : Str) : sgnS s = decide (s.head? = some 45) := by
 cases s with
 | nil => rfl
 | cons c r =>
  have : bat (c :: r) 0 = c.toNat := bat_get rfl
  unfold sgnS
  rw [this, Bool.eq_iff_iff]
  simp only [Bool.and_eq_true, decide_eq_true_eq, List.head?_cons, Option.some.injEq, ← UInt8.toNat_inj, List.length_cons]
  show _ ∧ (c.toNat : Int) = 45 ↔ c.toNat = 45
  omega
theorem digs_txt {neg : Bool} {d : Str} (hd : d.all isDig = true) : digs (txtD neg d) = d := by
 unfold digs
 rw [sgnS_head]
 cases neg with
 | true => rfl
 | false =>
  have := head_dig hd
  show (if decide (d.head? = some 45) = true then d.drop 1 else d) = d
  rw [if_neg (by simpa using this)]
theorem decS_txt {neg : Bool} {d : Str} (hd : d.all isDig = true) : decS (txtD neg d) = canon neg d := by
 unfold decS canon
 rw [digs_txt hd, all_digCh, hd, Bool.and_true]
 cases d with
 | nil => simp
 | cons c r =>
  have hb : bat (c :: r) 0 = c.toNat := bat_get rfl
  have h1 : decide (c :: r = ([] : Str)) = false := by simp
  have h2 : decide (bat (c :: r) 0 = 48) = decide ((c :: r).head? = some 48) := by
   rw [hb, Bool.eq_iff_iff]
   simp only [decide_eq_true_eq, List.head?_cons, Option.some.injEq, ← UInt8.toNat_inj]
   show (c.toNat : Int) = 48 ↔ c.toNat = 48
   omega
  rw [h1, h2, Bool.false_or, Bool.not_false, Bool.true_and]
  cases h48 : decide ((c :: r).head? = some 48) with
  | false => rfl
  | true =>
   simp only [decide_eq_true_eq, List.head?_cons, Option.some.injEq] at h48
   subst h48
   cases neg with
   | true => simp [txtD]
   | false =>
    cases r with
    | nil => simp [txtD]
    | cons a r => simp [txtD]
theorem atoi_txt {neg : Bool} {d : Str} (hd : d.all isDig = true) (hne : d ≠ []) : Lib.atoiAll (txtD neg d) = (bif neg then Lib.signed (Lib.parseUint10 0 d) else Lib.signless (Lib.parseUint10 0 d)) := by
 cases neg with
 | true =>
  simp only [txtD, cond_true]
  rw [Lib.atoiAll_minus, Lib.parseMag, if_neg hne]
 | false =>
  cases d with
  | nil => exact absurd rfl hne
  | cons c r =>
   have hc := hd
   simp only [List.all_cons, Bool.and_eq_true] at hc
   have hc48 : 48 ≤ c.toNat := by have := hc.1; simp [isDig] at this; omega
   simp only [txtD, cond_false]
   rw [Lib.atoiAll_plain c r (by omega) (by omega), Lib.parseMag, if_neg hne]
theorem parse_txt {neg : Bool} {d : Str} (hd : d.all isDig = true) : (canon neg d = false ∧ parseE (txtD neg d) = 1) ∨ (canon neg d = true ∧ outC ⟨3, intV neg d, [], 0⟩ = false ∧ parseE (txtD neg d) = 0 ∧ parseV (txtD neg d) = intV neg d) ∨ (canon neg d = true ∧ outC ⟨3, intV neg d, [], 0⟩ = true ∧ parseE (txtD neg d) = 2 ∧ parseV (txtD neg d) = 0) := by
 unfold parseE parseV
 rw [decS_txt hd]
 cases hc : canon neg d with
 | false => exact .inl ⟨rfl, rfl⟩
 | true =>
  right
  have hc' := hc
  unfold canon at hc'
  simp only [Bool.and_eq_true, Bool.not_eq_true', decide_eq_false_iff_not] at hc'
  have hne := hc'.1
  rw [if_pos rfl, if_pos rfl, atoi_txt hd hne]
  have hnum : numD d = (natF 0 d : Int) := numD_nat d 0 hd
  -- more than 18 digits: great
  have hbig : 18 < d.length → 1000000000000 < natF 0 d := fun hl => by
   cases d with
   | nil => simp at hl
   | cons c r =>
    have hc1 := hd
    simp only [List.all_cons, Bool.and_eq_true] at hc1
    have h48 : 48 ≤ c.toNat := by have := hc1.1; simp [isDig] at this; omega
    have hne48 : ¬ c = 48 := by
     intro e
     have := hc'.2
     subst e
     simp only [List.length_cons] at hl
     have h1r : 1 < r.length + 1 := by omega
     simp [h1r] at this
    have hc49 : 49 ≤ c.toNat := by
     have : ¬ c.toNat = 48 := fun e => hne48 (UInt8.toNat_inj.1 (by rw [e]; rfl))
     omega
    have := natF_pow r (10 * 0 + (c.toNat - 48)) (by omega)
    have h18 : 10 ^ 18 ≤ 10 ^ r.length := Nat.pow_le_pow_right (by decide) (by simp at hl; omega)
    have e : natF 0 (c :: r) = natF (10 * 0 + (c.toNat - 48)) r := rfl
    rw [e]
    have : (1000000000000 : Nat) < 10 ^ 18 := by decide
    omega
  have hout : outC ⟨3, intV neg d, [], 0⟩ = decide (1000000000000 < natF 0 d) := by
   unfold outC intV
   rw [hnum]
   cases h18 : decide (18 < d.length) with
   | true =>
    simp only [decide_eq_true_eq] at h18
    rw [decide_eq_true (hbig h18)]
    cases neg <;> rfl
   | false =>
    rw [Bool.eq_iff_iff]
    cases neg <;> simp <;> omega
  rw [hout]
  rcases parseU d 0 hd with hu | ⟨hu, hg⟩
  ·rw [hu]
   cases hg : decide (1000000000000 < natF 0 d) with
   | false =>
    simp only [decide_eq_false_iff_not] at hg
    have h18 : decide (18 < d.length) = false := by
     rw [decide_eq_false_iff_not]
     intro h; have := hbig h; omega
    refine .inl ⟨rfl, rfl, ?_, ?_⟩
    ·cases neg with
     | true => simp only [cond_true, Lib.signed]; rw [if_neg (by omega)]; simp only; rw [if_pos (by unfold validS; simp; omega)]
     | false => simp only [cond_false, Lib.signless]; rw [if_neg (by omega)]; simp only; rw [if_pos (by unfold validS; simp; omega)]
    ·unfold intV
     rw [h18, hnum]
     cases neg with
     | true => simp only [cond_true, cond_false, Lib.signed]; rw [if_neg (by omega)]; simp only; rw [if_pos (by unfold validS; simp; omega)]
     | false => simp only [cond_false, Lib.signless]; rw [if_neg (by omega)]; simp only; rw [if_pos (by unfold validS; simp; omega)]
   | true =>
    simp only [decide_eq_true_eq] at hg
    refine .inr ⟨rfl, rfl, ?_, ?_⟩
    ·cases neg with
     | true =>
      simp only [cond_true, Lib.signed]
      by_cases hb : 9223372036854775808 < natF 0 d
      ·rw [if_pos hb]
      ·rw [if_neg hb]; simp only; rw [if_neg (by unfold validS; simp; omega)]
     | false =>
      simp only [cond_false, Lib.signless]
      by_cases hb : 9223372036854775808 ≤ natF 0 d
      ·rw [if_pos hb]
      ·rw [if_neg hb]; simp only; rw [if_neg (by unfold validS; simp; omega)]
    ·cases neg with
     | true =>
      simp only [cond_true, Lib.signed]
      by_cases hb : 9223372036854775808 < natF 0 d
      ·rw [if_pos hb]
      ·rw [if_neg hb]; simp only; rw [if_neg (by unfold validS; simp; omega)]
     | false =>
      simp only [cond_false, Lib.signless]
      by_cases hb : 9223372036854775808 ≤ natF 0 d
      ·rw [if_pos hb]
      ·rw [if_neg hb]; simp only; rw [if_neg (by unfold validS; simp; omega)]
  ·rw [hu, decide_eq_true hg]
   refine .inr ⟨rfl, rfl, ?_, ?_⟩ <;> cases neg <;> rfl
end Go.Proofs.YtkalifgebccpcaaDoor

/-
 value's reader: words, strings, integers, told by the plain reader of bytes. Plain laws.
-/
namespace Go.Proofs.YtkalifgebccpcaaDoor
open Go
set_option linter.unusedVariables false
set_option linter.unusedSimpArgs false
def Suf (u S : Str) : Prop := ∃ p, S = p ++ u
theorem Suf.len {u S : Str} (h : Suf u S) : u.length ≤ S.length := by obtain ⟨p, rfl⟩ := h; simp
theorem Suf.tail {c : UInt8} {r S : Str} (h : Suf (c :: r) S) : Suf r S := by obtain ⟨p, rfl⟩ := h; exact ⟨p ++ [c], by simp⟩
theorem Suf.app {w r S : Str} (h : Suf (w ++ r) S) : Suf r S := by obtain ⟨p, rfl⟩ := h; exact ⟨p ++ w, by simp⟩
theorem Suf.drop {u S : Str} (h : Suf u S) : S.drop (Int.toNat ((S.length : Int) - u.length)) = u := by
 obtain ⟨p, rfl⟩ := h
 rw [show Int.toNat (((p ++ u).length : Int) - u.length) = p.length from by rw [List.length_append]; omega, List.drop_left]
theorem Suf.get {c : UInt8} {r S : Str} (h : Suf (c :: r) S) : S[(Int.toNat ((S.length : Int) - (c :: r).length))]? = some c := by
 have := h.drop
 have h2 : (S.drop (Int.toNat ((S.length : Int) - (c :: r).length)))[0]? = some c := by rw [this]; rfl
 simpa using h2
def mkq (S u : Str) (cs : List TApiCell) (g : Bool) : TValueReader := ⟨S, (S.length : Int) - u.length, cs, g⟩
theorem pre_app : ∀ (w r : Str), pre w (w ++ r) = some r
 | [], r => rfl
 | c :: w, r => by
  show (bif decide (c = c) then pre w (w ++ r) else none) = some r
  rw [decide_eq_true rfl]; exact pre_app w r
theorem pre_isSome (w s : Str) : (decide ((w.length : Int) ≤ (s.length : Int)) && decide (List.take (Int.toNat (w.length : Int)) s = w)) = (pre w s).isSome := by
 cases h : pre w s with
 | some r =>
  have := pre_len h
  subst this
  simp
  omega
 | none =>
  rw [Bool.eq_iff_iff]
  simp only [Bool.and_eq_true, decide_eq_true_eq, Option.isSome_none, Bool.false_eq_true, iff_false, not_and]
  intro hl e
  have : s = w ++ s.drop w.length := by
   conv => lhs; rw [← List.take_append_drop w.length s]
   rw [show Int.toNat (w.length : Int) = w.length from by omega] at e
   rw [e]
  rw [this, pre_app] at h
  cases h
theorem hasPrefix_eq (s w : Str) : hasPrefix s w = some (pre w s).isSome := by
 unfold hasPrefix slHasPrefix
 rw [← pre_isSome]
 have : imp (decide ((w.length : Int) ≤ (s.length : Int))) (inC (w.length : Int) (s.length : Int)) = true := by
  cases hd : decide ((w.length : Int) ≤ (s.length : Int)) with
  | false => rfl
  | true => simp only [imp]; rw [inC' (by omega) (by simpa using hd)]; rfl
 rw [chk_t this]; rfl
theorem vTake_eq {S u w : Str} {cs : List TApiCell} {g : Bool} (hS : S.length ≤ 100000) (h : Suf u S) : vTake (mkq S u cs g) w = match pre w u with
  | some r => some (true, mkq S r cs g)
  | none => some (false, mkq S u cs g) := by
 have hl := h.len
 unfold vTake mkq
 simp only
 rw [chk_inC (by omega) (by omega), h.drop, hasPrefix_eq, obn_s rfl]
 cases hp : pre w u with
 | none => rfl
 | some r =>
  have e := pre_len hp
  have el : u.length = w.length + r.length := by rw [e]; simp
  rw [cnd_ff (p := !(some r).isSome) rfl, chk_i64 (by omega) (by omega), show (S.length : Int) - u.length + w.length = S.length - r.length from by omega]
theorem pre1 (c : UInt8) (u : Str) : pre [c] u = match u with
  | [] => none
  | d :: r => bif decide (d = c) then some r else none := by
 cases u with
 | nil => rfl
 | cons d r =>
  show (bif decide (c = d) then some r else none) = _
  have : decide (c = d) = decide (d = c) := by rw [Bool.eq_iff_iff]; simp only [decide_eq_true_eq]; exact eq_comm
  rw [this]
theorem ofI_snoc (A : Str) : ofI (toI A) = A := by
 induction A with
 | nil => rfl
 | cons c A ih =>
  show UInt8.ofNat (Int.toNat (c.toNat : Int)) :: ofI (toI A) = c :: A
  rw [ih, ← (show UInt8.ofNat c.toNat = c from by simp)]; simp
theorem strP_ok : ∀ (n : Nat) (s t u : Str), s.length = n → strP true s = some (t, u) → t.all okc = true := by
 intro n
 induction n using Nat.strongRecOn with
 | ind n ih =>
  intro s t u hn h
  cases s with
  | nil => cases h
  | cons c r =>
   simp only [List.length_cons] at hn
   rw [strP_cons] at h
   cases h1 : decide (c = 34) with
   | true => rw [h1] at h; cases h; rfl
   | false =>
    rw [h1] at h
    simp only [cond_false, Bool.true_and] at h
    cases h2 : okc c with
    | false => rw [h2] at h; cases h
    | true =>
     rw [h2] at h
     simp only [Bool.not_true, cond_false] at h
     cases h3 : decide (c = 92) with
     | true =>
      rw [h3] at h
      cases r with
      | nil => cases h
      | cons d r' =>
       simp only [cond_true] at h
       cases h4 : (decide (d = 34) || decide (d = 92)) with
       | false => rw [h4] at h; cases h
       | true =>
        rw [h4] at h
        simp only [cond_true] at h
        cases h5 : strP true r' with
        | none => rw [h5] at h; cases h
        | some q =>
         obtain ⟨t', u'⟩ := q
         rw [h5] at h; cases h
         simp only [List.length_cons] at hn
         have := ih r'.length (by omega) r' t' u rfl h5
         have hd : okc d = true := by
          simp only [Bool.or_eq_true, decide_eq_true_eq] at h4
          rcases h4 with e | e <;> subst e <;> rfl
         simp [hd, this]
     | false =>
      rw [h3] at h
      simp only [cond_false] at h
      cases h5 : strP true r with
      | none => rw [h5] at h; cases h
      | some q =>
       obtain ⟨t', u'⟩ := q
       rw [h5] at h; cases h
       have := ih r.length (by omega) r t' u rfl h5
       simp [h2, this]
theorem okc_bat {c : UInt8} : (decide ((c.toNat : Int) < 32) || decide (126 < (c.toNat : Int))) = !okc c := by
 unfold okc
 rw [Bool.eq_iff_iff]
 simp only [Bool.or_eq_true, decide_eq_true_eq, Bool.not_eq_true', Bool.and_eq_false_iff, decide_eq_false_iff_not]; omega
theorem int34 (c : UInt8) : decide ((c.toNat : Int) = 34) = decide (c = 34) := by
 rw [Bool.eq_iff_iff, decide_eq_true_iff, decide_eq_true_iff, ← UInt8.toNat_inj]
 show _ ↔ c.toNat = 34
 omega
theorem int92 (c : UInt8) : decide ((c.toNat : Int) = 92) = decide (c = 92) := by
 rw [Bool.eq_iff_iff, decide_eq_true_iff, decide_eq_true_iff, ← UInt8.toNat_inj]
 show _ ↔ c.toNat = 92
 omega
theorem toI_snoc (A : Str) (c : UInt8) : toI A ++ ([(c.toNat : Int)] : List Int) = toI (A ++ [c]) := by simp [toI]
theorem vRStr_lop {S : Str} {cs : List TApiCell} {g b : Bool} {p : Int} (hS : S.length ≤ 100000) : ∀ (n L : Nat) (u A : Str), u.length = n → Suf u S → n < L → A.length ≤ S.length - n →
  ∃ o, lop (fun σ => vRStr_b1 (b, ⟨S, p, cs, g⟩) σ.1 σ.2) L (toI A, (S.length : Int) - u.length) = some o ∧ ((∃ t w, strP true u = some (t, w) ∧ Suf w S ∧ oute (fun ν => vRStr_k1 (b, ⟨S, p, cs, g⟩) ν) o = some (A ++ t, true, mkq S w cs g)) ∨ (strP true u = none ∧ ∃ q', oute (fun ν => vRStr_k1 (b, ⟨S, p, cs, g⟩) ν) o = some ([], false, q'))) := by
 intro n
 induction n using Nat.strongRecOn with
 | ind n ih =>
  intro L u A hn hs hL hA
  obtain ⟨L, rfl⟩ : ∃ K, L = K + 1 := ⟨L - 1, by omega⟩
  have hsl := hs.len
  cases u with
  | nil =>
   have hgo : vRStr_b1 (b, ⟨S, p, cs, g⟩) (toI A) ((S.length : Int) - ([] : Str).length) = some (.out (.go ((S.length : Int) - ([] : Str).length))) := by
    unfold vRStr_b1
    rw [cnd_ff (decide_eq_false (by simp))]
   exact ⟨_, lop_o hgo, .inr ⟨rfl, _, rfl⟩⟩
  | cons c r =>
   have hb : bat S ((S.length : Int) - (c :: r).length) = c.toNat := bat_get hs.get
   have hpos : (S.length : Int) - (c :: r).length + 1 = S.length - r.length := by rw [List.length_cons]; omega
   simp only [List.length_cons] at hn hsl
   have hlt : (S.length : Int) - (c :: r).length < S.length := by rw [List.length_cons]; omega
   have h0 : 0 ≤ (S.length : Int) - (c :: r).length := by rw [List.length_cons]; omega
   have hb1 : vRStr_b1 (b, ⟨S, p, cs, g⟩) (toI A) ((S.length : Int) - (c :: r).length) = cnd (decide (c = 34)) (some (.out (.ret (A, true, mkq S r cs g)))) (cnd (!okc c) (some (.out (.ret ([], false, mkq S r cs g)))) (cnd (decide (c = 92)) (chk (imp (!(decide ((S.length : Int) ≤ S.length - r.length))) (inR (S.length - r.length) (S.length : Int))) <| cnd (((decide ((S.length : Int) ≤ S.length - r.length)) || ((!decide ((bat S (S.length - r.length)) = 34)) && (!decide ((bat S (S.length - r.length)) = 92))))) (some (.out (.ret ([], false, mkq S r cs g)))) (chk (inR (S.length - r.length) (S.length : Int)) <| chk (inK .i64 (((S.length : Int) - r.length) + 1)) <| vRStr_j2 (toI A) (bat S (S.length - r.length)) (((S.length : Int) - r.length) + 1))) (vRStr_j2 (toI A) (c.toNat : Int) ((S.length : Int) - r.length)))) := by
    unfold vRStr_b1
    simp only
    rw [cnd_tt (decide_eq_true hlt), chk_inR h0 hlt, hb, hpos, chk_i64 (by omega) (by omega), int34, int92, okc_bat, ofI_snoc]
    rfl
   have hj : ∀ (x : UInt8) (y : Int), vRStr_j2 (toI A) (x.toNat : Int) y = some (.next (toI (A ++ [x]), y)) := fun x y => by
    unfold vRStr_j2
    rw [chk_inA (by simp [toI]; omega), toI_snoc]
   rw [strP_cons]
   cases h1 : decide (c = 34) with
   | true =>
    rw [h1] at hb1
    exact ⟨.ret (A, true, mkq S r cs g), lop_o hb1, .inl ⟨[], r, rfl, hs.tail, by rw [oute_ret, List.append_nil]⟩⟩
   | false =>
    rw [h1, cnd_ff rfl] at hb1
    simp only [cond_false, Bool.true_and]
    cases h2 : okc c with
    | false =>
     rw [h2, cnd_tt (p := !false) rfl] at hb1
     exact ⟨_, lop_o hb1, .inr ⟨rfl, _, rfl⟩⟩
    | true =>
     rw [h2, cnd_ff (p := !true) rfl] at hb1
     simp only [Bool.not_true, cond_false]
     cases h3 : decide (c = 92) with
     | true =>
      rw [h3, cnd_tt rfl] at hb1
      cases r with
      | nil =>
       have e : decide ((S.length : Int) ≤ S.length - ([] : Str).length) = true := by simp
       rw [e, chk_t (p := imp (!true) _) rfl, cnd_tt (p := true || _) rfl] at hb1
       exact ⟨_, lop_o hb1, .inr ⟨rfl, _, rfl⟩⟩
      | cons d r' =>
       simp only [List.length_cons] at hn hsl
       have hbd : bat S ((S.length : Int) - (d :: r').length) = d.toNat := bat_get hs.tail.get
       have hlt2 : (S.length : Int) - (d :: r').length < S.length := by rw [List.length_cons]; omega
       have h02 : 0 ≤ (S.length : Int) - (d :: r').length := by rw [List.length_cons]; omega
       have hpos2 : (S.length : Int) - (d :: r').length + 1 = S.length - r'.length := by rw [List.length_cons]; omega
       have e : decide ((S.length : Int) ≤ S.length - (d :: r').length) = false := decide_eq_false (by omega)
       rw [e, inR' h02 hlt2, hbd, hpos2, int34, int92, chk_t (p := imp (!false) true) rfl] at hb1
       simp only [cond_true]
       cases h4 : (decide (d = 34) || decide (d = 92)) with
       | false =>
        have e4 : (false || (!decide (d = 34) && !decide (d = 92))) = true := by rw [← Bool.not_or, h4]; rfl
        rw [cnd_tt e4] at hb1
        exact ⟨_, lop_o hb1, .inr ⟨rfl, _, rfl⟩⟩
       | true =>
        have e4 : (false || (!decide (d = 34) && !decide (d = 92))) = false := by rw [← Bool.not_or, h4]; rfl
        rw [cnd_ff e4, chk_t rfl, chk_i64 (by omega) (by omega), hj] at hb1
        obtain ⟨o, ho1, ho2⟩ := ih r'.length (by omega) L r' (A ++ [d]) rfl hs.tail.tail (by omega) (by rw [app1_len]; omega)
        refine ⟨o, lop_n hb1 ho1, ?_⟩
        simp only [cond_true]
        rcases ho2 with ⟨t, w, q1, q2, q3⟩ | ⟨q1, q2⟩
        ·rw [q1]; exact .inl ⟨d :: t, w, rfl, q2, by rw [q3]; simp⟩
        ·rw [q1]; exact .inr ⟨rfl, q2⟩
     | false =>
      rw [h3, cnd_ff rfl, hj] at hb1
      obtain ⟨o, ho1, ho2⟩ := ih r.length (by omega) L r (A ++ [c]) rfl hs.tail (by omega) (by rw [app1_len]; omega)
      refine ⟨o, lop_n hb1 ho1, ?_⟩
      simp only [cond_false]
      rcases ho2 with ⟨t, w, q1, q2, q3⟩ | ⟨q1, q2⟩
      ·rw [q1]; exact .inl ⟨c :: t, w, rfl, q2, by rw [q3]; simp⟩
      ·rw [q1]; exact .inr ⟨rfl, q2⟩
theorem vRStr_eq {F : Nat} {S u : Str} {cs : List TApiCell} {g : Bool} (hS : S.length ≤ 100000) (h : Suf u S) (hF : S.length < F) :
  (∃ r t w, u = 34 :: r ∧ strP true r = some (t, w) ∧ Suf w S ∧ vRStr F (mkq S u cs g) = some (t, true, mkq S w cs g)) ∨ ((∀ r, u = 34 :: r → strP true r = none) ∧ ∃ q', vRStr F (mkq S u cs g) = some ([], false, q')) := by
 unfold vRStr
 rw [vTake_eq hS h, pre1]
 cases u with
 | nil => exact .inr ⟨(fun r e => by cases e), _, rfl⟩
 | cons c r =>
  simp only
  cases hc : decide (c = 34) with
  | false =>
   simp only [decide_eq_false_iff_not] at hc
   exact .inr ⟨(fun r' e => by cases e; exact absurd rfl hc), _, rfl⟩
  | true =>
   simp only [decide_eq_true_eq] at hc
   subst hc
   have hl := h.len
   simp only [List.length_cons] at hl
   simp only [cond_true]
   rw [obn_s rfl, cnd_ff (p := !true) rfl]
   obtain ⟨o, ho1, ho2⟩ := vRStr_lop (b := true) (cs := cs) (g := g) (p := (S.length : Int) - r.length) hS r.length F r [] rfl h.tail (by omega) (Nat.zero_le _)
   have ho1' : lop (fun σ => vRStr_b1 (true, mkq S r cs g) σ.1 σ.2) F ([], (S.length : Int) - r.length) = some o := ho1
   rw [show (true, mkq S r cs g).2.fAt = (S.length : Int) - r.length from rfl, obn_s ho1']
   rcases ho2 with ⟨t, w, q1, q2, q3⟩ | ⟨q1, q', q2⟩
   ·exact .inl ⟨r, t, w, rfl, q1, q2, q3⟩
   ·exact .inr ⟨(fun r' e => by cases e; exact q1), q', q2⟩
end Go.Proofs.YtkalifgebccpcaaDoor
