/-
  Texts of the proof, put together: WVg, PVh, QN, WVh, OkValueFinds, LvA, LvB, LvC, LvD, LvE, LvF, LvG.
-/
import Derived.Test.YtkalifgebccpcaaGreatDoorMF4
import GoSem.ClaimData
/-
  Walks, printed by a small program of ours (gq.py).
-/
namespace Go.Proofs.YtkalifgebccpcaaGreatDoor.Q
open Go Go.RowKit
set_option linter.unusedVariables false
set_option linter.unusedSimpArgs false
set_option maxRecDepth 100000
set_option maxHeartbeats 4000000
theorem info9 : ∃ inf, Tryz.prog.info? 9 = some inf ∧ inf.zero = some (.string ⟨#[]⟩) ∧ inf.size = 1 ∧ inf.bytes = 16 := by
  have key : (Tryz.prog.info? 9).map (fun i => (i.zero, i.size, i.bytes)) = some (some (.string ⟨#[]⟩), 1, 16) := by kernel_rfl
  obtain ⟨inf, h1, h2⟩ := Option.map_eq_some_iff.1 key
  simp only [Prod.mk.injEq] at h2
  exact ⟨inf, h1, h2.1, h2.2.1, h2.2.2⟩
theorem info23 : ∃ inf, Tryz.prog.info? 23 = some inf ∧ inf.zero = some (.slice none 0 0) ∧ inf.size = 1 ∧ inf.bytes = 24 := by
  have key : (Tryz.prog.info? 23).map (fun i => (i.zero, i.size, i.bytes)) = some (some (.slice none 0 0), 1, 24) := by kernel_rfl
  obtain ⟨inf, h1, h2⟩ := Option.map_eq_some_iff.1 key
  simp only [Prod.mk.injEq] at h2
  exact ⟨inf, h1, h2.1, h2.2.1, h2.2.2⟩
theorem cloneN_w (ys : (List TApiCell)) (r : (List TApiCell)) (h : cloneN ys = some r) : Fn Tryz.prog GE 54 [rSl 4 (List.map eTApiCell ys)] [] (fun R H => R = rSl 4 (List.map eTApiCell r) ∧ H = []) := by
 refine enter (n := 8) Tryz.func54 rfl Tryz.ntmps54 rfl (fun w Z => ?_)
 refine wc_as (l' := [(0, rSl 4 (List.map eTApiCell ys))]) (H' := []) rfl rfl ?_
 unfold cloneN at h
 refine wc_sr ?_
 refine wv (r := rv (.slice none 0 0)) (o_assign rfl) ?_
 refine wl_x ?_
 refine wc_seq ?_
 refine wc_sr ?_
 refine wm rfl ?_
 refine wv (o_slnil_z Tryz.underlying23 rfl) ?_
 refine wl_x ?_
 refine wc_condx rfl (fun c1 => ?_) (fun c1 => ?_)
 ·have e2 : ys = [] := List.map_eq_nil_iff.1 (c1 rfl)
  have h3 : some ([] : List TApiCell) = some r := by rw [e2] at h; exact (chk_e h).2
  refine wc_sr ?_
  refine wv (r := rv (.slice none 0 0)) (o_assign rfl) ?_
  refine wl_x ?_
  refine wc_ret ?_
  refine wk_then_ret ?_
  refine WK.up (d := 2) (r := rSl 4 (List.map eTApiCell ([] : List TApiCell))) rfl (Up.le (Rle.nil _)) ?_
  obtain rfl := some_e h3
  exact wk_ret (r_1 Tryz.results54 (rv_t rfl)) sN ⟨rfl, rfl⟩
 ·refine wc_skip ?_
  refine wk_x ?_
  refine wc_sr ?_
  refine w_buildSlice (ys := ([] : List TApiCell)) (enc := eTApiCell) (css := []) (xs := []) Tryz.underlying23 Tryz.sizeOf63 Tryz.zeroValue63 rfl rfl rfl trivial rfl eTApiCell_len rfl rfl rfl (fun b4 => ?_)
  refine wm rfl ?_
  obtain ⟨g6, h7⟩ := chk_e h
  obtain ⟨inf, hinf⟩ := info63
  refine w_append (xs := ([] : List TApiCell)) (ys := ys) (enc := eTApiCell) (i := 0) Tryz.underlying23 hinf.1 hinf.2.1 hinf.2.2.1 hinf.2.2.2 rfl rfl rfl rfl rfl (Src.z rfl rfl) eTApiCell_len eTApiCell_one g6 rfl (fun v5 => ?_)
  refine wa rfl ?_
  refine wl_x ?_
  refine wc_ret ?_
  refine WK.freeze (i := 0) rfl ?_
  refine WK.up (d := 2) (r := rSl 4 (List.map eTApiCell (([] : List TApiCell) ++ ys))) rfl (Up.fact (i := 0) rfl) ?_
  obtain rfl := some_e h7
  exact wk_ret (r_1 Tryz.results54 (rv_t rfl)) (sS sN) ⟨rfl, rfl⟩

theorem vKeysF_w (b_out : Nat) (v_out_0 : Value) (key : Str) (x : (List TApiCell)) (out : (List Str)) (r : Bool × (List Str)) (h : vKeysF key x out = some r) : Fn Tryz.prog GE 57 [rS key, rSl 4 (List.map eTApiCell x), rv (.pointer (some ⟨b_out, 0, none⟩))] [.blk b_out [rv v_out_0] 29, .row v_out_0 9 1 (List.map eS out)] (fun R H => ∃ w2_0 : Value, R = rB r.1 ∧ H = [.blk b_out [rv w2_0] 29, .row w2_0 9 1 (List.map eS r.2)]) := by
 refine enter (n := 10) Tryz.func57 rfl Tryz.ntmps57 rfl (fun w Z => ?_)
 refine wc_as (l' := [(0, rS key), (1, rSl 4 (List.map eTApiCell x)), (2, rv (.pointer (some ⟨b_out, 0, none⟩)))]) (H' := [.blk b_out [rv v_out_0] 29, .row v_out_0 9 1 (List.map eS out)]) rfl rfl ?_
 unfold vKeysF at h
 refine wc_sr ?_
 refine wv (r := rB false) (o_assign rfl) ?_
 refine wl_y ?_
 refine wv (o_load (i := 0) Tryz.isAgg29 rfl rfl rfl) ?_
 refine wm rfl ?_
 refine w_buildSlice (ys := ([key] : List Str)) (enc := eS) (css := [[rS key]]) (xs := [.tmp 7]) Tryz.underlying29 Tryz.sizeOf9 Tryz.zeroValue9 rfl rfl rfl ⟨Cel.one rfl (Up.refl _), trivial⟩ rfl eS_len rfl rfl rfl (fun b1 => ?_)
 obtain ⟨g3, h4⟩ := chk_e h
 obtain ⟨inf, hinf⟩ := info9
 refine w_append (xs := out) (ys := ([key] : List Str)) (enc := eS) (i := 2) Tryz.underlying29 hinf.1 hinf.2.1 hinf.2.2.1 hinf.2.2.2 rfl rfl rfl rfl rfl (Src.w (i := 0) rfl rfl) eS_len eS_one g3 rfl (fun v2 => ?_)
 refine u_store (i := 2) Tryz.sizeOf29 rfl rfl (one_row (i := 0) rfl) rfl rfl (cs' := [rv v2]) rfl (H' := [.row v2 9 1 (List.map eS (out ++ ([key] : List Str))), .row (.slice (some ⟨b1, 0, none⟩) 1 1) 9 1 (List.map eS ([key] : List Str)), .blk b_out [rv v2] 29]) rfl ?_
 refine wl_y ?_
 refine wv (r := rB true) (o_assign rfl) ?_
 refine wl_x ?_
 refine wc_ret ?_
 refine wk_perm (H2 := [.blk b_out [rv v2] 29, .row v2 9 1 (List.map eS (out ++ ([key] : List Str))), .row (.slice (some ⟨b1, 0, none⟩) 1 1) 9 1 (List.map eS ([key] : List Str))]) ((perm_front (i := 2) rfl).trans (List.Perm.cons _ (List.Perm.refl _))) ?_
 obtain rfl := some_e h4
 exact wk_ret (r_1 Tryz.results57 (rv_t rfl)) (sC (sC (sS sN))) ⟨v2, rfl, rfl⟩

theorem vKeysP_w (F : Nat) (b_out : Nat) (v_out_0 : Value) (v : (List TApiCell)) (out : (List Str)) (r : (List Str)) (h : vKeysP F v out = some r) : Fn Tryz.prog GE 52 [rSl 4 (List.map eTApiCell v), rv (.func (.func 57) #[] #[(.pointer (some ⟨b_out, 0, none⟩))])] [.blk b_out [rv v_out_0] 29, .row v_out_0 9 1 (List.map eS out)] (fun R H => ∃ w1_0_0 : Value, R = rv (.tuple #[]) ∧ H = [.blk b_out [rv w1_0_0] 29, .row w1_0_0 9 1 (List.map eS r)]) := by
 refine enter (n := 52) Tryz.func52 rfl Tryz.ntmps52 rfl (fun w Z => ?_)
 refine wc_as (l' := [(0, rSl 4 (List.map eTApiCell v)), (1, rv (.func (.func 57) #[] #[(.pointer (some ⟨b_out, 0, none⟩))]))]) (H' := [.blk b_out [rv v_out_0] 29, .row v_out_0 9 1 (List.map eS out)]) rfl rfl ?_
 unfold vKeysP at h
 refine wc_sr ?_
 refine wv (r := rI .i64 1) (o_assign rfl) ?_
 refine wl_y ?_
 refine wm rfl ?_
 obtain ⟨g1, h2⟩ := chk_e h
 refine wv (o_ix_z (enc := eTApiCell) (ys := v) Tryz.underlying23 Tryz.sizeOf63 rfl rfl g1) ?_
 refine wv (o_fieldAddr_z Tryz.underlying63 rfl Tryz.sizeOf3 rfl rfl) ?_
 refine wv (o_load_z Tryz.isAgg3 rfl rfl) ?_
 refine wv (r := rI .i64 0) (o_move rfl) ?_
 refine wl_x ?_
 refine wc_block ?_
 obtain ⟨o163, eo164, hK165⟩ := obn_e h2
 refine wc_loop2 (S := Nat × (Int × Int × (List Str)) × (Value)) (V := ((List Str)) × (Value)) 0 (fun σ => lop (fun σ => vKeysP_b1 F v σ.1 σ.2.1 σ.2.2) σ.1 σ.2.1 = some o163) (fun σ => [(0, rSl 4 (List.map eTApiCell v)), (1, rv (.func (.func 57) #[] #[(.pointer (some ⟨b_out, 0, none⟩))])), (4, rI .i64 σ.2.1.1), (12, rI .i64 ((at' v 0).fN)), (13, rI .i64 σ.2.1.2.1)]) (fun σ => [.blk b_out [rv σ.2.2] 29, .row σ.2.2 9 1 (List.map eS σ.2.1.2.2)]) (fun σ => σ.1) (F, (1, 0, out), v_out_0) eo164 (Sub.c5 rfl rfl rfl rfl rfl Sub.nil) (sC (sC sN)) (fun σ => vKeysP_k1 σ.1 = some r) (fun σ => []) (fun σ => [.blk b_out [rv σ.2] 29, .row σ.2 9 1 (List.map eS σ.1)]) ?_ ?_
 ·rintro ⟨n171, ⟨x105, x106, x107⟩, v108⟩ hi169
  refine wc_as (l' := [(0, rSl 4 (List.map eTApiCell v)), (1, rv (.func (.func 57) #[] #[(.pointer (some ⟨b_out, 0, none⟩))])), (4, rI .i64 x105), (12, rI .i64 ((at' v 0).fN)), (13, rI .i64 x106)]) (H' := [.blk b_out [rv v108] 29, .row v108 9 1 (List.map eS x107)]) rfl rfl ?_
  obtain ⟨m168, rfl, t166, h170, ht167⟩ := lop_e hi169
  replace h170 : vKeysP_b1 F v x105 x106 x107 = some t166 := h170
  unfold vKeysP_b1 at h170
  refine wc_sr ?_
  refine wv (o_lt rfl rfl) ?_
  refine wl_x ?_
  refine wc_seq ?_
  refine wc_cond (b := decide (x106 < ((at' v 0).fN))) rfl (fun c172 => ?_) (fun c172 => ?_)
  ·have h173 := cnd_t c172 h170
   refine wc_skip ?_
   refine wk_x ?_
   refine wc_seq ?_
   refine wc_block ?_
   refine wc_sr ?_
   refine wv (r := rS ([] : Str)) (o_assign rfl) ?_
   refine wl_x ?_
   refine wc_seq ?_
   refine wc_sr ?_
   refine wm rfl ?_
   refine wv (o_ix_z (enc := eTApiCell) (ys := v) Tryz.underlying23 Tryz.sizeOf63 rfl rfl g1) ?_
   refine wv (o_fieldAddr_z Tryz.underlying63 rfl Tryz.sizeOf61 rfl rfl) ?_
   refine wv (o_load_z Tryz.isAgg61 rfl rfl) ?_
   refine wv (o_eq rfl rfl) ?_
   refine wl_x ?_
   refine wc_cond (b := decide (((at' v 0).fKind) = 6)) rfl (fun c174 => ?_) (fun c174 => ?_)
   ·have h175 := cnd_t c174 h173
    refine wc_sr ?_
    refine wm rfl ?_
    refine wm rfl ?_
    obtain ⟨g176, h177⟩ := chk_e h175
    refine wv (o_ix_z (enc := eTApiCell) (ys := v) Tryz.underlying23 Tryz.sizeOf63 rfl rfl g176) ?_
    refine wv (o_fieldAddr_z Tryz.underlying63 rfl Tryz.sizeOf9 rfl rfl) ?_
    refine wv (o_load_z Tryz.isAgg9 rfl rfl) ?_
    refine wa rfl ?_
    refine wl_x ?_
    refine wc_region ?_
    refine wm rfl ?_
    obtain ⟨g178, h179⟩ := chk_e h177
    refine wv (o_add rfl rfl g178) ?_
    refine wa rfl ?_
    refine wl_y ?_
    refine wm rfl ?_
    refine wm rfl ?_
    obtain ⟨g180, h181⟩ := chk_e h179
    refine wv (r := rSl 4 (List.map eTApiCell (List.drop (Int.toNat (x105 + 1)) v))) (o_slice_zl Tryz.underlying23 Tryz.sizeOf63 rfl rfl g180) ?_
    obtain ⟨r182, e184, h183⟩ := obn_e h181
    refine wc0 Tryz.call63 (vLook_w F (List.drop (Int.toNat (x105 + 1)) v) r182 e184) rfl ?_
    refine wm rfl ?_
    refine wv (o_extract rfl rfl) ?_
    refine wv (o_extract rfl rfl) ?_
    refine wv (o_extract rfl rfl) ?_
    refine w_alloc (cs := [rI .i64 0, rI .i64 0, rB false, rB false]) Tryz.zeroValue78 rfl rfl (fun b185 => ?_)
    refine wa rfl ?_
    refine u_store_agg (i := 0) Tryz.sizeOf78 rfl rfl rfl (OneAll.c rfl) rfl rfl (cs' := [rI .i64 r182.2.1.fDepth, rI .i64 r182.2.1.fBytes, rB r182.2.1.fOutside, rB r182.2.1.fLong]) rfl (H' := [.blk b185 (eTValueShape r182.2.1) 78, .blk b_out [rv v108] 29, .row v108 9 1 (List.map eS x107)]) rfl ?_
    refine wa rfl ?_
    refine wl_x ?_
    refine wc_seq ?_
    refine wc_sr ?_
    refine wm rfl ?_
    refine wm rfl ?_
    refine wm rfl ?_
    refine wm rfl ?_
    refine wm rfl ?_
    refine wm rfl ?_
    obtain ⟨g186, h187⟩ := chk_e h183
    refine wv (o_add rfl rfl g186) ?_
    refine wm rfl ?_
    refine wm rfl ?_
    refine wv (o_add rfl rfl g186) ?_
    obtain ⟨g188, h189⟩ := chk_e h187
    obtain ⟨g190, h191⟩ := chk_e h189
    refine wv (r := rSl 4 (List.map eTApiCell (List.take (Int.toNat ((x105 + 1) + r182.1) - Int.toNat (x105 + 1)) (List.drop (Int.toNat (x105 + 1)) v)))) (o_slice_zm Tryz.underlying23 Tryz.sizeOf63 rfl rfl rfl rfl g188 g190) ?_
    obtain ⟨r192, e194, h193⟩ := obn_e h191
    refine w_callc (rs := [rS ((at' v x105).fStr), rSl 4 (List.map eTApiCell (List.take (Int.toNat ((x105 + 1) + r182.1) - Int.toNat (x105 + 1)) (List.drop (Int.toNat (x105 + 1)) v)))]) (Hin := [.blk b_out [rv v108] 29, .row v108 9 1 (List.map eS x107)]) (Hr := [.blk b185 (eTValueShape r182.2.1) 78]) Tryz.call57 rfl rfl ((perm_front (i := 1) rfl).trans (List.Perm.cons _ ((perm_front (i := 1) rfl).trans (List.Perm.cons _ (List.Perm.refl _))))) (vKeysF_w b_out v108 ((at' v x105).fStr) (List.take (Int.toNat ((x105 + 1) + r182.1) - Int.toNat (x105 + 1)) (List.drop (Int.toNat (x105 + 1)) v)) x107 r192 e194) rfl ?_
    rintro _ _ ⟨v195, rfl, rfl⟩
    refine wv (o_not rfl) ?_
    refine wl_x ?_
    refine wc_cond (b := !r192.1) rfl (fun c196 => ?_) (fun c196 => ?_)
    ·have h197 := cnd_t c196 h193
     refine wc_ret ?_
     refine wk_then_ret ?_
     refine wk_in_ret ?_
     refine wk_then_ret ?_
     refine wk_then_ret ?_
     refine wk_cut_ret ?_
     have h198 := stp_ret h197 ht167 hK165
     refine wk_in_ret ?_
     obtain rfl := some_e h198
     exact wk_ret (r_0 Tryz.results52) (sC (sC (sS sN))) ⟨v195, rfl, rfl⟩
    ·have h199 := cnd_f c196 h193
     refine wc_skip ?_
     refine wk_x ?_
     refine wc_region ?_
     refine wm rfl ?_
     refine wm rfl ?_
     refine wv (o_add rfl rfl g186) ?_
     refine wa rfl ?_
     refine wl_nil ?_
     refine wk_in_norm ?_
     refine wk_x ?_
     refine wc_region ?_
     obtain ⟨g200, h201⟩ := chk_e h199
     refine wv (o_add rfl rfl g200) ?_
     refine wm rfl ?_
     refine wl_nil ?_
     have h202 := stp_next h201 ht167
     exact wk_then (wk_some (m168, ((x105 + 1) + r182.1, x106 + 1, r192.2), v195) ⟨h202, Nat.lt_succ_self _⟩ (Sub.c5 rfl rfl rfl rfl rfl Sub.nil) (sC (sC (sS sN))))
   ·have h203 := cnd_f c174 h173
    refine wc_skip ?_
    refine wk_x ?_
    refine wc_sr ?_
    refine wm rfl ?_
    refine wm rfl ?_
    obtain ⟨g204, h205⟩ := chk_e h203
    refine wv (r := rSl 4 (List.map eTApiCell (List.drop (Int.toNat x105) v))) (o_slice_zl Tryz.underlying23 Tryz.sizeOf63 rfl rfl g204) ?_
    obtain ⟨r206, e208, h207⟩ := obn_e h205
    refine wc0 Tryz.call63 (vLook_w F (List.drop (Int.toNat x105) v) r206 e208) rfl ?_
    refine wm rfl ?_
    refine wv (o_extract rfl rfl) ?_
    refine wv (o_extract rfl rfl) ?_
    refine wv (o_extract rfl rfl) ?_
    refine w_alloc (cs := [rI .i64 0, rI .i64 0, rB false, rB false]) Tryz.zeroValue78 rfl rfl (fun b209 => ?_)
    refine wa rfl ?_
    refine u_store_agg (i := 0) Tryz.sizeOf78 rfl rfl rfl (OneAll.c rfl) rfl rfl (cs' := [rI .i64 r206.2.1.fDepth, rI .i64 r206.2.1.fBytes, rB r206.2.1.fOutside, rB r206.2.1.fLong]) rfl (H' := [.blk b209 (eTValueShape r206.2.1) 78, .blk b_out [rv v108] 29, .row v108 9 1 (List.map eS x107)]) rfl ?_
    refine wa rfl ?_
    refine wl_x ?_
    refine wc_seq ?_
    refine wc_sr ?_
    refine wm rfl ?_
    refine wm rfl ?_
    refine wm rfl ?_
    refine wm rfl ?_
    refine wm rfl ?_
    refine wm rfl ?_
    obtain ⟨g210, h211⟩ := chk_e h207
    refine wv (o_add rfl rfl g210) ?_
    refine wm rfl ?_
    refine wm rfl ?_
    refine wv (o_add rfl rfl g210) ?_
    obtain ⟨g212, h213⟩ := chk_e h211
    obtain ⟨g214, h215⟩ := chk_e h213
    refine wv (r := rSl 4 (List.map eTApiCell (List.take (Int.toNat (x105 + r206.1) - Int.toNat x105) (List.drop (Int.toNat x105) v)))) (o_slice_zm Tryz.underlying23 Tryz.sizeOf63 rfl rfl rfl rfl g212 g214) ?_
    obtain ⟨r216, e218, h217⟩ := obn_e h215
    refine w_callc (rs := [rS ([] : Str), rSl 4 (List.map eTApiCell (List.take (Int.toNat (x105 + r206.1) - Int.toNat x105) (List.drop (Int.toNat x105) v)))]) (Hin := [.blk b_out [rv v108] 29, .row v108 9 1 (List.map eS x107)]) (Hr := [.blk b209 (eTValueShape r206.2.1) 78]) Tryz.call57 rfl rfl ((perm_front (i := 1) rfl).trans (List.Perm.cons _ ((perm_front (i := 1) rfl).trans (List.Perm.cons _ (List.Perm.refl _))))) (vKeysF_w b_out v108 ([] : Str) (List.take (Int.toNat (x105 + r206.1) - Int.toNat x105) (List.drop (Int.toNat x105) v)) x107 r216 e218) rfl ?_
    rintro _ _ ⟨v219, rfl, rfl⟩
    refine wv (o_not rfl) ?_
    refine wl_x ?_
    refine wc_cond (b := !r216.1) rfl (fun c220 => ?_) (fun c220 => ?_)
    ·have h221 := cnd_t c220 h217
     refine wc_ret ?_
     refine wk_then_ret ?_
     refine wk_in_ret ?_
     refine wk_then_ret ?_
     refine wk_then_ret ?_
     refine wk_cut_ret ?_
     have h222 := stp_ret h221 ht167 hK165
     refine wk_in_ret ?_
     obtain rfl := some_e h222
     exact wk_ret (r_0 Tryz.results52) (sC (sC (sS sN))) ⟨v219, rfl, rfl⟩
    ·have h223 := cnd_f c220 h217
     refine wc_skip ?_
     refine wk_x ?_
     refine wc_region ?_
     refine wm rfl ?_
     refine wm rfl ?_
     refine wv (o_add rfl rfl g210) ?_
     refine wa rfl ?_
     refine wl_nil ?_
     refine wk_in_norm ?_
     refine wk_x ?_
     refine wc_region ?_
     obtain ⟨g224, h225⟩ := chk_e h223
     refine wv (o_add rfl rfl g224) ?_
     refine wm rfl ?_
     refine wl_nil ?_
     have h226 := stp_next h225 ht167
     exact wk_then (wk_some (m168, (x105 + r206.1, x106 + 1, r216.2), v219) ⟨h226, Nat.lt_succ_self _⟩ (Sub.c5 rfl rfl rfl rfl rfl Sub.nil) (sC (sC (sS sN))))
  ·have h227 := cnd_f c172 h170
   refine wc_exit ?_
   refine wk_then_exit ?_
   have h228 := stp_go h227 ht167 hK165
   exact wk_then_exit (wk_cut_hit (wk_some (x107, v108) h228 Sub.nil (sC (sC sN))))
 ·rintro ⟨x161, v162⟩ h229
  refine wk_as (l' := []) (H' := [.blk b_out [rv v162] 29, .row v162 9 1 (List.map eS x161)]) rfl rfl ?_
  replace h229 : vKeysP_k1 x161 = some r := h229
  unfold vKeysP_k1 at h229
  refine wk_in_hit ?_
  obtain rfl := some_e h229
  exact wk_end (r_0 Tryz.results52) (sC (sC sN)) ⟨v162, rfl, rfl⟩

theorem vKeys_w (F : Nat) (v : (List TApiCell)) (r : (List Str) × Int) (h : vKeys F v = some r) : Fn Tryz.prog GE 31 [rSl 4 (List.map eTApiCell v)] [] (fun R H => R = rTup [rSl 1 (List.map eS r.1), rI .i64 r.2] ∧ H = []) := by
 refine enter (n := 20) Tryz.func31 rfl Tryz.ntmps31 rfl (fun w Z => ?_)
 refine wc_as (l' := [(0, rSl 4 (List.map eTApiCell v))]) (H' := []) rfl rfl ?_
 unfold vKeys at h
 refine wc_sr ?_
 refine wv (r := rv (.slice none 0 0)) (o_assign rfl) ?_
 refine wv (r := rI .i64 0) (o_assign rfl) ?_
 refine wl_x ?_
 refine wc_seq ?_
 refine wc_sr ?_
 refine wm rfl ?_
 obtain ⟨r1, e3, h2⟩ := obn_e h
 refine wc0 Tryz.call43 (vCheck_w F v r1 e3) rfl ?_
 refine wa rfl ?_
 refine wl_y ?_
 refine wm rfl ?_
 refine wv (o_ne rfl rfl) ?_
 refine wl_x ?_
 refine wc_cond (b := !decide (r1 = 0)) rfl (fun c4 => ?_) (fun c4 => ?_)
 ·have h5 := cnd_t c4 h2
  refine wc_sr ?_
  refine wm rfl ?_
  refine wv (r := rv (.slice none 0 0)) (o_assign rfl) ?_
  refine wa rfl ?_
  refine wl_x ?_
  refine wc_ret ?_
  refine wk_then_ret ?_
  refine WK.up (d := 2) (r := rSl 1 (List.map eS ([] : List Str))) rfl (Up.le (Rle.nil _)) ?_
  obtain rfl := some_e h5
  exact wk_ret (r_2 Tryz.results31 (rv_t rfl) (rv_t rfl)) sN ⟨rfl, rfl⟩
 ·have h6 := cnd_f c4 h2
  refine wc_skip ?_
  refine wk_x ?_
  refine wc_seq ?_
  refine wc_sr ?_
  refine wm rfl ?_
  obtain ⟨g7, h8⟩ := chk_e h6
  refine wv (o_ix_z (enc := eTApiCell) (ys := v) Tryz.underlying23 Tryz.sizeOf63 rfl rfl g7) ?_
  refine wv (o_fieldAddr_z Tryz.underlying63 rfl Tryz.sizeOf61 rfl rfl) ?_
  refine wv (o_load_z Tryz.isAgg61 rfl rfl) ?_
  refine wv (o_ne rfl rfl) ?_
  refine wl_x ?_
  refine wc_cond (b := !decide (((at' v 0).fKind) = 6)) rfl (fun c9 => ?_) (fun c9 => ?_)
  ·have h10 := cnd_t c9 h8
   refine wc_sr ?_
   refine wv (r := rv (.slice none 0 0)) (o_assign rfl) ?_
   refine wv (r := rI .i64 7) (o_assign rfl) ?_
   refine wl_x ?_
   refine wc_ret ?_
   refine wk_then_ret ?_
   refine WK.up (d := 2) (r := rSl 1 (List.map eS ([] : List Str))) rfl (Up.le (Rle.nil _)) ?_
   obtain rfl := some_e h10
   exact wk_ret (r_2 Tryz.results31 (rv_t rfl) (rv_t rfl)) sN ⟨rfl, rfl⟩
  ·have h11 := cnd_f c9 h8
   refine wc_skip ?_
   refine wk_x ?_
   refine wc_sr ?_
   refine w_alloc (cs := [rv (.slice none 0 0)]) Tryz.zeroValue29 rfl rfl (fun b12 => ?_)
   refine wl_y ?_
   refine wm rfl ?_
   refine wv (r := rv (.func (.func 57) #[] #[(.pointer (some ⟨b12, 0, none⟩))])) (o_makeFunc rfl) ?_
   refine WL.nilrow (e := 9) (sz := 1) ?_
   obtain ⟨r13, e15, h14⟩ := obn_e h11
   refine wcl (Hr := []) Tryz.call52 (vKeysP_w F b12 (.slice none 0 0         ) v ([] : List Str) r13 e15) rfl ((perm_front (i := 1) rfl).trans (List.Perm.cons _ (List.Perm.refl _))) rfl ?_
   rintro _ _ ⟨v16, rfl, rfl⟩
   refine wl_y ?_
   refine wv (o_load (i := 0) Tryz.isAgg29 rfl rfl rfl) ?_
   refine wa rfl ?_
   refine wv (r := rI .i64 0) (o_assign rfl) ?_
   refine wl_x ?_
   refine wc_ret ?_
   refine WK.freeze (i := 1) rfl ?_
   refine WK.up (d := 2) (r := rSl 1 (List.map eS r13)) rfl (Up.fact (i := 0) rfl) ?_
   obtain rfl := some_e h14
   exact wk_ret (r_2 Tryz.results31 (rv_t rfl) (rv_t rfl)) (sS (sS sN)) ⟨rfl, rfl⟩

theorem vItemsF_w (b_out : Nat) (v_out_0 : Value) (key : Str) (x : (List TApiCell)) (out : (List (List TApiCell))) (r : Bool × (List (List TApiCell))) (h : vItemsF key x out = some r) : Fn Tryz.prog GE 53 [rS key, rSl 4 (List.map eTApiCell x), rv (.pointer (some ⟨b_out, 0, none⟩))] [.blk b_out [rv v_out_0] 30, .row v_out_0 23 1 (List.map eL_TApiCell out)] (fun R H => ∃ w2_0 : Value, R = rB r.1 ∧ H = [.blk b_out [rv w2_0] 30, .row w2_0 23 1 (List.map eL_TApiCell r.2)]) := by
 refine enter (n := 11) Tryz.func53 rfl Tryz.ntmps53 rfl (fun w Z => ?_)
 refine wc_as (l' := [(0, rS key), (1, rSl 4 (List.map eTApiCell x)), (2, rv (.pointer (some ⟨b_out, 0, none⟩)))]) (H' := [.blk b_out [rv v_out_0] 30, .row v_out_0 23 1 (List.map eL_TApiCell out)]) rfl rfl ?_
 unfold vItemsF at h
 refine wc_sr ?_
 refine wv (r := rB false) (o_assign rfl) ?_
 refine wl_x ?_
 refine wc_seq ?_
 obtain ⟨r1, e3, h2⟩ := obn_e h
 refine wc_rdak 4 [1, 2] [⟨[], rv v_out_0, none, none, none⟩, ⟨[], rSl 4 (List.map eTApiCell x), none, none, none⟩, ⟨[1], rSl 4 (List.map eTApiCell r1), none, none, none⟩, ⟨[2], rSl 1 (List.map eL_TApiCell ([r1] : List (List TApiCell))), none, none, none⟩] ?_ (fun β => ?_)
 ·refine oaf (o_load (i := 0) Tryz.isAgg30 rfl rfl rfl) ?_
  refine oaq (o_move rfl) ?_
  refine oac (ok_c0 Tryz.call54 (cloneN_w x r1 e3) rfl) ?_
  refine oac (ok_buildSlice (ys := ([r1] : List (List TApiCell))) (enc := eL_TApiCell) (css := [[rSl 4 (List.map eTApiCell r1)]]) (xs := [.tmp 8]) Tryz.underlying30 Tryz.sizeOf23 Tryz.zeroValue23 rfl rfl rfl ⟨Cel.one rfl (Up.refl _), trivial⟩ rfl eL_TApiCell_len rfl rfl) ?_
  exact oae
 refine wl_kza (H1 := [.blk b_out [rv v_out_0] 30, .row v_out_0 23 1 (List.map eL_TApiCell out)]) [6, 7, 8, 9, 1, 2] ?_
 obtain ⟨g5, h6⟩ := chk_e h2
 obtain ⟨inf, hinf⟩ := info23
 refine w_append (xs := out) (ys := ([r1] : List (List TApiCell))) (enc := eL_TApiCell) (i := 1) Tryz.underlying30 hinf.1 hinf.2.1 hinf.2.2.1 hinf.2.2.2 rfl rfl rfl rfl rfl (Src.z rfl rfl) eL_TApiCell_len eL_TApiCell_one g5 rfl (fun v4 => ?_)
 refine u_store (i := 1) Tryz.sizeOf30 rfl rfl (one_row (i := 0) rfl) rfl rfl (cs' := [rv v4]) rfl (H' := [.row v4 23 1 (List.map eL_TApiCell (out ++ ([r1] : List (List TApiCell)))), .blk b_out [rv v4] 30]) rfl ?_
 refine wl_y ?_
 refine wv (r := rB true) (o_assign rfl) ?_
 refine wl_x ?_
 refine wc_ret ?_
 refine wk_perm (H2 := [.blk b_out [rv v4] 30, .row v4 23 1 (List.map eL_TApiCell (out ++ ([r1] : List (List TApiCell))))]) ((perm_front (i := 1) rfl).trans (List.Perm.cons _ (List.Perm.refl _))) ?_
 obtain rfl := some_e h6
 exact wk_ret (r_1 Tryz.results53 (rv_t rfl)) (sC (sC sN)) ⟨v4, rfl, rfl⟩

theorem vItemsP_w (F : Nat) (b_out : Nat) (v_out_0 : Value) (v : (List TApiCell)) (out : (List (List TApiCell))) (r : (List (List TApiCell))) (h : vItemsP F v out = some r) : Fn Tryz.prog GE 52 [rSl 4 (List.map eTApiCell v), rv (.func (.func 53) #[] #[(.pointer (some ⟨b_out, 0, none⟩))])] [.blk b_out [rv v_out_0] 30, .row v_out_0 23 1 (List.map eL_TApiCell out)] (fun R H => ∃ w1_0_0 : Value, R = rv (.tuple #[]) ∧ H = [.blk b_out [rv w1_0_0] 30, .row w1_0_0 23 1 (List.map eL_TApiCell r)]) := by
 refine enter (n := 52) Tryz.func52 rfl Tryz.ntmps52 rfl (fun w Z => ?_)
 refine wc_as (l' := [(0, rSl 4 (List.map eTApiCell v)), (1, rv (.func (.func 53) #[] #[(.pointer (some ⟨b_out, 0, none⟩))]))]) (H' := [.blk b_out [rv v_out_0] 30, .row v_out_0 23 1 (List.map eL_TApiCell out)]) rfl rfl ?_
 unfold vItemsP at h
 refine wc_sr ?_
 refine wv (r := rI .i64 1) (o_assign rfl) ?_
 refine wl_y ?_
 refine wm rfl ?_
 obtain ⟨g1, h2⟩ := chk_e h
 refine wv (o_ix_z (enc := eTApiCell) (ys := v) Tryz.underlying23 Tryz.sizeOf63 rfl rfl g1) ?_
 refine wv (o_fieldAddr_z Tryz.underlying63 rfl Tryz.sizeOf3 rfl rfl) ?_
 refine wv (o_load_z Tryz.isAgg3 rfl rfl) ?_
 refine wv (r := rI .i64 0) (o_move rfl) ?_
 refine wl_x ?_
 refine wc_block ?_
 obtain ⟨o163, eo164, hK165⟩ := obn_e h2
 refine wc_loop2 (S := Nat × (Int × Int × (List (List TApiCell))) × (Value)) (V := ((List (List TApiCell))) × (Value)) 0 (fun σ => lop (fun σ => vItemsP_b1 F v σ.1 σ.2.1 σ.2.2) σ.1 σ.2.1 = some o163) (fun σ => [(0, rSl 4 (List.map eTApiCell v)), (1, rv (.func (.func 53) #[] #[(.pointer (some ⟨b_out, 0, none⟩))])), (4, rI .i64 σ.2.1.1), (12, rI .i64 ((at' v 0).fN)), (13, rI .i64 σ.2.1.2.1)]) (fun σ => [.blk b_out [rv σ.2.2] 30, .row σ.2.2 23 1 (List.map eL_TApiCell σ.2.1.2.2)]) (fun σ => σ.1) (F, (1, 0, out), v_out_0) eo164 (Sub.c5 rfl rfl rfl rfl rfl Sub.nil) (sC (sC sN)) (fun σ => vItemsP_k1 σ.1 = some r) (fun σ => []) (fun σ => [.blk b_out [rv σ.2] 30, .row σ.2 23 1 (List.map eL_TApiCell σ.1)]) ?_ ?_
 ·rintro ⟨n171, ⟨x105, x106, x107⟩, v108⟩ hi169
  refine wc_as (l' := [(0, rSl 4 (List.map eTApiCell v)), (1, rv (.func (.func 53) #[] #[(.pointer (some ⟨b_out, 0, none⟩))])), (4, rI .i64 x105), (12, rI .i64 ((at' v 0).fN)), (13, rI .i64 x106)]) (H' := [.blk b_out [rv v108] 30, .row v108 23 1 (List.map eL_TApiCell x107)]) rfl rfl ?_
  obtain ⟨m168, rfl, t166, h170, ht167⟩ := lop_e hi169
  replace h170 : vItemsP_b1 F v x105 x106 x107 = some t166 := h170
  unfold vItemsP_b1 at h170
  refine wc_sr ?_
  refine wv (o_lt rfl rfl) ?_
  refine wl_x ?_
  refine wc_seq ?_
  refine wc_cond (b := decide (x106 < ((at' v 0).fN))) rfl (fun c172 => ?_) (fun c172 => ?_)
  ·have h173 := cnd_t c172 h170
   refine wc_skip ?_
   refine wk_x ?_
   refine wc_seq ?_
   refine wc_block ?_
   refine wc_sr ?_
   refine wv (r := rS ([] : Str)) (o_assign rfl) ?_
   refine wl_x ?_
   refine wc_seq ?_
   refine wc_sr ?_
   refine wm rfl ?_
   refine wv (o_ix_z (enc := eTApiCell) (ys := v) Tryz.underlying23 Tryz.sizeOf63 rfl rfl g1) ?_
   refine wv (o_fieldAddr_z Tryz.underlying63 rfl Tryz.sizeOf61 rfl rfl) ?_
   refine wv (o_load_z Tryz.isAgg61 rfl rfl) ?_
   refine wv (o_eq rfl rfl) ?_
   refine wl_x ?_
   refine wc_cond (b := decide (((at' v 0).fKind) = 6)) rfl (fun c174 => ?_) (fun c174 => ?_)
   ·have h175 := cnd_t c174 h173
    refine wc_sr ?_
    refine wm rfl ?_
    refine wm rfl ?_
    obtain ⟨g176, h177⟩ := chk_e h175
    refine wv (o_ix_z (enc := eTApiCell) (ys := v) Tryz.underlying23 Tryz.sizeOf63 rfl rfl g176) ?_
    refine wv (o_fieldAddr_z Tryz.underlying63 rfl Tryz.sizeOf9 rfl rfl) ?_
    refine wv (o_load_z Tryz.isAgg9 rfl rfl) ?_
    refine wa rfl ?_
    refine wl_x ?_
    refine wc_region ?_
    refine wm rfl ?_
    obtain ⟨g178, h179⟩ := chk_e h177
    refine wv (o_add rfl rfl g178) ?_
    refine wa rfl ?_
    refine wl_y ?_
    refine wm rfl ?_
    refine wm rfl ?_
    obtain ⟨g180, h181⟩ := chk_e h179
    refine wv (r := rSl 4 (List.map eTApiCell (List.drop (Int.toNat (x105 + 1)) v))) (o_slice_zl Tryz.underlying23 Tryz.sizeOf63 rfl rfl g180) ?_
    obtain ⟨r182, e184, h183⟩ := obn_e h181
    refine wc0 Tryz.call63 (vLook_w F (List.drop (Int.toNat (x105 + 1)) v) r182 e184) rfl ?_
    refine wm rfl ?_
    refine wv (o_extract rfl rfl) ?_
    refine wv (o_extract rfl rfl) ?_
    refine wv (o_extract rfl rfl) ?_
    refine w_alloc (cs := [rI .i64 0, rI .i64 0, rB false, rB false]) Tryz.zeroValue78 rfl rfl (fun b185 => ?_)
    refine wa rfl ?_
    refine u_store_agg (i := 0) Tryz.sizeOf78 rfl rfl rfl (OneAll.c rfl) rfl rfl (cs' := [rI .i64 r182.2.1.fDepth, rI .i64 r182.2.1.fBytes, rB r182.2.1.fOutside, rB r182.2.1.fLong]) rfl (H' := [.blk b185 (eTValueShape r182.2.1) 78, .blk b_out [rv v108] 30, .row v108 23 1 (List.map eL_TApiCell x107)]) rfl ?_
    refine wa rfl ?_
    refine wl_x ?_
    refine wc_seq ?_
    refine wc_sr ?_
    refine wm rfl ?_
    refine wm rfl ?_
    refine wm rfl ?_
    refine wm rfl ?_
    refine wm rfl ?_
    refine wm rfl ?_
    obtain ⟨g186, h187⟩ := chk_e h183
    refine wv (o_add rfl rfl g186) ?_
    refine wm rfl ?_
    refine wm rfl ?_
    refine wv (o_add rfl rfl g186) ?_
    obtain ⟨g188, h189⟩ := chk_e h187
    obtain ⟨g190, h191⟩ := chk_e h189
    refine wv (r := rSl 4 (List.map eTApiCell (List.take (Int.toNat ((x105 + 1) + r182.1) - Int.toNat (x105 + 1)) (List.drop (Int.toNat (x105 + 1)) v)))) (o_slice_zm Tryz.underlying23 Tryz.sizeOf63 rfl rfl rfl rfl g188 g190) ?_
    obtain ⟨r192, e194, h193⟩ := obn_e h191
    refine w_callc (rs := [rS ((at' v x105).fStr), rSl 4 (List.map eTApiCell (List.take (Int.toNat ((x105 + 1) + r182.1) - Int.toNat (x105 + 1)) (List.drop (Int.toNat (x105 + 1)) v)))]) (Hin := [.blk b_out [rv v108] 30, .row v108 23 1 (List.map eL_TApiCell x107)]) (Hr := [.blk b185 (eTValueShape r182.2.1) 78]) Tryz.call53 rfl rfl ((perm_front (i := 1) rfl).trans (List.Perm.cons _ ((perm_front (i := 1) rfl).trans (List.Perm.cons _ (List.Perm.refl _))))) (vItemsF_w b_out v108 ((at' v x105).fStr) (List.take (Int.toNat ((x105 + 1) + r182.1) - Int.toNat (x105 + 1)) (List.drop (Int.toNat (x105 + 1)) v)) x107 r192 e194) rfl ?_
    rintro _ _ ⟨v195, rfl, rfl⟩
    refine wv (o_not rfl) ?_
    refine wl_x ?_
    refine wc_cond (b := !r192.1) rfl (fun c196 => ?_) (fun c196 => ?_)
    ·have h197 := cnd_t c196 h193
     refine wc_ret ?_
     refine wk_then_ret ?_
     refine wk_in_ret ?_
     refine wk_then_ret ?_
     refine wk_then_ret ?_
     refine wk_cut_ret ?_
     have h198 := stp_ret h197 ht167 hK165
     refine wk_in_ret ?_
     obtain rfl := some_e h198
     exact wk_ret (r_0 Tryz.results52) (sC (sC (sS sN))) ⟨v195, rfl, rfl⟩
    ·have h199 := cnd_f c196 h193
     refine wc_skip ?_
     refine wk_x ?_
     refine wc_region ?_
     refine wm rfl ?_
     refine wm rfl ?_
     refine wv (o_add rfl rfl g186) ?_
     refine wa rfl ?_
     refine wl_nil ?_
     refine wk_in_norm ?_
     refine wk_x ?_
     refine wc_region ?_
     obtain ⟨g200, h201⟩ := chk_e h199
     refine wv (o_add rfl rfl g200) ?_
     refine wm rfl ?_
     refine wl_nil ?_
     have h202 := stp_next h201 ht167
     exact wk_then (wk_some (m168, ((x105 + 1) + r182.1, x106 + 1, r192.2), v195) ⟨h202, Nat.lt_succ_self _⟩ (Sub.c5 rfl rfl rfl rfl rfl Sub.nil) (sC (sC (sS sN))))
   ·have h203 := cnd_f c174 h173
    refine wc_skip ?_
    refine wk_x ?_
    refine wc_sr ?_
    refine wm rfl ?_
    refine wm rfl ?_
    obtain ⟨g204, h205⟩ := chk_e h203
    refine wv (r := rSl 4 (List.map eTApiCell (List.drop (Int.toNat x105) v))) (o_slice_zl Tryz.underlying23 Tryz.sizeOf63 rfl rfl g204) ?_
    obtain ⟨r206, e208, h207⟩ := obn_e h205
    refine wc0 Tryz.call63 (vLook_w F (List.drop (Int.toNat x105) v) r206 e208) rfl ?_
    refine wm rfl ?_
    refine wv (o_extract rfl rfl) ?_
    refine wv (o_extract rfl rfl) ?_
    refine wv (o_extract rfl rfl) ?_
    refine w_alloc (cs := [rI .i64 0, rI .i64 0, rB false, rB false]) Tryz.zeroValue78 rfl rfl (fun b209 => ?_)
    refine wa rfl ?_
    refine u_store_agg (i := 0) Tryz.sizeOf78 rfl rfl rfl (OneAll.c rfl) rfl rfl (cs' := [rI .i64 r206.2.1.fDepth, rI .i64 r206.2.1.fBytes, rB r206.2.1.fOutside, rB r206.2.1.fLong]) rfl (H' := [.blk b209 (eTValueShape r206.2.1) 78, .blk b_out [rv v108] 30, .row v108 23 1 (List.map eL_TApiCell x107)]) rfl ?_
    refine wa rfl ?_
    refine wl_x ?_
    refine wc_seq ?_
    refine wc_sr ?_
    refine wm rfl ?_
    refine wm rfl ?_
    refine wm rfl ?_
    refine wm rfl ?_
    refine wm rfl ?_
    refine wm rfl ?_
    obtain ⟨g210, h211⟩ := chk_e h207
    refine wv (o_add rfl rfl g210) ?_
    refine wm rfl ?_
    refine wm rfl ?_
    refine wv (o_add rfl rfl g210) ?_
    obtain ⟨g212, h213⟩ := chk_e h211
    obtain ⟨g214, h215⟩ := chk_e h213
    refine wv (r := rSl 4 (List.map eTApiCell (List.take (Int.toNat (x105 + r206.1) - Int.toNat x105) (List.drop (Int.toNat x105) v)))) (o_slice_zm Tryz.underlying23 Tryz.sizeOf63 rfl rfl rfl rfl g212 g214) ?_
    obtain ⟨r216, e218, h217⟩ := obn_e h215
    refine w_callc (rs := [rS ([] : Str), rSl 4 (List.map eTApiCell (List.take (Int.toNat (x105 + r206.1) - Int.toNat x105) (List.drop (Int.toNat x105) v)))]) (Hin := [.blk b_out [rv v108] 30, .row v108 23 1 (List.map eL_TApiCell x107)]) (Hr := [.blk b209 (eTValueShape r206.2.1) 78]) Tryz.call53 rfl rfl ((perm_front (i := 1) rfl).trans (List.Perm.cons _ ((perm_front (i := 1) rfl).trans (List.Perm.cons _ (List.Perm.refl _))))) (vItemsF_w b_out v108 ([] : Str) (List.take (Int.toNat (x105 + r206.1) - Int.toNat x105) (List.drop (Int.toNat x105) v)) x107 r216 e218) rfl ?_
    rintro _ _ ⟨v219, rfl, rfl⟩
    refine wv (o_not rfl) ?_
    refine wl_x ?_
    refine wc_cond (b := !r216.1) rfl (fun c220 => ?_) (fun c220 => ?_)
    ·have h221 := cnd_t c220 h217
     refine wc_ret ?_
     refine wk_then_ret ?_
     refine wk_in_ret ?_
     refine wk_then_ret ?_
     refine wk_then_ret ?_
     refine wk_cut_ret ?_
     have h222 := stp_ret h221 ht167 hK165
     refine wk_in_ret ?_
     obtain rfl := some_e h222
     exact wk_ret (r_0 Tryz.results52) (sC (sC (sS sN))) ⟨v219, rfl, rfl⟩
    ·have h223 := cnd_f c220 h217
     refine wc_skip ?_
     refine wk_x ?_
     refine wc_region ?_
     refine wm rfl ?_
     refine wm rfl ?_
     refine wv (o_add rfl rfl g210) ?_
     refine wa rfl ?_
     refine wl_nil ?_
     refine wk_in_norm ?_
     refine wk_x ?_
     refine wc_region ?_
     obtain ⟨g224, h225⟩ := chk_e h223
     refine wv (o_add rfl rfl g224) ?_
     refine wm rfl ?_
     refine wl_nil ?_
     have h226 := stp_next h225 ht167
     exact wk_then (wk_some (m168, (x105 + r206.1, x106 + 1, r216.2), v219) ⟨h226, Nat.lt_succ_self _⟩ (Sub.c5 rfl rfl rfl rfl rfl Sub.nil) (sC (sC (sS sN))))
  ·have h227 := cnd_f c172 h170
   refine wc_exit ?_
   refine wk_then_exit ?_
   have h228 := stp_go h227 ht167 hK165
   exact wk_then_exit (wk_cut_hit (wk_some (x107, v108) h228 Sub.nil (sC (sC sN))))
 ·rintro ⟨x161, v162⟩ h229
  refine wk_as (l' := []) (H' := [.blk b_out [rv v162] 30, .row v162 23 1 (List.map eL_TApiCell x161)]) rfl rfl ?_
  replace h229 : vItemsP_k1 x161 = some r := h229
  unfold vItemsP_k1 at h229
  refine wk_in_hit ?_
  obtain rfl := some_e h229
  exact wk_end (r_0 Tryz.results52) (sC (sC sN)) ⟨v162, rfl, rfl⟩

theorem vItems_w (F : Nat) (v : (List TApiCell)) (r : (List (List TApiCell)) × Int) (h : vItems F v = some r) : Fn Tryz.prog GE 29 [rSl 4 (List.map eTApiCell v)] [] (fun R H => R = rTup [rSl 1 (List.map eL_TApiCell r.1), rI .i64 r.2] ∧ H = []) := by
 refine enter (n := 27) Tryz.func29 rfl Tryz.ntmps29 rfl (fun w Z => ?_)
 refine wc_as (l' := [(0, rSl 4 (List.map eTApiCell v))]) (H' := []) rfl rfl ?_
 unfold vItems at h
 refine wc_sr ?_
 refine wv (r := rv (.slice none 0 0)) (o_assign rfl) ?_
 refine wv (r := rI .i64 0) (o_assign rfl) ?_
 refine wl_x ?_
 refine wc_seq ?_
 refine wc_sr ?_
 refine wm rfl ?_
 obtain ⟨r1, e3, h2⟩ := obn_e h
 refine wc0 Tryz.call43 (vCheck_w F v r1 e3) rfl ?_
 refine wa rfl ?_
 refine wl_y ?_
 refine wm rfl ?_
 refine wv (o_ne rfl rfl) ?_
 refine wl_x ?_
 refine wc_cond (b := !decide (r1 = 0)) rfl (fun c4 => ?_) (fun c4 => ?_)
 ·have h5 := cnd_t c4 h2
  refine wc_sr ?_
  refine wm rfl ?_
  refine wv (r := rv (.slice none 0 0)) (o_assign rfl) ?_
  refine wa rfl ?_
  refine wl_x ?_
  refine wc_ret ?_
  refine wk_then_ret ?_
  refine WK.up (d := 2) (r := rSl 1 (List.map eL_TApiCell ([] : List (List TApiCell)))) rfl (Up.le (Rle.nil _)) ?_
  obtain rfl := some_e h5
  exact wk_ret (r_2 Tryz.results29 (rv_t rfl) (rv_t rfl)) sN ⟨rfl, rfl⟩
 ·have h6 := cnd_f c4 h2
  refine wc_skip ?_
  refine wk_x ?_
  refine wc_seq ?_
  obtain ⟨g7, h8⟩ := chk_e h6
  refine wc_seq_mid [(0, rSl 4 (List.map eTApiCell v)), (22, rB ((!decide (((at' v 0).fKind) = 5)) && (!decide (((at' v 0).fKind) = 6))))] [] ?_ ?_
  ·refine wc_region ?_
   refine wm rfl ?_
   refine wv (o_ix_z (enc := eTApiCell) (ys := v) Tryz.underlying23 Tryz.sizeOf63 rfl rfl g7) ?_
   refine wv (o_fieldAddr_z Tryz.underlying63 rfl Tryz.sizeOf61 rfl rfl) ?_
   refine wv (o_load_z Tryz.isAgg61 rfl rfl) ?_
   refine wv (o_ne rfl rfl) ?_
   refine wm rfl ?_
   refine bsplit (!decide (((at' v 0).fKind) = 5)) (fun c9 => ?_) (fun c9 => ?_)
   ·refine wo c9 ?_
    refine wm rfl ?_
    refine wo c9 ?_
    refine wv (o_ix_z (enc := eTApiCell) (ys := v) Tryz.underlying23 Tryz.sizeOf63 rfl rfl g7) ?_
    refine wo c9 ?_
    refine wv (o_fieldAddr_z Tryz.underlying63 rfl Tryz.sizeOf61 rfl rfl) ?_
    refine wo c9 ?_
    refine wv (o_load_z Tryz.isAgg61 rfl rfl) ?_
    refine wo c9 ?_
    refine wv (o_ne rfl rfl) ?_
    refine wpt rfl c9 rfl ?_
    refine wl_nil ?_
    exact wtc c9
   ·refine wf c9 ?_
    refine wf c9 ?_
    refine wf c9 ?_
    refine wf c9 ?_
    refine wf c9 ?_
    refine wv (r := rB false) (o_pick_f (b := !decide (((at' v 0).fKind) = 5)) rfl c9 rfl) ?_
    refine wl_nil ?_
    exact wtc c9
  refine wc_cond (b := ((!decide (((at' v 0).fKind) = 5)) && (!decide (((at' v 0).fKind) = 6)))) rfl (fun c10 => ?_) (fun c10 => ?_)
  ·have h11 := cnd_t c10 h8
   refine wc_sr ?_
   refine wv (r := rv (.slice none 0 0)) (o_assign rfl) ?_
   refine wv (r := rI .i64 7) (o_assign rfl) ?_
   refine wl_x ?_
   refine wc_ret ?_
   refine wk_then_ret ?_
   refine WK.up (d := 2) (r := rSl 1 (List.map eL_TApiCell ([] : List (List TApiCell)))) rfl (Up.le (Rle.nil _)) ?_
   obtain rfl := some_e h11
   exact wk_ret (r_2 Tryz.results29 (rv_t rfl) (rv_t rfl)) sN ⟨rfl, rfl⟩
  ·have h12 := cnd_f c10 h8
   refine wc_skip ?_
   refine wk_x ?_
   refine wc_sr ?_
   refine w_alloc (cs := [rv (.slice none 0 0)]) Tryz.zeroValue30 rfl rfl (fun b13 => ?_)
   refine wl_y ?_
   refine wm rfl ?_
   refine wv (r := rv (.func (.func 53) #[] #[(.pointer (some ⟨b13, 0, none⟩))])) (o_makeFunc rfl) ?_
   refine WL.nilrow (e := 23) (sz := 1) ?_
   obtain ⟨r14, e16, h15⟩ := obn_e h12
   refine wcl (Hr := []) Tryz.call52 (vItemsP_w F b13 (.slice none 0 0                       ) v ([] : List (List TApiCell)) r14 e16) rfl ((perm_front (i := 1) rfl).trans (List.Perm.cons _ (List.Perm.refl _))) rfl ?_
   rintro _ _ ⟨v17, rfl, rfl⟩
   refine wl_y ?_
   refine wv (o_load (i := 0) Tryz.isAgg30 rfl rfl rfl) ?_
   refine wa rfl ?_
   refine wv (r := rI .i64 0) (o_assign rfl) ?_
   refine wl_x ?_
   refine wc_ret ?_
   refine WK.freeze (i := 1) rfl ?_
   refine WK.up (d := 2) (r := rSl 1 (List.map eL_TApiCell r14)) rfl (Up.fact (i := 0) rfl) ?_
   obtain rfl := some_e h15
   exact wk_ret (r_2 Tryz.results29 (rv_t rfl) (rv_t rfl)) (sS (sS sN)) ⟨rfl, rfl⟩

end Go.Proofs.YtkalifgebccpcaaGreatDoor.Q

/-
 What functions compute, with checks: plain definitions, printed by a small program of ours (gq.py). No program in sight.
-/
namespace Go.Proofs.YtkalifgebccpcaaGreatDoor
open Go
set_option linter.unusedVariables false
def vGetF (k : Str) (x : (List TApiCell)) (key : Str) (out : (List TApiCell)) : Option (Bool × (List TApiCell)) :=
 cnd (decide (k = key)) (obn (cloneN x) fun r3 => chk (decide (0 < r3.length)) <| some (!decide (k = key), r3)) (some (!decide (k = key), out))

def vGetP_b1 (F : Nat) (v : (List TApiCell)) (key : Str) (x100 : Int) (x101 : Int) (x102 : (List TApiCell)) : Option (Stp (Int × Int × (List TApiCell)) (Out ((List TApiCell)) ((List TApiCell)))) :=
 cnd (decide (x101 < ((at' v 0).fN))) (cnd (decide (((at' v 0).fKind) = 6)) (chk (inR x100 (v.length : Int)) <| chk (inK .i64 (x100 + 1)) <| chk (inC (x100 + 1) (v.length : Int)) <| obn (vLook F (List.drop (Int.toNat (x100 + 1)) v)) fun r173 => chk (inK .i64 ((x100 + 1) + r173.1)) <| chk (inC (x100 + 1) ((x100 + 1) + r173.1)) <| chk (inC ((x100 + 1) + r173.1) (v.length : Int)) <| obn (vGetF ((at' v x100).fStr) (List.take (Int.toNat ((x100 + 1) + r173.1) - Int.toNat (x100 + 1)) (List.drop (Int.toNat (x100 + 1)) v)) key x102) fun r183 => cnd (!r183.1) (some (.out (.ret r183.2))) (chk (inK .i64 (x101 + 1)) <| some (.next ((x100 + 1) + r173.1, x101 + 1, r183.2)))) (chk (inC x100 (v.length : Int)) <| obn (vLook F (List.drop (Int.toNat x100) v)) fun r196 => chk (inK .i64 (x100 + r196.1)) <| chk (inC x100 (x100 + r196.1)) <| chk (inC (x100 + r196.1) (v.length : Int)) <| obn (vGetF ([] : Str) (List.take (Int.toNat (x100 + r196.1) - Int.toNat x100) (List.drop (Int.toNat x100) v)) key x102) fun r206 => cnd (!r206.1) (some (.out (.ret r206.2))) (chk (inK .i64 (x101 + 1)) <| some (.next (x100 + r196.1, x101 + 1, r206.2))))) (some (.out (.go x102)))

def vGetP_k1 (x153 : (List TApiCell)) : Option ((List TApiCell)) :=
 some x153

def vGetP (F : Nat) (v : (List TApiCell)) (key : Str) (out : (List TApiCell)) : Option ((List TApiCell)) :=
 chk (inR 0 (v.length : Int)) <| obn (lop (fun σ => vGetP_b1 F v key σ.1 σ.2.1 σ.2.2) F (1, 0, out)) (oute fun ν => vGetP_k1 ν)

def vGet (F : Nat) (v : (List TApiCell)) (key : Str) : Option ((List TApiCell) × Int) :=
 obn (vCheck F v) fun r2 => cnd (!decide (r2 = 0)) (some (([] : List TApiCell), r2)) (chk (inR 0 (v.length : Int)) <| cnd (!decide (((at' v 0).fKind) = 6)) (some (([] : List TApiCell), 7)) (obn (vGetP F v key ([] : List TApiCell)) fun r14 => cnd (List.isEmpty r14) (some (([] : List TApiCell), 5)) (some (r14, 0))))

def vPutA (k : Str) (y : (List TApiCell)) (out : (List TApiCell)) : Option ((List TApiCell)) :=
 chk (inR 0 (out.length : Int)) <| chk (inK .i64 (((at' out 0).fN) + 1)) <| bnd (List.set out (Int.toNat 0) (TApiCell.mk ((at' out 0).fKind) ((at' out 0).fInt) ((at' out 0).fStr) (((at' out 0).fN) + 1))) fun r5 => chk (inA 40 (r5.length + ([(TApiCell.mk 4 0 k 0)] : List TApiCell).length)) <| chk (inA 40 ((r5 ++ ([(TApiCell.mk 4 0 k 0)] : List TApiCell)).length + y.length)) <| some ((r5 ++ ([(TApiCell.mk 4 0 k 0)] : List TApiCell)) ++ y)

def vPutF (k : Str) (y : (List TApiCell)) (done : Bool) (key : Str) (out : (List TApiCell)) (xx : (List TApiCell)) : Option (Bool × Bool × (List TApiCell)) :=
 cnd (((!done) && (!sLess k key))) (obn (vPutA key xx out) fun r4 => cnd (!decide (k = key)) (obn (vPutA k y r4) fun r10 => some (true, true, r10)) (some (true, true, r4))) (cnd (!decide (k = key)) (obn (vPutA k y out) fun r18 => some (true, done, r18)) (some (true, done, out)))

def vPutP_b1 (F : Nat) (v : (List TApiCell)) (key : Str) (xx : (List TApiCell)) (x106 : Int) (x107 : Int) (x108 : Bool) (x109 : (List TApiCell)) : Option (Stp (Int × Int × Bool × (List TApiCell)) (Out (Bool × (List TApiCell)) (Bool × (List TApiCell)))) :=
 cnd (decide (x107 < ((at' v 0).fN))) (cnd (decide (((at' v 0).fKind) = 6)) (chk (inR x106 (v.length : Int)) <| chk (inK .i64 (x106 + 1)) <| chk (inC (x106 + 1) (v.length : Int)) <| obn (vLook F (List.drop (Int.toNat (x106 + 1)) v)) fun r185 => chk (inK .i64 ((x106 + 1) + r185.1)) <| chk (inC (x106 + 1) ((x106 + 1) + r185.1)) <| chk (inC ((x106 + 1) + r185.1) (v.length : Int)) <| obn (vPutF ((at' v x106).fStr) (List.take (Int.toNat ((x106 + 1) + r185.1) - Int.toNat (x106 + 1)) (List.drop (Int.toNat (x106 + 1)) v)) x108 key x109 xx) fun r195 => cnd (!r195.1) (some (.out (.ret (r195.2.1, r195.2.2)))) (chk (inK .i64 (x107 + 1)) <| some (.next ((x106 + 1) + r185.1, x107 + 1, r195.2.1, r195.2.2)))) (chk (inC x106 (v.length : Int)) <| obn (vLook F (List.drop (Int.toNat x106) v)) fun r209 => chk (inK .i64 (x106 + r209.1)) <| chk (inC x106 (x106 + r209.1)) <| chk (inC (x106 + r209.1) (v.length : Int)) <| obn (vPutF ([] : Str) (List.take (Int.toNat (x106 + r209.1) - Int.toNat x106) (List.drop (Int.toNat x106) v)) x108 key x109 xx) fun r219 => cnd (!r219.1) (some (.out (.ret (r219.2.1, r219.2.2)))) (chk (inK .i64 (x107 + 1)) <| some (.next (x106 + r209.1, x107 + 1, r219.2.1, r219.2.2))))) (some (.out (.go (x108, x109))))

def vPutP_k1 (x163 : Bool) (x164 : (List TApiCell)) : Option (Bool × (List TApiCell)) :=
 some (x163, x164)

def vPutP (F : Nat) (v : (List TApiCell)) (done : Bool) (key : Str) (out : (List TApiCell)) (xx : (List TApiCell)) : Option (Bool × (List TApiCell)) :=
 chk (inR 0 (v.length : Int)) <| obn (lop (fun σ => vPutP_b1 F v key xx σ.1 σ.2.1 σ.2.2.1 σ.2.2.2) F (1, 0, done, out)) (oute fun ν => vPutP_k1 ν.1 ν.2)

def vPut (F : Nat) (v : (List TApiCell)) (key : Str) (x : (List TApiCell)) : Option ((List TApiCell) × Int) :=
 obn (vCheck F v) fun r3 => cnd (!decide (r3 = 0)) (some (([] : List TApiCell), r3)) (chk (inR 0 (v.length : Int)) <| cnd (!decide (((at' v 0).fKind) = 6)) (some (([] : List TApiCell), 7)) (obn (vCheck F x) fun r14 => cnd (!decide (r14 = 0)) (some (([] : List TApiCell), r14)) (obn (vPutP F v false key ([(TApiCell.mk 6 0 ([] : Str) 0)] : List TApiCell) x) fun r24 => cnd (!r24.1) (obn (vPutA key x r24.2) fun r30 => obn (vChecked F r30) fun r34 => some (r34.1, r34.2)) (obn (vChecked F r24.2) fun r38 => some (r38.1, r38.2)))))

def vPath_b1 (F : Nat) (path : (List Str)) (x36 : (List TApiCell)) (x37 : Int) : Option (Stp ((List TApiCell) × Int) (Out ((List TApiCell) × Int) ((List TApiCell)))) :=
 cnd (decide (x37 < (path.length : Int))) (chk (inR x37 (path.length : Int)) <| obn (vGet F x36 (at' path x37)) fun r65 => cnd (!decide (r65.2 = 0)) (some (.out (.ret (([] : List TApiCell), r65.2)))) (chk (inK .i64 (x37 + 1)) <| some (.next (r65.1, x37 + 1)))) (some (.out (.go x36)))

def vPath_k1 (x51 : (List TApiCell)) : Option ((List TApiCell) × Int) :=
 some (x51, 0)

def vPath (F : Nat) (v : (List TApiCell)) (path : (List Str)) : Option ((List TApiCell) × Int) :=
 obn (vCheck F v) fun r1 => cnd (!decide (r1 = 0)) (some (([] : List TApiCell), r1)) (obn (cloneN v) fun r7 => obn (lop (fun σ => vPath_b1 F path σ.1 σ.2) F (r7, 0)) (oute fun ν => vPath_k1 ν))

def rPart_b1 (v : (List TApiCell)) (b : Int) (x26 : (List TApiCell)) (x28 : Int) : Option (Stp ((List TApiCell) × Int) (Out ((List TApiCell)) ((List TApiCell)))) :=
 cnd (decide (x28 < b)) (chk (inR x28 (v.length : Int)) <| chk (inA 40 (x26.length + ([(at' v x28)] : List TApiCell).length)) <| chk (inK .i64 (x28 + 1)) <| some (.next (x26 ++ ([(at' v x28)] : List TApiCell), x28 + 1))) (some (.out (.go x26)))

def rPart_k1 (x40 : (List TApiCell)) : Option ((List TApiCell)) :=
 some x40

def rPart (F : Nat) (v : (List TApiCell)) (a : Int) (b : Int) : Option ((List TApiCell)) :=
 obn (lop (fun σ => rPart_b1 v b σ.1 σ.2) F (([] : List TApiCell), a)) (oute fun ν => rPart_k1 ν)

def rItems_b1 (F : Nat) (v : (List TApiCell)) (x75 : (List (List TApiCell))) (x77 : Int) (x78 : Int) : Option (Stp ((List (List TApiCell)) × Int × Int) (Out ((List (List TApiCell)) × Int) ((List (List TApiCell))))) :=
 cnd (decide (x78 < ((at' v 0).fN))) (cnd (decide (((at' v 0).fKind) = 6)) (chk (inK .i64 (x77 + 1)) <| obn (rNext F v (x77 + 1)) fun r128 => obn (rPart F v (x77 + 1) r128) fun r131 => chk (inA 24 (x75.length + ([r131] : List (List TApiCell)).length)) <| chk (inK .i64 (x78 + 1)) <| some (.next (x75 ++ ([r131] : List (List TApiCell)), r128, x78 + 1))) (obn (rNext F v x77) fun r142 => obn (rPart F v x77 r142) fun r145 => chk (inA 24 (x75.length + ([r145] : List (List TApiCell)).length)) <| chk (inK .i64 (x78 + 1)) <| some (.next (x75 ++ ([r145] : List (List TApiCell)), r142, x78 + 1)))) (some (.out (.go x75)))

def rItems_k1 (x111 : (List (List TApiCell))) : Option ((List (List TApiCell)) × Int) :=
 some (x111, 0)

def rItems (F : Nat) (v : (List TApiCell)) : Option ((List (List TApiCell)) × Int) :=
 obn (rCheck F v) fun r1 => cnd (!decide (r1 = 0)) (some (([] : List (List TApiCell)), r1)) (chk (inR 0 (v.length : Int)) <| cnd (((!decide (((at' v 0).fKind) = 5)) && (!decide (((at' v 0).fKind) = 6)))) (some (([] : List (List TApiCell)), 7)) (obn (lop (fun σ => rItems_b1 F v σ.1 σ.2.1 σ.2.2) F (([] : List (List TApiCell)), 1, 0)) (oute fun ν => rItems_k1 ν)))

def rKeys_b1 (F : Nat) (v : (List TApiCell)) (x44 : (List Str)) (x46 : Int) (x47 : Int) : Option (Stp ((List Str) × Int × Int) (Out ((List Str) × Int) ((List Str)))) :=
 cnd (decide (x47 < ((at' v 0).fN))) (chk (inR x46 (v.length : Int)) <| chk (inA 16 (x44.length + ([(at' v x46).fStr] : List Str).length)) <| chk (inK .i64 (x46 + 1)) <| obn (rNext F v (x46 + 1)) fun r85 => chk (inK .i64 (x47 + 1)) <| some (.next (x44 ++ ([(at' v x46).fStr] : List Str), r85, x47 + 1))) (some (.out (.go x44)))

def rKeys_k1 (x64 : (List Str)) : Option ((List Str) × Int) :=
 some (x64, 0)

def rKeys (F : Nat) (v : (List TApiCell)) : Option ((List Str) × Int) :=
 obn (rCheck F v) fun r1 => cnd (!decide (r1 = 0)) (some (([] : List Str), r1)) (chk (inR 0 (v.length : Int)) <| cnd (!decide (((at' v 0).fKind) = 6)) (some (([] : List Str), 7)) (obn (lop (fun σ => rKeys_b1 F v σ.1 σ.2.1 σ.2.2) F (([] : List Str), 1, 0)) (oute fun ν => rKeys_k1 ν)))

def rGet_b1 (key : Str) (r1 : (List Str) × Int) (r7 : (List (List TApiCell)) × Int) (x33 : Int) : Option (Stp (Int) (Out ((List TApiCell) × Int) (Unit))) :=
 cnd (decide (x33 < (r1.1.length : Int))) (chk (inR x33 (r1.1.length : Int)) <| cnd (decide ((at' r1.1 x33) = key)) (chk (inR x33 (r7.1.length : Int)) <| some (.out (.ret (at' r7.1 x33, 0)))) (chk (inK .i64 (x33 + 1)) <| some (.next (x33 + 1)))) (some (.out (.go ())))

def rGet_k1  : Option ((List TApiCell) × Int) :=
 some (([] : List TApiCell), 5)

def rGet (F : Nat) (v : (List TApiCell)) (key : Str) : Option ((List TApiCell) × Int) :=
 obn (rKeys F v) fun r1 => cnd (!decide (r1.2 = 0)) (some (([] : List TApiCell), r1.2)) (obn (rItems F v) fun r7 => obn (lop (fun σ => rGet_b1 key r1 r7 σ) F 0) (oute fun ν => rGet_k1 ))

def rPath_b1 (F : Nat) (path : (List Str)) (x37 : Int) (x38 : (List TApiCell)) (x39 : Int) : Option (Stp (Int × (List TApiCell) × Int) (Out ((List TApiCell) × Int) ((List TApiCell)))) :=
 cnd (decide (x39 < (path.length : Int))) (chk (inR x39 (path.length : Int)) <| obn (rGet F x38 (at' path x39)) fun r67 => cnd (!decide (r67.2 = 0)) (some (.out (.ret (([] : List TApiCell), r67.2)))) (chk (inK .i64 (x39 + 1)) <| some (.next (r67.2, r67.1, x39 + 1)))) (some (.out (.go x38)))

def rPath_k1 (x53 : (List TApiCell)) : Option ((List TApiCell) × Int) :=
 some (x53, 0)

def rPath (F : Nat) (v : (List TApiCell)) (path : (List Str)) : Option ((List TApiCell) × Int) :=
 obn (rCheck F v) fun r1 => cnd (!decide (r1 = 0)) (some (([] : List TApiCell), r1)) (obn (rPart F v 0 (v.length : Int)) fun r7 => obn (lop (fun σ => rPath_b1 F path σ.1 σ.2.1 σ.2.2) F (r1, r7, 0)) (oute fun ν => rPath_k1 ν))

def rPut_j2 (x214 : Int) (x376 : (List Str)) (x378 : (List (List TApiCell))) (x380 : Bool) : Option (Stp ((List Str) × (List (List TApiCell)) × Bool × Int) (Out ((List TApiCell) × Int) ((List Str) × (List (List TApiCell)) × Bool))) :=
 chk (inK .i64 (x214 + 1)) <| some (.next (x376, x378, x380, x214 + 1))

def rPut_b1 (key : Str) (x : (List TApiCell)) (r1 : (List Str) × Int) (r13 : (List (List TApiCell)) × Int) (x209 : (List Str)) (x211 : (List (List TApiCell))) (x213 : Bool) (x214 : Int) : Option (Stp ((List Str) × (List (List TApiCell)) × Bool × Int) (Out ((List TApiCell) × Int) ((List Str) × (List (List TApiCell)) × Bool))) :=
 cnd (decide (x214 < (r1.1.length : Int))) (chk (imp (!x213) (inR x214 (r1.1.length : Int))) <| cnd (((!x213) && (!sLess (at' r1.1 x214) key))) (chk (inA 16 (x209.length + ([key] : List Str).length)) <| chk (inA 24 (x211.length + ([x] : List (List TApiCell)).length)) <| chk (inR x214 (r1.1.length : Int)) <| cnd (!decide ((at' r1.1 x214) = key)) (chk (inA 16 ((x209 ++ ([key] : List Str)).length + ([at' r1.1 x214] : List Str).length)) <| chk (inR x214 (r13.1.length : Int)) <| chk (inA 24 ((x211 ++ ([x] : List (List TApiCell))).length + ([at' r13.1 x214] : List (List TApiCell)).length)) <| rPut_j2 x214 ((x209 ++ ([key] : List Str)) ++ ([at' r1.1 x214] : List Str)) ((x211 ++ ([x] : List (List TApiCell))) ++ ([at' r13.1 x214] : List (List TApiCell))) true) (rPut_j2 x214 (x209 ++ ([key] : List Str)) (x211 ++ ([x] : List (List TApiCell))) true)) (chk (inR x214 (r1.1.length : Int)) <| cnd (!decide ((at' r1.1 x214) = key)) (chk (inA 16 (x209.length + ([at' r1.1 x214] : List Str).length)) <| chk (inR x214 (r13.1.length : Int)) <| chk (inA 24 (x211.length + ([at' r13.1 x214] : List (List TApiCell)).length)) <| rPut_j2 x214 (x209 ++ ([at' r1.1 x214] : List Str)) (x211 ++ ([at' r13.1 x214] : List (List TApiCell))) x213) (rPut_j2 x214 x209 x211 x213))) (some (.out (.go (x209, x211, x213))))

def rPut_k1 (F : Nat) (key : Str) (x : (List TApiCell)) (x315 : (List Str)) (x317 : (List (List TApiCell))) (x319 : Bool) : Option ((List TApiCell) × Int) :=
 cnd (!x319) (chk (inA 16 (x315.length + ([key] : List Str).length)) <| chk (inA 24 (x317.length + ([x] : List (List TApiCell)).length)) <| obn (rMap F (x315 ++ ([key] : List Str)) (x317 ++ ([x] : List (List TApiCell)))) fun r442 => some (r442.1, r442.2)) (obn (rMap F x315 x317) fun r446 => some (r446.1, r446.2))

def rPut (F : Nat) (v : (List TApiCell)) (key : Str) (x : (List TApiCell)) : Option ((List TApiCell) × Int) :=
 obn (rKeys F v) fun r1 => cnd (!decide (r1.2 = 0)) (some (([] : List TApiCell), r1.2)) (obn (rCheck F x) fun r7 => cnd (!decide (r7 = 0)) (some (([] : List TApiCell), r7)) (obn (rItems F v) fun r13 => obn (lop (fun σ => rPut_b1 key x r1 r13 σ.1 σ.2.1 σ.2.2.1 σ.2.2.2) F (([] : List Str), ([] : List (List TApiCell)), false, 0)) (oute fun ν => rPut_k1 F key x ν.1 ν.2.1 ν.2.2)))

def lFinds (F : Nat) (v : (List TApiCell)) (key : Str) (x : (List TApiCell)) (path : (List Str)) : Option (Bool) :=
 chk ((lSmall F v).isSome) <| chk (imp (!(!(ov (lSmall F v)))) ((lSmall F x).isSome)) <| chk (imp (!(!(ov (lSmall F v)))) (imp (!(!(ov (lSmall F x)))) (imp (!(decide (300 < (key.length : Int)))) ((lNames F path).isSome)))) <| cnd (((!(ov (lSmall F v))) || ((!(ov (lSmall F x))) || ((decide (300 < (key.length : Int))) || (!(ov (lNames F path))))))) (obn (lAwake F) fun r12 => some r12) (obn (vItems F v) fun r16 => obn (rItems F v) fun r19 => obn (vKeys F v) fun r22 => obn (rKeys F v) fun r25 => obn (vGet F v key) fun r28 => obn (rGet F v key) fun r31 => obn (vPath F v path) fun r34 => obn (rPath F v path) fun r37 => obn (vPut F v key x) fun r40 => obn (rPut F v key x) fun r43 => chk ((lSame F r16.1 r19.1).isSome) <| chk (imp ((ov (lSame F r16.1 r19.1))) (imp (decide (r16.2 = r19.2)) ((lTexts F r22.1 r25.1).isSome))) <| chk (imp ((ov (lSame F r16.1 r19.1))) (imp (decide (r16.2 = r19.2)) (imp ((ov (lTexts F r22.1 r25.1))) (imp (decide (r22.2 = r25.2)) ((rSame F r28.1 r31.1).isSome))))) <| chk (imp ((ov (lSame F r16.1 r19.1))) (imp (decide (r16.2 = r19.2)) (imp ((ov (lTexts F r22.1 r25.1))) (imp (decide (r22.2 = r25.2)) (imp ((ov (rSame F r28.1 r31.1))) (imp (decide (r28.2 = r31.2)) ((rSame F r34.1 r37.1).isSome))))))) <| chk (imp ((ov (lSame F r16.1 r19.1))) (imp (decide (r16.2 = r19.2)) (imp ((ov (lTexts F r22.1 r25.1))) (imp (decide (r22.2 = r25.2)) (imp ((ov (rSame F r28.1 r31.1))) (imp (decide (r28.2 = r31.2)) (imp ((ov (rSame F r34.1 r37.1))) (imp (decide (r34.2 = r37.2)) ((rSame F r40.1 r43.1).isSome))))))))) <| chk (imp ((ov (lSame F r16.1 r19.1))) (imp (decide (r16.2 = r19.2)) (imp ((ov (lTexts F r22.1 r25.1))) (imp (decide (r22.2 = r25.2)) (imp ((ov (rSame F r28.1 r31.1))) (imp (decide (r28.2 = r31.2)) (imp ((ov (rSame F r34.1 r37.1))) (imp (decide (r34.2 = r37.2)) (imp ((ov (rSame F r40.1 r43.1))) (imp (decide (r40.2 = r43.2)) ((lAwake F).isSome))))))))))) <| some ((ov (lSame F r16.1 r19.1)) && ((decide (r16.2 = r19.2)) && ((ov (lTexts F r22.1 r25.1)) && ((decide (r22.2 = r25.2)) && ((ov (rSame F r28.1 r31.1)) && ((decide (r28.2 = r31.2)) && ((ov (rSame F r34.1 r37.1)) && ((decide (r34.2 = r37.2)) && ((ov (rSame F r40.1 r43.1)) && ((decide (r40.2 = r43.2)) && (ov (lAwake F)))))))))))))

end Go.Proofs.YtkalifgebccpcaaGreatDoor

/-
 Frozen slices of which it is known that they are nil if they are empty. Plain theorems.
-/
namespace Go.Proofs.YtkalifgebccpcaaGreatDoor.Q
open Go Go.RowKit
set_option linter.unusedVariables false
def rSn (sz : Nat) (xs : List (List Rp)) : Rp := ⟨fun Z v => SlZ sz xs Z v ∧ (xs = [] → v = .slice none 0 0), fun h ⟨a, b⟩ => ⟨SlZ.mono h a, b⟩, true, fun _ Z v ⟨⟨A, cap, e, _⟩, _⟩ => by rw [e]; rfl⟩
theorem Rle.sn {sz : Nat} {xs : List (List Rp)} : Rle (rSn sz xs) (rSl sz xs) := fun _ _ h => h.1
theorem Rle.niln (sz : Nat) : Rle (rv (.slice none 0 0)) (rSn sz []) := fun Z v h => by rw [show v = _ from h]; exact ⟨SlZ.nil sz Z, fun _ => rfl⟩
theorem Rle.upn {T : Type} {sz : Nat} {enc : T → List Rp} {ys : List T} (h : decide (0 < ys.length) = true) : Rle (rSl sz (List.map enc ys)) (rSn sz (List.map enc ys)) := fun Z v hv => ⟨hv, fun e => by
 have := of_decide_eq_true h
 rw [List.map_eq_nil_iff.1 e] at this
 exact absurd this (by simp)⟩
section
variable {P : Program} {n : Nat} {c : Cx} {l : Fr} {H : List Ent} {d : Option Nat} {ty rty t e : TypeId} {pos : String} {af : Array Edge} {g : Option (Nat × Bool)} {x : Operand} {sz : Nat}
theorem o_slnil_sn {T : Type} {enc : T → List Rp} {ys : List T} (ht : P.underlying t = some (.slice e)) (h : ev l x = some (rSn sz (List.map enc ys))) : ORun P n c l H { dst := d, op := .binOp .eql t x (.const (.slice none 0 0)) rty, type := ty, pos := pos, after := af, guard := g } (rB (List.isEmpty ys)) := fun a w Z ha hw => by
 obtain ⟨⟨A, cap, e1, h1, h2, h3, h4⟩, h5⟩ := ha.ev h
 have e2 : a.eval (.const (.slice none 0 0)) = .slice none 0 0 := rfl
 refine ⟨.bool A.isNone, ?_, ?_⟩
 ·show Value.bool A.isNone = .bool ys.isEmpty
  cases ys with
  | nil =>
   have := h5 rfl
   rw [e1] at this
   cases this; rfl
  | cons y r =>
   cases A with
   | some a => rfl
   | none =>
    have := h3 rfl
    simp only [List.length_map, List.length_cons] at h1
    omega
 ·have := run_equal_slice_nil (P := P) w t e A (List.map enc ys).length cap ht
  simp only [List.length_map] at this
  simp [execOp, e1, e2, binOp, this, eqGuard]
end
end Go.Proofs.YtkalifgebccpcaaGreatDoor.Q

/-
  Walks, printed by a small program of ours (gq.py).
-/
namespace Go.Proofs.YtkalifgebccpcaaGreatDoor.Q
open Go Go.RowKit
set_option linter.unusedVariables false
set_option linter.unusedSimpArgs false
set_option maxRecDepth 100000
set_option maxHeartbeats 4000000
theorem vGetF_w (b_key : Nat) (b_out : Nat) (k : Str) (x : (List TApiCell)) (key : Str) (out : (List TApiCell)) (r : Bool × (List TApiCell)) (h : vGetF k x key out = some r) : Fn Tryz.prog GE 58 [rS k, rSl 4 (List.map eTApiCell x), rv (.pointer (some ⟨b_key, 0, none⟩)), rv (.pointer (some ⟨b_out, 0, none⟩))] [.blk b_key [rS key] 9, .blk b_out [rSn 4 (List.map eTApiCell out)] 23] (fun R H => R = rB r.1 ∧ H = [.blk b_key [rS key] 9, .blk b_out [rSn 4 (List.map eTApiCell r.2)] 23]) := by
 refine enter (n := 15) Tryz.func58 rfl Tryz.ntmps58 rfl (fun w Z => ?_)
 refine wc_as (l' := [(0, rS k), (1, rSl 4 (List.map eTApiCell x)), (2, rv (.pointer (some ⟨b_key, 0, none⟩))), (3, rv (.pointer (some ⟨b_out, 0, none⟩)))]) (H' := [.blk b_key [rS key] 9, .blk b_out [rSn 4 (List.map eTApiCell out)] 23]) rfl rfl ?_
 unfold vGetF at h
 refine wc_sr ?_
 refine wv (r := rB false) (o_assign rfl) ?_
 refine wl_x ?_
 refine wc_seq ?_
 refine wc_sr ?_
 refine wm rfl ?_
 refine wv (o_load (i := 0) Tryz.isAgg9 rfl rfl rfl) ?_
 refine wv (o_seq rfl rfl) ?_
 refine wl_x ?_
 refine wc_cond (b := decide (k = key)) rfl (fun c1 => ?_) (fun c1 => ?_)
 ·have h2 := cnd_t c1 h
  refine wc_region ?_
  refine wm rfl ?_
  obtain ⟨r3, e5, h4⟩ := obn_e h2
  refine wc0 Tryz.call54 (cloneN_w x r3 e5) rfl ?_
  obtain ⟨g6, h7⟩ := chk_e h4
  refine WL.up (d := 11) (r := rSn 4 (List.map eTApiCell r3)) rfl (Up.le (Rle.upn g6)) ?_
  refine u_store (i := 1) Tryz.sizeOf23 rfl rfl (one_c rfl) rfl rfl (cs' := [rSn 4 (List.map eTApiCell r3)]) rfl (H' := [.blk b_key [rS key] 9, .blk b_out [rSn 4 (List.map eTApiCell r3)] 23]) rfl ?_
  refine wl_y ?_
  refine wm rfl ?_
  refine wv (o_load (i := 0) Tryz.isAgg9 rfl rfl rfl) ?_
  refine wv (o_sne rfl rfl) ?_
  refine wa rfl ?_
  refine wl_x ?_
  refine wc_ret ?_
  obtain rfl := some_e h7
  exact wk_ret (r_1 Tryz.results58 (rv_t rfl)) (sC (sC sN)) ⟨rfl, rfl⟩
 ·have h8 := cnd_f c1 h
  refine wc_skip ?_
  refine wk_x ?_
  refine wc_sr ?_
  refine wm rfl ?_
  refine wv (o_load (i := 0) Tryz.isAgg9 rfl rfl rfl) ?_
  refine wv (o_sne rfl rfl) ?_
  refine wa rfl ?_
  refine wl_x ?_
  refine wc_ret ?_
  obtain rfl := some_e h8
  exact wk_ret (r_1 Tryz.results58 (rv_t rfl)) (sC (sC sN)) ⟨rfl, rfl⟩

theorem vGetP_w (F : Nat) (b_key : Nat) (b_out : Nat) (v : (List TApiCell)) (key : Str) (out : (List TApiCell)) (r : (List TApiCell)) (h : vGetP F v key out = some r) : Fn Tryz.prog GE 52 [rSl 4 (List.map eTApiCell v), rv (.func (.func 58) #[] #[(.pointer (some ⟨b_key, 0, none⟩)), (.pointer (some ⟨b_out, 0, none⟩))])] [.blk b_key [rS key] 9, .blk b_out [rSn 4 (List.map eTApiCell out)] 23] (fun R H => R = rv (.tuple #[]) ∧ H = [.blk b_key [rS key] 9, .blk b_out [rSn 4 (List.map eTApiCell r)] 23]) := by
 refine enter (n := 52) Tryz.func52 rfl Tryz.ntmps52 rfl (fun w Z => ?_)
 refine wc_as (l' := [(0, rSl 4 (List.map eTApiCell v)), (1, rv (.func (.func 58) #[] #[(.pointer (some ⟨b_key, 0, none⟩)), (.pointer (some ⟨b_out, 0, none⟩))]))]) (H' := [.blk b_key [rS key] 9, .blk b_out [rSn 4 (List.map eTApiCell out)] 23]) rfl rfl ?_
 unfold vGetP at h
 refine wc_sr ?_
 refine wv (r := rI .i64 1) (o_assign rfl) ?_
 refine wl_y ?_
 refine wm rfl ?_
 obtain ⟨g1, h2⟩ := chk_e h
 refine wv (o_ix_z (enc := eTApiCell) (ys := v) Tryz.underlying23 Tryz.sizeOf63 rfl rfl g1) ?_
 refine wv (o_fieldAddr_z Tryz.underlying63 rfl Tryz.sizeOf3 rfl rfl) ?_
 refine wv (o_load_z Tryz.isAgg3 rfl rfl) ?_
 refine wv (r := rI .i64 0) (o_move rfl) ?_
 refine wl_x ?_
 refine wc_block ?_
 obtain ⟨o154, eo155, hK156⟩ := obn_e h2
 refine wc_loop2 (S := Nat × (Int × Int × (List TApiCell)) × (Unit)) (V := ((List TApiCell)) × (Unit)) 0 (fun σ => lop (fun σ => vGetP_b1 F v key σ.1 σ.2.1 σ.2.2) σ.1 σ.2.1 = some o154) (fun σ => [(0, rSl 4 (List.map eTApiCell v)), (1, rv (.func (.func 58) #[] #[(.pointer (some ⟨b_key, 0, none⟩)), (.pointer (some ⟨b_out, 0, none⟩))])), (4, rI .i64 σ.2.1.1), (12, rI .i64 ((at' v 0).fN)), (13, rI .i64 σ.2.1.2.1)]) (fun σ => [.blk b_key [rS key] 9, .blk b_out [rSn 4 (List.map eTApiCell σ.2.1.2.2)] 23]) (fun σ => σ.1) (F, (1, 0, out), ()) eo155 (Sub.c5 rfl rfl rfl rfl rfl Sub.nil) (sC (sC sN)) (fun σ => vGetP_k1 σ.1 = some r) (fun σ => []) (fun σ => [.blk b_key [rS key] 9, .blk b_out [rSn 4 (List.map eTApiCell σ.1)] 23]) ?_ ?_
 ·rintro ⟨n162, ⟨x100, x101, x102⟩, ⟨⟩⟩ hi160
  refine wc_as (l' := [(0, rSl 4 (List.map eTApiCell v)), (1, rv (.func (.func 58) #[] #[(.pointer (some ⟨b_key, 0, none⟩)), (.pointer (some ⟨b_out, 0, none⟩))])), (4, rI .i64 x100), (12, rI .i64 ((at' v 0).fN)), (13, rI .i64 x101)]) (H' := [.blk b_key [rS key] 9, .blk b_out [rSn 4 (List.map eTApiCell x102)] 23]) rfl rfl ?_
  obtain ⟨m159, rfl, t157, h161, ht158⟩ := lop_e hi160
  replace h161 : vGetP_b1 F v key x100 x101 x102 = some t157 := h161
  unfold vGetP_b1 at h161
  refine wc_sr ?_
  refine wv (o_lt rfl rfl) ?_
  refine wl_x ?_
  refine wc_seq ?_
  refine wc_cond (b := decide (x101 < ((at' v 0).fN))) rfl (fun c163 => ?_) (fun c163 => ?_)
  ·have h164 := cnd_t c163 h161
   refine wc_skip ?_
   refine wk_x ?_
   refine wc_seq ?_
   refine wc_block ?_
   refine wc_sr ?_
   refine wv (r := rS ([] : Str)) (o_assign rfl) ?_
   refine wl_x ?_
   refine wc_seq ?_
   refine wc_sr ?_
   refine wm rfl ?_
   refine wv (o_ix_z (enc := eTApiCell) (ys := v) Tryz.underlying23 Tryz.sizeOf63 rfl rfl g1) ?_
   refine wv (o_fieldAddr_z Tryz.underlying63 rfl Tryz.sizeOf61 rfl rfl) ?_
   refine wv (o_load_z Tryz.isAgg61 rfl rfl) ?_
   refine wv (o_eq rfl rfl) ?_
   refine wl_x ?_
   refine wc_cond (b := decide (((at' v 0).fKind) = 6)) rfl (fun c165 => ?_) (fun c165 => ?_)
   ·have h166 := cnd_t c165 h164
    refine wc_sr ?_
    refine wm rfl ?_
    refine wm rfl ?_
    obtain ⟨g167, h168⟩ := chk_e h166
    refine wv (o_ix_z (enc := eTApiCell) (ys := v) Tryz.underlying23 Tryz.sizeOf63 rfl rfl g167) ?_
    refine wv (o_fieldAddr_z Tryz.underlying63 rfl Tryz.sizeOf9 rfl rfl) ?_
    refine wv (o_load_z Tryz.isAgg9 rfl rfl) ?_
    refine wa rfl ?_
    refine wl_x ?_
    refine wc_region ?_
    refine wm rfl ?_
    obtain ⟨g169, h170⟩ := chk_e h168
    refine wv (o_add rfl rfl g169) ?_
    refine wa rfl ?_
    refine wl_y ?_
    refine wm rfl ?_
    refine wm rfl ?_
    obtain ⟨g171, h172⟩ := chk_e h170
    refine wv (r := rSl 4 (List.map eTApiCell (List.drop (Int.toNat (x100 + 1)) v))) (o_slice_zl Tryz.underlying23 Tryz.sizeOf63 rfl rfl g171) ?_
    obtain ⟨r173, e175, h174⟩ := obn_e h172
    refine wc0 Tryz.call63 (vLook_w F (List.drop (Int.toNat (x100 + 1)) v) r173 e175) rfl ?_
    refine wm rfl ?_
    refine wv (o_extract rfl rfl) ?_
    refine wv (o_extract rfl rfl) ?_
    refine wv (o_extract rfl rfl) ?_
    refine w_alloc (cs := [rI .i64 0, rI .i64 0, rB false, rB false]) Tryz.zeroValue78 rfl rfl (fun b176 => ?_)
    refine wa rfl ?_
    refine u_store_agg (i := 0) Tryz.sizeOf78 rfl rfl rfl (OneAll.c rfl) rfl rfl (cs' := [rI .i64 r173.2.1.fDepth, rI .i64 r173.2.1.fBytes, rB r173.2.1.fOutside, rB r173.2.1.fLong]) rfl (H' := [.blk b176 (eTValueShape r173.2.1) 78, .blk b_key [rS key] 9, .blk b_out [rSn 4 (List.map eTApiCell x102)] 23]) rfl ?_
    refine wa rfl ?_
    refine wl_x ?_
    refine wc_seq ?_
    refine wc_sr ?_
    refine wm rfl ?_
    refine wm rfl ?_
    refine wm rfl ?_
    refine wm rfl ?_
    refine wm rfl ?_
    refine wm rfl ?_
    obtain ⟨g177, h178⟩ := chk_e h174
    refine wv (o_add rfl rfl g177) ?_
    refine wm rfl ?_
    refine wm rfl ?_
    refine wv (o_add rfl rfl g177) ?_
    obtain ⟨g179, h180⟩ := chk_e h178
    obtain ⟨g181, h182⟩ := chk_e h180
    refine wv (r := rSl 4 (List.map eTApiCell (List.take (Int.toNat ((x100 + 1) + r173.1) - Int.toNat (x100 + 1)) (List.drop (Int.toNat (x100 + 1)) v)))) (o_slice_zm Tryz.underlying23 Tryz.sizeOf63 rfl rfl rfl rfl g179 g181) ?_
    obtain ⟨r183, e185, h184⟩ := obn_e h182
    refine w_callc (rs := [rS ((at' v x100).fStr), rSl 4 (List.map eTApiCell (List.take (Int.toNat ((x100 + 1) + r173.1) - Int.toNat (x100 + 1)) (List.drop (Int.toNat (x100 + 1)) v)))]) (Hin := [.blk b_key [rS key] 9, .blk b_out [rSn 4 (List.map eTApiCell x102)] 23]) (Hr := [.blk b176 (eTValueShape r173.2.1) 78]) Tryz.call58 rfl rfl ((perm_front (i := 1) rfl).trans (List.Perm.cons _ ((perm_front (i := 1) rfl).trans (List.Perm.cons _ (List.Perm.refl _))))) (vGetF_w b_key b_out ((at' v x100).fStr) (List.take (Int.toNat ((x100 + 1) + r173.1) - Int.toNat (x100 + 1)) (List.drop (Int.toNat (x100 + 1)) v)) key x102 r183 e185) rfl ?_
    rintro _ _ ⟨rfl, rfl⟩
    refine wv (o_not rfl) ?_
    refine wl_x ?_
    refine wc_cond (b := !r183.1) rfl (fun c186 => ?_) (fun c186 => ?_)
    ·have h187 := cnd_t c186 h184
     refine wc_ret ?_
     refine wk_then_ret ?_
     refine wk_in_ret ?_
     refine wk_then_ret ?_
     refine wk_then_ret ?_
     refine wk_cut_ret ?_
     have h188 := stp_ret h187 ht158 hK156
     refine wk_in_ret ?_
     obtain rfl := some_e h188
     exact wk_ret (r_0 Tryz.results52) (sC (sC (sS sN))) ⟨rfl, rfl⟩
    ·have h189 := cnd_f c186 h184
     refine wc_skip ?_
     refine wk_x ?_
     refine wc_region ?_
     refine wm rfl ?_
     refine wm rfl ?_
     refine wv (o_add rfl rfl g177) ?_
     refine wa rfl ?_
     refine wl_nil ?_
     refine wk_in_norm ?_
     refine wk_x ?_
     refine wc_region ?_
     obtain ⟨g190, h191⟩ := chk_e h189
     refine wv (o_add rfl rfl g190) ?_
     refine wm rfl ?_
     refine wl_nil ?_
     have h192 := stp_next h191 ht158
     exact wk_then (wk_some (m159, ((x100 + 1) + r173.1, x101 + 1, r183.2), ()) ⟨h192, Nat.lt_succ_self _⟩ (Sub.c5 rfl rfl rfl rfl rfl Sub.nil) (sC (sC (sS sN))))
   ·have h193 := cnd_f c165 h164
    refine wc_skip ?_
    refine wk_x ?_
    refine wc_sr ?_
    refine wm rfl ?_
    refine wm rfl ?_
    obtain ⟨g194, h195⟩ := chk_e h193
    refine wv (r := rSl 4 (List.map eTApiCell (List.drop (Int.toNat x100) v))) (o_slice_zl Tryz.underlying23 Tryz.sizeOf63 rfl rfl g194) ?_
    obtain ⟨r196, e198, h197⟩ := obn_e h195
    refine wc0 Tryz.call63 (vLook_w F (List.drop (Int.toNat x100) v) r196 e198) rfl ?_
    refine wm rfl ?_
    refine wv (o_extract rfl rfl) ?_
    refine wv (o_extract rfl rfl) ?_
    refine wv (o_extract rfl rfl) ?_
    refine w_alloc (cs := [rI .i64 0, rI .i64 0, rB false, rB false]) Tryz.zeroValue78 rfl rfl (fun b199 => ?_)
    refine wa rfl ?_
    refine u_store_agg (i := 0) Tryz.sizeOf78 rfl rfl rfl (OneAll.c rfl) rfl rfl (cs' := [rI .i64 r196.2.1.fDepth, rI .i64 r196.2.1.fBytes, rB r196.2.1.fOutside, rB r196.2.1.fLong]) rfl (H' := [.blk b199 (eTValueShape r196.2.1) 78, .blk b_key [rS key] 9, .blk b_out [rSn 4 (List.map eTApiCell x102)] 23]) rfl ?_
    refine wa rfl ?_
    refine wl_x ?_
    refine wc_seq ?_
    refine wc_sr ?_
    refine wm rfl ?_
    refine wm rfl ?_
    refine wm rfl ?_
    refine wm rfl ?_
    refine wm rfl ?_
    refine wm rfl ?_
    obtain ⟨g200, h201⟩ := chk_e h197
    refine wv (o_add rfl rfl g200) ?_
    refine wm rfl ?_
    refine wm rfl ?_
    refine wv (o_add rfl rfl g200) ?_
    obtain ⟨g202, h203⟩ := chk_e h201
    obtain ⟨g204, h205⟩ := chk_e h203
    refine wv (r := rSl 4 (List.map eTApiCell (List.take (Int.toNat (x100 + r196.1) - Int.toNat x100) (List.drop (Int.toNat x100) v)))) (o_slice_zm Tryz.underlying23 Tryz.sizeOf63 rfl rfl rfl rfl g202 g204) ?_
    obtain ⟨r206, e208, h207⟩ := obn_e h205
    refine w_callc (rs := [rS ([] : Str), rSl 4 (List.map eTApiCell (List.take (Int.toNat (x100 + r196.1) - Int.toNat x100) (List.drop (Int.toNat x100) v)))]) (Hin := [.blk b_key [rS key] 9, .blk b_out [rSn 4 (List.map eTApiCell x102)] 23]) (Hr := [.blk b199 (eTValueShape r196.2.1) 78]) Tryz.call58 rfl rfl ((perm_front (i := 1) rfl).trans (List.Perm.cons _ ((perm_front (i := 1) rfl).trans (List.Perm.cons _ (List.Perm.refl _))))) (vGetF_w b_key b_out ([] : Str) (List.take (Int.toNat (x100 + r196.1) - Int.toNat x100) (List.drop (Int.toNat x100) v)) key x102 r206 e208) rfl ?_
    rintro _ _ ⟨rfl, rfl⟩
    refine wv (o_not rfl) ?_
    refine wl_x ?_
    refine wc_cond (b := !r206.1) rfl (fun c209 => ?_) (fun c209 => ?_)
    ·have h210 := cnd_t c209 h207
     refine wc_ret ?_
     refine wk_then_ret ?_
     refine wk_in_ret ?_
     refine wk_then_ret ?_
     refine wk_then_ret ?_
     refine wk_cut_ret ?_
     have h211 := stp_ret h210 ht158 hK156
     refine wk_in_ret ?_
     obtain rfl := some_e h211
     exact wk_ret (r_0 Tryz.results52) (sC (sC (sS sN))) ⟨rfl, rfl⟩
    ·have h212 := cnd_f c209 h207
     refine wc_skip ?_
     refine wk_x ?_
     refine wc_region ?_
     refine wm rfl ?_
     refine wm rfl ?_
     refine wv (o_add rfl rfl g200) ?_
     refine wa rfl ?_
     refine wl_nil ?_
     refine wk_in_norm ?_
     refine wk_x ?_
     refine wc_region ?_
     obtain ⟨g213, h214⟩ := chk_e h212
     refine wv (o_add rfl rfl g213) ?_
     refine wm rfl ?_
     refine wl_nil ?_
     have h215 := stp_next h214 ht158
     exact wk_then (wk_some (m159, (x100 + r196.1, x101 + 1, r206.2), ()) ⟨h215, Nat.lt_succ_self _⟩ (Sub.c5 rfl rfl rfl rfl rfl Sub.nil) (sC (sC (sS sN))))
  ·have h216 := cnd_f c163 h161
   refine wc_exit ?_
   refine wk_then_exit ?_
   have h217 := stp_go h216 ht158 hK156
   exact wk_then_exit (wk_cut_hit (wk_some (x102, ()) h217 Sub.nil (sC (sC sN))))
 ·rintro ⟨x153, ⟨⟩⟩ h218
  refine wk_as (l' := []) (H' := [.blk b_key [rS key] 9, .blk b_out [rSn 4 (List.map eTApiCell x153)] 23]) rfl rfl ?_
  replace h218 : vGetP_k1 x153 = some r := h218
  unfold vGetP_k1 at h218
  refine wk_in_hit ?_
  obtain rfl := some_e h218
  exact wk_end (r_0 Tryz.results52) (sC (sC sN)) ⟨rfl, rfl⟩

theorem vGet_w (F : Nat) (v : (List TApiCell)) (key : Str) (r : (List TApiCell) × Int) (h : vGet F v key = some r) : Fn Tryz.prog GE 33 [rSl 4 (List.map eTApiCell v), rS key] [] (fun R H => R = rTup [rSl 4 (List.map eTApiCell r.1), rI .i64 r.2] ∧ H = []) := by
 refine enter (n := 24) Tryz.func33 rfl Tryz.ntmps33 rfl (fun w Z => ?_)
 refine wc_as (l' := [(0, rSl 4 (List.map eTApiCell v)), (1, rS key)]) (H' := []) rfl rfl ?_
 unfold vGet at h
 refine wc_sr ?_
 refine w_box rfl (one_c rfl) rfl (fun b1 => ?_)
 refine wv (r := rv (.slice none 0 0)) (o_assign rfl) ?_
 refine wv (r := rI .i64 0) (o_assign rfl) ?_
 refine wl_x ?_
 refine wc_seq ?_
 refine wc_sr ?_
 refine wm rfl ?_
 obtain ⟨r2, e4, h3⟩ := obn_e h
 refine wc0 Tryz.call43 (vCheck_w F v r2 e4) rfl ?_
 refine wa rfl ?_
 refine wl_y ?_
 refine wm rfl ?_
 refine wv (o_ne rfl rfl) ?_
 refine wl_x ?_
 refine wc_cond (b := !decide (r2 = 0)) rfl (fun c5 => ?_) (fun c5 => ?_)
 ·have h6 := cnd_t c5 h3
  refine wc_sr ?_
  refine wm rfl ?_
  refine wv (r := rv (.slice none 0 0)) (o_assign rfl) ?_
  refine wa rfl ?_
  refine wl_x ?_
  refine wc_ret ?_
  refine wk_then_ret ?_
  refine WK.up (d := 4) (r := rSl 4 (List.map eTApiCell ([] : List TApiCell))) rfl (Up.le (Rle.nil _)) ?_
  obtain rfl := some_e h6
  exact wk_ret (r_2 Tryz.results33 (rv_t rfl) (rv_t rfl)) (sS sN) ⟨rfl, rfl⟩
 ·have h7 := cnd_f c5 h3
  refine wc_skip ?_
  refine wk_x ?_
  refine wc_seq ?_
  refine wc_sr ?_
  refine wm rfl ?_
  obtain ⟨g8, h9⟩ := chk_e h7
  refine wv (o_ix_z (enc := eTApiCell) (ys := v) Tryz.underlying23 Tryz.sizeOf63 rfl rfl g8) ?_
  refine wv (o_fieldAddr_z Tryz.underlying63 rfl Tryz.sizeOf61 rfl rfl) ?_
  refine wv (o_load_z Tryz.isAgg61 rfl rfl) ?_
  refine wv (o_ne rfl rfl) ?_
  refine wl_x ?_
  refine wc_cond (b := !decide (((at' v 0).fKind) = 6)) rfl (fun c10 => ?_) (fun c10 => ?_)
  ·have h11 := cnd_t c10 h9
   refine wc_sr ?_
   refine wv (r := rv (.slice none 0 0)) (o_assign rfl) ?_
   refine wv (r := rI .i64 7) (o_assign rfl) ?_
   refine wl_x ?_
   refine wc_ret ?_
   refine wk_then_ret ?_
   refine WK.up (d := 4) (r := rSl 4 (List.map eTApiCell ([] : List TApiCell))) rfl (Up.le (Rle.nil _)) ?_
   obtain rfl := some_e h11
   exact wk_ret (r_2 Tryz.results33 (rv_t rfl) (rv_t rfl)) (sS sN) ⟨rfl, rfl⟩
  ·have h12 := cnd_f c10 h9
   refine wc_skip ?_
   refine wk_x ?_
   refine wc_sr ?_
   refine w_alloc (cs := [rv (.slice none 0 0)]) Tryz.zeroValue23 rfl rfl (fun b13 => ?_)
   refine wl_y ?_
   refine wm rfl ?_
   refine wv (r := rv (.func (.func 58) #[] #[(.pointer (some ⟨b1, 0, none⟩)), (.pointer (some ⟨b13, 0, none⟩))])) (o_makeFunc rfl) ?_
   refine WL.upBlk (i := 0) (cs' := [rSn 4 (List.map eTApiCell ([] : List TApiCell))]) rfl ⟨Up.le (Rle.niln _), trivial⟩ ?_
   obtain ⟨r14, e16, h15⟩ := obn_e h12
   refine wcl (Hr := []) Tryz.call52 (vGetP_w F b1 b13 v key ([] : List TApiCell) r14 e16) rfl ((perm_front (i := 1) rfl).trans (List.Perm.cons _ (List.Perm.refl _))) rfl ?_
   rintro _ _ ⟨rfl, rfl⟩
   refine wl_x ?_
   refine wc_seq ?_
   refine wc_sr ?_
   refine wv (o_load (i := 1) Tryz.isAgg23 rfl rfl rfl) ?_
   refine wv (r := rB (List.isEmpty r14)) (o_slnil_sn Tryz.underlying23 rfl) ?_
   refine wl_x ?_
   refine wc_cond (b := List.isEmpty r14) rfl (fun c17 => ?_) (fun c17 => ?_)
   ·have h18 := cnd_t c17 h15
    refine wc_sr ?_
    refine wv (r := rv (.slice none 0 0)) (o_assign rfl) ?_
    refine wv (r := rI .i64 5) (o_assign rfl) ?_
    refine wl_x ?_
    refine wc_ret ?_
    refine wk_then_ret ?_
    refine WK.up (d := 4) (r := rSl 4 (List.map eTApiCell ([] : List TApiCell))) rfl (Up.le (Rle.nil _)) ?_
    obtain rfl := some_e h18
    exact wk_ret (r_2 Tryz.results33 (rv_t rfl) (rv_t rfl)) (sS (sS sN)) ⟨rfl, rfl⟩
   ·have h19 := cnd_f c17 h15
    refine wc_skip ?_
    refine wk_x ?_
    refine wc_sr ?_
    refine wv (o_load (i := 1) Tryz.isAgg23 rfl rfl rfl) ?_
    refine wa rfl ?_
    refine wv (r := rI .i64 0) (o_assign rfl) ?_
    refine wl_x ?_
    refine wc_ret ?_
    refine WK.up (d := 4) (r := rSl 4 (List.map eTApiCell r14)) rfl (Up.le Rle.sn) ?_
    obtain rfl := some_e h19
    exact wk_ret (r_2 Tryz.results33 (rv_t rfl) (rv_t rfl)) (sS (sS sN)) ⟨rfl, rfl⟩

theorem vPutA_w (b_out : Nat) (v_out_0 : Value) (k : Str) (y : (List TApiCell)) (out : (List TApiCell)) (r : (List TApiCell)) (h : vPutA k y out = some r) : Fn Tryz.prog GE 59 [rS k, rSl 4 (List.map eTApiCell y), rv (.pointer (some ⟨b_out, 0, none⟩))] [.blk b_out [rv v_out_0] 23, .row v_out_0 63 4 (List.map eTApiCell out)] (fun R H => ∃ w2_0 : Value, R = rv (.tuple #[]) ∧ H = [.blk b_out [rv w2_0] 23, .row w2_0 63 4 (List.map eTApiCell r)]) := by
 refine enter (n := 20) Tryz.func59 rfl Tryz.ntmps59 rfl (fun w Z => ?_)
 refine wc_as (l' := [(0, rS k), (1, rSl 4 (List.map eTApiCell y)), (2, rv (.pointer (some ⟨b_out, 0, none⟩)))]) (H' := [.blk b_out [rv v_out_0] 23, .row v_out_0 63 4 (List.map eTApiCell out)]) rfl rfl ?_
 unfold vPutA at h
 refine wc_sr ?_
 refine wv (o_load (i := 0) Tryz.isAgg23 rfl rfl rfl) ?_
 obtain ⟨g1, h2⟩ := chk_e h
 refine wv (r := rv (elp 4 v_out_0 (Int.toNat 0) 0)) (o_ix_w (i := 1) Tryz.underlying23 Tryz.sizeOf63 rfl rfl rfl (len_map g1)) ?_
 refine wv (r := rv (elp 4 v_out_0 (Int.toNat 0) 3)) (o_fa_w (k := 1) Tryz.underlying63 rfl Tryz.sizeOf3 rfl (len_map g1) rfl rfl rfl) ?_
 refine wv (r := rI .i64 ((at' out 0).fN)) (o_ld_w (enc := eTApiCell) (ys := out) (i := 1) (j := 0) Tryz.isAgg3 rfl rfl g1 rfl) ?_
 obtain ⟨g3, h4⟩ := chk_e h2
 refine wv (o_add rfl rfl g3) ?_
 refine wv (r := rv (elp 4 v_out_0 (Int.toNat 0) 0)) (o_ix_w (i := 1) Tryz.underlying23 Tryz.sizeOf63 rfl rfl rfl (len_map g1)) ?_
 refine wv (r := rv (elp 4 v_out_0 (Int.toNat 0) 3)) (o_fa_w (k := 1) Tryz.underlying63 rfl Tryz.sizeOf3 rfl (len_map g1) rfl rfl rfl) ?_
 refine u_st_w (enc := eTApiCell) (ys := out) (y' := (TApiCell.mk ((at' out 0).fKind) ((at' out 0).fInt) ((at' out 0).fStr) (((at' out 0).fN) + 1))) (i := 1) (j := 0) Tryz.sizeOf3 rfl rfl (one_c rfl) rfl g1 rfl rfl (H' := [.blk b_out [rv v_out_0] 23, .row v_out_0 63 4 (List.map eTApiCell (List.set out (Int.toNat 0) (TApiCell.mk ((at' out 0).fKind) ((at' out 0).fInt) ((at' out 0).fStr) (((at' out 0).fN) + 1))))]) rfl ?_
 obtain ⟨r5, e7, h6⟩ := bnd_e h4
 rw [← e7]
 refine wl_y ?_
 refine wv (o_load (i := 0) Tryz.isAgg23 rfl rfl rfl) ?_
 refine wm rfl ?_
 refine wv (r := rAgg [rI .i64 4, rI .i64 0, rS k, rI .i64 0]) (o_build63_0_2 rfl rfl rfl rfl) ?_
 refine w_buildSlice (ys := ([(TApiCell.mk 4 0 k 0)] : List TApiCell)) (enc := eTApiCell) (css := [[rI .i64 4, rI .i64 0, rS k, rI .i64 0]]) (xs := [.tmp 14]) Tryz.underlying23 Tryz.sizeOf63 Tryz.zeroValue63 rfl rfl rfl ⟨Cel.agg ⟨Up.refl _, Up.refl _, Up.refl _, Up.refl _, trivial⟩, trivial⟩ rfl eTApiCell_len rfl rfl rfl (fun b8 => ?_)
 obtain ⟨g10, h11⟩ := chk_e h6
 obtain ⟨inf, hinf⟩ := info63
 refine w_append (xs := r5) (ys := ([(TApiCell.mk 4 0 k 0)] : List TApiCell)) (enc := eTApiCell) (i := 2) Tryz.underlying23 hinf.1 hinf.2.1 hinf.2.2.1 hinf.2.2.2 rfl rfl rfl rfl rfl (Src.w (i := 0) rfl rfl) eTApiCell_len eTApiCell_one g10 rfl (fun v9 => ?_)
 refine u_store (i := 2) Tryz.sizeOf23 rfl rfl (one_row (i := 0) rfl) rfl rfl (cs' := [rv v9]) rfl (H' := [.row v9 63 4 (List.map eTApiCell (r5 ++ ([(TApiCell.mk 4 0 k 0)] : List TApiCell))), .row (.slice (some ⟨b8, 0, none⟩) 1 1) 63 4 (List.map eTApiCell ([(TApiCell.mk 4 0 k 0)] : List TApiCell)), .blk b_out [rv v9] 23]) rfl ?_
 refine wl_x ?_
 refine wc_region ?_
 refine wv (o_load (i := 2) Tryz.isAgg23 rfl rfl rfl) ?_
 refine wm rfl ?_
 obtain ⟨g13, h14⟩ := chk_e h11
 obtain ⟨inf, hinf⟩ := info63
 refine w_append (xs := r5 ++ ([(TApiCell.mk 4 0 k 0)] : List TApiCell)) (ys := y) (enc := eTApiCell) (i := 0) Tryz.underlying23 hinf.1 hinf.2.1 hinf.2.2.1 hinf.2.2.2 rfl rfl rfl rfl rfl (Src.z rfl rfl) eTApiCell_len eTApiCell_one g13 rfl (fun v12 => ?_)
 refine u_store (i := 2) Tryz.sizeOf23 rfl rfl (one_row (i := 0) rfl) rfl rfl (cs' := [rv v12]) rfl (H' := [.row v12 63 4 (List.map eTApiCell ((r5 ++ ([(TApiCell.mk 4 0 k 0)] : List TApiCell)) ++ y)), .row (.slice (some ⟨b8, 0, none⟩) 1 1) 63 4 (List.map eTApiCell ([(TApiCell.mk 4 0 k 0)] : List TApiCell)), .blk b_out [rv v12] 23]) rfl ?_
 refine wl_nil ?_
 refine wk_perm (H2 := [.blk b_out [rv v12] 23, .row v12 63 4 (List.map eTApiCell ((r5 ++ ([(TApiCell.mk 4 0 k 0)] : List TApiCell)) ++ y)), .row (.slice (some ⟨b8, 0, none⟩) 1 1) 63 4 (List.map eTApiCell ([(TApiCell.mk 4 0 k 0)] : List TApiCell))]) ((perm_front (i := 2) rfl).trans (List.Perm.cons _ (List.Perm.refl _))) ?_
 obtain rfl := some_e h14
 exact wk_end (r_0 Tryz.results59) (sC (sC (sS sN))) ⟨v12, rfl, rfl⟩

theorem vPutF_w (b_done : Nat) (b_key : Nat) (bx_59 : Nat) (b_out : Nat) (v_out_0 : Value) (b_xx : Nat) (k : Str) (y : (List TApiCell)) (done : Bool) (key : Str) (out : (List TApiCell)) (xx : (List TApiCell)) (r : Bool × Bool × (List TApiCell)) (h : vPutF k y done key out xx = some r) : Fn Tryz.prog GE 60 [rS k, rSl 4 (List.map eTApiCell y), rv (.pointer (some ⟨b_done, 0, none⟩)), rv (.pointer (some ⟨b_key, 0, none⟩)), rv (.pointer (some ⟨bx_59, 0, none⟩)), rv (.pointer (some ⟨b_xx, 0, none⟩))] [.blk b_done [rB done] 4, .blk b_key [rS key] 9, .blk bx_59 [rv (.func (.func 59) #[] #[(.pointer (some ⟨b_out, 0, none⟩))])] 70, .blk b_out [rv v_out_0] 23, .row v_out_0 63 4 (List.map eTApiCell out), .blk b_xx [rSl 4 (List.map eTApiCell xx)] 23] (fun R H => ∃ w4_0_0 : Value, R = rB r.1 ∧ H = [.blk b_done [rB r.2.1] 4, .blk b_key [rS key] 9, .blk bx_59 [rv (.func (.func 59) #[] #[(.pointer (some ⟨b_out, 0, none⟩))])] 70, .blk b_out [rv w4_0_0] 23, .row w4_0_0 63 4 (List.map eTApiCell r.2.2), .blk b_xx [rSl 4 (List.map eTApiCell xx)] 23]) := by
 refine enter (n := 27) Tryz.func60 rfl Tryz.ntmps60 rfl (fun w Z => ?_)
 refine wc_as (l' := [(0, rS k), (1, rSl 4 (List.map eTApiCell y)), (2, rv (.pointer (some ⟨b_done, 0, none⟩))), (3, rv (.pointer (some ⟨b_key, 0, none⟩))), (4, rv (.pointer (some ⟨bx_59, 0, none⟩))), (5, rv (.pointer (some ⟨b_xx, 0, none⟩)))]) (H' := [.blk b_done [rB done] 4, .blk b_key [rS key] 9, .blk bx_59 [rv (.func (.func 59) #[] #[(.pointer (some ⟨b_out, 0, none⟩))])] 70, .blk b_out [rv v_out_0] 23, .row v_out_0 63 4 (List.map eTApiCell out), .blk b_xx [rSl 4 (List.map eTApiCell xx)] 23]) rfl rfl ?_
 unfold vPutF at h
 refine wc_sr ?_
 refine wv (r := rB false) (o_assign rfl) ?_
 refine wl_x ?_
 refine wc_seq ?_
 refine wc_seq_mid [(0, rS k), (1, rSl 4 (List.map eTApiCell y)), (2, rv (.pointer (some ⟨b_done, 0, none⟩))), (3, rv (.pointer (some ⟨b_key, 0, none⟩))), (4, rv (.pointer (some ⟨bx_59, 0, none⟩))), (5, rv (.pointer (some ⟨b_xx, 0, none⟩))), (15, rB ((!done) && (!sLess k key)))] [.blk b_done [rB done] 4, .blk b_key [rS key] 9, .blk bx_59 [rv (.func (.func 59) #[] #[(.pointer (some ⟨b_out, 0, none⟩))])] 70, .blk b_out [rv v_out_0] 23, .row v_out_0 63 4 (List.map eTApiCell out), .blk b_xx [rSl 4 (List.map eTApiCell xx)] 23] ?_ ?_
 ·refine wc_region ?_
  refine wv (o_load (i := 0) Tryz.isAgg4 rfl rfl rfl) ?_
  refine wv (o_not rfl) ?_
  refine wm rfl ?_
  refine bsplit (!done) (fun c1 => ?_) (fun c1 => ?_)
  ·refine wo c1 ?_
   refine wm rfl ?_
   refine wo c1 ?_
   refine wv (o_load (i := 1) Tryz.isAgg9 rfl rfl rfl) ?_
   refine wo c1 ?_
   refine wv (o_sge rfl rfl) ?_
   refine wpt rfl c1 rfl ?_
   refine wl_nil ?_
   exact wtc c1
  ·refine wf c1 ?_
   refine wf c1 ?_
   refine wf c1 ?_
   refine wv (r := rB false) (o_pick_f (b := !done) rfl c1 rfl) ?_
   refine wl_nil ?_
   exact wtc c1
 refine wc_cond (b := ((!done) && (!sLess k key))) rfl (fun c2 => ?_) (fun c2 => ?_)
 ·have h3 := cnd_t c2 h
  refine wc_sr ?_
  refine wv (o_load (i := 2) Tryz.isAgg70 rfl rfl rfl) ?_
  refine wv (o_load (i := 1) Tryz.isAgg9 rfl rfl rfl) ?_
  refine wv (o_load (i := 5) Tryz.isAgg23 rfl rfl rfl) ?_
  obtain ⟨r4, e6, h5⟩ := obn_e h3
  refine w_callc (rs := [rS key, rSl 4 (List.map eTApiCell xx)]) (Hin := [.blk b_out [rv v_out_0] 23, .row v_out_0 63 4 (List.map eTApiCell out)]) (Hr := [.blk b_done [rB done] 4, .blk b_key [rS key] 9, .blk bx_59 [rv (.func (.func 59) #[] #[(.pointer (some ⟨b_out, 0, none⟩))])] 70, .blk b_xx [rSl 4 (List.map eTApiCell xx)] 23]) Tryz.call59 rfl rfl ((perm_front (i := 3) rfl).trans (List.Perm.cons _ ((perm_front (i := 3) rfl).trans (List.Perm.cons _ (List.Perm.refl _))))) (vPutA_w b_out v_out_0 key xx out r4 e6) rfl ?_
  rintro _ _ ⟨v7, rfl, rfl⟩
  refine wl_x ?_
  refine wc_region ?_
  refine u_store (i := 2) Tryz.sizeOf4 rfl rfl (one_c rfl) rfl rfl (cs' := [rB true]) rfl (H' := [.blk b_out [rv v7] 23, .row v7 63 4 (List.map eTApiCell r4), .blk b_done [rB true] 4, .blk b_key [rS key] 9, .blk bx_59 [rv (.func (.func 59) #[] #[(.pointer (some ⟨b_out, 0, none⟩))])] 70, .blk b_xx [rSl 4 (List.map eTApiCell xx)] 23]) rfl ?_
  refine wl_x ?_
  refine wc_seq ?_
  refine wc_sr ?_
  refine wm rfl ?_
  refine wv (o_load (i := 3) Tryz.isAgg9 rfl rfl rfl) ?_
  refine wv (o_sne rfl rfl) ?_
  refine wl_x ?_
  refine wc_cond (b := !decide (k = key)) rfl (fun c8 => ?_) (fun c8 => ?_)
  ·have h9 := cnd_t c8 h5
   refine wc_region ?_
   refine wv (o_load (i := 4) Tryz.isAgg70 rfl rfl rfl) ?_
   refine wm rfl ?_
   refine wm rfl ?_
   obtain ⟨r10, e12, h11⟩ := obn_e h9
   refine w_callc (rs := [rS k, rSl 4 (List.map eTApiCell y)]) (Hin := [.blk b_out [rv v7] 23, .row v7 63 4 (List.map eTApiCell r4)]) (Hr := [.blk b_done [rB true] 4, .blk b_key [rS key] 9, .blk bx_59 [rv (.func (.func 59) #[] #[(.pointer (some ⟨b_out, 0, none⟩))])] 70, .blk b_xx [rSl 4 (List.map eTApiCell xx)] 23]) Tryz.call59 rfl rfl (List.Perm.refl _) (vPutA_w b_out v7 k y r4 r10 e12) rfl ?_
   rintro _ _ ⟨v13, rfl, rfl⟩
   refine wl_y ?_
   refine wv (r := rB true) (o_assign rfl) ?_
   refine wl_x ?_
   refine wc_ret ?_
   refine wk_perm (H2 := [.blk b_done [rB true] 4, .blk b_key [rS key] 9, .blk bx_59 [rv (.func (.func 59) #[] #[(.pointer (some ⟨b_out, 0, none⟩))])] 70, .blk b_out [rv v13] 23, .row v13 63 4 (List.map eTApiCell r10), .blk b_xx [rSl 4 (List.map eTApiCell xx)] 23]) ((perm_front (i := 2) rfl).trans (List.Perm.cons _ ((perm_front (i := 2) rfl).trans (List.Perm.cons _ ((perm_front (i := 2) rfl).trans (List.Perm.cons _ (List.Perm.refl _))))))) ?_
   obtain rfl := some_e h11
   exact wk_ret (r_1 Tryz.results60 (rv_t rfl)) (sC (sC (sC (sC (sC (sC sN)))))) ⟨v13, rfl, rfl⟩
  ·have h14 := cnd_f c8 h5
   refine wc_skip ?_
   refine wk_x ?_
   refine wc_sr ?_
   refine wv (r := rB true) (o_assign rfl) ?_
   refine wl_x ?_
   refine wc_ret ?_
   refine wk_perm (H2 := [.blk b_done [rB true] 4, .blk b_key [rS key] 9, .blk bx_59 [rv (.func (.func 59) #[] #[(.pointer (some ⟨b_out, 0, none⟩))])] 70, .blk b_out [rv v7] 23, .row v7 63 4 (List.map eTApiCell r4), .blk b_xx [rSl 4 (List.map eTApiCell xx)] 23]) ((perm_front (i := 2) rfl).trans (List.Perm.cons _ ((perm_front (i := 2) rfl).trans (List.Perm.cons _ ((perm_front (i := 2) rfl).trans (List.Perm.cons _ (List.Perm.refl _))))))) ?_
   obtain rfl := some_e h14
   exact wk_ret (r_1 Tryz.results60 (rv_t rfl)) (sC (sC (sC (sC (sC (sC sN)))))) ⟨v7, rfl, rfl⟩
 ·have h15 := cnd_f c2 h
  refine wc_skip ?_
  refine wk_x ?_
  refine wc_seq ?_
  refine wc_sr ?_
  refine wm rfl ?_
  refine wv (o_load (i := 1) Tryz.isAgg9 rfl rfl rfl) ?_
  refine wv (o_sne rfl rfl) ?_
  refine wl_x ?_
  refine wc_cond (b := !decide (k = key)) rfl (fun c16 => ?_) (fun c16 => ?_)
  ·have h17 := cnd_t c16 h15
   refine wc_region ?_
   refine wv (o_load (i := 2) Tryz.isAgg70 rfl rfl rfl) ?_
   refine wm rfl ?_
   refine wm rfl ?_
   obtain ⟨r18, e20, h19⟩ := obn_e h17
   refine w_callc (rs := [rS k, rSl 4 (List.map eTApiCell y)]) (Hin := [.blk b_out [rv v_out_0] 23, .row v_out_0 63 4 (List.map eTApiCell out)]) (Hr := [.blk b_done [rB done] 4, .blk b_key [rS key] 9, .blk bx_59 [rv (.func (.func 59) #[] #[(.pointer (some ⟨b_out, 0, none⟩))])] 70, .blk b_xx [rSl 4 (List.map eTApiCell xx)] 23]) Tryz.call59 rfl rfl ((perm_front (i := 3) rfl).trans (List.Perm.cons _ ((perm_front (i := 3) rfl).trans (List.Perm.cons _ (List.Perm.refl _))))) (vPutA_w b_out v_out_0 k y out r18 e20) rfl ?_
   rintro _ _ ⟨v21, rfl, rfl⟩
   refine wl_y ?_
   refine wv (r := rB true) (o_assign rfl) ?_
   refine wl_x ?_
   refine wc_ret ?_
   refine wk_perm (H2 := [.blk b_done [rB done] 4, .blk b_key [rS key] 9, .blk bx_59 [rv (.func (.func 59) #[] #[(.pointer (some ⟨b_out, 0, none⟩))])] 70, .blk b_out [rv v21] 23, .row v21 63 4 (List.map eTApiCell r18), .blk b_xx [rSl 4 (List.map eTApiCell xx)] 23]) ((perm_front (i := 2) rfl).trans (List.Perm.cons _ ((perm_front (i := 2) rfl).trans (List.Perm.cons _ ((perm_front (i := 2) rfl).trans (List.Perm.cons _ (List.Perm.refl _))))))) ?_
   obtain rfl := some_e h19
   exact wk_ret (r_1 Tryz.results60 (rv_t rfl)) (sC (sC (sC (sC (sC (sC sN)))))) ⟨v21, rfl, rfl⟩
  ·have h22 := cnd_f c16 h15
   refine wc_skip ?_
   refine wk_x ?_
   refine wc_sr ?_
   refine wv (r := rB true) (o_assign rfl) ?_
   refine wl_x ?_
   refine wc_ret ?_
   obtain rfl := some_e h22
   exact wk_ret (r_1 Tryz.results60 (rv_t rfl)) (sC (sC (sC (sC (sC (sC sN)))))) ⟨v_out_0, rfl, rfl⟩

theorem vPutP_w (F : Nat) (b_done : Nat) (b_key : Nat) (bx_59 : Nat) (b_out : Nat) (v_out_0 : Value) (b_xx : Nat) (v : (List TApiCell)) (done : Bool) (key : Str) (out : (List TApiCell)) (xx : (List TApiCell)) (r : Bool × (List TApiCell)) (h : vPutP F v done key out xx = some r) : Fn Tryz.prog GE 52 [rSl 4 (List.map eTApiCell v), rv (.func (.func 60) #[] #[(.pointer (some ⟨b_done, 0, none⟩)), (.pointer (some ⟨b_key, 0, none⟩)), (.pointer (some ⟨bx_59, 0, none⟩)), (.pointer (some ⟨b_xx, 0, none⟩))])] [.blk b_done [rB done] 4, .blk b_key [rS key] 9, .blk bx_59 [rv (.func (.func 59) #[] #[(.pointer (some ⟨b_out, 0, none⟩))])] 70, .blk b_out [rv v_out_0] 23, .row v_out_0 63 4 (List.map eTApiCell out), .blk b_xx [rSl 4 (List.map eTApiCell xx)] 23] (fun R H => ∃ w1_2_0_0 : Value, R = rv (.tuple #[]) ∧ H = [.blk b_done [rB r.1] 4, .blk b_key [rS key] 9, .blk bx_59 [rv (.func (.func 59) #[] #[(.pointer (some ⟨b_out, 0, none⟩))])] 70, .blk b_out [rv w1_2_0_0] 23, .row w1_2_0_0 63 4 (List.map eTApiCell r.2), .blk b_xx [rSl 4 (List.map eTApiCell xx)] 23]) := by
 refine enter (n := 52) Tryz.func52 rfl Tryz.ntmps52 rfl (fun w Z => ?_)
 refine wc_as (l' := [(0, rSl 4 (List.map eTApiCell v)), (1, rv (.func (.func 60) #[] #[(.pointer (some ⟨b_done, 0, none⟩)), (.pointer (some ⟨b_key, 0, none⟩)), (.pointer (some ⟨bx_59, 0, none⟩)), (.pointer (some ⟨b_xx, 0, none⟩))]))]) (H' := [.blk b_done [rB done] 4, .blk b_key [rS key] 9, .blk bx_59 [rv (.func (.func 59) #[] #[(.pointer (some ⟨b_out, 0, none⟩))])] 70, .blk b_out [rv v_out_0] 23, .row v_out_0 63 4 (List.map eTApiCell out), .blk b_xx [rSl 4 (List.map eTApiCell xx)] 23]) rfl rfl ?_
 unfold vPutP at h
 refine wc_sr ?_
 refine wv (r := rI .i64 1) (o_assign rfl) ?_
 refine wl_y ?_
 refine wm rfl ?_
 obtain ⟨g1, h2⟩ := chk_e h
 refine wv (o_ix_z (enc := eTApiCell) (ys := v) Tryz.underlying23 Tryz.sizeOf63 rfl rfl g1) ?_
 refine wv (o_fieldAddr_z Tryz.underlying63 rfl Tryz.sizeOf3 rfl rfl) ?_
 refine wv (o_load_z Tryz.isAgg3 rfl rfl) ?_
 refine wv (r := rI .i64 0) (o_move rfl) ?_
 refine wl_x ?_
 refine wc_block ?_
 refine wc_perm (H2 := [.blk b_done [rB done] 4, .blk b_key [rS key] 9, .blk bx_59 [rv (.func (.func 59) #[] #[(.pointer (some ⟨b_out, 0, none⟩))])] 70, .blk b_out [rv v_out_0] 23, .blk b_xx [rSl 4 (List.map eTApiCell xx)] 23, .row v_out_0 63 4 (List.map eTApiCell out)]) ((perm_front (i := 0) rfl).trans (List.Perm.cons _ ((perm_front (i := 0) rfl).trans (List.Perm.cons _ ((perm_front (i := 0) rfl).trans (List.Perm.cons _ ((perm_front (i := 0) rfl).trans (List.Perm.cons _ ((perm_front (i := 1) rfl).trans (List.Perm.cons _ (List.Perm.refl _))))))))))) ?_
 obtain ⟨o166, eo167, hK168⟩ := obn_e h2
 refine wc_loop2 (S := Nat × (Int × Int × Bool × (List TApiCell)) × (Value)) (V := (Bool × (List TApiCell)) × (Value)) 0 (fun σ => lop (fun σ => vPutP_b1 F v key xx σ.1 σ.2.1 σ.2.2.1 σ.2.2.2) σ.1 σ.2.1 = some o166) (fun σ => [(0, rSl 4 (List.map eTApiCell v)), (1, rv (.func (.func 60) #[] #[(.pointer (some ⟨b_done, 0, none⟩)), (.pointer (some ⟨b_key, 0, none⟩)), (.pointer (some ⟨bx_59, 0, none⟩)), (.pointer (some ⟨b_xx, 0, none⟩))])), (4, rI .i64 σ.2.1.1), (12, rI .i64 ((at' v 0).fN)), (13, rI .i64 σ.2.1.2.1)]) (fun σ => [.blk b_done [rB σ.2.1.2.2.1] 4, .blk b_key [rS key] 9, .blk bx_59 [rv (.func (.func 59) #[] #[(.pointer (some ⟨b_out, 0, none⟩))])] 70, .blk b_out [rv σ.2.2] 23, .blk b_xx [rSl 4 (List.map eTApiCell xx)] 23, .row σ.2.2 63 4 (List.map eTApiCell σ.2.1.2.2.2)]) (fun σ => σ.1) (F, (1, 0, done, out), v_out_0) eo167 (Sub.c5 rfl rfl rfl rfl rfl Sub.nil) (sC (sC (sC (sC (sC (sC sN)))))) (fun σ => vPutP_k1 σ.1.1 σ.1.2 = some r) (fun σ => []) (fun σ => [.blk b_done [rB σ.1.1] 4, .blk b_key [rS key] 9, .blk bx_59 [rv (.func (.func 59) #[] #[(.pointer (some ⟨b_out, 0, none⟩))])] 70, .blk b_out [rv σ.2] 23, .blk b_xx [rSl 4 (List.map eTApiCell xx)] 23, .row σ.2 63 4 (List.map eTApiCell σ.1.2)]) ?_ ?_
 ·rintro ⟨n174, ⟨x106, x107, x108, x109⟩, v110⟩ hi172
  refine wc_as (l' := [(0, rSl 4 (List.map eTApiCell v)), (1, rv (.func (.func 60) #[] #[(.pointer (some ⟨b_done, 0, none⟩)), (.pointer (some ⟨b_key, 0, none⟩)), (.pointer (some ⟨bx_59, 0, none⟩)), (.pointer (some ⟨b_xx, 0, none⟩))])), (4, rI .i64 x106), (12, rI .i64 ((at' v 0).fN)), (13, rI .i64 x107)]) (H' := [.blk b_done [rB x108] 4, .blk b_key [rS key] 9, .blk bx_59 [rv (.func (.func 59) #[] #[(.pointer (some ⟨b_out, 0, none⟩))])] 70, .blk b_out [rv v110] 23, .blk b_xx [rSl 4 (List.map eTApiCell xx)] 23, .row v110 63 4 (List.map eTApiCell x109)]) rfl rfl ?_
  obtain ⟨m171, rfl, t169, h173, ht170⟩ := lop_e hi172
  replace h173 : vPutP_b1 F v key xx x106 x107 x108 x109 = some t169 := h173
  unfold vPutP_b1 at h173
  refine wc_sr ?_
  refine wv (o_lt rfl rfl) ?_
  refine wl_x ?_
  refine wc_seq ?_
  refine wc_cond (b := decide (x107 < ((at' v 0).fN))) rfl (fun c175 => ?_) (fun c175 => ?_)
  ·have h176 := cnd_t c175 h173
   refine wc_skip ?_
   refine wk_x ?_
   refine wc_seq ?_
   refine wc_block ?_
   refine wc_sr ?_
   refine wv (r := rS ([] : Str)) (o_assign rfl) ?_
   refine wl_x ?_
   refine wc_seq ?_
   refine wc_sr ?_
   refine wm rfl ?_
   refine wv (o_ix_z (enc := eTApiCell) (ys := v) Tryz.underlying23 Tryz.sizeOf63 rfl rfl g1) ?_
   refine wv (o_fieldAddr_z Tryz.underlying63 rfl Tryz.sizeOf61 rfl rfl) ?_
   refine wv (o_load_z Tryz.isAgg61 rfl rfl) ?_
   refine wv (o_eq rfl rfl) ?_
   refine wl_x ?_
   refine wc_cond (b := decide (((at' v 0).fKind) = 6)) rfl (fun c177 => ?_) (fun c177 => ?_)
   ·have h178 := cnd_t c177 h176
    refine wc_sr ?_
    refine wm rfl ?_
    refine wm rfl ?_
    obtain ⟨g179, h180⟩ := chk_e h178
    refine wv (o_ix_z (enc := eTApiCell) (ys := v) Tryz.underlying23 Tryz.sizeOf63 rfl rfl g179) ?_
    refine wv (o_fieldAddr_z Tryz.underlying63 rfl Tryz.sizeOf9 rfl rfl) ?_
    refine wv (o_load_z Tryz.isAgg9 rfl rfl) ?_
    refine wa rfl ?_
    refine wl_x ?_
    refine wc_region ?_
    refine wm rfl ?_
    obtain ⟨g181, h182⟩ := chk_e h180
    refine wv (o_add rfl rfl g181) ?_
    refine wa rfl ?_
    refine wl_y ?_
    refine wm rfl ?_
    refine wm rfl ?_
    obtain ⟨g183, h184⟩ := chk_e h182
    refine wv (r := rSl 4 (List.map eTApiCell (List.drop (Int.toNat (x106 + 1)) v))) (o_slice_zl Tryz.underlying23 Tryz.sizeOf63 rfl rfl g183) ?_
    obtain ⟨r185, e187, h186⟩ := obn_e h184
    refine wc0 Tryz.call63 (vLook_w F (List.drop (Int.toNat (x106 + 1)) v) r185 e187) rfl ?_
    refine wm rfl ?_
    refine wv (o_extract rfl rfl) ?_
    refine wv (o_extract rfl rfl) ?_
    refine wv (o_extract rfl rfl) ?_
    refine w_alloc (cs := [rI .i64 0, rI .i64 0, rB false, rB false]) Tryz.zeroValue78 rfl rfl (fun b188 => ?_)
    refine wa rfl ?_
    refine u_store_agg (i := 0) Tryz.sizeOf78 rfl rfl rfl (OneAll.c rfl) rfl rfl (cs' := [rI .i64 r185.2.1.fDepth, rI .i64 r185.2.1.fBytes, rB r185.2.1.fOutside, rB r185.2.1.fLong]) rfl (H' := [.blk b188 (eTValueShape r185.2.1) 78, .blk b_done [rB x108] 4, .blk b_key [rS key] 9, .blk bx_59 [rv (.func (.func 59) #[] #[(.pointer (some ⟨b_out, 0, none⟩))])] 70, .blk b_out [rv v110] 23, .blk b_xx [rSl 4 (List.map eTApiCell xx)] 23, .row v110 63 4 (List.map eTApiCell x109)]) rfl ?_
    refine wa rfl ?_
    refine wl_x ?_
    refine wc_seq ?_
    refine wc_sr ?_
    refine wm rfl ?_
    refine wm rfl ?_
    refine wm rfl ?_
    refine wm rfl ?_
    refine wm rfl ?_
    refine wm rfl ?_
    obtain ⟨g189, h190⟩ := chk_e h186
    refine wv (o_add rfl rfl g189) ?_
    refine wm rfl ?_
    refine wm rfl ?_
    refine wv (o_add rfl rfl g189) ?_
    obtain ⟨g191, h192⟩ := chk_e h190
    obtain ⟨g193, h194⟩ := chk_e h192
    refine wv (r := rSl 4 (List.map eTApiCell (List.take (Int.toNat ((x106 + 1) + r185.1) - Int.toNat (x106 + 1)) (List.drop (Int.toNat (x106 + 1)) v)))) (o_slice_zm Tryz.underlying23 Tryz.sizeOf63 rfl rfl rfl rfl g191 g193) ?_
    obtain ⟨r195, e197, h196⟩ := obn_e h194
    refine w_callc (rs := [rS ((at' v x106).fStr), rSl 4 (List.map eTApiCell (List.take (Int.toNat ((x106 + 1) + r185.1) - Int.toNat (x106 + 1)) (List.drop (Int.toNat (x106 + 1)) v)))]) (Hin := [.blk b_done [rB x108] 4, .blk b_key [rS key] 9, .blk bx_59 [rv (.func (.func 59) #[] #[(.pointer (some ⟨b_out, 0, none⟩))])] 70, .blk b_out [rv v110] 23, .row v110 63 4 (List.map eTApiCell x109), .blk b_xx [rSl 4 (List.map eTApiCell xx)] 23]) (Hr := [.blk b188 (eTValueShape r185.2.1) 78]) Tryz.call60 rfl rfl ((perm_front (i := 1) rfl).trans (List.Perm.cons _ ((perm_front (i := 1) rfl).trans (List.Perm.cons _ ((perm_front (i := 1) rfl).trans (List.Perm.cons _ ((perm_front (i := 1) rfl).trans (List.Perm.cons _ ((perm_front (i := 2) rfl).trans (List.Perm.cons _ ((perm_front (i := 1) rfl).trans (List.Perm.cons _ (List.Perm.refl _))))))))))))) (vPutF_w b_done b_key bx_59 b_out v110 b_xx ((at' v x106).fStr) (List.take (Int.toNat ((x106 + 1) + r185.1) - Int.toNat (x106 + 1)) (List.drop (Int.toNat (x106 + 1)) v)) x108 key x109 xx r195 e197) rfl ?_
    rintro _ _ ⟨v198, rfl, rfl⟩
    refine wv (o_not rfl) ?_
    refine wl_x ?_
    refine wc_cond (b := !r195.1) rfl (fun c199 => ?_) (fun c199 => ?_)
    ·have h200 := cnd_t c199 h196
     refine wc_ret ?_
     refine wk_then_ret ?_
     refine wk_in_ret ?_
     refine wk_then_ret ?_
     refine wk_then_ret ?_
     refine wk_cut_ret ?_
     have h201 := stp_ret h200 ht170 hK168
     refine wk_in_ret ?_
     obtain rfl := some_e h201
     exact wk_ret (r_0 Tryz.results52) (sC (sC (sC (sC (sC (sC (sS sN))))))) ⟨v198, rfl, rfl⟩
    ·have h202 := cnd_f c199 h196
     refine wc_skip ?_
     refine wk_x ?_
     refine wc_region ?_
     refine wm rfl ?_
     refine wm rfl ?_
     refine wv (o_add rfl rfl g189) ?_
     refine wa rfl ?_
     refine wl_nil ?_
     refine wk_in_norm ?_
     refine wk_x ?_
     refine wc_region ?_
     obtain ⟨g203, h204⟩ := chk_e h202
     refine wv (o_add rfl rfl g203) ?_
     refine wm rfl ?_
     refine wl_nil ?_
     refine wk_perm (H2 := [.blk b_done [rB r195.2.1] 4, .blk b_key [rS key] 9, .blk bx_59 [rv (.func (.func 59) #[] #[(.pointer (some ⟨b_out, 0, none⟩))])] 70, .blk b_out [rv v198] 23, .blk b_xx [rSl 4 (List.map eTApiCell xx)] 23, .row v198 63 4 (List.map eTApiCell r195.2.2), .blk b188 (eTValueShape r185.2.1) 78]) ((perm_front (i := 0) rfl).trans (List.Perm.cons _ ((perm_front (i := 0) rfl).trans (List.Perm.cons _ ((perm_front (i := 0) rfl).trans (List.Perm.cons _ ((perm_front (i := 0) rfl).trans (List.Perm.cons _ ((perm_front (i := 1) rfl).trans (List.Perm.cons _ (List.Perm.refl _))))))))))) ?_
     have h205 := stp_next h204 ht170
     exact wk_then (wk_some (m171, ((x106 + 1) + r185.1, x107 + 1, r195.2.1, r195.2.2), v198) ⟨h205, Nat.lt_succ_self _⟩ (Sub.c5 rfl rfl rfl rfl rfl Sub.nil) (sC (sC (sC (sC (sC (sC (sS sN))))))))
   ·have h206 := cnd_f c177 h176
    refine wc_skip ?_
    refine wk_x ?_
    refine wc_sr ?_
    refine wm rfl ?_
    refine wm rfl ?_
    obtain ⟨g207, h208⟩ := chk_e h206
    refine wv (r := rSl 4 (List.map eTApiCell (List.drop (Int.toNat x106) v))) (o_slice_zl Tryz.underlying23 Tryz.sizeOf63 rfl rfl g207) ?_
    obtain ⟨r209, e211, h210⟩ := obn_e h208
    refine wc0 Tryz.call63 (vLook_w F (List.drop (Int.toNat x106) v) r209 e211) rfl ?_
    refine wm rfl ?_
    refine wv (o_extract rfl rfl) ?_
    refine wv (o_extract rfl rfl) ?_
    refine wv (o_extract rfl rfl) ?_
    refine w_alloc (cs := [rI .i64 0, rI .i64 0, rB false, rB false]) Tryz.zeroValue78 rfl rfl (fun b212 => ?_)
    refine wa rfl ?_
    refine u_store_agg (i := 0) Tryz.sizeOf78 rfl rfl rfl (OneAll.c rfl) rfl rfl (cs' := [rI .i64 r209.2.1.fDepth, rI .i64 r209.2.1.fBytes, rB r209.2.1.fOutside, rB r209.2.1.fLong]) rfl (H' := [.blk b212 (eTValueShape r209.2.1) 78, .blk b_done [rB x108] 4, .blk b_key [rS key] 9, .blk bx_59 [rv (.func (.func 59) #[] #[(.pointer (some ⟨b_out, 0, none⟩))])] 70, .blk b_out [rv v110] 23, .blk b_xx [rSl 4 (List.map eTApiCell xx)] 23, .row v110 63 4 (List.map eTApiCell x109)]) rfl ?_
    refine wa rfl ?_
    refine wl_x ?_
    refine wc_seq ?_
    refine wc_sr ?_
    refine wm rfl ?_
    refine wm rfl ?_
    refine wm rfl ?_
    refine wm rfl ?_
    refine wm rfl ?_
    refine wm rfl ?_
    obtain ⟨g213, h214⟩ := chk_e h210
    refine wv (o_add rfl rfl g213) ?_
    refine wm rfl ?_
    refine wm rfl ?_
    refine wv (o_add rfl rfl g213) ?_
    obtain ⟨g215, h216⟩ := chk_e h214
    obtain ⟨g217, h218⟩ := chk_e h216
    refine wv (r := rSl 4 (List.map eTApiCell (List.take (Int.toNat (x106 + r209.1) - Int.toNat x106) (List.drop (Int.toNat x106) v)))) (o_slice_zm Tryz.underlying23 Tryz.sizeOf63 rfl rfl rfl rfl g215 g217) ?_
    obtain ⟨r219, e221, h220⟩ := obn_e h218
    refine w_callc (rs := [rS ([] : Str), rSl 4 (List.map eTApiCell (List.take (Int.toNat (x106 + r209.1) - Int.toNat x106) (List.drop (Int.toNat x106) v)))]) (Hin := [.blk b_done [rB x108] 4, .blk b_key [rS key] 9, .blk bx_59 [rv (.func (.func 59) #[] #[(.pointer (some ⟨b_out, 0, none⟩))])] 70, .blk b_out [rv v110] 23, .row v110 63 4 (List.map eTApiCell x109), .blk b_xx [rSl 4 (List.map eTApiCell xx)] 23]) (Hr := [.blk b212 (eTValueShape r209.2.1) 78]) Tryz.call60 rfl rfl ((perm_front (i := 1) rfl).trans (List.Perm.cons _ ((perm_front (i := 1) rfl).trans (List.Perm.cons _ ((perm_front (i := 1) rfl).trans (List.Perm.cons _ ((perm_front (i := 1) rfl).trans (List.Perm.cons _ ((perm_front (i := 2) rfl).trans (List.Perm.cons _ ((perm_front (i := 1) rfl).trans (List.Perm.cons _ (List.Perm.refl _))))))))))))) (vPutF_w b_done b_key bx_59 b_out v110 b_xx ([] : Str) (List.take (Int.toNat (x106 + r209.1) - Int.toNat x106) (List.drop (Int.toNat x106) v)) x108 key x109 xx r219 e221) rfl ?_
    rintro _ _ ⟨v222, rfl, rfl⟩
    refine wv (o_not rfl) ?_
    refine wl_x ?_
    refine wc_cond (b := !r219.1) rfl (fun c223 => ?_) (fun c223 => ?_)
    ·have h224 := cnd_t c223 h220
     refine wc_ret ?_
     refine wk_then_ret ?_
     refine wk_in_ret ?_
     refine wk_then_ret ?_
     refine wk_then_ret ?_
     refine wk_cut_ret ?_
     have h225 := stp_ret h224 ht170 hK168
     refine wk_in_ret ?_
     obtain rfl := some_e h225
     exact wk_ret (r_0 Tryz.results52) (sC (sC (sC (sC (sC (sC (sS sN))))))) ⟨v222, rfl, rfl⟩
    ·have h226 := cnd_f c223 h220
     refine wc_skip ?_
     refine wk_x ?_
     refine wc_region ?_
     refine wm rfl ?_
     refine wm rfl ?_
     refine wv (o_add rfl rfl g213) ?_
     refine wa rfl ?_
     refine wl_nil ?_
     refine wk_in_norm ?_
     refine wk_x ?_
     refine wc_region ?_
     obtain ⟨g227, h228⟩ := chk_e h226
     refine wv (o_add rfl rfl g227) ?_
     refine wm rfl ?_
     refine wl_nil ?_
     refine wk_perm (H2 := [.blk b_done [rB r219.2.1] 4, .blk b_key [rS key] 9, .blk bx_59 [rv (.func (.func 59) #[] #[(.pointer (some ⟨b_out, 0, none⟩))])] 70, .blk b_out [rv v222] 23, .blk b_xx [rSl 4 (List.map eTApiCell xx)] 23, .row v222 63 4 (List.map eTApiCell r219.2.2), .blk b212 (eTValueShape r209.2.1) 78]) ((perm_front (i := 0) rfl).trans (List.Perm.cons _ ((perm_front (i := 0) rfl).trans (List.Perm.cons _ ((perm_front (i := 0) rfl).trans (List.Perm.cons _ ((perm_front (i := 0) rfl).trans (List.Perm.cons _ ((perm_front (i := 1) rfl).trans (List.Perm.cons _ (List.Perm.refl _))))))))))) ?_
     have h229 := stp_next h228 ht170
     exact wk_then (wk_some (m171, (x106 + r209.1, x107 + 1, r219.2.1, r219.2.2), v222) ⟨h229, Nat.lt_succ_self _⟩ (Sub.c5 rfl rfl rfl rfl rfl Sub.nil) (sC (sC (sC (sC (sC (sC (sS sN))))))))
  ·have h230 := cnd_f c175 h173
   refine wc_exit ?_
   refine wk_then_exit ?_
   have h231 := stp_go h230 ht170 hK168
   exact wk_then_exit (wk_cut_hit (wk_some ((x108, x109), v110) h231 Sub.nil (sC (sC (sC (sC (sC (sC sN))))))))
 ·rintro ⟨⟨x163, x164⟩, v165⟩ h232
  refine wk_as (l' := []) (H' := [.blk b_done [rB x163] 4, .blk b_key [rS key] 9, .blk bx_59 [rv (.func (.func 59) #[] #[(.pointer (some ⟨b_out, 0, none⟩))])] 70, .blk b_out [rv v165] 23, .blk b_xx [rSl 4 (List.map eTApiCell xx)] 23, .row v165 63 4 (List.map eTApiCell x164)]) rfl rfl ?_
  replace h232 : vPutP_k1 x163 x164 = some r := h232
  unfold vPutP_k1 at h232
  refine wk_in_hit ?_
  refine wk_perm (H2 := [.blk b_done [rB x163] 4, .blk b_key [rS key] 9, .blk bx_59 [rv (.func (.func 59) #[] #[(.pointer (some ⟨b_out, 0, none⟩))])] 70, .blk b_out [rv v165] 23, .row v165 63 4 (List.map eTApiCell x164), .blk b_xx [rSl 4 (List.map eTApiCell xx)] 23]) ((perm_front (i := 0) rfl).trans (List.Perm.cons _ ((perm_front (i := 0) rfl).trans (List.Perm.cons _ ((perm_front (i := 0) rfl).trans (List.Perm.cons _ ((perm_front (i := 0) rfl).trans (List.Perm.cons _ ((perm_front (i := 1) rfl).trans (List.Perm.cons _ (List.Perm.refl _))))))))))) ?_
  obtain rfl := some_e h232
  exact wk_end (r_0 Tryz.results52) (sC (sC (sC (sC (sC (sC sN)))))) ⟨v165, rfl, rfl⟩

theorem vPut_w (F : Nat) (v : (List TApiCell)) (key : Str) (x : (List TApiCell)) (r : (List TApiCell) × Int) (h : vPut F v key x = some r) : Fn Tryz.prog GE 37 [rSl 4 (List.map eTApiCell v), rS key, rSl 4 (List.map eTApiCell x)] [] (fun R H => R = rTup [rSl 4 (List.map eTApiCell r.1), rI .i64 r.2] ∧ H = []) := by
 refine enter (n := 44) Tryz.func37 rfl Tryz.ntmps37 rfl (fun w Z => ?_)
 refine wc_as (l' := [(0, rSl 4 (List.map eTApiCell v)), (1, rS key), (2, rSl 4 (List.map eTApiCell x))]) (H' := []) rfl rfl ?_
 unfold vPut at h
 refine wc_sr ?_
 refine w_box rfl (one_c rfl) rfl (fun b1 => ?_)
 refine w_box rfl (one_c rfl) rfl (fun b2 => ?_)
 refine wv (r := rv (.slice none 0 0)) (o_assign rfl) ?_
 refine wv (r := rI .i64 0) (o_assign rfl) ?_
 refine wl_x ?_
 refine wc_seq ?_
 refine wc_sr ?_
 refine wm rfl ?_
 obtain ⟨r3, e5, h4⟩ := obn_e h
 refine wc0 Tryz.call43 (vCheck_w F v r3 e5) rfl ?_
 refine wa rfl ?_
 refine wl_y ?_
 refine wm rfl ?_
 refine wv (o_ne rfl rfl) ?_
 refine wl_x ?_
 refine wc_cond (b := !decide (r3 = 0)) rfl (fun c6 => ?_) (fun c6 => ?_)
 ·have h7 := cnd_t c6 h4
  refine wc_sr ?_
  refine wm rfl ?_
  refine wv (r := rv (.slice none 0 0)) (o_assign rfl) ?_
  refine wa rfl ?_
  refine wl_x ?_
  refine wc_ret ?_
  refine wk_then_ret ?_
  refine WK.up (d := 6) (r := rSl 4 (List.map eTApiCell ([] : List TApiCell))) rfl (Up.le (Rle.nil _)) ?_
  obtain rfl := some_e h7
  exact wk_ret (r_2 Tryz.results37 (rv_t rfl) (rv_t rfl)) (sS (sS sN)) ⟨rfl, rfl⟩
 ·have h8 := cnd_f c6 h4
  refine wc_skip ?_
  refine wk_x ?_
  refine wc_seq ?_
  refine wc_sr ?_
  refine wm rfl ?_
  obtain ⟨g9, h10⟩ := chk_e h8
  refine wv (o_ix_z (enc := eTApiCell) (ys := v) Tryz.underlying23 Tryz.sizeOf63 rfl rfl g9) ?_
  refine wv (o_fieldAddr_z Tryz.underlying63 rfl Tryz.sizeOf61 rfl rfl) ?_
  refine wv (o_load_z Tryz.isAgg61 rfl rfl) ?_
  refine wv (o_ne rfl rfl) ?_
  refine wl_x ?_
  refine wc_cond (b := !decide (((at' v 0).fKind) = 6)) rfl (fun c11 => ?_) (fun c11 => ?_)
  ·have h12 := cnd_t c11 h10
   refine wc_sr ?_
   refine wv (r := rv (.slice none 0 0)) (o_assign rfl) ?_
   refine wv (r := rI .i64 7) (o_assign rfl) ?_
   refine wl_x ?_
   refine wc_ret ?_
   refine wk_then_ret ?_
   refine WK.up (d := 6) (r := rSl 4 (List.map eTApiCell ([] : List TApiCell))) rfl (Up.le (Rle.nil _)) ?_
   obtain rfl := some_e h12
   exact wk_ret (r_2 Tryz.results37 (rv_t rfl) (rv_t rfl)) (sS (sS sN)) ⟨rfl, rfl⟩
  ·have h13 := cnd_f c11 h10
   refine wc_skip ?_
   refine wk_x ?_
   refine wc_seq ?_
   refine wc_sr ?_
   refine wv (o_load (i := 0) Tryz.isAgg23 rfl rfl rfl) ?_
   obtain ⟨r14, e16, h15⟩ := obn_e h13
   refine wc0 Tryz.call43 (vCheck_w F x r14 e16) rfl ?_
   refine wa rfl ?_
   refine wl_y ?_
   refine wm rfl ?_
   refine wv (o_ne rfl rfl) ?_
   refine wl_x ?_
   refine wc_cond (b := !decide (r14 = 0)) rfl (fun c17 => ?_) (fun c17 => ?_)
   ·have h18 := cnd_t c17 h15
    refine wc_sr ?_
    refine wm rfl ?_
    refine wv (r := rv (.slice none 0 0)) (o_assign rfl) ?_
    refine wa rfl ?_
    refine wl_x ?_
    refine wc_ret ?_
    refine wk_then_ret ?_
    refine WK.up (d := 6) (r := rSl 4 (List.map eTApiCell ([] : List TApiCell))) rfl (Up.le (Rle.nil _)) ?_
    obtain rfl := some_e h18
    exact wk_ret (r_2 Tryz.results37 (rv_t rfl) (rv_t rfl)) (sS (sS sN)) ⟨rfl, rfl⟩
   ·have h19 := cnd_f c17 h15
    refine wc_skip ?_
    refine wk_x ?_
    refine wc_sr ?_
    refine wv (r := rAgg [rI .i64 6, rI .i64 0, rS ([] : Str), rI .i64 0]) (o_build63_0 rfl rfl) ?_
    refine w_buildSlice (ys := ([(TApiCell.mk 6 0 ([] : Str) 0)] : List TApiCell)) (enc := eTApiCell) (css := [[rI .i64 6, rI .i64 0, rS ([] : Str), rI .i64 0]]) (xs := [.tmp 28]) Tryz.underlying23 Tryz.sizeOf63 Tryz.zeroValue63 rfl rfl rfl ⟨Cel.agg ⟨Up.refl _, Up.refl _, Up.refl _, Up.refl _, trivial⟩, trivial⟩ rfl eTApiCell_len rfl rfl rfl (fun b20 => ?_)
    refine w_alloc (cs := [rv (.slice none 0 0)]) Tryz.zeroValue23 rfl rfl (fun b21 => ?_)
    refine u_store (i := 0) Tryz.sizeOf23 rfl rfl (one_row (i := 1) rfl) rfl rfl (cs' := [rv (.slice (some ⟨b20, 0, none⟩) 1 1)]) rfl (H' := [.blk b21 [rv (.slice (some ⟨b20, 0, none⟩) 1 1)] 23, .row (.slice (some ⟨b20, 0, none⟩) 1 1) 63 4 (List.map eTApiCell ([(TApiCell.mk 6 0 ([] : Str) 0)] : List TApiCell)), .blk b2 [rSl 4 (List.map eTApiCell x)] 23, .blk b1 [rS key] 9]) rfl ?_
    refine wl_y ?_
    refine wv (r := rv (.func (.func 59) #[] #[(.pointer (some ⟨b21, 0, none⟩))])) (o_makeFunc rfl) ?_
    refine w_alloc (cs := [rv (.nilFunc)]) Tryz.zeroValue70 rfl rfl (fun b22 => ?_)
    refine u_store (i := 0) Tryz.sizeOf70 rfl rfl (one_c rfl) rfl rfl (cs' := [rv (.func (.func 59) #[] #[(.pointer (some ⟨b21, 0, none⟩))])]) rfl (H' := [.blk b22 [rv (.func (.func 59) #[] #[(.pointer (some ⟨b21, 0, none⟩))])] 70, .blk b21 [rv (.slice (some ⟨b20, 0, none⟩) 1 1)] 23, .row (.slice (some ⟨b20, 0, none⟩) 1 1) 63 4 (List.map eTApiCell ([(TApiCell.mk 6 0 ([] : Str) 0)] : List TApiCell)), .blk b2 [rSl 4 (List.map eTApiCell x)] 23, .blk b1 [rS key] 9]) rfl ?_
    refine wl_y ?_
    refine w_alloc (cs := [rB false]) Tryz.zeroValue4 rfl rfl (fun b23 => ?_)
    refine u_store (i := 0) Tryz.sizeOf4 rfl rfl (one_c rfl) rfl rfl (cs' := [rB false]) rfl (H' := [.blk b23 [rB false] 4, .blk b22 [rv (.func (.func 59) #[] #[(.pointer (some ⟨b21, 0, none⟩))])] 70, .blk b21 [rv (.slice (some ⟨b20, 0, none⟩) 1 1)] 23, .row (.slice (some ⟨b20, 0, none⟩) 1 1) 63 4 (List.map eTApiCell ([(TApiCell.mk 6 0 ([] : Str) 0)] : List TApiCell)), .blk b2 [rSl 4 (List.map eTApiCell x)] 23, .blk b1 [rS key] 9]) rfl ?_
    refine wl_y ?_
    refine wm rfl ?_
    refine wv (r := rv (.func (.func 60) #[] #[(.pointer (some ⟨b23, 0, none⟩)), (.pointer (some ⟨b1, 0, none⟩)), (.pointer (some ⟨b22, 0, none⟩)), (.pointer (some ⟨b2, 0, none⟩))])) (o_makeFunc rfl) ?_
    obtain ⟨r24, e26, h25⟩ := obn_e h19
    refine wcl (Hr := []) Tryz.call52 (vPutP_w F b23 b1 b22 b21 (.slice (some ⟨b20, 0, none⟩) 1 1) b2 v false key ([(TApiCell.mk 6 0 ([] : Str) 0)] : List TApiCell) x r24 e26) rfl ((perm_front (i := 0) rfl).trans (List.Perm.cons _ ((perm_front (i := 4) rfl).trans (List.Perm.cons _ (List.Perm.refl _))))) rfl ?_
    rintro _ _ ⟨v27, rfl, rfl⟩
    refine wl_x ?_
    refine wc_seq ?_
    refine wc_sr ?_
    refine wv (o_load (i := 0) Tryz.isAgg4 rfl rfl rfl) ?_
    refine wv (o_not rfl) ?_
    refine wl_x ?_
    refine wc_cond (b := !r24.1) rfl (fun c28 => ?_) (fun c28 => ?_)
    ·have h29 := cnd_t c28 h25
     refine wc_region ?_
     refine wv (o_load (i := 2) Tryz.isAgg70 rfl rfl rfl) ?_
     refine wv (o_load (i := 1) Tryz.isAgg9 rfl rfl rfl) ?_
     refine wv (o_load (i := 5) Tryz.isAgg23 rfl rfl rfl) ?_
     obtain ⟨r30, e32, h31⟩ := obn_e h29
     refine w_callc (rs := [rS key, rSl 4 (List.map eTApiCell x)]) (Hin := [.blk b21 [rv v27] 23, .row v27 63 4 (List.map eTApiCell r24.2)]) (Hr := [.blk b23 [rB r24.1] 4, .blk b1 [rS key] 9, .blk b22 [rv (.func (.func 59) #[] #[(.pointer (some ⟨b21, 0, none⟩))])] 70, .blk b2 [rSl 4 (List.map eTApiCell x)] 23]) Tryz.call59 rfl rfl ((perm_front (i := 3) rfl).trans (List.Perm.cons _ ((perm_front (i := 3) rfl).trans (List.Perm.cons _ (List.Perm.refl _))))) (vPutA_w b21 v27 key x r24.2 r30 e32) rfl ?_
     rintro _ _ ⟨v33, rfl, rfl⟩
     refine wl_y ?_
     refine wv (o_load (i := 0) Tryz.isAgg23 rfl rfl rfl) ?_
     refine WL.freeze (i := 1) rfl ?_
     refine WL.up (d := 40) (r := rSl 4 (List.map eTApiCell r30)) rfl (Up.fact (i := 0) rfl) ?_
     obtain ⟨r34, e36, h35⟩ := obn_e h31
     refine wc0 Tryz.call45 (vChecked_w F r30 r34 e36) rfl ?_
     refine wv (o_extract rfl rfl) ?_
     refine wv (o_extract rfl rfl) ?_
     refine wa rfl ?_
     refine wa rfl ?_
     refine wl_x ?_
     refine wc_ret ?_
     obtain rfl := some_e h35
     exact wk_ret (r_2 Tryz.results37 (rv_t rfl) (rv_t rfl)) (sS (sS (sS (sS (sS (sS sN)))))) ⟨rfl, rfl⟩
    ·have h37 := cnd_f c28 h25
     refine wc_skip ?_
     refine wk_x ?_
     refine wc_sr ?_
     refine wv (o_load (i := 3) Tryz.isAgg23 rfl rfl rfl) ?_
     refine WL.freeze (i := 4) rfl ?_
     refine WL.up (d := 40) (r := rSl 4 (List.map eTApiCell r24.2)) rfl (Up.fact (i := 0) rfl) ?_
     obtain ⟨r38, e40, h39⟩ := obn_e h37
     refine wc0 Tryz.call45 (vChecked_w F r24.2 r38 e40) rfl ?_
     refine wv (o_extract rfl rfl) ?_
     refine wv (o_extract rfl rfl) ?_
     refine wa rfl ?_
     refine wa rfl ?_
     refine wl_x ?_
     refine wc_ret ?_
     obtain rfl := some_e h39
     exact wk_ret (r_2 Tryz.results37 (rv_t rfl) (rv_t rfl)) (sS (sS (sS (sS (sS (sS sN)))))) ⟨rfl, rfl⟩

theorem vPath_w (F : Nat) (v : (List TApiCell)) (path : (List Str)) (r : (List TApiCell) × Int) (h : vPath F v path = some r) : Fn Tryz.prog GE 35 [rSl 4 (List.map eTApiCell v), rSl 1 (List.map eS path)] [] (fun R H => R = rTup [rSl 4 (List.map eTApiCell r.1), rI .i64 r.2] ∧ H = []) := by
 refine enter (n := 37) Tryz.func35 rfl Tryz.ntmps35 rfl (fun w Z => ?_)
 refine wc_as (l' := [(0, rSl 4 (List.map eTApiCell v)), (1, rSl 1 (List.map eS path))]) (H' := []) rfl rfl ?_
 unfold vPath at h
 refine wc_sr ?_
 refine wv (r := rv (.slice none 0 0)) (o_assign rfl) ?_
 refine wv (r := rI .i64 0) (o_assign rfl) ?_
 refine wl_x ?_
 refine wc_seq ?_
 refine wc_sr ?_
 refine wm rfl ?_
 obtain ⟨r1, e3, h2⟩ := obn_e h
 refine wc0 Tryz.call43 (vCheck_w F v r1 e3) rfl ?_
 refine wa rfl ?_
 refine wl_y ?_
 refine wm rfl ?_
 refine wv (o_ne rfl rfl) ?_
 refine wl_x ?_
 refine wc_cond (b := !decide (r1 = 0)) rfl (fun c4 => ?_) (fun c4 => ?_)
 ·have h5 := cnd_t c4 h2
  refine wc_sr ?_
  refine wm rfl ?_
  refine wv (r := rv (.slice none 0 0)) (o_assign rfl) ?_
  refine wa rfl ?_
  refine wl_x ?_
  refine wc_ret ?_
  refine wk_then_ret ?_
  refine WK.up (d := 4) (r := rSl 4 (List.map eTApiCell ([] : List TApiCell))) rfl (Up.le (Rle.nil _)) ?_
  obtain rfl := some_e h5
  exact wk_ret (r_2 Tryz.results35 (rv_t rfl) (rv_t rfl)) sN ⟨rfl, rfl⟩
 ·have h6 := cnd_f c4 h2
  refine wc_skip ?_
  refine wk_x ?_
  refine wc_sr ?_
  refine wm rfl ?_
  obtain ⟨r7, e9, h8⟩ := obn_e h6
  refine wc0 Tryz.call54 (cloneN_w v r7 e9) rfl ?_
  refine wa rfl ?_
  refine wl_x ?_
  refine wc_seq ?_
  refine wc_sr ?_
  refine wm rfl ?_
  refine wv (o_len_zt (ys := path) (enc := eS) Tryz.underlying29 rfl) ?_
  refine wv (r := rI .i64 0) (o_move rfl) ?_
  refine wl_x ?_
  refine wc_block ?_
  obtain ⟨o52, eo53, hK54⟩ := obn_e h8
  refine wc_loop2 (S := Nat × ((List TApiCell) × Int) × (Unit)) (V := ((List TApiCell)) × (Unit)) 0 (fun σ => lop (fun σ => vPath_b1 F path σ.1 σ.2) σ.1 σ.2.1 = some o52) (fun σ => [(4, rv (.slice none 0 0)), (5, rI .i64 0), (7, rSl 4 (List.map eTApiCell σ.2.1.1)), (19, rSl 1 (List.map eS path)), (20, rI .i64 (path.length : Int)), (21, rI .i64 σ.2.1.2)]) (fun σ => []) (fun σ => σ.1) (F, (r7, 0), ()) eo53 (Sub.c rfl (Sub.c5 rfl rfl rfl rfl rfl Sub.nil)) sN (fun σ => vPath_k1 σ.1 = some r) (fun σ => [(4, rv (.slice none 0 0)), (5, rI .i64 0), (7, rSl 4 (List.map eTApiCell σ.1))]) (fun σ => []) ?_ ?_
  ·rintro ⟨n60, ⟨x36, x37⟩, ⟨⟩⟩ hi58
   refine wc_as (l' := [(4, rv (.slice none 0 0)), (5, rI .i64 0), (7, rSl 4 (List.map eTApiCell x36)), (19, rSl 1 (List.map eS path)), (20, rI .i64 (path.length : Int)), (21, rI .i64 x37)]) (H' := []) rfl rfl ?_
   obtain ⟨m57, rfl, t55, h59, ht56⟩ := lop_e hi58
   replace h59 : vPath_b1 F path x36 x37 = some t55 := h59
   unfold vPath_b1 at h59
   refine wc_sr ?_
   refine wv (o_lt rfl rfl) ?_
   refine wl_x ?_
   refine wc_seq ?_
   refine wc_cond (b := decide (x37 < (path.length : Int))) rfl (fun c61 => ?_) (fun c61 => ?_)
   ·have h62 := cnd_t c61 h59
    refine wc_skip ?_
    refine wk_x ?_
    refine wc_seq ?_
    refine wc_block ?_
    refine wc_sr ?_
    obtain ⟨g63, h64⟩ := chk_e h62
    refine wv (o_ix_z (enc := eS) (ys := path) Tryz.underlying29 Tryz.sizeOf9 rfl rfl g63) ?_
    refine wv (o_load_z Tryz.isAgg9 rfl rfl) ?_
    refine wa rfl ?_
    refine wl_y ?_
    refine wm rfl ?_
    refine wm rfl ?_
    obtain ⟨r65, e67, h66⟩ := obn_e h64
    refine wc0 Tryz.call33 (vGet_w F x36 (at' path x37) r65 e67) rfl ?_
    refine wm rfl ?_
    refine wv (o_extract rfl rfl) ?_
    refine wv (o_extract rfl rfl) ?_
    refine wa rfl ?_
    refine wa rfl ?_
    refine wl_x ?_
    refine wc_seq ?_
    refine wc_sr ?_
    refine wm rfl ?_
    refine wv (o_ne rfl rfl) ?_
    refine wl_x ?_
    refine wc_cond (b := !decide (r65.2 = 0)) rfl (fun c68 => ?_) (fun c68 => ?_)
    ·have h69 := cnd_t c68 h66
     refine wc_sr ?_
     refine wm rfl ?_
     refine wv (r := rv (.slice none 0 0)) (o_assign rfl) ?_
     refine wa rfl ?_
     refine wl_x ?_
     refine wc_ret ?_
     refine wk_then_ret ?_
     refine wk_in_ret ?_
     refine wk_then_ret ?_
     refine wk_then_ret ?_
     refine wk_cut_ret ?_
     have h70 := stp_ret h69 ht56 hK54
     refine wk_in_ret ?_
     refine wk_then_ret ?_
     refine WK.up (d := 4) (r := rSl 4 (List.map eTApiCell ([] : List TApiCell))) rfl (Up.le (Rle.nil _)) ?_
     obtain rfl := some_e h70
     exact wk_ret (r_2 Tryz.results35 (rv_t rfl) (rv_t rfl)) sN ⟨rfl, rfl⟩
    ·have h71 := cnd_f c68 h66
     refine wc_skip ?_
     refine wk_x ?_
     refine wc_region ?_
     refine wm rfl ?_
     refine wa rfl ?_
     refine wl_nil ?_
     refine wk_in_norm ?_
     refine wk_x ?_
     refine wc_region ?_
     obtain ⟨g72, h73⟩ := chk_e h71
     refine wv (o_add rfl rfl g72) ?_
     refine wm rfl ?_
     refine wl_nil ?_
     have h74 := stp_next h73 ht56
     exact wk_then (wk_some (m57, (r65.1, x37 + 1), ()) ⟨h74, Nat.lt_succ_self _⟩ (Sub.c rfl (Sub.c5 rfl rfl rfl rfl rfl Sub.nil)) sN)
   ·have h75 := cnd_f c61 h59
    refine wc_exit ?_
    refine wk_then_exit ?_
    have h76 := stp_go h75 ht56 hK54
    exact wk_then_exit (wk_cut_hit (wk_some (x36, ()) h76 (Sub.c rfl (Sub.c rfl (Sub.c rfl Sub.nil))) sN))
  ·rintro ⟨x51, ⟨⟩⟩ h77
   refine wk_as (l' := [(4, rv (.slice none 0 0)), (5, rI .i64 0), (7, rSl 4 (List.map eTApiCell x51))]) (H' := []) rfl rfl ?_
   replace h77 : vPath_k1 x51 = some r := h77
   unfold vPath_k1 at h77
   refine wk_in_hit ?_
   refine wk_x ?_
   refine wc_sr ?_
   refine wm rfl ?_
   refine wa rfl ?_
   refine wv (r := rI .i64 0) (o_assign rfl) ?_
   refine wl_x ?_
   refine wc_ret ?_
   obtain rfl := some_e h77
   exact wk_ret (r_2 Tryz.results35 (rv_t rfl) (rv_t rfl)) sN ⟨rfl, rfl⟩

theorem rPart_w (F : Nat) (v : (List TApiCell)) (a : Int) (b : Int) (r : (List TApiCell)) (h : rPart F v a b = some r) : Fn Tryz.prog GE 56 [rSl 4 (List.map eTApiCell v), rI .i64 a, rI .i64 b] [] (fun R H => R = rSl 4 (List.map eTApiCell r) ∧ H = []) := by
 refine enter (n := 23) Tryz.func56 rfl Tryz.ntmps56 rfl (fun w Z => ?_)
 refine wc_as (l' := [(0, rSl 4 (List.map eTApiCell v)), (1, rI .i64 a), (2, rI .i64 b)]) (H' := []) rfl rfl ?_
 unfold rPart at h
 refine wc_sr ?_
 refine wv (r := rv (.slice none 0 0)) (o_assign rfl) ?_
 refine wl_y ?_
 refine wv (r := rv (.slice none 0 0)) (o_assign rfl) ?_
 refine wl_x ?_
 refine wc_seq ?_
 refine wc_sr ?_
 refine wm rfl ?_
 refine wa rfl ?_
 refine wl_x ?_
 refine wc_block ?_
 refine WC.nilrow (e := 63) (sz := 4) ?_
 obtain ⟨o42, eo43, hK44⟩ := obn_e h
 refine wc_loop2 (S := Nat × ((List TApiCell) × Int) × (Value)) (V := ((List TApiCell)) × (Value)) 0 (fun σ => lop (fun σ => rPart_b1 v b σ.1 σ.2) σ.1 σ.2.1 = some o42) (fun σ => [(0, rSl 4 (List.map eTApiCell v)), (2, rI .i64 b), (6, rv (.slice none 0 0)), (7, rv σ.2.2), (8, rI .i64 σ.2.1.2)]) (fun σ => [.row σ.2.2 63 4 (List.map eTApiCell σ.2.1.1)]) (fun σ => σ.1) (F, (([] : List TApiCell), a), (.slice none 0 0                                                               )) eo43 (Sub.c5 rfl rfl rfl rfl rfl Sub.nil) (sC sN) (fun σ => rPart_k1 σ.1 = some r) (fun σ => [(6, rv (.slice none 0 0)), (7, rv σ.2)]) (fun σ => [.row σ.2 63 4 (List.map eTApiCell σ.1)]) ?_ ?_
 ·rintro ⟨n50, ⟨x26, x28⟩, v27⟩ hi48
  refine wc_as (l' := [(0, rSl 4 (List.map eTApiCell v)), (2, rI .i64 b), (6, rv (.slice none 0 0)), (7, rv v27), (8, rI .i64 x28)]) (H' := [.row v27 63 4 (List.map eTApiCell x26)]) rfl rfl ?_
  obtain ⟨m47, rfl, t45, h49, ht46⟩ := lop_e hi48
  replace h49 : rPart_b1 v b x26 x28 = some t45 := h49
  unfold rPart_b1 at h49
  refine wc_seq ?_
  refine wc_sr ?_
  refine wm rfl ?_
  refine wm rfl ?_
  refine wv (o_lt rfl rfl) ?_
  refine wl_x ?_
  refine wc_cond (b := decide (x28 < b)) rfl (fun c51 => ?_) (fun c51 => ?_)
  ·have h52 := cnd_t c51 h49
   refine wc_skip ?_
   refine wk_x ?_
   refine wc_seq ?_
   refine wc_block ?_
   refine wc_region ?_
   refine wm rfl ?_
   refine wm rfl ?_
   refine wm rfl ?_
   obtain ⟨g53, h54⟩ := chk_e h52
   refine wv (o_ix_z (enc := eTApiCell) (ys := v) Tryz.underlying23 Tryz.sizeOf63 rfl rfl g53) ?_
   refine wv (o_load_za Tryz.isAgg63 Tryz.sizeOf63 rfl rfl rfl) ?_
   refine w_buildSlice (ys := ([(at' v x28)] : List TApiCell)) (enc := eTApiCell) (css := [[rI .i64 ((at' v x28).fKind), rI .i64 ((at' v x28).fInt), rS ((at' v x28).fStr), rI .i64 ((at' v x28).fN)]]) (xs := [.tmp 19]) Tryz.underlying23 Tryz.sizeOf63 Tryz.zeroValue63 rfl rfl rfl ⟨Cel.agg ⟨Up.refl _, Up.refl _, Up.refl _, Up.refl _, trivial⟩, trivial⟩ rfl eTApiCell_len rfl rfl rfl (fun b55 => ?_)
   obtain ⟨g57, h58⟩ := chk_e h54
   obtain ⟨inf, hinf⟩ := info63
   refine w_append (xs := x26) (ys := ([(at' v x28)] : List TApiCell)) (enc := eTApiCell) (i := 1) Tryz.underlying23 hinf.1 hinf.2.1 hinf.2.2.1 hinf.2.2.2 rfl rfl rfl rfl rfl (Src.w (i := 0) rfl rfl) eTApiCell_len eTApiCell_one g57 rfl (fun v56 => ?_)
   refine wa rfl ?_
   refine wl_nil ?_
   refine wk_in_norm ?_
   refine wk_x ?_
   refine wc_region ?_
   refine wm rfl ?_
   obtain ⟨g59, h60⟩ := chk_e h58
   refine wv (o_add rfl rfl g59) ?_
   refine wa rfl ?_
   refine wl_nil ?_
   have h61 := stp_next h60 ht46
   exact wk_then (wk_some (m47, (x26 ++ ([(at' v x28)] : List TApiCell), x28 + 1), v56) ⟨h61, Nat.lt_succ_self _⟩ (Sub.c5 rfl rfl rfl rfl rfl Sub.nil) (sC (sS sN)))
  ·have h62 := cnd_f c51 h49
   refine wc_exit ?_
   refine wk_then_exit ?_
   have h63 := stp_go h62 ht46 hK44
   exact wk_then_exit (wk_cut_hit (wk_some (x26, v27) h63 (Sub.c rfl (Sub.c rfl Sub.nil)) (sC sN)))
 ·rintro ⟨x40, v41⟩ h64
  refine wk_as (l' := [(6, rv (.slice none 0 0)), (7, rv v41)]) (H' := [.row v41 63 4 (List.map eTApiCell x40)]) rfl rfl ?_
  replace h64 : rPart_k1 x40 = some r := h64
  unfold rPart_k1 at h64
  refine wk_in_hit ?_
  refine wk_x ?_
  refine wc_sr ?_
  refine wm rfl ?_
  refine wa rfl ?_
  refine wl_x ?_
  refine wc_ret ?_
  refine WK.freeze (i := 0) rfl ?_
  refine WK.up (d := 6) (r := rSl 4 (List.map eTApiCell x40)) rfl (Up.fact (i := 0) rfl) ?_
  obtain rfl := some_e h64
  exact wk_ret (r_1 Tryz.results56 (rv_t rfl)) (sS sN) ⟨rfl, rfl⟩

theorem rItems_w (F : Nat) (v : (List TApiCell)) (r : (List (List TApiCell)) × Int) (h : rItems F v = some r) : Fn Tryz.prog GE 30 [rSl 4 (List.map eTApiCell v)] [] (fun R H => R = rTup [rSl 1 (List.map eL_TApiCell r.1), rI .i64 r.2] ∧ H = []) := by
 refine enter (n := 53) Tryz.func30 rfl Tryz.ntmps30 rfl (fun w Z => ?_)
 refine wc_as (l' := [(0, rSl 4 (List.map eTApiCell v))]) (H' := []) rfl rfl ?_
 unfold rItems at h
 refine wc_sr ?_
 refine wv (r := rv (.slice none 0 0)) (o_assign rfl) ?_
 refine wv (r := rI .i64 0) (o_assign rfl) ?_
 refine wl_y ?_
 refine wm rfl ?_
 obtain ⟨r1, e3, h2⟩ := obn_e h
 refine wc0 Tryz.call48 (rCheck_w F v r1 e3) rfl ?_
 refine wa rfl ?_
 refine wl_x ?_
 refine wc_seq ?_
 refine wc_sr ?_
 refine wm rfl ?_
 refine wv (o_ne rfl rfl) ?_
 refine wl_x ?_
 refine wc_cond (b := !decide (r1 = 0)) rfl (fun c4 => ?_) (fun c4 => ?_)
 ·have h5 := cnd_t c4 h2
  refine wc_sr ?_
  refine wm rfl ?_
  refine wv (r := rv (.slice none 0 0)) (o_assign rfl) ?_
  refine wa rfl ?_
  refine wl_x ?_
  refine wc_ret ?_
  refine wk_then_ret ?_
  refine WK.up (d := 2) (r := rSl 1 (List.map eL_TApiCell ([] : List (List TApiCell)))) rfl (Up.le (Rle.nil _)) ?_
  obtain rfl := some_e h5
  exact wk_ret (r_2 Tryz.results30 (rv_t rfl) (rv_t rfl)) sN ⟨rfl, rfl⟩
 ·have h6 := cnd_f c4 h2
  refine wc_skip ?_
  refine wk_x ?_
  refine wc_seq ?_
  obtain ⟨g7, h8⟩ := chk_e h6
  refine wc_seq_mid [(0, rSl 4 (List.map eTApiCell v)), (25, rB ((!decide (((at' v 0).fKind) = 5)) && (!decide (((at' v 0).fKind) = 6))))] [] ?_ ?_
  ·refine wc_region ?_
   refine wm rfl ?_
   refine wv (o_ix_z (enc := eTApiCell) (ys := v) Tryz.underlying23 Tryz.sizeOf63 rfl rfl g7) ?_
   refine wv (o_fieldAddr_z Tryz.underlying63 rfl Tryz.sizeOf61 rfl rfl) ?_
   refine wv (o_load_z Tryz.isAgg61 rfl rfl) ?_
   refine wv (o_ne rfl rfl) ?_
   refine wm rfl ?_
   refine bsplit (!decide (((at' v 0).fKind) = 5)) (fun c9 => ?_) (fun c9 => ?_)
   ·refine wo c9 ?_
    refine wm rfl ?_
    refine wo c9 ?_
    refine wv (o_ix_z (enc := eTApiCell) (ys := v) Tryz.underlying23 Tryz.sizeOf63 rfl rfl g7) ?_
    refine wo c9 ?_
    refine wv (o_fieldAddr_z Tryz.underlying63 rfl Tryz.sizeOf61 rfl rfl) ?_
    refine wo c9 ?_
    refine wv (o_load_z Tryz.isAgg61 rfl rfl) ?_
    refine wo c9 ?_
    refine wv (o_ne rfl rfl) ?_
    refine wpt rfl c9 rfl ?_
    refine wl_nil ?_
    exact wtc c9
   ·refine wf c9 ?_
    refine wf c9 ?_
    refine wf c9 ?_
    refine wf c9 ?_
    refine wf c9 ?_
    refine wv (r := rB false) (o_pick_f (b := !decide (((at' v 0).fKind) = 5)) rfl c9 rfl) ?_
    refine wl_nil ?_
    exact wtc c9
  refine wc_cond (b := ((!decide (((at' v 0).fKind) = 5)) && (!decide (((at' v 0).fKind) = 6)))) rfl (fun c10 => ?_) (fun c10 => ?_)
  ·have h11 := cnd_t c10 h8
   refine wc_sr ?_
   refine wv (r := rv (.slice none 0 0)) (o_assign rfl) ?_
   refine wv (r := rI .i64 7) (o_assign rfl) ?_
   refine wl_x ?_
   refine wc_ret ?_
   refine wk_then_ret ?_
   refine WK.up (d := 2) (r := rSl 1 (List.map eL_TApiCell ([] : List (List TApiCell)))) rfl (Up.le (Rle.nil _)) ?_
   obtain rfl := some_e h11
   exact wk_ret (r_2 Tryz.results30 (rv_t rfl) (rv_t rfl)) sN ⟨rfl, rfl⟩
  ·have h12 := cnd_f c10 h8
   refine wc_skip ?_
   refine wk_x ?_
   refine wc_sr ?_
   refine wv (r := rv (.slice none 0 0)) (o_assign rfl) ?_
   refine wl_y ?_
   refine wv (r := rI .i64 1) (o_assign rfl) ?_
   refine wl_x ?_
   refine wc_seq ?_
   refine wc_sr ?_
   refine wv (r := rI .i64 0) (o_assign rfl) ?_
   refine wl_x ?_
   refine wc_block ?_
   refine WC.nilrow (e := 23) (sz := 1) ?_
   obtain ⟨o113, eo114, hK115⟩ := obn_e h12
   refine wc_loop2 (S := Nat × ((List (List TApiCell)) × Int × Int) × (Value)) (V := ((List (List TApiCell))) × (Value)) 0 (fun σ => lop (fun σ => rItems_b1 F v σ.1 σ.2.1 σ.2.2) σ.1 σ.2.1 = some o113) (fun σ => [(0, rSl 4 (List.map eTApiCell v)), (5, rv σ.2.2), (6, rI .i64 σ.2.1.2.1), (7, rI .i64 σ.2.1.2.2)]) (fun σ => [.row σ.2.2 23 1 (List.map eL_TApiCell σ.2.1.1)]) (fun σ => σ.1) (F, (([] : List (List TApiCell)), 1, 0), (.slice none 0 0                       )) eo114 (Sub.c rfl (Sub.c rfl (Sub.c rfl (Sub.c rfl Sub.nil)))) (sC sN) (fun σ => rItems_k1 σ.1 = some r) (fun σ => [(5, rv σ.2)]) (fun σ => [.row σ.2 23 1 (List.map eL_TApiCell σ.1)]) ?_ ?_
   ·rintro ⟨n121, ⟨x75, x77, x78⟩, v76⟩ hi119
    refine wc_as (l' := [(0, rSl 4 (List.map eTApiCell v)), (5, rv v76), (6, rI .i64 x77), (7, rI .i64 x78)]) (H' := [.row v76 23 1 (List.map eL_TApiCell x75)]) rfl rfl ?_
    obtain ⟨m118, rfl, t116, h120, ht117⟩ := lop_e hi119
    replace h120 : rItems_b1 F v x75 x77 x78 = some t116 := h120
    unfold rItems_b1 at h120
    refine wc_seq ?_
    refine wc_sr ?_
    refine wm rfl ?_
    refine wm rfl ?_
    refine wv (o_ix_z (enc := eTApiCell) (ys := v) Tryz.underlying23 Tryz.sizeOf63 rfl rfl g7) ?_
    refine wv (o_fieldAddr_z Tryz.underlying63 rfl Tryz.sizeOf3 rfl rfl) ?_
    refine wv (o_load_z Tryz.isAgg3 rfl rfl) ?_
    refine wv (o_lt rfl rfl) ?_
    refine wl_x ?_
    refine wc_cond (b := decide (x78 < ((at' v 0).fN))) rfl (fun c122 => ?_) (fun c122 => ?_)
    ·have h123 := cnd_t c122 h120
     refine wc_skip ?_
     refine wk_x ?_
     refine wc_seq ?_
     refine wc_block ?_
     refine wc_seq ?_
     refine wc_sr ?_
     refine wm rfl ?_
     refine wv (o_ix_z (enc := eTApiCell) (ys := v) Tryz.underlying23 Tryz.sizeOf63 rfl rfl g7) ?_
     refine wv (o_fieldAddr_z Tryz.underlying63 rfl Tryz.sizeOf61 rfl rfl) ?_
     refine wv (o_load_z Tryz.isAgg61 rfl rfl) ?_
     refine wv (o_eq rfl rfl) ?_
     refine wl_x ?_
     refine wc_cond (b := decide (((at' v 0).fKind) = 6)) rfl (fun c124 => ?_) (fun c124 => ?_)
     ·have h125 := cnd_t c124 h123
      refine wc_region ?_
      refine wm rfl ?_
      obtain ⟨g126, h127⟩ := chk_e h125
      refine wv (o_add rfl rfl g126) ?_
      refine wa rfl ?_
      refine wl_y ?_
      refine wm rfl ?_
      refine wm rfl ?_
      obtain ⟨r128, e130, h129⟩ := obn_e h127
      refine wc0 Tryz.call55 (rNext_w F v (x77 + 1) r128 e130) rfl ?_
      refine wa rfl ?_
      refine wl_y ?_
      refine wm rfl ?_
      refine wm rfl ?_
      refine wm rfl ?_
      refine wm rfl ?_
      obtain ⟨r131, e133, h132⟩ := obn_e h129
      refine wc0 Tryz.call56 (rPart_w F v (x77 + 1) r128 r131 e133) rfl ?_
      refine w_buildSlice (ys := ([r131] : List (List TApiCell))) (enc := eL_TApiCell) (css := [[rSl 4 (List.map eTApiCell r131)]]) (xs := [.tmp 48]) Tryz.underlying30 Tryz.sizeOf23 Tryz.zeroValue23 rfl rfl rfl ⟨Cel.one rfl (Up.refl _), trivial⟩ rfl eL_TApiCell_len rfl rfl rfl (fun b134 => ?_)
      obtain ⟨g136, h137⟩ := chk_e h132
      obtain ⟨inf, hinf⟩ := info23
      refine w_append (xs := x75) (ys := ([r131] : List (List TApiCell))) (enc := eL_TApiCell) (i := 1) Tryz.underlying30 hinf.1 hinf.2.1 hinf.2.2.1 hinf.2.2.2 rfl rfl rfl rfl rfl (Src.w (i := 0) rfl rfl) eL_TApiCell_len eL_TApiCell_one g136 rfl (fun v135 => ?_)
      refine wa rfl ?_
      refine wl_x ?_
      refine wc_region ?_
      refine wm rfl ?_
      refine wa rfl ?_
      refine wl_nil ?_
      refine wk_in_norm ?_
      refine wk_x ?_
      refine wc_region ?_
      refine wm rfl ?_
      obtain ⟨g138, h139⟩ := chk_e h137
      refine wv (o_add rfl rfl g138) ?_
      refine wa rfl ?_
      refine wl_nil ?_
      have h140 := stp_next h139 ht117
      exact wk_then (wk_some (m118, (x75 ++ ([r131] : List (List TApiCell)), r128, x78 + 1), v135) ⟨h140, Nat.lt_succ_self _⟩ (Sub.c rfl (Sub.c rfl (Sub.c rfl (Sub.c rfl Sub.nil)))) (sC (sS sN)))
     ·have h141 := cnd_f c124 h123
      refine wc_skip ?_
      refine wk_x ?_
      refine wc_sr ?_
      refine wm rfl ?_
      refine wm rfl ?_
      obtain ⟨r142, e144, h143⟩ := obn_e h141
      refine wc0 Tryz.call55 (rNext_w F v x77 r142 e144) rfl ?_
      refine wa rfl ?_
      refine wl_y ?_
      refine wm rfl ?_
      refine wm rfl ?_
      refine wm rfl ?_
      refine wm rfl ?_
      obtain ⟨r145, e147, h146⟩ := obn_e h143
      refine wc0 Tryz.call56 (rPart_w F v x77 r142 r145 e147) rfl ?_
      refine w_buildSlice (ys := ([r145] : List (List TApiCell))) (enc := eL_TApiCell) (css := [[rSl 4 (List.map eTApiCell r145)]]) (xs := [.tmp 48]) Tryz.underlying30 Tryz.sizeOf23 Tryz.zeroValue23 rfl rfl rfl ⟨Cel.one rfl (Up.refl _), trivial⟩ rfl eL_TApiCell_len rfl rfl rfl (fun b148 => ?_)
      obtain ⟨g150, h151⟩ := chk_e h146
      obtain ⟨inf, hinf⟩ := info23
      refine w_append (xs := x75) (ys := ([r145] : List (List TApiCell))) (enc := eL_TApiCell) (i := 1) Tryz.underlying30 hinf.1 hinf.2.1 hinf.2.2.1 hinf.2.2.2 rfl rfl rfl rfl rfl (Src.w (i := 0) rfl rfl) eL_TApiCell_len eL_TApiCell_one g150 rfl (fun v149 => ?_)
      refine wa rfl ?_
      refine wl_x ?_
      refine wc_region ?_
      refine wm rfl ?_
      refine wa rfl ?_
      refine wl_nil ?_
      refine wk_in_norm ?_
      refine wk_x ?_
      refine wc_region ?_
      refine wm rfl ?_
      obtain ⟨g152, h153⟩ := chk_e h151
      refine wv (o_add rfl rfl g152) ?_
      refine wa rfl ?_
      refine wl_nil ?_
      have h154 := stp_next h153 ht117
      exact wk_then (wk_some (m118, (x75 ++ ([r145] : List (List TApiCell)), r142, x78 + 1), v149) ⟨h154, Nat.lt_succ_self _⟩ (Sub.c rfl (Sub.c rfl (Sub.c rfl (Sub.c rfl Sub.nil)))) (sC (sS sN)))
    ·have h155 := cnd_f c122 h120
     refine wc_exit ?_
     refine wk_then_exit ?_
     have h156 := stp_go h155 ht117 hK115
     exact wk_then_exit (wk_cut_hit (wk_some (x75, v76) h156 (Sub.c rfl Sub.nil) (sC sN)))
   ·rintro ⟨x111, v112⟩ h157
    refine wk_as (l' := [(5, rv v112)]) (H' := [.row v112 23 1 (List.map eL_TApiCell x111)]) rfl rfl ?_
    replace h157 : rItems_k1 x111 = some r := h157
    unfold rItems_k1 at h157
    refine wk_in_hit ?_
    refine wk_x ?_
    refine wc_sr ?_
    refine wm rfl ?_
    refine wa rfl ?_
    refine wv (r := rI .i64 0) (o_assign rfl) ?_
    refine wl_x ?_
    refine wc_ret ?_
    refine WK.freeze (i := 0) rfl ?_
    refine WK.up (d := 2) (r := rSl 1 (List.map eL_TApiCell x111)) rfl (Up.fact (i := 0) rfl) ?_
    obtain rfl := some_e h157
    exact wk_ret (r_2 Tryz.results30 (rv_t rfl) (rv_t rfl)) (sS sN) ⟨rfl, rfl⟩

theorem rKeys_w (F : Nat) (v : (List TApiCell)) (r : (List Str) × Int) (h : rKeys F v = some r) : Fn Tryz.prog GE 32 [rSl 4 (List.map eTApiCell v)] [] (fun R H => R = rTup [rSl 1 (List.map eS r.1), rI .i64 r.2] ∧ H = []) := by
 refine enter (n := 39) Tryz.func32 rfl Tryz.ntmps32 rfl (fun w Z => ?_)
 refine wc_as (l' := [(0, rSl 4 (List.map eTApiCell v))]) (H' := []) rfl rfl ?_
 unfold rKeys at h
 refine wc_sr ?_
 refine wv (r := rv (.slice none 0 0)) (o_assign rfl) ?_
 refine wv (r := rI .i64 0) (o_assign rfl) ?_
 refine wl_y ?_
 refine wm rfl ?_
 obtain ⟨r1, e3, h2⟩ := obn_e h
 refine wc0 Tryz.call48 (rCheck_w F v r1 e3) rfl ?_
 refine wa rfl ?_
 refine wl_x ?_
 refine wc_seq ?_
 refine wc_sr ?_
 refine wm rfl ?_
 refine wv (o_ne rfl rfl) ?_
 refine wl_x ?_
 refine wc_cond (b := !decide (r1 = 0)) rfl (fun c4 => ?_) (fun c4 => ?_)
 ·have h5 := cnd_t c4 h2
  refine wc_sr ?_
  refine wm rfl ?_
  refine wv (r := rv (.slice none 0 0)) (o_assign rfl) ?_
  refine wa rfl ?_
  refine wl_x ?_
  refine wc_ret ?_
  refine wk_then_ret ?_
  refine WK.up (d := 2) (r := rSl 1 (List.map eS ([] : List Str))) rfl (Up.le (Rle.nil _)) ?_
  obtain rfl := some_e h5
  exact wk_ret (r_2 Tryz.results32 (rv_t rfl) (rv_t rfl)) sN ⟨rfl, rfl⟩
 ·have h6 := cnd_f c4 h2
  refine wc_skip ?_
  refine wk_x ?_
  refine wc_seq ?_
  refine wc_sr ?_
  refine wm rfl ?_
  obtain ⟨g7, h8⟩ := chk_e h6
  refine wv (o_ix_z (enc := eTApiCell) (ys := v) Tryz.underlying23 Tryz.sizeOf63 rfl rfl g7) ?_
  refine wv (o_fieldAddr_z Tryz.underlying63 rfl Tryz.sizeOf61 rfl rfl) ?_
  refine wv (o_load_z Tryz.isAgg61 rfl rfl) ?_
  refine wv (o_ne rfl rfl) ?_
  refine wl_x ?_
  refine wc_cond (b := !decide (((at' v 0).fKind) = 6)) rfl (fun c9 => ?_) (fun c9 => ?_)
  ·have h10 := cnd_t c9 h8
   refine wc_sr ?_
   refine wv (r := rv (.slice none 0 0)) (o_assign rfl) ?_
   refine wv (r := rI .i64 7) (o_assign rfl) ?_
   refine wl_x ?_
   refine wc_ret ?_
   refine wk_then_ret ?_
   refine WK.up (d := 2) (r := rSl 1 (List.map eS ([] : List Str))) rfl (Up.le (Rle.nil _)) ?_
   obtain rfl := some_e h10
   exact wk_ret (r_2 Tryz.results32 (rv_t rfl) (rv_t rfl)) sN ⟨rfl, rfl⟩
  ·have h11 := cnd_f c9 h8
   refine wc_skip ?_
   refine wk_x ?_
   refine wc_sr ?_
   refine wv (r := rv (.slice none 0 0)) (o_assign rfl) ?_
   refine wl_y ?_
   refine wv (r := rI .i64 1) (o_assign rfl) ?_
   refine wl_x ?_
   refine wc_seq ?_
   refine wc_sr ?_
   refine wv (r := rI .i64 0) (o_assign rfl) ?_
   refine wl_x ?_
   refine wc_block ?_
   refine WC.nilrow (e := 9) (sz := 1) ?_
   obtain ⟨o66, eo67, hK68⟩ := obn_e h11
   refine wc_loop2 (S := Nat × ((List Str) × Int × Int) × (Value)) (V := ((List Str)) × (Value)) 0 (fun σ => lop (fun σ => rKeys_b1 F v σ.1 σ.2.1 σ.2.2) σ.1 σ.2.1 = some o66) (fun σ => [(0, rSl 4 (List.map eTApiCell v)), (2, rv (.slice none 0 0)), (3, rI .i64 0), (5, rv σ.2.2), (6, rI .i64 σ.2.1.2.1), (7, rI .i64 σ.2.1.2.2)]) (fun σ => [.row σ.2.2 9 1 (List.map eS σ.2.1.1)]) (fun σ => σ.1) (F, (([] : List Str), 1, 0), (.slice none 0 0         )) eo67 (Sub.c rfl (Sub.c5 rfl rfl rfl rfl rfl Sub.nil)) (sC sN) (fun σ => rKeys_k1 σ.1 = some r) (fun σ => [(2, rv (.slice none 0 0)), (3, rI .i64 0), (5, rv σ.2)]) (fun σ => [.row σ.2 9 1 (List.map eS σ.1)]) ?_ ?_
   ·rintro ⟨n74, ⟨x44, x46, x47⟩, v45⟩ hi72
    refine wc_as (l' := [(0, rSl 4 (List.map eTApiCell v)), (2, rv (.slice none 0 0)), (3, rI .i64 0), (5, rv v45), (6, rI .i64 x46), (7, rI .i64 x47)]) (H' := [.row v45 9 1 (List.map eS x44)]) rfl rfl ?_
    obtain ⟨m71, rfl, t69, h73, ht70⟩ := lop_e hi72
    replace h73 : rKeys_b1 F v x44 x46 x47 = some t69 := h73
    unfold rKeys_b1 at h73
    refine wc_seq ?_
    refine wc_sr ?_
    refine wm rfl ?_
    refine wm rfl ?_
    refine wv (o_ix_z (enc := eTApiCell) (ys := v) Tryz.underlying23 Tryz.sizeOf63 rfl rfl g7) ?_
    refine wv (o_fieldAddr_z Tryz.underlying63 rfl Tryz.sizeOf3 rfl rfl) ?_
    refine wv (o_load_z Tryz.isAgg3 rfl rfl) ?_
    refine wv (o_lt rfl rfl) ?_
    refine wl_x ?_
    refine wc_cond (b := decide (x47 < ((at' v 0).fN))) rfl (fun c75 => ?_) (fun c75 => ?_)
    ·have h76 := cnd_t c75 h73
     refine wc_skip ?_
     refine wk_x ?_
     refine wc_seq ?_
     refine wc_block ?_
     refine wc_sr ?_
     refine wm rfl ?_
     refine wm rfl ?_
     refine wm rfl ?_
     obtain ⟨g77, h78⟩ := chk_e h76
     refine wv (o_ix_z (enc := eTApiCell) (ys := v) Tryz.underlying23 Tryz.sizeOf63 rfl rfl g77) ?_
     refine wv (o_fieldAddr_z Tryz.underlying63 rfl Tryz.sizeOf9 rfl rfl) ?_
     refine wv (o_load_z Tryz.isAgg9 rfl rfl) ?_
     refine w_buildSlice (ys := ([(at' v x46).fStr] : List Str)) (enc := eS) (css := [[rS ((at' v x46).fStr)]]) (xs := [.tmp 31]) Tryz.underlying29 Tryz.sizeOf9 Tryz.zeroValue9 rfl rfl rfl ⟨Cel.one rfl (Up.refl _), trivial⟩ rfl eS_len rfl rfl rfl (fun b79 => ?_)
     obtain ⟨g81, h82⟩ := chk_e h78
     obtain ⟨inf, hinf⟩ := info9
     refine w_append (xs := x44) (ys := ([(at' v x46).fStr] : List Str)) (enc := eS) (i := 1) Tryz.underlying29 hinf.1 hinf.2.1 hinf.2.2.1 hinf.2.2.2 rfl rfl rfl rfl rfl (Src.w (i := 0) rfl rfl) eS_len eS_one g81 rfl (fun v80 => ?_)
     refine wa rfl ?_
     refine wl_x ?_
     refine wc_region ?_
     refine wm rfl ?_
     refine wm rfl ?_
     obtain ⟨g83, h84⟩ := chk_e h82
     refine wv (o_add rfl rfl g83) ?_
     obtain ⟨r85, e87, h86⟩ := obn_e h84
     refine wc0 Tryz.call55 (rNext_w F v (x46 + 1) r85 e87) rfl ?_
     refine wa rfl ?_
     refine wl_nil ?_
     refine wk_in_norm ?_
     refine wk_x ?_
     refine wc_region ?_
     refine wm rfl ?_
     obtain ⟨g88, h89⟩ := chk_e h86
     refine wv (o_add rfl rfl g88) ?_
     refine wa rfl ?_
     refine wl_nil ?_
     have h90 := stp_next h89 ht70
     exact wk_then (wk_some (m71, (x44 ++ ([(at' v x46).fStr] : List Str), r85, x47 + 1), v80) ⟨h90, Nat.lt_succ_self _⟩ (Sub.c rfl (Sub.c5 rfl rfl rfl rfl rfl Sub.nil)) (sC (sS sN)))
    ·have h91 := cnd_f c75 h73
     refine wc_exit ?_
     refine wk_then_exit ?_
     have h92 := stp_go h91 ht70 hK68
     exact wk_then_exit (wk_cut_hit (wk_some (x44, v45) h92 (Sub.c rfl (Sub.c rfl (Sub.c rfl Sub.nil))) (sC sN)))
   ·rintro ⟨x64, v65⟩ h93
    refine wk_as (l' := [(2, rv (.slice none 0 0)), (3, rI .i64 0), (5, rv v65)]) (H' := [.row v65 9 1 (List.map eS x64)]) rfl rfl ?_
    replace h93 : rKeys_k1 x64 = some r := h93
    unfold rKeys_k1 at h93
    refine wk_in_hit ?_
    refine wk_x ?_
    refine wc_sr ?_
    refine wm rfl ?_
    refine wa rfl ?_
    refine wv (r := rI .i64 0) (o_assign rfl) ?_
    refine wl_x ?_
    refine wc_ret ?_
    refine WK.freeze (i := 0) rfl ?_
    refine WK.up (d := 2) (r := rSl 1 (List.map eS x64)) rfl (Up.fact (i := 0) rfl) ?_
    obtain rfl := some_e h93
    exact wk_ret (r_2 Tryz.results32 (rv_t rfl) (rv_t rfl)) (sS sN) ⟨rfl, rfl⟩

theorem rGet_w (F : Nat) (v : (List TApiCell)) (key : Str) (r : (List TApiCell) × Int) (h : rGet F v key = some r) : Fn Tryz.prog GE 34 [rSl 4 (List.map eTApiCell v), rS key] [] (fun R H => R = rTup [rSl 4 (List.map eTApiCell r.1), rI .i64 r.2] ∧ H = []) := by
 refine enter (n := 40) Tryz.func34 rfl Tryz.ntmps34 rfl (fun w Z => ?_)
 refine wc_as (l' := [(0, rSl 4 (List.map eTApiCell v)), (1, rS key)]) (H' := []) rfl rfl ?_
 unfold rGet at h
 refine wc_sr ?_
 refine wv (r := rv (.slice none 0 0)) (o_assign rfl) ?_
 refine wv (r := rI .i64 0) (o_assign rfl) ?_
 refine wl_y ?_
 refine wm rfl ?_
 obtain ⟨r1, e3, h2⟩ := obn_e h
 refine wc0 Tryz.call32 (rKeys_w F v r1 e3) rfl ?_
 refine wm rfl ?_
 refine wv (o_extract rfl rfl) ?_
 refine wv (o_extract rfl rfl) ?_
 refine wa rfl ?_
 refine wa rfl ?_
 refine wl_x ?_
 refine wc_seq ?_
 refine wc_sr ?_
 refine wm rfl ?_
 refine wv (o_ne rfl rfl) ?_
 refine wl_x ?_
 refine wc_cond (b := !decide (r1.2 = 0)) rfl (fun c4 => ?_) (fun c4 => ?_)
 ·have h5 := cnd_t c4 h2
  refine wc_sr ?_
  refine wm rfl ?_
  refine wv (r := rv (.slice none 0 0)) (o_assign rfl) ?_
  refine wa rfl ?_
  refine wl_x ?_
  refine wc_ret ?_
  refine wk_then_ret ?_
  refine WK.up (d := 4) (r := rSl 4 (List.map eTApiCell ([] : List TApiCell))) rfl (Up.le (Rle.nil _)) ?_
  obtain rfl := some_e h5
  exact wk_ret (r_2 Tryz.results34 (rv_t rfl) (rv_t rfl)) sN ⟨rfl, rfl⟩
 ·have h6 := cnd_f c4 h2
  refine wc_skip ?_
  refine wk_x ?_
  refine wc_sr ?_
  refine wm rfl ?_
  obtain ⟨r7, e9, h8⟩ := obn_e h6
  refine wc0 Tryz.call30 (rItems_w F v r7 e9) rfl ?_
  refine wm rfl ?_
  refine wv (o_extract rfl rfl) ?_
  refine wv (o_extract rfl rfl) ?_
  refine wa rfl ?_
  refine wa rfl ?_
  refine wl_x ?_
  refine wc_seq ?_
  refine wc_sr ?_
  refine wv (r := rI .i64 0) (o_assign rfl) ?_
  refine wl_x ?_
  refine wc_block ?_
  obtain ⟨o46, eo47, hK48⟩ := obn_e h8
  refine wc_loop2 (S := Nat × (Int) × (Unit)) (V := (Unit) × (Unit)) 0 (fun σ => lop (fun σ => rGet_b1 key r1 r7 σ) σ.1 σ.2.1 = some o46) (fun σ => [(1, rS key), (4, rv (.slice none 0 0)), (5, rI .i64 0), (6, rSl 1 (List.map eS r1.1)), (8, rSl 1 (List.map eL_TApiCell r7.1)), (10, rI .i64 σ.2.1)]) (fun σ => []) (fun σ => σ.1) (F, 0, ()) eo47 (Sub.c rfl (Sub.c5 rfl rfl rfl rfl rfl Sub.nil)) sN (fun σ => rGet_k1  = some r) (fun σ => [(4, rv (.slice none 0 0)), (5, rI .i64 0)]) (fun σ => []) ?_ ?_
  ·rintro ⟨n54, x33, ⟨⟩⟩ hi52
   refine wc_as (l' := [(1, rS key), (4, rv (.slice none 0 0)), (5, rI .i64 0), (6, rSl 1 (List.map eS r1.1)), (8, rSl 1 (List.map eL_TApiCell r7.1)), (10, rI .i64 x33)]) (H' := []) rfl rfl ?_
   obtain ⟨m51, rfl, t49, h53, ht50⟩ := lop_e hi52
   replace h53 : rGet_b1 key r1 r7 x33 = some t49 := h53
   unfold rGet_b1 at h53
   refine wc_seq ?_
   refine wc_sr ?_
   refine wm rfl ?_
   refine wm rfl ?_
   refine wv (o_len_zt (ys := r1.1) (enc := eS) Tryz.underlying29 rfl) ?_
   refine wv (o_lt rfl rfl) ?_
   refine wl_x ?_
   refine wc_cond (b := decide (x33 < (r1.1.length : Int))) rfl (fun c55 => ?_) (fun c55 => ?_)
   ·have h56 := cnd_t c55 h53
    refine wc_skip ?_
    refine wk_x ?_
    refine wc_seq ?_
    refine wc_block ?_
    refine wc_sr ?_
    refine wm rfl ?_
    refine wm rfl ?_
    obtain ⟨g57, h58⟩ := chk_e h56
    refine wv (o_ix_z (enc := eS) (ys := r1.1) Tryz.underlying29 Tryz.sizeOf9 rfl rfl g57) ?_
    refine wv (o_load_z Tryz.isAgg9 rfl rfl) ?_
    refine wm rfl ?_
    refine wv (o_seq rfl rfl) ?_
    refine wl_x ?_
    refine wc_cond (b := decide ((at' r1.1 x33) = key)) rfl (fun c59 => ?_) (fun c59 => ?_)
    ·have h60 := cnd_t c59 h58
     refine wc_sr ?_
     refine wm rfl ?_
     refine wm rfl ?_
     obtain ⟨g61, h62⟩ := chk_e h60
     refine wv (o_ix_z (enc := eL_TApiCell) (ys := r7.1) Tryz.underlying30 Tryz.sizeOf23 rfl rfl g61) ?_
     refine wv (o_load_z Tryz.isAgg23 rfl rfl) ?_
     refine wa rfl ?_
     refine wv (r := rI .i64 0) (o_assign rfl) ?_
     refine wl_x ?_
     refine wc_ret ?_
     refine wk_in_ret ?_
     refine wk_then_ret ?_
     refine wk_then_ret ?_
     refine wk_cut_ret ?_
     have h63 := stp_ret h62 ht50 hK48
     refine wk_in_ret ?_
     refine wk_then_ret ?_
     obtain rfl := some_e h63
     exact wk_ret (r_2 Tryz.results34 (rv_t rfl) (rv_t rfl)) sN ⟨rfl, rfl⟩
    ·have h64 := cnd_f c59 h58
     refine wc_skip ?_
     refine wk_in_norm ?_
     refine wk_x ?_
     refine wc_region ?_
     refine wm rfl ?_
     obtain ⟨g65, h66⟩ := chk_e h64
     refine wv (o_add rfl rfl g65) ?_
     refine wa rfl ?_
     refine wl_nil ?_
     have h67 := stp_next h66 ht50
     exact wk_then (wk_some (m51, x33 + 1, ()) ⟨h67, Nat.lt_succ_self _⟩ (Sub.c rfl (Sub.c5 rfl rfl rfl rfl rfl Sub.nil)) sN)
   ·have h68 := cnd_f c55 h53
    refine wc_exit ?_
    refine wk_then_exit ?_
    have h69 := stp_go h68 ht50 hK48
    exact wk_then_exit (wk_cut_hit (wk_some ((), ()) h69 (Sub.c rfl (Sub.c rfl Sub.nil)) sN))
  ·rintro ⟨⟨⟩, ⟨⟩⟩ h70
   refine wk_as (l' := [(4, rv (.slice none 0 0)), (5, rI .i64 0)]) (H' := []) rfl rfl ?_
   replace h70 : rGet_k1  = some r := h70
   unfold rGet_k1 at h70
   refine wk_in_hit ?_
   refine wk_x ?_
   refine wc_sr ?_
   refine wv (r := rv (.slice none 0 0)) (o_assign rfl) ?_
   refine wv (r := rI .i64 5) (o_assign rfl) ?_
   refine wl_x ?_
   refine wc_ret ?_
   refine WK.up (d := 4) (r := rSl 4 (List.map eTApiCell ([] : List TApiCell))) rfl (Up.le (Rle.nil _)) ?_
   obtain rfl := some_e h70
   exact wk_ret (r_2 Tryz.results34 (rv_t rfl) (rv_t rfl)) sN ⟨rfl, rfl⟩

theorem rPath_w (F : Nat) (v : (List TApiCell)) (path : (List Str)) (r : (List TApiCell) × Int) (h : rPath F v path = some r) : Fn Tryz.prog GE 36 [rSl 4 (List.map eTApiCell v), rSl 1 (List.map eS path)] [] (fun R H => R = rTup [rSl 4 (List.map eTApiCell r.1), rI .i64 r.2] ∧ H = []) := by
 refine enter (n := 37) Tryz.func36 rfl Tryz.ntmps36 rfl (fun w Z => ?_)
 refine wc_as (l' := [(0, rSl 4 (List.map eTApiCell v)), (1, rSl 1 (List.map eS path))]) (H' := []) rfl rfl ?_
 unfold rPath at h
 refine wc_sr ?_
 refine wv (r := rv (.slice none 0 0)) (o_assign rfl) ?_
 refine wv (r := rI .i64 0) (o_assign rfl) ?_
 refine wl_y ?_
 refine wm rfl ?_
 obtain ⟨r1, e3, h2⟩ := obn_e h
 refine wc0 Tryz.call48 (rCheck_w F v r1 e3) rfl ?_
 refine wa rfl ?_
 refine wl_x ?_
 refine wc_seq ?_
 refine wc_sr ?_
 refine wm rfl ?_
 refine wv (o_ne rfl rfl) ?_
 refine wl_x ?_
 refine wc_cond (b := !decide (r1 = 0)) rfl (fun c4 => ?_) (fun c4 => ?_)
 ·have h5 := cnd_t c4 h2
  refine wc_sr ?_
  refine wm rfl ?_
  refine wv (r := rv (.slice none 0 0)) (o_assign rfl) ?_
  refine wa rfl ?_
  refine wl_x ?_
  refine wc_ret ?_
  refine wk_then_ret ?_
  refine WK.up (d := 4) (r := rSl 4 (List.map eTApiCell ([] : List TApiCell))) rfl (Up.le (Rle.nil _)) ?_
  obtain rfl := some_e h5
  exact wk_ret (r_2 Tryz.results36 (rv_t rfl) (rv_t rfl)) sN ⟨rfl, rfl⟩
 ·have h6 := cnd_f c4 h2
  refine wc_skip ?_
  refine wk_x ?_
  refine wc_sr ?_
  refine wm rfl ?_
  refine wm rfl ?_
  refine wv (o_len_zt (ys := v) (enc := eTApiCell) Tryz.underlying23 rfl) ?_
  obtain ⟨r7, e9, h8⟩ := obn_e h6
  refine wc0 Tryz.call56 (rPart_w F v 0 (v.length : Int) r7 e9) rfl ?_
  refine wa rfl ?_
  refine wl_x ?_
  refine wc_seq ?_
  refine wc_sr ?_
  refine wv (r := rI .i64 0) (o_assign rfl) ?_
  refine wl_x ?_
  refine wc_block ?_
  obtain ⟨o54, eo55, hK56⟩ := obn_e h8
  refine wc_loop2 (S := Nat × (Int × (List TApiCell) × Int) × (Unit)) (V := ((List TApiCell)) × (Unit)) 0 (fun σ => lop (fun σ => rPath_b1 F path σ.1 σ.2.1 σ.2.2) σ.1 σ.2.1 = some o54) (fun σ => [(1, rSl 1 (List.map eS path)), (4, rv (.slice none 0 0)), (5, rI .i64 0), (6, rI .i64 σ.2.1.1), (7, rSl 4 (List.map eTApiCell σ.2.1.2.1)), (8, rI .i64 σ.2.1.2.2)]) (fun σ => []) (fun σ => σ.1) (F, (r1, r7, 0), ()) eo55 (Sub.c rfl (Sub.c5 rfl rfl rfl rfl rfl Sub.nil)) sN (fun σ => rPath_k1 σ.1 = some r) (fun σ => [(4, rv (.slice none 0 0)), (5, rI .i64 0), (7, rSl 4 (List.map eTApiCell σ.1))]) (fun σ => []) ?_ ?_
  ·rintro ⟨n62, ⟨x37, x38, x39⟩, ⟨⟩⟩ hi60
   refine wc_as (l' := [(1, rSl 1 (List.map eS path)), (4, rv (.slice none 0 0)), (5, rI .i64 0), (6, rI .i64 x37), (7, rSl 4 (List.map eTApiCell x38)), (8, rI .i64 x39)]) (H' := []) rfl rfl ?_
   obtain ⟨m59, rfl, t57, h61, ht58⟩ := lop_e hi60
   replace h61 : rPath_b1 F path x37 x38 x39 = some t57 := h61
   unfold rPath_b1 at h61
   refine wc_seq ?_
   refine wc_sr ?_
   refine wm rfl ?_
   refine wm rfl ?_
   refine wv (o_len_zt (ys := path) (enc := eS) Tryz.underlying29 rfl) ?_
   refine wv (o_lt rfl rfl) ?_
   refine wl_x ?_
   refine wc_cond (b := decide (x39 < (path.length : Int))) rfl (fun c63 => ?_) (fun c63 => ?_)
   ·have h64 := cnd_t c63 h61
    refine wc_skip ?_
    refine wk_x ?_
    refine wc_seq ?_
    refine wc_block ?_
    refine wc_sr ?_
    refine wm rfl ?_
    refine wm rfl ?_
    refine wm rfl ?_
    obtain ⟨g65, h66⟩ := chk_e h64
    refine wv (o_ix_z (enc := eS) (ys := path) Tryz.underlying29 Tryz.sizeOf9 rfl rfl g65) ?_
    refine wv (o_load_z Tryz.isAgg9 rfl rfl) ?_
    obtain ⟨r67, e69, h68⟩ := obn_e h66
    refine wc0 Tryz.call34 (rGet_w F x38 (at' path x39) r67 e69) rfl ?_
    refine wm rfl ?_
    refine wv (o_extract rfl rfl) ?_
    refine wv (o_extract rfl rfl) ?_
    refine wa rfl ?_
    refine wa rfl ?_
    refine wl_y ?_
    refine wm rfl ?_
    refine wv (o_ne rfl rfl) ?_
    refine wl_x ?_
    refine wc_cond (b := !decide (r67.2 = 0)) rfl (fun c70 => ?_) (fun c70 => ?_)
    ·have h71 := cnd_t c70 h68
     refine wc_sr ?_
     refine wm rfl ?_
     refine wv (r := rv (.slice none 0 0)) (o_assign rfl) ?_
     refine wa rfl ?_
     refine wl_x ?_
     refine wc_ret ?_
     refine wk_in_ret ?_
     refine wk_then_ret ?_
     refine wk_then_ret ?_
     refine wk_cut_ret ?_
     have h72 := stp_ret h71 ht58 hK56
     refine wk_in_ret ?_
     refine wk_then_ret ?_
     refine WK.up (d := 4) (r := rSl 4 (List.map eTApiCell ([] : List TApiCell))) rfl (Up.le (Rle.nil _)) ?_
     obtain rfl := some_e h72
     exact wk_ret (r_2 Tryz.results36 (rv_t rfl) (rv_t rfl)) sN ⟨rfl, rfl⟩
    ·have h73 := cnd_f c70 h68
     refine wc_skip ?_
     refine wk_in_norm ?_
     refine wk_x ?_
     refine wc_region ?_
     refine wm rfl ?_
     obtain ⟨g74, h75⟩ := chk_e h73
     refine wv (o_add rfl rfl g74) ?_
     refine wa rfl ?_
     refine wl_nil ?_
     have h76 := stp_next h75 ht58
     exact wk_then (wk_some (m59, (r67.2, r67.1, x39 + 1), ()) ⟨h76, Nat.lt_succ_self _⟩ (Sub.c rfl (Sub.c5 rfl rfl rfl rfl rfl Sub.nil)) sN)
   ·have h77 := cnd_f c63 h61
    refine wc_exit ?_
    refine wk_then_exit ?_
    have h78 := stp_go h77 ht58 hK56
    exact wk_then_exit (wk_cut_hit (wk_some (x38, ()) h78 (Sub.c rfl (Sub.c rfl (Sub.c rfl Sub.nil))) sN))
  ·rintro ⟨x53, ⟨⟩⟩ h79
   refine wk_as (l' := [(4, rv (.slice none 0 0)), (5, rI .i64 0), (7, rSl 4 (List.map eTApiCell x53))]) (H' := []) rfl rfl ?_
   replace h79 : rPath_k1 x53 = some r := h79
   unfold rPath_k1 at h79
   refine wk_in_hit ?_
   refine wk_x ?_
   refine wc_sr ?_
   refine wm rfl ?_
   refine wa rfl ?_
   refine wv (r := rI .i64 0) (o_assign rfl) ?_
   refine wl_x ?_
   refine wc_ret ?_
   obtain rfl := some_e h79
   exact wk_ret (r_2 Tryz.results36 (rv_t rfl) (rv_t rfl)) sN ⟨rfl, rfl⟩

theorem rPut_w (F : Nat) (v : (List TApiCell)) (key : Str) (x : (List TApiCell)) (r : (List TApiCell) × Int) (h : rPut F v key x = some r) : Fn Tryz.prog GE 38 [rSl 4 (List.map eTApiCell v), rS key, rSl 4 (List.map eTApiCell x)] [] (fun R H => R = rTup [rSl 4 (List.map eTApiCell r.1), rI .i64 r.2] ∧ H = []) := by
 refine enter (n := 93) Tryz.func38 rfl Tryz.ntmps38 rfl (fun w Z => ?_)
 refine wc_as (l' := [(0, rSl 4 (List.map eTApiCell v)), (1, rS key), (2, rSl 4 (List.map eTApiCell x))]) (H' := []) rfl rfl ?_
 unfold rPut at h
 refine wc_sr ?_
 refine wv (r := rv (.slice none 0 0)) (o_assign rfl) ?_
 refine wv (r := rI .i64 0) (o_assign rfl) ?_
 refine wl_y ?_
 refine wm rfl ?_
 obtain ⟨r1, e3, h2⟩ := obn_e h
 refine wc0 Tryz.call32 (rKeys_w F v r1 e3) rfl ?_
 refine wm rfl ?_
 refine wv (o_extract rfl rfl) ?_
 refine wv (o_extract rfl rfl) ?_
 refine wa rfl ?_
 refine wa rfl ?_
 refine wl_x ?_
 refine wc_seq ?_
 refine wc_sr ?_
 refine wm rfl ?_
 refine wv (o_ne rfl rfl) ?_
 refine wl_x ?_
 refine wc_cond (b := !decide (r1.2 = 0)) rfl (fun c4 => ?_) (fun c4 => ?_)
 ·have h5 := cnd_t c4 h2
  refine wc_sr ?_
  refine wm rfl ?_
  refine wv (r := rv (.slice none 0 0)) (o_assign rfl) ?_
  refine wa rfl ?_
  refine wl_x ?_
  refine wc_ret ?_
  refine wk_then_ret ?_
  refine WK.up (d := 6) (r := rSl 4 (List.map eTApiCell ([] : List TApiCell))) rfl (Up.le (Rle.nil _)) ?_
  obtain rfl := some_e h5
  exact wk_ret (r_2 Tryz.results38 (rv_t rfl) (rv_t rfl)) sN ⟨rfl, rfl⟩
 ·have h6 := cnd_f c4 h2
  refine wc_skip ?_
  refine wk_x ?_
  refine wc_sr ?_
  refine wm rfl ?_
  obtain ⟨r7, e9, h8⟩ := obn_e h6
  refine wc0 Tryz.call48 (rCheck_w F x r7 e9) rfl ?_
  refine wa rfl ?_
  refine wl_x ?_
  refine wc_seq ?_
  refine wc_sr ?_
  refine wm rfl ?_
  refine wv (o_ne rfl rfl) ?_
  refine wl_x ?_
  refine wc_cond (b := !decide (r7 = 0)) rfl (fun c10 => ?_) (fun c10 => ?_)
  ·have h11 := cnd_t c10 h8
   refine wc_sr ?_
   refine wm rfl ?_
   refine wv (r := rv (.slice none 0 0)) (o_assign rfl) ?_
   refine wa rfl ?_
   refine wl_x ?_
   refine wc_ret ?_
   refine wk_then_ret ?_
   refine WK.up (d := 6) (r := rSl 4 (List.map eTApiCell ([] : List TApiCell))) rfl (Up.le (Rle.nil _)) ?_
   obtain rfl := some_e h11
   exact wk_ret (r_2 Tryz.results38 (rv_t rfl) (rv_t rfl)) sN ⟨rfl, rfl⟩
  ·have h12 := cnd_f c10 h8
   refine wc_skip ?_
   refine wk_x ?_
   refine wc_sr ?_
   refine wm rfl ?_
   obtain ⟨r13, e15, h14⟩ := obn_e h12
   refine wc0 Tryz.call30 (rItems_w F v r13 e15) rfl ?_
   refine wm rfl ?_
   refine wv (o_extract rfl rfl) ?_
   refine wv (o_extract rfl rfl) ?_
   refine wa rfl ?_
   refine wa rfl ?_
   refine wl_y ?_
   refine wv (r := rv (.slice none 0 0)) (o_assign rfl) ?_
   refine wl_y ?_
   refine wv (r := rv (.slice none 0 0)) (o_assign rfl) ?_
   refine wl_y ?_
   refine wv (r := rB false) (o_assign rfl) ?_
   refine wl_x ?_
   refine wc_seq ?_
   refine wc_sr ?_
   refine wv (r := rI .i64 0) (o_assign rfl) ?_
   refine wl_x ?_
   refine wc_block ?_
   refine WC.nilrow (e := 9) (sz := 1) ?_
   refine WC.nilrow (e := 23) (sz := 1) ?_
   refine wc_perm (H2 := [.row (.slice none 0 0         ) 9 1 (List.map eS ([] : List Str)), .row (.slice none 0 0                       ) 23 1 (List.map eL_TApiCell ([] : List (List TApiCell)))]) ((perm_front (i := 1) rfl).trans (List.Perm.cons _ (List.Perm.refl _))) ?_
   obtain ⟨o320, eo321, hK322⟩ := obn_e h14
   refine wc_loop2 (S := Nat × ((List Str) × (List (List TApiCell)) × Bool × Int) × (Value × Value)) (V := ((List Str) × (List (List TApiCell)) × Bool) × (Value × Value)) 0 (fun σ => lop (fun σ => rPut_b1 key x r1 r13 σ.1 σ.2.1 σ.2.2.1 σ.2.2.2) σ.1 σ.2.1 = some o320) (fun σ => [(1, rS key), (2, rSl 4 (List.map eTApiCell x)), (8, rSl 1 (List.map eS r1.1)), (10, rSl 1 (List.map eL_TApiCell r13.1)), (12, rv σ.2.2.1), (13, rv σ.2.2.2), (14, rB σ.2.1.2.2.1), (15, rI .i64 σ.2.1.2.2.2)]) (fun σ => [.row σ.2.2.1 9 1 (List.map eS σ.2.1.1), .row σ.2.2.2 23 1 (List.map eL_TApiCell σ.2.1.2.1)]) (fun σ => σ.1) (F, (([] : List Str), ([] : List (List TApiCell)), false, 0), ((.slice none 0 0         ), (.slice none 0 0                       ))) eo321 (Sub.c rfl (Sub.c rfl (Sub.c rfl (Sub.c5 rfl rfl rfl rfl rfl Sub.nil)))) (sC (sC sN)) (fun σ => rPut_k1 F key x σ.1.1 σ.1.2.1 σ.1.2.2 = some r) (fun σ => [(1, rS key), (2, rSl 4 (List.map eTApiCell x)), (12, rv σ.2.1), (13, rv σ.2.2), (14, rB σ.1.2.2)]) (fun σ => [.row σ.2.1 9 1 (List.map eS σ.1.1), .row σ.2.2 23 1 (List.map eL_TApiCell σ.1.2.1)]) ?_ ?_
   ·rintro ⟨n328, ⟨x209, x211, x213, x214⟩, ⟨v210, v212⟩⟩ hi326
    refine wc_as (l' := [(1, rS key), (2, rSl 4 (List.map eTApiCell x)), (8, rSl 1 (List.map eS r1.1)), (10, rSl 1 (List.map eL_TApiCell r13.1)), (12, rv v210), (13, rv v212), (14, rB x213), (15, rI .i64 x214)]) (H' := [.row v210 9 1 (List.map eS x209), .row v212 23 1 (List.map eL_TApiCell x211)]) rfl rfl ?_
    obtain ⟨m325, rfl, t323, h327, ht324⟩ := lop_e hi326
    replace h327 : rPut_b1 key x r1 r13 x209 x211 x213 x214 = some t323 := h327
    unfold rPut_b1 at h327
    refine wc_seq ?_
    refine wc_sr ?_
    refine wm rfl ?_
    refine wm rfl ?_
    refine wv (o_len_zt (ys := r1.1) (enc := eS) Tryz.underlying29 rfl) ?_
    refine wv (o_lt rfl rfl) ?_
    refine wl_x ?_
    refine wc_cond (b := decide (x214 < (r1.1.length : Int))) rfl (fun c329 => ?_) (fun c329 => ?_)
    ·have h330 := cnd_t c329 h327
     refine wc_skip ?_
     refine wk_x ?_
     refine wc_seq_cut (S := ((List Str) × (List (List TApiCell)) × Bool) × (Value × Value)) (fun σ => rPut_j2 x214 σ.1.1 σ.1.2.1 σ.1.2.2 = some t323) (fun σ => [(1, rS key), (2, rSl 4 (List.map eTApiCell x)), (8, rSl 1 (List.map eS r1.1)), (10, rSl 1 (List.map eL_TApiCell r13.1)), (12, rv σ.2.1), (13, rv σ.2.2), (14, rB σ.1.2.2), (15, rI .i64 x214), (49, rB ((!x213) && (!sLess (at' r1.1 x214) key))), (58, rSl 1 (List.map eS r1.1)), (59, rI .i64 x214), (61, rS (at' r1.1 x214)), (62, rS key), (63, rB (!decide ((at' r1.1 x214) = key)))]) (fun σ => [.row σ.2.1 9 1 (List.map eS σ.1.1), .row σ.2.2 23 1 (List.map eL_TApiCell σ.1.2.1)]) ?_ ?_
     ·refine wc_block ?_
      refine wc_seq ?_
      obtain ⟨g381, h382⟩ := chk_e h330
      refine wc_seq_mid [(1, rS key), (2, rSl 4 (List.map eTApiCell x)), (8, rSl 1 (List.map eS r1.1)), (10, rSl 1 (List.map eL_TApiCell r13.1)), (12, rv v210), (13, rv v212), (14, rB x213), (15, rI .i64 x214), (49, rB ((!x213) && (!sLess (at' r1.1 x214) key)))] [.row v210 9 1 (List.map eS x209), .row v212 23 1 (List.map eL_TApiCell x211)] ?_ ?_
      ·refine wc_region ?_
       refine wm rfl ?_
       refine wv (o_not rfl) ?_
       refine wm rfl ?_
       refine bsplit (!x213) (fun c383 => ?_) (fun c383 => ?_)
       ·refine wo c383 ?_
        refine wm rfl ?_
        refine wo c383 ?_
        refine wm rfl ?_
        refine wo c383 ?_
        refine wv (o_ix_z (enc := eS) (ys := r1.1) Tryz.underlying29 Tryz.sizeOf9 rfl rfl (imp_t g381 c383)) ?_
        refine wo c383 ?_
        refine wv (o_load_z Tryz.isAgg9 rfl rfl) ?_
        refine wo c383 ?_
        refine wm rfl ?_
        refine wo c383 ?_
        refine wv (o_sge rfl rfl) ?_
        refine wpt rfl c383 rfl ?_
        refine wl_nil ?_
        exact wtc c383
       ·refine wf c383 ?_
        refine wf c383 ?_
        refine wf c383 ?_
        refine wf c383 ?_
        refine wf c383 ?_
        refine wf c383 ?_
        refine wv (r := rB false) (o_pick_f (b := !x213) rfl c383 rfl) ?_
        refine wl_nil ?_
        exact wtc c383
      refine wc_cond (b := ((!x213) && (!sLess (at' r1.1 x214) key))) rfl (fun c384 => ?_) (fun c384 => ?_)
      ·have h385 := cnd_t c384 h382
       refine wc_sr ?_
       refine wm rfl ?_
       refine wm rfl ?_
       refine w_buildSlice (ys := ([key] : List Str)) (enc := eS) (css := [[rS key]]) (xs := [.tmp 51]) Tryz.underlying29 Tryz.sizeOf9 Tryz.zeroValue9 rfl rfl rfl ⟨Cel.one rfl (Up.refl _), trivial⟩ rfl eS_len rfl rfl rfl (fun b386 => ?_)
       obtain ⟨g388, h389⟩ := chk_e h385
       obtain ⟨inf, hinf⟩ := info9
       refine w_append (xs := x209) (ys := ([key] : List Str)) (enc := eS) (i := 1) Tryz.underlying29 hinf.1 hinf.2.1 hinf.2.2.1 hinf.2.2.2 rfl rfl rfl rfl rfl (Src.w (i := 0) rfl rfl) eS_len eS_one g388 rfl (fun v387 => ?_)
       refine wa rfl ?_
       refine wl_y ?_
       refine wm rfl ?_
       refine wm rfl ?_
       refine w_buildSlice (ys := ([x] : List (List TApiCell))) (enc := eL_TApiCell) (css := [[rSl 4 (List.map eTApiCell x)]]) (xs := [.tmp 55]) Tryz.underlying30 Tryz.sizeOf23 Tryz.zeroValue23 rfl rfl rfl ⟨Cel.one rfl (Up.refl _), trivial⟩ rfl eL_TApiCell_len rfl rfl rfl (fun b390 => ?_)
       obtain ⟨g392, h393⟩ := chk_e h389
       obtain ⟨inf, hinf⟩ := info23
       refine w_append (xs := x211) (ys := ([x] : List (List TApiCell))) (enc := eL_TApiCell) (i := 3) Tryz.underlying30 hinf.1 hinf.2.1 hinf.2.2.1 hinf.2.2.2 rfl rfl rfl rfl rfl (Src.w (i := 0) rfl rfl) eL_TApiCell_len eL_TApiCell_one g392 rfl (fun v391 => ?_)
       refine wa rfl ?_
       refine wl_x ?_
       refine wc_region ?_
       refine wv (r := rB true) (o_assign rfl) ?_
       refine wl_y ?_
       refine wm rfl ?_
       refine wm rfl ?_
       obtain ⟨g394, h395⟩ := chk_e h393
       refine wv (o_ix_z (enc := eS) (ys := r1.1) Tryz.underlying29 Tryz.sizeOf9 rfl rfl g394) ?_
       refine wv (o_load_z Tryz.isAgg9 rfl rfl) ?_
       refine wm rfl ?_
       refine wv (o_sne rfl rfl) ?_
       refine wl_x ?_
       refine wc_cond (b := !decide ((at' r1.1 x214) = key)) rfl (fun c396 => ?_) (fun c396 => ?_)
       ·have h397 := cnd_t c396 h395
        refine wc_sr ?_
        refine wm rfl ?_
        refine wm rfl ?_
        refine wm rfl ?_
        refine wv (o_ix_z (enc := eS) (ys := r1.1) Tryz.underlying29 Tryz.sizeOf9 rfl rfl g394) ?_
        refine wv (o_load_z Tryz.isAgg9 rfl rfl) ?_
        refine w_buildSlice (ys := ([at' r1.1 x214] : List Str)) (enc := eS) (css := [[rS (at' r1.1 x214)]]) (xs := [.tmp 68]) Tryz.underlying29 Tryz.sizeOf9 Tryz.zeroValue9 rfl rfl rfl ⟨Cel.one rfl (Up.refl _), trivial⟩ rfl eS_len rfl rfl rfl (fun b398 => ?_)
        obtain ⟨g400, h401⟩ := chk_e h397
        obtain ⟨inf, hinf⟩ := info9
        refine w_append (xs := x209 ++ ([key] : List Str)) (ys := ([at' r1.1 x214] : List Str)) (enc := eS) (i := 3) Tryz.underlying29 hinf.1 hinf.2.1 hinf.2.2.1 hinf.2.2.2 rfl rfl rfl rfl rfl (Src.w (i := 0) rfl rfl) eS_len eS_one g400 rfl (fun v399 => ?_)
        refine wa rfl ?_
        refine wl_x ?_
        refine wc_region ?_
        refine wm rfl ?_
        refine wm rfl ?_
        refine wm rfl ?_
        obtain ⟨g402, h403⟩ := chk_e h401
        refine wv (o_ix_z (enc := eL_TApiCell) (ys := r13.1) Tryz.underlying30 Tryz.sizeOf23 rfl rfl g402) ?_
        refine wv (o_load_z Tryz.isAgg23 rfl rfl) ?_
        refine w_buildSlice (ys := ([at' r13.1 x214] : List (List TApiCell))) (enc := eL_TApiCell) (css := [[rSl 4 (List.map eTApiCell (at' r13.1 x214))]]) (xs := [.tmp 75]) Tryz.underlying30 Tryz.sizeOf23 Tryz.zeroValue23 rfl rfl rfl ⟨Cel.one rfl (Up.refl _), trivial⟩ rfl eL_TApiCell_len rfl rfl rfl (fun b404 => ?_)
        obtain ⟨g406, h407⟩ := chk_e h403
        obtain ⟨inf, hinf⟩ := info23
        refine w_append (xs := x211 ++ ([x] : List (List TApiCell))) (ys := ([at' r13.1 x214] : List (List TApiCell))) (enc := eL_TApiCell) (i := 3) Tryz.underlying30 hinf.1 hinf.2.1 hinf.2.2.1 hinf.2.2.2 rfl rfl rfl rfl rfl (Src.w (i := 0) rfl rfl) eL_TApiCell_len eL_TApiCell_one g406 rfl (fun v405 => ?_)
        refine wa rfl ?_
        refine wl_nil ?_
        refine wk_in_norm ?_
        refine wk_perm (H2 := [.row v399 9 1 (List.map eS ((x209 ++ ([key] : List Str)) ++ ([at' r1.1 x214] : List Str))), .row v405 23 1 (List.map eL_TApiCell ((x211 ++ ([x] : List (List TApiCell))) ++ ([at' r13.1 x214] : List (List TApiCell)))), .row (.slice (some ⟨b404, 0, none⟩) 1 1) 23 1 (List.map eL_TApiCell ([at' r13.1 x214] : List (List TApiCell))), .row (.slice (some ⟨b398, 0, none⟩) 1 1) 9 1 (List.map eS ([at' r1.1 x214] : List Str)), .row (.slice (some ⟨b390, 0, none⟩) 1 1) 23 1 (List.map eL_TApiCell ([x] : List (List TApiCell))), .row (.slice (some ⟨b386, 0, none⟩) 1 1) 9 1 (List.map eS ([key] : List Str))]) ((perm_front (i := 2) rfl).trans (List.Perm.cons _ (List.Perm.refl _))) ?_
        exact wk_then (wk_some (((x209 ++ ([key] : List Str)) ++ ([at' r1.1 x214] : List Str), (x211 ++ ([x] : List (List TApiCell))) ++ ([at' r13.1 x214] : List (List TApiCell)), true), (v399, v405)) h407 (Sub.c rfl (Sub.c rfl (Sub.c rfl (Sub.c rfl (Sub.c5 rfl rfl rfl rfl rfl (Sub.c5 rfl rfl rfl rfl rfl Sub.nil)))))) (sC (sC (sS (sS (sS (sS sN)))))))
       ·have h408 := cnd_f c396 h395
        refine wc_skip ?_
        refine wk_in_norm ?_
        refine wk_perm (H2 := [.row v387 9 1 (List.map eS (x209 ++ ([key] : List Str))), .row v391 23 1 (List.map eL_TApiCell (x211 ++ ([x] : List (List TApiCell)))), .row (.slice (some ⟨b390, 0, none⟩) 1 1) 23 1 (List.map eL_TApiCell ([x] : List (List TApiCell))), .row (.slice (some ⟨b386, 0, none⟩) 1 1) 9 1 (List.map eS ([key] : List Str))]) ((perm_front (i := 2) rfl).trans (List.Perm.cons _ (List.Perm.refl _))) ?_
        exact wk_then (wk_some ((x209 ++ ([key] : List Str), x211 ++ ([x] : List (List TApiCell)), true), (v387, v391)) h408 (Sub.c rfl (Sub.c rfl (Sub.c rfl (Sub.c rfl (Sub.c5 rfl rfl rfl rfl rfl (Sub.c5 rfl rfl rfl rfl rfl Sub.nil)))))) (sC (sC (sS (sS sN)))))
      ·have h409 := cnd_f c384 h382
       refine wc_skip ?_
       refine wk_x ?_
       refine wc_sr ?_
       refine wm rfl ?_
       refine wm rfl ?_
       obtain ⟨g410, h411⟩ := chk_e h409
       refine wv (o_ix_z (enc := eS) (ys := r1.1) Tryz.underlying29 Tryz.sizeOf9 rfl rfl g410) ?_
       refine wv (o_load_z Tryz.isAgg9 rfl rfl) ?_
       refine wm rfl ?_
       refine wv (o_sne rfl rfl) ?_
       refine wl_x ?_
       refine wc_cond (b := !decide ((at' r1.1 x214) = key)) rfl (fun c412 => ?_) (fun c412 => ?_)
       ·have h413 := cnd_t c412 h411
        refine wc_sr ?_
        refine wm rfl ?_
        refine wm rfl ?_
        refine wm rfl ?_
        refine wv (o_ix_z (enc := eS) (ys := r1.1) Tryz.underlying29 Tryz.sizeOf9 rfl rfl g410) ?_
        refine wv (o_load_z Tryz.isAgg9 rfl rfl) ?_
        refine w_buildSlice (ys := ([at' r1.1 x214] : List Str)) (enc := eS) (css := [[rS (at' r1.1 x214)]]) (xs := [.tmp 68]) Tryz.underlying29 Tryz.sizeOf9 Tryz.zeroValue9 rfl rfl rfl ⟨Cel.one rfl (Up.refl _), trivial⟩ rfl eS_len rfl rfl rfl (fun b414 => ?_)
        obtain ⟨g416, h417⟩ := chk_e h413
        obtain ⟨inf, hinf⟩ := info9
        refine w_append (xs := x209) (ys := ([at' r1.1 x214] : List Str)) (enc := eS) (i := 1) Tryz.underlying29 hinf.1 hinf.2.1 hinf.2.2.1 hinf.2.2.2 rfl rfl rfl rfl rfl (Src.w (i := 0) rfl rfl) eS_len eS_one g416 rfl (fun v415 => ?_)
        refine wa rfl ?_
        refine wl_x ?_
        refine wc_region ?_
        refine wm rfl ?_
        refine wm rfl ?_
        refine wm rfl ?_
        obtain ⟨g418, h419⟩ := chk_e h417
        refine wv (o_ix_z (enc := eL_TApiCell) (ys := r13.1) Tryz.underlying30 Tryz.sizeOf23 rfl rfl g418) ?_
        refine wv (o_load_z Tryz.isAgg23 rfl rfl) ?_
        refine w_buildSlice (ys := ([at' r13.1 x214] : List (List TApiCell))) (enc := eL_TApiCell) (css := [[rSl 4 (List.map eTApiCell (at' r13.1 x214))]]) (xs := [.tmp 75]) Tryz.underlying30 Tryz.sizeOf23 Tryz.zeroValue23 rfl rfl rfl ⟨Cel.one rfl (Up.refl _), trivial⟩ rfl eL_TApiCell_len rfl rfl rfl (fun b420 => ?_)
        obtain ⟨g422, h423⟩ := chk_e h419
        obtain ⟨inf, hinf⟩ := info23
        refine w_append (xs := x211) (ys := ([at' r13.1 x214] : List (List TApiCell))) (enc := eL_TApiCell) (i := 3) Tryz.underlying30 hinf.1 hinf.2.1 hinf.2.2.1 hinf.2.2.2 rfl rfl rfl rfl rfl (Src.w (i := 0) rfl rfl) eL_TApiCell_len eL_TApiCell_one g422 rfl (fun v421 => ?_)
        refine wa rfl ?_
        refine wl_nil ?_
        refine wk_in_norm ?_
        refine wk_perm (H2 := [.row v415 9 1 (List.map eS (x209 ++ ([at' r1.1 x214] : List Str))), .row v421 23 1 (List.map eL_TApiCell (x211 ++ ([at' r13.1 x214] : List (List TApiCell)))), .row (.slice (some ⟨b420, 0, none⟩) 1 1) 23 1 (List.map eL_TApiCell ([at' r13.1 x214] : List (List TApiCell))), .row (.slice (some ⟨b414, 0, none⟩) 1 1) 9 1 (List.map eS ([at' r1.1 x214] : List Str))]) ((perm_front (i := 2) rfl).trans (List.Perm.cons _ (List.Perm.refl _))) ?_
        exact wk_then (wk_some ((x209 ++ ([at' r1.1 x214] : List Str), x211 ++ ([at' r13.1 x214] : List (List TApiCell)), x213), (v415, v421)) h423 (Sub.c rfl (Sub.c rfl (Sub.c rfl (Sub.c rfl (Sub.c5 rfl rfl rfl rfl rfl (Sub.c5 rfl rfl rfl rfl rfl Sub.nil)))))) (sC (sC (sS (sS sN)))))
       ·have h424 := cnd_f c412 h411
        refine wc_skip ?_
        refine wk_in_norm ?_
        exact wk_then (wk_some ((x209, x211, x213), (v210, v212)) h424 (Sub.c rfl (Sub.c rfl (Sub.c rfl (Sub.c rfl (Sub.c5 rfl rfl rfl rfl rfl (Sub.c5 rfl rfl rfl rfl rfl Sub.nil)))))) (sC (sC sN)))
     ·rintro ⟨⟨x376, x378, x380⟩, ⟨v377, v379⟩⟩ h425
      refine wc_as (l' := [(1, rS key), (2, rSl 4 (List.map eTApiCell x)), (8, rSl 1 (List.map eS r1.1)), (10, rSl 1 (List.map eL_TApiCell r13.1)), (12, rv v377), (13, rv v379), (14, rB x380), (15, rI .i64 x214), (49, rB ((!x213) && (!sLess (at' r1.1 x214) key))), (58, rSl 1 (List.map eS r1.1)), (59, rI .i64 x214), (61, rS (at' r1.1 x214)), (62, rS key), (63, rB (!decide ((at' r1.1 x214) = key)))]) (H' := [.row v377 9 1 (List.map eS x376), .row v379 23 1 (List.map eL_TApiCell x378)]) rfl rfl ?_
      replace h425 : rPut_j2 x214 x376 x378 x380 = some t323 := h425
      unfold rPut_j2 at h425
      refine wc_region ?_
      refine wm rfl ?_
      obtain ⟨g426, h427⟩ := chk_e h425
      refine wv (o_add rfl rfl g426) ?_
      refine wa rfl ?_
      refine wl_nil ?_
      have h428 := stp_next h427 ht324
      exact wk_then (wk_some (m325, (x376, x378, x380, x214 + 1), (v377, v379)) ⟨h428, Nat.lt_succ_self _⟩ (Sub.c rfl (Sub.c rfl (Sub.c rfl (Sub.c5 rfl rfl rfl rfl rfl Sub.nil)))) (sC (sC sN)))
    ·have h429 := cnd_f c329 h327
     refine wc_exit ?_
     refine wk_then_exit ?_
     have h430 := stp_go h429 ht324 hK322
     exact wk_then_exit (wk_cut_hit (wk_some ((x209, x211, x213), (v210, v212)) h430 (Sub.c5 rfl rfl rfl rfl rfl Sub.nil) (sC (sC sN))))
   ·rintro ⟨⟨x315, x317, x319⟩, ⟨v316, v318⟩⟩ h431
    refine wk_as (l' := [(1, rS key), (2, rSl 4 (List.map eTApiCell x)), (12, rv v316), (13, rv v318), (14, rB x319)]) (H' := [.row v316 9 1 (List.map eS x315), .row v318 23 1 (List.map eL_TApiCell x317)]) rfl rfl ?_
    replace h431 : rPut_k1 F key x x315 x317 x319 = some r := h431
    unfold rPut_k1 at h431
    refine wk_in_hit ?_
    refine wk_x ?_
    refine wc_seq ?_
    refine wc_sr ?_
    refine wm rfl ?_
    refine wv (o_not rfl) ?_
    refine wl_x ?_
    refine wc_cond (b := !x319) rfl (fun c432 => ?_) (fun c432 => ?_)
    ·have h433 := cnd_t c432 h431
     refine wc_sr ?_
     refine wm rfl ?_
     refine wm rfl ?_
     refine w_buildSlice (ys := ([key] : List Str)) (enc := eS) (css := [[rS key]]) (xs := [.tmp 81]) Tryz.underlying29 Tryz.sizeOf9 Tryz.zeroValue9 rfl rfl rfl ⟨Cel.one rfl (Up.refl _), trivial⟩ rfl eS_len rfl rfl rfl (fun b434 => ?_)
     obtain ⟨g436, h437⟩ := chk_e h433
     obtain ⟨inf, hinf⟩ := info9
     refine w_append (xs := x315) (ys := ([key] : List Str)) (enc := eS) (i := 1) Tryz.underlying29 hinf.1 hinf.2.1 hinf.2.2.1 hinf.2.2.2 rfl rfl rfl rfl rfl (Src.w (i := 0) rfl rfl) eS_len eS_one g436 rfl (fun v435 => ?_)
     refine wa rfl ?_
     refine wl_x ?_
     refine wc_region ?_
     refine wm rfl ?_
     refine wm rfl ?_
     refine w_buildSlice (ys := ([x] : List (List TApiCell))) (enc := eL_TApiCell) (css := [[rSl 4 (List.map eTApiCell x)]]) (xs := [.tmp 85]) Tryz.underlying30 Tryz.sizeOf23 Tryz.zeroValue23 rfl rfl rfl ⟨Cel.one rfl (Up.refl _), trivial⟩ rfl eL_TApiCell_len rfl rfl rfl (fun b438 => ?_)
     obtain ⟨g440, h441⟩ := chk_e h437
     obtain ⟨inf, hinf⟩ := info23
     refine w_append (xs := x317) (ys := ([x] : List (List TApiCell))) (enc := eL_TApiCell) (i := 3) Tryz.underlying30 hinf.1 hinf.2.1 hinf.2.2.1 hinf.2.2.2 rfl rfl rfl rfl rfl (Src.w (i := 0) rfl rfl) eL_TApiCell_len eL_TApiCell_one g440 rfl (fun v439 => ?_)
     refine wa rfl ?_
     refine wl_y ?_
     refine wm rfl ?_
     refine wm rfl ?_
     refine WL.freeze (i := 2) rfl ?_
     refine WL.up (d := 88) (r := rSl 1 (List.map eS (x315 ++ ([key] : List Str)))) rfl (Up.fact (i := 0) rfl) ?_
     refine WL.freeze (i := 1) rfl ?_
     refine WL.up (d := 89) (r := rSl 1 (List.map eL_TApiCell (x317 ++ ([x] : List (List TApiCell))))) rfl (Up.fact (i := 0) rfl) ?_
     obtain ⟨r442, e444, h443⟩ := obn_e h441
     refine wc0 Tryz.call20 (rMap_w F (x315 ++ ([key] : List Str)) (x317 ++ ([x] : List (List TApiCell))) r442 e444) rfl ?_
     refine wv (o_extract rfl rfl) ?_
     refine wv (o_extract rfl rfl) ?_
     refine wa rfl ?_
     refine wa rfl ?_
     refine wl_x ?_
     refine wc_ret ?_
     obtain rfl := some_e h443
     exact wk_ret (r_2 Tryz.results38 (rv_t rfl) (rv_t rfl)) (sS (sS (sS (sS sN)))) ⟨rfl, rfl⟩
    ·have h445 := cnd_f c432 h431
     refine wc_skip ?_
     refine wk_x ?_
     refine wc_sr ?_
     refine wm rfl ?_
     refine wm rfl ?_
     refine WL.freeze (i := 0) rfl ?_
     refine WL.up (d := 88) (r := rSl 1 (List.map eS x315)) rfl (Up.fact (i := 0) rfl) ?_
     refine WL.freeze (i := 1) rfl ?_
     refine WL.up (d := 89) (r := rSl 1 (List.map eL_TApiCell x317)) rfl (Up.fact (i := 0) rfl) ?_
     obtain ⟨r446, e448, h447⟩ := obn_e h445
     refine wc0 Tryz.call20 (rMap_w F x315 x317 r446 e448) rfl ?_
     refine wv (o_extract rfl rfl) ?_
     refine wv (o_extract rfl rfl) ?_
     refine wa rfl ?_
     refine wa rfl ?_
     refine wl_x ?_
     refine wc_ret ?_
     obtain rfl := some_e h447
     exact wk_ret (r_2 Tryz.results38 (rv_t rfl) (rv_t rfl)) (sS (sS sN)) ⟨rfl, rfl⟩

theorem lFinds_w (F : Nat) (v : (List TApiCell)) (key : Str) (x : (List TApiCell)) (path : (List Str)) (r : Bool) (h : lFinds F v key x path = some r) : Fn Tryz.prog GE 6 [rSl 4 (List.map eTApiCell v), rS key, rSl 4 (List.map eTApiCell x), rSl 1 (List.map eS path)] [] (fun R H => R = rB r ∧ H = []) := by
 refine enter (n := 157) Tryz.func6 rfl Tryz.ntmps6 rfl (fun w Z => ?_)
 refine wc_as (l' := [(0, rSl 4 (List.map eTApiCell v)), (1, rS key), (2, rSl 4 (List.map eTApiCell x)), (3, rSl 1 (List.map eS path))]) (H' := []) rfl rfl ?_
 unfold lFinds at h
 refine wc_sr ?_
 refine wv (r := rB false) (o_assign rfl) ?_
 refine wl_x ?_
 refine wc_seq ?_
 obtain ⟨g1, h2⟩ := chk_e h
 obtain ⟨g3, h4⟩ := chk_e h2
 obtain ⟨g5, h6⟩ := chk_e h4
 refine wc_seq_mid [(0, rSl 4 (List.map eTApiCell v)), (1, rS key), (2, rSl 4 (List.map eTApiCell x)), (3, rSl 1 (List.map eS path)), (46, rB ((!(ov (lSmall F v))) || ((!(ov (lSmall F x))) || ((decide (300 < (key.length : Int))) || (!(ov (lNames F path)))))))] [] ?_ ?_
 ·refine wc_region ?_
  refine wm rfl ?_
  refine wc0 Tryz.call25 (lSmall_w F v (ov (lSmall F v)) (ov_e g1)) rfl ?_
  refine wv (o_not rfl) ?_
  refine wm rfl ?_
  refine bsplit (!(ov (lSmall F v))) (fun c7 => ?_) (fun c7 => ?_)
  ·refine wf c7 ?_
   refine wf c7 ?_
   refine wf c7 ?_
   refine wv (r := rB true) (o_pick_t (b := !(ov (lSmall F v))) rfl c7 rfl) ?_
   refine wm rfl ?_
   refine wl_off (b := true) rfl rfl rfl rfl ?_
   refine wl_off (b := true) rfl rfl rfl rfl ?_
   refine wl_off (b := true) rfl rfl rfl rfl ?_
   refine wv (r := rB true) (o_pick_t (b := true) rfl rfl rfl) ?_
   refine wm rfl ?_
   refine wl_off (b := true) rfl rfl rfl rfl ?_
   refine wl_off (b := true) rfl rfl rfl rfl ?_
   refine wl_off (b := true) rfl rfl rfl rfl ?_
   refine wv (r := rB true) (o_pick_t (b := true) rfl rfl rfl) ?_
   refine wl_nil ?_
   exact wtc c7
  ·refine wo c7 ?_
   refine wm rfl ?_
   refine wo c7 ?_
   refine wc0 Tryz.call25 (lSmall_w F x (ov (lSmall F x)) (ov_e (imp_f g3 c7))) rfl ?_
   refine wo c7 ?_
   refine wv (o_not rfl) ?_
   refine wpf rfl c7 rfl ?_
   refine wm rfl ?_
   refine bsplit (!(ov (lSmall F x))) (fun c8 => ?_) (fun c8 => ?_)
   ·refine wf c8 ?_
    refine wf c8 ?_
    refine wf c8 ?_
    refine wv (r := rB true) (o_pick_t (b := !(ov (lSmall F x))) rfl c8 rfl) ?_
    refine wm rfl ?_
    refine wl_off (b := true) rfl rfl rfl rfl ?_
    refine wl_off (b := true) rfl rfl rfl rfl ?_
    refine wl_off (b := true) rfl rfl rfl rfl ?_
    refine wv (r := rB true) (o_pick_t (b := true) rfl rfl rfl) ?_
    refine wl_nil ?_
    exact wtc (And.intro c7 c8)
   ·refine wo c8 ?_
    refine wm rfl ?_
    refine wo c8 ?_
    refine wv (o_len_s Tryz.underlying9 rfl) ?_
    refine wo c8 ?_
    refine wv (o_gt rfl rfl) ?_
    refine wpf rfl c8 rfl ?_
    refine wm rfl ?_
    refine bsplit (decide (300 < (key.length : Int))) (fun c9 => ?_) (fun c9 => ?_)
    ·refine wf c9 ?_
     refine wf c9 ?_
     refine wf c9 ?_
     refine wv (r := rB true) (o_pick_t (b := decide (300 < (key.length : Int))) rfl c9 rfl) ?_
     refine wl_nil ?_
     exact wtc (And.intro c7 (And.intro c8 c9))
    ·refine wo c9 ?_
     refine wm rfl ?_
     refine wo c9 ?_
     refine wc0 Tryz.call11 (lNames_w F path (ov (lNames F path)) (ov_e (imp_f (imp_f (imp_f g5 c7) c8) c9))) rfl ?_
     refine wo c9 ?_
     refine wv (o_not rfl) ?_
     refine wpf rfl c9 rfl ?_
     refine wl_nil ?_
     exact wtc (And.intro c7 (And.intro c8 c9))
 refine wc_cond (b := ((!(ov (lSmall F v))) || ((!(ov (lSmall F x))) || ((decide (300 < (key.length : Int))) || (!(ov (lNames F path))))))) rfl (fun c10 => ?_) (fun c10 => ?_)
 ·have h11 := cnd_t c10 h6
  refine wc_sr ?_
  obtain ⟨r12, e14, h13⟩ := obn_e h11
  refine wc0 Tryz.call7 (lAwake_w F r12 e14) rfl ?_
  refine wa rfl ?_
  refine wl_x ?_
  refine wc_ret ?_
  refine wk_then_ret ?_
  obtain rfl := some_e h13
  exact wk_ret (r_1 Tryz.results6 (rv_t rfl)) sN ⟨rfl, rfl⟩
 ·have h15 := cnd_f c10 h6
  refine wc_skip ?_
  refine wk_x ?_
  refine wc_sr ?_
  refine wm rfl ?_
  obtain ⟨r16, e18, h17⟩ := obn_e h15
  refine wc0 Tryz.call29 (vItems_w F v r16 e18) rfl ?_
  refine wm rfl ?_
  refine wv (o_extract rfl rfl) ?_
  refine wv (o_extract rfl rfl) ?_
  refine wa rfl ?_
  refine wa rfl ?_
  refine wl_y ?_
  refine wm rfl ?_
  obtain ⟨r19, e21, h20⟩ := obn_e h17
  refine wc0 Tryz.call30 (rItems_w F v r19 e21) rfl ?_
  refine wm rfl ?_
  refine wv (o_extract rfl rfl) ?_
  refine wv (o_extract rfl rfl) ?_
  refine wa rfl ?_
  refine wa rfl ?_
  refine wl_y ?_
  refine wm rfl ?_
  obtain ⟨r22, e24, h23⟩ := obn_e h20
  refine wc0 Tryz.call31 (vKeys_w F v r22 e24) rfl ?_
  refine wm rfl ?_
  refine wv (o_extract rfl rfl) ?_
  refine wv (o_extract rfl rfl) ?_
  refine wa rfl ?_
  refine wa rfl ?_
  refine wl_y ?_
  refine wm rfl ?_
  obtain ⟨r25, e27, h26⟩ := obn_e h23
  refine wc0 Tryz.call32 (rKeys_w F v r25 e27) rfl ?_
  refine wm rfl ?_
  refine wv (o_extract rfl rfl) ?_
  refine wv (o_extract rfl rfl) ?_
  refine wa rfl ?_
  refine wa rfl ?_
  refine wl_y ?_
  refine wm rfl ?_
  refine wm rfl ?_
  obtain ⟨r28, e30, h29⟩ := obn_e h26
  refine wc0 Tryz.call33 (vGet_w F v key r28 e30) rfl ?_
  refine wm rfl ?_
  refine wv (o_extract rfl rfl) ?_
  refine wv (o_extract rfl rfl) ?_
  refine wa rfl ?_
  refine wa rfl ?_
  refine wl_y ?_
  refine wm rfl ?_
  refine wm rfl ?_
  obtain ⟨r31, e33, h32⟩ := obn_e h29
  refine wc0 Tryz.call34 (rGet_w F v key r31 e33) rfl ?_
  refine wm rfl ?_
  refine wv (o_extract rfl rfl) ?_
  refine wv (o_extract rfl rfl) ?_
  refine wa rfl ?_
  refine wa rfl ?_
  refine wl_y ?_
  refine wm rfl ?_
  refine wm rfl ?_
  obtain ⟨r34, e36, h35⟩ := obn_e h32
  refine wc0 Tryz.call35 (vPath_w F v path r34 e36) rfl ?_
  refine wm rfl ?_
  refine wv (o_extract rfl rfl) ?_
  refine wv (o_extract rfl rfl) ?_
  refine wa rfl ?_
  refine wa rfl ?_
  refine wl_y ?_
  refine wm rfl ?_
  refine wm rfl ?_
  obtain ⟨r37, e39, h38⟩ := obn_e h35
  refine wc0 Tryz.call36 (rPath_w F v path r37 e39) rfl ?_
  refine wm rfl ?_
  refine wv (o_extract rfl rfl) ?_
  refine wv (o_extract rfl rfl) ?_
  refine wa rfl ?_
  refine wa rfl ?_
  refine wl_y ?_
  refine wm rfl ?_
  refine wm rfl ?_
  refine wm rfl ?_
  obtain ⟨r40, e42, h41⟩ := obn_e h38
  refine wc0 Tryz.call37 (vPut_w F v key x r40 e42) rfl ?_
  refine wm rfl ?_
  refine wv (o_extract rfl rfl) ?_
  refine wv (o_extract rfl rfl) ?_
  refine wa rfl ?_
  refine wa rfl ?_
  refine wl_y ?_
  refine wm rfl ?_
  refine wm rfl ?_
  refine wm rfl ?_
  obtain ⟨r43, e45, h44⟩ := obn_e h41
  refine wc0 Tryz.call38 (rPut_w F v key x r43 e45) rfl ?_
  refine wm rfl ?_
  refine wv (o_extract rfl rfl) ?_
  refine wv (o_extract rfl rfl) ?_
  refine wa rfl ?_
  refine wa rfl ?_
  refine wl_x ?_
  obtain ⟨g46, h47⟩ := chk_e h44
  obtain ⟨g48, h49⟩ := chk_e h47
  obtain ⟨g50, h51⟩ := chk_e h49
  obtain ⟨g52, h53⟩ := chk_e h51
  obtain ⟨g54, h55⟩ := chk_e h53
  obtain ⟨g56, h57⟩ := chk_e h55
  refine wc_seq_mid [(8, rB ((ov (lSame F r16.1 r19.1)) && ((decide (r16.2 = r19.2)) && ((ov (lTexts F r22.1 r25.1)) && ((decide (r22.2 = r25.2)) && ((ov (rSame F r28.1 r31.1)) && ((decide (r28.2 = r31.2)) && ((ov (rSame F r34.1 r37.1)) && ((decide (r34.2 = r37.2)) && ((ov (rSame F r40.1 r43.1)) && ((decide (r40.2 = r43.2)) && (ov (lAwake F)))))))))))))] [] ?_ ?_
  ·refine wc_region ?_
   refine wm rfl ?_
   refine wm rfl ?_
   refine wc0 Tryz.call39 (lSame_w F r16.1 r19.1 (ov (lSame F r16.1 r19.1)) (ov_e g46)) rfl ?_
   refine wm rfl ?_
   refine bsplit ((ov (lSame F r16.1 r19.1))) (fun c58 => ?_) (fun c58 => ?_)
   ·refine wo c58 ?_
    refine wm rfl ?_
    refine wo c58 ?_
    refine wm rfl ?_
    refine wo c58 ?_
    refine wv (o_eq rfl rfl) ?_
    refine wpt rfl c58 rfl ?_
    refine wm rfl ?_
    refine bsplit (decide (r16.2 = r19.2)) (fun c59 => ?_) (fun c59 => ?_)
    ·refine wo c59 ?_
     refine wm rfl ?_
     refine wo c59 ?_
     refine wm rfl ?_
     refine wo c59 ?_
     refine wc0 Tryz.call40 (lTexts_w F r22.1 r25.1 (ov (lTexts F r22.1 r25.1)) (ov_e (imp_t (imp_t g48 c58) c59))) rfl ?_
     refine wpt rfl c59 rfl ?_
     refine wm rfl ?_
     refine bsplit ((ov (lTexts F r22.1 r25.1))) (fun c60 => ?_) (fun c60 => ?_)
     ·refine wo c60 ?_
      refine wm rfl ?_
      refine wo c60 ?_
      refine wm rfl ?_
      refine wo c60 ?_
      refine wv (o_eq rfl rfl) ?_
      refine wpt rfl c60 rfl ?_
      refine wm rfl ?_
      refine bsplit (decide (r22.2 = r25.2)) (fun c61 => ?_) (fun c61 => ?_)
      ·refine wo c61 ?_
       refine wm rfl ?_
       refine wo c61 ?_
       refine wm rfl ?_
       refine wo c61 ?_
       refine wc0 Tryz.call10 (rSame_w F r28.1 r31.1 (ov (rSame F r28.1 r31.1)) (ov_e (imp_t (imp_t (imp_t (imp_t g50 c58) c59) c60) c61))) rfl ?_
       refine wpt rfl c61 rfl ?_
       refine wm rfl ?_
       refine bsplit ((ov (rSame F r28.1 r31.1))) (fun c62 => ?_) (fun c62 => ?_)
       ·refine wo c62 ?_
        refine wm rfl ?_
        refine wo c62 ?_
        refine wm rfl ?_
        refine wo c62 ?_
        refine wv (o_eq rfl rfl) ?_
        refine wpt rfl c62 rfl ?_
        refine wm rfl ?_
        refine bsplit (decide (r28.2 = r31.2)) (fun c63 => ?_) (fun c63 => ?_)
        ·refine wo c63 ?_
         refine wm rfl ?_
         refine wo c63 ?_
         refine wm rfl ?_
         refine wo c63 ?_
         refine wc0 Tryz.call10 (rSame_w F r34.1 r37.1 (ov (rSame F r34.1 r37.1)) (ov_e (imp_t (imp_t (imp_t (imp_t (imp_t (imp_t g52 c58) c59) c60) c61) c62) c63))) rfl ?_
         refine wpt rfl c63 rfl ?_
         refine wm rfl ?_
         refine bsplit ((ov (rSame F r34.1 r37.1))) (fun c64 => ?_) (fun c64 => ?_)
         ·refine wo c64 ?_
          refine wm rfl ?_
          refine wo c64 ?_
          refine wm rfl ?_
          refine wo c64 ?_
          refine wv (o_eq rfl rfl) ?_
          refine wpt rfl c64 rfl ?_
          refine wm rfl ?_
          refine bsplit (decide (r34.2 = r37.2)) (fun c65 => ?_) (fun c65 => ?_)
          ·refine wo c65 ?_
           refine wm rfl ?_
           refine wo c65 ?_
           refine wm rfl ?_
           refine wo c65 ?_
           refine wc0 Tryz.call10 (rSame_w F r40.1 r43.1 (ov (rSame F r40.1 r43.1)) (ov_e (imp_t (imp_t (imp_t (imp_t (imp_t (imp_t (imp_t (imp_t g54 c58) c59) c60) c61) c62) c63) c64) c65))) rfl ?_
           refine wpt rfl c65 rfl ?_
           refine wm rfl ?_
           refine bsplit ((ov (rSame F r40.1 r43.1))) (fun c66 => ?_) (fun c66 => ?_)
           ·refine wo c66 ?_
            refine wm rfl ?_
            refine wo c66 ?_
            refine wm rfl ?_
            refine wo c66 ?_
            refine wv (o_eq rfl rfl) ?_
            refine wpt rfl c66 rfl ?_
            refine wm rfl ?_
            refine bsplit (decide (r40.2 = r43.2)) (fun c67 => ?_) (fun c67 => ?_)
            ·refine wo c67 ?_
             refine wc0 Tryz.call7 (lAwake_w F (ov (lAwake F)) (ov_e (imp_t (imp_t (imp_t (imp_t (imp_t (imp_t (imp_t (imp_t (imp_t (imp_t g56 c58) c59) c60) c61) c62) c63) c64) c65) c66) c67))) rfl ?_
             refine wpt rfl c67 rfl ?_
             refine wa rfl ?_
             refine wl_nil ?_
             exact wtc (And.intro c58 (And.intro c59 (And.intro c60 (And.intro c61 (And.intro c62 (And.intro c63 (And.intro c64 (And.intro c65 (And.intro c66 c67)))))))))
            ·refine wf c67 ?_
             refine wv (r := rB false) (o_pick_f (b := decide (r40.2 = r43.2)) rfl c67 rfl) ?_
             refine wa rfl ?_
             refine wl_nil ?_
             exact wtc (And.intro c58 (And.intro c59 (And.intro c60 (And.intro c61 (And.intro c62 (And.intro c63 (And.intro c64 (And.intro c65 (And.intro c66 c67)))))))))
           ·refine wf c66 ?_
            refine wf c66 ?_
            refine wf c66 ?_
            refine wv (r := rB false) (o_pick_f (b := (ov (rSame F r40.1 r43.1))) rfl c66 rfl) ?_
            refine wm rfl ?_
            refine wl_off (b := false) rfl rfl rfl rfl ?_
            refine wv (r := rB false) (o_pick_f (b := false) rfl rfl rfl) ?_
            refine wa rfl ?_
            refine wl_nil ?_
            exact wtc (And.intro c58 (And.intro c59 (And.intro c60 (And.intro c61 (And.intro c62 (And.intro c63 (And.intro c64 (And.intro c65 c66))))))))
          ·refine wf c65 ?_
           refine wf c65 ?_
           refine wf c65 ?_
           refine wv (r := rB false) (o_pick_f (b := decide (r34.2 = r37.2)) rfl c65 rfl) ?_
           refine wm rfl ?_
           refine wl_off (b := false) rfl rfl rfl rfl ?_
           refine wl_off (b := false) rfl rfl rfl rfl ?_
           refine wl_off (b := false) rfl rfl rfl rfl ?_
           refine wv (r := rB false) (o_pick_f (b := false) rfl rfl rfl) ?_
           refine wm rfl ?_
           refine wl_off (b := false) rfl rfl rfl rfl ?_
           refine wv (r := rB false) (o_pick_f (b := false) rfl rfl rfl) ?_
           refine wa rfl ?_
           refine wl_nil ?_
           exact wtc (And.intro c58 (And.intro c59 (And.intro c60 (And.intro c61 (And.intro c62 (And.intro c63 (And.intro c64 c65)))))))
         ·refine wf c64 ?_
          refine wf c64 ?_
          refine wf c64 ?_
          refine wv (r := rB false) (o_pick_f (b := (ov (rSame F r34.1 r37.1))) rfl c64 rfl) ?_
          refine wm rfl ?_
          refine wl_off (b := false) rfl rfl rfl rfl ?_
          refine wl_off (b := false) rfl rfl rfl rfl ?_
          refine wl_off (b := false) rfl rfl rfl rfl ?_
          refine wv (r := rB false) (o_pick_f (b := false) rfl rfl rfl) ?_
          refine wm rfl ?_
          refine wl_off (b := false) rfl rfl rfl rfl ?_
          refine wl_off (b := false) rfl rfl rfl rfl ?_
          refine wl_off (b := false) rfl rfl rfl rfl ?_
          refine wv (r := rB false) (o_pick_f (b := false) rfl rfl rfl) ?_
          refine wm rfl ?_
          refine wl_off (b := false) rfl rfl rfl rfl ?_
          refine wv (r := rB false) (o_pick_f (b := false) rfl rfl rfl) ?_
          refine wa rfl ?_
          refine wl_nil ?_
          exact wtc (And.intro c58 (And.intro c59 (And.intro c60 (And.intro c61 (And.intro c62 (And.intro c63 c64))))))
        ·refine wf c63 ?_
         refine wf c63 ?_
         refine wf c63 ?_
         refine wv (r := rB false) (o_pick_f (b := decide (r28.2 = r31.2)) rfl c63 rfl) ?_
         refine wm rfl ?_
         refine wl_off (b := false) rfl rfl rfl rfl ?_
         refine wl_off (b := false) rfl rfl rfl rfl ?_
         refine wl_off (b := false) rfl rfl rfl rfl ?_
         refine wv (r := rB false) (o_pick_f (b := false) rfl rfl rfl) ?_
         refine wm rfl ?_
         refine wl_off (b := false) rfl rfl rfl rfl ?_
         refine wl_off (b := false) rfl rfl rfl rfl ?_
         refine wl_off (b := false) rfl rfl rfl rfl ?_
         refine wv (r := rB false) (o_pick_f (b := false) rfl rfl rfl) ?_
         refine wm rfl ?_
         refine wl_off (b := false) rfl rfl rfl rfl ?_
         refine wl_off (b := false) rfl rfl rfl rfl ?_
         refine wl_off (b := false) rfl rfl rfl rfl ?_
         refine wv (r := rB false) (o_pick_f (b := false) rfl rfl rfl) ?_
         refine wm rfl ?_
         refine wl_off (b := false) rfl rfl rfl rfl ?_
         refine wv (r := rB false) (o_pick_f (b := false) rfl rfl rfl) ?_
         refine wa rfl ?_
         refine wl_nil ?_
         exact wtc (And.intro c58 (And.intro c59 (And.intro c60 (And.intro c61 (And.intro c62 c63)))))
       ·refine wf c62 ?_
        refine wf c62 ?_
        refine wf c62 ?_
        refine wv (r := rB false) (o_pick_f (b := (ov (rSame F r28.1 r31.1))) rfl c62 rfl) ?_
        refine wm rfl ?_
        refine wl_off (b := false) rfl rfl rfl rfl ?_
        refine wl_off (b := false) rfl rfl rfl rfl ?_
        refine wl_off (b := false) rfl rfl rfl rfl ?_
        refine wv (r := rB false) (o_pick_f (b := false) rfl rfl rfl) ?_
        refine wm rfl ?_
        refine wl_off (b := false) rfl rfl rfl rfl ?_
        refine wl_off (b := false) rfl rfl rfl rfl ?_
        refine wl_off (b := false) rfl rfl rfl rfl ?_
        refine wv (r := rB false) (o_pick_f (b := false) rfl rfl rfl) ?_
        refine wm rfl ?_
        refine wl_off (b := false) rfl rfl rfl rfl ?_
        refine wl_off (b := false) rfl rfl rfl rfl ?_
        refine wl_off (b := false) rfl rfl rfl rfl ?_
        refine wv (r := rB false) (o_pick_f (b := false) rfl rfl rfl) ?_
        refine wm rfl ?_
        refine wl_off (b := false) rfl rfl rfl rfl ?_
        refine wl_off (b := false) rfl rfl rfl rfl ?_
        refine wl_off (b := false) rfl rfl rfl rfl ?_
        refine wv (r := rB false) (o_pick_f (b := false) rfl rfl rfl) ?_
        refine wm rfl ?_
        refine wl_off (b := false) rfl rfl rfl rfl ?_
        refine wv (r := rB false) (o_pick_f (b := false) rfl rfl rfl) ?_
        refine wa rfl ?_
        refine wl_nil ?_
        exact wtc (And.intro c58 (And.intro c59 (And.intro c60 (And.intro c61 c62))))
      ·refine wf c61 ?_
       refine wf c61 ?_
       refine wf c61 ?_
       refine wv (r := rB false) (o_pick_f (b := decide (r22.2 = r25.2)) rfl c61 rfl) ?_
       refine wm rfl ?_
       refine wl_off (b := false) rfl rfl rfl rfl ?_
       refine wl_off (b := false) rfl rfl rfl rfl ?_
       refine wl_off (b := false) rfl rfl rfl rfl ?_
       refine wv (r := rB false) (o_pick_f (b := false) rfl rfl rfl) ?_
       refine wm rfl ?_
       refine wl_off (b := false) rfl rfl rfl rfl ?_
       refine wl_off (b := false) rfl rfl rfl rfl ?_
       refine wl_off (b := false) rfl rfl rfl rfl ?_
       refine wv (r := rB false) (o_pick_f (b := false) rfl rfl rfl) ?_
       refine wm rfl ?_
       refine wl_off (b := false) rfl rfl rfl rfl ?_
       refine wl_off (b := false) rfl rfl rfl rfl ?_
       refine wl_off (b := false) rfl rfl rfl rfl ?_
       refine wv (r := rB false) (o_pick_f (b := false) rfl rfl rfl) ?_
       refine wm rfl ?_
       refine wl_off (b := false) rfl rfl rfl rfl ?_
       refine wl_off (b := false) rfl rfl rfl rfl ?_
       refine wl_off (b := false) rfl rfl rfl rfl ?_
       refine wv (r := rB false) (o_pick_f (b := false) rfl rfl rfl) ?_
       refine wm rfl ?_
       refine wl_off (b := false) rfl rfl rfl rfl ?_
       refine wl_off (b := false) rfl rfl rfl rfl ?_
       refine wl_off (b := false) rfl rfl rfl rfl ?_
       refine wv (r := rB false) (o_pick_f (b := false) rfl rfl rfl) ?_
       refine wm rfl ?_
       refine wl_off (b := false) rfl rfl rfl rfl ?_
       refine wv (r := rB false) (o_pick_f (b := false) rfl rfl rfl) ?_
       refine wa rfl ?_
       refine wl_nil ?_
       exact wtc (And.intro c58 (And.intro c59 (And.intro c60 c61)))
     ·refine wf c60 ?_
      refine wf c60 ?_
      refine wf c60 ?_
      refine wv (r := rB false) (o_pick_f (b := (ov (lTexts F r22.1 r25.1))) rfl c60 rfl) ?_
      refine wm rfl ?_
      refine wl_off (b := false) rfl rfl rfl rfl ?_
      refine wl_off (b := false) rfl rfl rfl rfl ?_
      refine wl_off (b := false) rfl rfl rfl rfl ?_
      refine wv (r := rB false) (o_pick_f (b := false) rfl rfl rfl) ?_
      refine wm rfl ?_
      refine wl_off (b := false) rfl rfl rfl rfl ?_
      refine wl_off (b := false) rfl rfl rfl rfl ?_
      refine wl_off (b := false) rfl rfl rfl rfl ?_
      refine wv (r := rB false) (o_pick_f (b := false) rfl rfl rfl) ?_
      refine wm rfl ?_
      refine wl_off (b := false) rfl rfl rfl rfl ?_
      refine wl_off (b := false) rfl rfl rfl rfl ?_
      refine wl_off (b := false) rfl rfl rfl rfl ?_
      refine wv (r := rB false) (o_pick_f (b := false) rfl rfl rfl) ?_
      refine wm rfl ?_
      refine wl_off (b := false) rfl rfl rfl rfl ?_
      refine wl_off (b := false) rfl rfl rfl rfl ?_
      refine wl_off (b := false) rfl rfl rfl rfl ?_
      refine wv (r := rB false) (o_pick_f (b := false) rfl rfl rfl) ?_
      refine wm rfl ?_
      refine wl_off (b := false) rfl rfl rfl rfl ?_
      refine wl_off (b := false) rfl rfl rfl rfl ?_
      refine wl_off (b := false) rfl rfl rfl rfl ?_
      refine wv (r := rB false) (o_pick_f (b := false) rfl rfl rfl) ?_
      refine wm rfl ?_
      refine wl_off (b := false) rfl rfl rfl rfl ?_
      refine wl_off (b := false) rfl rfl rfl rfl ?_
      refine wl_off (b := false) rfl rfl rfl rfl ?_
      refine wv (r := rB false) (o_pick_f (b := false) rfl rfl rfl) ?_
      refine wm rfl ?_
      refine wl_off (b := false) rfl rfl rfl rfl ?_
      refine wv (r := rB false) (o_pick_f (b := false) rfl rfl rfl) ?_
      refine wa rfl ?_
      refine wl_nil ?_
      exact wtc (And.intro c58 (And.intro c59 c60))
    ·refine wf c59 ?_
     refine wf c59 ?_
     refine wf c59 ?_
     refine wv (r := rB false) (o_pick_f (b := decide (r16.2 = r19.2)) rfl c59 rfl) ?_
     refine wm rfl ?_
     refine wl_off (b := false) rfl rfl rfl rfl ?_
     refine wl_off (b := false) rfl rfl rfl rfl ?_
     refine wl_off (b := false) rfl rfl rfl rfl ?_
     refine wv (r := rB false) (o_pick_f (b := false) rfl rfl rfl) ?_
     refine wm rfl ?_
     refine wl_off (b := false) rfl rfl rfl rfl ?_
     refine wl_off (b := false) rfl rfl rfl rfl ?_
     refine wl_off (b := false) rfl rfl rfl rfl ?_
     refine wv (r := rB false) (o_pick_f (b := false) rfl rfl rfl) ?_
     refine wm rfl ?_
     refine wl_off (b := false) rfl rfl rfl rfl ?_
     refine wl_off (b := false) rfl rfl rfl rfl ?_
     refine wl_off (b := false) rfl rfl rfl rfl ?_
     refine wv (r := rB false) (o_pick_f (b := false) rfl rfl rfl) ?_
     refine wm rfl ?_
     refine wl_off (b := false) rfl rfl rfl rfl ?_
     refine wl_off (b := false) rfl rfl rfl rfl ?_
     refine wl_off (b := false) rfl rfl rfl rfl ?_
     refine wv (r := rB false) (o_pick_f (b := false) rfl rfl rfl) ?_
     refine wm rfl ?_
     refine wl_off (b := false) rfl rfl rfl rfl ?_
     refine wl_off (b := false) rfl rfl rfl rfl ?_
     refine wl_off (b := false) rfl rfl rfl rfl ?_
     refine wv (r := rB false) (o_pick_f (b := false) rfl rfl rfl) ?_
     refine wm rfl ?_
     refine wl_off (b := false) rfl rfl rfl rfl ?_
     refine wl_off (b := false) rfl rfl rfl rfl ?_
     refine wl_off (b := false) rfl rfl rfl rfl ?_
     refine wv (r := rB false) (o_pick_f (b := false) rfl rfl rfl) ?_
     refine wm rfl ?_
     refine wl_off (b := false) rfl rfl rfl rfl ?_
     refine wl_off (b := false) rfl rfl rfl rfl ?_
     refine wl_off (b := false) rfl rfl rfl rfl ?_
     refine wv (r := rB false) (o_pick_f (b := false) rfl rfl rfl) ?_
     refine wm rfl ?_
     refine wl_off (b := false) rfl rfl rfl rfl ?_
     refine wv (r := rB false) (o_pick_f (b := false) rfl rfl rfl) ?_
     refine wa rfl ?_
     refine wl_nil ?_
     exact wtc (And.intro c58 c59)
   ·refine wf c58 ?_
    refine wf c58 ?_
    refine wf c58 ?_
    refine wv (r := rB false) (o_pick_f (b := (ov (lSame F r16.1 r19.1))) rfl c58 rfl) ?_
    refine wm rfl ?_
    refine wl_off (b := false) rfl rfl rfl rfl ?_
    refine wl_off (b := false) rfl rfl rfl rfl ?_
    refine wl_off (b := false) rfl rfl rfl rfl ?_
    refine wv (r := rB false) (o_pick_f (b := false) rfl rfl rfl) ?_
    refine wm rfl ?_
    refine wl_off (b := false) rfl rfl rfl rfl ?_
    refine wl_off (b := false) rfl rfl rfl rfl ?_
    refine wl_off (b := false) rfl rfl rfl rfl ?_
    refine wv (r := rB false) (o_pick_f (b := false) rfl rfl rfl) ?_
    refine wm rfl ?_
    refine wl_off (b := false) rfl rfl rfl rfl ?_
    refine wl_off (b := false) rfl rfl rfl rfl ?_
    refine wl_off (b := false) rfl rfl rfl rfl ?_
    refine wv (r := rB false) (o_pick_f (b := false) rfl rfl rfl) ?_
    refine wm rfl ?_
    refine wl_off (b := false) rfl rfl rfl rfl ?_
    refine wl_off (b := false) rfl rfl rfl rfl ?_
    refine wl_off (b := false) rfl rfl rfl rfl ?_
    refine wv (r := rB false) (o_pick_f (b := false) rfl rfl rfl) ?_
    refine wm rfl ?_
    refine wl_off (b := false) rfl rfl rfl rfl ?_
    refine wl_off (b := false) rfl rfl rfl rfl ?_
    refine wl_off (b := false) rfl rfl rfl rfl ?_
    refine wv (r := rB false) (o_pick_f (b := false) rfl rfl rfl) ?_
    refine wm rfl ?_
    refine wl_off (b := false) rfl rfl rfl rfl ?_
    refine wl_off (b := false) rfl rfl rfl rfl ?_
    refine wl_off (b := false) rfl rfl rfl rfl ?_
    refine wv (r := rB false) (o_pick_f (b := false) rfl rfl rfl) ?_
    refine wm rfl ?_
    refine wl_off (b := false) rfl rfl rfl rfl ?_
    refine wl_off (b := false) rfl rfl rfl rfl ?_
    refine wl_off (b := false) rfl rfl rfl rfl ?_
    refine wv (r := rB false) (o_pick_f (b := false) rfl rfl rfl) ?_
    refine wm rfl ?_
    refine wl_off (b := false) rfl rfl rfl rfl ?_
    refine wl_off (b := false) rfl rfl rfl rfl ?_
    refine wl_off (b := false) rfl rfl rfl rfl ?_
    refine wv (r := rB false) (o_pick_f (b := false) rfl rfl rfl) ?_
    refine wm rfl ?_
    refine wl_off (b := false) rfl rfl rfl rfl ?_
    refine wv (r := rB false) (o_pick_f (b := false) rfl rfl rfl) ?_
    refine wa rfl ?_
    refine wl_nil ?_
    exact wtc c58
  refine wc_ret ?_
  obtain rfl := some_e h57
  exact wk_ret (r_1 Tryz.results6 (rv_t rfl)) sN ⟨rfl, rfl⟩

end Go.Proofs.YtkalifgebccpcaaGreatDoor.Q

/-
 What is known of the values that the law is handed. Plain definitions.
-/
namespace Go.Proofs.YtkalifgebccpcaaGreatDoor.lawValueFinds
open Go
set_option linter.unusedVariables false
def ok63 (y : TApiCell) : Bool := (inK .i64) y.fKind && (inK .i64) y.fInt && okS y.fStr && (inK .i64) y.fN
def Law : Prop := ∀ (y0 : (List TApiCell)) (y1 : Str) (y2 : (List TApiCell)) (y3 : (List Str)) (o0 : (fun ys : (List TApiCell) => ys.all ok63 && decide (ys.length ≤ 9223372036854775807)) y0 = true) (o1 : okS y1 = true) (o2 : (fun ys : (List TApiCell) => ys.all ok63 && decide (ys.length ≤ 9223372036854775807)) y2 = true) (o3 : (fun ys : (List Str) => ys.all okS && decide (ys.length ≤ 9223372036854775807)) y3 = true), ∃ F, lFinds F y0 y1 y2 y3 = some true
end Go.Proofs.YtkalifgebccpcaaGreatDoor.lawValueFinds

/-
 What small functions of the package value and of its reference compute. Plain laws.
-/
namespace Go.Proofs.YtkalifgebccpcaaGreatDoor
open Go
set_option linter.unusedVariables false
set_option linter.unusedSimpArgs false
def okc (c : UInt8) : Bool := decide (32 ≤ c.toNat) && decide (c.toNat ≤ 126)
theorem bat_get {s : Str} {x : Int} {c : UInt8} (h : s[x.toNat]? = some c) : bat s x = (c.toNat : Int) := by simp [bat, h]
theorem take_all_succ {α : Type} {p : α → Bool} {s : List α} {k : Nat} {c : α} (h : s[k]? = some c) : (s.take (k + 1)).all p = ((s.take k).all p && p c) := by
 rw [List.take_add_one, h]; simp
theorem all_false_of {α : Type} {p : α → Bool} {s : List α} {k : Nat} {c : α} (h : s[k]? = some c) (hp : p c = false) : s.all p = false := by
 rw [List.all_eq_false]; exact ⟨c, List.mem_of_getElem? h, by simp [hp]⟩
theorem vText_eq {F : Nat} {s : Str} (hF : s.length < F) (hs : s.length ≤ 9223372036854775807) : vText F s = some (s.all okc) := by
 obtain ⟨o, h1, h2⟩ := lop_ind (body := fun σ => vText_b1 s σ) (fun x => 0 ≤ x ∧ x ≤ (s.length : Int) ∧ (s.take x.toNat).all okc = true) (fun x => s.length - x.toNat)
  (fun o => oute (fun _ => vText_k1) o = some (s.all okc)) (fun x ⟨h0, hl, ha⟩ => by
   unfold vText_b1
   by_cases hx : x < (s.length : Int)
   ·obtain ⟨c, hc⟩ : ∃ c, s[x.toNat]? = some c := ⟨s[x.toNat]'(by omega), List.getElem?_eq_getElem (by omega)⟩
    rw [cnd_tt (by simpa using hx), chk_inR h0 hx, bat_get hc]
    cases ho : okc c with
    | false =>
     refine .inr ⟨.ret false, ?_, ?_⟩
     ·rw [cnd_tt]
      simp only [okc, Bool.and_eq_false_iff, decide_eq_false_iff_not] at ho
      simp only [Bool.or_eq_true, decide_eq_true_eq]; omega
     ·simp [oute, all_false_of hc ho]
    | true =>
     refine .inl ⟨x + 1, ?_, ⟨by omega, by omega, ?_⟩, by omega⟩
     ·rw [cnd_ff, chk_i64 (by omega) (by omega)]
      simp only [okc, Bool.and_eq_true, decide_eq_true_eq] at ho
      simp only [Bool.or_eq_false_iff, decide_eq_false_iff_not]; omega
     ·rw [show (x + 1).toNat = x.toNat + 1 from by omega, take_all_succ hc, ha, ho]; rfl
   ·refine .inr ⟨.go (), by rw [cnd_ff (by simpa using hx)], ?_⟩
    rw [show x.toNat = s.length from by omega, List.take_length] at ha
    simp [oute, vText_k1, ha]) F 0 ⟨by omega, by omega, by simp⟩ (by simpa using hF)
 unfold vText
 rw [obn_s h1, h2]
theorem rPlain_vText (F : Nat) (s : Str) : rPlain F s = vText F s := rfl
theorem rPlain_eq {F : Nat} {s : Str} (hF : s.length < F) (hs : s.length ≤ 9223372036854775807) : rPlain F s = some (s.all okc) := by rw [rPlain_vText]; exact vText_eq hF hs
def pl (c : TApiCell) : Bool :=
 bif decide (c.fKind = 1) then (decide (c.fInt = 0) && (decide (c.fStr = []) && decide (c.fN = 0))) else
 bif decide (c.fKind = 2) then ((decide (c.fInt = 0) || decide (c.fInt = 1)) && (decide (c.fStr = []) && decide (c.fN = 0))) else
 bif decide (c.fKind = 3) then (decide (c.fStr = []) && decide (c.fN = 0)) else
 bif decide (c.fKind = 4) then (decide (c.fInt = 0) && (decide (c.fN = 0) && c.fStr.all okc)) else
 bif decide (c.fKind = 5) then (decide (c.fInt = 0) && (decide (c.fStr = []) && decide (0 ≤ c.fN))) else
 bif decide (c.fKind = 6) then (decide (c.fInt = 0) && (decide (c.fStr = []) && decide (0 ≤ c.fN))) else false
theorem cnd_some {α : Type} {p : Bool} {x y : Option α} {a b : α} (h : x = some a) (h' : y = some b) : cnd p x y = some (bif p then a else b) := by cases p <;> simp [cnd, h, h']
theorem vPlain_eq {F : Nat} {c : TApiCell} (hF : c.fStr.length < F) (hs : c.fStr.length ≤ 9223372036854775807) : vPlain F c = some (pl c) := by
 unfold vPlain pl
 rw [vText_eq hF hs]
 refine cnd_some rfl (cnd_some ?_ (cnd_some rfl (cnd_some ?_ (cnd_some rfl (cnd_some rfl rfl)))))
 ·cases h : decide (c.fInt = 0) <;> simp
 ·simp [imp, chk, ov]
def clr : List TValueOpen → List TValueOpen
 | [] => []
 | e :: S => bif decide (1 < e.fLeft) then ⟨e.fPairs, e.fLeft - 1, e.fPairs, e.fLast, e.fStarted⟩ :: S else clr S
theorem at_last {α : Type} [Inhabited α] (xs : List α) (e : α) : at' (xs ++ [e]) (xs.length : Int) = e := by simp [at']
theorem set_last {α : Type} (xs : List α) (e e' : α) : List.set (xs ++ [e]) (Int.toNat (xs.length : Int)) e' = xs ++ [e'] := by simp
theorem len_last {α : Type} (xs : List α) (e : α) : ((xs ++ [e]).length : Int) - 1 = (xs.length : Int) := by simp
theorem take_last {α : Type} (xs : List α) (e : α) : List.take (Int.toNat (xs.length : Int)) (xs ++ [e]) = xs := by simp
theorem vClosed_lop : ∀ (S : List TValueOpen) (F : Nat), S.length < F → (∀ e ∈ S, 1 ≤ e.fLeft ∧ e.fLeft ≤ 9223372036854775807) → S.length ≤ 4611686018427387904 →
  ∃ o, lop (fun σ => vClosed_b1 σ) F S.reverse = some o ∧ oute (fun ν => vClosed_k1 ν) o = some (clr S).reverse
 | [], F + 1, _, _, _ => ⟨.go [], by simp [lop, vClosed_b1, cnd], by simp [oute, vClosed_k1, clr]⟩
 | e :: S, F + 1, hF, hb, hl => by
  obtain ⟨h1, h2⟩ := hb e (by simp)
  simp only [List.length_cons] at hF hl
  have hx : S.reverse.length = S.length := by simp
  generalize hxs : S.reverse = xs at hx
  have hr : (e :: S).reverse = xs ++ [e] := by simp [hxs]
  rw [hr]
  have hb1 : vClosed_b1 (xs ++ [e]) = bif decide (1 < e.fLeft) then some (.out (.ret (xs ++ [⟨e.fPairs, e.fLeft - 1, e.fPairs, e.fLast, e.fStarted⟩]))) else some (.next xs) := by
   unfold vClosed_b1
   rw [cnd_tt (by simp)]
   simp only [len_last, at_last, set_last, bnd]
   rw [chk_i64 (by omega) (by omega), chk_inR (by omega) (by simp; omega), chk_i64 (by omega) (by omega)]
   cases hd : decide (1 < e.fLeft) with
   | true =>
    rw [cnd_tt (by simp at hd ⊢; omega)]; rfl
   | false =>
    rw [cnd_ff (by simp at hd ⊢; omega), chk_i64 (by omega) (by omega), chk_inC (by omega) (by simp; omega), take_last]; rfl
  rw [lop, hb1]
  cases hd : decide (1 < e.fLeft) with
  | true => exact ⟨_, rfl, by simp [oute, vClosed_k1, clr, hd, hxs]⟩
  | false =>
   obtain ⟨o, ho1, ho2⟩ := vClosed_lop S F (by omega) (fun e he => hb e (by simp [he])) (by omega)
   rw [hxs] at ho1
   exact ⟨o, ho1, by rw [ho2]; simp [clr, hd]⟩
theorem vClosed_eq {S : List TValueOpen} {F : Nat} (hF : S.length < F) (hb : ∀ e ∈ S, 1 ≤ e.fLeft ∧ e.fLeft ≤ 9223372036854775807) (hl : S.length ≤ 4611686018427387904) : vClosed F S.reverse = some (clr S).reverse := by
 obtain ⟨o, h1, h2⟩ := vClosed_lop S F hF hb hl
 unfold vClosed
 rw [obn_s h1, h2]
end Go.Proofs.YtkalifgebccpcaaGreatDoor

/-
 value.look, one cell at a time. Plain laws.
-/
namespace Go.Proofs.YtkalifgebccpcaaGreatDoor
open Go
set_option linter.unusedVariables false
set_option linter.unusedSimpArgs false
def qlen (s : Str) : Int := s.length + 2 + s.count 34 + s.count 92
theorem vQuoted_eq {s : Str} (hs : s.length ≤ 1152921504606846976) : vQuoted s = some (qlen s) := by
 have h1 : s.count 34 ≤ s.length := List.count_le_length
 have h2 : s.count 92 ≤ s.length := List.count_le_length
 unfold vQuoted Lib.countByte
 rw [chk_i64 (by omega) (by omega), chk_i64 (by omega) (by omega), chk_i64 (by omega) (by omega)]
 rfl
def szc (c : TApiCell) : Int :=
 bif decide (c.fKind = 1) then 4 else bif decide (c.fKind = 2) then IntKind.wrap .i64 (5 - c.fInt) else bif decide (c.fKind = 3) then ((Lib.itoa c.fInt).length : Int) else
 bif decide (c.fKind = 4) then qlen c.fStr else IntKind.wrap .i64 (2 + max 0 (IntKind.wrap .i64 (c.fN - 1)))
theorem vSize_eq {c : TApiCell} (hs : c.fStr.length ≤ 1152921504606846976) (hi : inK .i64 c.fInt = true) : vSize c = some (szc c) := by
 unfold vSize szc
 rw [vQuoted_eq hs]
 refine cnd_some rfl (cnd_some rfl (cnd_some ?_ (cnd_some rfl rfl)))
 rw [chk_t hi]
def shc (d : Nat) (sh : TValueShape) (c : TApiCell) : TValueShape :=
 ⟨max sh.fDepth ((d : Int) + 1), IntKind.wrap .i64 (sh.fBytes + szc c), sh.fOutside || (decide (c.fKind = 3) && !(decide ((-1000000000000) ≤ c.fInt) && decide (c.fInt ≤ 1000000000000))), sh.fLong || decide (200 < (c.fStr.length : Int))⟩
def shk (sh : TValueShape) (c : TApiCell) : TValueShape := ⟨sh.fDepth, IntKind.wrap .i64 (sh.fBytes + (qlen c.fStr + 1)), sh.fOutside, sh.fLong || decide (200 < (c.fStr.length : Int))⟩
def keyTop : List TValueOpen → Bool
 | [] => false
 | e :: _ => e.fKey
abbrev LkS := List TValueOpen × Int × TValueShape
abbrev LkO := Out (Int × TValueShape × Bool) TValueShape
def lkc (n : Int) (S : List TValueOpen) (i : Int) (sh : TValueShape) (c : TApiCell) : Stp LkS LkO :=
 bif !pl c then .out (.ret (0, sh, false)) else
 match S with
 | e :: S' =>
  bif e.fKey then
   bif !decide (c.fKind = 4) || (e.fStarted && (sLess c.fStr e.fLast || decide (c.fStr = e.fLast))) then .out (.ret (0, sh, false))
   else .next ((⟨e.fPairs, e.fLeft, false, c.fStr, true⟩ :: S').reverse, i + 1, shk sh c)
  else bif decide (0 < c.fN) then
   bif decide (n < c.fN) then .out (.ret (0, shc S.length sh c, false))
   else .next ((⟨decide (c.fKind = 6), c.fN, decide (c.fKind = 6), [], false⟩ :: S).reverse, i + 1, shc S.length sh c)
  else bif decide (clr S = []) then .out (.ret (i + 1, shc S.length sh c, true)) else .next ((clr S).reverse, i + 1, shc S.length sh c)
 | [] =>
  bif decide (0 < c.fN) then
   bif decide (n < c.fN) then .out (.ret (0, shc 0 sh c, false))
   else .next ([⟨decide (c.fKind = 6), c.fN, decide (c.fKind = 6), [], false⟩], i + 1, shc 0 sh c)
  else .out (.ret (i + 1, shc 0 sh c, true))
theorem clr_nil_length {S : List TValueOpen} : decide (((clr S).reverse.length : Int) = 0) = decide (clr S = []) := by
 rw [Bool.eq_iff_iff]; simp
theorem inA48 {α : Type} {xs : List α} {e x : α} {M : Nat} (h : xs.length + 1 ≤ M) (hM2 : (M + 2) * 48 ≤ 140737488355328) : inA 48 ((xs ++ [e]).length + ([x] : List α).length) = true := by
 refine decide_eq_true (Nat.le_trans (Nat.mul_le_mul_right 48 ?_) hM2)
 rw [List.length_append, List.length_singleton, List.length_singleton]; omega
set_option maxHeartbeats 600000 in
theorem vLook_b1_eq {F : Nat} {v : List TApiCell} {S : List TValueOpen} {i : Int} {sh : TValueShape} {c : TApiCell} (h0 : 0 ≤ i) (hc : v[i.toNat]? = some c) {M : Nat} (hM : M ≤ 1152921504606846976) (hM2 : (M + 2) * 48 ≤ 140737488355328) (hv : v.length ≤ M) (hS : S.length ≤ M) (hF : M < F)
  (hs : c.fStr.length ≤ M) (hi : inK .i64 c.fInt = true) (hb : ∀ e ∈ S, 1 ≤ e.fLeft ∧ e.fLeft ≤ 9223372036854775807) : vLook_b1 F v S.reverse i sh = some (lkc v.length S i sh c) := by
 have hil : i.toNat < v.length := (List.getElem?_eq_some_iff.1 hc).1
 have hat : at' v i = c := by simp [at', hc]
 unfold vLook_b1 lkc
 rw [cnd_tt (by simp; omega), chk_inR h0 (by omega), hat, vPlain_eq (by omega) (by omega), obn_s rfl]
 cases hp : pl c with
 | false => rw [cnd_tt (by simp)]; rfl
 | true =>
  rw [cnd_ff (by simp)]
  cases S with
  | nil =>
   rw [chk_t (by simp [imp]), chk_t (by simp [imp]), cnd_ff (by simp), chk_i64 (by simp) (by simp), vSize_eq (by omega) hi, obn_s rfl, chk_t (by simp [imp, nValid])]
   simp only [nValid, ov, Option.getD_some, Bool.not_true, cond_false]
   cases hn : decide (0 < c.fN) with
   | true =>
    rw [cnd_tt rfl]
    cases hm : decide ((v.length : Int) < c.fN) with
    | true => rw [cnd_tt rfl]; simp [shc]
    | false => rw [cnd_ff rfl, chk_t (by simp [inA])]; unfold vLook_j2; rw [chk_i64 (by omega) (by omega)]; simp [shc]
   | false =>
    rw [cnd_ff rfl, obn_s (vClosed_eq (S := []) (by simp; omega) (by simp) (by simp)), cnd_tt (by simp [clr]), chk_i64 (by omega) (by omega)]; simp [shc]
  | cons e S' =>
   have hx : S'.reverse.length = S'.length := by simp
   generalize hxs : S'.reverse = xs at hx
   have hr : (e :: S').reverse = xs ++ [e] := by simp [hxs]
   simp only [List.length_cons] at hS
   have hlen : ((xs ++ [e]).length : Int) = (xs.length : Int) + 1 := by simp
   rw [hr, chk_t (by simp only [imp, len_last]; rw [inK_i64' (by omega) (by omega)]; simp), chk_t (by simp only [imp, len_last]; rw [inR' (by omega) (by omega)]; simp)]
   rw [len_last, at_last]
   cases hk : e.fKey with
   | true =>
    rw [cnd_tt (by simp), chk_i64 (by omega) (by omega), chk_inR (by omega) (by omega)]
    simp only [hk, Bool.not_true, cond_false, cond_true]
    cases ht : !decide (c.fKind = 4) || (e.fStarted && (sLess c.fStr e.fLast || decide (c.fStr = e.fLast))) with
    | true => rw [cnd_tt rfl]; rfl
    | false =>
     rw [cnd_ff rfl, set_last, bnd, at_last, set_last, bnd, at_last, set_last, bnd, vQuoted_eq (by omega), obn_s rfl, chk_i64 (by unfold qlen; omega) (by unfold qlen; have := @List.count_le_length UInt8 _ 34 c.fStr; have := @List.count_le_length UInt8 _ 92 c.fStr; omega)]
     unfold vLook_j2
     rw [chk_i64 (by omega) (by omega)]
     simp [shk, hxs]
   | false =>
    rw [cnd_ff (by simp), hlen, chk_i64 (by omega) (by omega), vSize_eq (by omega) hi, obn_s rfl, chk_t (by simp [imp, nValid])]
    simp only [hk, nValid, ov, Option.getD_some, Bool.not_true, cond_false, cond_true]
    cases hn : decide (0 < c.fN) with
    | true =>
     rw [cnd_tt rfl]
     cases hm : decide ((v.length : Int) < c.fN) with
     | true => rw [cnd_tt rfl]; simp [shc, hx]
     | false => rw [cnd_ff rfl, chk_t (inA48 (by omega) hM2)]; unfold vLook_j2; rw [chk_i64 (by omega) (by omega)]; simp [shc, hx, hxs]
    | false =>
     have hcl := vClosed_eq (S := e :: S') (F := F) (by simp; omega) hb (by simp; omega)
     rw [hr] at hcl
     rw [cnd_ff rfl, hcl, obn_s rfl, clr_nil_length]
     cases hq : decide (clr (e :: S') = []) with
     | true => rw [cnd_tt rfl, chk_i64 (by omega) (by omega)]; simp [shc, hx]
     | false => rw [cnd_ff rfl]; unfold vLook_j2; rw [chk_i64 (by omega) (by omega)]; simp [shc, hx]
end Go.Proofs.YtkalifgebccpcaaGreatDoor

/-
 Values as forests; value.look on the cells of a forest. Plain laws.
-/
namespace Go.Proofs.YtkalifgebccpcaaGreatDoor
open Go
set_option linter.unusedVariables false
set_option linter.unusedSimpArgs false
section
variable {S O : Type} {body : S → Option (Stp S O)} {s t u : S} {o : O}
def Reach (body : S → Option (Stp S O)) (s t : S) : Prop := ∃ k, ∀ n, lop body (n + k) s = lop body n t
def Fin (body : S → Option (Stp S O)) (s : S) (o : O) : Prop := ∃ k, ∀ n, lop body (n + k) s = some o
theorem Reach.refl (s : S) : Reach body s s := ⟨0, fun _ => rfl⟩
theorem Reach.trans (h : Reach body s t) (h' : Reach body t u) : Reach body s u := by
 obtain ⟨k, hk⟩ := h
 obtain ⟨j, hj⟩ := h'
 exact ⟨j + k, fun n => by rw [← Nat.add_assoc, hk, hj]⟩
theorem Reach.step (h : body s = some (.next t)) : Reach body s t := ⟨1, fun n => by rw [lop, h]⟩
theorem Fin.step (h : body s = some (.out o)) : Fin body s o := ⟨1, fun n => by rw [lop, h]⟩
theorem Reach.fin (h : Reach body s t) (h' : Fin body t o) : Fin body s o := by
 obtain ⟨k, hk⟩ := h
 obtain ⟨j, hj⟩ := h'
 exact ⟨j + k, fun n => by rw [← Nat.add_assoc, hk, hj]⟩
end
inductive Fo where
 | nil
 | cell (k : Option Str) (c : TApiCell) (r : Fo)
 | node (k : Option Str) (c : TApiCell) (kids r : Fo)
def keyC : Option Str → List TApiCell
 | none => []
 | some s => [⟨4, 0, s, 0⟩]
def Fo.flat : Fo → List TApiCell
 | .nil => []
 | .cell k c r => keyC k ++ c :: r.flat
 | .node k c kids r => keyC k ++ c :: (kids.flat ++ r.flat)
def Fo.cnt : Fo → Nat
 | .nil => 0
 | .cell _ _ r => r.cnt + 1
 | .node _ _ _ r => r.cnt + 1
def keyOk (m : Bool) (last : Option Str) : Option Str → Bool
 | none => !m
 | some s => m && s.all okc && (match last with
  | none => true
  | some p => !(sLess s p || decide (s = p)))
def Fo.wf : Bool → Option Str → Fo → Bool
 | _, _, .nil => true
 | m, last, .cell k c r => keyOk m last k && pl c && !decide (0 < c.fN) && r.wf m k
 | m, last, .node k c kids r => keyOk m last k && pl c && decide (0 < c.fN) && decide (c.fN = kids.cnt) && kids.wf (decide (c.fKind = 6)) none && r.wf m k
def shK (k : Option Str) (sh : TValueShape) : TValueShape := match k with
 | none => sh
 | some s => shk sh ⟨4, 0, s, 0⟩
def Fo.sh (d : Nat) : TValueShape → Fo → TValueShape
 | s, .nil => s
 | s, .cell k c r => r.sh d (shc d (shK k s) c)
 | s, .node k c kids r => r.sh d (kids.sh (d + 1) (shc d (shK k s) c))
def Done (body : LkS → Option (Stp LkS LkO)) (s : LkS) (S : List TValueOpen) (i : Int) (sh : TValueShape) : Prop :=
 if clr S = [] then Fin body s (.ret (i, sh, true)) else Reach body s ((clr S).reverse, i, sh)
theorem Done.of {body : LkS → Option (Stp LkS LkO)} {s t : LkS} {S : List TValueOpen} {i : Int} {sh : TValueShape} (h : Reach body s t) (h' : Done body t S i sh) : Done body s S i sh := by
 unfold Done at *
 split
 ·rename_i e; rw [if_pos e] at h'; exact h.fin h'
 ·rename_i e; rw [if_neg e] at h'; exact h.trans h'
theorem Done.pop {body : LkS → Option (Stp LkS LkO)} {s : LkS} {e : TValueOpen} {S : List TValueOpen} {i : Int} {sh : TValueShape} (h : Done body s (e :: S) i sh) (h1 : e.fLeft = 1) : Done body s S i sh := by
 have : clr (e :: S) = clr S := by simp [clr, h1]
 unfold Done at *
 rw [this] at h; exact h
theorem Done.more {body : LkS → Option (Stp LkS LkO)} {s : LkS} {e : TValueOpen} {S : List TValueOpen} {i : Int} {sh : TValueShape} (h : Done body s (e :: S) i sh) (h1 : 1 < e.fLeft) : Reach body s ((⟨e.fPairs, e.fLeft - 1, e.fPairs, e.fLast, e.fStarted⟩ :: S).reverse, i, sh) := by
 have : clr (e :: S) = ⟨e.fPairs, e.fLeft - 1, e.fPairs, e.fLast, e.fStarted⟩ :: S := by simp [clr, h1]
 unfold Done at *
 rw [this, if_neg (by simp)] at h; exact h
end Go.Proofs.YtkalifgebccpcaaGreatDoor

/-
 value.look on the cells of a forest: it goes through them. Plain laws.
-/
namespace Go.Proofs.YtkalifgebccpcaaGreatDoor
open Go
set_option linter.unusedVariables false
set_option linter.unusedSimpArgs false
structure LkA (F M : Nat) (v : List TApiCell) : Prop where
 hM : M ≤ 1152921504606846976
 hM2 : (M + 2) * 48 ≤ 140737488355328
 hv : v.length ≤ M
 hF : M < F
 hc : ∀ c ∈ v, c.fStr.length ≤ M ∧ inK .i64 c.fInt = true ∧ c.fN ≤ 9223372036854775807
abbrev lkB (F : Nat) (v : List TApiCell) : LkS → Option (Stp LkS LkO) := fun σ => vLook_b1 F v σ.1 σ.2.1 σ.2.2
def lefts (S : List TValueOpen) : Prop := ∀ e ∈ S, 1 ≤ e.fLeft ∧ e.fLeft ≤ 9223372036854775807
section
variable {F M : Nat} {v : List TApiCell} {S : List TValueOpen} {i : Int} {sh : TValueShape} {c : TApiCell} {r : List TApiCell} {e : TValueOpen}
theorem drop_get (h0 : 0 ≤ i) (h : v.drop i.toNat = c :: r) : v[i.toNat]? = some c ∧ v.drop (i + 1).toNat = r ∧ i < v.length := by
 have h1 : (v.drop i.toNat)[0]? = some c := by rw [h]; rfl
 have h2 : v[i.toNat]? = some c := by simpa using h1
 have h3 := (List.getElem?_eq_some_iff.1 h2).1
 refine ⟨h2, ?_, by omega⟩
 rw [show (i + 1).toNat = i.toNat + 1 from by omega, ← List.drop_drop, h]; rfl
theorem round (hA : LkA F M v) (h0 : 0 ≤ i) (h : v.drop i.toNat = c :: r) (hS : (S.length : Int) ≤ i) (hb : lefts S) : lkB F v (S.reverse, i, sh) = some (lkc v.length S i sh c) := by
 obtain ⟨h1, _, h3⟩ := drop_get h0 h
 obtain ⟨a, b, _⟩ := hA.hc c (List.mem_of_getElem? h1)
 have := hA.hv
 exact vLook_b1_eq h0 h1 hA.hM hA.hM2 hA.hv (by omega) hA.hF a b hb
def keyed (e : TValueOpen) : Option Str → TValueOpen
 | none => e
 | some s => ⟨e.fPairs, e.fLeft, false, s, true⟩
def lastOk (e : TValueOpen) : Option Str → Prop
 | none => e.fStarted = false
 | some p => e.fStarted = true ∧ e.fLast = p
theorem keyRound (hA : LkA F M v) (h0 : 0 ≤ i) {k last : Option Str} (h : v.drop i.toNat = keyC k ++ r) (hS : (S.length : Int) + 1 ≤ i) (hb : lefts (e :: S)) (hk : keyOk e.fKey last k = true) (hl : lastOk e last) :
  Reach (lkB F v) ((e :: S).reverse, i, sh) ((keyed e k :: S).reverse, i + (keyC k).length, shK k sh) := by
 cases k with
 | none => simpa [keyed, keyC, shK] using Reach.refl _
 | some s =>
  simp only [keyOk, Bool.and_eq_true] at hk
  obtain ⟨⟨hm, hok⟩, hcmp⟩ := hk
  refine Reach.step ?_
  rw [round hA h0 (by simpa [keyC] using h) (by simpa using hS) hb]
  have hp : pl ⟨4, 0, s, 0⟩ = true := by simp [pl, hok]
  have ht : (e.fStarted && (sLess s e.fLast || decide (s = e.fLast))) = false := by
   cases last with
   | none => simp only [lastOk] at hl; rw [hl]; rfl
   | some p => obtain ⟨h1, h2⟩ := hl; rw [h1, h2]; simpa using hcmp
  simp only [lkc, hp, hm, ht, Bool.not_true, cond_false, cond_true, decide_true, Bool.or_false, Bool.or_self]
  rfl
theorem keyed_key {k last : Option Str} (hk : keyOk e.fKey last k = true) : (keyed e k).fKey = false := by
 cases k with
 | none => simpa [keyed, keyOk] using hk
 | some s => rfl
theorem keyed_left (k : Option Str) : (keyed e k).fLeft = e.fLeft ∧ (keyed e k).fPairs = e.fPairs := by cases k <;> exact ⟨rfl, rfl⟩
theorem leafRound (hA : LkA F M v) (h0 : 0 ≤ i) (h : v.drop i.toNat = c :: r) (hS : (S.length : Int) ≤ i) (hb : lefts S) (hk : keyTop S = false) (hp : pl c = true) (hn : decide (0 < c.fN) = false) :
  Done (lkB F v) (S.reverse, i, sh) S (i + 1) (shc S.length sh c) := by
 have hr := round (sh := sh) hA h0 h hS hb
 unfold Done
 cases S with
 | nil =>
  rw [if_pos (by simp [clr])]
  refine Fin.step ?_
  rw [hr]; simp [lkc, hp, hn]
 | cons e S =>
  simp only [keyTop] at hk
  split
  ·rename_i hc
   refine Fin.step ?_
   rw [hr]; simp [lkc, hp, hn, hk, hc]
  ·rename_i hc
   refine Reach.step ?_
   rw [hr]; simp [lkc, hp, hn, hk, hc]
theorem nodeRound (hA : LkA F M v) (h0 : 0 ≤ i) (h : v.drop i.toNat = c :: r) (hS : (S.length : Int) ≤ i) (hb : lefts S) (hk : keyTop S = false) (hp : pl c = true) (hn : decide (0 < c.fN) = true) (hv : c.fN ≤ v.length) :
  Reach (lkB F v) (S.reverse, i, sh) ((⟨decide (c.fKind = 6), c.fN, decide (c.fKind = 6), [], false⟩ :: S).reverse, i + 1, shc S.length sh c) := by
 have hr := round (sh := sh) hA h0 h hS hb
 have hv' : decide ((v.length : Int) < c.fN) = false := by simpa using hv
 refine Reach.step ?_
 rw [hr]
 cases S with
 | nil => simp only [lkc, hp, hn, hv', Bool.not_true, cond_false, cond_true]; rfl
 | cons e S =>
  simp only [keyTop] at hk
  simp only [lkc, hp, hn, hv', hk, Bool.not_true, cond_false, cond_true]
theorem cnt_le_flat : ∀ f : Fo, f.cnt ≤ f.flat.length
 | .nil => Nat.le_refl _
 | .cell k c r => by have := cnt_le_flat r; simp [Fo.cnt, Fo.flat]; omega
 | .node k c kids r => by have := cnt_le_flat r; simp [Fo.cnt, Fo.flat]; omega
theorem drop_app {α : Type} {v xs r : List α} {i : Int} (h0 : 0 ≤ i) (h : v.drop i.toNat = xs ++ r) : v.drop (i + xs.length).toNat = r := by
 rw [show (i + (xs.length : Int)).toNat = i.toNat + xs.length from by omega, ← List.drop_drop, h, List.drop_left]
theorem restLook (hA : LkA F M v) {e' : TValueOpen} {s : LkS} {k : Option Str} {r' : Fo}
  (ih : ∀ (e : TValueOpen) (S : List TValueOpen) (i : Int) (sh : TValueShape) (last : Option Str) (r : List TApiCell), 1 ≤ r'.cnt → r'.wf e.fPairs last = true → e.fKey = e.fPairs → e.fLeft = r'.cnt → lastOk e last → (e.fPairs = false → last = none) → v.drop i.toNat = r'.flat ++ r → 0 ≤ i → (S.length : Int) + 1 ≤ i → lefts S →
   Done (lkB F v) ((e :: S).reverse, i, sh) S (i + r'.flat.length) (r'.sh (S.length + 1) sh))
  (hd : Done (lkB F v) s (e' :: S) i sh) (hl : e'.fLeft = r'.cnt + 1) (hw : r'.wf e'.fPairs k = true) (hk : lastOk e' k) (hm : e'.fPairs = false → k = none) (hv : v.drop i.toNat = r'.flat ++ r) (h0 : 0 ≤ i) (hS : (S.length : Int) + 1 ≤ i) (hb : lefts S) :
  Done (lkB F v) s S (i + r'.flat.length) (r'.sh (S.length + 1) sh) := by
 by_cases h1 : r'.cnt = 0
 ·cases r' with
  | nil => simpa [Fo.flat, Fo.sh] using hd.pop (by rw [hl]; rfl)
  | cell _ _ _ => simp [Fo.cnt] at h1
  | node _ _ _ _ => simp [Fo.cnt] at h1
 ·have := hd.more (by omega)
  refine Done.of this (ih _ S i sh k r (by omega) hw rfl (by simp only; omega) ?_ hm hv h0 hS hb)
  cases k with
  | none => exact hk
  | some p => exact hk
theorem keyed_last {k last : Option Str} (hl : lastOk e last) (hm : e.fPairs = false → last = none) (hk : keyOk e.fPairs last k = true) : lastOk (keyed e k) k ∧ ((keyed e k).fPairs = false → k = none) := by
 cases k with
 | none =>
  have : e.fPairs = false := by simpa [keyOk] using hk
  rw [hm this] at hl
  exact ⟨hl, fun _ => rfl⟩
 | some s =>
  refine ⟨⟨rfl, rfl⟩, fun h => ?_⟩
  have h : e.fPairs = false := h
  simp [keyOk, h] at hk
theorem forest_look (hA : LkA F M v) : ∀ (f : Fo) (e : TValueOpen) (S : List TValueOpen) (i : Int) (sh : TValueShape) (last : Option Str) (r : List TApiCell), 1 ≤ f.cnt → f.wf e.fPairs last = true → e.fKey = e.fPairs → e.fLeft = f.cnt → lastOk e last → (e.fPairs = false → last = none) → v.drop i.toNat = f.flat ++ r → 0 ≤ i → (S.length : Int) + 1 ≤ i → lefts S →
   Done (lkB F v) ((e :: S).reverse, i, sh) S (i + f.flat.length) (f.sh (S.length + 1) sh) := by
 have hmax : ∀ (i : Int) (xs : List TApiCell), 0 ≤ i → v.drop i.toNat = xs → xs.length ≤ v.length := fun i xs _ h => by rw [← h, List.length_drop]; omega
 intro f
 induction f with
 | nil => intro e S i sh last r h1; simp [Fo.cnt] at h1
 | cell k c r' ih =>
  intro e S i sh last r h1 hw hk hl hlo hm hv h0 hS hb
  simp only [Fo.wf, Bool.and_eq_true, Bool.not_eq_true'] at hw
  obtain ⟨⟨⟨w1, w2⟩, w3⟩, w4⟩ := hw
  simp only [Fo.flat, List.append_assoc, List.cons_append] at hv
  have hcnt := hmax i _ h0 hv
  have hcf := cnt_le_flat r'
  simp only [List.length_append, List.length_cons] at hcnt
  have hvM := hA.hv; have hMM := hA.hM
  simp only [Fo.cnt] at hl
  have hb' : lefts (e :: S) := fun x hx => by
   rcases List.mem_cons.1 hx with rfl | hx
   ·constructor <;> omega
   ·exact hb x hx
  have hkr := keyRound (sh := sh) hA h0 hv hS hb' (by rw [hk]; exact w1) hlo
  have hv1 := drop_app h0 hv
  obtain ⟨kl, kp⟩ := keyed_left (e := e) k
  have hbk : lefts (keyed e k :: S) := fun x hx => by
   rcases List.mem_cons.1 hx with rfl | hx
   ·rw [kl]; exact hb' e (by simp)
   ·exact hb x hx
  have hd := leafRound (sh := shK k sh) hA (by omega) hv1 (by simp only [List.length_cons]; omega) hbk (keyed_key (by rw [hk]; exact w1)) w2 w3
  obtain ⟨q1, q2⟩ := keyed_last hlo hm w1
  have hv2 := (drop_get (by omega) hv1).2.1
  have := restLook hA ih (hd.of hkr) (by rw [kl, hl]; rfl) (by rw [kp]; exact w4) q1 q2 hv2 (by omega) (by omega) hb
  simp only [Fo.flat, Fo.sh, List.length_append, List.length_cons]
  rw [show i + ((((keyC k).length + (r'.flat.length + 1) : Nat)) : Int) = i + (keyC k).length + 1 + r'.flat.length from by omega]
  exact this
 | node k c kids r' ihk ih =>
  intro e S i sh last r h1 hw hk hl hlo hm hv h0 hS hb
  simp only [Fo.wf, Bool.and_eq_true, decide_eq_true_eq] at hw
  obtain ⟨⟨⟨⟨⟨w1, w2⟩, w3⟩, w5⟩, w6⟩, w4⟩ := hw
  simp only [Fo.flat, List.append_assoc, List.cons_append] at hv
  have hcnt := hmax i _ h0 hv
  have hcf := cnt_le_flat r'
  have hck := cnt_le_flat kids
  simp only [List.length_append, List.length_cons] at hcnt
  have hvM := hA.hv; have hMM := hA.hM
  simp only [Fo.cnt] at hl
  have hb' : lefts (e :: S) := fun x hx => by
   rcases List.mem_cons.1 hx with rfl | hx
   ·constructor <;> omega
   ·exact hb x hx
  have hkr := keyRound (sh := sh) hA h0 hv hS hb' (by rw [hk]; exact w1) hlo
  have hv1 := drop_app h0 hv
  obtain ⟨kl, kp⟩ := keyed_left (e := e) k
  have hbk : lefts (keyed e k :: S) := fun x hx => by
   rcases List.mem_cons.1 hx with rfl | hx
   ·rw [kl]; exact hb' e (by simp)
   ·exact hb x hx
  have hn := nodeRound (sh := shK k sh) hA (by omega) hv1 (by simp only [List.length_cons]; omega) hbk (keyed_key (by rw [hk]; exact w1)) w2 (by simpa using w3) (by omega)
  have hv2 := (drop_get (by omega) hv1).2.1
  have hd := ihk ⟨decide (c.fKind = 6), c.fN, decide (c.fKind = 6), [], false⟩ (keyed e k :: S) (i + (keyC k).length + 1) (shc (S.length + 1) (shK k sh) c) none _ (by omega) w6 rfl w5 rfl (fun _ => rfl) hv2 (by omega) (by simp only [List.length_cons]; omega) hbk
  obtain ⟨q1, q2⟩ := keyed_last hlo hm w1
  have hv3 := drop_app (by omega) hv2
  have := restLook hA ih ((hd.of hn).of hkr) (by rw [kl, hl]; rfl) (by rw [kp]; exact w4) q1 q2 hv3 (by omega) (by omega) hb
  simp only [Fo.flat, Fo.sh, List.length_append, List.length_cons]
  rw [show i + ((((keyC k).length + (kids.flat.length + r'.flat.length + 1) : Nat)) : Int) = i + (keyC k).length + 1 + kids.flat.length + r'.flat.length from by omega]
  exact this
end
end Go.Proofs.YtkalifgebccpcaaGreatDoor

/-
 value.look always ends; what it says of a value. Plain laws.
-/
namespace Go.Proofs.YtkalifgebccpcaaGreatDoor
open Go
set_option linter.unusedVariables false
set_option linter.unusedSimpArgs false
theorem lop_mono {S O : Type} {body : S → Option (Stp S O)} {o : O} : ∀ {n : Nat} {s : S} (k : Nat), lop body n s = some o → lop body (n + k) s = some o
 | 0, s, k, h => by cases h
 | n + 1, s, k, h => by
  rw [show n + 1 + k = n + k + 1 from by omega, lop]
  rw [lop] at h
  cases hb : body s with
  | none => rw [hb] at h; cases h
  | some t =>
   rw [hb] at h
   cases t with
   | next s' => exact lop_mono k h
   | out o' => exact h
theorem Fin.eq {S O : Type} {body : S → Option (Stp S O)} {s : S} {o o' : O} {n : Nat} (h : Fin body s o) (h' : lop body n s = some o') : o' = o := by
 obtain ⟨k, hk⟩ := h
 have := lop_mono k h'
 rw [hk n] at this
 exact (some_e this).symm
theorem clr_lefts : ∀ {S : List TValueOpen}, lefts S → lefts (clr S) ∧ (clr S).length ≤ S.length
 | [], h => ⟨h, Nat.le_refl _⟩
 | e :: S, h => by
  have hS : lefts S := fun x hx => h x (by simp [hx])
  have he := h e (by simp)
  unfold clr
  cases hd : decide (1 < e.fLeft) with
  | true =>
   simp only [decide_eq_true_eq] at hd
   refine ⟨fun x hx => ?_, by simp⟩
   rcases List.mem_cons.1 hx with rfl | hx
   ·simp only; omega
   ·exact hS x hx
  | false =>
   obtain ⟨h1, h2⟩ := clr_lefts hS
   exact ⟨h1, by simp only [cond_false, List.length_cons]; omega⟩
theorem lkc_next {n : Int} {S : List TValueOpen} {i : Int} {sh : TValueShape} {c : TApiCell} {σ : LkS} (hb : lefts S) (hS : (S.length : Int) ≤ i) (hN : c.fN ≤ 9223372036854775807) (h : lkc n S i sh c = .next σ) : ∃ S' sh', σ = (S'.reverse, i + 1, sh') ∧ lefts S' ∧ (S'.length : Int) ≤ i + 1 := by
 unfold lkc at h
 cases hp : pl c with
 | false => simp [hp] at h
 | true =>
  simp only [hp, Bool.not_true, cond_false] at h
  cases S with
  | nil =>
   simp only at h
   cases hn : decide (0 < c.fN) with
   | false => simp [hn] at h
   | true =>
    simp only [hn, cond_true] at h
    cases hm : decide (n < c.fN) with
    | true => simp [hm] at h
    | false =>
     simp only [hm, cond_false, Stp.next.injEq] at h
     refine ⟨[_], _, h.symm, fun x hx => ?_, by simp at hS ⊢; omega⟩
     simp only [List.mem_singleton] at hx; subst hx
     simp only [decide_eq_true_eq] at hn
     exact ⟨by simp only; omega, hN⟩
  | cons e S =>
   have he := hb e (by simp)
   have hbS : lefts S := fun x hx => hb x (by simp [hx])
   simp only [List.length_cons] at hS
   cases hk : e.fKey with
   | true =>
    simp only [hk, cond_true] at h
    cases hq : (!decide (c.fKind = 4) || (e.fStarted && (sLess c.fStr e.fLast || decide (c.fStr = e.fLast)))) with
    | true => rw [hq] at h; simp at h
    | false =>
     rw [hq] at h
     simp only [cond_false, Stp.next.injEq] at h
     refine ⟨_ :: S, _, h.symm, fun x hx => ?_, by simp only [List.length_cons]; omega⟩
     rcases List.mem_cons.1 hx with rfl | hx
     ·exact he
     ·exact hbS x hx
   | false =>
    simp only [hk, cond_false] at h
    cases hn : decide (0 < c.fN) with
    | true =>
     simp only [hn, cond_true] at h
     cases hm : decide (n < c.fN) with
     | true => simp [hm] at h
     | false =>
      simp only [hm, cond_false, Stp.next.injEq] at h
      refine ⟨_ :: e :: S, _, h.symm, fun x hx => ?_, by simp only [List.length_cons]; omega⟩
      rcases List.mem_cons.1 hx with rfl | hx
      ·simp only [decide_eq_true_eq] at hn
       exact ⟨by simp only; omega, hN⟩
      ·exact hb x hx
    | false =>
     simp only [hn, cond_false] at h
     cases hq : decide (clr (e :: S) = []) with
     | true => rw [hq] at h; simp at h
     | false =>
      rw [hq] at h
      simp only [cond_false, Stp.next.injEq] at h
      obtain ⟨h1, h2⟩ := clr_lefts hb
      simp only [List.length_cons] at h2
      exact ⟨_, _, h.symm, h1, by omega⟩
theorem look_total {F M : Nat} {v : List TApiCell} (hA : LkA F M v) : ∃ o, lop (lkB F v) F (([] : List TValueOpen), 0, (⟨0, 0, false, false⟩ : TValueShape)) = some o ∧ True := by
 refine lop_ind (fun σ => ∃ S i sh, σ = (S.reverse, i, sh) ∧ lefts S ∧ (S.length : Int) ≤ i ∧ 0 ≤ i ∧ i ≤ v.length) (fun σ => v.length - σ.2.1.toNat) (fun _ => True) (fun σ hI => ?_) F _ ⟨[], 0, _, rfl, (fun x hx => by cases hx), Int.le_refl _, Int.le_refl _, by omega⟩ (by have := hA.hv; have := hA.hF; simp; omega)
 obtain ⟨S, i, sh, rfl, hb, hS, h0, hi⟩ := hI
 by_cases hx : i < v.length
 ·obtain ⟨c, hc⟩ : ∃ c, v[i.toNat]? = some c := ⟨v[i.toNat]'(by omega), List.getElem?_eq_getElem (by omega)⟩
  have hdr : v.drop i.toNat = c :: v.drop (i.toNat + 1) := by rw [List.drop_eq_getElem_cons (by omega)]; congr 1; exact (List.getElem?_eq_some_iff.1 hc).2
  have hr := round (sh := sh) hA h0 hdr hS hb
  cases hl : lkc v.length S i sh c with
  | next τ =>
   obtain ⟨S', sh', rfl, h1, h2⟩ := lkc_next hb hS (hA.hc c (List.mem_of_getElem? hc)).2.2 hl
   exact .inl ⟨_, by rw [hr, hl], ⟨S', i + 1, sh', rfl, h1, h2, by omega, by omega⟩, by simp only; omega⟩
  | out o => exact .inr ⟨o, by rw [hr, hl], trivial⟩
 ·refine .inr ⟨.go sh, ?_, trivial⟩
  show vLook_b1 F v S.reverse i sh = _
  unfold vLook_b1
  rw [cnd_ff (by simpa using hx)]
def Fo.one : Fo → Bool
 | .cell none _ .nil => true
 | .node none _ _ .nil => true
 | _ => false
def sh0 : TValueShape := ⟨0, 0, false, false⟩
theorem look_fin {F M : Nat} {v : List TApiCell} (hA : LkA F M v) {f : Fo} (h1 : f.one = true) (hw : f.wf false none = true) {r : List TApiCell} (hv : v = f.flat ++ r) : Fin (lkB F v) ([], 0, sh0) (.ret (f.flat.length, f.sh 0 sh0, true)) := by
 have h0 : v.drop (0 : Int).toNat = f.flat ++ r := by rw [hv]; rfl
 have hlen : f.flat.length ≤ v.length := by rw [hv]; simp
 cases f with
 | nil => cases h1
 | cell k c r' =>
  cases k with
  | some s => cases h1
  | none =>
   cases r' with
   | nil =>
    simp only [Fo.wf, Bool.and_eq_true, Bool.not_eq_true'] at hw
    have := leafRound (S := []) (sh := sh0) hA (Int.le_refl 0) h0 (by simp) (fun x hx => by cases hx) rfl hw.1.1.2 hw.1.2
    unfold Done at this
    rw [if_pos (show clr [] = [] from rfl)] at this
    simpa [Fo.flat, Fo.sh, keyC, shK] using this
   | cell _ _ _ => cases h1
   | node _ _ _ _ => cases h1
 | node k c kids r' =>
  cases k with
  | some s => cases h1
  | none =>
   cases r' with
   | nil =>
    simp only [Fo.wf, Bool.and_eq_true, decide_eq_true_eq] at hw
    obtain ⟨⟨⟨⟨⟨w1, w2⟩, w3⟩, w5⟩, w6⟩, w4⟩ := hw
    have hck := cnt_le_flat kids
    simp only [Fo.flat, keyC, List.nil_append, List.append_nil, List.length_cons] at hlen
    have hvM := hA.hv; have hMM := hA.hM
    have hn := nodeRound (S := []) (sh := sh0) hA (Int.le_refl 0) h0 (by simp) (fun x hx => by cases hx) rfl w2 (by simpa using w3) (by omega)
    have hv2 := (drop_get (Int.le_refl 0) h0).2.1
    have hd := forest_look hA kids ⟨decide (c.fKind = 6), c.fN, decide (c.fKind = 6), [], false⟩ [] (0 + 1) (shc 0 sh0 c) none r (by omega) w6 rfl w5 rfl (fun _ => rfl) (by rw [hv2]; simp [Fo.flat]) (by omega) (by simp) (fun x hx => by cases hx)
    unfold Done at hd
    rw [if_pos (show clr [] = [] from rfl)] at hd
    have := hn.fin hd
    have e : ((0 : Int) + 1 + kids.flat.length) = ((Fo.node none c kids .nil).flat.length : Int) := by simp [Fo.flat, keyC]; omega
    rw [e] at this
    exact this
   | cell _ _ _ => cases h1
   | node _ _ _ _ => cases h1
theorem look_val {F M : Nat} {v : List TApiCell} (hA : LkA F M v) {f : Fo} (h1 : f.one = true) (hw : f.wf false none = true) {r : List TApiCell} (hv : v = f.flat ++ r) : vLook F v = some ((f.flat.length : Int), f.sh 0 sh0, true) := by
 obtain ⟨o, ho, _⟩ := look_total hA
 have e := (look_fin hA h1 hw hv).eq ho
 subst e
 unfold vLook
 rw [obn_s ho]; rfl
end Go.Proofs.YtkalifgebccpcaaGreatDoor

/-
 Reading values of cells: a plain reader; value.look says what it says. Plain laws.
-/
namespace Go.Proofs.YtkalifgebccpcaaGreatDoor
open Go
set_option linter.unusedVariables false
set_option linter.unusedSimpArgs false
def prsK (m : Bool) (last : Option Str) (xs : List TApiCell) : Option (Option Str × List TApiCell) :=
 bif m then match xs with
  | [] => none
  | c :: r => bif pl c && decide (c.fKind = 4) && keyOk true last (some c.fStr) then some (some c.fStr, r) else none
 else some (none, xs)
def prs : Nat → Bool → Option Str → Nat → List TApiCell → Option (Fo × List TApiCell)
 | 0, _, _, _, _ => none
 | _ + 1, _, _, 0, xs => some (.nil, xs)
 | F + 1, m, last, k + 1, xs =>
  match prsK m last xs with
  | none => none
  | some (_, []) => none
  | some (key, c :: xs') =>
   bif !pl c then none else
   bif decide (0 < c.fN) then
    match prs F (decide (c.fKind = 6)) none c.fN.toNat xs' with
    | none => none
    | some (kids, ys) => match prs F m key k ys with
     | none => none
     | some (r, zs) => some (.node key c kids r, zs)
   else match prs F m key k xs' with
    | none => none
    | some (r, zs) => some (.cell key c r, zs)
theorem pl_key {c : TApiCell} (hp : pl c = true) (hk : c.fKind = 4) : c = ⟨4, 0, c.fStr, 0⟩ ∧ c.fStr.all okc = true := by
 cases c
 simp only at hk; subst hk
 simp [pl] at hp
 obtain ⟨h1, h2, h3⟩ := hp
 subst h1; subst h2
 exact ⟨rfl, by simpa using h3⟩
theorem prsK_ok {m : Bool} {last key : Option Str} {xs r : List TApiCell} (h : prsK m last xs = some (key, r)) : xs = keyC key ++ r ∧ keyOk m last key = true := by
 unfold prsK at h
 cases m with
 | false => cases h; exact ⟨rfl, rfl⟩
 | true =>
  simp only [cond_true] at h
  cases xs with
  | nil => cases h
  | cons c r' =>
   simp only at h
   cases hb : (pl c && decide (c.fKind = 4) && keyOk true last (some c.fStr)) with
   | false => rw [hb] at h; cases h
   | true =>
    rw [hb] at h
    simp only [Bool.and_eq_true, decide_eq_true_eq] at hb
    cases h
    exact ⟨by rw [(pl_key hb.1.1 hb.1.2).1]; rfl, hb.2⟩
theorem prs_ok : ∀ (F : Nat) (m : Bool) (last : Option Str) (k : Nat) (xs : List TApiCell) (f : Fo) (ys : List TApiCell), prs F m last k xs = some (f, ys) → xs = f.flat ++ ys ∧ f.wf m last = true ∧ f.cnt = k
 | 0, _, _, _, _, _, _, h => by cases h
 | F + 1, m, last, 0, xs, f, ys, h => by cases h; exact ⟨rfl, rfl, rfl⟩
 | F + 1, m, last, k + 1, xs, f, ys, h => by
  rw [prs] at h
  cases hk : prsK m last xs with
  | none => rw [hk] at h; cases h
  | some p =>
   obtain ⟨key, r⟩ := p
   obtain ⟨h1, h2⟩ := prsK_ok hk
   rw [hk] at h
   cases r with
   | nil => cases h
   | cons c xs' =>
    simp only at h
    cases hp : pl c with
    | false => rw [hp] at h; cases h
    | true =>
     rw [hp] at h
     simp only [Bool.not_true, cond_false] at h
     cases hn : decide (0 < c.fN) with
     | true =>
      rw [hn] at h
      simp only [cond_true] at h
      cases hq : prs F (decide (c.fKind = 6)) none c.fN.toNat xs' with
      | none => rw [hq] at h; cases h
      | some q =>
       obtain ⟨kids, zs⟩ := q
       rw [hq] at h
       simp only at h
       cases hr : prs F m key k zs with
       | none => rw [hr] at h; cases h
       | some q2 =>
        obtain ⟨r2, us⟩ := q2
        rw [hr] at h; cases h
        obtain ⟨a1, a2, a3⟩ := prs_ok F _ _ _ _ _ _ hq
        obtain ⟨b1, b2, b3⟩ := prs_ok F _ _ _ _ _ _ hr
        refine ⟨by rw [h1, a1, b1]; simp [Fo.flat], ?_, by simp [Fo.cnt, b3]⟩
        simp only [decide_eq_true_eq] at hn
        simp only [Fo.wf, h2, hp, a2, b2, Bool.and_true, Bool.true_and, Bool.and_eq_true, decide_eq_true_eq]
        omega
     | false =>
      rw [hn] at h
      simp only [cond_false] at h
      cases hr : prs F m key k xs' with
      | none => rw [hr] at h; cases h
      | some q2 =>
       obtain ⟨r2, us⟩ := q2
       rw [hr] at h; cases h
       obtain ⟨b1, b2, b3⟩ := prs_ok F _ _ _ _ _ _ hr
       exact ⟨by rw [h1, b1]; simp [Fo.flat], by simp [Fo.wf, h2, hp, b2, hn], by simp [Fo.cnt, b3]⟩
theorem prs_fuel : ∀ (F F' : Nat) (m : Bool) (last : Option Str) (k : Nat) (xs : List TApiCell), xs.length < F → xs.length < F' → prs F m last k xs = prs F' m last k xs
 | 0, _, _, _, _, _, h, _ => by omega
 | _ + 1, 0, _, _, _, _, _, h => by omega
 | F + 1, F' + 1, m, last, 0, xs, _, _ => rfl
 | F + 1, F' + 1, m, last, k + 1, xs, h, h' => by
  rw [prs, prs]
  cases hk : prsK m last xs with
  | none => rfl
  | some p =>
   obtain ⟨key, r⟩ := p
   obtain ⟨h1, h2⟩ := prsK_ok hk
   cases r with
   | nil => rfl
   | cons c xs' =>
    have hl : xs'.length < xs.length := by rw [h1]; simp; omega
    simp only
    cases hp : pl c with
    | false => rfl
    | true =>
     simp only [Bool.not_true, cond_false]
     cases hn : decide (0 < c.fN) with
     | true =>
      simp only [cond_true]
      rw [prs_fuel F F' _ _ _ xs' (by omega) (by omega)]
      cases hq : prs F' (decide (c.fKind = 6)) none c.fN.toNat xs' with
      | none => rfl
      | some q =>
       obtain ⟨kids, zs⟩ := q
       have := (prs_ok _ _ _ _ _ _ _ hq).1
       have hz : zs.length ≤ xs'.length := by rw [this]; simp
       simp only
       rw [prs_fuel F F' m key k zs (by omega) (by omega)]
     | false =>
      simp only [cond_false]
      rw [prs_fuel F F' m key k xs' (by omega) (by omega)]
def Bad {S : Type} (body : S → Option (Stp S LkO)) (s : S) : Prop := ∃ sh', Fin body s (.ret (0, sh', false)) ∨ Fin body s (.go sh')
theorem Reach.bad {S : Type} {body : S → Option (Stp S LkO)} {s t : S} (h : Reach body s t) (h' : Bad body t) : Bad body s := by
 obtain ⟨sh', h' | h'⟩ := h'
 ·exact ⟨sh', .inl (h.fin h')⟩
 ·exact ⟨sh', .inr (h.fin h')⟩
section
variable {F M : Nat} {v : List TApiCell}
theorem Bad.end_ {S : List TValueOpen} {i : Int} {sh : TValueShape} (h0 : 0 ≤ i) (h : v.drop i.toNat = []) : Bad (lkB F v) (S.reverse, i, sh) := by
 refine ⟨sh, .inr (Fin.step ?_)⟩
 show vLook_b1 F v S.reverse i sh = _
 unfold vLook_b1
 rw [cnd_ff]
 have : v.length ≤ i.toNat := by simpa using h
 simp; omega
theorem Bad.pl_ (hA : LkA F M v) {S : List TValueOpen} {i : Int} {sh : TValueShape} {c : TApiCell} {r : List TApiCell} (h0 : 0 ≤ i) (h : v.drop i.toNat = c :: r) (hS : (S.length : Int) ≤ i) (hb : lefts S) (hp : pl c = false) : Bad (lkB F v) (S.reverse, i, sh) := by
 refine ⟨sh, .inl (Fin.step ?_)⟩
 rw [round hA h0 h hS hb]
 simp [lkc, hp]
theorem forest_bad (hA : LkA F M v) : ∀ (P : Nat) (k : Nat) (e : TValueOpen) (S : List TValueOpen) (i : Int) (sh : TValueShape) (last : Option Str) (xs : List TApiCell), xs.length < P → prs P e.fPairs last (k + 1) xs = none → e.fKey = e.fPairs → e.fLeft = (k : Int) + 1 → (k : Int) + 1 ≤ 9223372036854775807 → lastOk e last → (e.fPairs = false → last = none) → v.drop i.toNat = xs → 0 ≤ i → (S.length : Int) + 1 ≤ i → lefts S →
  Bad (lkB F v) ((e :: S).reverse, i, sh) := by
 intro P
 induction P with
 | zero => intro k e S i sh last xs h; omega
 | succ P ih =>
  intro k e S i sh last xs hP hn hk hl hkm hlo hm hv h0 hS hb
  have hb' : lefts (e :: S) := fun x hx => by
   rcases List.mem_cons.1 hx with rfl | hx
   ·constructor <;> omega
   ·exact hb x hx
  rw [prs] at hn
  cases hq : prsK e.fPairs last xs with
  | none =>
   unfold prsK at hq
   cases hpr : e.fPairs with
   | false => rw [hpr] at hq; cases hq
   | true =>
    rw [hpr] at hq hk
    simp only [cond_true] at hq
    cases xs with
    | nil => exact Bad.end_ h0 hv
    | cons c r =>
     simp only at hq
     cases hp : pl c with
     | false => exact Bad.pl_ hA h0 hv (by simpa using hS) hb' hp
     | true =>
      refine ⟨sh, .inl (Fin.step ?_)⟩
      rw [round hA h0 hv (by simpa using hS) hb']
      have ht : (!decide (c.fKind = 4) || (e.fStarted && (sLess c.fStr e.fLast || decide (c.fStr = e.fLast)))) = true := by
       rw [hp] at hq
       cases h4 : decide (c.fKind = 4) with
       | false => rfl
       | true =>
        rw [h4] at hq
        simp only [Bool.and_self, Bool.true_and] at hq
        have hok := (pl_key hp (by simpa using h4)).2
        cases last with
        | none => simp [keyOk, hok] at hq
        | some p =>
         obtain ⟨q1, q2⟩ := hlo
         rw [q1, q2]
         cases hc : (sLess c.fStr p || decide (c.fStr = p)) with
         | true => rfl
         | false => simp [keyOk, hok, hc] at hq
      simp only [lkc, hp, hk, ht, Bool.not_true, cond_false, cond_true]
  | some q =>
   obtain ⟨key, r⟩ := q
   obtain ⟨h1, h2⟩ := prsK_ok hq
   rw [hq] at hn
   have hkr := keyRound (sh := sh) hA h0 (by rw [hv]; exact h1) hS hb' (by rw [hk]; exact h2) hlo
   have hv1 := drop_app h0 (hv.trans h1)
   obtain ⟨kl, kp⟩ := keyed_left (e := e) key
   obtain ⟨q1, q2⟩ := keyed_last hlo hm h2
   have hbk : lefts (keyed e key :: S) := fun x hx => by
    rcases List.mem_cons.1 hx with rfl | hx
    ·rw [kl]; exact hb' e (by simp)
    ·exact hb x hx
   refine hkr.bad ?_
   cases r with
   | nil => exact Bad.end_ (by omega) hv1
   | cons c xs' =>
    have hlen : xs'.length + 1 ≤ xs.length := by rw [h1]; simp
    have hvl : xs.length ≤ v.length := by rw [← hv, List.length_drop]; omega
    have hvM := hA.hv; have hMM := hA.hM
    have hkk := keyed_key (e := e) (last := last) (k := key) (by rw [hk]; exact h2)
    simp only at hn
    have hSk : (((keyed e key :: S).length : Nat) : Int) ≤ i + (keyC key).length := by simp only [List.length_cons]; omega
    cases hp : pl c with
    | false => exact Bad.pl_ hA (by omega) hv1 hSk hbk hp
    | true =>
     rw [hp] at hn
     simp only [Bool.not_true, cond_false] at hn
     obtain ⟨g1, g2, g3⟩ := drop_get (by omega) hv1
     have hcN := (hA.hc c (List.mem_of_getElem? g1)).2.2
     -- what follows a whole value
     have more : ∀ (s : LkS) (j : Int) (sh' : TValueShape) (zs : List TApiCell), Done (lkB F v) s (keyed e key :: S) j sh' → v.drop j.toNat = zs → zs.length < P → 0 ≤ j → (S.length : Int) + 1 ≤ j → prs P e.fPairs key k zs = none → Bad (lkB F v) s := fun s j sh' zs hd hz hzl hj hSj hnone => by
      cases k with
      | zero =>
       cases P with
       | zero => omega
       | succ P => cases hnone
      | succ k =>
       have := hd.more (by rw [kl]; omega)
       refine this.bad (ih k _ S j sh' key zs hzl (by rw [kp]; exact hnone) rfl (by simp only [kl]; omega) (by omega) ?_ (by simpa using q2) hz hj hSj hb)
       cases key with
       | none => exact q1
       | some p => exact q1
     cases hN : decide (0 < c.fN) with
     | true =>
      rw [hN] at hn
      simp only [cond_true] at hn
      simp only [decide_eq_true_eq] at hN
      by_cases hbig : c.fN ≤ v.length
      ·have hnd := nodeRound (sh := shK key sh) hA (by omega) hv1 hSk hbk (by simpa [keyTop] using hkk) hp (by simpa using hN) hbig
       refine hnd.bad ?_
       cases hks : prs P (decide (c.fKind = 6)) none c.fN.toNat xs' with
       | none =>
        obtain ⟨n', hn'⟩ : ∃ n', c.fN.toNat = n' + 1 := ⟨c.fN.toNat - 1, by omega⟩
        rw [hn'] at hks
        exact ih n' _ _ _ _ none xs' (by omega) hks rfl (by simp only; omega) (by omega) rfl (fun _ => rfl) g2 (by omega) (by simp only [List.length_cons]; omega) hbk
       | some q =>
        obtain ⟨kids, zs⟩ := q
        rw [hks] at hn
        simp only at hn
        have hn2 : prs P e.fPairs key k zs = none := by
         cases hz : prs P e.fPairs key k zs with
         | none => rfl
         | some q => rw [hz] at hn; cases hn
        obtain ⟨a1, a2, a3⟩ := prs_ok _ _ _ _ _ _ _ hks
        have hd := forest_look hA kids ⟨decide (c.fKind = 6), c.fN, decide (c.fKind = 6), [], false⟩ (keyed e key :: S) (i + (keyC key).length + 1) (shc (S.length + 1) (shK key sh) c) none zs (by omega) a2 rfl (by simp only; omega) rfl (fun _ => rfl) (by rw [g2]; exact a1) (by omega) (by simp only [List.length_cons]; omega) hbk
        have hz : v.drop (i + (keyC key).length + 1 + kids.flat.length).toNat = zs := drop_app (by omega) (g2.trans a1)
        have hzl : zs.length ≤ xs'.length := by rw [a1]; simp
        exact more _ _ _ zs hd hz (by omega) (by omega) (by omega) hn2
      ·refine ⟨shc (keyed e key :: S).length (shK key sh) c, .inl (Fin.step ?_)⟩
       rw [round hA (by omega) hv1 hSk hbk]
       have hbig' : decide ((v.length : Int) < c.fN) = true := by simpa using hbig
       simp only [lkc, hp, hkk, hbig', hN, Bool.not_true, cond_false, cond_true, decide_true]
     | false =>
      rw [hN] at hn
      simp only [cond_false] at hn
      have hn2 : prs P e.fPairs key k xs' = none := by
       cases hz : prs P e.fPairs key k xs' with
       | none => rfl
       | some q => rw [hz] at hn; cases hn
      have hd := leafRound (sh := shK key sh) hA (by omega) hv1 hSk hbk (by simpa [keyTop] using hkk) hp hN
      exact more _ _ _ xs' hd g2 (by omega) (by omega) (by omega) hn2
def prs1 (xs : List TApiCell) : Option (Fo × List TApiCell) := prs (xs.length + 1) false none 1 xs
theorem prs_one {P : Nat} {xs ys : List TApiCell} {f : Fo} (h : prs P false none 1 xs = some (f, ys)) : f.one = true := by
 obtain ⟨h1, h2, h3⟩ := prs_ok _ _ _ _ _ _ _ h
 cases f with
 | nil => cases h3
 | cell k c r =>
  cases r with
  | nil =>
   cases k with
   | none => rfl
   | some s => simp [Fo.wf, keyOk] at h2
  | cell _ _ _ => simp [Fo.cnt] at h3
  | node _ _ _ _ => simp [Fo.cnt] at h3
 | node k c kids r =>
  cases r with
  | nil =>
   cases k with
   | none => rfl
   | some s => simp [Fo.wf, keyOk] at h2
  | cell _ _ _ => simp [Fo.cnt] at h3
  | node _ _ _ _ => simp [Fo.cnt] at h3
theorem look_bad0 (hA : LkA F M v) (h : prs1 v = none) : Bad (lkB F v) ([], 0, sh0) := by
 have hlf : lefts [] := fun x hx => by cases hx
 unfold prs1 at h
 rw [prs] at h
 simp only [prsK, cond_false] at h
 cases v with
 | nil => exact Bad.end_ (S := []) (Int.le_refl 0) rfl
 | cons c xs' =>
  have hv1 : (c :: xs').drop (0 : Int).toNat = c :: xs' := rfl
  have hvM := hA.hv; have hMM := hA.hM
  simp only at h
  cases hp : pl c with
  | false => exact Bad.pl_ (S := []) hA (Int.le_refl 0) hv1 (by simp) hlf hp
  | true =>
   rw [hp] at h
   simp only [Bool.not_true, cond_false] at h
   have hcN := (hA.hc c (by simp)).2.2
   cases hN : decide (0 < c.fN) with
   | true =>
    rw [hN] at h
    simp only [cond_true] at h
    simp only [decide_eq_true_eq] at hN
    by_cases hbig : c.fN ≤ (c :: xs').length
    ·have hnd := nodeRound (S := []) (sh := sh0) hA (Int.le_refl 0) hv1 (by simp) hlf rfl hp (by simpa using hN) hbig
     refine hnd.bad ?_
     cases hks : prs (c :: xs').length (decide (c.fKind = 6)) none c.fN.toNat xs' with
     | none =>
      obtain ⟨n', hn'⟩ : ∃ n', c.fN.toNat = n' + 1 := ⟨c.fN.toNat - 1, by omega⟩
      rw [hn'] at hks
      exact forest_bad hA (c :: xs').length n' ⟨decide (c.fKind = 6), c.fN, decide (c.fKind = 6), [], false⟩ [] (0 + 1) _ none xs' (by simp) hks rfl (by simp only; omega) (by omega) rfl (fun _ => rfl) rfl (by omega) (by simp) hlf
     | some q => rw [hks] at h; cases h
    ·refine ⟨shc 0 sh0 c, .inl (Fin.step ?_)⟩
     rw [show lkB F (c :: xs') (([] : List TValueOpen), 0, sh0) = _ from round (S := []) hA (Int.le_refl 0) hv1 (by simp) hlf]
     have hbig' : decide (((c :: xs').length : Int) < c.fN) = true := by simpa using hbig
     simp only [lkc, hp, hbig', hN, Bool.not_true, cond_false, cond_true, decide_true]
   | false => rw [hN] at h; cases h
theorem look_eq (hA : LkA F M v) : (∃ f ys, prs1 v = some (f, ys) ∧ vLook F v = some ((f.flat.length : Int), f.sh 0 sh0, true)) ∨ (prs1 v = none ∧ ∃ sh', vLook F v = some (0, sh', false)) := by
 cases h : prs1 v with
 | some q =>
  obtain ⟨f, ys⟩ := q
  obtain ⟨h1, h2, h3⟩ := prs_ok _ _ _ _ _ _ _ h
  exact .inl ⟨f, ys, rfl, look_val hA (prs_one h) h2 h1⟩
 | none =>
  refine .inr ⟨rfl, ?_⟩
  obtain ⟨o, ho, _⟩ := look_total hA
  obtain ⟨sh', hb | hb⟩ := look_bad0 hA h
  ·have e := hb.eq ho
   subst e
   exact ⟨sh', by unfold vLook; rw [obn_s ho]; rfl⟩
  ·have e := hb.eq ho
   subst e
   exact ⟨sh', by unfold vLook; rw [obn_s ho]; rfl⟩
end
end Go.Proofs.YtkalifgebccpcaaGreatDoor

/-
 Forests: depth, bytes, text; what value.look tells of them. Plain laws.
-/
namespace Go.Proofs.YtkalifgebccpcaaGreatDoor
open Go
set_option linter.unusedVariables false
set_option linter.unusedSimpArgs false
theorem wrap_id {x : Int} (h : -9223372036854775808 ≤ x) (h' : x ≤ 9223372036854775807) : IntKind.wrap .i64 x = x := by
 simp only [IntKind.wrap, IntKind.bits, IntKind.signed]
 simp
 omega
def Fo.dep : Fo → Nat
 | .nil => 0
 | .cell _ _ r => max 1 r.dep
 | .node _ _ kids r => max (kids.dep + 1) r.dep
theorem shK_depth (k : Option Str) (s : TValueShape) : (shK k s).fDepth = s.fDepth ∧ (shK k s).fOutside = s.fOutside ∧ (shK k s).fLong = (s.fLong || (keyC k).any fun c => decide (200 < (c.fStr.length : Int))) := by
 cases k with
 | none => simp [shK, keyC]
 | some x => simp [shK, shk, keyC]
theorem sh_depth : ∀ (f : Fo) (d : Nat) (s : TValueShape), (d : Int) ≤ s.fDepth → (f.sh d s).fDepth = max s.fDepth ((d : Int) + f.dep)
 | .nil, d, s, h => by simp only [Fo.sh, Fo.dep]; omega
 | .cell k c r, d, s, h => by
  have hk := (shK_depth k s).1
  have e : (shc d (shK k s) c).fDepth = max s.fDepth ((d : Int) + 1) := by rw [shc, hk]
  rw [Fo.sh, sh_depth r d _ (by rw [e]; omega), e, Fo.dep]; omega
 | .node k c kids r, d, s, h => by
  have hk := (shK_depth k s).1
  have e : (shc d (shK k s) c).fDepth = max s.fDepth ((d : Int) + 1) := by rw [shc, hk]
  have e2 := sh_depth kids (d + 1) (shc d (shK k s) c) (by rw [e]; omega)
  rw [e] at e2
  rw [Fo.sh, sh_depth r d _ (by rw [e2]; omega), e2, Fo.dep]; omega
def outC (c : TApiCell) : Bool := decide (c.fKind = 3) && !(decide ((-1000000000000) ≤ c.fInt) && decide (c.fInt ≤ 1000000000000))
def longC (c : TApiCell) : Bool := decide (200 < (c.fStr.length : Int))
theorem keyC_out (k : Option Str) : (keyC k).any outC = false := by cases k <;> simp [keyC, outC]
theorem sh_out : ∀ (f : Fo) (d : Nat) (s : TValueShape), (f.sh d s).fOutside = (s.fOutside || f.flat.any outC)
 | .nil, d, s => by simp [Fo.sh, Fo.flat]
 | .cell k c r, d, s => by
  rw [Fo.sh, sh_out r, shc, (shK_depth k s).2.1]
  simp only [Fo.flat, List.any_append, List.any_cons, keyC_out, Bool.false_or, Bool.or_assoc]
  rfl
 | .node k c kids r, d, s => by
  rw [Fo.sh, sh_out r, sh_out kids, shc, (shK_depth k s).2.1]
  simp only [Fo.flat, List.any_append, List.any_cons, keyC_out, Bool.false_or, Bool.or_assoc]
  rfl
theorem sh_long : ∀ (f : Fo) (d : Nat) (s : TValueShape), (f.sh d s).fLong = (s.fLong || f.flat.any longC)
 | .nil, d, s => by simp [Fo.sh, Fo.flat]
 | .cell k c r, d, s => by
  rw [Fo.sh, sh_long r, shc, (shK_depth k s).2.2]
  simp only [Fo.flat, List.any_append, List.any_cons, Bool.or_assoc]
  rfl
 | .node k c kids r, d, s => by
  rw [Fo.sh, sh_long r, sh_long kids, shc, (shK_depth k s).2.2]
  simp only [Fo.flat, List.any_append, List.any_cons, Bool.or_assoc]
  rfl
def lsz (c : TApiCell) : Int :=
 bif decide (c.fKind = 1) then 4 else bif decide (c.fKind = 2) then 5 - c.fInt else bif decide (c.fKind = 3) then ((Lib.itoa c.fInt).length : Int) else
 bif decide (c.fKind = 4) then qlen c.fStr else 2
def kbn : Option Str → Int
 | none => 0
 | some s => qlen s + 1
def Fo.byt : Fo → Int
 | .nil => 0
 | .cell k c r => kbn k + lsz c + r.byt
 | .node k c kids r => kbn k + (c.fN + 1) + kids.byt + r.byt
theorem qlen_pos (s : Str) : 2 ≤ qlen s := by unfold qlen; omega
theorem kbn_pos (k : Option Str) : 0 ≤ kbn k := by
 cases k with
 | none => exact Int.le_refl 0
 | some s => have := qlen_pos s; simp only [kbn]; omega
theorem lsz_pos {c : TApiCell} (hp : pl c = true) : 0 ≤ lsz c := by
 unfold lsz
 cases h1 : decide (c.fKind = 1) with
 | true => simp
 | false =>
  cases h2 : decide (c.fKind = 2) with
  | true =>
   simp [pl, h1, h2] at hp
   simp only [cond_false, cond_true]; omega
  | false =>
   cases h3 : decide (c.fKind = 3) with
   | true => simp
   | false =>
    cases h4 : decide (c.fKind = 4) with
    | true => have := qlen_pos c.fStr; simp only [cond_false, cond_true]; omega
    | false => simp
theorem pl_N {c : TApiCell} (hp : pl c = true) : 0 ≤ c.fN := by
 simp only [pl, ← Bool.decide_or] at hp
 cases h1 : decide (c.fKind = 1) <;> cases h2 : decide (c.fKind = 2) <;> cases h3 : decide (c.fKind = 3) <;> cases h4 : decide (c.fKind = 4) <;> cases h5 : decide (c.fKind = 5) <;> cases h6 : decide (c.fKind = 6) <;> simp [h1, h2, h3, h4, h5, h6] at hp <;> omega
theorem pl_node {c : TApiCell} (hp : pl c = true) (hn : 0 < c.fN) : (c.fKind = 5 ∨ c.fKind = 6) ∧ c.fInt = 0 ∧ c.fStr = [] := by
 cases h1 : decide (c.fKind = 1) <;> cases h2 : decide (c.fKind = 2) <;> cases h3 : decide (c.fKind = 3) <;> cases h4 : decide (c.fKind = 4) <;> cases h5 : decide (c.fKind = 5) <;> cases h6 : decide (c.fKind = 6) <;> simp [pl, h1, h2, h3, h4, h5, h6] at hp <;> (simp only [decide_eq_true_eq, decide_eq_false_iff_not] at *; first | omega | exact ⟨by omega, hp.1, hp.2.1⟩)
theorem szc_leaf {c : TApiCell} (hp : pl c = true) (hn : decide (0 < c.fN) = false) : szc c = lsz c := by
 have hN := pl_N hp
 have h0 : c.fN = 0 := by simp only [decide_eq_false_iff_not] at hn; omega
 unfold szc lsz
 rw [h0]
 cases h1 : decide (c.fKind = 1) with
 | true => rfl
 | false =>
  cases h2 : decide (c.fKind = 2) with
  | true =>
   simp [pl, h1, h2] at hp
   simp only [cond_false, cond_true]
   exact wrap_id (by omega) (by omega)
  | false => rfl
theorem szc_node {c : TApiCell} (hp : pl c = true) (hn : 0 < c.fN) (hm : c.fN ≤ 9223372036854775000) : szc c = c.fN + 1 := by
 obtain ⟨hk, _, _⟩ := pl_node hp hn
 unfold szc
 rw [decide_eq_false (by omega), decide_eq_false (by omega), decide_eq_false (by omega), decide_eq_false (by omega)]
 simp only [cond_false]
 rw [wrap_id (x := c.fN - 1) (by omega) (by omega), wrap_id (by omega) (by omega)]; omega
theorem byt_pos : ∀ {f : Fo} {m : Bool} {l : Option Str}, f.wf m l = true → 0 ≤ f.byt
 | .nil, _, _, _ => Int.le_refl 0
 | .cell k c r, m, l, h => by
  simp only [Fo.wf, Bool.and_eq_true] at h
  have h1 := byt_pos h.2; have h2 := lsz_pos h.1.1.2; have h3 := kbn_pos k
  simp only [Fo.byt]; omega
 | .node k c kids r, m, l, h => by
  simp only [Fo.wf, Bool.and_eq_true, decide_eq_true_eq] at h
  have h1 := byt_pos h.2; have h2 := byt_pos h.1.2; have h3 := kbn_pos k
  simp only [Fo.byt]; omega
theorem shK_bytes (k : Option Str) (s : TValueShape) (h0 : 0 ≤ s.fBytes) (h : s.fBytes + kbn k ≤ 9223372036854775807) : (shK k s).fBytes = s.fBytes + kbn k := by
 cases k with
 | none => simp [shK, kbn]
 | some x =>
  have := qlen_pos x
  simp only [kbn] at h
  simp only [shK, shk, kbn]
  exact wrap_id (by omega) (by omega)
theorem sh_bytes : ∀ (f : Fo) (m : Bool) (l : Option Str) (d : Nat) (s : TValueShape), f.wf m l = true → 0 ≤ s.fBytes → s.fBytes + f.byt ≤ 9223372036854775000 → (f.sh d s).fBytes = s.fBytes + f.byt
 | .nil, _, _, d, s, _, _, _ => by simp [Fo.sh, Fo.byt]
 | .cell k c r, m, l, d, s, hw, h0, h => by
  simp only [Fo.wf, Bool.and_eq_true, Bool.not_eq_true'] at hw
  obtain ⟨⟨⟨w1, w2⟩, w3⟩, w4⟩ := hw
  have h1 := byt_pos w4; have h2 := lsz_pos w2; have h3 := kbn_pos k
  simp only [Fo.byt] at h
  have e1 := shK_bytes k s h0 (by omega)
  have e : (shc d (shK k s) c).fBytes = s.fBytes + kbn k + lsz c := by
   rw [shc, e1, szc_leaf w2 w3]; exact wrap_id (by omega) (by omega)
  rw [Fo.sh, sh_bytes r _ _ d _ w4 (by rw [e]; omega) (by rw [e]; omega), e, Fo.byt]; omega
 | .node k c kids r, m, l, d, s, hw, h0, h => by
  simp only [Fo.wf, Bool.and_eq_true, decide_eq_true_eq] at hw
  obtain ⟨⟨⟨⟨⟨w1, w2⟩, w3⟩, w5⟩, w6⟩, w4⟩ := hw
  have h1 := byt_pos w4; have h2 := byt_pos w6; have h3 := kbn_pos k
  simp only [Fo.byt] at h
  have e1 := shK_bytes k s h0 (by omega)
  have e : (shc d (shK k s) c).fBytes = s.fBytes + kbn k + (c.fN + 1) := by
   rw [shc, e1, szc_node w2 w3 (by omega)]; exact wrap_id (by omega) (by omega)
  have e2 := sh_bytes kids _ _ (d + 1) (shc d (shK k s) c) w6 (by rw [e]; omega) (by rw [e]; omega)
  rw [Fo.sh, sh_bytes r _ _ d _ w4 (by rw [e2, e]; omega) (by rw [e2, e]; omega), e2, e, Fo.byt]; omega
def escS (s : Str) : Str := s.flatMap fun c => bif (decide (c = 34) || decide (c = 92)) then [92, c] else [c]
def quoS (s : Str) : Str := 34 :: (escS s ++ [34])
theorem escS_len : ∀ s : Str, (escS s).length = s.length + s.count 34 + s.count 92
 | [] => rfl
 | c :: s => by
  have ih := escS_len s
  unfold escS at ih ⊢
  rw [List.flatMap_cons, List.length_append, ih]
  by_cases h1 : c = 34
  ·subst h1; simp; omega
  ·by_cases h2 : c = 92
   ·subst h2; simp; omega
   ·simp [h1, h2, List.count_cons]; omega
theorem quoS_len (s : Str) : ((quoS s).length : Int) = qlen s := by
 simp only [quoS, List.length_cons, List.length_append, escS_len, List.length_nil, qlen]; omega
def leafT (c : TApiCell) : Str :=
 bif decide (c.fKind = 1) then [110, 117, 108, 108] else
 bif decide (c.fKind = 2) then (bif decide (c.fInt = 1) then [116, 114, 117, 101] else [102, 97, 108, 115, 101]) else
 bif decide (c.fKind = 3) then Lib.itoa c.fInt else
 bif decide (c.fKind = 4) then quoS c.fStr else
 bif decide (c.fKind = 6) then [123, 125] else [91, 93]
def ktx : Option Str → Str
 | none => []
 | some s => quoS s ++ [58]
def brk (c : TApiCell) (s : Str) : Str := bif decide (c.fKind = 6) then 123 :: (s ++ [125]) else 91 :: (s ++ [93])
def sepT (first : Bool) : Str := bif first then [] else [44]
def Fo.txt : Bool → Fo → Str
 | _, .nil => []
 | b, .cell k c r => sepT b ++ ktx k ++ leafT c ++ r.txt false
 | b, .node k c kids r => sepT b ++ ktx k ++ brk c (kids.txt true) ++ r.txt false
theorem ktx_len (k : Option Str) : ((ktx k).length : Int) = kbn k := by
 cases k with
 | none => rfl
 | some s => simp only [ktx, List.length_append, kbn, List.length_singleton]; have := quoS_len s; omega
theorem leafT_len {c : TApiCell} (hp : pl c = true) : ((leafT c).length : Int) = lsz c := by
  unfold leafT lsz
  cases h1 : decide (c.fKind = 1) with
  | true => rfl
  | false =>
    cases h2 : decide (c.fKind = 2) with
    | true =>
      simp [pl, h1, h2] at hp
      simp only [cond_false, cond_true]
      cases h7 : decide (c.fInt = 1) with
      | true => simp only [decide_eq_true_eq] at h7; simp [h7]
      | false => simp only [decide_eq_false_iff_not] at h7; have : c.fInt = 0 := by omega
                 simp [this]
    | false =>
      cases h3 : decide (c.fKind = 3) with
      | true => rfl
      | false =>
        cases h4 : decide (c.fKind = 4) with
        | true => simpa using quoS_len c.fStr
        | false => cases h6 : decide (c.fKind = 6) <;> rfl
theorem brk_len (c : TApiCell) (s : Str) : (brk c s).length = s.length + 2 := by
 unfold brk
 cases decide (c.fKind = 6) <;> simp
theorem txt_len : ∀ (f : Fo) (m : Bool) (l : Option Str) (b : Bool), f.wf m l = true → ((f.txt b).length : Int) = f.byt + (bif b then ((f.cnt - 1 : Nat) : Int) else (f.cnt : Int))
 | .nil, m, l, b, _ => by cases b <;> rfl
 | .cell k c r, m, l, b, hw => by
  simp only [Fo.wf, Bool.and_eq_true, Bool.not_eq_true'] at hw
  obtain ⟨⟨⟨w1, w2⟩, w3⟩, w4⟩ := hw
  have ih := txt_len r _ _ false w4
  have a := ktx_len k; have d := leafT_len w2
  simp only [cond_false] at ih
  cases b <;> simp only [Fo.txt, Fo.byt, Fo.cnt, sepT, cond_true, cond_false, List.length_append, List.length_nil, List.length_singleton] <;> omega
 | .node k c kids r, m, l, b, hw => by
  simp only [Fo.wf, Bool.and_eq_true, decide_eq_true_eq] at hw
  obtain ⟨⟨⟨⟨⟨w1, w2⟩, w3⟩, w5⟩, w6⟩, w4⟩ := hw
  have ih := txt_len r _ _ false w4
  have ih2 := txt_len kids _ _ true w6
  have a := ktx_len k; have d := brk_len c (kids.txt true)
  simp only [cond_false, cond_true] at ih ih2
  cases b <;> simp only [Fo.txt, Fo.byt, Fo.cnt, sepT, cond_true, cond_false, List.length_append, List.length_nil, List.length_singleton] <;> omega
def Fo.put (k : Option Str) : Fo → Fo → Fo
 | .cell _ c _, r => .cell k c r
 | .node _ c kids _, r => .node k c kids r
 | .nil, _ => .nil
theorem prs_cons (P : Nat) (m : Bool) (last : Option Str) (k : Nat) (xs : List TApiCell) : prs (P + 2) m last (k + 1) xs =
  match prsK m last xs with
  | none => none
  | some (key, ys) => match prs (P + 2) false none 1 ys with
   | none => none
   | some (f, zs) => match prs (P + 1) m key k zs with
    | none => none
    | some (r, us) => some (f.put key r, us) := by
 rw [prs]
 cases hk : prsK m last xs with
 | none => rfl
 | some p =>
  obtain ⟨key, ys⟩ := p
  simp only
  rw [prs]
  simp only [prsK, cond_false]
  cases ys with
  | nil => rfl
  | cons c ys =>
   simp only
   cases hp : pl c with
   | false => rfl
   | true =>
    simp only [Bool.not_true, cond_false]
    cases hn : decide (0 < c.fN) with
    | true =>
     simp only [cond_true]
     cases hq : prs (P + 1) (decide (c.fKind = 6)) none c.fN.toNat ys with
     | none => rfl
     | some q =>
      obtain ⟨kids, zs⟩ := q
      simp only [prs]
      cases hr : prs (P + 1) m key k zs with
      | none => rfl
      | some q => obtain ⟨a, b⟩ := q; rfl
    | false =>
     simp only [cond_false, prs]
     cases hr : prs (P + 1) m key k ys with
     | none => rfl
     | some q => obtain ⟨a, b⟩ := q; rfl
end Go.Proofs.YtkalifgebccpcaaGreatDoor
