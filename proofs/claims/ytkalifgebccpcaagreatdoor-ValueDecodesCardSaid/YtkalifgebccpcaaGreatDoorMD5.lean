/-
  Texts of the proof, put together: WVf, OkValueDecodes, LvA, LvB, LvC, LvD, LvE, LvF, LvG, LvH, LvI, LvJ, LvK, LvL, LvM, LvN.
-/
import Derived.Test.YtkalifgebccpcaaGreatDoorMD4
import GoSem.ClaimData
/-
  Walks, printed by a small program of ours (gq.py).
-/
namespace Go.Proofs.YtkalifgebccpcaaGreatDoor.Q
open Go Go.RowKit
set_option linter.unusedVariables false
set_option linter.unusedSimpArgs false
set_option maxRecDepth 100000
set_option maxHeartbeats 4000000
theorem rChecked_w (F : Nat) (v : (List TApiCell)) (r : (List TApiCell) × Int) (h : rChecked F v = some r) : Fn Tryz.prog GE 47 [rSl 4 (List.map eTApiCell v)] [] (fun R H => R = rTup [rSl 4 (List.map eTApiCell r.1), rI .i64 r.2] ∧ H = []) := by
 refine enter (n := 11) Tryz.func47 rfl Tryz.ntmps47 rfl (fun w Z => ?_)
 refine wc_as (l' := [(0, rSl 4 (List.map eTApiCell v))]) (H' := []) rfl rfl ?_
 unfold rChecked at h
 refine wc_sr ?_
 refine wv (r := rv (.slice none 0 0)) (o_assign rfl) ?_
 refine wv (r := rI .i64 0) (o_assign rfl) ?_
 refine wl_y ?_
 refine wm rfl ?_
 obtain ⟨r1, e3, h2⟩ := obn_e h
 refine wc0 Tryz.call48 (rCheck_w F v r1 e3) rfl ?_
 refine wa rfl ?_
 refine wl_x ?_
 refine wc_seq ?_
 refine wc_sr ?_
 refine wm rfl ?_
 refine wv (r := rB (!decide (r1 = 0))) (o_ne rfl rfl) ?_
 refine wl_x ?_
 refine wc_cond (b := !decide (r1 = 0)) rfl (fun c4 => ?_) (fun c4 => ?_)
 ·have h5 := cnd_t c4 h2
  refine wc_sr ?_
  refine wm rfl ?_
  refine wv (r := rv (.slice none 0 0)) (o_assign rfl) ?_
  refine wa rfl ?_
  refine wl_x ?_
  refine wc_ret ?_
  refine wk_then_ret ?_
  refine WK.up (d := 2) (r := rSl 4 (List.map eTApiCell ([] : List TApiCell))) rfl (Up.le (Rle.nil _)) ?_
  obtain rfl := some_e h5
  exact wk_ret (r_2 Tryz.results47 (rv_t rfl) (rv_t rfl)) sN ⟨rfl, rfl⟩
 ·have h6 := cnd_f c4 h2
  refine wc_skip ?_
  refine wk_x ?_
  refine wc_sr ?_
  refine wm rfl ?_
  refine wa rfl ?_
  refine wv (r := rI .i64 0) (o_assign rfl) ?_
  refine wl_x ?_
  refine wc_ret ?_
  obtain rfl := some_e h6
  exact wk_ret (r_2 Tryz.results47 (rv_t rfl) (rv_t rfl)) sN ⟨rfl, rfl⟩

theorem rNull_w  (r : (List TApiCell)) (h : rNull = some r) : Fn Tryz.prog GE 22 [] [] (fun R H => R = rSl 4 (List.map eTApiCell r) ∧ H = []) := by
 refine enter (n := 3) Tryz.func22 rfl Tryz.ntmps22 rfl (fun w Z => ?_)
 refine wc_as (l' := []) (H' := []) rfl rfl ?_
 unfold rNull at h
 refine wc_sr ?_
 refine wv (r := rv (.slice none 0 0)) (o_assign rfl) ?_
 refine wl_y ?_
 refine wv (r := rAgg [rI .i64 1, rI .i64 0, rS ([] : Str), rI .i64 0]) (o_build63_0 rfl rfl) ?_
 refine w_buildSlice (ys := ([(TApiCell.mk 1 0 ([] : Str) 0)] : List TApiCell)) (enc := eTApiCell) (css := [[rI .i64 1, rI .i64 0, rS ([] : Str), rI .i64 0]]) (xs := [.tmp 1]) Tryz.underlying23 Tryz.sizeOf63 Tryz.zeroValue63 rfl rfl rfl ⟨Cel.agg ⟨Up.refl _, Up.refl _, Up.refl _, Up.refl _, trivial⟩, trivial⟩ rfl eTApiCell_len rfl rfl rfl (fun b1 => ?_)
 refine wa rfl ?_
 refine wl_x ?_
 refine wc_ret ?_
 refine WK.freeze (i := 0) rfl ?_
 refine WK.up (d := 0) (r := rSl 4 (List.map eTApiCell ([(TApiCell.mk 1 0 ([] : Str) 0)] : List TApiCell))) rfl (Up.fact (i := 0) rfl) ?_
 obtain rfl := some_e h
 exact wk_ret (r_1 Tryz.results22 (rv_t rfl)) (sS sN) ⟨rfl, rfl⟩

theorem rBool_w (b : Bool) (r : (List TApiCell)) (h : rBool b = some r) : Fn Tryz.prog GE 24 [rB b] [] (fun R H => R = rSl 4 (List.map eTApiCell r) ∧ H = []) := by
 refine enter (n := 8) Tryz.func24 rfl Tryz.ntmps24 rfl (fun w Z => ?_)
 refine wc_as (l' := [(0, rB b)]) (H' := []) rfl rfl ?_
 unfold rBool at h
 refine wc_sr ?_
 refine wv (r := rv (.slice none 0 0)) (o_assign rfl) ?_
 refine wl_x ?_
 refine wc_seq ?_
 refine wc_sr ?_
 refine wm rfl ?_
 refine wl_x ?_
 refine wc_cond (b := b) rfl (fun c1 => ?_) (fun c1 => ?_)
 ·have h2 := cnd_t c1 h
  refine wc_sr ?_
  refine wv (r := rAgg [rI .i64 2, rI .i64 1, rS ([] : Str), rI .i64 0]) (o_build63_0_1 rfl rfl rfl rfl) ?_
  refine w_buildSlice (ys := ([(TApiCell.mk 2 1 ([] : Str) 0)] : List TApiCell)) (enc := eTApiCell) (css := [[rI .i64 2, rI .i64 1, rS ([] : Str), rI .i64 0]]) (xs := [.tmp 4]) Tryz.underlying23 Tryz.sizeOf63 Tryz.zeroValue63 rfl rfl rfl ⟨Cel.agg ⟨Up.refl _, Up.refl _, Up.refl _, Up.refl _, trivial⟩, trivial⟩ rfl eTApiCell_len rfl rfl rfl (fun b3 => ?_)
  refine wa rfl ?_
  refine wl_x ?_
  refine wc_ret ?_
  refine wk_then_ret ?_
  refine WK.freeze (i := 0) rfl ?_
  refine WK.up (d := 2) (r := rSl 4 (List.map eTApiCell ([(TApiCell.mk 2 1 ([] : Str) 0)] : List TApiCell))) rfl (Up.fact (i := 0) rfl) ?_
  obtain rfl := some_e h2
  exact wk_ret (r_1 Tryz.results24 (rv_t rfl)) (sS sN) ⟨rfl, rfl⟩
 ·have h4 := cnd_f c1 h
  refine wc_skip ?_
  refine wk_x ?_
  refine wc_sr ?_
  refine wv (r := rAgg [rI .i64 2, rI .i64 0, rS ([] : Str), rI .i64 0]) (o_build63_0 rfl rfl) ?_
  refine w_buildSlice (ys := ([(TApiCell.mk 2 0 ([] : Str) 0)] : List TApiCell)) (enc := eTApiCell) (css := [[rI .i64 2, rI .i64 0, rS ([] : Str), rI .i64 0]]) (xs := [.tmp 6]) Tryz.underlying23 Tryz.sizeOf63 Tryz.zeroValue63 rfl rfl rfl ⟨Cel.agg ⟨Up.refl _, Up.refl _, Up.refl _, Up.refl _, trivial⟩, trivial⟩ rfl eTApiCell_len rfl rfl rfl (fun b5 => ?_)
  refine wa rfl ?_
  refine wl_x ?_
  refine wc_ret ?_
  refine WK.freeze (i := 0) rfl ?_
  refine WK.up (d := 2) (r := rSl 4 (List.map eTApiCell ([(TApiCell.mk 2 0 ([] : Str) 0)] : List TApiCell))) rfl (Up.fact (i := 0) rfl) ?_
  obtain rfl := some_e h4
  exact wk_ret (r_1 Tryz.results24 (rv_t rfl)) (sS sN) ⟨rfl, rfl⟩

theorem rStarts_w (s : Str) (at_ : Int) (word : Str) (r : Bool) (h : rStarts s at_ word = some r) : Fn Tryz.prog GE 67 [rS s, rI .i64 at_, rS word] [] (fun R H => R = rB r ∧ H = []) := by
 refine enter (n := 25) Tryz.func67 rfl Tryz.ntmps67 rfl (fun w Z => ?_)
 refine wc_as (l' := [(0, rS s), (1, rI .i64 at_), (2, rS word)]) (H' := []) rfl rfl ?_
 unfold rStarts at h
 refine wc_sr ?_
 refine wv (r := rB false) (o_assign rfl) ?_
 refine wl_x ?_
 obtain ⟨g1, h2⟩ := chk_e h
 obtain ⟨g3, h4⟩ := chk_e h2
 obtain ⟨g5, h6⟩ := chk_e h4
 refine wc_seq_mid [(6, rB ((decide ((at_ + (word.length : Int)) ≤ (s.length : Int))) && (decide ((List.take (Int.toNat (at_ + (word.length : Int)) - Int.toNat at_) (List.drop (Int.toNat at_) s)) = word))))] [] ?_ ?_
 ·refine wc_region ?_
  refine wm rfl ?_
  refine wm rfl ?_
  refine wv (r := rI .i64 (word.length : Int)) (o_len_s Tryz.underlying9 rfl) ?_
  refine wv (r := rI .i64 (at_ + (word.length : Int))) (o_add rfl rfl g1) ?_
  refine wm rfl ?_
  refine wv (r := rI .i64 (s.length : Int)) (o_len_s Tryz.underlying9 rfl) ?_
  refine wv (r := rB (decide ((at_ + (word.length : Int)) ≤ (s.length : Int)))) (o_le rfl rfl) ?_
  refine wm rfl ?_
  refine bsplit (decide ((at_ + (word.length : Int)) ≤ (s.length : Int))) (fun c7 => ?_) (fun c7 => ?_)
  ·refine wl_on rfl rfl c7 ?_
   refine wm rfl ?_
   refine wl_on rfl rfl c7 ?_
   refine wm rfl ?_
   refine wl_on rfl rfl c7 ?_
   refine wm rfl ?_
   refine wl_on rfl rfl c7 ?_
   refine wm rfl ?_
   refine wl_on rfl rfl c7 ?_
   refine wv (r := rI .i64 (word.length : Int)) (o_len_s Tryz.underlying9 rfl) ?_
   refine wl_on rfl rfl c7 ?_
   refine wv (r := rI .i64 (at_ + (word.length : Int))) (o_add rfl rfl g1) ?_
   refine wl_on rfl rfl c7 ?_
   refine wv (r := rS (List.take (Int.toNat (at_ + (word.length : Int)) - Int.toNat at_) (List.drop (Int.toNat at_) s))) (o_slice_lh Tryz.underlying9 rfl rfl rfl (imp_t g3 c7) (imp_t g5 c7)) ?_
   refine wl_on rfl rfl c7 ?_
   refine wm rfl ?_
   refine wl_on rfl rfl c7 ?_
   refine wv (r := rB (decide ((List.take (Int.toNat (at_ + (word.length : Int)) - Int.toNat at_) (List.drop (Int.toNat at_) s)) = word))) (o_seq rfl rfl) ?_
   refine wpt rfl c7 rfl ?_
   refine wa rfl ?_
   refine wl_nil ?_
   exact wk_then (wk_mid (Sub.c (by first | rfl | (simp only [c7]; rfl) | simp [c7]) Sub.nil) sN)
  ·refine wl_off rfl rfl c7 rfl ?_
   refine wl_off rfl rfl c7 rfl ?_
   refine wl_off rfl rfl c7 rfl ?_
   refine wl_off rfl rfl c7 rfl ?_
   refine wl_off rfl rfl c7 rfl ?_
   refine wl_off rfl rfl c7 rfl ?_
   refine wl_off rfl rfl c7 rfl ?_
   refine wl_off rfl rfl c7 rfl ?_
   refine wl_off rfl rfl c7 rfl ?_
   refine wv (r := rB false) (o_pick_f (b := decide ((at_ + (word.length : Int)) ≤ (s.length : Int))) rfl c7 rfl) ?_
   refine wa rfl ?_
   refine wl_nil ?_
   exact wk_then (wk_mid (Sub.c (by first | rfl | (simp only [c7]; rfl) | simp [c7]) Sub.nil) sN)
 refine wc_ret ?_
 obtain rfl := some_e h6
 exact wk_ret (r_1 Tryz.results67 (rv_t rfl)) sN ⟨rfl, rfl⟩

theorem rReadString_w (F : Nat) (s : Str) (at_ : Int) (r : Str × Int) (h : rReadString F s at_ = some r) : Fn Tryz.prog GE 68 [rS s, rI .i64 at_] [] (fun R H => R = rTup [rS r.1, rI .i64 r.2] ∧ H = []) := by
 refine enter (n := 68) Tryz.func68 rfl Tryz.ntmps68 rfl (fun w Z => ?_)
 refine wc_as (l' := [(0, rS s), (1, rI .i64 at_)]) (H' := []) rfl rfl ?_
 unfold rReadString at h
 refine wc_sr ?_
 refine wv (r := rS ([] : Str)) (o_assign rfl) ?_
 refine wv (r := rI .i64 0) (o_assign rfl) ?_
 refine wl_x ?_
 refine wc_seq ?_
 obtain ⟨g1, h2⟩ := chk_e h
 refine wc_seq_mid [(0, rS s), (1, rI .i64 at_), (4, rS ([] : Str)), (5, rI .i64 0), (17, rB ((decide ((s.length : Int) ≤ at_)) || (!decide ((bat s at_) = 34))))] [] ?_ ?_
 ·refine wc_region ?_
  refine wm rfl ?_
  refine wm rfl ?_
  refine wv (r := rI .i64 (s.length : Int)) (o_len_s Tryz.underlying9 rfl) ?_
  refine wv (r := rB (decide ((s.length : Int) ≤ at_))) (o_ge rfl rfl) ?_
  refine wm rfl ?_
  refine bsplit (decide ((s.length : Int) ≤ at_)) (fun c3 => ?_) (fun c3 => ?_)
  ·refine wl_off rfl rfl c3 rfl ?_
   refine wl_off rfl rfl c3 rfl ?_
   refine wl_off rfl rfl c3 rfl ?_
   refine wl_off rfl rfl c3 rfl ?_
   refine wv (r := rB true) (o_pick_t (b := decide ((s.length : Int) ≤ at_)) rfl c3 rfl) ?_
   refine wl_nil ?_
   exact wk_then (wk_mid (Sub.c rfl (Sub.c rfl (Sub.c rfl (Sub.c rfl (Sub.c (by first | rfl | (simp only [c3]; rfl) | simp [c3]) Sub.nil))))) sN)
  ·refine wl_on rfl rfl c3 ?_
   refine wm rfl ?_
   refine wl_on rfl rfl c3 ?_
   refine wm rfl ?_
   refine wl_on rfl rfl c3 ?_
   refine wv (r := rI .u8 (bat s at_)) (o_index_b Tryz.underlying9 rfl rfl (imp_f g1 c3)) ?_
   refine wl_on rfl rfl c3 ?_
   refine wv (r := rB (!decide ((bat s at_) = 34))) (o_ne rfl rfl) ?_
   refine wpf rfl c3 rfl ?_
   refine wl_nil ?_
   exact wk_then (wk_mid (Sub.c rfl (Sub.c rfl (Sub.c rfl (Sub.c rfl (Sub.c (by first | rfl | (simp only [c3]; rfl) | simp [c3]) Sub.nil))))) sN)
 refine wc_cond (b := ((decide ((s.length : Int) ≤ at_)) || (!decide ((bat s at_) = 34)))) rfl (fun c4 => ?_) (fun c4 => ?_)
 ·have h5 := cnd_t c4 h2
  refine wc_sr ?_
  refine wv (r := rS ([] : Str)) (o_assign rfl) ?_
  refine wv (r := rI .i64 (-1)) (o_assign rfl) ?_
  refine wl_x ?_
  refine wc_ret ?_
  refine wk_then_ret ?_
  obtain rfl := some_e h5
  exact wk_ret (r_2 Tryz.results68 (rv_t rfl) (rv_t rfl)) sN ⟨rfl, rfl⟩
 ·have h6 := cnd_f c4 h2
  refine wc_skip ?_
  refine wk_x ?_
  refine wc_sr ?_
  refine wv (r := rS ([] : Str)) (o_assign rfl) ?_
  refine wl_y ?_
  refine wm rfl ?_
  obtain ⟨g7, h8⟩ := chk_e h6
  refine wv (r := rI .i64 (at_ + 1)) (o_add rfl rfl g7) ?_
  refine wa rfl ?_
  refine wl_x ?_
  refine wc_seq ?_
  refine wc_block ?_
  obtain ⟨o286, eo287, hK288⟩ := obn_e h8
  refine wc_loop2 (S := Nat × (Str × Int) × (Unit)) (V := (Str × Int) × (Unit)) 0 (fun σ => lop (fun σ => rReadString_b1 s σ.1 σ.2) σ.1 σ.2.1 = some o286) (fun σ => [(0, rS s), (4, rS ([] : Str)), (5, rI .i64 0), (6, rS σ.2.1.1), (7, rI .i64 σ.2.1.2)]) (fun σ => []) (fun σ => σ.1) (F, (([] : Str), at_ + 1), ()) eo287 (Sub.c5 rfl rfl rfl rfl rfl Sub.nil) sN (fun σ => rReadString_k1 s σ.1.1 σ.1.2 = some r) (fun σ => [(0, rS s), (4, rS ([] : Str)), (5, rI .i64 0), (6, rS σ.1.1), (7, rI .i64 σ.1.2)]) (fun σ => []) ?_ ?_
  ·rintro ⟨n294, ⟨x246, x247⟩, ⟨⟩⟩ hi292
   refine wc_as (l' := [(0, rS s), (4, rS ([] : Str)), (5, rI .i64 0), (6, rS x246), (7, rI .i64 x247)]) (H' := []) rfl rfl ?_
   obtain ⟨m291, rfl, t289, h293, ht290⟩ := lop_e hi292
   replace h293 : rReadString_b1 s x246 x247 = some t289 := h293
   unfold rReadString_b1 at h293
   refine wc_seq ?_
   obtain ⟨g295, h296⟩ := chk_e h293
   refine wc_seq_mid [(0, rS s), (4, rS ([] : Str)), (5, rI .i64 0), (6, rS x246), (7, rI .i64 x247), (20, rI .i64 x247), (21, rS s), (22, rI .i64 (s.length : Int)), (23, rB (decide (x247 < (s.length : Int)))), (24, rB (decide (x247 < (s.length : Int)))), (29, rB ((decide (x247 < (s.length : Int))) && (!decide ((bat s x247) = 34))))] [] ?_ ?_
   ·refine wc_region ?_
    refine wm rfl ?_
    refine wm rfl ?_
    refine wv (r := rI .i64 (s.length : Int)) (o_len_s Tryz.underlying9 rfl) ?_
    refine wv (r := rB (decide (x247 < (s.length : Int)))) (o_lt rfl rfl) ?_
    refine wm rfl ?_
    refine bsplit (decide (x247 < (s.length : Int))) (fun c297 => ?_) (fun c297 => ?_)
    ·refine wl_on rfl rfl c297 ?_
     refine wm rfl ?_
     refine wl_on rfl rfl c297 ?_
     refine wm rfl ?_
     refine wl_on rfl rfl c297 ?_
     refine wv (r := rI .u8 (bat s x247)) (o_index_b Tryz.underlying9 rfl rfl (imp_t g295 c297)) ?_
     refine wl_on rfl rfl c297 ?_
     refine wv (r := rB (!decide ((bat s x247) = 34))) (o_ne rfl rfl) ?_
     refine wpt rfl c297 rfl ?_
     refine wl_nil ?_
     exact wk_then (wk_mid (Sub.c5 rfl rfl rfl rfl rfl (Sub.c5 rfl rfl rfl rfl rfl (Sub.c (by first | rfl | (simp only [c297]; rfl) | simp [c297]) Sub.nil))) sN)
    ·refine wl_off rfl rfl c297 rfl ?_
     refine wl_off rfl rfl c297 rfl ?_
     refine wl_off rfl rfl c297 rfl ?_
     refine wl_off rfl rfl c297 rfl ?_
     refine wv (r := rB false) (o_pick_f (b := decide (x247 < (s.length : Int))) rfl c297 rfl) ?_
     refine wl_nil ?_
     exact wk_then (wk_mid (Sub.c5 rfl rfl rfl rfl rfl (Sub.c5 rfl rfl rfl rfl rfl (Sub.c (by first | rfl | (simp only [c297]; rfl) | simp [c297]) Sub.nil))) sN)
   refine wc_cond (b := ((decide (x247 < (s.length : Int))) && (!decide ((bat s x247) = 34)))) rfl (fun c298 => ?_) (fun c298 => ?_)
   ·have h299 := cnd_t c298 h296
    refine wc_skip ?_
    refine wk_x ?_
    refine wc_block ?_
    refine wc_seq ?_
    refine wc_sr ?_
    refine wm rfl ?_
    refine wm rfl ?_
    obtain ⟨g300, h301⟩ := chk_e h299
    refine wv (r := rI .u8 (bat s x247)) (o_index_b Tryz.underlying9 rfl rfl g300) ?_
    refine wv (r := rB (decide ((bat s x247) = 92))) (o_eq rfl rfl) ?_
    refine wl_x ?_
    refine wc_cond (b := decide ((bat s x247) = 92)) rfl (fun c302 => ?_) (fun c302 => ?_)
    ·have h303 := cnd_t c302 h301
     refine wc_sr ?_
     refine wm rfl ?_
     obtain ⟨g304, h305⟩ := chk_e h303
     refine wv (r := rI .i64 (x247 + 1)) (o_add rfl rfl g304) ?_
     refine wa rfl ?_
     refine wl_x ?_
     obtain ⟨g306, h307⟩ := chk_e h305
     refine wc_seq_mid [(0, rS s), (4, rS ([] : Str)), (5, rI .i64 0), (6, rS x246), (7, rI .i64 (x247 + 1)), (20, rI .i64 x247), (21, rS s), (22, rI .i64 (s.length : Int)), (23, rB (decide (x247 < (s.length : Int)))), (24, rB (decide (x247 < (s.length : Int)))), (29, rB ((decide (x247 < (s.length : Int))) && (!decide ((bat s x247) = 34)))), (30, rS s), (31, rI .i64 x247), (32, rI .u8 (bat s x247)), (33, rB (decide ((bat s x247) = 92))), (34, rI .i64 x247), (35, rI .i64 (x247 + 1)), (36, rI .i64 (x247 + 1)), (37, rS s), (38, rI .i64 (s.length : Int)), (39, rB (decide ((s.length : Int) ≤ (x247 + 1)))), (40, rB (decide ((s.length : Int) ≤ (x247 + 1)))), (51, rB ((decide ((s.length : Int) ≤ (x247 + 1))) || ((!decide ((bat s (x247 + 1)) = 34)) && (!decide ((bat s (x247 + 1)) = 92)))))] [] ?_ ?_
     ·refine wc_region ?_
      refine wm rfl ?_
      refine wm rfl ?_
      refine wv (r := rI .i64 (s.length : Int)) (o_len_s Tryz.underlying9 rfl) ?_
      refine wv (r := rB (decide ((s.length : Int) ≤ (x247 + 1)))) (o_ge rfl rfl) ?_
      refine wm rfl ?_
      refine bsplit (decide ((s.length : Int) ≤ (x247 + 1))) (fun c308 => ?_) (fun c308 => ?_)
      ·refine wl_off rfl rfl c308 rfl ?_
       refine wl_off rfl rfl c308 rfl ?_
       refine wl_off rfl rfl c308 rfl ?_
       refine wl_off rfl rfl c308 rfl ?_
       refine wl_off rfl rfl c308 rfl ?_
       refine wl_off_u rfl rfl rfl ?_
       refine wl_off_u rfl rfl rfl ?_
       refine wl_off_u rfl rfl rfl ?_
       refine wl_off_u rfl rfl rfl ?_
       refine wl_off rfl rfl c308 rfl ?_
       refine wv (r := rB true) (o_pick_t (b := decide ((s.length : Int) ≤ (x247 + 1))) rfl c308 rfl) ?_
       refine wl_nil ?_
       exact wk_then (wk_mid (Sub.c rfl (Sub.c rfl (Sub.c5 rfl rfl rfl rfl rfl (Sub.c5 rfl rfl rfl rfl rfl (Sub.c5 rfl rfl rfl rfl rfl (Sub.c5 rfl rfl rfl rfl rfl (Sub.c (by first | rfl | (simp only [c308]; rfl) | simp [c308]) Sub.nil))))))) sN)
      ·refine wl_on rfl rfl c308 ?_
       refine wm rfl ?_
       refine wl_on rfl rfl c308 ?_
       refine wm rfl ?_
       refine wl_on rfl rfl c308 ?_
       refine wv (r := rI .u8 (bat s (x247 + 1))) (o_index_b Tryz.underlying9 rfl rfl (imp_f g306 c308)) ?_
       refine wl_on rfl rfl c308 ?_
       refine wv (r := rB (!decide ((bat s (x247 + 1)) = 34))) (o_ne rfl rfl) ?_
       refine wl_on rfl rfl c308 ?_
       refine wm rfl ?_
       refine bsplit (!decide ((bat s (x247 + 1)) = 34)) (fun c309 => ?_) (fun c309 => ?_)
       ·refine wl_on rfl rfl c309 ?_
        refine wm rfl ?_
        refine wl_on rfl rfl c309 ?_
        refine wm rfl ?_
        refine wl_on rfl rfl c309 ?_
        refine wv (r := rI .u8 (bat s (x247 + 1))) (o_index_b Tryz.underlying9 rfl rfl (imp_f g306 c308)) ?_
        refine wl_on rfl rfl c309 ?_
        refine wv (r := rB (!decide ((bat s (x247 + 1)) = 92))) (o_ne rfl rfl) ?_
        refine wl_on rfl rfl c308 ?_
        refine wpt rfl c309 rfl ?_
        refine wpf rfl c308 rfl ?_
        refine wl_nil ?_
        exact wk_then (wk_mid (Sub.c rfl (Sub.c rfl (Sub.c5 rfl rfl rfl rfl rfl (Sub.c5 rfl rfl rfl rfl rfl (Sub.c5 rfl rfl rfl rfl rfl (Sub.c5 rfl rfl rfl rfl rfl (Sub.c (by first | rfl | (simp only [c308, c309]; rfl) | simp [c308, c309]) Sub.nil))))))) sN)
       ·refine wl_off rfl rfl c309 rfl ?_
        refine wl_off rfl rfl c309 rfl ?_
        refine wl_off rfl rfl c309 rfl ?_
        refine wl_off rfl rfl c309 rfl ?_
        refine wl_on rfl rfl c308 ?_
        refine wv (r := rB false) (o_pick_f (b := !decide ((bat s (x247 + 1)) = 34)) rfl c309 rfl) ?_
        refine wpf rfl c308 rfl ?_
        refine wl_nil ?_
        exact wk_then (wk_mid (Sub.c rfl (Sub.c rfl (Sub.c5 rfl rfl rfl rfl rfl (Sub.c5 rfl rfl rfl rfl rfl (Sub.c5 rfl rfl rfl rfl rfl (Sub.c5 rfl rfl rfl rfl rfl (Sub.c (by first | rfl | (simp only [c308, c309]; rfl) | simp [c308, c309]) Sub.nil))))))) sN)
     refine wc_cond (b := ((decide ((s.length : Int) ≤ (x247 + 1))) || ((!decide ((bat s (x247 + 1)) = 34)) && (!decide ((bat s (x247 + 1)) = 92))))) rfl (fun c310 => ?_) (fun c310 => ?_)
     ·have h311 := cnd_t c310 h307
      refine wc_sr ?_
      refine wv (r := rS ([] : Str)) (o_assign rfl) ?_
      refine wv (r := rI .i64 (-1)) (o_assign rfl) ?_
      refine wl_x ?_
      refine wc_ret ?_
      refine wk_then_ret ?_
      refine wk_in_ret ?_
      refine wk_then_ret ?_
      refine wk_cut_ret ?_
      have h312 := stp_ret h311 ht290 hK288
      refine wk_in_ret ?_
      refine wk_then_ret ?_
      obtain rfl := some_e h312
      exact wk_ret (r_2 Tryz.results68 (rv_t rfl) (rv_t rfl)) sN ⟨rfl, rfl⟩
     ·have h313 := cnd_f c310 h307
      refine wc_skip ?_
      refine wk_x ?_
      refine wc_sr ?_
      refine wm rfl ?_
      refine wm rfl ?_
      refine wm rfl ?_
      refine wm rfl ?_
      obtain ⟨g314, h315⟩ := chk_e h313
      refine wv (r := rI .i64 ((x247 + 1) + 1)) (o_add rfl rfl g314) ?_
      obtain ⟨g316, h317⟩ := chk_e h315
      obtain ⟨g318, h319⟩ := chk_e h317
      refine wv (r := rS (List.take (Int.toNat ((x247 + 1) + 1) - Int.toNat (x247 + 1)) (List.drop (Int.toNat (x247 + 1)) s))) (o_slice_lh Tryz.underlying9 rfl rfl rfl g316 g318) ?_
      obtain ⟨g320, h321⟩ := chk_e h319
      refine wv (r := rS (x246 ++ (List.take (Int.toNat ((x247 + 1) + 1) - Int.toNat (x247 + 1)) (List.drop (Int.toNat (x247 + 1)) s)))) (o_sadd rfl rfl g320) ?_
      refine wa rfl ?_
      refine wl_x ?_
      refine wc_region ?_
      refine wm rfl ?_
      refine wv (r := rI .i64 ((x247 + 1) + 1)) (o_add rfl rfl g314) ?_
      refine wa rfl ?_
      refine wl_nil ?_
      refine wk_in_norm ?_
      have h322 := stp_next h321 ht290
      exact wk_then (wk_some (m291, (x246 ++ (List.take (Int.toNat ((x247 + 1) + 1) - Int.toNat (x247 + 1)) (List.drop (Int.toNat (x247 + 1)) s)), (x247 + 1) + 1), ()) ⟨h322, Nat.lt_succ_self _⟩ (Sub.c5 rfl rfl rfl rfl rfl Sub.nil) sN)
    ·have h323 := cnd_f c302 h301
     refine wc_skip ?_
     refine wk_x ?_
     refine wc_sr ?_
     refine wm rfl ?_
     refine wm rfl ?_
     refine wm rfl ?_
     refine wm rfl ?_
     obtain ⟨g324, h325⟩ := chk_e h323
     refine wv (r := rI .i64 (x247 + 1)) (o_add rfl rfl g324) ?_
     obtain ⟨g326, h327⟩ := chk_e h325
     obtain ⟨g328, h329⟩ := chk_e h327
     refine wv (r := rS (List.take (Int.toNat (x247 + 1) - Int.toNat x247) (List.drop (Int.toNat x247) s))) (o_slice_lh Tryz.underlying9 rfl rfl rfl g326 g328) ?_
     obtain ⟨g330, h331⟩ := chk_e h329
     refine wv (r := rS (x246 ++ (List.take (Int.toNat (x247 + 1) - Int.toNat x247) (List.drop (Int.toNat x247) s)))) (o_sadd rfl rfl g330) ?_
     refine wa rfl ?_
     refine wl_x ?_
     refine wc_region ?_
     refine wm rfl ?_
     refine wv (r := rI .i64 (x247 + 1)) (o_add rfl rfl g324) ?_
     refine wa rfl ?_
     refine wl_nil ?_
     refine wk_in_norm ?_
     have h332 := stp_next h331 ht290
     exact wk_then (wk_some (m291, (x246 ++ (List.take (Int.toNat (x247 + 1) - Int.toNat x247) (List.drop (Int.toNat x247) s)), x247 + 1), ()) ⟨h332, Nat.lt_succ_self _⟩ (Sub.c5 rfl rfl rfl rfl rfl Sub.nil) sN)
   ·have h333 := cnd_f c298 h296
    refine wc_exit ?_
    refine wk_then_exit ?_
    have h334 := stp_go h333 ht290 hK288
    exact wk_then_exit (wk_cut_hit (wk_some ((x246, x247), ()) h334 (Sub.c5 rfl rfl rfl rfl rfl Sub.nil) sN))
  ·rintro ⟨⟨x284, x285⟩, ⟨⟩⟩ h335
   refine wk_as (l' := [(0, rS s), (4, rS ([] : Str)), (5, rI .i64 0), (6, rS x284), (7, rI .i64 x285)]) (H' := []) rfl rfl ?_
   replace h335 : rReadString_k1 s x284 x285 = some r := h335
   unfold rReadString_k1 at h335
   refine wk_in_hit ?_
   refine wk_x ?_
   refine wc_seq ?_
   refine wc_sr ?_
   refine wm rfl ?_
   refine wm rfl ?_
   refine wv (r := rI .i64 (s.length : Int)) (o_len_s Tryz.underlying9 rfl) ?_
   refine wv (r := rB (decide ((s.length : Int) ≤ x285))) (o_ge rfl rfl) ?_
   refine wl_x ?_
   refine wc_cond (b := decide ((s.length : Int) ≤ x285)) rfl (fun c336 => ?_) (fun c336 => ?_)
   ·have h337 := cnd_t c336 h335
    refine wc_sr ?_
    refine wv (r := rS ([] : Str)) (o_assign rfl) ?_
    refine wv (r := rI .i64 (-1)) (o_assign rfl) ?_
    refine wl_x ?_
    refine wc_ret ?_
    refine wk_then_ret ?_
    obtain rfl := some_e h337
    exact wk_ret (r_2 Tryz.results68 (rv_t rfl) (rv_t rfl)) sN ⟨rfl, rfl⟩
   ·have h338 := cnd_f c336 h335
    refine wc_skip ?_
    refine wk_x ?_
    refine wc_sr ?_
    refine wm rfl ?_
    refine wm rfl ?_
    obtain ⟨g339, h340⟩ := chk_e h338
    refine wv (r := rI .i64 (x285 + 1)) (o_add rfl rfl g339) ?_
    refine wa rfl ?_
    refine wa rfl ?_
    refine wl_x ?_
    refine wc_ret ?_
    obtain rfl := some_e h340
    exact wk_ret (r_2 Tryz.results68 (rv_t rfl) (rv_t rfl)) sN ⟨rfl, rfl⟩

theorem rReadInt_w (F : Nat) (s : Str) (at_ : Int) (r : (List TApiCell) × Int) (h : rReadInt F s at_ = some r) : Fn Tryz.prog GE 70 [rS s, rI .i64 at_] [] (fun R H => R = rTup [rSl 4 (List.map eTApiCell r.1), rI .i64 r.2] ∧ H = []) := by
 refine enter (n := 80) Tryz.func70 rfl Tryz.ntmps70 rfl (fun w Z => ?_)
 refine wc_as (l' := [(0, rS s), (1, rI .i64 at_)]) (H' := []) rfl rfl ?_
 unfold rReadInt at h
 refine wc_sr ?_
 refine wv (r := rv (.slice none 0 0)) (o_assign rfl) ?_
 refine wv (r := rI .i64 0) (o_assign rfl) ?_
 refine wl_y ?_
 refine wm rfl ?_
 refine wa rfl ?_
 refine wl_x ?_
 refine wc_seq ?_
 refine wc_sr ?_
 refine wm rfl ?_
 refine wm rfl ?_
 obtain ⟨g1, h2⟩ := chk_e h
 refine wv (r := rI .u8 (bat s at_)) (o_index_b Tryz.underlying9 rfl rfl g1) ?_
 refine wv (r := rB (decide ((bat s at_) = 45))) (o_eq rfl rfl) ?_
 refine wl_x ?_
 refine wc_cond (b := decide ((bat s at_) = 45)) rfl (fun c3 => ?_) (fun c3 => ?_)
 ·have h4 := cnd_t c3 h2
  refine wc_region ?_
  refine wm rfl ?_
  obtain ⟨g5, h6⟩ := chk_e h4
  refine wv (r := rI .i64 (at_ + 1)) (o_add rfl rfl g5) ?_
  refine wa rfl ?_
  refine wl_y ?_
  refine wm rfl ?_
  refine wa rfl ?_
  refine wl_y ?_
  refine wv (r := rI .i64 0) (o_assign rfl) ?_
  refine wl_x ?_
  refine wc_seq ?_
  refine wc_block ?_
  obtain ⟨o210, eo211, hK212⟩ := obn_e h6
  refine wc_loop2 (S := Nat × (Int × Int) × (Unit)) (V := (Int × Int) × (Unit)) 0 (fun σ => lop (fun σ => rReadInt_b1 s at_ σ.1 σ.2) σ.1 σ.2.1 = some o210) (fun σ => [(0, rS s), (1, rI .i64 at_), (4, rv (.slice none 0 0)), (5, rI .i64 0), (6, rI .i64 σ.2.1.1), (7, rI .i64 (at_ + 1)), (8, rI .i64 σ.2.1.2)]) (fun σ => []) (fun σ => σ.1) (F, (at_ + 1, 0), ()) eo211 (Sub.c rfl (Sub.c rfl (Sub.c5 rfl rfl rfl rfl rfl Sub.nil))) sN (fun σ => rReadInt_k1 s at_ σ.1.1 σ.1.2 = some r) (fun σ => [(0, rS s), (1, rI .i64 at_), (4, rv (.slice none 0 0)), (5, rI .i64 0), (6, rI .i64 σ.1.1), (7, rI .i64 (at_ + 1)), (8, rI .i64 σ.1.2)]) (fun σ => []) ?_ ?_
  ·rintro ⟨n218, ⟨x180, x181⟩, ⟨⟩⟩ hi216
   refine wc_as (l' := [(0, rS s), (1, rI .i64 at_), (4, rv (.slice none 0 0)), (5, rI .i64 0), (6, rI .i64 x180), (7, rI .i64 (at_ + 1)), (8, rI .i64 x181)]) (H' := []) rfl rfl ?_
   obtain ⟨m215, rfl, t213, h217, ht214⟩ := lop_e hi216
   replace h217 : rReadInt_b1 s at_ x180 x181 = some t213 := h217
   unfold rReadInt_b1 at h217
   refine wc_seq ?_
   obtain ⟨g219, h220⟩ := chk_e h217
   refine wc_seq_mid [(0, rS s), (1, rI .i64 at_), (4, rv (.slice none 0 0)), (5, rI .i64 0), (6, rI .i64 x180), (7, rI .i64 (at_ + 1)), (8, rI .i64 x181), (17, rI .i64 x180), (18, rS s), (19, rI .i64 (s.length : Int)), (20, rB (decide (x180 < (s.length : Int)))), (21, rB (decide (x180 < (s.length : Int)))), (26, rB ((decide (x180 < (s.length : Int))) && (decide (48 ≤ (bat s x180))))), (27, rB ((decide (x180 < (s.length : Int))) && (decide (48 ≤ (bat s x180))))), (32, rB ((decide (x180 < (s.length : Int))) && ((decide (48 ≤ (bat s x180))) && (decide ((bat s x180) ≤ 57)))))] [] ?_ ?_
   ·refine wc_region ?_
    refine wm rfl ?_
    refine wm rfl ?_
    refine wv (r := rI .i64 (s.length : Int)) (o_len_s Tryz.underlying9 rfl) ?_
    refine wv (r := rB (decide (x180 < (s.length : Int)))) (o_lt rfl rfl) ?_
    refine wm rfl ?_
    refine bsplit (decide (x180 < (s.length : Int))) (fun c221 => ?_) (fun c221 => ?_)
    ·refine wl_on rfl rfl c221 ?_
     refine wm rfl ?_
     refine wl_on rfl rfl c221 ?_
     refine wm rfl ?_
     refine wl_on rfl rfl c221 ?_
     refine wv (r := rI .u8 (bat s x180)) (o_index_b Tryz.underlying9 rfl rfl (imp_t g219 c221)) ?_
     refine wl_on rfl rfl c221 ?_
     refine wv (r := rB (decide (48 ≤ (bat s x180)))) (o_ge rfl rfl) ?_
     refine wpt rfl c221 rfl ?_
     refine wm rfl ?_
     refine bsplit (decide (48 ≤ (bat s x180))) (fun c222 => ?_) (fun c222 => ?_)
     ·refine wl_on rfl rfl c222 ?_
      refine wm rfl ?_
      refine wl_on rfl rfl c222 ?_
      refine wm rfl ?_
      refine wl_on rfl rfl c222 ?_
      refine wv (r := rI .u8 (bat s x180)) (o_index_b Tryz.underlying9 rfl rfl (imp_t g219 c221)) ?_
      refine wl_on rfl rfl c222 ?_
      refine wv (r := rB (decide ((bat s x180) ≤ 57))) (o_le rfl rfl) ?_
      refine wpt rfl c222 rfl ?_
      refine wl_nil ?_
      exact wk_then (wk_mid (Sub.c rfl (Sub.c rfl (Sub.c5 rfl rfl rfl rfl rfl (Sub.c5 rfl rfl rfl rfl rfl (Sub.c (by first | rfl | (simp only [c221, c222]; rfl) | simp [c221, c222]) (Sub.c (by first | rfl | (simp only [c221, c222]; rfl) | simp [c221, c222]) (Sub.c (by first | rfl | (simp only [c221, c222]; rfl) | simp [c221, c222]) Sub.nil))))))) sN)
     ·refine wl_off rfl rfl c222 rfl ?_
      refine wl_off rfl rfl c222 rfl ?_
      refine wl_off rfl rfl c222 rfl ?_
      refine wl_off rfl rfl c222 rfl ?_
      refine wv (r := rB false) (o_pick_f (b := decide (48 ≤ (bat s x180))) rfl c222 rfl) ?_
      refine wl_nil ?_
      exact wk_then (wk_mid (Sub.c rfl (Sub.c rfl (Sub.c5 rfl rfl rfl rfl rfl (Sub.c5 rfl rfl rfl rfl rfl (Sub.c (by first | rfl | (simp only [c221, c222]; rfl) | simp [c221, c222]) (Sub.c (by first | rfl | (simp only [c221, c222]; rfl) | simp [c221, c222]) (Sub.c (by first | rfl | (simp only [c221, c222]; rfl) | simp [c221, c222]) Sub.nil))))))) sN)
    ·refine wl_off rfl rfl c221 rfl ?_
     refine wl_off rfl rfl c221 rfl ?_
     refine wl_off rfl rfl c221 rfl ?_
     refine wl_off rfl rfl c221 rfl ?_
     refine wv (r := rB false) (o_pick_f (b := decide (x180 < (s.length : Int))) rfl c221 rfl) ?_
     refine wm rfl ?_
     refine wl_off (b := false) rfl rfl rfl rfl ?_
     refine wl_off (b := false) rfl rfl rfl rfl ?_
     refine wl_off (b := false) rfl rfl rfl rfl ?_
     refine wl_off (b := false) rfl rfl rfl rfl ?_
     refine wv (r := rB false) (o_pick_f (b := false) rfl rfl rfl) ?_
     refine wl_nil ?_
     exact wk_then (wk_mid (Sub.c rfl (Sub.c rfl (Sub.c5 rfl rfl rfl rfl rfl (Sub.c5 rfl rfl rfl rfl rfl (Sub.c (by first | rfl | (simp only [c221]; rfl) | simp [c221]) (Sub.c (by first | rfl | (simp only [c221]; rfl) | simp [c221]) (Sub.c (by first | rfl | (simp only [c221]; rfl) | simp [c221]) Sub.nil))))))) sN)
   refine wc_cond (b := ((decide (x180 < (s.length : Int))) && ((decide (48 ≤ (bat s x180))) && (decide ((bat s x180) ≤ 57))))) rfl (fun c223 => ?_) (fun c223 => ?_)
   ·have h224 := cnd_t c223 h220
    refine wc_skip ?_
    refine wk_x ?_
    refine wc_block ?_
    refine wc_seq ?_
    refine wc_sr ?_
    refine wm rfl ?_
    refine wm rfl ?_
    obtain ⟨g225, h226⟩ := chk_e h224
    refine wv (r := rI .i64 (x180 - (at_ + 1))) (o_sub rfl rfl g225) ?_
    refine wv (r := rB (decide ((x180 - (at_ + 1)) < 18))) (o_lt rfl rfl) ?_
    refine wl_x ?_
    refine wc_cond (b := decide ((x180 - (at_ + 1)) < 18)) rfl (fun c227 => ?_) (fun c227 => ?_)
    ·have h228 := cnd_t c227 h226
     refine wc_region ?_
     refine wm rfl ?_
     obtain ⟨g229, h230⟩ := chk_e h228
     refine wv (r := rI .i64 (10 * x181)) (o_mul rfl rfl g229) ?_
     refine wm rfl ?_
     refine wm rfl ?_
     obtain ⟨g231, h232⟩ := chk_e h230
     refine wv (r := rI .u8 (bat s x180)) (o_index_b Tryz.underlying9 rfl rfl g231) ?_
     obtain ⟨g233, h234⟩ := chk_e h232
     refine wv (r := rI .u8 ((bat s x180) - 48)) (o_sub rfl rfl g233) ?_
     obtain ⟨g235, h236⟩ := chk_e h234
     refine wv (r := rI .i64 ((bat s x180) - 48)) (o_conv_int ⟨_, Tryz.underlying5⟩ Tryz.underlying3 rfl g235) ?_
     obtain ⟨g237, h238⟩ := chk_e h236
     refine wv (r := rI .i64 ((10 * x181) + ((bat s x180) - 48))) (o_add rfl rfl g237) ?_
     refine wa rfl ?_
     refine wl_x ?_
     refine wc_region ?_
     refine wm rfl ?_
     obtain ⟨g239, h240⟩ := chk_e h238
     refine wv (r := rI .i64 (x180 + 1)) (o_add rfl rfl g239) ?_
     refine wa rfl ?_
     refine wl_nil ?_
     refine wk_in_norm ?_
     have h241 := stp_next h240 ht214
     exact wk_then (wk_some (m215, (x180 + 1, (10 * x181) + ((bat s x180) - 48)), ()) ⟨h241, Nat.lt_succ_self _⟩ (Sub.c rfl (Sub.c rfl (Sub.c5 rfl rfl rfl rfl rfl Sub.nil))) sN)
    ·have h242 := cnd_f c227 h226
     refine wc_skip ?_
     refine wk_x ?_
     refine wc_region ?_
     refine wm rfl ?_
     obtain ⟨g243, h244⟩ := chk_e h242
     refine wv (r := rI .i64 (x180 + 1)) (o_add rfl rfl g243) ?_
     refine wa rfl ?_
     refine wl_nil ?_
     refine wk_in_norm ?_
     have h245 := stp_next h244 ht214
     exact wk_then (wk_some (m215, (x180 + 1, x181), ()) ⟨h245, Nat.lt_succ_self _⟩ (Sub.c rfl (Sub.c rfl (Sub.c5 rfl rfl rfl rfl rfl Sub.nil))) sN)
   ·have h246 := cnd_f c223 h220
    refine wc_exit ?_
    refine wk_then_exit ?_
    have h247 := stp_go h246 ht214 hK212
    exact wk_then_exit (wk_cut_hit (wk_some ((x180, x181), ()) h247 (Sub.c rfl (Sub.c rfl (Sub.c5 rfl rfl rfl rfl rfl Sub.nil))) sN))
  ·rintro ⟨⟨x208, x209⟩, ⟨⟩⟩ h248
   refine wk_as (l' := [(0, rS s), (1, rI .i64 at_), (4, rv (.slice none 0 0)), (5, rI .i64 0), (6, rI .i64 x208), (7, rI .i64 (at_ + 1)), (8, rI .i64 x209)]) (H' := []) rfl rfl ?_
   replace h248 : rReadInt_k1 s at_ x208 x209 = some r := h248
   unfold rReadInt_k1 at h248
   refine wk_in_hit ?_
   refine wk_x ?_
   refine wc_seq ?_
   obtain ⟨g249, h250⟩ := chk_e h248
   obtain ⟨g251, h252⟩ := chk_e h250
   refine wc_seq_mid [(1, rI .i64 at_), (4, rv (.slice none 0 0)), (5, rI .i64 0), (6, rI .i64 x208), (7, rI .i64 (at_ + 1)), (8, rI .i64 x209), (66, rB ((decide (x208 = (at_ + 1))) || ((decide ((bat s (at_ + 1)) = 48)) && ((decide (((at_ + 1) + 1) < x208)) || (decide (at_ < (at_ + 1)))))))] [] ?_ ?_
   ·refine wc_region ?_
    refine wm rfl ?_
    refine wm rfl ?_
    refine wv (r := rB (decide (x208 = (at_ + 1)))) (o_eq rfl rfl) ?_
    refine wm rfl ?_
    refine bsplit (decide (x208 = (at_ + 1))) (fun c253 => ?_) (fun c253 => ?_)
    ·refine wl_off rfl rfl c253 rfl ?_
     refine wl_off rfl rfl c253 rfl ?_
     refine wl_off rfl rfl c253 rfl ?_
     refine wl_off rfl rfl c253 rfl ?_
     refine wl_off rfl rfl c253 rfl ?_
     refine wl_off_u rfl rfl rfl ?_
     refine wl_off_u rfl rfl rfl ?_
     refine wl_off_u rfl rfl rfl ?_
     refine wl_off_u rfl rfl rfl ?_
     refine wl_off_u rfl rfl rfl ?_
     refine wl_off_u rfl rfl rfl ?_
     refine wl_off_u rfl rfl rfl ?_
     refine wl_off_u rfl rfl rfl ?_
     refine wl_off_u rfl rfl rfl ?_
     refine wl_off rfl rfl c253 rfl ?_
     refine wv (r := rB true) (o_pick_t (b := decide (x208 = (at_ + 1))) rfl c253 rfl) ?_
     refine wl_nil ?_
     exact wk_then (wk_mid (Sub.c rfl (Sub.c5 rfl rfl rfl rfl rfl (Sub.c (by first | rfl | (simp only [c253]; rfl) | simp [c253]) Sub.nil))) sN)
    ·refine wl_on rfl rfl c253 ?_
     refine wm rfl ?_
     refine wl_on rfl rfl c253 ?_
     refine wm rfl ?_
     refine wl_on rfl rfl c253 ?_
     refine wv (r := rI .u8 (bat s (at_ + 1))) (o_index_b Tryz.underlying9 rfl rfl (imp_f g249 c253)) ?_
     refine wl_on rfl rfl c253 ?_
     refine wv (r := rB (decide ((bat s (at_ + 1)) = 48))) (o_eq rfl rfl) ?_
     refine wl_on rfl rfl c253 ?_
     refine wm rfl ?_
     refine bsplit (decide ((bat s (at_ + 1)) = 48)) (fun c254 => ?_) (fun c254 => ?_)
     ·refine wl_on rfl rfl c254 ?_
      refine wm rfl ?_
      refine wl_on rfl rfl c254 ?_
      refine wm rfl ?_
      refine wl_on rfl rfl c254 ?_
      refine wv (r := rI .i64 ((at_ + 1) + 1)) (o_add rfl rfl (imp_t (imp_f g251 c253) c254)) ?_
      refine wl_on rfl rfl c254 ?_
      refine wv (r := rB (decide (((at_ + 1) + 1) < x208))) (o_gt rfl rfl) ?_
      refine wl_on rfl rfl c254 ?_
      refine wm rfl ?_
      refine bsplit (decide (((at_ + 1) + 1) < x208)) (fun c255 => ?_) (fun c255 => ?_)
      ·refine wl_off rfl rfl c255 rfl ?_
       refine wl_off rfl rfl c255 rfl ?_
       refine wl_off rfl rfl c255 rfl ?_
       refine wl_on rfl rfl c254 ?_
       refine wv (r := rB true) (o_pick_t (b := decide (((at_ + 1) + 1) < x208)) rfl c255 rfl) ?_
       refine wl_on rfl rfl c253 ?_
       refine wpt rfl c254 rfl ?_
       refine wpf rfl c253 rfl ?_
       refine wl_nil ?_
       exact wk_then (wk_mid (Sub.c rfl (Sub.c5 rfl rfl rfl rfl rfl (Sub.c (by first | rfl | (simp only [c253, c254, c255]; rfl) | simp [c253, c254, c255]) Sub.nil))) sN)
      ·refine wl_on rfl rfl c255 ?_
       refine wm rfl ?_
       refine wl_on rfl rfl c255 ?_
       refine wm rfl ?_
       refine wl_on rfl rfl c255 ?_
       refine wv (r := rB (decide (at_ < (at_ + 1)))) (o_gt rfl rfl) ?_
       refine wl_on rfl rfl c254 ?_
       refine wpf rfl c255 rfl ?_
       refine wl_on rfl rfl c253 ?_
       refine wpt rfl c254 rfl ?_
       refine wpf rfl c253 rfl ?_
       refine wl_nil ?_
       exact wk_then (wk_mid (Sub.c rfl (Sub.c5 rfl rfl rfl rfl rfl (Sub.c (by first | rfl | (simp only [c253, c254, c255]; rfl) | simp [c253, c254, c255]) Sub.nil))) sN)
     ·refine wl_off rfl rfl c254 rfl ?_
      refine wl_off rfl rfl c254 rfl ?_
      refine wl_off rfl rfl c254 rfl ?_
      refine wl_off rfl rfl c254 rfl ?_
      refine wl_off rfl rfl c254 rfl ?_
      refine wl_off_u rfl rfl rfl ?_
      refine wl_off_u rfl rfl rfl ?_
      refine wl_off_u rfl rfl rfl ?_
      refine wl_off rfl rfl c254 rfl ?_
      refine wl_on rfl rfl c253 ?_
      refine wv (r := rB false) (o_pick_f (b := decide ((bat s (at_ + 1)) = 48)) rfl c254 rfl) ?_
      refine wpf rfl c253 rfl ?_
      refine wl_nil ?_
      exact wk_then (wk_mid (Sub.c rfl (Sub.c5 rfl rfl rfl rfl rfl (Sub.c (by first | rfl | (simp only [c253, c254]; rfl) | simp [c253, c254]) Sub.nil))) sN)
   refine wc_cond (b := ((decide (x208 = (at_ + 1))) || ((decide ((bat s (at_ + 1)) = 48)) && ((decide (((at_ + 1) + 1) < x208)) || (decide (at_ < (at_ + 1))))))) rfl (fun c256 => ?_) (fun c256 => ?_)
   ·have h257 := cnd_t c256 h252
    refine wc_sr ?_
    refine wv (r := rv (.slice none 0 0)) (o_assign rfl) ?_
    refine wv (r := rI .i64 (-1)) (o_assign rfl) ?_
    refine wl_x ?_
    refine wc_ret ?_
    refine wk_then_ret ?_
    refine WK.up (d := 4) (r := rSl 4 (List.map eTApiCell ([] : List TApiCell))) rfl (Up.le (Rle.nil _)) ?_
    obtain rfl := some_e h257
    exact wk_ret (r_2 Tryz.results70 (rv_t rfl) (rv_t rfl)) sN ⟨rfl, rfl⟩
   ·have h258 := cnd_f c256 h252
    refine wc_skip ?_
    refine wk_x ?_
    refine wc_seq ?_
    refine wc_sr ?_
    refine wm rfl ?_
    refine wm rfl ?_
    obtain ⟨g259, h260⟩ := chk_e h258
    refine wv (r := rI .i64 (x208 - (at_ + 1))) (o_sub rfl rfl g259) ?_
    refine wv (r := rB (decide (18 < (x208 - (at_ + 1))))) (o_gt rfl rfl) ?_
    refine wl_x ?_
    refine wc_cond (b := decide (18 < (x208 - (at_ + 1)))) rfl (fun c261 => ?_) (fun c261 => ?_)
    ·have h262 := cnd_t c261 h260
     refine wc_region ?_
     refine wv (r := rI .i64 2000000000000) (o_assign rfl) ?_
     refine wl_x ?_
     refine wc_seq ?_
     refine wc_sr ?_
     refine wm rfl ?_
     refine wm rfl ?_
     refine wv (r := rB (decide (at_ < (at_ + 1)))) (o_gt rfl rfl) ?_
     refine wl_x ?_
     refine wc_cond (b := decide (at_ < (at_ + 1))) rfl (fun c263 => ?_) (fun c263 => ?_)
     ·have h264 := cnd_t c263 h262
      refine wc_region ?_
      refine wm rfl ?_
      obtain ⟨g265, h266⟩ := chk_e h264
      refine wv (r := rI .i64 (-2000000000000)) (o_neg rfl g265) ?_
      refine wa rfl ?_
      refine wl_y ?_
      refine wm rfl ?_
      refine wv (r := rAgg [rI .i64 3, rI .i64 (-2000000000000), rS ([] : Str), rI .i64 0]) (o_build63_0_1 rfl rfl rfl rfl) ?_
      refine w_buildSlice (ys := ([(TApiCell.mk 3 (-2000000000000) ([] : Str) 0)] : List TApiCell)) (enc := eTApiCell) (css := [[rI .i64 3, rI .i64 (-2000000000000), rS ([] : Str), rI .i64 0]]) (xs := [.tmp 77]) Tryz.underlying23 Tryz.sizeOf63 Tryz.zeroValue63 rfl rfl rfl ⟨Cel.agg ⟨Up.refl _, Up.refl _, Up.refl _, Up.refl _, trivial⟩, trivial⟩ rfl eTApiCell_len rfl rfl rfl (fun b267 => ?_)
      refine wm rfl ?_
      refine wa rfl ?_
      refine wa rfl ?_
      refine wl_x ?_
      refine wc_ret ?_
      refine WK.freeze (i := 0) rfl ?_
      refine WK.up (d := 4) (r := rSl 4 (List.map eTApiCell ([(TApiCell.mk 3 (-2000000000000) ([] : Str) 0)] : List TApiCell))) rfl (Up.fact (i := 0) rfl) ?_
      obtain rfl := some_e h266
      exact wk_ret (r_2 Tryz.results70 (rv_t rfl) (rv_t rfl)) (sS sN) ⟨rfl, rfl⟩
     ·have h268 := cnd_f c263 h262
      refine wc_skip ?_
      refine wk_x ?_
      refine wc_sr ?_
      refine wm rfl ?_
      refine wv (r := rAgg [rI .i64 3, rI .i64 2000000000000, rS ([] : Str), rI .i64 0]) (o_build63_0_1 rfl rfl rfl rfl) ?_
      refine w_buildSlice (ys := ([(TApiCell.mk 3 2000000000000 ([] : Str) 0)] : List TApiCell)) (enc := eTApiCell) (css := [[rI .i64 3, rI .i64 2000000000000, rS ([] : Str), rI .i64 0]]) (xs := [.tmp 77]) Tryz.underlying23 Tryz.sizeOf63 Tryz.zeroValue63 rfl rfl rfl ⟨Cel.agg ⟨Up.refl _, Up.refl _, Up.refl _, Up.refl _, trivial⟩, trivial⟩ rfl eTApiCell_len rfl rfl rfl (fun b269 => ?_)
      refine wm rfl ?_
      refine wa rfl ?_
      refine wa rfl ?_
      refine wl_x ?_
      refine wc_ret ?_
      refine WK.freeze (i := 0) rfl ?_
      refine WK.up (d := 4) (r := rSl 4 (List.map eTApiCell ([(TApiCell.mk 3 2000000000000 ([] : Str) 0)] : List TApiCell))) rfl (Up.fact (i := 0) rfl) ?_
      obtain rfl := some_e h268
      exact wk_ret (r_2 Tryz.results70 (rv_t rfl) (rv_t rfl)) (sS sN) ⟨rfl, rfl⟩
    ·have h270 := cnd_f c261 h260
     refine wc_skip ?_
     refine wk_x ?_
     refine wc_seq ?_
     refine wc_sr ?_
     refine wm rfl ?_
     refine wm rfl ?_
     refine wv (r := rB (decide (at_ < (at_ + 1)))) (o_gt rfl rfl) ?_
     refine wl_x ?_
     refine wc_cond (b := decide (at_ < (at_ + 1))) rfl (fun c271 => ?_) (fun c271 => ?_)
     ·have h272 := cnd_t c271 h270
      refine wc_region ?_
      refine wm rfl ?_
      obtain ⟨g273, h274⟩ := chk_e h272
      refine wv (r := rI .i64 (-x209)) (o_neg rfl g273) ?_
      refine wa rfl ?_
      refine wl_y ?_
      refine wm rfl ?_
      refine wv (r := rAgg [rI .i64 3, rI .i64 (-x209), rS ([] : Str), rI .i64 0]) (o_build63_0_1 rfl rfl rfl rfl) ?_
      refine w_buildSlice (ys := ([(TApiCell.mk 3 (-x209) ([] : Str) 0)] : List TApiCell)) (enc := eTApiCell) (css := [[rI .i64 3, rI .i64 (-x209), rS ([] : Str), rI .i64 0]]) (xs := [.tmp 77]) Tryz.underlying23 Tryz.sizeOf63 Tryz.zeroValue63 rfl rfl rfl ⟨Cel.agg ⟨Up.refl _, Up.refl _, Up.refl _, Up.refl _, trivial⟩, trivial⟩ rfl eTApiCell_len rfl rfl rfl (fun b275 => ?_)
      refine wm rfl ?_
      refine wa rfl ?_
      refine wa rfl ?_
      refine wl_x ?_
      refine wc_ret ?_
      refine WK.freeze (i := 0) rfl ?_
      refine WK.up (d := 4) (r := rSl 4 (List.map eTApiCell ([(TApiCell.mk 3 (-x209) ([] : Str) 0)] : List TApiCell))) rfl (Up.fact (i := 0) rfl) ?_
      obtain rfl := some_e h274
      exact wk_ret (r_2 Tryz.results70 (rv_t rfl) (rv_t rfl)) (sS sN) ⟨rfl, rfl⟩
     ·have h276 := cnd_f c271 h270
      refine wc_skip ?_
      refine wk_x ?_
      refine wc_sr ?_
      refine wm rfl ?_
      refine wv (r := rAgg [rI .i64 3, rI .i64 x209, rS ([] : Str), rI .i64 0]) (o_build63_0_1 rfl rfl rfl rfl) ?_
      refine w_buildSlice (ys := ([(TApiCell.mk 3 x209 ([] : Str) 0)] : List TApiCell)) (enc := eTApiCell) (css := [[rI .i64 3, rI .i64 x209, rS ([] : Str), rI .i64 0]]) (xs := [.tmp 77]) Tryz.underlying23 Tryz.sizeOf63 Tryz.zeroValue63 rfl rfl rfl ⟨Cel.agg ⟨Up.refl _, Up.refl _, Up.refl _, Up.refl _, trivial⟩, trivial⟩ rfl eTApiCell_len rfl rfl rfl (fun b277 => ?_)
      refine wm rfl ?_
      refine wa rfl ?_
      refine wa rfl ?_
      refine wl_x ?_
      refine wc_ret ?_
      refine WK.freeze (i := 0) rfl ?_
      refine WK.up (d := 4) (r := rSl 4 (List.map eTApiCell ([(TApiCell.mk 3 x209 ([] : Str) 0)] : List TApiCell))) rfl (Up.fact (i := 0) rfl) ?_
      obtain rfl := some_e h276
      exact wk_ret (r_2 Tryz.results70 (rv_t rfl) (rv_t rfl)) (sS sN) ⟨rfl, rfl⟩
 ·have h278 := cnd_f c3 h2
  refine wc_skip ?_
  refine wk_x ?_
  refine wc_sr ?_
  refine wm rfl ?_
  refine wa rfl ?_
  refine wl_y ?_
  refine wv (r := rI .i64 0) (o_assign rfl) ?_
  refine wl_x ?_
  refine wc_seq ?_
  refine wc_block ?_
  obtain ⟨o474, eo475, hK476⟩ := obn_e h278
  refine wc_loop2 (S := Nat × (Int × Int) × (Unit)) (V := (Int × Int) × (Unit)) 0 (fun σ => lop (fun σ => rReadInt_b2 s at_ σ.1 σ.2) σ.1 σ.2.1 = some o474) (fun σ => [(0, rS s), (1, rI .i64 at_), (4, rv (.slice none 0 0)), (5, rI .i64 0), (6, rI .i64 σ.2.1.1), (7, rI .i64 at_), (8, rI .i64 σ.2.1.2)]) (fun σ => []) (fun σ => σ.1) (F, (at_, 0), ()) eo475 (Sub.c rfl (Sub.c rfl (Sub.c5 rfl rfl rfl rfl rfl Sub.nil))) sN (fun σ => rReadInt_k2 s at_ σ.1.1 σ.1.2 = some r) (fun σ => [(0, rS s), (1, rI .i64 at_), (4, rv (.slice none 0 0)), (5, rI .i64 0), (6, rI .i64 σ.1.1), (7, rI .i64 at_), (8, rI .i64 σ.1.2)]) (fun σ => []) ?_ ?_
  ·rintro ⟨n482, ⟨x444, x445⟩, ⟨⟩⟩ hi480
   refine wc_as (l' := [(0, rS s), (1, rI .i64 at_), (4, rv (.slice none 0 0)), (5, rI .i64 0), (6, rI .i64 x444), (7, rI .i64 at_), (8, rI .i64 x445)]) (H' := []) rfl rfl ?_
   obtain ⟨m479, rfl, t477, h481, ht478⟩ := lop_e hi480
   replace h481 : rReadInt_b2 s at_ x444 x445 = some t477 := h481
   unfold rReadInt_b2 at h481
   refine wc_seq ?_
   obtain ⟨g483, h484⟩ := chk_e h481
   refine wc_seq_mid [(0, rS s), (1, rI .i64 at_), (4, rv (.slice none 0 0)), (5, rI .i64 0), (6, rI .i64 x444), (7, rI .i64 at_), (8, rI .i64 x445), (17, rI .i64 x444), (18, rS s), (19, rI .i64 (s.length : Int)), (20, rB (decide (x444 < (s.length : Int)))), (21, rB (decide (x444 < (s.length : Int)))), (26, rB ((decide (x444 < (s.length : Int))) && (decide (48 ≤ (bat s x444))))), (27, rB ((decide (x444 < (s.length : Int))) && (decide (48 ≤ (bat s x444))))), (32, rB ((decide (x444 < (s.length : Int))) && ((decide (48 ≤ (bat s x444))) && (decide ((bat s x444) ≤ 57)))))] [] ?_ ?_
   ·refine wc_region ?_
    refine wm rfl ?_
    refine wm rfl ?_
    refine wv (r := rI .i64 (s.length : Int)) (o_len_s Tryz.underlying9 rfl) ?_
    refine wv (r := rB (decide (x444 < (s.length : Int)))) (o_lt rfl rfl) ?_
    refine wm rfl ?_
    refine bsplit (decide (x444 < (s.length : Int))) (fun c485 => ?_) (fun c485 => ?_)
    ·refine wl_on rfl rfl c485 ?_
     refine wm rfl ?_
     refine wl_on rfl rfl c485 ?_
     refine wm rfl ?_
     refine wl_on rfl rfl c485 ?_
     refine wv (r := rI .u8 (bat s x444)) (o_index_b Tryz.underlying9 rfl rfl (imp_t g483 c485)) ?_
     refine wl_on rfl rfl c485 ?_
     refine wv (r := rB (decide (48 ≤ (bat s x444)))) (o_ge rfl rfl) ?_
     refine wpt rfl c485 rfl ?_
     refine wm rfl ?_
     refine bsplit (decide (48 ≤ (bat s x444))) (fun c486 => ?_) (fun c486 => ?_)
     ·refine wl_on rfl rfl c486 ?_
      refine wm rfl ?_
      refine wl_on rfl rfl c486 ?_
      refine wm rfl ?_
      refine wl_on rfl rfl c486 ?_
      refine wv (r := rI .u8 (bat s x444)) (o_index_b Tryz.underlying9 rfl rfl (imp_t g483 c485)) ?_
      refine wl_on rfl rfl c486 ?_
      refine wv (r := rB (decide ((bat s x444) ≤ 57))) (o_le rfl rfl) ?_
      refine wpt rfl c486 rfl ?_
      refine wl_nil ?_
      exact wk_then (wk_mid (Sub.c rfl (Sub.c rfl (Sub.c5 rfl rfl rfl rfl rfl (Sub.c5 rfl rfl rfl rfl rfl (Sub.c (by first | rfl | (simp only [c485, c486]; rfl) | simp [c485, c486]) (Sub.c (by first | rfl | (simp only [c485, c486]; rfl) | simp [c485, c486]) (Sub.c (by first | rfl | (simp only [c485, c486]; rfl) | simp [c485, c486]) Sub.nil))))))) sN)
     ·refine wl_off rfl rfl c486 rfl ?_
      refine wl_off rfl rfl c486 rfl ?_
      refine wl_off rfl rfl c486 rfl ?_
      refine wl_off rfl rfl c486 rfl ?_
      refine wv (r := rB false) (o_pick_f (b := decide (48 ≤ (bat s x444))) rfl c486 rfl) ?_
      refine wl_nil ?_
      exact wk_then (wk_mid (Sub.c rfl (Sub.c rfl (Sub.c5 rfl rfl rfl rfl rfl (Sub.c5 rfl rfl rfl rfl rfl (Sub.c (by first | rfl | (simp only [c485, c486]; rfl) | simp [c485, c486]) (Sub.c (by first | rfl | (simp only [c485, c486]; rfl) | simp [c485, c486]) (Sub.c (by first | rfl | (simp only [c485, c486]; rfl) | simp [c485, c486]) Sub.nil))))))) sN)
    ·refine wl_off rfl rfl c485 rfl ?_
     refine wl_off rfl rfl c485 rfl ?_
     refine wl_off rfl rfl c485 rfl ?_
     refine wl_off rfl rfl c485 rfl ?_
     refine wv (r := rB false) (o_pick_f (b := decide (x444 < (s.length : Int))) rfl c485 rfl) ?_
     refine wm rfl ?_
     refine wl_off (b := false) rfl rfl rfl rfl ?_
     refine wl_off (b := false) rfl rfl rfl rfl ?_
     refine wl_off (b := false) rfl rfl rfl rfl ?_
     refine wl_off (b := false) rfl rfl rfl rfl ?_
     refine wv (r := rB false) (o_pick_f (b := false) rfl rfl rfl) ?_
     refine wl_nil ?_
     exact wk_then (wk_mid (Sub.c rfl (Sub.c rfl (Sub.c5 rfl rfl rfl rfl rfl (Sub.c5 rfl rfl rfl rfl rfl (Sub.c (by first | rfl | (simp only [c485]; rfl) | simp [c485]) (Sub.c (by first | rfl | (simp only [c485]; rfl) | simp [c485]) (Sub.c (by first | rfl | (simp only [c485]; rfl) | simp [c485]) Sub.nil))))))) sN)
   refine wc_cond (b := ((decide (x444 < (s.length : Int))) && ((decide (48 ≤ (bat s x444))) && (decide ((bat s x444) ≤ 57))))) rfl (fun c487 => ?_) (fun c487 => ?_)
   ·have h488 := cnd_t c487 h484
    refine wc_skip ?_
    refine wk_x ?_
    refine wc_block ?_
    refine wc_seq ?_
    refine wc_sr ?_
    refine wm rfl ?_
    refine wm rfl ?_
    obtain ⟨g489, h490⟩ := chk_e h488
    refine wv (r := rI .i64 (x444 - at_)) (o_sub rfl rfl g489) ?_
    refine wv (r := rB (decide ((x444 - at_) < 18))) (o_lt rfl rfl) ?_
    refine wl_x ?_
    refine wc_cond (b := decide ((x444 - at_) < 18)) rfl (fun c491 => ?_) (fun c491 => ?_)
    ·have h492 := cnd_t c491 h490
     refine wc_region ?_
     refine wm rfl ?_
     obtain ⟨g493, h494⟩ := chk_e h492
     refine wv (r := rI .i64 (10 * x445)) (o_mul rfl rfl g493) ?_
     refine wm rfl ?_
     refine wm rfl ?_
     obtain ⟨g495, h496⟩ := chk_e h494
     refine wv (r := rI .u8 (bat s x444)) (o_index_b Tryz.underlying9 rfl rfl g495) ?_
     obtain ⟨g497, h498⟩ := chk_e h496
     refine wv (r := rI .u8 ((bat s x444) - 48)) (o_sub rfl rfl g497) ?_
     obtain ⟨g499, h500⟩ := chk_e h498
     refine wv (r := rI .i64 ((bat s x444) - 48)) (o_conv_int ⟨_, Tryz.underlying5⟩ Tryz.underlying3 rfl g499) ?_
     obtain ⟨g501, h502⟩ := chk_e h500
     refine wv (r := rI .i64 ((10 * x445) + ((bat s x444) - 48))) (o_add rfl rfl g501) ?_
     refine wa rfl ?_
     refine wl_x ?_
     refine wc_region ?_
     refine wm rfl ?_
     obtain ⟨g503, h504⟩ := chk_e h502
     refine wv (r := rI .i64 (x444 + 1)) (o_add rfl rfl g503) ?_
     refine wa rfl ?_
     refine wl_nil ?_
     refine wk_in_norm ?_
     have h505 := stp_next h504 ht478
     exact wk_then (wk_some (m479, (x444 + 1, (10 * x445) + ((bat s x444) - 48)), ()) ⟨h505, Nat.lt_succ_self _⟩ (Sub.c rfl (Sub.c rfl (Sub.c5 rfl rfl rfl rfl rfl Sub.nil))) sN)
    ·have h506 := cnd_f c491 h490
     refine wc_skip ?_
     refine wk_x ?_
     refine wc_region ?_
     refine wm rfl ?_
     obtain ⟨g507, h508⟩ := chk_e h506
     refine wv (r := rI .i64 (x444 + 1)) (o_add rfl rfl g507) ?_
     refine wa rfl ?_
     refine wl_nil ?_
     refine wk_in_norm ?_
     have h509 := stp_next h508 ht478
     exact wk_then (wk_some (m479, (x444 + 1, x445), ()) ⟨h509, Nat.lt_succ_self _⟩ (Sub.c rfl (Sub.c rfl (Sub.c5 rfl rfl rfl rfl rfl Sub.nil))) sN)
   ·have h510 := cnd_f c487 h484
    refine wc_exit ?_
    refine wk_then_exit ?_
    have h511 := stp_go h510 ht478 hK476
    exact wk_then_exit (wk_cut_hit (wk_some ((x444, x445), ()) h511 (Sub.c rfl (Sub.c rfl (Sub.c5 rfl rfl rfl rfl rfl Sub.nil))) sN))
  ·rintro ⟨⟨x472, x473⟩, ⟨⟩⟩ h512
   refine wk_as (l' := [(0, rS s), (1, rI .i64 at_), (4, rv (.slice none 0 0)), (5, rI .i64 0), (6, rI .i64 x472), (7, rI .i64 at_), (8, rI .i64 x473)]) (H' := []) rfl rfl ?_
   replace h512 : rReadInt_k2 s at_ x472 x473 = some r := h512
   unfold rReadInt_k2 at h512
   refine wk_in_hit ?_
   refine wk_x ?_
   refine wc_seq ?_
   obtain ⟨g513, h514⟩ := chk_e h512
   refine wc_seq_mid [(1, rI .i64 at_), (4, rv (.slice none 0 0)), (5, rI .i64 0), (6, rI .i64 x472), (7, rI .i64 at_), (8, rI .i64 x473), (66, rB ((decide (x472 = at_)) || ((decide ((bat s at_) = 48)) && ((decide ((at_ + 1) < x472)) || (decide (at_ < at_))))))] [] ?_ ?_
   ·refine wc_region ?_
    refine wm rfl ?_
    refine wm rfl ?_
    refine wv (r := rB (decide (x472 = at_))) (o_eq rfl rfl) ?_
    refine wm rfl ?_
    refine bsplit (decide (x472 = at_)) (fun c515 => ?_) (fun c515 => ?_)
    ·refine wl_off rfl rfl c515 rfl ?_
     refine wl_off rfl rfl c515 rfl ?_
     refine wl_off rfl rfl c515 rfl ?_
     refine wl_off rfl rfl c515 rfl ?_
     refine wl_off rfl rfl c515 rfl ?_
     refine wl_off_u rfl rfl rfl ?_
     refine wl_off_u rfl rfl rfl ?_
     refine wl_off_u rfl rfl rfl ?_
     refine wl_off_u rfl rfl rfl ?_
     refine wl_off_u rfl rfl rfl ?_
     refine wl_off_u rfl rfl rfl ?_
     refine wl_off_u rfl rfl rfl ?_
     refine wl_off_u rfl rfl rfl ?_
     refine wl_off_u rfl rfl rfl ?_
     refine wl_off rfl rfl c515 rfl ?_
     refine wv (r := rB true) (o_pick_t (b := decide (x472 = at_)) rfl c515 rfl) ?_
     refine wl_nil ?_
     exact wk_then (wk_mid (Sub.c rfl (Sub.c5 rfl rfl rfl rfl rfl (Sub.c (by first | rfl | (simp only [c515]; rfl) | simp [c515]) Sub.nil))) sN)
    ·refine wl_on rfl rfl c515 ?_
     refine wm rfl ?_
     refine wl_on rfl rfl c515 ?_
     refine wm rfl ?_
     refine wl_on rfl rfl c515 ?_
     refine wv (r := rI .u8 (bat s at_)) (o_index_b Tryz.underlying9 rfl rfl g1) ?_
     refine wl_on rfl rfl c515 ?_
     refine wv (r := rB (decide ((bat s at_) = 48))) (o_eq rfl rfl) ?_
     refine wl_on rfl rfl c515 ?_
     refine wm rfl ?_
     refine bsplit (decide ((bat s at_) = 48)) (fun c516 => ?_) (fun c516 => ?_)
     ·refine wl_on rfl rfl c516 ?_
      refine wm rfl ?_
      refine wl_on rfl rfl c516 ?_
      refine wm rfl ?_
      refine wl_on rfl rfl c516 ?_
      refine wv (r := rI .i64 (at_ + 1)) (o_add rfl rfl (imp_t (imp_f g513 c515) c516)) ?_
      refine wl_on rfl rfl c516 ?_
      refine wv (r := rB (decide ((at_ + 1) < x472))) (o_gt rfl rfl) ?_
      refine wl_on rfl rfl c516 ?_
      refine wm rfl ?_
      refine bsplit (decide ((at_ + 1) < x472)) (fun c517 => ?_) (fun c517 => ?_)
      ·refine wl_off rfl rfl c517 rfl ?_
       refine wl_off rfl rfl c517 rfl ?_
       refine wl_off rfl rfl c517 rfl ?_
       refine wl_on rfl rfl c516 ?_
       refine wv (r := rB true) (o_pick_t (b := decide ((at_ + 1) < x472)) rfl c517 rfl) ?_
       refine wl_on rfl rfl c515 ?_
       refine wpt rfl c516 rfl ?_
       refine wpf rfl c515 rfl ?_
       refine wl_nil ?_
       exact wk_then (wk_mid (Sub.c rfl (Sub.c5 rfl rfl rfl rfl rfl (Sub.c (by first | rfl | (simp only [c515, c516, c517]; rfl) | simp [c515, c516, c517]) Sub.nil))) sN)
      ·refine wl_on rfl rfl c517 ?_
       refine wm rfl ?_
       refine wl_on rfl rfl c517 ?_
       refine wm rfl ?_
       refine wl_on rfl rfl c517 ?_
       refine wv (r := rB (decide (at_ < at_))) (o_gt rfl rfl) ?_
       refine wl_on rfl rfl c516 ?_
       refine wpf rfl c517 rfl ?_
       refine wl_on rfl rfl c515 ?_
       refine wpt rfl c516 rfl ?_
       refine wpf rfl c515 rfl ?_
       refine wl_nil ?_
       exact wk_then (wk_mid (Sub.c rfl (Sub.c5 rfl rfl rfl rfl rfl (Sub.c (by first | rfl | (simp only [c515, c516, c517]; rfl) | simp [c515, c516, c517]) Sub.nil))) sN)
     ·refine wl_off rfl rfl c516 rfl ?_
      refine wl_off rfl rfl c516 rfl ?_
      refine wl_off rfl rfl c516 rfl ?_
      refine wl_off rfl rfl c516 rfl ?_
      refine wl_off rfl rfl c516 rfl ?_
      refine wl_off_u rfl rfl rfl ?_
      refine wl_off_u rfl rfl rfl ?_
      refine wl_off_u rfl rfl rfl ?_
      refine wl_off rfl rfl c516 rfl ?_
      refine wl_on rfl rfl c515 ?_
      refine wv (r := rB false) (o_pick_f (b := decide ((bat s at_) = 48)) rfl c516 rfl) ?_
      refine wpf rfl c515 rfl ?_
      refine wl_nil ?_
      exact wk_then (wk_mid (Sub.c rfl (Sub.c5 rfl rfl rfl rfl rfl (Sub.c (by first | rfl | (simp only [c515, c516]; rfl) | simp [c515, c516]) Sub.nil))) sN)
   refine wc_cond (b := ((decide (x472 = at_)) || ((decide ((bat s at_) = 48)) && ((decide ((at_ + 1) < x472)) || (decide (at_ < at_)))))) rfl (fun c518 => ?_) (fun c518 => ?_)
   ·have h519 := cnd_t c518 h514
    refine wc_sr ?_
    refine wv (r := rv (.slice none 0 0)) (o_assign rfl) ?_
    refine wv (r := rI .i64 (-1)) (o_assign rfl) ?_
    refine wl_x ?_
    refine wc_ret ?_
    refine wk_then_ret ?_
    refine WK.up (d := 4) (r := rSl 4 (List.map eTApiCell ([] : List TApiCell))) rfl (Up.le (Rle.nil _)) ?_
    obtain rfl := some_e h519
    exact wk_ret (r_2 Tryz.results70 (rv_t rfl) (rv_t rfl)) sN ⟨rfl, rfl⟩
   ·have h520 := cnd_f c518 h514
    refine wc_skip ?_
    refine wk_x ?_
    refine wc_seq ?_
    refine wc_sr ?_
    refine wm rfl ?_
    refine wm rfl ?_
    obtain ⟨g521, h522⟩ := chk_e h520
    refine wv (r := rI .i64 (x472 - at_)) (o_sub rfl rfl g521) ?_
    refine wv (r := rB (decide (18 < (x472 - at_)))) (o_gt rfl rfl) ?_
    refine wl_x ?_
    refine wc_cond (b := decide (18 < (x472 - at_))) rfl (fun c523 => ?_) (fun c523 => ?_)
    ·have h524 := cnd_t c523 h522
     refine wc_region ?_
     refine wv (r := rI .i64 2000000000000) (o_assign rfl) ?_
     refine wl_x ?_
     refine wc_seq ?_
     refine wc_sr ?_
     refine wm rfl ?_
     refine wm rfl ?_
     refine wv (r := rB (decide (at_ < at_))) (o_gt rfl rfl) ?_
     refine wl_x ?_
     refine wc_cond (b := decide (at_ < at_)) rfl (fun c525 => ?_) (fun c525 => ?_)
     ·have h526 := cnd_t c525 h524
      refine wc_region ?_
      refine wm rfl ?_
      obtain ⟨g527, h528⟩ := chk_e h526
      refine wv (r := rI .i64 (-2000000000000)) (o_neg rfl g527) ?_
      refine wa rfl ?_
      refine wl_y ?_
      refine wm rfl ?_
      refine wv (r := rAgg [rI .i64 3, rI .i64 (-2000000000000), rS ([] : Str), rI .i64 0]) (o_build63_0_1 rfl rfl rfl rfl) ?_
      refine w_buildSlice (ys := ([(TApiCell.mk 3 (-2000000000000) ([] : Str) 0)] : List TApiCell)) (enc := eTApiCell) (css := [[rI .i64 3, rI .i64 (-2000000000000), rS ([] : Str), rI .i64 0]]) (xs := [.tmp 77]) Tryz.underlying23 Tryz.sizeOf63 Tryz.zeroValue63 rfl rfl rfl ⟨Cel.agg ⟨Up.refl _, Up.refl _, Up.refl _, Up.refl _, trivial⟩, trivial⟩ rfl eTApiCell_len rfl rfl rfl (fun b529 => ?_)
      refine wm rfl ?_
      refine wa rfl ?_
      refine wa rfl ?_
      refine wl_x ?_
      refine wc_ret ?_
      refine WK.freeze (i := 0) rfl ?_
      refine WK.up (d := 4) (r := rSl 4 (List.map eTApiCell ([(TApiCell.mk 3 (-2000000000000) ([] : Str) 0)] : List TApiCell))) rfl (Up.fact (i := 0) rfl) ?_
      obtain rfl := some_e h528
      exact wk_ret (r_2 Tryz.results70 (rv_t rfl) (rv_t rfl)) (sS sN) ⟨rfl, rfl⟩
     ·have h530 := cnd_f c525 h524
      refine wc_skip ?_
      refine wk_x ?_
      refine wc_sr ?_
      refine wm rfl ?_
      refine wv (r := rAgg [rI .i64 3, rI .i64 2000000000000, rS ([] : Str), rI .i64 0]) (o_build63_0_1 rfl rfl rfl rfl) ?_
      refine w_buildSlice (ys := ([(TApiCell.mk 3 2000000000000 ([] : Str) 0)] : List TApiCell)) (enc := eTApiCell) (css := [[rI .i64 3, rI .i64 2000000000000, rS ([] : Str), rI .i64 0]]) (xs := [.tmp 77]) Tryz.underlying23 Tryz.sizeOf63 Tryz.zeroValue63 rfl rfl rfl ⟨Cel.agg ⟨Up.refl _, Up.refl _, Up.refl _, Up.refl _, trivial⟩, trivial⟩ rfl eTApiCell_len rfl rfl rfl (fun b531 => ?_)
      refine wm rfl ?_
      refine wa rfl ?_
      refine wa rfl ?_
      refine wl_x ?_
      refine wc_ret ?_
      refine WK.freeze (i := 0) rfl ?_
      refine WK.up (d := 4) (r := rSl 4 (List.map eTApiCell ([(TApiCell.mk 3 2000000000000 ([] : Str) 0)] : List TApiCell))) rfl (Up.fact (i := 0) rfl) ?_
      obtain rfl := some_e h530
      exact wk_ret (r_2 Tryz.results70 (rv_t rfl) (rv_t rfl)) (sS sN) ⟨rfl, rfl⟩
    ·have h532 := cnd_f c523 h522
     refine wc_skip ?_
     refine wk_x ?_
     refine wc_seq ?_
     refine wc_sr ?_
     refine wm rfl ?_
     refine wm rfl ?_
     refine wv (r := rB (decide (at_ < at_))) (o_gt rfl rfl) ?_
     refine wl_x ?_
     refine wc_cond (b := decide (at_ < at_)) rfl (fun c533 => ?_) (fun c533 => ?_)
     ·have h534 := cnd_t c533 h532
      refine wc_region ?_
      refine wm rfl ?_
      obtain ⟨g535, h536⟩ := chk_e h534
      refine wv (r := rI .i64 (-x473)) (o_neg rfl g535) ?_
      refine wa rfl ?_
      refine wl_y ?_
      refine wm rfl ?_
      refine wv (r := rAgg [rI .i64 3, rI .i64 (-x473), rS ([] : Str), rI .i64 0]) (o_build63_0_1 rfl rfl rfl rfl) ?_
      refine w_buildSlice (ys := ([(TApiCell.mk 3 (-x473) ([] : Str) 0)] : List TApiCell)) (enc := eTApiCell) (css := [[rI .i64 3, rI .i64 (-x473), rS ([] : Str), rI .i64 0]]) (xs := [.tmp 77]) Tryz.underlying23 Tryz.sizeOf63 Tryz.zeroValue63 rfl rfl rfl ⟨Cel.agg ⟨Up.refl _, Up.refl _, Up.refl _, Up.refl _, trivial⟩, trivial⟩ rfl eTApiCell_len rfl rfl rfl (fun b537 => ?_)
      refine wm rfl ?_
      refine wa rfl ?_
      refine wa rfl ?_
      refine wl_x ?_
      refine wc_ret ?_
      refine WK.freeze (i := 0) rfl ?_
      refine WK.up (d := 4) (r := rSl 4 (List.map eTApiCell ([(TApiCell.mk 3 (-x473) ([] : Str) 0)] : List TApiCell))) rfl (Up.fact (i := 0) rfl) ?_
      obtain rfl := some_e h536
      exact wk_ret (r_2 Tryz.results70 (rv_t rfl) (rv_t rfl)) (sS sN) ⟨rfl, rfl⟩
     ·have h538 := cnd_f c533 h532
      refine wc_skip ?_
      refine wk_x ?_
      refine wc_sr ?_
      refine wm rfl ?_
      refine wv (r := rAgg [rI .i64 3, rI .i64 x473, rS ([] : Str), rI .i64 0]) (o_build63_0_1 rfl rfl rfl rfl) ?_
      refine w_buildSlice (ys := ([(TApiCell.mk 3 x473 ([] : Str) 0)] : List TApiCell)) (enc := eTApiCell) (css := [[rI .i64 3, rI .i64 x473, rS ([] : Str), rI .i64 0]]) (xs := [.tmp 77]) Tryz.underlying23 Tryz.sizeOf63 Tryz.zeroValue63 rfl rfl rfl ⟨Cel.agg ⟨Up.refl _, Up.refl _, Up.refl _, Up.refl _, trivial⟩, trivial⟩ rfl eTApiCell_len rfl rfl rfl (fun b539 => ?_)
      refine wm rfl ?_
      refine wa rfl ?_
      refine wa rfl ?_
      refine wl_x ?_
      refine wc_ret ?_
      refine WK.freeze (i := 0) rfl ?_
      refine WK.up (d := 4) (r := rSl 4 (List.map eTApiCell ([(TApiCell.mk 3 x473 ([] : Str) 0)] : List TApiCell))) rfl (Up.fact (i := 0) rfl) ?_
      obtain rfl := some_e h538
      exact wk_ret (r_2 Tryz.results70 (rv_t rfl) (rv_t rfl)) (sS sN) ⟨rfl, rfl⟩

theorem rReadm_w (F : Nat) (rec_rReadMany : Str → Int → Option ((List TApiCell) × Int)) (ih_rReadMany : (∀ (s : Str) (at_ : Int) (r : (List TApiCell) × Int), rec_rReadMany s at_ = some r → Fn Tryz.prog GE 69 [rS s, rI .i64 at_] [] (fun R H => R = rTup [rSl 4 (List.map eTApiCell r.1), rI .i64 r.2] ∧ H = []))) (s : Str) (at_ : Int) (r : (List TApiCell) × Int) (h : rReadm F rec_rReadMany s at_ = some r) : Fn Tryz.prog GE 46 [rS s, rI .i64 at_] [] (fun R H => R = rTup [rSl 4 (List.map eTApiCell r.1), rI .i64 r.2] ∧ H = []) := by
 refine enter (n := 64) Tryz.func46 rfl Tryz.ntmps46 rfl (fun w Z => ?_)
 refine wc_as (l' := [(0, rS s), (1, rI .i64 at_)]) (H' := []) rfl rfl ?_
 unfold rReadm at h
 refine wc_sr ?_
 refine wv (r := rv (.slice none 0 0)) (o_assign rfl) ?_
 refine wv (r := rI .i64 0) (o_assign rfl) ?_
 refine wl_x ?_
 refine wc_seq ?_
 refine wc_sr ?_
 refine wm rfl ?_
 refine wm rfl ?_
 refine wv (r := rI .i64 (s.length : Int)) (o_len_s Tryz.underlying9 rfl) ?_
 refine wv (r := rB (decide ((s.length : Int) ≤ at_))) (o_ge rfl rfl) ?_
 refine wl_x ?_
 refine wc_cond (b := decide ((s.length : Int) ≤ at_)) rfl (fun c1 => ?_) (fun c1 => ?_)
 ·have h2 := cnd_t c1 h
  refine wc_sr ?_
  refine wv (r := rv (.slice none 0 0)) (o_assign rfl) ?_
  refine wv (r := rI .i64 (-1)) (o_assign rfl) ?_
  refine wl_x ?_
  refine wc_ret ?_
  refine wk_then_ret ?_
  refine WK.up (d := 4) (r := rSl 4 (List.map eTApiCell ([] : List TApiCell))) rfl (Up.le (Rle.nil _)) ?_
  obtain rfl := some_e h2
  exact wk_ret (r_2 Tryz.results46 (rv_t rfl) (rv_t rfl)) sN ⟨rfl, rfl⟩
 ·have h3 := cnd_f c1 h
  refine wc_skip ?_
  refine wk_x ?_
  refine wc_seq ?_
  refine wc_sr ?_
  refine wm rfl ?_
  refine wm rfl ?_
  obtain ⟨r4, e6, h5⟩ := obn_e h3
  refine wc0 Tryz.call67 (rStarts_w s at_ ([110, 117, 108, 108] : Str) r4 e6) rfl ?_
  refine wl_x ?_
  refine wc_cond (b := r4) rfl (fun c7 => ?_) (fun c7 => ?_)
  ·have h8 := cnd_t c7 h5
   refine wc_sr ?_
   obtain ⟨r9, e11, h10⟩ := obn_e h8
   refine wc0 Tryz.call22 (rNull_w r9 e11) rfl ?_
   refine wm rfl ?_
   obtain ⟨g12, h13⟩ := chk_e h10
   refine wv (r := rI .i64 (at_ + 4)) (o_add rfl rfl g12) ?_
   refine wa rfl ?_
   refine wa rfl ?_
   refine wl_x ?_
   refine wc_ret ?_
   refine wk_then_ret ?_
   obtain rfl := some_e h13
   exact wk_ret (r_2 Tryz.results46 (rv_t rfl) (rv_t rfl)) sN ⟨rfl, rfl⟩
  ·have h14 := cnd_f c7 h5
   refine wc_skip ?_
   refine wk_x ?_
   refine wc_seq ?_
   refine wc_sr ?_
   refine wm rfl ?_
   refine wm rfl ?_
   obtain ⟨r15, e17, h16⟩ := obn_e h14
   refine wc0 Tryz.call67 (rStarts_w s at_ ([116, 114, 117, 101] : Str) r15 e17) rfl ?_
   refine wl_x ?_
   refine wc_cond (b := r15) rfl (fun c18 => ?_) (fun c18 => ?_)
   ·have h19 := cnd_t c18 h16
    refine wc_sr ?_
    obtain ⟨r20, e22, h21⟩ := obn_e h19
    refine wc0 Tryz.call24 (rBool_w true r20 e22) rfl ?_
    refine wm rfl ?_
    obtain ⟨g23, h24⟩ := chk_e h21
    refine wv (r := rI .i64 (at_ + 4)) (o_add rfl rfl g23) ?_
    refine wa rfl ?_
    refine wa rfl ?_
    refine wl_x ?_
    refine wc_ret ?_
    refine wk_then_ret ?_
    obtain rfl := some_e h24
    exact wk_ret (r_2 Tryz.results46 (rv_t rfl) (rv_t rfl)) sN ⟨rfl, rfl⟩
   ·have h25 := cnd_f c18 h16
    refine wc_skip ?_
    refine wk_x ?_
    refine wc_seq ?_
    refine wc_sr ?_
    refine wm rfl ?_
    refine wm rfl ?_
    obtain ⟨r26, e28, h27⟩ := obn_e h25
    refine wc0 Tryz.call67 (rStarts_w s at_ ([102, 97, 108, 115, 101] : Str) r26 e28) rfl ?_
    refine wl_x ?_
    refine wc_cond (b := r26) rfl (fun c29 => ?_) (fun c29 => ?_)
    ·have h30 := cnd_t c29 h27
     refine wc_sr ?_
     obtain ⟨r31, e33, h32⟩ := obn_e h30
     refine wc0 Tryz.call24 (rBool_w false r31 e33) rfl ?_
     refine wm rfl ?_
     obtain ⟨g34, h35⟩ := chk_e h32
     refine wv (r := rI .i64 (at_ + 5)) (o_add rfl rfl g34) ?_
     refine wa rfl ?_
     refine wa rfl ?_
     refine wl_x ?_
     refine wc_ret ?_
     refine wk_then_ret ?_
     obtain rfl := some_e h35
     exact wk_ret (r_2 Tryz.results46 (rv_t rfl) (rv_t rfl)) sN ⟨rfl, rfl⟩
    ·have h36 := cnd_f c29 h27
     refine wc_skip ?_
     refine wk_x ?_
     refine wc_seq ?_
     refine wc_sr ?_
     refine wm rfl ?_
     refine wm rfl ?_
     obtain ⟨g37, h38⟩ := chk_e h36
     refine wv (r := rI .u8 (bat s at_)) (o_index_b Tryz.underlying9 rfl rfl g37) ?_
     refine wv (r := rB (decide ((bat s at_) = 34))) (o_eq rfl rfl) ?_
     refine wl_x ?_
     refine wc_cond (b := decide ((bat s at_) = 34)) rfl (fun c39 => ?_) (fun c39 => ?_)
     ·have h40 := cnd_t c39 h38
      refine wc_sr ?_
      refine wm rfl ?_
      refine wm rfl ?_
      obtain ⟨r41, e43, h42⟩ := obn_e h40
      refine wc0 Tryz.call68 (rReadString_w F s at_ r41 e43) rfl ?_
      refine wm rfl ?_
      refine wv (r := rS r41.1) (o_extract rfl rfl) ?_
      refine wv (r := rI .i64 r41.2) (o_extract rfl rfl) ?_
      refine wa rfl ?_
      refine wa rfl ?_
      refine wl_y ?_
      refine wm rfl ?_
      refine wv (r := rAgg [rI .i64 4, rI .i64 0, rS r41.1, rI .i64 0]) (o_build63_0_2 rfl rfl rfl rfl) ?_
      refine w_buildSlice (ys := ([(TApiCell.mk 4 0 r41.1 0)] : List TApiCell)) (enc := eTApiCell) (css := [[rI .i64 4, rI .i64 0, rS r41.1, rI .i64 0]]) (xs := [.tmp 41]) Tryz.underlying23 Tryz.sizeOf63 Tryz.zeroValue63 rfl rfl rfl ⟨Cel.agg ⟨Up.refl _, Up.refl _, Up.refl _, Up.refl _, trivial⟩, trivial⟩ rfl eTApiCell_len rfl rfl rfl (fun b44 => ?_)
      refine wm rfl ?_
      refine wa rfl ?_
      refine wa rfl ?_
      refine wl_x ?_
      refine wc_ret ?_
      refine wk_then_ret ?_
      refine WK.freeze (i := 0) rfl ?_
      refine WK.up (d := 4) (r := rSl 4 (List.map eTApiCell ([(TApiCell.mk 4 0 r41.1 0)] : List TApiCell))) rfl (Up.fact (i := 0) rfl) ?_
      obtain rfl := some_e h42
      exact wk_ret (r_2 Tryz.results46 (rv_t rfl) (rv_t rfl)) (sS sN) ⟨rfl, rfl⟩
     ·have h45 := cnd_f c39 h38
      refine wc_skip ?_
      refine wk_x ?_
      refine wc_seq ?_
      refine wc_seq_mid [(0, rS s), (1, rI .i64 at_), (4, rv (.slice none 0 0)), (5, rI .i64 0), (53, rB ((decide ((bat s at_) = 91)) || (decide ((bat s at_) = 123))))] [] ?_ ?_
      ·refine wc_region ?_
       refine wm rfl ?_
       refine wm rfl ?_
       refine wv (r := rI .u8 (bat s at_)) (o_index_b Tryz.underlying9 rfl rfl g37) ?_
       refine wv (r := rB (decide ((bat s at_) = 91))) (o_eq rfl rfl) ?_
       refine wm rfl ?_
       refine bsplit (decide ((bat s at_) = 91)) (fun c46 => ?_) (fun c46 => ?_)
       ·refine wl_off rfl rfl c46 rfl ?_
        refine wl_off rfl rfl c46 rfl ?_
        refine wl_off rfl rfl c46 rfl ?_
        refine wl_off rfl rfl c46 rfl ?_
        refine wv (r := rB true) (o_pick_t (b := decide ((bat s at_) = 91)) rfl c46 rfl) ?_
        refine wl_nil ?_
        exact wk_then (wk_mid (Sub.c rfl (Sub.c rfl (Sub.c rfl (Sub.c rfl (Sub.c (by first | rfl | (simp only [c46]; rfl) | simp [c46]) Sub.nil))))) sN)
       ·refine wl_on rfl rfl c46 ?_
        refine wm rfl ?_
        refine wl_on rfl rfl c46 ?_
        refine wm rfl ?_
        refine wl_on rfl rfl c46 ?_
        refine wv (r := rI .u8 (bat s at_)) (o_index_b Tryz.underlying9 rfl rfl g37) ?_
        refine wl_on rfl rfl c46 ?_
        refine wv (r := rB (decide ((bat s at_) = 123))) (o_eq rfl rfl) ?_
        refine wpf rfl c46 rfl ?_
        refine wl_nil ?_
        exact wk_then (wk_mid (Sub.c rfl (Sub.c rfl (Sub.c rfl (Sub.c rfl (Sub.c (by first | rfl | (simp only [c46]; rfl) | simp [c46]) Sub.nil))))) sN)
      refine wc_cond (b := ((decide ((bat s at_) = 91)) || (decide ((bat s at_) = 123)))) rfl (fun c47 => ?_) (fun c47 => ?_)
      ·have h48 := cnd_t c47 h45
       refine wc_sr ?_
       refine wm rfl ?_
       refine wm rfl ?_
       obtain ⟨r49, e51, h50⟩ := obn_e h48
       refine wc0 Tryz.call69 (ih_rReadMany s at_ r49 e51) rfl ?_
       refine wv (r := rSl 4 (List.map eTApiCell r49.1)) (o_extract rfl rfl) ?_
       refine wv (r := rI .i64 r49.2) (o_extract rfl rfl) ?_
       refine wa rfl ?_
       refine wa rfl ?_
       refine wl_x ?_
       refine wc_ret ?_
       refine wk_then_ret ?_
       obtain rfl := some_e h50
       exact wk_ret (r_2 Tryz.results46 (rv_t rfl) (rv_t rfl)) sN ⟨rfl, rfl⟩
      ·have h52 := cnd_f c47 h45
       refine wc_skip ?_
       refine wk_x ?_
       refine wc_sr ?_
       refine wm rfl ?_
       refine wm rfl ?_
       obtain ⟨r53, e55, h54⟩ := obn_e h52
       refine wc0 Tryz.call70 (rReadInt_w F s at_ r53 e55) rfl ?_
       refine wv (r := rSl 4 (List.map eTApiCell r53.1)) (o_extract rfl rfl) ?_
       refine wv (r := rI .i64 r53.2) (o_extract rfl rfl) ?_
       refine wa rfl ?_
       refine wa rfl ?_
       refine wl_x ?_
       refine wc_ret ?_
       obtain rfl := some_e h54
       exact wk_ret (r_2 Tryz.results46 (rv_t rfl) (rv_t rfl)) sN ⟨rfl, rfl⟩

theorem rReadManym_w (F : Nat) (rec_rRead : Str → Int → Option ((List TApiCell) × Int)) (ih_rRead : (∀ (s : Str) (at_ : Int) (r : (List TApiCell) × Int), rec_rRead s at_ = some r → Fn Tryz.prog GE 46 [rS s, rI .i64 at_] [] (fun R H => R = rTup [rSl 4 (List.map eTApiCell r.1), rI .i64 r.2] ∧ H = []))) (s : Str) (at_ : Int) (r : (List TApiCell) × Int) (h : rReadManym F rec_rRead s at_ = some r) : Fn Tryz.prog GE 69 [rS s, rI .i64 at_] [] (fun R H => R = rTup [rSl 4 (List.map eTApiCell r.1), rI .i64 r.2] ∧ H = []) := by
 refine enter (n := 98) Tryz.func69 rfl Tryz.ntmps69 rfl (fun w Z => ?_)
 refine wc_as (l' := [(0, rS s), (1, rI .i64 at_)]) (H' := []) rfl rfl ?_
 unfold rReadManym at h
 refine wc_sr ?_
 refine wv (r := rv (.slice none 0 0)) (o_assign rfl) ?_
 refine wv (r := rI .i64 0) (o_assign rfl) ?_
 refine wl_y ?_
 refine wv (r := rAgg [rI .i64 5, rI .i64 0, rS ([] : Str), rI .i64 0]) (o_build63_0 rfl rfl) ?_
 refine w_alloc (cs := [rI .i64 0, rI .i64 0, rS ([] : Str), rI .i64 0]) Tryz.zeroValue63 rfl rfl (fun b1 => ?_)
 refine u_store_agg (i := 0) Tryz.sizeOf63 rfl rfl rfl (OneAll.c rfl) rfl rfl (cs' := [rI .i64 5, rI .i64 0, rS ([] : Str), rI .i64 0]) rfl (H' := [.blk b1 [rI .i64 5, rI .i64 0, rS ([] : Str), rI .i64 0] 63]) rfl ?_
 refine wl_y ?_
 refine wv (r := rS ([93] : Str)) (o_assign rfl) ?_
 refine wl_x ?_
 refine wc_seq ?_
 refine wc_sr ?_
 refine wm rfl ?_
 refine wm rfl ?_
 obtain ⟨g2, h3⟩ := chk_e h
 refine wv (r := rI .u8 (bat s at_)) (o_index_b Tryz.underlying9 rfl rfl g2) ?_
 refine wv (r := rB (decide ((bat s at_) = 123))) (o_eq rfl rfl) ?_
 refine wl_x ?_
 refine wc_cond (b := decide ((bat s at_) = 123)) rfl (fun c4 => ?_) (fun c4 => ?_)
 ·have h5 := cnd_t c4 h3
  refine wc_sr ?_
  refine wv (r := rv (.pointer (some ⟨b1, 0, none⟩))) (o_fieldAddr Tryz.underlying63 rfl Tryz.sizeOf61 rfl rfl) ?_
  refine u_store (i := 0) Tryz.sizeOf61 rfl rfl (one_c rfl) rfl rfl (cs' := [rI .i64 6, rI .i64 0, rS ([] : Str), rI .i64 0]) rfl (H' := [.blk b1 [rI .i64 6, rI .i64 0, rS ([] : Str), rI .i64 0] 63]) rfl ?_
  refine wl_x ?_
  refine wc_region ?_
  refine wv (r := rS ([125] : Str)) (o_assign rfl) ?_
  refine wl_y ?_
  refine wv (r := rv (.slice none 0 0)) (o_assign rfl) ?_
  refine wl_y ?_
  refine wm rfl ?_
  obtain ⟨g6, h7⟩ := chk_e h5
  refine wv (r := rI .i64 (at_ + 1)) (o_add rfl rfl g6) ?_
  refine wa rfl ?_
  refine wl_x ?_
  refine wc_seq ?_
  refine wc_block ?_
  refine WC.nilrow (e := 63) (sz := 4) ?_
  refine wc_perm (H2 := [.blk b1 [rI .i64 6, rI .i64 0, rS ([] : Str), rI .i64 0] 63, .row (.slice none 0 0) 63 4 (List.map eTApiCell ([] : List TApiCell))]) ((perm_front (i := 1) rfl).trans (List.Perm.cons _ (List.Perm.refl _))) ?_
  obtain ⟨o530, eo531, hK532⟩ := obn_e h7
  refine wc_loop2 (S := Nat × ((List TApiCell) × Int × TApiCell) × (Value)) (V := ((List TApiCell) × Int × TApiCell) × (Value)) 0 (fun σ => lop (fun σ => rReadMany_b1 F s rec_rRead σ.1 σ.2.1 σ.2.2) σ.1 σ.2.1 = some o530) (fun σ => [(0, rS s), (4, rv (.slice none 0 0)), (5, rI .i64 0), (6, rv (.pointer (some ⟨b1, 0, none⟩))), (7, rS ([125] : Str)), (8, rv σ.2.2), (9, rI .i64 σ.2.1.2.1)]) (fun σ => [.blk b1 (eTApiCell σ.2.1.2.2) 63, .row σ.2.2 63 4 (List.map eTApiCell σ.2.1.1)]) (fun σ => σ.1) (F, (([] : List TApiCell), at_ + 1, (TApiCell.mk 6 0 ([] : Str) 0)), (.slice none 0 0)) eo531 (Sub.c rfl (Sub.c rfl (Sub.c5 rfl rfl rfl rfl rfl Sub.nil))) (sC (sC sN)) (fun σ => rReadMany_k1 σ.1.1 σ.1.2.1 σ.1.2.2 = some r) (fun σ => [(4, rv (.slice none 0 0)), (5, rI .i64 0), (6, rv (.pointer (some ⟨b1, 0, none⟩))), (8, rv σ.2), (9, rI .i64 σ.1.2.1)]) (fun σ => [.blk b1 (eTApiCell σ.1.2.2) 63, .row σ.2 63 4 (List.map eTApiCell σ.1.1)]) ?_ ?_
  ·rintro ⟨n538, ⟨x443, x445, x446⟩, v444⟩ hi536
   refine wc_as (l' := [(0, rS s), (4, rv (.slice none 0 0)), (5, rI .i64 0), (6, rv (.pointer (some ⟨b1, 0, none⟩))), (7, rS ([125] : Str)), (8, rv v444), (9, rI .i64 x445)]) (H' := [.blk b1 (eTApiCell x446) 63, .row v444 63 4 (List.map eTApiCell x443)]) rfl rfl ?_
   obtain ⟨m535, rfl, t533, h537, ht534⟩ := lop_e hi536
   replace h537 : rReadMany_b1 F s rec_rRead x443 x445 x446 = some t533 := h537
   unfold rReadMany_b1 at h537
   refine wc_seq ?_
   obtain ⟨g539, h540⟩ := chk_e h537
   obtain ⟨g541, h542⟩ := chk_e h540
   obtain ⟨g543, h544⟩ := chk_e h542
   refine wc_seq_mid [(0, rS s), (4, rv (.slice none 0 0)), (5, rI .i64 0), (6, rv (.pointer (some ⟨b1, 0, none⟩))), (7, rS ([125] : Str)), (8, rv v444), (9, rI .i64 x445), (23, rS s), (24, rI .i64 x445), (25, rS ([125] : Str)), (26, rB (ov (rStarts s x445 ([125] : Str)))), (27, rB (!(ov (rStarts s x445 ([125] : Str))))), (28, rB (!(ov (rStarts s x445 ([125] : Str))))), (39, rB ((!(ov (rStarts s x445 ([125] : Str)))) || ((decide (0 < x446.fN)) && (decide ((bat s (x445 - 1)) = 44)))))] [.blk b1 (eTApiCell x446) 63, .row v444 63 4 (List.map eTApiCell x443)] ?_ ?_
   ·refine wc_region ?_
    refine wm rfl ?_
    refine wm rfl ?_
    refine wm rfl ?_
    refine wc0 Tryz.call67 (rStarts_w s x445 ([125] : Str) (ov (rStarts s x445 ([125] : Str))) (ov_e g539)) rfl ?_
    refine wv (r := rB (!(ov (rStarts s x445 ([125] : Str))))) (o_not rfl) ?_
    refine wm rfl ?_
    refine bsplit (!(ov (rStarts s x445 ([125] : Str)))) (fun c545 => ?_) (fun c545 => ?_)
    ·refine wl_off rfl rfl c545 rfl ?_
     refine wl_off rfl rfl c545 rfl ?_
     refine wl_off rfl rfl c545 rfl ?_
     refine wl_off rfl rfl c545 rfl ?_
     refine wl_off_u rfl rfl rfl ?_
     refine wl_off_u rfl rfl rfl ?_
     refine wl_off_u rfl rfl rfl ?_
     refine wl_off_u rfl rfl rfl ?_
     refine wl_off_u rfl rfl rfl ?_
     refine wl_off rfl rfl c545 rfl ?_
     refine wv (r := rB true) (o_pick_t (b := !(ov (rStarts s x445 ([125] : Str)))) rfl c545 rfl) ?_
     refine wl_nil ?_
     exact wk_then (wk_mid (Sub.c rfl (Sub.c rfl (Sub.c rfl (Sub.c5 rfl rfl rfl rfl rfl (Sub.c5 rfl rfl rfl rfl rfl (Sub.c (by first | rfl | (simp only [c545]; rfl) | simp [c545]) Sub.nil)))))) (sC (sC sN)))
    ·refine wl_on rfl rfl c545 ?_
     refine wv (r := rv (.pointer (some ⟨b1, 3, none⟩))) (o_fieldAddr Tryz.underlying63 rfl Tryz.sizeOf3 rfl rfl) ?_
     refine wl_on rfl rfl c545 ?_
     refine wv (r := rI .i64 x446.fN) (o_load (i := 0) Tryz.isAgg3 rfl rfl rfl) ?_
     refine wl_on rfl rfl c545 ?_
     refine wv (r := rB (decide (0 < x446.fN))) (o_gt rfl rfl) ?_
     refine wl_on rfl rfl c545 ?_
     refine wm rfl ?_
     refine bsplit (decide (0 < x446.fN)) (fun c546 => ?_) (fun c546 => ?_)
     ·refine wl_on rfl rfl c546 ?_
      refine wm rfl ?_
      refine wl_on rfl rfl c546 ?_
      refine wm rfl ?_
      refine wl_on rfl rfl c546 ?_
      refine wv (r := rI .i64 (x445 - 1)) (o_sub rfl rfl (imp_t (imp_f g541 c545) c546)) ?_
      refine wl_on rfl rfl c546 ?_
      refine wv (r := rI .u8 (bat s (x445 - 1))) (o_index_b Tryz.underlying9 rfl rfl (imp_t (imp_f g543 c545) c546)) ?_
      refine wl_on rfl rfl c546 ?_
      refine wv (r := rB (decide ((bat s (x445 - 1)) = 44))) (o_eq rfl rfl) ?_
      refine wl_on rfl rfl c545 ?_
      refine wpt rfl c546 rfl ?_
      refine wpf rfl c545 rfl ?_
      refine wl_nil ?_
      exact wk_then (wk_mid (Sub.c rfl (Sub.c rfl (Sub.c rfl (Sub.c5 rfl rfl rfl rfl rfl (Sub.c5 rfl rfl rfl rfl rfl (Sub.c (by first | rfl | (simp only [c545, c546]; rfl) | simp [c545, c546]) Sub.nil)))))) (sC (sC sN)))
     ·refine wl_off rfl rfl c546 rfl ?_
      refine wl_off rfl rfl c546 rfl ?_
      refine wl_off rfl rfl c546 rfl ?_
      refine wl_off rfl rfl c546 rfl ?_
      refine wl_off rfl rfl c546 rfl ?_
      refine wl_on rfl rfl c545 ?_
      refine wv (r := rB false) (o_pick_f (b := decide (0 < x446.fN)) rfl c546 rfl) ?_
      refine wpf rfl c545 rfl ?_
      refine wl_nil ?_
      exact wk_then (wk_mid (Sub.c rfl (Sub.c rfl (Sub.c rfl (Sub.c5 rfl rfl rfl rfl rfl (Sub.c5 rfl rfl rfl rfl rfl (Sub.c (by first | rfl | (simp only [c545, c546]; rfl) | simp [c545, c546]) Sub.nil)))))) (sC (sC sN)))
   refine wc_cond (b := ((!(ov (rStarts s x445 ([125] : Str)))) || ((decide (0 < x446.fN)) && (decide ((bat s (x445 - 1)) = 44))))) rfl (fun c547 => ?_) (fun c547 => ?_)
   ·have h548 := cnd_t c547 h544
    refine wc_skip ?_
    refine wk_x ?_
    refine wc_block ?_
    refine wc_seq ?_
    refine wc_sr ?_
    refine wv (r := rv (.pointer (some ⟨b1, 0, none⟩))) (o_fieldAddr Tryz.underlying63 rfl Tryz.sizeOf61 rfl rfl) ?_
    refine wv (r := rI .i64 x446.fKind) (o_load (i := 0) Tryz.isAgg61 rfl rfl rfl) ?_
    refine wv (r := rB (decide (x446.fKind = 6))) (o_eq rfl rfl) ?_
    refine wl_x ?_
    refine wc_cond (b := decide (x446.fKind = 6)) rfl (fun c549 => ?_) (fun c549 => ?_)
    ·have h550 := cnd_t c549 h548
     refine wc_sr ?_
     refine wm rfl ?_
     refine wm rfl ?_
     obtain ⟨r551, e553, h552⟩ := obn_e h550
     refine wc0 Tryz.call68 (rReadString_w F s x445 r551 e553) rfl ?_
     refine wm rfl ?_
     refine wv (r := rS r551.1) (o_extract rfl rfl) ?_
     refine wv (r := rI .i64 r551.2) (o_extract rfl rfl) ?_
     refine wa rfl ?_
     refine wa rfl ?_
     refine wl_x ?_
     refine wc_seq ?_
     obtain ⟨g554, h555⟩ := chk_e h552
     refine wc_seq_mid [(0, rS s), (4, rv (.slice none 0 0)), (5, rI .i64 0), (6, rv (.pointer (some ⟨b1, 0, none⟩))), (7, rS ([125] : Str)), (8, rv v444), (9, rI .i64 x445), (10, rS r551.1), (11, rI .i64 r551.2), (23, rS s), (24, rI .i64 x445), (25, rS ([125] : Str)), (26, rB (ov (rStarts s x445 ([125] : Str)))), (27, rB (!(ov (rStarts s x445 ([125] : Str))))), (28, rB (!(ov (rStarts s x445 ([125] : Str))))), (39, rB ((!(ov (rStarts s x445 ([125] : Str)))) || ((decide (0 < x446.fN)) && (decide ((bat s (x445 - 1)) = 44))))), (40, rv (.pointer (some ⟨b1, 0, none⟩))), (41, rI .i64 x446.fKind), (42, rB (decide (x446.fKind = 6))), (43, rTup [rS r551.1, rI .i64 r551.2]), (44, rS s), (45, rI .i64 x445), (46, rTup [rS r551.1, rI .i64 r551.2]), (47, rS r551.1), (48, rI .i64 r551.2), (49, rI .i64 r551.2), (50, rB (decide (r551.2 < 0))), (51, rB (decide (r551.2 < 0))), (56, rB ((decide (r551.2 < 0)) || (!(ov (rStarts s r551.2 ([58] : Str))))))] [.blk b1 (eTApiCell x446) 63, .row v444 63 4 (List.map eTApiCell x443)] ?_ ?_
     ·refine wc_region ?_
      refine wm rfl ?_
      refine wv (r := rB (decide (r551.2 < 0))) (o_lt rfl rfl) ?_
      refine wm rfl ?_
      refine bsplit (decide (r551.2 < 0)) (fun c556 => ?_) (fun c556 => ?_)
      ·refine wl_off rfl rfl c556 rfl ?_
       refine wl_off rfl rfl c556 rfl ?_
       refine wl_off rfl rfl c556 rfl ?_
       refine wl_off rfl rfl c556 rfl ?_
       refine wv (r := rB true) (o_pick_t (b := decide (r551.2 < 0)) rfl c556 rfl) ?_
       refine wl_nil ?_
       exact wk_then (wk_mid (Sub.c rfl (Sub.c rfl (Sub.c rfl (Sub.c5 rfl rfl rfl rfl rfl (Sub.c5 rfl rfl rfl rfl rfl (Sub.c5 rfl rfl rfl rfl rfl (Sub.c5 rfl rfl rfl rfl rfl (Sub.c5 rfl rfl rfl rfl rfl (Sub.c (by first | rfl | (simp only [c556]; rfl) | simp [c556]) Sub.nil))))))))) (sC (sC sN)))
      ·refine wl_on rfl rfl c556 ?_
       refine wm rfl ?_
       refine wl_on rfl rfl c556 ?_
       refine wm rfl ?_
       refine wl_on rfl rfl c556 ?_
       refine wc0 Tryz.call67 (rStarts_w s r551.2 ([58] : Str) (ov (rStarts s r551.2 ([58] : Str))) (ov_e (imp_f g554 c556))) rfl ?_
       refine wl_on rfl rfl c556 ?_
       refine wv (r := rB (!(ov (rStarts s r551.2 ([58] : Str))))) (o_not rfl) ?_
       refine wpf rfl c556 rfl ?_
       refine wl_nil ?_
       exact wk_then (wk_mid (Sub.c rfl (Sub.c rfl (Sub.c rfl (Sub.c5 rfl rfl rfl rfl rfl (Sub.c5 rfl rfl rfl rfl rfl (Sub.c5 rfl rfl rfl rfl rfl (Sub.c5 rfl rfl rfl rfl rfl (Sub.c5 rfl rfl rfl rfl rfl (Sub.c (by first | rfl | (simp only [c556]; rfl) | simp [c556]) Sub.nil))))))))) (sC (sC sN)))
     refine wc_cond (b := ((decide (r551.2 < 0)) || (!(ov (rStarts s r551.2 ([58] : Str)))))) rfl (fun c557 => ?_) (fun c557 => ?_)
     ·have h558 := cnd_t c557 h555
      refine wc_sr ?_
      refine wv (r := rv (.slice none 0 0)) (o_assign rfl) ?_
      refine wv (r := rI .i64 (-1)) (o_assign rfl) ?_
      refine wl_x ?_
      refine wc_ret ?_
      refine wk_then_ret ?_
      refine wk_then_ret ?_
      refine wk_in_ret ?_
      refine wk_then_ret ?_
      refine wk_cut_ret ?_
      have h559 := stp_ret h558 ht534 hK532
      refine wk_in_ret ?_
      refine wk_then_ret ?_
      refine WK.up (d := 4) (r := rSl 4 (List.map eTApiCell ([] : List TApiCell))) rfl (Up.le (Rle.nil _)) ?_
      obtain rfl := some_e h559
      exact wk_ret (r_2 Tryz.results69 (rv_t rfl) (rv_t rfl)) (sS (sS sN)) ⟨rfl, rfl⟩
     ·have h560 := cnd_f c557 h555
      refine wc_skip ?_
      refine wk_x ?_
      refine wc_sr ?_
      refine wm rfl ?_
      refine wm rfl ?_
      refine wv (r := rAgg [rI .i64 4, rI .i64 0, rS r551.1, rI .i64 0]) (o_build63_0_2 rfl rfl rfl rfl) ?_
      refine w_buildSlice (ys := ([(TApiCell.mk 4 0 r551.1 0)] : List TApiCell)) (enc := eTApiCell) (css := [[rI .i64 4, rI .i64 0, rS r551.1, rI .i64 0]]) (xs := [.tmp 59]) Tryz.underlying23 Tryz.sizeOf63 Tryz.zeroValue63 rfl rfl rfl ⟨Cel.agg ⟨Up.refl _, Up.refl _, Up.refl _, Up.refl _, trivial⟩, trivial⟩ rfl eTApiCell_len rfl rfl rfl (fun b561 => ?_)
      obtain ⟨g563, h564⟩ := chk_e h560
      obtain ⟨inf, hinf⟩ := info63
      refine w_append (xs := x443) (ys := ([(TApiCell.mk 4 0 r551.1 0)] : List TApiCell)) (enc := eTApiCell) (i := 2) Tryz.underlying23 hinf.1 hinf.2.1 hinf.2.2.1 hinf.2.2.2 rfl rfl rfl rfl rfl (Src.w (i := 0) rfl rfl) eTApiCell_len eTApiCell_one g563 rfl (fun v562 => ?_)
      refine wa rfl ?_
      refine wl_x ?_
      refine wc_region ?_
      refine wm rfl ?_
      obtain ⟨g565, h566⟩ := chk_e h564
      refine wv (r := rI .i64 (r551.2 + 1)) (o_add rfl rfl g565) ?_
      refine wa rfl ?_
      refine wl_y ?_
      refine wm rfl ?_
      refine wm rfl ?_
      obtain ⟨r567, e569, h568⟩ := obn_e h566
      refine wc0 Tryz.call46 (ih_rRead s (r551.2 + 1) r567 e569) rfl ?_
      refine wm rfl ?_
      refine wv (r := rSl 4 (List.map eTApiCell r567.1)) (o_extract rfl rfl) ?_
      refine wv (r := rI .i64 r567.2) (o_extract rfl rfl) ?_
      refine wa rfl ?_
      refine wa rfl ?_
      refine wl_x ?_
      refine wc_seq ?_
      refine wc_sr ?_
      refine wm rfl ?_
      refine wv (r := rB (decide (r567.2 < 0))) (o_lt rfl rfl) ?_
      refine wl_x ?_
      refine wc_cond (b := decide (r567.2 < 0)) rfl (fun c570 => ?_) (fun c570 => ?_)
      ·have h571 := cnd_t c570 h568
       refine wc_sr ?_
       refine wv (r := rv (.slice none 0 0)) (o_assign rfl) ?_
       refine wv (r := rI .i64 (-1)) (o_assign rfl) ?_
       refine wl_x ?_
       refine wc_ret ?_
       refine wk_then_ret ?_
       refine wk_in_ret ?_
       refine wk_then_ret ?_
       refine wk_cut_ret ?_
       have h572 := stp_ret h571 ht534 hK532
       refine wk_in_ret ?_
       refine wk_then_ret ?_
       refine WK.up (d := 4) (r := rSl 4 (List.map eTApiCell ([] : List TApiCell))) rfl (Up.le (Rle.nil _)) ?_
       obtain rfl := some_e h572
       exact wk_ret (r_2 Tryz.results69 (rv_t rfl) (rv_t rfl)) (sS (sS (sS sN))) ⟨rfl, rfl⟩
      ·have h573 := cnd_f c570 h568
       refine wc_skip ?_
       refine wk_x ?_
       refine wc_sr ?_
       refine wm rfl ?_
       refine wm rfl ?_
       obtain ⟨g575, h576⟩ := chk_e h573
       obtain ⟨inf, hinf⟩ := info63
       refine w_append (xs := x443 ++ ([(TApiCell.mk 4 0 r551.1 0)] : List TApiCell)) (ys := r567.1) (enc := eTApiCell) (i := 0) Tryz.underlying23 hinf.1 hinf.2.1 hinf.2.2.1 hinf.2.2.2 rfl rfl rfl rfl rfl (Src.z rfl rfl) eTApiCell_len eTApiCell_one g575 rfl (fun v574 => ?_)
       refine wa rfl ?_
       refine wl_y ?_
       refine wv (r := rv (.pointer (some ⟨b1, 3, none⟩))) (o_fieldAddr Tryz.underlying63 rfl Tryz.sizeOf3 rfl rfl) ?_
       refine wv (r := rI .i64 x446.fN) (o_load (i := 2) Tryz.isAgg3 rfl rfl rfl) ?_
       obtain ⟨g577, h578⟩ := chk_e h576
       refine wv (r := rI .i64 (x446.fN + 1)) (o_add rfl rfl g577) ?_
       refine wv (r := rv (.pointer (some ⟨b1, 3, none⟩))) (o_fieldAddr Tryz.underlying63 rfl Tryz.sizeOf3 rfl rfl) ?_
       refine u_store (i := 2) Tryz.sizeOf3 rfl rfl (one_c rfl) rfl rfl (cs' := [rI .i64 x446.fKind, rI .i64 x446.fInt, rS x446.fStr, rI .i64 (x446.fN + 1)]) rfl (H' := [.row v574 63 4 (List.map eTApiCell ((x443 ++ ([(TApiCell.mk 4 0 r551.1 0)] : List TApiCell)) ++ r567.1)), .row (.slice (some ⟨b561, 0, none⟩) 1 1) 63 4 (List.map eTApiCell ([(TApiCell.mk 4 0 r551.1 0)] : List TApiCell)), .blk b1 [rI .i64 x446.fKind, rI .i64 x446.fInt, rS x446.fStr, rI .i64 (x446.fN + 1)] 63]) rfl ?_
       refine wl_y ?_
       refine wm rfl ?_
       refine wa rfl ?_
       refine wl_y ?_
       refine wm rfl ?_
       refine wm rfl ?_
       obtain ⟨r579, e581, h580⟩ := obn_e h578
       refine wc0 Tryz.call67 (rStarts_w s r567.2 ([44] : Str) r579 e581) rfl ?_
       refine wl_x ?_
       refine wc_cond (b := r579) rfl (fun c582 => ?_) (fun c582 => ?_)
       ·have h583 := cnd_t c582 h580
        refine wc_region ?_
        refine wm rfl ?_
        obtain ⟨g584, h585⟩ := chk_e h583
        refine wv (r := rI .i64 (r567.2 + 1)) (o_add rfl rfl g584) ?_
        refine wa rfl ?_
        refine wl_nil ?_
        refine wk_in_norm ?_
        refine wk_perm (H2 := [.blk b1 [rI .i64 x446.fKind, rI .i64 x446.fInt, rS x446.fStr, rI .i64 (x446.fN + 1)] 63, .row v574 63 4 (List.map eTApiCell ((x443 ++ ([(TApiCell.mk 4 0 r551.1 0)] : List TApiCell)) ++ r567.1)), .row (.slice (some ⟨b561, 0, none⟩) 1 1) 63 4 (List.map eTApiCell ([(TApiCell.mk 4 0 r551.1 0)] : List TApiCell))]) ((perm_front (i := 2) rfl).trans (List.Perm.cons _ (List.Perm.refl _))) ?_
        have h586 := stp_next h585 ht534
        exact wk_then (wk_some (m535, ((x443 ++ ([(TApiCell.mk 4 0 r551.1 0)] : List TApiCell)) ++ r567.1, r567.2 + 1, (TApiCell.mk x446.fKind x446.fInt x446.fStr (x446.fN + 1))), v574) ⟨h586, Nat.lt_succ_self _⟩ (Sub.c rfl (Sub.c rfl (Sub.c5 rfl rfl rfl rfl rfl Sub.nil))) (sC (sC (sS sN))))
       ·have h587 := cnd_f c582 h580
        refine wc_sr ?_
        refine wm rfl ?_
        refine wm rfl ?_
        refine wm rfl ?_
        obtain ⟨r588, e590, h589⟩ := obn_e h587
        refine wc0 Tryz.call67 (rStarts_w s r567.2 ([125] : Str) r588 e590) rfl ?_
        refine wv (r := rB (!r588)) (o_not rfl) ?_
        refine wl_x ?_
        refine wc_cond (b := !r588) rfl (fun c591 => ?_) (fun c591 => ?_)
        ·have h592 := cnd_t c591 h589
         refine wc_sr ?_
         refine wv (r := rv (.slice none 0 0)) (o_assign rfl) ?_
         refine wv (r := rI .i64 (-1)) (o_assign rfl) ?_
         refine wl_x ?_
         refine wc_ret ?_
         refine wk_in_ret ?_
         refine wk_then_ret ?_
         refine wk_cut_ret ?_
         have h593 := stp_ret h592 ht534 hK532
         refine wk_in_ret ?_
         refine wk_then_ret ?_
         refine WK.up (d := 4) (r := rSl 4 (List.map eTApiCell ([] : List TApiCell))) rfl (Up.le (Rle.nil _)) ?_
         obtain rfl := some_e h593
         exact wk_ret (r_2 Tryz.results69 (rv_t rfl) (rv_t rfl)) (sS (sS (sS sN))) ⟨rfl, rfl⟩
        ·have h594 := cnd_f c591 h589
         refine wc_skip ?_
         refine wk_in_norm ?_
         refine wk_perm (H2 := [.blk b1 [rI .i64 x446.fKind, rI .i64 x446.fInt, rS x446.fStr, rI .i64 (x446.fN + 1)] 63, .row v574 63 4 (List.map eTApiCell ((x443 ++ ([(TApiCell.mk 4 0 r551.1 0)] : List TApiCell)) ++ r567.1)), .row (.slice (some ⟨b561, 0, none⟩) 1 1) 63 4 (List.map eTApiCell ([(TApiCell.mk 4 0 r551.1 0)] : List TApiCell))]) ((perm_front (i := 2) rfl).trans (List.Perm.cons _ (List.Perm.refl _))) ?_
         have h595 := stp_next h594 ht534
         exact wk_then (wk_some (m535, ((x443 ++ ([(TApiCell.mk 4 0 r551.1 0)] : List TApiCell)) ++ r567.1, r567.2, (TApiCell.mk x446.fKind x446.fInt x446.fStr (x446.fN + 1))), v574) ⟨h595, Nat.lt_succ_self _⟩ (Sub.c rfl (Sub.c rfl (Sub.c5 rfl rfl rfl rfl rfl Sub.nil))) (sC (sC (sS sN))))
    ·have h596 := cnd_f c549 h548
     refine wc_skip ?_
     refine wk_x ?_
     refine wc_sr ?_
     refine wm rfl ?_
     refine wm rfl ?_
     obtain ⟨r597, e599, h598⟩ := obn_e h596
     refine wc0 Tryz.call46 (ih_rRead s x445 r597 e599) rfl ?_
     refine wm rfl ?_
     refine wv (r := rSl 4 (List.map eTApiCell r597.1)) (o_extract rfl rfl) ?_
     refine wv (r := rI .i64 r597.2) (o_extract rfl rfl) ?_
     refine wa rfl ?_
     refine wa rfl ?_
     refine wl_x ?_
     refine wc_seq ?_
     refine wc_sr ?_
     refine wm rfl ?_
     refine wv (r := rB (decide (r597.2 < 0))) (o_lt rfl rfl) ?_
     refine wl_x ?_
     refine wc_cond (b := decide (r597.2 < 0)) rfl (fun c600 => ?_) (fun c600 => ?_)
     ·have h601 := cnd_t c600 h598
      refine wc_sr ?_
      refine wv (r := rv (.slice none 0 0)) (o_assign rfl) ?_
      refine wv (r := rI .i64 (-1)) (o_assign rfl) ?_
      refine wl_x ?_
      refine wc_ret ?_
      refine wk_then_ret ?_
      refine wk_in_ret ?_
      refine wk_then_ret ?_
      refine wk_cut_ret ?_
      have h602 := stp_ret h601 ht534 hK532
      refine wk_in_ret ?_
      refine wk_then_ret ?_
      refine WK.up (d := 4) (r := rSl 4 (List.map eTApiCell ([] : List TApiCell))) rfl (Up.le (Rle.nil _)) ?_
      obtain rfl := some_e h602
      exact wk_ret (r_2 Tryz.results69 (rv_t rfl) (rv_t rfl)) (sS (sS sN)) ⟨rfl, rfl⟩
     ·have h603 := cnd_f c600 h598
      refine wc_skip ?_
      refine wk_x ?_
      refine wc_sr ?_
      refine wm rfl ?_
      refine wm rfl ?_
      obtain ⟨g605, h606⟩ := chk_e h603
      obtain ⟨inf, hinf⟩ := info63
      refine w_append (xs := x443) (ys := r597.1) (enc := eTApiCell) (i := 1) Tryz.underlying23 hinf.1 hinf.2.1 hinf.2.2.1 hinf.2.2.2 rfl rfl rfl rfl rfl (Src.z rfl rfl) eTApiCell_len eTApiCell_one g605 rfl (fun v604 => ?_)
      refine wa rfl ?_
      refine wl_y ?_
      refine wv (r := rv (.pointer (some ⟨b1, 3, none⟩))) (o_fieldAddr Tryz.underlying63 rfl Tryz.sizeOf3 rfl rfl) ?_
      refine wv (r := rI .i64 x446.fN) (o_load (i := 1) Tryz.isAgg3 rfl rfl rfl) ?_
      obtain ⟨g607, h608⟩ := chk_e h606
      refine wv (r := rI .i64 (x446.fN + 1)) (o_add rfl rfl g607) ?_
      refine wv (r := rv (.pointer (some ⟨b1, 3, none⟩))) (o_fieldAddr Tryz.underlying63 rfl Tryz.sizeOf3 rfl rfl) ?_
      refine u_store (i := 1) Tryz.sizeOf3 rfl rfl (one_c rfl) rfl rfl (cs' := [rI .i64 x446.fKind, rI .i64 x446.fInt, rS x446.fStr, rI .i64 (x446.fN + 1)]) rfl (H' := [.row v604 63 4 (List.map eTApiCell (x443 ++ r597.1)), .blk b1 [rI .i64 x446.fKind, rI .i64 x446.fInt, rS x446.fStr, rI .i64 (x446.fN + 1)] 63]) rfl ?_
      refine wl_y ?_
      refine wm rfl ?_
      refine wa rfl ?_
      refine wl_y ?_
      refine wm rfl ?_
      refine wm rfl ?_
      obtain ⟨r609, e611, h610⟩ := obn_e h608
      refine wc0 Tryz.call67 (rStarts_w s r597.2 ([44] : Str) r609 e611) rfl ?_
      refine wl_x ?_
      refine wc_cond (b := r609) rfl (fun c612 => ?_) (fun c612 => ?_)
      ·have h613 := cnd_t c612 h610
       refine wc_region ?_
       refine wm rfl ?_
       obtain ⟨g614, h615⟩ := chk_e h613
       refine wv (r := rI .i64 (r597.2 + 1)) (o_add rfl rfl g614) ?_
       refine wa rfl ?_
       refine wl_nil ?_
       refine wk_in_norm ?_
       refine wk_perm (H2 := [.blk b1 [rI .i64 x446.fKind, rI .i64 x446.fInt, rS x446.fStr, rI .i64 (x446.fN + 1)] 63, .row v604 63 4 (List.map eTApiCell (x443 ++ r597.1))]) ((perm_front (i := 1) rfl).trans (List.Perm.cons _ (List.Perm.refl _))) ?_
       have h616 := stp_next h615 ht534
       exact wk_then (wk_some (m535, (x443 ++ r597.1, r597.2 + 1, (TApiCell.mk x446.fKind x446.fInt x446.fStr (x446.fN + 1))), v604) ⟨h616, Nat.lt_succ_self _⟩ (Sub.c rfl (Sub.c rfl (Sub.c5 rfl rfl rfl rfl rfl Sub.nil))) (sC (sC sN)))
      ·have h617 := cnd_f c612 h610
       refine wc_sr ?_
       refine wm rfl ?_
       refine wm rfl ?_
       refine wm rfl ?_
       obtain ⟨r618, e620, h619⟩ := obn_e h617
       refine wc0 Tryz.call67 (rStarts_w s r597.2 ([125] : Str) r618 e620) rfl ?_
       refine wv (r := rB (!r618)) (o_not rfl) ?_
       refine wl_x ?_
       refine wc_cond (b := !r618) rfl (fun c621 => ?_) (fun c621 => ?_)
       ·have h622 := cnd_t c621 h619
        refine wc_sr ?_
        refine wv (r := rv (.slice none 0 0)) (o_assign rfl) ?_
        refine wv (r := rI .i64 (-1)) (o_assign rfl) ?_
        refine wl_x ?_
        refine wc_ret ?_
        refine wk_in_ret ?_
        refine wk_then_ret ?_
        refine wk_cut_ret ?_
        have h623 := stp_ret h622 ht534 hK532
        refine wk_in_ret ?_
        refine wk_then_ret ?_
        refine WK.up (d := 4) (r := rSl 4 (List.map eTApiCell ([] : List TApiCell))) rfl (Up.le (Rle.nil _)) ?_
        obtain rfl := some_e h623
        exact wk_ret (r_2 Tryz.results69 (rv_t rfl) (rv_t rfl)) (sS (sS sN)) ⟨rfl, rfl⟩
       ·have h624 := cnd_f c621 h619
        refine wc_skip ?_
        refine wk_in_norm ?_
        refine wk_perm (H2 := [.blk b1 [rI .i64 x446.fKind, rI .i64 x446.fInt, rS x446.fStr, rI .i64 (x446.fN + 1)] 63, .row v604 63 4 (List.map eTApiCell (x443 ++ r597.1))]) ((perm_front (i := 1) rfl).trans (List.Perm.cons _ (List.Perm.refl _))) ?_
        have h625 := stp_next h624 ht534
        exact wk_then (wk_some (m535, (x443 ++ r597.1, r597.2, (TApiCell.mk x446.fKind x446.fInt x446.fStr (x446.fN + 1))), v604) ⟨h625, Nat.lt_succ_self _⟩ (Sub.c rfl (Sub.c rfl (Sub.c5 rfl rfl rfl rfl rfl Sub.nil))) (sC (sC sN)))
   ·have h626 := cnd_f c547 h544
    refine wc_exit ?_
    refine wk_then_exit ?_
    have h627 := stp_go h626 ht534 hK532
    exact wk_then_exit (wk_cut_hit (wk_some ((x443, x445, x446), v444) h627 (Sub.c5 rfl rfl rfl rfl rfl Sub.nil) (sC (sC sN))))
  ·rintro ⟨⟨x526, x528, x529⟩, v527⟩ h628
   refine wk_as (l' := [(4, rv (.slice none 0 0)), (5, rI .i64 0), (6, rv (.pointer (some ⟨b1, 0, none⟩))), (8, rv v527), (9, rI .i64 x528)]) (H' := [.blk b1 (eTApiCell x529) 63, .row v527 63 4 (List.map eTApiCell x526)]) rfl rfl ?_
   replace h628 : rReadMany_k1 x526 x528 x529 = some r := h628
   unfold rReadMany_k1 at h628
   refine wk_in_hit ?_
   refine wk_x ?_
   refine wc_sr ?_
   refine wv (r := rAgg (eTApiCell x529)) (o_load_agg (i := 0) Tryz.isAgg63 Tryz.sizeOf63 rfl rfl rfl rfl) ?_
   refine w_buildSlice (ys := ([x529] : List TApiCell)) (enc := eTApiCell) (css := [[rI .i64 x529.fKind, rI .i64 x529.fInt, rS x529.fStr, rI .i64 x529.fN]]) (xs := [.tmp 90]) Tryz.underlying23 Tryz.sizeOf63 Tryz.zeroValue63 rfl rfl rfl ⟨Cel.agg ⟨Up.refl _, Up.refl _, Up.refl _, Up.refl _, trivial⟩, trivial⟩ rfl eTApiCell_len rfl rfl rfl (fun b629 => ?_)
   refine wa rfl ?_
   refine wl_y ?_
   refine wm rfl ?_
   refine wm rfl ?_
   obtain ⟨g631, h632⟩ := chk_e h628
   obtain ⟨inf, hinf⟩ := info63
   refine w_append (xs := ([x529] : List TApiCell)) (ys := x526) (enc := eTApiCell) (i := 0) Tryz.underlying23 hinf.1 hinf.2.1 hinf.2.2.1 hinf.2.2.2 rfl rfl rfl rfl rfl (Src.w (i := 2) rfl rfl) eTApiCell_len eTApiCell_one g631 rfl (fun v630 => ?_)
   refine wa rfl ?_
   refine wl_y ?_
   refine wm rfl ?_
   refine wm rfl ?_
   obtain ⟨g633, h634⟩ := chk_e h632
   refine wv (r := rI .i64 (x528 + 1)) (o_add rfl rfl g633) ?_
   refine wa rfl ?_
   refine wa rfl ?_
   refine wl_x ?_
   refine wc_ret ?_
   refine WK.freeze (i := 0) rfl ?_
   refine WK.up (d := 4) (r := rSl 4 (List.map eTApiCell (([x529] : List TApiCell) ++ x526))) rfl (Up.fact (i := 0) rfl) ?_
   obtain rfl := some_e h634
   exact wk_ret (r_2 Tryz.results69 (rv_t rfl) (rv_t rfl)) (sS (sS (sS sN))) ⟨rfl, rfl⟩
 ·have h635 := cnd_f c4 h3
  refine wc_skip ?_
  refine wk_x ?_
  refine wc_sr ?_
  refine wv (r := rv (.slice none 0 0)) (o_assign rfl) ?_
  refine wl_y ?_
  refine wm rfl ?_
  obtain ⟨g636, h637⟩ := chk_e h635
  refine wv (r := rI .i64 (at_ + 1)) (o_add rfl rfl g636) ?_
  refine wa rfl ?_
  refine wl_x ?_
  refine wc_seq ?_
  refine wc_block ?_
  refine WC.nilrow (e := 63) (sz := 4) ?_
  refine wc_perm (H2 := [.blk b1 [rI .i64 5, rI .i64 0, rS ([] : Str), rI .i64 0] 63, .row (.slice none 0 0) 63 4 (List.map eTApiCell ([] : List TApiCell))]) ((perm_front (i := 1) rfl).trans (List.Perm.cons _ (List.Perm.refl _))) ?_
  obtain ⟨o1130, eo1131, hK1132⟩ := obn_e h637
  refine wc_loop2 (S := Nat × ((List TApiCell) × Int × TApiCell) × (Value)) (V := ((List TApiCell) × Int × TApiCell) × (Value)) 0 (fun σ => lop (fun σ => rReadMany_b2 F s rec_rRead σ.1 σ.2.1 σ.2.2) σ.1 σ.2.1 = some o1130) (fun σ => [(0, rS s), (4, rv (.slice none 0 0)), (5, rI .i64 0), (6, rv (.pointer (some ⟨b1, 0, none⟩))), (7, rS ([93] : Str)), (8, rv σ.2.2), (9, rI .i64 σ.2.1.2.1)]) (fun σ => [.blk b1 (eTApiCell σ.2.1.2.2) 63, .row σ.2.2 63 4 (List.map eTApiCell σ.2.1.1)]) (fun σ => σ.1) (F, (([] : List TApiCell), at_ + 1, (TApiCell.mk 5 0 ([] : Str) 0)), (.slice none 0 0)) eo1131 (Sub.c rfl (Sub.c rfl (Sub.c5 rfl rfl rfl rfl rfl Sub.nil))) (sC (sC sN)) (fun σ => rReadMany_k2 σ.1.1 σ.1.2.1 σ.1.2.2 = some r) (fun σ => [(4, rv (.slice none 0 0)), (5, rI .i64 0), (6, rv (.pointer (some ⟨b1, 0, none⟩))), (8, rv σ.2), (9, rI .i64 σ.1.2.1)]) (fun σ => [.blk b1 (eTApiCell σ.1.2.2) 63, .row σ.2 63 4 (List.map eTApiCell σ.1.1)]) ?_ ?_
  ·rintro ⟨n1138, ⟨x1043, x1045, x1046⟩, v1044⟩ hi1136
   refine wc_as (l' := [(0, rS s), (4, rv (.slice none 0 0)), (5, rI .i64 0), (6, rv (.pointer (some ⟨b1, 0, none⟩))), (7, rS ([93] : Str)), (8, rv v1044), (9, rI .i64 x1045)]) (H' := [.blk b1 (eTApiCell x1046) 63, .row v1044 63 4 (List.map eTApiCell x1043)]) rfl rfl ?_
   obtain ⟨m1135, rfl, t1133, h1137, ht1134⟩ := lop_e hi1136
   replace h1137 : rReadMany_b2 F s rec_rRead x1043 x1045 x1046 = some t1133 := h1137
   unfold rReadMany_b2 at h1137
   refine wc_seq ?_
   obtain ⟨g1139, h1140⟩ := chk_e h1137
   obtain ⟨g1141, h1142⟩ := chk_e h1140
   obtain ⟨g1143, h1144⟩ := chk_e h1142
   refine wc_seq_mid [(0, rS s), (4, rv (.slice none 0 0)), (5, rI .i64 0), (6, rv (.pointer (some ⟨b1, 0, none⟩))), (7, rS ([93] : Str)), (8, rv v1044), (9, rI .i64 x1045), (23, rS s), (24, rI .i64 x1045), (25, rS ([93] : Str)), (26, rB (ov (rStarts s x1045 ([93] : Str)))), (27, rB (!(ov (rStarts s x1045 ([93] : Str))))), (28, rB (!(ov (rStarts s x1045 ([93] : Str))))), (39, rB ((!(ov (rStarts s x1045 ([93] : Str)))) || ((decide (0 < x1046.fN)) && (decide ((bat s (x1045 - 1)) = 44)))))] [.blk b1 (eTApiCell x1046) 63, .row v1044 63 4 (List.map eTApiCell x1043)] ?_ ?_
   ·refine wc_region ?_
    refine wm rfl ?_
    refine wm rfl ?_
    refine wm rfl ?_
    refine wc0 Tryz.call67 (rStarts_w s x1045 ([93] : Str) (ov (rStarts s x1045 ([93] : Str))) (ov_e g1139)) rfl ?_
    refine wv (r := rB (!(ov (rStarts s x1045 ([93] : Str))))) (o_not rfl) ?_
    refine wm rfl ?_
    refine bsplit (!(ov (rStarts s x1045 ([93] : Str)))) (fun c1145 => ?_) (fun c1145 => ?_)
    ·refine wl_off rfl rfl c1145 rfl ?_
     refine wl_off rfl rfl c1145 rfl ?_
     refine wl_off rfl rfl c1145 rfl ?_
     refine wl_off rfl rfl c1145 rfl ?_
     refine wl_off_u rfl rfl rfl ?_
     refine wl_off_u rfl rfl rfl ?_
     refine wl_off_u rfl rfl rfl ?_
     refine wl_off_u rfl rfl rfl ?_
     refine wl_off_u rfl rfl rfl ?_
     refine wl_off rfl rfl c1145 rfl ?_
     refine wv (r := rB true) (o_pick_t (b := !(ov (rStarts s x1045 ([93] : Str)))) rfl c1145 rfl) ?_
     refine wl_nil ?_
     exact wk_then (wk_mid (Sub.c rfl (Sub.c rfl (Sub.c rfl (Sub.c5 rfl rfl rfl rfl rfl (Sub.c5 rfl rfl rfl rfl rfl (Sub.c (by first | rfl | (simp only [c1145]; rfl) | simp [c1145]) Sub.nil)))))) (sC (sC sN)))
    ·refine wl_on rfl rfl c1145 ?_
     refine wv (r := rv (.pointer (some ⟨b1, 3, none⟩))) (o_fieldAddr Tryz.underlying63 rfl Tryz.sizeOf3 rfl rfl) ?_
     refine wl_on rfl rfl c1145 ?_
     refine wv (r := rI .i64 x1046.fN) (o_load (i := 0) Tryz.isAgg3 rfl rfl rfl) ?_
     refine wl_on rfl rfl c1145 ?_
     refine wv (r := rB (decide (0 < x1046.fN))) (o_gt rfl rfl) ?_
     refine wl_on rfl rfl c1145 ?_
     refine wm rfl ?_
     refine bsplit (decide (0 < x1046.fN)) (fun c1146 => ?_) (fun c1146 => ?_)
     ·refine wl_on rfl rfl c1146 ?_
      refine wm rfl ?_
      refine wl_on rfl rfl c1146 ?_
      refine wm rfl ?_
      refine wl_on rfl rfl c1146 ?_
      refine wv (r := rI .i64 (x1045 - 1)) (o_sub rfl rfl (imp_t (imp_f g1141 c1145) c1146)) ?_
      refine wl_on rfl rfl c1146 ?_
      refine wv (r := rI .u8 (bat s (x1045 - 1))) (o_index_b Tryz.underlying9 rfl rfl (imp_t (imp_f g1143 c1145) c1146)) ?_
      refine wl_on rfl rfl c1146 ?_
      refine wv (r := rB (decide ((bat s (x1045 - 1)) = 44))) (o_eq rfl rfl) ?_
      refine wl_on rfl rfl c1145 ?_
      refine wpt rfl c1146 rfl ?_
      refine wpf rfl c1145 rfl ?_
      refine wl_nil ?_
      exact wk_then (wk_mid (Sub.c rfl (Sub.c rfl (Sub.c rfl (Sub.c5 rfl rfl rfl rfl rfl (Sub.c5 rfl rfl rfl rfl rfl (Sub.c (by first | rfl | (simp only [c1145, c1146]; rfl) | simp [c1145, c1146]) Sub.nil)))))) (sC (sC sN)))
     ·refine wl_off rfl rfl c1146 rfl ?_
      refine wl_off rfl rfl c1146 rfl ?_
      refine wl_off rfl rfl c1146 rfl ?_
      refine wl_off rfl rfl c1146 rfl ?_
      refine wl_off rfl rfl c1146 rfl ?_
      refine wl_on rfl rfl c1145 ?_
      refine wv (r := rB false) (o_pick_f (b := decide (0 < x1046.fN)) rfl c1146 rfl) ?_
      refine wpf rfl c1145 rfl ?_
      refine wl_nil ?_
      exact wk_then (wk_mid (Sub.c rfl (Sub.c rfl (Sub.c rfl (Sub.c5 rfl rfl rfl rfl rfl (Sub.c5 rfl rfl rfl rfl rfl (Sub.c (by first | rfl | (simp only [c1145, c1146]; rfl) | simp [c1145, c1146]) Sub.nil)))))) (sC (sC sN)))
   refine wc_cond (b := ((!(ov (rStarts s x1045 ([93] : Str)))) || ((decide (0 < x1046.fN)) && (decide ((bat s (x1045 - 1)) = 44))))) rfl (fun c1147 => ?_) (fun c1147 => ?_)
   ·have h1148 := cnd_t c1147 h1144
    refine wc_skip ?_
    refine wk_x ?_
    refine wc_block ?_
    refine wc_seq ?_
    refine wc_sr ?_
    refine wv (r := rv (.pointer (some ⟨b1, 0, none⟩))) (o_fieldAddr Tryz.underlying63 rfl Tryz.sizeOf61 rfl rfl) ?_
    refine wv (r := rI .i64 x1046.fKind) (o_load (i := 0) Tryz.isAgg61 rfl rfl rfl) ?_
    refine wv (r := rB (decide (x1046.fKind = 6))) (o_eq rfl rfl) ?_
    refine wl_x ?_
    refine wc_cond (b := decide (x1046.fKind = 6)) rfl (fun c1149 => ?_) (fun c1149 => ?_)
    ·have h1150 := cnd_t c1149 h1148
     refine wc_sr ?_
     refine wm rfl ?_
     refine wm rfl ?_
     obtain ⟨r1151, e1153, h1152⟩ := obn_e h1150
     refine wc0 Tryz.call68 (rReadString_w F s x1045 r1151 e1153) rfl ?_
     refine wm rfl ?_
     refine wv (r := rS r1151.1) (o_extract rfl rfl) ?_
     refine wv (r := rI .i64 r1151.2) (o_extract rfl rfl) ?_
     refine wa rfl ?_
     refine wa rfl ?_
     refine wl_x ?_
     refine wc_seq ?_
     obtain ⟨g1154, h1155⟩ := chk_e h1152
     refine wc_seq_mid [(0, rS s), (4, rv (.slice none 0 0)), (5, rI .i64 0), (6, rv (.pointer (some ⟨b1, 0, none⟩))), (7, rS ([93] : Str)), (8, rv v1044), (9, rI .i64 x1045), (10, rS r1151.1), (11, rI .i64 r1151.2), (23, rS s), (24, rI .i64 x1045), (25, rS ([93] : Str)), (26, rB (ov (rStarts s x1045 ([93] : Str)))), (27, rB (!(ov (rStarts s x1045 ([93] : Str))))), (28, rB (!(ov (rStarts s x1045 ([93] : Str))))), (39, rB ((!(ov (rStarts s x1045 ([93] : Str)))) || ((decide (0 < x1046.fN)) && (decide ((bat s (x1045 - 1)) = 44))))), (40, rv (.pointer (some ⟨b1, 0, none⟩))), (41, rI .i64 x1046.fKind), (42, rB (decide (x1046.fKind = 6))), (43, rTup [rS r1151.1, rI .i64 r1151.2]), (44, rS s), (45, rI .i64 x1045), (46, rTup [rS r1151.1, rI .i64 r1151.2]), (47, rS r1151.1), (48, rI .i64 r1151.2), (49, rI .i64 r1151.2), (50, rB (decide (r1151.2 < 0))), (51, rB (decide (r1151.2 < 0))), (56, rB ((decide (r1151.2 < 0)) || (!(ov (rStarts s r1151.2 ([58] : Str))))))] [.blk b1 (eTApiCell x1046) 63, .row v1044 63 4 (List.map eTApiCell x1043)] ?_ ?_
     ·refine wc_region ?_
      refine wm rfl ?_
      refine wv (r := rB (decide (r1151.2 < 0))) (o_lt rfl rfl) ?_
      refine wm rfl ?_
      refine bsplit (decide (r1151.2 < 0)) (fun c1156 => ?_) (fun c1156 => ?_)
      ·refine wl_off rfl rfl c1156 rfl ?_
       refine wl_off rfl rfl c1156 rfl ?_
       refine wl_off rfl rfl c1156 rfl ?_
       refine wl_off rfl rfl c1156 rfl ?_
       refine wv (r := rB true) (o_pick_t (b := decide (r1151.2 < 0)) rfl c1156 rfl) ?_
       refine wl_nil ?_
       exact wk_then (wk_mid (Sub.c rfl (Sub.c rfl (Sub.c rfl (Sub.c5 rfl rfl rfl rfl rfl (Sub.c5 rfl rfl rfl rfl rfl (Sub.c5 rfl rfl rfl rfl rfl (Sub.c5 rfl rfl rfl rfl rfl (Sub.c5 rfl rfl rfl rfl rfl (Sub.c (by first | rfl | (simp only [c1156]; rfl) | simp [c1156]) Sub.nil))))))))) (sC (sC sN)))
      ·refine wl_on rfl rfl c1156 ?_
       refine wm rfl ?_
       refine wl_on rfl rfl c1156 ?_
       refine wm rfl ?_
       refine wl_on rfl rfl c1156 ?_
       refine wc0 Tryz.call67 (rStarts_w s r1151.2 ([58] : Str) (ov (rStarts s r1151.2 ([58] : Str))) (ov_e (imp_f g1154 c1156))) rfl ?_
       refine wl_on rfl rfl c1156 ?_
       refine wv (r := rB (!(ov (rStarts s r1151.2 ([58] : Str))))) (o_not rfl) ?_
       refine wpf rfl c1156 rfl ?_
       refine wl_nil ?_
       exact wk_then (wk_mid (Sub.c rfl (Sub.c rfl (Sub.c rfl (Sub.c5 rfl rfl rfl rfl rfl (Sub.c5 rfl rfl rfl rfl rfl (Sub.c5 rfl rfl rfl rfl rfl (Sub.c5 rfl rfl rfl rfl rfl (Sub.c5 rfl rfl rfl rfl rfl (Sub.c (by first | rfl | (simp only [c1156]; rfl) | simp [c1156]) Sub.nil))))))))) (sC (sC sN)))
     refine wc_cond (b := ((decide (r1151.2 < 0)) || (!(ov (rStarts s r1151.2 ([58] : Str)))))) rfl (fun c1157 => ?_) (fun c1157 => ?_)
     ·have h1158 := cnd_t c1157 h1155
      refine wc_sr ?_
      refine wv (r := rv (.slice none 0 0)) (o_assign rfl) ?_
      refine wv (r := rI .i64 (-1)) (o_assign rfl) ?_
      refine wl_x ?_
      refine wc_ret ?_
      refine wk_then_ret ?_
      refine wk_then_ret ?_
      refine wk_in_ret ?_
      refine wk_then_ret ?_
      refine wk_cut_ret ?_
      have h1159 := stp_ret h1158 ht1134 hK1132
      refine wk_in_ret ?_
      refine wk_then_ret ?_
      refine WK.up (d := 4) (r := rSl 4 (List.map eTApiCell ([] : List TApiCell))) rfl (Up.le (Rle.nil _)) ?_
      obtain rfl := some_e h1159
      exact wk_ret (r_2 Tryz.results69 (rv_t rfl) (rv_t rfl)) (sS (sS sN)) ⟨rfl, rfl⟩
     ·have h1160 := cnd_f c1157 h1155
      refine wc_skip ?_
      refine wk_x ?_
      refine wc_sr ?_
      refine wm rfl ?_
      refine wm rfl ?_
      refine wv (r := rAgg [rI .i64 4, rI .i64 0, rS r1151.1, rI .i64 0]) (o_build63_0_2 rfl rfl rfl rfl) ?_
      refine w_buildSlice (ys := ([(TApiCell.mk 4 0 r1151.1 0)] : List TApiCell)) (enc := eTApiCell) (css := [[rI .i64 4, rI .i64 0, rS r1151.1, rI .i64 0]]) (xs := [.tmp 59]) Tryz.underlying23 Tryz.sizeOf63 Tryz.zeroValue63 rfl rfl rfl ⟨Cel.agg ⟨Up.refl _, Up.refl _, Up.refl _, Up.refl _, trivial⟩, trivial⟩ rfl eTApiCell_len rfl rfl rfl (fun b1161 => ?_)
      obtain ⟨g1163, h1164⟩ := chk_e h1160
      obtain ⟨inf, hinf⟩ := info63
      refine w_append (xs := x1043) (ys := ([(TApiCell.mk 4 0 r1151.1 0)] : List TApiCell)) (enc := eTApiCell) (i := 2) Tryz.underlying23 hinf.1 hinf.2.1 hinf.2.2.1 hinf.2.2.2 rfl rfl rfl rfl rfl (Src.w (i := 0) rfl rfl) eTApiCell_len eTApiCell_one g1163 rfl (fun v1162 => ?_)
      refine wa rfl ?_
      refine wl_x ?_
      refine wc_region ?_
      refine wm rfl ?_
      obtain ⟨g1165, h1166⟩ := chk_e h1164
      refine wv (r := rI .i64 (r1151.2 + 1)) (o_add rfl rfl g1165) ?_
      refine wa rfl ?_
      refine wl_y ?_
      refine wm rfl ?_
      refine wm rfl ?_
      obtain ⟨r1167, e1169, h1168⟩ := obn_e h1166
      refine wc0 Tryz.call46 (ih_rRead s (r1151.2 + 1) r1167 e1169) rfl ?_
      refine wm rfl ?_
      refine wv (r := rSl 4 (List.map eTApiCell r1167.1)) (o_extract rfl rfl) ?_
      refine wv (r := rI .i64 r1167.2) (o_extract rfl rfl) ?_
      refine wa rfl ?_
      refine wa rfl ?_
      refine wl_x ?_
      refine wc_seq ?_
      refine wc_sr ?_
      refine wm rfl ?_
      refine wv (r := rB (decide (r1167.2 < 0))) (o_lt rfl rfl) ?_
      refine wl_x ?_
      refine wc_cond (b := decide (r1167.2 < 0)) rfl (fun c1170 => ?_) (fun c1170 => ?_)
      ·have h1171 := cnd_t c1170 h1168
       refine wc_sr ?_
       refine wv (r := rv (.slice none 0 0)) (o_assign rfl) ?_
       refine wv (r := rI .i64 (-1)) (o_assign rfl) ?_
       refine wl_x ?_
       refine wc_ret ?_
       refine wk_then_ret ?_
       refine wk_in_ret ?_
       refine wk_then_ret ?_
       refine wk_cut_ret ?_
       have h1172 := stp_ret h1171 ht1134 hK1132
       refine wk_in_ret ?_
       refine wk_then_ret ?_
       refine WK.up (d := 4) (r := rSl 4 (List.map eTApiCell ([] : List TApiCell))) rfl (Up.le (Rle.nil _)) ?_
       obtain rfl := some_e h1172
       exact wk_ret (r_2 Tryz.results69 (rv_t rfl) (rv_t rfl)) (sS (sS (sS sN))) ⟨rfl, rfl⟩
      ·have h1173 := cnd_f c1170 h1168
       refine wc_skip ?_
       refine wk_x ?_
       refine wc_sr ?_
       refine wm rfl ?_
       refine wm rfl ?_
       obtain ⟨g1175, h1176⟩ := chk_e h1173
       obtain ⟨inf, hinf⟩ := info63
       refine w_append (xs := x1043 ++ ([(TApiCell.mk 4 0 r1151.1 0)] : List TApiCell)) (ys := r1167.1) (enc := eTApiCell) (i := 0) Tryz.underlying23 hinf.1 hinf.2.1 hinf.2.2.1 hinf.2.2.2 rfl rfl rfl rfl rfl (Src.z rfl rfl) eTApiCell_len eTApiCell_one g1175 rfl (fun v1174 => ?_)
       refine wa rfl ?_
       refine wl_y ?_
       refine wv (r := rv (.pointer (some ⟨b1, 3, none⟩))) (o_fieldAddr Tryz.underlying63 rfl Tryz.sizeOf3 rfl rfl) ?_
       refine wv (r := rI .i64 x1046.fN) (o_load (i := 2) Tryz.isAgg3 rfl rfl rfl) ?_
       obtain ⟨g1177, h1178⟩ := chk_e h1176
       refine wv (r := rI .i64 (x1046.fN + 1)) (o_add rfl rfl g1177) ?_
       refine wv (r := rv (.pointer (some ⟨b1, 3, none⟩))) (o_fieldAddr Tryz.underlying63 rfl Tryz.sizeOf3 rfl rfl) ?_
       refine u_store (i := 2) Tryz.sizeOf3 rfl rfl (one_c rfl) rfl rfl (cs' := [rI .i64 x1046.fKind, rI .i64 x1046.fInt, rS x1046.fStr, rI .i64 (x1046.fN + 1)]) rfl (H' := [.row v1174 63 4 (List.map eTApiCell ((x1043 ++ ([(TApiCell.mk 4 0 r1151.1 0)] : List TApiCell)) ++ r1167.1)), .row (.slice (some ⟨b1161, 0, none⟩) 1 1) 63 4 (List.map eTApiCell ([(TApiCell.mk 4 0 r1151.1 0)] : List TApiCell)), .blk b1 [rI .i64 x1046.fKind, rI .i64 x1046.fInt, rS x1046.fStr, rI .i64 (x1046.fN + 1)] 63]) rfl ?_
       refine wl_y ?_
       refine wm rfl ?_
       refine wa rfl ?_
       refine wl_y ?_
       refine wm rfl ?_
       refine wm rfl ?_
       obtain ⟨r1179, e1181, h1180⟩ := obn_e h1178
       refine wc0 Tryz.call67 (rStarts_w s r1167.2 ([44] : Str) r1179 e1181) rfl ?_
       refine wl_x ?_
       refine wc_cond (b := r1179) rfl (fun c1182 => ?_) (fun c1182 => ?_)
       ·have h1183 := cnd_t c1182 h1180
        refine wc_region ?_
        refine wm rfl ?_
        obtain ⟨g1184, h1185⟩ := chk_e h1183
        refine wv (r := rI .i64 (r1167.2 + 1)) (o_add rfl rfl g1184) ?_
        refine wa rfl ?_
        refine wl_nil ?_
        refine wk_in_norm ?_
        refine wk_perm (H2 := [.blk b1 [rI .i64 x1046.fKind, rI .i64 x1046.fInt, rS x1046.fStr, rI .i64 (x1046.fN + 1)] 63, .row v1174 63 4 (List.map eTApiCell ((x1043 ++ ([(TApiCell.mk 4 0 r1151.1 0)] : List TApiCell)) ++ r1167.1)), .row (.slice (some ⟨b1161, 0, none⟩) 1 1) 63 4 (List.map eTApiCell ([(TApiCell.mk 4 0 r1151.1 0)] : List TApiCell))]) ((perm_front (i := 2) rfl).trans (List.Perm.cons _ (List.Perm.refl _))) ?_
        have h1186 := stp_next h1185 ht1134
        exact wk_then (wk_some (m1135, ((x1043 ++ ([(TApiCell.mk 4 0 r1151.1 0)] : List TApiCell)) ++ r1167.1, r1167.2 + 1, (TApiCell.mk x1046.fKind x1046.fInt x1046.fStr (x1046.fN + 1))), v1174) ⟨h1186, Nat.lt_succ_self _⟩ (Sub.c rfl (Sub.c rfl (Sub.c5 rfl rfl rfl rfl rfl Sub.nil))) (sC (sC (sS sN))))
       ·have h1187 := cnd_f c1182 h1180
        refine wc_sr ?_
        refine wm rfl ?_
        refine wm rfl ?_
        refine wm rfl ?_
        obtain ⟨r1188, e1190, h1189⟩ := obn_e h1187
        refine wc0 Tryz.call67 (rStarts_w s r1167.2 ([93] : Str) r1188 e1190) rfl ?_
        refine wv (r := rB (!r1188)) (o_not rfl) ?_
        refine wl_x ?_
        refine wc_cond (b := !r1188) rfl (fun c1191 => ?_) (fun c1191 => ?_)
        ·have h1192 := cnd_t c1191 h1189
         refine wc_sr ?_
         refine wv (r := rv (.slice none 0 0)) (o_assign rfl) ?_
         refine wv (r := rI .i64 (-1)) (o_assign rfl) ?_
         refine wl_x ?_
         refine wc_ret ?_
         refine wk_in_ret ?_
         refine wk_then_ret ?_
         refine wk_cut_ret ?_
         have h1193 := stp_ret h1192 ht1134 hK1132
         refine wk_in_ret ?_
         refine wk_then_ret ?_
         refine WK.up (d := 4) (r := rSl 4 (List.map eTApiCell ([] : List TApiCell))) rfl (Up.le (Rle.nil _)) ?_
         obtain rfl := some_e h1193
         exact wk_ret (r_2 Tryz.results69 (rv_t rfl) (rv_t rfl)) (sS (sS (sS sN))) ⟨rfl, rfl⟩
        ·have h1194 := cnd_f c1191 h1189
         refine wc_skip ?_
         refine wk_in_norm ?_
         refine wk_perm (H2 := [.blk b1 [rI .i64 x1046.fKind, rI .i64 x1046.fInt, rS x1046.fStr, rI .i64 (x1046.fN + 1)] 63, .row v1174 63 4 (List.map eTApiCell ((x1043 ++ ([(TApiCell.mk 4 0 r1151.1 0)] : List TApiCell)) ++ r1167.1)), .row (.slice (some ⟨b1161, 0, none⟩) 1 1) 63 4 (List.map eTApiCell ([(TApiCell.mk 4 0 r1151.1 0)] : List TApiCell))]) ((perm_front (i := 2) rfl).trans (List.Perm.cons _ (List.Perm.refl _))) ?_
         have h1195 := stp_next h1194 ht1134
         exact wk_then (wk_some (m1135, ((x1043 ++ ([(TApiCell.mk 4 0 r1151.1 0)] : List TApiCell)) ++ r1167.1, r1167.2, (TApiCell.mk x1046.fKind x1046.fInt x1046.fStr (x1046.fN + 1))), v1174) ⟨h1195, Nat.lt_succ_self _⟩ (Sub.c rfl (Sub.c rfl (Sub.c5 rfl rfl rfl rfl rfl Sub.nil))) (sC (sC (sS sN))))
    ·have h1196 := cnd_f c1149 h1148
     refine wc_skip ?_
     refine wk_x ?_
     refine wc_sr ?_
     refine wm rfl ?_
     refine wm rfl ?_
     obtain ⟨r1197, e1199, h1198⟩ := obn_e h1196
     refine wc0 Tryz.call46 (ih_rRead s x1045 r1197 e1199) rfl ?_
     refine wm rfl ?_
     refine wv (r := rSl 4 (List.map eTApiCell r1197.1)) (o_extract rfl rfl) ?_
     refine wv (r := rI .i64 r1197.2) (o_extract rfl rfl) ?_
     refine wa rfl ?_
     refine wa rfl ?_
     refine wl_x ?_
     refine wc_seq ?_
     refine wc_sr ?_
     refine wm rfl ?_
     refine wv (r := rB (decide (r1197.2 < 0))) (o_lt rfl rfl) ?_
     refine wl_x ?_
     refine wc_cond (b := decide (r1197.2 < 0)) rfl (fun c1200 => ?_) (fun c1200 => ?_)
     ·have h1201 := cnd_t c1200 h1198
      refine wc_sr ?_
      refine wv (r := rv (.slice none 0 0)) (o_assign rfl) ?_
      refine wv (r := rI .i64 (-1)) (o_assign rfl) ?_
      refine wl_x ?_
      refine wc_ret ?_
      refine wk_then_ret ?_
      refine wk_in_ret ?_
      refine wk_then_ret ?_
      refine wk_cut_ret ?_
      have h1202 := stp_ret h1201 ht1134 hK1132
      refine wk_in_ret ?_
      refine wk_then_ret ?_
      refine WK.up (d := 4) (r := rSl 4 (List.map eTApiCell ([] : List TApiCell))) rfl (Up.le (Rle.nil _)) ?_
      obtain rfl := some_e h1202
      exact wk_ret (r_2 Tryz.results69 (rv_t rfl) (rv_t rfl)) (sS (sS sN)) ⟨rfl, rfl⟩
     ·have h1203 := cnd_f c1200 h1198
      refine wc_skip ?_
      refine wk_x ?_
      refine wc_sr ?_
      refine wm rfl ?_
      refine wm rfl ?_
      obtain ⟨g1205, h1206⟩ := chk_e h1203
      obtain ⟨inf, hinf⟩ := info63
      refine w_append (xs := x1043) (ys := r1197.1) (enc := eTApiCell) (i := 1) Tryz.underlying23 hinf.1 hinf.2.1 hinf.2.2.1 hinf.2.2.2 rfl rfl rfl rfl rfl (Src.z rfl rfl) eTApiCell_len eTApiCell_one g1205 rfl (fun v1204 => ?_)
      refine wa rfl ?_
      refine wl_y ?_
      refine wv (r := rv (.pointer (some ⟨b1, 3, none⟩))) (o_fieldAddr Tryz.underlying63 rfl Tryz.sizeOf3 rfl rfl) ?_
      refine wv (r := rI .i64 x1046.fN) (o_load (i := 1) Tryz.isAgg3 rfl rfl rfl) ?_
      obtain ⟨g1207, h1208⟩ := chk_e h1206
      refine wv (r := rI .i64 (x1046.fN + 1)) (o_add rfl rfl g1207) ?_
      refine wv (r := rv (.pointer (some ⟨b1, 3, none⟩))) (o_fieldAddr Tryz.underlying63 rfl Tryz.sizeOf3 rfl rfl) ?_
      refine u_store (i := 1) Tryz.sizeOf3 rfl rfl (one_c rfl) rfl rfl (cs' := [rI .i64 x1046.fKind, rI .i64 x1046.fInt, rS x1046.fStr, rI .i64 (x1046.fN + 1)]) rfl (H' := [.row v1204 63 4 (List.map eTApiCell (x1043 ++ r1197.1)), .blk b1 [rI .i64 x1046.fKind, rI .i64 x1046.fInt, rS x1046.fStr, rI .i64 (x1046.fN + 1)] 63]) rfl ?_
      refine wl_y ?_
      refine wm rfl ?_
      refine wa rfl ?_
      refine wl_y ?_
      refine wm rfl ?_
      refine wm rfl ?_
      obtain ⟨r1209, e1211, h1210⟩ := obn_e h1208
      refine wc0 Tryz.call67 (rStarts_w s r1197.2 ([44] : Str) r1209 e1211) rfl ?_
      refine wl_x ?_
      refine wc_cond (b := r1209) rfl (fun c1212 => ?_) (fun c1212 => ?_)
      ·have h1213 := cnd_t c1212 h1210
       refine wc_region ?_
       refine wm rfl ?_
       obtain ⟨g1214, h1215⟩ := chk_e h1213
       refine wv (r := rI .i64 (r1197.2 + 1)) (o_add rfl rfl g1214) ?_
       refine wa rfl ?_
       refine wl_nil ?_
       refine wk_in_norm ?_
       refine wk_perm (H2 := [.blk b1 [rI .i64 x1046.fKind, rI .i64 x1046.fInt, rS x1046.fStr, rI .i64 (x1046.fN + 1)] 63, .row v1204 63 4 (List.map eTApiCell (x1043 ++ r1197.1))]) ((perm_front (i := 1) rfl).trans (List.Perm.cons _ (List.Perm.refl _))) ?_
       have h1216 := stp_next h1215 ht1134
       exact wk_then (wk_some (m1135, (x1043 ++ r1197.1, r1197.2 + 1, (TApiCell.mk x1046.fKind x1046.fInt x1046.fStr (x1046.fN + 1))), v1204) ⟨h1216, Nat.lt_succ_self _⟩ (Sub.c rfl (Sub.c rfl (Sub.c5 rfl rfl rfl rfl rfl Sub.nil))) (sC (sC sN)))
      ·have h1217 := cnd_f c1212 h1210
       refine wc_sr ?_
       refine wm rfl ?_
       refine wm rfl ?_
       refine wm rfl ?_
       obtain ⟨r1218, e1220, h1219⟩ := obn_e h1217
       refine wc0 Tryz.call67 (rStarts_w s r1197.2 ([93] : Str) r1218 e1220) rfl ?_
       refine wv (r := rB (!r1218)) (o_not rfl) ?_
       refine wl_x ?_
       refine wc_cond (b := !r1218) rfl (fun c1221 => ?_) (fun c1221 => ?_)
       ·have h1222 := cnd_t c1221 h1219
        refine wc_sr ?_
        refine wv (r := rv (.slice none 0 0)) (o_assign rfl) ?_
        refine wv (r := rI .i64 (-1)) (o_assign rfl) ?_
        refine wl_x ?_
        refine wc_ret ?_
        refine wk_in_ret ?_
        refine wk_then_ret ?_
        refine wk_cut_ret ?_
        have h1223 := stp_ret h1222 ht1134 hK1132
        refine wk_in_ret ?_
        refine wk_then_ret ?_
        refine WK.up (d := 4) (r := rSl 4 (List.map eTApiCell ([] : List TApiCell))) rfl (Up.le (Rle.nil _)) ?_
        obtain rfl := some_e h1223
        exact wk_ret (r_2 Tryz.results69 (rv_t rfl) (rv_t rfl)) (sS (sS sN)) ⟨rfl, rfl⟩
       ·have h1224 := cnd_f c1221 h1219
        refine wc_skip ?_
        refine wk_in_norm ?_
        refine wk_perm (H2 := [.blk b1 [rI .i64 x1046.fKind, rI .i64 x1046.fInt, rS x1046.fStr, rI .i64 (x1046.fN + 1)] 63, .row v1204 63 4 (List.map eTApiCell (x1043 ++ r1197.1))]) ((perm_front (i := 1) rfl).trans (List.Perm.cons _ (List.Perm.refl _))) ?_
        have h1225 := stp_next h1224 ht1134
        exact wk_then (wk_some (m1135, (x1043 ++ r1197.1, r1197.2, (TApiCell.mk x1046.fKind x1046.fInt x1046.fStr (x1046.fN + 1))), v1204) ⟨h1225, Nat.lt_succ_self _⟩ (Sub.c rfl (Sub.c rfl (Sub.c5 rfl rfl rfl rfl rfl Sub.nil))) (sC (sC sN)))
   ·have h1226 := cnd_f c1147 h1144
    refine wc_exit ?_
    refine wk_then_exit ?_
    have h1227 := stp_go h1226 ht1134 hK1132
    exact wk_then_exit (wk_cut_hit (wk_some ((x1043, x1045, x1046), v1044) h1227 (Sub.c5 rfl rfl rfl rfl rfl Sub.nil) (sC (sC sN))))
  ·rintro ⟨⟨x1126, x1128, x1129⟩, v1127⟩ h1228
   refine wk_as (l' := [(4, rv (.slice none 0 0)), (5, rI .i64 0), (6, rv (.pointer (some ⟨b1, 0, none⟩))), (8, rv v1127), (9, rI .i64 x1128)]) (H' := [.blk b1 (eTApiCell x1129) 63, .row v1127 63 4 (List.map eTApiCell x1126)]) rfl rfl ?_
   replace h1228 : rReadMany_k2 x1126 x1128 x1129 = some r := h1228
   unfold rReadMany_k2 at h1228
   refine wk_in_hit ?_
   refine wk_x ?_
   refine wc_sr ?_
   refine wv (r := rAgg (eTApiCell x1129)) (o_load_agg (i := 0) Tryz.isAgg63 Tryz.sizeOf63 rfl rfl rfl rfl) ?_
   refine w_buildSlice (ys := ([x1129] : List TApiCell)) (enc := eTApiCell) (css := [[rI .i64 x1129.fKind, rI .i64 x1129.fInt, rS x1129.fStr, rI .i64 x1129.fN]]) (xs := [.tmp 90]) Tryz.underlying23 Tryz.sizeOf63 Tryz.zeroValue63 rfl rfl rfl ⟨Cel.agg ⟨Up.refl _, Up.refl _, Up.refl _, Up.refl _, trivial⟩, trivial⟩ rfl eTApiCell_len rfl rfl rfl (fun b1229 => ?_)
   refine wa rfl ?_
   refine wl_y ?_
   refine wm rfl ?_
   refine wm rfl ?_
   obtain ⟨g1231, h1232⟩ := chk_e h1228
   obtain ⟨inf, hinf⟩ := info63
   refine w_append (xs := ([x1129] : List TApiCell)) (ys := x1126) (enc := eTApiCell) (i := 0) Tryz.underlying23 hinf.1 hinf.2.1 hinf.2.2.1 hinf.2.2.2 rfl rfl rfl rfl rfl (Src.w (i := 2) rfl rfl) eTApiCell_len eTApiCell_one g1231 rfl (fun v1230 => ?_)
   refine wa rfl ?_
   refine wl_y ?_
   refine wm rfl ?_
   refine wm rfl ?_
   obtain ⟨g1233, h1234⟩ := chk_e h1232
   refine wv (r := rI .i64 (x1128 + 1)) (o_add rfl rfl g1233) ?_
   refine wa rfl ?_
   refine wa rfl ?_
   refine wl_x ?_
   refine wc_ret ?_
   refine WK.freeze (i := 0) rfl ?_
   refine WK.up (d := 4) (r := rSl 4 (List.map eTApiCell (([x1129] : List TApiCell) ++ x1126))) rfl (Up.fact (i := 0) rfl) ?_
   obtain rfl := some_e h1234
   exact wk_ret (r_2 Tryz.results69 (rv_t rfl) (rv_t rfl)) (sS (sS (sS sN))) ⟨rfl, rfl⟩

theorem rRead_all : ∀ F : Nat, (∀ (s : Str) (at_ : Int) (r : (List TApiCell) × Int), rRead F s at_ = some r → Fn Tryz.prog GE 46 [rS s, rI .i64 at_] [] (fun R H => R = rTup [rSl 4 (List.map eTApiCell r.1), rI .i64 r.2] ∧ H = [])) ∧ (∀ (s : Str) (at_ : Int) (r : (List TApiCell) × Int), rReadMany F s at_ = some r → Fn Tryz.prog GE 69 [rS s, rI .i64 at_] [] (fun R H => R = rTup [rSl 4 (List.map eTApiCell r.1), rI .i64 r.2] ∧ H = []))
  | 0 => ⟨(fun _ _ _ h => by simp [rRead] at h), (fun _ _ _ h => by simp [rReadMany] at h)⟩
  | nn + 1 => ⟨(fun s at_ r h => rReadm_w nn (rReadMany nn) (rRead_all nn).2 s at_ r (by rw [rRead] at h; exact h)), (fun s at_ r h => rReadManym_w nn (rRead nn) (rRead_all nn).1 s at_ r (by rw [rReadMany] at h; exact h))⟩

theorem rRead_w (F : Nat) (s : Str) (at_ : Int) (r : (List TApiCell) × Int) (h : rRead F s at_ = some r) : Fn Tryz.prog GE 46 [rS s, rI .i64 at_] [] (fun R H => R = rTup [rSl 4 (List.map eTApiCell r.1), rI .i64 r.2] ∧ H = []) := (rRead_all F).1 s at_ r h

theorem rDecode_w (F : Nat) (s : Str) (r : (List TApiCell) × Int) (h : rDecode F s = some r) : Fn Tryz.prog GE 9 [rS s] [] (fun R H => R = rTup [rSl 4 (List.map eTApiCell r.1), rI .i64 r.2] ∧ H = []) := by
 refine enter (n := 22) Tryz.func9 rfl Tryz.ntmps9 rfl (fun w Z => ?_)
 refine wc_as (l' := [(0, rS s)]) (H' := []) rfl rfl ?_
 unfold rDecode at h
 refine wc_sr ?_
 refine wv (r := rv (.slice none 0 0)) (o_assign rfl) ?_
 refine wv (r := rI .i64 0) (o_assign rfl) ?_
 refine wl_x ?_
 refine wc_seq ?_
 refine wc_sr ?_
 refine wm rfl ?_
 refine wv (r := rI .i64 (s.length : Int)) (o_len_s Tryz.underlying9 rfl) ?_
 refine wv (r := rB (decide (4000 < (s.length : Int)))) (o_gt rfl rfl) ?_
 refine wl_x ?_
 refine wc_cond (b := decide (4000 < (s.length : Int))) rfl (fun c1 => ?_) (fun c1 => ?_)
 ·have h2 := cnd_t c1 h
  refine wc_sr ?_
  refine wv (r := rv (.slice none 0 0)) (o_assign rfl) ?_
  refine wv (r := rI .i64 3) (o_assign rfl) ?_
  refine wl_x ?_
  refine wc_ret ?_
  refine wk_then_ret ?_
  refine WK.up (d := 2) (r := rSl 4 (List.map eTApiCell ([] : List TApiCell))) rfl (Up.le (Rle.nil _)) ?_
  obtain rfl := some_e h2
  exact wk_ret (r_2 Tryz.results9 (rv_t rfl) (rv_t rfl)) sN ⟨rfl, rfl⟩
 ·have h3 := cnd_f c1 h
  refine wc_skip ?_
  refine wk_x ?_
  refine wc_sr ?_
  refine wm rfl ?_
  obtain ⟨r4, e6, h5⟩ := obn_e h3
  refine wc0 Tryz.call46 (rRead_w F s 0 r4 e6) rfl ?_
  refine wm rfl ?_
  refine wv (r := rSl 4 (List.map eTApiCell r4.1)) (o_extract rfl rfl) ?_
  refine wv (r := rI .i64 r4.2) (o_extract rfl rfl) ?_
  refine wa rfl ?_
  refine wa rfl ?_
  refine wl_x ?_
  refine wc_seq ?_
  refine wc_sr ?_
  refine wm rfl ?_
  refine wm rfl ?_
  refine wv (r := rI .i64 (s.length : Int)) (o_len_s Tryz.underlying9 rfl) ?_
  refine wv (r := rB (!decide (r4.2 = (s.length : Int)))) (o_ne rfl rfl) ?_
  refine wl_x ?_
  refine wc_cond (b := !decide (r4.2 = (s.length : Int))) rfl (fun c7 => ?_) (fun c7 => ?_)
  ·have h8 := cnd_t c7 h5
   refine wc_sr ?_
   refine wv (r := rv (.slice none 0 0)) (o_assign rfl) ?_
   refine wv (r := rI .i64 1) (o_assign rfl) ?_
   refine wl_x ?_
   refine wc_ret ?_
   refine wk_then_ret ?_
   refine WK.up (d := 2) (r := rSl 4 (List.map eTApiCell ([] : List TApiCell))) rfl (Up.le (Rle.nil _)) ?_
   obtain rfl := some_e h8
   exact wk_ret (r_2 Tryz.results9 (rv_t rfl) (rv_t rfl)) sN ⟨rfl, rfl⟩
  ·have h9 := cnd_f c7 h5
   refine wc_skip ?_
   refine wk_x ?_
   refine wc_sr ?_
   refine wm rfl ?_
   obtain ⟨r10, e12, h11⟩ := obn_e h9
   refine wc0 Tryz.call47 (rChecked_w F r4.1 r10 e12) rfl ?_
   refine wv (r := rSl 4 (List.map eTApiCell r10.1)) (o_extract rfl rfl) ?_
   refine wv (r := rI .i64 r10.2) (o_extract rfl rfl) ?_
   refine wa rfl ?_
   refine wa rfl ?_
   refine wl_x ?_
   refine wc_ret ?_
   obtain rfl := some_e h11
   exact wk_ret (r_2 Tryz.results9 (rv_t rfl) (rv_t rfl)) sN ⟨rfl, rfl⟩

theorem lDecodes_w (F : Nat) (s : Str) (r : Bool) (h : lDecodes F s = some r) : Fn Tryz.prog GE 3 [rS s] [] (fun R H => R = rB r ∧ H = []) := by
 refine enter (n := 32) Tryz.func3 rfl Tryz.ntmps3 rfl (fun w Z => ?_)
 refine wc_as (l' := [(0, rS s)]) (H' := []) rfl rfl ?_
 unfold lDecodes at h
 refine wc_sr ?_
 refine wv (r := rB false) (o_assign rfl) ?_
 refine wl_x ?_
 refine wc_seq ?_
 refine wc_sr ?_
 refine wm rfl ?_
 refine wv (r := rI .i64 (s.length : Int)) (o_len_s Tryz.underlying9 rfl) ?_
 refine wv (r := rB (decide (4100 < (s.length : Int)))) (o_gt rfl rfl) ?_
 refine wl_x ?_
 refine wc_cond (b := decide (4100 < (s.length : Int))) rfl (fun c1 => ?_) (fun c1 => ?_)
 ·have h2 := cnd_t c1 h
  refine wc_sr ?_
  obtain ⟨r3, e5, h4⟩ := obn_e h2
  refine wc0 Tryz.call7 (lAwake_w F r3 e5) rfl ?_
  refine wa rfl ?_
  refine wl_x ?_
  refine wc_ret ?_
  refine wk_then_ret ?_
  obtain rfl := some_e h4
  exact wk_ret (r_1 Tryz.results3 (rv_t rfl)) sN ⟨rfl, rfl⟩
 ·have h6 := cnd_f c1 h
  refine wc_skip ?_
  refine wk_x ?_
  refine wc_sr ?_
  refine wm rfl ?_
  obtain ⟨r7, e9, h8⟩ := obn_e h6
  refine wc0 Tryz.call8 (vDecode_w F s r7 e9) rfl ?_
  refine wm rfl ?_
  refine wv (r := rSl 4 (List.map eTApiCell r7.1)) (o_extract rfl rfl) ?_
  refine wv (r := rI .i64 r7.2) (o_extract rfl rfl) ?_
  refine wa rfl ?_
  refine wa rfl ?_
  refine wl_y ?_
  refine wm rfl ?_
  obtain ⟨r10, e12, h11⟩ := obn_e h8
  refine wc0 Tryz.call9 (rDecode_w F s r10 e12) rfl ?_
  refine wm rfl ?_
  refine wv (r := rSl 4 (List.map eTApiCell r10.1)) (o_extract rfl rfl) ?_
  refine wv (r := rI .i64 r10.2) (o_extract rfl rfl) ?_
  refine wa rfl ?_
  refine wa rfl ?_
  refine wl_x ?_
  obtain ⟨g13, h14⟩ := chk_e h11
  obtain ⟨g15, h16⟩ := chk_e h14
  refine wc_seq_mid [(2, rB ((ov (rSame F r7.1 r10.1)) && ((decide (r7.2 = r10.2)) && (ov (lAwake F)))))] [] ?_ ?_
  ·refine wc_region ?_
   refine wm rfl ?_
   refine wm rfl ?_
   refine wc0 Tryz.call10 (rSame_w F r7.1 r10.1 (ov (rSame F r7.1 r10.1)) (ov_e g13)) rfl ?_
   refine wm rfl ?_
   refine bsplit ((ov (rSame F r7.1 r10.1))) (fun c17 => ?_) (fun c17 => ?_)
   ·refine wl_on rfl rfl c17 ?_
    refine wm rfl ?_
    refine wl_on rfl rfl c17 ?_
    refine wm rfl ?_
    refine wl_on rfl rfl c17 ?_
    refine wv (r := rB (decide (r7.2 = r10.2))) (o_eq rfl rfl) ?_
    refine wpt rfl c17 rfl ?_
    refine wm rfl ?_
    refine bsplit (decide (r7.2 = r10.2)) (fun c18 => ?_) (fun c18 => ?_)
    ·refine wl_on rfl rfl c18 ?_
     refine wc0 Tryz.call7 (lAwake_w F (ov (lAwake F)) (ov_e (imp_t (imp_t g15 c17) c18))) rfl ?_
     refine wpt rfl c18 rfl ?_
     refine wa rfl ?_
     refine wl_nil ?_
     exact wk_then (wk_mid (Sub.c (by first | rfl | (simp only [c17, c18]; rfl) | simp [c17, c18]) Sub.nil) sN)
    ·refine wl_off rfl rfl c18 rfl ?_
     refine wv (r := rB false) (o_pick_f (b := decide (r7.2 = r10.2)) rfl c18 rfl) ?_
     refine wa rfl ?_
     refine wl_nil ?_
     exact wk_then (wk_mid (Sub.c (by first | rfl | (simp only [c17, c18]; rfl) | simp [c17, c18]) Sub.nil) sN)
   ·refine wl_off rfl rfl c17 rfl ?_
    refine wl_off rfl rfl c17 rfl ?_
    refine wl_off rfl rfl c17 rfl ?_
    refine wv (r := rB false) (o_pick_f (b := (ov (rSame F r7.1 r10.1))) rfl c17 rfl) ?_
    refine wm rfl ?_
    refine wl_off (b := false) rfl rfl rfl rfl ?_
    refine wv (r := rB false) (o_pick_f (b := false) rfl rfl rfl) ?_
    refine wa rfl ?_
    refine wl_nil ?_
    exact wk_then (wk_mid (Sub.c (by first | rfl | (simp only [c17]; rfl) | simp [c17]) Sub.nil) sN)
  refine wc_ret ?_
  obtain rfl := some_e h16
  exact wk_ret (r_1 Tryz.results3 (rv_t rfl)) sN ⟨rfl, rfl⟩

end Go.Proofs.YtkalifgebccpcaaGreatDoor.Q

/-
 What is known of the values that the law is handed. Plain definitions.
-/
namespace Go.Proofs.YtkalifgebccpcaaGreatDoor.lawValueDecodes
open Go
set_option linter.unusedVariables false

def Law : Prop := ∀ (y0 : Str) (o0 : okS y0 = true), ∃ F, lDecodes F y0 = some true
end Go.Proofs.YtkalifgebccpcaaGreatDoor.lawValueDecodes

/-
 What small functions of the package value and of its reference compute. Plain laws.
-/
namespace Go.Proofs.YtkalifgebccpcaaGreatDoor
open Go
set_option linter.unusedVariables false
set_option linter.unusedSimpArgs false
def okc (c : UInt8) : Bool := decide (32 ≤ c.toNat) && decide (c.toNat ≤ 126)
theorem bat_get {s : Str} {x : Int} {c : UInt8} (h : s[x.toNat]? = some c) : bat s x = (c.toNat : Int) := by simp [bat, h]
theorem take_all_succ {α : Type} {p : α → Bool} {s : List α} {k : Nat} {c : α} (h : s[k]? = some c) : (s.take (k + 1)).all p = ((s.take k).all p && p c) := by
 rw [List.take_add_one, h]; simp
theorem all_false_of {α : Type} {p : α → Bool} {s : List α} {k : Nat} {c : α} (h : s[k]? = some c) (hp : p c = false) : s.all p = false := by
 rw [List.all_eq_false]; exact ⟨c, List.mem_of_getElem? h, by simp [hp]⟩
theorem vText_eq {F : Nat} {s : Str} (hF : s.length < F) (hs : s.length ≤ 9223372036854775807) : vText F s = some (s.all okc) := by
 obtain ⟨o, h1, h2⟩ := lop_ind (body := fun σ => vText_b1 s σ) (fun x => 0 ≤ x ∧ x ≤ (s.length : Int) ∧ (s.take x.toNat).all okc = true) (fun x => s.length - x.toNat)
  (fun o => oute (fun _ => vText_k1) o = some (s.all okc)) (fun x ⟨h0, hl, ha⟩ => by
   unfold vText_b1
   by_cases hx : x < (s.length : Int)
   ·obtain ⟨c, hc⟩ : ∃ c, s[x.toNat]? = some c := ⟨s[x.toNat]'(by omega), List.getElem?_eq_getElem (by omega)⟩
    rw [cnd_tt (by simpa using hx), chk_inR h0 hx, bat_get hc]
    cases ho : okc c with
    | false =>
     refine .inr ⟨.ret false, ?_, ?_⟩
     ·rw [cnd_tt]
      simp only [okc, Bool.and_eq_false_iff, decide_eq_false_iff_not] at ho
      simp only [Bool.or_eq_true, decide_eq_true_eq]; omega
     ·simp [oute, all_false_of hc ho]
    | true =>
     refine .inl ⟨x + 1, ?_, ⟨by omega, by omega, ?_⟩, by omega⟩
     ·rw [cnd_ff, chk_i64 (by omega) (by omega)]
      simp only [okc, Bool.and_eq_true, decide_eq_true_eq] at ho
      simp only [Bool.or_eq_false_iff, decide_eq_false_iff_not]; omega
     ·rw [show (x + 1).toNat = x.toNat + 1 from by omega, take_all_succ hc, ha, ho]; rfl
   ·refine .inr ⟨.go (), by rw [cnd_ff (by simpa using hx)], ?_⟩
    rw [show x.toNat = s.length from by omega, List.take_length] at ha
    simp [oute, vText_k1, ha]) F 0 ⟨by omega, by omega, by simp⟩ (by simpa using hF)
 unfold vText
 rw [obn_s h1, h2]
theorem rPlain_vText (F : Nat) (s : Str) : rPlain F s = vText F s := rfl
theorem rPlain_eq {F : Nat} {s : Str} (hF : s.length < F) (hs : s.length ≤ 9223372036854775807) : rPlain F s = some (s.all okc) := by rw [rPlain_vText]; exact vText_eq hF hs
def pl (c : TApiCell) : Bool :=
 bif decide (c.fKind = 1) then (decide (c.fInt = 0) && (decide (c.fStr = []) && decide (c.fN = 0))) else
 bif decide (c.fKind = 2) then ((decide (c.fInt = 0) || decide (c.fInt = 1)) && (decide (c.fStr = []) && decide (c.fN = 0))) else
 bif decide (c.fKind = 3) then (decide (c.fStr = []) && decide (c.fN = 0)) else
 bif decide (c.fKind = 4) then (decide (c.fInt = 0) && (decide (c.fN = 0) && c.fStr.all okc)) else
 bif decide (c.fKind = 5) then (decide (c.fInt = 0) && (decide (c.fStr = []) && decide (0 ≤ c.fN))) else
 bif decide (c.fKind = 6) then (decide (c.fInt = 0) && (decide (c.fStr = []) && decide (0 ≤ c.fN))) else false
theorem cnd_some {α : Type} {p : Bool} {x y : Option α} {a b : α} (h : x = some a) (h' : y = some b) : cnd p x y = some (bif p then a else b) := by cases p <;> simp [cnd, h, h']
theorem vPlain_eq {F : Nat} {c : TApiCell} (hF : c.fStr.length < F) (hs : c.fStr.length ≤ 9223372036854775807) : vPlain F c = some (pl c) := by
 unfold vPlain pl
 rw [vText_eq hF hs]
 refine cnd_some rfl (cnd_some ?_ (cnd_some rfl (cnd_some ?_ (cnd_some rfl (cnd_some rfl rfl)))))
 ·cases h : decide (c.fInt = 0) <;> simp
 ·simp [imp, chk, ov]
def clr : List TValueOpen → List TValueOpen
 | [] => []
 | e :: S => bif decide (1 < e.fLeft) then ⟨e.fPairs, e.fLeft - 1, e.fPairs, e.fLast, e.fStarted⟩ :: S else clr S
theorem at_last {α : Type} [Inhabited α] (xs : List α) (e : α) : at' (xs ++ [e]) (xs.length : Int) = e := by simp [at']
theorem set_last {α : Type} (xs : List α) (e e' : α) : List.set (xs ++ [e]) (Int.toNat (xs.length : Int)) e' = xs ++ [e'] := by simp
theorem len_last {α : Type} (xs : List α) (e : α) : ((xs ++ [e]).length : Int) - 1 = (xs.length : Int) := by simp
theorem take_last {α : Type} (xs : List α) (e : α) : List.take (Int.toNat (xs.length : Int)) (xs ++ [e]) = xs := by simp
theorem vClosed_lop : ∀ (S : List TValueOpen) (F : Nat), S.length < F → (∀ e ∈ S, 1 ≤ e.fLeft ∧ e.fLeft ≤ 9223372036854775807) → S.length ≤ 4611686018427387904 →
  ∃ o, lop (fun σ => vClosed_b1 σ) F S.reverse = some o ∧ oute (fun ν => vClosed_k1 ν) o = some (clr S).reverse
 | [], F + 1, _, _, _ => ⟨.go [], by simp [lop, vClosed_b1, cnd], by simp [oute, vClosed_k1, clr]⟩
 | e :: S, F + 1, hF, hb, hl => by
  obtain ⟨h1, h2⟩ := hb e (by simp)
  simp only [List.length_cons] at hF hl
  have hx : S.reverse.length = S.length := by simp
  generalize hxs : S.reverse = xs at hx
  have hr : (e :: S).reverse = xs ++ [e] := by simp [hxs]
  rw [hr]
  have hb1 : vClosed_b1 (xs ++ [e]) = bif decide (1 < e.fLeft) then some (.out (.ret (xs ++ [⟨e.fPairs, e.fLeft - 1, e.fPairs, e.fLast, e.fStarted⟩]))) else some (.next xs) := by
   unfold vClosed_b1
   rw [cnd_tt (by simp)]
   simp only [len_last, at_last, set_last, bnd]
   rw [chk_i64 (by omega) (by omega), chk_inR (by omega) (by simp; omega), chk_i64 (by omega) (by omega)]
   cases hd : decide (1 < e.fLeft) with
   | true =>
    rw [cnd_tt (by simp at hd ⊢; omega)]; rfl
   | false =>
    rw [cnd_ff (by simp at hd ⊢; omega), chk_i64 (by omega) (by omega), chk_inC (by omega) (by simp; omega), take_last]; rfl
  rw [lop, hb1]
  cases hd : decide (1 < e.fLeft) with
  | true => exact ⟨_, rfl, by simp [oute, vClosed_k1, clr, hd, hxs]⟩
  | false =>
   obtain ⟨o, ho1, ho2⟩ := vClosed_lop S F (by omega) (fun e he => hb e (by simp [he])) (by omega)
   rw [hxs] at ho1
   exact ⟨o, ho1, by rw [ho2]; simp [clr, hd]⟩
theorem vClosed_eq {S : List TValueOpen} {F : Nat} (hF : S.length < F) (hb : ∀ e ∈ S, 1 ≤ e.fLeft ∧ e.fLeft ≤ 9223372036854775807) (hl : S.length ≤ 4611686018427387904) : vClosed F S.reverse = some (clr S).reverse := by
 obtain ⟨o, h1, h2⟩ := vClosed_lop S F hF hb hl
 unfold vClosed
 rw [obn_s h1, h2]
end Go.Proofs.YtkalifgebccpcaaGreatDoor

/-
 value.look, one cell at a time. Plain laws.
-/
namespace Go.Proofs.YtkalifgebccpcaaGreatDoor
open Go
set_option linter.unusedVariables false
set_option linter.unusedSimpArgs false
def qlen (s : Str) : Int := s.length + 2 + s.count 34 + s.count 92
theorem vQuoted_eq {s : Str} (hs : s.length ≤ 1152921504606846976) : vQuoted s = some (qlen s) := by
 have h1 : s.count 34 ≤ s.length := List.count_le_length
 have h2 : s.count 92 ≤ s.length := List.count_le_length
 unfold vQuoted Lib.countByte
 rw [chk_i64 (by omega) (by omega), chk_i64 (by omega) (by omega), chk_i64 (by omega) (by omega)]
 rfl
def szc (c : TApiCell) : Int :=
 bif decide (c.fKind = 1) then 4 else bif decide (c.fKind = 2) then IntKind.wrap .i64 (5 - c.fInt) else bif decide (c.fKind = 3) then ((Lib.itoa c.fInt).length : Int) else
 bif decide (c.fKind = 4) then qlen c.fStr else IntKind.wrap .i64 (2 + max 0 (IntKind.wrap .i64 (c.fN - 1)))
theorem vSize_eq {c : TApiCell} (hs : c.fStr.length ≤ 1152921504606846976) (hi : inK .i64 c.fInt = true) : vSize c = some (szc c) := by
 unfold vSize szc
 rw [vQuoted_eq hs]
 refine cnd_some rfl (cnd_some rfl (cnd_some ?_ (cnd_some rfl rfl)))
 rw [chk_t hi]
def shc (d : Nat) (sh : TValueShape) (c : TApiCell) : TValueShape :=
 ⟨max sh.fDepth ((d : Int) + 1), IntKind.wrap .i64 (sh.fBytes + szc c), sh.fOutside || (decide (c.fKind = 3) && !(decide ((-1000000000000) ≤ c.fInt) && decide (c.fInt ≤ 1000000000000))), sh.fLong || decide (200 < (c.fStr.length : Int))⟩
def shk (sh : TValueShape) (c : TApiCell) : TValueShape := ⟨sh.fDepth, IntKind.wrap .i64 (sh.fBytes + (qlen c.fStr + 1)), sh.fOutside, sh.fLong || decide (200 < (c.fStr.length : Int))⟩
def keyTop : List TValueOpen → Bool
 | [] => false
 | e :: _ => e.fKey
abbrev LkS := List TValueOpen × Int × TValueShape
abbrev LkO := Out (Int × TValueShape × Bool) TValueShape
def lkc (n : Int) (S : List TValueOpen) (i : Int) (sh : TValueShape) (c : TApiCell) : Stp LkS LkO :=
 bif !pl c then .out (.ret (0, sh, false)) else
 match S with
 | e :: S' =>
  bif e.fKey then
   bif !decide (c.fKind = 4) || (e.fStarted && (sLess c.fStr e.fLast || decide (c.fStr = e.fLast))) then .out (.ret (0, sh, false))
   else .next ((⟨e.fPairs, e.fLeft, false, c.fStr, true⟩ :: S').reverse, i + 1, shk sh c)
  else bif decide (0 < c.fN) then
   bif decide (n < c.fN) then .out (.ret (0, shc S.length sh c, false))
   else .next ((⟨decide (c.fKind = 6), c.fN, decide (c.fKind = 6), [], false⟩ :: S).reverse, i + 1, shc S.length sh c)
  else bif decide (clr S = []) then .out (.ret (i + 1, shc S.length sh c, true)) else .next ((clr S).reverse, i + 1, shc S.length sh c)
 | [] =>
  bif decide (0 < c.fN) then
   bif decide (n < c.fN) then .out (.ret (0, shc 0 sh c, false))
   else .next ([⟨decide (c.fKind = 6), c.fN, decide (c.fKind = 6), [], false⟩], i + 1, shc 0 sh c)
  else .out (.ret (i + 1, shc 0 sh c, true))
theorem clr_nil_length {S : List TValueOpen} : decide (((clr S).reverse.length : Int) = 0) = decide (clr S = []) := by
 rw [Bool.eq_iff_iff]; simp
theorem inA48 {α : Type} {xs : List α} {e x : α} {M : Nat} (h : xs.length + 1 ≤ M) (hM2 : (M + 2) * 48 ≤ 140737488355328) : inA 48 ((xs ++ [e]).length + ([x] : List α).length) = true := by
 refine decide_eq_true (Nat.le_trans (Nat.mul_le_mul_right 48 ?_) hM2)
 rw [List.length_append, List.length_singleton, List.length_singleton]; omega
set_option maxHeartbeats 600000 in
theorem vLook_b1_eq {F : Nat} {v : List TApiCell} {S : List TValueOpen} {i : Int} {sh : TValueShape} {c : TApiCell} (h0 : 0 ≤ i) (hc : v[i.toNat]? = some c) {M : Nat} (hM : M ≤ 1152921504606846976) (hM2 : (M + 2) * 48 ≤ 140737488355328) (hv : v.length ≤ M) (hS : S.length ≤ M) (hF : M < F)
  (hs : c.fStr.length ≤ M) (hi : inK .i64 c.fInt = true) (hb : ∀ e ∈ S, 1 ≤ e.fLeft ∧ e.fLeft ≤ 9223372036854775807) : vLook_b1 F v S.reverse i sh = some (lkc v.length S i sh c) := by
 have hil : i.toNat < v.length := (List.getElem?_eq_some_iff.1 hc).1
 have hat : at' v i = c := by simp [at', hc]
 unfold vLook_b1 lkc
 rw [cnd_tt (by simp; omega), chk_inR h0 (by omega), hat, vPlain_eq (by omega) (by omega), obn_s rfl]
 cases hp : pl c with
 | false => rw [cnd_tt (by simp)]; rfl
 | true =>
  rw [cnd_ff (by simp)]
  cases S with
  | nil =>
   rw [chk_t (by simp [imp]), chk_t (by simp [imp]), cnd_ff (by simp), chk_i64 (by simp) (by simp), vSize_eq (by omega) hi, obn_s rfl, chk_t (by simp [imp, nValid])]
   simp only [nValid, ov, Option.getD_some, Bool.not_true, cond_false]
   cases hn : decide (0 < c.fN) with
   | true =>
    rw [cnd_tt rfl]
    cases hm : decide ((v.length : Int) < c.fN) with
    | true => rw [cnd_tt rfl]; simp [shc]
    | false => rw [cnd_ff rfl, chk_t (by simp [inA])]; unfold vLook_j2; rw [chk_i64 (by omega) (by omega)]; simp [shc]
   | false =>
    rw [cnd_ff rfl, obn_s (vClosed_eq (S := []) (by simp; omega) (by simp) (by simp)), cnd_tt (by simp [clr]), chk_i64 (by omega) (by omega)]; simp [shc]
  | cons e S' =>
   have hx : S'.reverse.length = S'.length := by simp
   generalize hxs : S'.reverse = xs at hx
   have hr : (e :: S').reverse = xs ++ [e] := by simp [hxs]
   simp only [List.length_cons] at hS
   have hlen : ((xs ++ [e]).length : Int) = (xs.length : Int) + 1 := by simp
   rw [hr, chk_t (by simp only [imp, len_last]; rw [inK_i64' (by omega) (by omega)]; simp), chk_t (by simp only [imp, len_last]; rw [inR' (by omega) (by omega)]; simp)]
   rw [len_last, at_last]
   cases hk : e.fKey with
   | true =>
    rw [cnd_tt (by simp), chk_i64 (by omega) (by omega), chk_inR (by omega) (by omega)]
    simp only [hk, Bool.not_true, cond_false, cond_true]
    cases ht : !decide (c.fKind = 4) || (e.fStarted && (sLess c.fStr e.fLast || decide (c.fStr = e.fLast))) with
    | true => rw [cnd_tt rfl]; rfl
    | false =>
     rw [cnd_ff rfl, set_last, bnd, at_last, set_last, bnd, at_last, set_last, bnd, vQuoted_eq (by omega), obn_s rfl, chk_i64 (by unfold qlen; omega) (by unfold qlen; have := @List.count_le_length UInt8 _ 34 c.fStr; have := @List.count_le_length UInt8 _ 92 c.fStr; omega)]
     unfold vLook_j2
     rw [chk_i64 (by omega) (by omega)]
     simp [shk, hxs]
   | false =>
    rw [cnd_ff (by simp), hlen, chk_i64 (by omega) (by omega), vSize_eq (by omega) hi, obn_s rfl, chk_t (by simp [imp, nValid])]
    simp only [hk, nValid, ov, Option.getD_some, Bool.not_true, cond_false, cond_true]
    cases hn : decide (0 < c.fN) with
    | true =>
     rw [cnd_tt rfl]
     cases hm : decide ((v.length : Int) < c.fN) with
     | true => rw [cnd_tt rfl]; simp [shc, hx]
     | false => rw [cnd_ff rfl, chk_t (inA48 (by omega) hM2)]; unfold vLook_j2; rw [chk_i64 (by omega) (by omega)]; simp [shc, hx, hxs]
    | false =>
     have hcl := vClosed_eq (S := e :: S') (F := F) (by simp; omega) hb (by simp; omega)
     rw [hr] at hcl
     rw [cnd_ff rfl, hcl, obn_s rfl, clr_nil_length]
     cases hq : decide (clr (e :: S') = []) with
     | true => rw [cnd_tt rfl, chk_i64 (by omega) (by omega)]; simp [shc, hx]
     | false => rw [cnd_ff rfl]; unfold vLook_j2; rw [chk_i64 (by omega) (by omega)]; simp [shc, hx]
end Go.Proofs.YtkalifgebccpcaaGreatDoor

/-
 Values as forests; value.look on the cells of a forest. Plain laws.
-/
namespace Go.Proofs.YtkalifgebccpcaaGreatDoor
open Go
set_option linter.unusedVariables false
set_option linter.unusedSimpArgs false
section
variable {S O : Type} {body : S → Option (Stp S O)} {s t u : S} {o : O}
def Reach (body : S → Option (Stp S O)) (s t : S) : Prop := ∃ k, ∀ n, lop body (n + k) s = lop body n t
def Fin (body : S → Option (Stp S O)) (s : S) (o : O) : Prop := ∃ k, ∀ n, lop body (n + k) s = some o
theorem Reach.refl (s : S) : Reach body s s := ⟨0, fun _ => rfl⟩
theorem Reach.trans (h : Reach body s t) (h' : Reach body t u) : Reach body s u := by
 obtain ⟨k, hk⟩ := h
 obtain ⟨j, hj⟩ := h'
 exact ⟨j + k, fun n => by rw [← Nat.add_assoc, hk, hj]⟩
theorem Reach.step (h : body s = some (.next t)) : Reach body s t := ⟨1, fun n => by rw [lop, h]⟩
theorem Fin.step (h : body s = some (.out o)) : Fin body s o := ⟨1, fun n => by rw [lop, h]⟩
theorem Reach.fin (h : Reach body s t) (h' : Fin body t o) : Fin body s o := by
 obtain ⟨k, hk⟩ := h
 obtain ⟨j, hj⟩ := h'
 exact ⟨j + k, fun n => by rw [← Nat.add_assoc, hk, hj]⟩
end
inductive Fo where
 | nil
 | cell (k : Option Str) (c : TApiCell) (r : Fo)
 | node (k : Option Str) (c : TApiCell) (kids r : Fo)
def keyC : Option Str → List TApiCell
 | none => []
 | some s => [⟨4, 0, s, 0⟩]
def Fo.flat : Fo → List TApiCell
 | .nil => []
 | .cell k c r => keyC k ++ c :: r.flat
 | .node k c kids r => keyC k ++ c :: (kids.flat ++ r.flat)
def Fo.cnt : Fo → Nat
 | .nil => 0
 | .cell _ _ r => r.cnt + 1
 | .node _ _ _ r => r.cnt + 1
def keyOk (m : Bool) (last : Option Str) : Option Str → Bool
 | none => !m
 | some s => m && s.all okc && (match last with
  | none => true
  | some p => !(sLess s p || decide (s = p)))
def Fo.wf : Bool → Option Str → Fo → Bool
 | _, _, .nil => true
 | m, last, .cell k c r => keyOk m last k && pl c && !decide (0 < c.fN) && r.wf m k
 | m, last, .node k c kids r => keyOk m last k && pl c && decide (0 < c.fN) && decide (c.fN = kids.cnt) && kids.wf (decide (c.fKind = 6)) none && r.wf m k
def shK (k : Option Str) (sh : TValueShape) : TValueShape := match k with
 | none => sh
 | some s => shk sh ⟨4, 0, s, 0⟩
def Fo.sh (d : Nat) : TValueShape → Fo → TValueShape
 | s, .nil => s
 | s, .cell k c r => r.sh d (shc d (shK k s) c)
 | s, .node k c kids r => r.sh d (kids.sh (d + 1) (shc d (shK k s) c))
def Done (body : LkS → Option (Stp LkS LkO)) (s : LkS) (S : List TValueOpen) (i : Int) (sh : TValueShape) : Prop :=
 if clr S = [] then Fin body s (.ret (i, sh, true)) else Reach body s ((clr S).reverse, i, sh)
theorem Done.of {body : LkS → Option (Stp LkS LkO)} {s t : LkS} {S : List TValueOpen} {i : Int} {sh : TValueShape} (h : Reach body s t) (h' : Done body t S i sh) : Done body s S i sh := by
 unfold Done at *
 split
 ·rename_i e; rw [if_pos e] at h'; exact h.fin h'
 ·rename_i e; rw [if_neg e] at h'; exact h.trans h'
theorem Done.pop {body : LkS → Option (Stp LkS LkO)} {s : LkS} {e : TValueOpen} {S : List TValueOpen} {i : Int} {sh : TValueShape} (h : Done body s (e :: S) i sh) (h1 : e.fLeft = 1) : Done body s S i sh := by
 have : clr (e :: S) = clr S := by simp [clr, h1]
 unfold Done at *
 rw [this] at h; exact h
theorem Done.more {body : LkS → Option (Stp LkS LkO)} {s : LkS} {e : TValueOpen} {S : List TValueOpen} {i : Int} {sh : TValueShape} (h : Done body s (e :: S) i sh) (h1 : 1 < e.fLeft) : Reach body s ((⟨e.fPairs, e.fLeft - 1, e.fPairs, e.fLast, e.fStarted⟩ :: S).reverse, i, sh) := by
 have : clr (e :: S) = ⟨e.fPairs, e.fLeft - 1, e.fPairs, e.fLast, e.fStarted⟩ :: S := by simp [clr, h1]
 unfold Done at *
 rw [this, if_neg (by simp)] at h; exact h
end Go.Proofs.YtkalifgebccpcaaGreatDoor

/-
 value.look on the cells of a forest: it goes through them. Plain laws.
-/
namespace Go.Proofs.YtkalifgebccpcaaGreatDoor
open Go
set_option linter.unusedVariables false
set_option linter.unusedSimpArgs false
structure LkA (F M : Nat) (v : List TApiCell) : Prop where
 hM : M ≤ 1152921504606846976
 hM2 : (M + 2) * 48 ≤ 140737488355328
 hv : v.length ≤ M
 hF : M < F
 hc : ∀ c ∈ v, c.fStr.length ≤ M ∧ inK .i64 c.fInt = true ∧ c.fN ≤ 9223372036854775807
abbrev lkB (F : Nat) (v : List TApiCell) : LkS → Option (Stp LkS LkO) := fun σ => vLook_b1 F v σ.1 σ.2.1 σ.2.2
def lefts (S : List TValueOpen) : Prop := ∀ e ∈ S, 1 ≤ e.fLeft ∧ e.fLeft ≤ 9223372036854775807
section
variable {F M : Nat} {v : List TApiCell} {S : List TValueOpen} {i : Int} {sh : TValueShape} {c : TApiCell} {r : List TApiCell} {e : TValueOpen}
theorem drop_get (h0 : 0 ≤ i) (h : v.drop i.toNat = c :: r) : v[i.toNat]? = some c ∧ v.drop (i + 1).toNat = r ∧ i < v.length := by
 have h1 : (v.drop i.toNat)[0]? = some c := by rw [h]; rfl
 have h2 : v[i.toNat]? = some c := by simpa using h1
 have h3 := (List.getElem?_eq_some_iff.1 h2).1
 refine ⟨h2, ?_, by omega⟩
 rw [show (i + 1).toNat = i.toNat + 1 from by omega, ← List.drop_drop, h]; rfl
theorem round (hA : LkA F M v) (h0 : 0 ≤ i) (h : v.drop i.toNat = c :: r) (hS : (S.length : Int) ≤ i) (hb : lefts S) : lkB F v (S.reverse, i, sh) = some (lkc v.length S i sh c) := by
 obtain ⟨h1, _, h3⟩ := drop_get h0 h
 obtain ⟨a, b, _⟩ := hA.hc c (List.mem_of_getElem? h1)
 have := hA.hv
 exact vLook_b1_eq h0 h1 hA.hM hA.hM2 hA.hv (by omega) hA.hF a b hb
def keyed (e : TValueOpen) : Option Str → TValueOpen
 | none => e
 | some s => ⟨e.fPairs, e.fLeft, false, s, true⟩
def lastOk (e : TValueOpen) : Option Str → Prop
 | none => e.fStarted = false
 | some p => e.fStarted = true ∧ e.fLast = p
theorem keyRound (hA : LkA F M v) (h0 : 0 ≤ i) {k last : Option Str} (h : v.drop i.toNat = keyC k ++ r) (hS : (S.length : Int) + 1 ≤ i) (hb : lefts (e :: S)) (hk : keyOk e.fKey last k = true) (hl : lastOk e last) :
  Reach (lkB F v) ((e :: S).reverse, i, sh) ((keyed e k :: S).reverse, i + (keyC k).length, shK k sh) := by
 cases k with
 | none => simpa [keyed, keyC, shK] using Reach.refl _
 | some s =>
  simp only [keyOk, Bool.and_eq_true] at hk
  obtain ⟨⟨hm, hok⟩, hcmp⟩ := hk
  refine Reach.step ?_
  rw [round hA h0 (by simpa [keyC] using h) (by simpa using hS) hb]
  have hp : pl ⟨4, 0, s, 0⟩ = true := by simp [pl, hok]
  have ht : (e.fStarted && (sLess s e.fLast || decide (s = e.fLast))) = false := by
   cases last with
   | none => simp only [lastOk] at hl; rw [hl]; rfl
   | some p => obtain ⟨h1, h2⟩ := hl; rw [h1, h2]; simpa using hcmp
  simp only [lkc, hp, hm, ht, Bool.not_true, cond_false, cond_true, decide_true, Bool.or_false, Bool.or_self]
  rfl
theorem keyed_key {k last : Option Str} (hk : keyOk e.fKey last k = true) : (keyed e k).fKey = false := by
 cases k with
 | none => simpa [keyed, keyOk] using hk
 | some s => rfl
theorem keyed_left (k : Option Str) : (keyed e k).fLeft = e.fLeft ∧ (keyed e k).fPairs = e.fPairs := by cases k <;> exact ⟨rfl, rfl⟩
theorem leafRound (hA : LkA F M v) (h0 : 0 ≤ i) (h : v.drop i.toNat = c :: r) (hS : (S.length : Int) ≤ i) (hb : lefts S) (hk : keyTop S = false) (hp : pl c = true) (hn : decide (0 < c.fN) = false) :
  Done (lkB F v) (S.reverse, i, sh) S (i + 1) (shc S.length sh c) := by
 have hr := round (sh := sh) hA h0 h hS hb
 unfold Done
 cases S with
 | nil =>
  rw [if_pos (by simp [clr])]
  refine Fin.step ?_
  rw [hr]; simp [lkc, hp, hn]
 | cons e S =>
  simp only [keyTop] at hk
  split
  ·rename_i hc
   refine Fin.step ?_
   rw [hr]; simp [lkc, hp, hn, hk, hc]
  ·rename_i hc
   refine Reach.step ?_
   rw [hr]; simp [lkc, hp, hn, hk, hc]
theorem nodeRound (hA : LkA F M v) (h0 : 0 ≤ i) (h : v.drop i.toNat = c :: r) (hS : (S.length : Int) ≤ i) (hb : lefts S) (hk : keyTop S = false) (hp : pl c = true) (hn : decide (0 < c.fN) = true) (hv : c.fN ≤ v.length) :
  Reach (lkB F v) (S.reverse, i, sh) ((⟨decide (c.fKind = 6), c.fN, decide (c.fKind = 6), [], false⟩ :: S).reverse, i + 1, shc S.length sh c) := by
 have hr := round (sh := sh) hA h0 h hS hb
 have hv' : decide ((v.length : Int) < c.fN) = false := by simpa using hv
 refine Reach.step ?_
 rw [hr]
 cases S with
 | nil => simp only [lkc, hp, hn, hv', Bool.not_true, cond_false, cond_true]; rfl
 | cons e S =>
  simp only [keyTop] at hk
  simp only [lkc, hp, hn, hv', hk, Bool.not_true, cond_false, cond_true]
theorem cnt_le_flat : ∀ f : Fo, f.cnt ≤ f.flat.length
 | .nil => Nat.le_refl _
 | .cell k c r => by have := cnt_le_flat r; simp [Fo.cnt, Fo.flat]; omega
 | .node k c kids r => by have := cnt_le_flat r; simp [Fo.cnt, Fo.flat]; omega
theorem drop_app {α : Type} {v xs r : List α} {i : Int} (h0 : 0 ≤ i) (h : v.drop i.toNat = xs ++ r) : v.drop (i + xs.length).toNat = r := by
 rw [show (i + (xs.length : Int)).toNat = i.toNat + xs.length from by omega, ← List.drop_drop, h, List.drop_left]
theorem restLook (hA : LkA F M v) {e' : TValueOpen} {s : LkS} {k : Option Str} {r' : Fo}
  (ih : ∀ (e : TValueOpen) (S : List TValueOpen) (i : Int) (sh : TValueShape) (last : Option Str) (r : List TApiCell), 1 ≤ r'.cnt → r'.wf e.fPairs last = true → e.fKey = e.fPairs → e.fLeft = r'.cnt → lastOk e last → (e.fPairs = false → last = none) → v.drop i.toNat = r'.flat ++ r → 0 ≤ i → (S.length : Int) + 1 ≤ i → lefts S →
   Done (lkB F v) ((e :: S).reverse, i, sh) S (i + r'.flat.length) (r'.sh (S.length + 1) sh))
  (hd : Done (lkB F v) s (e' :: S) i sh) (hl : e'.fLeft = r'.cnt + 1) (hw : r'.wf e'.fPairs k = true) (hk : lastOk e' k) (hm : e'.fPairs = false → k = none) (hv : v.drop i.toNat = r'.flat ++ r) (h0 : 0 ≤ i) (hS : (S.length : Int) + 1 ≤ i) (hb : lefts S) :
  Done (lkB F v) s S (i + r'.flat.length) (r'.sh (S.length + 1) sh) := by
 by_cases h1 : r'.cnt = 0
 ·cases r' with
  | nil => simpa [Fo.flat, Fo.sh] using hd.pop (by rw [hl]; rfl)
  | cell _ _ _ => simp [Fo.cnt] at h1
  | node _ _ _ _ => simp [Fo.cnt] at h1
 ·have := hd.more (by omega)
  refine Done.of this (ih _ S i sh k r (by omega) hw rfl (by simp only; omega) ?_ hm hv h0 hS hb)
  cases k with
  | none => exact hk
  | some p => exact hk
theorem keyed_last {k last : Option Str} (hl : lastOk e last) (hm : e.fPairs = false → last = none) (hk : keyOk e.fPairs last k = true) : lastOk (keyed e k) k ∧ ((keyed e k).fPairs = false → k = none) := by
 cases k with
 | none =>
  have : e.fPairs = false := by simpa [keyOk] using hk
  rw [hm this] at hl
  exact ⟨hl, fun _ => rfl⟩
 | some s =>
  refine ⟨⟨rfl, rfl⟩, fun h => ?_⟩
  have h : e.fPairs = false := h
  simp [keyOk, h] at hk
theorem forest_look (hA : LkA F M v) : ∀ (f : Fo) (e : TValueOpen) (S : List TValueOpen) (i : Int) (sh : TValueShape) (last : Option Str) (r : List TApiCell), 1 ≤ f.cnt → f.wf e.fPairs last = true → e.fKey = e.fPairs → e.fLeft = f.cnt → lastOk e last → (e.fPairs = false → last = none) → v.drop i.toNat = f.flat ++ r → 0 ≤ i → (S.length : Int) + 1 ≤ i → lefts S →
   Done (lkB F v) ((e :: S).reverse, i, sh) S (i + f.flat.length) (f.sh (S.length + 1) sh) := by
 have hmax : ∀ (i : Int) (xs : List TApiCell), 0 ≤ i → v.drop i.toNat = xs → xs.length ≤ v.length := fun i xs _ h => by rw [← h, List.length_drop]; omega
 intro f
 induction f with
 | nil => intro e S i sh last r h1; simp [Fo.cnt] at h1
 | cell k c r' ih =>
  intro e S i sh last r h1 hw hk hl hlo hm hv h0 hS hb
  simp only [Fo.wf, Bool.and_eq_true, Bool.not_eq_true'] at hw
  obtain ⟨⟨⟨w1, w2⟩, w3⟩, w4⟩ := hw
  simp only [Fo.flat, List.append_assoc, List.cons_append] at hv
  have hcnt := hmax i _ h0 hv
  have hcf := cnt_le_flat r'
  simp only [List.length_append, List.length_cons] at hcnt
  have hvM := hA.hv; have hMM := hA.hM
  simp only [Fo.cnt] at hl
  have hb' : lefts (e :: S) := fun x hx => by
   rcases List.mem_cons.1 hx with rfl | hx
   ·constructor <;> omega
   ·exact hb x hx
  have hkr := keyRound (sh := sh) hA h0 hv hS hb' (by rw [hk]; exact w1) hlo
  have hv1 := drop_app h0 hv
  obtain ⟨kl, kp⟩ := keyed_left (e := e) k
  have hbk : lefts (keyed e k :: S) := fun x hx => by
   rcases List.mem_cons.1 hx with rfl | hx
   ·rw [kl]; exact hb' e (by simp)
   ·exact hb x hx
  have hd := leafRound (sh := shK k sh) hA (by omega) hv1 (by simp only [List.length_cons]; omega) hbk (keyed_key (by rw [hk]; exact w1)) w2 w3
  obtain ⟨q1, q2⟩ := keyed_last hlo hm w1
  have hv2 := (drop_get (by omega) hv1).2.1
  have := restLook hA ih (hd.of hkr) (by rw [kl, hl]; rfl) (by rw [kp]; exact w4) q1 q2 hv2 (by omega) (by omega) hb
  simp only [Fo.flat, Fo.sh, List.length_append, List.length_cons]
  rw [show i + ((((keyC k).length + (r'.flat.length + 1) : Nat)) : Int) = i + (keyC k).length + 1 + r'.flat.length from by omega]
  exact this
 | node k c kids r' ihk ih =>
  intro e S i sh last r h1 hw hk hl hlo hm hv h0 hS hb
  simp only [Fo.wf, Bool.and_eq_true, decide_eq_true_eq] at hw
  obtain ⟨⟨⟨⟨⟨w1, w2⟩, w3⟩, w5⟩, w6⟩, w4⟩ := hw
  simp only [Fo.flat, List.append_assoc, List.cons_append] at hv
  have hcnt := hmax i _ h0 hv
  have hcf := cnt_le_flat r'
  have hck := cnt_le_flat kids
  simp only [List.length_append, List.length_cons] at hcnt
  have hvM := hA.hv; have hMM := hA.hM
  simp only [Fo.cnt] at hl
  have hb' : lefts (e :: S) := fun x hx => by
   rcases List.mem_cons.1 hx with rfl | hx
   ·constructor <;> omega
   ·exact hb x hx
  have hkr := keyRound (sh := sh) hA h0 hv hS hb' (by rw [hk]; exact w1) hlo
  have hv1 := drop_app h0 hv
  obtain ⟨kl, kp⟩ := keyed_left (e := e) k
  have hbk : lefts (keyed e k :: S) := fun x hx => by
   rcases List.mem_cons.1 hx with rfl | hx
   ·rw [kl]; exact hb' e (by simp)
   ·exact hb x hx
  have hn := nodeRound (sh := shK k sh) hA (by omega) hv1 (by simp only [List.length_cons]; omega) hbk (keyed_key (by rw [hk]; exact w1)) w2 (by simpa using w3) (by omega)
  have hv2 := (drop_get (by omega) hv1).2.1
  have hd := ihk ⟨decide (c.fKind = 6), c.fN, decide (c.fKind = 6), [], false⟩ (keyed e k :: S) (i + (keyC k).length + 1) (shc (S.length + 1) (shK k sh) c) none _ (by omega) w6 rfl w5 rfl (fun _ => rfl) hv2 (by omega) (by simp only [List.length_cons]; omega) hbk
  obtain ⟨q1, q2⟩ := keyed_last hlo hm w1
  have hv3 := drop_app (by omega) hv2
  have := restLook hA ih ((hd.of hn).of hkr) (by rw [kl, hl]; rfl) (by rw [kp]; exact w4) q1 q2 hv3 (by omega) (by omega) hb
  simp only [Fo.flat, Fo.sh, List.length_append, List.length_cons]
  rw [show i + ((((keyC k).length + (kids.flat.length + r'.flat.length + 1) : Nat)) : Int) = i + (keyC k).length + 1 + kids.flat.length + r'.flat.length from by omega]
  exact this
end
end Go.Proofs.YtkalifgebccpcaaGreatDoor

/-
 value.look always ends; what it says of a value. Plain laws.
-/
namespace Go.Proofs.YtkalifgebccpcaaGreatDoor
open Go
set_option linter.unusedVariables false
set_option linter.unusedSimpArgs false
theorem lop_mono {S O : Type} {body : S → Option (Stp S O)} {o : O} : ∀ {n : Nat} {s : S} (k : Nat), lop body n s = some o → lop body (n + k) s = some o
 | 0, s, k, h => by cases h
 | n + 1, s, k, h => by
  rw [show n + 1 + k = n + k + 1 from by omega, lop]
  rw [lop] at h
  cases hb : body s with
  | none => rw [hb] at h; cases h
  | some t =>
   rw [hb] at h
   cases t with
   | next s' => exact lop_mono k h
   | out o' => exact h
theorem Fin.eq {S O : Type} {body : S → Option (Stp S O)} {s : S} {o o' : O} {n : Nat} (h : Fin body s o) (h' : lop body n s = some o') : o' = o := by
 obtain ⟨k, hk⟩ := h
 have := lop_mono k h'
 rw [hk n] at this
 exact (some_e this).symm
theorem clr_lefts : ∀ {S : List TValueOpen}, lefts S → lefts (clr S) ∧ (clr S).length ≤ S.length
 | [], h => ⟨h, Nat.le_refl _⟩
 | e :: S, h => by
  have hS : lefts S := fun x hx => h x (by simp [hx])
  have he := h e (by simp)
  unfold clr
  cases hd : decide (1 < e.fLeft) with
  | true =>
   simp only [decide_eq_true_eq] at hd
   refine ⟨fun x hx => ?_, by simp⟩
   rcases List.mem_cons.1 hx with rfl | hx
   ·simp only; omega
   ·exact hS x hx
  | false =>
   obtain ⟨h1, h2⟩ := clr_lefts hS
   exact ⟨h1, by simp only [cond_false, List.length_cons]; omega⟩
theorem lkc_next {n : Int} {S : List TValueOpen} {i : Int} {sh : TValueShape} {c : TApiCell} {σ : LkS} (hb : lefts S) (hS : (S.length : Int) ≤ i) (hN : c.fN ≤ 9223372036854775807) (h : lkc n S i sh c = .next σ) : ∃ S' sh', σ = (S'.reverse, i + 1, sh') ∧ lefts S' ∧ (S'.length : Int) ≤ i + 1 := by
 unfold lkc at h
 cases hp : pl c with
 | false => simp [hp] at h
 | true =>
  simp only [hp, Bool.not_true, cond_false] at h
  cases S with
  | nil =>
   simp only at h
   cases hn : decide (0 < c.fN) with
   | false => simp [hn] at h
   | true =>
    simp only [hn, cond_true] at h
    cases hm : decide (n < c.fN) with
    | true => simp [hm] at h
    | false =>
     simp only [hm, cond_false, Stp.next.injEq] at h
     refine ⟨[_], _, h.symm, fun x hx => ?_, by simp at hS ⊢; omega⟩
     simp only [List.mem_singleton] at hx; subst hx
     simp only [decide_eq_true_eq] at hn
     exact ⟨by simp only; omega, hN⟩
  | cons e S =>
   have he := hb e (by simp)
   have hbS : lefts S := fun x hx => hb x (by simp [hx])
   simp only [List.length_cons] at hS
   cases hk : e.fKey with
   | true =>
    simp only [hk, cond_true] at h
    cases hq : (!decide (c.fKind = 4) || (e.fStarted && (sLess c.fStr e.fLast || decide (c.fStr = e.fLast)))) with
    | true => rw [hq] at h; simp at h
    | false =>
     rw [hq] at h
     simp only [cond_false, Stp.next.injEq] at h
     refine ⟨_ :: S, _, h.symm, fun x hx => ?_, by simp only [List.length_cons]; omega⟩
     rcases List.mem_cons.1 hx with rfl | hx
     ·exact he
     ·exact hbS x hx
   | false =>
    simp only [hk, cond_false] at h
    cases hn : decide (0 < c.fN) with
    | true =>
     simp only [hn, cond_true] at h
     cases hm : decide (n < c.fN) with
     | true => simp [hm] at h
     | false =>
      simp only [hm, cond_false, Stp.next.injEq] at h
      refine ⟨_ :: e :: S, _, h.symm, fun x hx => ?_, by simp only [List.length_cons]; omega⟩
      rcases List.mem_cons.1 hx with rfl | hx
      ·simp only [decide_eq_true_eq] at hn
       exact ⟨by simp only; omega, hN⟩
      ·exact hb x hx
    | false =>
     simp only [hn, cond_false] at h
     cases hq : decide (clr (e :: S) = []) with
     | true => rw [hq] at h; simp at h
     | false =>
      rw [hq] at h
      simp only [cond_false, Stp.next.injEq] at h
      obtain ⟨h1, h2⟩ := clr_lefts hb
      simp only [List.length_cons] at h2
      exact ⟨_, _, h.symm, h1, by omega⟩
theorem look_total {F M : Nat} {v : List TApiCell} (hA : LkA F M v) : ∃ o, lop (lkB F v) F (([] : List TValueOpen), 0, (⟨0, 0, false, false⟩ : TValueShape)) = some o ∧ True := by
 refine lop_ind (fun σ => ∃ S i sh, σ = (S.reverse, i, sh) ∧ lefts S ∧ (S.length : Int) ≤ i ∧ 0 ≤ i ∧ i ≤ v.length) (fun σ => v.length - σ.2.1.toNat) (fun _ => True) (fun σ hI => ?_) F _ ⟨[], 0, _, rfl, (fun x hx => by cases hx), Int.le_refl _, Int.le_refl _, by omega⟩ (by have := hA.hv; have := hA.hF; simp; omega)
 obtain ⟨S, i, sh, rfl, hb, hS, h0, hi⟩ := hI
 by_cases hx : i < v.length
 ·obtain ⟨c, hc⟩ : ∃ c, v[i.toNat]? = some c := ⟨v[i.toNat]'(by omega), List.getElem?_eq_getElem (by omega)⟩
  have hdr : v.drop i.toNat = c :: v.drop (i.toNat + 1) := by rw [List.drop_eq_getElem_cons (by omega)]; congr 1; exact (List.getElem?_eq_some_iff.1 hc).2
  have hr := round (sh := sh) hA h0 hdr hS hb
  cases hl : lkc v.length S i sh c with
  | next τ =>
   obtain ⟨S', sh', rfl, h1, h2⟩ := lkc_next hb hS (hA.hc c (List.mem_of_getElem? hc)).2.2 hl
   exact .inl ⟨_, by rw [hr, hl], ⟨S', i + 1, sh', rfl, h1, h2, by omega, by omega⟩, by simp only; omega⟩
  | out o => exact .inr ⟨o, by rw [hr, hl], trivial⟩
 ·refine .inr ⟨.go sh, ?_, trivial⟩
  show vLook_b1 F v S.reverse i sh = _
  unfold vLook_b1
  rw [cnd_ff (by simpa using hx)]
def Fo.one : Fo → Bool
 | .cell none _ .nil => true
 | .node none _ _ .nil => true
 | _ => false
def sh0 : TValueShape := ⟨0, 0, false, false⟩
theorem look_fin {F M : Nat} {v : List TApiCell} (hA : LkA F M v) {f : Fo} (h1 : f.one = true) (hw : f.wf false none = true) {r : List TApiCell} (hv : v = f.flat ++ r) : Fin (lkB F v) ([], 0, sh0) (.ret (f.flat.length, f.sh 0 sh0, true)) := by
 have h0 : v.drop (0 : Int).toNat = f.flat ++ r := by rw [hv]; rfl
 have hlen : f.flat.length ≤ v.length := by rw [hv]; simp
 cases f with
 | nil => cases h1
 | cell k c r' =>
  cases k with
  | some s => cases h1
  | none =>
   cases r' with
   | nil =>
    simp only [Fo.wf, Bool.and_eq_true, Bool.not_eq_true'] at hw
    have := leafRound (S := []) (sh := sh0) hA (Int.le_refl 0) h0 (by simp) (fun x hx => by cases hx) rfl hw.1.1.2 hw.1.2
    unfold Done at this
    rw [if_pos (show clr [] = [] from rfl)] at this
    simpa [Fo.flat, Fo.sh, keyC, shK] using this
   | cell _ _ _ => cases h1
   | node _ _ _ _ => cases h1
 | node k c kids r' =>
  cases k with
  | some s => cases h1
  | none =>
   cases r' with
   | nil =>
    simp only [Fo.wf, Bool.and_eq_true, decide_eq_true_eq] at hw
    obtain ⟨⟨⟨⟨⟨w1, w2⟩, w3⟩, w5⟩, w6⟩, w4⟩ := hw
    have hck := cnt_le_flat kids
    simp only [Fo.flat, keyC, List.nil_append, List.append_nil, List.length_cons] at hlen
    have hvM := hA.hv; have hMM := hA.hM
    have hn := nodeRound (S := []) (sh := sh0) hA (Int.le_refl 0) h0 (by simp) (fun x hx => by cases hx) rfl w2 (by simpa using w3) (by omega)
    have hv2 := (drop_get (Int.le_refl 0) h0).2.1
    have hd := forest_look hA kids ⟨decide (c.fKind = 6), c.fN, decide (c.fKind = 6), [], false⟩ [] (0 + 1) (shc 0 sh0 c) none r (by omega) w6 rfl w5 rfl (fun _ => rfl) (by rw [hv2]; simp [Fo.flat]) (by omega) (by simp) (fun x hx => by cases hx)
    unfold Done at hd
    rw [if_pos (show clr [] = [] from rfl)] at hd
    have := hn.fin hd
    have e : ((0 : Int) + 1 + kids.flat.length) = ((Fo.node none c kids .nil).flat.length : Int) := by simp [Fo.flat, keyC]; omega
    rw [e] at this
    exact this
   | cell _ _ _ => cases h1
   | node _ _ _ _ => cases h1
theorem look_val {F M : Nat} {v : List TApiCell} (hA : LkA F M v) {f : Fo} (h1 : f.one = true) (hw : f.wf false none = true) {r : List TApiCell} (hv : v = f.flat ++ r) : vLook F v = some ((f.flat.length : Int), f.sh 0 sh0, true) := by
 obtain ⟨o, ho, _⟩ := look_total hA
 have e := (look_fin hA h1 hw hv).eq ho
 subst e
 unfold vLook
 rw [obn_s ho]; rfl
end Go.Proofs.YtkalifgebccpcaaGreatDoor

/-
 Reading values of cells: a plain reader; value.look says what it says. Plain laws.
-/
namespace Go.Proofs.YtkalifgebccpcaaGreatDoor
open Go
set_option linter.unusedVariables false
set_option linter.unusedSimpArgs false
def prsK (m : Bool) (last : Option Str) (xs : List TApiCell) : Option (Option Str × List TApiCell) :=
 bif m then match xs with
  | [] => none
  | c :: r => bif pl c && decide (c.fKind = 4) && keyOk true last (some c.fStr) then some (some c.fStr, r) else none
 else some (none, xs)
def prs : Nat → Bool → Option Str → Nat → List TApiCell → Option (Fo × List TApiCell)
 | 0, _, _, _, _ => none
 | _ + 1, _, _, 0, xs => some (.nil, xs)
 | F + 1, m, last, k + 1, xs =>
  match prsK m last xs with
  | none => none
  | some (_, []) => none
  | some (key, c :: xs') =>
   bif !pl c then none else
   bif decide (0 < c.fN) then
    match prs F (decide (c.fKind = 6)) none c.fN.toNat xs' with
    | none => none
    | some (kids, ys) => match prs F m key k ys with
     | none => none
     | some (r, zs) => some (.node key c kids r, zs)
   else match prs F m key k xs' with
    | none => none
    | some (r, zs) => some (.cell key c r, zs)
theorem pl_key {c : TApiCell} (hp : pl c = true) (hk : c.fKind = 4) : c = ⟨4, 0, c.fStr, 0⟩ ∧ c.fStr.all okc = true := by
 cases c
 simp only at hk; subst hk
 simp [pl] at hp
 obtain ⟨h1, h2, h3⟩ := hp
 subst h1; subst h2
 exact ⟨rfl, by simpa using h3⟩
theorem prsK_ok {m : Bool} {last key : Option Str} {xs r : List TApiCell} (h : prsK m last xs = some (key, r)) : xs = keyC key ++ r ∧ keyOk m last key = true := by
 unfold prsK at h
 cases m with
 | false => cases h; exact ⟨rfl, rfl⟩
 | true =>
  simp only [cond_true] at h
  cases xs with
  | nil => cases h
  | cons c r' =>
   simp only at h
   cases hb : (pl c && decide (c.fKind = 4) && keyOk true last (some c.fStr)) with
   | false => rw [hb] at h; cases h
   | true =>
    rw [hb] at h
    simp only [Bool.and_eq_true, decide_eq_true_eq] at hb
    cases h
    exact ⟨by rw [(pl_key hb.1.1 hb.1.2).1]; rfl, hb.2⟩
theorem prs_ok : ∀ (F : Nat) (m : Bool) (last : Option Str) (k : Nat) (xs : List TApiCell) (f : Fo) (ys : List TApiCell), prs F m last k xs = some (f, ys) → xs = f.flat ++ ys ∧ f.wf m last = true ∧ f.cnt = k
 | 0, _, _, _, _, _, _, h => by cases h
 | F + 1, m, last, 0, xs, f, ys, h => by cases h; exact ⟨rfl, rfl, rfl⟩
 | F + 1, m, last, k + 1, xs, f, ys, h => by
  rw [prs] at h
  cases hk : prsK m last xs with
  | none => rw [hk] at h; cases h
  | some p =>
   obtain ⟨key, r⟩ := p
   obtain ⟨h1, h2⟩ := prsK_ok hk
   rw [hk] at h
   cases r with
   | nil => cases h
   | cons c xs' =>
    simp only at h
    cases hp : pl c with
    | false => rw [hp] at h; cases h
    | true =>
     rw [hp] at h
     simp only [Bool.not_true, cond_false] at h
     cases hn : decide (0 < c.fN) with
     | true =>
      rw [hn] at h
      simp only [cond_true] at h
      cases hq : prs F (decide (c.fKind = 6)) none c.fN.toNat xs' with
      | none => rw [hq] at h; cases h
      | some q =>
       obtain ⟨kids, zs⟩ := q
       rw [hq] at h
       simp only at h
       cases hr : prs F m key k zs with
       | none => rw [hr] at h; cases h
       | some q2 =>
        obtain ⟨r2, us⟩ := q2
        rw [hr] at h; cases h
        obtain ⟨a1, a2, a3⟩ := prs_ok F _ _ _ _ _ _ hq
        obtain ⟨b1, b2, b3⟩ := prs_ok F _ _ _ _ _ _ hr
        refine ⟨by rw [h1, a1, b1]; simp [Fo.flat], ?_, by simp [Fo.cnt, b3]⟩
        simp only [decide_eq_true_eq] at hn
        simp only [Fo.wf, h2, hp, a2, b2, Bool.and_true, Bool.true_and, Bool.and_eq_true, decide_eq_true_eq]
        omega
     | false =>
      rw [hn] at h
      simp only [cond_false] at h
      cases hr : prs F m key k xs' with
      | none => rw [hr] at h; cases h
      | some q2 =>
       obtain ⟨r2, us⟩ := q2
       rw [hr] at h; cases h
       obtain ⟨b1, b2, b3⟩ := prs_ok F _ _ _ _ _ _ hr
       exact ⟨by rw [h1, b1]; simp [Fo.flat], by simp [Fo.wf, h2, hp, b2, hn], by simp [Fo.cnt, b3]⟩
theorem prs_fuel : ∀ (F F' : Nat) (m : Bool) (last : Option Str) (k : Nat) (xs : List TApiCell), xs.length < F → xs.length < F' → prs F m last k xs = prs F' m last k xs
 | 0, _, _, _, _, _, h, _ => by omega
 | _ + 1, 0, _, _, _, _, _, h => by omega
 | F + 1, F' + 1, m, last, 0, xs, _, _ => rfl
 | F + 1, F' + 1, m, last, k + 1, xs, h, h' => by
  rw [prs, prs]
  cases hk : prsK m last xs with
  | none => rfl
  | some p =>
   obtain ⟨key, r⟩ := p
   obtain ⟨h1, h2⟩ := prsK_ok hk
   cases r with
   | nil => rfl
   | cons c xs' =>
    have hl : xs'.length < xs.length := by rw [h1]; simp; omega
    simp only
    cases hp : pl c with
    | false => rfl
    | true =>
     simp only [Bool.not_true, cond_false]
     cases hn : decide (0 < c.fN) with
     | true =>
      simp only [cond_true]
      rw [prs_fuel F F' _ _ _ xs' (by omega) (by omega)]
      cases hq : prs F' (decide (c.fKind = 6)) none c.fN.toNat xs' with
      | none => rfl
      | some q =>
       obtain ⟨kids, zs⟩ := q
       have := (prs_ok _ _ _ _ _ _ _ hq).1
       have hz : zs.length ≤ xs'.length := by rw [this]; simp
       simp only
       rw [prs_fuel F F' m key k zs (by omega) (by omega)]
     | false =>
      simp only [cond_false]
      rw [prs_fuel F F' m key k xs' (by omega) (by omega)]
def Bad {S : Type} (body : S → Option (Stp S LkO)) (s : S) : Prop := ∃ sh', Fin body s (.ret (0, sh', false)) ∨ Fin body s (.go sh')
theorem Reach.bad {S : Type} {body : S → Option (Stp S LkO)} {s t : S} (h : Reach body s t) (h' : Bad body t) : Bad body s := by
 obtain ⟨sh', h' | h'⟩ := h'
 ·exact ⟨sh', .inl (h.fin h')⟩
 ·exact ⟨sh', .inr (h.fin h')⟩
section
variable {F M : Nat} {v : List TApiCell}
theorem Bad.end_ {S : List TValueOpen} {i : Int} {sh : TValueShape} (h0 : 0 ≤ i) (h : v.drop i.toNat = []) : Bad (lkB F v) (S.reverse, i, sh) := by
 refine ⟨sh, .inr (Fin.step ?_)⟩
 show vLook_b1 F v S.reverse i sh = _
 unfold vLook_b1
 rw [cnd_ff]
 have : v.length ≤ i.toNat := by simpa using h
 simp; omega
theorem Bad.pl_ (hA : LkA F M v) {S : List TValueOpen} {i : Int} {sh : TValueShape} {c : TApiCell} {r : List TApiCell} (h0 : 0 ≤ i) (h : v.drop i.toNat = c :: r) (hS : (S.length : Int) ≤ i) (hb : lefts S) (hp : pl c = false) : Bad (lkB F v) (S.reverse, i, sh) := by
 refine ⟨sh, .inl (Fin.step ?_)⟩
 rw [round hA h0 h hS hb]
 simp [lkc, hp]
theorem forest_bad (hA : LkA F M v) : ∀ (P : Nat) (k : Nat) (e : TValueOpen) (S : List TValueOpen) (i : Int) (sh : TValueShape) (last : Option Str) (xs : List TApiCell), xs.length < P → prs P e.fPairs last (k + 1) xs = none → e.fKey = e.fPairs → e.fLeft = (k : Int) + 1 → (k : Int) + 1 ≤ 9223372036854775807 → lastOk e last → (e.fPairs = false → last = none) → v.drop i.toNat = xs → 0 ≤ i → (S.length : Int) + 1 ≤ i → lefts S →
  Bad (lkB F v) ((e :: S).reverse, i, sh) := by
 intro P
 induction P with
 | zero => intro k e S i sh last xs h; omega
 | succ P ih =>
  intro k e S i sh last xs hP hn hk hl hkm hlo hm hv h0 hS hb
  have hb' : lefts (e :: S) := fun x hx => by
   rcases List.mem_cons.1 hx with rfl | hx
   ·constructor <;> omega
   ·exact hb x hx
  rw [prs] at hn
  cases hq : prsK e.fPairs last xs with
  | none =>
   unfold prsK at hq
   cases hpr : e.fPairs with
   | false => rw [hpr] at hq; cases hq
   | true =>
    rw [hpr] at hq hk
    simp only [cond_true] at hq
    cases xs with
    | nil => exact Bad.end_ h0 hv
    | cons c r =>
     simp only at hq
     cases hp : pl c with
     | false => exact Bad.pl_ hA h0 hv (by simpa using hS) hb' hp
     | true =>
      refine ⟨sh, .inl (Fin.step ?_)⟩
      rw [round hA h0 hv (by simpa using hS) hb']
      have ht : (!decide (c.fKind = 4) || (e.fStarted && (sLess c.fStr e.fLast || decide (c.fStr = e.fLast)))) = true := by
       rw [hp] at hq
       cases h4 : decide (c.fKind = 4) with
       | false => rfl
       | true =>
        rw [h4] at hq
        simp only [Bool.and_self, Bool.true_and] at hq
        have hok := (pl_key hp (by simpa using h4)).2
        cases last with
        | none => simp [keyOk, hok] at hq
        | some p =>
         obtain ⟨q1, q2⟩ := hlo
         rw [q1, q2]
         cases hc : (sLess c.fStr p || decide (c.fStr = p)) with
         | true => rfl
         | false => simp [keyOk, hok, hc] at hq
      simp only [lkc, hp, hk, ht, Bool.not_true, cond_false, cond_true]
  | some q =>
   obtain ⟨key, r⟩ := q
   obtain ⟨h1, h2⟩ := prsK_ok hq
   rw [hq] at hn
   have hkr := keyRound (sh := sh) hA h0 (by rw [hv]; exact h1) hS hb' (by rw [hk]; exact h2) hlo
   have hv1 := drop_app h0 (hv.trans h1)
   obtain ⟨kl, kp⟩ := keyed_left (e := e) key
   obtain ⟨q1, q2⟩ := keyed_last hlo hm h2
   have hbk : lefts (keyed e key :: S) := fun x hx => by
    rcases List.mem_cons.1 hx with rfl | hx
    ·rw [kl]; exact hb' e (by simp)
    ·exact hb x hx
   refine hkr.bad ?_
   cases r with
   | nil => exact Bad.end_ (by omega) hv1
   | cons c xs' =>
    have hlen : xs'.length + 1 ≤ xs.length := by rw [h1]; simp
    have hvl : xs.length ≤ v.length := by rw [← hv, List.length_drop]; omega
    have hvM := hA.hv; have hMM := hA.hM
    have hkk := keyed_key (e := e) (last := last) (k := key) (by rw [hk]; exact h2)
    simp only at hn
    have hSk : (((keyed e key :: S).length : Nat) : Int) ≤ i + (keyC key).length := by simp only [List.length_cons]; omega
    cases hp : pl c with
    | false => exact Bad.pl_ hA (by omega) hv1 hSk hbk hp
    | true =>
     rw [hp] at hn
     simp only [Bool.not_true, cond_false] at hn
     obtain ⟨g1, g2, g3⟩ := drop_get (by omega) hv1
     have hcN := (hA.hc c (List.mem_of_getElem? g1)).2.2
     -- what follows a whole value
     have more : ∀ (s : LkS) (j : Int) (sh' : TValueShape) (zs : List TApiCell), Done (lkB F v) s (keyed e key :: S) j sh' → v.drop j.toNat = zs → zs.length < P → 0 ≤ j → (S.length : Int) + 1 ≤ j → prs P e.fPairs key k zs = none → Bad (lkB F v) s := fun s j sh' zs hd hz hzl hj hSj hnone => by
      cases k with
      | zero =>
       cases P with
       | zero => omega
       | succ P => cases hnone
      | succ k =>
       have := hd.more (by rw [kl]; omega)
       refine this.bad (ih k _ S j sh' key zs hzl (by rw [kp]; exact hnone) rfl (by simp only [kl]; omega) (by omega) ?_ (by simpa using q2) hz hj hSj hb)
       cases key with
       | none => exact q1
       | some p => exact q1
     cases hN : decide (0 < c.fN) with
     | true =>
      rw [hN] at hn
      simp only [cond_true] at hn
      simp only [decide_eq_true_eq] at hN
      by_cases hbig : c.fN ≤ v.length
      ·have hnd := nodeRound (sh := shK key sh) hA (by omega) hv1 hSk hbk (by simpa [keyTop] using hkk) hp (by simpa using hN) hbig
       refine hnd.bad ?_
       cases hks : prs P (decide (c.fKind = 6)) none c.fN.toNat xs' with
       | none =>
        obtain ⟨n', hn'⟩ : ∃ n', c.fN.toNat = n' + 1 := ⟨c.fN.toNat - 1, by omega⟩
        rw [hn'] at hks
        exact ih n' _ _ _ _ none xs' (by omega) hks rfl (by simp only; omega) (by omega) rfl (fun _ => rfl) g2 (by omega) (by simp only [List.length_cons]; omega) hbk
       | some q =>
        obtain ⟨kids, zs⟩ := q
        rw [hks] at hn
        simp only at hn
        have hn2 : prs P e.fPairs key k zs = none := by
         cases hz : prs P e.fPairs key k zs with
         | none => rfl
         | some q => rw [hz] at hn; cases hn
        obtain ⟨a1, a2, a3⟩ := prs_ok _ _ _ _ _ _ _ hks
        have hd := forest_look hA kids ⟨decide (c.fKind = 6), c.fN, decide (c.fKind = 6), [], false⟩ (keyed e key :: S) (i + (keyC key).length + 1) (shc (S.length + 1) (shK key sh) c) none zs (by omega) a2 rfl (by simp only; omega) rfl (fun _ => rfl) (by rw [g2]; exact a1) (by omega) (by simp only [List.length_cons]; omega) hbk
        have hz : v.drop (i + (keyC key).length + 1 + kids.flat.length).toNat = zs := drop_app (by omega) (g2.trans a1)
        have hzl : zs.length ≤ xs'.length := by rw [a1]; simp
        exact more _ _ _ zs hd hz (by omega) (by omega) (by omega) hn2
      ·refine ⟨shc (keyed e key :: S).length (shK key sh) c, .inl (Fin.step ?_)⟩
       rw [round hA (by omega) hv1 hSk hbk]
       have hbig' : decide ((v.length : Int) < c.fN) = true := by simpa using hbig
       simp only [lkc, hp, hkk, hbig', hN, Bool.not_true, cond_false, cond_true, decide_true]
     | false =>
      rw [hN] at hn
      simp only [cond_false] at hn
      have hn2 : prs P e.fPairs key k xs' = none := by
       cases hz : prs P e.fPairs key k xs' with
       | none => rfl
       | some q => rw [hz] at hn; cases hn
      have hd := leafRound (sh := shK key sh) hA (by omega) hv1 hSk hbk (by simpa [keyTop] using hkk) hp hN
      exact more _ _ _ xs' hd g2 (by omega) (by omega) (by omega) hn2
def prs1 (xs : List TApiCell) : Option (Fo × List TApiCell) := prs (xs.length + 1) false none 1 xs
theorem prs_one {P : Nat} {xs ys : List TApiCell} {f : Fo} (h : prs P false none 1 xs = some (f, ys)) : f.one = true := by
 obtain ⟨h1, h2, h3⟩ := prs_ok _ _ _ _ _ _ _ h
 cases f with
 | nil => cases h3
 | cell k c r =>
  cases r with
  | nil =>
   cases k with
   | none => rfl
   | some s => simp [Fo.wf, keyOk] at h2
  | cell _ _ _ => simp [Fo.cnt] at h3
  | node _ _ _ _ => simp [Fo.cnt] at h3
 | node k c kids r =>
  cases r with
  | nil =>
   cases k with
   | none => rfl
   | some s => simp [Fo.wf, keyOk] at h2
  | cell _ _ _ => simp [Fo.cnt] at h3
  | node _ _ _ _ => simp [Fo.cnt] at h3
theorem look_bad0 (hA : LkA F M v) (h : prs1 v = none) : Bad (lkB F v) ([], 0, sh0) := by
 have hlf : lefts [] := fun x hx => by cases hx
 unfold prs1 at h
 rw [prs] at h
 simp only [prsK, cond_false] at h
 cases v with
 | nil => exact Bad.end_ (S := []) (Int.le_refl 0) rfl
 | cons c xs' =>
  have hv1 : (c :: xs').drop (0 : Int).toNat = c :: xs' := rfl
  have hvM := hA.hv; have hMM := hA.hM
  simp only at h
  cases hp : pl c with
  | false => exact Bad.pl_ (S := []) hA (Int.le_refl 0) hv1 (by simp) hlf hp
  | true =>
   rw [hp] at h
   simp only [Bool.not_true, cond_false] at h
   have hcN := (hA.hc c (by simp)).2.2
   cases hN : decide (0 < c.fN) with
   | true =>
    rw [hN] at h
    simp only [cond_true] at h
    simp only [decide_eq_true_eq] at hN
    by_cases hbig : c.fN ≤ (c :: xs').length
    ·have hnd := nodeRound (S := []) (sh := sh0) hA (Int.le_refl 0) hv1 (by simp) hlf rfl hp (by simpa using hN) hbig
     refine hnd.bad ?_
     cases hks : prs (c :: xs').length (decide (c.fKind = 6)) none c.fN.toNat xs' with
     | none =>
      obtain ⟨n', hn'⟩ : ∃ n', c.fN.toNat = n' + 1 := ⟨c.fN.toNat - 1, by omega⟩
      rw [hn'] at hks
      exact forest_bad hA (c :: xs').length n' ⟨decide (c.fKind = 6), c.fN, decide (c.fKind = 6), [], false⟩ [] (0 + 1) _ none xs' (by simp) hks rfl (by simp only; omega) (by omega) rfl (fun _ => rfl) rfl (by omega) (by simp) hlf
     | some q => rw [hks] at h; cases h
    ·refine ⟨shc 0 sh0 c, .inl (Fin.step ?_)⟩
     rw [show lkB F (c :: xs') (([] : List TValueOpen), 0, sh0) = _ from round (S := []) hA (Int.le_refl 0) hv1 (by simp) hlf]
     have hbig' : decide (((c :: xs').length : Int) < c.fN) = true := by simpa using hbig
     simp only [lkc, hp, hbig', hN, Bool.not_true, cond_false, cond_true, decide_true]
   | false => rw [hN] at h; cases h
theorem look_eq (hA : LkA F M v) : (∃ f ys, prs1 v = some (f, ys) ∧ vLook F v = some ((f.flat.length : Int), f.sh 0 sh0, true)) ∨ (prs1 v = none ∧ ∃ sh', vLook F v = some (0, sh', false)) := by
 cases h : prs1 v with
 | some q =>
  obtain ⟨f, ys⟩ := q
  obtain ⟨h1, h2, h3⟩ := prs_ok _ _ _ _ _ _ _ h
  exact .inl ⟨f, ys, rfl, look_val hA (prs_one h) h2 h1⟩
 | none =>
  refine .inr ⟨rfl, ?_⟩
  obtain ⟨o, ho, _⟩ := look_total hA
  obtain ⟨sh', hb | hb⟩ := look_bad0 hA h
  ·have e := hb.eq ho
   subst e
   exact ⟨sh', by unfold vLook; rw [obn_s ho]; rfl⟩
  ·have e := hb.eq ho
   subst e
   exact ⟨sh', by unfold vLook; rw [obn_s ho]; rfl⟩
end
end Go.Proofs.YtkalifgebccpcaaGreatDoor

/-
 Forests: depth, bytes, text; what value.look tells of them. Plain laws.
-/
namespace Go.Proofs.YtkalifgebccpcaaGreatDoor
open Go
set_option linter.unusedVariables false
set_option linter.unusedSimpArgs false
theorem wrap_id {x : Int} (h : -9223372036854775808 ≤ x) (h' : x ≤ 9223372036854775807) : IntKind.wrap .i64 x = x := by
 simp only [IntKind.wrap, IntKind.bits, IntKind.signed]
 simp
 omega
def Fo.dep : Fo → Nat
 | .nil => 0
 | .cell _ _ r => max 1 r.dep
 | .node _ _ kids r => max (kids.dep + 1) r.dep
theorem shK_depth (k : Option Str) (s : TValueShape) : (shK k s).fDepth = s.fDepth ∧ (shK k s).fOutside = s.fOutside ∧ (shK k s).fLong = (s.fLong || (keyC k).any fun c => decide (200 < (c.fStr.length : Int))) := by
 cases k with
 | none => simp [shK, keyC]
 | some x => simp [shK, shk, keyC]
theorem sh_depth : ∀ (f : Fo) (d : Nat) (s : TValueShape), (d : Int) ≤ s.fDepth → (f.sh d s).fDepth = max s.fDepth ((d : Int) + f.dep)
 | .nil, d, s, h => by simp only [Fo.sh, Fo.dep]; omega
 | .cell k c r, d, s, h => by
  have hk := (shK_depth k s).1
  have e : (shc d (shK k s) c).fDepth = max s.fDepth ((d : Int) + 1) := by rw [shc, hk]
  rw [Fo.sh, sh_depth r d _ (by rw [e]; omega), e, Fo.dep]; omega
 | .node k c kids r, d, s, h => by
  have hk := (shK_depth k s).1
  have e : (shc d (shK k s) c).fDepth = max s.fDepth ((d : Int) + 1) := by rw [shc, hk]
  have e2 := sh_depth kids (d + 1) (shc d (shK k s) c) (by rw [e]; omega)
  rw [e] at e2
  rw [Fo.sh, sh_depth r d _ (by rw [e2]; omega), e2, Fo.dep]; omega
def outC (c : TApiCell) : Bool := decide (c.fKind = 3) && !(decide ((-1000000000000) ≤ c.fInt) && decide (c.fInt ≤ 1000000000000))
def longC (c : TApiCell) : Bool := decide (200 < (c.fStr.length : Int))
theorem keyC_out (k : Option Str) : (keyC k).any outC = false := by cases k <;> simp [keyC, outC]
theorem sh_out : ∀ (f : Fo) (d : Nat) (s : TValueShape), (f.sh d s).fOutside = (s.fOutside || f.flat.any outC)
 | .nil, d, s => by simp [Fo.sh, Fo.flat]
 | .cell k c r, d, s => by
  rw [Fo.sh, sh_out r, shc, (shK_depth k s).2.1]
  simp only [Fo.flat, List.any_append, List.any_cons, keyC_out, Bool.false_or, Bool.or_assoc]
  rfl
 | .node k c kids r, d, s => by
  rw [Fo.sh, sh_out r, sh_out kids, shc, (shK_depth k s).2.1]
  simp only [Fo.flat, List.any_append, List.any_cons, keyC_out, Bool.false_or, Bool.or_assoc]
  rfl
theorem sh_long : ∀ (f : Fo) (d : Nat) (s : TValueShape), (f.sh d s).fLong = (s.fLong || f.flat.any longC)
 | .nil, d, s => by simp [Fo.sh, Fo.flat]
 | .cell k c r, d, s => by
  rw [Fo.sh, sh_long r, shc, (shK_depth k s).2.2]
  simp only [Fo.flat, List.any_append, List.any_cons, Bool.or_assoc]
  rfl
 | .node k c kids r, d, s => by
  rw [Fo.sh, sh_long r, sh_long kids, shc, (shK_depth k s).2.2]
  simp only [Fo.flat, List.any_append, List.any_cons, Bool.or_assoc]
  rfl
def lsz (c : TApiCell) : Int :=
 bif decide (c.fKind = 1) then 4 else bif decide (c.fKind = 2) then 5 - c.fInt else bif decide (c.fKind = 3) then ((Lib.itoa c.fInt).length : Int) else
 bif decide (c.fKind = 4) then qlen c.fStr else 2
def kbn : Option Str → Int
 | none => 0
 | some s => qlen s + 1
def Fo.byt : Fo → Int
 | .nil => 0
 | .cell k c r => kbn k + lsz c + r.byt
 | .node k c kids r => kbn k + (c.fN + 1) + kids.byt + r.byt
theorem qlen_pos (s : Str) : 2 ≤ qlen s := by unfold qlen; omega
theorem kbn_pos (k : Option Str) : 0 ≤ kbn k := by
 cases k with
 | none => exact Int.le_refl 0
 | some s => have := qlen_pos s; simp only [kbn]; omega
theorem lsz_pos {c : TApiCell} (hp : pl c = true) : 0 ≤ lsz c := by
 unfold lsz
 cases h1 : decide (c.fKind = 1) with
 | true => simp
 | false =>
  cases h2 : decide (c.fKind = 2) with
  | true =>
   simp [pl, h1, h2] at hp
   simp only [cond_false, cond_true]; omega
  | false =>
   cases h3 : decide (c.fKind = 3) with
   | true => simp
   | false =>
    cases h4 : decide (c.fKind = 4) with
    | true => have := qlen_pos c.fStr; simp only [cond_false, cond_true]; omega
    | false => simp
theorem pl_N {c : TApiCell} (hp : pl c = true) : 0 ≤ c.fN := by
 simp only [pl, ← Bool.decide_or] at hp
 cases h1 : decide (c.fKind = 1) <;> cases h2 : decide (c.fKind = 2) <;> cases h3 : decide (c.fKind = 3) <;> cases h4 : decide (c.fKind = 4) <;> cases h5 : decide (c.fKind = 5) <;> cases h6 : decide (c.fKind = 6) <;> simp [h1, h2, h3, h4, h5, h6] at hp <;> omega
theorem pl_node {c : TApiCell} (hp : pl c = true) (hn : 0 < c.fN) : (c.fKind = 5 ∨ c.fKind = 6) ∧ c.fInt = 0 ∧ c.fStr = [] := by
 cases h1 : decide (c.fKind = 1) <;> cases h2 : decide (c.fKind = 2) <;> cases h3 : decide (c.fKind = 3) <;> cases h4 : decide (c.fKind = 4) <;> cases h5 : decide (c.fKind = 5) <;> cases h6 : decide (c.fKind = 6) <;> simp [pl, h1, h2, h3, h4, h5, h6] at hp <;> (simp only [decide_eq_true_eq, decide_eq_false_iff_not] at *; first | omega | exact ⟨by omega, hp.1, hp.2.1⟩)
theorem szc_leaf {c : TApiCell} (hp : pl c = true) (hn : decide (0 < c.fN) = false) : szc c = lsz c := by
 have hN := pl_N hp
 have h0 : c.fN = 0 := by simp only [decide_eq_false_iff_not] at hn; omega
 unfold szc lsz
 rw [h0]
 cases h1 : decide (c.fKind = 1) with
 | true => rfl
 | false =>
  cases h2 : decide (c.fKind = 2) with
  | true =>
   simp [pl, h1, h2] at hp
   simp only [cond_false, cond_true]
   exact wrap_id (by omega) (by omega)
  | false => rfl
theorem szc_node {c : TApiCell} (hp : pl c = true) (hn : 0 < c.fN) (hm : c.fN ≤ 9223372036854775000) : szc c = c.fN + 1 := by
 obtain ⟨hk, _, _⟩ := pl_node hp hn
 unfold szc
 rw [decide_eq_false (by omega), decide_eq_false (by omega), decide_eq_false (by omega), decide_eq_false (by omega)]
 simp only [cond_false]
 rw [wrap_id (x := c.fN - 1) (by omega) (by omega), wrap_id (by omega) (by omega)]; omega
theorem byt_pos : ∀ {f : Fo} {m : Bool} {l : Option Str}, f.wf m l = true → 0 ≤ f.byt
 | .nil, _, _, _ => Int.le_refl 0
 | .cell k c r, m, l, h => by
  simp only [Fo.wf, Bool.and_eq_true] at h
  have h1 := byt_pos h.2; have h2 := lsz_pos h.1.1.2; have h3 := kbn_pos k
  simp only [Fo.byt]; omega
 | .node k c kids r, m, l, h => by
  simp only [Fo.wf, Bool.and_eq_true, decide_eq_true_eq] at h
  have h1 := byt_pos h.2; have h2 := byt_pos h.1.2; have h3 := kbn_pos k
  simp only [Fo.byt]; omega
theorem shK_bytes (k : Option Str) (s : TValueShape) (h0 : 0 ≤ s.fBytes) (h : s.fBytes + kbn k ≤ 9223372036854775807) : (shK k s).fBytes = s.fBytes + kbn k := by
 cases k with
 | none => simp [shK, kbn]
 | some x =>
  have := qlen_pos x
  simp only [kbn] at h
  simp only [shK, shk, kbn]
  exact wrap_id (by omega) (by omega)
theorem sh_bytes : ∀ (f : Fo) (m : Bool) (l : Option Str) (d : Nat) (s : TValueShape), f.wf m l = true → 0 ≤ s.fBytes → s.fBytes + f.byt ≤ 9223372036854775000 → (f.sh d s).fBytes = s.fBytes + f.byt
 | .nil, _, _, d, s, _, _, _ => by simp [Fo.sh, Fo.byt]
 | .cell k c r, m, l, d, s, hw, h0, h => by
  simp only [Fo.wf, Bool.and_eq_true, Bool.not_eq_true'] at hw
  obtain ⟨⟨⟨w1, w2⟩, w3⟩, w4⟩ := hw
  have h1 := byt_pos w4; have h2 := lsz_pos w2; have h3 := kbn_pos k
  simp only [Fo.byt] at h
  have e1 := shK_bytes k s h0 (by omega)
  have e : (shc d (shK k s) c).fBytes = s.fBytes + kbn k + lsz c := by
   rw [shc, e1, szc_leaf w2 w3]; exact wrap_id (by omega) (by omega)
  rw [Fo.sh, sh_bytes r _ _ d _ w4 (by rw [e]; omega) (by rw [e]; omega), e, Fo.byt]; omega
 | .node k c kids r, m, l, d, s, hw, h0, h => by
  simp only [Fo.wf, Bool.and_eq_true, decide_eq_true_eq] at hw
  obtain ⟨⟨⟨⟨⟨w1, w2⟩, w3⟩, w5⟩, w6⟩, w4⟩ := hw
  have h1 := byt_pos w4; have h2 := byt_pos w6; have h3 := kbn_pos k
  simp only [Fo.byt] at h
  have e1 := shK_bytes k s h0 (by omega)
  have e : (shc d (shK k s) c).fBytes = s.fBytes + kbn k + (c.fN + 1) := by
   rw [shc, e1, szc_node w2 w3 (by omega)]; exact wrap_id (by omega) (by omega)
  have e2 := sh_bytes kids _ _ (d + 1) (shc d (shK k s) c) w6 (by rw [e]; omega) (by rw [e]; omega)
  rw [Fo.sh, sh_bytes r _ _ d _ w4 (by rw [e2, e]; omega) (by rw [e2, e]; omega), e2, e, Fo.byt]; omega
def escS (s : Str) : Str := s.flatMap fun c => bif (decide (c = 34) || decide (c = 92)) then [92, c] else [c]
def quoS (s : Str) : Str := 34 :: (escS s ++ [34])
theorem escS_len : ∀ s : Str, (escS s).length = s.length + s.count 34 + s.count 92
 | [] => rfl
 | c :: s => by
  have ih := escS_len s
  unfold escS at ih ⊢
  rw [List.flatMap_cons, List.length_append, ih]
  by_cases h1 : c = 34
  ·subst h1; simp; omega
  ·by_cases h2 : c = 92
   ·subst h2; simp; omega
   ·simp [h1, h2, List.count_cons]; omega
theorem quoS_len (s : Str) : ((quoS s).length : Int) = qlen s := by
 simp only [quoS, List.length_cons, List.length_append, escS_len, List.length_nil, qlen]; omega
def leafT (c : TApiCell) : Str :=
 bif decide (c.fKind = 1) then [110, 117, 108, 108] else
 bif decide (c.fKind = 2) then (bif decide (c.fInt = 1) then [116, 114, 117, 101] else [102, 97, 108, 115, 101]) else
 bif decide (c.fKind = 3) then Lib.itoa c.fInt else
 bif decide (c.fKind = 4) then quoS c.fStr else
 bif decide (c.fKind = 6) then [123, 125] else [91, 93]
def ktx : Option Str → Str
 | none => []
 | some s => quoS s ++ [58]
def brk (c : TApiCell) (s : Str) : Str := bif decide (c.fKind = 6) then 123 :: (s ++ [125]) else 91 :: (s ++ [93])
def sepT (first : Bool) : Str := bif first then [] else [44]
def Fo.txt : Bool → Fo → Str
 | _, .nil => []
 | b, .cell k c r => sepT b ++ ktx k ++ leafT c ++ r.txt false
 | b, .node k c kids r => sepT b ++ ktx k ++ brk c (kids.txt true) ++ r.txt false
theorem ktx_len (k : Option Str) : ((ktx k).length : Int) = kbn k := by
 cases k with
 | none => rfl
 | some s => simp only [ktx, List.length_append, kbn, List.length_singleton]; have := quoS_len s; omega
theorem leafT_len {c : TApiCell} (hp : pl c = true) : ((leafT c).length : Int) = lsz c := by
  unfold leafT lsz
  cases h1 : decide (c.fKind = 1) with
  | true => rfl
  | false =>
    cases h2 : decide (c.fKind = 2) with
    | true =>
      simp [pl, h1, h2] at hp
      simp only [cond_false, cond_true]
      cases h7 : decide (c.fInt = 1) with
      | true => simp only [decide_eq_true_eq] at h7; simp [h7]
      | false => simp only [decide_eq_false_iff_not] at h7; have : c.fInt = 0 := by omega
                 simp [this]
    | false =>
      cases h3 : decide (c.fKind = 3) with
      | true => rfl
      | false =>
        cases h4 : decide (c.fKind = 4) with
        | true => simpa using quoS_len c.fStr
        | false => cases h6 : decide (c.fKind = 6) <;> rfl
theorem brk_len (c : TApiCell) (s : Str) : (brk c s).length = s.length + 2 := by
 unfold brk
 cases decide (c.fKind = 6) <;> simp
theorem txt_len : ∀ (f : Fo) (m : Bool) (l : Option Str) (b : Bool), f.wf m l = true → ((f.txt b).length : Int) = f.byt + (bif b then ((f.cnt - 1 : Nat) : Int) else (f.cnt : Int))
 | .nil, m, l, b, _ => by cases b <;> rfl
 | .cell k c r, m, l, b, hw => by
  simp only [Fo.wf, Bool.and_eq_true, Bool.not_eq_true'] at hw
  obtain ⟨⟨⟨w1, w2⟩, w3⟩, w4⟩ := hw
  have ih := txt_len r _ _ false w4
  have a := ktx_len k; have d := leafT_len w2
  simp only [cond_false] at ih
  cases b <;> simp only [Fo.txt, Fo.byt, Fo.cnt, sepT, cond_true, cond_false, List.length_append, List.length_nil, List.length_singleton] <;> omega
 | .node k c kids r, m, l, b, hw => by
  simp only [Fo.wf, Bool.and_eq_true, decide_eq_true_eq] at hw
  obtain ⟨⟨⟨⟨⟨w1, w2⟩, w3⟩, w5⟩, w6⟩, w4⟩ := hw
  have ih := txt_len r _ _ false w4
  have ih2 := txt_len kids _ _ true w6
  have a := ktx_len k; have d := brk_len c (kids.txt true)
  simp only [cond_false, cond_true] at ih ih2
  cases b <;> simp only [Fo.txt, Fo.byt, Fo.cnt, sepT, cond_true, cond_false, List.length_append, List.length_nil, List.length_singleton] <;> omega
def Fo.put (k : Option Str) : Fo → Fo → Fo
 | .cell _ c _, r => .cell k c r
 | .node _ c kids _, r => .node k c kids r
 | .nil, _ => .nil
theorem prs_cons (P : Nat) (m : Bool) (last : Option Str) (k : Nat) (xs : List TApiCell) : prs (P + 2) m last (k + 1) xs =
  match prsK m last xs with
  | none => none
  | some (key, ys) => match prs (P + 2) false none 1 ys with
   | none => none
   | some (f, zs) => match prs (P + 1) m key k zs with
    | none => none
    | some (r, us) => some (f.put key r, us) := by
 rw [prs]
 cases hk : prsK m last xs with
 | none => rfl
 | some p =>
  obtain ⟨key, ys⟩ := p
  simp only
  rw [prs]
  simp only [prsK, cond_false]
  cases ys with
  | nil => rfl
  | cons c ys =>
   simp only
   cases hp : pl c with
   | false => rfl
   | true =>
    simp only [Bool.not_true, cond_false]
    cases hn : decide (0 < c.fN) with
    | true =>
     simp only [cond_true]
     cases hq : prs (P + 1) (decide (c.fKind = 6)) none c.fN.toNat ys with
     | none => rfl
     | some q =>
      obtain ⟨kids, zs⟩ := q
      simp only [prs]
      cases hr : prs (P + 1) m key k zs with
      | none => rfl
      | some q => obtain ⟨a, b⟩ := q; rfl
    | false =>
     simp only [cond_false, prs]
     cases hr : prs (P + 1) m key k ys with
     | none => rfl
     | some q => obtain ⟨a, b⟩ := q; rfl
end Go.Proofs.YtkalifgebccpcaaGreatDoor

/-
 The reference reads values as the plain reader does. Plain laws.
-/
namespace Go.Proofs.YtkalifgebccpcaaGreatDoor
open Go
set_option linter.unusedVariables false
set_option linter.unusedSimpArgs false
def prsF (m : Bool) (last : Option Str) (k : Nat) (xs : List TApiCell) : Option (Fo × List TApiCell) := prs (xs.length + 1) m last k xs
theorem prsF_zero (m : Bool) (last : Option Str) (xs : List TApiCell) : prsF m last 0 xs = some (.nil, xs) := rfl
theorem prsF_cons (m : Bool) (last : Option Str) (k : Nat) (xs : List TApiCell) : prsF m last (k + 1) xs =
  match prsK m last xs with
  | none => none
  | some (key, ys) => match prs1 ys with
   | none => none
   | some (f, zs) => match prsF m key k zs with
    | none => none
    | some (r, us) => some (f.put key r, us) := by
 unfold prsF prs1
 rw [prs_fuel (xs.length + 1) (xs.length + 2) m last (k + 1) xs (by omega) (by omega), prs_cons]
 cases hk : prsK m last xs with
 | none => rfl
 | some p =>
  obtain ⟨key, ys⟩ := p
  have h1 := (prsK_ok hk).1
  have hy : ys.length ≤ xs.length := by rw [h1]; simp
  simp only
  rw [prs_fuel (xs.length + 2) (ys.length + 1) false none 1 ys (by omega) (by omega)]
  cases hf : prs (ys.length + 1) false none 1 ys with
  | none => rfl
  | some q =>
   obtain ⟨f, zs⟩ := q
   have h2 := (prs_ok _ _ _ _ _ _ _ hf).1
   have hz : zs.length ≤ ys.length := by rw [h2]; simp
   simp only
   rw [prs_fuel (xs.length + 1) (zs.length + 1) m key k zs (by omega) (by omega)]
   all_goals (cases prs (zs.length + 1) m key k zs <;> rfl)
theorem lop_n {S O : Type} {body : S → Option (Stp S O)} {n : Nat} {s s' : S} {o : O} (h : body s = some (.next s')) (h' : lop body n s' = some o) : lop body (n + 1) s = some o := by rw [lop, h]; exact h'
theorem lop_o {S O : Type} {body : S → Option (Stp S O)} {n : Nat} {s : S} {o : O} (h : body s = some (.out o)) : lop body (n + 1) s = some o := by rw [lop, h]
theorem prs1_nil : prs1 [] = none := rfl
theorem prs1_cons (c : TApiCell) (r : List TApiCell) : prs1 (c :: r) = bif !pl c then none else bif decide (0 < c.fN) then (match prsF (decide (c.fKind = 6)) none c.fN.toNat r with
  | none => none
  | some (kids, zs) => some (.node none c kids .nil, zs)) else some (.cell none c .nil, r) := by
 unfold prs1
 rw [prs]
 simp only [prsK, cond_false]
 cases hp : pl c with
 | false => rfl
 | true =>
  simp only [Bool.not_true, cond_false]
  cases hn : decide (0 < c.fN) with
  | true =>
   simp only [cond_true]
   unfold prsF
   rw [List.length_cons]
   cases hq : prs (r.length + 1) (decide (c.fKind = 6)) none c.fN.toNat r with
   | none => rfl
   | some q => obtain ⟨kids, zs⟩ := q; rfl
  | false => rfl
theorem put_flat {f : Fo} (h : f.one = true) (key : Option Str) (r : Fo) : (f.put key r).flat = keyC key ++ (f.flat ++ r.flat) := by
 cases f with
 | nil => cases h
 | cell k c r' =>
  cases k with
  | some s => cases h
  | none => cases r' with
   | nil => simp [Fo.put, Fo.flat, keyC]
   | cell _ _ _ => cases h
   | node _ _ _ _ => cases h
 | node k c kids r' =>
  cases k with
  | some s => cases h
  | none => cases r' with
   | nil => simp [Fo.put, Fo.flat, keyC]
   | cell _ _ _ => cases h
   | node _ _ _ _ => cases h
theorem one_flat {f : Fo} (h : f.one = true) : 1 ≤ f.flat.length := by
 cases f with
 | nil => cases h
 | cell k c r' => simp [Fo.flat]; omega
 | node k c kids r' => simp [Fo.flat]; omega
theorem prs1_ok {xs ys : List TApiCell} {f : Fo} (h : prs1 xs = some (f, ys)) : xs = f.flat ++ ys ∧ f.wf false none = true ∧ f.one = true :=
 ⟨(prs_ok _ _ _ _ _ _ _ h).1, (prs_ok _ _ _ _ _ _ _ h).2.1, prs_one h⟩
def nxt (v : List TApiCell) (i : Int) : Int := match prs1 (v.drop i.toNat) with
 | none => -1
 | some (f, _) => i + f.flat.length
def nxts (m : Bool) (last : Option Str) (v : List TApiCell) (i : Int) (k : Nat) : Int := match prsF m last k (v.drop i.toNat) with
 | none => -1
 | some (f, _) => i + f.flat.length
theorem nxt_range {v : List TApiCell} {i : Int} (h0 : 0 ≤ i) (h1 : i ≤ v.length) : nxt v i = -1 ∨ (i < nxt v i ∧ nxt v i ≤ v.length) := by
 unfold nxt
 cases h : prs1 (v.drop i.toNat) with
 | none => exact .inl rfl
 | some q =>
  obtain ⟨f, ys⟩ := q
  obtain ⟨h2, _, h3⟩ := prs1_ok h
  have := one_flat h3
  have hl : (v.drop i.toNat).length = f.flat.length + ys.length := by rw [h2]; simp
  rw [List.length_drop] at hl
  right; simp only; omega
structure RfA (F M : Nat) (v : List TApiCell) : Prop where
 hM : M ≤ 1152921504606846976
 hv : v.length ≤ M
 hF : M < F
 hc : ∀ c ∈ v, c.fStr.length ≤ M
theorem rAfter_eq (ok : Bool) {i : Int} (h0 : 0 ≤ i) (h1 : i ≤ 1152921504606846976) : rAfter ok i = some (bif ok then i + 1 else -1) := by
 unfold rAfter
 cases ok
 ·rfl
 ·rw [cnd_tt rfl, chk_i64 (by omega) (by omega)]; rfl
theorem rKey_eq {F : Nat} {c : TApiCell} (hF : c.fStr.length < F) (hs : c.fStr.length ≤ 1152921504606846976) : rKey F c = some (decide (c.fKind = 4) && pl c) := by
 unfold rKey
 rw [rPlain_eq hF (by omega)]
 simp only [Option.isSome_some, ov, Option.getD_some, imp, Bool.or_true, chk, cond_true]
 cases h4 : decide (c.fKind = 4) with
 | false => rfl
 | true =>
  simp only [decide_eq_true_eq] at h4
  simp [pl, h4]
theorem at_drop {v : List TApiCell} {i : Int} {c : TApiCell} {r : List TApiCell} (h0 : 0 ≤ i) (h : v.drop i.toNat = c :: r) : at' v i = c := by
 have := (drop_get h0 h).1
 simp [at', this]
section
variable {M : Nat} {v : List TApiCell}
theorem rElements_lop {F : Nat} (hA : RfA F M v) {g : List TApiCell → Int → Option Int} {n : Int} (hn : n ≤ 9223372036854775807) : ∀ (L : Nat) (i x : Int), 0 ≤ i → i ≤ v.length → 0 ≤ x → x ≤ n → (∀ j, i ≤ j → j ≤ v.length → g v j = some (nxt v j)) → v.length - i.toNat < L →
  ∃ o, lop (fun σ => rElements_b1 v n g σ.1 σ.2) L (i, x) = some o ∧ oute (fun ν => rElements_k1 ν) o = some (nxts false none v i (n - x).toNat)
 | 0, i, x, _, _, _, _, _, h => by omega
 | L + 1, i, x, h0, h1, hx, hxn, hg, hL => by
  cases hxl : decide (x < n) with
  | false =>
   refine ⟨.go i, lop_o (by show rElements_b1 v n g i x = _; unfold rElements_b1; rw [cnd_ff hxl]), ?_⟩
   simp only [decide_eq_false_iff_not] at hxl
   rw [show (n - x).toNat = 0 from by omega]
   simp [oute, rElements_k1, nxts, prsF_zero, Fo.flat]
  | true =>
   have hb : rElements_b1 v n g i x = cnd (decide (nxt v i < 0)) (some (.out (.ret (-1)))) (chk (inK .i64 (x + 1)) <| some (.next (nxt v i, x + 1))) := by unfold rElements_b1; rw [cnd_tt hxl, hg i (Int.le_refl i) h1, obn_s rfl]
   simp only [decide_eq_true_eq] at hxl
   obtain ⟨k, hk⟩ : ∃ k, (n - x).toNat = k + 1 := ⟨(n - x).toNat - 1, by omega⟩
   rw [hk]
   have e : nxts false none v i (k + 1) = bif decide (nxt v i < 0) then -1 else nxts false none v (nxt v i) k := by
    unfold nxts
    rw [prsF_cons]
    simp only [prsK, cond_false]
    cases hp : prs1 (v.drop i.toNat) with
    | none => simp [nxt, hp]
    | some q =>
     obtain ⟨f, ys⟩ := q
     obtain ⟨q1, q2, q3⟩ := prs1_ok hp
     have hi : nxt v i = i + f.flat.length := by simp [nxt, hp]
     have hd : v.drop (nxt v i).toNat = ys := by rw [hi]; exact drop_app h0 q1
     rw [hd, decide_eq_false (by omega)]
     simp only [cond_false]
     cases hr : prsF false none k ys with
     | none => rfl
     | some q =>
      obtain ⟨r, zs⟩ := q
      simp only [put_flat q3, keyC, List.nil_append, List.length_append, hi]; omega
   rw [e]
   rcases nxt_range (v := v) h0 h1 with hneg | ⟨hlt, hle⟩
   ·exact ⟨.ret (-1), lop_o (hb.trans (by rw [hneg, cnd_tt (by decide)])), by rw [hneg]; rfl⟩
   ·have hM := hA.hM; have hvM := hA.hv
    obtain ⟨o, ho1, ho2⟩ := rElements_lop hA hn L (nxt v i) (x + 1) (by omega) hle (by omega) (by omega) (fun j hj => hg j (by omega)) (by omega)
    exact ⟨o, lop_n (hb.trans (by rw [cnd_ff (decide_eq_false (by omega)), chk_i64 (by omega) (by omega)])) ho1, by rw [ho2, show (n - (x + 1)).toNat = k from by omega, decide_eq_false (by omega)]; rfl⟩
theorem rPairs_lop {F : Nat} (hA : RfA F M v) {g : List TApiCell → Int → Option Int} {n : Int} (hn : n ≤ 9223372036854775807) : ∀ (L : Nat) (i x : Int) (last : Str), 0 ≤ i → i ≤ v.length → 0 ≤ x → x ≤ n → (∀ j, i ≤ j → j ≤ v.length → g v j = some (nxt v j)) → v.length - i.toNat < L →
  ∃ o, lop (fun σ => rPairs_b1 F v n g σ.1 σ.2.1 σ.2.2) L (i, last, x) = some o ∧ oute (fun ν => rPairs_k1 ν) o = some (nxts true (bif decide (0 < x) then some last else none) v i (n - x).toNat)
 | 0, i, x, _, _, _, _, _, _, h => by omega
 | L + 1, i, x, last, h0, h1, hx, hxn, hg, hL => by
  have hM := hA.hM; have hvM := hA.hv; have hMF := hA.hF
  cases hxl : decide (x < n) with
  | false =>
   refine ⟨.go i, lop_o (by show rPairs_b1 F v n g i last x = _; unfold rPairs_b1; rw [cnd_ff hxl]), ?_⟩
   simp only [decide_eq_false_iff_not] at hxl
   rw [show (n - x).toNat = 0 from by omega]
   simp [oute, rPairs_k1, nxts, prsF_zero, Fo.flat]
  | true =>
   have hxl' := hxl
   simp only [decide_eq_true_eq] at hxl
   obtain ⟨k, hk⟩ : ∃ k, (n - x).toNat = k + 1 := ⟨(n - x).toNat - 1, by omega⟩
   rw [hk]
   cases hd : v.drop i.toNat with
   | nil =>
    have hl : v.length ≤ i.toNat := by simpa using hd
    refine ⟨.ret (-1), lop_o (by
     show rPairs_b1 F v n g i last x = _
     unfold rPairs_b1
     rw [cnd_tt hxl', chk_t (by simp [imp, show (v.length : Int) ≤ i from by omega]), chk_t (by simp [imp, show (v.length : Int) ≤ i from by omega]), cnd_tt (by simp [show (v.length : Int) ≤ i from by omega])]), ?_⟩
    simp [oute, nxts, hd, prsF_cons, prsK]
   | cons c r =>
    obtain ⟨g1, g2, g3⟩ := drop_get h0 hd
    have hcM := hA.hc c (List.mem_of_getElem? g1)
    have hat := at_drop h0 hd
    have hnl : decide ((v.length : Int) ≤ i) = false := by simp; omega
    have hb : rPairs_b1 F v n g i last x = cnd (!(decide (c.fKind = 4) && pl c) || decide (0 < x) && (sLess c.fStr last || decide (c.fStr = last))) (some (.out (.ret (-1)))) (obn (g v (i + 1)) fun r106 => cnd (decide (r106 < 0)) (some (.out (.ret (-1)))) (chk (inK .i64 (x + 1)) <| some (.next (r106, c.fStr, x + 1)))) := by
     unfold rPairs_b1
     rw [cnd_tt hxl', chk_t (by simp only [imp]; rw [inR' h0 g3]; simp), hat, rKey_eq (by omega) (by omega), chk_t (by simp [imp])]
     simp only [hnl, ov, Option.getD_some, Bool.false_or]
     rw [chk_inR h0 g3, chk_i64 (by omega) (by omega)]
    have hpk : prsK true (bif decide (0 < x) then some last else none) (c :: r) = bif (!(decide (c.fKind = 4) && pl c) || decide (0 < x) && (sLess c.fStr last || decide (c.fStr = last))) then none else some (some c.fStr, r) := by
     simp only [prsK, cond_true]
     cases h4 : decide (c.fKind = 4) with
     | false => simp
     | true =>
      cases hp : pl c with
      | false => simp
      | true =>
       have hok := (pl_key hp (by simpa using h4)).2
       cases h0x : decide (0 < x) with
       | false => simp [keyOk, hok]
       | true => cases hs : (sLess c.fStr last || decide (c.fStr = last)) <;> simp [keyOk, hok, hs]
    cases ht : (!(decide (c.fKind = 4) && pl c) || decide (0 < x) && (sLess c.fStr last || decide (c.fStr = last))) with
    | true =>
     rw [ht] at hpk
     refine ⟨.ret (-1), lop_o (hb.trans (cnd_tt ht)), ?_⟩
     simp only [nxts, hd, prsF_cons, hpk, cond_true]; rfl
    | false =>
     rw [ht] at hpk
     rw [cnd_ff ht, hg (i + 1) (by omega) (by omega), obn_s rfl] at hb
     have e : nxts true (bif decide (0 < x) then some last else none) v i (k + 1) = bif decide (nxt v (i + 1) < 0) then -1 else nxts true (some c.fStr) v (nxt v (i + 1)) k := by
      unfold nxts
      rw [hd, prsF_cons, hpk]
      simp only [cond_false]
      have hx : nxt v (i + 1) = match prs1 r with | none => -1 | some (f, _) => i + 1 + f.flat.length := by unfold nxt; rw [g2]
      cases hp : prs1 r with
      | none => rw [hp] at hx; simp [hx]
      | some q =>
       obtain ⟨f, ys⟩ := q
       obtain ⟨q1, q2, q3⟩ := prs1_ok hp
       rw [hp] at hx
       simp only at hx
       have hd2 : v.drop (nxt v (i + 1)).toNat = ys := by rw [hx]; exact drop_app (by omega) (g2.trans q1)
       rw [hd2, decide_eq_false (by omega)]
       simp only [cond_false]
       cases hr : prsF true (some c.fStr) k ys with
       | none => rfl
       | some q =>
        obtain ⟨r', zs⟩ := q
        simp only [put_flat q3, keyC, List.length_append, List.length_cons, List.length_nil, hx]; omega
     rw [e]
     rcases nxt_range (v := v) (i := i + 1) (by omega) (by omega) with hneg | ⟨hlt, hle⟩
     ·exact ⟨.ret (-1), lop_o (hb.trans (by rw [hneg, cnd_tt (by decide)])), by rw [hneg]; rfl⟩
     ·obtain ⟨o, ho1, ho2⟩ := rPairs_lop hA hn L (nxt v (i + 1)) (x + 1) c.fStr (by omega) hle (by omega) (by omega) (fun j hj => hg j (by omega)) (by omega)
      exact ⟨o, lop_n (hb.trans (by rw [cnd_ff (decide_eq_false (by omega)), chk_i64 (by omega) (by omega)])) ho1, by rw [ho2, show (n - (x + 1)).toNat = k from by omega, decide_eq_true (show (0 : Int) < x + 1 from by omega), decide_eq_false (by omega)]; rfl⟩
theorem nxts_one {i : Int} {c : TApiCell} {r : List TApiCell} (h0 : 0 ≤ i) (hd : v.drop i.toNat = c :: r) (hp : pl c = true) : nxt v i = nxts (decide (c.fKind = 6)) none v (i + 1) c.fN.toNat := by
 have g2 := (drop_get h0 hd).2.1
 have hN := pl_N hp
 unfold nxt nxts
 rw [hd, prs1_cons, g2, hp]
 simp only [Bool.not_true, cond_false]
 cases hn : decide (0 < c.fN) with
 | true =>
  simp only [cond_true]
  cases hq : prsF (decide (c.fKind = 6)) none c.fN.toNat r with
  | none => rfl
  | some q =>
   obtain ⟨kids, zs⟩ := q
   simp only [Fo.flat, keyC, List.nil_append, List.length_cons, List.append_nil]; omega
 | false =>
  simp only [decide_eq_false_iff_not] at hn
  rw [show c.fN.toNat = 0 from by omega, prsF_zero]
  simp [Fo.flat, keyC]
theorem rNext_eq (hA : RfA (M + 1) M v) (hN : ∀ c ∈ v, c.fN ≤ 9223372036854775807) : ∀ (d F : Nat) (i : Int), 0 ≤ i → i ≤ v.length → v.length - i.toNat = d → M + 2 * d + 3 < F → rNext F v i = some (nxt v i) := by
 have hM := hA.hM; have hvM := hA.hv
 intro d
 induction d using Nat.strongRecOn with
 | ind d ih =>
  intro F i h0 h1 hd hF
  obtain ⟨F, rfl⟩ : ∃ G, F = G + 1 := ⟨F - 1, by omega⟩
  obtain ⟨F, rfl⟩ : ∃ G, F = G + 1 := ⟨F - 1, by omega⟩
  rw [rNext]
  unfold rNextm
  cases hdr : v.drop i.toNat with
  | nil =>
   have hl : v.length ≤ i.toNat := by simpa using hdr
   rw [cnd_tt (by simp; omega)]
   simp [nxt, hdr, prs1_nil]
  | cons c r =>
   obtain ⟨g1, g2, g3⟩ := drop_get h0 hdr
   have hcM := hA.hc c (List.mem_of_getElem? g1)
   have hcN := hN c (List.mem_of_getElem? g1)
   rw [cnd_ff (by simp; omega), chk_inR h0 g3, at_drop h0 hdr]
   simp only [rAfter_eq _ h0 (show i ≤ 1152921504606846976 by omega), Option.isSome_some, ov, Option.getD_some, imp, Bool.or_true, chk_t (x := _) (rfl : true = true)]
   have hg : ∀ j, i + 1 ≤ j → j ≤ v.length → rNext F v j = some (nxt v j) := fun j hj hj2 => ih (v.length - j.toNat) (by omega) F j (by omega) hj2 rfl (by omega)
   have hpl0 : pl c = false → nxt v i = -1 := fun hp => by simp [nxt, hdr, prs1_cons, hp]
   have hleaf : pl c = true → c.fN = 0 → nxt v i = i + 1 := fun hp h0' => by simp [nxt, hdr, prs1_cons, hp, h0', Fo.flat, keyC]
   have hscal : ∀ b : Bool, pl c = b → (b = true → c.fN = 0) → nxt v i = bif b then i + 1 else -1 := fun b hb hz => by
    cases b
    ·exact hpl0 hb
    ·exact hleaf hb (hz rfl)
   by_cases k1 : c.fKind = 1
   ·rw [cnd_tt (by simp [k1])]
    have hp : pl c = (decide (c.fInt = 0) && (decide (c.fStr = []) && decide (c.fN = 0))) := by simp [pl, k1]
    rw [hscal _ hp (fun h => by simp at h; exact h.2.2)]
    cases decide (c.fInt = 0) <;> cases decide (c.fStr = []) <;> cases decide (c.fN = 0) <;> rfl
   rw [cnd_ff (by simp [k1])]
   by_cases k2 : c.fKind = 2
   ·rw [cnd_tt (by simp [k2])]
    have hp : pl c = ((decide (c.fInt = 0) || decide (c.fInt = 1)) && (decide (c.fStr = []) && decide (c.fN = 0))) := by simp [pl, k2]
    rw [hscal _ hp (fun h => by simp at h; exact h.2.2)]
    cases decide (c.fInt = 0) <;> cases decide (c.fInt = 1) <;> cases decide (c.fStr = []) <;> cases decide (c.fN = 0) <;> rfl
   rw [cnd_ff (by simp [k2])]
   by_cases k3 : c.fKind = 3
   ·rw [cnd_tt (by simp [k3])]
    have hp : pl c = (decide (c.fStr = []) && decide (c.fN = 0)) := by simp [pl, k3]
    rw [hscal _ hp (fun h => by simp at h; exact h.2)]
    cases decide (c.fStr = []) <;> cases decide (c.fN = 0) <;> rfl
   rw [cnd_ff (by simp [k3])]
   by_cases k4 : c.fKind = 4
   ·rw [cnd_tt (by simp [k4]), rKey_eq (by omega) (by omega), obn_s rfl, obn_s rfl]
    rw [decide_eq_true k4, Bool.true_and, hscal (pl c) rfl (fun hp => by have := (pl_key hp k4).1; rw [this])]
   rw [cnd_ff (by simp [k4])]
   by_cases k5 : c.fKind = 5
   ·have hp : pl c = (decide (c.fInt = 0) && (decide (c.fStr = []) && decide (0 ≤ c.fN))) := by simp [pl, k5]
    rw [show (decide (c.fKind = 5) && (decide (c.fInt = 0) && (decide (c.fStr = []) && decide (0 ≤ c.fN)))) = pl c from by rw [hp, decide_eq_true k5, Bool.true_and]]
    have k5' : ¬ c.fKind = 6 := by omega
    cases hb : pl c with
    | false => rw [cnd_ff rfl, cnd_ff (by simp [k5]), hpl0 hb]
    | true =>
     have hn0 := pl_N hb
     rw [cnd_tt rfl, chk_i64 (by omega) (by omega), rElements]
     unfold rElementsm
     obtain ⟨o, ho1, ho2⟩ := rElements_lop (F := F) ⟨hM, hvM, by omega, hA.hc⟩ hcN F (i + 1) 0 (by omega) (by omega) (Int.le_refl 0) hn0 hg (by omega)
     rw [obn_s ho1, ho2, obn_s rfl, nxts_one h0 hdr hb, decide_eq_false k5', Int.sub_zero]
   rw [cnd_ff (by simp [k5])]
   by_cases k6 : c.fKind = 6
   ·have hp : pl c = (decide (c.fInt = 0) && (decide (c.fStr = []) && decide (0 ≤ c.fN))) := by simp [pl, k6]
    rw [show (decide (c.fKind = 6) && (decide (c.fInt = 0) && (decide (c.fStr = []) && decide (0 ≤ c.fN)))) = pl c from by rw [hp, decide_eq_true k6, Bool.true_and]]
    cases hb : pl c with
    | false => rw [cnd_ff rfl, hpl0 hb]
    | true =>
     have hn0 := pl_N hb
     rw [cnd_tt rfl, chk_i64 (by omega) (by omega), rPairs]
     unfold rPairsm
     obtain ⟨o, ho1, ho2⟩ := rPairs_lop (F := F) ⟨hM, hvM, by omega, hA.hc⟩ hcN F (i + 1) 0 [] (by omega) (by omega) (Int.le_refl 0) hn0 hg (by omega)
     rw [obn_s ho1, ho2, obn_s rfl, nxts_one h0 hdr hb, decide_eq_true k6, Int.sub_zero]
     rfl
   ·rw [cnd_ff (by simp [k6]), hpl0 (by simp [pl, k1, k2, k3, k4, k5, k6])]
theorem rFormed_eq (hA : RfA (M + 1) M v) (hN : ∀ c ∈ v, c.fN ≤ 9223372036854775807) {F : Nat} (hF : 3 * M + 3 < F) : rFormed F v = some (decide (nxt v 0 = v.length)) := by
 have hvM := hA.hv
 unfold rFormed
 rw [rNext_eq hA hN v.length F 0 (Int.le_refl 0) (by omega) (by simp) (by omega)]
 simp only [imp, Option.isSome_some, Bool.or_true, chk_t, ov, Option.getD_some]
 cases v with
 | nil => simp [nxt, prs1_nil]
 | cons c r =>
  rw [show decide (0 < ((c :: r).length : Int)) = true from by simp, Bool.true_and]
  rfl
end
end Go.Proofs.YtkalifgebccpcaaGreatDoor

/-
 The plain reader reads each forest's cells; value.Check, and the reference's levels. Plain laws.
-/
namespace Go.Proofs.YtkalifgebccpcaaGreatDoor
open Go
set_option linter.unusedVariables false
set_option linter.unusedSimpArgs false
theorem prsK_of {m : Bool} {last key : Option Str} {r : List TApiCell} (h : keyOk m last key = true) : prsK m last (keyC key ++ r) = some (key, r) := by
 cases key with
 | none =>
  have : m = false := by simpa [keyOk] using h
  subst this; rfl
 | some s =>
  have h' := h
  simp only [keyOk, Bool.and_eq_true] at h
  obtain ⟨⟨h1, h2⟩, h3⟩ := h
  subst h1
  have hp : pl ⟨4, 0, s, 0⟩ = true := by simp [pl, h2]
  show (bif pl ⟨4, 0, s, 0⟩ && decide ((4 : Int) = 4) && keyOk true last (some s) then _ else _) = _
  rw [hp, h']; rfl
theorem prsF_of : ∀ (f : Fo) (m : Bool) (last : Option Str) (ys : List TApiCell), f.wf m last = true → prsF m last f.cnt (f.flat ++ ys) = some (f, ys)
 | .nil, _, _, _, _ => rfl
 | .cell k c r, m, last, ys, hw => by
  simp only [Fo.wf, Bool.and_eq_true, Bool.not_eq_true'] at hw
  obtain ⟨⟨⟨w1, w2⟩, w3⟩, w4⟩ := hw
  simp only [Fo.cnt, Fo.flat, List.append_assoc, List.cons_append]
  rw [prsF_cons, prsK_of w1]
  simp only [prs1_cons, w2, w3, Bool.not_true, cond_false, prsF_of r m k ys w4, Fo.put]
 | .node k c kids r, m, last, ys, hw => by
  simp only [Fo.wf, Bool.and_eq_true, decide_eq_true_eq] at hw
  obtain ⟨⟨⟨⟨⟨w1, w2⟩, w3⟩, w5⟩, w6⟩, w4⟩ := hw
  simp only [Fo.cnt, Fo.flat, List.append_assoc, List.cons_append]
  rw [prsF_cons, prsK_of w1]
  have e : c.fN.toNat = kids.cnt := by omega
  simp only [prs1_cons, w2, decide_eq_true w3, Bool.not_true, cond_false, cond_true, e, prsF_of kids _ none (r.flat ++ ys) w6, prsF_of r m k ys w4, Fo.put]
theorem prs1_of {f : Fo} {ys : List TApiCell} (h1 : f.one = true) (hw : f.wf false none = true) : prs1 (f.flat ++ ys) = some (f, ys) := by
 have := prsF_of f false none ys hw
 have hc : f.cnt = 1 := by
  cases f with
  | nil => cases h1
  | cell k c r => cases k with
   | some _ => cases h1
   | none => cases r with
    | nil => rfl
    | _ => cases h1
  | node k c kids r => cases k with
   | some _ => cases h1
   | none => cases r with
    | nil => rfl
    | _ => cases h1
 rw [hc] at this
 exact this
structure CkA (M : Nat) (v : List TApiCell) : Prop where
 hM : M ≤ 1000000000
 hv : v.length ≤ M
 hc : ∀ c ∈ v, c.fStr.length ≤ M ∧ inK .i64 c.fInt = true ∧ c.fN ≤ 9223372036854775807
theorem CkA.lk {M F : Nat} {v : List TApiCell} (h : CkA M v) (hF : M < F) : LkA F M v := ⟨by have := h.hM; omega, by have := h.hM; omega, h.hv, hF, h.hc⟩
theorem CkA.rf {M F : Nat} {v : List TApiCell} (h : CkA M v) (hF : M < F) : RfA F M v := ⟨by have := h.hM; omega, h.hv, hF, fun c hc => (h.hc c hc).1⟩
theorem CkA.drop {M : Nat} {v : List TApiCell} (h : CkA M v) (k : Nat) : CkA M (v.drop k) := ⟨h.hM, by have := h.hv; rw [List.length_drop]; omega, fun c hc => h.hc c (List.mem_of_mem_drop hc)⟩
theorem CkA.take {M : Nat} {v : List TApiCell} (h : CkA M v) (k : Nat) : CkA M (v.take k) := ⟨h.hM, by have := h.hv; rw [List.length_take]; omega, fun c hc => h.hc c (List.mem_of_mem_take hc)⟩
def whole (v : List TApiCell) : Option Fo := match prs1 v with
 | some (f, []) => some f
 | _ => none
theorem whole_some {v : List TApiCell} {f : Fo} (h : whole v = some f) : v = f.flat ∧ f.wf false none = true ∧ f.one = true := by
 unfold whole at h
 cases hp : prs1 v with
 | none => rw [hp] at h; cases h
 | some q =>
  obtain ⟨g, ys⟩ := q
  rw [hp] at h
  cases ys with
  | cons _ _ => cases h
  | nil =>
   cases h
   obtain ⟨h1, h2, h3⟩ := prs1_ok hp
   exact ⟨by simpa using h1, h2, h3⟩
theorem whole_of {f : Fo} (h1 : f.one = true) (hw : f.wf false none = true) : whole f.flat = some f := by
 have := prs1_of (ys := []) h1 hw
 rw [List.append_nil] at this
 simp [whole, this]
def errF (f : Fo) : Int :=
 bif f.flat.any outC then 2 else bif f.flat.any longC || (decide (200 < f.flat.length) || (decide (8 < f.dep) || decide (4000 < (f.txt true).length))) then 3 else 0
def errV (v : List TApiCell) : Int := match whole v with
 | none => 1
 | some f => errF f
theorem one_cnt {f : Fo} (h1 : f.one = true) : f.cnt = 1 := by
 cases f with
 | nil => cases h1
 | cell k c r => cases k with
  | some _ => cases h1
  | none => cases r with
   | nil => rfl
   | _ => cases h1
 | node k c kids r => cases k with
  | some _ => cases h1
  | none => cases r with
   | nil => rfl
   | _ => cases h1
theorem qlen_le (s : Str) : qlen s ≤ 2 * s.length + 2 + s.length := by
 have h1 : s.count 34 ≤ s.length := List.count_le_length
 have h2 : s.count 92 ≤ s.length := List.count_le_length
 unfold qlen; omega
theorem lsz_le {c : TApiCell} {M : Nat} (hp : pl c = true) (hs : c.fStr.length ≤ M) (hi : (Lib.itoa c.fInt).length ≤ 21) : lsz c ≤ 3 * M + 21 := by
 have := qlen_le c.fStr
 unfold lsz
 cases h1 : decide (c.fKind = 1) with
 | true => simp only [cond_true]; omega
 | false =>
  cases h2 : decide (c.fKind = 2) with
  | true =>
   simp [pl, h1, h2] at hp
   simp only [cond_false, cond_true]; omega
  | false =>
   cases h3 : decide (c.fKind = 3) with
   | true => simp only [cond_false, cond_true]; omega
   | false => cases h4 : decide (c.fKind = 4) <;> simp only [cond_false, cond_true] <;> omega
theorem byt_le {M : Nat} : ∀ {f : Fo} {m : Bool} {l : Option Str}, f.wf m l = true → (∀ c ∈ f.flat, c.fStr.length ≤ M ∧ inK .i64 c.fInt = true ∧ c.fN ≤ 9223372036854775807) → f.byt + f.cnt ≤ (3 * M + 24) * f.flat.length
 | .nil, _, _, _, _ => by simp [Fo.byt, Fo.flat, Fo.cnt]
 | .cell k c r, m, l, hw, hc => by
  simp only [Fo.wf, Bool.and_eq_true, Bool.not_eq_true'] at hw
  obtain ⟨⟨⟨w1, w2⟩, w3⟩, w4⟩ := hw
  simp only [Fo.flat] at hc
  have ih := byt_le w4 (fun x hx => hc x (by simp [hx]))
  obtain ⟨c1, c2, c3⟩ := hc c (by simp)
  have i64 := inK_i64 c2
  have hl := lsz_le w2 c1 (Lib.itoa_length_le c.fInt i64.1 i64.2)
  have hk : kbn k ≤ (3 * M + 24) * (keyC k).length := by
   cases k with
   | none => simp [kbn, keyC]
   | some s =>
    have := (hc ⟨4, 0, s, 0⟩ (by simp [keyC])).1
    have h2 := qlen_le s
    simp only at this
    simp only [kbn, keyC, List.length_singleton]; omega
  simp only [Fo.byt, Fo.flat, Fo.cnt, List.length_append, List.length_cons]
  have e : ((3 * (M : Int) + 24) * (((keyC k).length + (r.flat.length + 1) : Nat) : Int)) = (3 * (M : Int) + 24) * (keyC k).length + ((3 * (M : Int) + 24) * r.flat.length + (3 * (M : Int) + 24)) := by
   push_cast; rw [Int.mul_add, Int.mul_add, Int.mul_one]
  rw [e]
  push_cast at *
  omega
 | .node k c kids r, m, l, hw, hc => by
  simp only [Fo.wf, Bool.and_eq_true, decide_eq_true_eq] at hw
  obtain ⟨⟨⟨⟨⟨w1, w2⟩, w3⟩, w5⟩, w6⟩, w4⟩ := hw
  simp only [Fo.flat] at hc
  have ih := byt_le w4 (fun x hx => hc x (by simp [hx]))
  have ih2 := byt_le w6 (fun x hx => hc x (by simp [hx]))
  have hcf := cnt_le_flat kids
  have hk : kbn k ≤ (3 * M + 24) * (keyC k).length := by
   cases k with
   | none => simp [kbn, keyC]
   | some s =>
    have := (hc ⟨4, 0, s, 0⟩ (by simp [keyC])).1
    have h2 := qlen_le s
    simp only at this
    simp only [kbn, keyC, List.length_singleton]; omega
  simp only [Fo.byt, Fo.flat, Fo.cnt, List.length_append, List.length_cons]
  have e : ((3 * (M : Int) + 24) * (((keyC k).length + (kids.flat.length + r.flat.length + 1) : Nat) : Int)) = (3 * (M : Int) + 24) * (keyC k).length + ((3 * (M : Int) + 24) * kids.flat.length + (3 * (M : Int) + 24) * r.flat.length + (3 * (M : Int) + 24)) := by
   push_cast; rw [Int.mul_add, Int.mul_add, Int.mul_add, Int.mul_one]
  rw [e]
  push_cast at *
  omega
theorem byt_bound {M : Nat} (hM : M ≤ 1000000) {f : Fo} {m : Bool} {l : Option Str} (hw : f.wf m l = true) (hl : f.flat.length ≤ M) (hc : ∀ c ∈ f.flat, c.fStr.length ≤ M ∧ inK .i64 c.fInt = true ∧ c.fN ≤ 9223372036854775807) : f.byt ≤ 4000000000000 := by
 have := byt_le (M := M) hw hc
 have h2 : (3 * M + 24) * f.flat.length ≤ (3 * 1000000 + 24) * 1000000 := Nat.mul_le_mul (by omega) (by omega)
 have h3 : (((3 * M + 24) * f.flat.length : Nat) : Int) = (3 * (M : Int) + 24) * f.flat.length := by push_cast; rfl
 omega
theorem vCheck_eq {M F : Nat} {v : List TApiCell} (hA : CkA M v) (hM : M ≤ 1000000) (hF : M < F) : vCheck F v = some (errV v) := by
 unfold vCheck errV whole
 have hvM := hA.hv
 rcases look_eq (hA.lk hF) with ⟨f, ys, hp, hl⟩ | ⟨hp, sh', hl⟩
 ·rw [hl, obn_s rfl, hp]
  obtain ⟨h1, h2, h3⟩ := prs1_ok hp
  have hlen : v.length = f.flat.length + ys.length := by rw [h1]; simp
  cases ys with
  | cons c r =>
   rw [cnd_tt]
   simp only [List.length_cons] at hlen
   simp; omega
  | nil =>
   simp only [List.length_nil, Nat.add_zero] at hlen
   rw [cnd_ff (by simp [hlen])]
   have hc : ∀ c ∈ f.flat, c.fStr.length ≤ M ∧ inK .i64 c.fInt = true ∧ c.fN ≤ 9223372036854775807 := fun c hc => hA.hc c (by rw [h1]; simp [hc])
   have hb := byt_bound hM h2 (by omega) hc
   have hb0 := byt_pos h2
   have e1 : (f.sh 0 sh0).fOutside = f.flat.any outC := by rw [sh_out]; rfl
   have e2 : (f.sh 0 sh0).fLong = f.flat.any longC := by rw [sh_long]; rfl
   have e3 : (f.sh 0 sh0).fDepth = f.dep := by rw [sh_depth f 0 sh0 (by simp [sh0])]; simp [sh0]
   have e4 : (f.sh 0 sh0).fBytes = (f.txt true).length := by
    rw [sh_bytes f false none 0 sh0 h2 (by simp [sh0]) (by simp [sh0]; omega), txt_len f false none true h2, one_cnt h3]; simp [sh0]
   simp only
   rw [e1, e2, e3, e4, hlen]
   unfold errF
   cases f.flat.any outC with
   | true => rw [cnd_tt rfl]; rfl
   | false =>
    rw [cnd_ff rfl]
    have a1 : decide ((200 : Int) < (f.flat.length : Int)) = decide (200 < f.flat.length) := by rw [Bool.eq_iff_iff]; simp; omega
    have a2 : decide ((8 : Int) < (f.dep : Int)) = decide (8 < f.dep) := by rw [Bool.eq_iff_iff]; simp; omega
    have a3 : decide ((4000 : Int) < ((f.txt true).length : Int)) = decide (4000 < (f.txt true).length) := by rw [Bool.eq_iff_iff]; simp; omega
    rw [a1, a2, a3]
    cases (f.flat.any longC || (decide (200 < f.flat.length) || (decide (8 < f.dep) || decide (4000 < (f.txt true).length)))) <;> rfl
 ·rw [hl, obn_s rfl, hp]; rfl
end Go.Proofs.YtkalifgebccpcaaGreatDoor

/-
 The reference's levels and texts of a forest. Plain laws.
-/
namespace Go.Proofs.YtkalifgebccpcaaGreatDoor
open Go
set_option linter.unusedVariables false
set_option linter.unusedSimpArgs false
theorem nxt_of {v : List TApiCell} {p : Int} {f : Fo} {ys : List TApiCell} (h1 : f.one = true) (hw : f.wf false none = true) (hd : v.drop p.toNat = f.flat ++ ys) : nxt v p = p + f.flat.length := by
 unfold nxt
 rw [hd, prs1_of h1 hw]
theorem wf_leaf {c : TApiCell} (hp : pl c = true) (hn : decide (0 < c.fN) = false) : (Fo.cell none c .nil).wf false none = true := by simp [Fo.wf, keyOk, hp, hn]
theorem wf_node {c : TApiCell} {kids : Fo} (hp : pl c = true) (hn : 0 < c.fN) (hk : c.fN = kids.cnt) (hw : kids.wf (decide (c.fKind = 6)) none = true) : (Fo.node none c kids .nil).wf false none = true := by simp [Fo.wf, keyOk, hp, hn, hk, hw]; omega
section
variable {M : Nat} {v : List TApiCell}
theorem CkA.next (hA : CkA M v) {F : Nat} (hF : 3 * M + 3 < F) {p : Int} (h0 : 0 ≤ p) (h1 : p ≤ v.length) : rNext F v p = some (nxt v p) := by
 have hM := hA.hM; have hvM := hA.hv
 exact rNext_eq (hA.rf (Nat.lt_succ_self M)) (fun c hc => (hA.hc c hc).2.2) (v.length - p.toNat) F p h0 h1 rfl (by omega)
theorem rLevels_leaf {F : Nat} {p : Int} {c : TApiCell} {r : List TApiCell} (h0 : 0 ≤ p) (hpM : p ≤ 1152921504606846976) (hd : v.drop p.toNat = c :: r) (hp : pl c = true) (hn : decide (0 < c.fN) = false) : rLevels (F + 2) v p = some 1 := by
 obtain ⟨g1, g2, g3⟩ := drop_get h0 hd
 rw [rLevels]
 unfold rLevelsm
 rw [chk_inR h0 g3, at_drop h0 hd]
 cases hk : (!decide (c.fKind = 5) && !decide (c.fKind = 6)) with
 | true => rw [cnd_tt rfl]
 | false =>
  rw [cnd_ff rfl, chk_i64 (by omega) (by omega), obn_s (lop_o (o := .go 0) (by
   show rLevels_b1 (F + 1) v p _ 0 (p + 1) 0 = _
   unfold rLevels_b1
   rw [at_drop h0 hd, cnd_ff hn]))]
  simp only [oute, rLevels_k1]
  rw [chk_i64 (by omega) (by omega)]; rfl
theorem rLev_body {F : Nat} {i : Int} {rec : List TApiCell → Int → Option Int} {most at_ x L : Int} {m : Bool} {p q : Int} {pc : TApiCell} (hpc : at' v i = pc) (hm : decide (pc.fKind = 6) = m) (hx : x < pc.fN) (hx0 : 0 ≤ x) (hpcN : pc.fN ≤ 9223372036854775807)
  (ha0 : 0 ≤ at_) (haM : at_ ≤ 1152921504606846976) (hp : p = bif m then at_ + 1 else at_) (hr : rec v p = some L) (hq : rNext F v p = some q) : rLevels_b1 F v i rec most at_ x = some (.next (max most L, q, x + 1)) := by
 unfold rLevels_b1
 rw [hpc, cnd_tt (by simpa using hx), hm]
 cases m with
 | true =>
  simp only [cond_true] at hp
  rw [cnd_tt rfl, chk_i64 (by omega) (by omega), ← hp, hr, obn_s rfl]
  cases hl : decide (most < L) with
  | true => rw [cnd_tt rfl, hq, obn_s rfl, chk_i64 (by omega) (by omega), Int.max_eq_right (by simp at hl; omega)]
  | false => rw [cnd_ff rfl, hq, obn_s rfl, chk_i64 (by omega) (by omega), Int.max_eq_left (by simp at hl; omega)]
 | false =>
  simp only [cond_false] at hp
  rw [cnd_ff rfl, ← hp, hr, obn_s rfl]
  cases hl : decide (most < L) with
  | true => rw [cnd_tt rfl, hq, obn_s rfl, chk_i64 (by omega) (by omega), Int.max_eq_right (by simp at hl; omega)]
  | false => rw [cnd_ff rfl, hq, obn_s rfl, chk_i64 (by omega) (by omega), Int.max_eq_left (by simp at hl; omega)]
theorem key_len {m : Bool} {last key : Option Str} (h : keyOk m last key = true) : ((keyC key).length : Int) = bif m then 1 else 0 := by
  cases key with
  | none => have : m = false := by simpa [keyOk] using h
            subst this; rfl
  | some s => simp only [keyOk, Bool.and_eq_true] at h; rw [h.1.1]; rfl
theorem rLev_forest (hA : CkA M v) : ∀ (g : Fo) (F L : Nat) (i at_ x most : Int) (m : Bool) (last : Option Str) (ys : List TApiCell) (pc : TApiCell), at' v i = pc → decide (pc.fKind = 6) = m → pc.fN ≤ 9223372036854775807 → g.wf m last = true → v.drop at_.toNat = g.flat ++ ys → 0 ≤ at_ → at_ ≤ v.length → pc.fN = x + g.cnt → 0 ≤ x → 0 ≤ most → most ≤ 1152921504606846976 → g.cnt < L → 3 * M + 5 + g.flat.length < F →
  ∃ o, lop (fun σ => rLevels_b1 F v i (rLevels F) σ.1 σ.2.1 σ.2.2) L (most, at_, x) = some o ∧ oute (fun ν => rLevels_k1 ν) o = some (max most (g.dep : Int) + 1) := by
 have hM := hA.hM; have hvM := hA.hv
 have fin : ∀ (F L : Nat) (i at_ x most : Int) (pc : TApiCell), at' v i = pc → pc.fN ≤ x → 0 ≤ most → most ≤ 1152921504606846976 → 0 < L → ∃ o, lop (fun σ => rLevels_b1 F v i (rLevels F) σ.1 σ.2.1 σ.2.2) L (most, at_, x) = some o ∧ oute (fun ν => rLevels_k1 ν) o = some (most + 1) := fun F L i at_ x most pc hpc hx h0 hb hL => by
  obtain ⟨L, rfl⟩ : ∃ K, L = K + 1 := ⟨L - 1, by omega⟩
  refine ⟨.go most, lop_o (by show rLevels_b1 F v i _ most at_ x = _; unfold rLevels_b1; rw [hpc, cnd_ff (by simp; omega)]), ?_⟩
  simp only [oute, rLevels_k1]
  rw [chk_i64 (by omega) (by omega)]
 have depM : ∀ g : Fo, g.dep ≤ g.flat.length := by
  intro g
  induction g with
  | nil => simp [Fo.dep]
  | cell k c r ih => simp [Fo.dep, Fo.flat]; omega
  | node k c kids r ih1 ih2 => simp [Fo.dep, Fo.flat]; omega
 intro g
 induction g with
 | nil =>
  intro F L i at_ x most m last ys pc hpc hm hpN hw hd h0 h1 hN hx hmo hmM hL hF
  obtain ⟨o, h1, h2⟩ := fin F L i at_ x most pc hpc (by simp [Fo.cnt] at hN; omega) hmo hmM (by omega)
  exact ⟨o, h1, by rw [h2]; simp only [Fo.dep]; congr 2 <;> omega⟩
 | cell k c r ih =>
  intro F L i at_ x most m last ys pc hpc hm hpN hw hd h0 h1 hN hx hmo hmM hL hF
  simp only [Fo.wf, Bool.and_eq_true, Bool.not_eq_true'] at hw
  obtain ⟨⟨⟨w1, w2⟩, w3⟩, w4⟩ := hw
  simp only [Fo.flat, List.append_assoc, List.cons_append] at hd
  simp only [Fo.cnt] at hN hL
  simp only [Fo.flat, List.length_append, List.length_cons] at hF
  obtain ⟨L, rfl⟩ : ∃ K, L = K + 1 := ⟨L - 1, by omega⟩
  obtain ⟨F, rfl⟩ : ∃ K, F = K + 2 := ⟨F - 2, by omega⟩
  have hd1 := drop_app h0 hd
  have hkl := key_len w1
  obtain ⟨g1, g2, g3⟩ := drop_get (by omega) hd1
  have hlen : at_ + (keyC k).length = bif m then at_ + 1 else at_ := by rw [hkl]; cases m <;> simp
  have hq := hA.next (F := F + 2) (by omega) (p := at_ + (keyC k).length) (by omega) (by omega)
  rw [nxt_of (f := .cell none c .nil) (ys := r.flat ++ ys) rfl (wf_leaf w2 w3) hd1] at hq
  have hb := rLev_body (most := most) (x := x) hpc hm (by omega) hx hpN h0 (by omega) hlen (rLevels_leaf (F := F) (by omega) (by omega) hd1 w2 w3) hq
  have hdd := depM r
  obtain ⟨o, ho1, ho2⟩ := ih (F + 2) L i (at_ + (keyC k).length + ((Fo.cell none c .nil).flat.length : Int)) (x + 1) (max most 1) m k ys pc hpc hm hpN w4 (by rw [show (Fo.cell none c .nil).flat.length = 1 from rfl]; exact g2) (by omega) (by rw [show (Fo.cell none c .nil).flat.length = 1 from rfl]; omega) (by omega) (by omega) (by omega) (by omega) (by omega) (by omega)
  refine ⟨o, lop_n hb ho1, ?_⟩
  rw [ho2, Fo.dep]; congr 2 <;> omega
 | node k c kids r ihk ih =>
  intro F L i at_ x most m last ys pc hpc hm hpN hw hd h0 h1 hN hx hmo hmM hL hF
  simp only [Fo.wf, Bool.and_eq_true, decide_eq_true_eq] at hw
  obtain ⟨⟨⟨⟨⟨w1, w2⟩, w3⟩, w5⟩, w6⟩, w4⟩ := hw
  simp only [Fo.flat, List.append_assoc, List.cons_append] at hd
  simp only [Fo.cnt] at hN hL
  simp only [Fo.flat, List.length_append, List.length_cons] at hF
  obtain ⟨L, rfl⟩ : ∃ K, L = K + 1 := ⟨L - 1, by omega⟩
  obtain ⟨F, rfl⟩ : ∃ K, F = K + 1 := ⟨F - 1, by omega⟩
  have hd1 := drop_app h0 hd
  have hkl := key_len w1
  obtain ⟨g1, g2, g3⟩ := drop_get (by omega) hd1
  have hcN := (hA.hc c (List.mem_of_getElem? g1)).2.2
  have hlen : at_ + (keyC k).length = bif m then at_ + 1 else at_ := by rw [hkl]; cases m <;> simp
  have hq := hA.next (F := F + 1) (by omega) (p := at_ + (keyC k).length) (by omega) (by omega)
  have hfl : (Fo.node none c kids .nil).flat = c :: kids.flat := by simp [Fo.flat, keyC]
  rw [nxt_of (f := .node none c kids .nil) (ys := r.flat ++ ys) rfl (wf_node w2 w3 w5 w6) (by rw [hd1, hfl]; simp)] at hq
  have hdk := depM kids
  have hdd := depM r
  have hcf := cnt_le_flat kids
  have hvl : (v.drop (at_ + (keyC k).length + 1).toNat).length = kids.flat.length + (r.flat.length + ys.length) := by rw [g2]; simp
  rw [List.length_drop] at hvl
  have hrec : rLevels (F + 1) v (at_ + (keyC k).length) = some ((kids.dep : Int) + 1) := by
   rw [rLevels]
   unfold rLevelsm
   rw [chk_inR (by omega) g3, at_drop (by omega) hd1]
   have hk56 := (pl_node w2 w3).1
   rw [cnd_ff (by simp; omega), chk_i64 (by omega) (by omega)]
   obtain ⟨o, ho1, ho2⟩ := ihk F F (at_ + (keyC k).length) (at_ + (keyC k).length + 1) 0 0 _ none (r.flat ++ ys) c (at_drop (by omega) hd1) rfl hcN w6 (by rw [g2]) (by omega) (by omega) (by omega) (Int.le_refl 0) (Int.le_refl 0) (by omega) (by omega) (by omega)
   rw [obn_s ho1, ho2]; congr 2 <;> omega
  have hb := rLev_body (most := most) (x := x) hpc hm (by omega) hx hpN h0 (by omega) hlen hrec hq
  obtain ⟨o, ho1, ho2⟩ := ih (F + 1) L i (at_ + (keyC k).length + ((Fo.node none c kids .nil).flat.length : Int)) (x + 1) (max most ((kids.dep : Int) + 1)) m k ys pc hpc hm hpN w4 (by
   have := drop_app (by omega) g2
   rw [hfl, List.length_cons, show at_ + (keyC k).length + ((kids.flat.length + 1 : Nat) : Int) = at_ + (keyC k).length + 1 + kids.flat.length from by omega]; exact this) (by omega) (by rw [hfl, List.length_cons]; omega) (by omega) (by omega) (by omega) (by omega) (by omega) (by omega)
  refine ⟨o, lop_n hb ho1, ?_⟩
  rw [ho2, Fo.dep]; congr 2 <;> omega
theorem rLevels_eq (hA : CkA M v) {F : Nat} {p : Int} {f : Fo} {ys : List TApiCell} (h0 : 0 ≤ p) (h1 : f.one = true) (hw : f.wf false none = true) (hd : v.drop p.toNat = f.flat ++ ys) (hF : 3 * M + 6 + f.flat.length < F) : rLevels F v p = some (f.dep : Int) := by
 have hM := hA.hM; have hvM := hA.hv
 cases f with
 | nil => cases h1
 | cell k c r =>
  cases k with
  | some s => cases h1
  | none =>
   cases r with
   | nil =>
    simp only [Fo.wf, Bool.and_eq_true, Bool.not_eq_true'] at hw
    obtain ⟨F, rfl⟩ : ∃ K, F = K + 2 := ⟨F - 2, by omega⟩
    have hd' : v.drop p.toNat = c :: ys := by simpa [Fo.flat, keyC] using hd
    rw [rLevels_leaf h0 (by have := (drop_get h0 hd').2.2; omega) hd' hw.1.1.2 hw.1.2]; rfl
   | cell _ _ _ => cases h1
   | node _ _ _ _ => cases h1
 | node k c kids r =>
  cases k with
  | some s => cases h1
  | none =>
   cases r with
   | nil =>
    simp only [Fo.wf, Bool.and_eq_true, decide_eq_true_eq] at hw
    obtain ⟨⟨⟨⟨⟨w1, w2⟩, w3⟩, w5⟩, w6⟩, w4⟩ := hw
    have hd' : v.drop p.toNat = c :: (kids.flat ++ ys) := by simpa [Fo.flat, keyC] using hd
    obtain ⟨g1, g2, g3⟩ := drop_get h0 hd'
    have hcN := (hA.hc c (List.mem_of_getElem? g1)).2.2
    have hcf := cnt_le_flat kids
    simp only [Fo.flat, keyC, List.nil_append, List.append_nil, List.length_cons] at hF
    obtain ⟨F, rfl⟩ : ∃ K, F = K + 1 := ⟨F - 1, by omega⟩
    rw [rLevels]
    unfold rLevelsm
    have hk56 := (pl_node w2 w3).1
    rw [chk_inR h0 g3, at_drop h0 hd', cnd_ff (by simp; omega), chk_i64 (by omega) (by omega)]
    obtain ⟨o, ho1, ho2⟩ := rLev_forest hA kids F F p (p + 1) 0 0 _ none ys c (at_drop h0 hd') rfl hcN w6 g2 (by omega) (by omega) (by omega) (Int.le_refl 0) (Int.le_refl 0) (by omega) (by omega) (by omega)
    rw [obn_s ho1, ho2]; simp only [Fo.dep]; congr 1 <;> omega
   | cell _ _ _ => cases h1
   | node _ _ _ _ => cases h1
end
end Go.Proofs.YtkalifgebccpcaaGreatDoor

/-
 The reference's text of a forest. Plain laws.
-/
namespace Go.Proofs.YtkalifgebccpcaaGreatDoor
open Go
set_option linter.unusedVariables false
set_option linter.unusedSimpArgs false
def esc1 (c : UInt8) : Str := bif (decide (c = 34) || decide (c = 92)) then [92, c] else [c]
theorem escS_snoc {s : Str} {k : Nat} {c : UInt8} (h : s[k]? = some c) : escS (s.take (k + 1)) = escS (s.take k) ++ esc1 c := by
 rw [List.take_add_one, h]
 simp [escS, List.flatMap_append, esc1]
theorem escS_len_le (s : Str) : (escS s).length ≤ 3 * s.length := by
 rw [escS_len]
 have h1 : s.count 34 ≤ s.length := List.count_le_length
 have h2 : s.count 92 ≤ s.length := List.count_le_length
 omega
theorem take1_drop {s : Str} {x : Int} {c : UInt8} (h0 : 0 ≤ x) (h : s[x.toNat]? = some c) : List.take (Int.toNat (x + 1) - Int.toNat x) (List.drop (Int.toNat x) s) = [c] := by
 have hl := (List.getElem?_eq_some_iff.1 h).1
 have hc := (List.getElem?_eq_some_iff.1 h).2
 rw [show Int.toNat (x + 1) - Int.toNat x = 1 from by omega, List.drop_eq_getElem_cons hl, hc]; rfl
theorem bat34 {s : Str} {x : Int} {c : UInt8} (h : s[x.toNat]? = some c) : decide (bat s x = 34) = decide (c = 34) := by
 rw [bat_get h, Bool.eq_iff_iff, decide_eq_true_iff, decide_eq_true_iff, ← UInt8.toNat_inj]
 show _ ↔ c.toNat = 34
 omega
theorem bat92 {s : Str} {x : Int} {c : UInt8} (h : s[x.toNat]? = some c) : decide (bat s x = 92) = decide (c = 92) := by
 rw [bat_get h, Bool.eq_iff_iff, decide_eq_true_iff, decide_eq_true_iff, ← UInt8.toNat_inj]
 show _ ↔ c.toNat = 92
 omega
theorem rQuoted_step {s out : Str} {x : Int} {c : UInt8} (h0 : 0 ≤ x) (hx : x < (s.length : Int)) (hs : s.length ≤ 1152921504606846976) (ho : out.length ≤ 3 * s.length + 1) (hc : s[x.toNat]? = some c) : rQuoted_b1 s out x = some (.next (out ++ esc1 c, x + 1)) := by
 unfold rQuoted_b1 esc1
 rw [cnd_tt (decide_eq_true hx), chk_inR h0 hx, bat34 hc, bat92 hc, take1_drop h0 hc]
 have l1 : (([92] : Str).length : Int) = 1 := rfl
 have l2 : (([c] : Str).length : Int) = 1 := rfl
 cases hq : (decide (c = 34) || decide (c = 92)) with
 | true =>
  have l3 : ((out ++ ([92] : Str)).length : Int) = out.length + 1 := by rw [List.length_append, List.length_singleton, Int.natCast_add]; rfl
  rw [cnd_tt rfl, l1, l2, l3, chk_i64 (by omega) (by omega), chk_i64 (by omega) (by omega), chk_inC (by omega) (by omega), chk_inC (by omega) (by omega), chk_i64 (by omega) (by omega), List.append_assoc]
  rfl
 | false =>
  rw [cnd_ff rfl, l2, chk_i64 (by omega) (by omega), chk_inC (by omega) (by omega), chk_inC (by omega) (by omega), chk_i64 (by omega) (by omega)]
  rfl
theorem oute_go {R V : Type} (K : V → Option R) (v : V) : oute K (.go v) = K v := rfl
theorem oute_ret {R V : Type} (K : V → Option R) (r : R) : oute K (.ret r) = some r := rfl
theorem rQuoted_end {s out : Str} {x : Int} (hx : ¬ x < (s.length : Int)) : rQuoted_b1 s out x = some (.out (.go out)) := by
 unfold rQuoted_b1
 rw [cnd_ff (decide_eq_false hx)]
theorem rQuoted_k {out : Str} (h : out.length ≤ 4611686018427387904) : rQuoted_k1 out = some (out ++ [34]) := by
 unfold rQuoted_k1
 have l1 : (([34] : Str).length : Int) = 1 := rfl
 rw [l1, chk_i64 (by omega) (by omega)]
theorem rQuoted_eq {F : Nat} {s : Str} (hF : s.length < F) (hs : s.length ≤ 1152921504606846976) : rQuoted F s = some (quoS s) := by
 obtain ⟨o, h1, h2⟩ := lop_ind (body := fun σ => rQuoted_b1 s σ.1 σ.2) (fun σ => 0 ≤ σ.2 ∧ σ.2 ≤ (s.length : Int) ∧ σ.1 = 34 :: escS (s.take σ.2.toNat)) (fun σ => s.length - σ.2.toNat)
  (fun o => oute (fun ν => rQuoted_k1 ν) o = some (quoS s)) (fun σ ⟨h0, hl, ha⟩ => by
   obtain ⟨out, x⟩ := σ
   simp only at h0 hl ha
   show (∃ s', rQuoted_b1 s out x = _ ∧ _) ∨ ∃ o, rQuoted_b1 s out x = _ ∧ _
   have hb := escS_len_le (s.take x.toNat)
   have hb2 : (s.take x.toNat).length ≤ s.length := by rw [List.length_take]; omega
   have hol : out.length ≤ 3 * s.length + 1 := by rw [ha, List.length_cons]; omega
   by_cases hx : x < (s.length : Int)
   ·obtain ⟨c, hc⟩ : ∃ c, s[x.toNat]? = some c := ⟨s[x.toNat]'(by omega), List.getElem?_eq_getElem (by omega)⟩
    have a1 : 0 ≤ x + 1 := by omega
    have a2 : x + 1 ≤ s.length := by omega
    have a3 : s.length - (x + 1).toNat < s.length - x.toNat := by omega
    have a4 : out ++ esc1 c = 34 :: escS (s.take (x + 1).toNat) := by rw [show (x + 1).toNat = x.toNat + 1 from by omega, escS_snoc hc, ha]; rfl
    exact .inl ⟨(out ++ esc1 c, x + 1), rQuoted_step h0 hx hs hol hc, ⟨a1, a2, a4⟩, a3⟩
   ·have e : x.toNat = s.length := by omega
    have hk : rQuoted_k1 out = some (out ++ [34]) := rQuoted_k (by omega)
    have hf : out ++ [34] = quoS s := by rw [ha, e, List.take_length]; rfl
    exact .inr ⟨.go out, rQuoted_end hx, (oute_go (fun ν => rQuoted_k1 ν) out).trans (hk.trans (congrArg some hf))⟩) F ([34], 0) ⟨Int.le_refl 0, by show (0 : Int) ≤ s.length; omega, by show ([34] : Str) = 34 :: escS (s.take 0); simp [escS]⟩ (by show s.length - 0 < F; omega)
 unfold rQuoted
 rw [obn_s h1, h2]
section
variable {M : Nat} {v : List TApiCell}
theorem cat4 (a b c d e : Str) : (((a ++ b) ++ c) ++ d) ++ e = a ++ (b ++ (c ++ d) ++ e) := by simp
theorem cat3 (a b c d : Str) : ((a ++ b) ++ c) ++ d = a ++ ([] ++ (b ++ c) ++ d) := by simp
theorem cat2 (a b c : Str) : (a ++ b) ++ c = a ++ (b ++ [] ++ c) := by simp
theorem cat1 (a b : Str) : a ++ b = a ++ ([] ++ [] ++ b) := by simp
theorem len1 (a : Str) (c : UInt8) : ((a ++ [c]).length : Int) = a.length + 1 := by rw [List.length_append, List.length_singleton, Int.natCast_add]; rfl
theorem len2 (a b : Str) : ((a ++ b).length : Int) = a.length + b.length := by rw [List.length_append, Int.natCast_add]
theorem rTxt_body {F : Nat} {i : Int} {rec : List TApiCell → Int → Option Str} {out tx : Str} {at_ x : Int} {m : Bool} {p q : Int} {pc : TApiCell} {key : Option Str} {last : Option Str} (hpc : at' v i = pc) (hm : decide (pc.fKind = 6) = m) (hx : x < pc.fN) (hx0 : 0 ≤ x) (hpcN : pc.fN ≤ 9223372036854775807)
  (ha0 : 0 ≤ at_) (haM : at_ < v.length) (hvM : (v.length : Int) ≤ 1152921504606846976) (hk : keyOk m last key = true) (hkey : ∀ s, key = some s → (at' v at_).fStr = s ∧ s.length < F ∧ s.length ≤ 1152921504606846976) (hp : p = bif m then at_ + 1 else at_) (hr : rec v p = some tx) (hq : rNext F v p = some q)
  (hlen : ((out ++ (sepT (decide (x = 0)) ++ ktx key ++ tx)).length : Int) ≤ 4611686018427387904) : rText_b1 F v i rec out at_ x = some (.next (out ++ (sepT (decide (x = 0)) ++ ktx key ++ tx), q, x + 1)) := by
 have l44 : (([44] : Str).length : Int) = 1 := rfl
 have l58 : (([58] : Str).length : Int) = 1 := rfl
 have hx1 : chk (inK .i64 (x + 1)) (some (Stp.next (out ++ (sepT (decide (x = 0)) ++ ktx key ++ tx), q, x + 1)) : Option (Stp (Str × Int × Int) (Out Str Str))) = some (Stp.next (out ++ (sepT (decide (x = 0)) ++ ktx key ++ tx), q, x + 1)) := chk_i64 (by omega) (by omega)
 unfold rText_b1
 rw [hpc, cnd_tt (decide_eq_true hx), hm]
 cases hx00 : decide (x = 0) with
 | true =>
  rw [hx00] at hx1 hlen
  simp only [decide_eq_true_eq] at hx00
  rw [cnd_ff (decide_eq_false (by omega))]
  cases m with
  | true =>
   cases key with
   | none => simp [keyOk] at hk
   | some s =>
    obtain ⟨e1, e2, e3⟩ := hkey s rfl
    simp only [cond_true] at hp
    have e : ((out ++ quoS s) ++ [58]) ++ tx = out ++ (sepT true ++ ktx (some s) ++ tx) := cat3 _ _ _ _
    rw [← e] at hx1 hlen ⊢
    have h1 := len2 ((out ++ quoS s) ++ [58]) tx
    have h2 := len1 (out ++ quoS s) 58
    have h3 := len2 out (quoS s)
    rw [cnd_tt rfl, chk_inR ha0 haM, e1, rQuoted_eq e2 e3, obn_s rfl, chk_i64 (by omega) (by omega), l58, chk_i64 (by omega) (by omega), chk_i64 (by omega) (by omega), ← hp, hr, obn_s rfl, chk_i64 (by omega) (by omega), hq, obn_s rfl, hx1]
  | false =>
   cases key with
   | some s => simp [keyOk] at hk
   | none =>
    simp only [cond_false] at hp
    have e : out ++ tx = out ++ (sepT true ++ ktx none ++ tx) := cat1 _ _
    rw [← e] at hx1 hlen ⊢
    have h1 := len2 out tx
    rw [cnd_ff rfl, ← hp, hr, obn_s rfl, chk_i64 (by omega) (by omega), hq, obn_s rfl, hx1]
 | false =>
  rw [hx00] at hx1 hlen
  simp only [decide_eq_false_iff_not] at hx00
  rw [cnd_tt (decide_eq_true (by omega))]
  cases m with
  | true =>
   cases key with
   | none => simp [keyOk] at hk
   | some s =>
    obtain ⟨e1, e2, e3⟩ := hkey s rfl
    simp only [cond_true] at hp
    have e : (((out ++ [44]) ++ quoS s) ++ [58]) ++ tx = out ++ (sepT false ++ ktx (some s) ++ tx) := cat4 _ _ _ _ _
    rw [← e] at hx1 hlen ⊢
    have h1 := len2 (((out ++ [44]) ++ quoS s) ++ [58]) tx
    have h2 := len1 ((out ++ [44]) ++ quoS s) 58
    have h3 := len2 (out ++ [44]) (quoS s)
    have h4 := len1 out 44
    rw [l44, chk_i64 (by omega) (by omega), cnd_tt rfl, chk_inR ha0 haM, e1, rQuoted_eq e2 e3, obn_s rfl, chk_i64 (by omega) (by omega), l58, chk_i64 (by omega) (by omega), chk_i64 (by omega) (by omega), ← hp, hr, obn_s rfl, chk_i64 (by omega) (by omega), hq, obn_s rfl, hx1]
  | false =>
   cases key with
   | some s => simp [keyOk] at hk
   | none =>
    simp only [cond_false] at hp
    have e : (out ++ [44]) ++ tx = out ++ (sepT false ++ ktx none ++ tx) := cat2 _ _ _
    rw [← e] at hx1 hlen ⊢
    have h1 := len2 (out ++ [44]) tx
    have h4 := len1 out 44
    rw [l44, chk_i64 (by omega) (by omega), cnd_ff rfl, ← hp, hr, obn_s rfl, chk_i64 (by omega) (by omega), hq, obn_s rfl, hx1]
theorem rText_k {i : Int} {pc : TApiCell} {out : Str} (hpc : at' v i = pc) (h : out.length ≤ 4611686018427387904) : rText_k1 v i out = some (brk pc out) := by
 unfold rText_k1 brk
 have l1 : (([123] : Str).length : Int) = 1 := rfl
 have l2 : (([91] : Str).length : Int) = 1 := rfl
 have l3 : (([125] : Str).length : Int) = 1 := rfl
 have l4 : (([93] : Str).length : Int) = 1 := rfl
 have h1 := len2 [123] out
 have h2 := len2 [91] out
 rw [hpc]
 cases hk : decide (pc.fKind = 6) with
 | true => rw [cnd_tt rfl, chk_i64 (by omega) (by omega), chk_i64 (by omega) (by omega)]; rfl
 | false => rw [cnd_ff rfl, chk_i64 (by omega) (by omega), chk_i64 (by omega) (by omega)]; rfl
theorem rText_leaf {F : Nat} {p : Int} {c : TApiCell} {r : List TApiCell} (h0 : 0 ≤ p) (hpM : p ≤ 1152921504606846976) (hd : v.drop p.toNat = c :: r) (hp : pl c = true) (hn : decide (0 < c.fN) = false) (hs : c.fStr.length < F + 1) (hs2 : c.fStr.length ≤ 1152921504606846976) (hi : inK .i64 c.fInt = true) : rText (F + 2) v p = some (leafT c) := by
 obtain ⟨g1, g2, g3⟩ := drop_get h0 hd
 rw [rText]
 unfold rTextm leafT
 rw [chk_inR h0 g3, at_drop h0 hd]
 cases k1 : decide (c.fKind = 1) with
 | true => rw [cnd_tt rfl]; rfl
 | false =>
 rw [cnd_ff rfl]
 cases k2 : decide (c.fKind = 2) with
 | true => rw [cnd_tt rfl]; cases decide (c.fInt = 1) <;> rfl
 | false =>
 rw [cnd_ff rfl]
 cases k3 : decide (c.fKind = 3) with
 | true => rw [cnd_tt rfl, chk_t hi]; rfl
 | false =>
 rw [cnd_ff rfl]
 cases k4 : decide (c.fKind = 4) with
 | true => rw [cnd_tt rfl, rQuoted_eq hs hs2, obn_s rfl]; rfl
 | false =>
 have hgo : rText_b1 (F + 1) v p (rText (F + 1)) [] (p + 1) 0 = some (.out (.go [])) := by
  unfold rText_b1
  rw [at_drop h0 hd, cnd_ff hn]
 rw [cnd_ff rfl, chk_i64 (by omega) (by omega), obn_s (lop_o (o := .go []) hgo), oute_go, rText_k (at_drop h0 hd) (by simp)]
 simp only [cond_false, brk]
 cases decide (c.fKind = 6) <;> rfl
end
end Go.Proofs.YtkalifgebccpcaaGreatDoor

/-
 The reference's text of a whole value; its check. Plain laws.
-/
namespace Go.Proofs.YtkalifgebccpcaaGreatDoor
open Go
set_option linter.unusedVariables false
set_option linter.unusedSimpArgs false
section
variable {M : Nat} {v : List TApiCell}
theorem ov_some {α : Type} [Inhabited α] (a : α) : ov (some a) = a := rfl
theorem key_at {at_ : Int} {k : Option Str} {r : List TApiCell} (h0 : 0 ≤ at_) (hA : CkA M v) {F : Nat} (hF : M < F) (hd : v.drop at_.toNat = keyC k ++ r) : ∀ s, k = some s → (at' v at_).fStr = s ∧ s.length < F ∧ s.length ≤ 1152921504606846976 := fun s e => by
 subst e
 have hd' : v.drop at_.toNat = ⟨4, 0, s, 0⟩ :: r := by simpa [keyC] using hd
 have h1 := at_drop h0 hd'
 have h2 := (hA.hc _ (List.mem_of_getElem? (drop_get h0 hd').1)).1
 have hM := hA.hM
 simp only at h2
 exact ⟨by rw [h1], by omega, by omega⟩
theorem rTxt_forest (hA : CkA M v) : ∀ (g : Fo) (F L : Nat) (i at_ x : Int) (out : Str) (m : Bool) (last : Option Str) (ys : List TApiCell) (pc : TApiCell), at' v i = pc → decide (pc.fKind = 6) = m → pc.fN ≤ 9223372036854775807 → g.wf m last = true → v.drop at_.toNat = g.flat ++ ys → 0 ≤ at_ → at_ ≤ v.length → pc.fN = x + g.cnt → 0 ≤ x → (out ++ g.txt (decide (x = 0))).length ≤ 4611686018427387904 → g.cnt < L → 3 * M + 5 + g.flat.length < F →
  ∃ o, lop (fun σ => rText_b1 F v i (rText F) σ.1 σ.2.1 σ.2.2) L (out, at_, x) = some o ∧ oute (fun ν => rText_k1 v i ν) o = some (brk pc (out ++ g.txt (decide (x = 0)))) := by
 have hM := hA.hM; have hvM := hA.hv
 intro g
 induction g with
 | nil =>
  intro F L i at_ x out m last ys pc hpc hm hpN hw hd h0 h1 hN hx hlen hL hF
  obtain ⟨L, rfl⟩ : ∃ K, L = K + 1 := ⟨L - 1, by omega⟩
  have hgo : rText_b1 F v i (rText F) out at_ x = some (.out (.go out)) := by
   simp only [Fo.cnt] at hN
   unfold rText_b1
   rw [hpc, cnd_ff (decide_eq_false (by omega))]
  refine ⟨.go out, lop_o hgo, ?_⟩
  simp only [Fo.txt, List.append_nil] at hlen ⊢
  rw [oute_go, rText_k hpc hlen]
 | cell k c r ih =>
  intro F L i at_ x out m last ys pc hpc hm hpN hw hd h0 h1 hN hx hlen hL hF
  simp only [Fo.wf, Bool.and_eq_true, Bool.not_eq_true'] at hw
  obtain ⟨⟨⟨w1, w2⟩, w3⟩, w4⟩ := hw
  simp only [Fo.flat, List.append_assoc, List.cons_append] at hd
  simp only [Fo.cnt] at hN hL
  simp only [Fo.flat, List.length_append, List.length_cons] at hF
  obtain ⟨L, rfl⟩ : ∃ K, L = K + 1 := ⟨L - 1, by omega⟩
  obtain ⟨F, rfl⟩ : ∃ K, F = K + 2 := ⟨F - 2, by omega⟩
  have hd1 := drop_app h0 hd
  have hkl := key_len w1
  obtain ⟨g1, g2, g3⟩ := drop_get (by omega) hd1
  have hcM := hA.hc c (List.mem_of_getElem? g1)
  have hp : at_ + (keyC k).length = bif m then at_ + 1 else at_ := by rw [hkl]; cases m <;> simp
  have hq := hA.next (F := F + 2) (by omega) (p := at_ + (keyC k).length) (by omega) (by omega)
  rw [nxt_of (f := .cell none c .nil) (ys := r.flat ++ ys) rfl (wf_leaf w2 w3) hd1] at hq
  have e : out ++ (Fo.cell k c r).txt (decide (x = 0)) = (out ++ (sepT (decide (x = 0)) ++ ktx k ++ leafT c)) ++ r.txt (decide (x + 1 = 0)) := by
   rw [decide_eq_false (show ¬ x + 1 = 0 by omega)]; simp [Fo.txt]
  rw [e] at hlen ⊢
  have hl2 : ((out ++ (sepT (decide (x = 0)) ++ ktx k ++ leafT c)).length : Int) ≤ 4611686018427387904 := by rw [List.length_append] at hlen; omega
  have hat : at_ < v.length := by omega
  have hb := rTxt_body hpc hm (by omega) hx hpN h0 hat (by omega) w1 (key_at h0 hA (F := F + 2) (by omega) hd) hp (rText_leaf (F := F) (by omega) (by omega) hd1 w2 w3 (by omega) (by omega) hcM.2.1) hq hl2
  obtain ⟨o, ho1, ho2⟩ := ih (F + 2) L i (at_ + (keyC k).length + ((Fo.cell none c .nil).flat.length : Int)) (x + 1) (out ++ (sepT (decide (x = 0)) ++ ktx k ++ leafT c)) m k ys pc hpc hm hpN w4 (by rw [show (Fo.cell none c .nil).flat.length = 1 from rfl]; exact g2) (by omega) (by rw [show (Fo.cell none c .nil).flat.length = 1 from rfl]; omega) (by omega) (by omega) hlen (by omega) (by omega)
  exact ⟨o, lop_n hb ho1, ho2⟩
 | node k c kids r ihk ih =>
  intro F L i at_ x out m last ys pc hpc hm hpN hw hd h0 h1 hN hx hlen hL hF
  simp only [Fo.wf, Bool.and_eq_true, decide_eq_true_eq] at hw
  obtain ⟨⟨⟨⟨⟨w1, w2⟩, w3⟩, w5⟩, w6⟩, w4⟩ := hw
  simp only [Fo.flat, List.append_assoc, List.cons_append] at hd
  simp only [Fo.cnt] at hN hL
  simp only [Fo.flat, List.length_append, List.length_cons] at hF
  obtain ⟨L, rfl⟩ : ∃ K, L = K + 1 := ⟨L - 1, by omega⟩
  obtain ⟨F, rfl⟩ : ∃ K, F = K + 1 := ⟨F - 1, by omega⟩
  have hd1 := drop_app h0 hd
  have hkl := key_len w1
  obtain ⟨g1, g2, g3⟩ := drop_get (by omega) hd1
  have hcN := (hA.hc c (List.mem_of_getElem? g1)).2.2
  have hp : at_ + (keyC k).length = bif m then at_ + 1 else at_ := by rw [hkl]; cases m <;> simp
  have hq := hA.next (F := F + 1) (by omega) (p := at_ + (keyC k).length) (by omega) (by omega)
  have hfl : (Fo.node none c kids .nil).flat = c :: kids.flat := by simp [Fo.flat, keyC]
  rw [nxt_of (f := .node none c kids .nil) (ys := r.flat ++ ys) rfl (wf_node w2 w3 w5 w6) (by rw [hd1, hfl]; simp)] at hq
  have hcf := cnt_le_flat kids
  have hvl : (v.drop (at_ + (keyC k).length + 1).toNat).length = kids.flat.length + (r.flat.length + ys.length) := by rw [g2]; simp
  rw [List.length_drop] at hvl
  have e : out ++ (Fo.node k c kids r).txt (decide (x = 0)) = (out ++ (sepT (decide (x = 0)) ++ ktx k ++ brk c (kids.txt true))) ++ r.txt (decide (x + 1 = 0)) := by
   rw [decide_eq_false (show ¬ x + 1 = 0 by omega)]; simp [Fo.txt]
  rw [e] at hlen ⊢
  have hl2 : ((out ++ (sepT (decide (x = 0)) ++ ktx k ++ brk c (kids.txt true))).length : Int) ≤ 4611686018427387904 := by rw [List.length_append] at hlen; omega
  have hl3 : (kids.txt true).length ≤ 4611686018427387904 := by
   have := brk_len c (kids.txt true)
   rw [List.length_append, List.length_append] at hl2; omega
  have hat : at_ < v.length := by omega
  have hrec : rText (F + 1) v (at_ + (keyC k).length) = some (brk c (kids.txt true)) := by
   rw [rText]
   unfold rTextm
   have hk56 := (pl_node w2 w3).1
   rw [chk_inR (by omega) g3, at_drop (by omega) hd1, cnd_ff (decide_eq_false (by omega)), cnd_ff (decide_eq_false (by omega)), cnd_ff (decide_eq_false (by omega)), cnd_ff (decide_eq_false (by omega)), chk_i64 (by omega) (by omega)]
   obtain ⟨o, ho1, ho2⟩ := ihk F F (at_ + (keyC k).length) (at_ + (keyC k).length + 1) 0 [] _ none (r.flat ++ ys) c (at_drop (by omega) hd1) rfl hcN w6 (by rw [g2]) (by omega) (by omega) (by omega) (Int.le_refl 0) hl3 (by omega) (by omega)
   rw [obn_s ho1, ho2]; rfl
  have hb := rTxt_body hpc hm (by omega) hx hpN h0 hat (by omega) w1 (key_at h0 hA (F := F + 1) (by omega) hd) hp hrec hq hl2
  obtain ⟨o, ho1, ho2⟩ := ih (F + 1) L i (at_ + (keyC k).length + ((Fo.node none c kids .nil).flat.length : Int)) (x + 1) (out ++ (sepT (decide (x = 0)) ++ ktx k ++ brk c (kids.txt true))) m k ys pc hpc hm hpN w4 (by
   have := drop_app (by omega) g2
   rw [hfl, List.length_cons, show at_ + (keyC k).length + ((kids.flat.length + 1 : Nat) : Int) = at_ + (keyC k).length + 1 + kids.flat.length from by omega]; exact this) (by omega) (by rw [hfl, List.length_cons]; omega) (by omega) (by omega) hlen (by omega) (by omega)
  exact ⟨o, lop_n hb ho1, ho2⟩
theorem rText_eq (hA : CkA M v) {F : Nat} {p : Int} {f : Fo} {ys : List TApiCell} (h0 : 0 ≤ p) (h1 : f.one = true) (hw : f.wf false none = true) (hd : v.drop p.toNat = f.flat ++ ys) (hF : 3 * M + 6 + f.flat.length < F) (hlen : (f.txt true).length ≤ 4611686018427387904) : rText F v p = some (f.txt true) := by
 have hM := hA.hM; have hvM := hA.hv
 cases f with
 | nil => cases h1
 | cell k c r =>
  cases k with
  | some s => cases h1
  | none =>
   cases r with
   | nil =>
    simp only [Fo.wf, Bool.and_eq_true, Bool.not_eq_true'] at hw
    obtain ⟨F, rfl⟩ : ∃ K, F = K + 2 := ⟨F - 2, by omega⟩
    have hd' : v.drop p.toNat = c :: ys := by simpa [Fo.flat, keyC] using hd
    have hcM := hA.hc c (List.mem_of_getElem? (drop_get h0 hd').1)
    rw [rText_leaf h0 (by have := (drop_get h0 hd').2.2; omega) hd' hw.1.1.2 hw.1.2 (by omega) (by omega) hcM.2.1]; simp [Fo.txt, sepT, ktx]
   | cell _ _ _ => cases h1
   | node _ _ _ _ => cases h1
 | node k c kids r =>
  cases k with
  | some s => cases h1
  | none =>
   cases r with
   | nil =>
    simp only [Fo.wf, Bool.and_eq_true, decide_eq_true_eq] at hw
    obtain ⟨⟨⟨⟨⟨w1, w2⟩, w3⟩, w5⟩, w6⟩, w4⟩ := hw
    have hd' : v.drop p.toNat = c :: (kids.flat ++ ys) := by simpa [Fo.flat, keyC] using hd
    obtain ⟨g1, g2, g3⟩ := drop_get h0 hd'
    have hcN := (hA.hc c (List.mem_of_getElem? g1)).2.2
    have hcf := cnt_le_flat kids
    simp only [Fo.flat, keyC, List.nil_append, List.append_nil, List.length_cons] at hF
    have et : (Fo.node none c kids .nil).txt true = brk c (kids.txt true) := by simp [Fo.txt, sepT, ktx]
    rw [et] at hlen ⊢
    have hbl := brk_len c (kids.txt true)
    obtain ⟨F, rfl⟩ : ∃ K, F = K + 1 := ⟨F - 1, by omega⟩
    rw [rText]
    unfold rTextm
    have hk56 := (pl_node w2 w3).1
    rw [chk_inR h0 g3, at_drop h0 hd', cnd_ff (decide_eq_false (by omega)), cnd_ff (decide_eq_false (by omega)), cnd_ff (decide_eq_false (by omega)), cnd_ff (decide_eq_false (by omega)), chk_i64 (by omega) (by omega)]
    obtain ⟨o, ho1, ho2⟩ := rTxt_forest hA kids F F p (p + 1) 0 [] _ none ys c (at_drop h0 hd') rfl hcN w6 g2 (by omega) (by omega) (by omega) (Int.le_refl 0) (by show (kids.txt true).length ≤ _; omega) (by omega) (by omega)
    rw [obn_s ho1, ho2]; rfl
   | cell _ _ _ => cases h1
   | node _ _ _ _ => cases h1
theorem rCheck_l1 {F : Nat} {K : Option Int} (hF : v.length < F) (hv : v.length ≤ 1152921504606846976) : obn (lop (fun σ => rCheck_b1 v σ) F 0) (oute fun _ => K) = bif v.any outC then some 2 else K := by
 obtain ⟨o, h1, h2⟩ := lop_ind (body := fun σ => rCheck_b1 v σ) (fun x => 0 ≤ x ∧ x ≤ (v.length : Int) ∧ (v.take x.toNat).any outC = false) (fun x => v.length - x.toNat)
  (fun o => oute (fun _ => K) o = bif v.any outC then some 2 else K) (fun x ⟨h0, hl, ha⟩ => by
   by_cases hx : x < (v.length : Int)
   ·obtain ⟨c, hc⟩ : ∃ c, v[x.toNat]? = some c := ⟨v[x.toNat]'(by omega), List.getElem?_eq_getElem (by omega)⟩
    have hat : at' v x = c := by simp [at', hc]
    have ho : (decide (c.fKind = 3) && (decide (c.fInt < (-1000000000000)) || decide (1000000000000 < c.fInt))) = outC c := by
     unfold outC
     cases decide (c.fKind = 3) with
     | false => rfl
     | true =>
      rw [Bool.true_and, Bool.true_and, Bool.eq_iff_iff]
      simp only [Bool.or_eq_true, decide_eq_true_eq, Bool.not_eq_true', Bool.and_eq_false_iff, decide_eq_false_iff_not]; omega
    have hb : rCheck_b1 v x = cnd (outC c) (some (.out (.ret 2))) (some (.next (x + 1))) := by
     unfold rCheck_b1
     rw [cnd_tt (decide_eq_true hx), chk_inR h0 hx, hat, ho, chk_i64 (by omega) (by omega)]
    cases hq : outC c with
    | true =>
     refine .inr ⟨.ret 2, hb.trans (cnd_tt hq), ?_⟩
     have : v.any outC = true := List.any_eq_true.2 ⟨c, List.mem_of_getElem? hc, hq⟩
     rw [oute_ret, this]; rfl
    | false =>
     have a3 : (v.take (x + 1).toNat).any outC = false := by
      rw [show (x + 1).toNat = x.toNat + 1 from by omega, List.take_add_one, hc, List.any_append, ha]; simp [hq]
     exact .inl ⟨x + 1, hb.trans (cnd_ff hq), ⟨by omega, by omega, a3⟩, by omega⟩
   ·refine .inr ⟨.go (), by unfold rCheck_b1; rw [cnd_ff (decide_eq_false hx)], ?_⟩
    rw [show x.toNat = v.length from by omega, List.take_length] at ha
    rw [oute_go, ha]; rfl) F 0 ⟨Int.le_refl 0, by omega, by simp⟩ (by simpa using hF)
 rw [obn_s h1, h2]
theorem rCheck_l2 {F : Nat} {K : Option Int} (hF : v.length < F) (hv : v.length ≤ 1152921504606846976) : obn (lop (fun σ => rCheck_b2 v σ) F 0) (oute fun _ => K) = bif v.any longC then some 3 else K := by
 obtain ⟨o, h1, h2⟩ := lop_ind (body := fun σ => rCheck_b2 v σ) (fun x => 0 ≤ x ∧ x ≤ (v.length : Int) ∧ (v.take x.toNat).any longC = false) (fun x => v.length - x.toNat)
  (fun o => oute (fun _ => K) o = bif v.any longC then some 3 else K) (fun x ⟨h0, hl, ha⟩ => by
   by_cases hx : x < (v.length : Int)
   ·obtain ⟨c, hc⟩ : ∃ c, v[x.toNat]? = some c := ⟨v[x.toNat]'(by omega), List.getElem?_eq_getElem (by omega)⟩
    have hat : at' v x = c := by simp [at', hc]
    have hb : rCheck_b2 v x = cnd (longC c) (some (.out (.ret 3))) (some (.next (x + 1))) := by
     unfold rCheck_b2
     rw [cnd_tt (decide_eq_true hx), chk_inR h0 hx, hat, chk_i64 (by omega) (by omega)]; rfl
    cases hq : longC c with
    | true =>
     refine .inr ⟨.ret 3, hb.trans (cnd_tt hq), ?_⟩
     have : v.any longC = true := List.any_eq_true.2 ⟨c, List.mem_of_getElem? hc, hq⟩
     rw [oute_ret, this]; rfl
    | false =>
     have a3 : (v.take (x + 1).toNat).any longC = false := by
      rw [show (x + 1).toNat = x.toNat + 1 from by omega, List.take_add_one, hc, List.any_append, ha]; simp [hq]
     exact .inl ⟨x + 1, hb.trans (cnd_ff hq), ⟨by omega, by omega, a3⟩, by omega⟩
   ·refine .inr ⟨.go (), by unfold rCheck_b2; rw [cnd_ff (decide_eq_false hx)], ?_⟩
    rw [show x.toNat = v.length from by omega, List.take_length] at ha
    rw [oute_go, ha]; rfl) F 0 ⟨Int.le_refl 0, by omega, by simp⟩ (by simpa using hF)
 rw [obn_s h1, h2]
theorem formed_whole : decide (nxt v 0 = v.length) = (whole v).isSome := by
 unfold nxt whole
 rw [show v.drop (0 : Int).toNat = v from rfl]
 cases hp : prs1 v with
 | none => simp
 | some q =>
  obtain ⟨f, ys⟩ := q
  have h1 := (prs1_ok hp).1
  have hl : v.length = f.flat.length + ys.length := by rw [h1]; simp
  cases ys with
  | nil => simp at hl ⊢; omega
  | cons c r => simp at hl ⊢; omega
theorem rCheck_eq (hA : CkA M v) (hM : M ≤ 1000000) {F : Nat} (hF : 4 * M + 6 < F) : rCheck F v = some (errV v) := by
 have hvM := hA.hv
 unfold rCheck
 rw [rFormed_eq (hA.rf (Nat.lt_succ_self M)) (fun c hc => (hA.hc c hc).2.2) (by omega), obn_s rfl, formed_whole]
 unfold errV
 cases hwh : whole v with
 | none => rfl
 | some f =>
  obtain ⟨h1, h2, h3⟩ := whole_some hwh
  rw [cnd_ff (p := !(some f).isSome) rfl]
  change _ = some (errF f)
  have hl : v.length = f.flat.length := by rw [h1]
  have hc : ∀ c ∈ f.flat, c.fStr.length ≤ M ∧ inK .i64 c.fInt = true ∧ c.fN ≤ 9223372036854775807 := fun c hc => hA.hc c (by rw [h1]; exact hc)
  have hb := byt_bound hM h2 (by omega) hc
  have htl : ((f.txt true).length : Int) = f.byt := by rw [txt_len f false none true h2, one_cnt h3]; simp
  have hd0 : v.drop (0 : Int).toNat = f.flat ++ [] := by rw [List.append_nil]; exact h1
  rw [rCheck_l1 (by omega) (by omega)]
  unfold errF rCheck_k1
  rw [rLevels_eq hA (Int.le_refl 0) h3 h2 hd0 (by omega), chk_t (by simp [imp]), rCheck_l2 (by omega) (by omega)]
  unfold rCheck_k2
  rw [rText_eq hA (Int.le_refl 0) h3 h2 hd0 (by omega) (by omega), obn_s rfl]
  rw [ov_some, hl, ← h1]
  have a1 : decide ((200 : Int) < (v.length : Int)) = decide (200 < v.length) := by rw [Bool.eq_iff_iff]; simp; omega
  have a2 : decide ((8 : Int) < (f.dep : Int)) = decide (8 < f.dep) := by rw [Bool.eq_iff_iff]; simp; omega
  have a3 : decide ((4000 : Int) < ((f.txt true).length : Int)) = decide (4000 < (f.txt true).length) := by rw [Bool.eq_iff_iff]; simp; omega
  rw [a1, a2, a3]
  cases v.any outC <;> cases v.any longC <;> cases decide (200 < v.length) <;> cases decide (8 < f.dep) <;> cases decide (4000 < (f.txt true).length) <;> rfl
end
end Go.Proofs.YtkalifgebccpcaaGreatDoor

/-
 value.Encode writes the text of a value. Plain laws.
-/
namespace Go.Proofs.YtkalifgebccpcaaGreatDoor
open Go
set_option linter.unusedVariables false
set_option linter.unusedSimpArgs false
theorem chk_inA {α : Type} {n : Nat} {x : Option α} (h : n ≤ 140737488355328) : chk (inA 1 n) x = x := chk_t (decide_eq_true (by omega))
theorem bnd_s {α β : Type} (a : α) (k : α → Option β) : bnd a k = k a := rfl
theorem chk_u8 {α : Type} {n : Int} {x : Option α} (h : 0 ≤ n) (h' : n ≤ 255) : chk (inK .u8 n) x = x := chk_t (inK_u8' h h')
section
variable {M : Nat}
end
end Go.Proofs.YtkalifgebccpcaaGreatDoor

/-
 value.Encode is the reference's. Plain laws.
-/
namespace Go.Proofs.YtkalifgebccpcaaGreatDoor
open Go
set_option linter.unusedVariables false
set_option linter.unusedSimpArgs false
section
variable {M : Nat}
theorem app1_len (l : Str) (c : UInt8) : (l ++ [c]).length = l.length + 1 := by rw [List.length_append, List.length_singleton]
end
end Go.Proofs.YtkalifgebccpcaaGreatDoor
