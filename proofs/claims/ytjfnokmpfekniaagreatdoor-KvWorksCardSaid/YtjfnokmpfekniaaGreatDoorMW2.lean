/-
  Texts of the proof, put together: IdA, PlB, IdB, PlC, IdC, ShelfV, QG, QS, QO, RowQ, PQB, WQB, PVa, WVa, PVb.
-/
import Derived.Test.YtjfnokmpfekniaaGreatDoorMW1
import Derived.Test.YtjfnokmpfekniaaGreatDoorProg
import Derived.Lib.Bytealg
import Derived.Lib.AtoiAllCases
import Derived.Lib.ItoaNum
import Derived.Lib.ItoaLen
import Derived.Shelf.Strings.Builder1
import Derived.Shelf.Strings.Count
import Derived.Shelf.Strings.Search1
import Derived.Shelf.Strings.Search2
import Derived.Shelf.Strings.Search3
import Derived.Shelf.Small.Strs
import Derived.Shelf.LaysM
import Derived.Shelf.LaysC
import Derived.Laws.BytesString
import Derived.Lib.Builder
import Derived.Lib.UnsafeStr
import Derived.Lib.AppendStr
import Derived.Laws.Externs
import Derived.Deep.Slices
import Derived.ChangeArms
import Derived.DataReads
import Derived.Laws.Tables
import Derived.Lib.SmallJoins
/-
 Walks, printed by a small program of ours (gsym.py).
-/
namespace Go.Proofs.YtjfnokmpfekniaaGreatDoor
open Go Go.RowKit
set_option linter.unusedVariables false
set_option linter.unusedSimpArgs false
set_option maxRecDepth 100000
theorem small_c (c : Int) (w : World) : Calls Tryz.prog 142 [.int .i32 (c)].toArray w (RetV w (.bool (smallS c))) := by
 refine enter0 (n := 9) Tryz.func142 rfl Tryz.ntmps142 rfl ?_
 refine wc_seq ?_
 refine wc_region ?_
 refine wl_v (o_assign rfl) rfl ?_
 refine wl_nil ?_
 refine wk_then (wc_of_wk ?_)
 refine wc_seq_mid [(2, .bool (((decide ((97) ≤ (c))) && (decide ((c) ≤ (122))))))] [] (φ := True) ?_ (fun hm1 => ?_)
 ·refine wc_region ?_
  refine wl_v (o_move rfl) rfl ?_
  refine wl_v (o_ge rfl rfl) rfl ?_
  refine wl_v (o_move rfl) rfl ?_
  refine bsplit (decide ((97) ≤ (c))) (fun h1 => ?_) (fun h1 => ?_)
  ·have g1 := h1; try simp only [decide_eq_true_eq, decide_eq_false_iff_not] at g1
   have f1 := h1; try simp only [decide_eq_true_eq, decide_eq_false_iff_not, Bool.and_eq_true, Bool.or_eq_true, Bool.not_eq_true', Bool.not_eq_false', Bool.and_eq_false_iff, Bool.or_eq_false_iff, not_or, Int.not_lt, Int.not_le] at f1
   refine wl_on rfl rfl h1 ?_
   refine wl_v (o_move rfl) rfl ?_
   refine wl_on rfl rfl h1 ?_
   refine wl_v (o_le rfl rfl) rfl ?_
   refine wl_v (o_pick_t rfl h1 rfl) rfl ?_
   refine wl_v (o_assign rfl) rfl ?_
   refine wl_nil ?_
   exact wk_then (wk_mid trivial ⟨fb (by first | (simp only [h1, Bool.true_and, Bool.false_and, Bool.true_or, Bool.false_or, Bool.and_true, Bool.and_false, Bool.or_true, Bool.or_false, Bool.not_true, Bool.not_false, cond_true, cond_false, if_true, if_false, reduceIte, Bool.false_eq_true]; done) | (simp only [Bool.true_and, Bool.false_and, Bool.true_or, Bool.false_or, Bool.and_true, Bool.and_false, Bool.or_true, Bool.or_false, Bool.not_true, Bool.not_false, cond_true, cond_false, if_true, if_false, reduceIte, Bool.false_eq_true]; done) | simp [h1]), trivial⟩ .slnil)
  ·have g1 := h1; try simp only [decide_eq_true_eq, decide_eq_false_iff_not] at g1
   have f1 := h1; try simp only [decide_eq_true_eq, decide_eq_false_iff_not, Bool.and_eq_true, Bool.or_eq_true, Bool.not_eq_true', Bool.not_eq_false', Bool.and_eq_false_iff, Bool.or_eq_false_iff, not_or, Int.not_lt, Int.not_le] at f1
   refine wl_off rfl rfl h1 rfl ?_
   refine wl_off rfl rfl h1 rfl ?_
   refine wl_v (o_pick_f rfl h1 rfl) rfl ?_
   refine wl_v (o_assign rfl) rfl ?_
   refine wl_nil ?_
   exact wk_then (wk_mid trivial ⟨fb (by first | (simp only [h1, Bool.true_and, Bool.false_and, Bool.true_or, Bool.false_or, Bool.and_true, Bool.and_false, Bool.or_true, Bool.or_false, Bool.not_true, Bool.not_false, cond_true, cond_false, if_true, if_false, reduceIte, Bool.false_eq_true]; done) | (simp only [Bool.true_and, Bool.false_and, Bool.true_or, Bool.false_or, Bool.and_true, Bool.and_false, Bool.or_true, Bool.or_false, Bool.not_true, Bool.not_false, cond_true, cond_false, if_true, if_false, reduceIte, Bool.false_eq_true]; done) | simp [h1]), trivial⟩ .slnil)
 refine wc_ret ?_
 refine wk_ret (r_1 rfl rfl) ?_
 exact retv (by first | rfl | simp [])

theorem digit_c (c : Int) (w : World) : Calls Tryz.prog 143 [.int .i32 (c)].toArray w (RetV w (.bool (digitS c))) := by
 refine enter0 (n := 9) Tryz.func143 rfl Tryz.ntmps143 rfl ?_
 refine wc_seq ?_
 refine wc_region ?_
 refine wl_v (o_assign rfl) rfl ?_
 refine wl_nil ?_
 refine wk_then (wc_of_wk ?_)
 refine wc_seq_mid [(2, .bool (((decide ((48) ≤ (c))) && (decide ((c) ≤ (57))))))] [] (φ := True) ?_ (fun hm3 => ?_)
 ·refine wc_region ?_
  refine wl_v (o_move rfl) rfl ?_
  refine wl_v (o_ge rfl rfl) rfl ?_
  refine wl_v (o_move rfl) rfl ?_
  refine bsplit (decide ((48) ≤ (c))) (fun h3 => ?_) (fun h3 => ?_)
  ·have g3 := h3; try simp only [decide_eq_true_eq, decide_eq_false_iff_not] at g3
   have f3 := h3; try simp only [decide_eq_true_eq, decide_eq_false_iff_not, Bool.and_eq_true, Bool.or_eq_true, Bool.not_eq_true', Bool.not_eq_false', Bool.and_eq_false_iff, Bool.or_eq_false_iff, not_or, Int.not_lt, Int.not_le] at f3
   refine wl_on rfl rfl h3 ?_
   refine wl_v (o_move rfl) rfl ?_
   refine wl_on rfl rfl h3 ?_
   refine wl_v (o_le rfl rfl) rfl ?_
   refine wl_v (o_pick_t rfl h3 rfl) rfl ?_
   refine wl_v (o_assign rfl) rfl ?_
   refine wl_nil ?_
   exact wk_then (wk_mid trivial ⟨fb (by first | (simp only [h3, Bool.true_and, Bool.false_and, Bool.true_or, Bool.false_or, Bool.and_true, Bool.and_false, Bool.or_true, Bool.or_false, Bool.not_true, Bool.not_false, cond_true, cond_false, if_true, if_false, reduceIte, Bool.false_eq_true]; done) | (simp only [Bool.true_and, Bool.false_and, Bool.true_or, Bool.false_or, Bool.and_true, Bool.and_false, Bool.or_true, Bool.or_false, Bool.not_true, Bool.not_false, cond_true, cond_false, if_true, if_false, reduceIte, Bool.false_eq_true]; done) | simp [h3]), trivial⟩ .slnil)
  ·have g3 := h3; try simp only [decide_eq_true_eq, decide_eq_false_iff_not] at g3
   have f3 := h3; try simp only [decide_eq_true_eq, decide_eq_false_iff_not, Bool.and_eq_true, Bool.or_eq_true, Bool.not_eq_true', Bool.not_eq_false', Bool.and_eq_false_iff, Bool.or_eq_false_iff, not_or, Int.not_lt, Int.not_le] at f3
   refine wl_off rfl rfl h3 rfl ?_
   refine wl_off rfl rfl h3 rfl ?_
   refine wl_v (o_pick_f rfl h3 rfl) rfl ?_
   refine wl_v (o_assign rfl) rfl ?_
   refine wl_nil ?_
   exact wk_then (wk_mid trivial ⟨fb (by first | (simp only [h3, Bool.true_and, Bool.false_and, Bool.true_or, Bool.false_or, Bool.and_true, Bool.and_false, Bool.or_true, Bool.or_false, Bool.not_true, Bool.not_false, cond_true, cond_false, if_true, if_false, reduceIte, Bool.false_eq_true]; done) | (simp only [Bool.true_and, Bool.false_and, Bool.true_or, Bool.false_or, Bool.and_true, Bool.and_false, Bool.or_true, Bool.or_false, Bool.not_true, Bool.not_false, cond_true, cond_false, if_true, if_false, reduceIte, Bool.false_eq_true]; done) | simp [h3]), trivial⟩ .slnil)
 refine wc_ret ?_
 refine wk_ret (r_1 rfl rfl) ?_
 exact retv (by first | rfl | simp [])

theorem letter_c (c : Int) (w : World) : Calls Tryz.prog 105 [.int .i32 (c)].toArray w (RetV w (.bool (letterS c))) := by
 refine enter0 (n := 37) Tryz.func105 rfl Tryz.ntmps105 rfl ?_
 refine wc_seq ?_
 refine wc_region ?_
 refine wl_v (o_assign rfl) rfl ?_
 refine wl_nil ?_
 refine wk_then (wc_of_wk ?_)
 refine wc_seq_mid [(2, .bool (((smallS c) || ((digitS c) || (bif decide ((65) ≤ (c)) then ((decide ((c) ≤ (90))) || ((decide ((c) = (45))) || ((decide ((c) = (95))) || ((decide ((c) = (46))) || ((decide ((c) = (58))) || (decide ((c) = (47)))))))) else ((decide ((c) = (45))) || ((decide ((c) = (95))) || ((decide ((c) = (46))) || ((decide ((c) = (58))) || (decide ((c) = (47))))))))))))] [] (φ := True) ?_ (fun hm16 => ?_)
 ·refine wc_region ?_
  refine wl_v (o_move rfl) rfl ?_
  refine w_call Tryz.call142 rfl (fun w hw => small_c c w) rfl ?_
  refine wl_v (o_move rfl) rfl ?_
  refine bsplit (smallS c) (fun h5 => ?_) (fun h5 => ?_)
  ·have g5 := h5; try simp only [decide_eq_true_eq, decide_eq_false_iff_not] at g5
   have f5 := h5; try simp only [decide_eq_true_eq, decide_eq_false_iff_not, Bool.and_eq_true, Bool.or_eq_true, Bool.not_eq_true', Bool.not_eq_false', Bool.and_eq_false_iff, Bool.or_eq_false_iff, not_or, Int.not_lt, Int.not_le] at f5
   refine wl_off rfl rfl h5 rfl ?_
   refine wl_off rfl rfl h5 rfl ?_
   refine wl_v (o_pick_t rfl h5 rfl) rfl ?_
   refine wl_v (o_move rfl) rfl ?_
   refine wl_off rfl rfl rfl rfl ?_
   refine wl_off rfl rfl rfl rfl ?_
   refine wl_off rfl rfl rfl rfl ?_
   refine wl_off_u rfl rfl rfl ?_
   refine wl_off_u rfl rfl rfl ?_
   refine wl_off rfl rfl rfl rfl ?_
   refine wl_v (o_pick_t rfl rfl rfl) rfl ?_
   refine wl_v (o_move rfl) rfl ?_
   refine wl_off rfl rfl rfl rfl ?_
   refine wl_off rfl rfl rfl rfl ?_
   refine wl_v (o_pick_t rfl rfl rfl) rfl ?_
   refine wl_v (o_move rfl) rfl ?_
   refine wl_off rfl rfl rfl rfl ?_
   refine wl_off rfl rfl rfl rfl ?_
   refine wl_v (o_pick_t rfl rfl rfl) rfl ?_
   refine wl_v (o_move rfl) rfl ?_
   refine wl_off rfl rfl rfl rfl ?_
   refine wl_off rfl rfl rfl rfl ?_
   refine wl_v (o_pick_t rfl rfl rfl) rfl ?_
   refine wl_v (o_move rfl) rfl ?_
   refine wl_off rfl rfl rfl rfl ?_
   refine wl_off rfl rfl rfl rfl ?_
   refine wl_v (o_pick_t rfl rfl rfl) rfl ?_
   refine wl_v (o_move rfl) rfl ?_
   refine wl_off rfl rfl rfl rfl ?_
   refine wl_off rfl rfl rfl rfl ?_
   refine wl_v (o_pick_t rfl rfl rfl) rfl ?_
   refine wl_v (o_assign rfl) rfl ?_
   refine wl_nil ?_
   exact wk_then (wk_mid trivial ⟨fb (by first | (simp only [h5, Bool.true_and, Bool.false_and, Bool.true_or, Bool.false_or, Bool.and_true, Bool.and_false, Bool.or_true, Bool.or_false, Bool.not_true, Bool.not_false, cond_true, cond_false, if_true, if_false, reduceIte, Bool.false_eq_true]; done) | (simp only [Bool.true_and, Bool.false_and, Bool.true_or, Bool.false_or, Bool.and_true, Bool.and_false, Bool.or_true, Bool.or_false, Bool.not_true, Bool.not_false, cond_true, cond_false, if_true, if_false, reduceIte, Bool.false_eq_true]; done) | simp [h5]), trivial⟩ .slnil)
  ·have g5 := h5; try simp only [decide_eq_true_eq, decide_eq_false_iff_not] at g5
   have f5 := h5; try simp only [decide_eq_true_eq, decide_eq_false_iff_not, Bool.and_eq_true, Bool.or_eq_true, Bool.not_eq_true', Bool.not_eq_false', Bool.and_eq_false_iff, Bool.or_eq_false_iff, not_or, Int.not_lt, Int.not_le] at f5
   refine wl_on rfl rfl h5 ?_
   refine wl_v (o_move rfl) rfl ?_
   refine wl_on rfl rfl h5 ?_
   refine w_call Tryz.call143 rfl (fun w hw => digit_c c w) rfl ?_
   refine wl_v (o_pick_f rfl h5 rfl) rfl ?_
   refine wl_v (o_move rfl) rfl ?_
   refine bsplit (digitS c) (fun h6 => ?_) (fun h6 => ?_)
   ·have g6 := h6; try simp only [decide_eq_true_eq, decide_eq_false_iff_not] at g6
    have f6 := h6; try simp only [decide_eq_true_eq, decide_eq_false_iff_not, Bool.and_eq_true, Bool.or_eq_true, Bool.not_eq_true', Bool.not_eq_false', Bool.and_eq_false_iff, Bool.or_eq_false_iff, not_or, Int.not_lt, Int.not_le] at f6
    refine wl_off rfl rfl h6 rfl ?_
    refine wl_off rfl rfl h6 rfl ?_
    refine wl_off rfl rfl h6 rfl ?_
    refine wl_off_u rfl rfl rfl ?_
    refine wl_off_u rfl rfl rfl ?_
    refine wl_off rfl rfl h6 rfl ?_
    refine wl_v (o_pick_t rfl h6 rfl) rfl ?_
    refine wl_v (o_move rfl) rfl ?_
    refine wl_off rfl rfl rfl rfl ?_
    refine wl_off rfl rfl rfl rfl ?_
    refine wl_v (o_pick_t rfl rfl rfl) rfl ?_
    refine wl_v (o_move rfl) rfl ?_
    refine wl_off rfl rfl rfl rfl ?_
    refine wl_off rfl rfl rfl rfl ?_
    refine wl_v (o_pick_t rfl rfl rfl) rfl ?_
    refine wl_v (o_move rfl) rfl ?_
    refine wl_off rfl rfl rfl rfl ?_
    refine wl_off rfl rfl rfl rfl ?_
    refine wl_v (o_pick_t rfl rfl rfl) rfl ?_
    refine wl_v (o_move rfl) rfl ?_
    refine wl_off rfl rfl rfl rfl ?_
    refine wl_off rfl rfl rfl rfl ?_
    refine wl_v (o_pick_t rfl rfl rfl) rfl ?_
    refine wl_v (o_move rfl) rfl ?_
    refine wl_off rfl rfl rfl rfl ?_
    refine wl_off rfl rfl rfl rfl ?_
    refine wl_v (o_pick_t rfl rfl rfl) rfl ?_
    refine wl_v (o_assign rfl) rfl ?_
    refine wl_nil ?_
    exact wk_then (wk_mid trivial ⟨fb (by first | (simp only [h5, h6, Bool.true_and, Bool.false_and, Bool.true_or, Bool.false_or, Bool.and_true, Bool.and_false, Bool.or_true, Bool.or_false, Bool.not_true, Bool.not_false, cond_true, cond_false, if_true, if_false, reduceIte, Bool.false_eq_true]; done) | (simp only [Bool.true_and, Bool.false_and, Bool.true_or, Bool.false_or, Bool.and_true, Bool.and_false, Bool.or_true, Bool.or_false, Bool.not_true, Bool.not_false, cond_true, cond_false, if_true, if_false, reduceIte, Bool.false_eq_true]; done) | simp [h5, h6]), trivial⟩ .slnil)
   ·have g6 := h6; try simp only [decide_eq_true_eq, decide_eq_false_iff_not] at g6
    have f6 := h6; try simp only [decide_eq_true_eq, decide_eq_false_iff_not, Bool.and_eq_true, Bool.or_eq_true, Bool.not_eq_true', Bool.not_eq_false', Bool.and_eq_false_iff, Bool.or_eq_false_iff, not_or, Int.not_lt, Int.not_le] at f6
    refine wl_on rfl rfl h6 ?_
    refine wl_v (o_move rfl) rfl ?_
    refine wl_on rfl rfl h6 ?_
    refine wl_v (o_ge rfl rfl) rfl ?_
    refine wl_on rfl rfl h6 ?_
    refine wl_v (o_move rfl) rfl ?_
    refine bsplit (decide ((65) ≤ (c))) (fun h7 => ?_) (fun h7 => ?_)
    ·have g7 := h7; try simp only [decide_eq_true_eq, decide_eq_false_iff_not] at g7
     have f7 := h7; try simp only [decide_eq_true_eq, decide_eq_false_iff_not, Bool.and_eq_true, Bool.or_eq_true, Bool.not_eq_true', Bool.not_eq_false', Bool.and_eq_false_iff, Bool.or_eq_false_iff, not_or, Int.not_lt, Int.not_le] at f7
     refine wl_on rfl rfl h7 ?_
     refine wl_v (o_move rfl) rfl ?_
     refine wl_on rfl rfl h7 ?_
     refine wl_v (o_le rfl rfl) rfl ?_
     refine wl_on rfl rfl h6 ?_
     refine wl_v (o_pick_t rfl h7 rfl) rfl ?_
     refine wl_v (o_pick_f rfl h6 rfl) rfl ?_
     refine wl_v (o_move rfl) rfl ?_
     refine bsplit (decide ((c) ≤ (90))) (fun h8 => ?_) (fun h8 => ?_)
     ·have g8 := h8; try simp only [decide_eq_true_eq, decide_eq_false_iff_not] at g8
      have f8 := h8; try simp only [decide_eq_true_eq, decide_eq_false_iff_not, Bool.and_eq_true, Bool.or_eq_true, Bool.not_eq_true', Bool.not_eq_false', Bool.and_eq_false_iff, Bool.or_eq_false_iff, not_or, Int.not_lt, Int.not_le] at f8
      refine wl_off rfl rfl h8 rfl ?_
      refine wl_off rfl rfl h8 rfl ?_
      refine wl_v (o_pick_t rfl h8 rfl) rfl ?_
      refine wl_v (o_move rfl) rfl ?_
      refine wl_off rfl rfl rfl rfl ?_
      refine wl_off rfl rfl rfl rfl ?_
      refine wl_v (o_pick_t rfl rfl rfl) rfl ?_
      refine wl_v (o_move rfl) rfl ?_
      refine wl_off rfl rfl rfl rfl ?_
      refine wl_off rfl rfl rfl rfl ?_
      refine wl_v (o_pick_t rfl rfl rfl) rfl ?_
      refine wl_v (o_move rfl) rfl ?_
      refine wl_off rfl rfl rfl rfl ?_
      refine wl_off rfl rfl rfl rfl ?_
      refine wl_v (o_pick_t rfl rfl rfl) rfl ?_
      refine wl_v (o_move rfl) rfl ?_
      refine wl_off rfl rfl rfl rfl ?_
      refine wl_off rfl rfl rfl rfl ?_
      refine wl_v (o_pick_t rfl rfl rfl) rfl ?_
      refine wl_v (o_assign rfl) rfl ?_
      refine wl_nil ?_
      exact wk_then (wk_mid trivial ⟨fb (by first | (simp only [h5, h6, h7, h8, Bool.true_and, Bool.false_and, Bool.true_or, Bool.false_or, Bool.and_true, Bool.and_false, Bool.or_true, Bool.or_false, Bool.not_true, Bool.not_false, cond_true, cond_false, if_true, if_false, reduceIte, Bool.false_eq_true]; done) | (simp only [Bool.true_and, Bool.false_and, Bool.true_or, Bool.false_or, Bool.and_true, Bool.and_false, Bool.or_true, Bool.or_false, Bool.not_true, Bool.not_false, cond_true, cond_false, if_true, if_false, reduceIte, Bool.false_eq_true]; done) | simp [h5, h6, h7, h8]), trivial⟩ .slnil)
     ·have g8 := h8; try simp only [decide_eq_true_eq, decide_eq_false_iff_not] at g8
      have f8 := h8; try simp only [decide_eq_true_eq, decide_eq_false_iff_not, Bool.and_eq_true, Bool.or_eq_true, Bool.not_eq_true', Bool.not_eq_false', Bool.and_eq_false_iff, Bool.or_eq_false_iff, not_or, Int.not_lt, Int.not_le] at f8
      refine wl_on rfl rfl h8 ?_
      refine wl_v (o_move rfl) rfl ?_
      refine wl_on rfl rfl h8 ?_
      refine wl_v (o_eq rfl rfl) rfl ?_
      refine wl_v (o_pick_f rfl h8 rfl) rfl ?_
      refine wl_v (o_move rfl) rfl ?_
      refine bsplit (decide ((c) = (45))) (fun h9 => ?_) (fun h9 => ?_)
      ·have g9 := h9; try simp only [decide_eq_true_eq, decide_eq_false_iff_not] at g9
       have f9 := h9; try simp only [decide_eq_true_eq, decide_eq_false_iff_not, Bool.and_eq_true, Bool.or_eq_true, Bool.not_eq_true', Bool.not_eq_false', Bool.and_eq_false_iff, Bool.or_eq_false_iff, not_or, Int.not_lt, Int.not_le] at f9
       refine wl_off rfl rfl h9 rfl ?_
       refine wl_off rfl rfl h9 rfl ?_
       refine wl_v (o_pick_t rfl h9 rfl) rfl ?_
       refine wl_v (o_move rfl) rfl ?_
       refine wl_off rfl rfl rfl rfl ?_
       refine wl_off rfl rfl rfl rfl ?_
       refine wl_v (o_pick_t rfl rfl rfl) rfl ?_
       refine wl_v (o_move rfl) rfl ?_
       refine wl_off rfl rfl rfl rfl ?_
       refine wl_off rfl rfl rfl rfl ?_
       refine wl_v (o_pick_t rfl rfl rfl) rfl ?_
       refine wl_v (o_move rfl) rfl ?_
       refine wl_off rfl rfl rfl rfl ?_
       refine wl_off rfl rfl rfl rfl ?_
       refine wl_v (o_pick_t rfl rfl rfl) rfl ?_
       refine wl_v (o_assign rfl) rfl ?_
       refine wl_nil ?_
       exact wk_then (wk_mid trivial ⟨fb (by first | (simp only [h5, h6, h7, h8, h9, Bool.true_and, Bool.false_and, Bool.true_or, Bool.false_or, Bool.and_true, Bool.and_false, Bool.or_true, Bool.or_false, Bool.not_true, Bool.not_false, cond_true, cond_false, if_true, if_false, reduceIte, Bool.false_eq_true]; done) | (simp only [Bool.true_and, Bool.false_and, Bool.true_or, Bool.false_or, Bool.and_true, Bool.and_false, Bool.or_true, Bool.or_false, Bool.not_true, Bool.not_false, cond_true, cond_false, if_true, if_false, reduceIte, Bool.false_eq_true]; done) | simp [h5, h6, h7, h8, h9]), trivial⟩ .slnil)
      ·have g9 := h9; try simp only [decide_eq_true_eq, decide_eq_false_iff_not] at g9
       have f9 := h9; try simp only [decide_eq_true_eq, decide_eq_false_iff_not, Bool.and_eq_true, Bool.or_eq_true, Bool.not_eq_true', Bool.not_eq_false', Bool.and_eq_false_iff, Bool.or_eq_false_iff, not_or, Int.not_lt, Int.not_le] at f9
       refine wl_on rfl rfl h9 ?_
       refine wl_v (o_move rfl) rfl ?_
       refine wl_on rfl rfl h9 ?_
       refine wl_v (o_eq rfl rfl) rfl ?_
       refine wl_v (o_pick_f rfl h9 rfl) rfl ?_
       refine wl_v (o_move rfl) rfl ?_
       refine bsplit (decide ((c) = (95))) (fun h10 => ?_) (fun h10 => ?_)
       ·have g10 := h10; try simp only [decide_eq_true_eq, decide_eq_false_iff_not] at g10
        have f10 := h10; try simp only [decide_eq_true_eq, decide_eq_false_iff_not, Bool.and_eq_true, Bool.or_eq_true, Bool.not_eq_true', Bool.not_eq_false', Bool.and_eq_false_iff, Bool.or_eq_false_iff, not_or, Int.not_lt, Int.not_le] at f10
        refine wl_off rfl rfl h10 rfl ?_
        refine wl_off rfl rfl h10 rfl ?_
        refine wl_v (o_pick_t rfl h10 rfl) rfl ?_
        refine wl_v (o_move rfl) rfl ?_
        refine wl_off rfl rfl rfl rfl ?_
        refine wl_off rfl rfl rfl rfl ?_
        refine wl_v (o_pick_t rfl rfl rfl) rfl ?_
        refine wl_v (o_move rfl) rfl ?_
        refine wl_off rfl rfl rfl rfl ?_
        refine wl_off rfl rfl rfl rfl ?_
        refine wl_v (o_pick_t rfl rfl rfl) rfl ?_
        refine wl_v (o_assign rfl) rfl ?_
        refine wl_nil ?_
        exact wk_then (wk_mid trivial ⟨fb (by first | (simp only [h5, h6, h7, h8, h9, h10, Bool.true_and, Bool.false_and, Bool.true_or, Bool.false_or, Bool.and_true, Bool.and_false, Bool.or_true, Bool.or_false, Bool.not_true, Bool.not_false, cond_true, cond_false, if_true, if_false, reduceIte, Bool.false_eq_true]; done) | (simp only [Bool.true_and, Bool.false_and, Bool.true_or, Bool.false_or, Bool.and_true, Bool.and_false, Bool.or_true, Bool.or_false, Bool.not_true, Bool.not_false, cond_true, cond_false, if_true, if_false, reduceIte, Bool.false_eq_true]; done) | simp [h5, h6, h7, h8, h9, h10]), trivial⟩ .slnil)
       ·have g10 := h10; try simp only [decide_eq_true_eq, decide_eq_false_iff_not] at g10
        have f10 := h10; try simp only [decide_eq_true_eq, decide_eq_false_iff_not, Bool.and_eq_true, Bool.or_eq_true, Bool.not_eq_true', Bool.not_eq_false', Bool.and_eq_false_iff, Bool.or_eq_false_iff, not_or, Int.not_lt, Int.not_le] at f10
        refine wl_on rfl rfl h10 ?_
        refine wl_v (o_move rfl) rfl ?_
        refine wl_on rfl rfl h10 ?_
        refine wl_v (o_eq rfl rfl) rfl ?_
        refine wl_v (o_pick_f rfl h10 rfl) rfl ?_
        refine wl_v (o_move rfl) rfl ?_
        refine bsplit (decide ((c) = (46))) (fun h11 => ?_) (fun h11 => ?_)
        ·have g11 := h11; try simp only [decide_eq_true_eq, decide_eq_false_iff_not] at g11
         have f11 := h11; try simp only [decide_eq_true_eq, decide_eq_false_iff_not, Bool.and_eq_true, Bool.or_eq_true, Bool.not_eq_true', Bool.not_eq_false', Bool.and_eq_false_iff, Bool.or_eq_false_iff, not_or, Int.not_lt, Int.not_le] at f11
         refine wl_off rfl rfl h11 rfl ?_
         refine wl_off rfl rfl h11 rfl ?_
         refine wl_v (o_pick_t rfl h11 rfl) rfl ?_
         refine wl_v (o_move rfl) rfl ?_
         refine wl_off rfl rfl rfl rfl ?_
         refine wl_off rfl rfl rfl rfl ?_
         refine wl_v (o_pick_t rfl rfl rfl) rfl ?_
         refine wl_v (o_assign rfl) rfl ?_
         refine wl_nil ?_
         exact wk_then (wk_mid trivial ⟨fb (by first | (simp only [h5, h6, h7, h8, h9, h10, h11, Bool.true_and, Bool.false_and, Bool.true_or, Bool.false_or, Bool.and_true, Bool.and_false, Bool.or_true, Bool.or_false, Bool.not_true, Bool.not_false, cond_true, cond_false, if_true, if_false, reduceIte, Bool.false_eq_true]; done) | (simp only [Bool.true_and, Bool.false_and, Bool.true_or, Bool.false_or, Bool.and_true, Bool.and_false, Bool.or_true, Bool.or_false, Bool.not_true, Bool.not_false, cond_true, cond_false, if_true, if_false, reduceIte, Bool.false_eq_true]; done) | simp [h5, h6, h7, h8, h9, h10, h11]), trivial⟩ .slnil)
        ·have g11 := h11; try simp only [decide_eq_true_eq, decide_eq_false_iff_not] at g11
         have f11 := h11; try simp only [decide_eq_true_eq, decide_eq_false_iff_not, Bool.and_eq_true, Bool.or_eq_true, Bool.not_eq_true', Bool.not_eq_false', Bool.and_eq_false_iff, Bool.or_eq_false_iff, not_or, Int.not_lt, Int.not_le] at f11
         refine wl_on rfl rfl h11 ?_
         refine wl_v (o_move rfl) rfl ?_
         refine wl_on rfl rfl h11 ?_
         refine wl_v (o_eq rfl rfl) rfl ?_
         refine wl_v (o_pick_f rfl h11 rfl) rfl ?_
         refine wl_v (o_move rfl) rfl ?_
         refine bsplit (decide ((c) = (58))) (fun h12 => ?_) (fun h12 => ?_)
         ·have g12 := h12; try simp only [decide_eq_true_eq, decide_eq_false_iff_not] at g12
          have f12 := h12; try simp only [decide_eq_true_eq, decide_eq_false_iff_not, Bool.and_eq_true, Bool.or_eq_true, Bool.not_eq_true', Bool.not_eq_false', Bool.and_eq_false_iff, Bool.or_eq_false_iff, not_or, Int.not_lt, Int.not_le] at f12
          refine wl_off rfl rfl h12 rfl ?_
          refine wl_off rfl rfl h12 rfl ?_
          refine wl_v (o_pick_t rfl h12 rfl) rfl ?_
          refine wl_v (o_assign rfl) rfl ?_
          refine wl_nil ?_
          exact wk_then (wk_mid trivial ⟨fb (by first | (simp only [h5, h6, h7, h8, h9, h10, h11, h12, Bool.true_and, Bool.false_and, Bool.true_or, Bool.false_or, Bool.and_true, Bool.and_false, Bool.or_true, Bool.or_false, Bool.not_true, Bool.not_false, cond_true, cond_false, if_true, if_false, reduceIte, Bool.false_eq_true]; done) | (simp only [Bool.true_and, Bool.false_and, Bool.true_or, Bool.false_or, Bool.and_true, Bool.and_false, Bool.or_true, Bool.or_false, Bool.not_true, Bool.not_false, cond_true, cond_false, if_true, if_false, reduceIte, Bool.false_eq_true]; done) | simp [h5, h6, h7, h8, h9, h10, h11, h12]), trivial⟩ .slnil)
         ·have g12 := h12; try simp only [decide_eq_true_eq, decide_eq_false_iff_not] at g12
          have f12 := h12; try simp only [decide_eq_true_eq, decide_eq_false_iff_not, Bool.and_eq_true, Bool.or_eq_true, Bool.not_eq_true', Bool.not_eq_false', Bool.and_eq_false_iff, Bool.or_eq_false_iff, not_or, Int.not_lt, Int.not_le] at f12
          refine wl_on rfl rfl h12 ?_
          refine wl_v (o_move rfl) rfl ?_
          refine wl_on rfl rfl h12 ?_
          refine wl_v (o_eq rfl rfl) rfl ?_
          refine wl_v (o_pick_f rfl h12 rfl) rfl ?_
          refine wl_v (o_assign rfl) rfl ?_
          refine wl_nil ?_
          exact wk_then (wk_mid trivial ⟨fb (by first | (simp only [h5, h6, h7, h8, h9, h10, h11, h12, Bool.true_and, Bool.false_and, Bool.true_or, Bool.false_or, Bool.and_true, Bool.and_false, Bool.or_true, Bool.or_false, Bool.not_true, Bool.not_false, cond_true, cond_false, if_true, if_false, reduceIte, Bool.false_eq_true]; done) | (simp only [Bool.true_and, Bool.false_and, Bool.true_or, Bool.false_or, Bool.and_true, Bool.and_false, Bool.or_true, Bool.or_false, Bool.not_true, Bool.not_false, cond_true, cond_false, if_true, if_false, reduceIte, Bool.false_eq_true]; done) | simp [h5, h6, h7, h8, h9, h10, h11, h12]), trivial⟩ .slnil)
    ·have g7 := h7; try simp only [decide_eq_true_eq, decide_eq_false_iff_not] at g7
     have f7 := h7; try simp only [decide_eq_true_eq, decide_eq_false_iff_not, Bool.and_eq_true, Bool.or_eq_true, Bool.not_eq_true', Bool.not_eq_false', Bool.and_eq_false_iff, Bool.or_eq_false_iff, not_or, Int.not_lt, Int.not_le] at f7
     refine wl_off rfl rfl h7 rfl ?_
     refine wl_off rfl rfl h7 rfl ?_
     refine wl_on rfl rfl h6 ?_
     refine wl_v (o_pick_f rfl h7 rfl) rfl ?_
     refine wl_v (o_pick_f rfl h6 rfl) rfl ?_
     refine wl_v (o_move rfl) rfl ?_
     refine wl_on rfl rfl rfl ?_
     refine wl_v (o_move rfl) rfl ?_
     refine wl_on rfl rfl rfl ?_
     refine wl_v (o_eq rfl rfl) rfl ?_
     refine wl_v (o_pick_f rfl rfl rfl) rfl ?_
     refine wl_v (o_move rfl) rfl ?_
     refine bsplit (decide ((c) = (45))) (fun h13 => ?_) (fun h13 => ?_)
     ·have g13 := h13; try simp only [decide_eq_true_eq, decide_eq_false_iff_not] at g13
      have f13 := h13; try simp only [decide_eq_true_eq, decide_eq_false_iff_not, Bool.and_eq_true, Bool.or_eq_true, Bool.not_eq_true', Bool.not_eq_false', Bool.and_eq_false_iff, Bool.or_eq_false_iff, not_or, Int.not_lt, Int.not_le] at f13
      refine wl_off rfl rfl h13 rfl ?_
      refine wl_off rfl rfl h13 rfl ?_
      refine wl_v (o_pick_t rfl h13 rfl) rfl ?_
      refine wl_v (o_move rfl) rfl ?_
      refine wl_off rfl rfl rfl rfl ?_
      refine wl_off rfl rfl rfl rfl ?_
      refine wl_v (o_pick_t rfl rfl rfl) rfl ?_
      refine wl_v (o_move rfl) rfl ?_
      refine wl_off rfl rfl rfl rfl ?_
      refine wl_off rfl rfl rfl rfl ?_
      refine wl_v (o_pick_t rfl rfl rfl) rfl ?_
      refine wl_v (o_move rfl) rfl ?_
      refine wl_off rfl rfl rfl rfl ?_
      refine wl_off rfl rfl rfl rfl ?_
      refine wl_v (o_pick_t rfl rfl rfl) rfl ?_
      refine wl_v (o_assign rfl) rfl ?_
      refine wl_nil ?_
      exact wk_then (wk_mid trivial ⟨fb (by first | (simp only [h5, h6, h7, h13, Bool.true_and, Bool.false_and, Bool.true_or, Bool.false_or, Bool.and_true, Bool.and_false, Bool.or_true, Bool.or_false, Bool.not_true, Bool.not_false, cond_true, cond_false, if_true, if_false, reduceIte, Bool.false_eq_true]; done) | (simp only [Bool.true_and, Bool.false_and, Bool.true_or, Bool.false_or, Bool.and_true, Bool.and_false, Bool.or_true, Bool.or_false, Bool.not_true, Bool.not_false, cond_true, cond_false, if_true, if_false, reduceIte, Bool.false_eq_true]; done) | simp [h5, h6, h7, h13]), trivial⟩ .slnil)
     ·have g13 := h13; try simp only [decide_eq_true_eq, decide_eq_false_iff_not] at g13
      have f13 := h13; try simp only [decide_eq_true_eq, decide_eq_false_iff_not, Bool.and_eq_true, Bool.or_eq_true, Bool.not_eq_true', Bool.not_eq_false', Bool.and_eq_false_iff, Bool.or_eq_false_iff, not_or, Int.not_lt, Int.not_le] at f13
      refine wl_on rfl rfl h13 ?_
      refine wl_v (o_move rfl) rfl ?_
      refine wl_on rfl rfl h13 ?_
      refine wl_v (o_eq rfl rfl) rfl ?_
      refine wl_v (o_pick_f rfl h13 rfl) rfl ?_
      refine wl_v (o_move rfl) rfl ?_
      refine bsplit (decide ((c) = (95))) (fun h14 => ?_) (fun h14 => ?_)
      ·have g14 := h14; try simp only [decide_eq_true_eq, decide_eq_false_iff_not] at g14
       have f14 := h14; try simp only [decide_eq_true_eq, decide_eq_false_iff_not, Bool.and_eq_true, Bool.or_eq_true, Bool.not_eq_true', Bool.not_eq_false', Bool.and_eq_false_iff, Bool.or_eq_false_iff, not_or, Int.not_lt, Int.not_le] at f14
       refine wl_off rfl rfl h14 rfl ?_
       refine wl_off rfl rfl h14 rfl ?_
       refine wl_v (o_pick_t rfl h14 rfl) rfl ?_
       refine wl_v (o_move rfl) rfl ?_
       refine wl_off rfl rfl rfl rfl ?_
       refine wl_off rfl rfl rfl rfl ?_
       refine wl_v (o_pick_t rfl rfl rfl) rfl ?_
       refine wl_v (o_move rfl) rfl ?_
       refine wl_off rfl rfl rfl rfl ?_
       refine wl_off rfl rfl rfl rfl ?_
       refine wl_v (o_pick_t rfl rfl rfl) rfl ?_
       refine wl_v (o_assign rfl) rfl ?_
       refine wl_nil ?_
       exact wk_then (wk_mid trivial ⟨fb (by first | (simp only [h5, h6, h7, h13, h14, Bool.true_and, Bool.false_and, Bool.true_or, Bool.false_or, Bool.and_true, Bool.and_false, Bool.or_true, Bool.or_false, Bool.not_true, Bool.not_false, cond_true, cond_false, if_true, if_false, reduceIte, Bool.false_eq_true]; done) | (simp only [Bool.true_and, Bool.false_and, Bool.true_or, Bool.false_or, Bool.and_true, Bool.and_false, Bool.or_true, Bool.or_false, Bool.not_true, Bool.not_false, cond_true, cond_false, if_true, if_false, reduceIte, Bool.false_eq_true]; done) | simp [h5, h6, h7, h13, h14]), trivial⟩ .slnil)
      ·have g14 := h14; try simp only [decide_eq_true_eq, decide_eq_false_iff_not] at g14
       have f14 := h14; try simp only [decide_eq_true_eq, decide_eq_false_iff_not, Bool.and_eq_true, Bool.or_eq_true, Bool.not_eq_true', Bool.not_eq_false', Bool.and_eq_false_iff, Bool.or_eq_false_iff, not_or, Int.not_lt, Int.not_le] at f14
       refine wl_on rfl rfl h14 ?_
       refine wl_v (o_move rfl) rfl ?_
       refine wl_on rfl rfl h14 ?_
       refine wl_v (o_eq rfl rfl) rfl ?_
       refine wl_v (o_pick_f rfl h14 rfl) rfl ?_
       refine wl_v (o_move rfl) rfl ?_
       refine bsplit (decide ((c) = (46))) (fun h15 => ?_) (fun h15 => ?_)
       ·have g15 := h15; try simp only [decide_eq_true_eq, decide_eq_false_iff_not] at g15
        have f15 := h15; try simp only [decide_eq_true_eq, decide_eq_false_iff_not, Bool.and_eq_true, Bool.or_eq_true, Bool.not_eq_true', Bool.not_eq_false', Bool.and_eq_false_iff, Bool.or_eq_false_iff, not_or, Int.not_lt, Int.not_le] at f15
        refine wl_off rfl rfl h15 rfl ?_
        refine wl_off rfl rfl h15 rfl ?_
        refine wl_v (o_pick_t rfl h15 rfl) rfl ?_
        refine wl_v (o_move rfl) rfl ?_
        refine wl_off rfl rfl rfl rfl ?_
        refine wl_off rfl rfl rfl rfl ?_
        refine wl_v (o_pick_t rfl rfl rfl) rfl ?_
        refine wl_v (o_assign rfl) rfl ?_
        refine wl_nil ?_
        exact wk_then (wk_mid trivial ⟨fb (by first | (simp only [h5, h6, h7, h13, h14, h15, Bool.true_and, Bool.false_and, Bool.true_or, Bool.false_or, Bool.and_true, Bool.and_false, Bool.or_true, Bool.or_false, Bool.not_true, Bool.not_false, cond_true, cond_false, if_true, if_false, reduceIte, Bool.false_eq_true]; done) | (simp only [Bool.true_and, Bool.false_and, Bool.true_or, Bool.false_or, Bool.and_true, Bool.and_false, Bool.or_true, Bool.or_false, Bool.not_true, Bool.not_false, cond_true, cond_false, if_true, if_false, reduceIte, Bool.false_eq_true]; done) | simp [h5, h6, h7, h13, h14, h15]), trivial⟩ .slnil)
       ·have g15 := h15; try simp only [decide_eq_true_eq, decide_eq_false_iff_not] at g15
        have f15 := h15; try simp only [decide_eq_true_eq, decide_eq_false_iff_not, Bool.and_eq_true, Bool.or_eq_true, Bool.not_eq_true', Bool.not_eq_false', Bool.and_eq_false_iff, Bool.or_eq_false_iff, not_or, Int.not_lt, Int.not_le] at f15
        refine wl_on rfl rfl h15 ?_
        refine wl_v (o_move rfl) rfl ?_
        refine wl_on rfl rfl h15 ?_
        refine wl_v (o_eq rfl rfl) rfl ?_
        refine wl_v (o_pick_f rfl h15 rfl) rfl ?_
        refine wl_v (o_move rfl) rfl ?_
        refine bsplit (decide ((c) = (58))) (fun h16 => ?_) (fun h16 => ?_)
        ·have g16 := h16; try simp only [decide_eq_true_eq, decide_eq_false_iff_not] at g16
         have f16 := h16; try simp only [decide_eq_true_eq, decide_eq_false_iff_not, Bool.and_eq_true, Bool.or_eq_true, Bool.not_eq_true', Bool.not_eq_false', Bool.and_eq_false_iff, Bool.or_eq_false_iff, not_or, Int.not_lt, Int.not_le] at f16
         refine wl_off rfl rfl h16 rfl ?_
         refine wl_off rfl rfl h16 rfl ?_
         refine wl_v (o_pick_t rfl h16 rfl) rfl ?_
         refine wl_v (o_assign rfl) rfl ?_
         refine wl_nil ?_
         exact wk_then (wk_mid trivial ⟨fb (by first | (simp only [h5, h6, h7, h13, h14, h15, h16, Bool.true_and, Bool.false_and, Bool.true_or, Bool.false_or, Bool.and_true, Bool.and_false, Bool.or_true, Bool.or_false, Bool.not_true, Bool.not_false, cond_true, cond_false, if_true, if_false, reduceIte, Bool.false_eq_true]; done) | (simp only [Bool.true_and, Bool.false_and, Bool.true_or, Bool.false_or, Bool.and_true, Bool.and_false, Bool.or_true, Bool.or_false, Bool.not_true, Bool.not_false, cond_true, cond_false, if_true, if_false, reduceIte, Bool.false_eq_true]; done) | simp [h5, h6, h7, h13, h14, h15, h16]), trivial⟩ .slnil)
        ·have g16 := h16; try simp only [decide_eq_true_eq, decide_eq_false_iff_not] at g16
         have f16 := h16; try simp only [decide_eq_true_eq, decide_eq_false_iff_not, Bool.and_eq_true, Bool.or_eq_true, Bool.not_eq_true', Bool.not_eq_false', Bool.and_eq_false_iff, Bool.or_eq_false_iff, not_or, Int.not_lt, Int.not_le] at f16
         refine wl_on rfl rfl h16 ?_
         refine wl_v (o_move rfl) rfl ?_
         refine wl_on rfl rfl h16 ?_
         refine wl_v (o_eq rfl rfl) rfl ?_
         refine wl_v (o_pick_f rfl h16 rfl) rfl ?_
         refine wl_v (o_assign rfl) rfl ?_
         refine wl_nil ?_
         exact wk_then (wk_mid trivial ⟨fb (by first | (simp only [h5, h6, h7, h13, h14, h15, h16, Bool.true_and, Bool.false_and, Bool.true_or, Bool.false_or, Bool.and_true, Bool.and_false, Bool.or_true, Bool.or_false, Bool.not_true, Bool.not_false, cond_true, cond_false, if_true, if_false, reduceIte, Bool.false_eq_true]; done) | (simp only [Bool.true_and, Bool.false_and, Bool.true_or, Bool.false_or, Bool.and_true, Bool.and_false, Bool.or_true, Bool.or_false, Bool.not_true, Bool.not_false, cond_true, cond_false, if_true, if_false, reduceIte, Bool.false_eq_true]; done) | simp [h5, h6, h7, h13, h14, h15, h16]), trivial⟩ .slnil)
 refine wc_ret ?_
 refine wk_ret (r_1 rfl rfl) ?_
 exact retv (by simp only [letterS]; by_cases h : 65 ≤ c <;> simp [h, Bool.or_assoc])

theorem id_c (p : List UInt8) (w : World) : Calls Tryz.prog 79 [.string (B p)].toArray w (RetV w (.bool (idS p))) := by
 refine enter0 (n := 21) Tryz.func79 rfl Tryz.ntmps79 rfl ?_
 refine wc_seq ?_
 refine wc_region ?_
 refine wl_v (o_assign rfl) rfl ?_
 refine wl_nil ?_
 refine wk_then (wc_of_wk ?_)
 refine wc_seq ?_
 refine wc_seq ?_
 refine wc_region ?_
 refine wl_v (o_move rfl) rfl ?_
 refine w_range_s Tryz.underlying9 rfl rfl (fun b38 => ?_)
 refine wl_nil ?_
 refine wk_then (wc_of_wk ?_)
 refine wc_block ?_
 refine wc_loop (S := Nat) (fun (k : Nat) => k ≤ p.length ∧ allFrom idCh 0 p = allFrom idCh k (p.drop k)) (fun (k : Nat) => [(0, .string (B (p))), (2, .bool (false)), (6, .pointer (some ⟨b38, 0, none⟩))]) (fun (k : Nat) => [.blk b38 (.stringIter (B p) (k))]) (fun (k : Nat) => p.length - k) (0) ?_ ⟨rfl, rfl, rfl, trivial⟩ (.cons_cons _ (.slnil)) ?_
 ·exact ⟨Nat.zero_le _, by simp⟩
 rintro k hi0
 refine wc_seq ?_
 refine wc_region ?_
 refine w_next_s (i := 0) rfl rfl rfl (fun hend => ?_) (fun u39 c40 wd41 hu39 hlu39 hhu39 hwu39 => ?_)
 ·refine wl_v (o_extract rfl rfl) rfl ?_
  refine wl_nil ?_
  refine wk_then (wc_of_wk ?_)
  refine wc_seq ?_
  refine wc_cond_f rfl rfl ?_
  refine wc_exit ?_
  refine wk_then_exit ?_
  refine wk_then_exit ?_
  refine wk_in_hit ?_
  refine wk_then (wc_of_wk ?_)
  refine wc_seq_mid [(2, .bool (((decide ((1) ≤ ((p.length : Int)))) && (decide (((p.length : Int)) ≤ (64))))))] [.blk b38 (.stringIter (B p) (k))] (φ := True) ?_ (fun hm42 => ?_)
  ·refine wc_region ?_
   refine wl_v (o_move rfl) rfl ?_
   refine wl_v (o_len_s Tryz.underlying9 rfl) rfl ?_
   refine wl_v (o_ge rfl rfl) rfl ?_
   refine wl_v (o_move rfl) rfl ?_
   refine bsplit (decide ((1) ≤ ((p.length : Int)))) (fun h42 => ?_) (fun h42 => ?_)
   ·have g42 := h42; try simp only [decide_eq_true_eq, decide_eq_false_iff_not] at g42
    have f42 := h42; try simp only [decide_eq_true_eq, decide_eq_false_iff_not, Bool.and_eq_true, Bool.or_eq_true, Bool.not_eq_true', Bool.not_eq_false', Bool.and_eq_false_iff, Bool.or_eq_false_iff, not_or, Int.not_lt, Int.not_le] at f42
    refine wl_on rfl rfl h42 ?_
    refine wl_v (o_move rfl) rfl ?_
    refine wl_on rfl rfl h42 ?_
    refine wl_v (o_len_s Tryz.underlying9 rfl) rfl ?_
    refine wl_on rfl rfl h42 ?_
    refine wl_v (o_le rfl rfl) rfl ?_
    refine wl_v (o_pick_t rfl h42 rfl) rfl ?_
    refine wl_v (o_assign rfl) rfl ?_
    refine wl_nil ?_
    exact wk_then (wk_mid trivial ⟨fb (by first | (simp only [h42, Bool.true_and, Bool.false_and, Bool.true_or, Bool.false_or, Bool.and_true, Bool.and_false, Bool.or_true, Bool.or_false, Bool.not_true, Bool.not_false, cond_true, cond_false, if_true, if_false, reduceIte, Bool.false_eq_true]; done) | (simp only [Bool.true_and, Bool.false_and, Bool.true_or, Bool.false_or, Bool.and_true, Bool.and_false, Bool.or_true, Bool.or_false, Bool.not_true, Bool.not_false, cond_true, cond_false, if_true, if_false, reduceIte, Bool.false_eq_true]; done) | simp [h42]), trivial⟩ (.cons_cons _ (.slnil)))
   ·have g42 := h42; try simp only [decide_eq_true_eq, decide_eq_false_iff_not] at g42
    have f42 := h42; try simp only [decide_eq_true_eq, decide_eq_false_iff_not, Bool.and_eq_true, Bool.or_eq_true, Bool.not_eq_true', Bool.not_eq_false', Bool.and_eq_false_iff, Bool.or_eq_false_iff, not_or, Int.not_lt, Int.not_le] at f42
    refine wl_off rfl rfl h42 rfl ?_
    refine wl_off rfl rfl h42 rfl ?_
    refine wl_off rfl rfl h42 rfl ?_
    refine wl_v (o_pick_f rfl h42 rfl) rfl ?_
    refine wl_v (o_assign rfl) rfl ?_
    refine wl_nil ?_
    exact wk_then (wk_mid trivial ⟨fb (by first | (simp only [h42, Bool.true_and, Bool.false_and, Bool.true_or, Bool.false_or, Bool.and_true, Bool.and_false, Bool.or_true, Bool.or_false, Bool.not_true, Bool.not_false, cond_true, cond_false, if_true, if_false, reduceIte, Bool.false_eq_true]; done) | (simp only [Bool.true_and, Bool.false_and, Bool.true_or, Bool.false_or, Bool.and_true, Bool.and_false, Bool.or_true, Bool.or_false, Bool.not_true, Bool.not_false, cond_true, cond_false, if_true, if_false, reduceIte, Bool.false_eq_true]; done) | simp [h42]), trivial⟩ (.cons_cons _ (.slnil)))
  refine wc_ret ?_
  refine wk_ret (r_1 rfl rfl) ?_
  exact retv (by rw [id_yes hi0 hend])
 ·refine wl_v (o_extract rfl rfl) rfl ?_
  refine wl_nil ?_
  refine wk_then (wc_of_wk ?_)
  refine wc_seq ?_
  refine wc_cond_t rfl rfl ?_
  refine wc_skip ?_
  refine wk_then (wc_of_wk ?_)
  refine wc_block ?_
  refine wc_seq ?_
  refine wc_region ?_
  refine wl_v (o_extract rfl rfl) rfl ?_
  refine wl_v (o_assign rfl) rfl ?_
  refine wl_nil ?_
  refine wk_then (wc_of_wk ?_)
  refine wc_seq ?_
  refine wc_region ?_
  refine wl_v (o_move rfl) rfl ?_
  refine w_call Tryz.call105 rfl (fun w hw => letter_c (c40 : Int) w) rfl ?_
  refine wl_v (o_not rfl) rfl ?_
  refine wl_nil ?_
  refine wk_then (wc_of_wk ?_)
  refine wc_cond (b := !(letterS (c40 : Int))) rfl (fun h44 => ?_) (fun h44 => ?_)
  ·have g44 := h44; try simp only [decide_eq_true_eq, decide_eq_false_iff_not] at g44
   have f44 := h44; try simp only [decide_eq_true_eq, decide_eq_false_iff_not, Bool.and_eq_true, Bool.or_eq_true, Bool.not_eq_true', Bool.not_eq_false', Bool.and_eq_false_iff, Bool.or_eq_false_iff, not_or, Int.not_lt, Int.not_le] at f44
   refine wc_seq ?_
   refine wc_region ?_
   refine wl_v (o_assign rfl) rfl ?_
   refine wl_nil ?_
   refine wk_then (wc_of_wk ?_)
   refine wc_ret ?_
   refine wk_in_ret ?_
   refine wk_then_ret ?_
   refine wk_in_ret ?_
   refine wk_then_ret ?_
   refine wk_ret (r_1 rfl rfl) ?_
   exact retv (by rw [id_no hi0 hu39 hlu39 hhu39 h44])
  ·have g44 := h44; try simp only [decide_eq_true_eq, decide_eq_false_iff_not] at g44
   have f44 := h44; try simp only [decide_eq_true_eq, decide_eq_false_iff_not, Bool.and_eq_true, Bool.or_eq_true, Bool.not_eq_true', Bool.not_eq_false', Bool.and_eq_false_iff, Bool.or_eq_false_iff, not_or, Int.not_lt, Int.not_le] at f44
   refine wc_skip ?_
   refine wk_in_norm ?_
   refine wk_then ?_
   refine wk_some (k + wd41) ?_ ⟨rfl, rfl, rfl, trivial⟩ (.cons_cons _ (.slnil))
   exact id_next hi0 hu39 hlu39 hhu39 h44

end Go.Proofs.YtjfnokmpfekniaaGreatDoor

/-
 Prefixes, suffixes, cuts: plain functions on lists of bytes. No program in sight.
-/
namespace Go.Proofs.YtjfnokmpfekniaaGreatDoor
open Go
end Go.Proofs.YtjfnokmpfekniaaGreatDoor

/-
 Walks, printed by a small program of ours (gsym.py).
-/
namespace Go.Proofs.YtjfnokmpfekniaaGreatDoor
open Go Go.RowKit
set_option linter.unusedVariables false
set_option linter.unusedSimpArgs false
set_option maxRecDepth 100000
end Go.Proofs.YtjfnokmpfekniaaGreatDoor

/-
 Decimal forms; references; children; patterns: plain functions on lists of bytes. No program in sight.
-/
namespace Go.Proofs.YtjfnokmpfekniaaGreatDoor
open Go
/-! ### The last place of a byte -/
/-! ### num.Parse -/
/-! ### ident -/
end Go.Proofs.YtjfnokmpfekniaaGreatDoor

/-
 Walks, printed by a small program of ours (gsym.py).
-/
namespace Go.Proofs.YtjfnokmpfekniaaGreatDoor
open Go Go.RowKit
set_option linter.unusedVariables false
set_option linter.unusedSimpArgs false
set_option maxRecDepth 100000
theorem format_c (m : Int) (h0 : -9223372036854775808 ≤ m) (h1 : m ≤ 9223372036854775807) (w : World) (hE : Env w) : Calls Tryz.prog 67 [.int .i64 (m)].toArray w (RetV w (.string (B (Lib.itoa m)))) := by
 refine enter0 (n := 5) Tryz.func67 rfl Tryz.ntmps67 rfl ?_
 refine wc_seq ?_
 refine wc_region ?_
 refine wl_v (o_assign rfl) rfl ?_
 refine wl_nil ?_
 refine wk_then (wc_of_wk ?_)
 refine wc_seq ?_
 refine wc_region ?_
 refine wl_v (o_move rfl) rfl ?_
 refine w_call Tryz.call89 rfl (fun w hw => itoa_c m (by omega) (by omega) w (hE.st0 hw)) rfl ?_
 refine wl_v (o_assign rfl) rfl ?_
 refine wl_nil ?_
 refine wk_then (wc_of_wk ?_)
 refine wc_ret ?_
 refine wk_ret (r_1 rfl rfl) ?_
 exact retv (by first | rfl | simp [])

end Go.Proofs.YtjfnokmpfekniaaGreatDoor

/-
 Contracts of the library at this translation, in plain words (lay-plain.mjs), those that are used here.
-/
namespace Go.Proofs
open Go.Shelf
def Tryz.lays169_ren : Go.Shelf.Ren := ⟨fun | 169 => 88 | n => n, fun | 70 => 110 | 9 => 9 | 0 => 0 | 72 => 112 | 37 => 94 | 127 => 150 | 3 => 3 | 5 => 5 | n => n, fun | n => n⟩

theorem Tryz.lays169 : Go.Proofs.Lays.n169 Tryz.prog Tryz.lays169_ren := {
 mixed := by kernel_rfl
 f169 := Tryz.func88.trans (congrArg some (by kernel_rfl))
 t0 := Tryz.underlying0
 a0 := Tryz.isAgg0
 z0 := Tryz.sizeOf0
 v0 := Tryz.zeroValue0
 t3 := Tryz.underlying3
 a3 := Tryz.isAgg3
 z3 := Tryz.sizeOf3
 v3 := Tryz.zeroValue3
 t9 := Tryz.underlying9
 a9 := Tryz.isAgg9
 z9 := Tryz.sizeOf9
 v9 := Tryz.zeroValue9
 t37 := Tryz.underlying94
 a37 := Tryz.isAgg94
 z37 := Tryz.sizeOf94
 v37 := Tryz.zeroValue94
 t70 := Tryz.underlying110
 a70 := Tryz.isAgg110
 z70 := Tryz.sizeOf110
 v70 := Tryz.zeroValue110
 t72 := Tryz.underlying112
 a72 := Tryz.isAgg112
 z72 := Tryz.sizeOf112
 v72 := Tryz.zeroValue112
 t127 := Tryz.underlying150
 a127 := Tryz.isAgg150
 z127 := Tryz.sizeOf150
 v127 := Tryz.zeroValue150 }

theorem Tryz.Builder_Extra_169 : Builder.Extra Tryz.prog Tryz.lays169_ren := {
 sizeBuilder := by kernel_rfl
 liesBuilder := by kernel_rfl
 t5 := Tryz.underlying5
 a5 := Tryz.isAgg5
 z5 := Tryz.sizeOf5
 v5 := Tryz.zeroValue5
 infoByte := by kernel_rfl
 cellsByte := by kernel_rfl
 sizeByte := by kernel_rfl
 neB5 := by decide }

open Go.RowKit in
theorem Tryz.Builder_String_any (B b : Nat) (l : List UInt8) (w : World) (h : Lib.IsBuilder 112 5 B b (Lib.byteCells l) w) (hBw : B ≤ w.heap.size) :
  Calls Tryz.prog 88 #[.pointer (some ⟨b, 0, none⟩)] w fun e w' => e = .returned (.string ⟨l.toArray⟩) ∧ Below B w w' := Any.Builder_String_any Tryz.lays169 Tryz.Builder_Extra_169 B b l w h hBw

def Tryz.lays138_ren : Go.Shelf.Ren := ⟨fun | 138 => 164 | 195 => 174 | 218 => 175 | 143 => 176 | 219 => 183 | 217 => 186 | 225 => 187 | 224 => 188 | 267 => 189 | 266 => 190 | 314 => 191 | n => n, fun | 9 => 9 | 3 => 3 | 4 => 4 | 5 => 5 | 0 => 0 | 46 => 109 | 146 => 210 | 51 => 116 | n => n, fun | 1 => 3 | n => n⟩

theorem Tryz.lays138 : Go.Proofs.Lays.n138 Tryz.prog Tryz.lays138_ren := {
 mixed := by kernel_rfl
 f138 := Tryz.func164.trans (congrArg some (by kernel_rfl))
 f143 := Tryz.func176.trans (congrArg some (by kernel_rfl))
 f195 := Tryz.func174.trans (congrArg some (by kernel_rfl))
 f217 := Tryz.func186.trans (congrArg some (by kernel_rfl))
 f218 := Tryz.func175.trans (congrArg some (by kernel_rfl))
 f219 := Tryz.func183.trans (congrArg some (by kernel_rfl))
 f224 := Tryz.func188.trans (congrArg some (by kernel_rfl))
 f225 := Tryz.func187.trans (congrArg some (by kernel_rfl))
 f266 := Tryz.func190.trans (congrArg some (by kernel_rfl))
 f267 := Tryz.func189.trans (congrArg some (by kernel_rfl))
 f314 := Tryz.func191.trans (congrArg some (by kernel_rfl))
 t0 := Tryz.underlying0
 a0 := Tryz.isAgg0
 z0 := Tryz.sizeOf0
 v0 := Tryz.zeroValue0
 t3 := Tryz.underlying3
 a3 := Tryz.isAgg3
 z3 := Tryz.sizeOf3
 v3 := Tryz.zeroValue3
 t4 := Tryz.underlying4
 a4 := Tryz.isAgg4
 z4 := Tryz.sizeOf4
 v4 := Tryz.zeroValue4
 t5 := Tryz.underlying5
 a5 := Tryz.isAgg5
 z5 := Tryz.sizeOf5
 v5 := Tryz.zeroValue5
 t9 := Tryz.underlying9
 a9 := Tryz.isAgg9
 z9 := Tryz.sizeOf9
 v9 := Tryz.zeroValue9
 t46 := Tryz.underlying109
 a46 := Tryz.isAgg109
 z46 := Tryz.sizeOf109
 v46 := Tryz.zeroValue109
 t51 := Tryz.underlying116
 a51 := Tryz.isAgg116
 z51 := Tryz.sizeOf116
 v51 := Tryz.zeroValue116
 t146 := Tryz.underlying210
 a146 := Tryz.isAgg210
 z146 := Tryz.sizeOf210
 v146 := Tryz.zeroValue210
 g1 := by kernel_rfl }

open Go.RowKit Go.Lib in
theorem Tryz.strings_Count_one (s : ByteArray) (c : UInt8) (w : World) :
  Calls Tryz.prog 164 #[.string s, .string ⟨#[c]⟩] w fun e w' => e = .returned (.int .i64 (Lib.countByte s.data.toList c)) ∧ w' = w := Any.strings_Count_one Tryz.lays138 s c w
end Go.Proofs

/-
 The library's contracts, and num's, in the words of the calculus. Plain theorems over the seat's program; no condition.
-/
namespace Go.Proofs.YtjfnokmpfekniaaGreatDoor.Q
open Go Go.RowKit
set_option linter.unusedVariables false
def GE (Z : Fz) : Prop := ∀ w, Frz Z w → Env w
theorem GE.mono {Z Z' : Fz} (h : Fz.le Z Z') (hg : GE Z) : GE Z' := fun w hw => hg w (fun b o e => hw b o (h b o e))
theorem Fn0.rle {P : Program} {E : Fz → Prop} {f : FuncId} {args : List Rp} {r r' : Rp} (h : Fn0 P E f args r) (hr : Rle r r') : Fn0 P E f args r' := fun w Z vs hv hs =>
 (h w Z vs hv hs).mono fun e w' ⟨q, v, H, Z', he, ⟨hq, hH⟩, hp, ht⟩ => ⟨r', v, H, Z', he, ⟨rfl, hH⟩, hr Z' v (hq ▸ hp), ht⟩
theorem Fn0.of_id {P : Program} {E : Fz → Prop} {f : FuncId} {vs : List Value} {v : Value} (h : ∀ w, Calls P f vs.toArray w (fun e w' => e = .returned v ∧ w' = w)) : Fn0 P E f (vs.map rv) (rv v) :=
 Fn0.of_old fun w Z _ _ => (h w).mono fun e w' ⟨he, hw⟩ => ⟨he, by rw [hw]; exact Proofs.YtjfnokmpfekniaaGreatDoor.St.refl w []⟩
theorem format_q (m : Int) (g : inK .i64 m = true) : Fn0 Tryz.prog GE 67 [rI .i64 m] (rS (Lib.itoa m)) := Fn0.of_old (vs := [.int .i64 m]) fun w Z hf he => format_c m (inK_i64 g).1 (inK_i64 g).2 w (he w hf)
theorem itoa_q (m : Int) (g : inK .i64 m = true) : Fn0 Tryz.prog GE 89 [rI .i64 m] (rS (Lib.itoa m)) := Fn0.of_old (vs := [.int .i64 m]) fun w Z hf he => itoa_c m (inK_i64 g).1 (inK_i64 g).2 w (he w hf)
theorem count_q (s : Str) (c : UInt8) : Fn0 Tryz.prog GE 164 [rS s, rS [c]] (rI .i64 (Lib.countByte s c)) := Fn0.of_id (vs := [.string (B s), .string (B [c])]) fun w => by have := Tryz.strings_Count_one (B s) c w; rwa [B_data] at this
theorem id_q (s : Str) : Fn0 Tryz.prog GE 79 [rS s] (rB (idS s)) := Fn0.of_old (vs := [.string (B s)]) fun w Z hf he => id_c s w
end Go.Proofs.YtjfnokmpfekniaaGreatDoor.Q

/-
 A strings.Builder of one's own: its entry, the operations of its methods; closures called; texts made of bytes. Plain theorems over any program; no condition.
-/
namespace Go.Proofs.YtjfnokmpfekniaaGreatDoor.Q
open Go Go.RowKit
set_option linter.unusedVariables false
set_option linter.unusedSimpArgs false
theorem toI_cells (l : List UInt8) : ((toI l).map eI_u8).flatten = (l.map fun c => Value.int .u8 c.toNat).map rv := by
 induction l with
 | nil => rfl
 | cons c r ih => simp only [toI, List.map_cons, List.flatten_cons] at ih ⊢; rw [ih]; rfl
theorem toI_len (l : List UInt8) : (toI l).length = l.length := by simp [toI]
section
variable {P : Program} {n : Nat} {c : Cx} {ops : Array Oper} {Q : Exit → Act → World → Prop} {rest : List Oper} {l : Fr} {H H' : List Ent} {d : Nat} {d' : Option Nat} {x y z3 : Operand} {ty t t' e : TypeId} {pos : String} {af : Array Edge} {g : Option (Nat × Bool)} {v u : Value} {r : Rp} {sz : Nat} {K : Act → World → Prop}
theorem Fn.bld {E : Fz → Prop} {f : FuncId} {args : List Rp} {T te : TypeId} {b : Nat} {v : Value} {s s' : List UInt8} {res : Rp}
  (h : ∀ p, (p = .pointer none ∨ p = .pointer (some ⟨b, 0, none⟩)) → Fn P E f args [.blk b [rv p, rv v] T, .row v te 1 ((toI s).map eI_u8)] (fun R H => ∃ w0 : Value, R = res ∧ H = [.blk b [rv (.pointer (some ⟨b, 0, none⟩)), rv w0] T, .row w0 te 1 ((toI s').map eI_u8)])) :
  Fn P E f args [.bld T te b v s] (fun R H => ∃ w0 : Value, R = res ∧ H = [.bld T te b w0 s']) := fun w Z vs hv hs => by
 obtain ⟨p, hp, h1, h2, h3⟩ := hs.has _ (List.mem_singleton.2 rfl)
 have hfoot : [Ent.bld T te b v s].flatMap Ent.foot = [Ent.blk b [rv p, rv v] T, Ent.row v te 1 ((toI s).map eI_u8)].flatMap Ent.foot := by simp [Ent.foot]
 have hs' : St ⟨w, Z, [Ent.blk b [rv p, rv v] T, Ent.row v te 1 ((toI s).map eI_u8)].flatMap Ent.foot, E⟩ [Ent.blk b [rv p, rv v] T, Ent.row v te 1 ((toI s).map eI_u8)] Z w := by
  refine ⟨rfl, rfl, rfl, Nat.le_refl _, fun _ _ _ => rfl, ?_, fun e he k hk => .inr (List.mem_flatMap.2 ⟨e, he, hk⟩), ?_, hs.frz, Fz.le.refl _, fun _ _ e => .inl e, fun e he k hk => ?_, hs.env, hs.emono⟩
  ·intro e he
   simp only [List.mem_cons, List.not_mem_nil, or_false] at he
   rcases he with rfl | rfl
   ·exact ⟨[p, v], h1, rfl, rfl, trivial⟩
   ·refine ⟨fun cl hcl => by obtain ⟨z, _, rfl⟩ := List.mem_map.1 hcl; rfl, _, by simpa [toI_len] using h2, ?_⟩
    rw [toI_cells]; exact RpAll.rvs Z _
  ·refine List.pairwise_cons.2 ⟨fun e he k hk hk' => ?_, List.pairwise_singleton ..⟩
   simp only [List.mem_singleton] at he; subst he
   simp only [Ent.foot, List.mem_singleton] at hk; subst hk
   simp only [Ent.foot, Option.mem_toList] at hk'
   exact h3 hk'
  ·have hmem : k ∈ [Ent.bld T te b v s].flatMap Ent.foot := by rw [hfoot]; exact List.mem_flatMap.2 ⟨e, he, hk⟩
   obtain ⟨e', he', hk'⟩ := List.mem_flatMap.1 hmem
   exact hs.zdis e' he' k hk'
 rw [hfoot] at hs ⊢
 refine (h p hp w Z vs hv hs').mono fun e w' ⟨R, vv, H, Z', he, ⟨w0, hR, hH⟩, hpR, ht⟩ => ⟨R, vv, [.bld T te b w0 s'], Z', he, ⟨w0, hR, rfl⟩, hpR, ?_⟩
 subst hH
 obtain ⟨us, k1, k2⟩ := ht.has (.blk b [rv (.pointer (some ⟨b, 0, none⟩)), rv w0] T) (by simp)
 obtain ⟨k3, ws, k4, k5⟩ := ht.has (.row w0 te 1 ((toI s').map eI_u8)) (by simp)
 have e1 := RpAll.eq_rv (us := [.pointer (some ⟨b, 0, none⟩), w0]) k2
 subst e1
 rw [toI_cells] at k5
 have e2 := RpAll.eq_rv k5
 subst e2
 have hd := List.pairwise_cons.1 ht.dis
 have hne : w0.ownBlock ≠ some b := fun hb => hd.1 _ (List.mem_singleton.2 rfl) b (by simp [Ent.foot]) (by simp [Ent.foot, hb])
 refine { ht with has := ?_, own := ?_, dis := List.pairwise_singleton .., zdis := ?_ }
 ·intro e' he'; simp only [List.mem_singleton] at he'; subst he'
  exact ⟨_, .inr rfl, k1, by simpa [toI_len] using k4, hne⟩
 ·intro e' he' k hk; simp only [List.mem_singleton] at he'; subst he'
  simp only [Ent.foot, List.mem_cons] at hk
  rcases hk with rfl | hk
  ·exact ht.own (.blk k [rv (.pointer (some ⟨k, 0, none⟩)), rv w0] T) (by simp) k (by simp [Ent.foot])
  ·exact ht.own (.row w0 te 1 ((toI s').map eI_u8)) (by simp) k hk
 ·intro e' he' k hk; simp only [List.mem_singleton] at he'; subst he'
  simp only [Ent.foot, List.mem_cons] at hk
  rcases hk with rfl | hk
  ·exact ht.zdis (.blk k [rv (.pointer (some ⟨k, 0, none⟩)), rv w0] T) (by simp) k (by simp [Ent.foot])
  ·exact ht.zdis (.row w0 te 1 ((toI s').map eI_u8)) (by simp) k hk
/-! ### Pointers -/
theorem o_pnil_ne {p : Addr} (hu : ∃ e', P.underlying t = some (.pointer e')) (hx : ev l x = some (rv (.pointer (some p)))) : ORun P n c l H { dst := d', op := .binOp .neq t x (.const (.pointer none)) t', type := ty, pos := pos, after := af, guard := g } (rB true) := fun a w Z ha _ => o_mk <| by
 obtain ⟨e', hu⟩ := hu
 have h1 : ∀ dd : Nat, (Op.equalIn (dd + 1) t (.pointer (some p)) (.pointer none)).run P w = .ok false w := fun dd => by simp [Op.equalIn, run_underlying hu]
 have h2 : (Op.equal t (.pointer (some p)) (.pointer none)).run P w = .ok false w := h1 9999
 have h3 : (eqGuard .neq t x (.const (.pointer none)) (.pointer (some p)) (.pointer none)).run P w = .ok () w := by unfold eqGuard; split <;> simp
 have hy : a.eval (.const (.pointer none)) = .pointer none := rfl
 simp only [execOp, ha.eval hx, hy, Sem.run_bind, h3, Result.andThen_ok, binOp, h2, Sem.run_pure]
 rfl
section
variable {P : Program} {n : Nat} {c : Cx} {l : Fr} {H : List Ent} {d' : Option Nat} {x : Operand} {ty t t' e : TypeId} {pos : String} {af : Array Edge} {g : Option (Nat × Bool)} {v : Value}
theorem o_b2s_nil (hs : P.underlying t = some (.slice e)) (hd : P.underlying t' = some .string) (he : P.underlying e = some (.int .u8)) (hx : ev l x = some (rv (.slice none 0 0))) :
  ORun P n c l H { dst := d', op := .convert t t' x, type := ty, pos := pos, after := af, guard := g } (rS []) := fun a w Z ha hw => by
 refine ⟨.string (B []), rfl, ?_⟩
 have hlx := ha.eval hx
 have := run_convert_bytes_string w t t' e none 0 0 hs he hd
 simp only [execOp, hlx]
 have e3 : (Conv.bytesToString (.slice none 0 0)).run P w = .ok (.string (B [])) w := rfl
 rw [e3] at this
 simp [this]
end
/-! ### Bytes as a text -/
/-! ### Closures -/
end
section
variable {P : Program} {n : Nat} {c : Cx} {ops : Array Oper} {Q : Exit → Act → World → Prop} {rest : List Oper} {l : Fr} {H : List Ent} {d : Nat} {ty : TypeId} {pos : String} {af : Array Edge} {r : Rp} {x y z3 : Operand}
theorem wo {d : Option Nat} {op : Op} {j dj : Nat} {want b : Bool} (hb : b = want) (h : WL P n c ops Q ({ dst := d, op := op, type := ty, pos := pos, after := af, guard := none } :: rest) l H) (hj : gslot ops j = some dj := by rfl) (hv : look l dj = some (rB b) := by rfl) :
  WL P n c ops Q ({ dst := d, op := op, type := ty, pos := pos, after := af, guard := some (j, want) } :: rest) l H := wl_on hj hv hb h
theorem wf {op : Op} {j dj : Nat} {want b : Bool} (hb : b = !want) (h : WL P n c ops Q rest ((d, rv undef) :: l) H) (hj : gslot ops j = some dj := by rfl) (hv : look l dj = some (rB b) := by rfl) (hn : Nat.blt d n = true := by rfl) :
  WL P n c ops Q ({ dst := some d, op := op, type := ty, pos := pos, after := af, guard := some (j, want) } :: rest) l H := wl_off hj hv hb hn h
theorem wu {op : Op} {j dj : Nat} {want : Bool} (h : WL P n c ops Q rest ((d, rv undef) :: l) H) (hj : gslot ops j = some dj := by rfl) (hv : look l dj = some (rv undef) := by rfl) (hn : Nat.blt d n = true := by rfl) :
  WL P n c ops Q ({ dst := some d, op := op, type := ty, pos := pos, after := af, guard := some (j, want) } :: rest) l H := wl_off_u hj hv hn h
theorem wv {op : Op} (hr : ORun P n c l H { dst := some d, op := op, type := ty, pos := pos, after := af, guard := none } r) (h : WL P n c ops Q rest ((d, r) :: l) H) (hn : Nat.blt d n = true := by rfl) : WL P n c ops Q ({ dst := some d, op := op, type := ty, pos := pos, after := af, guard := none } :: rest) l H := wl_v hr hn h
theorem wm (h : ev l x = some r) (hk : WL P n c ops Q rest ((d, r) :: l) H) (hn : Nat.blt d n = true := by rfl) : WL P n c ops Q ({ dst := some d, op := .move x, type := ty, pos := pos, after := af, guard := none } :: rest) l H := wl_v (o_move h) hn hk
theorem wa (h : ev l x = some r) (hk : WL P n c ops Q rest ((d, r) :: l) H) (hn : Nat.blt d n = true := by rfl) : WL P n c ops Q ({ dst := some d, op := .assign x, type := ty, pos := pos, after := af, guard := none } :: rest) l H := wl_v (o_assign h) hn hk
theorem wpt {b : Bool} (hc : ev l z3 = some (rB b)) (hb : b = true) (h : ev l x = some r) (hk : WL P n c ops Q rest ((d, r) :: l) H) (hn : Nat.blt d n = true := by rfl) : WL P n c ops Q ({ dst := some d, op := .pick z3 x y, type := ty, pos := pos, after := af, guard := none } :: rest) l H := wl_v (o_pick_t hc hb h) hn hk
theorem wpf {b : Bool} (hc : ev l z3 = some (rB b)) (hb : b = false) (h : ev l y = some r) (hk : WL P n c ops Q rest ((d, r) :: l) H) (hn : Nat.blt d n = true := by rfl) : WL P n c ops Q ({ dst := some d, op := .pick z3 x y, type := ty, pos := pos, after := af, guard := none } :: rest) l H := wl_v (o_pick_f hc hb h) hn hk
theorem wc0 {f : FuncId} {args : List Operand} {ats : Array TypeId} {rs : List Rp} (hcall : ∀ (as1 : Array Value) (w : World), (callFunc f as1).run P w = .ok (.enter f as1) w) (hc : Fn0 P c.E f rs r) (hv : evs l args = some rs) (h : WL P n c ops Q rest ((d, r) :: l) H) (hn : Nat.blt d n = true := by rfl) :
  WL P n c ops Q ({ dst := some d, op := .call { callee := .value (.func f), args := args.toArray, argTypes := ats }, type := ty, pos := pos, after := af, guard := none } :: rest) l H := w_call0 hcall hv hc rfl hn h
theorem wcl {f : FuncId} {args : List Operand} {ats : Array TypeId} {rs : List Rp} {Hin Hr : List Ent} {Φ : Rp → List Ent → Prop} (hcall : ∀ (as1 : Array Value) (w : World), (callFunc f as1).run P w = .ok (.enter f as1) w) (hc : Fn P c.E f rs Hin Φ) (hv : evs l args = some rs)
  (hp : H.Perm (Hin ++ Hr)) (hn : Nat.blt d n = true) (h : ∀ r Ho, Φ r Ho → WL P n c ops Q rest ((d, r) :: l) (Ho ++ Hr)) :
  WL P n c ops Q ({ dst := some d, op := .call { callee := .value (.func f), args := args.toArray, argTypes := ats }, type := ty, pos := pos, after := af, guard := none } :: rest) l H := w_call hcall hv hp hc hn h
theorem ok_c0 {opsA : Array Oper} {f : FuncId} {args : List Operand} {ats : Array TypeId} {rs : List Rp} (hcall : ∀ (as1 : Array Value) (w : World), (callFunc f as1).run P w = .ok (.enter f as1) w) (hc : Fn0 P c.E f rs r) (hv : evs l args = some rs) :
  OpOk P n c opsA Q l H { dst := some d, op := .call { callee := .value (.func f), args := args.toArray, argTypes := ats }, type := ty, pos := pos, after := af, guard := none } r H := ok_call0 hcall hv hc rfl
theorem wt {K : Exit → Act → World → Prop} {l1 : Fr} {H1 : List Ent} (hl : Sub l1 l := by repeat (first | exact Sub.nil | refine Sub.c rfl ?_)) (hH : H1.Sublist H := by repeat (first | exact sN | refine sC ?_ | refine sS ?_)) : WK n c (Exit.then (Mid n c l1 H1) K .normal) l H := wk_then (wk_mid hl hH)
theorem wtc {p : Prop} (hp : p) {K : Exit → Act → World → Prop} {l1 : Fr} {H1 : List Ent} (hl : p → Sub l1 l := by intro hp; repeat (first | exact Sub.nil | refine Sub.c rfl ?_ | refine Sub.c (by first | (simp only [hp]; rfl) | simp [hp]) ?_)) (hH : H1.Sublist H := by repeat (first | exact sN | refine sC ?_ | refine sS ?_)) : WK n c (Exit.then (Mid n c l1 H1) K .normal) l H := wk_then (wk_mid (hl hp) hH)
end
end Go.Proofs.YtjfnokmpfekniaaGreatDoor.Q

/-
 What a law is handed, read as what it stands for: the blocks of the world that is handed in are frozen. Plain theorems over any program; no condition.
-/
namespace Go.Proofs.YtjfnokmpfekniaaGreatDoor.Q
open Go Go.RowKit Go.ChangeShapes Go.Deep
set_option linter.unusedVariables false
set_option linter.unusedSimpArgs false
def ZW (W : World) : Fz := fun b => W.heap[b]?
theorem ZW.frz (W : World) : Frz (ZW W) W := fun _ _ h => h
def Opn (P : Program) (e : TypeId) {α : Type} (enc : α → List Rp) (ok : α → Bool) : Prop :=
 ∀ {H : Type} {encH : TypeId × Value → H} {W : World} {sp : Nat → Bool} {held : Bool} {n : Nat} {cs : List Value} {x : DataW H × List MemPlace}, DataW.trod encH P W 0 sp held n e cs = some x → ∃ y : α, ok y = true ∧ RpAll (ZW W) (enc y) cs
section
variable {P : Program} {e t : TypeId}
theorem Opn.int {k : IntKind} {enc : Int → List Rp} (ht : P.underlying e = some (.int k)) (he : ∀ n, enc n = [rI k n]) : Opn P e enc (inK k) := fun h => by
 obtain ⟨n, rfl, _, hwf⟩ := DataW.trod_int ht h
 exact ⟨n, hwf, by rw [he]; exact ⟨rfl, trivial⟩⟩
theorem Opn.str {enc : Str → List Rp} (ht : P.underlying e = some .string) (he : ∀ n, enc n = [rS n]) : Opn P e enc okS := fun h => by
 obtain ⟨s, rfl, _, hl⟩ := DataW.trod_string ht h
 exact ⟨s.data.toList, decide_eq_true (by rw [Array.length_toList]; exact hl), by rw [he]; exact ⟨congrArg Value.string (B_of s), trivial⟩⟩
theorem Opn.bool {enc : Bool → List Rp} (ht : P.underlying e = some .bool) (he : ∀ n, enc n = [rB n]) : Opn P e enc (fun _ => true) := fun h => by
 obtain ⟨b, rfl, _⟩ := DataW.trod_bool ht h
 exact ⟨b, rfl, by rw [he]; exact ⟨rfl, trivial⟩⟩
theorem cell_spot {W : World} {a : Addr} {v : Value} (h : W.cell? a = some v) : a.spot = none ∧ zcell (ZW W) a.block a.off = some v := by
 unfold World.cell? at h
 unfold zcell ZW
 cases hh : W.heap[a.block]? with
 | none => rw [hh] at h; cases h
 | some o =>
  rw [hh] at h
  cases o with
  | cells cs t fz =>
   cases hs : a.spot with
   | none => simp [hs] at h; exact ⟨rfl, h⟩
   | some _ => simp [hs] at h
  | _ => simp at h
theorem Opn.slice {α : Type} [Inhabited α] {enc : α → List Rp} {ok : α → Bool} {sz : Nat} (ht : P.underlying t = some (.slice e)) (hc : P.cellsOf e = sz) (hsz : 0 < sz) (h : Opn P e enc ok) (hlen : ∀ y, (enc y).length = sz) {enc' : List α → List Rp} (he : ∀ ys, enc' ys = [rSl sz (ys.map enc)]) :
  Opn P t enc' (fun ys => ys.all ok && decide (ys.length ≤ 9223372036854775807)) := fun {H encH W sp held n cs x} hx => by
 rcases open_slice ht hx with ⟨rfl, _⟩ | ⟨a, len, cap, m, n', D, Pl, rfl, hb, hl, hm, hmm, _, hel⟩
 ·exact ⟨[], by simp, by rw [he]; exact ⟨SlZ.nil sz _, trivial⟩⟩
 ·have hlm : len ≤ m := by rw [hmm]; split <;> omega
  have each : ∀ i, i < len → ∃ y : α, ok y = true ∧ ∃ cs', W.cells? 0 (a.add (i * sz)) sz = some cs' ∧ RpAll (ZW W) (enc y) cs' := fun i hi => by
   obtain ⟨cs', h1, h2⟩ := hel i (by omega)
   obtain ⟨y, hy, hr⟩ := h h2
   rw [hc] at h1
   exact ⟨y, hy, cs', h1, hr⟩
  obtain ⟨f, hf⟩ := choose_lt each
  refine ⟨(List.range len).map f, ?_, ?_⟩
  ·simp only [Bool.and_eq_true, List.all_eq_true, List.mem_map, List.mem_range, decide_eq_true_eq]
   refine ⟨?_, by simp; simp only [maxLen] at hm; omega⟩
   rintro _ ⟨i, hi, rfl⟩
   exact (hf i hi).1
  ·rw [he]
   refine ⟨⟨some a, cap, by simp, by simpa using hl, hm, (fun h => by cases h), fun i c hi => ?_⟩, trivial⟩
   rw [List.map_map, List.getElem?_map] at hi
   have hil : i < len := by
    cases hq : (List.range len)[i]? with
    | none => rw [hq] at hi; cases hi
    | some _ => have := (List.getElem?_eq_some_iff.1 hq).1; simpa using this
   rw [List.getElem?_range hil] at hi
   simp only [Option.map_some, Option.some.injEq, Function.comp] at hi
   subst hi
   obtain ⟨_, cs', h1, hr⟩ := hf i hil
   obtain ⟨_, hcl, hcell⟩ := World.cells?_some h1
   have hsp : a.spot = none := by
    obtain ⟨_, cs0, g1, _⟩ := hf 0 (by omega)
    obtain ⟨_, gcl, gcell⟩ := World.cells?_some g1
    have h0 := gcell 0 hsz
    rw [List.getElem?_eq_getElem (by omega)] at h0
    have := (cell_spot h0).1
    simpa [Addr.add] using this
   refine ⟨hlen _, a, rfl, hsp, fun j r hj => ?_⟩
   obtain ⟨u, hu, hp⟩ := hr.at hj
   have hjs : j < sz := by have := (List.getElem?_eq_some_iff.1 hj).1; rw [hlen] at this; exact this
   have h3 := hcell j hjs
   rw [hu] at h3
   have h4 := (cell_spot h3).2
   refine ⟨u, ?_, hp⟩
   have e1 : ((a.add (i * sz)).add j).block = a.block := by simp only [Addr.add]; split <;> split <;> rfl
   have e2 : ((a.add (i * sz)).add j).off = a.off + (i * sz + j) := by simp only [Addr.add]; split <;> split <;> simp_all <;> omega
   rw [e1, e2] at h4
   exact h4
theorem seg_nil {Z : Fz} {cs : List Value} {o : Nat} (h : cs.length = o) : RpAll Z [] (cs.drop o) := by rw [List.drop_of_length_le (by omega)]; trivial
theorem seg_cons {Z : Fz} {cs : List Value} {o s o' : Nat} {rs rs' : List Rp} (h : RpAll Z rs ((cs.drop o).take s)) (ho : o + s = o') (h2 : RpAll Z rs' (cs.drop o')) : RpAll Z (rs ++ rs') (cs.drop o) := by
 rw [← List.take_append_drop s (cs.drop o), List.drop_drop]
 subst ho
 exact h.append h2
theorem Opn.val {α : Type} {enc : α → List Rp} {ok : α → Bool} (h : Opn P e enc ok) {r : α → Rp} (he : ∀ y, enc y = [r y]) {H : Type} {encH : TypeId × Value → H} {W : World} {sp : Nat → Bool} {held : Bool} {v : Value} {d : DataW H} {ps : List MemPlace}
  (hone : v.cells = #[v]) (ht : DataW.Trod encH P W 0 sp held e v d ps) : ∃ y : α, ok y = true ∧ (r y).p (ZW W) v := by
 obtain ⟨fuel, hf⟩ := ht
 rw [hone] at hf
 obtain ⟨y, hy, hr⟩ := h hf
 rw [he] at hr
 exact ⟨y, hy, hr.1⟩
end
end Go.Proofs.YtjfnokmpfekniaaGreatDoor.Q

/-
 The row's step over the calculus of representations.
-/
namespace Go.Proofs.YtjfnokmpfekniaaGreatDoor.Q
open Go Go.RowKit
set_option linter.unusedVariables false
theorem frz_size {W w : World} (hw : Frz (ZW W) w) : W.heap.size ≤ w.heap.size := by
 rcases Nat.eq_zero_or_pos W.heap.size with h | h
 ·omega
 ·have h1 : W.heap[W.heap.size - 1]? = some (W.heap[W.heap.size - 1]'(by omega)) := Array.getElem?_eq_getElem (by omega)
  have := (Array.getElem?_eq_some_iff.1 (hw _ _ h1)).1
  omega
theorem ge_of_env {W : World} (hE : Env W) : GE (ZW W) := fun w hw => by
 have hb : Below W.heap.size W { w with os := W.os, tape := W.tape, output := W.output } := ⟨rfl, rfl, rfl, frz_size hw, fun k hk => by
  have h1 : W.heap[k]? = some (W.heap[k]'hk) := Array.getElem?_eq_getElem hk
  rw [h1]; exact hw k _ h1⟩
 have hE2 := hE.st0 (St.of_below hb)
 exact ⟨Tabs.block { w with os := W.os, tape := W.tape, output := W.output } w (fun _ _ => rfl) hE2.tabs, hE2.size⟩
theorem st_start {W : World} (hE : Env W) : St ⟨W, ZW W, [], GE⟩ [] (ZW W) W where
 os := rfl
 tape := rfl
 output := rfl
 size := Nat.le_refl _
 old := fun _ _ _ => rfl
 has := fun _ h => by cases h
 own := fun _ h => by cases h
 dis := .nil
 frz := ZW.frz W
 le := Fz.le.refl _
 new := fun _ _ h => .inl h
 zdis := fun _ h => by cases h
 env := ge_of_env hE
 emono := fun h hg => GE.mono h hg
theorem st_below {W W' : World} {Z Z' : Fz} {E : Fz → Prop} {H : List Ent} (h : St ⟨W, Z, [], E⟩ H Z' W') : Below W.heap.size W W' := ⟨h.os, h.tape, h.output, h.size, fun k hk => h.old k hk (by simp)⟩
end Go.Proofs.YtjfnokmpfekniaaGreatDoor.Q

/-
 What functions compute, with checks: plain definitions, printed by a small program of ours (gq.py). No program in sight.
-/
namespace Go.Proofs.YtjfnokmpfekniaaGreatDoor.Q
open Go
set_option linter.unusedVariables false
end Go.Proofs.YtjfnokmpfekniaaGreatDoor.Q

/-
  Walks, printed by a small program of ours (gq.py).
-/
namespace Go.Proofs.YtjfnokmpfekniaaGreatDoor.Q
open Go Go.RowKit
set_option linter.unusedVariables false
set_option linter.unusedSimpArgs false
set_option maxRecDepth 100000
set_option maxHeartbeats 4000000
end Go.Proofs.YtjfnokmpfekniaaGreatDoor.Q

/-
 What functions compute, with checks: plain definitions, printed by a small program of ours (gq.py). No program in sight.
-/
namespace Go.Proofs.YtjfnokmpfekniaaGreatDoor
open Go
set_option linter.unusedVariables false
structure TApiCell where
 fKind : Int
 fInt : Int
 fStr : Str
 fN : Int
 deriving DecidableEq, Inhabited
def rPlain_b1 (s : Str) (x22 : Int) : Option (Stp (Int) (Out (Bool) (Unit))) :=
 cnd (decide (x22 < (s.length : Int))) (chk (inR x22 (s.length : Int)) <| cnd (((decide ((bat s x22) < 32)) || (decide (126 < (bat s x22))))) (some (.out (.ret false))) (chk (inK .i64 (x22 + 1)) <| some (.next (x22 + 1)))) (some (.out (.go ())))

def rPlain_k1  : Option (Bool) :=
 some true

def rPlain (F : Nat) (s : Str) : Option (Bool) :=
 obn (lop (fun σ => rPlain_b1 s σ) F 0) (oute fun ν => rPlain_k1 )

def rAfter (ok : Bool) (i : Int) : Option (Int) :=
 cnd (ok) (chk (inK .i64 (i + 1)) <| some (i + 1)) (some (-1))

def rKey (F : Nat) (c : TApiCell) : Option (Bool) :=
 chk (imp (decide (c.fKind = 4)) (imp (decide (c.fInt = 0)) (imp (decide (c.fN = 0)) ((rPlain F c.fStr).isSome)))) <| some ((decide (c.fKind = 4)) && ((decide (c.fInt = 0)) && ((decide (c.fN = 0)) && (ov (rPlain F c.fStr)))))

def rNextm (F : Nat) (rec_rElements : (List TApiCell) → Int → Int → Option (Int)) (rec_rPairs : (List TApiCell) → Int → Int → Option (Int)) (v : (List TApiCell)) (i : Int) : Option (Int) :=
 cnd (((decide (i < 0)) || (decide ((v.length : Int) ≤ i)))) (some (-1)) (chk (inR i (v.length : Int)) <| cnd (decide (((at' v i).fKind) = 1)) (chk (imp (decide (((at' v i).fInt) = 0)) (imp (decide (((at' v i).fStr) = ([] : Str))) ((rAfter (decide (((at' v i).fN) = 0)) i).isSome))) <| chk (imp (decide (((at' v i).fInt) = 0)) (imp (!(decide (((at' v i).fStr) = ([] : Str)))) ((rAfter false i).isSome))) <| chk (imp (!(decide (((at' v i).fInt) = 0))) ((rAfter false i).isSome)) <| some (bif decide (((at' v i).fInt) = 0) then (bif decide (((at' v i).fStr) = ([] : Str)) then (ov (rAfter (decide (((at' v i).fN) = 0)) i)) else (ov (rAfter false i))) else (ov (rAfter false i)))) (cnd (decide (((at' v i).fKind) = 2)) (chk (imp (decide (((at' v i).fInt) = 0)) (imp (decide (((at' v i).fStr) = ([] : Str))) ((rAfter (decide (((at' v i).fN) = 0)) i).isSome))) <| chk (imp (decide (((at' v i).fInt) = 0)) (imp (!(decide (((at' v i).fStr) = ([] : Str)))) ((rAfter false i).isSome))) <| chk (imp (!(decide (((at' v i).fInt) = 0))) (imp (decide (((at' v i).fInt) = 1)) (imp (decide (((at' v i).fStr) = ([] : Str))) ((rAfter (decide (((at' v i).fN) = 0)) i).isSome)))) <| chk (imp (!(decide (((at' v i).fInt) = 0))) (imp (decide (((at' v i).fInt) = 1)) (imp (!(decide (((at' v i).fStr) = ([] : Str)))) ((rAfter false i).isSome)))) <| chk (imp (!(decide (((at' v i).fInt) = 0))) (imp (!(decide (((at' v i).fInt) = 1))) ((rAfter false i).isSome))) <| some (bif decide (((at' v i).fInt) = 0) then (bif decide (((at' v i).fStr) = ([] : Str)) then (ov (rAfter (decide (((at' v i).fN) = 0)) i)) else (ov (rAfter false i))) else (bif decide (((at' v i).fInt) = 1) then (bif decide (((at' v i).fStr) = ([] : Str)) then (ov (rAfter (decide (((at' v i).fN) = 0)) i)) else (ov (rAfter false i))) else (ov (rAfter false i))))) (cnd (decide (((at' v i).fKind) = 3)) (chk (imp (decide (((at' v i).fStr) = ([] : Str))) ((rAfter (decide (((at' v i).fN) = 0)) i).isSome)) <| chk (imp (!(decide (((at' v i).fStr) = ([] : Str)))) ((rAfter false i).isSome)) <| some (bif decide (((at' v i).fStr) = ([] : Str)) then (ov (rAfter (decide (((at' v i).fN) = 0)) i)) else (ov (rAfter false i)))) (cnd (decide (((at' v i).fKind) = 4)) (obn (rKey F (at' v i)) fun r46 => obn (rAfter r46 i) fun r49 => some r49) (cnd (((decide (((at' v i).fKind) = 5)) && ((decide (((at' v i).fInt) = 0)) && ((decide (((at' v i).fStr) = ([] : Str))) && (decide (0 ≤ ((at' v i).fN))))))) (chk (inK .i64 (i + 1)) <| obn (rec_rElements v (i + 1) ((at' v i).fN)) fun r60 => some r60) (cnd (((decide (((at' v i).fKind) = 6)) && ((decide (((at' v i).fInt) = 0)) && ((decide (((at' v i).fStr) = ([] : Str))) && (decide (0 ≤ ((at' v i).fN))))))) (chk (inK .i64 (i + 1)) <| obn (rec_rPairs v (i + 1) ((at' v i).fN)) fun r71 => some r71) (some (-1))))))))

def rElements_b1 (v : (List TApiCell)) (n : Int) (rec_rNext : (List TApiCell) → Int → Option (Int)) (x23 : Int) (x24 : Int) : Option (Stp (Int × Int) (Out (Int) (Int))) :=
 cnd (decide (x24 < n)) (obn (rec_rNext v x23) fun r48 => cnd (decide (r48 < 0)) (some (.out (.ret (-1)))) (chk (inK .i64 (x24 + 1)) <| some (.next (r48, x24 + 1)))) (some (.out (.go x23)))

def rElements_k1 (x36 : Int) : Option (Int) :=
 some x36

def rElementsm (F : Nat) (rec_rNext : (List TApiCell) → Int → Option (Int)) (v : (List TApiCell)) (i : Int) (n : Int) : Option (Int) :=
 obn (lop (fun σ => rElements_b1 v n rec_rNext σ.1 σ.2) F (i, 0)) (oute fun ν => rElements_k1 ν)

def rPairs_b1 (F : Nat) (v : (List TApiCell)) (n : Int) (rec_rNext : (List TApiCell) → Int → Option (Int)) (x51 : Int) (x52 : Str) (x53 : Int) : Option (Stp (Int × Str × Int) (Out (Int) (Int))) :=
 cnd (decide (x53 < n)) (chk (imp (!(decide ((v.length : Int) ≤ x51))) (inR x51 (v.length : Int))) <| chk (imp (!(decide ((v.length : Int) ≤ x51))) ((rKey F (at' v x51)).isSome)) <| cnd (((decide ((v.length : Int) ≤ x51)) || ((!(ov (rKey F (at' v x51)))) || ((decide (0 < x53)) && (sLess ((at' v x51).fStr) x52 || decide (((at' v x51).fStr) = x52)))))) (some (.out (.ret (-1)))) (chk (inR x51 (v.length : Int)) <| chk (inK .i64 (x51 + 1)) <| obn (rec_rNext v (x51 + 1)) fun r106 => cnd (decide (r106 < 0)) (some (.out (.ret (-1)))) (chk (inK .i64 (x53 + 1)) <| some (.next (r106, (at' v x51).fStr, x53 + 1))))) (some (.out (.go x51)))

def rPairs_k1 (x79 : Int) : Option (Int) :=
 some x79

def rPairsm (F : Nat) (rec_rNext : (List TApiCell) → Int → Option (Int)) (v : (List TApiCell)) (i : Int) (n : Int) : Option (Int) :=
 obn (lop (fun σ => rPairs_b1 F v n rec_rNext σ.1 σ.2.1 σ.2.2) F (i, ([] : Str), 0)) (oute fun ν => rPairs_k1 ν)

mutual
def rNext : Nat → (List TApiCell) → Int → Option (Int)
 | 0, _, _ => none
 | nn + 1, v, i => rNextm nn (rElements nn) (rPairs nn) v i

def rElements : Nat → (List TApiCell) → Int → Int → Option (Int)
 | 0, _, _, _ => none
 | nn + 1, v, i, n => rElementsm nn (rNext nn) v i n

def rPairs : Nat → (List TApiCell) → Int → Int → Option (Int)
 | 0, _, _, _ => none
 | nn + 1, v, i, n => rPairsm nn (rNext nn) v i n

end
def rFormed (F : Nat) (v : (List TApiCell)) : Option (Bool) :=
 chk (imp (decide (0 < (v.length : Int))) ((rNext F v 0).isSome)) <| some ((decide (0 < (v.length : Int))) && (decide ((ov (rNext F v 0)) = (v.length : Int))))

def rLevels_b1 (F : Nat) (v : (List TApiCell)) (i : Int) (rec_rLevels : (List TApiCell) → Int → Option (Int)) (x85 : Int) (x86 : Int) (x87 : Int) : Option (Stp (Int × Int × Int) (Out (Int) (Int))) :=
 cnd (decide (x87 < ((at' v i).fN))) (cnd (decide (((at' v i).fKind) = 6)) (chk (inK .i64 (x86 + 1)) <| obn (rec_rLevels v (x86 + 1)) fun r144 => cnd (decide (x85 < r144)) (obn (rNext F v (x86 + 1)) fun r149 => chk (inK .i64 (x87 + 1)) <| some (.next (r144, r149, x87 + 1))) (obn (rNext F v (x86 + 1)) fun r156 => chk (inK .i64 (x87 + 1)) <| some (.next (x85, r156, x87 + 1)))) (obn (rec_rLevels v x86) fun r163 => cnd (decide (x85 < r163)) (obn (rNext F v x86) fun r168 => chk (inK .i64 (x87 + 1)) <| some (.next (r163, r168, x87 + 1))) (obn (rNext F v x86) fun r175 => chk (inK .i64 (x87 + 1)) <| some (.next (x85, r175, x87 + 1))))) (some (.out (.go x85)))

def rLevels_k1 (x128 : Int) : Option (Int) :=
 chk (inK .i64 (x128 + 1)) <| some (x128 + 1)

def rLevelsm (F : Nat) (rec_rLevels : (List TApiCell) → Int → Option (Int)) (v : (List TApiCell)) (i : Int) : Option (Int) :=
 chk (inR i (v.length : Int)) <| cnd (((!decide (((at' v i).fKind) = 5)) && (!decide (((at' v i).fKind) = 6)))) (some 1) (chk (inK .i64 (i + 1)) <| obn (lop (fun σ => rLevels_b1 F v i rec_rLevels σ.1 σ.2.1 σ.2.2) F (0, i + 1, 0)) (oute fun ν => rLevels_k1 ν))

def rLevels : Nat → (List TApiCell) → Int → Option (Int)
 | 0, _, _ => none
 | nn + 1, v, i => rLevelsm nn (rLevels nn) v i

def rQuoted_b1 (s : Str) (x53 : Str) (x54 : Int) : Option (Stp (Str × Int) (Out (Str) (Str))) :=
 cnd (decide (x54 < (s.length : Int))) (chk (inR x54 (s.length : Int)) <| cnd (((decide ((bat s x54) = 34)) || (decide ((bat s x54) = 92)))) (chk (inK .i64 ((x53.length : Int) + (([92] : Str).length : Int))) <| chk (inK .i64 (x54 + 1)) <| chk (inC x54 (x54 + 1)) <| chk (inC (x54 + 1) (s.length : Int)) <| chk (inK .i64 (((x53 ++ ([92] : Str)).length : Int) + ((List.take (Int.toNat (x54 + 1) - Int.toNat x54) (List.drop (Int.toNat x54) s)).length : Int))) <| some (.next ((x53 ++ ([92] : Str)) ++ (List.take (Int.toNat (x54 + 1) - Int.toNat x54) (List.drop (Int.toNat x54) s)), x54 + 1))) (chk (inK .i64 (x54 + 1)) <| chk (inC x54 (x54 + 1)) <| chk (inC (x54 + 1) (s.length : Int)) <| chk (inK .i64 ((x53.length : Int) + ((List.take (Int.toNat (x54 + 1) - Int.toNat x54) (List.drop (Int.toNat x54) s)).length : Int))) <| some (.next (x53 ++ (List.take (Int.toNat (x54 + 1) - Int.toNat x54) (List.drop (Int.toNat x54) s)), x54 + 1)))) (some (.out (.go x53)))

def rQuoted_k1 (x82 : Str) : Option (Str) :=
 chk (inK .i64 ((x82.length : Int) + (([34] : Str).length : Int))) <| some (x82 ++ ([34] : Str))

def rQuoted (F : Nat) (s : Str) : Option (Str) :=
 obn (lop (fun σ => rQuoted_b1 s σ.1 σ.2) F (([34] : Str), 0)) (oute fun ν => rQuoted_k1 ν)

def rText_b1 (F : Nat) (v : (List TApiCell)) (i : Int) (rec_rText : (List TApiCell) → Int → Option (Str)) (x138 : Str) (x139 : Int) (x140 : Int) : Option (Stp (Str × Int × Int) (Out (Str) (Str))) :=
 cnd (decide (x140 < ((at' v i).fN))) (cnd (decide (0 < x140)) (chk (inK .i64 ((x138.length : Int) + (([44] : Str).length : Int))) <| cnd (decide (((at' v i).fKind) = 6)) (chk (inR x139 (v.length : Int)) <| obn (rQuoted F ((at' v x139).fStr)) fun r237 => chk (inK .i64 (((x138 ++ ([44] : Str)).length : Int) + (r237.length : Int))) <| chk (inK .i64 ((((x138 ++ ([44] : Str)) ++ r237).length : Int) + (([58] : Str).length : Int))) <| chk (inK .i64 (x139 + 1)) <| obn (rec_rText v (x139 + 1)) fun r246 => chk (inK .i64 (((((x138 ++ ([44] : Str)) ++ r237) ++ ([58] : Str)).length : Int) + (r246.length : Int))) <| obn (rNext F v (x139 + 1)) fun r251 => chk (inK .i64 (x140 + 1)) <| some (.next ((((x138 ++ ([44] : Str)) ++ r237) ++ ([58] : Str)) ++ r246, r251, x140 + 1))) (obn (rec_rText v x139) fun r258 => chk (inK .i64 (((x138 ++ ([44] : Str)).length : Int) + (r258.length : Int))) <| obn (rNext F v x139) fun r263 => chk (inK .i64 (x140 + 1)) <| some (.next ((x138 ++ ([44] : Str)) ++ r258, r263, x140 + 1)))) (cnd (decide (((at' v i).fKind) = 6)) (chk (inR x139 (v.length : Int)) <| obn (rQuoted F ((at' v x139).fStr)) fun r274 => chk (inK .i64 ((x138.length : Int) + (r274.length : Int))) <| chk (inK .i64 (((x138 ++ r274).length : Int) + (([58] : Str).length : Int))) <| chk (inK .i64 (x139 + 1)) <| obn (rec_rText v (x139 + 1)) fun r283 => chk (inK .i64 ((((x138 ++ r274) ++ ([58] : Str)).length : Int) + (r283.length : Int))) <| obn (rNext F v (x139 + 1)) fun r288 => chk (inK .i64 (x140 + 1)) <| some (.next (((x138 ++ r274) ++ ([58] : Str)) ++ r283, r288, x140 + 1))) (obn (rec_rText v x139) fun r295 => chk (inK .i64 ((x138.length : Int) + (r295.length : Int))) <| obn (rNext F v x139) fun r300 => chk (inK .i64 (x140 + 1)) <| some (.next (x138 ++ r295, r300, x140 + 1))))) (some (.out (.go x138)))

def rText_k1 (v : (List TApiCell)) (i : Int) (x217 : Str) : Option (Str) :=
 cnd (decide (((at' v i).fKind) = 6)) (chk (inK .i64 ((([123] : Str).length : Int) + (x217.length : Int))) <| chk (inK .i64 (((([123] : Str) ++ x217).length : Int) + (([125] : Str).length : Int))) <| some ((([123] : Str) ++ x217) ++ ([125] : Str))) (chk (inK .i64 ((([91] : Str).length : Int) + (x217.length : Int))) <| chk (inK .i64 (((([91] : Str) ++ x217).length : Int) + (([93] : Str).length : Int))) <| some ((([91] : Str) ++ x217) ++ ([93] : Str)))

def rTextm (F : Nat) (rec_rText : (List TApiCell) → Int → Option (Str)) (v : (List TApiCell)) (i : Int) : Option (Str) :=
 chk (inR i (v.length : Int)) <| cnd (decide (((at' v i).fKind) = 1)) (some ([110, 117, 108, 108] : Str)) (cnd (decide (((at' v i).fKind) = 2)) (cnd (decide (((at' v i).fInt) = 1)) (some ([116, 114, 117, 101] : Str)) (some ([102, 97, 108, 115, 101] : Str))) (cnd (decide (((at' v i).fKind) = 3)) (chk (inK .i64 ((at' v i).fInt)) <| some (Lib.itoa ((at' v i).fInt))) (cnd (decide (((at' v i).fKind) = 4)) (obn (rQuoted F ((at' v i).fStr)) fun r20 => some r20) (chk (inK .i64 (i + 1)) <| obn (lop (fun σ => rText_b1 F v i rec_rText σ.1 σ.2.1 σ.2.2) F (([] : Str), i + 1, 0)) (oute fun ν => rText_k1 v i ν)))))

def rText : Nat → (List TApiCell) → Int → Option (Str)
 | 0, _, _ => none
 | nn + 1, v, i => rTextm nn (rText nn) v i

def rCheck_b2 (v : (List TApiCell)) (x93 : Int) : Option (Stp (Int) (Out (Int) (Unit))) :=
 cnd (decide (x93 < (v.length : Int))) (chk (inR x93 (v.length : Int)) <| cnd (decide (200 < (((at' v x93).fStr).length : Int))) (some (.out (.ret 3))) (chk (inK .i64 (x93 + 1)) <| some (.next (x93 + 1)))) (some (.out (.go ())))

def rCheck_k2 (F : Nat) (v : (List TApiCell)) : Option (Int) :=
 obn (rText F v 0) fun r127 => cnd (decide (4000 < (r127.length : Int))) (some 3) (some 0)

def rCheck_b1 (v : (List TApiCell)) (x30 : Int) : Option (Stp (Int) (Out (Int) (Unit))) :=
 cnd (decide (x30 < (v.length : Int))) (chk (inR x30 (v.length : Int)) <| cnd (((decide (((at' v x30).fKind) = 3)) && ((decide (((at' v x30).fInt) < (-1000000000000))) || (decide (1000000000000 < ((at' v x30).fInt)))))) (some (.out (.ret 2))) (chk (inK .i64 (x30 + 1)) <| some (.next (x30 + 1)))) (some (.out (.go ())))

def rCheck_k1 (F : Nat) (v : (List TApiCell)) : Option (Int) :=
 chk (imp (!(decide (200 < (v.length : Int)))) ((rLevels F v 0).isSome)) <| cnd (((decide (200 < (v.length : Int))) || (decide (8 < (ov (rLevels F v 0)))))) (some 3) (obn (lop (fun σ => rCheck_b2 v σ) F 0) (oute fun ν => rCheck_k2 F v ))

def rCheck (F : Nat) (v : (List TApiCell)) : Option (Int) :=
 obn (rFormed F v) fun r1 => cnd (!r1) (some 1) (obn (lop (fun σ => rCheck_b1 v σ) F 0) (oute fun ν => rCheck_k1 F v ))

end Go.Proofs.YtjfnokmpfekniaaGreatDoor

/-
  Walks, printed by a small program of ours (gq.py).
-/
namespace Go.Proofs.YtjfnokmpfekniaaGreatDoor.Q
open Go Go.RowKit
set_option linter.unusedVariables false
set_option linter.unusedSimpArgs false
set_option maxRecDepth 100000
set_option maxHeartbeats 4000000
@[reducible] def eTApiCell (x : TApiCell) : List Rp := [rI .i64 x.fKind, rI .i64 x.fInt, rS x.fStr, rI .i64 x.fN]
theorem eTApiCell_len (x : TApiCell) : (eTApiCell x).length = 4 := rfl
theorem eTApiCell_one (x : TApiCell) : (eTApiCell x).all (·.one) = true := rfl
theorem rPlain_w (F : Nat) (s : Str) (r : Bool) (h : rPlain F s = some r) : Fn Tryz.prog GE 156 [rS s] [] (fun R H => R = rB r ∧ H = []) := by
 refine enter (n := 20) Tryz.func156 rfl Tryz.ntmps156 rfl (fun w Z => ?_)
 refine wc_as (l' := [(0, rS s)]) (H' := []) rfl rfl ?_
 unfold rPlain at h
 refine wc_sr ?_
 refine wv (r := rB false) (o_assign rfl) ?_
 refine wl_x ?_
 refine wc_seq ?_
 refine wc_sr ?_
 refine wv (r := rI .i64 0) (o_assign rfl) ?_
 refine wl_x ?_
 refine wc_block ?_
 obtain ⟨o34, eo35, hK36⟩ := obn_e h
 refine wc_loop2 (S := Nat × (Int) × (Unit)) (V := (Unit) × (Unit)) 0 (fun σ => lop (fun σ => rPlain_b1 s σ) σ.1 σ.2.1 = some o34) (fun σ => [(0, rS s), (3, rI .i64 σ.2.1)]) (fun σ => []) (fun σ => σ.1) (F, 0, ()) eo35 (Sub.c rfl (Sub.c rfl Sub.nil)) sN (fun σ => rPlain_k1  = some r) (fun σ => []) (fun σ => []) ?_ ?_
 ·rintro ⟨n42, x22, ⟨⟩⟩ hi40
  refine wc_as (l' := [(0, rS s), (3, rI .i64 x22)]) (H' := []) rfl rfl ?_
  obtain ⟨m39, rfl, t37, h41, ht38⟩ := lop_e hi40
  replace h41 : rPlain_b1 s x22 = some t37 := h41
  unfold rPlain_b1 at h41
  refine wc_seq ?_
  refine wc_sr ?_
  refine wm rfl ?_
  refine wm rfl ?_
  refine wv (o_len_s Tryz.underlying9 rfl) ?_
  refine wv (o_lt rfl rfl) ?_
  refine wl_x ?_
  refine wc_cond (b := decide (x22 < (s.length : Int))) rfl (fun c43 => ?_) (fun c43 => ?_)
  ·have h44 := cnd_t c43 h41
   refine wc_skip ?_
   refine wk_x ?_
   refine wc_seq ?_
   refine wc_block ?_
   obtain ⟨g45, h46⟩ := chk_e h44
   refine wc_seq_mid [(0, rS s), (3, rI .i64 x22), (19, rB ((decide ((bat s x22) < 32)) || (decide (126 < (bat s x22)))))] [] ?_ ?_
   ·refine wc_region ?_
    refine wm rfl ?_
    refine wm rfl ?_
    refine wv (o_index_b Tryz.underlying9 rfl rfl g45) ?_
    refine wv (o_lt rfl rfl) ?_
    refine wm rfl ?_
    refine bsplit (decide ((bat s x22) < 32)) (fun c47 => ?_) (fun c47 => ?_)
    ·refine wf c47 ?_
     refine wf c47 ?_
     refine wf c47 ?_
     refine wf c47 ?_
     refine wv (r := rB true) (o_pick_t (b := decide ((bat s x22) < 32)) rfl c47 rfl) ?_
     refine wl_nil ?_
     exact wtc c47
    ·refine wo c47 ?_
     refine wm rfl ?_
     refine wo c47 ?_
     refine wm rfl ?_
     refine wo c47 ?_
     refine wv (o_index_b Tryz.underlying9 rfl rfl g45) ?_
     refine wo c47 ?_
     refine wv (o_gt rfl rfl) ?_
     refine wpf rfl c47 rfl ?_
     refine wl_nil ?_
     exact wtc c47
   refine wc_cond (b := ((decide ((bat s x22) < 32)) || (decide (126 < (bat s x22))))) rfl (fun c48 => ?_) (fun c48 => ?_)
   ·have h49 := cnd_t c48 h46
    refine wc_sr ?_
    refine wv (r := rB false) (o_assign rfl) ?_
    refine wl_x ?_
    refine wc_ret ?_
    refine wk_in_ret ?_
    refine wk_then_ret ?_
    refine wk_then_ret ?_
    refine wk_cut_ret ?_
    have h50 := stp_ret h49 ht38 hK36
    refine wk_in_ret ?_
    refine wk_then_ret ?_
    obtain rfl := some_e h50
    exact wk_ret (r_1 Tryz.results156 (rv_t rfl)) sN ⟨rfl, rfl⟩
   ·have h51 := cnd_f c48 h46
    refine wc_skip ?_
    refine wk_in_norm ?_
    refine wk_x ?_
    refine wc_region ?_
    refine wm rfl ?_
    obtain ⟨g52, h53⟩ := chk_e h51
    refine wv (o_add rfl rfl g52) ?_
    refine wa rfl ?_
    refine wl_nil ?_
    have h54 := stp_next h53 ht38
    exact wk_then (wk_some (m39, x22 + 1, ()) ⟨h54, Nat.lt_succ_self _⟩ (Sub.c rfl (Sub.c rfl Sub.nil)) sN)
  ·have h55 := cnd_f c43 h41
   refine wc_exit ?_
   refine wk_then_exit ?_
   have h56 := stp_go h55 ht38 hK36
   exact wk_then_exit (wk_cut_hit (wk_some ((), ()) h56 Sub.nil sN))
 ·rintro ⟨⟨⟩, ⟨⟩⟩ h57
  refine wk_as (l' := []) (H' := []) rfl rfl ?_
  replace h57 : rPlain_k1  = some r := h57
  unfold rPlain_k1 at h57
  refine wk_in_hit ?_
  refine wk_x ?_
  refine wc_sr ?_
  refine wv (r := rB true) (o_assign rfl) ?_
  refine wl_x ?_
  refine wc_ret ?_
  obtain rfl := some_e h57
  exact wk_ret (r_1 Tryz.results156 (rv_t rfl)) sN ⟨rfl, rfl⟩

theorem rAfter_w (ok : Bool) (i : Int) (r : Int) (h : rAfter ok i = some r) : Fn Tryz.prog GE 127 [rB ok, rI .i64 i] [] (fun R H => R = rI .i64 r ∧ H = []) := by
 refine enter (n := 8) Tryz.func127 rfl Tryz.ntmps127 rfl (fun w Z => ?_)
 refine wc_as (l' := [(0, rB ok), (1, rI .i64 i)]) (H' := []) rfl rfl ?_
 unfold rAfter at h
 refine wc_sr ?_
 refine wv (r := rI .i64 0) (o_assign rfl) ?_
 refine wl_x ?_
 refine wc_seq ?_
 refine wc_sr ?_
 refine wm rfl ?_
 refine wl_x ?_
 refine wc_cond (b := ok) rfl (fun c1 => ?_) (fun c1 => ?_)
 ·have h2 := cnd_t c1 h
  refine wc_sr ?_
  refine wm rfl ?_
  obtain ⟨g3, h4⟩ := chk_e h2
  refine wv (o_add rfl rfl g3) ?_
  refine wa rfl ?_
  refine wl_x ?_
  refine wc_ret ?_
  refine wk_then_ret ?_
  obtain rfl := some_e h4
  exact wk_ret (r_1 Tryz.results127 (rv_t rfl)) sN ⟨rfl, rfl⟩
 ·have h5 := cnd_f c1 h
  refine wc_skip ?_
  refine wk_x ?_
  refine wc_sr ?_
  refine wv (r := rI .i64 (-1)) (o_assign rfl) ?_
  refine wl_x ?_
  refine wc_ret ?_
  obtain rfl := some_e h5
  exact wk_ret (r_1 Tryz.results127 (rv_t rfl)) sN ⟨rfl, rfl⟩

theorem rKey_w (F : Nat) (c : TApiCell) (r : Bool) (h : rKey F c = some r) : Fn Tryz.prog GE 128 [rAgg (eTApiCell c)] [] (fun R H => R = rB r ∧ H = []) := by
 refine enter (n := 21) Tryz.func128 rfl Tryz.ntmps128 rfl (fun w Z => ?_)
 refine wc_as (l' := [(0, rAgg (eTApiCell c))]) (H' := []) rfl rfl ?_
 unfold rKey at h
 refine wc_sr ?_
 refine w_box_agg rfl rfl (fun b1 => ?_)
 refine wv (r := rB false) (o_assign rfl) ?_
 refine wl_x ?_
 obtain ⟨g2, h3⟩ := chk_e h
 refine wc_seq_mid [(2, rB ((decide (c.fKind = 4)) && ((decide (c.fInt = 0)) && ((decide (c.fN = 0)) && (ov (rPlain F c.fStr))))))] [] ?_ ?_
 ·refine wc_region ?_
  refine wv (o_fieldAddr Tryz.underlying78 rfl Tryz.sizeOf76 rfl rfl) ?_
  refine wv (o_load (i := 0) Tryz.isAgg76 rfl rfl rfl) ?_
  refine wv (o_eq rfl rfl) ?_
  refine wm rfl ?_
  refine bsplit (decide (c.fKind = 4)) (fun c4 => ?_) (fun c4 => ?_)
  ·refine wo c4 ?_
   refine wv (o_fieldAddr Tryz.underlying78 rfl Tryz.sizeOf3 rfl rfl) ?_
   refine wo c4 ?_
   refine wv (o_load (i := 0) Tryz.isAgg3 rfl rfl rfl) ?_
   refine wo c4 ?_
   refine wv (o_eq rfl rfl) ?_
   refine wpt rfl c4 rfl ?_
   refine wm rfl ?_
   refine bsplit (decide (c.fInt = 0)) (fun c5 => ?_) (fun c5 => ?_)
   ·refine wo c5 ?_
    refine wv (o_fieldAddr Tryz.underlying78 rfl Tryz.sizeOf3 rfl rfl) ?_
    refine wo c5 ?_
    refine wv (o_load (i := 0) Tryz.isAgg3 rfl rfl rfl) ?_
    refine wo c5 ?_
    refine wv (o_eq rfl rfl) ?_
    refine wpt rfl c5 rfl ?_
    refine wm rfl ?_
    refine bsplit (decide (c.fN = 0)) (fun c6 => ?_) (fun c6 => ?_)
    ·refine wo c6 ?_
     refine wv (o_fieldAddr Tryz.underlying78 rfl Tryz.sizeOf9 rfl rfl) ?_
     refine wo c6 ?_
     refine wv (o_load (i := 0) Tryz.isAgg9 rfl rfl rfl) ?_
     refine wo c6 ?_
     refine wc0 Tryz.call156 (rPlain_w F c.fStr (ov (rPlain F c.fStr)) (ov_e (imp_t (imp_t (imp_t g2 c4) c5) c6))) rfl ?_
     refine wpt rfl c6 rfl ?_
     refine wa rfl ?_
     refine wl_nil ?_
     exact wtc (And.intro c4 (And.intro c5 c6))
    ·refine wf c6 ?_
     refine wf c6 ?_
     refine wf c6 ?_
     refine wv (r := rB false) (o_pick_f (b := decide (c.fN = 0)) rfl c6 rfl) ?_
     refine wa rfl ?_
     refine wl_nil ?_
     exact wtc (And.intro c4 (And.intro c5 c6))
   ·refine wf c5 ?_
    refine wf c5 ?_
    refine wf c5 ?_
    refine wv (r := rB false) (o_pick_f (b := decide (c.fInt = 0)) rfl c5 rfl) ?_
    refine wm rfl ?_
    refine wl_off (b := false) rfl rfl rfl rfl ?_
    refine wl_off (b := false) rfl rfl rfl rfl ?_
    refine wl_off (b := false) rfl rfl rfl rfl ?_
    refine wv (r := rB false) (o_pick_f (b := false) rfl rfl rfl) ?_
    refine wa rfl ?_
    refine wl_nil ?_
    exact wtc (And.intro c4 c5)
  ·refine wf c4 ?_
   refine wf c4 ?_
   refine wf c4 ?_
   refine wv (r := rB false) (o_pick_f (b := decide (c.fKind = 4)) rfl c4 rfl) ?_
   refine wm rfl ?_
   refine wl_off (b := false) rfl rfl rfl rfl ?_
   refine wl_off (b := false) rfl rfl rfl rfl ?_
   refine wl_off (b := false) rfl rfl rfl rfl ?_
   refine wv (r := rB false) (o_pick_f (b := false) rfl rfl rfl) ?_
   refine wm rfl ?_
   refine wl_off (b := false) rfl rfl rfl rfl ?_
   refine wl_off (b := false) rfl rfl rfl rfl ?_
   refine wl_off (b := false) rfl rfl rfl rfl ?_
   refine wv (r := rB false) (o_pick_f (b := false) rfl rfl rfl) ?_
   refine wa rfl ?_
   refine wl_nil ?_
   exact wtc c4
 refine wc_ret ?_
 obtain rfl := some_e h3
 exact wk_ret (r_1 Tryz.results128 (rv_t rfl)) sN ⟨rfl, rfl⟩

theorem rNextm_w (F : Nat) (rec_rElements : (List TApiCell) → Int → Int → Option (Int)) (rec_rPairs : (List TApiCell) → Int → Int → Option (Int)) (ih_rElements : (∀ (v : (List TApiCell)) (i : Int) (n : Int) (r : Int), rec_rElements v i n = some r → Fn Tryz.prog GE 129 [rSl 4 (List.map eTApiCell v), rI .i64 i, rI .i64 n] [] (fun R H => R = rI .i64 r ∧ H = []))) (ih_rPairs : (∀ (v : (List TApiCell)) (i : Int) (n : Int) (r : Int), rec_rPairs v i n = some r → Fn Tryz.prog GE 130 [rSl 4 (List.map eTApiCell v), rI .i64 i, rI .i64 n] [] (fun R H => R = rI .i64 r ∧ H = []))) (v : (List TApiCell)) (i : Int) (r : Int) (h : rNextm F rec_rElements rec_rPairs v i = some r) : Fn Tryz.prog GE 93 [rSl 4 (List.map eTApiCell v), rI .i64 i] [] (fun R H => R = rI .i64 r ∧ H = []) := by
 refine enter (n := 127) Tryz.func93 rfl Tryz.ntmps93 rfl (fun w Z => ?_)
 refine wc_as (l' := [(0, rSl 4 (List.map eTApiCell v)), (1, rI .i64 i)]) (H' := []) rfl rfl ?_
 unfold rNextm at h
 refine wc_sr ?_
 refine wv (r := rI .i64 0) (o_assign rfl) ?_
 refine wl_x ?_
 refine wc_seq ?_
 refine wc_seq_mid [(0, rSl 4 (List.map eTApiCell v)), (1, rI .i64 i), (13, rB ((decide (i < 0)) || (decide ((v.length : Int) ≤ i))))] [] ?_ ?_
 ·refine wc_region ?_
  refine wm rfl ?_
  refine wv (o_lt rfl rfl) ?_
  refine wm rfl ?_
  refine bsplit (decide (i < 0)) (fun c1 => ?_) (fun c1 => ?_)
  ·refine wf c1 ?_
   refine wf c1 ?_
   refine wf c1 ?_
   refine wf c1 ?_
   refine wv (r := rB true) (o_pick_t (b := decide (i < 0)) rfl c1 rfl) ?_
   refine wl_nil ?_
   exact wtc c1
  ·refine wo c1 ?_
   refine wm rfl ?_
   refine wo c1 ?_
   refine wm rfl ?_
   refine wo c1 ?_
   refine wv (o_len_zt (ys := v) (enc := eTApiCell) Tryz.underlying33 rfl) ?_
   refine wo c1 ?_
   refine wv (o_ge rfl rfl) ?_
   refine wpf rfl c1 rfl ?_
   refine wl_nil ?_
   exact wtc c1
 refine wc_cond (b := ((decide (i < 0)) || (decide ((v.length : Int) ≤ i)))) rfl (fun c2 => ?_) (fun c2 => ?_)
 ·have h3 := cnd_t c2 h
  refine wc_sr ?_
  refine wv (r := rI .i64 (-1)) (o_assign rfl) ?_
  refine wl_x ?_
  refine wc_ret ?_
  refine wk_then_ret ?_
  obtain rfl := some_e h3
  exact wk_ret (r_1 Tryz.results93 (rv_t rfl)) sN ⟨rfl, rfl⟩
 ·have h4 := cnd_f c2 h
  refine wc_skip ?_
  refine wk_x ?_
  refine wc_sr ?_
  refine wm rfl ?_
  refine wm rfl ?_
  obtain ⟨g5, h6⟩ := chk_e h4
  refine wv (o_ix_z (enc := eTApiCell) (ys := v) Tryz.underlying33 Tryz.sizeOf78 rfl rfl g5) ?_
  refine wv (o_load_za Tryz.isAgg78 Tryz.sizeOf78 rfl rfl rfl) ?_
  refine w_alloc (cs := [rI .i64 0, rI .i64 0, rS ([] : Str), rI .i64 0]) Tryz.zeroValue78 rfl rfl (fun b7 => ?_)
  refine u_store_agg (i := 0) Tryz.sizeOf78 rfl rfl rfl (OneAll.c rfl) rfl rfl (cs' := [rI .i64 ((at' v i).fKind), rI .i64 ((at' v i).fInt), rS ((at' v i).fStr), rI .i64 ((at' v i).fN)]) rfl (H' := [.blk b7 (eTApiCell (at' v i)) 78]) rfl ?_
  refine wl_x ?_
  refine wc_seq ?_
  refine wc_sr ?_
  refine wv (o_fieldAddr Tryz.underlying78 rfl Tryz.sizeOf76 rfl rfl) ?_
  refine wv (o_load (i := 0) Tryz.isAgg76 rfl rfl rfl) ?_
  refine wv (o_eq rfl rfl) ?_
  refine wl_x ?_
  refine wc_cond (b := decide (((at' v i).fKind) = 1)) rfl (fun c8 => ?_) (fun c8 => ?_)
  ·have h9 := cnd_t c8 h6
   obtain ⟨g10, h11⟩ := chk_e h9
   obtain ⟨g12, h13⟩ := chk_e h11
   obtain ⟨g14, h15⟩ := chk_e h13
   refine wc_seq_mid [(4, rI .i64 (bif decide (((at' v i).fInt) = 0) then (bif decide (((at' v i).fStr) = ([] : Str)) then (ov (rAfter (decide (((at' v i).fN) = 0)) i)) else (ov (rAfter false i))) else (ov (rAfter false i))))] [] ?_ ?_
   ·refine wc_region ?_
    refine wv (o_fieldAddr Tryz.underlying78 rfl Tryz.sizeOf3 rfl rfl) ?_
    refine wv (o_load (i := 0) Tryz.isAgg3 rfl rfl rfl) ?_
    refine wv (o_eq rfl rfl) ?_
    refine wm rfl ?_
    refine bsplit (decide (((at' v i).fInt) = 0)) (fun c16 => ?_) (fun c16 => ?_)
    ·refine wo c16 ?_
     refine wv (o_fieldAddr Tryz.underlying78 rfl Tryz.sizeOf9 rfl rfl) ?_
     refine wo c16 ?_
     refine wv (o_load (i := 0) Tryz.isAgg9 rfl rfl rfl) ?_
     refine wo c16 ?_
     refine wv (o_seq rfl rfl) ?_
     refine wpt rfl c16 rfl ?_
     refine wm rfl ?_
     refine bsplit (decide (((at' v i).fStr) = ([] : Str))) (fun c17 => ?_) (fun c17 => ?_)
     ·refine wo c17 ?_
      refine wv (o_fieldAddr Tryz.underlying78 rfl Tryz.sizeOf3 rfl rfl) ?_
      refine wo c17 ?_
      refine wv (o_load (i := 0) Tryz.isAgg3 rfl rfl rfl) ?_
      refine wo c17 ?_
      refine wv (o_eq rfl rfl) ?_
      refine wpt rfl c17 rfl ?_
      refine wm rfl ?_
      refine wc0 Tryz.call127 (rAfter_w (decide (((at' v i).fN) = 0)) i (ov (rAfter (decide (((at' v i).fN) = 0)) i)) (ov_e (imp_t (imp_t g10 c16) c17))) rfl ?_
      refine wa rfl ?_
      refine wl_nil ?_
      exact wtc (And.intro c16 c17)
     ·refine wf c17 ?_
      refine wf c17 ?_
      refine wf c17 ?_
      refine wv (r := rB false) (o_pick_f (b := decide (((at' v i).fStr) = ([] : Str))) rfl c17 rfl) ?_
      refine wm rfl ?_
      refine wc0 Tryz.call127 (rAfter_w false i (ov (rAfter false i)) (ov_e (imp_f (imp_t g12 c16) c17))) rfl ?_
      refine wa rfl ?_
      refine wl_nil ?_
      exact wtc (And.intro c16 c17)
    ·refine wf c16 ?_
     refine wf c16 ?_
     refine wf c16 ?_
     refine wv (r := rB false) (o_pick_f (b := decide (((at' v i).fInt) = 0)) rfl c16 rfl) ?_
     refine wm rfl ?_
     refine wl_off (b := false) rfl rfl rfl rfl ?_
     refine wl_off (b := false) rfl rfl rfl rfl ?_
     refine wl_off (b := false) rfl rfl rfl rfl ?_
     refine wv (r := rB false) (o_pick_f (b := false) rfl rfl rfl) ?_
     refine wm rfl ?_
     refine wc0 Tryz.call127 (rAfter_w false i (ov (rAfter false i)) (ov_e (imp_f g14 c16))) rfl ?_
     refine wa rfl ?_
     refine wl_nil ?_
     exact wtc c16
   refine wc_ret ?_
   refine wk_then_ret ?_
   obtain rfl := some_e h15
   exact wk_ret (r_1 Tryz.results93 (rv_t rfl)) sN ⟨rfl, rfl⟩
  ·have h18 := cnd_f c8 h6
   refine wc_skip ?_
   refine wk_x ?_
   refine wc_seq ?_
   refine wc_sr ?_
   refine wv (o_fieldAddr Tryz.underlying78 rfl Tryz.sizeOf76 rfl rfl) ?_
   refine wv (o_load (i := 0) Tryz.isAgg76 rfl rfl rfl) ?_
   refine wv (o_eq rfl rfl) ?_
   refine wl_x ?_
   refine wc_cond (b := decide (((at' v i).fKind) = 2)) rfl (fun c19 => ?_) (fun c19 => ?_)
   ·have h20 := cnd_t c19 h18
    obtain ⟨g21, h22⟩ := chk_e h20
    obtain ⟨g23, h24⟩ := chk_e h22
    obtain ⟨g25, h26⟩ := chk_e h24
    obtain ⟨g27, h28⟩ := chk_e h26
    obtain ⟨g29, h30⟩ := chk_e h28
    refine wc_seq_mid [(4, rI .i64 (bif decide (((at' v i).fInt) = 0) then (bif decide (((at' v i).fStr) = ([] : Str)) then (ov (rAfter (decide (((at' v i).fN) = 0)) i)) else (ov (rAfter false i))) else (bif decide (((at' v i).fInt) = 1) then (bif decide (((at' v i).fStr) = ([] : Str)) then (ov (rAfter (decide (((at' v i).fN) = 0)) i)) else (ov (rAfter false i))) else (ov (rAfter false i)))))] [] ?_ ?_
    ·refine wc_region ?_
     refine wv (o_fieldAddr Tryz.underlying78 rfl Tryz.sizeOf3 rfl rfl) ?_
     refine wv (o_load (i := 0) Tryz.isAgg3 rfl rfl rfl) ?_
     refine wv (o_eq rfl rfl) ?_
     refine wm rfl ?_
     refine bsplit (decide (((at' v i).fInt) = 0)) (fun c31 => ?_) (fun c31 => ?_)
     ·refine wf c31 ?_
      refine wf c31 ?_
      refine wf c31 ?_
      refine wv (r := rB true) (o_pick_t (b := decide (((at' v i).fInt) = 0)) rfl c31 rfl) ?_
      refine wm rfl ?_
      refine wl_on (b := true) rfl rfl rfl ?_
      refine wv (o_fieldAddr Tryz.underlying78 rfl Tryz.sizeOf9 rfl rfl) ?_
      refine wl_on (b := true) rfl rfl rfl ?_
      refine wv (o_load (i := 0) Tryz.isAgg9 rfl rfl rfl) ?_
      refine wl_on (b := true) rfl rfl rfl ?_
      refine wv (o_seq rfl rfl) ?_
      refine wv (r := rB (decide (((at' v i).fStr) = ([] : Str)))) (o_pick_t (b := true) rfl rfl rfl) ?_
      refine wm rfl ?_
      refine bsplit (decide (((at' v i).fStr) = ([] : Str))) (fun c32 => ?_) (fun c32 => ?_)
      ·refine wo c32 ?_
       refine wv (o_fieldAddr Tryz.underlying78 rfl Tryz.sizeOf3 rfl rfl) ?_
       refine wo c32 ?_
       refine wv (o_load (i := 0) Tryz.isAgg3 rfl rfl rfl) ?_
       refine wo c32 ?_
       refine wv (o_eq rfl rfl) ?_
       refine wpt rfl c32 rfl ?_
       refine wm rfl ?_
       refine wc0 Tryz.call127 (rAfter_w (decide (((at' v i).fN) = 0)) i (ov (rAfter (decide (((at' v i).fN) = 0)) i)) (ov_e (imp_t (imp_t g21 c31) c32))) rfl ?_
       refine wa rfl ?_
       refine wl_nil ?_
       exact wtc (And.intro c31 c32)
      ·refine wf c32 ?_
       refine wf c32 ?_
       refine wf c32 ?_
       refine wv (r := rB false) (o_pick_f (b := decide (((at' v i).fStr) = ([] : Str))) rfl c32 rfl) ?_
       refine wm rfl ?_
       refine wc0 Tryz.call127 (rAfter_w false i (ov (rAfter false i)) (ov_e (imp_f (imp_t g23 c31) c32))) rfl ?_
       refine wa rfl ?_
       refine wl_nil ?_
       exact wtc (And.intro c31 c32)
     ·refine wo c31 ?_
      refine wv (o_fieldAddr Tryz.underlying78 rfl Tryz.sizeOf3 rfl rfl) ?_
      refine wo c31 ?_
      refine wv (o_load (i := 0) Tryz.isAgg3 rfl rfl rfl) ?_
      refine wo c31 ?_
      refine wv (o_eq rfl rfl) ?_
      refine wpf rfl c31 rfl ?_
      refine wm rfl ?_
      refine bsplit (decide (((at' v i).fInt) = 1)) (fun c33 => ?_) (fun c33 => ?_)
      ·refine wo c33 ?_
       refine wv (o_fieldAddr Tryz.underlying78 rfl Tryz.sizeOf9 rfl rfl) ?_
       refine wo c33 ?_
       refine wv (o_load (i := 0) Tryz.isAgg9 rfl rfl rfl) ?_
       refine wo c33 ?_
       refine wv (o_seq rfl rfl) ?_
       refine wpt rfl c33 rfl ?_
       refine wm rfl ?_
       refine bsplit (decide (((at' v i).fStr) = ([] : Str))) (fun c34 => ?_) (fun c34 => ?_)
       ·refine wo c34 ?_
        refine wv (o_fieldAddr Tryz.underlying78 rfl Tryz.sizeOf3 rfl rfl) ?_
        refine wo c34 ?_
        refine wv (o_load (i := 0) Tryz.isAgg3 rfl rfl rfl) ?_
        refine wo c34 ?_
        refine wv (o_eq rfl rfl) ?_
        refine wpt rfl c34 rfl ?_
        refine wm rfl ?_
        refine wc0 Tryz.call127 (rAfter_w (decide (((at' v i).fN) = 0)) i (ov (rAfter (decide (((at' v i).fN) = 0)) i)) (ov_e (imp_t (imp_t (imp_f g25 c31) c33) c34))) rfl ?_
        refine wa rfl ?_
        refine wl_nil ?_
        exact wtc (And.intro c31 (And.intro c33 c34))
       ·refine wf c34 ?_
        refine wf c34 ?_
        refine wf c34 ?_
        refine wv (r := rB false) (o_pick_f (b := decide (((at' v i).fStr) = ([] : Str))) rfl c34 rfl) ?_
        refine wm rfl ?_
        refine wc0 Tryz.call127 (rAfter_w false i (ov (rAfter false i)) (ov_e (imp_f (imp_t (imp_f g27 c31) c33) c34))) rfl ?_
        refine wa rfl ?_
        refine wl_nil ?_
        exact wtc (And.intro c31 (And.intro c33 c34))
      ·refine wf c33 ?_
       refine wf c33 ?_
       refine wf c33 ?_
       refine wv (r := rB false) (o_pick_f (b := decide (((at' v i).fInt) = 1)) rfl c33 rfl) ?_
       refine wm rfl ?_
       refine wl_off (b := false) rfl rfl rfl rfl ?_
       refine wl_off (b := false) rfl rfl rfl rfl ?_
       refine wl_off (b := false) rfl rfl rfl rfl ?_
       refine wv (r := rB false) (o_pick_f (b := false) rfl rfl rfl) ?_
       refine wm rfl ?_
       refine wc0 Tryz.call127 (rAfter_w false i (ov (rAfter false i)) (ov_e (imp_f (imp_f g29 c31) c33))) rfl ?_
       refine wa rfl ?_
       refine wl_nil ?_
       exact wtc (And.intro c31 c33)
    refine wc_ret ?_
    refine wk_then_ret ?_
    obtain rfl := some_e h30
    exact wk_ret (r_1 Tryz.results93 (rv_t rfl)) sN ⟨rfl, rfl⟩
   ·have h35 := cnd_f c19 h18
    refine wc_skip ?_
    refine wk_x ?_
    refine wc_seq ?_
    refine wc_sr ?_
    refine wv (o_fieldAddr Tryz.underlying78 rfl Tryz.sizeOf76 rfl rfl) ?_
    refine wv (o_load (i := 0) Tryz.isAgg76 rfl rfl rfl) ?_
    refine wv (o_eq rfl rfl) ?_
    refine wl_x ?_
    refine wc_cond (b := decide (((at' v i).fKind) = 3)) rfl (fun c36 => ?_) (fun c36 => ?_)
    ·have h37 := cnd_t c36 h35
     obtain ⟨g38, h39⟩ := chk_e h37
     obtain ⟨g40, h41⟩ := chk_e h39
     refine wc_seq_mid [(4, rI .i64 (bif decide (((at' v i).fStr) = ([] : Str)) then (ov (rAfter (decide (((at' v i).fN) = 0)) i)) else (ov (rAfter false i))))] [] ?_ ?_
     ·refine wc_region ?_
      refine wv (o_fieldAddr Tryz.underlying78 rfl Tryz.sizeOf9 rfl rfl) ?_
      refine wv (o_load (i := 0) Tryz.isAgg9 rfl rfl rfl) ?_
      refine wv (o_seq rfl rfl) ?_
      refine wm rfl ?_
      refine bsplit (decide (((at' v i).fStr) = ([] : Str))) (fun c42 => ?_) (fun c42 => ?_)
      ·refine wo c42 ?_
       refine wv (o_fieldAddr Tryz.underlying78 rfl Tryz.sizeOf3 rfl rfl) ?_
       refine wo c42 ?_
       refine wv (o_load (i := 0) Tryz.isAgg3 rfl rfl rfl) ?_
       refine wo c42 ?_
       refine wv (o_eq rfl rfl) ?_
       refine wpt rfl c42 rfl ?_
       refine wm rfl ?_
       refine wc0 Tryz.call127 (rAfter_w (decide (((at' v i).fN) = 0)) i (ov (rAfter (decide (((at' v i).fN) = 0)) i)) (ov_e (imp_t g38 c42))) rfl ?_
       refine wa rfl ?_
       refine wl_nil ?_
       exact wtc c42
      ·refine wf c42 ?_
       refine wf c42 ?_
       refine wf c42 ?_
       refine wv (r := rB false) (o_pick_f (b := decide (((at' v i).fStr) = ([] : Str))) rfl c42 rfl) ?_
       refine wm rfl ?_
       refine wc0 Tryz.call127 (rAfter_w false i (ov (rAfter false i)) (ov_e (imp_f g40 c42))) rfl ?_
       refine wa rfl ?_
       refine wl_nil ?_
       exact wtc c42
     refine wc_ret ?_
     refine wk_then_ret ?_
     obtain rfl := some_e h41
     exact wk_ret (r_1 Tryz.results93 (rv_t rfl)) sN ⟨rfl, rfl⟩
    ·have h43 := cnd_f c36 h35
     refine wc_skip ?_
     refine wk_x ?_
     refine wc_seq ?_
     refine wc_sr ?_
     refine wv (o_fieldAddr Tryz.underlying78 rfl Tryz.sizeOf76 rfl rfl) ?_
     refine wv (o_load (i := 0) Tryz.isAgg76 rfl rfl rfl) ?_
     refine wv (o_eq rfl rfl) ?_
     refine wl_x ?_
     refine wc_cond (b := decide (((at' v i).fKind) = 4)) rfl (fun c44 => ?_) (fun c44 => ?_)
     ·have h45 := cnd_t c44 h43
      refine wc_sr ?_
      refine wv (o_load_agg (i := 0) Tryz.isAgg78 Tryz.sizeOf78 rfl rfl rfl rfl) ?_
      obtain ⟨r46, e48, h47⟩ := obn_e h45
      refine wc0 Tryz.call128 (rKey_w F (at' v i) r46 e48) rfl ?_
      refine wm rfl ?_
      obtain ⟨r49, e51, h50⟩ := obn_e h47
      refine wc0 Tryz.call127 (rAfter_w r46 i r49 e51) rfl ?_
      refine wa rfl ?_
      refine wl_x ?_
      refine wc_ret ?_
      refine wk_then_ret ?_
      obtain rfl := some_e h50
      exact wk_ret (r_1 Tryz.results93 (rv_t rfl)) (sS sN) ⟨rfl, rfl⟩
     ·have h52 := cnd_f c44 h43
      refine wc_skip ?_
      refine wk_x ?_
      refine wc_seq ?_
      refine wc_seq_mid [(0, rSl 4 (List.map eTApiCell v)), (1, rI .i64 i), (5, rv (.pointer (some ⟨b7, 0, none⟩))), (96, rB ((decide (((at' v i).fKind) = 5)) && ((decide (((at' v i).fInt) = 0)) && ((decide (((at' v i).fStr) = ([] : Str))) && (decide (0 ≤ ((at' v i).fN)))))))] [.blk b7 (eTApiCell (at' v i)) 78] ?_ ?_
      ·refine wc_region ?_
       refine wv (o_fieldAddr Tryz.underlying78 rfl Tryz.sizeOf76 rfl rfl) ?_
       refine wv (o_load (i := 0) Tryz.isAgg76 rfl rfl rfl) ?_
       refine wv (o_eq rfl rfl) ?_
       refine wm rfl ?_
       refine bsplit (decide (((at' v i).fKind) = 5)) (fun c53 => ?_) (fun c53 => ?_)
       ·refine wo c53 ?_
        refine wv (o_fieldAddr Tryz.underlying78 rfl Tryz.sizeOf3 rfl rfl) ?_
        refine wo c53 ?_
        refine wv (o_load (i := 0) Tryz.isAgg3 rfl rfl rfl) ?_
        refine wo c53 ?_
        refine wv (o_eq rfl rfl) ?_
        refine wpt rfl c53 rfl ?_
        refine wm rfl ?_
        refine bsplit (decide (((at' v i).fInt) = 0)) (fun c54 => ?_) (fun c54 => ?_)
        ·refine wo c54 ?_
         refine wv (o_fieldAddr Tryz.underlying78 rfl Tryz.sizeOf9 rfl rfl) ?_
         refine wo c54 ?_
         refine wv (o_load (i := 0) Tryz.isAgg9 rfl rfl rfl) ?_
         refine wo c54 ?_
         refine wv (o_seq rfl rfl) ?_
         refine wpt rfl c54 rfl ?_
         refine wm rfl ?_
         refine bsplit (decide (((at' v i).fStr) = ([] : Str))) (fun c55 => ?_) (fun c55 => ?_)
         ·refine wo c55 ?_
          refine wv (o_fieldAddr Tryz.underlying78 rfl Tryz.sizeOf3 rfl rfl) ?_
          refine wo c55 ?_
          refine wv (o_load (i := 0) Tryz.isAgg3 rfl rfl rfl) ?_
          refine wo c55 ?_
          refine wv (o_ge rfl rfl) ?_
          refine wpt rfl c55 rfl ?_
          refine wl_nil ?_
          exact wtc (And.intro c53 (And.intro c54 c55))
         ·refine wf c55 ?_
          refine wf c55 ?_
          refine wf c55 ?_
          refine wv (r := rB false) (o_pick_f (b := decide (((at' v i).fStr) = ([] : Str))) rfl c55 rfl) ?_
          refine wl_nil ?_
          exact wtc (And.intro c53 (And.intro c54 c55))
        ·refine wf c54 ?_
         refine wf c54 ?_
         refine wf c54 ?_
         refine wv (r := rB false) (o_pick_f (b := decide (((at' v i).fInt) = 0)) rfl c54 rfl) ?_
         refine wm rfl ?_
         refine wl_off (b := false) rfl rfl rfl rfl ?_
         refine wl_off (b := false) rfl rfl rfl rfl ?_
         refine wl_off (b := false) rfl rfl rfl rfl ?_
         refine wv (r := rB false) (o_pick_f (b := false) rfl rfl rfl) ?_
         refine wl_nil ?_
         exact wtc (And.intro c53 c54)
       ·refine wf c53 ?_
        refine wf c53 ?_
        refine wf c53 ?_
        refine wv (r := rB false) (o_pick_f (b := decide (((at' v i).fKind) = 5)) rfl c53 rfl) ?_
        refine wm rfl ?_
        refine wl_off (b := false) rfl rfl rfl rfl ?_
        refine wl_off (b := false) rfl rfl rfl rfl ?_
        refine wl_off (b := false) rfl rfl rfl rfl ?_
        refine wv (r := rB false) (o_pick_f (b := false) rfl rfl rfl) ?_
        refine wm rfl ?_
        refine wl_off (b := false) rfl rfl rfl rfl ?_
        refine wl_off (b := false) rfl rfl rfl rfl ?_
        refine wl_off (b := false) rfl rfl rfl rfl ?_
        refine wv (r := rB false) (o_pick_f (b := false) rfl rfl rfl) ?_
        refine wl_nil ?_
        exact wtc c53
      refine wc_cond (b := ((decide (((at' v i).fKind) = 5)) && ((decide (((at' v i).fInt) = 0)) && ((decide (((at' v i).fStr) = ([] : Str))) && (decide (0 ≤ ((at' v i).fN))))))) rfl (fun c56 => ?_) (fun c56 => ?_)
      ·have h57 := cnd_t c56 h52
       refine wc_sr ?_
       refine wm rfl ?_
       refine wm rfl ?_
       obtain ⟨g58, h59⟩ := chk_e h57
       refine wv (o_add rfl rfl g58) ?_
       refine wv (o_fieldAddr Tryz.underlying78 rfl Tryz.sizeOf3 rfl rfl) ?_
       refine wv (o_load (i := 0) Tryz.isAgg3 rfl rfl rfl) ?_
       obtain ⟨r60, e62, h61⟩ := obn_e h59
       refine wc0 Tryz.call129 (ih_rElements v (i + 1) ((at' v i).fN) r60 e62) rfl ?_
       refine wa rfl ?_
       refine wl_x ?_
       refine wc_ret ?_
       refine wk_then_ret ?_
       obtain rfl := some_e h61
       exact wk_ret (r_1 Tryz.results93 (rv_t rfl)) (sS sN) ⟨rfl, rfl⟩
      ·have h63 := cnd_f c56 h52
       refine wc_skip ?_
       refine wk_x ?_
       refine wc_seq ?_
       refine wc_seq_mid [(0, rSl 4 (List.map eTApiCell v)), (1, rI .i64 i), (5, rv (.pointer (some ⟨b7, 0, none⟩))), (120, rB ((decide (((at' v i).fKind) = 6)) && ((decide (((at' v i).fInt) = 0)) && ((decide (((at' v i).fStr) = ([] : Str))) && (decide (0 ≤ ((at' v i).fN)))))))] [.blk b7 (eTApiCell (at' v i)) 78] ?_ ?_
       ·refine wc_region ?_
        refine wv (o_fieldAddr Tryz.underlying78 rfl Tryz.sizeOf76 rfl rfl) ?_
        refine wv (o_load (i := 0) Tryz.isAgg76 rfl rfl rfl) ?_
        refine wv (o_eq rfl rfl) ?_
        refine wm rfl ?_
        refine bsplit (decide (((at' v i).fKind) = 6)) (fun c64 => ?_) (fun c64 => ?_)
        ·refine wo c64 ?_
         refine wv (o_fieldAddr Tryz.underlying78 rfl Tryz.sizeOf3 rfl rfl) ?_
         refine wo c64 ?_
         refine wv (o_load (i := 0) Tryz.isAgg3 rfl rfl rfl) ?_
         refine wo c64 ?_
         refine wv (o_eq rfl rfl) ?_
         refine wpt rfl c64 rfl ?_
         refine wm rfl ?_
         refine bsplit (decide (((at' v i).fInt) = 0)) (fun c65 => ?_) (fun c65 => ?_)
         ·refine wo c65 ?_
          refine wv (o_fieldAddr Tryz.underlying78 rfl Tryz.sizeOf9 rfl rfl) ?_
          refine wo c65 ?_
          refine wv (o_load (i := 0) Tryz.isAgg9 rfl rfl rfl) ?_
          refine wo c65 ?_
          refine wv (o_seq rfl rfl) ?_
          refine wpt rfl c65 rfl ?_
          refine wm rfl ?_
          refine bsplit (decide (((at' v i).fStr) = ([] : Str))) (fun c66 => ?_) (fun c66 => ?_)
          ·refine wo c66 ?_
           refine wv (o_fieldAddr Tryz.underlying78 rfl Tryz.sizeOf3 rfl rfl) ?_
           refine wo c66 ?_
           refine wv (o_load (i := 0) Tryz.isAgg3 rfl rfl rfl) ?_
           refine wo c66 ?_
           refine wv (o_ge rfl rfl) ?_
           refine wpt rfl c66 rfl ?_
           refine wl_nil ?_
           exact wtc (And.intro c64 (And.intro c65 c66))
          ·refine wf c66 ?_
           refine wf c66 ?_
           refine wf c66 ?_
           refine wv (r := rB false) (o_pick_f (b := decide (((at' v i).fStr) = ([] : Str))) rfl c66 rfl) ?_
           refine wl_nil ?_
           exact wtc (And.intro c64 (And.intro c65 c66))
         ·refine wf c65 ?_
          refine wf c65 ?_
          refine wf c65 ?_
          refine wv (r := rB false) (o_pick_f (b := decide (((at' v i).fInt) = 0)) rfl c65 rfl) ?_
          refine wm rfl ?_
          refine wl_off (b := false) rfl rfl rfl rfl ?_
          refine wl_off (b := false) rfl rfl rfl rfl ?_
          refine wl_off (b := false) rfl rfl rfl rfl ?_
          refine wv (r := rB false) (o_pick_f (b := false) rfl rfl rfl) ?_
          refine wl_nil ?_
          exact wtc (And.intro c64 c65)
        ·refine wf c64 ?_
         refine wf c64 ?_
         refine wf c64 ?_
         refine wv (r := rB false) (o_pick_f (b := decide (((at' v i).fKind) = 6)) rfl c64 rfl) ?_
         refine wm rfl ?_
         refine wl_off (b := false) rfl rfl rfl rfl ?_
         refine wl_off (b := false) rfl rfl rfl rfl ?_
         refine wl_off (b := false) rfl rfl rfl rfl ?_
         refine wv (r := rB false) (o_pick_f (b := false) rfl rfl rfl) ?_
         refine wm rfl ?_
         refine wl_off (b := false) rfl rfl rfl rfl ?_
         refine wl_off (b := false) rfl rfl rfl rfl ?_
         refine wl_off (b := false) rfl rfl rfl rfl ?_
         refine wv (r := rB false) (o_pick_f (b := false) rfl rfl rfl) ?_
         refine wl_nil ?_
         exact wtc c64
       refine wc_cond (b := ((decide (((at' v i).fKind) = 6)) && ((decide (((at' v i).fInt) = 0)) && ((decide (((at' v i).fStr) = ([] : Str))) && (decide (0 ≤ ((at' v i).fN))))))) rfl (fun c67 => ?_) (fun c67 => ?_)
       ·have h68 := cnd_t c67 h63
        refine wc_sr ?_
        refine wm rfl ?_
        refine wm rfl ?_
        obtain ⟨g69, h70⟩ := chk_e h68
        refine wv (o_add rfl rfl g69) ?_
        refine wv (o_fieldAddr Tryz.underlying78 rfl Tryz.sizeOf3 rfl rfl) ?_
        refine wv (o_load (i := 0) Tryz.isAgg3 rfl rfl rfl) ?_
        obtain ⟨r71, e73, h72⟩ := obn_e h70
        refine wc0 Tryz.call130 (ih_rPairs v (i + 1) ((at' v i).fN) r71 e73) rfl ?_
        refine wa rfl ?_
        refine wl_x ?_
        refine wc_ret ?_
        refine wk_then_ret ?_
        obtain rfl := some_e h72
        exact wk_ret (r_1 Tryz.results93 (rv_t rfl)) (sS sN) ⟨rfl, rfl⟩
       ·have h74 := cnd_f c67 h63
        refine wc_skip ?_
        refine wk_x ?_
        refine wc_sr ?_
        refine wv (r := rI .i64 (-1)) (o_assign rfl) ?_
        refine wl_x ?_
        refine wc_ret ?_
        obtain rfl := some_e h74
        exact wk_ret (r_1 Tryz.results93 (rv_t rfl)) (sS sN) ⟨rfl, rfl⟩

theorem rElementsm_w (F : Nat) (rec_rNext : (List TApiCell) → Int → Option (Int)) (ih_rNext : (∀ (v : (List TApiCell)) (i : Int) (r : Int), rec_rNext v i = some r → Fn Tryz.prog GE 93 [rSl 4 (List.map eTApiCell v), rI .i64 i] [] (fun R H => R = rI .i64 r ∧ H = []))) (v : (List TApiCell)) (i : Int) (n : Int) (r : Int) (h : rElementsm F rec_rNext v i n = some r) : Fn Tryz.prog GE 129 [rSl 4 (List.map eTApiCell v), rI .i64 i, rI .i64 n] [] (fun R H => R = rI .i64 r ∧ H = []) := by
 refine enter (n := 19) Tryz.func129 rfl Tryz.ntmps129 rfl (fun w Z => ?_)
 refine wc_as (l' := [(0, rSl 4 (List.map eTApiCell v)), (1, rI .i64 i), (2, rI .i64 n)]) (H' := []) rfl rfl ?_
 unfold rElementsm at h
 refine wc_sr ?_
 refine wv (r := rI .i64 0) (o_assign rfl) ?_
 refine wl_x ?_
 refine wc_seq ?_
 refine wc_sr ?_
 refine wv (r := rI .i64 0) (o_assign rfl) ?_
 refine wl_x ?_
 refine wc_block ?_
 obtain ⟨o37, eo38, hK39⟩ := obn_e h
 refine wc_loop2 (S := Nat × (Int × Int) × (Unit)) (V := (Int) × (Unit)) 0 (fun σ => lop (fun σ => rElements_b1 v n rec_rNext σ.1 σ.2) σ.1 σ.2.1 = some o37) (fun σ => [(0, rSl 4 (List.map eTApiCell v)), (1, rI .i64 σ.2.1.1), (2, rI .i64 n), (6, rI .i64 0), (7, rI .i64 σ.2.1.2)]) (fun σ => []) (fun σ => σ.1) (F, (i, 0), ()) eo38 (Sub.c5 rfl rfl rfl rfl rfl Sub.nil) sN (fun σ => rElements_k1 σ.1 = some r) (fun σ => [(1, rI .i64 σ.1), (6, rI .i64 0)]) (fun σ => []) ?_ ?_
 ·rintro ⟨n45, ⟨x23, x24⟩, ⟨⟩⟩ hi43
  refine wc_as (l' := [(0, rSl 4 (List.map eTApiCell v)), (1, rI .i64 x23), (2, rI .i64 n), (6, rI .i64 0), (7, rI .i64 x24)]) (H' := []) rfl rfl ?_
  obtain ⟨m42, rfl, t40, h44, ht41⟩ := lop_e hi43
  replace h44 : rElements_b1 v n rec_rNext x23 x24 = some t40 := h44
  unfold rElements_b1 at h44
  refine wc_seq ?_
  refine wc_sr ?_
  refine wm rfl ?_
  refine wm rfl ?_
  refine wv (o_lt rfl rfl) ?_
  refine wl_x ?_
  refine wc_cond (b := decide (x24 < n)) rfl (fun c46 => ?_) (fun c46 => ?_)
  ·have h47 := cnd_t c46 h44
   refine wc_skip ?_
   refine wk_x ?_
   refine wc_seq ?_
   refine wc_block ?_
   refine wc_sr ?_
   refine wm rfl ?_
   refine wm rfl ?_
   obtain ⟨r48, e50, h49⟩ := obn_e h47
   refine wc0 Tryz.call93 (ih_rNext v x23 r48 e50) rfl ?_
   refine wa rfl ?_
   refine wl_y ?_
   refine wm rfl ?_
   refine wv (o_lt rfl rfl) ?_
   refine wl_x ?_
   refine wc_cond (b := decide (r48 < 0)) rfl (fun c51 => ?_) (fun c51 => ?_)
   ·have h52 := cnd_t c51 h49
    refine wc_sr ?_
    refine wv (r := rI .i64 (-1)) (o_assign rfl) ?_
    refine wl_x ?_
    refine wc_ret ?_
    refine wk_in_ret ?_
    refine wk_then_ret ?_
    refine wk_then_ret ?_
    refine wk_cut_ret ?_
    have h53 := stp_ret h52 ht41 hK39
    refine wk_in_ret ?_
    refine wk_then_ret ?_
    obtain rfl := some_e h53
    exact wk_ret (r_1 Tryz.results129 (rv_t rfl)) sN ⟨rfl, rfl⟩
   ·have h54 := cnd_f c51 h49
    refine wc_skip ?_
    refine wk_in_norm ?_
    refine wk_x ?_
    refine wc_region ?_
    refine wm rfl ?_
    obtain ⟨g55, h56⟩ := chk_e h54
    refine wv (o_add rfl rfl g55) ?_
    refine wa rfl ?_
    refine wl_nil ?_
    have h57 := stp_next h56 ht41
    exact wk_then (wk_some (m42, (r48, x24 + 1), ()) ⟨h57, Nat.lt_succ_self _⟩ (Sub.c5 rfl rfl rfl rfl rfl Sub.nil) sN)
  ·have h58 := cnd_f c46 h44
   refine wc_exit ?_
   refine wk_then_exit ?_
   have h59 := stp_go h58 ht41 hK39
   exact wk_then_exit (wk_cut_hit (wk_some (x23, ()) h59 (Sub.c rfl (Sub.c rfl Sub.nil)) sN))
 ·rintro ⟨x36, ⟨⟩⟩ h60
  refine wk_as (l' := [(1, rI .i64 x36), (6, rI .i64 0)]) (H' := []) rfl rfl ?_
  replace h60 : rElements_k1 x36 = some r := h60
  unfold rElements_k1 at h60
  refine wk_in_hit ?_
  refine wk_x ?_
  refine wc_sr ?_
  refine wm rfl ?_
  refine wa rfl ?_
  refine wl_x ?_
  refine wc_ret ?_
  obtain rfl := some_e h60
  exact wk_ret (r_1 Tryz.results129 (rv_t rfl)) sN ⟨rfl, rfl⟩

theorem rPairsm_w (F : Nat) (rec_rNext : (List TApiCell) → Int → Option (Int)) (ih_rNext : (∀ (v : (List TApiCell)) (i : Int) (r : Int), rec_rNext v i = some r → Fn Tryz.prog GE 93 [rSl 4 (List.map eTApiCell v), rI .i64 i] [] (fun R H => R = rI .i64 r ∧ H = []))) (v : (List TApiCell)) (i : Int) (n : Int) (r : Int) (h : rPairsm F rec_rNext v i n = some r) : Fn Tryz.prog GE 130 [rSl 4 (List.map eTApiCell v), rI .i64 i, rI .i64 n] [] (fun R H => R = rI .i64 r ∧ H = []) := by
 refine enter (n := 51) Tryz.func130 rfl Tryz.ntmps130 rfl (fun w Z => ?_)
 refine wc_as (l' := [(0, rSl 4 (List.map eTApiCell v)), (1, rI .i64 i), (2, rI .i64 n)]) (H' := []) rfl rfl ?_
 unfold rPairsm at h
 refine wc_sr ?_
 refine wv (r := rI .i64 0) (o_assign rfl) ?_
 refine wl_y ?_
 refine wv (r := rS ([] : Str)) (o_assign rfl) ?_
 refine wl_x ?_
 refine wc_seq ?_
 refine wc_sr ?_
 refine wv (r := rI .i64 0) (o_assign rfl) ?_
 refine wl_x ?_
 refine wc_block ?_
 obtain ⟨o80, eo81, hK82⟩ := obn_e h
 refine wc_loop2 (S := Nat × (Int × Str × Int) × (Unit)) (V := (Int) × (Unit)) 0 (fun σ => lop (fun σ => rPairs_b1 F v n rec_rNext σ.1 σ.2.1 σ.2.2) σ.1 σ.2.1 = some o80) (fun σ => [(0, rSl 4 (List.map eTApiCell v)), (1, rI .i64 σ.2.1.1), (2, rI .i64 n), (7, rS σ.2.1.2.1), (8, rI .i64 σ.2.1.2.2)]) (fun σ => []) (fun σ => σ.1) (F, (i, ([] : Str), 0), ()) eo81 (Sub.c5 rfl rfl rfl rfl rfl Sub.nil) sN (fun σ => rPairs_k1 σ.1 = some r) (fun σ => [(1, rI .i64 σ.1)]) (fun σ => []) ?_ ?_
 ·rintro ⟨n88, ⟨x51, x52, x53⟩, ⟨⟩⟩ hi86
  refine wc_as (l' := [(0, rSl 4 (List.map eTApiCell v)), (1, rI .i64 x51), (2, rI .i64 n), (7, rS x52), (8, rI .i64 x53)]) (H' := []) rfl rfl ?_
  obtain ⟨m85, rfl, t83, h87, ht84⟩ := lop_e hi86
  replace h87 : rPairs_b1 F v n rec_rNext x51 x52 x53 = some t83 := h87
  unfold rPairs_b1 at h87
  refine wc_seq ?_
  refine wc_sr ?_
  refine wm rfl ?_
  refine wm rfl ?_
  refine wv (o_lt rfl rfl) ?_
  refine wl_x ?_
  refine wc_cond (b := decide (x53 < n)) rfl (fun c89 => ?_) (fun c89 => ?_)
  ·have h90 := cnd_t c89 h87
   refine wc_skip ?_
   refine wk_x ?_
   refine wc_seq ?_
   refine wc_block ?_
   refine wc_seq ?_
   obtain ⟨g91, h92⟩ := chk_e h90
   obtain ⟨g93, h94⟩ := chk_e h92
   refine wc_seq_mid [(0, rSl 4 (List.map eTApiCell v)), (1, rI .i64 x51), (2, rI .i64 n), (8, rI .i64 x53), (38, rB ((decide ((v.length : Int) ≤ x51)) || ((!(ov (rKey F (at' v x51)))) || ((decide (0 < x53)) && (sLess ((at' v x51).fStr) x52 || decide (((at' v x51).fStr) = x52))))))] [] ?_ ?_
   ·refine wc_region ?_
    refine wm rfl ?_
    refine wm rfl ?_
    refine wv (o_len_zt (ys := v) (enc := eTApiCell) Tryz.underlying33 rfl) ?_
    refine wv (o_ge rfl rfl) ?_
    refine wm rfl ?_
    refine bsplit (decide ((v.length : Int) ≤ x51)) (fun c95 => ?_) (fun c95 => ?_)
    ·refine wf c95 ?_
     refine wf c95 ?_
     refine wf c95 ?_
     refine wf c95 ?_
     refine wf c95 ?_
     refine wf c95 ?_
     refine wv (r := rB true) (o_pick_t (b := decide ((v.length : Int) ≤ x51)) rfl c95 rfl) ?_
     refine wm rfl ?_
     refine wl_off (b := true) rfl rfl rfl rfl ?_
     refine wl_off (b := true) rfl rfl rfl rfl ?_
     refine wl_off (b := true) rfl rfl rfl rfl ?_
     refine wu ?_
     refine wu ?_
     refine wu ?_
     refine wu ?_
     refine wu ?_
     refine wu ?_
     refine wu ?_
     refine wl_off (b := true) rfl rfl rfl rfl ?_
     refine wv (r := rB true) (o_pick_t (b := true) rfl rfl rfl) ?_
     refine wl_nil ?_
     exact wtc c95
    ·refine wo c95 ?_
     refine wm rfl ?_
     refine wo c95 ?_
     refine wm rfl ?_
     refine wo c95 ?_
     refine wv (o_ix_z (enc := eTApiCell) (ys := v) Tryz.underlying33 Tryz.sizeOf78 rfl rfl (imp_f g91 c95)) ?_
     refine wo c95 ?_
     refine wv (o_load_za Tryz.isAgg78 Tryz.sizeOf78 rfl rfl rfl) ?_
     refine wo c95 ?_
     refine wc0 Tryz.call128 (rKey_w F (at' v x51) (ov (rKey F (at' v x51))) (ov_e (imp_f g93 c95))) rfl ?_
     refine wo c95 ?_
     refine wv (o_not rfl) ?_
     refine wpf rfl c95 rfl ?_
     refine wm rfl ?_
     refine bsplit (!(ov (rKey F (at' v x51)))) (fun c96 => ?_) (fun c96 => ?_)
     ·refine wf c96 ?_
      refine wf c96 ?_
      refine wf c96 ?_
      refine wu ?_
      refine wu ?_
      refine wu ?_
      refine wu ?_
      refine wu ?_
      refine wu ?_
      refine wu ?_
      refine wf c96 ?_
      refine wv (r := rB true) (o_pick_t (b := !(ov (rKey F (at' v x51)))) rfl c96 rfl) ?_
      refine wl_nil ?_
      exact wtc (And.intro c95 c96)
     ·refine wo c96 ?_
      refine wm rfl ?_
      refine wo c96 ?_
      refine wv (o_gt rfl rfl) ?_
      refine wo c96 ?_
      refine wm rfl ?_
      refine bsplit (decide (0 < x53)) (fun c97 => ?_) (fun c97 => ?_)
      ·refine wo c97 ?_
       refine wm rfl ?_
       refine wo c97 ?_
       refine wm rfl ?_
       refine wo c97 ?_
       refine wv (o_ix_z (enc := eTApiCell) (ys := v) Tryz.underlying33 Tryz.sizeOf78 rfl rfl (imp_f g91 c95)) ?_
       refine wo c97 ?_
       refine wv (o_fieldAddr_z Tryz.underlying78 rfl Tryz.sizeOf9 rfl rfl) ?_
       refine wo c97 ?_
       refine wv (o_load_z Tryz.isAgg9 rfl rfl) ?_
       refine wo c97 ?_
       refine wm rfl ?_
       refine wo c97 ?_
       refine wv (o_sle rfl rfl) ?_
       refine wo c96 ?_
       refine wpt rfl c97 rfl ?_
       refine wpf rfl c96 rfl ?_
       refine wl_nil ?_
       exact wtc (And.intro c95 (And.intro c96 c97))
      ·refine wf c97 ?_
       refine wf c97 ?_
       refine wf c97 ?_
       refine wf c97 ?_
       refine wf c97 ?_
       refine wf c97 ?_
       refine wf c97 ?_
       refine wo c96 ?_
       refine wv (r := rB false) (o_pick_f (b := decide (0 < x53)) rfl c97 rfl) ?_
       refine wpf rfl c96 rfl ?_
       refine wl_nil ?_
       exact wtc (And.intro c95 (And.intro c96 c97))
   refine wc_cond (b := ((decide ((v.length : Int) ≤ x51)) || ((!(ov (rKey F (at' v x51)))) || ((decide (0 < x53)) && (sLess ((at' v x51).fStr) x52 || decide (((at' v x51).fStr) = x52)))))) rfl (fun c98 => ?_) (fun c98 => ?_)
   ·have h99 := cnd_t c98 h94
    refine wc_sr ?_
    refine wv (r := rI .i64 (-1)) (o_assign rfl) ?_
    refine wl_x ?_
    refine wc_ret ?_
    refine wk_then_ret ?_
    refine wk_in_ret ?_
    refine wk_then_ret ?_
    refine wk_then_ret ?_
    refine wk_cut_ret ?_
    have h100 := stp_ret h99 ht84 hK82
    refine wk_in_ret ?_
    refine wk_then_ret ?_
    obtain rfl := some_e h100
    exact wk_ret (r_1 Tryz.results130 (rv_t rfl)) sN ⟨rfl, rfl⟩
   ·have h101 := cnd_f c98 h94
    refine wc_skip ?_
    refine wk_x ?_
    refine wc_sr ?_
    refine wm rfl ?_
    refine wm rfl ?_
    obtain ⟨g102, h103⟩ := chk_e h101
    refine wv (o_ix_z (enc := eTApiCell) (ys := v) Tryz.underlying33 Tryz.sizeOf78 rfl rfl g102) ?_
    refine wv (o_fieldAddr_z Tryz.underlying78 rfl Tryz.sizeOf9 rfl rfl) ?_
    refine wv (o_load_z Tryz.isAgg9 rfl rfl) ?_
    refine wa rfl ?_
    refine wl_y ?_
    refine wm rfl ?_
    refine wm rfl ?_
    obtain ⟨g104, h105⟩ := chk_e h103
    refine wv (o_add rfl rfl g104) ?_
    obtain ⟨r106, e108, h107⟩ := obn_e h105
    refine wc0 Tryz.call93 (ih_rNext v (x51 + 1) r106 e108) rfl ?_
    refine wa rfl ?_
    refine wl_y ?_
    refine wm rfl ?_
    refine wv (o_lt rfl rfl) ?_
    refine wl_x ?_
    refine wc_cond (b := decide (r106 < 0)) rfl (fun c109 => ?_) (fun c109 => ?_)
    ·have h110 := cnd_t c109 h107
     refine wc_sr ?_
     refine wv (r := rI .i64 (-1)) (o_assign rfl) ?_
     refine wl_x ?_
     refine wc_ret ?_
     refine wk_in_ret ?_
     refine wk_then_ret ?_
     refine wk_then_ret ?_
     refine wk_cut_ret ?_
     have h111 := stp_ret h110 ht84 hK82
     refine wk_in_ret ?_
     refine wk_then_ret ?_
     obtain rfl := some_e h111
     exact wk_ret (r_1 Tryz.results130 (rv_t rfl)) sN ⟨rfl, rfl⟩
    ·have h112 := cnd_f c109 h107
     refine wc_skip ?_
     refine wk_in_norm ?_
     refine wk_x ?_
     refine wc_region ?_
     refine wm rfl ?_
     obtain ⟨g113, h114⟩ := chk_e h112
     refine wv (o_add rfl rfl g113) ?_
     refine wa rfl ?_
     refine wl_nil ?_
     have h115 := stp_next h114 ht84
     exact wk_then (wk_some (m85, (r106, (at' v x51).fStr, x53 + 1), ()) ⟨h115, Nat.lt_succ_self _⟩ (Sub.c5 rfl rfl rfl rfl rfl Sub.nil) sN)
  ·have h116 := cnd_f c89 h87
   refine wc_exit ?_
   refine wk_then_exit ?_
   have h117 := stp_go h116 ht84 hK82
   exact wk_then_exit (wk_cut_hit (wk_some (x51, ()) h117 (Sub.c rfl Sub.nil) sN))
 ·rintro ⟨x79, ⟨⟩⟩ h118
  refine wk_as (l' := [(1, rI .i64 x79)]) (H' := []) rfl rfl ?_
  replace h118 : rPairs_k1 x79 = some r := h118
  unfold rPairs_k1 at h118
  refine wk_in_hit ?_
  refine wk_x ?_
  refine wc_sr ?_
  refine wm rfl ?_
  refine wa rfl ?_
  refine wl_x ?_
  refine wc_ret ?_
  obtain rfl := some_e h118
  exact wk_ret (r_1 Tryz.results130 (rv_t rfl)) sN ⟨rfl, rfl⟩

theorem rNext_all : ∀ F : Nat, (∀ (v : (List TApiCell)) (i : Int) (r : Int), rNext F v i = some r → Fn Tryz.prog GE 93 [rSl 4 (List.map eTApiCell v), rI .i64 i] [] (fun R H => R = rI .i64 r ∧ H = [])) ∧ (∀ (v : (List TApiCell)) (i : Int) (n : Int) (r : Int), rElements F v i n = some r → Fn Tryz.prog GE 129 [rSl 4 (List.map eTApiCell v), rI .i64 i, rI .i64 n] [] (fun R H => R = rI .i64 r ∧ H = [])) ∧ (∀ (v : (List TApiCell)) (i : Int) (n : Int) (r : Int), rPairs F v i n = some r → Fn Tryz.prog GE 130 [rSl 4 (List.map eTApiCell v), rI .i64 i, rI .i64 n] [] (fun R H => R = rI .i64 r ∧ H = []))
  | 0 => ⟨(fun _ _ _ h => by simp [rNext] at h), (fun _ _ _ _ h => by simp [rElements] at h), (fun _ _ _ _ h => by simp [rPairs] at h)⟩
  | nn + 1 => ⟨(fun v i r h => rNextm_w nn (rElements nn) (rPairs nn) (rNext_all nn).2.1 (rNext_all nn).2.2 v i r (by rw [rNext] at h; exact h)), (fun v i n r h => rElementsm_w nn (rNext nn) (rNext_all nn).1 v i n r (by rw [rElements] at h; exact h)), (fun v i n r h => rPairsm_w nn (rNext nn) (rNext_all nn).1 v i n r (by rw [rPairs] at h; exact h))⟩

theorem rNext_w (F : Nat) (v : (List TApiCell)) (i : Int) (r : Int) (h : rNext F v i = some r) : Fn Tryz.prog GE 93 [rSl 4 (List.map eTApiCell v), rI .i64 i] [] (fun R H => R = rI .i64 r ∧ H = []) := (rNext_all F).1 v i r h

theorem rFormed_w (F : Nat) (v : (List TApiCell)) (r : Bool) (h : rFormed F v = some r) : Fn Tryz.prog GE 82 [rSl 4 (List.map eTApiCell v)] [] (fun R H => R = rB r ∧ H = []) := by
 refine enter (n := 13) Tryz.func82 rfl Tryz.ntmps82 rfl (fun w Z => ?_)
 refine wc_as (l' := [(0, rSl 4 (List.map eTApiCell v))]) (H' := []) rfl rfl ?_
 unfold rFormed at h
 refine wc_sr ?_
 refine wv (r := rB false) (o_assign rfl) ?_
 refine wl_x ?_
 obtain ⟨g1, h2⟩ := chk_e h
 refine wc_seq_mid [(2, rB ((decide (0 < (v.length : Int))) && (decide ((ov (rNext F v 0)) = (v.length : Int)))))] [] ?_ ?_
 ·refine wc_region ?_
  refine wm rfl ?_
  refine wv (o_len_zt (ys := v) (enc := eTApiCell) Tryz.underlying33 rfl) ?_
  refine wv (o_gt rfl rfl) ?_
  refine wm rfl ?_
  refine bsplit (decide (0 < (v.length : Int))) (fun c3 => ?_) (fun c3 => ?_)
  ·refine wo c3 ?_
   refine wm rfl ?_
   refine wo c3 ?_
   refine wc0 Tryz.call93 (rNext_w F v 0 (ov (rNext F v 0)) (ov_e (imp_t g1 c3))) rfl ?_
   refine wo c3 ?_
   refine wm rfl ?_
   refine wo c3 ?_
   refine wv (o_len_zt (ys := v) (enc := eTApiCell) Tryz.underlying33 rfl) ?_
   refine wo c3 ?_
   refine wv (o_eq rfl rfl) ?_
   refine wpt rfl c3 rfl ?_
   refine wa rfl ?_
   refine wl_nil ?_
   exact wtc c3
  ·refine wf c3 ?_
   refine wf c3 ?_
   refine wf c3 ?_
   refine wf c3 ?_
   refine wf c3 ?_
   refine wv (r := rB false) (o_pick_f (b := decide (0 < (v.length : Int))) rfl c3 rfl) ?_
   refine wa rfl ?_
   refine wl_nil ?_
   exact wtc c3
 refine wc_ret ?_
 obtain rfl := some_e h2
 exact wk_ret (r_1 Tryz.results82 (rv_t rfl)) sN ⟨rfl, rfl⟩

theorem rLevelsm_w (F : Nat) (rec_rLevels : (List TApiCell) → Int → Option (Int)) (ih_rLevels : (∀ (v : (List TApiCell)) (i : Int) (r : Int), rec_rLevels v i = some r → Fn Tryz.prog GE 83 [rSl 4 (List.map eTApiCell v), rI .i64 i] [] (fun R H => R = rI .i64 r ∧ H = []))) (v : (List TApiCell)) (i : Int) (r : Int) (h : rLevelsm F rec_rLevels v i = some r) : Fn Tryz.prog GE 83 [rSl 4 (List.map eTApiCell v), rI .i64 i] [] (fun R H => R = rI .i64 r ∧ H = []) := by
 refine enter (n := 47) Tryz.func83 rfl Tryz.ntmps83 rfl (fun w Z => ?_)
 refine wc_as (l' := [(0, rSl 4 (List.map eTApiCell v)), (1, rI .i64 i)]) (H' := []) rfl rfl ?_
 unfold rLevelsm at h
 refine wc_sr ?_
 refine wv (r := rI .i64 0) (o_assign rfl) ?_
 refine wl_y ?_
 refine wm rfl ?_
 refine wm rfl ?_
 obtain ⟨g1, h2⟩ := chk_e h
 refine wv (o_ix_z (enc := eTApiCell) (ys := v) Tryz.underlying33 Tryz.sizeOf78 rfl rfl g1) ?_
 refine wv (o_load_za Tryz.isAgg78 Tryz.sizeOf78 rfl rfl rfl) ?_
 refine w_alloc (cs := [rI .i64 0, rI .i64 0, rS ([] : Str), rI .i64 0]) Tryz.zeroValue78 rfl rfl (fun b3 => ?_)
 refine u_store_agg (i := 0) Tryz.sizeOf78 rfl rfl rfl (OneAll.c rfl) rfl rfl (cs' := [rI .i64 ((at' v i).fKind), rI .i64 ((at' v i).fInt), rS ((at' v i).fStr), rI .i64 ((at' v i).fN)]) rfl (H' := [.blk b3 (eTApiCell (at' v i)) 78]) rfl ?_
 refine wl_x ?_
 refine wc_seq ?_
 refine wc_seq_mid [(0, rSl 4 (List.map eTApiCell v)), (1, rI .i64 i), (5, rv (.pointer (some ⟨b3, 0, none⟩))), (21, rB ((!decide (((at' v i).fKind) = 5)) && (!decide (((at' v i).fKind) = 6))))] [.blk b3 (eTApiCell (at' v i)) 78] ?_ ?_
 ·refine wc_region ?_
  refine wv (o_fieldAddr Tryz.underlying78 rfl Tryz.sizeOf76 rfl rfl) ?_
  refine wv (o_load (i := 0) Tryz.isAgg76 rfl rfl rfl) ?_
  refine wv (o_ne rfl rfl) ?_
  refine wm rfl ?_
  refine bsplit (!decide (((at' v i).fKind) = 5)) (fun c4 => ?_) (fun c4 => ?_)
  ·refine wo c4 ?_
   refine wv (o_fieldAddr Tryz.underlying78 rfl Tryz.sizeOf76 rfl rfl) ?_
   refine wo c4 ?_
   refine wv (o_load (i := 0) Tryz.isAgg76 rfl rfl rfl) ?_
   refine wo c4 ?_
   refine wv (o_ne rfl rfl) ?_
   refine wpt rfl c4 rfl ?_
   refine wl_nil ?_
   exact wtc c4
  ·refine wf c4 ?_
   refine wf c4 ?_
   refine wf c4 ?_
   refine wv (r := rB false) (o_pick_f (b := !decide (((at' v i).fKind) = 5)) rfl c4 rfl) ?_
   refine wl_nil ?_
   exact wtc c4
 refine wc_cond (b := ((!decide (((at' v i).fKind) = 5)) && (!decide (((at' v i).fKind) = 6)))) rfl (fun c5 => ?_) (fun c5 => ?_)
 ·have h6 := cnd_t c5 h2
  refine wc_sr ?_
  refine wv (r := rI .i64 1) (o_assign rfl) ?_
  refine wl_x ?_
  refine wc_ret ?_
  refine wk_then_ret ?_
  obtain rfl := some_e h6
  exact wk_ret (r_1 Tryz.results83 (rv_t rfl)) (sS sN) ⟨rfl, rfl⟩
 ·have h7 := cnd_f c5 h2
  refine wc_skip ?_
  refine wk_x ?_
  refine wc_sr ?_
  refine wv (r := rI .i64 0) (o_assign rfl) ?_
  refine wl_y ?_
  refine wm rfl ?_
  obtain ⟨g8, h9⟩ := chk_e h7
  refine wv (o_add rfl rfl g8) ?_
  refine wa rfl ?_
  refine wl_x ?_
  refine wc_seq ?_
  refine wc_sr ?_
  refine wv (r := rI .i64 0) (o_assign rfl) ?_
  refine wl_x ?_
  refine wc_block ?_
  obtain ⟨o129, eo130, hK131⟩ := obn_e h9
  refine wc_loop2 (S := Nat × (Int × Int × Int) × (Unit)) (V := (Int) × (Unit)) 0 (fun σ => lop (fun σ => rLevels_b1 F v i rec_rLevels σ.1 σ.2.1 σ.2.2) σ.1 σ.2.1 = some o129) (fun σ => [(0, rSl 4 (List.map eTApiCell v)), (5, rv (.pointer (some ⟨b3, 0, none⟩))), (6, rI .i64 σ.2.1.1), (7, rI .i64 σ.2.1.2.1), (8, rI .i64 σ.2.1.2.2)]) (fun σ => [.blk b3 (eTApiCell (at' v i)) 78]) (fun σ => σ.1) (F, (0, i + 1, 0), ()) eo130 (Sub.c5 rfl rfl rfl rfl rfl Sub.nil) (sC sN) (fun σ => rLevels_k1 σ.1 = some r) (fun σ => [(6, rI .i64 σ.1)]) (fun σ => []) ?_ ?_
  ·rintro ⟨n137, ⟨x85, x86, x87⟩, ⟨⟩⟩ hi135
   refine wc_as (l' := [(0, rSl 4 (List.map eTApiCell v)), (5, rv (.pointer (some ⟨b3, 0, none⟩))), (6, rI .i64 x85), (7, rI .i64 x86), (8, rI .i64 x87)]) (H' := [.blk b3 (eTApiCell (at' v i)) 78]) rfl rfl ?_
   obtain ⟨m134, rfl, t132, h136, ht133⟩ := lop_e hi135
   replace h136 : rLevels_b1 F v i rec_rLevels x85 x86 x87 = some t132 := h136
   unfold rLevels_b1 at h136
   refine wc_seq ?_
   refine wc_sr ?_
   refine wm rfl ?_
   refine wv (o_fieldAddr Tryz.underlying78 rfl Tryz.sizeOf3 rfl rfl) ?_
   refine wv (o_load (i := 0) Tryz.isAgg3 rfl rfl rfl) ?_
   refine wv (o_lt rfl rfl) ?_
   refine wl_x ?_
   refine wc_cond (b := decide (x87 < ((at' v i).fN))) rfl (fun c138 => ?_) (fun c138 => ?_)
   ·have h139 := cnd_t c138 h136
    refine wc_skip ?_
    refine wk_x ?_
    refine wc_seq ?_
    refine wc_block ?_
    refine wc_seq ?_
    refine wc_sr ?_
    refine wv (o_fieldAddr Tryz.underlying78 rfl Tryz.sizeOf76 rfl rfl) ?_
    refine wv (o_load (i := 0) Tryz.isAgg76 rfl rfl rfl) ?_
    refine wv (o_eq rfl rfl) ?_
    refine wl_x ?_
    refine wc_cond (b := decide (((at' v i).fKind) = 6)) rfl (fun c140 => ?_) (fun c140 => ?_)
    ·have h141 := cnd_t c140 h139
     refine wc_region ?_
     refine wm rfl ?_
     obtain ⟨g142, h143⟩ := chk_e h141
     refine wv (o_add rfl rfl g142) ?_
     refine wa rfl ?_
     refine wl_y ?_
     refine wm rfl ?_
     refine wm rfl ?_
     obtain ⟨r144, e146, h145⟩ := obn_e h143
     refine wc0 Tryz.call83 (ih_rLevels v (x86 + 1) r144 e146) rfl ?_
     refine wa rfl ?_
     refine wl_x ?_
     refine wc_seq ?_
     refine wc_sr ?_
     refine wm rfl ?_
     refine wm rfl ?_
     refine wv (o_gt rfl rfl) ?_
     refine wl_x ?_
     refine wc_cond (b := decide (x85 < r144)) rfl (fun c147 => ?_) (fun c147 => ?_)
     ·have h148 := cnd_t c147 h145
      refine wc_region ?_
      refine wm rfl ?_
      refine wa rfl ?_
      refine wl_x ?_
      refine wc_region ?_
      refine wm rfl ?_
      refine wm rfl ?_
      obtain ⟨r149, e151, h150⟩ := obn_e h148
      refine wc0 Tryz.call93 (rNext_w F v (x86 + 1) r149 e151) rfl ?_
      refine wa rfl ?_
      refine wl_nil ?_
      refine wk_in_norm ?_
      refine wk_x ?_
      refine wc_region ?_
      refine wm rfl ?_
      obtain ⟨g152, h153⟩ := chk_e h150
      refine wv (o_add rfl rfl g152) ?_
      refine wa rfl ?_
      refine wl_nil ?_
      have h154 := stp_next h153 ht133
      exact wk_then (wk_some (m134, (r144, r149, x87 + 1), ()) ⟨h154, Nat.lt_succ_self _⟩ (Sub.c5 rfl rfl rfl rfl rfl Sub.nil) (sC sN))
     ·have h155 := cnd_f c147 h145
      refine wc_skip ?_
      refine wk_x ?_
      refine wc_region ?_
      refine wm rfl ?_
      refine wm rfl ?_
      obtain ⟨r156, e158, h157⟩ := obn_e h155
      refine wc0 Tryz.call93 (rNext_w F v (x86 + 1) r156 e158) rfl ?_
      refine wa rfl ?_
      refine wl_nil ?_
      refine wk_in_norm ?_
      refine wk_x ?_
      refine wc_region ?_
      refine wm rfl ?_
      obtain ⟨g159, h160⟩ := chk_e h157
      refine wv (o_add rfl rfl g159) ?_
      refine wa rfl ?_
      refine wl_nil ?_
      have h161 := stp_next h160 ht133
      exact wk_then (wk_some (m134, (x85, r156, x87 + 1), ()) ⟨h161, Nat.lt_succ_self _⟩ (Sub.c5 rfl rfl rfl rfl rfl Sub.nil) (sC sN))
    ·have h162 := cnd_f c140 h139
     refine wc_skip ?_
     refine wk_x ?_
     refine wc_sr ?_
     refine wm rfl ?_
     refine wm rfl ?_
     obtain ⟨r163, e165, h164⟩ := obn_e h162
     refine wc0 Tryz.call83 (ih_rLevels v x86 r163 e165) rfl ?_
     refine wa rfl ?_
     refine wl_x ?_
     refine wc_seq ?_
     refine wc_sr ?_
     refine wm rfl ?_
     refine wm rfl ?_
     refine wv (o_gt rfl rfl) ?_
     refine wl_x ?_
     refine wc_cond (b := decide (x85 < r163)) rfl (fun c166 => ?_) (fun c166 => ?_)
     ·have h167 := cnd_t c166 h164
      refine wc_region ?_
      refine wm rfl ?_
      refine wa rfl ?_
      refine wl_x ?_
      refine wc_region ?_
      refine wm rfl ?_
      refine wm rfl ?_
      obtain ⟨r168, e170, h169⟩ := obn_e h167
      refine wc0 Tryz.call93 (rNext_w F v x86 r168 e170) rfl ?_
      refine wa rfl ?_
      refine wl_nil ?_
      refine wk_in_norm ?_
      refine wk_x ?_
      refine wc_region ?_
      refine wm rfl ?_
      obtain ⟨g171, h172⟩ := chk_e h169
      refine wv (o_add rfl rfl g171) ?_
      refine wa rfl ?_
      refine wl_nil ?_
      have h173 := stp_next h172 ht133
      exact wk_then (wk_some (m134, (r163, r168, x87 + 1), ()) ⟨h173, Nat.lt_succ_self _⟩ (Sub.c5 rfl rfl rfl rfl rfl Sub.nil) (sC sN))
     ·have h174 := cnd_f c166 h164
      refine wc_skip ?_
      refine wk_x ?_
      refine wc_region ?_
      refine wm rfl ?_
      refine wm rfl ?_
      obtain ⟨r175, e177, h176⟩ := obn_e h174
      refine wc0 Tryz.call93 (rNext_w F v x86 r175 e177) rfl ?_
      refine wa rfl ?_
      refine wl_nil ?_
      refine wk_in_norm ?_
      refine wk_x ?_
      refine wc_region ?_
      refine wm rfl ?_
      obtain ⟨g178, h179⟩ := chk_e h176
      refine wv (o_add rfl rfl g178) ?_
      refine wa rfl ?_
      refine wl_nil ?_
      have h180 := stp_next h179 ht133
      exact wk_then (wk_some (m134, (x85, r175, x87 + 1), ()) ⟨h180, Nat.lt_succ_self _⟩ (Sub.c5 rfl rfl rfl rfl rfl Sub.nil) (sC sN))
   ·have h181 := cnd_f c138 h136
    refine wc_exit ?_
    refine wk_then_exit ?_
    have h182 := stp_go h181 ht133 hK131
    exact wk_then_exit (wk_cut_hit (wk_some (x85, ()) h182 (Sub.c rfl Sub.nil) (sS sN)))
  ·rintro ⟨x128, ⟨⟩⟩ h183
   refine wk_as (l' := [(6, rI .i64 x128)]) (H' := []) rfl rfl ?_
   replace h183 : rLevels_k1 x128 = some r := h183
   unfold rLevels_k1 at h183
   refine wk_in_hit ?_
   refine wk_x ?_
   refine wc_sr ?_
   refine wm rfl ?_
   obtain ⟨g184, h185⟩ := chk_e h183
   refine wv (o_add rfl rfl g184) ?_
   refine wa rfl ?_
   refine wl_x ?_
   refine wc_ret ?_
   obtain rfl := some_e h185
   exact wk_ret (r_1 Tryz.results83 (rv_t rfl)) sN ⟨rfl, rfl⟩

theorem rLevels_all : ∀ F : Nat, (∀ (v : (List TApiCell)) (i : Int) (r : Int), rLevels F v i = some r → Fn Tryz.prog GE 83 [rSl 4 (List.map eTApiCell v), rI .i64 i] [] (fun R H => R = rI .i64 r ∧ H = []))
  | 0 => (fun _ _ _ h => by simp [rLevels] at h)
  | nn + 1 => (fun v i r h => rLevelsm_w nn (rLevels nn) (rLevels_all nn) v i r (by rw [rLevels] at h; exact h))

theorem rLevels_w (F : Nat) (v : (List TApiCell)) (i : Int) (r : Int) (h : rLevels F v i = some r) : Fn Tryz.prog GE 83 [rSl 4 (List.map eTApiCell v), rI .i64 i] [] (fun R H => R = rI .i64 r ∧ H = []) := (rLevels_all F) v i r h

theorem rQuoted_w (F : Nat) (s : Str) (r : Str) (h : rQuoted F s = some r) : Fn Tryz.prog GE 92 [rS s] [] (fun R H => R = rS r ∧ H = []) := by
 refine enter (n := 32) Tryz.func92 rfl Tryz.ntmps92 rfl (fun w Z => ?_)
 refine wc_as (l' := [(0, rS s)]) (H' := []) rfl rfl ?_
 unfold rQuoted at h
 refine wc_sr ?_
 refine wv (r := rS ([] : Str)) (o_assign rfl) ?_
 refine wl_y ?_
 refine wv (r := rS ([34] : Str)) (o_assign rfl) ?_
 refine wl_x ?_
 refine wc_seq ?_
 refine wc_sr ?_
 refine wv (r := rI .i64 0) (o_assign rfl) ?_
 refine wl_x ?_
 refine wc_block ?_
 obtain ⟨o83, eo84, hK85⟩ := obn_e h
 refine wc_loop2 (S := Nat × (Str × Int) × (Unit)) (V := (Str) × (Unit)) 0 (fun σ => lop (fun σ => rQuoted_b1 s σ.1 σ.2) σ.1 σ.2.1 = some o83) (fun σ => [(0, rS s), (3, rS σ.2.1.1), (4, rI .i64 σ.2.1.2)]) (fun σ => []) (fun σ => σ.1) (F, (([34] : Str), 0), ()) eo84 (Sub.c rfl (Sub.c rfl (Sub.c rfl Sub.nil))) sN (fun σ => rQuoted_k1 σ.1 = some r) (fun σ => [(3, rS σ.1)]) (fun σ => []) ?_ ?_
 ·rintro ⟨n91, ⟨x53, x54⟩, ⟨⟩⟩ hi89
  refine wc_as (l' := [(0, rS s), (3, rS x53), (4, rI .i64 x54)]) (H' := []) rfl rfl ?_
  obtain ⟨m88, rfl, t86, h90, ht87⟩ := lop_e hi89
  replace h90 : rQuoted_b1 s x53 x54 = some t86 := h90
  unfold rQuoted_b1 at h90
  refine wc_seq ?_
  refine wc_sr ?_
  refine wm rfl ?_
  refine wm rfl ?_
  refine wv (o_len_s Tryz.underlying9 rfl) ?_
  refine wv (o_lt rfl rfl) ?_
  refine wl_x ?_
  refine wc_cond (b := decide (x54 < (s.length : Int))) rfl (fun c92 => ?_) (fun c92 => ?_)
  ·have h93 := cnd_t c92 h90
   refine wc_skip ?_
   refine wk_x ?_
   refine wc_seq ?_
   refine wc_block ?_
   refine wc_seq ?_
   obtain ⟨g94, h95⟩ := chk_e h93
   refine wc_seq_mid [(0, rS s), (3, rS x53), (4, rI .i64 x54), (20, rB ((decide ((bat s x54) = 34)) || (decide ((bat s x54) = 92))))] [] ?_ ?_
   ·refine wc_region ?_
    refine wm rfl ?_
    refine wm rfl ?_
    refine wv (o_index_b Tryz.underlying9 rfl rfl g94) ?_
    refine wv (o_eq rfl rfl) ?_
    refine wm rfl ?_
    refine bsplit (decide ((bat s x54) = 34)) (fun c96 => ?_) (fun c96 => ?_)
    ·refine wf c96 ?_
     refine wf c96 ?_
     refine wf c96 ?_
     refine wf c96 ?_
     refine wv (r := rB true) (o_pick_t (b := decide ((bat s x54) = 34)) rfl c96 rfl) ?_
     refine wl_nil ?_
     exact wtc c96
    ·refine wo c96 ?_
     refine wm rfl ?_
     refine wo c96 ?_
     refine wm rfl ?_
     refine wo c96 ?_
     refine wv (o_index_b Tryz.underlying9 rfl rfl g94) ?_
     refine wo c96 ?_
     refine wv (o_eq rfl rfl) ?_
     refine wpf rfl c96 rfl ?_
     refine wl_nil ?_
     exact wtc c96
   refine wc_cond (b := ((decide ((bat s x54) = 34)) || (decide ((bat s x54) = 92)))) rfl (fun c97 => ?_) (fun c97 => ?_)
   ·have h98 := cnd_t c97 h95
    refine wc_region ?_
    refine wm rfl ?_
    obtain ⟨g99, h100⟩ := chk_e h98
    refine wv (o_sadd rfl rfl g99) ?_
    refine wa rfl ?_
    refine wl_x ?_
    refine wc_region ?_
    refine wm rfl ?_
    refine wm rfl ?_
    refine wm rfl ?_
    refine wm rfl ?_
    obtain ⟨g101, h102⟩ := chk_e h100
    refine wv (o_add rfl rfl g101) ?_
    obtain ⟨g103, h104⟩ := chk_e h102
    obtain ⟨g105, h106⟩ := chk_e h104
    refine wv (o_slice_lh Tryz.underlying9 rfl rfl rfl g103 g105) ?_
    obtain ⟨g107, h108⟩ := chk_e h106
    refine wv (o_sadd rfl rfl g107) ?_
    refine wa rfl ?_
    refine wl_nil ?_
    refine wk_in_norm ?_
    refine wk_x ?_
    refine wc_region ?_
    refine wm rfl ?_
    refine wv (o_add rfl rfl g101) ?_
    refine wa rfl ?_
    refine wl_nil ?_
    have h109 := stp_next h108 ht87
    exact wk_then (wk_some (m88, ((x53 ++ ([92] : Str)) ++ (List.take (Int.toNat (x54 + 1) - Int.toNat x54) (List.drop (Int.toNat x54) s)), x54 + 1), ()) ⟨h109, Nat.lt_succ_self _⟩ (Sub.c rfl (Sub.c rfl (Sub.c rfl Sub.nil))) sN)
   ·have h110 := cnd_f c97 h95
    refine wc_skip ?_
    refine wk_x ?_
    refine wc_region ?_
    refine wm rfl ?_
    refine wm rfl ?_
    refine wm rfl ?_
    refine wm rfl ?_
    obtain ⟨g111, h112⟩ := chk_e h110
    refine wv (o_add rfl rfl g111) ?_
    obtain ⟨g113, h114⟩ := chk_e h112
    obtain ⟨g115, h116⟩ := chk_e h114
    refine wv (o_slice_lh Tryz.underlying9 rfl rfl rfl g113 g115) ?_
    obtain ⟨g117, h118⟩ := chk_e h116
    refine wv (o_sadd rfl rfl g117) ?_
    refine wa rfl ?_
    refine wl_nil ?_
    refine wk_in_norm ?_
    refine wk_x ?_
    refine wc_region ?_
    refine wm rfl ?_
    refine wv (o_add rfl rfl g111) ?_
    refine wa rfl ?_
    refine wl_nil ?_
    have h119 := stp_next h118 ht87
    exact wk_then (wk_some (m88, (x53 ++ (List.take (Int.toNat (x54 + 1) - Int.toNat x54) (List.drop (Int.toNat x54) s)), x54 + 1), ()) ⟨h119, Nat.lt_succ_self _⟩ (Sub.c rfl (Sub.c rfl (Sub.c rfl Sub.nil))) sN)
  ·have h120 := cnd_f c92 h90
   refine wc_exit ?_
   refine wk_then_exit ?_
   have h121 := stp_go h120 ht87 hK85
   exact wk_then_exit (wk_cut_hit (wk_some (x53, ()) h121 (Sub.c rfl Sub.nil) sN))
 ·rintro ⟨x82, ⟨⟩⟩ h122
  refine wk_as (l' := [(3, rS x82)]) (H' := []) rfl rfl ?_
  replace h122 : rQuoted_k1 x82 = some r := h122
  unfold rQuoted_k1 at h122
  refine wk_in_hit ?_
  refine wk_x ?_
  refine wc_sr ?_
  refine wm rfl ?_
  obtain ⟨g123, h124⟩ := chk_e h122
  refine wv (o_sadd rfl rfl g123) ?_
  refine wa rfl ?_
  refine wl_x ?_
  refine wc_ret ?_
  obtain rfl := some_e h124
  exact wk_ret (r_1 Tryz.results92 (rv_t rfl)) sN ⟨rfl, rfl⟩

theorem rTextm_w (F : Nat) (rec_rText : (List TApiCell) → Int → Option (Str)) (ih_rText : (∀ (v : (List TApiCell)) (i : Int) (r : Str), rec_rText v i = some r → Fn Tryz.prog GE 69 [rSl 4 (List.map eTApiCell v), rI .i64 i] [] (fun R H => R = rS r ∧ H = []))) (v : (List TApiCell)) (i : Int) (r : Str) (h : rTextm F rec_rText v i = some r) : Fn Tryz.prog GE 69 [rSl 4 (List.map eTApiCell v), rI .i64 i] [] (fun R H => R = rS r ∧ H = []) := by
 refine enter (n := 77) Tryz.func69 rfl Tryz.ntmps69 rfl (fun w Z => ?_)
 refine wc_as (l' := [(0, rSl 4 (List.map eTApiCell v)), (1, rI .i64 i)]) (H' := []) rfl rfl ?_
 unfold rTextm at h
 refine wc_sr ?_
 refine wv (r := rS ([] : Str)) (o_assign rfl) ?_
 refine wl_y ?_
 refine wm rfl ?_
 refine wm rfl ?_
 obtain ⟨g1, h2⟩ := chk_e h
 refine wv (o_ix_z (enc := eTApiCell) (ys := v) Tryz.underlying33 Tryz.sizeOf78 rfl rfl g1) ?_
 refine wv (o_load_za Tryz.isAgg78 Tryz.sizeOf78 rfl rfl rfl) ?_
 refine w_alloc (cs := [rI .i64 0, rI .i64 0, rS ([] : Str), rI .i64 0]) Tryz.zeroValue78 rfl rfl (fun b3 => ?_)
 refine u_store_agg (i := 0) Tryz.sizeOf78 rfl rfl rfl (OneAll.c rfl) rfl rfl (cs' := [rI .i64 ((at' v i).fKind), rI .i64 ((at' v i).fInt), rS ((at' v i).fStr), rI .i64 ((at' v i).fN)]) rfl (H' := [.blk b3 (eTApiCell (at' v i)) 78]) rfl ?_
 refine wl_x ?_
 refine wc_seq ?_
 refine wc_sr ?_
 refine wv (o_fieldAddr Tryz.underlying78 rfl Tryz.sizeOf76 rfl rfl) ?_
 refine wv (o_load (i := 0) Tryz.isAgg76 rfl rfl rfl) ?_
 refine wv (o_eq rfl rfl) ?_
 refine wl_x ?_
 refine wc_cond (b := decide (((at' v i).fKind) = 1)) rfl (fun c4 => ?_) (fun c4 => ?_)
 ·have h5 := cnd_t c4 h2
  refine wc_sr ?_
  refine wv (r := rS ([110, 117, 108, 108] : Str)) (o_assign rfl) ?_
  refine wl_x ?_
  refine wc_ret ?_
  refine wk_then_ret ?_
  obtain rfl := some_e h5
  exact wk_ret (r_1 Tryz.results69 (rv_t rfl)) (sS sN) ⟨rfl, rfl⟩
 ·have h6 := cnd_f c4 h2
  refine wc_skip ?_
  refine wk_x ?_
  refine wc_seq ?_
  refine wc_sr ?_
  refine wv (o_fieldAddr Tryz.underlying78 rfl Tryz.sizeOf76 rfl rfl) ?_
  refine wv (o_load (i := 0) Tryz.isAgg76 rfl rfl rfl) ?_
  refine wv (o_eq rfl rfl) ?_
  refine wl_x ?_
  refine wc_cond (b := decide (((at' v i).fKind) = 2)) rfl (fun c7 => ?_) (fun c7 => ?_)
  ·have h8 := cnd_t c7 h6
   refine wc_seq ?_
   refine wc_sr ?_
   refine wv (o_fieldAddr Tryz.underlying78 rfl Tryz.sizeOf3 rfl rfl) ?_
   refine wv (o_load (i := 0) Tryz.isAgg3 rfl rfl rfl) ?_
   refine wv (o_eq rfl rfl) ?_
   refine wl_x ?_
   refine wc_cond (b := decide (((at' v i).fInt) = 1)) rfl (fun c9 => ?_) (fun c9 => ?_)
   ·have h10 := cnd_t c9 h8
    refine wc_sr ?_
    refine wv (r := rS ([116, 114, 117, 101] : Str)) (o_assign rfl) ?_
    refine wl_x ?_
    refine wc_ret ?_
    refine wk_then_ret ?_
    refine wk_then_ret ?_
    obtain rfl := some_e h10
    exact wk_ret (r_1 Tryz.results69 (rv_t rfl)) (sS sN) ⟨rfl, rfl⟩
   ·have h11 := cnd_f c9 h8
    refine wc_skip ?_
    refine wk_x ?_
    refine wc_sr ?_
    refine wv (r := rS ([102, 97, 108, 115, 101] : Str)) (o_assign rfl) ?_
    refine wl_x ?_
    refine wc_ret ?_
    refine wk_then_ret ?_
    obtain rfl := some_e h11
    exact wk_ret (r_1 Tryz.results69 (rv_t rfl)) (sS sN) ⟨rfl, rfl⟩
  ·have h12 := cnd_f c7 h6
   refine wc_skip ?_
   refine wk_x ?_
   refine wc_seq ?_
   refine wc_sr ?_
   refine wv (o_fieldAddr Tryz.underlying78 rfl Tryz.sizeOf76 rfl rfl) ?_
   refine wv (o_load (i := 0) Tryz.isAgg76 rfl rfl rfl) ?_
   refine wv (o_eq rfl rfl) ?_
   refine wl_x ?_
   refine wc_cond (b := decide (((at' v i).fKind) = 3)) rfl (fun c13 => ?_) (fun c13 => ?_)
   ·have h14 := cnd_t c13 h12
    refine wc_sr ?_
    refine wv (o_fieldAddr Tryz.underlying78 rfl Tryz.sizeOf3 rfl rfl) ?_
    refine wv (o_load (i := 0) Tryz.isAgg3 rfl rfl rfl) ?_
    obtain ⟨g15, h16⟩ := chk_e h14
    refine w_call0 (rs := [rI .i64 ((at' v i).fInt)]) (r := rS (Lib.itoa ((at' v i).fInt))) Tryz.call89 rfl (itoa_q ((at' v i).fInt) g15) rfl rfl ?_
    refine wa rfl ?_
    refine wl_x ?_
    refine wc_ret ?_
    refine wk_then_ret ?_
    obtain rfl := some_e h16
    exact wk_ret (r_1 Tryz.results69 (rv_t rfl)) (sS sN) ⟨rfl, rfl⟩
   ·have h17 := cnd_f c13 h12
    refine wc_skip ?_
    refine wk_x ?_
    refine wc_seq ?_
    refine wc_sr ?_
    refine wv (o_fieldAddr Tryz.underlying78 rfl Tryz.sizeOf76 rfl rfl) ?_
    refine wv (o_load (i := 0) Tryz.isAgg76 rfl rfl rfl) ?_
    refine wv (o_eq rfl rfl) ?_
    refine wl_x ?_
    refine wc_cond (b := decide (((at' v i).fKind) = 4)) rfl (fun c18 => ?_) (fun c18 => ?_)
    ·have h19 := cnd_t c18 h17
     refine wc_sr ?_
     refine wv (o_fieldAddr Tryz.underlying78 rfl Tryz.sizeOf9 rfl rfl) ?_
     refine wv (o_load (i := 0) Tryz.isAgg9 rfl rfl rfl) ?_
     obtain ⟨r20, e22, h21⟩ := obn_e h19
     refine wc0 Tryz.call92 (rQuoted_w F ((at' v i).fStr) r20 e22) rfl ?_
     refine wa rfl ?_
     refine wl_x ?_
     refine wc_ret ?_
     refine wk_then_ret ?_
     obtain rfl := some_e h21
     exact wk_ret (r_1 Tryz.results69 (rv_t rfl)) (sS sN) ⟨rfl, rfl⟩
    ·have h23 := cnd_f c18 h17
     refine wc_skip ?_
     refine wk_x ?_
     refine wc_sr ?_
     refine wv (r := rS ([] : Str)) (o_assign rfl) ?_
     refine wl_y ?_
     refine wm rfl ?_
     obtain ⟨g24, h25⟩ := chk_e h23
     refine wv (o_add rfl rfl g24) ?_
     refine wa rfl ?_
     refine wl_x ?_
     refine wc_seq ?_
     refine wc_sr ?_
     refine wv (r := rI .i64 0) (o_assign rfl) ?_
     refine wl_x ?_
     refine wc_block ?_
     obtain ⟨o218, eo219, hK220⟩ := obn_e h25
     refine wc_loop2 (S := Nat × (Str × Int × Int) × (Unit)) (V := (Str) × (Unit)) 0 (fun σ => lop (fun σ => rText_b1 F v i rec_rText σ.1 σ.2.1 σ.2.2) σ.1 σ.2.1 = some o218) (fun σ => [(0, rSl 4 (List.map eTApiCell v)), (4, rS ([] : Str)), (5, rv (.pointer (some ⟨b3, 0, none⟩))), (6, rS σ.2.1.1), (7, rI .i64 σ.2.1.2.1), (8, rI .i64 σ.2.1.2.2)]) (fun σ => [.blk b3 (eTApiCell (at' v i)) 78]) (fun σ => σ.1) (F, (([] : Str), i + 1, 0), ()) eo219 (Sub.c rfl (Sub.c5 rfl rfl rfl rfl rfl Sub.nil)) (sC sN) (fun σ => rText_k1 v i σ.1 = some r) (fun σ => [(4, rS ([] : Str)), (5, rv (.pointer (some ⟨b3, 0, none⟩))), (6, rS σ.1)]) (fun σ => [.blk b3 (eTApiCell (at' v i)) 78]) ?_ ?_
     ·rintro ⟨n226, ⟨x138, x139, x140⟩, ⟨⟩⟩ hi224
      refine wc_as (l' := [(0, rSl 4 (List.map eTApiCell v)), (4, rS ([] : Str)), (5, rv (.pointer (some ⟨b3, 0, none⟩))), (6, rS x138), (7, rI .i64 x139), (8, rI .i64 x140)]) (H' := [.blk b3 (eTApiCell (at' v i)) 78]) rfl rfl ?_
      obtain ⟨m223, rfl, t221, h225, ht222⟩ := lop_e hi224
      replace h225 : rText_b1 F v i rec_rText x138 x139 x140 = some t221 := h225
      unfold rText_b1 at h225
      refine wc_seq ?_
      refine wc_sr ?_
      refine wm rfl ?_
      refine wv (o_fieldAddr Tryz.underlying78 rfl Tryz.sizeOf3 rfl rfl) ?_
      refine wv (o_load (i := 0) Tryz.isAgg3 rfl rfl rfl) ?_
      refine wv (o_lt rfl rfl) ?_
      refine wl_x ?_
      refine wc_cond (b := decide (x140 < ((at' v i).fN))) rfl (fun c227 => ?_) (fun c227 => ?_)
      ·have h228 := cnd_t c227 h225
       refine wc_skip ?_
       refine wk_x ?_
       refine wc_seq ?_
       refine wc_block ?_
       refine wc_seq ?_
       refine wc_sr ?_
       refine wm rfl ?_
       refine wv (o_gt rfl rfl) ?_
       refine wl_x ?_
       refine wc_cond (b := decide (0 < x140)) rfl (fun c229 => ?_) (fun c229 => ?_)
       ·have h230 := cnd_t c229 h228
        refine wc_region ?_
        refine wm rfl ?_
        obtain ⟨g231, h232⟩ := chk_e h230
        refine wv (o_sadd rfl rfl g231) ?_
        refine wa rfl ?_
        refine wl_x ?_
        refine wc_seq ?_
        refine wc_sr ?_
        refine wv (o_fieldAddr Tryz.underlying78 rfl Tryz.sizeOf76 rfl rfl) ?_
        refine wv (o_load (i := 0) Tryz.isAgg76 rfl rfl rfl) ?_
        refine wv (o_eq rfl rfl) ?_
        refine wl_x ?_
        refine wc_cond (b := decide (((at' v i).fKind) = 6)) rfl (fun c233 => ?_) (fun c233 => ?_)
        ·have h234 := cnd_t c233 h232
         refine wc_sr ?_
         refine wm rfl ?_
         refine wm rfl ?_
         refine wm rfl ?_
         obtain ⟨g235, h236⟩ := chk_e h234
         refine wv (o_ix_z (enc := eTApiCell) (ys := v) Tryz.underlying33 Tryz.sizeOf78 rfl rfl g235) ?_
         refine wv (o_fieldAddr_z Tryz.underlying78 rfl Tryz.sizeOf9 rfl rfl) ?_
         refine wv (o_load_z Tryz.isAgg9 rfl rfl) ?_
         obtain ⟨r237, e239, h238⟩ := obn_e h236
         refine wc0 Tryz.call92 (rQuoted_w F ((at' v x139).fStr) r237 e239) rfl ?_
         obtain ⟨g240, h241⟩ := chk_e h238
         refine wv (o_sadd rfl rfl g240) ?_
         obtain ⟨g242, h243⟩ := chk_e h241
         refine wv (o_sadd rfl rfl g242) ?_
         refine wa rfl ?_
         refine wl_x ?_
         refine wc_region ?_
         refine wm rfl ?_
         obtain ⟨g244, h245⟩ := chk_e h243
         refine wv (o_add rfl rfl g244) ?_
         refine wa rfl ?_
         refine wl_y ?_
         refine wm rfl ?_
         refine wm rfl ?_
         refine wm rfl ?_
         obtain ⟨r246, e248, h247⟩ := obn_e h245
         refine wc0 Tryz.call69 (ih_rText v (x139 + 1) r246 e248) rfl ?_
         obtain ⟨g249, h250⟩ := chk_e h247
         refine wv (o_sadd rfl rfl g249) ?_
         refine wa rfl ?_
         refine wl_x ?_
         refine wc_region ?_
         refine wm rfl ?_
         refine wm rfl ?_
         obtain ⟨r251, e253, h252⟩ := obn_e h250
         refine wc0 Tryz.call93 (rNext_w F v (x139 + 1) r251 e253) rfl ?_
         refine wa rfl ?_
         refine wl_nil ?_
         refine wk_in_norm ?_
         refine wk_x ?_
         refine wc_region ?_
         refine wm rfl ?_
         obtain ⟨g254, h255⟩ := chk_e h252
         refine wv (o_add rfl rfl g254) ?_
         refine wa rfl ?_
         refine wl_nil ?_
         have h256 := stp_next h255 ht222
         exact wk_then (wk_some (m223, ((((x138 ++ ([44] : Str)) ++ r237) ++ ([58] : Str)) ++ r246, r251, x140 + 1), ()) ⟨h256, Nat.lt_succ_self _⟩ (Sub.c rfl (Sub.c5 rfl rfl rfl rfl rfl Sub.nil)) (sC sN))
        ·have h257 := cnd_f c233 h232
         refine wc_skip ?_
         refine wk_x ?_
         refine wc_sr ?_
         refine wm rfl ?_
         refine wm rfl ?_
         refine wm rfl ?_
         obtain ⟨r258, e260, h259⟩ := obn_e h257
         refine wc0 Tryz.call69 (ih_rText v x139 r258 e260) rfl ?_
         obtain ⟨g261, h262⟩ := chk_e h259
         refine wv (o_sadd rfl rfl g261) ?_
         refine wa rfl ?_
         refine wl_x ?_
         refine wc_region ?_
         refine wm rfl ?_
         refine wm rfl ?_
         obtain ⟨r263, e265, h264⟩ := obn_e h262
         refine wc0 Tryz.call93 (rNext_w F v x139 r263 e265) rfl ?_
         refine wa rfl ?_
         refine wl_nil ?_
         refine wk_in_norm ?_
         refine wk_x ?_
         refine wc_region ?_
         refine wm rfl ?_
         obtain ⟨g266, h267⟩ := chk_e h264
         refine wv (o_add rfl rfl g266) ?_
         refine wa rfl ?_
         refine wl_nil ?_
         have h268 := stp_next h267 ht222
         exact wk_then (wk_some (m223, ((x138 ++ ([44] : Str)) ++ r258, r263, x140 + 1), ()) ⟨h268, Nat.lt_succ_self _⟩ (Sub.c rfl (Sub.c5 rfl rfl rfl rfl rfl Sub.nil)) (sC sN))
       ·have h269 := cnd_f c229 h228
        refine wc_skip ?_
        refine wk_x ?_
        refine wc_seq ?_
        refine wc_sr ?_
        refine wv (o_fieldAddr Tryz.underlying78 rfl Tryz.sizeOf76 rfl rfl) ?_
        refine wv (o_load (i := 0) Tryz.isAgg76 rfl rfl rfl) ?_
        refine wv (o_eq rfl rfl) ?_
        refine wl_x ?_
        refine wc_cond (b := decide (((at' v i).fKind) = 6)) rfl (fun c270 => ?_) (fun c270 => ?_)
        ·have h271 := cnd_t c270 h269
         refine wc_sr ?_
         refine wm rfl ?_
         refine wm rfl ?_
         refine wm rfl ?_
         obtain ⟨g272, h273⟩ := chk_e h271
         refine wv (o_ix_z (enc := eTApiCell) (ys := v) Tryz.underlying33 Tryz.sizeOf78 rfl rfl g272) ?_
         refine wv (o_fieldAddr_z Tryz.underlying78 rfl Tryz.sizeOf9 rfl rfl) ?_
         refine wv (o_load_z Tryz.isAgg9 rfl rfl) ?_
         obtain ⟨r274, e276, h275⟩ := obn_e h273
         refine wc0 Tryz.call92 (rQuoted_w F ((at' v x139).fStr) r274 e276) rfl ?_
         obtain ⟨g277, h278⟩ := chk_e h275
         refine wv (o_sadd rfl rfl g277) ?_
         obtain ⟨g279, h280⟩ := chk_e h278
         refine wv (o_sadd rfl rfl g279) ?_
         refine wa rfl ?_
         refine wl_x ?_
         refine wc_region ?_
         refine wm rfl ?_
         obtain ⟨g281, h282⟩ := chk_e h280
         refine wv (o_add rfl rfl g281) ?_
         refine wa rfl ?_
         refine wl_y ?_
         refine wm rfl ?_
         refine wm rfl ?_
         refine wm rfl ?_
         obtain ⟨r283, e285, h284⟩ := obn_e h282
         refine wc0 Tryz.call69 (ih_rText v (x139 + 1) r283 e285) rfl ?_
         obtain ⟨g286, h287⟩ := chk_e h284
         refine wv (o_sadd rfl rfl g286) ?_
         refine wa rfl ?_
         refine wl_x ?_
         refine wc_region ?_
         refine wm rfl ?_
         refine wm rfl ?_
         obtain ⟨r288, e290, h289⟩ := obn_e h287
         refine wc0 Tryz.call93 (rNext_w F v (x139 + 1) r288 e290) rfl ?_
         refine wa rfl ?_
         refine wl_nil ?_
         refine wk_in_norm ?_
         refine wk_x ?_
         refine wc_region ?_
         refine wm rfl ?_
         obtain ⟨g291, h292⟩ := chk_e h289
         refine wv (o_add rfl rfl g291) ?_
         refine wa rfl ?_
         refine wl_nil ?_
         have h293 := stp_next h292 ht222
         exact wk_then (wk_some (m223, (((x138 ++ r274) ++ ([58] : Str)) ++ r283, r288, x140 + 1), ()) ⟨h293, Nat.lt_succ_self _⟩ (Sub.c rfl (Sub.c5 rfl rfl rfl rfl rfl Sub.nil)) (sC sN))
        ·have h294 := cnd_f c270 h269
         refine wc_skip ?_
         refine wk_x ?_
         refine wc_sr ?_
         refine wm rfl ?_
         refine wm rfl ?_
         refine wm rfl ?_
         obtain ⟨r295, e297, h296⟩ := obn_e h294
         refine wc0 Tryz.call69 (ih_rText v x139 r295 e297) rfl ?_
         obtain ⟨g298, h299⟩ := chk_e h296
         refine wv (o_sadd rfl rfl g298) ?_
         refine wa rfl ?_
         refine wl_x ?_
         refine wc_region ?_
         refine wm rfl ?_
         refine wm rfl ?_
         obtain ⟨r300, e302, h301⟩ := obn_e h299
         refine wc0 Tryz.call93 (rNext_w F v x139 r300 e302) rfl ?_
         refine wa rfl ?_
         refine wl_nil ?_
         refine wk_in_norm ?_
         refine wk_x ?_
         refine wc_region ?_
         refine wm rfl ?_
         obtain ⟨g303, h304⟩ := chk_e h301
         refine wv (o_add rfl rfl g303) ?_
         refine wa rfl ?_
         refine wl_nil ?_
         have h305 := stp_next h304 ht222
         exact wk_then (wk_some (m223, (x138 ++ r295, r300, x140 + 1), ()) ⟨h305, Nat.lt_succ_self _⟩ (Sub.c rfl (Sub.c5 rfl rfl rfl rfl rfl Sub.nil)) (sC sN))
      ·have h306 := cnd_f c227 h225
       refine wc_exit ?_
       refine wk_then_exit ?_
       have h307 := stp_go h306 ht222 hK220
       exact wk_then_exit (wk_cut_hit (wk_some (x138, ()) h307 (Sub.c rfl (Sub.c rfl (Sub.c rfl Sub.nil))) (sC sN)))
     ·rintro ⟨x217, ⟨⟩⟩ h308
      refine wk_as (l' := [(4, rS ([] : Str)), (5, rv (.pointer (some ⟨b3, 0, none⟩))), (6, rS x217)]) (H' := [.blk b3 (eTApiCell (at' v i)) 78]) rfl rfl ?_
      replace h308 : rText_k1 v i x217 = some r := h308
      unfold rText_k1 at h308
      refine wk_in_hit ?_
      refine wk_x ?_
      refine wc_seq ?_
      refine wc_sr ?_
      refine wv (o_fieldAddr Tryz.underlying78 rfl Tryz.sizeOf76 rfl rfl) ?_
      refine wv (o_load (i := 0) Tryz.isAgg76 rfl rfl rfl) ?_
      refine wv (o_eq rfl rfl) ?_
      refine wl_x ?_
      refine wc_cond (b := decide (((at' v i).fKind) = 6)) rfl (fun c309 => ?_) (fun c309 => ?_)
      ·have h310 := cnd_t c309 h308
       refine wc_sr ?_
       refine wm rfl ?_
       obtain ⟨g311, h312⟩ := chk_e h310
       refine wv (o_sadd rfl rfl g311) ?_
       obtain ⟨g313, h314⟩ := chk_e h312
       refine wv (o_sadd rfl rfl g313) ?_
       refine wa rfl ?_
       refine wl_x ?_
       refine wc_ret ?_
       refine wk_then_ret ?_
       obtain rfl := some_e h314
       exact wk_ret (r_1 Tryz.results69 (rv_t rfl)) (sS sN) ⟨rfl, rfl⟩
      ·have h315 := cnd_f c309 h308
       refine wc_skip ?_
       refine wk_x ?_
       refine wc_sr ?_
       refine wm rfl ?_
       obtain ⟨g316, h317⟩ := chk_e h315
       refine wv (o_sadd rfl rfl g316) ?_
       obtain ⟨g318, h319⟩ := chk_e h317
       refine wv (o_sadd rfl rfl g318) ?_
       refine wa rfl ?_
       refine wl_x ?_
       refine wc_ret ?_
       obtain rfl := some_e h319
       exact wk_ret (r_1 Tryz.results69 (rv_t rfl)) (sS sN) ⟨rfl, rfl⟩

theorem rText_all : ∀ F : Nat, (∀ (v : (List TApiCell)) (i : Int) (r : Str), rText F v i = some r → Fn Tryz.prog GE 69 [rSl 4 (List.map eTApiCell v), rI .i64 i] [] (fun R H => R = rS r ∧ H = []))
  | 0 => (fun _ _ _ h => by simp [rText] at h)
  | nn + 1 => (fun v i r h => rTextm_w nn (rText nn) (rText_all nn) v i r (by rw [rText] at h; exact h))

theorem rText_w (F : Nat) (v : (List TApiCell)) (i : Int) (r : Str) (h : rText F v i = some r) : Fn Tryz.prog GE 69 [rSl 4 (List.map eTApiCell v), rI .i64 i] [] (fun R H => R = rS r ∧ H = []) := (rText_all F) v i r h

theorem rCheck_w (F : Nat) (v : (List TApiCell)) (r : Int) (h : rCheck F v = some r) : Fn Tryz.prog GE 57 [rSl 4 (List.map eTApiCell v)] [] (fun R H => R = rI .i64 r ∧ H = []) := by
 refine enter (n := 61) Tryz.func57 rfl Tryz.ntmps57 rfl (fun w Z => ?_)
 refine wc_as (l' := [(0, rSl 4 (List.map eTApiCell v))]) (H' := []) rfl rfl ?_
 unfold rCheck at h
 refine wc_sr ?_
 refine wv (r := rI .i64 0) (o_assign rfl) ?_
 refine wl_x ?_
 refine wc_seq ?_
 refine wc_sr ?_
 refine wm rfl ?_
 obtain ⟨r1, e3, h2⟩ := obn_e h
 refine wc0 Tryz.call82 (rFormed_w F v r1 e3) rfl ?_
 refine wv (o_not rfl) ?_
 refine wl_x ?_
 refine wc_cond (b := !r1) rfl (fun c4 => ?_) (fun c4 => ?_)
 ·have h5 := cnd_t c4 h2
  refine wc_sr ?_
  refine wv (r := rI .i64 1) (o_assign rfl) ?_
  refine wl_x ?_
  refine wc_ret ?_
  refine wk_then_ret ?_
  obtain rfl := some_e h5
  exact wk_ret (r_1 Tryz.results57 (rv_t rfl)) sN ⟨rfl, rfl⟩
 ·have h6 := cnd_f c4 h2
  refine wc_skip ?_
  refine wk_x ?_
  refine wc_seq ?_
  refine wc_sr ?_
  refine wv (r := rI .i64 0) (o_assign rfl) ?_
  refine wl_x ?_
  refine wc_block ?_
  obtain ⟨o43, eo44, hK45⟩ := obn_e h6
  refine wc_loop2 (S := Nat × (Int) × (Unit)) (V := (Unit) × (Unit)) 0 (fun σ => lop (fun σ => rCheck_b1 v σ) σ.1 σ.2.1 = some o43) (fun σ => [(0, rSl 4 (List.map eTApiCell v)), (3, rI .i64 σ.2.1)]) (fun σ => []) (fun σ => σ.1) (F, 0, ()) eo44 (Sub.c rfl (Sub.c rfl Sub.nil)) sN (fun σ => rCheck_k1 F v  = some r) (fun σ => [(0, rSl 4 (List.map eTApiCell v))]) (fun σ => []) ?_ ?_
  ·rintro ⟨n51, x30, ⟨⟩⟩ hi49
   refine wc_as (l' := [(0, rSl 4 (List.map eTApiCell v)), (3, rI .i64 x30)]) (H' := []) rfl rfl ?_
   obtain ⟨m48, rfl, t46, h50, ht47⟩ := lop_e hi49
   replace h50 : rCheck_b1 v x30 = some t46 := h50
   unfold rCheck_b1 at h50
   refine wc_seq ?_
   refine wc_sr ?_
   refine wm rfl ?_
   refine wm rfl ?_
   refine wv (o_len_zt (ys := v) (enc := eTApiCell) Tryz.underlying33 rfl) ?_
   refine wv (o_lt rfl rfl) ?_
   refine wl_x ?_
   refine wc_cond (b := decide (x30 < (v.length : Int))) rfl (fun c52 => ?_) (fun c52 => ?_)
   ·have h53 := cnd_t c52 h50
    refine wc_skip ?_
    refine wk_x ?_
    refine wc_seq ?_
    refine wc_block ?_
    obtain ⟨g54, h55⟩ := chk_e h53
    refine wc_seq_mid [(0, rSl 4 (List.map eTApiCell v)), (3, rI .i64 x30), (35, rB ((decide (((at' v x30).fKind) = 3)) && ((decide (((at' v x30).fInt) < (-1000000000000))) || (decide (1000000000000 < ((at' v x30).fInt))))))] [] ?_ ?_
    ·refine wc_region ?_
     refine wm rfl ?_
     refine wm rfl ?_
     refine wv (o_ix_z (enc := eTApiCell) (ys := v) Tryz.underlying33 Tryz.sizeOf78 rfl rfl g54) ?_
     refine wv (o_fieldAddr_z Tryz.underlying78 rfl Tryz.sizeOf76 rfl rfl) ?_
     refine wv (o_load_z Tryz.isAgg76 rfl rfl) ?_
     refine wv (o_eq rfl rfl) ?_
     refine wm rfl ?_
     refine bsplit (decide (((at' v x30).fKind) = 3)) (fun c56 => ?_) (fun c56 => ?_)
     ·refine wo c56 ?_
      refine wm rfl ?_
      refine wo c56 ?_
      refine wm rfl ?_
      refine wo c56 ?_
      refine wv (o_ix_z (enc := eTApiCell) (ys := v) Tryz.underlying33 Tryz.sizeOf78 rfl rfl g54) ?_
      refine wo c56 ?_
      refine wv (o_fieldAddr_z Tryz.underlying78 rfl Tryz.sizeOf3 rfl rfl) ?_
      refine wo c56 ?_
      refine wv (o_load_z Tryz.isAgg3 rfl rfl) ?_
      refine wo c56 ?_
      refine wv (o_lt rfl rfl) ?_
      refine wo c56 ?_
      refine wm rfl ?_
      refine bsplit (decide (((at' v x30).fInt) < (-1000000000000))) (fun c57 => ?_) (fun c57 => ?_)
      ·refine wf c57 ?_
       refine wf c57 ?_
       refine wf c57 ?_
       refine wf c57 ?_
       refine wf c57 ?_
       refine wf c57 ?_
       refine wo c56 ?_
       refine wv (r := rB true) (o_pick_t (b := decide (((at' v x30).fInt) < (-1000000000000))) rfl c57 rfl) ?_
       refine wpt rfl c56 rfl ?_
       refine wl_nil ?_
       exact wtc (And.intro c56 c57)
      ·refine wo c57 ?_
       refine wm rfl ?_
       refine wo c57 ?_
       refine wm rfl ?_
       refine wo c57 ?_
       refine wv (o_ix_z (enc := eTApiCell) (ys := v) Tryz.underlying33 Tryz.sizeOf78 rfl rfl g54) ?_
       refine wo c57 ?_
       refine wv (o_fieldAddr_z Tryz.underlying78 rfl Tryz.sizeOf3 rfl rfl) ?_
       refine wo c57 ?_
       refine wv (o_load_z Tryz.isAgg3 rfl rfl) ?_
       refine wo c57 ?_
       refine wv (o_gt rfl rfl) ?_
       refine wo c56 ?_
       refine wpf rfl c57 rfl ?_
       refine wpt rfl c56 rfl ?_
       refine wl_nil ?_
       exact wtc (And.intro c56 c57)
     ·refine wf c56 ?_
      refine wf c56 ?_
      refine wf c56 ?_
      refine wf c56 ?_
      refine wf c56 ?_
      refine wf c56 ?_
      refine wf c56 ?_
      refine wu ?_
      refine wu ?_
      refine wu ?_
      refine wu ?_
      refine wu ?_
      refine wu ?_
      refine wf c56 ?_
      refine wv (r := rB false) (o_pick_f (b := decide (((at' v x30).fKind) = 3)) rfl c56 rfl) ?_
      refine wl_nil ?_
      exact wtc c56
    refine wc_cond (b := ((decide (((at' v x30).fKind) = 3)) && ((decide (((at' v x30).fInt) < (-1000000000000))) || (decide (1000000000000 < ((at' v x30).fInt)))))) rfl (fun c58 => ?_) (fun c58 => ?_)
    ·have h59 := cnd_t c58 h55
     refine wc_sr ?_
     refine wv (r := rI .i64 2) (o_assign rfl) ?_
     refine wl_x ?_
     refine wc_ret ?_
     refine wk_in_ret ?_
     refine wk_then_ret ?_
     refine wk_then_ret ?_
     refine wk_cut_ret ?_
     have h60 := stp_ret h59 ht47 hK45
     refine wk_in_ret ?_
     refine wk_then_ret ?_
     obtain rfl := some_e h60
     exact wk_ret (r_1 Tryz.results57 (rv_t rfl)) sN ⟨rfl, rfl⟩
    ·have h61 := cnd_f c58 h55
     refine wc_skip ?_
     refine wk_in_norm ?_
     refine wk_x ?_
     refine wc_region ?_
     refine wm rfl ?_
     obtain ⟨g62, h63⟩ := chk_e h61
     refine wv (o_add rfl rfl g62) ?_
     refine wa rfl ?_
     refine wl_nil ?_
     have h64 := stp_next h63 ht47
     exact wk_then (wk_some (m48, x30 + 1, ()) ⟨h64, Nat.lt_succ_self _⟩ (Sub.c rfl (Sub.c rfl Sub.nil)) sN)
   ·have h65 := cnd_f c52 h50
    refine wc_exit ?_
    refine wk_then_exit ?_
    have h66 := stp_go h65 ht47 hK45
    exact wk_then_exit (wk_cut_hit (wk_some ((), ()) h66 (Sub.c rfl Sub.nil) sN))
  ·rintro ⟨⟨⟩, ⟨⟩⟩ h67
   refine wk_as (l' := [(0, rSl 4 (List.map eTApiCell v))]) (H' := []) rfl rfl ?_
   replace h67 : rCheck_k1 F v  = some r := h67
   unfold rCheck_k1 at h67
   refine wk_in_hit ?_
   refine wk_x ?_
   refine wc_seq ?_
   obtain ⟨g68, h69⟩ := chk_e h67
   refine wc_seq_mid [(0, rSl 4 (List.map eTApiCell v)), (43, rB ((decide (200 < (v.length : Int))) || (decide (8 < (ov (rLevels F v 0))))))] [] ?_ ?_
   ·refine wc_region ?_
    refine wm rfl ?_
    refine wv (o_len_zt (ys := v) (enc := eTApiCell) Tryz.underlying33 rfl) ?_
    refine wv (o_gt rfl rfl) ?_
    refine wm rfl ?_
    refine bsplit (decide (200 < (v.length : Int))) (fun c70 => ?_) (fun c70 => ?_)
    ·refine wf c70 ?_
     refine wf c70 ?_
     refine wf c70 ?_
     refine wv (r := rB true) (o_pick_t (b := decide (200 < (v.length : Int))) rfl c70 rfl) ?_
     refine wl_nil ?_
     exact wtc c70
    ·refine wo c70 ?_
     refine wm rfl ?_
     refine wo c70 ?_
     refine wc0 Tryz.call83 (rLevels_w F v 0 (ov (rLevels F v 0)) (ov_e (imp_f g68 c70))) rfl ?_
     refine wo c70 ?_
     refine wv (o_gt rfl rfl) ?_
     refine wpf rfl c70 rfl ?_
     refine wl_nil ?_
     exact wtc c70
   refine wc_cond (b := ((decide (200 < (v.length : Int))) || (decide (8 < (ov (rLevels F v 0)))))) rfl (fun c71 => ?_) (fun c71 => ?_)
   ·have h72 := cnd_t c71 h69
    refine wc_sr ?_
    refine wv (r := rI .i64 3) (o_assign rfl) ?_
    refine wl_x ?_
    refine wc_ret ?_
    refine wk_then_ret ?_
    obtain rfl := some_e h72
    exact wk_ret (r_1 Tryz.results57 (rv_t rfl)) sN ⟨rfl, rfl⟩
   ·have h73 := cnd_f c71 h69
    refine wc_skip ?_
    refine wk_x ?_
    refine wc_seq ?_
    refine wc_sr ?_
    refine wv (r := rI .i64 0) (o_assign rfl) ?_
    refine wl_x ?_
    refine wc_block ?_
    obtain ⟨o104, eo105, hK106⟩ := obn_e h73
    refine wc_loop2 (S := Nat × (Int) × (Unit)) (V := (Unit) × (Unit)) 2 (fun σ => lop (fun σ => rCheck_b2 v σ) σ.1 σ.2.1 = some o104) (fun σ => [(0, rSl 4 (List.map eTApiCell v)), (4, rI .i64 σ.2.1)]) (fun σ => []) (fun σ => σ.1) (F, 0, ()) eo105 (Sub.c rfl (Sub.c rfl Sub.nil)) sN (fun σ => rCheck_k2 F v  = some r) (fun σ => [(0, rSl 4 (List.map eTApiCell v))]) (fun σ => []) ?_ ?_
    ·rintro ⟨n112, x93, ⟨⟩⟩ hi110
     refine wc_as (l' := [(0, rSl 4 (List.map eTApiCell v)), (4, rI .i64 x93)]) (H' := []) rfl rfl ?_
     obtain ⟨m109, rfl, t107, h111, ht108⟩ := lop_e hi110
     replace h111 : rCheck_b2 v x93 = some t107 := h111
     unfold rCheck_b2 at h111
     refine wc_seq ?_
     refine wc_sr ?_
     refine wm rfl ?_
     refine wm rfl ?_
     refine wv (o_len_zt (ys := v) (enc := eTApiCell) Tryz.underlying33 rfl) ?_
     refine wv (o_lt rfl rfl) ?_
     refine wl_x ?_
     refine wc_cond (b := decide (x93 < (v.length : Int))) rfl (fun c113 => ?_) (fun c113 => ?_)
     ·have h114 := cnd_t c113 h111
      refine wc_skip ?_
      refine wk_x ?_
      refine wc_seq ?_
      refine wc_block ?_
      refine wc_sr ?_
      refine wm rfl ?_
      refine wm rfl ?_
      obtain ⟨g115, h116⟩ := chk_e h114
      refine wv (o_ix_z (enc := eTApiCell) (ys := v) Tryz.underlying33 Tryz.sizeOf78 rfl rfl g115) ?_
      refine wv (o_fieldAddr_z Tryz.underlying78 rfl Tryz.sizeOf9 rfl rfl) ?_
      refine wv (o_load_z Tryz.isAgg9 rfl rfl) ?_
      refine wv (o_len_s Tryz.underlying9 rfl) ?_
      refine wv (o_gt rfl rfl) ?_
      refine wl_x ?_
      refine wc_cond (b := decide (200 < (((at' v x93).fStr).length : Int))) rfl (fun c117 => ?_) (fun c117 => ?_)
      ·have h118 := cnd_t c117 h116
       refine wc_sr ?_
       refine wv (r := rI .i64 3) (o_assign rfl) ?_
       refine wl_x ?_
       refine wc_ret ?_
       refine wk_in_ret ?_
       refine wk_then_ret ?_
       refine wk_then_ret ?_
       refine wk_cut_ret ?_
       have h119 := stp_ret h118 ht108 hK106
       refine wk_in_ret ?_
       refine wk_then_ret ?_
       obtain rfl := some_e h119
       exact wk_ret (r_1 Tryz.results57 (rv_t rfl)) sN ⟨rfl, rfl⟩
      ·have h120 := cnd_f c117 h116
       refine wc_skip ?_
       refine wk_in_norm ?_
       refine wk_x ?_
       refine wc_region ?_
       refine wm rfl ?_
       obtain ⟨g121, h122⟩ := chk_e h120
       refine wv (o_add rfl rfl g121) ?_
       refine wa rfl ?_
       refine wl_nil ?_
       have h123 := stp_next h122 ht108
       exact wk_then (wk_some (m109, x93 + 1, ()) ⟨h123, Nat.lt_succ_self _⟩ (Sub.c rfl (Sub.c rfl Sub.nil)) sN)
     ·have h124 := cnd_f c113 h111
      refine wc_exit ?_
      refine wk_then_exit ?_
      have h125 := stp_go h124 ht108 hK106
      exact wk_then_exit (wk_cut_hit (wk_some ((), ()) h125 (Sub.c rfl Sub.nil) sN))
    ·rintro ⟨⟨⟩, ⟨⟩⟩ h126
     refine wk_as (l' := [(0, rSl 4 (List.map eTApiCell v))]) (H' := []) rfl rfl ?_
     replace h126 : rCheck_k2 F v  = some r := h126
     unfold rCheck_k2 at h126
     refine wk_in_hit ?_
     refine wk_x ?_
     refine wc_seq ?_
     refine wc_sr ?_
     refine wm rfl ?_
     obtain ⟨r127, e129, h128⟩ := obn_e h126
     refine wc0 Tryz.call69 (rText_w F v 0 r127 e129) rfl ?_
     refine wv (o_len_s Tryz.underlying9 rfl) ?_
     refine wv (o_gt rfl rfl) ?_
     refine wl_x ?_
     refine wc_cond (b := decide (4000 < (r127.length : Int))) rfl (fun c130 => ?_) (fun c130 => ?_)
     ·have h131 := cnd_t c130 h128
      refine wc_sr ?_
      refine wv (r := rI .i64 3) (o_assign rfl) ?_
      refine wl_x ?_
      refine wc_ret ?_
      refine wk_then_ret ?_
      obtain rfl := some_e h131
      exact wk_ret (r_1 Tryz.results57 (rv_t rfl)) sN ⟨rfl, rfl⟩
     ·have h132 := cnd_f c130 h128
      refine wc_skip ?_
      refine wk_x ?_
      refine wc_sr ?_
      refine wv (r := rI .i64 0) (o_assign rfl) ?_
      refine wl_x ?_
      refine wc_ret ?_
      obtain rfl := some_e h132
      exact wk_ret (r_1 Tryz.results57 (rv_t rfl)) sN ⟨rfl, rfl⟩

end Go.Proofs.YtjfnokmpfekniaaGreatDoor.Q

/-
 What functions compute, with checks: plain definitions, printed by a small program of ours (gq.py). No program in sight.
-/
namespace Go.Proofs.YtjfnokmpfekniaaGreatDoor
open Go
set_option linter.unusedVariables false
structure TValueOpen where
 fPairs : Bool
 fLeft : Int
 fKey : Bool
 fLast : Str
 fStarted : Bool
 deriving DecidableEq, Inhabited
structure TValueShape where
 fDepth : Int
 fBytes : Int
 fOutside : Bool
 fLong : Bool
 deriving DecidableEq, Inhabited
def nValid (n : Int) : Option (Bool) :=
 some ((decide ((-1000000000000) ≤ n)) && (decide (n ≤ 1000000000000)))

def vText_b1 (s : Str) (x22 : Int) : Option (Stp (Int) (Out (Bool) (Unit))) :=
 cnd (decide (x22 < (s.length : Int))) (chk (inR x22 (s.length : Int)) <| cnd (((decide ((bat s x22) < 32)) || (decide (126 < (bat s x22))))) (some (.out (.ret false))) (chk (inK .i64 (x22 + 1)) <| some (.next (x22 + 1)))) (some (.out (.go ())))

def vText_k1  : Option (Bool) :=
 some true

def vText (F : Nat) (s : Str) : Option (Bool) :=
 obn (lop (fun σ => vText_b1 s σ) F 0) (oute fun ν => vText_k1 )

def vQuoted (s : Str) : Option (Int) :=
 chk (inK .i64 ((s.length : Int) + 2)) <| chk (inK .i64 (((s.length : Int) + 2) + (Lib.countByte s 34 : Int))) <| chk (inK .i64 ((((s.length : Int) + 2) + (Lib.countByte s 34 : Int)) + (Lib.countByte s 92 : Int))) <| some ((((s.length : Int) + 2) + (Lib.countByte s 34 : Int)) + (Lib.countByte s 92 : Int))

def vPlain (F : Nat) (c : TApiCell) : Option (Bool) :=
 cnd (decide (c.fKind = 1)) (some ((decide (c.fInt = 0)) && ((decide (c.fStr = ([] : Str))) && (decide (c.fN = 0))))) (cnd (decide (c.fKind = 2)) (some (bif decide (c.fInt = 0) then ((decide (c.fStr = ([] : Str))) && (decide (c.fN = 0))) else ((decide (c.fInt = 1)) && ((decide (c.fStr = ([] : Str))) && (decide (c.fN = 0)))))) (cnd (decide (c.fKind = 3)) (some ((decide (c.fStr = ([] : Str))) && (decide (c.fN = 0)))) (cnd (decide (c.fKind = 4)) (chk (imp (decide (c.fInt = 0)) (imp (decide (c.fN = 0)) ((vText F c.fStr).isSome))) <| some ((decide (c.fInt = 0)) && ((decide (c.fN = 0)) && (ov (vText F c.fStr))))) (cnd (decide (c.fKind = 5)) (some ((decide (c.fInt = 0)) && ((decide (c.fStr = ([] : Str))) && (decide (0 ≤ c.fN))))) (cnd (decide (c.fKind = 6)) (some ((decide (c.fInt = 0)) && ((decide (c.fStr = ([] : Str))) && (decide (0 ≤ c.fN))))) (some false))))))

def vSize (c : TApiCell) : Option (Int) :=
 cnd (decide (c.fKind = 1)) (some 4) (cnd (decide (c.fKind = 2)) (some (IntKind.wrap .i64 (5 - c.fInt))) (cnd (decide (c.fKind = 3)) (chk (inK .i64 c.fInt) <| some ((Lib.itoa c.fInt).length : Int)) (cnd (decide (c.fKind = 4)) (obn (vQuoted c.fStr) fun r15 => some r15) (some (IntKind.wrap .i64 (2 + (max 0 (IntKind.wrap .i64 (c.fN - 1)))))))))

def vClosed_b1 (x159 : (List TValueOpen)) : Option (Stp ((List TValueOpen)) (Out ((List TValueOpen)) ((List TValueOpen)))) :=
 cnd (decide (0 < (x159.length : Int))) (chk (inK .i64 ((x159.length : Int) - 1)) <| chk (inR ((x159.length : Int) - 1) (x159.length : Int)) <| chk (inK .i64 (((at' x159 ((x159.length : Int) - 1)).fLeft) - 1)) <| bnd (List.set x159 (Int.toNat ((x159.length : Int) - 1)) (TValueOpen.mk ((at' x159 ((x159.length : Int) - 1)).fPairs) (((at' x159 ((x159.length : Int) - 1)).fLeft) - 1) ((at' x159 ((x159.length : Int) - 1)).fKey) ((at' x159 ((x159.length : Int) - 1)).fLast) ((at' x159 ((x159.length : Int) - 1)).fStarted))) fun r203 => cnd (decide (0 < ((at' r203 ((x159.length : Int) - 1)).fLeft))) (bnd (List.set r203 (Int.toNat ((x159.length : Int) - 1)) (TValueOpen.mk ((at' r203 ((x159.length : Int) - 1)).fPairs) ((at' r203 ((x159.length : Int) - 1)).fLeft) ((at' r203 ((x159.length : Int) - 1)).fPairs) ((at' r203 ((x159.length : Int) - 1)).fLast) ((at' r203 ((x159.length : Int) - 1)).fStarted))) fun r208 => some (.out (.ret r208))) (chk (inK .i64 ((r203.length : Int) - 1)) <| chk (inC ((r203.length : Int) - 1) (r203.length : Int)) <| some (.next (List.take (Int.toNat ((r203.length : Int) - 1)) r203)))) (some (.out (.go x159)))

def vClosed_k1 (x184 : (List TValueOpen)) : Option ((List TValueOpen)) :=
 some x184

def vClosed (F : Nat) (stack : (List TValueOpen)) : Option ((List TValueOpen)) :=
 obn (lop (fun σ => vClosed_b1 σ) F stack) (oute fun ν => vClosed_k1 ν)

def vLook_j2 (x235 : Int) (x468 : (List TValueOpen)) (x470 : TValueShape) : Option (Stp ((List TValueOpen) × Int × TValueShape) (Out (Int × TValueShape × Bool) (TValueShape))) :=
 chk (inK .i64 (x235 + 1)) <| some (.next (x468, x235 + 1, x470))

def vLook_b1 (F : Nat) (v : (List TApiCell)) (x233 : (List TValueOpen)) (x235 : Int) (x236 : TValueShape) : Option (Stp ((List TValueOpen) × Int × TValueShape) (Out (Int × TValueShape × Bool) (TValueShape))) :=
 cnd (decide (x235 < (v.length : Int))) (chk (inR x235 (v.length : Int)) <| obn (vPlain F (at' v x235)) fun r474 => cnd (!r474) (some (.out (.ret (0, x236, false)))) (chk (imp (decide (0 < (x233.length : Int))) (inK .i64 ((x233.length : Int) - 1))) <| chk (imp (decide (0 < (x233.length : Int))) (inR ((x233.length : Int) - 1) (x233.length : Int))) <| cnd (((decide (0 < (x233.length : Int))) && ((at' x233 ((x233.length : Int) - 1)).fKey))) (chk (inK .i64 ((x233.length : Int) - 1)) <| chk (inR ((x233.length : Int) - 1) (x233.length : Int)) <| cnd (((!decide (((at' v x235).fKind) = 4)) || (((at' x233 ((x233.length : Int) - 1)).fStarted) && (sLess ((at' v x235).fStr) ((at' x233 ((x233.length : Int) - 1)).fLast) || decide (((at' v x235).fStr) = ((at' x233 ((x233.length : Int) - 1)).fLast)))))) (some (.out (.ret (0, x236, false)))) (bnd (List.set x233 (Int.toNat ((x233.length : Int) - 1)) (TValueOpen.mk ((at' x233 ((x233.length : Int) - 1)).fPairs) ((at' x233 ((x233.length : Int) - 1)).fLeft) ((at' x233 ((x233.length : Int) - 1)).fKey) ((at' v x235).fStr) ((at' x233 ((x233.length : Int) - 1)).fStarted))) fun r498 => bnd (List.set r498 (Int.toNat ((x233.length : Int) - 1)) (TValueOpen.mk ((at' r498 ((x233.length : Int) - 1)).fPairs) ((at' r498 ((x233.length : Int) - 1)).fLeft) ((at' r498 ((x233.length : Int) - 1)).fKey) ((at' r498 ((x233.length : Int) - 1)).fLast) true)) fun r501 => bnd (List.set r501 (Int.toNat ((x233.length : Int) - 1)) (TValueOpen.mk ((at' r501 ((x233.length : Int) - 1)).fPairs) ((at' r501 ((x233.length : Int) - 1)).fLeft) false ((at' r501 ((x233.length : Int) - 1)).fLast) ((at' r501 ((x233.length : Int) - 1)).fStarted))) fun r504 => obn (vQuoted ((at' v x235).fStr)) fun r507 => chk (inK .i64 (r507 + 1)) <| vLook_j2 x235 r504 (TValueShape.mk x236.fDepth (IntKind.wrap .i64 (x236.fBytes + (r507 + 1))) x236.fOutside (x236.fLong || (decide (200 < (((at' v x235).fStr).length : Int))))))) (chk (inK .i64 ((x233.length : Int) + 1)) <| obn (vSize (at' v x235)) fun r516 => chk (imp (!x236.fOutside) (imp (decide (((at' v x235).fKind) = 3)) ((nValid ((at' v x235).fInt)).isSome))) <| cnd (decide (0 < ((at' v x235).fN))) (cnd (decide ((v.length : Int) < ((at' v x235).fN))) (some (.out (.ret (0, (TValueShape.mk (max x236.fDepth ((x233.length : Int) + 1)) (IntKind.wrap .i64 (x236.fBytes + r516)) (x236.fOutside || ((decide (((at' v x235).fKind) = 3)) && (!(ov (nValid ((at' v x235).fInt)))))) (x236.fLong || (decide (200 < (((at' v x235).fStr).length : Int))))), false)))) (chk (inA 48 (x233.length + ([(TValueOpen.mk (decide (((at' v x235).fKind) = 6)) ((at' v x235).fN) (decide (((at' v x235).fKind) = 6)) ([] : Str) false)] : List TValueOpen).length)) <| vLook_j2 x235 (x233 ++ ([(TValueOpen.mk (decide (((at' v x235).fKind) = 6)) ((at' v x235).fN) (decide (((at' v x235).fKind) = 6)) ([] : Str) false)] : List TValueOpen)) (TValueShape.mk (max x236.fDepth ((x233.length : Int) + 1)) (IntKind.wrap .i64 (x236.fBytes + r516)) (x236.fOutside || ((decide (((at' v x235).fKind) = 3)) && (!(ov (nValid ((at' v x235).fInt)))))) (x236.fLong || (decide (200 < (((at' v x235).fStr).length : Int))))))) (obn (vClosed F x233) fun r535 => cnd (decide ((r535.length : Int) = 0)) (chk (inK .i64 (x235 + 1)) <| some (.out (.ret (x235 + 1, (TValueShape.mk (max x236.fDepth ((x233.length : Int) + 1)) (IntKind.wrap .i64 (x236.fBytes + r516)) (x236.fOutside || ((decide (((at' v x235).fKind) = 3)) && (!(ov (nValid ((at' v x235).fInt)))))) (x236.fLong || (decide (200 < (((at' v x235).fStr).length : Int))))), true)))) (vLook_j2 x235 r535 (TValueShape.mk (max x236.fDepth ((x233.length : Int) + 1)) (IntKind.wrap .i64 (x236.fBytes + r516)) (x236.fOutside || ((decide (((at' v x235).fKind) = 3)) && (!(ov (nValid ((at' v x235).fInt)))))) (x236.fLong || (decide (200 < (((at' v x235).fStr).length : Int)))))))))) (some (.out (.go x236)))

def vLook_k1 (x386 : TValueShape) : Option (Int × TValueShape × Bool) :=
 some (0, x386, false)

def vLook (F : Nat) (v : (List TApiCell)) : Option (Int × TValueShape × Bool) :=
 obn (lop (fun σ => vLook_b1 F v σ.1 σ.2.1 σ.2.2) F (([] : List TValueOpen), 0, (TValueShape.mk 0 0 false false))) (oute fun ν => vLook_k1 ν)

def vCheck (F : Nat) (v : (List TApiCell)) : Option (Int) :=
 obn (vLook F v) fun r1 => cnd (((!r1.2.2) || (!decide (r1.1 = (v.length : Int))))) (some 1) (cnd (r1.2.1.fOutside) (some 2) (cnd ((r1.2.1.fLong || ((decide (200 < (v.length : Int))) || ((decide (8 < r1.2.1.fDepth)) || (decide (4000 < r1.2.1.fBytes)))))) (some 3) (some 0)))

end Go.Proofs.YtjfnokmpfekniaaGreatDoor
