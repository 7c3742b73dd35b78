/-
  Walks, printed by a small program of ours (gsym.py).
-/
import Derived.Test.YtjkdkmcklocmnaaDoorFwE
import Derived.Test.YtjkdkmcklocmnaaDoorPlA
import Derived.Test.YtjkdkmcklocmnaaDoorProg
namespace Go.Proofs.YtjkdkmcklocmnaaDoor
open Go Go.RowKit
set_option linter.unusedVariables false
set_option linter.unusedSimpArgs false
set_option maxRecDepth 100000
theorem small_c (c : Int) (w : World) : Calls Tryd.prog 34 [.int .i32 (c)].toArray w (RetV w (.bool (smallS c))) := by
  refine enter0 (n := 9) Tryd.func34 rfl Tryd.ntmps34 rfl ?_
  refine wc_seq ?_
  refine wc_region ?_
  refine wl_v (o_assign rfl) rfl ?_
  refine wl_nil ?_
  refine wk_then (wc_of_wk ?_)
  refine wc_seq_mid [(2, .bool (((decide ((97) ≤ (c))) && (decide ((c) ≤ (122))))))] [] (φ := True) ?_ (fun hm1 => ?_)
  · refine wc_region ?_
    refine wl_v (o_move rfl) rfl ?_
    refine wl_v (o_ge rfl rfl) rfl ?_
    refine wl_v (o_move rfl) rfl ?_
    refine bsplit (decide ((97) ≤ (c))) (fun h1 => ?_) (fun h1 => ?_)
    · have g1 := h1; try simp only [decide_eq_true_eq, decide_eq_false_iff_not] at g1
      have f1 := h1; try simp only [decide_eq_true_eq, decide_eq_false_iff_not, Bool.and_eq_true, Bool.or_eq_true, Bool.not_eq_true', Bool.not_eq_false', Bool.and_eq_false_iff, Bool.or_eq_false_iff, not_or, Int.not_lt, Int.not_le] at f1
      refine wl_on rfl rfl h1 ?_
      refine wl_v (o_move rfl) rfl ?_
      refine wl_on rfl rfl h1 ?_
      refine wl_v (o_le rfl rfl) rfl ?_
      refine wl_v (o_pick_t rfl h1 rfl) rfl ?_
      refine wl_v (o_assign rfl) rfl ?_
      refine wl_nil ?_
      exact wk_then (wk_mid trivial ⟨fb (by first | (simp only [h1, Bool.true_and, Bool.false_and, Bool.true_or, Bool.false_or, Bool.and_true, Bool.and_false, Bool.or_true, Bool.or_false, Bool.not_true, Bool.not_false, cond_true, cond_false, if_true, if_false, reduceIte, Bool.false_eq_true]; done) | (simp only [Bool.true_and, Bool.false_and, Bool.true_or, Bool.false_or, Bool.and_true, Bool.and_false, Bool.or_true, Bool.or_false, Bool.not_true, Bool.not_false, cond_true, cond_false, if_true, if_false, reduceIte, Bool.false_eq_true]; done) | simp [h1]), trivial⟩ .slnil)
    · have g1 := h1; try simp only [decide_eq_true_eq, decide_eq_false_iff_not] at g1
      have f1 := h1; try simp only [decide_eq_true_eq, decide_eq_false_iff_not, Bool.and_eq_true, Bool.or_eq_true, Bool.not_eq_true', Bool.not_eq_false', Bool.and_eq_false_iff, Bool.or_eq_false_iff, not_or, Int.not_lt, Int.not_le] at f1
      refine wl_off rfl rfl h1 rfl ?_
      refine wl_off rfl rfl h1 rfl ?_
      refine wl_v (o_pick_f rfl h1 rfl) rfl ?_
      refine wl_v (o_assign rfl) rfl ?_
      refine wl_nil ?_
      exact wk_then (wk_mid trivial ⟨fb (by first | (simp only [h1, Bool.true_and, Bool.false_and, Bool.true_or, Bool.false_or, Bool.and_true, Bool.and_false, Bool.or_true, Bool.or_false, Bool.not_true, Bool.not_false, cond_true, cond_false, if_true, if_false, reduceIte, Bool.false_eq_true]; done) | (simp only [Bool.true_and, Bool.false_and, Bool.true_or, Bool.false_or, Bool.and_true, Bool.and_false, Bool.or_true, Bool.or_false, Bool.not_true, Bool.not_false, cond_true, cond_false, if_true, if_false, reduceIte, Bool.false_eq_true]; done) | simp [h1]), trivial⟩ .slnil)
  refine wc_ret ?_
  refine wk_ret (r_1 rfl rfl) ?_
  exact retv (by first | rfl | simp [])

theorem digit_c (c : Int) (w : World) : Calls Tryd.prog 35 [.int .i32 (c)].toArray w (RetV w (.bool (digitS c))) := by
  refine enter0 (n := 9) Tryd.func35 rfl Tryd.ntmps35 rfl ?_
  refine wc_seq ?_
  refine wc_region ?_
  refine wl_v (o_assign rfl) rfl ?_
  refine wl_nil ?_
  refine wk_then (wc_of_wk ?_)
  refine wc_seq_mid [(2, .bool (((decide ((48) ≤ (c))) && (decide ((c) ≤ (57))))))] [] (φ := True) ?_ (fun hm3 => ?_)
  · refine wc_region ?_
    refine wl_v (o_move rfl) rfl ?_
    refine wl_v (o_ge rfl rfl) rfl ?_
    refine wl_v (o_move rfl) rfl ?_
    refine bsplit (decide ((48) ≤ (c))) (fun h3 => ?_) (fun h3 => ?_)
    · have g3 := h3; try simp only [decide_eq_true_eq, decide_eq_false_iff_not] at g3
      have f3 := h3; try simp only [decide_eq_true_eq, decide_eq_false_iff_not, Bool.and_eq_true, Bool.or_eq_true, Bool.not_eq_true', Bool.not_eq_false', Bool.and_eq_false_iff, Bool.or_eq_false_iff, not_or, Int.not_lt, Int.not_le] at f3
      refine wl_on rfl rfl h3 ?_
      refine wl_v (o_move rfl) rfl ?_
      refine wl_on rfl rfl h3 ?_
      refine wl_v (o_le rfl rfl) rfl ?_
      refine wl_v (o_pick_t rfl h3 rfl) rfl ?_
      refine wl_v (o_assign rfl) rfl ?_
      refine wl_nil ?_
      exact wk_then (wk_mid trivial ⟨fb (by first | (simp only [h3, Bool.true_and, Bool.false_and, Bool.true_or, Bool.false_or, Bool.and_true, Bool.and_false, Bool.or_true, Bool.or_false, Bool.not_true, Bool.not_false, cond_true, cond_false, if_true, if_false, reduceIte, Bool.false_eq_true]; done) | (simp only [Bool.true_and, Bool.false_and, Bool.true_or, Bool.false_or, Bool.and_true, Bool.and_false, Bool.or_true, Bool.or_false, Bool.not_true, Bool.not_false, cond_true, cond_false, if_true, if_false, reduceIte, Bool.false_eq_true]; done) | simp [h3]), trivial⟩ .slnil)
    · have g3 := h3; try simp only [decide_eq_true_eq, decide_eq_false_iff_not] at g3
      have f3 := h3; try simp only [decide_eq_true_eq, decide_eq_false_iff_not, Bool.and_eq_true, Bool.or_eq_true, Bool.not_eq_true', Bool.not_eq_false', Bool.and_eq_false_iff, Bool.or_eq_false_iff, not_or, Int.not_lt, Int.not_le] at f3
      refine wl_off rfl rfl h3 rfl ?_
      refine wl_off rfl rfl h3 rfl ?_
      refine wl_v (o_pick_f rfl h3 rfl) rfl ?_
      refine wl_v (o_assign rfl) rfl ?_
      refine wl_nil ?_
      exact wk_then (wk_mid trivial ⟨fb (by first | (simp only [h3, Bool.true_and, Bool.false_and, Bool.true_or, Bool.false_or, Bool.and_true, Bool.and_false, Bool.or_true, Bool.or_false, Bool.not_true, Bool.not_false, cond_true, cond_false, if_true, if_false, reduceIte, Bool.false_eq_true]; done) | (simp only [Bool.true_and, Bool.false_and, Bool.true_or, Bool.false_or, Bool.and_true, Bool.and_false, Bool.or_true, Bool.or_false, Bool.not_true, Bool.not_false, cond_true, cond_false, if_true, if_false, reduceIte, Bool.false_eq_true]; done) | simp [h3]), trivial⟩ .slnil)
  refine wc_ret ?_
  refine wk_ret (r_1 rfl rfl) ?_
  exact retv (by first | rfl | simp [])

theorem letter_c (c : Int) (w : World) : Calls Tryd.prog 33 [.int .i32 (c)].toArray w (RetV w (.bool (letterS c))) := by
  refine enter0 (n := 37) Tryd.func33 rfl Tryd.ntmps33 rfl ?_
  refine wc_seq ?_
  refine wc_region ?_
  refine wl_v (o_assign rfl) rfl ?_
  refine wl_nil ?_
  refine wk_then (wc_of_wk ?_)
  refine wc_seq_mid [(2, .bool (((smallS c) || ((digitS c) || (bif decide ((65) ≤ (c)) then ((decide ((c) ≤ (90))) || ((decide ((c) = (45))) || ((decide ((c) = (95))) || ((decide ((c) = (46))) || ((decide ((c) = (58))) || (decide ((c) = (47)))))))) else ((decide ((c) = (45))) || ((decide ((c) = (95))) || ((decide ((c) = (46))) || ((decide ((c) = (58))) || (decide ((c) = (47))))))))))))] [] (φ := True) ?_ (fun hm16 => ?_)
  · refine wc_region ?_
    refine wl_v (o_move rfl) rfl ?_
    refine w_call Tryd.call34 rfl (fun w hw => small_c c w) rfl ?_
    refine wl_v (o_move rfl) rfl ?_
    refine bsplit (smallS c) (fun h5 => ?_) (fun h5 => ?_)
    · have g5 := h5; try simp only [decide_eq_true_eq, decide_eq_false_iff_not] at g5
      have f5 := h5; try simp only [decide_eq_true_eq, decide_eq_false_iff_not, Bool.and_eq_true, Bool.or_eq_true, Bool.not_eq_true', Bool.not_eq_false', Bool.and_eq_false_iff, Bool.or_eq_false_iff, not_or, Int.not_lt, Int.not_le] at f5
      refine wl_off rfl rfl h5 rfl ?_
      refine wl_off rfl rfl h5 rfl ?_
      refine wl_v (o_pick_t rfl h5 rfl) rfl ?_
      refine wl_v (o_move rfl) rfl ?_
      refine wl_off rfl rfl rfl rfl ?_
      refine wl_off rfl rfl rfl rfl ?_
      refine wl_off rfl rfl rfl rfl ?_
      refine wl_off_u rfl rfl rfl ?_
      refine wl_off_u rfl rfl rfl ?_
      refine wl_off rfl rfl rfl rfl ?_
      refine wl_v (o_pick_t rfl rfl rfl) rfl ?_
      refine wl_v (o_move rfl) rfl ?_
      refine wl_off rfl rfl rfl rfl ?_
      refine wl_off rfl rfl rfl rfl ?_
      refine wl_v (o_pick_t rfl rfl rfl) rfl ?_
      refine wl_v (o_move rfl) rfl ?_
      refine wl_off rfl rfl rfl rfl ?_
      refine wl_off rfl rfl rfl rfl ?_
      refine wl_v (o_pick_t rfl rfl rfl) rfl ?_
      refine wl_v (o_move rfl) rfl ?_
      refine wl_off rfl rfl rfl rfl ?_
      refine wl_off rfl rfl rfl rfl ?_
      refine wl_v (o_pick_t rfl rfl rfl) rfl ?_
      refine wl_v (o_move rfl) rfl ?_
      refine wl_off rfl rfl rfl rfl ?_
      refine wl_off rfl rfl rfl rfl ?_
      refine wl_v (o_pick_t rfl rfl rfl) rfl ?_
      refine wl_v (o_move rfl) rfl ?_
      refine wl_off rfl rfl rfl rfl ?_
      refine wl_off rfl rfl rfl rfl ?_
      refine wl_v (o_pick_t rfl rfl rfl) rfl ?_
      refine wl_v (o_assign rfl) rfl ?_
      refine wl_nil ?_
      exact wk_then (wk_mid trivial ⟨fb (by first | (simp only [h5, Bool.true_and, Bool.false_and, Bool.true_or, Bool.false_or, Bool.and_true, Bool.and_false, Bool.or_true, Bool.or_false, Bool.not_true, Bool.not_false, cond_true, cond_false, if_true, if_false, reduceIte, Bool.false_eq_true]; done) | (simp only [Bool.true_and, Bool.false_and, Bool.true_or, Bool.false_or, Bool.and_true, Bool.and_false, Bool.or_true, Bool.or_false, Bool.not_true, Bool.not_false, cond_true, cond_false, if_true, if_false, reduceIte, Bool.false_eq_true]; done) | simp [h5]), trivial⟩ .slnil)
    · have g5 := h5; try simp only [decide_eq_true_eq, decide_eq_false_iff_not] at g5
      have f5 := h5; try simp only [decide_eq_true_eq, decide_eq_false_iff_not, Bool.and_eq_true, Bool.or_eq_true, Bool.not_eq_true', Bool.not_eq_false', Bool.and_eq_false_iff, Bool.or_eq_false_iff, not_or, Int.not_lt, Int.not_le] at f5
      refine wl_on rfl rfl h5 ?_
      refine wl_v (o_move rfl) rfl ?_
      refine wl_on rfl rfl h5 ?_
      refine w_call Tryd.call35 rfl (fun w hw => digit_c c w) rfl ?_
      refine wl_v (o_pick_f rfl h5 rfl) rfl ?_
      refine wl_v (o_move rfl) rfl ?_
      refine bsplit (digitS c) (fun h6 => ?_) (fun h6 => ?_)
      · have g6 := h6; try simp only [decide_eq_true_eq, decide_eq_false_iff_not] at g6
        have f6 := h6; try simp only [decide_eq_true_eq, decide_eq_false_iff_not, Bool.and_eq_true, Bool.or_eq_true, Bool.not_eq_true', Bool.not_eq_false', Bool.and_eq_false_iff, Bool.or_eq_false_iff, not_or, Int.not_lt, Int.not_le] at f6
        refine wl_off rfl rfl h6 rfl ?_
        refine wl_off rfl rfl h6 rfl ?_
        refine wl_off rfl rfl h6 rfl ?_
        refine wl_off_u rfl rfl rfl ?_
        refine wl_off_u rfl rfl rfl ?_
        refine wl_off rfl rfl h6 rfl ?_
        refine wl_v (o_pick_t rfl h6 rfl) rfl ?_
        refine wl_v (o_move rfl) rfl ?_
        refine wl_off rfl rfl rfl rfl ?_
        refine wl_off rfl rfl rfl rfl ?_
        refine wl_v (o_pick_t rfl rfl rfl) rfl ?_
        refine wl_v (o_move rfl) rfl ?_
        refine wl_off rfl rfl rfl rfl ?_
        refine wl_off rfl rfl rfl rfl ?_
        refine wl_v (o_pick_t rfl rfl rfl) rfl ?_
        refine wl_v (o_move rfl) rfl ?_
        refine wl_off rfl rfl rfl rfl ?_
        refine wl_off rfl rfl rfl rfl ?_
        refine wl_v (o_pick_t rfl rfl rfl) rfl ?_
        refine wl_v (o_move rfl) rfl ?_
        refine wl_off rfl rfl rfl rfl ?_
        refine wl_off rfl rfl rfl rfl ?_
        refine wl_v (o_pick_t rfl rfl rfl) rfl ?_
        refine wl_v (o_move rfl) rfl ?_
        refine wl_off rfl rfl rfl rfl ?_
        refine wl_off rfl rfl rfl rfl ?_
        refine wl_v (o_pick_t rfl rfl rfl) rfl ?_
        refine wl_v (o_assign rfl) rfl ?_
        refine wl_nil ?_
        exact wk_then (wk_mid trivial ⟨fb (by first | (simp only [h5, h6, Bool.true_and, Bool.false_and, Bool.true_or, Bool.false_or, Bool.and_true, Bool.and_false, Bool.or_true, Bool.or_false, Bool.not_true, Bool.not_false, cond_true, cond_false, if_true, if_false, reduceIte, Bool.false_eq_true]; done) | (simp only [Bool.true_and, Bool.false_and, Bool.true_or, Bool.false_or, Bool.and_true, Bool.and_false, Bool.or_true, Bool.or_false, Bool.not_true, Bool.not_false, cond_true, cond_false, if_true, if_false, reduceIte, Bool.false_eq_true]; done) | simp [h5, h6]), trivial⟩ .slnil)
      · have g6 := h6; try simp only [decide_eq_true_eq, decide_eq_false_iff_not] at g6
        have f6 := h6; try simp only [decide_eq_true_eq, decide_eq_false_iff_not, Bool.and_eq_true, Bool.or_eq_true, Bool.not_eq_true', Bool.not_eq_false', Bool.and_eq_false_iff, Bool.or_eq_false_iff, not_or, Int.not_lt, Int.not_le] at f6
        refine wl_on rfl rfl h6 ?_
        refine wl_v (o_move rfl) rfl ?_
        refine wl_on rfl rfl h6 ?_
        refine wl_v (o_ge rfl rfl) rfl ?_
        refine wl_on rfl rfl h6 ?_
        refine wl_v (o_move rfl) rfl ?_
        refine bsplit (decide ((65) ≤ (c))) (fun h7 => ?_) (fun h7 => ?_)
        · have g7 := h7; try simp only [decide_eq_true_eq, decide_eq_false_iff_not] at g7
          have f7 := h7; try simp only [decide_eq_true_eq, decide_eq_false_iff_not, Bool.and_eq_true, Bool.or_eq_true, Bool.not_eq_true', Bool.not_eq_false', Bool.and_eq_false_iff, Bool.or_eq_false_iff, not_or, Int.not_lt, Int.not_le] at f7
          refine wl_on rfl rfl h7 ?_
          refine wl_v (o_move rfl) rfl ?_
          refine wl_on rfl rfl h7 ?_
          refine wl_v (o_le rfl rfl) rfl ?_
          refine wl_on rfl rfl h6 ?_
          refine wl_v (o_pick_t rfl h7 rfl) rfl ?_
          refine wl_v (o_pick_f rfl h6 rfl) rfl ?_
          refine wl_v (o_move rfl) rfl ?_
          refine bsplit (decide ((c) ≤ (90))) (fun h8 => ?_) (fun h8 => ?_)
          · have g8 := h8; try simp only [decide_eq_true_eq, decide_eq_false_iff_not] at g8
            have f8 := h8; try simp only [decide_eq_true_eq, decide_eq_false_iff_not, Bool.and_eq_true, Bool.or_eq_true, Bool.not_eq_true', Bool.not_eq_false', Bool.and_eq_false_iff, Bool.or_eq_false_iff, not_or, Int.not_lt, Int.not_le] at f8
            refine wl_off rfl rfl h8 rfl ?_
            refine wl_off rfl rfl h8 rfl ?_
            refine wl_v (o_pick_t rfl h8 rfl) rfl ?_
            refine wl_v (o_move rfl) rfl ?_
            refine wl_off rfl rfl rfl rfl ?_
            refine wl_off rfl rfl rfl rfl ?_
            refine wl_v (o_pick_t rfl rfl rfl) rfl ?_
            refine wl_v (o_move rfl) rfl ?_
            refine wl_off rfl rfl rfl rfl ?_
            refine wl_off rfl rfl rfl rfl ?_
            refine wl_v (o_pick_t rfl rfl rfl) rfl ?_
            refine wl_v (o_move rfl) rfl ?_
            refine wl_off rfl rfl rfl rfl ?_
            refine wl_off rfl rfl rfl rfl ?_
            refine wl_v (o_pick_t rfl rfl rfl) rfl ?_
            refine wl_v (o_move rfl) rfl ?_
            refine wl_off rfl rfl rfl rfl ?_
            refine wl_off rfl rfl rfl rfl ?_
            refine wl_v (o_pick_t rfl rfl rfl) rfl ?_
            refine wl_v (o_assign rfl) rfl ?_
            refine wl_nil ?_
            exact wk_then (wk_mid trivial ⟨fb (by first | (simp only [h5, h6, h7, h8, Bool.true_and, Bool.false_and, Bool.true_or, Bool.false_or, Bool.and_true, Bool.and_false, Bool.or_true, Bool.or_false, Bool.not_true, Bool.not_false, cond_true, cond_false, if_true, if_false, reduceIte, Bool.false_eq_true]; done) | (simp only [Bool.true_and, Bool.false_and, Bool.true_or, Bool.false_or, Bool.and_true, Bool.and_false, Bool.or_true, Bool.or_false, Bool.not_true, Bool.not_false, cond_true, cond_false, if_true, if_false, reduceIte, Bool.false_eq_true]; done) | simp [h5, h6, h7, h8]), trivial⟩ .slnil)
          · have g8 := h8; try simp only [decide_eq_true_eq, decide_eq_false_iff_not] at g8
            have f8 := h8; try simp only [decide_eq_true_eq, decide_eq_false_iff_not, Bool.and_eq_true, Bool.or_eq_true, Bool.not_eq_true', Bool.not_eq_false', Bool.and_eq_false_iff, Bool.or_eq_false_iff, not_or, Int.not_lt, Int.not_le] at f8
            refine wl_on rfl rfl h8 ?_
            refine wl_v (o_move rfl) rfl ?_
            refine wl_on rfl rfl h8 ?_
            refine wl_v (o_eq rfl rfl) rfl ?_
            refine wl_v (o_pick_f rfl h8 rfl) rfl ?_
            refine wl_v (o_move rfl) rfl ?_
            refine bsplit (decide ((c) = (45))) (fun h9 => ?_) (fun h9 => ?_)
            · have g9 := h9; try simp only [decide_eq_true_eq, decide_eq_false_iff_not] at g9
              have f9 := h9; try simp only [decide_eq_true_eq, decide_eq_false_iff_not, Bool.and_eq_true, Bool.or_eq_true, Bool.not_eq_true', Bool.not_eq_false', Bool.and_eq_false_iff, Bool.or_eq_false_iff, not_or, Int.not_lt, Int.not_le] at f9
              refine wl_off rfl rfl h9 rfl ?_
              refine wl_off rfl rfl h9 rfl ?_
              refine wl_v (o_pick_t rfl h9 rfl) rfl ?_
              refine wl_v (o_move rfl) rfl ?_
              refine wl_off rfl rfl rfl rfl ?_
              refine wl_off rfl rfl rfl rfl ?_
              refine wl_v (o_pick_t rfl rfl rfl) rfl ?_
              refine wl_v (o_move rfl) rfl ?_
              refine wl_off rfl rfl rfl rfl ?_
              refine wl_off rfl rfl rfl rfl ?_
              refine wl_v (o_pick_t rfl rfl rfl) rfl ?_
              refine wl_v (o_move rfl) rfl ?_
              refine wl_off rfl rfl rfl rfl ?_
              refine wl_off rfl rfl rfl rfl ?_
              refine wl_v (o_pick_t rfl rfl rfl) rfl ?_
              refine wl_v (o_assign rfl) rfl ?_
              refine wl_nil ?_
              exact wk_then (wk_mid trivial ⟨fb (by first | (simp only [h5, h6, h7, h8, h9, Bool.true_and, Bool.false_and, Bool.true_or, Bool.false_or, Bool.and_true, Bool.and_false, Bool.or_true, Bool.or_false, Bool.not_true, Bool.not_false, cond_true, cond_false, if_true, if_false, reduceIte, Bool.false_eq_true]; done) | (simp only [Bool.true_and, Bool.false_and, Bool.true_or, Bool.false_or, Bool.and_true, Bool.and_false, Bool.or_true, Bool.or_false, Bool.not_true, Bool.not_false, cond_true, cond_false, if_true, if_false, reduceIte, Bool.false_eq_true]; done) | simp [h5, h6, h7, h8, h9]), trivial⟩ .slnil)
            · have g9 := h9; try simp only [decide_eq_true_eq, decide_eq_false_iff_not] at g9
              have f9 := h9; try simp only [decide_eq_true_eq, decide_eq_false_iff_not, Bool.and_eq_true, Bool.or_eq_true, Bool.not_eq_true', Bool.not_eq_false', Bool.and_eq_false_iff, Bool.or_eq_false_iff, not_or, Int.not_lt, Int.not_le] at f9
              refine wl_on rfl rfl h9 ?_
              refine wl_v (o_move rfl) rfl ?_
              refine wl_on rfl rfl h9 ?_
              refine wl_v (o_eq rfl rfl) rfl ?_
              refine wl_v (o_pick_f rfl h9 rfl) rfl ?_
              refine wl_v (o_move rfl) rfl ?_
              refine bsplit (decide ((c) = (95))) (fun h10 => ?_) (fun h10 => ?_)
              · have g10 := h10; try simp only [decide_eq_true_eq, decide_eq_false_iff_not] at g10
                have f10 := h10; try simp only [decide_eq_true_eq, decide_eq_false_iff_not, Bool.and_eq_true, Bool.or_eq_true, Bool.not_eq_true', Bool.not_eq_false', Bool.and_eq_false_iff, Bool.or_eq_false_iff, not_or, Int.not_lt, Int.not_le] at f10
                refine wl_off rfl rfl h10 rfl ?_
                refine wl_off rfl rfl h10 rfl ?_
                refine wl_v (o_pick_t rfl h10 rfl) rfl ?_
                refine wl_v (o_move rfl) rfl ?_
                refine wl_off rfl rfl rfl rfl ?_
                refine wl_off rfl rfl rfl rfl ?_
                refine wl_v (o_pick_t rfl rfl rfl) rfl ?_
                refine wl_v (o_move rfl) rfl ?_
                refine wl_off rfl rfl rfl rfl ?_
                refine wl_off rfl rfl rfl rfl ?_
                refine wl_v (o_pick_t rfl rfl rfl) rfl ?_
                refine wl_v (o_assign rfl) rfl ?_
                refine wl_nil ?_
                exact wk_then (wk_mid trivial ⟨fb (by first | (simp only [h5, h6, h7, h8, h9, h10, Bool.true_and, Bool.false_and, Bool.true_or, Bool.false_or, Bool.and_true, Bool.and_false, Bool.or_true, Bool.or_false, Bool.not_true, Bool.not_false, cond_true, cond_false, if_true, if_false, reduceIte, Bool.false_eq_true]; done) | (simp only [Bool.true_and, Bool.false_and, Bool.true_or, Bool.false_or, Bool.and_true, Bool.and_false, Bool.or_true, Bool.or_false, Bool.not_true, Bool.not_false, cond_true, cond_false, if_true, if_false, reduceIte, Bool.false_eq_true]; done) | simp [h5, h6, h7, h8, h9, h10]), trivial⟩ .slnil)
              · have g10 := h10; try simp only [decide_eq_true_eq, decide_eq_false_iff_not] at g10
                have f10 := h10; try simp only [decide_eq_true_eq, decide_eq_false_iff_not, Bool.and_eq_true, Bool.or_eq_true, Bool.not_eq_true', Bool.not_eq_false', Bool.and_eq_false_iff, Bool.or_eq_false_iff, not_or, Int.not_lt, Int.not_le] at f10
                refine wl_on rfl rfl h10 ?_
                refine wl_v (o_move rfl) rfl ?_
                refine wl_on rfl rfl h10 ?_
                refine wl_v (o_eq rfl rfl) rfl ?_
                refine wl_v (o_pick_f rfl h10 rfl) rfl ?_
                refine wl_v (o_move rfl) rfl ?_
                refine bsplit (decide ((c) = (46))) (fun h11 => ?_) (fun h11 => ?_)
                · have g11 := h11; try simp only [decide_eq_true_eq, decide_eq_false_iff_not] at g11
                  have f11 := h11; try simp only [decide_eq_true_eq, decide_eq_false_iff_not, Bool.and_eq_true, Bool.or_eq_true, Bool.not_eq_true', Bool.not_eq_false', Bool.and_eq_false_iff, Bool.or_eq_false_iff, not_or, Int.not_lt, Int.not_le] at f11
                  refine wl_off rfl rfl h11 rfl ?_
                  refine wl_off rfl rfl h11 rfl ?_
                  refine wl_v (o_pick_t rfl h11 rfl) rfl ?_
                  refine wl_v (o_move rfl) rfl ?_
                  refine wl_off rfl rfl rfl rfl ?_
                  refine wl_off rfl rfl rfl rfl ?_
                  refine wl_v (o_pick_t rfl rfl rfl) rfl ?_
                  refine wl_v (o_assign rfl) rfl ?_
                  refine wl_nil ?_
                  exact wk_then (wk_mid trivial ⟨fb (by first | (simp only [h5, h6, h7, h8, h9, h10, h11, Bool.true_and, Bool.false_and, Bool.true_or, Bool.false_or, Bool.and_true, Bool.and_false, Bool.or_true, Bool.or_false, Bool.not_true, Bool.not_false, cond_true, cond_false, if_true, if_false, reduceIte, Bool.false_eq_true]; done) | (simp only [Bool.true_and, Bool.false_and, Bool.true_or, Bool.false_or, Bool.and_true, Bool.and_false, Bool.or_true, Bool.or_false, Bool.not_true, Bool.not_false, cond_true, cond_false, if_true, if_false, reduceIte, Bool.false_eq_true]; done) | simp [h5, h6, h7, h8, h9, h10, h11]), trivial⟩ .slnil)
                · have g11 := h11; try simp only [decide_eq_true_eq, decide_eq_false_iff_not] at g11
                  have f11 := h11; try simp only [decide_eq_true_eq, decide_eq_false_iff_not, Bool.and_eq_true, Bool.or_eq_true, Bool.not_eq_true', Bool.not_eq_false', Bool.and_eq_false_iff, Bool.or_eq_false_iff, not_or, Int.not_lt, Int.not_le] at f11
                  refine wl_on rfl rfl h11 ?_
                  refine wl_v (o_move rfl) rfl ?_
                  refine wl_on rfl rfl h11 ?_
                  refine wl_v (o_eq rfl rfl) rfl ?_
                  refine wl_v (o_pick_f rfl h11 rfl) rfl ?_
                  refine wl_v (o_move rfl) rfl ?_
                  refine bsplit (decide ((c) = (58))) (fun h12 => ?_) (fun h12 => ?_)
                  · have g12 := h12; try simp only [decide_eq_true_eq, decide_eq_false_iff_not] at g12
                    have f12 := h12; try simp only [decide_eq_true_eq, decide_eq_false_iff_not, Bool.and_eq_true, Bool.or_eq_true, Bool.not_eq_true', Bool.not_eq_false', Bool.and_eq_false_iff, Bool.or_eq_false_iff, not_or, Int.not_lt, Int.not_le] at f12
                    refine wl_off rfl rfl h12 rfl ?_
                    refine wl_off rfl rfl h12 rfl ?_
                    refine wl_v (o_pick_t rfl h12 rfl) rfl ?_
                    refine wl_v (o_assign rfl) rfl ?_
                    refine wl_nil ?_
                    exact wk_then (wk_mid trivial ⟨fb (by first | (simp only [h5, h6, h7, h8, h9, h10, h11, h12, Bool.true_and, Bool.false_and, Bool.true_or, Bool.false_or, Bool.and_true, Bool.and_false, Bool.or_true, Bool.or_false, Bool.not_true, Bool.not_false, cond_true, cond_false, if_true, if_false, reduceIte, Bool.false_eq_true]; done) | (simp only [Bool.true_and, Bool.false_and, Bool.true_or, Bool.false_or, Bool.and_true, Bool.and_false, Bool.or_true, Bool.or_false, Bool.not_true, Bool.not_false, cond_true, cond_false, if_true, if_false, reduceIte, Bool.false_eq_true]; done) | simp [h5, h6, h7, h8, h9, h10, h11, h12]), trivial⟩ .slnil)
                  · have g12 := h12; try simp only [decide_eq_true_eq, decide_eq_false_iff_not] at g12
                    have f12 := h12; try simp only [decide_eq_true_eq, decide_eq_false_iff_not, Bool.and_eq_true, Bool.or_eq_true, Bool.not_eq_true', Bool.not_eq_false', Bool.and_eq_false_iff, Bool.or_eq_false_iff, not_or, Int.not_lt, Int.not_le] at f12
                    refine wl_on rfl rfl h12 ?_
                    refine wl_v (o_move rfl) rfl ?_
                    refine wl_on rfl rfl h12 ?_
                    refine wl_v (o_eq rfl rfl) rfl ?_
                    refine wl_v (o_pick_f rfl h12 rfl) rfl ?_
                    refine wl_v (o_assign rfl) rfl ?_
                    refine wl_nil ?_
                    exact wk_then (wk_mid trivial ⟨fb (by first | (simp only [h5, h6, h7, h8, h9, h10, h11, h12, Bool.true_and, Bool.false_and, Bool.true_or, Bool.false_or, Bool.and_true, Bool.and_false, Bool.or_true, Bool.or_false, Bool.not_true, Bool.not_false, cond_true, cond_false, if_true, if_false, reduceIte, Bool.false_eq_true]; done) | (simp only [Bool.true_and, Bool.false_and, Bool.true_or, Bool.false_or, Bool.and_true, Bool.and_false, Bool.or_true, Bool.or_false, Bool.not_true, Bool.not_false, cond_true, cond_false, if_true, if_false, reduceIte, Bool.false_eq_true]; done) | simp [h5, h6, h7, h8, h9, h10, h11, h12]), trivial⟩ .slnil)
        · have g7 := h7; try simp only [decide_eq_true_eq, decide_eq_false_iff_not] at g7
          have f7 := h7; try simp only [decide_eq_true_eq, decide_eq_false_iff_not, Bool.and_eq_true, Bool.or_eq_true, Bool.not_eq_true', Bool.not_eq_false', Bool.and_eq_false_iff, Bool.or_eq_false_iff, not_or, Int.not_lt, Int.not_le] at f7
          refine wl_off rfl rfl h7 rfl ?_
          refine wl_off rfl rfl h7 rfl ?_
          refine wl_on rfl rfl h6 ?_
          refine wl_v (o_pick_f rfl h7 rfl) rfl ?_
          refine wl_v (o_pick_f rfl h6 rfl) rfl ?_
          refine wl_v (o_move rfl) rfl ?_
          refine wl_on rfl rfl rfl ?_
          refine wl_v (o_move rfl) rfl ?_
          refine wl_on rfl rfl rfl ?_
          refine wl_v (o_eq rfl rfl) rfl ?_
          refine wl_v (o_pick_f rfl rfl rfl) rfl ?_
          refine wl_v (o_move rfl) rfl ?_
          refine bsplit (decide ((c) = (45))) (fun h13 => ?_) (fun h13 => ?_)
          · have g13 := h13; try simp only [decide_eq_true_eq, decide_eq_false_iff_not] at g13
            have f13 := h13; try simp only [decide_eq_true_eq, decide_eq_false_iff_not, Bool.and_eq_true, Bool.or_eq_true, Bool.not_eq_true', Bool.not_eq_false', Bool.and_eq_false_iff, Bool.or_eq_false_iff, not_or, Int.not_lt, Int.not_le] at f13
            refine wl_off rfl rfl h13 rfl ?_
            refine wl_off rfl rfl h13 rfl ?_
            refine wl_v (o_pick_t rfl h13 rfl) rfl ?_
            refine wl_v (o_move rfl) rfl ?_
            refine wl_off rfl rfl rfl rfl ?_
            refine wl_off rfl rfl rfl rfl ?_
            refine wl_v (o_pick_t rfl rfl rfl) rfl ?_
            refine wl_v (o_move rfl) rfl ?_
            refine wl_off rfl rfl rfl rfl ?_
            refine wl_off rfl rfl rfl rfl ?_
            refine wl_v (o_pick_t rfl rfl rfl) rfl ?_
            refine wl_v (o_move rfl) rfl ?_
            refine wl_off rfl rfl rfl rfl ?_
            refine wl_off rfl rfl rfl rfl ?_
            refine wl_v (o_pick_t rfl rfl rfl) rfl ?_
            refine wl_v (o_assign rfl) rfl ?_
            refine wl_nil ?_
            exact wk_then (wk_mid trivial ⟨fb (by first | (simp only [h5, h6, h7, h13, Bool.true_and, Bool.false_and, Bool.true_or, Bool.false_or, Bool.and_true, Bool.and_false, Bool.or_true, Bool.or_false, Bool.not_true, Bool.not_false, cond_true, cond_false, if_true, if_false, reduceIte, Bool.false_eq_true]; done) | (simp only [Bool.true_and, Bool.false_and, Bool.true_or, Bool.false_or, Bool.and_true, Bool.and_false, Bool.or_true, Bool.or_false, Bool.not_true, Bool.not_false, cond_true, cond_false, if_true, if_false, reduceIte, Bool.false_eq_true]; done) | simp [h5, h6, h7, h13]), trivial⟩ .slnil)
          · have g13 := h13; try simp only [decide_eq_true_eq, decide_eq_false_iff_not] at g13
            have f13 := h13; try simp only [decide_eq_true_eq, decide_eq_false_iff_not, Bool.and_eq_true, Bool.or_eq_true, Bool.not_eq_true', Bool.not_eq_false', Bool.and_eq_false_iff, Bool.or_eq_false_iff, not_or, Int.not_lt, Int.not_le] at f13
            refine wl_on rfl rfl h13 ?_
            refine wl_v (o_move rfl) rfl ?_
            refine wl_on rfl rfl h13 ?_
            refine wl_v (o_eq rfl rfl) rfl ?_
            refine wl_v (o_pick_f rfl h13 rfl) rfl ?_
            refine wl_v (o_move rfl) rfl ?_
            refine bsplit (decide ((c) = (95))) (fun h14 => ?_) (fun h14 => ?_)
            · have g14 := h14; try simp only [decide_eq_true_eq, decide_eq_false_iff_not] at g14
              have f14 := h14; try simp only [decide_eq_true_eq, decide_eq_false_iff_not, Bool.and_eq_true, Bool.or_eq_true, Bool.not_eq_true', Bool.not_eq_false', Bool.and_eq_false_iff, Bool.or_eq_false_iff, not_or, Int.not_lt, Int.not_le] at f14
              refine wl_off rfl rfl h14 rfl ?_
              refine wl_off rfl rfl h14 rfl ?_
              refine wl_v (o_pick_t rfl h14 rfl) rfl ?_
              refine wl_v (o_move rfl) rfl ?_
              refine wl_off rfl rfl rfl rfl ?_
              refine wl_off rfl rfl rfl rfl ?_
              refine wl_v (o_pick_t rfl rfl rfl) rfl ?_
              refine wl_v (o_move rfl) rfl ?_
              refine wl_off rfl rfl rfl rfl ?_
              refine wl_off rfl rfl rfl rfl ?_
              refine wl_v (o_pick_t rfl rfl rfl) rfl ?_
              refine wl_v (o_assign rfl) rfl ?_
              refine wl_nil ?_
              exact wk_then (wk_mid trivial ⟨fb (by first | (simp only [h5, h6, h7, h13, h14, Bool.true_and, Bool.false_and, Bool.true_or, Bool.false_or, Bool.and_true, Bool.and_false, Bool.or_true, Bool.or_false, Bool.not_true, Bool.not_false, cond_true, cond_false, if_true, if_false, reduceIte, Bool.false_eq_true]; done) | (simp only [Bool.true_and, Bool.false_and, Bool.true_or, Bool.false_or, Bool.and_true, Bool.and_false, Bool.or_true, Bool.or_false, Bool.not_true, Bool.not_false, cond_true, cond_false, if_true, if_false, reduceIte, Bool.false_eq_true]; done) | simp [h5, h6, h7, h13, h14]), trivial⟩ .slnil)
            · have g14 := h14; try simp only [decide_eq_true_eq, decide_eq_false_iff_not] at g14
              have f14 := h14; try simp only [decide_eq_true_eq, decide_eq_false_iff_not, Bool.and_eq_true, Bool.or_eq_true, Bool.not_eq_true', Bool.not_eq_false', Bool.and_eq_false_iff, Bool.or_eq_false_iff, not_or, Int.not_lt, Int.not_le] at f14
              refine wl_on rfl rfl h14 ?_
              refine wl_v (o_move rfl) rfl ?_
              refine wl_on rfl rfl h14 ?_
              refine wl_v (o_eq rfl rfl) rfl ?_
              refine wl_v (o_pick_f rfl h14 rfl) rfl ?_
              refine wl_v (o_move rfl) rfl ?_
              refine bsplit (decide ((c) = (46))) (fun h15 => ?_) (fun h15 => ?_)
              · have g15 := h15; try simp only [decide_eq_true_eq, decide_eq_false_iff_not] at g15
                have f15 := h15; try simp only [decide_eq_true_eq, decide_eq_false_iff_not, Bool.and_eq_true, Bool.or_eq_true, Bool.not_eq_true', Bool.not_eq_false', Bool.and_eq_false_iff, Bool.or_eq_false_iff, not_or, Int.not_lt, Int.not_le] at f15
                refine wl_off rfl rfl h15 rfl ?_
                refine wl_off rfl rfl h15 rfl ?_
                refine wl_v (o_pick_t rfl h15 rfl) rfl ?_
                refine wl_v (o_move rfl) rfl ?_
                refine wl_off rfl rfl rfl rfl ?_
                refine wl_off rfl rfl rfl rfl ?_
                refine wl_v (o_pick_t rfl rfl rfl) rfl ?_
                refine wl_v (o_assign rfl) rfl ?_
                refine wl_nil ?_
                exact wk_then (wk_mid trivial ⟨fb (by first | (simp only [h5, h6, h7, h13, h14, h15, Bool.true_and, Bool.false_and, Bool.true_or, Bool.false_or, Bool.and_true, Bool.and_false, Bool.or_true, Bool.or_false, Bool.not_true, Bool.not_false, cond_true, cond_false, if_true, if_false, reduceIte, Bool.false_eq_true]; done) | (simp only [Bool.true_and, Bool.false_and, Bool.true_or, Bool.false_or, Bool.and_true, Bool.and_false, Bool.or_true, Bool.or_false, Bool.not_true, Bool.not_false, cond_true, cond_false, if_true, if_false, reduceIte, Bool.false_eq_true]; done) | simp [h5, h6, h7, h13, h14, h15]), trivial⟩ .slnil)
              · have g15 := h15; try simp only [decide_eq_true_eq, decide_eq_false_iff_not] at g15
                have f15 := h15; try simp only [decide_eq_true_eq, decide_eq_false_iff_not, Bool.and_eq_true, Bool.or_eq_true, Bool.not_eq_true', Bool.not_eq_false', Bool.and_eq_false_iff, Bool.or_eq_false_iff, not_or, Int.not_lt, Int.not_le] at f15
                refine wl_on rfl rfl h15 ?_
                refine wl_v (o_move rfl) rfl ?_
                refine wl_on rfl rfl h15 ?_
                refine wl_v (o_eq rfl rfl) rfl ?_
                refine wl_v (o_pick_f rfl h15 rfl) rfl ?_
                refine wl_v (o_move rfl) rfl ?_
                refine bsplit (decide ((c) = (58))) (fun h16 => ?_) (fun h16 => ?_)
                · have g16 := h16; try simp only [decide_eq_true_eq, decide_eq_false_iff_not] at g16
                  have f16 := h16; try simp only [decide_eq_true_eq, decide_eq_false_iff_not, Bool.and_eq_true, Bool.or_eq_true, Bool.not_eq_true', Bool.not_eq_false', Bool.and_eq_false_iff, Bool.or_eq_false_iff, not_or, Int.not_lt, Int.not_le] at f16
                  refine wl_off rfl rfl h16 rfl ?_
                  refine wl_off rfl rfl h16 rfl ?_
                  refine wl_v (o_pick_t rfl h16 rfl) rfl ?_
                  refine wl_v (o_assign rfl) rfl ?_
                  refine wl_nil ?_
                  exact wk_then (wk_mid trivial ⟨fb (by first | (simp only [h5, h6, h7, h13, h14, h15, h16, Bool.true_and, Bool.false_and, Bool.true_or, Bool.false_or, Bool.and_true, Bool.and_false, Bool.or_true, Bool.or_false, Bool.not_true, Bool.not_false, cond_true, cond_false, if_true, if_false, reduceIte, Bool.false_eq_true]; done) | (simp only [Bool.true_and, Bool.false_and, Bool.true_or, Bool.false_or, Bool.and_true, Bool.and_false, Bool.or_true, Bool.or_false, Bool.not_true, Bool.not_false, cond_true, cond_false, if_true, if_false, reduceIte, Bool.false_eq_true]; done) | simp [h5, h6, h7, h13, h14, h15, h16]), trivial⟩ .slnil)
                · have g16 := h16; try simp only [decide_eq_true_eq, decide_eq_false_iff_not] at g16
                  have f16 := h16; try simp only [decide_eq_true_eq, decide_eq_false_iff_not, Bool.and_eq_true, Bool.or_eq_true, Bool.not_eq_true', Bool.not_eq_false', Bool.and_eq_false_iff, Bool.or_eq_false_iff, not_or, Int.not_lt, Int.not_le] at f16
                  refine wl_on rfl rfl h16 ?_
                  refine wl_v (o_move rfl) rfl ?_
                  refine wl_on rfl rfl h16 ?_
                  refine wl_v (o_eq rfl rfl) rfl ?_
                  refine wl_v (o_pick_f rfl h16 rfl) rfl ?_
                  refine wl_v (o_assign rfl) rfl ?_
                  refine wl_nil ?_
                  exact wk_then (wk_mid trivial ⟨fb (by first | (simp only [h5, h6, h7, h13, h14, h15, h16, Bool.true_and, Bool.false_and, Bool.true_or, Bool.false_or, Bool.and_true, Bool.and_false, Bool.or_true, Bool.or_false, Bool.not_true, Bool.not_false, cond_true, cond_false, if_true, if_false, reduceIte, Bool.false_eq_true]; done) | (simp only [Bool.true_and, Bool.false_and, Bool.true_or, Bool.false_or, Bool.and_true, Bool.and_false, Bool.or_true, Bool.or_false, Bool.not_true, Bool.not_false, cond_true, cond_false, if_true, if_false, reduceIte, Bool.false_eq_true]; done) | simp [h5, h6, h7, h13, h14, h15, h16]), trivial⟩ .slnil)
  refine wc_ret ?_
  refine wk_ret (r_1 rfl rfl) ?_
  exact retv (by simp only [letterS]; by_cases h : 65 ≤ c <;> simp [h, Bool.or_assoc])

theorem valid_c (m : Int) (w : World) : Calls Tryd.prog 47 [.int .i64 (m)].toArray w (RetV w (.bool (validS m))) := by
  refine enter0 (n := 9) Tryd.func47 rfl Tryd.ntmps47 rfl ?_
  refine wc_seq ?_
  refine wc_region ?_
  refine wl_v (o_assign rfl) rfl ?_
  refine wl_nil ?_
  refine wk_then (wc_of_wk ?_)
  refine wc_seq_mid [(2, .bool (((decide ((-1000000000000) ≤ (m))) && (decide ((m) ≤ (1000000000000))))))] [] (φ := True) ?_ (fun hm18 => ?_)
  · refine wc_region ?_
    refine wl_v (o_move rfl) rfl ?_
    refine wl_v (o_le rfl rfl) rfl ?_
    refine wl_v (o_move rfl) rfl ?_
    refine bsplit (decide ((-1000000000000) ≤ (m))) (fun h18 => ?_) (fun h18 => ?_)
    · have g18 := h18; try simp only [decide_eq_true_eq, decide_eq_false_iff_not] at g18
      have f18 := h18; try simp only [decide_eq_true_eq, decide_eq_false_iff_not, Bool.and_eq_true, Bool.or_eq_true, Bool.not_eq_true', Bool.not_eq_false', Bool.and_eq_false_iff, Bool.or_eq_false_iff, not_or, Int.not_lt, Int.not_le] at f18
      refine wl_on rfl rfl h18 ?_
      refine wl_v (o_move rfl) rfl ?_
      refine wl_on rfl rfl h18 ?_
      refine wl_v (o_le rfl rfl) rfl ?_
      refine wl_v (o_pick_t rfl h18 rfl) rfl ?_
      refine wl_v (o_assign rfl) rfl ?_
      refine wl_nil ?_
      exact wk_then (wk_mid trivial ⟨fb (by first | (simp only [h18, Bool.true_and, Bool.false_and, Bool.true_or, Bool.false_or, Bool.and_true, Bool.and_false, Bool.or_true, Bool.or_false, Bool.not_true, Bool.not_false, cond_true, cond_false, if_true, if_false, reduceIte, Bool.false_eq_true]; done) | (simp only [Bool.true_and, Bool.false_and, Bool.true_or, Bool.false_or, Bool.and_true, Bool.and_false, Bool.or_true, Bool.or_false, Bool.not_true, Bool.not_false, cond_true, cond_false, if_true, if_false, reduceIte, Bool.false_eq_true]; done) | simp [h18]), trivial⟩ .slnil)
    · have g18 := h18; try simp only [decide_eq_true_eq, decide_eq_false_iff_not] at g18
      have f18 := h18; try simp only [decide_eq_true_eq, decide_eq_false_iff_not, Bool.and_eq_true, Bool.or_eq_true, Bool.not_eq_true', Bool.not_eq_false', Bool.and_eq_false_iff, Bool.or_eq_false_iff, not_or, Int.not_lt, Int.not_le] at f18
      refine wl_off rfl rfl h18 rfl ?_
      refine wl_off rfl rfl h18 rfl ?_
      refine wl_v (o_pick_f rfl h18 rfl) rfl ?_
      refine wl_v (o_assign rfl) rfl ?_
      refine wl_nil ?_
      exact wk_then (wk_mid trivial ⟨fb (by first | (simp only [h18, Bool.true_and, Bool.false_and, Bool.true_or, Bool.false_or, Bool.and_true, Bool.and_false, Bool.or_true, Bool.or_false, Bool.not_true, Bool.not_false, cond_true, cond_false, if_true, if_false, reduceIte, Bool.false_eq_true]; done) | (simp only [Bool.true_and, Bool.false_and, Bool.true_or, Bool.false_or, Bool.and_true, Bool.and_false, Bool.or_true, Bool.or_false, Bool.not_true, Bool.not_false, cond_true, cond_false, if_true, if_false, reduceIte, Bool.false_eq_true]; done) | simp [h18]), trivial⟩ .slnil)
  refine wc_ret ?_
  refine wk_ret (r_1 rfl rfl) ?_
  exact retv (by first | rfl | simp [])

theorem name_c (p : List UInt8) (w : World) : Calls Tryd.prog 20 [.string (B p)].toArray w (RetV w (.bool (nameS p))) := by
  refine enter0 (n := 39) Tryd.func20 rfl Tryd.ntmps20 rfl ?_
  refine wc_seq ?_
  refine wc_region ?_
  refine wl_v (o_assign rfl) rfl ?_
  refine wl_nil ?_
  refine wk_then (wc_of_wk ?_)
  refine wc_seq ?_
  refine wc_seq ?_
  refine wc_region ?_
  refine wl_v (o_move rfl) rfl ?_
  refine w_range_s Tryd.underlying9 rfl rfl (fun b20 => ?_)
  refine wl_nil ?_
  refine wk_then (wc_of_wk ?_)
  refine wc_block ?_
  refine wc_loop (S := Nat) (fun (k : Nat) => k ≤ p.length ∧ allFrom nameCh 0 p = allFrom nameCh k (p.drop k)) (fun (k : Nat) => [(0, .string (B (p))), (2, .bool (false)), (6, .pointer (some ⟨b20, 0, none⟩))]) (fun (k : Nat) => [.blk b20 (.stringIter (B p) (k))]) (fun (k : Nat) => p.length - k) (0) ?_ ⟨rfl, rfl, rfl, trivial⟩ (.cons_cons _ (.slnil)) ?_
  · exact ⟨Nat.zero_le _, by simp⟩
  rintro k hi0
  refine wc_seq ?_
  refine wc_region ?_
  refine w_next_s (i := 0) rfl rfl rfl (fun hend => ?_) (fun u21 c22 wd23 hu21 hlu21 hhu21 hwu21 => ?_)
  · refine wl_v (o_extract rfl rfl) rfl ?_
    refine wl_nil ?_
    refine wk_then (wc_of_wk ?_)
    refine wc_seq ?_
    refine wc_cond_f rfl rfl ?_
    refine wc_exit ?_
    refine wk_then_exit ?_
    refine wk_then_exit ?_
    refine wk_in_hit ?_
    refine wk_then (wc_of_wk ?_)
    refine wc_seq_mid [(2, .bool (((decide ((1) ≤ ((p.length : Int)))) && (decide (((p.length : Int)) ≤ (24))))))] [.blk b20 (.stringIter (B p) (k))] (φ := True) ?_ (fun hm24 => ?_)
    · refine wc_region ?_
      refine wl_v (o_move rfl) rfl ?_
      refine wl_v (o_len_s Tryd.underlying9 rfl) rfl ?_
      refine wl_v (o_ge rfl rfl) rfl ?_
      refine wl_v (o_move rfl) rfl ?_
      refine bsplit (decide ((1) ≤ ((p.length : Int)))) (fun h24 => ?_) (fun h24 => ?_)
      · have g24 := h24; try simp only [decide_eq_true_eq, decide_eq_false_iff_not] at g24
        have f24 := h24; try simp only [decide_eq_true_eq, decide_eq_false_iff_not, Bool.and_eq_true, Bool.or_eq_true, Bool.not_eq_true', Bool.not_eq_false', Bool.and_eq_false_iff, Bool.or_eq_false_iff, not_or, Int.not_lt, Int.not_le] at f24
        refine wl_on rfl rfl h24 ?_
        refine wl_v (o_move rfl) rfl ?_
        refine wl_on rfl rfl h24 ?_
        refine wl_v (o_len_s Tryd.underlying9 rfl) rfl ?_
        refine wl_on rfl rfl h24 ?_
        refine wl_v (o_le rfl rfl) rfl ?_
        refine wl_v (o_pick_t rfl h24 rfl) rfl ?_
        refine wl_v (o_assign rfl) rfl ?_
        refine wl_nil ?_
        exact wk_then (wk_mid trivial ⟨fb (by first | (simp only [h24, Bool.true_and, Bool.false_and, Bool.true_or, Bool.false_or, Bool.and_true, Bool.and_false, Bool.or_true, Bool.or_false, Bool.not_true, Bool.not_false, cond_true, cond_false, if_true, if_false, reduceIte, Bool.false_eq_true]; done) | (simp only [Bool.true_and, Bool.false_and, Bool.true_or, Bool.false_or, Bool.and_true, Bool.and_false, Bool.or_true, Bool.or_false, Bool.not_true, Bool.not_false, cond_true, cond_false, if_true, if_false, reduceIte, Bool.false_eq_true]; done) | simp [h24]), trivial⟩ (.cons_cons _ (.slnil)))
      · have g24 := h24; try simp only [decide_eq_true_eq, decide_eq_false_iff_not] at g24
        have f24 := h24; try simp only [decide_eq_true_eq, decide_eq_false_iff_not, Bool.and_eq_true, Bool.or_eq_true, Bool.not_eq_true', Bool.not_eq_false', Bool.and_eq_false_iff, Bool.or_eq_false_iff, not_or, Int.not_lt, Int.not_le] at f24
        refine wl_off rfl rfl h24 rfl ?_
        refine wl_off rfl rfl h24 rfl ?_
        refine wl_off rfl rfl h24 rfl ?_
        refine wl_v (o_pick_f rfl h24 rfl) rfl ?_
        refine wl_v (o_assign rfl) rfl ?_
        refine wl_nil ?_
        exact wk_then (wk_mid trivial ⟨fb (by first | (simp only [h24, Bool.true_and, Bool.false_and, Bool.true_or, Bool.false_or, Bool.and_true, Bool.and_false, Bool.or_true, Bool.or_false, Bool.not_true, Bool.not_false, cond_true, cond_false, if_true, if_false, reduceIte, Bool.false_eq_true]; done) | (simp only [Bool.true_and, Bool.false_and, Bool.true_or, Bool.false_or, Bool.and_true, Bool.and_false, Bool.or_true, Bool.or_false, Bool.not_true, Bool.not_false, cond_true, cond_false, if_true, if_false, reduceIte, Bool.false_eq_true]; done) | simp [h24]), trivial⟩ (.cons_cons _ (.slnil)))
    refine wc_ret ?_
    refine wk_ret (r_1 rfl rfl) ?_
    exact retv (by rw [name_yes hi0 hend])
  · refine wl_v (o_extract rfl rfl) rfl ?_
    refine wl_nil ?_
    refine wk_then (wc_of_wk ?_)
    refine wc_seq ?_
    refine wc_cond_t rfl rfl ?_
    refine wc_skip ?_
    refine wk_then (wc_of_wk ?_)
    refine wc_block ?_
    refine wc_seq ?_
    refine wc_region ?_
    refine wl_v (o_extract rfl rfl) rfl ?_
    refine wl_v (o_extract rfl rfl) rfl ?_
    refine wl_v (o_assign rfl) rfl ?_
    refine wl_v (o_assign rfl) rfl ?_
    refine wl_nil ?_
    refine wk_then (wc_of_wk ?_)
    refine wc_seq_mid [(0, .string (B (p))), (2, .bool (false)), (3, .int .i64 ((k : Int))), (4, .int .i32 ((c22 : Int))), (6, .pointer (some ⟨b20, 0, none⟩)), (7, .tuple #[.bool (true), .int .i64 ((k : Int)), .int .i32 ((c22 : Int))]), (8, .bool (true)), (9, .int .i64 ((k : Int))), (10, .int .i32 ((c22 : Int))), (11, .int .i32 ((c22 : Int))), (12, .bool (smallS (c22 : Int))), (13, .bool (!(smallS (c22 : Int)))), (14, .bool (!(smallS (c22 : Int)))), (30, .bool (((!(smallS (c22 : Int))) && ((decide (((k : Int)) = (0))) || ((!(digitS (c22 : Int))) && ((!(decide (((c22 : Int)) = (45)))) && (!(decide (((c22 : Int)) = (95))))))))))] [.blk b20 (.stringIter (B p) (k + wd23))] (φ := True) ?_ (fun hm29 => ?_)
    · refine wc_region ?_
      refine wl_v (o_move rfl) rfl ?_
      refine w_call Tryd.call34 rfl (fun w hw => small_c (c22 : Int) w) rfl ?_
      refine wl_v (o_not rfl) rfl ?_
      refine wl_v (o_move rfl) rfl ?_
      refine bsplit (!(smallS (c22 : Int))) (fun h26 => ?_) (fun h26 => ?_)
      · have g26 := h26; try simp only [decide_eq_true_eq, decide_eq_false_iff_not] at g26
        have f26 := h26; try simp only [decide_eq_true_eq, decide_eq_false_iff_not, Bool.and_eq_true, Bool.or_eq_true, Bool.not_eq_true', Bool.not_eq_false', Bool.and_eq_false_iff, Bool.or_eq_false_iff, not_or, Int.not_lt, Int.not_le] at f26
        refine wl_on rfl rfl h26 ?_
        refine wl_v (o_move rfl) rfl ?_
        refine wl_on rfl rfl h26 ?_
        refine wl_v (o_eq rfl rfl) rfl ?_
        refine wl_on rfl rfl h26 ?_
        refine wl_v (o_move rfl) rfl ?_
        refine bsplit (decide (((k : Int)) = (0))) (fun h27 => ?_) (fun h27 => ?_)
        · have g27 := h27; try simp only [decide_eq_true_eq, decide_eq_false_iff_not] at g27
          have f27 := h27; try simp only [decide_eq_true_eq, decide_eq_false_iff_not, Bool.and_eq_true, Bool.or_eq_true, Bool.not_eq_true', Bool.not_eq_false', Bool.and_eq_false_iff, Bool.or_eq_false_iff, not_or, Int.not_lt, Int.not_le] at f27
          refine wl_off rfl rfl h27 rfl ?_
          refine wl_off rfl rfl h27 rfl ?_
          refine wl_off rfl rfl h27 rfl ?_
          refine wl_off rfl rfl h27 rfl ?_
          refine wl_off_u rfl rfl rfl ?_
          refine wl_off_u rfl rfl rfl ?_
          refine wl_off rfl rfl h27 rfl ?_
          refine wl_off rfl rfl h27 rfl ?_
          refine wl_off_u rfl rfl rfl ?_
          refine wl_off_u rfl rfl rfl ?_
          refine wl_off rfl rfl h27 rfl ?_
          refine wl_on rfl rfl h26 ?_
          refine wl_v (o_pick_t rfl h27 rfl) rfl ?_
          refine wl_v (o_pick_t rfl h26 rfl) rfl ?_
          refine wl_nil ?_
          exact wk_then (wk_mid trivial ⟨rfl, rfl, rfl, rfl, rfl, rfl, rfl, rfl, rfl, rfl, rfl, rfl, rfl, fb (by first | (simp only [h26, h27, Bool.true_and, Bool.false_and, Bool.true_or, Bool.false_or, Bool.and_true, Bool.and_false, Bool.or_true, Bool.or_false, Bool.not_true, Bool.not_false, cond_true, cond_false, if_true, if_false, reduceIte, Bool.false_eq_true]; done) | (simp only [Bool.true_and, Bool.false_and, Bool.true_or, Bool.false_or, Bool.and_true, Bool.and_false, Bool.or_true, Bool.or_false, Bool.not_true, Bool.not_false, cond_true, cond_false, if_true, if_false, reduceIte, Bool.false_eq_true]; done) | simp [h26, h27]), trivial⟩ (.cons_cons _ (.slnil)))
        · have g27 := h27; try simp only [decide_eq_true_eq, decide_eq_false_iff_not] at g27
          have f27 := h27; try simp only [decide_eq_true_eq, decide_eq_false_iff_not, Bool.and_eq_true, Bool.or_eq_true, Bool.not_eq_true', Bool.not_eq_false', Bool.and_eq_false_iff, Bool.or_eq_false_iff, not_or, Int.not_lt, Int.not_le] at f27
          refine wl_on rfl rfl h27 ?_
          refine wl_v (o_move rfl) rfl ?_
          refine wl_on rfl rfl h27 ?_
          refine w_call Tryd.call35 rfl (fun w hw => digit_c (c22 : Int) w) rfl ?_
          refine wl_on rfl rfl h27 ?_
          refine wl_v (o_not rfl) rfl ?_
          refine wl_on rfl rfl h27 ?_
          refine wl_v (o_move rfl) rfl ?_
          refine bsplit (!(digitS (c22 : Int))) (fun h28 => ?_) (fun h28 => ?_)
          · have g28 := h28; try simp only [decide_eq_true_eq, decide_eq_false_iff_not] at g28
            have f28 := h28; try simp only [decide_eq_true_eq, decide_eq_false_iff_not, Bool.and_eq_true, Bool.or_eq_true, Bool.not_eq_true', Bool.not_eq_false', Bool.and_eq_false_iff, Bool.or_eq_false_iff, not_or, Int.not_lt, Int.not_le] at f28
            refine wl_on rfl rfl h28 ?_
            refine wl_v (o_move rfl) rfl ?_
            refine wl_on rfl rfl h28 ?_
            refine wl_v (o_ne rfl rfl) rfl ?_
            refine wl_on rfl rfl h27 ?_
            refine wl_v (o_pick_t rfl h28 rfl) rfl ?_
            refine wl_on rfl rfl h27 ?_
            refine wl_v (o_move rfl) rfl ?_
            refine bsplit (!(decide (((c22 : Int)) = (45)))) (fun h29 => ?_) (fun h29 => ?_)
            · have g29 := h29; try simp only [decide_eq_true_eq, decide_eq_false_iff_not] at g29
              have f29 := h29; try simp only [decide_eq_true_eq, decide_eq_false_iff_not, Bool.and_eq_true, Bool.or_eq_true, Bool.not_eq_true', Bool.not_eq_false', Bool.and_eq_false_iff, Bool.or_eq_false_iff, not_or, Int.not_lt, Int.not_le] at f29
              refine wl_on rfl rfl h29 ?_
              refine wl_v (o_move rfl) rfl ?_
              refine wl_on rfl rfl h29 ?_
              refine wl_v (o_ne rfl rfl) rfl ?_
              refine wl_on rfl rfl h27 ?_
              refine wl_v (o_pick_t rfl h29 rfl) rfl ?_
              refine wl_on rfl rfl h26 ?_
              refine wl_v (o_pick_f rfl h27 rfl) rfl ?_
              refine wl_v (o_pick_t rfl h26 rfl) rfl ?_
              refine wl_nil ?_
              exact wk_then (wk_mid trivial ⟨rfl, rfl, rfl, rfl, rfl, rfl, rfl, rfl, rfl, rfl, rfl, rfl, rfl, fb (by first | (simp only [h26, h27, h28, h29, Bool.true_and, Bool.false_and, Bool.true_or, Bool.false_or, Bool.and_true, Bool.and_false, Bool.or_true, Bool.or_false, Bool.not_true, Bool.not_false, cond_true, cond_false, if_true, if_false, reduceIte, Bool.false_eq_true]; done) | (simp only [Bool.true_and, Bool.false_and, Bool.true_or, Bool.false_or, Bool.and_true, Bool.and_false, Bool.or_true, Bool.or_false, Bool.not_true, Bool.not_false, cond_true, cond_false, if_true, if_false, reduceIte, Bool.false_eq_true]; done) | simp [h26, h27, h28, h29]), trivial⟩ (.cons_cons _ (.slnil)))
            · have g29 := h29; try simp only [decide_eq_true_eq, decide_eq_false_iff_not] at g29
              have f29 := h29; try simp only [decide_eq_true_eq, decide_eq_false_iff_not, Bool.and_eq_true, Bool.or_eq_true, Bool.not_eq_true', Bool.not_eq_false', Bool.and_eq_false_iff, Bool.or_eq_false_iff, not_or, Int.not_lt, Int.not_le] at f29
              refine wl_off rfl rfl h29 rfl ?_
              refine wl_off rfl rfl h29 rfl ?_
              refine wl_on rfl rfl h27 ?_
              refine wl_v (o_pick_f rfl h29 rfl) rfl ?_
              refine wl_on rfl rfl h26 ?_
              refine wl_v (o_pick_f rfl h27 rfl) rfl ?_
              refine wl_v (o_pick_t rfl h26 rfl) rfl ?_
              refine wl_nil ?_
              exact wk_then (wk_mid trivial ⟨rfl, rfl, rfl, rfl, rfl, rfl, rfl, rfl, rfl, rfl, rfl, rfl, rfl, fb (by first | (simp only [h26, h27, h28, h29, Bool.true_and, Bool.false_and, Bool.true_or, Bool.false_or, Bool.and_true, Bool.and_false, Bool.or_true, Bool.or_false, Bool.not_true, Bool.not_false, cond_true, cond_false, if_true, if_false, reduceIte, Bool.false_eq_true]; done) | (simp only [Bool.true_and, Bool.false_and, Bool.true_or, Bool.false_or, Bool.and_true, Bool.and_false, Bool.or_true, Bool.or_false, Bool.not_true, Bool.not_false, cond_true, cond_false, if_true, if_false, reduceIte, Bool.false_eq_true]; done) | simp [h26, h27, h28, h29]), trivial⟩ (.cons_cons _ (.slnil)))
          · have g28 := h28; try simp only [decide_eq_true_eq, decide_eq_false_iff_not] at g28
            have f28 := h28; try simp only [decide_eq_true_eq, decide_eq_false_iff_not, Bool.and_eq_true, Bool.or_eq_true, Bool.not_eq_true', Bool.not_eq_false', Bool.and_eq_false_iff, Bool.or_eq_false_iff, not_or, Int.not_lt, Int.not_le] at f28
            refine wl_off rfl rfl h28 rfl ?_
            refine wl_off rfl rfl h28 rfl ?_
            refine wl_on rfl rfl h27 ?_
            refine wl_v (o_pick_f rfl h28 rfl) rfl ?_
            refine wl_on rfl rfl h27 ?_
            refine wl_v (o_move rfl) rfl ?_
            refine wl_off rfl rfl rfl rfl ?_
            refine wl_off rfl rfl rfl rfl ?_
            refine wl_on rfl rfl h27 ?_
            refine wl_v (o_pick_f rfl rfl rfl) rfl ?_
            refine wl_on rfl rfl h26 ?_
            refine wl_v (o_pick_f rfl h27 rfl) rfl ?_
            refine wl_v (o_pick_t rfl h26 rfl) rfl ?_
            refine wl_nil ?_
            exact wk_then (wk_mid trivial ⟨rfl, rfl, rfl, rfl, rfl, rfl, rfl, rfl, rfl, rfl, rfl, rfl, rfl, fb (by first | (simp only [h26, h27, h28, Bool.true_and, Bool.false_and, Bool.true_or, Bool.false_or, Bool.and_true, Bool.and_false, Bool.or_true, Bool.or_false, Bool.not_true, Bool.not_false, cond_true, cond_false, if_true, if_false, reduceIte, Bool.false_eq_true]; done) | (simp only [Bool.true_and, Bool.false_and, Bool.true_or, Bool.false_or, Bool.and_true, Bool.and_false, Bool.or_true, Bool.or_false, Bool.not_true, Bool.not_false, cond_true, cond_false, if_true, if_false, reduceIte, Bool.false_eq_true]; done) | simp [h26, h27, h28]), trivial⟩ (.cons_cons _ (.slnil)))
      · have g26 := h26; try simp only [decide_eq_true_eq, decide_eq_false_iff_not] at g26
        have f26 := h26; try simp only [decide_eq_true_eq, decide_eq_false_iff_not, Bool.and_eq_true, Bool.or_eq_true, Bool.not_eq_true', Bool.not_eq_false', Bool.and_eq_false_iff, Bool.or_eq_false_iff, not_or, Int.not_lt, Int.not_le] at f26
        refine wl_off rfl rfl h26 rfl ?_
        refine wl_off rfl rfl h26 rfl ?_
        refine wl_off rfl rfl h26 rfl ?_
        refine wl_off_u rfl rfl rfl ?_
        refine wl_off_u rfl rfl rfl ?_
        refine wl_off_u rfl rfl rfl ?_
        refine wl_off_u rfl rfl rfl ?_
        refine wl_off_u rfl rfl rfl ?_
        refine wl_off_u rfl rfl rfl ?_
        refine wl_off_u rfl rfl rfl ?_
        refine wl_off_u rfl rfl rfl ?_
        refine wl_off_u rfl rfl rfl ?_
        refine wl_off_u rfl rfl rfl ?_
        refine wl_off_u rfl rfl rfl ?_
        refine wl_off rfl rfl h26 rfl ?_
        refine wl_v (o_pick_f rfl h26 rfl) rfl ?_
        refine wl_nil ?_
        exact wk_then (wk_mid trivial ⟨rfl, rfl, rfl, rfl, rfl, rfl, rfl, rfl, rfl, rfl, rfl, rfl, rfl, fb (by first | (simp only [h26, Bool.true_and, Bool.false_and, Bool.true_or, Bool.false_or, Bool.and_true, Bool.and_false, Bool.or_true, Bool.or_false, Bool.not_true, Bool.not_false, cond_true, cond_false, if_true, if_false, reduceIte, Bool.false_eq_true]; done) | (simp only [Bool.true_and, Bool.false_and, Bool.true_or, Bool.false_or, Bool.and_true, Bool.and_false, Bool.or_true, Bool.or_false, Bool.not_true, Bool.not_false, cond_true, cond_false, if_true, if_false, reduceIte, Bool.false_eq_true]; done) | simp [h26]), trivial⟩ (.cons_cons _ (.slnil)))
    refine wc_cond (b := ((!(smallS (c22 : Int))) && ((decide (((k : Int)) = (0))) || ((!(digitS (c22 : Int))) && ((!(decide (((c22 : Int)) = (45)))) && (!(decide (((c22 : Int)) = (95))))))))) rfl (fun h31 => ?_) (fun h31 => ?_)
    · have g31 := h31; try simp only [decide_eq_true_eq, decide_eq_false_iff_not] at g31
      have f31 := h31; try simp only [decide_eq_true_eq, decide_eq_false_iff_not, Bool.and_eq_true, Bool.or_eq_true, Bool.not_eq_true', Bool.not_eq_false', Bool.and_eq_false_iff, Bool.or_eq_false_iff, not_or, Int.not_lt, Int.not_le] at f31
      refine wc_seq ?_
      refine wc_region ?_
      refine wl_v (o_assign rfl) rfl ?_
      refine wl_nil ?_
      refine wk_then (wc_of_wk ?_)
      refine wc_ret ?_
      refine wk_in_ret ?_
      refine wk_then_ret ?_
      refine wk_in_ret ?_
      refine wk_then_ret ?_
      refine wk_ret (r_1 rfl rfl) ?_
      exact retv (by rw [name_no hi0 hu21 hlu21 hhu21 h31])
    · have g31 := h31; try simp only [decide_eq_true_eq, decide_eq_false_iff_not] at g31
      have f31 := h31; try simp only [decide_eq_true_eq, decide_eq_false_iff_not, Bool.and_eq_true, Bool.or_eq_true, Bool.not_eq_true', Bool.not_eq_false', Bool.and_eq_false_iff, Bool.or_eq_false_iff, not_or, Int.not_lt, Int.not_le] at f31
      refine wc_skip ?_
      refine wk_in_norm ?_
      refine wk_then ?_
      refine wk_some (k + wd23) ?_ ⟨rfl, rfl, rfl, trivial⟩ (.cons_cons _ (.slnil))
      exact name_next hi0 hu21 hlu21 hhu21 h31

theorem id_c (p : List UInt8) (w : World) : Calls Tryd.prog 19 [.string (B p)].toArray w (RetV w (.bool (idS p))) := by
  refine enter0 (n := 21) Tryd.func19 rfl Tryd.ntmps19 rfl ?_
  refine wc_seq ?_
  refine wc_region ?_
  refine wl_v (o_assign rfl) rfl ?_
  refine wl_nil ?_
  refine wk_then (wc_of_wk ?_)
  refine wc_seq ?_
  refine wc_seq ?_
  refine wc_region ?_
  refine wl_v (o_move rfl) rfl ?_
  refine w_range_s Tryd.underlying9 rfl rfl (fun b32 => ?_)
  refine wl_nil ?_
  refine wk_then (wc_of_wk ?_)
  refine wc_block ?_
  refine wc_loop (S := Nat) (fun (k : Nat) => k ≤ p.length ∧ allFrom idCh 0 p = allFrom idCh k (p.drop k)) (fun (k : Nat) => [(0, .string (B (p))), (2, .bool (false)), (6, .pointer (some ⟨b32, 0, none⟩))]) (fun (k : Nat) => [.blk b32 (.stringIter (B p) (k))]) (fun (k : Nat) => p.length - k) (0) ?_ ⟨rfl, rfl, rfl, trivial⟩ (.cons_cons _ (.slnil)) ?_
  · exact ⟨Nat.zero_le _, by simp⟩
  rintro k hi0
  refine wc_seq ?_
  refine wc_region ?_
  refine w_next_s (i := 0) rfl rfl rfl (fun hend => ?_) (fun u33 c34 wd35 hu33 hlu33 hhu33 hwu33 => ?_)
  · refine wl_v (o_extract rfl rfl) rfl ?_
    refine wl_nil ?_
    refine wk_then (wc_of_wk ?_)
    refine wc_seq ?_
    refine wc_cond_f rfl rfl ?_
    refine wc_exit ?_
    refine wk_then_exit ?_
    refine wk_then_exit ?_
    refine wk_in_hit ?_
    refine wk_then (wc_of_wk ?_)
    refine wc_seq_mid [(2, .bool (((decide ((1) ≤ ((p.length : Int)))) && (decide (((p.length : Int)) ≤ (64))))))] [.blk b32 (.stringIter (B p) (k))] (φ := True) ?_ (fun hm36 => ?_)
    · refine wc_region ?_
      refine wl_v (o_move rfl) rfl ?_
      refine wl_v (o_len_s Tryd.underlying9 rfl) rfl ?_
      refine wl_v (o_ge rfl rfl) rfl ?_
      refine wl_v (o_move rfl) rfl ?_
      refine bsplit (decide ((1) ≤ ((p.length : Int)))) (fun h36 => ?_) (fun h36 => ?_)
      · have g36 := h36; try simp only [decide_eq_true_eq, decide_eq_false_iff_not] at g36
        have f36 := h36; try simp only [decide_eq_true_eq, decide_eq_false_iff_not, Bool.and_eq_true, Bool.or_eq_true, Bool.not_eq_true', Bool.not_eq_false', Bool.and_eq_false_iff, Bool.or_eq_false_iff, not_or, Int.not_lt, Int.not_le] at f36
        refine wl_on rfl rfl h36 ?_
        refine wl_v (o_move rfl) rfl ?_
        refine wl_on rfl rfl h36 ?_
        refine wl_v (o_len_s Tryd.underlying9 rfl) rfl ?_
        refine wl_on rfl rfl h36 ?_
        refine wl_v (o_le rfl rfl) rfl ?_
        refine wl_v (o_pick_t rfl h36 rfl) rfl ?_
        refine wl_v (o_assign rfl) rfl ?_
        refine wl_nil ?_
        exact wk_then (wk_mid trivial ⟨fb (by first | (simp only [h36, Bool.true_and, Bool.false_and, Bool.true_or, Bool.false_or, Bool.and_true, Bool.and_false, Bool.or_true, Bool.or_false, Bool.not_true, Bool.not_false, cond_true, cond_false, if_true, if_false, reduceIte, Bool.false_eq_true]; done) | (simp only [Bool.true_and, Bool.false_and, Bool.true_or, Bool.false_or, Bool.and_true, Bool.and_false, Bool.or_true, Bool.or_false, Bool.not_true, Bool.not_false, cond_true, cond_false, if_true, if_false, reduceIte, Bool.false_eq_true]; done) | simp [h36]), trivial⟩ (.cons_cons _ (.slnil)))
      · have g36 := h36; try simp only [decide_eq_true_eq, decide_eq_false_iff_not] at g36
        have f36 := h36; try simp only [decide_eq_true_eq, decide_eq_false_iff_not, Bool.and_eq_true, Bool.or_eq_true, Bool.not_eq_true', Bool.not_eq_false', Bool.and_eq_false_iff, Bool.or_eq_false_iff, not_or, Int.not_lt, Int.not_le] at f36
        refine wl_off rfl rfl h36 rfl ?_
        refine wl_off rfl rfl h36 rfl ?_
        refine wl_off rfl rfl h36 rfl ?_
        refine wl_v (o_pick_f rfl h36 rfl) rfl ?_
        refine wl_v (o_assign rfl) rfl ?_
        refine wl_nil ?_
        exact wk_then (wk_mid trivial ⟨fb (by first | (simp only [h36, Bool.true_and, Bool.false_and, Bool.true_or, Bool.false_or, Bool.and_true, Bool.and_false, Bool.or_true, Bool.or_false, Bool.not_true, Bool.not_false, cond_true, cond_false, if_true, if_false, reduceIte, Bool.false_eq_true]; done) | (simp only [Bool.true_and, Bool.false_and, Bool.true_or, Bool.false_or, Bool.and_true, Bool.and_false, Bool.or_true, Bool.or_false, Bool.not_true, Bool.not_false, cond_true, cond_false, if_true, if_false, reduceIte, Bool.false_eq_true]; done) | simp [h36]), trivial⟩ (.cons_cons _ (.slnil)))
    refine wc_ret ?_
    refine wk_ret (r_1 rfl rfl) ?_
    exact retv (by rw [id_yes hi0 hend])
  · refine wl_v (o_extract rfl rfl) rfl ?_
    refine wl_nil ?_
    refine wk_then (wc_of_wk ?_)
    refine wc_seq ?_
    refine wc_cond_t rfl rfl ?_
    refine wc_skip ?_
    refine wk_then (wc_of_wk ?_)
    refine wc_block ?_
    refine wc_seq ?_
    refine wc_region ?_
    refine wl_v (o_extract rfl rfl) rfl ?_
    refine wl_v (o_assign rfl) rfl ?_
    refine wl_nil ?_
    refine wk_then (wc_of_wk ?_)
    refine wc_seq ?_
    refine wc_region ?_
    refine wl_v (o_move rfl) rfl ?_
    refine w_call Tryd.call33 rfl (fun w hw => letter_c (c34 : Int) w) rfl ?_
    refine wl_v (o_not rfl) rfl ?_
    refine wl_nil ?_
    refine wk_then (wc_of_wk ?_)
    refine wc_cond (b := !(letterS (c34 : Int))) rfl (fun h38 => ?_) (fun h38 => ?_)
    · have g38 := h38; try simp only [decide_eq_true_eq, decide_eq_false_iff_not] at g38
      have f38 := h38; try simp only [decide_eq_true_eq, decide_eq_false_iff_not, Bool.and_eq_true, Bool.or_eq_true, Bool.not_eq_true', Bool.not_eq_false', Bool.and_eq_false_iff, Bool.or_eq_false_iff, not_or, Int.not_lt, Int.not_le] at f38
      refine wc_seq ?_
      refine wc_region ?_
      refine wl_v (o_assign rfl) rfl ?_
      refine wl_nil ?_
      refine wk_then (wc_of_wk ?_)
      refine wc_ret ?_
      refine wk_in_ret ?_
      refine wk_then_ret ?_
      refine wk_in_ret ?_
      refine wk_then_ret ?_
      refine wk_ret (r_1 rfl rfl) ?_
      exact retv (by rw [id_no hi0 hu33 hlu33 hhu33 h38])
    · have g38 := h38; try simp only [decide_eq_true_eq, decide_eq_false_iff_not] at g38
      have f38 := h38; try simp only [decide_eq_true_eq, decide_eq_false_iff_not, Bool.and_eq_true, Bool.or_eq_true, Bool.not_eq_true', Bool.not_eq_false', Bool.and_eq_false_iff, Bool.or_eq_false_iff, not_or, Int.not_lt, Int.not_le] at f38
      refine wc_skip ?_
      refine wk_in_norm ?_
      refine wk_then ?_
      refine wk_some (k + wd35) ?_ ⟨rfl, rfl, rfl, trivial⟩ (.cons_cons _ (.slnil))
      exact id_next hi0 hu33 hlu33 hhu33 h38

end Go.Proofs.YtjkdkmcklocmnaaDoor
