/-
  Walks, printed by a small program of ours (gsym.py).
-/
import Derived.Test.YtjkdkmcklocmnaaGreatDoorFwE
import Derived.Test.YtjkdkmcklocmnaaGreatDoorPlA
import Derived.Test.YtjkdkmcklocmnaaGreatDoorProg
namespace Go.Proofs.YtjkdkmcklocmnaaGreatDoor
open Go Go.RowKit
set_option linter.unusedVariables false
set_option linter.unusedSimpArgs false
set_option maxRecDepth 100000
theorem small_c (c : Int) (w : World) : Calls Tryz.prog 26 [.int .i32 (c)].toArray w (RetV w (.bool (smallS c))) := by
  refine enter0 (n := 9) Tryz.func26 rfl Tryz.ntmps26 rfl ?_
  refine wc_seq ?_
  refine wc_region ?_
  refine wl_v (o_assign rfl) rfl ?_
  refine wl_nil ?_
  refine wk_then (wc_of_wk ?_)
  refine wc_seq_mid [(2, .bool (((decide ((97) ≤ (c))) && (decide ((c) ≤ (122))))))] [] (φ := True) ?_ (fun hm1 => ?_)
  · refine wc_region ?_
    refine wl_v (o_move rfl) rfl ?_
    refine wl_v (o_ge rfl rfl) rfl ?_
    refine wl_v (o_move rfl) rfl ?_
    refine bsplit (decide ((97) ≤ (c))) (fun h1 => ?_) (fun h1 => ?_)
    · have g1 := h1; try simp only [decide_eq_true_eq, decide_eq_false_iff_not] at g1
      have f1 := h1; try simp only [decide_eq_true_eq, decide_eq_false_iff_not, Bool.and_eq_true, Bool.or_eq_true, Bool.not_eq_true', Bool.not_eq_false', Bool.and_eq_false_iff, Bool.or_eq_false_iff, not_or, Int.not_lt, Int.not_le] at f1
      refine wl_on rfl rfl h1 ?_
      refine wl_v (o_move rfl) rfl ?_
      refine wl_on rfl rfl h1 ?_
      refine wl_v (o_le rfl rfl) rfl ?_
      refine wl_v (o_pick_t rfl h1 rfl) rfl ?_
      refine wl_v (o_assign rfl) rfl ?_
      refine wl_nil ?_
      exact wk_then (wk_mid trivial ⟨fb (by first | (simp only [h1, Bool.true_and, Bool.false_and, Bool.true_or, Bool.false_or, Bool.and_true, Bool.and_false, Bool.or_true, Bool.or_false, Bool.not_true, Bool.not_false, cond_true, cond_false, if_true, if_false, reduceIte, Bool.false_eq_true]; done) | (simp only [Bool.true_and, Bool.false_and, Bool.true_or, Bool.false_or, Bool.and_true, Bool.and_false, Bool.or_true, Bool.or_false, Bool.not_true, Bool.not_false, cond_true, cond_false, if_true, if_false, reduceIte, Bool.false_eq_true]; done) | simp [h1]), trivial⟩ .slnil)
    · have g1 := h1; try simp only [decide_eq_true_eq, decide_eq_false_iff_not] at g1
      have f1 := h1; try simp only [decide_eq_true_eq, decide_eq_false_iff_not, Bool.and_eq_true, Bool.or_eq_true, Bool.not_eq_true', Bool.not_eq_false', Bool.and_eq_false_iff, Bool.or_eq_false_iff, not_or, Int.not_lt, Int.not_le] at f1
      refine wl_off rfl rfl h1 rfl ?_
      refine wl_off rfl rfl h1 rfl ?_
      refine wl_v (o_pick_f rfl h1 rfl) rfl ?_
      refine wl_v (o_assign rfl) rfl ?_
      refine wl_nil ?_
      exact wk_then (wk_mid trivial ⟨fb (by first | (simp only [h1, Bool.true_and, Bool.false_and, Bool.true_or, Bool.false_or, Bool.and_true, Bool.and_false, Bool.or_true, Bool.or_false, Bool.not_true, Bool.not_false, cond_true, cond_false, if_true, if_false, reduceIte, Bool.false_eq_true]; done) | (simp only [Bool.true_and, Bool.false_and, Bool.true_or, Bool.false_or, Bool.and_true, Bool.and_false, Bool.or_true, Bool.or_false, Bool.not_true, Bool.not_false, cond_true, cond_false, if_true, if_false, reduceIte, Bool.false_eq_true]; done) | simp [h1]), trivial⟩ .slnil)
  refine wc_ret ?_
  refine wk_ret (r_1 rfl rfl) ?_
  exact retv (by first | rfl | simp [])

theorem digit_c (c : Int) (w : World) : Calls Tryz.prog 27 [.int .i32 (c)].toArray w (RetV w (.bool (digitS c))) := by
  refine enter0 (n := 9) Tryz.func27 rfl Tryz.ntmps27 rfl ?_
  refine wc_seq ?_
  refine wc_region ?_
  refine wl_v (o_assign rfl) rfl ?_
  refine wl_nil ?_
  refine wk_then (wc_of_wk ?_)
  refine wc_seq_mid [(2, .bool (((decide ((48) ≤ (c))) && (decide ((c) ≤ (57))))))] [] (φ := True) ?_ (fun hm3 => ?_)
  · refine wc_region ?_
    refine wl_v (o_move rfl) rfl ?_
    refine wl_v (o_ge rfl rfl) rfl ?_
    refine wl_v (o_move rfl) rfl ?_
    refine bsplit (decide ((48) ≤ (c))) (fun h3 => ?_) (fun h3 => ?_)
    · have g3 := h3; try simp only [decide_eq_true_eq, decide_eq_false_iff_not] at g3
      have f3 := h3; try simp only [decide_eq_true_eq, decide_eq_false_iff_not, Bool.and_eq_true, Bool.or_eq_true, Bool.not_eq_true', Bool.not_eq_false', Bool.and_eq_false_iff, Bool.or_eq_false_iff, not_or, Int.not_lt, Int.not_le] at f3
      refine wl_on rfl rfl h3 ?_
      refine wl_v (o_move rfl) rfl ?_
      refine wl_on rfl rfl h3 ?_
      refine wl_v (o_le rfl rfl) rfl ?_
      refine wl_v (o_pick_t rfl h3 rfl) rfl ?_
      refine wl_v (o_assign rfl) rfl ?_
      refine wl_nil ?_
      exact wk_then (wk_mid trivial ⟨fb (by first | (simp only [h3, Bool.true_and, Bool.false_and, Bool.true_or, Bool.false_or, Bool.and_true, Bool.and_false, Bool.or_true, Bool.or_false, Bool.not_true, Bool.not_false, cond_true, cond_false, if_true, if_false, reduceIte, Bool.false_eq_true]; done) | (simp only [Bool.true_and, Bool.false_and, Bool.true_or, Bool.false_or, Bool.and_true, Bool.and_false, Bool.or_true, Bool.or_false, Bool.not_true, Bool.not_false, cond_true, cond_false, if_true, if_false, reduceIte, Bool.false_eq_true]; done) | simp [h3]), trivial⟩ .slnil)
    · have g3 := h3; try simp only [decide_eq_true_eq, decide_eq_false_iff_not] at g3
      have f3 := h3; try simp only [decide_eq_true_eq, decide_eq_false_iff_not, Bool.and_eq_true, Bool.or_eq_true, Bool.not_eq_true', Bool.not_eq_false', Bool.and_eq_false_iff, Bool.or_eq_false_iff, not_or, Int.not_lt, Int.not_le] at f3
      refine wl_off rfl rfl h3 rfl ?_
      refine wl_off rfl rfl h3 rfl ?_
      refine wl_v (o_pick_f rfl h3 rfl) rfl ?_
      refine wl_v (o_assign rfl) rfl ?_
      refine wl_nil ?_
      exact wk_then (wk_mid trivial ⟨fb (by first | (simp only [h3, Bool.true_and, Bool.false_and, Bool.true_or, Bool.false_or, Bool.and_true, Bool.and_false, Bool.or_true, Bool.or_false, Bool.not_true, Bool.not_false, cond_true, cond_false, if_true, if_false, reduceIte, Bool.false_eq_true]; done) | (simp only [Bool.true_and, Bool.false_and, Bool.true_or, Bool.false_or, Bool.and_true, Bool.and_false, Bool.or_true, Bool.or_false, Bool.not_true, Bool.not_false, cond_true, cond_false, if_true, if_false, reduceIte, Bool.false_eq_true]; done) | simp [h3]), trivial⟩ .slnil)
  refine wc_ret ?_
  refine wk_ret (r_1 rfl rfl) ?_
  exact retv (by first | rfl | simp [])

theorem letter_c (c : Int) (w : World) : Calls Tryz.prog 30 [.int .i32 (c)].toArray w (RetV w (.bool (letterS c))) := by
  refine enter0 (n := 37) Tryz.func30 rfl Tryz.ntmps30 rfl ?_
  refine wc_seq ?_
  refine wc_region ?_
  refine wl_v (o_assign rfl) rfl ?_
  refine wl_nil ?_
  refine wk_then (wc_of_wk ?_)
  refine wc_seq_mid [(2, .bool (((smallS c) || ((digitS c) || (bif decide ((65) ≤ (c)) then ((decide ((c) ≤ (90))) || ((decide ((c) = (45))) || ((decide ((c) = (95))) || ((decide ((c) = (46))) || ((decide ((c) = (58))) || (decide ((c) = (47)))))))) else ((decide ((c) = (45))) || ((decide ((c) = (95))) || ((decide ((c) = (46))) || ((decide ((c) = (58))) || (decide ((c) = (47))))))))))))] [] (φ := True) ?_ (fun hm16 => ?_)
  · refine wc_region ?_
    refine wl_v (o_move rfl) rfl ?_
    refine w_call Tryz.call26 rfl (fun w hw => small_c c w) rfl ?_
    refine wl_v (o_move rfl) rfl ?_
    refine bsplit (smallS c) (fun h5 => ?_) (fun h5 => ?_)
    · have g5 := h5; try simp only [decide_eq_true_eq, decide_eq_false_iff_not] at g5
      have f5 := h5; try simp only [decide_eq_true_eq, decide_eq_false_iff_not, Bool.and_eq_true, Bool.or_eq_true, Bool.not_eq_true', Bool.not_eq_false', Bool.and_eq_false_iff, Bool.or_eq_false_iff, not_or, Int.not_lt, Int.not_le] at f5
      refine wl_off rfl rfl h5 rfl ?_
      refine wl_off rfl rfl h5 rfl ?_
      refine wl_v (o_pick_t rfl h5 rfl) rfl ?_
      refine wl_v (o_move rfl) rfl ?_
      refine wl_off rfl rfl rfl rfl ?_
      refine wl_off rfl rfl rfl rfl ?_
      refine wl_off rfl rfl rfl rfl ?_
      refine wl_off_u rfl rfl rfl ?_
      refine wl_off_u rfl rfl rfl ?_
      refine wl_off rfl rfl rfl rfl ?_
      refine wl_v (o_pick_t rfl rfl rfl) rfl ?_
      refine wl_v (o_move rfl) rfl ?_
      refine wl_off rfl rfl rfl rfl ?_
      refine wl_off rfl rfl rfl rfl ?_
      refine wl_v (o_pick_t rfl rfl rfl) rfl ?_
      refine wl_v (o_move rfl) rfl ?_
      refine wl_off rfl rfl rfl rfl ?_
      refine wl_off rfl rfl rfl rfl ?_
      refine wl_v (o_pick_t rfl rfl rfl) rfl ?_
      refine wl_v (o_move rfl) rfl ?_
      refine wl_off rfl rfl rfl rfl ?_
      refine wl_off rfl rfl rfl rfl ?_
      refine wl_v (o_pick_t rfl rfl rfl) rfl ?_
      refine wl_v (o_move rfl) rfl ?_
      refine wl_off rfl rfl rfl rfl ?_
      refine wl_off rfl rfl rfl rfl ?_
      refine wl_v (o_pick_t rfl rfl rfl) rfl ?_
      refine wl_v (o_move rfl) rfl ?_
      refine wl_off rfl rfl rfl rfl ?_
      refine wl_off rfl rfl rfl rfl ?_
      refine wl_v (o_pick_t rfl rfl rfl) rfl ?_
      refine wl_v (o_assign rfl) rfl ?_
      refine wl_nil ?_
      exact wk_then (wk_mid trivial ⟨fb (by first | (simp only [h5, Bool.true_and, Bool.false_and, Bool.true_or, Bool.false_or, Bool.and_true, Bool.and_false, Bool.or_true, Bool.or_false, Bool.not_true, Bool.not_false, cond_true, cond_false, if_true, if_false, reduceIte, Bool.false_eq_true]; done) | (simp only [Bool.true_and, Bool.false_and, Bool.true_or, Bool.false_or, Bool.and_true, Bool.and_false, Bool.or_true, Bool.or_false, Bool.not_true, Bool.not_false, cond_true, cond_false, if_true, if_false, reduceIte, Bool.false_eq_true]; done) | simp [h5]), trivial⟩ .slnil)
    · have g5 := h5; try simp only [decide_eq_true_eq, decide_eq_false_iff_not] at g5
      have f5 := h5; try simp only [decide_eq_true_eq, decide_eq_false_iff_not, Bool.and_eq_true, Bool.or_eq_true, Bool.not_eq_true', Bool.not_eq_false', Bool.and_eq_false_iff, Bool.or_eq_false_iff, not_or, Int.not_lt, Int.not_le] at f5
      refine wl_on rfl rfl h5 ?_
      refine wl_v (o_move rfl) rfl ?_
      refine wl_on rfl rfl h5 ?_
      refine w_call Tryz.call27 rfl (fun w hw => digit_c c w) rfl ?_
      refine wl_v (o_pick_f rfl h5 rfl) rfl ?_
      refine wl_v (o_move rfl) rfl ?_
      refine bsplit (digitS c) (fun h6 => ?_) (fun h6 => ?_)
      · have g6 := h6; try simp only [decide_eq_true_eq, decide_eq_false_iff_not] at g6
        have f6 := h6; try simp only [decide_eq_true_eq, decide_eq_false_iff_not, Bool.and_eq_true, Bool.or_eq_true, Bool.not_eq_true', Bool.not_eq_false', Bool.and_eq_false_iff, Bool.or_eq_false_iff, not_or, Int.not_lt, Int.not_le] at f6
        refine wl_off rfl rfl h6 rfl ?_
        refine wl_off rfl rfl h6 rfl ?_
        refine wl_off rfl rfl h6 rfl ?_
        refine wl_off_u rfl rfl rfl ?_
        refine wl_off_u rfl rfl rfl ?_
        refine wl_off rfl rfl h6 rfl ?_
        refine wl_v (o_pick_t rfl h6 rfl) rfl ?_
        refine wl_v (o_move rfl) rfl ?_
        refine wl_off rfl rfl rfl rfl ?_
        refine wl_off rfl rfl rfl rfl ?_
        refine wl_v (o_pick_t rfl rfl rfl) rfl ?_
        refine wl_v (o_move rfl) rfl ?_
        refine wl_off rfl rfl rfl rfl ?_
        refine wl_off rfl rfl rfl rfl ?_
        refine wl_v (o_pick_t rfl rfl rfl) rfl ?_
        refine wl_v (o_move rfl) rfl ?_
        refine wl_off rfl rfl rfl rfl ?_
        refine wl_off rfl rfl rfl rfl ?_
        refine wl_v (o_pick_t rfl rfl rfl) rfl ?_
        refine wl_v (o_move rfl) rfl ?_
        refine wl_off rfl rfl rfl rfl ?_
        refine wl_off rfl rfl rfl rfl ?_
        refine wl_v (o_pick_t rfl rfl rfl) rfl ?_
        refine wl_v (o_move rfl) rfl ?_
        refine wl_off rfl rfl rfl rfl ?_
        refine wl_off rfl rfl rfl rfl ?_
        refine wl_v (o_pick_t rfl rfl rfl) rfl ?_
        refine wl_v (o_assign rfl) rfl ?_
        refine wl_nil ?_
        exact wk_then (wk_mid trivial ⟨fb (by first | (simp only [h5, h6, Bool.true_and, Bool.false_and, Bool.true_or, Bool.false_or, Bool.and_true, Bool.and_false, Bool.or_true, Bool.or_false, Bool.not_true, Bool.not_false, cond_true, cond_false, if_true, if_false, reduceIte, Bool.false_eq_true]; done) | (simp only [Bool.true_and, Bool.false_and, Bool.true_or, Bool.false_or, Bool.and_true, Bool.and_false, Bool.or_true, Bool.or_false, Bool.not_true, Bool.not_false, cond_true, cond_false, if_true, if_false, reduceIte, Bool.false_eq_true]; done) | simp [h5, h6]), trivial⟩ .slnil)
      · have g6 := h6; try simp only [decide_eq_true_eq, decide_eq_false_iff_not] at g6
        have f6 := h6; try simp only [decide_eq_true_eq, decide_eq_false_iff_not, Bool.and_eq_true, Bool.or_eq_true, Bool.not_eq_true', Bool.not_eq_false', Bool.and_eq_false_iff, Bool.or_eq_false_iff, not_or, Int.not_lt, Int.not_le] at f6
        refine wl_on rfl rfl h6 ?_
        refine wl_v (o_move rfl) rfl ?_
        refine wl_on rfl rfl h6 ?_
        refine wl_v (o_ge rfl rfl) rfl ?_
        refine wl_on rfl rfl h6 ?_
        refine wl_v (o_move rfl) rfl ?_
        refine bsplit (decide ((65) ≤ (c))) (fun h7 => ?_) (fun h7 => ?_)
        · have g7 := h7; try simp only [decide_eq_true_eq, decide_eq_false_iff_not] at g7
          have f7 := h7; try simp only [decide_eq_true_eq, decide_eq_false_iff_not, Bool.and_eq_true, Bool.or_eq_true, Bool.not_eq_true', Bool.not_eq_false', Bool.and_eq_false_iff, Bool.or_eq_false_iff, not_or, Int.not_lt, Int.not_le] at f7
          refine wl_on rfl rfl h7 ?_
          refine wl_v (o_move rfl) rfl ?_
          refine wl_on rfl rfl h7 ?_
          refine wl_v (o_le rfl rfl) rfl ?_
          refine wl_on rfl rfl h6 ?_
          refine wl_v (o_pick_t rfl h7 rfl) rfl ?_
          refine wl_v (o_pick_f rfl h6 rfl) rfl ?_
          refine wl_v (o_move rfl) rfl ?_
          refine bsplit (decide ((c) ≤ (90))) (fun h8 => ?_) (fun h8 => ?_)
          · have g8 := h8; try simp only [decide_eq_true_eq, decide_eq_false_iff_not] at g8
            have f8 := h8; try simp only [decide_eq_true_eq, decide_eq_false_iff_not, Bool.and_eq_true, Bool.or_eq_true, Bool.not_eq_true', Bool.not_eq_false', Bool.and_eq_false_iff, Bool.or_eq_false_iff, not_or, Int.not_lt, Int.not_le] at f8
            refine wl_off rfl rfl h8 rfl ?_
            refine wl_off rfl rfl h8 rfl ?_
            refine wl_v (o_pick_t rfl h8 rfl) rfl ?_
            refine wl_v (o_move rfl) rfl ?_
            refine wl_off rfl rfl rfl rfl ?_
            refine wl_off rfl rfl rfl rfl ?_
            refine wl_v (o_pick_t rfl rfl rfl) rfl ?_
            refine wl_v (o_move rfl) rfl ?_
            refine wl_off rfl rfl rfl rfl ?_
            refine wl_off rfl rfl rfl rfl ?_
            refine wl_v (o_pick_t rfl rfl rfl) rfl ?_
            refine wl_v (o_move rfl) rfl ?_
            refine wl_off rfl rfl rfl rfl ?_
            refine wl_off rfl rfl rfl rfl ?_
            refine wl_v (o_pick_t rfl rfl rfl) rfl ?_
            refine wl_v (o_move rfl) rfl ?_
            refine wl_off rfl rfl rfl rfl ?_
            refine wl_off rfl rfl rfl rfl ?_
            refine wl_v (o_pick_t rfl rfl rfl) rfl ?_
            refine wl_v (o_assign rfl) rfl ?_
            refine wl_nil ?_
            exact wk_then (wk_mid trivial ⟨fb (by first | (simp only [h5, h6, h7, h8, Bool.true_and, Bool.false_and, Bool.true_or, Bool.false_or, Bool.and_true, Bool.and_false, Bool.or_true, Bool.or_false, Bool.not_true, Bool.not_false, cond_true, cond_false, if_true, if_false, reduceIte, Bool.false_eq_true]; done) | (simp only [Bool.true_and, Bool.false_and, Bool.true_or, Bool.false_or, Bool.and_true, Bool.and_false, Bool.or_true, Bool.or_false, Bool.not_true, Bool.not_false, cond_true, cond_false, if_true, if_false, reduceIte, Bool.false_eq_true]; done) | simp [h5, h6, h7, h8]), trivial⟩ .slnil)
          · have g8 := h8; try simp only [decide_eq_true_eq, decide_eq_false_iff_not] at g8
            have f8 := h8; try simp only [decide_eq_true_eq, decide_eq_false_iff_not, Bool.and_eq_true, Bool.or_eq_true, Bool.not_eq_true', Bool.not_eq_false', Bool.and_eq_false_iff, Bool.or_eq_false_iff, not_or, Int.not_lt, Int.not_le] at f8
            refine wl_on rfl rfl h8 ?_
            refine wl_v (o_move rfl) rfl ?_
            refine wl_on rfl rfl h8 ?_
            refine wl_v (o_eq rfl rfl) rfl ?_
            refine wl_v (o_pick_f rfl h8 rfl) rfl ?_
            refine wl_v (o_move rfl) rfl ?_
            refine bsplit (decide ((c) = (45))) (fun h9 => ?_) (fun h9 => ?_)
            · have g9 := h9; try simp only [decide_eq_true_eq, decide_eq_false_iff_not] at g9
              have f9 := h9; try simp only [decide_eq_true_eq, decide_eq_false_iff_not, Bool.and_eq_true, Bool.or_eq_true, Bool.not_eq_true', Bool.not_eq_false', Bool.and_eq_false_iff, Bool.or_eq_false_iff, not_or, Int.not_lt, Int.not_le] at f9
              refine wl_off rfl rfl h9 rfl ?_
              refine wl_off rfl rfl h9 rfl ?_
              refine wl_v (o_pick_t rfl h9 rfl) rfl ?_
              refine wl_v (o_move rfl) rfl ?_
              refine wl_off rfl rfl rfl rfl ?_
              refine wl_off rfl rfl rfl rfl ?_
              refine wl_v (o_pick_t rfl rfl rfl) rfl ?_
              refine wl_v (o_move rfl) rfl ?_
              refine wl_off rfl rfl rfl rfl ?_
              refine wl_off rfl rfl rfl rfl ?_
              refine wl_v (o_pick_t rfl rfl rfl) rfl ?_
              refine wl_v (o_move rfl) rfl ?_
              refine wl_off rfl rfl rfl rfl ?_
              refine wl_off rfl rfl rfl rfl ?_
              refine wl_v (o_pick_t rfl rfl rfl) rfl ?_
              refine wl_v (o_assign rfl) rfl ?_
              refine wl_nil ?_
              exact wk_then (wk_mid trivial ⟨fb (by first | (simp only [h5, h6, h7, h8, h9, Bool.true_and, Bool.false_and, Bool.true_or, Bool.false_or, Bool.and_true, Bool.and_false, Bool.or_true, Bool.or_false, Bool.not_true, Bool.not_false, cond_true, cond_false, if_true, if_false, reduceIte, Bool.false_eq_true]; done) | (simp only [Bool.true_and, Bool.false_and, Bool.true_or, Bool.false_or, Bool.and_true, Bool.and_false, Bool.or_true, Bool.or_false, Bool.not_true, Bool.not_false, cond_true, cond_false, if_true, if_false, reduceIte, Bool.false_eq_true]; done) | simp [h5, h6, h7, h8, h9]), trivial⟩ .slnil)
            · have g9 := h9; try simp only [decide_eq_true_eq, decide_eq_false_iff_not] at g9
              have f9 := h9; try simp only [decide_eq_true_eq, decide_eq_false_iff_not, Bool.and_eq_true, Bool.or_eq_true, Bool.not_eq_true', Bool.not_eq_false', Bool.and_eq_false_iff, Bool.or_eq_false_iff, not_or, Int.not_lt, Int.not_le] at f9
              refine wl_on rfl rfl h9 ?_
              refine wl_v (o_move rfl) rfl ?_
              refine wl_on rfl rfl h9 ?_
              refine wl_v (o_eq rfl rfl) rfl ?_
              refine wl_v (o_pick_f rfl h9 rfl) rfl ?_
              refine wl_v (o_move rfl) rfl ?_
              refine bsplit (decide ((c) = (95))) (fun h10 => ?_) (fun h10 => ?_)
              · have g10 := h10; try simp only [decide_eq_true_eq, decide_eq_false_iff_not] at g10
                have f10 := h10; try simp only [decide_eq_true_eq, decide_eq_false_iff_not, Bool.and_eq_true, Bool.or_eq_true, Bool.not_eq_true', Bool.not_eq_false', Bool.and_eq_false_iff, Bool.or_eq_false_iff, not_or, Int.not_lt, Int.not_le] at f10
                refine wl_off rfl rfl h10 rfl ?_
                refine wl_off rfl rfl h10 rfl ?_
                refine wl_v (o_pick_t rfl h10 rfl) rfl ?_
                refine wl_v (o_move rfl) rfl ?_
                refine wl_off rfl rfl rfl rfl ?_
                refine wl_off rfl rfl rfl rfl ?_
                refine wl_v (o_pick_t rfl rfl rfl) rfl ?_
                refine wl_v (o_move rfl) rfl ?_
                refine wl_off rfl rfl rfl rfl ?_
                refine wl_off rfl rfl rfl rfl ?_
                refine wl_v (o_pick_t rfl rfl rfl) rfl ?_
                refine wl_v (o_assign rfl) rfl ?_
                refine wl_nil ?_
                exact wk_then (wk_mid trivial ⟨fb (by first | (simp only [h5, h6, h7, h8, h9, h10, Bool.true_and, Bool.false_and, Bool.true_or, Bool.false_or, Bool.and_true, Bool.and_false, Bool.or_true, Bool.or_false, Bool.not_true, Bool.not_false, cond_true, cond_false, if_true, if_false, reduceIte, Bool.false_eq_true]; done) | (simp only [Bool.true_and, Bool.false_and, Bool.true_or, Bool.false_or, Bool.and_true, Bool.and_false, Bool.or_true, Bool.or_false, Bool.not_true, Bool.not_false, cond_true, cond_false, if_true, if_false, reduceIte, Bool.false_eq_true]; done) | simp [h5, h6, h7, h8, h9, h10]), trivial⟩ .slnil)
              · have g10 := h10; try simp only [decide_eq_true_eq, decide_eq_false_iff_not] at g10
                have f10 := h10; try simp only [decide_eq_true_eq, decide_eq_false_iff_not, Bool.and_eq_true, Bool.or_eq_true, Bool.not_eq_true', Bool.not_eq_false', Bool.and_eq_false_iff, Bool.or_eq_false_iff, not_or, Int.not_lt, Int.not_le] at f10
                refine wl_on rfl rfl h10 ?_
                refine wl_v (o_move rfl) rfl ?_
                refine wl_on rfl rfl h10 ?_
                refine wl_v (o_eq rfl rfl) rfl ?_
                refine wl_v (o_pick_f rfl h10 rfl) rfl ?_
                refine wl_v (o_move rfl) rfl ?_
                refine bsplit (decide ((c) = (46))) (fun h11 => ?_) (fun h11 => ?_)
                · have g11 := h11; try simp only [decide_eq_true_eq, decide_eq_false_iff_not] at g11
                  have f11 := h11; try simp only [decide_eq_true_eq, decide_eq_false_iff_not, Bool.and_eq_true, Bool.or_eq_true, Bool.not_eq_true', Bool.not_eq_false', Bool.and_eq_false_iff, Bool.or_eq_false_iff, not_or, Int.not_lt, Int.not_le] at f11
                  refine wl_off rfl rfl h11 rfl ?_
                  refine wl_off rfl rfl h11 rfl ?_
                  refine wl_v (o_pick_t rfl h11 rfl) rfl ?_
                  refine wl_v (o_move rfl) rfl ?_
                  refine wl_off rfl rfl rfl rfl ?_
                  refine wl_off rfl rfl rfl rfl ?_
                  refine wl_v (o_pick_t rfl rfl rfl) rfl ?_
                  refine wl_v (o_assign rfl) rfl ?_
                  refine wl_nil ?_
                  exact wk_then (wk_mid trivial ⟨fb (by first | (simp only [h5, h6, h7, h8, h9, h10, h11, Bool.true_and, Bool.false_and, Bool.true_or, Bool.false_or, Bool.and_true, Bool.and_false, Bool.or_true, Bool.or_false, Bool.not_true, Bool.not_false, cond_true, cond_false, if_true, if_false, reduceIte, Bool.false_eq_true]; done) | (simp only [Bool.true_and, Bool.false_and, Bool.true_or, Bool.false_or, Bool.and_true, Bool.and_false, Bool.or_true, Bool.or_false, Bool.not_true, Bool.not_false, cond_true, cond_false, if_true, if_false, reduceIte, Bool.false_eq_true]; done) | simp [h5, h6, h7, h8, h9, h10, h11]), trivial⟩ .slnil)
                · have g11 := h11; try simp only [decide_eq_true_eq, decide_eq_false_iff_not] at g11
                  have f11 := h11; try simp only [decide_eq_true_eq, decide_eq_false_iff_not, Bool.and_eq_true, Bool.or_eq_true, Bool.not_eq_true', Bool.not_eq_false', Bool.and_eq_false_iff, Bool.or_eq_false_iff, not_or, Int.not_lt, Int.not_le] at f11
                  refine wl_on rfl rfl h11 ?_
                  refine wl_v (o_move rfl) rfl ?_
                  refine wl_on rfl rfl h11 ?_
                  refine wl_v (o_eq rfl rfl) rfl ?_
                  refine wl_v (o_pick_f rfl h11 rfl) rfl ?_
                  refine wl_v (o_move rfl) rfl ?_
                  refine bsplit (decide ((c) = (58))) (fun h12 => ?_) (fun h12 => ?_)
                  · have g12 := h12; try simp only [decide_eq_true_eq, decide_eq_false_iff_not] at g12
                    have f12 := h12; try simp only [decide_eq_true_eq, decide_eq_false_iff_not, Bool.and_eq_true, Bool.or_eq_true, Bool.not_eq_true', Bool.not_eq_false', Bool.and_eq_false_iff, Bool.or_eq_false_iff, not_or, Int.not_lt, Int.not_le] at f12
                    refine wl_off rfl rfl h12 rfl ?_
                    refine wl_off rfl rfl h12 rfl ?_
                    refine wl_v (o_pick_t rfl h12 rfl) rfl ?_
                    refine wl_v (o_assign rfl) rfl ?_
                    refine wl_nil ?_
                    exact wk_then (wk_mid trivial ⟨fb (by first | (simp only [h5, h6, h7, h8, h9, h10, h11, h12, Bool.true_and, Bool.false_and, Bool.true_or, Bool.false_or, Bool.and_true, Bool.and_false, Bool.or_true, Bool.or_false, Bool.not_true, Bool.not_false, cond_true, cond_false, if_true, if_false, reduceIte, Bool.false_eq_true]; done) | (simp only [Bool.true_and, Bool.false_and, Bool.true_or, Bool.false_or, Bool.and_true, Bool.and_false, Bool.or_true, Bool.or_false, Bool.not_true, Bool.not_false, cond_true, cond_false, if_true, if_false, reduceIte, Bool.false_eq_true]; done) | simp [h5, h6, h7, h8, h9, h10, h11, h12]), trivial⟩ .slnil)
                  · have g12 := h12; try simp only [decide_eq_true_eq, decide_eq_false_iff_not] at g12
                    have f12 := h12; try simp only [decide_eq_true_eq, decide_eq_false_iff_not, Bool.and_eq_true, Bool.or_eq_true, Bool.not_eq_true', Bool.not_eq_false', Bool.and_eq_false_iff, Bool.or_eq_false_iff, not_or, Int.not_lt, Int.not_le] at f12
                    refine wl_on rfl rfl h12 ?_
                    refine wl_v (o_move rfl) rfl ?_
                    refine wl_on rfl rfl h12 ?_
                    refine wl_v (o_eq rfl rfl) rfl ?_
                    refine wl_v (o_pick_f rfl h12 rfl) rfl ?_
                    refine wl_v (o_assign rfl) rfl ?_
                    refine wl_nil ?_
                    exact wk_then (wk_mid trivial ⟨fb (by first | (simp only [h5, h6, h7, h8, h9, h10, h11, h12, Bool.true_and, Bool.false_and, Bool.true_or, Bool.false_or, Bool.and_true, Bool.and_false, Bool.or_true, Bool.or_false, Bool.not_true, Bool.not_false, cond_true, cond_false, if_true, if_false, reduceIte, Bool.false_eq_true]; done) | (simp only [Bool.true_and, Bool.false_and, Bool.true_or, Bool.false_or, Bool.and_true, Bool.and_false, Bool.or_true, Bool.or_false, Bool.not_true, Bool.not_false, cond_true, cond_false, if_true, if_false, reduceIte, Bool.false_eq_true]; done) | simp [h5, h6, h7, h8, h9, h10, h11, h12]), trivial⟩ .slnil)
        · have g7 := h7; try simp only [decide_eq_true_eq, decide_eq_false_iff_not] at g7
          have f7 := h7; try simp only [decide_eq_true_eq, decide_eq_false_iff_not, Bool.and_eq_true, Bool.or_eq_true, Bool.not_eq_true', Bool.not_eq_false', Bool.and_eq_false_iff, Bool.or_eq_false_iff, not_or, Int.not_lt, Int.not_le] at f7
          refine wl_off rfl rfl h7 rfl ?_
          refine wl_off rfl rfl h7 rfl ?_
          refine wl_on rfl rfl h6 ?_
          refine wl_v (o_pick_f rfl h7 rfl) rfl ?_
          refine wl_v (o_pick_f rfl h6 rfl) rfl ?_
          refine wl_v (o_move rfl) rfl ?_
          refine wl_on rfl rfl rfl ?_
          refine wl_v (o_move rfl) rfl ?_
          refine wl_on rfl rfl rfl ?_
          refine wl_v (o_eq rfl rfl) rfl ?_
          refine wl_v (o_pick_f rfl rfl rfl) rfl ?_
          refine wl_v (o_move rfl) rfl ?_
          refine bsplit (decide ((c) = (45))) (fun h13 => ?_) (fun h13 => ?_)
          · have g13 := h13; try simp only [decide_eq_true_eq, decide_eq_false_iff_not] at g13
            have f13 := h13; try simp only [decide_eq_true_eq, decide_eq_false_iff_not, Bool.and_eq_true, Bool.or_eq_true, Bool.not_eq_true', Bool.not_eq_false', Bool.and_eq_false_iff, Bool.or_eq_false_iff, not_or, Int.not_lt, Int.not_le] at f13
            refine wl_off rfl rfl h13 rfl ?_
            refine wl_off rfl rfl h13 rfl ?_
            refine wl_v (o_pick_t rfl h13 rfl) rfl ?_
            refine wl_v (o_move rfl) rfl ?_
            refine wl_off rfl rfl rfl rfl ?_
            refine wl_off rfl rfl rfl rfl ?_
            refine wl_v (o_pick_t rfl rfl rfl) rfl ?_
            refine wl_v (o_move rfl) rfl ?_
            refine wl_off rfl rfl rfl rfl ?_
            refine wl_off rfl rfl rfl rfl ?_
            refine wl_v (o_pick_t rfl rfl rfl) rfl ?_
            refine wl_v (o_move rfl) rfl ?_
            refine wl_off rfl rfl rfl rfl ?_
            refine wl_off rfl rfl rfl rfl ?_
            refine wl_v (o_pick_t rfl rfl rfl) rfl ?_
            refine wl_v (o_assign rfl) rfl ?_
            refine wl_nil ?_
            exact wk_then (wk_mid trivial ⟨fb (by first | (simp only [h5, h6, h7, h13, Bool.true_and, Bool.false_and, Bool.true_or, Bool.false_or, Bool.and_true, Bool.and_false, Bool.or_true, Bool.or_false, Bool.not_true, Bool.not_false, cond_true, cond_false, if_true, if_false, reduceIte, Bool.false_eq_true]; done) | (simp only [Bool.true_and, Bool.false_and, Bool.true_or, Bool.false_or, Bool.and_true, Bool.and_false, Bool.or_true, Bool.or_false, Bool.not_true, Bool.not_false, cond_true, cond_false, if_true, if_false, reduceIte, Bool.false_eq_true]; done) | simp [h5, h6, h7, h13]), trivial⟩ .slnil)
          · have g13 := h13; try simp only [decide_eq_true_eq, decide_eq_false_iff_not] at g13
            have f13 := h13; try simp only [decide_eq_true_eq, decide_eq_false_iff_not, Bool.and_eq_true, Bool.or_eq_true, Bool.not_eq_true', Bool.not_eq_false', Bool.and_eq_false_iff, Bool.or_eq_false_iff, not_or, Int.not_lt, Int.not_le] at f13
            refine wl_on rfl rfl h13 ?_
            refine wl_v (o_move rfl) rfl ?_
            refine wl_on rfl rfl h13 ?_
            refine wl_v (o_eq rfl rfl) rfl ?_
            refine wl_v (o_pick_f rfl h13 rfl) rfl ?_
            refine wl_v (o_move rfl) rfl ?_
            refine bsplit (decide ((c) = (95))) (fun h14 => ?_) (fun h14 => ?_)
            · have g14 := h14; try simp only [decide_eq_true_eq, decide_eq_false_iff_not] at g14
              have f14 := h14; try simp only [decide_eq_true_eq, decide_eq_false_iff_not, Bool.and_eq_true, Bool.or_eq_true, Bool.not_eq_true', Bool.not_eq_false', Bool.and_eq_false_iff, Bool.or_eq_false_iff, not_or, Int.not_lt, Int.not_le] at f14
              refine wl_off rfl rfl h14 rfl ?_
              refine wl_off rfl rfl h14 rfl ?_
              refine wl_v (o_pick_t rfl h14 rfl) rfl ?_
              refine wl_v (o_move rfl) rfl ?_
              refine wl_off rfl rfl rfl rfl ?_
              refine wl_off rfl rfl rfl rfl ?_
              refine wl_v (o_pick_t rfl rfl rfl) rfl ?_
              refine wl_v (o_move rfl) rfl ?_
              refine wl_off rfl rfl rfl rfl ?_
              refine wl_off rfl rfl rfl rfl ?_
              refine wl_v (o_pick_t rfl rfl rfl) rfl ?_
              refine wl_v (o_assign rfl) rfl ?_
              refine wl_nil ?_
              exact wk_then (wk_mid trivial ⟨fb (by first | (simp only [h5, h6, h7, h13, h14, Bool.true_and, Bool.false_and, Bool.true_or, Bool.false_or, Bool.and_true, Bool.and_false, Bool.or_true, Bool.or_false, Bool.not_true, Bool.not_false, cond_true, cond_false, if_true, if_false, reduceIte, Bool.false_eq_true]; done) | (simp only [Bool.true_and, Bool.false_and, Bool.true_or, Bool.false_or, Bool.and_true, Bool.and_false, Bool.or_true, Bool.or_false, Bool.not_true, Bool.not_false, cond_true, cond_false, if_true, if_false, reduceIte, Bool.false_eq_true]; done) | simp [h5, h6, h7, h13, h14]), trivial⟩ .slnil)
            · have g14 := h14; try simp only [decide_eq_true_eq, decide_eq_false_iff_not] at g14
              have f14 := h14; try simp only [decide_eq_true_eq, decide_eq_false_iff_not, Bool.and_eq_true, Bool.or_eq_true, Bool.not_eq_true', Bool.not_eq_false', Bool.and_eq_false_iff, Bool.or_eq_false_iff, not_or, Int.not_lt, Int.not_le] at f14
              refine wl_on rfl rfl h14 ?_
              refine wl_v (o_move rfl) rfl ?_
              refine wl_on rfl rfl h14 ?_
              refine wl_v (o_eq rfl rfl) rfl ?_
              refine wl_v (o_pick_f rfl h14 rfl) rfl ?_
              refine wl_v (o_move rfl) rfl ?_
              refine bsplit (decide ((c) = (46))) (fun h15 => ?_) (fun h15 => ?_)
              · have g15 := h15; try simp only [decide_eq_true_eq, decide_eq_false_iff_not] at g15
                have f15 := h15; try simp only [decide_eq_true_eq, decide_eq_false_iff_not, Bool.and_eq_true, Bool.or_eq_true, Bool.not_eq_true', Bool.not_eq_false', Bool.and_eq_false_iff, Bool.or_eq_false_iff, not_or, Int.not_lt, Int.not_le] at f15
                refine wl_off rfl rfl h15 rfl ?_
                refine wl_off rfl rfl h15 rfl ?_
                refine wl_v (o_pick_t rfl h15 rfl) rfl ?_
                refine wl_v (o_move rfl) rfl ?_
                refine wl_off rfl rfl rfl rfl ?_
                refine wl_off rfl rfl rfl rfl ?_
                refine wl_v (o_pick_t rfl rfl rfl) rfl ?_
                refine wl_v (o_assign rfl) rfl ?_
                refine wl_nil ?_
                exact wk_then (wk_mid trivial ⟨fb (by first | (simp only [h5, h6, h7, h13, h14, h15, Bool.true_and, Bool.false_and, Bool.true_or, Bool.false_or, Bool.and_true, Bool.and_false, Bool.or_true, Bool.or_false, Bool.not_true, Bool.not_false, cond_true, cond_false, if_true, if_false, reduceIte, Bool.false_eq_true]; done) | (simp only [Bool.true_and, Bool.false_and, Bool.true_or, Bool.false_or, Bool.and_true, Bool.and_false, Bool.or_true, Bool.or_false, Bool.not_true, Bool.not_false, cond_true, cond_false, if_true, if_false, reduceIte, Bool.false_eq_true]; done) | simp [h5, h6, h7, h13, h14, h15]), trivial⟩ .slnil)
              · have g15 := h15; try simp only [decide_eq_true_eq, decide_eq_false_iff_not] at g15
                have f15 := h15; try simp only [decide_eq_true_eq, decide_eq_false_iff_not, Bool.and_eq_true, Bool.or_eq_true, Bool.not_eq_true', Bool.not_eq_false', Bool.and_eq_false_iff, Bool.or_eq_false_iff, not_or, Int.not_lt, Int.not_le] at f15
                refine wl_on rfl rfl h15 ?_
                refine wl_v (o_move rfl) rfl ?_
                refine wl_on rfl rfl h15 ?_
                refine wl_v (o_eq rfl rfl) rfl ?_
                refine wl_v (o_pick_f rfl h15 rfl) rfl ?_
                refine wl_v (o_move rfl) rfl ?_
                refine bsplit (decide ((c) = (58))) (fun h16 => ?_) (fun h16 => ?_)
                · have g16 := h16; try simp only [decide_eq_true_eq, decide_eq_false_iff_not] at g16
                  have f16 := h16; try simp only [decide_eq_true_eq, decide_eq_false_iff_not, Bool.and_eq_true, Bool.or_eq_true, Bool.not_eq_true', Bool.not_eq_false', Bool.and_eq_false_iff, Bool.or_eq_false_iff, not_or, Int.not_lt, Int.not_le] at f16
                  refine wl_off rfl rfl h16 rfl ?_
                  refine wl_off rfl rfl h16 rfl ?_
                  refine wl_v (o_pick_t rfl h16 rfl) rfl ?_
                  refine wl_v (o_assign rfl) rfl ?_
                  refine wl_nil ?_
                  exact wk_then (wk_mid trivial ⟨fb (by first | (simp only [h5, h6, h7, h13, h14, h15, h16, Bool.true_and, Bool.false_and, Bool.true_or, Bool.false_or, Bool.and_true, Bool.and_false, Bool.or_true, Bool.or_false, Bool.not_true, Bool.not_false, cond_true, cond_false, if_true, if_false, reduceIte, Bool.false_eq_true]; done) | (simp only [Bool.true_and, Bool.false_and, Bool.true_or, Bool.false_or, Bool.and_true, Bool.and_false, Bool.or_true, Bool.or_false, Bool.not_true, Bool.not_false, cond_true, cond_false, if_true, if_false, reduceIte, Bool.false_eq_true]; done) | simp [h5, h6, h7, h13, h14, h15, h16]), trivial⟩ .slnil)
                · have g16 := h16; try simp only [decide_eq_true_eq, decide_eq_false_iff_not] at g16
                  have f16 := h16; try simp only [decide_eq_true_eq, decide_eq_false_iff_not, Bool.and_eq_true, Bool.or_eq_true, Bool.not_eq_true', Bool.not_eq_false', Bool.and_eq_false_iff, Bool.or_eq_false_iff, not_or, Int.not_lt, Int.not_le] at f16
                  refine wl_on rfl rfl h16 ?_
                  refine wl_v (o_move rfl) rfl ?_
                  refine wl_on rfl rfl h16 ?_
                  refine wl_v (o_eq rfl rfl) rfl ?_
                  refine wl_v (o_pick_f rfl h16 rfl) rfl ?_
                  refine wl_v (o_assign rfl) rfl ?_
                  refine wl_nil ?_
                  exact wk_then (wk_mid trivial ⟨fb (by first | (simp only [h5, h6, h7, h13, h14, h15, h16, Bool.true_and, Bool.false_and, Bool.true_or, Bool.false_or, Bool.and_true, Bool.and_false, Bool.or_true, Bool.or_false, Bool.not_true, Bool.not_false, cond_true, cond_false, if_true, if_false, reduceIte, Bool.false_eq_true]; done) | (simp only [Bool.true_and, Bool.false_and, Bool.true_or, Bool.false_or, Bool.and_true, Bool.and_false, Bool.or_true, Bool.or_false, Bool.not_true, Bool.not_false, cond_true, cond_false, if_true, if_false, reduceIte, Bool.false_eq_true]; done) | simp [h5, h6, h7, h13, h14, h15, h16]), trivial⟩ .slnil)
  refine wc_ret ?_
  refine wk_ret (r_1 rfl rfl) ?_
  exact retv (by simp only [letterS]; by_cases h : 65 ≤ c <;> simp [h, Bool.or_assoc])

theorem small_r (c : Int) (w : World) : Calls Tryz.prog 28 [.int .u8 (c)].toArray w (RetV w (.bool (smallS c))) := by
  refine enter0 (n := 9) Tryz.func28 rfl Tryz.ntmps28 rfl ?_
  refine wc_seq ?_
  refine wc_region ?_
  refine wl_v (o_assign rfl) rfl ?_
  refine wl_nil ?_
  refine wk_then (wc_of_wk ?_)
  refine wc_seq_mid [(2, .bool (((decide ((97) ≤ (c))) && (decide ((c) ≤ (122))))))] [] (φ := True) ?_ (fun hm18 => ?_)
  · refine wc_region ?_
    refine wl_v (o_move rfl) rfl ?_
    refine wl_v (o_ge rfl rfl) rfl ?_
    refine wl_v (o_move rfl) rfl ?_
    refine bsplit (decide ((97) ≤ (c))) (fun h18 => ?_) (fun h18 => ?_)
    · have g18 := h18; try simp only [decide_eq_true_eq, decide_eq_false_iff_not] at g18
      have f18 := h18; try simp only [decide_eq_true_eq, decide_eq_false_iff_not, Bool.and_eq_true, Bool.or_eq_true, Bool.not_eq_true', Bool.not_eq_false', Bool.and_eq_false_iff, Bool.or_eq_false_iff, not_or, Int.not_lt, Int.not_le] at f18
      refine wl_on rfl rfl h18 ?_
      refine wl_v (o_move rfl) rfl ?_
      refine wl_on rfl rfl h18 ?_
      refine wl_v (o_le rfl rfl) rfl ?_
      refine wl_v (o_pick_t rfl h18 rfl) rfl ?_
      refine wl_v (o_assign rfl) rfl ?_
      refine wl_nil ?_
      exact wk_then (wk_mid trivial ⟨fb (by first | (simp only [h18, Bool.true_and, Bool.false_and, Bool.true_or, Bool.false_or, Bool.and_true, Bool.and_false, Bool.or_true, Bool.or_false, Bool.not_true, Bool.not_false, cond_true, cond_false, if_true, if_false, reduceIte, Bool.false_eq_true]; done) | (simp only [Bool.true_and, Bool.false_and, Bool.true_or, Bool.false_or, Bool.and_true, Bool.and_false, Bool.or_true, Bool.or_false, Bool.not_true, Bool.not_false, cond_true, cond_false, if_true, if_false, reduceIte, Bool.false_eq_true]; done) | simp [h18]), trivial⟩ .slnil)
    · have g18 := h18; try simp only [decide_eq_true_eq, decide_eq_false_iff_not] at g18
      have f18 := h18; try simp only [decide_eq_true_eq, decide_eq_false_iff_not, Bool.and_eq_true, Bool.or_eq_true, Bool.not_eq_true', Bool.not_eq_false', Bool.and_eq_false_iff, Bool.or_eq_false_iff, not_or, Int.not_lt, Int.not_le] at f18
      refine wl_off rfl rfl h18 rfl ?_
      refine wl_off rfl rfl h18 rfl ?_
      refine wl_v (o_pick_f rfl h18 rfl) rfl ?_
      refine wl_v (o_assign rfl) rfl ?_
      refine wl_nil ?_
      exact wk_then (wk_mid trivial ⟨fb (by first | (simp only [h18, Bool.true_and, Bool.false_and, Bool.true_or, Bool.false_or, Bool.and_true, Bool.and_false, Bool.or_true, Bool.or_false, Bool.not_true, Bool.not_false, cond_true, cond_false, if_true, if_false, reduceIte, Bool.false_eq_true]; done) | (simp only [Bool.true_and, Bool.false_and, Bool.true_or, Bool.false_or, Bool.and_true, Bool.and_false, Bool.or_true, Bool.or_false, Bool.not_true, Bool.not_false, cond_true, cond_false, if_true, if_false, reduceIte, Bool.false_eq_true]; done) | simp [h18]), trivial⟩ .slnil)
  refine wc_ret ?_
  refine wk_ret (r_1 rfl rfl) ?_
  exact retv (by first | rfl | simp [])

theorem digit_r (c : Int) (w : World) : Calls Tryz.prog 29 [.int .u8 (c)].toArray w (RetV w (.bool (digitS c))) := by
  refine enter0 (n := 9) Tryz.func29 rfl Tryz.ntmps29 rfl ?_
  refine wc_seq ?_
  refine wc_region ?_
  refine wl_v (o_assign rfl) rfl ?_
  refine wl_nil ?_
  refine wk_then (wc_of_wk ?_)
  refine wc_seq_mid [(2, .bool (((decide ((48) ≤ (c))) && (decide ((c) ≤ (57))))))] [] (φ := True) ?_ (fun hm20 => ?_)
  · refine wc_region ?_
    refine wl_v (o_move rfl) rfl ?_
    refine wl_v (o_ge rfl rfl) rfl ?_
    refine wl_v (o_move rfl) rfl ?_
    refine bsplit (decide ((48) ≤ (c))) (fun h20 => ?_) (fun h20 => ?_)
    · have g20 := h20; try simp only [decide_eq_true_eq, decide_eq_false_iff_not] at g20
      have f20 := h20; try simp only [decide_eq_true_eq, decide_eq_false_iff_not, Bool.and_eq_true, Bool.or_eq_true, Bool.not_eq_true', Bool.not_eq_false', Bool.and_eq_false_iff, Bool.or_eq_false_iff, not_or, Int.not_lt, Int.not_le] at f20
      refine wl_on rfl rfl h20 ?_
      refine wl_v (o_move rfl) rfl ?_
      refine wl_on rfl rfl h20 ?_
      refine wl_v (o_le rfl rfl) rfl ?_
      refine wl_v (o_pick_t rfl h20 rfl) rfl ?_
      refine wl_v (o_assign rfl) rfl ?_
      refine wl_nil ?_
      exact wk_then (wk_mid trivial ⟨fb (by first | (simp only [h20, Bool.true_and, Bool.false_and, Bool.true_or, Bool.false_or, Bool.and_true, Bool.and_false, Bool.or_true, Bool.or_false, Bool.not_true, Bool.not_false, cond_true, cond_false, if_true, if_false, reduceIte, Bool.false_eq_true]; done) | (simp only [Bool.true_and, Bool.false_and, Bool.true_or, Bool.false_or, Bool.and_true, Bool.and_false, Bool.or_true, Bool.or_false, Bool.not_true, Bool.not_false, cond_true, cond_false, if_true, if_false, reduceIte, Bool.false_eq_true]; done) | simp [h20]), trivial⟩ .slnil)
    · have g20 := h20; try simp only [decide_eq_true_eq, decide_eq_false_iff_not] at g20
      have f20 := h20; try simp only [decide_eq_true_eq, decide_eq_false_iff_not, Bool.and_eq_true, Bool.or_eq_true, Bool.not_eq_true', Bool.not_eq_false', Bool.and_eq_false_iff, Bool.or_eq_false_iff, not_or, Int.not_lt, Int.not_le] at f20
      refine wl_off rfl rfl h20 rfl ?_
      refine wl_off rfl rfl h20 rfl ?_
      refine wl_v (o_pick_f rfl h20 rfl) rfl ?_
      refine wl_v (o_assign rfl) rfl ?_
      refine wl_nil ?_
      exact wk_then (wk_mid trivial ⟨fb (by first | (simp only [h20, Bool.true_and, Bool.false_and, Bool.true_or, Bool.false_or, Bool.and_true, Bool.and_false, Bool.or_true, Bool.or_false, Bool.not_true, Bool.not_false, cond_true, cond_false, if_true, if_false, reduceIte, Bool.false_eq_true]; done) | (simp only [Bool.true_and, Bool.false_and, Bool.true_or, Bool.false_or, Bool.and_true, Bool.and_false, Bool.or_true, Bool.or_false, Bool.not_true, Bool.not_false, cond_true, cond_false, if_true, if_false, reduceIte, Bool.false_eq_true]; done) | simp [h20]), trivial⟩ .slnil)
  refine wc_ret ?_
  refine wk_ret (r_1 rfl rfl) ?_
  exact retv (by first | rfl | simp [])

theorem part_r (c : Int) (w : World) : Calls Tryz.prog 31 [.int .u8 (c)].toArray w (RetV w (.bool (letterS c))) := by
  refine enter0 (n := 37) Tryz.func31 rfl Tryz.ntmps31 rfl ?_
  refine wc_seq ?_
  refine wc_region ?_
  refine wl_v (o_assign rfl) rfl ?_
  refine wl_nil ?_
  refine wk_then (wc_of_wk ?_)
  refine wc_seq_mid [(2, .bool (((smallS c) || (bif decide ((65) ≤ (c)) then ((decide ((c) ≤ (90))) || ((digitS c) || ((decide ((c) = (45))) || ((decide ((c) = (95))) || ((decide ((c) = (46))) || ((decide ((c) = (58))) || (decide ((c) = (47))))))))) else ((digitS c) || ((decide ((c) = (45))) || ((decide ((c) = (95))) || ((decide ((c) = (46))) || ((decide ((c) = (58))) || (decide ((c) = (47))))))))))))] [] (φ := True) ?_ (fun hm34 => ?_)
  · refine wc_region ?_
    refine wl_v (o_move rfl) rfl ?_
    refine w_call Tryz.call28 rfl (fun w hw => small_r c w) rfl ?_
    refine wl_v (o_move rfl) rfl ?_
    refine bsplit (smallS c) (fun h22 => ?_) (fun h22 => ?_)
    · have g22 := h22; try simp only [decide_eq_true_eq, decide_eq_false_iff_not] at g22
      have f22 := h22; try simp only [decide_eq_true_eq, decide_eq_false_iff_not, Bool.and_eq_true, Bool.or_eq_true, Bool.not_eq_true', Bool.not_eq_false', Bool.and_eq_false_iff, Bool.or_eq_false_iff, not_or, Int.not_lt, Int.not_le] at f22
      refine wl_off rfl rfl h22 rfl ?_
      refine wl_off rfl rfl h22 rfl ?_
      refine wl_off rfl rfl h22 rfl ?_
      refine wl_off_u rfl rfl rfl ?_
      refine wl_off_u rfl rfl rfl ?_
      refine wl_off rfl rfl h22 rfl ?_
      refine wl_v (o_pick_t rfl h22 rfl) rfl ?_
      refine wl_v (o_move rfl) rfl ?_
      refine wl_off rfl rfl rfl rfl ?_
      refine wl_off rfl rfl rfl rfl ?_
      refine wl_v (o_pick_t rfl rfl rfl) rfl ?_
      refine wl_v (o_move rfl) rfl ?_
      refine wl_off rfl rfl rfl rfl ?_
      refine wl_off rfl rfl rfl rfl ?_
      refine wl_v (o_pick_t rfl rfl rfl) rfl ?_
      refine wl_v (o_move rfl) rfl ?_
      refine wl_off rfl rfl rfl rfl ?_
      refine wl_off rfl rfl rfl rfl ?_
      refine wl_v (o_pick_t rfl rfl rfl) rfl ?_
      refine wl_v (o_move rfl) rfl ?_
      refine wl_off rfl rfl rfl rfl ?_
      refine wl_off rfl rfl rfl rfl ?_
      refine wl_v (o_pick_t rfl rfl rfl) rfl ?_
      refine wl_v (o_move rfl) rfl ?_
      refine wl_off rfl rfl rfl rfl ?_
      refine wl_off rfl rfl rfl rfl ?_
      refine wl_v (o_pick_t rfl rfl rfl) rfl ?_
      refine wl_v (o_move rfl) rfl ?_
      refine wl_off rfl rfl rfl rfl ?_
      refine wl_off rfl rfl rfl rfl ?_
      refine wl_v (o_pick_t rfl rfl rfl) rfl ?_
      refine wl_v (o_assign rfl) rfl ?_
      refine wl_nil ?_
      exact wk_then (wk_mid trivial ⟨fb (by first | (simp only [h22, Bool.true_and, Bool.false_and, Bool.true_or, Bool.false_or, Bool.and_true, Bool.and_false, Bool.or_true, Bool.or_false, Bool.not_true, Bool.not_false, cond_true, cond_false, if_true, if_false, reduceIte, Bool.false_eq_true]; done) | (simp only [Bool.true_and, Bool.false_and, Bool.true_or, Bool.false_or, Bool.and_true, Bool.and_false, Bool.or_true, Bool.or_false, Bool.not_true, Bool.not_false, cond_true, cond_false, if_true, if_false, reduceIte, Bool.false_eq_true]; done) | simp [h22]), trivial⟩ .slnil)
    · have g22 := h22; try simp only [decide_eq_true_eq, decide_eq_false_iff_not] at g22
      have f22 := h22; try simp only [decide_eq_true_eq, decide_eq_false_iff_not, Bool.and_eq_true, Bool.or_eq_true, Bool.not_eq_true', Bool.not_eq_false', Bool.and_eq_false_iff, Bool.or_eq_false_iff, not_or, Int.not_lt, Int.not_le] at f22
      refine wl_on rfl rfl h22 ?_
      refine wl_v (o_move rfl) rfl ?_
      refine wl_on rfl rfl h22 ?_
      refine wl_v (o_ge rfl rfl) rfl ?_
      refine wl_on rfl rfl h22 ?_
      refine wl_v (o_move rfl) rfl ?_
      refine bsplit (decide ((65) ≤ (c))) (fun h23 => ?_) (fun h23 => ?_)
      · have g23 := h23; try simp only [decide_eq_true_eq, decide_eq_false_iff_not] at g23
        have f23 := h23; try simp only [decide_eq_true_eq, decide_eq_false_iff_not, Bool.and_eq_true, Bool.or_eq_true, Bool.not_eq_true', Bool.not_eq_false', Bool.and_eq_false_iff, Bool.or_eq_false_iff, not_or, Int.not_lt, Int.not_le] at f23
        refine wl_on rfl rfl h23 ?_
        refine wl_v (o_move rfl) rfl ?_
        refine wl_on rfl rfl h23 ?_
        refine wl_v (o_le rfl rfl) rfl ?_
        refine wl_on rfl rfl h22 ?_
        refine wl_v (o_pick_t rfl h23 rfl) rfl ?_
        refine wl_v (o_pick_f rfl h22 rfl) rfl ?_
        refine wl_v (o_move rfl) rfl ?_
        refine bsplit (decide ((c) ≤ (90))) (fun h24 => ?_) (fun h24 => ?_)
        · have g24 := h24; try simp only [decide_eq_true_eq, decide_eq_false_iff_not] at g24
          have f24 := h24; try simp only [decide_eq_true_eq, decide_eq_false_iff_not, Bool.and_eq_true, Bool.or_eq_true, Bool.not_eq_true', Bool.not_eq_false', Bool.and_eq_false_iff, Bool.or_eq_false_iff, not_or, Int.not_lt, Int.not_le] at f24
          refine wl_off rfl rfl h24 rfl ?_
          refine wl_off rfl rfl h24 rfl ?_
          refine wl_v (o_pick_t rfl h24 rfl) rfl ?_
          refine wl_v (o_move rfl) rfl ?_
          refine wl_off rfl rfl rfl rfl ?_
          refine wl_off rfl rfl rfl rfl ?_
          refine wl_v (o_pick_t rfl rfl rfl) rfl ?_
          refine wl_v (o_move rfl) rfl ?_
          refine wl_off rfl rfl rfl rfl ?_
          refine wl_off rfl rfl rfl rfl ?_
          refine wl_v (o_pick_t rfl rfl rfl) rfl ?_
          refine wl_v (o_move rfl) rfl ?_
          refine wl_off rfl rfl rfl rfl ?_
          refine wl_off rfl rfl rfl rfl ?_
          refine wl_v (o_pick_t rfl rfl rfl) rfl ?_
          refine wl_v (o_move rfl) rfl ?_
          refine wl_off rfl rfl rfl rfl ?_
          refine wl_off rfl rfl rfl rfl ?_
          refine wl_v (o_pick_t rfl rfl rfl) rfl ?_
          refine wl_v (o_move rfl) rfl ?_
          refine wl_off rfl rfl rfl rfl ?_
          refine wl_off rfl rfl rfl rfl ?_
          refine wl_v (o_pick_t rfl rfl rfl) rfl ?_
          refine wl_v (o_assign rfl) rfl ?_
          refine wl_nil ?_
          exact wk_then (wk_mid trivial ⟨fb (by first | (simp only [h22, h23, h24, Bool.true_and, Bool.false_and, Bool.true_or, Bool.false_or, Bool.and_true, Bool.and_false, Bool.or_true, Bool.or_false, Bool.not_true, Bool.not_false, cond_true, cond_false, if_true, if_false, reduceIte, Bool.false_eq_true]; done) | (simp only [Bool.true_and, Bool.false_and, Bool.true_or, Bool.false_or, Bool.and_true, Bool.and_false, Bool.or_true, Bool.or_false, Bool.not_true, Bool.not_false, cond_true, cond_false, if_true, if_false, reduceIte, Bool.false_eq_true]; done) | simp [h22, h23, h24]), trivial⟩ .slnil)
        · have g24 := h24; try simp only [decide_eq_true_eq, decide_eq_false_iff_not] at g24
          have f24 := h24; try simp only [decide_eq_true_eq, decide_eq_false_iff_not, Bool.and_eq_true, Bool.or_eq_true, Bool.not_eq_true', Bool.not_eq_false', Bool.and_eq_false_iff, Bool.or_eq_false_iff, not_or, Int.not_lt, Int.not_le] at f24
          refine wl_on rfl rfl h24 ?_
          refine wl_v (o_move rfl) rfl ?_
          refine wl_on rfl rfl h24 ?_
          refine w_call Tryz.call29 rfl (fun w hw => digit_r c w) rfl ?_
          refine wl_v (o_pick_f rfl h24 rfl) rfl ?_
          refine wl_v (o_move rfl) rfl ?_
          refine bsplit (digitS c) (fun h25 => ?_) (fun h25 => ?_)
          · have g25 := h25; try simp only [decide_eq_true_eq, decide_eq_false_iff_not] at g25
            have f25 := h25; try simp only [decide_eq_true_eq, decide_eq_false_iff_not, Bool.and_eq_true, Bool.or_eq_true, Bool.not_eq_true', Bool.not_eq_false', Bool.and_eq_false_iff, Bool.or_eq_false_iff, not_or, Int.not_lt, Int.not_le] at f25
            refine wl_off rfl rfl h25 rfl ?_
            refine wl_off rfl rfl h25 rfl ?_
            refine wl_v (o_pick_t rfl h25 rfl) rfl ?_
            refine wl_v (o_move rfl) rfl ?_
            refine wl_off rfl rfl rfl rfl ?_
            refine wl_off rfl rfl rfl rfl ?_
            refine wl_v (o_pick_t rfl rfl rfl) rfl ?_
            refine wl_v (o_move rfl) rfl ?_
            refine wl_off rfl rfl rfl rfl ?_
            refine wl_off rfl rfl rfl rfl ?_
            refine wl_v (o_pick_t rfl rfl rfl) rfl ?_
            refine wl_v (o_move rfl) rfl ?_
            refine wl_off rfl rfl rfl rfl ?_
            refine wl_off rfl rfl rfl rfl ?_
            refine wl_v (o_pick_t rfl rfl rfl) rfl ?_
            refine wl_v (o_move rfl) rfl ?_
            refine wl_off rfl rfl rfl rfl ?_
            refine wl_off rfl rfl rfl rfl ?_
            refine wl_v (o_pick_t rfl rfl rfl) rfl ?_
            refine wl_v (o_assign rfl) rfl ?_
            refine wl_nil ?_
            exact wk_then (wk_mid trivial ⟨fb (by first | (simp only [h22, h23, h24, h25, Bool.true_and, Bool.false_and, Bool.true_or, Bool.false_or, Bool.and_true, Bool.and_false, Bool.or_true, Bool.or_false, Bool.not_true, Bool.not_false, cond_true, cond_false, if_true, if_false, reduceIte, Bool.false_eq_true]; done) | (simp only [Bool.true_and, Bool.false_and, Bool.true_or, Bool.false_or, Bool.and_true, Bool.and_false, Bool.or_true, Bool.or_false, Bool.not_true, Bool.not_false, cond_true, cond_false, if_true, if_false, reduceIte, Bool.false_eq_true]; done) | simp [h22, h23, h24, h25]), trivial⟩ .slnil)
          · have g25 := h25; try simp only [decide_eq_true_eq, decide_eq_false_iff_not] at g25
            have f25 := h25; try simp only [decide_eq_true_eq, decide_eq_false_iff_not, Bool.and_eq_true, Bool.or_eq_true, Bool.not_eq_true', Bool.not_eq_false', Bool.and_eq_false_iff, Bool.or_eq_false_iff, not_or, Int.not_lt, Int.not_le] at f25
            refine wl_on rfl rfl h25 ?_
            refine wl_v (o_move rfl) rfl ?_
            refine wl_on rfl rfl h25 ?_
            refine wl_v (o_eq rfl rfl) rfl ?_
            refine wl_v (o_pick_f rfl h25 rfl) rfl ?_
            refine wl_v (o_move rfl) rfl ?_
            refine bsplit (decide ((c) = (45))) (fun h26 => ?_) (fun h26 => ?_)
            · have g26 := h26; try simp only [decide_eq_true_eq, decide_eq_false_iff_not] at g26
              have f26 := h26; try simp only [decide_eq_true_eq, decide_eq_false_iff_not, Bool.and_eq_true, Bool.or_eq_true, Bool.not_eq_true', Bool.not_eq_false', Bool.and_eq_false_iff, Bool.or_eq_false_iff, not_or, Int.not_lt, Int.not_le] at f26
              refine wl_off rfl rfl h26 rfl ?_
              refine wl_off rfl rfl h26 rfl ?_
              refine wl_v (o_pick_t rfl h26 rfl) rfl ?_
              refine wl_v (o_move rfl) rfl ?_
              refine wl_off rfl rfl rfl rfl ?_
              refine wl_off rfl rfl rfl rfl ?_
              refine wl_v (o_pick_t rfl rfl rfl) rfl ?_
              refine wl_v (o_move rfl) rfl ?_
              refine wl_off rfl rfl rfl rfl ?_
              refine wl_off rfl rfl rfl rfl ?_
              refine wl_v (o_pick_t rfl rfl rfl) rfl ?_
              refine wl_v (o_move rfl) rfl ?_
              refine wl_off rfl rfl rfl rfl ?_
              refine wl_off rfl rfl rfl rfl ?_
              refine wl_v (o_pick_t rfl rfl rfl) rfl ?_
              refine wl_v (o_assign rfl) rfl ?_
              refine wl_nil ?_
              exact wk_then (wk_mid trivial ⟨fb (by first | (simp only [h22, h23, h24, h25, h26, Bool.true_and, Bool.false_and, Bool.true_or, Bool.false_or, Bool.and_true, Bool.and_false, Bool.or_true, Bool.or_false, Bool.not_true, Bool.not_false, cond_true, cond_false, if_true, if_false, reduceIte, Bool.false_eq_true]; done) | (simp only [Bool.true_and, Bool.false_and, Bool.true_or, Bool.false_or, Bool.and_true, Bool.and_false, Bool.or_true, Bool.or_false, Bool.not_true, Bool.not_false, cond_true, cond_false, if_true, if_false, reduceIte, Bool.false_eq_true]; done) | simp [h22, h23, h24, h25, h26]), trivial⟩ .slnil)
            · have g26 := h26; try simp only [decide_eq_true_eq, decide_eq_false_iff_not] at g26
              have f26 := h26; try simp only [decide_eq_true_eq, decide_eq_false_iff_not, Bool.and_eq_true, Bool.or_eq_true, Bool.not_eq_true', Bool.not_eq_false', Bool.and_eq_false_iff, Bool.or_eq_false_iff, not_or, Int.not_lt, Int.not_le] at f26
              refine wl_on rfl rfl h26 ?_
              refine wl_v (o_move rfl) rfl ?_
              refine wl_on rfl rfl h26 ?_
              refine wl_v (o_eq rfl rfl) rfl ?_
              refine wl_v (o_pick_f rfl h26 rfl) rfl ?_
              refine wl_v (o_move rfl) rfl ?_
              refine bsplit (decide ((c) = (95))) (fun h27 => ?_) (fun h27 => ?_)
              · have g27 := h27; try simp only [decide_eq_true_eq, decide_eq_false_iff_not] at g27
                have f27 := h27; try simp only [decide_eq_true_eq, decide_eq_false_iff_not, Bool.and_eq_true, Bool.or_eq_true, Bool.not_eq_true', Bool.not_eq_false', Bool.and_eq_false_iff, Bool.or_eq_false_iff, not_or, Int.not_lt, Int.not_le] at f27
                refine wl_off rfl rfl h27 rfl ?_
                refine wl_off rfl rfl h27 rfl ?_
                refine wl_v (o_pick_t rfl h27 rfl) rfl ?_
                refine wl_v (o_move rfl) rfl ?_
                refine wl_off rfl rfl rfl rfl ?_
                refine wl_off rfl rfl rfl rfl ?_
                refine wl_v (o_pick_t rfl rfl rfl) rfl ?_
                refine wl_v (o_move rfl) rfl ?_
                refine wl_off rfl rfl rfl rfl ?_
                refine wl_off rfl rfl rfl rfl ?_
                refine wl_v (o_pick_t rfl rfl rfl) rfl ?_
                refine wl_v (o_assign rfl) rfl ?_
                refine wl_nil ?_
                exact wk_then (wk_mid trivial ⟨fb (by first | (simp only [h22, h23, h24, h25, h26, h27, Bool.true_and, Bool.false_and, Bool.true_or, Bool.false_or, Bool.and_true, Bool.and_false, Bool.or_true, Bool.or_false, Bool.not_true, Bool.not_false, cond_true, cond_false, if_true, if_false, reduceIte, Bool.false_eq_true]; done) | (simp only [Bool.true_and, Bool.false_and, Bool.true_or, Bool.false_or, Bool.and_true, Bool.and_false, Bool.or_true, Bool.or_false, Bool.not_true, Bool.not_false, cond_true, cond_false, if_true, if_false, reduceIte, Bool.false_eq_true]; done) | simp [h22, h23, h24, h25, h26, h27]), trivial⟩ .slnil)
              · have g27 := h27; try simp only [decide_eq_true_eq, decide_eq_false_iff_not] at g27
                have f27 := h27; try simp only [decide_eq_true_eq, decide_eq_false_iff_not, Bool.and_eq_true, Bool.or_eq_true, Bool.not_eq_true', Bool.not_eq_false', Bool.and_eq_false_iff, Bool.or_eq_false_iff, not_or, Int.not_lt, Int.not_le] at f27
                refine wl_on rfl rfl h27 ?_
                refine wl_v (o_move rfl) rfl ?_
                refine wl_on rfl rfl h27 ?_
                refine wl_v (o_eq rfl rfl) rfl ?_
                refine wl_v (o_pick_f rfl h27 rfl) rfl ?_
                refine wl_v (o_move rfl) rfl ?_
                refine bsplit (decide ((c) = (46))) (fun h28 => ?_) (fun h28 => ?_)
                · have g28 := h28; try simp only [decide_eq_true_eq, decide_eq_false_iff_not] at g28
                  have f28 := h28; try simp only [decide_eq_true_eq, decide_eq_false_iff_not, Bool.and_eq_true, Bool.or_eq_true, Bool.not_eq_true', Bool.not_eq_false', Bool.and_eq_false_iff, Bool.or_eq_false_iff, not_or, Int.not_lt, Int.not_le] at f28
                  refine wl_off rfl rfl h28 rfl ?_
                  refine wl_off rfl rfl h28 rfl ?_
                  refine wl_v (o_pick_t rfl h28 rfl) rfl ?_
                  refine wl_v (o_move rfl) rfl ?_
                  refine wl_off rfl rfl rfl rfl ?_
                  refine wl_off rfl rfl rfl rfl ?_
                  refine wl_v (o_pick_t rfl rfl rfl) rfl ?_
                  refine wl_v (o_assign rfl) rfl ?_
                  refine wl_nil ?_
                  exact wk_then (wk_mid trivial ⟨fb (by first | (simp only [h22, h23, h24, h25, h26, h27, h28, Bool.true_and, Bool.false_and, Bool.true_or, Bool.false_or, Bool.and_true, Bool.and_false, Bool.or_true, Bool.or_false, Bool.not_true, Bool.not_false, cond_true, cond_false, if_true, if_false, reduceIte, Bool.false_eq_true]; done) | (simp only [Bool.true_and, Bool.false_and, Bool.true_or, Bool.false_or, Bool.and_true, Bool.and_false, Bool.or_true, Bool.or_false, Bool.not_true, Bool.not_false, cond_true, cond_false, if_true, if_false, reduceIte, Bool.false_eq_true]; done) | simp [h22, h23, h24, h25, h26, h27, h28]), trivial⟩ .slnil)
                · have g28 := h28; try simp only [decide_eq_true_eq, decide_eq_false_iff_not] at g28
                  have f28 := h28; try simp only [decide_eq_true_eq, decide_eq_false_iff_not, Bool.and_eq_true, Bool.or_eq_true, Bool.not_eq_true', Bool.not_eq_false', Bool.and_eq_false_iff, Bool.or_eq_false_iff, not_or, Int.not_lt, Int.not_le] at f28
                  refine wl_on rfl rfl h28 ?_
                  refine wl_v (o_move rfl) rfl ?_
                  refine wl_on rfl rfl h28 ?_
                  refine wl_v (o_eq rfl rfl) rfl ?_
                  refine wl_v (o_pick_f rfl h28 rfl) rfl ?_
                  refine wl_v (o_move rfl) rfl ?_
                  refine bsplit (decide ((c) = (58))) (fun h29 => ?_) (fun h29 => ?_)
                  · have g29 := h29; try simp only [decide_eq_true_eq, decide_eq_false_iff_not] at g29
                    have f29 := h29; try simp only [decide_eq_true_eq, decide_eq_false_iff_not, Bool.and_eq_true, Bool.or_eq_true, Bool.not_eq_true', Bool.not_eq_false', Bool.and_eq_false_iff, Bool.or_eq_false_iff, not_or, Int.not_lt, Int.not_le] at f29
                    refine wl_off rfl rfl h29 rfl ?_
                    refine wl_off rfl rfl h29 rfl ?_
                    refine wl_v (o_pick_t rfl h29 rfl) rfl ?_
                    refine wl_v (o_assign rfl) rfl ?_
                    refine wl_nil ?_
                    exact wk_then (wk_mid trivial ⟨fb (by first | (simp only [h22, h23, h24, h25, h26, h27, h28, h29, Bool.true_and, Bool.false_and, Bool.true_or, Bool.false_or, Bool.and_true, Bool.and_false, Bool.or_true, Bool.or_false, Bool.not_true, Bool.not_false, cond_true, cond_false, if_true, if_false, reduceIte, Bool.false_eq_true]; done) | (simp only [Bool.true_and, Bool.false_and, Bool.true_or, Bool.false_or, Bool.and_true, Bool.and_false, Bool.or_true, Bool.or_false, Bool.not_true, Bool.not_false, cond_true, cond_false, if_true, if_false, reduceIte, Bool.false_eq_true]; done) | simp [h22, h23, h24, h25, h26, h27, h28, h29]), trivial⟩ .slnil)
                  · have g29 := h29; try simp only [decide_eq_true_eq, decide_eq_false_iff_not] at g29
                    have f29 := h29; try simp only [decide_eq_true_eq, decide_eq_false_iff_not, Bool.and_eq_true, Bool.or_eq_true, Bool.not_eq_true', Bool.not_eq_false', Bool.and_eq_false_iff, Bool.or_eq_false_iff, not_or, Int.not_lt, Int.not_le] at f29
                    refine wl_on rfl rfl h29 ?_
                    refine wl_v (o_move rfl) rfl ?_
                    refine wl_on rfl rfl h29 ?_
                    refine wl_v (o_eq rfl rfl) rfl ?_
                    refine wl_v (o_pick_f rfl h29 rfl) rfl ?_
                    refine wl_v (o_assign rfl) rfl ?_
                    refine wl_nil ?_
                    exact wk_then (wk_mid trivial ⟨fb (by first | (simp only [h22, h23, h24, h25, h26, h27, h28, h29, Bool.true_and, Bool.false_and, Bool.true_or, Bool.false_or, Bool.and_true, Bool.and_false, Bool.or_true, Bool.or_false, Bool.not_true, Bool.not_false, cond_true, cond_false, if_true, if_false, reduceIte, Bool.false_eq_true]; done) | (simp only [Bool.true_and, Bool.false_and, Bool.true_or, Bool.false_or, Bool.and_true, Bool.and_false, Bool.or_true, Bool.or_false, Bool.not_true, Bool.not_false, cond_true, cond_false, if_true, if_false, reduceIte, Bool.false_eq_true]; done) | simp [h22, h23, h24, h25, h26, h27, h28, h29]), trivial⟩ .slnil)
      · have g23 := h23; try simp only [decide_eq_true_eq, decide_eq_false_iff_not] at g23
        have f23 := h23; try simp only [decide_eq_true_eq, decide_eq_false_iff_not, Bool.and_eq_true, Bool.or_eq_true, Bool.not_eq_true', Bool.not_eq_false', Bool.and_eq_false_iff, Bool.or_eq_false_iff, not_or, Int.not_lt, Int.not_le] at f23
        refine wl_off rfl rfl h23 rfl ?_
        refine wl_off rfl rfl h23 rfl ?_
        refine wl_on rfl rfl h22 ?_
        refine wl_v (o_pick_f rfl h23 rfl) rfl ?_
        refine wl_v (o_pick_f rfl h22 rfl) rfl ?_
        refine wl_v (o_move rfl) rfl ?_
        refine wl_on rfl rfl rfl ?_
        refine wl_v (o_move rfl) rfl ?_
        refine wl_on rfl rfl rfl ?_
        refine w_call Tryz.call29 rfl (fun w hw => digit_r c w) rfl ?_
        refine wl_v (o_pick_f rfl rfl rfl) rfl ?_
        refine wl_v (o_move rfl) rfl ?_
        refine bsplit (digitS c) (fun h30 => ?_) (fun h30 => ?_)
        · have g30 := h30; try simp only [decide_eq_true_eq, decide_eq_false_iff_not] at g30
          have f30 := h30; try simp only [decide_eq_true_eq, decide_eq_false_iff_not, Bool.and_eq_true, Bool.or_eq_true, Bool.not_eq_true', Bool.not_eq_false', Bool.and_eq_false_iff, Bool.or_eq_false_iff, not_or, Int.not_lt, Int.not_le] at f30
          refine wl_off rfl rfl h30 rfl ?_
          refine wl_off rfl rfl h30 rfl ?_
          refine wl_v (o_pick_t rfl h30 rfl) rfl ?_
          refine wl_v (o_move rfl) rfl ?_
          refine wl_off rfl rfl rfl rfl ?_
          refine wl_off rfl rfl rfl rfl ?_
          refine wl_v (o_pick_t rfl rfl rfl) rfl ?_
          refine wl_v (o_move rfl) rfl ?_
          refine wl_off rfl rfl rfl rfl ?_
          refine wl_off rfl rfl rfl rfl ?_
          refine wl_v (o_pick_t rfl rfl rfl) rfl ?_
          refine wl_v (o_move rfl) rfl ?_
          refine wl_off rfl rfl rfl rfl ?_
          refine wl_off rfl rfl rfl rfl ?_
          refine wl_v (o_pick_t rfl rfl rfl) rfl ?_
          refine wl_v (o_move rfl) rfl ?_
          refine wl_off rfl rfl rfl rfl ?_
          refine wl_off rfl rfl rfl rfl ?_
          refine wl_v (o_pick_t rfl rfl rfl) rfl ?_
          refine wl_v (o_assign rfl) rfl ?_
          refine wl_nil ?_
          exact wk_then (wk_mid trivial ⟨fb (by first | (simp only [h22, h23, h30, Bool.true_and, Bool.false_and, Bool.true_or, Bool.false_or, Bool.and_true, Bool.and_false, Bool.or_true, Bool.or_false, Bool.not_true, Bool.not_false, cond_true, cond_false, if_true, if_false, reduceIte, Bool.false_eq_true]; done) | (simp only [Bool.true_and, Bool.false_and, Bool.true_or, Bool.false_or, Bool.and_true, Bool.and_false, Bool.or_true, Bool.or_false, Bool.not_true, Bool.not_false, cond_true, cond_false, if_true, if_false, reduceIte, Bool.false_eq_true]; done) | simp [h22, h23, h30]), trivial⟩ .slnil)
        · have g30 := h30; try simp only [decide_eq_true_eq, decide_eq_false_iff_not] at g30
          have f30 := h30; try simp only [decide_eq_true_eq, decide_eq_false_iff_not, Bool.and_eq_true, Bool.or_eq_true, Bool.not_eq_true', Bool.not_eq_false', Bool.and_eq_false_iff, Bool.or_eq_false_iff, not_or, Int.not_lt, Int.not_le] at f30
          refine wl_on rfl rfl h30 ?_
          refine wl_v (o_move rfl) rfl ?_
          refine wl_on rfl rfl h30 ?_
          refine wl_v (o_eq rfl rfl) rfl ?_
          refine wl_v (o_pick_f rfl h30 rfl) rfl ?_
          refine wl_v (o_move rfl) rfl ?_
          refine bsplit (decide ((c) = (45))) (fun h31 => ?_) (fun h31 => ?_)
          · have g31 := h31; try simp only [decide_eq_true_eq, decide_eq_false_iff_not] at g31
            have f31 := h31; try simp only [decide_eq_true_eq, decide_eq_false_iff_not, Bool.and_eq_true, Bool.or_eq_true, Bool.not_eq_true', Bool.not_eq_false', Bool.and_eq_false_iff, Bool.or_eq_false_iff, not_or, Int.not_lt, Int.not_le] at f31
            refine wl_off rfl rfl h31 rfl ?_
            refine wl_off rfl rfl h31 rfl ?_
            refine wl_v (o_pick_t rfl h31 rfl) rfl ?_
            refine wl_v (o_move rfl) rfl ?_
            refine wl_off rfl rfl rfl rfl ?_
            refine wl_off rfl rfl rfl rfl ?_
            refine wl_v (o_pick_t rfl rfl rfl) rfl ?_
            refine wl_v (o_move rfl) rfl ?_
            refine wl_off rfl rfl rfl rfl ?_
            refine wl_off rfl rfl rfl rfl ?_
            refine wl_v (o_pick_t rfl rfl rfl) rfl ?_
            refine wl_v (o_move rfl) rfl ?_
            refine wl_off rfl rfl rfl rfl ?_
            refine wl_off rfl rfl rfl rfl ?_
            refine wl_v (o_pick_t rfl rfl rfl) rfl ?_
            refine wl_v (o_assign rfl) rfl ?_
            refine wl_nil ?_
            exact wk_then (wk_mid trivial ⟨fb (by first | (simp only [h22, h23, h30, h31, Bool.true_and, Bool.false_and, Bool.true_or, Bool.false_or, Bool.and_true, Bool.and_false, Bool.or_true, Bool.or_false, Bool.not_true, Bool.not_false, cond_true, cond_false, if_true, if_false, reduceIte, Bool.false_eq_true]; done) | (simp only [Bool.true_and, Bool.false_and, Bool.true_or, Bool.false_or, Bool.and_true, Bool.and_false, Bool.or_true, Bool.or_false, Bool.not_true, Bool.not_false, cond_true, cond_false, if_true, if_false, reduceIte, Bool.false_eq_true]; done) | simp [h22, h23, h30, h31]), trivial⟩ .slnil)
          · have g31 := h31; try simp only [decide_eq_true_eq, decide_eq_false_iff_not] at g31
            have f31 := h31; try simp only [decide_eq_true_eq, decide_eq_false_iff_not, Bool.and_eq_true, Bool.or_eq_true, Bool.not_eq_true', Bool.not_eq_false', Bool.and_eq_false_iff, Bool.or_eq_false_iff, not_or, Int.not_lt, Int.not_le] at f31
            refine wl_on rfl rfl h31 ?_
            refine wl_v (o_move rfl) rfl ?_
            refine wl_on rfl rfl h31 ?_
            refine wl_v (o_eq rfl rfl) rfl ?_
            refine wl_v (o_pick_f rfl h31 rfl) rfl ?_
            refine wl_v (o_move rfl) rfl ?_
            refine bsplit (decide ((c) = (95))) (fun h32 => ?_) (fun h32 => ?_)
            · have g32 := h32; try simp only [decide_eq_true_eq, decide_eq_false_iff_not] at g32
              have f32 := h32; try simp only [decide_eq_true_eq, decide_eq_false_iff_not, Bool.and_eq_true, Bool.or_eq_true, Bool.not_eq_true', Bool.not_eq_false', Bool.and_eq_false_iff, Bool.or_eq_false_iff, not_or, Int.not_lt, Int.not_le] at f32
              refine wl_off rfl rfl h32 rfl ?_
              refine wl_off rfl rfl h32 rfl ?_
              refine wl_v (o_pick_t rfl h32 rfl) rfl ?_
              refine wl_v (o_move rfl) rfl ?_
              refine wl_off rfl rfl rfl rfl ?_
              refine wl_off rfl rfl rfl rfl ?_
              refine wl_v (o_pick_t rfl rfl rfl) rfl ?_
              refine wl_v (o_move rfl) rfl ?_
              refine wl_off rfl rfl rfl rfl ?_
              refine wl_off rfl rfl rfl rfl ?_
              refine wl_v (o_pick_t rfl rfl rfl) rfl ?_
              refine wl_v (o_assign rfl) rfl ?_
              refine wl_nil ?_
              exact wk_then (wk_mid trivial ⟨fb (by first | (simp only [h22, h23, h30, h31, h32, Bool.true_and, Bool.false_and, Bool.true_or, Bool.false_or, Bool.and_true, Bool.and_false, Bool.or_true, Bool.or_false, Bool.not_true, Bool.not_false, cond_true, cond_false, if_true, if_false, reduceIte, Bool.false_eq_true]; done) | (simp only [Bool.true_and, Bool.false_and, Bool.true_or, Bool.false_or, Bool.and_true, Bool.and_false, Bool.or_true, Bool.or_false, Bool.not_true, Bool.not_false, cond_true, cond_false, if_true, if_false, reduceIte, Bool.false_eq_true]; done) | simp [h22, h23, h30, h31, h32]), trivial⟩ .slnil)
            · have g32 := h32; try simp only [decide_eq_true_eq, decide_eq_false_iff_not] at g32
              have f32 := h32; try simp only [decide_eq_true_eq, decide_eq_false_iff_not, Bool.and_eq_true, Bool.or_eq_true, Bool.not_eq_true', Bool.not_eq_false', Bool.and_eq_false_iff, Bool.or_eq_false_iff, not_or, Int.not_lt, Int.not_le] at f32
              refine wl_on rfl rfl h32 ?_
              refine wl_v (o_move rfl) rfl ?_
              refine wl_on rfl rfl h32 ?_
              refine wl_v (o_eq rfl rfl) rfl ?_
              refine wl_v (o_pick_f rfl h32 rfl) rfl ?_
              refine wl_v (o_move rfl) rfl ?_
              refine bsplit (decide ((c) = (46))) (fun h33 => ?_) (fun h33 => ?_)
              · have g33 := h33; try simp only [decide_eq_true_eq, decide_eq_false_iff_not] at g33
                have f33 := h33; try simp only [decide_eq_true_eq, decide_eq_false_iff_not, Bool.and_eq_true, Bool.or_eq_true, Bool.not_eq_true', Bool.not_eq_false', Bool.and_eq_false_iff, Bool.or_eq_false_iff, not_or, Int.not_lt, Int.not_le] at f33
                refine wl_off rfl rfl h33 rfl ?_
                refine wl_off rfl rfl h33 rfl ?_
                refine wl_v (o_pick_t rfl h33 rfl) rfl ?_
                refine wl_v (o_move rfl) rfl ?_
                refine wl_off rfl rfl rfl rfl ?_
                refine wl_off rfl rfl rfl rfl ?_
                refine wl_v (o_pick_t rfl rfl rfl) rfl ?_
                refine wl_v (o_assign rfl) rfl ?_
                refine wl_nil ?_
                exact wk_then (wk_mid trivial ⟨fb (by first | (simp only [h22, h23, h30, h31, h32, h33, Bool.true_and, Bool.false_and, Bool.true_or, Bool.false_or, Bool.and_true, Bool.and_false, Bool.or_true, Bool.or_false, Bool.not_true, Bool.not_false, cond_true, cond_false, if_true, if_false, reduceIte, Bool.false_eq_true]; done) | (simp only [Bool.true_and, Bool.false_and, Bool.true_or, Bool.false_or, Bool.and_true, Bool.and_false, Bool.or_true, Bool.or_false, Bool.not_true, Bool.not_false, cond_true, cond_false, if_true, if_false, reduceIte, Bool.false_eq_true]; done) | simp [h22, h23, h30, h31, h32, h33]), trivial⟩ .slnil)
              · have g33 := h33; try simp only [decide_eq_true_eq, decide_eq_false_iff_not] at g33
                have f33 := h33; try simp only [decide_eq_true_eq, decide_eq_false_iff_not, Bool.and_eq_true, Bool.or_eq_true, Bool.not_eq_true', Bool.not_eq_false', Bool.and_eq_false_iff, Bool.or_eq_false_iff, not_or, Int.not_lt, Int.not_le] at f33
                refine wl_on rfl rfl h33 ?_
                refine wl_v (o_move rfl) rfl ?_
                refine wl_on rfl rfl h33 ?_
                refine wl_v (o_eq rfl rfl) rfl ?_
                refine wl_v (o_pick_f rfl h33 rfl) rfl ?_
                refine wl_v (o_move rfl) rfl ?_
                refine bsplit (decide ((c) = (58))) (fun h34 => ?_) (fun h34 => ?_)
                · have g34 := h34; try simp only [decide_eq_true_eq, decide_eq_false_iff_not] at g34
                  have f34 := h34; try simp only [decide_eq_true_eq, decide_eq_false_iff_not, Bool.and_eq_true, Bool.or_eq_true, Bool.not_eq_true', Bool.not_eq_false', Bool.and_eq_false_iff, Bool.or_eq_false_iff, not_or, Int.not_lt, Int.not_le] at f34
                  refine wl_off rfl rfl h34 rfl ?_
                  refine wl_off rfl rfl h34 rfl ?_
                  refine wl_v (o_pick_t rfl h34 rfl) rfl ?_
                  refine wl_v (o_assign rfl) rfl ?_
                  refine wl_nil ?_
                  exact wk_then (wk_mid trivial ⟨fb (by first | (simp only [h22, h23, h30, h31, h32, h33, h34, Bool.true_and, Bool.false_and, Bool.true_or, Bool.false_or, Bool.and_true, Bool.and_false, Bool.or_true, Bool.or_false, Bool.not_true, Bool.not_false, cond_true, cond_false, if_true, if_false, reduceIte, Bool.false_eq_true]; done) | (simp only [Bool.true_and, Bool.false_and, Bool.true_or, Bool.false_or, Bool.and_true, Bool.and_false, Bool.or_true, Bool.or_false, Bool.not_true, Bool.not_false, cond_true, cond_false, if_true, if_false, reduceIte, Bool.false_eq_true]; done) | simp [h22, h23, h30, h31, h32, h33, h34]), trivial⟩ .slnil)
                · have g34 := h34; try simp only [decide_eq_true_eq, decide_eq_false_iff_not] at g34
                  have f34 := h34; try simp only [decide_eq_true_eq, decide_eq_false_iff_not, Bool.and_eq_true, Bool.or_eq_true, Bool.not_eq_true', Bool.not_eq_false', Bool.and_eq_false_iff, Bool.or_eq_false_iff, not_or, Int.not_lt, Int.not_le] at f34
                  refine wl_on rfl rfl h34 ?_
                  refine wl_v (o_move rfl) rfl ?_
                  refine wl_on rfl rfl h34 ?_
                  refine wl_v (o_eq rfl rfl) rfl ?_
                  refine wl_v (o_pick_f rfl h34 rfl) rfl ?_
                  refine wl_v (o_assign rfl) rfl ?_
                  refine wl_nil ?_
                  exact wk_then (wk_mid trivial ⟨fb (by first | (simp only [h22, h23, h30, h31, h32, h33, h34, Bool.true_and, Bool.false_and, Bool.true_or, Bool.false_or, Bool.and_true, Bool.and_false, Bool.or_true, Bool.or_false, Bool.not_true, Bool.not_false, cond_true, cond_false, if_true, if_false, reduceIte, Bool.false_eq_true]; done) | (simp only [Bool.true_and, Bool.false_and, Bool.true_or, Bool.false_or, Bool.and_true, Bool.and_false, Bool.or_true, Bool.or_false, Bool.not_true, Bool.not_false, cond_true, cond_false, if_true, if_false, reduceIte, Bool.false_eq_true]; done) | simp [h22, h23, h30, h31, h32, h33, h34]), trivial⟩ .slnil)
  refine wc_ret ?_
  refine wk_ret (r_1 rfl rfl) ?_
  exact retv (by simp [letterS]; grind)

theorem valid_c (m : Int) (w : World) : Calls Tryz.prog 60 [.int .i64 (m)].toArray w (RetV w (.bool (validS m))) := by
  refine enter0 (n := 9) Tryz.func60 rfl Tryz.ntmps60 rfl ?_
  refine wc_seq ?_
  refine wc_region ?_
  refine wl_v (o_assign rfl) rfl ?_
  refine wl_nil ?_
  refine wk_then (wc_of_wk ?_)
  refine wc_seq_mid [(2, .bool (((decide ((-1000000000000) ≤ (m))) && (decide ((m) ≤ (1000000000000))))))] [] (φ := True) ?_ (fun hm36 => ?_)
  · refine wc_region ?_
    refine wl_v (o_move rfl) rfl ?_
    refine wl_v (o_le rfl rfl) rfl ?_
    refine wl_v (o_move rfl) rfl ?_
    refine bsplit (decide ((-1000000000000) ≤ (m))) (fun h36 => ?_) (fun h36 => ?_)
    · have g36 := h36; try simp only [decide_eq_true_eq, decide_eq_false_iff_not] at g36
      have f36 := h36; try simp only [decide_eq_true_eq, decide_eq_false_iff_not, Bool.and_eq_true, Bool.or_eq_true, Bool.not_eq_true', Bool.not_eq_false', Bool.and_eq_false_iff, Bool.or_eq_false_iff, not_or, Int.not_lt, Int.not_le] at f36
      refine wl_on rfl rfl h36 ?_
      refine wl_v (o_move rfl) rfl ?_
      refine wl_on rfl rfl h36 ?_
      refine wl_v (o_le rfl rfl) rfl ?_
      refine wl_v (o_pick_t rfl h36 rfl) rfl ?_
      refine wl_v (o_assign rfl) rfl ?_
      refine wl_nil ?_
      exact wk_then (wk_mid trivial ⟨fb (by first | (simp only [h36, Bool.true_and, Bool.false_and, Bool.true_or, Bool.false_or, Bool.and_true, Bool.and_false, Bool.or_true, Bool.or_false, Bool.not_true, Bool.not_false, cond_true, cond_false, if_true, if_false, reduceIte, Bool.false_eq_true]; done) | (simp only [Bool.true_and, Bool.false_and, Bool.true_or, Bool.false_or, Bool.and_true, Bool.and_false, Bool.or_true, Bool.or_false, Bool.not_true, Bool.not_false, cond_true, cond_false, if_true, if_false, reduceIte, Bool.false_eq_true]; done) | simp [h36]), trivial⟩ .slnil)
    · have g36 := h36; try simp only [decide_eq_true_eq, decide_eq_false_iff_not] at g36
      have f36 := h36; try simp only [decide_eq_true_eq, decide_eq_false_iff_not, Bool.and_eq_true, Bool.or_eq_true, Bool.not_eq_true', Bool.not_eq_false', Bool.and_eq_false_iff, Bool.or_eq_false_iff, not_or, Int.not_lt, Int.not_le] at f36
      refine wl_off rfl rfl h36 rfl ?_
      refine wl_off rfl rfl h36 rfl ?_
      refine wl_v (o_pick_f rfl h36 rfl) rfl ?_
      refine wl_v (o_assign rfl) rfl ?_
      refine wl_nil ?_
      exact wk_then (wk_mid trivial ⟨fb (by first | (simp only [h36, Bool.true_and, Bool.false_and, Bool.true_or, Bool.false_or, Bool.and_true, Bool.and_false, Bool.or_true, Bool.or_false, Bool.not_true, Bool.not_false, cond_true, cond_false, if_true, if_false, reduceIte, Bool.false_eq_true]; done) | (simp only [Bool.true_and, Bool.false_and, Bool.true_or, Bool.false_or, Bool.and_true, Bool.and_false, Bool.or_true, Bool.or_false, Bool.not_true, Bool.not_false, cond_true, cond_false, if_true, if_false, reduceIte, Bool.false_eq_true]; done) | simp [h36]), trivial⟩ .slnil)
  refine wc_ret ?_
  refine wk_ret (r_1 rfl rfl) ?_
  exact retv (by first | rfl | simp [])

theorem name_c (p : List UInt8) (w : World) : Calls Tryz.prog 7 [.string (B p)].toArray w (RetV w (.bool (nameS p))) := by
  refine enter0 (n := 39) Tryz.func7 rfl Tryz.ntmps7 rfl ?_
  refine wc_seq ?_
  refine wc_region ?_
  refine wl_v (o_assign rfl) rfl ?_
  refine wl_nil ?_
  refine wk_then (wc_of_wk ?_)
  refine wc_seq ?_
  refine wc_seq ?_
  refine wc_region ?_
  refine wl_v (o_move rfl) rfl ?_
  refine w_range_s Tryz.underlying9 rfl rfl (fun b38 => ?_)
  refine wl_nil ?_
  refine wk_then (wc_of_wk ?_)
  refine wc_block ?_
  refine wc_loop (S := Nat) (fun (k : Nat) => k ≤ p.length ∧ allFrom nameCh 0 p = allFrom nameCh k (p.drop k)) (fun (k : Nat) => [(0, .string (B (p))), (2, .bool (false)), (6, .pointer (some ⟨b38, 0, none⟩))]) (fun (k : Nat) => [.blk b38 (.stringIter (B p) (k))]) (fun (k : Nat) => p.length - k) (0) ?_ ⟨rfl, rfl, rfl, trivial⟩ (.cons_cons _ (.slnil)) ?_
  · exact ⟨Nat.zero_le _, by simp⟩
  rintro k hi0
  refine wc_seq ?_
  refine wc_region ?_
  refine w_next_s (i := 0) rfl rfl rfl (fun hend => ?_) (fun u39 c40 wd41 hu39 hlu39 hhu39 hwu39 => ?_)
  · refine wl_v (o_extract rfl rfl) rfl ?_
    refine wl_nil ?_
    refine wk_then (wc_of_wk ?_)
    refine wc_seq ?_
    refine wc_cond_f rfl rfl ?_
    refine wc_exit ?_
    refine wk_then_exit ?_
    refine wk_then_exit ?_
    refine wk_in_hit ?_
    refine wk_then (wc_of_wk ?_)
    refine wc_seq_mid [(2, .bool (((decide ((1) ≤ ((p.length : Int)))) && (decide (((p.length : Int)) ≤ (24))))))] [.blk b38 (.stringIter (B p) (k))] (φ := True) ?_ (fun hm42 => ?_)
    · refine wc_region ?_
      refine wl_v (o_move rfl) rfl ?_
      refine wl_v (o_len_s Tryz.underlying9 rfl) rfl ?_
      refine wl_v (o_ge rfl rfl) rfl ?_
      refine wl_v (o_move rfl) rfl ?_
      refine bsplit (decide ((1) ≤ ((p.length : Int)))) (fun h42 => ?_) (fun h42 => ?_)
      · have g42 := h42; try simp only [decide_eq_true_eq, decide_eq_false_iff_not] at g42
        have f42 := h42; try simp only [decide_eq_true_eq, decide_eq_false_iff_not, Bool.and_eq_true, Bool.or_eq_true, Bool.not_eq_true', Bool.not_eq_false', Bool.and_eq_false_iff, Bool.or_eq_false_iff, not_or, Int.not_lt, Int.not_le] at f42
        refine wl_on rfl rfl h42 ?_
        refine wl_v (o_move rfl) rfl ?_
        refine wl_on rfl rfl h42 ?_
        refine wl_v (o_len_s Tryz.underlying9 rfl) rfl ?_
        refine wl_on rfl rfl h42 ?_
        refine wl_v (o_le rfl rfl) rfl ?_
        refine wl_v (o_pick_t rfl h42 rfl) rfl ?_
        refine wl_v (o_assign rfl) rfl ?_
        refine wl_nil ?_
        exact wk_then (wk_mid trivial ⟨fb (by first | (simp only [h42, Bool.true_and, Bool.false_and, Bool.true_or, Bool.false_or, Bool.and_true, Bool.and_false, Bool.or_true, Bool.or_false, Bool.not_true, Bool.not_false, cond_true, cond_false, if_true, if_false, reduceIte, Bool.false_eq_true]; done) | (simp only [Bool.true_and, Bool.false_and, Bool.true_or, Bool.false_or, Bool.and_true, Bool.and_false, Bool.or_true, Bool.or_false, Bool.not_true, Bool.not_false, cond_true, cond_false, if_true, if_false, reduceIte, Bool.false_eq_true]; done) | simp [h42]), trivial⟩ (.cons_cons _ (.slnil)))
      · have g42 := h42; try simp only [decide_eq_true_eq, decide_eq_false_iff_not] at g42
        have f42 := h42; try simp only [decide_eq_true_eq, decide_eq_false_iff_not, Bool.and_eq_true, Bool.or_eq_true, Bool.not_eq_true', Bool.not_eq_false', Bool.and_eq_false_iff, Bool.or_eq_false_iff, not_or, Int.not_lt, Int.not_le] at f42
        refine wl_off rfl rfl h42 rfl ?_
        refine wl_off rfl rfl h42 rfl ?_
        refine wl_off rfl rfl h42 rfl ?_
        refine wl_v (o_pick_f rfl h42 rfl) rfl ?_
        refine wl_v (o_assign rfl) rfl ?_
        refine wl_nil ?_
        exact wk_then (wk_mid trivial ⟨fb (by first | (simp only [h42, Bool.true_and, Bool.false_and, Bool.true_or, Bool.false_or, Bool.and_true, Bool.and_false, Bool.or_true, Bool.or_false, Bool.not_true, Bool.not_false, cond_true, cond_false, if_true, if_false, reduceIte, Bool.false_eq_true]; done) | (simp only [Bool.true_and, Bool.false_and, Bool.true_or, Bool.false_or, Bool.and_true, Bool.and_false, Bool.or_true, Bool.or_false, Bool.not_true, Bool.not_false, cond_true, cond_false, if_true, if_false, reduceIte, Bool.false_eq_true]; done) | simp [h42]), trivial⟩ (.cons_cons _ (.slnil)))
    refine wc_ret ?_
    refine wk_ret (r_1 rfl rfl) ?_
    exact retv (by rw [name_yes hi0 hend])
  · refine wl_v (o_extract rfl rfl) rfl ?_
    refine wl_nil ?_
    refine wk_then (wc_of_wk ?_)
    refine wc_seq ?_
    refine wc_cond_t rfl rfl ?_
    refine wc_skip ?_
    refine wk_then (wc_of_wk ?_)
    refine wc_block ?_
    refine wc_seq ?_
    refine wc_region ?_
    refine wl_v (o_extract rfl rfl) rfl ?_
    refine wl_v (o_extract rfl rfl) rfl ?_
    refine wl_v (o_assign rfl) rfl ?_
    refine wl_v (o_assign rfl) rfl ?_
    refine wl_nil ?_
    refine wk_then (wc_of_wk ?_)
    refine wc_seq_mid [(0, .string (B (p))), (2, .bool (false)), (3, .int .i64 ((k : Int))), (4, .int .i32 ((c40 : Int))), (6, .pointer (some ⟨b38, 0, none⟩)), (7, .tuple #[.bool (true), .int .i64 ((k : Int)), .int .i32 ((c40 : Int))]), (8, .bool (true)), (9, .int .i64 ((k : Int))), (10, .int .i32 ((c40 : Int))), (11, .int .i32 ((c40 : Int))), (12, .bool (smallS (c40 : Int))), (13, .bool (!(smallS (c40 : Int)))), (14, .bool (!(smallS (c40 : Int)))), (30, .bool (((!(smallS (c40 : Int))) && ((decide (((k : Int)) = (0))) || ((!(digitS (c40 : Int))) && ((!(decide (((c40 : Int)) = (45)))) && (!(decide (((c40 : Int)) = (95))))))))))] [.blk b38 (.stringIter (B p) (k + wd41))] (φ := True) ?_ (fun hm47 => ?_)
    · refine wc_region ?_
      refine wl_v (o_move rfl) rfl ?_
      refine w_call Tryz.call26 rfl (fun w hw => small_c (c40 : Int) w) rfl ?_
      refine wl_v (o_not rfl) rfl ?_
      refine wl_v (o_move rfl) rfl ?_
      refine bsplit (!(smallS (c40 : Int))) (fun h44 => ?_) (fun h44 => ?_)
      · have g44 := h44; try simp only [decide_eq_true_eq, decide_eq_false_iff_not] at g44
        have f44 := h44; try simp only [decide_eq_true_eq, decide_eq_false_iff_not, Bool.and_eq_true, Bool.or_eq_true, Bool.not_eq_true', Bool.not_eq_false', Bool.and_eq_false_iff, Bool.or_eq_false_iff, not_or, Int.not_lt, Int.not_le] at f44
        refine wl_on rfl rfl h44 ?_
        refine wl_v (o_move rfl) rfl ?_
        refine wl_on rfl rfl h44 ?_
        refine wl_v (o_eq rfl rfl) rfl ?_
        refine wl_on rfl rfl h44 ?_
        refine wl_v (o_move rfl) rfl ?_
        refine bsplit (decide (((k : Int)) = (0))) (fun h45 => ?_) (fun h45 => ?_)
        · have g45 := h45; try simp only [decide_eq_true_eq, decide_eq_false_iff_not] at g45
          have f45 := h45; try simp only [decide_eq_true_eq, decide_eq_false_iff_not, Bool.and_eq_true, Bool.or_eq_true, Bool.not_eq_true', Bool.not_eq_false', Bool.and_eq_false_iff, Bool.or_eq_false_iff, not_or, Int.not_lt, Int.not_le] at f45
          refine wl_off rfl rfl h45 rfl ?_
          refine wl_off rfl rfl h45 rfl ?_
          refine wl_off rfl rfl h45 rfl ?_
          refine wl_off rfl rfl h45 rfl ?_
          refine wl_off_u rfl rfl rfl ?_
          refine wl_off_u rfl rfl rfl ?_
          refine wl_off rfl rfl h45 rfl ?_
          refine wl_off rfl rfl h45 rfl ?_
          refine wl_off_u rfl rfl rfl ?_
          refine wl_off_u rfl rfl rfl ?_
          refine wl_off rfl rfl h45 rfl ?_
          refine wl_on rfl rfl h44 ?_
          refine wl_v (o_pick_t rfl h45 rfl) rfl ?_
          refine wl_v (o_pick_t rfl h44 rfl) rfl ?_
          refine wl_nil ?_
          exact wk_then (wk_mid trivial ⟨rfl, rfl, rfl, rfl, rfl, rfl, rfl, rfl, rfl, rfl, rfl, rfl, rfl, fb (by first | (simp only [h44, h45, Bool.true_and, Bool.false_and, Bool.true_or, Bool.false_or, Bool.and_true, Bool.and_false, Bool.or_true, Bool.or_false, Bool.not_true, Bool.not_false, cond_true, cond_false, if_true, if_false, reduceIte, Bool.false_eq_true]; done) | (simp only [Bool.true_and, Bool.false_and, Bool.true_or, Bool.false_or, Bool.and_true, Bool.and_false, Bool.or_true, Bool.or_false, Bool.not_true, Bool.not_false, cond_true, cond_false, if_true, if_false, reduceIte, Bool.false_eq_true]; done) | simp [h44, h45]), trivial⟩ (.cons_cons _ (.slnil)))
        · have g45 := h45; try simp only [decide_eq_true_eq, decide_eq_false_iff_not] at g45
          have f45 := h45; try simp only [decide_eq_true_eq, decide_eq_false_iff_not, Bool.and_eq_true, Bool.or_eq_true, Bool.not_eq_true', Bool.not_eq_false', Bool.and_eq_false_iff, Bool.or_eq_false_iff, not_or, Int.not_lt, Int.not_le] at f45
          refine wl_on rfl rfl h45 ?_
          refine wl_v (o_move rfl) rfl ?_
          refine wl_on rfl rfl h45 ?_
          refine w_call Tryz.call27 rfl (fun w hw => digit_c (c40 : Int) w) rfl ?_
          refine wl_on rfl rfl h45 ?_
          refine wl_v (o_not rfl) rfl ?_
          refine wl_on rfl rfl h45 ?_
          refine wl_v (o_move rfl) rfl ?_
          refine bsplit (!(digitS (c40 : Int))) (fun h46 => ?_) (fun h46 => ?_)
          · have g46 := h46; try simp only [decide_eq_true_eq, decide_eq_false_iff_not] at g46
            have f46 := h46; try simp only [decide_eq_true_eq, decide_eq_false_iff_not, Bool.and_eq_true, Bool.or_eq_true, Bool.not_eq_true', Bool.not_eq_false', Bool.and_eq_false_iff, Bool.or_eq_false_iff, not_or, Int.not_lt, Int.not_le] at f46
            refine wl_on rfl rfl h46 ?_
            refine wl_v (o_move rfl) rfl ?_
            refine wl_on rfl rfl h46 ?_
            refine wl_v (o_ne rfl rfl) rfl ?_
            refine wl_on rfl rfl h45 ?_
            refine wl_v (o_pick_t rfl h46 rfl) rfl ?_
            refine wl_on rfl rfl h45 ?_
            refine wl_v (o_move rfl) rfl ?_
            refine bsplit (!(decide (((c40 : Int)) = (45)))) (fun h47 => ?_) (fun h47 => ?_)
            · have g47 := h47; try simp only [decide_eq_true_eq, decide_eq_false_iff_not] at g47
              have f47 := h47; try simp only [decide_eq_true_eq, decide_eq_false_iff_not, Bool.and_eq_true, Bool.or_eq_true, Bool.not_eq_true', Bool.not_eq_false', Bool.and_eq_false_iff, Bool.or_eq_false_iff, not_or, Int.not_lt, Int.not_le] at f47
              refine wl_on rfl rfl h47 ?_
              refine wl_v (o_move rfl) rfl ?_
              refine wl_on rfl rfl h47 ?_
              refine wl_v (o_ne rfl rfl) rfl ?_
              refine wl_on rfl rfl h45 ?_
              refine wl_v (o_pick_t rfl h47 rfl) rfl ?_
              refine wl_on rfl rfl h44 ?_
              refine wl_v (o_pick_f rfl h45 rfl) rfl ?_
              refine wl_v (o_pick_t rfl h44 rfl) rfl ?_
              refine wl_nil ?_
              exact wk_then (wk_mid trivial ⟨rfl, rfl, rfl, rfl, rfl, rfl, rfl, rfl, rfl, rfl, rfl, rfl, rfl, fb (by first | (simp only [h44, h45, h46, h47, Bool.true_and, Bool.false_and, Bool.true_or, Bool.false_or, Bool.and_true, Bool.and_false, Bool.or_true, Bool.or_false, Bool.not_true, Bool.not_false, cond_true, cond_false, if_true, if_false, reduceIte, Bool.false_eq_true]; done) | (simp only [Bool.true_and, Bool.false_and, Bool.true_or, Bool.false_or, Bool.and_true, Bool.and_false, Bool.or_true, Bool.or_false, Bool.not_true, Bool.not_false, cond_true, cond_false, if_true, if_false, reduceIte, Bool.false_eq_true]; done) | simp [h44, h45, h46, h47]), trivial⟩ (.cons_cons _ (.slnil)))
            · have g47 := h47; try simp only [decide_eq_true_eq, decide_eq_false_iff_not] at g47
              have f47 := h47; try simp only [decide_eq_true_eq, decide_eq_false_iff_not, Bool.and_eq_true, Bool.or_eq_true, Bool.not_eq_true', Bool.not_eq_false', Bool.and_eq_false_iff, Bool.or_eq_false_iff, not_or, Int.not_lt, Int.not_le] at f47
              refine wl_off rfl rfl h47 rfl ?_
              refine wl_off rfl rfl h47 rfl ?_
              refine wl_on rfl rfl h45 ?_
              refine wl_v (o_pick_f rfl h47 rfl) rfl ?_
              refine wl_on rfl rfl h44 ?_
              refine wl_v (o_pick_f rfl h45 rfl) rfl ?_
              refine wl_v (o_pick_t rfl h44 rfl) rfl ?_
              refine wl_nil ?_
              exact wk_then (wk_mid trivial ⟨rfl, rfl, rfl, rfl, rfl, rfl, rfl, rfl, rfl, rfl, rfl, rfl, rfl, fb (by first | (simp only [h44, h45, h46, h47, Bool.true_and, Bool.false_and, Bool.true_or, Bool.false_or, Bool.and_true, Bool.and_false, Bool.or_true, Bool.or_false, Bool.not_true, Bool.not_false, cond_true, cond_false, if_true, if_false, reduceIte, Bool.false_eq_true]; done) | (simp only [Bool.true_and, Bool.false_and, Bool.true_or, Bool.false_or, Bool.and_true, Bool.and_false, Bool.or_true, Bool.or_false, Bool.not_true, Bool.not_false, cond_true, cond_false, if_true, if_false, reduceIte, Bool.false_eq_true]; done) | simp [h44, h45, h46, h47]), trivial⟩ (.cons_cons _ (.slnil)))
          · have g46 := h46; try simp only [decide_eq_true_eq, decide_eq_false_iff_not] at g46
            have f46 := h46; try simp only [decide_eq_true_eq, decide_eq_false_iff_not, Bool.and_eq_true, Bool.or_eq_true, Bool.not_eq_true', Bool.not_eq_false', Bool.and_eq_false_iff, Bool.or_eq_false_iff, not_or, Int.not_lt, Int.not_le] at f46
            refine wl_off rfl rfl h46 rfl ?_
            refine wl_off rfl rfl h46 rfl ?_
            refine wl_on rfl rfl h45 ?_
            refine wl_v (o_pick_f rfl h46 rfl) rfl ?_
            refine wl_on rfl rfl h45 ?_
            refine wl_v (o_move rfl) rfl ?_
            refine wl_off rfl rfl rfl rfl ?_
            refine wl_off rfl rfl rfl rfl ?_
            refine wl_on rfl rfl h45 ?_
            refine wl_v (o_pick_f rfl rfl rfl) rfl ?_
            refine wl_on rfl rfl h44 ?_
            refine wl_v (o_pick_f rfl h45 rfl) rfl ?_
            refine wl_v (o_pick_t rfl h44 rfl) rfl ?_
            refine wl_nil ?_
            exact wk_then (wk_mid trivial ⟨rfl, rfl, rfl, rfl, rfl, rfl, rfl, rfl, rfl, rfl, rfl, rfl, rfl, fb (by first | (simp only [h44, h45, h46, Bool.true_and, Bool.false_and, Bool.true_or, Bool.false_or, Bool.and_true, Bool.and_false, Bool.or_true, Bool.or_false, Bool.not_true, Bool.not_false, cond_true, cond_false, if_true, if_false, reduceIte, Bool.false_eq_true]; done) | (simp only [Bool.true_and, Bool.false_and, Bool.true_or, Bool.false_or, Bool.and_true, Bool.and_false, Bool.or_true, Bool.or_false, Bool.not_true, Bool.not_false, cond_true, cond_false, if_true, if_false, reduceIte, Bool.false_eq_true]; done) | simp [h44, h45, h46]), trivial⟩ (.cons_cons _ (.slnil)))
      · have g44 := h44; try simp only [decide_eq_true_eq, decide_eq_false_iff_not] at g44
        have f44 := h44; try simp only [decide_eq_true_eq, decide_eq_false_iff_not, Bool.and_eq_true, Bool.or_eq_true, Bool.not_eq_true', Bool.not_eq_false', Bool.and_eq_false_iff, Bool.or_eq_false_iff, not_or, Int.not_lt, Int.not_le] at f44
        refine wl_off rfl rfl h44 rfl ?_
        refine wl_off rfl rfl h44 rfl ?_
        refine wl_off rfl rfl h44 rfl ?_
        refine wl_off_u rfl rfl rfl ?_
        refine wl_off_u rfl rfl rfl ?_
        refine wl_off_u rfl rfl rfl ?_
        refine wl_off_u rfl rfl rfl ?_
        refine wl_off_u rfl rfl rfl ?_
        refine wl_off_u rfl rfl rfl ?_
        refine wl_off_u rfl rfl rfl ?_
        refine wl_off_u rfl rfl rfl ?_
        refine wl_off_u rfl rfl rfl ?_
        refine wl_off_u rfl rfl rfl ?_
        refine wl_off_u rfl rfl rfl ?_
        refine wl_off rfl rfl h44 rfl ?_
        refine wl_v (o_pick_f rfl h44 rfl) rfl ?_
        refine wl_nil ?_
        exact wk_then (wk_mid trivial ⟨rfl, rfl, rfl, rfl, rfl, rfl, rfl, rfl, rfl, rfl, rfl, rfl, rfl, fb (by first | (simp only [h44, Bool.true_and, Bool.false_and, Bool.true_or, Bool.false_or, Bool.and_true, Bool.and_false, Bool.or_true, Bool.or_false, Bool.not_true, Bool.not_false, cond_true, cond_false, if_true, if_false, reduceIte, Bool.false_eq_true]; done) | (simp only [Bool.true_and, Bool.false_and, Bool.true_or, Bool.false_or, Bool.and_true, Bool.and_false, Bool.or_true, Bool.or_false, Bool.not_true, Bool.not_false, cond_true, cond_false, if_true, if_false, reduceIte, Bool.false_eq_true]; done) | simp [h44]), trivial⟩ (.cons_cons _ (.slnil)))
    refine wc_cond (b := ((!(smallS (c40 : Int))) && ((decide (((k : Int)) = (0))) || ((!(digitS (c40 : Int))) && ((!(decide (((c40 : Int)) = (45)))) && (!(decide (((c40 : Int)) = (95))))))))) rfl (fun h49 => ?_) (fun h49 => ?_)
    · have g49 := h49; try simp only [decide_eq_true_eq, decide_eq_false_iff_not] at g49
      have f49 := h49; try simp only [decide_eq_true_eq, decide_eq_false_iff_not, Bool.and_eq_true, Bool.or_eq_true, Bool.not_eq_true', Bool.not_eq_false', Bool.and_eq_false_iff, Bool.or_eq_false_iff, not_or, Int.not_lt, Int.not_le] at f49
      refine wc_seq ?_
      refine wc_region ?_
      refine wl_v (o_assign rfl) rfl ?_
      refine wl_nil ?_
      refine wk_then (wc_of_wk ?_)
      refine wc_ret ?_
      refine wk_in_ret ?_
      refine wk_then_ret ?_
      refine wk_in_ret ?_
      refine wk_then_ret ?_
      refine wk_ret (r_1 rfl rfl) ?_
      exact retv (by rw [name_no hi0 hu39 hlu39 hhu39 h49])
    · have g49 := h49; try simp only [decide_eq_true_eq, decide_eq_false_iff_not] at g49
      have f49 := h49; try simp only [decide_eq_true_eq, decide_eq_false_iff_not, Bool.and_eq_true, Bool.or_eq_true, Bool.not_eq_true', Bool.not_eq_false', Bool.and_eq_false_iff, Bool.or_eq_false_iff, not_or, Int.not_lt, Int.not_le] at f49
      refine wc_skip ?_
      refine wk_in_norm ?_
      refine wk_then ?_
      refine wk_some (k + wd41) ?_ ⟨rfl, rfl, rfl, trivial⟩ (.cons_cons _ (.slnil))
      exact name_next hi0 hu39 hlu39 hhu39 h49

theorem id_c (p : List UInt8) (w : World) : Calls Tryz.prog 9 [.string (B p)].toArray w (RetV w (.bool (idS p))) := by
  refine enter0 (n := 21) Tryz.func9 rfl Tryz.ntmps9 rfl ?_
  refine wc_seq ?_
  refine wc_region ?_
  refine wl_v (o_assign rfl) rfl ?_
  refine wl_nil ?_
  refine wk_then (wc_of_wk ?_)
  refine wc_seq ?_
  refine wc_seq ?_
  refine wc_region ?_
  refine wl_v (o_move rfl) rfl ?_
  refine w_range_s Tryz.underlying9 rfl rfl (fun b50 => ?_)
  refine wl_nil ?_
  refine wk_then (wc_of_wk ?_)
  refine wc_block ?_
  refine wc_loop (S := Nat) (fun (k : Nat) => k ≤ p.length ∧ allFrom idCh 0 p = allFrom idCh k (p.drop k)) (fun (k : Nat) => [(0, .string (B (p))), (2, .bool (false)), (6, .pointer (some ⟨b50, 0, none⟩))]) (fun (k : Nat) => [.blk b50 (.stringIter (B p) (k))]) (fun (k : Nat) => p.length - k) (0) ?_ ⟨rfl, rfl, rfl, trivial⟩ (.cons_cons _ (.slnil)) ?_
  · exact ⟨Nat.zero_le _, by simp⟩
  rintro k hi0
  refine wc_seq ?_
  refine wc_region ?_
  refine w_next_s (i := 0) rfl rfl rfl (fun hend => ?_) (fun u51 c52 wd53 hu51 hlu51 hhu51 hwu51 => ?_)
  · refine wl_v (o_extract rfl rfl) rfl ?_
    refine wl_nil ?_
    refine wk_then (wc_of_wk ?_)
    refine wc_seq ?_
    refine wc_cond_f rfl rfl ?_
    refine wc_exit ?_
    refine wk_then_exit ?_
    refine wk_then_exit ?_
    refine wk_in_hit ?_
    refine wk_then (wc_of_wk ?_)
    refine wc_seq_mid [(2, .bool (((decide ((1) ≤ ((p.length : Int)))) && (decide (((p.length : Int)) ≤ (64))))))] [.blk b50 (.stringIter (B p) (k))] (φ := True) ?_ (fun hm54 => ?_)
    · refine wc_region ?_
      refine wl_v (o_move rfl) rfl ?_
      refine wl_v (o_len_s Tryz.underlying9 rfl) rfl ?_
      refine wl_v (o_ge rfl rfl) rfl ?_
      refine wl_v (o_move rfl) rfl ?_
      refine bsplit (decide ((1) ≤ ((p.length : Int)))) (fun h54 => ?_) (fun h54 => ?_)
      · have g54 := h54; try simp only [decide_eq_true_eq, decide_eq_false_iff_not] at g54
        have f54 := h54; try simp only [decide_eq_true_eq, decide_eq_false_iff_not, Bool.and_eq_true, Bool.or_eq_true, Bool.not_eq_true', Bool.not_eq_false', Bool.and_eq_false_iff, Bool.or_eq_false_iff, not_or, Int.not_lt, Int.not_le] at f54
        refine wl_on rfl rfl h54 ?_
        refine wl_v (o_move rfl) rfl ?_
        refine wl_on rfl rfl h54 ?_
        refine wl_v (o_len_s Tryz.underlying9 rfl) rfl ?_
        refine wl_on rfl rfl h54 ?_
        refine wl_v (o_le rfl rfl) rfl ?_
        refine wl_v (o_pick_t rfl h54 rfl) rfl ?_
        refine wl_v (o_assign rfl) rfl ?_
        refine wl_nil ?_
        exact wk_then (wk_mid trivial ⟨fb (by first | (simp only [h54, Bool.true_and, Bool.false_and, Bool.true_or, Bool.false_or, Bool.and_true, Bool.and_false, Bool.or_true, Bool.or_false, Bool.not_true, Bool.not_false, cond_true, cond_false, if_true, if_false, reduceIte, Bool.false_eq_true]; done) | (simp only [Bool.true_and, Bool.false_and, Bool.true_or, Bool.false_or, Bool.and_true, Bool.and_false, Bool.or_true, Bool.or_false, Bool.not_true, Bool.not_false, cond_true, cond_false, if_true, if_false, reduceIte, Bool.false_eq_true]; done) | simp [h54]), trivial⟩ (.cons_cons _ (.slnil)))
      · have g54 := h54; try simp only [decide_eq_true_eq, decide_eq_false_iff_not] at g54
        have f54 := h54; try simp only [decide_eq_true_eq, decide_eq_false_iff_not, Bool.and_eq_true, Bool.or_eq_true, Bool.not_eq_true', Bool.not_eq_false', Bool.and_eq_false_iff, Bool.or_eq_false_iff, not_or, Int.not_lt, Int.not_le] at f54
        refine wl_off rfl rfl h54 rfl ?_
        refine wl_off rfl rfl h54 rfl ?_
        refine wl_off rfl rfl h54 rfl ?_
        refine wl_v (o_pick_f rfl h54 rfl) rfl ?_
        refine wl_v (o_assign rfl) rfl ?_
        refine wl_nil ?_
        exact wk_then (wk_mid trivial ⟨fb (by first | (simp only [h54, Bool.true_and, Bool.false_and, Bool.true_or, Bool.false_or, Bool.and_true, Bool.and_false, Bool.or_true, Bool.or_false, Bool.not_true, Bool.not_false, cond_true, cond_false, if_true, if_false, reduceIte, Bool.false_eq_true]; done) | (simp only [Bool.true_and, Bool.false_and, Bool.true_or, Bool.false_or, Bool.and_true, Bool.and_false, Bool.or_true, Bool.or_false, Bool.not_true, Bool.not_false, cond_true, cond_false, if_true, if_false, reduceIte, Bool.false_eq_true]; done) | simp [h54]), trivial⟩ (.cons_cons _ (.slnil)))
    refine wc_ret ?_
    refine wk_ret (r_1 rfl rfl) ?_
    exact retv (by rw [id_yes hi0 hend])
  · refine wl_v (o_extract rfl rfl) rfl ?_
    refine wl_nil ?_
    refine wk_then (wc_of_wk ?_)
    refine wc_seq ?_
    refine wc_cond_t rfl rfl ?_
    refine wc_skip ?_
    refine wk_then (wc_of_wk ?_)
    refine wc_block ?_
    refine wc_seq ?_
    refine wc_region ?_
    refine wl_v (o_extract rfl rfl) rfl ?_
    refine wl_v (o_assign rfl) rfl ?_
    refine wl_nil ?_
    refine wk_then (wc_of_wk ?_)
    refine wc_seq ?_
    refine wc_region ?_
    refine wl_v (o_move rfl) rfl ?_
    refine w_call Tryz.call30 rfl (fun w hw => letter_c (c52 : Int) w) rfl ?_
    refine wl_v (o_not rfl) rfl ?_
    refine wl_nil ?_
    refine wk_then (wc_of_wk ?_)
    refine wc_cond (b := !(letterS (c52 : Int))) rfl (fun h56 => ?_) (fun h56 => ?_)
    · have g56 := h56; try simp only [decide_eq_true_eq, decide_eq_false_iff_not] at g56
      have f56 := h56; try simp only [decide_eq_true_eq, decide_eq_false_iff_not, Bool.and_eq_true, Bool.or_eq_true, Bool.not_eq_true', Bool.not_eq_false', Bool.and_eq_false_iff, Bool.or_eq_false_iff, not_or, Int.not_lt, Int.not_le] at f56
      refine wc_seq ?_
      refine wc_region ?_
      refine wl_v (o_assign rfl) rfl ?_
      refine wl_nil ?_
      refine wk_then (wc_of_wk ?_)
      refine wc_ret ?_
      refine wk_in_ret ?_
      refine wk_then_ret ?_
      refine wk_in_ret ?_
      refine wk_then_ret ?_
      refine wk_ret (r_1 rfl rfl) ?_
      exact retv (by rw [id_no hi0 hu51 hlu51 hhu51 h56])
    · have g56 := h56; try simp only [decide_eq_true_eq, decide_eq_false_iff_not] at g56
      have f56 := h56; try simp only [decide_eq_true_eq, decide_eq_false_iff_not, Bool.and_eq_true, Bool.or_eq_true, Bool.not_eq_true', Bool.not_eq_false', Bool.and_eq_false_iff, Bool.or_eq_false_iff, not_or, Int.not_lt, Int.not_le] at f56
      refine wc_skip ?_
      refine wk_in_norm ?_
      refine wk_then ?_
      refine wk_some (k + wd53) ?_ ⟨rfl, rfl, rfl, trivial⟩ (.cons_cons _ (.slnil))
      exact id_next hi0 hu51 hlu51 hhu51 h56

end Go.Proofs.YtjkdkmcklocmnaaGreatDoor
