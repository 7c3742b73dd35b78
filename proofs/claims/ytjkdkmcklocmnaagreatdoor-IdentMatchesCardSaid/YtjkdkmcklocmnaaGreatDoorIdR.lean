/-
  Walks, printed by a small program of ours (gsym.py).
-/
import Derived.Test.YtjkdkmcklocmnaaGreatDoorPlE
import Derived.Test.YtjkdkmcklocmnaaGreatDoorIdD
namespace Go.Proofs.YtjkdkmcklocmnaaGreatDoor
open Go Go.RowKit
set_option linter.unusedVariables false
set_option linter.unusedSimpArgs false
set_option maxRecDepth 100000
theorem name_r (p : List UInt8) (hp : p.length ≤ 281474976710656) (w : World) : Calls Tryz.prog 8 [.string (B (p))].toArray w (RetV w (.bool (nameS p))) := by
  refine enter0 (n := 48) Tryz.func8 rfl Tryz.ntmps8 rfl ?_
  refine wc_seq ?_
  refine wc_region ?_
  refine wl_v (o_assign rfl) rfl ?_
  refine wl_nil ?_
  refine wk_then (wc_of_wk ?_)
  refine wc_seq ?_
  refine wc_seq_mid [(0, .string (B (p))), (2, .bool (false)), (17, .bool (((decide (((p.length : Int)) < (1))) || ((decide ((24) < ((p.length : Int)))) || (!(smallS (bat p 0)))))))] [] (φ := True) ?_ (fun hm160 => ?_)
  · refine wc_region ?_
    refine wl_v (o_move rfl) rfl ?_
    refine wl_v (o_len_s Tryz.underlying9 rfl) rfl ?_
    refine wl_v (o_lt rfl rfl) rfl ?_
    refine wl_v (o_move rfl) rfl ?_
    refine bsplit (decide (((p.length : Int)) < (1))) (fun h159 => ?_) (fun h159 => ?_)
    · have g159 := h159; try simp only [decide_eq_true_eq, decide_eq_false_iff_not] at g159
      have f159 := h159; try simp only [decide_eq_true_eq, decide_eq_false_iff_not, Bool.and_eq_true, Bool.or_eq_true, Bool.not_eq_true', Bool.not_eq_false', Bool.and_eq_false_iff, Bool.or_eq_false_iff, not_or, Int.not_lt, Int.not_le] at f159
      refine wl_off rfl rfl h159 rfl ?_
      refine wl_off rfl rfl h159 rfl ?_
      refine wl_off rfl rfl h159 rfl ?_
      refine wl_v (o_pick_t rfl h159 rfl) rfl ?_
      refine wl_v (o_move rfl) rfl ?_
      refine wl_off rfl rfl rfl rfl ?_
      refine wl_off rfl rfl rfl rfl ?_
      refine wl_off rfl rfl rfl rfl ?_
      refine wl_off rfl rfl rfl rfl ?_
      refine wl_v (o_pick_t rfl rfl rfl) rfl ?_
      refine wl_nil ?_
      exact wk_then (wk_mid trivial ⟨rfl, rfl, fb (by first | (simp only [h159, Bool.true_and, Bool.false_and, Bool.true_or, Bool.false_or, Bool.and_true, Bool.and_false, Bool.or_true, Bool.or_false, Bool.not_true, Bool.not_false, cond_true, cond_false, if_true, if_false, reduceIte, Bool.false_eq_true]; done) | (simp only [Bool.true_and, Bool.false_and, Bool.true_or, Bool.false_or, Bool.and_true, Bool.and_false, Bool.or_true, Bool.or_false, Bool.not_true, Bool.not_false, cond_true, cond_false, if_true, if_false, reduceIte, Bool.false_eq_true]; done) | simp [h159]), trivial⟩ .slnil)
    · have g159 := h159; try simp only [decide_eq_true_eq, decide_eq_false_iff_not] at g159
      have f159 := h159; try simp only [decide_eq_true_eq, decide_eq_false_iff_not, Bool.and_eq_true, Bool.or_eq_true, Bool.not_eq_true', Bool.not_eq_false', Bool.and_eq_false_iff, Bool.or_eq_false_iff, not_or, Int.not_lt, Int.not_le] at f159
      refine wl_on rfl rfl h159 ?_
      refine wl_v (o_move rfl) rfl ?_
      refine wl_on rfl rfl h159 ?_
      refine wl_v (o_len_s Tryz.underlying9 rfl) rfl ?_
      refine wl_on rfl rfl h159 ?_
      refine wl_v (o_gt rfl rfl) rfl ?_
      refine wl_v (o_pick_f rfl h159 rfl) rfl ?_
      refine wl_v (o_move rfl) rfl ?_
      refine bsplit (decide ((24) < ((p.length : Int)))) (fun h160 => ?_) (fun h160 => ?_)
      · have g160 := h160; try simp only [decide_eq_true_eq, decide_eq_false_iff_not] at g160
        have f160 := h160; try simp only [decide_eq_true_eq, decide_eq_false_iff_not, Bool.and_eq_true, Bool.or_eq_true, Bool.not_eq_true', Bool.not_eq_false', Bool.and_eq_false_iff, Bool.or_eq_false_iff, not_or, Int.not_lt, Int.not_le] at f160
        refine wl_off rfl rfl h160 rfl ?_
        refine wl_off rfl rfl h160 rfl ?_
        refine wl_off rfl rfl h160 rfl ?_
        refine wl_off rfl rfl h160 rfl ?_
        refine wl_v (o_pick_t rfl h160 rfl) rfl ?_
        refine wl_nil ?_
        exact wk_then (wk_mid trivial ⟨rfl, rfl, fb (by first | (simp only [h159, h160, Bool.true_and, Bool.false_and, Bool.true_or, Bool.false_or, Bool.and_true, Bool.and_false, Bool.or_true, Bool.or_false, Bool.not_true, Bool.not_false, cond_true, cond_false, if_true, if_false, reduceIte, Bool.false_eq_true]; done) | (simp only [Bool.true_and, Bool.false_and, Bool.true_or, Bool.false_or, Bool.and_true, Bool.and_false, Bool.or_true, Bool.or_false, Bool.not_true, Bool.not_false, cond_true, cond_false, if_true, if_false, reduceIte, Bool.false_eq_true]; done) | simp [h159, h160]), trivial⟩ .slnil)
      · have g160 := h160; try simp only [decide_eq_true_eq, decide_eq_false_iff_not] at g160
        have f160 := h160; try simp only [decide_eq_true_eq, decide_eq_false_iff_not, Bool.and_eq_true, Bool.or_eq_true, Bool.not_eq_true', Bool.not_eq_false', Bool.and_eq_false_iff, Bool.or_eq_false_iff, not_or, Int.not_lt, Int.not_le] at f160
        refine wl_on rfl rfl h160 ?_
        refine wl_v (o_move rfl) rfl ?_
        refine wl_on rfl rfl h160 ?_
        refine wl_v (o_index_b Tryz.underlying9 rfl rfl (by first | omega | (simp; omega) | (simp at *; omega)) (by first | omega | (simp; omega) | (simp at *; omega))) rfl ?_
        refine wl_on rfl rfl h160 ?_
        refine w_call Tryz.call28 rfl (fun w hw => small_r (bat p 0) w) rfl ?_
        refine wl_on rfl rfl h160 ?_
        refine wl_v (o_not rfl) rfl ?_
        refine wl_v (o_pick_f rfl h160 rfl) rfl ?_
        refine wl_nil ?_
        exact wk_then (wk_mid trivial ⟨rfl, rfl, fb (by first | (simp only [h159, h160, Bool.true_and, Bool.false_and, Bool.true_or, Bool.false_or, Bool.and_true, Bool.and_false, Bool.or_true, Bool.or_false, Bool.not_true, Bool.not_false, cond_true, cond_false, if_true, if_false, reduceIte, Bool.false_eq_true]; done) | (simp only [Bool.true_and, Bool.false_and, Bool.true_or, Bool.false_or, Bool.and_true, Bool.and_false, Bool.or_true, Bool.or_false, Bool.not_true, Bool.not_false, cond_true, cond_false, if_true, if_false, reduceIte, Bool.false_eq_true]; done) | simp [h159, h160]), trivial⟩ .slnil)
  refine wc_cond (b := ((decide (((p.length : Int)) < (1))) || ((decide ((24) < ((p.length : Int)))) || (!(smallS (bat p 0)))))) rfl (fun h162 => ?_) (fun h162 => ?_)
  · have g162 := h162; try simp only [decide_eq_true_eq, decide_eq_false_iff_not] at g162
    have f162 := h162; try simp only [decide_eq_true_eq, decide_eq_false_iff_not, Bool.and_eq_true, Bool.or_eq_true, Bool.not_eq_true', Bool.not_eq_false', Bool.and_eq_false_iff, Bool.or_eq_false_iff, not_or, Int.not_lt, Int.not_le] at f162
    refine wc_seq ?_
    refine wc_region ?_
    refine wl_v (o_assign rfl) rfl ?_
    refine wl_nil ?_
    refine wk_then (wc_of_wk ?_)
    refine wc_ret ?_
    refine wk_then_ret ?_
    refine wk_ret (r_1 rfl rfl) ?_
    exact retv (by rw [nameR_no h162])
  · have g162 := h162; try simp only [decide_eq_true_eq, decide_eq_false_iff_not] at g162
    have f162 := h162; try simp only [decide_eq_true_eq, decide_eq_false_iff_not, Bool.and_eq_true, Bool.or_eq_true, Bool.not_eq_true', Bool.not_eq_false', Bool.and_eq_false_iff, Bool.or_eq_false_iff, not_or, Int.not_lt, Int.not_le] at f162
    refine wc_skip ?_
    refine wk_then (wc_of_wk ?_)
    refine wc_seq ?_
    refine wc_seq ?_
    refine wc_region ?_
    refine wl_v (o_assign rfl) rfl ?_
    refine wl_nil ?_
    refine wk_then (wc_of_wk ?_)
    refine wc_block ?_
    refine wc_loop (S := Nat) (fun (k : Nat) => 1 ≤ k ∧ (k ≤ p.length ∧ nameS p = allFrom nameCh k (p.drop k))) (fun (k : Nat) => [(3, .int .i64 ((k : Int))), (0, .string (B (p)))]) (fun (k : Nat) => []) (fun (k : Nat) => p.length - k) (1) ?_ ⟨fi (by first | rfl | (simp; done) | omega | (simp; omega)), rfl, trivial⟩ .slnil ?_
    · exact ⟨Nat.le_refl _, nameR_0 (by simp [h162])⟩
    rintro k hi0
    have hk1 := hi0.1
    refine wc_seq ?_
    refine wc_seq ?_
    refine wc_region ?_
    refine wl_v (o_move rfl) rfl ?_
    refine wl_v (o_move rfl) rfl ?_
    refine wl_v (o_len_s Tryz.underlying9 rfl) rfl ?_
    refine wl_v (o_lt rfl rfl) rfl ?_
    refine wl_nil ?_
    refine wk_then (wc_of_wk ?_)
    refine wc_cond (b := decide (((k : Int)) < ((p.length : Int)))) rfl (fun h163 => ?_) (fun h163 => ?_)
    · have g163 := h163; try simp only [decide_eq_true_eq, decide_eq_false_iff_not] at g163
      have f163 := h163; try simp only [decide_eq_true_eq, decide_eq_false_iff_not, Bool.and_eq_true, Bool.or_eq_true, Bool.not_eq_true', Bool.not_eq_false', Bool.and_eq_false_iff, Bool.or_eq_false_iff, not_or, Int.not_lt, Int.not_le] at f163
      refine wc_skip ?_
      refine wk_then (wc_of_wk ?_)
      refine wc_seq ?_
      refine wc_block ?_
      refine wc_seq_mid [(0, .string (B (p))), (3, .int .i64 ((k : Int))), (18, .int .i64 ((k : Int))), (19, .string (B (p))), (20, .int .i64 ((p.length : Int))), (21, .bool (decide (((k : Int)) < ((p.length : Int))))), (24, .string (B (p))), (25, .int .i64 ((k : Int))), (26, .int .u8 (bat p (k : Int))), (27, .bool (smallS (bat p (k : Int)))), (28, .bool (!(smallS (bat p (k : Int))))), (29, .bool (!(smallS (bat p (k : Int))))), (35, .bool (((!(smallS (bat p (k : Int)))) && (!(digitS (bat p (k : Int))))))), (36, .bool (((!(smallS (bat p (k : Int)))) && (!(digitS (bat p (k : Int))))))), (41, .bool (((!(smallS (bat p (k : Int)))) && ((!(digitS (bat p (k : Int)))) && (!(decide ((bat p (k : Int)) = (45)))))))), (42, .bool (((!(smallS (bat p (k : Int)))) && ((!(digitS (bat p (k : Int)))) && (!(decide ((bat p (k : Int)) = (45)))))))), (47, .bool (((!(smallS (bat p (k : Int)))) && ((!(digitS (bat p (k : Int)))) && ((!(decide ((bat p (k : Int)) = (45)))) && (!(decide ((bat p (k : Int)) = (95)))))))))] [] (φ := True) ?_ (fun hm166 => ?_)
      · refine wc_region ?_
        refine wl_v (o_move rfl) rfl ?_
        refine wl_v (o_move rfl) rfl ?_
        refine wl_v (o_index_b Tryz.underlying9 rfl rfl (by first | omega | (simp; omega) | (simp at *; omega)) (by first | omega | (simp; omega) | (simp at *; omega))) rfl ?_
        refine w_call Tryz.call28 rfl (fun w hw => small_r (bat p (k : Int)) w) rfl ?_
        refine wl_v (o_not rfl) rfl ?_
        refine wl_v (o_move rfl) rfl ?_
        refine bsplit (!(smallS (bat p (k : Int)))) (fun h164 => ?_) (fun h164 => ?_)
        · have g164 := h164; try simp only [decide_eq_true_eq, decide_eq_false_iff_not] at g164
          have f164 := h164; try simp only [decide_eq_true_eq, decide_eq_false_iff_not, Bool.and_eq_true, Bool.or_eq_true, Bool.not_eq_true', Bool.not_eq_false', Bool.and_eq_false_iff, Bool.or_eq_false_iff, not_or, Int.not_lt, Int.not_le] at f164
          refine wl_on rfl rfl h164 ?_
          refine wl_v (o_move rfl) rfl ?_
          refine wl_on rfl rfl h164 ?_
          refine wl_v (o_move rfl) rfl ?_
          refine wl_on rfl rfl h164 ?_
          refine wl_v (o_index_b Tryz.underlying9 rfl rfl (by first | omega | (simp; omega) | (simp at *; omega)) (by first | omega | (simp; omega) | (simp at *; omega))) rfl ?_
          refine wl_on rfl rfl h164 ?_
          refine w_call Tryz.call29 rfl (fun w hw => digit_r (bat p (k : Int)) w) rfl ?_
          refine wl_on rfl rfl h164 ?_
          refine wl_v (o_not rfl) rfl ?_
          refine wl_v (o_pick_t rfl h164 rfl) rfl ?_
          refine wl_v (o_move rfl) rfl ?_
          refine bsplit (!(digitS (bat p (k : Int)))) (fun h165 => ?_) (fun h165 => ?_)
          · have g165 := h165; try simp only [decide_eq_true_eq, decide_eq_false_iff_not] at g165
            have f165 := h165; try simp only [decide_eq_true_eq, decide_eq_false_iff_not, Bool.and_eq_true, Bool.or_eq_true, Bool.not_eq_true', Bool.not_eq_false', Bool.and_eq_false_iff, Bool.or_eq_false_iff, not_or, Int.not_lt, Int.not_le] at f165
            refine wl_on rfl rfl h165 ?_
            refine wl_v (o_move rfl) rfl ?_
            refine wl_on rfl rfl h165 ?_
            refine wl_v (o_move rfl) rfl ?_
            refine wl_on rfl rfl h165 ?_
            refine wl_v (o_index_b Tryz.underlying9 rfl rfl (by first | omega | (simp; omega) | (simp at *; omega)) (by first | omega | (simp; omega) | (simp at *; omega))) rfl ?_
            refine wl_on rfl rfl h165 ?_
            refine wl_v (o_ne rfl rfl) rfl ?_
            refine wl_v (o_pick_t rfl h165 rfl) rfl ?_
            refine wl_v (o_move rfl) rfl ?_
            refine bsplit (!(decide ((bat p (k : Int)) = (45)))) (fun h166 => ?_) (fun h166 => ?_)
            · have g166 := h166; try simp only [decide_eq_true_eq, decide_eq_false_iff_not] at g166
              have f166 := h166; try simp only [decide_eq_true_eq, decide_eq_false_iff_not, Bool.and_eq_true, Bool.or_eq_true, Bool.not_eq_true', Bool.not_eq_false', Bool.and_eq_false_iff, Bool.or_eq_false_iff, not_or, Int.not_lt, Int.not_le] at f166
              refine wl_on rfl rfl h166 ?_
              refine wl_v (o_move rfl) rfl ?_
              refine wl_on rfl rfl h166 ?_
              refine wl_v (o_move rfl) rfl ?_
              refine wl_on rfl rfl h166 ?_
              refine wl_v (o_index_b Tryz.underlying9 rfl rfl (by first | omega | (simp; omega) | (simp at *; omega)) (by first | omega | (simp; omega) | (simp at *; omega))) rfl ?_
              refine wl_on rfl rfl h166 ?_
              refine wl_v (o_ne rfl rfl) rfl ?_
              refine wl_v (o_pick_t rfl h166 rfl) rfl ?_
              refine wl_nil ?_
              exact wk_then (wk_mid trivial ⟨rfl, rfl, rfl, rfl, rfl, rfl, rfl, rfl, rfl, rfl, rfl, rfl, fb (by first | (simp only [h162, h163, h164, h165, h166, Bool.true_and, Bool.false_and, Bool.true_or, Bool.false_or, Bool.and_true, Bool.and_false, Bool.or_true, Bool.or_false, Bool.not_true, Bool.not_false, cond_true, cond_false, if_true, if_false, reduceIte, Bool.false_eq_true]; done) | (simp only [Bool.true_and, Bool.false_and, Bool.true_or, Bool.false_or, Bool.and_true, Bool.and_false, Bool.or_true, Bool.or_false, Bool.not_true, Bool.not_false, cond_true, cond_false, if_true, if_false, reduceIte, Bool.false_eq_true]; done) | simp [h162, h163, h164, h165, h166]), fb (by first | (simp only [h162, h163, h164, h165, h166, Bool.true_and, Bool.false_and, Bool.true_or, Bool.false_or, Bool.and_true, Bool.and_false, Bool.or_true, Bool.or_false, Bool.not_true, Bool.not_false, cond_true, cond_false, if_true, if_false, reduceIte, Bool.false_eq_true]; done) | (simp only [Bool.true_and, Bool.false_and, Bool.true_or, Bool.false_or, Bool.and_true, Bool.and_false, Bool.or_true, Bool.or_false, Bool.not_true, Bool.not_false, cond_true, cond_false, if_true, if_false, reduceIte, Bool.false_eq_true]; done) | simp [h162, h163, h164, h165, h166]), fb (by first | (simp only [h162, h163, h164, h165, h166, Bool.true_and, Bool.false_and, Bool.true_or, Bool.false_or, Bool.and_true, Bool.and_false, Bool.or_true, Bool.or_false, Bool.not_true, Bool.not_false, cond_true, cond_false, if_true, if_false, reduceIte, Bool.false_eq_true]; done) | (simp only [Bool.true_and, Bool.false_and, Bool.true_or, Bool.false_or, Bool.and_true, Bool.and_false, Bool.or_true, Bool.or_false, Bool.not_true, Bool.not_false, cond_true, cond_false, if_true, if_false, reduceIte, Bool.false_eq_true]; done) | simp [h162, h163, h164, h165, h166]), fb (by first | (simp only [h162, h163, h164, h165, h166, Bool.true_and, Bool.false_and, Bool.true_or, Bool.false_or, Bool.and_true, Bool.and_false, Bool.or_true, Bool.or_false, Bool.not_true, Bool.not_false, cond_true, cond_false, if_true, if_false, reduceIte, Bool.false_eq_true]; done) | (simp only [Bool.true_and, Bool.false_and, Bool.true_or, Bool.false_or, Bool.and_true, Bool.and_false, Bool.or_true, Bool.or_false, Bool.not_true, Bool.not_false, cond_true, cond_false, if_true, if_false, reduceIte, Bool.false_eq_true]; done) | simp [h162, h163, h164, h165, h166]), fb (by first | (simp only [h162, h163, h164, h165, h166, Bool.true_and, Bool.false_and, Bool.true_or, Bool.false_or, Bool.and_true, Bool.and_false, Bool.or_true, Bool.or_false, Bool.not_true, Bool.not_false, cond_true, cond_false, if_true, if_false, reduceIte, Bool.false_eq_true]; done) | (simp only [Bool.true_and, Bool.false_and, Bool.true_or, Bool.false_or, Bool.and_true, Bool.and_false, Bool.or_true, Bool.or_false, Bool.not_true, Bool.not_false, cond_true, cond_false, if_true, if_false, reduceIte, Bool.false_eq_true]; done) | simp [h162, h163, h164, h165, h166]), trivial⟩ .slnil)
            · have g166 := h166; try simp only [decide_eq_true_eq, decide_eq_false_iff_not] at g166
              have f166 := h166; try simp only [decide_eq_true_eq, decide_eq_false_iff_not, Bool.and_eq_true, Bool.or_eq_true, Bool.not_eq_true', Bool.not_eq_false', Bool.and_eq_false_iff, Bool.or_eq_false_iff, not_or, Int.not_lt, Int.not_le] at f166
              refine wl_off rfl rfl h166 rfl ?_
              refine wl_off rfl rfl h166 rfl ?_
              refine wl_off rfl rfl h166 rfl ?_
              refine wl_off rfl rfl h166 rfl ?_
              refine wl_v (o_pick_f rfl h166 rfl) rfl ?_
              refine wl_nil ?_
              exact wk_then (wk_mid trivial ⟨rfl, rfl, rfl, rfl, rfl, rfl, rfl, rfl, rfl, rfl, rfl, rfl, fb (by first | (simp only [h162, h163, h164, h165, h166, Bool.true_and, Bool.false_and, Bool.true_or, Bool.false_or, Bool.and_true, Bool.and_false, Bool.or_true, Bool.or_false, Bool.not_true, Bool.not_false, cond_true, cond_false, if_true, if_false, reduceIte, Bool.false_eq_true]; done) | (simp only [Bool.true_and, Bool.false_and, Bool.true_or, Bool.false_or, Bool.and_true, Bool.and_false, Bool.or_true, Bool.or_false, Bool.not_true, Bool.not_false, cond_true, cond_false, if_true, if_false, reduceIte, Bool.false_eq_true]; done) | simp [h162, h163, h164, h165, h166]), fb (by first | (simp only [h162, h163, h164, h165, h166, Bool.true_and, Bool.false_and, Bool.true_or, Bool.false_or, Bool.and_true, Bool.and_false, Bool.or_true, Bool.or_false, Bool.not_true, Bool.not_false, cond_true, cond_false, if_true, if_false, reduceIte, Bool.false_eq_true]; done) | (simp only [Bool.true_and, Bool.false_and, Bool.true_or, Bool.false_or, Bool.and_true, Bool.and_false, Bool.or_true, Bool.or_false, Bool.not_true, Bool.not_false, cond_true, cond_false, if_true, if_false, reduceIte, Bool.false_eq_true]; done) | simp [h162, h163, h164, h165, h166]), fb (by first | (simp only [h162, h163, h164, h165, h166, Bool.true_and, Bool.false_and, Bool.true_or, Bool.false_or, Bool.and_true, Bool.and_false, Bool.or_true, Bool.or_false, Bool.not_true, Bool.not_false, cond_true, cond_false, if_true, if_false, reduceIte, Bool.false_eq_true]; done) | (simp only [Bool.true_and, Bool.false_and, Bool.true_or, Bool.false_or, Bool.and_true, Bool.and_false, Bool.or_true, Bool.or_false, Bool.not_true, Bool.not_false, cond_true, cond_false, if_true, if_false, reduceIte, Bool.false_eq_true]; done) | simp [h162, h163, h164, h165, h166]), fb (by first | (simp only [h162, h163, h164, h165, h166, Bool.true_and, Bool.false_and, Bool.true_or, Bool.false_or, Bool.and_true, Bool.and_false, Bool.or_true, Bool.or_false, Bool.not_true, Bool.not_false, cond_true, cond_false, if_true, if_false, reduceIte, Bool.false_eq_true]; done) | (simp only [Bool.true_and, Bool.false_and, Bool.true_or, Bool.false_or, Bool.and_true, Bool.and_false, Bool.or_true, Bool.or_false, Bool.not_true, Bool.not_false, cond_true, cond_false, if_true, if_false, reduceIte, Bool.false_eq_true]; done) | simp [h162, h163, h164, h165, h166]), fb (by first | (simp only [h162, h163, h164, h165, h166, Bool.true_and, Bool.false_and, Bool.true_or, Bool.false_or, Bool.and_true, Bool.and_false, Bool.or_true, Bool.or_false, Bool.not_true, Bool.not_false, cond_true, cond_false, if_true, if_false, reduceIte, Bool.false_eq_true]; done) | (simp only [Bool.true_and, Bool.false_and, Bool.true_or, Bool.false_or, Bool.and_true, Bool.and_false, Bool.or_true, Bool.or_false, Bool.not_true, Bool.not_false, cond_true, cond_false, if_true, if_false, reduceIte, Bool.false_eq_true]; done) | simp [h162, h163, h164, h165, h166]), trivial⟩ .slnil)
          · have g165 := h165; try simp only [decide_eq_true_eq, decide_eq_false_iff_not] at g165
            have f165 := h165; try simp only [decide_eq_true_eq, decide_eq_false_iff_not, Bool.and_eq_true, Bool.or_eq_true, Bool.not_eq_true', Bool.not_eq_false', Bool.and_eq_false_iff, Bool.or_eq_false_iff, not_or, Int.not_lt, Int.not_le] at f165
            refine wl_off rfl rfl h165 rfl ?_
            refine wl_off rfl rfl h165 rfl ?_
            refine wl_off rfl rfl h165 rfl ?_
            refine wl_off rfl rfl h165 rfl ?_
            refine wl_v (o_pick_f rfl h165 rfl) rfl ?_
            refine wl_v (o_move rfl) rfl ?_
            refine wl_off rfl rfl rfl rfl ?_
            refine wl_off rfl rfl rfl rfl ?_
            refine wl_off rfl rfl rfl rfl ?_
            refine wl_off rfl rfl rfl rfl ?_
            refine wl_v (o_pick_f rfl rfl rfl) rfl ?_
            refine wl_nil ?_
            exact wk_then (wk_mid trivial ⟨rfl, rfl, rfl, rfl, rfl, rfl, rfl, rfl, rfl, rfl, rfl, rfl, fb (by first | (simp only [h162, h163, h164, h165, Bool.true_and, Bool.false_and, Bool.true_or, Bool.false_or, Bool.and_true, Bool.and_false, Bool.or_true, Bool.or_false, Bool.not_true, Bool.not_false, cond_true, cond_false, if_true, if_false, reduceIte, Bool.false_eq_true]; done) | (simp only [Bool.true_and, Bool.false_and, Bool.true_or, Bool.false_or, Bool.and_true, Bool.and_false, Bool.or_true, Bool.or_false, Bool.not_true, Bool.not_false, cond_true, cond_false, if_true, if_false, reduceIte, Bool.false_eq_true]; done) | simp [h162, h163, h164, h165]), fb (by first | (simp only [h162, h163, h164, h165, Bool.true_and, Bool.false_and, Bool.true_or, Bool.false_or, Bool.and_true, Bool.and_false, Bool.or_true, Bool.or_false, Bool.not_true, Bool.not_false, cond_true, cond_false, if_true, if_false, reduceIte, Bool.false_eq_true]; done) | (simp only [Bool.true_and, Bool.false_and, Bool.true_or, Bool.false_or, Bool.and_true, Bool.and_false, Bool.or_true, Bool.or_false, Bool.not_true, Bool.not_false, cond_true, cond_false, if_true, if_false, reduceIte, Bool.false_eq_true]; done) | simp [h162, h163, h164, h165]), fb (by first | (simp only [h162, h163, h164, h165, Bool.true_and, Bool.false_and, Bool.true_or, Bool.false_or, Bool.and_true, Bool.and_false, Bool.or_true, Bool.or_false, Bool.not_true, Bool.not_false, cond_true, cond_false, if_true, if_false, reduceIte, Bool.false_eq_true]; done) | (simp only [Bool.true_and, Bool.false_and, Bool.true_or, Bool.false_or, Bool.and_true, Bool.and_false, Bool.or_true, Bool.or_false, Bool.not_true, Bool.not_false, cond_true, cond_false, if_true, if_false, reduceIte, Bool.false_eq_true]; done) | simp [h162, h163, h164, h165]), fb (by first | (simp only [h162, h163, h164, h165, Bool.true_and, Bool.false_and, Bool.true_or, Bool.false_or, Bool.and_true, Bool.and_false, Bool.or_true, Bool.or_false, Bool.not_true, Bool.not_false, cond_true, cond_false, if_true, if_false, reduceIte, Bool.false_eq_true]; done) | (simp only [Bool.true_and, Bool.false_and, Bool.true_or, Bool.false_or, Bool.and_true, Bool.and_false, Bool.or_true, Bool.or_false, Bool.not_true, Bool.not_false, cond_true, cond_false, if_true, if_false, reduceIte, Bool.false_eq_true]; done) | simp [h162, h163, h164, h165]), fb (by first | (simp only [h162, h163, h164, h165, Bool.true_and, Bool.false_and, Bool.true_or, Bool.false_or, Bool.and_true, Bool.and_false, Bool.or_true, Bool.or_false, Bool.not_true, Bool.not_false, cond_true, cond_false, if_true, if_false, reduceIte, Bool.false_eq_true]; done) | (simp only [Bool.true_and, Bool.false_and, Bool.true_or, Bool.false_or, Bool.and_true, Bool.and_false, Bool.or_true, Bool.or_false, Bool.not_true, Bool.not_false, cond_true, cond_false, if_true, if_false, reduceIte, Bool.false_eq_true]; done) | simp [h162, h163, h164, h165]), trivial⟩ .slnil)
        · have g164 := h164; try simp only [decide_eq_true_eq, decide_eq_false_iff_not] at g164
          have f164 := h164; try simp only [decide_eq_true_eq, decide_eq_false_iff_not, Bool.and_eq_true, Bool.or_eq_true, Bool.not_eq_true', Bool.not_eq_false', Bool.and_eq_false_iff, Bool.or_eq_false_iff, not_or, Int.not_lt, Int.not_le] at f164
          refine wl_off rfl rfl h164 rfl ?_
          refine wl_off rfl rfl h164 rfl ?_
          refine wl_off rfl rfl h164 rfl ?_
          refine wl_off rfl rfl h164 rfl ?_
          refine wl_off rfl rfl h164 rfl ?_
          refine wl_v (o_pick_f rfl h164 rfl) rfl ?_
          refine wl_v (o_move rfl) rfl ?_
          refine wl_off rfl rfl rfl rfl ?_
          refine wl_off rfl rfl rfl rfl ?_
          refine wl_off rfl rfl rfl rfl ?_
          refine wl_off rfl rfl rfl rfl ?_
          refine wl_v (o_pick_f rfl rfl rfl) rfl ?_
          refine wl_v (o_move rfl) rfl ?_
          refine wl_off rfl rfl rfl rfl ?_
          refine wl_off rfl rfl rfl rfl ?_
          refine wl_off rfl rfl rfl rfl ?_
          refine wl_off rfl rfl rfl rfl ?_
          refine wl_v (o_pick_f rfl rfl rfl) rfl ?_
          refine wl_nil ?_
          exact wk_then (wk_mid trivial ⟨rfl, rfl, rfl, rfl, rfl, rfl, rfl, rfl, rfl, rfl, rfl, rfl, fb (by first | (simp only [h162, h163, h164, Bool.true_and, Bool.false_and, Bool.true_or, Bool.false_or, Bool.and_true, Bool.and_false, Bool.or_true, Bool.or_false, Bool.not_true, Bool.not_false, cond_true, cond_false, if_true, if_false, reduceIte, Bool.false_eq_true]; done) | (simp only [Bool.true_and, Bool.false_and, Bool.true_or, Bool.false_or, Bool.and_true, Bool.and_false, Bool.or_true, Bool.or_false, Bool.not_true, Bool.not_false, cond_true, cond_false, if_true, if_false, reduceIte, Bool.false_eq_true]; done) | simp [h162, h163, h164]), fb (by first | (simp only [h162, h163, h164, Bool.true_and, Bool.false_and, Bool.true_or, Bool.false_or, Bool.and_true, Bool.and_false, Bool.or_true, Bool.or_false, Bool.not_true, Bool.not_false, cond_true, cond_false, if_true, if_false, reduceIte, Bool.false_eq_true]; done) | (simp only [Bool.true_and, Bool.false_and, Bool.true_or, Bool.false_or, Bool.and_true, Bool.and_false, Bool.or_true, Bool.or_false, Bool.not_true, Bool.not_false, cond_true, cond_false, if_true, if_false, reduceIte, Bool.false_eq_true]; done) | simp [h162, h163, h164]), fb (by first | (simp only [h162, h163, h164, Bool.true_and, Bool.false_and, Bool.true_or, Bool.false_or, Bool.and_true, Bool.and_false, Bool.or_true, Bool.or_false, Bool.not_true, Bool.not_false, cond_true, cond_false, if_true, if_false, reduceIte, Bool.false_eq_true]; done) | (simp only [Bool.true_and, Bool.false_and, Bool.true_or, Bool.false_or, Bool.and_true, Bool.and_false, Bool.or_true, Bool.or_false, Bool.not_true, Bool.not_false, cond_true, cond_false, if_true, if_false, reduceIte, Bool.false_eq_true]; done) | simp [h162, h163, h164]), fb (by first | (simp only [h162, h163, h164, Bool.true_and, Bool.false_and, Bool.true_or, Bool.false_or, Bool.and_true, Bool.and_false, Bool.or_true, Bool.or_false, Bool.not_true, Bool.not_false, cond_true, cond_false, if_true, if_false, reduceIte, Bool.false_eq_true]; done) | (simp only [Bool.true_and, Bool.false_and, Bool.true_or, Bool.false_or, Bool.and_true, Bool.and_false, Bool.or_true, Bool.or_false, Bool.not_true, Bool.not_false, cond_true, cond_false, if_true, if_false, reduceIte, Bool.false_eq_true]; done) | simp [h162, h163, h164]), fb (by first | (simp only [h162, h163, h164, Bool.true_and, Bool.false_and, Bool.true_or, Bool.false_or, Bool.and_true, Bool.and_false, Bool.or_true, Bool.or_false, Bool.not_true, Bool.not_false, cond_true, cond_false, if_true, if_false, reduceIte, Bool.false_eq_true]; done) | (simp only [Bool.true_and, Bool.false_and, Bool.true_or, Bool.false_or, Bool.and_true, Bool.and_false, Bool.or_true, Bool.or_false, Bool.not_true, Bool.not_false, cond_true, cond_false, if_true, if_false, reduceIte, Bool.false_eq_true]; done) | simp [h162, h163, h164]), trivial⟩ .slnil)
      refine wc_cond (b := ((!(smallS (bat p (k : Int)))) && ((!(digitS (bat p (k : Int)))) && ((!(decide ((bat p (k : Int)) = (45)))) && (!(decide ((bat p (k : Int)) = (95)))))))) rfl (fun h168 => ?_) (fun h168 => ?_)
      · have g168 := h168; try simp only [decide_eq_true_eq, decide_eq_false_iff_not] at g168
        have f168 := h168; try simp only [decide_eq_true_eq, decide_eq_false_iff_not, Bool.and_eq_true, Bool.or_eq_true, Bool.not_eq_true', Bool.not_eq_false', Bool.and_eq_false_iff, Bool.or_eq_false_iff, not_or, Int.not_lt, Int.not_le] at f168
        refine wc_seq ?_
        refine wc_region ?_
        refine wl_v (o_assign rfl) rfl ?_
        refine wl_nil ?_
        refine wk_then (wc_of_wk ?_)
        refine wc_ret ?_
        refine wk_in_ret ?_
        refine wk_then_ret ?_
        refine wk_then_ret ?_
        refine wk_in_ret ?_
        refine wk_then_ret ?_
        refine wk_ret (r_1 rfl rfl) ?_
        exact retv (by rw [at_no (nameCh_pos hi0.1) hi0.2 g163 (by simp only [nameT1]; revert h168; cases smallS (bat p ↑k) <;> cases digitS (bat p ↑k) <;> simp)])
      · have g168 := h168; try simp only [decide_eq_true_eq, decide_eq_false_iff_not] at g168
        have f168 := h168; try simp only [decide_eq_true_eq, decide_eq_false_iff_not, Bool.and_eq_true, Bool.or_eq_true, Bool.not_eq_true', Bool.not_eq_false', Bool.and_eq_false_iff, Bool.or_eq_false_iff, not_or, Int.not_lt, Int.not_le] at f168
        refine wc_skip ?_
        refine wk_in_norm ?_
        refine wk_then (wc_of_wk ?_)
        refine wc_region ?_
        refine wl_v (o_move rfl) rfl ?_
        refine wl_v (o_add rfl rfl (IntWalk.i64_in _ (by omega))) rfl ?_
        refine wl_v (o_assign rfl) rfl ?_
        refine wl_nil ?_
        refine wk_then ?_
        refine wk_some (k + 1) ?_ ⟨fi (by first | rfl | (simp; done) | omega | (simp; omega)), rfl, trivial⟩ .slnil
        exact ⟨⟨by omega, at_next (nameCh_pos hi0.1) hi0.2 g163 (by simp only [nameT1]; revert h168; cases smallS (bat p ↑k) <;> cases digitS (bat p ↑k) <;> simp <;> omega)⟩, by omega⟩
    · have g163 := h163; try simp only [decide_eq_true_eq, decide_eq_false_iff_not] at g163
      have f163 := h163; try simp only [decide_eq_true_eq, decide_eq_false_iff_not, Bool.and_eq_true, Bool.or_eq_true, Bool.not_eq_true', Bool.not_eq_false', Bool.and_eq_false_iff, Bool.or_eq_false_iff, not_or, Int.not_lt, Int.not_le] at f163
      refine wc_exit ?_
      refine wk_then_exit ?_
      refine wk_then_exit ?_
      refine wk_in_hit ?_
      refine wk_then (wc_of_wk ?_)
      refine wc_seq ?_
      refine wc_region ?_
      refine wl_v (o_assign rfl) rfl ?_
      refine wl_nil ?_
      refine wk_then (wc_of_wk ?_)
      refine wc_ret ?_
      refine wk_ret (r_1 rfl rfl) ?_
      exact retv (by rw [at_end hi0.2 g163])

theorem id_r (p : List UInt8) (hp : p.length ≤ 281474976710656) (w : World) : Calls Tryz.prog 10 [.string (B (p))].toArray w (RetV w (.bool (idS p))) := by
  refine enter0 (n := 23) Tryz.func10 rfl Tryz.ntmps10 rfl ?_
  refine wc_seq ?_
  refine wc_region ?_
  refine wl_v (o_assign rfl) rfl ?_
  refine wl_nil ?_
  refine wk_then (wc_of_wk ?_)
  refine wc_seq ?_
  refine wc_seq_mid [(0, .string (B (p))), (2, .bool (false)), (11, .bool (((decide (((p.length : Int)) < (1))) || (decide ((64) < ((p.length : Int)))))))] [] (φ := True) ?_ (fun hm169 => ?_)
  · refine wc_region ?_
    refine wl_v (o_move rfl) rfl ?_
    refine wl_v (o_len_s Tryz.underlying9 rfl) rfl ?_
    refine wl_v (o_lt rfl rfl) rfl ?_
    refine wl_v (o_move rfl) rfl ?_
    refine bsplit (decide (((p.length : Int)) < (1))) (fun h169 => ?_) (fun h169 => ?_)
    · have g169 := h169; try simp only [decide_eq_true_eq, decide_eq_false_iff_not] at g169
      have f169 := h169; try simp only [decide_eq_true_eq, decide_eq_false_iff_not, Bool.and_eq_true, Bool.or_eq_true, Bool.not_eq_true', Bool.not_eq_false', Bool.and_eq_false_iff, Bool.or_eq_false_iff, not_or, Int.not_lt, Int.not_le] at f169
      refine wl_off rfl rfl h169 rfl ?_
      refine wl_off rfl rfl h169 rfl ?_
      refine wl_off rfl rfl h169 rfl ?_
      refine wl_v (o_pick_t rfl h169 rfl) rfl ?_
      refine wl_nil ?_
      exact wk_then (wk_mid trivial ⟨rfl, rfl, fb (by first | (simp only [h169, Bool.true_and, Bool.false_and, Bool.true_or, Bool.false_or, Bool.and_true, Bool.and_false, Bool.or_true, Bool.or_false, Bool.not_true, Bool.not_false, cond_true, cond_false, if_true, if_false, reduceIte, Bool.false_eq_true]; done) | (simp only [Bool.true_and, Bool.false_and, Bool.true_or, Bool.false_or, Bool.and_true, Bool.and_false, Bool.or_true, Bool.or_false, Bool.not_true, Bool.not_false, cond_true, cond_false, if_true, if_false, reduceIte, Bool.false_eq_true]; done) | simp [h169]), trivial⟩ .slnil)
    · have g169 := h169; try simp only [decide_eq_true_eq, decide_eq_false_iff_not] at g169
      have f169 := h169; try simp only [decide_eq_true_eq, decide_eq_false_iff_not, Bool.and_eq_true, Bool.or_eq_true, Bool.not_eq_true', Bool.not_eq_false', Bool.and_eq_false_iff, Bool.or_eq_false_iff, not_or, Int.not_lt, Int.not_le] at f169
      refine wl_on rfl rfl h169 ?_
      refine wl_v (o_move rfl) rfl ?_
      refine wl_on rfl rfl h169 ?_
      refine wl_v (o_len_s Tryz.underlying9 rfl) rfl ?_
      refine wl_on rfl rfl h169 ?_
      refine wl_v (o_gt rfl rfl) rfl ?_
      refine wl_v (o_pick_f rfl h169 rfl) rfl ?_
      refine wl_nil ?_
      exact wk_then (wk_mid trivial ⟨rfl, rfl, fb (by first | (simp only [h169, Bool.true_and, Bool.false_and, Bool.true_or, Bool.false_or, Bool.and_true, Bool.and_false, Bool.or_true, Bool.or_false, Bool.not_true, Bool.not_false, cond_true, cond_false, if_true, if_false, reduceIte, Bool.false_eq_true]; done) | (simp only [Bool.true_and, Bool.false_and, Bool.true_or, Bool.false_or, Bool.and_true, Bool.and_false, Bool.or_true, Bool.or_false, Bool.not_true, Bool.not_false, cond_true, cond_false, if_true, if_false, reduceIte, Bool.false_eq_true]; done) | simp [h169]), trivial⟩ .slnil)
  refine wc_cond (b := ((decide (((p.length : Int)) < (1))) || (decide ((64) < ((p.length : Int)))))) rfl (fun h171 => ?_) (fun h171 => ?_)
  · have g171 := h171; try simp only [decide_eq_true_eq, decide_eq_false_iff_not] at g171
    have f171 := h171; try simp only [decide_eq_true_eq, decide_eq_false_iff_not, Bool.and_eq_true, Bool.or_eq_true, Bool.not_eq_true', Bool.not_eq_false', Bool.and_eq_false_iff, Bool.or_eq_false_iff, not_or, Int.not_lt, Int.not_le] at f171
    refine wc_seq ?_
    refine wc_region ?_
    refine wl_v (o_assign rfl) rfl ?_
    refine wl_nil ?_
    refine wk_then (wc_of_wk ?_)
    refine wc_ret ?_
    refine wk_then_ret ?_
    refine wk_ret (r_1 rfl rfl) ?_
    exact retv (by rw [idR_no h171])
  · have g171 := h171; try simp only [decide_eq_true_eq, decide_eq_false_iff_not] at g171
    have f171 := h171; try simp only [decide_eq_true_eq, decide_eq_false_iff_not, Bool.and_eq_true, Bool.or_eq_true, Bool.not_eq_true', Bool.not_eq_false', Bool.and_eq_false_iff, Bool.or_eq_false_iff, not_or, Int.not_lt, Int.not_le] at f171
    refine wc_skip ?_
    refine wk_then (wc_of_wk ?_)
    refine wc_seq ?_
    refine wc_seq ?_
    refine wc_region ?_
    refine wl_v (o_assign rfl) rfl ?_
    refine wl_nil ?_
    refine wk_then (wc_of_wk ?_)
    refine wc_block ?_
    refine wc_loop (S := Nat) (fun (k : Nat) => k ≤ p.length ∧ idS p = allFrom idCh k (p.drop k)) (fun (k : Nat) => [(3, .int .i64 ((k : Int))), (0, .string (B (p)))]) (fun (k : Nat) => []) (fun (k : Nat) => p.length - k) (0) ?_ ⟨fi (by first | rfl | (simp; done) | omega | (simp; omega)), rfl, trivial⟩ .slnil ?_
    · exact ⟨Nat.zero_le _, idR_0 h171⟩
    rintro k hi0
    refine wc_seq ?_
    refine wc_seq ?_
    refine wc_region ?_
    refine wl_v (o_move rfl) rfl ?_
    refine wl_v (o_move rfl) rfl ?_
    refine wl_v (o_len_s Tryz.underlying9 rfl) rfl ?_
    refine wl_v (o_lt rfl rfl) rfl ?_
    refine wl_nil ?_
    refine wk_then (wc_of_wk ?_)
    refine wc_cond (b := decide (((k : Int)) < ((p.length : Int)))) rfl (fun h172 => ?_) (fun h172 => ?_)
    · have g172 := h172; try simp only [decide_eq_true_eq, decide_eq_false_iff_not] at g172
      have f172 := h172; try simp only [decide_eq_true_eq, decide_eq_false_iff_not, Bool.and_eq_true, Bool.or_eq_true, Bool.not_eq_true', Bool.not_eq_false', Bool.and_eq_false_iff, Bool.or_eq_false_iff, not_or, Int.not_lt, Int.not_le] at f172
      refine wc_skip ?_
      refine wk_then (wc_of_wk ?_)
      refine wc_seq ?_
      refine wc_block ?_
      refine wc_seq ?_
      refine wc_region ?_
      refine wl_v (o_move rfl) rfl ?_
      refine wl_v (o_move rfl) rfl ?_
      refine wl_v (o_index_b Tryz.underlying9 rfl rfl (by first | omega | (simp; omega) | (simp at *; omega)) (by first | omega | (simp; omega) | (simp at *; omega))) rfl ?_
      refine w_call Tryz.call31 rfl (fun w hw => part_r (bat p (k : Int)) w) rfl ?_
      refine wl_v (o_not rfl) rfl ?_
      refine wl_nil ?_
      refine wk_then (wc_of_wk ?_)
      refine wc_cond (b := !(letterS (bat p (k : Int)))) rfl (fun h173 => ?_) (fun h173 => ?_)
      · have g173 := h173; try simp only [decide_eq_true_eq, decide_eq_false_iff_not] at g173
        have f173 := h173; try simp only [decide_eq_true_eq, decide_eq_false_iff_not, Bool.and_eq_true, Bool.or_eq_true, Bool.not_eq_true', Bool.not_eq_false', Bool.and_eq_false_iff, Bool.or_eq_false_iff, not_or, Int.not_lt, Int.not_le] at f173
        refine wc_seq ?_
        refine wc_region ?_
        refine wl_v (o_assign rfl) rfl ?_
        refine wl_nil ?_
        refine wk_then (wc_of_wk ?_)
        refine wc_ret ?_
        refine wk_in_ret ?_
        refine wk_then_ret ?_
        refine wk_then_ret ?_
        refine wk_in_ret ?_
        refine wk_then_ret ?_
        refine wk_ret (r_1 rfl rfl) ?_
        exact retv (by rw [at_no (idCh_any k) hi0 g172 f173])
      · have g173 := h173; try simp only [decide_eq_true_eq, decide_eq_false_iff_not] at g173
        have f173 := h173; try simp only [decide_eq_true_eq, decide_eq_false_iff_not, Bool.and_eq_true, Bool.or_eq_true, Bool.not_eq_true', Bool.not_eq_false', Bool.and_eq_false_iff, Bool.or_eq_false_iff, not_or, Int.not_lt, Int.not_le] at f173
        refine wc_skip ?_
        refine wk_in_norm ?_
        refine wk_then (wc_of_wk ?_)
        refine wc_region ?_
        refine wl_v (o_move rfl) rfl ?_
        refine wl_v (o_add rfl rfl (IntWalk.i64_in _ (by omega))) rfl ?_
        refine wl_v (o_assign rfl) rfl ?_
        refine wl_nil ?_
        refine wk_then ?_
        refine wk_some (k + 1) ?_ ⟨fi (by first | rfl | (simp; done) | omega | (simp; omega)), rfl, trivial⟩ .slnil
        exact ⟨at_next (idCh_any k) hi0 g172 f173, by omega⟩
    · have g172 := h172; try simp only [decide_eq_true_eq, decide_eq_false_iff_not] at g172
      have f172 := h172; try simp only [decide_eq_true_eq, decide_eq_false_iff_not, Bool.and_eq_true, Bool.or_eq_true, Bool.not_eq_true', Bool.not_eq_false', Bool.and_eq_false_iff, Bool.or_eq_false_iff, not_or, Int.not_lt, Int.not_le] at f172
      refine wc_exit ?_
      refine wk_then_exit ?_
      refine wk_then_exit ?_
      refine wk_in_hit ?_
      refine wk_then (wc_of_wk ?_)
      refine wc_seq ?_
      refine wc_region ?_
      refine wl_v (o_assign rfl) rfl ?_
      refine wl_nil ?_
      refine wk_then (wc_of_wk ?_)
      refine wc_ret ?_
      refine wk_ret (r_1 rfl rfl) ?_
      exact retv (by rw [at_end hi0 g172])

theorem pattern_r (p : List UInt8) (hp : p.length ≤ 281474976710656) (w : World) : Calls Tryz.prog 12 [.string (B (p))].toArray w (RetV w (.bool (patS p))) := by
  refine enter0 (n := 38) Tryz.func12 rfl Tryz.ntmps12 rfl ?_
  refine wc_seq ?_
  refine wc_region ?_
  refine wl_v (o_assign rfl) rfl ?_
  refine wl_nil ?_
  refine wk_then (wc_of_wk ?_)
  refine wc_seq ?_
  refine wc_seq_mid [(0, .string (B (p))), (2, .bool (false)), (11, .bool (((decide (((p.length : Int)) < (1))) || (decide ((64) < ((p.length : Int)))))))] [] (φ := True) ?_ (fun hm174 => ?_)
  · refine wc_region ?_
    refine wl_v (o_move rfl) rfl ?_
    refine wl_v (o_len_s Tryz.underlying9 rfl) rfl ?_
    refine wl_v (o_lt rfl rfl) rfl ?_
    refine wl_v (o_move rfl) rfl ?_
    refine bsplit (decide (((p.length : Int)) < (1))) (fun h174 => ?_) (fun h174 => ?_)
    · have g174 := h174; try simp only [decide_eq_true_eq, decide_eq_false_iff_not] at g174
      have f174 := h174; try simp only [decide_eq_true_eq, decide_eq_false_iff_not, Bool.and_eq_true, Bool.or_eq_true, Bool.not_eq_true', Bool.not_eq_false', Bool.and_eq_false_iff, Bool.or_eq_false_iff, not_or, Int.not_lt, Int.not_le] at f174
      refine wl_off rfl rfl h174 rfl ?_
      refine wl_off rfl rfl h174 rfl ?_
      refine wl_off rfl rfl h174 rfl ?_
      refine wl_v (o_pick_t rfl h174 rfl) rfl ?_
      refine wl_nil ?_
      exact wk_then (wk_mid trivial ⟨rfl, rfl, fb (by first | (simp only [h174, Bool.true_and, Bool.false_and, Bool.true_or, Bool.false_or, Bool.and_true, Bool.and_false, Bool.or_true, Bool.or_false, Bool.not_true, Bool.not_false, cond_true, cond_false, if_true, if_false, reduceIte, Bool.false_eq_true]; done) | (simp only [Bool.true_and, Bool.false_and, Bool.true_or, Bool.false_or, Bool.and_true, Bool.and_false, Bool.or_true, Bool.or_false, Bool.not_true, Bool.not_false, cond_true, cond_false, if_true, if_false, reduceIte, Bool.false_eq_true]; done) | simp [h174]), trivial⟩ .slnil)
    · have g174 := h174; try simp only [decide_eq_true_eq, decide_eq_false_iff_not] at g174
      have f174 := h174; try simp only [decide_eq_true_eq, decide_eq_false_iff_not, Bool.and_eq_true, Bool.or_eq_true, Bool.not_eq_true', Bool.not_eq_false', Bool.and_eq_false_iff, Bool.or_eq_false_iff, not_or, Int.not_lt, Int.not_le] at f174
      refine wl_on rfl rfl h174 ?_
      refine wl_v (o_move rfl) rfl ?_
      refine wl_on rfl rfl h174 ?_
      refine wl_v (o_len_s Tryz.underlying9 rfl) rfl ?_
      refine wl_on rfl rfl h174 ?_
      refine wl_v (o_gt rfl rfl) rfl ?_
      refine wl_v (o_pick_f rfl h174 rfl) rfl ?_
      refine wl_nil ?_
      exact wk_then (wk_mid trivial ⟨rfl, rfl, fb (by first | (simp only [h174, Bool.true_and, Bool.false_and, Bool.true_or, Bool.false_or, Bool.and_true, Bool.and_false, Bool.or_true, Bool.or_false, Bool.not_true, Bool.not_false, cond_true, cond_false, if_true, if_false, reduceIte, Bool.false_eq_true]; done) | (simp only [Bool.true_and, Bool.false_and, Bool.true_or, Bool.false_or, Bool.and_true, Bool.and_false, Bool.or_true, Bool.or_false, Bool.not_true, Bool.not_false, cond_true, cond_false, if_true, if_false, reduceIte, Bool.false_eq_true]; done) | simp [h174]), trivial⟩ .slnil)
  refine wc_cond (b := ((decide (((p.length : Int)) < (1))) || (decide ((64) < ((p.length : Int)))))) rfl (fun h176 => ?_) (fun h176 => ?_)
  · have g176 := h176; try simp only [decide_eq_true_eq, decide_eq_false_iff_not] at g176
    have f176 := h176; try simp only [decide_eq_true_eq, decide_eq_false_iff_not, Bool.and_eq_true, Bool.or_eq_true, Bool.not_eq_true', Bool.not_eq_false', Bool.and_eq_false_iff, Bool.or_eq_false_iff, not_or, Int.not_lt, Int.not_le] at f176
    refine wc_seq ?_
    refine wc_region ?_
    refine wl_v (o_assign rfl) rfl ?_
    refine wl_nil ?_
    refine wk_then (wc_of_wk ?_)
    refine wc_ret ?_
    refine wk_then_ret ?_
    refine wk_ret (r_1 rfl rfl) ?_
    exact retv (by rw [patR_no h176])
  · have g176 := h176; try simp only [decide_eq_true_eq, decide_eq_false_iff_not] at g176
    have f176 := h176; try simp only [decide_eq_true_eq, decide_eq_false_iff_not, Bool.and_eq_true, Bool.or_eq_true, Bool.not_eq_true', Bool.not_eq_false', Bool.and_eq_false_iff, Bool.or_eq_false_iff, not_or, Int.not_lt, Int.not_le] at f176
    refine wc_skip ?_
    refine wk_then (wc_of_wk ?_)
    refine wc_seq ?_
    refine wc_seq ?_
    refine wc_region ?_
    refine wl_v (o_assign rfl) rfl ?_
    refine wl_nil ?_
    refine wk_then (wc_of_wk ?_)
    refine wc_block ?_
    refine wc_loop (S := Nat) (fun (k : Nat) => k ≤ (p.take (p.length - 1)).length ∧ allFrom idCh 0 (p.take (p.length - 1)) = allFrom idCh k ((p.take (p.length - 1)).drop k)) (fun (k : Nat) => [(3, .int .i64 ((k : Int))), (0, .string (B (p)))]) (fun (k : Nat) => []) (fun (k : Nat) => p.length - k) (0) ?_ ⟨fi (by first | rfl | (simp; done) | omega | (simp; omega)), rfl, trivial⟩ .slnil ?_
    · exact ⟨Nat.zero_le _, by simp⟩
    rintro k hi0
    have hk1 := hi0.1
    simp at hk1
    refine wc_seq ?_
    refine wc_seq ?_
    refine wc_region ?_
    refine wl_v (o_move rfl) rfl ?_
    refine wl_v (o_move rfl) rfl ?_
    refine wl_v (o_len_s Tryz.underlying9 rfl) rfl ?_
    refine wl_v (o_sub rfl rfl (IntWalk.i64_in _ (by omega))) rfl ?_
    refine wl_v (o_lt rfl rfl) rfl ?_
    refine wl_nil ?_
    refine wk_then (wc_of_wk ?_)
    refine wc_cond (b := decide (((k : Int)) < ((p.length : Int) - 1))) rfl (fun h177 => ?_) (fun h177 => ?_)
    · have g177 := h177; try simp only [decide_eq_true_eq, decide_eq_false_iff_not] at g177
      have f177 := h177; try simp only [decide_eq_true_eq, decide_eq_false_iff_not, Bool.and_eq_true, Bool.or_eq_true, Bool.not_eq_true', Bool.not_eq_false', Bool.and_eq_false_iff, Bool.or_eq_false_iff, not_or, Int.not_lt, Int.not_le] at f177
      refine wc_skip ?_
      refine wk_then (wc_of_wk ?_)
      refine wc_seq ?_
      refine wc_block ?_
      refine wc_seq ?_
      refine wc_region ?_
      refine wl_v (o_move rfl) rfl ?_
      refine wl_v (o_move rfl) rfl ?_
      refine wl_v (o_index_b Tryz.underlying9 rfl rfl (by first | omega | (simp; omega) | (simp at *; omega)) (by first | omega | (simp; omega) | (simp at *; omega))) rfl ?_
      refine w_call Tryz.call31 rfl (fun w hw => part_r (bat p (k : Int)) w) rfl ?_
      refine wl_v (o_not rfl) rfl ?_
      refine wl_nil ?_
      refine wk_then (wc_of_wk ?_)
      refine wc_cond (b := !(letterS (bat p (k : Int)))) rfl (fun h178 => ?_) (fun h178 => ?_)
      · have g178 := h178; try simp only [decide_eq_true_eq, decide_eq_false_iff_not] at g178
        have f178 := h178; try simp only [decide_eq_true_eq, decide_eq_false_iff_not, Bool.and_eq_true, Bool.or_eq_true, Bool.not_eq_true', Bool.not_eq_false', Bool.and_eq_false_iff, Bool.or_eq_false_iff, not_or, Int.not_lt, Int.not_le] at f178
        refine wc_seq ?_
        refine wc_region ?_
        refine wl_v (o_assign rfl) rfl ?_
        refine wl_nil ?_
        refine wk_then (wc_of_wk ?_)
        refine wc_ret ?_
        refine wk_in_ret ?_
        refine wk_then_ret ?_
        refine wk_then_ret ?_
        refine wk_in_ret ?_
        refine wk_then_ret ?_
        refine wk_ret (r_1 rfl rfl) ?_
        exact retv (by rw [patR h176, at_no (idCh_any k) hi0 (by simp; omega) (by rw [bat_take (by omega)]; exact f178)]; rfl)
      · have g178 := h178; try simp only [decide_eq_true_eq, decide_eq_false_iff_not] at g178
        have f178 := h178; try simp only [decide_eq_true_eq, decide_eq_false_iff_not, Bool.and_eq_true, Bool.or_eq_true, Bool.not_eq_true', Bool.not_eq_false', Bool.and_eq_false_iff, Bool.or_eq_false_iff, not_or, Int.not_lt, Int.not_le] at f178
        refine wc_skip ?_
        refine wk_in_norm ?_
        refine wk_then (wc_of_wk ?_)
        refine wc_region ?_
        refine wl_v (o_move rfl) rfl ?_
        refine wl_v (o_add rfl rfl (IntWalk.i64_in _ (by omega))) rfl ?_
        refine wl_v (o_assign rfl) rfl ?_
        refine wl_nil ?_
        refine wk_then ?_
        refine wk_some (k + 1) ?_ ⟨fi (by first | rfl | (simp; done) | omega | (simp; omega)), rfl, trivial⟩ .slnil
        exact ⟨at_next (idCh_any k) hi0 (by simp; omega) (by rw [bat_take (by omega)]; exact f178), by omega⟩
    · have g177 := h177; try simp only [decide_eq_true_eq, decide_eq_false_iff_not] at g177
      have f177 := h177; try simp only [decide_eq_true_eq, decide_eq_false_iff_not, Bool.and_eq_true, Bool.or_eq_true, Bool.not_eq_true', Bool.not_eq_false', Bool.and_eq_false_iff, Bool.or_eq_false_iff, not_or, Int.not_lt, Int.not_le] at f177
      refine wc_exit ?_
      refine wk_then_exit ?_
      refine wk_then_exit ?_
      refine wk_in_hit ?_
      refine wk_then (wc_of_wk ?_)
      refine wc_seq_mid [(2, .bool (((letterS (bat p ((p.length : Int) - 1))) || (decide ((bat p ((p.length : Int) - 1)) = (42))))))] [] (φ := True) ?_ (fun hm179 => ?_)
      · refine wc_region ?_
        refine wl_v (o_move rfl) rfl ?_
        refine wl_v (o_move rfl) rfl ?_
        refine wl_v (o_len_s Tryz.underlying9 rfl) rfl ?_
        refine wl_v (o_sub rfl rfl (IntWalk.i64_in _ (by omega))) rfl ?_
        refine wl_v (o_index_b Tryz.underlying9 rfl rfl (by first | omega | (simp; omega) | (simp at *; omega)) (by first | omega | (simp; omega) | (simp at *; omega))) rfl ?_
        refine w_call Tryz.call31 rfl (fun w hw => part_r (bat p ((p.length : Int) - 1)) w) rfl ?_
        refine wl_v (o_move rfl) rfl ?_
        refine bsplit (letterS (bat p ((p.length : Int) - 1))) (fun h179 => ?_) (fun h179 => ?_)
        · have g179 := h179; try simp only [decide_eq_true_eq, decide_eq_false_iff_not] at g179
          have f179 := h179; try simp only [decide_eq_true_eq, decide_eq_false_iff_not, Bool.and_eq_true, Bool.or_eq_true, Bool.not_eq_true', Bool.not_eq_false', Bool.and_eq_false_iff, Bool.or_eq_false_iff, not_or, Int.not_lt, Int.not_le] at f179
          refine wl_off rfl rfl h179 rfl ?_
          refine wl_off rfl rfl h179 rfl ?_
          refine wl_off rfl rfl h179 rfl ?_
          refine wl_off rfl rfl h179 rfl ?_
          refine wl_off rfl rfl h179 rfl ?_
          refine wl_off rfl rfl h179 rfl ?_
          refine wl_v (o_pick_t rfl h179 rfl) rfl ?_
          refine wl_v (o_assign rfl) rfl ?_
          refine wl_nil ?_
          exact wk_then (wk_mid trivial ⟨fb (by first | (simp only [h176, h177, h179, Bool.true_and, Bool.false_and, Bool.true_or, Bool.false_or, Bool.and_true, Bool.and_false, Bool.or_true, Bool.or_false, Bool.not_true, Bool.not_false, cond_true, cond_false, if_true, if_false, reduceIte, Bool.false_eq_true]; done) | (simp only [Bool.true_and, Bool.false_and, Bool.true_or, Bool.false_or, Bool.and_true, Bool.and_false, Bool.or_true, Bool.or_false, Bool.not_true, Bool.not_false, cond_true, cond_false, if_true, if_false, reduceIte, Bool.false_eq_true]; done) | simp [h176, h177, h179]), trivial⟩ .slnil)
        · have g179 := h179; try simp only [decide_eq_true_eq, decide_eq_false_iff_not] at g179
          have f179 := h179; try simp only [decide_eq_true_eq, decide_eq_false_iff_not, Bool.and_eq_true, Bool.or_eq_true, Bool.not_eq_true', Bool.not_eq_false', Bool.and_eq_false_iff, Bool.or_eq_false_iff, not_or, Int.not_lt, Int.not_le] at f179
          refine wl_on rfl rfl h179 ?_
          refine wl_v (o_move rfl) rfl ?_
          refine wl_on rfl rfl h179 ?_
          refine wl_v (o_move rfl) rfl ?_
          refine wl_on rfl rfl h179 ?_
          refine wl_v (o_len_s Tryz.underlying9 rfl) rfl ?_
          refine wl_on rfl rfl h179 ?_
          refine wl_v (o_sub rfl rfl (IntWalk.i64_in _ (by omega))) rfl ?_
          refine wl_on rfl rfl h179 ?_
          refine wl_v (o_index_b Tryz.underlying9 rfl rfl (by first | omega | (simp; omega) | (simp at *; omega)) (by first | omega | (simp; omega) | (simp at *; omega))) rfl ?_
          refine wl_on rfl rfl h179 ?_
          refine wl_v (o_eq rfl rfl) rfl ?_
          refine wl_v (o_pick_f rfl h179 rfl) rfl ?_
          refine wl_v (o_assign rfl) rfl ?_
          refine wl_nil ?_
          exact wk_then (wk_mid trivial ⟨fb (by first | (simp only [h176, h177, h179, Bool.true_and, Bool.false_and, Bool.true_or, Bool.false_or, Bool.and_true, Bool.and_false, Bool.or_true, Bool.or_false, Bool.not_true, Bool.not_false, cond_true, cond_false, if_true, if_false, reduceIte, Bool.false_eq_true]; done) | (simp only [Bool.true_and, Bool.false_and, Bool.true_or, Bool.false_or, Bool.and_true, Bool.and_false, Bool.or_true, Bool.or_false, Bool.not_true, Bool.not_false, cond_true, cond_false, if_true, if_false, reduceIte, Bool.false_eq_true]; done) | simp [h176, h177, h179]), trivial⟩ .slnil)
      refine wc_ret ?_
      refine wk_ret (r_1 rfl rfl) ?_
      exact retv (by rw [patR h176, at_end hi0 (by simp; omega)]; simp [])

theorem begins_r (p : List UInt8) (q : List UInt8) (hp : p.length ≤ 281474976710656) (hq : q.length ≤ 281474976710656) (w : World) : Calls Tryz.prog 48 [.string (B (p)), .string (B (q))].toArray w (RetV w (.bool (hasPre p q))) := by
  refine enter0 (n := 18) Tryz.func48 rfl Tryz.ntmps48 rfl ?_
  refine wc_seq ?_
  refine wc_region ?_
  refine wl_v (o_assign rfl) rfl ?_
  refine wl_nil ?_
  refine wk_then (wc_of_wk ?_)
  refine wc_seq_mid [(4, .bool (((decide (((q.length : Int)) ≤ ((p.length : Int)))) && (decide (((List.take (Int.toNat ((q.length : Int))) p)) = (q))))))] [] (φ := True) ?_ (fun hm181 => ?_)
  · refine wc_region ?_
    refine wl_v (o_move rfl) rfl ?_
    refine wl_v (o_len_s Tryz.underlying9 rfl) rfl ?_
    refine wl_v (o_move rfl) rfl ?_
    refine wl_v (o_len_s Tryz.underlying9 rfl) rfl ?_
    refine wl_v (o_ge rfl rfl) rfl ?_
    refine wl_v (o_move rfl) rfl ?_
    refine bsplit (decide (((q.length : Int)) ≤ ((p.length : Int)))) (fun h181 => ?_) (fun h181 => ?_)
    · have g181 := h181; try simp only [decide_eq_true_eq, decide_eq_false_iff_not] at g181
      have f181 := h181; try simp only [decide_eq_true_eq, decide_eq_false_iff_not, Bool.and_eq_true, Bool.or_eq_true, Bool.not_eq_true', Bool.not_eq_false', Bool.and_eq_false_iff, Bool.or_eq_false_iff, not_or, Int.not_lt, Int.not_le] at f181
      refine wl_on rfl rfl h181 ?_
      refine wl_v (o_move rfl) rfl ?_
      refine wl_on rfl rfl h181 ?_
      refine wl_v (o_move rfl) rfl ?_
      refine wl_on rfl rfl h181 ?_
      refine wl_v (o_len_s Tryz.underlying9 rfl) rfl ?_
      refine wl_on rfl rfl h181 ?_
      refine wl_v (o_slice_hi Tryz.underlying9 rfl rfl (by first | omega | (simp; omega)) (by first | omega | (simp; omega))) rfl ?_
      refine wl_on rfl rfl h181 ?_
      refine wl_v (o_move rfl) rfl ?_
      refine wl_on rfl rfl h181 ?_
      refine wl_v (o_seq rfl rfl) rfl ?_
      refine wl_v (o_pick_t rfl h181 rfl) rfl ?_
      refine wl_v (o_assign rfl) rfl ?_
      refine wl_nil ?_
      exact wk_then (wk_mid trivial ⟨fb (by first | (simp only [h181, Bool.true_and, Bool.false_and, Bool.true_or, Bool.false_or, Bool.and_true, Bool.and_false, Bool.or_true, Bool.or_false, Bool.not_true, Bool.not_false, cond_true, cond_false, if_true, if_false, reduceIte, Bool.false_eq_true]; done) | (simp only [Bool.true_and, Bool.false_and, Bool.true_or, Bool.false_or, Bool.and_true, Bool.and_false, Bool.or_true, Bool.or_false, Bool.not_true, Bool.not_false, cond_true, cond_false, if_true, if_false, reduceIte, Bool.false_eq_true]; done) | simp [h181]), trivial⟩ .slnil)
    · have g181 := h181; try simp only [decide_eq_true_eq, decide_eq_false_iff_not] at g181
      have f181 := h181; try simp only [decide_eq_true_eq, decide_eq_false_iff_not, Bool.and_eq_true, Bool.or_eq_true, Bool.not_eq_true', Bool.not_eq_false', Bool.and_eq_false_iff, Bool.or_eq_false_iff, not_or, Int.not_lt, Int.not_le] at f181
      refine wl_off rfl rfl h181 rfl ?_
      refine wl_off rfl rfl h181 rfl ?_
      refine wl_off rfl rfl h181 rfl ?_
      refine wl_off rfl rfl h181 rfl ?_
      refine wl_off rfl rfl h181 rfl ?_
      refine wl_off rfl rfl h181 rfl ?_
      refine wl_v (o_pick_f rfl h181 rfl) rfl ?_
      refine wl_v (o_assign rfl) rfl ?_
      refine wl_nil ?_
      exact wk_then (wk_mid trivial ⟨fb (by first | (simp only [h181, Bool.true_and, Bool.false_and, Bool.true_or, Bool.false_or, Bool.and_true, Bool.and_false, Bool.or_true, Bool.or_false, Bool.not_true, Bool.not_false, cond_true, cond_false, if_true, if_false, reduceIte, Bool.false_eq_true]; done) | (simp only [Bool.true_and, Bool.false_and, Bool.true_or, Bool.false_or, Bool.and_true, Bool.and_false, Bool.or_true, Bool.or_false, Bool.not_true, Bool.not_false, cond_true, cond_false, if_true, if_false, reduceIte, Bool.false_eq_true]; done) | simp [h181]), trivial⟩ .slnil)
  refine wc_ret ?_
  refine wk_ret (r_1 rfl rfl) ?_
  exact retv (by rw [← beginsR])

theorem open_r (p : List UInt8) (hp : p.length ≤ 281474976710656) (hn : 1 ≤ p.length) (w : World) : Calls Tryz.prog 47 [.string (B (p))].toArray w (RetV w (.bool (hasSuf p [42]))) := by
  refine enter0 (n := 9) Tryz.func47 rfl Tryz.ntmps47 rfl ?_
  refine wc_seq ?_
  refine wc_region ?_
  refine wl_v (o_assign rfl) rfl ?_
  refine wl_nil ?_
  refine wk_then (wc_of_wk ?_)
  refine wc_seq ?_
  refine wc_region ?_
  refine wl_v (o_move rfl) rfl ?_
  refine wl_v (o_move rfl) rfl ?_
  refine wl_v (o_len_s Tryz.underlying9 rfl) rfl ?_
  refine wl_v (o_sub rfl rfl (IntWalk.i64_in _ (by omega))) rfl ?_
  refine wl_v (o_index_b Tryz.underlying9 rfl rfl (by first | omega | (simp; omega) | (simp at *; omega)) (by first | omega | (simp; omega) | (simp at *; omega))) rfl ?_
  refine wl_v (o_eq rfl rfl) rfl ?_
  refine wl_v (o_assign rfl) rfl ?_
  refine wl_nil ?_
  refine wk_then (wc_of_wk ?_)
  refine wc_ret ?_
  refine wk_ret (r_1 rfl rfl) ?_
  exact retv (by rw [← openR hn])

theorem matches_r (p : List UInt8) (s : List UInt8) (hp : p.length ≤ 281474976710656) (hs : s.length ≤ 281474976710656) (w : World) : Calls Tryz.prog 23 [.string (B (p)), .string (B (s))].toArray w (RetV w (.bool (matS p s))) := by
  refine enter0 (n := 20) Tryz.func23 rfl Tryz.ntmps23 rfl ?_
  refine wc_seq ?_
  refine wc_region ?_
  refine wl_v (o_assign rfl) rfl ?_
  refine wl_nil ?_
  refine wk_then (wc_of_wk ?_)
  refine wc_seq ?_
  refine wc_seq ?_
  refine wc_region ?_
  refine wl_v (o_move rfl) rfl ?_
  refine w_call Tryz.call12 rfl (fun w hw => pattern_r p (by first | omega | (simp; done) | (simp; omega) | (simp at *; omega) | (split <;> first | omega | (simp; omega))) w) rfl ?_
  refine wl_v (o_not rfl) rfl ?_
  refine wl_nil ?_
  refine wk_then (wc_of_wk ?_)
  refine wc_cond (b := !(patS p)) rfl (fun h183 => ?_) (fun h183 => ?_)
  · have g183 := h183; try simp only [decide_eq_true_eq, decide_eq_false_iff_not] at g183
    have f183 := h183; try simp only [decide_eq_true_eq, decide_eq_false_iff_not, Bool.and_eq_true, Bool.or_eq_true, Bool.not_eq_true', Bool.not_eq_false', Bool.and_eq_false_iff, Bool.or_eq_false_iff, not_or, Int.not_lt, Int.not_le] at f183
    refine wc_seq ?_
    refine wc_region ?_
    refine wl_v (o_assign rfl) rfl ?_
    refine wl_nil ?_
    refine wk_then (wc_of_wk ?_)
    refine wc_ret ?_
    refine wk_then_ret ?_
    refine wk_ret (r_1 rfl rfl) ?_
    exact retv (by rw [matR_no f183])
  · have g183 := h183; try simp only [decide_eq_true_eq, decide_eq_false_iff_not] at g183
    have f183 := h183; try simp only [decide_eq_true_eq, decide_eq_false_iff_not, Bool.and_eq_true, Bool.or_eq_true, Bool.not_eq_true', Bool.not_eq_false', Bool.and_eq_false_iff, Bool.or_eq_false_iff, not_or, Int.not_lt, Int.not_le] at f183
    refine wc_skip ?_
    refine wk_then (wc_of_wk ?_)
    refine wc_seq ?_
    refine wc_seq ?_
    refine wc_region ?_
    refine wl_v (o_move rfl) rfl ?_
    refine w_call Tryz.call47 rfl (fun w hw => open_r p (by first | omega | (simp; done) | (simp; omega) | (simp at *; omega) | (split <;> first | omega | (simp; omega))) (by exact pat_pos (by simp_all)) w) rfl ?_
    refine wl_nil ?_
    refine wk_then (wc_of_wk ?_)
    refine wc_cond (b := hasSuf p [42]) rfl (fun h184 => ?_) (fun h184 => ?_)
    · have g184 := h184; try simp only [decide_eq_true_eq, decide_eq_false_iff_not] at g184
      have f184 := h184; try simp only [decide_eq_true_eq, decide_eq_false_iff_not, Bool.and_eq_true, Bool.or_eq_true, Bool.not_eq_true', Bool.not_eq_false', Bool.and_eq_false_iff, Bool.or_eq_false_iff, not_or, Int.not_lt, Int.not_le] at f184
      refine wc_seq ?_
      refine wc_region ?_
      refine wl_v (o_move rfl) rfl ?_
      refine wl_v (o_move rfl) rfl ?_
      refine wl_v (o_move rfl) rfl ?_
      refine wl_v (o_len_s Tryz.underlying9 rfl) rfl ?_
      refine wl_v (o_sub rfl rfl (IntWalk.i64_in _ (by first | omega | (have := pat_pos (q := p) (by simp_all); omega)))) rfl ?_
      refine wl_v (o_slice_hi Tryz.underlying9 rfl rfl (by first | omega | (have := pat_pos (q := p) (by simp_all); omega)) (by first | omega | (have := pat_pos (q := p) (by simp_all); omega))) rfl ?_
      refine w_call Tryz.call48 rfl (fun w hw => begins_r s (List.take (Int.toNat ((p.length : Int) - 1)) p) (by first | omega | (simp; done) | (simp; omega) | (simp at *; omega) | (split <;> first | omega | (simp; omega))) (by first | omega | (simp; done) | (simp; omega) | (simp at *; omega) | (split <;> first | omega | (simp; omega))) w) rfl ?_
      refine wl_v (o_assign rfl) rfl ?_
      refine wl_nil ?_
      refine wk_then (wc_of_wk ?_)
      refine wc_ret ?_
      refine wk_then_ret ?_
      refine wk_ret (r_1 rfl rfl) ?_
      exact retv (by rw [matR_open f183 f184])
    · have g184 := h184; try simp only [decide_eq_true_eq, decide_eq_false_iff_not] at g184
      have f184 := h184; try simp only [decide_eq_true_eq, decide_eq_false_iff_not, Bool.and_eq_true, Bool.or_eq_true, Bool.not_eq_true', Bool.not_eq_false', Bool.and_eq_false_iff, Bool.or_eq_false_iff, not_or, Int.not_lt, Int.not_le] at f184
      refine wc_skip ?_
      refine wk_then (wc_of_wk ?_)
      refine wc_seq ?_
      refine wc_region ?_
      refine wl_v (o_move rfl) rfl ?_
      refine wl_v (o_move rfl) rfl ?_
      refine wl_v (o_seq rfl rfl) rfl ?_
      refine wl_v (o_assign rfl) rfl ?_
      refine wl_nil ?_
      refine wk_then (wc_of_wk ?_)
      refine wc_ret ?_
      refine wk_ret (r_1 rfl rfl) ?_
      exact retv (by rw [matR_shut f183 f184])

theorem covers_r (p : List UInt8) (q : List UInt8) (hp : p.length ≤ 281474976710656) (hq : q.length ≤ 281474976710656) (w : World) : Calls Tryz.prog 25 [.string (B (p)), .string (B (q))].toArray w (RetV w (.bool (covS p q))) := by
  refine enter0 (n := 34) Tryz.func25 rfl Tryz.ntmps25 rfl ?_
  refine wc_seq ?_
  refine wc_region ?_
  refine wl_v (o_assign rfl) rfl ?_
  refine wl_nil ?_
  refine wk_then (wc_of_wk ?_)
  refine wc_seq ?_
  refine wc_seq_mid [(0, .string (B (p))), (1, .string (B (q))), (4, .bool (false)), (12, .bool (((!(patS p)) || (!(patS q)))))] [] (φ := True) ?_ (fun hm185 => ?_)
  · refine wc_region ?_
    refine wl_v (o_move rfl) rfl ?_
    refine w_call Tryz.call12 rfl (fun w hw => pattern_r p (by first | omega | (simp; done) | (simp; omega) | (simp at *; omega) | (split <;> first | omega | (simp; omega))) w) rfl ?_
    refine wl_v (o_not rfl) rfl ?_
    refine wl_v (o_move rfl) rfl ?_
    refine bsplit (!(patS p)) (fun h185 => ?_) (fun h185 => ?_)
    · have g185 := h185; try simp only [decide_eq_true_eq, decide_eq_false_iff_not] at g185
      have f185 := h185; try simp only [decide_eq_true_eq, decide_eq_false_iff_not, Bool.and_eq_true, Bool.or_eq_true, Bool.not_eq_true', Bool.not_eq_false', Bool.and_eq_false_iff, Bool.or_eq_false_iff, not_or, Int.not_lt, Int.not_le] at f185
      refine wl_off rfl rfl h185 rfl ?_
      refine wl_off rfl rfl h185 rfl ?_
      refine wl_off rfl rfl h185 rfl ?_
      refine wl_v (o_pick_t rfl h185 rfl) rfl ?_
      refine wl_nil ?_
      exact wk_then (wk_mid trivial ⟨rfl, rfl, rfl, fb (by first | (simp only [h185, Bool.true_and, Bool.false_and, Bool.true_or, Bool.false_or, Bool.and_true, Bool.and_false, Bool.or_true, Bool.or_false, Bool.not_true, Bool.not_false, cond_true, cond_false, if_true, if_false, reduceIte, Bool.false_eq_true]; done) | (simp only [Bool.true_and, Bool.false_and, Bool.true_or, Bool.false_or, Bool.and_true, Bool.and_false, Bool.or_true, Bool.or_false, Bool.not_true, Bool.not_false, cond_true, cond_false, if_true, if_false, reduceIte, Bool.false_eq_true]; done) | simp [h185]), trivial⟩ .slnil)
    · have g185 := h185; try simp only [decide_eq_true_eq, decide_eq_false_iff_not] at g185
      have f185 := h185; try simp only [decide_eq_true_eq, decide_eq_false_iff_not, Bool.and_eq_true, Bool.or_eq_true, Bool.not_eq_true', Bool.not_eq_false', Bool.and_eq_false_iff, Bool.or_eq_false_iff, not_or, Int.not_lt, Int.not_le] at f185
      refine wl_on rfl rfl h185 ?_
      refine wl_v (o_move rfl) rfl ?_
      refine wl_on rfl rfl h185 ?_
      refine w_call Tryz.call12 rfl (fun w hw => pattern_r q (by first | omega | (simp; done) | (simp; omega) | (simp at *; omega) | (split <;> first | omega | (simp; omega))) w) rfl ?_
      refine wl_on rfl rfl h185 ?_
      refine wl_v (o_not rfl) rfl ?_
      refine wl_v (o_pick_f rfl h185 rfl) rfl ?_
      refine wl_nil ?_
      exact wk_then (wk_mid trivial ⟨rfl, rfl, rfl, fb (by first | (simp only [h185, Bool.true_and, Bool.false_and, Bool.true_or, Bool.false_or, Bool.and_true, Bool.and_false, Bool.or_true, Bool.or_false, Bool.not_true, Bool.not_false, cond_true, cond_false, if_true, if_false, reduceIte, Bool.false_eq_true]; done) | (simp only [Bool.true_and, Bool.false_and, Bool.true_or, Bool.false_or, Bool.and_true, Bool.and_false, Bool.or_true, Bool.or_false, Bool.not_true, Bool.not_false, cond_true, cond_false, if_true, if_false, reduceIte, Bool.false_eq_true]; done) | simp [h185]), trivial⟩ .slnil)
  refine wc_cond (b := ((!(patS p)) || (!(patS q)))) rfl (fun h187 => ?_) (fun h187 => ?_)
  · have g187 := h187; try simp only [decide_eq_true_eq, decide_eq_false_iff_not] at g187
    have f187 := h187; try simp only [decide_eq_true_eq, decide_eq_false_iff_not, Bool.and_eq_true, Bool.or_eq_true, Bool.not_eq_true', Bool.not_eq_false', Bool.and_eq_false_iff, Bool.or_eq_false_iff, not_or, Int.not_lt, Int.not_le] at f187
    refine wc_seq ?_
    refine wc_region ?_
    refine wl_v (o_assign rfl) rfl ?_
    refine wl_nil ?_
    refine wk_then (wc_of_wk ?_)
    refine wc_ret ?_
    refine wk_then_ret ?_
    refine wk_ret (r_1 rfl rfl) ?_
    exact retv (by rw [covR_no h187])
  · have g187 := h187; try simp only [decide_eq_true_eq, decide_eq_false_iff_not] at g187
    have f187 := h187; try simp only [decide_eq_true_eq, decide_eq_false_iff_not, Bool.and_eq_true, Bool.or_eq_true, Bool.not_eq_true', Bool.not_eq_false', Bool.and_eq_false_iff, Bool.or_eq_false_iff, not_or, Int.not_lt, Int.not_le] at f187
    refine wc_skip ?_
    refine wk_then (wc_of_wk ?_)
    refine wc_seq ?_
    refine wc_seq ?_
    refine wc_region ?_
    refine wl_v (o_move rfl) rfl ?_
    refine w_call Tryz.call47 rfl (fun w hw => open_r q (by first | omega | (simp; done) | (simp; omega) | (simp at *; omega) | (split <;> first | omega | (simp; omega))) (by exact pat_pos (by simp_all)) w) rfl ?_
    refine wl_v (o_not rfl) rfl ?_
    refine wl_nil ?_
    refine wk_then (wc_of_wk ?_)
    refine wc_cond (b := !(hasSuf q [42])) rfl (fun h188 => ?_) (fun h188 => ?_)
    · have g188 := h188; try simp only [decide_eq_true_eq, decide_eq_false_iff_not] at g188
      have f188 := h188; try simp only [decide_eq_true_eq, decide_eq_false_iff_not, Bool.and_eq_true, Bool.or_eq_true, Bool.not_eq_true', Bool.not_eq_false', Bool.and_eq_false_iff, Bool.or_eq_false_iff, not_or, Int.not_lt, Int.not_le] at f188
      refine wc_seq ?_
      refine wc_region ?_
      refine wl_v (o_move rfl) rfl ?_
      refine wl_v (o_move rfl) rfl ?_
      refine w_call Tryz.call23 rfl (fun w hw => matches_r p q (by first | omega | (simp; done) | (simp; omega) | (simp at *; omega) | (split <;> first | omega | (simp; omega))) (by first | omega | (simp; done) | (simp; omega) | (simp at *; omega) | (split <;> first | omega | (simp; omega))) w) rfl ?_
      refine wl_v (o_assign rfl) rfl ?_
      refine wl_nil ?_
      refine wk_then (wc_of_wk ?_)
      refine wc_ret ?_
      refine wk_then_ret ?_
      refine wk_ret (r_1 rfl rfl) ?_
      exact retv (by rw [covR_shut h187 f188])
    · have g188 := h188; try simp only [decide_eq_true_eq, decide_eq_false_iff_not] at g188
      have f188 := h188; try simp only [decide_eq_true_eq, decide_eq_false_iff_not, Bool.and_eq_true, Bool.or_eq_true, Bool.not_eq_true', Bool.not_eq_false', Bool.and_eq_false_iff, Bool.or_eq_false_iff, not_or, Int.not_lt, Int.not_le] at f188
      refine wc_skip ?_
      refine wk_then (wc_of_wk ?_)
      refine wc_seq_mid [(4, .bool (((hasSuf p [42]) && (hasPre (List.take (Int.toNat ((q.length : Int) - 1)) q) (List.take (Int.toNat ((p.length : Int) - 1)) p)))))] [] (φ := True) ?_ (fun hm189 => ?_)
      · refine wc_region_q (by kernel_rfl) (by kernel_rfl) ?_
        refine wq_v (o_move rfl) rfl ?_
        refine wq_call Tryz.call47 rfl (fun w hw => open_r p (by first | omega | (simp; done) | (simp; omega) | (simp at *; omega) | (split <;> first | omega | (simp; omega))) (by exact pat_pos (by simp_all)) w) rfl ?_
        refine wq_v (o_move rfl) rfl ?_
        refine bsplit (hasSuf p [42]) (fun h189 => ?_) (fun h189 => ?_)
        · have g189 := h189; try simp only [decide_eq_true_eq, decide_eq_false_iff_not] at g189
          have f189 := h189; try simp only [decide_eq_true_eq, decide_eq_false_iff_not, Bool.and_eq_true, Bool.or_eq_true, Bool.not_eq_true', Bool.not_eq_false', Bool.and_eq_false_iff, Bool.or_eq_false_iff, not_or, Int.not_lt, Int.not_le] at f189
          refine wq_on rfl rfl h189 ?_
          refine wq_v (o_move rfl) rfl ?_
          refine wq_on rfl rfl h189 ?_
          refine wq_v (o_move rfl) rfl ?_
          refine wq_on rfl rfl h189 ?_
          refine wq_v (o_len_s Tryz.underlying9 rfl) rfl ?_
          refine wq_on rfl rfl h189 ?_
          refine wq_v (o_sub rfl rfl (IntWalk.i64_in _ (by first | omega | (have := pat_pos (q := p) (by simp_all); omega) | (have := pat_pos (q := q) (by simp_all); omega)))) rfl ?_
          refine wq_on rfl rfl h189 ?_
          refine wq_v (o_slice_hi Tryz.underlying9 rfl rfl (by first | omega | (have := pat_pos (q := p) (by simp_all); omega) | (have := pat_pos (q := q) (by simp_all); omega)) (by first | omega | (have := pat_pos (q := p) (by simp_all); omega) | (have := pat_pos (q := q) (by simp_all); omega))) rfl ?_
          refine wq_on rfl rfl h189 ?_
          refine wq_v (o_move rfl) rfl ?_
          refine wq_on rfl rfl h189 ?_
          refine wq_v (o_move rfl) rfl ?_
          refine wq_on rfl rfl h189 ?_
          refine wq_v (o_len_s Tryz.underlying9 rfl) rfl ?_
          refine wq_on rfl rfl h189 ?_
          refine wq_v (o_sub rfl rfl (IntWalk.i64_in _ (by first | omega | (have := pat_pos (q := p) (by simp_all); omega) | (have := pat_pos (q := q) (by simp_all); omega)))) rfl ?_
          refine wq_on rfl rfl h189 ?_
          refine wq_v (o_slice_hi Tryz.underlying9 rfl rfl (by first | omega | (have := pat_pos (q := p) (by simp_all); omega) | (have := pat_pos (q := q) (by simp_all); omega)) (by first | omega | (have := pat_pos (q := p) (by simp_all); omega) | (have := pat_pos (q := q) (by simp_all); omega))) rfl ?_
          refine wq_on rfl rfl h189 ?_
          refine wq_call Tryz.call48 rfl (fun w hw => begins_r (List.take (Int.toNat ((q.length : Int) - 1)) q) (List.take (Int.toNat ((p.length : Int) - 1)) p) (by first | omega | (simp; done) | (simp; omega) | (simp at *; omega) | (split <;> first | omega | (simp; omega))) (by first | omega | (simp; done) | (simp; omega) | (simp at *; omega) | (split <;> first | omega | (simp; omega))) w) rfl ?_
          refine wq_v (o_pick_t rfl h189 rfl) rfl ?_
          refine wq_v (o_assign rfl) rfl ?_
          refine wq_nil ?_
          exact wk_then (wk_mid trivial ⟨fb (by first | (simp only [h187, h188, h189, Bool.true_and, Bool.false_and, Bool.true_or, Bool.false_or, Bool.and_true, Bool.and_false, Bool.or_true, Bool.or_false, Bool.not_true, Bool.not_false, cond_true, cond_false, if_true, if_false, reduceIte, Bool.false_eq_true]; done) | (simp only [Bool.true_and, Bool.false_and, Bool.true_or, Bool.false_or, Bool.and_true, Bool.and_false, Bool.or_true, Bool.or_false, Bool.not_true, Bool.not_false, cond_true, cond_false, if_true, if_false, reduceIte, Bool.false_eq_true]; done) | simp [h187, h188, h189]), trivial⟩ .slnil)
        · have g189 := h189; try simp only [decide_eq_true_eq, decide_eq_false_iff_not] at g189
          have f189 := h189; try simp only [decide_eq_true_eq, decide_eq_false_iff_not, Bool.and_eq_true, Bool.or_eq_true, Bool.not_eq_true', Bool.not_eq_false', Bool.and_eq_false_iff, Bool.or_eq_false_iff, not_or, Int.not_lt, Int.not_le] at f189
          refine wq_off rfl rfl h189 rfl ?_
          refine wq_off rfl rfl h189 rfl ?_
          refine wq_off rfl rfl h189 rfl ?_
          refine wq_off rfl rfl h189 rfl ?_
          refine wq_off rfl rfl h189 rfl ?_
          refine wq_off rfl rfl h189 rfl ?_
          refine wq_off rfl rfl h189 rfl ?_
          refine wq_off rfl rfl h189 rfl ?_
          refine wq_off rfl rfl h189 rfl ?_
          refine wq_off rfl rfl h189 rfl ?_
          refine wq_off rfl rfl h189 rfl ?_
          refine wq_v (o_pick_f rfl h189 rfl) rfl ?_
          refine wq_v (o_assign rfl) rfl ?_
          refine wq_nil ?_
          exact wk_then (wk_mid trivial ⟨fb (by first | (simp only [h187, h188, h189, Bool.true_and, Bool.false_and, Bool.true_or, Bool.false_or, Bool.and_true, Bool.and_false, Bool.or_true, Bool.or_false, Bool.not_true, Bool.not_false, cond_true, cond_false, if_true, if_false, reduceIte, Bool.false_eq_true]; done) | (simp only [Bool.true_and, Bool.false_and, Bool.true_or, Bool.false_or, Bool.and_true, Bool.and_false, Bool.or_true, Bool.or_false, Bool.not_true, Bool.not_false, cond_true, cond_false, if_true, if_false, reduceIte, Bool.false_eq_true]; done) | simp [h187, h188, h189]), trivial⟩ .slnil)
      refine wc_ret ?_
      refine wk_ret (r_1 rfl rfl) ?_
      exact retv (by rw [covR_open h187 f188])

end Go.Proofs.YtjkdkmcklocmnaaGreatDoor
