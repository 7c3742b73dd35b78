/-
  Walks, printed by a small program of ours (gsym.py).
-/
import Derived.Test.YtjkdkmcklocmnaaGreatDoorPlE
import Derived.Test.YtjkdkmcklocmnaaGreatDoorIdD
import Derived.Test.YtjkdkmcklocmnaaGreatDoorFwJ
namespace Go.Proofs.YtjkdkmcklocmnaaGreatDoor
open Go Go.RowKit
set_option linter.unusedVariables false
set_option linter.unusedSimpArgs false
set_option maxRecDepth 100000
theorem name_r (p : List UInt8) (hp : p.length ≤ 281474976710656) (w : World) : Calls Tryz.prog 8 [.string (B (p))].toArray w (RetV w (.bool (nameS p))) := by
  refine enter0 (n := 48) Tryz.func8 rfl Tryz.ntmps8 rfl ?_
  refine wc_seq ?_
  refine wc_region ?_
  refine wl_v (o_assign rfl) rfl ?_
  refine wl_nil ?_
  refine wk_then (wc_of_wk ?_)
  refine wc_seq ?_
  refine wc_seq_mid [(0, .string (B (p))), (2, .bool (false)), (17, .bool (((decide (((p.length : Int)) < (1))) || ((decide ((24) < ((p.length : Int)))) || (!(smallS (bat p 0)))))))] [] (φ := True) ?_ (fun hm160 => ?_)
  · refine wc_region ?_
    refine wl_v (o_move rfl) rfl ?_
    refine wl_v (o_len_s Tryz.underlying9 rfl) rfl ?_
    refine wl_v (o_lt rfl rfl) rfl ?_
    refine wl_v (o_move rfl) rfl ?_
    refine bsplit (decide (((p.length : Int)) < (1))) (fun h159 => ?_) (fun h159 => ?_)
    · have g159 := h159; try simp only [decide_eq_true_eq, decide_eq_false_iff_not] at g159
      have f159 := h159; try simp only [decide_eq_true_eq, decide_eq_false_iff_not, Bool.and_eq_true, Bool.or_eq_true, Bool.not_eq_true', Bool.not_eq_false', Bool.and_eq_false_iff, Bool.or_eq_false_iff, not_or, Int.not_lt, Int.not_le] at f159
      refine wl_off rfl rfl h159 rfl ?_
      refine wl_off rfl rfl h159 rfl ?_
      refine wl_off rfl rfl h159 rfl ?_
      refine wl_v (o_pick_t rfl h159 rfl) rfl ?_
      refine wl_v (o_move rfl) rfl ?_
      refine wl_off rfl rfl rfl rfl ?_
      refine wl_off rfl rfl rfl rfl ?_
      refine wl_off rfl rfl rfl rfl ?_
      refine wl_off rfl rfl rfl rfl ?_
      refine wl_v (o_pick_t rfl rfl rfl) rfl ?_
      refine wl_nil ?_
      exact wk_then (wk_mid trivial ⟨rfl, rfl, fb (by first | (simp only [h159, Bool.true_and, Bool.false_and, Bool.true_or, Bool.false_or, Bool.and_true, Bool.and_false, Bool.or_true, Bool.or_false, Bool.not_true, Bool.not_false, cond_true, cond_false, if_true, if_false, reduceIte, Bool.false_eq_true]; done) | (simp only [Bool.true_and, Bool.false_and, Bool.true_or, Bool.false_or, Bool.and_true, Bool.and_false, Bool.or_true, Bool.or_false, Bool.not_true, Bool.not_false, cond_true, cond_false, if_true, if_false, reduceIte, Bool.false_eq_true]; done) | simp [h159]), trivial⟩ .slnil)
    · have g159 := h159; try simp only [decide_eq_true_eq, decide_eq_false_iff_not] at g159
      have f159 := h159; try simp only [decide_eq_true_eq, decide_eq_false_iff_not, Bool.and_eq_true, Bool.or_eq_true, Bool.not_eq_true', Bool.not_eq_false', Bool.and_eq_false_iff, Bool.or_eq_false_iff, not_or, Int.not_lt, Int.not_le] at f159
      refine wl_on rfl rfl h159 ?_
      refine wl_v (o_move rfl) rfl ?_
      refine wl_on rfl rfl h159 ?_
      refine wl_v (o_len_s Tryz.underlying9 rfl) rfl ?_
      refine wl_on rfl rfl h159 ?_
      refine wl_v (o_gt rfl rfl) rfl ?_
      refine wl_v (o_pick_f rfl h159 rfl) rfl ?_
      refine wl_v (o_move rfl) rfl ?_
      refine bsplit (decide ((24) < ((p.length : Int)))) (fun h160 => ?_) (fun h160 => ?_)
      · have g160 := h160; try simp only [decide_eq_true_eq, decide_eq_false_iff_not] at g160
        have f160 := h160; try simp only [decide_eq_true_eq, decide_eq_false_iff_not, Bool.and_eq_true, Bool.or_eq_true, Bool.not_eq_true', Bool.not_eq_false', Bool.and_eq_false_iff, Bool.or_eq_false_iff, not_or, Int.not_lt, Int.not_le] at f160
        refine wl_off rfl rfl h160 rfl ?_
        refine wl_off rfl rfl h160 rfl ?_
        refine wl_off rfl rfl h160 rfl ?_
        refine wl_off rfl rfl h160 rfl ?_
        refine wl_v (o_pick_t rfl h160 rfl) rfl ?_
        refine wl_nil ?_
        exact wk_then (wk_mid trivial ⟨rfl, rfl, fb (by first | (simp only [h159, h160, Bool.true_and, Bool.false_and, Bool.true_or, Bool.false_or, Bool.and_true, Bool.and_false, Bool.or_true, Bool.or_false, Bool.not_true, Bool.not_false, cond_true, cond_false, if_true, if_false, reduceIte, Bool.false_eq_true]; done) | (simp only [Bool.true_and, Bool.false_and, Bool.true_or, Bool.false_or, Bool.and_true, Bool.and_false, Bool.or_true, Bool.or_false, Bool.not_true, Bool.not_false, cond_true, cond_false, if_true, if_false, reduceIte, Bool.false_eq_true]; done) | simp [h159, h160]), trivial⟩ .slnil)
      · have g160 := h160; try simp only [decide_eq_true_eq, decide_eq_false_iff_not] at g160
        have f160 := h160; try simp only [decide_eq_true_eq, decide_eq_false_iff_not, Bool.and_eq_true, Bool.or_eq_true, Bool.not_eq_true', Bool.not_eq_false', Bool.and_eq_false_iff, Bool.or_eq_false_iff, not_or, Int.not_lt, Int.not_le] at f160
        refine wl_on rfl rfl h160 ?_
        refine wl_v (o_move rfl) rfl ?_
        refine wl_on rfl rfl h160 ?_
        refine wl_v (o_index_b Tryz.underlying9 rfl rfl (by first | omega | (simp; omega) | (simp at *; omega)) (by first | omega | (simp; omega) | (simp at *; omega))) rfl ?_
        refine wl_on rfl rfl h160 ?_
        refine w_call Tryz.call28 rfl (fun w hw => small_r (bat p 0) w) rfl ?_
        refine wl_on rfl rfl h160 ?_
        refine wl_v (o_not rfl) rfl ?_
        refine wl_v (o_pick_f rfl h160 rfl) rfl ?_
        refine wl_nil ?_
        exact wk_then (wk_mid trivial ⟨rfl, rfl, fb (by first | (simp only [h159, h160, Bool.true_and, Bool.false_and, Bool.true_or, Bool.false_or, Bool.and_true, Bool.and_false, Bool.or_true, Bool.or_false, Bool.not_true, Bool.not_false, cond_true, cond_false, if_true, if_false, reduceIte, Bool.false_eq_true]; done) | (simp only [Bool.true_and, Bool.false_and, Bool.true_or, Bool.false_or, Bool.and_true, Bool.and_false, Bool.or_true, Bool.or_false, Bool.not_true, Bool.not_false, cond_true, cond_false, if_true, if_false, reduceIte, Bool.false_eq_true]; done) | simp [h159, h160]), trivial⟩ .slnil)
  refine wc_cond (b := ((decide (((p.length : Int)) < (1))) || ((decide ((24) < ((p.length : Int)))) || (!(smallS (bat p 0)))))) rfl (fun h162 => ?_) (fun h162 => ?_)
  · have g162 := h162; try simp only [decide_eq_true_eq, decide_eq_false_iff_not] at g162
    have f162 := h162; try simp only [decide_eq_true_eq, decide_eq_false_iff_not, Bool.and_eq_true, Bool.or_eq_true, Bool.not_eq_true', Bool.not_eq_false', Bool.and_eq_false_iff, Bool.or_eq_false_iff, not_or, Int.not_lt, Int.not_le] at f162
    refine wc_seq ?_
    refine wc_region ?_
    refine wl_v (o_assign rfl) rfl ?_
    refine wl_nil ?_
    refine wk_then (wc_of_wk ?_)
    refine wc_ret ?_
    refine wk_then_ret ?_
    refine wk_ret (r_1 rfl rfl) ?_
    exact retv (by rw [nameR_no h162])
  · have g162 := h162; try simp only [decide_eq_true_eq, decide_eq_false_iff_not] at g162
    have f162 := h162; try simp only [decide_eq_true_eq, decide_eq_false_iff_not, Bool.and_eq_true, Bool.or_eq_true, Bool.not_eq_true', Bool.not_eq_false', Bool.and_eq_false_iff, Bool.or_eq_false_iff, not_or, Int.not_lt, Int.not_le] at f162
    refine wc_skip ?_
    refine wk_then (wc_of_wk ?_)
    refine wc_seq ?_
    refine wc_seq ?_
    refine wc_region ?_
    refine wl_v (o_assign rfl) rfl ?_
    refine wl_nil ?_
    refine wk_then (wc_of_wk ?_)
    refine wc_block ?_
    refine wc_loop (S := Nat) (fun (k : Nat) => 1 ≤ k ∧ (k ≤ p.length ∧ nameS p = allFrom nameCh k (p.drop k))) (fun (k : Nat) => [(3, .int .i64 ((k : Int))), (0, .string (B (p)))]) (fun (k : Nat) => []) (fun (k : Nat) => p.length - k) (1) ?_ ⟨fi (by first | rfl | (simp; done) | omega | (simp; omega)), rfl, trivial⟩ .slnil ?_
    · exact ⟨Nat.le_refl _, nameR_0 (by simp [h162])⟩
    rintro k hi0
    have hk1 := hi0.1
    refine wc_seq ?_
    refine wc_seq ?_
    refine wc_region ?_
    refine wl_v (o_move rfl) rfl ?_
    refine wl_v (o_move rfl) rfl ?_
    refine wl_v (o_len_s Tryz.underlying9 rfl) rfl ?_
    refine wl_v (o_lt rfl rfl) rfl ?_
    refine wl_nil ?_
    refine wk_then (wc_of_wk ?_)
    refine wc_cond (b := decide (((k : Int)) < ((p.length : Int)))) rfl (fun h163 => ?_) (fun h163 => ?_)
    · have g163 := h163; try simp only [decide_eq_true_eq, decide_eq_false_iff_not] at g163
      have f163 := h163; try simp only [decide_eq_true_eq, decide_eq_false_iff_not, Bool.and_eq_true, Bool.or_eq_true, Bool.not_eq_true', Bool.not_eq_false', Bool.and_eq_false_iff, Bool.or_eq_false_iff, not_or, Int.not_lt, Int.not_le] at f163
      refine wc_skip ?_
      refine wk_then (wc_of_wk ?_)
      refine wc_seq ?_
      refine wc_block ?_
      refine wc_seq_mid [(0, .string (B (p))), (3, .int .i64 ((k : Int))), (18, .int .i64 ((k : Int))), (19, .string (B (p))), (20, .int .i64 ((p.length : Int))), (21, .bool (decide (((k : Int)) < ((p.length : Int))))), (24, .string (B (p))), (25, .int .i64 ((k : Int))), (26, .int .u8 (bat p (k : Int))), (27, .bool (smallS (bat p (k : Int)))), (28, .bool (!(smallS (bat p (k : Int))))), (29, .bool (!(smallS (bat p (k : Int))))), (35, .bool (((!(smallS (bat p (k : Int)))) && (!(digitS (bat p (k : Int))))))), (36, .bool (((!(smallS (bat p (k : Int)))) && (!(digitS (bat p (k : Int))))))), (41, .bool (((!(smallS (bat p (k : Int)))) && ((!(digitS (bat p (k : Int)))) && (!(decide ((bat p (k : Int)) = (45)))))))), (42, .bool (((!(smallS (bat p (k : Int)))) && ((!(digitS (bat p (k : Int)))) && (!(decide ((bat p (k : Int)) = (45)))))))), (47, .bool (((!(smallS (bat p (k : Int)))) && ((!(digitS (bat p (k : Int)))) && ((!(decide ((bat p (k : Int)) = (45)))) && (!(decide ((bat p (k : Int)) = (95)))))))))] [] (φ := True) ?_ (fun hm166 => ?_)
      · refine wc_region ?_
        refine wl_v (o_move rfl) rfl ?_
        refine wl_v (o_move rfl) rfl ?_
        refine wl_v (o_index_b Tryz.underlying9 rfl rfl (by first | omega | (simp; omega) | (simp at *; omega)) (by first | omega | (simp; omega) | (simp at *; omega))) rfl ?_
        refine w_call Tryz.call28 rfl (fun w hw => small_r (bat p (k : Int)) w) rfl ?_
        refine wl_v (o_not rfl) rfl ?_
        refine wl_v (o_move rfl) rfl ?_
        refine bsplit (!(smallS (bat p (k : Int)))) (fun h164 => ?_) (fun h164 => ?_)
        · have g164 := h164; try simp only [decide_eq_true_eq, decide_eq_false_iff_not] at g164
          have f164 := h164; try simp only [decide_eq_true_eq, decide_eq_false_iff_not, Bool.and_eq_true, Bool.or_eq_true, Bool.not_eq_true', Bool.not_eq_false', Bool.and_eq_false_iff, Bool.or_eq_false_iff, not_or, Int.not_lt, Int.not_le] at f164
          refine wl_on rfl rfl h164 ?_
          refine wl_v (o_move rfl) rfl ?_
          refine wl_on rfl rfl h164 ?_
          refine wl_v (o_move rfl) rfl ?_
          refine wl_on rfl rfl h164 ?_
          refine wl_v (o_index_b Tryz.underlying9 rfl rfl (by first | omega | (simp; omega) | (simp at *; omega)) (by first | omega | (simp; omega) | (simp at *; omega))) rfl ?_
          refine wl_on rfl rfl h164 ?_
          refine w_call Tryz.call29 rfl (fun w hw => digit_r (bat p (k : Int)) w) rfl ?_
          refine wl_on rfl rfl h164 ?_
          refine wl_v (o_not rfl) rfl ?_
          refine wl_v (o_pick_t rfl h164 rfl) rfl ?_
          refine wl_v (o_move rfl) rfl ?_
          refine bsplit (!(digitS (bat p (k : Int)))) (fun h165 => ?_) (fun h165 => ?_)
          · have g165 := h165; try simp only [decide_eq_true_eq, decide_eq_false_iff_not] at g165
            have f165 := h165; try simp only [decide_eq_true_eq, decide_eq_false_iff_not, Bool.and_eq_true, Bool.or_eq_true, Bool.not_eq_true', Bool.not_eq_false', Bool.and_eq_false_iff, Bool.or_eq_false_iff, not_or, Int.not_lt, Int.not_le] at f165
            refine wl_on rfl rfl h165 ?_
            refine wl_v (o_move rfl) rfl ?_
            refine wl_on rfl rfl h165 ?_
            refine wl_v (o_move rfl) rfl ?_
            refine wl_on rfl rfl h165 ?_
            refine wl_v (o_index_b Tryz.underlying9 rfl rfl (by first | omega | (simp; omega) | (simp at *; omega)) (by first | omega | (simp; omega) | (simp at *; omega))) rfl ?_
            refine wl_on rfl rfl h165 ?_
            refine wl_v (o_ne rfl rfl) rfl ?_
            refine wl_v (o_pick_t rfl h165 rfl) rfl ?_
            refine wl_v (o_move rfl) rfl ?_
            refine bsplit (!(decide ((bat p (k : Int)) = (45)))) (fun h166 => ?_) (fun h166 => ?_)
            · have g166 := h166; try simp only [decide_eq_true_eq, decide_eq_false_iff_not] at g166
              have f166 := h166; try simp only [decide_eq_true_eq, decide_eq_false_iff_not, Bool.and_eq_true, Bool.or_eq_true, Bool.not_eq_true', Bool.not_eq_false', Bool.and_eq_false_iff, Bool.or_eq_false_iff, not_or, Int.not_lt, Int.not_le] at f166
              refine wl_on rfl rfl h166 ?_
              refine wl_v (o_move rfl) rfl ?_
              refine wl_on rfl rfl h166 ?_
              refine wl_v (o_move rfl) rfl ?_
              refine wl_on rfl rfl h166 ?_
              refine wl_v (o_index_b Tryz.underlying9 rfl rfl (by first | omega | (simp; omega) | (simp at *; omega)) (by first | omega | (simp; omega) | (simp at *; omega))) rfl ?_
              refine wl_on rfl rfl h166 ?_
              refine wl_v (o_ne rfl rfl) rfl ?_
              refine wl_v (o_pick_t rfl h166 rfl) rfl ?_
              refine wl_nil ?_
              exact wk_then (wk_mid trivial ⟨rfl, rfl, rfl, rfl, rfl, rfl, rfl, rfl, rfl, rfl, rfl, rfl, fb (by first | (simp only [h162, h163, h164, h165, h166, Bool.true_and, Bool.false_and, Bool.true_or, Bool.false_or, Bool.and_true, Bool.and_false, Bool.or_true, Bool.or_false, Bool.not_true, Bool.not_false, cond_true, cond_false, if_true, if_false, reduceIte, Bool.false_eq_true]; done) | (simp only [Bool.true_and, Bool.false_and, Bool.true_or, Bool.false_or, Bool.and_true, Bool.and_false, Bool.or_true, Bool.or_false, Bool.not_true, Bool.not_false, cond_true, cond_false, if_true, if_false, reduceIte, Bool.false_eq_true]; done) | simp [h162, h163, h164, h165, h166]), fb (by first | (simp only [h162, h163, h164, h165, h166, Bool.true_and, Bool.false_and, Bool.true_or, Bool.false_or, Bool.and_true, Bool.and_false, Bool.or_true, Bool.or_false, Bool.not_true, Bool.not_false, cond_true, cond_false, if_true, if_false, reduceIte, Bool.false_eq_true]; done) | (simp only [Bool.true_and, Bool.false_and, Bool.true_or, Bool.false_or, Bool.and_true, Bool.and_false, Bool.or_true, Bool.or_false, Bool.not_true, Bool.not_false, cond_true, cond_false, if_true, if_false, reduceIte, Bool.false_eq_true]; done) | simp [h162, h163, h164, h165, h166]), fb (by first | (simp only [h162, h163, h164, h165, h166, Bool.true_and, Bool.false_and, Bool.true_or, Bool.false_or, Bool.and_true, Bool.and_false, Bool.or_true, Bool.or_false, Bool.not_true, Bool.not_false, cond_true, cond_false, if_true, if_false, reduceIte, Bool.false_eq_true]; done) | (simp only [Bool.true_and, Bool.false_and, Bool.true_or, Bool.false_or, Bool.and_true, Bool.and_false, Bool.or_true, Bool.or_false, Bool.not_true, Bool.not_false, cond_true, cond_false, if_true, if_false, reduceIte, Bool.false_eq_true]; done) | simp [h162, h163, h164, h165, h166]), fb (by first | (simp only [h162, h163, h164, h165, h166, Bool.true_and, Bool.false_and, Bool.true_or, Bool.false_or, Bool.and_true, Bool.and_false, Bool.or_true, Bool.or_false, Bool.not_true, Bool.not_false, cond_true, cond_false, if_true, if_false, reduceIte, Bool.false_eq_true]; done) | (simp only [Bool.true_and, Bool.false_and, Bool.true_or, Bool.false_or, Bool.and_true, Bool.and_false, Bool.or_true, Bool.or_false, Bool.not_true, Bool.not_false, cond_true, cond_false, if_true, if_false, reduceIte, Bool.false_eq_true]; done) | simp [h162, h163, h164, h165, h166]), fb (by first | (simp only [h162, h163, h164, h165, h166, Bool.true_and, Bool.false_and, Bool.true_or, Bool.false_or, Bool.and_true, Bool.and_false, Bool.or_true, Bool.or_false, Bool.not_true, Bool.not_false, cond_true, cond_false, if_true, if_false, reduceIte, Bool.false_eq_true]; done) | (simp only [Bool.true_and, Bool.false_and, Bool.true_or, Bool.false_or, Bool.and_true, Bool.and_false, Bool.or_true, Bool.or_false, Bool.not_true, Bool.not_false, cond_true, cond_false, if_true, if_false, reduceIte, Bool.false_eq_true]; done) | simp [h162, h163, h164, h165, h166]), trivial⟩ .slnil)
            · have g166 := h166; try simp only [decide_eq_true_eq, decide_eq_false_iff_not] at g166
              have f166 := h166; try simp only [decide_eq_true_eq, decide_eq_false_iff_not, Bool.and_eq_true, Bool.or_eq_true, Bool.not_eq_true', Bool.not_eq_false', Bool.and_eq_false_iff, Bool.or_eq_false_iff, not_or, Int.not_lt, Int.not_le] at f166
              refine wl_off rfl rfl h166 rfl ?_
              refine wl_off rfl rfl h166 rfl ?_
              refine wl_off rfl rfl h166 rfl ?_
              refine wl_off rfl rfl h166 rfl ?_
              refine wl_v (o_pick_f rfl h166 rfl) rfl ?_
              refine wl_nil ?_
              exact wk_then (wk_mid trivial ⟨rfl, rfl, rfl, rfl, rfl, rfl, rfl, rfl, rfl, rfl, rfl, rfl, fb (by first | (simp only [h162, h163, h164, h165, h166, Bool.true_and, Bool.false_and, Bool.true_or, Bool.false_or, Bool.and_true, Bool.and_false, Bool.or_true, Bool.or_false, Bool.not_true, Bool.not_false, cond_true, cond_false, if_true, if_false, reduceIte, Bool.false_eq_true]; done) | (simp only [Bool.true_and, Bool.false_and, Bool.true_or, Bool.false_or, Bool.and_true, Bool.and_false, Bool.or_true, Bool.or_false, Bool.not_true, Bool.not_false, cond_true, cond_false, if_true, if_false, reduceIte, Bool.false_eq_true]; done) | simp [h162, h163, h164, h165, h166]), fb (by first | (simp only [h162, h163, h164, h165, h166, Bool.true_and, Bool.false_and, Bool.true_or, Bool.false_or, Bool.and_true, Bool.and_false, Bool.or_true, Bool.or_false, Bool.not_true, Bool.not_false, cond_true, cond_false, if_true, if_false, reduceIte, Bool.false_eq_true]; done) | (simp only [Bool.true_and, Bool.false_and, Bool.true_or, Bool.false_or, Bool.and_true, Bool.and_false, Bool.or_true, Bool.or_false, Bool.not_true, Bool.not_false, cond_true, cond_false, if_true, if_false, reduceIte, Bool.false_eq_true]; done) | simp [h162, h163, h164, h165, h166]), fb (by first | (simp only [h162, h163, h164, h165, h166, Bool.true_and, Bool.false_and, Bool.true_or, Bool.false_or, Bool.and_true, Bool.and_false, Bool.or_true, Bool.or_false, Bool.not_true, Bool.not_false, cond_true, cond_false, if_true, if_false, reduceIte, Bool.false_eq_true]; done) | (simp only [Bool.true_and, Bool.false_and, Bool.true_or, Bool.false_or, Bool.and_true, Bool.and_false, Bool.or_true, Bool.or_false, Bool.not_true, Bool.not_false, cond_true, cond_false, if_true, if_false, reduceIte, Bool.false_eq_true]; done) | simp [h162, h163, h164, h165, h166]), fb (by first | (simp only [h162, h163, h164, h165, h166, Bool.true_and, Bool.false_and, Bool.true_or, Bool.false_or, Bool.and_true, Bool.and_false, Bool.or_true, Bool.or_false, Bool.not_true, Bool.not_false, cond_true, cond_false, if_true, if_false, reduceIte, Bool.false_eq_true]; done) | (simp only [Bool.true_and, Bool.false_and, Bool.true_or, Bool.false_or, Bool.and_true, Bool.and_false, Bool.or_true, Bool.or_false, Bool.not_true, Bool.not_false, cond_true, cond_false, if_true, if_false, reduceIte, Bool.false_eq_true]; done) | simp [h162, h163, h164, h165, h166]), fb (by first | (simp only [h162, h163, h164, h165, h166, Bool.true_and, Bool.false_and, Bool.true_or, Bool.false_or, Bool.and_true, Bool.and_false, Bool.or_true, Bool.or_false, Bool.not_true, Bool.not_false, cond_true, cond_false, if_true, if_false, reduceIte, Bool.false_eq_true]; done) | (simp only [Bool.true_and, Bool.false_and, Bool.true_or, Bool.false_or, Bool.and_true, Bool.and_false, Bool.or_true, Bool.or_false, Bool.not_true, Bool.not_false, cond_true, cond_false, if_true, if_false, reduceIte, Bool.false_eq_true]; done) | simp [h162, h163, h164, h165, h166]), trivial⟩ .slnil)
          · have g165 := h165; try simp only [decide_eq_true_eq, decide_eq_false_iff_not] at g165
            have f165 := h165; try simp only [decide_eq_true_eq, decide_eq_false_iff_not, Bool.and_eq_true, Bool.or_eq_true, Bool.not_eq_true', Bool.not_eq_false', Bool.and_eq_false_iff, Bool.or_eq_false_iff, not_or, Int.not_lt, Int.not_le] at f165
            refine wl_off rfl rfl h165 rfl ?_
            refine wl_off rfl rfl h165 rfl ?_
            refine wl_off rfl rfl h165 rfl ?_
            refine wl_off rfl rfl h165 rfl ?_
            refine wl_v (o_pick_f rfl h165 rfl) rfl ?_
            refine wl_v (o_move rfl) rfl ?_
            refine wl_off rfl rfl rfl rfl ?_
            refine wl_off rfl rfl rfl rfl ?_
            refine wl_off rfl rfl rfl rfl ?_
            refine wl_off rfl rfl rfl rfl ?_
            refine wl_v (o_pick_f rfl rfl rfl) rfl ?_
            refine wl_nil ?_
            exact wk_then (wk_mid trivial ⟨rfl, rfl, rfl, rfl, rfl, rfl, rfl, rfl, rfl, rfl, rfl, rfl, fb (by first | (simp only [h162, h163, h164, h165, Bool.true_and, Bool.false_and, Bool.true_or, Bool.false_or, Bool.and_true, Bool.and_false, Bool.or_true, Bool.or_false, Bool.not_true, Bool.not_false, cond_true, cond_false, if_true, if_false, reduceIte, Bool.false_eq_true]; done) | (simp only [Bool.true_and, Bool.false_and, Bool.true_or, Bool.false_or, Bool.and_true, Bool.and_false, Bool.or_true, Bool.or_false, Bool.not_true, Bool.not_false, cond_true, cond_false, if_true, if_false, reduceIte, Bool.false_eq_true]; done) | simp [h162, h163, h164, h165]), fb (by first | (simp only [h162, h163, h164, h165, Bool.true_and, Bool.false_and, Bool.true_or, Bool.false_or, Bool.and_true, Bool.and_false, Bool.or_true, Bool.or_false, Bool.not_true, Bool.not_false, cond_true, cond_false, if_true, if_false, reduceIte, Bool.false_eq_true]; done) | (simp only [Bool.true_and, Bool.false_and, Bool.true_or, Bool.false_or, Bool.and_true, Bool.and_false, Bool.or_true, Bool.or_false, Bool.not_true, Bool.not_false, cond_true, cond_false, if_true, if_false, reduceIte, Bool.false_eq_true]; done) | simp [h162, h163, h164, h165]), fb (by first | (simp only [h162, h163, h164, h165, Bool.true_and, Bool.false_and, Bool.true_or, Bool.false_or, Bool.and_true, Bool.and_false, Bool.or_true, Bool.or_false, Bool.not_true, Bool.not_false, cond_true, cond_false, if_true, if_false, reduceIte, Bool.false_eq_true]; done) | (simp only [Bool.true_and, Bool.false_and, Bool.true_or, Bool.false_or, Bool.and_true, Bool.and_false, Bool.or_true, Bool.or_false, Bool.not_true, Bool.not_false, cond_true, cond_false, if_true, if_false, reduceIte, Bool.false_eq_true]; done) | simp [h162, h163, h164, h165]), fb (by first | (simp only [h162, h163, h164, h165, Bool.true_and, Bool.false_and, Bool.true_or, Bool.false_or, Bool.and_true, Bool.and_false, Bool.or_true, Bool.or_false, Bool.not_true, Bool.not_false, cond_true, cond_false, if_true, if_false, reduceIte, Bool.false_eq_true]; done) | (simp only [Bool.true_and, Bool.false_and, Bool.true_or, Bool.false_or, Bool.and_true, Bool.and_false, Bool.or_true, Bool.or_false, Bool.not_true, Bool.not_false, cond_true, cond_false, if_true, if_false, reduceIte, Bool.false_eq_true]; done) | simp [h162, h163, h164, h165]), fb (by first | (simp only [h162, h163, h164, h165, Bool.true_and, Bool.false_and, Bool.true_or, Bool.false_or, Bool.and_true, Bool.and_false, Bool.or_true, Bool.or_false, Bool.not_true, Bool.not_false, cond_true, cond_false, if_true, if_false, reduceIte, Bool.false_eq_true]; done) | (simp only [Bool.true_and, Bool.false_and, Bool.true_or, Bool.false_or, Bool.and_true, Bool.and_false, Bool.or_true, Bool.or_false, Bool.not_true, Bool.not_false, cond_true, cond_false, if_true, if_false, reduceIte, Bool.false_eq_true]; done) | simp [h162, h163, h164, h165]), trivial⟩ .slnil)
        · have g164 := h164; try simp only [decide_eq_true_eq, decide_eq_false_iff_not] at g164
          have f164 := h164; try simp only [decide_eq_true_eq, decide_eq_false_iff_not, Bool.and_eq_true, Bool.or_eq_true, Bool.not_eq_true', Bool.not_eq_false', Bool.and_eq_false_iff, Bool.or_eq_false_iff, not_or, Int.not_lt, Int.not_le] at f164
          refine wl_off rfl rfl h164 rfl ?_
          refine wl_off rfl rfl h164 rfl ?_
          refine wl_off rfl rfl h164 rfl ?_
          refine wl_off rfl rfl h164 rfl ?_
          refine wl_off rfl rfl h164 rfl ?_
          refine wl_v (o_pick_f rfl h164 rfl) rfl ?_
          refine wl_v (o_move rfl) rfl ?_
          refine wl_off rfl rfl rfl rfl ?_
          refine wl_off rfl rfl rfl rfl ?_
          refine wl_off rfl rfl rfl rfl ?_
          refine wl_off rfl rfl rfl rfl ?_
          refine wl_v (o_pick_f rfl rfl rfl) rfl ?_
          refine wl_v (o_move rfl) rfl ?_
          refine wl_off rfl rfl rfl rfl ?_
          refine wl_off rfl rfl rfl rfl ?_
          refine wl_off rfl rfl rfl rfl ?_
          refine wl_off rfl rfl rfl rfl ?_
          refine wl_v (o_pick_f rfl rfl rfl) rfl ?_
          refine wl_nil ?_
          exact wk_then (wk_mid trivial ⟨rfl, rfl, rfl, rfl, rfl, rfl, rfl, rfl, rfl, rfl, rfl, rfl, fb (by first | (simp only [h162, h163, h164, Bool.true_and, Bool.false_and, Bool.true_or, Bool.false_or, Bool.and_true, Bool.and_false, Bool.or_true, Bool.or_false, Bool.not_true, Bool.not_false, cond_true, cond_false, if_true, if_false, reduceIte, Bool.false_eq_true]; done) | (simp only [Bool.true_and, Bool.false_and, Bool.true_or, Bool.false_or, Bool.and_true, Bool.and_false, Bool.or_true, Bool.or_false, Bool.not_true, Bool.not_false, cond_true, cond_false, if_true, if_false, reduceIte, Bool.false_eq_true]; done) | simp [h162, h163, h164]), fb (by first | (simp only [h162, h163, h164, Bool.true_and, Bool.false_and, Bool.true_or, Bool.false_or, Bool.and_true, Bool.and_false, Bool.or_true, Bool.or_false, Bool.not_true, Bool.not_false, cond_true, cond_false, if_true, if_false, reduceIte, Bool.false_eq_true]; done) | (simp only [Bool.true_and, Bool.false_and, Bool.true_or, Bool.false_or, Bool.and_true, Bool.and_false, Bool.or_true, Bool.or_false, Bool.not_true, Bool.not_false, cond_true, cond_false, if_true, if_false, reduceIte, Bool.false_eq_true]; done) | simp [h162, h163, h164]), fb (by first | (simp only [h162, h163, h164, Bool.true_and, Bool.false_and, Bool.true_or, Bool.false_or, Bool.and_true, Bool.and_false, Bool.or_true, Bool.or_false, Bool.not_true, Bool.not_false, cond_true, cond_false, if_true, if_false, reduceIte, Bool.false_eq_true]; done) | (simp only [Bool.true_and, Bool.false_and, Bool.true_or, Bool.false_or, Bool.and_true, Bool.and_false, Bool.or_true, Bool.or_false, Bool.not_true, Bool.not_false, cond_true, cond_false, if_true, if_false, reduceIte, Bool.false_eq_true]; done) | simp [h162, h163, h164]), fb (by first | (simp only [h162, h163, h164, Bool.true_and, Bool.false_and, Bool.true_or, Bool.false_or, Bool.and_true, Bool.and_false, Bool.or_true, Bool.or_false, Bool.not_true, Bool.not_false, cond_true, cond_false, if_true, if_false, reduceIte, Bool.false_eq_true]; done) | (simp only [Bool.true_and, Bool.false_and, Bool.true_or, Bool.false_or, Bool.and_true, Bool.and_false, Bool.or_true, Bool.or_false, Bool.not_true, Bool.not_false, cond_true, cond_false, if_true, if_false, reduceIte, Bool.false_eq_true]; done) | simp [h162, h163, h164]), fb (by first | (simp only [h162, h163, h164, Bool.true_and, Bool.false_and, Bool.true_or, Bool.false_or, Bool.and_true, Bool.and_false, Bool.or_true, Bool.or_false, Bool.not_true, Bool.not_false, cond_true, cond_false, if_true, if_false, reduceIte, Bool.false_eq_true]; done) | (simp only [Bool.true_and, Bool.false_and, Bool.true_or, Bool.false_or, Bool.and_true, Bool.and_false, Bool.or_true, Bool.or_false, Bool.not_true, Bool.not_false, cond_true, cond_false, if_true, if_false, reduceIte, Bool.false_eq_true]; done) | simp [h162, h163, h164]), trivial⟩ .slnil)
      refine wc_cond (b := ((!(smallS (bat p (k : Int)))) && ((!(digitS (bat p (k : Int)))) && ((!(decide ((bat p (k : Int)) = (45)))) && (!(decide ((bat p (k : Int)) = (95)))))))) rfl (fun h168 => ?_) (fun h168 => ?_)
      · have g168 := h168; try simp only [decide_eq_true_eq, decide_eq_false_iff_not] at g168
        have f168 := h168; try simp only [decide_eq_true_eq, decide_eq_false_iff_not, Bool.and_eq_true, Bool.or_eq_true, Bool.not_eq_true', Bool.not_eq_false', Bool.and_eq_false_iff, Bool.or_eq_false_iff, not_or, Int.not_lt, Int.not_le] at f168
        refine wc_seq ?_
        refine wc_region ?_
        refine wl_v (o_assign rfl) rfl ?_
        refine wl_nil ?_
        refine wk_then (wc_of_wk ?_)
        refine wc_ret ?_
        refine wk_in_ret ?_
        refine wk_then_ret ?_
        refine wk_then_ret ?_
        refine wk_in_ret ?_
        refine wk_then_ret ?_
        refine wk_ret (r_1 rfl rfl) ?_
        exact retv (by rw [at_no (nameCh_pos hi0.1) hi0.2 g163 (by simp only [nameT1]; revert h168; cases smallS (bat p ↑k) <;> cases digitS (bat p ↑k) <;> simp)])
      · have g168 := h168; try simp only [decide_eq_true_eq, decide_eq_false_iff_not] at g168
        have f168 := h168; try simp only [decide_eq_true_eq, decide_eq_false_iff_not, Bool.and_eq_true, Bool.or_eq_true, Bool.not_eq_true', Bool.not_eq_false', Bool.and_eq_false_iff, Bool.or_eq_false_iff, not_or, Int.not_lt, Int.not_le] at f168
        refine wc_skip ?_
        refine wk_in_norm ?_
        refine wk_then (wc_of_wk ?_)
        refine wc_region ?_
        refine wl_v (o_move rfl) rfl ?_
        refine wl_v (o_add rfl rfl (IntWalk.i64_in _ (by omega))) rfl ?_
        refine wl_v (o_assign rfl) rfl ?_
        refine wl_nil ?_
        refine wk_then ?_
        refine wk_some (k + 1) ?_ ⟨fi (by first | rfl | (simp; done) | omega | (simp; omega)), rfl, trivial⟩ .slnil
        exact ⟨⟨by omega, at_next (nameCh_pos hi0.1) hi0.2 g163 (by simp only [nameT1]; revert h168; cases smallS (bat p ↑k) <;> cases digitS (bat p ↑k) <;> simp <;> omega)⟩, by omega⟩
    · have g163 := h163; try simp only [decide_eq_true_eq, decide_eq_false_iff_not] at g163
      have f163 := h163; try simp only [decide_eq_true_eq, decide_eq_false_iff_not, Bool.and_eq_true, Bool.or_eq_true, Bool.not_eq_true', Bool.not_eq_false', Bool.and_eq_false_iff, Bool.or_eq_false_iff, not_or, Int.not_lt, Int.not_le] at f163
      refine wc_exit ?_
      refine wk_then_exit ?_
      refine wk_then_exit ?_
      refine wk_in_hit ?_
      refine wk_then (wc_of_wk ?_)
      refine wc_seq ?_
      refine wc_region ?_
      refine wl_v (o_assign rfl) rfl ?_
      refine wl_nil ?_
      refine wk_then (wc_of_wk ?_)
      refine wc_ret ?_
      refine wk_ret (r_1 rfl rfl) ?_
      exact retv (by rw [at_end hi0.2 g163])

theorem id_r (p : List UInt8) (hp : p.length ≤ 281474976710656) (w : World) : Calls Tryz.prog 10 [.string (B (p))].toArray w (RetV w (.bool (idS p))) := by
  refine enter0 (n := 23) Tryz.func10 rfl Tryz.ntmps10 rfl ?_
  refine wc_seq ?_
  refine wc_region ?_
  refine wl_v (o_assign rfl) rfl ?_
  refine wl_nil ?_
  refine wk_then (wc_of_wk ?_)
  refine wc_seq ?_
  refine wc_seq_mid [(0, .string (B (p))), (2, .bool (false)), (11, .bool (((decide (((p.length : Int)) < (1))) || (decide ((64) < ((p.length : Int)))))))] [] (φ := True) ?_ (fun hm169 => ?_)
  · refine wc_region ?_
    refine wl_v (o_move rfl) rfl ?_
    refine wl_v (o_len_s Tryz.underlying9 rfl) rfl ?_
    refine wl_v (o_lt rfl rfl) rfl ?_
    refine wl_v (o_move rfl) rfl ?_
    refine bsplit (decide (((p.length : Int)) < (1))) (fun h169 => ?_) (fun h169 => ?_)
    · have g169 := h169; try simp only [decide_eq_true_eq, decide_eq_false_iff_not] at g169
      have f169 := h169; try simp only [decide_eq_true_eq, decide_eq_false_iff_not, Bool.and_eq_true, Bool.or_eq_true, Bool.not_eq_true', Bool.not_eq_false', Bool.and_eq_false_iff, Bool.or_eq_false_iff, not_or, Int.not_lt, Int.not_le] at f169
      refine wl_off rfl rfl h169 rfl ?_
      refine wl_off rfl rfl h169 rfl ?_
      refine wl_off rfl rfl h169 rfl ?_
      refine wl_v (o_pick_t rfl h169 rfl) rfl ?_
      refine wl_nil ?_
      exact wk_then (wk_mid trivial ⟨rfl, rfl, fb (by first | (simp only [h169, Bool.true_and, Bool.false_and, Bool.true_or, Bool.false_or, Bool.and_true, Bool.and_false, Bool.or_true, Bool.or_false, Bool.not_true, Bool.not_false, cond_true, cond_false, if_true, if_false, reduceIte, Bool.false_eq_true]; done) | (simp only [Bool.true_and, Bool.false_and, Bool.true_or, Bool.false_or, Bool.and_true, Bool.and_false, Bool.or_true, Bool.or_false, Bool.not_true, Bool.not_false, cond_true, cond_false, if_true, if_false, reduceIte, Bool.false_eq_true]; done) | simp [h169]), trivial⟩ .slnil)
    · have g169 := h169; try simp only [decide_eq_true_eq, decide_eq_false_iff_not] at g169
      have f169 := h169; try simp only [decide_eq_true_eq, decide_eq_false_iff_not, Bool.and_eq_true, Bool.or_eq_true, Bool.not_eq_true', Bool.not_eq_false', Bool.and_eq_false_iff, Bool.or_eq_false_iff, not_or, Int.not_lt, Int.not_le] at f169
      refine wl_on rfl rfl h169 ?_
      refine wl_v (o_move rfl) rfl ?_
      refine wl_on rfl rfl h169 ?_
      refine wl_v (o_len_s Tryz.underlying9 rfl) rfl ?_
      refine wl_on rfl rfl h169 ?_
      refine wl_v (o_gt rfl rfl) rfl ?_
      refine wl_v (o_pick_f rfl h169 rfl) rfl ?_
      refine wl_nil ?_
      exact wk_then (wk_mid trivial ⟨rfl, rfl, fb (by first | (simp only [h169, Bool.true_and, Bool.false_and, Bool.true_or, Bool.false_or, Bool.and_true, Bool.and_false, Bool.or_true, Bool.or_false, Bool.not_true, Bool.not_false, cond_true, cond_false, if_true, if_false, reduceIte, Bool.false_eq_true]; done) | (simp only [Bool.true_and, Bool.false_and, Bool.true_or, Bool.false_or, Bool.and_true, Bool.and_false, Bool.or_true, Bool.or_false, Bool.not_true, Bool.not_false, cond_true, cond_false, if_true, if_false, reduceIte, Bool.false_eq_true]; done) | simp [h169]), trivial⟩ .slnil)
  refine wc_cond (b := ((decide (((p.length : Int)) < (1))) || (decide ((64) < ((p.length : Int)))))) rfl (fun h171 => ?_) (fun h171 => ?_)
  · have g171 := h171; try simp only [decide_eq_true_eq, decide_eq_false_iff_not] at g171
    have f171 := h171; try simp only [decide_eq_true_eq, decide_eq_false_iff_not, Bool.and_eq_true, Bool.or_eq_true, Bool.not_eq_true', Bool.not_eq_false', Bool.and_eq_false_iff, Bool.or_eq_false_iff, not_or, Int.not_lt, Int.not_le] at f171
    refine wc_seq ?_
    refine wc_region ?_
    refine wl_v (o_assign rfl) rfl ?_
    refine wl_nil ?_
    refine wk_then (wc_of_wk ?_)
    refine wc_ret ?_
    refine wk_then_ret ?_
    refine wk_ret (r_1 rfl rfl) ?_
    exact retv (by rw [idR_no h171])
  · have g171 := h171; try simp only [decide_eq_true_eq, decide_eq_false_iff_not] at g171
    have f171 := h171; try simp only [decide_eq_true_eq, decide_eq_false_iff_not, Bool.and_eq_true, Bool.or_eq_true, Bool.not_eq_true', Bool.not_eq_false', Bool.and_eq_false_iff, Bool.or_eq_false_iff, not_or, Int.not_lt, Int.not_le] at f171
    refine wc_skip ?_
    refine wk_then (wc_of_wk ?_)
    refine wc_seq ?_
    refine wc_seq ?_
    refine wc_region ?_
    refine wl_v (o_assign rfl) rfl ?_
    refine wl_nil ?_
    refine wk_then (wc_of_wk ?_)
    refine wc_block ?_
    refine wc_loop (S := Nat) (fun (k : Nat) => k ≤ p.length ∧ idS p = allFrom idCh k (p.drop k)) (fun (k : Nat) => [(3, .int .i64 ((k : Int))), (0, .string (B (p)))]) (fun (k : Nat) => []) (fun (k : Nat) => p.length - k) (0) ?_ ⟨fi (by first | rfl | (simp; done) | omega | (simp; omega)), rfl, trivial⟩ .slnil ?_
    · exact ⟨Nat.zero_le _, idR_0 h171⟩
    rintro k hi0
    refine wc_seq ?_
    refine wc_seq ?_
    refine wc_region ?_
    refine wl_v (o_move rfl) rfl ?_
    refine wl_v (o_move rfl) rfl ?_
    refine wl_v (o_len_s Tryz.underlying9 rfl) rfl ?_
    refine wl_v (o_lt rfl rfl) rfl ?_
    refine wl_nil ?_
    refine wk_then (wc_of_wk ?_)
    refine wc_cond (b := decide (((k : Int)) < ((p.length : Int)))) rfl (fun h172 => ?_) (fun h172 => ?_)
    · have g172 := h172; try simp only [decide_eq_true_eq, decide_eq_false_iff_not] at g172
      have f172 := h172; try simp only [decide_eq_true_eq, decide_eq_false_iff_not, Bool.and_eq_true, Bool.or_eq_true, Bool.not_eq_true', Bool.not_eq_false', Bool.and_eq_false_iff, Bool.or_eq_false_iff, not_or, Int.not_lt, Int.not_le] at f172
      refine wc_skip ?_
      refine wk_then (wc_of_wk ?_)
      refine wc_seq ?_
      refine wc_block ?_
      refine wc_seq ?_
      refine wc_region ?_
      refine wl_v (o_move rfl) rfl ?_
      refine wl_v (o_move rfl) rfl ?_
      refine wl_v (o_index_b Tryz.underlying9 rfl rfl (by first | omega | (simp; omega) | (simp at *; omega)) (by first | omega | (simp; omega) | (simp at *; omega))) rfl ?_
      refine w_call Tryz.call31 rfl (fun w hw => part_r (bat p (k : Int)) w) rfl ?_
      refine wl_v (o_not rfl) rfl ?_
      refine wl_nil ?_
      refine wk_then (wc_of_wk ?_)
      refine wc_cond (b := !(letterS (bat p (k : Int)))) rfl (fun h173 => ?_) (fun h173 => ?_)
      · have g173 := h173; try simp only [decide_eq_true_eq, decide_eq_false_iff_not] at g173
        have f173 := h173; try simp only [decide_eq_true_eq, decide_eq_false_iff_not, Bool.and_eq_true, Bool.or_eq_true, Bool.not_eq_true', Bool.not_eq_false', Bool.and_eq_false_iff, Bool.or_eq_false_iff, not_or, Int.not_lt, Int.not_le] at f173
        refine wc_seq ?_
        refine wc_region ?_
        refine wl_v (o_assign rfl) rfl ?_
        refine wl_nil ?_
        refine wk_then (wc_of_wk ?_)
        refine wc_ret ?_
        refine wk_in_ret ?_
        refine wk_then_ret ?_
        refine wk_then_ret ?_
        refine wk_in_ret ?_
        refine wk_then_ret ?_
        refine wk_ret (r_1 rfl rfl) ?_
        exact retv (by rw [at_no (idCh_any k) hi0 g172 f173])
      · have g173 := h173; try simp only [decide_eq_true_eq, decide_eq_false_iff_not] at g173
        have f173 := h173; try simp only [decide_eq_true_eq, decide_eq_false_iff_not, Bool.and_eq_true, Bool.or_eq_true, Bool.not_eq_true', Bool.not_eq_false', Bool.and_eq_false_iff, Bool.or_eq_false_iff, not_or, Int.not_lt, Int.not_le] at f173
        refine wc_skip ?_
        refine wk_in_norm ?_
        refine wk_then (wc_of_wk ?_)
        refine wc_region ?_
        refine wl_v (o_move rfl) rfl ?_
        refine wl_v (o_add rfl rfl (IntWalk.i64_in _ (by omega))) rfl ?_
        refine wl_v (o_assign rfl) rfl ?_
        refine wl_nil ?_
        refine wk_then ?_
        refine wk_some (k + 1) ?_ ⟨fi (by first | rfl | (simp; done) | omega | (simp; omega)), rfl, trivial⟩ .slnil
        exact ⟨at_next (idCh_any k) hi0 g172 f173, by omega⟩
    · have g172 := h172; try simp only [decide_eq_true_eq, decide_eq_false_iff_not] at g172
      have f172 := h172; try simp only [decide_eq_true_eq, decide_eq_false_iff_not, Bool.and_eq_true, Bool.or_eq_true, Bool.not_eq_true', Bool.not_eq_false', Bool.and_eq_false_iff, Bool.or_eq_false_iff, not_or, Int.not_lt, Int.not_le] at f172
      refine wc_exit ?_
      refine wk_then_exit ?_
      refine wk_then_exit ?_
      refine wk_in_hit ?_
      refine wk_then (wc_of_wk ?_)
      refine wc_seq ?_
      refine wc_region ?_
      refine wl_v (o_assign rfl) rfl ?_
      refine wl_nil ?_
      refine wk_then (wc_of_wk ?_)
      refine wc_ret ?_
      refine wk_ret (r_1 rfl rfl) ?_
      exact retv (by rw [at_end hi0 g172])

theorem pattern_r (p : List UInt8) (hp : p.length ≤ 281474976710656) (w : World) : Calls Tryz.prog 12 [.string (B (p))].toArray w (RetV w (.bool (patS p))) := by
  refine enter0 (n := 38) Tryz.func12 rfl Tryz.ntmps12 rfl ?_
  refine wc_seq ?_
  refine wc_region ?_
  refine wl_v (o_assign rfl) rfl ?_
  refine wl_nil ?_
  refine wk_then (wc_of_wk ?_)
  refine wc_seq ?_
  refine wc_seq_mid [(0, .string (B (p))), (2, .bool (false)), (11, .bool (((decide (((p.length : Int)) < (1))) || (decide ((64) < ((p.length : Int)))))))] [] (φ := True) ?_ (fun hm174 => ?_)
  · refine wc_region ?_
    refine wl_v (o_move rfl) rfl ?_
    refine wl_v (o_len_s Tryz.underlying9 rfl) rfl ?_
    refine wl_v (o_lt rfl rfl) rfl ?_
    refine wl_v (o_move rfl) rfl ?_
    refine bsplit (decide (((p.length : Int)) < (1))) (fun h174 => ?_) (fun h174 => ?_)
    · have g174 := h174; try simp only [decide_eq_true_eq, decide_eq_false_iff_not] at g174
      have f174 := h174; try simp only [decide_eq_true_eq, decide_eq_false_iff_not, Bool.and_eq_true, Bool.or_eq_true, Bool.not_eq_true', Bool.not_eq_false', Bool.and_eq_false_iff, Bool.or_eq_false_iff, not_or, Int.not_lt, Int.not_le] at f174
      refine wl_off rfl rfl h174 rfl ?_
      refine wl_off rfl rfl h174 rfl ?_
      refine wl_off rfl rfl h174 rfl ?_
      refine wl_v (o_pick_t rfl h174 rfl) rfl ?_
      refine wl_nil ?_
      exact wk_then (wk_mid trivial ⟨rfl, rfl, fb (by first | (simp only [h174, Bool.true_and, Bool.false_and, Bool.true_or, Bool.false_or, Bool.and_true, Bool.and_false, Bool.or_true, Bool.or_false, Bool.not_true, Bool.not_false, cond_true, cond_false, if_true, if_false, reduceIte, Bool.false_eq_true]; done) | (simp only [Bool.true_and, Bool.false_and, Bool.true_or, Bool.false_or, Bool.and_true, Bool.and_false, Bool.or_true, Bool.or_false, Bool.not_true, Bool.not_false, cond_true, cond_false, if_true, if_false, reduceIte, Bool.false_eq_true]; done) | simp [h174]), trivial⟩ .slnil)
    · have g174 := h174; try simp only [decide_eq_true_eq, decide_eq_false_iff_not] at g174
      have f174 := h174; try simp only [decide_eq_true_eq, decide_eq_false_iff_not, Bool.and_eq_true, Bool.or_eq_true, Bool.not_eq_true', Bool.not_eq_false', Bool.and_eq_false_iff, Bool.or_eq_false_iff, not_or, Int.not_lt, Int.not_le] at f174
      refine wl_on rfl rfl h174 ?_
      refine wl_v (o_move rfl) rfl ?_
      refine wl_on rfl rfl h174 ?_
      refine wl_v (o_len_s Tryz.underlying9 rfl) rfl ?_
      refine wl_on rfl rfl h174 ?_
      refine wl_v (o_gt rfl rfl) rfl ?_
      refine wl_v (o_pick_f rfl h174 rfl) rfl ?_
      refine wl_nil ?_
      exact wk_then (wk_mid trivial ⟨rfl, rfl, fb (by first | (simp only [h174, Bool.true_and, Bool.false_and, Bool.true_or, Bool.false_or, Bool.and_true, Bool.and_false, Bool.or_true, Bool.or_false, Bool.not_true, Bool.not_false, cond_true, cond_false, if_true, if_false, reduceIte, Bool.false_eq_true]; done) | (simp only [Bool.true_and, Bool.false_and, Bool.true_or, Bool.false_or, Bool.and_true, Bool.and_false, Bool.or_true, Bool.or_false, Bool.not_true, Bool.not_false, cond_true, cond_false, if_true, if_false, reduceIte, Bool.false_eq_true]; done) | simp [h174]), trivial⟩ .slnil)
  refine wc_cond (b := ((decide (((p.length : Int)) < (1))) || (decide ((64) < ((p.length : Int)))))) rfl (fun h176 => ?_) (fun h176 => ?_)
  · have g176 := h176; try simp only [decide_eq_true_eq, decide_eq_false_iff_not] at g176
    have f176 := h176; try simp only [decide_eq_true_eq, decide_eq_false_iff_not, Bool.and_eq_true, Bool.or_eq_true, Bool.not_eq_true', Bool.not_eq_false', Bool.and_eq_false_iff, Bool.or_eq_false_iff, not_or, Int.not_lt, Int.not_le] at f176
    refine wc_seq ?_
    refine wc_region ?_
    refine wl_v (o_assign rfl) rfl ?_
    refine wl_nil ?_
    refine wk_then (wc_of_wk ?_)
    refine wc_ret ?_
    refine wk_then_ret ?_
    refine wk_ret (r_1 rfl rfl) ?_
    exact retv (by rw [patR_no h176])
  · have g176 := h176; try simp only [decide_eq_true_eq, decide_eq_false_iff_not] at g176
    have f176 := h176; try simp only [decide_eq_true_eq, decide_eq_false_iff_not, Bool.and_eq_true, Bool.or_eq_true, Bool.not_eq_true', Bool.not_eq_false', Bool.and_eq_false_iff, Bool.or_eq_false_iff, not_or, Int.not_lt, Int.not_le] at f176
    refine wc_skip ?_
    refine wk_then (wc_of_wk ?_)
    refine wc_seq ?_
    refine wc_seq ?_
    refine wc_region ?_
    refine wl_v (o_assign rfl) rfl ?_
    refine wl_nil ?_
    refine wk_then (wc_of_wk ?_)
    refine wc_block ?_
    refine wc_loop (S := Nat) (fun (k : Nat) => k ≤ (p.take (p.length - 1)).length ∧ allFrom idCh 0 (p.take (p.length - 1)) = allFrom idCh k ((p.take (p.length - 1)).drop k)) (fun (k : Nat) => [(3, .int .i64 ((k : Int))), (0, .string (B (p)))]) (fun (k : Nat) => []) (fun (k : Nat) => p.length - k) (0) ?_ ⟨fi (by first | rfl | (simp; done) | omega | (simp; omega)), rfl, trivial⟩ .slnil ?_
    · exact ⟨Nat.zero_le _, by simp⟩
    rintro k hi0
    have hk1 := hi0.1
    simp at hk1
    refine wc_seq ?_
    refine wc_seq ?_
    refine wc_region ?_
    refine wl_v (o_move rfl) rfl ?_
    refine wl_v (o_move rfl) rfl ?_
    refine wl_v (o_len_s Tryz.underlying9 rfl) rfl ?_
    refine wl_v (o_sub rfl rfl (IntWalk.i64_in _ (by omega))) rfl ?_
    refine wl_v (o_lt rfl rfl) rfl ?_
    refine wl_nil ?_
    refine wk_then (wc_of_wk ?_)
    refine wc_cond (b := decide (((k : Int)) < ((p.length : Int) - 1))) rfl (fun h177 => ?_) (fun h177 => ?_)
    · have g177 := h177; try simp only [decide_eq_true_eq, decide_eq_false_iff_not] at g177
      have f177 := h177; try simp only [decide_eq_true_eq, decide_eq_false_iff_not, Bool.and_eq_true, Bool.or_eq_true, Bool.not_eq_true', Bool.not_eq_false', Bool.and_eq_false_iff, Bool.or_eq_false_iff, not_or, Int.not_lt, Int.not_le] at f177
      refine wc_skip ?_
      refine wk_then (wc_of_wk ?_)
      refine wc_seq ?_
      refine wc_block ?_
      refine wc_seq ?_
      refine wc_region ?_
      refine wl_v (o_move rfl) rfl ?_
      refine wl_v (o_move rfl) rfl ?_
      refine wl_v (o_index_b Tryz.underlying9 rfl rfl (by first | omega | (simp; omega) | (simp at *; omega)) (by first | omega | (simp; omega) | (simp at *; omega))) rfl ?_
      refine w_call Tryz.call31 rfl (fun w hw => part_r (bat p (k : Int)) w) rfl ?_
      refine wl_v (o_not rfl) rfl ?_
      refine wl_nil ?_
      refine wk_then (wc_of_wk ?_)
      refine wc_cond (b := !(letterS (bat p (k : Int)))) rfl (fun h178 => ?_) (fun h178 => ?_)
      · have g178 := h178; try simp only [decide_eq_true_eq, decide_eq_false_iff_not] at g178
        have f178 := h178; try simp only [decide_eq_true_eq, decide_eq_false_iff_not, Bool.and_eq_true, Bool.or_eq_true, Bool.not_eq_true', Bool.not_eq_false', Bool.and_eq_false_iff, Bool.or_eq_false_iff, not_or, Int.not_lt, Int.not_le] at f178
        refine wc_seq ?_
        refine wc_region ?_
        refine wl_v (o_assign rfl) rfl ?_
        refine wl_nil ?_
        refine wk_then (wc_of_wk ?_)
        refine wc_ret ?_
        refine wk_in_ret ?_
        refine wk_then_ret ?_
        refine wk_then_ret ?_
        refine wk_in_ret ?_
        refine wk_then_ret ?_
        refine wk_ret (r_1 rfl rfl) ?_
        exact retv (by rw [patR h176, at_no (idCh_any k) hi0 (by simp; omega) (by rw [bat_take (by omega)]; exact f178)]; rfl)
      · have g178 := h178; try simp only [decide_eq_true_eq, decide_eq_false_iff_not] at g178
        have f178 := h178; try simp only [decide_eq_true_eq, decide_eq_false_iff_not, Bool.and_eq_true, Bool.or_eq_true, Bool.not_eq_true', Bool.not_eq_false', Bool.and_eq_false_iff, Bool.or_eq_false_iff, not_or, Int.not_lt, Int.not_le] at f178
        refine wc_skip ?_
        refine wk_in_norm ?_
        refine wk_then (wc_of_wk ?_)
        refine wc_region ?_
        refine wl_v (o_move rfl) rfl ?_
        refine wl_v (o_add rfl rfl (IntWalk.i64_in _ (by omega))) rfl ?_
        refine wl_v (o_assign rfl) rfl ?_
        refine wl_nil ?_
        refine wk_then ?_
        refine wk_some (k + 1) ?_ ⟨fi (by first | rfl | (simp; done) | omega | (simp; omega)), rfl, trivial⟩ .slnil
        exact ⟨at_next (idCh_any k) hi0 (by simp; omega) (by rw [bat_take (by omega)]; exact f178), by omega⟩
    · have g177 := h177; try simp only [decide_eq_true_eq, decide_eq_false_iff_not] at g177
      have f177 := h177; try simp only [decide_eq_true_eq, decide_eq_false_iff_not, Bool.and_eq_true, Bool.or_eq_true, Bool.not_eq_true', Bool.not_eq_false', Bool.and_eq_false_iff, Bool.or_eq_false_iff, not_or, Int.not_lt, Int.not_le] at f177
      refine wc_exit ?_
      refine wk_then_exit ?_
      refine wk_then_exit ?_
      refine wk_in_hit ?_
      refine wk_then (wc_of_wk ?_)
      refine wc_seq_mid [(2, .bool (((letterS (bat p ((p.length : Int) - 1))) || (decide ((bat p ((p.length : Int) - 1)) = (42))))))] [] (φ := True) ?_ (fun hm179 => ?_)
      · refine wc_region ?_
        refine wl_v (o_move rfl) rfl ?_
        refine wl_v (o_move rfl) rfl ?_
        refine wl_v (o_len_s Tryz.underlying9 rfl) rfl ?_
        refine wl_v (o_sub rfl rfl (IntWalk.i64_in _ (by omega))) rfl ?_
        refine wl_v (o_index_b Tryz.underlying9 rfl rfl (by first | omega | (simp; omega) | (simp at *; omega)) (by first | omega | (simp; omega) | (simp at *; omega))) rfl ?_
        refine w_call Tryz.call31 rfl (fun w hw => part_r (bat p ((p.length : Int) - 1)) w) rfl ?_
        refine wl_v (o_move rfl) rfl ?_
        refine bsplit (letterS (bat p ((p.length : Int) - 1))) (fun h179 => ?_) (fun h179 => ?_)
        · have g179 := h179; try simp only [decide_eq_true_eq, decide_eq_false_iff_not] at g179
          have f179 := h179; try simp only [decide_eq_true_eq, decide_eq_false_iff_not, Bool.and_eq_true, Bool.or_eq_true, Bool.not_eq_true', Bool.not_eq_false', Bool.and_eq_false_iff, Bool.or_eq_false_iff, not_or, Int.not_lt, Int.not_le] at f179
          refine wl_off rfl rfl h179 rfl ?_
          refine wl_off rfl rfl h179 rfl ?_
          refine wl_off rfl rfl h179 rfl ?_
          refine wl_off rfl rfl h179 rfl ?_
          refine wl_off rfl rfl h179 rfl ?_
          refine wl_off rfl rfl h179 rfl ?_
          refine wl_v (o_pick_t rfl h179 rfl) rfl ?_
          refine wl_v (o_assign rfl) rfl ?_
          refine wl_nil ?_
          exact wk_then (wk_mid trivial ⟨fb (by first | (simp only [h176, h177, h179, Bool.true_and, Bool.false_and, Bool.true_or, Bool.false_or, Bool.and_true, Bool.and_false, Bool.or_true, Bool.or_false, Bool.not_true, Bool.not_false, cond_true, cond_false, if_true, if_false, reduceIte, Bool.false_eq_true]; done) | (simp only [Bool.true_and, Bool.false_and, Bool.true_or, Bool.false_or, Bool.and_true, Bool.and_false, Bool.or_true, Bool.or_false, Bool.not_true, Bool.not_false, cond_true, cond_false, if_true, if_false, reduceIte, Bool.false_eq_true]; done) | simp [h176, h177, h179]), trivial⟩ .slnil)
        · have g179 := h179; try simp only [decide_eq_true_eq, decide_eq_false_iff_not] at g179
          have f179 := h179; try simp only [decide_eq_true_eq, decide_eq_false_iff_not, Bool.and_eq_true, Bool.or_eq_true, Bool.not_eq_true', Bool.not_eq_false', Bool.and_eq_false_iff, Bool.or_eq_false_iff, not_or, Int.not_lt, Int.not_le] at f179
          refine wl_on rfl rfl h179 ?_
          refine wl_v (o_move rfl) rfl ?_
          refine wl_on rfl rfl h179 ?_
          refine wl_v (o_move rfl) rfl ?_
          refine wl_on rfl rfl h179 ?_
          refine wl_v (o_len_s Tryz.underlying9 rfl) rfl ?_
          refine wl_on rfl rfl h179 ?_
          refine wl_v (o_sub rfl rfl (IntWalk.i64_in _ (by omega))) rfl ?_
          refine wl_on rfl rfl h179 ?_
          refine wl_v (o_index_b Tryz.underlying9 rfl rfl (by first | omega | (simp; omega) | (simp at *; omega)) (by first | omega | (simp; omega) | (simp at *; omega))) rfl ?_
          refine wl_on rfl rfl h179 ?_
          refine wl_v (o_eq rfl rfl) rfl ?_
          refine wl_v (o_pick_f rfl h179 rfl) rfl ?_
          refine wl_v (o_assign rfl) rfl ?_
          refine wl_nil ?_
          exact wk_then (wk_mid trivial ⟨fb (by first | (simp only [h176, h177, h179, Bool.true_and, Bool.false_and, Bool.true_or, Bool.false_or, Bool.and_true, Bool.and_false, Bool.or_true, Bool.or_false, Bool.not_true, Bool.not_false, cond_true, cond_false, if_true, if_false, reduceIte, Bool.false_eq_true]; done) | (simp only [Bool.true_and, Bool.false_and, Bool.true_or, Bool.false_or, Bool.and_true, Bool.and_false, Bool.or_true, Bool.or_false, Bool.not_true, Bool.not_false, cond_true, cond_false, if_true, if_false, reduceIte, Bool.false_eq_true]; done) | simp [h176, h177, h179]), trivial⟩ .slnil)
      refine wc_ret ?_
      refine wk_ret (r_1 rfl rfl) ?_
      exact retv (by rw [patR h176, at_end hi0 (by simp; omega)]; simp [])

theorem begins_r (p : List UInt8) (q : List UInt8) (hp : p.length ≤ 281474976710656) (hq : q.length ≤ 281474976710656) (w : World) : Calls Tryz.prog 48 [.string (B (p)), .string (B (q))].toArray w (RetV w (.bool (hasPre p q))) := by
  refine enter0 (n := 18) Tryz.func48 rfl Tryz.ntmps48 rfl ?_
  refine wc_seq ?_
  refine wc_region ?_
  refine wl_v (o_assign rfl) rfl ?_
  refine wl_nil ?_
  refine wk_then (wc_of_wk ?_)
  refine wc_seq_mid [(4, .bool (((decide (((q.length : Int)) ≤ ((p.length : Int)))) && (decide (((List.take (Int.toNat ((q.length : Int))) p)) = (q))))))] [] (φ := True) ?_ (fun hm181 => ?_)
  · refine wc_region ?_
    refine wl_v (o_move rfl) rfl ?_
    refine wl_v (o_len_s Tryz.underlying9 rfl) rfl ?_
    refine wl_v (o_move rfl) rfl ?_
    refine wl_v (o_len_s Tryz.underlying9 rfl) rfl ?_
    refine wl_v (o_ge rfl rfl) rfl ?_
    refine wl_v (o_move rfl) rfl ?_
    refine bsplit (decide (((q.length : Int)) ≤ ((p.length : Int)))) (fun h181 => ?_) (fun h181 => ?_)
    · have g181 := h181; try simp only [decide_eq_true_eq, decide_eq_false_iff_not] at g181
      have f181 := h181; try simp only [decide_eq_true_eq, decide_eq_false_iff_not, Bool.and_eq_true, Bool.or_eq_true, Bool.not_eq_true', Bool.not_eq_false', Bool.and_eq_false_iff, Bool.or_eq_false_iff, not_or, Int.not_lt, Int.not_le] at f181
      refine wl_on rfl rfl h181 ?_
      refine wl_v (o_move rfl) rfl ?_
      refine wl_on rfl rfl h181 ?_
      refine wl_v (o_move rfl) rfl ?_
      refine wl_on rfl rfl h181 ?_
      refine wl_v (o_len_s Tryz.underlying9 rfl) rfl ?_
      refine wl_on rfl rfl h181 ?_
      refine wl_v (o_slice_hi Tryz.underlying9 rfl rfl (by first | omega | (simp; omega)) (by first | omega | (simp; omega))) rfl ?_
      refine wl_on rfl rfl h181 ?_
      refine wl_v (o_move rfl) rfl ?_
      refine wl_on rfl rfl h181 ?_
      refine wl_v (o_seq rfl rfl) rfl ?_
      refine wl_v (o_pick_t rfl h181 rfl) rfl ?_
      refine wl_v (o_assign rfl) rfl ?_
      refine wl_nil ?_
      exact wk_then (wk_mid trivial ⟨fb (by first | (simp only [h181, Bool.true_and, Bool.false_and, Bool.true_or, Bool.false_or, Bool.and_true, Bool.and_false, Bool.or_true, Bool.or_false, Bool.not_true, Bool.not_false, cond_true, cond_false, if_true, if_false, reduceIte, Bool.false_eq_true]; done) | (simp only [Bool.true_and, Bool.false_and, Bool.true_or, Bool.false_or, Bool.and_true, Bool.and_false, Bool.or_true, Bool.or_false, Bool.not_true, Bool.not_false, cond_true, cond_false, if_true, if_false, reduceIte, Bool.false_eq_true]; done) | simp [h181]), trivial⟩ .slnil)
    · have g181 := h181; try simp only [decide_eq_true_eq, decide_eq_false_iff_not] at g181
      have f181 := h181; try simp only [decide_eq_true_eq, decide_eq_false_iff_not, Bool.and_eq_true, Bool.or_eq_true, Bool.not_eq_true', Bool.not_eq_false', Bool.and_eq_false_iff, Bool.or_eq_false_iff, not_or, Int.not_lt, Int.not_le] at f181
      refine wl_off rfl rfl h181 rfl ?_
      refine wl_off rfl rfl h181 rfl ?_
      refine wl_off rfl rfl h181 rfl ?_
      refine wl_off rfl rfl h181 rfl ?_
      refine wl_off rfl rfl h181 rfl ?_
      refine wl_off rfl rfl h181 rfl ?_
      refine wl_v (o_pick_f rfl h181 rfl) rfl ?_
      refine wl_v (o_assign rfl) rfl ?_
      refine wl_nil ?_
      exact wk_then (wk_mid trivial ⟨fb (by first | (simp only [h181, Bool.true_and, Bool.false_and, Bool.true_or, Bool.false_or, Bool.and_true, Bool.and_false, Bool.or_true, Bool.or_false, Bool.not_true, Bool.not_false, cond_true, cond_false, if_true, if_false, reduceIte, Bool.false_eq_true]; done) | (simp only [Bool.true_and, Bool.false_and, Bool.true_or, Bool.false_or, Bool.and_true, Bool.and_false, Bool.or_true, Bool.or_false, Bool.not_true, Bool.not_false, cond_true, cond_false, if_true, if_false, reduceIte, Bool.false_eq_true]; done) | simp [h181]), trivial⟩ .slnil)
  refine wc_ret ?_
  refine wk_ret (r_1 rfl rfl) ?_
  exact retv (by rw [← beginsR])

theorem open_r (p : List UInt8) (hp : p.length ≤ 281474976710656) (hn : 1 ≤ p.length) (w : World) : Calls Tryz.prog 47 [.string (B (p))].toArray w (RetV w (.bool (hasSuf p [42]))) := by
  refine enter0 (n := 9) Tryz.func47 rfl Tryz.ntmps47 rfl ?_
  refine wc_seq ?_
  refine wc_region ?_
  refine wl_v (o_assign rfl) rfl ?_
  refine wl_nil ?_
  refine wk_then (wc_of_wk ?_)
  refine wc_seq ?_
  refine wc_region ?_
  refine wl_v (o_move rfl) rfl ?_
  refine wl_v (o_move rfl) rfl ?_
  refine wl_v (o_len_s Tryz.underlying9 rfl) rfl ?_
  refine wl_v (o_sub rfl rfl (IntWalk.i64_in _ (by omega))) rfl ?_
  refine wl_v (o_index_b Tryz.underlying9 rfl rfl (by first | omega | (simp; omega) | (simp at *; omega)) (by first | omega | (simp; omega) | (simp at *; omega))) rfl ?_
  refine wl_v (o_eq rfl rfl) rfl ?_
  refine wl_v (o_assign rfl) rfl ?_
  refine wl_nil ?_
  refine wk_then (wc_of_wk ?_)
  refine wc_ret ?_
  refine wk_ret (r_1 rfl rfl) ?_
  exact retv (by rw [← openR hn])

theorem matches_r (p : List UInt8) (s : List UInt8) (hp : p.length ≤ 281474976710656) (hs : s.length ≤ 281474976710656) (w : World) : Calls Tryz.prog 23 [.string (B (p)), .string (B (s))].toArray w (RetV w (.bool (matS p s))) := by
  refine enter0 (n := 20) Tryz.func23 rfl Tryz.ntmps23 rfl ?_
  refine wc_seq ?_
  refine wc_region ?_
  refine wl_v (o_assign rfl) rfl ?_
  refine wl_nil ?_
  refine wk_then (wc_of_wk ?_)
  refine wc_seq ?_
  refine wc_seq ?_
  refine wc_region ?_
  refine wl_v (o_move rfl) rfl ?_
  refine w_call Tryz.call12 rfl (fun w hw => pattern_r p (by first | omega | (simp; done) | (simp; omega) | (simp at *; omega) | (split <;> first | omega | (simp; omega))) w) rfl ?_
  refine wl_v (o_not rfl) rfl ?_
  refine wl_nil ?_
  refine wk_then (wc_of_wk ?_)
  refine wc_cond (b := !(patS p)) rfl (fun h183 => ?_) (fun h183 => ?_)
  · have g183 := h183; try simp only [decide_eq_true_eq, decide_eq_false_iff_not] at g183
    have f183 := h183; try simp only [decide_eq_true_eq, decide_eq_false_iff_not, Bool.and_eq_true, Bool.or_eq_true, Bool.not_eq_true', Bool.not_eq_false', Bool.and_eq_false_iff, Bool.or_eq_false_iff, not_or, Int.not_lt, Int.not_le] at f183
    refine wc_seq ?_
    refine wc_region ?_
    refine wl_v (o_assign rfl) rfl ?_
    refine wl_nil ?_
    refine wk_then (wc_of_wk ?_)
    refine wc_ret ?_
    refine wk_then_ret ?_
    refine wk_ret (r_1 rfl rfl) ?_
    exact retv (by rw [matR_no f183])
  · have g183 := h183; try simp only [decide_eq_true_eq, decide_eq_false_iff_not] at g183
    have f183 := h183; try simp only [decide_eq_true_eq, decide_eq_false_iff_not, Bool.and_eq_true, Bool.or_eq_true, Bool.not_eq_true', Bool.not_eq_false', Bool.and_eq_false_iff, Bool.or_eq_false_iff, not_or, Int.not_lt, Int.not_le] at f183
    refine wc_skip ?_
    refine wk_then (wc_of_wk ?_)
    refine wc_seq ?_
    refine wc_seq ?_
    refine wc_region ?_
    refine wl_v (o_move rfl) rfl ?_
    refine w_call Tryz.call47 rfl (fun w hw => open_r p (by first | omega | (simp; done) | (simp; omega) | (simp at *; omega) | (split <;> first | omega | (simp; omega))) (by exact pat_pos (by simp_all)) w) rfl ?_
    refine wl_nil ?_
    refine wk_then (wc_of_wk ?_)
    refine wc_cond (b := hasSuf p [42]) rfl (fun h184 => ?_) (fun h184 => ?_)
    · have g184 := h184; try simp only [decide_eq_true_eq, decide_eq_false_iff_not] at g184
      have f184 := h184; try simp only [decide_eq_true_eq, decide_eq_false_iff_not, Bool.and_eq_true, Bool.or_eq_true, Bool.not_eq_true', Bool.not_eq_false', Bool.and_eq_false_iff, Bool.or_eq_false_iff, not_or, Int.not_lt, Int.not_le] at f184
      refine wc_seq ?_
      refine wc_region ?_
      refine wl_v (o_move rfl) rfl ?_
      refine wl_v (o_move rfl) rfl ?_
      refine wl_v (o_move rfl) rfl ?_
      refine wl_v (o_len_s Tryz.underlying9 rfl) rfl ?_
      refine wl_v (o_sub rfl rfl (IntWalk.i64_in _ (by first | omega | (have := pat_pos (q := p) (by simp_all); omega)))) rfl ?_
      refine wl_v (o_slice_hi Tryz.underlying9 rfl rfl (by first | omega | (have := pat_pos (q := p) (by simp_all); omega)) (by first | omega | (have := pat_pos (q := p) (by simp_all); omega))) rfl ?_
      refine w_call Tryz.call48 rfl (fun w hw => begins_r s (List.take (Int.toNat ((p.length : Int) - 1)) p) (by first | omega | (simp; done) | (simp; omega) | (simp at *; omega) | (split <;> first | omega | (simp; omega))) (by first | omega | (simp; done) | (simp; omega) | (simp at *; omega) | (split <;> first | omega | (simp; omega))) w) rfl ?_
      refine wl_v (o_assign rfl) rfl ?_
      refine wl_nil ?_
      refine wk_then (wc_of_wk ?_)
      refine wc_ret ?_
      refine wk_then_ret ?_
      refine wk_ret (r_1 rfl rfl) ?_
      exact retv (by rw [matR_open f183 f184])
    · have g184 := h184; try simp only [decide_eq_true_eq, decide_eq_false_iff_not] at g184
      have f184 := h184; try simp only [decide_eq_true_eq, decide_eq_false_iff_not, Bool.and_eq_true, Bool.or_eq_true, Bool.not_eq_true', Bool.not_eq_false', Bool.and_eq_false_iff, Bool.or_eq_false_iff, not_or, Int.not_lt, Int.not_le] at f184
      refine wc_skip ?_
      refine wk_then (wc_of_wk ?_)
      refine wc_seq ?_
      refine wc_region ?_
      refine wl_v (o_move rfl) rfl ?_
      refine wl_v (o_move rfl) rfl ?_
      refine wl_v (o_seq rfl rfl) rfl ?_
      refine wl_v (o_assign rfl) rfl ?_
      refine wl_nil ?_
      refine wk_then (wc_of_wk ?_)
      refine wc_ret ?_
      refine wk_ret (r_1 rfl rfl) ?_
      exact retv (by rw [matR_shut f183 f184])

theorem covers_r (p : List UInt8) (q : List UInt8) (hp : p.length ≤ 281474976710656) (hq : q.length ≤ 281474976710656) (w : World) : Calls Tryz.prog 25 [.string (B (p)), .string (B (q))].toArray w (RetV w (.bool (covS p q))) := by
  refine enter0 (n := 34) Tryz.func25 rfl Tryz.ntmps25 rfl ?_
  refine wc_seq ?_
  refine wc_region ?_
  refine wl_v (o_assign rfl) rfl ?_
  refine wl_nil ?_
  refine wk_then (wc_of_wk ?_)
  refine wc_seq ?_
  refine wc_seq_mid [(0, .string (B (p))), (1, .string (B (q))), (4, .bool (false)), (12, .bool (((!(patS p)) || (!(patS q)))))] [] (φ := True) ?_ (fun hm185 => ?_)
  · refine wc_region ?_
    refine wl_v (o_move rfl) rfl ?_
    refine w_call Tryz.call12 rfl (fun w hw => pattern_r p (by first | omega | (simp; done) | (simp; omega) | (simp at *; omega) | (split <;> first | omega | (simp; omega))) w) rfl ?_
    refine wl_v (o_not rfl) rfl ?_
    refine wl_v (o_move rfl) rfl ?_
    refine bsplit (!(patS p)) (fun h185 => ?_) (fun h185 => ?_)
    · have g185 := h185; try simp only [decide_eq_true_eq, decide_eq_false_iff_not] at g185
      have f185 := h185; try simp only [decide_eq_true_eq, decide_eq_false_iff_not, Bool.and_eq_true, Bool.or_eq_true, Bool.not_eq_true', Bool.not_eq_false', Bool.and_eq_false_iff, Bool.or_eq_false_iff, not_or, Int.not_lt, Int.not_le] at f185
      refine wl_off rfl rfl h185 rfl ?_
      refine wl_off rfl rfl h185 rfl ?_
      refine wl_off rfl rfl h185 rfl ?_
      refine wl_v (o_pick_t rfl h185 rfl) rfl ?_
      refine wl_nil ?_
      exact wk_then (wk_mid trivial ⟨rfl, rfl, rfl, fb (by first | (simp only [h185, Bool.true_and, Bool.false_and, Bool.true_or, Bool.false_or, Bool.and_true, Bool.and_false, Bool.or_true, Bool.or_false, Bool.not_true, Bool.not_false, cond_true, cond_false, if_true, if_false, reduceIte, Bool.false_eq_true]; done) | (simp only [Bool.true_and, Bool.false_and, Bool.true_or, Bool.false_or, Bool.and_true, Bool.and_false, Bool.or_true, Bool.or_false, Bool.not_true, Bool.not_false, cond_true, cond_false, if_true, if_false, reduceIte, Bool.false_eq_true]; done) | simp [h185]), trivial⟩ .slnil)
    · have g185 := h185; try simp only [decide_eq_true_eq, decide_eq_false_iff_not] at g185
      have f185 := h185; try simp only [decide_eq_true_eq, decide_eq_false_iff_not, Bool.and_eq_true, Bool.or_eq_true, Bool.not_eq_true', Bool.not_eq_false', Bool.and_eq_false_iff, Bool.or_eq_false_iff, not_or, Int.not_lt, Int.not_le] at f185
      refine wl_on rfl rfl h185 ?_
      refine wl_v (o_move rfl) rfl ?_
      refine wl_on rfl rfl h185 ?_
      refine w_call Tryz.call12 rfl (fun w hw => pattern_r q (by first | omega | (simp; done) | (simp; omega) | (simp at *; omega) | (split <;> first | omega | (simp; omega))) w) rfl ?_
      refine wl_on rfl rfl h185 ?_
      refine wl_v (o_not rfl) rfl ?_
      refine wl_v (o_pick_f rfl h185 rfl) rfl ?_
      refine wl_nil ?_
      exact wk_then (wk_mid trivial ⟨rfl, rfl, rfl, fb (by first | (simp only [h185, Bool.true_and, Bool.false_and, Bool.true_or, Bool.false_or, Bool.and_true, Bool.and_false, Bool.or_true, Bool.or_false, Bool.not_true, Bool.not_false, cond_true, cond_false, if_true, if_false, reduceIte, Bool.false_eq_true]; done) | (simp only [Bool.true_and, Bool.false_and, Bool.true_or, Bool.false_or, Bool.and_true, Bool.and_false, Bool.or_true, Bool.or_false, Bool.not_true, Bool.not_false, cond_true, cond_false, if_true, if_false, reduceIte, Bool.false_eq_true]; done) | simp [h185]), trivial⟩ .slnil)
  refine wc_cond (b := ((!(patS p)) || (!(patS q)))) rfl (fun h187 => ?_) (fun h187 => ?_)
  · have g187 := h187; try simp only [decide_eq_true_eq, decide_eq_false_iff_not] at g187
    have f187 := h187; try simp only [decide_eq_true_eq, decide_eq_false_iff_not, Bool.and_eq_true, Bool.or_eq_true, Bool.not_eq_true', Bool.not_eq_false', Bool.and_eq_false_iff, Bool.or_eq_false_iff, not_or, Int.not_lt, Int.not_le] at f187
    refine wc_seq ?_
    refine wc_region ?_
    refine wl_v (o_assign rfl) rfl ?_
    refine wl_nil ?_
    refine wk_then (wc_of_wk ?_)
    refine wc_ret ?_
    refine wk_then_ret ?_
    refine wk_ret (r_1 rfl rfl) ?_
    exact retv (by rw [covR_no h187])
  · have g187 := h187; try simp only [decide_eq_true_eq, decide_eq_false_iff_not] at g187
    have f187 := h187; try simp only [decide_eq_true_eq, decide_eq_false_iff_not, Bool.and_eq_true, Bool.or_eq_true, Bool.not_eq_true', Bool.not_eq_false', Bool.and_eq_false_iff, Bool.or_eq_false_iff, not_or, Int.not_lt, Int.not_le] at f187
    refine wc_skip ?_
    refine wk_then (wc_of_wk ?_)
    refine wc_seq ?_
    refine wc_seq ?_
    refine wc_region ?_
    refine wl_v (o_move rfl) rfl ?_
    refine w_call Tryz.call47 rfl (fun w hw => open_r q (by first | omega | (simp; done) | (simp; omega) | (simp at *; omega) | (split <;> first | omega | (simp; omega))) (by exact pat_pos (by simp_all)) w) rfl ?_
    refine wl_v (o_not rfl) rfl ?_
    refine wl_nil ?_
    refine wk_then (wc_of_wk ?_)
    refine wc_cond (b := !(hasSuf q [42])) rfl (fun h188 => ?_) (fun h188 => ?_)
    · have g188 := h188; try simp only [decide_eq_true_eq, decide_eq_false_iff_not] at g188
      have f188 := h188; try simp only [decide_eq_true_eq, decide_eq_false_iff_not, Bool.and_eq_true, Bool.or_eq_true, Bool.not_eq_true', Bool.not_eq_false', Bool.and_eq_false_iff, Bool.or_eq_false_iff, not_or, Int.not_lt, Int.not_le] at f188
      refine wc_seq ?_
      refine wc_region ?_
      refine wl_v (o_move rfl) rfl ?_
      refine wl_v (o_move rfl) rfl ?_
      refine w_call Tryz.call23 rfl (fun w hw => matches_r p q (by first | omega | (simp; done) | (simp; omega) | (simp at *; omega) | (split <;> first | omega | (simp; omega))) (by first | omega | (simp; done) | (simp; omega) | (simp at *; omega) | (split <;> first | omega | (simp; omega))) w) rfl ?_
      refine wl_v (o_assign rfl) rfl ?_
      refine wl_nil ?_
      refine wk_then (wc_of_wk ?_)
      refine wc_ret ?_
      refine wk_then_ret ?_
      refine wk_ret (r_1 rfl rfl) ?_
      exact retv (by rw [covR_shut h187 f188])
    · have g188 := h188; try simp only [decide_eq_true_eq, decide_eq_false_iff_not] at g188
      have f188 := h188; try simp only [decide_eq_true_eq, decide_eq_false_iff_not, Bool.and_eq_true, Bool.or_eq_true, Bool.not_eq_true', Bool.not_eq_false', Bool.and_eq_false_iff, Bool.or_eq_false_iff, not_or, Int.not_lt, Int.not_le] at f188
      refine wc_skip ?_
      refine wk_then (wc_of_wk ?_)
      refine wc_seq_mid [(4, .bool (((hasSuf p [42]) && (hasPre (List.take (Int.toNat ((q.length : Int) - 1)) q) (List.take (Int.toNat ((p.length : Int) - 1)) p)))))] [] (φ := True) ?_ (fun hm189 => ?_)
      · refine wc_region_q (by kernel_rfl) (by kernel_rfl) ?_
        refine wq_v (o_move rfl) rfl ?_
        refine wq_call Tryz.call47 rfl (fun w hw => open_r p (by first | omega | (simp; done) | (simp; omega) | (simp at *; omega) | (split <;> first | omega | (simp; omega))) (by exact pat_pos (by simp_all)) w) rfl ?_
        refine wq_v (o_move rfl) rfl ?_
        refine bsplit (hasSuf p [42]) (fun h189 => ?_) (fun h189 => ?_)
        · have g189 := h189; try simp only [decide_eq_true_eq, decide_eq_false_iff_not] at g189
          have f189 := h189; try simp only [decide_eq_true_eq, decide_eq_false_iff_not, Bool.and_eq_true, Bool.or_eq_true, Bool.not_eq_true', Bool.not_eq_false', Bool.and_eq_false_iff, Bool.or_eq_false_iff, not_or, Int.not_lt, Int.not_le] at f189
          refine wq_on rfl rfl h189 ?_
          refine wq_v (o_move rfl) rfl ?_
          refine wq_on rfl rfl h189 ?_
          refine wq_v (o_move rfl) rfl ?_
          refine wq_on rfl rfl h189 ?_
          refine wq_v (o_len_s Tryz.underlying9 rfl) rfl ?_
          refine wq_on rfl rfl h189 ?_
          refine wq_v (o_sub rfl rfl (IntWalk.i64_in _ (by first | omega | (have := pat_pos (q := p) (by simp_all); omega) | (have := pat_pos (q := q) (by simp_all); omega)))) rfl ?_
          refine wq_on rfl rfl h189 ?_
          refine wq_v (o_slice_hi Tryz.underlying9 rfl rfl (by first | omega | (have := pat_pos (q := p) (by simp_all); omega) | (have := pat_pos (q := q) (by simp_all); omega)) (by first | omega | (have := pat_pos (q := p) (by simp_all); omega) | (have := pat_pos (q := q) (by simp_all); omega))) rfl ?_
          refine wq_on rfl rfl h189 ?_
          refine wq_v (o_move rfl) rfl ?_
          refine wq_on rfl rfl h189 ?_
          refine wq_v (o_move rfl) rfl ?_
          refine wq_on rfl rfl h189 ?_
          refine wq_v (o_len_s Tryz.underlying9 rfl) rfl ?_
          refine wq_on rfl rfl h189 ?_
          refine wq_v (o_sub rfl rfl (IntWalk.i64_in _ (by first | omega | (have := pat_pos (q := p) (by simp_all); omega) | (have := pat_pos (q := q) (by simp_all); omega)))) rfl ?_
          refine wq_on rfl rfl h189 ?_
          refine wq_v (o_slice_hi Tryz.underlying9 rfl rfl (by first | omega | (have := pat_pos (q := p) (by simp_all); omega) | (have := pat_pos (q := q) (by simp_all); omega)) (by first | omega | (have := pat_pos (q := p) (by simp_all); omega) | (have := pat_pos (q := q) (by simp_all); omega))) rfl ?_
          refine wq_on rfl rfl h189 ?_
          refine wq_call Tryz.call48 rfl (fun w hw => begins_r (List.take (Int.toNat ((q.length : Int) - 1)) q) (List.take (Int.toNat ((p.length : Int) - 1)) p) (by first | omega | (simp; done) | (simp; omega) | (simp at *; omega) | (split <;> first | omega | (simp; omega))) (by first | omega | (simp; done) | (simp; omega) | (simp at *; omega) | (split <;> first | omega | (simp; omega))) w) rfl ?_
          refine wq_v (o_pick_t rfl h189 rfl) rfl ?_
          refine wq_v (o_assign rfl) rfl ?_
          refine wq_nil ?_
          exact wk_then (wk_mid trivial ⟨fb (by first | (simp only [h187, h188, h189, Bool.true_and, Bool.false_and, Bool.true_or, Bool.false_or, Bool.and_true, Bool.and_false, Bool.or_true, Bool.or_false, Bool.not_true, Bool.not_false, cond_true, cond_false, if_true, if_false, reduceIte, Bool.false_eq_true]; done) | (simp only [Bool.true_and, Bool.false_and, Bool.true_or, Bool.false_or, Bool.and_true, Bool.and_false, Bool.or_true, Bool.or_false, Bool.not_true, Bool.not_false, cond_true, cond_false, if_true, if_false, reduceIte, Bool.false_eq_true]; done) | simp [h187, h188, h189]), trivial⟩ .slnil)
        · have g189 := h189; try simp only [decide_eq_true_eq, decide_eq_false_iff_not] at g189
          have f189 := h189; try simp only [decide_eq_true_eq, decide_eq_false_iff_not, Bool.and_eq_true, Bool.or_eq_true, Bool.not_eq_true', Bool.not_eq_false', Bool.and_eq_false_iff, Bool.or_eq_false_iff, not_or, Int.not_lt, Int.not_le] at f189
          refine wq_off rfl rfl h189 rfl ?_
          refine wq_off rfl rfl h189 rfl ?_
          refine wq_off rfl rfl h189 rfl ?_
          refine wq_off rfl rfl h189 rfl ?_
          refine wq_off rfl rfl h189 rfl ?_
          refine wq_off rfl rfl h189 rfl ?_
          refine wq_off rfl rfl h189 rfl ?_
          refine wq_off rfl rfl h189 rfl ?_
          refine wq_off rfl rfl h189 rfl ?_
          refine wq_off rfl rfl h189 rfl ?_
          refine wq_off rfl rfl h189 rfl ?_
          refine wq_v (o_pick_f rfl h189 rfl) rfl ?_
          refine wq_v (o_assign rfl) rfl ?_
          refine wq_nil ?_
          exact wk_then (wk_mid trivial ⟨fb (by first | (simp only [h187, h188, h189, Bool.true_and, Bool.false_and, Bool.true_or, Bool.false_or, Bool.and_true, Bool.and_false, Bool.or_true, Bool.or_false, Bool.not_true, Bool.not_false, cond_true, cond_false, if_true, if_false, reduceIte, Bool.false_eq_true]; done) | (simp only [Bool.true_and, Bool.false_and, Bool.true_or, Bool.false_or, Bool.and_true, Bool.and_false, Bool.or_true, Bool.or_false, Bool.not_true, Bool.not_false, cond_true, cond_false, if_true, if_false, reduceIte, Bool.false_eq_true]; done) | simp [h187, h188, h189]), trivial⟩ .slnil)
      refine wc_ret ?_
      refine wk_ret (r_1 rfl rfl) ?_
      exact retv (by rw [covR_open h187 f188])

theorem form_r (p : List UInt8) (hp : p.length ≤ 281474976710656) (w : World) : Calls Tryz.prog 61 [.string (B (p))].toArray w (RetV w (.bool (decS p))) := by
  refine enter0 (n := 53) Tryz.func61 rfl Tryz.ntmps61 rfl ?_
  refine wc_seq ?_
  refine wc_region ?_
  refine wl_v (o_assign rfl) rfl ?_
  refine wl_nil ?_
  refine wk_then (wc_of_wk ?_)
  refine wc_seq ?_
  refine wc_region ?_
  refine wl_v (o_move rfl) rfl ?_
  refine wl_v (o_assign rfl) rfl ?_
  refine wl_nil ?_
  refine wk_then (wc_of_wk ?_)
  refine wc_seq_mid [(2, .bool (false)), (3, .string (B ((if ((decide ((0) < ((p.length : Int)))) && (decide ((bat p 0) = (45)))) = true then List.drop (Int.toNat (1)) p else p))))] [] (φ := (!((decide ((0) < ((p.length : Int)))) && (decide ((bat p 0) = (45)))) || (!(((decide ((0) < (((List.drop (Int.toNat (1)) p).length : Int)))) && (decide ((bat (List.drop (Int.toNat (1)) p) 0) = (48))))))) = true) ?_ (fun hm196 => ?_)
  · refine wc_seq_mid [(2, .bool (false)), (3, .string (B (p))), (13, .bool (((decide ((0) < ((p.length : Int)))) && (decide ((bat p 0) = (45))))))] [] (φ := True) ?_ (fun hm191 => ?_)
    · refine wc_region ?_
      refine wl_v (o_move rfl) rfl ?_
      refine wl_v (o_len_s Tryz.underlying9 rfl) rfl ?_
      refine wl_v (o_gt rfl rfl) rfl ?_
      refine wl_v (o_move rfl) rfl ?_
      refine bsplit (decide ((0) < ((p.length : Int)))) (fun h191 => ?_) (fun h191 => ?_)
      · have g191 := h191; try simp only [decide_eq_true_eq, decide_eq_false_iff_not] at g191
        have f191 := h191; try simp only [decide_eq_true_eq, decide_eq_false_iff_not, Bool.and_eq_true, Bool.or_eq_true, Bool.not_eq_true', Bool.not_eq_false', Bool.and_eq_false_iff, Bool.or_eq_false_iff, not_or, Int.not_lt, Int.not_le] at f191
        refine wl_on rfl rfl h191 ?_
        refine wl_v (o_move rfl) rfl ?_
        refine wl_on rfl rfl h191 ?_
        refine wl_v (o_index_b Tryz.underlying9 rfl rfl (by first | omega | (simp; omega) | (simp at *; omega) | exact len_pos (by assumption)) (by first | omega | (simp; omega) | (simp at *; omega) | exact len_pos (by assumption))) rfl ?_
        refine wl_on rfl rfl h191 ?_
        refine wl_v (o_eq rfl rfl) rfl ?_
        refine wl_v (o_pick_t rfl h191 rfl) rfl ?_
        refine wl_nil ?_
        exact wk_then (wk_mid trivial ⟨rfl, rfl, fb (by first | (simp only [h191, Bool.true_and, Bool.false_and, Bool.true_or, Bool.false_or, Bool.and_true, Bool.and_false, Bool.or_true, Bool.or_false, Bool.not_true, Bool.not_false, cond_true, cond_false, if_true, if_false, reduceIte, Bool.false_eq_true]; done) | (simp only [Bool.true_and, Bool.false_and, Bool.true_or, Bool.false_or, Bool.and_true, Bool.and_false, Bool.or_true, Bool.or_false, Bool.not_true, Bool.not_false, cond_true, cond_false, if_true, if_false, reduceIte, Bool.false_eq_true]; done) | simp [h191]), trivial⟩ .slnil)
      · have g191 := h191; try simp only [decide_eq_true_eq, decide_eq_false_iff_not] at g191
        have f191 := h191; try simp only [decide_eq_true_eq, decide_eq_false_iff_not, Bool.and_eq_true, Bool.or_eq_true, Bool.not_eq_true', Bool.not_eq_false', Bool.and_eq_false_iff, Bool.or_eq_false_iff, not_or, Int.not_lt, Int.not_le] at f191
        refine wl_off rfl rfl h191 rfl ?_
        refine wl_off rfl rfl h191 rfl ?_
        refine wl_off rfl rfl h191 rfl ?_
        refine wl_v (o_pick_f rfl h191 rfl) rfl ?_
        refine wl_nil ?_
        exact wk_then (wk_mid trivial ⟨rfl, rfl, fb (by first | (simp only [h191, Bool.true_and, Bool.false_and, Bool.true_or, Bool.false_or, Bool.and_true, Bool.and_false, Bool.or_true, Bool.or_false, Bool.not_true, Bool.not_false, cond_true, cond_false, if_true, if_false, reduceIte, Bool.false_eq_true]; done) | (simp only [Bool.true_and, Bool.false_and, Bool.true_or, Bool.false_or, Bool.and_true, Bool.and_false, Bool.or_true, Bool.or_false, Bool.not_true, Bool.not_false, cond_true, cond_false, if_true, if_false, reduceIte, Bool.false_eq_true]; done) | simp [h191]), trivial⟩ .slnil)
    refine wc_cond (b := ((decide ((0) < ((p.length : Int)))) && (decide ((bat p 0) = (45))))) rfl (fun h193 => ?_) (fun h193 => ?_)
    · have g193 := h193; try simp only [decide_eq_true_eq, decide_eq_false_iff_not] at g193
      have f193 := h193; try simp only [decide_eq_true_eq, decide_eq_false_iff_not, Bool.and_eq_true, Bool.or_eq_true, Bool.not_eq_true', Bool.not_eq_false', Bool.and_eq_false_iff, Bool.or_eq_false_iff, not_or, Int.not_lt, Int.not_le] at f193
      refine wc_seq ?_
      refine wc_region ?_
      refine wl_v (o_move rfl) rfl ?_
      refine wl_v (o_slice_lo Tryz.underlying9 rfl rfl (by first | omega | (simp; omega)) (by first | omega | (simp; omega))) rfl ?_
      refine wl_v (o_assign rfl) rfl ?_
      refine wl_nil ?_
      refine wk_then (wc_of_wk ?_)
      refine wc_seq_mid [(2, .bool (false)), (3, .string (B (List.drop (Int.toNat (1)) p))), (23, .bool (((decide ((0) < (((List.drop (Int.toNat (1)) p).length : Int)))) && (decide ((bat (List.drop (Int.toNat (1)) p) 0) = (48))))))] [] (φ := True) ?_ (fun hm194 => ?_)
      · refine wc_region ?_
        refine wl_v (o_move rfl) rfl ?_
        refine wl_v (o_len_s Tryz.underlying9 rfl) rfl ?_
        refine wl_v (o_gt rfl rfl) rfl ?_
        refine wl_v (o_move rfl) rfl ?_
        refine bsplit (decide ((0) < (((List.drop (Int.toNat (1)) p).length : Int)))) (fun h194 => ?_) (fun h194 => ?_)
        · have g194 := h194; try simp only [decide_eq_true_eq, decide_eq_false_iff_not] at g194
          have f194 := h194; try simp only [decide_eq_true_eq, decide_eq_false_iff_not, Bool.and_eq_true, Bool.or_eq_true, Bool.not_eq_true', Bool.not_eq_false', Bool.and_eq_false_iff, Bool.or_eq_false_iff, not_or, Int.not_lt, Int.not_le] at f194
          refine wl_on rfl rfl h194 ?_
          refine wl_v (o_move rfl) rfl ?_
          refine wl_on rfl rfl h194 ?_
          refine wl_v (o_index_b Tryz.underlying9 rfl rfl (by first | omega | (simp; omega) | (simp at *; omega) | exact len_pos (by assumption)) (by first | omega | (simp; omega) | (simp at *; omega) | exact len_pos (by assumption))) rfl ?_
          refine wl_on rfl rfl h194 ?_
          refine wl_v (o_eq rfl rfl) rfl ?_
          refine wl_v (o_pick_t rfl h194 rfl) rfl ?_
          refine wl_nil ?_
          exact wk_then (wk_mid trivial ⟨rfl, rfl, fb (by first | (simp only [h193, h194, Bool.true_and, Bool.false_and, Bool.true_or, Bool.false_or, Bool.and_true, Bool.and_false, Bool.or_true, Bool.or_false, Bool.not_true, Bool.not_false, cond_true, cond_false, if_true, if_false, reduceIte, Bool.false_eq_true]; done) | (simp only [Bool.true_and, Bool.false_and, Bool.true_or, Bool.false_or, Bool.and_true, Bool.and_false, Bool.or_true, Bool.or_false, Bool.not_true, Bool.not_false, cond_true, cond_false, if_true, if_false, reduceIte, Bool.false_eq_true]; done) | simp [h193, h194]), trivial⟩ .slnil)
        · have g194 := h194; try simp only [decide_eq_true_eq, decide_eq_false_iff_not] at g194
          have f194 := h194; try simp only [decide_eq_true_eq, decide_eq_false_iff_not, Bool.and_eq_true, Bool.or_eq_true, Bool.not_eq_true', Bool.not_eq_false', Bool.and_eq_false_iff, Bool.or_eq_false_iff, not_or, Int.not_lt, Int.not_le] at f194
          refine wl_off rfl rfl h194 rfl ?_
          refine wl_off rfl rfl h194 rfl ?_
          refine wl_off rfl rfl h194 rfl ?_
          refine wl_v (o_pick_f rfl h194 rfl) rfl ?_
          refine wl_nil ?_
          exact wk_then (wk_mid trivial ⟨rfl, rfl, fb (by first | (simp only [h193, h194, Bool.true_and, Bool.false_and, Bool.true_or, Bool.false_or, Bool.and_true, Bool.and_false, Bool.or_true, Bool.or_false, Bool.not_true, Bool.not_false, cond_true, cond_false, if_true, if_false, reduceIte, Bool.false_eq_true]; done) | (simp only [Bool.true_and, Bool.false_and, Bool.true_or, Bool.false_or, Bool.and_true, Bool.and_false, Bool.or_true, Bool.or_false, Bool.not_true, Bool.not_false, cond_true, cond_false, if_true, if_false, reduceIte, Bool.false_eq_true]; done) | simp [h193, h194]), trivial⟩ .slnil)
      refine wc_cond (b := ((decide ((0) < (((List.drop (Int.toNat (1)) p).length : Int)))) && (decide ((bat (List.drop (Int.toNat (1)) p) 0) = (48))))) rfl (fun h196 => ?_) (fun h196 => ?_)
      · have g196 := h196; try simp only [decide_eq_true_eq, decide_eq_false_iff_not] at g196
        have f196 := h196; try simp only [decide_eq_true_eq, decide_eq_false_iff_not, Bool.and_eq_true, Bool.or_eq_true, Bool.not_eq_true', Bool.not_eq_false', Bool.and_eq_false_iff, Bool.or_eq_false_iff, not_or, Int.not_lt, Int.not_le] at f196
        refine wc_seq ?_
        refine wc_region ?_
        refine wl_v (o_assign rfl) rfl ?_
        refine wl_nil ?_
        refine wk_then (wc_of_wk ?_)
        refine wc_ret ?_
        refine wk_then_ret ?_
        refine wk_ret (r_1 rfl rfl) ?_
        exact retv (by rw [form_no1 (by simp only [sgnS]; exact h193) (f196).2])
      · have g196 := h196; try simp only [decide_eq_true_eq, decide_eq_false_iff_not] at g196
        have f196 := h196; try simp only [decide_eq_true_eq, decide_eq_false_iff_not, Bool.and_eq_true, Bool.or_eq_true, Bool.not_eq_true', Bool.not_eq_false', Bool.and_eq_false_iff, Bool.or_eq_false_iff, not_or, Int.not_lt, Int.not_le] at f196
        refine wc_skip ?_
        exact wk_then (wk_mid (by first | (simp only [h193, h196, Bool.true_and, Bool.false_and, Bool.true_or, Bool.false_or, Bool.and_true, Bool.and_false, Bool.or_true, Bool.or_false, Bool.not_true, Bool.not_false, cond_true, cond_false, if_true, if_false, reduceIte, Bool.false_eq_true]; done) | (simp only [Bool.true_and, Bool.false_and, Bool.true_or, Bool.false_or, Bool.and_true, Bool.and_false, Bool.or_true, Bool.or_false, Bool.not_true, Bool.not_false, cond_true, cond_false, if_true, if_false, reduceIte, Bool.false_eq_true]; done) | simp [h193, h196]) ⟨rfl, fs (by first | (simp only [h193, h196, Bool.true_and, Bool.false_and, Bool.true_or, Bool.false_or, Bool.and_true, Bool.and_false, Bool.or_true, Bool.or_false, Bool.not_true, Bool.not_false, cond_true, cond_false, if_true, if_false, reduceIte, Bool.false_eq_true]; done) | (simp only [Bool.true_and, Bool.false_and, Bool.true_or, Bool.false_or, Bool.and_true, Bool.and_false, Bool.or_true, Bool.or_false, Bool.not_true, Bool.not_false, cond_true, cond_false, if_true, if_false, reduceIte, Bool.false_eq_true]; done) | simp [h193, h196]), trivial⟩ .slnil)
    · have g193 := h193; try simp only [decide_eq_true_eq, decide_eq_false_iff_not] at g193
      have f193 := h193; try simp only [decide_eq_true_eq, decide_eq_false_iff_not, Bool.and_eq_true, Bool.or_eq_true, Bool.not_eq_true', Bool.not_eq_false', Bool.and_eq_false_iff, Bool.or_eq_false_iff, not_or, Int.not_lt, Int.not_le] at f193
      refine wc_skip ?_
      exact wk_then (wk_mid (by first | (simp only [h193, Bool.true_and, Bool.false_and, Bool.true_or, Bool.false_or, Bool.and_true, Bool.and_false, Bool.or_true, Bool.or_false, Bool.not_true, Bool.not_false, cond_true, cond_false, if_true, if_false, reduceIte, Bool.false_eq_true]; done) | (simp only [Bool.true_and, Bool.false_and, Bool.true_or, Bool.false_or, Bool.and_true, Bool.and_false, Bool.or_true, Bool.or_false, Bool.not_true, Bool.not_false, cond_true, cond_false, if_true, if_false, reduceIte, Bool.false_eq_true]; done) | simp [h193]) ⟨rfl, fs (by first | (simp only [h193, Bool.true_and, Bool.false_and, Bool.true_or, Bool.false_or, Bool.and_true, Bool.and_false, Bool.or_true, Bool.or_false, Bool.not_true, Bool.not_false, cond_true, cond_false, if_true, if_false, reduceIte, Bool.false_eq_true]; done) | (simp only [Bool.true_and, Bool.false_and, Bool.true_or, Bool.false_or, Bool.and_true, Bool.and_false, Bool.or_true, Bool.or_false, Bool.not_true, Bool.not_false, cond_true, cond_false, if_true, if_false, reduceIte, Bool.false_eq_true]; done) | simp [h193]), trivial⟩ .slnil)
  have g196 := hm196; try simp only [decide_eq_true_eq, decide_eq_false_iff_not] at g196
  have f196 := hm196; try simp only [decide_eq_true_eq, decide_eq_false_iff_not, Bool.and_eq_true, Bool.or_eq_true, Bool.not_eq_true', Bool.not_eq_false', Bool.and_eq_false_iff, Bool.or_eq_false_iff, not_or, Int.not_lt, Int.not_le] at f196
  have hdg : digs p = (if ((decide ((0) < ((p.length : Int)))) && (decide ((bat p 0) = (45)))) = true then List.drop (Int.toNat (1)) p else p) := rfl
  have hdl := digs_len p
  have hform : sgnS p = true → ¬ ((0 : Int) < (digs p).length ∧ bat (digs p) 0 = 48) := by intro hs; rw [show digs p = List.drop 1 p from by simp [digs, hs]]; simp only [sgnS] at hs; intro hx; simp_all; grind
  rw [hdg] at hdl hform
  clear hm196 g196 f196
  generalize (if ((decide ((0) < ((p.length : Int)))) && (decide ((bat p 0) = (45)))) = true then List.drop (Int.toNat (1)) p else p) = dg at hdg hdl hform ⊢
  refine wc_seq ?_
  refine wc_seq_mid [(2, .bool (false)), (3, .string (B (dg))), (36, .bool (((decide (((dg.length : Int)) = (0))) || ((decide ((1) < ((dg.length : Int)))) && (decide ((bat dg 0) = (48)))))))] [] (φ := True) ?_ (fun hm199 => ?_)
  · refine wc_region ?_
    refine wl_v (o_move rfl) rfl ?_
    refine wl_v (o_len_s Tryz.underlying9 rfl) rfl ?_
    refine wl_v (o_eq rfl rfl) rfl ?_
    refine wl_v (o_move rfl) rfl ?_
    refine bsplit (decide (((dg.length : Int)) = (0))) (fun h198 => ?_) (fun h198 => ?_)
    · have g198 := h198; try simp only [decide_eq_true_eq, decide_eq_false_iff_not] at g198
      have f198 := h198; try simp only [decide_eq_true_eq, decide_eq_false_iff_not, Bool.and_eq_true, Bool.or_eq_true, Bool.not_eq_true', Bool.not_eq_false', Bool.and_eq_false_iff, Bool.or_eq_false_iff, not_or, Int.not_lt, Int.not_le] at f198
      refine wl_off rfl rfl h198 rfl ?_
      refine wl_off rfl rfl h198 rfl ?_
      refine wl_off rfl rfl h198 rfl ?_
      refine wl_off rfl rfl h198 rfl ?_
      refine wl_off_u rfl rfl rfl ?_
      refine wl_off_u rfl rfl rfl ?_
      refine wl_off_u rfl rfl rfl ?_
      refine wl_off rfl rfl h198 rfl ?_
      refine wl_v (o_pick_t rfl h198 rfl) rfl ?_
      refine wl_nil ?_
      exact wk_then (wk_mid trivial ⟨rfl, rfl, fb (by first | (simp only [h198, Bool.true_and, Bool.false_and, Bool.true_or, Bool.false_or, Bool.and_true, Bool.and_false, Bool.or_true, Bool.or_false, Bool.not_true, Bool.not_false, cond_true, cond_false, if_true, if_false, reduceIte, Bool.false_eq_true]; done) | (simp only [Bool.true_and, Bool.false_and, Bool.true_or, Bool.false_or, Bool.and_true, Bool.and_false, Bool.or_true, Bool.or_false, Bool.not_true, Bool.not_false, cond_true, cond_false, if_true, if_false, reduceIte, Bool.false_eq_true]; done) | simp [h198]), trivial⟩ .slnil)
    · have g198 := h198; try simp only [decide_eq_true_eq, decide_eq_false_iff_not] at g198
      have f198 := h198; try simp only [decide_eq_true_eq, decide_eq_false_iff_not, Bool.and_eq_true, Bool.or_eq_true, Bool.not_eq_true', Bool.not_eq_false', Bool.and_eq_false_iff, Bool.or_eq_false_iff, not_or, Int.not_lt, Int.not_le] at f198
      refine wl_on rfl rfl h198 ?_
      refine wl_v (o_move rfl) rfl ?_
      refine wl_on rfl rfl h198 ?_
      refine wl_v (o_len_s Tryz.underlying9 rfl) rfl ?_
      refine wl_on rfl rfl h198 ?_
      refine wl_v (o_gt rfl rfl) rfl ?_
      refine wl_on rfl rfl h198 ?_
      refine wl_v (o_move rfl) rfl ?_
      refine bsplit (decide ((1) < ((dg.length : Int)))) (fun h199 => ?_) (fun h199 => ?_)
      · have g199 := h199; try simp only [decide_eq_true_eq, decide_eq_false_iff_not] at g199
        have f199 := h199; try simp only [decide_eq_true_eq, decide_eq_false_iff_not, Bool.and_eq_true, Bool.or_eq_true, Bool.not_eq_true', Bool.not_eq_false', Bool.and_eq_false_iff, Bool.or_eq_false_iff, not_or, Int.not_lt, Int.not_le] at f199
        refine wl_on rfl rfl h199 ?_
        refine wl_v (o_move rfl) rfl ?_
        refine wl_on rfl rfl h199 ?_
        refine wl_v (o_index_b Tryz.underlying9 rfl rfl (by first | omega | (simp; omega) | (simp at *; omega) | exact len_pos (by assumption)) (by first | omega | (simp; omega) | (simp at *; omega) | exact len_pos (by assumption))) rfl ?_
        refine wl_on rfl rfl h199 ?_
        refine wl_v (o_eq rfl rfl) rfl ?_
        refine wl_on rfl rfl h198 ?_
        refine wl_v (o_pick_t rfl h199 rfl) rfl ?_
        refine wl_v (o_pick_f rfl h198 rfl) rfl ?_
        refine wl_nil ?_
        exact wk_then (wk_mid trivial ⟨rfl, rfl, fb (by first | (simp only [h198, h199, Bool.true_and, Bool.false_and, Bool.true_or, Bool.false_or, Bool.and_true, Bool.and_false, Bool.or_true, Bool.or_false, Bool.not_true, Bool.not_false, cond_true, cond_false, if_true, if_false, reduceIte, Bool.false_eq_true]; done) | (simp only [Bool.true_and, Bool.false_and, Bool.true_or, Bool.false_or, Bool.and_true, Bool.and_false, Bool.or_true, Bool.or_false, Bool.not_true, Bool.not_false, cond_true, cond_false, if_true, if_false, reduceIte, Bool.false_eq_true]; done) | simp [h198, h199]), trivial⟩ .slnil)
      · have g199 := h199; try simp only [decide_eq_true_eq, decide_eq_false_iff_not] at g199
        have f199 := h199; try simp only [decide_eq_true_eq, decide_eq_false_iff_not, Bool.and_eq_true, Bool.or_eq_true, Bool.not_eq_true', Bool.not_eq_false', Bool.and_eq_false_iff, Bool.or_eq_false_iff, not_or, Int.not_lt, Int.not_le] at f199
        refine wl_off rfl rfl h199 rfl ?_
        refine wl_off rfl rfl h199 rfl ?_
        refine wl_off rfl rfl h199 rfl ?_
        refine wl_on rfl rfl h198 ?_
        refine wl_v (o_pick_f rfl h199 rfl) rfl ?_
        refine wl_v (o_pick_f rfl h198 rfl) rfl ?_
        refine wl_nil ?_
        exact wk_then (wk_mid trivial ⟨rfl, rfl, fb (by first | (simp only [h198, h199, Bool.true_and, Bool.false_and, Bool.true_or, Bool.false_or, Bool.and_true, Bool.and_false, Bool.or_true, Bool.or_false, Bool.not_true, Bool.not_false, cond_true, cond_false, if_true, if_false, reduceIte, Bool.false_eq_true]; done) | (simp only [Bool.true_and, Bool.false_and, Bool.true_or, Bool.false_or, Bool.and_true, Bool.and_false, Bool.or_true, Bool.or_false, Bool.not_true, Bool.not_false, cond_true, cond_false, if_true, if_false, reduceIte, Bool.false_eq_true]; done) | simp [h198, h199]), trivial⟩ .slnil)
  refine wc_cond (b := ((decide (((dg.length : Int)) = (0))) || ((decide ((1) < ((dg.length : Int)))) && (decide ((bat dg 0) = (48)))))) rfl (fun h201 => ?_) (fun h201 => ?_)
  · have g201 := h201; try simp only [decide_eq_true_eq, decide_eq_false_iff_not] at g201
    have f201 := h201; try simp only [decide_eq_true_eq, decide_eq_false_iff_not, Bool.and_eq_true, Bool.or_eq_true, Bool.not_eq_true', Bool.not_eq_false', Bool.and_eq_false_iff, Bool.or_eq_false_iff, not_or, Int.not_lt, Int.not_le] at f201
    refine wc_seq ?_
    refine wc_region ?_
    refine wl_v (o_assign rfl) rfl ?_
    refine wl_nil ?_
    refine wk_then (wc_of_wk ?_)
    refine wc_ret ?_
    refine wk_then_ret ?_
    refine wk_ret (r_1 rfl rfl) ?_
    exact retv (by rw [form_no2 hdg h201])
  · have g201 := h201; try simp only [decide_eq_true_eq, decide_eq_false_iff_not] at g201
    have f201 := h201; try simp only [decide_eq_true_eq, decide_eq_false_iff_not, Bool.and_eq_true, Bool.or_eq_true, Bool.not_eq_true', Bool.not_eq_false', Bool.and_eq_false_iff, Bool.or_eq_false_iff, not_or, Int.not_lt, Int.not_le] at f201
    refine wc_skip ?_
    refine wk_then (wc_of_wk ?_)
    refine wc_seq ?_
    refine wc_seq ?_
    refine wc_region ?_
    refine wl_v (o_move rfl) rfl ?_
    refine wl_v (o_len_s Tryz.underlying9 rfl) rfl ?_
    refine wl_v (o_move rfl) rfl ?_
    refine wl_nil ?_
    refine wk_then (wc_of_wk ?_)
    refine wc_block ?_
    refine wc_loop (S := Nat) (fun (k : Nat) => k ≤ dg.length ∧ allFrom digCh 0 dg = allFrom digCh k (dg.drop k)) (fun (k : Nat) => [(39, .int .i64 ((k : Int))), (3, .string (B (dg))), (38, .int .i64 ((dg.length : Int)))]) (fun (k : Nat) => []) (fun (k : Nat) => dg.length - k) (0) ?_ ⟨fi (by first | rfl | (simp; done) | omega | (simp; omega)), rfl, rfl, trivial⟩ .slnil ?_
    · exact ⟨Nat.zero_le _, by simp⟩
    rintro k hi0
    refine wc_seq ?_
    refine wc_region ?_
    refine wl_v (o_lt rfl rfl) rfl ?_
    refine wl_nil ?_
    refine wk_then (wc_of_wk ?_)
    refine wc_seq ?_
    refine wc_cond (b := decide (((k : Int)) < ((dg.length : Int)))) rfl (fun h202 => ?_) (fun h202 => ?_)
    · have g202 := h202; try simp only [decide_eq_true_eq, decide_eq_false_iff_not] at g202
      have f202 := h202; try simp only [decide_eq_true_eq, decide_eq_false_iff_not, Bool.and_eq_true, Bool.or_eq_true, Bool.not_eq_true', Bool.not_eq_false', Bool.and_eq_false_iff, Bool.or_eq_false_iff, not_or, Int.not_lt, Int.not_le] at f202
      refine wc_skip ?_
      refine wk_then (wc_of_wk ?_)
      refine wc_seq ?_
      refine wc_block ?_
      refine wc_seq ?_
      refine wc_region ?_
      refine wl_v (o_move rfl) rfl ?_
      refine wl_v (o_assign rfl) rfl ?_
      refine wl_nil ?_
      refine wk_then (wc_of_wk ?_)
      refine wc_seq_mid [(3, .string (B (dg))), (4, .int .i64 ((k : Int))), (38, .int .i64 ((dg.length : Int))), (39, .int .i64 ((k : Int))), (40, .bool (decide (((k : Int)) < ((dg.length : Int))))), (41, .int .i64 ((k : Int))), (42, .string (B (dg))), (43, .int .i64 ((k : Int))), (44, .int .u8 (bat dg (k : Int))), (45, .bool (decide ((bat dg (k : Int)) < (48)))), (46, .bool (decide ((bat dg (k : Int)) < (48)))), (51, .bool (((decide ((bat dg (k : Int)) < (48))) || (decide ((57) < (bat dg (k : Int)))))))] [] (φ := True) ?_ (fun hm203 => ?_)
      · refine wc_region ?_
        refine wl_v (o_move rfl) rfl ?_
        refine wl_v (o_move rfl) rfl ?_
        refine wl_v (o_index_b Tryz.underlying9 rfl rfl (by first | omega | (simp; omega) | (simp at *; omega) | exact len_pos (by assumption)) (by first | omega | (simp; omega) | (simp at *; omega) | exact len_pos (by assumption))) rfl ?_
        refine wl_v (o_lt rfl rfl) rfl ?_
        refine wl_v (o_move rfl) rfl ?_
        refine bsplit (decide ((bat dg (k : Int)) < (48))) (fun h203 => ?_) (fun h203 => ?_)
        · have g203 := h203; try simp only [decide_eq_true_eq, decide_eq_false_iff_not] at g203
          have f203 := h203; try simp only [decide_eq_true_eq, decide_eq_false_iff_not, Bool.and_eq_true, Bool.or_eq_true, Bool.not_eq_true', Bool.not_eq_false', Bool.and_eq_false_iff, Bool.or_eq_false_iff, not_or, Int.not_lt, Int.not_le] at f203
          refine wl_off rfl rfl h203 rfl ?_
          refine wl_off rfl rfl h203 rfl ?_
          refine wl_off rfl rfl h203 rfl ?_
          refine wl_off rfl rfl h203 rfl ?_
          refine wl_v (o_pick_t rfl h203 rfl) rfl ?_
          refine wl_nil ?_
          exact wk_then (wk_mid trivial ⟨rfl, rfl, rfl, rfl, rfl, rfl, rfl, rfl, rfl, rfl, rfl, fb (by first | (simp only [h201, h202, h203, Bool.true_and, Bool.false_and, Bool.true_or, Bool.false_or, Bool.and_true, Bool.and_false, Bool.or_true, Bool.or_false, Bool.not_true, Bool.not_false, cond_true, cond_false, if_true, if_false, reduceIte, Bool.false_eq_true]; done) | (simp only [Bool.true_and, Bool.false_and, Bool.true_or, Bool.false_or, Bool.and_true, Bool.and_false, Bool.or_true, Bool.or_false, Bool.not_true, Bool.not_false, cond_true, cond_false, if_true, if_false, reduceIte, Bool.false_eq_true]; done) | simp [h201, h202, h203]), trivial⟩ .slnil)
        · have g203 := h203; try simp only [decide_eq_true_eq, decide_eq_false_iff_not] at g203
          have f203 := h203; try simp only [decide_eq_true_eq, decide_eq_false_iff_not, Bool.and_eq_true, Bool.or_eq_true, Bool.not_eq_true', Bool.not_eq_false', Bool.and_eq_false_iff, Bool.or_eq_false_iff, not_or, Int.not_lt, Int.not_le] at f203
          refine wl_on rfl rfl h203 ?_
          refine wl_v (o_move rfl) rfl ?_
          refine wl_on rfl rfl h203 ?_
          refine wl_v (o_move rfl) rfl ?_
          refine wl_on rfl rfl h203 ?_
          refine wl_v (o_index_b Tryz.underlying9 rfl rfl (by first | omega | (simp; omega) | (simp at *; omega) | exact len_pos (by assumption)) (by first | omega | (simp; omega) | (simp at *; omega) | exact len_pos (by assumption))) rfl ?_
          refine wl_on rfl rfl h203 ?_
          refine wl_v (o_gt rfl rfl) rfl ?_
          refine wl_v (o_pick_f rfl h203 rfl) rfl ?_
          refine wl_nil ?_
          exact wk_then (wk_mid trivial ⟨rfl, rfl, rfl, rfl, rfl, rfl, rfl, rfl, rfl, rfl, rfl, fb (by first | (simp only [h201, h202, h203, Bool.true_and, Bool.false_and, Bool.true_or, Bool.false_or, Bool.and_true, Bool.and_false, Bool.or_true, Bool.or_false, Bool.not_true, Bool.not_false, cond_true, cond_false, if_true, if_false, reduceIte, Bool.false_eq_true]; done) | (simp only [Bool.true_and, Bool.false_and, Bool.true_or, Bool.false_or, Bool.and_true, Bool.and_false, Bool.or_true, Bool.or_false, Bool.not_true, Bool.not_false, cond_true, cond_false, if_true, if_false, reduceIte, Bool.false_eq_true]; done) | simp [h201, h202, h203]), trivial⟩ .slnil)
      refine wc_cond (b := ((decide ((bat dg (k : Int)) < (48))) || (decide ((57) < (bat dg (k : Int)))))) rfl (fun h205 => ?_) (fun h205 => ?_)
      · have g205 := h205; try simp only [decide_eq_true_eq, decide_eq_false_iff_not] at g205
        have f205 := h205; try simp only [decide_eq_true_eq, decide_eq_false_iff_not, Bool.and_eq_true, Bool.or_eq_true, Bool.not_eq_true', Bool.not_eq_false', Bool.and_eq_false_iff, Bool.or_eq_false_iff, not_or, Int.not_lt, Int.not_le] at f205
        refine wc_seq ?_
        refine wc_region ?_
        refine wl_v (o_assign rfl) rfl ?_
        refine wl_nil ?_
        refine wk_then (wc_of_wk ?_)
        refine wc_ret ?_
        refine wk_in_ret ?_
        refine wk_then_ret ?_
        refine wk_then_ret ?_
        refine wk_in_ret ?_
        refine wk_then_ret ?_
        refine wk_ret (r_1 rfl rfl) ?_
        exact retv (by simp [decS, hdg, dig_no hi0 g202 h205])
      · have g205 := h205; try simp only [decide_eq_true_eq, decide_eq_false_iff_not] at g205
        have f205 := h205; try simp only [decide_eq_true_eq, decide_eq_false_iff_not, Bool.and_eq_true, Bool.or_eq_true, Bool.not_eq_true', Bool.not_eq_false', Bool.and_eq_false_iff, Bool.or_eq_false_iff, not_or, Int.not_lt, Int.not_le] at f205
        refine wc_skip ?_
        refine wk_in_norm ?_
        refine wk_then (wc_of_wk ?_)
        refine wc_region ?_
        refine wl_v (o_add rfl rfl (IntWalk.i64_in _ (by omega))) rfl ?_
        refine wl_v (o_move rfl) rfl ?_
        refine wl_nil ?_
        refine wk_then ?_
        refine wk_some (k + 1) ?_ ⟨fi (by first | rfl | (simp; done) | omega | (simp; omega)), rfl, rfl, trivial⟩ .slnil
        exact dig_next hi0 g202 h205
    · have g202 := h202; try simp only [decide_eq_true_eq, decide_eq_false_iff_not] at g202
      have f202 := h202; try simp only [decide_eq_true_eq, decide_eq_false_iff_not, Bool.and_eq_true, Bool.or_eq_true, Bool.not_eq_true', Bool.not_eq_false', Bool.and_eq_false_iff, Bool.or_eq_false_iff, not_or, Int.not_lt, Int.not_le] at f202
      refine wc_exit ?_
      refine wk_then_exit ?_
      refine wk_then_exit ?_
      refine wk_in_hit ?_
      refine wk_then (wc_of_wk ?_)
      refine wc_seq ?_
      refine wc_region ?_
      refine wl_v (o_assign rfl) rfl ?_
      refine wl_nil ?_
      refine wk_then (wc_of_wk ?_)
      refine wc_ret ?_
      refine wk_ret (r_1 rfl rfl) ?_
      exact retv (by rw [form_yes hdg hform h201 (dig_yes hi0 g202)])

theorem parse_r (p : List UInt8) (hp : p.length ≤ 281474976710656) (w : World) : Calls Tryz.prog 45 [.string (B (p))].toArray w (RetV w (.tuple #[.int .i64 (parseV p), .int .i64 (parseE p)])) := by
  refine enter0 (n := 42) Tryz.func45 rfl Tryz.ntmps45 rfl ?_
  refine wc_seq ?_
  refine wc_region ?_
  refine wl_v (o_assign rfl) rfl ?_
  refine wl_v (o_assign rfl) rfl ?_
  refine wl_nil ?_
  refine wk_then (wc_of_wk ?_)
  refine wc_seq_mid [(0, .string (B (p))), (2, .int .i64 (0)), (3, .int .i64 (0)), (4, .bool (((decide ((0) < ((p.length : Int)))) && (decide ((bat p 0) = (45))))))] [] (φ := True) ?_ (fun hm206 => ?_)
  · refine wc_region ?_
    refine wl_v (o_move rfl) rfl ?_
    refine wl_v (o_len_s Tryz.underlying9 rfl) rfl ?_
    refine wl_v (o_gt rfl rfl) rfl ?_
    refine wl_v (o_move rfl) rfl ?_
    refine bsplit (decide ((0) < ((p.length : Int)))) (fun h206 => ?_) (fun h206 => ?_)
    · have g206 := h206; try simp only [decide_eq_true_eq, decide_eq_false_iff_not] at g206
      have f206 := h206; try simp only [decide_eq_true_eq, decide_eq_false_iff_not, Bool.and_eq_true, Bool.or_eq_true, Bool.not_eq_true', Bool.not_eq_false', Bool.and_eq_false_iff, Bool.or_eq_false_iff, not_or, Int.not_lt, Int.not_le] at f206
      refine wl_on rfl rfl h206 ?_
      refine wl_v (o_move rfl) rfl ?_
      refine wl_on rfl rfl h206 ?_
      refine wl_v (o_index_b Tryz.underlying9 rfl rfl (by first | omega | (simp; omega) | (simp at *; omega)) (by first | omega | (simp; omega) | (simp at *; omega))) rfl ?_
      refine wl_on rfl rfl h206 ?_
      refine wl_v (o_eq rfl rfl) rfl ?_
      refine wl_v (o_pick_t rfl h206 rfl) rfl ?_
      refine wl_v (o_assign rfl) rfl ?_
      refine wl_nil ?_
      exact wk_then (wk_mid trivial ⟨rfl, rfl, rfl, fb (by first | (simp only [h206, Bool.true_and, Bool.false_and, Bool.true_or, Bool.false_or, Bool.and_true, Bool.and_false, Bool.or_true, Bool.or_false, Bool.not_true, Bool.not_false, cond_true, cond_false, if_true, if_false, reduceIte, Bool.false_eq_true]; done) | (simp only [Bool.true_and, Bool.false_and, Bool.true_or, Bool.false_or, Bool.and_true, Bool.and_false, Bool.or_true, Bool.or_false, Bool.not_true, Bool.not_false, cond_true, cond_false, if_true, if_false, reduceIte, Bool.false_eq_true]; done) | simp [h206]), trivial⟩ .slnil)
    · have g206 := h206; try simp only [decide_eq_true_eq, decide_eq_false_iff_not] at g206
      have f206 := h206; try simp only [decide_eq_true_eq, decide_eq_false_iff_not, Bool.and_eq_true, Bool.or_eq_true, Bool.not_eq_true', Bool.not_eq_false', Bool.and_eq_false_iff, Bool.or_eq_false_iff, not_or, Int.not_lt, Int.not_le] at f206
      refine wl_off rfl rfl h206 rfl ?_
      refine wl_off rfl rfl h206 rfl ?_
      refine wl_off rfl rfl h206 rfl ?_
      refine wl_v (o_pick_f rfl h206 rfl) rfl ?_
      refine wl_v (o_assign rfl) rfl ?_
      refine wl_nil ?_
      exact wk_then (wk_mid trivial ⟨rfl, rfl, rfl, fb (by first | (simp only [h206, Bool.true_and, Bool.false_and, Bool.true_or, Bool.false_or, Bool.and_true, Bool.and_false, Bool.or_true, Bool.or_false, Bool.not_true, Bool.not_false, cond_true, cond_false, if_true, if_false, reduceIte, Bool.false_eq_true]; done) | (simp only [Bool.true_and, Bool.false_and, Bool.true_or, Bool.false_or, Bool.and_true, Bool.and_false, Bool.or_true, Bool.or_false, Bool.not_true, Bool.not_false, cond_true, cond_false, if_true, if_false, reduceIte, Bool.false_eq_true]; done) | simp [h206]), trivial⟩ .slnil)
  refine wc_seq ?_
  refine wc_seq ?_
  refine wc_region ?_
  refine wl_v (o_move rfl) rfl ?_
  refine w_call Tryz.call61 rfl (fun w hw => form_r p (by first | omega | (simp; done) | (simp; omega) | (simp at *; omega) | (split <;> first | omega | (simp; omega))) w) rfl ?_
  refine wl_v (o_not rfl) rfl ?_
  refine wl_nil ?_
  refine wk_then (wc_of_wk ?_)
  refine wc_cond (b := !(decS p)) rfl (fun h208 => ?_) (fun h208 => ?_)
  · have g208 := h208; try simp only [decide_eq_true_eq, decide_eq_false_iff_not] at g208
    have f208 := h208; try simp only [decide_eq_true_eq, decide_eq_false_iff_not, Bool.and_eq_true, Bool.or_eq_true, Bool.not_eq_true', Bool.not_eq_false', Bool.and_eq_false_iff, Bool.or_eq_false_iff, not_or, Int.not_lt, Int.not_le] at f208
    refine wc_seq ?_
    refine wc_region ?_
    refine wl_v (o_assign rfl) rfl ?_
    refine wl_v (o_assign rfl) rfl ?_
    refine wl_nil ?_
    refine wk_then (wc_of_wk ?_)
    refine wc_ret ?_
    refine wk_then_ret ?_
    refine wk_ret (r_2 rfl rfl rfl) ?_
    exact retv (by simp [parseV, parseE, f208])
  · have g208 := h208; try simp only [decide_eq_true_eq, decide_eq_false_iff_not] at g208
    have f208 := h208; try simp only [decide_eq_true_eq, decide_eq_false_iff_not, Bool.and_eq_true, Bool.or_eq_true, Bool.not_eq_true', Bool.not_eq_false', Bool.and_eq_false_iff, Bool.or_eq_false_iff, not_or, Int.not_lt, Int.not_le] at f208
    refine wc_skip ?_
    refine wk_then (wc_of_wk ?_)
    refine wc_seq ?_
    refine wc_region ?_
    refine wl_v (o_assign rfl) rfl ?_
    refine wl_nil ?_
    refine wk_then (wc_of_wk ?_)
    refine wc_seq ?_
    refine wc_seq ?_
    refine wc_region ?_
    refine wl_v (o_move rfl) rfl ?_
    refine wl_v (o_len_s Tryz.underlying9 rfl) rfl ?_
    refine wl_v (o_move rfl) rfl ?_
    refine wl_nil ?_
    refine wk_then (wc_of_wk ?_)
    refine wc_block ?_
    refine wc_loop (S := Nat × Nat) (fun (x : Nat × Nat) => match x with | ⟨k, n⟩ => k ≤ p.length ∧ n ≤ 1000000000000 ∧ runP 0 p = runP n (p.drop k)) (fun (x : Nat × Nat) => match x with | ⟨k, n⟩ => [(20, .int .i64 ((k : Int))), (5, .int .i64 ((n : Int))), (0, .string (B (p))), (4, .bool (((decide ((0) < ((p.length : Int)))) && (decide ((bat p 0) = (45)))))), (19, .int .i64 ((p.length : Int)))]) (fun (x : Nat × Nat) => match x with | ⟨k, n⟩ => []) (fun (x : Nat × Nat) => match x with | ⟨k, n⟩ => p.length - k) (0, 0) ?_ ⟨fi (by first | rfl | (simp; done) | omega | (simp; omega)), fi (by first | rfl | (simp; done) | omega | (simp; omega)), rfl, rfl, rfl, trivial⟩ .slnil ?_
    · exact ⟨Nat.zero_le _, Nat.zero_le _, by simp⟩
    rintro ⟨k, n⟩ hi0
    have hk1 := hi0.1
    have hk2 := hi0.2.1
    refine wc_seq ?_
    refine wc_region ?_
    refine wl_v (o_lt rfl rfl) rfl ?_
    refine wl_nil ?_
    refine wk_then (wc_of_wk ?_)
    refine wc_seq ?_
    refine wc_cond (b := decide (((k : Int)) < ((p.length : Int)))) rfl (fun h209 => ?_) (fun h209 => ?_)
    · have g209 := h209; try simp only [decide_eq_true_eq, decide_eq_false_iff_not] at g209
      have f209 := h209; try simp only [decide_eq_true_eq, decide_eq_false_iff_not, Bool.and_eq_true, Bool.or_eq_true, Bool.not_eq_true', Bool.not_eq_false', Bool.and_eq_false_iff, Bool.or_eq_false_iff, not_or, Int.not_lt, Int.not_le] at f209
      refine wc_skip ?_
      refine wk_then (wc_of_wk ?_)
      refine wc_seq_mid [(0, .string (B (p))), (4, .bool (((decide ((0) < ((p.length : Int)))) && (decide ((bat p 0) = (45)))))), (5, .int .i64 ((if decide ((bat p (k : Int)) = (45)) = true then (n : Int) else (10 * (n : Int)) + ((bat p (k : Int)) - 48)))), (6, .int .i64 ((k : Int))), (19, .int .i64 ((p.length : Int))), (20, .int .i64 ((k : Int))), (21, .bool (decide (((k : Int)) < ((p.length : Int))))), (22, .int .i64 ((k : Int))), (23, .string (B (p))), (24, .int .i64 ((k : Int))), (25, .int .u8 (bat p (k : Int))), (26, .bool (decide ((bat p (k : Int)) = (45))))] [] (φ := ((decide ((bat p (k : Int)) = (45))) || (!(decide ((1000000000000) < ((10 * (n : Int)) + ((bat p (k : Int)) - 48)))))) = true) ?_ (fun hm211 => ?_)
      · refine wc_block ?_
        refine wc_seq ?_
        refine wc_region ?_
        refine wl_v (o_move rfl) rfl ?_
        refine wl_v (o_assign rfl) rfl ?_
        refine wl_nil ?_
        refine wk_then (wc_of_wk ?_)
        refine wc_seq ?_
        refine wc_seq ?_
        refine wc_region ?_
        refine wl_v (o_move rfl) rfl ?_
        refine wl_v (o_move rfl) rfl ?_
        refine wl_v (o_index_b Tryz.underlying9 rfl rfl (by first | omega | (simp; omega) | (simp at *; omega)) (by first | omega | (simp; omega) | (simp at *; omega))) rfl ?_
        refine wl_v (o_eq rfl rfl) rfl ?_
        refine wl_nil ?_
        refine wk_then (wc_of_wk ?_)
        refine wc_cond (b := decide ((bat p (k : Int)) = (45))) rfl (fun h210 => ?_) (fun h210 => ?_)
        · have g210 := h210; try simp only [decide_eq_true_eq, decide_eq_false_iff_not] at g210
          have f210 := h210; try simp only [decide_eq_true_eq, decide_eq_false_iff_not, Bool.and_eq_true, Bool.or_eq_true, Bool.not_eq_true', Bool.not_eq_false', Bool.and_eq_false_iff, Bool.or_eq_false_iff, not_or, Int.not_lt, Int.not_le] at f210
          refine wc_exit ?_
          refine wk_then_exit ?_
          refine wk_in_hit ?_
          exact wk_then (wk_mid (by first | (simp only [h208, h209, h210, Bool.true_and, Bool.false_and, Bool.true_or, Bool.false_or, Bool.and_true, Bool.and_false, Bool.or_true, Bool.or_false, Bool.not_true, Bool.not_false, cond_true, cond_false, if_true, if_false, reduceIte, Bool.false_eq_true]; done) | (simp only [Bool.true_and, Bool.false_and, Bool.true_or, Bool.false_or, Bool.and_true, Bool.and_false, Bool.or_true, Bool.or_false, Bool.not_true, Bool.not_false, cond_true, cond_false, if_true, if_false, reduceIte, Bool.false_eq_true]; done) | simp [h208, h209, h210]) ⟨rfl, rfl, fi (by first | (simp only [h208, h209, h210, Bool.true_and, Bool.false_and, Bool.true_or, Bool.false_or, Bool.and_true, Bool.and_false, Bool.or_true, Bool.or_false, Bool.not_true, Bool.not_false, cond_true, cond_false, if_true, if_false, reduceIte, Bool.false_eq_true]; done) | (simp only [Bool.true_and, Bool.false_and, Bool.true_or, Bool.false_or, Bool.and_true, Bool.and_false, Bool.or_true, Bool.or_false, Bool.not_true, Bool.not_false, cond_true, cond_false, if_true, if_false, reduceIte, Bool.false_eq_true]; done) | simp [h208, h209, h210]), rfl, rfl, rfl, rfl, rfl, rfl, rfl, rfl, rfl, trivial⟩ .slnil)
        · have g210 := h210; try simp only [decide_eq_true_eq, decide_eq_false_iff_not] at g210
          have f210 := h210; try simp only [decide_eq_true_eq, decide_eq_false_iff_not, Bool.and_eq_true, Bool.or_eq_true, Bool.not_eq_true', Bool.not_eq_false', Bool.and_eq_false_iff, Bool.or_eq_false_iff, not_or, Int.not_lt, Int.not_le] at f210
          refine wc_skip ?_
          refine wk_then (wc_of_wk ?_)
          refine wc_seq ?_
          refine wc_region ?_
          refine wl_v (o_move rfl) rfl ?_
          refine wl_v (o_mul rfl rfl (IntWalk.i64_in _ (by first | omega | (have := dec_byte (p := p) (k := k) (by simp_all) (by omega) (by simp_all); omega)))) rfl ?_
          refine wl_v (o_move rfl) rfl ?_
          refine wl_v (o_move rfl) rfl ?_
          refine wl_v (o_index_b Tryz.underlying9 rfl rfl (by first | omega | (simp; omega) | (simp at *; omega)) (by first | omega | (simp; omega) | (simp at *; omega))) rfl ?_
          refine wl_v (o_sub rfl rfl (IntWalk.u8_in _ (by first | omega | (have := dec_byte (p := p) (k := k) (by simp_all) (by omega) (by simp_all); omega)))) rfl ?_
          refine wl_v (o_conv_int ⟨_, Tryz.underlying5⟩ Tryz.underlying3 rfl (IntWalk.i64_in _ (by first | omega | (have := dec_byte (p := p) (k := k) (by simp_all) (by omega) (by simp_all); omega)))) rfl ?_
          refine wl_v (o_add rfl rfl (IntWalk.i64_in _ (by first | omega | (have := dec_byte (p := p) (k := k) (by simp_all) (by omega) (by simp_all); omega)))) rfl ?_
          refine wl_v (o_assign rfl) rfl ?_
          refine wl_nil ?_
          refine wk_then (wc_of_wk ?_)
          refine wc_seq ?_
          refine wc_region ?_
          refine wl_v (o_move rfl) rfl ?_
          refine wl_v (o_gt rfl rfl) rfl ?_
          refine wl_nil ?_
          refine wk_then (wc_of_wk ?_)
          refine wc_cond (b := decide ((1000000000000) < ((10 * (n : Int)) + ((bat p (k : Int)) - 48)))) rfl (fun h211 => ?_) (fun h211 => ?_)
          · have g211 := h211; try simp only [decide_eq_true_eq, decide_eq_false_iff_not] at g211
            have f211 := h211; try simp only [decide_eq_true_eq, decide_eq_false_iff_not, Bool.and_eq_true, Bool.or_eq_true, Bool.not_eq_true', Bool.not_eq_false', Bool.and_eq_false_iff, Bool.or_eq_false_iff, not_or, Int.not_lt, Int.not_le] at f211
            refine wc_seq ?_
            refine wc_region ?_
            refine wl_v (o_assign rfl) rfl ?_
            refine wl_v (o_assign rfl) rfl ?_
            refine wl_nil ?_
            refine wk_then (wc_of_wk ?_)
            refine wc_ret ?_
            refine wk_in_ret ?_
            refine wk_then_ret ?_
            refine wk_then_ret ?_
            refine wk_in_ret ?_
            refine wk_then_ret ?_
            refine wk_ret (r_2 rfl rfl rfl) ?_
            have hx := (parse_run f208).2 (run_stop f208 g209 hi0.2.2 g210 g211)
            exact retv (by rw [hx.1, hx.2])
          · have g211 := h211; try simp only [decide_eq_true_eq, decide_eq_false_iff_not] at g211
            have f211 := h211; try simp only [decide_eq_true_eq, decide_eq_false_iff_not, Bool.and_eq_true, Bool.or_eq_true, Bool.not_eq_true', Bool.not_eq_false', Bool.and_eq_false_iff, Bool.or_eq_false_iff, not_or, Int.not_lt, Int.not_le] at f211
            refine wc_skip ?_
            refine wk_in_norm ?_
            exact wk_then (wk_mid (by first | (simp only [h208, h209, h210, h211, Bool.true_and, Bool.false_and, Bool.true_or, Bool.false_or, Bool.and_true, Bool.and_false, Bool.or_true, Bool.or_false, Bool.not_true, Bool.not_false, cond_true, cond_false, if_true, if_false, reduceIte, Bool.false_eq_true]; done) | (simp only [Bool.true_and, Bool.false_and, Bool.true_or, Bool.false_or, Bool.and_true, Bool.and_false, Bool.or_true, Bool.or_false, Bool.not_true, Bool.not_false, cond_true, cond_false, if_true, if_false, reduceIte, Bool.false_eq_true]; done) | simp [h208, h209, h210, h211]) ⟨rfl, rfl, fi (by first | (simp only [h208, h209, h210, h211, Bool.true_and, Bool.false_and, Bool.true_or, Bool.false_or, Bool.and_true, Bool.and_false, Bool.or_true, Bool.or_false, Bool.not_true, Bool.not_false, cond_true, cond_false, if_true, if_false, reduceIte, Bool.false_eq_true]; done) | (simp only [Bool.true_and, Bool.false_and, Bool.true_or, Bool.false_or, Bool.and_true, Bool.and_false, Bool.or_true, Bool.or_false, Bool.not_true, Bool.not_false, cond_true, cond_false, if_true, if_false, reduceIte, Bool.false_eq_true]; done) | simp [h208, h209, h210, h211]), rfl, rfl, rfl, rfl, rfl, rfl, rfl, rfl, rfl, trivial⟩ .slnil)
      have g211 := hm211; try simp only [decide_eq_true_eq, decide_eq_false_iff_not] at g211
      have f211 := hm211; try simp only [decide_eq_true_eq, decide_eq_false_iff_not, Bool.and_eq_true, Bool.or_eq_true, Bool.not_eq_true', Bool.not_eq_false', Bool.and_eq_false_iff, Bool.or_eq_false_iff, not_or, Int.not_lt, Int.not_le] at f211
      obtain ⟨n1, hn1, hn2, hn3⟩ := run_next (p := p) (k := k) (n := n) f208 g209 hi0.2.2 hk2 (by simpa using g211)
      rw [hn1]
      refine wc_region ?_
      refine wl_v (o_add rfl rfl (IntWalk.i64_in _ (by first | omega | (have := dec_byte (p := p) (k := k) (by simp_all) (by omega) (by simp_all); omega)))) rfl ?_
      refine wl_v (o_move rfl) rfl ?_
      refine wl_nil ?_
      refine wk_then ?_
      refine wk_some (k + 1, n1) ?_ ⟨fi (by first | rfl | (simp; done) | omega | (simp; omega)), fi (by first | rfl | (simp; done) | omega | (simp; omega)), rfl, rfl, rfl, trivial⟩ .slnil
      exact ⟨⟨by omega, hn3, hn2⟩, by show p.length - (k + 1) < p.length - k; omega⟩
    · have g209 := h209; try simp only [decide_eq_true_eq, decide_eq_false_iff_not] at g209
      have f209 := h209; try simp only [decide_eq_true_eq, decide_eq_false_iff_not, Bool.and_eq_true, Bool.or_eq_true, Bool.not_eq_true', Bool.not_eq_false', Bool.and_eq_false_iff, Bool.or_eq_false_iff, not_or, Int.not_lt, Int.not_le] at f209
      refine wc_exit ?_
      refine wk_then_exit ?_
      refine wk_then_exit ?_
      refine wk_in_hit ?_
      refine wk_then (wc_of_wk ?_)
      refine wc_seq ?_
      refine wc_seq ?_
      refine wc_region ?_
      refine wl_v (o_move rfl) rfl ?_
      refine wl_nil ?_
      refine wk_then (wc_of_wk ?_)
      refine wc_cond (b := ((decide ((0) < ((p.length : Int)))) && (decide ((bat p 0) = (45))))) rfl (fun h213 => ?_) (fun h213 => ?_)
      · have g213 := h213; try simp only [decide_eq_true_eq, decide_eq_false_iff_not] at g213
        have f213 := h213; try simp only [decide_eq_true_eq, decide_eq_false_iff_not, Bool.and_eq_true, Bool.or_eq_true, Bool.not_eq_true', Bool.not_eq_false', Bool.and_eq_false_iff, Bool.or_eq_false_iff, not_or, Int.not_lt, Int.not_le] at f213
        refine wc_seq ?_
        refine wc_region ?_
        refine wl_v (o_move rfl) rfl ?_
        refine wl_v (o_neg rfl (IntWalk.i64_in _ (by omega))) rfl ?_
        refine wl_v (o_assign rfl) rfl ?_
        refine wl_v (o_assign rfl) rfl ?_
        refine wl_nil ?_
        refine wk_then (wc_of_wk ?_)
        refine wc_ret ?_
        refine wk_then_ret ?_
        refine wk_ret (r_2 rfl rfl rfl) ?_
        have hx := (parse_run f208).1 n (run_end hi0.2.2 g209)
        exact retv (by rw [hx.1, hx.2]; simp only [sgnS]; simp only [h213]; simp)
      · have g213 := h213; try simp only [decide_eq_true_eq, decide_eq_false_iff_not] at g213
        have f213 := h213; try simp only [decide_eq_true_eq, decide_eq_false_iff_not, Bool.and_eq_true, Bool.or_eq_true, Bool.not_eq_true', Bool.not_eq_false', Bool.and_eq_false_iff, Bool.or_eq_false_iff, not_or, Int.not_lt, Int.not_le] at f213
        refine wc_skip ?_
        refine wk_then (wc_of_wk ?_)
        refine wc_seq ?_
        refine wc_region ?_
        refine wl_v (o_move rfl) rfl ?_
        refine wl_v (o_assign rfl) rfl ?_
        refine wl_v (o_assign rfl) rfl ?_
        refine wl_nil ?_
        refine wk_then (wc_of_wk ?_)
        refine wc_ret ?_
        refine wk_ret (r_2 rfl rfl rfl) ?_
        have hx := (parse_run f208).1 n (run_end hi0.2.2 g209)
        exact retv (by rw [hx.1, hx.2]; simp only [sgnS]; simp only [h213]; simp)

theorem version_r (p : List UInt8) (hp : p.length ≤ 281474976710656) (w : World) : Calls Tryz.prog 38 [.string (B (p))].toArray w (RetV w (.bool (versionS p))) := by
  refine enter0 (n := 20) Tryz.func38 rfl Tryz.ntmps38 rfl ?_
  refine wc_seq ?_
  refine wc_region ?_
  refine wl_v (o_assign rfl) rfl ?_
  refine wl_nil ?_
  refine wk_then (wc_of_wk ?_)
  refine wc_seq ?_
  refine wc_region ?_
  refine wl_v (o_move rfl) rfl ?_
  refine w_call Tryz.call45 rfl (fun w hw => parse_r p (by first | omega | (simp; done) | (simp; omega) | (simp at *; omega) | (split <;> first | omega | (simp; omega))) w) rfl ?_
  have ft214 := parse_bd p
  refine wl_v (o_move rfl) rfl ?_
  refine wl_v (o_extract rfl rfl) rfl ?_
  refine wl_v (o_extract rfl rfl) rfl ?_
  refine wl_v (o_assign rfl) rfl ?_
  refine wl_v (o_assign rfl) rfl ?_
  refine wl_nil ?_
  refine wk_then (wc_of_wk ?_)
  refine wc_seq_mid [(2, .bool (((decide ((parseE p) = (0))) && ((decide ((1) ≤ (parseV p))) && (decide ((parseV p) ≤ (32)))))))] [] (φ := True) ?_ (fun hm216 => ?_)
  · refine wc_region ?_
    refine wl_v (o_move rfl) rfl ?_
    refine wl_v (o_eq rfl rfl) rfl ?_
    refine wl_v (o_move rfl) rfl ?_
    refine bsplit (decide ((parseE p) = (0))) (fun h215 => ?_) (fun h215 => ?_)
    · have g215 := h215; try simp only [decide_eq_true_eq, decide_eq_false_iff_not] at g215
      have f215 := h215; try simp only [decide_eq_true_eq, decide_eq_false_iff_not, Bool.and_eq_true, Bool.or_eq_true, Bool.not_eq_true', Bool.not_eq_false', Bool.and_eq_false_iff, Bool.or_eq_false_iff, not_or, Int.not_lt, Int.not_le] at f215
      refine wl_on rfl rfl h215 ?_
      refine wl_v (o_move rfl) rfl ?_
      refine wl_on rfl rfl h215 ?_
      refine wl_v (o_ge rfl rfl) rfl ?_
      refine wl_v (o_pick_t rfl h215 rfl) rfl ?_
      refine wl_v (o_move rfl) rfl ?_
      refine bsplit (decide ((1) ≤ (parseV p))) (fun h216 => ?_) (fun h216 => ?_)
      · have g216 := h216; try simp only [decide_eq_true_eq, decide_eq_false_iff_not] at g216
        have f216 := h216; try simp only [decide_eq_true_eq, decide_eq_false_iff_not, Bool.and_eq_true, Bool.or_eq_true, Bool.not_eq_true', Bool.not_eq_false', Bool.and_eq_false_iff, Bool.or_eq_false_iff, not_or, Int.not_lt, Int.not_le] at f216
        refine wl_on rfl rfl h216 ?_
        refine wl_v (o_move rfl) rfl ?_
        refine wl_on rfl rfl h216 ?_
        refine wl_v (o_le rfl rfl) rfl ?_
        refine wl_v (o_pick_t rfl h216 rfl) rfl ?_
        refine wl_v (o_assign rfl) rfl ?_
        refine wl_nil ?_
        exact wk_then (wk_mid trivial ⟨fb (by first | (simp only [h215, h216, Bool.true_and, Bool.false_and, Bool.true_or, Bool.false_or, Bool.and_true, Bool.and_false, Bool.or_true, Bool.or_false, Bool.not_true, Bool.not_false, cond_true, cond_false, if_true, if_false, reduceIte, Bool.false_eq_true]; done) | (simp only [Bool.true_and, Bool.false_and, Bool.true_or, Bool.false_or, Bool.and_true, Bool.and_false, Bool.or_true, Bool.or_false, Bool.not_true, Bool.not_false, cond_true, cond_false, if_true, if_false, reduceIte, Bool.false_eq_true]; done) | simp [h215, h216]), trivial⟩ .slnil)
      · have g216 := h216; try simp only [decide_eq_true_eq, decide_eq_false_iff_not] at g216
        have f216 := h216; try simp only [decide_eq_true_eq, decide_eq_false_iff_not, Bool.and_eq_true, Bool.or_eq_true, Bool.not_eq_true', Bool.not_eq_false', Bool.and_eq_false_iff, Bool.or_eq_false_iff, not_or, Int.not_lt, Int.not_le] at f216
        refine wl_off rfl rfl h216 rfl ?_
        refine wl_off rfl rfl h216 rfl ?_
        refine wl_v (o_pick_f rfl h216 rfl) rfl ?_
        refine wl_v (o_assign rfl) rfl ?_
        refine wl_nil ?_
        exact wk_then (wk_mid trivial ⟨fb (by first | (simp only [h215, h216, Bool.true_and, Bool.false_and, Bool.true_or, Bool.false_or, Bool.and_true, Bool.and_false, Bool.or_true, Bool.or_false, Bool.not_true, Bool.not_false, cond_true, cond_false, if_true, if_false, reduceIte, Bool.false_eq_true]; done) | (simp only [Bool.true_and, Bool.false_and, Bool.true_or, Bool.false_or, Bool.and_true, Bool.and_false, Bool.or_true, Bool.or_false, Bool.not_true, Bool.not_false, cond_true, cond_false, if_true, if_false, reduceIte, Bool.false_eq_true]; done) | simp [h215, h216]), trivial⟩ .slnil)
    · have g215 := h215; try simp only [decide_eq_true_eq, decide_eq_false_iff_not] at g215
      have f215 := h215; try simp only [decide_eq_true_eq, decide_eq_false_iff_not, Bool.and_eq_true, Bool.or_eq_true, Bool.not_eq_true', Bool.not_eq_false', Bool.and_eq_false_iff, Bool.or_eq_false_iff, not_or, Int.not_lt, Int.not_le] at f215
      refine wl_off rfl rfl h215 rfl ?_
      refine wl_off rfl rfl h215 rfl ?_
      refine wl_v (o_pick_f rfl h215 rfl) rfl ?_
      refine wl_v (o_move rfl) rfl ?_
      refine wl_off rfl rfl rfl rfl ?_
      refine wl_off rfl rfl rfl rfl ?_
      refine wl_v (o_pick_f rfl rfl rfl) rfl ?_
      refine wl_v (o_assign rfl) rfl ?_
      refine wl_nil ?_
      exact wk_then (wk_mid trivial ⟨fb (by first | (simp only [h215, Bool.true_and, Bool.false_and, Bool.true_or, Bool.false_or, Bool.and_true, Bool.and_false, Bool.or_true, Bool.or_false, Bool.not_true, Bool.not_false, cond_true, cond_false, if_true, if_false, reduceIte, Bool.false_eq_true]; done) | (simp only [Bool.true_and, Bool.false_and, Bool.true_or, Bool.false_or, Bool.and_true, Bool.and_false, Bool.or_true, Bool.or_false, Bool.not_true, Bool.not_false, cond_true, cond_false, if_true, if_false, reduceIte, Bool.false_eq_true]; done) | simp [h215]), trivial⟩ .slnil)
  refine wc_ret ?_
  refine wk_ret (r_1 rfl rfl) ?_
  exact retv (by simp [versionS, Bool.and_assoc])

theorem ref_r (t : List UInt8) (f : List UInt8) (q : List UInt8) (ht : t.length ≤ 281474976710656) (hf : f.length ≤ 281474976710656) (hq : q.length ≤ 281474976710656) (w : World) : Calls Tryz.prog 15 [.string (B (t)), .string (B (f)), .string (B (q))].toArray w (RetV w (.tuple #[.string (B (refV t f q)), .int .i64 (refE t f q)])) := by
  refine enter0 (n := 33) Tryz.func15 rfl Tryz.ntmps15 rfl ?_
  refine wc_seq ?_
  refine wc_region ?_
  refine wl_v (o_assign rfl) rfl ?_
  refine wl_v (o_assign rfl) rfl ?_
  refine wl_nil ?_
  refine wk_then (wc_of_wk ?_)
  refine wc_seq ?_
  refine wc_seq_mid [(0, .string (B (t))), (1, .string (B (f))), (2, .string (B (q))), (6, .string (B ([]))), (7, .int .i64 (0)), (25, .bool (((!(nameS t)) || ((!(nameS f)) || ((!(nameS q)) && (!(versionS q)))))))] [] (φ := True) ?_ (fun hm220 => ?_)
  · refine wc_region ?_
    refine wl_v (o_move rfl) rfl ?_
    refine w_call Tryz.call8 rfl (fun w hw => name_r t (by first | omega | (simp; done) | (simp; omega) | (simp at *; omega) | (split <;> first | omega | (simp; omega))) w) rfl ?_
    refine wl_v (o_not rfl) rfl ?_
    refine wl_v (o_move rfl) rfl ?_
    refine bsplit (!(nameS t)) (fun h218 => ?_) (fun h218 => ?_)
    · have g218 := h218; try simp only [decide_eq_true_eq, decide_eq_false_iff_not] at g218
      have f218 := h218; try simp only [decide_eq_true_eq, decide_eq_false_iff_not, Bool.and_eq_true, Bool.or_eq_true, Bool.not_eq_true', Bool.not_eq_false', Bool.and_eq_false_iff, Bool.or_eq_false_iff, not_or, Int.not_lt, Int.not_le] at f218
      refine wl_off rfl rfl h218 rfl ?_
      refine wl_off rfl rfl h218 rfl ?_
      refine wl_off rfl rfl h218 rfl ?_
      refine wl_v (o_pick_t rfl h218 rfl) rfl ?_
      refine wl_v (o_move rfl) rfl ?_
      refine wl_off rfl rfl rfl rfl ?_
      refine wl_off rfl rfl rfl rfl ?_
      refine wl_off rfl rfl rfl rfl ?_
      refine wl_off rfl rfl rfl rfl ?_
      refine wl_off_u rfl rfl rfl ?_
      refine wl_off_u rfl rfl rfl ?_
      refine wl_off_u rfl rfl rfl ?_
      refine wl_off rfl rfl rfl rfl ?_
      refine wl_v (o_pick_t rfl rfl rfl) rfl ?_
      refine wl_nil ?_
      exact wk_then (wk_mid trivial ⟨rfl, rfl, rfl, rfl, rfl, fb (by first | (simp only [h218, Bool.true_and, Bool.false_and, Bool.true_or, Bool.false_or, Bool.and_true, Bool.and_false, Bool.or_true, Bool.or_false, Bool.not_true, Bool.not_false, cond_true, cond_false, if_true, if_false, reduceIte, Bool.false_eq_true]; done) | (simp only [Bool.true_and, Bool.false_and, Bool.true_or, Bool.false_or, Bool.and_true, Bool.and_false, Bool.or_true, Bool.or_false, Bool.not_true, Bool.not_false, cond_true, cond_false, if_true, if_false, reduceIte, Bool.false_eq_true]; done) | simp [h218]), trivial⟩ .slnil)
    · have g218 := h218; try simp only [decide_eq_true_eq, decide_eq_false_iff_not] at g218
      have f218 := h218; try simp only [decide_eq_true_eq, decide_eq_false_iff_not, Bool.and_eq_true, Bool.or_eq_true, Bool.not_eq_true', Bool.not_eq_false', Bool.and_eq_false_iff, Bool.or_eq_false_iff, not_or, Int.not_lt, Int.not_le] at f218
      refine wl_on rfl rfl h218 ?_
      refine wl_v (o_move rfl) rfl ?_
      refine wl_on rfl rfl h218 ?_
      refine w_call Tryz.call8 rfl (fun w hw => name_r f (by first | omega | (simp; done) | (simp; omega) | (simp at *; omega) | (split <;> first | omega | (simp; omega))) w) rfl ?_
      refine wl_on rfl rfl h218 ?_
      refine wl_v (o_not rfl) rfl ?_
      refine wl_v (o_pick_f rfl h218 rfl) rfl ?_
      refine wl_v (o_move rfl) rfl ?_
      refine bsplit (!(nameS f)) (fun h219 => ?_) (fun h219 => ?_)
      · have g219 := h219; try simp only [decide_eq_true_eq, decide_eq_false_iff_not] at g219
        have f219 := h219; try simp only [decide_eq_true_eq, decide_eq_false_iff_not, Bool.and_eq_true, Bool.or_eq_true, Bool.not_eq_true', Bool.not_eq_false', Bool.and_eq_false_iff, Bool.or_eq_false_iff, not_or, Int.not_lt, Int.not_le] at f219
        refine wl_off rfl rfl h219 rfl ?_
        refine wl_off rfl rfl h219 rfl ?_
        refine wl_off rfl rfl h219 rfl ?_
        refine wl_off rfl rfl h219 rfl ?_
        refine wl_off_u rfl rfl rfl ?_
        refine wl_off_u rfl rfl rfl ?_
        refine wl_off_u rfl rfl rfl ?_
        refine wl_off rfl rfl h219 rfl ?_
        refine wl_v (o_pick_t rfl h219 rfl) rfl ?_
        refine wl_nil ?_
        exact wk_then (wk_mid trivial ⟨rfl, rfl, rfl, rfl, rfl, fb (by first | (simp only [h218, h219, Bool.true_and, Bool.false_and, Bool.true_or, Bool.false_or, Bool.and_true, Bool.and_false, Bool.or_true, Bool.or_false, Bool.not_true, Bool.not_false, cond_true, cond_false, if_true, if_false, reduceIte, Bool.false_eq_true]; done) | (simp only [Bool.true_and, Bool.false_and, Bool.true_or, Bool.false_or, Bool.and_true, Bool.and_false, Bool.or_true, Bool.or_false, Bool.not_true, Bool.not_false, cond_true, cond_false, if_true, if_false, reduceIte, Bool.false_eq_true]; done) | simp [h218, h219]), trivial⟩ .slnil)
      · have g219 := h219; try simp only [decide_eq_true_eq, decide_eq_false_iff_not] at g219
        have f219 := h219; try simp only [decide_eq_true_eq, decide_eq_false_iff_not, Bool.and_eq_true, Bool.or_eq_true, Bool.not_eq_true', Bool.not_eq_false', Bool.and_eq_false_iff, Bool.or_eq_false_iff, not_or, Int.not_lt, Int.not_le] at f219
        refine wl_on rfl rfl h219 ?_
        refine wl_v (o_move rfl) rfl ?_
        refine wl_on rfl rfl h219 ?_
        refine w_call Tryz.call8 rfl (fun w hw => name_r q (by first | omega | (simp; done) | (simp; omega) | (simp at *; omega) | (split <;> first | omega | (simp; omega))) w) rfl ?_
        refine wl_on rfl rfl h219 ?_
        refine wl_v (o_not rfl) rfl ?_
        refine wl_on rfl rfl h219 ?_
        refine wl_v (o_move rfl) rfl ?_
        refine bsplit (!(nameS q)) (fun h220 => ?_) (fun h220 => ?_)
        · have g220 := h220; try simp only [decide_eq_true_eq, decide_eq_false_iff_not] at g220
          have f220 := h220; try simp only [decide_eq_true_eq, decide_eq_false_iff_not, Bool.and_eq_true, Bool.or_eq_true, Bool.not_eq_true', Bool.not_eq_false', Bool.and_eq_false_iff, Bool.or_eq_false_iff, not_or, Int.not_lt, Int.not_le] at f220
          refine wl_on rfl rfl h220 ?_
          refine wl_v (o_move rfl) rfl ?_
          refine wl_on rfl rfl h220 ?_
          refine w_call Tryz.call38 rfl (fun w hw => version_r q (by first | omega | (simp; done) | (simp; omega) | (simp at *; omega) | (split <;> first | omega | (simp; omega))) w) rfl ?_
          refine wl_on rfl rfl h220 ?_
          refine wl_v (o_not rfl) rfl ?_
          refine wl_on rfl rfl h219 ?_
          refine wl_v (o_pick_t rfl h220 rfl) rfl ?_
          refine wl_v (o_pick_f rfl h219 rfl) rfl ?_
          refine wl_nil ?_
          exact wk_then (wk_mid trivial ⟨rfl, rfl, rfl, rfl, rfl, fb (by first | (simp only [h218, h219, h220, Bool.true_and, Bool.false_and, Bool.true_or, Bool.false_or, Bool.and_true, Bool.and_false, Bool.or_true, Bool.or_false, Bool.not_true, Bool.not_false, cond_true, cond_false, if_true, if_false, reduceIte, Bool.false_eq_true]; done) | (simp only [Bool.true_and, Bool.false_and, Bool.true_or, Bool.false_or, Bool.and_true, Bool.and_false, Bool.or_true, Bool.or_false, Bool.not_true, Bool.not_false, cond_true, cond_false, if_true, if_false, reduceIte, Bool.false_eq_true]; done) | simp [h218, h219, h220]), trivial⟩ .slnil)
        · have g220 := h220; try simp only [decide_eq_true_eq, decide_eq_false_iff_not] at g220
          have f220 := h220; try simp only [decide_eq_true_eq, decide_eq_false_iff_not, Bool.and_eq_true, Bool.or_eq_true, Bool.not_eq_true', Bool.not_eq_false', Bool.and_eq_false_iff, Bool.or_eq_false_iff, not_or, Int.not_lt, Int.not_le] at f220
          refine wl_off rfl rfl h220 rfl ?_
          refine wl_off rfl rfl h220 rfl ?_
          refine wl_off rfl rfl h220 rfl ?_
          refine wl_on rfl rfl h219 ?_
          refine wl_v (o_pick_f rfl h220 rfl) rfl ?_
          refine wl_v (o_pick_f rfl h219 rfl) rfl ?_
          refine wl_nil ?_
          exact wk_then (wk_mid trivial ⟨rfl, rfl, rfl, rfl, rfl, fb (by first | (simp only [h218, h219, h220, Bool.true_and, Bool.false_and, Bool.true_or, Bool.false_or, Bool.and_true, Bool.and_false, Bool.or_true, Bool.or_false, Bool.not_true, Bool.not_false, cond_true, cond_false, if_true, if_false, reduceIte, Bool.false_eq_true]; done) | (simp only [Bool.true_and, Bool.false_and, Bool.true_or, Bool.false_or, Bool.and_true, Bool.and_false, Bool.or_true, Bool.or_false, Bool.not_true, Bool.not_false, cond_true, cond_false, if_true, if_false, reduceIte, Bool.false_eq_true]; done) | simp [h218, h219, h220]), trivial⟩ .slnil)
  refine wc_cond (b := ((!(nameS t)) || ((!(nameS f)) || ((!(nameS q)) && (!(versionS q)))))) rfl (fun h222 => ?_) (fun h222 => ?_)
  · have g222 := h222; try simp only [decide_eq_true_eq, decide_eq_false_iff_not] at g222
    have f222 := h222; try simp only [decide_eq_true_eq, decide_eq_false_iff_not, Bool.and_eq_true, Bool.or_eq_true, Bool.not_eq_true', Bool.not_eq_false', Bool.and_eq_false_iff, Bool.or_eq_false_iff, not_or, Int.not_lt, Int.not_le] at f222
    refine wc_seq ?_
    refine wc_region ?_
    refine wl_v (o_assign rfl) rfl ?_
    refine wl_v (o_assign rfl) rfl ?_
    refine wl_nil ?_
    refine wk_then (wc_of_wk ?_)
    refine wc_ret ?_
    refine wk_then_ret ?_
    refine wk_ret (r_2 rfl rfl rfl) ?_
    have hr : refOk t f q = false := by simp only [refOk]; revert f222; cases nameS t <;> cases nameS f <;> cases nameS q <;> cases versionS q <;> simp
    exact retv (by simp [refV, refE, hr, B])
  · have g222 := h222; try simp only [decide_eq_true_eq, decide_eq_false_iff_not] at g222
    have f222 := h222; try simp only [decide_eq_true_eq, decide_eq_false_iff_not, Bool.and_eq_true, Bool.or_eq_true, Bool.not_eq_true', Bool.not_eq_false', Bool.and_eq_false_iff, Bool.or_eq_false_iff, not_or, Int.not_lt, Int.not_le] at f222
    refine wc_skip ?_
    refine wk_then (wc_of_wk ?_)
    refine wc_seq ?_
    refine wc_region ?_
    refine wl_v (o_move rfl) rfl ?_
    refine wl_v (o_sadd rfl rfl (by simp; omega)) rfl ?_
    refine wl_v (o_move rfl) rfl ?_
    refine wl_v (o_sadd rfl rfl (by simp; omega)) rfl ?_
    refine wl_v (o_sadd rfl rfl (by simp; omega)) rfl ?_
    refine wl_v (o_move rfl) rfl ?_
    refine wl_v (o_sadd rfl rfl (by simp; omega)) rfl ?_
    refine wl_v (o_assign rfl) rfl ?_
    refine wl_v (o_assign rfl) rfl ?_
    refine wl_nil ?_
    refine wk_then (wc_of_wk ?_)
    refine wc_ret ?_
    refine wk_ret (r_2 rfl rfl rfl) ?_
    have hr : refOk t f q = true := by simp only [refOk]; revert f222; cases nameS t <;> cases nameS f <;> cases nameS q <;> cases versionS q <;> simp
    exact retv (by simp [refV, refE, hr, B])

theorem find_r (p : List UInt8) (m : Int) (hp : p.length ≤ 281474976710656) (w : World) : Calls Tryz.prog 40 [.string (B (p)), .int .u8 (m)].toArray w (RetV w (.int .i64 ((findN p m : Int)))) := by
  refine enter0 (n := 20) Tryz.func40 rfl Tryz.ntmps40 rfl ?_
  refine wc_seq ?_
  refine wc_region ?_
  refine wl_v (o_assign rfl) rfl ?_
  refine wl_nil ?_
  refine wk_then (wc_of_wk ?_)
  refine wc_seq ?_
  refine wc_region ?_
  refine wl_v (o_assign rfl) rfl ?_
  refine wl_nil ?_
  refine wk_then (wc_of_wk ?_)
  refine wc_seq ?_
  refine wc_block ?_
  refine wc_loop (S := Nat) (fun (k : Nat) => k ≤ p.length ∧ findN p m = k + findN (p.drop k) m) (fun (k : Nat) => [(5, .int .i64 ((k : Int))), (0, .string (B (p))), (1, .int .u8 (m)), (4, .int .i64 (0))]) (fun (k : Nat) => []) (fun (k : Nat) => p.length - k) (0) ?_ ⟨fi (by first | rfl | (simp; done) | omega | (simp; omega)), rfl, rfl, rfl, trivial⟩ .slnil ?_
  · exact ⟨Nat.zero_le _, by simp⟩
  rintro k hi0
  have hk1 := hi0.1
  refine wc_seq ?_
  refine wc_seq_mid [(0, .string (B (p))), (1, .int .u8 (m)), (4, .int .i64 (0)), (5, .int .i64 ((k : Int))), (6, .int .i64 ((k : Int))), (7, .string (B (p))), (8, .int .i64 ((p.length : Int))), (9, .bool (decide (((k : Int)) < ((p.length : Int))))), (10, .bool (decide (((k : Int)) < ((p.length : Int))))), (16, .bool (((decide (((k : Int)) < ((p.length : Int)))) && (!(decide ((bat p (k : Int)) = (m)))))))] [] (φ := True) ?_ (fun hm223 => ?_)
  · refine wc_region ?_
    refine wl_v (o_move rfl) rfl ?_
    refine wl_v (o_move rfl) rfl ?_
    refine wl_v (o_len_s Tryz.underlying9 rfl) rfl ?_
    refine wl_v (o_lt rfl rfl) rfl ?_
    refine wl_v (o_move rfl) rfl ?_
    refine bsplit (decide (((k : Int)) < ((p.length : Int)))) (fun h223 => ?_) (fun h223 => ?_)
    · have g223 := h223; try simp only [decide_eq_true_eq, decide_eq_false_iff_not] at g223
      have f223 := h223; try simp only [decide_eq_true_eq, decide_eq_false_iff_not, Bool.and_eq_true, Bool.or_eq_true, Bool.not_eq_true', Bool.not_eq_false', Bool.and_eq_false_iff, Bool.or_eq_false_iff, not_or, Int.not_lt, Int.not_le] at f223
      refine wl_on rfl rfl h223 ?_
      refine wl_v (o_move rfl) rfl ?_
      refine wl_on rfl rfl h223 ?_
      refine wl_v (o_move rfl) rfl ?_
      refine wl_on rfl rfl h223 ?_
      refine wl_v (o_index_b Tryz.underlying9 rfl rfl (by first | omega | (simp; omega) | (simp at *; omega)) (by first | omega | (simp; omega) | (simp at *; omega))) rfl ?_
      refine wl_on rfl rfl h223 ?_
      refine wl_v (o_move rfl) rfl ?_
      refine wl_on rfl rfl h223 ?_
      refine wl_v (o_ne rfl rfl) rfl ?_
      refine wl_v (o_pick_t rfl h223 rfl) rfl ?_
      refine wl_nil ?_
      exact wk_then (wk_mid trivial ⟨rfl, rfl, rfl, rfl, rfl, rfl, rfl, rfl, rfl, fb (by first | (simp only [h223, Bool.true_and, Bool.false_and, Bool.true_or, Bool.false_or, Bool.and_true, Bool.and_false, Bool.or_true, Bool.or_false, Bool.not_true, Bool.not_false, cond_true, cond_false, if_true, if_false, reduceIte, Bool.false_eq_true]; done) | (simp only [Bool.true_and, Bool.false_and, Bool.true_or, Bool.false_or, Bool.and_true, Bool.and_false, Bool.or_true, Bool.or_false, Bool.not_true, Bool.not_false, cond_true, cond_false, if_true, if_false, reduceIte, Bool.false_eq_true]; done) | simp [h223]), trivial⟩ .slnil)
    · have g223 := h223; try simp only [decide_eq_true_eq, decide_eq_false_iff_not] at g223
      have f223 := h223; try simp only [decide_eq_true_eq, decide_eq_false_iff_not, Bool.and_eq_true, Bool.or_eq_true, Bool.not_eq_true', Bool.not_eq_false', Bool.and_eq_false_iff, Bool.or_eq_false_iff, not_or, Int.not_lt, Int.not_le] at f223
      refine wl_off rfl rfl h223 rfl ?_
      refine wl_off rfl rfl h223 rfl ?_
      refine wl_off rfl rfl h223 rfl ?_
      refine wl_off rfl rfl h223 rfl ?_
      refine wl_off rfl rfl h223 rfl ?_
      refine wl_v (o_pick_f rfl h223 rfl) rfl ?_
      refine wl_nil ?_
      exact wk_then (wk_mid trivial ⟨rfl, rfl, rfl, rfl, rfl, rfl, rfl, rfl, rfl, fb (by first | (simp only [h223, Bool.true_and, Bool.false_and, Bool.true_or, Bool.false_or, Bool.and_true, Bool.and_false, Bool.or_true, Bool.or_false, Bool.not_true, Bool.not_false, cond_true, cond_false, if_true, if_false, reduceIte, Bool.false_eq_true]; done) | (simp only [Bool.true_and, Bool.false_and, Bool.true_or, Bool.false_or, Bool.and_true, Bool.and_false, Bool.or_true, Bool.or_false, Bool.not_true, Bool.not_false, cond_true, cond_false, if_true, if_false, reduceIte, Bool.false_eq_true]; done) | simp [h223]), trivial⟩ .slnil)
  refine wc_cond (b := ((decide (((k : Int)) < ((p.length : Int)))) && (!(decide ((bat p (k : Int)) = (m)))))) rfl (fun h225 => ?_) (fun h225 => ?_)
  · have g225 := h225; try simp only [decide_eq_true_eq, decide_eq_false_iff_not] at g225
    have f225 := h225; try simp only [decide_eq_true_eq, decide_eq_false_iff_not, Bool.and_eq_true, Bool.or_eq_true, Bool.not_eq_true', Bool.not_eq_false', Bool.and_eq_false_iff, Bool.or_eq_false_iff, not_or, Int.not_lt, Int.not_le] at f225
    refine wc_skip ?_
    refine wk_then (wc_of_wk ?_)
    refine wc_block ?_
    refine wc_region ?_
    refine wl_v (o_move rfl) rfl ?_
    refine wl_v (o_add rfl rfl (IntWalk.i64_in _ (by omega))) rfl ?_
    refine wl_v (o_assign rfl) rfl ?_
    refine wl_nil ?_
    refine wk_in_norm ?_
    refine wk_then ?_
    refine wk_some (k + 1) ?_ ⟨fi (by first | rfl | (simp; done) | omega | (simp; omega)), rfl, rfl, rfl, trivial⟩ .slnil
    exact ⟨find_next hi0 (f225).1 (f225).2, by have := (f225).1; omega⟩
  · have g225 := h225; try simp only [decide_eq_true_eq, decide_eq_false_iff_not] at g225
    have f225 := h225; try simp only [decide_eq_true_eq, decide_eq_false_iff_not, Bool.and_eq_true, Bool.or_eq_true, Bool.not_eq_true', Bool.not_eq_false', Bool.and_eq_false_iff, Bool.or_eq_false_iff, not_or, Int.not_lt, Int.not_le] at f225
    refine wc_exit ?_
    refine wk_then_exit ?_
    refine wk_then_exit ?_
    refine wk_in_hit ?_
    refine wk_then (wc_of_wk ?_)
    refine wc_seq ?_
    refine wc_region ?_
    refine wl_v (o_move rfl) rfl ?_
    refine wl_v (o_assign rfl) rfl ?_
    refine wl_nil ?_
    refine wk_then (wc_of_wk ?_)
    refine wc_ret ?_
    refine wk_ret (r_1 rfl rfl) ?_
    exact retv (by rw [find_end hi0 h225])

theorem parseRef_r (p : List UInt8) (hp : p.length ≤ 281474976710656) (w : World) : Calls Tryz.prog 17 [.string (B (p))].toArray w (RetV w (.tuple #[.string (B (iff0 (prOk p) (prT p))), .string (B (iff0 (prOk p) (prF p))), .string (B (iff0 (prOk p) (prQ p))), .int .i64 ((if prOk p = true then (0 : Int) else 1))])) := by
  refine enter0 (n := 56) Tryz.func17 rfl Tryz.ntmps17 rfl ?_
  refine wc_seq ?_
  refine wc_region ?_
  refine wl_v (o_assign rfl) rfl ?_
  refine wl_v (o_assign rfl) rfl ?_
  refine wl_v (o_assign rfl) rfl ?_
  refine wl_v (o_assign rfl) rfl ?_
  refine wl_nil ?_
  refine wk_then (wc_of_wk ?_)
  refine wc_seq ?_
  refine wc_region ?_
  refine wl_v (o_move rfl) rfl ?_
  refine w_call Tryz.call40 rfl (fun w hw => find_r p (47 : Int) (by first | omega | (simp; done) | (simp; omega) | (simp at *; omega) | (split <;> first | omega | (simp; omega))) w) rfl ?_
  have ft226 := findN_le p 47
  refine wl_v (o_assign rfl) rfl ?_
  refine wl_nil ?_
  refine wk_then (wc_of_wk ?_)
  refine wc_seq ?_
  refine wc_region ?_
  refine wl_v (o_move rfl) rfl ?_
  refine w_call Tryz.call40 rfl (fun w hw => find_r p (58 : Int) (by first | omega | (simp; done) | (simp; omega) | (simp at *; omega) | (split <;> first | omega | (simp; omega))) w) rfl ?_
  have ft227 := findN_le p 58
  refine wl_v (o_assign rfl) rfl ?_
  refine wl_nil ?_
  refine wk_then (wc_of_wk ?_)
  refine wc_seq ?_
  refine wc_seq_mid [(0, .string (B (p))), (2, .string (B ([]))), (3, .string (B ([]))), (4, .string (B ([]))), (5, .int .i64 (0)), (6, .int .i64 ((findN p 47 : Int))), (7, .int .i64 ((findN p 58 : Int))), (31, .bool (((decide (((p.length : Int)) ≤ ((findN p 47 : Int)))) || ((decide (((p.length : Int)) ≤ ((findN p 58 : Int)))) || (decide (((findN p 58 : Int)) < ((findN p 47 : Int))))))))] [] (φ := True) ?_ (fun hm229 => ?_)
  · refine wc_region ?_
    refine wl_v (o_move rfl) rfl ?_
    refine wl_v (o_move rfl) rfl ?_
    refine wl_v (o_len_s Tryz.underlying9 rfl) rfl ?_
    refine wl_v (o_ge rfl rfl) rfl ?_
    refine wl_v (o_move rfl) rfl ?_
    refine bsplit (decide (((p.length : Int)) ≤ ((findN p 47 : Int)))) (fun h228 => ?_) (fun h228 => ?_)
    · have g228 := h228; try simp only [decide_eq_true_eq, decide_eq_false_iff_not] at g228
      have f228 := h228; try simp only [decide_eq_true_eq, decide_eq_false_iff_not, Bool.and_eq_true, Bool.or_eq_true, Bool.not_eq_true', Bool.not_eq_false', Bool.and_eq_false_iff, Bool.or_eq_false_iff, not_or, Int.not_lt, Int.not_le] at f228
      refine wl_off rfl rfl h228 rfl ?_
      refine wl_off rfl rfl h228 rfl ?_
      refine wl_off rfl rfl h228 rfl ?_
      refine wl_off rfl rfl h228 rfl ?_
      refine wl_v (o_pick_t rfl h228 rfl) rfl ?_
      refine wl_v (o_move rfl) rfl ?_
      refine wl_off rfl rfl rfl rfl ?_
      refine wl_off rfl rfl rfl rfl ?_
      refine wl_off rfl rfl rfl rfl ?_
      refine wl_v (o_pick_t rfl rfl rfl) rfl ?_
      refine wl_nil ?_
      exact wk_then (wk_mid trivial ⟨rfl, rfl, rfl, rfl, rfl, rfl, rfl, fb (by first | (simp only [h228, Bool.true_and, Bool.false_and, Bool.true_or, Bool.false_or, Bool.and_true, Bool.and_false, Bool.or_true, Bool.or_false, Bool.not_true, Bool.not_false, cond_true, cond_false, if_true, if_false, reduceIte, Bool.false_eq_true]; done) | (simp only [Bool.true_and, Bool.false_and, Bool.true_or, Bool.false_or, Bool.and_true, Bool.and_false, Bool.or_true, Bool.or_false, Bool.not_true, Bool.not_false, cond_true, cond_false, if_true, if_false, reduceIte, Bool.false_eq_true]; done) | simp [h228]), trivial⟩ .slnil)
    · have g228 := h228; try simp only [decide_eq_true_eq, decide_eq_false_iff_not] at g228
      have f228 := h228; try simp only [decide_eq_true_eq, decide_eq_false_iff_not, Bool.and_eq_true, Bool.or_eq_true, Bool.not_eq_true', Bool.not_eq_false', Bool.and_eq_false_iff, Bool.or_eq_false_iff, not_or, Int.not_lt, Int.not_le] at f228
      refine wl_on rfl rfl h228 ?_
      refine wl_v (o_move rfl) rfl ?_
      refine wl_on rfl rfl h228 ?_
      refine wl_v (o_move rfl) rfl ?_
      refine wl_on rfl rfl h228 ?_
      refine wl_v (o_len_s Tryz.underlying9 rfl) rfl ?_
      refine wl_on rfl rfl h228 ?_
      refine wl_v (o_ge rfl rfl) rfl ?_
      refine wl_v (o_pick_f rfl h228 rfl) rfl ?_
      refine wl_v (o_move rfl) rfl ?_
      refine bsplit (decide (((p.length : Int)) ≤ ((findN p 58 : Int)))) (fun h229 => ?_) (fun h229 => ?_)
      · have g229 := h229; try simp only [decide_eq_true_eq, decide_eq_false_iff_not] at g229
        have f229 := h229; try simp only [decide_eq_true_eq, decide_eq_false_iff_not, Bool.and_eq_true, Bool.or_eq_true, Bool.not_eq_true', Bool.not_eq_false', Bool.and_eq_false_iff, Bool.or_eq_false_iff, not_or, Int.not_lt, Int.not_le] at f229
        refine wl_off rfl rfl h229 rfl ?_
        refine wl_off rfl rfl h229 rfl ?_
        refine wl_off rfl rfl h229 rfl ?_
        refine wl_v (o_pick_t rfl h229 rfl) rfl ?_
        refine wl_nil ?_
        exact wk_then (wk_mid trivial ⟨rfl, rfl, rfl, rfl, rfl, rfl, rfl, fb (by first | (simp only [h228, h229, Bool.true_and, Bool.false_and, Bool.true_or, Bool.false_or, Bool.and_true, Bool.and_false, Bool.or_true, Bool.or_false, Bool.not_true, Bool.not_false, cond_true, cond_false, if_true, if_false, reduceIte, Bool.false_eq_true]; done) | (simp only [Bool.true_and, Bool.false_and, Bool.true_or, Bool.false_or, Bool.and_true, Bool.and_false, Bool.or_true, Bool.or_false, Bool.not_true, Bool.not_false, cond_true, cond_false, if_true, if_false, reduceIte, Bool.false_eq_true]; done) | simp [h228, h229]), trivial⟩ .slnil)
      · have g229 := h229; try simp only [decide_eq_true_eq, decide_eq_false_iff_not] at g229
        have f229 := h229; try simp only [decide_eq_true_eq, decide_eq_false_iff_not, Bool.and_eq_true, Bool.or_eq_true, Bool.not_eq_true', Bool.not_eq_false', Bool.and_eq_false_iff, Bool.or_eq_false_iff, not_or, Int.not_lt, Int.not_le] at f229
        refine wl_on rfl rfl h229 ?_
        refine wl_v (o_move rfl) rfl ?_
        refine wl_on rfl rfl h229 ?_
        refine wl_v (o_move rfl) rfl ?_
        refine wl_on rfl rfl h229 ?_
        refine wl_v (o_lt rfl rfl) rfl ?_
        refine wl_v (o_pick_f rfl h229 rfl) rfl ?_
        refine wl_nil ?_
        exact wk_then (wk_mid trivial ⟨rfl, rfl, rfl, rfl, rfl, rfl, rfl, fb (by first | (simp only [h228, h229, Bool.true_and, Bool.false_and, Bool.true_or, Bool.false_or, Bool.and_true, Bool.and_false, Bool.or_true, Bool.or_false, Bool.not_true, Bool.not_false, cond_true, cond_false, if_true, if_false, reduceIte, Bool.false_eq_true]; done) | (simp only [Bool.true_and, Bool.false_and, Bool.true_or, Bool.false_or, Bool.and_true, Bool.and_false, Bool.or_true, Bool.or_false, Bool.not_true, Bool.not_false, cond_true, cond_false, if_true, if_false, reduceIte, Bool.false_eq_true]; done) | simp [h228, h229]), trivial⟩ .slnil)
  refine wc_cond (b := ((decide (((p.length : Int)) ≤ ((findN p 47 : Int)))) || ((decide (((p.length : Int)) ≤ ((findN p 58 : Int)))) || (decide (((findN p 58 : Int)) < ((findN p 47 : Int))))))) rfl (fun h231 => ?_) (fun h231 => ?_)
  · have g231 := h231; try simp only [decide_eq_true_eq, decide_eq_false_iff_not] at g231
    have f231 := h231; try simp only [decide_eq_true_eq, decide_eq_false_iff_not, Bool.and_eq_true, Bool.or_eq_true, Bool.not_eq_true', Bool.not_eq_false', Bool.and_eq_false_iff, Bool.or_eq_false_iff, not_or, Int.not_lt, Int.not_le] at f231
    refine wc_seq ?_
    refine wc_region ?_
    refine wl_v (o_assign rfl) rfl ?_
    refine wl_v (o_assign rfl) rfl ?_
    refine wl_v (o_assign rfl) rfl ?_
    refine wl_v (o_assign rfl) rfl ?_
    refine wl_nil ?_
    refine wk_then (wc_of_wk ?_)
    refine wc_ret ?_
    refine wk_then_ret ?_
    refine wk_ret (r_4 rfl rfl rfl rfl rfl) ?_
    exact retv (by simp [prR_no h231, iff0, B])
  · have g231 := h231; try simp only [decide_eq_true_eq, decide_eq_false_iff_not] at g231
    have f231 := h231; try simp only [decide_eq_true_eq, decide_eq_false_iff_not, Bool.and_eq_true, Bool.or_eq_true, Bool.not_eq_true', Bool.not_eq_false', Bool.and_eq_false_iff, Bool.or_eq_false_iff, not_or, Int.not_lt, Int.not_le] at f231
    refine wc_skip ?_
    refine wk_then (wc_of_wk ?_)
    refine wc_seq ?_
    refine wc_region ?_
    refine wl_v (o_move rfl) rfl ?_
    refine wl_v (o_move rfl) rfl ?_
    refine wl_v (o_slice_hi Tryz.underlying9 rfl rfl (by first | omega | (have := find_ne (s := p) (by omega); omega)) (by first | omega | (have := find_ne (s := p) (by omega); omega))) rfl ?_
    refine wl_v (o_assign rfl) rfl ?_
    refine wl_nil ?_
    refine wk_then (wc_of_wk ?_)
    refine wc_seq ?_
    refine wc_region ?_
    refine wl_v (o_move rfl) rfl ?_
    refine wl_v (o_move rfl) rfl ?_
    refine wl_v (o_add rfl rfl (IntWalk.i64_in _ (by first | omega | (have := findN_le p 47; have := findN_le p 58; omega)))) rfl ?_
    refine wl_v (o_move rfl) rfl ?_
    refine wl_v (o_slice_lh Tryz.underlying9 rfl rfl rfl (by first | omega | (have := find_ne (s := p) (by omega); omega)) (by first | omega | (have := find_ne (s := p) (by omega); omega)) (by first | omega | (have := find_ne (s := p) (by omega); omega))) rfl ?_
    refine wl_v (o_assign rfl) rfl ?_
    refine wl_nil ?_
    refine wk_then (wc_of_wk ?_)
    refine wc_seq ?_
    refine wc_region ?_
    refine wl_v (o_move rfl) rfl ?_
    refine wl_v (o_move rfl) rfl ?_
    refine wl_v (o_add rfl rfl (IntWalk.i64_in _ (by first | omega | (have := findN_le p 47; have := findN_le p 58; omega)))) rfl ?_
    refine wl_v (o_slice_lo Tryz.underlying9 rfl rfl (by first | omega | (have := find_ne (s := p) (by omega); omega)) (by first | omega | (have := find_ne (s := p) (by omega); omega))) rfl ?_
    refine wl_v (o_assign rfl) rfl ?_
    refine wl_nil ?_
    refine wk_then (wc_of_wk ?_)
    refine wc_seq ?_
    refine wc_region ?_
    refine wl_v (o_move rfl) rfl ?_
    refine wl_v (o_move rfl) rfl ?_
    refine wl_v (o_move rfl) rfl ?_
    refine w_call Tryz.call15 rfl (fun w hw => ref_r (List.take (Int.toNat ((findN p 47 : Int))) p) (List.take (Int.toNat ((findN p 58 : Int)) - Int.toNat ((findN p 47 : Int) + 1)) (List.drop (Int.toNat ((findN p 47 : Int) + 1)) p)) (List.drop (Int.toNat ((findN p 58 : Int) + 1)) p) (by first | omega | (simp; done) | (simp; omega) | (simp at *; omega) | (split <;> first | omega | (simp; omega))) (by first | omega | (simp; done) | (simp; omega) | (simp at *; omega) | (split <;> first | omega | (simp; omega))) (by first | omega | (simp; done) | (simp; omega) | (simp at *; omega) | (split <;> first | omega | (simp; omega))) w) rfl ?_
    have ft232 := refV_len (List.take (Int.toNat ((findN p 47 : Int))) p) (List.take (Int.toNat ((findN p 58 : Int)) - Int.toNat ((findN p 47 : Int) + 1)) (List.drop (Int.toNat ((findN p 47 : Int) + 1)) p)) (List.drop (Int.toNat ((findN p 58 : Int) + 1)) p)
    refine wl_v (o_move rfl) rfl ?_
    refine wl_v (o_extract rfl rfl) rfl ?_
    refine wl_v (o_extract rfl rfl) rfl ?_
    refine wl_v (o_assign rfl) rfl ?_
    refine wl_v (o_assign rfl) rfl ?_
    refine wl_nil ?_
    refine wk_then (wc_of_wk ?_)
    refine wc_seq ?_
    refine wc_seq ?_
    refine wc_region ?_
    refine wl_v (o_move rfl) rfl ?_
    refine wl_v (o_ne rfl rfl) rfl ?_
    refine wl_nil ?_
    refine wk_then (wc_of_wk ?_)
    refine wc_cond (b := !(decide ((refE (List.take (Int.toNat ((findN p 47 : Int))) p) (List.take (Int.toNat ((findN p 58 : Int)) - Int.toNat ((findN p 47 : Int) + 1)) (List.drop (Int.toNat ((findN p 47 : Int) + 1)) p)) (List.drop (Int.toNat ((findN p 58 : Int) + 1)) p)) = (0)))) rfl (fun h233 => ?_) (fun h233 => ?_)
    · have g233 := h233; try simp only [decide_eq_true_eq, decide_eq_false_iff_not] at g233
      have f233 := h233; try simp only [decide_eq_true_eq, decide_eq_false_iff_not, Bool.and_eq_true, Bool.or_eq_true, Bool.not_eq_true', Bool.not_eq_false', Bool.and_eq_false_iff, Bool.or_eq_false_iff, not_or, Int.not_lt, Int.not_le] at f233
      refine wc_seq ?_
      refine wc_region ?_
      refine wl_v (o_assign rfl) rfl ?_
      refine wl_v (o_assign rfl) rfl ?_
      refine wl_v (o_assign rfl) rfl ?_
      refine wl_v (o_assign rfl) rfl ?_
      refine wl_nil ?_
      refine wk_then (wc_of_wk ?_)
      refine wc_ret ?_
      refine wk_then_ret ?_
      refine wk_ret (r_4 rfl rfl rfl rfl rfl) ?_
      have hx : prOk p = false := by have hp := prR_parts h231; simp only [prOk, hp.1, hp.2.1, hp.2.2]; rw [decide_eq_false f233, Bool.false_and]
      exact retv (by simp [hx, iff0, B])
    · have g233 := h233; try simp only [decide_eq_true_eq, decide_eq_false_iff_not] at g233
      have f233 := h233; try simp only [decide_eq_true_eq, decide_eq_false_iff_not, Bool.and_eq_true, Bool.or_eq_true, Bool.not_eq_true', Bool.not_eq_false', Bool.and_eq_false_iff, Bool.or_eq_false_iff, not_or, Int.not_lt, Int.not_le] at f233
      refine wc_skip ?_
      refine wk_then (wc_of_wk ?_)
      refine wc_seq ?_
      refine wc_region ?_
      refine wl_v (o_move rfl) rfl ?_
      refine wl_v (o_move rfl) rfl ?_
      refine wl_v (o_move rfl) rfl ?_
      refine wl_v (o_assign rfl) rfl ?_
      refine wl_v (o_assign rfl) rfl ?_
      refine wl_v (o_assign rfl) rfl ?_
      refine wl_v (o_assign rfl) rfl ?_
      refine wl_nil ?_
      refine wk_then (wc_of_wk ?_)
      refine wc_ret ?_
      refine wk_ret (r_4 rfl rfl rfl rfl rfl) ?_
      have hp := prR_parts h231
      have hx : prOk p = true := prR_join h231 (by rw [hp.1, hp.2.1, hp.2.2]; exact f233)
      exact retv (by simp only [hx, iff0, if_true, hp.1, hp.2.1, hp.2.2])

theorem format_r (n : Int) (h0 : -9223372036854775808 ≤ n) (h1 : n ≤ 9223372036854775807) (w : World) : Calls Tryz.prog 42 [.int .i64 (n)].toArray w (RetV w (.string (B (Lib.itoa n)))) := by
  refine enter0 (n := 34) Tryz.func42 rfl Tryz.ntmps42 rfl ?_
  refine wc_seq ?_
  refine wc_region ?_
  refine wl_v (o_assign rfl) rfl ?_
  refine wl_nil ?_
  refine wk_then (wc_of_wk ?_)
  refine wc_seq ?_
  refine wc_region ?_
  refine wl_v (o_assign rfl) rfl ?_
  refine wl_nil ?_
  refine wk_then (wc_of_wk ?_)
  refine wc_seq ?_
  refine wc_region ?_
  refine wl_v (o_assign rfl) rfl ?_
  refine wl_nil ?_
  refine wk_then (wc_of_wk ?_)
  refine wc_seq ?_
  refine wc_seq ?_
  refine wc_region ?_
  refine wl_v (o_move rfl) rfl ?_
  refine wl_v (o_assign rfl) rfl ?_
  refine wl_nil ?_
  refine wk_then (wc_of_wk ?_)
  refine wc_block ?_
  refine wc_loop (S := Int × List UInt8) (fun (x : Int × List UInt8) => match x with | ⟨m, s⟩ => (-9223372036854775808 ≤ m ∧ m ≤ 9223372036854775807) ∧ fmtI n m s) (fun (x : Int × List UInt8) => match x with | ⟨m, s⟩ => [(5, .int .i64 (m)), (4, .string (B (s))), (0, .int .i64 (n)), (2, .string (B ([]))), (3, .string (B ([48, 49, 50, 51, 52, 53, 54, 55, 56, 57])))]) (fun (x : Int × List UInt8) => match x with | ⟨m, s⟩ => []) (fun (x : Int × List UInt8) => match x with | ⟨m, s⟩ => m.natAbs + (if s = [] then 1 else 0)) (n, []) ?_ ⟨fi (by first | rfl | (simp; done) | omega | (simp; omega)), fs (by first | rfl | simp), rfl, rfl, rfl, trivial⟩ .slnil ?_
  · exact ⟨⟨h0, h1⟩, .inl ⟨rfl, rfl⟩⟩
  rintro ⟨m, s⟩ hi0
  have hb := hi0.1
  have hsl := fmt_len h0 h1 hi0.2
  have htd := tdiv10_bd hi0.1.1 hi0.1.2
  have htm := tmod10_bd m
  refine wc_seq ?_
  refine wc_seq_mid [(0, .int .i64 (n)), (2, .string (B ([]))), (3, .string (B ([48, 49, 50, 51, 52, 53, 54, 55, 56, 57]))), (4, .string (B (s))), (5, .int .i64 (m)), (8, .int .i64 (m)), (9, .bool (!(decide ((m) = (0))))), (10, .bool (!(decide ((m) = (0))))), (13, .bool (((!(decide ((m) = (0)))) || (decide ((s) = (([] : List UInt8)))))))] [] (φ := True) ?_ (fun hm234 => ?_)
  · refine wc_region ?_
    refine wl_v (o_move rfl) rfl ?_
    refine wl_v (o_ne rfl rfl) rfl ?_
    refine wl_v (o_move rfl) rfl ?_
    refine bsplit (!(decide ((m) = (0)))) (fun h234 => ?_) (fun h234 => ?_)
    · have g234 := h234; try simp only [decide_eq_true_eq, decide_eq_false_iff_not] at g234
      have f234 := h234; try simp only [decide_eq_true_eq, decide_eq_false_iff_not, Bool.and_eq_true, Bool.or_eq_true, Bool.not_eq_true', Bool.not_eq_false', Bool.and_eq_false_iff, Bool.or_eq_false_iff, not_or, Int.not_lt, Int.not_le] at f234
      refine wl_off rfl rfl h234 rfl ?_
      refine wl_off rfl rfl h234 rfl ?_
      refine wl_v (o_pick_t rfl h234 rfl) rfl ?_
      refine wl_nil ?_
      exact wk_then (wk_mid trivial ⟨rfl, rfl, rfl, rfl, rfl, rfl, rfl, rfl, fb (by first | (simp only [h234, Bool.true_and, Bool.false_and, Bool.true_or, Bool.false_or, Bool.and_true, Bool.and_false, Bool.or_true, Bool.or_false, Bool.not_true, Bool.not_false, cond_true, cond_false, if_true, if_false, reduceIte, Bool.false_eq_true]; done) | (simp only [Bool.true_and, Bool.false_and, Bool.true_or, Bool.false_or, Bool.and_true, Bool.and_false, Bool.or_true, Bool.or_false, Bool.not_true, Bool.not_false, cond_true, cond_false, if_true, if_false, reduceIte, Bool.false_eq_true]; done) | simp [h234]), trivial⟩ .slnil)
    · have g234 := h234; try simp only [decide_eq_true_eq, decide_eq_false_iff_not] at g234
      have f234 := h234; try simp only [decide_eq_true_eq, decide_eq_false_iff_not, Bool.and_eq_true, Bool.or_eq_true, Bool.not_eq_true', Bool.not_eq_false', Bool.and_eq_false_iff, Bool.or_eq_false_iff, not_or, Int.not_lt, Int.not_le] at f234
      refine wl_on rfl rfl h234 ?_
      refine wl_v (o_move rfl) rfl ?_
      refine wl_on rfl rfl h234 ?_
      refine wl_v (o_seq rfl rfl) rfl ?_
      refine wl_v (o_pick_f rfl h234 rfl) rfl ?_
      refine wl_nil ?_
      exact wk_then (wk_mid trivial ⟨rfl, rfl, rfl, rfl, rfl, rfl, rfl, rfl, fb (by first | (simp only [h234, Bool.true_and, Bool.false_and, Bool.true_or, Bool.false_or, Bool.and_true, Bool.and_false, Bool.or_true, Bool.or_false, Bool.not_true, Bool.not_false, cond_true, cond_false, if_true, if_false, reduceIte, Bool.false_eq_true]; done) | (simp only [Bool.true_and, Bool.false_and, Bool.true_or, Bool.false_or, Bool.and_true, Bool.and_false, Bool.or_true, Bool.or_false, Bool.not_true, Bool.not_false, cond_true, cond_false, if_true, if_false, reduceIte, Bool.false_eq_true]; done) | simp [h234]), trivial⟩ .slnil)
  refine wc_cond (b := ((!(decide ((m) = (0)))) || (decide ((s) = (([] : List UInt8)))))) rfl (fun h236 => ?_) (fun h236 => ?_)
  · have g236 := h236; try simp only [decide_eq_true_eq, decide_eq_false_iff_not] at g236
    have f236 := h236; try simp only [decide_eq_true_eq, decide_eq_false_iff_not, Bool.and_eq_true, Bool.or_eq_true, Bool.not_eq_true', Bool.not_eq_false', Bool.and_eq_false_iff, Bool.or_eq_false_iff, not_or, Int.not_lt, Int.not_le] at f236
    refine wc_skip ?_
    refine wk_then (wc_of_wk ?_)
    refine wc_seq ?_
    refine wc_block ?_
    refine wc_seq ?_
    refine wc_region ?_
    refine wl_v (o_move rfl) rfl ?_
    refine wl_v (o_rem rfl rfl (by decide)) rfl ?_
    refine wl_v (o_assign rfl) rfl ?_
    refine wl_nil ?_
    refine wk_then (wc_of_wk ?_)
    refine wc_seq_mid [(0, .int .i64 (n)), (2, .string (B ([]))), (3, .string (B ([48, 49, 50, 51, 52, 53, 54, 55, 56, 57]))), (4, .string (B (s))), (5, .int .i64 (m)), (6, .int .i64 ((if decide ((Int.tmod m 10) < (0)) = true then -(Int.tmod m 10) else Int.tmod m 10))), (8, .int .i64 (m)), (9, .bool (!(decide ((m) = (0))))), (10, .bool (!(decide ((m) = (0))))), (13, .bool (((!(decide ((m) = (0)))) || (decide ((s) = (([] : List UInt8))))))), (16, .int .i64 (m)), (17, .int .i64 (Int.tmod m 10)), (18, .int .i64 (Int.tmod m 10)), (19, .bool (decide ((Int.tmod m 10) < (0))))] [] (φ := True) ?_ (fun hm237 => ?_)
    · refine wc_seq ?_
      refine wc_region ?_
      refine wl_v (o_move rfl) rfl ?_
      refine wl_v (o_lt rfl rfl) rfl ?_
      refine wl_nil ?_
      refine wk_then (wc_of_wk ?_)
      refine wc_cond (b := decide ((Int.tmod m 10) < (0))) rfl (fun h237 => ?_) (fun h237 => ?_)
      · have g237 := h237; try simp only [decide_eq_true_eq, decide_eq_false_iff_not] at g237
        have f237 := h237; try simp only [decide_eq_true_eq, decide_eq_false_iff_not, Bool.and_eq_true, Bool.or_eq_true, Bool.not_eq_true', Bool.not_eq_false', Bool.and_eq_false_iff, Bool.or_eq_false_iff, not_or, Int.not_lt, Int.not_le] at f237
        refine wc_region ?_
        refine wl_v (o_move rfl) rfl ?_
        refine wl_v (o_neg rfl (IntWalk.i64_in _ (by omega))) rfl ?_
        refine wl_v (o_assign rfl) rfl ?_
        refine wl_nil ?_
        exact wk_then (wk_mid trivial ⟨rfl, rfl, rfl, rfl, rfl, fi (by first | (simp only [h236, h237, Bool.true_and, Bool.false_and, Bool.true_or, Bool.false_or, Bool.and_true, Bool.and_false, Bool.or_true, Bool.or_false, Bool.not_true, Bool.not_false, cond_true, cond_false, if_true, if_false, reduceIte, Bool.false_eq_true]; done) | (simp only [Bool.true_and, Bool.false_and, Bool.true_or, Bool.false_or, Bool.and_true, Bool.and_false, Bool.or_true, Bool.or_false, Bool.not_true, Bool.not_false, cond_true, cond_false, if_true, if_false, reduceIte, Bool.false_eq_true]; done) | simp [h236, h237]), rfl, rfl, rfl, rfl, rfl, rfl, rfl, rfl, trivial⟩ .slnil)
      · have g237 := h237; try simp only [decide_eq_true_eq, decide_eq_false_iff_not] at g237
        have f237 := h237; try simp only [decide_eq_true_eq, decide_eq_false_iff_not, Bool.and_eq_true, Bool.or_eq_true, Bool.not_eq_true', Bool.not_eq_false', Bool.and_eq_false_iff, Bool.or_eq_false_iff, not_or, Int.not_lt, Int.not_le] at f237
        refine wc_skip ?_
        exact wk_then (wk_mid trivial ⟨rfl, rfl, rfl, rfl, rfl, fi (by first | (simp only [h236, h237, Bool.true_and, Bool.false_and, Bool.true_or, Bool.false_or, Bool.and_true, Bool.and_false, Bool.or_true, Bool.or_false, Bool.not_true, Bool.not_false, cond_true, cond_false, if_true, if_false, reduceIte, Bool.false_eq_true]; done) | (simp only [Bool.true_and, Bool.false_and, Bool.true_or, Bool.false_or, Bool.and_true, Bool.and_false, Bool.or_true, Bool.or_false, Bool.not_true, Bool.not_false, cond_true, cond_false, if_true, if_false, reduceIte, Bool.false_eq_true]; done) | simp [h236, h237]), rfl, rfl, rfl, rfl, rfl, rfl, rfl, rfl, trivial⟩ .slnil)
    obtain ⟨d1, hd1, hd2, hd3⟩ := fmt_digit m
    rw [hd1]
    refine wc_region ?_
    refine wl_v (o_move rfl) rfl ?_
    refine wl_v (o_move rfl) rfl ?_
    refine wl_v (o_move rfl) rfl ?_
    refine wl_v (o_add rfl rfl (IntWalk.i64_in _ (by first | omega | (have := fmt_digit m; obtain ⟨d1, hd1, hd2, hd3⟩ := this; split at hd1 <;> omega)))) rfl ?_
    refine wl_v (o_slice_lh Tryz.underlying9 rfl rfl rfl (by first | omega | (simp; omega)) (by first | omega | (simp; omega)) (by first | omega | (simp; omega))) rfl ?_
    refine wl_v (o_move rfl) rfl ?_
    refine wl_v (o_sadd rfl rfl (by simp; omega)) rfl ?_
    refine wl_v (o_assign rfl) rfl ?_
    refine wl_nil ?_
    refine wk_in_norm ?_
    refine wk_then (wc_of_wk ?_)
    refine wc_region ?_
    refine wl_v (o_move rfl) rfl ?_
    refine wl_v (o_quo rfl rfl (by decide) (IntWalk.i64_in _ (by omega))) rfl ?_
    refine wl_v (o_assign rfl) rfl ?_
    refine wl_nil ?_
    refine wk_then ?_
    refine wk_some (Int.tdiv m 10, (List.take (Int.toNat ((d1 : Int) + 1) - Int.toNat ((d1 : Int))) (List.drop (Int.toNat ((d1 : Int))) [48, 49, 50, 51, 52, 53, 54, 55, 56, 57])) ++ s) ?_ ⟨fi (by first | rfl | (simp; done) | omega | (simp; omega)), fs (by first | rfl | simp), rfl, rfl, rfl, trivial⟩ .slnil
    have hx := fmt_next hi0.2 h236 hd2
    exact ⟨⟨htd, hx.1⟩, hx.2⟩
  · have g236 := h236; try simp only [decide_eq_true_eq, decide_eq_false_iff_not] at g236
    have f236 := h236; try simp only [decide_eq_true_eq, decide_eq_false_iff_not, Bool.and_eq_true, Bool.or_eq_true, Bool.not_eq_true', Bool.not_eq_false', Bool.and_eq_false_iff, Bool.or_eq_false_iff, not_or, Int.not_lt, Int.not_le] at f236
    refine wc_exit ?_
    refine wk_then_exit ?_
    refine wk_then_exit ?_
    refine wk_in_hit ?_
    refine wk_then (wc_of_wk ?_)
    refine wc_seq ?_
    refine wc_seq ?_
    refine wc_region ?_
    refine wl_v (o_move rfl) rfl ?_
    refine wl_v (o_lt rfl rfl) rfl ?_
    refine wl_nil ?_
    refine wk_then (wc_of_wk ?_)
    refine wc_cond (b := decide ((n) < (0))) rfl (fun h239 => ?_) (fun h239 => ?_)
    · have g239 := h239; try simp only [decide_eq_true_eq, decide_eq_false_iff_not] at g239
      have f239 := h239; try simp only [decide_eq_true_eq, decide_eq_false_iff_not, Bool.and_eq_true, Bool.or_eq_true, Bool.not_eq_true', Bool.not_eq_false', Bool.and_eq_false_iff, Bool.or_eq_false_iff, not_or, Int.not_lt, Int.not_le] at f239
      refine wc_seq ?_
      refine wc_region ?_
      refine wl_v (o_move rfl) rfl ?_
      refine wl_v (o_sadd rfl rfl (by simp; omega)) rfl ?_
      refine wl_v (o_assign rfl) rfl ?_
      refine wl_nil ?_
      refine wk_then (wc_of_wk ?_)
      refine wc_ret ?_
      refine wk_then_ret ?_
      refine wk_ret (r_1 rfl rfl) ?_
      exact retv (by rw [fmt_neg (fmt_end hi0.2 h236) g239])
    · have g239 := h239; try simp only [decide_eq_true_eq, decide_eq_false_iff_not] at g239
      have f239 := h239; try simp only [decide_eq_true_eq, decide_eq_false_iff_not, Bool.and_eq_true, Bool.or_eq_true, Bool.not_eq_true', Bool.not_eq_false', Bool.and_eq_false_iff, Bool.or_eq_false_iff, not_or, Int.not_lt, Int.not_le] at f239
      refine wc_skip ?_
      refine wk_then (wc_of_wk ?_)
      refine wc_seq ?_
      refine wc_region ?_
      refine wl_v (o_move rfl) rfl ?_
      refine wl_v (o_assign rfl) rfl ?_
      refine wl_nil ?_
      refine wk_then (wc_of_wk ?_)
      refine wc_ret ?_
      refine wk_ret (r_1 rfl rfl) ?_
      exact retv (by rw [← fmt_pos (fmt_end hi0.2 h236) g239])

theorem child_r (p : List UInt8) (m : Int) (hp : p.length ≤ 281474976710656) (w : World) : Calls Tryz.prog 19 [.string (B (p)), .int .i64 (m)].toArray w (RetV w (.tuple #[.string (B (childV p m)), .int .i64 (childE p m)])) := by
  refine enter0 (n := 25) Tryz.func19 rfl Tryz.ntmps19 rfl ?_
  refine wc_seq ?_
  refine wc_region ?_
  refine wl_v (o_assign rfl) rfl ?_
  refine wl_v (o_assign rfl) rfl ?_
  refine wl_nil ?_
  refine wk_then (wc_of_wk ?_)
  refine wc_seq ?_
  refine wc_seq ?_
  refine wc_region ?_
  refine wl_v (o_move rfl) rfl ?_
  refine w_call Tryz.call10 rfl (fun w hw => id_r p (by first | omega | (simp; done) | (simp; omega) | (simp at *; omega) | (split <;> first | omega | (simp; omega))) w) rfl ?_
  refine wl_v (o_not rfl) rfl ?_
  refine wl_nil ?_
  refine wk_then (wc_of_wk ?_)
  refine wc_cond (b := !(idS p)) rfl (fun h240 => ?_) (fun h240 => ?_)
  · have g240 := h240; try simp only [decide_eq_true_eq, decide_eq_false_iff_not] at g240
    have f240 := h240; try simp only [decide_eq_true_eq, decide_eq_false_iff_not, Bool.and_eq_true, Bool.or_eq_true, Bool.not_eq_true', Bool.not_eq_false', Bool.and_eq_false_iff, Bool.or_eq_false_iff, not_or, Int.not_lt, Int.not_le] at f240
    refine wc_seq ?_
    refine wc_region ?_
    refine wl_v (o_assign rfl) rfl ?_
    refine wl_v (o_assign rfl) rfl ?_
    refine wl_nil ?_
    refine wk_then (wc_of_wk ?_)
    refine wc_ret ?_
    refine wk_then_ret ?_
    refine wk_ret (r_2 rfl rfl rfl) ?_
    have e : childE p m = 4 := by simp only [childE, childL]; grind
    exact retv (by simp [childV, e, childL, B])
  · have g240 := h240; try simp only [decide_eq_true_eq, decide_eq_false_iff_not] at g240
    have f240 := h240; try simp only [decide_eq_true_eq, decide_eq_false_iff_not, Bool.and_eq_true, Bool.or_eq_true, Bool.not_eq_true', Bool.not_eq_false', Bool.and_eq_false_iff, Bool.or_eq_false_iff, not_or, Int.not_lt, Int.not_le] at f240
    refine wc_skip ?_
    refine wk_then (wc_of_wk ?_)
    refine wc_seq ?_
    refine wc_seq_mid [(0, .string (B (p))), (1, .int .i64 (m)), (4, .string (B ([]))), (5, .int .i64 (0)), (15, .bool (((decide ((m) < (0))) || (decide ((1000000000000) < (m))))))] [] (φ := True) ?_ (fun hm241 => ?_)
    · refine wc_region ?_
      refine wl_v (o_move rfl) rfl ?_
      refine wl_v (o_lt rfl rfl) rfl ?_
      refine wl_v (o_move rfl) rfl ?_
      refine bsplit (decide ((m) < (0))) (fun h241 => ?_) (fun h241 => ?_)
      · have g241 := h241; try simp only [decide_eq_true_eq, decide_eq_false_iff_not] at g241
        have f241 := h241; try simp only [decide_eq_true_eq, decide_eq_false_iff_not, Bool.and_eq_true, Bool.or_eq_true, Bool.not_eq_true', Bool.not_eq_false', Bool.and_eq_false_iff, Bool.or_eq_false_iff, not_or, Int.not_lt, Int.not_le] at f241
        refine wl_off rfl rfl h241 rfl ?_
        refine wl_off rfl rfl h241 rfl ?_
        refine wl_v (o_pick_t rfl h241 rfl) rfl ?_
        refine wl_nil ?_
        exact wk_then (wk_mid trivial ⟨rfl, rfl, rfl, rfl, fb (by first | (simp only [h240, h241, Bool.true_and, Bool.false_and, Bool.true_or, Bool.false_or, Bool.and_true, Bool.and_false, Bool.or_true, Bool.or_false, Bool.not_true, Bool.not_false, cond_true, cond_false, if_true, if_false, reduceIte, Bool.false_eq_true]; done) | (simp only [Bool.true_and, Bool.false_and, Bool.true_or, Bool.false_or, Bool.and_true, Bool.and_false, Bool.or_true, Bool.or_false, Bool.not_true, Bool.not_false, cond_true, cond_false, if_true, if_false, reduceIte, Bool.false_eq_true]; done) | simp [h240, h241]), trivial⟩ .slnil)
      · have g241 := h241; try simp only [decide_eq_true_eq, decide_eq_false_iff_not] at g241
        have f241 := h241; try simp only [decide_eq_true_eq, decide_eq_false_iff_not, Bool.and_eq_true, Bool.or_eq_true, Bool.not_eq_true', Bool.not_eq_false', Bool.and_eq_false_iff, Bool.or_eq_false_iff, not_or, Int.not_lt, Int.not_le] at f241
        refine wl_on rfl rfl h241 ?_
        refine wl_v (o_move rfl) rfl ?_
        refine wl_on rfl rfl h241 ?_
        refine wl_v (o_gt rfl rfl) rfl ?_
        refine wl_v (o_pick_f rfl h241 rfl) rfl ?_
        refine wl_nil ?_
        exact wk_then (wk_mid trivial ⟨rfl, rfl, rfl, rfl, fb (by first | (simp only [h240, h241, Bool.true_and, Bool.false_and, Bool.true_or, Bool.false_or, Bool.and_true, Bool.and_false, Bool.or_true, Bool.or_false, Bool.not_true, Bool.not_false, cond_true, cond_false, if_true, if_false, reduceIte, Bool.false_eq_true]; done) | (simp only [Bool.true_and, Bool.false_and, Bool.true_or, Bool.false_or, Bool.and_true, Bool.and_false, Bool.or_true, Bool.or_false, Bool.not_true, Bool.not_false, cond_true, cond_false, if_true, if_false, reduceIte, Bool.false_eq_true]; done) | simp [h240, h241]), trivial⟩ .slnil)
    refine wc_cond (b := ((decide ((m) < (0))) || (decide ((1000000000000) < (m))))) rfl (fun h243 => ?_) (fun h243 => ?_)
    · have g243 := h243; try simp only [decide_eq_true_eq, decide_eq_false_iff_not] at g243
      have f243 := h243; try simp only [decide_eq_true_eq, decide_eq_false_iff_not, Bool.and_eq_true, Bool.or_eq_true, Bool.not_eq_true', Bool.not_eq_false', Bool.and_eq_false_iff, Bool.or_eq_false_iff, not_or, Int.not_lt, Int.not_le] at f243
      refine wc_seq ?_
      refine wc_region ?_
      refine wl_v (o_assign rfl) rfl ?_
      refine wl_v (o_assign rfl) rfl ?_
      refine wl_nil ?_
      refine wk_then (wc_of_wk ?_)
      refine wc_ret ?_
      refine wk_then_ret ?_
      refine wk_ret (r_2 rfl rfl rfl) ?_
      have e : childE p m = 2 := by simp only [childE, childL]; grind
      exact retv (by simp [childV, e, childL, B])
    · have g243 := h243; try simp only [decide_eq_true_eq, decide_eq_false_iff_not] at g243
      have f243 := h243; try simp only [decide_eq_true_eq, decide_eq_false_iff_not, Bool.and_eq_true, Bool.or_eq_true, Bool.not_eq_true', Bool.not_eq_false', Bool.and_eq_false_iff, Bool.or_eq_false_iff, not_or, Int.not_lt, Int.not_le] at f243
      refine wc_skip ?_
      refine wk_then (wc_of_wk ?_)
      refine wc_seq ?_
      refine wc_region ?_
      refine wl_v (o_move rfl) rfl ?_
      refine wl_v (o_sadd rfl rfl (by simp; omega)) rfl ?_
      refine wl_v (o_move rfl) rfl ?_
      refine w_call Tryz.call42 rfl (fun w hw => format_r m (by omega) (by omega) w) rfl ?_
      have ft244 := itoa_len m (by omega) (by omega)
      refine wl_v (o_sadd rfl rfl (by simp; omega)) rfl ?_
      refine wl_v (o_assign rfl) rfl ?_
      refine wl_nil ?_
      refine wk_then (wc_of_wk ?_)
      refine wc_seq ?_
      refine wc_seq ?_
      refine wc_region ?_
      refine wl_v (o_move rfl) rfl ?_
      refine wl_v (o_len_s Tryz.underlying9 rfl) rfl ?_
      refine wl_v (o_gt rfl rfl) rfl ?_
      refine wl_nil ?_
      refine wk_then (wc_of_wk ?_)
      refine wc_cond (b := decide ((64) < ((((p ++ [46]) ++ (Lib.itoa m)).length : Int)))) rfl (fun h245 => ?_) (fun h245 => ?_)
      · have g245 := h245; try simp only [decide_eq_true_eq, decide_eq_false_iff_not] at g245
        have f245 := h245; try simp only [decide_eq_true_eq, decide_eq_false_iff_not, Bool.and_eq_true, Bool.or_eq_true, Bool.not_eq_true', Bool.not_eq_false', Bool.and_eq_false_iff, Bool.or_eq_false_iff, not_or, Int.not_lt, Int.not_le] at f245
        refine wc_seq ?_
        refine wc_region ?_
        refine wl_v (o_assign rfl) rfl ?_
        refine wl_v (o_assign rfl) rfl ?_
        refine wl_nil ?_
        refine wk_then (wc_of_wk ?_)
        refine wc_ret ?_
        refine wk_then_ret ?_
        refine wk_ret (r_2 rfl rfl rfl) ?_
        have e : childE p m = 3 := by simp only [childE, childL]; grind
        exact retv (by simp [childV, e, childL, B])
      · have g245 := h245; try simp only [decide_eq_true_eq, decide_eq_false_iff_not] at g245
        have f245 := h245; try simp only [decide_eq_true_eq, decide_eq_false_iff_not, Bool.and_eq_true, Bool.or_eq_true, Bool.not_eq_true', Bool.not_eq_false', Bool.and_eq_false_iff, Bool.or_eq_false_iff, not_or, Int.not_lt, Int.not_le] at f245
        refine wc_skip ?_
        refine wk_then (wc_of_wk ?_)
        refine wc_seq ?_
        refine wc_region ?_
        refine wl_v (o_move rfl) rfl ?_
        refine wl_v (o_assign rfl) rfl ?_
        refine wl_v (o_assign rfl) rfl ?_
        refine wl_nil ?_
        refine wk_then (wc_of_wk ?_)
        refine wc_ret ?_
        refine wk_ret (r_2 rfl rfl rfl) ?_
        have e : childE p m = 0 := by simp only [childE, childL]; grind
        exact retv (by simp [childV, e, childL, B])

theorem parent_r (p : List UInt8) (hp : p.length ≤ 281474976710656) (w : World) : Calls Tryz.prog 21 [.string (B (p))].toArray w (RetV w (.tuple #[.string (B (iff0 (parOk p) (parP p))), .int .i64 ((if parOk p = true then parseV (parN p) else (0 : Int))), .bool (parOk p)])) := by
  refine enter0 (n := 53) Tryz.func21 rfl Tryz.ntmps21 rfl ?_
  refine wc_seq ?_
  refine wc_region ?_
  refine wl_v (o_assign rfl) rfl ?_
  refine wl_v (o_assign rfl) rfl ?_
  refine wl_v (o_assign rfl) rfl ?_
  refine wl_nil ?_
  refine wk_then (wc_of_wk ?_)
  refine wc_seq ?_
  refine wc_region ?_
  refine wl_v (o_move rfl) rfl ?_
  refine wl_v (o_len_s Tryz.underlying9 rfl) rfl ?_
  refine wl_v (o_sub rfl rfl (IntWalk.i64_in _ (by omega))) rfl ?_
  refine wl_v (o_assign rfl) rfl ?_
  refine wl_nil ?_
  refine wk_then (wc_of_wk ?_)
  refine wc_seq ?_
  refine wc_block ?_
  refine wc_loop (S := Nat) (fun (k : Nat) => k ≤ p.length ∧ lastB p 46 = lastIx p 46 k) (fun (k : Nat) => [(5, .int .i64 ((k : Int) - 1)), (0, .string (B (p))), (2, .string (B ([]))), (3, .int .i64 (0)), (4, .bool (false))]) (fun (k : Nat) => []) (fun (k : Nat) => k) (p.length) ?_ ⟨fi (by first | rfl | (simp; done) | omega | (simp; omega)), rfl, rfl, rfl, rfl, trivial⟩ .slnil ?_
  · exact ⟨Nat.le_refl _, rfl⟩
  rintro k hi0
  have hk1 := hi0.1
  refine wc_seq ?_
  refine wc_seq_mid [(0, .string (B (p))), (2, .string (B ([]))), (3, .int .i64 (0)), (4, .bool (false)), (5, .int .i64 ((k : Int) - 1)), (12, .int .i64 ((k : Int) - 1)), (13, .bool (decide ((0) ≤ ((k : Int) - 1)))), (14, .bool (decide ((0) ≤ ((k : Int) - 1)))), (19, .bool (((decide ((0) ≤ ((k : Int) - 1))) && (!(decide ((bat p ((k : Int) - 1)) = (46)))))))] [] (φ := True) ?_ (fun hm246 => ?_)
  · refine wc_region ?_
    refine wl_v (o_move rfl) rfl ?_
    refine wl_v (o_ge rfl rfl) rfl ?_
    refine wl_v (o_move rfl) rfl ?_
    refine bsplit (decide ((0) ≤ ((k : Int) - 1))) (fun h246 => ?_) (fun h246 => ?_)
    · have g246 := h246; try simp only [decide_eq_true_eq, decide_eq_false_iff_not] at g246
      have f246 := h246; try simp only [decide_eq_true_eq, decide_eq_false_iff_not, Bool.and_eq_true, Bool.or_eq_true, Bool.not_eq_true', Bool.not_eq_false', Bool.and_eq_false_iff, Bool.or_eq_false_iff, not_or, Int.not_lt, Int.not_le] at f246
      refine wl_on rfl rfl h246 ?_
      refine wl_v (o_move rfl) rfl ?_
      refine wl_on rfl rfl h246 ?_
      refine wl_v (o_move rfl) rfl ?_
      refine wl_on rfl rfl h246 ?_
      refine wl_v (o_index_b Tryz.underlying9 rfl rfl (by first | omega | (simp; omega) | (simp at *; omega)) (by first | omega | (simp; omega) | (simp at *; omega))) rfl ?_
      refine wl_on rfl rfl h246 ?_
      refine wl_v (o_ne rfl rfl) rfl ?_
      refine wl_v (o_pick_t rfl h246 rfl) rfl ?_
      refine wl_nil ?_
      exact wk_then (wk_mid trivial ⟨rfl, rfl, rfl, rfl, rfl, rfl, rfl, rfl, fb (by first | (simp only [h246, Bool.true_and, Bool.false_and, Bool.true_or, Bool.false_or, Bool.and_true, Bool.and_false, Bool.or_true, Bool.or_false, Bool.not_true, Bool.not_false, cond_true, cond_false, if_true, if_false, reduceIte, Bool.false_eq_true]; done) | (simp only [Bool.true_and, Bool.false_and, Bool.true_or, Bool.false_or, Bool.and_true, Bool.and_false, Bool.or_true, Bool.or_false, Bool.not_true, Bool.not_false, cond_true, cond_false, if_true, if_false, reduceIte, Bool.false_eq_true]; done) | simp [h246]), trivial⟩ .slnil)
    · have g246 := h246; try simp only [decide_eq_true_eq, decide_eq_false_iff_not] at g246
      have f246 := h246; try simp only [decide_eq_true_eq, decide_eq_false_iff_not, Bool.and_eq_true, Bool.or_eq_true, Bool.not_eq_true', Bool.not_eq_false', Bool.and_eq_false_iff, Bool.or_eq_false_iff, not_or, Int.not_lt, Int.not_le] at f246
      refine wl_off rfl rfl h246 rfl ?_
      refine wl_off rfl rfl h246 rfl ?_
      refine wl_off rfl rfl h246 rfl ?_
      refine wl_off rfl rfl h246 rfl ?_
      refine wl_v (o_pick_f rfl h246 rfl) rfl ?_
      refine wl_nil ?_
      exact wk_then (wk_mid trivial ⟨rfl, rfl, rfl, rfl, rfl, rfl, rfl, rfl, fb (by first | (simp only [h246, Bool.true_and, Bool.false_and, Bool.true_or, Bool.false_or, Bool.and_true, Bool.and_false, Bool.or_true, Bool.or_false, Bool.not_true, Bool.not_false, cond_true, cond_false, if_true, if_false, reduceIte, Bool.false_eq_true]; done) | (simp only [Bool.true_and, Bool.false_and, Bool.true_or, Bool.false_or, Bool.and_true, Bool.and_false, Bool.or_true, Bool.or_false, Bool.not_true, Bool.not_false, cond_true, cond_false, if_true, if_false, reduceIte, Bool.false_eq_true]; done) | simp [h246]), trivial⟩ .slnil)
  refine wc_cond (b := ((decide ((0) ≤ ((k : Int) - 1))) && (!(decide ((bat p ((k : Int) - 1)) = (46)))))) rfl (fun h248 => ?_) (fun h248 => ?_)
  · have g248 := h248; try simp only [decide_eq_true_eq, decide_eq_false_iff_not] at g248
    have f248 := h248; try simp only [decide_eq_true_eq, decide_eq_false_iff_not, Bool.and_eq_true, Bool.or_eq_true, Bool.not_eq_true', Bool.not_eq_false', Bool.and_eq_false_iff, Bool.or_eq_false_iff, not_or, Int.not_lt, Int.not_le] at f248
    refine wc_skip ?_
    refine wk_then (wc_of_wk ?_)
    refine wc_block ?_
    refine wc_region ?_
    refine wl_v (o_move rfl) rfl ?_
    refine wl_v (o_sub rfl rfl (IntWalk.i64_in _ (by omega))) rfl ?_
    refine wl_v (o_assign rfl) rfl ?_
    refine wl_nil ?_
    refine wk_in_norm ?_
    refine wk_then ?_
    refine wk_some (k - 1) ?_ ⟨fi (by first | rfl | (simp; done) | omega | (simp; omega)), rfl, rfl, rfl, rfl, trivial⟩ .slnil
    exact last_next hi0 f248.1 f248.2
  · have g248 := h248; try simp only [decide_eq_true_eq, decide_eq_false_iff_not] at g248
    have f248 := h248; try simp only [decide_eq_true_eq, decide_eq_false_iff_not, Bool.and_eq_true, Bool.or_eq_true, Bool.not_eq_true', Bool.not_eq_false', Bool.and_eq_false_iff, Bool.or_eq_false_iff, not_or, Int.not_lt, Int.not_le] at f248
    refine wc_exit ?_
    refine wk_then_exit ?_
    refine wk_then_exit ?_
    refine wk_in_hit ?_
    refine wk_then (wc_of_wk ?_)
    refine wc_seq ?_
    refine wc_seq ?_
    refine wc_region ?_
    refine wl_v (o_move rfl) rfl ?_
    refine wl_v (o_lt rfl rfl) rfl ?_
    refine wl_nil ?_
    refine wk_then (wc_of_wk ?_)
    refine wc_cond (b := decide (((k : Int) - 1) < (0))) rfl (fun h249 => ?_) (fun h249 => ?_)
    · have g249 := h249; try simp only [decide_eq_true_eq, decide_eq_false_iff_not] at g249
      have f249 := h249; try simp only [decide_eq_true_eq, decide_eq_false_iff_not, Bool.and_eq_true, Bool.or_eq_true, Bool.not_eq_true', Bool.not_eq_false', Bool.and_eq_false_iff, Bool.or_eq_false_iff, not_or, Int.not_lt, Int.not_le] at f249
      refine wc_seq ?_
      refine wc_region ?_
      refine wl_v (o_assign rfl) rfl ?_
      refine wl_v (o_assign rfl) rfl ?_
      refine wl_v (o_assign rfl) rfl ?_
      refine wl_nil ?_
      refine wk_then (wc_of_wk ?_)
      refine wc_ret ?_
      refine wk_then_ret ?_
      refine wk_ret (r_3 rfl rfl rfl rfl) ?_
      have hk := last_at hi0 h248
      have hP : parP p = List.take (Int.toNat ((k : Int) - 1)) p := by rw [parP, ← hk]
      have hN : parN p = List.drop (Int.toNat ((k : Int) - 1 + 1)) p := by rw [parN, ← hk]
      have hr : parOk p = false := by unfold parOk; rw [← hk, hP, hN]; grind
      exact retv (by simp only [hr, iff0, hP, hN]; rfl)
    · have g249 := h249; try simp only [decide_eq_true_eq, decide_eq_false_iff_not] at g249
      have f249 := h249; try simp only [decide_eq_true_eq, decide_eq_false_iff_not, Bool.and_eq_true, Bool.or_eq_true, Bool.not_eq_true', Bool.not_eq_false', Bool.and_eq_false_iff, Bool.or_eq_false_iff, not_or, Int.not_lt, Int.not_le] at f249
      refine wc_skip ?_
      refine wk_then (wc_of_wk ?_)
      refine wc_seq ?_
      refine wc_region ?_
      refine wl_v (o_move rfl) rfl ?_
      refine wl_v (o_move rfl) rfl ?_
      refine wl_v (o_add rfl rfl (IntWalk.i64_in _ (by omega))) rfl ?_
      refine wl_v (o_slice_lo Tryz.underlying9 rfl rfl (by first | omega | (simp; omega)) (by first | omega | (simp; omega))) rfl ?_
      refine w_call Tryz.call45 rfl (fun w hw => parse_r (List.drop (Int.toNat (((k : Int) - 1) + 1)) p) (by first | omega | (simp; done) | (simp; omega) | (simp at *; omega) | (split <;> first | omega | (simp; omega))) w) rfl ?_
      have ft250 := parse_bd (List.drop (Int.toNat (((k : Int) - 1) + 1)) p)
      refine wl_v (o_move rfl) rfl ?_
      refine wl_v (o_extract rfl rfl) rfl ?_
      refine wl_v (o_extract rfl rfl) rfl ?_
      refine wl_v (o_assign rfl) rfl ?_
      refine wl_v (o_assign rfl) rfl ?_
      refine wl_nil ?_
      refine wk_then (wc_of_wk ?_)
      refine wc_seq ?_
      refine wc_seq ?_
      refine wc_region ?_
      refine wl_v (o_move rfl) rfl ?_
      refine wl_v (o_ne rfl rfl) rfl ?_
      refine wl_nil ?_
      refine wk_then (wc_of_wk ?_)
      refine wc_cond (b := !(decide ((parseE (List.drop (Int.toNat (((k : Int) - 1) + 1)) p)) = (0)))) rfl (fun h251 => ?_) (fun h251 => ?_)
      · have g251 := h251; try simp only [decide_eq_true_eq, decide_eq_false_iff_not] at g251
        have f251 := h251; try simp only [decide_eq_true_eq, decide_eq_false_iff_not, Bool.and_eq_true, Bool.or_eq_true, Bool.not_eq_true', Bool.not_eq_false', Bool.and_eq_false_iff, Bool.or_eq_false_iff, not_or, Int.not_lt, Int.not_le] at f251
        refine wc_seq ?_
        refine wc_region ?_
        refine wl_v (o_assign rfl) rfl ?_
        refine wl_v (o_assign rfl) rfl ?_
        refine wl_v (o_assign rfl) rfl ?_
        refine wl_nil ?_
        refine wk_then (wc_of_wk ?_)
        refine wc_ret ?_
        refine wk_then_ret ?_
        refine wk_ret (r_3 rfl rfl rfl rfl) ?_
        have hk := last_at hi0 h248
        have hP : parP p = List.take (Int.toNat ((k : Int) - 1)) p := by rw [parP, ← hk]
        have hN : parN p = List.drop (Int.toNat ((k : Int) - 1 + 1)) p := by rw [parN, ← hk]
        have hr : parOk p = false := by unfold parOk; rw [← hk, hP, hN]; grind
        exact retv (by simp only [hr, iff0, hP, hN]; rfl)
      · have g251 := h251; try simp only [decide_eq_true_eq, decide_eq_false_iff_not] at g251
        have f251 := h251; try simp only [decide_eq_true_eq, decide_eq_false_iff_not, Bool.and_eq_true, Bool.or_eq_true, Bool.not_eq_true', Bool.not_eq_false', Bool.and_eq_false_iff, Bool.or_eq_false_iff, not_or, Int.not_lt, Int.not_le] at f251
        refine wc_skip ?_
        refine wk_then (wc_of_wk ?_)
        refine wc_seq ?_
        refine wc_region ?_
        refine wl_v (o_move rfl) rfl ?_
        refine wl_v (o_move rfl) rfl ?_
        refine wl_v (o_slice_hi Tryz.underlying9 rfl rfl (by first | omega | (simp; omega)) (by first | omega | (simp; omega))) rfl ?_
        refine wl_v (o_move rfl) rfl ?_
        refine w_call Tryz.call19 rfl (fun w hw => child_r (List.take (Int.toNat ((k : Int) - 1)) p) (parseV (List.drop (Int.toNat (((k : Int) - 1) + 1)) p)) (by first | omega | (simp; done) | (simp; omega) | (simp at *; omega) | (split <;> first | omega | (simp; omega))) w) rfl ?_
        have ft252 := childV_len (List.take (Int.toNat ((k : Int) - 1)) p) (parseV (List.drop (Int.toNat (((k : Int) - 1) + 1)) p))
        refine wl_v (o_move rfl) rfl ?_
        refine wl_v (o_extract rfl rfl) rfl ?_
        refine wl_v (o_extract rfl rfl) rfl ?_
        refine wl_v (o_assign rfl) rfl ?_
        refine wl_v (o_assign rfl) rfl ?_
        refine wl_nil ?_
        refine wk_then (wc_of_wk ?_)
        refine wc_seq ?_
        refine wc_seq_mid [(0, .string (B (p))), (2, .string (B ([]))), (3, .int .i64 (0)), (4, .bool (false)), (5, .int .i64 ((k : Int) - 1)), (6, .int .i64 (parseV (List.drop (Int.toNat (((k : Int) - 1) + 1)) p))), (48, .bool (((!(decide ((childE (List.take (Int.toNat ((k : Int) - 1)) p) (parseV (List.drop (Int.toNat (((k : Int) - 1) + 1)) p))) = (0)))) || (!(decide (((childV (List.take (Int.toNat ((k : Int) - 1)) p) (parseV (List.drop (Int.toNat (((k : Int) - 1) + 1)) p)))) = (p)))))))] [] (φ := True) ?_ (fun hm253 => ?_)
        · refine wc_region ?_
          refine wl_v (o_move rfl) rfl ?_
          refine wl_v (o_ne rfl rfl) rfl ?_
          refine wl_v (o_move rfl) rfl ?_
          refine bsplit (!(decide ((childE (List.take (Int.toNat ((k : Int) - 1)) p) (parseV (List.drop (Int.toNat (((k : Int) - 1) + 1)) p))) = (0)))) (fun h253 => ?_) (fun h253 => ?_)
          · have g253 := h253; try simp only [decide_eq_true_eq, decide_eq_false_iff_not] at g253
            have f253 := h253; try simp only [decide_eq_true_eq, decide_eq_false_iff_not, Bool.and_eq_true, Bool.or_eq_true, Bool.not_eq_true', Bool.not_eq_false', Bool.and_eq_false_iff, Bool.or_eq_false_iff, not_or, Int.not_lt, Int.not_le] at f253
            refine wl_off rfl rfl h253 rfl ?_
            refine wl_off rfl rfl h253 rfl ?_
            refine wl_off rfl rfl h253 rfl ?_
            refine wl_v (o_pick_t rfl h253 rfl) rfl ?_
            refine wl_nil ?_
            exact wk_then (wk_mid trivial ⟨rfl, rfl, rfl, rfl, rfl, rfl, fb (by first | (simp only [h248, h249, h251, h253, Bool.true_and, Bool.false_and, Bool.true_or, Bool.false_or, Bool.and_true, Bool.and_false, Bool.or_true, Bool.or_false, Bool.not_true, Bool.not_false, cond_true, cond_false, if_true, if_false, reduceIte, Bool.false_eq_true]; done) | (simp only [Bool.true_and, Bool.false_and, Bool.true_or, Bool.false_or, Bool.and_true, Bool.and_false, Bool.or_true, Bool.or_false, Bool.not_true, Bool.not_false, cond_true, cond_false, if_true, if_false, reduceIte, Bool.false_eq_true]; done) | simp [h248, h249, h251, h253]), trivial⟩ .slnil)
          · have g253 := h253; try simp only [decide_eq_true_eq, decide_eq_false_iff_not] at g253
            have f253 := h253; try simp only [decide_eq_true_eq, decide_eq_false_iff_not, Bool.and_eq_true, Bool.or_eq_true, Bool.not_eq_true', Bool.not_eq_false', Bool.and_eq_false_iff, Bool.or_eq_false_iff, not_or, Int.not_lt, Int.not_le] at f253
            refine wl_on rfl rfl h253 ?_
            refine wl_v (o_move rfl) rfl ?_
            refine wl_on rfl rfl h253 ?_
            refine wl_v (o_move rfl) rfl ?_
            refine wl_on rfl rfl h253 ?_
            refine wl_v (o_sne rfl rfl) rfl ?_
            refine wl_v (o_pick_f rfl h253 rfl) rfl ?_
            refine wl_nil ?_
            exact wk_then (wk_mid trivial ⟨rfl, rfl, rfl, rfl, rfl, rfl, fb (by first | (simp only [h248, h249, h251, h253, Bool.true_and, Bool.false_and, Bool.true_or, Bool.false_or, Bool.and_true, Bool.and_false, Bool.or_true, Bool.or_false, Bool.not_true, Bool.not_false, cond_true, cond_false, if_true, if_false, reduceIte, Bool.false_eq_true]; done) | (simp only [Bool.true_and, Bool.false_and, Bool.true_or, Bool.false_or, Bool.and_true, Bool.and_false, Bool.or_true, Bool.or_false, Bool.not_true, Bool.not_false, cond_true, cond_false, if_true, if_false, reduceIte, Bool.false_eq_true]; done) | simp [h248, h249, h251, h253]), trivial⟩ .slnil)
        refine wc_cond (b := ((!(decide ((childE (List.take (Int.toNat ((k : Int) - 1)) p) (parseV (List.drop (Int.toNat (((k : Int) - 1) + 1)) p))) = (0)))) || (!(decide (((childV (List.take (Int.toNat ((k : Int) - 1)) p) (parseV (List.drop (Int.toNat (((k : Int) - 1) + 1)) p)))) = (p)))))) rfl (fun h255 => ?_) (fun h255 => ?_)
        · have g255 := h255; try simp only [decide_eq_true_eq, decide_eq_false_iff_not] at g255
          have f255 := h255; try simp only [decide_eq_true_eq, decide_eq_false_iff_not, Bool.and_eq_true, Bool.or_eq_true, Bool.not_eq_true', Bool.not_eq_false', Bool.and_eq_false_iff, Bool.or_eq_false_iff, not_or, Int.not_lt, Int.not_le] at f255
          refine wc_seq ?_
          refine wc_region ?_
          refine wl_v (o_assign rfl) rfl ?_
          refine wl_v (o_assign rfl) rfl ?_
          refine wl_v (o_assign rfl) rfl ?_
          refine wl_nil ?_
          refine wk_then (wc_of_wk ?_)
          refine wc_ret ?_
          refine wk_then_ret ?_
          refine wk_ret (r_3 rfl rfl rfl rfl) ?_
          have hk := last_at hi0 h248
          have hP : parP p = List.take (Int.toNat ((k : Int) - 1)) p := by rw [parP, ← hk]
          have hN : parN p = List.drop (Int.toNat ((k : Int) - 1 + 1)) p := by rw [parN, ← hk]
          have hr : parOk p = false := by unfold parOk; rw [← hk, hP, hN]; grind
          exact retv (by simp only [hr, iff0, hP, hN]; rfl)
        · have g255 := h255; try simp only [decide_eq_true_eq, decide_eq_false_iff_not] at g255
          have f255 := h255; try simp only [decide_eq_true_eq, decide_eq_false_iff_not, Bool.and_eq_true, Bool.or_eq_true, Bool.not_eq_true', Bool.not_eq_false', Bool.and_eq_false_iff, Bool.or_eq_false_iff, not_or, Int.not_lt, Int.not_le] at f255
          refine wc_skip ?_
          refine wk_then (wc_of_wk ?_)
          refine wc_seq ?_
          refine wc_region ?_
          refine wl_v (o_move rfl) rfl ?_
          refine wl_v (o_move rfl) rfl ?_
          refine wl_v (o_slice_hi Tryz.underlying9 rfl rfl (by first | omega | (simp; omega)) (by first | omega | (simp; omega))) rfl ?_
          refine wl_v (o_move rfl) rfl ?_
          refine wl_v (o_assign rfl) rfl ?_
          refine wl_v (o_assign rfl) rfl ?_
          refine wl_v (o_assign rfl) rfl ?_
          refine wl_nil ?_
          refine wk_then (wc_of_wk ?_)
          refine wc_ret ?_
          refine wk_ret (r_3 rfl rfl rfl rfl) ?_
          have hk := last_at hi0 h248
          have hP : parP p = List.take (Int.toNat ((k : Int) - 1)) p := by rw [parP, ← hk]
          have hN : parN p = List.drop (Int.toNat ((k : Int) - 1 + 1)) p := by rw [parN, ← hk]
          have hr : parOk p = true := by unfold parOk; rw [← hk, hP, hN]; grind
          exact retv (by simp only [hr, iff0, hP, hN]; rfl)

end Go.Proofs.YtjkdkmcklocmnaaGreatDoor
