/-
  Walks, printed by a small program of ours (gsym.py).
-/
import Derived.Test.YtjkdkmcklocmnaaDoorPlD
import Derived.Test.YtjkdkmcklocmnaaDoorIdD
namespace Go.Proofs.YtjkdkmcklocmnaaDoor
open Go Go.RowKit
set_option linter.unusedVariables false
set_option linter.unusedSimpArgs false
set_option maxRecDepth 100000
theorem identBack_c (t : List UInt8) (f : List UInt8) (q : List UInt8) (m : Int) (ht : t.length ≤ 140737488355328) (hf : f.length ≤ 140737488355328) (hq : q.length ≤ 140737488355328) (w : World) (hE : Env w) : Calls Tryd.prog 5 [.string (B (t)), .string (B (f)), .string (B (q)), .int .i64 (m)].toArray w (RetV w (.bool true)) := by
  refine enter0 (n := 112) Tryd.func5 rfl Tryd.ntmps5 rfl ?_
  refine wc_seq ?_
  refine wc_region ?_
  refine wl_v (o_assign rfl) rfl ?_
  refine wl_nil ?_
  refine wk_then (wc_of_wk ?_)
  refine wc_seq ?_
  refine wc_region ?_
  refine wl_v (o_move rfl) rfl ?_
  refine wl_v (o_move rfl) rfl ?_
  refine wl_v (o_move rfl) rfl ?_
  refine w_call Tryd.call15 rfl (fun w hw => ref_c t f q (by first | omega | (simp; done) | (simp; omega) | (simp at *; omega) | (split <;> first | omega | (simp; omega))) (by first | omega | (simp; done) | (simp; omega) | (simp at *; omega) | (split <;> first | omega | (simp; omega))) (by first | omega | (simp; done) | (simp; omega) | (simp at *; omega) | (split <;> first | omega | (simp; omega))) w (hE.st0 hw)) rfl ?_
  have ft141 := refV_len t f q
  refine wl_v (o_move rfl) rfl ?_
  refine wl_v (o_extract rfl rfl) rfl ?_
  refine wl_v (o_extract rfl rfl) rfl ?_
  refine wl_v (o_assign rfl) rfl ?_
  refine wl_v (o_assign rfl) rfl ?_
  refine wl_nil ?_
  refine wk_then (wc_of_wk ?_)
  refine wc_seq_mid [(0, .string (B (t))), (2, .string (B (q))), (3, .int .i64 (m)), (8, .bool (false)), (10, .int .i64 (refE t f q))] [] (φ := (!(decide ((refE t f q) = (0))) || (!(((!(decide (((if prOk (refV t f q) = true then (0 : Int) else 1)) = (0)))) || ((!(decide (((iff0 (prOk (refV t f q)) (prT (refV t f q)))) = (t)))) || ((!(decide (((iff0 (prOk (refV t f q)) (prF (refV t f q)))) = (f)))) || (!(decide (((iff0 (prOk (refV t f q)) (prQ (refV t f q)))) = (q)))))))))) = true) ?_ (fun hm150 => ?_)
  · refine wc_seq ?_
    refine wc_region ?_
    refine wl_v (o_move rfl) rfl ?_
    refine wl_v (o_eq rfl rfl) rfl ?_
    refine wl_nil ?_
    refine wk_then (wc_of_wk ?_)
    refine wc_cond (b := decide ((refE t f q) = (0))) rfl (fun h142 => ?_) (fun h142 => ?_)
    · have g142 := h142; try simp only [decide_eq_true_eq, decide_eq_false_iff_not] at g142
      have f142 := h142; try simp only [decide_eq_true_eq, decide_eq_false_iff_not, Bool.and_eq_true, Bool.or_eq_true, Bool.not_eq_true', Bool.not_eq_false', Bool.and_eq_false_iff, Bool.or_eq_false_iff, not_or, Int.not_lt, Int.not_le] at f142
      refine wc_seq ?_
      refine wc_region ?_
      refine wl_v (o_move rfl) rfl ?_
      refine w_call Tryd.call16 rfl (fun w hw => parseRef_c (refV t f q) (by first | omega | (simp; done) | (simp; omega) | (simp at *; omega) | (split <;> first | omega | (simp; omega))) w (hE.st0 hw)) rfl ?_
      have ft143 := prT_len (prOk (refV t f q)) (refV t f q)
      have ft144 := prF_len (prOk (refV t f q)) (refV t f q)
      have ft145 := prQ_len (prOk (refV t f q)) (refV t f q)
      refine wl_v (o_move rfl) rfl ?_
      refine wl_v (o_extract rfl rfl) rfl ?_
      refine wl_v (o_extract rfl rfl) rfl ?_
      refine wl_v (o_extract rfl rfl) rfl ?_
      refine wl_v (o_extract rfl rfl) rfl ?_
      refine wl_v (o_assign rfl) rfl ?_
      refine wl_v (o_assign rfl) rfl ?_
      refine wl_v (o_assign rfl) rfl ?_
      refine wl_v (o_assign rfl) rfl ?_
      refine wl_nil ?_
      refine wk_then (wc_of_wk ?_)
      refine wc_seq_mid [(0, .string (B (t))), (2, .string (B (q))), (3, .int .i64 (m)), (8, .bool (false)), (10, .int .i64 (refE t f q)), (56, .bool (((!(decide (((if prOk (refV t f q) = true then (0 : Int) else 1)) = (0)))) || ((!(decide (((iff0 (prOk (refV t f q)) (prT (refV t f q)))) = (t)))) || ((!(decide (((iff0 (prOk (refV t f q)) (prF (refV t f q)))) = (f)))) || (!(decide (((iff0 (prOk (refV t f q)) (prQ (refV t f q)))) = (q)))))))))] [] (φ := True) ?_ (fun hm148 => ?_)
      · refine wc_region ?_
        refine wl_v (o_move rfl) rfl ?_
        refine wl_v (o_ne rfl rfl) rfl ?_
        refine wl_v (o_move rfl) rfl ?_
        refine bsplit (!(decide (((if prOk (refV t f q) = true then (0 : Int) else 1)) = (0)))) (fun h146 => ?_) (fun h146 => ?_)
        · have g146 := h146; try simp only [decide_eq_true_eq, decide_eq_false_iff_not] at g146
          have f146 := h146; try simp only [decide_eq_true_eq, decide_eq_false_iff_not, Bool.and_eq_true, Bool.or_eq_true, Bool.not_eq_true', Bool.not_eq_false', Bool.and_eq_false_iff, Bool.or_eq_false_iff, not_or, Int.not_lt, Int.not_le] at f146
          refine wl_off rfl rfl h146 rfl ?_
          refine wl_off rfl rfl h146 rfl ?_
          refine wl_off rfl rfl h146 rfl ?_
          refine wl_v (o_pick_t rfl h146 rfl) rfl ?_
          refine wl_v (o_move rfl) rfl ?_
          refine wl_off rfl rfl rfl rfl ?_
          refine wl_off rfl rfl rfl rfl ?_
          refine wl_off rfl rfl rfl rfl ?_
          refine wl_v (o_pick_t rfl rfl rfl) rfl ?_
          refine wl_v (o_move rfl) rfl ?_
          refine wl_off rfl rfl rfl rfl ?_
          refine wl_off rfl rfl rfl rfl ?_
          refine wl_off rfl rfl rfl rfl ?_
          refine wl_v (o_pick_t rfl rfl rfl) rfl ?_
          refine wl_nil ?_
          exact wk_then (wk_mid trivial ⟨rfl, rfl, rfl, rfl, rfl, fb (by first | (simp only [h142, h146, Bool.true_and, Bool.false_and, Bool.true_or, Bool.false_or, Bool.and_true, Bool.and_false, Bool.or_true, Bool.or_false, Bool.not_true, Bool.not_false, cond_true, cond_false, if_true, if_false, reduceIte, Bool.false_eq_true]; done) | (simp only [Bool.true_and, Bool.false_and, Bool.true_or, Bool.false_or, Bool.and_true, Bool.and_false, Bool.or_true, Bool.or_false, Bool.not_true, Bool.not_false, cond_true, cond_false, if_true, if_false, reduceIte, Bool.false_eq_true]; done) | simp [h142, h146]), trivial⟩ .slnil)
        · have g146 := h146; try simp only [decide_eq_true_eq, decide_eq_false_iff_not] at g146
          have f146 := h146; try simp only [decide_eq_true_eq, decide_eq_false_iff_not, Bool.and_eq_true, Bool.or_eq_true, Bool.not_eq_true', Bool.not_eq_false', Bool.and_eq_false_iff, Bool.or_eq_false_iff, not_or, Int.not_lt, Int.not_le] at f146
          refine wl_on rfl rfl h146 ?_
          refine wl_v (o_move rfl) rfl ?_
          refine wl_on rfl rfl h146 ?_
          refine wl_v (o_move rfl) rfl ?_
          refine wl_on rfl rfl h146 ?_
          refine wl_v (o_sne rfl rfl) rfl ?_
          refine wl_v (o_pick_f rfl h146 rfl) rfl ?_
          refine wl_v (o_move rfl) rfl ?_
          refine bsplit (!(decide (((iff0 (prOk (refV t f q)) (prT (refV t f q)))) = (t)))) (fun h147 => ?_) (fun h147 => ?_)
          · have g147 := h147; try simp only [decide_eq_true_eq, decide_eq_false_iff_not] at g147
            have f147 := h147; try simp only [decide_eq_true_eq, decide_eq_false_iff_not, Bool.and_eq_true, Bool.or_eq_true, Bool.not_eq_true', Bool.not_eq_false', Bool.and_eq_false_iff, Bool.or_eq_false_iff, not_or, Int.not_lt, Int.not_le] at f147
            refine wl_off rfl rfl h147 rfl ?_
            refine wl_off rfl rfl h147 rfl ?_
            refine wl_off rfl rfl h147 rfl ?_
            refine wl_v (o_pick_t rfl h147 rfl) rfl ?_
            refine wl_v (o_move rfl) rfl ?_
            refine wl_off rfl rfl rfl rfl ?_
            refine wl_off rfl rfl rfl rfl ?_
            refine wl_off rfl rfl rfl rfl ?_
            refine wl_v (o_pick_t rfl rfl rfl) rfl ?_
            refine wl_nil ?_
            exact wk_then (wk_mid trivial ⟨rfl, rfl, rfl, rfl, rfl, fb (by first | (simp only [h142, h146, h147, Bool.true_and, Bool.false_and, Bool.true_or, Bool.false_or, Bool.and_true, Bool.and_false, Bool.or_true, Bool.or_false, Bool.not_true, Bool.not_false, cond_true, cond_false, if_true, if_false, reduceIte, Bool.false_eq_true]; done) | (simp only [Bool.true_and, Bool.false_and, Bool.true_or, Bool.false_or, Bool.and_true, Bool.and_false, Bool.or_true, Bool.or_false, Bool.not_true, Bool.not_false, cond_true, cond_false, if_true, if_false, reduceIte, Bool.false_eq_true]; done) | simp [h142, h146, h147]), trivial⟩ .slnil)
          · have g147 := h147; try simp only [decide_eq_true_eq, decide_eq_false_iff_not] at g147
            have f147 := h147; try simp only [decide_eq_true_eq, decide_eq_false_iff_not, Bool.and_eq_true, Bool.or_eq_true, Bool.not_eq_true', Bool.not_eq_false', Bool.and_eq_false_iff, Bool.or_eq_false_iff, not_or, Int.not_lt, Int.not_le] at f147
            refine wl_on rfl rfl h147 ?_
            refine wl_v (o_move rfl) rfl ?_
            refine wl_on rfl rfl h147 ?_
            refine wl_v (o_move rfl) rfl ?_
            refine wl_on rfl rfl h147 ?_
            refine wl_v (o_sne rfl rfl) rfl ?_
            refine wl_v (o_pick_f rfl h147 rfl) rfl ?_
            refine wl_v (o_move rfl) rfl ?_
            refine bsplit (!(decide (((iff0 (prOk (refV t f q)) (prF (refV t f q)))) = (f)))) (fun h148 => ?_) (fun h148 => ?_)
            · have g148 := h148; try simp only [decide_eq_true_eq, decide_eq_false_iff_not] at g148
              have f148 := h148; try simp only [decide_eq_true_eq, decide_eq_false_iff_not, Bool.and_eq_true, Bool.or_eq_true, Bool.not_eq_true', Bool.not_eq_false', Bool.and_eq_false_iff, Bool.or_eq_false_iff, not_or, Int.not_lt, Int.not_le] at f148
              refine wl_off rfl rfl h148 rfl ?_
              refine wl_off rfl rfl h148 rfl ?_
              refine wl_off rfl rfl h148 rfl ?_
              refine wl_v (o_pick_t rfl h148 rfl) rfl ?_
              refine wl_nil ?_
              exact wk_then (wk_mid trivial ⟨rfl, rfl, rfl, rfl, rfl, fb (by first | (simp only [h142, h146, h147, h148, Bool.true_and, Bool.false_and, Bool.true_or, Bool.false_or, Bool.and_true, Bool.and_false, Bool.or_true, Bool.or_false, Bool.not_true, Bool.not_false, cond_true, cond_false, if_true, if_false, reduceIte, Bool.false_eq_true]; done) | (simp only [Bool.true_and, Bool.false_and, Bool.true_or, Bool.false_or, Bool.and_true, Bool.and_false, Bool.or_true, Bool.or_false, Bool.not_true, Bool.not_false, cond_true, cond_false, if_true, if_false, reduceIte, Bool.false_eq_true]; done) | simp [h142, h146, h147, h148]), trivial⟩ .slnil)
            · have g148 := h148; try simp only [decide_eq_true_eq, decide_eq_false_iff_not] at g148
              have f148 := h148; try simp only [decide_eq_true_eq, decide_eq_false_iff_not, Bool.and_eq_true, Bool.or_eq_true, Bool.not_eq_true', Bool.not_eq_false', Bool.and_eq_false_iff, Bool.or_eq_false_iff, not_or, Int.not_lt, Int.not_le] at f148
              refine wl_on rfl rfl h148 ?_
              refine wl_v (o_move rfl) rfl ?_
              refine wl_on rfl rfl h148 ?_
              refine wl_v (o_move rfl) rfl ?_
              refine wl_on rfl rfl h148 ?_
              refine wl_v (o_sne rfl rfl) rfl ?_
              refine wl_v (o_pick_f rfl h148 rfl) rfl ?_
              refine wl_nil ?_
              exact wk_then (wk_mid trivial ⟨rfl, rfl, rfl, rfl, rfl, fb (by first | (simp only [h142, h146, h147, h148, Bool.true_and, Bool.false_and, Bool.true_or, Bool.false_or, Bool.and_true, Bool.and_false, Bool.or_true, Bool.or_false, Bool.not_true, Bool.not_false, cond_true, cond_false, if_true, if_false, reduceIte, Bool.false_eq_true]; done) | (simp only [Bool.true_and, Bool.false_and, Bool.true_or, Bool.false_or, Bool.and_true, Bool.and_false, Bool.or_true, Bool.or_false, Bool.not_true, Bool.not_false, cond_true, cond_false, if_true, if_false, reduceIte, Bool.false_eq_true]; done) | simp [h142, h146, h147, h148]), trivial⟩ .slnil)
      refine wc_cond (b := ((!(decide (((if prOk (refV t f q) = true then (0 : Int) else 1)) = (0)))) || ((!(decide (((iff0 (prOk (refV t f q)) (prT (refV t f q)))) = (t)))) || ((!(decide (((iff0 (prOk (refV t f q)) (prF (refV t f q)))) = (f)))) || (!(decide (((iff0 (prOk (refV t f q)) (prQ (refV t f q)))) = (q)))))))) rfl (fun h150 => ?_) (fun h150 => ?_)
      · have g150 := h150; try simp only [decide_eq_true_eq, decide_eq_false_iff_not] at g150
        have f150 := h150; try simp only [decide_eq_true_eq, decide_eq_false_iff_not, Bool.and_eq_true, Bool.or_eq_true, Bool.not_eq_true', Bool.not_eq_false', Bool.and_eq_false_iff, Bool.or_eq_false_iff, not_or, Int.not_lt, Int.not_le] at f150
        refine wc_seq ?_
        refine wc_region ?_
        refine wl_v (o_assign rfl) rfl ?_
        refine wl_nil ?_
        refine wk_then (wc_of_wk ?_)
        refine wc_ret ?_
        refine wk_then_ret ?_
        refine wk_ret (r_1 rfl rfl) ?_
        exfalso
        obtain ⟨e1, e2, e3, e4⟩ := back_ref f142
        simp [e1, e2, e3, e4, iff0] at f150
      · have g150 := h150; try simp only [decide_eq_true_eq, decide_eq_false_iff_not] at g150
        have f150 := h150; try simp only [decide_eq_true_eq, decide_eq_false_iff_not, Bool.and_eq_true, Bool.or_eq_true, Bool.not_eq_true', Bool.not_eq_false', Bool.and_eq_false_iff, Bool.or_eq_false_iff, not_or, Int.not_lt, Int.not_le] at f150
        refine wc_skip ?_
        exact wk_then (wk_mid (by first | (simp only [h142, h150, Bool.true_and, Bool.false_and, Bool.true_or, Bool.false_or, Bool.and_true, Bool.and_false, Bool.or_true, Bool.or_false, Bool.not_true, Bool.not_false, cond_true, cond_false, if_true, if_false, reduceIte, Bool.false_eq_true]; done) | (simp only [Bool.true_and, Bool.false_and, Bool.true_or, Bool.false_or, Bool.and_true, Bool.and_false, Bool.or_true, Bool.or_false, Bool.not_true, Bool.not_false, cond_true, cond_false, if_true, if_false, reduceIte, Bool.false_eq_true]; done) | simp [h142, h150]) ⟨rfl, rfl, rfl, rfl, rfl, trivial⟩ .slnil)
    · have g142 := h142; try simp only [decide_eq_true_eq, decide_eq_false_iff_not] at g142
      have f142 := h142; try simp only [decide_eq_true_eq, decide_eq_false_iff_not, Bool.and_eq_true, Bool.or_eq_true, Bool.not_eq_true', Bool.not_eq_false', Bool.and_eq_false_iff, Bool.or_eq_false_iff, not_or, Int.not_lt, Int.not_le] at f142
      refine wc_skip ?_
      exact wk_then (wk_mid (by first | (simp only [h142, Bool.true_and, Bool.false_and, Bool.true_or, Bool.false_or, Bool.and_true, Bool.and_false, Bool.or_true, Bool.or_false, Bool.not_true, Bool.not_false, cond_true, cond_false, if_true, if_false, reduceIte, Bool.false_eq_true]; done) | (simp only [Bool.true_and, Bool.false_and, Bool.true_or, Bool.false_or, Bool.and_true, Bool.and_false, Bool.or_true, Bool.or_false, Bool.not_true, Bool.not_false, cond_true, cond_false, if_true, if_false, reduceIte, Bool.false_eq_true]; done) | simp [h142]) ⟨rfl, rfl, rfl, rfl, rfl, trivial⟩ .slnil)
  have g150 := hm150; try simp only [decide_eq_true_eq, decide_eq_false_iff_not] at g150
  have f150 := hm150; try simp only [decide_eq_true_eq, decide_eq_false_iff_not, Bool.and_eq_true, Bool.or_eq_true, Bool.not_eq_true', Bool.not_eq_false', Bool.and_eq_false_iff, Bool.or_eq_false_iff, not_or, Int.not_lt, Int.not_le] at f150
  refine wc_seq ?_
  refine wc_region ?_
  refine wl_v (o_move rfl) rfl ?_
  refine w_call Tryd.call16 rfl (fun w hw => parseRef_c t (by first | omega | (simp; done) | (simp; omega) | (simp at *; omega) | (split <;> first | omega | (simp; omega))) w (hE.st0 hw)) rfl ?_
  have ft152 := prT_len (prOk t) t
  have ft153 := prF_len (prOk t) t
  have ft154 := prQ_len (prOk t) t
  refine wl_v (o_move rfl) rfl ?_
  refine wl_v (o_extract rfl rfl) rfl ?_
  refine wl_v (o_extract rfl rfl) rfl ?_
  refine wl_v (o_extract rfl rfl) rfl ?_
  refine wl_v (o_extract rfl rfl) rfl ?_
  refine wl_v (o_assign rfl) rfl ?_
  refine wl_v (o_assign rfl) rfl ?_
  refine wl_v (o_assign rfl) rfl ?_
  refine wl_v (o_assign rfl) rfl ?_
  refine wl_nil ?_
  refine wk_then (wc_of_wk ?_)
  refine wc_seq_mid [(2, .string (B (q))), (3, .int .i64 (m)), (8, .bool (false)), (10, .int .i64 ((if prOk t = true then (0 : Int) else 1)))] [] (φ := (!(decide (((if prOk t = true then (0 : Int) else 1)) = (0))) || (!(((!(decide ((refE (iff0 (prOk t) (prT t)) (iff0 (prOk t) (prF t)) (iff0 (prOk t) (prQ t))) = (0)))) || (!(decide (((refV (iff0 (prOk t) (prT t)) (iff0 (prOk t) (prF t)) (iff0 (prOk t) (prQ t)))) = (t)))))))) = true) ?_ (fun hm159 => ?_)
  · refine wc_seq ?_
    refine wc_region ?_
    refine wl_v (o_move rfl) rfl ?_
    refine wl_v (o_eq rfl rfl) rfl ?_
    refine wl_nil ?_
    refine wk_then (wc_of_wk ?_)
    refine wc_cond (b := decide (((if prOk t = true then (0 : Int) else 1)) = (0))) rfl (fun h155 => ?_) (fun h155 => ?_)
    · have g155 := h155; try simp only [decide_eq_true_eq, decide_eq_false_iff_not] at g155
      have f155 := h155; try simp only [decide_eq_true_eq, decide_eq_false_iff_not, Bool.and_eq_true, Bool.or_eq_true, Bool.not_eq_true', Bool.not_eq_false', Bool.and_eq_false_iff, Bool.or_eq_false_iff, not_or, Int.not_lt, Int.not_le] at f155
      refine wc_seq ?_
      refine wc_region ?_
      refine wl_v (o_move rfl) rfl ?_
      refine wl_v (o_move rfl) rfl ?_
      refine wl_v (o_move rfl) rfl ?_
      refine w_call Tryd.call15 rfl (fun w hw => ref_c (iff0 (prOk t) (prT t)) (iff0 (prOk t) (prF t)) (iff0 (prOk t) (prQ t)) (by first | omega | (simp; done) | (simp; omega) | (simp at *; omega) | (split <;> first | omega | (simp; omega))) (by first | omega | (simp; done) | (simp; omega) | (simp at *; omega) | (split <;> first | omega | (simp; omega))) (by first | omega | (simp; done) | (simp; omega) | (simp at *; omega) | (split <;> first | omega | (simp; omega))) w (hE.st0 hw)) rfl ?_
      have ft156 := refV_len (iff0 (prOk t) (prT t)) (iff0 (prOk t) (prF t)) (iff0 (prOk t) (prQ t))
      refine wl_v (o_move rfl) rfl ?_
      refine wl_v (o_extract rfl rfl) rfl ?_
      refine wl_v (o_extract rfl rfl) rfl ?_
      refine wl_v (o_assign rfl) rfl ?_
      refine wl_v (o_assign rfl) rfl ?_
      refine wl_nil ?_
      refine wk_then (wc_of_wk ?_)
      refine wc_seq_mid [(2, .string (B (q))), (3, .int .i64 (m)), (8, .bool (false)), (10, .int .i64 ((if prOk t = true then (0 : Int) else 1))), (79, .bool (((!(decide ((refE (iff0 (prOk t) (prT t)) (iff0 (prOk t) (prF t)) (iff0 (prOk t) (prQ t))) = (0)))) || (!(decide (((refV (iff0 (prOk t) (prT t)) (iff0 (prOk t) (prF t)) (iff0 (prOk t) (prQ t)))) = (t)))))))] [] (φ := True) ?_ (fun hm157 => ?_)
      · refine wc_region ?_
        refine wl_v (o_move rfl) rfl ?_
        refine wl_v (o_ne rfl rfl) rfl ?_
        refine wl_v (o_move rfl) rfl ?_
        refine bsplit (!(decide ((refE (iff0 (prOk t) (prT t)) (iff0 (prOk t) (prF t)) (iff0 (prOk t) (prQ t))) = (0)))) (fun h157 => ?_) (fun h157 => ?_)
        · have g157 := h157; try simp only [decide_eq_true_eq, decide_eq_false_iff_not] at g157
          have f157 := h157; try simp only [decide_eq_true_eq, decide_eq_false_iff_not, Bool.and_eq_true, Bool.or_eq_true, Bool.not_eq_true', Bool.not_eq_false', Bool.and_eq_false_iff, Bool.or_eq_false_iff, not_or, Int.not_lt, Int.not_le] at f157
          refine wl_off rfl rfl h157 rfl ?_
          refine wl_off rfl rfl h157 rfl ?_
          refine wl_off rfl rfl h157 rfl ?_
          refine wl_v (o_pick_t rfl h157 rfl) rfl ?_
          refine wl_nil ?_
          exact wk_then (wk_mid trivial ⟨rfl, rfl, rfl, rfl, fb (by first | (simp only [h155, h157, Bool.true_and, Bool.false_and, Bool.true_or, Bool.false_or, Bool.and_true, Bool.and_false, Bool.or_true, Bool.or_false, Bool.not_true, Bool.not_false, cond_true, cond_false, if_true, if_false, reduceIte, Bool.false_eq_true]; done) | (simp only [Bool.true_and, Bool.false_and, Bool.true_or, Bool.false_or, Bool.and_true, Bool.and_false, Bool.or_true, Bool.or_false, Bool.not_true, Bool.not_false, cond_true, cond_false, if_true, if_false, reduceIte, Bool.false_eq_true]; done) | simp [h155, h157]), trivial⟩ .slnil)
        · have g157 := h157; try simp only [decide_eq_true_eq, decide_eq_false_iff_not] at g157
          have f157 := h157; try simp only [decide_eq_true_eq, decide_eq_false_iff_not, Bool.and_eq_true, Bool.or_eq_true, Bool.not_eq_true', Bool.not_eq_false', Bool.and_eq_false_iff, Bool.or_eq_false_iff, not_or, Int.not_lt, Int.not_le] at f157
          refine wl_on rfl rfl h157 ?_
          refine wl_v (o_move rfl) rfl ?_
          refine wl_on rfl rfl h157 ?_
          refine wl_v (o_move rfl) rfl ?_
          refine wl_on rfl rfl h157 ?_
          refine wl_v (o_sne rfl rfl) rfl ?_
          refine wl_v (o_pick_f rfl h157 rfl) rfl ?_
          refine wl_nil ?_
          exact wk_then (wk_mid trivial ⟨rfl, rfl, rfl, rfl, fb (by first | (simp only [h155, h157, Bool.true_and, Bool.false_and, Bool.true_or, Bool.false_or, Bool.and_true, Bool.and_false, Bool.or_true, Bool.or_false, Bool.not_true, Bool.not_false, cond_true, cond_false, if_true, if_false, reduceIte, Bool.false_eq_true]; done) | (simp only [Bool.true_and, Bool.false_and, Bool.true_or, Bool.false_or, Bool.and_true, Bool.and_false, Bool.or_true, Bool.or_false, Bool.not_true, Bool.not_false, cond_true, cond_false, if_true, if_false, reduceIte, Bool.false_eq_true]; done) | simp [h155, h157]), trivial⟩ .slnil)
      refine wc_cond (b := ((!(decide ((refE (iff0 (prOk t) (prT t)) (iff0 (prOk t) (prF t)) (iff0 (prOk t) (prQ t))) = (0)))) || (!(decide (((refV (iff0 (prOk t) (prT t)) (iff0 (prOk t) (prF t)) (iff0 (prOk t) (prQ t)))) = (t)))))) rfl (fun h159 => ?_) (fun h159 => ?_)
      · have g159 := h159; try simp only [decide_eq_true_eq, decide_eq_false_iff_not] at g159
        have f159 := h159; try simp only [decide_eq_true_eq, decide_eq_false_iff_not, Bool.and_eq_true, Bool.or_eq_true, Bool.not_eq_true', Bool.not_eq_false', Bool.and_eq_false_iff, Bool.or_eq_false_iff, not_or, Int.not_lt, Int.not_le] at f159
        refine wc_seq ?_
        refine wc_region ?_
        refine wl_v (o_assign rfl) rfl ?_
        refine wl_nil ?_
        refine wk_then (wc_of_wk ?_)
        refine wc_ret ?_
        refine wk_then_ret ?_
        refine wk_ret (r_1 rfl rfl) ?_
        exfalso
        have e : prOk t = true := by revert f155; cases prOk t <;> simp
        have hd : refE (prT t) (prF t) (prQ t) = 0 ∧ refV (prT t) (prF t) (prQ t) = t := by simpa [prOk] using e
        simp [e, hd.1, hd.2, iff0] at f159
      · have g159 := h159; try simp only [decide_eq_true_eq, decide_eq_false_iff_not] at g159
        have f159 := h159; try simp only [decide_eq_true_eq, decide_eq_false_iff_not, Bool.and_eq_true, Bool.or_eq_true, Bool.not_eq_true', Bool.not_eq_false', Bool.and_eq_false_iff, Bool.or_eq_false_iff, not_or, Int.not_lt, Int.not_le] at f159
        refine wc_skip ?_
        exact wk_then (wk_mid (by first | (simp only [h155, h159, Bool.true_and, Bool.false_and, Bool.true_or, Bool.false_or, Bool.and_true, Bool.and_false, Bool.or_true, Bool.or_false, Bool.not_true, Bool.not_false, cond_true, cond_false, if_true, if_false, reduceIte, Bool.false_eq_true]; done) | (simp only [Bool.true_and, Bool.false_and, Bool.true_or, Bool.false_or, Bool.and_true, Bool.and_false, Bool.or_true, Bool.or_false, Bool.not_true, Bool.not_false, cond_true, cond_false, if_true, if_false, reduceIte, Bool.false_eq_true]; done) | simp [h155, h159]) ⟨rfl, rfl, rfl, rfl, trivial⟩ .slnil)
    · have g155 := h155; try simp only [decide_eq_true_eq, decide_eq_false_iff_not] at g155
      have f155 := h155; try simp only [decide_eq_true_eq, decide_eq_false_iff_not, Bool.and_eq_true, Bool.or_eq_true, Bool.not_eq_true', Bool.not_eq_false', Bool.and_eq_false_iff, Bool.or_eq_false_iff, not_or, Int.not_lt, Int.not_le] at f155
      refine wc_skip ?_
      exact wk_then (wk_mid (by first | (simp only [h155, Bool.true_and, Bool.false_and, Bool.true_or, Bool.false_or, Bool.and_true, Bool.and_false, Bool.or_true, Bool.or_false, Bool.not_true, Bool.not_false, cond_true, cond_false, if_true, if_false, reduceIte, Bool.false_eq_true]; done) | (simp only [Bool.true_and, Bool.false_and, Bool.true_or, Bool.false_or, Bool.and_true, Bool.and_false, Bool.or_true, Bool.or_false, Bool.not_true, Bool.not_false, cond_true, cond_false, if_true, if_false, reduceIte, Bool.false_eq_true]; done) | simp [h155]) ⟨rfl, rfl, rfl, rfl, trivial⟩ .slnil)
  have g159 := hm159; try simp only [decide_eq_true_eq, decide_eq_false_iff_not] at g159
  have f159 := hm159; try simp only [decide_eq_true_eq, decide_eq_false_iff_not, Bool.and_eq_true, Bool.or_eq_true, Bool.not_eq_true', Bool.not_eq_false', Bool.and_eq_false_iff, Bool.or_eq_false_iff, not_or, Int.not_lt, Int.not_le] at f159
  refine wc_seq ?_
  refine wc_region ?_
  refine wl_v (o_move rfl) rfl ?_
  refine wl_v (o_move rfl) rfl ?_
  refine w_call Tryd.call17 rfl (fun w hw => child_c q m (by first | omega | (simp; done) | (simp; omega) | (simp at *; omega) | (split <;> first | omega | (simp; omega))) w (hE.st0 hw)) rfl ?_
  have ft161 := childV_len q m
  refine wl_v (o_move rfl) rfl ?_
  refine wl_v (o_extract rfl rfl) rfl ?_
  refine wl_v (o_extract rfl rfl) rfl ?_
  refine wl_v (o_assign rfl) rfl ?_
  refine wl_v (o_assign rfl) rfl ?_
  refine wl_nil ?_
  refine wk_then (wc_of_wk ?_)
  refine wc_seq_mid [(8, .bool (false))] [] (φ := (!(decide ((childE q m) = (0))) || (!(((!(parOk (childV q m))) || ((!(decide (((iff0 (parOk (childV q m)) (parP (childV q m)))) = (q)))) || ((!(decide (((if parOk (childV q m) = true then parseV (parN (childV q m)) else (0 : Int))) = (m)))) || (!(idS (childV q m))))))))) = true) ?_ (fun hm168 => ?_)
  · refine wc_seq ?_
    refine wc_region ?_
    refine wl_v (o_move rfl) rfl ?_
    refine wl_v (o_eq rfl rfl) rfl ?_
    refine wl_nil ?_
    refine wk_then (wc_of_wk ?_)
    refine wc_cond (b := decide ((childE q m) = (0))) rfl (fun h162 => ?_) (fun h162 => ?_)
    · have g162 := h162; try simp only [decide_eq_true_eq, decide_eq_false_iff_not] at g162
      have f162 := h162; try simp only [decide_eq_true_eq, decide_eq_false_iff_not, Bool.and_eq_true, Bool.or_eq_true, Bool.not_eq_true', Bool.not_eq_false', Bool.and_eq_false_iff, Bool.or_eq_false_iff, not_or, Int.not_lt, Int.not_le] at f162
      refine wc_seq ?_
      refine wc_region ?_
      refine wl_v (o_move rfl) rfl ?_
      refine w_call Tryd.call18 rfl (fun w hw => parent_c (childV q m) (by first | omega | (simp; done) | (simp; omega) | (simp at *; omega) | (split <;> first | omega | (simp; omega))) w (hE.st0 hw)) rfl ?_
      have ft163 := parP_len (parOk (childV q m)) (childV q m)
      refine wl_v (o_move rfl) rfl ?_
      refine wl_v (o_extract rfl rfl) rfl ?_
      refine wl_v (o_extract rfl rfl) rfl ?_
      refine wl_v (o_extract rfl rfl) rfl ?_
      refine wl_v (o_assign rfl) rfl ?_
      refine wl_v (o_assign rfl) rfl ?_
      refine wl_v (o_assign rfl) rfl ?_
      refine wl_nil ?_
      refine wk_then (wc_of_wk ?_)
      refine wc_seq_mid [(8, .bool (false)), (110, .bool (((!(parOk (childV q m))) || ((!(decide (((iff0 (parOk (childV q m)) (parP (childV q m)))) = (q)))) || ((!(decide (((if parOk (childV q m) = true then parseV (parN (childV q m)) else (0 : Int))) = (m)))) || (!(idS (childV q m))))))))] [] (φ := True) ?_ (fun hm166 => ?_)
      · refine wc_region ?_
        refine wl_v (o_move rfl) rfl ?_
        refine wl_v (o_not rfl) rfl ?_
        refine wl_v (o_move rfl) rfl ?_
        refine bsplit (!(parOk (childV q m))) (fun h164 => ?_) (fun h164 => ?_)
        · have g164 := h164; try simp only [decide_eq_true_eq, decide_eq_false_iff_not] at g164
          have f164 := h164; try simp only [decide_eq_true_eq, decide_eq_false_iff_not, Bool.and_eq_true, Bool.or_eq_true, Bool.not_eq_true', Bool.not_eq_false', Bool.and_eq_false_iff, Bool.or_eq_false_iff, not_or, Int.not_lt, Int.not_le] at f164
          refine wl_off rfl rfl h164 rfl ?_
          refine wl_off rfl rfl h164 rfl ?_
          refine wl_off rfl rfl h164 rfl ?_
          refine wl_v (o_pick_t rfl h164 rfl) rfl ?_
          refine wl_v (o_move rfl) rfl ?_
          refine wl_off rfl rfl rfl rfl ?_
          refine wl_off rfl rfl rfl rfl ?_
          refine wl_off rfl rfl rfl rfl ?_
          refine wl_v (o_pick_t rfl rfl rfl) rfl ?_
          refine wl_v (o_move rfl) rfl ?_
          refine wl_off rfl rfl rfl rfl ?_
          refine wl_off rfl rfl rfl rfl ?_
          refine wl_off rfl rfl rfl rfl ?_
          refine wl_v (o_pick_t rfl rfl rfl) rfl ?_
          refine wl_nil ?_
          exact wk_then (wk_mid trivial ⟨rfl, fb (by first | (simp only [h162, h164, Bool.true_and, Bool.false_and, Bool.true_or, Bool.false_or, Bool.and_true, Bool.and_false, Bool.or_true, Bool.or_false, Bool.not_true, Bool.not_false, cond_true, cond_false, if_true, if_false, reduceIte, Bool.false_eq_true]; done) | (simp only [Bool.true_and, Bool.false_and, Bool.true_or, Bool.false_or, Bool.and_true, Bool.and_false, Bool.or_true, Bool.or_false, Bool.not_true, Bool.not_false, cond_true, cond_false, if_true, if_false, reduceIte, Bool.false_eq_true]; done) | simp [h162, h164]), trivial⟩ .slnil)
        · have g164 := h164; try simp only [decide_eq_true_eq, decide_eq_false_iff_not] at g164
          have f164 := h164; try simp only [decide_eq_true_eq, decide_eq_false_iff_not, Bool.and_eq_true, Bool.or_eq_true, Bool.not_eq_true', Bool.not_eq_false', Bool.and_eq_false_iff, Bool.or_eq_false_iff, not_or, Int.not_lt, Int.not_le] at f164
          refine wl_on rfl rfl h164 ?_
          refine wl_v (o_move rfl) rfl ?_
          refine wl_on rfl rfl h164 ?_
          refine wl_v (o_move rfl) rfl ?_
          refine wl_on rfl rfl h164 ?_
          refine wl_v (o_sne rfl rfl) rfl ?_
          refine wl_v (o_pick_f rfl h164 rfl) rfl ?_
          refine wl_v (o_move rfl) rfl ?_
          refine bsplit (!(decide (((iff0 (parOk (childV q m)) (parP (childV q m)))) = (q)))) (fun h165 => ?_) (fun h165 => ?_)
          · have g165 := h165; try simp only [decide_eq_true_eq, decide_eq_false_iff_not] at g165
            have f165 := h165; try simp only [decide_eq_true_eq, decide_eq_false_iff_not, Bool.and_eq_true, Bool.or_eq_true, Bool.not_eq_true', Bool.not_eq_false', Bool.and_eq_false_iff, Bool.or_eq_false_iff, not_or, Int.not_lt, Int.not_le] at f165
            refine wl_off rfl rfl h165 rfl ?_
            refine wl_off rfl rfl h165 rfl ?_
            refine wl_off rfl rfl h165 rfl ?_
            refine wl_v (o_pick_t rfl h165 rfl) rfl ?_
            refine wl_v (o_move rfl) rfl ?_
            refine wl_off rfl rfl rfl rfl ?_
            refine wl_off rfl rfl rfl rfl ?_
            refine wl_off rfl rfl rfl rfl ?_
            refine wl_v (o_pick_t rfl rfl rfl) rfl ?_
            refine wl_nil ?_
            exact wk_then (wk_mid trivial ⟨rfl, fb (by first | (simp only [h162, h164, h165, Bool.true_and, Bool.false_and, Bool.true_or, Bool.false_or, Bool.and_true, Bool.and_false, Bool.or_true, Bool.or_false, Bool.not_true, Bool.not_false, cond_true, cond_false, if_true, if_false, reduceIte, Bool.false_eq_true]; done) | (simp only [Bool.true_and, Bool.false_and, Bool.true_or, Bool.false_or, Bool.and_true, Bool.and_false, Bool.or_true, Bool.or_false, Bool.not_true, Bool.not_false, cond_true, cond_false, if_true, if_false, reduceIte, Bool.false_eq_true]; done) | simp [h162, h164, h165]), trivial⟩ .slnil)
          · have g165 := h165; try simp only [decide_eq_true_eq, decide_eq_false_iff_not] at g165
            have f165 := h165; try simp only [decide_eq_true_eq, decide_eq_false_iff_not, Bool.and_eq_true, Bool.or_eq_true, Bool.not_eq_true', Bool.not_eq_false', Bool.and_eq_false_iff, Bool.or_eq_false_iff, not_or, Int.not_lt, Int.not_le] at f165
            refine wl_on rfl rfl h165 ?_
            refine wl_v (o_move rfl) rfl ?_
            refine wl_on rfl rfl h165 ?_
            refine wl_v (o_move rfl) rfl ?_
            refine wl_on rfl rfl h165 ?_
            refine wl_v (o_ne rfl rfl) rfl ?_
            refine wl_v (o_pick_f rfl h165 rfl) rfl ?_
            refine wl_v (o_move rfl) rfl ?_
            refine bsplit (!(decide (((if parOk (childV q m) = true then parseV (parN (childV q m)) else (0 : Int))) = (m)))) (fun h166 => ?_) (fun h166 => ?_)
            · have g166 := h166; try simp only [decide_eq_true_eq, decide_eq_false_iff_not] at g166
              have f166 := h166; try simp only [decide_eq_true_eq, decide_eq_false_iff_not, Bool.and_eq_true, Bool.or_eq_true, Bool.not_eq_true', Bool.not_eq_false', Bool.and_eq_false_iff, Bool.or_eq_false_iff, not_or, Int.not_lt, Int.not_le] at f166
              refine wl_off rfl rfl h166 rfl ?_
              refine wl_off rfl rfl h166 rfl ?_
              refine wl_off rfl rfl h166 rfl ?_
              refine wl_v (o_pick_t rfl h166 rfl) rfl ?_
              refine wl_nil ?_
              exact wk_then (wk_mid trivial ⟨rfl, fb (by first | (simp only [h162, h164, h165, h166, Bool.true_and, Bool.false_and, Bool.true_or, Bool.false_or, Bool.and_true, Bool.and_false, Bool.or_true, Bool.or_false, Bool.not_true, Bool.not_false, cond_true, cond_false, if_true, if_false, reduceIte, Bool.false_eq_true]; done) | (simp only [Bool.true_and, Bool.false_and, Bool.true_or, Bool.false_or, Bool.and_true, Bool.and_false, Bool.or_true, Bool.or_false, Bool.not_true, Bool.not_false, cond_true, cond_false, if_true, if_false, reduceIte, Bool.false_eq_true]; done) | simp [h162, h164, h165, h166]), trivial⟩ .slnil)
            · have g166 := h166; try simp only [decide_eq_true_eq, decide_eq_false_iff_not] at g166
              have f166 := h166; try simp only [decide_eq_true_eq, decide_eq_false_iff_not, Bool.and_eq_true, Bool.or_eq_true, Bool.not_eq_true', Bool.not_eq_false', Bool.and_eq_false_iff, Bool.or_eq_false_iff, not_or, Int.not_lt, Int.not_le] at f166
              refine wl_on rfl rfl h166 ?_
              refine wl_v (o_move rfl) rfl ?_
              refine wl_on rfl rfl h166 ?_
              refine w_call Tryd.call19 rfl (fun w hw => id_c (childV q m) w) rfl ?_
              refine wl_on rfl rfl h166 ?_
              refine wl_v (o_not rfl) rfl ?_
              refine wl_v (o_pick_f rfl h166 rfl) rfl ?_
              refine wl_nil ?_
              exact wk_then (wk_mid trivial ⟨rfl, fb (by first | (simp only [h162, h164, h165, h166, Bool.true_and, Bool.false_and, Bool.true_or, Bool.false_or, Bool.and_true, Bool.and_false, Bool.or_true, Bool.or_false, Bool.not_true, Bool.not_false, cond_true, cond_false, if_true, if_false, reduceIte, Bool.false_eq_true]; done) | (simp only [Bool.true_and, Bool.false_and, Bool.true_or, Bool.false_or, Bool.and_true, Bool.and_false, Bool.or_true, Bool.or_false, Bool.not_true, Bool.not_false, cond_true, cond_false, if_true, if_false, reduceIte, Bool.false_eq_true]; done) | simp [h162, h164, h165, h166]), trivial⟩ .slnil)
      refine wc_cond (b := ((!(parOk (childV q m))) || ((!(decide (((iff0 (parOk (childV q m)) (parP (childV q m)))) = (q)))) || ((!(decide (((if parOk (childV q m) = true then parseV (parN (childV q m)) else (0 : Int))) = (m)))) || (!(idS (childV q m))))))) rfl (fun h168 => ?_) (fun h168 => ?_)
      · have g168 := h168; try simp only [decide_eq_true_eq, decide_eq_false_iff_not] at g168
        have f168 := h168; try simp only [decide_eq_true_eq, decide_eq_false_iff_not, Bool.and_eq_true, Bool.or_eq_true, Bool.not_eq_true', Bool.not_eq_false', Bool.and_eq_false_iff, Bool.or_eq_false_iff, not_or, Int.not_lt, Int.not_le] at f168
        refine wc_seq ?_
        refine wc_region ?_
        refine wl_v (o_assign rfl) rfl ?_
        refine wl_nil ?_
        refine wk_then (wc_of_wk ?_)
        refine wc_ret ?_
        refine wk_then_ret ?_
        refine wk_ret (r_1 rfl rfl) ?_
        exfalso
        obtain ⟨e1, e2, e3, e4⟩ := back_child f162
        simp [e1, e2, e3, e4, iff0] at f168
      · have g168 := h168; try simp only [decide_eq_true_eq, decide_eq_false_iff_not] at g168
        have f168 := h168; try simp only [decide_eq_true_eq, decide_eq_false_iff_not, Bool.and_eq_true, Bool.or_eq_true, Bool.not_eq_true', Bool.not_eq_false', Bool.and_eq_false_iff, Bool.or_eq_false_iff, not_or, Int.not_lt, Int.not_le] at f168
        refine wc_skip ?_
        exact wk_then (wk_mid (by first | (simp only [h162, h168, Bool.true_and, Bool.false_and, Bool.true_or, Bool.false_or, Bool.and_true, Bool.and_false, Bool.or_true, Bool.or_false, Bool.not_true, Bool.not_false, cond_true, cond_false, if_true, if_false, reduceIte, Bool.false_eq_true]; done) | (simp only [Bool.true_and, Bool.false_and, Bool.true_or, Bool.false_or, Bool.and_true, Bool.and_false, Bool.or_true, Bool.or_false, Bool.not_true, Bool.not_false, cond_true, cond_false, if_true, if_false, reduceIte, Bool.false_eq_true]; done) | simp [h162, h168]) ⟨rfl, trivial⟩ .slnil)
    · have g162 := h162; try simp only [decide_eq_true_eq, decide_eq_false_iff_not] at g162
      have f162 := h162; try simp only [decide_eq_true_eq, decide_eq_false_iff_not, Bool.and_eq_true, Bool.or_eq_true, Bool.not_eq_true', Bool.not_eq_false', Bool.and_eq_false_iff, Bool.or_eq_false_iff, not_or, Int.not_lt, Int.not_le] at f162
      refine wc_skip ?_
      exact wk_then (wk_mid (by first | (simp only [h162, Bool.true_and, Bool.false_and, Bool.true_or, Bool.false_or, Bool.and_true, Bool.and_false, Bool.or_true, Bool.or_false, Bool.not_true, Bool.not_false, cond_true, cond_false, if_true, if_false, reduceIte, Bool.false_eq_true]; done) | (simp only [Bool.true_and, Bool.false_and, Bool.true_or, Bool.false_or, Bool.and_true, Bool.and_false, Bool.or_true, Bool.or_false, Bool.not_true, Bool.not_false, cond_true, cond_false, if_true, if_false, reduceIte, Bool.false_eq_true]; done) | simp [h162]) ⟨rfl, trivial⟩ .slnil)
  have g168 := hm168; try simp only [decide_eq_true_eq, decide_eq_false_iff_not] at g168
  have f168 := hm168; try simp only [decide_eq_true_eq, decide_eq_false_iff_not, Bool.and_eq_true, Bool.or_eq_true, Bool.not_eq_true', Bool.not_eq_false', Bool.and_eq_false_iff, Bool.or_eq_false_iff, not_or, Int.not_lt, Int.not_le] at f168
  refine wc_seq ?_
  refine wc_region ?_
  refine w_call Tryd.call6 rfl (fun w hw => awake_c w (hE.st0 hw)) rfl ?_
  refine wl_v (o_assign rfl) rfl ?_
  refine wl_nil ?_
  refine wk_then (wc_of_wk ?_)
  refine wc_ret ?_
  refine wk_ret (r_1 rfl rfl) ?_
  exact retv rfl

theorem identCovers_c (p : List UInt8) (q : List UInt8) (r : List UInt8) (s : List UInt8) (hp : p.length ≤ 140737488355328) (hq : q.length ≤ 140737488355328) (hr : r.length ≤ 140737488355328) (hs : s.length ≤ 140737488355328) (w : World) (hE : Env w) : Calls Tryd.prog 4 [.string (B (p)), .string (B (q)), .string (B (r)), .string (B (s))].toArray w (RetV w (.bool true)) := by
  refine enter0 (n := 93) Tryd.func4 rfl Tryd.ntmps4 rfl ?_
  refine wc_seq ?_
  refine wc_region ?_
  refine wl_v (o_assign rfl) rfl ?_
  refine wl_nil ?_
  refine wk_then (wc_of_wk ?_)
  refine wc_seq ?_
  refine wc_seq ?_
  refine wc_region ?_
  refine wl_v (o_move rfl) rfl ?_
  refine w_call Tryd.call12 rfl (fun w hw => pattern_c p (by first | omega | (simp; done) | (simp; omega) | (simp at *; omega) | (split <;> first | omega | (simp; omega))) w) rfl ?_
  refine wl_v (o_move rfl) rfl ?_
  refine wl_v (o_move rfl) rfl ?_
  refine w_call Tryd.call13 rfl (fun w hw => covers_c p p (by first | omega | (simp; done) | (simp; omega) | (simp at *; omega) | (split <;> first | omega | (simp; omega))) (by first | omega | (simp; done) | (simp; omega) | (simp at *; omega) | (split <;> first | omega | (simp; omega))) w) rfl ?_
  refine wl_v (o_bne Tryd.underlying4 rfl rfl) rfl ?_
  refine wl_nil ?_
  refine wk_then (wc_of_wk ?_)
  refine wc_cond (b := !((patS p) == (covS p p))) rfl (fun h170 => ?_) (fun h170 => ?_)
  · have g170 := h170; try simp only [decide_eq_true_eq, decide_eq_false_iff_not] at g170
    have f170 := h170; try simp only [decide_eq_true_eq, decide_eq_false_iff_not, Bool.and_eq_true, Bool.or_eq_true, Bool.not_eq_true', Bool.not_eq_false', Bool.and_eq_false_iff, Bool.or_eq_false_iff, not_or, Int.not_lt, Int.not_le] at f170
    refine wc_seq ?_
    refine wc_region ?_
    refine wl_v (o_assign rfl) rfl ?_
    refine wl_nil ?_
    refine wk_then (wc_of_wk ?_)
    refine wc_ret ?_
    refine wk_then_ret ?_
    refine wk_ret (r_1 rfl rfl) ?_
    exfalso
    simp [cov_refl] at f170
  · have g170 := h170; try simp only [decide_eq_true_eq, decide_eq_false_iff_not] at g170
    have f170 := h170; try simp only [decide_eq_true_eq, decide_eq_false_iff_not, Bool.and_eq_true, Bool.or_eq_true, Bool.not_eq_true', Bool.not_eq_false', Bool.and_eq_false_iff, Bool.or_eq_false_iff, not_or, Int.not_lt, Int.not_le] at f170
    refine wc_skip ?_
    refine wk_then (wc_of_wk ?_)
    refine wc_seq ?_
    refine wc_seq_mid [(0, .string (B (p))), (1, .string (B (q))), (3, .string (B (s))), (8, .bool (false)), (30, .bool (((covS p q) && ((covS q r) && (!(covS p r))))))] [] (φ := True) ?_ (fun hm172 => ?_)
    · refine wc_region ?_
      refine wl_v (o_move rfl) rfl ?_
      refine wl_v (o_move rfl) rfl ?_
      refine w_call Tryd.call13 rfl (fun w hw => covers_c p q (by first | omega | (simp; done) | (simp; omega) | (simp at *; omega) | (split <;> first | omega | (simp; omega))) (by first | omega | (simp; done) | (simp; omega) | (simp at *; omega) | (split <;> first | omega | (simp; omega))) w) rfl ?_
      refine wl_v (o_move rfl) rfl ?_
      refine bsplit (covS p q) (fun h171 => ?_) (fun h171 => ?_)
      · have g171 := h171; try simp only [decide_eq_true_eq, decide_eq_false_iff_not] at g171
        have f171 := h171; try simp only [decide_eq_true_eq, decide_eq_false_iff_not, Bool.and_eq_true, Bool.or_eq_true, Bool.not_eq_true', Bool.not_eq_false', Bool.and_eq_false_iff, Bool.or_eq_false_iff, not_or, Int.not_lt, Int.not_le] at f171
        refine wl_on rfl rfl h171 ?_
        refine wl_v (o_move rfl) rfl ?_
        refine wl_on rfl rfl h171 ?_
        refine wl_v (o_move rfl) rfl ?_
        refine wl_on rfl rfl h171 ?_
        refine w_call Tryd.call13 rfl (fun w hw => covers_c q r (by first | omega | (simp; done) | (simp; omega) | (simp at *; omega) | (split <;> first | omega | (simp; omega))) (by first | omega | (simp; done) | (simp; omega) | (simp at *; omega) | (split <;> first | omega | (simp; omega))) w) rfl ?_
        refine wl_v (o_pick_t rfl h171 rfl) rfl ?_
        refine wl_v (o_move rfl) rfl ?_
        refine bsplit (covS q r) (fun h172 => ?_) (fun h172 => ?_)
        · have g172 := h172; try simp only [decide_eq_true_eq, decide_eq_false_iff_not] at g172
          have f172 := h172; try simp only [decide_eq_true_eq, decide_eq_false_iff_not, Bool.and_eq_true, Bool.or_eq_true, Bool.not_eq_true', Bool.not_eq_false', Bool.and_eq_false_iff, Bool.or_eq_false_iff, not_or, Int.not_lt, Int.not_le] at f172
          refine wl_on rfl rfl h172 ?_
          refine wl_v (o_move rfl) rfl ?_
          refine wl_on rfl rfl h172 ?_
          refine wl_v (o_move rfl) rfl ?_
          refine wl_on rfl rfl h172 ?_
          refine w_call Tryd.call13 rfl (fun w hw => covers_c p r (by first | omega | (simp; done) | (simp; omega) | (simp at *; omega) | (split <;> first | omega | (simp; omega))) (by first | omega | (simp; done) | (simp; omega) | (simp at *; omega) | (split <;> first | omega | (simp; omega))) w) rfl ?_
          refine wl_on rfl rfl h172 ?_
          refine wl_v (o_not rfl) rfl ?_
          refine wl_v (o_pick_t rfl h172 rfl) rfl ?_
          refine wl_nil ?_
          exact wk_then (wk_mid trivial ⟨rfl, rfl, rfl, rfl, fb (by first | (simp only [h170, h171, h172, Bool.true_and, Bool.false_and, Bool.true_or, Bool.false_or, Bool.and_true, Bool.and_false, Bool.or_true, Bool.or_false, Bool.not_true, Bool.not_false, cond_true, cond_false, if_true, if_false, reduceIte, Bool.false_eq_true]; done) | (simp only [Bool.true_and, Bool.false_and, Bool.true_or, Bool.false_or, Bool.and_true, Bool.and_false, Bool.or_true, Bool.or_false, Bool.not_true, Bool.not_false, cond_true, cond_false, if_true, if_false, reduceIte, Bool.false_eq_true]; done) | simp [h170, h171, h172]), trivial⟩ .slnil)
        · have g172 := h172; try simp only [decide_eq_true_eq, decide_eq_false_iff_not] at g172
          have f172 := h172; try simp only [decide_eq_true_eq, decide_eq_false_iff_not, Bool.and_eq_true, Bool.or_eq_true, Bool.not_eq_true', Bool.not_eq_false', Bool.and_eq_false_iff, Bool.or_eq_false_iff, not_or, Int.not_lt, Int.not_le] at f172
          refine wl_off rfl rfl h172 rfl ?_
          refine wl_off rfl rfl h172 rfl ?_
          refine wl_off rfl rfl h172 rfl ?_
          refine wl_off rfl rfl h172 rfl ?_
          refine wl_v (o_pick_f rfl h172 rfl) rfl ?_
          refine wl_nil ?_
          exact wk_then (wk_mid trivial ⟨rfl, rfl, rfl, rfl, fb (by first | (simp only [h170, h171, h172, Bool.true_and, Bool.false_and, Bool.true_or, Bool.false_or, Bool.and_true, Bool.and_false, Bool.or_true, Bool.or_false, Bool.not_true, Bool.not_false, cond_true, cond_false, if_true, if_false, reduceIte, Bool.false_eq_true]; done) | (simp only [Bool.true_and, Bool.false_and, Bool.true_or, Bool.false_or, Bool.and_true, Bool.and_false, Bool.or_true, Bool.or_false, Bool.not_true, Bool.not_false, cond_true, cond_false, if_true, if_false, reduceIte, Bool.false_eq_true]; done) | simp [h170, h171, h172]), trivial⟩ .slnil)
      · have g171 := h171; try simp only [decide_eq_true_eq, decide_eq_false_iff_not] at g171
        have f171 := h171; try simp only [decide_eq_true_eq, decide_eq_false_iff_not, Bool.and_eq_true, Bool.or_eq_true, Bool.not_eq_true', Bool.not_eq_false', Bool.and_eq_false_iff, Bool.or_eq_false_iff, not_or, Int.not_lt, Int.not_le] at f171
        refine wl_off rfl rfl h171 rfl ?_
        refine wl_off rfl rfl h171 rfl ?_
        refine wl_off rfl rfl h171 rfl ?_
        refine wl_v (o_pick_f rfl h171 rfl) rfl ?_
        refine wl_v (o_move rfl) rfl ?_
        refine wl_off rfl rfl rfl rfl ?_
        refine wl_off rfl rfl rfl rfl ?_
        refine wl_off rfl rfl rfl rfl ?_
        refine wl_off rfl rfl rfl rfl ?_
        refine wl_v (o_pick_f rfl rfl rfl) rfl ?_
        refine wl_nil ?_
        exact wk_then (wk_mid trivial ⟨rfl, rfl, rfl, rfl, fb (by first | (simp only [h170, h171, Bool.true_and, Bool.false_and, Bool.true_or, Bool.false_or, Bool.and_true, Bool.and_false, Bool.or_true, Bool.or_false, Bool.not_true, Bool.not_false, cond_true, cond_false, if_true, if_false, reduceIte, Bool.false_eq_true]; done) | (simp only [Bool.true_and, Bool.false_and, Bool.true_or, Bool.false_or, Bool.and_true, Bool.and_false, Bool.or_true, Bool.or_false, Bool.not_true, Bool.not_false, cond_true, cond_false, if_true, if_false, reduceIte, Bool.false_eq_true]; done) | simp [h170, h171]), trivial⟩ .slnil)
    refine wc_cond (b := ((covS p q) && ((covS q r) && (!(covS p r))))) rfl (fun h174 => ?_) (fun h174 => ?_)
    · have g174 := h174; try simp only [decide_eq_true_eq, decide_eq_false_iff_not] at g174
      have f174 := h174; try simp only [decide_eq_true_eq, decide_eq_false_iff_not, Bool.and_eq_true, Bool.or_eq_true, Bool.not_eq_true', Bool.not_eq_false', Bool.and_eq_false_iff, Bool.or_eq_false_iff, not_or, Int.not_lt, Int.not_le] at f174
      refine wc_seq ?_
      refine wc_region ?_
      refine wl_v (o_assign rfl) rfl ?_
      refine wl_nil ?_
      refine wk_then (wc_of_wk ?_)
      refine wc_ret ?_
      refine wk_then_ret ?_
      refine wk_ret (r_1 rfl rfl) ?_
      exfalso
      have := cov_trans f174.1 f174.2.1
      simp [this] at f174
    · have g174 := h174; try simp only [decide_eq_true_eq, decide_eq_false_iff_not] at g174
      have f174 := h174; try simp only [decide_eq_true_eq, decide_eq_false_iff_not, Bool.and_eq_true, Bool.or_eq_true, Bool.not_eq_true', Bool.not_eq_false', Bool.and_eq_false_iff, Bool.or_eq_false_iff, not_or, Int.not_lt, Int.not_le] at f174
      refine wc_skip ?_
      refine wk_then (wc_of_wk ?_)
      refine wc_seq ?_
      refine wc_seq_mid [(0, .string (B (p))), (1, .string (B (q))), (8, .bool (false)), (44, .bool (((covS p q) && ((matS q s) && (!(matS p s))))))] [] (φ := True) ?_ (fun hm176 => ?_)
      · refine wc_region ?_
        refine wl_v (o_move rfl) rfl ?_
        refine wl_v (o_move rfl) rfl ?_
        refine w_call Tryd.call13 rfl (fun w hw => covers_c p q (by first | omega | (simp; done) | (simp; omega) | (simp at *; omega) | (split <;> first | omega | (simp; omega))) (by first | omega | (simp; done) | (simp; omega) | (simp at *; omega) | (split <;> first | omega | (simp; omega))) w) rfl ?_
        refine wl_v (o_move rfl) rfl ?_
        refine bsplit (covS p q) (fun h175 => ?_) (fun h175 => ?_)
        · have g175 := h175; try simp only [decide_eq_true_eq, decide_eq_false_iff_not] at g175
          have f175 := h175; try simp only [decide_eq_true_eq, decide_eq_false_iff_not, Bool.and_eq_true, Bool.or_eq_true, Bool.not_eq_true', Bool.not_eq_false', Bool.and_eq_false_iff, Bool.or_eq_false_iff, not_or, Int.not_lt, Int.not_le] at f175
          refine wl_on rfl rfl h175 ?_
          refine wl_v (o_move rfl) rfl ?_
          refine wl_on rfl rfl h175 ?_
          refine wl_v (o_move rfl) rfl ?_
          refine wl_on rfl rfl h175 ?_
          refine w_call Tryd.call14 rfl (fun w hw => matches_c q s (by first | omega | (simp; done) | (simp; omega) | (simp at *; omega) | (split <;> first | omega | (simp; omega))) (by first | omega | (simp; done) | (simp; omega) | (simp at *; omega) | (split <;> first | omega | (simp; omega))) w) rfl ?_
          refine wl_v (o_pick_t rfl h175 rfl) rfl ?_
          refine wl_v (o_move rfl) rfl ?_
          refine bsplit (matS q s) (fun h176 => ?_) (fun h176 => ?_)
          · have g176 := h176; try simp only [decide_eq_true_eq, decide_eq_false_iff_not] at g176
            have f176 := h176; try simp only [decide_eq_true_eq, decide_eq_false_iff_not, Bool.and_eq_true, Bool.or_eq_true, Bool.not_eq_true', Bool.not_eq_false', Bool.and_eq_false_iff, Bool.or_eq_false_iff, not_or, Int.not_lt, Int.not_le] at f176
            refine wl_on rfl rfl h176 ?_
            refine wl_v (o_move rfl) rfl ?_
            refine wl_on rfl rfl h176 ?_
            refine wl_v (o_move rfl) rfl ?_
            refine wl_on rfl rfl h176 ?_
            refine w_call Tryd.call14 rfl (fun w hw => matches_c p s (by first | omega | (simp; done) | (simp; omega) | (simp at *; omega) | (split <;> first | omega | (simp; omega))) (by first | omega | (simp; done) | (simp; omega) | (simp at *; omega) | (split <;> first | omega | (simp; omega))) w) rfl ?_
            refine wl_on rfl rfl h176 ?_
            refine wl_v (o_not rfl) rfl ?_
            refine wl_v (o_pick_t rfl h176 rfl) rfl ?_
            refine wl_nil ?_
            exact wk_then (wk_mid trivial ⟨rfl, rfl, rfl, fb (by first | (simp only [h170, h174, h175, h176, Bool.true_and, Bool.false_and, Bool.true_or, Bool.false_or, Bool.and_true, Bool.and_false, Bool.or_true, Bool.or_false, Bool.not_true, Bool.not_false, cond_true, cond_false, if_true, if_false, reduceIte, Bool.false_eq_true]; done) | (simp only [Bool.true_and, Bool.false_and, Bool.true_or, Bool.false_or, Bool.and_true, Bool.and_false, Bool.or_true, Bool.or_false, Bool.not_true, Bool.not_false, cond_true, cond_false, if_true, if_false, reduceIte, Bool.false_eq_true]; done) | simp [h170, h174, h175, h176]), trivial⟩ .slnil)
          · have g176 := h176; try simp only [decide_eq_true_eq, decide_eq_false_iff_not] at g176
            have f176 := h176; try simp only [decide_eq_true_eq, decide_eq_false_iff_not, Bool.and_eq_true, Bool.or_eq_true, Bool.not_eq_true', Bool.not_eq_false', Bool.and_eq_false_iff, Bool.or_eq_false_iff, not_or, Int.not_lt, Int.not_le] at f176
            refine wl_off rfl rfl h176 rfl ?_
            refine wl_off rfl rfl h176 rfl ?_
            refine wl_off rfl rfl h176 rfl ?_
            refine wl_off rfl rfl h176 rfl ?_
            refine wl_v (o_pick_f rfl h176 rfl) rfl ?_
            refine wl_nil ?_
            exact wk_then (wk_mid trivial ⟨rfl, rfl, rfl, fb (by first | (simp only [h170, h174, h175, h176, Bool.true_and, Bool.false_and, Bool.true_or, Bool.false_or, Bool.and_true, Bool.and_false, Bool.or_true, Bool.or_false, Bool.not_true, Bool.not_false, cond_true, cond_false, if_true, if_false, reduceIte, Bool.false_eq_true]; done) | (simp only [Bool.true_and, Bool.false_and, Bool.true_or, Bool.false_or, Bool.and_true, Bool.and_false, Bool.or_true, Bool.or_false, Bool.not_true, Bool.not_false, cond_true, cond_false, if_true, if_false, reduceIte, Bool.false_eq_true]; done) | simp [h170, h174, h175, h176]), trivial⟩ .slnil)
        · have g175 := h175; try simp only [decide_eq_true_eq, decide_eq_false_iff_not] at g175
          have f175 := h175; try simp only [decide_eq_true_eq, decide_eq_false_iff_not, Bool.and_eq_true, Bool.or_eq_true, Bool.not_eq_true', Bool.not_eq_false', Bool.and_eq_false_iff, Bool.or_eq_false_iff, not_or, Int.not_lt, Int.not_le] at f175
          refine wl_off rfl rfl h175 rfl ?_
          refine wl_off rfl rfl h175 rfl ?_
          refine wl_off rfl rfl h175 rfl ?_
          refine wl_v (o_pick_f rfl h175 rfl) rfl ?_
          refine wl_v (o_move rfl) rfl ?_
          refine wl_off rfl rfl rfl rfl ?_
          refine wl_off rfl rfl rfl rfl ?_
          refine wl_off rfl rfl rfl rfl ?_
          refine wl_off rfl rfl rfl rfl ?_
          refine wl_v (o_pick_f rfl rfl rfl) rfl ?_
          refine wl_nil ?_
          exact wk_then (wk_mid trivial ⟨rfl, rfl, rfl, fb (by first | (simp only [h170, h174, h175, Bool.true_and, Bool.false_and, Bool.true_or, Bool.false_or, Bool.and_true, Bool.and_false, Bool.or_true, Bool.or_false, Bool.not_true, Bool.not_false, cond_true, cond_false, if_true, if_false, reduceIte, Bool.false_eq_true]; done) | (simp only [Bool.true_and, Bool.false_and, Bool.true_or, Bool.false_or, Bool.and_true, Bool.and_false, Bool.or_true, Bool.or_false, Bool.not_true, Bool.not_false, cond_true, cond_false, if_true, if_false, reduceIte, Bool.false_eq_true]; done) | simp [h170, h174, h175]), trivial⟩ .slnil)
      refine wc_cond (b := ((covS p q) && ((matS q s) && (!(matS p s))))) rfl (fun h178 => ?_) (fun h178 => ?_)
      · have g178 := h178; try simp only [decide_eq_true_eq, decide_eq_false_iff_not] at g178
        have f178 := h178; try simp only [decide_eq_true_eq, decide_eq_false_iff_not, Bool.and_eq_true, Bool.or_eq_true, Bool.not_eq_true', Bool.not_eq_false', Bool.and_eq_false_iff, Bool.or_eq_false_iff, not_or, Int.not_lt, Int.not_le] at f178
        refine wc_seq ?_
        refine wc_region ?_
        refine wl_v (o_assign rfl) rfl ?_
        refine wl_nil ?_
        refine wk_then (wc_of_wk ?_)
        refine wc_ret ?_
        refine wk_then_ret ?_
        refine wk_ret (r_1 rfl rfl) ?_
        exfalso
        have := cov_reach f178.1 f178.2.1
        simp [this] at f178
      · have g178 := h178; try simp only [decide_eq_true_eq, decide_eq_false_iff_not] at g178
        have f178 := h178; try simp only [decide_eq_true_eq, decide_eq_false_iff_not, Bool.and_eq_true, Bool.or_eq_true, Bool.not_eq_true', Bool.not_eq_false', Bool.and_eq_false_iff, Bool.or_eq_false_iff, not_or, Int.not_lt, Int.not_le] at f178
        refine wc_skip ?_
        refine wk_then (wc_of_wk ?_)
        refine wc_seq_mid [(8, .bool (false))] [] (φ := (!((patS p) && ((patS q) && (!(covS p q)))) || (!(((!(matS q (if decide ((bat q ((q.length : Int) - 1)) = (42)) = true then List.take (Int.toNat ((q.length : Int) - 1)) q else q))) || ((!(matS q (if decide ((bat q ((q.length : Int) - 1)) = (42)) = true then (List.take (Int.toNat ((q.length : Int) - 1)) q) ++ [126] else q))) || ((matS p (if decide ((bat q ((q.length : Int) - 1)) = (42)) = true then List.take (Int.toNat ((q.length : Int) - 1)) q else q)) && (matS p (if decide ((bat q ((q.length : Int) - 1)) = (42)) = true then (List.take (Int.toNat ((q.length : Int) - 1)) q) ++ [126] else q)))))))) = true) ?_ (fun hm189 => ?_)
        · refine wc_seq_mid [(0, .string (B (p))), (1, .string (B (q))), (8, .bool (false)), (56, .bool (((patS p) && ((patS q) && (!(covS p q))))))] [] (φ := True) ?_ (fun hm180 => ?_)
          · refine wc_region ?_
            refine wl_v (o_move rfl) rfl ?_
            refine w_call Tryd.call12 rfl (fun w hw => pattern_c p (by first | omega | (simp; done) | (simp; omega) | (simp at *; omega) | (split <;> first | omega | (simp; omega))) w) rfl ?_
            refine wl_v (o_move rfl) rfl ?_
            refine bsplit (patS p) (fun h179 => ?_) (fun h179 => ?_)
            · have g179 := h179; try simp only [decide_eq_true_eq, decide_eq_false_iff_not] at g179
              have f179 := h179; try simp only [decide_eq_true_eq, decide_eq_false_iff_not, Bool.and_eq_true, Bool.or_eq_true, Bool.not_eq_true', Bool.not_eq_false', Bool.and_eq_false_iff, Bool.or_eq_false_iff, not_or, Int.not_lt, Int.not_le] at f179
              refine wl_on rfl rfl h179 ?_
              refine wl_v (o_move rfl) rfl ?_
              refine wl_on rfl rfl h179 ?_
              refine w_call Tryd.call12 rfl (fun w hw => pattern_c q (by first | omega | (simp; done) | (simp; omega) | (simp at *; omega) | (split <;> first | omega | (simp; omega))) w) rfl ?_
              refine wl_v (o_pick_t rfl h179 rfl) rfl ?_
              refine wl_v (o_move rfl) rfl ?_
              refine bsplit (patS q) (fun h180 => ?_) (fun h180 => ?_)
              · have g180 := h180; try simp only [decide_eq_true_eq, decide_eq_false_iff_not] at g180
                have f180 := h180; try simp only [decide_eq_true_eq, decide_eq_false_iff_not, Bool.and_eq_true, Bool.or_eq_true, Bool.not_eq_true', Bool.not_eq_false', Bool.and_eq_false_iff, Bool.or_eq_false_iff, not_or, Int.not_lt, Int.not_le] at f180
                refine wl_on rfl rfl h180 ?_
                refine wl_v (o_move rfl) rfl ?_
                refine wl_on rfl rfl h180 ?_
                refine wl_v (o_move rfl) rfl ?_
                refine wl_on rfl rfl h180 ?_
                refine w_call Tryd.call13 rfl (fun w hw => covers_c p q (by first | omega | (simp; done) | (simp; omega) | (simp at *; omega) | (split <;> first | omega | (simp; omega))) (by first | omega | (simp; done) | (simp; omega) | (simp at *; omega) | (split <;> first | omega | (simp; omega))) w) rfl ?_
                refine wl_on rfl rfl h180 ?_
                refine wl_v (o_not rfl) rfl ?_
                refine wl_v (o_pick_t rfl h180 rfl) rfl ?_
                refine wl_nil ?_
                exact wk_then (wk_mid trivial ⟨rfl, rfl, rfl, fb (by first | (simp only [h170, h174, h178, h179, h180, Bool.true_and, Bool.false_and, Bool.true_or, Bool.false_or, Bool.and_true, Bool.and_false, Bool.or_true, Bool.or_false, Bool.not_true, Bool.not_false, cond_true, cond_false, if_true, if_false, reduceIte, Bool.false_eq_true]; done) | (simp only [Bool.true_and, Bool.false_and, Bool.true_or, Bool.false_or, Bool.and_true, Bool.and_false, Bool.or_true, Bool.or_false, Bool.not_true, Bool.not_false, cond_true, cond_false, if_true, if_false, reduceIte, Bool.false_eq_true]; done) | simp [h170, h174, h178, h179, h180]), trivial⟩ .slnil)
              · have g180 := h180; try simp only [decide_eq_true_eq, decide_eq_false_iff_not] at g180
                have f180 := h180; try simp only [decide_eq_true_eq, decide_eq_false_iff_not, Bool.and_eq_true, Bool.or_eq_true, Bool.not_eq_true', Bool.not_eq_false', Bool.and_eq_false_iff, Bool.or_eq_false_iff, not_or, Int.not_lt, Int.not_le] at f180
                refine wl_off rfl rfl h180 rfl ?_
                refine wl_off rfl rfl h180 rfl ?_
                refine wl_off rfl rfl h180 rfl ?_
                refine wl_off rfl rfl h180 rfl ?_
                refine wl_v (o_pick_f rfl h180 rfl) rfl ?_
                refine wl_nil ?_
                exact wk_then (wk_mid trivial ⟨rfl, rfl, rfl, fb (by first | (simp only [h170, h174, h178, h179, h180, Bool.true_and, Bool.false_and, Bool.true_or, Bool.false_or, Bool.and_true, Bool.and_false, Bool.or_true, Bool.or_false, Bool.not_true, Bool.not_false, cond_true, cond_false, if_true, if_false, reduceIte, Bool.false_eq_true]; done) | (simp only [Bool.true_and, Bool.false_and, Bool.true_or, Bool.false_or, Bool.and_true, Bool.and_false, Bool.or_true, Bool.or_false, Bool.not_true, Bool.not_false, cond_true, cond_false, if_true, if_false, reduceIte, Bool.false_eq_true]; done) | simp [h170, h174, h178, h179, h180]), trivial⟩ .slnil)
            · have g179 := h179; try simp only [decide_eq_true_eq, decide_eq_false_iff_not] at g179
              have f179 := h179; try simp only [decide_eq_true_eq, decide_eq_false_iff_not, Bool.and_eq_true, Bool.or_eq_true, Bool.not_eq_true', Bool.not_eq_false', Bool.and_eq_false_iff, Bool.or_eq_false_iff, not_or, Int.not_lt, Int.not_le] at f179
              refine wl_off rfl rfl h179 rfl ?_
              refine wl_off rfl rfl h179 rfl ?_
              refine wl_v (o_pick_f rfl h179 rfl) rfl ?_
              refine wl_v (o_move rfl) rfl ?_
              refine wl_off rfl rfl rfl rfl ?_
              refine wl_off rfl rfl rfl rfl ?_
              refine wl_off rfl rfl rfl rfl ?_
              refine wl_off rfl rfl rfl rfl ?_
              refine wl_v (o_pick_f rfl rfl rfl) rfl ?_
              refine wl_nil ?_
              exact wk_then (wk_mid trivial ⟨rfl, rfl, rfl, fb (by first | (simp only [h170, h174, h178, h179, Bool.true_and, Bool.false_and, Bool.true_or, Bool.false_or, Bool.and_true, Bool.and_false, Bool.or_true, Bool.or_false, Bool.not_true, Bool.not_false, cond_true, cond_false, if_true, if_false, reduceIte, Bool.false_eq_true]; done) | (simp only [Bool.true_and, Bool.false_and, Bool.true_or, Bool.false_or, Bool.and_true, Bool.and_false, Bool.or_true, Bool.or_false, Bool.not_true, Bool.not_false, cond_true, cond_false, if_true, if_false, reduceIte, Bool.false_eq_true]; done) | simp [h170, h174, h178, h179]), trivial⟩ .slnil)
          refine wc_cond (b := ((patS p) && ((patS q) && (!(covS p q))))) rfl (fun h182 => ?_) (fun h182 => ?_)
          · have g182 := h182; try simp only [decide_eq_true_eq, decide_eq_false_iff_not] at g182
            have f182 := h182; try simp only [decide_eq_true_eq, decide_eq_false_iff_not, Bool.and_eq_true, Bool.or_eq_true, Bool.not_eq_true', Bool.not_eq_false', Bool.and_eq_false_iff, Bool.or_eq_false_iff, not_or, Int.not_lt, Int.not_le] at f182
            refine wc_seq ?_
            refine wc_region ?_
            refine wl_v (o_move rfl) rfl ?_
            refine wl_v (o_assign rfl) rfl ?_
            refine wl_nil ?_
            refine wk_then (wc_of_wk ?_)
            refine wc_seq ?_
            refine wc_region ?_
            refine wl_v (o_move rfl) rfl ?_
            refine wl_v (o_assign rfl) rfl ?_
            refine wl_nil ?_
            refine wk_then (wc_of_wk ?_)
            refine wc_seq_mid [(0, .string (B (p))), (1, .string (B (q))), (8, .bool (false)), (9, .string (B ((if decide ((bat q ((q.length : Int) - 1)) = (42)) = true then List.take (Int.toNat ((q.length : Int) - 1)) q else q)))), (10, .string (B ((if decide ((bat q ((q.length : Int) - 1)) = (42)) = true then (List.take (Int.toNat ((q.length : Int) - 1)) q) ++ [126] else q))))] [] (φ := True) ?_ (fun hm183 => ?_)
            · refine wc_seq ?_
              refine wc_region ?_
              refine wl_v (o_move rfl) rfl ?_
              refine wl_v (o_move rfl) rfl ?_
              refine wl_v (o_len_s Tryd.underlying9 rfl) rfl ?_
              refine wl_v (o_sub rfl rfl (IntWalk.i64_in _ (by first | omega | (have := pat_pos (q := q) (by simp_all); omega)))) rfl ?_
              refine wl_v (o_index_b Tryd.underlying9 rfl rfl (by first | omega | (have := pat_pos (q := q) (by simp_all); omega)) (by first | omega | (have := pat_pos (q := q) (by simp_all); omega))) rfl ?_
              refine wl_v (o_eq rfl rfl) rfl ?_
              refine wl_nil ?_
              refine wk_then (wc_of_wk ?_)
              refine wc_cond (b := decide ((bat q ((q.length : Int) - 1)) = (42))) rfl (fun h183 => ?_) (fun h183 => ?_)
              · have g183 := h183; try simp only [decide_eq_true_eq, decide_eq_false_iff_not] at g183
                have f183 := h183; try simp only [decide_eq_true_eq, decide_eq_false_iff_not, Bool.and_eq_true, Bool.or_eq_true, Bool.not_eq_true', Bool.not_eq_false', Bool.and_eq_false_iff, Bool.or_eq_false_iff, not_or, Int.not_lt, Int.not_le] at f183
                refine wc_seq ?_
                refine wc_region ?_
                refine wl_v (o_move rfl) rfl ?_
                refine wl_v (o_move rfl) rfl ?_
                refine wl_v (o_len_s Tryd.underlying9 rfl) rfl ?_
                refine wl_v (o_sub rfl rfl (IntWalk.i64_in _ (by first | omega | (have := pat_pos (q := q) (by simp_all); omega)))) rfl ?_
                refine wl_v (o_slice_hi Tryd.underlying9 rfl rfl (by first | omega | (have := pat_pos (q := q) (by simp_all); omega)) (by first | omega | (have := pat_pos (q := q) (by simp_all); omega))) rfl ?_
                refine wl_v (o_assign rfl) rfl ?_
                refine wl_nil ?_
                refine wk_then (wc_of_wk ?_)
                refine wc_region ?_
                refine wl_v (o_move rfl) rfl ?_
                refine wl_v (o_sadd rfl rfl (by simp; omega)) rfl ?_
                refine wl_v (o_assign rfl) rfl ?_
                refine wl_nil ?_
                exact wk_then (wk_mid trivial ⟨rfl, rfl, rfl, fs (by first | (simp only [h170, h174, h178, h182, h183, Bool.true_and, Bool.false_and, Bool.true_or, Bool.false_or, Bool.and_true, Bool.and_false, Bool.or_true, Bool.or_false, Bool.not_true, Bool.not_false, cond_true, cond_false, if_true, if_false, reduceIte, Bool.false_eq_true]; done) | (simp only [Bool.true_and, Bool.false_and, Bool.true_or, Bool.false_or, Bool.and_true, Bool.and_false, Bool.or_true, Bool.or_false, Bool.not_true, Bool.not_false, cond_true, cond_false, if_true, if_false, reduceIte, Bool.false_eq_true]; done) | simp [h170, h174, h178, h182, h183]), fs (by first | (simp only [h170, h174, h178, h182, h183, Bool.true_and, Bool.false_and, Bool.true_or, Bool.false_or, Bool.and_true, Bool.and_false, Bool.or_true, Bool.or_false, Bool.not_true, Bool.not_false, cond_true, cond_false, if_true, if_false, reduceIte, Bool.false_eq_true]; done) | (simp only [Bool.true_and, Bool.false_and, Bool.true_or, Bool.false_or, Bool.and_true, Bool.and_false, Bool.or_true, Bool.or_false, Bool.not_true, Bool.not_false, cond_true, cond_false, if_true, if_false, reduceIte, Bool.false_eq_true]; done) | simp [h170, h174, h178, h182, h183]), trivial⟩ .slnil)
              · have g183 := h183; try simp only [decide_eq_true_eq, decide_eq_false_iff_not] at g183
                have f183 := h183; try simp only [decide_eq_true_eq, decide_eq_false_iff_not, Bool.and_eq_true, Bool.or_eq_true, Bool.not_eq_true', Bool.not_eq_false', Bool.and_eq_false_iff, Bool.or_eq_false_iff, not_or, Int.not_lt, Int.not_le] at f183
                refine wc_skip ?_
                exact wk_then (wk_mid trivial ⟨rfl, rfl, rfl, fs (by first | (simp only [h170, h174, h178, h182, h183, Bool.true_and, Bool.false_and, Bool.true_or, Bool.false_or, Bool.and_true, Bool.and_false, Bool.or_true, Bool.or_false, Bool.not_true, Bool.not_false, cond_true, cond_false, if_true, if_false, reduceIte, Bool.false_eq_true]; done) | (simp only [Bool.true_and, Bool.false_and, Bool.true_or, Bool.false_or, Bool.and_true, Bool.and_false, Bool.or_true, Bool.or_false, Bool.not_true, Bool.not_false, cond_true, cond_false, if_true, if_false, reduceIte, Bool.false_eq_true]; done) | simp [h170, h174, h178, h182, h183]), fs (by first | (simp only [h170, h174, h178, h182, h183, Bool.true_and, Bool.false_and, Bool.true_or, Bool.false_or, Bool.and_true, Bool.and_false, Bool.or_true, Bool.or_false, Bool.not_true, Bool.not_false, cond_true, cond_false, if_true, if_false, reduceIte, Bool.false_eq_true]; done) | (simp only [Bool.true_and, Bool.false_and, Bool.true_or, Bool.false_or, Bool.and_true, Bool.and_false, Bool.or_true, Bool.or_false, Bool.not_true, Bool.not_false, cond_true, cond_false, if_true, if_false, reduceIte, Bool.false_eq_true]; done) | simp [h170, h174, h178, h182, h183]), trivial⟩ .slnil)
            refine wc_seq_mid [(8, .bool (false)), (91, .bool (((!(matS q (if decide ((bat q ((q.length : Int) - 1)) = (42)) = true then List.take (Int.toNat ((q.length : Int) - 1)) q else q))) || ((!(matS q (if decide ((bat q ((q.length : Int) - 1)) = (42)) = true then (List.take (Int.toNat ((q.length : Int) - 1)) q) ++ [126] else q))) || ((matS p (if decide ((bat q ((q.length : Int) - 1)) = (42)) = true then List.take (Int.toNat ((q.length : Int) - 1)) q else q)) && (matS p (if decide ((bat q ((q.length : Int) - 1)) = (42)) = true then (List.take (Int.toNat ((q.length : Int) - 1)) q) ++ [126] else q)))))))] [] (φ := True) ?_ (fun hm187 => ?_)
            · refine wc_region ?_
              refine wl_v (o_move rfl) rfl ?_
              refine wl_v (o_move rfl) rfl ?_
              refine w_call Tryd.call14 rfl (fun w hw => matches_c q (if decide ((bat q ((q.length : Int) - 1)) = (42)) = true then List.take (Int.toNat ((q.length : Int) - 1)) q else q) (by first | omega | (simp; done) | (simp; omega) | (simp at *; omega) | (split <;> first | omega | (simp; omega))) (by first | omega | (simp; done) | (simp; omega) | (simp at *; omega) | (split <;> first | omega | (simp; omega))) w) rfl ?_
              refine wl_v (o_not rfl) rfl ?_
              refine wl_v (o_move rfl) rfl ?_
              refine bsplit (!(matS q (if decide ((bat q ((q.length : Int) - 1)) = (42)) = true then List.take (Int.toNat ((q.length : Int) - 1)) q else q))) (fun h185 => ?_) (fun h185 => ?_)
              · have g185 := h185; try simp only [decide_eq_true_eq, decide_eq_false_iff_not] at g185
                have f185 := h185; try simp only [decide_eq_true_eq, decide_eq_false_iff_not, Bool.and_eq_true, Bool.or_eq_true, Bool.not_eq_true', Bool.not_eq_false', Bool.and_eq_false_iff, Bool.or_eq_false_iff, not_or, Int.not_lt, Int.not_le] at f185
                refine wl_off rfl rfl h185 rfl ?_
                refine wl_off rfl rfl h185 rfl ?_
                refine wl_off rfl rfl h185 rfl ?_
                refine wl_off rfl rfl h185 rfl ?_
                refine wl_v (o_pick_t rfl h185 rfl) rfl ?_
                refine wl_v (o_move rfl) rfl ?_
                refine wl_off rfl rfl rfl rfl ?_
                refine wl_off rfl rfl rfl rfl ?_
                refine wl_off rfl rfl rfl rfl ?_
                refine wl_off rfl rfl rfl rfl ?_
                refine wl_off_u rfl rfl rfl ?_
                refine wl_off_u rfl rfl rfl ?_
                refine wl_off_u rfl rfl rfl ?_
                refine wl_off rfl rfl rfl rfl ?_
                refine wl_v (o_pick_t rfl rfl rfl) rfl ?_
                refine wl_nil ?_
                exact wk_then (wk_mid trivial ⟨rfl, fb (by first | (simp only [h170, h174, h178, h182, h185, Bool.true_and, Bool.false_and, Bool.true_or, Bool.false_or, Bool.and_true, Bool.and_false, Bool.or_true, Bool.or_false, Bool.not_true, Bool.not_false, cond_true, cond_false, if_true, if_false, reduceIte, Bool.false_eq_true]; done) | (simp only [Bool.true_and, Bool.false_and, Bool.true_or, Bool.false_or, Bool.and_true, Bool.and_false, Bool.or_true, Bool.or_false, Bool.not_true, Bool.not_false, cond_true, cond_false, if_true, if_false, reduceIte, Bool.false_eq_true]; done) | simp [h170, h174, h178, h182, h185]), trivial⟩ .slnil)
              · have g185 := h185; try simp only [decide_eq_true_eq, decide_eq_false_iff_not] at g185
                have f185 := h185; try simp only [decide_eq_true_eq, decide_eq_false_iff_not, Bool.and_eq_true, Bool.or_eq_true, Bool.not_eq_true', Bool.not_eq_false', Bool.and_eq_false_iff, Bool.or_eq_false_iff, not_or, Int.not_lt, Int.not_le] at f185
                refine wl_on rfl rfl h185 ?_
                refine wl_v (o_move rfl) rfl ?_
                refine wl_on rfl rfl h185 ?_
                refine wl_v (o_move rfl) rfl ?_
                refine wl_on rfl rfl h185 ?_
                refine w_call Tryd.call14 rfl (fun w hw => matches_c q (if decide ((bat q ((q.length : Int) - 1)) = (42)) = true then (List.take (Int.toNat ((q.length : Int) - 1)) q) ++ [126] else q) (by first | omega | (simp; done) | (simp; omega) | (simp at *; omega) | (split <;> first | omega | (simp; omega))) (by first | omega | (simp; done) | (simp; omega) | (simp at *; omega) | (split <;> first | omega | (simp; omega))) w) rfl ?_
                refine wl_on rfl rfl h185 ?_
                refine wl_v (o_not rfl) rfl ?_
                refine wl_v (o_pick_f rfl h185 rfl) rfl ?_
                refine wl_v (o_move rfl) rfl ?_
                refine bsplit (!(matS q (if decide ((bat q ((q.length : Int) - 1)) = (42)) = true then (List.take (Int.toNat ((q.length : Int) - 1)) q) ++ [126] else q))) (fun h186 => ?_) (fun h186 => ?_)
                · have g186 := h186; try simp only [decide_eq_true_eq, decide_eq_false_iff_not] at g186
                  have f186 := h186; try simp only [decide_eq_true_eq, decide_eq_false_iff_not, Bool.and_eq_true, Bool.or_eq_true, Bool.not_eq_true', Bool.not_eq_false', Bool.and_eq_false_iff, Bool.or_eq_false_iff, not_or, Int.not_lt, Int.not_le] at f186
                  refine wl_off rfl rfl h186 rfl ?_
                  refine wl_off rfl rfl h186 rfl ?_
                  refine wl_off rfl rfl h186 rfl ?_
                  refine wl_off rfl rfl h186 rfl ?_
                  refine wl_off_u rfl rfl rfl ?_
                  refine wl_off_u rfl rfl rfl ?_
                  refine wl_off_u rfl rfl rfl ?_
                  refine wl_off rfl rfl h186 rfl ?_
                  refine wl_v (o_pick_t rfl h186 rfl) rfl ?_
                  refine wl_nil ?_
                  exact wk_then (wk_mid trivial ⟨rfl, fb (by first | (simp only [h170, h174, h178, h182, h185, h186, Bool.true_and, Bool.false_and, Bool.true_or, Bool.false_or, Bool.and_true, Bool.and_false, Bool.or_true, Bool.or_false, Bool.not_true, Bool.not_false, cond_true, cond_false, if_true, if_false, reduceIte, Bool.false_eq_true]; done) | (simp only [Bool.true_and, Bool.false_and, Bool.true_or, Bool.false_or, Bool.and_true, Bool.and_false, Bool.or_true, Bool.or_false, Bool.not_true, Bool.not_false, cond_true, cond_false, if_true, if_false, reduceIte, Bool.false_eq_true]; done) | simp [h170, h174, h178, h182, h185, h186]), trivial⟩ .slnil)
                · have g186 := h186; try simp only [decide_eq_true_eq, decide_eq_false_iff_not] at g186
                  have f186 := h186; try simp only [decide_eq_true_eq, decide_eq_false_iff_not, Bool.and_eq_true, Bool.or_eq_true, Bool.not_eq_true', Bool.not_eq_false', Bool.and_eq_false_iff, Bool.or_eq_false_iff, not_or, Int.not_lt, Int.not_le] at f186
                  refine wl_on rfl rfl h186 ?_
                  refine wl_v (o_move rfl) rfl ?_
                  refine wl_on rfl rfl h186 ?_
                  refine wl_v (o_move rfl) rfl ?_
                  refine wl_on rfl rfl h186 ?_
                  refine w_call Tryd.call14 rfl (fun w hw => matches_c p (if decide ((bat q ((q.length : Int) - 1)) = (42)) = true then List.take (Int.toNat ((q.length : Int) - 1)) q else q) (by first | omega | (simp; done) | (simp; omega) | (simp at *; omega) | (split <;> first | omega | (simp; omega))) (by first | omega | (simp; done) | (simp; omega) | (simp at *; omega) | (split <;> first | omega | (simp; omega))) w) rfl ?_
                  refine wl_on rfl rfl h186 ?_
                  refine wl_v (o_move rfl) rfl ?_
                  refine bsplit (matS p (if decide ((bat q ((q.length : Int) - 1)) = (42)) = true then List.take (Int.toNat ((q.length : Int) - 1)) q else q)) (fun h187 => ?_) (fun h187 => ?_)
                  · have g187 := h187; try simp only [decide_eq_true_eq, decide_eq_false_iff_not] at g187
                    have f187 := h187; try simp only [decide_eq_true_eq, decide_eq_false_iff_not, Bool.and_eq_true, Bool.or_eq_true, Bool.not_eq_true', Bool.not_eq_false', Bool.and_eq_false_iff, Bool.or_eq_false_iff, not_or, Int.not_lt, Int.not_le] at f187
                    refine wl_on rfl rfl h187 ?_
                    refine wl_v (o_move rfl) rfl ?_
                    refine wl_on rfl rfl h187 ?_
                    refine wl_v (o_move rfl) rfl ?_
                    refine wl_on rfl rfl h187 ?_
                    refine w_call Tryd.call14 rfl (fun w hw => matches_c p (if decide ((bat q ((q.length : Int) - 1)) = (42)) = true then (List.take (Int.toNat ((q.length : Int) - 1)) q) ++ [126] else q) (by first | omega | (simp; done) | (simp; omega) | (simp at *; omega) | (split <;> first | omega | (simp; omega))) (by first | omega | (simp; done) | (simp; omega) | (simp at *; omega) | (split <;> first | omega | (simp; omega))) w) rfl ?_
                    refine wl_on rfl rfl h186 ?_
                    refine wl_v (o_pick_t rfl h187 rfl) rfl ?_
                    refine wl_v (o_pick_f rfl h186 rfl) rfl ?_
                    refine wl_nil ?_
                    exact wk_then (wk_mid trivial ⟨rfl, fb (by first | (simp only [h170, h174, h178, h182, h185, h186, h187, Bool.true_and, Bool.false_and, Bool.true_or, Bool.false_or, Bool.and_true, Bool.and_false, Bool.or_true, Bool.or_false, Bool.not_true, Bool.not_false, cond_true, cond_false, if_true, if_false, reduceIte, Bool.false_eq_true]; done) | (simp only [Bool.true_and, Bool.false_and, Bool.true_or, Bool.false_or, Bool.and_true, Bool.and_false, Bool.or_true, Bool.or_false, Bool.not_true, Bool.not_false, cond_true, cond_false, if_true, if_false, reduceIte, Bool.false_eq_true]; done) | simp [h170, h174, h178, h182, h185, h186, h187]), trivial⟩ .slnil)
                  · have g187 := h187; try simp only [decide_eq_true_eq, decide_eq_false_iff_not] at g187
                    have f187 := h187; try simp only [decide_eq_true_eq, decide_eq_false_iff_not, Bool.and_eq_true, Bool.or_eq_true, Bool.not_eq_true', Bool.not_eq_false', Bool.and_eq_false_iff, Bool.or_eq_false_iff, not_or, Int.not_lt, Int.not_le] at f187
                    refine wl_off rfl rfl h187 rfl ?_
                    refine wl_off rfl rfl h187 rfl ?_
                    refine wl_off rfl rfl h187 rfl ?_
                    refine wl_on rfl rfl h186 ?_
                    refine wl_v (o_pick_f rfl h187 rfl) rfl ?_
                    refine wl_v (o_pick_f rfl h186 rfl) rfl ?_
                    refine wl_nil ?_
                    exact wk_then (wk_mid trivial ⟨rfl, fb (by first | (simp only [h170, h174, h178, h182, h185, h186, h187, Bool.true_and, Bool.false_and, Bool.true_or, Bool.false_or, Bool.and_true, Bool.and_false, Bool.or_true, Bool.or_false, Bool.not_true, Bool.not_false, cond_true, cond_false, if_true, if_false, reduceIte, Bool.false_eq_true]; done) | (simp only [Bool.true_and, Bool.false_and, Bool.true_or, Bool.false_or, Bool.and_true, Bool.and_false, Bool.or_true, Bool.or_false, Bool.not_true, Bool.not_false, cond_true, cond_false, if_true, if_false, reduceIte, Bool.false_eq_true]; done) | simp [h170, h174, h178, h182, h185, h186, h187]), trivial⟩ .slnil)
            refine wc_cond (b := ((!(matS q (if decide ((bat q ((q.length : Int) - 1)) = (42)) = true then List.take (Int.toNat ((q.length : Int) - 1)) q else q))) || ((!(matS q (if decide ((bat q ((q.length : Int) - 1)) = (42)) = true then (List.take (Int.toNat ((q.length : Int) - 1)) q) ++ [126] else q))) || ((matS p (if decide ((bat q ((q.length : Int) - 1)) = (42)) = true then List.take (Int.toNat ((q.length : Int) - 1)) q else q)) && (matS p (if decide ((bat q ((q.length : Int) - 1)) = (42)) = true then (List.take (Int.toNat ((q.length : Int) - 1)) q) ++ [126] else q)))))) rfl (fun h189 => ?_) (fun h189 => ?_)
            · have g189 := h189; try simp only [decide_eq_true_eq, decide_eq_false_iff_not] at g189
              have f189 := h189; try simp only [decide_eq_true_eq, decide_eq_false_iff_not, Bool.and_eq_true, Bool.or_eq_true, Bool.not_eq_true', Bool.not_eq_false', Bool.and_eq_false_iff, Bool.or_eq_false_iff, not_or, Int.not_lt, Int.not_le] at f189
              refine wc_seq ?_
              refine wc_region ?_
              refine wl_v (o_assign rfl) rfl ?_
              refine wl_nil ?_
              refine wk_then (wc_of_wk ?_)
              refine wc_ret ?_
              refine wk_then_ret ?_
              refine wk_ret (r_1 rfl rfl) ?_
              exfalso
              have hq1 := f182.2.1
              have hpos := pat_pos hq1
              have ho := open_iff hpos
              cases hx : hasSuf q [42]
              · have hb : ¬ bat q (↑q.length - 1) = 42 := by rw [ho, hx]; simp
                simp only [hb, if_false] at f189
                rcases f189 with h | h | h
                · rw [mat_self hq1 hx] at h; cases h
                · rw [mat_self hq1 hx] at h; cases h
                · have := cov_no f182.1 hq1 hx h.1
                  rw [f182.2.2] at this; cases this
              · have hb : bat q (↑q.length - 1) = 42 := ho.2 hx
                simp only [hb, if_true, one_eq hx] at f189
                rcases f189 with h | h | h
                · have := mat_one (x := []) hq1 hx
                  simp only [List.append_nil] at this
                  rw [this] at h; cases h
                · rw [mat_one hq1 hx] at h; cases h
                · have := cov_no2 f182.1 hq1 hx h.1 h.2
                  rw [f182.2.2] at this; cases this
            · have g189 := h189; try simp only [decide_eq_true_eq, decide_eq_false_iff_not] at g189
              have f189 := h189; try simp only [decide_eq_true_eq, decide_eq_false_iff_not, Bool.and_eq_true, Bool.or_eq_true, Bool.not_eq_true', Bool.not_eq_false', Bool.and_eq_false_iff, Bool.or_eq_false_iff, not_or, Int.not_lt, Int.not_le] at f189
              refine wc_skip ?_
              exact wk_then (wk_mid (by first | (simp only [h170, h174, h178, h182, h189, Bool.true_and, Bool.false_and, Bool.true_or, Bool.false_or, Bool.and_true, Bool.and_false, Bool.or_true, Bool.or_false, Bool.not_true, Bool.not_false, cond_true, cond_false, if_true, if_false, reduceIte, Bool.false_eq_true]; done) | (simp only [Bool.true_and, Bool.false_and, Bool.true_or, Bool.false_or, Bool.and_true, Bool.and_false, Bool.or_true, Bool.or_false, Bool.not_true, Bool.not_false, cond_true, cond_false, if_true, if_false, reduceIte, Bool.false_eq_true]; done) | simp [h170, h174, h178, h182, h189]) ⟨rfl, trivial⟩ .slnil)
          · have g182 := h182; try simp only [decide_eq_true_eq, decide_eq_false_iff_not] at g182
            have f182 := h182; try simp only [decide_eq_true_eq, decide_eq_false_iff_not, Bool.and_eq_true, Bool.or_eq_true, Bool.not_eq_true', Bool.not_eq_false', Bool.and_eq_false_iff, Bool.or_eq_false_iff, not_or, Int.not_lt, Int.not_le] at f182
            refine wc_skip ?_
            exact wk_then (wk_mid (by first | (simp only [h170, h174, h178, h182, Bool.true_and, Bool.false_and, Bool.true_or, Bool.false_or, Bool.and_true, Bool.and_false, Bool.or_true, Bool.or_false, Bool.not_true, Bool.not_false, cond_true, cond_false, if_true, if_false, reduceIte, Bool.false_eq_true]; done) | (simp only [Bool.true_and, Bool.false_and, Bool.true_or, Bool.false_or, Bool.and_true, Bool.and_false, Bool.or_true, Bool.or_false, Bool.not_true, Bool.not_false, cond_true, cond_false, if_true, if_false, reduceIte, Bool.false_eq_true]; done) | simp [h170, h174, h178, h182]) ⟨rfl, trivial⟩ .slnil)
        have g189 := hm189; try simp only [decide_eq_true_eq, decide_eq_false_iff_not] at g189
        have f189 := hm189; try simp only [decide_eq_true_eq, decide_eq_false_iff_not, Bool.and_eq_true, Bool.or_eq_true, Bool.not_eq_true', Bool.not_eq_false', Bool.and_eq_false_iff, Bool.or_eq_false_iff, not_or, Int.not_lt, Int.not_le] at f189
        refine wc_seq ?_
        refine wc_region ?_
        refine w_call Tryd.call6 rfl (fun w hw => awake_c w (hE.st0 hw)) rfl ?_
        refine wl_v (o_assign rfl) rfl ?_
        refine wl_nil ?_
        refine wk_then (wc_of_wk ?_)
        refine wc_ret ?_
        refine wk_ret (r_1 rfl rfl) ?_
        exact retv rfl

end Go.Proofs.YtjkdkmcklocmnaaDoor
