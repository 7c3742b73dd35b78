/-
  Walks, printed by a small program of ours (gsym.py).
-/
import Derived.Test.YtjkdkmcklocmnaaGreatDoorPlD
import Derived.Test.YtjkdkmcklocmnaaGreatDoorIdR
namespace Go.Proofs.YtjkdkmcklocmnaaGreatDoor
open Go Go.RowKit
set_option linter.unusedVariables false
set_option linter.unusedSimpArgs false
set_option maxRecDepth 100000
theorem identNames_c (p : List UInt8) (hp : p.length ≤ 140737488355328) (w : World) (hE : Env w) : Calls Tryz.prog 3 [.string (B (p))].toArray w (RetV w (.bool true)) := by
  refine enter0 (n := 25) Tryz.func3 rfl Tryz.ntmps3 rfl ?_
  refine wc_seq ?_
  refine wc_region ?_
  refine wl_v (o_assign rfl) rfl ?_
  refine wl_nil ?_
  refine wk_then (wc_of_wk ?_)
  refine wc_seq_mid [(2, .bool ((((nameS p) == (nameS p)) && (((idS p) == (idS p)) && ((patS p) == (patS p))))))] [] (φ := True) ?_ (fun hm193 => ?_)
  · refine wc_region ?_
    refine wl_v (o_move rfl) rfl ?_
    refine w_call Tryz.call7 rfl (fun w hw => name_c p w) rfl ?_
    refine wl_v (o_move rfl) rfl ?_
    refine w_call Tryz.call8 rfl (fun w hw => name_r p (by first | omega | (simp; done) | (simp; omega) | (simp at *; omega) | (split <;> first | omega | (simp; omega))) w) rfl ?_
    refine wl_v (o_beq Tryz.underlying4 rfl rfl) rfl ?_
    refine wl_v (o_move rfl) rfl ?_
    refine bsplit ((nameS p) == (nameS p)) (fun h191 => ?_) (fun h191 => ?_)
    · have g191 := h191; try simp only [decide_eq_true_eq, decide_eq_false_iff_not] at g191
      have f191 := h191; try simp only [decide_eq_true_eq, decide_eq_false_iff_not, Bool.and_eq_true, Bool.or_eq_true, Bool.not_eq_true', Bool.not_eq_false', Bool.and_eq_false_iff, Bool.or_eq_false_iff, not_or, Int.not_lt, Int.not_le] at f191
      refine wl_on rfl rfl h191 ?_
      refine wl_v (o_move rfl) rfl ?_
      refine wl_on rfl rfl h191 ?_
      refine w_call Tryz.call9 rfl (fun w hw => id_c p w) rfl ?_
      refine wl_on rfl rfl h191 ?_
      refine wl_v (o_move rfl) rfl ?_
      refine wl_on rfl rfl h191 ?_
      refine w_call Tryz.call10 rfl (fun w hw => id_r p (by first | omega | (simp; done) | (simp; omega) | (simp at *; omega) | (split <;> first | omega | (simp; omega))) w) rfl ?_
      refine wl_on rfl rfl h191 ?_
      refine wl_v (o_beq Tryz.underlying4 rfl rfl) rfl ?_
      refine wl_v (o_pick_t rfl h191 rfl) rfl ?_
      refine wl_v (o_move rfl) rfl ?_
      refine bsplit ((idS p) == (idS p)) (fun h192 => ?_) (fun h192 => ?_)
      · have g192 := h192; try simp only [decide_eq_true_eq, decide_eq_false_iff_not] at g192
        have f192 := h192; try simp only [decide_eq_true_eq, decide_eq_false_iff_not, Bool.and_eq_true, Bool.or_eq_true, Bool.not_eq_true', Bool.not_eq_false', Bool.and_eq_false_iff, Bool.or_eq_false_iff, not_or, Int.not_lt, Int.not_le] at f192
        refine wl_on rfl rfl h192 ?_
        refine wl_v (o_move rfl) rfl ?_
        refine wl_on rfl rfl h192 ?_
        refine w_call Tryz.call11 rfl (fun w hw => pattern_c p (by first | omega | (simp; done) | (simp; omega) | (simp at *; omega) | (split <;> first | omega | (simp; omega))) w) rfl ?_
        refine wl_on rfl rfl h192 ?_
        refine wl_v (o_move rfl) rfl ?_
        refine wl_on rfl rfl h192 ?_
        refine w_call Tryz.call12 rfl (fun w hw => pattern_r p (by first | omega | (simp; done) | (simp; omega) | (simp at *; omega) | (split <;> first | omega | (simp; omega))) w) rfl ?_
        refine wl_on rfl rfl h192 ?_
        refine wl_v (o_beq Tryz.underlying4 rfl rfl) rfl ?_
        refine wl_v (o_pick_t rfl h192 rfl) rfl ?_
        refine wl_v (o_move rfl) rfl ?_
        refine bsplit ((patS p) == (patS p)) (fun h193 => ?_) (fun h193 => ?_)
        · have g193 := h193; try simp only [decide_eq_true_eq, decide_eq_false_iff_not] at g193
          have f193 := h193; try simp only [decide_eq_true_eq, decide_eq_false_iff_not, Bool.and_eq_true, Bool.or_eq_true, Bool.not_eq_true', Bool.not_eq_false', Bool.and_eq_false_iff, Bool.or_eq_false_iff, not_or, Int.not_lt, Int.not_le] at f193
          refine wl_on rfl rfl h193 ?_
          refine w_call Tryz.call13 rfl (fun w hw => awake_c w (hE.st0 hw)) rfl ?_
          refine wl_v (o_pick_t rfl h193 rfl) rfl ?_
          refine wl_v (o_assign rfl) rfl ?_
          refine wl_nil ?_
          exact wk_then (wk_mid trivial ⟨fb (by first | (simp only [h191, h192, h193, Bool.true_and, Bool.false_and, Bool.true_or, Bool.false_or, Bool.and_true, Bool.and_false, Bool.or_true, Bool.or_false, Bool.not_true, Bool.not_false, cond_true, cond_false, if_true, if_false, reduceIte, Bool.false_eq_true]; done) | (simp only [Bool.true_and, Bool.false_and, Bool.true_or, Bool.false_or, Bool.and_true, Bool.and_false, Bool.or_true, Bool.or_false, Bool.not_true, Bool.not_false, cond_true, cond_false, if_true, if_false, reduceIte, Bool.false_eq_true]; done) | simp [h191, h192, h193]), trivial⟩ .slnil)
        · have g193 := h193; try simp only [decide_eq_true_eq, decide_eq_false_iff_not] at g193
          have f193 := h193; try simp only [decide_eq_true_eq, decide_eq_false_iff_not, Bool.and_eq_true, Bool.or_eq_true, Bool.not_eq_true', Bool.not_eq_false', Bool.and_eq_false_iff, Bool.or_eq_false_iff, not_or, Int.not_lt, Int.not_le] at f193
          refine wl_off rfl rfl h193 rfl ?_
          refine wl_v (o_pick_f rfl h193 rfl) rfl ?_
          refine wl_v (o_assign rfl) rfl ?_
          refine wl_nil ?_
          exact wk_then (wk_mid trivial ⟨fb (by first | (simp only [h191, h192, h193, Bool.true_and, Bool.false_and, Bool.true_or, Bool.false_or, Bool.and_true, Bool.and_false, Bool.or_true, Bool.or_false, Bool.not_true, Bool.not_false, cond_true, cond_false, if_true, if_false, reduceIte, Bool.false_eq_true]; done) | (simp only [Bool.true_and, Bool.false_and, Bool.true_or, Bool.false_or, Bool.and_true, Bool.and_false, Bool.or_true, Bool.or_false, Bool.not_true, Bool.not_false, cond_true, cond_false, if_true, if_false, reduceIte, Bool.false_eq_true]; done) | simp [h191, h192, h193]), trivial⟩ .slnil)
      · have g192 := h192; try simp only [decide_eq_true_eq, decide_eq_false_iff_not] at g192
        have f192 := h192; try simp only [decide_eq_true_eq, decide_eq_false_iff_not, Bool.and_eq_true, Bool.or_eq_true, Bool.not_eq_true', Bool.not_eq_false', Bool.and_eq_false_iff, Bool.or_eq_false_iff, not_or, Int.not_lt, Int.not_le] at f192
        refine wl_off rfl rfl h192 rfl ?_
        refine wl_off rfl rfl h192 rfl ?_
        refine wl_off rfl rfl h192 rfl ?_
        refine wl_off rfl rfl h192 rfl ?_
        refine wl_off rfl rfl h192 rfl ?_
        refine wl_v (o_pick_f rfl h192 rfl) rfl ?_
        refine wl_v (o_move rfl) rfl ?_
        refine wl_off rfl rfl rfl rfl ?_
        refine wl_v (o_pick_f rfl rfl rfl) rfl ?_
        refine wl_v (o_assign rfl) rfl ?_
        refine wl_nil ?_
        exact wk_then (wk_mid trivial ⟨fb (by first | (simp only [h191, h192, Bool.true_and, Bool.false_and, Bool.true_or, Bool.false_or, Bool.and_true, Bool.and_false, Bool.or_true, Bool.or_false, Bool.not_true, Bool.not_false, cond_true, cond_false, if_true, if_false, reduceIte, Bool.false_eq_true]; done) | (simp only [Bool.true_and, Bool.false_and, Bool.true_or, Bool.false_or, Bool.and_true, Bool.and_false, Bool.or_true, Bool.or_false, Bool.not_true, Bool.not_false, cond_true, cond_false, if_true, if_false, reduceIte, Bool.false_eq_true]; done) | simp [h191, h192]), trivial⟩ .slnil)
    · have g191 := h191; try simp only [decide_eq_true_eq, decide_eq_false_iff_not] at g191
      have f191 := h191; try simp only [decide_eq_true_eq, decide_eq_false_iff_not, Bool.and_eq_true, Bool.or_eq_true, Bool.not_eq_true', Bool.not_eq_false', Bool.and_eq_false_iff, Bool.or_eq_false_iff, not_or, Int.not_lt, Int.not_le] at f191
      refine wl_off rfl rfl h191 rfl ?_
      refine wl_off rfl rfl h191 rfl ?_
      refine wl_off rfl rfl h191 rfl ?_
      refine wl_off rfl rfl h191 rfl ?_
      refine wl_off rfl rfl h191 rfl ?_
      refine wl_v (o_pick_f rfl h191 rfl) rfl ?_
      refine wl_v (o_move rfl) rfl ?_
      refine wl_off rfl rfl rfl rfl ?_
      refine wl_off rfl rfl rfl rfl ?_
      refine wl_off rfl rfl rfl rfl ?_
      refine wl_off rfl rfl rfl rfl ?_
      refine wl_off rfl rfl rfl rfl ?_
      refine wl_v (o_pick_f rfl rfl rfl) rfl ?_
      refine wl_v (o_move rfl) rfl ?_
      refine wl_off rfl rfl rfl rfl ?_
      refine wl_v (o_pick_f rfl rfl rfl) rfl ?_
      refine wl_v (o_assign rfl) rfl ?_
      refine wl_nil ?_
      exact wk_then (wk_mid trivial ⟨fb (by first | (simp only [h191, Bool.true_and, Bool.false_and, Bool.true_or, Bool.false_or, Bool.and_true, Bool.and_false, Bool.or_true, Bool.or_false, Bool.not_true, Bool.not_false, cond_true, cond_false, if_true, if_false, reduceIte, Bool.false_eq_true]; done) | (simp only [Bool.true_and, Bool.false_and, Bool.true_or, Bool.false_or, Bool.and_true, Bool.and_false, Bool.or_true, Bool.or_false, Bool.not_true, Bool.not_false, cond_true, cond_false, if_true, if_false, reduceIte, Bool.false_eq_true]; done) | simp [h191]), trivial⟩ .slnil)
  refine wc_ret ?_
  refine wk_ret (r_1 rfl rfl) ?_
  exact retv (by simp)

theorem identMatches_c (p : List UInt8) (q : List UInt8) (s : List UInt8) (hp : p.length ≤ 140737488355328) (hq : q.length ≤ 140737488355328) (hs : s.length ≤ 140737488355328) (w : World) (hE : Env w) : Calls Tryz.prog 6 [.string (B (p)), .string (B (q)), .string (B (s))].toArray w (RetV w (.bool true)) := by
  refine enter0 (n := 35) Tryz.func6 rfl Tryz.ntmps6 rfl ?_
  refine wc_seq ?_
  refine wc_region ?_
  refine wl_v (o_assign rfl) rfl ?_
  refine wl_nil ?_
  refine wk_then (wc_of_wk ?_)
  refine wc_seq_mid [(6, .bool ((((matS p s) == (matS p s)) && (((covS p q) == (covS p q)) && ((covS q p) == (covS q p))))))] [] (φ := True) ?_ (fun hm197 => ?_)
  · refine wc_region ?_
    refine wl_v (o_move rfl) rfl ?_
    refine wl_v (o_move rfl) rfl ?_
    refine w_call Tryz.call22 rfl (fun w hw => matches_c p s (by first | omega | (simp; done) | (simp; omega) | (simp at *; omega) | (split <;> first | omega | (simp; omega))) (by first | omega | (simp; done) | (simp; omega) | (simp at *; omega) | (split <;> first | omega | (simp; omega))) w) rfl ?_
    refine wl_v (o_move rfl) rfl ?_
    refine wl_v (o_move rfl) rfl ?_
    refine w_call Tryz.call23 rfl (fun w hw => matches_r p s (by first | omega | (simp; done) | (simp; omega) | (simp at *; omega) | (split <;> first | omega | (simp; omega))) (by first | omega | (simp; done) | (simp; omega) | (simp at *; omega) | (split <;> first | omega | (simp; omega))) w) rfl ?_
    refine wl_v (o_beq Tryz.underlying4 rfl rfl) rfl ?_
    refine wl_v (o_move rfl) rfl ?_
    refine bsplit ((matS p s) == (matS p s)) (fun h195 => ?_) (fun h195 => ?_)
    · have g195 := h195; try simp only [decide_eq_true_eq, decide_eq_false_iff_not] at g195
      have f195 := h195; try simp only [decide_eq_true_eq, decide_eq_false_iff_not, Bool.and_eq_true, Bool.or_eq_true, Bool.not_eq_true', Bool.not_eq_false', Bool.and_eq_false_iff, Bool.or_eq_false_iff, not_or, Int.not_lt, Int.not_le] at f195
      refine wl_on rfl rfl h195 ?_
      refine wl_v (o_move rfl) rfl ?_
      refine wl_on rfl rfl h195 ?_
      refine wl_v (o_move rfl) rfl ?_
      refine wl_on rfl rfl h195 ?_
      refine w_call Tryz.call24 rfl (fun w hw => covers_c p q (by first | omega | (simp; done) | (simp; omega) | (simp at *; omega) | (split <;> first | omega | (simp; omega))) (by first | omega | (simp; done) | (simp; omega) | (simp at *; omega) | (split <;> first | omega | (simp; omega))) w) rfl ?_
      refine wl_on rfl rfl h195 ?_
      refine wl_v (o_move rfl) rfl ?_
      refine wl_on rfl rfl h195 ?_
      refine wl_v (o_move rfl) rfl ?_
      refine wl_on rfl rfl h195 ?_
      refine w_call Tryz.call25 rfl (fun w hw => covers_r p q (by first | omega | (simp; done) | (simp; omega) | (simp at *; omega) | (split <;> first | omega | (simp; omega))) (by first | omega | (simp; done) | (simp; omega) | (simp at *; omega) | (split <;> first | omega | (simp; omega))) w) rfl ?_
      refine wl_on rfl rfl h195 ?_
      refine wl_v (o_beq Tryz.underlying4 rfl rfl) rfl ?_
      refine wl_v (o_pick_t rfl h195 rfl) rfl ?_
      refine wl_v (o_move rfl) rfl ?_
      refine bsplit ((covS p q) == (covS p q)) (fun h196 => ?_) (fun h196 => ?_)
      · have g196 := h196; try simp only [decide_eq_true_eq, decide_eq_false_iff_not] at g196
        have f196 := h196; try simp only [decide_eq_true_eq, decide_eq_false_iff_not, Bool.and_eq_true, Bool.or_eq_true, Bool.not_eq_true', Bool.not_eq_false', Bool.and_eq_false_iff, Bool.or_eq_false_iff, not_or, Int.not_lt, Int.not_le] at f196
        refine wl_on rfl rfl h196 ?_
        refine wl_v (o_move rfl) rfl ?_
        refine wl_on rfl rfl h196 ?_
        refine wl_v (o_move rfl) rfl ?_
        refine wl_on rfl rfl h196 ?_
        refine w_call Tryz.call24 rfl (fun w hw => covers_c q p (by first | omega | (simp; done) | (simp; omega) | (simp at *; omega) | (split <;> first | omega | (simp; omega))) (by first | omega | (simp; done) | (simp; omega) | (simp at *; omega) | (split <;> first | omega | (simp; omega))) w) rfl ?_
        refine wl_on rfl rfl h196 ?_
        refine wl_v (o_move rfl) rfl ?_
        refine wl_on rfl rfl h196 ?_
        refine wl_v (o_move rfl) rfl ?_
        refine wl_on rfl rfl h196 ?_
        refine w_call Tryz.call25 rfl (fun w hw => covers_r q p (by first | omega | (simp; done) | (simp; omega) | (simp at *; omega) | (split <;> first | omega | (simp; omega))) (by first | omega | (simp; done) | (simp; omega) | (simp at *; omega) | (split <;> first | omega | (simp; omega))) w) rfl ?_
        refine wl_on rfl rfl h196 ?_
        refine wl_v (o_beq Tryz.underlying4 rfl rfl) rfl ?_
        refine wl_v (o_pick_t rfl h196 rfl) rfl ?_
        refine wl_v (o_move rfl) rfl ?_
        refine bsplit ((covS q p) == (covS q p)) (fun h197 => ?_) (fun h197 => ?_)
        · have g197 := h197; try simp only [decide_eq_true_eq, decide_eq_false_iff_not] at g197
          have f197 := h197; try simp only [decide_eq_true_eq, decide_eq_false_iff_not, Bool.and_eq_true, Bool.or_eq_true, Bool.not_eq_true', Bool.not_eq_false', Bool.and_eq_false_iff, Bool.or_eq_false_iff, not_or, Int.not_lt, Int.not_le] at f197
          refine wl_on rfl rfl h197 ?_
          refine w_call Tryz.call13 rfl (fun w hw => awake_c w (hE.st0 hw)) rfl ?_
          refine wl_v (o_pick_t rfl h197 rfl) rfl ?_
          refine wl_v (o_assign rfl) rfl ?_
          refine wl_nil ?_
          exact wk_then (wk_mid trivial ⟨fb (by first | (simp only [h195, h196, h197, Bool.true_and, Bool.false_and, Bool.true_or, Bool.false_or, Bool.and_true, Bool.and_false, Bool.or_true, Bool.or_false, Bool.not_true, Bool.not_false, cond_true, cond_false, if_true, if_false, reduceIte, Bool.false_eq_true]; done) | (simp only [Bool.true_and, Bool.false_and, Bool.true_or, Bool.false_or, Bool.and_true, Bool.and_false, Bool.or_true, Bool.or_false, Bool.not_true, Bool.not_false, cond_true, cond_false, if_true, if_false, reduceIte, Bool.false_eq_true]; done) | simp [h195, h196, h197]), trivial⟩ .slnil)
        · have g197 := h197; try simp only [decide_eq_true_eq, decide_eq_false_iff_not] at g197
          have f197 := h197; try simp only [decide_eq_true_eq, decide_eq_false_iff_not, Bool.and_eq_true, Bool.or_eq_true, Bool.not_eq_true', Bool.not_eq_false', Bool.and_eq_false_iff, Bool.or_eq_false_iff, not_or, Int.not_lt, Int.not_le] at f197
          refine wl_off rfl rfl h197 rfl ?_
          refine wl_v (o_pick_f rfl h197 rfl) rfl ?_
          refine wl_v (o_assign rfl) rfl ?_
          refine wl_nil ?_
          exact wk_then (wk_mid trivial ⟨fb (by first | (simp only [h195, h196, h197, Bool.true_and, Bool.false_and, Bool.true_or, Bool.false_or, Bool.and_true, Bool.and_false, Bool.or_true, Bool.or_false, Bool.not_true, Bool.not_false, cond_true, cond_false, if_true, if_false, reduceIte, Bool.false_eq_true]; done) | (simp only [Bool.true_and, Bool.false_and, Bool.true_or, Bool.false_or, Bool.and_true, Bool.and_false, Bool.or_true, Bool.or_false, Bool.not_true, Bool.not_false, cond_true, cond_false, if_true, if_false, reduceIte, Bool.false_eq_true]; done) | simp [h195, h196, h197]), trivial⟩ .slnil)
      · have g196 := h196; try simp only [decide_eq_true_eq, decide_eq_false_iff_not] at g196
        have f196 := h196; try simp only [decide_eq_true_eq, decide_eq_false_iff_not, Bool.and_eq_true, Bool.or_eq_true, Bool.not_eq_true', Bool.not_eq_false', Bool.and_eq_false_iff, Bool.or_eq_false_iff, not_or, Int.not_lt, Int.not_le] at f196
        refine wl_off rfl rfl h196 rfl ?_
        refine wl_off rfl rfl h196 rfl ?_
        refine wl_off rfl rfl h196 rfl ?_
        refine wl_off rfl rfl h196 rfl ?_
        refine wl_off rfl rfl h196 rfl ?_
        refine wl_off rfl rfl h196 rfl ?_
        refine wl_off rfl rfl h196 rfl ?_
        refine wl_v (o_pick_f rfl h196 rfl) rfl ?_
        refine wl_v (o_move rfl) rfl ?_
        refine wl_off rfl rfl rfl rfl ?_
        refine wl_v (o_pick_f rfl rfl rfl) rfl ?_
        refine wl_v (o_assign rfl) rfl ?_
        refine wl_nil ?_
        exact wk_then (wk_mid trivial ⟨fb (by first | (simp only [h195, h196, Bool.true_and, Bool.false_and, Bool.true_or, Bool.false_or, Bool.and_true, Bool.and_false, Bool.or_true, Bool.or_false, Bool.not_true, Bool.not_false, cond_true, cond_false, if_true, if_false, reduceIte, Bool.false_eq_true]; done) | (simp only [Bool.true_and, Bool.false_and, Bool.true_or, Bool.false_or, Bool.and_true, Bool.and_false, Bool.or_true, Bool.or_false, Bool.not_true, Bool.not_false, cond_true, cond_false, if_true, if_false, reduceIte, Bool.false_eq_true]; done) | simp [h195, h196]), trivial⟩ .slnil)
    · have g195 := h195; try simp only [decide_eq_true_eq, decide_eq_false_iff_not] at g195
      have f195 := h195; try simp only [decide_eq_true_eq, decide_eq_false_iff_not, Bool.and_eq_true, Bool.or_eq_true, Bool.not_eq_true', Bool.not_eq_false', Bool.and_eq_false_iff, Bool.or_eq_false_iff, not_or, Int.not_lt, Int.not_le] at f195
      refine wl_off rfl rfl h195 rfl ?_
      refine wl_off rfl rfl h195 rfl ?_
      refine wl_off rfl rfl h195 rfl ?_
      refine wl_off rfl rfl h195 rfl ?_
      refine wl_off rfl rfl h195 rfl ?_
      refine wl_off rfl rfl h195 rfl ?_
      refine wl_off rfl rfl h195 rfl ?_
      refine wl_v (o_pick_f rfl h195 rfl) rfl ?_
      refine wl_v (o_move rfl) rfl ?_
      refine wl_off rfl rfl rfl rfl ?_
      refine wl_off rfl rfl rfl rfl ?_
      refine wl_off rfl rfl rfl rfl ?_
      refine wl_off rfl rfl rfl rfl ?_
      refine wl_off rfl rfl rfl rfl ?_
      refine wl_off rfl rfl rfl rfl ?_
      refine wl_off rfl rfl rfl rfl ?_
      refine wl_v (o_pick_f rfl rfl rfl) rfl ?_
      refine wl_v (o_move rfl) rfl ?_
      refine wl_off rfl rfl rfl rfl ?_
      refine wl_v (o_pick_f rfl rfl rfl) rfl ?_
      refine wl_v (o_assign rfl) rfl ?_
      refine wl_nil ?_
      exact wk_then (wk_mid trivial ⟨fb (by first | (simp only [h195, Bool.true_and, Bool.false_and, Bool.true_or, Bool.false_or, Bool.and_true, Bool.and_false, Bool.or_true, Bool.or_false, Bool.not_true, Bool.not_false, cond_true, cond_false, if_true, if_false, reduceIte, Bool.false_eq_true]; done) | (simp only [Bool.true_and, Bool.false_and, Bool.true_or, Bool.false_or, Bool.and_true, Bool.and_false, Bool.or_true, Bool.or_false, Bool.not_true, Bool.not_false, cond_true, cond_false, if_true, if_false, reduceIte, Bool.false_eq_true]; done) | simp [h195]), trivial⟩ .slnil)
  refine wc_ret ?_
  refine wk_ret (r_1 rfl rfl) ?_
  exact retv (by simp)

end Go.Proofs.YtjkdkmcklocmnaaGreatDoor
