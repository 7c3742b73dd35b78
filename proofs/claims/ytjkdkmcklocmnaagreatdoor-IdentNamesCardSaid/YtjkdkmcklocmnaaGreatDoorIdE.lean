/-
  Walks, printed by a small program of ours (gsym.py).
-/
import Derived.Test.YtjkdkmcklocmnaaGreatDoorPlD
import Derived.Test.YtjkdkmcklocmnaaGreatDoorIdR
namespace Go.Proofs.YtjkdkmcklocmnaaGreatDoor
open Go Go.RowKit
set_option linter.unusedVariables false
set_option linter.unusedSimpArgs false
set_option maxRecDepth 100000
theorem identNames_c (p : List UInt8) (hp : p.length ≤ 140737488355328) (w : World) (hE : Env w) : Calls Tryz.prog 3 [.string (B (p))].toArray w (RetV w (.bool true)) := by
  refine enter0 (n := 25) Tryz.func3 rfl Tryz.ntmps3 rfl ?_
  refine wc_seq ?_
  refine wc_region ?_
  refine wl_v (o_assign rfl) rfl ?_
  refine wl_nil ?_
  refine wk_then (wc_of_wk ?_)
  refine wc_seq_mid [(2, .bool ((((nameS p) == (nameS p)) && (((idS p) == (idS p)) && ((patS p) == (patS p))))))] [] (φ := True) ?_ (fun hm183 => ?_)
  · refine wc_region ?_
    refine wl_v (o_move rfl) rfl ?_
    refine w_call Tryz.call7 rfl (fun w hw => name_c p w) rfl ?_
    refine wl_v (o_move rfl) rfl ?_
    refine w_call Tryz.call8 rfl (fun w hw => name_r p (by first | omega | (simp; done) | (simp; omega) | (simp at *; omega) | (split <;> first | omega | (simp; omega))) w) rfl ?_
    refine wl_v (o_beq Tryz.underlying4 rfl rfl) rfl ?_
    refine wl_v (o_move rfl) rfl ?_
    refine bsplit ((nameS p) == (nameS p)) (fun h181 => ?_) (fun h181 => ?_)
    · have g181 := h181; try simp only [decide_eq_true_eq, decide_eq_false_iff_not] at g181
      have f181 := h181; try simp only [decide_eq_true_eq, decide_eq_false_iff_not, Bool.and_eq_true, Bool.or_eq_true, Bool.not_eq_true', Bool.not_eq_false', Bool.and_eq_false_iff, Bool.or_eq_false_iff, not_or, Int.not_lt, Int.not_le] at f181
      refine wl_on rfl rfl h181 ?_
      refine wl_v (o_move rfl) rfl ?_
      refine wl_on rfl rfl h181 ?_
      refine w_call Tryz.call9 rfl (fun w hw => id_c p w) rfl ?_
      refine wl_on rfl rfl h181 ?_
      refine wl_v (o_move rfl) rfl ?_
      refine wl_on rfl rfl h181 ?_
      refine w_call Tryz.call10 rfl (fun w hw => id_r p (by first | omega | (simp; done) | (simp; omega) | (simp at *; omega) | (split <;> first | omega | (simp; omega))) w) rfl ?_
      refine wl_on rfl rfl h181 ?_
      refine wl_v (o_beq Tryz.underlying4 rfl rfl) rfl ?_
      refine wl_v (o_pick_t rfl h181 rfl) rfl ?_
      refine wl_v (o_move rfl) rfl ?_
      refine bsplit ((idS p) == (idS p)) (fun h182 => ?_) (fun h182 => ?_)
      · have g182 := h182; try simp only [decide_eq_true_eq, decide_eq_false_iff_not] at g182
        have f182 := h182; try simp only [decide_eq_true_eq, decide_eq_false_iff_not, Bool.and_eq_true, Bool.or_eq_true, Bool.not_eq_true', Bool.not_eq_false', Bool.and_eq_false_iff, Bool.or_eq_false_iff, not_or, Int.not_lt, Int.not_le] at f182
        refine wl_on rfl rfl h182 ?_
        refine wl_v (o_move rfl) rfl ?_
        refine wl_on rfl rfl h182 ?_
        refine w_call Tryz.call11 rfl (fun w hw => pattern_c p (by first | omega | (simp; done) | (simp; omega) | (simp at *; omega) | (split <;> first | omega | (simp; omega))) w) rfl ?_
        refine wl_on rfl rfl h182 ?_
        refine wl_v (o_move rfl) rfl ?_
        refine wl_on rfl rfl h182 ?_
        refine w_call Tryz.call12 rfl (fun w hw => pattern_r p (by first | omega | (simp; done) | (simp; omega) | (simp at *; omega) | (split <;> first | omega | (simp; omega))) w) rfl ?_
        refine wl_on rfl rfl h182 ?_
        refine wl_v (o_beq Tryz.underlying4 rfl rfl) rfl ?_
        refine wl_v (o_pick_t rfl h182 rfl) rfl ?_
        refine wl_v (o_move rfl) rfl ?_
        refine bsplit ((patS p) == (patS p)) (fun h183 => ?_) (fun h183 => ?_)
        · have g183 := h183; try simp only [decide_eq_true_eq, decide_eq_false_iff_not] at g183
          have f183 := h183; try simp only [decide_eq_true_eq, decide_eq_false_iff_not, Bool.and_eq_true, Bool.or_eq_true, Bool.not_eq_true', Bool.not_eq_false', Bool.and_eq_false_iff, Bool.or_eq_false_iff, not_or, Int.not_lt, Int.not_le] at f183
          refine wl_on rfl rfl h183 ?_
          refine w_call Tryz.call13 rfl (fun w hw => awake_c w (hE.st0 hw)) rfl ?_
          refine wl_v (o_pick_t rfl h183 rfl) rfl ?_
          refine wl_v (o_assign rfl) rfl ?_
          refine wl_nil ?_
          exact wk_then (wk_mid trivial ⟨fb (by first | (simp only [h181, h182, h183, Bool.true_and, Bool.false_and, Bool.true_or, Bool.false_or, Bool.and_true, Bool.and_false, Bool.or_true, Bool.or_false, Bool.not_true, Bool.not_false, cond_true, cond_false, if_true, if_false, reduceIte, Bool.false_eq_true]; done) | (simp only [Bool.true_and, Bool.false_and, Bool.true_or, Bool.false_or, Bool.and_true, Bool.and_false, Bool.or_true, Bool.or_false, Bool.not_true, Bool.not_false, cond_true, cond_false, if_true, if_false, reduceIte, Bool.false_eq_true]; done) | simp [h181, h182, h183]), trivial⟩ .slnil)
        · have g183 := h183; try simp only [decide_eq_true_eq, decide_eq_false_iff_not] at g183
          have f183 := h183; try simp only [decide_eq_true_eq, decide_eq_false_iff_not, Bool.and_eq_true, Bool.or_eq_true, Bool.not_eq_true', Bool.not_eq_false', Bool.and_eq_false_iff, Bool.or_eq_false_iff, not_or, Int.not_lt, Int.not_le] at f183
          refine wl_off rfl rfl h183 rfl ?_
          refine wl_v (o_pick_f rfl h183 rfl) rfl ?_
          refine wl_v (o_assign rfl) rfl ?_
          refine wl_nil ?_
          exact wk_then (wk_mid trivial ⟨fb (by first | (simp only [h181, h182, h183, Bool.true_and, Bool.false_and, Bool.true_or, Bool.false_or, Bool.and_true, Bool.and_false, Bool.or_true, Bool.or_false, Bool.not_true, Bool.not_false, cond_true, cond_false, if_true, if_false, reduceIte, Bool.false_eq_true]; done) | (simp only [Bool.true_and, Bool.false_and, Bool.true_or, Bool.false_or, Bool.and_true, Bool.and_false, Bool.or_true, Bool.or_false, Bool.not_true, Bool.not_false, cond_true, cond_false, if_true, if_false, reduceIte, Bool.false_eq_true]; done) | simp [h181, h182, h183]), trivial⟩ .slnil)
      · have g182 := h182; try simp only [decide_eq_true_eq, decide_eq_false_iff_not] at g182
        have f182 := h182; try simp only [decide_eq_true_eq, decide_eq_false_iff_not, Bool.and_eq_true, Bool.or_eq_true, Bool.not_eq_true', Bool.not_eq_false', Bool.and_eq_false_iff, Bool.or_eq_false_iff, not_or, Int.not_lt, Int.not_le] at f182
        refine wl_off rfl rfl h182 rfl ?_
        refine wl_off rfl rfl h182 rfl ?_
        refine wl_off rfl rfl h182 rfl ?_
        refine wl_off rfl rfl h182 rfl ?_
        refine wl_off rfl rfl h182 rfl ?_
        refine wl_v (o_pick_f rfl h182 rfl) rfl ?_
        refine wl_v (o_move rfl) rfl ?_
        refine wl_off rfl rfl rfl rfl ?_
        refine wl_v (o_pick_f rfl rfl rfl) rfl ?_
        refine wl_v (o_assign rfl) rfl ?_
        refine wl_nil ?_
        exact wk_then (wk_mid trivial ⟨fb (by first | (simp only [h181, h182, Bool.true_and, Bool.false_and, Bool.true_or, Bool.false_or, Bool.and_true, Bool.and_false, Bool.or_true, Bool.or_false, Bool.not_true, Bool.not_false, cond_true, cond_false, if_true, if_false, reduceIte, Bool.false_eq_true]; done) | (simp only [Bool.true_and, Bool.false_and, Bool.true_or, Bool.false_or, Bool.and_true, Bool.and_false, Bool.or_true, Bool.or_false, Bool.not_true, Bool.not_false, cond_true, cond_false, if_true, if_false, reduceIte, Bool.false_eq_true]; done) | simp [h181, h182]), trivial⟩ .slnil)
    · have g181 := h181; try simp only [decide_eq_true_eq, decide_eq_false_iff_not] at g181
      have f181 := h181; try simp only [decide_eq_true_eq, decide_eq_false_iff_not, Bool.and_eq_true, Bool.or_eq_true, Bool.not_eq_true', Bool.not_eq_false', Bool.and_eq_false_iff, Bool.or_eq_false_iff, not_or, Int.not_lt, Int.not_le] at f181
      refine wl_off rfl rfl h181 rfl ?_
      refine wl_off rfl rfl h181 rfl ?_
      refine wl_off rfl rfl h181 rfl ?_
      refine wl_off rfl rfl h181 rfl ?_
      refine wl_off rfl rfl h181 rfl ?_
      refine wl_v (o_pick_f rfl h181 rfl) rfl ?_
      refine wl_v (o_move rfl) rfl ?_
      refine wl_off rfl rfl rfl rfl ?_
      refine wl_off rfl rfl rfl rfl ?_
      refine wl_off rfl rfl rfl rfl ?_
      refine wl_off rfl rfl rfl rfl ?_
      refine wl_off rfl rfl rfl rfl ?_
      refine wl_v (o_pick_f rfl rfl rfl) rfl ?_
      refine wl_v (o_move rfl) rfl ?_
      refine wl_off rfl rfl rfl rfl ?_
      refine wl_v (o_pick_f rfl rfl rfl) rfl ?_
      refine wl_v (o_assign rfl) rfl ?_
      refine wl_nil ?_
      exact wk_then (wk_mid trivial ⟨fb (by first | (simp only [h181, Bool.true_and, Bool.false_and, Bool.true_or, Bool.false_or, Bool.and_true, Bool.and_false, Bool.or_true, Bool.or_false, Bool.not_true, Bool.not_false, cond_true, cond_false, if_true, if_false, reduceIte, Bool.false_eq_true]; done) | (simp only [Bool.true_and, Bool.false_and, Bool.true_or, Bool.false_or, Bool.and_true, Bool.and_false, Bool.or_true, Bool.or_false, Bool.not_true, Bool.not_false, cond_true, cond_false, if_true, if_false, reduceIte, Bool.false_eq_true]; done) | simp [h181]), trivial⟩ .slnil)
  refine wc_ret ?_
  refine wk_ret (r_1 rfl rfl) ?_
  exact retv (by simp)

end Go.Proofs.YtjkdkmcklocmnaaGreatDoor
