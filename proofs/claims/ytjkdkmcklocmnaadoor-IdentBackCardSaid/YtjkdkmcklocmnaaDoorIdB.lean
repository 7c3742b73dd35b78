/-
  Walks, printed by a small program of ours (gsym.py).
-/
import Derived.Test.YtjkdkmcklocmnaaDoorFwF
import Derived.Test.YtjkdkmcklocmnaaDoorIdA
import Derived.Test.YtjkdkmcklocmnaaDoorPlB
namespace Go.Proofs.YtjkdkmcklocmnaaDoor
open Go Go.RowKit
set_option linter.unusedVariables false
set_option linter.unusedSimpArgs false
set_option maxRecDepth 100000
theorem hasPre0_c (p : List UInt8) (q : List UInt8) (hp : p.length ≤ 9223372036854775807) (w : World) : Calls Tryd.prog 41 [.string (B (p)), .string (B (q))].toArray w (RetV w (.bool (hasPre p q))) := by
  refine enter0 (n := 18) Tryd.func41 rfl Tryd.ntmps41 rfl ?_
  refine wc_seq ?_
  refine wc_region ?_
  refine wl_v (o_assign rfl) rfl ?_
  refine wl_nil ?_
  refine wk_then (wc_of_wk ?_)
  refine wc_seq_mid [(4, .bool (((decide (((q.length : Int)) ≤ ((p.length : Int)))) && (decide (((List.take (Int.toNat ((q.length : Int))) p)) = (q))))))] [] (φ := True) ?_ (fun hm39 => ?_)
  · refine wc_region ?_
    refine wl_v (o_move rfl) rfl ?_
    refine wl_v (o_len_s Tryd.underlying9 rfl) rfl ?_
    refine wl_v (o_move rfl) rfl ?_
    refine wl_v (o_len_s Tryd.underlying9 rfl) rfl ?_
    refine wl_v (o_ge rfl rfl) rfl ?_
    refine wl_v (o_move rfl) rfl ?_
    refine bsplit (decide (((q.length : Int)) ≤ ((p.length : Int)))) (fun h39 => ?_) (fun h39 => ?_)
    · have g39 := h39; try simp only [decide_eq_true_eq, decide_eq_false_iff_not] at g39
      have f39 := h39; try simp only [decide_eq_true_eq, decide_eq_false_iff_not, Bool.and_eq_true, Bool.or_eq_true, Bool.not_eq_true', Bool.not_eq_false', Bool.and_eq_false_iff, Bool.or_eq_false_iff, not_or, Int.not_lt, Int.not_le] at f39
      refine wl_on rfl rfl h39 ?_
      refine wl_v (o_move rfl) rfl ?_
      refine wl_on rfl rfl h39 ?_
      refine wl_v (o_move rfl) rfl ?_
      refine wl_on rfl rfl h39 ?_
      refine wl_v (o_len_s Tryd.underlying9 rfl) rfl ?_
      refine wl_on rfl rfl h39 ?_
      refine wl_v (o_slice_hi Tryd.underlying9 rfl rfl (by first | omega | (simp; omega)) (by first | omega | (simp; omega))) rfl ?_
      refine wl_on rfl rfl h39 ?_
      refine wl_v (o_move rfl) rfl ?_
      refine wl_on rfl rfl h39 ?_
      refine wl_v (o_seq rfl rfl) rfl ?_
      refine wl_v (o_pick_t rfl h39 rfl) rfl ?_
      refine wl_v (o_assign rfl) rfl ?_
      refine wl_nil ?_
      exact wk_then (wk_mid trivial ⟨fb (by first | (simp only [h39, Bool.true_and, Bool.false_and, Bool.true_or, Bool.false_or, Bool.and_true, Bool.and_false, Bool.or_true, Bool.or_false, Bool.not_true, Bool.not_false, cond_true, cond_false, if_true, if_false, reduceIte, Bool.false_eq_true]; done) | (simp only [Bool.true_and, Bool.false_and, Bool.true_or, Bool.false_or, Bool.and_true, Bool.and_false, Bool.or_true, Bool.or_false, Bool.not_true, Bool.not_false, cond_true, cond_false, if_true, if_false, reduceIte, Bool.false_eq_true]; done) | simp [h39]), trivial⟩ .slnil)
    · have g39 := h39; try simp only [decide_eq_true_eq, decide_eq_false_iff_not] at g39
      have f39 := h39; try simp only [decide_eq_true_eq, decide_eq_false_iff_not, Bool.and_eq_true, Bool.or_eq_true, Bool.not_eq_true', Bool.not_eq_false', Bool.and_eq_false_iff, Bool.or_eq_false_iff, not_or, Int.not_lt, Int.not_le] at f39
      refine wl_off rfl rfl h39 rfl ?_
      refine wl_off rfl rfl h39 rfl ?_
      refine wl_off rfl rfl h39 rfl ?_
      refine wl_off rfl rfl h39 rfl ?_
      refine wl_off rfl rfl h39 rfl ?_
      refine wl_off rfl rfl h39 rfl ?_
      refine wl_v (o_pick_f rfl h39 rfl) rfl ?_
      refine wl_v (o_assign rfl) rfl ?_
      refine wl_nil ?_
      exact wk_then (wk_mid trivial ⟨fb (by first | (simp only [h39, Bool.true_and, Bool.false_and, Bool.true_or, Bool.false_or, Bool.and_true, Bool.and_false, Bool.or_true, Bool.or_false, Bool.not_true, Bool.not_false, cond_true, cond_false, if_true, if_false, reduceIte, Bool.false_eq_true]; done) | (simp only [Bool.true_and, Bool.false_and, Bool.true_or, Bool.false_or, Bool.and_true, Bool.and_false, Bool.or_true, Bool.or_false, Bool.not_true, Bool.not_false, cond_true, cond_false, if_true, if_false, reduceIte, Bool.false_eq_true]; done) | simp [h39]), trivial⟩ .slnil)
  refine wc_ret ?_
  refine wk_ret (r_1 rfl rfl) ?_
  exact retv (by simp [hasPre])

theorem hasPre_c (p : List UInt8) (q : List UInt8) (hp : p.length ≤ 9223372036854775807) (w : World) : Calls Tryd.prog 27 [.string (B (p)), .string (B (q))].toArray w (RetV w (.bool (hasPre p q))) := by
  refine enter0 (n := 8) Tryd.func27 rfl Tryd.ntmps27 rfl ?_
  refine wc_seq ?_
  refine wc_region ?_
  refine wl_v (o_assign rfl) rfl ?_
  refine wl_nil ?_
  refine wk_then (wc_of_wk ?_)
  refine wc_seq ?_
  refine wc_region ?_
  refine wl_v (o_move rfl) rfl ?_
  refine wl_v (o_move rfl) rfl ?_
  refine w_call Tryd.call41 rfl (fun w hw => hasPre0_c p q (by first | omega | (simp; omega)) w) rfl ?_
  refine wl_v (o_assign rfl) rfl ?_
  refine wl_nil ?_
  refine wk_then (wc_of_wk ?_)
  refine wc_ret ?_
  refine wk_ret (r_1 rfl rfl) ?_
  exact retv (by first | rfl | simp [])

theorem hasSuf0_c (p : List UInt8) (q : List UInt8) (hp : p.length ≤ 9223372036854775807) (w : World) : Calls Tryd.prog 60 [.string (B (p)), .string (B (q))].toArray w (RetV w (.bool (hasSuf p q))) := by
  refine enter0 (n := 21) Tryd.func60 rfl Tryd.ntmps60 rfl ?_
  refine wc_seq ?_
  refine wc_region ?_
  refine wl_v (o_assign rfl) rfl ?_
  refine wl_nil ?_
  refine wk_then (wc_of_wk ?_)
  refine wc_seq_mid [(4, .bool (((decide (((q.length : Int)) ≤ ((p.length : Int)))) && (decide (((List.drop (Int.toNat ((p.length : Int) - (q.length : Int))) p)) = (q))))))] [] (φ := True) ?_ (fun hm41 => ?_)
  · refine wc_region ?_
    refine wl_v (o_move rfl) rfl ?_
    refine wl_v (o_len_s Tryd.underlying9 rfl) rfl ?_
    refine wl_v (o_move rfl) rfl ?_
    refine wl_v (o_len_s Tryd.underlying9 rfl) rfl ?_
    refine wl_v (o_ge rfl rfl) rfl ?_
    refine wl_v (o_move rfl) rfl ?_
    refine bsplit (decide (((q.length : Int)) ≤ ((p.length : Int)))) (fun h41 => ?_) (fun h41 => ?_)
    · have g41 := h41; try simp only [decide_eq_true_eq, decide_eq_false_iff_not] at g41
      have f41 := h41; try simp only [decide_eq_true_eq, decide_eq_false_iff_not, Bool.and_eq_true, Bool.or_eq_true, Bool.not_eq_true', Bool.not_eq_false', Bool.and_eq_false_iff, Bool.or_eq_false_iff, not_or, Int.not_lt, Int.not_le] at f41
      refine wl_on rfl rfl h41 ?_
      refine wl_v (o_move rfl) rfl ?_
      refine wl_on rfl rfl h41 ?_
      refine wl_v (o_move rfl) rfl ?_
      refine wl_on rfl rfl h41 ?_
      refine wl_v (o_len_s Tryd.underlying9 rfl) rfl ?_
      refine wl_on rfl rfl h41 ?_
      refine wl_v (o_move rfl) rfl ?_
      refine wl_on rfl rfl h41 ?_
      refine wl_v (o_len_s Tryd.underlying9 rfl) rfl ?_
      refine wl_on rfl rfl h41 ?_
      refine wl_v (o_sub rfl rfl (IntWalk.i64_in _ (by omega))) rfl ?_
      refine wl_on rfl rfl h41 ?_
      refine wl_v (o_slice_lo Tryd.underlying9 rfl rfl (by first | omega | (simp; omega)) (by first | omega | (simp; omega))) rfl ?_
      refine wl_on rfl rfl h41 ?_
      refine wl_v (o_move rfl) rfl ?_
      refine wl_on rfl rfl h41 ?_
      refine wl_v (o_seq rfl rfl) rfl ?_
      refine wl_v (o_pick_t rfl h41 rfl) rfl ?_
      refine wl_v (o_assign rfl) rfl ?_
      refine wl_nil ?_
      exact wk_then (wk_mid trivial ⟨fb (by first | (simp only [h41, Bool.true_and, Bool.false_and, Bool.true_or, Bool.false_or, Bool.and_true, Bool.and_false, Bool.or_true, Bool.or_false, Bool.not_true, Bool.not_false, cond_true, cond_false, if_true, if_false, reduceIte, Bool.false_eq_true]; done) | (simp only [Bool.true_and, Bool.false_and, Bool.true_or, Bool.false_or, Bool.and_true, Bool.and_false, Bool.or_true, Bool.or_false, Bool.not_true, Bool.not_false, cond_true, cond_false, if_true, if_false, reduceIte, Bool.false_eq_true]; done) | simp [h41]), trivial⟩ .slnil)
    · have g41 := h41; try simp only [decide_eq_true_eq, decide_eq_false_iff_not] at g41
      have f41 := h41; try simp only [decide_eq_true_eq, decide_eq_false_iff_not, Bool.and_eq_true, Bool.or_eq_true, Bool.not_eq_true', Bool.not_eq_false', Bool.and_eq_false_iff, Bool.or_eq_false_iff, not_or, Int.not_lt, Int.not_le] at f41
      refine wl_off rfl rfl h41 rfl ?_
      refine wl_off rfl rfl h41 rfl ?_
      refine wl_off rfl rfl h41 rfl ?_
      refine wl_off rfl rfl h41 rfl ?_
      refine wl_off rfl rfl h41 rfl ?_
      refine wl_off rfl rfl h41 rfl ?_
      refine wl_off rfl rfl h41 rfl ?_
      refine wl_off rfl rfl h41 rfl ?_
      refine wl_off rfl rfl h41 rfl ?_
      refine wl_v (o_pick_f rfl h41 rfl) rfl ?_
      refine wl_v (o_assign rfl) rfl ?_
      refine wl_nil ?_
      exact wk_then (wk_mid trivial ⟨fb (by first | (simp only [h41, Bool.true_and, Bool.false_and, Bool.true_or, Bool.false_or, Bool.and_true, Bool.and_false, Bool.or_true, Bool.or_false, Bool.not_true, Bool.not_false, cond_true, cond_false, if_true, if_false, reduceIte, Bool.false_eq_true]; done) | (simp only [Bool.true_and, Bool.false_and, Bool.true_or, Bool.false_or, Bool.and_true, Bool.and_false, Bool.or_true, Bool.or_false, Bool.not_true, Bool.not_false, cond_true, cond_false, if_true, if_false, reduceIte, Bool.false_eq_true]; done) | simp [h41]), trivial⟩ .slnil)
  refine wc_ret ?_
  refine wk_ret (r_1 rfl rfl) ?_
  exact retv (by simp [hasSuf])

theorem hasSuf_c (p : List UInt8) (q : List UInt8) (hp : p.length ≤ 9223372036854775807) (w : World) : Calls Tryd.prog 40 [.string (B (p)), .string (B (q))].toArray w (RetV w (.bool (hasSuf p q))) := by
  refine enter0 (n := 8) Tryd.func40 rfl Tryd.ntmps40 rfl ?_
  refine wc_seq ?_
  refine wc_region ?_
  refine wl_v (o_assign rfl) rfl ?_
  refine wl_nil ?_
  refine wk_then (wc_of_wk ?_)
  refine wc_seq ?_
  refine wc_region ?_
  refine wl_v (o_move rfl) rfl ?_
  refine wl_v (o_move rfl) rfl ?_
  refine w_call Tryd.call60 rfl (fun w hw => hasSuf0_c p q (by first | omega | (simp; omega)) w) rfl ?_
  refine wl_v (o_assign rfl) rfl ?_
  refine wl_nil ?_
  refine wk_then (wc_of_wk ?_)
  refine wc_ret ?_
  refine wk_ret (r_1 rfl rfl) ?_
  exact retv (by first | rfl | simp [])

theorem trimSuf0_c (p : List UInt8) (q : List UInt8) (hp : p.length ≤ 9223372036854775807) (w : World) : Calls Tryd.prog 59 [.string (B (p)), .string (B (q))].toArray w (RetV w (.string (B (trimSuf p q)))) := by
  refine enter0 (n := 16) Tryd.func59 rfl Tryd.ntmps59 rfl ?_
  refine wc_seq ?_
  refine wc_region ?_
  refine wl_v (o_assign rfl) rfl ?_
  refine wl_nil ?_
  refine wk_then (wc_of_wk ?_)
  refine wc_seq ?_
  refine wc_seq ?_
  refine wc_region ?_
  refine wl_v (o_move rfl) rfl ?_
  refine wl_v (o_move rfl) rfl ?_
  refine w_call Tryd.call60 rfl (fun w hw => hasSuf0_c p q (by first | omega | (simp; omega)) w) rfl ?_
  refine wl_nil ?_
  refine wk_then (wc_of_wk ?_)
  refine wc_cond (b := hasSuf p q) rfl (fun h43 => ?_) (fun h43 => ?_)
  · have g43 := h43; try simp only [decide_eq_true_eq, decide_eq_false_iff_not] at g43
    have f43 := h43; try simp only [decide_eq_true_eq, decide_eq_false_iff_not, Bool.and_eq_true, Bool.or_eq_true, Bool.not_eq_true', Bool.not_eq_false', Bool.and_eq_false_iff, Bool.or_eq_false_iff, not_or, Int.not_lt, Int.not_le] at f43
    refine wc_seq ?_
    refine wc_region ?_
    refine wl_v (o_move rfl) rfl ?_
    refine wl_v (o_move rfl) rfl ?_
    refine wl_v (o_len_s Tryd.underlying9 rfl) rfl ?_
    refine wl_v (o_move rfl) rfl ?_
    refine wl_v (o_len_s Tryd.underlying9 rfl) rfl ?_
    refine wl_v (o_sub rfl rfl (IntWalk.i64_in _ (by first | omega | (have := hasSuf_len (by assumption); omega)))) rfl ?_
    refine wl_v (o_slice_hi Tryd.underlying9 rfl rfl (by first | omega | (have := hasSuf_len (by assumption); omega)) (by first | omega | (have := hasSuf_len (by assumption); omega))) rfl ?_
    refine wl_v (o_assign rfl) rfl ?_
    refine wl_nil ?_
    refine wk_then (wc_of_wk ?_)
    refine wc_ret ?_
    refine wk_then_ret ?_
    refine wk_ret (r_1 rfl rfl) ?_
    exact retv (by simp [trimSuf, h43])
  · have g43 := h43; try simp only [decide_eq_true_eq, decide_eq_false_iff_not] at g43
    have f43 := h43; try simp only [decide_eq_true_eq, decide_eq_false_iff_not, Bool.and_eq_true, Bool.or_eq_true, Bool.not_eq_true', Bool.not_eq_false', Bool.and_eq_false_iff, Bool.or_eq_false_iff, not_or, Int.not_lt, Int.not_le] at f43
    refine wc_skip ?_
    refine wk_then (wc_of_wk ?_)
    refine wc_seq ?_
    refine wc_region ?_
    refine wl_v (o_move rfl) rfl ?_
    refine wl_v (o_assign rfl) rfl ?_
    refine wl_nil ?_
    refine wk_then (wc_of_wk ?_)
    refine wc_ret ?_
    refine wk_ret (r_1 rfl rfl) ?_
    exact retv (by simp [trimSuf, h43])

theorem trimSuf_c (p : List UInt8) (q : List UInt8) (hp : p.length ≤ 9223372036854775807) (w : World) : Calls Tryd.prog 39 [.string (B (p)), .string (B (q))].toArray w (RetV w (.string (B (trimSuf p q)))) := by
  refine enter0 (n := 8) Tryd.func39 rfl Tryd.ntmps39 rfl ?_
  refine wc_seq ?_
  refine wc_region ?_
  refine wl_v (o_assign rfl) rfl ?_
  refine wl_nil ?_
  refine wk_then (wc_of_wk ?_)
  refine wc_seq ?_
  refine wc_region ?_
  refine wl_v (o_move rfl) rfl ?_
  refine wl_v (o_move rfl) rfl ?_
  refine w_call Tryd.call59 rfl (fun w hw => trimSuf0_c p q (by first | omega | (simp; omega)) w) rfl ?_
  refine wl_v (o_assign rfl) rfl ?_
  refine wl_nil ?_
  refine wk_then (wc_of_wk ?_)
  refine wc_ret ?_
  refine wk_ret (r_1 rfl rfl) ?_
  exact retv (by first | rfl | simp [])

theorem indexByte_c (p : List UInt8) (m : Int) (w : World) : Calls Tryd.prog 71 [.string (B (p)), .int .u8 (m)].toArray w (RetV w (.int .i64 (Lib.indexByte p (Int.toNat m).toUInt8))) := by
  refine enter0 (n := 8) Tryd.func71 rfl Tryd.ntmps71 rfl ?_
  refine wc_seq ?_
  refine wc_region ?_
  refine wl_v (o_assign rfl) rfl ?_
  refine wl_nil ?_
  refine wk_then (wc_of_wk ?_)
  refine wc_seq ?_
  refine wc_region ?_
  refine wl_v (o_move rfl) rfl ?_
  refine wl_v (o_move rfl) rfl ?_
  refine wl_v (v := .int .i64 (Lib.indexByte p (Int.toNat (m)).toUInt8)) (o_ext rfl (indexByte_run Tryd.func82 (by kernel_rfl) (by kernel_rfl) (by kernel_rfl) (by kernel_rfl) p (m))) rfl ?_
  refine wl_v (o_assign rfl) rfl ?_
  refine wl_nil ?_
  refine wk_then (wc_of_wk ?_)
  refine wc_ret ?_
  refine wk_ret (r_1 rfl rfl) ?_
  exact retv (by first | rfl | simp [])

theorem index1_c (p : List UInt8) (c : UInt8) (w : World) : Calls Tryd.prog 61 [.string (B (p)), .string (B ([c]))].toArray w (RetV w (.int .i64 (Lib.indexByte p c))) := by
  refine enter0 (n := 143) Tryd.func61 rfl Tryd.ntmps61 rfl ?_
  refine wc_seq ?_
  refine wc_region ?_
  refine wl_v (o_assign rfl) rfl ?_
  refine wl_nil ?_
  refine wk_then (wc_of_wk ?_)
  refine wc_seq ?_
  refine wc_region ?_
  refine wl_v (o_move rfl) rfl ?_
  refine wl_v (o_len_k (z := 1) Tryd.underlying9 rfl (by simp)) rfl ?_
  refine wl_v (o_assign rfl) rfl ?_
  refine wl_nil ?_
  refine wk_then (wc_of_wk ?_)
  refine wc_seq ?_
  refine wc_block ?_
  refine wc_seq_mid [(0, .string (B (p))), (1, .string (B ([c]))), (4, .int .i64 (0)), (5, .int .i64 (1)), (16, .bool (decide ((([c] : List UInt8)) = (p))))] [] (φ := True) ?_ (fun hm43 => ?_)
  · refine wc_region ?_
    refine wl_v (o_move rfl) rfl ?_
    refine wl_v (o_eq rfl rfl) rfl ?_
    refine wl_v (o_move rfl) rfl ?_
    refine wl_on rfl rfl (by decide) ?_
    refine wl_v (o_move rfl) rfl ?_
    refine wl_on rfl rfl (by decide) ?_
    refine wl_v (o_move rfl) rfl ?_
    refine wl_on rfl rfl (by decide) ?_
    refine wl_v (o_seq rfl rfl) rfl ?_
    refine wl_v (o_pick_f rfl (by decide) rfl) rfl ?_
    refine wl_v (o_assign rfl) rfl ?_
    refine wl_nil ?_
    exact wk_then (wk_mid trivial ⟨rfl, rfl, rfl, rfl, rfl, trivial⟩ .slnil)
  refine wc_cond (b := decide ((([c] : List UInt8)) = (p))) rfl (fun h45 => ?_) (fun h45 => ?_)
  · have g45 := h45; try simp only [decide_eq_true_eq, decide_eq_false_iff_not] at g45
    have f45 := h45; try simp only [decide_eq_true_eq, decide_eq_false_iff_not, Bool.and_eq_true, Bool.or_eq_true, Bool.not_eq_true', Bool.not_eq_false', Bool.and_eq_false_iff, Bool.or_eq_false_iff, not_or, Int.not_lt, Int.not_le] at f45
    refine wc_seq ?_
    refine wc_region ?_
    refine wl_v (o_assign rfl) rfl ?_
    refine wl_nil ?_
    refine wk_then (wc_of_wk ?_)
    refine wc_ret ?_
    refine wk_in_ret ?_
    refine wk_then_ret ?_
    refine wk_ret (r_1 rfl rfl) ?_
    exact retv (by first | (simp; done) | (rw [← f45]; simp [Lib.indexByte]; done))
  · have g45 := h45; try simp only [decide_eq_true_eq, decide_eq_false_iff_not] at g45
    have f45 := h45; try simp only [decide_eq_true_eq, decide_eq_false_iff_not, Bool.and_eq_true, Bool.or_eq_true, Bool.not_eq_true', Bool.not_eq_false', Bool.and_eq_false_iff, Bool.or_eq_false_iff, not_or, Int.not_lt, Int.not_le] at f45
    refine wc_seq ?_
    refine wc_region ?_
    refine wl_v (o_move rfl) rfl ?_
    refine wl_v (o_eq rfl rfl) rfl ?_
    refine wl_v (o_assign rfl) rfl ?_
    refine wl_nil ?_
    refine wk_then (wc_of_wk ?_)
    refine wc_cond_t rfl (by decide) ?_
    refine wc_seq ?_
    refine wc_region ?_
    refine wl_v (o_move rfl) rfl ?_
    refine wl_v (o_move rfl) rfl ?_
    refine wl_v (o_index_s (c := c) Tryd.underlying9 rfl rfl (by decide) rfl) rfl ?_
    refine w_call Tryd.call71 rfl (fun w hw => indexByte_c p (UInt8.toNat c : Int) w) rfl ?_
    refine wl_v (o_assign rfl) rfl ?_
    refine wl_nil ?_
    refine wk_then (wc_of_wk ?_)
    refine wc_ret ?_
    refine wk_in_ret ?_
    refine wk_then_ret ?_
    refine wk_ret (r_1 rfl rfl) ?_
    exact retv (by first | (simp; done) | (rw [← f45]; simp [Lib.indexByte]; done))

theorem cut0_c (p : List UInt8) (c : UInt8) (hp : p.length ≤ 9223372036854775807) (w : World) : Calls Tryd.prog 42 [.string (B (p)), .string (B ([c]))].toArray w (RetV w (.tuple #[.string (B (cutB p c)), .string (B (cutA p c)), .bool (cutF p c)])) := by
  refine enter0 (n := 23) Tryd.func42 rfl Tryd.ntmps42 rfl ?_
  refine wc_seq ?_
  refine wc_region ?_
  refine wl_v (o_assign rfl) rfl ?_
  refine wl_v (o_assign rfl) rfl ?_
  refine wl_v (o_assign rfl) rfl ?_
  refine wl_nil ?_
  refine wk_then (wc_of_wk ?_)
  refine wc_seq ?_
  refine wc_seq ?_
  refine wc_region ?_
  refine wl_v (o_move rfl) rfl ?_
  refine wl_v (o_move rfl) rfl ?_
  refine w_call Tryd.call61 rfl (fun w hw => index1_c p c w) rfl ?_
  have ft46 := idx_bd p c
  refine wl_v (o_assign rfl) rfl ?_
  refine wl_nil ?_
  refine wk_then (wc_of_wk ?_)
  refine wc_seq ?_
  refine wc_region ?_
  refine wl_v (o_move rfl) rfl ?_
  refine wl_v (o_ge rfl rfl) rfl ?_
  refine wl_nil ?_
  refine wk_then (wc_of_wk ?_)
  refine wc_cond (b := decide ((0) ≤ (Lib.indexByte p c))) rfl (fun h47 => ?_) (fun h47 => ?_)
  · have g47 := h47; try simp only [decide_eq_true_eq, decide_eq_false_iff_not] at g47
    have f47 := h47; try simp only [decide_eq_true_eq, decide_eq_false_iff_not, Bool.and_eq_true, Bool.or_eq_true, Bool.not_eq_true', Bool.not_eq_false', Bool.and_eq_false_iff, Bool.or_eq_false_iff, not_or, Int.not_lt, Int.not_le] at f47
    refine wc_seq ?_
    refine wc_region_q (by kernel_rfl) (by kernel_rfl) ?_
    refine wq_v (o_move rfl) rfl ?_
    refine wq_v (o_move rfl) rfl ?_
    refine wq_v (o_slice_hi Tryd.underlying9 rfl rfl (by first | omega | (simp; omega)) (by first | omega | (simp; omega))) rfl ?_
    refine wq_v (o_move rfl) rfl ?_
    refine wq_v (o_move rfl) rfl ?_
    refine wq_v (o_move rfl) rfl ?_
    refine wq_v (o_len_k (z := 1) Tryd.underlying9 rfl (by simp)) rfl ?_
    refine wq_v (o_add rfl rfl (IntWalk.i64_in _ (by omega))) rfl ?_
    refine wq_v (o_slice_lo Tryd.underlying9 rfl rfl (by first | omega | (simp; omega)) (by first | omega | (simp; omega))) rfl ?_
    refine wq_v (o_assign rfl) rfl ?_
    refine wq_v (o_assign rfl) rfl ?_
    refine wq_v (o_assign rfl) rfl ?_
    refine wq_nil ?_
    refine wk_then (wc_of_wk ?_)
    refine wc_ret ?_
    refine wk_then_ret ?_
    refine wk_ret (r_3 rfl rfl rfl rfl) ?_
    exact retv (by simp [cutB, cutA, cutF, B, g47])
  · have g47 := h47; try simp only [decide_eq_true_eq, decide_eq_false_iff_not] at g47
    have f47 := h47; try simp only [decide_eq_true_eq, decide_eq_false_iff_not, Bool.and_eq_true, Bool.or_eq_true, Bool.not_eq_true', Bool.not_eq_false', Bool.and_eq_false_iff, Bool.or_eq_false_iff, not_or, Int.not_lt, Int.not_le] at f47
    refine wc_skip ?_
    refine wk_then (wc_of_wk ?_)
    refine wc_seq ?_
    refine wc_region ?_
    refine wl_v (o_move rfl) rfl ?_
    refine wl_v (o_assign rfl) rfl ?_
    refine wl_v (o_assign rfl) rfl ?_
    refine wl_v (o_assign rfl) rfl ?_
    refine wl_nil ?_
    refine wk_then (wc_of_wk ?_)
    refine wc_ret ?_
    refine wk_ret (r_3 rfl rfl rfl rfl) ?_
    exact retv (by simp [cutB, cutA, cutF, B, g47])

theorem cut_c (p : List UInt8) (c : UInt8) (hp : p.length ≤ 9223372036854775807) (w : World) : Calls Tryd.prog 29 [.string (B (p)), .string (B ([c]))].toArray w (RetV w (.tuple #[.string (B (cutB p c)), .string (B (cutA p c)), .bool (cutF p c)])) := by
  refine enter0 (n := 13) Tryd.func29 rfl Tryd.ntmps29 rfl ?_
  refine wc_seq ?_
  refine wc_region ?_
  refine wl_v (o_assign rfl) rfl ?_
  refine wl_v (o_assign rfl) rfl ?_
  refine wl_v (o_assign rfl) rfl ?_
  refine wl_nil ?_
  refine wk_then (wc_of_wk ?_)
  refine wc_seq ?_
  refine wc_region ?_
  refine wl_v (o_move rfl) rfl ?_
  refine wl_v (o_move rfl) rfl ?_
  refine w_call Tryd.call42 rfl (fun w hw => cut0_c p c (by first | omega | (simp; omega)) w) rfl ?_
  refine wl_v (o_extract rfl rfl) rfl ?_
  refine wl_v (o_extract rfl rfl) rfl ?_
  refine wl_v (o_extract rfl rfl) rfl ?_
  refine wl_v (o_assign rfl) rfl ?_
  refine wl_v (o_assign rfl) rfl ?_
  refine wl_v (o_assign rfl) rfl ?_
  refine wl_nil ?_
  refine wk_then (wc_of_wk ?_)
  refine wc_ret ?_
  refine wk_ret (r_3 rfl rfl rfl rfl) ?_
  exact retv (by first | rfl | simp [])

end Go.Proofs.YtjkdkmcklocmnaaDoor
