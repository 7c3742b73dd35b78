/-
  Walks, printed by a small program of ours (gsym.py).
-/
import Derived.Test.YtjkdkmcklocmnaaGreatDoorFwF
import Derived.Test.YtjkdkmcklocmnaaGreatDoorIdA
import Derived.Test.YtjkdkmcklocmnaaGreatDoorPlB
namespace Go.Proofs.YtjkdkmcklocmnaaGreatDoor
open Go Go.RowKit
set_option linter.unusedVariables false
set_option linter.unusedSimpArgs false
set_option maxRecDepth 100000
theorem hasPre0_c (p : List UInt8) (q : List UInt8) (hp : p.length ≤ 9223372036854775807) (w : World) : Calls Tryz.prog 62 [.string (B (p)), .string (B (q))].toArray w (RetV w (.bool (hasPre p q))) := by
  refine enter0 (n := 18) Tryz.func62 rfl Tryz.ntmps62 rfl ?_
  refine wc_seq ?_
  refine wc_region ?_
  refine wl_v (o_assign rfl) rfl ?_
  refine wl_nil ?_
  refine wk_then (wc_of_wk ?_)
  refine wc_seq_mid [(4, .bool (((decide (((q.length : Int)) ≤ ((p.length : Int)))) && (decide (((List.take (Int.toNat ((q.length : Int))) p)) = (q))))))] [] (φ := True) ?_ (fun hm57 => ?_)
  · refine wc_region ?_
    refine wl_v (o_move rfl) rfl ?_
    refine wl_v (o_len_s Tryz.underlying9 rfl) rfl ?_
    refine wl_v (o_move rfl) rfl ?_
    refine wl_v (o_len_s Tryz.underlying9 rfl) rfl ?_
    refine wl_v (o_ge rfl rfl) rfl ?_
    refine wl_v (o_move rfl) rfl ?_
    refine bsplit (decide (((q.length : Int)) ≤ ((p.length : Int)))) (fun h57 => ?_) (fun h57 => ?_)
    · have g57 := h57; try simp only [decide_eq_true_eq, decide_eq_false_iff_not] at g57
      have f57 := h57; try simp only [decide_eq_true_eq, decide_eq_false_iff_not, Bool.and_eq_true, Bool.or_eq_true, Bool.not_eq_true', Bool.not_eq_false', Bool.and_eq_false_iff, Bool.or_eq_false_iff, not_or, Int.not_lt, Int.not_le] at f57
      refine wl_on rfl rfl h57 ?_
      refine wl_v (o_move rfl) rfl ?_
      refine wl_on rfl rfl h57 ?_
      refine wl_v (o_move rfl) rfl ?_
      refine wl_on rfl rfl h57 ?_
      refine wl_v (o_len_s Tryz.underlying9 rfl) rfl ?_
      refine wl_on rfl rfl h57 ?_
      refine wl_v (o_slice_hi Tryz.underlying9 rfl rfl (by first | omega | (simp; omega)) (by first | omega | (simp; omega))) rfl ?_
      refine wl_on rfl rfl h57 ?_
      refine wl_v (o_move rfl) rfl ?_
      refine wl_on rfl rfl h57 ?_
      refine wl_v (o_seq rfl rfl) rfl ?_
      refine wl_v (o_pick_t rfl h57 rfl) rfl ?_
      refine wl_v (o_assign rfl) rfl ?_
      refine wl_nil ?_
      exact wk_then (wk_mid trivial ⟨fb (by first | (simp only [h57, Bool.true_and, Bool.false_and, Bool.true_or, Bool.false_or, Bool.and_true, Bool.and_false, Bool.or_true, Bool.or_false, Bool.not_true, Bool.not_false, cond_true, cond_false, if_true, if_false, reduceIte, Bool.false_eq_true]; done) | (simp only [Bool.true_and, Bool.false_and, Bool.true_or, Bool.false_or, Bool.and_true, Bool.and_false, Bool.or_true, Bool.or_false, Bool.not_true, Bool.not_false, cond_true, cond_false, if_true, if_false, reduceIte, Bool.false_eq_true]; done) | simp [h57]), trivial⟩ .slnil)
    · have g57 := h57; try simp only [decide_eq_true_eq, decide_eq_false_iff_not] at g57
      have f57 := h57; try simp only [decide_eq_true_eq, decide_eq_false_iff_not, Bool.and_eq_true, Bool.or_eq_true, Bool.not_eq_true', Bool.not_eq_false', Bool.and_eq_false_iff, Bool.or_eq_false_iff, not_or, Int.not_lt, Int.not_le] at f57
      refine wl_off rfl rfl h57 rfl ?_
      refine wl_off rfl rfl h57 rfl ?_
      refine wl_off rfl rfl h57 rfl ?_
      refine wl_off rfl rfl h57 rfl ?_
      refine wl_off rfl rfl h57 rfl ?_
      refine wl_off rfl rfl h57 rfl ?_
      refine wl_v (o_pick_f rfl h57 rfl) rfl ?_
      refine wl_v (o_assign rfl) rfl ?_
      refine wl_nil ?_
      exact wk_then (wk_mid trivial ⟨fb (by first | (simp only [h57, Bool.true_and, Bool.false_and, Bool.true_or, Bool.false_or, Bool.and_true, Bool.and_false, Bool.or_true, Bool.or_false, Bool.not_true, Bool.not_false, cond_true, cond_false, if_true, if_false, reduceIte, Bool.false_eq_true]; done) | (simp only [Bool.true_and, Bool.false_and, Bool.true_or, Bool.false_or, Bool.and_true, Bool.and_false, Bool.or_true, Bool.or_false, Bool.not_true, Bool.not_false, cond_true, cond_false, if_true, if_false, reduceIte, Bool.false_eq_true]; done) | simp [h57]), trivial⟩ .slnil)
  refine wc_ret ?_
  refine wk_ret (r_1 rfl rfl) ?_
  exact retv (by simp [hasPre])

theorem hasPre_c (p : List UInt8) (q : List UInt8) (hp : p.length ≤ 9223372036854775807) (w : World) : Calls Tryz.prog 46 [.string (B (p)), .string (B (q))].toArray w (RetV w (.bool (hasPre p q))) := by
  refine enter0 (n := 8) Tryz.func46 rfl Tryz.ntmps46 rfl ?_
  refine wc_seq ?_
  refine wc_region ?_
  refine wl_v (o_assign rfl) rfl ?_
  refine wl_nil ?_
  refine wk_then (wc_of_wk ?_)
  refine wc_seq ?_
  refine wc_region ?_
  refine wl_v (o_move rfl) rfl ?_
  refine wl_v (o_move rfl) rfl ?_
  refine w_call Tryz.call62 rfl (fun w hw => hasPre0_c p q (by first | omega | (simp; omega)) w) rfl ?_
  refine wl_v (o_assign rfl) rfl ?_
  refine wl_nil ?_
  refine wk_then (wc_of_wk ?_)
  refine wc_ret ?_
  refine wk_ret (r_1 rfl rfl) ?_
  exact retv (by first | rfl | simp [])

theorem hasSuf0_c (p : List UInt8) (q : List UInt8) (hp : p.length ≤ 9223372036854775807) (w : World) : Calls Tryz.prog 64 [.string (B (p)), .string (B (q))].toArray w (RetV w (.bool (hasSuf p q))) := by
  refine enter0 (n := 21) Tryz.func64 rfl Tryz.ntmps64 rfl ?_
  refine wc_seq ?_
  refine wc_region ?_
  refine wl_v (o_assign rfl) rfl ?_
  refine wl_nil ?_
  refine wk_then (wc_of_wk ?_)
  refine wc_seq_mid [(4, .bool (((decide (((q.length : Int)) ≤ ((p.length : Int)))) && (decide (((List.drop (Int.toNat ((p.length : Int) - (q.length : Int))) p)) = (q))))))] [] (φ := True) ?_ (fun hm59 => ?_)
  · refine wc_region ?_
    refine wl_v (o_move rfl) rfl ?_
    refine wl_v (o_len_s Tryz.underlying9 rfl) rfl ?_
    refine wl_v (o_move rfl) rfl ?_
    refine wl_v (o_len_s Tryz.underlying9 rfl) rfl ?_
    refine wl_v (o_ge rfl rfl) rfl ?_
    refine wl_v (o_move rfl) rfl ?_
    refine bsplit (decide (((q.length : Int)) ≤ ((p.length : Int)))) (fun h59 => ?_) (fun h59 => ?_)
    · have g59 := h59; try simp only [decide_eq_true_eq, decide_eq_false_iff_not] at g59
      have f59 := h59; try simp only [decide_eq_true_eq, decide_eq_false_iff_not, Bool.and_eq_true, Bool.or_eq_true, Bool.not_eq_true', Bool.not_eq_false', Bool.and_eq_false_iff, Bool.or_eq_false_iff, not_or, Int.not_lt, Int.not_le] at f59
      refine wl_on rfl rfl h59 ?_
      refine wl_v (o_move rfl) rfl ?_
      refine wl_on rfl rfl h59 ?_
      refine wl_v (o_move rfl) rfl ?_
      refine wl_on rfl rfl h59 ?_
      refine wl_v (o_len_s Tryz.underlying9 rfl) rfl ?_
      refine wl_on rfl rfl h59 ?_
      refine wl_v (o_move rfl) rfl ?_
      refine wl_on rfl rfl h59 ?_
      refine wl_v (o_len_s Tryz.underlying9 rfl) rfl ?_
      refine wl_on rfl rfl h59 ?_
      refine wl_v (o_sub rfl rfl (IntWalk.i64_in _ (by omega))) rfl ?_
      refine wl_on rfl rfl h59 ?_
      refine wl_v (o_slice_lo Tryz.underlying9 rfl rfl (by first | omega | (simp; omega)) (by first | omega | (simp; omega))) rfl ?_
      refine wl_on rfl rfl h59 ?_
      refine wl_v (o_move rfl) rfl ?_
      refine wl_on rfl rfl h59 ?_
      refine wl_v (o_seq rfl rfl) rfl ?_
      refine wl_v (o_pick_t rfl h59 rfl) rfl ?_
      refine wl_v (o_assign rfl) rfl ?_
      refine wl_nil ?_
      exact wk_then (wk_mid trivial ⟨fb (by first | (simp only [h59, Bool.true_and, Bool.false_and, Bool.true_or, Bool.false_or, Bool.and_true, Bool.and_false, Bool.or_true, Bool.or_false, Bool.not_true, Bool.not_false, cond_true, cond_false, if_true, if_false, reduceIte, Bool.false_eq_true]; done) | (simp only [Bool.true_and, Bool.false_and, Bool.true_or, Bool.false_or, Bool.and_true, Bool.and_false, Bool.or_true, Bool.or_false, Bool.not_true, Bool.not_false, cond_true, cond_false, if_true, if_false, reduceIte, Bool.false_eq_true]; done) | simp [h59]), trivial⟩ .slnil)
    · have g59 := h59; try simp only [decide_eq_true_eq, decide_eq_false_iff_not] at g59
      have f59 := h59; try simp only [decide_eq_true_eq, decide_eq_false_iff_not, Bool.and_eq_true, Bool.or_eq_true, Bool.not_eq_true', Bool.not_eq_false', Bool.and_eq_false_iff, Bool.or_eq_false_iff, not_or, Int.not_lt, Int.not_le] at f59
      refine wl_off rfl rfl h59 rfl ?_
      refine wl_off rfl rfl h59 rfl ?_
      refine wl_off rfl rfl h59 rfl ?_
      refine wl_off rfl rfl h59 rfl ?_
      refine wl_off rfl rfl h59 rfl ?_
      refine wl_off rfl rfl h59 rfl ?_
      refine wl_off rfl rfl h59 rfl ?_
      refine wl_off rfl rfl h59 rfl ?_
      refine wl_off rfl rfl h59 rfl ?_
      refine wl_v (o_pick_f rfl h59 rfl) rfl ?_
      refine wl_v (o_assign rfl) rfl ?_
      refine wl_nil ?_
      exact wk_then (wk_mid trivial ⟨fb (by first | (simp only [h59, Bool.true_and, Bool.false_and, Bool.true_or, Bool.false_or, Bool.and_true, Bool.and_false, Bool.or_true, Bool.or_false, Bool.not_true, Bool.not_false, cond_true, cond_false, if_true, if_false, reduceIte, Bool.false_eq_true]; done) | (simp only [Bool.true_and, Bool.false_and, Bool.true_or, Bool.false_or, Bool.and_true, Bool.and_false, Bool.or_true, Bool.or_false, Bool.not_true, Bool.not_false, cond_true, cond_false, if_true, if_false, reduceIte, Bool.false_eq_true]; done) | simp [h59]), trivial⟩ .slnil)
  refine wc_ret ?_
  refine wk_ret (r_1 rfl rfl) ?_
  exact retv (by simp [hasSuf])

theorem hasSuf_c (p : List UInt8) (q : List UInt8) (hp : p.length ≤ 9223372036854775807) (w : World) : Calls Tryz.prog 50 [.string (B (p)), .string (B (q))].toArray w (RetV w (.bool (hasSuf p q))) := by
  refine enter0 (n := 8) Tryz.func50 rfl Tryz.ntmps50 rfl ?_
  refine wc_seq ?_
  refine wc_region ?_
  refine wl_v (o_assign rfl) rfl ?_
  refine wl_nil ?_
  refine wk_then (wc_of_wk ?_)
  refine wc_seq ?_
  refine wc_region ?_
  refine wl_v (o_move rfl) rfl ?_
  refine wl_v (o_move rfl) rfl ?_
  refine w_call Tryz.call64 rfl (fun w hw => hasSuf0_c p q (by first | omega | (simp; omega)) w) rfl ?_
  refine wl_v (o_assign rfl) rfl ?_
  refine wl_nil ?_
  refine wk_then (wc_of_wk ?_)
  refine wc_ret ?_
  refine wk_ret (r_1 rfl rfl) ?_
  exact retv (by first | rfl | simp [])

theorem trimSuf0_c (p : List UInt8) (q : List UInt8) (hp : p.length ≤ 9223372036854775807) (w : World) : Calls Tryz.prog 63 [.string (B (p)), .string (B (q))].toArray w (RetV w (.string (B (trimSuf p q)))) := by
  refine enter0 (n := 16) Tryz.func63 rfl Tryz.ntmps63 rfl ?_
  refine wc_seq ?_
  refine wc_region ?_
  refine wl_v (o_assign rfl) rfl ?_
  refine wl_nil ?_
  refine wk_then (wc_of_wk ?_)
  refine wc_seq ?_
  refine wc_seq ?_
  refine wc_region ?_
  refine wl_v (o_move rfl) rfl ?_
  refine wl_v (o_move rfl) rfl ?_
  refine w_call Tryz.call64 rfl (fun w hw => hasSuf0_c p q (by first | omega | (simp; omega)) w) rfl ?_
  refine wl_nil ?_
  refine wk_then (wc_of_wk ?_)
  refine wc_cond (b := hasSuf p q) rfl (fun h61 => ?_) (fun h61 => ?_)
  · have g61 := h61; try simp only [decide_eq_true_eq, decide_eq_false_iff_not] at g61
    have f61 := h61; try simp only [decide_eq_true_eq, decide_eq_false_iff_not, Bool.and_eq_true, Bool.or_eq_true, Bool.not_eq_true', Bool.not_eq_false', Bool.and_eq_false_iff, Bool.or_eq_false_iff, not_or, Int.not_lt, Int.not_le] at f61
    refine wc_seq ?_
    refine wc_region ?_
    refine wl_v (o_move rfl) rfl ?_
    refine wl_v (o_move rfl) rfl ?_
    refine wl_v (o_len_s Tryz.underlying9 rfl) rfl ?_
    refine wl_v (o_move rfl) rfl ?_
    refine wl_v (o_len_s Tryz.underlying9 rfl) rfl ?_
    refine wl_v (o_sub rfl rfl (IntWalk.i64_in _ (by first | omega | (have := hasSuf_len (by assumption); omega)))) rfl ?_
    refine wl_v (o_slice_hi Tryz.underlying9 rfl rfl (by first | omega | (have := hasSuf_len (by assumption); omega)) (by first | omega | (have := hasSuf_len (by assumption); omega))) rfl ?_
    refine wl_v (o_assign rfl) rfl ?_
    refine wl_nil ?_
    refine wk_then (wc_of_wk ?_)
    refine wc_ret ?_
    refine wk_then_ret ?_
    refine wk_ret (r_1 rfl rfl) ?_
    exact retv (by simp [trimSuf, h61])
  · have g61 := h61; try simp only [decide_eq_true_eq, decide_eq_false_iff_not] at g61
    have f61 := h61; try simp only [decide_eq_true_eq, decide_eq_false_iff_not, Bool.and_eq_true, Bool.or_eq_true, Bool.not_eq_true', Bool.not_eq_false', Bool.and_eq_false_iff, Bool.or_eq_false_iff, not_or, Int.not_lt, Int.not_le] at f61
    refine wc_skip ?_
    refine wk_then (wc_of_wk ?_)
    refine wc_seq ?_
    refine wc_region ?_
    refine wl_v (o_move rfl) rfl ?_
    refine wl_v (o_assign rfl) rfl ?_
    refine wl_nil ?_
    refine wk_then (wc_of_wk ?_)
    refine wc_ret ?_
    refine wk_ret (r_1 rfl rfl) ?_
    exact retv (by simp [trimSuf, h61])

theorem trimSuf_c (p : List UInt8) (q : List UInt8) (hp : p.length ≤ 9223372036854775807) (w : World) : Calls Tryz.prog 49 [.string (B (p)), .string (B (q))].toArray w (RetV w (.string (B (trimSuf p q)))) := by
  refine enter0 (n := 8) Tryz.func49 rfl Tryz.ntmps49 rfl ?_
  refine wc_seq ?_
  refine wc_region ?_
  refine wl_v (o_assign rfl) rfl ?_
  refine wl_nil ?_
  refine wk_then (wc_of_wk ?_)
  refine wc_seq ?_
  refine wc_region ?_
  refine wl_v (o_move rfl) rfl ?_
  refine wl_v (o_move rfl) rfl ?_
  refine w_call Tryz.call63 rfl (fun w hw => trimSuf0_c p q (by first | omega | (simp; omega)) w) rfl ?_
  refine wl_v (o_assign rfl) rfl ?_
  refine wl_nil ?_
  refine wk_then (wc_of_wk ?_)
  refine wc_ret ?_
  refine wk_ret (r_1 rfl rfl) ?_
  exact retv (by first | rfl | simp [])

theorem indexByte_c (p : List UInt8) (m : Int) (w : World) : Calls Tryz.prog 83 [.string (B (p)), .int .u8 (m)].toArray w (RetV w (.int .i64 (Lib.indexByte p (Int.toNat m).toUInt8))) := by
  refine enter0 (n := 8) Tryz.func83 rfl Tryz.ntmps83 rfl ?_
  refine wc_seq ?_
  refine wc_region ?_
  refine wl_v (o_assign rfl) rfl ?_
  refine wl_nil ?_
  refine wk_then (wc_of_wk ?_)
  refine wc_seq ?_
  refine wc_region ?_
  refine wl_v (o_move rfl) rfl ?_
  refine wl_v (o_move rfl) rfl ?_
  refine wl_v (v := .int .i64 (Lib.indexByte p (Int.toNat (m)).toUInt8)) (o_ext rfl (indexByte_run Tryz.func99 (by kernel_rfl) (by kernel_rfl) (by kernel_rfl) (by kernel_rfl) p (m))) rfl ?_
  refine wl_v (o_assign rfl) rfl ?_
  refine wl_nil ?_
  refine wk_then (wc_of_wk ?_)
  refine wc_ret ?_
  refine wk_ret (r_1 rfl rfl) ?_
  exact retv (by first | rfl | simp [])

theorem index1_c (p : List UInt8) (c : UInt8) (w : World) : Calls Tryz.prog 68 [.string (B (p)), .string (B ([c]))].toArray w (RetV w (.int .i64 (Lib.indexByte p c))) := by
  refine enter0 (n := 143) Tryz.func68 rfl Tryz.ntmps68 rfl ?_
  refine wc_seq ?_
  refine wc_region ?_
  refine wl_v (o_assign rfl) rfl ?_
  refine wl_nil ?_
  refine wk_then (wc_of_wk ?_)
  refine wc_seq ?_
  refine wc_region ?_
  refine wl_v (o_move rfl) rfl ?_
  refine wl_v (o_len_k (z := 1) Tryz.underlying9 rfl (by simp)) rfl ?_
  refine wl_v (o_assign rfl) rfl ?_
  refine wl_nil ?_
  refine wk_then (wc_of_wk ?_)
  refine wc_seq ?_
  refine wc_block ?_
  refine wc_seq_mid [(0, .string (B (p))), (1, .string (B ([c]))), (4, .int .i64 (0)), (5, .int .i64 (1)), (16, .bool (decide ((([c] : List UInt8)) = (p))))] [] (φ := True) ?_ (fun hm61 => ?_)
  · refine wc_region ?_
    refine wl_v (o_move rfl) rfl ?_
    refine wl_v (o_eq rfl rfl) rfl ?_
    refine wl_v (o_move rfl) rfl ?_
    refine wl_on rfl rfl (by decide) ?_
    refine wl_v (o_move rfl) rfl ?_
    refine wl_on rfl rfl (by decide) ?_
    refine wl_v (o_move rfl) rfl ?_
    refine wl_on rfl rfl (by decide) ?_
    refine wl_v (o_seq rfl rfl) rfl ?_
    refine wl_v (o_pick_f rfl (by decide) rfl) rfl ?_
    refine wl_v (o_assign rfl) rfl ?_
    refine wl_nil ?_
    exact wk_then (wk_mid trivial ⟨rfl, rfl, rfl, rfl, rfl, trivial⟩ .slnil)
  refine wc_cond (b := decide ((([c] : List UInt8)) = (p))) rfl (fun h63 => ?_) (fun h63 => ?_)
  · have g63 := h63; try simp only [decide_eq_true_eq, decide_eq_false_iff_not] at g63
    have f63 := h63; try simp only [decide_eq_true_eq, decide_eq_false_iff_not, Bool.and_eq_true, Bool.or_eq_true, Bool.not_eq_true', Bool.not_eq_false', Bool.and_eq_false_iff, Bool.or_eq_false_iff, not_or, Int.not_lt, Int.not_le] at f63
    refine wc_seq ?_
    refine wc_region ?_
    refine wl_v (o_assign rfl) rfl ?_
    refine wl_nil ?_
    refine wk_then (wc_of_wk ?_)
    refine wc_ret ?_
    refine wk_in_ret ?_
    refine wk_then_ret ?_
    refine wk_ret (r_1 rfl rfl) ?_
    exact retv (by first | (simp; done) | (rw [← f63]; simp [Lib.indexByte]; done))
  · have g63 := h63; try simp only [decide_eq_true_eq, decide_eq_false_iff_not] at g63
    have f63 := h63; try simp only [decide_eq_true_eq, decide_eq_false_iff_not, Bool.and_eq_true, Bool.or_eq_true, Bool.not_eq_true', Bool.not_eq_false', Bool.and_eq_false_iff, Bool.or_eq_false_iff, not_or, Int.not_lt, Int.not_le] at f63
    refine wc_seq ?_
    refine wc_region ?_
    refine wl_v (o_move rfl) rfl ?_
    refine wl_v (o_eq rfl rfl) rfl ?_
    refine wl_v (o_assign rfl) rfl ?_
    refine wl_nil ?_
    refine wk_then (wc_of_wk ?_)
    refine wc_cond_t rfl (by decide) ?_
    refine wc_seq ?_
    refine wc_region ?_
    refine wl_v (o_move rfl) rfl ?_
    refine wl_v (o_move rfl) rfl ?_
    refine wl_v (o_index_s (c := c) Tryz.underlying9 rfl rfl (by decide) rfl) rfl ?_
    refine w_call Tryz.call83 rfl (fun w hw => indexByte_c p (UInt8.toNat c : Int) w) rfl ?_
    refine wl_v (o_assign rfl) rfl ?_
    refine wl_nil ?_
    refine wk_then (wc_of_wk ?_)
    refine wc_ret ?_
    refine wk_in_ret ?_
    refine wk_then_ret ?_
    refine wk_ret (r_1 rfl rfl) ?_
    exact retv (by first | (simp; done) | (rw [← f63]; simp [Lib.indexByte]; done))

theorem cut0_c (p : List UInt8) (c : UInt8) (hp : p.length ≤ 9223372036854775807) (w : World) : Calls Tryz.prog 55 [.string (B (p)), .string (B ([c]))].toArray w (RetV w (.tuple #[.string (B (cutB p c)), .string (B (cutA p c)), .bool (cutF p c)])) := by
  refine enter0 (n := 23) Tryz.func55 rfl Tryz.ntmps55 rfl ?_
  refine wc_seq ?_
  refine wc_region ?_
  refine wl_v (o_assign rfl) rfl ?_
  refine wl_v (o_assign rfl) rfl ?_
  refine wl_v (o_assign rfl) rfl ?_
  refine wl_nil ?_
  refine wk_then (wc_of_wk ?_)
  refine wc_seq ?_
  refine wc_seq ?_
  refine wc_region ?_
  refine wl_v (o_move rfl) rfl ?_
  refine wl_v (o_move rfl) rfl ?_
  refine w_call Tryz.call68 rfl (fun w hw => index1_c p c w) rfl ?_
  have ft64 := idx_bd p c
  refine wl_v (o_assign rfl) rfl ?_
  refine wl_nil ?_
  refine wk_then (wc_of_wk ?_)
  refine wc_seq ?_
  refine wc_region ?_
  refine wl_v (o_move rfl) rfl ?_
  refine wl_v (o_ge rfl rfl) rfl ?_
  refine wl_nil ?_
  refine wk_then (wc_of_wk ?_)
  refine wc_cond (b := decide ((0) ≤ (Lib.indexByte p c))) rfl (fun h65 => ?_) (fun h65 => ?_)
  · have g65 := h65; try simp only [decide_eq_true_eq, decide_eq_false_iff_not] at g65
    have f65 := h65; try simp only [decide_eq_true_eq, decide_eq_false_iff_not, Bool.and_eq_true, Bool.or_eq_true, Bool.not_eq_true', Bool.not_eq_false', Bool.and_eq_false_iff, Bool.or_eq_false_iff, not_or, Int.not_lt, Int.not_le] at f65
    refine wc_seq ?_
    refine wc_region_q (by kernel_rfl) (by kernel_rfl) ?_
    refine wq_v (o_move rfl) rfl ?_
    refine wq_v (o_move rfl) rfl ?_
    refine wq_v (o_slice_hi Tryz.underlying9 rfl rfl (by first | omega | (simp; omega)) (by first | omega | (simp; omega))) rfl ?_
    refine wq_v (o_move rfl) rfl ?_
    refine wq_v (o_move rfl) rfl ?_
    refine wq_v (o_move rfl) rfl ?_
    refine wq_v (o_len_k (z := 1) Tryz.underlying9 rfl (by simp)) rfl ?_
    refine wq_v (o_add rfl rfl (IntWalk.i64_in _ (by omega))) rfl ?_
    refine wq_v (o_slice_lo Tryz.underlying9 rfl rfl (by first | omega | (simp; omega)) (by first | omega | (simp; omega))) rfl ?_
    refine wq_v (o_assign rfl) rfl ?_
    refine wq_v (o_assign rfl) rfl ?_
    refine wq_v (o_assign rfl) rfl ?_
    refine wq_nil ?_
    refine wk_then (wc_of_wk ?_)
    refine wc_ret ?_
    refine wk_then_ret ?_
    refine wk_ret (r_3 rfl rfl rfl rfl) ?_
    exact retv (by simp [cutB, cutA, cutF, B, g65])
  · have g65 := h65; try simp only [decide_eq_true_eq, decide_eq_false_iff_not] at g65
    have f65 := h65; try simp only [decide_eq_true_eq, decide_eq_false_iff_not, Bool.and_eq_true, Bool.or_eq_true, Bool.not_eq_true', Bool.not_eq_false', Bool.and_eq_false_iff, Bool.or_eq_false_iff, not_or, Int.not_lt, Int.not_le] at f65
    refine wc_skip ?_
    refine wk_then (wc_of_wk ?_)
    refine wc_seq ?_
    refine wc_region ?_
    refine wl_v (o_move rfl) rfl ?_
    refine wl_v (o_assign rfl) rfl ?_
    refine wl_v (o_assign rfl) rfl ?_
    refine wl_v (o_assign rfl) rfl ?_
    refine wl_nil ?_
    refine wk_then (wc_of_wk ?_)
    refine wc_ret ?_
    refine wk_ret (r_3 rfl rfl rfl rfl) ?_
    exact retv (by simp [cutB, cutA, cutF, B, g65])

theorem cut_c (p : List UInt8) (c : UInt8) (hp : p.length ≤ 9223372036854775807) (w : World) : Calls Tryz.prog 39 [.string (B (p)), .string (B ([c]))].toArray w (RetV w (.tuple #[.string (B (cutB p c)), .string (B (cutA p c)), .bool (cutF p c)])) := by
  refine enter0 (n := 13) Tryz.func39 rfl Tryz.ntmps39 rfl ?_
  refine wc_seq ?_
  refine wc_region ?_
  refine wl_v (o_assign rfl) rfl ?_
  refine wl_v (o_assign rfl) rfl ?_
  refine wl_v (o_assign rfl) rfl ?_
  refine wl_nil ?_
  refine wk_then (wc_of_wk ?_)
  refine wc_seq ?_
  refine wc_region ?_
  refine wl_v (o_move rfl) rfl ?_
  refine wl_v (o_move rfl) rfl ?_
  refine w_call Tryz.call55 rfl (fun w hw => cut0_c p c (by first | omega | (simp; omega)) w) rfl ?_
  refine wl_v (o_extract rfl rfl) rfl ?_
  refine wl_v (o_extract rfl rfl) rfl ?_
  refine wl_v (o_extract rfl rfl) rfl ?_
  refine wl_v (o_assign rfl) rfl ?_
  refine wl_v (o_assign rfl) rfl ?_
  refine wl_v (o_assign rfl) rfl ?_
  refine wl_nil ?_
  refine wk_then (wc_of_wk ?_)
  refine wc_ret ?_
  refine wk_ret (r_3 rfl rfl rfl rfl) ?_
  exact retv (by first | rfl | simp [])

end Go.Proofs.YtjkdkmcklocmnaaGreatDoor
