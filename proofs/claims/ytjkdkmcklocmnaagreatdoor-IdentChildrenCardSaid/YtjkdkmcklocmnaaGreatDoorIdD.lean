/-
  Walks, printed by a small program of ours (gsym.py).
-/
import Derived.Test.YtjkdkmcklocmnaaGreatDoorFwI
import Derived.Test.YtjkdkmcklocmnaaGreatDoorIdC
namespace Go.Proofs.YtjkdkmcklocmnaaGreatDoor
open Go Go.RowKit
set_option linter.unusedVariables false
set_option linter.unusedSimpArgs false
set_option maxRecDepth 100000
theorem sorted_c (v : Value) (ss : List (List UInt8)) (hl : ss.length ≤ 8796093022208) (w : World) (hv : StrsR w v ss) : Calls Tryz.prog 35 [v].toArray w (Ret w [] (fun u H => H = [.row u 9 1 (sortedS ss).length ((sortedS ss).map encStr)])) := by
  refine enter0 (n := 10) Tryz.func35 rfl Tryz.ntmps35 rfl ?_
  refine wc_seq ?_
  refine wc_region ?_
  refine wl_v (o_assign rfl) rfl ?_
  refine wl_nil ?_
  refine wk_then (wc_of_wk ?_)
  refine wc_seq ?_
  refine wc_region ?_
  refine wl_v (o_move rfl) rfl ?_
  refine w_callM Tryz.call51 rfl (fun w hw => clone_c v ss (by first | assumption | (simp; assumption)) w (hv.st0 hw)) rfl ?_
  rintro u142 _ rfl
  refine wl_v (o_assign rfl) rfl ?_
  refine wl_nil ?_
  refine wk_then (wc_of_wk ?_)
  refine wc_seq ?_
  refine wc_region ?_
  refine wl_v (o_move rfl) rfl ?_
  refine w_callE (i := 0) Tryz.call52 rfl rfl (fun w hw he => sort_c u142 ss (by first | assumption | (simp; assumption)) w he) rfl ?_
  rintro _ _ ⟨rfl, rfl⟩
  refine wl_nil ?_
  refine wk_then (wc_of_wk ?_)
  refine wc_seq ?_
  refine wc_region ?_
  refine wl_v (o_move rfl) rfl ?_
  refine w_callE (i := 0) Tryz.call53 rfl rfl (fun w hw he => compact_c u142 (ss.mergeSort fun x y => decide (x ≤ y)) (by first | assumption | (simp; assumption)) w he) rfl ?_
  rintro u144 _ rfl
  refine wl_v (o_assign rfl) rfl ?_
  refine wl_nil ?_
  refine wk_then (wc_of_wk ?_)
  refine wc_ret ?_
  refine wk_ret (r_1 rfl rfl) ?_
  exact fun w hw => ⟨_, _, rfl, hw, rfl⟩

theorem has_c (v : Value) (ss : List (List UInt8)) (s : List UInt8) (hl : ss.length ≤ 8796093022208) (w : World) (hv : StrsR w v ss) : Calls Tryz.prog 36 [v, .string (B s)].toArray w (RetV w (.bool (decide (s ∈ ss)))) := by
  refine enter0 (n := 8) Tryz.func36 rfl Tryz.ntmps36 rfl ?_
  refine wc_seq ?_
  refine wc_region ?_
  refine wl_v (o_assign rfl) rfl ?_
  refine wl_nil ?_
  refine wk_then (wc_of_wk ?_)
  refine wc_seq ?_
  refine wc_region ?_
  refine wl_v (o_move rfl) rfl ?_
  refine wl_v (o_move rfl) rfl ?_
  refine w_call Tryz.call54 rfl (fun w hw => contains_c v ss s (by first | assumption | (simp; assumption)) w (hv.st0 hw)) rfl ?_
  refine wl_v (o_assign rfl) rfl ?_
  refine wl_nil ?_
  refine wk_then (wc_of_wk ?_)
  refine wc_ret ?_
  refine wk_ret (r_1 rfl rfl) ?_
  exact retv rfl

theorem same_c (v u : Value) (a b : List (List UInt8)) (ha : a.length ≤ 8796093022208) (hb : b.length ≤ 8796093022208) (w : World) (hv : StrsR w v a) (hu : StrsR w u b) : Calls Tryz.prog 34 [v, u].toArray w (RetV w (.bool (decide (a = b)))) := by
  refine enter0 (n := 26) Tryz.func34 rfl Tryz.ntmps34 rfl ?_
  refine wc_seq ?_
  refine wc_region ?_
  refine wl_v (o_assign rfl) rfl ?_
  refine wl_nil ?_
  refine wk_then (wc_of_wk ?_)
  refine wc_seq ?_
  refine wc_seq ?_
  refine wc_region ?_
  refine wl_v (o_move rfl) rfl ?_
  refine wl_v (o_lens Tryz.underlying40 rfl hv) rfl ?_
  refine wl_v (o_move rfl) rfl ?_
  refine wl_v (o_lens Tryz.underlying40 rfl hu) rfl ?_
  refine wl_v (o_ne rfl rfl) rfl ?_
  refine wl_nil ?_
  refine wk_then (wc_of_wk ?_)
  refine wc_cond (b := !(decide (((a.length : Int)) = ((b.length : Int))))) rfl (fun h145 => ?_) (fun h145 => ?_)
  · have g145 := h145; try simp only [decide_eq_true_eq, decide_eq_false_iff_not] at g145
    have f145 := h145; try simp only [decide_eq_true_eq, decide_eq_false_iff_not, Bool.and_eq_true, Bool.or_eq_true, Bool.not_eq_true', Bool.not_eq_false', Bool.and_eq_false_iff, Bool.or_eq_false_iff, not_or, Int.not_lt, Int.not_le] at f145
    refine wc_seq ?_
    refine wc_region ?_
    refine wl_v (o_assign rfl) rfl ?_
    refine wl_nil ?_
    refine wk_then (wc_of_wk ?_)
    refine wc_ret ?_
    refine wk_then_ret ?_
    refine wk_ret (r_1 rfl rfl) ?_
    exact retv (by have e : decide (a = b) = false := by { rw [decide_eq_false_iff_not]; rintro rfl; simp at g145 }; rw [e])
  · have g145 := h145; try simp only [decide_eq_true_eq, decide_eq_false_iff_not] at g145
    have f145 := h145; try simp only [decide_eq_true_eq, decide_eq_false_iff_not, Bool.and_eq_true, Bool.or_eq_true, Bool.not_eq_true', Bool.not_eq_false', Bool.and_eq_false_iff, Bool.or_eq_false_iff, not_or, Int.not_lt, Int.not_le] at f145
    refine wc_skip ?_
    refine wk_then (wc_of_wk ?_)
    refine wc_seq ?_
    refine wc_seq ?_
    refine wc_region ?_
    refine wl_v (o_assign rfl) rfl ?_
    refine wl_nil ?_
    refine wk_then (wc_of_wk ?_)
    refine wc_block ?_
    refine wc_loop (S := Nat) (fun (k : Nat) => sameI a b k) (fun (k : Nat) => [(5, .int .i64 ((k : Int))), (0, v), (1, u)]) (fun (k : Nat) => []) (fun (k : Nat) => a.length - k) (0) ?_ ⟨fi (by first | rfl | (simp; done) | omega | (simp; omega)), rfl, rfl, trivial⟩ .slnil ?_
    · exact same_0 (by omega)
    rintro k hi0
    have hs0 := hi0.1
    have hs1 := hi0.2.1
    refine wc_seq ?_
    refine wc_seq ?_
    refine wc_region ?_
    refine wl_v (o_move rfl) rfl ?_
    refine wl_v (o_move rfl) rfl ?_
    refine wl_v (o_lens Tryz.underlying40 rfl hv) rfl ?_
    refine wl_v (o_lt rfl rfl) rfl ?_
    refine wl_nil ?_
    refine wk_then (wc_of_wk ?_)
    refine wc_cond (b := decide (((k : Int)) < ((a.length : Int)))) rfl (fun h146 => ?_) (fun h146 => ?_)
    · have g146 := h146; try simp only [decide_eq_true_eq, decide_eq_false_iff_not] at g146
      have f146 := h146; try simp only [decide_eq_true_eq, decide_eq_false_iff_not, Bool.and_eq_true, Bool.or_eq_true, Bool.not_eq_true', Bool.not_eq_false', Bool.and_eq_false_iff, Bool.or_eq_false_iff, not_or, Int.not_lt, Int.not_le] at f146
      refine wc_skip ?_
      refine wk_then (wc_of_wk ?_)
      refine wc_seq ?_
      refine wc_block ?_
      refine wc_seq ?_
      refine wc_region_q (by kernel_rfl) (by kernel_rfl) ?_
      refine wq_v (o_move rfl) rfl ?_
      refine wq_v (o_move rfl) rfl ?_
      refine wq_v (o_ixs Tryz.underlying40 Tryz.sizeOf9 rfl rfl hv (by first | omega | (simp; omega) | (simp at *; omega)) (by first | omega | (simp; omega) | (simp at *; omega))) rfl ?_
      refine wq_v (o_lds Tryz.isAgg9 rfl hv (Off.nil _) (by first | omega | (simp; omega) | (simp at *; omega)) (by first | omega | (simp; omega) | (simp at *; omega))) rfl ?_
      refine wq_v (o_move rfl) rfl ?_
      refine wq_v (o_move rfl) rfl ?_
      refine wq_v (o_ixs Tryz.underlying40 Tryz.sizeOf9 rfl rfl hu (by first | omega | (simp; omega) | (simp at *; omega)) (by first | omega | (simp; omega) | (simp at *; omega))) rfl ?_
      refine wq_v (o_lds Tryz.isAgg9 rfl hu (Off.nil _) (by first | omega | (simp; omega) | (simp at *; omega)) (by first | omega | (simp; omega) | (simp at *; omega))) rfl ?_
      refine wq_v (o_sne rfl rfl) rfl ?_
      refine wq_nil ?_
      refine wk_then (wc_of_wk ?_)
      refine wc_cond (b := !(decide (((sat a (k : Int))) = ((sat b (k : Int)))))) rfl (fun h147 => ?_) (fun h147 => ?_)
      · have g147 := h147; try simp only [decide_eq_true_eq, decide_eq_false_iff_not] at g147
        have f147 := h147; try simp only [decide_eq_true_eq, decide_eq_false_iff_not, Bool.and_eq_true, Bool.or_eq_true, Bool.not_eq_true', Bool.not_eq_false', Bool.and_eq_false_iff, Bool.or_eq_false_iff, not_or, Int.not_lt, Int.not_le] at f147
        refine wc_seq ?_
        refine wc_region ?_
        refine wl_v (o_assign rfl) rfl ?_
        refine wl_nil ?_
        refine wk_then (wc_of_wk ?_)
        refine wc_ret ?_
        refine wk_in_ret ?_
        refine wk_then_ret ?_
        refine wk_then_ret ?_
        refine wk_in_ret ?_
        refine wk_then_ret ?_
        refine wk_ret (r_1 rfl rfl) ?_
        exact retv (by rw [same_no f147])
      · have g147 := h147; try simp only [decide_eq_true_eq, decide_eq_false_iff_not] at g147
        have f147 := h147; try simp only [decide_eq_true_eq, decide_eq_false_iff_not, Bool.and_eq_true, Bool.or_eq_true, Bool.not_eq_true', Bool.not_eq_false', Bool.and_eq_false_iff, Bool.or_eq_false_iff, not_or, Int.not_lt, Int.not_le] at f147
        refine wc_skip ?_
        refine wk_in_norm ?_
        refine wk_then (wc_of_wk ?_)
        refine wc_region ?_
        refine wl_v (o_move rfl) rfl ?_
        refine wl_v (o_add rfl rfl (IntWalk.i64_in _ (by omega))) rfl ?_
        refine wl_v (o_assign rfl) rfl ?_
        refine wl_nil ?_
        refine wk_then ?_
        refine wk_some (k + 1) ?_ ⟨fi (by first | rfl | (simp; done) | omega | (simp; omega)), rfl, rfl, trivial⟩ .slnil
        exact same_next hi0 g146 f147
    · have g146 := h146; try simp only [decide_eq_true_eq, decide_eq_false_iff_not] at g146
      have f146 := h146; try simp only [decide_eq_true_eq, decide_eq_false_iff_not, Bool.and_eq_true, Bool.or_eq_true, Bool.not_eq_true', Bool.not_eq_false', Bool.and_eq_false_iff, Bool.or_eq_false_iff, not_or, Int.not_lt, Int.not_le] at f146
      refine wc_exit ?_
      refine wk_then_exit ?_
      refine wk_then_exit ?_
      refine wk_in_hit ?_
      refine wk_then (wc_of_wk ?_)
      refine wc_seq ?_
      refine wc_region ?_
      refine wl_v (o_assign rfl) rfl ?_
      refine wl_nil ?_
      refine wk_then (wc_of_wk ?_)
      refine wc_ret ?_
      refine wk_ret (r_1 rfl rfl) ?_
      exact retv (by rw [same_yes hi0 g146])

theorem awake_c (w : World) (hE : Env w) : Calls Tryz.prog 13 [].toArray w (RetV w (.bool true)) := by
  refine enter0 (n := 128) Tryz.func13 rfl Tryz.ntmps13 rfl ?_
  refine wc_seq ?_
  refine wc_region ?_
  refine wl_v (o_assign rfl) rfl ?_
  refine wl_nil ?_
  refine wk_then (wc_of_wk ?_)
  refine wc_seq ?_
  refine wc_seq ?_
  refine wc_region ?_
  refine w_call Tryz.call7 rfl (fun w hw => name_c ([97, 45, 49, 95] : List UInt8) w) rfl ?_
  refine wl_v (o_not rfl) rfl ?_
  refine wl_v (o_move rfl) rfl ?_
  refine wl_on rfl rfl (by first | decide +kernel | (simp only [sortedS_ex]; decide +kernel)) ?_
  refine w_call Tryz.call7 rfl (fun w hw => name_c ([65] : List UInt8) w) rfl ?_
  refine wl_v (o_pick_f rfl (by first | decide +kernel | (simp only [sortedS_ex]; decide +kernel)) rfl) rfl ?_
  refine wl_v (o_move rfl) rfl ?_
  refine wl_on rfl rfl (by first | decide +kernel | (simp only [sortedS_ex]; decide +kernel)) ?_
  refine w_call Tryz.call7 rfl (fun w hw => name_c ([49, 97] : List UInt8) w) rfl ?_
  refine wl_v (o_pick_f rfl (by first | decide +kernel | (simp only [sortedS_ex]; decide +kernel)) rfl) rfl ?_
  refine wl_v (o_move rfl) rfl ?_
  refine wl_on rfl rfl (by first | decide +kernel | (simp only [sortedS_ex]; decide +kernel)) ?_
  refine w_call Tryz.call7 rfl (fun w hw => name_c ([] : List UInt8) w) rfl ?_
  refine wl_v (o_pick_f rfl (by first | decide +kernel | (simp only [sortedS_ex]; decide +kernel)) rfl) rfl ?_
  refine wl_v (o_move rfl) rfl ?_
  refine wl_on rfl rfl (by first | decide +kernel | (simp only [sortedS_ex]; decide +kernel)) ?_
  refine w_call Tryz.call9 rfl (fun w hw => id_c ([97, 46, 49, 58, 98, 47, 67] : List UInt8) w) rfl ?_
  refine wl_on rfl rfl (by first | decide +kernel | (simp only [sortedS_ex]; decide +kernel)) ?_
  refine wl_v (o_not rfl) rfl ?_
  refine wl_v (o_pick_f rfl (by first | decide +kernel | (simp only [sortedS_ex]; decide +kernel)) rfl) rfl ?_
  refine wl_v (o_move rfl) rfl ?_
  refine wl_on rfl rfl (by first | decide +kernel | (simp only [sortedS_ex]; decide +kernel)) ?_
  refine w_call Tryz.call9 rfl (fun w hw => id_c ([97, 32, 98] : List UInt8) w) rfl ?_
  refine wl_v (o_pick_f rfl (by first | decide +kernel | (simp only [sortedS_ex]; decide +kernel)) rfl) rfl ?_
  refine wl_nil ?_
  refine wk_then (wc_of_wk ?_)
  refine wc_cond_f rfl (by first | decide +kernel | (simp only [sortedS_ex]; decide +kernel)) ?_
  refine wc_skip ?_
  refine wk_then (wc_of_wk ?_)
  refine wc_seq ?_
  refine wc_region ?_
  refine w_call Tryz.call14 rfl (fun w hw => ref_c ([97, 99, 109, 101] : List UInt8) ([114, 101, 115, 105, 122, 101] : List UInt8) ([51] : List UInt8) (by first | omega | (simp; done) | (simp; omega) | (simp at *; omega) | (split <;> first | omega | (simp; omega))) (by first | omega | (simp; done) | (simp; omega) | (simp at *; omega) | (split <;> first | omega | (simp; omega))) (by first | omega | (simp; done) | (simp; omega) | (simp at *; omega) | (split <;> first | omega | (simp; omega))) w (hE.st0 hw)) rfl ?_
  have ft148 := refV_len ([97, 99, 109, 101] : List UInt8) ([114, 101, 115, 105, 122, 101] : List UInt8) ([51] : List UInt8)
  refine wl_v (o_move rfl) rfl ?_
  refine wl_v (o_extract rfl rfl) rfl ?_
  refine wl_v (o_extract rfl rfl) rfl ?_
  refine wl_v (o_assign rfl) rfl ?_
  refine wl_v (o_assign rfl) rfl ?_
  refine wl_nil ?_
  refine wk_then (wc_of_wk ?_)
  refine wc_seq ?_
  refine wc_region ?_
  refine w_call Tryz.call16 rfl (fun w hw => parseRef_c ([97, 99, 109, 101, 47, 114, 101, 115, 105, 122, 101, 58, 108, 105, 118, 101] : List UInt8) (by first | omega | (simp; done) | (simp; omega) | (simp at *; omega) | (split <;> first | omega | (simp; omega))) w (hE.st0 hw)) rfl ?_
  have ft149 := prT_len (prOk ([97, 99, 109, 101, 47, 114, 101, 115, 105, 122, 101, 58, 108, 105, 118, 101] : List UInt8)) ([97, 99, 109, 101, 47, 114, 101, 115, 105, 122, 101, 58, 108, 105, 118, 101] : List UInt8)
  have ft150 := prF_len (prOk ([97, 99, 109, 101, 47, 114, 101, 115, 105, 122, 101, 58, 108, 105, 118, 101] : List UInt8)) ([97, 99, 109, 101, 47, 114, 101, 115, 105, 122, 101, 58, 108, 105, 118, 101] : List UInt8)
  have ft151 := prQ_len (prOk ([97, 99, 109, 101, 47, 114, 101, 115, 105, 122, 101, 58, 108, 105, 118, 101] : List UInt8)) ([97, 99, 109, 101, 47, 114, 101, 115, 105, 122, 101, 58, 108, 105, 118, 101] : List UInt8)
  refine wl_v (o_move rfl) rfl ?_
  refine wl_v (o_extract rfl rfl) rfl ?_
  refine wl_v (o_extract rfl rfl) rfl ?_
  refine wl_v (o_extract rfl rfl) rfl ?_
  refine wl_v (o_extract rfl rfl) rfl ?_
  refine wl_v (o_assign rfl) rfl ?_
  refine wl_v (o_assign rfl) rfl ?_
  refine wl_v (o_assign rfl) rfl ?_
  refine wl_v (o_assign rfl) rfl ?_
  refine wl_nil ?_
  refine wk_then (wc_of_wk ?_)
  refine wc_seq ?_
  refine wc_seq ?_
  refine wc_region ?_
  refine wl_v (o_move rfl) rfl ?_
  refine wl_v (o_ne rfl rfl) rfl ?_
  refine wl_v (o_move rfl) rfl ?_
  refine wl_on rfl rfl (by first | decide +kernel | (simp only [sortedS_ex]; decide +kernel)) ?_
  refine wl_v (o_move rfl) rfl ?_
  refine wl_on rfl rfl (by first | decide +kernel | (simp only [sortedS_ex]; decide +kernel)) ?_
  refine wl_v (o_ne rfl rfl) rfl ?_
  refine wl_v (o_pick_f rfl (by first | decide +kernel | (simp only [sortedS_ex]; decide +kernel)) rfl) rfl ?_
  refine wl_v (o_move rfl) rfl ?_
  refine wl_on rfl rfl (by first | decide +kernel | (simp only [sortedS_ex]; decide +kernel)) ?_
  refine wl_v (o_move rfl) rfl ?_
  refine wl_on rfl rfl (by first | decide +kernel | (simp only [sortedS_ex]; decide +kernel)) ?_
  refine wl_v (o_sne rfl rfl) rfl ?_
  refine wl_v (o_pick_f rfl (by first | decide +kernel | (simp only [sortedS_ex]; decide +kernel)) rfl) rfl ?_
  refine wl_v (o_move rfl) rfl ?_
  refine wl_on rfl rfl (by first | decide +kernel | (simp only [sortedS_ex]; decide +kernel)) ?_
  refine wl_v (o_move rfl) rfl ?_
  refine wl_on rfl rfl (by first | decide +kernel | (simp only [sortedS_ex]; decide +kernel)) ?_
  refine wl_v (o_sne rfl rfl) rfl ?_
  refine wl_v (o_pick_f rfl (by first | decide +kernel | (simp only [sortedS_ex]; decide +kernel)) rfl) rfl ?_
  refine wl_v (o_move rfl) rfl ?_
  refine wl_on rfl rfl (by first | decide +kernel | (simp only [sortedS_ex]; decide +kernel)) ?_
  refine wl_v (o_move rfl) rfl ?_
  refine wl_on rfl rfl (by first | decide +kernel | (simp only [sortedS_ex]; decide +kernel)) ?_
  refine wl_v (o_sne rfl rfl) rfl ?_
  refine wl_v (o_pick_f rfl (by first | decide +kernel | (simp only [sortedS_ex]; decide +kernel)) rfl) rfl ?_
  refine wl_v (o_move rfl) rfl ?_
  refine wl_on rfl rfl (by first | decide +kernel | (simp only [sortedS_ex]; decide +kernel)) ?_
  refine wl_v (o_move rfl) rfl ?_
  refine wl_on rfl rfl (by first | decide +kernel | (simp only [sortedS_ex]; decide +kernel)) ?_
  refine wl_v (o_sne rfl rfl) rfl ?_
  refine wl_v (o_pick_f rfl (by first | decide +kernel | (simp only [sortedS_ex]; decide +kernel)) rfl) rfl ?_
  refine wl_nil ?_
  refine wk_then (wc_of_wk ?_)
  refine wc_cond_f rfl (by first | decide +kernel | (simp only [sortedS_ex]; decide +kernel)) ?_
  refine wc_skip ?_
  refine wk_then (wc_of_wk ?_)
  refine wc_seq ?_
  refine wc_region ?_
  refine w_call Tryz.call18 rfl (fun w hw => child_c ([101, 55] : List UInt8) (0 : Int) (by first | omega | (simp; done) | (simp; omega) | (simp at *; omega) | (split <;> first | omega | (simp; omega))) w (hE.st0 hw)) rfl ?_
  have ft152 := childV_len ([101, 55] : List UInt8) 0
  refine wl_v (o_move rfl) rfl ?_
  refine wl_v (o_extract rfl rfl) rfl ?_
  refine wl_v (o_extract rfl rfl) rfl ?_
  refine wl_v (o_assign rfl) rfl ?_
  refine wl_v (o_assign rfl) rfl ?_
  refine wl_nil ?_
  refine wk_then (wc_of_wk ?_)
  refine wc_seq ?_
  refine wc_region ?_
  refine w_call Tryz.call20 rfl (fun w hw => parent_c ([101, 55, 46, 48] : List UInt8) (by first | omega | (simp; done) | (simp; omega) | (simp at *; omega) | (split <;> first | omega | (simp; omega))) w (hE.st0 hw)) rfl ?_
  have ft153 := parP_len (parOk ([101, 55, 46, 48] : List UInt8)) ([101, 55, 46, 48] : List UInt8)
  refine wl_v (o_move rfl) rfl ?_
  refine wl_v (o_extract rfl rfl) rfl ?_
  refine wl_v (o_extract rfl rfl) rfl ?_
  refine wl_v (o_extract rfl rfl) rfl ?_
  refine wl_v (o_assign rfl) rfl ?_
  refine wl_v (o_assign rfl) rfl ?_
  refine wl_v (o_assign rfl) rfl ?_
  refine wl_nil ?_
  refine wk_then (wc_of_wk ?_)
  refine wc_seq ?_
  refine wc_region ?_
  refine w_call Tryz.call20 rfl (fun w hw => parent_c ([101, 55, 46, 48, 48] : List UInt8) (by first | omega | (simp; done) | (simp; omega) | (simp at *; omega) | (split <;> first | omega | (simp; omega))) w (hE.st0 hw)) rfl ?_
  have ft154 := parP_len (parOk ([101, 55, 46, 48, 48] : List UInt8)) ([101, 55, 46, 48, 48] : List UInt8)
  refine wl_v (o_move rfl) rfl ?_
  refine wl_v (o_extract rfl rfl) rfl ?_
  refine wl_v (o_extract rfl rfl) rfl ?_
  refine wl_v (o_extract rfl rfl) rfl ?_
  refine wl_v (o_assign rfl) rfl ?_
  refine wl_v (o_assign rfl) rfl ?_
  refine wl_v (o_assign rfl) rfl ?_
  refine wl_nil ?_
  refine wk_then (wc_of_wk ?_)
  refine wc_seq ?_
  refine wc_seq ?_
  refine wc_region ?_
  refine wl_v (o_move rfl) rfl ?_
  refine wl_v (o_ne rfl rfl) rfl ?_
  refine wl_v (o_move rfl) rfl ?_
  refine wl_on rfl rfl (by first | decide +kernel | (simp only [sortedS_ex]; decide +kernel)) ?_
  refine wl_v (o_move rfl) rfl ?_
  refine wl_on rfl rfl (by first | decide +kernel | (simp only [sortedS_ex]; decide +kernel)) ?_
  refine wl_v (o_sne rfl rfl) rfl ?_
  refine wl_v (o_pick_f rfl (by first | decide +kernel | (simp only [sortedS_ex]; decide +kernel)) rfl) rfl ?_
  refine wl_v (o_move rfl) rfl ?_
  refine wl_on rfl rfl (by first | decide +kernel | (simp only [sortedS_ex]; decide +kernel)) ?_
  refine wl_v (o_move rfl) rfl ?_
  refine wl_on rfl rfl (by first | decide +kernel | (simp only [sortedS_ex]; decide +kernel)) ?_
  refine wl_v (o_sne rfl rfl) rfl ?_
  refine wl_v (o_pick_f rfl (by first | decide +kernel | (simp only [sortedS_ex]; decide +kernel)) rfl) rfl ?_
  refine wl_v (o_move rfl) rfl ?_
  refine wl_on rfl rfl (by first | decide +kernel | (simp only [sortedS_ex]; decide +kernel)) ?_
  refine wl_v (o_move rfl) rfl ?_
  refine wl_on rfl rfl (by first | decide +kernel | (simp only [sortedS_ex]; decide +kernel)) ?_
  refine wl_v (o_ne rfl rfl) rfl ?_
  refine wl_v (o_pick_f rfl (by first | decide +kernel | (simp only [sortedS_ex]; decide +kernel)) rfl) rfl ?_
  refine wl_v (o_move rfl) rfl ?_
  refine wl_on rfl rfl (by first | decide +kernel | (simp only [sortedS_ex]; decide +kernel)) ?_
  refine wl_v (o_move rfl) rfl ?_
  refine wl_on rfl rfl (by first | decide +kernel | (simp only [sortedS_ex]; decide +kernel)) ?_
  refine wl_v (o_not rfl) rfl ?_
  refine wl_v (o_pick_f rfl (by first | decide +kernel | (simp only [sortedS_ex]; decide +kernel)) rfl) rfl ?_
  refine wl_v (o_move rfl) rfl ?_
  refine wl_on rfl rfl (by first | decide +kernel | (simp only [sortedS_ex]; decide +kernel)) ?_
  refine wl_v (o_move rfl) rfl ?_
  refine wl_v (o_pick_f rfl (by first | decide +kernel | (simp only [sortedS_ex]; decide +kernel)) rfl) rfl ?_
  refine wl_nil ?_
  refine wk_then (wc_of_wk ?_)
  refine wc_cond_f rfl (by first | decide +kernel | (simp only [sortedS_ex]; decide +kernel)) ?_
  refine wc_skip ?_
  refine wk_then (wc_of_wk ?_)
  refine wc_seq ?_
  refine wc_region ?_
  refine w_call Tryz.call11 rfl (fun w hw => pattern_c ([42] : List UInt8) (by first | omega | (simp; done) | (simp; omega) | (simp at *; omega) | (split <;> first | omega | (simp; omega))) w) rfl ?_
  refine wl_v (o_move rfl) rfl ?_
  refine wl_on rfl rfl (by first | decide +kernel | (simp only [sortedS_ex]; decide +kernel)) ?_
  refine w_call Tryz.call11 rfl (fun w hw => pattern_c ([97, 42, 98] : List UInt8) (by first | omega | (simp; done) | (simp; omega) | (simp at *; omega) | (split <;> first | omega | (simp; omega))) w) rfl ?_
  refine wl_on rfl rfl (by first | decide +kernel | (simp only [sortedS_ex]; decide +kernel)) ?_
  refine wl_v (o_not rfl) rfl ?_
  refine wl_v (o_pick_t rfl (by first | decide +kernel | (simp only [sortedS_ex]; decide +kernel)) rfl) rfl ?_
  refine wl_v (o_move rfl) rfl ?_
  refine wl_on rfl rfl (by first | decide +kernel | (simp only [sortedS_ex]; decide +kernel)) ?_
  refine w_call Tryz.call22 rfl (fun w hw => matches_c ([97, 47, 42] : List UInt8) ([97, 47] : List UInt8) (by first | omega | (simp; done) | (simp; omega) | (simp at *; omega) | (split <;> first | omega | (simp; omega))) (by first | omega | (simp; done) | (simp; omega) | (simp at *; omega) | (split <;> first | omega | (simp; omega))) w) rfl ?_
  refine wl_v (o_pick_t rfl (by first | decide +kernel | (simp only [sortedS_ex]; decide +kernel)) rfl) rfl ?_
  refine wl_v (o_move rfl) rfl ?_
  refine wl_on rfl rfl (by first | decide +kernel | (simp only [sortedS_ex]; decide +kernel)) ?_
  refine w_call Tryz.call24 rfl (fun w hw => covers_c ([97, 47, 42] : List UInt8) ([97, 47, 98, 42] : List UInt8) (by first | omega | (simp; done) | (simp; omega) | (simp at *; omega) | (split <;> first | omega | (simp; omega))) (by first | omega | (simp; done) | (simp; omega) | (simp at *; omega) | (split <;> first | omega | (simp; omega))) w) rfl ?_
  refine wl_v (o_pick_t rfl (by first | decide +kernel | (simp only [sortedS_ex]; decide +kernel)) rfl) rfl ?_
  refine wl_v (o_move rfl) rfl ?_
  refine wl_on rfl rfl (by first | decide +kernel | (simp only [sortedS_ex]; decide +kernel)) ?_
  refine w_call Tryz.call24 rfl (fun w hw => covers_c ([97, 47, 98] : List UInt8) ([97, 47, 42] : List UInt8) (by first | omega | (simp; done) | (simp; omega) | (simp at *; omega) | (split <;> first | omega | (simp; omega))) (by first | omega | (simp; done) | (simp; omega) | (simp at *; omega) | (split <;> first | omega | (simp; omega))) w) rfl ?_
  refine wl_on rfl rfl (by first | decide +kernel | (simp only [sortedS_ex]; decide +kernel)) ?_
  refine wl_v (o_not rfl) rfl ?_
  refine wl_v (o_pick_t rfl (by first | decide +kernel | (simp only [sortedS_ex]; decide +kernel)) rfl) rfl ?_
  refine wl_v (o_move rfl) rfl ?_
  refine wl_on rfl rfl (by first | decide +kernel | (simp only [sortedS_ex]; decide +kernel)) ?_
  refine w_buildSlice (cs := ([([98] : List UInt8), ([97] : List UInt8), ([98] : List UInt8)] : List (List UInt8)).map encStr) Tryz.underlying40 Tryz.sizeOf9 (fun a w _ => run_buildSlice Tryz.underlying40 Tryz.sizeOf9 Tryz.zeroValue9 rfl w (by kernel_rfl)) rfl (by simp [maxLen]) rfl (fun b155 => ?_)
  refine wl_on rfl rfl (by first | decide +kernel | (simp only [sortedS_ex]; decide +kernel)) ?_
  refine w_callM Tryz.call35 rfl (fun w hw => sorted_c (.slice (some ⟨b155, 0, none⟩) 3 3) ([([98] : List UInt8), ([97] : List UInt8), ([98] : List UInt8)] : List (List UInt8)) (by first | decide +kernel | (simp only [sortedS_ex]; decide +kernel)) w (StrsR.of_row (hw.ent (i := 0) rfl))) rfl ?_
  rintro u156 _ rfl
  refine wl_on rfl rfl (by first | decide +kernel | (simp only [sortedS_ex]; decide +kernel)) ?_
  refine w_buildSlice (cs := ([([97] : List UInt8), ([98] : List UInt8)] : List (List UInt8)).map encStr) Tryz.underlying40 Tryz.sizeOf9 (fun a w _ => run_buildSlice Tryz.underlying40 Tryz.sizeOf9 Tryz.zeroValue9 rfl w (by kernel_rfl)) rfl (by simp [maxLen]) rfl (fun b157 => ?_)
  refine wl_on rfl rfl (by first | decide +kernel | (simp only [sortedS_ex]; decide +kernel)) ?_
  refine w_call Tryz.call34 rfl (fun w hw => same_c u156 (.slice (some ⟨b157, 0, none⟩) 2 2) (sortedS ([([98] : List UInt8), ([97] : List UInt8), ([98] : List UInt8)] : List (List UInt8))) ([([97] : List UInt8), ([98] : List UInt8)] : List (List UInt8)) (by first | decide +kernel | (simp only [sortedS_ex]; decide +kernel)) (by first | decide +kernel | (simp only [sortedS_ex]; decide +kernel)) w (StrsR.of_row (hw.ent (i := 1) rfl)) (StrsR.of_row (hw.ent (i := 0) rfl))) rfl ?_
  refine wl_v (o_pick_t rfl (by first | decide +kernel | (simp only [sortedS_ex]; decide +kernel)) rfl) rfl ?_
  refine wl_v (o_move rfl) rfl ?_
  refine wl_on rfl rfl (by first | decide +kernel | (simp only [sortedS_ex]; decide +kernel)) ?_
  refine w_buildSlice (cs := ([([120] : List UInt8)] : List (List UInt8)).map encStr) Tryz.underlying40 Tryz.sizeOf9 (fun a w _ => run_buildSlice Tryz.underlying40 Tryz.sizeOf9 Tryz.zeroValue9 rfl w (by kernel_rfl)) rfl (by simp [maxLen]) rfl (fun b158 => ?_)
  refine wl_on rfl rfl (by first | decide +kernel | (simp only [sortedS_ex]; decide +kernel)) ?_
  refine w_call Tryz.call36 rfl (fun w hw => has_c (.slice (some ⟨b158, 0, none⟩) 1 1) ([([120] : List UInt8)] : List (List UInt8)) ([120] : List UInt8) (by first | decide +kernel | (simp only [sortedS_ex]; decide +kernel)) w (StrsR.of_row (hw.ent (i := 0) rfl))) rfl ?_
  refine wl_v (o_pick_t rfl (by first | decide +kernel | (simp only [sortedS_ex]; decide +kernel)) rfl) rfl ?_
  refine wl_v (o_move rfl) rfl ?_
  refine wl_on rfl rfl (by first | decide +kernel | (simp only [sortedS_ex]; decide +kernel)) ?_
  refine w_call Tryz.call36 rfl (fun w hw => has_c (.slice none 0 0) [] ([120] : List UInt8) (by first | decide +kernel | (simp only [sortedS_ex]; decide +kernel)) w (SlR.nil _ _)) rfl ?_
  refine wl_on rfl rfl (by first | decide +kernel | (simp only [sortedS_ex]; decide +kernel)) ?_
  refine wl_v (o_not rfl) rfl ?_
  refine wl_v (o_pick_t rfl (by first | decide +kernel | (simp only [sortedS_ex]; decide +kernel)) rfl) rfl ?_
  refine wl_v (o_assign rfl) rfl ?_
  refine wl_nil ?_
  refine wk_then (wc_of_wk ?_)
  refine wc_ret ?_
  refine wk_ret (r_1 rfl rfl) ?_
  exact retv (congrArg Value.bool (by first | decide +kernel | (simp only [sortedS_ex]; decide +kernel)))

end Go.Proofs.YtjkdkmcklocmnaaGreatDoor
