/-
  Walks, printed by a small program of ours (gsym.py).
-/
import Derived.Test.YtjkdkmcklocmnaaGreatDoorPlD
import Derived.Test.YtjkdkmcklocmnaaGreatDoorIdR
namespace Go.Proofs.YtjkdkmcklocmnaaGreatDoor
open Go Go.RowKit
set_option linter.unusedVariables false
set_option linter.unusedSimpArgs false
set_option maxRecDepth 100000
theorem identNames_c (p : List UInt8) (hp : p.length ≤ 140737488355328) (w : World) (hE : Env w) : Calls Tryz.prog 3 [.string (B (p))].toArray w (RetV w (.bool true)) := by
  refine enter0 (n := 25) Tryz.func3 rfl Tryz.ntmps3 rfl ?_
  refine wc_seq ?_
  refine wc_region ?_
  refine wl_v (o_assign rfl) rfl ?_
  refine wl_nil ?_
  refine wk_then (wc_of_wk ?_)
  refine wc_seq_mid [(2, .bool (true))] [] (φ := True) ?_ (fun hm255 => ?_)
  · refine wc_region ?_
    refine wl_v (o_move rfl) rfl ?_
    refine w_call Tryz.call7 rfl (fun w hw => name_c p w) rfl ?_
    refine wl_v (o_move rfl) rfl ?_
    refine w_call Tryz.call8 rfl (fun w hw => name_r p (by first | omega | (simp; done) | (simp; omega) | (simp at *; omega) | (split <;> first | omega | (simp; omega))) w) rfl ?_
    refine wl_v (o_beq Tryz.underlying4 rfl rfl) rfl ?_
    refine wl_v (o_move rfl) rfl ?_
    refine wl_on rfl rfl (by simp) ?_
    refine wl_v (o_move rfl) rfl ?_
    refine wl_on rfl rfl (by simp) ?_
    refine w_call Tryz.call9 rfl (fun w hw => id_c p w) rfl ?_
    refine wl_on rfl rfl (by simp) ?_
    refine wl_v (o_move rfl) rfl ?_
    refine wl_on rfl rfl (by simp) ?_
    refine w_call Tryz.call10 rfl (fun w hw => id_r p (by first | omega | (simp; done) | (simp; omega) | (simp at *; omega) | (split <;> first | omega | (simp; omega))) w) rfl ?_
    refine wl_on rfl rfl (by simp) ?_
    refine wl_v (o_beq Tryz.underlying4 rfl rfl) rfl ?_
    refine wl_v (o_pick_t rfl (by simp) rfl) rfl ?_
    refine wl_v (o_move rfl) rfl ?_
    refine wl_on rfl rfl (by simp) ?_
    refine wl_v (o_move rfl) rfl ?_
    refine wl_on rfl rfl (by simp) ?_
    refine w_call Tryz.call11 rfl (fun w hw => pattern_c p (by first | omega | (simp; done) | (simp; omega) | (simp at *; omega) | (split <;> first | omega | (simp; omega))) w) rfl ?_
    refine wl_on rfl rfl (by simp) ?_
    refine wl_v (o_move rfl) rfl ?_
    refine wl_on rfl rfl (by simp) ?_
    refine w_call Tryz.call12 rfl (fun w hw => pattern_r p (by first | omega | (simp; done) | (simp; omega) | (simp at *; omega) | (split <;> first | omega | (simp; omega))) w) rfl ?_
    refine wl_on rfl rfl (by simp) ?_
    refine wl_v (o_beq Tryz.underlying4 rfl rfl) rfl ?_
    refine wl_v (o_pick_t rfl (by simp) rfl) rfl ?_
    refine wl_v (o_move rfl) rfl ?_
    refine wl_on rfl rfl (by simp) ?_
    refine w_call Tryz.call13 rfl (fun w hw => awake_c w (hE.st0 hw)) rfl ?_
    refine wl_v (o_pick_t rfl (by simp) rfl) rfl ?_
    refine wl_v (o_assign rfl) rfl ?_
    refine wl_nil ?_
    exact wk_then (wk_mid trivial ⟨rfl, trivial⟩ .slnil)
  refine wc_ret ?_
  refine wk_ret (r_1 rfl rfl) ?_
  exact retv rfl

theorem identMatches_c (p : List UInt8) (q : List UInt8) (s : List UInt8) (hp : p.length ≤ 140737488355328) (hq : q.length ≤ 140737488355328) (hs : s.length ≤ 140737488355328) (w : World) (hE : Env w) : Calls Tryz.prog 6 [.string (B (p)), .string (B (q)), .string (B (s))].toArray w (RetV w (.bool true)) := by
  refine enter0 (n := 35) Tryz.func6 rfl Tryz.ntmps6 rfl ?_
  refine wc_seq ?_
  refine wc_region ?_
  refine wl_v (o_assign rfl) rfl ?_
  refine wl_nil ?_
  refine wk_then (wc_of_wk ?_)
  refine wc_seq_mid [(6, .bool (true))] [] (φ := True) ?_ (fun hm256 => ?_)
  · refine wc_region ?_
    refine wl_v (o_move rfl) rfl ?_
    refine wl_v (o_move rfl) rfl ?_
    refine w_call Tryz.call22 rfl (fun w hw => matches_c p s (by first | omega | (simp; done) | (simp; omega) | (simp at *; omega) | (split <;> first | omega | (simp; omega))) (by first | omega | (simp; done) | (simp; omega) | (simp at *; omega) | (split <;> first | omega | (simp; omega))) w) rfl ?_
    refine wl_v (o_move rfl) rfl ?_
    refine wl_v (o_move rfl) rfl ?_
    refine w_call Tryz.call23 rfl (fun w hw => matches_r p s (by first | omega | (simp; done) | (simp; omega) | (simp at *; omega) | (split <;> first | omega | (simp; omega))) (by first | omega | (simp; done) | (simp; omega) | (simp at *; omega) | (split <;> first | omega | (simp; omega))) w) rfl ?_
    refine wl_v (o_beq Tryz.underlying4 rfl rfl) rfl ?_
    refine wl_v (o_move rfl) rfl ?_
    refine wl_on rfl rfl (by simp) ?_
    refine wl_v (o_move rfl) rfl ?_
    refine wl_on rfl rfl (by simp) ?_
    refine wl_v (o_move rfl) rfl ?_
    refine wl_on rfl rfl (by simp) ?_
    refine w_call Tryz.call24 rfl (fun w hw => covers_c p q (by first | omega | (simp; done) | (simp; omega) | (simp at *; omega) | (split <;> first | omega | (simp; omega))) (by first | omega | (simp; done) | (simp; omega) | (simp at *; omega) | (split <;> first | omega | (simp; omega))) w) rfl ?_
    refine wl_on rfl rfl (by simp) ?_
    refine wl_v (o_move rfl) rfl ?_
    refine wl_on rfl rfl (by simp) ?_
    refine wl_v (o_move rfl) rfl ?_
    refine wl_on rfl rfl (by simp) ?_
    refine w_call Tryz.call25 rfl (fun w hw => covers_r p q (by first | omega | (simp; done) | (simp; omega) | (simp at *; omega) | (split <;> first | omega | (simp; omega))) (by first | omega | (simp; done) | (simp; omega) | (simp at *; omega) | (split <;> first | omega | (simp; omega))) w) rfl ?_
    refine wl_on rfl rfl (by simp) ?_
    refine wl_v (o_beq Tryz.underlying4 rfl rfl) rfl ?_
    refine wl_v (o_pick_t rfl (by simp) rfl) rfl ?_
    refine wl_v (o_move rfl) rfl ?_
    refine wl_on rfl rfl (by simp) ?_
    refine wl_v (o_move rfl) rfl ?_
    refine wl_on rfl rfl (by simp) ?_
    refine wl_v (o_move rfl) rfl ?_
    refine wl_on rfl rfl (by simp) ?_
    refine w_call Tryz.call24 rfl (fun w hw => covers_c q p (by first | omega | (simp; done) | (simp; omega) | (simp at *; omega) | (split <;> first | omega | (simp; omega))) (by first | omega | (simp; done) | (simp; omega) | (simp at *; omega) | (split <;> first | omega | (simp; omega))) w) rfl ?_
    refine wl_on rfl rfl (by simp) ?_
    refine wl_v (o_move rfl) rfl ?_
    refine wl_on rfl rfl (by simp) ?_
    refine wl_v (o_move rfl) rfl ?_
    refine wl_on rfl rfl (by simp) ?_
    refine w_call Tryz.call25 rfl (fun w hw => covers_r q p (by first | omega | (simp; done) | (simp; omega) | (simp at *; omega) | (split <;> first | omega | (simp; omega))) (by first | omega | (simp; done) | (simp; omega) | (simp at *; omega) | (split <;> first | omega | (simp; omega))) w) rfl ?_
    refine wl_on rfl rfl (by simp) ?_
    refine wl_v (o_beq Tryz.underlying4 rfl rfl) rfl ?_
    refine wl_v (o_pick_t rfl (by simp) rfl) rfl ?_
    refine wl_v (o_move rfl) rfl ?_
    refine wl_on rfl rfl (by simp) ?_
    refine w_call Tryz.call13 rfl (fun w hw => awake_c w (hE.st0 hw)) rfl ?_
    refine wl_v (o_pick_t rfl (by simp) rfl) rfl ?_
    refine wl_v (o_assign rfl) rfl ?_
    refine wl_nil ?_
    exact wk_then (wk_mid trivial ⟨rfl, trivial⟩ .slnil)
  refine wc_ret ?_
  refine wk_ret (r_1 rfl rfl) ?_
  exact retv rfl

theorem identRefs_c (t : List UInt8) (f : List UInt8) (q : List UInt8) (s : List UInt8) (ht : t.length ≤ 140737488355328) (hf : f.length ≤ 140737488355328) (hq : q.length ≤ 140737488355328) (hs : s.length ≤ 140737488355328) (w : World) (hE : Env w) : Calls Tryz.prog 4 [.string (B (t)), .string (B (f)), .string (B (q)), .string (B (s))].toArray w (RetV w (.bool true)) := by
  refine enter0 (n := 76) Tryz.func4 rfl Tryz.ntmps4 rfl ?_
  refine wc_seq ?_
  refine wc_region ?_
  refine wl_v (o_assign rfl) rfl ?_
  refine wl_nil ?_
  refine wk_then (wc_of_wk ?_)
  refine wc_seq ?_
  refine wc_region ?_
  refine wl_v (o_move rfl) rfl ?_
  refine wl_v (o_move rfl) rfl ?_
  refine wl_v (o_move rfl) rfl ?_
  refine w_call Tryz.call14 rfl (fun w hw => ref_c t f q (by first | omega | (simp; done) | (simp; omega) | (simp at *; omega) | (split <;> first | omega | (simp; omega))) (by first | omega | (simp; done) | (simp; omega) | (simp at *; omega) | (split <;> first | omega | (simp; omega))) (by first | omega | (simp; done) | (simp; omega) | (simp at *; omega) | (split <;> first | omega | (simp; omega))) w (hE.st0 hw)) rfl ?_
  have ft258 := refV_len t f q
  refine wl_v (o_move rfl) rfl ?_
  refine wl_v (o_extract rfl rfl) rfl ?_
  refine wl_v (o_extract rfl rfl) rfl ?_
  refine wl_v (o_assign rfl) rfl ?_
  refine wl_v (o_assign rfl) rfl ?_
  refine wl_nil ?_
  refine wk_then (wc_of_wk ?_)
  refine wc_seq ?_
  refine wc_region ?_
  refine wl_v (o_move rfl) rfl ?_
  refine wl_v (o_move rfl) rfl ?_
  refine wl_v (o_move rfl) rfl ?_
  refine w_call Tryz.call15 rfl (fun w hw => ref_r t f q (by first | omega | (simp; done) | (simp; omega) | (simp at *; omega) | (split <;> first | omega | (simp; omega))) (by first | omega | (simp; done) | (simp; omega) | (simp at *; omega) | (split <;> first | omega | (simp; omega))) (by first | omega | (simp; done) | (simp; omega) | (simp at *; omega) | (split <;> first | omega | (simp; omega))) w) rfl ?_
  have ft259 := refV_len t f q
  refine wl_v (o_move rfl) rfl ?_
  refine wl_v (o_extract rfl rfl) rfl ?_
  refine wl_v (o_extract rfl rfl) rfl ?_
  refine wl_v (o_assign rfl) rfl ?_
  refine wl_v (o_assign rfl) rfl ?_
  refine wl_nil ?_
  refine wk_then (wc_of_wk ?_)
  refine wc_seq ?_
  refine wc_seq_mid [(3, .string (B (s))), (8, .bool (false)), (10, .int .i64 (refE t f q)), (12, .int .i64 (refE t f q)), (40, .bool (!(decide (((refV t f q)) = ((refV t f q))))))] [] (φ := True) ?_ (fun hm259 => ?_)
  · refine wc_region ?_
    refine wl_v (o_move rfl) rfl ?_
    refine wl_v (o_move rfl) rfl ?_
    refine wl_v (o_ne rfl rfl) rfl ?_
    refine wl_v (o_move rfl) rfl ?_
    refine wl_on rfl rfl (by simp) ?_
    refine wl_v (o_move rfl) rfl ?_
    refine wl_on rfl rfl (by simp) ?_
    refine wl_v (o_move rfl) rfl ?_
    refine wl_on rfl rfl (by simp) ?_
    refine wl_v (o_sne rfl rfl) rfl ?_
    refine wl_v (o_pick_f rfl (by simp) rfl) rfl ?_
    refine wl_nil ?_
    exact wk_then (wk_mid trivial ⟨rfl, rfl, rfl, rfl, rfl, trivial⟩ .slnil)
  refine wc_cond_f rfl (by simp) ?_
  refine wc_skip ?_
  refine wk_then (wc_of_wk ?_)
  refine wc_seq ?_
  refine wc_region ?_
  refine wl_v (o_move rfl) rfl ?_
  refine w_call Tryz.call16 rfl (fun w hw => parseRef_c s (by first | omega | (simp; done) | (simp; omega) | (simp at *; omega) | (split <;> first | omega | (simp; omega))) w (hE.st0 hw)) rfl ?_
  have ft261 := prT_len (prOk s) s
  have ft262 := prF_len (prOk s) s
  have ft263 := prQ_len (prOk s) s
  refine wl_v (o_move rfl) rfl ?_
  refine wl_v (o_extract rfl rfl) rfl ?_
  refine wl_v (o_extract rfl rfl) rfl ?_
  refine wl_v (o_extract rfl rfl) rfl ?_
  refine wl_v (o_extract rfl rfl) rfl ?_
  refine wl_v (o_assign rfl) rfl ?_
  refine wl_v (o_assign rfl) rfl ?_
  refine wl_v (o_assign rfl) rfl ?_
  refine wl_v (o_assign rfl) rfl ?_
  refine wl_nil ?_
  refine wk_then (wc_of_wk ?_)
  refine wc_seq ?_
  refine wc_region ?_
  refine wl_v (o_move rfl) rfl ?_
  refine w_call Tryz.call17 rfl (fun w hw => parseRef_r s (by first | omega | (simp; done) | (simp; omega) | (simp at *; omega) | (split <;> first | omega | (simp; omega))) w) rfl ?_
  have ft264 := prT_len (prOk s) s
  have ft265 := prF_len (prOk s) s
  have ft266 := prQ_len (prOk s) s
  refine wl_v (o_move rfl) rfl ?_
  refine wl_v (o_extract rfl rfl) rfl ?_
  refine wl_v (o_extract rfl rfl) rfl ?_
  refine wl_v (o_extract rfl rfl) rfl ?_
  refine wl_v (o_extract rfl rfl) rfl ?_
  refine wl_v (o_assign rfl) rfl ?_
  refine wl_v (o_assign rfl) rfl ?_
  refine wl_v (o_assign rfl) rfl ?_
  refine wl_v (o_assign rfl) rfl ?_
  refine wl_nil ?_
  refine wk_then (wc_of_wk ?_)
  refine wc_seq_mid [(8, .bool (true))] [] (φ := True) ?_ (fun hm266 => ?_)
  · refine wc_region ?_
    refine wl_v (o_move rfl) rfl ?_
    refine wl_v (o_move rfl) rfl ?_
    refine wl_v (o_eq rfl rfl) rfl ?_
    refine wl_v (o_move rfl) rfl ?_
    refine wl_on rfl rfl (by simp) ?_
    refine wl_v (o_move rfl) rfl ?_
    refine wl_on rfl rfl (by simp) ?_
    refine wl_v (o_move rfl) rfl ?_
    refine wl_on rfl rfl (by simp) ?_
    refine wl_v (o_seq rfl rfl) rfl ?_
    refine wl_v (o_pick_t rfl (by simp) rfl) rfl ?_
    refine wl_v (o_move rfl) rfl ?_
    refine wl_on rfl rfl (by simp) ?_
    refine wl_v (o_move rfl) rfl ?_
    refine wl_on rfl rfl (by simp) ?_
    refine wl_v (o_move rfl) rfl ?_
    refine wl_on rfl rfl (by simp) ?_
    refine wl_v (o_seq rfl rfl) rfl ?_
    refine wl_v (o_pick_t rfl (by simp) rfl) rfl ?_
    refine wl_v (o_move rfl) rfl ?_
    refine wl_on rfl rfl (by simp) ?_
    refine wl_v (o_move rfl) rfl ?_
    refine wl_on rfl rfl (by simp) ?_
    refine wl_v (o_move rfl) rfl ?_
    refine wl_on rfl rfl (by simp) ?_
    refine wl_v (o_seq rfl rfl) rfl ?_
    refine wl_v (o_pick_t rfl (by simp) rfl) rfl ?_
    refine wl_v (o_move rfl) rfl ?_
    refine wl_on rfl rfl (by simp) ?_
    refine w_call Tryz.call13 rfl (fun w hw => awake_c w (hE.st0 hw)) rfl ?_
    refine wl_v (o_pick_t rfl (by simp) rfl) rfl ?_
    refine wl_v (o_assign rfl) rfl ?_
    refine wl_nil ?_
    exact wk_then (wk_mid trivial ⟨rfl, trivial⟩ .slnil)
  refine wc_ret ?_
  refine wk_ret (r_1 rfl rfl) ?_
  exact retv rfl

theorem identChildren_c (p : List UInt8) (m : Int) (s : List UInt8) (hp : p.length ≤ 140737488355328) (hs : s.length ≤ 140737488355328) (w : World) (hE : Env w) : Calls Tryz.prog 5 [.string (B (p)), .int .i64 (m), .string (B (s))].toArray w (RetV w (.bool true)) := by
  refine enter0 (n := 65) Tryz.func5 rfl Tryz.ntmps5 rfl ?_
  refine wc_seq ?_
  refine wc_region ?_
  refine wl_v (o_assign rfl) rfl ?_
  refine wl_nil ?_
  refine wk_then (wc_of_wk ?_)
  refine wc_seq ?_
  refine wc_region ?_
  refine wl_v (o_move rfl) rfl ?_
  refine wl_v (o_move rfl) rfl ?_
  refine w_call Tryz.call18 rfl (fun w hw => child_c p m (by first | omega | (simp; done) | (simp; omega) | (simp at *; omega) | (split <;> first | omega | (simp; omega))) w (hE.st0 hw)) rfl ?_
  have ft268 := childV_len p m
  refine wl_v (o_move rfl) rfl ?_
  refine wl_v (o_extract rfl rfl) rfl ?_
  refine wl_v (o_extract rfl rfl) rfl ?_
  refine wl_v (o_assign rfl) rfl ?_
  refine wl_v (o_assign rfl) rfl ?_
  refine wl_nil ?_
  refine wk_then (wc_of_wk ?_)
  refine wc_seq ?_
  refine wc_region ?_
  refine wl_v (o_move rfl) rfl ?_
  refine wl_v (o_move rfl) rfl ?_
  refine w_call Tryz.call19 rfl (fun w hw => child_r p m (by first | omega | (simp; done) | (simp; omega) | (simp at *; omega) | (split <;> first | omega | (simp; omega))) w) rfl ?_
  have ft269 := childV_len p m
  refine wl_v (o_move rfl) rfl ?_
  refine wl_v (o_extract rfl rfl) rfl ?_
  refine wl_v (o_extract rfl rfl) rfl ?_
  refine wl_v (o_assign rfl) rfl ?_
  refine wl_v (o_assign rfl) rfl ?_
  refine wl_nil ?_
  refine wk_then (wc_of_wk ?_)
  refine wc_seq ?_
  refine wc_seq_mid [(2, .string (B (s))), (6, .bool (false)), (36, .bool (!(decide (((childV p m)) = ((childV p m))))))] [] (φ := True) ?_ (fun hm269 => ?_)
  · refine wc_region ?_
    refine wl_v (o_move rfl) rfl ?_
    refine wl_v (o_move rfl) rfl ?_
    refine wl_v (o_ne rfl rfl) rfl ?_
    refine wl_v (o_move rfl) rfl ?_
    refine wl_on rfl rfl (by simp) ?_
    refine wl_v (o_move rfl) rfl ?_
    refine wl_on rfl rfl (by simp) ?_
    refine wl_v (o_move rfl) rfl ?_
    refine wl_on rfl rfl (by simp) ?_
    refine wl_v (o_sne rfl rfl) rfl ?_
    refine wl_v (o_pick_f rfl (by simp) rfl) rfl ?_
    refine wl_nil ?_
    exact wk_then (wk_mid trivial ⟨rfl, rfl, rfl, trivial⟩ .slnil)
  refine wc_cond_f rfl (by simp) ?_
  refine wc_skip ?_
  refine wk_then (wc_of_wk ?_)
  refine wc_seq ?_
  refine wc_region ?_
  refine wl_v (o_move rfl) rfl ?_
  refine w_call Tryz.call20 rfl (fun w hw => parent_c s (by first | omega | (simp; done) | (simp; omega) | (simp at *; omega) | (split <;> first | omega | (simp; omega))) w (hE.st0 hw)) rfl ?_
  have ft271 := parP_len (parOk s) s
  refine wl_v (o_move rfl) rfl ?_
  refine wl_v (o_extract rfl rfl) rfl ?_
  refine wl_v (o_extract rfl rfl) rfl ?_
  refine wl_v (o_extract rfl rfl) rfl ?_
  refine wl_v (o_assign rfl) rfl ?_
  refine wl_v (o_assign rfl) rfl ?_
  refine wl_v (o_assign rfl) rfl ?_
  refine wl_nil ?_
  refine wk_then (wc_of_wk ?_)
  refine wc_seq ?_
  refine wc_region ?_
  refine wl_v (o_move rfl) rfl ?_
  refine w_call Tryz.call21 rfl (fun w hw => parent_r s (by first | omega | (simp; done) | (simp; omega) | (simp at *; omega) | (split <;> first | omega | (simp; omega))) w) rfl ?_
  have ft272 := parP_len (parOk s) s
  refine wl_v (o_move rfl) rfl ?_
  refine wl_v (o_extract rfl rfl) rfl ?_
  refine wl_v (o_extract rfl rfl) rfl ?_
  refine wl_v (o_extract rfl rfl) rfl ?_
  refine wl_v (o_assign rfl) rfl ?_
  refine wl_v (o_assign rfl) rfl ?_
  refine wl_v (o_assign rfl) rfl ?_
  refine wl_nil ?_
  refine wk_then (wc_of_wk ?_)
  refine wc_seq_mid [(6, .bool (true))] [] (φ := True) ?_ (fun hm272 => ?_)
  · refine wc_region ?_
    refine wl_v (o_move rfl) rfl ?_
    refine wl_v (o_move rfl) rfl ?_
    refine wl_v (o_seq rfl rfl) rfl ?_
    refine wl_v (o_move rfl) rfl ?_
    refine wl_on rfl rfl (by simp) ?_
    refine wl_v (o_move rfl) rfl ?_
    refine wl_on rfl rfl (by simp) ?_
    refine wl_v (o_move rfl) rfl ?_
    refine wl_on rfl rfl (by simp) ?_
    refine wl_v (o_eq rfl rfl) rfl ?_
    refine wl_v (o_pick_t rfl (by simp) rfl) rfl ?_
    refine wl_v (o_move rfl) rfl ?_
    refine wl_on rfl rfl (by simp) ?_
    refine wl_v (o_move rfl) rfl ?_
    refine wl_on rfl rfl (by simp) ?_
    refine wl_v (o_move rfl) rfl ?_
    refine wl_on rfl rfl (by simp) ?_
    refine wl_v (o_beq Tryz.underlying4 rfl rfl) rfl ?_
    refine wl_v (o_pick_t rfl (by simp) rfl) rfl ?_
    refine wl_v (o_move rfl) rfl ?_
    refine wl_on rfl rfl (by simp) ?_
    refine w_call Tryz.call13 rfl (fun w hw => awake_c w (hE.st0 hw)) rfl ?_
    refine wl_v (o_pick_t rfl (by simp) rfl) rfl ?_
    refine wl_v (o_assign rfl) rfl ?_
    refine wl_nil ?_
    exact wk_then (wk_mid trivial ⟨rfl, trivial⟩ .slnil)
  refine wc_ret ?_
  refine wk_ret (r_1 rfl rfl) ?_
  exact retv rfl

end Go.Proofs.YtjkdkmcklocmnaaGreatDoor
