/-
  Walks, printed by a small program of ours (gsym.py).
-/
import Derived.Test.YtjkdkmcklocmnaaGreatDoorFwG
import Derived.Test.YtjkdkmcklocmnaaGreatDoorIdB
import Derived.Test.YtjkdkmcklocmnaaGreatDoorPlC
namespace Go.Proofs.YtjkdkmcklocmnaaGreatDoor
open Go Go.RowKit
set_option linter.unusedVariables false
set_option linter.unusedSimpArgs false
set_option maxRecDepth 100000
theorem decimal_c (p : List UInt8) (hp : p.length ≤ 281474976710656) (w : World) : Calls Tryz.prog 58 [.string (B (p))].toArray w (RetV w (.bool (decS p))) := by
  refine enter0 (n := 43) Tryz.func58 rfl Tryz.ntmps58 rfl ?_
  refine wc_seq ?_
  refine wc_region ?_
  refine wl_v (o_assign rfl) rfl ?_
  refine wl_nil ?_
  refine wk_then (wc_of_wk ?_)
  refine wc_seq ?_
  refine wc_region ?_
  refine wl_v (o_move rfl) rfl ?_
  refine wl_v (o_assign rfl) rfl ?_
  refine wl_nil ?_
  refine wk_then (wc_of_wk ?_)
  refine wc_seq_mid [(0, .string (B (p))), (2, .bool (false)), (3, .string (B ((if ((decide ((0) < ((p.length : Int)))) && (decide ((bat p 0) = (45)))) = true then List.drop (Int.toNat (1)) p else p))))] [] (φ := True) ?_ (fun hm80 => ?_)
  · refine wc_seq_mid [(0, .string (B (p))), (2, .bool (false)), (3, .string (B (p))), (13, .bool (((decide ((0) < ((p.length : Int)))) && (decide ((bat p 0) = (45))))))] [] (φ := True) ?_ (fun hm78 => ?_)
    · refine wc_region ?_
      refine wl_v (o_move rfl) rfl ?_
      refine wl_v (o_len_s Tryz.underlying9 rfl) rfl ?_
      refine wl_v (o_gt rfl rfl) rfl ?_
      refine wl_v (o_move rfl) rfl ?_
      refine bsplit (decide ((0) < ((p.length : Int)))) (fun h78 => ?_) (fun h78 => ?_)
      · have g78 := h78; try simp only [decide_eq_true_eq, decide_eq_false_iff_not] at g78
        have f78 := h78; try simp only [decide_eq_true_eq, decide_eq_false_iff_not, Bool.and_eq_true, Bool.or_eq_true, Bool.not_eq_true', Bool.not_eq_false', Bool.and_eq_false_iff, Bool.or_eq_false_iff, not_or, Int.not_lt, Int.not_le] at f78
        refine wl_on rfl rfl h78 ?_
        refine wl_v (o_move rfl) rfl ?_
        refine wl_on rfl rfl h78 ?_
        refine wl_v (o_index_b Tryz.underlying9 rfl rfl (by first | omega | exact len_pos (by assumption)) (by first | omega | exact len_pos (by assumption))) rfl ?_
        refine wl_on rfl rfl h78 ?_
        refine wl_v (o_eq rfl rfl) rfl ?_
        refine wl_v (o_pick_t rfl h78 rfl) rfl ?_
        refine wl_nil ?_
        exact wk_then (wk_mid trivial ⟨rfl, rfl, rfl, fb (by first | (simp only [h78, Bool.true_and, Bool.false_and, Bool.true_or, Bool.false_or, Bool.and_true, Bool.and_false, Bool.or_true, Bool.or_false, Bool.not_true, Bool.not_false, cond_true, cond_false, if_true, if_false, reduceIte, Bool.false_eq_true]; done) | (simp only [Bool.true_and, Bool.false_and, Bool.true_or, Bool.false_or, Bool.and_true, Bool.and_false, Bool.or_true, Bool.or_false, Bool.not_true, Bool.not_false, cond_true, cond_false, if_true, if_false, reduceIte, Bool.false_eq_true]; done) | simp [h78]), trivial⟩ .slnil)
      · have g78 := h78; try simp only [decide_eq_true_eq, decide_eq_false_iff_not] at g78
        have f78 := h78; try simp only [decide_eq_true_eq, decide_eq_false_iff_not, Bool.and_eq_true, Bool.or_eq_true, Bool.not_eq_true', Bool.not_eq_false', Bool.and_eq_false_iff, Bool.or_eq_false_iff, not_or, Int.not_lt, Int.not_le] at f78
        refine wl_off rfl rfl h78 rfl ?_
        refine wl_off rfl rfl h78 rfl ?_
        refine wl_off rfl rfl h78 rfl ?_
        refine wl_v (o_pick_f rfl h78 rfl) rfl ?_
        refine wl_nil ?_
        exact wk_then (wk_mid trivial ⟨rfl, rfl, rfl, fb (by first | (simp only [h78, Bool.true_and, Bool.false_and, Bool.true_or, Bool.false_or, Bool.and_true, Bool.and_false, Bool.or_true, Bool.or_false, Bool.not_true, Bool.not_false, cond_true, cond_false, if_true, if_false, reduceIte, Bool.false_eq_true]; done) | (simp only [Bool.true_and, Bool.false_and, Bool.true_or, Bool.false_or, Bool.and_true, Bool.and_false, Bool.or_true, Bool.or_false, Bool.not_true, Bool.not_false, cond_true, cond_false, if_true, if_false, reduceIte, Bool.false_eq_true]; done) | simp [h78]), trivial⟩ .slnil)
    refine wc_cond (b := ((decide ((0) < ((p.length : Int)))) && (decide ((bat p 0) = (45))))) rfl (fun h80 => ?_) (fun h80 => ?_)
    · have g80 := h80; try simp only [decide_eq_true_eq, decide_eq_false_iff_not] at g80
      have f80 := h80; try simp only [decide_eq_true_eq, decide_eq_false_iff_not, Bool.and_eq_true, Bool.or_eq_true, Bool.not_eq_true', Bool.not_eq_false', Bool.and_eq_false_iff, Bool.or_eq_false_iff, not_or, Int.not_lt, Int.not_le] at f80
      refine wc_region ?_
      refine wl_v (o_move rfl) rfl ?_
      refine wl_v (o_slice_lo Tryz.underlying9 rfl rfl (by first | omega | (simp; omega)) (by first | omega | (simp; omega))) rfl ?_
      refine wl_v (o_assign rfl) rfl ?_
      refine wl_nil ?_
      exact wk_then (wk_mid trivial ⟨rfl, rfl, fs (by first | (simp only [h80, Bool.true_and, Bool.false_and, Bool.true_or, Bool.false_or, Bool.and_true, Bool.and_false, Bool.or_true, Bool.or_false, Bool.not_true, Bool.not_false, cond_true, cond_false, if_true, if_false, reduceIte, Bool.false_eq_true]; done) | (simp only [Bool.true_and, Bool.false_and, Bool.true_or, Bool.false_or, Bool.and_true, Bool.and_false, Bool.or_true, Bool.or_false, Bool.not_true, Bool.not_false, cond_true, cond_false, if_true, if_false, reduceIte, Bool.false_eq_true]; done) | simp [h80]), trivial⟩ .slnil)
    · have g80 := h80; try simp only [decide_eq_true_eq, decide_eq_false_iff_not] at g80
      have f80 := h80; try simp only [decide_eq_true_eq, decide_eq_false_iff_not, Bool.and_eq_true, Bool.or_eq_true, Bool.not_eq_true', Bool.not_eq_false', Bool.and_eq_false_iff, Bool.or_eq_false_iff, not_or, Int.not_lt, Int.not_le] at f80
      refine wc_skip ?_
      exact wk_then (wk_mid trivial ⟨rfl, rfl, fs (by first | (simp only [h80, Bool.true_and, Bool.false_and, Bool.true_or, Bool.false_or, Bool.and_true, Bool.and_false, Bool.or_true, Bool.or_false, Bool.not_true, Bool.not_false, cond_true, cond_false, if_true, if_false, reduceIte, Bool.false_eq_true]; done) | (simp only [Bool.true_and, Bool.false_and, Bool.true_or, Bool.false_or, Bool.and_true, Bool.and_false, Bool.or_true, Bool.or_false, Bool.not_true, Bool.not_false, cond_true, cond_false, if_true, if_false, reduceIte, Bool.false_eq_true]; done) | simp [h80]), trivial⟩ .slnil)
  have hdg : digs p = (if ((decide ((0) < ((p.length : Int)))) && (decide ((bat p 0) = (45)))) = true then List.drop (Int.toNat (1)) p else p) := rfl
  have hdl := digs_len p
  rw [hdg] at hdl
  generalize (if ((decide ((0) < ((p.length : Int)))) && (decide ((bat p 0) = (45)))) = true then List.drop (Int.toNat (1)) p else p) = dg at hdg hdl ⊢
  refine wc_seq ?_
  refine wc_seq_mid [(2, .bool (false)), (3, .string (B (dg))), (26, .bool (((decide ((dg) = (([] : List UInt8)))) || ((decide ((bat dg 0) = (48))) && (!(decide ((p) = (([48] : List UInt8)))))))))] [] (φ := True) ?_ (fun hm83 => ?_)
  · refine wc_region ?_
    refine wl_v (o_move rfl) rfl ?_
    refine wl_v (o_seq rfl rfl) rfl ?_
    refine wl_v (o_move rfl) rfl ?_
    refine bsplit (decide ((dg) = (([] : List UInt8)))) (fun h82 => ?_) (fun h82 => ?_)
    · have g82 := h82; try simp only [decide_eq_true_eq, decide_eq_false_iff_not] at g82
      have f82 := h82; try simp only [decide_eq_true_eq, decide_eq_false_iff_not, Bool.and_eq_true, Bool.or_eq_true, Bool.not_eq_true', Bool.not_eq_false', Bool.and_eq_false_iff, Bool.or_eq_false_iff, not_or, Int.not_lt, Int.not_le] at f82
      refine wl_off rfl rfl h82 rfl ?_
      refine wl_off rfl rfl h82 rfl ?_
      refine wl_off rfl rfl h82 rfl ?_
      refine wl_off rfl rfl h82 rfl ?_
      refine wl_off_u rfl rfl rfl ?_
      refine wl_off_u rfl rfl rfl ?_
      refine wl_off rfl rfl h82 rfl ?_
      refine wl_v (o_pick_t rfl h82 rfl) rfl ?_
      refine wl_nil ?_
      exact wk_then (wk_mid trivial ⟨rfl, rfl, fb (by first | (simp only [h82, Bool.true_and, Bool.false_and, Bool.true_or, Bool.false_or, Bool.and_true, Bool.and_false, Bool.or_true, Bool.or_false, Bool.not_true, Bool.not_false, cond_true, cond_false, if_true, if_false, reduceIte, Bool.false_eq_true]; done) | (simp only [Bool.true_and, Bool.false_and, Bool.true_or, Bool.false_or, Bool.and_true, Bool.and_false, Bool.or_true, Bool.or_false, Bool.not_true, Bool.not_false, cond_true, cond_false, if_true, if_false, reduceIte, Bool.false_eq_true]; done) | simp [h82]), trivial⟩ .slnil)
    · have g82 := h82; try simp only [decide_eq_true_eq, decide_eq_false_iff_not] at g82
      have f82 := h82; try simp only [decide_eq_true_eq, decide_eq_false_iff_not, Bool.and_eq_true, Bool.or_eq_true, Bool.not_eq_true', Bool.not_eq_false', Bool.and_eq_false_iff, Bool.or_eq_false_iff, not_or, Int.not_lt, Int.not_le] at f82
      refine wl_on rfl rfl h82 ?_
      refine wl_v (o_move rfl) rfl ?_
      refine wl_on rfl rfl h82 ?_
      refine wl_v (o_index_b Tryz.underlying9 rfl rfl (by first | omega | exact len_pos (by assumption)) (by first | omega | exact len_pos (by assumption))) rfl ?_
      refine wl_on rfl rfl h82 ?_
      refine wl_v (o_eq rfl rfl) rfl ?_
      refine wl_on rfl rfl h82 ?_
      refine wl_v (o_move rfl) rfl ?_
      refine bsplit (decide ((bat dg 0) = (48))) (fun h83 => ?_) (fun h83 => ?_)
      · have g83 := h83; try simp only [decide_eq_true_eq, decide_eq_false_iff_not] at g83
        have f83 := h83; try simp only [decide_eq_true_eq, decide_eq_false_iff_not, Bool.and_eq_true, Bool.or_eq_true, Bool.not_eq_true', Bool.not_eq_false', Bool.and_eq_false_iff, Bool.or_eq_false_iff, not_or, Int.not_lt, Int.not_le] at f83
        refine wl_on rfl rfl h83 ?_
        refine wl_v (o_move rfl) rfl ?_
        refine wl_on rfl rfl h83 ?_
        refine wl_v (o_sne rfl rfl) rfl ?_
        refine wl_on rfl rfl h82 ?_
        refine wl_v (o_pick_t rfl h83 rfl) rfl ?_
        refine wl_v (o_pick_f rfl h82 rfl) rfl ?_
        refine wl_nil ?_
        exact wk_then (wk_mid trivial ⟨rfl, rfl, fb (by first | (simp only [h82, h83, Bool.true_and, Bool.false_and, Bool.true_or, Bool.false_or, Bool.and_true, Bool.and_false, Bool.or_true, Bool.or_false, Bool.not_true, Bool.not_false, cond_true, cond_false, if_true, if_false, reduceIte, Bool.false_eq_true]; done) | (simp only [Bool.true_and, Bool.false_and, Bool.true_or, Bool.false_or, Bool.and_true, Bool.and_false, Bool.or_true, Bool.or_false, Bool.not_true, Bool.not_false, cond_true, cond_false, if_true, if_false, reduceIte, Bool.false_eq_true]; done) | simp [h82, h83]), trivial⟩ .slnil)
      · have g83 := h83; try simp only [decide_eq_true_eq, decide_eq_false_iff_not] at g83
        have f83 := h83; try simp only [decide_eq_true_eq, decide_eq_false_iff_not, Bool.and_eq_true, Bool.or_eq_true, Bool.not_eq_true', Bool.not_eq_false', Bool.and_eq_false_iff, Bool.or_eq_false_iff, not_or, Int.not_lt, Int.not_le] at f83
        refine wl_off rfl rfl h83 rfl ?_
        refine wl_off rfl rfl h83 rfl ?_
        refine wl_on rfl rfl h82 ?_
        refine wl_v (o_pick_f rfl h83 rfl) rfl ?_
        refine wl_v (o_pick_f rfl h82 rfl) rfl ?_
        refine wl_nil ?_
        exact wk_then (wk_mid trivial ⟨rfl, rfl, fb (by first | (simp only [h82, h83, Bool.true_and, Bool.false_and, Bool.true_or, Bool.false_or, Bool.and_true, Bool.and_false, Bool.or_true, Bool.or_false, Bool.not_true, Bool.not_false, cond_true, cond_false, if_true, if_false, reduceIte, Bool.false_eq_true]; done) | (simp only [Bool.true_and, Bool.false_and, Bool.true_or, Bool.false_or, Bool.and_true, Bool.and_false, Bool.or_true, Bool.or_false, Bool.not_true, Bool.not_false, cond_true, cond_false, if_true, if_false, reduceIte, Bool.false_eq_true]; done) | simp [h82, h83]), trivial⟩ .slnil)
  refine wc_cond (b := ((decide ((dg) = (([] : List UInt8)))) || ((decide ((bat dg 0) = (48))) && (!(decide ((p) = (([48] : List UInt8)))))))) rfl (fun h85 => ?_) (fun h85 => ?_)
  · have g85 := h85; try simp only [decide_eq_true_eq, decide_eq_false_iff_not] at g85
    have f85 := h85; try simp only [decide_eq_true_eq, decide_eq_false_iff_not, Bool.and_eq_true, Bool.or_eq_true, Bool.not_eq_true', Bool.not_eq_false', Bool.and_eq_false_iff, Bool.or_eq_false_iff, not_or, Int.not_lt, Int.not_le] at f85
    refine wc_seq ?_
    refine wc_region ?_
    refine wl_v (o_assign rfl) rfl ?_
    refine wl_nil ?_
    refine wk_then (wc_of_wk ?_)
    refine wc_ret ?_
    refine wk_then_ret ?_
    refine wk_ret (r_1 rfl rfl) ?_
    exact retv (by simp only [decS, hdg, h85]; rfl)
  · have g85 := h85; try simp only [decide_eq_true_eq, decide_eq_false_iff_not] at g85
    have f85 := h85; try simp only [decide_eq_true_eq, decide_eq_false_iff_not, Bool.and_eq_true, Bool.or_eq_true, Bool.not_eq_true', Bool.not_eq_false', Bool.and_eq_false_iff, Bool.or_eq_false_iff, not_or, Int.not_lt, Int.not_le] at f85
    refine wc_skip ?_
    refine wk_then (wc_of_wk ?_)
    refine wc_seq ?_
    refine wc_seq ?_
    refine wc_region ?_
    refine wl_v (o_move rfl) rfl ?_
    refine wl_v (o_len_s Tryz.underlying9 rfl) rfl ?_
    refine wl_v (o_move rfl) rfl ?_
    refine wl_nil ?_
    refine wk_then (wc_of_wk ?_)
    refine wc_block ?_
    refine wc_loop (S := Nat) (fun (k : Nat) => k ≤ dg.length ∧ allFrom digCh 0 dg = allFrom digCh k (dg.drop k)) (fun (k : Nat) => [(29, .int .i64 ((k : Int))), (3, .string (B (dg))), (28, .int .i64 ((dg.length : Int)))]) (fun (k : Nat) => []) (fun (k : Nat) => dg.length - k) (0) ?_ ⟨fi (by first | rfl | (simp; done) | omega | (simp; omega)), rfl, rfl, trivial⟩ .slnil ?_
    · exact ⟨Nat.zero_le _, by simp⟩
    rintro k hi0
    refine wc_seq ?_
    refine wc_region ?_
    refine wl_v (o_lt rfl rfl) rfl ?_
    refine wl_nil ?_
    refine wk_then (wc_of_wk ?_)
    refine wc_seq ?_
    refine wc_cond (b := decide (((k : Int)) < ((dg.length : Int)))) rfl (fun h86 => ?_) (fun h86 => ?_)
    · have g86 := h86; try simp only [decide_eq_true_eq, decide_eq_false_iff_not] at g86
      have f86 := h86; try simp only [decide_eq_true_eq, decide_eq_false_iff_not, Bool.and_eq_true, Bool.or_eq_true, Bool.not_eq_true', Bool.not_eq_false', Bool.and_eq_false_iff, Bool.or_eq_false_iff, not_or, Int.not_lt, Int.not_le] at f86
      refine wc_skip ?_
      refine wk_then (wc_of_wk ?_)
      refine wc_seq ?_
      refine wc_block ?_
      refine wc_seq ?_
      refine wc_region ?_
      refine wl_v (o_move rfl) rfl ?_
      refine wl_v (o_assign rfl) rfl ?_
      refine wl_nil ?_
      refine wk_then (wc_of_wk ?_)
      refine wc_seq_mid [(3, .string (B (dg))), (4, .int .i64 ((k : Int))), (28, .int .i64 ((dg.length : Int))), (29, .int .i64 ((k : Int))), (30, .bool (decide (((k : Int)) < ((dg.length : Int))))), (31, .int .i64 ((k : Int))), (32, .string (B (dg))), (33, .int .i64 ((k : Int))), (34, .int .u8 (bat dg (k : Int))), (35, .bool (decide ((bat dg (k : Int)) < (48)))), (36, .bool (decide ((bat dg (k : Int)) < (48)))), (41, .bool (((decide ((bat dg (k : Int)) < (48))) || (decide ((57) < (bat dg (k : Int)))))))] [] (φ := True) ?_ (fun hm87 => ?_)
      · refine wc_region ?_
        refine wl_v (o_move rfl) rfl ?_
        refine wl_v (o_move rfl) rfl ?_
        refine wl_v (o_index_b Tryz.underlying9 rfl rfl (by first | omega | exact len_pos (by assumption)) (by first | omega | exact len_pos (by assumption))) rfl ?_
        refine wl_v (o_lt rfl rfl) rfl ?_
        refine wl_v (o_move rfl) rfl ?_
        refine bsplit (decide ((bat dg (k : Int)) < (48))) (fun h87 => ?_) (fun h87 => ?_)
        · have g87 := h87; try simp only [decide_eq_true_eq, decide_eq_false_iff_not] at g87
          have f87 := h87; try simp only [decide_eq_true_eq, decide_eq_false_iff_not, Bool.and_eq_true, Bool.or_eq_true, Bool.not_eq_true', Bool.not_eq_false', Bool.and_eq_false_iff, Bool.or_eq_false_iff, not_or, Int.not_lt, Int.not_le] at f87
          refine wl_off rfl rfl h87 rfl ?_
          refine wl_off rfl rfl h87 rfl ?_
          refine wl_off rfl rfl h87 rfl ?_
          refine wl_off rfl rfl h87 rfl ?_
          refine wl_v (o_pick_t rfl h87 rfl) rfl ?_
          refine wl_nil ?_
          exact wk_then (wk_mid trivial ⟨rfl, rfl, rfl, rfl, rfl, rfl, rfl, rfl, rfl, rfl, rfl, fb (by first | (simp only [h85, h86, h87, Bool.true_and, Bool.false_and, Bool.true_or, Bool.false_or, Bool.and_true, Bool.and_false, Bool.or_true, Bool.or_false, Bool.not_true, Bool.not_false, cond_true, cond_false, if_true, if_false, reduceIte, Bool.false_eq_true]; done) | (simp only [Bool.true_and, Bool.false_and, Bool.true_or, Bool.false_or, Bool.and_true, Bool.and_false, Bool.or_true, Bool.or_false, Bool.not_true, Bool.not_false, cond_true, cond_false, if_true, if_false, reduceIte, Bool.false_eq_true]; done) | simp [h85, h86, h87]), trivial⟩ .slnil)
        · have g87 := h87; try simp only [decide_eq_true_eq, decide_eq_false_iff_not] at g87
          have f87 := h87; try simp only [decide_eq_true_eq, decide_eq_false_iff_not, Bool.and_eq_true, Bool.or_eq_true, Bool.not_eq_true', Bool.not_eq_false', Bool.and_eq_false_iff, Bool.or_eq_false_iff, not_or, Int.not_lt, Int.not_le] at f87
          refine wl_on rfl rfl h87 ?_
          refine wl_v (o_move rfl) rfl ?_
          refine wl_on rfl rfl h87 ?_
          refine wl_v (o_move rfl) rfl ?_
          refine wl_on rfl rfl h87 ?_
          refine wl_v (o_index_b Tryz.underlying9 rfl rfl (by first | omega | exact len_pos (by assumption)) (by first | omega | exact len_pos (by assumption))) rfl ?_
          refine wl_on rfl rfl h87 ?_
          refine wl_v (o_gt rfl rfl) rfl ?_
          refine wl_v (o_pick_f rfl h87 rfl) rfl ?_
          refine wl_nil ?_
          exact wk_then (wk_mid trivial ⟨rfl, rfl, rfl, rfl, rfl, rfl, rfl, rfl, rfl, rfl, rfl, fb (by first | (simp only [h85, h86, h87, Bool.true_and, Bool.false_and, Bool.true_or, Bool.false_or, Bool.and_true, Bool.and_false, Bool.or_true, Bool.or_false, Bool.not_true, Bool.not_false, cond_true, cond_false, if_true, if_false, reduceIte, Bool.false_eq_true]; done) | (simp only [Bool.true_and, Bool.false_and, Bool.true_or, Bool.false_or, Bool.and_true, Bool.and_false, Bool.or_true, Bool.or_false, Bool.not_true, Bool.not_false, cond_true, cond_false, if_true, if_false, reduceIte, Bool.false_eq_true]; done) | simp [h85, h86, h87]), trivial⟩ .slnil)
      refine wc_cond (b := ((decide ((bat dg (k : Int)) < (48))) || (decide ((57) < (bat dg (k : Int)))))) rfl (fun h89 => ?_) (fun h89 => ?_)
      · have g89 := h89; try simp only [decide_eq_true_eq, decide_eq_false_iff_not] at g89
        have f89 := h89; try simp only [decide_eq_true_eq, decide_eq_false_iff_not, Bool.and_eq_true, Bool.or_eq_true, Bool.not_eq_true', Bool.not_eq_false', Bool.and_eq_false_iff, Bool.or_eq_false_iff, not_or, Int.not_lt, Int.not_le] at f89
        refine wc_seq ?_
        refine wc_region ?_
        refine wl_v (o_assign rfl) rfl ?_
        refine wl_nil ?_
        refine wk_then (wc_of_wk ?_)
        refine wc_ret ?_
        refine wk_in_ret ?_
        refine wk_then_ret ?_
        refine wk_then_ret ?_
        refine wk_in_ret ?_
        refine wk_then_ret ?_
        refine wk_ret (r_1 rfl rfl) ?_
        exact retv (by simp [decS, hdg, dig_no hi0 g86 h89])
      · have g89 := h89; try simp only [decide_eq_true_eq, decide_eq_false_iff_not] at g89
        have f89 := h89; try simp only [decide_eq_true_eq, decide_eq_false_iff_not, Bool.and_eq_true, Bool.or_eq_true, Bool.not_eq_true', Bool.not_eq_false', Bool.and_eq_false_iff, Bool.or_eq_false_iff, not_or, Int.not_lt, Int.not_le] at f89
        refine wc_skip ?_
        refine wk_in_norm ?_
        refine wk_then (wc_of_wk ?_)
        refine wc_region ?_
        refine wl_v (o_add rfl rfl (IntWalk.i64_in _ (by omega))) rfl ?_
        refine wl_v (o_move rfl) rfl ?_
        refine wl_nil ?_
        refine wk_then ?_
        refine wk_some (k + 1) ?_ ⟨fi (by first | rfl | (simp; done) | omega | (simp; omega)), rfl, rfl, trivial⟩ .slnil
        exact dig_next hi0 g86 h89
    · have g86 := h86; try simp only [decide_eq_true_eq, decide_eq_false_iff_not] at g86
      have f86 := h86; try simp only [decide_eq_true_eq, decide_eq_false_iff_not, Bool.and_eq_true, Bool.or_eq_true, Bool.not_eq_true', Bool.not_eq_false', Bool.and_eq_false_iff, Bool.or_eq_false_iff, not_or, Int.not_lt, Int.not_le] at f86
      refine wc_exit ?_
      refine wk_then_exit ?_
      refine wk_then_exit ?_
      refine wk_in_hit ?_
      refine wk_then (wc_of_wk ?_)
      refine wc_seq ?_
      refine wc_region ?_
      refine wl_v (o_assign rfl) rfl ?_
      refine wl_nil ?_
      refine wk_then (wc_of_wk ?_)
      refine wc_ret ?_
      refine wk_ret (r_1 rfl rfl) ?_
      exact retv (by simp only [decS, hdg, h85, dig_yes hi0 g86]; rfl)

theorem format_c (m : Int) (h0 : -9223372036854775808 ≤ m) (h1 : m ≤ 9223372036854775807) (w : World) (hE : Env w) : Calls Tryz.prog 41 [.int .i64 (m)].toArray w (RetV w (.string (B (Lib.itoa m)))) := by
  refine enter0 (n := 5) Tryz.func41 rfl Tryz.ntmps41 rfl ?_
  refine wc_seq ?_
  refine wc_region ?_
  refine wl_v (o_assign rfl) rfl ?_
  refine wl_nil ?_
  refine wk_then (wc_of_wk ?_)
  refine wc_seq ?_
  refine wc_region ?_
  refine wl_v (o_move rfl) rfl ?_
  refine w_call Tryz.call56 rfl (fun w hw => itoa_c m (by omega) (by omega) w (hE.st0 hw)) rfl ?_
  refine wl_v (o_assign rfl) rfl ?_
  refine wl_nil ?_
  refine wk_then (wc_of_wk ?_)
  refine wc_ret ?_
  refine wk_ret (r_1 rfl rfl) ?_
  exact retv (by first | rfl | simp [])

theorem parse_c (p : List UInt8) (hp : p.length ≤ 281474976710656) (w : World) (hE : Env w) : Calls Tryz.prog 44 [.string (B (p))].toArray w (RetV w (.tuple #[.int .i64 (parseV p), .int .i64 (parseE p)])) := by
  refine enter0 (n := 22) Tryz.func44 rfl Tryz.ntmps44 rfl ?_
  refine wc_seq ?_
  refine wc_region ?_
  refine wl_v (o_assign rfl) rfl ?_
  refine wl_v (o_assign rfl) rfl ?_
  refine wl_nil ?_
  refine wk_then (wc_of_wk ?_)
  refine wc_seq ?_
  refine wc_seq ?_
  refine wc_region ?_
  refine wl_v (o_move rfl) rfl ?_
  refine w_call Tryz.call58 rfl (fun w hw => decimal_c p (by first | omega | (simp; done) | (simp; omega) | (simp at *; omega)) w) rfl ?_
  refine wl_v (o_not rfl) rfl ?_
  refine wl_nil ?_
  refine wk_then (wc_of_wk ?_)
  refine wc_cond (b := !(decS p)) rfl (fun h90 => ?_) (fun h90 => ?_)
  · have g90 := h90; try simp only [decide_eq_true_eq, decide_eq_false_iff_not] at g90
    have f90 := h90; try simp only [decide_eq_true_eq, decide_eq_false_iff_not, Bool.and_eq_true, Bool.or_eq_true, Bool.not_eq_true', Bool.not_eq_false', Bool.and_eq_false_iff, Bool.or_eq_false_iff, not_or, Int.not_lt, Int.not_le] at f90
    refine wc_seq ?_
    refine wc_region ?_
    refine wl_v (o_assign rfl) rfl ?_
    refine wl_v (o_assign rfl) rfl ?_
    refine wl_nil ?_
    refine wk_then (wc_of_wk ?_)
    refine wc_ret ?_
    refine wk_then_ret ?_
    refine wk_ret (r_2 rfl rfl rfl) ?_
    exact retv (by simp [parseV, parseE, f90])
  · have g90 := h90; try simp only [decide_eq_true_eq, decide_eq_false_iff_not] at g90
    have f90 := h90; try simp only [decide_eq_true_eq, decide_eq_false_iff_not, Bool.and_eq_true, Bool.or_eq_true, Bool.not_eq_true', Bool.not_eq_false', Bool.and_eq_false_iff, Bool.or_eq_false_iff, not_or, Int.not_lt, Int.not_le] at f90
    refine wc_skip ?_
    refine wk_then (wc_of_wk ?_)
    refine wc_seq ?_
    refine wc_region ?_
    refine wl_v (o_move rfl) rfl ?_
    rcases atoi_dec (p := p) (by assumption) with ⟨av, hav, hal, hah⟩ | hav
    · refine w_call Tryz.call59 rfl (fun w _ => atoi_ok p (by first | omega | (simp; done) | (simp; omega) | (simp at *; omega)) av hav w) rfl ?_
      refine wl_v (o_move rfl) rfl ?_
      refine wl_v (o_extract rfl rfl) rfl ?_
      refine wl_v (o_extract rfl rfl) rfl ?_
      refine wl_v (o_assign rfl) rfl ?_
      refine wl_v (o_assign rfl) rfl ?_
      refine wl_nil ?_
      refine wk_then (wc_of_wk ?_)
      refine wc_seq ?_
      refine wc_seq_mid [(2, .int .i64 (0)), (3, .int .i64 (0)), (4, .int .i64 (av)), (20, .bool (!(validS av)))] [] (φ := True) ?_ (fun hm90 => ?_)
      · refine wc_region ?_
        refine wl_v (o_move rfl) rfl ?_
        refine wl_v (o_if_ne_nil Tryz.underlying52 rfl) rfl ?_
        refine wl_v (o_move rfl) rfl ?_
        refine wl_on rfl rfl rfl ?_
        refine wl_v (o_move rfl) rfl ?_
        refine wl_on rfl rfl rfl ?_
        refine w_call Tryz.call60 rfl (fun w hw => valid_c av w) rfl ?_
        refine wl_on rfl rfl rfl ?_
        refine wl_v (o_not rfl) rfl ?_
        refine wl_v (o_pick_f rfl rfl rfl) rfl ?_
        refine wl_nil ?_
        exact wk_then (wk_mid trivial ⟨rfl, rfl, rfl, rfl, trivial⟩ .slnil)
      refine wc_cond (b := !(validS av)) rfl (fun h92 => ?_) (fun h92 => ?_)
      · have g92 := h92; try simp only [decide_eq_true_eq, decide_eq_false_iff_not] at g92
        have f92 := h92; try simp only [decide_eq_true_eq, decide_eq_false_iff_not, Bool.and_eq_true, Bool.or_eq_true, Bool.not_eq_true', Bool.not_eq_false', Bool.and_eq_false_iff, Bool.or_eq_false_iff, not_or, Int.not_lt, Int.not_le] at f92
        refine wc_seq ?_
        refine wc_region ?_
        refine wl_v (o_assign rfl) rfl ?_
        refine wl_v (o_assign rfl) rfl ?_
        refine wl_nil ?_
        refine wk_then (wc_of_wk ?_)
        refine wc_ret ?_
        refine wk_then_ret ?_
        refine wk_ret (r_2 rfl rfl rfl) ?_
        exact retv (by simp [parseV, parseE, hav, f90, f92])
      · have g92 := h92; try simp only [decide_eq_true_eq, decide_eq_false_iff_not] at g92
        have f92 := h92; try simp only [decide_eq_true_eq, decide_eq_false_iff_not, Bool.and_eq_true, Bool.or_eq_true, Bool.not_eq_true', Bool.not_eq_false', Bool.and_eq_false_iff, Bool.or_eq_false_iff, not_or, Int.not_lt, Int.not_le] at f92
        refine wc_skip ?_
        refine wk_then (wc_of_wk ?_)
        refine wc_seq ?_
        refine wc_region ?_
        refine wl_v (o_move rfl) rfl ?_
        refine wl_v (o_assign rfl) rfl ?_
        refine wl_v (o_assign rfl) rfl ?_
        refine wl_nil ?_
        refine wk_then (wc_of_wk ?_)
        refine wc_ret ?_
        refine wk_ret (r_2 rfl rfl rfl) ?_
        exact retv (by simp [parseV, parseE, hav, f90, f92])
    · refine w_callM Tryz.call59 rfl (fun w hw => atoi_range p (by first | omega | (simp; done) | (simp; omega) | (simp at *; omega)) hav w (hE.st0 hw)) rfl ?_
      rintro _ _ ⟨am, at_, ab, rfl, rfl⟩
      refine wl_v (o_move rfl) rfl ?_
      refine wl_v (o_extract rfl rfl) rfl ?_
      refine wl_v (o_extract rfl rfl) rfl ?_
      refine wl_v (o_assign rfl) rfl ?_
      refine wl_v (o_assign rfl) rfl ?_
      refine wl_nil ?_
      refine wk_then (wc_of_wk ?_)
      refine wc_seq ?_
      refine wc_seq_mid [(2, .int .i64 (0)), (3, .int .i64 (0)), (4, .int .i64 (am)), (20, .bool (true))] [] (φ := True) ?_ (fun hm92 => ?_)
      · refine wc_region ?_
        refine wl_v (o_move rfl) rfl ?_
        refine wl_v (o_if_ne Tryz.underlying52 rfl) rfl ?_
        refine wl_v (o_move rfl) rfl ?_
        refine wl_off rfl rfl rfl rfl ?_
        refine wl_off rfl rfl rfl rfl ?_
        refine wl_off rfl rfl rfl rfl ?_
        refine wl_v (o_pick_t rfl rfl rfl) rfl ?_
        refine wl_nil ?_
        exact wk_then (wk_mid trivial ⟨rfl, rfl, rfl, rfl, trivial⟩ .slnil)
      refine wc_cond_t rfl rfl ?_
      refine wc_seq ?_
      refine wc_region ?_
      refine wl_v (o_assign rfl) rfl ?_
      refine wl_v (o_assign rfl) rfl ?_
      refine wl_nil ?_
      refine wk_then (wc_of_wk ?_)
      refine wc_ret ?_
      refine wk_then_ret ?_
      refine wk_ret (r_2 rfl rfl rfl) ?_
      exact retv (by simp [parseV, parseE, hav, f90])

theorem last0_c (p : List UInt8) (m : Int) (hp : p.length ≤ 281474976710656) (w : World) : Calls Tryz.prog 57 [.string (B (p)), .int .u8 (m)].toArray w (RetV w (.int .i64 (lastB p m))) := by
  refine enter0 (n := 19) Tryz.func57 rfl Tryz.ntmps57 rfl ?_
  refine wc_seq ?_
  refine wc_region ?_
  refine wl_v (o_assign rfl) rfl ?_
  refine wl_nil ?_
  refine wk_then (wc_of_wk ?_)
  refine wc_seq ?_
  refine wc_seq ?_
  refine wc_region ?_
  refine wl_v (o_move rfl) rfl ?_
  refine wl_v (o_len_s Tryz.underlying9 rfl) rfl ?_
  refine wl_v (o_sub rfl rfl (IntWalk.i64_in _ (by omega))) rfl ?_
  refine wl_v (o_assign rfl) rfl ?_
  refine wl_nil ?_
  refine wk_then (wc_of_wk ?_)
  refine wc_block ?_
  refine wc_loop (S := Nat) (fun (k : Nat) => k ≤ p.length ∧ lastB p m = lastIx p m k) (fun (k : Nat) => [(5, .int .i64 ((k : Int) - 1)), (0, .string (B (p))), (1, .int .u8 (m))]) (fun (k : Nat) => []) (fun (k : Nat) => k) (p.length) ?_ ⟨fi (by first | rfl | (simp; done) | omega | (simp; omega)), rfl, rfl, trivial⟩ .slnil ?_
  · exact ⟨Nat.le_refl _, rfl⟩
  rintro k hi0
  refine wc_seq ?_
  refine wc_seq ?_
  refine wc_region ?_
  refine wl_v (o_move rfl) rfl ?_
  refine wl_v (o_ge rfl rfl) rfl ?_
  refine wl_nil ?_
  refine wk_then (wc_of_wk ?_)
  refine wc_cond (b := decide ((0) ≤ ((k : Int) - 1))) rfl (fun h94 => ?_) (fun h94 => ?_)
  · have g94 := h94; try simp only [decide_eq_true_eq, decide_eq_false_iff_not] at g94
    have f94 := h94; try simp only [decide_eq_true_eq, decide_eq_false_iff_not, Bool.and_eq_true, Bool.or_eq_true, Bool.not_eq_true', Bool.not_eq_false', Bool.and_eq_false_iff, Bool.or_eq_false_iff, not_or, Int.not_lt, Int.not_le] at f94
    refine wc_skip ?_
    refine wk_then (wc_of_wk ?_)
    refine wc_seq ?_
    refine wc_block ?_
    refine wc_seq ?_
    refine wc_region ?_
    refine wl_v (o_move rfl) rfl ?_
    refine wl_v (o_move rfl) rfl ?_
    refine wl_v (o_index_b Tryz.underlying9 rfl rfl (by first | omega | (simp; omega) | (simp at *; omega)) (by first | omega | (simp; omega) | (simp at *; omega))) rfl ?_
    refine wl_v (o_move rfl) rfl ?_
    refine wl_v (o_eq rfl rfl) rfl ?_
    refine wl_nil ?_
    refine wk_then (wc_of_wk ?_)
    refine wc_cond (b := decide ((bat p ((k : Int) - 1)) = (m))) rfl (fun h95 => ?_) (fun h95 => ?_)
    · have g95 := h95; try simp only [decide_eq_true_eq, decide_eq_false_iff_not] at g95
      have f95 := h95; try simp only [decide_eq_true_eq, decide_eq_false_iff_not, Bool.and_eq_true, Bool.or_eq_true, Bool.not_eq_true', Bool.not_eq_false', Bool.and_eq_false_iff, Bool.or_eq_false_iff, not_or, Int.not_lt, Int.not_le] at f95
      refine wc_seq ?_
      refine wc_region ?_
      refine wl_v (o_move rfl) rfl ?_
      refine wl_v (o_assign rfl) rfl ?_
      refine wl_nil ?_
      refine wk_then (wc_of_wk ?_)
      refine wc_ret ?_
      refine wk_in_ret ?_
      refine wk_then_ret ?_
      refine wk_then_ret ?_
      refine wk_in_ret ?_
      refine wk_then_ret ?_
      refine wk_ret (r_1 rfl rfl) ?_
      exact retv (by rw [← last_hit hi0 g94 g95])
    · have g95 := h95; try simp only [decide_eq_true_eq, decide_eq_false_iff_not] at g95
      have f95 := h95; try simp only [decide_eq_true_eq, decide_eq_false_iff_not, Bool.and_eq_true, Bool.or_eq_true, Bool.not_eq_true', Bool.not_eq_false', Bool.and_eq_false_iff, Bool.or_eq_false_iff, not_or, Int.not_lt, Int.not_le] at f95
      refine wc_skip ?_
      refine wk_in_norm ?_
      refine wk_then (wc_of_wk ?_)
      refine wc_region ?_
      refine wl_v (o_move rfl) rfl ?_
      refine wl_v (o_sub rfl rfl (IntWalk.i64_in _ (by omega))) rfl ?_
      refine wl_v (o_assign rfl) rfl ?_
      refine wl_nil ?_
      refine wk_then ?_
      refine wk_some (k - 1) ?_ ⟨fi (by first | rfl | (simp; done) | omega | (simp; omega)), rfl, rfl, trivial⟩ .slnil
      exact last_next hi0 g94 g95
  · have g94 := h94; try simp only [decide_eq_true_eq, decide_eq_false_iff_not] at g94
    have f94 := h94; try simp only [decide_eq_true_eq, decide_eq_false_iff_not, Bool.and_eq_true, Bool.or_eq_true, Bool.not_eq_true', Bool.not_eq_false', Bool.and_eq_false_iff, Bool.or_eq_false_iff, not_or, Int.not_lt, Int.not_le] at f94
    refine wc_exit ?_
    refine wk_then_exit ?_
    refine wk_then_exit ?_
    refine wk_in_hit ?_
    refine wk_then (wc_of_wk ?_)
    refine wc_seq ?_
    refine wc_region ?_
    refine wl_v (o_assign rfl) rfl ?_
    refine wl_nil ?_
    refine wk_then (wc_of_wk ?_)
    refine wc_ret ?_
    refine wk_ret (r_1 rfl rfl) ?_
    exact retv (by rw [← last_end hi0 g94])

theorem last_c (p : List UInt8) (m : Int) (hp : p.length ≤ 281474976710656) (w : World) : Calls Tryz.prog 43 [.string (B (p)), .int .u8 (m)].toArray w (RetV w (.int .i64 (lastB p m))) := by
  refine enter0 (n := 8) Tryz.func43 rfl Tryz.ntmps43 rfl ?_
  refine wc_seq ?_
  refine wc_region ?_
  refine wl_v (o_assign rfl) rfl ?_
  refine wl_nil ?_
  refine wk_then (wc_of_wk ?_)
  refine wc_seq ?_
  refine wc_region ?_
  refine wl_v (o_move rfl) rfl ?_
  refine wl_v (o_move rfl) rfl ?_
  refine w_call Tryz.call57 rfl (fun w hw => last0_c p m (by first | omega | (simp; done) | (simp; omega) | (simp at *; omega)) w) rfl ?_
  refine wl_v (o_assign rfl) rfl ?_
  refine wl_nil ?_
  refine wk_then (wc_of_wk ?_)
  refine wc_ret ?_
  refine wk_ret (r_1 rfl rfl) ?_
  exact retv (by first | rfl | simp [])

theorem version_c (p : List UInt8) (hp : p.length ≤ 281474976710656) (w : World) (hE : Env w) : Calls Tryz.prog 37 [.string (B (p))].toArray w (RetV w (.bool (versionS p))) := by
  refine enter0 (n := 20) Tryz.func37 rfl Tryz.ntmps37 rfl ?_
  refine wc_seq ?_
  refine wc_region ?_
  refine wl_v (o_assign rfl) rfl ?_
  refine wl_nil ?_
  refine wk_then (wc_of_wk ?_)
  refine wc_seq ?_
  refine wc_region ?_
  refine wl_v (o_move rfl) rfl ?_
  refine w_call Tryz.call44 rfl (fun w hw => parse_c p (by first | omega | (simp; done) | (simp; omega) | (simp at *; omega)) w (hE.st0 hw)) rfl ?_
  have ft96 := parse_bd p
  refine wl_v (o_move rfl) rfl ?_
  refine wl_v (o_extract rfl rfl) rfl ?_
  refine wl_v (o_extract rfl rfl) rfl ?_
  refine wl_v (o_assign rfl) rfl ?_
  refine wl_v (o_assign rfl) rfl ?_
  refine wl_nil ?_
  refine wk_then (wc_of_wk ?_)
  refine wc_seq_mid [(2, .bool (((decide ((parseE p) = (0))) && ((decide ((1) ≤ (parseV p))) && (decide ((parseV p) ≤ (32)))))))] [] (φ := True) ?_ (fun hm98 => ?_)
  · refine wc_region ?_
    refine wl_v (o_move rfl) rfl ?_
    refine wl_v (o_eq rfl rfl) rfl ?_
    refine wl_v (o_move rfl) rfl ?_
    refine bsplit (decide ((parseE p) = (0))) (fun h97 => ?_) (fun h97 => ?_)
    · have g97 := h97; try simp only [decide_eq_true_eq, decide_eq_false_iff_not] at g97
      have f97 := h97; try simp only [decide_eq_true_eq, decide_eq_false_iff_not, Bool.and_eq_true, Bool.or_eq_true, Bool.not_eq_true', Bool.not_eq_false', Bool.and_eq_false_iff, Bool.or_eq_false_iff, not_or, Int.not_lt, Int.not_le] at f97
      refine wl_on rfl rfl h97 ?_
      refine wl_v (o_move rfl) rfl ?_
      refine wl_on rfl rfl h97 ?_
      refine wl_v (o_ge rfl rfl) rfl ?_
      refine wl_v (o_pick_t rfl h97 rfl) rfl ?_
      refine wl_v (o_move rfl) rfl ?_
      refine bsplit (decide ((1) ≤ (parseV p))) (fun h98 => ?_) (fun h98 => ?_)
      · have g98 := h98; try simp only [decide_eq_true_eq, decide_eq_false_iff_not] at g98
        have f98 := h98; try simp only [decide_eq_true_eq, decide_eq_false_iff_not, Bool.and_eq_true, Bool.or_eq_true, Bool.not_eq_true', Bool.not_eq_false', Bool.and_eq_false_iff, Bool.or_eq_false_iff, not_or, Int.not_lt, Int.not_le] at f98
        refine wl_on rfl rfl h98 ?_
        refine wl_v (o_move rfl) rfl ?_
        refine wl_on rfl rfl h98 ?_
        refine wl_v (o_le rfl rfl) rfl ?_
        refine wl_v (o_pick_t rfl h98 rfl) rfl ?_
        refine wl_v (o_assign rfl) rfl ?_
        refine wl_nil ?_
        exact wk_then (wk_mid trivial ⟨fb (by first | (simp only [h97, h98, Bool.true_and, Bool.false_and, Bool.true_or, Bool.false_or, Bool.and_true, Bool.and_false, Bool.or_true, Bool.or_false, Bool.not_true, Bool.not_false, cond_true, cond_false, if_true, if_false, reduceIte, Bool.false_eq_true]; done) | (simp only [Bool.true_and, Bool.false_and, Bool.true_or, Bool.false_or, Bool.and_true, Bool.and_false, Bool.or_true, Bool.or_false, Bool.not_true, Bool.not_false, cond_true, cond_false, if_true, if_false, reduceIte, Bool.false_eq_true]; done) | simp [h97, h98]), trivial⟩ .slnil)
      · have g98 := h98; try simp only [decide_eq_true_eq, decide_eq_false_iff_not] at g98
        have f98 := h98; try simp only [decide_eq_true_eq, decide_eq_false_iff_not, Bool.and_eq_true, Bool.or_eq_true, Bool.not_eq_true', Bool.not_eq_false', Bool.and_eq_false_iff, Bool.or_eq_false_iff, not_or, Int.not_lt, Int.not_le] at f98
        refine wl_off rfl rfl h98 rfl ?_
        refine wl_off rfl rfl h98 rfl ?_
        refine wl_v (o_pick_f rfl h98 rfl) rfl ?_
        refine wl_v (o_assign rfl) rfl ?_
        refine wl_nil ?_
        exact wk_then (wk_mid trivial ⟨fb (by first | (simp only [h97, h98, Bool.true_and, Bool.false_and, Bool.true_or, Bool.false_or, Bool.and_true, Bool.and_false, Bool.or_true, Bool.or_false, Bool.not_true, Bool.not_false, cond_true, cond_false, if_true, if_false, reduceIte, Bool.false_eq_true]; done) | (simp only [Bool.true_and, Bool.false_and, Bool.true_or, Bool.false_or, Bool.and_true, Bool.and_false, Bool.or_true, Bool.or_false, Bool.not_true, Bool.not_false, cond_true, cond_false, if_true, if_false, reduceIte, Bool.false_eq_true]; done) | simp [h97, h98]), trivial⟩ .slnil)
    · have g97 := h97; try simp only [decide_eq_true_eq, decide_eq_false_iff_not] at g97
      have f97 := h97; try simp only [decide_eq_true_eq, decide_eq_false_iff_not, Bool.and_eq_true, Bool.or_eq_true, Bool.not_eq_true', Bool.not_eq_false', Bool.and_eq_false_iff, Bool.or_eq_false_iff, not_or, Int.not_lt, Int.not_le] at f97
      refine wl_off rfl rfl h97 rfl ?_
      refine wl_off rfl rfl h97 rfl ?_
      refine wl_v (o_pick_f rfl h97 rfl) rfl ?_
      refine wl_v (o_move rfl) rfl ?_
      refine wl_off rfl rfl rfl rfl ?_
      refine wl_off rfl rfl rfl rfl ?_
      refine wl_v (o_pick_f rfl rfl rfl) rfl ?_
      refine wl_v (o_assign rfl) rfl ?_
      refine wl_nil ?_
      exact wk_then (wk_mid trivial ⟨fb (by first | (simp only [h97, Bool.true_and, Bool.false_and, Bool.true_or, Bool.false_or, Bool.and_true, Bool.and_false, Bool.or_true, Bool.or_false, Bool.not_true, Bool.not_false, cond_true, cond_false, if_true, if_false, reduceIte, Bool.false_eq_true]; done) | (simp only [Bool.true_and, Bool.false_and, Bool.true_or, Bool.false_or, Bool.and_true, Bool.and_false, Bool.or_true, Bool.or_false, Bool.not_true, Bool.not_false, cond_true, cond_false, if_true, if_false, reduceIte, Bool.false_eq_true]; done) | simp [h97]), trivial⟩ .slnil)
  refine wc_ret ?_
  refine wk_ret (r_1 rfl rfl) ?_
  exact retv (by simp [versionS, Bool.and_assoc])

theorem ref_c (t : List UInt8) (f : List UInt8) (q : List UInt8) (ht : t.length ≤ 281474976710656) (hf : f.length ≤ 281474976710656) (hq : q.length ≤ 281474976710656) (w : World) (hE : Env w) : Calls Tryz.prog 14 [.string (B (t)), .string (B (f)), .string (B (q))].toArray w (RetV w (.tuple #[.string (B (refV t f q)), .int .i64 (refE t f q)])) := by
  refine enter0 (n := 33) Tryz.func14 rfl Tryz.ntmps14 rfl ?_
  refine wc_seq ?_
  refine wc_region ?_
  refine wl_v (o_assign rfl) rfl ?_
  refine wl_v (o_assign rfl) rfl ?_
  refine wl_nil ?_
  refine wk_then (wc_of_wk ?_)
  refine wc_seq ?_
  refine wc_seq_mid [(0, .string (B (t))), (1, .string (B (f))), (2, .string (B (q))), (6, .string (B ([]))), (7, .int .i64 (0)), (25, .bool (((!(nameS t)) || ((!(nameS f)) || ((!(nameS q)) && (!(versionS q)))))))] [] (φ := True) ?_ (fun hm102 => ?_)
  · refine wc_region ?_
    refine wl_v (o_move rfl) rfl ?_
    refine w_call Tryz.call7 rfl (fun w hw => name_c t w) rfl ?_
    refine wl_v (o_not rfl) rfl ?_
    refine wl_v (o_move rfl) rfl ?_
    refine bsplit (!(nameS t)) (fun h100 => ?_) (fun h100 => ?_)
    · have g100 := h100; try simp only [decide_eq_true_eq, decide_eq_false_iff_not] at g100
      have f100 := h100; try simp only [decide_eq_true_eq, decide_eq_false_iff_not, Bool.and_eq_true, Bool.or_eq_true, Bool.not_eq_true', Bool.not_eq_false', Bool.and_eq_false_iff, Bool.or_eq_false_iff, not_or, Int.not_lt, Int.not_le] at f100
      refine wl_off rfl rfl h100 rfl ?_
      refine wl_off rfl rfl h100 rfl ?_
      refine wl_off rfl rfl h100 rfl ?_
      refine wl_v (o_pick_t rfl h100 rfl) rfl ?_
      refine wl_v (o_move rfl) rfl ?_
      refine wl_off rfl rfl rfl rfl ?_
      refine wl_off rfl rfl rfl rfl ?_
      refine wl_off rfl rfl rfl rfl ?_
      refine wl_off rfl rfl rfl rfl ?_
      refine wl_off_u rfl rfl rfl ?_
      refine wl_off_u rfl rfl rfl ?_
      refine wl_off_u rfl rfl rfl ?_
      refine wl_off rfl rfl rfl rfl ?_
      refine wl_v (o_pick_t rfl rfl rfl) rfl ?_
      refine wl_nil ?_
      exact wk_then (wk_mid trivial ⟨rfl, rfl, rfl, rfl, rfl, fb (by first | (simp only [h100, Bool.true_and, Bool.false_and, Bool.true_or, Bool.false_or, Bool.and_true, Bool.and_false, Bool.or_true, Bool.or_false, Bool.not_true, Bool.not_false, cond_true, cond_false, if_true, if_false, reduceIte, Bool.false_eq_true]; done) | (simp only [Bool.true_and, Bool.false_and, Bool.true_or, Bool.false_or, Bool.and_true, Bool.and_false, Bool.or_true, Bool.or_false, Bool.not_true, Bool.not_false, cond_true, cond_false, if_true, if_false, reduceIte, Bool.false_eq_true]; done) | simp [h100]), trivial⟩ .slnil)
    · have g100 := h100; try simp only [decide_eq_true_eq, decide_eq_false_iff_not] at g100
      have f100 := h100; try simp only [decide_eq_true_eq, decide_eq_false_iff_not, Bool.and_eq_true, Bool.or_eq_true, Bool.not_eq_true', Bool.not_eq_false', Bool.and_eq_false_iff, Bool.or_eq_false_iff, not_or, Int.not_lt, Int.not_le] at f100
      refine wl_on rfl rfl h100 ?_
      refine wl_v (o_move rfl) rfl ?_
      refine wl_on rfl rfl h100 ?_
      refine w_call Tryz.call7 rfl (fun w hw => name_c f w) rfl ?_
      refine wl_on rfl rfl h100 ?_
      refine wl_v (o_not rfl) rfl ?_
      refine wl_v (o_pick_f rfl h100 rfl) rfl ?_
      refine wl_v (o_move rfl) rfl ?_
      refine bsplit (!(nameS f)) (fun h101 => ?_) (fun h101 => ?_)
      · have g101 := h101; try simp only [decide_eq_true_eq, decide_eq_false_iff_not] at g101
        have f101 := h101; try simp only [decide_eq_true_eq, decide_eq_false_iff_not, Bool.and_eq_true, Bool.or_eq_true, Bool.not_eq_true', Bool.not_eq_false', Bool.and_eq_false_iff, Bool.or_eq_false_iff, not_or, Int.not_lt, Int.not_le] at f101
        refine wl_off rfl rfl h101 rfl ?_
        refine wl_off rfl rfl h101 rfl ?_
        refine wl_off rfl rfl h101 rfl ?_
        refine wl_off rfl rfl h101 rfl ?_
        refine wl_off_u rfl rfl rfl ?_
        refine wl_off_u rfl rfl rfl ?_
        refine wl_off_u rfl rfl rfl ?_
        refine wl_off rfl rfl h101 rfl ?_
        refine wl_v (o_pick_t rfl h101 rfl) rfl ?_
        refine wl_nil ?_
        exact wk_then (wk_mid trivial ⟨rfl, rfl, rfl, rfl, rfl, fb (by first | (simp only [h100, h101, Bool.true_and, Bool.false_and, Bool.true_or, Bool.false_or, Bool.and_true, Bool.and_false, Bool.or_true, Bool.or_false, Bool.not_true, Bool.not_false, cond_true, cond_false, if_true, if_false, reduceIte, Bool.false_eq_true]; done) | (simp only [Bool.true_and, Bool.false_and, Bool.true_or, Bool.false_or, Bool.and_true, Bool.and_false, Bool.or_true, Bool.or_false, Bool.not_true, Bool.not_false, cond_true, cond_false, if_true, if_false, reduceIte, Bool.false_eq_true]; done) | simp [h100, h101]), trivial⟩ .slnil)
      · have g101 := h101; try simp only [decide_eq_true_eq, decide_eq_false_iff_not] at g101
        have f101 := h101; try simp only [decide_eq_true_eq, decide_eq_false_iff_not, Bool.and_eq_true, Bool.or_eq_true, Bool.not_eq_true', Bool.not_eq_false', Bool.and_eq_false_iff, Bool.or_eq_false_iff, not_or, Int.not_lt, Int.not_le] at f101
        refine wl_on rfl rfl h101 ?_
        refine wl_v (o_move rfl) rfl ?_
        refine wl_on rfl rfl h101 ?_
        refine w_call Tryz.call7 rfl (fun w hw => name_c q w) rfl ?_
        refine wl_on rfl rfl h101 ?_
        refine wl_v (o_not rfl) rfl ?_
        refine wl_on rfl rfl h101 ?_
        refine wl_v (o_move rfl) rfl ?_
        refine bsplit (!(nameS q)) (fun h102 => ?_) (fun h102 => ?_)
        · have g102 := h102; try simp only [decide_eq_true_eq, decide_eq_false_iff_not] at g102
          have f102 := h102; try simp only [decide_eq_true_eq, decide_eq_false_iff_not, Bool.and_eq_true, Bool.or_eq_true, Bool.not_eq_true', Bool.not_eq_false', Bool.and_eq_false_iff, Bool.or_eq_false_iff, not_or, Int.not_lt, Int.not_le] at f102
          refine wl_on rfl rfl h102 ?_
          refine wl_v (o_move rfl) rfl ?_
          refine wl_on rfl rfl h102 ?_
          refine w_call Tryz.call37 rfl (fun w hw => version_c q (by first | omega | (simp; done) | (simp; omega) | (simp at *; omega) | (split <;> first | omega | (simp; omega))) w (hE.st0 hw)) rfl ?_
          refine wl_on rfl rfl h102 ?_
          refine wl_v (o_not rfl) rfl ?_
          refine wl_on rfl rfl h101 ?_
          refine wl_v (o_pick_t rfl h102 rfl) rfl ?_
          refine wl_v (o_pick_f rfl h101 rfl) rfl ?_
          refine wl_nil ?_
          exact wk_then (wk_mid trivial ⟨rfl, rfl, rfl, rfl, rfl, fb (by first | (simp only [h100, h101, h102, Bool.true_and, Bool.false_and, Bool.true_or, Bool.false_or, Bool.and_true, Bool.and_false, Bool.or_true, Bool.or_false, Bool.not_true, Bool.not_false, cond_true, cond_false, if_true, if_false, reduceIte, Bool.false_eq_true]; done) | (simp only [Bool.true_and, Bool.false_and, Bool.true_or, Bool.false_or, Bool.and_true, Bool.and_false, Bool.or_true, Bool.or_false, Bool.not_true, Bool.not_false, cond_true, cond_false, if_true, if_false, reduceIte, Bool.false_eq_true]; done) | simp [h100, h101, h102]), trivial⟩ .slnil)
        · have g102 := h102; try simp only [decide_eq_true_eq, decide_eq_false_iff_not] at g102
          have f102 := h102; try simp only [decide_eq_true_eq, decide_eq_false_iff_not, Bool.and_eq_true, Bool.or_eq_true, Bool.not_eq_true', Bool.not_eq_false', Bool.and_eq_false_iff, Bool.or_eq_false_iff, not_or, Int.not_lt, Int.not_le] at f102
          refine wl_off rfl rfl h102 rfl ?_
          refine wl_off rfl rfl h102 rfl ?_
          refine wl_off rfl rfl h102 rfl ?_
          refine wl_on rfl rfl h101 ?_
          refine wl_v (o_pick_f rfl h102 rfl) rfl ?_
          refine wl_v (o_pick_f rfl h101 rfl) rfl ?_
          refine wl_nil ?_
          exact wk_then (wk_mid trivial ⟨rfl, rfl, rfl, rfl, rfl, fb (by first | (simp only [h100, h101, h102, Bool.true_and, Bool.false_and, Bool.true_or, Bool.false_or, Bool.and_true, Bool.and_false, Bool.or_true, Bool.or_false, Bool.not_true, Bool.not_false, cond_true, cond_false, if_true, if_false, reduceIte, Bool.false_eq_true]; done) | (simp only [Bool.true_and, Bool.false_and, Bool.true_or, Bool.false_or, Bool.and_true, Bool.and_false, Bool.or_true, Bool.or_false, Bool.not_true, Bool.not_false, cond_true, cond_false, if_true, if_false, reduceIte, Bool.false_eq_true]; done) | simp [h100, h101, h102]), trivial⟩ .slnil)
  refine wc_cond (b := ((!(nameS t)) || ((!(nameS f)) || ((!(nameS q)) && (!(versionS q)))))) rfl (fun h104 => ?_) (fun h104 => ?_)
  · have g104 := h104; try simp only [decide_eq_true_eq, decide_eq_false_iff_not] at g104
    have f104 := h104; try simp only [decide_eq_true_eq, decide_eq_false_iff_not, Bool.and_eq_true, Bool.or_eq_true, Bool.not_eq_true', Bool.not_eq_false', Bool.and_eq_false_iff, Bool.or_eq_false_iff, not_or, Int.not_lt, Int.not_le] at f104
    refine wc_seq ?_
    refine wc_region ?_
    refine wl_v (o_assign rfl) rfl ?_
    refine wl_v (o_assign rfl) rfl ?_
    refine wl_nil ?_
    refine wk_then (wc_of_wk ?_)
    refine wc_ret ?_
    refine wk_then_ret ?_
    refine wk_ret (r_2 rfl rfl rfl) ?_
    have hr : refOk t f q = false := by simp only [refOk]; revert f104; cases nameS t <;> cases nameS f <;> cases nameS q <;> cases versionS q <;> simp
    exact retv (by simp [refV, refE, hr, B])
  · have g104 := h104; try simp only [decide_eq_true_eq, decide_eq_false_iff_not] at g104
    have f104 := h104; try simp only [decide_eq_true_eq, decide_eq_false_iff_not, Bool.and_eq_true, Bool.or_eq_true, Bool.not_eq_true', Bool.not_eq_false', Bool.and_eq_false_iff, Bool.or_eq_false_iff, not_or, Int.not_lt, Int.not_le] at f104
    refine wc_skip ?_
    refine wk_then (wc_of_wk ?_)
    refine wc_seq ?_
    refine wc_region ?_
    refine wl_v (o_move rfl) rfl ?_
    refine wl_v (o_sadd rfl rfl (by simp; omega)) rfl ?_
    refine wl_v (o_move rfl) rfl ?_
    refine wl_v (o_sadd rfl rfl (by simp; omega)) rfl ?_
    refine wl_v (o_sadd rfl rfl (by simp; omega)) rfl ?_
    refine wl_v (o_move rfl) rfl ?_
    refine wl_v (o_sadd rfl rfl (by simp; omega)) rfl ?_
    refine wl_v (o_assign rfl) rfl ?_
    refine wl_v (o_assign rfl) rfl ?_
    refine wl_nil ?_
    refine wk_then (wc_of_wk ?_)
    refine wc_ret ?_
    refine wk_ret (r_2 rfl rfl rfl) ?_
    have hr : refOk t f q = true := by simp only [refOk]; revert f104; cases nameS t <;> cases nameS f <;> cases nameS q <;> cases versionS q <;> simp
    exact retv (by simp [refV, refE, hr, B])

theorem parseRef_c (p : List UInt8) (hp : p.length ≤ 281474976710656) (w : World) (hE : Env w) : Calls Tryz.prog 16 [.string (B (p))].toArray w (RetV w (.tuple #[.string (B (iff0 (prOk p) (prT p))), .string (B (iff0 (prOk p) (prF p))), .string (B (iff0 (prOk p) (prQ p))), .int .i64 ((if prOk p = true then (0 : Int) else 1))])) := by
  refine enter0 (n := 43) Tryz.func16 rfl Tryz.ntmps16 rfl ?_
  refine wc_seq ?_
  refine wc_region ?_
  refine wl_v (o_assign rfl) rfl ?_
  refine wl_v (o_assign rfl) rfl ?_
  refine wl_v (o_assign rfl) rfl ?_
  refine wl_v (o_assign rfl) rfl ?_
  refine wl_nil ?_
  refine wk_then (wc_of_wk ?_)
  refine wc_seq ?_
  refine wc_region ?_
  refine wl_v (o_move rfl) rfl ?_
  refine w_call Tryz.call39 rfl (fun w hw => cut_c p (47 : UInt8) (by first | omega | (simp; omega)) w) rfl ?_
  have ft105 := cutB_len p 47
  have ft106 := cutA_len p 47
  refine wl_v (o_move rfl) rfl ?_
  refine wl_v (o_extract rfl rfl) rfl ?_
  refine wl_v (o_extract rfl rfl) rfl ?_
  refine wl_v (o_extract rfl rfl) rfl ?_
  refine wl_v (o_assign rfl) rfl ?_
  refine wl_v (o_assign rfl) rfl ?_
  refine wl_v (o_assign rfl) rfl ?_
  refine wl_nil ?_
  refine wk_then (wc_of_wk ?_)
  refine wc_seq ?_
  refine wc_region ?_
  refine wl_v (o_move rfl) rfl ?_
  refine w_call Tryz.call39 rfl (fun w hw => cut_c (cutA p 47) (58 : UInt8) (by first | omega | (simp; omega)) w) rfl ?_
  have ft107 := cutB_len (cutA p 47) 58
  have ft108 := cutA_len (cutA p 47) 58
  refine wl_v (o_move rfl) rfl ?_
  refine wl_v (o_extract rfl rfl) rfl ?_
  refine wl_v (o_extract rfl rfl) rfl ?_
  refine wl_v (o_extract rfl rfl) rfl ?_
  refine wl_v (o_assign rfl) rfl ?_
  refine wl_v (o_assign rfl) rfl ?_
  refine wl_v (o_assign rfl) rfl ?_
  refine wl_nil ?_
  refine wk_then (wc_of_wk ?_)
  refine wc_seq ?_
  refine wc_seq ?_
  refine wc_region ?_
  refine wl_v (o_move rfl) rfl ?_
  refine wl_v (o_move rfl) rfl ?_
  refine wl_v (o_move rfl) rfl ?_
  refine w_call Tryz.call14 rfl (fun w hw => ref_c (cutB p 47) (cutB (cutA p 47) 58) (cutA (cutA p 47) 58) (by first | omega | (simp; done) | (simp; omega) | (simp at *; omega) | (split <;> first | omega | (simp; omega))) (by first | omega | (simp; done) | (simp; omega) | (simp at *; omega) | (split <;> first | omega | (simp; omega))) (by first | omega | (simp; done) | (simp; omega) | (simp at *; omega) | (split <;> first | omega | (simp; omega))) w (hE.st0 hw)) rfl ?_
  have ft109 := refV_len (cutB p 47) (cutB (cutA p 47) 58) (cutA (cutA p 47) 58)
  refine wl_v (o_move rfl) rfl ?_
  refine wl_v (o_extract rfl rfl) rfl ?_
  refine wl_v (o_extract rfl rfl) rfl ?_
  refine wl_v (o_assign rfl) rfl ?_
  refine wl_v (o_assign rfl) rfl ?_
  refine wl_nil ?_
  refine wk_then (wc_of_wk ?_)
  refine wc_seq_mid [(2, .string (B ([]))), (3, .string (B ([]))), (4, .string (B ([]))), (5, .int .i64 (0)), (6, .string (B (cutB p 47))), (9, .string (B (cutB (cutA p 47) 58))), (10, .string (B (cutA (cutA p 47) 58))), (39, .bool (((!(decide ((refE (cutB p 47) (cutB (cutA p 47) 58) (cutA (cutA p 47) 58)) = (0)))) || (!(decide (((refV (cutB p 47) (cutB (cutA p 47) 58) (cutA (cutA p 47) 58))) = (p)))))))] [] (φ := True) ?_ (fun hm110 => ?_)
  · refine wc_region ?_
    refine wl_v (o_move rfl) rfl ?_
    refine wl_v (o_ne rfl rfl) rfl ?_
    refine wl_v (o_move rfl) rfl ?_
    refine bsplit (!(decide ((refE (cutB p 47) (cutB (cutA p 47) 58) (cutA (cutA p 47) 58)) = (0)))) (fun h110 => ?_) (fun h110 => ?_)
    · have g110 := h110; try simp only [decide_eq_true_eq, decide_eq_false_iff_not] at g110
      have f110 := h110; try simp only [decide_eq_true_eq, decide_eq_false_iff_not, Bool.and_eq_true, Bool.or_eq_true, Bool.not_eq_true', Bool.not_eq_false', Bool.and_eq_false_iff, Bool.or_eq_false_iff, not_or, Int.not_lt, Int.not_le] at f110
      refine wl_off rfl rfl h110 rfl ?_
      refine wl_off rfl rfl h110 rfl ?_
      refine wl_off rfl rfl h110 rfl ?_
      refine wl_v (o_pick_t rfl h110 rfl) rfl ?_
      refine wl_nil ?_
      exact wk_then (wk_mid trivial ⟨rfl, rfl, rfl, rfl, rfl, rfl, rfl, fb (by first | (simp only [h110, Bool.true_and, Bool.false_and, Bool.true_or, Bool.false_or, Bool.and_true, Bool.and_false, Bool.or_true, Bool.or_false, Bool.not_true, Bool.not_false, cond_true, cond_false, if_true, if_false, reduceIte, Bool.false_eq_true]; done) | (simp only [Bool.true_and, Bool.false_and, Bool.true_or, Bool.false_or, Bool.and_true, Bool.and_false, Bool.or_true, Bool.or_false, Bool.not_true, Bool.not_false, cond_true, cond_false, if_true, if_false, reduceIte, Bool.false_eq_true]; done) | simp [h110]), trivial⟩ .slnil)
    · have g110 := h110; try simp only [decide_eq_true_eq, decide_eq_false_iff_not] at g110
      have f110 := h110; try simp only [decide_eq_true_eq, decide_eq_false_iff_not, Bool.and_eq_true, Bool.or_eq_true, Bool.not_eq_true', Bool.not_eq_false', Bool.and_eq_false_iff, Bool.or_eq_false_iff, not_or, Int.not_lt, Int.not_le] at f110
      refine wl_on rfl rfl h110 ?_
      refine wl_v (o_move rfl) rfl ?_
      refine wl_on rfl rfl h110 ?_
      refine wl_v (o_move rfl) rfl ?_
      refine wl_on rfl rfl h110 ?_
      refine wl_v (o_sne rfl rfl) rfl ?_
      refine wl_v (o_pick_f rfl h110 rfl) rfl ?_
      refine wl_nil ?_
      exact wk_then (wk_mid trivial ⟨rfl, rfl, rfl, rfl, rfl, rfl, rfl, fb (by first | (simp only [h110, Bool.true_and, Bool.false_and, Bool.true_or, Bool.false_or, Bool.and_true, Bool.and_false, Bool.or_true, Bool.or_false, Bool.not_true, Bool.not_false, cond_true, cond_false, if_true, if_false, reduceIte, Bool.false_eq_true]; done) | (simp only [Bool.true_and, Bool.false_and, Bool.true_or, Bool.false_or, Bool.and_true, Bool.and_false, Bool.or_true, Bool.or_false, Bool.not_true, Bool.not_false, cond_true, cond_false, if_true, if_false, reduceIte, Bool.false_eq_true]; done) | simp [h110]), trivial⟩ .slnil)
  refine wc_cond (b := ((!(decide ((refE (cutB p 47) (cutB (cutA p 47) 58) (cutA (cutA p 47) 58)) = (0)))) || (!(decide (((refV (cutB p 47) (cutB (cutA p 47) 58) (cutA (cutA p 47) 58))) = (p)))))) rfl (fun h112 => ?_) (fun h112 => ?_)
  · have g112 := h112; try simp only [decide_eq_true_eq, decide_eq_false_iff_not] at g112
    have f112 := h112; try simp only [decide_eq_true_eq, decide_eq_false_iff_not, Bool.and_eq_true, Bool.or_eq_true, Bool.not_eq_true', Bool.not_eq_false', Bool.and_eq_false_iff, Bool.or_eq_false_iff, not_or, Int.not_lt, Int.not_le] at f112
    refine wc_seq ?_
    refine wc_region ?_
    refine wl_v (o_assign rfl) rfl ?_
    refine wl_v (o_assign rfl) rfl ?_
    refine wl_v (o_assign rfl) rfl ?_
    refine wl_v (o_assign rfl) rfl ?_
    refine wl_nil ?_
    refine wk_then (wc_of_wk ?_)
    refine wc_ret ?_
    refine wk_then_ret ?_
    refine wk_ret (r_4 rfl rfl rfl rfl rfl) ?_
    have hr : prOk p = false := by simp only [prOk, prT, prF, prQ]; grind
    exact retv (by simp only [hr, iff0, prT, prF, prQ]; rfl)
  · have g112 := h112; try simp only [decide_eq_true_eq, decide_eq_false_iff_not] at g112
    have f112 := h112; try simp only [decide_eq_true_eq, decide_eq_false_iff_not, Bool.and_eq_true, Bool.or_eq_true, Bool.not_eq_true', Bool.not_eq_false', Bool.and_eq_false_iff, Bool.or_eq_false_iff, not_or, Int.not_lt, Int.not_le] at f112
    refine wc_skip ?_
    refine wk_then (wc_of_wk ?_)
    refine wc_seq ?_
    refine wc_region ?_
    refine wl_v (o_move rfl) rfl ?_
    refine wl_v (o_move rfl) rfl ?_
    refine wl_v (o_move rfl) rfl ?_
    refine wl_v (o_assign rfl) rfl ?_
    refine wl_v (o_assign rfl) rfl ?_
    refine wl_v (o_assign rfl) rfl ?_
    refine wl_v (o_assign rfl) rfl ?_
    refine wl_nil ?_
    refine wk_then (wc_of_wk ?_)
    refine wc_ret ?_
    refine wk_ret (r_4 rfl rfl rfl rfl rfl) ?_
    have hr : prOk p = true := by simp only [prOk, prT, prF, prQ]; grind
    exact retv (by simp only [hr, iff0, prT, prF, prQ]; rfl)

theorem child_c (p : List UInt8) (m : Int) (hp : p.length ≤ 281474976710656) (w : World) (hE : Env w) : Calls Tryz.prog 18 [.string (B (p)), .int .i64 (m)].toArray w (RetV w (.tuple #[.string (B (childV p m)), .int .i64 (childE p m)])) := by
  refine enter0 (n := 25) Tryz.func18 rfl Tryz.ntmps18 rfl ?_
  refine wc_seq ?_
  refine wc_region ?_
  refine wl_v (o_assign rfl) rfl ?_
  refine wl_v (o_assign rfl) rfl ?_
  refine wl_nil ?_
  refine wk_then (wc_of_wk ?_)
  refine wc_seq ?_
  refine wc_seq ?_
  refine wc_region ?_
  refine wl_v (o_move rfl) rfl ?_
  refine w_call Tryz.call9 rfl (fun w hw => id_c p w) rfl ?_
  refine wl_v (o_not rfl) rfl ?_
  refine wl_nil ?_
  refine wk_then (wc_of_wk ?_)
  refine wc_cond (b := !(idS p)) rfl (fun h113 => ?_) (fun h113 => ?_)
  · have g113 := h113; try simp only [decide_eq_true_eq, decide_eq_false_iff_not] at g113
    have f113 := h113; try simp only [decide_eq_true_eq, decide_eq_false_iff_not, Bool.and_eq_true, Bool.or_eq_true, Bool.not_eq_true', Bool.not_eq_false', Bool.and_eq_false_iff, Bool.or_eq_false_iff, not_or, Int.not_lt, Int.not_le] at f113
    refine wc_seq ?_
    refine wc_region ?_
    refine wl_v (o_assign rfl) rfl ?_
    refine wl_v (o_assign rfl) rfl ?_
    refine wl_nil ?_
    refine wk_then (wc_of_wk ?_)
    refine wc_ret ?_
    refine wk_then_ret ?_
    refine wk_ret (r_2 rfl rfl rfl) ?_
    have e : childE p m = 4 := by simp only [childE, childL]; grind
    exact retv (by simp [childV, e, childL, B])
  · have g113 := h113; try simp only [decide_eq_true_eq, decide_eq_false_iff_not] at g113
    have f113 := h113; try simp only [decide_eq_true_eq, decide_eq_false_iff_not, Bool.and_eq_true, Bool.or_eq_true, Bool.not_eq_true', Bool.not_eq_false', Bool.and_eq_false_iff, Bool.or_eq_false_iff, not_or, Int.not_lt, Int.not_le] at f113
    refine wc_skip ?_
    refine wk_then (wc_of_wk ?_)
    refine wc_seq ?_
    refine wc_seq_mid [(0, .string (B (p))), (1, .int .i64 (m)), (4, .string (B ([]))), (5, .int .i64 (0)), (15, .bool (((decide ((m) < (0))) || (decide ((1000000000000) < (m))))))] [] (φ := True) ?_ (fun hm114 => ?_)
    · refine wc_region ?_
      refine wl_v (o_move rfl) rfl ?_
      refine wl_v (o_lt rfl rfl) rfl ?_
      refine wl_v (o_move rfl) rfl ?_
      refine bsplit (decide ((m) < (0))) (fun h114 => ?_) (fun h114 => ?_)
      · have g114 := h114; try simp only [decide_eq_true_eq, decide_eq_false_iff_not] at g114
        have f114 := h114; try simp only [decide_eq_true_eq, decide_eq_false_iff_not, Bool.and_eq_true, Bool.or_eq_true, Bool.not_eq_true', Bool.not_eq_false', Bool.and_eq_false_iff, Bool.or_eq_false_iff, not_or, Int.not_lt, Int.not_le] at f114
        refine wl_off rfl rfl h114 rfl ?_
        refine wl_off rfl rfl h114 rfl ?_
        refine wl_v (o_pick_t rfl h114 rfl) rfl ?_
        refine wl_nil ?_
        exact wk_then (wk_mid trivial ⟨rfl, rfl, rfl, rfl, fb (by first | (simp only [h113, h114, Bool.true_and, Bool.false_and, Bool.true_or, Bool.false_or, Bool.and_true, Bool.and_false, Bool.or_true, Bool.or_false, Bool.not_true, Bool.not_false, cond_true, cond_false, if_true, if_false, reduceIte, Bool.false_eq_true]; done) | (simp only [Bool.true_and, Bool.false_and, Bool.true_or, Bool.false_or, Bool.and_true, Bool.and_false, Bool.or_true, Bool.or_false, Bool.not_true, Bool.not_false, cond_true, cond_false, if_true, if_false, reduceIte, Bool.false_eq_true]; done) | simp [h113, h114]), trivial⟩ .slnil)
      · have g114 := h114; try simp only [decide_eq_true_eq, decide_eq_false_iff_not] at g114
        have f114 := h114; try simp only [decide_eq_true_eq, decide_eq_false_iff_not, Bool.and_eq_true, Bool.or_eq_true, Bool.not_eq_true', Bool.not_eq_false', Bool.and_eq_false_iff, Bool.or_eq_false_iff, not_or, Int.not_lt, Int.not_le] at f114
        refine wl_on rfl rfl h114 ?_
        refine wl_v (o_move rfl) rfl ?_
        refine wl_on rfl rfl h114 ?_
        refine wl_v (o_gt rfl rfl) rfl ?_
        refine wl_v (o_pick_f rfl h114 rfl) rfl ?_
        refine wl_nil ?_
        exact wk_then (wk_mid trivial ⟨rfl, rfl, rfl, rfl, fb (by first | (simp only [h113, h114, Bool.true_and, Bool.false_and, Bool.true_or, Bool.false_or, Bool.and_true, Bool.and_false, Bool.or_true, Bool.or_false, Bool.not_true, Bool.not_false, cond_true, cond_false, if_true, if_false, reduceIte, Bool.false_eq_true]; done) | (simp only [Bool.true_and, Bool.false_and, Bool.true_or, Bool.false_or, Bool.and_true, Bool.and_false, Bool.or_true, Bool.or_false, Bool.not_true, Bool.not_false, cond_true, cond_false, if_true, if_false, reduceIte, Bool.false_eq_true]; done) | simp [h113, h114]), trivial⟩ .slnil)
    refine wc_cond (b := ((decide ((m) < (0))) || (decide ((1000000000000) < (m))))) rfl (fun h116 => ?_) (fun h116 => ?_)
    · have g116 := h116; try simp only [decide_eq_true_eq, decide_eq_false_iff_not] at g116
      have f116 := h116; try simp only [decide_eq_true_eq, decide_eq_false_iff_not, Bool.and_eq_true, Bool.or_eq_true, Bool.not_eq_true', Bool.not_eq_false', Bool.and_eq_false_iff, Bool.or_eq_false_iff, not_or, Int.not_lt, Int.not_le] at f116
      refine wc_seq ?_
      refine wc_region ?_
      refine wl_v (o_assign rfl) rfl ?_
      refine wl_v (o_assign rfl) rfl ?_
      refine wl_nil ?_
      refine wk_then (wc_of_wk ?_)
      refine wc_ret ?_
      refine wk_then_ret ?_
      refine wk_ret (r_2 rfl rfl rfl) ?_
      have e : childE p m = 2 := by simp only [childE, childL]; grind
      exact retv (by simp [childV, e, childL, B])
    · have g116 := h116; try simp only [decide_eq_true_eq, decide_eq_false_iff_not] at g116
      have f116 := h116; try simp only [decide_eq_true_eq, decide_eq_false_iff_not, Bool.and_eq_true, Bool.or_eq_true, Bool.not_eq_true', Bool.not_eq_false', Bool.and_eq_false_iff, Bool.or_eq_false_iff, not_or, Int.not_lt, Int.not_le] at f116
      refine wc_skip ?_
      refine wk_then (wc_of_wk ?_)
      refine wc_seq ?_
      refine wc_region ?_
      refine wl_v (o_move rfl) rfl ?_
      refine wl_v (o_sadd rfl rfl (by simp; omega)) rfl ?_
      refine wl_v (o_move rfl) rfl ?_
      refine w_call Tryz.call41 rfl (fun w hw => format_c m (by omega) (by omega) w (hE.st0 hw)) rfl ?_
      have ft117 := itoa_len m (by omega) (by omega)
      refine wl_v (o_sadd rfl rfl (by simp; omega)) rfl ?_
      refine wl_v (o_assign rfl) rfl ?_
      refine wl_nil ?_
      refine wk_then (wc_of_wk ?_)
      refine wc_seq ?_
      refine wc_seq ?_
      refine wc_region ?_
      refine wl_v (o_move rfl) rfl ?_
      refine wl_v (o_len_s Tryz.underlying9 rfl) rfl ?_
      refine wl_v (o_gt rfl rfl) rfl ?_
      refine wl_nil ?_
      refine wk_then (wc_of_wk ?_)
      refine wc_cond (b := decide ((64) < ((((p ++ [46]) ++ (Lib.itoa m)).length : Int)))) rfl (fun h118 => ?_) (fun h118 => ?_)
      · have g118 := h118; try simp only [decide_eq_true_eq, decide_eq_false_iff_not] at g118
        have f118 := h118; try simp only [decide_eq_true_eq, decide_eq_false_iff_not, Bool.and_eq_true, Bool.or_eq_true, Bool.not_eq_true', Bool.not_eq_false', Bool.and_eq_false_iff, Bool.or_eq_false_iff, not_or, Int.not_lt, Int.not_le] at f118
        refine wc_seq ?_
        refine wc_region ?_
        refine wl_v (o_assign rfl) rfl ?_
        refine wl_v (o_assign rfl) rfl ?_
        refine wl_nil ?_
        refine wk_then (wc_of_wk ?_)
        refine wc_ret ?_
        refine wk_then_ret ?_
        refine wk_ret (r_2 rfl rfl rfl) ?_
        have e : childE p m = 3 := by simp only [childE, childL]; grind
        exact retv (by simp [childV, e, childL, B])
      · have g118 := h118; try simp only [decide_eq_true_eq, decide_eq_false_iff_not] at g118
        have f118 := h118; try simp only [decide_eq_true_eq, decide_eq_false_iff_not, Bool.and_eq_true, Bool.or_eq_true, Bool.not_eq_true', Bool.not_eq_false', Bool.and_eq_false_iff, Bool.or_eq_false_iff, not_or, Int.not_lt, Int.not_le] at f118
        refine wc_skip ?_
        refine wk_then (wc_of_wk ?_)
        refine wc_seq ?_
        refine wc_region ?_
        refine wl_v (o_move rfl) rfl ?_
        refine wl_v (o_assign rfl) rfl ?_
        refine wl_v (o_assign rfl) rfl ?_
        refine wl_nil ?_
        refine wk_then (wc_of_wk ?_)
        refine wc_ret ?_
        refine wk_ret (r_2 rfl rfl rfl) ?_
        have e : childE p m = 0 := by simp only [childE, childL]; grind
        exact retv (by simp [childV, e, childL, B])

theorem parent_c (p : List UInt8) (hp : p.length ≤ 281474976710656) (w : World) (hE : Env w) : Calls Tryz.prog 20 [.string (B (p))].toArray w (RetV w (.tuple #[.string (B (iff0 (parOk p) (parP p))), .int .i64 ((if parOk p = true then parseV (parN p) else (0 : Int))), .bool (parOk p)])) := by
  refine enter0 (n := 43) Tryz.func20 rfl Tryz.ntmps20 rfl ?_
  refine wc_seq ?_
  refine wc_region ?_
  refine wl_v (o_assign rfl) rfl ?_
  refine wl_v (o_assign rfl) rfl ?_
  refine wl_v (o_assign rfl) rfl ?_
  refine wl_nil ?_
  refine wk_then (wc_of_wk ?_)
  refine wc_seq ?_
  refine wc_region ?_
  refine wl_v (o_move rfl) rfl ?_
  refine w_call Tryz.call43 rfl (fun w hw => last_c p (46 : Int) (by first | omega | (simp; done) | (simp; omega) | (simp at *; omega)) w) rfl ?_
  have ft119 := lastB_bd p 46
  refine wl_v (o_assign rfl) rfl ?_
  refine wl_nil ?_
  refine wk_then (wc_of_wk ?_)
  refine wc_seq ?_
  refine wc_seq ?_
  refine wc_region ?_
  refine wl_v (o_move rfl) rfl ?_
  refine wl_v (o_lt rfl rfl) rfl ?_
  refine wl_nil ?_
  refine wk_then (wc_of_wk ?_)
  refine wc_cond (b := decide ((lastB p 46) < (0))) rfl (fun h120 => ?_) (fun h120 => ?_)
  · have g120 := h120; try simp only [decide_eq_true_eq, decide_eq_false_iff_not] at g120
    have f120 := h120; try simp only [decide_eq_true_eq, decide_eq_false_iff_not, Bool.and_eq_true, Bool.or_eq_true, Bool.not_eq_true', Bool.not_eq_false', Bool.and_eq_false_iff, Bool.or_eq_false_iff, not_or, Int.not_lt, Int.not_le] at f120
    refine wc_seq ?_
    refine wc_region ?_
    refine wl_v (o_assign rfl) rfl ?_
    refine wl_v (o_assign rfl) rfl ?_
    refine wl_v (o_assign rfl) rfl ?_
    refine wl_nil ?_
    refine wk_then (wc_of_wk ?_)
    refine wc_ret ?_
    refine wk_then_ret ?_
    refine wk_ret (r_3 rfl rfl rfl rfl) ?_
    have hr : parOk p = false := by simp only [parOk, parP, parN]; grind
    exact retv (by simp only [hr, iff0, parP, parN]; rfl)
  · have g120 := h120; try simp only [decide_eq_true_eq, decide_eq_false_iff_not] at g120
    have f120 := h120; try simp only [decide_eq_true_eq, decide_eq_false_iff_not, Bool.and_eq_true, Bool.or_eq_true, Bool.not_eq_true', Bool.not_eq_false', Bool.and_eq_false_iff, Bool.or_eq_false_iff, not_or, Int.not_lt, Int.not_le] at f120
    refine wc_skip ?_
    refine wk_then (wc_of_wk ?_)
    refine wc_seq ?_
    refine wc_region ?_
    refine wl_v (o_move rfl) rfl ?_
    refine wl_v (o_move rfl) rfl ?_
    refine wl_v (o_add rfl rfl (IntWalk.i64_in _ (by omega))) rfl ?_
    refine wl_v (o_slice_lo Tryz.underlying9 rfl rfl (by first | omega | (simp; omega)) (by first | omega | (simp; omega))) rfl ?_
    refine w_call Tryz.call44 rfl (fun w hw => parse_c (List.drop (Int.toNat ((lastB p 46) + 1)) p) (by first | omega | (simp; done) | (simp; omega) | (simp at *; omega)) w (hE.st0 hw)) rfl ?_
    have ft121 := parse_bd (List.drop (Int.toNat ((lastB p 46) + 1)) p)
    refine wl_v (o_move rfl) rfl ?_
    refine wl_v (o_extract rfl rfl) rfl ?_
    refine wl_v (o_extract rfl rfl) rfl ?_
    refine wl_v (o_assign rfl) rfl ?_
    refine wl_v (o_assign rfl) rfl ?_
    refine wl_nil ?_
    refine wk_then (wc_of_wk ?_)
    refine wc_seq ?_
    refine wc_seq ?_
    refine wc_region ?_
    refine wl_v (o_move rfl) rfl ?_
    refine wl_v (o_ne rfl rfl) rfl ?_
    refine wl_nil ?_
    refine wk_then (wc_of_wk ?_)
    refine wc_cond (b := !(decide ((parseE (List.drop (Int.toNat ((lastB p 46) + 1)) p)) = (0)))) rfl (fun h122 => ?_) (fun h122 => ?_)
    · have g122 := h122; try simp only [decide_eq_true_eq, decide_eq_false_iff_not] at g122
      have f122 := h122; try simp only [decide_eq_true_eq, decide_eq_false_iff_not, Bool.and_eq_true, Bool.or_eq_true, Bool.not_eq_true', Bool.not_eq_false', Bool.and_eq_false_iff, Bool.or_eq_false_iff, not_or, Int.not_lt, Int.not_le] at f122
      refine wc_seq ?_
      refine wc_region ?_
      refine wl_v (o_assign rfl) rfl ?_
      refine wl_v (o_assign rfl) rfl ?_
      refine wl_v (o_assign rfl) rfl ?_
      refine wl_nil ?_
      refine wk_then (wc_of_wk ?_)
      refine wc_ret ?_
      refine wk_then_ret ?_
      refine wk_ret (r_3 rfl rfl rfl rfl) ?_
      have hr : parOk p = false := by simp only [parOk, parP, parN]; grind
      exact retv (by simp only [hr, iff0, parP, parN]; rfl)
    · have g122 := h122; try simp only [decide_eq_true_eq, decide_eq_false_iff_not] at g122
      have f122 := h122; try simp only [decide_eq_true_eq, decide_eq_false_iff_not, Bool.and_eq_true, Bool.or_eq_true, Bool.not_eq_true', Bool.not_eq_false', Bool.and_eq_false_iff, Bool.or_eq_false_iff, not_or, Int.not_lt, Int.not_le] at f122
      refine wc_skip ?_
      refine wk_then (wc_of_wk ?_)
      refine wc_seq ?_
      refine wc_seq ?_
      refine wc_region ?_
      refine wl_v (o_move rfl) rfl ?_
      refine wl_v (o_move rfl) rfl ?_
      refine wl_v (o_slice_hi Tryz.underlying9 rfl rfl (by first | omega | (simp; omega)) (by first | omega | (simp; omega))) rfl ?_
      refine wl_v (o_move rfl) rfl ?_
      refine w_call Tryz.call18 rfl (fun w hw => child_c (List.take (Int.toNat (lastB p 46)) p) (parseV (List.drop (Int.toNat ((lastB p 46) + 1)) p)) (by first | omega | (simp; done) | (simp; omega) | (simp at *; omega) | (split <;> first | omega | (simp; omega))) w (hE.st0 hw)) rfl ?_
      have ft123 := childV_len (List.take (Int.toNat (lastB p 46)) p) (parseV (List.drop (Int.toNat ((lastB p 46) + 1)) p))
      refine wl_v (o_move rfl) rfl ?_
      refine wl_v (o_extract rfl rfl) rfl ?_
      refine wl_v (o_extract rfl rfl) rfl ?_
      refine wl_v (o_assign rfl) rfl ?_
      refine wl_v (o_assign rfl) rfl ?_
      refine wl_nil ?_
      refine wk_then (wc_of_wk ?_)
      refine wc_seq_mid [(0, .string (B (p))), (2, .string (B ([]))), (3, .int .i64 (0)), (4, .bool (false)), (5, .int .i64 (lastB p 46)), (6, .int .i64 (parseV (List.drop (Int.toNat ((lastB p 46) + 1)) p))), (38, .bool (((!(decide ((childE (List.take (Int.toNat (lastB p 46)) p) (parseV (List.drop (Int.toNat ((lastB p 46) + 1)) p))) = (0)))) || (!(decide (((childV (List.take (Int.toNat (lastB p 46)) p) (parseV (List.drop (Int.toNat ((lastB p 46) + 1)) p)))) = (p)))))))] [] (φ := True) ?_ (fun hm124 => ?_)
      · refine wc_region ?_
        refine wl_v (o_move rfl) rfl ?_
        refine wl_v (o_ne rfl rfl) rfl ?_
        refine wl_v (o_move rfl) rfl ?_
        refine bsplit (!(decide ((childE (List.take (Int.toNat (lastB p 46)) p) (parseV (List.drop (Int.toNat ((lastB p 46) + 1)) p))) = (0)))) (fun h124 => ?_) (fun h124 => ?_)
        · have g124 := h124; try simp only [decide_eq_true_eq, decide_eq_false_iff_not] at g124
          have f124 := h124; try simp only [decide_eq_true_eq, decide_eq_false_iff_not, Bool.and_eq_true, Bool.or_eq_true, Bool.not_eq_true', Bool.not_eq_false', Bool.and_eq_false_iff, Bool.or_eq_false_iff, not_or, Int.not_lt, Int.not_le] at f124
          refine wl_off rfl rfl h124 rfl ?_
          refine wl_off rfl rfl h124 rfl ?_
          refine wl_off rfl rfl h124 rfl ?_
          refine wl_v (o_pick_t rfl h124 rfl) rfl ?_
          refine wl_nil ?_
          exact wk_then (wk_mid trivial ⟨rfl, rfl, rfl, rfl, rfl, rfl, fb (by first | (simp only [h120, h122, h124, Bool.true_and, Bool.false_and, Bool.true_or, Bool.false_or, Bool.and_true, Bool.and_false, Bool.or_true, Bool.or_false, Bool.not_true, Bool.not_false, cond_true, cond_false, if_true, if_false, reduceIte, Bool.false_eq_true]; done) | (simp only [Bool.true_and, Bool.false_and, Bool.true_or, Bool.false_or, Bool.and_true, Bool.and_false, Bool.or_true, Bool.or_false, Bool.not_true, Bool.not_false, cond_true, cond_false, if_true, if_false, reduceIte, Bool.false_eq_true]; done) | simp [h120, h122, h124]), trivial⟩ .slnil)
        · have g124 := h124; try simp only [decide_eq_true_eq, decide_eq_false_iff_not] at g124
          have f124 := h124; try simp only [decide_eq_true_eq, decide_eq_false_iff_not, Bool.and_eq_true, Bool.or_eq_true, Bool.not_eq_true', Bool.not_eq_false', Bool.and_eq_false_iff, Bool.or_eq_false_iff, not_or, Int.not_lt, Int.not_le] at f124
          refine wl_on rfl rfl h124 ?_
          refine wl_v (o_move rfl) rfl ?_
          refine wl_on rfl rfl h124 ?_
          refine wl_v (o_move rfl) rfl ?_
          refine wl_on rfl rfl h124 ?_
          refine wl_v (o_sne rfl rfl) rfl ?_
          refine wl_v (o_pick_f rfl h124 rfl) rfl ?_
          refine wl_nil ?_
          exact wk_then (wk_mid trivial ⟨rfl, rfl, rfl, rfl, rfl, rfl, fb (by first | (simp only [h120, h122, h124, Bool.true_and, Bool.false_and, Bool.true_or, Bool.false_or, Bool.and_true, Bool.and_false, Bool.or_true, Bool.or_false, Bool.not_true, Bool.not_false, cond_true, cond_false, if_true, if_false, reduceIte, Bool.false_eq_true]; done) | (simp only [Bool.true_and, Bool.false_and, Bool.true_or, Bool.false_or, Bool.and_true, Bool.and_false, Bool.or_true, Bool.or_false, Bool.not_true, Bool.not_false, cond_true, cond_false, if_true, if_false, reduceIte, Bool.false_eq_true]; done) | simp [h120, h122, h124]), trivial⟩ .slnil)
      refine wc_cond (b := ((!(decide ((childE (List.take (Int.toNat (lastB p 46)) p) (parseV (List.drop (Int.toNat ((lastB p 46) + 1)) p))) = (0)))) || (!(decide (((childV (List.take (Int.toNat (lastB p 46)) p) (parseV (List.drop (Int.toNat ((lastB p 46) + 1)) p)))) = (p)))))) rfl (fun h126 => ?_) (fun h126 => ?_)
      · have g126 := h126; try simp only [decide_eq_true_eq, decide_eq_false_iff_not] at g126
        have f126 := h126; try simp only [decide_eq_true_eq, decide_eq_false_iff_not, Bool.and_eq_true, Bool.or_eq_true, Bool.not_eq_true', Bool.not_eq_false', Bool.and_eq_false_iff, Bool.or_eq_false_iff, not_or, Int.not_lt, Int.not_le] at f126
        refine wc_seq ?_
        refine wc_region ?_
        refine wl_v (o_assign rfl) rfl ?_
        refine wl_v (o_assign rfl) rfl ?_
        refine wl_v (o_assign rfl) rfl ?_
        refine wl_nil ?_
        refine wk_then (wc_of_wk ?_)
        refine wc_ret ?_
        refine wk_then_ret ?_
        refine wk_ret (r_3 rfl rfl rfl rfl) ?_
        have hr : parOk p = false := by simp only [parOk, parP, parN]; grind
        exact retv (by simp only [hr, iff0, parP, parN]; rfl)
      · have g126 := h126; try simp only [decide_eq_true_eq, decide_eq_false_iff_not] at g126
        have f126 := h126; try simp only [decide_eq_true_eq, decide_eq_false_iff_not, Bool.and_eq_true, Bool.or_eq_true, Bool.not_eq_true', Bool.not_eq_false', Bool.and_eq_false_iff, Bool.or_eq_false_iff, not_or, Int.not_lt, Int.not_le] at f126
        refine wc_skip ?_
        refine wk_then (wc_of_wk ?_)
        refine wc_seq ?_
        refine wc_region ?_
        refine wl_v (o_move rfl) rfl ?_
        refine wl_v (o_move rfl) rfl ?_
        refine wl_v (o_slice_hi Tryz.underlying9 rfl rfl (by first | omega | (simp; omega)) (by first | omega | (simp; omega))) rfl ?_
        refine wl_v (o_move rfl) rfl ?_
        refine wl_v (o_assign rfl) rfl ?_
        refine wl_v (o_assign rfl) rfl ?_
        refine wl_v (o_assign rfl) rfl ?_
        refine wl_nil ?_
        refine wk_then (wc_of_wk ?_)
        refine wc_ret ?_
        refine wk_ret (r_3 rfl rfl rfl rfl) ?_
        have hr : parOk p = true := by simp only [parOk, parP, parN]; grind
        exact retv (by simp only [hr, iff0, parP, parN]; rfl)

theorem open_c (p : List UInt8) (hp : p.length ≤ 281474976710656) (w : World) : Calls Tryz.prog 33 [.string (B (p))].toArray w (RetV w (.bool (hasSuf p [42]))) := by
  refine enter0 (n := 5) Tryz.func33 rfl Tryz.ntmps33 rfl ?_
  refine wc_seq ?_
  refine wc_region ?_
  refine wl_v (o_assign rfl) rfl ?_
  refine wl_nil ?_
  refine wk_then (wc_of_wk ?_)
  refine wc_seq ?_
  refine wc_region ?_
  refine wl_v (o_move rfl) rfl ?_
  refine w_call Tryz.call50 rfl (fun w hw => hasSuf_c p ([42] : List UInt8) (by first | omega | (simp; omega)) w) rfl ?_
  refine wl_v (o_assign rfl) rfl ?_
  refine wl_nil ?_
  refine wk_then (wc_of_wk ?_)
  refine wc_ret ?_
  refine wk_ret (r_1 rfl rfl) ?_
  exact retv (by first | rfl | simp [])

theorem prefix_c (p : List UInt8) (hp : p.length ≤ 281474976710656) (w : World) : Calls Tryz.prog 32 [.string (B (p))].toArray w (RetV w (.string (B (trimSuf p [42])))) := by
  refine enter0 (n := 5) Tryz.func32 rfl Tryz.ntmps32 rfl ?_
  refine wc_seq ?_
  refine wc_region ?_
  refine wl_v (o_assign rfl) rfl ?_
  refine wl_nil ?_
  refine wk_then (wc_of_wk ?_)
  refine wc_seq ?_
  refine wc_region ?_
  refine wl_v (o_move rfl) rfl ?_
  refine w_call Tryz.call49 rfl (fun w hw => trimSuf_c p ([42] : List UInt8) (by first | omega | (simp; omega)) w) rfl ?_
  refine wl_v (o_assign rfl) rfl ?_
  refine wl_nil ?_
  refine wk_then (wc_of_wk ?_)
  refine wc_ret ?_
  refine wk_ret (r_1 rfl rfl) ?_
  exact retv (by first | rfl | simp [])

theorem pattern_c (p : List UInt8) (hp : p.length ≤ 281474976710656) (w : World) : Calls Tryz.prog 11 [.string (B (p))].toArray w (RetV w (.bool (patS p))) := by
  refine enter0 (n := 23) Tryz.func11 rfl Tryz.ntmps11 rfl ?_
  refine wc_seq ?_
  refine wc_region ?_
  refine wl_v (o_assign rfl) rfl ?_
  refine wl_nil ?_
  refine wk_then (wc_of_wk ?_)
  refine wc_seq_mid [(2, .bool (((idS p) || ((decide ((p) = (([42] : List UInt8)))) || ((idS (trimSuf p [42])) && ((hasSuf p [42]) && (decide (((p.length : Int)) ≤ (64)))))))))] [] (φ := True) ?_ (fun hm131 => ?_)
  · refine wc_region ?_
    refine wl_v (o_move rfl) rfl ?_
    refine w_call Tryz.call9 rfl (fun w hw => id_c p w) rfl ?_
    refine wl_v (o_move rfl) rfl ?_
    refine bsplit (idS p) (fun h127 => ?_) (fun h127 => ?_)
    · have g127 := h127; try simp only [decide_eq_true_eq, decide_eq_false_iff_not] at g127
      have f127 := h127; try simp only [decide_eq_true_eq, decide_eq_false_iff_not, Bool.and_eq_true, Bool.or_eq_true, Bool.not_eq_true', Bool.not_eq_false', Bool.and_eq_false_iff, Bool.or_eq_false_iff, not_or, Int.not_lt, Int.not_le] at f127
      refine wl_off rfl rfl h127 rfl ?_
      refine wl_off rfl rfl h127 rfl ?_
      refine wl_v (o_pick_t rfl h127 rfl) rfl ?_
      refine wl_v (o_move rfl) rfl ?_
      refine wl_off rfl rfl rfl rfl ?_
      refine wl_off rfl rfl rfl rfl ?_
      refine wl_off rfl rfl rfl rfl ?_
      refine wl_off rfl rfl rfl rfl ?_
      refine wl_off_u rfl rfl rfl ?_
      refine wl_off_u rfl rfl rfl ?_
      refine wl_off rfl rfl rfl rfl ?_
      refine wl_off rfl rfl rfl rfl ?_
      refine wl_off_u rfl rfl rfl ?_
      refine wl_off_u rfl rfl rfl ?_
      refine wl_off_u rfl rfl rfl ?_
      refine wl_off rfl rfl rfl rfl ?_
      refine wl_v (o_pick_t rfl rfl rfl) rfl ?_
      refine wl_v (o_assign rfl) rfl ?_
      refine wl_nil ?_
      exact wk_then (wk_mid trivial ⟨fb (by first | (simp only [h127, Bool.true_and, Bool.false_and, Bool.true_or, Bool.false_or, Bool.and_true, Bool.and_false, Bool.or_true, Bool.or_false, Bool.not_true, Bool.not_false, cond_true, cond_false, if_true, if_false, reduceIte, Bool.false_eq_true]; done) | (simp only [Bool.true_and, Bool.false_and, Bool.true_or, Bool.false_or, Bool.and_true, Bool.and_false, Bool.or_true, Bool.or_false, Bool.not_true, Bool.not_false, cond_true, cond_false, if_true, if_false, reduceIte, Bool.false_eq_true]; done) | simp [h127]), trivial⟩ .slnil)
    · have g127 := h127; try simp only [decide_eq_true_eq, decide_eq_false_iff_not] at g127
      have f127 := h127; try simp only [decide_eq_true_eq, decide_eq_false_iff_not, Bool.and_eq_true, Bool.or_eq_true, Bool.not_eq_true', Bool.not_eq_false', Bool.and_eq_false_iff, Bool.or_eq_false_iff, not_or, Int.not_lt, Int.not_le] at f127
      refine wl_on rfl rfl h127 ?_
      refine wl_v (o_move rfl) rfl ?_
      refine wl_on rfl rfl h127 ?_
      refine wl_v (o_seq rfl rfl) rfl ?_
      refine wl_v (o_pick_f rfl h127 rfl) rfl ?_
      refine wl_v (o_move rfl) rfl ?_
      refine bsplit (decide ((p) = (([42] : List UInt8)))) (fun h128 => ?_) (fun h128 => ?_)
      · have g128 := h128; try simp only [decide_eq_true_eq, decide_eq_false_iff_not] at g128
        have f128 := h128; try simp only [decide_eq_true_eq, decide_eq_false_iff_not, Bool.and_eq_true, Bool.or_eq_true, Bool.not_eq_true', Bool.not_eq_false', Bool.and_eq_false_iff, Bool.or_eq_false_iff, not_or, Int.not_lt, Int.not_le] at f128
        refine wl_off rfl rfl h128 rfl ?_
        refine wl_off rfl rfl h128 rfl ?_
        refine wl_off rfl rfl h128 rfl ?_
        refine wl_off rfl rfl h128 rfl ?_
        refine wl_off_u rfl rfl rfl ?_
        refine wl_off_u rfl rfl rfl ?_
        refine wl_off rfl rfl h128 rfl ?_
        refine wl_off rfl rfl h128 rfl ?_
        refine wl_off_u rfl rfl rfl ?_
        refine wl_off_u rfl rfl rfl ?_
        refine wl_off_u rfl rfl rfl ?_
        refine wl_off rfl rfl h128 rfl ?_
        refine wl_v (o_pick_t rfl h128 rfl) rfl ?_
        refine wl_v (o_assign rfl) rfl ?_
        refine wl_nil ?_
        exact wk_then (wk_mid trivial ⟨fb (by first | (simp only [h127, h128, Bool.true_and, Bool.false_and, Bool.true_or, Bool.false_or, Bool.and_true, Bool.and_false, Bool.or_true, Bool.or_false, Bool.not_true, Bool.not_false, cond_true, cond_false, if_true, if_false, reduceIte, Bool.false_eq_true]; done) | (simp only [Bool.true_and, Bool.false_and, Bool.true_or, Bool.false_or, Bool.and_true, Bool.and_false, Bool.or_true, Bool.or_false, Bool.not_true, Bool.not_false, cond_true, cond_false, if_true, if_false, reduceIte, Bool.false_eq_true]; done) | simp [h127, h128]), trivial⟩ .slnil)
      · have g128 := h128; try simp only [decide_eq_true_eq, decide_eq_false_iff_not] at g128
        have f128 := h128; try simp only [decide_eq_true_eq, decide_eq_false_iff_not, Bool.and_eq_true, Bool.or_eq_true, Bool.not_eq_true', Bool.not_eq_false', Bool.and_eq_false_iff, Bool.or_eq_false_iff, not_or, Int.not_lt, Int.not_le] at f128
        refine wl_on rfl rfl h128 ?_
        refine wl_v (o_move rfl) rfl ?_
        refine wl_on rfl rfl h128 ?_
        refine w_call Tryz.call32 rfl (fun w hw => prefix_c p (by first | omega | (simp; done) | (simp; omega) | (simp at *; omega) | (split <;> first | omega | (simp; omega))) w) rfl ?_
        have ft129 := trimSuf_len p [42]
        refine wl_on rfl rfl h128 ?_
        refine w_call Tryz.call9 rfl (fun w hw => id_c (trimSuf p [42]) w) rfl ?_
        refine wl_on rfl rfl h128 ?_
        refine wl_v (o_move rfl) rfl ?_
        refine bsplit (idS (trimSuf p [42])) (fun h130 => ?_) (fun h130 => ?_)
        · have g130 := h130; try simp only [decide_eq_true_eq, decide_eq_false_iff_not] at g130
          have f130 := h130; try simp only [decide_eq_true_eq, decide_eq_false_iff_not, Bool.and_eq_true, Bool.or_eq_true, Bool.not_eq_true', Bool.not_eq_false', Bool.and_eq_false_iff, Bool.or_eq_false_iff, not_or, Int.not_lt, Int.not_le] at f130
          refine wl_on rfl rfl h130 ?_
          refine wl_v (o_move rfl) rfl ?_
          refine wl_on rfl rfl h130 ?_
          refine w_call Tryz.call33 rfl (fun w hw => open_c p (by first | omega | (simp; done) | (simp; omega) | (simp at *; omega) | (split <;> first | omega | (simp; omega))) w) rfl ?_
          refine wl_on rfl rfl h128 ?_
          refine wl_v (o_pick_t rfl h130 rfl) rfl ?_
          refine wl_on rfl rfl h128 ?_
          refine wl_v (o_move rfl) rfl ?_
          refine bsplit (hasSuf p [42]) (fun h131 => ?_) (fun h131 => ?_)
          · have g131 := h131; try simp only [decide_eq_true_eq, decide_eq_false_iff_not] at g131
            have f131 := h131; try simp only [decide_eq_true_eq, decide_eq_false_iff_not, Bool.and_eq_true, Bool.or_eq_true, Bool.not_eq_true', Bool.not_eq_false', Bool.and_eq_false_iff, Bool.or_eq_false_iff, not_or, Int.not_lt, Int.not_le] at f131
            refine wl_on rfl rfl h131 ?_
            refine wl_v (o_move rfl) rfl ?_
            refine wl_on rfl rfl h131 ?_
            refine wl_v (o_len_s Tryz.underlying9 rfl) rfl ?_
            refine wl_on rfl rfl h131 ?_
            refine wl_v (o_le rfl rfl) rfl ?_
            refine wl_on rfl rfl h128 ?_
            refine wl_v (o_pick_t rfl h131 rfl) rfl ?_
            refine wl_v (o_pick_f rfl h128 rfl) rfl ?_
            refine wl_v (o_assign rfl) rfl ?_
            refine wl_nil ?_
            exact wk_then (wk_mid trivial ⟨fb (by first | (simp only [h127, h128, h130, h131, Bool.true_and, Bool.false_and, Bool.true_or, Bool.false_or, Bool.and_true, Bool.and_false, Bool.or_true, Bool.or_false, Bool.not_true, Bool.not_false, cond_true, cond_false, if_true, if_false, reduceIte, Bool.false_eq_true]; done) | (simp only [Bool.true_and, Bool.false_and, Bool.true_or, Bool.false_or, Bool.and_true, Bool.and_false, Bool.or_true, Bool.or_false, Bool.not_true, Bool.not_false, cond_true, cond_false, if_true, if_false, reduceIte, Bool.false_eq_true]; done) | simp [h127, h128, h130, h131]), trivial⟩ .slnil)
          · have g131 := h131; try simp only [decide_eq_true_eq, decide_eq_false_iff_not] at g131
            have f131 := h131; try simp only [decide_eq_true_eq, decide_eq_false_iff_not, Bool.and_eq_true, Bool.or_eq_true, Bool.not_eq_true', Bool.not_eq_false', Bool.and_eq_false_iff, Bool.or_eq_false_iff, not_or, Int.not_lt, Int.not_le] at f131
            refine wl_off rfl rfl h131 rfl ?_
            refine wl_off rfl rfl h131 rfl ?_
            refine wl_off rfl rfl h131 rfl ?_
            refine wl_on rfl rfl h128 ?_
            refine wl_v (o_pick_f rfl h131 rfl) rfl ?_
            refine wl_v (o_pick_f rfl h128 rfl) rfl ?_
            refine wl_v (o_assign rfl) rfl ?_
            refine wl_nil ?_
            exact wk_then (wk_mid trivial ⟨fb (by first | (simp only [h127, h128, h130, h131, Bool.true_and, Bool.false_and, Bool.true_or, Bool.false_or, Bool.and_true, Bool.and_false, Bool.or_true, Bool.or_false, Bool.not_true, Bool.not_false, cond_true, cond_false, if_true, if_false, reduceIte, Bool.false_eq_true]; done) | (simp only [Bool.true_and, Bool.false_and, Bool.true_or, Bool.false_or, Bool.and_true, Bool.and_false, Bool.or_true, Bool.or_false, Bool.not_true, Bool.not_false, cond_true, cond_false, if_true, if_false, reduceIte, Bool.false_eq_true]; done) | simp [h127, h128, h130, h131]), trivial⟩ .slnil)
        · have g130 := h130; try simp only [decide_eq_true_eq, decide_eq_false_iff_not] at g130
          have f130 := h130; try simp only [decide_eq_true_eq, decide_eq_false_iff_not, Bool.and_eq_true, Bool.or_eq_true, Bool.not_eq_true', Bool.not_eq_false', Bool.and_eq_false_iff, Bool.or_eq_false_iff, not_or, Int.not_lt, Int.not_le] at f130
          refine wl_off rfl rfl h130 rfl ?_
          refine wl_off rfl rfl h130 rfl ?_
          refine wl_on rfl rfl h128 ?_
          refine wl_v (o_pick_f rfl h130 rfl) rfl ?_
          refine wl_on rfl rfl h128 ?_
          refine wl_v (o_move rfl) rfl ?_
          refine wl_off rfl rfl rfl rfl ?_
          refine wl_off rfl rfl rfl rfl ?_
          refine wl_off rfl rfl rfl rfl ?_
          refine wl_on rfl rfl h128 ?_
          refine wl_v (o_pick_f rfl rfl rfl) rfl ?_
          refine wl_v (o_pick_f rfl h128 rfl) rfl ?_
          refine wl_v (o_assign rfl) rfl ?_
          refine wl_nil ?_
          exact wk_then (wk_mid trivial ⟨fb (by first | (simp only [h127, h128, h130, Bool.true_and, Bool.false_and, Bool.true_or, Bool.false_or, Bool.and_true, Bool.and_false, Bool.or_true, Bool.or_false, Bool.not_true, Bool.not_false, cond_true, cond_false, if_true, if_false, reduceIte, Bool.false_eq_true]; done) | (simp only [Bool.true_and, Bool.false_and, Bool.true_or, Bool.false_or, Bool.and_true, Bool.and_false, Bool.or_true, Bool.or_false, Bool.not_true, Bool.not_false, cond_true, cond_false, if_true, if_false, reduceIte, Bool.false_eq_true]; done) | simp [h127, h128, h130]), trivial⟩ .slnil)
  refine wc_ret ?_
  refine wk_ret (r_1 rfl rfl) ?_
  exact retv (by first | rfl | simp [patS])

theorem matches_c (p : List UInt8) (s : List UInt8) (hp : p.length ≤ 281474976710656) (hs : s.length ≤ 281474976710656) (w : World) : Calls Tryz.prog 22 [.string (B (p)), .string (B (s))].toArray w (RetV w (.bool (matS p s))) := by
  refine enter0 (n := 17) Tryz.func22 rfl Tryz.ntmps22 rfl ?_
  refine wc_seq ?_
  refine wc_region ?_
  refine wl_v (o_assign rfl) rfl ?_
  refine wl_nil ?_
  refine wk_then (wc_of_wk ?_)
  refine wc_seq ?_
  refine wc_seq ?_
  refine wc_region ?_
  refine wl_v (o_move rfl) rfl ?_
  refine w_call Tryz.call11 rfl (fun w hw => pattern_c p (by first | omega | (simp; done) | (simp; omega) | (simp at *; omega) | (split <;> first | omega | (simp; omega))) w) rfl ?_
  refine wl_v (o_not rfl) rfl ?_
  refine wl_nil ?_
  refine wk_then (wc_of_wk ?_)
  refine wc_cond (b := !(patS p)) rfl (fun h133 => ?_) (fun h133 => ?_)
  · have g133 := h133; try simp only [decide_eq_true_eq, decide_eq_false_iff_not] at g133
    have f133 := h133; try simp only [decide_eq_true_eq, decide_eq_false_iff_not, Bool.and_eq_true, Bool.or_eq_true, Bool.not_eq_true', Bool.not_eq_false', Bool.and_eq_false_iff, Bool.or_eq_false_iff, not_or, Int.not_lt, Int.not_le] at f133
    refine wc_seq ?_
    refine wc_region ?_
    refine wl_v (o_assign rfl) rfl ?_
    refine wl_nil ?_
    refine wk_then (wc_of_wk ?_)
    refine wc_ret ?_
    refine wk_then_ret ?_
    refine wk_ret (r_1 rfl rfl) ?_
    exact retv (by simp [matS, f133])
  · have g133 := h133; try simp only [decide_eq_true_eq, decide_eq_false_iff_not] at g133
    have f133 := h133; try simp only [decide_eq_true_eq, decide_eq_false_iff_not, Bool.and_eq_true, Bool.or_eq_true, Bool.not_eq_true', Bool.not_eq_false', Bool.and_eq_false_iff, Bool.or_eq_false_iff, not_or, Int.not_lt, Int.not_le] at f133
    refine wc_skip ?_
    refine wk_then (wc_of_wk ?_)
    refine wc_seq ?_
    refine wc_seq ?_
    refine wc_region ?_
    refine wl_v (o_move rfl) rfl ?_
    refine w_call Tryz.call33 rfl (fun w hw => open_c p (by first | omega | (simp; done) | (simp; omega) | (simp at *; omega) | (split <;> first | omega | (simp; omega))) w) rfl ?_
    refine wl_nil ?_
    refine wk_then (wc_of_wk ?_)
    refine wc_cond (b := hasSuf p [42]) rfl (fun h134 => ?_) (fun h134 => ?_)
    · have g134 := h134; try simp only [decide_eq_true_eq, decide_eq_false_iff_not] at g134
      have f134 := h134; try simp only [decide_eq_true_eq, decide_eq_false_iff_not, Bool.and_eq_true, Bool.or_eq_true, Bool.not_eq_true', Bool.not_eq_false', Bool.and_eq_false_iff, Bool.or_eq_false_iff, not_or, Int.not_lt, Int.not_le] at f134
      refine wc_seq ?_
      refine wc_region ?_
      refine wl_v (o_move rfl) rfl ?_
      refine wl_v (o_move rfl) rfl ?_
      refine w_call Tryz.call32 rfl (fun w hw => prefix_c p (by first | omega | (simp; done) | (simp; omega) | (simp at *; omega) | (split <;> first | omega | (simp; omega))) w) rfl ?_
      have ft135 := trimSuf_len p [42]
      refine w_call Tryz.call46 rfl (fun w hw => hasPre_c s (trimSuf p [42]) (by first | omega | (simp; omega)) w) rfl ?_
      refine wl_v (o_assign rfl) rfl ?_
      refine wl_nil ?_
      refine wk_then (wc_of_wk ?_)
      refine wc_ret ?_
      refine wk_then_ret ?_
      refine wk_ret (r_1 rfl rfl) ?_
      exact retv (by simp [matS, f133, f134])
    · have g134 := h134; try simp only [decide_eq_true_eq, decide_eq_false_iff_not] at g134
      have f134 := h134; try simp only [decide_eq_true_eq, decide_eq_false_iff_not, Bool.and_eq_true, Bool.or_eq_true, Bool.not_eq_true', Bool.not_eq_false', Bool.and_eq_false_iff, Bool.or_eq_false_iff, not_or, Int.not_lt, Int.not_le] at f134
      refine wc_skip ?_
      refine wk_then (wc_of_wk ?_)
      refine wc_seq ?_
      refine wc_region ?_
      refine wl_v (o_move rfl) rfl ?_
      refine wl_v (o_move rfl) rfl ?_
      refine wl_v (o_seq rfl rfl) rfl ?_
      refine wl_v (o_assign rfl) rfl ?_
      refine wl_nil ?_
      refine wk_then (wc_of_wk ?_)
      refine wc_ret ?_
      refine wk_ret (r_1 rfl rfl) ?_
      exact retv (by simp [matS, f133, f134])

theorem covers_c (p : List UInt8) (q : List UInt8) (hp : p.length ≤ 281474976710656) (hq : q.length ≤ 281474976710656) (w : World) : Calls Tryz.prog 24 [.string (B (p)), .string (B (q))].toArray w (RetV w (.bool (covS p q))) := by
  refine enter0 (n := 26) Tryz.func24 rfl Tryz.ntmps24 rfl ?_
  refine wc_seq ?_
  refine wc_region ?_
  refine wl_v (o_assign rfl) rfl ?_
  refine wl_nil ?_
  refine wk_then (wc_of_wk ?_)
  refine wc_seq ?_
  refine wc_seq_mid [(0, .string (B (p))), (1, .string (B (q))), (4, .bool (false)), (21, .bool (((!(patS p)) || ((!(patS q)) || ((hasSuf q [42]) && (!(hasSuf p [42])))))))] [] (φ := True) ?_ (fun hm138 => ?_)
  · refine wc_region ?_
    refine wl_v (o_move rfl) rfl ?_
    refine w_call Tryz.call11 rfl (fun w hw => pattern_c p (by first | omega | (simp; done) | (simp; omega) | (simp at *; omega) | (split <;> first | omega | (simp; omega))) w) rfl ?_
    refine wl_v (o_not rfl) rfl ?_
    refine wl_v (o_move rfl) rfl ?_
    refine bsplit (!(patS p)) (fun h136 => ?_) (fun h136 => ?_)
    · have g136 := h136; try simp only [decide_eq_true_eq, decide_eq_false_iff_not] at g136
      have f136 := h136; try simp only [decide_eq_true_eq, decide_eq_false_iff_not, Bool.and_eq_true, Bool.or_eq_true, Bool.not_eq_true', Bool.not_eq_false', Bool.and_eq_false_iff, Bool.or_eq_false_iff, not_or, Int.not_lt, Int.not_le] at f136
      refine wl_off rfl rfl h136 rfl ?_
      refine wl_off rfl rfl h136 rfl ?_
      refine wl_off rfl rfl h136 rfl ?_
      refine wl_v (o_pick_t rfl h136 rfl) rfl ?_
      refine wl_v (o_move rfl) rfl ?_
      refine wl_off rfl rfl rfl rfl ?_
      refine wl_off rfl rfl rfl rfl ?_
      refine wl_off rfl rfl rfl rfl ?_
      refine wl_off_u rfl rfl rfl ?_
      refine wl_off_u rfl rfl rfl ?_
      refine wl_off_u rfl rfl rfl ?_
      refine wl_off rfl rfl rfl rfl ?_
      refine wl_v (o_pick_t rfl rfl rfl) rfl ?_
      refine wl_nil ?_
      exact wk_then (wk_mid trivial ⟨rfl, rfl, rfl, fb (by first | (simp only [h136, Bool.true_and, Bool.false_and, Bool.true_or, Bool.false_or, Bool.and_true, Bool.and_false, Bool.or_true, Bool.or_false, Bool.not_true, Bool.not_false, cond_true, cond_false, if_true, if_false, reduceIte, Bool.false_eq_true]; done) | (simp only [Bool.true_and, Bool.false_and, Bool.true_or, Bool.false_or, Bool.and_true, Bool.and_false, Bool.or_true, Bool.or_false, Bool.not_true, Bool.not_false, cond_true, cond_false, if_true, if_false, reduceIte, Bool.false_eq_true]; done) | simp [h136]), trivial⟩ .slnil)
    · have g136 := h136; try simp only [decide_eq_true_eq, decide_eq_false_iff_not] at g136
      have f136 := h136; try simp only [decide_eq_true_eq, decide_eq_false_iff_not, Bool.and_eq_true, Bool.or_eq_true, Bool.not_eq_true', Bool.not_eq_false', Bool.and_eq_false_iff, Bool.or_eq_false_iff, not_or, Int.not_lt, Int.not_le] at f136
      refine wl_on rfl rfl h136 ?_
      refine wl_v (o_move rfl) rfl ?_
      refine wl_on rfl rfl h136 ?_
      refine w_call Tryz.call11 rfl (fun w hw => pattern_c q (by first | omega | (simp; done) | (simp; omega) | (simp at *; omega) | (split <;> first | omega | (simp; omega))) w) rfl ?_
      refine wl_on rfl rfl h136 ?_
      refine wl_v (o_not rfl) rfl ?_
      refine wl_v (o_pick_f rfl h136 rfl) rfl ?_
      refine wl_v (o_move rfl) rfl ?_
      refine bsplit (!(patS q)) (fun h137 => ?_) (fun h137 => ?_)
      · have g137 := h137; try simp only [decide_eq_true_eq, decide_eq_false_iff_not] at g137
        have f137 := h137; try simp only [decide_eq_true_eq, decide_eq_false_iff_not, Bool.and_eq_true, Bool.or_eq_true, Bool.not_eq_true', Bool.not_eq_false', Bool.and_eq_false_iff, Bool.or_eq_false_iff, not_or, Int.not_lt, Int.not_le] at f137
        refine wl_off rfl rfl h137 rfl ?_
        refine wl_off rfl rfl h137 rfl ?_
        refine wl_off rfl rfl h137 rfl ?_
        refine wl_off_u rfl rfl rfl ?_
        refine wl_off_u rfl rfl rfl ?_
        refine wl_off_u rfl rfl rfl ?_
        refine wl_off rfl rfl h137 rfl ?_
        refine wl_v (o_pick_t rfl h137 rfl) rfl ?_
        refine wl_nil ?_
        exact wk_then (wk_mid trivial ⟨rfl, rfl, rfl, fb (by first | (simp only [h136, h137, Bool.true_and, Bool.false_and, Bool.true_or, Bool.false_or, Bool.and_true, Bool.and_false, Bool.or_true, Bool.or_false, Bool.not_true, Bool.not_false, cond_true, cond_false, if_true, if_false, reduceIte, Bool.false_eq_true]; done) | (simp only [Bool.true_and, Bool.false_and, Bool.true_or, Bool.false_or, Bool.and_true, Bool.and_false, Bool.or_true, Bool.or_false, Bool.not_true, Bool.not_false, cond_true, cond_false, if_true, if_false, reduceIte, Bool.false_eq_true]; done) | simp [h136, h137]), trivial⟩ .slnil)
      · have g137 := h137; try simp only [decide_eq_true_eq, decide_eq_false_iff_not] at g137
        have f137 := h137; try simp only [decide_eq_true_eq, decide_eq_false_iff_not, Bool.and_eq_true, Bool.or_eq_true, Bool.not_eq_true', Bool.not_eq_false', Bool.and_eq_false_iff, Bool.or_eq_false_iff, not_or, Int.not_lt, Int.not_le] at f137
        refine wl_on rfl rfl h137 ?_
        refine wl_v (o_move rfl) rfl ?_
        refine wl_on rfl rfl h137 ?_
        refine w_call Tryz.call33 rfl (fun w hw => open_c q (by first | omega | (simp; done) | (simp; omega) | (simp at *; omega) | (split <;> first | omega | (simp; omega))) w) rfl ?_
        refine wl_on rfl rfl h137 ?_
        refine wl_v (o_move rfl) rfl ?_
        refine bsplit (hasSuf q [42]) (fun h138 => ?_) (fun h138 => ?_)
        · have g138 := h138; try simp only [decide_eq_true_eq, decide_eq_false_iff_not] at g138
          have f138 := h138; try simp only [decide_eq_true_eq, decide_eq_false_iff_not, Bool.and_eq_true, Bool.or_eq_true, Bool.not_eq_true', Bool.not_eq_false', Bool.and_eq_false_iff, Bool.or_eq_false_iff, not_or, Int.not_lt, Int.not_le] at f138
          refine wl_on rfl rfl h138 ?_
          refine wl_v (o_move rfl) rfl ?_
          refine wl_on rfl rfl h138 ?_
          refine w_call Tryz.call33 rfl (fun w hw => open_c p (by first | omega | (simp; done) | (simp; omega) | (simp at *; omega) | (split <;> first | omega | (simp; omega))) w) rfl ?_
          refine wl_on rfl rfl h138 ?_
          refine wl_v (o_not rfl) rfl ?_
          refine wl_on rfl rfl h137 ?_
          refine wl_v (o_pick_t rfl h138 rfl) rfl ?_
          refine wl_v (o_pick_f rfl h137 rfl) rfl ?_
          refine wl_nil ?_
          exact wk_then (wk_mid trivial ⟨rfl, rfl, rfl, fb (by first | (simp only [h136, h137, h138, Bool.true_and, Bool.false_and, Bool.true_or, Bool.false_or, Bool.and_true, Bool.and_false, Bool.or_true, Bool.or_false, Bool.not_true, Bool.not_false, cond_true, cond_false, if_true, if_false, reduceIte, Bool.false_eq_true]; done) | (simp only [Bool.true_and, Bool.false_and, Bool.true_or, Bool.false_or, Bool.and_true, Bool.and_false, Bool.or_true, Bool.or_false, Bool.not_true, Bool.not_false, cond_true, cond_false, if_true, if_false, reduceIte, Bool.false_eq_true]; done) | simp [h136, h137, h138]), trivial⟩ .slnil)
        · have g138 := h138; try simp only [decide_eq_true_eq, decide_eq_false_iff_not] at g138
          have f138 := h138; try simp only [decide_eq_true_eq, decide_eq_false_iff_not, Bool.and_eq_true, Bool.or_eq_true, Bool.not_eq_true', Bool.not_eq_false', Bool.and_eq_false_iff, Bool.or_eq_false_iff, not_or, Int.not_lt, Int.not_le] at f138
          refine wl_off rfl rfl h138 rfl ?_
          refine wl_off rfl rfl h138 rfl ?_
          refine wl_off rfl rfl h138 rfl ?_
          refine wl_on rfl rfl h137 ?_
          refine wl_v (o_pick_f rfl h138 rfl) rfl ?_
          refine wl_v (o_pick_f rfl h137 rfl) rfl ?_
          refine wl_nil ?_
          exact wk_then (wk_mid trivial ⟨rfl, rfl, rfl, fb (by first | (simp only [h136, h137, h138, Bool.true_and, Bool.false_and, Bool.true_or, Bool.false_or, Bool.and_true, Bool.and_false, Bool.or_true, Bool.or_false, Bool.not_true, Bool.not_false, cond_true, cond_false, if_true, if_false, reduceIte, Bool.false_eq_true]; done) | (simp only [Bool.true_and, Bool.false_and, Bool.true_or, Bool.false_or, Bool.and_true, Bool.and_false, Bool.or_true, Bool.or_false, Bool.not_true, Bool.not_false, cond_true, cond_false, if_true, if_false, reduceIte, Bool.false_eq_true]; done) | simp [h136, h137, h138]), trivial⟩ .slnil)
  refine wc_cond (b := ((!(patS p)) || ((!(patS q)) || ((hasSuf q [42]) && (!(hasSuf p [42])))))) rfl (fun h140 => ?_) (fun h140 => ?_)
  · have g140 := h140; try simp only [decide_eq_true_eq, decide_eq_false_iff_not] at g140
    have f140 := h140; try simp only [decide_eq_true_eq, decide_eq_false_iff_not, Bool.and_eq_true, Bool.or_eq_true, Bool.not_eq_true', Bool.not_eq_false', Bool.and_eq_false_iff, Bool.or_eq_false_iff, not_or, Int.not_lt, Int.not_le] at f140
    refine wc_seq ?_
    refine wc_region ?_
    refine wl_v (o_assign rfl) rfl ?_
    refine wl_nil ?_
    refine wk_then (wc_of_wk ?_)
    refine wc_ret ?_
    refine wk_then_ret ?_
    refine wk_ret (r_1 rfl rfl) ?_
    exact retv (by simp only [covS]; grind)
  · have g140 := h140; try simp only [decide_eq_true_eq, decide_eq_false_iff_not] at g140
    have f140 := h140; try simp only [decide_eq_true_eq, decide_eq_false_iff_not, Bool.and_eq_true, Bool.or_eq_true, Bool.not_eq_true', Bool.not_eq_false', Bool.and_eq_false_iff, Bool.or_eq_false_iff, not_or, Int.not_lt, Int.not_le] at f140
    refine wc_skip ?_
    refine wk_then (wc_of_wk ?_)
    refine wc_seq ?_
    refine wc_region ?_
    refine wl_v (o_move rfl) rfl ?_
    refine wl_v (o_move rfl) rfl ?_
    refine w_call Tryz.call32 rfl (fun w hw => prefix_c q (by first | omega | (simp; done) | (simp; omega) | (simp at *; omega) | (split <;> first | omega | (simp; omega))) w) rfl ?_
    have ft141 := trimSuf_len q [42]
    refine w_call Tryz.call22 rfl (fun w hw => matches_c p (trimSuf q [42]) (by first | omega | (simp; done) | (simp; omega) | (simp at *; omega) | (split <;> first | omega | (simp; omega))) (by first | omega | (simp; done) | (simp; omega) | (simp at *; omega) | (split <;> first | omega | (simp; omega))) w) rfl ?_
    refine wl_v (o_assign rfl) rfl ?_
    refine wl_nil ?_
    refine wk_then (wc_of_wk ?_)
    refine wc_ret ?_
    refine wk_ret (r_1 rfl rfl) ?_
    exact retv (by simp only [covS]; grind)

end Go.Proofs.YtjkdkmcklocmnaaGreatDoor
