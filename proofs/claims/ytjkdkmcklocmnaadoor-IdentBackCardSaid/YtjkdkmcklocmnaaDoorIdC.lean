/-
  Walks, printed by a small program of ours (gsym.py).
-/
import Derived.Test.YtjkdkmcklocmnaaDoorFwG
import Derived.Test.YtjkdkmcklocmnaaDoorIdB
import Derived.Test.YtjkdkmcklocmnaaDoorPlC
namespace Go.Proofs.YtjkdkmcklocmnaaDoor
open Go Go.RowKit
set_option linter.unusedVariables false
set_option linter.unusedSimpArgs false
set_option maxRecDepth 100000
theorem decimal_c (p : List UInt8) (hp : p.length ≤ 281474976710656) (w : World) : Calls Tryd.prog 45 [.string (B (p))].toArray w (RetV w (.bool (decS p))) := by
  refine enter0 (n := 43) Tryd.func45 rfl Tryd.ntmps45 rfl ?_
  refine wc_seq ?_
  refine wc_region ?_
  refine wl_v (o_assign rfl) rfl ?_
  refine wl_nil ?_
  refine wk_then (wc_of_wk ?_)
  refine wc_seq ?_
  refine wc_region ?_
  refine wl_v (o_move rfl) rfl ?_
  refine wl_v (o_assign rfl) rfl ?_
  refine wl_nil ?_
  refine wk_then (wc_of_wk ?_)
  refine wc_seq_mid [(0, .string (B (p))), (2, .bool (false)), (3, .string (B ((if ((decide ((0) < ((p.length : Int)))) && (decide ((bat p 0) = (45)))) = true then List.drop (Int.toNat (1)) p else p))))] [] (φ := True) ?_ (fun hm62 => ?_)
  · refine wc_seq_mid [(0, .string (B (p))), (2, .bool (false)), (3, .string (B (p))), (13, .bool (((decide ((0) < ((p.length : Int)))) && (decide ((bat p 0) = (45))))))] [] (φ := True) ?_ (fun hm60 => ?_)
    · refine wc_region ?_
      refine wl_v (o_move rfl) rfl ?_
      refine wl_v (o_len_s Tryd.underlying9 rfl) rfl ?_
      refine wl_v (o_gt rfl rfl) rfl ?_
      refine wl_v (o_move rfl) rfl ?_
      refine bsplit (decide ((0) < ((p.length : Int)))) (fun h60 => ?_) (fun h60 => ?_)
      · have g60 := h60; try simp only [decide_eq_true_eq, decide_eq_false_iff_not] at g60
        have f60 := h60; try simp only [decide_eq_true_eq, decide_eq_false_iff_not, Bool.and_eq_true, Bool.or_eq_true, Bool.not_eq_true', Bool.not_eq_false', Bool.and_eq_false_iff, Bool.or_eq_false_iff, not_or, Int.not_lt, Int.not_le] at f60
        refine wl_on rfl rfl h60 ?_
        refine wl_v (o_move rfl) rfl ?_
        refine wl_on rfl rfl h60 ?_
        refine wl_v (o_index_b Tryd.underlying9 rfl rfl (by first | omega | exact len_pos (by assumption)) (by first | omega | exact len_pos (by assumption))) rfl ?_
        refine wl_on rfl rfl h60 ?_
        refine wl_v (o_eq rfl rfl) rfl ?_
        refine wl_v (o_pick_t rfl h60 rfl) rfl ?_
        refine wl_nil ?_
        exact wk_then (wk_mid trivial ⟨rfl, rfl, rfl, fb (by first | (simp only [h60, Bool.true_and, Bool.false_and, Bool.true_or, Bool.false_or, Bool.and_true, Bool.and_false, Bool.or_true, Bool.or_false, Bool.not_true, Bool.not_false, cond_true, cond_false, if_true, if_false, reduceIte, Bool.false_eq_true]; done) | (simp only [Bool.true_and, Bool.false_and, Bool.true_or, Bool.false_or, Bool.and_true, Bool.and_false, Bool.or_true, Bool.or_false, Bool.not_true, Bool.not_false, cond_true, cond_false, if_true, if_false, reduceIte, Bool.false_eq_true]; done) | simp [h60]), trivial⟩ .slnil)
      · have g60 := h60; try simp only [decide_eq_true_eq, decide_eq_false_iff_not] at g60
        have f60 := h60; try simp only [decide_eq_true_eq, decide_eq_false_iff_not, Bool.and_eq_true, Bool.or_eq_true, Bool.not_eq_true', Bool.not_eq_false', Bool.and_eq_false_iff, Bool.or_eq_false_iff, not_or, Int.not_lt, Int.not_le] at f60
        refine wl_off rfl rfl h60 rfl ?_
        refine wl_off rfl rfl h60 rfl ?_
        refine wl_off rfl rfl h60 rfl ?_
        refine wl_v (o_pick_f rfl h60 rfl) rfl ?_
        refine wl_nil ?_
        exact wk_then (wk_mid trivial ⟨rfl, rfl, rfl, fb (by first | (simp only [h60, Bool.true_and, Bool.false_and, Bool.true_or, Bool.false_or, Bool.and_true, Bool.and_false, Bool.or_true, Bool.or_false, Bool.not_true, Bool.not_false, cond_true, cond_false, if_true, if_false, reduceIte, Bool.false_eq_true]; done) | (simp only [Bool.true_and, Bool.false_and, Bool.true_or, Bool.false_or, Bool.and_true, Bool.and_false, Bool.or_true, Bool.or_false, Bool.not_true, Bool.not_false, cond_true, cond_false, if_true, if_false, reduceIte, Bool.false_eq_true]; done) | simp [h60]), trivial⟩ .slnil)
    refine wc_cond (b := ((decide ((0) < ((p.length : Int)))) && (decide ((bat p 0) = (45))))) rfl (fun h62 => ?_) (fun h62 => ?_)
    · have g62 := h62; try simp only [decide_eq_true_eq, decide_eq_false_iff_not] at g62
      have f62 := h62; try simp only [decide_eq_true_eq, decide_eq_false_iff_not, Bool.and_eq_true, Bool.or_eq_true, Bool.not_eq_true', Bool.not_eq_false', Bool.and_eq_false_iff, Bool.or_eq_false_iff, not_or, Int.not_lt, Int.not_le] at f62
      refine wc_region ?_
      refine wl_v (o_move rfl) rfl ?_
      refine wl_v (o_slice_lo Tryd.underlying9 rfl rfl (by first | omega | (simp; omega)) (by first | omega | (simp; omega))) rfl ?_
      refine wl_v (o_assign rfl) rfl ?_
      refine wl_nil ?_
      exact wk_then (wk_mid trivial ⟨rfl, rfl, fs (by first | (simp only [h62, Bool.true_and, Bool.false_and, Bool.true_or, Bool.false_or, Bool.and_true, Bool.and_false, Bool.or_true, Bool.or_false, Bool.not_true, Bool.not_false, cond_true, cond_false, if_true, if_false, reduceIte, Bool.false_eq_true]; done) | (simp only [Bool.true_and, Bool.false_and, Bool.true_or, Bool.false_or, Bool.and_true, Bool.and_false, Bool.or_true, Bool.or_false, Bool.not_true, Bool.not_false, cond_true, cond_false, if_true, if_false, reduceIte, Bool.false_eq_true]; done) | simp [h62]), trivial⟩ .slnil)
    · have g62 := h62; try simp only [decide_eq_true_eq, decide_eq_false_iff_not] at g62
      have f62 := h62; try simp only [decide_eq_true_eq, decide_eq_false_iff_not, Bool.and_eq_true, Bool.or_eq_true, Bool.not_eq_true', Bool.not_eq_false', Bool.and_eq_false_iff, Bool.or_eq_false_iff, not_or, Int.not_lt, Int.not_le] at f62
      refine wc_skip ?_
      exact wk_then (wk_mid trivial ⟨rfl, rfl, fs (by first | (simp only [h62, Bool.true_and, Bool.false_and, Bool.true_or, Bool.false_or, Bool.and_true, Bool.and_false, Bool.or_true, Bool.or_false, Bool.not_true, Bool.not_false, cond_true, cond_false, if_true, if_false, reduceIte, Bool.false_eq_true]; done) | (simp only [Bool.true_and, Bool.false_and, Bool.true_or, Bool.false_or, Bool.and_true, Bool.and_false, Bool.or_true, Bool.or_false, Bool.not_true, Bool.not_false, cond_true, cond_false, if_true, if_false, reduceIte, Bool.false_eq_true]; done) | simp [h62]), trivial⟩ .slnil)
  have hdg : digs p = (if ((decide ((0) < ((p.length : Int)))) && (decide ((bat p 0) = (45)))) = true then List.drop (Int.toNat (1)) p else p) := rfl
  have hdl := digs_len p
  rw [hdg] at hdl
  generalize (if ((decide ((0) < ((p.length : Int)))) && (decide ((bat p 0) = (45)))) = true then List.drop (Int.toNat (1)) p else p) = dg at hdg hdl ⊢
  refine wc_seq ?_
  refine wc_seq_mid [(2, .bool (false)), (3, .string (B (dg))), (26, .bool (((decide ((dg) = (([] : List UInt8)))) || ((decide ((bat dg 0) = (48))) && (!(decide ((p) = (([48] : List UInt8)))))))))] [] (φ := True) ?_ (fun hm65 => ?_)
  · refine wc_region ?_
    refine wl_v (o_move rfl) rfl ?_
    refine wl_v (o_seq rfl rfl) rfl ?_
    refine wl_v (o_move rfl) rfl ?_
    refine bsplit (decide ((dg) = (([] : List UInt8)))) (fun h64 => ?_) (fun h64 => ?_)
    · have g64 := h64; try simp only [decide_eq_true_eq, decide_eq_false_iff_not] at g64
      have f64 := h64; try simp only [decide_eq_true_eq, decide_eq_false_iff_not, Bool.and_eq_true, Bool.or_eq_true, Bool.not_eq_true', Bool.not_eq_false', Bool.and_eq_false_iff, Bool.or_eq_false_iff, not_or, Int.not_lt, Int.not_le] at f64
      refine wl_off rfl rfl h64 rfl ?_
      refine wl_off rfl rfl h64 rfl ?_
      refine wl_off rfl rfl h64 rfl ?_
      refine wl_off rfl rfl h64 rfl ?_
      refine wl_off_u rfl rfl rfl ?_
      refine wl_off_u rfl rfl rfl ?_
      refine wl_off rfl rfl h64 rfl ?_
      refine wl_v (o_pick_t rfl h64 rfl) rfl ?_
      refine wl_nil ?_
      exact wk_then (wk_mid trivial ⟨rfl, rfl, fb (by first | (simp only [h64, Bool.true_and, Bool.false_and, Bool.true_or, Bool.false_or, Bool.and_true, Bool.and_false, Bool.or_true, Bool.or_false, Bool.not_true, Bool.not_false, cond_true, cond_false, if_true, if_false, reduceIte, Bool.false_eq_true]; done) | (simp only [Bool.true_and, Bool.false_and, Bool.true_or, Bool.false_or, Bool.and_true, Bool.and_false, Bool.or_true, Bool.or_false, Bool.not_true, Bool.not_false, cond_true, cond_false, if_true, if_false, reduceIte, Bool.false_eq_true]; done) | simp [h64]), trivial⟩ .slnil)
    · have g64 := h64; try simp only [decide_eq_true_eq, decide_eq_false_iff_not] at g64
      have f64 := h64; try simp only [decide_eq_true_eq, decide_eq_false_iff_not, Bool.and_eq_true, Bool.or_eq_true, Bool.not_eq_true', Bool.not_eq_false', Bool.and_eq_false_iff, Bool.or_eq_false_iff, not_or, Int.not_lt, Int.not_le] at f64
      refine wl_on rfl rfl h64 ?_
      refine wl_v (o_move rfl) rfl ?_
      refine wl_on rfl rfl h64 ?_
      refine wl_v (o_index_b Tryd.underlying9 rfl rfl (by first | omega | exact len_pos (by assumption)) (by first | omega | exact len_pos (by assumption))) rfl ?_
      refine wl_on rfl rfl h64 ?_
      refine wl_v (o_eq rfl rfl) rfl ?_
      refine wl_on rfl rfl h64 ?_
      refine wl_v (o_move rfl) rfl ?_
      refine bsplit (decide ((bat dg 0) = (48))) (fun h65 => ?_) (fun h65 => ?_)
      · have g65 := h65; try simp only [decide_eq_true_eq, decide_eq_false_iff_not] at g65
        have f65 := h65; try simp only [decide_eq_true_eq, decide_eq_false_iff_not, Bool.and_eq_true, Bool.or_eq_true, Bool.not_eq_true', Bool.not_eq_false', Bool.and_eq_false_iff, Bool.or_eq_false_iff, not_or, Int.not_lt, Int.not_le] at f65
        refine wl_on rfl rfl h65 ?_
        refine wl_v (o_move rfl) rfl ?_
        refine wl_on rfl rfl h65 ?_
        refine wl_v (o_sne rfl rfl) rfl ?_
        refine wl_on rfl rfl h64 ?_
        refine wl_v (o_pick_t rfl h65 rfl) rfl ?_
        refine wl_v (o_pick_f rfl h64 rfl) rfl ?_
        refine wl_nil ?_
        exact wk_then (wk_mid trivial ⟨rfl, rfl, fb (by first | (simp only [h64, h65, Bool.true_and, Bool.false_and, Bool.true_or, Bool.false_or, Bool.and_true, Bool.and_false, Bool.or_true, Bool.or_false, Bool.not_true, Bool.not_false, cond_true, cond_false, if_true, if_false, reduceIte, Bool.false_eq_true]; done) | (simp only [Bool.true_and, Bool.false_and, Bool.true_or, Bool.false_or, Bool.and_true, Bool.and_false, Bool.or_true, Bool.or_false, Bool.not_true, Bool.not_false, cond_true, cond_false, if_true, if_false, reduceIte, Bool.false_eq_true]; done) | simp [h64, h65]), trivial⟩ .slnil)
      · have g65 := h65; try simp only [decide_eq_true_eq, decide_eq_false_iff_not] at g65
        have f65 := h65; try simp only [decide_eq_true_eq, decide_eq_false_iff_not, Bool.and_eq_true, Bool.or_eq_true, Bool.not_eq_true', Bool.not_eq_false', Bool.and_eq_false_iff, Bool.or_eq_false_iff, not_or, Int.not_lt, Int.not_le] at f65
        refine wl_off rfl rfl h65 rfl ?_
        refine wl_off rfl rfl h65 rfl ?_
        refine wl_on rfl rfl h64 ?_
        refine wl_v (o_pick_f rfl h65 rfl) rfl ?_
        refine wl_v (o_pick_f rfl h64 rfl) rfl ?_
        refine wl_nil ?_
        exact wk_then (wk_mid trivial ⟨rfl, rfl, fb (by first | (simp only [h64, h65, Bool.true_and, Bool.false_and, Bool.true_or, Bool.false_or, Bool.and_true, Bool.and_false, Bool.or_true, Bool.or_false, Bool.not_true, Bool.not_false, cond_true, cond_false, if_true, if_false, reduceIte, Bool.false_eq_true]; done) | (simp only [Bool.true_and, Bool.false_and, Bool.true_or, Bool.false_or, Bool.and_true, Bool.and_false, Bool.or_true, Bool.or_false, Bool.not_true, Bool.not_false, cond_true, cond_false, if_true, if_false, reduceIte, Bool.false_eq_true]; done) | simp [h64, h65]), trivial⟩ .slnil)
  refine wc_cond (b := ((decide ((dg) = (([] : List UInt8)))) || ((decide ((bat dg 0) = (48))) && (!(decide ((p) = (([48] : List UInt8)))))))) rfl (fun h67 => ?_) (fun h67 => ?_)
  · have g67 := h67; try simp only [decide_eq_true_eq, decide_eq_false_iff_not] at g67
    have f67 := h67; try simp only [decide_eq_true_eq, decide_eq_false_iff_not, Bool.and_eq_true, Bool.or_eq_true, Bool.not_eq_true', Bool.not_eq_false', Bool.and_eq_false_iff, Bool.or_eq_false_iff, not_or, Int.not_lt, Int.not_le] at f67
    refine wc_seq ?_
    refine wc_region ?_
    refine wl_v (o_assign rfl) rfl ?_
    refine wl_nil ?_
    refine wk_then (wc_of_wk ?_)
    refine wc_ret ?_
    refine wk_then_ret ?_
    refine wk_ret (r_1 rfl rfl) ?_
    exact retv (by simp only [decS, hdg, h67]; rfl)
  · have g67 := h67; try simp only [decide_eq_true_eq, decide_eq_false_iff_not] at g67
    have f67 := h67; try simp only [decide_eq_true_eq, decide_eq_false_iff_not, Bool.and_eq_true, Bool.or_eq_true, Bool.not_eq_true', Bool.not_eq_false', Bool.and_eq_false_iff, Bool.or_eq_false_iff, not_or, Int.not_lt, Int.not_le] at f67
    refine wc_skip ?_
    refine wk_then (wc_of_wk ?_)
    refine wc_seq ?_
    refine wc_seq ?_
    refine wc_region ?_
    refine wl_v (o_move rfl) rfl ?_
    refine wl_v (o_len_s Tryd.underlying9 rfl) rfl ?_
    refine wl_v (o_move rfl) rfl ?_
    refine wl_nil ?_
    refine wk_then (wc_of_wk ?_)
    refine wc_block ?_
    refine wc_loop (S := Nat) (fun (k : Nat) => k ≤ dg.length ∧ allFrom digCh 0 dg = allFrom digCh k (dg.drop k)) (fun (k : Nat) => [(29, .int .i64 ((k : Int))), (3, .string (B (dg))), (28, .int .i64 ((dg.length : Int)))]) (fun (k : Nat) => []) (fun (k : Nat) => dg.length - k) (0) ?_ ⟨fi (by first | rfl | (simp; done) | omega | (simp; omega)), rfl, rfl, trivial⟩ .slnil ?_
    · exact ⟨Nat.zero_le _, by simp⟩
    rintro k hi0
    refine wc_seq ?_
    refine wc_region ?_
    refine wl_v (o_lt rfl rfl) rfl ?_
    refine wl_nil ?_
    refine wk_then (wc_of_wk ?_)
    refine wc_seq ?_
    refine wc_cond (b := decide (((k : Int)) < ((dg.length : Int)))) rfl (fun h68 => ?_) (fun h68 => ?_)
    · have g68 := h68; try simp only [decide_eq_true_eq, decide_eq_false_iff_not] at g68
      have f68 := h68; try simp only [decide_eq_true_eq, decide_eq_false_iff_not, Bool.and_eq_true, Bool.or_eq_true, Bool.not_eq_true', Bool.not_eq_false', Bool.and_eq_false_iff, Bool.or_eq_false_iff, not_or, Int.not_lt, Int.not_le] at f68
      refine wc_skip ?_
      refine wk_then (wc_of_wk ?_)
      refine wc_seq ?_
      refine wc_block ?_
      refine wc_seq ?_
      refine wc_region ?_
      refine wl_v (o_move rfl) rfl ?_
      refine wl_v (o_assign rfl) rfl ?_
      refine wl_nil ?_
      refine wk_then (wc_of_wk ?_)
      refine wc_seq_mid [(3, .string (B (dg))), (4, .int .i64 ((k : Int))), (28, .int .i64 ((dg.length : Int))), (29, .int .i64 ((k : Int))), (30, .bool (decide (((k : Int)) < ((dg.length : Int))))), (31, .int .i64 ((k : Int))), (32, .string (B (dg))), (33, .int .i64 ((k : Int))), (34, .int .u8 (bat dg (k : Int))), (35, .bool (decide ((bat dg (k : Int)) < (48)))), (36, .bool (decide ((bat dg (k : Int)) < (48)))), (41, .bool (((decide ((bat dg (k : Int)) < (48))) || (decide ((57) < (bat dg (k : Int)))))))] [] (φ := True) ?_ (fun hm69 => ?_)
      · refine wc_region ?_
        refine wl_v (o_move rfl) rfl ?_
        refine wl_v (o_move rfl) rfl ?_
        refine wl_v (o_index_b Tryd.underlying9 rfl rfl (by first | omega | exact len_pos (by assumption)) (by first | omega | exact len_pos (by assumption))) rfl ?_
        refine wl_v (o_lt rfl rfl) rfl ?_
        refine wl_v (o_move rfl) rfl ?_
        refine bsplit (decide ((bat dg (k : Int)) < (48))) (fun h69 => ?_) (fun h69 => ?_)
        · have g69 := h69; try simp only [decide_eq_true_eq, decide_eq_false_iff_not] at g69
          have f69 := h69; try simp only [decide_eq_true_eq, decide_eq_false_iff_not, Bool.and_eq_true, Bool.or_eq_true, Bool.not_eq_true', Bool.not_eq_false', Bool.and_eq_false_iff, Bool.or_eq_false_iff, not_or, Int.not_lt, Int.not_le] at f69
          refine wl_off rfl rfl h69 rfl ?_
          refine wl_off rfl rfl h69 rfl ?_
          refine wl_off rfl rfl h69 rfl ?_
          refine wl_off rfl rfl h69 rfl ?_
          refine wl_v (o_pick_t rfl h69 rfl) rfl ?_
          refine wl_nil ?_
          exact wk_then (wk_mid trivial ⟨rfl, rfl, rfl, rfl, rfl, rfl, rfl, rfl, rfl, rfl, rfl, fb (by first | (simp only [h67, h68, h69, Bool.true_and, Bool.false_and, Bool.true_or, Bool.false_or, Bool.and_true, Bool.and_false, Bool.or_true, Bool.or_false, Bool.not_true, Bool.not_false, cond_true, cond_false, if_true, if_false, reduceIte, Bool.false_eq_true]; done) | (simp only [Bool.true_and, Bool.false_and, Bool.true_or, Bool.false_or, Bool.and_true, Bool.and_false, Bool.or_true, Bool.or_false, Bool.not_true, Bool.not_false, cond_true, cond_false, if_true, if_false, reduceIte, Bool.false_eq_true]; done) | simp [h67, h68, h69]), trivial⟩ .slnil)
        · have g69 := h69; try simp only [decide_eq_true_eq, decide_eq_false_iff_not] at g69
          have f69 := h69; try simp only [decide_eq_true_eq, decide_eq_false_iff_not, Bool.and_eq_true, Bool.or_eq_true, Bool.not_eq_true', Bool.not_eq_false', Bool.and_eq_false_iff, Bool.or_eq_false_iff, not_or, Int.not_lt, Int.not_le] at f69
          refine wl_on rfl rfl h69 ?_
          refine wl_v (o_move rfl) rfl ?_
          refine wl_on rfl rfl h69 ?_
          refine wl_v (o_move rfl) rfl ?_
          refine wl_on rfl rfl h69 ?_
          refine wl_v (o_index_b Tryd.underlying9 rfl rfl (by first | omega | exact len_pos (by assumption)) (by first | omega | exact len_pos (by assumption))) rfl ?_
          refine wl_on rfl rfl h69 ?_
          refine wl_v (o_gt rfl rfl) rfl ?_
          refine wl_v (o_pick_f rfl h69 rfl) rfl ?_
          refine wl_nil ?_
          exact wk_then (wk_mid trivial ⟨rfl, rfl, rfl, rfl, rfl, rfl, rfl, rfl, rfl, rfl, rfl, fb (by first | (simp only [h67, h68, h69, Bool.true_and, Bool.false_and, Bool.true_or, Bool.false_or, Bool.and_true, Bool.and_false, Bool.or_true, Bool.or_false, Bool.not_true, Bool.not_false, cond_true, cond_false, if_true, if_false, reduceIte, Bool.false_eq_true]; done) | (simp only [Bool.true_and, Bool.false_and, Bool.true_or, Bool.false_or, Bool.and_true, Bool.and_false, Bool.or_true, Bool.or_false, Bool.not_true, Bool.not_false, cond_true, cond_false, if_true, if_false, reduceIte, Bool.false_eq_true]; done) | simp [h67, h68, h69]), trivial⟩ .slnil)
      refine wc_cond (b := ((decide ((bat dg (k : Int)) < (48))) || (decide ((57) < (bat dg (k : Int)))))) rfl (fun h71 => ?_) (fun h71 => ?_)
      · have g71 := h71; try simp only [decide_eq_true_eq, decide_eq_false_iff_not] at g71
        have f71 := h71; try simp only [decide_eq_true_eq, decide_eq_false_iff_not, Bool.and_eq_true, Bool.or_eq_true, Bool.not_eq_true', Bool.not_eq_false', Bool.and_eq_false_iff, Bool.or_eq_false_iff, not_or, Int.not_lt, Int.not_le] at f71
        refine wc_seq ?_
        refine wc_region ?_
        refine wl_v (o_assign rfl) rfl ?_
        refine wl_nil ?_
        refine wk_then (wc_of_wk ?_)
        refine wc_ret ?_
        refine wk_in_ret ?_
        refine wk_then_ret ?_
        refine wk_then_ret ?_
        refine wk_in_ret ?_
        refine wk_then_ret ?_
        refine wk_ret (r_1 rfl rfl) ?_
        exact retv (by simp [decS, hdg, dig_no hi0 g68 h71])
      · have g71 := h71; try simp only [decide_eq_true_eq, decide_eq_false_iff_not] at g71
        have f71 := h71; try simp only [decide_eq_true_eq, decide_eq_false_iff_not, Bool.and_eq_true, Bool.or_eq_true, Bool.not_eq_true', Bool.not_eq_false', Bool.and_eq_false_iff, Bool.or_eq_false_iff, not_or, Int.not_lt, Int.not_le] at f71
        refine wc_skip ?_
        refine wk_in_norm ?_
        refine wk_then (wc_of_wk ?_)
        refine wc_region ?_
        refine wl_v (o_add rfl rfl (IntWalk.i64_in _ (by omega))) rfl ?_
        refine wl_v (o_move rfl) rfl ?_
        refine wl_nil ?_
        refine wk_then ?_
        refine wk_some (k + 1) ?_ ⟨fi (by first | rfl | (simp; done) | omega | (simp; omega)), rfl, rfl, trivial⟩ .slnil
        exact dig_next hi0 g68 h71
    · have g68 := h68; try simp only [decide_eq_true_eq, decide_eq_false_iff_not] at g68
      have f68 := h68; try simp only [decide_eq_true_eq, decide_eq_false_iff_not, Bool.and_eq_true, Bool.or_eq_true, Bool.not_eq_true', Bool.not_eq_false', Bool.and_eq_false_iff, Bool.or_eq_false_iff, not_or, Int.not_lt, Int.not_le] at f68
      refine wc_exit ?_
      refine wk_then_exit ?_
      refine wk_then_exit ?_
      refine wk_in_hit ?_
      refine wk_then (wc_of_wk ?_)
      refine wc_seq ?_
      refine wc_region ?_
      refine wl_v (o_assign rfl) rfl ?_
      refine wl_nil ?_
      refine wk_then (wc_of_wk ?_)
      refine wc_ret ?_
      refine wk_ret (r_1 rfl rfl) ?_
      exact retv (by simp only [decS, hdg, h67, dig_yes hi0 g68]; rfl)

theorem format_c (m : Int) (h0 : -9223372036854775808 ≤ m) (h1 : m ≤ 9223372036854775807) (w : World) (hE : Env w) : Calls Tryd.prog 30 [.int .i64 (m)].toArray w (RetV w (.string (B (Lib.itoa m)))) := by
  refine enter0 (n := 5) Tryd.func30 rfl Tryd.ntmps30 rfl ?_
  refine wc_seq ?_
  refine wc_region ?_
  refine wl_v (o_assign rfl) rfl ?_
  refine wl_nil ?_
  refine wk_then (wc_of_wk ?_)
  refine wc_seq ?_
  refine wc_region ?_
  refine wl_v (o_move rfl) rfl ?_
  refine w_call Tryd.call43 rfl (fun w hw => itoa_c m (by omega) (by omega) w (hE.st0 hw)) rfl ?_
  refine wl_v (o_assign rfl) rfl ?_
  refine wl_nil ?_
  refine wk_then (wc_of_wk ?_)
  refine wc_ret ?_
  refine wk_ret (r_1 rfl rfl) ?_
  exact retv (by first | rfl | simp [])

theorem parse_c (p : List UInt8) (hp : p.length ≤ 281474976710656) (w : World) (hE : Env w) : Calls Tryd.prog 32 [.string (B (p))].toArray w (RetV w (.tuple #[.int .i64 (parseV p), .int .i64 (parseE p)])) := by
  refine enter0 (n := 22) Tryd.func32 rfl Tryd.ntmps32 rfl ?_
  refine wc_seq ?_
  refine wc_region ?_
  refine wl_v (o_assign rfl) rfl ?_
  refine wl_v (o_assign rfl) rfl ?_
  refine wl_nil ?_
  refine wk_then (wc_of_wk ?_)
  refine wc_seq ?_
  refine wc_seq ?_
  refine wc_region ?_
  refine wl_v (o_move rfl) rfl ?_
  refine w_call Tryd.call45 rfl (fun w hw => decimal_c p (by first | omega | (simp; done) | (simp; omega) | (simp at *; omega)) w) rfl ?_
  refine wl_v (o_not rfl) rfl ?_
  refine wl_nil ?_
  refine wk_then (wc_of_wk ?_)
  refine wc_cond (b := !(decS p)) rfl (fun h72 => ?_) (fun h72 => ?_)
  · have g72 := h72; try simp only [decide_eq_true_eq, decide_eq_false_iff_not] at g72
    have f72 := h72; try simp only [decide_eq_true_eq, decide_eq_false_iff_not, Bool.and_eq_true, Bool.or_eq_true, Bool.not_eq_true', Bool.not_eq_false', Bool.and_eq_false_iff, Bool.or_eq_false_iff, not_or, Int.not_lt, Int.not_le] at f72
    refine wc_seq ?_
    refine wc_region ?_
    refine wl_v (o_assign rfl) rfl ?_
    refine wl_v (o_assign rfl) rfl ?_
    refine wl_nil ?_
    refine wk_then (wc_of_wk ?_)
    refine wc_ret ?_
    refine wk_then_ret ?_
    refine wk_ret (r_2 rfl rfl rfl) ?_
    exact retv (by simp [parseV, parseE, f72])
  · have g72 := h72; try simp only [decide_eq_true_eq, decide_eq_false_iff_not] at g72
    have f72 := h72; try simp only [decide_eq_true_eq, decide_eq_false_iff_not, Bool.and_eq_true, Bool.or_eq_true, Bool.not_eq_true', Bool.not_eq_false', Bool.and_eq_false_iff, Bool.or_eq_false_iff, not_or, Int.not_lt, Int.not_le] at f72
    refine wc_skip ?_
    refine wk_then (wc_of_wk ?_)
    refine wc_seq ?_
    refine wc_region ?_
    refine wl_v (o_move rfl) rfl ?_
    rcases atoi_dec (p := p) (by assumption) with ⟨av, hav, hal, hah⟩ | hav
    · refine w_call Tryd.call46 rfl (fun w _ => atoi_ok p (by first | omega | (simp; done) | (simp; omega) | (simp at *; omega)) av hav w) rfl ?_
      refine wl_v (o_move rfl) rfl ?_
      refine wl_v (o_extract rfl rfl) rfl ?_
      refine wl_v (o_extract rfl rfl) rfl ?_
      refine wl_v (o_assign rfl) rfl ?_
      refine wl_v (o_assign rfl) rfl ?_
      refine wl_nil ?_
      refine wk_then (wc_of_wk ?_)
      refine wc_seq ?_
      refine wc_seq_mid [(2, .int .i64 (0)), (3, .int .i64 (0)), (4, .int .i64 (av)), (20, .bool (!(validS av)))] [] (φ := True) ?_ (fun hm72 => ?_)
      · refine wc_region ?_
        refine wl_v (o_move rfl) rfl ?_
        refine wl_v (o_if_ne_nil Tryd.underlying54 rfl) rfl ?_
        refine wl_v (o_move rfl) rfl ?_
        refine wl_on rfl rfl rfl ?_
        refine wl_v (o_move rfl) rfl ?_
        refine wl_on rfl rfl rfl ?_
        refine w_call Tryd.call47 rfl (fun w hw => valid_c av w) rfl ?_
        refine wl_on rfl rfl rfl ?_
        refine wl_v (o_not rfl) rfl ?_
        refine wl_v (o_pick_f rfl rfl rfl) rfl ?_
        refine wl_nil ?_
        exact wk_then (wk_mid trivial ⟨rfl, rfl, rfl, rfl, trivial⟩ .slnil)
      refine wc_cond (b := !(validS av)) rfl (fun h74 => ?_) (fun h74 => ?_)
      · have g74 := h74; try simp only [decide_eq_true_eq, decide_eq_false_iff_not] at g74
        have f74 := h74; try simp only [decide_eq_true_eq, decide_eq_false_iff_not, Bool.and_eq_true, Bool.or_eq_true, Bool.not_eq_true', Bool.not_eq_false', Bool.and_eq_false_iff, Bool.or_eq_false_iff, not_or, Int.not_lt, Int.not_le] at f74
        refine wc_seq ?_
        refine wc_region ?_
        refine wl_v (o_assign rfl) rfl ?_
        refine wl_v (o_assign rfl) rfl ?_
        refine wl_nil ?_
        refine wk_then (wc_of_wk ?_)
        refine wc_ret ?_
        refine wk_then_ret ?_
        refine wk_ret (r_2 rfl rfl rfl) ?_
        exact retv (by simp [parseV, parseE, hav, f72, f74])
      · have g74 := h74; try simp only [decide_eq_true_eq, decide_eq_false_iff_not] at g74
        have f74 := h74; try simp only [decide_eq_true_eq, decide_eq_false_iff_not, Bool.and_eq_true, Bool.or_eq_true, Bool.not_eq_true', Bool.not_eq_false', Bool.and_eq_false_iff, Bool.or_eq_false_iff, not_or, Int.not_lt, Int.not_le] at f74
        refine wc_skip ?_
        refine wk_then (wc_of_wk ?_)
        refine wc_seq ?_
        refine wc_region ?_
        refine wl_v (o_move rfl) rfl ?_
        refine wl_v (o_assign rfl) rfl ?_
        refine wl_v (o_assign rfl) rfl ?_
        refine wl_nil ?_
        refine wk_then (wc_of_wk ?_)
        refine wc_ret ?_
        refine wk_ret (r_2 rfl rfl rfl) ?_
        exact retv (by simp [parseV, parseE, hav, f72, f74])
    · refine w_callM Tryd.call46 rfl (fun w hw => atoi_range p (by first | omega | (simp; done) | (simp; omega) | (simp at *; omega)) hav w (hE.st0 hw)) rfl ?_
      rintro _ _ ⟨am, at_, ab, rfl, rfl⟩
      refine wl_v (o_move rfl) rfl ?_
      refine wl_v (o_extract rfl rfl) rfl ?_
      refine wl_v (o_extract rfl rfl) rfl ?_
      refine wl_v (o_assign rfl) rfl ?_
      refine wl_v (o_assign rfl) rfl ?_
      refine wl_nil ?_
      refine wk_then (wc_of_wk ?_)
      refine wc_seq ?_
      refine wc_seq_mid [(2, .int .i64 (0)), (3, .int .i64 (0)), (4, .int .i64 (am)), (20, .bool (true))] [] (φ := True) ?_ (fun hm74 => ?_)
      · refine wc_region ?_
        refine wl_v (o_move rfl) rfl ?_
        refine wl_v (o_if_ne Tryd.underlying54 rfl) rfl ?_
        refine wl_v (o_move rfl) rfl ?_
        refine wl_off rfl rfl rfl rfl ?_
        refine wl_off rfl rfl rfl rfl ?_
        refine wl_off rfl rfl rfl rfl ?_
        refine wl_v (o_pick_t rfl rfl rfl) rfl ?_
        refine wl_nil ?_
        exact wk_then (wk_mid trivial ⟨rfl, rfl, rfl, rfl, trivial⟩ .slnil)
      refine wc_cond_t rfl rfl ?_
      refine wc_seq ?_
      refine wc_region ?_
      refine wl_v (o_assign rfl) rfl ?_
      refine wl_v (o_assign rfl) rfl ?_
      refine wl_nil ?_
      refine wk_then (wc_of_wk ?_)
      refine wc_ret ?_
      refine wk_then_ret ?_
      refine wk_ret (r_2 rfl rfl rfl) ?_
      exact retv (by simp [parseV, parseE, hav, f72])

theorem last0_c (p : List UInt8) (m : Int) (hp : p.length ≤ 281474976710656) (w : World) : Calls Tryd.prog 44 [.string (B (p)), .int .u8 (m)].toArray w (RetV w (.int .i64 (lastB p m))) := by
  refine enter0 (n := 19) Tryd.func44 rfl Tryd.ntmps44 rfl ?_
  refine wc_seq ?_
  refine wc_region ?_
  refine wl_v (o_assign rfl) rfl ?_
  refine wl_nil ?_
  refine wk_then (wc_of_wk ?_)
  refine wc_seq ?_
  refine wc_seq ?_
  refine wc_region ?_
  refine wl_v (o_move rfl) rfl ?_
  refine wl_v (o_len_s Tryd.underlying9 rfl) rfl ?_
  refine wl_v (o_sub rfl rfl (IntWalk.i64_in _ (by omega))) rfl ?_
  refine wl_v (o_assign rfl) rfl ?_
  refine wl_nil ?_
  refine wk_then (wc_of_wk ?_)
  refine wc_block ?_
  refine wc_loop (S := Nat) (fun (k : Nat) => k ≤ p.length ∧ lastB p m = lastIx p m k) (fun (k : Nat) => [(5, .int .i64 ((k : Int) - 1)), (0, .string (B (p))), (1, .int .u8 (m))]) (fun (k : Nat) => []) (fun (k : Nat) => k) (p.length) ?_ ⟨fi (by first | rfl | (simp; done) | omega | (simp; omega)), rfl, rfl, trivial⟩ .slnil ?_
  · exact ⟨Nat.le_refl _, rfl⟩
  rintro k hi0
  refine wc_seq ?_
  refine wc_seq ?_
  refine wc_region ?_
  refine wl_v (o_move rfl) rfl ?_
  refine wl_v (o_ge rfl rfl) rfl ?_
  refine wl_nil ?_
  refine wk_then (wc_of_wk ?_)
  refine wc_cond (b := decide ((0) ≤ ((k : Int) - 1))) rfl (fun h76 => ?_) (fun h76 => ?_)
  · have g76 := h76; try simp only [decide_eq_true_eq, decide_eq_false_iff_not] at g76
    have f76 := h76; try simp only [decide_eq_true_eq, decide_eq_false_iff_not, Bool.and_eq_true, Bool.or_eq_true, Bool.not_eq_true', Bool.not_eq_false', Bool.and_eq_false_iff, Bool.or_eq_false_iff, not_or, Int.not_lt, Int.not_le] at f76
    refine wc_skip ?_
    refine wk_then (wc_of_wk ?_)
    refine wc_seq ?_
    refine wc_block ?_
    refine wc_seq ?_
    refine wc_region ?_
    refine wl_v (o_move rfl) rfl ?_
    refine wl_v (o_move rfl) rfl ?_
    refine wl_v (o_index_b Tryd.underlying9 rfl rfl (by first | omega | (simp; omega) | (simp at *; omega)) (by first | omega | (simp; omega) | (simp at *; omega))) rfl ?_
    refine wl_v (o_move rfl) rfl ?_
    refine wl_v (o_eq rfl rfl) rfl ?_
    refine wl_nil ?_
    refine wk_then (wc_of_wk ?_)
    refine wc_cond (b := decide ((bat p ((k : Int) - 1)) = (m))) rfl (fun h77 => ?_) (fun h77 => ?_)
    · have g77 := h77; try simp only [decide_eq_true_eq, decide_eq_false_iff_not] at g77
      have f77 := h77; try simp only [decide_eq_true_eq, decide_eq_false_iff_not, Bool.and_eq_true, Bool.or_eq_true, Bool.not_eq_true', Bool.not_eq_false', Bool.and_eq_false_iff, Bool.or_eq_false_iff, not_or, Int.not_lt, Int.not_le] at f77
      refine wc_seq ?_
      refine wc_region ?_
      refine wl_v (o_move rfl) rfl ?_
      refine wl_v (o_assign rfl) rfl ?_
      refine wl_nil ?_
      refine wk_then (wc_of_wk ?_)
      refine wc_ret ?_
      refine wk_in_ret ?_
      refine wk_then_ret ?_
      refine wk_then_ret ?_
      refine wk_in_ret ?_
      refine wk_then_ret ?_
      refine wk_ret (r_1 rfl rfl) ?_
      exact retv (by rw [← last_hit hi0 g76 g77])
    · have g77 := h77; try simp only [decide_eq_true_eq, decide_eq_false_iff_not] at g77
      have f77 := h77; try simp only [decide_eq_true_eq, decide_eq_false_iff_not, Bool.and_eq_true, Bool.or_eq_true, Bool.not_eq_true', Bool.not_eq_false', Bool.and_eq_false_iff, Bool.or_eq_false_iff, not_or, Int.not_lt, Int.not_le] at f77
      refine wc_skip ?_
      refine wk_in_norm ?_
      refine wk_then (wc_of_wk ?_)
      refine wc_region ?_
      refine wl_v (o_move rfl) rfl ?_
      refine wl_v (o_sub rfl rfl (IntWalk.i64_in _ (by omega))) rfl ?_
      refine wl_v (o_assign rfl) rfl ?_
      refine wl_nil ?_
      refine wk_then ?_
      refine wk_some (k - 1) ?_ ⟨fi (by first | rfl | (simp; done) | omega | (simp; omega)), rfl, rfl, trivial⟩ .slnil
      exact last_next hi0 g76 g77
  · have g76 := h76; try simp only [decide_eq_true_eq, decide_eq_false_iff_not] at g76
    have f76 := h76; try simp only [decide_eq_true_eq, decide_eq_false_iff_not, Bool.and_eq_true, Bool.or_eq_true, Bool.not_eq_true', Bool.not_eq_false', Bool.and_eq_false_iff, Bool.or_eq_false_iff, not_or, Int.not_lt, Int.not_le] at f76
    refine wc_exit ?_
    refine wk_then_exit ?_
    refine wk_then_exit ?_
    refine wk_in_hit ?_
    refine wk_then (wc_of_wk ?_)
    refine wc_seq ?_
    refine wc_region ?_
    refine wl_v (o_assign rfl) rfl ?_
    refine wl_nil ?_
    refine wk_then (wc_of_wk ?_)
    refine wc_ret ?_
    refine wk_ret (r_1 rfl rfl) ?_
    exact retv (by rw [← last_end hi0 g76])

theorem last_c (p : List UInt8) (m : Int) (hp : p.length ≤ 281474976710656) (w : World) : Calls Tryd.prog 31 [.string (B (p)), .int .u8 (m)].toArray w (RetV w (.int .i64 (lastB p m))) := by
  refine enter0 (n := 8) Tryd.func31 rfl Tryd.ntmps31 rfl ?_
  refine wc_seq ?_
  refine wc_region ?_
  refine wl_v (o_assign rfl) rfl ?_
  refine wl_nil ?_
  refine wk_then (wc_of_wk ?_)
  refine wc_seq ?_
  refine wc_region ?_
  refine wl_v (o_move rfl) rfl ?_
  refine wl_v (o_move rfl) rfl ?_
  refine w_call Tryd.call44 rfl (fun w hw => last0_c p m (by first | omega | (simp; done) | (simp; omega) | (simp at *; omega)) w) rfl ?_
  refine wl_v (o_assign rfl) rfl ?_
  refine wl_nil ?_
  refine wk_then (wc_of_wk ?_)
  refine wc_ret ?_
  refine wk_ret (r_1 rfl rfl) ?_
  exact retv (by first | rfl | simp [])

theorem version_c (p : List UInt8) (hp : p.length ≤ 281474976710656) (w : World) (hE : Env w) : Calls Tryd.prog 28 [.string (B (p))].toArray w (RetV w (.bool (versionS p))) := by
  refine enter0 (n := 20) Tryd.func28 rfl Tryd.ntmps28 rfl ?_
  refine wc_seq ?_
  refine wc_region ?_
  refine wl_v (o_assign rfl) rfl ?_
  refine wl_nil ?_
  refine wk_then (wc_of_wk ?_)
  refine wc_seq ?_
  refine wc_region ?_
  refine wl_v (o_move rfl) rfl ?_
  refine w_call Tryd.call32 rfl (fun w hw => parse_c p (by first | omega | (simp; done) | (simp; omega) | (simp at *; omega)) w (hE.st0 hw)) rfl ?_
  have ft78 := parse_bd p
  refine wl_v (o_move rfl) rfl ?_
  refine wl_v (o_extract rfl rfl) rfl ?_
  refine wl_v (o_extract rfl rfl) rfl ?_
  refine wl_v (o_assign rfl) rfl ?_
  refine wl_v (o_assign rfl) rfl ?_
  refine wl_nil ?_
  refine wk_then (wc_of_wk ?_)
  refine wc_seq_mid [(2, .bool (((decide ((parseE p) = (0))) && ((decide ((1) ≤ (parseV p))) && (decide ((parseV p) ≤ (32)))))))] [] (φ := True) ?_ (fun hm80 => ?_)
  · refine wc_region ?_
    refine wl_v (o_move rfl) rfl ?_
    refine wl_v (o_eq rfl rfl) rfl ?_
    refine wl_v (o_move rfl) rfl ?_
    refine bsplit (decide ((parseE p) = (0))) (fun h79 => ?_) (fun h79 => ?_)
    · have g79 := h79; try simp only [decide_eq_true_eq, decide_eq_false_iff_not] at g79
      have f79 := h79; try simp only [decide_eq_true_eq, decide_eq_false_iff_not, Bool.and_eq_true, Bool.or_eq_true, Bool.not_eq_true', Bool.not_eq_false', Bool.and_eq_false_iff, Bool.or_eq_false_iff, not_or, Int.not_lt, Int.not_le] at f79
      refine wl_on rfl rfl h79 ?_
      refine wl_v (o_move rfl) rfl ?_
      refine wl_on rfl rfl h79 ?_
      refine wl_v (o_ge rfl rfl) rfl ?_
      refine wl_v (o_pick_t rfl h79 rfl) rfl ?_
      refine wl_v (o_move rfl) rfl ?_
      refine bsplit (decide ((1) ≤ (parseV p))) (fun h80 => ?_) (fun h80 => ?_)
      · have g80 := h80; try simp only [decide_eq_true_eq, decide_eq_false_iff_not] at g80
        have f80 := h80; try simp only [decide_eq_true_eq, decide_eq_false_iff_not, Bool.and_eq_true, Bool.or_eq_true, Bool.not_eq_true', Bool.not_eq_false', Bool.and_eq_false_iff, Bool.or_eq_false_iff, not_or, Int.not_lt, Int.not_le] at f80
        refine wl_on rfl rfl h80 ?_
        refine wl_v (o_move rfl) rfl ?_
        refine wl_on rfl rfl h80 ?_
        refine wl_v (o_le rfl rfl) rfl ?_
        refine wl_v (o_pick_t rfl h80 rfl) rfl ?_
        refine wl_v (o_assign rfl) rfl ?_
        refine wl_nil ?_
        exact wk_then (wk_mid trivial ⟨fb (by first | (simp only [h79, h80, Bool.true_and, Bool.false_and, Bool.true_or, Bool.false_or, Bool.and_true, Bool.and_false, Bool.or_true, Bool.or_false, Bool.not_true, Bool.not_false, cond_true, cond_false, if_true, if_false, reduceIte, Bool.false_eq_true]; done) | (simp only [Bool.true_and, Bool.false_and, Bool.true_or, Bool.false_or, Bool.and_true, Bool.and_false, Bool.or_true, Bool.or_false, Bool.not_true, Bool.not_false, cond_true, cond_false, if_true, if_false, reduceIte, Bool.false_eq_true]; done) | simp [h79, h80]), trivial⟩ .slnil)
      · have g80 := h80; try simp only [decide_eq_true_eq, decide_eq_false_iff_not] at g80
        have f80 := h80; try simp only [decide_eq_true_eq, decide_eq_false_iff_not, Bool.and_eq_true, Bool.or_eq_true, Bool.not_eq_true', Bool.not_eq_false', Bool.and_eq_false_iff, Bool.or_eq_false_iff, not_or, Int.not_lt, Int.not_le] at f80
        refine wl_off rfl rfl h80 rfl ?_
        refine wl_off rfl rfl h80 rfl ?_
        refine wl_v (o_pick_f rfl h80 rfl) rfl ?_
        refine wl_v (o_assign rfl) rfl ?_
        refine wl_nil ?_
        exact wk_then (wk_mid trivial ⟨fb (by first | (simp only [h79, h80, Bool.true_and, Bool.false_and, Bool.true_or, Bool.false_or, Bool.and_true, Bool.and_false, Bool.or_true, Bool.or_false, Bool.not_true, Bool.not_false, cond_true, cond_false, if_true, if_false, reduceIte, Bool.false_eq_true]; done) | (simp only [Bool.true_and, Bool.false_and, Bool.true_or, Bool.false_or, Bool.and_true, Bool.and_false, Bool.or_true, Bool.or_false, Bool.not_true, Bool.not_false, cond_true, cond_false, if_true, if_false, reduceIte, Bool.false_eq_true]; done) | simp [h79, h80]), trivial⟩ .slnil)
    · have g79 := h79; try simp only [decide_eq_true_eq, decide_eq_false_iff_not] at g79
      have f79 := h79; try simp only [decide_eq_true_eq, decide_eq_false_iff_not, Bool.and_eq_true, Bool.or_eq_true, Bool.not_eq_true', Bool.not_eq_false', Bool.and_eq_false_iff, Bool.or_eq_false_iff, not_or, Int.not_lt, Int.not_le] at f79
      refine wl_off rfl rfl h79 rfl ?_
      refine wl_off rfl rfl h79 rfl ?_
      refine wl_v (o_pick_f rfl h79 rfl) rfl ?_
      refine wl_v (o_move rfl) rfl ?_
      refine wl_off rfl rfl rfl rfl ?_
      refine wl_off rfl rfl rfl rfl ?_
      refine wl_v (o_pick_f rfl rfl rfl) rfl ?_
      refine wl_v (o_assign rfl) rfl ?_
      refine wl_nil ?_
      exact wk_then (wk_mid trivial ⟨fb (by first | (simp only [h79, Bool.true_and, Bool.false_and, Bool.true_or, Bool.false_or, Bool.and_true, Bool.and_false, Bool.or_true, Bool.or_false, Bool.not_true, Bool.not_false, cond_true, cond_false, if_true, if_false, reduceIte, Bool.false_eq_true]; done) | (simp only [Bool.true_and, Bool.false_and, Bool.true_or, Bool.false_or, Bool.and_true, Bool.and_false, Bool.or_true, Bool.or_false, Bool.not_true, Bool.not_false, cond_true, cond_false, if_true, if_false, reduceIte, Bool.false_eq_true]; done) | simp [h79]), trivial⟩ .slnil)
  refine wc_ret ?_
  refine wk_ret (r_1 rfl rfl) ?_
  exact retv (by simp [versionS, Bool.and_assoc])

theorem ref_c (t : List UInt8) (f : List UInt8) (q : List UInt8) (ht : t.length ≤ 281474976710656) (hf : f.length ≤ 281474976710656) (hq : q.length ≤ 281474976710656) (w : World) (hE : Env w) : Calls Tryd.prog 15 [.string (B (t)), .string (B (f)), .string (B (q))].toArray w (RetV w (.tuple #[.string (B (refV t f q)), .int .i64 (refE t f q)])) := by
  refine enter0 (n := 33) Tryd.func15 rfl Tryd.ntmps15 rfl ?_
  refine wc_seq ?_
  refine wc_region ?_
  refine wl_v (o_assign rfl) rfl ?_
  refine wl_v (o_assign rfl) rfl ?_
  refine wl_nil ?_
  refine wk_then (wc_of_wk ?_)
  refine wc_seq ?_
  refine wc_seq_mid [(0, .string (B (t))), (1, .string (B (f))), (2, .string (B (q))), (6, .string (B ([]))), (7, .int .i64 (0)), (25, .bool (((!(nameS t)) || ((!(nameS f)) || ((!(nameS q)) && (!(versionS q)))))))] [] (φ := True) ?_ (fun hm84 => ?_)
  · refine wc_region ?_
    refine wl_v (o_move rfl) rfl ?_
    refine w_call Tryd.call20 rfl (fun w hw => name_c t w) rfl ?_
    refine wl_v (o_not rfl) rfl ?_
    refine wl_v (o_move rfl) rfl ?_
    refine bsplit (!(nameS t)) (fun h82 => ?_) (fun h82 => ?_)
    · have g82 := h82; try simp only [decide_eq_true_eq, decide_eq_false_iff_not] at g82
      have f82 := h82; try simp only [decide_eq_true_eq, decide_eq_false_iff_not, Bool.and_eq_true, Bool.or_eq_true, Bool.not_eq_true', Bool.not_eq_false', Bool.and_eq_false_iff, Bool.or_eq_false_iff, not_or, Int.not_lt, Int.not_le] at f82
      refine wl_off rfl rfl h82 rfl ?_
      refine wl_off rfl rfl h82 rfl ?_
      refine wl_off rfl rfl h82 rfl ?_
      refine wl_v (o_pick_t rfl h82 rfl) rfl ?_
      refine wl_v (o_move rfl) rfl ?_
      refine wl_off rfl rfl rfl rfl ?_
      refine wl_off rfl rfl rfl rfl ?_
      refine wl_off rfl rfl rfl rfl ?_
      refine wl_off rfl rfl rfl rfl ?_
      refine wl_off_u rfl rfl rfl ?_
      refine wl_off_u rfl rfl rfl ?_
      refine wl_off_u rfl rfl rfl ?_
      refine wl_off rfl rfl rfl rfl ?_
      refine wl_v (o_pick_t rfl rfl rfl) rfl ?_
      refine wl_nil ?_
      exact wk_then (wk_mid trivial ⟨rfl, rfl, rfl, rfl, rfl, fb (by first | (simp only [h82, Bool.true_and, Bool.false_and, Bool.true_or, Bool.false_or, Bool.and_true, Bool.and_false, Bool.or_true, Bool.or_false, Bool.not_true, Bool.not_false, cond_true, cond_false, if_true, if_false, reduceIte, Bool.false_eq_true]; done) | (simp only [Bool.true_and, Bool.false_and, Bool.true_or, Bool.false_or, Bool.and_true, Bool.and_false, Bool.or_true, Bool.or_false, Bool.not_true, Bool.not_false, cond_true, cond_false, if_true, if_false, reduceIte, Bool.false_eq_true]; done) | simp [h82]), trivial⟩ .slnil)
    · have g82 := h82; try simp only [decide_eq_true_eq, decide_eq_false_iff_not] at g82
      have f82 := h82; try simp only [decide_eq_true_eq, decide_eq_false_iff_not, Bool.and_eq_true, Bool.or_eq_true, Bool.not_eq_true', Bool.not_eq_false', Bool.and_eq_false_iff, Bool.or_eq_false_iff, not_or, Int.not_lt, Int.not_le] at f82
      refine wl_on rfl rfl h82 ?_
      refine wl_v (o_move rfl) rfl ?_
      refine wl_on rfl rfl h82 ?_
      refine w_call Tryd.call20 rfl (fun w hw => name_c f w) rfl ?_
      refine wl_on rfl rfl h82 ?_
      refine wl_v (o_not rfl) rfl ?_
      refine wl_v (o_pick_f rfl h82 rfl) rfl ?_
      refine wl_v (o_move rfl) rfl ?_
      refine bsplit (!(nameS f)) (fun h83 => ?_) (fun h83 => ?_)
      · have g83 := h83; try simp only [decide_eq_true_eq, decide_eq_false_iff_not] at g83
        have f83 := h83; try simp only [decide_eq_true_eq, decide_eq_false_iff_not, Bool.and_eq_true, Bool.or_eq_true, Bool.not_eq_true', Bool.not_eq_false', Bool.and_eq_false_iff, Bool.or_eq_false_iff, not_or, Int.not_lt, Int.not_le] at f83
        refine wl_off rfl rfl h83 rfl ?_
        refine wl_off rfl rfl h83 rfl ?_
        refine wl_off rfl rfl h83 rfl ?_
        refine wl_off rfl rfl h83 rfl ?_
        refine wl_off_u rfl rfl rfl ?_
        refine wl_off_u rfl rfl rfl ?_
        refine wl_off_u rfl rfl rfl ?_
        refine wl_off rfl rfl h83 rfl ?_
        refine wl_v (o_pick_t rfl h83 rfl) rfl ?_
        refine wl_nil ?_
        exact wk_then (wk_mid trivial ⟨rfl, rfl, rfl, rfl, rfl, fb (by first | (simp only [h82, h83, Bool.true_and, Bool.false_and, Bool.true_or, Bool.false_or, Bool.and_true, Bool.and_false, Bool.or_true, Bool.or_false, Bool.not_true, Bool.not_false, cond_true, cond_false, if_true, if_false, reduceIte, Bool.false_eq_true]; done) | (simp only [Bool.true_and, Bool.false_and, Bool.true_or, Bool.false_or, Bool.and_true, Bool.and_false, Bool.or_true, Bool.or_false, Bool.not_true, Bool.not_false, cond_true, cond_false, if_true, if_false, reduceIte, Bool.false_eq_true]; done) | simp [h82, h83]), trivial⟩ .slnil)
      · have g83 := h83; try simp only [decide_eq_true_eq, decide_eq_false_iff_not] at g83
        have f83 := h83; try simp only [decide_eq_true_eq, decide_eq_false_iff_not, Bool.and_eq_true, Bool.or_eq_true, Bool.not_eq_true', Bool.not_eq_false', Bool.and_eq_false_iff, Bool.or_eq_false_iff, not_or, Int.not_lt, Int.not_le] at f83
        refine wl_on rfl rfl h83 ?_
        refine wl_v (o_move rfl) rfl ?_
        refine wl_on rfl rfl h83 ?_
        refine w_call Tryd.call20 rfl (fun w hw => name_c q w) rfl ?_
        refine wl_on rfl rfl h83 ?_
        refine wl_v (o_not rfl) rfl ?_
        refine wl_on rfl rfl h83 ?_
        refine wl_v (o_move rfl) rfl ?_
        refine bsplit (!(nameS q)) (fun h84 => ?_) (fun h84 => ?_)
        · have g84 := h84; try simp only [decide_eq_true_eq, decide_eq_false_iff_not] at g84
          have f84 := h84; try simp only [decide_eq_true_eq, decide_eq_false_iff_not, Bool.and_eq_true, Bool.or_eq_true, Bool.not_eq_true', Bool.not_eq_false', Bool.and_eq_false_iff, Bool.or_eq_false_iff, not_or, Int.not_lt, Int.not_le] at f84
          refine wl_on rfl rfl h84 ?_
          refine wl_v (o_move rfl) rfl ?_
          refine wl_on rfl rfl h84 ?_
          refine w_call Tryd.call28 rfl (fun w hw => version_c q (by first | omega | (simp; done) | (simp; omega) | (simp at *; omega) | (split <;> first | omega | (simp; omega))) w (hE.st0 hw)) rfl ?_
          refine wl_on rfl rfl h84 ?_
          refine wl_v (o_not rfl) rfl ?_
          refine wl_on rfl rfl h83 ?_
          refine wl_v (o_pick_t rfl h84 rfl) rfl ?_
          refine wl_v (o_pick_f rfl h83 rfl) rfl ?_
          refine wl_nil ?_
          exact wk_then (wk_mid trivial ⟨rfl, rfl, rfl, rfl, rfl, fb (by first | (simp only [h82, h83, h84, Bool.true_and, Bool.false_and, Bool.true_or, Bool.false_or, Bool.and_true, Bool.and_false, Bool.or_true, Bool.or_false, Bool.not_true, Bool.not_false, cond_true, cond_false, if_true, if_false, reduceIte, Bool.false_eq_true]; done) | (simp only [Bool.true_and, Bool.false_and, Bool.true_or, Bool.false_or, Bool.and_true, Bool.and_false, Bool.or_true, Bool.or_false, Bool.not_true, Bool.not_false, cond_true, cond_false, if_true, if_false, reduceIte, Bool.false_eq_true]; done) | simp [h82, h83, h84]), trivial⟩ .slnil)
        · have g84 := h84; try simp only [decide_eq_true_eq, decide_eq_false_iff_not] at g84
          have f84 := h84; try simp only [decide_eq_true_eq, decide_eq_false_iff_not, Bool.and_eq_true, Bool.or_eq_true, Bool.not_eq_true', Bool.not_eq_false', Bool.and_eq_false_iff, Bool.or_eq_false_iff, not_or, Int.not_lt, Int.not_le] at f84
          refine wl_off rfl rfl h84 rfl ?_
          refine wl_off rfl rfl h84 rfl ?_
          refine wl_off rfl rfl h84 rfl ?_
          refine wl_on rfl rfl h83 ?_
          refine wl_v (o_pick_f rfl h84 rfl) rfl ?_
          refine wl_v (o_pick_f rfl h83 rfl) rfl ?_
          refine wl_nil ?_
          exact wk_then (wk_mid trivial ⟨rfl, rfl, rfl, rfl, rfl, fb (by first | (simp only [h82, h83, h84, Bool.true_and, Bool.false_and, Bool.true_or, Bool.false_or, Bool.and_true, Bool.and_false, Bool.or_true, Bool.or_false, Bool.not_true, Bool.not_false, cond_true, cond_false, if_true, if_false, reduceIte, Bool.false_eq_true]; done) | (simp only [Bool.true_and, Bool.false_and, Bool.true_or, Bool.false_or, Bool.and_true, Bool.and_false, Bool.or_true, Bool.or_false, Bool.not_true, Bool.not_false, cond_true, cond_false, if_true, if_false, reduceIte, Bool.false_eq_true]; done) | simp [h82, h83, h84]), trivial⟩ .slnil)
  refine wc_cond (b := ((!(nameS t)) || ((!(nameS f)) || ((!(nameS q)) && (!(versionS q)))))) rfl (fun h86 => ?_) (fun h86 => ?_)
  · have g86 := h86; try simp only [decide_eq_true_eq, decide_eq_false_iff_not] at g86
    have f86 := h86; try simp only [decide_eq_true_eq, decide_eq_false_iff_not, Bool.and_eq_true, Bool.or_eq_true, Bool.not_eq_true', Bool.not_eq_false', Bool.and_eq_false_iff, Bool.or_eq_false_iff, not_or, Int.not_lt, Int.not_le] at f86
    refine wc_seq ?_
    refine wc_region ?_
    refine wl_v (o_assign rfl) rfl ?_
    refine wl_v (o_assign rfl) rfl ?_
    refine wl_nil ?_
    refine wk_then (wc_of_wk ?_)
    refine wc_ret ?_
    refine wk_then_ret ?_
    refine wk_ret (r_2 rfl rfl rfl) ?_
    have hr : refOk t f q = false := by simp only [refOk]; revert f86; cases nameS t <;> cases nameS f <;> cases nameS q <;> cases versionS q <;> simp
    exact retv (by simp [refV, refE, hr, B])
  · have g86 := h86; try simp only [decide_eq_true_eq, decide_eq_false_iff_not] at g86
    have f86 := h86; try simp only [decide_eq_true_eq, decide_eq_false_iff_not, Bool.and_eq_true, Bool.or_eq_true, Bool.not_eq_true', Bool.not_eq_false', Bool.and_eq_false_iff, Bool.or_eq_false_iff, not_or, Int.not_lt, Int.not_le] at f86
    refine wc_skip ?_
    refine wk_then (wc_of_wk ?_)
    refine wc_seq ?_
    refine wc_region ?_
    refine wl_v (o_move rfl) rfl ?_
    refine wl_v (o_sadd rfl rfl (by simp; omega)) rfl ?_
    refine wl_v (o_move rfl) rfl ?_
    refine wl_v (o_sadd rfl rfl (by simp; omega)) rfl ?_
    refine wl_v (o_sadd rfl rfl (by simp; omega)) rfl ?_
    refine wl_v (o_move rfl) rfl ?_
    refine wl_v (o_sadd rfl rfl (by simp; omega)) rfl ?_
    refine wl_v (o_assign rfl) rfl ?_
    refine wl_v (o_assign rfl) rfl ?_
    refine wl_nil ?_
    refine wk_then (wc_of_wk ?_)
    refine wc_ret ?_
    refine wk_ret (r_2 rfl rfl rfl) ?_
    have hr : refOk t f q = true := by simp only [refOk]; revert f86; cases nameS t <;> cases nameS f <;> cases nameS q <;> cases versionS q <;> simp
    exact retv (by simp [refV, refE, hr, B])

theorem parseRef_c (p : List UInt8) (hp : p.length ≤ 281474976710656) (w : World) (hE : Env w) : Calls Tryd.prog 16 [.string (B (p))].toArray w (RetV w (.tuple #[.string (B (iff0 (prOk p) (prT p))), .string (B (iff0 (prOk p) (prF p))), .string (B (iff0 (prOk p) (prQ p))), .int .i64 ((if prOk p = true then (0 : Int) else 1))])) := by
  refine enter0 (n := 43) Tryd.func16 rfl Tryd.ntmps16 rfl ?_
  refine wc_seq ?_
  refine wc_region ?_
  refine wl_v (o_assign rfl) rfl ?_
  refine wl_v (o_assign rfl) rfl ?_
  refine wl_v (o_assign rfl) rfl ?_
  refine wl_v (o_assign rfl) rfl ?_
  refine wl_nil ?_
  refine wk_then (wc_of_wk ?_)
  refine wc_seq ?_
  refine wc_region ?_
  refine wl_v (o_move rfl) rfl ?_
  refine w_call Tryd.call29 rfl (fun w hw => cut_c p (47 : UInt8) (by first | omega | (simp; omega)) w) rfl ?_
  have ft87 := cutB_len p 47
  have ft88 := cutA_len p 47
  refine wl_v (o_move rfl) rfl ?_
  refine wl_v (o_extract rfl rfl) rfl ?_
  refine wl_v (o_extract rfl rfl) rfl ?_
  refine wl_v (o_extract rfl rfl) rfl ?_
  refine wl_v (o_assign rfl) rfl ?_
  refine wl_v (o_assign rfl) rfl ?_
  refine wl_v (o_assign rfl) rfl ?_
  refine wl_nil ?_
  refine wk_then (wc_of_wk ?_)
  refine wc_seq ?_
  refine wc_region ?_
  refine wl_v (o_move rfl) rfl ?_
  refine w_call Tryd.call29 rfl (fun w hw => cut_c (cutA p 47) (58 : UInt8) (by first | omega | (simp; omega)) w) rfl ?_
  have ft89 := cutB_len (cutA p 47) 58
  have ft90 := cutA_len (cutA p 47) 58
  refine wl_v (o_move rfl) rfl ?_
  refine wl_v (o_extract rfl rfl) rfl ?_
  refine wl_v (o_extract rfl rfl) rfl ?_
  refine wl_v (o_extract rfl rfl) rfl ?_
  refine wl_v (o_assign rfl) rfl ?_
  refine wl_v (o_assign rfl) rfl ?_
  refine wl_v (o_assign rfl) rfl ?_
  refine wl_nil ?_
  refine wk_then (wc_of_wk ?_)
  refine wc_seq ?_
  refine wc_seq ?_
  refine wc_region ?_
  refine wl_v (o_move rfl) rfl ?_
  refine wl_v (o_move rfl) rfl ?_
  refine wl_v (o_move rfl) rfl ?_
  refine w_call Tryd.call15 rfl (fun w hw => ref_c (cutB p 47) (cutB (cutA p 47) 58) (cutA (cutA p 47) 58) (by first | omega | (simp; done) | (simp; omega) | (simp at *; omega) | (split <;> first | omega | (simp; omega))) (by first | omega | (simp; done) | (simp; omega) | (simp at *; omega) | (split <;> first | omega | (simp; omega))) (by first | omega | (simp; done) | (simp; omega) | (simp at *; omega) | (split <;> first | omega | (simp; omega))) w (hE.st0 hw)) rfl ?_
  have ft91 := refV_len (cutB p 47) (cutB (cutA p 47) 58) (cutA (cutA p 47) 58)
  refine wl_v (o_move rfl) rfl ?_
  refine wl_v (o_extract rfl rfl) rfl ?_
  refine wl_v (o_extract rfl rfl) rfl ?_
  refine wl_v (o_assign rfl) rfl ?_
  refine wl_v (o_assign rfl) rfl ?_
  refine wl_nil ?_
  refine wk_then (wc_of_wk ?_)
  refine wc_seq_mid [(2, .string (B ([]))), (3, .string (B ([]))), (4, .string (B ([]))), (5, .int .i64 (0)), (6, .string (B (cutB p 47))), (9, .string (B (cutB (cutA p 47) 58))), (10, .string (B (cutA (cutA p 47) 58))), (39, .bool (((!(decide ((refE (cutB p 47) (cutB (cutA p 47) 58) (cutA (cutA p 47) 58)) = (0)))) || (!(decide (((refV (cutB p 47) (cutB (cutA p 47) 58) (cutA (cutA p 47) 58))) = (p)))))))] [] (φ := True) ?_ (fun hm92 => ?_)
  · refine wc_region ?_
    refine wl_v (o_move rfl) rfl ?_
    refine wl_v (o_ne rfl rfl) rfl ?_
    refine wl_v (o_move rfl) rfl ?_
    refine bsplit (!(decide ((refE (cutB p 47) (cutB (cutA p 47) 58) (cutA (cutA p 47) 58)) = (0)))) (fun h92 => ?_) (fun h92 => ?_)
    · have g92 := h92; try simp only [decide_eq_true_eq, decide_eq_false_iff_not] at g92
      have f92 := h92; try simp only [decide_eq_true_eq, decide_eq_false_iff_not, Bool.and_eq_true, Bool.or_eq_true, Bool.not_eq_true', Bool.not_eq_false', Bool.and_eq_false_iff, Bool.or_eq_false_iff, not_or, Int.not_lt, Int.not_le] at f92
      refine wl_off rfl rfl h92 rfl ?_
      refine wl_off rfl rfl h92 rfl ?_
      refine wl_off rfl rfl h92 rfl ?_
      refine wl_v (o_pick_t rfl h92 rfl) rfl ?_
      refine wl_nil ?_
      exact wk_then (wk_mid trivial ⟨rfl, rfl, rfl, rfl, rfl, rfl, rfl, fb (by first | (simp only [h92, Bool.true_and, Bool.false_and, Bool.true_or, Bool.false_or, Bool.and_true, Bool.and_false, Bool.or_true, Bool.or_false, Bool.not_true, Bool.not_false, cond_true, cond_false, if_true, if_false, reduceIte, Bool.false_eq_true]; done) | (simp only [Bool.true_and, Bool.false_and, Bool.true_or, Bool.false_or, Bool.and_true, Bool.and_false, Bool.or_true, Bool.or_false, Bool.not_true, Bool.not_false, cond_true, cond_false, if_true, if_false, reduceIte, Bool.false_eq_true]; done) | simp [h92]), trivial⟩ .slnil)
    · have g92 := h92; try simp only [decide_eq_true_eq, decide_eq_false_iff_not] at g92
      have f92 := h92; try simp only [decide_eq_true_eq, decide_eq_false_iff_not, Bool.and_eq_true, Bool.or_eq_true, Bool.not_eq_true', Bool.not_eq_false', Bool.and_eq_false_iff, Bool.or_eq_false_iff, not_or, Int.not_lt, Int.not_le] at f92
      refine wl_on rfl rfl h92 ?_
      refine wl_v (o_move rfl) rfl ?_
      refine wl_on rfl rfl h92 ?_
      refine wl_v (o_move rfl) rfl ?_
      refine wl_on rfl rfl h92 ?_
      refine wl_v (o_sne rfl rfl) rfl ?_
      refine wl_v (o_pick_f rfl h92 rfl) rfl ?_
      refine wl_nil ?_
      exact wk_then (wk_mid trivial ⟨rfl, rfl, rfl, rfl, rfl, rfl, rfl, fb (by first | (simp only [h92, Bool.true_and, Bool.false_and, Bool.true_or, Bool.false_or, Bool.and_true, Bool.and_false, Bool.or_true, Bool.or_false, Bool.not_true, Bool.not_false, cond_true, cond_false, if_true, if_false, reduceIte, Bool.false_eq_true]; done) | (simp only [Bool.true_and, Bool.false_and, Bool.true_or, Bool.false_or, Bool.and_true, Bool.and_false, Bool.or_true, Bool.or_false, Bool.not_true, Bool.not_false, cond_true, cond_false, if_true, if_false, reduceIte, Bool.false_eq_true]; done) | simp [h92]), trivial⟩ .slnil)
  refine wc_cond (b := ((!(decide ((refE (cutB p 47) (cutB (cutA p 47) 58) (cutA (cutA p 47) 58)) = (0)))) || (!(decide (((refV (cutB p 47) (cutB (cutA p 47) 58) (cutA (cutA p 47) 58))) = (p)))))) rfl (fun h94 => ?_) (fun h94 => ?_)
  · have g94 := h94; try simp only [decide_eq_true_eq, decide_eq_false_iff_not] at g94
    have f94 := h94; try simp only [decide_eq_true_eq, decide_eq_false_iff_not, Bool.and_eq_true, Bool.or_eq_true, Bool.not_eq_true', Bool.not_eq_false', Bool.and_eq_false_iff, Bool.or_eq_false_iff, not_or, Int.not_lt, Int.not_le] at f94
    refine wc_seq ?_
    refine wc_region ?_
    refine wl_v (o_assign rfl) rfl ?_
    refine wl_v (o_assign rfl) rfl ?_
    refine wl_v (o_assign rfl) rfl ?_
    refine wl_v (o_assign rfl) rfl ?_
    refine wl_nil ?_
    refine wk_then (wc_of_wk ?_)
    refine wc_ret ?_
    refine wk_then_ret ?_
    refine wk_ret (r_4 rfl rfl rfl rfl rfl) ?_
    have hr : prOk p = false := by simp only [prOk, prT, prF, prQ]; grind
    exact retv (by simp only [hr, iff0, prT, prF, prQ]; rfl)
  · have g94 := h94; try simp only [decide_eq_true_eq, decide_eq_false_iff_not] at g94
    have f94 := h94; try simp only [decide_eq_true_eq, decide_eq_false_iff_not, Bool.and_eq_true, Bool.or_eq_true, Bool.not_eq_true', Bool.not_eq_false', Bool.and_eq_false_iff, Bool.or_eq_false_iff, not_or, Int.not_lt, Int.not_le] at f94
    refine wc_skip ?_
    refine wk_then (wc_of_wk ?_)
    refine wc_seq ?_
    refine wc_region ?_
    refine wl_v (o_move rfl) rfl ?_
    refine wl_v (o_move rfl) rfl ?_
    refine wl_v (o_move rfl) rfl ?_
    refine wl_v (o_assign rfl) rfl ?_
    refine wl_v (o_assign rfl) rfl ?_
    refine wl_v (o_assign rfl) rfl ?_
    refine wl_v (o_assign rfl) rfl ?_
    refine wl_nil ?_
    refine wk_then (wc_of_wk ?_)
    refine wc_ret ?_
    refine wk_ret (r_4 rfl rfl rfl rfl rfl) ?_
    have hr : prOk p = true := by simp only [prOk, prT, prF, prQ]; grind
    exact retv (by simp only [hr, iff0, prT, prF, prQ]; rfl)

theorem child_c (p : List UInt8) (m : Int) (hp : p.length ≤ 281474976710656) (w : World) (hE : Env w) : Calls Tryd.prog 17 [.string (B (p)), .int .i64 (m)].toArray w (RetV w (.tuple #[.string (B (childV p m)), .int .i64 (childE p m)])) := by
  refine enter0 (n := 25) Tryd.func17 rfl Tryd.ntmps17 rfl ?_
  refine wc_seq ?_
  refine wc_region ?_
  refine wl_v (o_assign rfl) rfl ?_
  refine wl_v (o_assign rfl) rfl ?_
  refine wl_nil ?_
  refine wk_then (wc_of_wk ?_)
  refine wc_seq ?_
  refine wc_seq ?_
  refine wc_region ?_
  refine wl_v (o_move rfl) rfl ?_
  refine w_call Tryd.call19 rfl (fun w hw => id_c p w) rfl ?_
  refine wl_v (o_not rfl) rfl ?_
  refine wl_nil ?_
  refine wk_then (wc_of_wk ?_)
  refine wc_cond (b := !(idS p)) rfl (fun h95 => ?_) (fun h95 => ?_)
  · have g95 := h95; try simp only [decide_eq_true_eq, decide_eq_false_iff_not] at g95
    have f95 := h95; try simp only [decide_eq_true_eq, decide_eq_false_iff_not, Bool.and_eq_true, Bool.or_eq_true, Bool.not_eq_true', Bool.not_eq_false', Bool.and_eq_false_iff, Bool.or_eq_false_iff, not_or, Int.not_lt, Int.not_le] at f95
    refine wc_seq ?_
    refine wc_region ?_
    refine wl_v (o_assign rfl) rfl ?_
    refine wl_v (o_assign rfl) rfl ?_
    refine wl_nil ?_
    refine wk_then (wc_of_wk ?_)
    refine wc_ret ?_
    refine wk_then_ret ?_
    refine wk_ret (r_2 rfl rfl rfl) ?_
    have e : childE p m = 4 := by simp only [childE, childL]; grind
    exact retv (by simp [childV, e, childL, B])
  · have g95 := h95; try simp only [decide_eq_true_eq, decide_eq_false_iff_not] at g95
    have f95 := h95; try simp only [decide_eq_true_eq, decide_eq_false_iff_not, Bool.and_eq_true, Bool.or_eq_true, Bool.not_eq_true', Bool.not_eq_false', Bool.and_eq_false_iff, Bool.or_eq_false_iff, not_or, Int.not_lt, Int.not_le] at f95
    refine wc_skip ?_
    refine wk_then (wc_of_wk ?_)
    refine wc_seq ?_
    refine wc_seq_mid [(0, .string (B (p))), (1, .int .i64 (m)), (4, .string (B ([]))), (5, .int .i64 (0)), (15, .bool (((decide ((m) < (0))) || (decide ((1000000000000) < (m))))))] [] (φ := True) ?_ (fun hm96 => ?_)
    · refine wc_region ?_
      refine wl_v (o_move rfl) rfl ?_
      refine wl_v (o_lt rfl rfl) rfl ?_
      refine wl_v (o_move rfl) rfl ?_
      refine bsplit (decide ((m) < (0))) (fun h96 => ?_) (fun h96 => ?_)
      · have g96 := h96; try simp only [decide_eq_true_eq, decide_eq_false_iff_not] at g96
        have f96 := h96; try simp only [decide_eq_true_eq, decide_eq_false_iff_not, Bool.and_eq_true, Bool.or_eq_true, Bool.not_eq_true', Bool.not_eq_false', Bool.and_eq_false_iff, Bool.or_eq_false_iff, not_or, Int.not_lt, Int.not_le] at f96
        refine wl_off rfl rfl h96 rfl ?_
        refine wl_off rfl rfl h96 rfl ?_
        refine wl_v (o_pick_t rfl h96 rfl) rfl ?_
        refine wl_nil ?_
        exact wk_then (wk_mid trivial ⟨rfl, rfl, rfl, rfl, fb (by first | (simp only [h95, h96, Bool.true_and, Bool.false_and, Bool.true_or, Bool.false_or, Bool.and_true, Bool.and_false, Bool.or_true, Bool.or_false, Bool.not_true, Bool.not_false, cond_true, cond_false, if_true, if_false, reduceIte, Bool.false_eq_true]; done) | (simp only [Bool.true_and, Bool.false_and, Bool.true_or, Bool.false_or, Bool.and_true, Bool.and_false, Bool.or_true, Bool.or_false, Bool.not_true, Bool.not_false, cond_true, cond_false, if_true, if_false, reduceIte, Bool.false_eq_true]; done) | simp [h95, h96]), trivial⟩ .slnil)
      · have g96 := h96; try simp only [decide_eq_true_eq, decide_eq_false_iff_not] at g96
        have f96 := h96; try simp only [decide_eq_true_eq, decide_eq_false_iff_not, Bool.and_eq_true, Bool.or_eq_true, Bool.not_eq_true', Bool.not_eq_false', Bool.and_eq_false_iff, Bool.or_eq_false_iff, not_or, Int.not_lt, Int.not_le] at f96
        refine wl_on rfl rfl h96 ?_
        refine wl_v (o_move rfl) rfl ?_
        refine wl_on rfl rfl h96 ?_
        refine wl_v (o_gt rfl rfl) rfl ?_
        refine wl_v (o_pick_f rfl h96 rfl) rfl ?_
        refine wl_nil ?_
        exact wk_then (wk_mid trivial ⟨rfl, rfl, rfl, rfl, fb (by first | (simp only [h95, h96, Bool.true_and, Bool.false_and, Bool.true_or, Bool.false_or, Bool.and_true, Bool.and_false, Bool.or_true, Bool.or_false, Bool.not_true, Bool.not_false, cond_true, cond_false, if_true, if_false, reduceIte, Bool.false_eq_true]; done) | (simp only [Bool.true_and, Bool.false_and, Bool.true_or, Bool.false_or, Bool.and_true, Bool.and_false, Bool.or_true, Bool.or_false, Bool.not_true, Bool.not_false, cond_true, cond_false, if_true, if_false, reduceIte, Bool.false_eq_true]; done) | simp [h95, h96]), trivial⟩ .slnil)
    refine wc_cond (b := ((decide ((m) < (0))) || (decide ((1000000000000) < (m))))) rfl (fun h98 => ?_) (fun h98 => ?_)
    · have g98 := h98; try simp only [decide_eq_true_eq, decide_eq_false_iff_not] at g98
      have f98 := h98; try simp only [decide_eq_true_eq, decide_eq_false_iff_not, Bool.and_eq_true, Bool.or_eq_true, Bool.not_eq_true', Bool.not_eq_false', Bool.and_eq_false_iff, Bool.or_eq_false_iff, not_or, Int.not_lt, Int.not_le] at f98
      refine wc_seq ?_
      refine wc_region ?_
      refine wl_v (o_assign rfl) rfl ?_
      refine wl_v (o_assign rfl) rfl ?_
      refine wl_nil ?_
      refine wk_then (wc_of_wk ?_)
      refine wc_ret ?_
      refine wk_then_ret ?_
      refine wk_ret (r_2 rfl rfl rfl) ?_
      have e : childE p m = 2 := by simp only [childE, childL]; grind
      exact retv (by simp [childV, e, childL, B])
    · have g98 := h98; try simp only [decide_eq_true_eq, decide_eq_false_iff_not] at g98
      have f98 := h98; try simp only [decide_eq_true_eq, decide_eq_false_iff_not, Bool.and_eq_true, Bool.or_eq_true, Bool.not_eq_true', Bool.not_eq_false', Bool.and_eq_false_iff, Bool.or_eq_false_iff, not_or, Int.not_lt, Int.not_le] at f98
      refine wc_skip ?_
      refine wk_then (wc_of_wk ?_)
      refine wc_seq ?_
      refine wc_region ?_
      refine wl_v (o_move rfl) rfl ?_
      refine wl_v (o_sadd rfl rfl (by simp; omega)) rfl ?_
      refine wl_v (o_move rfl) rfl ?_
      refine w_call Tryd.call30 rfl (fun w hw => format_c m (by omega) (by omega) w (hE.st0 hw)) rfl ?_
      have ft99 := itoa_len m (by omega) (by omega)
      refine wl_v (o_sadd rfl rfl (by simp; omega)) rfl ?_
      refine wl_v (o_assign rfl) rfl ?_
      refine wl_nil ?_
      refine wk_then (wc_of_wk ?_)
      refine wc_seq ?_
      refine wc_seq ?_
      refine wc_region ?_
      refine wl_v (o_move rfl) rfl ?_
      refine wl_v (o_len_s Tryd.underlying9 rfl) rfl ?_
      refine wl_v (o_gt rfl rfl) rfl ?_
      refine wl_nil ?_
      refine wk_then (wc_of_wk ?_)
      refine wc_cond (b := decide ((64) < ((((p ++ [46]) ++ (Lib.itoa m)).length : Int)))) rfl (fun h100 => ?_) (fun h100 => ?_)
      · have g100 := h100; try simp only [decide_eq_true_eq, decide_eq_false_iff_not] at g100
        have f100 := h100; try simp only [decide_eq_true_eq, decide_eq_false_iff_not, Bool.and_eq_true, Bool.or_eq_true, Bool.not_eq_true', Bool.not_eq_false', Bool.and_eq_false_iff, Bool.or_eq_false_iff, not_or, Int.not_lt, Int.not_le] at f100
        refine wc_seq ?_
        refine wc_region ?_
        refine wl_v (o_assign rfl) rfl ?_
        refine wl_v (o_assign rfl) rfl ?_
        refine wl_nil ?_
        refine wk_then (wc_of_wk ?_)
        refine wc_ret ?_
        refine wk_then_ret ?_
        refine wk_ret (r_2 rfl rfl rfl) ?_
        have e : childE p m = 3 := by simp only [childE, childL]; grind
        exact retv (by simp [childV, e, childL, B])
      · have g100 := h100; try simp only [decide_eq_true_eq, decide_eq_false_iff_not] at g100
        have f100 := h100; try simp only [decide_eq_true_eq, decide_eq_false_iff_not, Bool.and_eq_true, Bool.or_eq_true, Bool.not_eq_true', Bool.not_eq_false', Bool.and_eq_false_iff, Bool.or_eq_false_iff, not_or, Int.not_lt, Int.not_le] at f100
        refine wc_skip ?_
        refine wk_then (wc_of_wk ?_)
        refine wc_seq ?_
        refine wc_region ?_
        refine wl_v (o_move rfl) rfl ?_
        refine wl_v (o_assign rfl) rfl ?_
        refine wl_v (o_assign rfl) rfl ?_
        refine wl_nil ?_
        refine wk_then (wc_of_wk ?_)
        refine wc_ret ?_
        refine wk_ret (r_2 rfl rfl rfl) ?_
        have e : childE p m = 0 := by simp only [childE, childL]; grind
        exact retv (by simp [childV, e, childL, B])

theorem parent_c (p : List UInt8) (hp : p.length ≤ 281474976710656) (w : World) (hE : Env w) : Calls Tryd.prog 18 [.string (B (p))].toArray w (RetV w (.tuple #[.string (B (iff0 (parOk p) (parP p))), .int .i64 ((if parOk p = true then parseV (parN p) else (0 : Int))), .bool (parOk p)])) := by
  refine enter0 (n := 43) Tryd.func18 rfl Tryd.ntmps18 rfl ?_
  refine wc_seq ?_
  refine wc_region ?_
  refine wl_v (o_assign rfl) rfl ?_
  refine wl_v (o_assign rfl) rfl ?_
  refine wl_v (o_assign rfl) rfl ?_
  refine wl_nil ?_
  refine wk_then (wc_of_wk ?_)
  refine wc_seq ?_
  refine wc_region ?_
  refine wl_v (o_move rfl) rfl ?_
  refine w_call Tryd.call31 rfl (fun w hw => last_c p (46 : Int) (by first | omega | (simp; done) | (simp; omega) | (simp at *; omega)) w) rfl ?_
  have ft101 := lastB_bd p 46
  refine wl_v (o_assign rfl) rfl ?_
  refine wl_nil ?_
  refine wk_then (wc_of_wk ?_)
  refine wc_seq ?_
  refine wc_seq ?_
  refine wc_region ?_
  refine wl_v (o_move rfl) rfl ?_
  refine wl_v (o_lt rfl rfl) rfl ?_
  refine wl_nil ?_
  refine wk_then (wc_of_wk ?_)
  refine wc_cond (b := decide ((lastB p 46) < (0))) rfl (fun h102 => ?_) (fun h102 => ?_)
  · have g102 := h102; try simp only [decide_eq_true_eq, decide_eq_false_iff_not] at g102
    have f102 := h102; try simp only [decide_eq_true_eq, decide_eq_false_iff_not, Bool.and_eq_true, Bool.or_eq_true, Bool.not_eq_true', Bool.not_eq_false', Bool.and_eq_false_iff, Bool.or_eq_false_iff, not_or, Int.not_lt, Int.not_le] at f102
    refine wc_seq ?_
    refine wc_region ?_
    refine wl_v (o_assign rfl) rfl ?_
    refine wl_v (o_assign rfl) rfl ?_
    refine wl_v (o_assign rfl) rfl ?_
    refine wl_nil ?_
    refine wk_then (wc_of_wk ?_)
    refine wc_ret ?_
    refine wk_then_ret ?_
    refine wk_ret (r_3 rfl rfl rfl rfl) ?_
    have hr : parOk p = false := by simp only [parOk, parP, parN]; grind
    exact retv (by simp only [hr, iff0, parP, parN]; rfl)
  · have g102 := h102; try simp only [decide_eq_true_eq, decide_eq_false_iff_not] at g102
    have f102 := h102; try simp only [decide_eq_true_eq, decide_eq_false_iff_not, Bool.and_eq_true, Bool.or_eq_true, Bool.not_eq_true', Bool.not_eq_false', Bool.and_eq_false_iff, Bool.or_eq_false_iff, not_or, Int.not_lt, Int.not_le] at f102
    refine wc_skip ?_
    refine wk_then (wc_of_wk ?_)
    refine wc_seq ?_
    refine wc_region ?_
    refine wl_v (o_move rfl) rfl ?_
    refine wl_v (o_move rfl) rfl ?_
    refine wl_v (o_add rfl rfl (IntWalk.i64_in _ (by omega))) rfl ?_
    refine wl_v (o_slice_lo Tryd.underlying9 rfl rfl (by first | omega | (simp; omega)) (by first | omega | (simp; omega))) rfl ?_
    refine w_call Tryd.call32 rfl (fun w hw => parse_c (List.drop (Int.toNat ((lastB p 46) + 1)) p) (by first | omega | (simp; done) | (simp; omega) | (simp at *; omega)) w (hE.st0 hw)) rfl ?_
    have ft103 := parse_bd (List.drop (Int.toNat ((lastB p 46) + 1)) p)
    refine wl_v (o_move rfl) rfl ?_
    refine wl_v (o_extract rfl rfl) rfl ?_
    refine wl_v (o_extract rfl rfl) rfl ?_
    refine wl_v (o_assign rfl) rfl ?_
    refine wl_v (o_assign rfl) rfl ?_
    refine wl_nil ?_
    refine wk_then (wc_of_wk ?_)
    refine wc_seq ?_
    refine wc_seq ?_
    refine wc_region ?_
    refine wl_v (o_move rfl) rfl ?_
    refine wl_v (o_ne rfl rfl) rfl ?_
    refine wl_nil ?_
    refine wk_then (wc_of_wk ?_)
    refine wc_cond (b := !(decide ((parseE (List.drop (Int.toNat ((lastB p 46) + 1)) p)) = (0)))) rfl (fun h104 => ?_) (fun h104 => ?_)
    · have g104 := h104; try simp only [decide_eq_true_eq, decide_eq_false_iff_not] at g104
      have f104 := h104; try simp only [decide_eq_true_eq, decide_eq_false_iff_not, Bool.and_eq_true, Bool.or_eq_true, Bool.not_eq_true', Bool.not_eq_false', Bool.and_eq_false_iff, Bool.or_eq_false_iff, not_or, Int.not_lt, Int.not_le] at f104
      refine wc_seq ?_
      refine wc_region ?_
      refine wl_v (o_assign rfl) rfl ?_
      refine wl_v (o_assign rfl) rfl ?_
      refine wl_v (o_assign rfl) rfl ?_
      refine wl_nil ?_
      refine wk_then (wc_of_wk ?_)
      refine wc_ret ?_
      refine wk_then_ret ?_
      refine wk_ret (r_3 rfl rfl rfl rfl) ?_
      have hr : parOk p = false := by simp only [parOk, parP, parN]; grind
      exact retv (by simp only [hr, iff0, parP, parN]; rfl)
    · have g104 := h104; try simp only [decide_eq_true_eq, decide_eq_false_iff_not] at g104
      have f104 := h104; try simp only [decide_eq_true_eq, decide_eq_false_iff_not, Bool.and_eq_true, Bool.or_eq_true, Bool.not_eq_true', Bool.not_eq_false', Bool.and_eq_false_iff, Bool.or_eq_false_iff, not_or, Int.not_lt, Int.not_le] at f104
      refine wc_skip ?_
      refine wk_then (wc_of_wk ?_)
      refine wc_seq ?_
      refine wc_seq ?_
      refine wc_region ?_
      refine wl_v (o_move rfl) rfl ?_
      refine wl_v (o_move rfl) rfl ?_
      refine wl_v (o_slice_hi Tryd.underlying9 rfl rfl (by first | omega | (simp; omega)) (by first | omega | (simp; omega))) rfl ?_
      refine wl_v (o_move rfl) rfl ?_
      refine w_call Tryd.call17 rfl (fun w hw => child_c (List.take (Int.toNat (lastB p 46)) p) (parseV (List.drop (Int.toNat ((lastB p 46) + 1)) p)) (by first | omega | (simp; done) | (simp; omega) | (simp at *; omega) | (split <;> first | omega | (simp; omega))) w (hE.st0 hw)) rfl ?_
      have ft105 := childV_len (List.take (Int.toNat (lastB p 46)) p) (parseV (List.drop (Int.toNat ((lastB p 46) + 1)) p))
      refine wl_v (o_move rfl) rfl ?_
      refine wl_v (o_extract rfl rfl) rfl ?_
      refine wl_v (o_extract rfl rfl) rfl ?_
      refine wl_v (o_assign rfl) rfl ?_
      refine wl_v (o_assign rfl) rfl ?_
      refine wl_nil ?_
      refine wk_then (wc_of_wk ?_)
      refine wc_seq_mid [(0, .string (B (p))), (2, .string (B ([]))), (3, .int .i64 (0)), (4, .bool (false)), (5, .int .i64 (lastB p 46)), (6, .int .i64 (parseV (List.drop (Int.toNat ((lastB p 46) + 1)) p))), (38, .bool (((!(decide ((childE (List.take (Int.toNat (lastB p 46)) p) (parseV (List.drop (Int.toNat ((lastB p 46) + 1)) p))) = (0)))) || (!(decide (((childV (List.take (Int.toNat (lastB p 46)) p) (parseV (List.drop (Int.toNat ((lastB p 46) + 1)) p)))) = (p)))))))] [] (φ := True) ?_ (fun hm106 => ?_)
      · refine wc_region ?_
        refine wl_v (o_move rfl) rfl ?_
        refine wl_v (o_ne rfl rfl) rfl ?_
        refine wl_v (o_move rfl) rfl ?_
        refine bsplit (!(decide ((childE (List.take (Int.toNat (lastB p 46)) p) (parseV (List.drop (Int.toNat ((lastB p 46) + 1)) p))) = (0)))) (fun h106 => ?_) (fun h106 => ?_)
        · have g106 := h106; try simp only [decide_eq_true_eq, decide_eq_false_iff_not] at g106
          have f106 := h106; try simp only [decide_eq_true_eq, decide_eq_false_iff_not, Bool.and_eq_true, Bool.or_eq_true, Bool.not_eq_true', Bool.not_eq_false', Bool.and_eq_false_iff, Bool.or_eq_false_iff, not_or, Int.not_lt, Int.not_le] at f106
          refine wl_off rfl rfl h106 rfl ?_
          refine wl_off rfl rfl h106 rfl ?_
          refine wl_off rfl rfl h106 rfl ?_
          refine wl_v (o_pick_t rfl h106 rfl) rfl ?_
          refine wl_nil ?_
          exact wk_then (wk_mid trivial ⟨rfl, rfl, rfl, rfl, rfl, rfl, fb (by first | (simp only [h102, h104, h106, Bool.true_and, Bool.false_and, Bool.true_or, Bool.false_or, Bool.and_true, Bool.and_false, Bool.or_true, Bool.or_false, Bool.not_true, Bool.not_false, cond_true, cond_false, if_true, if_false, reduceIte, Bool.false_eq_true]; done) | (simp only [Bool.true_and, Bool.false_and, Bool.true_or, Bool.false_or, Bool.and_true, Bool.and_false, Bool.or_true, Bool.or_false, Bool.not_true, Bool.not_false, cond_true, cond_false, if_true, if_false, reduceIte, Bool.false_eq_true]; done) | simp [h102, h104, h106]), trivial⟩ .slnil)
        · have g106 := h106; try simp only [decide_eq_true_eq, decide_eq_false_iff_not] at g106
          have f106 := h106; try simp only [decide_eq_true_eq, decide_eq_false_iff_not, Bool.and_eq_true, Bool.or_eq_true, Bool.not_eq_true', Bool.not_eq_false', Bool.and_eq_false_iff, Bool.or_eq_false_iff, not_or, Int.not_lt, Int.not_le] at f106
          refine wl_on rfl rfl h106 ?_
          refine wl_v (o_move rfl) rfl ?_
          refine wl_on rfl rfl h106 ?_
          refine wl_v (o_move rfl) rfl ?_
          refine wl_on rfl rfl h106 ?_
          refine wl_v (o_sne rfl rfl) rfl ?_
          refine wl_v (o_pick_f rfl h106 rfl) rfl ?_
          refine wl_nil ?_
          exact wk_then (wk_mid trivial ⟨rfl, rfl, rfl, rfl, rfl, rfl, fb (by first | (simp only [h102, h104, h106, Bool.true_and, Bool.false_and, Bool.true_or, Bool.false_or, Bool.and_true, Bool.and_false, Bool.or_true, Bool.or_false, Bool.not_true, Bool.not_false, cond_true, cond_false, if_true, if_false, reduceIte, Bool.false_eq_true]; done) | (simp only [Bool.true_and, Bool.false_and, Bool.true_or, Bool.false_or, Bool.and_true, Bool.and_false, Bool.or_true, Bool.or_false, Bool.not_true, Bool.not_false, cond_true, cond_false, if_true, if_false, reduceIte, Bool.false_eq_true]; done) | simp [h102, h104, h106]), trivial⟩ .slnil)
      refine wc_cond (b := ((!(decide ((childE (List.take (Int.toNat (lastB p 46)) p) (parseV (List.drop (Int.toNat ((lastB p 46) + 1)) p))) = (0)))) || (!(decide (((childV (List.take (Int.toNat (lastB p 46)) p) (parseV (List.drop (Int.toNat ((lastB p 46) + 1)) p)))) = (p)))))) rfl (fun h108 => ?_) (fun h108 => ?_)
      · have g108 := h108; try simp only [decide_eq_true_eq, decide_eq_false_iff_not] at g108
        have f108 := h108; try simp only [decide_eq_true_eq, decide_eq_false_iff_not, Bool.and_eq_true, Bool.or_eq_true, Bool.not_eq_true', Bool.not_eq_false', Bool.and_eq_false_iff, Bool.or_eq_false_iff, not_or, Int.not_lt, Int.not_le] at f108
        refine wc_seq ?_
        refine wc_region ?_
        refine wl_v (o_assign rfl) rfl ?_
        refine wl_v (o_assign rfl) rfl ?_
        refine wl_v (o_assign rfl) rfl ?_
        refine wl_nil ?_
        refine wk_then (wc_of_wk ?_)
        refine wc_ret ?_
        refine wk_then_ret ?_
        refine wk_ret (r_3 rfl rfl rfl rfl) ?_
        have hr : parOk p = false := by simp only [parOk, parP, parN]; grind
        exact retv (by simp only [hr, iff0, parP, parN]; rfl)
      · have g108 := h108; try simp only [decide_eq_true_eq, decide_eq_false_iff_not] at g108
        have f108 := h108; try simp only [decide_eq_true_eq, decide_eq_false_iff_not, Bool.and_eq_true, Bool.or_eq_true, Bool.not_eq_true', Bool.not_eq_false', Bool.and_eq_false_iff, Bool.or_eq_false_iff, not_or, Int.not_lt, Int.not_le] at f108
        refine wc_skip ?_
        refine wk_then (wc_of_wk ?_)
        refine wc_seq ?_
        refine wc_region ?_
        refine wl_v (o_move rfl) rfl ?_
        refine wl_v (o_move rfl) rfl ?_
        refine wl_v (o_slice_hi Tryd.underlying9 rfl rfl (by first | omega | (simp; omega)) (by first | omega | (simp; omega))) rfl ?_
        refine wl_v (o_move rfl) rfl ?_
        refine wl_v (o_assign rfl) rfl ?_
        refine wl_v (o_assign rfl) rfl ?_
        refine wl_v (o_assign rfl) rfl ?_
        refine wl_nil ?_
        refine wk_then (wc_of_wk ?_)
        refine wc_ret ?_
        refine wk_ret (r_3 rfl rfl rfl rfl) ?_
        have hr : parOk p = true := by simp only [parOk, parP, parN]; grind
        exact retv (by simp only [hr, iff0, parP, parN]; rfl)

theorem open_c (p : List UInt8) (hp : p.length ≤ 281474976710656) (w : World) : Calls Tryd.prog 26 [.string (B (p))].toArray w (RetV w (.bool (hasSuf p [42]))) := by
  refine enter0 (n := 5) Tryd.func26 rfl Tryd.ntmps26 rfl ?_
  refine wc_seq ?_
  refine wc_region ?_
  refine wl_v (o_assign rfl) rfl ?_
  refine wl_nil ?_
  refine wk_then (wc_of_wk ?_)
  refine wc_seq ?_
  refine wc_region ?_
  refine wl_v (o_move rfl) rfl ?_
  refine w_call Tryd.call40 rfl (fun w hw => hasSuf_c p ([42] : List UInt8) (by first | omega | (simp; omega)) w) rfl ?_
  refine wl_v (o_assign rfl) rfl ?_
  refine wl_nil ?_
  refine wk_then (wc_of_wk ?_)
  refine wc_ret ?_
  refine wk_ret (r_1 rfl rfl) ?_
  exact retv (by first | rfl | simp [])

theorem prefix_c (p : List UInt8) (hp : p.length ≤ 281474976710656) (w : World) : Calls Tryd.prog 25 [.string (B (p))].toArray w (RetV w (.string (B (trimSuf p [42])))) := by
  refine enter0 (n := 5) Tryd.func25 rfl Tryd.ntmps25 rfl ?_
  refine wc_seq ?_
  refine wc_region ?_
  refine wl_v (o_assign rfl) rfl ?_
  refine wl_nil ?_
  refine wk_then (wc_of_wk ?_)
  refine wc_seq ?_
  refine wc_region ?_
  refine wl_v (o_move rfl) rfl ?_
  refine w_call Tryd.call39 rfl (fun w hw => trimSuf_c p ([42] : List UInt8) (by first | omega | (simp; omega)) w) rfl ?_
  refine wl_v (o_assign rfl) rfl ?_
  refine wl_nil ?_
  refine wk_then (wc_of_wk ?_)
  refine wc_ret ?_
  refine wk_ret (r_1 rfl rfl) ?_
  exact retv (by first | rfl | simp [])

theorem pattern_c (p : List UInt8) (hp : p.length ≤ 281474976710656) (w : World) : Calls Tryd.prog 12 [.string (B (p))].toArray w (RetV w (.bool (patS p))) := by
  refine enter0 (n := 23) Tryd.func12 rfl Tryd.ntmps12 rfl ?_
  refine wc_seq ?_
  refine wc_region ?_
  refine wl_v (o_assign rfl) rfl ?_
  refine wl_nil ?_
  refine wk_then (wc_of_wk ?_)
  refine wc_seq_mid [(2, .bool (((idS p) || ((decide ((p) = (([42] : List UInt8)))) || ((idS (trimSuf p [42])) && ((hasSuf p [42]) && (decide (((p.length : Int)) ≤ (64)))))))))] [] (φ := True) ?_ (fun hm113 => ?_)
  · refine wc_region ?_
    refine wl_v (o_move rfl) rfl ?_
    refine w_call Tryd.call19 rfl (fun w hw => id_c p w) rfl ?_
    refine wl_v (o_move rfl) rfl ?_
    refine bsplit (idS p) (fun h109 => ?_) (fun h109 => ?_)
    · have g109 := h109; try simp only [decide_eq_true_eq, decide_eq_false_iff_not] at g109
      have f109 := h109; try simp only [decide_eq_true_eq, decide_eq_false_iff_not, Bool.and_eq_true, Bool.or_eq_true, Bool.not_eq_true', Bool.not_eq_false', Bool.and_eq_false_iff, Bool.or_eq_false_iff, not_or, Int.not_lt, Int.not_le] at f109
      refine wl_off rfl rfl h109 rfl ?_
      refine wl_off rfl rfl h109 rfl ?_
      refine wl_v (o_pick_t rfl h109 rfl) rfl ?_
      refine wl_v (o_move rfl) rfl ?_
      refine wl_off rfl rfl rfl rfl ?_
      refine wl_off rfl rfl rfl rfl ?_
      refine wl_off rfl rfl rfl rfl ?_
      refine wl_off rfl rfl rfl rfl ?_
      refine wl_off_u rfl rfl rfl ?_
      refine wl_off_u rfl rfl rfl ?_
      refine wl_off rfl rfl rfl rfl ?_
      refine wl_off rfl rfl rfl rfl ?_
      refine wl_off_u rfl rfl rfl ?_
      refine wl_off_u rfl rfl rfl ?_
      refine wl_off_u rfl rfl rfl ?_
      refine wl_off rfl rfl rfl rfl ?_
      refine wl_v (o_pick_t rfl rfl rfl) rfl ?_
      refine wl_v (o_assign rfl) rfl ?_
      refine wl_nil ?_
      exact wk_then (wk_mid trivial ⟨fb (by first | (simp only [h109, Bool.true_and, Bool.false_and, Bool.true_or, Bool.false_or, Bool.and_true, Bool.and_false, Bool.or_true, Bool.or_false, Bool.not_true, Bool.not_false, cond_true, cond_false, if_true, if_false, reduceIte, Bool.false_eq_true]; done) | (simp only [Bool.true_and, Bool.false_and, Bool.true_or, Bool.false_or, Bool.and_true, Bool.and_false, Bool.or_true, Bool.or_false, Bool.not_true, Bool.not_false, cond_true, cond_false, if_true, if_false, reduceIte, Bool.false_eq_true]; done) | simp [h109]), trivial⟩ .slnil)
    · have g109 := h109; try simp only [decide_eq_true_eq, decide_eq_false_iff_not] at g109
      have f109 := h109; try simp only [decide_eq_true_eq, decide_eq_false_iff_not, Bool.and_eq_true, Bool.or_eq_true, Bool.not_eq_true', Bool.not_eq_false', Bool.and_eq_false_iff, Bool.or_eq_false_iff, not_or, Int.not_lt, Int.not_le] at f109
      refine wl_on rfl rfl h109 ?_
      refine wl_v (o_move rfl) rfl ?_
      refine wl_on rfl rfl h109 ?_
      refine wl_v (o_seq rfl rfl) rfl ?_
      refine wl_v (o_pick_f rfl h109 rfl) rfl ?_
      refine wl_v (o_move rfl) rfl ?_
      refine bsplit (decide ((p) = (([42] : List UInt8)))) (fun h110 => ?_) (fun h110 => ?_)
      · have g110 := h110; try simp only [decide_eq_true_eq, decide_eq_false_iff_not] at g110
        have f110 := h110; try simp only [decide_eq_true_eq, decide_eq_false_iff_not, Bool.and_eq_true, Bool.or_eq_true, Bool.not_eq_true', Bool.not_eq_false', Bool.and_eq_false_iff, Bool.or_eq_false_iff, not_or, Int.not_lt, Int.not_le] at f110
        refine wl_off rfl rfl h110 rfl ?_
        refine wl_off rfl rfl h110 rfl ?_
        refine wl_off rfl rfl h110 rfl ?_
        refine wl_off rfl rfl h110 rfl ?_
        refine wl_off_u rfl rfl rfl ?_
        refine wl_off_u rfl rfl rfl ?_
        refine wl_off rfl rfl h110 rfl ?_
        refine wl_off rfl rfl h110 rfl ?_
        refine wl_off_u rfl rfl rfl ?_
        refine wl_off_u rfl rfl rfl ?_
        refine wl_off_u rfl rfl rfl ?_
        refine wl_off rfl rfl h110 rfl ?_
        refine wl_v (o_pick_t rfl h110 rfl) rfl ?_
        refine wl_v (o_assign rfl) rfl ?_
        refine wl_nil ?_
        exact wk_then (wk_mid trivial ⟨fb (by first | (simp only [h109, h110, Bool.true_and, Bool.false_and, Bool.true_or, Bool.false_or, Bool.and_true, Bool.and_false, Bool.or_true, Bool.or_false, Bool.not_true, Bool.not_false, cond_true, cond_false, if_true, if_false, reduceIte, Bool.false_eq_true]; done) | (simp only [Bool.true_and, Bool.false_and, Bool.true_or, Bool.false_or, Bool.and_true, Bool.and_false, Bool.or_true, Bool.or_false, Bool.not_true, Bool.not_false, cond_true, cond_false, if_true, if_false, reduceIte, Bool.false_eq_true]; done) | simp [h109, h110]), trivial⟩ .slnil)
      · have g110 := h110; try simp only [decide_eq_true_eq, decide_eq_false_iff_not] at g110
        have f110 := h110; try simp only [decide_eq_true_eq, decide_eq_false_iff_not, Bool.and_eq_true, Bool.or_eq_true, Bool.not_eq_true', Bool.not_eq_false', Bool.and_eq_false_iff, Bool.or_eq_false_iff, not_or, Int.not_lt, Int.not_le] at f110
        refine wl_on rfl rfl h110 ?_
        refine wl_v (o_move rfl) rfl ?_
        refine wl_on rfl rfl h110 ?_
        refine w_call Tryd.call25 rfl (fun w hw => prefix_c p (by first | omega | (simp; done) | (simp; omega) | (simp at *; omega) | (split <;> first | omega | (simp; omega))) w) rfl ?_
        have ft111 := trimSuf_len p [42]
        refine wl_on rfl rfl h110 ?_
        refine w_call Tryd.call19 rfl (fun w hw => id_c (trimSuf p [42]) w) rfl ?_
        refine wl_on rfl rfl h110 ?_
        refine wl_v (o_move rfl) rfl ?_
        refine bsplit (idS (trimSuf p [42])) (fun h112 => ?_) (fun h112 => ?_)
        · have g112 := h112; try simp only [decide_eq_true_eq, decide_eq_false_iff_not] at g112
          have f112 := h112; try simp only [decide_eq_true_eq, decide_eq_false_iff_not, Bool.and_eq_true, Bool.or_eq_true, Bool.not_eq_true', Bool.not_eq_false', Bool.and_eq_false_iff, Bool.or_eq_false_iff, not_or, Int.not_lt, Int.not_le] at f112
          refine wl_on rfl rfl h112 ?_
          refine wl_v (o_move rfl) rfl ?_
          refine wl_on rfl rfl h112 ?_
          refine w_call Tryd.call26 rfl (fun w hw => open_c p (by first | omega | (simp; done) | (simp; omega) | (simp at *; omega) | (split <;> first | omega | (simp; omega))) w) rfl ?_
          refine wl_on rfl rfl h110 ?_
          refine wl_v (o_pick_t rfl h112 rfl) rfl ?_
          refine wl_on rfl rfl h110 ?_
          refine wl_v (o_move rfl) rfl ?_
          refine bsplit (hasSuf p [42]) (fun h113 => ?_) (fun h113 => ?_)
          · have g113 := h113; try simp only [decide_eq_true_eq, decide_eq_false_iff_not] at g113
            have f113 := h113; try simp only [decide_eq_true_eq, decide_eq_false_iff_not, Bool.and_eq_true, Bool.or_eq_true, Bool.not_eq_true', Bool.not_eq_false', Bool.and_eq_false_iff, Bool.or_eq_false_iff, not_or, Int.not_lt, Int.not_le] at f113
            refine wl_on rfl rfl h113 ?_
            refine wl_v (o_move rfl) rfl ?_
            refine wl_on rfl rfl h113 ?_
            refine wl_v (o_len_s Tryd.underlying9 rfl) rfl ?_
            refine wl_on rfl rfl h113 ?_
            refine wl_v (o_le rfl rfl) rfl ?_
            refine wl_on rfl rfl h110 ?_
            refine wl_v (o_pick_t rfl h113 rfl) rfl ?_
            refine wl_v (o_pick_f rfl h110 rfl) rfl ?_
            refine wl_v (o_assign rfl) rfl ?_
            refine wl_nil ?_
            exact wk_then (wk_mid trivial ⟨fb (by first | (simp only [h109, h110, h112, h113, Bool.true_and, Bool.false_and, Bool.true_or, Bool.false_or, Bool.and_true, Bool.and_false, Bool.or_true, Bool.or_false, Bool.not_true, Bool.not_false, cond_true, cond_false, if_true, if_false, reduceIte, Bool.false_eq_true]; done) | (simp only [Bool.true_and, Bool.false_and, Bool.true_or, Bool.false_or, Bool.and_true, Bool.and_false, Bool.or_true, Bool.or_false, Bool.not_true, Bool.not_false, cond_true, cond_false, if_true, if_false, reduceIte, Bool.false_eq_true]; done) | simp [h109, h110, h112, h113]), trivial⟩ .slnil)
          · have g113 := h113; try simp only [decide_eq_true_eq, decide_eq_false_iff_not] at g113
            have f113 := h113; try simp only [decide_eq_true_eq, decide_eq_false_iff_not, Bool.and_eq_true, Bool.or_eq_true, Bool.not_eq_true', Bool.not_eq_false', Bool.and_eq_false_iff, Bool.or_eq_false_iff, not_or, Int.not_lt, Int.not_le] at f113
            refine wl_off rfl rfl h113 rfl ?_
            refine wl_off rfl rfl h113 rfl ?_
            refine wl_off rfl rfl h113 rfl ?_
            refine wl_on rfl rfl h110 ?_
            refine wl_v (o_pick_f rfl h113 rfl) rfl ?_
            refine wl_v (o_pick_f rfl h110 rfl) rfl ?_
            refine wl_v (o_assign rfl) rfl ?_
            refine wl_nil ?_
            exact wk_then (wk_mid trivial ⟨fb (by first | (simp only [h109, h110, h112, h113, Bool.true_and, Bool.false_and, Bool.true_or, Bool.false_or, Bool.and_true, Bool.and_false, Bool.or_true, Bool.or_false, Bool.not_true, Bool.not_false, cond_true, cond_false, if_true, if_false, reduceIte, Bool.false_eq_true]; done) | (simp only [Bool.true_and, Bool.false_and, Bool.true_or, Bool.false_or, Bool.and_true, Bool.and_false, Bool.or_true, Bool.or_false, Bool.not_true, Bool.not_false, cond_true, cond_false, if_true, if_false, reduceIte, Bool.false_eq_true]; done) | simp [h109, h110, h112, h113]), trivial⟩ .slnil)
        · have g112 := h112; try simp only [decide_eq_true_eq, decide_eq_false_iff_not] at g112
          have f112 := h112; try simp only [decide_eq_true_eq, decide_eq_false_iff_not, Bool.and_eq_true, Bool.or_eq_true, Bool.not_eq_true', Bool.not_eq_false', Bool.and_eq_false_iff, Bool.or_eq_false_iff, not_or, Int.not_lt, Int.not_le] at f112
          refine wl_off rfl rfl h112 rfl ?_
          refine wl_off rfl rfl h112 rfl ?_
          refine wl_on rfl rfl h110 ?_
          refine wl_v (o_pick_f rfl h112 rfl) rfl ?_
          refine wl_on rfl rfl h110 ?_
          refine wl_v (o_move rfl) rfl ?_
          refine wl_off rfl rfl rfl rfl ?_
          refine wl_off rfl rfl rfl rfl ?_
          refine wl_off rfl rfl rfl rfl ?_
          refine wl_on rfl rfl h110 ?_
          refine wl_v (o_pick_f rfl rfl rfl) rfl ?_
          refine wl_v (o_pick_f rfl h110 rfl) rfl ?_
          refine wl_v (o_assign rfl) rfl ?_
          refine wl_nil ?_
          exact wk_then (wk_mid trivial ⟨fb (by first | (simp only [h109, h110, h112, Bool.true_and, Bool.false_and, Bool.true_or, Bool.false_or, Bool.and_true, Bool.and_false, Bool.or_true, Bool.or_false, Bool.not_true, Bool.not_false, cond_true, cond_false, if_true, if_false, reduceIte, Bool.false_eq_true]; done) | (simp only [Bool.true_and, Bool.false_and, Bool.true_or, Bool.false_or, Bool.and_true, Bool.and_false, Bool.or_true, Bool.or_false, Bool.not_true, Bool.not_false, cond_true, cond_false, if_true, if_false, reduceIte, Bool.false_eq_true]; done) | simp [h109, h110, h112]), trivial⟩ .slnil)
  refine wc_ret ?_
  refine wk_ret (r_1 rfl rfl) ?_
  exact retv (by first | rfl | simp [patS])

theorem matches_c (p : List UInt8) (s : List UInt8) (hp : p.length ≤ 281474976710656) (hs : s.length ≤ 281474976710656) (w : World) : Calls Tryd.prog 14 [.string (B (p)), .string (B (s))].toArray w (RetV w (.bool (matS p s))) := by
  refine enter0 (n := 17) Tryd.func14 rfl Tryd.ntmps14 rfl ?_
  refine wc_seq ?_
  refine wc_region ?_
  refine wl_v (o_assign rfl) rfl ?_
  refine wl_nil ?_
  refine wk_then (wc_of_wk ?_)
  refine wc_seq ?_
  refine wc_seq ?_
  refine wc_region ?_
  refine wl_v (o_move rfl) rfl ?_
  refine w_call Tryd.call12 rfl (fun w hw => pattern_c p (by first | omega | (simp; done) | (simp; omega) | (simp at *; omega) | (split <;> first | omega | (simp; omega))) w) rfl ?_
  refine wl_v (o_not rfl) rfl ?_
  refine wl_nil ?_
  refine wk_then (wc_of_wk ?_)
  refine wc_cond (b := !(patS p)) rfl (fun h115 => ?_) (fun h115 => ?_)
  · have g115 := h115; try simp only [decide_eq_true_eq, decide_eq_false_iff_not] at g115
    have f115 := h115; try simp only [decide_eq_true_eq, decide_eq_false_iff_not, Bool.and_eq_true, Bool.or_eq_true, Bool.not_eq_true', Bool.not_eq_false', Bool.and_eq_false_iff, Bool.or_eq_false_iff, not_or, Int.not_lt, Int.not_le] at f115
    refine wc_seq ?_
    refine wc_region ?_
    refine wl_v (o_assign rfl) rfl ?_
    refine wl_nil ?_
    refine wk_then (wc_of_wk ?_)
    refine wc_ret ?_
    refine wk_then_ret ?_
    refine wk_ret (r_1 rfl rfl) ?_
    exact retv (by simp [matS, f115])
  · have g115 := h115; try simp only [decide_eq_true_eq, decide_eq_false_iff_not] at g115
    have f115 := h115; try simp only [decide_eq_true_eq, decide_eq_false_iff_not, Bool.and_eq_true, Bool.or_eq_true, Bool.not_eq_true', Bool.not_eq_false', Bool.and_eq_false_iff, Bool.or_eq_false_iff, not_or, Int.not_lt, Int.not_le] at f115
    refine wc_skip ?_
    refine wk_then (wc_of_wk ?_)
    refine wc_seq ?_
    refine wc_seq ?_
    refine wc_region ?_
    refine wl_v (o_move rfl) rfl ?_
    refine w_call Tryd.call26 rfl (fun w hw => open_c p (by first | omega | (simp; done) | (simp; omega) | (simp at *; omega) | (split <;> first | omega | (simp; omega))) w) rfl ?_
    refine wl_nil ?_
    refine wk_then (wc_of_wk ?_)
    refine wc_cond (b := hasSuf p [42]) rfl (fun h116 => ?_) (fun h116 => ?_)
    · have g116 := h116; try simp only [decide_eq_true_eq, decide_eq_false_iff_not] at g116
      have f116 := h116; try simp only [decide_eq_true_eq, decide_eq_false_iff_not, Bool.and_eq_true, Bool.or_eq_true, Bool.not_eq_true', Bool.not_eq_false', Bool.and_eq_false_iff, Bool.or_eq_false_iff, not_or, Int.not_lt, Int.not_le] at f116
      refine wc_seq ?_
      refine wc_region ?_
      refine wl_v (o_move rfl) rfl ?_
      refine wl_v (o_move rfl) rfl ?_
      refine w_call Tryd.call25 rfl (fun w hw => prefix_c p (by first | omega | (simp; done) | (simp; omega) | (simp at *; omega) | (split <;> first | omega | (simp; omega))) w) rfl ?_
      have ft117 := trimSuf_len p [42]
      refine w_call Tryd.call27 rfl (fun w hw => hasPre_c s (trimSuf p [42]) (by first | omega | (simp; omega)) w) rfl ?_
      refine wl_v (o_assign rfl) rfl ?_
      refine wl_nil ?_
      refine wk_then (wc_of_wk ?_)
      refine wc_ret ?_
      refine wk_then_ret ?_
      refine wk_ret (r_1 rfl rfl) ?_
      exact retv (by simp [matS, f115, f116])
    · have g116 := h116; try simp only [decide_eq_true_eq, decide_eq_false_iff_not] at g116
      have f116 := h116; try simp only [decide_eq_true_eq, decide_eq_false_iff_not, Bool.and_eq_true, Bool.or_eq_true, Bool.not_eq_true', Bool.not_eq_false', Bool.and_eq_false_iff, Bool.or_eq_false_iff, not_or, Int.not_lt, Int.not_le] at f116
      refine wc_skip ?_
      refine wk_then (wc_of_wk ?_)
      refine wc_seq ?_
      refine wc_region ?_
      refine wl_v (o_move rfl) rfl ?_
      refine wl_v (o_move rfl) rfl ?_
      refine wl_v (o_seq rfl rfl) rfl ?_
      refine wl_v (o_assign rfl) rfl ?_
      refine wl_nil ?_
      refine wk_then (wc_of_wk ?_)
      refine wc_ret ?_
      refine wk_ret (r_1 rfl rfl) ?_
      exact retv (by simp [matS, f115, f116])

theorem covers_c (p : List UInt8) (q : List UInt8) (hp : p.length ≤ 281474976710656) (hq : q.length ≤ 281474976710656) (w : World) : Calls Tryd.prog 13 [.string (B (p)), .string (B (q))].toArray w (RetV w (.bool (covS p q))) := by
  refine enter0 (n := 26) Tryd.func13 rfl Tryd.ntmps13 rfl ?_
  refine wc_seq ?_
  refine wc_region ?_
  refine wl_v (o_assign rfl) rfl ?_
  refine wl_nil ?_
  refine wk_then (wc_of_wk ?_)
  refine wc_seq ?_
  refine wc_seq_mid [(0, .string (B (p))), (1, .string (B (q))), (4, .bool (false)), (21, .bool (((!(patS p)) || ((!(patS q)) || ((hasSuf q [42]) && (!(hasSuf p [42])))))))] [] (φ := True) ?_ (fun hm120 => ?_)
  · refine wc_region ?_
    refine wl_v (o_move rfl) rfl ?_
    refine w_call Tryd.call12 rfl (fun w hw => pattern_c p (by first | omega | (simp; done) | (simp; omega) | (simp at *; omega) | (split <;> first | omega | (simp; omega))) w) rfl ?_
    refine wl_v (o_not rfl) rfl ?_
    refine wl_v (o_move rfl) rfl ?_
    refine bsplit (!(patS p)) (fun h118 => ?_) (fun h118 => ?_)
    · have g118 := h118; try simp only [decide_eq_true_eq, decide_eq_false_iff_not] at g118
      have f118 := h118; try simp only [decide_eq_true_eq, decide_eq_false_iff_not, Bool.and_eq_true, Bool.or_eq_true, Bool.not_eq_true', Bool.not_eq_false', Bool.and_eq_false_iff, Bool.or_eq_false_iff, not_or, Int.not_lt, Int.not_le] at f118
      refine wl_off rfl rfl h118 rfl ?_
      refine wl_off rfl rfl h118 rfl ?_
      refine wl_off rfl rfl h118 rfl ?_
      refine wl_v (o_pick_t rfl h118 rfl) rfl ?_
      refine wl_v (o_move rfl) rfl ?_
      refine wl_off rfl rfl rfl rfl ?_
      refine wl_off rfl rfl rfl rfl ?_
      refine wl_off rfl rfl rfl rfl ?_
      refine wl_off_u rfl rfl rfl ?_
      refine wl_off_u rfl rfl rfl ?_
      refine wl_off_u rfl rfl rfl ?_
      refine wl_off rfl rfl rfl rfl ?_
      refine wl_v (o_pick_t rfl rfl rfl) rfl ?_
      refine wl_nil ?_
      exact wk_then (wk_mid trivial ⟨rfl, rfl, rfl, fb (by first | (simp only [h118, Bool.true_and, Bool.false_and, Bool.true_or, Bool.false_or, Bool.and_true, Bool.and_false, Bool.or_true, Bool.or_false, Bool.not_true, Bool.not_false, cond_true, cond_false, if_true, if_false, reduceIte, Bool.false_eq_true]; done) | (simp only [Bool.true_and, Bool.false_and, Bool.true_or, Bool.false_or, Bool.and_true, Bool.and_false, Bool.or_true, Bool.or_false, Bool.not_true, Bool.not_false, cond_true, cond_false, if_true, if_false, reduceIte, Bool.false_eq_true]; done) | simp [h118]), trivial⟩ .slnil)
    · have g118 := h118; try simp only [decide_eq_true_eq, decide_eq_false_iff_not] at g118
      have f118 := h118; try simp only [decide_eq_true_eq, decide_eq_false_iff_not, Bool.and_eq_true, Bool.or_eq_true, Bool.not_eq_true', Bool.not_eq_false', Bool.and_eq_false_iff, Bool.or_eq_false_iff, not_or, Int.not_lt, Int.not_le] at f118
      refine wl_on rfl rfl h118 ?_
      refine wl_v (o_move rfl) rfl ?_
      refine wl_on rfl rfl h118 ?_
      refine w_call Tryd.call12 rfl (fun w hw => pattern_c q (by first | omega | (simp; done) | (simp; omega) | (simp at *; omega) | (split <;> first | omega | (simp; omega))) w) rfl ?_
      refine wl_on rfl rfl h118 ?_
      refine wl_v (o_not rfl) rfl ?_
      refine wl_v (o_pick_f rfl h118 rfl) rfl ?_
      refine wl_v (o_move rfl) rfl ?_
      refine bsplit (!(patS q)) (fun h119 => ?_) (fun h119 => ?_)
      · have g119 := h119; try simp only [decide_eq_true_eq, decide_eq_false_iff_not] at g119
        have f119 := h119; try simp only [decide_eq_true_eq, decide_eq_false_iff_not, Bool.and_eq_true, Bool.or_eq_true, Bool.not_eq_true', Bool.not_eq_false', Bool.and_eq_false_iff, Bool.or_eq_false_iff, not_or, Int.not_lt, Int.not_le] at f119
        refine wl_off rfl rfl h119 rfl ?_
        refine wl_off rfl rfl h119 rfl ?_
        refine wl_off rfl rfl h119 rfl ?_
        refine wl_off_u rfl rfl rfl ?_
        refine wl_off_u rfl rfl rfl ?_
        refine wl_off_u rfl rfl rfl ?_
        refine wl_off rfl rfl h119 rfl ?_
        refine wl_v (o_pick_t rfl h119 rfl) rfl ?_
        refine wl_nil ?_
        exact wk_then (wk_mid trivial ⟨rfl, rfl, rfl, fb (by first | (simp only [h118, h119, Bool.true_and, Bool.false_and, Bool.true_or, Bool.false_or, Bool.and_true, Bool.and_false, Bool.or_true, Bool.or_false, Bool.not_true, Bool.not_false, cond_true, cond_false, if_true, if_false, reduceIte, Bool.false_eq_true]; done) | (simp only [Bool.true_and, Bool.false_and, Bool.true_or, Bool.false_or, Bool.and_true, Bool.and_false, Bool.or_true, Bool.or_false, Bool.not_true, Bool.not_false, cond_true, cond_false, if_true, if_false, reduceIte, Bool.false_eq_true]; done) | simp [h118, h119]), trivial⟩ .slnil)
      · have g119 := h119; try simp only [decide_eq_true_eq, decide_eq_false_iff_not] at g119
        have f119 := h119; try simp only [decide_eq_true_eq, decide_eq_false_iff_not, Bool.and_eq_true, Bool.or_eq_true, Bool.not_eq_true', Bool.not_eq_false', Bool.and_eq_false_iff, Bool.or_eq_false_iff, not_or, Int.not_lt, Int.not_le] at f119
        refine wl_on rfl rfl h119 ?_
        refine wl_v (o_move rfl) rfl ?_
        refine wl_on rfl rfl h119 ?_
        refine w_call Tryd.call26 rfl (fun w hw => open_c q (by first | omega | (simp; done) | (simp; omega) | (simp at *; omega) | (split <;> first | omega | (simp; omega))) w) rfl ?_
        refine wl_on rfl rfl h119 ?_
        refine wl_v (o_move rfl) rfl ?_
        refine bsplit (hasSuf q [42]) (fun h120 => ?_) (fun h120 => ?_)
        · have g120 := h120; try simp only [decide_eq_true_eq, decide_eq_false_iff_not] at g120
          have f120 := h120; try simp only [decide_eq_true_eq, decide_eq_false_iff_not, Bool.and_eq_true, Bool.or_eq_true, Bool.not_eq_true', Bool.not_eq_false', Bool.and_eq_false_iff, Bool.or_eq_false_iff, not_or, Int.not_lt, Int.not_le] at f120
          refine wl_on rfl rfl h120 ?_
          refine wl_v (o_move rfl) rfl ?_
          refine wl_on rfl rfl h120 ?_
          refine w_call Tryd.call26 rfl (fun w hw => open_c p (by first | omega | (simp; done) | (simp; omega) | (simp at *; omega) | (split <;> first | omega | (simp; omega))) w) rfl ?_
          refine wl_on rfl rfl h120 ?_
          refine wl_v (o_not rfl) rfl ?_
          refine wl_on rfl rfl h119 ?_
          refine wl_v (o_pick_t rfl h120 rfl) rfl ?_
          refine wl_v (o_pick_f rfl h119 rfl) rfl ?_
          refine wl_nil ?_
          exact wk_then (wk_mid trivial ⟨rfl, rfl, rfl, fb (by first | (simp only [h118, h119, h120, Bool.true_and, Bool.false_and, Bool.true_or, Bool.false_or, Bool.and_true, Bool.and_false, Bool.or_true, Bool.or_false, Bool.not_true, Bool.not_false, cond_true, cond_false, if_true, if_false, reduceIte, Bool.false_eq_true]; done) | (simp only [Bool.true_and, Bool.false_and, Bool.true_or, Bool.false_or, Bool.and_true, Bool.and_false, Bool.or_true, Bool.or_false, Bool.not_true, Bool.not_false, cond_true, cond_false, if_true, if_false, reduceIte, Bool.false_eq_true]; done) | simp [h118, h119, h120]), trivial⟩ .slnil)
        · have g120 := h120; try simp only [decide_eq_true_eq, decide_eq_false_iff_not] at g120
          have f120 := h120; try simp only [decide_eq_true_eq, decide_eq_false_iff_not, Bool.and_eq_true, Bool.or_eq_true, Bool.not_eq_true', Bool.not_eq_false', Bool.and_eq_false_iff, Bool.or_eq_false_iff, not_or, Int.not_lt, Int.not_le] at f120
          refine wl_off rfl rfl h120 rfl ?_
          refine wl_off rfl rfl h120 rfl ?_
          refine wl_off rfl rfl h120 rfl ?_
          refine wl_on rfl rfl h119 ?_
          refine wl_v (o_pick_f rfl h120 rfl) rfl ?_
          refine wl_v (o_pick_f rfl h119 rfl) rfl ?_
          refine wl_nil ?_
          exact wk_then (wk_mid trivial ⟨rfl, rfl, rfl, fb (by first | (simp only [h118, h119, h120, Bool.true_and, Bool.false_and, Bool.true_or, Bool.false_or, Bool.and_true, Bool.and_false, Bool.or_true, Bool.or_false, Bool.not_true, Bool.not_false, cond_true, cond_false, if_true, if_false, reduceIte, Bool.false_eq_true]; done) | (simp only [Bool.true_and, Bool.false_and, Bool.true_or, Bool.false_or, Bool.and_true, Bool.and_false, Bool.or_true, Bool.or_false, Bool.not_true, Bool.not_false, cond_true, cond_false, if_true, if_false, reduceIte, Bool.false_eq_true]; done) | simp [h118, h119, h120]), trivial⟩ .slnil)
  refine wc_cond (b := ((!(patS p)) || ((!(patS q)) || ((hasSuf q [42]) && (!(hasSuf p [42])))))) rfl (fun h122 => ?_) (fun h122 => ?_)
  · have g122 := h122; try simp only [decide_eq_true_eq, decide_eq_false_iff_not] at g122
    have f122 := h122; try simp only [decide_eq_true_eq, decide_eq_false_iff_not, Bool.and_eq_true, Bool.or_eq_true, Bool.not_eq_true', Bool.not_eq_false', Bool.and_eq_false_iff, Bool.or_eq_false_iff, not_or, Int.not_lt, Int.not_le] at f122
    refine wc_seq ?_
    refine wc_region ?_
    refine wl_v (o_assign rfl) rfl ?_
    refine wl_nil ?_
    refine wk_then (wc_of_wk ?_)
    refine wc_ret ?_
    refine wk_then_ret ?_
    refine wk_ret (r_1 rfl rfl) ?_
    exact retv (by simp only [covS]; grind)
  · have g122 := h122; try simp only [decide_eq_true_eq, decide_eq_false_iff_not] at g122
    have f122 := h122; try simp only [decide_eq_true_eq, decide_eq_false_iff_not, Bool.and_eq_true, Bool.or_eq_true, Bool.not_eq_true', Bool.not_eq_false', Bool.and_eq_false_iff, Bool.or_eq_false_iff, not_or, Int.not_lt, Int.not_le] at f122
    refine wc_skip ?_
    refine wk_then (wc_of_wk ?_)
    refine wc_seq ?_
    refine wc_region ?_
    refine wl_v (o_move rfl) rfl ?_
    refine wl_v (o_move rfl) rfl ?_
    refine w_call Tryd.call25 rfl (fun w hw => prefix_c q (by first | omega | (simp; done) | (simp; omega) | (simp at *; omega) | (split <;> first | omega | (simp; omega))) w) rfl ?_
    have ft123 := trimSuf_len q [42]
    refine w_call Tryd.call14 rfl (fun w hw => matches_c p (trimSuf q [42]) (by first | omega | (simp; done) | (simp; omega) | (simp at *; omega) | (split <;> first | omega | (simp; omega))) (by first | omega | (simp; done) | (simp; omega) | (simp at *; omega) | (split <;> first | omega | (simp; omega))) w) rfl ?_
    refine wl_v (o_assign rfl) rfl ?_
    refine wl_nil ?_
    refine wk_then (wc_of_wk ?_)
    refine wc_ret ?_
    refine wk_ret (r_1 rfl rfl) ?_
    exact retv (by simp only [covS]; grind)

end Go.Proofs.YtjkdkmcklocmnaaDoor
