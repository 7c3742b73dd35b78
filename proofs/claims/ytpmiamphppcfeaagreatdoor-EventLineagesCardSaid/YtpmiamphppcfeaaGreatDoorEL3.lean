/-
  Texts of the proof, put together: IdR, QG, QS, QO, RowQ, PQB, WQB, PVa, WVa, PVb.
-/
import Derived.Test.YtpmiamphppcfeaaGreatDoorEL2
import Derived.Laws.BytesString
import Derived.Lib.Builder
import Derived.Lib.UnsafeStr
import Derived.Lib.AppendStr
import Derived.Laws.Externs
import Derived.Deep.Slices
import Derived.ChangeArms
import Derived.DataReads
import Derived.Test.YtpmiamphppcfeaaGreatDoorProg
import Derived.Laws.Tables
import Derived.Lib.Bytealg
import Derived.Lib.SmallJoins
/-
 Walks, printed by a small program of ours (gsym.py).
-/
namespace Go.Proofs.YtpmiamphppcfeaaGreatDoor
open Go Go.RowKit
set_option linter.unusedVariables false
set_option linter.unusedSimpArgs false
set_option maxRecDepth 100000
theorem id_r (p : List UInt8) (hp : p.length ≤ 281474976710656) (w : World) : Calls Tryz.prog 42 [.string (B (p))].toArray w (RetV w (.bool (idS p))) := by
 refine enter0 (n := 23) Tryz.func42 rfl Tryz.ntmps42 rfl ?_
 refine wc_seq ?_
 refine wc_region ?_
 refine wl_v (o_assign rfl) rfl ?_
 refine wl_nil ?_
 refine wk_then (wc_of_wk ?_)
 refine wc_seq ?_
 refine wc_seq_mid [(0, .string (B (p))), (2, .bool (false)), (11, .bool (((decide (((p.length : Int)) < (1))) || (decide ((64) < ((p.length : Int)))))))] [] (φ := True) ?_ (fun hm93 => ?_)
 ·refine wc_region ?_
  refine wl_v (o_move rfl) rfl ?_
  refine wl_v (o_len_s Tryz.underlying9 rfl) rfl ?_
  refine wl_v (o_lt rfl rfl) rfl ?_
  refine wl_v (o_move rfl) rfl ?_
  refine bsplit (decide (((p.length : Int)) < (1))) (fun h93 => ?_) (fun h93 => ?_)
  ·have g93 := h93; try simp only [decide_eq_true_eq, decide_eq_false_iff_not] at g93
   have f93 := h93; try simp only [decide_eq_true_eq, decide_eq_false_iff_not, Bool.and_eq_true, Bool.or_eq_true, Bool.not_eq_true', Bool.not_eq_false', Bool.and_eq_false_iff, Bool.or_eq_false_iff, not_or, Int.not_lt, Int.not_le] at f93
   refine wl_off rfl rfl h93 rfl ?_
   refine wl_off rfl rfl h93 rfl ?_
   refine wl_off rfl rfl h93 rfl ?_
   refine wl_v (o_pick_t rfl h93 rfl) rfl ?_
   refine wl_nil ?_
   exact wk_then (wk_mid trivial ⟨rfl, rfl, fb (by first | (simp only [h93, Bool.true_and, Bool.false_and, Bool.true_or, Bool.false_or, Bool.and_true, Bool.and_false, Bool.or_true, Bool.or_false, Bool.not_true, Bool.not_false, cond_true, cond_false, if_true, if_false, reduceIte, Bool.false_eq_true]; done) | (simp only [Bool.true_and, Bool.false_and, Bool.true_or, Bool.false_or, Bool.and_true, Bool.and_false, Bool.or_true, Bool.or_false, Bool.not_true, Bool.not_false, cond_true, cond_false, if_true, if_false, reduceIte, Bool.false_eq_true]; done) | simp [h93]), trivial⟩ .slnil)
  ·have g93 := h93; try simp only [decide_eq_true_eq, decide_eq_false_iff_not] at g93
   have f93 := h93; try simp only [decide_eq_true_eq, decide_eq_false_iff_not, Bool.and_eq_true, Bool.or_eq_true, Bool.not_eq_true', Bool.not_eq_false', Bool.and_eq_false_iff, Bool.or_eq_false_iff, not_or, Int.not_lt, Int.not_le] at f93
   refine wl_on rfl rfl h93 ?_
   refine wl_v (o_move rfl) rfl ?_
   refine wl_on rfl rfl h93 ?_
   refine wl_v (o_len_s Tryz.underlying9 rfl) rfl ?_
   refine wl_on rfl rfl h93 ?_
   refine wl_v (o_gt rfl rfl) rfl ?_
   refine wl_v (o_pick_f rfl h93 rfl) rfl ?_
   refine wl_nil ?_
   exact wk_then (wk_mid trivial ⟨rfl, rfl, fb (by first | (simp only [h93, Bool.true_and, Bool.false_and, Bool.true_or, Bool.false_or, Bool.and_true, Bool.and_false, Bool.or_true, Bool.or_false, Bool.not_true, Bool.not_false, cond_true, cond_false, if_true, if_false, reduceIte, Bool.false_eq_true]; done) | (simp only [Bool.true_and, Bool.false_and, Bool.true_or, Bool.false_or, Bool.and_true, Bool.and_false, Bool.or_true, Bool.or_false, Bool.not_true, Bool.not_false, cond_true, cond_false, if_true, if_false, reduceIte, Bool.false_eq_true]; done) | simp [h93]), trivial⟩ .slnil)
 refine wc_cond (b := ((decide (((p.length : Int)) < (1))) || (decide ((64) < ((p.length : Int)))))) rfl (fun h95 => ?_) (fun h95 => ?_)
 ·have g95 := h95; try simp only [decide_eq_true_eq, decide_eq_false_iff_not] at g95
  have f95 := h95; try simp only [decide_eq_true_eq, decide_eq_false_iff_not, Bool.and_eq_true, Bool.or_eq_true, Bool.not_eq_true', Bool.not_eq_false', Bool.and_eq_false_iff, Bool.or_eq_false_iff, not_or, Int.not_lt, Int.not_le] at f95
  refine wc_seq ?_
  refine wc_region ?_
  refine wl_v (o_assign rfl) rfl ?_
  refine wl_nil ?_
  refine wk_then (wc_of_wk ?_)
  refine wc_ret ?_
  refine wk_then_ret ?_
  refine wk_ret (r_1 rfl rfl) ?_
  exact retv (by rw [idR_no h95])
 ·have g95 := h95; try simp only [decide_eq_true_eq, decide_eq_false_iff_not] at g95
  have f95 := h95; try simp only [decide_eq_true_eq, decide_eq_false_iff_not, Bool.and_eq_true, Bool.or_eq_true, Bool.not_eq_true', Bool.not_eq_false', Bool.and_eq_false_iff, Bool.or_eq_false_iff, not_or, Int.not_lt, Int.not_le] at f95
  refine wc_skip ?_
  refine wk_then (wc_of_wk ?_)
  refine wc_seq ?_
  refine wc_seq ?_
  refine wc_region ?_
  refine wl_v (o_assign rfl) rfl ?_
  refine wl_nil ?_
  refine wk_then (wc_of_wk ?_)
  refine wc_block ?_
  refine wc_loop (S := Nat) (fun (k : Nat) => k ≤ p.length ∧ idS p = allFrom idCh k (p.drop k)) (fun (k : Nat) => [(3, .int .i64 ((k : Int))), (0, .string (B (p)))]) (fun (k : Nat) => []) (fun (k : Nat) => p.length - k) (0) ?_ ⟨fi (by first | rfl | (simp; done) | omega | (simp; omega)), rfl, trivial⟩ .slnil ?_
  ·exact ⟨Nat.zero_le _, idR_0 h95⟩
  rintro k hi0
  refine wc_seq ?_
  refine wc_seq ?_
  refine wc_region ?_
  refine wl_v (o_move rfl) rfl ?_
  refine wl_v (o_move rfl) rfl ?_
  refine wl_v (o_len_s Tryz.underlying9 rfl) rfl ?_
  refine wl_v (o_lt rfl rfl) rfl ?_
  refine wl_nil ?_
  refine wk_then (wc_of_wk ?_)
  refine wc_cond (b := decide (((k : Int)) < ((p.length : Int)))) rfl (fun h96 => ?_) (fun h96 => ?_)
  ·have g96 := h96; try simp only [decide_eq_true_eq, decide_eq_false_iff_not] at g96
   have f96 := h96; try simp only [decide_eq_true_eq, decide_eq_false_iff_not, Bool.and_eq_true, Bool.or_eq_true, Bool.not_eq_true', Bool.not_eq_false', Bool.and_eq_false_iff, Bool.or_eq_false_iff, not_or, Int.not_lt, Int.not_le] at f96
   refine wc_skip ?_
   refine wk_then (wc_of_wk ?_)
   refine wc_seq ?_
   refine wc_block ?_
   refine wc_seq ?_
   refine wc_region ?_
   refine wl_v (o_move rfl) rfl ?_
   refine wl_v (o_move rfl) rfl ?_
   refine wl_v (o_index_b Tryz.underlying9 rfl rfl (by first | omega | (simp; omega) | (simp at *; omega)) (by first | omega | (simp; omega) | (simp at *; omega))) rfl ?_
   refine w_call Tryz.call68 rfl (fun w hw => part_r (bat p (k : Int)) w) rfl ?_
   refine wl_v (o_not rfl) rfl ?_
   refine wl_nil ?_
   refine wk_then (wc_of_wk ?_)
   refine wc_cond (b := !(letterS (bat p (k : Int)))) rfl (fun h97 => ?_) (fun h97 => ?_)
   ·have g97 := h97; try simp only [decide_eq_true_eq, decide_eq_false_iff_not] at g97
    have f97 := h97; try simp only [decide_eq_true_eq, decide_eq_false_iff_not, Bool.and_eq_true, Bool.or_eq_true, Bool.not_eq_true', Bool.not_eq_false', Bool.and_eq_false_iff, Bool.or_eq_false_iff, not_or, Int.not_lt, Int.not_le] at f97
    refine wc_seq ?_
    refine wc_region ?_
    refine wl_v (o_assign rfl) rfl ?_
    refine wl_nil ?_
    refine wk_then (wc_of_wk ?_)
    refine wc_ret ?_
    refine wk_in_ret ?_
    refine wk_then_ret ?_
    refine wk_then_ret ?_
    refine wk_in_ret ?_
    refine wk_then_ret ?_
    refine wk_ret (r_1 rfl rfl) ?_
    exact retv (by rw [at_no (idCh_any k) hi0 g96 f97])
   ·have g97 := h97; try simp only [decide_eq_true_eq, decide_eq_false_iff_not] at g97
    have f97 := h97; try simp only [decide_eq_true_eq, decide_eq_false_iff_not, Bool.and_eq_true, Bool.or_eq_true, Bool.not_eq_true', Bool.not_eq_false', Bool.and_eq_false_iff, Bool.or_eq_false_iff, not_or, Int.not_lt, Int.not_le] at f97
    refine wc_skip ?_
    refine wk_in_norm ?_
    refine wk_then (wc_of_wk ?_)
    refine wc_region ?_
    refine wl_v (o_move rfl) rfl ?_
    refine wl_v (o_add rfl rfl (IntWalk.i64_in _ (by omega))) rfl ?_
    refine wl_v (o_assign rfl) rfl ?_
    refine wl_nil ?_
    refine wk_then ?_
    refine wk_some (k + 1) ?_ ⟨fi (by first | rfl | (simp; done) | omega | (simp; omega)), rfl, trivial⟩ .slnil
    exact ⟨at_next (idCh_any k) hi0 g96 f97, by omega⟩
  ·have g96 := h96; try simp only [decide_eq_true_eq, decide_eq_false_iff_not] at g96
   have f96 := h96; try simp only [decide_eq_true_eq, decide_eq_false_iff_not, Bool.and_eq_true, Bool.or_eq_true, Bool.not_eq_true', Bool.not_eq_false', Bool.and_eq_false_iff, Bool.or_eq_false_iff, not_or, Int.not_lt, Int.not_le] at f96
   refine wc_exit ?_
   refine wk_then_exit ?_
   refine wk_then_exit ?_
   refine wk_in_hit ?_
   refine wk_then (wc_of_wk ?_)
   refine wc_seq ?_
   refine wc_region ?_
   refine wl_v (o_assign rfl) rfl ?_
   refine wl_nil ?_
   refine wk_then (wc_of_wk ?_)
   refine wc_ret ?_
   refine wk_ret (r_1 rfl rfl) ?_
   exact retv (by rw [at_end hi0 g96])

theorem form_r (p : List UInt8) (hp : p.length ≤ 281474976710656) (w : World) : Calls Tryz.prog 62 [.string (B (p))].toArray w (RetV w (.bool (decS p))) := by
 refine enter0 (n := 53) Tryz.func62 rfl Tryz.ntmps62 rfl ?_
 refine wc_seq ?_
 refine wc_region ?_
 refine wl_v (o_assign rfl) rfl ?_
 refine wl_nil ?_
 refine wk_then (wc_of_wk ?_)
 refine wc_seq ?_
 refine wc_region ?_
 refine wl_v (o_move rfl) rfl ?_
 refine wl_v (o_assign rfl) rfl ?_
 refine wl_nil ?_
 refine wk_then (wc_of_wk ?_)
 refine wc_seq_mid [(2, .bool (false)), (3, .string (B ((if ((decide ((0) < ((p.length : Int)))) && (decide ((bat p 0) = (45)))) = true then List.drop (Int.toNat (1)) p else p))))] [] (φ := (!((decide ((0) < ((p.length : Int)))) && (decide ((bat p 0) = (45)))) || (!(((decide ((0) < (((List.drop (Int.toNat (1)) p).length : Int)))) && (decide ((bat (List.drop (Int.toNat (1)) p) 0) = (48))))))) = true) ?_ (fun hm103 => ?_)
 ·refine wc_seq_mid [(2, .bool (false)), (3, .string (B (p))), (13, .bool (((decide ((0) < ((p.length : Int)))) && (decide ((bat p 0) = (45))))))] [] (φ := True) ?_ (fun hm98 => ?_)
  ·refine wc_region ?_
   refine wl_v (o_move rfl) rfl ?_
   refine wl_v (o_len_s Tryz.underlying9 rfl) rfl ?_
   refine wl_v (o_gt rfl rfl) rfl ?_
   refine wl_v (o_move rfl) rfl ?_
   refine bsplit (decide ((0) < ((p.length : Int)))) (fun h98 => ?_) (fun h98 => ?_)
   ·have g98 := h98; try simp only [decide_eq_true_eq, decide_eq_false_iff_not] at g98
    have f98 := h98; try simp only [decide_eq_true_eq, decide_eq_false_iff_not, Bool.and_eq_true, Bool.or_eq_true, Bool.not_eq_true', Bool.not_eq_false', Bool.and_eq_false_iff, Bool.or_eq_false_iff, not_or, Int.not_lt, Int.not_le] at f98
    refine wl_on rfl rfl h98 ?_
    refine wl_v (o_move rfl) rfl ?_
    refine wl_on rfl rfl h98 ?_
    refine wl_v (o_index_b Tryz.underlying9 rfl rfl (by first | omega | (simp; omega) | (simp at *; omega) | exact len_pos (by assumption)) (by first | omega | (simp; omega) | (simp at *; omega) | exact len_pos (by assumption))) rfl ?_
    refine wl_on rfl rfl h98 ?_
    refine wl_v (o_eq rfl rfl) rfl ?_
    refine wl_v (o_pick_t rfl h98 rfl) rfl ?_
    refine wl_nil ?_
    exact wk_then (wk_mid trivial ⟨rfl, rfl, fb (by first | (simp only [h98, Bool.true_and, Bool.false_and, Bool.true_or, Bool.false_or, Bool.and_true, Bool.and_false, Bool.or_true, Bool.or_false, Bool.not_true, Bool.not_false, cond_true, cond_false, if_true, if_false, reduceIte, Bool.false_eq_true]; done) | (simp only [Bool.true_and, Bool.false_and, Bool.true_or, Bool.false_or, Bool.and_true, Bool.and_false, Bool.or_true, Bool.or_false, Bool.not_true, Bool.not_false, cond_true, cond_false, if_true, if_false, reduceIte, Bool.false_eq_true]; done) | simp [h98]), trivial⟩ .slnil)
   ·have g98 := h98; try simp only [decide_eq_true_eq, decide_eq_false_iff_not] at g98
    have f98 := h98; try simp only [decide_eq_true_eq, decide_eq_false_iff_not, Bool.and_eq_true, Bool.or_eq_true, Bool.not_eq_true', Bool.not_eq_false', Bool.and_eq_false_iff, Bool.or_eq_false_iff, not_or, Int.not_lt, Int.not_le] at f98
    refine wl_off rfl rfl h98 rfl ?_
    refine wl_off rfl rfl h98 rfl ?_
    refine wl_off rfl rfl h98 rfl ?_
    refine wl_v (o_pick_f rfl h98 rfl) rfl ?_
    refine wl_nil ?_
    exact wk_then (wk_mid trivial ⟨rfl, rfl, fb (by first | (simp only [h98, Bool.true_and, Bool.false_and, Bool.true_or, Bool.false_or, Bool.and_true, Bool.and_false, Bool.or_true, Bool.or_false, Bool.not_true, Bool.not_false, cond_true, cond_false, if_true, if_false, reduceIte, Bool.false_eq_true]; done) | (simp only [Bool.true_and, Bool.false_and, Bool.true_or, Bool.false_or, Bool.and_true, Bool.and_false, Bool.or_true, Bool.or_false, Bool.not_true, Bool.not_false, cond_true, cond_false, if_true, if_false, reduceIte, Bool.false_eq_true]; done) | simp [h98]), trivial⟩ .slnil)
  refine wc_cond (b := ((decide ((0) < ((p.length : Int)))) && (decide ((bat p 0) = (45))))) rfl (fun h100 => ?_) (fun h100 => ?_)
  ·have g100 := h100; try simp only [decide_eq_true_eq, decide_eq_false_iff_not] at g100
   have f100 := h100; try simp only [decide_eq_true_eq, decide_eq_false_iff_not, Bool.and_eq_true, Bool.or_eq_true, Bool.not_eq_true', Bool.not_eq_false', Bool.and_eq_false_iff, Bool.or_eq_false_iff, not_or, Int.not_lt, Int.not_le] at f100
   refine wc_seq ?_
   refine wc_region ?_
   refine wl_v (o_move rfl) rfl ?_
   refine wl_v (o_slice_lo Tryz.underlying9 rfl rfl (by first | omega | (simp; omega)) (by first | omega | (simp; omega))) rfl ?_
   refine wl_v (o_assign rfl) rfl ?_
   refine wl_nil ?_
   refine wk_then (wc_of_wk ?_)
   refine wc_seq_mid [(2, .bool (false)), (3, .string (B (List.drop (Int.toNat (1)) p))), (23, .bool (((decide ((0) < (((List.drop (Int.toNat (1)) p).length : Int)))) && (decide ((bat (List.drop (Int.toNat (1)) p) 0) = (48))))))] [] (φ := True) ?_ (fun hm101 => ?_)
   ·refine wc_region ?_
    refine wl_v (o_move rfl) rfl ?_
    refine wl_v (o_len_s Tryz.underlying9 rfl) rfl ?_
    refine wl_v (o_gt rfl rfl) rfl ?_
    refine wl_v (o_move rfl) rfl ?_
    refine bsplit (decide ((0) < (((List.drop (Int.toNat (1)) p).length : Int)))) (fun h101 => ?_) (fun h101 => ?_)
    ·have g101 := h101; try simp only [decide_eq_true_eq, decide_eq_false_iff_not] at g101
     have f101 := h101; try simp only [decide_eq_true_eq, decide_eq_false_iff_not, Bool.and_eq_true, Bool.or_eq_true, Bool.not_eq_true', Bool.not_eq_false', Bool.and_eq_false_iff, Bool.or_eq_false_iff, not_or, Int.not_lt, Int.not_le] at f101
     refine wl_on rfl rfl h101 ?_
     refine wl_v (o_move rfl) rfl ?_
     refine wl_on rfl rfl h101 ?_
     refine wl_v (o_index_b Tryz.underlying9 rfl rfl (by first | omega | (simp; omega) | (simp at *; omega) | exact len_pos (by assumption)) (by first | omega | (simp; omega) | (simp at *; omega) | exact len_pos (by assumption))) rfl ?_
     refine wl_on rfl rfl h101 ?_
     refine wl_v (o_eq rfl rfl) rfl ?_
     refine wl_v (o_pick_t rfl h101 rfl) rfl ?_
     refine wl_nil ?_
     exact wk_then (wk_mid trivial ⟨rfl, rfl, fb (by first | (simp only [h100, h101, Bool.true_and, Bool.false_and, Bool.true_or, Bool.false_or, Bool.and_true, Bool.and_false, Bool.or_true, Bool.or_false, Bool.not_true, Bool.not_false, cond_true, cond_false, if_true, if_false, reduceIte, Bool.false_eq_true]; done) | (simp only [Bool.true_and, Bool.false_and, Bool.true_or, Bool.false_or, Bool.and_true, Bool.and_false, Bool.or_true, Bool.or_false, Bool.not_true, Bool.not_false, cond_true, cond_false, if_true, if_false, reduceIte, Bool.false_eq_true]; done) | simp [h100, h101]), trivial⟩ .slnil)
    ·have g101 := h101; try simp only [decide_eq_true_eq, decide_eq_false_iff_not] at g101
     have f101 := h101; try simp only [decide_eq_true_eq, decide_eq_false_iff_not, Bool.and_eq_true, Bool.or_eq_true, Bool.not_eq_true', Bool.not_eq_false', Bool.and_eq_false_iff, Bool.or_eq_false_iff, not_or, Int.not_lt, Int.not_le] at f101
     refine wl_off rfl rfl h101 rfl ?_
     refine wl_off rfl rfl h101 rfl ?_
     refine wl_off rfl rfl h101 rfl ?_
     refine wl_v (o_pick_f rfl h101 rfl) rfl ?_
     refine wl_nil ?_
     exact wk_then (wk_mid trivial ⟨rfl, rfl, fb (by first | (simp only [h100, h101, Bool.true_and, Bool.false_and, Bool.true_or, Bool.false_or, Bool.and_true, Bool.and_false, Bool.or_true, Bool.or_false, Bool.not_true, Bool.not_false, cond_true, cond_false, if_true, if_false, reduceIte, Bool.false_eq_true]; done) | (simp only [Bool.true_and, Bool.false_and, Bool.true_or, Bool.false_or, Bool.and_true, Bool.and_false, Bool.or_true, Bool.or_false, Bool.not_true, Bool.not_false, cond_true, cond_false, if_true, if_false, reduceIte, Bool.false_eq_true]; done) | simp [h100, h101]), trivial⟩ .slnil)
   refine wc_cond (b := ((decide ((0) < (((List.drop (Int.toNat (1)) p).length : Int)))) && (decide ((bat (List.drop (Int.toNat (1)) p) 0) = (48))))) rfl (fun h103 => ?_) (fun h103 => ?_)
   ·have g103 := h103; try simp only [decide_eq_true_eq, decide_eq_false_iff_not] at g103
    have f103 := h103; try simp only [decide_eq_true_eq, decide_eq_false_iff_not, Bool.and_eq_true, Bool.or_eq_true, Bool.not_eq_true', Bool.not_eq_false', Bool.and_eq_false_iff, Bool.or_eq_false_iff, not_or, Int.not_lt, Int.not_le] at f103
    refine wc_seq ?_
    refine wc_region ?_
    refine wl_v (o_assign rfl) rfl ?_
    refine wl_nil ?_
    refine wk_then (wc_of_wk ?_)
    refine wc_ret ?_
    refine wk_then_ret ?_
    refine wk_ret (r_1 rfl rfl) ?_
    exact retv (by rw [form_no1 (by simp only [sgnS]; exact h100) (f103).2])
   ·have g103 := h103; try simp only [decide_eq_true_eq, decide_eq_false_iff_not] at g103
    have f103 := h103; try simp only [decide_eq_true_eq, decide_eq_false_iff_not, Bool.and_eq_true, Bool.or_eq_true, Bool.not_eq_true', Bool.not_eq_false', Bool.and_eq_false_iff, Bool.or_eq_false_iff, not_or, Int.not_lt, Int.not_le] at f103
    refine wc_skip ?_
    exact wk_then (wk_mid (by first | (simp only [h100, h103, Bool.true_and, Bool.false_and, Bool.true_or, Bool.false_or, Bool.and_true, Bool.and_false, Bool.or_true, Bool.or_false, Bool.not_true, Bool.not_false, cond_true, cond_false, if_true, if_false, reduceIte, Bool.false_eq_true]; done) | (simp only [Bool.true_and, Bool.false_and, Bool.true_or, Bool.false_or, Bool.and_true, Bool.and_false, Bool.or_true, Bool.or_false, Bool.not_true, Bool.not_false, cond_true, cond_false, if_true, if_false, reduceIte, Bool.false_eq_true]; done) | simp [h100, h103]) ⟨rfl, fs (by first | (simp only [h100, h103, Bool.true_and, Bool.false_and, Bool.true_or, Bool.false_or, Bool.and_true, Bool.and_false, Bool.or_true, Bool.or_false, Bool.not_true, Bool.not_false, cond_true, cond_false, if_true, if_false, reduceIte, Bool.false_eq_true]; done) | (simp only [Bool.true_and, Bool.false_and, Bool.true_or, Bool.false_or, Bool.and_true, Bool.and_false, Bool.or_true, Bool.or_false, Bool.not_true, Bool.not_false, cond_true, cond_false, if_true, if_false, reduceIte, Bool.false_eq_true]; done) | simp [h100, h103]), trivial⟩ .slnil)
  ·have g100 := h100; try simp only [decide_eq_true_eq, decide_eq_false_iff_not] at g100
   have f100 := h100; try simp only [decide_eq_true_eq, decide_eq_false_iff_not, Bool.and_eq_true, Bool.or_eq_true, Bool.not_eq_true', Bool.not_eq_false', Bool.and_eq_false_iff, Bool.or_eq_false_iff, not_or, Int.not_lt, Int.not_le] at f100
   refine wc_skip ?_
   exact wk_then (wk_mid (by first | (simp only [h100, Bool.true_and, Bool.false_and, Bool.true_or, Bool.false_or, Bool.and_true, Bool.and_false, Bool.or_true, Bool.or_false, Bool.not_true, Bool.not_false, cond_true, cond_false, if_true, if_false, reduceIte, Bool.false_eq_true]; done) | (simp only [Bool.true_and, Bool.false_and, Bool.true_or, Bool.false_or, Bool.and_true, Bool.and_false, Bool.or_true, Bool.or_false, Bool.not_true, Bool.not_false, cond_true, cond_false, if_true, if_false, reduceIte, Bool.false_eq_true]; done) | simp [h100]) ⟨rfl, fs (by first | (simp only [h100, Bool.true_and, Bool.false_and, Bool.true_or, Bool.false_or, Bool.and_true, Bool.and_false, Bool.or_true, Bool.or_false, Bool.not_true, Bool.not_false, cond_true, cond_false, if_true, if_false, reduceIte, Bool.false_eq_true]; done) | (simp only [Bool.true_and, Bool.false_and, Bool.true_or, Bool.false_or, Bool.and_true, Bool.and_false, Bool.or_true, Bool.or_false, Bool.not_true, Bool.not_false, cond_true, cond_false, if_true, if_false, reduceIte, Bool.false_eq_true]; done) | simp [h100]), trivial⟩ .slnil)
 have g103 := hm103; try simp only [decide_eq_true_eq, decide_eq_false_iff_not] at g103
 have f103 := hm103; try simp only [decide_eq_true_eq, decide_eq_false_iff_not, Bool.and_eq_true, Bool.or_eq_true, Bool.not_eq_true', Bool.not_eq_false', Bool.and_eq_false_iff, Bool.or_eq_false_iff, not_or, Int.not_lt, Int.not_le] at f103
 have hdg : digs p = (if ((decide ((0) < ((p.length : Int)))) && (decide ((bat p 0) = (45)))) = true then List.drop (Int.toNat (1)) p else p) := rfl
 have hdl := digs_len p
 have hform : sgnS p = true → ¬ ((0 : Int) < (digs p).length ∧ bat (digs p) 0 = 48) := by intro hs; rw [show digs p = List.drop 1 p from by simp [digs, hs]]; simp only [sgnS] at hs; intro hx; simp_all; grind
 rw [hdg] at hdl hform
 clear hm103 g103 f103
 generalize (if ((decide ((0) < ((p.length : Int)))) && (decide ((bat p 0) = (45)))) = true then List.drop (Int.toNat (1)) p else p) = dg at hdg hdl hform ⊢
 refine wc_seq ?_
 refine wc_seq_mid [(2, .bool (false)), (3, .string (B (dg))), (36, .bool (((decide (((dg.length : Int)) = (0))) || ((decide ((1) < ((dg.length : Int)))) && (decide ((bat dg 0) = (48)))))))] [] (φ := True) ?_ (fun hm106 => ?_)
 ·refine wc_region ?_
  refine wl_v (o_move rfl) rfl ?_
  refine wl_v (o_len_s Tryz.underlying9 rfl) rfl ?_
  refine wl_v (o_eq rfl rfl) rfl ?_
  refine wl_v (o_move rfl) rfl ?_
  refine bsplit (decide (((dg.length : Int)) = (0))) (fun h105 => ?_) (fun h105 => ?_)
  ·have g105 := h105; try simp only [decide_eq_true_eq, decide_eq_false_iff_not] at g105
   have f105 := h105; try simp only [decide_eq_true_eq, decide_eq_false_iff_not, Bool.and_eq_true, Bool.or_eq_true, Bool.not_eq_true', Bool.not_eq_false', Bool.and_eq_false_iff, Bool.or_eq_false_iff, not_or, Int.not_lt, Int.not_le] at f105
   refine wl_off rfl rfl h105 rfl ?_
   refine wl_off rfl rfl h105 rfl ?_
   refine wl_off rfl rfl h105 rfl ?_
   refine wl_off rfl rfl h105 rfl ?_
   refine wl_off_u rfl rfl rfl ?_
   refine wl_off_u rfl rfl rfl ?_
   refine wl_off_u rfl rfl rfl ?_
   refine wl_off rfl rfl h105 rfl ?_
   refine wl_v (o_pick_t rfl h105 rfl) rfl ?_
   refine wl_nil ?_
   exact wk_then (wk_mid trivial ⟨rfl, rfl, fb (by first | (simp only [h105, Bool.true_and, Bool.false_and, Bool.true_or, Bool.false_or, Bool.and_true, Bool.and_false, Bool.or_true, Bool.or_false, Bool.not_true, Bool.not_false, cond_true, cond_false, if_true, if_false, reduceIte, Bool.false_eq_true]; done) | (simp only [Bool.true_and, Bool.false_and, Bool.true_or, Bool.false_or, Bool.and_true, Bool.and_false, Bool.or_true, Bool.or_false, Bool.not_true, Bool.not_false, cond_true, cond_false, if_true, if_false, reduceIte, Bool.false_eq_true]; done) | simp [h105]), trivial⟩ .slnil)
  ·have g105 := h105; try simp only [decide_eq_true_eq, decide_eq_false_iff_not] at g105
   have f105 := h105; try simp only [decide_eq_true_eq, decide_eq_false_iff_not, Bool.and_eq_true, Bool.or_eq_true, Bool.not_eq_true', Bool.not_eq_false', Bool.and_eq_false_iff, Bool.or_eq_false_iff, not_or, Int.not_lt, Int.not_le] at f105
   refine wl_on rfl rfl h105 ?_
   refine wl_v (o_move rfl) rfl ?_
   refine wl_on rfl rfl h105 ?_
   refine wl_v (o_len_s Tryz.underlying9 rfl) rfl ?_
   refine wl_on rfl rfl h105 ?_
   refine wl_v (o_gt rfl rfl) rfl ?_
   refine wl_on rfl rfl h105 ?_
   refine wl_v (o_move rfl) rfl ?_
   refine bsplit (decide ((1) < ((dg.length : Int)))) (fun h106 => ?_) (fun h106 => ?_)
   ·have g106 := h106; try simp only [decide_eq_true_eq, decide_eq_false_iff_not] at g106
    have f106 := h106; try simp only [decide_eq_true_eq, decide_eq_false_iff_not, Bool.and_eq_true, Bool.or_eq_true, Bool.not_eq_true', Bool.not_eq_false', Bool.and_eq_false_iff, Bool.or_eq_false_iff, not_or, Int.not_lt, Int.not_le] at f106
    refine wl_on rfl rfl h106 ?_
    refine wl_v (o_move rfl) rfl ?_
    refine wl_on rfl rfl h106 ?_
    refine wl_v (o_index_b Tryz.underlying9 rfl rfl (by first | omega | (simp; omega) | (simp at *; omega) | exact len_pos (by assumption)) (by first | omega | (simp; omega) | (simp at *; omega) | exact len_pos (by assumption))) rfl ?_
    refine wl_on rfl rfl h106 ?_
    refine wl_v (o_eq rfl rfl) rfl ?_
    refine wl_on rfl rfl h105 ?_
    refine wl_v (o_pick_t rfl h106 rfl) rfl ?_
    refine wl_v (o_pick_f rfl h105 rfl) rfl ?_
    refine wl_nil ?_
    exact wk_then (wk_mid trivial ⟨rfl, rfl, fb (by first | (simp only [h105, h106, Bool.true_and, Bool.false_and, Bool.true_or, Bool.false_or, Bool.and_true, Bool.and_false, Bool.or_true, Bool.or_false, Bool.not_true, Bool.not_false, cond_true, cond_false, if_true, if_false, reduceIte, Bool.false_eq_true]; done) | (simp only [Bool.true_and, Bool.false_and, Bool.true_or, Bool.false_or, Bool.and_true, Bool.and_false, Bool.or_true, Bool.or_false, Bool.not_true, Bool.not_false, cond_true, cond_false, if_true, if_false, reduceIte, Bool.false_eq_true]; done) | simp [h105, h106]), trivial⟩ .slnil)
   ·have g106 := h106; try simp only [decide_eq_true_eq, decide_eq_false_iff_not] at g106
    have f106 := h106; try simp only [decide_eq_true_eq, decide_eq_false_iff_not, Bool.and_eq_true, Bool.or_eq_true, Bool.not_eq_true', Bool.not_eq_false', Bool.and_eq_false_iff, Bool.or_eq_false_iff, not_or, Int.not_lt, Int.not_le] at f106
    refine wl_off rfl rfl h106 rfl ?_
    refine wl_off rfl rfl h106 rfl ?_
    refine wl_off rfl rfl h106 rfl ?_
    refine wl_on rfl rfl h105 ?_
    refine wl_v (o_pick_f rfl h106 rfl) rfl ?_
    refine wl_v (o_pick_f rfl h105 rfl) rfl ?_
    refine wl_nil ?_
    exact wk_then (wk_mid trivial ⟨rfl, rfl, fb (by first | (simp only [h105, h106, Bool.true_and, Bool.false_and, Bool.true_or, Bool.false_or, Bool.and_true, Bool.and_false, Bool.or_true, Bool.or_false, Bool.not_true, Bool.not_false, cond_true, cond_false, if_true, if_false, reduceIte, Bool.false_eq_true]; done) | (simp only [Bool.true_and, Bool.false_and, Bool.true_or, Bool.false_or, Bool.and_true, Bool.and_false, Bool.or_true, Bool.or_false, Bool.not_true, Bool.not_false, cond_true, cond_false, if_true, if_false, reduceIte, Bool.false_eq_true]; done) | simp [h105, h106]), trivial⟩ .slnil)
 refine wc_cond (b := ((decide (((dg.length : Int)) = (0))) || ((decide ((1) < ((dg.length : Int)))) && (decide ((bat dg 0) = (48)))))) rfl (fun h108 => ?_) (fun h108 => ?_)
 ·have g108 := h108; try simp only [decide_eq_true_eq, decide_eq_false_iff_not] at g108
  have f108 := h108; try simp only [decide_eq_true_eq, decide_eq_false_iff_not, Bool.and_eq_true, Bool.or_eq_true, Bool.not_eq_true', Bool.not_eq_false', Bool.and_eq_false_iff, Bool.or_eq_false_iff, not_or, Int.not_lt, Int.not_le] at f108
  refine wc_seq ?_
  refine wc_region ?_
  refine wl_v (o_assign rfl) rfl ?_
  refine wl_nil ?_
  refine wk_then (wc_of_wk ?_)
  refine wc_ret ?_
  refine wk_then_ret ?_
  refine wk_ret (r_1 rfl rfl) ?_
  exact retv (by rw [form_no2 hdg h108])
 ·have g108 := h108; try simp only [decide_eq_true_eq, decide_eq_false_iff_not] at g108
  have f108 := h108; try simp only [decide_eq_true_eq, decide_eq_false_iff_not, Bool.and_eq_true, Bool.or_eq_true, Bool.not_eq_true', Bool.not_eq_false', Bool.and_eq_false_iff, Bool.or_eq_false_iff, not_or, Int.not_lt, Int.not_le] at f108
  refine wc_skip ?_
  refine wk_then (wc_of_wk ?_)
  refine wc_seq ?_
  refine wc_seq ?_
  refine wc_region ?_
  refine wl_v (o_move rfl) rfl ?_
  refine wl_v (o_len_s Tryz.underlying9 rfl) rfl ?_
  refine wl_v (o_move rfl) rfl ?_
  refine wl_nil ?_
  refine wk_then (wc_of_wk ?_)
  refine wc_block ?_
  refine wc_loop (S := Nat) (fun (k : Nat) => k ≤ dg.length ∧ allFrom digCh 0 dg = allFrom digCh k (dg.drop k)) (fun (k : Nat) => [(39, .int .i64 ((k : Int))), (3, .string (B (dg))), (38, .int .i64 ((dg.length : Int)))]) (fun (k : Nat) => []) (fun (k : Nat) => dg.length - k) (0) ?_ ⟨fi (by first | rfl | (simp; done) | omega | (simp; omega)), rfl, rfl, trivial⟩ .slnil ?_
  ·exact ⟨Nat.zero_le _, by simp⟩
  rintro k hi0
  refine wc_seq ?_
  refine wc_region ?_
  refine wl_v (o_lt rfl rfl) rfl ?_
  refine wl_nil ?_
  refine wk_then (wc_of_wk ?_)
  refine wc_seq ?_
  refine wc_cond (b := decide (((k : Int)) < ((dg.length : Int)))) rfl (fun h109 => ?_) (fun h109 => ?_)
  ·have g109 := h109; try simp only [decide_eq_true_eq, decide_eq_false_iff_not] at g109
   have f109 := h109; try simp only [decide_eq_true_eq, decide_eq_false_iff_not, Bool.and_eq_true, Bool.or_eq_true, Bool.not_eq_true', Bool.not_eq_false', Bool.and_eq_false_iff, Bool.or_eq_false_iff, not_or, Int.not_lt, Int.not_le] at f109
   refine wc_skip ?_
   refine wk_then (wc_of_wk ?_)
   refine wc_seq ?_
   refine wc_block ?_
   refine wc_seq ?_
   refine wc_region ?_
   refine wl_v (o_move rfl) rfl ?_
   refine wl_v (o_assign rfl) rfl ?_
   refine wl_nil ?_
   refine wk_then (wc_of_wk ?_)
   refine wc_seq_mid [(3, .string (B (dg))), (4, .int .i64 ((k : Int))), (38, .int .i64 ((dg.length : Int))), (39, .int .i64 ((k : Int))), (40, .bool (decide (((k : Int)) < ((dg.length : Int))))), (41, .int .i64 ((k : Int))), (42, .string (B (dg))), (43, .int .i64 ((k : Int))), (44, .int .u8 (bat dg (k : Int))), (45, .bool (decide ((bat dg (k : Int)) < (48)))), (46, .bool (decide ((bat dg (k : Int)) < (48)))), (51, .bool (((decide ((bat dg (k : Int)) < (48))) || (decide ((57) < (bat dg (k : Int)))))))] [] (φ := True) ?_ (fun hm110 => ?_)
   ·refine wc_region ?_
    refine wl_v (o_move rfl) rfl ?_
    refine wl_v (o_move rfl) rfl ?_
    refine wl_v (o_index_b Tryz.underlying9 rfl rfl (by first | omega | (simp; omega) | (simp at *; omega) | exact len_pos (by assumption)) (by first | omega | (simp; omega) | (simp at *; omega) | exact len_pos (by assumption))) rfl ?_
    refine wl_v (o_lt rfl rfl) rfl ?_
    refine wl_v (o_move rfl) rfl ?_
    refine bsplit (decide ((bat dg (k : Int)) < (48))) (fun h110 => ?_) (fun h110 => ?_)
    ·have g110 := h110; try simp only [decide_eq_true_eq, decide_eq_false_iff_not] at g110
     have f110 := h110; try simp only [decide_eq_true_eq, decide_eq_false_iff_not, Bool.and_eq_true, Bool.or_eq_true, Bool.not_eq_true', Bool.not_eq_false', Bool.and_eq_false_iff, Bool.or_eq_false_iff, not_or, Int.not_lt, Int.not_le] at f110
     refine wl_off rfl rfl h110 rfl ?_
     refine wl_off rfl rfl h110 rfl ?_
     refine wl_off rfl rfl h110 rfl ?_
     refine wl_off rfl rfl h110 rfl ?_
     refine wl_v (o_pick_t rfl h110 rfl) rfl ?_
     refine wl_nil ?_
     exact wk_then (wk_mid trivial ⟨rfl, rfl, rfl, rfl, rfl, rfl, rfl, rfl, rfl, rfl, rfl, fb (by first | (simp only [h108, h109, h110, Bool.true_and, Bool.false_and, Bool.true_or, Bool.false_or, Bool.and_true, Bool.and_false, Bool.or_true, Bool.or_false, Bool.not_true, Bool.not_false, cond_true, cond_false, if_true, if_false, reduceIte, Bool.false_eq_true]; done) | (simp only [Bool.true_and, Bool.false_and, Bool.true_or, Bool.false_or, Bool.and_true, Bool.and_false, Bool.or_true, Bool.or_false, Bool.not_true, Bool.not_false, cond_true, cond_false, if_true, if_false, reduceIte, Bool.false_eq_true]; done) | simp [h108, h109, h110]), trivial⟩ .slnil)
    ·have g110 := h110; try simp only [decide_eq_true_eq, decide_eq_false_iff_not] at g110
     have f110 := h110; try simp only [decide_eq_true_eq, decide_eq_false_iff_not, Bool.and_eq_true, Bool.or_eq_true, Bool.not_eq_true', Bool.not_eq_false', Bool.and_eq_false_iff, Bool.or_eq_false_iff, not_or, Int.not_lt, Int.not_le] at f110
     refine wl_on rfl rfl h110 ?_
     refine wl_v (o_move rfl) rfl ?_
     refine wl_on rfl rfl h110 ?_
     refine wl_v (o_move rfl) rfl ?_
     refine wl_on rfl rfl h110 ?_
     refine wl_v (o_index_b Tryz.underlying9 rfl rfl (by first | omega | (simp; omega) | (simp at *; omega) | exact len_pos (by assumption)) (by first | omega | (simp; omega) | (simp at *; omega) | exact len_pos (by assumption))) rfl ?_
     refine wl_on rfl rfl h110 ?_
     refine wl_v (o_gt rfl rfl) rfl ?_
     refine wl_v (o_pick_f rfl h110 rfl) rfl ?_
     refine wl_nil ?_
     exact wk_then (wk_mid trivial ⟨rfl, rfl, rfl, rfl, rfl, rfl, rfl, rfl, rfl, rfl, rfl, fb (by first | (simp only [h108, h109, h110, Bool.true_and, Bool.false_and, Bool.true_or, Bool.false_or, Bool.and_true, Bool.and_false, Bool.or_true, Bool.or_false, Bool.not_true, Bool.not_false, cond_true, cond_false, if_true, if_false, reduceIte, Bool.false_eq_true]; done) | (simp only [Bool.true_and, Bool.false_and, Bool.true_or, Bool.false_or, Bool.and_true, Bool.and_false, Bool.or_true, Bool.or_false, Bool.not_true, Bool.not_false, cond_true, cond_false, if_true, if_false, reduceIte, Bool.false_eq_true]; done) | simp [h108, h109, h110]), trivial⟩ .slnil)
   refine wc_cond (b := ((decide ((bat dg (k : Int)) < (48))) || (decide ((57) < (bat dg (k : Int)))))) rfl (fun h112 => ?_) (fun h112 => ?_)
   ·have g112 := h112; try simp only [decide_eq_true_eq, decide_eq_false_iff_not] at g112
    have f112 := h112; try simp only [decide_eq_true_eq, decide_eq_false_iff_not, Bool.and_eq_true, Bool.or_eq_true, Bool.not_eq_true', Bool.not_eq_false', Bool.and_eq_false_iff, Bool.or_eq_false_iff, not_or, Int.not_lt, Int.not_le] at f112
    refine wc_seq ?_
    refine wc_region ?_
    refine wl_v (o_assign rfl) rfl ?_
    refine wl_nil ?_
    refine wk_then (wc_of_wk ?_)
    refine wc_ret ?_
    refine wk_in_ret ?_
    refine wk_then_ret ?_
    refine wk_then_ret ?_
    refine wk_in_ret ?_
    refine wk_then_ret ?_
    refine wk_ret (r_1 rfl rfl) ?_
    exact retv (by simp [decS, hdg, dig_no hi0 g109 h112])
   ·have g112 := h112; try simp only [decide_eq_true_eq, decide_eq_false_iff_not] at g112
    have f112 := h112; try simp only [decide_eq_true_eq, decide_eq_false_iff_not, Bool.and_eq_true, Bool.or_eq_true, Bool.not_eq_true', Bool.not_eq_false', Bool.and_eq_false_iff, Bool.or_eq_false_iff, not_or, Int.not_lt, Int.not_le] at f112
    refine wc_skip ?_
    refine wk_in_norm ?_
    refine wk_then (wc_of_wk ?_)
    refine wc_region ?_
    refine wl_v (o_add rfl rfl (IntWalk.i64_in _ (by omega))) rfl ?_
    refine wl_v (o_move rfl) rfl ?_
    refine wl_nil ?_
    refine wk_then ?_
    refine wk_some (k + 1) ?_ ⟨fi (by first | rfl | (simp; done) | omega | (simp; omega)), rfl, rfl, trivial⟩ .slnil
    exact dig_next hi0 g109 h112
  ·have g109 := h109; try simp only [decide_eq_true_eq, decide_eq_false_iff_not] at g109
   have f109 := h109; try simp only [decide_eq_true_eq, decide_eq_false_iff_not, Bool.and_eq_true, Bool.or_eq_true, Bool.not_eq_true', Bool.not_eq_false', Bool.and_eq_false_iff, Bool.or_eq_false_iff, not_or, Int.not_lt, Int.not_le] at f109
   refine wc_exit ?_
   refine wk_then_exit ?_
   refine wk_then_exit ?_
   refine wk_in_hit ?_
   refine wk_then (wc_of_wk ?_)
   refine wc_seq ?_
   refine wc_region ?_
   refine wl_v (o_assign rfl) rfl ?_
   refine wl_nil ?_
   refine wk_then (wc_of_wk ?_)
   refine wc_ret ?_
   refine wk_ret (r_1 rfl rfl) ?_
   exact retv (by rw [form_yes hdg hform h108 (dig_yes hi0 g109)])

theorem parse_r (p : List UInt8) (hp : p.length ≤ 281474976710656) (w : World) : Calls Tryz.prog 32 [.string (B (p))].toArray w (RetV w (.tuple #[.int .i64 (parseV p), .int .i64 (parseE p)])) := by
 refine enter0 (n := 42) Tryz.func32 rfl Tryz.ntmps32 rfl ?_
 refine wc_seq ?_
 refine wc_region ?_
 refine wl_v (o_assign rfl) rfl ?_
 refine wl_v (o_assign rfl) rfl ?_
 refine wl_nil ?_
 refine wk_then (wc_of_wk ?_)
 refine wc_seq_mid [(0, .string (B (p))), (2, .int .i64 (0)), (3, .int .i64 (0)), (4, .bool (((decide ((0) < ((p.length : Int)))) && (decide ((bat p 0) = (45))))))] [] (φ := True) ?_ (fun hm113 => ?_)
 ·refine wc_region ?_
  refine wl_v (o_move rfl) rfl ?_
  refine wl_v (o_len_s Tryz.underlying9 rfl) rfl ?_
  refine wl_v (o_gt rfl rfl) rfl ?_
  refine wl_v (o_move rfl) rfl ?_
  refine bsplit (decide ((0) < ((p.length : Int)))) (fun h113 => ?_) (fun h113 => ?_)
  ·have g113 := h113; try simp only [decide_eq_true_eq, decide_eq_false_iff_not] at g113
   have f113 := h113; try simp only [decide_eq_true_eq, decide_eq_false_iff_not, Bool.and_eq_true, Bool.or_eq_true, Bool.not_eq_true', Bool.not_eq_false', Bool.and_eq_false_iff, Bool.or_eq_false_iff, not_or, Int.not_lt, Int.not_le] at f113
   refine wl_on rfl rfl h113 ?_
   refine wl_v (o_move rfl) rfl ?_
   refine wl_on rfl rfl h113 ?_
   refine wl_v (o_index_b Tryz.underlying9 rfl rfl (by first | omega | (simp; omega) | (simp at *; omega)) (by first | omega | (simp; omega) | (simp at *; omega))) rfl ?_
   refine wl_on rfl rfl h113 ?_
   refine wl_v (o_eq rfl rfl) rfl ?_
   refine wl_v (o_pick_t rfl h113 rfl) rfl ?_
   refine wl_v (o_assign rfl) rfl ?_
   refine wl_nil ?_
   exact wk_then (wk_mid trivial ⟨rfl, rfl, rfl, fb (by first | (simp only [h113, Bool.true_and, Bool.false_and, Bool.true_or, Bool.false_or, Bool.and_true, Bool.and_false, Bool.or_true, Bool.or_false, Bool.not_true, Bool.not_false, cond_true, cond_false, if_true, if_false, reduceIte, Bool.false_eq_true]; done) | (simp only [Bool.true_and, Bool.false_and, Bool.true_or, Bool.false_or, Bool.and_true, Bool.and_false, Bool.or_true, Bool.or_false, Bool.not_true, Bool.not_false, cond_true, cond_false, if_true, if_false, reduceIte, Bool.false_eq_true]; done) | simp [h113]), trivial⟩ .slnil)
  ·have g113 := h113; try simp only [decide_eq_true_eq, decide_eq_false_iff_not] at g113
   have f113 := h113; try simp only [decide_eq_true_eq, decide_eq_false_iff_not, Bool.and_eq_true, Bool.or_eq_true, Bool.not_eq_true', Bool.not_eq_false', Bool.and_eq_false_iff, Bool.or_eq_false_iff, not_or, Int.not_lt, Int.not_le] at f113
   refine wl_off rfl rfl h113 rfl ?_
   refine wl_off rfl rfl h113 rfl ?_
   refine wl_off rfl rfl h113 rfl ?_
   refine wl_v (o_pick_f rfl h113 rfl) rfl ?_
   refine wl_v (o_assign rfl) rfl ?_
   refine wl_nil ?_
   exact wk_then (wk_mid trivial ⟨rfl, rfl, rfl, fb (by first | (simp only [h113, Bool.true_and, Bool.false_and, Bool.true_or, Bool.false_or, Bool.and_true, Bool.and_false, Bool.or_true, Bool.or_false, Bool.not_true, Bool.not_false, cond_true, cond_false, if_true, if_false, reduceIte, Bool.false_eq_true]; done) | (simp only [Bool.true_and, Bool.false_and, Bool.true_or, Bool.false_or, Bool.and_true, Bool.and_false, Bool.or_true, Bool.or_false, Bool.not_true, Bool.not_false, cond_true, cond_false, if_true, if_false, reduceIte, Bool.false_eq_true]; done) | simp [h113]), trivial⟩ .slnil)
 refine wc_seq ?_
 refine wc_seq ?_
 refine wc_region ?_
 refine wl_v (o_move rfl) rfl ?_
 refine w_call Tryz.call62 rfl (fun w hw => form_r p (by first | omega | (simp; done) | (simp; omega) | (simp at *; omega) | (split <;> first | omega | (simp; omega))) w) rfl ?_
 refine wl_v (o_not rfl) rfl ?_
 refine wl_nil ?_
 refine wk_then (wc_of_wk ?_)
 refine wc_cond (b := !(decS p)) rfl (fun h115 => ?_) (fun h115 => ?_)
 ·have g115 := h115; try simp only [decide_eq_true_eq, decide_eq_false_iff_not] at g115
  have f115 := h115; try simp only [decide_eq_true_eq, decide_eq_false_iff_not, Bool.and_eq_true, Bool.or_eq_true, Bool.not_eq_true', Bool.not_eq_false', Bool.and_eq_false_iff, Bool.or_eq_false_iff, not_or, Int.not_lt, Int.not_le] at f115
  refine wc_seq ?_
  refine wc_region ?_
  refine wl_v (o_assign rfl) rfl ?_
  refine wl_v (o_assign rfl) rfl ?_
  refine wl_nil ?_
  refine wk_then (wc_of_wk ?_)
  refine wc_ret ?_
  refine wk_then_ret ?_
  refine wk_ret (r_2 rfl rfl rfl) ?_
  exact retv (by simp [parseV, parseE, f115])
 ·have g115 := h115; try simp only [decide_eq_true_eq, decide_eq_false_iff_not] at g115
  have f115 := h115; try simp only [decide_eq_true_eq, decide_eq_false_iff_not, Bool.and_eq_true, Bool.or_eq_true, Bool.not_eq_true', Bool.not_eq_false', Bool.and_eq_false_iff, Bool.or_eq_false_iff, not_or, Int.not_lt, Int.not_le] at f115
  refine wc_skip ?_
  refine wk_then (wc_of_wk ?_)
  refine wc_seq ?_
  refine wc_region ?_
  refine wl_v (o_assign rfl) rfl ?_
  refine wl_nil ?_
  refine wk_then (wc_of_wk ?_)
  refine wc_seq ?_
  refine wc_seq ?_
  refine wc_region ?_
  refine wl_v (o_move rfl) rfl ?_
  refine wl_v (o_len_s Tryz.underlying9 rfl) rfl ?_
  refine wl_v (o_move rfl) rfl ?_
  refine wl_nil ?_
  refine wk_then (wc_of_wk ?_)
  refine wc_block ?_
  refine wc_loop (S := Nat × Nat) (fun (x : Nat × Nat) => match x with | ⟨k, n⟩ => k ≤ p.length ∧ n ≤ 1000000000000 ∧ runP 0 p = runP n (p.drop k)) (fun (x : Nat × Nat) => match x with | ⟨k, n⟩ => [(20, .int .i64 ((k : Int))), (5, .int .i64 ((n : Int))), (0, .string (B (p))), (4, .bool (((decide ((0) < ((p.length : Int)))) && (decide ((bat p 0) = (45)))))), (19, .int .i64 ((p.length : Int)))]) (fun (x : Nat × Nat) => match x with | ⟨k, n⟩ => []) (fun (x : Nat × Nat) => match x with | ⟨k, n⟩ => p.length - k) (0, 0) ?_ ⟨fi (by first | rfl | (simp; done) | omega | (simp; omega)), fi (by first | rfl | (simp; done) | omega | (simp; omega)), rfl, rfl, rfl, trivial⟩ .slnil ?_
  ·exact ⟨Nat.zero_le _, Nat.zero_le _, by simp⟩
  rintro ⟨k, n⟩ hi0
  have hk1 := hi0.1
  have hk2 := hi0.2.1
  refine wc_seq ?_
  refine wc_region ?_
  refine wl_v (o_lt rfl rfl) rfl ?_
  refine wl_nil ?_
  refine wk_then (wc_of_wk ?_)
  refine wc_seq ?_
  refine wc_cond (b := decide (((k : Int)) < ((p.length : Int)))) rfl (fun h116 => ?_) (fun h116 => ?_)
  ·have g116 := h116; try simp only [decide_eq_true_eq, decide_eq_false_iff_not] at g116
   have f116 := h116; try simp only [decide_eq_true_eq, decide_eq_false_iff_not, Bool.and_eq_true, Bool.or_eq_true, Bool.not_eq_true', Bool.not_eq_false', Bool.and_eq_false_iff, Bool.or_eq_false_iff, not_or, Int.not_lt, Int.not_le] at f116
   refine wc_skip ?_
   refine wk_then (wc_of_wk ?_)
   refine wc_seq_mid [(0, .string (B (p))), (4, .bool (((decide ((0) < ((p.length : Int)))) && (decide ((bat p 0) = (45)))))), (5, .int .i64 ((if decide ((bat p (k : Int)) = (45)) = true then (n : Int) else (10 * (n : Int)) + ((bat p (k : Int)) - 48)))), (6, .int .i64 ((k : Int))), (19, .int .i64 ((p.length : Int))), (20, .int .i64 ((k : Int))), (21, .bool (decide (((k : Int)) < ((p.length : Int))))), (22, .int .i64 ((k : Int))), (23, .string (B (p))), (24, .int .i64 ((k : Int))), (25, .int .u8 (bat p (k : Int))), (26, .bool (decide ((bat p (k : Int)) = (45))))] [] (φ := ((decide ((bat p (k : Int)) = (45))) || (!(decide ((1000000000000) < ((10 * (n : Int)) + ((bat p (k : Int)) - 48)))))) = true) ?_ (fun hm118 => ?_)
   ·refine wc_block ?_
    refine wc_seq ?_
    refine wc_region ?_
    refine wl_v (o_move rfl) rfl ?_
    refine wl_v (o_assign rfl) rfl ?_
    refine wl_nil ?_
    refine wk_then (wc_of_wk ?_)
    refine wc_seq ?_
    refine wc_seq ?_
    refine wc_region ?_
    refine wl_v (o_move rfl) rfl ?_
    refine wl_v (o_move rfl) rfl ?_
    refine wl_v (o_index_b Tryz.underlying9 rfl rfl (by first | omega | (simp; omega) | (simp at *; omega)) (by first | omega | (simp; omega) | (simp at *; omega))) rfl ?_
    refine wl_v (o_eq rfl rfl) rfl ?_
    refine wl_nil ?_
    refine wk_then (wc_of_wk ?_)
    refine wc_cond (b := decide ((bat p (k : Int)) = (45))) rfl (fun h117 => ?_) (fun h117 => ?_)
    ·have g117 := h117; try simp only [decide_eq_true_eq, decide_eq_false_iff_not] at g117
     have f117 := h117; try simp only [decide_eq_true_eq, decide_eq_false_iff_not, Bool.and_eq_true, Bool.or_eq_true, Bool.not_eq_true', Bool.not_eq_false', Bool.and_eq_false_iff, Bool.or_eq_false_iff, not_or, Int.not_lt, Int.not_le] at f117
     refine wc_exit ?_
     refine wk_then_exit ?_
     refine wk_in_hit ?_
     exact wk_then (wk_mid (by first | (simp only [h115, h116, h117, Bool.true_and, Bool.false_and, Bool.true_or, Bool.false_or, Bool.and_true, Bool.and_false, Bool.or_true, Bool.or_false, Bool.not_true, Bool.not_false, cond_true, cond_false, if_true, if_false, reduceIte, Bool.false_eq_true]; done) | (simp only [Bool.true_and, Bool.false_and, Bool.true_or, Bool.false_or, Bool.and_true, Bool.and_false, Bool.or_true, Bool.or_false, Bool.not_true, Bool.not_false, cond_true, cond_false, if_true, if_false, reduceIte, Bool.false_eq_true]; done) | simp [h115, h116, h117]) ⟨rfl, rfl, fi (by first | (simp only [h115, h116, h117, Bool.true_and, Bool.false_and, Bool.true_or, Bool.false_or, Bool.and_true, Bool.and_false, Bool.or_true, Bool.or_false, Bool.not_true, Bool.not_false, cond_true, cond_false, if_true, if_false, reduceIte, Bool.false_eq_true]; done) | (simp only [Bool.true_and, Bool.false_and, Bool.true_or, Bool.false_or, Bool.and_true, Bool.and_false, Bool.or_true, Bool.or_false, Bool.not_true, Bool.not_false, cond_true, cond_false, if_true, if_false, reduceIte, Bool.false_eq_true]; done) | simp [h115, h116, h117]), rfl, rfl, rfl, rfl, rfl, rfl, rfl, rfl, rfl, trivial⟩ .slnil)
    ·have g117 := h117; try simp only [decide_eq_true_eq, decide_eq_false_iff_not] at g117
     have f117 := h117; try simp only [decide_eq_true_eq, decide_eq_false_iff_not, Bool.and_eq_true, Bool.or_eq_true, Bool.not_eq_true', Bool.not_eq_false', Bool.and_eq_false_iff, Bool.or_eq_false_iff, not_or, Int.not_lt, Int.not_le] at f117
     refine wc_skip ?_
     refine wk_then (wc_of_wk ?_)
     refine wc_seq ?_
     refine wc_region ?_
     refine wl_v (o_move rfl) rfl ?_
     refine wl_v (o_mul rfl rfl (IntWalk.i64_in _ (by first | omega | (have := dec_byte (p := p) (k := k) (by simp_all) (by omega) (by simp_all); omega)))) rfl ?_
     refine wl_v (o_move rfl) rfl ?_
     refine wl_v (o_move rfl) rfl ?_
     refine wl_v (o_index_b Tryz.underlying9 rfl rfl (by first | omega | (simp; omega) | (simp at *; omega)) (by first | omega | (simp; omega) | (simp at *; omega))) rfl ?_
     refine wl_v (o_sub rfl rfl (IntWalk.u8_in _ (by first | omega | (have := dec_byte (p := p) (k := k) (by simp_all) (by omega) (by simp_all); omega)))) rfl ?_
     refine wl_v (o_conv_int ⟨_, Tryz.underlying5⟩ Tryz.underlying3 rfl (IntWalk.i64_in _ (by first | omega | (have := dec_byte (p := p) (k := k) (by simp_all) (by omega) (by simp_all); omega)))) rfl ?_
     refine wl_v (o_add rfl rfl (IntWalk.i64_in _ (by first | omega | (have := dec_byte (p := p) (k := k) (by simp_all) (by omega) (by simp_all); omega)))) rfl ?_
     refine wl_v (o_assign rfl) rfl ?_
     refine wl_nil ?_
     refine wk_then (wc_of_wk ?_)
     refine wc_seq ?_
     refine wc_region ?_
     refine wl_v (o_move rfl) rfl ?_
     refine wl_v (o_gt rfl rfl) rfl ?_
     refine wl_nil ?_
     refine wk_then (wc_of_wk ?_)
     refine wc_cond (b := decide ((1000000000000) < ((10 * (n : Int)) + ((bat p (k : Int)) - 48)))) rfl (fun h118 => ?_) (fun h118 => ?_)
     ·have g118 := h118; try simp only [decide_eq_true_eq, decide_eq_false_iff_not] at g118
      have f118 := h118; try simp only [decide_eq_true_eq, decide_eq_false_iff_not, Bool.and_eq_true, Bool.or_eq_true, Bool.not_eq_true', Bool.not_eq_false', Bool.and_eq_false_iff, Bool.or_eq_false_iff, not_or, Int.not_lt, Int.not_le] at f118
      refine wc_seq ?_
      refine wc_region ?_
      refine wl_v (o_assign rfl) rfl ?_
      refine wl_v (o_assign rfl) rfl ?_
      refine wl_nil ?_
      refine wk_then (wc_of_wk ?_)
      refine wc_ret ?_
      refine wk_in_ret ?_
      refine wk_then_ret ?_
      refine wk_then_ret ?_
      refine wk_in_ret ?_
      refine wk_then_ret ?_
      refine wk_ret (r_2 rfl rfl rfl) ?_
      have hx := (parse_run f115).2 (run_stop f115 g116 hi0.2.2 g117 g118)
      exact retv (by rw [hx.1, hx.2])
     ·have g118 := h118; try simp only [decide_eq_true_eq, decide_eq_false_iff_not] at g118
      have f118 := h118; try simp only [decide_eq_true_eq, decide_eq_false_iff_not, Bool.and_eq_true, Bool.or_eq_true, Bool.not_eq_true', Bool.not_eq_false', Bool.and_eq_false_iff, Bool.or_eq_false_iff, not_or, Int.not_lt, Int.not_le] at f118
      refine wc_skip ?_
      refine wk_in_norm ?_
      exact wk_then (wk_mid (by first | (simp only [h115, h116, h117, h118, Bool.true_and, Bool.false_and, Bool.true_or, Bool.false_or, Bool.and_true, Bool.and_false, Bool.or_true, Bool.or_false, Bool.not_true, Bool.not_false, cond_true, cond_false, if_true, if_false, reduceIte, Bool.false_eq_true]; done) | (simp only [Bool.true_and, Bool.false_and, Bool.true_or, Bool.false_or, Bool.and_true, Bool.and_false, Bool.or_true, Bool.or_false, Bool.not_true, Bool.not_false, cond_true, cond_false, if_true, if_false, reduceIte, Bool.false_eq_true]; done) | simp [h115, h116, h117, h118]) ⟨rfl, rfl, fi (by first | (simp only [h115, h116, h117, h118, Bool.true_and, Bool.false_and, Bool.true_or, Bool.false_or, Bool.and_true, Bool.and_false, Bool.or_true, Bool.or_false, Bool.not_true, Bool.not_false, cond_true, cond_false, if_true, if_false, reduceIte, Bool.false_eq_true]; done) | (simp only [Bool.true_and, Bool.false_and, Bool.true_or, Bool.false_or, Bool.and_true, Bool.and_false, Bool.or_true, Bool.or_false, Bool.not_true, Bool.not_false, cond_true, cond_false, if_true, if_false, reduceIte, Bool.false_eq_true]; done) | simp [h115, h116, h117, h118]), rfl, rfl, rfl, rfl, rfl, rfl, rfl, rfl, rfl, trivial⟩ .slnil)
   have g118 := hm118; try simp only [decide_eq_true_eq, decide_eq_false_iff_not] at g118
   have f118 := hm118; try simp only [decide_eq_true_eq, decide_eq_false_iff_not, Bool.and_eq_true, Bool.or_eq_true, Bool.not_eq_true', Bool.not_eq_false', Bool.and_eq_false_iff, Bool.or_eq_false_iff, not_or, Int.not_lt, Int.not_le] at f118
   obtain ⟨n1, hn1, hn2, hn3⟩ := run_next (p := p) (k := k) (n := n) f115 g116 hi0.2.2 hk2 (by simpa using g118)
   rw [hn1]
   refine wc_region ?_
   refine wl_v (o_add rfl rfl (IntWalk.i64_in _ (by first | omega | (have := dec_byte (p := p) (k := k) (by simp_all) (by omega) (by simp_all); omega)))) rfl ?_
   refine wl_v (o_move rfl) rfl ?_
   refine wl_nil ?_
   refine wk_then ?_
   refine wk_some (k + 1, n1) ?_ ⟨fi (by first | rfl | (simp; done) | omega | (simp; omega)), fi (by first | rfl | (simp; done) | omega | (simp; omega)), rfl, rfl, rfl, trivial⟩ .slnil
   exact ⟨⟨by omega, hn3, hn2⟩, by show p.length - (k + 1) < p.length - k; omega⟩
  ·have g116 := h116; try simp only [decide_eq_true_eq, decide_eq_false_iff_not] at g116
   have f116 := h116; try simp only [decide_eq_true_eq, decide_eq_false_iff_not, Bool.and_eq_true, Bool.or_eq_true, Bool.not_eq_true', Bool.not_eq_false', Bool.and_eq_false_iff, Bool.or_eq_false_iff, not_or, Int.not_lt, Int.not_le] at f116
   refine wc_exit ?_
   refine wk_then_exit ?_
   refine wk_then_exit ?_
   refine wk_in_hit ?_
   refine wk_then (wc_of_wk ?_)
   refine wc_seq ?_
   refine wc_seq ?_
   refine wc_region ?_
   refine wl_v (o_move rfl) rfl ?_
   refine wl_nil ?_
   refine wk_then (wc_of_wk ?_)
   refine wc_cond (b := ((decide ((0) < ((p.length : Int)))) && (decide ((bat p 0) = (45))))) rfl (fun h120 => ?_) (fun h120 => ?_)
   ·have g120 := h120; try simp only [decide_eq_true_eq, decide_eq_false_iff_not] at g120
    have f120 := h120; try simp only [decide_eq_true_eq, decide_eq_false_iff_not, Bool.and_eq_true, Bool.or_eq_true, Bool.not_eq_true', Bool.not_eq_false', Bool.and_eq_false_iff, Bool.or_eq_false_iff, not_or, Int.not_lt, Int.not_le] at f120
    refine wc_seq ?_
    refine wc_region ?_
    refine wl_v (o_move rfl) rfl ?_
    refine wl_v (o_neg rfl (IntWalk.i64_in _ (by omega))) rfl ?_
    refine wl_v (o_assign rfl) rfl ?_
    refine wl_v (o_assign rfl) rfl ?_
    refine wl_nil ?_
    refine wk_then (wc_of_wk ?_)
    refine wc_ret ?_
    refine wk_then_ret ?_
    refine wk_ret (r_2 rfl rfl rfl) ?_
    have hx := (parse_run f115).1 n (run_end hi0.2.2 g116)
    exact retv (by rw [hx.1, hx.2]; simp only [sgnS]; simp only [h120]; simp)
   ·have g120 := h120; try simp only [decide_eq_true_eq, decide_eq_false_iff_not] at g120
    have f120 := h120; try simp only [decide_eq_true_eq, decide_eq_false_iff_not, Bool.and_eq_true, Bool.or_eq_true, Bool.not_eq_true', Bool.not_eq_false', Bool.and_eq_false_iff, Bool.or_eq_false_iff, not_or, Int.not_lt, Int.not_le] at f120
    refine wc_skip ?_
    refine wk_then (wc_of_wk ?_)
    refine wc_seq ?_
    refine wc_region ?_
    refine wl_v (o_move rfl) rfl ?_
    refine wl_v (o_assign rfl) rfl ?_
    refine wl_v (o_assign rfl) rfl ?_
    refine wl_nil ?_
    refine wk_then (wc_of_wk ?_)
    refine wc_ret ?_
    refine wk_ret (r_2 rfl rfl rfl) ?_
    have hx := (parse_run f115).1 n (run_end hi0.2.2 g116)
    exact retv (by rw [hx.1, hx.2]; simp only [sgnS]; simp only [h120]; simp)

theorem format_r (n : Int) (h0 : -9223372036854775808 ≤ n) (h1 : n ≤ 9223372036854775807) (w : World) : Calls Tryz.prog 49 [.int .i64 (n)].toArray w (RetV w (.string (B (Lib.itoa n)))) := by
 refine enter0 (n := 34) Tryz.func49 rfl Tryz.ntmps49 rfl ?_
 refine wc_seq ?_
 refine wc_region ?_
 refine wl_v (o_assign rfl) rfl ?_
 refine wl_nil ?_
 refine wk_then (wc_of_wk ?_)
 refine wc_seq ?_
 refine wc_region ?_
 refine wl_v (o_assign rfl) rfl ?_
 refine wl_nil ?_
 refine wk_then (wc_of_wk ?_)
 refine wc_seq ?_
 refine wc_region ?_
 refine wl_v (o_assign rfl) rfl ?_
 refine wl_nil ?_
 refine wk_then (wc_of_wk ?_)
 refine wc_seq ?_
 refine wc_seq ?_
 refine wc_region ?_
 refine wl_v (o_move rfl) rfl ?_
 refine wl_v (o_assign rfl) rfl ?_
 refine wl_nil ?_
 refine wk_then (wc_of_wk ?_)
 refine wc_block ?_
 refine wc_loop (S := Int × List UInt8) (fun (x : Int × List UInt8) => match x with | ⟨m, s⟩ => (-9223372036854775808 ≤ m ∧ m ≤ 9223372036854775807) ∧ fmtI n m s) (fun (x : Int × List UInt8) => match x with | ⟨m, s⟩ => [(5, .int .i64 (m)), (4, .string (B (s))), (0, .int .i64 (n)), (2, .string (B ([]))), (3, .string (B ([48, 49, 50, 51, 52, 53, 54, 55, 56, 57])))]) (fun (x : Int × List UInt8) => match x with | ⟨m, s⟩ => []) (fun (x : Int × List UInt8) => match x with | ⟨m, s⟩ => m.natAbs + (if s = [] then 1 else 0)) (n, []) ?_ ⟨fi (by first | rfl | (simp; done) | omega | (simp; omega)), fs (by first | rfl | simp), rfl, rfl, rfl, trivial⟩ .slnil ?_
 ·exact ⟨⟨h0, h1⟩, .inl ⟨rfl, rfl⟩⟩
 rintro ⟨m, s⟩ hi0
 have hb := hi0.1
 have hsl := fmt_len h0 h1 hi0.2
 have htd := tdiv10_bd hi0.1.1 hi0.1.2
 have htm := tmod10_bd m
 refine wc_seq ?_
 refine wc_seq_mid [(0, .int .i64 (n)), (2, .string (B ([]))), (3, .string (B ([48, 49, 50, 51, 52, 53, 54, 55, 56, 57]))), (4, .string (B (s))), (5, .int .i64 (m)), (8, .int .i64 (m)), (9, .bool (!(decide ((m) = (0))))), (10, .bool (!(decide ((m) = (0))))), (13, .bool (((!(decide ((m) = (0)))) || (decide ((s) = (([] : List UInt8)))))))] [] (φ := True) ?_ (fun hm121 => ?_)
 ·refine wc_region ?_
  refine wl_v (o_move rfl) rfl ?_
  refine wl_v (o_ne rfl rfl) rfl ?_
  refine wl_v (o_move rfl) rfl ?_
  refine bsplit (!(decide ((m) = (0)))) (fun h121 => ?_) (fun h121 => ?_)
  ·have g121 := h121; try simp only [decide_eq_true_eq, decide_eq_false_iff_not] at g121
   have f121 := h121; try simp only [decide_eq_true_eq, decide_eq_false_iff_not, Bool.and_eq_true, Bool.or_eq_true, Bool.not_eq_true', Bool.not_eq_false', Bool.and_eq_false_iff, Bool.or_eq_false_iff, not_or, Int.not_lt, Int.not_le] at f121
   refine wl_off rfl rfl h121 rfl ?_
   refine wl_off rfl rfl h121 rfl ?_
   refine wl_v (o_pick_t rfl h121 rfl) rfl ?_
   refine wl_nil ?_
   exact wk_then (wk_mid trivial ⟨rfl, rfl, rfl, rfl, rfl, rfl, rfl, rfl, fb (by first | (simp only [h121, Bool.true_and, Bool.false_and, Bool.true_or, Bool.false_or, Bool.and_true, Bool.and_false, Bool.or_true, Bool.or_false, Bool.not_true, Bool.not_false, cond_true, cond_false, if_true, if_false, reduceIte, Bool.false_eq_true]; done) | (simp only [Bool.true_and, Bool.false_and, Bool.true_or, Bool.false_or, Bool.and_true, Bool.and_false, Bool.or_true, Bool.or_false, Bool.not_true, Bool.not_false, cond_true, cond_false, if_true, if_false, reduceIte, Bool.false_eq_true]; done) | simp [h121]), trivial⟩ .slnil)
  ·have g121 := h121; try simp only [decide_eq_true_eq, decide_eq_false_iff_not] at g121
   have f121 := h121; try simp only [decide_eq_true_eq, decide_eq_false_iff_not, Bool.and_eq_true, Bool.or_eq_true, Bool.not_eq_true', Bool.not_eq_false', Bool.and_eq_false_iff, Bool.or_eq_false_iff, not_or, Int.not_lt, Int.not_le] at f121
   refine wl_on rfl rfl h121 ?_
   refine wl_v (o_move rfl) rfl ?_
   refine wl_on rfl rfl h121 ?_
   refine wl_v (o_seq rfl rfl) rfl ?_
   refine wl_v (o_pick_f rfl h121 rfl) rfl ?_
   refine wl_nil ?_
   exact wk_then (wk_mid trivial ⟨rfl, rfl, rfl, rfl, rfl, rfl, rfl, rfl, fb (by first | (simp only [h121, Bool.true_and, Bool.false_and, Bool.true_or, Bool.false_or, Bool.and_true, Bool.and_false, Bool.or_true, Bool.or_false, Bool.not_true, Bool.not_false, cond_true, cond_false, if_true, if_false, reduceIte, Bool.false_eq_true]; done) | (simp only [Bool.true_and, Bool.false_and, Bool.true_or, Bool.false_or, Bool.and_true, Bool.and_false, Bool.or_true, Bool.or_false, Bool.not_true, Bool.not_false, cond_true, cond_false, if_true, if_false, reduceIte, Bool.false_eq_true]; done) | simp [h121]), trivial⟩ .slnil)
 refine wc_cond (b := ((!(decide ((m) = (0)))) || (decide ((s) = (([] : List UInt8)))))) rfl (fun h123 => ?_) (fun h123 => ?_)
 ·have g123 := h123; try simp only [decide_eq_true_eq, decide_eq_false_iff_not] at g123
  have f123 := h123; try simp only [decide_eq_true_eq, decide_eq_false_iff_not, Bool.and_eq_true, Bool.or_eq_true, Bool.not_eq_true', Bool.not_eq_false', Bool.and_eq_false_iff, Bool.or_eq_false_iff, not_or, Int.not_lt, Int.not_le] at f123
  refine wc_skip ?_
  refine wk_then (wc_of_wk ?_)
  refine wc_seq ?_
  refine wc_block ?_
  refine wc_seq ?_
  refine wc_region ?_
  refine wl_v (o_move rfl) rfl ?_
  refine wl_v (o_rem rfl rfl (by decide)) rfl ?_
  refine wl_v (o_assign rfl) rfl ?_
  refine wl_nil ?_
  refine wk_then (wc_of_wk ?_)
  refine wc_seq_mid [(0, .int .i64 (n)), (2, .string (B ([]))), (3, .string (B ([48, 49, 50, 51, 52, 53, 54, 55, 56, 57]))), (4, .string (B (s))), (5, .int .i64 (m)), (6, .int .i64 ((if decide ((Int.tmod m 10) < (0)) = true then -(Int.tmod m 10) else Int.tmod m 10))), (8, .int .i64 (m)), (9, .bool (!(decide ((m) = (0))))), (10, .bool (!(decide ((m) = (0))))), (13, .bool (((!(decide ((m) = (0)))) || (decide ((s) = (([] : List UInt8))))))), (16, .int .i64 (m)), (17, .int .i64 (Int.tmod m 10)), (18, .int .i64 (Int.tmod m 10)), (19, .bool (decide ((Int.tmod m 10) < (0))))] [] (φ := True) ?_ (fun hm124 => ?_)
  ·refine wc_seq ?_
   refine wc_region ?_
   refine wl_v (o_move rfl) rfl ?_
   refine wl_v (o_lt rfl rfl) rfl ?_
   refine wl_nil ?_
   refine wk_then (wc_of_wk ?_)
   refine wc_cond (b := decide ((Int.tmod m 10) < (0))) rfl (fun h124 => ?_) (fun h124 => ?_)
   ·have g124 := h124; try simp only [decide_eq_true_eq, decide_eq_false_iff_not] at g124
    have f124 := h124; try simp only [decide_eq_true_eq, decide_eq_false_iff_not, Bool.and_eq_true, Bool.or_eq_true, Bool.not_eq_true', Bool.not_eq_false', Bool.and_eq_false_iff, Bool.or_eq_false_iff, not_or, Int.not_lt, Int.not_le] at f124
    refine wc_region ?_
    refine wl_v (o_move rfl) rfl ?_
    refine wl_v (o_neg rfl (IntWalk.i64_in _ (by omega))) rfl ?_
    refine wl_v (o_assign rfl) rfl ?_
    refine wl_nil ?_
    exact wk_then (wk_mid trivial ⟨rfl, rfl, rfl, rfl, rfl, fi (by first | (simp only [h123, h124, Bool.true_and, Bool.false_and, Bool.true_or, Bool.false_or, Bool.and_true, Bool.and_false, Bool.or_true, Bool.or_false, Bool.not_true, Bool.not_false, cond_true, cond_false, if_true, if_false, reduceIte, Bool.false_eq_true]; done) | (simp only [Bool.true_and, Bool.false_and, Bool.true_or, Bool.false_or, Bool.and_true, Bool.and_false, Bool.or_true, Bool.or_false, Bool.not_true, Bool.not_false, cond_true, cond_false, if_true, if_false, reduceIte, Bool.false_eq_true]; done) | simp [h123, h124]), rfl, rfl, rfl, rfl, rfl, rfl, rfl, rfl, trivial⟩ .slnil)
   ·have g124 := h124; try simp only [decide_eq_true_eq, decide_eq_false_iff_not] at g124
    have f124 := h124; try simp only [decide_eq_true_eq, decide_eq_false_iff_not, Bool.and_eq_true, Bool.or_eq_true, Bool.not_eq_true', Bool.not_eq_false', Bool.and_eq_false_iff, Bool.or_eq_false_iff, not_or, Int.not_lt, Int.not_le] at f124
    refine wc_skip ?_
    exact wk_then (wk_mid trivial ⟨rfl, rfl, rfl, rfl, rfl, fi (by first | (simp only [h123, h124, Bool.true_and, Bool.false_and, Bool.true_or, Bool.false_or, Bool.and_true, Bool.and_false, Bool.or_true, Bool.or_false, Bool.not_true, Bool.not_false, cond_true, cond_false, if_true, if_false, reduceIte, Bool.false_eq_true]; done) | (simp only [Bool.true_and, Bool.false_and, Bool.true_or, Bool.false_or, Bool.and_true, Bool.and_false, Bool.or_true, Bool.or_false, Bool.not_true, Bool.not_false, cond_true, cond_false, if_true, if_false, reduceIte, Bool.false_eq_true]; done) | simp [h123, h124]), rfl, rfl, rfl, rfl, rfl, rfl, rfl, rfl, trivial⟩ .slnil)
  obtain ⟨d1, hd1, hd2, hd3⟩ := fmt_digit m
  rw [hd1]
  refine wc_region ?_
  refine wl_v (o_move rfl) rfl ?_
  refine wl_v (o_move rfl) rfl ?_
  refine wl_v (o_move rfl) rfl ?_
  refine wl_v (o_add rfl rfl (IntWalk.i64_in _ (by first | omega | (have := fmt_digit m; obtain ⟨d1, hd1, hd2, hd3⟩ := this; split at hd1 <;> omega)))) rfl ?_
  refine wl_v (o_slice_lh Tryz.underlying9 rfl rfl rfl (by first | omega | (simp; omega)) (by first | omega | (simp; omega)) (by first | omega | (simp; omega))) rfl ?_
  refine wl_v (o_move rfl) rfl ?_
  refine wl_v (o_sadd rfl rfl (by simp; omega)) rfl ?_
  refine wl_v (o_assign rfl) rfl ?_
  refine wl_nil ?_
  refine wk_in_norm ?_
  refine wk_then (wc_of_wk ?_)
  refine wc_region ?_
  refine wl_v (o_move rfl) rfl ?_
  refine wl_v (o_quo rfl rfl (by decide) (IntWalk.i64_in _ (by omega))) rfl ?_
  refine wl_v (o_assign rfl) rfl ?_
  refine wl_nil ?_
  refine wk_then ?_
  refine wk_some (Int.tdiv m 10, (List.take (Int.toNat ((d1 : Int) + 1) - Int.toNat ((d1 : Int))) (List.drop (Int.toNat ((d1 : Int))) [48, 49, 50, 51, 52, 53, 54, 55, 56, 57])) ++ s) ?_ ⟨fi (by first | rfl | (simp; done) | omega | (simp; omega)), fs (by first | rfl | simp), rfl, rfl, rfl, trivial⟩ .slnil
  have hx := fmt_next hi0.2 h123 hd2
  exact ⟨⟨htd, hx.1⟩, hx.2⟩
 ·have g123 := h123; try simp only [decide_eq_true_eq, decide_eq_false_iff_not] at g123
  have f123 := h123; try simp only [decide_eq_true_eq, decide_eq_false_iff_not, Bool.and_eq_true, Bool.or_eq_true, Bool.not_eq_true', Bool.not_eq_false', Bool.and_eq_false_iff, Bool.or_eq_false_iff, not_or, Int.not_lt, Int.not_le] at f123
  refine wc_exit ?_
  refine wk_then_exit ?_
  refine wk_then_exit ?_
  refine wk_in_hit ?_
  refine wk_then (wc_of_wk ?_)
  refine wc_seq ?_
  refine wc_seq ?_
  refine wc_region ?_
  refine wl_v (o_move rfl) rfl ?_
  refine wl_v (o_lt rfl rfl) rfl ?_
  refine wl_nil ?_
  refine wk_then (wc_of_wk ?_)
  refine wc_cond (b := decide ((n) < (0))) rfl (fun h126 => ?_) (fun h126 => ?_)
  ·have g126 := h126; try simp only [decide_eq_true_eq, decide_eq_false_iff_not] at g126
   have f126 := h126; try simp only [decide_eq_true_eq, decide_eq_false_iff_not, Bool.and_eq_true, Bool.or_eq_true, Bool.not_eq_true', Bool.not_eq_false', Bool.and_eq_false_iff, Bool.or_eq_false_iff, not_or, Int.not_lt, Int.not_le] at f126
   refine wc_seq ?_
   refine wc_region ?_
   refine wl_v (o_move rfl) rfl ?_
   refine wl_v (o_sadd rfl rfl (by simp; omega)) rfl ?_
   refine wl_v (o_assign rfl) rfl ?_
   refine wl_nil ?_
   refine wk_then (wc_of_wk ?_)
   refine wc_ret ?_
   refine wk_then_ret ?_
   refine wk_ret (r_1 rfl rfl) ?_
   exact retv (by rw [fmt_neg (fmt_end hi0.2 h123) g126])
  ·have g126 := h126; try simp only [decide_eq_true_eq, decide_eq_false_iff_not] at g126
   have f126 := h126; try simp only [decide_eq_true_eq, decide_eq_false_iff_not, Bool.and_eq_true, Bool.or_eq_true, Bool.not_eq_true', Bool.not_eq_false', Bool.and_eq_false_iff, Bool.or_eq_false_iff, not_or, Int.not_lt, Int.not_le] at f126
   refine wc_skip ?_
   refine wk_then (wc_of_wk ?_)
   refine wc_seq ?_
   refine wc_region ?_
   refine wl_v (o_move rfl) rfl ?_
   refine wl_v (o_assign rfl) rfl ?_
   refine wl_nil ?_
   refine wk_then (wc_of_wk ?_)
   refine wc_ret ?_
   refine wk_ret (r_1 rfl rfl) ?_
   exact retv (by rw [← fmt_pos (fmt_end hi0.2 h123) g126])

theorem child_r (p : List UInt8) (m : Int) (hp : p.length ≤ 281474976710656) (w : World) : Calls Tryz.prog 39 [.string (B (p)), .int .i64 (m)].toArray w (RetV w (.tuple #[.string (B (childV p m)), .int .i64 (childE p m)])) := by
 refine enter0 (n := 25) Tryz.func39 rfl Tryz.ntmps39 rfl ?_
 refine wc_seq ?_
 refine wc_region ?_
 refine wl_v (o_assign rfl) rfl ?_
 refine wl_v (o_assign rfl) rfl ?_
 refine wl_nil ?_
 refine wk_then (wc_of_wk ?_)
 refine wc_seq ?_
 refine wc_seq ?_
 refine wc_region ?_
 refine wl_v (o_move rfl) rfl ?_
 refine w_call Tryz.call42 rfl (fun w hw => id_r p (by first | omega | (simp; done) | (simp; omega) | (simp at *; omega) | (split <;> first | omega | (simp; omega))) w) rfl ?_
 refine wl_v (o_not rfl) rfl ?_
 refine wl_nil ?_
 refine wk_then (wc_of_wk ?_)
 refine wc_cond (b := !(idS p)) rfl (fun h127 => ?_) (fun h127 => ?_)
 ·have g127 := h127; try simp only [decide_eq_true_eq, decide_eq_false_iff_not] at g127
  have f127 := h127; try simp only [decide_eq_true_eq, decide_eq_false_iff_not, Bool.and_eq_true, Bool.or_eq_true, Bool.not_eq_true', Bool.not_eq_false', Bool.and_eq_false_iff, Bool.or_eq_false_iff, not_or, Int.not_lt, Int.not_le] at f127
  refine wc_seq ?_
  refine wc_region ?_
  refine wl_v (o_assign rfl) rfl ?_
  refine wl_v (o_assign rfl) rfl ?_
  refine wl_nil ?_
  refine wk_then (wc_of_wk ?_)
  refine wc_ret ?_
  refine wk_then_ret ?_
  refine wk_ret (r_2 rfl rfl rfl) ?_
  have e : childE p m = 4 := by simp only [childE, childL]; grind
  exact retv (by simp [childV, e, childL, B])
 ·have g127 := h127; try simp only [decide_eq_true_eq, decide_eq_false_iff_not] at g127
  have f127 := h127; try simp only [decide_eq_true_eq, decide_eq_false_iff_not, Bool.and_eq_true, Bool.or_eq_true, Bool.not_eq_true', Bool.not_eq_false', Bool.and_eq_false_iff, Bool.or_eq_false_iff, not_or, Int.not_lt, Int.not_le] at f127
  refine wc_skip ?_
  refine wk_then (wc_of_wk ?_)
  refine wc_seq ?_
  refine wc_seq_mid [(0, .string (B (p))), (1, .int .i64 (m)), (4, .string (B ([]))), (5, .int .i64 (0)), (15, .bool (((decide ((m) < (0))) || (decide ((1000000000000) < (m))))))] [] (φ := True) ?_ (fun hm128 => ?_)
  ·refine wc_region ?_
   refine wl_v (o_move rfl) rfl ?_
   refine wl_v (o_lt rfl rfl) rfl ?_
   refine wl_v (o_move rfl) rfl ?_
   refine bsplit (decide ((m) < (0))) (fun h128 => ?_) (fun h128 => ?_)
   ·have g128 := h128; try simp only [decide_eq_true_eq, decide_eq_false_iff_not] at g128
    have f128 := h128; try simp only [decide_eq_true_eq, decide_eq_false_iff_not, Bool.and_eq_true, Bool.or_eq_true, Bool.not_eq_true', Bool.not_eq_false', Bool.and_eq_false_iff, Bool.or_eq_false_iff, not_or, Int.not_lt, Int.not_le] at f128
    refine wl_off rfl rfl h128 rfl ?_
    refine wl_off rfl rfl h128 rfl ?_
    refine wl_v (o_pick_t rfl h128 rfl) rfl ?_
    refine wl_nil ?_
    exact wk_then (wk_mid trivial ⟨rfl, rfl, rfl, rfl, fb (by first | (simp only [h127, h128, Bool.true_and, Bool.false_and, Bool.true_or, Bool.false_or, Bool.and_true, Bool.and_false, Bool.or_true, Bool.or_false, Bool.not_true, Bool.not_false, cond_true, cond_false, if_true, if_false, reduceIte, Bool.false_eq_true]; done) | (simp only [Bool.true_and, Bool.false_and, Bool.true_or, Bool.false_or, Bool.and_true, Bool.and_false, Bool.or_true, Bool.or_false, Bool.not_true, Bool.not_false, cond_true, cond_false, if_true, if_false, reduceIte, Bool.false_eq_true]; done) | simp [h127, h128]), trivial⟩ .slnil)
   ·have g128 := h128; try simp only [decide_eq_true_eq, decide_eq_false_iff_not] at g128
    have f128 := h128; try simp only [decide_eq_true_eq, decide_eq_false_iff_not, Bool.and_eq_true, Bool.or_eq_true, Bool.not_eq_true', Bool.not_eq_false', Bool.and_eq_false_iff, Bool.or_eq_false_iff, not_or, Int.not_lt, Int.not_le] at f128
    refine wl_on rfl rfl h128 ?_
    refine wl_v (o_move rfl) rfl ?_
    refine wl_on rfl rfl h128 ?_
    refine wl_v (o_gt rfl rfl) rfl ?_
    refine wl_v (o_pick_f rfl h128 rfl) rfl ?_
    refine wl_nil ?_
    exact wk_then (wk_mid trivial ⟨rfl, rfl, rfl, rfl, fb (by first | (simp only [h127, h128, Bool.true_and, Bool.false_and, Bool.true_or, Bool.false_or, Bool.and_true, Bool.and_false, Bool.or_true, Bool.or_false, Bool.not_true, Bool.not_false, cond_true, cond_false, if_true, if_false, reduceIte, Bool.false_eq_true]; done) | (simp only [Bool.true_and, Bool.false_and, Bool.true_or, Bool.false_or, Bool.and_true, Bool.and_false, Bool.or_true, Bool.or_false, Bool.not_true, Bool.not_false, cond_true, cond_false, if_true, if_false, reduceIte, Bool.false_eq_true]; done) | simp [h127, h128]), trivial⟩ .slnil)
  refine wc_cond (b := ((decide ((m) < (0))) || (decide ((1000000000000) < (m))))) rfl (fun h130 => ?_) (fun h130 => ?_)
  ·have g130 := h130; try simp only [decide_eq_true_eq, decide_eq_false_iff_not] at g130
   have f130 := h130; try simp only [decide_eq_true_eq, decide_eq_false_iff_not, Bool.and_eq_true, Bool.or_eq_true, Bool.not_eq_true', Bool.not_eq_false', Bool.and_eq_false_iff, Bool.or_eq_false_iff, not_or, Int.not_lt, Int.not_le] at f130
   refine wc_seq ?_
   refine wc_region ?_
   refine wl_v (o_assign rfl) rfl ?_
   refine wl_v (o_assign rfl) rfl ?_
   refine wl_nil ?_
   refine wk_then (wc_of_wk ?_)
   refine wc_ret ?_
   refine wk_then_ret ?_
   refine wk_ret (r_2 rfl rfl rfl) ?_
   have e : childE p m = 2 := by simp only [childE, childL]; grind
   exact retv (by simp [childV, e, childL, B])
  ·have g130 := h130; try simp only [decide_eq_true_eq, decide_eq_false_iff_not] at g130
   have f130 := h130; try simp only [decide_eq_true_eq, decide_eq_false_iff_not, Bool.and_eq_true, Bool.or_eq_true, Bool.not_eq_true', Bool.not_eq_false', Bool.and_eq_false_iff, Bool.or_eq_false_iff, not_or, Int.not_lt, Int.not_le] at f130
   refine wc_skip ?_
   refine wk_then (wc_of_wk ?_)
   refine wc_seq ?_
   refine wc_region ?_
   refine wl_v (o_move rfl) rfl ?_
   refine wl_v (o_sadd rfl rfl (by simp; omega)) rfl ?_
   refine wl_v (o_move rfl) rfl ?_
   refine w_call Tryz.call49 rfl (fun w hw => format_r m (by omega) (by omega) w) rfl ?_
   have ft131 := itoa_len m (by omega) (by omega)
   refine wl_v (o_sadd rfl rfl (by simp; omega)) rfl ?_
   refine wl_v (o_assign rfl) rfl ?_
   refine wl_nil ?_
   refine wk_then (wc_of_wk ?_)
   refine wc_seq ?_
   refine wc_seq ?_
   refine wc_region ?_
   refine wl_v (o_move rfl) rfl ?_
   refine wl_v (o_len_s Tryz.underlying9 rfl) rfl ?_
   refine wl_v (o_gt rfl rfl) rfl ?_
   refine wl_nil ?_
   refine wk_then (wc_of_wk ?_)
   refine wc_cond (b := decide ((64) < ((((p ++ [46]) ++ (Lib.itoa m)).length : Int)))) rfl (fun h132 => ?_) (fun h132 => ?_)
   ·have g132 := h132; try simp only [decide_eq_true_eq, decide_eq_false_iff_not] at g132
    have f132 := h132; try simp only [decide_eq_true_eq, decide_eq_false_iff_not, Bool.and_eq_true, Bool.or_eq_true, Bool.not_eq_true', Bool.not_eq_false', Bool.and_eq_false_iff, Bool.or_eq_false_iff, not_or, Int.not_lt, Int.not_le] at f132
    refine wc_seq ?_
    refine wc_region ?_
    refine wl_v (o_assign rfl) rfl ?_
    refine wl_v (o_assign rfl) rfl ?_
    refine wl_nil ?_
    refine wk_then (wc_of_wk ?_)
    refine wc_ret ?_
    refine wk_then_ret ?_
    refine wk_ret (r_2 rfl rfl rfl) ?_
    have e : childE p m = 3 := by simp only [childE, childL]; grind
    exact retv (by simp [childV, e, childL, B])
   ·have g132 := h132; try simp only [decide_eq_true_eq, decide_eq_false_iff_not] at g132
    have f132 := h132; try simp only [decide_eq_true_eq, decide_eq_false_iff_not, Bool.and_eq_true, Bool.or_eq_true, Bool.not_eq_true', Bool.not_eq_false', Bool.and_eq_false_iff, Bool.or_eq_false_iff, not_or, Int.not_lt, Int.not_le] at f132
    refine wc_skip ?_
    refine wk_then (wc_of_wk ?_)
    refine wc_seq ?_
    refine wc_region ?_
    refine wl_v (o_move rfl) rfl ?_
    refine wl_v (o_assign rfl) rfl ?_
    refine wl_v (o_assign rfl) rfl ?_
    refine wl_nil ?_
    refine wk_then (wc_of_wk ?_)
    refine wc_ret ?_
    refine wk_ret (r_2 rfl rfl rfl) ?_
    have e : childE p m = 0 := by simp only [childE, childL]; grind
    exact retv (by simp [childV, e, childL, B])

theorem parent_r (p : List UInt8) (hp : p.length ≤ 281474976710656) (w : World) : Calls Tryz.prog 43 [.string (B (p))].toArray w (RetV w (.tuple #[.string (B (iff0 (parOk p) (parP p))), .int .i64 ((if parOk p = true then parseV (parN p) else (0 : Int))), .bool (parOk p)])) := by
 refine enter0 (n := 53) Tryz.func43 rfl Tryz.ntmps43 rfl ?_
 refine wc_seq ?_
 refine wc_region ?_
 refine wl_v (o_assign rfl) rfl ?_
 refine wl_v (o_assign rfl) rfl ?_
 refine wl_v (o_assign rfl) rfl ?_
 refine wl_nil ?_
 refine wk_then (wc_of_wk ?_)
 refine wc_seq ?_
 refine wc_region ?_
 refine wl_v (o_move rfl) rfl ?_
 refine wl_v (o_len_s Tryz.underlying9 rfl) rfl ?_
 refine wl_v (o_sub rfl rfl (IntWalk.i64_in _ (by omega))) rfl ?_
 refine wl_v (o_assign rfl) rfl ?_
 refine wl_nil ?_
 refine wk_then (wc_of_wk ?_)
 refine wc_seq ?_
 refine wc_block ?_
 refine wc_loop (S := Nat) (fun (k : Nat) => k ≤ p.length ∧ lastB p 46 = lastIx p 46 k) (fun (k : Nat) => [(5, .int .i64 ((k : Int) - 1)), (0, .string (B (p))), (2, .string (B ([]))), (3, .int .i64 (0)), (4, .bool (false))]) (fun (k : Nat) => []) (fun (k : Nat) => k) (p.length) ?_ ⟨fi (by first | rfl | (simp; done) | omega | (simp; omega)), rfl, rfl, rfl, rfl, trivial⟩ .slnil ?_
 ·exact ⟨Nat.le_refl _, rfl⟩
 rintro k hi0
 have hk1 := hi0.1
 refine wc_seq ?_
 refine wc_seq_mid [(0, .string (B (p))), (2, .string (B ([]))), (3, .int .i64 (0)), (4, .bool (false)), (5, .int .i64 ((k : Int) - 1)), (12, .int .i64 ((k : Int) - 1)), (13, .bool (decide ((0) ≤ ((k : Int) - 1)))), (14, .bool (decide ((0) ≤ ((k : Int) - 1)))), (19, .bool (((decide ((0) ≤ ((k : Int) - 1))) && (!(decide ((bat p ((k : Int) - 1)) = (46)))))))] [] (φ := True) ?_ (fun hm133 => ?_)
 ·refine wc_region ?_
  refine wl_v (o_move rfl) rfl ?_
  refine wl_v (o_ge rfl rfl) rfl ?_
  refine wl_v (o_move rfl) rfl ?_
  refine bsplit (decide ((0) ≤ ((k : Int) - 1))) (fun h133 => ?_) (fun h133 => ?_)
  ·have g133 := h133; try simp only [decide_eq_true_eq, decide_eq_false_iff_not] at g133
   have f133 := h133; try simp only [decide_eq_true_eq, decide_eq_false_iff_not, Bool.and_eq_true, Bool.or_eq_true, Bool.not_eq_true', Bool.not_eq_false', Bool.and_eq_false_iff, Bool.or_eq_false_iff, not_or, Int.not_lt, Int.not_le] at f133
   refine wl_on rfl rfl h133 ?_
   refine wl_v (o_move rfl) rfl ?_
   refine wl_on rfl rfl h133 ?_
   refine wl_v (o_move rfl) rfl ?_
   refine wl_on rfl rfl h133 ?_
   refine wl_v (o_index_b Tryz.underlying9 rfl rfl (by first | omega | (simp; omega) | (simp at *; omega)) (by first | omega | (simp; omega) | (simp at *; omega))) rfl ?_
   refine wl_on rfl rfl h133 ?_
   refine wl_v (o_ne rfl rfl) rfl ?_
   refine wl_v (o_pick_t rfl h133 rfl) rfl ?_
   refine wl_nil ?_
   exact wk_then (wk_mid trivial ⟨rfl, rfl, rfl, rfl, rfl, rfl, rfl, rfl, fb (by first | (simp only [h133, Bool.true_and, Bool.false_and, Bool.true_or, Bool.false_or, Bool.and_true, Bool.and_false, Bool.or_true, Bool.or_false, Bool.not_true, Bool.not_false, cond_true, cond_false, if_true, if_false, reduceIte, Bool.false_eq_true]; done) | (simp only [Bool.true_and, Bool.false_and, Bool.true_or, Bool.false_or, Bool.and_true, Bool.and_false, Bool.or_true, Bool.or_false, Bool.not_true, Bool.not_false, cond_true, cond_false, if_true, if_false, reduceIte, Bool.false_eq_true]; done) | simp [h133]), trivial⟩ .slnil)
  ·have g133 := h133; try simp only [decide_eq_true_eq, decide_eq_false_iff_not] at g133
   have f133 := h133; try simp only [decide_eq_true_eq, decide_eq_false_iff_not, Bool.and_eq_true, Bool.or_eq_true, Bool.not_eq_true', Bool.not_eq_false', Bool.and_eq_false_iff, Bool.or_eq_false_iff, not_or, Int.not_lt, Int.not_le] at f133
   refine wl_off rfl rfl h133 rfl ?_
   refine wl_off rfl rfl h133 rfl ?_
   refine wl_off rfl rfl h133 rfl ?_
   refine wl_off rfl rfl h133 rfl ?_
   refine wl_v (o_pick_f rfl h133 rfl) rfl ?_
   refine wl_nil ?_
   exact wk_then (wk_mid trivial ⟨rfl, rfl, rfl, rfl, rfl, rfl, rfl, rfl, fb (by first | (simp only [h133, Bool.true_and, Bool.false_and, Bool.true_or, Bool.false_or, Bool.and_true, Bool.and_false, Bool.or_true, Bool.or_false, Bool.not_true, Bool.not_false, cond_true, cond_false, if_true, if_false, reduceIte, Bool.false_eq_true]; done) | (simp only [Bool.true_and, Bool.false_and, Bool.true_or, Bool.false_or, Bool.and_true, Bool.and_false, Bool.or_true, Bool.or_false, Bool.not_true, Bool.not_false, cond_true, cond_false, if_true, if_false, reduceIte, Bool.false_eq_true]; done) | simp [h133]), trivial⟩ .slnil)
 refine wc_cond (b := ((decide ((0) ≤ ((k : Int) - 1))) && (!(decide ((bat p ((k : Int) - 1)) = (46)))))) rfl (fun h135 => ?_) (fun h135 => ?_)
 ·have g135 := h135; try simp only [decide_eq_true_eq, decide_eq_false_iff_not] at g135
  have f135 := h135; try simp only [decide_eq_true_eq, decide_eq_false_iff_not, Bool.and_eq_true, Bool.or_eq_true, Bool.not_eq_true', Bool.not_eq_false', Bool.and_eq_false_iff, Bool.or_eq_false_iff, not_or, Int.not_lt, Int.not_le] at f135
  refine wc_skip ?_
  refine wk_then (wc_of_wk ?_)
  refine wc_block ?_
  refine wc_region ?_
  refine wl_v (o_move rfl) rfl ?_
  refine wl_v (o_sub rfl rfl (IntWalk.i64_in _ (by omega))) rfl ?_
  refine wl_v (o_assign rfl) rfl ?_
  refine wl_nil ?_
  refine wk_in_norm ?_
  refine wk_then ?_
  refine wk_some (k - 1) ?_ ⟨fi (by first | rfl | (simp; done) | omega | (simp; omega)), rfl, rfl, rfl, rfl, trivial⟩ .slnil
  exact last_next hi0 f135.1 f135.2
 ·have g135 := h135; try simp only [decide_eq_true_eq, decide_eq_false_iff_not] at g135
  have f135 := h135; try simp only [decide_eq_true_eq, decide_eq_false_iff_not, Bool.and_eq_true, Bool.or_eq_true, Bool.not_eq_true', Bool.not_eq_false', Bool.and_eq_false_iff, Bool.or_eq_false_iff, not_or, Int.not_lt, Int.not_le] at f135
  refine wc_exit ?_
  refine wk_then_exit ?_
  refine wk_then_exit ?_
  refine wk_in_hit ?_
  refine wk_then (wc_of_wk ?_)
  refine wc_seq ?_
  refine wc_seq ?_
  refine wc_region ?_
  refine wl_v (o_move rfl) rfl ?_
  refine wl_v (o_lt rfl rfl) rfl ?_
  refine wl_nil ?_
  refine wk_then (wc_of_wk ?_)
  refine wc_cond (b := decide (((k : Int) - 1) < (0))) rfl (fun h136 => ?_) (fun h136 => ?_)
  ·have g136 := h136; try simp only [decide_eq_true_eq, decide_eq_false_iff_not] at g136
   have f136 := h136; try simp only [decide_eq_true_eq, decide_eq_false_iff_not, Bool.and_eq_true, Bool.or_eq_true, Bool.not_eq_true', Bool.not_eq_false', Bool.and_eq_false_iff, Bool.or_eq_false_iff, not_or, Int.not_lt, Int.not_le] at f136
   refine wc_seq ?_
   refine wc_region ?_
   refine wl_v (o_assign rfl) rfl ?_
   refine wl_v (o_assign rfl) rfl ?_
   refine wl_v (o_assign rfl) rfl ?_
   refine wl_nil ?_
   refine wk_then (wc_of_wk ?_)
   refine wc_ret ?_
   refine wk_then_ret ?_
   refine wk_ret (r_3 rfl rfl rfl rfl) ?_
   have hk := last_at hi0 h135
   have hP : parP p = List.take (Int.toNat ((k : Int) - 1)) p := by rw [parP, ← hk]
   have hN : parN p = List.drop (Int.toNat ((k : Int) - 1 + 1)) p := by rw [parN, ← hk]
   have hr : parOk p = false := by unfold parOk; rw [← hk, hP, hN]; grind
   exact retv (by simp only [hr, iff0, hP, hN]; rfl)
  ·have g136 := h136; try simp only [decide_eq_true_eq, decide_eq_false_iff_not] at g136
   have f136 := h136; try simp only [decide_eq_true_eq, decide_eq_false_iff_not, Bool.and_eq_true, Bool.or_eq_true, Bool.not_eq_true', Bool.not_eq_false', Bool.and_eq_false_iff, Bool.or_eq_false_iff, not_or, Int.not_lt, Int.not_le] at f136
   refine wc_skip ?_
   refine wk_then (wc_of_wk ?_)
   refine wc_seq ?_
   refine wc_region ?_
   refine wl_v (o_move rfl) rfl ?_
   refine wl_v (o_move rfl) rfl ?_
   refine wl_v (o_add rfl rfl (IntWalk.i64_in _ (by omega))) rfl ?_
   refine wl_v (o_slice_lo Tryz.underlying9 rfl rfl (by first | omega | (simp; omega)) (by first | omega | (simp; omega))) rfl ?_
   refine w_call Tryz.call32 rfl (fun w hw => parse_r (List.drop (Int.toNat (((k : Int) - 1) + 1)) p) (by first | omega | (simp; done) | (simp; omega) | (simp at *; omega) | (split <;> first | omega | (simp; omega))) w) rfl ?_
   have ft137 := parse_bd (List.drop (Int.toNat (((k : Int) - 1) + 1)) p)
   refine wl_v (o_move rfl) rfl ?_
   refine wl_v (o_extract rfl rfl) rfl ?_
   refine wl_v (o_extract rfl rfl) rfl ?_
   refine wl_v (o_assign rfl) rfl ?_
   refine wl_v (o_assign rfl) rfl ?_
   refine wl_nil ?_
   refine wk_then (wc_of_wk ?_)
   refine wc_seq ?_
   refine wc_seq ?_
   refine wc_region ?_
   refine wl_v (o_move rfl) rfl ?_
   refine wl_v (o_ne rfl rfl) rfl ?_
   refine wl_nil ?_
   refine wk_then (wc_of_wk ?_)
   refine wc_cond (b := !(decide ((parseE (List.drop (Int.toNat (((k : Int) - 1) + 1)) p)) = (0)))) rfl (fun h138 => ?_) (fun h138 => ?_)
   ·have g138 := h138; try simp only [decide_eq_true_eq, decide_eq_false_iff_not] at g138
    have f138 := h138; try simp only [decide_eq_true_eq, decide_eq_false_iff_not, Bool.and_eq_true, Bool.or_eq_true, Bool.not_eq_true', Bool.not_eq_false', Bool.and_eq_false_iff, Bool.or_eq_false_iff, not_or, Int.not_lt, Int.not_le] at f138
    refine wc_seq ?_
    refine wc_region ?_
    refine wl_v (o_assign rfl) rfl ?_
    refine wl_v (o_assign rfl) rfl ?_
    refine wl_v (o_assign rfl) rfl ?_
    refine wl_nil ?_
    refine wk_then (wc_of_wk ?_)
    refine wc_ret ?_
    refine wk_then_ret ?_
    refine wk_ret (r_3 rfl rfl rfl rfl) ?_
    have hk := last_at hi0 h135
    have hP : parP p = List.take (Int.toNat ((k : Int) - 1)) p := by rw [parP, ← hk]
    have hN : parN p = List.drop (Int.toNat ((k : Int) - 1 + 1)) p := by rw [parN, ← hk]
    have hr : parOk p = false := by unfold parOk; rw [← hk, hP, hN]; grind
    exact retv (by simp only [hr, iff0, hP, hN]; rfl)
   ·have g138 := h138; try simp only [decide_eq_true_eq, decide_eq_false_iff_not] at g138
    have f138 := h138; try simp only [decide_eq_true_eq, decide_eq_false_iff_not, Bool.and_eq_true, Bool.or_eq_true, Bool.not_eq_true', Bool.not_eq_false', Bool.and_eq_false_iff, Bool.or_eq_false_iff, not_or, Int.not_lt, Int.not_le] at f138
    refine wc_skip ?_
    refine wk_then (wc_of_wk ?_)
    refine wc_seq ?_
    refine wc_region ?_
    refine wl_v (o_move rfl) rfl ?_
    refine wl_v (o_move rfl) rfl ?_
    refine wl_v (o_slice_hi Tryz.underlying9 rfl rfl (by first | omega | (simp; omega)) (by first | omega | (simp; omega))) rfl ?_
    refine wl_v (o_move rfl) rfl ?_
    refine w_call Tryz.call39 rfl (fun w hw => child_r (List.take (Int.toNat ((k : Int) - 1)) p) (parseV (List.drop (Int.toNat (((k : Int) - 1) + 1)) p)) (by first | omega | (simp; done) | (simp; omega) | (simp at *; omega) | (split <;> first | omega | (simp; omega))) w) rfl ?_
    have ft139 := childV_len (List.take (Int.toNat ((k : Int) - 1)) p) (parseV (List.drop (Int.toNat (((k : Int) - 1) + 1)) p))
    refine wl_v (o_move rfl) rfl ?_
    refine wl_v (o_extract rfl rfl) rfl ?_
    refine wl_v (o_extract rfl rfl) rfl ?_
    refine wl_v (o_assign rfl) rfl ?_
    refine wl_v (o_assign rfl) rfl ?_
    refine wl_nil ?_
    refine wk_then (wc_of_wk ?_)
    refine wc_seq ?_
    refine wc_seq_mid [(0, .string (B (p))), (2, .string (B ([]))), (3, .int .i64 (0)), (4, .bool (false)), (5, .int .i64 ((k : Int) - 1)), (6, .int .i64 (parseV (List.drop (Int.toNat (((k : Int) - 1) + 1)) p))), (48, .bool (((!(decide ((childE (List.take (Int.toNat ((k : Int) - 1)) p) (parseV (List.drop (Int.toNat (((k : Int) - 1) + 1)) p))) = (0)))) || (!(decide (((childV (List.take (Int.toNat ((k : Int) - 1)) p) (parseV (List.drop (Int.toNat (((k : Int) - 1) + 1)) p)))) = (p)))))))] [] (φ := True) ?_ (fun hm140 => ?_)
    ·refine wc_region ?_
     refine wl_v (o_move rfl) rfl ?_
     refine wl_v (o_ne rfl rfl) rfl ?_
     refine wl_v (o_move rfl) rfl ?_
     refine bsplit (!(decide ((childE (List.take (Int.toNat ((k : Int) - 1)) p) (parseV (List.drop (Int.toNat (((k : Int) - 1) + 1)) p))) = (0)))) (fun h140 => ?_) (fun h140 => ?_)
     ·have g140 := h140; try simp only [decide_eq_true_eq, decide_eq_false_iff_not] at g140
      have f140 := h140; try simp only [decide_eq_true_eq, decide_eq_false_iff_not, Bool.and_eq_true, Bool.or_eq_true, Bool.not_eq_true', Bool.not_eq_false', Bool.and_eq_false_iff, Bool.or_eq_false_iff, not_or, Int.not_lt, Int.not_le] at f140
      refine wl_off rfl rfl h140 rfl ?_
      refine wl_off rfl rfl h140 rfl ?_
      refine wl_off rfl rfl h140 rfl ?_
      refine wl_v (o_pick_t rfl h140 rfl) rfl ?_
      refine wl_nil ?_
      exact wk_then (wk_mid trivial ⟨rfl, rfl, rfl, rfl, rfl, rfl, fb (by first | (simp only [h135, h136, h138, h140, Bool.true_and, Bool.false_and, Bool.true_or, Bool.false_or, Bool.and_true, Bool.and_false, Bool.or_true, Bool.or_false, Bool.not_true, Bool.not_false, cond_true, cond_false, if_true, if_false, reduceIte, Bool.false_eq_true]; done) | (simp only [Bool.true_and, Bool.false_and, Bool.true_or, Bool.false_or, Bool.and_true, Bool.and_false, Bool.or_true, Bool.or_false, Bool.not_true, Bool.not_false, cond_true, cond_false, if_true, if_false, reduceIte, Bool.false_eq_true]; done) | simp [h135, h136, h138, h140]), trivial⟩ .slnil)
     ·have g140 := h140; try simp only [decide_eq_true_eq, decide_eq_false_iff_not] at g140
      have f140 := h140; try simp only [decide_eq_true_eq, decide_eq_false_iff_not, Bool.and_eq_true, Bool.or_eq_true, Bool.not_eq_true', Bool.not_eq_false', Bool.and_eq_false_iff, Bool.or_eq_false_iff, not_or, Int.not_lt, Int.not_le] at f140
      refine wl_on rfl rfl h140 ?_
      refine wl_v (o_move rfl) rfl ?_
      refine wl_on rfl rfl h140 ?_
      refine wl_v (o_move rfl) rfl ?_
      refine wl_on rfl rfl h140 ?_
      refine wl_v (o_sne rfl rfl) rfl ?_
      refine wl_v (o_pick_f rfl h140 rfl) rfl ?_
      refine wl_nil ?_
      exact wk_then (wk_mid trivial ⟨rfl, rfl, rfl, rfl, rfl, rfl, fb (by first | (simp only [h135, h136, h138, h140, Bool.true_and, Bool.false_and, Bool.true_or, Bool.false_or, Bool.and_true, Bool.and_false, Bool.or_true, Bool.or_false, Bool.not_true, Bool.not_false, cond_true, cond_false, if_true, if_false, reduceIte, Bool.false_eq_true]; done) | (simp only [Bool.true_and, Bool.false_and, Bool.true_or, Bool.false_or, Bool.and_true, Bool.and_false, Bool.or_true, Bool.or_false, Bool.not_true, Bool.not_false, cond_true, cond_false, if_true, if_false, reduceIte, Bool.false_eq_true]; done) | simp [h135, h136, h138, h140]), trivial⟩ .slnil)
    refine wc_cond (b := ((!(decide ((childE (List.take (Int.toNat ((k : Int) - 1)) p) (parseV (List.drop (Int.toNat (((k : Int) - 1) + 1)) p))) = (0)))) || (!(decide (((childV (List.take (Int.toNat ((k : Int) - 1)) p) (parseV (List.drop (Int.toNat (((k : Int) - 1) + 1)) p)))) = (p)))))) rfl (fun h142 => ?_) (fun h142 => ?_)
    ·have g142 := h142; try simp only [decide_eq_true_eq, decide_eq_false_iff_not] at g142
     have f142 := h142; try simp only [decide_eq_true_eq, decide_eq_false_iff_not, Bool.and_eq_true, Bool.or_eq_true, Bool.not_eq_true', Bool.not_eq_false', Bool.and_eq_false_iff, Bool.or_eq_false_iff, not_or, Int.not_lt, Int.not_le] at f142
     refine wc_seq ?_
     refine wc_region ?_
     refine wl_v (o_assign rfl) rfl ?_
     refine wl_v (o_assign rfl) rfl ?_
     refine wl_v (o_assign rfl) rfl ?_
     refine wl_nil ?_
     refine wk_then (wc_of_wk ?_)
     refine wc_ret ?_
     refine wk_then_ret ?_
     refine wk_ret (r_3 rfl rfl rfl rfl) ?_
     have hk := last_at hi0 h135
     have hP : parP p = List.take (Int.toNat ((k : Int) - 1)) p := by rw [parP, ← hk]
     have hN : parN p = List.drop (Int.toNat ((k : Int) - 1 + 1)) p := by rw [parN, ← hk]
     have hr : parOk p = false := by unfold parOk; rw [← hk, hP, hN]; grind
     exact retv (by simp only [hr, iff0, hP, hN]; rfl)
    ·have g142 := h142; try simp only [decide_eq_true_eq, decide_eq_false_iff_not] at g142
     have f142 := h142; try simp only [decide_eq_true_eq, decide_eq_false_iff_not, Bool.and_eq_true, Bool.or_eq_true, Bool.not_eq_true', Bool.not_eq_false', Bool.and_eq_false_iff, Bool.or_eq_false_iff, not_or, Int.not_lt, Int.not_le] at f142
     refine wc_skip ?_
     refine wk_then (wc_of_wk ?_)
     refine wc_seq ?_
     refine wc_region ?_
     refine wl_v (o_move rfl) rfl ?_
     refine wl_v (o_move rfl) rfl ?_
     refine wl_v (o_slice_hi Tryz.underlying9 rfl rfl (by first | omega | (simp; omega)) (by first | omega | (simp; omega))) rfl ?_
     refine wl_v (o_move rfl) rfl ?_
     refine wl_v (o_assign rfl) rfl ?_
     refine wl_v (o_assign rfl) rfl ?_
     refine wl_v (o_assign rfl) rfl ?_
     refine wl_nil ?_
     refine wk_then (wc_of_wk ?_)
     refine wc_ret ?_
     refine wk_ret (r_3 rfl rfl rfl rfl) ?_
     have hk := last_at hi0 h135
     have hP : parP p = List.take (Int.toNat ((k : Int) - 1)) p := by rw [parP, ← hk]
     have hN : parN p = List.drop (Int.toNat ((k : Int) - 1 + 1)) p := by rw [parN, ← hk]
     have hr : parOk p = true := by unfold parOk; rw [← hk, hP, hN]; grind
     exact retv (by simp only [hr, iff0, hP, hN]; rfl)

end Go.Proofs.YtpmiamphppcfeaaGreatDoor

/-
 The library's contracts, and num's, in the words of the calculus. Plain theorems over the seat's program; no condition.
-/
namespace Go.Proofs.YtpmiamphppcfeaaGreatDoor.Q
open Go Go.RowKit
set_option linter.unusedVariables false
def GE (Z : Fz) : Prop := ∀ w, Frz Z w → Env w
theorem GE.mono {Z Z' : Fz} (h : Fz.le Z Z') (hg : GE Z) : GE Z' := fun w hw => hg w (fun b o e => hw b o (h b o e))
theorem Fn0.rle {P : Program} {E : Fz → Prop} {f : FuncId} {args : List Rp} {r r' : Rp} (h : Fn0 P E f args r) (hr : Rle r r') : Fn0 P E f args r' := fun w Z vs hv hs =>
 (h w Z vs hv hs).mono fun e w' ⟨q, v, H, Z', he, ⟨hq, hH⟩, hp, ht⟩ => ⟨r', v, H, Z', he, ⟨rfl, hH⟩, hr Z' v (hq ▸ hp), ht⟩
theorem Rle.tup2 {a b : Value} : Rle (rv (.tuple #[a, b])) (rTup [rv a, rv b]) := fun Z v h => ⟨[a, b], h, rfl, rfl, trivial⟩
theorem Fn0.of_id {P : Program} {E : Fz → Prop} {f : FuncId} {vs : List Value} {v : Value} (h : ∀ w, Calls P f vs.toArray w (fun e w' => e = .returned v ∧ w' = w)) : Fn0 P E f (vs.map rv) (rv v) :=
 Fn0.of_old fun w Z _ _ => (h w).mono fun e w' ⟨he, hw⟩ => ⟨he, by rw [hw]; exact Proofs.YtpmiamphppcfeaaGreatDoor.St.refl w []⟩
theorem format_q (m : Int) (g : inK .i64 m = true) : Fn0 Tryz.prog GE 45 [rI .i64 m] (rS (Lib.itoa m)) := Fn0.of_old (vs := [.int .i64 m]) fun w Z hf he => format_c m (inK_i64 g).1 (inK_i64 g).2 w (he w hf)
theorem parse_q (s : Str) (g : inA 1 s.length = true) : Fn0 Tryz.prog GE 29 [rS s] (rTup [rI .i64 (parseV s), rI .i64 (parseE s)]) := (Fn0.of_old (vs := [.string (B s)]) fun w Z hf he => parse_c s (by simp [inA] at g; omega) w (he w hf)).rle Rle.tup2
theorem count_q (s : Str) (c : UInt8) : Fn0 Tryz.prog GE 133 [rS s, rS [c]] (rI .i64 (Lib.countByte s c)) := Fn0.of_id (vs := [.string (B s), .string (B [c])]) fun w => by have := Tryz.strings_Count_one (B s) c w; rwa [B_data] at this
theorem compare_q (a b : Str) : Fn0 Tryz.prog GE 36 [rS a, rS b] (rI .i64 (Lib.compareBytes a b)) := Fn0.of_id (vs := [.string (B a), .string (B b)]) fun w => by have := Tryz.strings_Compare (B a) (B b) w; rwa [B_data, B_data] at this
theorem Rle.tup3 {a b c : Value} : Rle (rv (.tuple #[a, b, c])) (rTup [rv a, rv b, rv c]) := fun Z v h => ⟨[a, b, c], h, rfl, rfl, rfl, trivial⟩
theorem id_q (s : Str) : Fn0 Tryz.prog GE 40 [rS s] (rB (idS s)) := Fn0.of_old (vs := [.string (B s)]) fun w Z hf he => id_c s w
theorem child_q (s : Str) (m : Int) (g : inA 1 s.length = true) (gm : inK .i64 m = true) : Fn0 Tryz.prog GE 37 [rS s, rI .i64 m] (rTup [rS (childV s m), rI .i64 (childE s m)]) := (Fn0.of_old (vs := [.string (B s), .int .i64 m]) fun w Z hf he => child_c s m (by simp [inA] at g; omega) w (he w hf)).rle Rle.tup2
theorem parent_q (s : Str) (g : inA 1 s.length = true) : Fn0 Tryz.prog GE 41 [rS s] (rTup [rS (iff0 (parOk s) (parP s)), rI .i64 (if parOk s = true then parseV (parN s) else (0 : Int)), rB (parOk s)]) := (Fn0.of_old (vs := [.string (B s)]) fun w Z hf he => parent_c s (by simp [inA] at g; omega) w (he w hf)).rle Rle.tup3
theorem id_rq (s : Str) (g : inA 1 s.length = true) : Fn0 Tryz.prog GE 42 [rS s] (rB (idS s)) := Fn0.of_old (vs := [.string (B s)]) fun w Z hf he => id_r s (by simp [inA] at g; omega) w
theorem parent_rq (s : Str) (g : inA 1 s.length = true) : Fn0 Tryz.prog GE 43 [rS s] (rTup [rS (iff0 (parOk s) (parP s)), rI .i64 (if parOk s = true then parseV (parN s) else (0 : Int)), rB (parOk s)]) := (Fn0.of_old (vs := [.string (B s)]) fun w Z hf he => parent_r s (by simp [inA] at g; omega) w).rle Rle.tup3
end Go.Proofs.YtpmiamphppcfeaaGreatDoor.Q

/-
 A strings.Builder of one's own: its entry, the operations of its methods; closures called; texts made of bytes. Plain theorems over any program; no condition.
-/
namespace Go.Proofs.YtpmiamphppcfeaaGreatDoor.Q
open Go Go.RowKit
set_option linter.unusedVariables false
set_option linter.unusedSimpArgs false
theorem toI_cells (l : List UInt8) : ((toI l).map eI_u8).flatten = (l.map fun c => Value.int .u8 c.toNat).map rv := by
 induction l with
 | nil => rfl
 | cons c r ih => simp only [toI, List.map_cons, List.flatten_cons] at ih ⊢; rw [ih]; rfl
theorem toI_len (l : List UInt8) : (toI l).length = l.length := by simp [toI]
theorem run_append_str_st {P : Program} {w : World} {t t' e : TypeId} {inf : TypeInfo} {v : Value} {m : Nat} {us : List Value} {s : List UInt8} (ty : TypeId) (ht : P.underlying t = some (.slice e)) (hu : P.underlying t' = some .string) (hinf : P.info? e = some inf) (hz : inf.zero = some (.int .u8 0)) (hsize : inf.size = 1) (hby : inf.bytes = 1)
  (hown : w.ownsRow 0 e 1 v m us) (hb : m + s.length ≤ 140737488355328) :
  ∃ v' w', (Builtin.append_ #[t, t'] ty #[v, .string (B s)]).run P w = .ok v' w' ∧ w'.ownsRow 0 e 1 v' (m + s.length) (us ++ s.map fun c => Value.int .u8 c.toNat) ∧ w.grownBy w' v.ownBlock ∧ (v'.ownBlock = v.ownBlock ∨ ∀ b, v'.ownBlock = some b → w.heap.size ≤ b) := by
 have hsz : (B s).size = s.length := B_size s
 have hcells : Lib.strCells (B s) = s.map fun c => Value.int .u8 c.toNat := by simp [Lib.strCells, B]
 rcases hown.2 with ⟨rfl, rfl⟩ | ⟨g, cap, cur, rfl, hbg, hg, hnc, hcm, hcs, htake⟩
 ·have hx : us = [] := List.eq_nil_of_length_eq_zero (by simpa using hown.1)
  subst hx
  obtain ⟨v', w', e1, e2, e3, _⟩ := Lib.run_append_own_string (P := P) (w := w) w.heap.size t t' ty e inf ht hu hinf hz hsize hby (.slice none 0 0) 0 [] (World.ownsRow_nil w _ e 1) (B s) (by rw [hsz]; simp only [maxLen]; omega) (by rw [hsz]; omega) (Nat.le_refl _)
  rw [hsz, hcells] at e2
  refine ⟨v', w', e1, ⟨e2.1, ?_⟩, e3, .inr fun b hb => (e2.lt b hb).1⟩
  rcases e2.2 with h | ⟨g, cap, cur, h, _, rest⟩
  ·exact .inl h
  ·exact .inr ⟨g, cap, cur, h, Nat.zero_le _, rest⟩
 ·obtain ⟨v', w', e1, e2, e3, _⟩ := Lib.run_append_own_string (P := P) (w := w) 0 t t' ty e inf ht hu hinf hz hsize hby _ m us hown (B s) (by rw [hsz]; simp only [maxLen]; omega) (by rw [hsz]; omega) (Nat.zero_le _)
  rw [hsz, hcells] at e2
  refine ⟨v', w', e1, e2, e3, ?_⟩
  by_cases hroom : m + (B s).size ≤ cap
  ·have hr := Lib.run_append_room_string (P := P) w t t' ty e inf ht hu hinf hsize g m cap cur hg (B s) hroom (by simp at hcs; omega)
   rw [hr] at e1
   simp only [Result.ok.injEq] at e1
   rw [← e1.1]; exact .inl rfl
  ·have holds : ∀ j u, us[j]? = some u → w.cell? ((⟨g, 0, none⟩ : Addr).add j) = some u := hown.cells (g := g) rfl
   have hr := Lib.run_append_grow_string (P := P) w t t' ty e inf (.int .u8 0) ht hu hinf hz ⟨g, 0, none⟩ m cap us (by rw [hsize]; exact hown.1) holds (B s) (by omega) (by rw [hsz]; omega) (by rw [hby]; exact growslice_fits (by omega) (by rw [hsz]; omega))
   rw [hr] at e1
   simp only [Result.ok.injEq] at e1
   rw [← e1.1]; exact .inr fun b hb => by simp [Value.ownBlock] at hb; omega
section
variable {P : Program} {n : Nat} {c : Cx} {ops : Array Oper} {Q : Exit → Act → World → Prop} {rest : List Oper} {l : Fr} {H H' : List Ent} {d : Nat} {d' : Option Nat} {x y z3 : Operand} {ty t t' e : TypeId} {pos : String} {af : Array Edge} {g : Option (Nat × Bool)} {v u : Value} {r : Rp} {sz : Nat} {K : Act → World → Prop}
theorem St.tobld {Z : Fz} {w : World} (h : St c H Z w) {i b : Nat} {te T : TypeId} (hi : H[i]? = some (.blk b [rv (.pointer none), rv (.slice none 0 0)] T)) : St c (H.set i (.bld T te b (.slice none 0 0) [])) Z w := by
 refine h.set hi rfl rfl rfl (Nat.le_refl _) (fun _ _ _ => rfl) ?_ (by simp [Ent.foot, Value.ownBlock])
 obtain ⟨us, h1, h2⟩ := h.ent hi
 have := RpAll.eq_rv (us := [.pointer none, .slice none 0 0]) h2
 subst this
 exact ⟨_, .inl rfl, h1, ⟨by simp, .inl ⟨rfl, rfl⟩⟩, by simp [Value.ownBlock]⟩
theorem WK.tobld {i b : Nat} {te T : TypeId} (hi : H[i]? = some (.blk b [rv (.pointer none), rv (.slice none 0 0)] T)) (h : WK n c K l (H.set i (.bld T te b (.slice none 0 0) []))) : WK n c K l H := fun a w Z ha hw => h a w Z ha (St.tobld hw hi)
theorem WL.tobld {i b : Nat} {te T : TypeId} (hi : H[i]? = some (.blk b [rv (.pointer none), rv (.slice none 0 0)] T)) (h : WL P n c ops Q rest l (H.set i (.bld T te b (.slice none 0 0) []))) : WL P n c ops Q rest l H := fun a w Z ha hw => h a w Z ha (St.tobld hw hi)
theorem WC.tobld {xx : Code} {i b : Nat} {te T : TypeId} (hi : H[i]? = some (.blk b [rv (.pointer none), rv (.slice none 0 0)] T)) (h : WC P n c xx Q l (H.set i (.bld T te b (.slice none 0 0) []))) : WC P n c xx Q l H := fun a w Z ha hw => h a w Z ha (St.tobld hw hi)
theorem Fn.bld {E : Fz → Prop} {f : FuncId} {args : List Rp} {T te : TypeId} {b : Nat} {v : Value} {s s' : List UInt8} {res : Rp}
  (h : ∀ p, (p = .pointer none ∨ p = .pointer (some ⟨b, 0, none⟩)) → Fn P E f args [.blk b [rv p, rv v] T, .row v te 1 ((toI s).map eI_u8)] (fun R H => ∃ w0 : Value, R = res ∧ H = [.blk b [rv (.pointer (some ⟨b, 0, none⟩)), rv w0] T, .row w0 te 1 ((toI s').map eI_u8)])) :
  Fn P E f args [.bld T te b v s] (fun R H => ∃ w0 : Value, R = res ∧ H = [.bld T te b w0 s']) := fun w Z vs hv hs => by
 obtain ⟨p, hp, h1, h2, h3⟩ := hs.has _ (List.mem_singleton.2 rfl)
 have hfoot : [Ent.bld T te b v s].flatMap Ent.foot = [Ent.blk b [rv p, rv v] T, Ent.row v te 1 ((toI s).map eI_u8)].flatMap Ent.foot := by simp [Ent.foot]
 have hs' : St ⟨w, Z, [Ent.blk b [rv p, rv v] T, Ent.row v te 1 ((toI s).map eI_u8)].flatMap Ent.foot, E⟩ [Ent.blk b [rv p, rv v] T, Ent.row v te 1 ((toI s).map eI_u8)] Z w := by
  refine ⟨rfl, rfl, rfl, Nat.le_refl _, fun _ _ _ => rfl, ?_, fun e he k hk => .inr (List.mem_flatMap.2 ⟨e, he, hk⟩), ?_, hs.frz, Fz.le.refl _, fun _ _ e => .inl e, fun e he k hk => ?_, hs.env, hs.emono⟩
  ·intro e he
   simp only [List.mem_cons, List.not_mem_nil, or_false] at he
   rcases he with rfl | rfl
   ·exact ⟨[p, v], h1, rfl, rfl, trivial⟩
   ·refine ⟨fun cl hcl => by obtain ⟨z, _, rfl⟩ := List.mem_map.1 hcl; rfl, _, by simpa [toI_len] using h2, ?_⟩
    rw [toI_cells]; exact RpAll.rvs Z _
  ·refine List.pairwise_cons.2 ⟨fun e he k hk hk' => ?_, List.pairwise_singleton ..⟩
   simp only [List.mem_singleton] at he; subst he
   simp only [Ent.foot, List.mem_singleton] at hk; subst hk
   simp only [Ent.foot, Option.mem_toList] at hk'
   exact h3 hk'
  ·have hmem : k ∈ [Ent.bld T te b v s].flatMap Ent.foot := by rw [hfoot]; exact List.mem_flatMap.2 ⟨e, he, hk⟩
   obtain ⟨e', he', hk'⟩ := List.mem_flatMap.1 hmem
   exact hs.zdis e' he' k hk'
 rw [hfoot] at hs ⊢
 refine (h p hp w Z vs hv hs').mono fun e w' ⟨R, vv, H, Z', he, ⟨w0, hR, hH⟩, hpR, ht⟩ => ⟨R, vv, [.bld T te b w0 s'], Z', he, ⟨w0, hR, rfl⟩, hpR, ?_⟩
 subst hH
 obtain ⟨us, k1, k2⟩ := ht.has (.blk b [rv (.pointer (some ⟨b, 0, none⟩)), rv w0] T) (by simp)
 obtain ⟨k3, ws, k4, k5⟩ := ht.has (.row w0 te 1 ((toI s').map eI_u8)) (by simp)
 have e1 := RpAll.eq_rv (us := [.pointer (some ⟨b, 0, none⟩), w0]) k2
 subst e1
 rw [toI_cells] at k5
 have e2 := RpAll.eq_rv k5
 subst e2
 have hd := List.pairwise_cons.1 ht.dis
 have hne : w0.ownBlock ≠ some b := fun hb => hd.1 _ (List.mem_singleton.2 rfl) b (by simp [Ent.foot]) (by simp [Ent.foot, hb])
 refine { ht with has := ?_, own := ?_, dis := List.pairwise_singleton .., zdis := ?_ }
 ·intro e' he'; simp only [List.mem_singleton] at he'; subst he'
  exact ⟨_, .inr rfl, k1, by simpa [toI_len] using k4, hne⟩
 ·intro e' he' k hk; simp only [List.mem_singleton] at he'; subst he'
  simp only [Ent.foot, List.mem_cons] at hk
  rcases hk with rfl | hk
  ·exact ht.own (.blk k [rv (.pointer (some ⟨k, 0, none⟩)), rv w0] T) (by simp) k (by simp [Ent.foot])
  ·exact ht.own (.row w0 te 1 ((toI s').map eI_u8)) (by simp) k hk
 ·intro e' he' k hk; simp only [List.mem_singleton] at he'; subst he'
  simp only [Ent.foot, List.mem_cons] at hk
  rcases hk with rfl | hk
  ·exact ht.zdis (.blk k [rv (.pointer (some ⟨k, 0, none⟩)), rv w0] T) (by simp) k (by simp [Ent.foot])
  ·exact ht.zdis (.row w0 te 1 ((toI s').map eI_u8)) (by simp) k hk
theorem Fn.bldS {E : Fz → Prop} {f : FuncId} {args : List Rp} {T te : TypeId} {b : Nat} {v : Value} {s : List UInt8} {res : Rp}
  (h : ∀ p, (p = .pointer none ∨ p = .pointer (some ⟨b, 0, none⟩)) → Fn P E f args [.blk b [rv p, rv v] T, .row v te 1 ((toI s).map eI_u8)] (fun R H => R = res ∧ H = [])) :
  Fn P E f args [.bld T te b v s] (fun R H => R = res ∧ H = []) := fun w Z vs hv hs => by
 obtain ⟨p, hp, h1, h2, h3⟩ := hs.has _ (List.mem_singleton.2 rfl)
 have hfoot : [Ent.bld T te b v s].flatMap Ent.foot = [Ent.blk b [rv p, rv v] T, Ent.row v te 1 ((toI s).map eI_u8)].flatMap Ent.foot := by simp [Ent.foot]
 have hs' : St ⟨w, Z, [Ent.blk b [rv p, rv v] T, Ent.row v te 1 ((toI s).map eI_u8)].flatMap Ent.foot, E⟩ [Ent.blk b [rv p, rv v] T, Ent.row v te 1 ((toI s).map eI_u8)] Z w := by
  refine ⟨rfl, rfl, rfl, Nat.le_refl _, fun _ _ _ => rfl, ?_, fun e he k hk => .inr (List.mem_flatMap.2 ⟨e, he, hk⟩), ?_, hs.frz, Fz.le.refl _, fun _ _ e => .inl e, fun e he k hk => ?_, hs.env, hs.emono⟩
  ·intro e he
   simp only [List.mem_cons, List.not_mem_nil, or_false] at he
   rcases he with rfl | rfl
   ·exact ⟨[p, v], h1, rfl, rfl, trivial⟩
   ·refine ⟨fun cl hcl => by obtain ⟨z, _, rfl⟩ := List.mem_map.1 hcl; rfl, _, by simpa [toI_len] using h2, ?_⟩
    rw [toI_cells]; exact RpAll.rvs Z _
  ·refine List.pairwise_cons.2 ⟨fun e he k hk hk' => ?_, List.pairwise_singleton ..⟩
   simp only [List.mem_singleton] at he; subst he
   simp only [Ent.foot, List.mem_singleton] at hk; subst hk
   simp only [Ent.foot, Option.mem_toList] at hk'
   exact h3 hk'
  ·have hmem : k ∈ [Ent.bld T te b v s].flatMap Ent.foot := by rw [hfoot]; exact List.mem_flatMap.2 ⟨e, he, hk⟩
   obtain ⟨e', he', hk'⟩ := List.mem_flatMap.1 hmem
   exact hs.zdis e' he' k hk'
 rw [hfoot] at hs ⊢
 exact h p hp w Z vs hv hs'

/-! ### Pointers -/
theorem o_pnil_n (hu : ∃ e', P.underlying t = some (.pointer e')) (hx : ev l x = some (rv (.pointer none))) : ORun P n c l H { dst := d', op := .binOp .eql t x (.const (.pointer none)) t', type := ty, pos := pos, after := af, guard := g } (rB true) := fun a w Z ha _ => o_mk <| by
 obtain ⟨e', hu⟩ := hu
 have h1 : ∀ dd : Nat, (Op.equalIn (dd + 1) t (.pointer none) (.pointer none)).run P w = .ok true w := fun dd => by simp [Op.equalIn, run_underlying hu]
 have h2 : (Op.equal t (.pointer none) (.pointer none)).run P w = .ok true w := h1 9999
 have h3 : (eqGuard .eql t x (.const (.pointer none)) (.pointer none) (.pointer none)).run P w = .ok () w := by unfold eqGuard; split <;> simp
 have hy : a.eval (.const (.pointer none)) = .pointer none := rfl
 simp only [execOp, ha.eval hx, hy, Sem.run_bind, h3, Result.andThen_ok, binOp, h2, Sem.run_pure]
theorem o_psame_ne {p : Addr} {te : TypeId} (hu : P.underlying t = some (.pointer te)) (hi : ∃ j, P.info? te = some j) (hx : ev l x = some (rv (.pointer (some p)))) (hy : ev l y = some (rv (.pointer (some p)))) : ORun P n c l H { dst := d', op := .binOp .neq t x y t', type := ty, pos := pos, after := af, guard := g } (rB false) := fun a w Z ha _ => o_mk <| by
 obtain ⟨j, hj⟩ := hi
 have h3 : (eqGuard .neq t x y (.pointer (some p)) (.pointer (some p))).run P w = .ok () w := by unfold eqGuard; split <;> simp
 simp only [execOp, ha.eval hx, ha.eval hy, Sem.run_bind, h3, Result.andThen_ok, Lib.run_neq_ptr_same w p hu hj, Sem.run_pure]
theorem shape_blk {w : World} {Z : Fz} {i b : Nat} {cs : List Rp} (hw : St c H Z w) (hi : H[i]? = some (.blk b cs e)) : w.shape? b = some (e, cs.length) := by
 obtain ⟨us, h1, h2⟩ := hw.ent hi
 simp [World.shape?, h1, h2.length]
theorem o_to_unsafe {i b : Nat} {cs : List Rp} {te : TypeId} (hs : P.underlying t = some (.pointer te)) (hd : P.underlying t' = some .unsafePointer) (hj : ∃ j, P.info? te = some j ∧ j.size ≠ 0) (hx : ev l x = some (rv (.pointer (some ⟨b, 0, none⟩)))) (hi : H[i]? = some (.blk b cs e)) (hl : Nat.blt 0 cs.length = true) :
  ORun P n c l H { dst := d', op := .convert t t' x, type := ty, pos := pos, after := af, guard := g } (rv (.pointer (some ⟨b, 0, none⟩))) := fun a w Z ha hw => o_mk <| by
 obtain ⟨j, hj1, hj2⟩ := hj
 have := Lib.run_to_unsafe (P := P) w ⟨b, 0, none⟩ hs hd hj1 hj2 (shape_blk hw hi) (by simpa using hl)
 simp [execOp, ha.eval hx, this]
theorem o_from_unsafe {i b : Nat} {cs : List Rp} {te : TypeId} (hs : P.underlying t = some .unsafePointer) (hd : P.underlying t' = some (.pointer te)) (hj : ∃ j, P.info? te = some j) (hx : ev l x = some (rv (.pointer (some ⟨b, 0, none⟩)))) (hi : H[i]? = some (.blk b cs e)) (hl : liesAt P P.depth e (cs.length / P.cellsOf e) 0 te 1 = true) :
  ORun P n c l H { dst := d', op := .convert t t' x, type := ty, pos := pos, after := af, guard := g } (rv (.pointer (some ⟨b, 0, none⟩))) := fun a w Z ha hw => o_mk <| by
 obtain ⟨j, hj1⟩ := hj
 have := Lib.run_from_unsafe (P := P) w ⟨b, 0, none⟩ hs hd hj1 (shape_blk hw hi) hl
 simp [execOp, ha.eval hx, this]
theorem o_noesc {f : FuncId} {fn : Func} {ats : Array TypeId} (hf : P.funcs[f]? = some fn) (hname : (fn.name == "runtime.NumGoroutine") = false) (hb : fn.body.isNone = true) (hn : Extern.findNext fn = none) (he : Extern.find fn = some Extern.AbiNoEscape.same) (hx : ev l x = some (rv v)) :
  ORun P n c l H { dst := d', op := .call { callee := .value (.func f), args := #[x], argTypes := ats }, type := ty, pos := pos, after := af, guard := g } (rv v) := fun a w Z ha hw => o_mk <| by
 have h1 := run_callFunc_extern (P := P) (w := w) (args := #[v]) hf hname hb hn he
 rw [Lib.run_noEscape] at h1
 simp only [execOp, resolve, Sem.run_bind, Sem.run_pure, Result.andThen_ok, Act.eval, Deferred.ofValue, invoke]
 simp only [List.map_toArray, List.map_cons, List.map_nil, ha.eval hx, Array.append_empty, Array.empty_append]
 simpa using h1

theorem pos_map {α : Type} {xs : List α} {enc : α → List Rp} (h : decide (0 < xs.length) = true) : decide (0 < (xs.map enc).length) = true := by simpa using h
section
variable {P : Program} {n : Nat} {c : Cx} {l : Fr} {H : List Ent} {d' : Option Nat} {x : Operand} {ty t t' e : TypeId} {pos : String} {af : Array Edge} {g : Option (Nat × Bool)} {v : Value}
theorem foldB : ∀ (ns : List Int) (p : List UInt8), ns.foldl (fun r n => r.push (UInt8.ofNat n.toNat)) (B p) = B (p ++ ofI ns)
 | [], p => by simp [ofI]
 | n :: ns, p => by
  have e : (B p).push (UInt8.ofNat n.toNat) = B (p ++ [UInt8.ofNat n.toNat]) := by simp [B, ByteArray.push]
  simp only [List.foldl_cons, e]
  rw [foldB ns]
  simp [ofI]
theorem eI_cells (xs : List Int) : (xs.map eI_u8).flatten = (xs.map fun c => Value.int .u8 c).map rv := by
 induction xs with
 | nil => rfl
 | cons a r ih => simp [eI_u8, ih]
theorem o_b2s {i : Nat} {xs : List Int} (hs : P.underlying t = some (.slice e)) (hd : P.underlying t' = some .string) (he : P.underlying e = some (.int .u8)) (hx : ev l x = some (rv v)) (hi : H[i]? = some (.row v e 1 (xs.map eI_u8))) :
  ORun P n c l H { dst := d', op := .convert t t' x, type := ty, pos := pos, after := af, guard := g } (rS (ofI xs)) := fun a w Z ha hw => by
 obtain ⟨_, us, ⟨h1, h2⟩, h3⟩ := hw.ent hi
 rw [eI_cells] at h3
 have e2 := RpAll.eq_rv h3
 subst e2
 refine ⟨.string (B (ofI xs)), rfl, ?_⟩
 have hlx := ha.eval hx
 rcases h2 with ⟨rfl, hz⟩ | ⟨b, cap, cur, rfl, _, hb, hcap, hm, hcs, htk⟩
 ·have hx0 : xs = [] := by simpa using hz
  subst hx0
  have := run_convert_bytes_string w t t' e none 0 0 hs he hd
  simp only [execOp, hlx]
  have e3 : (Conv.bytesToString (.slice none 0 0)).run P w = .ok (.string (B [])) w := rfl
  rw [e3] at this
  simp [this, ofI]
 ·simp only [List.length_map, Nat.mul_one] at htk hcap hcs h1
  have hld := run_loadCells_list (P := P) w ⟨b, 0, none⟩ (xs.map fun c => Value.int .u8 c) (fun j u hj => by
   rw [addm, Nat.zero_add, cell_of_row w b j cur e (0, 0) hb]
   rw [← htk, List.getElem?_take] at hj
   split at hj
   ·simpa using hj
   ·cases hj)
  rw [List.length_map] at hld
  have h4 := run_bytesToString w ⟨b, 0, none⟩ xs.length cap xs hld
  have h5 := run_convert_bytes_string w t t' e (some ⟨b, 0, none⟩) xs.length cap hs he hd
  have h6 := foldB xs []
  rw [h4, show ByteArray.empty = B [] from rfl, h6] at h5
  simp [execOp, hlx, h5]
end
/-! ### Bytes as a text -/
def slp : Value → Value
 | .slice a _ _ => .pointer a
 | v => v
theorem o_sliceData {i : Nat} {ts : Array TypeId} {xs : List (List Rp)} (hx : ev l x = some (rv v)) (hi : H[i]? = some (.row v e sz xs)) (hg : decide (0 < xs.length) = true) :
  ORun P n c l H { dst := d', op := .call { callee := .builtin .unsafeSliceData, args := #[x], argTypes := ts }, type := ty, pos := pos, after := af, guard := g } (rv (slp v)) := fun a w Z ha hw => o_mk <| by
 obtain ⟨_, us, ⟨_, h2⟩, _⟩ := hw.ent hi
 have h0 : 0 < xs.length := by simpa using hg
 rcases h2 with ⟨rfl, hz⟩ | ⟨b, cap, cur, rfl, _, _, hc, _⟩
 ·omega
 ·have := Lib.run_unsafeSliceData_row (P := P) w ts ty ⟨b, 0, none⟩ xs.length cap (by omega)
  simp [execOp, resolve, invoke, builtin, ha.eval hx, this, slp]
def VRun (P : Program) (n : Nat) (c : Cx) (l : Fr) (H : List Ent) (o : Oper) (r : Rp) (H' : List Ent) : Prop := ∀ a w Z, Agr n l a Z → St c H Z w → ∃ v w' Z', Fz.le Z Z' ∧ r.p Z' v ∧ (execOp a.eval o).run P w = .ok (.value v) w' ∧ St c H' Z' w'
theorem ok_w {opsA : Array Oper} {op : Op} (hr : VRun P n c l H { dst := some d, op := op, type := ty, pos := pos, after := af, guard := none } r H') : OpOk P n c opsA Q l H { dst := some d, op := op, type := ty, pos := pos, after := af, guard := none } r H' := fun a w Z K0 ha hw hK =>
 ⟨fun _ => by
  obtain ⟨v, w', Z', hz, hv, he, hs⟩ := hr a w Z ha hw
  unfold Oper.wp
  rw [he]
  exact hK v w' Z' hz hv hs, fun h => by simp [Region.wanted] at h⟩
theorem V_unsafeString {i : Nat} {pt it : TypeId} {s : List UInt8} (hp : P.underlying pt = some (.pointer e)) (hc : P.cellsOf e = 1) (hx : ev l x = some (rv (slp v))) (hy : ev l y = some (rI .i64 ((toI s).length : Int))) (hi : H[i]? = some (.row v e 1 ((toI s).map eI_u8))) (hg : decide (0 < ((toI s).map eI_u8).length) = true) (hH : H.eraseIdx i = H') :
  VRun P n c l H { dst := some d, op := .call { callee := .builtin .unsafeString, args := #[x, y], argTypes := #[pt, it] }, type := ty, pos := pos, after := af, guard := none } (rS s) H' := fun a w Z ha hw => by
 obtain ⟨_, us, ⟨h1, h2⟩, h3⟩ := hw.ent hi
 rw [toI_cells] at h3
 have e2 := RpAll.eq_rv h3
 subst e2
 have h0 : 0 < s.length := by simpa [toI_len] using hg
 rcases h2 with ⟨rfl, hz⟩ | ⟨b, cap, cur, rfl, _, hb, hcap, hm, hcs, htk⟩
 ·simp [toI_len] at hz; subst hz; simp at h0
 ·simp only [List.length_map, toI_len, Nat.mul_one] at htk hcap hcs h1
  have hus := Lib.run_unsafeString_row (P := P) w pt it ty e hp hc b cur.size (by simp [World.shape?, hb]) s (by intro e; subst e; simp at h0) (by omega) (by simp only [maxLen] at hm; omega) (fun j x hj => by
   rw [addm, Nat.zero_add, cell_of_row w b j cur e (0, 0) hb]
   have : (s.map fun c => Value.int .u8 c.toNat)[j]? = some (.int .u8 x.toNat) := by simp [hj]
   rw [← htk, List.getElem?_take] at this
   split at this
   ·simpa using this
   ·cases this)
  have hmem := List.mem_of_getElem? hi
  have hfr := hw.front hi
  have hd := List.pairwise_cons.1 hfr.dis
  have hst := hfr.sub (List.sublist_cons_self _ _)
  have hkeep : ∀ k, k ≠ b → (w.freeze ⟨b, 0, none⟩ s.length).heap[k]? = w.heap[k]? := fun k hk => by
   simp only [World.freeze]
   split
   ·rfl
   ·simp only [Array.getElem?_modify]
    rw [if_neg (fun e => hk e.symm)]
  have hzb : Z b = none := hw.zdis _ hmem b (by simp [Ent.foot, Value.ownBlock])
  refine ⟨.string ⟨s.toArray⟩, w.freeze ⟨b, 0, none⟩ s.length, Z, Fz.le.refl _, rfl, ?_, ?_⟩
  ·have hlx := ha.eval hx
   have hly := ha.eval hy
   rw [toI_len] at hly
   simp [execOp, resolve, invoke, builtin, hlx, hly, slp, hus]
  ·subst hH
   have hfz : ∀ (f : World → Prop), True := fun _ => trivial
   refine { hst with os := ?_, tape := ?_, output := ?_, size := ?_, old := fun k hk hkM => ?_, has := fun en he => ?_, frz := fun b' o hb' => ?_ }
   ·rw [← hst.os]; simp only [World.freeze]; split <;> rfl
   ·rw [← hst.tape]; simp only [World.freeze]; split <;> rfl
   ·rw [← hst.output]; simp only [World.freeze]; split <;> rfl
   ·refine Nat.le_trans hst.size ?_; simp only [World.freeze]; split <;> simp
   ·have hkb : k ≠ b := fun e => by
     subst e
     rcases hw.own _ hmem k (by simp [Ent.foot, Value.ownBlock]) with h4 | h4
     ·omega
     ·exact hkM h4
    rw [hkeep k hkb]; exact hst.old k hk hkM
   ·exact Ent.keep (hst.has en he) (Fz.le.refl _) fun k hk => hkeep k (fun e => hd.1 en he b (by simp [Ent.foot, Value.ownBlock]) (e ▸ hk))
   ·rw [hkeep b' (fun e => by subst e; rw [hzb] at hb'; cases hb')]; exact hst.frz b' o hb'
/-! ### Closures -/
theorem run_closure {f : FuncId} {args : List Operand} {ats : Array TypeId} {o : Oper} {a : Act} {caps : List Value} (ho : o.op = .call { callee := .value x, args := args.toArray, argTypes := ats }) (hx : a.eval x = .func (.func f) #[] caps.toArray)
  (hcall : ∀ (as1 : Array Value) (w : World), (callFunc f as1).run P w = .ok (.enter f as1) w) (w : World) : (execOp a.eval o).run P w = .ok (.enter f (args.map a.eval ++ caps).toArray) w := by
 simp [execOp, ho, resolve, hx, Deferred.ofValue, invoke, hcall]
theorem w_callc {f : FuncId} {args : List Operand} {ats : Array TypeId} {rs : List Rp} {caps : List Value} {Hin Hr : List Ent} {Φ : Rp → List Ent → Prop} (hcall : ∀ (as1 : Array Value) (w : World), (callFunc f as1).run P w = .ok (.enter f as1) w) (hx : ev l x = some (rv (.func (.func f) #[] caps.toArray))) (hv : evs l args = some rs)
  (hp : H.Perm (Hin ++ Hr)) (hc : Fn P c.E f (rs ++ caps.map rv) Hin Φ) (hn : Nat.blt d n = true) (h : ∀ r Ho, Φ r Ho → WL P n c ops Q rest ((d, r) :: l) (Ho ++ Hr)) :
  WL P n c ops Q ({ dst := some d, op := .call { callee := .value x, args := args.toArray, argTypes := ats }, type := ty, pos := pos, after := af, guard := none } :: rest) l H :=
 wl_call (args := fun a => (args.map a.eval ++ caps).toArray) (fun a w Z ha hw => ⟨run_closure rfl (ha.eval hx) hcall w, by
  have hw2 := hw.perm hp
  refine (hc w Z _ (by have := (evs_all ha hv).append (RpAll.rvs Z caps); simpa using this) hw2.enter).mono ?_
  rintro e w' ⟨r, v, Ho, Z', he, hΦ, hr, hs⟩
  exact ⟨v, r, Ho ++ Hr, Z', he, hs.le, hr, hw2.call hs, h r Ho hΦ⟩⟩) hn
theorem w_append_str {xs : List Int} {s : List UInt8} {i : Nat} {inf : TypeInfo} (ht : P.underlying t = some (.slice e)) (hu : P.underlying t' = some .string) (hinf : P.info? e = some inf) (hz : inf.zero = some (.int .u8 0)) (hsize : inf.size = 1) (hby : inf.bytes = 1)
  (hx : ev l x = some (rv v)) (hy : ev l y = some (rS s)) (hi : H[i]? = some (.row v e 1 (xs.map eI_u8))) (hg : inA 1 (xs.length + s.length) = true) (hn : Nat.blt d n = true)
  (h : ∀ v', WL P n c ops Q rest ((d, rv v') :: l) (.row v' e 1 ((xs ++ toI s).map eI_u8) :: H.eraseIdx i)) :
  WL P n c ops Q ({ dst := some d, op := .call { callee := .builtin .append, args := #[x, y], argTypes := #[t, t'] }, type := ty, pos := pos, after := af, guard := none } :: rest) l H :=
 wl_w (fun a w Z ha hw => by
  obtain ⟨h0, us, h1, h2⟩ := hw.ent hi
  have hb : (xs.length + s.length) * 1 ≤ 140737488355328 := by simpa [inA] using hg
  rw [List.length_map] at h1
  obtain ⟨v', w', e1, e2, e3, e4⟩ := run_append_str_st (P := P) (w := w) ty ht hu hinf hz hsize hby h1 (s := s) (by omega)
  have hent : (Ent.row v' e 1 ((xs ++ toI s).map eI_u8)).holds Z w' := ⟨fun cl hcl => by obtain ⟨z', _, rfl⟩ := List.mem_map.1 hcl; rfl, us ++ s.map (fun c => Value.int .u8 c.toNat), by simpa [toI_len] using e2, by
   rw [List.map_append, List.flatten_append, toI_cells]; exact h2.append (RpAll.rvs Z _)⟩
  have hst := hw.callF hi (St.one (e' := .row v' e 1 ((xs ++ toI s).map eI_u8)) (M := (Ent.row v e 1 (xs.map eI_u8)).foot) hw.frz hw.env hw.emono e3.os e3.tape e3.output e3.size (fun k hk hne => e3.block k hk (fun e1 => hne (by simp [Ent.foot, ← e1])))
   (hw.zdis _ (List.mem_of_getElem? hi)) hent (fun k hk => by
    simp only [Ent.foot, Option.mem_toList] at hk ⊢
    rcases e4 with e4 | e4
    ·exact .inl (e4 ▸ hk)
    ·exact .inr (e4 k hk)))
  exact ⟨v', w', rv v', _, Z, by simp [execOp, resolve, invoke, builtin, ha.eval hx, ha.eval hy, e1], Fz.le.refl _, rfl, hst, h v'⟩) hn
end
section
variable {P : Program} {n : Nat} {c : Cx} {ops : Array Oper} {Q : Exit → Act → World → Prop} {rest : List Oper} {l : Fr} {H : List Ent} {d : Nat} {ty : TypeId} {pos : String} {af : Array Edge} {r : Rp} {x y z3 : Operand}
theorem wo {d : Option Nat} {op : Op} {j dj : Nat} {want b : Bool} (hb : b = want) (h : WL P n c ops Q ({ dst := d, op := op, type := ty, pos := pos, after := af, guard := none } :: rest) l H) (hj : gslot ops j = some dj := by rfl) (hv : look l dj = some (rB b) := by rfl) :
  WL P n c ops Q ({ dst := d, op := op, type := ty, pos := pos, after := af, guard := some (j, want) } :: rest) l H := wl_on hj hv hb h
theorem wf {op : Op} {j dj : Nat} {want b : Bool} (hb : b = !want) (h : WL P n c ops Q rest ((d, rv undef) :: l) H) (hj : gslot ops j = some dj := by rfl) (hv : look l dj = some (rB b) := by rfl) (hn : Nat.blt d n = true := by rfl) :
  WL P n c ops Q ({ dst := some d, op := op, type := ty, pos := pos, after := af, guard := some (j, want) } :: rest) l H := wl_off hj hv hb hn h
theorem wu {op : Op} {j dj : Nat} {want : Bool} (h : WL P n c ops Q rest ((d, rv undef) :: l) H) (hj : gslot ops j = some dj := by rfl) (hv : look l dj = some (rv undef) := by rfl) (hn : Nat.blt d n = true := by rfl) :
  WL P n c ops Q ({ dst := some d, op := op, type := ty, pos := pos, after := af, guard := some (j, want) } :: rest) l H := wl_off_u hj hv hn h
theorem wv {op : Op} (hr : ORun P n c l H { dst := some d, op := op, type := ty, pos := pos, after := af, guard := none } r) (h : WL P n c ops Q rest ((d, r) :: l) H) (hn : Nat.blt d n = true := by rfl) : WL P n c ops Q ({ dst := some d, op := op, type := ty, pos := pos, after := af, guard := none } :: rest) l H := wl_v hr hn h
theorem wm (h : ev l x = some r) (hk : WL P n c ops Q rest ((d, r) :: l) H) (hn : Nat.blt d n = true := by rfl) : WL P n c ops Q ({ dst := some d, op := .move x, type := ty, pos := pos, after := af, guard := none } :: rest) l H := wl_v (o_move h) hn hk
theorem wa (h : ev l x = some r) (hk : WL P n c ops Q rest ((d, r) :: l) H) (hn : Nat.blt d n = true := by rfl) : WL P n c ops Q ({ dst := some d, op := .assign x, type := ty, pos := pos, after := af, guard := none } :: rest) l H := wl_v (o_assign h) hn hk
theorem wpt {b : Bool} (hc : ev l z3 = some (rB b)) (hb : b = true) (h : ev l x = some r) (hk : WL P n c ops Q rest ((d, r) :: l) H) (hn : Nat.blt d n = true := by rfl) : WL P n c ops Q ({ dst := some d, op := .pick z3 x y, type := ty, pos := pos, after := af, guard := none } :: rest) l H := wl_v (o_pick_t hc hb h) hn hk
theorem wpf {b : Bool} (hc : ev l z3 = some (rB b)) (hb : b = false) (h : ev l y = some r) (hk : WL P n c ops Q rest ((d, r) :: l) H) (hn : Nat.blt d n = true := by rfl) : WL P n c ops Q ({ dst := some d, op := .pick z3 x y, type := ty, pos := pos, after := af, guard := none } :: rest) l H := wl_v (o_pick_f hc hb h) hn hk
theorem wc0 {f : FuncId} {args : List Operand} {ats : Array TypeId} {rs : List Rp} (hcall : ∀ (as1 : Array Value) (w : World), (callFunc f as1).run P w = .ok (.enter f as1) w) (hc : Fn0 P c.E f rs r) (hv : evs l args = some rs) (h : WL P n c ops Q rest ((d, r) :: l) H) (hn : Nat.blt d n = true := by rfl) :
  WL P n c ops Q ({ dst := some d, op := .call { callee := .value (.func f), args := args.toArray, argTypes := ats }, type := ty, pos := pos, after := af, guard := none } :: rest) l H := w_call0 hcall hv hc rfl hn h
theorem wcl {f : FuncId} {args : List Operand} {ats : Array TypeId} {rs : List Rp} {Hin Hr : List Ent} {Φ : Rp → List Ent → Prop} (hcall : ∀ (as1 : Array Value) (w : World), (callFunc f as1).run P w = .ok (.enter f as1) w) (hc : Fn P c.E f rs Hin Φ) (hv : evs l args = some rs)
  (hp : H.Perm (Hin ++ Hr)) (hn : Nat.blt d n = true) (h : ∀ r Ho, Φ r Ho → WL P n c ops Q rest ((d, r) :: l) (Ho ++ Hr)) :
  WL P n c ops Q ({ dst := some d, op := .call { callee := .value (.func f), args := args.toArray, argTypes := ats }, type := ty, pos := pos, after := af, guard := none } :: rest) l H := w_call hcall hv hp hc hn h
theorem ok_c0 {opsA : Array Oper} {f : FuncId} {args : List Operand} {ats : Array TypeId} {rs : List Rp} (hcall : ∀ (as1 : Array Value) (w : World), (callFunc f as1).run P w = .ok (.enter f as1) w) (hc : Fn0 P c.E f rs r) (hv : evs l args = some rs) :
  OpOk P n c opsA Q l H { dst := some d, op := .call { callee := .value (.func f), args := args.toArray, argTypes := ats }, type := ty, pos := pos, after := af, guard := none } r H := ok_call0 hcall hv hc rfl
theorem wt {K : Exit → Act → World → Prop} {l1 : Fr} {H1 : List Ent} (hl : Sub l1 l := by repeat (first | exact Sub.nil | refine Sub.c rfl ?_)) (hH : H1.Sublist H := by repeat (first | exact sN | refine sC ?_ | refine sS ?_)) : WK n c (Exit.then (Mid n c l1 H1) K .normal) l H := wk_then (wk_mid hl hH)
theorem wtc {p : Prop} (hp : p) {K : Exit → Act → World → Prop} {l1 : Fr} {H1 : List Ent} (hl : p → Sub l1 l := by intro hp; repeat (first | exact Sub.nil | refine Sub.c rfl ?_ | refine Sub.c (by first | (simp only [hp]; rfl) | simp [hp]) ?_)) (hH : H1.Sublist H := by repeat (first | exact sN | refine sC ?_ | refine sS ?_)) : WK n c (Exit.then (Mid n c l1 H1) K .normal) l H := wk_then (wk_mid (hl hp) hH)
end
end Go.Proofs.YtpmiamphppcfeaaGreatDoor.Q

/-
 What a law is handed, read as what it stands for: the blocks of the world that is handed in are frozen. Plain theorems over any program; no condition.
-/
namespace Go.Proofs.YtpmiamphppcfeaaGreatDoor.Q
open Go Go.RowKit Go.ChangeShapes Go.Deep
set_option linter.unusedVariables false
set_option linter.unusedSimpArgs false
def ZW (W : World) : Fz := fun b => W.heap[b]?
theorem ZW.frz (W : World) : Frz (ZW W) W := fun _ _ h => h
def Opn (P : Program) (e : TypeId) {α : Type} (enc : α → List Rp) (ok : α → Bool) : Prop :=
 ∀ {H : Type} {encH : TypeId × Value → H} {W : World} {sp : Nat → Bool} {held : Bool} {n : Nat} {cs : List Value} {x : DataW H × List MemPlace}, DataW.trod encH P W 0 sp held n e cs = some x → ∃ y : α, ok y = true ∧ RpAll (ZW W) (enc y) cs
section
variable {P : Program} {e t : TypeId}
theorem Opn.int {k : IntKind} {enc : Int → List Rp} (ht : P.underlying e = some (.int k)) (he : ∀ n, enc n = [rI k n]) : Opn P e enc (inK k) := fun h => by
 obtain ⟨n, rfl, _, hwf⟩ := DataW.trod_int ht h
 exact ⟨n, hwf, by rw [he]; exact ⟨rfl, trivial⟩⟩
theorem Opn.str {enc : Str → List Rp} (ht : P.underlying e = some .string) (he : ∀ n, enc n = [rS n]) : Opn P e enc okS := fun h => by
 obtain ⟨s, rfl, _, hl⟩ := DataW.trod_string ht h
 exact ⟨s.data.toList, decide_eq_true (by rw [Array.length_toList]; exact hl), by rw [he]; exact ⟨congrArg Value.string (B_of s), trivial⟩⟩
theorem Opn.bool {enc : Bool → List Rp} (ht : P.underlying e = some .bool) (he : ∀ n, enc n = [rB n]) : Opn P e enc (fun _ => true) := fun h => by
 obtain ⟨b, rfl, _⟩ := DataW.trod_bool ht h
 exact ⟨b, rfl, by rw [he]; exact ⟨rfl, trivial⟩⟩
theorem cell_spot {W : World} {a : Addr} {v : Value} (h : W.cell? a = some v) : a.spot = none ∧ zcell (ZW W) a.block a.off = some v := by
 unfold World.cell? at h
 unfold zcell ZW
 cases hh : W.heap[a.block]? with
 | none => rw [hh] at h; cases h
 | some o =>
  rw [hh] at h
  cases o with
  | cells cs t fz =>
   cases hs : a.spot with
   | none => simp [hs] at h; exact ⟨rfl, h⟩
   | some _ => simp [hs] at h
  | _ => simp at h
theorem Opn.slice {α : Type} [Inhabited α] {enc : α → List Rp} {ok : α → Bool} {sz : Nat} (ht : P.underlying t = some (.slice e)) (hc : P.cellsOf e = sz) (hsz : 0 < sz) (h : Opn P e enc ok) (hlen : ∀ y, (enc y).length = sz) {enc' : List α → List Rp} (he : ∀ ys, enc' ys = [rSl sz (ys.map enc)]) :
  Opn P t enc' (fun ys => ys.all ok && decide (ys.length ≤ 9223372036854775807)) := fun {H encH W sp held n cs x} hx => by
 rcases open_slice ht hx with ⟨rfl, _⟩ | ⟨a, len, cap, m, n', D, Pl, rfl, hb, hl, hm, hmm, _, hel⟩
 ·exact ⟨[], by simp, by rw [he]; exact ⟨SlZ.nil sz _, trivial⟩⟩
 ·have hlm : len ≤ m := by rw [hmm]; split <;> omega
  have each : ∀ i, i < len → ∃ y : α, ok y = true ∧ ∃ cs', W.cells? 0 (a.add (i * sz)) sz = some cs' ∧ RpAll (ZW W) (enc y) cs' := fun i hi => by
   obtain ⟨cs', h1, h2⟩ := hel i (by omega)
   obtain ⟨y, hy, hr⟩ := h h2
   rw [hc] at h1
   exact ⟨y, hy, cs', h1, hr⟩
  obtain ⟨f, hf⟩ := choose_lt each
  refine ⟨(List.range len).map f, ?_, ?_⟩
  ·simp only [Bool.and_eq_true, List.all_eq_true, List.mem_map, List.mem_range, decide_eq_true_eq]
   refine ⟨?_, by simp; simp only [maxLen] at hm; omega⟩
   rintro _ ⟨i, hi, rfl⟩
   exact (hf i hi).1
  ·rw [he]
   refine ⟨⟨some a, cap, by simp, by simpa using hl, hm, (fun h => by cases h), fun i c hi => ?_⟩, trivial⟩
   rw [List.map_map, List.getElem?_map] at hi
   have hil : i < len := by
    cases hq : (List.range len)[i]? with
    | none => rw [hq] at hi; cases hi
    | some _ => have := (List.getElem?_eq_some_iff.1 hq).1; simpa using this
   rw [List.getElem?_range hil] at hi
   simp only [Option.map_some, Option.some.injEq, Function.comp] at hi
   subst hi
   obtain ⟨_, cs', h1, hr⟩ := hf i hil
   obtain ⟨_, hcl, hcell⟩ := World.cells?_some h1
   have hsp : a.spot = none := by
    obtain ⟨_, cs0, g1, _⟩ := hf 0 (by omega)
    obtain ⟨_, gcl, gcell⟩ := World.cells?_some g1
    have h0 := gcell 0 hsz
    rw [List.getElem?_eq_getElem (by omega)] at h0
    have := (cell_spot h0).1
    simpa [Addr.add] using this
   refine ⟨hlen _, a, rfl, hsp, fun j r hj => ?_⟩
   obtain ⟨u, hu, hp⟩ := hr.at hj
   have hjs : j < sz := by have := (List.getElem?_eq_some_iff.1 hj).1; rw [hlen] at this; exact this
   have h3 := hcell j hjs
   rw [hu] at h3
   have h4 := (cell_spot h3).2
   refine ⟨u, ?_, hp⟩
   have e1 : ((a.add (i * sz)).add j).block = a.block := by simp only [Addr.add]; split <;> split <;> rfl
   have e2 : ((a.add (i * sz)).add j).off = a.off + (i * sz + j) := by simp only [Addr.add]; split <;> split <;> simp_all <;> omega
   rw [e1, e2] at h4
   exact h4
theorem Opn.val {α : Type} {enc : α → List Rp} {ok : α → Bool} (h : Opn P e enc ok) {r : α → Rp} (he : ∀ y, enc y = [r y]) {H : Type} {encH : TypeId × Value → H} {W : World} {sp : Nat → Bool} {held : Bool} {v : Value} {d : DataW H} {ps : List MemPlace}
  (hone : v.cells = #[v]) (ht : DataW.Trod encH P W 0 sp held e v d ps) : ∃ y : α, ok y = true ∧ (r y).p (ZW W) v := by
 obtain ⟨fuel, hf⟩ := ht
 rw [hone] at hf
 obtain ⟨y, hy, hr⟩ := h hf
 rw [he] at hr
 exact ⟨y, hy, hr.1⟩
end
end Go.Proofs.YtpmiamphppcfeaaGreatDoor.Q

/-
 The row's step over the calculus of representations.
-/
namespace Go.Proofs.YtpmiamphppcfeaaGreatDoor.Q
open Go Go.RowKit
set_option linter.unusedVariables false
theorem frz_size {W w : World} (hw : Frz (ZW W) w) : W.heap.size ≤ w.heap.size := by
 rcases Nat.eq_zero_or_pos W.heap.size with h | h
 ·omega
 ·have h1 : W.heap[W.heap.size - 1]? = some (W.heap[W.heap.size - 1]'(by omega)) := Array.getElem?_eq_getElem (by omega)
  have := (Array.getElem?_eq_some_iff.1 (hw _ _ h1)).1
  omega
theorem ge_of_env {W : World} (hE : Env W) : GE (ZW W) := fun w hw => by
 have hb : Below W.heap.size W { w with os := W.os, tape := W.tape, output := W.output } := ⟨rfl, rfl, rfl, frz_size hw, fun k hk => by
  have h1 : W.heap[k]? = some (W.heap[k]'hk) := Array.getElem?_eq_getElem hk
  rw [h1]; exact hw k _ h1⟩
 have hE2 := hE.st0 (St.of_below hb)
 exact ⟨Tabs.block { w with os := W.os, tape := W.tape, output := W.output } w (fun _ _ => rfl) hE2.tabs, hE2.size⟩
theorem st_start {W : World} (hE : Env W) : St ⟨W, ZW W, [], GE⟩ [] (ZW W) W where
 os := rfl
 tape := rfl
 output := rfl
 size := Nat.le_refl _
 old := fun _ _ _ => rfl
 has := fun _ h => by cases h
 own := fun _ h => by cases h
 dis := .nil
 frz := ZW.frz W
 le := Fz.le.refl _
 new := fun _ _ h => .inl h
 zdis := fun _ h => by cases h
 env := ge_of_env hE
 emono := fun h hg => GE.mono h hg
theorem st_below {W W' : World} {Z Z' : Fz} {E : Fz → Prop} {H : List Ent} (h : St ⟨W, Z, [], E⟩ H Z' W') : Below W.heap.size W W' := ⟨h.os, h.tape, h.output, h.size, fun k hk => h.old k hk (by simp)⟩
end Go.Proofs.YtpmiamphppcfeaaGreatDoor.Q

/-
 What functions compute, with checks: plain definitions, printed by a small program of ours (gq.py). No program in sight.
-/
namespace Go.Proofs.YtpmiamphppcfeaaGreatDoor.Q
open Go
set_option linter.unusedVariables false
def bCopy0 (l : (List Int)) : Option ((List Int)) :=
 some l

def bWriteByte0 (l : (List Int)) (c : Int) : Option (Unit × (List Int)) :=
 obn (bCopy0 l) fun r1 => chk (inA 1 (r1.length + ([c] : List Int).length)) <| some ((), r1 ++ ([c] : List Int))

def bWriteString0 (l : (List Int)) (s : Str) : Option (Int × Unit × (List Int)) :=
 obn (bCopy0 l) fun r1 => chk (inA 1 (r1.length + s.length)) <| some ((s.length : Int), (), r1 ++ toI s)

def bString0 (l : Str) : Option (Str) :=
 chk (decide (0 < (toI l).length)) <| some l

def bCopy1 (l : (List Int)) : Option ((List Int)) :=
 some l

def bWriteByte1 (l : (List Int)) (c : Int) : Option (Unit × (List Int)) :=
 obn (bCopy1 l) fun r1 => chk (inA 1 (r1.length + ([c] : List Int).length)) <| some ((), r1 ++ ([c] : List Int))

def bWriteString1 (l : (List Int)) (s : Str) : Option (Int × Unit × (List Int)) :=
 obn (bCopy1 l) fun r1 => chk (inA 1 (r1.length + s.length)) <| some ((s.length : Int), (), r1 ++ toI s)

def bString1 (l : Str) : Option (Str) :=
 chk (decide (0 < (toI l).length)) <| some l

end Go.Proofs.YtpmiamphppcfeaaGreatDoor.Q

/-
  Walks, printed by a small program of ours (gq.py).
-/
namespace Go.Proofs.YtpmiamphppcfeaaGreatDoor.Q
open Go Go.RowKit
set_option linter.unusedVariables false
set_option linter.unusedSimpArgs false
set_option maxRecDepth 100000
set_option maxHeartbeats 4000000
theorem info5 : ∃ inf, Tryz.prog.info? 5 = some inf ∧ inf.zero = some (.int .u8 0) ∧ inf.size = 1 ∧ inf.bytes = 1 := by
  have key : (Tryz.prog.info? 5).map (fun i => (i.zero, i.size, i.bytes)) = some (some (.int .u8 0), 1, 1) := by kernel_rfl
  obtain ⟨inf, h1, h2⟩ := Option.map_eq_some_iff.1 key
  simp only [Prod.mk.injEq] at h2
  exact ⟨inf, h1, h2.1, h2.2.1, h2.2.2⟩
theorem infoN82 : ∃ j, Tryz.prog.info? 82 = some j ∧ j.size ≠ 0 := by
  have key : (Tryz.prog.info? 82).map (fun i => i.size) = some 2 := by kernel_rfl
  obtain ⟨j, h1, h2⟩ := Option.map_eq_some_iff.1 key
  exact ⟨j, h1, by rw [h2]; decide⟩
theorem infoE82 : ∃ j, Tryz.prog.info? 82 = some j := infoN82.imp fun _ h => h.1
theorem bCopy0_w (b_l : Nat) (v_l : Value) (l : (List Int)) (r : (List Int)) (h : bCopy0 l = some r) : Fn Tryz.prog GE 118 [rv (.pointer (some ⟨b_l, 0, none⟩))] [.blk b_l [rv (.pointer none), rv v_l] 82, .row v_l 5 1 (List.map eI_u8 l)] (fun R H => ∃ w0 : Value, R = rv (.tuple #[]) ∧ H = [.blk b_l [rv (.pointer (some ⟨b_l, 0, none⟩)), rv w0] 82, .row w0 5 1 (List.map eI_u8 r)]) := by
 refine enter (n := 20) Tryz.func118 rfl Tryz.ntmps118 rfl (fun w Z => ?_)
 refine wc_as (l' := [(0, rv (.pointer (some ⟨b_l, 0, none⟩)))]) (H' := [.blk b_l [rv (.pointer none), rv v_l] 82, .row v_l 5 1 (List.map eI_u8 l)]) rfl rfl ?_
 unfold bCopy0 at h
 refine wc_sr ?_
 refine wm rfl ?_
 refine wv (o_nilcheck rfl) ?_
 refine wv (o_fieldAddr Tryz.underlying82 rfl Tryz.sizeOf79 rfl rfl) ?_
 refine wv (o_load (i := 0) Tryz.isAgg79 rfl rfl rfl) ?_
 refine wv (r := rB true) (o_pnil_n ⟨_, Tryz.underlying79⟩ rfl) ?_
 refine wl_x ?_
 refine wc_cond_t rfl rfl ?_
 refine wc_region ?_
 refine wm rfl ?_
 refine wm rfl ?_
 refine wv (r := rv (.pointer (some ⟨b_l, 0, none⟩))) (o_to_unsafe (i := 0) Tryz.underlying79 Tryz.underlying144 infoN82 rfl rfl rfl) ?_
 refine wl_v (r := rv (.pointer (some ⟨b_l, 0, none⟩))) (o_noesc Tryz.func137 (by kernel_rfl) (by kernel_rfl) (by kernel_rfl) (by kernel_rfl) rfl) rfl ?_
 refine wv (r := rv (.pointer (some ⟨b_l, 0, none⟩))) (o_from_unsafe (i := 0) Tryz.underlying144 Tryz.underlying79 infoE82 rfl rfl (by kernel_rfl)) ?_
 refine wv (o_nilcheck rfl) ?_
 refine wv (o_fieldAddr Tryz.underlying82 rfl Tryz.sizeOf79 rfl rfl) ?_
 refine u_store (i := 0) Tryz.sizeOf79 rfl rfl (one_c rfl) rfl rfl (cs' := [rv (.pointer (some ⟨b_l, 0, none⟩)), rv v_l]) rfl (H' := [.blk b_l [rv (.pointer (some ⟨b_l, 0, none⟩)), rv v_l] 82, .row v_l 5 1 (List.map eI_u8 l)]) rfl ?_
 refine wl_nil ?_
 obtain rfl := some_e h
 exact wk_end (r_0 Tryz.results118) (sC (sC sN)) ⟨v_l, rfl, rfl⟩

theorem bWriteByte0_w (b_l : Nat) (v_l : Value) (l : (List Int)) (c : Int) (r : Unit × (List Int)) (h : bWriteByte0 l c = some r) : Fn Tryz.prog GE 97 [rv (.pointer (some ⟨b_l, 0, none⟩)), rI .u8 c] [.blk b_l [rv (.pointer none), rv v_l] 82, .row v_l 5 1 (List.map eI_u8 l)] (fun R H => ∃ w0 : Value, R = rv (.nilIface) ∧ H = [.blk b_l [rv (.pointer (some ⟨b_l, 0, none⟩)), rv w0] 82, .row w0 5 1 (List.map eI_u8 r.2)]) := by
 refine enter (n := 17) Tryz.func97 rfl Tryz.ntmps97 rfl (fun w Z => ?_)
 refine wc_as (l' := [(0, rv (.pointer (some ⟨b_l, 0, none⟩))), (1, rI .u8 c)]) (H' := [.blk b_l [rv (.pointer none), rv v_l] 82, .row v_l 5 1 (List.map eI_u8 l)]) rfl rfl ?_
 unfold bWriteByte0 at h
 refine wc_sr ?_
 refine wv (r := rv (.nilIface)) (o_assign rfl) ?_
 refine wl_y ?_
 refine wm rfl ?_
 obtain ⟨r1, e3, h2⟩ := obn_e h
 refine wcl (Hr := []) Tryz.call118 (bCopy0_w b_l v_l l r1 e3) rfl (List.Perm.refl _) rfl ?_
 rintro _ _ ⟨v4, rfl, rfl⟩
 refine wl_y ?_
 refine wm rfl ?_
 refine wm rfl ?_
 refine wv (o_nilcheck rfl) ?_
 refine wv (o_fieldAddr Tryz.underlying82 rfl Tryz.sizeOf80 rfl rfl) ?_
 refine wv (o_load (i := 0) Tryz.isAgg80 rfl rfl rfl) ?_
 refine wm rfl ?_
 refine w_buildSlice (ys := ([c] : List Int)) (enc := eI_u8) (css := [[rI .u8 c]]) (xs := [.tmp 12]) Tryz.underlying80 Tryz.sizeOf5 Tryz.zeroValue5 rfl rfl rfl ⟨Cel.one rfl (Up.refl _), trivial⟩ rfl eI_u8_len rfl rfl rfl (fun b5 => ?_)
 obtain ⟨g7, h8⟩ := chk_e h2
 obtain ⟨inf, hinf⟩ := info5
 refine w_append (xs := r1) (ys := ([c] : List Int)) (enc := eI_u8) (i := 2) Tryz.underlying80 hinf.1 hinf.2.1 hinf.2.2.1 hinf.2.2.2 rfl rfl rfl rfl rfl (Src.w (i := 0) rfl rfl) eI_u8_len eI_u8_one g7 rfl (fun v6 => ?_)
 refine wv (o_nilcheck rfl) ?_
 refine wv (o_fieldAddr Tryz.underlying82 rfl Tryz.sizeOf80 rfl rfl) ?_
 refine u_store (i := 2) Tryz.sizeOf80 rfl rfl (one_row (i := 0) rfl) rfl rfl (cs' := [rv (.pointer (some ⟨b_l, 0, none⟩)), rv v6]) rfl (H' := [.row v6 5 1 (List.map eI_u8 (r1 ++ ([c] : List Int))), .row (.slice (some ⟨b5, 0, none⟩) 1 1) 5 1 (List.map eI_u8 ([c] : List Int)), .blk b_l [rv (.pointer (some ⟨b_l, 0, none⟩)), rv v6] 82]) rfl ?_
 refine wl_y ?_
 refine wv (r := rv (.nilIface)) (o_assign rfl) ?_
 refine wl_x ?_
 refine wc_ret ?_
 refine wk_perm (H2 := [.blk b_l [rv (.pointer (some ⟨b_l, 0, none⟩)), rv v6] 82, .row v6 5 1 (List.map eI_u8 (r1 ++ ([c] : List Int))), .row (.slice (some ⟨b5, 0, none⟩) 1 1) 5 1 (List.map eI_u8 ([c] : List Int))]) ((perm_front (i := 2) rfl).trans (List.Perm.cons _ (List.Perm.refl _))) ?_
 obtain rfl := some_e h8
 exact wk_ret (r_1 Tryz.results97 (rv_t rfl)) (sC (sC (sS sN))) ⟨v6, rfl, rfl⟩

theorem bWriteString0_w (b_l : Nat) (v_l : Value) (l : (List Int)) (s : Str) (r : Int × Unit × (List Int)) (h : bWriteString0 l s = some r) : Fn Tryz.prog GE 95 [rv (.pointer (some ⟨b_l, 0, none⟩)), rS s] [.blk b_l [rv (.pointer none), rv v_l] 82, .row v_l 5 1 (List.map eI_u8 l)] (fun R H => ∃ w0 : Value, R = rTup [rI .i64 r.1, rv (.nilIface)] ∧ H = [.blk b_l [rv (.pointer (some ⟨b_l, 0, none⟩)), rv w0] 82, .row w0 5 1 (List.map eI_u8 r.2.2)]) := by
 refine enter (n := 19) Tryz.func95 rfl Tryz.ntmps95 rfl (fun w Z => ?_)
 refine wc_as (l' := [(0, rv (.pointer (some ⟨b_l, 0, none⟩))), (1, rS s)]) (H' := [.blk b_l [rv (.pointer none), rv v_l] 82, .row v_l 5 1 (List.map eI_u8 l)]) rfl rfl ?_
 unfold bWriteString0 at h
 refine wc_sr ?_
 refine wv (r := rI .i64 0) (o_assign rfl) ?_
 refine wv (r := rv (.nilIface)) (o_assign rfl) ?_
 refine wl_y ?_
 refine wm rfl ?_
 obtain ⟨r1, e3, h2⟩ := obn_e h
 refine wcl (Hr := []) Tryz.call118 (bCopy0_w b_l v_l l r1 e3) rfl (List.Perm.refl _) rfl ?_
 rintro _ _ ⟨v4, rfl, rfl⟩
 refine wl_y ?_
 refine wm rfl ?_
 refine wm rfl ?_
 refine wv (o_nilcheck rfl) ?_
 refine wv (o_fieldAddr Tryz.underlying82 rfl Tryz.sizeOf80 rfl rfl) ?_
 refine wv (o_load (i := 0) Tryz.isAgg80 rfl rfl rfl) ?_
 refine wm rfl ?_
 obtain ⟨g6, h7⟩ := chk_e h2
 obtain ⟨inf, hinf⟩ := info5
 refine w_append_str (xs := r1) (i := 1) Tryz.underlying80 Tryz.underlying9 hinf.1 hinf.2.1 hinf.2.2.1 hinf.2.2.2 rfl rfl rfl g6 rfl (fun v5 => ?_)
 refine wv (o_nilcheck rfl) ?_
 refine wv (o_fieldAddr Tryz.underlying82 rfl Tryz.sizeOf80 rfl rfl) ?_
 refine u_store (i := 1) Tryz.sizeOf80 rfl rfl (one_row (i := 0) rfl) rfl rfl (cs' := [rv (.pointer (some ⟨b_l, 0, none⟩)), rv v5]) rfl (H' := [.row v5 5 1 (List.map eI_u8 (r1 ++ toI s)), .blk b_l [rv (.pointer (some ⟨b_l, 0, none⟩)), rv v5] 82]) rfl ?_
 refine wl_y ?_
 refine wm rfl ?_
 refine wv (o_len_s Tryz.underlying9 rfl) ?_
 refine wa rfl ?_
 refine wv (r := rv (.nilIface)) (o_assign rfl) ?_
 refine wl_x ?_
 refine wc_ret ?_
 refine wk_perm (H2 := [.blk b_l [rv (.pointer (some ⟨b_l, 0, none⟩)), rv v5] 82, .row v5 5 1 (List.map eI_u8 (r1 ++ toI s))]) ((perm_front (i := 1) rfl).trans (List.Perm.cons _ (List.Perm.refl _))) ?_
 obtain rfl := some_e h7
 exact wk_ret (r_2 Tryz.results95 (rv_t rfl) (rv_t rfl)) (sC (sC sN)) ⟨v5, rfl, rfl⟩

theorem bString0_w (b_l : Nat) (v_l : Value) (l : Str) (r : Str) (h : bString0 l = some r) : Fn Tryz.prog GE 70 [rv (.pointer (some ⟨b_l, 0, none⟩))] [.blk b_l [rv (.pointer none), rv v_l] 82, .row v_l 5 1 (List.map eI_u8 (toI l))] (fun R H => R = rS r ∧ H = []) := by
 refine enter (n := 14) Tryz.func70 rfl Tryz.ntmps70 rfl (fun w Z => ?_)
 refine wc_as (l' := [(0, rv (.pointer (some ⟨b_l, 0, none⟩)))]) (H' := [.blk b_l [rv (.pointer none), rv v_l] 82, .row v_l 5 1 (List.map eI_u8 (toI l))]) rfl rfl ?_
 unfold bString0 at h
 refine wc_sr ?_
 refine wv (r := rS ([] : Str)) (o_assign rfl) ?_
 refine wl_x ?_
 refine wc_seq ?_
 obtain ⟨g1, h2⟩ := chk_e h
 refine wc_rdk (H1 := [.blk b_l [rv (.pointer none), rv v_l] 82]) [0] [⟨[], rv (.pointer (some ⟨b_l, 0, none⟩)), 0⟩, ⟨[0], rv (.pointer (some ⟨b_l, 0, none⟩)), 0⟩, ⟨[1], rv (.pointer (some ⟨b_l, 1, none⟩)), 0⟩, ⟨[2], rv v_l, 1⟩, ⟨[3], rv (slp v_l), 1⟩, ⟨[], rv (.pointer (some ⟨b_l, 0, none⟩)), 0⟩, ⟨[5], rv (.pointer (some ⟨b_l, 0, none⟩)), 0⟩, ⟨[6], rv (.pointer (some ⟨b_l, 1, none⟩)), 0⟩, ⟨[7], rv v_l, 1⟩, ⟨[8], rI .i64 ((toI l).length : Int), 1⟩, ⟨[4, 9], rS l, 2⟩, ⟨[10], rS l, 0⟩] (rle [(11, _), (2, [.blk b_l [rv (.pointer none), rv v_l] 82])]) [2] ?_ ?_
 ·refine oq (o_move rfl) ?_
  refine oq (o_nilcheck rfl) ?_
  refine oq (o_fieldAddr Tryz.underlying82 rfl Tryz.sizeOf80 rfl rfl) ?_
  refine of (o_load (i := 0) Tryz.isAgg80 rfl rfl rfl) ?_
  refine of (o_sliceData (i := 1) rfl rfl (pos_map g1)) ?_
  refine oq (o_move rfl) ?_
  refine oq (o_nilcheck rfl) ?_
  refine oq (o_fieldAddr Tryz.underlying82 rfl Tryz.sizeOf80 rfl rfl) ?_
  refine of (o_load (i := 0) Tryz.isAgg80 rfl rfl rfl) ?_
  refine of (o_len_wt (ys := toI l) (enc := eI_u8) (i := 1) Tryz.underlying80 rfl rfl) ?_
  refine obl_l rfl (ok_w (V_unsafeString (i := 1) Tryz.underlying105 (by kernel_rfl) rfl rfl rfl (pos_map g1) rfl)) ?_
  refine oq (o_assign rfl) ?_
  exact obl_e
 refine wk_x ?_
 refine wc_ret ?_
 obtain rfl := some_e h2
 exact wk_ret (r_1 Tryz.results70 (rv_t rfl)) (sS sN) ⟨rfl, rfl⟩

theorem bCopy1_w (b_l : Nat) (v_l : Value) (l : (List Int)) (r : (List Int)) (h : bCopy1 l = some r) : Fn Tryz.prog GE 118 [rv (.pointer (some ⟨b_l, 0, none⟩))] [.blk b_l [rv (.pointer (some ⟨b_l, 0, none⟩)), rv v_l] 82, .row v_l 5 1 (List.map eI_u8 l)] (fun R H => ∃ w0 : Value, R = rv (.tuple #[]) ∧ H = [.blk b_l [rv (.pointer (some ⟨b_l, 0, none⟩)), rv w0] 82, .row w0 5 1 (List.map eI_u8 r)]) := by
 refine enter (n := 20) Tryz.func118 rfl Tryz.ntmps118 rfl (fun w Z => ?_)
 refine wc_as (l' := [(0, rv (.pointer (some ⟨b_l, 0, none⟩)))]) (H' := [.blk b_l [rv (.pointer (some ⟨b_l, 0, none⟩)), rv v_l] 82, .row v_l 5 1 (List.map eI_u8 l)]) rfl rfl ?_
 unfold bCopy1 at h
 refine wc_sr ?_
 refine wm rfl ?_
 refine wv (o_nilcheck rfl) ?_
 refine wv (o_fieldAddr Tryz.underlying82 rfl Tryz.sizeOf79 rfl rfl) ?_
 refine wv (o_load (i := 0) Tryz.isAgg79 rfl rfl rfl) ?_
 refine wv (r := rB false) (o_pnil ⟨_, Tryz.underlying79⟩ rfl) ?_
 refine wl_x ?_
 refine wc_cond_f rfl rfl ?_
 refine wc_sr ?_
 refine wm rfl ?_
 refine wv (o_nilcheck rfl) ?_
 refine wv (o_fieldAddr Tryz.underlying82 rfl Tryz.sizeOf79 rfl rfl) ?_
 refine wv (o_load (i := 0) Tryz.isAgg79 rfl rfl rfl) ?_
 refine wm rfl ?_
 refine wv (r := rB false) (o_psame_ne Tryz.underlying79 infoE82 rfl rfl) ?_
 refine wl_x ?_
 refine wc_cond_f rfl rfl ?_
 refine wc_skip ?_
 obtain rfl := some_e h
 exact wk_end (r_0 Tryz.results118) (sC (sC sN)) ⟨v_l, rfl, rfl⟩

theorem bWriteByte1_w (b_l : Nat) (v_l : Value) (l : (List Int)) (c : Int) (r : Unit × (List Int)) (h : bWriteByte1 l c = some r) : Fn Tryz.prog GE 97 [rv (.pointer (some ⟨b_l, 0, none⟩)), rI .u8 c] [.blk b_l [rv (.pointer (some ⟨b_l, 0, none⟩)), rv v_l] 82, .row v_l 5 1 (List.map eI_u8 l)] (fun R H => ∃ w0 : Value, R = rv (.nilIface) ∧ H = [.blk b_l [rv (.pointer (some ⟨b_l, 0, none⟩)), rv w0] 82, .row w0 5 1 (List.map eI_u8 r.2)]) := by
 refine enter (n := 17) Tryz.func97 rfl Tryz.ntmps97 rfl (fun w Z => ?_)
 refine wc_as (l' := [(0, rv (.pointer (some ⟨b_l, 0, none⟩))), (1, rI .u8 c)]) (H' := [.blk b_l [rv (.pointer (some ⟨b_l, 0, none⟩)), rv v_l] 82, .row v_l 5 1 (List.map eI_u8 l)]) rfl rfl ?_
 unfold bWriteByte1 at h
 refine wc_sr ?_
 refine wv (r := rv (.nilIface)) (o_assign rfl) ?_
 refine wl_y ?_
 refine wm rfl ?_
 obtain ⟨r1, e3, h2⟩ := obn_e h
 refine wcl (Hr := []) Tryz.call118 (bCopy1_w b_l v_l l r1 e3) rfl (List.Perm.refl _) rfl ?_
 rintro _ _ ⟨v4, rfl, rfl⟩
 refine wl_y ?_
 refine wm rfl ?_
 refine wm rfl ?_
 refine wv (o_nilcheck rfl) ?_
 refine wv (o_fieldAddr Tryz.underlying82 rfl Tryz.sizeOf80 rfl rfl) ?_
 refine wv (o_load (i := 0) Tryz.isAgg80 rfl rfl rfl) ?_
 refine wm rfl ?_
 refine w_buildSlice (ys := ([c] : List Int)) (enc := eI_u8) (css := [[rI .u8 c]]) (xs := [.tmp 12]) Tryz.underlying80 Tryz.sizeOf5 Tryz.zeroValue5 rfl rfl rfl ⟨Cel.one rfl (Up.refl _), trivial⟩ rfl eI_u8_len rfl rfl rfl (fun b5 => ?_)
 obtain ⟨g7, h8⟩ := chk_e h2
 obtain ⟨inf, hinf⟩ := info5
 refine w_append (xs := r1) (ys := ([c] : List Int)) (enc := eI_u8) (i := 2) Tryz.underlying80 hinf.1 hinf.2.1 hinf.2.2.1 hinf.2.2.2 rfl rfl rfl rfl rfl (Src.w (i := 0) rfl rfl) eI_u8_len eI_u8_one g7 rfl (fun v6 => ?_)
 refine wv (o_nilcheck rfl) ?_
 refine wv (o_fieldAddr Tryz.underlying82 rfl Tryz.sizeOf80 rfl rfl) ?_
 refine u_store (i := 2) Tryz.sizeOf80 rfl rfl (one_row (i := 0) rfl) rfl rfl (cs' := [rv (.pointer (some ⟨b_l, 0, none⟩)), rv v6]) rfl (H' := [.row v6 5 1 (List.map eI_u8 (r1 ++ ([c] : List Int))), .row (.slice (some ⟨b5, 0, none⟩) 1 1) 5 1 (List.map eI_u8 ([c] : List Int)), .blk b_l [rv (.pointer (some ⟨b_l, 0, none⟩)), rv v6] 82]) rfl ?_
 refine wl_y ?_
 refine wv (r := rv (.nilIface)) (o_assign rfl) ?_
 refine wl_x ?_
 refine wc_ret ?_
 refine wk_perm (H2 := [.blk b_l [rv (.pointer (some ⟨b_l, 0, none⟩)), rv v6] 82, .row v6 5 1 (List.map eI_u8 (r1 ++ ([c] : List Int))), .row (.slice (some ⟨b5, 0, none⟩) 1 1) 5 1 (List.map eI_u8 ([c] : List Int))]) ((perm_front (i := 2) rfl).trans (List.Perm.cons _ (List.Perm.refl _))) ?_
 obtain rfl := some_e h8
 exact wk_ret (r_1 Tryz.results97 (rv_t rfl)) (sC (sC (sS sN))) ⟨v6, rfl, rfl⟩

theorem bWriteString1_w (b_l : Nat) (v_l : Value) (l : (List Int)) (s : Str) (r : Int × Unit × (List Int)) (h : bWriteString1 l s = some r) : Fn Tryz.prog GE 95 [rv (.pointer (some ⟨b_l, 0, none⟩)), rS s] [.blk b_l [rv (.pointer (some ⟨b_l, 0, none⟩)), rv v_l] 82, .row v_l 5 1 (List.map eI_u8 l)] (fun R H => ∃ w0 : Value, R = rTup [rI .i64 r.1, rv (.nilIface)] ∧ H = [.blk b_l [rv (.pointer (some ⟨b_l, 0, none⟩)), rv w0] 82, .row w0 5 1 (List.map eI_u8 r.2.2)]) := by
 refine enter (n := 19) Tryz.func95 rfl Tryz.ntmps95 rfl (fun w Z => ?_)
 refine wc_as (l' := [(0, rv (.pointer (some ⟨b_l, 0, none⟩))), (1, rS s)]) (H' := [.blk b_l [rv (.pointer (some ⟨b_l, 0, none⟩)), rv v_l] 82, .row v_l 5 1 (List.map eI_u8 l)]) rfl rfl ?_
 unfold bWriteString1 at h
 refine wc_sr ?_
 refine wv (r := rI .i64 0) (o_assign rfl) ?_
 refine wv (r := rv (.nilIface)) (o_assign rfl) ?_
 refine wl_y ?_
 refine wm rfl ?_
 obtain ⟨r1, e3, h2⟩ := obn_e h
 refine wcl (Hr := []) Tryz.call118 (bCopy1_w b_l v_l l r1 e3) rfl (List.Perm.refl _) rfl ?_
 rintro _ _ ⟨v4, rfl, rfl⟩
 refine wl_y ?_
 refine wm rfl ?_
 refine wm rfl ?_
 refine wv (o_nilcheck rfl) ?_
 refine wv (o_fieldAddr Tryz.underlying82 rfl Tryz.sizeOf80 rfl rfl) ?_
 refine wv (o_load (i := 0) Tryz.isAgg80 rfl rfl rfl) ?_
 refine wm rfl ?_
 obtain ⟨g6, h7⟩ := chk_e h2
 obtain ⟨inf, hinf⟩ := info5
 refine w_append_str (xs := r1) (i := 1) Tryz.underlying80 Tryz.underlying9 hinf.1 hinf.2.1 hinf.2.2.1 hinf.2.2.2 rfl rfl rfl g6 rfl (fun v5 => ?_)
 refine wv (o_nilcheck rfl) ?_
 refine wv (o_fieldAddr Tryz.underlying82 rfl Tryz.sizeOf80 rfl rfl) ?_
 refine u_store (i := 1) Tryz.sizeOf80 rfl rfl (one_row (i := 0) rfl) rfl rfl (cs' := [rv (.pointer (some ⟨b_l, 0, none⟩)), rv v5]) rfl (H' := [.row v5 5 1 (List.map eI_u8 (r1 ++ toI s)), .blk b_l [rv (.pointer (some ⟨b_l, 0, none⟩)), rv v5] 82]) rfl ?_
 refine wl_y ?_
 refine wm rfl ?_
 refine wv (o_len_s Tryz.underlying9 rfl) ?_
 refine wa rfl ?_
 refine wv (r := rv (.nilIface)) (o_assign rfl) ?_
 refine wl_x ?_
 refine wc_ret ?_
 refine wk_perm (H2 := [.blk b_l [rv (.pointer (some ⟨b_l, 0, none⟩)), rv v5] 82, .row v5 5 1 (List.map eI_u8 (r1 ++ toI s))]) ((perm_front (i := 1) rfl).trans (List.Perm.cons _ (List.Perm.refl _))) ?_
 obtain rfl := some_e h7
 exact wk_ret (r_2 Tryz.results95 (rv_t rfl) (rv_t rfl)) (sC (sC sN)) ⟨v5, rfl, rfl⟩

theorem bString1_w (b_l : Nat) (v_l : Value) (l : Str) (r : Str) (h : bString1 l = some r) : Fn Tryz.prog GE 70 [rv (.pointer (some ⟨b_l, 0, none⟩))] [.blk b_l [rv (.pointer (some ⟨b_l, 0, none⟩)), rv v_l] 82, .row v_l 5 1 (List.map eI_u8 (toI l))] (fun R H => R = rS r ∧ H = []) := by
 refine enter (n := 14) Tryz.func70 rfl Tryz.ntmps70 rfl (fun w Z => ?_)
 refine wc_as (l' := [(0, rv (.pointer (some ⟨b_l, 0, none⟩)))]) (H' := [.blk b_l [rv (.pointer (some ⟨b_l, 0, none⟩)), rv v_l] 82, .row v_l 5 1 (List.map eI_u8 (toI l))]) rfl rfl ?_
 unfold bString1 at h
 refine wc_sr ?_
 refine wv (r := rS ([] : Str)) (o_assign rfl) ?_
 refine wl_x ?_
 refine wc_seq ?_
 obtain ⟨g1, h2⟩ := chk_e h
 refine wc_rdk (H1 := [.blk b_l [rv (.pointer (some ⟨b_l, 0, none⟩)), rv v_l] 82]) [0] [⟨[], rv (.pointer (some ⟨b_l, 0, none⟩)), 0⟩, ⟨[0], rv (.pointer (some ⟨b_l, 0, none⟩)), 0⟩, ⟨[1], rv (.pointer (some ⟨b_l, 1, none⟩)), 0⟩, ⟨[2], rv v_l, 1⟩, ⟨[3], rv (slp v_l), 1⟩, ⟨[], rv (.pointer (some ⟨b_l, 0, none⟩)), 0⟩, ⟨[5], rv (.pointer (some ⟨b_l, 0, none⟩)), 0⟩, ⟨[6], rv (.pointer (some ⟨b_l, 1, none⟩)), 0⟩, ⟨[7], rv v_l, 1⟩, ⟨[8], rI .i64 ((toI l).length : Int), 1⟩, ⟨[4, 9], rS l, 2⟩, ⟨[10], rS l, 0⟩] (rle [(11, _), (2, [.blk b_l [rv (.pointer (some ⟨b_l, 0, none⟩)), rv v_l] 82])]) [2] ?_ ?_
 ·refine oq (o_move rfl) ?_
  refine oq (o_nilcheck rfl) ?_
  refine oq (o_fieldAddr Tryz.underlying82 rfl Tryz.sizeOf80 rfl rfl) ?_
  refine of (o_load (i := 0) Tryz.isAgg80 rfl rfl rfl) ?_
  refine of (o_sliceData (i := 1) rfl rfl (pos_map g1)) ?_
  refine oq (o_move rfl) ?_
  refine oq (o_nilcheck rfl) ?_
  refine oq (o_fieldAddr Tryz.underlying82 rfl Tryz.sizeOf80 rfl rfl) ?_
  refine of (o_load (i := 0) Tryz.isAgg80 rfl rfl rfl) ?_
  refine of (o_len_wt (ys := toI l) (enc := eI_u8) (i := 1) Tryz.underlying80 rfl rfl) ?_
  refine obl_l rfl (ok_w (V_unsafeString (i := 1) Tryz.underlying105 (by kernel_rfl) rfl rfl rfl (pos_map g1) rfl)) ?_
  refine oq (o_assign rfl) ?_
  exact obl_e
 refine wk_x ?_
 refine wc_ret ?_
 obtain rfl := some_e h2
 exact wk_ret (r_1 Tryz.results70 (rv_t rfl)) (sS sN) ⟨rfl, rfl⟩

theorem writeByte_q (b : Nat) (v : Value) (l : Str) (c : Int) (g1 : inA 1 (l.length + 1) = true) (g2 : inK .u8 c = true) : Fn Tryz.prog GE 97 [rv (.pointer (some ⟨b, 0, none⟩)), rI .u8 c] [.bld 82 5 b v l] (fun R H => ∃ w0 : Value, R = rv .nilIface ∧ H = [.bld 82 5 b w0 (l ++ [UInt8.ofNat c.toNat])]) := by
  have hc : toI (l ++ [UInt8.ofNat c.toNat]) = toI l ++ [c] := by
    have := (by simpa [inK, IntKind.min, IntKind.max, IntKind.signed, IntKind.bits] using g2 : 0 ≤ c ∧ c ≤ 255)
    simp only [toI, List.map_append, List.map_cons, List.map_nil]
    congr 2
    simp; omega
  refine Fn.bld (res := rv .nilIface) fun p hp => ?_
  rw [hc]
  rcases hp with rfl | rfl
  · refine (bWriteByte0_w b v (toI l) c (((), toI l ++ [c])) ?_).sub (RleAll.refl _) (fun r H h => by obtain ⟨w0, h1, h2⟩ := h; exact ⟨w0, h1, h2⟩)
    simp only [bWriteByte0, bCopy0, obn, toI_len]
    simp [chk, g1]
  · refine (bWriteByte1_w b v (toI l) c (((), toI l ++ [c])) ?_).sub (RleAll.refl _) (fun r H h => by obtain ⟨w0, h1, h2⟩ := h; exact ⟨w0, h1, h2⟩)
    simp only [bWriteByte1, bCopy1, obn, toI_len]
    simp [chk, g1]
theorem writeString_q (b : Nat) (v : Value) (l s : Str) (g1 : inA 1 (l.length + s.length) = true) : Fn Tryz.prog GE 95 [rv (.pointer (some ⟨b, 0, none⟩)), rS s] [.bld 82 5 b v l] (fun R H => ∃ w0 : Value, R = rTup [rI .i64 (s.length : Int), rv .nilIface] ∧ H = [.bld 82 5 b w0 (l ++ s)]) := by
  have hc : toI (l ++ s) = toI l ++ toI s := by simp [toI]
  refine Fn.bld (res := rTup [rI .i64 (s.length : Int), rv .nilIface]) fun p hp => ?_
  rw [hc]
  rcases hp with rfl | rfl
  · refine (bWriteString0_w b v (toI l) s (((s.length : Int), (), toI l ++ toI s)) ?_).sub (RleAll.refl _) (fun r H h => by obtain ⟨w0, h1, h2⟩ := h; exact ⟨w0, h1, h2⟩)
    simp only [bWriteString0, bCopy0, obn, toI_len]
    simp [chk, g1]
  · refine (bWriteString1_w b v (toI l) s (((s.length : Int), (), toI l ++ toI s)) ?_).sub (RleAll.refl _) (fun r H h => by obtain ⟨w0, h1, h2⟩ := h; exact ⟨w0, h1, h2⟩)
    simp only [bWriteString1, bCopy1, obn, toI_len]
    simp [chk, g1]
theorem bstring_q (b : Nat) (v : Value) (l : Str) (g1 : decide (0 < l.length) = true) : Fn Tryz.prog GE 70 [rv (.pointer (some ⟨b, 0, none⟩))] [.bld 82 5 b v l] (fun R H => R = rS l ∧ H = []) := by
  refine Fn.bldS (res := rS l) fun p hp => ?_
  rcases hp with rfl | rfl
  · exact bString0_w b v l l (by simp only [bString0, toI_len]; simp [chk, g1])
  · exact bString1_w b v l l (by simp only [bString1, toI_len]; simp [chk, g1])

end Go.Proofs.YtpmiamphppcfeaaGreatDoor.Q

/-
 What functions compute, with checks: plain definitions, printed by a small program of ours (gq.py). No program in sight.
-/
namespace Go.Proofs.YtpmiamphppcfeaaGreatDoor
open Go
set_option linter.unusedVariables false
structure TApiCell where
 fKind : Int
 fInt : Int
 fStr : Str
 fN : Int
 deriving DecidableEq, Inhabited
def rPlain_b1 (s : Str) (x22 : Int) : Option (Stp (Int) (Out (Bool) (Unit))) :=
 cnd (decide (x22 < (s.length : Int))) (chk (inR x22 (s.length : Int)) <| cnd (((decide ((bat s x22) < 32)) || (decide (126 < (bat s x22))))) (some (.out (.ret false))) (chk (inK .i64 (x22 + 1)) <| some (.next (x22 + 1)))) (some (.out (.go ())))

def rPlain_k1  : Option (Bool) :=
 some true

def rPlain (F : Nat) (s : Str) : Option (Bool) :=
 obn (lop (fun σ => rPlain_b1 s σ) F 0) (oute fun ν => rPlain_k1 )

def rAfter (ok : Bool) (i : Int) : Option (Int) :=
 cnd (ok) (chk (inK .i64 (i + 1)) <| some (i + 1)) (some (-1))

def rKey (F : Nat) (c : TApiCell) : Option (Bool) :=
 chk (imp (decide (c.fKind = 4)) (imp (decide (c.fInt = 0)) (imp (decide (c.fN = 0)) ((rPlain F c.fStr).isSome)))) <| some ((decide (c.fKind = 4)) && ((decide (c.fInt = 0)) && ((decide (c.fN = 0)) && (ov (rPlain F c.fStr)))))

def rNextm (F : Nat) (rec_rElements : (List TApiCell) → Int → Int → Option (Int)) (rec_rPairs : (List TApiCell) → Int → Int → Option (Int)) (v : (List TApiCell)) (i : Int) : Option (Int) :=
 cnd (((decide (i < 0)) || (decide ((v.length : Int) ≤ i)))) (some (-1)) (chk (inR i (v.length : Int)) <| cnd (decide (((at' v i).fKind) = 1)) (chk (imp (decide (((at' v i).fInt) = 0)) (imp (decide (((at' v i).fStr) = ([] : Str))) ((rAfter (decide (((at' v i).fN) = 0)) i).isSome))) <| chk (imp (decide (((at' v i).fInt) = 0)) (imp (!(decide (((at' v i).fStr) = ([] : Str)))) ((rAfter false i).isSome))) <| chk (imp (!(decide (((at' v i).fInt) = 0))) ((rAfter false i).isSome)) <| some (bif decide (((at' v i).fInt) = 0) then (bif decide (((at' v i).fStr) = ([] : Str)) then (ov (rAfter (decide (((at' v i).fN) = 0)) i)) else (ov (rAfter false i))) else (ov (rAfter false i)))) (cnd (decide (((at' v i).fKind) = 2)) (chk (imp (decide (((at' v i).fInt) = 0)) (imp (decide (((at' v i).fStr) = ([] : Str))) ((rAfter (decide (((at' v i).fN) = 0)) i).isSome))) <| chk (imp (decide (((at' v i).fInt) = 0)) (imp (!(decide (((at' v i).fStr) = ([] : Str)))) ((rAfter false i).isSome))) <| chk (imp (!(decide (((at' v i).fInt) = 0))) (imp (decide (((at' v i).fInt) = 1)) (imp (decide (((at' v i).fStr) = ([] : Str))) ((rAfter (decide (((at' v i).fN) = 0)) i).isSome)))) <| chk (imp (!(decide (((at' v i).fInt) = 0))) (imp (decide (((at' v i).fInt) = 1)) (imp (!(decide (((at' v i).fStr) = ([] : Str)))) ((rAfter false i).isSome)))) <| chk (imp (!(decide (((at' v i).fInt) = 0))) (imp (!(decide (((at' v i).fInt) = 1))) ((rAfter false i).isSome))) <| some (bif decide (((at' v i).fInt) = 0) then (bif decide (((at' v i).fStr) = ([] : Str)) then (ov (rAfter (decide (((at' v i).fN) = 0)) i)) else (ov (rAfter false i))) else (bif decide (((at' v i).fInt) = 1) then (bif decide (((at' v i).fStr) = ([] : Str)) then (ov (rAfter (decide (((at' v i).fN) = 0)) i)) else (ov (rAfter false i))) else (ov (rAfter false i))))) (cnd (decide (((at' v i).fKind) = 3)) (chk (imp (decide (((at' v i).fStr) = ([] : Str))) ((rAfter (decide (((at' v i).fN) = 0)) i).isSome)) <| chk (imp (!(decide (((at' v i).fStr) = ([] : Str)))) ((rAfter false i).isSome)) <| some (bif decide (((at' v i).fStr) = ([] : Str)) then (ov (rAfter (decide (((at' v i).fN) = 0)) i)) else (ov (rAfter false i)))) (cnd (decide (((at' v i).fKind) = 4)) (obn (rKey F (at' v i)) fun r46 => obn (rAfter r46 i) fun r49 => some r49) (cnd (((decide (((at' v i).fKind) = 5)) && ((decide (((at' v i).fInt) = 0)) && ((decide (((at' v i).fStr) = ([] : Str))) && (decide (0 ≤ ((at' v i).fN))))))) (chk (inK .i64 (i + 1)) <| obn (rec_rElements v (i + 1) ((at' v i).fN)) fun r60 => some r60) (cnd (((decide (((at' v i).fKind) = 6)) && ((decide (((at' v i).fInt) = 0)) && ((decide (((at' v i).fStr) = ([] : Str))) && (decide (0 ≤ ((at' v i).fN))))))) (chk (inK .i64 (i + 1)) <| obn (rec_rPairs v (i + 1) ((at' v i).fN)) fun r71 => some r71) (some (-1))))))))

def rElements_b1 (v : (List TApiCell)) (n : Int) (rec_rNext : (List TApiCell) → Int → Option (Int)) (x23 : Int) (x24 : Int) : Option (Stp (Int × Int) (Out (Int) (Int))) :=
 cnd (decide (x24 < n)) (obn (rec_rNext v x23) fun r48 => cnd (decide (r48 < 0)) (some (.out (.ret (-1)))) (chk (inK .i64 (x24 + 1)) <| some (.next (r48, x24 + 1)))) (some (.out (.go x23)))

def rElements_k1 (x36 : Int) : Option (Int) :=
 some x36

def rElementsm (F : Nat) (rec_rNext : (List TApiCell) → Int → Option (Int)) (v : (List TApiCell)) (i : Int) (n : Int) : Option (Int) :=
 obn (lop (fun σ => rElements_b1 v n rec_rNext σ.1 σ.2) F (i, 0)) (oute fun ν => rElements_k1 ν)

def rPairs_b1 (F : Nat) (v : (List TApiCell)) (n : Int) (rec_rNext : (List TApiCell) → Int → Option (Int)) (x51 : Int) (x52 : Str) (x53 : Int) : Option (Stp (Int × Str × Int) (Out (Int) (Int))) :=
 cnd (decide (x53 < n)) (chk (imp (!(decide ((v.length : Int) ≤ x51))) (inR x51 (v.length : Int))) <| chk (imp (!(decide ((v.length : Int) ≤ x51))) ((rKey F (at' v x51)).isSome)) <| cnd (((decide ((v.length : Int) ≤ x51)) || ((!(ov (rKey F (at' v x51)))) || ((decide (0 < x53)) && (sLess ((at' v x51).fStr) x52 || decide (((at' v x51).fStr) = x52)))))) (some (.out (.ret (-1)))) (chk (inR x51 (v.length : Int)) <| chk (inK .i64 (x51 + 1)) <| obn (rec_rNext v (x51 + 1)) fun r106 => cnd (decide (r106 < 0)) (some (.out (.ret (-1)))) (chk (inK .i64 (x53 + 1)) <| some (.next (r106, (at' v x51).fStr, x53 + 1))))) (some (.out (.go x51)))

def rPairs_k1 (x79 : Int) : Option (Int) :=
 some x79

def rPairsm (F : Nat) (rec_rNext : (List TApiCell) → Int → Option (Int)) (v : (List TApiCell)) (i : Int) (n : Int) : Option (Int) :=
 obn (lop (fun σ => rPairs_b1 F v n rec_rNext σ.1 σ.2.1 σ.2.2) F (i, ([] : Str), 0)) (oute fun ν => rPairs_k1 ν)

mutual
def rNext : Nat → (List TApiCell) → Int → Option (Int)
 | 0, _, _ => none
 | nn + 1, v, i => rNextm nn (rElements nn) (rPairs nn) v i

def rElements : Nat → (List TApiCell) → Int → Int → Option (Int)
 | 0, _, _, _ => none
 | nn + 1, v, i, n => rElementsm nn (rNext nn) v i n

def rPairs : Nat → (List TApiCell) → Int → Int → Option (Int)
 | 0, _, _, _ => none
 | nn + 1, v, i, n => rPairsm nn (rNext nn) v i n

end
end Go.Proofs.YtpmiamphppcfeaaGreatDoor

/-
  Walks, printed by a small program of ours (gq.py).
-/
namespace Go.Proofs.YtpmiamphppcfeaaGreatDoor.Q
open Go Go.RowKit
set_option linter.unusedVariables false
set_option linter.unusedSimpArgs false
set_option maxRecDepth 100000
set_option maxHeartbeats 4000000
@[reducible] def eTApiCell (x : TApiCell) : List Rp := [rI .i64 x.fKind, rI .i64 x.fInt, rS x.fStr, rI .i64 x.fN]
theorem eTApiCell_len (x : TApiCell) : (eTApiCell x).length = 4 := rfl
theorem eTApiCell_one (x : TApiCell) : (eTApiCell x).all (·.one) = true := rfl
end Go.Proofs.YtpmiamphppcfeaaGreatDoor.Q

/-
 What functions compute, with checks: plain definitions, printed by a small program of ours (gq.py). No program in sight.
-/
namespace Go.Proofs.YtpmiamphppcfeaaGreatDoor
open Go
set_option linter.unusedVariables false
structure TValueOpen where
 fPairs : Bool
 fLeft : Int
 fKey : Bool
 fLast : Str
 fStarted : Bool
 deriving DecidableEq, Inhabited
structure TValueShape where
 fDepth : Int
 fBytes : Int
 fOutside : Bool
 fLong : Bool
 deriving DecidableEq, Inhabited
def nValid (n : Int) : Option (Bool) :=
 some ((decide ((-1000000000000) ≤ n)) && (decide (n ≤ 1000000000000)))

def vText_b1 (s : Str) (x22 : Int) : Option (Stp (Int) (Out (Bool) (Unit))) :=
 cnd (decide (x22 < (s.length : Int))) (chk (inR x22 (s.length : Int)) <| cnd (((decide ((bat s x22) < 32)) || (decide (126 < (bat s x22))))) (some (.out (.ret false))) (chk (inK .i64 (x22 + 1)) <| some (.next (x22 + 1)))) (some (.out (.go ())))

def vText_k1  : Option (Bool) :=
 some true

def vText (F : Nat) (s : Str) : Option (Bool) :=
 obn (lop (fun σ => vText_b1 s σ) F 0) (oute fun ν => vText_k1 )

def vQuoted (s : Str) : Option (Int) :=
 chk (inK .i64 ((s.length : Int) + 2)) <| chk (inK .i64 (((s.length : Int) + 2) + (Lib.countByte s 34 : Int))) <| chk (inK .i64 ((((s.length : Int) + 2) + (Lib.countByte s 34 : Int)) + (Lib.countByte s 92 : Int))) <| some ((((s.length : Int) + 2) + (Lib.countByte s 34 : Int)) + (Lib.countByte s 92 : Int))

def vPlain (F : Nat) (c : TApiCell) : Option (Bool) :=
 cnd (decide (c.fKind = 1)) (some ((decide (c.fInt = 0)) && ((decide (c.fStr = ([] : Str))) && (decide (c.fN = 0))))) (cnd (decide (c.fKind = 2)) (some (bif decide (c.fInt = 0) then ((decide (c.fStr = ([] : Str))) && (decide (c.fN = 0))) else ((decide (c.fInt = 1)) && ((decide (c.fStr = ([] : Str))) && (decide (c.fN = 0)))))) (cnd (decide (c.fKind = 3)) (some ((decide (c.fStr = ([] : Str))) && (decide (c.fN = 0)))) (cnd (decide (c.fKind = 4)) (chk (imp (decide (c.fInt = 0)) (imp (decide (c.fN = 0)) ((vText F c.fStr).isSome))) <| some ((decide (c.fInt = 0)) && ((decide (c.fN = 0)) && (ov (vText F c.fStr))))) (cnd (decide (c.fKind = 5)) (some ((decide (c.fInt = 0)) && ((decide (c.fStr = ([] : Str))) && (decide (0 ≤ c.fN))))) (cnd (decide (c.fKind = 6)) (some ((decide (c.fInt = 0)) && ((decide (c.fStr = ([] : Str))) && (decide (0 ≤ c.fN))))) (some false))))))

def vSize (c : TApiCell) : Option (Int) :=
 cnd (decide (c.fKind = 1)) (some 4) (cnd (decide (c.fKind = 2)) (some (IntKind.wrap .i64 (5 - c.fInt))) (cnd (decide (c.fKind = 3)) (chk (inK .i64 c.fInt) <| some ((Lib.itoa c.fInt).length : Int)) (cnd (decide (c.fKind = 4)) (obn (vQuoted c.fStr) fun r15 => some r15) (some (IntKind.wrap .i64 (2 + (max 0 (IntKind.wrap .i64 (c.fN - 1)))))))))

def vClosed_b1 (x159 : (List TValueOpen)) : Option (Stp ((List TValueOpen)) (Out ((List TValueOpen)) ((List TValueOpen)))) :=
 cnd (decide (0 < (x159.length : Int))) (chk (inK .i64 ((x159.length : Int) - 1)) <| chk (inR ((x159.length : Int) - 1) (x159.length : Int)) <| chk (inK .i64 (((at' x159 ((x159.length : Int) - 1)).fLeft) - 1)) <| bnd (List.set x159 (Int.toNat ((x159.length : Int) - 1)) (TValueOpen.mk ((at' x159 ((x159.length : Int) - 1)).fPairs) (((at' x159 ((x159.length : Int) - 1)).fLeft) - 1) ((at' x159 ((x159.length : Int) - 1)).fKey) ((at' x159 ((x159.length : Int) - 1)).fLast) ((at' x159 ((x159.length : Int) - 1)).fStarted))) fun r203 => cnd (decide (0 < ((at' r203 ((x159.length : Int) - 1)).fLeft))) (bnd (List.set r203 (Int.toNat ((x159.length : Int) - 1)) (TValueOpen.mk ((at' r203 ((x159.length : Int) - 1)).fPairs) ((at' r203 ((x159.length : Int) - 1)).fLeft) ((at' r203 ((x159.length : Int) - 1)).fPairs) ((at' r203 ((x159.length : Int) - 1)).fLast) ((at' r203 ((x159.length : Int) - 1)).fStarted))) fun r208 => some (.out (.ret r208))) (chk (inK .i64 ((r203.length : Int) - 1)) <| chk (inC ((r203.length : Int) - 1) (r203.length : Int)) <| some (.next (List.take (Int.toNat ((r203.length : Int) - 1)) r203)))) (some (.out (.go x159)))

def vClosed_k1 (x184 : (List TValueOpen)) : Option ((List TValueOpen)) :=
 some x184

def vClosed (F : Nat) (stack : (List TValueOpen)) : Option ((List TValueOpen)) :=
 obn (lop (fun σ => vClosed_b1 σ) F stack) (oute fun ν => vClosed_k1 ν)

def vLook_j2 (x235 : Int) (x468 : (List TValueOpen)) (x470 : TValueShape) : Option (Stp ((List TValueOpen) × Int × TValueShape) (Out (Int × TValueShape × Bool) (TValueShape))) :=
 chk (inK .i64 (x235 + 1)) <| some (.next (x468, x235 + 1, x470))

def vLook_b1 (F : Nat) (v : (List TApiCell)) (x233 : (List TValueOpen)) (x235 : Int) (x236 : TValueShape) : Option (Stp ((List TValueOpen) × Int × TValueShape) (Out (Int × TValueShape × Bool) (TValueShape))) :=
 cnd (decide (x235 < (v.length : Int))) (chk (inR x235 (v.length : Int)) <| obn (vPlain F (at' v x235)) fun r474 => cnd (!r474) (some (.out (.ret (0, x236, false)))) (chk (imp (decide (0 < (x233.length : Int))) (inK .i64 ((x233.length : Int) - 1))) <| chk (imp (decide (0 < (x233.length : Int))) (inR ((x233.length : Int) - 1) (x233.length : Int))) <| cnd (((decide (0 < (x233.length : Int))) && ((at' x233 ((x233.length : Int) - 1)).fKey))) (chk (inK .i64 ((x233.length : Int) - 1)) <| chk (inR ((x233.length : Int) - 1) (x233.length : Int)) <| cnd (((!decide (((at' v x235).fKind) = 4)) || (((at' x233 ((x233.length : Int) - 1)).fStarted) && (sLess ((at' v x235).fStr) ((at' x233 ((x233.length : Int) - 1)).fLast) || decide (((at' v x235).fStr) = ((at' x233 ((x233.length : Int) - 1)).fLast)))))) (some (.out (.ret (0, x236, false)))) (bnd (List.set x233 (Int.toNat ((x233.length : Int) - 1)) (TValueOpen.mk ((at' x233 ((x233.length : Int) - 1)).fPairs) ((at' x233 ((x233.length : Int) - 1)).fLeft) ((at' x233 ((x233.length : Int) - 1)).fKey) ((at' v x235).fStr) ((at' x233 ((x233.length : Int) - 1)).fStarted))) fun r498 => bnd (List.set r498 (Int.toNat ((x233.length : Int) - 1)) (TValueOpen.mk ((at' r498 ((x233.length : Int) - 1)).fPairs) ((at' r498 ((x233.length : Int) - 1)).fLeft) ((at' r498 ((x233.length : Int) - 1)).fKey) ((at' r498 ((x233.length : Int) - 1)).fLast) true)) fun r501 => bnd (List.set r501 (Int.toNat ((x233.length : Int) - 1)) (TValueOpen.mk ((at' r501 ((x233.length : Int) - 1)).fPairs) ((at' r501 ((x233.length : Int) - 1)).fLeft) false ((at' r501 ((x233.length : Int) - 1)).fLast) ((at' r501 ((x233.length : Int) - 1)).fStarted))) fun r504 => obn (vQuoted ((at' v x235).fStr)) fun r507 => chk (inK .i64 (r507 + 1)) <| vLook_j2 x235 r504 (TValueShape.mk x236.fDepth (IntKind.wrap .i64 (x236.fBytes + (r507 + 1))) x236.fOutside (x236.fLong || (decide (200 < (((at' v x235).fStr).length : Int))))))) (chk (inK .i64 ((x233.length : Int) + 1)) <| obn (vSize (at' v x235)) fun r516 => chk (imp (!x236.fOutside) (imp (decide (((at' v x235).fKind) = 3)) ((nValid ((at' v x235).fInt)).isSome))) <| cnd (decide (0 < ((at' v x235).fN))) (cnd (decide ((v.length : Int) < ((at' v x235).fN))) (some (.out (.ret (0, (TValueShape.mk (max x236.fDepth ((x233.length : Int) + 1)) (IntKind.wrap .i64 (x236.fBytes + r516)) (x236.fOutside || ((decide (((at' v x235).fKind) = 3)) && (!(ov (nValid ((at' v x235).fInt)))))) (x236.fLong || (decide (200 < (((at' v x235).fStr).length : Int))))), false)))) (chk (inA 48 (x233.length + ([(TValueOpen.mk (decide (((at' v x235).fKind) = 6)) ((at' v x235).fN) (decide (((at' v x235).fKind) = 6)) ([] : Str) false)] : List TValueOpen).length)) <| vLook_j2 x235 (x233 ++ ([(TValueOpen.mk (decide (((at' v x235).fKind) = 6)) ((at' v x235).fN) (decide (((at' v x235).fKind) = 6)) ([] : Str) false)] : List TValueOpen)) (TValueShape.mk (max x236.fDepth ((x233.length : Int) + 1)) (IntKind.wrap .i64 (x236.fBytes + r516)) (x236.fOutside || ((decide (((at' v x235).fKind) = 3)) && (!(ov (nValid ((at' v x235).fInt)))))) (x236.fLong || (decide (200 < (((at' v x235).fStr).length : Int))))))) (obn (vClosed F x233) fun r535 => cnd (decide ((r535.length : Int) = 0)) (chk (inK .i64 (x235 + 1)) <| some (.out (.ret (x235 + 1, (TValueShape.mk (max x236.fDepth ((x233.length : Int) + 1)) (IntKind.wrap .i64 (x236.fBytes + r516)) (x236.fOutside || ((decide (((at' v x235).fKind) = 3)) && (!(ov (nValid ((at' v x235).fInt)))))) (x236.fLong || (decide (200 < (((at' v x235).fStr).length : Int))))), true)))) (vLook_j2 x235 r535 (TValueShape.mk (max x236.fDepth ((x233.length : Int) + 1)) (IntKind.wrap .i64 (x236.fBytes + r516)) (x236.fOutside || ((decide (((at' v x235).fKind) = 3)) && (!(ov (nValid ((at' v x235).fInt)))))) (x236.fLong || (decide (200 < (((at' v x235).fStr).length : Int)))))))))) (some (.out (.go x236)))

def vLook_k1 (x386 : TValueShape) : Option (Int × TValueShape × Bool) :=
 some (0, x386, false)

def vLook (F : Nat) (v : (List TApiCell)) : Option (Int × TValueShape × Bool) :=
 obn (lop (fun σ => vLook_b1 F v σ.1 σ.2.1 σ.2.2) F (([] : List TValueOpen), 0, (TValueShape.mk 0 0 false false))) (oute fun ν => vLook_k1 ν)

def vCheck (F : Nat) (v : (List TApiCell)) : Option (Int) :=
 obn (vLook F v) fun r1 => cnd (((!r1.2.2) || (!decide (r1.1 = (v.length : Int))))) (some 1) (cnd (r1.2.1.fOutside) (some 2) (cnd ((r1.2.1.fLong || ((decide (200 < (v.length : Int))) || ((decide (8 < r1.2.1.fDepth)) || (decide (4000 < r1.2.1.fBytes)))))) (some 3) (some 0)))

def vChecked (F : Nat) (v : (List TApiCell)) : Option ((List TApiCell) × Int) :=
 obn (vCheck F v) fun r1 => cnd (!decide (r1 = 0)) (some (([] : List TApiCell), r1)) (some (v, 0))

end Go.Proofs.YtpmiamphppcfeaaGreatDoor
