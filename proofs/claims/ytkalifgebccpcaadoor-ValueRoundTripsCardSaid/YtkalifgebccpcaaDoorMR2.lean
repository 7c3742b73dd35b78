/-
  Texts of the proof, put together: PlC, IdC, ShelfV, QG, QS, QO, RowQ, PQB, WQB, PVa, WVa, PVb, WVb, PVc.
-/
import Derived.Test.YtkalifgebccpcaaDoorMR1
import Derived.Lib.AtoiAllCases
import Derived.Lib.ItoaNum
import Derived.Lib.ItoaLen
import Derived.Shelf.Strings.Builder1
import Derived.Shelf.Strings.Count
import Derived.Shelf.Strings.Search1
import Derived.Shelf.Strings.Search2
import Derived.Shelf.Strings.Search3
import Derived.Shelf.Small.Strs
import Derived.Shelf.LaysM
import Derived.Shelf.LaysC
import Derived.Test.YtkalifgebccpcaaDoorProg
import Derived.Laws.BytesString
import Derived.Lib.Builder
import Derived.Lib.UnsafeStr
import Derived.Lib.AppendStr
import Derived.Laws.Externs
import Derived.Deep.Slices
import Derived.ChangeArms
import Derived.DataReads
import Derived.Laws.Tables
import Derived.Lib.Bytealg
import Derived.Lib.SmallJoins
/-
 Decimal forms; references; children; patterns: plain functions on lists of bytes. No program in sight.
-/
namespace Go.Proofs.YtkalifgebccpcaaDoor
open Go
def sgnS (p : List UInt8) : Bool := decide ((0 : Int) < p.length) && decide (bat p 0 = 45)
def digs (p : List UInt8) : List UInt8 := if sgnS p = true then p.drop 1 else p
theorem digs_len (p : List UInt8) : (digs p).length ≤ p.length := by unfold digs; split <;> simp
def digCh (_ : Nat) (u : UInt8) : Bool := !(decide ((u.toNat : Int) < 48) || decide (57 < (u.toNat : Int)))
def decS (p : List UInt8) : Bool := !(decide (digs p = []) || (decide (bat (digs p) 0 = 48) && !decide (p = [48]))) && allFrom digCh 0 (digs p)
theorem len_pos {p : List UInt8} (h : ¬ p = []) : (0 : Int) < p.length := by
 cases p with
 | nil => exact absurd rfl h
 | cons a r => simp
theorem get_of_lt {p : List UInt8} {k : Nat} (h : (k : Int) < p.length) : ∃ u, p[k]? = some u := ⟨p[k]'(by omega), List.getElem?_eq_getElem (by omega)⟩
theorem dig_next {p : List UInt8} {k : Nat} (hi : k ≤ p.length ∧ allFrom digCh 0 p = allFrom digCh k (p.drop k)) (h : (k : Int) < p.length) (ht : (decide (bat p k < 48) || decide (57 < bat p k)) = false) :
  (k + 1 ≤ p.length ∧ allFrom digCh 0 p = allFrom digCh (k + 1) (p.drop (k + 1))) ∧ p.length - (k + 1) < p.length - k := by
 obtain ⟨u, hu⟩ := get_of_lt h
 rw [bat_of hu] at ht
 exact rng_next hi hu (by simp only [digCh, ht]; rfl)
theorem dig_no {p : List UInt8} {k : Nat} (hi : k ≤ p.length ∧ allFrom digCh 0 p = allFrom digCh k (p.drop k)) (h : (k : Int) < p.length) (ht : (decide (bat p k < 48) || decide (57 < bat p k)) = true) : allFrom digCh 0 p = false := by
 obtain ⟨u, hu⟩ := get_of_lt h
 rw [bat_of hu] at ht
 exact rng_no hi hu (by simp only [digCh, ht]; rfl)
theorem dig_yes {p : List UInt8} {k : Nat} (hi : k ≤ p.length ∧ allFrom digCh 0 p = allFrom digCh k (p.drop k)) (h : ¬ (k : Int) < p.length) : allFrom digCh 0 p = true := rng_yes hi (by omega)

/-! ### The last place of a byte -/
/-! ### num.Parse -/
def parseE (p : List UInt8) : Int := if decS p = true then (match Lib.atoiAll p with | .ok v => if validS v = true then 0 else 2 | _ => 2) else 1
def parseV (p : List UInt8) : Int := if decS p = true then (match Lib.atoiAll p with | .ok v => if validS v = true then v else 0 | _ => 0) else 0
theorem digits_end : ∀ (l : List UInt8) (i acc : Nat), allFrom digCh i l = true → (∃ u, Lib.parseUint10 acc l = .ok u) ∨ Lib.parseUint10 acc l = .range
 | [], _, acc, _ => .inl ⟨acc, rfl⟩
 | c :: r, i, acc, h => by
  simp only [allFrom, Bool.and_eq_true] at h
  have hc : 48 ≤ c.toNat ∧ c.toNat ≤ 57 := by have := h.1; simp [digCh] at this; omega
  unfold Lib.parseUint10
  rw [if_pos hc]
  split
  ·exact .inr rfl
  ·split
   ·exact .inr rfl
   ·exact digits_end r _ _ h.2
theorem mag_end {l : List UInt8} (hne : l ≠ []) (h : allFrom digCh 0 l = true) : (∃ u, Lib.parseMag l = .ok u) ∨ Lib.parseMag l = .range := by
 unfold Lib.parseMag
 rw [if_neg hne]
 exact digits_end l 0 0 h
theorem signless_end {e : Lib.NumEnd Nat} (h : (∃ u, e = .ok u) ∨ e = .range) : (∃ v, Lib.signless e = .ok v) ∨ Lib.signless e = .range := by
 rcases h with ⟨u, rfl⟩ | rfl
 ·unfold Lib.signless
  by_cases h : 9223372036854775808 ≤ u
  ·exact .inr (by simp [h])
  ·exact .inl ⟨_, by simp [h]; rfl⟩
 ·exact .inr rfl
theorem signed_end {e : Lib.NumEnd Nat} (h : (∃ u, e = .ok u) ∨ e = .range) : (∃ v, Lib.signed e = .ok v) ∨ Lib.signed e = .range := by
 rcases h with ⟨u, rfl⟩ | rfl
 ·unfold Lib.signed
  by_cases h : 9223372036854775808 < u
  ·exact .inr (by simp [h])
  ·exact .inl ⟨_, by simp [h]; rfl⟩
 ·exact .inr rfl
theorem atoi_dec {p : List UInt8} (h : decS p = true) : (∃ v, Lib.atoiAll p = .ok v ∧ -9223372036854775808 ≤ v ∧ v ≤ 9223372036854775807) ∨ Lib.atoiAll p = .range := by
 have key : (∃ v, Lib.atoiAll p = .ok v) ∨ Lib.atoiAll p = .range := by
  simp only [decS, Bool.and_eq_true, Bool.not_eq_true', Bool.or_eq_false_iff, decide_eq_false_iff_not] at h
  obtain ⟨⟨hne, _⟩, hall⟩ := h
  cases p with
  | nil => simp [digs, sgnS] at hne
  | cons c r =>
   by_cases hc : c = 45
   ·subst hc
    have hd : digs (45 :: r) = r := by simp [digs, sgnS, bat]
    rw [hd] at hne hall
    rw [Lib.atoiAll_minus]
    exact signed_end (mag_end hne hall)
   ·have hb : ¬ bat (c :: r) 0 = 45 := by
     simp only [bat, Int.toNat_zero, List.getElem?_cons_zero, Option.getD_some]
     intro e; exact hc (UInt8.toNat_inj.1 (by simpa using (by omega : c.toNat = 45)))
    have hd : digs (c :: r) = c :: r := by simp [digs, sgnS, hb]
    rw [hd] at hne hall
    have hc48 : 48 ≤ c.toNat := by
     simp only [allFrom, Bool.and_eq_true] at hall
     have := hall.1; simp [digCh] at this; omega
    rw [Lib.atoiAll_plain c r (by omega) (by omega)]
    exact signless_end (mag_end hne hall)
 rcases key with ⟨v, hv⟩ | h
 ·exact .inl ⟨v, hv, Lib.atoiAll_bounds hv⟩
 ·exact .inr h
/-! ### ident -/
end Go.Proofs.YtkalifgebccpcaaDoor

/-
 Walks, printed by a small program of ours (gsym.py).
-/
namespace Go.Proofs.YtkalifgebccpcaaDoor
open Go Go.RowKit
set_option linter.unusedVariables false
set_option linter.unusedSimpArgs false
set_option maxRecDepth 100000
theorem decimal_c (p : List UInt8) (hp : p.length ≤ 281474976710656) (w : World) : Calls Tryd.prog 84 [.string (B (p))].toArray w (RetV w (.bool (decS p))) := by
 refine enter0 (n := 43) Tryd.func84 rfl Tryd.ntmps84 rfl ?_
 refine wc_seq ?_
 refine wc_region ?_
 refine wl_v (o_assign rfl) rfl ?_
 refine wl_nil ?_
 refine wk_then (wc_of_wk ?_)
 refine wc_seq ?_
 refine wc_region ?_
 refine wl_v (o_move rfl) rfl ?_
 refine wl_v (o_assign rfl) rfl ?_
 refine wl_nil ?_
 refine wk_then (wc_of_wk ?_)
 refine wc_seq_mid [(0, .string (B (p))), (2, .bool (false)), (3, .string (B ((if ((decide ((0) < ((p.length : Int)))) && (decide ((bat p 0) = (45)))) = true then List.drop (Int.toNat (1)) p else p))))] [] (φ := True) ?_ (fun hm21 => ?_)
 ·refine wc_seq_mid [(0, .string (B (p))), (2, .bool (false)), (3, .string (B (p))), (13, .bool (((decide ((0) < ((p.length : Int)))) && (decide ((bat p 0) = (45))))))] [] (φ := True) ?_ (fun hm19 => ?_)
  ·refine wc_region ?_
   refine wl_v (o_move rfl) rfl ?_
   refine wl_v (o_len_s Tryd.underlying9 rfl) rfl ?_
   refine wl_v (o_gt rfl rfl) rfl ?_
   refine wl_v (o_move rfl) rfl ?_
   refine bsplit (decide ((0) < ((p.length : Int)))) (fun h19 => ?_) (fun h19 => ?_)
   ·have g19 := h19; try simp only [decide_eq_true_eq, decide_eq_false_iff_not] at g19
    have f19 := h19; try simp only [decide_eq_true_eq, decide_eq_false_iff_not, Bool.and_eq_true, Bool.or_eq_true, Bool.not_eq_true', Bool.not_eq_false', Bool.and_eq_false_iff, Bool.or_eq_false_iff, not_or, Int.not_lt, Int.not_le] at f19
    refine wl_on rfl rfl h19 ?_
    refine wl_v (o_move rfl) rfl ?_
    refine wl_on rfl rfl h19 ?_
    refine wl_v (o_index_b Tryd.underlying9 rfl rfl (by first | omega | exact len_pos (by assumption)) (by first | omega | exact len_pos (by assumption))) rfl ?_
    refine wl_on rfl rfl h19 ?_
    refine wl_v (o_eq rfl rfl) rfl ?_
    refine wl_v (o_pick_t rfl h19 rfl) rfl ?_
    refine wl_nil ?_
    exact wk_then (wk_mid trivial ⟨rfl, rfl, rfl, fb (by first | (simp only [h19, Bool.true_and, Bool.false_and, Bool.true_or, Bool.false_or, Bool.and_true, Bool.and_false, Bool.or_true, Bool.or_false, Bool.not_true, Bool.not_false, cond_true, cond_false, if_true, if_false, reduceIte, Bool.false_eq_true]; done) | (simp only [Bool.true_and, Bool.false_and, Bool.true_or, Bool.false_or, Bool.and_true, Bool.and_false, Bool.or_true, Bool.or_false, Bool.not_true, Bool.not_false, cond_true, cond_false, if_true, if_false, reduceIte, Bool.false_eq_true]; done) | simp [h19]), trivial⟩ .slnil)
   ·have g19 := h19; try simp only [decide_eq_true_eq, decide_eq_false_iff_not] at g19
    have f19 := h19; try simp only [decide_eq_true_eq, decide_eq_false_iff_not, Bool.and_eq_true, Bool.or_eq_true, Bool.not_eq_true', Bool.not_eq_false', Bool.and_eq_false_iff, Bool.or_eq_false_iff, not_or, Int.not_lt, Int.not_le] at f19
    refine wl_off rfl rfl h19 rfl ?_
    refine wl_off rfl rfl h19 rfl ?_
    refine wl_off rfl rfl h19 rfl ?_
    refine wl_v (o_pick_f rfl h19 rfl) rfl ?_
    refine wl_nil ?_
    exact wk_then (wk_mid trivial ⟨rfl, rfl, rfl, fb (by first | (simp only [h19, Bool.true_and, Bool.false_and, Bool.true_or, Bool.false_or, Bool.and_true, Bool.and_false, Bool.or_true, Bool.or_false, Bool.not_true, Bool.not_false, cond_true, cond_false, if_true, if_false, reduceIte, Bool.false_eq_true]; done) | (simp only [Bool.true_and, Bool.false_and, Bool.true_or, Bool.false_or, Bool.and_true, Bool.and_false, Bool.or_true, Bool.or_false, Bool.not_true, Bool.not_false, cond_true, cond_false, if_true, if_false, reduceIte, Bool.false_eq_true]; done) | simp [h19]), trivial⟩ .slnil)
  refine wc_cond (b := ((decide ((0) < ((p.length : Int)))) && (decide ((bat p 0) = (45))))) rfl (fun h21 => ?_) (fun h21 => ?_)
  ·have g21 := h21; try simp only [decide_eq_true_eq, decide_eq_false_iff_not] at g21
   have f21 := h21; try simp only [decide_eq_true_eq, decide_eq_false_iff_not, Bool.and_eq_true, Bool.or_eq_true, Bool.not_eq_true', Bool.not_eq_false', Bool.and_eq_false_iff, Bool.or_eq_false_iff, not_or, Int.not_lt, Int.not_le] at f21
   refine wc_region ?_
   refine wl_v (o_move rfl) rfl ?_
   refine wl_v (o_slice_lo Tryd.underlying9 rfl rfl (by first | omega | (simp; omega)) (by first | omega | (simp; omega))) rfl ?_
   refine wl_v (o_assign rfl) rfl ?_
   refine wl_nil ?_
   exact wk_then (wk_mid trivial ⟨rfl, rfl, fs (by first | (simp only [h21, Bool.true_and, Bool.false_and, Bool.true_or, Bool.false_or, Bool.and_true, Bool.and_false, Bool.or_true, Bool.or_false, Bool.not_true, Bool.not_false, cond_true, cond_false, if_true, if_false, reduceIte, Bool.false_eq_true]; done) | (simp only [Bool.true_and, Bool.false_and, Bool.true_or, Bool.false_or, Bool.and_true, Bool.and_false, Bool.or_true, Bool.or_false, Bool.not_true, Bool.not_false, cond_true, cond_false, if_true, if_false, reduceIte, Bool.false_eq_true]; done) | simp [h21]), trivial⟩ .slnil)
  ·have g21 := h21; try simp only [decide_eq_true_eq, decide_eq_false_iff_not] at g21
   have f21 := h21; try simp only [decide_eq_true_eq, decide_eq_false_iff_not, Bool.and_eq_true, Bool.or_eq_true, Bool.not_eq_true', Bool.not_eq_false', Bool.and_eq_false_iff, Bool.or_eq_false_iff, not_or, Int.not_lt, Int.not_le] at f21
   refine wc_skip ?_
   exact wk_then (wk_mid trivial ⟨rfl, rfl, fs (by first | (simp only [h21, Bool.true_and, Bool.false_and, Bool.true_or, Bool.false_or, Bool.and_true, Bool.and_false, Bool.or_true, Bool.or_false, Bool.not_true, Bool.not_false, cond_true, cond_false, if_true, if_false, reduceIte, Bool.false_eq_true]; done) | (simp only [Bool.true_and, Bool.false_and, Bool.true_or, Bool.false_or, Bool.and_true, Bool.and_false, Bool.or_true, Bool.or_false, Bool.not_true, Bool.not_false, cond_true, cond_false, if_true, if_false, reduceIte, Bool.false_eq_true]; done) | simp [h21]), trivial⟩ .slnil)
 have hdg : digs p = (if ((decide ((0) < ((p.length : Int)))) && (decide ((bat p 0) = (45)))) = true then List.drop (Int.toNat (1)) p else p) := rfl
 have hdl := digs_len p
 rw [hdg] at hdl
 generalize (if ((decide ((0) < ((p.length : Int)))) && (decide ((bat p 0) = (45)))) = true then List.drop (Int.toNat (1)) p else p) = dg at hdg hdl ⊢
 refine wc_seq ?_
 refine wc_seq_mid [(2, .bool (false)), (3, .string (B (dg))), (26, .bool (((decide ((dg) = (([] : List UInt8)))) || ((decide ((bat dg 0) = (48))) && (!(decide ((p) = (([48] : List UInt8)))))))))] [] (φ := True) ?_ (fun hm24 => ?_)
 ·refine wc_region ?_
  refine wl_v (o_move rfl) rfl ?_
  refine wl_v (o_seq rfl rfl) rfl ?_
  refine wl_v (o_move rfl) rfl ?_
  refine bsplit (decide ((dg) = (([] : List UInt8)))) (fun h23 => ?_) (fun h23 => ?_)
  ·have g23 := h23; try simp only [decide_eq_true_eq, decide_eq_false_iff_not] at g23
   have f23 := h23; try simp only [decide_eq_true_eq, decide_eq_false_iff_not, Bool.and_eq_true, Bool.or_eq_true, Bool.not_eq_true', Bool.not_eq_false', Bool.and_eq_false_iff, Bool.or_eq_false_iff, not_or, Int.not_lt, Int.not_le] at f23
   refine wl_off rfl rfl h23 rfl ?_
   refine wl_off rfl rfl h23 rfl ?_
   refine wl_off rfl rfl h23 rfl ?_
   refine wl_off rfl rfl h23 rfl ?_
   refine wl_off_u rfl rfl rfl ?_
   refine wl_off_u rfl rfl rfl ?_
   refine wl_off rfl rfl h23 rfl ?_
   refine wl_v (o_pick_t rfl h23 rfl) rfl ?_
   refine wl_nil ?_
   exact wk_then (wk_mid trivial ⟨rfl, rfl, fb (by first | (simp only [h23, Bool.true_and, Bool.false_and, Bool.true_or, Bool.false_or, Bool.and_true, Bool.and_false, Bool.or_true, Bool.or_false, Bool.not_true, Bool.not_false, cond_true, cond_false, if_true, if_false, reduceIte, Bool.false_eq_true]; done) | (simp only [Bool.true_and, Bool.false_and, Bool.true_or, Bool.false_or, Bool.and_true, Bool.and_false, Bool.or_true, Bool.or_false, Bool.not_true, Bool.not_false, cond_true, cond_false, if_true, if_false, reduceIte, Bool.false_eq_true]; done) | simp [h23]), trivial⟩ .slnil)
  ·have g23 := h23; try simp only [decide_eq_true_eq, decide_eq_false_iff_not] at g23
   have f23 := h23; try simp only [decide_eq_true_eq, decide_eq_false_iff_not, Bool.and_eq_true, Bool.or_eq_true, Bool.not_eq_true', Bool.not_eq_false', Bool.and_eq_false_iff, Bool.or_eq_false_iff, not_or, Int.not_lt, Int.not_le] at f23
   refine wl_on rfl rfl h23 ?_
   refine wl_v (o_move rfl) rfl ?_
   refine wl_on rfl rfl h23 ?_
   refine wl_v (o_index_b Tryd.underlying9 rfl rfl (by first | omega | exact len_pos (by assumption)) (by first | omega | exact len_pos (by assumption))) rfl ?_
   refine wl_on rfl rfl h23 ?_
   refine wl_v (o_eq rfl rfl) rfl ?_
   refine wl_on rfl rfl h23 ?_
   refine wl_v (o_move rfl) rfl ?_
   refine bsplit (decide ((bat dg 0) = (48))) (fun h24 => ?_) (fun h24 => ?_)
   ·have g24 := h24; try simp only [decide_eq_true_eq, decide_eq_false_iff_not] at g24
    have f24 := h24; try simp only [decide_eq_true_eq, decide_eq_false_iff_not, Bool.and_eq_true, Bool.or_eq_true, Bool.not_eq_true', Bool.not_eq_false', Bool.and_eq_false_iff, Bool.or_eq_false_iff, not_or, Int.not_lt, Int.not_le] at f24
    refine wl_on rfl rfl h24 ?_
    refine wl_v (o_move rfl) rfl ?_
    refine wl_on rfl rfl h24 ?_
    refine wl_v (o_sne rfl rfl) rfl ?_
    refine wl_on rfl rfl h23 ?_
    refine wl_v (o_pick_t rfl h24 rfl) rfl ?_
    refine wl_v (o_pick_f rfl h23 rfl) rfl ?_
    refine wl_nil ?_
    exact wk_then (wk_mid trivial ⟨rfl, rfl, fb (by first | (simp only [h23, h24, Bool.true_and, Bool.false_and, Bool.true_or, Bool.false_or, Bool.and_true, Bool.and_false, Bool.or_true, Bool.or_false, Bool.not_true, Bool.not_false, cond_true, cond_false, if_true, if_false, reduceIte, Bool.false_eq_true]; done) | (simp only [Bool.true_and, Bool.false_and, Bool.true_or, Bool.false_or, Bool.and_true, Bool.and_false, Bool.or_true, Bool.or_false, Bool.not_true, Bool.not_false, cond_true, cond_false, if_true, if_false, reduceIte, Bool.false_eq_true]; done) | simp [h23, h24]), trivial⟩ .slnil)
   ·have g24 := h24; try simp only [decide_eq_true_eq, decide_eq_false_iff_not] at g24
    have f24 := h24; try simp only [decide_eq_true_eq, decide_eq_false_iff_not, Bool.and_eq_true, Bool.or_eq_true, Bool.not_eq_true', Bool.not_eq_false', Bool.and_eq_false_iff, Bool.or_eq_false_iff, not_or, Int.not_lt, Int.not_le] at f24
    refine wl_off rfl rfl h24 rfl ?_
    refine wl_off rfl rfl h24 rfl ?_
    refine wl_on rfl rfl h23 ?_
    refine wl_v (o_pick_f rfl h24 rfl) rfl ?_
    refine wl_v (o_pick_f rfl h23 rfl) rfl ?_
    refine wl_nil ?_
    exact wk_then (wk_mid trivial ⟨rfl, rfl, fb (by first | (simp only [h23, h24, Bool.true_and, Bool.false_and, Bool.true_or, Bool.false_or, Bool.and_true, Bool.and_false, Bool.or_true, Bool.or_false, Bool.not_true, Bool.not_false, cond_true, cond_false, if_true, if_false, reduceIte, Bool.false_eq_true]; done) | (simp only [Bool.true_and, Bool.false_and, Bool.true_or, Bool.false_or, Bool.and_true, Bool.and_false, Bool.or_true, Bool.or_false, Bool.not_true, Bool.not_false, cond_true, cond_false, if_true, if_false, reduceIte, Bool.false_eq_true]; done) | simp [h23, h24]), trivial⟩ .slnil)
 refine wc_cond (b := ((decide ((dg) = (([] : List UInt8)))) || ((decide ((bat dg 0) = (48))) && (!(decide ((p) = (([48] : List UInt8)))))))) rfl (fun h26 => ?_) (fun h26 => ?_)
 ·have g26 := h26; try simp only [decide_eq_true_eq, decide_eq_false_iff_not] at g26
  have f26 := h26; try simp only [decide_eq_true_eq, decide_eq_false_iff_not, Bool.and_eq_true, Bool.or_eq_true, Bool.not_eq_true', Bool.not_eq_false', Bool.and_eq_false_iff, Bool.or_eq_false_iff, not_or, Int.not_lt, Int.not_le] at f26
  refine wc_seq ?_
  refine wc_region ?_
  refine wl_v (o_assign rfl) rfl ?_
  refine wl_nil ?_
  refine wk_then (wc_of_wk ?_)
  refine wc_ret ?_
  refine wk_then_ret ?_
  refine wk_ret (r_1 rfl rfl) ?_
  exact retv (by simp only [decS, hdg, h26]; rfl)
 ·have g26 := h26; try simp only [decide_eq_true_eq, decide_eq_false_iff_not] at g26
  have f26 := h26; try simp only [decide_eq_true_eq, decide_eq_false_iff_not, Bool.and_eq_true, Bool.or_eq_true, Bool.not_eq_true', Bool.not_eq_false', Bool.and_eq_false_iff, Bool.or_eq_false_iff, not_or, Int.not_lt, Int.not_le] at f26
  refine wc_skip ?_
  refine wk_then (wc_of_wk ?_)
  refine wc_seq ?_
  refine wc_seq ?_
  refine wc_region ?_
  refine wl_v (o_move rfl) rfl ?_
  refine wl_v (o_len_s Tryd.underlying9 rfl) rfl ?_
  refine wl_v (o_move rfl) rfl ?_
  refine wl_nil ?_
  refine wk_then (wc_of_wk ?_)
  refine wc_block ?_
  refine wc_loop (S := Nat) (fun (k : Nat) => k ≤ dg.length ∧ allFrom digCh 0 dg = allFrom digCh k (dg.drop k)) (fun (k : Nat) => [(29, .int .i64 ((k : Int))), (3, .string (B (dg))), (28, .int .i64 ((dg.length : Int)))]) (fun (k : Nat) => []) (fun (k : Nat) => dg.length - k) (0) ?_ ⟨fi (by first | rfl | (simp; done) | omega | (simp; omega)), rfl, rfl, trivial⟩ .slnil ?_
  ·exact ⟨Nat.zero_le _, by simp⟩
  rintro k hi0
  refine wc_seq ?_
  refine wc_region ?_
  refine wl_v (o_lt rfl rfl) rfl ?_
  refine wl_nil ?_
  refine wk_then (wc_of_wk ?_)
  refine wc_seq ?_
  refine wc_cond (b := decide (((k : Int)) < ((dg.length : Int)))) rfl (fun h27 => ?_) (fun h27 => ?_)
  ·have g27 := h27; try simp only [decide_eq_true_eq, decide_eq_false_iff_not] at g27
   have f27 := h27; try simp only [decide_eq_true_eq, decide_eq_false_iff_not, Bool.and_eq_true, Bool.or_eq_true, Bool.not_eq_true', Bool.not_eq_false', Bool.and_eq_false_iff, Bool.or_eq_false_iff, not_or, Int.not_lt, Int.not_le] at f27
   refine wc_skip ?_
   refine wk_then (wc_of_wk ?_)
   refine wc_seq ?_
   refine wc_block ?_
   refine wc_seq ?_
   refine wc_region ?_
   refine wl_v (o_move rfl) rfl ?_
   refine wl_v (o_assign rfl) rfl ?_
   refine wl_nil ?_
   refine wk_then (wc_of_wk ?_)
   refine wc_seq_mid [(3, .string (B (dg))), (4, .int .i64 ((k : Int))), (28, .int .i64 ((dg.length : Int))), (29, .int .i64 ((k : Int))), (30, .bool (decide (((k : Int)) < ((dg.length : Int))))), (31, .int .i64 ((k : Int))), (32, .string (B (dg))), (33, .int .i64 ((k : Int))), (34, .int .u8 (bat dg (k : Int))), (35, .bool (decide ((bat dg (k : Int)) < (48)))), (36, .bool (decide ((bat dg (k : Int)) < (48)))), (41, .bool (((decide ((bat dg (k : Int)) < (48))) || (decide ((57) < (bat dg (k : Int)))))))] [] (φ := True) ?_ (fun hm28 => ?_)
   ·refine wc_region ?_
    refine wl_v (o_move rfl) rfl ?_
    refine wl_v (o_move rfl) rfl ?_
    refine wl_v (o_index_b Tryd.underlying9 rfl rfl (by first | omega | exact len_pos (by assumption)) (by first | omega | exact len_pos (by assumption))) rfl ?_
    refine wl_v (o_lt rfl rfl) rfl ?_
    refine wl_v (o_move rfl) rfl ?_
    refine bsplit (decide ((bat dg (k : Int)) < (48))) (fun h28 => ?_) (fun h28 => ?_)
    ·have g28 := h28; try simp only [decide_eq_true_eq, decide_eq_false_iff_not] at g28
     have f28 := h28; try simp only [decide_eq_true_eq, decide_eq_false_iff_not, Bool.and_eq_true, Bool.or_eq_true, Bool.not_eq_true', Bool.not_eq_false', Bool.and_eq_false_iff, Bool.or_eq_false_iff, not_or, Int.not_lt, Int.not_le] at f28
     refine wl_off rfl rfl h28 rfl ?_
     refine wl_off rfl rfl h28 rfl ?_
     refine wl_off rfl rfl h28 rfl ?_
     refine wl_off rfl rfl h28 rfl ?_
     refine wl_v (o_pick_t rfl h28 rfl) rfl ?_
     refine wl_nil ?_
     exact wk_then (wk_mid trivial ⟨rfl, rfl, rfl, rfl, rfl, rfl, rfl, rfl, rfl, rfl, rfl, fb (by first | (simp only [h26, h27, h28, Bool.true_and, Bool.false_and, Bool.true_or, Bool.false_or, Bool.and_true, Bool.and_false, Bool.or_true, Bool.or_false, Bool.not_true, Bool.not_false, cond_true, cond_false, if_true, if_false, reduceIte, Bool.false_eq_true]; done) | (simp only [Bool.true_and, Bool.false_and, Bool.true_or, Bool.false_or, Bool.and_true, Bool.and_false, Bool.or_true, Bool.or_false, Bool.not_true, Bool.not_false, cond_true, cond_false, if_true, if_false, reduceIte, Bool.false_eq_true]; done) | simp [h26, h27, h28]), trivial⟩ .slnil)
    ·have g28 := h28; try simp only [decide_eq_true_eq, decide_eq_false_iff_not] at g28
     have f28 := h28; try simp only [decide_eq_true_eq, decide_eq_false_iff_not, Bool.and_eq_true, Bool.or_eq_true, Bool.not_eq_true', Bool.not_eq_false', Bool.and_eq_false_iff, Bool.or_eq_false_iff, not_or, Int.not_lt, Int.not_le] at f28
     refine wl_on rfl rfl h28 ?_
     refine wl_v (o_move rfl) rfl ?_
     refine wl_on rfl rfl h28 ?_
     refine wl_v (o_move rfl) rfl ?_
     refine wl_on rfl rfl h28 ?_
     refine wl_v (o_index_b Tryd.underlying9 rfl rfl (by first | omega | exact len_pos (by assumption)) (by first | omega | exact len_pos (by assumption))) rfl ?_
     refine wl_on rfl rfl h28 ?_
     refine wl_v (o_gt rfl rfl) rfl ?_
     refine wl_v (o_pick_f rfl h28 rfl) rfl ?_
     refine wl_nil ?_
     exact wk_then (wk_mid trivial ⟨rfl, rfl, rfl, rfl, rfl, rfl, rfl, rfl, rfl, rfl, rfl, fb (by first | (simp only [h26, h27, h28, Bool.true_and, Bool.false_and, Bool.true_or, Bool.false_or, Bool.and_true, Bool.and_false, Bool.or_true, Bool.or_false, Bool.not_true, Bool.not_false, cond_true, cond_false, if_true, if_false, reduceIte, Bool.false_eq_true]; done) | (simp only [Bool.true_and, Bool.false_and, Bool.true_or, Bool.false_or, Bool.and_true, Bool.and_false, Bool.or_true, Bool.or_false, Bool.not_true, Bool.not_false, cond_true, cond_false, if_true, if_false, reduceIte, Bool.false_eq_true]; done) | simp [h26, h27, h28]), trivial⟩ .slnil)
   refine wc_cond (b := ((decide ((bat dg (k : Int)) < (48))) || (decide ((57) < (bat dg (k : Int)))))) rfl (fun h30 => ?_) (fun h30 => ?_)
   ·have g30 := h30; try simp only [decide_eq_true_eq, decide_eq_false_iff_not] at g30
    have f30 := h30; try simp only [decide_eq_true_eq, decide_eq_false_iff_not, Bool.and_eq_true, Bool.or_eq_true, Bool.not_eq_true', Bool.not_eq_false', Bool.and_eq_false_iff, Bool.or_eq_false_iff, not_or, Int.not_lt, Int.not_le] at f30
    refine wc_seq ?_
    refine wc_region ?_
    refine wl_v (o_assign rfl) rfl ?_
    refine wl_nil ?_
    refine wk_then (wc_of_wk ?_)
    refine wc_ret ?_
    refine wk_in_ret ?_
    refine wk_then_ret ?_
    refine wk_then_ret ?_
    refine wk_in_ret ?_
    refine wk_then_ret ?_
    refine wk_ret (r_1 rfl rfl) ?_
    exact retv (by simp [decS, hdg, dig_no hi0 g27 h30])
   ·have g30 := h30; try simp only [decide_eq_true_eq, decide_eq_false_iff_not] at g30
    have f30 := h30; try simp only [decide_eq_true_eq, decide_eq_false_iff_not, Bool.and_eq_true, Bool.or_eq_true, Bool.not_eq_true', Bool.not_eq_false', Bool.and_eq_false_iff, Bool.or_eq_false_iff, not_or, Int.not_lt, Int.not_le] at f30
    refine wc_skip ?_
    refine wk_in_norm ?_
    refine wk_then (wc_of_wk ?_)
    refine wc_region ?_
    refine wl_v (o_add rfl rfl (IntWalk.i64_in _ (by omega))) rfl ?_
    refine wl_v (o_move rfl) rfl ?_
    refine wl_nil ?_
    refine wk_then ?_
    refine wk_some (k + 1) ?_ ⟨fi (by first | rfl | (simp; done) | omega | (simp; omega)), rfl, rfl, trivial⟩ .slnil
    exact dig_next hi0 g27 h30
  ·have g27 := h27; try simp only [decide_eq_true_eq, decide_eq_false_iff_not] at g27
   have f27 := h27; try simp only [decide_eq_true_eq, decide_eq_false_iff_not, Bool.and_eq_true, Bool.or_eq_true, Bool.not_eq_true', Bool.not_eq_false', Bool.and_eq_false_iff, Bool.or_eq_false_iff, not_or, Int.not_lt, Int.not_le] at f27
   refine wc_exit ?_
   refine wk_then_exit ?_
   refine wk_then_exit ?_
   refine wk_in_hit ?_
   refine wk_then (wc_of_wk ?_)
   refine wc_seq ?_
   refine wc_region ?_
   refine wl_v (o_assign rfl) rfl ?_
   refine wl_nil ?_
   refine wk_then (wc_of_wk ?_)
   refine wc_ret ?_
   refine wk_ret (r_1 rfl rfl) ?_
   exact retv (by simp only [decS, hdg, h26, dig_yes hi0 g27]; rfl)

theorem format_c (m : Int) (h0 : -9223372036854775808 ≤ m) (h1 : m ≤ 9223372036854775807) (w : World) (hE : Env w) : Calls Tryd.prog 40 [.int .i64 (m)].toArray w (RetV w (.string (B (Lib.itoa m)))) := by
 refine enter0 (n := 5) Tryd.func40 rfl Tryd.ntmps40 rfl ?_
 refine wc_seq ?_
 refine wc_region ?_
 refine wl_v (o_assign rfl) rfl ?_
 refine wl_nil ?_
 refine wk_then (wc_of_wk ?_)
 refine wc_seq ?_
 refine wc_region ?_
 refine wl_v (o_move rfl) rfl ?_
 refine w_call Tryd.call44 rfl (fun w hw => itoa_c m (by omega) (by omega) w (hE.st0 hw)) rfl ?_
 refine wl_v (o_assign rfl) rfl ?_
 refine wl_nil ?_
 refine wk_then (wc_of_wk ?_)
 refine wc_ret ?_
 refine wk_ret (r_1 rfl rfl) ?_
 exact retv (by first | rfl | simp [])

theorem parse_c (p : List UInt8) (hp : p.length ≤ 281474976710656) (w : World) (hE : Env w) : Calls Tryd.prog 78 [.string (B (p))].toArray w (RetV w (.tuple #[.int .i64 (parseV p), .int .i64 (parseE p)])) := by
 refine enter0 (n := 22) Tryd.func78 rfl Tryd.ntmps78 rfl ?_
 refine wc_seq ?_
 refine wc_region ?_
 refine wl_v (o_assign rfl) rfl ?_
 refine wl_v (o_assign rfl) rfl ?_
 refine wl_nil ?_
 refine wk_then (wc_of_wk ?_)
 refine wc_seq ?_
 refine wc_seq ?_
 refine wc_region ?_
 refine wl_v (o_move rfl) rfl ?_
 refine w_call Tryd.call84 rfl (fun w hw => decimal_c p (by first | omega | (simp; done) | (simp; omega) | (simp at *; omega)) w) rfl ?_
 refine wl_v (o_not rfl) rfl ?_
 refine wl_nil ?_
 refine wk_then (wc_of_wk ?_)
 refine wc_cond (b := !(decS p)) rfl (fun h31 => ?_) (fun h31 => ?_)
 ·have g31 := h31; try simp only [decide_eq_true_eq, decide_eq_false_iff_not] at g31
  have f31 := h31; try simp only [decide_eq_true_eq, decide_eq_false_iff_not, Bool.and_eq_true, Bool.or_eq_true, Bool.not_eq_true', Bool.not_eq_false', Bool.and_eq_false_iff, Bool.or_eq_false_iff, not_or, Int.not_lt, Int.not_le] at f31
  refine wc_seq ?_
  refine wc_region ?_
  refine wl_v (o_assign rfl) rfl ?_
  refine wl_v (o_assign rfl) rfl ?_
  refine wl_nil ?_
  refine wk_then (wc_of_wk ?_)
  refine wc_ret ?_
  refine wk_then_ret ?_
  refine wk_ret (r_2 rfl rfl rfl) ?_
  exact retv (by simp [parseV, parseE, f31])
 ·have g31 := h31; try simp only [decide_eq_true_eq, decide_eq_false_iff_not] at g31
  have f31 := h31; try simp only [decide_eq_true_eq, decide_eq_false_iff_not, Bool.and_eq_true, Bool.or_eq_true, Bool.not_eq_true', Bool.not_eq_false', Bool.and_eq_false_iff, Bool.or_eq_false_iff, not_or, Int.not_lt, Int.not_le] at f31
  refine wc_skip ?_
  refine wk_then (wc_of_wk ?_)
  refine wc_seq ?_
  refine wc_region ?_
  refine wl_v (o_move rfl) rfl ?_
  rcases atoi_dec (p := p) (by assumption) with ⟨av, hav, hal, hah⟩ | hav
  ·refine w_call Tryd.call85 rfl (fun w _ => atoi_ok p (by first | omega | (simp; done) | (simp; omega) | (simp at *; omega)) av hav w) rfl ?_
   refine wl_v (o_move rfl) rfl ?_
   refine wl_v (o_extract rfl rfl) rfl ?_
   refine wl_v (o_extract rfl rfl) rfl ?_
   refine wl_v (o_assign rfl) rfl ?_
   refine wl_v (o_assign rfl) rfl ?_
   refine wl_nil ?_
   refine wk_then (wc_of_wk ?_)
   refine wc_seq ?_
   refine wc_seq_mid [(2, .int .i64 (0)), (3, .int .i64 (0)), (4, .int .i64 (av)), (20, .bool (!(validS av)))] [] (φ := True) ?_ (fun hm31 => ?_)
   ·refine wc_region ?_
    refine wl_v (o_move rfl) rfl ?_
    refine wl_v (o_if_ne_nil Tryd.underlying68 rfl) rfl ?_
    refine wl_v (o_move rfl) rfl ?_
    refine wl_on rfl rfl rfl ?_
    refine wl_v (o_move rfl) rfl ?_
    refine wl_on rfl rfl rfl ?_
    refine w_call Tryd.call50 rfl (fun w hw => valid_c av w) rfl ?_
    refine wl_on rfl rfl rfl ?_
    refine wl_v (o_not rfl) rfl ?_
    refine wl_v (o_pick_f rfl rfl rfl) rfl ?_
    refine wl_nil ?_
    exact wk_then (wk_mid trivial ⟨rfl, rfl, rfl, rfl, trivial⟩ .slnil)
   refine wc_cond (b := !(validS av)) rfl (fun h33 => ?_) (fun h33 => ?_)
   ·have g33 := h33; try simp only [decide_eq_true_eq, decide_eq_false_iff_not] at g33
    have f33 := h33; try simp only [decide_eq_true_eq, decide_eq_false_iff_not, Bool.and_eq_true, Bool.or_eq_true, Bool.not_eq_true', Bool.not_eq_false', Bool.and_eq_false_iff, Bool.or_eq_false_iff, not_or, Int.not_lt, Int.not_le] at f33
    refine wc_seq ?_
    refine wc_region ?_
    refine wl_v (o_assign rfl) rfl ?_
    refine wl_v (o_assign rfl) rfl ?_
    refine wl_nil ?_
    refine wk_then (wc_of_wk ?_)
    refine wc_ret ?_
    refine wk_then_ret ?_
    refine wk_ret (r_2 rfl rfl rfl) ?_
    exact retv (by simp [parseV, parseE, hav, f31, f33])
   ·have g33 := h33; try simp only [decide_eq_true_eq, decide_eq_false_iff_not] at g33
    have f33 := h33; try simp only [decide_eq_true_eq, decide_eq_false_iff_not, Bool.and_eq_true, Bool.or_eq_true, Bool.not_eq_true', Bool.not_eq_false', Bool.and_eq_false_iff, Bool.or_eq_false_iff, not_or, Int.not_lt, Int.not_le] at f33
    refine wc_skip ?_
    refine wk_then (wc_of_wk ?_)
    refine wc_seq ?_
    refine wc_region ?_
    refine wl_v (o_move rfl) rfl ?_
    refine wl_v (o_assign rfl) rfl ?_
    refine wl_v (o_assign rfl) rfl ?_
    refine wl_nil ?_
    refine wk_then (wc_of_wk ?_)
    refine wc_ret ?_
    refine wk_ret (r_2 rfl rfl rfl) ?_
    exact retv (by simp [parseV, parseE, hav, f31, f33])
  ·refine w_callM Tryd.call85 rfl (fun w hw => atoi_range p (by first | omega | (simp; done) | (simp; omega) | (simp at *; omega)) hav w (hE.st0 hw)) rfl ?_
   rintro _ _ ⟨am, at_, ab, rfl, rfl⟩
   refine wl_v (o_move rfl) rfl ?_
   refine wl_v (o_extract rfl rfl) rfl ?_
   refine wl_v (o_extract rfl rfl) rfl ?_
   refine wl_v (o_assign rfl) rfl ?_
   refine wl_v (o_assign rfl) rfl ?_
   refine wl_nil ?_
   refine wk_then (wc_of_wk ?_)
   refine wc_seq ?_
   refine wc_seq_mid [(2, .int .i64 (0)), (3, .int .i64 (0)), (4, .int .i64 (am)), (20, .bool (true))] [] (φ := True) ?_ (fun hm33 => ?_)
   ·refine wc_region ?_
    refine wl_v (o_move rfl) rfl ?_
    refine wl_v (o_if_ne Tryd.underlying68 rfl) rfl ?_
    refine wl_v (o_move rfl) rfl ?_
    refine wl_off rfl rfl rfl rfl ?_
    refine wl_off rfl rfl rfl rfl ?_
    refine wl_off rfl rfl rfl rfl ?_
    refine wl_v (o_pick_t rfl rfl rfl) rfl ?_
    refine wl_nil ?_
    exact wk_then (wk_mid trivial ⟨rfl, rfl, rfl, rfl, trivial⟩ .slnil)
   refine wc_cond_t rfl rfl ?_
   refine wc_seq ?_
   refine wc_region ?_
   refine wl_v (o_assign rfl) rfl ?_
   refine wl_v (o_assign rfl) rfl ?_
   refine wl_nil ?_
   refine wk_then (wc_of_wk ?_)
   refine wc_ret ?_
   refine wk_then_ret ?_
   refine wk_ret (r_2 rfl rfl rfl) ?_
   exact retv (by simp [parseV, parseE, hav, f31])

end Go.Proofs.YtkalifgebccpcaaDoor

/-
 Contracts of the library at this translation, in plain words (lay-plain.mjs), those that are used here.
-/
namespace Go.Proofs
open Go.Shelf
def Tryd.lays169_ren : Go.Shelf.Ren := ⟨fun | 169 => 25 | n => n, fun | 70 => 47 | 9 => 9 | 0 => 0 | 72 => 50 | 37 => 48 | 127 => 74 | 3 => 3 | 5 => 5 | n => n, fun | n => n⟩

theorem Tryd.lays169 : Go.Proofs.Lays.n169 Tryd.prog Tryd.lays169_ren := {
 mixed := by kernel_rfl
 f169 := Tryd.func25.trans (congrArg some (by kernel_rfl))
 t0 := Tryd.underlying0
 a0 := Tryd.isAgg0
 z0 := Tryd.sizeOf0
 v0 := Tryd.zeroValue0
 t3 := Tryd.underlying3
 a3 := Tryd.isAgg3
 z3 := Tryd.sizeOf3
 v3 := Tryd.zeroValue3
 t9 := Tryd.underlying9
 a9 := Tryd.isAgg9
 z9 := Tryd.sizeOf9
 v9 := Tryd.zeroValue9
 t37 := Tryd.underlying48
 a37 := Tryd.isAgg48
 z37 := Tryd.sizeOf48
 v37 := Tryd.zeroValue48
 t70 := Tryd.underlying47
 a70 := Tryd.isAgg47
 z70 := Tryd.sizeOf47
 v70 := Tryd.zeroValue47
 t72 := Tryd.underlying50
 a72 := Tryd.isAgg50
 z72 := Tryd.sizeOf50
 v72 := Tryd.zeroValue50
 t127 := Tryd.underlying74
 a127 := Tryd.isAgg74
 z127 := Tryd.sizeOf74
 v127 := Tryd.zeroValue74 }

theorem Tryd.Builder_Extra_169 : Builder.Extra Tryd.prog Tryd.lays169_ren := {
 sizeBuilder := by kernel_rfl
 liesBuilder := by kernel_rfl
 t5 := Tryd.underlying5
 a5 := Tryd.isAgg5
 z5 := Tryd.sizeOf5
 v5 := Tryd.zeroValue5
 infoByte := by kernel_rfl
 cellsByte := by kernel_rfl
 sizeByte := by kernel_rfl
 neB5 := by decide }

open Go.RowKit in
theorem Tryd.Builder_String_any (B b : Nat) (l : List UInt8) (w : World) (h : Lib.IsBuilder 50 5 B b (Lib.byteCells l) w) (hBw : B ≤ w.heap.size) :
  Calls Tryd.prog 25 #[.pointer (some ⟨b, 0, none⟩)] w fun e w' => e = .returned (.string ⟨l.toArray⟩) ∧ Below B w w' := Any.Builder_String_any Tryd.lays169 Tryd.Builder_Extra_169 B b l w h hBw

def Tryd.lays106_ren : Go.Shelf.Ren := ⟨fun | 106 => 53 | 213 => 67 | 265 => 76 | n => n, fun | 9 => 9 | 3 => 3 | n => n, fun | n => n⟩

theorem Tryd.lays106 : Go.Proofs.Lays.n106 Tryd.prog Tryd.lays106_ren := {
 mixed := by kernel_rfl
 f106 := Tryd.func53.trans (congrArg some (by kernel_rfl))
 f213 := Tryd.func67.trans (congrArg some (by kernel_rfl))
 f265 := Tryd.func76.trans (congrArg some (by kernel_rfl))
 t3 := Tryd.underlying3
 a3 := Tryd.isAgg3
 z3 := Tryd.sizeOf3
 v3 := Tryd.zeroValue3
 t9 := Tryd.underlying9
 a9 := Tryd.isAgg9
 z9 := Tryd.sizeOf9
 v9 := Tryd.zeroValue9 }

open Go.RowKit in
theorem Tryd.strings_Compare (a b : ByteArray) (w : World) :
  Calls Tryd.prog 53 #[.string a, .string b] w fun e w' => e = .returned (.int .i64 (Lib.compareBytes a.data.toList b.data.toList)) ∧ w' = w := Any.strings_Compare Tryd.lays106 a b w

def Tryd.lays138_ren : Go.Shelf.Ren := ⟨fun | 138 => 66 | 195 => 73 | 218 => 74 | 143 => 75 | 219 => 83 | 217 => 91 | 225 => 92 | 224 => 93 | 267 => 94 | 266 => 99 | 314 => 100 | n => n, fun | 9 => 9 | 3 => 3 | 4 => 4 | 5 => 5 | 0 => 0 | 46 => 110 | 146 => 114 | 51 => 108 | n => n, fun | 1 => 0 | n => n⟩

theorem Tryd.lays138 : Go.Proofs.Lays.n138 Tryd.prog Tryd.lays138_ren := {
 mixed := by kernel_rfl
 f138 := Tryd.func66.trans (congrArg some (by kernel_rfl))
 f143 := Tryd.func75.trans (congrArg some (by kernel_rfl))
 f195 := Tryd.func73.trans (congrArg some (by kernel_rfl))
 f217 := Tryd.func91.trans (congrArg some (by kernel_rfl))
 f218 := Tryd.func74.trans (congrArg some (by kernel_rfl))
 f219 := Tryd.func83.trans (congrArg some (by kernel_rfl))
 f224 := Tryd.func93.trans (congrArg some (by kernel_rfl))
 f225 := Tryd.func92.trans (congrArg some (by kernel_rfl))
 f266 := Tryd.func99.trans (congrArg some (by kernel_rfl))
 f267 := Tryd.func94.trans (congrArg some (by kernel_rfl))
 f314 := Tryd.func100.trans (congrArg some (by kernel_rfl))
 t0 := Tryd.underlying0
 a0 := Tryd.isAgg0
 z0 := Tryd.sizeOf0
 v0 := Tryd.zeroValue0
 t3 := Tryd.underlying3
 a3 := Tryd.isAgg3
 z3 := Tryd.sizeOf3
 v3 := Tryd.zeroValue3
 t4 := Tryd.underlying4
 a4 := Tryd.isAgg4
 z4 := Tryd.sizeOf4
 v4 := Tryd.zeroValue4
 t5 := Tryd.underlying5
 a5 := Tryd.isAgg5
 z5 := Tryd.sizeOf5
 v5 := Tryd.zeroValue5
 t9 := Tryd.underlying9
 a9 := Tryd.isAgg9
 z9 := Tryd.sizeOf9
 v9 := Tryd.zeroValue9
 t46 := Tryd.underlying110
 a46 := Tryd.isAgg110
 z46 := Tryd.sizeOf110
 v46 := Tryd.zeroValue110
 t51 := Tryd.underlying108
 a51 := Tryd.isAgg108
 z51 := Tryd.sizeOf108
 v51 := Tryd.zeroValue108
 t146 := Tryd.underlying114
 a146 := Tryd.isAgg114
 z146 := Tryd.sizeOf114
 v146 := Tryd.zeroValue114
 g1 := by kernel_rfl }

open Go.RowKit Go.Lib in
theorem Tryd.strings_Count_one (s : ByteArray) (c : UInt8) (w : World) :
  Calls Tryd.prog 66 #[.string s, .string ⟨#[c]⟩] w fun e w' => e = .returned (.int .i64 (Lib.countByte s.data.toList c)) ∧ w' = w := Any.strings_Count_one Tryd.lays138 s c w
end Go.Proofs

/-
 The library's contracts, and num's, in the words of the calculus. Plain theorems over the seat's program; no condition.
-/
namespace Go.Proofs.YtkalifgebccpcaaDoor.Q
open Go Go.RowKit
set_option linter.unusedVariables false
def GE (Z : Fz) : Prop := ∀ w, Frz Z w → Env w
theorem GE.mono {Z Z' : Fz} (h : Fz.le Z Z') (hg : GE Z) : GE Z' := fun w hw => hg w (fun b o e => hw b o (h b o e))
theorem Fn0.rle {P : Program} {E : Fz → Prop} {f : FuncId} {args : List Rp} {r r' : Rp} (h : Fn0 P E f args r) (hr : Rle r r') : Fn0 P E f args r' := fun w Z vs hv hs =>
 (h w Z vs hv hs).mono fun e w' ⟨q, v, H, Z', he, ⟨hq, hH⟩, hp, ht⟩ => ⟨r', v, H, Z', he, ⟨rfl, hH⟩, hr Z' v (hq ▸ hp), ht⟩
theorem Rle.tup2 {a b : Value} : Rle (rv (.tuple #[a, b])) (rTup [rv a, rv b]) := fun Z v h => ⟨[a, b], h, rfl, rfl, trivial⟩
theorem Fn0.of_id {P : Program} {E : Fz → Prop} {f : FuncId} {vs : List Value} {v : Value} (h : ∀ w, Calls P f vs.toArray w (fun e w' => e = .returned v ∧ w' = w)) : Fn0 P E f (vs.map rv) (rv v) :=
 Fn0.of_old fun w Z _ _ => (h w).mono fun e w' ⟨he, hw⟩ => ⟨he, by rw [hw]; exact Proofs.YtkalifgebccpcaaDoor.St.refl w []⟩
theorem format_q (m : Int) (g : inK .i64 m = true) : Fn0 Tryd.prog GE 40 [rI .i64 m] (rS (Lib.itoa m)) := Fn0.of_old (vs := [.int .i64 m]) fun w Z hf he => format_c m (inK_i64 g).1 (inK_i64 g).2 w (he w hf)
theorem parse_q (s : Str) (g : inA 1 s.length = true) : Fn0 Tryd.prog GE 78 [rS s] (rTup [rI .i64 (parseV s), rI .i64 (parseE s)]) := (Fn0.of_old (vs := [.string (B s)]) fun w Z hf he => parse_c s (by simp [inA] at g; omega) w (he w hf)).rle Rle.tup2
theorem count_q (s : Str) (c : UInt8) : Fn0 Tryd.prog GE 66 [rS s, rS [c]] (rI .i64 (Lib.countByte s c)) := Fn0.of_id (vs := [.string (B s), .string (B [c])]) fun w => by have := Tryd.strings_Count_one (B s) c w; rwa [B_data] at this
end Go.Proofs.YtkalifgebccpcaaDoor.Q

/-
 A strings.Builder of one's own: its entry, the operations of its methods; closures called; texts made of bytes. Plain theorems over any program; no condition.
-/
namespace Go.Proofs.YtkalifgebccpcaaDoor.Q
open Go Go.RowKit
set_option linter.unusedVariables false
set_option linter.unusedSimpArgs false
theorem toI_cells (l : List UInt8) : ((toI l).map eI_u8).flatten = (l.map fun c => Value.int .u8 c.toNat).map rv := by
 induction l with
 | nil => rfl
 | cons c r ih => simp only [toI, List.map_cons, List.flatten_cons] at ih ⊢; rw [ih]; rfl
theorem toI_len (l : List UInt8) : (toI l).length = l.length := by simp [toI]
theorem run_append_str_st {P : Program} {w : World} {t t' e : TypeId} {inf : TypeInfo} {v : Value} {m : Nat} {us : List Value} {s : List UInt8} (ty : TypeId) (ht : P.underlying t = some (.slice e)) (hu : P.underlying t' = some .string) (hinf : P.info? e = some inf) (hz : inf.zero = some (.int .u8 0)) (hsize : inf.size = 1) (hby : inf.bytes = 1)
  (hown : w.ownsRow 0 e 1 v m us) (hb : m + s.length ≤ 140737488355328) :
  ∃ v' w', (Builtin.append_ #[t, t'] ty #[v, .string (B s)]).run P w = .ok v' w' ∧ w'.ownsRow 0 e 1 v' (m + s.length) (us ++ s.map fun c => Value.int .u8 c.toNat) ∧ w.grownBy w' v.ownBlock ∧ (v'.ownBlock = v.ownBlock ∨ ∀ b, v'.ownBlock = some b → w.heap.size ≤ b) := by
 have hsz : (B s).size = s.length := B_size s
 have hcells : Lib.strCells (B s) = s.map fun c => Value.int .u8 c.toNat := by simp [Lib.strCells, B]
 rcases hown.2 with ⟨rfl, rfl⟩ | ⟨g, cap, cur, rfl, hbg, hg, hnc, hcm, hcs, htake⟩
 ·have hx : us = [] := List.eq_nil_of_length_eq_zero (by simpa using hown.1)
  subst hx
  obtain ⟨v', w', e1, e2, e3, _⟩ := Lib.run_append_own_string (P := P) (w := w) w.heap.size t t' ty e inf ht hu hinf hz hsize hby (.slice none 0 0) 0 [] (World.ownsRow_nil w _ e 1) (B s) (by rw [hsz]; simp only [maxLen]; omega) (by rw [hsz]; omega) (Nat.le_refl _)
  rw [hsz, hcells] at e2
  refine ⟨v', w', e1, ⟨e2.1, ?_⟩, e3, .inr fun b hb => (e2.lt b hb).1⟩
  rcases e2.2 with h | ⟨g, cap, cur, h, _, rest⟩
  ·exact .inl h
  ·exact .inr ⟨g, cap, cur, h, Nat.zero_le _, rest⟩
 ·obtain ⟨v', w', e1, e2, e3, _⟩ := Lib.run_append_own_string (P := P) (w := w) 0 t t' ty e inf ht hu hinf hz hsize hby _ m us hown (B s) (by rw [hsz]; simp only [maxLen]; omega) (by rw [hsz]; omega) (Nat.zero_le _)
  rw [hsz, hcells] at e2
  refine ⟨v', w', e1, e2, e3, ?_⟩
  by_cases hroom : m + (B s).size ≤ cap
  ·have hr := Lib.run_append_room_string (P := P) w t t' ty e inf ht hu hinf hsize g m cap cur hg (B s) hroom (by simp at hcs; omega)
   rw [hr] at e1
   simp only [Result.ok.injEq] at e1
   rw [← e1.1]; exact .inl rfl
  ·have holds : ∀ j u, us[j]? = some u → w.cell? ((⟨g, 0, none⟩ : Addr).add j) = some u := hown.cells (g := g) rfl
   have hr := Lib.run_append_grow_string (P := P) w t t' ty e inf (.int .u8 0) ht hu hinf hz ⟨g, 0, none⟩ m cap us (by rw [hsize]; exact hown.1) holds (B s) (by omega) (by rw [hsz]; omega) (by rw [hby]; exact growslice_fits (by omega) (by rw [hsz]; omega))
   rw [hr] at e1
   simp only [Result.ok.injEq] at e1
   rw [← e1.1]; exact .inr fun b hb => by simp [Value.ownBlock] at hb; omega
section
variable {P : Program} {n : Nat} {c : Cx} {ops : Array Oper} {Q : Exit → Act → World → Prop} {rest : List Oper} {l : Fr} {H H' : List Ent} {d : Nat} {d' : Option Nat} {x y z3 : Operand} {ty t t' e : TypeId} {pos : String} {af : Array Edge} {g : Option (Nat × Bool)} {v u : Value} {r : Rp} {sz : Nat} {K : Act → World → Prop}
theorem St.tobld {Z : Fz} {w : World} (h : St c H Z w) {i b : Nat} {te T : TypeId} (hi : H[i]? = some (.blk b [rv (.pointer none), rv (.slice none 0 0)] T)) : St c (H.set i (.bld T te b (.slice none 0 0) [])) Z w := by
 refine h.set hi rfl rfl rfl (Nat.le_refl _) (fun _ _ _ => rfl) ?_ (by simp [Ent.foot, Value.ownBlock])
 obtain ⟨us, h1, h2⟩ := h.ent hi
 have := RpAll.eq_rv (us := [.pointer none, .slice none 0 0]) h2
 subst this
 exact ⟨_, .inl rfl, h1, ⟨by simp, .inl ⟨rfl, rfl⟩⟩, by simp [Value.ownBlock]⟩
theorem WK.tobld {i b : Nat} {te T : TypeId} (hi : H[i]? = some (.blk b [rv (.pointer none), rv (.slice none 0 0)] T)) (h : WK n c K l (H.set i (.bld T te b (.slice none 0 0) []))) : WK n c K l H := fun a w Z ha hw => h a w Z ha (St.tobld hw hi)
theorem WL.tobld {i b : Nat} {te T : TypeId} (hi : H[i]? = some (.blk b [rv (.pointer none), rv (.slice none 0 0)] T)) (h : WL P n c ops Q rest l (H.set i (.bld T te b (.slice none 0 0) []))) : WL P n c ops Q rest l H := fun a w Z ha hw => h a w Z ha (St.tobld hw hi)
theorem WC.tobld {xx : Code} {i b : Nat} {te T : TypeId} (hi : H[i]? = some (.blk b [rv (.pointer none), rv (.slice none 0 0)] T)) (h : WC P n c xx Q l (H.set i (.bld T te b (.slice none 0 0) []))) : WC P n c xx Q l H := fun a w Z ha hw => h a w Z ha (St.tobld hw hi)
theorem Fn.bld {E : Fz → Prop} {f : FuncId} {args : List Rp} {T te : TypeId} {b : Nat} {v : Value} {s s' : List UInt8} {res : Rp}
  (h : ∀ p, (p = .pointer none ∨ p = .pointer (some ⟨b, 0, none⟩)) → Fn P E f args [.blk b [rv p, rv v] T, .row v te 1 ((toI s).map eI_u8)] (fun R H => ∃ w0 : Value, R = res ∧ H = [.blk b [rv (.pointer (some ⟨b, 0, none⟩)), rv w0] T, .row w0 te 1 ((toI s').map eI_u8)])) :
  Fn P E f args [.bld T te b v s] (fun R H => ∃ w0 : Value, R = res ∧ H = [.bld T te b w0 s']) := fun w Z vs hv hs => by
 obtain ⟨p, hp, h1, h2, h3⟩ := hs.has _ (List.mem_singleton.2 rfl)
 have hfoot : [Ent.bld T te b v s].flatMap Ent.foot = [Ent.blk b [rv p, rv v] T, Ent.row v te 1 ((toI s).map eI_u8)].flatMap Ent.foot := by simp [Ent.foot]
 have hs' : St ⟨w, Z, [Ent.blk b [rv p, rv v] T, Ent.row v te 1 ((toI s).map eI_u8)].flatMap Ent.foot, E⟩ [Ent.blk b [rv p, rv v] T, Ent.row v te 1 ((toI s).map eI_u8)] Z w := by
  refine ⟨rfl, rfl, rfl, Nat.le_refl _, fun _ _ _ => rfl, ?_, fun e he k hk => .inr (List.mem_flatMap.2 ⟨e, he, hk⟩), ?_, hs.frz, Fz.le.refl _, fun _ _ e => .inl e, fun e he k hk => ?_, hs.env, hs.emono⟩
  ·intro e he
   simp only [List.mem_cons, List.not_mem_nil, or_false] at he
   rcases he with rfl | rfl
   ·exact ⟨[p, v], h1, rfl, rfl, trivial⟩
   ·refine ⟨fun cl hcl => by obtain ⟨z, _, rfl⟩ := List.mem_map.1 hcl; rfl, _, by simpa [toI_len] using h2, ?_⟩
    rw [toI_cells]; exact RpAll.rvs Z _
  ·refine List.pairwise_cons.2 ⟨fun e he k hk hk' => ?_, List.pairwise_singleton ..⟩
   simp only [List.mem_singleton] at he; subst he
   simp only [Ent.foot, List.mem_singleton] at hk; subst hk
   simp only [Ent.foot, Option.mem_toList] at hk'
   exact h3 hk'
  ·have hmem : k ∈ [Ent.bld T te b v s].flatMap Ent.foot := by rw [hfoot]; exact List.mem_flatMap.2 ⟨e, he, hk⟩
   obtain ⟨e', he', hk'⟩ := List.mem_flatMap.1 hmem
   exact hs.zdis e' he' k hk'
 rw [hfoot] at hs ⊢
 refine (h p hp w Z vs hv hs').mono fun e w' ⟨R, vv, H, Z', he, ⟨w0, hR, hH⟩, hpR, ht⟩ => ⟨R, vv, [.bld T te b w0 s'], Z', he, ⟨w0, hR, rfl⟩, hpR, ?_⟩
 subst hH
 obtain ⟨us, k1, k2⟩ := ht.has (.blk b [rv (.pointer (some ⟨b, 0, none⟩)), rv w0] T) (by simp)
 obtain ⟨k3, ws, k4, k5⟩ := ht.has (.row w0 te 1 ((toI s').map eI_u8)) (by simp)
 have e1 := RpAll.eq_rv (us := [.pointer (some ⟨b, 0, none⟩), w0]) k2
 subst e1
 rw [toI_cells] at k5
 have e2 := RpAll.eq_rv k5
 subst e2
 have hd := List.pairwise_cons.1 ht.dis
 have hne : w0.ownBlock ≠ some b := fun hb => hd.1 _ (List.mem_singleton.2 rfl) b (by simp [Ent.foot]) (by simp [Ent.foot, hb])
 refine { ht with has := ?_, own := ?_, dis := List.pairwise_singleton .., zdis := ?_ }
 ·intro e' he'; simp only [List.mem_singleton] at he'; subst he'
  exact ⟨_, .inr rfl, k1, by simpa [toI_len] using k4, hne⟩
 ·intro e' he' k hk; simp only [List.mem_singleton] at he'; subst he'
  simp only [Ent.foot, List.mem_cons] at hk
  rcases hk with rfl | hk
  ·exact ht.own (.blk k [rv (.pointer (some ⟨k, 0, none⟩)), rv w0] T) (by simp) k (by simp [Ent.foot])
  ·exact ht.own (.row w0 te 1 ((toI s').map eI_u8)) (by simp) k hk
 ·intro e' he' k hk; simp only [List.mem_singleton] at he'; subst he'
  simp only [Ent.foot, List.mem_cons] at hk
  rcases hk with rfl | hk
  ·exact ht.zdis (.blk k [rv (.pointer (some ⟨k, 0, none⟩)), rv w0] T) (by simp) k (by simp [Ent.foot])
  ·exact ht.zdis (.row w0 te 1 ((toI s').map eI_u8)) (by simp) k hk
theorem Fn.bldS {E : Fz → Prop} {f : FuncId} {args : List Rp} {T te : TypeId} {b : Nat} {v : Value} {s : List UInt8} {res : Rp}
  (h : ∀ p, (p = .pointer none ∨ p = .pointer (some ⟨b, 0, none⟩)) → Fn P E f args [.blk b [rv p, rv v] T, .row v te 1 ((toI s).map eI_u8)] (fun R H => R = res ∧ H = [])) :
  Fn P E f args [.bld T te b v s] (fun R H => R = res ∧ H = []) := fun w Z vs hv hs => by
 obtain ⟨p, hp, h1, h2, h3⟩ := hs.has _ (List.mem_singleton.2 rfl)
 have hfoot : [Ent.bld T te b v s].flatMap Ent.foot = [Ent.blk b [rv p, rv v] T, Ent.row v te 1 ((toI s).map eI_u8)].flatMap Ent.foot := by simp [Ent.foot]
 have hs' : St ⟨w, Z, [Ent.blk b [rv p, rv v] T, Ent.row v te 1 ((toI s).map eI_u8)].flatMap Ent.foot, E⟩ [Ent.blk b [rv p, rv v] T, Ent.row v te 1 ((toI s).map eI_u8)] Z w := by
  refine ⟨rfl, rfl, rfl, Nat.le_refl _, fun _ _ _ => rfl, ?_, fun e he k hk => .inr (List.mem_flatMap.2 ⟨e, he, hk⟩), ?_, hs.frz, Fz.le.refl _, fun _ _ e => .inl e, fun e he k hk => ?_, hs.env, hs.emono⟩
  ·intro e he
   simp only [List.mem_cons, List.not_mem_nil, or_false] at he
   rcases he with rfl | rfl
   ·exact ⟨[p, v], h1, rfl, rfl, trivial⟩
   ·refine ⟨fun cl hcl => by obtain ⟨z, _, rfl⟩ := List.mem_map.1 hcl; rfl, _, by simpa [toI_len] using h2, ?_⟩
    rw [toI_cells]; exact RpAll.rvs Z _
  ·refine List.pairwise_cons.2 ⟨fun e he k hk hk' => ?_, List.pairwise_singleton ..⟩
   simp only [List.mem_singleton] at he; subst he
   simp only [Ent.foot, List.mem_singleton] at hk; subst hk
   simp only [Ent.foot, Option.mem_toList] at hk'
   exact h3 hk'
  ·have hmem : k ∈ [Ent.bld T te b v s].flatMap Ent.foot := by rw [hfoot]; exact List.mem_flatMap.2 ⟨e, he, hk⟩
   obtain ⟨e', he', hk'⟩ := List.mem_flatMap.1 hmem
   exact hs.zdis e' he' k hk'
 rw [hfoot] at hs ⊢
 exact h p hp w Z vs hv hs'

/-! ### Pointers -/
theorem o_pnil_n (hu : ∃ e', P.underlying t = some (.pointer e')) (hx : ev l x = some (rv (.pointer none))) : ORun P n c l H { dst := d', op := .binOp .eql t x (.const (.pointer none)) t', type := ty, pos := pos, after := af, guard := g } (rB true) := fun a w Z ha _ => o_mk <| by
 obtain ⟨e', hu⟩ := hu
 have h1 : ∀ dd : Nat, (Op.equalIn (dd + 1) t (.pointer none) (.pointer none)).run P w = .ok true w := fun dd => by simp [Op.equalIn, run_underlying hu]
 have h2 : (Op.equal t (.pointer none) (.pointer none)).run P w = .ok true w := h1 9999
 have h3 : (eqGuard .eql t x (.const (.pointer none)) (.pointer none) (.pointer none)).run P w = .ok () w := by unfold eqGuard; split <;> simp
 have hy : a.eval (.const (.pointer none)) = .pointer none := rfl
 simp only [execOp, ha.eval hx, hy, Sem.run_bind, h3, Result.andThen_ok, binOp, h2, Sem.run_pure]
theorem o_psame_ne {p : Addr} {te : TypeId} (hu : P.underlying t = some (.pointer te)) (hi : ∃ j, P.info? te = some j) (hx : ev l x = some (rv (.pointer (some p)))) (hy : ev l y = some (rv (.pointer (some p)))) : ORun P n c l H { dst := d', op := .binOp .neq t x y t', type := ty, pos := pos, after := af, guard := g } (rB false) := fun a w Z ha _ => o_mk <| by
 obtain ⟨j, hj⟩ := hi
 have h3 : (eqGuard .neq t x y (.pointer (some p)) (.pointer (some p))).run P w = .ok () w := by unfold eqGuard; split <;> simp
 simp only [execOp, ha.eval hx, ha.eval hy, Sem.run_bind, h3, Result.andThen_ok, Lib.run_neq_ptr_same w p hu hj, Sem.run_pure]
theorem shape_blk {w : World} {Z : Fz} {i b : Nat} {cs : List Rp} (hw : St c H Z w) (hi : H[i]? = some (.blk b cs e)) : w.shape? b = some (e, cs.length) := by
 obtain ⟨us, h1, h2⟩ := hw.ent hi
 simp [World.shape?, h1, h2.length]
theorem o_to_unsafe {i b : Nat} {cs : List Rp} {te : TypeId} (hs : P.underlying t = some (.pointer te)) (hd : P.underlying t' = some .unsafePointer) (hj : ∃ j, P.info? te = some j ∧ j.size ≠ 0) (hx : ev l x = some (rv (.pointer (some ⟨b, 0, none⟩)))) (hi : H[i]? = some (.blk b cs e)) (hl : Nat.blt 0 cs.length = true) :
  ORun P n c l H { dst := d', op := .convert t t' x, type := ty, pos := pos, after := af, guard := g } (rv (.pointer (some ⟨b, 0, none⟩))) := fun a w Z ha hw => o_mk <| by
 obtain ⟨j, hj1, hj2⟩ := hj
 have := Lib.run_to_unsafe (P := P) w ⟨b, 0, none⟩ hs hd hj1 hj2 (shape_blk hw hi) (by simpa using hl)
 simp [execOp, ha.eval hx, this]
theorem o_from_unsafe {i b : Nat} {cs : List Rp} {te : TypeId} (hs : P.underlying t = some .unsafePointer) (hd : P.underlying t' = some (.pointer te)) (hj : ∃ j, P.info? te = some j) (hx : ev l x = some (rv (.pointer (some ⟨b, 0, none⟩)))) (hi : H[i]? = some (.blk b cs e)) (hl : liesAt P P.depth e (cs.length / P.cellsOf e) 0 te 1 = true) :
  ORun P n c l H { dst := d', op := .convert t t' x, type := ty, pos := pos, after := af, guard := g } (rv (.pointer (some ⟨b, 0, none⟩))) := fun a w Z ha hw => o_mk <| by
 obtain ⟨j, hj1⟩ := hj
 have := Lib.run_from_unsafe (P := P) w ⟨b, 0, none⟩ hs hd hj1 (shape_blk hw hi) hl
 simp [execOp, ha.eval hx, this]
theorem o_noesc {f : FuncId} {fn : Func} {ats : Array TypeId} (hf : P.funcs[f]? = some fn) (hname : (fn.name == "runtime.NumGoroutine") = false) (hb : fn.body.isNone = true) (hn : Extern.findNext fn = none) (he : Extern.find fn = some Extern.AbiNoEscape.same) (hx : ev l x = some (rv v)) :
  ORun P n c l H { dst := d', op := .call { callee := .value (.func f), args := #[x], argTypes := ats }, type := ty, pos := pos, after := af, guard := g } (rv v) := fun a w Z ha hw => o_mk <| by
 have h1 := run_callFunc_extern (P := P) (w := w) (args := #[v]) hf hname hb hn he
 rw [Lib.run_noEscape] at h1
 simp only [execOp, resolve, Sem.run_bind, Sem.run_pure, Result.andThen_ok, Act.eval, Deferred.ofValue, invoke]
 simp only [List.map_toArray, List.map_cons, List.map_nil, ha.eval hx, Array.append_empty, Array.empty_append]
 simpa using h1

theorem pos_map {α : Type} {xs : List α} {enc : α → List Rp} (h : decide (0 < xs.length) = true) : decide (0 < (xs.map enc).length) = true := by simpa using h
section
variable {P : Program} {n : Nat} {c : Cx} {l : Fr} {H : List Ent} {d' : Option Nat} {x : Operand} {ty t t' e : TypeId} {pos : String} {af : Array Edge} {g : Option (Nat × Bool)} {v : Value}
theorem foldB : ∀ (ns : List Int) (p : List UInt8), ns.foldl (fun r n => r.push (UInt8.ofNat n.toNat)) (B p) = B (p ++ ofI ns)
 | [], p => by simp [ofI]
 | n :: ns, p => by
  have e : (B p).push (UInt8.ofNat n.toNat) = B (p ++ [UInt8.ofNat n.toNat]) := by simp [B, ByteArray.push]
  simp only [List.foldl_cons, e]
  rw [foldB ns]
  simp [ofI]
theorem eI_cells (xs : List Int) : (xs.map eI_u8).flatten = (xs.map fun c => Value.int .u8 c).map rv := by
 induction xs with
 | nil => rfl
 | cons a r ih => simp [eI_u8, ih]
theorem o_b2s {i : Nat} {xs : List Int} (hs : P.underlying t = some (.slice e)) (hd : P.underlying t' = some .string) (he : P.underlying e = some (.int .u8)) (hx : ev l x = some (rv v)) (hi : H[i]? = some (.row v e 1 (xs.map eI_u8))) :
  ORun P n c l H { dst := d', op := .convert t t' x, type := ty, pos := pos, after := af, guard := g } (rS (ofI xs)) := fun a w Z ha hw => by
 obtain ⟨_, us, ⟨h1, h2⟩, h3⟩ := hw.ent hi
 rw [eI_cells] at h3
 have e2 := RpAll.eq_rv h3
 subst e2
 refine ⟨.string (B (ofI xs)), rfl, ?_⟩
 have hlx := ha.eval hx
 rcases h2 with ⟨rfl, hz⟩ | ⟨b, cap, cur, rfl, _, hb, hcap, hm, hcs, htk⟩
 ·have hx0 : xs = [] := by simpa using hz
  subst hx0
  have := run_convert_bytes_string w t t' e none 0 0 hs he hd
  simp only [execOp, hlx]
  have e3 : (Conv.bytesToString (.slice none 0 0)).run P w = .ok (.string (B [])) w := rfl
  rw [e3] at this
  simp [this, ofI]
 ·simp only [List.length_map, Nat.mul_one] at htk hcap hcs h1
  have hld := run_loadCells_list (P := P) w ⟨b, 0, none⟩ (xs.map fun c => Value.int .u8 c) (fun j u hj => by
   rw [addm, Nat.zero_add, cell_of_row w b j cur e (0, 0) hb]
   rw [← htk, List.getElem?_take] at hj
   split at hj
   ·simpa using hj
   ·cases hj)
  rw [List.length_map] at hld
  have h4 := run_bytesToString w ⟨b, 0, none⟩ xs.length cap xs hld
  have h5 := run_convert_bytes_string w t t' e (some ⟨b, 0, none⟩) xs.length cap hs he hd
  have h6 := foldB xs []
  rw [h4, show ByteArray.empty = B [] from rfl, h6] at h5
  simp [execOp, hlx, h5]
end
/-! ### Bytes as a text -/
def slp : Value → Value
 | .slice a _ _ => .pointer a
 | v => v
theorem o_sliceData {i : Nat} {ts : Array TypeId} {xs : List (List Rp)} (hx : ev l x = some (rv v)) (hi : H[i]? = some (.row v e sz xs)) (hg : decide (0 < xs.length) = true) :
  ORun P n c l H { dst := d', op := .call { callee := .builtin .unsafeSliceData, args := #[x], argTypes := ts }, type := ty, pos := pos, after := af, guard := g } (rv (slp v)) := fun a w Z ha hw => o_mk <| by
 obtain ⟨_, us, ⟨_, h2⟩, _⟩ := hw.ent hi
 have h0 : 0 < xs.length := by simpa using hg
 rcases h2 with ⟨rfl, hz⟩ | ⟨b, cap, cur, rfl, _, _, hc, _⟩
 ·omega
 ·have := Lib.run_unsafeSliceData_row (P := P) w ts ty ⟨b, 0, none⟩ xs.length cap (by omega)
  simp [execOp, resolve, invoke, builtin, ha.eval hx, this, slp]
def VRun (P : Program) (n : Nat) (c : Cx) (l : Fr) (H : List Ent) (o : Oper) (r : Rp) (H' : List Ent) : Prop := ∀ a w Z, Agr n l a Z → St c H Z w → ∃ v w' Z', Fz.le Z Z' ∧ r.p Z' v ∧ (execOp a.eval o).run P w = .ok (.value v) w' ∧ St c H' Z' w'
theorem ok_w {opsA : Array Oper} {op : Op} (hr : VRun P n c l H { dst := some d, op := op, type := ty, pos := pos, after := af, guard := none } r H') : OpOk P n c opsA Q l H { dst := some d, op := op, type := ty, pos := pos, after := af, guard := none } r H' := fun a w Z K0 ha hw hK =>
 ⟨fun _ => by
  obtain ⟨v, w', Z', hz, hv, he, hs⟩ := hr a w Z ha hw
  unfold Oper.wp
  rw [he]
  exact hK v w' Z' hz hv hs, fun h => by simp [Region.wanted] at h⟩
theorem V_unsafeString {i : Nat} {pt it : TypeId} {s : List UInt8} (hp : P.underlying pt = some (.pointer e)) (hc : P.cellsOf e = 1) (hx : ev l x = some (rv (slp v))) (hy : ev l y = some (rI .i64 ((toI s).length : Int))) (hi : H[i]? = some (.row v e 1 ((toI s).map eI_u8))) (hg : decide (0 < ((toI s).map eI_u8).length) = true) (hH : H.eraseIdx i = H') :
  VRun P n c l H { dst := some d, op := .call { callee := .builtin .unsafeString, args := #[x, y], argTypes := #[pt, it] }, type := ty, pos := pos, after := af, guard := none } (rS s) H' := fun a w Z ha hw => by
 obtain ⟨_, us, ⟨h1, h2⟩, h3⟩ := hw.ent hi
 rw [toI_cells] at h3
 have e2 := RpAll.eq_rv h3
 subst e2
 have h0 : 0 < s.length := by simpa [toI_len] using hg
 rcases h2 with ⟨rfl, hz⟩ | ⟨b, cap, cur, rfl, _, hb, hcap, hm, hcs, htk⟩
 ·simp [toI_len] at hz; subst hz; simp at h0
 ·simp only [List.length_map, toI_len, Nat.mul_one] at htk hcap hcs h1
  have hus := Lib.run_unsafeString_row (P := P) w pt it ty e hp hc b cur.size (by simp [World.shape?, hb]) s (by intro e; subst e; simp at h0) (by omega) (by simp only [maxLen] at hm; omega) (fun j x hj => by
   rw [addm, Nat.zero_add, cell_of_row w b j cur e (0, 0) hb]
   have : (s.map fun c => Value.int .u8 c.toNat)[j]? = some (.int .u8 x.toNat) := by simp [hj]
   rw [← htk, List.getElem?_take] at this
   split at this
   ·simpa using this
   ·cases this)
  have hmem := List.mem_of_getElem? hi
  have hfr := hw.front hi
  have hd := List.pairwise_cons.1 hfr.dis
  have hst := hfr.sub (List.sublist_cons_self _ _)
  have hkeep : ∀ k, k ≠ b → (w.freeze ⟨b, 0, none⟩ s.length).heap[k]? = w.heap[k]? := fun k hk => by
   simp only [World.freeze]
   split
   ·rfl
   ·simp only [Array.getElem?_modify]
    rw [if_neg (fun e => hk e.symm)]
  have hzb : Z b = none := hw.zdis _ hmem b (by simp [Ent.foot, Value.ownBlock])
  refine ⟨.string ⟨s.toArray⟩, w.freeze ⟨b, 0, none⟩ s.length, Z, Fz.le.refl _, rfl, ?_, ?_⟩
  ·have hlx := ha.eval hx
   have hly := ha.eval hy
   rw [toI_len] at hly
   simp [execOp, resolve, invoke, builtin, hlx, hly, slp, hus]
  ·subst hH
   have hfz : ∀ (f : World → Prop), True := fun _ => trivial
   refine { hst with os := ?_, tape := ?_, output := ?_, size := ?_, old := fun k hk hkM => ?_, has := fun en he => ?_, frz := fun b' o hb' => ?_ }
   ·rw [← hst.os]; simp only [World.freeze]; split <;> rfl
   ·rw [← hst.tape]; simp only [World.freeze]; split <;> rfl
   ·rw [← hst.output]; simp only [World.freeze]; split <;> rfl
   ·refine Nat.le_trans hst.size ?_; simp only [World.freeze]; split <;> simp
   ·have hkb : k ≠ b := fun e => by
     subst e
     rcases hw.own _ hmem k (by simp [Ent.foot, Value.ownBlock]) with h4 | h4
     ·omega
     ·exact hkM h4
    rw [hkeep k hkb]; exact hst.old k hk hkM
   ·exact Ent.keep (hst.has en he) (Fz.le.refl _) fun k hk => hkeep k (fun e => hd.1 en he b (by simp [Ent.foot, Value.ownBlock]) (e ▸ hk))
   ·rw [hkeep b' (fun e => by subst e; rw [hzb] at hb'; cases hb')]; exact hst.frz b' o hb'
/-! ### Closures -/
theorem run_closure {f : FuncId} {args : List Operand} {ats : Array TypeId} {o : Oper} {a : Act} {caps : List Value} (ho : o.op = .call { callee := .value x, args := args.toArray, argTypes := ats }) (hx : a.eval x = .func (.func f) #[] caps.toArray)
  (hcall : ∀ (as1 : Array Value) (w : World), (callFunc f as1).run P w = .ok (.enter f as1) w) (w : World) : (execOp a.eval o).run P w = .ok (.enter f (args.map a.eval ++ caps).toArray) w := by
 simp [execOp, ho, resolve, hx, Deferred.ofValue, invoke, hcall]
theorem w_callc {f : FuncId} {args : List Operand} {ats : Array TypeId} {rs : List Rp} {caps : List Value} {Hin Hr : List Ent} {Φ : Rp → List Ent → Prop} (hcall : ∀ (as1 : Array Value) (w : World), (callFunc f as1).run P w = .ok (.enter f as1) w) (hx : ev l x = some (rv (.func (.func f) #[] caps.toArray))) (hv : evs l args = some rs)
  (hp : H.Perm (Hin ++ Hr)) (hc : Fn P c.E f (rs ++ caps.map rv) Hin Φ) (hn : Nat.blt d n = true) (h : ∀ r Ho, Φ r Ho → WL P n c ops Q rest ((d, r) :: l) (Ho ++ Hr)) :
  WL P n c ops Q ({ dst := some d, op := .call { callee := .value x, args := args.toArray, argTypes := ats }, type := ty, pos := pos, after := af, guard := none } :: rest) l H :=
 wl_call (args := fun a => (args.map a.eval ++ caps).toArray) (fun a w Z ha hw => ⟨run_closure rfl (ha.eval hx) hcall w, by
  have hw2 := hw.perm hp
  refine (hc w Z _ (by have := (evs_all ha hv).append (RpAll.rvs Z caps); simpa using this) hw2.enter).mono ?_
  rintro e w' ⟨r, v, Ho, Z', he, hΦ, hr, hs⟩
  exact ⟨v, r, Ho ++ Hr, Z', he, hs.le, hr, hw2.call hs, h r Ho hΦ⟩⟩) hn
theorem w_append_str {xs : List Int} {s : List UInt8} {i : Nat} {inf : TypeInfo} (ht : P.underlying t = some (.slice e)) (hu : P.underlying t' = some .string) (hinf : P.info? e = some inf) (hz : inf.zero = some (.int .u8 0)) (hsize : inf.size = 1) (hby : inf.bytes = 1)
  (hx : ev l x = some (rv v)) (hy : ev l y = some (rS s)) (hi : H[i]? = some (.row v e 1 (xs.map eI_u8))) (hg : inA 1 (xs.length + s.length) = true) (hn : Nat.blt d n = true)
  (h : ∀ v', WL P n c ops Q rest ((d, rv v') :: l) (.row v' e 1 ((xs ++ toI s).map eI_u8) :: H.eraseIdx i)) :
  WL P n c ops Q ({ dst := some d, op := .call { callee := .builtin .append, args := #[x, y], argTypes := #[t, t'] }, type := ty, pos := pos, after := af, guard := none } :: rest) l H :=
 wl_w (fun a w Z ha hw => by
  obtain ⟨h0, us, h1, h2⟩ := hw.ent hi
  have hb : (xs.length + s.length) * 1 ≤ 140737488355328 := by simpa [inA] using hg
  rw [List.length_map] at h1
  obtain ⟨v', w', e1, e2, e3, e4⟩ := run_append_str_st (P := P) (w := w) ty ht hu hinf hz hsize hby h1 (s := s) (by omega)
  have hent : (Ent.row v' e 1 ((xs ++ toI s).map eI_u8)).holds Z w' := ⟨fun cl hcl => by obtain ⟨z', _, rfl⟩ := List.mem_map.1 hcl; rfl, us ++ s.map (fun c => Value.int .u8 c.toNat), by simpa [toI_len] using e2, by
   rw [List.map_append, List.flatten_append, toI_cells]; exact h2.append (RpAll.rvs Z _)⟩
  have hst := hw.callF hi (St.one (e' := .row v' e 1 ((xs ++ toI s).map eI_u8)) (M := (Ent.row v e 1 (xs.map eI_u8)).foot) hw.frz hw.env hw.emono e3.os e3.tape e3.output e3.size (fun k hk hne => e3.block k hk (fun e1 => hne (by simp [Ent.foot, ← e1])))
   (hw.zdis _ (List.mem_of_getElem? hi)) hent (fun k hk => by
    simp only [Ent.foot, Option.mem_toList] at hk ⊢
    rcases e4 with e4 | e4
    ·exact .inl (e4 ▸ hk)
    ·exact .inr (e4 k hk)))
  exact ⟨v', w', rv v', _, Z, by simp [execOp, resolve, invoke, builtin, ha.eval hx, ha.eval hy, e1], Fz.le.refl _, rfl, hst, h v'⟩) hn
end
section
variable {P : Program} {n : Nat} {c : Cx} {ops : Array Oper} {Q : Exit → Act → World → Prop} {rest : List Oper} {l : Fr} {H : List Ent} {d : Nat} {ty : TypeId} {pos : String} {af : Array Edge} {r : Rp} {x y z3 : Operand}
theorem wo {d : Option Nat} {op : Op} {j dj : Nat} {want b : Bool} (hb : b = want) (h : WL P n c ops Q ({ dst := d, op := op, type := ty, pos := pos, after := af, guard := none } :: rest) l H) (hj : gslot ops j = some dj := by rfl) (hv : look l dj = some (rB b) := by rfl) :
  WL P n c ops Q ({ dst := d, op := op, type := ty, pos := pos, after := af, guard := some (j, want) } :: rest) l H := wl_on hj hv hb h
theorem wf {op : Op} {j dj : Nat} {want b : Bool} (hb : b = !want) (h : WL P n c ops Q rest ((d, rv undef) :: l) H) (hj : gslot ops j = some dj := by rfl) (hv : look l dj = some (rB b) := by rfl) (hn : Nat.blt d n = true := by rfl) :
  WL P n c ops Q ({ dst := some d, op := op, type := ty, pos := pos, after := af, guard := some (j, want) } :: rest) l H := wl_off hj hv hb hn h
theorem wu {op : Op} {j dj : Nat} {want : Bool} (h : WL P n c ops Q rest ((d, rv undef) :: l) H) (hj : gslot ops j = some dj := by rfl) (hv : look l dj = some (rv undef) := by rfl) (hn : Nat.blt d n = true := by rfl) :
  WL P n c ops Q ({ dst := some d, op := op, type := ty, pos := pos, after := af, guard := some (j, want) } :: rest) l H := wl_off_u hj hv hn h
theorem wv {op : Op} (hr : ORun P n c l H { dst := some d, op := op, type := ty, pos := pos, after := af, guard := none } r) (h : WL P n c ops Q rest ((d, r) :: l) H) (hn : Nat.blt d n = true := by rfl) : WL P n c ops Q ({ dst := some d, op := op, type := ty, pos := pos, after := af, guard := none } :: rest) l H := wl_v hr hn h
theorem wm (h : ev l x = some r) (hk : WL P n c ops Q rest ((d, r) :: l) H) (hn : Nat.blt d n = true := by rfl) : WL P n c ops Q ({ dst := some d, op := .move x, type := ty, pos := pos, after := af, guard := none } :: rest) l H := wl_v (o_move h) hn hk
theorem wa (h : ev l x = some r) (hk : WL P n c ops Q rest ((d, r) :: l) H) (hn : Nat.blt d n = true := by rfl) : WL P n c ops Q ({ dst := some d, op := .assign x, type := ty, pos := pos, after := af, guard := none } :: rest) l H := wl_v (o_assign h) hn hk
theorem wpt {b : Bool} (hc : ev l z3 = some (rB b)) (hb : b = true) (h : ev l x = some r) (hk : WL P n c ops Q rest ((d, r) :: l) H) (hn : Nat.blt d n = true := by rfl) : WL P n c ops Q ({ dst := some d, op := .pick z3 x y, type := ty, pos := pos, after := af, guard := none } :: rest) l H := wl_v (o_pick_t hc hb h) hn hk
theorem wpf {b : Bool} (hc : ev l z3 = some (rB b)) (hb : b = false) (h : ev l y = some r) (hk : WL P n c ops Q rest ((d, r) :: l) H) (hn : Nat.blt d n = true := by rfl) : WL P n c ops Q ({ dst := some d, op := .pick z3 x y, type := ty, pos := pos, after := af, guard := none } :: rest) l H := wl_v (o_pick_f hc hb h) hn hk
theorem wc0 {f : FuncId} {args : List Operand} {ats : Array TypeId} {rs : List Rp} (hcall : ∀ (as1 : Array Value) (w : World), (callFunc f as1).run P w = .ok (.enter f as1) w) (hc : Fn0 P c.E f rs r) (hv : evs l args = some rs) (h : WL P n c ops Q rest ((d, r) :: l) H) (hn : Nat.blt d n = true := by rfl) :
  WL P n c ops Q ({ dst := some d, op := .call { callee := .value (.func f), args := args.toArray, argTypes := ats }, type := ty, pos := pos, after := af, guard := none } :: rest) l H := w_call0 hcall hv hc rfl hn h
theorem wcl {f : FuncId} {args : List Operand} {ats : Array TypeId} {rs : List Rp} {Hin Hr : List Ent} {Φ : Rp → List Ent → Prop} (hcall : ∀ (as1 : Array Value) (w : World), (callFunc f as1).run P w = .ok (.enter f as1) w) (hc : Fn P c.E f rs Hin Φ) (hv : evs l args = some rs)
  (hp : H.Perm (Hin ++ Hr)) (hn : Nat.blt d n = true) (h : ∀ r Ho, Φ r Ho → WL P n c ops Q rest ((d, r) :: l) (Ho ++ Hr)) :
  WL P n c ops Q ({ dst := some d, op := .call { callee := .value (.func f), args := args.toArray, argTypes := ats }, type := ty, pos := pos, after := af, guard := none } :: rest) l H := w_call hcall hv hp hc hn h
theorem ok_c0 {opsA : Array Oper} {f : FuncId} {args : List Operand} {ats : Array TypeId} {rs : List Rp} (hcall : ∀ (as1 : Array Value) (w : World), (callFunc f as1).run P w = .ok (.enter f as1) w) (hc : Fn0 P c.E f rs r) (hv : evs l args = some rs) :
  OpOk P n c opsA Q l H { dst := some d, op := .call { callee := .value (.func f), args := args.toArray, argTypes := ats }, type := ty, pos := pos, after := af, guard := none } r H := ok_call0 hcall hv hc rfl
theorem wt {K : Exit → Act → World → Prop} {l1 : Fr} {H1 : List Ent} (hl : Sub l1 l := by repeat (first | exact Sub.nil | refine Sub.c rfl ?_)) (hH : H1.Sublist H := by repeat (first | exact sN | refine sC ?_ | refine sS ?_)) : WK n c (Exit.then (Mid n c l1 H1) K .normal) l H := wk_then (wk_mid hl hH)
theorem wtc {p : Prop} (hp : p) {K : Exit → Act → World → Prop} {l1 : Fr} {H1 : List Ent} (hl : p → Sub l1 l := by intro hp; repeat (first | exact Sub.nil | refine Sub.c rfl ?_ | refine Sub.c (by first | (simp only [hp]; rfl) | simp [hp]) ?_)) (hH : H1.Sublist H := by repeat (first | exact sN | refine sC ?_ | refine sS ?_)) : WK n c (Exit.then (Mid n c l1 H1) K .normal) l H := wk_then (wk_mid (hl hp) hH)
end
end Go.Proofs.YtkalifgebccpcaaDoor.Q

/-
 What a law is handed, read as what it stands for: the blocks of the world that is handed in are frozen. Plain theorems over any program; no condition.
-/
namespace Go.Proofs.YtkalifgebccpcaaDoor.Q
open Go Go.RowKit Go.ChangeShapes Go.Deep
set_option linter.unusedVariables false
set_option linter.unusedSimpArgs false
def ZW (W : World) : Fz := fun b => W.heap[b]?
theorem ZW.frz (W : World) : Frz (ZW W) W := fun _ _ h => h
def Opn (P : Program) (e : TypeId) {α : Type} (enc : α → List Rp) (ok : α → Bool) : Prop :=
 ∀ {H : Type} {encH : TypeId × Value → H} {W : World} {sp : Nat → Bool} {held : Bool} {n : Nat} {cs : List Value} {x : DataW H × List MemPlace}, DataW.trod encH P W 0 sp held n e cs = some x → ∃ y : α, ok y = true ∧ RpAll (ZW W) (enc y) cs
section
variable {P : Program} {e t : TypeId}
theorem Opn.int {k : IntKind} {enc : Int → List Rp} (ht : P.underlying e = some (.int k)) (he : ∀ n, enc n = [rI k n]) : Opn P e enc (inK k) := fun h => by
 obtain ⟨n, rfl, _, hwf⟩ := DataW.trod_int ht h
 exact ⟨n, hwf, by rw [he]; exact ⟨rfl, trivial⟩⟩
theorem Opn.str {enc : Str → List Rp} (ht : P.underlying e = some .string) (he : ∀ n, enc n = [rS n]) : Opn P e enc okS := fun h => by
 obtain ⟨s, rfl, _, hl⟩ := DataW.trod_string ht h
 exact ⟨s.data.toList, decide_eq_true (by rw [Array.length_toList]; exact hl), by rw [he]; exact ⟨congrArg Value.string (B_of s), trivial⟩⟩
theorem Opn.bool {enc : Bool → List Rp} (ht : P.underlying e = some .bool) (he : ∀ n, enc n = [rB n]) : Opn P e enc (fun _ => true) := fun h => by
 obtain ⟨b, rfl, _⟩ := DataW.trod_bool ht h
 exact ⟨b, rfl, by rw [he]; exact ⟨rfl, trivial⟩⟩
theorem cell_spot {W : World} {a : Addr} {v : Value} (h : W.cell? a = some v) : a.spot = none ∧ zcell (ZW W) a.block a.off = some v := by
 unfold World.cell? at h
 unfold zcell ZW
 cases hh : W.heap[a.block]? with
 | none => rw [hh] at h; cases h
 | some o =>
  rw [hh] at h
  cases o with
  | cells cs t fz =>
   cases hs : a.spot with
   | none => simp [hs] at h; exact ⟨rfl, h⟩
   | some _ => simp [hs] at h
  | _ => simp at h
theorem Opn.slice {α : Type} [Inhabited α] {enc : α → List Rp} {ok : α → Bool} {sz : Nat} (ht : P.underlying t = some (.slice e)) (hc : P.cellsOf e = sz) (hsz : 0 < sz) (h : Opn P e enc ok) (hlen : ∀ y, (enc y).length = sz) {enc' : List α → List Rp} (he : ∀ ys, enc' ys = [rSl sz (ys.map enc)]) :
  Opn P t enc' (fun ys => ys.all ok && decide (ys.length ≤ 9223372036854775807)) := fun {H encH W sp held n cs x} hx => by
 rcases open_slice ht hx with ⟨rfl, _⟩ | ⟨a, len, cap, m, n', D, Pl, rfl, hb, hl, hm, hmm, _, hel⟩
 ·exact ⟨[], by simp, by rw [he]; exact ⟨SlZ.nil sz _, trivial⟩⟩
 ·have hlm : len ≤ m := by rw [hmm]; split <;> omega
  have each : ∀ i, i < len → ∃ y : α, ok y = true ∧ ∃ cs', W.cells? 0 (a.add (i * sz)) sz = some cs' ∧ RpAll (ZW W) (enc y) cs' := fun i hi => by
   obtain ⟨cs', h1, h2⟩ := hel i (by omega)
   obtain ⟨y, hy, hr⟩ := h h2
   rw [hc] at h1
   exact ⟨y, hy, cs', h1, hr⟩
  obtain ⟨f, hf⟩ := choose_lt each
  refine ⟨(List.range len).map f, ?_, ?_⟩
  ·simp only [Bool.and_eq_true, List.all_eq_true, List.mem_map, List.mem_range, decide_eq_true_eq]
   refine ⟨?_, by simp; simp only [maxLen] at hm; omega⟩
   rintro _ ⟨i, hi, rfl⟩
   exact (hf i hi).1
  ·rw [he]
   refine ⟨⟨some a, cap, by simp, by simpa using hl, hm, (fun h => by cases h), fun i c hi => ?_⟩, trivial⟩
   rw [List.map_map, List.getElem?_map] at hi
   have hil : i < len := by
    cases hq : (List.range len)[i]? with
    | none => rw [hq] at hi; cases hi
    | some _ => have := (List.getElem?_eq_some_iff.1 hq).1; simpa using this
   rw [List.getElem?_range hil] at hi
   simp only [Option.map_some, Option.some.injEq, Function.comp] at hi
   subst hi
   obtain ⟨_, cs', h1, hr⟩ := hf i hil
   obtain ⟨_, hcl, hcell⟩ := World.cells?_some h1
   have hsp : a.spot = none := by
    obtain ⟨_, cs0, g1, _⟩ := hf 0 (by omega)
    obtain ⟨_, gcl, gcell⟩ := World.cells?_some g1
    have h0 := gcell 0 hsz
    rw [List.getElem?_eq_getElem (by omega)] at h0
    have := (cell_spot h0).1
    simpa [Addr.add] using this
   refine ⟨hlen _, a, rfl, hsp, fun j r hj => ?_⟩
   obtain ⟨u, hu, hp⟩ := hr.at hj
   have hjs : j < sz := by have := (List.getElem?_eq_some_iff.1 hj).1; rw [hlen] at this; exact this
   have h3 := hcell j hjs
   rw [hu] at h3
   have h4 := (cell_spot h3).2
   refine ⟨u, ?_, hp⟩
   have e1 : ((a.add (i * sz)).add j).block = a.block := by simp only [Addr.add]; split <;> split <;> rfl
   have e2 : ((a.add (i * sz)).add j).off = a.off + (i * sz + j) := by simp only [Addr.add]; split <;> split <;> simp_all <;> omega
   rw [e1, e2] at h4
   exact h4
theorem seg_nil {Z : Fz} {cs : List Value} {o : Nat} (h : cs.length = o) : RpAll Z [] (cs.drop o) := by rw [List.drop_of_length_le (by omega)]; trivial
theorem seg_cons {Z : Fz} {cs : List Value} {o s o' : Nat} {rs rs' : List Rp} (h : RpAll Z rs ((cs.drop o).take s)) (ho : o + s = o') (h2 : RpAll Z rs' (cs.drop o')) : RpAll Z (rs ++ rs') (cs.drop o) := by
 rw [← List.take_append_drop s (cs.drop o), List.drop_drop]
 subst ho
 exact h.append h2
theorem Opn.val {α : Type} {enc : α → List Rp} {ok : α → Bool} (h : Opn P e enc ok) {r : α → Rp} (he : ∀ y, enc y = [r y]) {H : Type} {encH : TypeId × Value → H} {W : World} {sp : Nat → Bool} {held : Bool} {v : Value} {d : DataW H} {ps : List MemPlace}
  (hone : v.cells = #[v]) (ht : DataW.Trod encH P W 0 sp held e v d ps) : ∃ y : α, ok y = true ∧ (r y).p (ZW W) v := by
 obtain ⟨fuel, hf⟩ := ht
 rw [hone] at hf
 obtain ⟨y, hy, hr⟩ := h hf
 rw [he] at hr
 exact ⟨y, hy, hr.1⟩
end
end Go.Proofs.YtkalifgebccpcaaDoor.Q

/-
 The row's step over the calculus of representations.
-/
namespace Go.Proofs.YtkalifgebccpcaaDoor.Q
open Go Go.RowKit
set_option linter.unusedVariables false
theorem frz_size {W w : World} (hw : Frz (ZW W) w) : W.heap.size ≤ w.heap.size := by
 rcases Nat.eq_zero_or_pos W.heap.size with h | h
 ·omega
 ·have h1 : W.heap[W.heap.size - 1]? = some (W.heap[W.heap.size - 1]'(by omega)) := Array.getElem?_eq_getElem (by omega)
  have := (Array.getElem?_eq_some_iff.1 (hw _ _ h1)).1
  omega
theorem ge_of_env {W : World} (hE : Env W) : GE (ZW W) := fun w hw => by
 have hb : Below W.heap.size W { w with os := W.os, tape := W.tape, output := W.output } := ⟨rfl, rfl, rfl, frz_size hw, fun k hk => by
  have h1 : W.heap[k]? = some (W.heap[k]'hk) := Array.getElem?_eq_getElem hk
  rw [h1]; exact hw k _ h1⟩
 obtain ⟨⟨hp, a, b, hv⟩, hs⟩ := hE.st0 (St.of_below hb)
 exact ⟨⟨hp, a, b, hv⟩, hs⟩
theorem st_start {W : World} (hE : Env W) : St ⟨W, ZW W, [], GE⟩ [] (ZW W) W where
 os := rfl
 tape := rfl
 output := rfl
 size := Nat.le_refl _
 old := fun _ _ _ => rfl
 has := fun _ h => by cases h
 own := fun _ h => by cases h
 dis := .nil
 frz := ZW.frz W
 le := Fz.le.refl _
 new := fun _ _ h => .inl h
 zdis := fun _ h => by cases h
 env := ge_of_env hE
 emono := fun h hg => GE.mono h hg
theorem st_below {W W' : World} {Z Z' : Fz} {E : Fz → Prop} {H : List Ent} (h : St ⟨W, Z, [], E⟩ H Z' W') : Below W.heap.size W W' := ⟨h.os, h.tape, h.output, h.size, fun k hk => h.old k hk (by simp)⟩
end Go.Proofs.YtkalifgebccpcaaDoor.Q

/-
 What functions compute, with checks: plain definitions, printed by a small program of ours (gq.py). No program in sight.
-/
namespace Go.Proofs.YtkalifgebccpcaaDoor.Q
open Go
set_option linter.unusedVariables false
def bCopy0 (l : (List Int)) : Option ((List Int)) :=
 some l

def bWriteByte0 (l : (List Int)) (c : Int) : Option (Unit × (List Int)) :=
 obn (bCopy0 l) fun r1 => chk (inA 1 (r1.length + ([c] : List Int).length)) <| some ((), r1 ++ ([c] : List Int))

def bWriteString0 (l : (List Int)) (s : Str) : Option (Int × Unit × (List Int)) :=
 obn (bCopy0 l) fun r1 => chk (inA 1 (r1.length + s.length)) <| some ((s.length : Int), (), r1 ++ toI s)

def bString0 (l : Str) : Option (Str) :=
 chk (decide (0 < (toI l).length)) <| some l

def bCopy1 (l : (List Int)) : Option ((List Int)) :=
 some l

def bWriteByte1 (l : (List Int)) (c : Int) : Option (Unit × (List Int)) :=
 obn (bCopy1 l) fun r1 => chk (inA 1 (r1.length + ([c] : List Int).length)) <| some ((), r1 ++ ([c] : List Int))

def bWriteString1 (l : (List Int)) (s : Str) : Option (Int × Unit × (List Int)) :=
 obn (bCopy1 l) fun r1 => chk (inA 1 (r1.length + s.length)) <| some ((s.length : Int), (), r1 ++ toI s)

def bString1 (l : Str) : Option (Str) :=
 chk (decide (0 < (toI l).length)) <| some l

end Go.Proofs.YtkalifgebccpcaaDoor.Q

/-
  Walks, printed by a small program of ours (gq.py).
-/
namespace Go.Proofs.YtkalifgebccpcaaDoor.Q
open Go Go.RowKit
set_option linter.unusedVariables false
set_option linter.unusedSimpArgs false
set_option maxRecDepth 100000
set_option maxHeartbeats 4000000
theorem info5 : ∃ inf, Tryd.prog.info? 5 = some inf ∧ inf.zero = some (.int .u8 0) ∧ inf.size = 1 ∧ inf.bytes = 1 := by
  have key : (Tryd.prog.info? 5).map (fun i => (i.zero, i.size, i.bytes)) = some (some (.int .u8 0), 1, 1) := by kernel_rfl
  obtain ⟨inf, h1, h2⟩ := Option.map_eq_some_iff.1 key
  simp only [Prod.mk.injEq] at h2
  exact ⟨inf, h1, h2.1, h2.2.1, h2.2.2⟩
theorem infoN50 : ∃ j, Tryd.prog.info? 50 = some j ∧ j.size ≠ 0 := by
  have key : (Tryd.prog.info? 50).map (fun i => i.size) = some 2 := by kernel_rfl
  obtain ⟨j, h1, h2⟩ := Option.map_eq_some_iff.1 key
  exact ⟨j, h1, by rw [h2]; decide⟩
theorem infoE50 : ∃ j, Tryd.prog.info? 50 = some j := infoN50.imp fun _ h => h.1
theorem bCopy0_w (b_l : Nat) (v_l : Value) (l : (List Int)) (r : (List Int)) (h : bCopy0 l = some r) : Fn Tryd.prog GE 59 [rv (.pointer (some ⟨b_l, 0, none⟩))] [.blk b_l [rv (.pointer none), rv v_l] 50, .row v_l 5 1 (List.map eI_u8 l)] (fun R H => ∃ w0 : Value, R = rv (.tuple #[]) ∧ H = [.blk b_l [rv (.pointer (some ⟨b_l, 0, none⟩)), rv w0] 50, .row w0 5 1 (List.map eI_u8 r)]) := by
 refine enter (n := 20) Tryd.func59 rfl Tryd.ntmps59 rfl (fun w Z => ?_)
 refine wc_as (l' := [(0, rv (.pointer (some ⟨b_l, 0, none⟩)))]) (H' := [.blk b_l [rv (.pointer none), rv v_l] 50, .row v_l 5 1 (List.map eI_u8 l)]) rfl rfl ?_
 unfold bCopy0 at h
 refine wc_sr ?_
 refine wm rfl ?_
 refine wv (o_nilcheck rfl) ?_
 refine wv (o_fieldAddr Tryd.underlying50 rfl Tryd.sizeOf47 rfl rfl) ?_
 refine wv (o_load (i := 0) Tryd.isAgg47 rfl rfl rfl) ?_
 refine wv (r := rB true) (o_pnil_n ⟨_, Tryd.underlying47⟩ rfl) ?_
 refine wl_x ?_
 refine wc_cond_t rfl rfl ?_
 refine wc_region ?_
 refine wm rfl ?_
 refine wm rfl ?_
 refine wv (r := rv (.pointer (some ⟨b_l, 0, none⟩))) (o_to_unsafe (i := 0) Tryd.underlying47 Tryd.underlying93 infoN50 rfl rfl rfl) ?_
 refine wl_v (r := rv (.pointer (some ⟨b_l, 0, none⟩))) (o_noesc Tryd.func70 (by kernel_rfl) (by kernel_rfl) (by kernel_rfl) (by kernel_rfl) rfl) rfl ?_
 refine wv (r := rv (.pointer (some ⟨b_l, 0, none⟩))) (o_from_unsafe (i := 0) Tryd.underlying93 Tryd.underlying47 infoE50 rfl rfl (by kernel_rfl)) ?_
 refine wv (o_nilcheck rfl) ?_
 refine wv (o_fieldAddr Tryd.underlying50 rfl Tryd.sizeOf47 rfl rfl) ?_
 refine u_store (i := 0) Tryd.sizeOf47 rfl rfl (one_c rfl) rfl rfl (cs' := [rv (.pointer (some ⟨b_l, 0, none⟩)), rv v_l]) rfl (H' := [.blk b_l [rv (.pointer (some ⟨b_l, 0, none⟩)), rv v_l] 50, .row v_l 5 1 (List.map eI_u8 l)]) rfl ?_
 refine wl_nil ?_
 obtain rfl := some_e h
 exact wk_end (r_0 Tryd.results59) (sC (sC sN)) ⟨v_l, rfl, rfl⟩

theorem bWriteByte0_w (b_l : Nat) (v_l : Value) (l : (List Int)) (c : Int) (r : Unit × (List Int)) (h : bWriteByte0 l c = some r) : Fn Tryd.prog GE 42 [rv (.pointer (some ⟨b_l, 0, none⟩)), rI .u8 c] [.blk b_l [rv (.pointer none), rv v_l] 50, .row v_l 5 1 (List.map eI_u8 l)] (fun R H => ∃ w0 : Value, R = rv (.nilIface) ∧ H = [.blk b_l [rv (.pointer (some ⟨b_l, 0, none⟩)), rv w0] 50, .row w0 5 1 (List.map eI_u8 r.2)]) := by
 refine enter (n := 17) Tryd.func42 rfl Tryd.ntmps42 rfl (fun w Z => ?_)
 refine wc_as (l' := [(0, rv (.pointer (some ⟨b_l, 0, none⟩))), (1, rI .u8 c)]) (H' := [.blk b_l [rv (.pointer none), rv v_l] 50, .row v_l 5 1 (List.map eI_u8 l)]) rfl rfl ?_
 unfold bWriteByte0 at h
 refine wc_sr ?_
 refine wv (r := rv (.nilIface)) (o_assign rfl) ?_
 refine wl_y ?_
 refine wm rfl ?_
 obtain ⟨r1, e3, h2⟩ := obn_e h
 refine wcl (Hr := []) Tryd.call59 (bCopy0_w b_l v_l l r1 e3) rfl (List.Perm.refl _) rfl ?_
 rintro _ _ ⟨v4, rfl, rfl⟩
 refine wl_y ?_
 refine wm rfl ?_
 refine wm rfl ?_
 refine wv (o_nilcheck rfl) ?_
 refine wv (o_fieldAddr Tryd.underlying50 rfl Tryd.sizeOf48 rfl rfl) ?_
 refine wv (o_load (i := 0) Tryd.isAgg48 rfl rfl rfl) ?_
 refine wm rfl ?_
 refine w_buildSlice (ys := ([c] : List Int)) (enc := eI_u8) (css := [[rI .u8 c]]) (xs := [.tmp 12]) Tryd.underlying48 Tryd.sizeOf5 Tryd.zeroValue5 rfl rfl rfl ⟨Cel.one rfl (Up.refl _), trivial⟩ rfl eI_u8_len rfl rfl rfl (fun b5 => ?_)
 obtain ⟨g7, h8⟩ := chk_e h2
 obtain ⟨inf, hinf⟩ := info5
 refine w_append (xs := r1) (ys := ([c] : List Int)) (enc := eI_u8) (i := 2) Tryd.underlying48 hinf.1 hinf.2.1 hinf.2.2.1 hinf.2.2.2 rfl rfl rfl rfl rfl (Src.w (i := 0) rfl rfl) eI_u8_len eI_u8_one g7 rfl (fun v6 => ?_)
 refine wv (o_nilcheck rfl) ?_
 refine wv (o_fieldAddr Tryd.underlying50 rfl Tryd.sizeOf48 rfl rfl) ?_
 refine u_store (i := 2) Tryd.sizeOf48 rfl rfl (one_row (i := 0) rfl) rfl rfl (cs' := [rv (.pointer (some ⟨b_l, 0, none⟩)), rv v6]) rfl (H' := [.row v6 5 1 (List.map eI_u8 (r1 ++ ([c] : List Int))), .row (.slice (some ⟨b5, 0, none⟩) 1 1) 5 1 (List.map eI_u8 ([c] : List Int)), .blk b_l [rv (.pointer (some ⟨b_l, 0, none⟩)), rv v6] 50]) rfl ?_
 refine wl_y ?_
 refine wv (r := rv (.nilIface)) (o_assign rfl) ?_
 refine wl_x ?_
 refine wc_ret ?_
 refine wk_perm (H2 := [.blk b_l [rv (.pointer (some ⟨b_l, 0, none⟩)), rv v6] 50, .row v6 5 1 (List.map eI_u8 (r1 ++ ([c] : List Int))), .row (.slice (some ⟨b5, 0, none⟩) 1 1) 5 1 (List.map eI_u8 ([c] : List Int))]) ((perm_front (i := 2) rfl).trans (List.Perm.cons _ (List.Perm.refl _))) ?_
 obtain rfl := some_e h8
 exact wk_ret (r_1 Tryd.results42 (rv_t rfl)) (sC (sC (sS sN))) ⟨v6, rfl, rfl⟩

theorem bWriteString0_w (b_l : Nat) (v_l : Value) (l : (List Int)) (s : Str) (r : Int × Unit × (List Int)) (h : bWriteString0 l s = some r) : Fn Tryd.prog GE 39 [rv (.pointer (some ⟨b_l, 0, none⟩)), rS s] [.blk b_l [rv (.pointer none), rv v_l] 50, .row v_l 5 1 (List.map eI_u8 l)] (fun R H => ∃ w0 : Value, R = rTup [rI .i64 r.1, rv (.nilIface)] ∧ H = [.blk b_l [rv (.pointer (some ⟨b_l, 0, none⟩)), rv w0] 50, .row w0 5 1 (List.map eI_u8 r.2.2)]) := by
 refine enter (n := 19) Tryd.func39 rfl Tryd.ntmps39 rfl (fun w Z => ?_)
 refine wc_as (l' := [(0, rv (.pointer (some ⟨b_l, 0, none⟩))), (1, rS s)]) (H' := [.blk b_l [rv (.pointer none), rv v_l] 50, .row v_l 5 1 (List.map eI_u8 l)]) rfl rfl ?_
 unfold bWriteString0 at h
 refine wc_sr ?_
 refine wv (r := rI .i64 0) (o_assign rfl) ?_
 refine wv (r := rv (.nilIface)) (o_assign rfl) ?_
 refine wl_y ?_
 refine wm rfl ?_
 obtain ⟨r1, e3, h2⟩ := obn_e h
 refine wcl (Hr := []) Tryd.call59 (bCopy0_w b_l v_l l r1 e3) rfl (List.Perm.refl _) rfl ?_
 rintro _ _ ⟨v4, rfl, rfl⟩
 refine wl_y ?_
 refine wm rfl ?_
 refine wm rfl ?_
 refine wv (o_nilcheck rfl) ?_
 refine wv (o_fieldAddr Tryd.underlying50 rfl Tryd.sizeOf48 rfl rfl) ?_
 refine wv (o_load (i := 0) Tryd.isAgg48 rfl rfl rfl) ?_
 refine wm rfl ?_
 obtain ⟨g6, h7⟩ := chk_e h2
 obtain ⟨inf, hinf⟩ := info5
 refine w_append_str (xs := r1) (i := 1) Tryd.underlying48 Tryd.underlying9 hinf.1 hinf.2.1 hinf.2.2.1 hinf.2.2.2 rfl rfl rfl g6 rfl (fun v5 => ?_)
 refine wv (o_nilcheck rfl) ?_
 refine wv (o_fieldAddr Tryd.underlying50 rfl Tryd.sizeOf48 rfl rfl) ?_
 refine u_store (i := 1) Tryd.sizeOf48 rfl rfl (one_row (i := 0) rfl) rfl rfl (cs' := [rv (.pointer (some ⟨b_l, 0, none⟩)), rv v5]) rfl (H' := [.row v5 5 1 (List.map eI_u8 (r1 ++ toI s)), .blk b_l [rv (.pointer (some ⟨b_l, 0, none⟩)), rv v5] 50]) rfl ?_
 refine wl_y ?_
 refine wm rfl ?_
 refine wv (o_len_s Tryd.underlying9 rfl) ?_
 refine wa rfl ?_
 refine wv (r := rv (.nilIface)) (o_assign rfl) ?_
 refine wl_x ?_
 refine wc_ret ?_
 refine wk_perm (H2 := [.blk b_l [rv (.pointer (some ⟨b_l, 0, none⟩)), rv v5] 50, .row v5 5 1 (List.map eI_u8 (r1 ++ toI s))]) ((perm_front (i := 1) rfl).trans (List.Perm.cons _ (List.Perm.refl _))) ?_
 obtain rfl := some_e h7
 exact wk_ret (r_2 Tryd.results39 (rv_t rfl) (rv_t rfl)) (sC (sC sN)) ⟨v5, rfl, rfl⟩

theorem bString0_w (b_l : Nat) (v_l : Value) (l : Str) (r : Str) (h : bString0 l = some r) : Fn Tryd.prog GE 25 [rv (.pointer (some ⟨b_l, 0, none⟩))] [.blk b_l [rv (.pointer none), rv v_l] 50, .row v_l 5 1 (List.map eI_u8 (toI l))] (fun R H => R = rS r ∧ H = []) := by
 refine enter (n := 14) Tryd.func25 rfl Tryd.ntmps25 rfl (fun w Z => ?_)
 refine wc_as (l' := [(0, rv (.pointer (some ⟨b_l, 0, none⟩)))]) (H' := [.blk b_l [rv (.pointer none), rv v_l] 50, .row v_l 5 1 (List.map eI_u8 (toI l))]) rfl rfl ?_
 unfold bString0 at h
 refine wc_sr ?_
 refine wv (r := rS ([] : Str)) (o_assign rfl) ?_
 refine wl_x ?_
 refine wc_seq ?_
 obtain ⟨g1, h2⟩ := chk_e h
 refine wc_rdk (H1 := [.blk b_l [rv (.pointer none), rv v_l] 50]) [0] [⟨[], rv (.pointer (some ⟨b_l, 0, none⟩)), 0⟩, ⟨[0], rv (.pointer (some ⟨b_l, 0, none⟩)), 0⟩, ⟨[1], rv (.pointer (some ⟨b_l, 1, none⟩)), 0⟩, ⟨[2], rv v_l, 1⟩, ⟨[3], rv (slp v_l), 1⟩, ⟨[], rv (.pointer (some ⟨b_l, 0, none⟩)), 0⟩, ⟨[5], rv (.pointer (some ⟨b_l, 0, none⟩)), 0⟩, ⟨[6], rv (.pointer (some ⟨b_l, 1, none⟩)), 0⟩, ⟨[7], rv v_l, 1⟩, ⟨[8], rI .i64 ((toI l).length : Int), 1⟩, ⟨[4, 9], rS l, 2⟩, ⟨[10], rS l, 0⟩] (rle [(11, _), (2, [.blk b_l [rv (.pointer none), rv v_l] 50])]) [2] ?_ ?_
 ·refine oq (o_move rfl) ?_
  refine oq (o_nilcheck rfl) ?_
  refine oq (o_fieldAddr Tryd.underlying50 rfl Tryd.sizeOf48 rfl rfl) ?_
  refine of (o_load (i := 0) Tryd.isAgg48 rfl rfl rfl) ?_
  refine of (o_sliceData (i := 1) rfl rfl (pos_map g1)) ?_
  refine oq (o_move rfl) ?_
  refine oq (o_nilcheck rfl) ?_
  refine oq (o_fieldAddr Tryd.underlying50 rfl Tryd.sizeOf48 rfl rfl) ?_
  refine of (o_load (i := 0) Tryd.isAgg48 rfl rfl rfl) ?_
  refine of (o_len_wt (ys := toI l) (enc := eI_u8) (i := 1) Tryd.underlying48 rfl rfl) ?_
  refine obl_l rfl (ok_w (V_unsafeString (i := 1) Tryd.underlying74 (by kernel_rfl) rfl rfl rfl (pos_map g1) rfl)) ?_
  refine oq (o_assign rfl) ?_
  exact obl_e
 refine wk_x ?_
 refine wc_ret ?_
 obtain rfl := some_e h2
 exact wk_ret (r_1 Tryd.results25 (rv_t rfl)) (sS sN) ⟨rfl, rfl⟩

theorem bCopy1_w (b_l : Nat) (v_l : Value) (l : (List Int)) (r : (List Int)) (h : bCopy1 l = some r) : Fn Tryd.prog GE 59 [rv (.pointer (some ⟨b_l, 0, none⟩))] [.blk b_l [rv (.pointer (some ⟨b_l, 0, none⟩)), rv v_l] 50, .row v_l 5 1 (List.map eI_u8 l)] (fun R H => ∃ w0 : Value, R = rv (.tuple #[]) ∧ H = [.blk b_l [rv (.pointer (some ⟨b_l, 0, none⟩)), rv w0] 50, .row w0 5 1 (List.map eI_u8 r)]) := by
 refine enter (n := 20) Tryd.func59 rfl Tryd.ntmps59 rfl (fun w Z => ?_)
 refine wc_as (l' := [(0, rv (.pointer (some ⟨b_l, 0, none⟩)))]) (H' := [.blk b_l [rv (.pointer (some ⟨b_l, 0, none⟩)), rv v_l] 50, .row v_l 5 1 (List.map eI_u8 l)]) rfl rfl ?_
 unfold bCopy1 at h
 refine wc_sr ?_
 refine wm rfl ?_
 refine wv (o_nilcheck rfl) ?_
 refine wv (o_fieldAddr Tryd.underlying50 rfl Tryd.sizeOf47 rfl rfl) ?_
 refine wv (o_load (i := 0) Tryd.isAgg47 rfl rfl rfl) ?_
 refine wv (r := rB false) (o_pnil ⟨_, Tryd.underlying47⟩ rfl) ?_
 refine wl_x ?_
 refine wc_cond_f rfl rfl ?_
 refine wc_sr ?_
 refine wm rfl ?_
 refine wv (o_nilcheck rfl) ?_
 refine wv (o_fieldAddr Tryd.underlying50 rfl Tryd.sizeOf47 rfl rfl) ?_
 refine wv (o_load (i := 0) Tryd.isAgg47 rfl rfl rfl) ?_
 refine wm rfl ?_
 refine wv (r := rB false) (o_psame_ne Tryd.underlying47 infoE50 rfl rfl) ?_
 refine wl_x ?_
 refine wc_cond_f rfl rfl ?_
 refine wc_skip ?_
 obtain rfl := some_e h
 exact wk_end (r_0 Tryd.results59) (sC (sC sN)) ⟨v_l, rfl, rfl⟩

theorem bWriteByte1_w (b_l : Nat) (v_l : Value) (l : (List Int)) (c : Int) (r : Unit × (List Int)) (h : bWriteByte1 l c = some r) : Fn Tryd.prog GE 42 [rv (.pointer (some ⟨b_l, 0, none⟩)), rI .u8 c] [.blk b_l [rv (.pointer (some ⟨b_l, 0, none⟩)), rv v_l] 50, .row v_l 5 1 (List.map eI_u8 l)] (fun R H => ∃ w0 : Value, R = rv (.nilIface) ∧ H = [.blk b_l [rv (.pointer (some ⟨b_l, 0, none⟩)), rv w0] 50, .row w0 5 1 (List.map eI_u8 r.2)]) := by
 refine enter (n := 17) Tryd.func42 rfl Tryd.ntmps42 rfl (fun w Z => ?_)
 refine wc_as (l' := [(0, rv (.pointer (some ⟨b_l, 0, none⟩))), (1, rI .u8 c)]) (H' := [.blk b_l [rv (.pointer (some ⟨b_l, 0, none⟩)), rv v_l] 50, .row v_l 5 1 (List.map eI_u8 l)]) rfl rfl ?_
 unfold bWriteByte1 at h
 refine wc_sr ?_
 refine wv (r := rv (.nilIface)) (o_assign rfl) ?_
 refine wl_y ?_
 refine wm rfl ?_
 obtain ⟨r1, e3, h2⟩ := obn_e h
 refine wcl (Hr := []) Tryd.call59 (bCopy1_w b_l v_l l r1 e3) rfl (List.Perm.refl _) rfl ?_
 rintro _ _ ⟨v4, rfl, rfl⟩
 refine wl_y ?_
 refine wm rfl ?_
 refine wm rfl ?_
 refine wv (o_nilcheck rfl) ?_
 refine wv (o_fieldAddr Tryd.underlying50 rfl Tryd.sizeOf48 rfl rfl) ?_
 refine wv (o_load (i := 0) Tryd.isAgg48 rfl rfl rfl) ?_
 refine wm rfl ?_
 refine w_buildSlice (ys := ([c] : List Int)) (enc := eI_u8) (css := [[rI .u8 c]]) (xs := [.tmp 12]) Tryd.underlying48 Tryd.sizeOf5 Tryd.zeroValue5 rfl rfl rfl ⟨Cel.one rfl (Up.refl _), trivial⟩ rfl eI_u8_len rfl rfl rfl (fun b5 => ?_)
 obtain ⟨g7, h8⟩ := chk_e h2
 obtain ⟨inf, hinf⟩ := info5
 refine w_append (xs := r1) (ys := ([c] : List Int)) (enc := eI_u8) (i := 2) Tryd.underlying48 hinf.1 hinf.2.1 hinf.2.2.1 hinf.2.2.2 rfl rfl rfl rfl rfl (Src.w (i := 0) rfl rfl) eI_u8_len eI_u8_one g7 rfl (fun v6 => ?_)
 refine wv (o_nilcheck rfl) ?_
 refine wv (o_fieldAddr Tryd.underlying50 rfl Tryd.sizeOf48 rfl rfl) ?_
 refine u_store (i := 2) Tryd.sizeOf48 rfl rfl (one_row (i := 0) rfl) rfl rfl (cs' := [rv (.pointer (some ⟨b_l, 0, none⟩)), rv v6]) rfl (H' := [.row v6 5 1 (List.map eI_u8 (r1 ++ ([c] : List Int))), .row (.slice (some ⟨b5, 0, none⟩) 1 1) 5 1 (List.map eI_u8 ([c] : List Int)), .blk b_l [rv (.pointer (some ⟨b_l, 0, none⟩)), rv v6] 50]) rfl ?_
 refine wl_y ?_
 refine wv (r := rv (.nilIface)) (o_assign rfl) ?_
 refine wl_x ?_
 refine wc_ret ?_
 refine wk_perm (H2 := [.blk b_l [rv (.pointer (some ⟨b_l, 0, none⟩)), rv v6] 50, .row v6 5 1 (List.map eI_u8 (r1 ++ ([c] : List Int))), .row (.slice (some ⟨b5, 0, none⟩) 1 1) 5 1 (List.map eI_u8 ([c] : List Int))]) ((perm_front (i := 2) rfl).trans (List.Perm.cons _ (List.Perm.refl _))) ?_
 obtain rfl := some_e h8
 exact wk_ret (r_1 Tryd.results42 (rv_t rfl)) (sC (sC (sS sN))) ⟨v6, rfl, rfl⟩

theorem bWriteString1_w (b_l : Nat) (v_l : Value) (l : (List Int)) (s : Str) (r : Int × Unit × (List Int)) (h : bWriteString1 l s = some r) : Fn Tryd.prog GE 39 [rv (.pointer (some ⟨b_l, 0, none⟩)), rS s] [.blk b_l [rv (.pointer (some ⟨b_l, 0, none⟩)), rv v_l] 50, .row v_l 5 1 (List.map eI_u8 l)] (fun R H => ∃ w0 : Value, R = rTup [rI .i64 r.1, rv (.nilIface)] ∧ H = [.blk b_l [rv (.pointer (some ⟨b_l, 0, none⟩)), rv w0] 50, .row w0 5 1 (List.map eI_u8 r.2.2)]) := by
 refine enter (n := 19) Tryd.func39 rfl Tryd.ntmps39 rfl (fun w Z => ?_)
 refine wc_as (l' := [(0, rv (.pointer (some ⟨b_l, 0, none⟩))), (1, rS s)]) (H' := [.blk b_l [rv (.pointer (some ⟨b_l, 0, none⟩)), rv v_l] 50, .row v_l 5 1 (List.map eI_u8 l)]) rfl rfl ?_
 unfold bWriteString1 at h
 refine wc_sr ?_
 refine wv (r := rI .i64 0) (o_assign rfl) ?_
 refine wv (r := rv (.nilIface)) (o_assign rfl) ?_
 refine wl_y ?_
 refine wm rfl ?_
 obtain ⟨r1, e3, h2⟩ := obn_e h
 refine wcl (Hr := []) Tryd.call59 (bCopy1_w b_l v_l l r1 e3) rfl (List.Perm.refl _) rfl ?_
 rintro _ _ ⟨v4, rfl, rfl⟩
 refine wl_y ?_
 refine wm rfl ?_
 refine wm rfl ?_
 refine wv (o_nilcheck rfl) ?_
 refine wv (o_fieldAddr Tryd.underlying50 rfl Tryd.sizeOf48 rfl rfl) ?_
 refine wv (o_load (i := 0) Tryd.isAgg48 rfl rfl rfl) ?_
 refine wm rfl ?_
 obtain ⟨g6, h7⟩ := chk_e h2
 obtain ⟨inf, hinf⟩ := info5
 refine w_append_str (xs := r1) (i := 1) Tryd.underlying48 Tryd.underlying9 hinf.1 hinf.2.1 hinf.2.2.1 hinf.2.2.2 rfl rfl rfl g6 rfl (fun v5 => ?_)
 refine wv (o_nilcheck rfl) ?_
 refine wv (o_fieldAddr Tryd.underlying50 rfl Tryd.sizeOf48 rfl rfl) ?_
 refine u_store (i := 1) Tryd.sizeOf48 rfl rfl (one_row (i := 0) rfl) rfl rfl (cs' := [rv (.pointer (some ⟨b_l, 0, none⟩)), rv v5]) rfl (H' := [.row v5 5 1 (List.map eI_u8 (r1 ++ toI s)), .blk b_l [rv (.pointer (some ⟨b_l, 0, none⟩)), rv v5] 50]) rfl ?_
 refine wl_y ?_
 refine wm rfl ?_
 refine wv (o_len_s Tryd.underlying9 rfl) ?_
 refine wa rfl ?_
 refine wv (r := rv (.nilIface)) (o_assign rfl) ?_
 refine wl_x ?_
 refine wc_ret ?_
 refine wk_perm (H2 := [.blk b_l [rv (.pointer (some ⟨b_l, 0, none⟩)), rv v5] 50, .row v5 5 1 (List.map eI_u8 (r1 ++ toI s))]) ((perm_front (i := 1) rfl).trans (List.Perm.cons _ (List.Perm.refl _))) ?_
 obtain rfl := some_e h7
 exact wk_ret (r_2 Tryd.results39 (rv_t rfl) (rv_t rfl)) (sC (sC sN)) ⟨v5, rfl, rfl⟩

theorem bString1_w (b_l : Nat) (v_l : Value) (l : Str) (r : Str) (h : bString1 l = some r) : Fn Tryd.prog GE 25 [rv (.pointer (some ⟨b_l, 0, none⟩))] [.blk b_l [rv (.pointer (some ⟨b_l, 0, none⟩)), rv v_l] 50, .row v_l 5 1 (List.map eI_u8 (toI l))] (fun R H => R = rS r ∧ H = []) := by
 refine enter (n := 14) Tryd.func25 rfl Tryd.ntmps25 rfl (fun w Z => ?_)
 refine wc_as (l' := [(0, rv (.pointer (some ⟨b_l, 0, none⟩)))]) (H' := [.blk b_l [rv (.pointer (some ⟨b_l, 0, none⟩)), rv v_l] 50, .row v_l 5 1 (List.map eI_u8 (toI l))]) rfl rfl ?_
 unfold bString1 at h
 refine wc_sr ?_
 refine wv (r := rS ([] : Str)) (o_assign rfl) ?_
 refine wl_x ?_
 refine wc_seq ?_
 obtain ⟨g1, h2⟩ := chk_e h
 refine wc_rdk (H1 := [.blk b_l [rv (.pointer (some ⟨b_l, 0, none⟩)), rv v_l] 50]) [0] [⟨[], rv (.pointer (some ⟨b_l, 0, none⟩)), 0⟩, ⟨[0], rv (.pointer (some ⟨b_l, 0, none⟩)), 0⟩, ⟨[1], rv (.pointer (some ⟨b_l, 1, none⟩)), 0⟩, ⟨[2], rv v_l, 1⟩, ⟨[3], rv (slp v_l), 1⟩, ⟨[], rv (.pointer (some ⟨b_l, 0, none⟩)), 0⟩, ⟨[5], rv (.pointer (some ⟨b_l, 0, none⟩)), 0⟩, ⟨[6], rv (.pointer (some ⟨b_l, 1, none⟩)), 0⟩, ⟨[7], rv v_l, 1⟩, ⟨[8], rI .i64 ((toI l).length : Int), 1⟩, ⟨[4, 9], rS l, 2⟩, ⟨[10], rS l, 0⟩] (rle [(11, _), (2, [.blk b_l [rv (.pointer (some ⟨b_l, 0, none⟩)), rv v_l] 50])]) [2] ?_ ?_
 ·refine oq (o_move rfl) ?_
  refine oq (o_nilcheck rfl) ?_
  refine oq (o_fieldAddr Tryd.underlying50 rfl Tryd.sizeOf48 rfl rfl) ?_
  refine of (o_load (i := 0) Tryd.isAgg48 rfl rfl rfl) ?_
  refine of (o_sliceData (i := 1) rfl rfl (pos_map g1)) ?_
  refine oq (o_move rfl) ?_
  refine oq (o_nilcheck rfl) ?_
  refine oq (o_fieldAddr Tryd.underlying50 rfl Tryd.sizeOf48 rfl rfl) ?_
  refine of (o_load (i := 0) Tryd.isAgg48 rfl rfl rfl) ?_
  refine of (o_len_wt (ys := toI l) (enc := eI_u8) (i := 1) Tryd.underlying48 rfl rfl) ?_
  refine obl_l rfl (ok_w (V_unsafeString (i := 1) Tryd.underlying74 (by kernel_rfl) rfl rfl rfl (pos_map g1) rfl)) ?_
  refine oq (o_assign rfl) ?_
  exact obl_e
 refine wk_x ?_
 refine wc_ret ?_
 obtain rfl := some_e h2
 exact wk_ret (r_1 Tryd.results25 (rv_t rfl)) (sS sN) ⟨rfl, rfl⟩

theorem writeByte_q (b : Nat) (v : Value) (l : Str) (c : Int) (g1 : inA 1 (l.length + 1) = true) (g2 : inK .u8 c = true) : Fn Tryd.prog GE 42 [rv (.pointer (some ⟨b, 0, none⟩)), rI .u8 c] [.bld 50 5 b v l] (fun R H => ∃ w0 : Value, R = rv .nilIface ∧ H = [.bld 50 5 b w0 (l ++ [UInt8.ofNat c.toNat])]) := by
  have hc : toI (l ++ [UInt8.ofNat c.toNat]) = toI l ++ [c] := by
    have := (by simpa [inK, IntKind.min, IntKind.max, IntKind.signed, IntKind.bits] using g2 : 0 ≤ c ∧ c ≤ 255)
    simp only [toI, List.map_append, List.map_cons, List.map_nil]
    congr 2
    simp; omega
  refine Fn.bld (res := rv .nilIface) fun p hp => ?_
  rw [hc]
  rcases hp with rfl | rfl
  · refine (bWriteByte0_w b v (toI l) c (((), toI l ++ [c])) ?_).sub (RleAll.refl _) (fun r H h => by obtain ⟨w0, h1, h2⟩ := h; exact ⟨w0, h1, h2⟩)
    simp only [bWriteByte0, bCopy0, obn, toI_len]
    simp [chk, g1]
  · refine (bWriteByte1_w b v (toI l) c (((), toI l ++ [c])) ?_).sub (RleAll.refl _) (fun r H h => by obtain ⟨w0, h1, h2⟩ := h; exact ⟨w0, h1, h2⟩)
    simp only [bWriteByte1, bCopy1, obn, toI_len]
    simp [chk, g1]
theorem writeString_q (b : Nat) (v : Value) (l s : Str) (g1 : inA 1 (l.length + s.length) = true) : Fn Tryd.prog GE 39 [rv (.pointer (some ⟨b, 0, none⟩)), rS s] [.bld 50 5 b v l] (fun R H => ∃ w0 : Value, R = rTup [rI .i64 (s.length : Int), rv .nilIface] ∧ H = [.bld 50 5 b w0 (l ++ s)]) := by
  have hc : toI (l ++ s) = toI l ++ toI s := by simp [toI]
  refine Fn.bld (res := rTup [rI .i64 (s.length : Int), rv .nilIface]) fun p hp => ?_
  rw [hc]
  rcases hp with rfl | rfl
  · refine (bWriteString0_w b v (toI l) s (((s.length : Int), (), toI l ++ toI s)) ?_).sub (RleAll.refl _) (fun r H h => by obtain ⟨w0, h1, h2⟩ := h; exact ⟨w0, h1, h2⟩)
    simp only [bWriteString0, bCopy0, obn, toI_len]
    simp [chk, g1]
  · refine (bWriteString1_w b v (toI l) s (((s.length : Int), (), toI l ++ toI s)) ?_).sub (RleAll.refl _) (fun r H h => by obtain ⟨w0, h1, h2⟩ := h; exact ⟨w0, h1, h2⟩)
    simp only [bWriteString1, bCopy1, obn, toI_len]
    simp [chk, g1]
theorem bstring_q (b : Nat) (v : Value) (l : Str) (g1 : decide (0 < l.length) = true) : Fn Tryd.prog GE 25 [rv (.pointer (some ⟨b, 0, none⟩))] [.bld 50 5 b v l] (fun R H => R = rS l ∧ H = []) := by
  refine Fn.bldS (res := rS l) fun p hp => ?_
  rcases hp with rfl | rfl
  · exact bString0_w b v l l (by simp only [bString0, toI_len]; simp [chk, g1])
  · exact bString1_w b v l l (by simp only [bString1, toI_len]; simp [chk, g1])

end Go.Proofs.YtkalifgebccpcaaDoor.Q

/-
 What functions compute, with checks: plain definitions, printed by a small program of ours (gq.py). No program in sight.
-/
namespace Go.Proofs.YtkalifgebccpcaaDoor
open Go
set_option linter.unusedVariables false
structure TApiCell where
 fKind : Int
 fInt : Int
 fStr : Str
 fN : Int
 deriving DecidableEq, Inhabited
def rPlain_b1 (s : Str) (x22 : Int) : Option (Stp (Int) (Out (Bool) (Unit))) :=
 cnd (decide (x22 < (s.length : Int))) (chk (inR x22 (s.length : Int)) <| cnd (((decide ((bat s x22) < 32)) || (decide (126 < (bat s x22))))) (some (.out (.ret false))) (chk (inK .i64 (x22 + 1)) <| some (.next (x22 + 1)))) (some (.out (.go ())))

def rPlain_k1  : Option (Bool) :=
 some true

def rPlain (F : Nat) (s : Str) : Option (Bool) :=
 obn (lop (fun σ => rPlain_b1 s σ) F 0) (oute fun ν => rPlain_k1 )

def rAfter (ok : Bool) (i : Int) : Option (Int) :=
 cnd (ok) (chk (inK .i64 (i + 1)) <| some (i + 1)) (some (-1))

def rKey (F : Nat) (c : TApiCell) : Option (Bool) :=
 chk (imp (decide (c.fKind = 4)) (imp (decide (c.fInt = 0)) (imp (decide (c.fN = 0)) ((rPlain F c.fStr).isSome)))) <| some ((decide (c.fKind = 4)) && ((decide (c.fInt = 0)) && ((decide (c.fN = 0)) && (ov (rPlain F c.fStr)))))

def rNextm (F : Nat) (rec_rElements : (List TApiCell) → Int → Int → Option (Int)) (rec_rPairs : (List TApiCell) → Int → Int → Option (Int)) (v : (List TApiCell)) (i : Int) : Option (Int) :=
 cnd (((decide (i < 0)) || (decide ((v.length : Int) ≤ i)))) (some (-1)) (chk (inR i (v.length : Int)) <| cnd (decide (((at' v i).fKind) = 1)) (chk (imp (decide (((at' v i).fInt) = 0)) (imp (decide (((at' v i).fStr) = ([] : Str))) ((rAfter (decide (((at' v i).fN) = 0)) i).isSome))) <| chk (imp (decide (((at' v i).fInt) = 0)) (imp (!(decide (((at' v i).fStr) = ([] : Str)))) ((rAfter false i).isSome))) <| chk (imp (!(decide (((at' v i).fInt) = 0))) ((rAfter false i).isSome)) <| some (bif decide (((at' v i).fInt) = 0) then (bif decide (((at' v i).fStr) = ([] : Str)) then (ov (rAfter (decide (((at' v i).fN) = 0)) i)) else (ov (rAfter false i))) else (ov (rAfter false i)))) (cnd (decide (((at' v i).fKind) = 2)) (chk (imp (decide (((at' v i).fInt) = 0)) (imp (decide (((at' v i).fStr) = ([] : Str))) ((rAfter (decide (((at' v i).fN) = 0)) i).isSome))) <| chk (imp (decide (((at' v i).fInt) = 0)) (imp (!(decide (((at' v i).fStr) = ([] : Str)))) ((rAfter false i).isSome))) <| chk (imp (!(decide (((at' v i).fInt) = 0))) (imp (decide (((at' v i).fInt) = 1)) (imp (decide (((at' v i).fStr) = ([] : Str))) ((rAfter (decide (((at' v i).fN) = 0)) i).isSome)))) <| chk (imp (!(decide (((at' v i).fInt) = 0))) (imp (decide (((at' v i).fInt) = 1)) (imp (!(decide (((at' v i).fStr) = ([] : Str)))) ((rAfter false i).isSome)))) <| chk (imp (!(decide (((at' v i).fInt) = 0))) (imp (!(decide (((at' v i).fInt) = 1))) ((rAfter false i).isSome))) <| some (bif decide (((at' v i).fInt) = 0) then (bif decide (((at' v i).fStr) = ([] : Str)) then (ov (rAfter (decide (((at' v i).fN) = 0)) i)) else (ov (rAfter false i))) else (bif decide (((at' v i).fInt) = 1) then (bif decide (((at' v i).fStr) = ([] : Str)) then (ov (rAfter (decide (((at' v i).fN) = 0)) i)) else (ov (rAfter false i))) else (ov (rAfter false i))))) (cnd (decide (((at' v i).fKind) = 3)) (chk (imp (decide (((at' v i).fStr) = ([] : Str))) ((rAfter (decide (((at' v i).fN) = 0)) i).isSome)) <| chk (imp (!(decide (((at' v i).fStr) = ([] : Str)))) ((rAfter false i).isSome)) <| some (bif decide (((at' v i).fStr) = ([] : Str)) then (ov (rAfter (decide (((at' v i).fN) = 0)) i)) else (ov (rAfter false i)))) (cnd (decide (((at' v i).fKind) = 4)) (obn (rKey F (at' v i)) fun r46 => obn (rAfter r46 i) fun r49 => some r49) (cnd (((decide (((at' v i).fKind) = 5)) && ((decide (((at' v i).fInt) = 0)) && ((decide (((at' v i).fStr) = ([] : Str))) && (decide (0 ≤ ((at' v i).fN))))))) (chk (inK .i64 (i + 1)) <| obn (rec_rElements v (i + 1) ((at' v i).fN)) fun r60 => some r60) (cnd (((decide (((at' v i).fKind) = 6)) && ((decide (((at' v i).fInt) = 0)) && ((decide (((at' v i).fStr) = ([] : Str))) && (decide (0 ≤ ((at' v i).fN))))))) (chk (inK .i64 (i + 1)) <| obn (rec_rPairs v (i + 1) ((at' v i).fN)) fun r71 => some r71) (some (-1))))))))

def rElements_b1 (v : (List TApiCell)) (n : Int) (rec_rNext : (List TApiCell) → Int → Option (Int)) (x23 : Int) (x24 : Int) : Option (Stp (Int × Int) (Out (Int) (Int))) :=
 cnd (decide (x24 < n)) (obn (rec_rNext v x23) fun r48 => cnd (decide (r48 < 0)) (some (.out (.ret (-1)))) (chk (inK .i64 (x24 + 1)) <| some (.next (r48, x24 + 1)))) (some (.out (.go x23)))

def rElements_k1 (x36 : Int) : Option (Int) :=
 some x36

def rElementsm (F : Nat) (rec_rNext : (List TApiCell) → Int → Option (Int)) (v : (List TApiCell)) (i : Int) (n : Int) : Option (Int) :=
 obn (lop (fun σ => rElements_b1 v n rec_rNext σ.1 σ.2) F (i, 0)) (oute fun ν => rElements_k1 ν)

def rPairs_b1 (F : Nat) (v : (List TApiCell)) (n : Int) (rec_rNext : (List TApiCell) → Int → Option (Int)) (x51 : Int) (x52 : Str) (x53 : Int) : Option (Stp (Int × Str × Int) (Out (Int) (Int))) :=
 cnd (decide (x53 < n)) (chk (imp (!(decide ((v.length : Int) ≤ x51))) (inR x51 (v.length : Int))) <| chk (imp (!(decide ((v.length : Int) ≤ x51))) ((rKey F (at' v x51)).isSome)) <| cnd (((decide ((v.length : Int) ≤ x51)) || ((!(ov (rKey F (at' v x51)))) || ((decide (0 < x53)) && (sLess ((at' v x51).fStr) x52 || decide (((at' v x51).fStr) = x52)))))) (some (.out (.ret (-1)))) (chk (inR x51 (v.length : Int)) <| chk (inK .i64 (x51 + 1)) <| obn (rec_rNext v (x51 + 1)) fun r106 => cnd (decide (r106 < 0)) (some (.out (.ret (-1)))) (chk (inK .i64 (x53 + 1)) <| some (.next (r106, (at' v x51).fStr, x53 + 1))))) (some (.out (.go x51)))

def rPairs_k1 (x79 : Int) : Option (Int) :=
 some x79

def rPairsm (F : Nat) (rec_rNext : (List TApiCell) → Int → Option (Int)) (v : (List TApiCell)) (i : Int) (n : Int) : Option (Int) :=
 obn (lop (fun σ => rPairs_b1 F v n rec_rNext σ.1 σ.2.1 σ.2.2) F (i, ([] : Str), 0)) (oute fun ν => rPairs_k1 ν)

mutual
def rNext : Nat → (List TApiCell) → Int → Option (Int)
 | 0, _, _ => none
 | nn + 1, v, i => rNextm nn (rElements nn) (rPairs nn) v i

def rElements : Nat → (List TApiCell) → Int → Int → Option (Int)
 | 0, _, _, _ => none
 | nn + 1, v, i, n => rElementsm nn (rNext nn) v i n

def rPairs : Nat → (List TApiCell) → Int → Int → Option (Int)
 | 0, _, _, _ => none
 | nn + 1, v, i, n => rPairsm nn (rNext nn) v i n

end
end Go.Proofs.YtkalifgebccpcaaDoor

/-
  Walks, printed by a small program of ours (gq.py).
-/
namespace Go.Proofs.YtkalifgebccpcaaDoor.Q
open Go Go.RowKit
set_option linter.unusedVariables false
set_option linter.unusedSimpArgs false
set_option maxRecDepth 100000
set_option maxHeartbeats 4000000
@[reducible] def eTApiCell (x : TApiCell) : List Rp := [rI .i64 x.fKind, rI .i64 x.fInt, rS x.fStr, rI .i64 x.fN]
theorem eTApiCell_len (x : TApiCell) : (eTApiCell x).length = 4 := rfl
theorem eTApiCell_one (x : TApiCell) : (eTApiCell x).all (·.one) = true := rfl
end Go.Proofs.YtkalifgebccpcaaDoor.Q

/-
 What functions compute, with checks: plain definitions, printed by a small program of ours (gq.py). No program in sight.
-/
namespace Go.Proofs.YtkalifgebccpcaaDoor
open Go
set_option linter.unusedVariables false
structure TValueOpen where
 fPairs : Bool
 fLeft : Int
 fKey : Bool
 fLast : Str
 fStarted : Bool
 deriving DecidableEq, Inhabited
structure TValueShape where
 fDepth : Int
 fBytes : Int
 fOutside : Bool
 fLong : Bool
 deriving DecidableEq, Inhabited
def nValid (n : Int) : Option (Bool) :=
 some ((decide ((-1000000000000) ≤ n)) && (decide (n ≤ 1000000000000)))

def vText_b1 (s : Str) (x22 : Int) : Option (Stp (Int) (Out (Bool) (Unit))) :=
 cnd (decide (x22 < (s.length : Int))) (chk (inR x22 (s.length : Int)) <| cnd (((decide ((bat s x22) < 32)) || (decide (126 < (bat s x22))))) (some (.out (.ret false))) (chk (inK .i64 (x22 + 1)) <| some (.next (x22 + 1)))) (some (.out (.go ())))

def vText_k1  : Option (Bool) :=
 some true

def vText (F : Nat) (s : Str) : Option (Bool) :=
 obn (lop (fun σ => vText_b1 s σ) F 0) (oute fun ν => vText_k1 )

def vQuoted (s : Str) : Option (Int) :=
 chk (inK .i64 ((s.length : Int) + 2)) <| chk (inK .i64 (((s.length : Int) + 2) + (Lib.countByte s 34 : Int))) <| chk (inK .i64 ((((s.length : Int) + 2) + (Lib.countByte s 34 : Int)) + (Lib.countByte s 92 : Int))) <| some ((((s.length : Int) + 2) + (Lib.countByte s 34 : Int)) + (Lib.countByte s 92 : Int))

def vPlain (F : Nat) (c : TApiCell) : Option (Bool) :=
 cnd (decide (c.fKind = 1)) (some ((decide (c.fInt = 0)) && ((decide (c.fStr = ([] : Str))) && (decide (c.fN = 0))))) (cnd (decide (c.fKind = 2)) (some (bif decide (c.fInt = 0) then ((decide (c.fStr = ([] : Str))) && (decide (c.fN = 0))) else ((decide (c.fInt = 1)) && ((decide (c.fStr = ([] : Str))) && (decide (c.fN = 0)))))) (cnd (decide (c.fKind = 3)) (some ((decide (c.fStr = ([] : Str))) && (decide (c.fN = 0)))) (cnd (decide (c.fKind = 4)) (chk (imp (decide (c.fInt = 0)) (imp (decide (c.fN = 0)) ((vText F c.fStr).isSome))) <| some ((decide (c.fInt = 0)) && ((decide (c.fN = 0)) && (ov (vText F c.fStr))))) (cnd (decide (c.fKind = 5)) (some ((decide (c.fInt = 0)) && ((decide (c.fStr = ([] : Str))) && (decide (0 ≤ c.fN))))) (cnd (decide (c.fKind = 6)) (some ((decide (c.fInt = 0)) && ((decide (c.fStr = ([] : Str))) && (decide (0 ≤ c.fN))))) (some false))))))

def vSize (c : TApiCell) : Option (Int) :=
 cnd (decide (c.fKind = 1)) (some 4) (cnd (decide (c.fKind = 2)) (some (IntKind.wrap .i64 (5 - c.fInt))) (cnd (decide (c.fKind = 3)) (chk (inK .i64 c.fInt) <| some ((Lib.itoa c.fInt).length : Int)) (cnd (decide (c.fKind = 4)) (obn (vQuoted c.fStr) fun r15 => some r15) (some (IntKind.wrap .i64 (2 + (max 0 (IntKind.wrap .i64 (c.fN - 1)))))))))

def vClosed_b1 (x159 : (List TValueOpen)) : Option (Stp ((List TValueOpen)) (Out ((List TValueOpen)) ((List TValueOpen)))) :=
 cnd (decide (0 < (x159.length : Int))) (chk (inK .i64 ((x159.length : Int) - 1)) <| chk (inR ((x159.length : Int) - 1) (x159.length : Int)) <| chk (inK .i64 (((at' x159 ((x159.length : Int) - 1)).fLeft) - 1)) <| bnd (List.set x159 (Int.toNat ((x159.length : Int) - 1)) (TValueOpen.mk ((at' x159 ((x159.length : Int) - 1)).fPairs) (((at' x159 ((x159.length : Int) - 1)).fLeft) - 1) ((at' x159 ((x159.length : Int) - 1)).fKey) ((at' x159 ((x159.length : Int) - 1)).fLast) ((at' x159 ((x159.length : Int) - 1)).fStarted))) fun r203 => cnd (decide (0 < ((at' r203 ((x159.length : Int) - 1)).fLeft))) (bnd (List.set r203 (Int.toNat ((x159.length : Int) - 1)) (TValueOpen.mk ((at' r203 ((x159.length : Int) - 1)).fPairs) ((at' r203 ((x159.length : Int) - 1)).fLeft) ((at' r203 ((x159.length : Int) - 1)).fPairs) ((at' r203 ((x159.length : Int) - 1)).fLast) ((at' r203 ((x159.length : Int) - 1)).fStarted))) fun r208 => some (.out (.ret r208))) (chk (inK .i64 ((r203.length : Int) - 1)) <| chk (inC ((r203.length : Int) - 1) (r203.length : Int)) <| some (.next (List.take (Int.toNat ((r203.length : Int) - 1)) r203)))) (some (.out (.go x159)))

def vClosed_k1 (x184 : (List TValueOpen)) : Option ((List TValueOpen)) :=
 some x184

def vClosed (F : Nat) (stack : (List TValueOpen)) : Option ((List TValueOpen)) :=
 obn (lop (fun σ => vClosed_b1 σ) F stack) (oute fun ν => vClosed_k1 ν)

def vLook_j2 (x235 : Int) (x468 : (List TValueOpen)) (x470 : TValueShape) : Option (Stp ((List TValueOpen) × Int × TValueShape) (Out (Int × TValueShape × Bool) (TValueShape))) :=
 chk (inK .i64 (x235 + 1)) <| some (.next (x468, x235 + 1, x470))

def vLook_b1 (F : Nat) (v : (List TApiCell)) (x233 : (List TValueOpen)) (x235 : Int) (x236 : TValueShape) : Option (Stp ((List TValueOpen) × Int × TValueShape) (Out (Int × TValueShape × Bool) (TValueShape))) :=
 cnd (decide (x235 < (v.length : Int))) (chk (inR x235 (v.length : Int)) <| obn (vPlain F (at' v x235)) fun r474 => cnd (!r474) (some (.out (.ret (0, x236, false)))) (chk (imp (decide (0 < (x233.length : Int))) (inK .i64 ((x233.length : Int) - 1))) <| chk (imp (decide (0 < (x233.length : Int))) (inR ((x233.length : Int) - 1) (x233.length : Int))) <| cnd (((decide (0 < (x233.length : Int))) && ((at' x233 ((x233.length : Int) - 1)).fKey))) (chk (inK .i64 ((x233.length : Int) - 1)) <| chk (inR ((x233.length : Int) - 1) (x233.length : Int)) <| cnd (((!decide (((at' v x235).fKind) = 4)) || (((at' x233 ((x233.length : Int) - 1)).fStarted) && (sLess ((at' v x235).fStr) ((at' x233 ((x233.length : Int) - 1)).fLast) || decide (((at' v x235).fStr) = ((at' x233 ((x233.length : Int) - 1)).fLast)))))) (some (.out (.ret (0, x236, false)))) (bnd (List.set x233 (Int.toNat ((x233.length : Int) - 1)) (TValueOpen.mk ((at' x233 ((x233.length : Int) - 1)).fPairs) ((at' x233 ((x233.length : Int) - 1)).fLeft) ((at' x233 ((x233.length : Int) - 1)).fKey) ((at' v x235).fStr) ((at' x233 ((x233.length : Int) - 1)).fStarted))) fun r498 => bnd (List.set r498 (Int.toNat ((x233.length : Int) - 1)) (TValueOpen.mk ((at' r498 ((x233.length : Int) - 1)).fPairs) ((at' r498 ((x233.length : Int) - 1)).fLeft) ((at' r498 ((x233.length : Int) - 1)).fKey) ((at' r498 ((x233.length : Int) - 1)).fLast) true)) fun r501 => bnd (List.set r501 (Int.toNat ((x233.length : Int) - 1)) (TValueOpen.mk ((at' r501 ((x233.length : Int) - 1)).fPairs) ((at' r501 ((x233.length : Int) - 1)).fLeft) false ((at' r501 ((x233.length : Int) - 1)).fLast) ((at' r501 ((x233.length : Int) - 1)).fStarted))) fun r504 => obn (vQuoted ((at' v x235).fStr)) fun r507 => chk (inK .i64 (r507 + 1)) <| vLook_j2 x235 r504 (TValueShape.mk x236.fDepth (IntKind.wrap .i64 (x236.fBytes + (r507 + 1))) x236.fOutside (x236.fLong || (decide (200 < (((at' v x235).fStr).length : Int))))))) (chk (inK .i64 ((x233.length : Int) + 1)) <| obn (vSize (at' v x235)) fun r516 => chk (imp (!x236.fOutside) (imp (decide (((at' v x235).fKind) = 3)) ((nValid ((at' v x235).fInt)).isSome))) <| cnd (decide (0 < ((at' v x235).fN))) (cnd (decide ((v.length : Int) < ((at' v x235).fN))) (some (.out (.ret (0, (TValueShape.mk (max x236.fDepth ((x233.length : Int) + 1)) (IntKind.wrap .i64 (x236.fBytes + r516)) (x236.fOutside || ((decide (((at' v x235).fKind) = 3)) && (!(ov (nValid ((at' v x235).fInt)))))) (x236.fLong || (decide (200 < (((at' v x235).fStr).length : Int))))), false)))) (chk (inA 48 (x233.length + ([(TValueOpen.mk (decide (((at' v x235).fKind) = 6)) ((at' v x235).fN) (decide (((at' v x235).fKind) = 6)) ([] : Str) false)] : List TValueOpen).length)) <| vLook_j2 x235 (x233 ++ ([(TValueOpen.mk (decide (((at' v x235).fKind) = 6)) ((at' v x235).fN) (decide (((at' v x235).fKind) = 6)) ([] : Str) false)] : List TValueOpen)) (TValueShape.mk (max x236.fDepth ((x233.length : Int) + 1)) (IntKind.wrap .i64 (x236.fBytes + r516)) (x236.fOutside || ((decide (((at' v x235).fKind) = 3)) && (!(ov (nValid ((at' v x235).fInt)))))) (x236.fLong || (decide (200 < (((at' v x235).fStr).length : Int))))))) (obn (vClosed F x233) fun r535 => cnd (decide ((r535.length : Int) = 0)) (chk (inK .i64 (x235 + 1)) <| some (.out (.ret (x235 + 1, (TValueShape.mk (max x236.fDepth ((x233.length : Int) + 1)) (IntKind.wrap .i64 (x236.fBytes + r516)) (x236.fOutside || ((decide (((at' v x235).fKind) = 3)) && (!(ov (nValid ((at' v x235).fInt)))))) (x236.fLong || (decide (200 < (((at' v x235).fStr).length : Int))))), true)))) (vLook_j2 x235 r535 (TValueShape.mk (max x236.fDepth ((x233.length : Int) + 1)) (IntKind.wrap .i64 (x236.fBytes + r516)) (x236.fOutside || ((decide (((at' v x235).fKind) = 3)) && (!(ov (nValid ((at' v x235).fInt)))))) (x236.fLong || (decide (200 < (((at' v x235).fStr).length : Int)))))))))) (some (.out (.go x236)))

def vLook_k1 (x386 : TValueShape) : Option (Int × TValueShape × Bool) :=
 some (0, x386, false)

def vLook (F : Nat) (v : (List TApiCell)) : Option (Int × TValueShape × Bool) :=
 obn (lop (fun σ => vLook_b1 F v σ.1 σ.2.1 σ.2.2) F (([] : List TValueOpen), 0, (TValueShape.mk 0 0 false false))) (oute fun ν => vLook_k1 ν)

def vCheck (F : Nat) (v : (List TApiCell)) : Option (Int) :=
 obn (vLook F v) fun r1 => cnd (((!r1.2.2) || (!decide (r1.1 = (v.length : Int))))) (some 1) (cnd (r1.2.1.fOutside) (some 2) (cnd ((r1.2.1.fLong || ((decide (200 < (v.length : Int))) || ((decide (8 < r1.2.1.fDepth)) || (decide (4000 < r1.2.1.fBytes)))))) (some 3) (some 0)))

def vDepth (F : Nat) (v : (List TApiCell)) : Option (Int) :=
 obn (vCheck F v) fun r1 => cnd (!decide (r1 = 0)) (some 0) (obn (vLook F v) fun r7 => some r7.2.1.fDepth)

def vChecked (F : Nat) (v : (List TApiCell)) : Option ((List TApiCell) × Int) :=
 obn (vCheck F v) fun r1 => cnd (!decide (r1 = 0)) (some (([] : List TApiCell), r1)) (some (v, 0))

def vNull  : Option ((List TApiCell)) :=
 some ([(TApiCell.mk 1 0 ([] : Str) 0)] : List TApiCell)

def vInt (F : Nat) (n : Int) : Option ((List TApiCell) × Int) :=
 obn (vChecked F ([(TApiCell.mk 3 n ([] : Str) 0)] : List TApiCell)) fun r2 => some (r2.1, r2.2)

def vStr (F : Nat) (s : Str) : Option ((List TApiCell) × Int) :=
 obn (vChecked F ([(TApiCell.mk 4 0 s 0)] : List TApiCell)) fun r2 => some (r2.1, r2.2)

def vList_b1 (F : Nat) (l : (List (List TApiCell))) (x35 : (List TApiCell)) (x37 : Int) : Option (Stp ((List TApiCell) × Int) (Out ((List TApiCell) × Int) ((List TApiCell)))) :=
 cnd (decide (x37 < (l.length : Int))) (chk (inR x37 (l.length : Int)) <| obn (vCheck F (at' l x37)) fun r69 => cnd (!decide (r69 = 0)) (some (.out (.ret (([] : List TApiCell), r69)))) (chk (inA 40 (x35.length + (at' l x37).length)) <| chk (inK .i64 (x37 + 1)) <| some (.next (x35 ++ (at' l x37), x37 + 1)))) (some (.out (.go x35)))

def vList_k1 (F : Nat) (x54 : (List TApiCell)) : Option ((List TApiCell) × Int) :=
 obn (vChecked F x54) fun r85 => some (r85.1, r85.2)

def vList (F : Nat) (l : (List (List TApiCell))) : Option ((List TApiCell) × Int) :=
 obn (lop (fun σ => vList_b1 F l σ.1 σ.2) F (([(TApiCell.mk 5 0 ([] : Str) (l.length : Int))] : List TApiCell), 0)) (oute fun ν => vList_k1 F ν)

def vMap_b1 (F : Nat) (keys : (List Str)) (l : (List (List TApiCell))) (x50 : (List TApiCell)) (x52 : Int) : Option (Stp ((List TApiCell) × Int) (Out ((List TApiCell) × Int) ((List TApiCell)))) :=
 cnd (decide (x52 < (l.length : Int))) (chk (inR x52 (l.length : Int)) <| obn (vCheck F (at' l x52)) fun r90 => cnd (!decide (r90 = 0)) (some (.out (.ret (([] : List TApiCell), r90)))) (chk (inR x52 (keys.length : Int)) <| chk (inA 40 (x50.length + ([(TApiCell.mk 4 0 (at' keys x52) 0)] : List TApiCell).length)) <| chk (inA 40 ((x50 ++ ([(TApiCell.mk 4 0 (at' keys x52) 0)] : List TApiCell)).length + (at' l x52).length)) <| chk (inK .i64 (x52 + 1)) <| some (.next ((x50 ++ ([(TApiCell.mk 4 0 (at' keys x52) 0)] : List TApiCell)) ++ (at' l x52), x52 + 1)))) (some (.out (.go x50)))

def vMap_k1 (F : Nat) (x75 : (List TApiCell)) : Option ((List TApiCell) × Int) :=
 obn (vChecked F x75) fun r112 => some (r112.1, r112.2)

def vMap (F : Nat) (keys : (List Str)) (l : (List (List TApiCell))) : Option ((List TApiCell) × Int) :=
 cnd (!decide ((keys.length : Int) = (l.length : Int))) (some (([] : List TApiCell), 1)) (obn (lop (fun σ => vMap_b1 F keys l σ.1 σ.2) F (([(TApiCell.mk 6 0 ([] : Str) (l.length : Int))] : List TApiCell), 0)) (oute fun ν => vMap_k1 F ν))

end Go.Proofs.YtkalifgebccpcaaDoor

/-
  Walks, printed by a small program of ours (gq.py).
-/
namespace Go.Proofs.YtkalifgebccpcaaDoor.Q
open Go Go.RowKit
set_option linter.unusedVariables false
set_option linter.unusedSimpArgs false
set_option maxRecDepth 100000
set_option maxHeartbeats 4000000
@[reducible] def eTValueOpen (x : TValueOpen) : List Rp := [rB x.fPairs, rI .i64 x.fLeft, rB x.fKey, rS x.fLast, rB x.fStarted]
theorem eTValueOpen_len (x : TValueOpen) : (eTValueOpen x).length = 5 := rfl
theorem eTValueOpen_one (x : TValueOpen) : (eTValueOpen x).all (·.one) = true := rfl
@[reducible] def eTValueShape (x : TValueShape) : List Rp := [rI .i64 x.fDepth, rI .i64 x.fBytes, rB x.fOutside, rB x.fLong]
@[reducible] def eL_TApiCell (x : (List TApiCell)) : List Rp := [rSl 4 (List.map eTApiCell x)]
theorem eL_TApiCell_len (x : (List TApiCell)) : (eL_TApiCell x).length = 1 := rfl
theorem info40 : ∃ inf, Tryd.prog.info? 40 = some inf ∧ inf.zero = some (.agg #[(.int .i64 0), (.int .i64 0), (.string ⟨#[]⟩), (.int .i64 0)]) ∧ inf.size = 4 ∧ inf.bytes = 40 := by
  have key : (Tryd.prog.info? 40).map (fun i => (i.zero, i.size, i.bytes)) = some (some (.agg #[(.int .i64 0), (.int .i64 0), (.string ⟨#[]⟩), (.int .i64 0)]), 4, 40) := by kernel_rfl
  obtain ⟨inf, h1, h2⟩ := Option.map_eq_some_iff.1 key
  simp only [Prod.mk.injEq] at h2
  exact ⟨inf, h1, h2.1, h2.2.1, h2.2.2⟩
theorem info79 : ∃ inf, Tryd.prog.info? 79 = some inf ∧ inf.zero = some (.agg #[(.bool false), (.int .i64 0), (.bool false), (.string ⟨#[]⟩), (.bool false)]) ∧ inf.size = 5 ∧ inf.bytes = 48 := by
  have key : (Tryd.prog.info? 79).map (fun i => (i.zero, i.size, i.bytes)) = some (some (.agg #[(.bool false), (.int .i64 0), (.bool false), (.string ⟨#[]⟩), (.bool false)]), 5, 48) := by kernel_rfl
  obtain ⟨inf, h1, h2⟩ := Option.map_eq_some_iff.1 key
  simp only [Prod.mk.injEq] at h2
  exact ⟨inf, h1, h2.1, h2.2.1, h2.2.2⟩
theorem built40 (parts : List (Nat × Value)) : Tryd.prog.built 40 parts = Instr.fill (fun i => (#[(0, 1), (1, 1), (2, 1), (3, 1)] : Array (Nat × Nat))[i]?) #[(.int .i64 0), (.int .i64 0), (.string ⟨#[]⟩), (.int .i64 0)] parts := by kernel_rfl
theorem o_build40_0 {n : Nat} {c : Cx} {l : Fr} {H : List Ent} {d : Option Nat} {ty : TypeId} {pos : String} {af : Array Edge} {g : Option (Nat × Bool)} {x0 : Operand} {r0 : Rp} (h0 : ev l x0 = some r0) (u0 : r0.one = true) : ORun Tryd.prog n c l H { dst := d, op := .build 40 #[(0, x0)], type := ty, pos := pos, after := af, guard := g } (rAgg [r0, rI .i64 0, rS ([] : Str), rI .i64 0]) := fun a w Z ha _ => by
  have p0 := ha.ev h0
  have c0 := cells_one (r0.hone u0 Z _ p0)
  have hb : Tryd.prog.built 40 [(0, a.eval x0)] = some #[a.eval x0, (.int .i64 0), (.string ⟨#[]⟩), (.int .i64 0)] := by
    rw [built40]
    generalize a.eval x0 = v0 at *
    simp [Instr.fill, c0]
  refine ⟨.agg #[a.eval x0, (.int .i64 0), (.string ⟨#[]⟩), (.int .i64 0)], ⟨[a.eval x0, (.int .i64 0), (.string ⟨#[]⟩), (.int .i64 0)], rfl, p0, rfl, rfl, rfl, trivial⟩, ?_⟩
  have := run_build w 40 #[(0, a.eval x0)] _ (by simpa using hb)
  simp [execOp, this]
theorem o_build40_0_1 {n : Nat} {c : Cx} {l : Fr} {H : List Ent} {d : Option Nat} {ty : TypeId} {pos : String} {af : Array Edge} {g : Option (Nat × Bool)} {x0 : Operand} {r0 : Rp} (h0 : ev l x0 = some r0) (u0 : r0.one = true) {x1 : Operand} {r1 : Rp} (h1 : ev l x1 = some r1) (u1 : r1.one = true) : ORun Tryd.prog n c l H { dst := d, op := .build 40 #[(0, x0), (1, x1)], type := ty, pos := pos, after := af, guard := g } (rAgg [r0, r1, rS ([] : Str), rI .i64 0]) := fun a w Z ha _ => by
  have p0 := ha.ev h0
  have c0 := cells_one (r0.hone u0 Z _ p0)
  have p1 := ha.ev h1
  have c1 := cells_one (r1.hone u1 Z _ p1)
  have hb : Tryd.prog.built 40 [(0, a.eval x0), (1, a.eval x1)] = some #[a.eval x0, a.eval x1, (.string ⟨#[]⟩), (.int .i64 0)] := by
    rw [built40]
    generalize a.eval x0 = v0 at *
    generalize a.eval x1 = v1 at *
    simp [Instr.fill, c0, c1]
  refine ⟨.agg #[a.eval x0, a.eval x1, (.string ⟨#[]⟩), (.int .i64 0)], ⟨[a.eval x0, a.eval x1, (.string ⟨#[]⟩), (.int .i64 0)], rfl, p0, p1, rfl, rfl, trivial⟩, ?_⟩
  have := run_build w 40 #[(0, a.eval x0), (1, a.eval x1)] _ (by simpa using hb)
  simp [execOp, this]
theorem o_build40_0_2 {n : Nat} {c : Cx} {l : Fr} {H : List Ent} {d : Option Nat} {ty : TypeId} {pos : String} {af : Array Edge} {g : Option (Nat × Bool)} {x0 : Operand} {r0 : Rp} (h0 : ev l x0 = some r0) (u0 : r0.one = true) {x2 : Operand} {r2 : Rp} (h2 : ev l x2 = some r2) (u2 : r2.one = true) : ORun Tryd.prog n c l H { dst := d, op := .build 40 #[(0, x0), (2, x2)], type := ty, pos := pos, after := af, guard := g } (rAgg [r0, rI .i64 0, r2, rI .i64 0]) := fun a w Z ha _ => by
  have p0 := ha.ev h0
  have c0 := cells_one (r0.hone u0 Z _ p0)
  have p2 := ha.ev h2
  have c2 := cells_one (r2.hone u2 Z _ p2)
  have hb : Tryd.prog.built 40 [(0, a.eval x0), (2, a.eval x2)] = some #[a.eval x0, (.int .i64 0), a.eval x2, (.int .i64 0)] := by
    rw [built40]
    generalize a.eval x0 = v0 at *
    generalize a.eval x2 = v2 at *
    simp [Instr.fill, c0, c2]
  refine ⟨.agg #[a.eval x0, (.int .i64 0), a.eval x2, (.int .i64 0)], ⟨[a.eval x0, (.int .i64 0), a.eval x2, (.int .i64 0)], rfl, p0, rfl, p2, rfl, trivial⟩, ?_⟩
  have := run_build w 40 #[(0, a.eval x0), (2, a.eval x2)] _ (by simpa using hb)
  simp [execOp, this]
theorem o_build40_0_3 {n : Nat} {c : Cx} {l : Fr} {H : List Ent} {d : Option Nat} {ty : TypeId} {pos : String} {af : Array Edge} {g : Option (Nat × Bool)} {x0 : Operand} {r0 : Rp} (h0 : ev l x0 = some r0) (u0 : r0.one = true) {x3 : Operand} {r3 : Rp} (h3 : ev l x3 = some r3) (u3 : r3.one = true) : ORun Tryd.prog n c l H { dst := d, op := .build 40 #[(0, x0), (3, x3)], type := ty, pos := pos, after := af, guard := g } (rAgg [r0, rI .i64 0, rS ([] : Str), r3]) := fun a w Z ha _ => by
  have p0 := ha.ev h0
  have c0 := cells_one (r0.hone u0 Z _ p0)
  have p3 := ha.ev h3
  have c3 := cells_one (r3.hone u3 Z _ p3)
  have hb : Tryd.prog.built 40 [(0, a.eval x0), (3, a.eval x3)] = some #[a.eval x0, (.int .i64 0), (.string ⟨#[]⟩), a.eval x3] := by
    rw [built40]
    generalize a.eval x0 = v0 at *
    generalize a.eval x3 = v3 at *
    simp [Instr.fill, c0, c3]
  refine ⟨.agg #[a.eval x0, (.int .i64 0), (.string ⟨#[]⟩), a.eval x3], ⟨[a.eval x0, (.int .i64 0), (.string ⟨#[]⟩), a.eval x3], rfl, p0, rfl, rfl, p3, trivial⟩, ?_⟩
  have := run_build w 40 #[(0, a.eval x0), (3, a.eval x3)] _ (by simpa using hb)
  simp [execOp, this]
theorem built79 (parts : List (Nat × Value)) : Tryd.prog.built 79 parts = Instr.fill (fun i => (#[(0, 1), (1, 1), (2, 1), (3, 1), (4, 1)] : Array (Nat × Nat))[i]?) #[(.bool false), (.int .i64 0), (.bool false), (.string ⟨#[]⟩), (.bool false)] parts := by kernel_rfl
theorem o_build79_0_1_2 {n : Nat} {c : Cx} {l : Fr} {H : List Ent} {d : Option Nat} {ty : TypeId} {pos : String} {af : Array Edge} {g : Option (Nat × Bool)} {x0 : Operand} {r0 : Rp} (h0 : ev l x0 = some r0) (u0 : r0.one = true) {x1 : Operand} {r1 : Rp} (h1 : ev l x1 = some r1) (u1 : r1.one = true) {x2 : Operand} {r2 : Rp} (h2 : ev l x2 = some r2) (u2 : r2.one = true) : ORun Tryd.prog n c l H { dst := d, op := .build 79 #[(0, x0), (1, x1), (2, x2)], type := ty, pos := pos, after := af, guard := g } (rAgg [r0, r1, r2, rS ([] : Str), rB false]) := fun a w Z ha _ => by
  have p0 := ha.ev h0
  have c0 := cells_one (r0.hone u0 Z _ p0)
  have p1 := ha.ev h1
  have c1 := cells_one (r1.hone u1 Z _ p1)
  have p2 := ha.ev h2
  have c2 := cells_one (r2.hone u2 Z _ p2)
  have hb : Tryd.prog.built 79 [(0, a.eval x0), (1, a.eval x1), (2, a.eval x2)] = some #[a.eval x0, a.eval x1, a.eval x2, (.string ⟨#[]⟩), (.bool false)] := by
    rw [built79]
    generalize a.eval x0 = v0 at *
    generalize a.eval x1 = v1 at *
    generalize a.eval x2 = v2 at *
    simp [Instr.fill, c0, c1, c2]
  refine ⟨.agg #[a.eval x0, a.eval x1, a.eval x2, (.string ⟨#[]⟩), (.bool false)], ⟨[a.eval x0, a.eval x1, a.eval x2, (.string ⟨#[]⟩), (.bool false)], rfl, p0, p1, p2, rfl, rfl, trivial⟩, ?_⟩
  have := run_build w 79 #[(0, a.eval x0), (1, a.eval x1), (2, a.eval x2)] _ (by simpa using hb)
  simp [execOp, this]
theorem nValid_w (n : Int) (r : Bool) (h : nValid n = some r) : Fn Tryd.prog GE 50 [rI .i64 n] [] (fun R H => R = rB r ∧ H = []) := by
 refine enter (n := 9) Tryd.func50 rfl Tryd.ntmps50 rfl (fun w Z => ?_)
 refine wc_as (l' := [(0, rI .i64 n)]) (H' := []) rfl rfl ?_
 unfold nValid at h
 refine wc_sr ?_
 refine wv (r := rB false) (o_assign rfl) ?_
 refine wl_x ?_
 refine wc_seq_mid [(2, rB ((decide ((-1000000000000) ≤ n)) && (decide (n ≤ 1000000000000))))] [] ?_ ?_
 ·refine wc_region ?_
  refine wm rfl ?_
  refine wv (o_le rfl rfl) ?_
  refine wm rfl ?_
  refine bsplit (decide ((-1000000000000) ≤ n)) (fun c1 => ?_) (fun c1 => ?_)
  ·refine wo c1 ?_
   refine wm rfl ?_
   refine wo c1 ?_
   refine wv (o_le rfl rfl) ?_
   refine wpt rfl c1 rfl ?_
   refine wa rfl ?_
   refine wl_nil ?_
   exact wtc c1
  ·refine wf c1 ?_
   refine wf c1 ?_
   refine wv (r := rB false) (o_pick_f (b := decide ((-1000000000000) ≤ n)) rfl c1 rfl) ?_
   refine wa rfl ?_
   refine wl_nil ?_
   exact wtc c1
 refine wc_ret ?_
 obtain rfl := some_e h
 exact wk_ret (r_1 Tryd.results50 (rv_t rfl)) sN ⟨rfl, rfl⟩

theorem vText_w (F : Nat) (s : Str) (r : Bool) (h : vText F s = some r) : Fn Tryd.prog GE 65 [rS s] [] (fun R H => R = rB r ∧ H = []) := by
 refine enter (n := 20) Tryd.func65 rfl Tryd.ntmps65 rfl (fun w Z => ?_)
 refine wc_as (l' := [(0, rS s)]) (H' := []) rfl rfl ?_
 unfold vText at h
 refine wc_sr ?_
 refine wv (r := rB false) (o_assign rfl) ?_
 refine wl_x ?_
 refine wc_seq ?_
 refine wc_sr ?_
 refine wm rfl ?_
 refine wv (o_len_s Tryd.underlying9 rfl) ?_
 refine wv (r := rI .i64 0) (o_move rfl) ?_
 refine wl_x ?_
 refine wc_block ?_
 obtain ⟨o34, eo35, hK36⟩ := obn_e h
 refine wc_loop2 (S := Nat × (Int) × (Unit)) (V := (Unit) × (Unit)) 0 (fun σ => lop (fun σ => vText_b1 s σ) σ.1 σ.2.1 = some o34) (fun σ => [(0, rS s), (5, rI .i64 (s.length : Int)), (6, rI .i64 σ.2.1)]) (fun σ => []) (fun σ => σ.1) (F, 0, ()) eo35 (Sub.c rfl (Sub.c rfl (Sub.c rfl Sub.nil))) sN (fun σ => vText_k1  = some r) (fun σ => []) (fun σ => []) ?_ ?_
 ·rintro ⟨n42, x22, ⟨⟩⟩ hi40
  refine wc_as (l' := [(0, rS s), (5, rI .i64 (s.length : Int)), (6, rI .i64 x22)]) (H' := []) rfl rfl ?_
  obtain ⟨m39, rfl, t37, h41, ht38⟩ := lop_e hi40
  replace h41 : vText_b1 s x22 = some t37 := h41
  unfold vText_b1 at h41
  refine wc_sr ?_
  refine wv (o_lt rfl rfl) ?_
  refine wl_x ?_
  refine wc_seq ?_
  refine wc_cond (b := decide (x22 < (s.length : Int))) rfl (fun c43 => ?_) (fun c43 => ?_)
  ·have h44 := cnd_t c43 h41
   refine wc_skip ?_
   refine wk_x ?_
   refine wc_seq ?_
   refine wc_block ?_
   refine wc_sr ?_
   refine wm rfl ?_
   refine wa rfl ?_
   refine wl_x ?_
   obtain ⟨g45, h46⟩ := chk_e h44
   refine wc_seq_mid [(0, rS s), (5, rI .i64 (s.length : Int)), (6, rI .i64 x22), (18, rB ((decide ((bat s x22) < 32)) || (decide (126 < (bat s x22)))))] [] ?_ ?_
   ·refine wc_region ?_
    refine wm rfl ?_
    refine wm rfl ?_
    refine wv (o_index_b Tryd.underlying9 rfl rfl g45) ?_
    refine wv (o_lt rfl rfl) ?_
    refine wm rfl ?_
    refine bsplit (decide ((bat s x22) < 32)) (fun c47 => ?_) (fun c47 => ?_)
    ·refine wf c47 ?_
     refine wf c47 ?_
     refine wf c47 ?_
     refine wf c47 ?_
     refine wv (r := rB true) (o_pick_t (b := decide ((bat s x22) < 32)) rfl c47 rfl) ?_
     refine wl_nil ?_
     exact wtc c47
    ·refine wo c47 ?_
     refine wm rfl ?_
     refine wo c47 ?_
     refine wm rfl ?_
     refine wo c47 ?_
     refine wv (o_index_b Tryd.underlying9 rfl rfl g45) ?_
     refine wo c47 ?_
     refine wv (o_gt rfl rfl) ?_
     refine wpf rfl c47 rfl ?_
     refine wl_nil ?_
     exact wtc c47
   refine wc_cond (b := ((decide ((bat s x22) < 32)) || (decide (126 < (bat s x22))))) rfl (fun c48 => ?_) (fun c48 => ?_)
   ·have h49 := cnd_t c48 h46
    refine wc_sr ?_
    refine wv (r := rB false) (o_assign rfl) ?_
    refine wl_x ?_
    refine wc_ret ?_
    refine wk_in_ret ?_
    refine wk_then_ret ?_
    refine wk_then_ret ?_
    refine wk_cut_ret ?_
    have h50 := stp_ret h49 ht38 hK36
    refine wk_in_ret ?_
    refine wk_then_ret ?_
    obtain rfl := some_e h50
    exact wk_ret (r_1 Tryd.results65 (rv_t rfl)) sN ⟨rfl, rfl⟩
   ·have h51 := cnd_f c48 h46
    refine wc_skip ?_
    refine wk_in_norm ?_
    refine wk_x ?_
    refine wc_region ?_
    obtain ⟨g52, h53⟩ := chk_e h51
    refine wv (o_add rfl rfl g52) ?_
    refine wm rfl ?_
    refine wl_nil ?_
    have h54 := stp_next h53 ht38
    exact wk_then (wk_some (m39, x22 + 1, ()) ⟨h54, Nat.lt_succ_self _⟩ (Sub.c rfl (Sub.c rfl (Sub.c rfl Sub.nil))) sN)
  ·have h55 := cnd_f c43 h41
   refine wc_exit ?_
   refine wk_then_exit ?_
   have h56 := stp_go h55 ht38 hK36
   exact wk_then_exit (wk_cut_hit (wk_some ((), ()) h56 Sub.nil sN))
 ·rintro ⟨⟨⟩, ⟨⟩⟩ h57
  refine wk_as (l' := []) (H' := []) rfl rfl ?_
  replace h57 : vText_k1  = some r := h57
  unfold vText_k1 at h57
  refine wk_in_hit ?_
  refine wk_x ?_
  refine wc_sr ?_
  refine wv (r := rB true) (o_assign rfl) ?_
  refine wl_x ?_
  refine wc_ret ?_
  obtain rfl := some_e h57
  exact wk_ret (r_1 Tryd.results65 (rv_t rfl)) sN ⟨rfl, rfl⟩

theorem vQuoted_w (s : Str) (r : Int) (h : vQuoted s = some r) : Fn Tryd.prog GE 48 [rS s] [] (fun R H => R = rI .i64 r ∧ H = []) := by
 refine enter (n := 12) Tryd.func48 rfl Tryd.ntmps48 rfl (fun w Z => ?_)
 refine wc_as (l' := [(0, rS s)]) (H' := []) rfl rfl ?_
 unfold vQuoted at h
 refine wc_sr ?_
 refine wv (r := rI .i64 0) (o_assign rfl) ?_
 refine wl_y ?_
 refine wm rfl ?_
 refine wv (o_len_s Tryd.underlying9 rfl) ?_
 obtain ⟨g1, h2⟩ := chk_e h
 refine wv (o_add rfl rfl g1) ?_
 refine wm rfl ?_
 refine w_call0 (rs := [rS s, rS ([34] : Str)]) (r := rI .i64 (Lib.countByte s 34 : Int)) Tryd.call66 rfl (count_q s 34) rfl rfl ?_
 obtain ⟨g3, h4⟩ := chk_e h2
 refine wv (o_add rfl rfl g3) ?_
 refine wm rfl ?_
 refine w_call0 (rs := [rS s, rS ([92] : Str)]) (r := rI .i64 (Lib.countByte s 92 : Int)) Tryd.call66 rfl (count_q s 92) rfl rfl ?_
 obtain ⟨g5, h6⟩ := chk_e h4
 refine wv (o_add rfl rfl g5) ?_
 refine wa rfl ?_
 refine wl_x ?_
 refine wc_ret ?_
 obtain rfl := some_e h6
 exact wk_ret (r_1 Tryd.results48 (rv_t rfl)) sN ⟨rfl, rfl⟩

theorem vPlain_w (F : Nat) (c : TApiCell) (r : Bool) (h : vPlain F c = some r) : Fn Tryd.prog GE 47 [rAgg (eTApiCell c)] [] (fun R H => R = rB r ∧ H = []) := by
 refine enter (n := 81) Tryd.func47 rfl Tryd.ntmps47 rfl (fun w Z => ?_)
 refine wc_as (l' := [(0, rAgg (eTApiCell c))]) (H' := []) rfl rfl ?_
 unfold vPlain at h
 refine wc_sr ?_
 refine w_box_agg rfl rfl (fun b1 => ?_)
 refine wv (r := rB false) (o_assign rfl) ?_
 refine wl_x ?_
 refine wc_seq ?_
 refine wc_sr ?_
 refine wv (o_fieldAddr Tryd.underlying40 rfl Tryd.sizeOf38 rfl rfl) ?_
 refine wv (o_load (i := 0) Tryd.isAgg38 rfl rfl rfl) ?_
 refine wl_x ?_
 refine wc_block ?_
 refine wc_sr ?_
 refine wv (o_eq rfl rfl) ?_
 refine wa rfl ?_
 refine wl_x ?_
 refine wc_cond (b := decide (c.fKind = 1)) rfl (fun c2 => ?_) (fun c2 => ?_)
 ·have h3 := cnd_t c2 h
  refine wc_seq_mid [(2, rB ((decide (c.fInt = 0)) && ((decide (c.fStr = ([] : Str))) && (decide (c.fN = 0)))))] [] ?_ ?_
  ·refine wc_region ?_
   refine wv (o_fieldAddr Tryd.underlying40 rfl Tryd.sizeOf3 rfl rfl) ?_
   refine wv (o_load (i := 0) Tryd.isAgg3 rfl rfl rfl) ?_
   refine wv (o_eq rfl rfl) ?_
   refine wm rfl ?_
   refine bsplit (decide (c.fInt = 0)) (fun c4 => ?_) (fun c4 => ?_)
   ·refine wo c4 ?_
    refine wv (o_fieldAddr Tryd.underlying40 rfl Tryd.sizeOf9 rfl rfl) ?_
    refine wo c4 ?_
    refine wv (o_load (i := 0) Tryd.isAgg9 rfl rfl rfl) ?_
    refine wo c4 ?_
    refine wv (o_seq rfl rfl) ?_
    refine wpt rfl c4 rfl ?_
    refine wm rfl ?_
    refine bsplit (decide (c.fStr = ([] : Str))) (fun c5 => ?_) (fun c5 => ?_)
    ·refine wo c5 ?_
     refine wv (o_fieldAddr Tryd.underlying40 rfl Tryd.sizeOf3 rfl rfl) ?_
     refine wo c5 ?_
     refine wv (o_load (i := 0) Tryd.isAgg3 rfl rfl rfl) ?_
     refine wo c5 ?_
     refine wv (o_eq rfl rfl) ?_
     refine wpt rfl c5 rfl ?_
     refine wa rfl ?_
     refine wl_nil ?_
     exact wtc (And.intro c4 c5)
    ·refine wf c5 ?_
     refine wf c5 ?_
     refine wf c5 ?_
     refine wv (r := rB false) (o_pick_f (b := decide (c.fStr = ([] : Str))) rfl c5 rfl) ?_
     refine wa rfl ?_
     refine wl_nil ?_
     exact wtc (And.intro c4 c5)
   ·refine wf c4 ?_
    refine wf c4 ?_
    refine wf c4 ?_
    refine wv (r := rB false) (o_pick_f (b := decide (c.fInt = 0)) rfl c4 rfl) ?_
    refine wm rfl ?_
    refine wl_off (b := false) rfl rfl rfl rfl ?_
    refine wl_off (b := false) rfl rfl rfl rfl ?_
    refine wl_off (b := false) rfl rfl rfl rfl ?_
    refine wv (r := rB false) (o_pick_f (b := false) rfl rfl rfl) ?_
    refine wa rfl ?_
    refine wl_nil ?_
    exact wtc c4
  refine wc_ret ?_
  refine wk_in_ret ?_
  refine wk_then_ret ?_
  obtain rfl := some_e h3
  exact wk_ret (r_1 Tryd.results47 (rv_t rfl)) sN ⟨rfl, rfl⟩
 ·have h6 := cnd_f c2 h
  refine wc_sr ?_
  refine wv (o_eq rfl rfl) ?_
  refine wa rfl ?_
  refine wl_x ?_
  refine wc_cond (b := decide (c.fKind = 2)) rfl (fun c7 => ?_) (fun c7 => ?_)
  ·have h8 := cnd_t c7 h6
   refine wc_seq_mid [(2, rB (bif decide (c.fInt = 0) then ((decide (c.fStr = ([] : Str))) && (decide (c.fN = 0))) else ((decide (c.fInt = 1)) && ((decide (c.fStr = ([] : Str))) && (decide (c.fN = 0))))))] [] ?_ ?_
   ·refine wc_region ?_
    refine wv (o_fieldAddr Tryd.underlying40 rfl Tryd.sizeOf3 rfl rfl) ?_
    refine wv (o_load (i := 0) Tryd.isAgg3 rfl rfl rfl) ?_
    refine wv (o_eq rfl rfl) ?_
    refine wm rfl ?_
    refine bsplit (decide (c.fInt = 0)) (fun c9 => ?_) (fun c9 => ?_)
    ·refine wf c9 ?_
     refine wf c9 ?_
     refine wf c9 ?_
     refine wv (r := rB true) (o_pick_t (b := decide (c.fInt = 0)) rfl c9 rfl) ?_
     refine wm rfl ?_
     refine wl_on (b := true) rfl rfl rfl ?_
     refine wv (o_fieldAddr Tryd.underlying40 rfl Tryd.sizeOf9 rfl rfl) ?_
     refine wl_on (b := true) rfl rfl rfl ?_
     refine wv (o_load (i := 0) Tryd.isAgg9 rfl rfl rfl) ?_
     refine wl_on (b := true) rfl rfl rfl ?_
     refine wv (o_seq rfl rfl) ?_
     refine wv (r := rB (decide (c.fStr = ([] : Str)))) (o_pick_t (b := true) rfl rfl rfl) ?_
     refine wm rfl ?_
     refine bsplit (decide (c.fStr = ([] : Str))) (fun c10 => ?_) (fun c10 => ?_)
     ·refine wo c10 ?_
      refine wv (o_fieldAddr Tryd.underlying40 rfl Tryd.sizeOf3 rfl rfl) ?_
      refine wo c10 ?_
      refine wv (o_load (i := 0) Tryd.isAgg3 rfl rfl rfl) ?_
      refine wo c10 ?_
      refine wv (o_eq rfl rfl) ?_
      refine wpt rfl c10 rfl ?_
      refine wa rfl ?_
      refine wl_nil ?_
      exact wtc (And.intro c9 c10)
     ·refine wf c10 ?_
      refine wf c10 ?_
      refine wf c10 ?_
      refine wv (r := rB false) (o_pick_f (b := decide (c.fStr = ([] : Str))) rfl c10 rfl) ?_
      refine wa rfl ?_
      refine wl_nil ?_
      exact wtc (And.intro c9 c10)
    ·refine wo c9 ?_
     refine wv (o_fieldAddr Tryd.underlying40 rfl Tryd.sizeOf3 rfl rfl) ?_
     refine wo c9 ?_
     refine wv (o_load (i := 0) Tryd.isAgg3 rfl rfl rfl) ?_
     refine wo c9 ?_
     refine wv (o_eq rfl rfl) ?_
     refine wpf rfl c9 rfl ?_
     refine wm rfl ?_
     refine bsplit (decide (c.fInt = 1)) (fun c11 => ?_) (fun c11 => ?_)
     ·refine wo c11 ?_
      refine wv (o_fieldAddr Tryd.underlying40 rfl Tryd.sizeOf9 rfl rfl) ?_
      refine wo c11 ?_
      refine wv (o_load (i := 0) Tryd.isAgg9 rfl rfl rfl) ?_
      refine wo c11 ?_
      refine wv (o_seq rfl rfl) ?_
      refine wpt rfl c11 rfl ?_
      refine wm rfl ?_
      refine bsplit (decide (c.fStr = ([] : Str))) (fun c12 => ?_) (fun c12 => ?_)
      ·refine wo c12 ?_
       refine wv (o_fieldAddr Tryd.underlying40 rfl Tryd.sizeOf3 rfl rfl) ?_
       refine wo c12 ?_
       refine wv (o_load (i := 0) Tryd.isAgg3 rfl rfl rfl) ?_
       refine wo c12 ?_
       refine wv (o_eq rfl rfl) ?_
       refine wpt rfl c12 rfl ?_
       refine wa rfl ?_
       refine wl_nil ?_
       exact wtc (And.intro c9 (And.intro c11 c12))
      ·refine wf c12 ?_
       refine wf c12 ?_
       refine wf c12 ?_
       refine wv (r := rB false) (o_pick_f (b := decide (c.fStr = ([] : Str))) rfl c12 rfl) ?_
       refine wa rfl ?_
       refine wl_nil ?_
       exact wtc (And.intro c9 (And.intro c11 c12))
     ·refine wf c11 ?_
      refine wf c11 ?_
      refine wf c11 ?_
      refine wv (r := rB false) (o_pick_f (b := decide (c.fInt = 1)) rfl c11 rfl) ?_
      refine wm rfl ?_
      refine wl_off (b := false) rfl rfl rfl rfl ?_
      refine wl_off (b := false) rfl rfl rfl rfl ?_
      refine wl_off (b := false) rfl rfl rfl rfl ?_
      refine wv (r := rB false) (o_pick_f (b := false) rfl rfl rfl) ?_
      refine wa rfl ?_
      refine wl_nil ?_
      exact wtc (And.intro c9 c11)
   refine wc_ret ?_
   refine wk_in_ret ?_
   refine wk_then_ret ?_
   obtain rfl := some_e h8
   exact wk_ret (r_1 Tryd.results47 (rv_t rfl)) sN ⟨rfl, rfl⟩
  ·have h13 := cnd_f c7 h6
   refine wc_sr ?_
   refine wv (o_eq rfl rfl) ?_
   refine wa rfl ?_
   refine wl_x ?_
   refine wc_cond (b := decide (c.fKind = 3)) rfl (fun c14 => ?_) (fun c14 => ?_)
   ·have h15 := cnd_t c14 h13
    refine wc_seq_mid [(2, rB ((decide (c.fStr = ([] : Str))) && (decide (c.fN = 0))))] [] ?_ ?_
    ·refine wc_region ?_
     refine wv (o_fieldAddr Tryd.underlying40 rfl Tryd.sizeOf9 rfl rfl) ?_
     refine wv (o_load (i := 0) Tryd.isAgg9 rfl rfl rfl) ?_
     refine wv (o_seq rfl rfl) ?_
     refine wm rfl ?_
     refine bsplit (decide (c.fStr = ([] : Str))) (fun c16 => ?_) (fun c16 => ?_)
     ·refine wo c16 ?_
      refine wv (o_fieldAddr Tryd.underlying40 rfl Tryd.sizeOf3 rfl rfl) ?_
      refine wo c16 ?_
      refine wv (o_load (i := 0) Tryd.isAgg3 rfl rfl rfl) ?_
      refine wo c16 ?_
      refine wv (o_eq rfl rfl) ?_
      refine wpt rfl c16 rfl ?_
      refine wa rfl ?_
      refine wl_nil ?_
      exact wtc c16
     ·refine wf c16 ?_
      refine wf c16 ?_
      refine wf c16 ?_
      refine wv (r := rB false) (o_pick_f (b := decide (c.fStr = ([] : Str))) rfl c16 rfl) ?_
      refine wa rfl ?_
      refine wl_nil ?_
      exact wtc c16
    refine wc_ret ?_
    refine wk_in_ret ?_
    refine wk_then_ret ?_
    obtain rfl := some_e h15
    exact wk_ret (r_1 Tryd.results47 (rv_t rfl)) sN ⟨rfl, rfl⟩
   ·have h17 := cnd_f c14 h13
    refine wc_sr ?_
    refine wv (o_eq rfl rfl) ?_
    refine wa rfl ?_
    refine wl_x ?_
    refine wc_cond (b := decide (c.fKind = 4)) rfl (fun c18 => ?_) (fun c18 => ?_)
    ·have h19 := cnd_t c18 h17
     obtain ⟨g20, h21⟩ := chk_e h19
     refine wc_seq_mid [(2, rB ((decide (c.fInt = 0)) && ((decide (c.fN = 0)) && (ov (vText F c.fStr)))))] [] ?_ ?_
     ·refine wc_region ?_
      refine wv (o_fieldAddr Tryd.underlying40 rfl Tryd.sizeOf3 rfl rfl) ?_
      refine wv (o_load (i := 0) Tryd.isAgg3 rfl rfl rfl) ?_
      refine wv (o_eq rfl rfl) ?_
      refine wm rfl ?_
      refine bsplit (decide (c.fInt = 0)) (fun c22 => ?_) (fun c22 => ?_)
      ·refine wo c22 ?_
       refine wv (o_fieldAddr Tryd.underlying40 rfl Tryd.sizeOf3 rfl rfl) ?_
       refine wo c22 ?_
       refine wv (o_load (i := 0) Tryd.isAgg3 rfl rfl rfl) ?_
       refine wo c22 ?_
       refine wv (o_eq rfl rfl) ?_
       refine wpt rfl c22 rfl ?_
       refine wm rfl ?_
       refine bsplit (decide (c.fN = 0)) (fun c23 => ?_) (fun c23 => ?_)
       ·refine wo c23 ?_
        refine wv (o_fieldAddr Tryd.underlying40 rfl Tryd.sizeOf9 rfl rfl) ?_
        refine wo c23 ?_
        refine wv (o_load (i := 0) Tryd.isAgg9 rfl rfl rfl) ?_
        refine wo c23 ?_
        refine wc0 Tryd.call65 (vText_w F c.fStr (ov (vText F c.fStr)) (ov_e (imp_t (imp_t g20 c22) c23))) rfl ?_
        refine wpt rfl c23 rfl ?_
        refine wa rfl ?_
        refine wl_nil ?_
        exact wtc (And.intro c22 c23)
       ·refine wf c23 ?_
        refine wf c23 ?_
        refine wf c23 ?_
        refine wv (r := rB false) (o_pick_f (b := decide (c.fN = 0)) rfl c23 rfl) ?_
        refine wa rfl ?_
        refine wl_nil ?_
        exact wtc (And.intro c22 c23)
      ·refine wf c22 ?_
       refine wf c22 ?_
       refine wf c22 ?_
       refine wv (r := rB false) (o_pick_f (b := decide (c.fInt = 0)) rfl c22 rfl) ?_
       refine wm rfl ?_
       refine wl_off (b := false) rfl rfl rfl rfl ?_
       refine wl_off (b := false) rfl rfl rfl rfl ?_
       refine wl_off (b := false) rfl rfl rfl rfl ?_
       refine wv (r := rB false) (o_pick_f (b := false) rfl rfl rfl) ?_
       refine wa rfl ?_
       refine wl_nil ?_
       exact wtc c22
     refine wc_ret ?_
     refine wk_in_ret ?_
     refine wk_then_ret ?_
     obtain rfl := some_e h21
     exact wk_ret (r_1 Tryd.results47 (rv_t rfl)) sN ⟨rfl, rfl⟩
    ·have h24 := cnd_f c18 h17
     refine wc_seq ?_
     refine wc_sr ?_
     refine wv (o_eq rfl rfl) ?_
     refine wa rfl ?_
     refine wl_x ?_
     refine wc_cond (b := decide (c.fKind = 5)) rfl (fun c25 => ?_) (fun c25 => ?_)
     ·have h26 := cnd_t c25 h24
      refine wc_skip ?_
      refine wk_x ?_
      refine wc_cond_t rfl c25 ?_
      refine wc_seq_mid [(2, rB ((decide (c.fInt = 0)) && ((decide (c.fStr = ([] : Str))) && (decide (0 ≤ c.fN)))))] [] ?_ ?_
      ·refine wc_region ?_
       refine wv (o_fieldAddr Tryd.underlying40 rfl Tryd.sizeOf3 rfl rfl) ?_
       refine wv (o_load (i := 0) Tryd.isAgg3 rfl rfl rfl) ?_
       refine wv (o_eq rfl rfl) ?_
       refine wm rfl ?_
       refine bsplit (decide (c.fInt = 0)) (fun c27 => ?_) (fun c27 => ?_)
       ·refine wo c27 ?_
        refine wv (o_fieldAddr Tryd.underlying40 rfl Tryd.sizeOf9 rfl rfl) ?_
        refine wo c27 ?_
        refine wv (o_load (i := 0) Tryd.isAgg9 rfl rfl rfl) ?_
        refine wo c27 ?_
        refine wv (o_seq rfl rfl) ?_
        refine wpt rfl c27 rfl ?_
        refine wm rfl ?_
        refine bsplit (decide (c.fStr = ([] : Str))) (fun c28 => ?_) (fun c28 => ?_)
        ·refine wo c28 ?_
         refine wv (o_fieldAddr Tryd.underlying40 rfl Tryd.sizeOf3 rfl rfl) ?_
         refine wo c28 ?_
         refine wv (o_load (i := 0) Tryd.isAgg3 rfl rfl rfl) ?_
         refine wo c28 ?_
         refine wv (o_ge rfl rfl) ?_
         refine wpt rfl c28 rfl ?_
         refine wa rfl ?_
         refine wl_nil ?_
         exact wtc (And.intro c27 c28)
        ·refine wf c28 ?_
         refine wf c28 ?_
         refine wf c28 ?_
         refine wv (r := rB false) (o_pick_f (b := decide (c.fStr = ([] : Str))) rfl c28 rfl) ?_
         refine wa rfl ?_
         refine wl_nil ?_
         exact wtc (And.intro c27 c28)
       ·refine wf c27 ?_
        refine wf c27 ?_
        refine wf c27 ?_
        refine wv (r := rB false) (o_pick_f (b := decide (c.fInt = 0)) rfl c27 rfl) ?_
        refine wm rfl ?_
        refine wl_off (b := false) rfl rfl rfl rfl ?_
        refine wl_off (b := false) rfl rfl rfl rfl ?_
        refine wl_off (b := false) rfl rfl rfl rfl ?_
        refine wv (r := rB false) (o_pick_f (b := false) rfl rfl rfl) ?_
        refine wa rfl ?_
        refine wl_nil ?_
        exact wtc c27
      refine wc_ret ?_
      refine wk_in_ret ?_
      refine wk_then_ret ?_
      obtain rfl := some_e h26
      exact wk_ret (r_1 Tryd.results47 (rv_t rfl)) sN ⟨rfl, rfl⟩
     ·have h29 := cnd_f c25 h24
      refine wc_region ?_
      refine wv (o_eq rfl rfl) ?_
      refine wa rfl ?_
      refine wl_x ?_
      refine wc_cond (b := decide (c.fKind = 6)) rfl (fun c30 => ?_) (fun c30 => ?_)
      ·have h31 := cnd_t c30 h29
       refine wc_seq_mid [(2, rB ((decide (c.fInt = 0)) && ((decide (c.fStr = ([] : Str))) && (decide (0 ≤ c.fN)))))] [] ?_ ?_
       ·refine wc_region ?_
        refine wv (o_fieldAddr Tryd.underlying40 rfl Tryd.sizeOf3 rfl rfl) ?_
        refine wv (o_load (i := 0) Tryd.isAgg3 rfl rfl rfl) ?_
        refine wv (o_eq rfl rfl) ?_
        refine wm rfl ?_
        refine bsplit (decide (c.fInt = 0)) (fun c32 => ?_) (fun c32 => ?_)
        ·refine wo c32 ?_
         refine wv (o_fieldAddr Tryd.underlying40 rfl Tryd.sizeOf9 rfl rfl) ?_
         refine wo c32 ?_
         refine wv (o_load (i := 0) Tryd.isAgg9 rfl rfl rfl) ?_
         refine wo c32 ?_
         refine wv (o_seq rfl rfl) ?_
         refine wpt rfl c32 rfl ?_
         refine wm rfl ?_
         refine bsplit (decide (c.fStr = ([] : Str))) (fun c33 => ?_) (fun c33 => ?_)
         ·refine wo c33 ?_
          refine wv (o_fieldAddr Tryd.underlying40 rfl Tryd.sizeOf3 rfl rfl) ?_
          refine wo c33 ?_
          refine wv (o_load (i := 0) Tryd.isAgg3 rfl rfl rfl) ?_
          refine wo c33 ?_
          refine wv (o_ge rfl rfl) ?_
          refine wpt rfl c33 rfl ?_
          refine wa rfl ?_
          refine wl_nil ?_
          exact wtc (And.intro c32 c33)
         ·refine wf c33 ?_
          refine wf c33 ?_
          refine wf c33 ?_
          refine wv (r := rB false) (o_pick_f (b := decide (c.fStr = ([] : Str))) rfl c33 rfl) ?_
          refine wa rfl ?_
          refine wl_nil ?_
          exact wtc (And.intro c32 c33)
        ·refine wf c32 ?_
         refine wf c32 ?_
         refine wf c32 ?_
         refine wv (r := rB false) (o_pick_f (b := decide (c.fInt = 0)) rfl c32 rfl) ?_
         refine wm rfl ?_
         refine wl_off (b := false) rfl rfl rfl rfl ?_
         refine wl_off (b := false) rfl rfl rfl rfl ?_
         refine wl_off (b := false) rfl rfl rfl rfl ?_
         refine wv (r := rB false) (o_pick_f (b := false) rfl rfl rfl) ?_
         refine wa rfl ?_
         refine wl_nil ?_
         exact wtc c32
       refine wc_ret ?_
       refine wk_in_ret ?_
       refine wk_then_ret ?_
       obtain rfl := some_e h31
       exact wk_ret (r_1 Tryd.results47 (rv_t rfl)) sN ⟨rfl, rfl⟩
      ·have h34 := cnd_f c30 h29
       refine wc_skip ?_
       refine wk_in_norm ?_
       refine wk_x ?_
       refine wc_sr ?_
       refine wv (r := rB false) (o_assign rfl) ?_
       refine wl_x ?_
       refine wc_ret ?_
       obtain rfl := some_e h34
       exact wk_ret (r_1 Tryd.results47 (rv_t rfl)) (sS sN) ⟨rfl, rfl⟩

theorem vSize_w (c : TApiCell) (r : Int) (h : vSize c = some r) : Fn Tryd.prog GE 49 [rAgg (eTApiCell c)] [] (fun R H => R = rI .i64 r ∧ H = []) := by
 refine enter (n := 28) Tryd.func49 rfl Tryd.ntmps49 rfl (fun w Z => ?_)
 refine wc_as (l' := [(0, rAgg (eTApiCell c))]) (H' := []) rfl rfl ?_
 unfold vSize at h
 refine wc_sr ?_
 refine w_box_agg rfl rfl (fun b1 => ?_)
 refine wv (r := rI .i64 0) (o_assign rfl) ?_
 refine wl_x ?_
 refine wc_seq ?_
 refine wc_sr ?_
 refine wv (o_fieldAddr Tryd.underlying40 rfl Tryd.sizeOf38 rfl rfl) ?_
 refine wv (o_load (i := 0) Tryd.isAgg38 rfl rfl rfl) ?_
 refine wl_x ?_
 refine wc_block ?_
 refine wc_sr ?_
 refine wv (o_eq rfl rfl) ?_
 refine wa rfl ?_
 refine wl_x ?_
 refine wc_cond (b := decide (c.fKind = 1)) rfl (fun c2 => ?_) (fun c2 => ?_)
 ·have h3 := cnd_t c2 h
  refine wc_sr ?_
  refine wv (r := rI .i64 4) (o_assign rfl) ?_
  refine wl_x ?_
  refine wc_ret ?_
  refine wk_in_ret ?_
  refine wk_then_ret ?_
  obtain rfl := some_e h3
  exact wk_ret (r_1 Tryd.results49 (rv_t rfl)) (sS sN) ⟨rfl, rfl⟩
 ·have h4 := cnd_f c2 h
  refine wc_sr ?_
  refine wv (o_eq rfl rfl) ?_
  refine wa rfl ?_
  refine wl_x ?_
  refine wc_cond (b := decide (c.fKind = 2)) rfl (fun c5 => ?_) (fun c5 => ?_)
  ·have h6 := cnd_t c5 h4
   refine wc_sr ?_
   refine wv (o_fieldAddr Tryd.underlying40 rfl Tryd.sizeOf3 rfl rfl) ?_
   refine wv (o_load (i := 0) Tryd.isAgg3 rfl rfl rfl) ?_
   refine wv (r := rI .i64 (IntKind.wrap .i64 (5 - c.fInt))) (o_subw rfl rfl) ?_
   refine wa rfl ?_
   refine wl_x ?_
   refine wc_ret ?_
   refine wk_in_ret ?_
   refine wk_then_ret ?_
   obtain rfl := some_e h6
   exact wk_ret (r_1 Tryd.results49 (rv_t rfl)) (sS sN) ⟨rfl, rfl⟩
  ·have h7 := cnd_f c5 h4
   refine wc_sr ?_
   refine wv (o_eq rfl rfl) ?_
   refine wa rfl ?_
   refine wl_x ?_
   refine wc_cond (b := decide (c.fKind = 3)) rfl (fun c8 => ?_) (fun c8 => ?_)
   ·have h9 := cnd_t c8 h7
    refine wc_sr ?_
    refine wv (o_fieldAddr Tryd.underlying40 rfl Tryd.sizeOf3 rfl rfl) ?_
    refine wv (o_load (i := 0) Tryd.isAgg3 rfl rfl rfl) ?_
    obtain ⟨g10, h11⟩ := chk_e h9
    refine w_call0 (rs := [rI .i64 c.fInt]) (r := rS (Lib.itoa c.fInt)) Tryd.call40 rfl (format_q c.fInt g10) rfl rfl ?_
    refine wv (o_len_s Tryd.underlying9 rfl) ?_
    refine wa rfl ?_
    refine wl_x ?_
    refine wc_ret ?_
    refine wk_in_ret ?_
    refine wk_then_ret ?_
    obtain rfl := some_e h11
    exact wk_ret (r_1 Tryd.results49 (rv_t rfl)) (sS sN) ⟨rfl, rfl⟩
   ·have h12 := cnd_f c8 h7
    refine wc_sr ?_
    refine wv (o_eq rfl rfl) ?_
    refine wa rfl ?_
    refine wl_x ?_
    refine wc_cond (b := decide (c.fKind = 4)) rfl (fun c13 => ?_) (fun c13 => ?_)
    ·have h14 := cnd_t c13 h12
     refine wc_sr ?_
     refine wv (o_fieldAddr Tryd.underlying40 rfl Tryd.sizeOf9 rfl rfl) ?_
     refine wv (o_load (i := 0) Tryd.isAgg9 rfl rfl rfl) ?_
     obtain ⟨r15, e17, h16⟩ := obn_e h14
     refine wc0 Tryd.call48 (vQuoted_w c.fStr r15 e17) rfl ?_
     refine wa rfl ?_
     refine wl_x ?_
     refine wc_ret ?_
     refine wk_in_ret ?_
     refine wk_then_ret ?_
     obtain rfl := some_e h16
     exact wk_ret (r_1 Tryd.results49 (rv_t rfl)) (sS sN) ⟨rfl, rfl⟩
    ·have h18 := cnd_f c13 h12
     refine wc_skip ?_
     refine wk_in_norm ?_
     refine wk_x ?_
     refine wc_sr ?_
     refine wv (o_fieldAddr Tryd.underlying40 rfl Tryd.sizeOf3 rfl rfl) ?_
     refine wv (o_load (i := 0) Tryd.isAgg3 rfl rfl rfl) ?_
     refine wv (r := rI .i64 (IntKind.wrap .i64 (c.fN - 1))) (o_subw rfl rfl) ?_
     refine wv (o_max Tryd.underlying3 rfl rfl) ?_
     refine wv (r := rI .i64 (IntKind.wrap .i64 (2 + (max 0 (IntKind.wrap .i64 (c.fN - 1)))))) (o_addw rfl rfl) ?_
     refine wa rfl ?_
     refine wl_x ?_
     refine wc_ret ?_
     obtain rfl := some_e h18
     exact wk_ret (r_1 Tryd.results49 (rv_t rfl)) (sS sN) ⟨rfl, rfl⟩

theorem vClosed_w (F : Nat) (v_stack : Value) (stack : (List TValueOpen)) (r : (List TValueOpen)) (h : vClosed F stack = some r) : Fn Tryd.prog GE 51 [rv v_stack] [.row v_stack 79 5 (List.map eTValueOpen stack)] (fun R H => ∃ u0 : Value, R = rv u0 ∧ H = [.row u0 79 5 (List.map eTValueOpen r)]) := by
 refine enter (n := 38) Tryd.func51 rfl Tryd.ntmps51 rfl (fun w Z => ?_)
 refine wc_as (l' := [(0, rv v_stack)]) (H' := [.row v_stack 79 5 (List.map eTValueOpen stack)]) rfl rfl ?_
 unfold vClosed at h
 refine wc_sr ?_
 refine wv (r := rv (.slice none 0 0)) (o_assign rfl) ?_
 refine wl_x ?_
 refine wc_seq ?_
 refine wc_block ?_
 obtain ⟨o186, eo187, hK188⟩ := obn_e h
 refine wc_loop2 (S := Nat × ((List TValueOpen)) × (Value)) (V := ((List TValueOpen)) × (Value)) 0 (fun σ => lop (fun σ => vClosed_b1 σ) σ.1 σ.2.1 = some o186) (fun σ => [(0, rv σ.2.2), (2, rv (.slice none 0 0))]) (fun σ => [.row σ.2.2 79 5 (List.map eTValueOpen σ.2.1)]) (fun σ => σ.1) (F, stack, v_stack) eo187 (Sub.c rfl (Sub.c rfl Sub.nil)) (sC sN) (fun σ => vClosed_k1 σ.1 = some r) (fun σ => [(0, rv σ.2), (2, rv (.slice none 0 0))]) (fun σ => [.row σ.2 79 5 (List.map eTValueOpen σ.1)]) ?_ ?_
 ·rintro ⟨n194, x159, v160⟩ hi192
  refine wc_as (l' := [(0, rv v160), (2, rv (.slice none 0 0))]) (H' := [.row v160 79 5 (List.map eTValueOpen x159)]) rfl rfl ?_
  obtain ⟨m191, rfl, t189, h193, ht190⟩ := lop_e hi192
  replace h193 : vClosed_b1 x159 = some t189 := h193
  unfold vClosed_b1 at h193
  refine wc_seq ?_
  refine wc_sr ?_
  refine wm rfl ?_
  refine wv (o_len_wt (ys := x159) (enc := eTValueOpen) (i := 0) Tryd.underlying76 rfl rfl) ?_
  refine wv (o_gt rfl rfl) ?_
  refine wl_x ?_
  refine wc_cond (b := decide (0 < (x159.length : Int))) rfl (fun c195 => ?_) (fun c195 => ?_)
  ·have h196 := cnd_t c195 h193
   refine wc_skip ?_
   refine wk_x ?_
   refine wc_block ?_
   refine wc_sr ?_
   refine wm rfl ?_
   refine wm rfl ?_
   refine wv (o_len_wt (ys := x159) (enc := eTValueOpen) (i := 0) Tryd.underlying76 rfl rfl) ?_
   obtain ⟨g197, h198⟩ := chk_e h196
   refine wv (o_sub rfl rfl g197) ?_
   obtain ⟨g199, h200⟩ := chk_e h198
   refine wv (r := rv (elp 5 v160 (Int.toNat ((x159.length : Int) - 1)) 0)) (o_ix_w (i := 0) Tryd.underlying76 Tryd.sizeOf79 rfl rfl rfl (len_map g199)) ?_
   refine wa rfl ?_
   refine wl_y ?_
   refine wm rfl ?_
   refine wv (r := rv (elp 5 v160 (Int.toNat ((x159.length : Int) - 1)) 0)) (o_nilcheck_w (k := 0) rfl (len_map g199) rfl rfl) ?_
   refine wv (r := rv (elp 5 v160 (Int.toNat ((x159.length : Int) - 1)) 1)) (o_fa_w (k := 0) Tryd.underlying79 rfl Tryd.sizeOf3 rfl (len_map g199) rfl rfl rfl) ?_
   refine wv (r := rI .i64 ((at' x159 ((x159.length : Int) - 1)).fLeft)) (o_ld_w (enc := eTValueOpen) (ys := x159) (i := 0) (j := (x159.length : Int) - 1) Tryd.isAgg3 rfl rfl g199 rfl) ?_
   obtain ⟨g201, h202⟩ := chk_e h200
   refine wv (o_sub rfl rfl g201) ?_
   refine wv (r := rv (elp 5 v160 (Int.toNat ((x159.length : Int) - 1)) 0)) (o_nilcheck_w (k := 0) rfl (len_map g199) rfl rfl) ?_
   refine wv (r := rv (elp 5 v160 (Int.toNat ((x159.length : Int) - 1)) 1)) (o_fa_w (k := 0) Tryd.underlying79 rfl Tryd.sizeOf3 rfl (len_map g199) rfl rfl rfl) ?_
   refine u_st_w (enc := eTValueOpen) (ys := x159) (y' := (TValueOpen.mk ((at' x159 ((x159.length : Int) - 1)).fPairs) (((at' x159 ((x159.length : Int) - 1)).fLeft) - 1) ((at' x159 ((x159.length : Int) - 1)).fKey) ((at' x159 ((x159.length : Int) - 1)).fLast) ((at' x159 ((x159.length : Int) - 1)).fStarted))) (i := 0) (j := (x159.length : Int) - 1) Tryd.sizeOf3 rfl rfl (one_c rfl) rfl g199 rfl rfl (H' := [.row v160 79 5 (List.map eTValueOpen (List.set x159 (Int.toNat ((x159.length : Int) - 1)) (TValueOpen.mk ((at' x159 ((x159.length : Int) - 1)).fPairs) (((at' x159 ((x159.length : Int) - 1)).fLeft) - 1) ((at' x159 ((x159.length : Int) - 1)).fKey) ((at' x159 ((x159.length : Int) - 1)).fLast) ((at' x159 ((x159.length : Int) - 1)).fStarted))))]) rfl ?_
   obtain ⟨r203, e205, h204⟩ := bnd_e h202
   rw [← e205]
   refine wl_x ?_
   refine wc_seq ?_
   refine wc_sr ?_
   refine wm rfl ?_
   refine wv (r := rv (elp 5 v160 (Int.toNat ((x159.length : Int) - 1)) 0)) (o_nilcheck_w (k := 0) rfl (len_map (inR_set g199 e205)) rfl rfl) ?_
   refine wv (r := rv (elp 5 v160 (Int.toNat ((x159.length : Int) - 1)) 1)) (o_fa_w (k := 0) Tryd.underlying79 rfl Tryd.sizeOf3 rfl (len_map (inR_set g199 e205)) rfl rfl rfl) ?_
   refine wv (r := rI .i64 ((at' r203 ((x159.length : Int) - 1)).fLeft)) (o_ld_w (enc := eTValueOpen) (ys := r203) (i := 0) (j := (x159.length : Int) - 1) Tryd.isAgg3 rfl rfl (inR_set g199 e205) rfl) ?_
   refine wv (o_gt rfl rfl) ?_
   refine wl_x ?_
   refine wc_cond (b := decide (0 < ((at' r203 ((x159.length : Int) - 1)).fLeft))) rfl (fun c206 => ?_) (fun c206 => ?_)
   ·have h207 := cnd_t c206 h204
    refine wc_sr ?_
    refine wm rfl ?_
    refine wm rfl ?_
    refine wv (r := rv (elp 5 v160 (Int.toNat ((x159.length : Int) - 1)) 0)) (o_nilcheck_w (k := 0) rfl (len_map (inR_set g199 e205)) rfl rfl) ?_
    refine wv (r := rv (elp 5 v160 (Int.toNat ((x159.length : Int) - 1)) 0)) (o_fa_w (k := 0) Tryd.underlying79 rfl Tryd.sizeOf4 rfl (len_map (inR_set g199 e205)) rfl rfl rfl) ?_
    refine wv (r := rB ((at' r203 ((x159.length : Int) - 1)).fPairs)) (o_ld_w (enc := eTValueOpen) (ys := r203) (i := 0) (j := (x159.length : Int) - 1) Tryd.isAgg4 rfl rfl (inR_set g199 e205) rfl) ?_
    refine wv (r := rv (elp 5 v160 (Int.toNat ((x159.length : Int) - 1)) 0)) (o_nilcheck_w (k := 0) rfl (len_map (inR_set g199 e205)) rfl rfl) ?_
    refine wv (r := rv (elp 5 v160 (Int.toNat ((x159.length : Int) - 1)) 2)) (o_fa_w (k := 0) Tryd.underlying79 rfl Tryd.sizeOf4 rfl (len_map (inR_set g199 e205)) rfl rfl rfl) ?_
    refine u_st_w (enc := eTValueOpen) (ys := r203) (y' := (TValueOpen.mk ((at' r203 ((x159.length : Int) - 1)).fPairs) ((at' r203 ((x159.length : Int) - 1)).fLeft) ((at' r203 ((x159.length : Int) - 1)).fPairs) ((at' r203 ((x159.length : Int) - 1)).fLast) ((at' r203 ((x159.length : Int) - 1)).fStarted))) (i := 0) (j := (x159.length : Int) - 1) Tryd.sizeOf4 rfl rfl (one_c rfl) rfl (inR_set g199 e205) rfl rfl (H' := [.row v160 79 5 (List.map eTValueOpen (List.set r203 (Int.toNat ((x159.length : Int) - 1)) (TValueOpen.mk ((at' r203 ((x159.length : Int) - 1)).fPairs) ((at' r203 ((x159.length : Int) - 1)).fLeft) ((at' r203 ((x159.length : Int) - 1)).fPairs) ((at' r203 ((x159.length : Int) - 1)).fLast) ((at' r203 ((x159.length : Int) - 1)).fStarted))))]) rfl ?_
    obtain ⟨r208, e210, h209⟩ := bnd_e h207
    rw [← e210]
    refine wl_y ?_
    refine wm rfl ?_
    refine wa rfl ?_
    refine wl_x ?_
    refine wc_ret ?_
    refine wk_then_ret ?_
    refine wk_in_ret ?_
    refine wk_then_ret ?_
    refine wk_cut_ret ?_
    have h211 := stp_ret h209 ht190 hK188
    refine wk_in_ret ?_
    refine wk_then_ret ?_
    obtain rfl := some_e h211
    exact wk_ret (r_1 Tryd.results51 (rv_t rfl)) (sC sN) ⟨v160, rfl, rfl⟩
   ·have h212 := cnd_f c206 h204
    refine wc_skip ?_
    refine wk_x ?_
    refine wc_region ?_
    refine wm rfl ?_
    refine wm rfl ?_
    refine wv (o_len_wt (ys := r203) (enc := eTValueOpen) (i := 0) Tryd.underlying76 rfl rfl) ?_
    obtain ⟨g213, h214⟩ := chk_e h212
    refine wv (o_sub rfl rfl g213) ?_
    obtain ⟨g216, h217⟩ := chk_e h214
    refine w_cut (i := 0) Tryd.underlying76 Tryd.sizeOf79 rfl rfl rfl g216 rfl (fun v215 => ?_)
    refine wa rfl ?_
    refine wl_nil ?_
    refine wk_in_norm ?_
    have h218 := stp_next h217 ht190
    exact wk_then (wk_some (m191, List.take (Int.toNat ((r203.length : Int) - 1)) r203, v215) ⟨h218, Nat.lt_succ_self _⟩ (Sub.c rfl (Sub.c rfl Sub.nil)) (sC sN))
  ·have h219 := cnd_f c195 h193
   refine wc_exit ?_
   refine wk_then_exit ?_
   have h220 := stp_go h219 ht190 hK188
   exact wk_then_exit (wk_cut_hit (wk_some (x159, v160) h220 (Sub.c rfl (Sub.c rfl Sub.nil)) (sC sN)))
 ·rintro ⟨x184, v185⟩ h221
  refine wk_as (l' := [(0, rv v185), (2, rv (.slice none 0 0))]) (H' := [.row v185 79 5 (List.map eTValueOpen x184)]) rfl rfl ?_
  replace h221 : vClosed_k1 x184 = some r := h221
  unfold vClosed_k1 at h221
  refine wk_in_hit ?_
  refine wk_x ?_
  refine wc_sr ?_
  refine wm rfl ?_
  refine wa rfl ?_
  refine wl_x ?_
  refine wc_ret ?_
  obtain rfl := some_e h221
  exact wk_ret (r_1 Tryd.results51 (rv_t rfl)) (sC sN) ⟨v185, rfl, rfl⟩

theorem vLook_w (F : Nat) (v : (List TApiCell)) (r : Int × TValueShape × Bool) (h : vLook F v = some r) : Fn Tryd.prog GE 27 [rSl 4 (List.map eTApiCell v)] [] (fun R H => R = rTup [rI .i64 r.1, rAgg (eTValueShape r.2.1), rB r.2.2] ∧ H = []) := by
 refine enter (n := 152) Tryd.func27 rfl Tryd.ntmps27 rfl (fun w Z => ?_)
 refine wc_as (l' := [(0, rSl 4 (List.map eTApiCell v))]) (H' := []) rfl rfl ?_
 unfold vLook at h
 refine wc_sr ?_
 refine wv (r := rI .i64 0) (o_assign rfl) ?_
 refine w_alloc (cs := [rI .i64 0, rI .i64 0, rB false, rB false]) Tryd.zeroValue55 rfl rfl (fun b1 => ?_)
 refine wv (r := rB false) (o_assign rfl) ?_
 refine wl_x ?_
 refine wc_scope ?_
 refine wc_sr ?_
 refine w_alloc (cs := [rI .i64 0, rI .i64 0, rB false, rB false]) Tryd.zeroValue55 rfl rfl (fun b2 => ?_)
 refine wl_y ?_
 refine wv (r := rv (.slice none 0 0)) (o_assign rfl) ?_
 refine wl_x ?_
 refine wc_seq ?_
 refine wc_label ?_
 refine wk_x ?_
 refine wc_seq ?_
 refine wc_sr ?_
 refine wm rfl ?_
 refine wv (o_len_zt (ys := v) (enc := eTApiCell) Tryd.underlying22 rfl) ?_
 refine wv (r := rI .i64 0) (o_move rfl) ?_
 refine wl_x ?_
 refine wc_block ?_
 refine WC.nilrow (e := 79) (sz := 5) ?_
 refine wc_perm (H2 := [.blk b2 [rI .i64 0, rI .i64 0, rB false, rB false] 55, .blk b1 [rI .i64 0, rI .i64 0, rB false, rB false] 55, .row (.slice none 0 0                                                                               ) 79 5 (List.map eTValueOpen ([] : List TValueOpen))]) ((perm_front (i := 1) rfl).trans (List.Perm.cons _ ((perm_front (i := 1) rfl).trans (List.Perm.cons _ (List.Perm.refl _))))) ?_
 obtain ⟨o387, eo388, hK389⟩ := obn_e h
 refine wc_loop2 (S := Nat × ((List TValueOpen) × Int × TValueShape) × (Value)) (V := (TValueShape) × (Unit)) 0 (fun σ => lop (fun σ => vLook_b1 F v σ.1 σ.2.1 σ.2.2) σ.1 σ.2.1 = some o387) (fun σ => [(0, rSl 4 (List.map eTApiCell v)), (3, rv (.pointer (some ⟨b1, 0, none⟩))), (5, rv (.pointer (some ⟨b2, 0, none⟩))), (6, rv σ.2.2), (11, rSl 4 (List.map eTApiCell v)), (12, rI .i64 (v.length : Int)), (13, rI .i64 σ.2.1.2.1)]) (fun σ => [.blk b2 (eTValueShape σ.2.1.2.2) 55, .blk b1 [rI .i64 0, rI .i64 0, rB false, rB false] 55, .row σ.2.2 79 5 (List.map eTValueOpen σ.2.1.1)]) (fun σ => σ.1) (F, (([] : List TValueOpen), 0, (TValueShape.mk 0 0 false false)), (.slice none 0 0                                                                               )) eo388 (Sub.c rfl (Sub.c rfl (Sub.c5 rfl rfl rfl rfl rfl Sub.nil))) (sC (sC (sC sN))) (fun σ => vLook_k1 σ.1 = some r) (fun σ => [(3, rv (.pointer (some ⟨b1, 0, none⟩))), (5, rv (.pointer (some ⟨b2, 0, none⟩)))]) (fun σ => [.blk b2 (eTValueShape σ.1) 55, .blk b1 [rI .i64 0, rI .i64 0, rB false, rB false] 55]) ?_ ?_
 ·rintro ⟨n395, ⟨x233, x235, x236⟩, v234⟩ hi393
  refine wc_as (l' := [(0, rSl 4 (List.map eTApiCell v)), (3, rv (.pointer (some ⟨b1, 0, none⟩))), (5, rv (.pointer (some ⟨b2, 0, none⟩))), (6, rv v234), (11, rSl 4 (List.map eTApiCell v)), (12, rI .i64 (v.length : Int)), (13, rI .i64 x235)]) (H' := [.blk b2 (eTValueShape x236) 55, .blk b1 [rI .i64 0, rI .i64 0, rB false, rB false] 55, .row v234 79 5 (List.map eTValueOpen x233)]) rfl rfl ?_
  obtain ⟨m392, rfl, t390, h394, ht391⟩ := lop_e hi393
  replace h394 : vLook_b1 F v x233 x235 x236 = some t390 := h394
  unfold vLook_b1 at h394
  refine wc_sr ?_
  refine wv (o_lt rfl rfl) ?_
  refine wl_x ?_
  refine wc_seq ?_
  refine wc_cond (b := decide (x235 < (v.length : Int))) rfl (fun c396 => ?_) (fun c396 => ?_)
  ·have h397 := cnd_t c396 h394
   refine wc_skip ?_
   refine wk_x ?_
   refine wc_seq_cut (S := ((List TValueOpen) × TValueShape) × (Value)) (fun σ => vLook_j2 x235 σ.1.1 σ.1.2 = some t390) (fun σ => [(0, rSl 4 (List.map eTApiCell v)), (3, rv (.pointer (some ⟨b1, 0, none⟩))), (5, rv (.pointer (some ⟨b2, 0, none⟩))), (6, rv σ.2), (11, rSl 4 (List.map eTApiCell v)), (12, rI .i64 (v.length : Int)), (13, rI .i64 x235)]) (fun σ => [.blk b2 (eTValueShape σ.1.2) 55, .blk b1 [rI .i64 0, rI .i64 0, rB false, rB false] 55, .row σ.2 79 5 (List.map eTValueOpen σ.1.1)]) ?_ ?_
   ·refine wc_block ?_
    refine wc_sr ?_
    refine wm rfl ?_
    obtain ⟨g471, h472⟩ := chk_e h397
    refine wv (o_ix_z (enc := eTApiCell) (ys := v) Tryd.underlying22 Tryd.sizeOf40 rfl rfl g471) ?_
    refine wv (o_load_za Tryd.isAgg40 Tryd.sizeOf40 rfl rfl rfl) ?_
    refine w_alloc (cs := [rI .i64 0, rI .i64 0, rS ([] : Str), rI .i64 0]) Tryd.zeroValue40 rfl rfl (fun b473 => ?_)
    refine wa rfl ?_
    refine u_store_agg (i := 0) Tryd.sizeOf40 rfl rfl rfl (OneAll.c rfl) rfl rfl (cs' := [rI .i64 ((at' v x235).fKind), rI .i64 ((at' v x235).fInt), rS ((at' v x235).fStr), rI .i64 ((at' v x235).fN)]) rfl (H' := [.blk b473 (eTApiCell (at' v x235)) 40, .blk b2 (eTValueShape x236) 55, .blk b1 [rI .i64 0, rI .i64 0, rB false, rB false] 55, .row v234 79 5 (List.map eTValueOpen x233)]) rfl ?_
    refine wl_x ?_
    refine wc_seq ?_
    refine wc_sr ?_
    refine wv (o_load_agg (i := 0) Tryd.isAgg40 Tryd.sizeOf40 rfl rfl rfl rfl) ?_
    obtain ⟨r474, e476, h475⟩ := obn_e h472
    refine wc0 Tryd.call47 (vPlain_w F (at' v x235) r474 e476) rfl ?_
    refine wv (o_not rfl) ?_
    refine wl_x ?_
    refine wc_cond (b := !r474) rfl (fun c477 => ?_) (fun c477 => ?_)
    ·have h478 := cnd_t c477 h475
     refine wc_seq ?_
     refine wc_rdk (H1 := [.blk b473 (eTApiCell (at' v x235)) 40, .blk b2 (eTValueShape x236) 55, .blk b1 (eTValueShape x236) 55, .row v234 79 5 (List.map eTValueOpen x233)]) [3, 5] [⟨[], rAgg (eTValueShape x236), 1⟩, ⟨[], rI .i64 0, 0⟩, ⟨[0], rv undef, 2⟩, ⟨[], rB false, 0⟩] (rle [(3, _), (2, [.blk b473 (eTApiCell (at' v x235)) 40, .blk b2 (eTValueShape x236) 55, .blk b1 (eTValueShape x236) 55, .row v234 79 5 (List.map eTValueOpen x233)])]) [2, 4, 3] ?_ ?_
     ·refine of (o_load_agg (i := 1) Tryd.isAgg55 Tryd.sizeOf55 rfl rfl rfl rfl) ?_
      refine oq (o_assign rfl) ?_
      refine obl_l rfl (ok_u (U_u_store_agg (i := 2) Tryd.sizeOf55 rfl rfl rfl (OneAll.c rfl) rfl rfl (cs' := [rI .i64 x236.fDepth, rI .i64 x236.fBytes, rB x236.fOutside, rB x236.fLong]) rfl (H' := [.blk b473 (eTApiCell (at' v x235)) 40, .blk b2 (eTValueShape x236) 55, .blk b1 (eTValueShape x236) 55, .row v234 79 5 (List.map eTValueOpen x233)]) rfl)) ?_
      refine oq (o_assign rfl) ?_
      exact obl_e
     refine wk_x ?_
     refine wc_ret ?_
     refine wk_then_ret ?_
     refine wk_in_ret ?_
     refine wk_then_ret ?_
     refine wk_then_ret ?_
     refine wk_cut_ret ?_
     have h479 := stp_ret h478 ht391 hK389
     refine wk_in_ret ?_
     refine wk_then_ret ?_
     refine wk_ng_r ?_
     obtain rfl := some_e h479
     exact wk_ret (r_3 Tryd.results27 (rv_t rfl) (rv_ca (i := 2) Tryd.isAgg55 Tryd.sizeOf55 rfl rfl rfl) (rv_t rfl)) (sS (sS (sS (sS sN)))) ⟨rfl, rfl⟩
    ·have h480 := cnd_f c477 h475
     refine wc_skip ?_
     refine wk_x ?_
     refine wc_seq ?_
     refine wc_sr ?_
     refine wm rfl ?_
     refine wv (o_len_wt (ys := x233) (enc := eTValueOpen) (i := 3) Tryd.underlying76 rfl rfl) ?_
     refine wa rfl ?_
     refine wl_x ?_
     obtain ⟨g481, h482⟩ := chk_e h480
     obtain ⟨g483, h484⟩ := chk_e h482
     refine wc_seq_mid [(0, rSl 4 (List.map eTApiCell v)), (3, rv (.pointer (some ⟨b1, 0, none⟩))), (5, rv (.pointer (some ⟨b2, 0, none⟩))), (6, rv v234), (7, rI .i64 x235), (8, rv (.pointer (some ⟨b473, 0, none⟩))), (9, rI .i64 (x233.length : Int)), (11, rSl 4 (List.map eTApiCell v)), (12, rI .i64 (v.length : Int)), (13, rI .i64 x235), (33, rB ((decide (0 < (x233.length : Int))) && ((at' x233 ((x233.length : Int) - 1)).fKey)))] [.blk b473 (eTApiCell (at' v x235)) 40, .blk b2 (eTValueShape x236) 55, .blk b1 [rI .i64 0, rI .i64 0, rB false, rB false] 55, .row v234 79 5 (List.map eTValueOpen x233)] ?_ ?_
     ·refine wc_region ?_
      refine wm rfl ?_
      refine wv (o_gt rfl rfl) ?_
      refine wm rfl ?_
      refine bsplit (decide (0 < (x233.length : Int))) (fun c485 => ?_) (fun c485 => ?_)
      ·refine wo c485 ?_
       refine wm rfl ?_
       refine wo c485 ?_
       refine wm rfl ?_
       refine wo c485 ?_
       refine wv (o_sub rfl rfl (imp_t g481 c485)) ?_
       refine wo c485 ?_
       refine wv (r := rv (elp 5 v234 (Int.toNat ((x233.length : Int) - 1)) 0)) (o_ix_w (i := 3) Tryd.underlying76 Tryd.sizeOf79 rfl rfl rfl (len_map (imp_t g483 c485))) ?_
       refine wo c485 ?_
       refine wv (r := rv (elp 5 v234 (Int.toNat ((x233.length : Int) - 1)) 2)) (o_fa_w (k := 3) Tryd.underlying79 rfl Tryd.sizeOf4 rfl (len_map (imp_t g483 c485)) rfl rfl rfl) ?_
       refine wo c485 ?_
       refine wv (r := rB ((at' x233 ((x233.length : Int) - 1)).fKey)) (o_ld_w (enc := eTValueOpen) (ys := x233) (i := 3) (j := (x233.length : Int) - 1) Tryd.isAgg4 rfl rfl (imp_t g483 c485) rfl) ?_
       refine wpt rfl c485 rfl ?_
       refine wl_nil ?_
       exact wtc c485
      ·refine wf c485 ?_
       refine wf c485 ?_
       refine wf c485 ?_
       refine wf c485 ?_
       refine wf c485 ?_
       refine wf c485 ?_
       refine wv (r := rB false) (o_pick_f (b := decide (0 < (x233.length : Int))) rfl c485 rfl) ?_
       refine wl_nil ?_
       exact wtc c485
     refine wc_cond (b := ((decide (0 < (x233.length : Int))) && ((at' x233 ((x233.length : Int) - 1)).fKey))) rfl (fun c486 => ?_) (fun c486 => ?_)
     ·have h487 := cnd_t c486 h484
      refine wc_sr ?_
      refine wm rfl ?_
      refine wm rfl ?_
      obtain ⟨g488, h489⟩ := chk_e h487
      refine wv (o_sub rfl rfl g488) ?_
      obtain ⟨g490, h491⟩ := chk_e h489
      refine wv (r := rv (elp 5 v234 (Int.toNat ((x233.length : Int) - 1)) 0)) (o_ix_w (i := 3) Tryd.underlying76 Tryd.sizeOf79 rfl rfl rfl (len_map g490)) ?_
      refine wa rfl ?_
      refine wl_x ?_
      refine wc_seq ?_
      refine wc_seq_mid [(0, rSl 4 (List.map eTApiCell v)), (3, rv (.pointer (some ⟨b1, 0, none⟩))), (5, rv (.pointer (some ⟨b2, 0, none⟩))), (6, rv v234), (8, rv (.pointer (some ⟨b473, 0, none⟩))), (10, rv (elp 5 v234 (Int.toNat ((x233.length : Int) - 1)) 0)), (11, rSl 4 (List.map eTApiCell v)), (12, rI .i64 (v.length : Int)), (13, rI .i64 x235), (38, rv (.pointer (some ⟨b473, 0, none⟩))), (39, rI .i64 ((at' v x235).fKind)), (40, rB (!decide (((at' v x235).fKind) = 4))), (41, rB (!decide (((at' v x235).fKind) = 4))), (55, rB ((!decide (((at' v x235).fKind) = 4)) || (((at' x233 ((x233.length : Int) - 1)).fStarted) && (sLess ((at' v x235).fStr) ((at' x233 ((x233.length : Int) - 1)).fLast) || decide (((at' v x235).fStr) = ((at' x233 ((x233.length : Int) - 1)).fLast))))))] [.blk b473 (eTApiCell (at' v x235)) 40, .blk b2 (eTValueShape x236) 55, .blk b1 [rI .i64 0, rI .i64 0, rB false, rB false] 55, .row v234 79 5 (List.map eTValueOpen x233)] ?_ ?_
      ·refine bsplit (!decide (((at' v x235).fKind) = 4)) (fun c492 => ?_) (fun c492 => ?_)
       ·refine wc_rdq [0, 3, 5, 6, 8, 10, 11, 12, 13] [⟨[], rv (.pointer (some ⟨b473, 0, none⟩)), 0⟩, ⟨[0], rI .i64 ((at' v x235).fKind), 1⟩, ⟨[1], rB (!decide (((at' v x235).fKind) = 4)), 0⟩, ⟨[2], rB (!decide (((at' v x235).fKind) = 4)), 0⟩, ⟨[3], rv undef, 0⟩, ⟨[4, 3], rv undef, 0⟩, ⟨[5, 3], rv undef, 0⟩, ⟨[6, 3], rv undef, 0⟩, ⟨[7, 3], rv undef, 0⟩, ⟨[8], rv undef, 0⟩, ⟨[9, 8], rv undef, 0⟩, ⟨[8], rv undef, 0⟩, ⟨[11, 8], rv undef, 0⟩, ⟨[12, 8], rv undef, 0⟩, ⟨[13, 8], rv undef, 0⟩, ⟨[10, 14, 8], rv undef, 0⟩, ⟨[8, 15, 3], rv undef, 0⟩, ⟨[3, 16], rB true, 0⟩] [38, 39, 40, 41, 42, 43, 44, 45, 46, 47, 48, 49, 50, 51, 52, 53, 54, 55, 0, 3, 5, 6, 8, 10, 11, 12, 13] ?_ ?_
        ·refine oq (o_fieldAddr Tryd.underlying40 rfl Tryd.sizeOf38 rfl rfl) ?_
         refine of (o_load (i := 0) Tryd.isAgg38 rfl rfl rfl) ?_
         refine oq (o_ne rfl rfl) ?_
         refine oq (o_move rfl) ?_
         refine oz c492 ?_
         refine oz c492 ?_
         refine oz c492 ?_
         refine oz c492 ?_
         refine oz c492 ?_
         refine ou ?_
         refine ou ?_
         refine ou ?_
         refine ou ?_
         refine ou ?_
         refine ou ?_
         refine ou ?_
         refine oz c492 ?_
         refine oq (o_pick_t (b := !decide (((at' v x235).fKind) = 4)) rfl c492 rfl) ?_
         exact obl_e
        exact wtc c492
       ·refine bsplit ((at' x233 ((x233.length : Int) - 1)).fStarted) (fun c493 => ?_) (fun c493 => ?_)
        ·refine wc_rdq [0, 3, 5, 6, 8, 10, 11, 12, 13] [⟨[], rv (.pointer (some ⟨b473, 0, none⟩)), 0⟩, ⟨[0], rI .i64 ((at' v x235).fKind), 1⟩, ⟨[1], rB (!decide (((at' v x235).fKind) = 4)), 0⟩, ⟨[2], rB (!decide (((at' v x235).fKind) = 4)), 0⟩, ⟨[3], rv (elp 5 v234 (Int.toNat ((x233.length : Int) - 1)) 0), 0⟩, ⟨[4, 3], rv (elp 5 v234 (Int.toNat ((x233.length : Int) - 1)) 0), 1⟩, ⟨[5, 3], rv (elp 5 v234 (Int.toNat ((x233.length : Int) - 1)) 4), 1⟩, ⟨[6, 3], rB ((at' x233 ((x233.length : Int) - 1)).fStarted), 1⟩, ⟨[7, 3], rB ((at' x233 ((x233.length : Int) - 1)).fStarted), 0⟩, ⟨[8], rv (.pointer (some ⟨b473, 2, none⟩)), 0⟩, ⟨[9, 8], rS ((at' v x235).fStr), 1⟩, ⟨[8], rv (elp 5 v234 (Int.toNat ((x233.length : Int) - 1)) 0), 0⟩, ⟨[11, 8], rv (elp 5 v234 (Int.toNat ((x233.length : Int) - 1)) 0), 1⟩, ⟨[12, 8], rv (elp 5 v234 (Int.toNat ((x233.length : Int) - 1)) 3), 1⟩, ⟨[13, 8], rS ((at' x233 ((x233.length : Int) - 1)).fLast), 1⟩, ⟨[10, 14, 8], rB (sLess ((at' v x235).fStr) ((at' x233 ((x233.length : Int) - 1)).fLast) || decide (((at' v x235).fStr) = ((at' x233 ((x233.length : Int) - 1)).fLast))), 0⟩, ⟨[8, 15, 3], rB (sLess ((at' v x235).fStr) ((at' x233 ((x233.length : Int) - 1)).fLast) || decide (((at' v x235).fStr) = ((at' x233 ((x233.length : Int) - 1)).fLast))), 0⟩, ⟨[3, 16], rB (sLess ((at' v x235).fStr) ((at' x233 ((x233.length : Int) - 1)).fLast) || decide (((at' v x235).fStr) = ((at' x233 ((x233.length : Int) - 1)).fLast))), 0⟩] [38, 39, 40, 41, 42, 43, 44, 45, 46, 47, 48, 49, 50, 51, 52, 53, 54, 55, 0, 3, 5, 6, 8, 10, 11, 12, 13] ?_ ?_
         ·refine oq (o_fieldAddr Tryd.underlying40 rfl Tryd.sizeOf38 rfl rfl) ?_
          refine of (o_load (i := 0) Tryd.isAgg38 rfl rfl rfl) ?_
          refine oq (o_ne rfl rfl) ?_
          refine oq (o_move rfl) ?_
          refine on c492 ?_
          refine oq (o_move rfl) ?_
          refine on c492 ?_
          refine of (o_nilcheck_w (k := 3) rfl (len_map g490) rfl rfl) ?_
          refine on c492 ?_
          refine of (o_fa_w (k := 3) Tryd.underlying79 rfl Tryd.sizeOf4 rfl (len_map g490) rfl rfl rfl) ?_
          refine on c492 ?_
          refine of (o_ld_w (enc := eTValueOpen) (ys := x233) (i := 3) (j := (x233.length : Int) - 1) Tryd.isAgg4 rfl rfl g490 rfl) ?_
          refine on c492 ?_
          refine oq (o_move rfl) ?_
          refine on c493 ?_
          refine oq (o_fieldAddr Tryd.underlying40 rfl Tryd.sizeOf9 rfl rfl) ?_
          refine on c493 ?_
          refine of (o_load (i := 0) Tryd.isAgg9 rfl rfl rfl) ?_
          refine on c493 ?_
          refine oq (o_move rfl) ?_
          refine on c493 ?_
          refine of (o_nilcheck_w (k := 3) rfl (len_map g490) rfl rfl) ?_
          refine on c493 ?_
          refine of (o_fa_w (k := 3) Tryd.underlying79 rfl Tryd.sizeOf9 rfl (len_map g490) rfl rfl rfl) ?_
          refine on c493 ?_
          refine of (o_ld_w (enc := eTValueOpen) (ys := x233) (i := 3) (j := (x233.length : Int) - 1) Tryd.isAgg9 rfl rfl g490 rfl) ?_
          refine on c493 ?_
          refine oq (o_sle rfl rfl) ?_
          refine on c492 ?_
          refine oq (o_pick_t rfl c493 rfl) ?_
          refine oq (o_pick_f rfl c492 rfl) ?_
          exact obl_e
         exact wtc (And.intro c492 c493)
        ·refine wc_rdq [0, 3, 5, 6, 8, 10, 11, 12, 13] [⟨[], rv (.pointer (some ⟨b473, 0, none⟩)), 0⟩, ⟨[0], rI .i64 ((at' v x235).fKind), 1⟩, ⟨[1], rB (!decide (((at' v x235).fKind) = 4)), 0⟩, ⟨[2], rB (!decide (((at' v x235).fKind) = 4)), 0⟩, ⟨[3], rv (elp 5 v234 (Int.toNat ((x233.length : Int) - 1)) 0), 0⟩, ⟨[4, 3], rv (elp 5 v234 (Int.toNat ((x233.length : Int) - 1)) 0), 1⟩, ⟨[5, 3], rv (elp 5 v234 (Int.toNat ((x233.length : Int) - 1)) 4), 1⟩, ⟨[6, 3], rB ((at' x233 ((x233.length : Int) - 1)).fStarted), 1⟩, ⟨[7, 3], rB ((at' x233 ((x233.length : Int) - 1)).fStarted), 0⟩, ⟨[8], rv undef, 0⟩, ⟨[9, 8], rv undef, 0⟩, ⟨[8], rv undef, 0⟩, ⟨[11, 8], rv undef, 0⟩, ⟨[12, 8], rv undef, 0⟩, ⟨[13, 8], rv undef, 0⟩, ⟨[10, 14, 8], rv undef, 0⟩, ⟨[8, 15, 3], rB false, 0⟩, ⟨[3, 16], rB false, 0⟩] [38, 39, 40, 41, 42, 43, 44, 45, 46, 47, 48, 49, 50, 51, 52, 53, 54, 55, 0, 3, 5, 6, 8, 10, 11, 12, 13] ?_ ?_
         ·refine oq (o_fieldAddr Tryd.underlying40 rfl Tryd.sizeOf38 rfl rfl) ?_
          refine of (o_load (i := 0) Tryd.isAgg38 rfl rfl rfl) ?_
          refine oq (o_ne rfl rfl) ?_
          refine oq (o_move rfl) ?_
          refine on c492 ?_
          refine oq (o_move rfl) ?_
          refine on c492 ?_
          refine of (o_nilcheck_w (k := 3) rfl (len_map g490) rfl rfl) ?_
          refine on c492 ?_
          refine of (o_fa_w (k := 3) Tryd.underlying79 rfl Tryd.sizeOf4 rfl (len_map g490) rfl rfl rfl) ?_
          refine on c492 ?_
          refine of (o_ld_w (enc := eTValueOpen) (ys := x233) (i := 3) (j := (x233.length : Int) - 1) Tryd.isAgg4 rfl rfl g490 rfl) ?_
          refine on c492 ?_
          refine oq (o_move rfl) ?_
          refine oz c493 ?_
          refine oz c493 ?_
          refine oz c493 ?_
          refine oz c493 ?_
          refine oz c493 ?_
          refine oz c493 ?_
          refine oz c493 ?_
          refine on c492 ?_
          refine oq (o_pick_f (b := (at' x233 ((x233.length : Int) - 1)).fStarted) rfl c493 rfl) ?_
          refine oq (o_pick_f rfl c492 rfl) ?_
          exact obl_e
         exact wtc (And.intro c492 c493)
      refine wc_cond (b := ((!decide (((at' v x235).fKind) = 4)) || (((at' x233 ((x233.length : Int) - 1)).fStarted) && (sLess ((at' v x235).fStr) ((at' x233 ((x233.length : Int) - 1)).fLast) || decide (((at' v x235).fStr) = ((at' x233 ((x233.length : Int) - 1)).fLast)))))) rfl (fun c494 => ?_) (fun c494 => ?_)
      ·have h495 := cnd_t c494 h491
       refine wc_seq ?_
       refine wc_rdk (H1 := [.blk b473 (eTApiCell (at' v x235)) 40, .blk b2 (eTValueShape x236) 55, .blk b1 (eTValueShape x236) 55, .row v234 79 5 (List.map eTValueOpen x233)]) [3, 5] [⟨[], rAgg (eTValueShape x236), 1⟩, ⟨[], rI .i64 0, 0⟩, ⟨[0], rv undef, 2⟩, ⟨[], rB false, 0⟩] (rle [(3, _), (2, [.blk b473 (eTApiCell (at' v x235)) 40, .blk b2 (eTValueShape x236) 55, .blk b1 (eTValueShape x236) 55, .row v234 79 5 (List.map eTValueOpen x233)])]) [2, 4, 3] ?_ ?_
       ·refine of (o_load_agg (i := 1) Tryd.isAgg55 Tryd.sizeOf55 rfl rfl rfl rfl) ?_
        refine oq (o_assign rfl) ?_
        refine obl_l rfl (ok_u (U_u_store_agg (i := 2) Tryd.sizeOf55 rfl rfl rfl (OneAll.c rfl) rfl rfl (cs' := [rI .i64 x236.fDepth, rI .i64 x236.fBytes, rB x236.fOutside, rB x236.fLong]) rfl (H' := [.blk b473 (eTApiCell (at' v x235)) 40, .blk b2 (eTValueShape x236) 55, .blk b1 (eTValueShape x236) 55, .row v234 79 5 (List.map eTValueOpen x233)]) rfl)) ?_
        refine oq (o_assign rfl) ?_
        exact obl_e
       refine wk_x ?_
       refine wc_ret ?_
       refine wk_then_ret ?_
       refine wk_then_ret ?_
       refine wk_in_ret ?_
       refine wk_then_ret ?_
       refine wk_then_ret ?_
       refine wk_cut_ret ?_
       have h496 := stp_ret h495 ht391 hK389
       refine wk_in_ret ?_
       refine wk_then_ret ?_
       refine wk_ng_r ?_
       obtain rfl := some_e h496
       exact wk_ret (r_3 Tryd.results27 (rv_t rfl) (rv_ca (i := 2) Tryd.isAgg55 Tryd.sizeOf55 rfl rfl rfl) (rv_t rfl)) (sS (sS (sS (sS sN)))) ⟨rfl, rfl⟩
      ·have h497 := cnd_f c494 h491
       refine wc_skip ?_
       refine wk_x ?_
       refine wc_sr ?_
       refine wm rfl ?_
       refine wm rfl ?_
       refine wm rfl ?_
       refine wv (o_fieldAddr Tryd.underlying40 rfl Tryd.sizeOf9 rfl rfl) ?_
       refine wv (o_load (i := 0) Tryd.isAgg9 rfl rfl rfl) ?_
       refine wv (r := rv (elp 5 v234 (Int.toNat ((x233.length : Int) - 1)) 0)) (o_nilcheck_w (k := 3) rfl (len_map g490) rfl rfl) ?_
       refine wv (r := rv (elp 5 v234 (Int.toNat ((x233.length : Int) - 1)) 3)) (o_fa_w (k := 3) Tryd.underlying79 rfl Tryd.sizeOf9 rfl (len_map g490) rfl rfl rfl) ?_
       refine u_st_w (enc := eTValueOpen) (ys := x233) (y' := (TValueOpen.mk ((at' x233 ((x233.length : Int) - 1)).fPairs) ((at' x233 ((x233.length : Int) - 1)).fLeft) ((at' x233 ((x233.length : Int) - 1)).fKey) ((at' v x235).fStr) ((at' x233 ((x233.length : Int) - 1)).fStarted))) (i := 3) (j := (x233.length : Int) - 1) Tryd.sizeOf9 rfl rfl (one_c rfl) rfl g490 rfl rfl (H' := [.blk b473 (eTApiCell (at' v x235)) 40, .blk b2 (eTValueShape x236) 55, .blk b1 [rI .i64 0, rI .i64 0, rB false, rB false] 55, .row v234 79 5 (List.map eTValueOpen (List.set x233 (Int.toNat ((x233.length : Int) - 1)) (TValueOpen.mk ((at' x233 ((x233.length : Int) - 1)).fPairs) ((at' x233 ((x233.length : Int) - 1)).fLeft) ((at' x233 ((x233.length : Int) - 1)).fKey) ((at' v x235).fStr) ((at' x233 ((x233.length : Int) - 1)).fStarted))))]) rfl ?_
       obtain ⟨r498, e500, h499⟩ := bnd_e h497
       rw [← e500]
       refine wv (r := rv (elp 5 v234 (Int.toNat ((x233.length : Int) - 1)) 0)) (o_nilcheck_w (k := 3) rfl (len_map (inR_set g490 e500)) rfl rfl) ?_
       refine wv (r := rv (elp 5 v234 (Int.toNat ((x233.length : Int) - 1)) 4)) (o_fa_w (k := 3) Tryd.underlying79 rfl Tryd.sizeOf4 rfl (len_map (inR_set g490 e500)) rfl rfl rfl) ?_
       refine u_st_w (enc := eTValueOpen) (ys := r498) (y' := (TValueOpen.mk ((at' r498 ((x233.length : Int) - 1)).fPairs) ((at' r498 ((x233.length : Int) - 1)).fLeft) ((at' r498 ((x233.length : Int) - 1)).fKey) ((at' r498 ((x233.length : Int) - 1)).fLast) true)) (i := 3) (j := (x233.length : Int) - 1) Tryd.sizeOf4 rfl rfl (one_c rfl) rfl (inR_set g490 e500) rfl rfl (H' := [.blk b473 (eTApiCell (at' v x235)) 40, .blk b2 (eTValueShape x236) 55, .blk b1 [rI .i64 0, rI .i64 0, rB false, rB false] 55, .row v234 79 5 (List.map eTValueOpen (List.set r498 (Int.toNat ((x233.length : Int) - 1)) (TValueOpen.mk ((at' r498 ((x233.length : Int) - 1)).fPairs) ((at' r498 ((x233.length : Int) - 1)).fLeft) ((at' r498 ((x233.length : Int) - 1)).fKey) ((at' r498 ((x233.length : Int) - 1)).fLast) true)))]) rfl ?_
       obtain ⟨r501, e503, h502⟩ := bnd_e h499
       rw [← e503]
       refine wv (r := rv (elp 5 v234 (Int.toNat ((x233.length : Int) - 1)) 0)) (o_nilcheck_w (k := 3) rfl (len_map (inR_set (inR_set g490 e500) e503)) rfl rfl) ?_
       refine wv (r := rv (elp 5 v234 (Int.toNat ((x233.length : Int) - 1)) 2)) (o_fa_w (k := 3) Tryd.underlying79 rfl Tryd.sizeOf4 rfl (len_map (inR_set (inR_set g490 e500) e503)) rfl rfl rfl) ?_
       refine u_st_w (enc := eTValueOpen) (ys := r501) (y' := (TValueOpen.mk ((at' r501 ((x233.length : Int) - 1)).fPairs) ((at' r501 ((x233.length : Int) - 1)).fLeft) false ((at' r501 ((x233.length : Int) - 1)).fLast) ((at' r501 ((x233.length : Int) - 1)).fStarted))) (i := 3) (j := (x233.length : Int) - 1) Tryd.sizeOf4 rfl rfl (one_c rfl) rfl (inR_set (inR_set g490 e500) e503) rfl rfl (H' := [.blk b473 (eTApiCell (at' v x235)) 40, .blk b2 (eTValueShape x236) 55, .blk b1 [rI .i64 0, rI .i64 0, rB false, rB false] 55, .row v234 79 5 (List.map eTValueOpen (List.set r501 (Int.toNat ((x233.length : Int) - 1)) (TValueOpen.mk ((at' r501 ((x233.length : Int) - 1)).fPairs) ((at' r501 ((x233.length : Int) - 1)).fLeft) false ((at' r501 ((x233.length : Int) - 1)).fLast) ((at' r501 ((x233.length : Int) - 1)).fStarted))))]) rfl ?_
       obtain ⟨r504, e506, h505⟩ := bnd_e h502
       rw [← e506]
       refine wl_x ?_
       refine wc_seq ?_
       obtain ⟨r507, e509, h508⟩ := obn_e h505
       obtain ⟨g510, h511⟩ := chk_e h508
       refine wc_rdk (H1 := [.blk b473 (eTApiCell (at' v x235)) 40, .blk b2 [rI .i64 x236.fDepth, rI .i64 (IntKind.wrap .i64 (x236.fBytes + (r507 + 1))), rB x236.fOutside, rB x236.fLong] 55, .blk b1 [rI .i64 0, rI .i64 0, rB false, rB false] 55, .row v234 79 5 (List.map eTValueOpen r504)]) [0, 3, 5, 6, 8, 11, 12, 13, 38, 39, 40, 41] [⟨[], rv (.pointer (some ⟨b2, 1, none⟩)), 0⟩, ⟨[0], rI .i64 x236.fBytes, 1⟩, ⟨[], rv (.pointer (some ⟨b473, 2, none⟩)), 0⟩, ⟨[2], rS ((at' v x235).fStr), 1⟩, ⟨[3], rI .i64 r507, 0⟩, ⟨[4], rI .i64 (r507 + 1), 0⟩, ⟨[1, 5], rI .i64 (IntKind.wrap .i64 (x236.fBytes + (r507 + 1))), 0⟩, ⟨[], rv (.pointer (some ⟨b2, 1, none⟩)), 0⟩, ⟨[7, 6], rv undef, 2⟩] (rle [(9, _), (1, [.blk b473 (eTApiCell (at' v x235)) 40, .blk b2 [rI .i64 x236.fDepth, rI .i64 (IntKind.wrap .i64 (x236.fBytes + (r507 + 1))), rB x236.fOutside, rB x236.fLong] 55, .blk b1 [rI .i64 0, rI .i64 0, rB false, rB false] 55, .row v234 79 5 (List.map eTValueOpen r504)])]) [68, 69, 70, 71, 72, 73, 74, 75, 0, 3, 5, 6, 8, 11, 12, 13, 38, 39, 40, 41] ?_ ?_
       ·refine oq (o_fieldAddr Tryd.underlying55 rfl Tryd.sizeOf3 rfl rfl) ?_
        refine of (o_load (i := 1) Tryd.isAgg3 rfl rfl rfl) ?_
        refine oq (o_fieldAddr Tryd.underlying40 rfl Tryd.sizeOf9 rfl rfl) ?_
        refine of (o_load (i := 0) Tryd.isAgg9 rfl rfl rfl) ?_
        refine obl_q rfl (fun H => ok_c0 Tryd.call48 (vQuoted_w ((at' v x235).fStr) r507 e509) rfl) ?_
        refine oq (o_add rfl rfl g510) ?_
        refine oq (o_addw rfl rfl) ?_
        refine oq (o_fieldAddr Tryd.underlying55 rfl Tryd.sizeOf3 rfl rfl) ?_
        refine obl_l rfl (ok_u (U_u_store (i := 1) Tryd.sizeOf3 rfl rfl (one_c rfl) rfl rfl (cs' := [rI .i64 x236.fDepth, rI .i64 (IntKind.wrap .i64 (x236.fBytes + (r507 + 1))), rB x236.fOutside, rB x236.fLong]) rfl (H' := [.blk b473 (eTApiCell (at' v x235)) 40, .blk b2 [rI .i64 x236.fDepth, rI .i64 (IntKind.wrap .i64 (x236.fBytes + (r507 + 1))), rB x236.fOutside, rB x236.fLong] 55, .blk b1 [rI .i64 0, rI .i64 0, rB false, rB false] 55, .row v234 79 5 (List.map eTValueOpen r504)]) rfl)) ?_
        exact obl_e
       refine wk_x ?_
       refine wc_seq_mid [(0, rSl 4 (List.map eTApiCell v)), (3, rv (.pointer (some ⟨b1, 0, none⟩))), (5, rv (.pointer (some ⟨b2, 0, none⟩))), (6, rv v234), (11, rSl 4 (List.map eTApiCell v)), (12, rI .i64 (v.length : Int)), (13, rI .i64 x235), (38, rv (.pointer (some ⟨b473, 0, none⟩))), (39, rI .i64 ((at' v x235).fKind)), (40, rB (!decide (((at' v x235).fKind) = 4))), (41, rB (!decide (((at' v x235).fKind) = 4))), (68, rv (.pointer (some ⟨b2, 1, none⟩))), (69, rI .i64 x236.fBytes), (70, rv (.pointer (some ⟨b473, 2, none⟩))), (71, rS ((at' v x235).fStr)), (72, rI .i64 r507), (73, rI .i64 (r507 + 1)), (74, rI .i64 (IntKind.wrap .i64 (x236.fBytes + (r507 + 1)))), (75, rv (.pointer (some ⟨b2, 1, none⟩)))] [.blk b473 (eTApiCell (at' v x235)) 40, .blk b2 [rI .i64 x236.fDepth, rI .i64 (IntKind.wrap .i64 (x236.fBytes + (r507 + 1))), rB x236.fOutside, rB (x236.fLong || (decide (200 < (((at' v x235).fStr).length : Int))))] 55, .blk b1 [rI .i64 0, rI .i64 0, rB false, rB false] 55, .row v234 79 5 (List.map eTValueOpen r504)] ?_ ?_
       ·refine wc_region ?_
        refine wv (o_fieldAddr Tryd.underlying55 rfl Tryd.sizeOf4 rfl rfl) ?_
        refine wv (o_load (i := 1) Tryd.isAgg4 rfl rfl rfl) ?_
        refine wm rfl ?_
        refine bsplit (x236.fLong) (fun c512 => ?_) (fun c512 => ?_)
        ·refine wf c512 ?_
         refine wf c512 ?_
         refine wf c512 ?_
         refine wf c512 ?_
         refine wv (r := rB true) (o_pick_t (b := x236.fLong) rfl c512 rfl) ?_
         refine wv (o_fieldAddr Tryd.underlying55 rfl Tryd.sizeOf4 rfl rfl) ?_
         refine u_store (i := 1) Tryd.sizeOf4 rfl rfl (one_c rfl) rfl rfl (cs' := [rI .i64 x236.fDepth, rI .i64 (IntKind.wrap .i64 (x236.fBytes + (r507 + 1))), rB x236.fOutside, rB true]) rfl (H' := [.blk b473 (eTApiCell (at' v x235)) 40, .blk b2 [rI .i64 x236.fDepth, rI .i64 (IntKind.wrap .i64 (x236.fBytes + (r507 + 1))), rB x236.fOutside, rB true] 55, .blk b1 [rI .i64 0, rI .i64 0, rB false, rB false] 55, .row v234 79 5 (List.map eTValueOpen r504)]) rfl ?_
         refine wl_nil ?_
         refine wk_asH (H' := [.blk b473 (eTApiCell (at' v x235)) 40, .blk b2 [rI .i64 x236.fDepth, rI .i64 (IntKind.wrap .i64 (x236.fBytes + (r507 + 1))), rB x236.fOutside, rB (x236.fLong || (decide (200 < (((at' v x235).fStr).length : Int))))] 55, .blk b1 [rI .i64 0, rI .i64 0, rB false, rB false] 55, .row v234 79 5 (List.map eTValueOpen r504)]) (by simp only [c512, Bool.true_and, Bool.false_and, Bool.true_or, Bool.false_or, Bool.and_true, Bool.and_false, Bool.or_true, Bool.or_false, Bool.not_true, Bool.not_false, cond_true, cond_false]) ?_
         exact wt
        ·refine wo c512 ?_
         refine wv (o_fieldAddr Tryd.underlying40 rfl Tryd.sizeOf9 rfl rfl) ?_
         refine wo c512 ?_
         refine wv (o_load (i := 0) Tryd.isAgg9 rfl rfl rfl) ?_
         refine wo c512 ?_
         refine wv (o_len_s Tryd.underlying9 rfl) ?_
         refine wo c512 ?_
         refine wv (o_gt rfl rfl) ?_
         refine wpf rfl c512 rfl ?_
         refine wv (o_fieldAddr Tryd.underlying55 rfl Tryd.sizeOf4 rfl rfl) ?_
         refine u_store (i := 1) Tryd.sizeOf4 rfl rfl (one_c rfl) rfl rfl (cs' := [rI .i64 x236.fDepth, rI .i64 (IntKind.wrap .i64 (x236.fBytes + (r507 + 1))), rB x236.fOutside, rB (decide (200 < (((at' v x235).fStr).length : Int)))]) rfl (H' := [.blk b473 (eTApiCell (at' v x235)) 40, .blk b2 [rI .i64 x236.fDepth, rI .i64 (IntKind.wrap .i64 (x236.fBytes + (r507 + 1))), rB x236.fOutside, rB (decide (200 < (((at' v x235).fStr).length : Int)))] 55, .blk b1 [rI .i64 0, rI .i64 0, rB false, rB false] 55, .row v234 79 5 (List.map eTValueOpen r504)]) rfl ?_
         refine wl_nil ?_
         refine wk_asH (H' := [.blk b473 (eTApiCell (at' v x235)) 40, .blk b2 [rI .i64 x236.fDepth, rI .i64 (IntKind.wrap .i64 (x236.fBytes + (r507 + 1))), rB x236.fOutside, rB (x236.fLong || (decide (200 < (((at' v x235).fStr).length : Int))))] 55, .blk b1 [rI .i64 0, rI .i64 0, rB false, rB false] 55, .row v234 79 5 (List.map eTValueOpen r504)]) (by simp only [c512, Bool.true_and, Bool.false_and, Bool.true_or, Bool.false_or, Bool.and_true, Bool.and_false, Bool.or_true, Bool.or_false, Bool.not_true, Bool.not_false, cond_true, cond_false]) ?_
         exact wt
       refine wc_exit ?_
       refine wk_then_exit ?_
       refine wk_in_hit ?_
       exact wk_then (wk_some ((r504, (TValueShape.mk x236.fDepth (IntKind.wrap .i64 (x236.fBytes + (r507 + 1))) x236.fOutside (x236.fLong || (decide (200 < (((at' v x235).fStr).length : Int)))))), v234) h511 (Sub.c rfl (Sub.c rfl (Sub.c5 rfl rfl rfl rfl rfl Sub.nil))) (sS (sC (sC (sC sN)))))
     ·have h513 := cnd_f c486 h484
      refine wc_skip ?_
      refine wk_x ?_
      refine wc_sr ?_
      refine wv (o_fieldAddr Tryd.underlying55 rfl Tryd.sizeOf3 rfl rfl) ?_
      refine wv (o_load (i := 1) Tryd.isAgg3 rfl rfl rfl) ?_
      refine wm rfl ?_
      refine wv (o_len_wt (ys := x233) (enc := eTValueOpen) (i := 3) Tryd.underlying76 rfl rfl) ?_
      obtain ⟨g514, h515⟩ := chk_e h513
      refine wv (o_add rfl rfl g514) ?_
      refine wv (o_max Tryd.underlying3 rfl rfl) ?_
      refine wv (o_fieldAddr Tryd.underlying55 rfl Tryd.sizeOf3 rfl rfl) ?_
      refine u_store (i := 1) Tryd.sizeOf3 rfl rfl (one_c rfl) rfl rfl (cs' := [rI .i64 (max x236.fDepth ((x233.length : Int) + 1)), rI .i64 x236.fBytes, rB x236.fOutside, rB x236.fLong]) rfl (H' := [.blk b473 (eTApiCell (at' v x235)) 40, .blk b2 [rI .i64 (max x236.fDepth ((x233.length : Int) + 1)), rI .i64 x236.fBytes, rB x236.fOutside, rB x236.fLong] 55, .blk b1 [rI .i64 0, rI .i64 0, rB false, rB false] 55, .row v234 79 5 (List.map eTValueOpen x233)]) rfl ?_
      refine wl_x ?_
      refine wc_seq ?_
      obtain ⟨r516, e518, h517⟩ := obn_e h515
      refine wc_rdk (H1 := [.blk b473 (eTApiCell (at' v x235)) 40, .blk b2 [rI .i64 (max x236.fDepth ((x233.length : Int) + 1)), rI .i64 (IntKind.wrap .i64 (x236.fBytes + r516)), rB x236.fOutside, rB x236.fLong] 55, .blk b1 [rI .i64 0, rI .i64 0, rB false, rB false] 55, .row v234 79 5 (List.map eTValueOpen x233)]) [0, 3, 5, 6, 7, 8, 11, 12, 13] [⟨[], rv (.pointer (some ⟨b2, 1, none⟩)), 0⟩, ⟨[0], rI .i64 x236.fBytes, 1⟩, ⟨[], rAgg (eTApiCell (at' v x235)), 1⟩, ⟨[2], rI .i64 r516, 0⟩, ⟨[1, 3], rI .i64 (IntKind.wrap .i64 (x236.fBytes + r516)), 0⟩, ⟨[], rv (.pointer (some ⟨b2, 1, none⟩)), 0⟩, ⟨[5, 4], rv undef, 2⟩] (rle [(7, _), (1, [.blk b473 (eTApiCell (at' v x235)) 40, .blk b2 [rI .i64 (max x236.fDepth ((x233.length : Int) + 1)), rI .i64 (IntKind.wrap .i64 (x236.fBytes + r516)), rB x236.fOutside, rB x236.fLong] 55, .blk b1 [rI .i64 0, rI .i64 0, rB false, rB false] 55, .row v234 79 5 (List.map eTValueOpen x233)])]) [92, 93, 94, 95, 96, 97, 0, 3, 5, 6, 7, 8, 11, 12, 13] ?_ ?_
      ·refine oq (o_fieldAddr Tryd.underlying55 rfl Tryd.sizeOf3 rfl rfl) ?_
       refine of (o_load (i := 1) Tryd.isAgg3 rfl rfl rfl) ?_
       refine of (o_load_agg (i := 0) Tryd.isAgg40 Tryd.sizeOf40 rfl rfl rfl rfl) ?_
       refine obl_q rfl (fun H => ok_c0 Tryd.call49 (vSize_w (at' v x235) r516 e518) rfl) ?_
       refine oq (o_addw rfl rfl) ?_
       refine oq (o_fieldAddr Tryd.underlying55 rfl Tryd.sizeOf3 rfl rfl) ?_
       refine obl_l rfl (ok_u (U_u_store (i := 1) Tryd.sizeOf3 rfl rfl (one_c rfl) rfl rfl (cs' := [rI .i64 (max x236.fDepth ((x233.length : Int) + 1)), rI .i64 (IntKind.wrap .i64 (x236.fBytes + r516)), rB x236.fOutside, rB x236.fLong]) rfl (H' := [.blk b473 (eTApiCell (at' v x235)) 40, .blk b2 [rI .i64 (max x236.fDepth ((x233.length : Int) + 1)), rI .i64 (IntKind.wrap .i64 (x236.fBytes + r516)), rB x236.fOutside, rB x236.fLong] 55, .blk b1 [rI .i64 0, rI .i64 0, rB false, rB false] 55, .row v234 79 5 (List.map eTValueOpen x233)]) rfl)) ?_
       exact obl_e
      refine wk_x ?_
      obtain ⟨g519, h520⟩ := chk_e h517
      refine wc_seq_mid [(0, rSl 4 (List.map eTApiCell v)), (3, rv (.pointer (some ⟨b1, 0, none⟩))), (5, rv (.pointer (some ⟨b2, 0, none⟩))), (6, rv v234), (7, rI .i64 x235), (8, rv (.pointer (some ⟨b473, 0, none⟩))), (11, rSl 4 (List.map eTApiCell v)), (12, rI .i64 (v.length : Int)), (13, rI .i64 x235), (92, rv (.pointer (some ⟨b2, 1, none⟩))), (93, rI .i64 x236.fBytes), (94, rAgg (eTApiCell (at' v x235))), (95, rI .i64 r516), (96, rI .i64 (IntKind.wrap .i64 (x236.fBytes + r516))), (97, rv (.pointer (some ⟨b2, 1, none⟩)))] [.blk b473 (eTApiCell (at' v x235)) 40, .blk b2 [rI .i64 (max x236.fDepth ((x233.length : Int) + 1)), rI .i64 (IntKind.wrap .i64 (x236.fBytes + r516)), rB (x236.fOutside || ((decide (((at' v x235).fKind) = 3)) && (!(ov (nValid ((at' v x235).fInt)))))), rB x236.fLong] 55, .blk b1 [rI .i64 0, rI .i64 0, rB false, rB false] 55, .row v234 79 5 (List.map eTValueOpen x233)] ?_ ?_
      ·refine wc_region ?_
       refine wv (o_fieldAddr Tryd.underlying55 rfl Tryd.sizeOf4 rfl rfl) ?_
       refine wv (o_load (i := 1) Tryd.isAgg4 rfl rfl rfl) ?_
       refine wm rfl ?_
       refine bsplit (x236.fOutside) (fun c521 => ?_) (fun c521 => ?_)
       ·refine wf c521 ?_
        refine wf c521 ?_
        refine wf c521 ?_
        refine wf c521 ?_
        refine wu ?_
        refine wu ?_
        refine wu ?_
        refine wu ?_
        refine wf c521 ?_
        refine wv (r := rB true) (o_pick_t (b := x236.fOutside) rfl c521 rfl) ?_
        refine wv (o_fieldAddr Tryd.underlying55 rfl Tryd.sizeOf4 rfl rfl) ?_
        refine u_store (i := 1) Tryd.sizeOf4 rfl rfl (one_c rfl) rfl rfl (cs' := [rI .i64 (max x236.fDepth ((x233.length : Int) + 1)), rI .i64 (IntKind.wrap .i64 (x236.fBytes + r516)), rB true, rB x236.fLong]) rfl (H' := [.blk b473 (eTApiCell (at' v x235)) 40, .blk b2 [rI .i64 (max x236.fDepth ((x233.length : Int) + 1)), rI .i64 (IntKind.wrap .i64 (x236.fBytes + r516)), rB true, rB x236.fLong] 55, .blk b1 [rI .i64 0, rI .i64 0, rB false, rB false] 55, .row v234 79 5 (List.map eTValueOpen x233)]) rfl ?_
        refine wl_nil ?_
        refine wk_asH (H' := [.blk b473 (eTApiCell (at' v x235)) 40, .blk b2 [rI .i64 (max x236.fDepth ((x233.length : Int) + 1)), rI .i64 (IntKind.wrap .i64 (x236.fBytes + r516)), rB (x236.fOutside || ((decide (((at' v x235).fKind) = 3)) && (!(ov (nValid ((at' v x235).fInt)))))), rB x236.fLong] 55, .blk b1 [rI .i64 0, rI .i64 0, rB false, rB false] 55, .row v234 79 5 (List.map eTValueOpen x233)]) (by simp only [c521, Bool.true_and, Bool.false_and, Bool.true_or, Bool.false_or, Bool.and_true, Bool.and_false, Bool.or_true, Bool.or_false, Bool.not_true, Bool.not_false, cond_true, cond_false]) ?_
        exact wt
       ·refine wo c521 ?_
        refine wv (o_fieldAddr Tryd.underlying40 rfl Tryd.sizeOf38 rfl rfl) ?_
        refine wo c521 ?_
        refine wv (o_load (i := 0) Tryd.isAgg38 rfl rfl rfl) ?_
        refine wo c521 ?_
        refine wv (o_eq rfl rfl) ?_
        refine wo c521 ?_
        refine wm rfl ?_
        refine bsplit (decide (((at' v x235).fKind) = 3)) (fun c522 => ?_) (fun c522 => ?_)
        ·refine wo c522 ?_
         refine wv (o_fieldAddr Tryd.underlying40 rfl Tryd.sizeOf3 rfl rfl) ?_
         refine wo c522 ?_
         refine wv (o_load (i := 0) Tryd.isAgg3 rfl rfl rfl) ?_
         refine wo c522 ?_
         refine wc0 Tryd.call50 (nValid_w ((at' v x235).fInt) (ov (nValid ((at' v x235).fInt))) (ov_e (imp_t (imp_f g519 c521) c522))) rfl ?_
         refine wo c522 ?_
         refine wv (o_not rfl) ?_
         refine wo c521 ?_
         refine wpt rfl c522 rfl ?_
         refine wpf rfl c521 rfl ?_
         refine wv (o_fieldAddr Tryd.underlying55 rfl Tryd.sizeOf4 rfl rfl) ?_
         refine u_store (i := 1) Tryd.sizeOf4 rfl rfl (one_c rfl) rfl rfl (cs' := [rI .i64 (max x236.fDepth ((x233.length : Int) + 1)), rI .i64 (IntKind.wrap .i64 (x236.fBytes + r516)), rB (!(ov (nValid ((at' v x235).fInt)))), rB x236.fLong]) rfl (H' := [.blk b473 (eTApiCell (at' v x235)) 40, .blk b2 [rI .i64 (max x236.fDepth ((x233.length : Int) + 1)), rI .i64 (IntKind.wrap .i64 (x236.fBytes + r516)), rB (!(ov (nValid ((at' v x235).fInt)))), rB x236.fLong] 55, .blk b1 [rI .i64 0, rI .i64 0, rB false, rB false] 55, .row v234 79 5 (List.map eTValueOpen x233)]) rfl ?_
         refine wl_nil ?_
         refine wk_asH (H' := [.blk b473 (eTApiCell (at' v x235)) 40, .blk b2 [rI .i64 (max x236.fDepth ((x233.length : Int) + 1)), rI .i64 (IntKind.wrap .i64 (x236.fBytes + r516)), rB (x236.fOutside || ((decide (((at' v x235).fKind) = 3)) && (!(ov (nValid ((at' v x235).fInt)))))), rB x236.fLong] 55, .blk b1 [rI .i64 0, rI .i64 0, rB false, rB false] 55, .row v234 79 5 (List.map eTValueOpen x233)]) (by simp only [c521, c522, Bool.true_and, Bool.false_and, Bool.true_or, Bool.false_or, Bool.and_true, Bool.and_false, Bool.or_true, Bool.or_false, Bool.not_true, Bool.not_false, cond_true, cond_false]) ?_
         exact wt
        ·refine wf c522 ?_
         refine wf c522 ?_
         refine wf c522 ?_
         refine wf c522 ?_
         refine wo c521 ?_
         refine wv (r := rB false) (o_pick_f (b := decide (((at' v x235).fKind) = 3)) rfl c522 rfl) ?_
         refine wpf rfl c521 rfl ?_
         refine wv (o_fieldAddr Tryd.underlying55 rfl Tryd.sizeOf4 rfl rfl) ?_
         refine u_store (i := 1) Tryd.sizeOf4 rfl rfl (one_c rfl) rfl rfl (cs' := [rI .i64 (max x236.fDepth ((x233.length : Int) + 1)), rI .i64 (IntKind.wrap .i64 (x236.fBytes + r516)), rB false, rB x236.fLong]) rfl (H' := [.blk b473 (eTApiCell (at' v x235)) 40, .blk b2 [rI .i64 (max x236.fDepth ((x233.length : Int) + 1)), rI .i64 (IntKind.wrap .i64 (x236.fBytes + r516)), rB false, rB x236.fLong] 55, .blk b1 [rI .i64 0, rI .i64 0, rB false, rB false] 55, .row v234 79 5 (List.map eTValueOpen x233)]) rfl ?_
         refine wl_nil ?_
         refine wk_asH (H' := [.blk b473 (eTApiCell (at' v x235)) 40, .blk b2 [rI .i64 (max x236.fDepth ((x233.length : Int) + 1)), rI .i64 (IntKind.wrap .i64 (x236.fBytes + r516)), rB (x236.fOutside || ((decide (((at' v x235).fKind) = 3)) && (!(ov (nValid ((at' v x235).fInt)))))), rB x236.fLong] 55, .blk b1 [rI .i64 0, rI .i64 0, rB false, rB false] 55, .row v234 79 5 (List.map eTValueOpen x233)]) (by simp only [c521, c522, Bool.true_and, Bool.false_and, Bool.true_or, Bool.false_or, Bool.and_true, Bool.and_false, Bool.or_true, Bool.or_false, Bool.not_true, Bool.not_false, cond_true, cond_false]) ?_
         exact wt
      refine wc_seq_mid [(0, rSl 4 (List.map eTApiCell v)), (3, rv (.pointer (some ⟨b1, 0, none⟩))), (5, rv (.pointer (some ⟨b2, 0, none⟩))), (6, rv v234), (7, rI .i64 x235), (8, rv (.pointer (some ⟨b473, 0, none⟩))), (11, rSl 4 (List.map eTApiCell v)), (12, rI .i64 (v.length : Int)), (13, rI .i64 x235), (92, rv (.pointer (some ⟨b2, 1, none⟩))), (93, rI .i64 x236.fBytes), (94, rAgg (eTApiCell (at' v x235))), (95, rI .i64 r516), (96, rI .i64 (IntKind.wrap .i64 (x236.fBytes + r516))), (97, rv (.pointer (some ⟨b2, 1, none⟩)))] [.blk b473 (eTApiCell (at' v x235)) 40, .blk b2 [rI .i64 (max x236.fDepth ((x233.length : Int) + 1)), rI .i64 (IntKind.wrap .i64 (x236.fBytes + r516)), rB (x236.fOutside || ((decide (((at' v x235).fKind) = 3)) && (!(ov (nValid ((at' v x235).fInt)))))), rB (x236.fLong || (decide (200 < (((at' v x235).fStr).length : Int))))] 55, .blk b1 [rI .i64 0, rI .i64 0, rB false, rB false] 55, .row v234 79 5 (List.map eTValueOpen x233)] ?_ ?_
      ·refine wc_region ?_
       refine wv (o_fieldAddr Tryd.underlying55 rfl Tryd.sizeOf4 rfl rfl) ?_
       refine wv (o_load (i := 1) Tryd.isAgg4 rfl rfl rfl) ?_
       refine wm rfl ?_
       refine bsplit (x236.fLong) (fun c523 => ?_) (fun c523 => ?_)
       ·refine wf c523 ?_
        refine wf c523 ?_
        refine wf c523 ?_
        refine wf c523 ?_
        refine wv (r := rB true) (o_pick_t (b := x236.fLong) rfl c523 rfl) ?_
        refine wv (o_fieldAddr Tryd.underlying55 rfl Tryd.sizeOf4 rfl rfl) ?_
        refine u_store (i := 1) Tryd.sizeOf4 rfl rfl (one_c rfl) rfl rfl (cs' := [rI .i64 (max x236.fDepth ((x233.length : Int) + 1)), rI .i64 (IntKind.wrap .i64 (x236.fBytes + r516)), rB (x236.fOutside || ((decide (((at' v x235).fKind) = 3)) && (!(ov (nValid ((at' v x235).fInt)))))), rB true]) rfl (H' := [.blk b473 (eTApiCell (at' v x235)) 40, .blk b2 [rI .i64 (max x236.fDepth ((x233.length : Int) + 1)), rI .i64 (IntKind.wrap .i64 (x236.fBytes + r516)), rB (x236.fOutside || ((decide (((at' v x235).fKind) = 3)) && (!(ov (nValid ((at' v x235).fInt)))))), rB true] 55, .blk b1 [rI .i64 0, rI .i64 0, rB false, rB false] 55, .row v234 79 5 (List.map eTValueOpen x233)]) rfl ?_
        refine wl_nil ?_
        refine wk_asH (H' := [.blk b473 (eTApiCell (at' v x235)) 40, .blk b2 [rI .i64 (max x236.fDepth ((x233.length : Int) + 1)), rI .i64 (IntKind.wrap .i64 (x236.fBytes + r516)), rB (x236.fOutside || ((decide (((at' v x235).fKind) = 3)) && (!(ov (nValid ((at' v x235).fInt)))))), rB (x236.fLong || (decide (200 < (((at' v x235).fStr).length : Int))))] 55, .blk b1 [rI .i64 0, rI .i64 0, rB false, rB false] 55, .row v234 79 5 (List.map eTValueOpen x233)]) (by simp only [c523, Bool.true_and, Bool.false_and, Bool.true_or, Bool.false_or, Bool.and_true, Bool.and_false, Bool.or_true, Bool.or_false, Bool.not_true, Bool.not_false, cond_true, cond_false]) ?_
        exact wt
       ·refine wo c523 ?_
        refine wv (o_fieldAddr Tryd.underlying40 rfl Tryd.sizeOf9 rfl rfl) ?_
        refine wo c523 ?_
        refine wv (o_load (i := 0) Tryd.isAgg9 rfl rfl rfl) ?_
        refine wo c523 ?_
        refine wv (o_len_s Tryd.underlying9 rfl) ?_
        refine wo c523 ?_
        refine wv (o_gt rfl rfl) ?_
        refine wpf rfl c523 rfl ?_
        refine wv (o_fieldAddr Tryd.underlying55 rfl Tryd.sizeOf4 rfl rfl) ?_
        refine u_store (i := 1) Tryd.sizeOf4 rfl rfl (one_c rfl) rfl rfl (cs' := [rI .i64 (max x236.fDepth ((x233.length : Int) + 1)), rI .i64 (IntKind.wrap .i64 (x236.fBytes + r516)), rB (x236.fOutside || ((decide (((at' v x235).fKind) = 3)) && (!(ov (nValid ((at' v x235).fInt)))))), rB (decide (200 < (((at' v x235).fStr).length : Int)))]) rfl (H' := [.blk b473 (eTApiCell (at' v x235)) 40, .blk b2 [rI .i64 (max x236.fDepth ((x233.length : Int) + 1)), rI .i64 (IntKind.wrap .i64 (x236.fBytes + r516)), rB (x236.fOutside || ((decide (((at' v x235).fKind) = 3)) && (!(ov (nValid ((at' v x235).fInt)))))), rB (decide (200 < (((at' v x235).fStr).length : Int)))] 55, .blk b1 [rI .i64 0, rI .i64 0, rB false, rB false] 55, .row v234 79 5 (List.map eTValueOpen x233)]) rfl ?_
        refine wl_nil ?_
        refine wk_asH (H' := [.blk b473 (eTApiCell (at' v x235)) 40, .blk b2 [rI .i64 (max x236.fDepth ((x233.length : Int) + 1)), rI .i64 (IntKind.wrap .i64 (x236.fBytes + r516)), rB (x236.fOutside || ((decide (((at' v x235).fKind) = 3)) && (!(ov (nValid ((at' v x235).fInt)))))), rB (x236.fLong || (decide (200 < (((at' v x235).fStr).length : Int))))] 55, .blk b1 [rI .i64 0, rI .i64 0, rB false, rB false] 55, .row v234 79 5 (List.map eTValueOpen x233)]) (by simp only [c523, Bool.true_and, Bool.false_and, Bool.true_or, Bool.false_or, Bool.and_true, Bool.and_false, Bool.or_true, Bool.or_false, Bool.not_true, Bool.not_false, cond_true, cond_false]) ?_
        exact wt
      refine wc_seq ?_
      refine wc_sr ?_
      refine wv (o_fieldAddr Tryd.underlying40 rfl Tryd.sizeOf3 rfl rfl) ?_
      refine wv (o_load (i := 0) Tryd.isAgg3 rfl rfl rfl) ?_
      refine wv (o_gt rfl rfl) ?_
      refine wl_x ?_
      refine wc_cond (b := decide (0 < ((at' v x235).fN))) rfl (fun c524 => ?_) (fun c524 => ?_)
      ·have h525 := cnd_t c524 h520
       refine wc_seq ?_
       refine wc_sr ?_
       refine wv (o_fieldAddr Tryd.underlying40 rfl Tryd.sizeOf3 rfl rfl) ?_
       refine wv (o_load (i := 0) Tryd.isAgg3 rfl rfl rfl) ?_
       refine wm rfl ?_
       refine wv (o_len_zt (ys := v) (enc := eTApiCell) Tryd.underlying22 rfl) ?_
       refine wv (o_gt rfl rfl) ?_
       refine wl_x ?_
       refine wc_cond (b := decide ((v.length : Int) < ((at' v x235).fN))) rfl (fun c526 => ?_) (fun c526 => ?_)
       ·have h527 := cnd_t c526 h525
        refine wc_seq ?_
        refine wc_rdk (H1 := [.blk b473 (eTApiCell (at' v x235)) 40, .blk b2 [rI .i64 (max x236.fDepth ((x233.length : Int) + 1)), rI .i64 (IntKind.wrap .i64 (x236.fBytes + r516)), rB (x236.fOutside || ((decide (((at' v x235).fKind) = 3)) && (!(ov (nValid ((at' v x235).fInt)))))), rB (x236.fLong || (decide (200 < (((at' v x235).fStr).length : Int))))] 55, .blk b1 [rI .i64 (max x236.fDepth ((x233.length : Int) + 1)), rI .i64 (IntKind.wrap .i64 (x236.fBytes + r516)), rB (x236.fOutside || ((decide (((at' v x235).fKind) = 3)) && (!(ov (nValid ((at' v x235).fInt)))))), rB (x236.fLong || (decide (200 < (((at' v x235).fStr).length : Int))))] 55, .row v234 79 5 (List.map eTValueOpen x233)]) [3, 5] [⟨[], rAgg [rI .i64 (max x236.fDepth ((x233.length : Int) + 1)), rI .i64 (IntKind.wrap .i64 (x236.fBytes + r516)), rB (x236.fOutside || ((decide (((at' v x235).fKind) = 3)) && (!(ov (nValid ((at' v x235).fInt)))))), rB (x236.fLong || (decide (200 < (((at' v x235).fStr).length : Int))))], 1⟩, ⟨[], rI .i64 0, 0⟩, ⟨[0], rv undef, 2⟩, ⟨[], rB false, 0⟩] (rle [(3, _), (2, [.blk b473 (eTApiCell (at' v x235)) 40, .blk b2 [rI .i64 (max x236.fDepth ((x233.length : Int) + 1)), rI .i64 (IntKind.wrap .i64 (x236.fBytes + r516)), rB (x236.fOutside || ((decide (((at' v x235).fKind) = 3)) && (!(ov (nValid ((at' v x235).fInt)))))), rB (x236.fLong || (decide (200 < (((at' v x235).fStr).length : Int))))] 55, .blk b1 [rI .i64 (max x236.fDepth ((x233.length : Int) + 1)), rI .i64 (IntKind.wrap .i64 (x236.fBytes + r516)), rB (x236.fOutside || ((decide (((at' v x235).fKind) = 3)) && (!(ov (nValid ((at' v x235).fInt)))))), rB (x236.fLong || (decide (200 < (((at' v x235).fStr).length : Int))))] 55, .row v234 79 5 (List.map eTValueOpen x233)])]) [2, 4, 3] ?_ ?_
        ·refine of (o_load_agg (i := 1) Tryd.isAgg55 Tryd.sizeOf55 rfl rfl rfl rfl) ?_
         refine oq (o_assign rfl) ?_
         refine obl_l rfl (ok_u (U_u_store_agg (i := 2) Tryd.sizeOf55 rfl rfl rfl (OneAll.c rfl) rfl rfl (cs' := [rI .i64 (max x236.fDepth ((x233.length : Int) + 1)), rI .i64 (IntKind.wrap .i64 (x236.fBytes + r516)), rB (x236.fOutside || ((decide (((at' v x235).fKind) = 3)) && (!(ov (nValid ((at' v x235).fInt)))))), rB (x236.fLong || (decide (200 < (((at' v x235).fStr).length : Int))))]) rfl (H' := [.blk b473 (eTApiCell (at' v x235)) 40, .blk b2 [rI .i64 (max x236.fDepth ((x233.length : Int) + 1)), rI .i64 (IntKind.wrap .i64 (x236.fBytes + r516)), rB (x236.fOutside || ((decide (((at' v x235).fKind) = 3)) && (!(ov (nValid ((at' v x235).fInt)))))), rB (x236.fLong || (decide (200 < (((at' v x235).fStr).length : Int))))] 55, .blk b1 [rI .i64 (max x236.fDepth ((x233.length : Int) + 1)), rI .i64 (IntKind.wrap .i64 (x236.fBytes + r516)), rB (x236.fOutside || ((decide (((at' v x235).fKind) = 3)) && (!(ov (nValid ((at' v x235).fInt)))))), rB (x236.fLong || (decide (200 < (((at' v x235).fStr).length : Int))))] 55, .row v234 79 5 (List.map eTValueOpen x233)]) rfl)) ?_
         refine oq (o_assign rfl) ?_
         exact obl_e
        refine wk_x ?_
        refine wc_ret ?_
        refine wk_then_ret ?_
        refine wk_then_ret ?_
        refine wk_in_ret ?_
        refine wk_then_ret ?_
        refine wk_then_ret ?_
        refine wk_cut_ret ?_
        have h528 := stp_ret h527 ht391 hK389
        refine wk_in_ret ?_
        refine wk_then_ret ?_
        refine wk_ng_r ?_
        obtain rfl := some_e h528
        exact wk_ret (r_3 Tryd.results27 (rv_t rfl) (rv_ca (i := 2) Tryd.isAgg55 Tryd.sizeOf55 rfl rfl rfl) (rv_t rfl)) (sS (sS (sS (sS sN)))) ⟨rfl, rfl⟩
       ·have h529 := cnd_f c526 h525
        refine wc_skip ?_
        refine wk_x ?_
        refine wc_sr ?_
        refine wm rfl ?_
        refine wv (o_fieldAddr Tryd.underlying40 rfl Tryd.sizeOf38 rfl rfl) ?_
        refine wv (o_load (i := 0) Tryd.isAgg38 rfl rfl rfl) ?_
        refine wv (o_eq rfl rfl) ?_
        refine wv (o_fieldAddr Tryd.underlying40 rfl Tryd.sizeOf3 rfl rfl) ?_
        refine wv (o_load (i := 0) Tryd.isAgg3 rfl rfl rfl) ?_
        refine wv (o_fieldAddr Tryd.underlying40 rfl Tryd.sizeOf38 rfl rfl) ?_
        refine wv (o_load (i := 0) Tryd.isAgg38 rfl rfl rfl) ?_
        refine wv (o_eq rfl rfl) ?_
        refine wv (r := rAgg [rB (decide (((at' v x235).fKind) = 6)), rI .i64 ((at' v x235).fN), rB (decide (((at' v x235).fKind) = 6)), rS ([] : Str), rB false]) (o_build79_0_1_2 rfl rfl rfl rfl rfl rfl) ?_
        refine w_buildSlice (ys := ([(TValueOpen.mk (decide (((at' v x235).fKind) = 6)) ((at' v x235).fN) (decide (((at' v x235).fKind) = 6)) ([] : Str) false)] : List TValueOpen)) (enc := eTValueOpen) (css := [[rB (decide (((at' v x235).fKind) = 6)), rI .i64 ((at' v x235).fN), rB (decide (((at' v x235).fKind) = 6)), rS ([] : Str), rB false]]) (xs := [.tmp 139]) Tryd.underlying76 Tryd.sizeOf79 Tryd.zeroValue79 rfl rfl rfl ⟨Cel.agg ⟨Up.refl _, Up.refl _, Up.refl _, Up.refl _, Up.refl _, trivial⟩, trivial⟩ rfl eTValueOpen_len rfl rfl rfl (fun b530 => ?_)
        obtain ⟨g532, h533⟩ := chk_e h529
        obtain ⟨inf, hinf⟩ := info79
        refine w_append (xs := x233) (ys := ([(TValueOpen.mk (decide (((at' v x235).fKind) = 6)) ((at' v x235).fN) (decide (((at' v x235).fKind) = 6)) ([] : Str) false)] : List TValueOpen)) (enc := eTValueOpen) (i := 4) Tryd.underlying76 hinf.1 hinf.2.1 hinf.2.2.1 hinf.2.2.2 rfl rfl rfl rfl rfl (Src.w (i := 0) rfl rfl) eTValueOpen_len eTValueOpen_one g532 rfl (fun v531 => ?_)
        refine wa rfl ?_
        refine wl_x ?_
        refine wc_exit ?_
        refine wk_then_exit ?_
        refine wk_in_hit ?_
        refine wk_perm (H2 := [.blk b2 [rI .i64 (max x236.fDepth ((x233.length : Int) + 1)), rI .i64 (IntKind.wrap .i64 (x236.fBytes + r516)), rB (x236.fOutside || ((decide (((at' v x235).fKind) = 3)) && (!(ov (nValid ((at' v x235).fInt)))))), rB (x236.fLong || (decide (200 < (((at' v x235).fStr).length : Int))))] 55, .blk b1 [rI .i64 0, rI .i64 0, rB false, rB false] 55, .row v531 79 5 (List.map eTValueOpen (x233 ++ ([(TValueOpen.mk (decide (((at' v x235).fKind) = 6)) ((at' v x235).fN) (decide (((at' v x235).fKind) = 6)) ([] : Str) false)] : List TValueOpen))), .row (.slice (some ⟨b530, 0, none⟩) 1 1) 79 5 (List.map eTValueOpen ([(TValueOpen.mk (decide (((at' v x235).fKind) = 6)) ((at' v x235).fN) (decide (((at' v x235).fKind) = 6)) ([] : Str) false)] : List TValueOpen)), .blk b473 (eTApiCell (at' v x235)) 40]) ((perm_front (i := 3) rfl).trans (List.Perm.cons _ ((perm_front (i := 3) rfl).trans (List.Perm.cons _ (List.Perm.refl _))))) ?_
        exact wk_then (wk_some ((x233 ++ ([(TValueOpen.mk (decide (((at' v x235).fKind) = 6)) ((at' v x235).fN) (decide (((at' v x235).fKind) = 6)) ([] : Str) false)] : List TValueOpen), (TValueShape.mk (max x236.fDepth ((x233.length : Int) + 1)) (IntKind.wrap .i64 (x236.fBytes + r516)) (x236.fOutside || ((decide (((at' v x235).fKind) = 3)) && (!(ov (nValid ((at' v x235).fInt)))))) (x236.fLong || (decide (200 < (((at' v x235).fStr).length : Int)))))), v531) h533 (Sub.c rfl (Sub.c rfl (Sub.c5 rfl rfl rfl rfl rfl Sub.nil))) (sC (sC (sC (sS (sS sN))))))
      ·have h534 := cnd_f c524 h520
       refine wc_skip ?_
       refine wk_x ?_
       refine wc_sr ?_
       refine wm rfl ?_
       obtain ⟨r535, e537, h536⟩ := obn_e h534
       refine wcl (Hr := [.blk b473 (eTApiCell (at' v x235)) 40, .blk b2 [rI .i64 (max x236.fDepth ((x233.length : Int) + 1)), rI .i64 (IntKind.wrap .i64 (x236.fBytes + r516)), rB (x236.fOutside || ((decide (((at' v x235).fKind) = 3)) && (!(ov (nValid ((at' v x235).fInt)))))), rB (x236.fLong || (decide (200 < (((at' v x235).fStr).length : Int))))] 55, .blk b1 [rI .i64 0, rI .i64 0, rB false, rB false] 55]) Tryd.call51 (vClosed_w F v234 x233 r535 e537) rfl ((perm_front (i := 3) rfl).trans (List.Perm.cons _ (List.Perm.refl _))) rfl ?_
       rintro _ _ ⟨v538, rfl, rfl⟩
       refine wa rfl ?_
       refine wl_y ?_
       refine wm rfl ?_
       refine wv (o_len_wt (ys := r535) (enc := eTValueOpen) (i := 0) Tryd.underlying76 rfl rfl) ?_
       refine wv (o_eq rfl rfl) ?_
       refine wl_x ?_
       refine wc_cond (b := decide ((r535.length : Int) = 0)) rfl (fun c539 => ?_) (fun c539 => ?_)
       ·have h540 := cnd_t c539 h536
        refine wc_seq ?_
        obtain ⟨g541, h542⟩ := chk_e h540
        refine wc_rdk (H1 := [.row v538 79 5 (List.map eTValueOpen r535), .blk b473 (eTApiCell (at' v x235)) 40, .blk b2 [rI .i64 (max x236.fDepth ((x233.length : Int) + 1)), rI .i64 (IntKind.wrap .i64 (x236.fBytes + r516)), rB (x236.fOutside || ((decide (((at' v x235).fKind) = 3)) && (!(ov (nValid ((at' v x235).fInt)))))), rB (x236.fLong || (decide (200 < (((at' v x235).fStr).length : Int))))] 55, .blk b1 [rI .i64 (max x236.fDepth ((x233.length : Int) + 1)), rI .i64 (IntKind.wrap .i64 (x236.fBytes + r516)), rB (x236.fOutside || ((decide (((at' v x235).fKind) = 3)) && (!(ov (nValid ((at' v x235).fInt)))))), rB (x236.fLong || (decide (200 < (((at' v x235).fStr).length : Int))))] 55]) [3, 5, 7] [⟨[], rI .i64 x235, 0⟩, ⟨[0], rI .i64 (x235 + 1), 0⟩, ⟨[], rAgg [rI .i64 (max x236.fDepth ((x233.length : Int) + 1)), rI .i64 (IntKind.wrap .i64 (x236.fBytes + r516)), rB (x236.fOutside || ((decide (((at' v x235).fKind) = 3)) && (!(ov (nValid ((at' v x235).fInt)))))), rB (x236.fLong || (decide (200 < (((at' v x235).fStr).length : Int))))], 1⟩, ⟨[1], rI .i64 (x235 + 1), 0⟩, ⟨[2], rv undef, 2⟩, ⟨[], rB true, 0⟩] (rle [(5, _), (2, [.row v538 79 5 (List.map eTValueOpen r535), .blk b473 (eTApiCell (at' v x235)) 40, .blk b2 [rI .i64 (max x236.fDepth ((x233.length : Int) + 1)), rI .i64 (IntKind.wrap .i64 (x236.fBytes + r516)), rB (x236.fOutside || ((decide (((at' v x235).fKind) = 3)) && (!(ov (nValid ((at' v x235).fInt)))))), rB (x236.fLong || (decide (200 < (((at' v x235).fStr).length : Int))))] 55, .blk b1 [rI .i64 (max x236.fDepth ((x233.length : Int) + 1)), rI .i64 (IntKind.wrap .i64 (x236.fBytes + r516)), rB (x236.fOutside || ((decide (((at' v x235).fKind) = 3)) && (!(ov (nValid ((at' v x235).fInt)))))), rB (x236.fLong || (decide (200 < (((at' v x235).fStr).length : Int))))] 55])]) [2, 4, 3] ?_ ?_
        ·refine oq (o_move rfl) ?_
         refine oq (o_add rfl rfl g541) ?_
         refine of (o_load_agg (i := 2) Tryd.isAgg55 Tryd.sizeOf55 rfl rfl rfl rfl) ?_
         refine oq (o_assign rfl) ?_
         refine obl_l rfl (ok_u (U_u_store_agg (i := 3) Tryd.sizeOf55 rfl rfl rfl (OneAll.c rfl) rfl rfl (cs' := [rI .i64 (max x236.fDepth ((x233.length : Int) + 1)), rI .i64 (IntKind.wrap .i64 (x236.fBytes + r516)), rB (x236.fOutside || ((decide (((at' v x235).fKind) = 3)) && (!(ov (nValid ((at' v x235).fInt)))))), rB (x236.fLong || (decide (200 < (((at' v x235).fStr).length : Int))))]) rfl (H' := [.row v538 79 5 (List.map eTValueOpen r535), .blk b473 (eTApiCell (at' v x235)) 40, .blk b2 [rI .i64 (max x236.fDepth ((x233.length : Int) + 1)), rI .i64 (IntKind.wrap .i64 (x236.fBytes + r516)), rB (x236.fOutside || ((decide (((at' v x235).fKind) = 3)) && (!(ov (nValid ((at' v x235).fInt)))))), rB (x236.fLong || (decide (200 < (((at' v x235).fStr).length : Int))))] 55, .blk b1 [rI .i64 (max x236.fDepth ((x233.length : Int) + 1)), rI .i64 (IntKind.wrap .i64 (x236.fBytes + r516)), rB (x236.fOutside || ((decide (((at' v x235).fKind) = 3)) && (!(ov (nValid ((at' v x235).fInt)))))), rB (x236.fLong || (decide (200 < (((at' v x235).fStr).length : Int))))] 55]) rfl)) ?_
         refine oq (o_assign rfl) ?_
         exact obl_e
        refine wk_x ?_
        refine wc_ret ?_
        refine wk_in_ret ?_
        refine wk_then_ret ?_
        refine wk_then_ret ?_
        refine wk_cut_ret ?_
        have h543 := stp_ret h542 ht391 hK389
        refine wk_in_ret ?_
        refine wk_then_ret ?_
        refine wk_ng_r ?_
        obtain rfl := some_e h543
        exact wk_ret (r_3 Tryd.results27 (rv_t rfl) (rv_ca (i := 3) Tryd.isAgg55 Tryd.sizeOf55 rfl rfl rfl) (rv_t rfl)) (sS (sS (sS (sS sN)))) ⟨rfl, rfl⟩
       ·have h544 := cnd_f c539 h536
        refine wc_skip ?_
        refine wk_in_norm ?_
        refine wk_perm (H2 := [.blk b2 [rI .i64 (max x236.fDepth ((x233.length : Int) + 1)), rI .i64 (IntKind.wrap .i64 (x236.fBytes + r516)), rB (x236.fOutside || ((decide (((at' v x235).fKind) = 3)) && (!(ov (nValid ((at' v x235).fInt)))))), rB (x236.fLong || (decide (200 < (((at' v x235).fStr).length : Int))))] 55, .blk b1 [rI .i64 0, rI .i64 0, rB false, rB false] 55, .row v538 79 5 (List.map eTValueOpen r535), .blk b473 (eTApiCell (at' v x235)) 40]) ((perm_front (i := 2) rfl).trans (List.Perm.cons _ ((perm_front (i := 2) rfl).trans (List.Perm.cons _ (List.Perm.refl _))))) ?_
        exact wk_then (wk_some ((r535, (TValueShape.mk (max x236.fDepth ((x233.length : Int) + 1)) (IntKind.wrap .i64 (x236.fBytes + r516)) (x236.fOutside || ((decide (((at' v x235).fKind) = 3)) && (!(ov (nValid ((at' v x235).fInt)))))) (x236.fLong || (decide (200 < (((at' v x235).fStr).length : Int)))))), v538) h544 (Sub.c rfl (Sub.c rfl (Sub.c5 rfl rfl rfl rfl rfl Sub.nil))) (sC (sC (sC (sS sN)))))
   ·rintro ⟨⟨x468, x470⟩, v469⟩ h545
    refine wc_as (l' := [(0, rSl 4 (List.map eTApiCell v)), (3, rv (.pointer (some ⟨b1, 0, none⟩))), (5, rv (.pointer (some ⟨b2, 0, none⟩))), (6, rv v469), (11, rSl 4 (List.map eTApiCell v)), (12, rI .i64 (v.length : Int)), (13, rI .i64 x235)]) (H' := [.blk b2 (eTValueShape x470) 55, .blk b1 [rI .i64 0, rI .i64 0, rB false, rB false] 55, .row v469 79 5 (List.map eTValueOpen x468)]) rfl rfl ?_
    replace h545 : vLook_j2 x235 x468 x470 = some t390 := h545
    unfold vLook_j2 at h545
    refine wc_region ?_
    obtain ⟨g546, h547⟩ := chk_e h545
    refine wv (o_add rfl rfl g546) ?_
    refine wm rfl ?_
    refine wl_nil ?_
    have h548 := stp_next h547 ht391
    exact wk_then (wk_some (m392, (x468, x235 + 1, x470), v469) ⟨h548, Nat.lt_succ_self _⟩ (Sub.c rfl (Sub.c rfl (Sub.c5 rfl rfl rfl rfl rfl Sub.nil))) (sC (sC (sC sN))))
  ·have h549 := cnd_f c396 h394
   refine wc_exit ?_
   refine wk_then_exit ?_
   have h550 := stp_go h549 ht391 hK389
   exact wk_then_exit (wk_cut_hit (wk_some (x236, ()) h550 (Sub.c rfl (Sub.c rfl Sub.nil)) (sC (sC (sS sN)))))
 ·rintro ⟨x386, ⟨⟩⟩ h551
  refine wk_as (l' := [(3, rv (.pointer (some ⟨b1, 0, none⟩))), (5, rv (.pointer (some ⟨b2, 0, none⟩)))]) (H' := [.blk b2 (eTValueShape x386) 55, .blk b1 [rI .i64 0, rI .i64 0, rB false, rB false] 55]) rfl rfl ?_
  replace h551 : vLook_k1 x386 = some r := h551
  unfold vLook_k1 at h551
  refine wk_in_hit ?_
  refine wk_x ?_
  refine wc_seq ?_
  refine wc_rdk (H1 := [.blk b2 (eTValueShape x386) 55, .blk b1 (eTValueShape x386) 55]) [3, 5] [⟨[], rAgg (eTValueShape x386), 1⟩, ⟨[], rI .i64 0, 0⟩, ⟨[0], rv undef, 2⟩, ⟨[], rB false, 0⟩] (rle [(3, _), (2, [.blk b2 (eTValueShape x386) 55, .blk b1 (eTValueShape x386) 55])]) [2, 4, 3] ?_ ?_
  ·refine of (o_load_agg (i := 0) Tryd.isAgg55 Tryd.sizeOf55 rfl rfl rfl rfl) ?_
   refine oq (o_assign rfl) ?_
   refine obl_l rfl (ok_u (U_u_store_agg (i := 1) Tryd.sizeOf55 rfl rfl rfl (OneAll.c rfl) rfl rfl (cs' := [rI .i64 x386.fDepth, rI .i64 x386.fBytes, rB x386.fOutside, rB x386.fLong]) rfl (H' := [.blk b2 (eTValueShape x386) 55, .blk b1 (eTValueShape x386) 55]) rfl)) ?_
   refine oq (o_assign rfl) ?_
   exact obl_e
  refine wk_x ?_
  refine wc_ret ?_
  refine wk_ng_r ?_
  obtain rfl := some_e h551
  exact wk_ret (r_3 Tryd.results27 (rv_t rfl) (rv_ca (i := 1) Tryd.isAgg55 Tryd.sizeOf55 rfl rfl rfl) (rv_t rfl)) (sS (sS sN)) ⟨rfl, rfl⟩

theorem vCheck_w (F : Nat) (v : (List TApiCell)) (r : Int) (h : vCheck F v = some r) : Fn Tryd.prog GE 10 [rSl 4 (List.map eTApiCell v)] [] (fun R H => R = rI .i64 r ∧ H = []) := by
 refine enter (n := 42) Tryd.func10 rfl Tryd.ntmps10 rfl (fun w Z => ?_)
 refine wc_as (l' := [(0, rSl 4 (List.map eTApiCell v))]) (H' := []) rfl rfl ?_
 unfold vCheck at h
 refine wc_sr ?_
 refine wv (r := rI .i64 0) (o_assign rfl) ?_
 refine wl_y ?_
 refine wm rfl ?_
 obtain ⟨r1, e3, h2⟩ := obn_e h
 refine wc0 Tryd.call27 (vLook_w F v r1 e3) rfl ?_
 refine wm rfl ?_
 refine wv (o_extract rfl rfl) ?_
 refine wv (o_extract rfl rfl) ?_
 refine wv (o_extract rfl rfl) ?_
 refine w_alloc (cs := [rI .i64 0, rI .i64 0, rB false, rB false]) Tryd.zeroValue55 rfl rfl (fun b4 => ?_)
 refine wa rfl ?_
 refine u_store_agg (i := 0) Tryd.sizeOf55 rfl rfl rfl (OneAll.c rfl) rfl rfl (cs' := [rI .i64 r1.2.1.fDepth, rI .i64 r1.2.1.fBytes, rB r1.2.1.fOutside, rB r1.2.1.fLong]) rfl (H' := [.blk b4 (eTValueShape r1.2.1) 55]) rfl ?_
 refine wa rfl ?_
 refine wl_x ?_
 refine wc_seq ?_
 refine wc_block ?_
 refine wc_seq_mid [(0, rSl 4 (List.map eTApiCell v)), (4, rv (.pointer (some ⟨b4, 0, none⟩))), (12, rB ((!r1.2.2) || (!decide (r1.1 = (v.length : Int)))))] [.blk b4 (eTValueShape r1.2.1) 55] ?_ ?_
 ·refine wc_region ?_
  refine wm rfl ?_
  refine wv (o_not rfl) ?_
  refine wm rfl ?_
  refine bsplit (!r1.2.2) (fun c5 => ?_) (fun c5 => ?_)
  ·refine wf c5 ?_
   refine wf c5 ?_
   refine wf c5 ?_
   refine wf c5 ?_
   refine wv (r := rB true) (o_pick_t (b := !r1.2.2) rfl c5 rfl) ?_
   refine wa rfl ?_
   refine wl_nil ?_
   exact wtc c5
  ·refine wo c5 ?_
   refine wm rfl ?_
   refine wo c5 ?_
   refine wm rfl ?_
   refine wo c5 ?_
   refine wv (o_len_zt (ys := v) (enc := eTApiCell) Tryd.underlying22 rfl) ?_
   refine wo c5 ?_
   refine wv (o_ne rfl rfl) ?_
   refine wpf rfl c5 rfl ?_
   refine wa rfl ?_
   refine wl_nil ?_
   exact wtc c5
 refine wc_cond (b := ((!r1.2.2) || (!decide (r1.1 = (v.length : Int))))) rfl (fun c6 => ?_) (fun c6 => ?_)
 ·have h7 := cnd_t c6 h2
  refine wc_sr ?_
  refine wv (r := rI .i64 1) (o_assign rfl) ?_
  refine wl_x ?_
  refine wc_ret ?_
  refine wk_in_ret ?_
  refine wk_then_ret ?_
  obtain rfl := some_e h7
  exact wk_ret (r_1 Tryd.results10 (rv_t rfl)) (sS sN) ⟨rfl, rfl⟩
 ·have h8 := cnd_f c6 h2
  refine wc_sr ?_
  refine wv (o_fieldAddr Tryd.underlying55 rfl Tryd.sizeOf4 rfl rfl) ?_
  refine wv (o_load (i := 0) Tryd.isAgg4 rfl rfl rfl) ?_
  refine wa rfl ?_
  refine wl_x ?_
  refine wc_cond (b := r1.2.1.fOutside) rfl (fun c9 => ?_) (fun c9 => ?_)
  ·have h10 := cnd_t c9 h8
   refine wc_sr ?_
   refine wv (r := rI .i64 2) (o_assign rfl) ?_
   refine wl_x ?_
   refine wc_ret ?_
   refine wk_in_ret ?_
   refine wk_then_ret ?_
   obtain rfl := some_e h10
   exact wk_ret (r_1 Tryd.results10 (rv_t rfl)) (sS sN) ⟨rfl, rfl⟩
  ·have h11 := cnd_f c9 h8
   refine wc_seq_mid [(24, rB (r1.2.1.fLong || ((decide (200 < (v.length : Int))) || ((decide (8 < r1.2.1.fDepth)) || (decide (4000 < r1.2.1.fBytes))))))] [] ?_ ?_
   ·refine wc_region ?_
    refine wv (o_fieldAddr Tryd.underlying55 rfl Tryd.sizeOf4 rfl rfl) ?_
    refine wv (o_load (i := 0) Tryd.isAgg4 rfl rfl rfl) ?_
    refine wm rfl ?_
    refine bsplit (r1.2.1.fLong) (fun c12 => ?_) (fun c12 => ?_)
    ·refine wf c12 ?_
     refine wf c12 ?_
     refine wf c12 ?_
     refine wv (r := rB true) (o_pick_t (b := r1.2.1.fLong) rfl c12 rfl) ?_
     refine wm rfl ?_
     refine wl_off (b := true) rfl rfl rfl rfl ?_
     refine wl_off (b := true) rfl rfl rfl rfl ?_
     refine wl_off (b := true) rfl rfl rfl rfl ?_
     refine wv (r := rB true) (o_pick_t (b := true) rfl rfl rfl) ?_
     refine wm rfl ?_
     refine wl_off (b := true) rfl rfl rfl rfl ?_
     refine wl_off (b := true) rfl rfl rfl rfl ?_
     refine wl_off (b := true) rfl rfl rfl rfl ?_
     refine wv (r := rB true) (o_pick_t (b := true) rfl rfl rfl) ?_
     refine wa rfl ?_
     refine wl_nil ?_
     exact wtc c12
    ·refine wo c12 ?_
     refine wm rfl ?_
     refine wo c12 ?_
     refine wv (o_len_zt (ys := v) (enc := eTApiCell) Tryd.underlying22 rfl) ?_
     refine wo c12 ?_
     refine wv (o_gt rfl rfl) ?_
     refine wpf rfl c12 rfl ?_
     refine wm rfl ?_
     refine bsplit (decide (200 < (v.length : Int))) (fun c13 => ?_) (fun c13 => ?_)
     ·refine wf c13 ?_
      refine wf c13 ?_
      refine wf c13 ?_
      refine wv (r := rB true) (o_pick_t (b := decide (200 < (v.length : Int))) rfl c13 rfl) ?_
      refine wm rfl ?_
      refine wl_off (b := true) rfl rfl rfl rfl ?_
      refine wl_off (b := true) rfl rfl rfl rfl ?_
      refine wl_off (b := true) rfl rfl rfl rfl ?_
      refine wv (r := rB true) (o_pick_t (b := true) rfl rfl rfl) ?_
      refine wa rfl ?_
      refine wl_nil ?_
      exact wtc (And.intro c12 c13)
     ·refine wo c13 ?_
      refine wv (o_fieldAddr Tryd.underlying55 rfl Tryd.sizeOf3 rfl rfl) ?_
      refine wo c13 ?_
      refine wv (o_load (i := 0) Tryd.isAgg3 rfl rfl rfl) ?_
      refine wo c13 ?_
      refine wv (o_gt rfl rfl) ?_
      refine wpf rfl c13 rfl ?_
      refine wm rfl ?_
      refine bsplit (decide (8 < r1.2.1.fDepth)) (fun c14 => ?_) (fun c14 => ?_)
      ·refine wf c14 ?_
       refine wf c14 ?_
       refine wf c14 ?_
       refine wv (r := rB true) (o_pick_t (b := decide (8 < r1.2.1.fDepth)) rfl c14 rfl) ?_
       refine wa rfl ?_
       refine wl_nil ?_
       exact wtc (And.intro c12 (And.intro c13 c14))
      ·refine wo c14 ?_
       refine wv (o_fieldAddr Tryd.underlying55 rfl Tryd.sizeOf3 rfl rfl) ?_
       refine wo c14 ?_
       refine wv (o_load (i := 0) Tryd.isAgg3 rfl rfl rfl) ?_
       refine wo c14 ?_
       refine wv (o_gt rfl rfl) ?_
       refine wpf rfl c14 rfl ?_
       refine wa rfl ?_
       refine wl_nil ?_
       exact wtc (And.intro c12 (And.intro c13 c14))
   refine wc_cond (b := (r1.2.1.fLong || ((decide (200 < (v.length : Int))) || ((decide (8 < r1.2.1.fDepth)) || (decide (4000 < r1.2.1.fBytes)))))) rfl (fun c15 => ?_) (fun c15 => ?_)
   ·have h16 := cnd_t c15 h11
    refine wc_sr ?_
    refine wv (r := rI .i64 3) (o_assign rfl) ?_
    refine wl_x ?_
    refine wc_ret ?_
    refine wk_in_ret ?_
    refine wk_then_ret ?_
    obtain rfl := some_e h16
    exact wk_ret (r_1 Tryd.results10 (rv_t rfl)) sN ⟨rfl, rfl⟩
   ·have h17 := cnd_f c15 h11
    refine wc_skip ?_
    refine wk_in_norm ?_
    refine wk_x ?_
    refine wc_sr ?_
    refine wv (r := rI .i64 0) (o_assign rfl) ?_
    refine wl_x ?_
    refine wc_ret ?_
    obtain rfl := some_e h17
    exact wk_ret (r_1 Tryd.results10 (rv_t rfl)) sN ⟨rfl, rfl⟩

theorem vDepth_w (F : Nat) (v : (List TApiCell)) (r : Int) (h : vDepth F v = some r) : Fn Tryd.prog GE 12 [rSl 4 (List.map eTApiCell v)] [] (fun R H => R = rI .i64 r ∧ H = []) := by
 refine enter (n := 17) Tryd.func12 rfl Tryd.ntmps12 rfl (fun w Z => ?_)
 refine wc_as (l' := [(0, rSl 4 (List.map eTApiCell v))]) (H' := []) rfl rfl ?_
 unfold vDepth at h
 refine wc_sr ?_
 refine wv (r := rI .i64 0) (o_assign rfl) ?_
 refine wl_x ?_
 refine wc_seq ?_
 refine wc_sr ?_
 refine wm rfl ?_
 obtain ⟨r1, e3, h2⟩ := obn_e h
 refine wc0 Tryd.call10 (vCheck_w F v r1 e3) rfl ?_
 refine wv (o_ne rfl rfl) ?_
 refine wl_x ?_
 refine wc_cond (b := !decide (r1 = 0)) rfl (fun c4 => ?_) (fun c4 => ?_)
 ·have h5 := cnd_t c4 h2
  refine wc_sr ?_
  refine wv (r := rI .i64 0) (o_assign rfl) ?_
  refine wl_x ?_
  refine wc_ret ?_
  refine wk_then_ret ?_
  obtain rfl := some_e h5
  exact wk_ret (r_1 Tryd.results12 (rv_t rfl)) sN ⟨rfl, rfl⟩
 ·have h6 := cnd_f c4 h2
  refine wc_skip ?_
  refine wk_x ?_
  refine wc_sr ?_
  refine wm rfl ?_
  obtain ⟨r7, e9, h8⟩ := obn_e h6
  refine wc0 Tryd.call27 (vLook_w F v r7 e9) rfl ?_
  refine wm rfl ?_
  refine wv (o_extract rfl rfl) ?_
  refine wv (o_extract rfl rfl) ?_
  refine wv (o_extract rfl rfl) ?_
  refine w_alloc (cs := [rI .i64 0, rI .i64 0, rB false, rB false]) Tryd.zeroValue55 rfl rfl (fun b10 => ?_)
  refine wa rfl ?_
  refine u_store_agg (i := 0) Tryd.sizeOf55 rfl rfl rfl (OneAll.c rfl) rfl rfl (cs' := [rI .i64 r7.2.1.fDepth, rI .i64 r7.2.1.fBytes, rB r7.2.1.fOutside, rB r7.2.1.fLong]) rfl (H' := [.blk b10 (eTValueShape r7.2.1) 55]) rfl ?_
  refine wa rfl ?_
  refine wl_y ?_
  refine wv (o_fieldAddr Tryd.underlying55 rfl Tryd.sizeOf3 rfl rfl) ?_
  refine wv (o_load (i := 0) Tryd.isAgg3 rfl rfl rfl) ?_
  refine wa rfl ?_
  refine wl_x ?_
  refine wc_ret ?_
  obtain rfl := some_e h8
  exact wk_ret (r_1 Tryd.results12 (rv_t rfl)) (sS sN) ⟨rfl, rfl⟩

theorem vChecked_w (F : Nat) (v : (List TApiCell)) (r : (List TApiCell) × Int) (h : vChecked F v = some r) : Fn Tryd.prog GE 33 [rSl 4 (List.map eTApiCell v)] [] (fun R H => R = rTup [rSl 4 (List.map eTApiCell r.1), rI .i64 r.2] ∧ H = []) := by
 refine enter (n := 11) Tryd.func33 rfl Tryd.ntmps33 rfl (fun w Z => ?_)
 refine wc_as (l' := [(0, rSl 4 (List.map eTApiCell v))]) (H' := []) rfl rfl ?_
 unfold vChecked at h
 refine wc_sr ?_
 refine wv (r := rv (.slice none 0 0)) (o_assign rfl) ?_
 refine wv (r := rI .i64 0) (o_assign rfl) ?_
 refine wl_x ?_
 refine wc_seq ?_
 refine wc_sr ?_
 refine wm rfl ?_
 obtain ⟨r1, e3, h2⟩ := obn_e h
 refine wc0 Tryd.call10 (vCheck_w F v r1 e3) rfl ?_
 refine wa rfl ?_
 refine wl_y ?_
 refine wm rfl ?_
 refine wv (o_ne rfl rfl) ?_
 refine wl_x ?_
 refine wc_cond (b := !decide (r1 = 0)) rfl (fun c4 => ?_) (fun c4 => ?_)
 ·have h5 := cnd_t c4 h2
  refine wc_sr ?_
  refine wm rfl ?_
  refine wv (r := rv (.slice none 0 0)) (o_assign rfl) ?_
  refine wa rfl ?_
  refine wl_x ?_
  refine wc_ret ?_
  refine wk_then_ret ?_
  refine WK.up (d := 2) (r := rSl 4 (List.map eTApiCell ([] : List TApiCell))) rfl (Up.le (Rle.nil _)) ?_
  obtain rfl := some_e h5
  exact wk_ret (r_2 Tryd.results33 (rv_t rfl) (rv_t rfl)) sN ⟨rfl, rfl⟩
 ·have h6 := cnd_f c4 h2
  refine wc_skip ?_
  refine wk_x ?_
  refine wc_sr ?_
  refine wm rfl ?_
  refine wa rfl ?_
  refine wv (r := rI .i64 0) (o_assign rfl) ?_
  refine wl_x ?_
  refine wc_ret ?_
  obtain rfl := some_e h6
  exact wk_ret (r_2 Tryd.results33 (rv_t rfl) (rv_t rfl)) sN ⟨rfl, rfl⟩

theorem vNull_w  (r : (List TApiCell)) (h : vNull = some r) : Fn Tryd.prog GE 21 [] [] (fun R H => R = rSl 4 (List.map eTApiCell r) ∧ H = []) := by
 refine enter (n := 3) Tryd.func21 rfl Tryd.ntmps21 rfl (fun w Z => ?_)
 refine wc_as (l' := []) (H' := []) rfl rfl ?_
 unfold vNull at h
 refine wc_sr ?_
 refine wv (r := rv (.slice none 0 0)) (o_assign rfl) ?_
 refine wl_y ?_
 refine wv (r := rAgg [rI .i64 1, rI .i64 0, rS ([] : Str), rI .i64 0]) (o_build40_0 rfl rfl) ?_
 refine w_buildSlice (ys := ([(TApiCell.mk 1 0 ([] : Str) 0)] : List TApiCell)) (enc := eTApiCell) (css := [[rI .i64 1, rI .i64 0, rS ([] : Str), rI .i64 0]]) (xs := [.tmp 1]) Tryd.underlying22 Tryd.sizeOf40 Tryd.zeroValue40 rfl rfl rfl ⟨Cel.agg ⟨Up.refl _, Up.refl _, Up.refl _, Up.refl _, trivial⟩, trivial⟩ rfl eTApiCell_len rfl rfl rfl (fun b1 => ?_)
 refine wa rfl ?_
 refine wl_x ?_
 refine wc_ret ?_
 refine WK.freeze (i := 0) rfl ?_
 refine WK.up (d := 0) (r := rSl 4 (List.map eTApiCell ([(TApiCell.mk 1 0 ([] : Str) 0)] : List TApiCell))) rfl (Up.fact (i := 0) rfl) ?_
 obtain rfl := some_e h
 exact wk_ret (r_1 Tryd.results21 (rv_t rfl)) (sS sN) ⟨rfl, rfl⟩

theorem vInt_w (F : Nat) (n : Int) (r : (List TApiCell) × Int) (h : vInt F n = some r) : Fn Tryd.prog GE 19 [rI .i64 n] [] (fun R H => R = rTup [rSl 4 (List.map eTApiCell r.1), rI .i64 r.2] ∧ H = []) := by
 refine enter (n := 10) Tryd.func19 rfl Tryd.ntmps19 rfl (fun w Z => ?_)
 refine wc_as (l' := [(0, rI .i64 n)]) (H' := []) rfl rfl ?_
 unfold vInt at h
 refine wc_sr ?_
 refine wv (r := rv (.slice none 0 0)) (o_assign rfl) ?_
 refine wv (r := rI .i64 0) (o_assign rfl) ?_
 refine wl_y ?_
 refine wm rfl ?_
 refine wv (r := rAgg [rI .i64 3, rI .i64 n, rS ([] : Str), rI .i64 0]) (o_build40_0_1 rfl rfl rfl rfl) ?_
 refine w_buildSlice (ys := ([(TApiCell.mk 3 n ([] : Str) 0)] : List TApiCell)) (enc := eTApiCell) (css := [[rI .i64 3, rI .i64 n, rS ([] : Str), rI .i64 0]]) (xs := [.tmp 5]) Tryd.underlying22 Tryd.sizeOf40 Tryd.zeroValue40 rfl rfl rfl ⟨Cel.agg ⟨Up.refl _, Up.refl _, Up.refl _, Up.refl _, trivial⟩, trivial⟩ rfl eTApiCell_len rfl rfl rfl (fun b1 => ?_)
 refine WL.freeze (i := 0) rfl ?_
 refine WL.up (d := 6) (r := rSl 4 (List.map eTApiCell ([(TApiCell.mk 3 n ([] : Str) 0)] : List TApiCell))) rfl (Up.fact (i := 0) rfl) ?_
 obtain ⟨r2, e4, h3⟩ := obn_e h
 refine wc0 Tryd.call33 (vChecked_w F ([(TApiCell.mk 3 n ([] : Str) 0)] : List TApiCell) r2 e4) rfl ?_
 refine wv (o_extract rfl rfl) ?_
 refine wv (o_extract rfl rfl) ?_
 refine wa rfl ?_
 refine wa rfl ?_
 refine wl_x ?_
 refine wc_ret ?_
 obtain rfl := some_e h3
 exact wk_ret (r_2 Tryd.results19 (rv_t rfl) (rv_t rfl)) (sS sN) ⟨rfl, rfl⟩

theorem vStr_w (F : Nat) (s : Str) (r : (List TApiCell) × Int) (h : vStr F s = some r) : Fn Tryd.prog GE 22 [rS s] [] (fun R H => R = rTup [rSl 4 (List.map eTApiCell r.1), rI .i64 r.2] ∧ H = []) := by
 refine enter (n := 10) Tryd.func22 rfl Tryd.ntmps22 rfl (fun w Z => ?_)
 refine wc_as (l' := [(0, rS s)]) (H' := []) rfl rfl ?_
 unfold vStr at h
 refine wc_sr ?_
 refine wv (r := rv (.slice none 0 0)) (o_assign rfl) ?_
 refine wv (r := rI .i64 0) (o_assign rfl) ?_
 refine wl_y ?_
 refine wm rfl ?_
 refine wv (r := rAgg [rI .i64 4, rI .i64 0, rS s, rI .i64 0]) (o_build40_0_2 rfl rfl rfl rfl) ?_
 refine w_buildSlice (ys := ([(TApiCell.mk 4 0 s 0)] : List TApiCell)) (enc := eTApiCell) (css := [[rI .i64 4, rI .i64 0, rS s, rI .i64 0]]) (xs := [.tmp 5]) Tryd.underlying22 Tryd.sizeOf40 Tryd.zeroValue40 rfl rfl rfl ⟨Cel.agg ⟨Up.refl _, Up.refl _, Up.refl _, Up.refl _, trivial⟩, trivial⟩ rfl eTApiCell_len rfl rfl rfl (fun b1 => ?_)
 refine WL.freeze (i := 0) rfl ?_
 refine WL.up (d := 6) (r := rSl 4 (List.map eTApiCell ([(TApiCell.mk 4 0 s 0)] : List TApiCell))) rfl (Up.fact (i := 0) rfl) ?_
 obtain ⟨r2, e4, h3⟩ := obn_e h
 refine wc0 Tryd.call33 (vChecked_w F ([(TApiCell.mk 4 0 s 0)] : List TApiCell) r2 e4) rfl ?_
 refine wv (o_extract rfl rfl) ?_
 refine wv (o_extract rfl rfl) ?_
 refine wa rfl ?_
 refine wa rfl ?_
 refine wl_x ?_
 refine wc_ret ?_
 obtain rfl := some_e h3
 exact wk_ret (r_2 Tryd.results22 (rv_t rfl) (rv_t rfl)) (sS sN) ⟨rfl, rfl⟩

theorem vList_w (F : Nat) (l : (List (List TApiCell))) (r : (List TApiCell) × Int) (h : vList F l = some r) : Fn Tryd.prog GE 20 [rSl 1 (List.map eL_TApiCell l)] [] (fun R H => R = rTup [rSl 4 (List.map eTApiCell r.1), rI .i64 r.2] ∧ H = []) := by
 refine enter (n := 31) Tryd.func20 rfl Tryd.ntmps20 rfl (fun w Z => ?_)
 refine wc_as (l' := [(0, rSl 1 (List.map eL_TApiCell l))]) (H' := []) rfl rfl ?_
 unfold vList at h
 refine wc_sr ?_
 refine wv (r := rv (.slice none 0 0)) (o_assign rfl) ?_
 refine wv (r := rI .i64 0) (o_assign rfl) ?_
 refine wl_y ?_
 refine wm rfl ?_
 refine wv (o_len_zt (ys := l) (enc := eL_TApiCell) Tryd.underlying44 rfl) ?_
 refine wv (r := rAgg [rI .i64 5, rI .i64 0, rS ([] : Str), rI .i64 (l.length : Int)]) (o_build40_0_3 rfl rfl rfl rfl) ?_
 refine w_buildSlice (ys := ([(TApiCell.mk 5 0 ([] : Str) (l.length : Int))] : List TApiCell)) (enc := eTApiCell) (css := [[rI .i64 5, rI .i64 0, rS ([] : Str), rI .i64 (l.length : Int)]]) (xs := [.tmp 10]) Tryd.underlying22 Tryd.sizeOf40 Tryd.zeroValue40 rfl rfl rfl ⟨Cel.agg ⟨Up.refl _, Up.refl _, Up.refl _, Up.refl _, trivial⟩, trivial⟩ rfl eTApiCell_len rfl rfl rfl (fun b1 => ?_)
 refine wa rfl ?_
 refine wl_x ?_
 refine wc_seq ?_
 refine wc_sr ?_
 refine wm rfl ?_
 refine wv (o_len_zt (ys := l) (enc := eL_TApiCell) Tryd.underlying44 rfl) ?_
 refine wv (r := rI .i64 0) (o_move rfl) ?_
 refine wl_x ?_
 refine wc_block ?_
 obtain ⟨o56, eo57, hK58⟩ := obn_e h
 refine wc_loop2 (S := Nat × ((List TApiCell) × Int) × (Value)) (V := ((List TApiCell)) × (Value)) 0 (fun σ => lop (fun σ => vList_b1 F l σ.1 σ.2) σ.1 σ.2.1 = some o56) (fun σ => [(2, rv (.slice none 0 0)), (3, rI .i64 0), (4, rv σ.2.2), (12, rSl 1 (List.map eL_TApiCell l)), (13, rI .i64 (l.length : Int)), (14, rI .i64 σ.2.1.2)]) (fun σ => [.row σ.2.2 40 4 (List.map eTApiCell σ.2.1.1)]) (fun σ => σ.1) (F, (([(TApiCell.mk 5 0 ([] : Str) (l.length : Int))] : List TApiCell), 0), (.slice (some ⟨b1, 0, none⟩) 1 1)) eo57 (Sub.c rfl (Sub.c5 rfl rfl rfl rfl rfl Sub.nil)) (sC sN) (fun σ => vList_k1 F σ.1 = some r) (fun σ => [(2, rv (.slice none 0 0)), (3, rI .i64 0), (4, rv σ.2)]) (fun σ => [.row σ.2 40 4 (List.map eTApiCell σ.1)]) ?_ ?_
 ·rintro ⟨n64, ⟨x35, x37⟩, v36⟩ hi62
  refine wc_as (l' := [(2, rv (.slice none 0 0)), (3, rI .i64 0), (4, rv v36), (12, rSl 1 (List.map eL_TApiCell l)), (13, rI .i64 (l.length : Int)), (14, rI .i64 x37)]) (H' := [.row v36 40 4 (List.map eTApiCell x35)]) rfl rfl ?_
  obtain ⟨m61, rfl, t59, h63, ht60⟩ := lop_e hi62
  replace h63 : vList_b1 F l x35 x37 = some t59 := h63
  unfold vList_b1 at h63
  refine wc_sr ?_
  refine wv (o_lt rfl rfl) ?_
  refine wl_x ?_
  refine wc_seq ?_
  refine wc_cond (b := decide (x37 < (l.length : Int))) rfl (fun c65 => ?_) (fun c65 => ?_)
  ·have h66 := cnd_t c65 h63
   refine wc_skip ?_
   refine wk_x ?_
   refine wc_seq ?_
   refine wc_block ?_
   refine wc_sr ?_
   obtain ⟨g67, h68⟩ := chk_e h66
   refine wv (o_ix_z (enc := eL_TApiCell) (ys := l) Tryd.underlying44 Tryd.sizeOf22 rfl rfl g67) ?_
   refine wv (o_load_z Tryd.isAgg22 rfl rfl) ?_
   refine wa rfl ?_
   refine wl_x ?_
   refine wc_seq ?_
   refine wc_sr ?_
   refine wm rfl ?_
   obtain ⟨r69, e71, h70⟩ := obn_e h68
   refine wc0 Tryd.call10 (vCheck_w F (at' l x37) r69 e71) rfl ?_
   refine wa rfl ?_
   refine wl_y ?_
   refine wm rfl ?_
   refine wv (o_ne rfl rfl) ?_
   refine wl_x ?_
   refine wc_cond (b := !decide (r69 = 0)) rfl (fun c72 => ?_) (fun c72 => ?_)
   ·have h73 := cnd_t c72 h70
    refine wc_sr ?_
    refine wm rfl ?_
    refine wv (r := rv (.slice none 0 0)) (o_assign rfl) ?_
    refine wa rfl ?_
    refine wl_x ?_
    refine wc_ret ?_
    refine wk_then_ret ?_
    refine wk_in_ret ?_
    refine wk_then_ret ?_
    refine wk_then_ret ?_
    refine wk_cut_ret ?_
    have h74 := stp_ret h73 ht60 hK58
    refine wk_in_ret ?_
    refine wk_then_ret ?_
    refine WK.up (d := 2) (r := rSl 4 (List.map eTApiCell ([] : List TApiCell))) rfl (Up.le (Rle.nil _)) ?_
    obtain rfl := some_e h74
    exact wk_ret (r_2 Tryd.results20 (rv_t rfl) (rv_t rfl)) (sS sN) ⟨rfl, rfl⟩
   ·have h75 := cnd_f c72 h70
    refine wc_skip ?_
    refine wk_x ?_
    refine wc_region ?_
    refine wm rfl ?_
    refine wm rfl ?_
    obtain ⟨g77, h78⟩ := chk_e h75
    obtain ⟨inf, hinf⟩ := info40
    refine w_append (xs := x35) (ys := at' l x37) (enc := eTApiCell) (i := 0) Tryd.underlying22 hinf.1 hinf.2.1 hinf.2.2.1 hinf.2.2.2 rfl rfl rfl rfl rfl (Src.z rfl rfl) eTApiCell_len eTApiCell_one g77 rfl (fun v76 => ?_)
    refine wa rfl ?_
    refine wl_nil ?_
    refine wk_in_norm ?_
    refine wk_x ?_
    refine wc_region ?_
    obtain ⟨g79, h80⟩ := chk_e h78
    refine wv (o_add rfl rfl g79) ?_
    refine wm rfl ?_
    refine wl_nil ?_
    have h81 := stp_next h80 ht60
    exact wk_then (wk_some (m61, (x35 ++ (at' l x37), x37 + 1), v76) ⟨h81, Nat.lt_succ_self _⟩ (Sub.c rfl (Sub.c5 rfl rfl rfl rfl rfl Sub.nil)) (sC sN))
  ·have h82 := cnd_f c65 h63
   refine wc_exit ?_
   refine wk_then_exit ?_
   have h83 := stp_go h82 ht60 hK58
   exact wk_then_exit (wk_cut_hit (wk_some (x35, v36) h83 (Sub.c rfl (Sub.c rfl (Sub.c rfl Sub.nil))) (sC sN)))
 ·rintro ⟨x54, v55⟩ h84
  refine wk_as (l' := [(2, rv (.slice none 0 0)), (3, rI .i64 0), (4, rv v55)]) (H' := [.row v55 40 4 (List.map eTApiCell x54)]) rfl rfl ?_
  replace h84 : vList_k1 F x54 = some r := h84
  unfold vList_k1 at h84
  refine wk_in_hit ?_
  refine wk_x ?_
  refine wc_sr ?_
  refine wm rfl ?_
  refine WL.freeze (i := 0) rfl ?_
  refine WL.up (d := 27) (r := rSl 4 (List.map eTApiCell x54)) rfl (Up.fact (i := 0) rfl) ?_
  obtain ⟨r85, e87, h86⟩ := obn_e h84
  refine wc0 Tryd.call33 (vChecked_w F x54 r85 e87) rfl ?_
  refine wv (o_extract rfl rfl) ?_
  refine wv (o_extract rfl rfl) ?_
  refine wa rfl ?_
  refine wa rfl ?_
  refine wl_x ?_
  refine wc_ret ?_
  obtain rfl := some_e h86
  exact wk_ret (r_2 Tryd.results20 (rv_t rfl) (rv_t rfl)) (sS sN) ⟨rfl, rfl⟩

theorem vMap_w (F : Nat) (keys : (List Str)) (l : (List (List TApiCell))) (r : (List TApiCell) × Int) (h : vMap F keys l = some r) : Fn Tryd.prog GE 23 [rSl 1 (List.map eS keys), rSl 1 (List.map eL_TApiCell l)] [] (fun R H => R = rTup [rSl 4 (List.map eTApiCell r.1), rI .i64 r.2] ∧ H = []) := by
 refine enter (n := 47) Tryd.func23 rfl Tryd.ntmps23 rfl (fun w Z => ?_)
 refine wc_as (l' := [(0, rSl 1 (List.map eS keys)), (1, rSl 1 (List.map eL_TApiCell l))]) (H' := []) rfl rfl ?_
 unfold vMap at h
 refine wc_sr ?_
 refine wv (r := rv (.slice none 0 0)) (o_assign rfl) ?_
 refine wv (r := rI .i64 0) (o_assign rfl) ?_
 refine wl_x ?_
 refine wc_seq ?_
 refine wc_sr ?_
 refine wm rfl ?_
 refine wv (o_len_zt (ys := keys) (enc := eS) Tryd.underlying46 rfl) ?_
 refine wm rfl ?_
 refine wv (o_len_zt (ys := l) (enc := eL_TApiCell) Tryd.underlying44 rfl) ?_
 refine wv (o_ne rfl rfl) ?_
 refine wl_x ?_
 refine wc_cond (b := !decide ((keys.length : Int) = (l.length : Int))) rfl (fun c1 => ?_) (fun c1 => ?_)
 ·have h2 := cnd_t c1 h
  refine wc_sr ?_
  refine wv (r := rv (.slice none 0 0)) (o_assign rfl) ?_
  refine wv (r := rI .i64 1) (o_assign rfl) ?_
  refine wl_x ?_
  refine wc_ret ?_
  refine wk_then_ret ?_
  refine WK.up (d := 4) (r := rSl 4 (List.map eTApiCell ([] : List TApiCell))) rfl (Up.le (Rle.nil _)) ?_
  obtain rfl := some_e h2
  exact wk_ret (r_2 Tryd.results23 (rv_t rfl) (rv_t rfl)) sN ⟨rfl, rfl⟩
 ·have h3 := cnd_f c1 h
  refine wc_skip ?_
  refine wk_x ?_
  refine wc_sr ?_
  refine wm rfl ?_
  refine wv (o_len_zt (ys := l) (enc := eL_TApiCell) Tryd.underlying44 rfl) ?_
  refine wv (r := rAgg [rI .i64 6, rI .i64 0, rS ([] : Str), rI .i64 (l.length : Int)]) (o_build40_0_3 rfl rfl rfl rfl) ?_
  refine w_buildSlice (ys := ([(TApiCell.mk 6 0 ([] : Str) (l.length : Int))] : List TApiCell)) (enc := eTApiCell) (css := [[rI .i64 6, rI .i64 0, rS ([] : Str), rI .i64 (l.length : Int)]]) (xs := [.tmp 17]) Tryd.underlying22 Tryd.sizeOf40 Tryd.zeroValue40 rfl rfl rfl ⟨Cel.agg ⟨Up.refl _, Up.refl _, Up.refl _, Up.refl _, trivial⟩, trivial⟩ rfl eTApiCell_len rfl rfl rfl (fun b4 => ?_)
  refine wa rfl ?_
  refine wl_x ?_
  refine wc_seq ?_
  refine wc_sr ?_
  refine wm rfl ?_
  refine wv (o_len_zt (ys := l) (enc := eL_TApiCell) Tryd.underlying44 rfl) ?_
  refine wv (r := rI .i64 0) (o_move rfl) ?_
  refine wl_x ?_
  refine wc_block ?_
  obtain ⟨o77, eo78, hK79⟩ := obn_e h3
  refine wc_loop2 (S := Nat × ((List TApiCell) × Int) × (Value)) (V := ((List TApiCell)) × (Value)) 0 (fun σ => lop (fun σ => vMap_b1 F keys l σ.1 σ.2) σ.1 σ.2.1 = some o77) (fun σ => [(0, rSl 1 (List.map eS keys)), (4, rv (.slice none 0 0)), (5, rI .i64 0), (6, rv σ.2.2), (19, rSl 1 (List.map eL_TApiCell l)), (20, rI .i64 (l.length : Int)), (21, rI .i64 σ.2.1.2)]) (fun σ => [.row σ.2.2 40 4 (List.map eTApiCell σ.2.1.1)]) (fun σ => σ.1) (F, (([(TApiCell.mk 6 0 ([] : Str) (l.length : Int))] : List TApiCell), 0), (.slice (some ⟨b4, 0, none⟩) 1 1)) eo78 (Sub.c rfl (Sub.c rfl (Sub.c5 rfl rfl rfl rfl rfl Sub.nil))) (sC sN) (fun σ => vMap_k1 F σ.1 = some r) (fun σ => [(4, rv (.slice none 0 0)), (5, rI .i64 0), (6, rv σ.2)]) (fun σ => [.row σ.2 40 4 (List.map eTApiCell σ.1)]) ?_ ?_
  ·rintro ⟨n85, ⟨x50, x52⟩, v51⟩ hi83
   refine wc_as (l' := [(0, rSl 1 (List.map eS keys)), (4, rv (.slice none 0 0)), (5, rI .i64 0), (6, rv v51), (19, rSl 1 (List.map eL_TApiCell l)), (20, rI .i64 (l.length : Int)), (21, rI .i64 x52)]) (H' := [.row v51 40 4 (List.map eTApiCell x50)]) rfl rfl ?_
   obtain ⟨m82, rfl, t80, h84, ht81⟩ := lop_e hi83
   replace h84 : vMap_b1 F keys l x50 x52 = some t80 := h84
   unfold vMap_b1 at h84
   refine wc_sr ?_
   refine wv (o_lt rfl rfl) ?_
   refine wl_x ?_
   refine wc_seq ?_
   refine wc_cond (b := decide (x52 < (l.length : Int))) rfl (fun c86 => ?_) (fun c86 => ?_)
   ·have h87 := cnd_t c86 h84
    refine wc_skip ?_
    refine wk_x ?_
    refine wc_seq ?_
    refine wc_block ?_
    refine wc_sr ?_
    refine wm rfl ?_
    obtain ⟨g88, h89⟩ := chk_e h87
    refine wv (o_ix_z (enc := eL_TApiCell) (ys := l) Tryd.underlying44 Tryd.sizeOf22 rfl rfl g88) ?_
    refine wv (o_load_z Tryd.isAgg22 rfl rfl) ?_
    refine wa rfl ?_
    refine wa rfl ?_
    refine wl_x ?_
    refine wc_seq ?_
    refine wc_sr ?_
    refine wm rfl ?_
    obtain ⟨r90, e92, h91⟩ := obn_e h89
    refine wc0 Tryd.call10 (vCheck_w F (at' l x52) r90 e92) rfl ?_
    refine wa rfl ?_
    refine wl_y ?_
    refine wm rfl ?_
    refine wv (o_ne rfl rfl) ?_
    refine wl_x ?_
    refine wc_cond (b := !decide (r90 = 0)) rfl (fun c93 => ?_) (fun c93 => ?_)
    ·have h94 := cnd_t c93 h91
     refine wc_sr ?_
     refine wm rfl ?_
     refine wv (r := rv (.slice none 0 0)) (o_assign rfl) ?_
     refine wa rfl ?_
     refine wl_x ?_
     refine wc_ret ?_
     refine wk_then_ret ?_
     refine wk_in_ret ?_
     refine wk_then_ret ?_
     refine wk_then_ret ?_
     refine wk_cut_ret ?_
     have h95 := stp_ret h94 ht81 hK79
     refine wk_in_ret ?_
     refine wk_then_ret ?_
     refine WK.up (d := 4) (r := rSl 4 (List.map eTApiCell ([] : List TApiCell))) rfl (Up.le (Rle.nil _)) ?_
     obtain rfl := some_e h95
     exact wk_ret (r_2 Tryd.results23 (rv_t rfl) (rv_t rfl)) (sS sN) ⟨rfl, rfl⟩
    ·have h96 := cnd_f c93 h91
     refine wc_skip ?_
     refine wk_x ?_
     refine wc_sr ?_
     refine wm rfl ?_
     refine wm rfl ?_
     refine wm rfl ?_
     obtain ⟨g97, h98⟩ := chk_e h96
     refine wv (o_ix_z (enc := eS) (ys := keys) Tryd.underlying46 Tryd.sizeOf9 rfl rfl g97) ?_
     refine wv (o_load_z Tryd.isAgg9 rfl rfl) ?_
     refine wv (r := rAgg [rI .i64 4, rI .i64 0, rS (at' keys x52), rI .i64 0]) (o_build40_0_2 rfl rfl rfl rfl) ?_
     refine w_buildSlice (ys := ([(TApiCell.mk 4 0 (at' keys x52) 0)] : List TApiCell)) (enc := eTApiCell) (css := [[rI .i64 4, rI .i64 0, rS (at' keys x52), rI .i64 0]]) (xs := [.tmp 36]) Tryd.underlying22 Tryd.sizeOf40 Tryd.zeroValue40 rfl rfl rfl ⟨Cel.agg ⟨Up.refl _, Up.refl _, Up.refl _, Up.refl _, trivial⟩, trivial⟩ rfl eTApiCell_len rfl rfl rfl (fun b99 => ?_)
     obtain ⟨g101, h102⟩ := chk_e h98
     obtain ⟨inf, hinf⟩ := info40
     refine w_append (xs := x50) (ys := ([(TApiCell.mk 4 0 (at' keys x52) 0)] : List TApiCell)) (enc := eTApiCell) (i := 1) Tryd.underlying22 hinf.1 hinf.2.1 hinf.2.2.1 hinf.2.2.2 rfl rfl rfl rfl rfl (Src.w (i := 0) rfl rfl) eTApiCell_len eTApiCell_one g101 rfl (fun v100 => ?_)
     refine wa rfl ?_
     refine wl_x ?_
     refine wc_region ?_
     refine wm rfl ?_
     refine wm rfl ?_
     obtain ⟨g104, h105⟩ := chk_e h102
     obtain ⟨inf, hinf⟩ := info40
     refine w_append (xs := x50 ++ ([(TApiCell.mk 4 0 (at' keys x52) 0)] : List TApiCell)) (ys := at' l x52) (enc := eTApiCell) (i := 0) Tryd.underlying22 hinf.1 hinf.2.1 hinf.2.2.1 hinf.2.2.2 rfl rfl rfl rfl rfl (Src.z rfl rfl) eTApiCell_len eTApiCell_one g104 rfl (fun v103 => ?_)
     refine wa rfl ?_
     refine wl_nil ?_
     refine wk_in_norm ?_
     refine wk_x ?_
     refine wc_region ?_
     obtain ⟨g106, h107⟩ := chk_e h105
     refine wv (o_add rfl rfl g106) ?_
     refine wm rfl ?_
     refine wl_nil ?_
     have h108 := stp_next h107 ht81
     exact wk_then (wk_some (m82, ((x50 ++ ([(TApiCell.mk 4 0 (at' keys x52) 0)] : List TApiCell)) ++ (at' l x52), x52 + 1), v103) ⟨h108, Nat.lt_succ_self _⟩ (Sub.c rfl (Sub.c rfl (Sub.c5 rfl rfl rfl rfl rfl Sub.nil))) (sC (sS sN)))
   ·have h109 := cnd_f c86 h84
    refine wc_exit ?_
    refine wk_then_exit ?_
    have h110 := stp_go h109 ht81 hK79
    exact wk_then_exit (wk_cut_hit (wk_some (x50, v51) h110 (Sub.c rfl (Sub.c rfl (Sub.c rfl Sub.nil))) (sC sN)))
  ·rintro ⟨x75, v76⟩ h111
   refine wk_as (l' := [(4, rv (.slice none 0 0)), (5, rI .i64 0), (6, rv v76)]) (H' := [.row v76 40 4 (List.map eTApiCell x75)]) rfl rfl ?_
   replace h111 : vMap_k1 F x75 = some r := h111
   unfold vMap_k1 at h111
   refine wk_in_hit ?_
   refine wk_x ?_
   refine wc_sr ?_
   refine wm rfl ?_
   refine WL.freeze (i := 0) rfl ?_
   refine WL.up (d := 43) (r := rSl 4 (List.map eTApiCell x75)) rfl (Up.fact (i := 0) rfl) ?_
   obtain ⟨r112, e114, h113⟩ := obn_e h111
   refine wc0 Tryd.call33 (vChecked_w F x75 r112 e114) rfl ?_
   refine wv (o_extract rfl rfl) ?_
   refine wv (o_extract rfl rfl) ?_
   refine wa rfl ?_
   refine wa rfl ?_
   refine wl_x ?_
   refine wc_ret ?_
   obtain rfl := some_e h113
   exact wk_ret (r_2 Tryd.results23 (rv_t rfl) (rv_t rfl)) (sS sN) ⟨rfl, rfl⟩

end Go.Proofs.YtkalifgebccpcaaDoor.Q

/-
 What functions compute, with checks: plain definitions, printed by a small program of ours (gq.py). No program in sight.
-/
namespace Go.Proofs.YtkalifgebccpcaaDoor
open Go
set_option linter.unusedVariables false
def vQuote_b1 (s : Str) (x82 : Int) (x83 : Str) : Option (Stp (Int × Str) (Out (Str) (Str))) :=
 cnd (decide (x82 < (s.length : Int))) (chk (inR x82 (s.length : Int)) <| cnd (((decide ((bat s x82) = 34)) || (decide ((bat s x82) = 92)))) (chk (inA 1 (x83.length + 1)) <| chk (inK .u8 92) <| bnd (x83 ++ [UInt8.ofNat (Int.toNat 92)]) fun r145 => chk (inA 1 (r145.length + 1)) <| chk (inK .u8 (bat s x82)) <| bnd (r145 ++ [UInt8.ofNat (Int.toNat (bat s x82))]) fun r153 => chk (inK .i64 (x82 + 1)) <| some (.next (x82 + 1, r153))) (chk (inA 1 (x83.length + 1)) <| chk (inK .u8 (bat s x82)) <| bnd (x83 ++ [UInt8.ofNat (Int.toNat (bat s x82))]) fun r165 => chk (inK .i64 (x82 + 1)) <| some (.next (x82 + 1, r165)))) (some (.out (.go x83)))

def vQuote_k1 (x122 : Str) : Option (Str) :=
 chk (inA 1 (x122.length + 1)) <| bnd (x122 ++ [UInt8.ofNat (Int.toNat 34)]) fun r177 => some r177

def vQuote (F : Nat) (l : Str) (s : Str) : Option (Str) :=
 chk (inA 1 (l.length + 1)) <| chk (inK .u8 34) <| bnd (l ++ [UInt8.ofNat (Int.toNat 34)]) fun r6 => obn (lop (fun σ => vQuote_b1 s σ.1 σ.2) F (0, r6)) (oute fun ν => vQuote_k1 ν)

def vWritem (F : Nat) (rec_vWriteF : Str → (List TApiCell) → Bool → Str → TApiCell → Option (Bool × Bool × Str)) (rec_vWriteP : (List TApiCell) → Bool → Str → TApiCell → Option (Bool × Str)) (l : Str) (v : (List TApiCell)) : Option (Str) :=
 chk (inR 0 (v.length : Int)) <| cnd (decide (((at' v 0).fKind) = 1)) (chk (inA 1 (l.length + ([110, 117, 108, 108] : Str).length)) <| bnd (l ++ ([110, 117, 108, 108] : Str)) fun r10 => some r10) (cnd (decide (((at' v 0).fKind) = 2)) (chk (inR ((at' v 0).fInt) (([([102, 97, 108, 115, 101] : Str), ([116, 114, 117, 101] : Str)] : List Str).length : Int)) <| chk (inA 1 (l.length + (at' ([([102, 97, 108, 115, 101] : Str), ([116, 114, 117, 101] : Str)] : List Str) ((at' v 0).fInt)).length)) <| bnd (l ++ (at' ([([102, 97, 108, 115, 101] : Str), ([116, 114, 117, 101] : Str)] : List Str) ((at' v 0).fInt))) fun r21 => some r21) (cnd (decide (((at' v 0).fKind) = 3)) (chk (inK .i64 ((at' v 0).fInt)) <| chk (inA 1 (l.length + (Lib.itoa ((at' v 0).fInt)).length)) <| bnd (l ++ (Lib.itoa ((at' v 0).fInt))) fun r32 => some r32) (cnd (decide (((at' v 0).fKind) = 4)) (obn (vQuote F l ((at' v 0).fStr)) fun r38 => some r38) (cnd (decide (((at' v 0).fKind) = 6)) (chk (inR 0 (([123, 125] : Str).length : Int)) <| chk (inA 1 (l.length + 1)) <| chk (inK .u8 (bat ([123, 125] : Str) 0)) <| bnd (l ++ [UInt8.ofNat (Int.toNat (bat ([123, 125] : Str) 0))]) fun r52 => obn (rec_vWriteP v true r52 (at' v 0)) fun r56 => chk (inR 1 (([123, 125] : Str).length : Int)) <| chk (inA 1 (r56.2.length + 1)) <| chk (inK .u8 (bat ([123, 125] : Str) 1)) <| bnd (r56.2 ++ [UInt8.ofNat (Int.toNat (bat ([123, 125] : Str) 1))]) fun r67 => some r67) (chk (inR 0 (([91, 93] : Str).length : Int)) <| chk (inA 1 (l.length + 1)) <| chk (inK .u8 (bat ([91, 93] : Str) 0)) <| bnd (l ++ [UInt8.ofNat (Int.toNat (bat ([91, 93] : Str) 0))]) fun r78 => obn (rec_vWriteP v true r78 (at' v 0)) fun r82 => chk (inR 1 (([91, 93] : Str).length : Int)) <| chk (inA 1 (r82.2.length + 1)) <| chk (inK .u8 (bat ([91, 93] : Str) 1)) <| bnd (r82.2 ++ [UInt8.ofNat (Int.toNat (bat ([91, 93] : Str) 1))]) fun r93 => some r93)))))

def vWriteFm (F : Nat) (rec_vWrite : Str → (List TApiCell) → Option (Str)) (key : Str) (x : (List TApiCell)) (first : Bool) (l : Str) (c : TApiCell) : Option (Bool × Bool × Str) :=
 cnd (!first) (chk (inA 1 (l.length + 1)) <| chk (inK .u8 44) <| bnd (l ++ [UInt8.ofNat (Int.toNat 44)]) fun r8 => cnd (decide (c.fKind = 6)) (obn (vQuote F r8 key) fun r13 => chk (inA 1 (r13.length + 1)) <| chk (inK .u8 58) <| bnd (r13 ++ [UInt8.ofNat (Int.toNat 58)]) fun r22 => obn (rec_vWrite r22 x) fun r25 => some (true, false, r25)) (obn (rec_vWrite r8 x) fun r30 => some (true, false, r30))) (cnd (decide (c.fKind = 6)) (obn (vQuote F l key) fun r37 => chk (inA 1 (r37.length + 1)) <| chk (inK .u8 58) <| bnd (r37 ++ [UInt8.ofNat (Int.toNat 58)]) fun r46 => obn (rec_vWrite r46 x) fun r49 => some (true, false, r49)) (obn (rec_vWrite l x) fun r54 => some (true, false, r54)))

def vWriteP_b1 (F : Nat) (v : (List TApiCell)) (c : TApiCell) (rec_vWriteF : Str → (List TApiCell) → Bool → Str → TApiCell → Option (Bool × Bool × Str)) (x106 : Int) (x107 : Int) (x108 : Bool) (x109 : Str) : Option (Stp (Int × Int × Bool × Str) (Out (Bool × Str) (Bool × Str))) :=
 cnd (decide (x107 < ((at' v 0).fN))) (cnd (decide (((at' v 0).fKind) = 6)) (chk (inR x106 (v.length : Int)) <| chk (inK .i64 (x106 + 1)) <| chk (inC (x106 + 1) (v.length : Int)) <| obn (vLook F (List.drop (Int.toNat (x106 + 1)) v)) fun r185 => chk (inK .i64 ((x106 + 1) + r185.1)) <| chk (inC (x106 + 1) ((x106 + 1) + r185.1)) <| chk (inC ((x106 + 1) + r185.1) (v.length : Int)) <| obn (rec_vWriteF ((at' v x106).fStr) (List.take (Int.toNat ((x106 + 1) + r185.1) - Int.toNat (x106 + 1)) (List.drop (Int.toNat (x106 + 1)) v)) x108 x109 c) fun r195 => cnd (!r195.1) (some (.out (.ret (r195.2.1, r195.2.2)))) (chk (inK .i64 (x107 + 1)) <| some (.next ((x106 + 1) + r185.1, x107 + 1, r195.2.1, r195.2.2)))) (chk (inC x106 (v.length : Int)) <| obn (vLook F (List.drop (Int.toNat x106) v)) fun r209 => chk (inK .i64 (x106 + r209.1)) <| chk (inC x106 (x106 + r209.1)) <| chk (inC (x106 + r209.1) (v.length : Int)) <| obn (rec_vWriteF ([] : Str) (List.take (Int.toNat (x106 + r209.1) - Int.toNat x106) (List.drop (Int.toNat x106) v)) x108 x109 c) fun r219 => cnd (!r219.1) (some (.out (.ret (r219.2.1, r219.2.2)))) (chk (inK .i64 (x107 + 1)) <| some (.next (x106 + r209.1, x107 + 1, r219.2.1, r219.2.2))))) (some (.out (.go (x108, x109))))

def vWriteP_k1 (x163 : Bool) (x164 : Str) : Option (Bool × Str) :=
 some (x163, x164)

def vWritePm (F : Nat) (rec_vWriteF : Str → (List TApiCell) → Bool → Str → TApiCell → Option (Bool × Bool × Str)) (v : (List TApiCell)) (first : Bool) (l : Str) (c : TApiCell) : Option (Bool × Str) :=
 chk (inR 0 (v.length : Int)) <| obn (lop (fun σ => vWriteP_b1 F v c rec_vWriteF σ.1 σ.2.1 σ.2.2.1 σ.2.2.2) F (1, 0, first, l)) (oute fun ν => vWriteP_k1 ν.1 ν.2)

mutual
def vWrite : Nat → Str → (List TApiCell) → Option (Str)
 | 0, _, _ => none
 | nn + 1, l, v => vWritem nn (vWriteF nn) (vWriteP nn) l v

def vWriteF : Nat → Str → (List TApiCell) → Bool → Str → TApiCell → Option (Bool × Bool × Str)
 | 0, _, _, _, _, _ => none
 | nn + 1, key, x, first, l, c => vWriteFm nn (vWrite nn) key x first l c

def vWriteP : Nat → (List TApiCell) → Bool → Str → TApiCell → Option (Bool × Str)
 | 0, _, _, _, _ => none
 | nn + 1, v, first, l, c => vWritePm nn (vWriteF nn) v first l c

end
def vEncode (F : Nat) (v : (List TApiCell)) : Option (Str × Int) :=
 obn (vCheck F v) fun r1 => cnd (!decide (r1 = 0)) (some (([] : Str), r1)) (obn (vWrite F ([] : Str) v) fun r8 => chk (decide (0 < r8.length)) <| some (r8, 0))

end Go.Proofs.YtkalifgebccpcaaDoor
