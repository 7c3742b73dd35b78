/-
  Texts of the proof, put together: PlC, IdC, ShelfV, QG, QS, QO, RowQ, PQB, WQB, PVa.
-/
import Derived.Test.YtkalifgebccpcaaGreatDoorMB1
import Derived.Lib.AtoiAllCases
import Derived.Lib.ItoaNum
import Derived.Lib.ItoaLen
import Derived.Shelf.Strings.Builder1
import Derived.Shelf.Strings.Count
import Derived.Shelf.Strings.Search1
import Derived.Shelf.Strings.Search2
import Derived.Shelf.Strings.Search3
import Derived.Shelf.Small.Strs
import Derived.Shelf.LaysM
import Derived.Shelf.LaysC
import Derived.Test.YtkalifgebccpcaaGreatDoorProg
import Derived.Laws.BytesString
import Derived.Lib.Builder
import Derived.Lib.UnsafeStr
import Derived.Lib.AppendStr
import Derived.Laws.Externs
import Derived.Deep.Slices
import Derived.ChangeArms
import Derived.DataReads
import Derived.Laws.Tables
import Derived.Lib.Bytealg
import Derived.Lib.SmallJoins
/-
  Decimal forms; references; children; patterns: plain functions on lists of bytes. No program in sight.
-/
namespace Go.Proofs.YtkalifgebccpcaaGreatDoor
open Go
def sgnS (p : List UInt8) : Bool := decide ((0 : Int) < p.length) && decide (bat p 0 = 45)
def digs (p : List UInt8) : List UInt8 := if sgnS p = true then p.drop 1 else p
theorem digs_len (p : List UInt8) : (digs p).length ≤ p.length := by unfold digs; split <;> simp
def digCh (_ : Nat) (u : UInt8) : Bool := !(decide ((u.toNat : Int) < 48) || decide (57 < (u.toNat : Int)))
def decS (p : List UInt8) : Bool := !(decide (digs p = []) || (decide (bat (digs p) 0 = 48) && !decide (p = [48]))) && allFrom digCh 0 (digs p)
theorem len_pos {p : List UInt8} (h : ¬ p = []) : (0 : Int) < p.length := by
  cases p with
  | nil => exact absurd rfl h
  | cons a r => simp
theorem get_of_lt {p : List UInt8} {k : Nat} (h : (k : Int) < p.length) : ∃ u, p[k]? = some u := ⟨p[k]'(by omega), List.getElem?_eq_getElem (by omega)⟩
theorem dig_next {p : List UInt8} {k : Nat} (hi : k ≤ p.length ∧ allFrom digCh 0 p = allFrom digCh k (p.drop k)) (h : (k : Int) < p.length) (ht : (decide (bat p k < 48) || decide (57 < bat p k)) = false) :
    (k + 1 ≤ p.length ∧ allFrom digCh 0 p = allFrom digCh (k + 1) (p.drop (k + 1))) ∧ p.length - (k + 1) < p.length - k := by
  obtain ⟨u, hu⟩ := get_of_lt h
  rw [bat_of hu] at ht
  exact rng_next hi hu (by simp only [digCh, ht]; rfl)
theorem dig_no {p : List UInt8} {k : Nat} (hi : k ≤ p.length ∧ allFrom digCh 0 p = allFrom digCh k (p.drop k)) (h : (k : Int) < p.length) (ht : (decide (bat p k < 48) || decide (57 < bat p k)) = true) : allFrom digCh 0 p = false := by
  obtain ⟨u, hu⟩ := get_of_lt h
  rw [bat_of hu] at ht
  exact rng_no hi hu (by simp only [digCh, ht]; rfl)
theorem dig_yes {p : List UInt8} {k : Nat} (hi : k ≤ p.length ∧ allFrom digCh 0 p = allFrom digCh k (p.drop k)) (h : ¬ (k : Int) < p.length) : allFrom digCh 0 p = true := rng_yes hi (by omega)

/-! ### The last place of a byte -/
/-! ### num.Parse -/
def parseE (p : List UInt8) : Int := if decS p = true then (match Lib.atoiAll p with | .ok v => if validS v = true then 0 else 2 | _ => 2) else 1
def parseV (p : List UInt8) : Int := if decS p = true then (match Lib.atoiAll p with | .ok v => if validS v = true then v else 0 | _ => 0) else 0
theorem digits_end : ∀ (l : List UInt8) (i acc : Nat), allFrom digCh i l = true → (∃ u, Lib.parseUint10 acc l = .ok u) ∨ Lib.parseUint10 acc l = .range
  | [], _, acc, _ => .inl ⟨acc, rfl⟩
  | c :: r, i, acc, h => by
    simp only [allFrom, Bool.and_eq_true] at h
    have hc : 48 ≤ c.toNat ∧ c.toNat ≤ 57 := by have := h.1; simp [digCh] at this; omega
    unfold Lib.parseUint10
    rw [if_pos hc]
    split
    · exact .inr rfl
    · split
      · exact .inr rfl
      · exact digits_end r _ _ h.2
theorem mag_end {l : List UInt8} (hne : l ≠ []) (h : allFrom digCh 0 l = true) : (∃ u, Lib.parseMag l = .ok u) ∨ Lib.parseMag l = .range := by
  unfold Lib.parseMag
  rw [if_neg hne]
  exact digits_end l 0 0 h
theorem signless_end {e : Lib.NumEnd Nat} (h : (∃ u, e = .ok u) ∨ e = .range) : (∃ v, Lib.signless e = .ok v) ∨ Lib.signless e = .range := by
  rcases h with ⟨u, rfl⟩ | rfl
  · unfold Lib.signless
    by_cases h : 9223372036854775808 ≤ u
    · exact .inr (by simp [h])
    · exact .inl ⟨_, by simp [h]; rfl⟩
  · exact .inr rfl
theorem signed_end {e : Lib.NumEnd Nat} (h : (∃ u, e = .ok u) ∨ e = .range) : (∃ v, Lib.signed e = .ok v) ∨ Lib.signed e = .range := by
  rcases h with ⟨u, rfl⟩ | rfl
  · unfold Lib.signed
    by_cases h : 9223372036854775808 < u
    · exact .inr (by simp [h])
    · exact .inl ⟨_, by simp [h]; rfl⟩
  · exact .inr rfl
theorem atoi_dec {p : List UInt8} (h : decS p = true) : (∃ v, Lib.atoiAll p = .ok v ∧ -9223372036854775808 ≤ v ∧ v ≤ 9223372036854775807) ∨ Lib.atoiAll p = .range := by
  have key : (∃ v, Lib.atoiAll p = .ok v) ∨ Lib.atoiAll p = .range := by
    simp only [decS, Bool.and_eq_true, Bool.not_eq_true', Bool.or_eq_false_iff, decide_eq_false_iff_not] at h
    obtain ⟨⟨hne, _⟩, hall⟩ := h
    cases p with
    | nil => simp [digs, sgnS] at hne
    | cons c r =>
      by_cases hc : c = 45
      · subst hc
        have hd : digs (45 :: r) = r := by simp [digs, sgnS, bat]
        rw [hd] at hne hall
        rw [Lib.atoiAll_minus]
        exact signed_end (mag_end hne hall)
      · have hb : ¬ bat (c :: r) 0 = 45 := by
          simp only [bat, Int.toNat_zero, List.getElem?_cons_zero, Option.getD_some]
          intro e; exact hc (UInt8.toNat_inj.1 (by simpa using (by omega : c.toNat = 45)))
        have hd : digs (c :: r) = c :: r := by simp [digs, sgnS, hb]
        rw [hd] at hne hall
        have hc48 : 48 ≤ c.toNat := by
          simp only [allFrom, Bool.and_eq_true] at hall
          have := hall.1; simp [digCh] at this; omega
        rw [Lib.atoiAll_plain c r (by omega) (by omega)]
        exact signless_end (mag_end hne hall)
  rcases key with ⟨v, hv⟩ | h
  · exact .inl ⟨v, hv, Lib.atoiAll_bounds hv⟩
  · exact .inr h
/-! ### ident -/
end Go.Proofs.YtkalifgebccpcaaGreatDoor

/-
  Walks, printed by a small program of ours (gsym.py).
-/
namespace Go.Proofs.YtkalifgebccpcaaGreatDoor
open Go Go.RowKit
set_option linter.unusedVariables false
set_option linter.unusedSimpArgs false
set_option maxRecDepth 100000
theorem decimal_c (p : List UInt8) (hp : p.length ≤ 281474976710656) (w : World) : Calls Tryz.prog 111 [.string (B (p))].toArray w (RetV w (.bool (decS p))) := by
  refine enter0 (n := 43) Tryz.func111 rfl Tryz.ntmps111 rfl ?_
  refine wc_seq ?_
  refine wc_region ?_
  refine wl_v (o_assign rfl) rfl ?_
  refine wl_nil ?_
  refine wk_then (wc_of_wk ?_)
  refine wc_seq ?_
  refine wc_region ?_
  refine wl_v (o_move rfl) rfl ?_
  refine wl_v (o_assign rfl) rfl ?_
  refine wl_nil ?_
  refine wk_then (wc_of_wk ?_)
  refine wc_seq_mid [(0, .string (B (p))), (2, .bool (false)), (3, .string (B ((if ((decide ((0) < ((p.length : Int)))) && (decide ((bat p 0) = (45)))) = true then List.drop (Int.toNat (1)) p else p))))] [] (φ := True) ?_ (fun hm21 => ?_)
  · refine wc_seq_mid [(0, .string (B (p))), (2, .bool (false)), (3, .string (B (p))), (13, .bool (((decide ((0) < ((p.length : Int)))) && (decide ((bat p 0) = (45))))))] [] (φ := True) ?_ (fun hm19 => ?_)
    · refine wc_region ?_
      refine wl_v (o_move rfl) rfl ?_
      refine wl_v (o_len_s Tryz.underlying9 rfl) rfl ?_
      refine wl_v (o_gt rfl rfl) rfl ?_
      refine wl_v (o_move rfl) rfl ?_
      refine bsplit (decide ((0) < ((p.length : Int)))) (fun h19 => ?_) (fun h19 => ?_)
      · have g19 := h19; try simp only [decide_eq_true_eq, decide_eq_false_iff_not] at g19
        have f19 := h19; try simp only [decide_eq_true_eq, decide_eq_false_iff_not, Bool.and_eq_true, Bool.or_eq_true, Bool.not_eq_true', Bool.not_eq_false', Bool.and_eq_false_iff, Bool.or_eq_false_iff, not_or, Int.not_lt, Int.not_le] at f19
        refine wl_on rfl rfl h19 ?_
        refine wl_v (o_move rfl) rfl ?_
        refine wl_on rfl rfl h19 ?_
        refine wl_v (o_index_b Tryz.underlying9 rfl rfl (by first | omega | exact len_pos (by assumption)) (by first | omega | exact len_pos (by assumption))) rfl ?_
        refine wl_on rfl rfl h19 ?_
        refine wl_v (o_eq rfl rfl) rfl ?_
        refine wl_v (o_pick_t rfl h19 rfl) rfl ?_
        refine wl_nil ?_
        exact wk_then (wk_mid trivial ⟨rfl, rfl, rfl, fb (by first | (simp only [h19, Bool.true_and, Bool.false_and, Bool.true_or, Bool.false_or, Bool.and_true, Bool.and_false, Bool.or_true, Bool.or_false, Bool.not_true, Bool.not_false, cond_true, cond_false, if_true, if_false, reduceIte, Bool.false_eq_true]; done) | (simp only [Bool.true_and, Bool.false_and, Bool.true_or, Bool.false_or, Bool.and_true, Bool.and_false, Bool.or_true, Bool.or_false, Bool.not_true, Bool.not_false, cond_true, cond_false, if_true, if_false, reduceIte, Bool.false_eq_true]; done) | simp [h19]), trivial⟩ .slnil)
      · have g19 := h19; try simp only [decide_eq_true_eq, decide_eq_false_iff_not] at g19
        have f19 := h19; try simp only [decide_eq_true_eq, decide_eq_false_iff_not, Bool.and_eq_true, Bool.or_eq_true, Bool.not_eq_true', Bool.not_eq_false', Bool.and_eq_false_iff, Bool.or_eq_false_iff, not_or, Int.not_lt, Int.not_le] at f19
        refine wl_off rfl rfl h19 rfl ?_
        refine wl_off rfl rfl h19 rfl ?_
        refine wl_off rfl rfl h19 rfl ?_
        refine wl_v (o_pick_f rfl h19 rfl) rfl ?_
        refine wl_nil ?_
        exact wk_then (wk_mid trivial ⟨rfl, rfl, rfl, fb (by first | (simp only [h19, Bool.true_and, Bool.false_and, Bool.true_or, Bool.false_or, Bool.and_true, Bool.and_false, Bool.or_true, Bool.or_false, Bool.not_true, Bool.not_false, cond_true, cond_false, if_true, if_false, reduceIte, Bool.false_eq_true]; done) | (simp only [Bool.true_and, Bool.false_and, Bool.true_or, Bool.false_or, Bool.and_true, Bool.and_false, Bool.or_true, Bool.or_false, Bool.not_true, Bool.not_false, cond_true, cond_false, if_true, if_false, reduceIte, Bool.false_eq_true]; done) | simp [h19]), trivial⟩ .slnil)
    refine wc_cond (b := ((decide ((0) < ((p.length : Int)))) && (decide ((bat p 0) = (45))))) rfl (fun h21 => ?_) (fun h21 => ?_)
    · have g21 := h21; try simp only [decide_eq_true_eq, decide_eq_false_iff_not] at g21
      have f21 := h21; try simp only [decide_eq_true_eq, decide_eq_false_iff_not, Bool.and_eq_true, Bool.or_eq_true, Bool.not_eq_true', Bool.not_eq_false', Bool.and_eq_false_iff, Bool.or_eq_false_iff, not_or, Int.not_lt, Int.not_le] at f21
      refine wc_region ?_
      refine wl_v (o_move rfl) rfl ?_
      refine wl_v (o_slice_lo Tryz.underlying9 rfl rfl (by first | omega | (simp; omega)) (by first | omega | (simp; omega))) rfl ?_
      refine wl_v (o_assign rfl) rfl ?_
      refine wl_nil ?_
      exact wk_then (wk_mid trivial ⟨rfl, rfl, fs (by first | (simp only [h21, Bool.true_and, Bool.false_and, Bool.true_or, Bool.false_or, Bool.and_true, Bool.and_false, Bool.or_true, Bool.or_false, Bool.not_true, Bool.not_false, cond_true, cond_false, if_true, if_false, reduceIte, Bool.false_eq_true]; done) | (simp only [Bool.true_and, Bool.false_and, Bool.true_or, Bool.false_or, Bool.and_true, Bool.and_false, Bool.or_true, Bool.or_false, Bool.not_true, Bool.not_false, cond_true, cond_false, if_true, if_false, reduceIte, Bool.false_eq_true]; done) | simp [h21]), trivial⟩ .slnil)
    · have g21 := h21; try simp only [decide_eq_true_eq, decide_eq_false_iff_not] at g21
      have f21 := h21; try simp only [decide_eq_true_eq, decide_eq_false_iff_not, Bool.and_eq_true, Bool.or_eq_true, Bool.not_eq_true', Bool.not_eq_false', Bool.and_eq_false_iff, Bool.or_eq_false_iff, not_or, Int.not_lt, Int.not_le] at f21
      refine wc_skip ?_
      exact wk_then (wk_mid trivial ⟨rfl, rfl, fs (by first | (simp only [h21, Bool.true_and, Bool.false_and, Bool.true_or, Bool.false_or, Bool.and_true, Bool.and_false, Bool.or_true, Bool.or_false, Bool.not_true, Bool.not_false, cond_true, cond_false, if_true, if_false, reduceIte, Bool.false_eq_true]; done) | (simp only [Bool.true_and, Bool.false_and, Bool.true_or, Bool.false_or, Bool.and_true, Bool.and_false, Bool.or_true, Bool.or_false, Bool.not_true, Bool.not_false, cond_true, cond_false, if_true, if_false, reduceIte, Bool.false_eq_true]; done) | simp [h21]), trivial⟩ .slnil)
  have hdg : digs p = (if ((decide ((0) < ((p.length : Int)))) && (decide ((bat p 0) = (45)))) = true then List.drop (Int.toNat (1)) p else p) := rfl
  have hdl := digs_len p
  rw [hdg] at hdl
  generalize (if ((decide ((0) < ((p.length : Int)))) && (decide ((bat p 0) = (45)))) = true then List.drop (Int.toNat (1)) p else p) = dg at hdg hdl ⊢
  refine wc_seq ?_
  refine wc_seq_mid [(2, .bool (false)), (3, .string (B (dg))), (26, .bool (((decide ((dg) = (([] : List UInt8)))) || ((decide ((bat dg 0) = (48))) && (!(decide ((p) = (([48] : List UInt8)))))))))] [] (φ := True) ?_ (fun hm24 => ?_)
  · refine wc_region ?_
    refine wl_v (o_move rfl) rfl ?_
    refine wl_v (o_seq rfl rfl) rfl ?_
    refine wl_v (o_move rfl) rfl ?_
    refine bsplit (decide ((dg) = (([] : List UInt8)))) (fun h23 => ?_) (fun h23 => ?_)
    · have g23 := h23; try simp only [decide_eq_true_eq, decide_eq_false_iff_not] at g23
      have f23 := h23; try simp only [decide_eq_true_eq, decide_eq_false_iff_not, Bool.and_eq_true, Bool.or_eq_true, Bool.not_eq_true', Bool.not_eq_false', Bool.and_eq_false_iff, Bool.or_eq_false_iff, not_or, Int.not_lt, Int.not_le] at f23
      refine wl_off rfl rfl h23 rfl ?_
      refine wl_off rfl rfl h23 rfl ?_
      refine wl_off rfl rfl h23 rfl ?_
      refine wl_off rfl rfl h23 rfl ?_
      refine wl_off_u rfl rfl rfl ?_
      refine wl_off_u rfl rfl rfl ?_
      refine wl_off rfl rfl h23 rfl ?_
      refine wl_v (o_pick_t rfl h23 rfl) rfl ?_
      refine wl_nil ?_
      exact wk_then (wk_mid trivial ⟨rfl, rfl, fb (by first | (simp only [h23, Bool.true_and, Bool.false_and, Bool.true_or, Bool.false_or, Bool.and_true, Bool.and_false, Bool.or_true, Bool.or_false, Bool.not_true, Bool.not_false, cond_true, cond_false, if_true, if_false, reduceIte, Bool.false_eq_true]; done) | (simp only [Bool.true_and, Bool.false_and, Bool.true_or, Bool.false_or, Bool.and_true, Bool.and_false, Bool.or_true, Bool.or_false, Bool.not_true, Bool.not_false, cond_true, cond_false, if_true, if_false, reduceIte, Bool.false_eq_true]; done) | simp [h23]), trivial⟩ .slnil)
    · have g23 := h23; try simp only [decide_eq_true_eq, decide_eq_false_iff_not] at g23
      have f23 := h23; try simp only [decide_eq_true_eq, decide_eq_false_iff_not, Bool.and_eq_true, Bool.or_eq_true, Bool.not_eq_true', Bool.not_eq_false', Bool.and_eq_false_iff, Bool.or_eq_false_iff, not_or, Int.not_lt, Int.not_le] at f23
      refine wl_on rfl rfl h23 ?_
      refine wl_v (o_move rfl) rfl ?_
      refine wl_on rfl rfl h23 ?_
      refine wl_v (o_index_b Tryz.underlying9 rfl rfl (by first | omega | exact len_pos (by assumption)) (by first | omega | exact len_pos (by assumption))) rfl ?_
      refine wl_on rfl rfl h23 ?_
      refine wl_v (o_eq rfl rfl) rfl ?_
      refine wl_on rfl rfl h23 ?_
      refine wl_v (o_move rfl) rfl ?_
      refine bsplit (decide ((bat dg 0) = (48))) (fun h24 => ?_) (fun h24 => ?_)
      · have g24 := h24; try simp only [decide_eq_true_eq, decide_eq_false_iff_not] at g24
        have f24 := h24; try simp only [decide_eq_true_eq, decide_eq_false_iff_not, Bool.and_eq_true, Bool.or_eq_true, Bool.not_eq_true', Bool.not_eq_false', Bool.and_eq_false_iff, Bool.or_eq_false_iff, not_or, Int.not_lt, Int.not_le] at f24
        refine wl_on rfl rfl h24 ?_
        refine wl_v (o_move rfl) rfl ?_
        refine wl_on rfl rfl h24 ?_
        refine wl_v (o_sne rfl rfl) rfl ?_
        refine wl_on rfl rfl h23 ?_
        refine wl_v (o_pick_t rfl h24 rfl) rfl ?_
        refine wl_v (o_pick_f rfl h23 rfl) rfl ?_
        refine wl_nil ?_
        exact wk_then (wk_mid trivial ⟨rfl, rfl, fb (by first | (simp only [h23, h24, Bool.true_and, Bool.false_and, Bool.true_or, Bool.false_or, Bool.and_true, Bool.and_false, Bool.or_true, Bool.or_false, Bool.not_true, Bool.not_false, cond_true, cond_false, if_true, if_false, reduceIte, Bool.false_eq_true]; done) | (simp only [Bool.true_and, Bool.false_and, Bool.true_or, Bool.false_or, Bool.and_true, Bool.and_false, Bool.or_true, Bool.or_false, Bool.not_true, Bool.not_false, cond_true, cond_false, if_true, if_false, reduceIte, Bool.false_eq_true]; done) | simp [h23, h24]), trivial⟩ .slnil)
      · have g24 := h24; try simp only [decide_eq_true_eq, decide_eq_false_iff_not] at g24
        have f24 := h24; try simp only [decide_eq_true_eq, decide_eq_false_iff_not, Bool.and_eq_true, Bool.or_eq_true, Bool.not_eq_true', Bool.not_eq_false', Bool.and_eq_false_iff, Bool.or_eq_false_iff, not_or, Int.not_lt, Int.not_le] at f24
        refine wl_off rfl rfl h24 rfl ?_
        refine wl_off rfl rfl h24 rfl ?_
        refine wl_on rfl rfl h23 ?_
        refine wl_v (o_pick_f rfl h24 rfl) rfl ?_
        refine wl_v (o_pick_f rfl h23 rfl) rfl ?_
        refine wl_nil ?_
        exact wk_then (wk_mid trivial ⟨rfl, rfl, fb (by first | (simp only [h23, h24, Bool.true_and, Bool.false_and, Bool.true_or, Bool.false_or, Bool.and_true, Bool.and_false, Bool.or_true, Bool.or_false, Bool.not_true, Bool.not_false, cond_true, cond_false, if_true, if_false, reduceIte, Bool.false_eq_true]; done) | (simp only [Bool.true_and, Bool.false_and, Bool.true_or, Bool.false_or, Bool.and_true, Bool.and_false, Bool.or_true, Bool.or_false, Bool.not_true, Bool.not_false, cond_true, cond_false, if_true, if_false, reduceIte, Bool.false_eq_true]; done) | simp [h23, h24]), trivial⟩ .slnil)
  refine wc_cond (b := ((decide ((dg) = (([] : List UInt8)))) || ((decide ((bat dg 0) = (48))) && (!(decide ((p) = (([48] : List UInt8)))))))) rfl (fun h26 => ?_) (fun h26 => ?_)
  · have g26 := h26; try simp only [decide_eq_true_eq, decide_eq_false_iff_not] at g26
    have f26 := h26; try simp only [decide_eq_true_eq, decide_eq_false_iff_not, Bool.and_eq_true, Bool.or_eq_true, Bool.not_eq_true', Bool.not_eq_false', Bool.and_eq_false_iff, Bool.or_eq_false_iff, not_or, Int.not_lt, Int.not_le] at f26
    refine wc_seq ?_
    refine wc_region ?_
    refine wl_v (o_assign rfl) rfl ?_
    refine wl_nil ?_
    refine wk_then (wc_of_wk ?_)
    refine wc_ret ?_
    refine wk_then_ret ?_
    refine wk_ret (r_1 rfl rfl) ?_
    exact retv (by simp only [decS, hdg, h26]; rfl)
  · have g26 := h26; try simp only [decide_eq_true_eq, decide_eq_false_iff_not] at g26
    have f26 := h26; try simp only [decide_eq_true_eq, decide_eq_false_iff_not, Bool.and_eq_true, Bool.or_eq_true, Bool.not_eq_true', Bool.not_eq_false', Bool.and_eq_false_iff, Bool.or_eq_false_iff, not_or, Int.not_lt, Int.not_le] at f26
    refine wc_skip ?_
    refine wk_then (wc_of_wk ?_)
    refine wc_seq ?_
    refine wc_seq ?_
    refine wc_region ?_
    refine wl_v (o_move rfl) rfl ?_
    refine wl_v (o_len_s Tryz.underlying9 rfl) rfl ?_
    refine wl_v (o_move rfl) rfl ?_
    refine wl_nil ?_
    refine wk_then (wc_of_wk ?_)
    refine wc_block ?_
    refine wc_loop (S := Nat) (fun (k : Nat) => k ≤ dg.length ∧ allFrom digCh 0 dg = allFrom digCh k (dg.drop k)) (fun (k : Nat) => [(29, .int .i64 ((k : Int))), (3, .string (B (dg))), (28, .int .i64 ((dg.length : Int)))]) (fun (k : Nat) => []) (fun (k : Nat) => dg.length - k) (0) ?_ ⟨fi (by first | rfl | (simp; done) | omega | (simp; omega)), rfl, rfl, trivial⟩ .slnil ?_
    · exact ⟨Nat.zero_le _, by simp⟩
    rintro k hi0
    refine wc_seq ?_
    refine wc_region ?_
    refine wl_v (o_lt rfl rfl) rfl ?_
    refine wl_nil ?_
    refine wk_then (wc_of_wk ?_)
    refine wc_seq ?_
    refine wc_cond (b := decide (((k : Int)) < ((dg.length : Int)))) rfl (fun h27 => ?_) (fun h27 => ?_)
    · have g27 := h27; try simp only [decide_eq_true_eq, decide_eq_false_iff_not] at g27
      have f27 := h27; try simp only [decide_eq_true_eq, decide_eq_false_iff_not, Bool.and_eq_true, Bool.or_eq_true, Bool.not_eq_true', Bool.not_eq_false', Bool.and_eq_false_iff, Bool.or_eq_false_iff, not_or, Int.not_lt, Int.not_le] at f27
      refine wc_skip ?_
      refine wk_then (wc_of_wk ?_)
      refine wc_seq ?_
      refine wc_block ?_
      refine wc_seq ?_
      refine wc_region ?_
      refine wl_v (o_move rfl) rfl ?_
      refine wl_v (o_assign rfl) rfl ?_
      refine wl_nil ?_
      refine wk_then (wc_of_wk ?_)
      refine wc_seq_mid [(3, .string (B (dg))), (4, .int .i64 ((k : Int))), (28, .int .i64 ((dg.length : Int))), (29, .int .i64 ((k : Int))), (30, .bool (decide (((k : Int)) < ((dg.length : Int))))), (31, .int .i64 ((k : Int))), (32, .string (B (dg))), (33, .int .i64 ((k : Int))), (34, .int .u8 (bat dg (k : Int))), (35, .bool (decide ((bat dg (k : Int)) < (48)))), (36, .bool (decide ((bat dg (k : Int)) < (48)))), (41, .bool (((decide ((bat dg (k : Int)) < (48))) || (decide ((57) < (bat dg (k : Int)))))))] [] (φ := True) ?_ (fun hm28 => ?_)
      · refine wc_region ?_
        refine wl_v (o_move rfl) rfl ?_
        refine wl_v (o_move rfl) rfl ?_
        refine wl_v (o_index_b Tryz.underlying9 rfl rfl (by first | omega | exact len_pos (by assumption)) (by first | omega | exact len_pos (by assumption))) rfl ?_
        refine wl_v (o_lt rfl rfl) rfl ?_
        refine wl_v (o_move rfl) rfl ?_
        refine bsplit (decide ((bat dg (k : Int)) < (48))) (fun h28 => ?_) (fun h28 => ?_)
        · have g28 := h28; try simp only [decide_eq_true_eq, decide_eq_false_iff_not] at g28
          have f28 := h28; try simp only [decide_eq_true_eq, decide_eq_false_iff_not, Bool.and_eq_true, Bool.or_eq_true, Bool.not_eq_true', Bool.not_eq_false', Bool.and_eq_false_iff, Bool.or_eq_false_iff, not_or, Int.not_lt, Int.not_le] at f28
          refine wl_off rfl rfl h28 rfl ?_
          refine wl_off rfl rfl h28 rfl ?_
          refine wl_off rfl rfl h28 rfl ?_
          refine wl_off rfl rfl h28 rfl ?_
          refine wl_v (o_pick_t rfl h28 rfl) rfl ?_
          refine wl_nil ?_
          exact wk_then (wk_mid trivial ⟨rfl, rfl, rfl, rfl, rfl, rfl, rfl, rfl, rfl, rfl, rfl, fb (by first | (simp only [h26, h27, h28, Bool.true_and, Bool.false_and, Bool.true_or, Bool.false_or, Bool.and_true, Bool.and_false, Bool.or_true, Bool.or_false, Bool.not_true, Bool.not_false, cond_true, cond_false, if_true, if_false, reduceIte, Bool.false_eq_true]; done) | (simp only [Bool.true_and, Bool.false_and, Bool.true_or, Bool.false_or, Bool.and_true, Bool.and_false, Bool.or_true, Bool.or_false, Bool.not_true, Bool.not_false, cond_true, cond_false, if_true, if_false, reduceIte, Bool.false_eq_true]; done) | simp [h26, h27, h28]), trivial⟩ .slnil)
        · have g28 := h28; try simp only [decide_eq_true_eq, decide_eq_false_iff_not] at g28
          have f28 := h28; try simp only [decide_eq_true_eq, decide_eq_false_iff_not, Bool.and_eq_true, Bool.or_eq_true, Bool.not_eq_true', Bool.not_eq_false', Bool.and_eq_false_iff, Bool.or_eq_false_iff, not_or, Int.not_lt, Int.not_le] at f28
          refine wl_on rfl rfl h28 ?_
          refine wl_v (o_move rfl) rfl ?_
          refine wl_on rfl rfl h28 ?_
          refine wl_v (o_move rfl) rfl ?_
          refine wl_on rfl rfl h28 ?_
          refine wl_v (o_index_b Tryz.underlying9 rfl rfl (by first | omega | exact len_pos (by assumption)) (by first | omega | exact len_pos (by assumption))) rfl ?_
          refine wl_on rfl rfl h28 ?_
          refine wl_v (o_gt rfl rfl) rfl ?_
          refine wl_v (o_pick_f rfl h28 rfl) rfl ?_
          refine wl_nil ?_
          exact wk_then (wk_mid trivial ⟨rfl, rfl, rfl, rfl, rfl, rfl, rfl, rfl, rfl, rfl, rfl, fb (by first | (simp only [h26, h27, h28, Bool.true_and, Bool.false_and, Bool.true_or, Bool.false_or, Bool.and_true, Bool.and_false, Bool.or_true, Bool.or_false, Bool.not_true, Bool.not_false, cond_true, cond_false, if_true, if_false, reduceIte, Bool.false_eq_true]; done) | (simp only [Bool.true_and, Bool.false_and, Bool.true_or, Bool.false_or, Bool.and_true, Bool.and_false, Bool.or_true, Bool.or_false, Bool.not_true, Bool.not_false, cond_true, cond_false, if_true, if_false, reduceIte, Bool.false_eq_true]; done) | simp [h26, h27, h28]), trivial⟩ .slnil)
      refine wc_cond (b := ((decide ((bat dg (k : Int)) < (48))) || (decide ((57) < (bat dg (k : Int)))))) rfl (fun h30 => ?_) (fun h30 => ?_)
      · have g30 := h30; try simp only [decide_eq_true_eq, decide_eq_false_iff_not] at g30
        have f30 := h30; try simp only [decide_eq_true_eq, decide_eq_false_iff_not, Bool.and_eq_true, Bool.or_eq_true, Bool.not_eq_true', Bool.not_eq_false', Bool.and_eq_false_iff, Bool.or_eq_false_iff, not_or, Int.not_lt, Int.not_le] at f30
        refine wc_seq ?_
        refine wc_region ?_
        refine wl_v (o_assign rfl) rfl ?_
        refine wl_nil ?_
        refine wk_then (wc_of_wk ?_)
        refine wc_ret ?_
        refine wk_in_ret ?_
        refine wk_then_ret ?_
        refine wk_then_ret ?_
        refine wk_in_ret ?_
        refine wk_then_ret ?_
        refine wk_ret (r_1 rfl rfl) ?_
        exact retv (by simp [decS, hdg, dig_no hi0 g27 h30])
      · have g30 := h30; try simp only [decide_eq_true_eq, decide_eq_false_iff_not] at g30
        have f30 := h30; try simp only [decide_eq_true_eq, decide_eq_false_iff_not, Bool.and_eq_true, Bool.or_eq_true, Bool.not_eq_true', Bool.not_eq_false', Bool.and_eq_false_iff, Bool.or_eq_false_iff, not_or, Int.not_lt, Int.not_le] at f30
        refine wc_skip ?_
        refine wk_in_norm ?_
        refine wk_then (wc_of_wk ?_)
        refine wc_region ?_
        refine wl_v (o_add rfl rfl (IntWalk.i64_in _ (by omega))) rfl ?_
        refine wl_v (o_move rfl) rfl ?_
        refine wl_nil ?_
        refine wk_then ?_
        refine wk_some (k + 1) ?_ ⟨fi (by first | rfl | (simp; done) | omega | (simp; omega)), rfl, rfl, trivial⟩ .slnil
        exact dig_next hi0 g27 h30
    · have g27 := h27; try simp only [decide_eq_true_eq, decide_eq_false_iff_not] at g27
      have f27 := h27; try simp only [decide_eq_true_eq, decide_eq_false_iff_not, Bool.and_eq_true, Bool.or_eq_true, Bool.not_eq_true', Bool.not_eq_false', Bool.and_eq_false_iff, Bool.or_eq_false_iff, not_or, Int.not_lt, Int.not_le] at f27
      refine wc_exit ?_
      refine wk_then_exit ?_
      refine wk_then_exit ?_
      refine wk_in_hit ?_
      refine wk_then (wc_of_wk ?_)
      refine wc_seq ?_
      refine wc_region ?_
      refine wl_v (o_assign rfl) rfl ?_
      refine wl_nil ?_
      refine wk_then (wc_of_wk ?_)
      refine wc_ret ?_
      refine wk_ret (r_1 rfl rfl) ?_
      exact retv (by simp only [decS, hdg, h26, dig_yes hi0 g27]; rfl)

theorem format_c (m : Int) (h0 : -9223372036854775808 ≤ m) (h1 : m ≤ 9223372036854775807) (w : World) (hE : Env w) : Calls Tryz.prog 85 [.int .i64 (m)].toArray w (RetV w (.string (B (Lib.itoa m)))) := by
  refine enter0 (n := 5) Tryz.func85 rfl Tryz.ntmps85 rfl ?_
  refine wc_seq ?_
  refine wc_region ?_
  refine wl_v (o_assign rfl) rfl ?_
  refine wl_nil ?_
  refine wk_then (wc_of_wk ?_)
  refine wc_seq ?_
  refine wc_region ?_
  refine wl_v (o_move rfl) rfl ?_
  refine w_call Tryz.call96 rfl (fun w hw => itoa_c m (by omega) (by omega) w (hE.st0 hw)) rfl ?_
  refine wl_v (o_assign rfl) rfl ?_
  refine wl_nil ?_
  refine wk_then (wc_of_wk ?_)
  refine wc_ret ?_
  refine wk_ret (r_1 rfl rfl) ?_
  exact retv (by first | rfl | simp [])

theorem parse_c (p : List UInt8) (hp : p.length ≤ 281474976710656) (w : World) (hE : Env w) : Calls Tryz.prog 104 [.string (B (p))].toArray w (RetV w (.tuple #[.int .i64 (parseV p), .int .i64 (parseE p)])) := by
  refine enter0 (n := 22) Tryz.func104 rfl Tryz.ntmps104 rfl ?_
  refine wc_seq ?_
  refine wc_region ?_
  refine wl_v (o_assign rfl) rfl ?_
  refine wl_v (o_assign rfl) rfl ?_
  refine wl_nil ?_
  refine wk_then (wc_of_wk ?_)
  refine wc_seq ?_
  refine wc_seq ?_
  refine wc_region ?_
  refine wl_v (o_move rfl) rfl ?_
  refine w_call Tryz.call111 rfl (fun w hw => decimal_c p (by first | omega | (simp; done) | (simp; omega) | (simp at *; omega)) w) rfl ?_
  refine wl_v (o_not rfl) rfl ?_
  refine wl_nil ?_
  refine wk_then (wc_of_wk ?_)
  refine wc_cond (b := !(decS p)) rfl (fun h31 => ?_) (fun h31 => ?_)
  · have g31 := h31; try simp only [decide_eq_true_eq, decide_eq_false_iff_not] at g31
    have f31 := h31; try simp only [decide_eq_true_eq, decide_eq_false_iff_not, Bool.and_eq_true, Bool.or_eq_true, Bool.not_eq_true', Bool.not_eq_false', Bool.and_eq_false_iff, Bool.or_eq_false_iff, not_or, Int.not_lt, Int.not_le] at f31
    refine wc_seq ?_
    refine wc_region ?_
    refine wl_v (o_assign rfl) rfl ?_
    refine wl_v (o_assign rfl) rfl ?_
    refine wl_nil ?_
    refine wk_then (wc_of_wk ?_)
    refine wc_ret ?_
    refine wk_then_ret ?_
    refine wk_ret (r_2 rfl rfl rfl) ?_
    exact retv (by simp [parseV, parseE, f31])
  · have g31 := h31; try simp only [decide_eq_true_eq, decide_eq_false_iff_not] at g31
    have f31 := h31; try simp only [decide_eq_true_eq, decide_eq_false_iff_not, Bool.and_eq_true, Bool.or_eq_true, Bool.not_eq_true', Bool.not_eq_false', Bool.and_eq_false_iff, Bool.or_eq_false_iff, not_or, Int.not_lt, Int.not_le] at f31
    refine wc_skip ?_
    refine wk_then (wc_of_wk ?_)
    refine wc_seq ?_
    refine wc_region ?_
    refine wl_v (o_move rfl) rfl ?_
    rcases atoi_dec (p := p) (by assumption) with ⟨av, hav, hal, hah⟩ | hav
    · refine w_call Tryz.call112 rfl (fun w _ => atoi_ok p (by first | omega | (simp; done) | (simp; omega) | (simp at *; omega)) av hav w) rfl ?_
      refine wl_v (o_move rfl) rfl ?_
      refine wl_v (o_extract rfl rfl) rfl ?_
      refine wl_v (o_extract rfl rfl) rfl ?_
      refine wl_v (o_assign rfl) rfl ?_
      refine wl_v (o_assign rfl) rfl ?_
      refine wl_nil ?_
      refine wk_then (wc_of_wk ?_)
      refine wc_seq ?_
      refine wc_seq_mid [(2, .int .i64 (0)), (3, .int .i64 (0)), (4, .int .i64 (av)), (20, .bool (!(validS av)))] [] (φ := True) ?_ (fun hm31 => ?_)
      · refine wc_region ?_
        refine wl_v (o_move rfl) rfl ?_
        refine wl_v (o_if_ne_nil Tryz.underlying93 rfl) rfl ?_
        refine wl_v (o_move rfl) rfl ?_
        refine wl_on rfl rfl rfl ?_
        refine wl_v (o_move rfl) rfl ?_
        refine wl_on rfl rfl rfl ?_
        refine w_call Tryz.call92 rfl (fun w hw => valid_c av w) rfl ?_
        refine wl_on rfl rfl rfl ?_
        refine wl_v (o_not rfl) rfl ?_
        refine wl_v (o_pick_f rfl rfl rfl) rfl ?_
        refine wl_nil ?_
        exact wk_then (wk_mid trivial ⟨rfl, rfl, rfl, rfl, trivial⟩ .slnil)
      refine wc_cond (b := !(validS av)) rfl (fun h33 => ?_) (fun h33 => ?_)
      · have g33 := h33; try simp only [decide_eq_true_eq, decide_eq_false_iff_not] at g33
        have f33 := h33; try simp only [decide_eq_true_eq, decide_eq_false_iff_not, Bool.and_eq_true, Bool.or_eq_true, Bool.not_eq_true', Bool.not_eq_false', Bool.and_eq_false_iff, Bool.or_eq_false_iff, not_or, Int.not_lt, Int.not_le] at f33
        refine wc_seq ?_
        refine wc_region ?_
        refine wl_v (o_assign rfl) rfl ?_
        refine wl_v (o_assign rfl) rfl ?_
        refine wl_nil ?_
        refine wk_then (wc_of_wk ?_)
        refine wc_ret ?_
        refine wk_then_ret ?_
        refine wk_ret (r_2 rfl rfl rfl) ?_
        exact retv (by simp [parseV, parseE, hav, f31, f33])
      · have g33 := h33; try simp only [decide_eq_true_eq, decide_eq_false_iff_not] at g33
        have f33 := h33; try simp only [decide_eq_true_eq, decide_eq_false_iff_not, Bool.and_eq_true, Bool.or_eq_true, Bool.not_eq_true', Bool.not_eq_false', Bool.and_eq_false_iff, Bool.or_eq_false_iff, not_or, Int.not_lt, Int.not_le] at f33
        refine wc_skip ?_
        refine wk_then (wc_of_wk ?_)
        refine wc_seq ?_
        refine wc_region ?_
        refine wl_v (o_move rfl) rfl ?_
        refine wl_v (o_assign rfl) rfl ?_
        refine wl_v (o_assign rfl) rfl ?_
        refine wl_nil ?_
        refine wk_then (wc_of_wk ?_)
        refine wc_ret ?_
        refine wk_ret (r_2 rfl rfl rfl) ?_
        exact retv (by simp [parseV, parseE, hav, f31, f33])
    · refine w_callM Tryz.call112 rfl (fun w hw => atoi_range p (by first | omega | (simp; done) | (simp; omega) | (simp at *; omega)) hav w (hE.st0 hw)) rfl ?_
      rintro _ _ ⟨am, at_, ab, rfl, rfl⟩
      refine wl_v (o_move rfl) rfl ?_
      refine wl_v (o_extract rfl rfl) rfl ?_
      refine wl_v (o_extract rfl rfl) rfl ?_
      refine wl_v (o_assign rfl) rfl ?_
      refine wl_v (o_assign rfl) rfl ?_
      refine wl_nil ?_
      refine wk_then (wc_of_wk ?_)
      refine wc_seq ?_
      refine wc_seq_mid [(2, .int .i64 (0)), (3, .int .i64 (0)), (4, .int .i64 (am)), (20, .bool (true))] [] (φ := True) ?_ (fun hm33 => ?_)
      · refine wc_region ?_
        refine wl_v (o_move rfl) rfl ?_
        refine wl_v (o_if_ne Tryz.underlying93 rfl) rfl ?_
        refine wl_v (o_move rfl) rfl ?_
        refine wl_off rfl rfl rfl rfl ?_
        refine wl_off rfl rfl rfl rfl ?_
        refine wl_off rfl rfl rfl rfl ?_
        refine wl_v (o_pick_t rfl rfl rfl) rfl ?_
        refine wl_nil ?_
        exact wk_then (wk_mid trivial ⟨rfl, rfl, rfl, rfl, trivial⟩ .slnil)
      refine wc_cond_t rfl rfl ?_
      refine wc_seq ?_
      refine wc_region ?_
      refine wl_v (o_assign rfl) rfl ?_
      refine wl_v (o_assign rfl) rfl ?_
      refine wl_nil ?_
      refine wk_then (wc_of_wk ?_)
      refine wc_ret ?_
      refine wk_then_ret ?_
      refine wk_ret (r_2 rfl rfl rfl) ?_
      exact retv (by simp [parseV, parseE, hav, f31])

end Go.Proofs.YtkalifgebccpcaaGreatDoor

/-
  Contracts of the library at this translation, in plain words (lay-plain.mjs), those that are used here.
-/
namespace Go.Proofs
open Go.Shelf
def Tryz.lays169_ren : Go.Shelf.Ren := ⟨fun | 169 => 62 | n => n, fun | 70 => 71 | 9 => 9 | 0 => 0 | 72 => 74 | 37 => 72 | 127 => 99 | 3 => 3 | 5 => 5 | n => n, fun | n => n⟩

theorem Tryz.lays169 : Go.Proofs.Lays.n169 Tryz.prog Tryz.lays169_ren := {
  mixed := by kernel_rfl
  f169 := Tryz.func62.trans (congrArg some (by kernel_rfl))
  t0 := Tryz.underlying0
  a0 := Tryz.isAgg0
  z0 := Tryz.sizeOf0
  v0 := Tryz.zeroValue0
  t3 := Tryz.underlying3
  a3 := Tryz.isAgg3
  z3 := Tryz.sizeOf3
  v3 := Tryz.zeroValue3
  t9 := Tryz.underlying9
  a9 := Tryz.isAgg9
  z9 := Tryz.sizeOf9
  v9 := Tryz.zeroValue9
  t37 := Tryz.underlying72
  a37 := Tryz.isAgg72
  z37 := Tryz.sizeOf72
  v37 := Tryz.zeroValue72
  t70 := Tryz.underlying71
  a70 := Tryz.isAgg71
  z70 := Tryz.sizeOf71
  v70 := Tryz.zeroValue71
  t72 := Tryz.underlying74
  a72 := Tryz.isAgg74
  z72 := Tryz.sizeOf74
  v72 := Tryz.zeroValue74
  t127 := Tryz.underlying99
  a127 := Tryz.isAgg99
  z127 := Tryz.sizeOf99
  v127 := Tryz.zeroValue99 }

theorem Tryz.Builder_Extra_169 : Builder.Extra Tryz.prog Tryz.lays169_ren := {
  sizeBuilder := by kernel_rfl
  liesBuilder := by kernel_rfl
  t5 := Tryz.underlying5
  a5 := Tryz.isAgg5
  z5 := Tryz.sizeOf5
  v5 := Tryz.zeroValue5
  infoByte := by kernel_rfl
  cellsByte := by kernel_rfl
  sizeByte := by kernel_rfl
  neB5 := by decide }

open Go.RowKit in
theorem Tryz.Builder_String_any (B b : Nat) (l : List UInt8) (w : World) (h : Lib.IsBuilder 74 5 B b (Lib.byteCells l) w) (hBw : B ≤ w.heap.size) :
    Calls Tryz.prog 62 #[.pointer (some ⟨b, 0, none⟩)] w fun e w' => e = .returned (.string ⟨l.toArray⟩) ∧ Below B w w' := Any.Builder_String_any Tryz.lays169 Tryz.Builder_Extra_169 B b l w h hBw

def Tryz.lays106_ren : Go.Shelf.Ren := ⟨fun | 106 => 75 | 213 => 98 | 265 => 106 | n => n, fun | 9 => 9 | 3 => 3 | n => n, fun | n => n⟩

theorem Tryz.lays106 : Go.Proofs.Lays.n106 Tryz.prog Tryz.lays106_ren := {
  mixed := by kernel_rfl
  f106 := Tryz.func75.trans (congrArg some (by kernel_rfl))
  f213 := Tryz.func98.trans (congrArg some (by kernel_rfl))
  f265 := Tryz.func106.trans (congrArg some (by kernel_rfl))
  t3 := Tryz.underlying3
  a3 := Tryz.isAgg3
  z3 := Tryz.sizeOf3
  v3 := Tryz.zeroValue3
  t9 := Tryz.underlying9
  a9 := Tryz.isAgg9
  z9 := Tryz.sizeOf9
  v9 := Tryz.zeroValue9 }

open Go.RowKit in
theorem Tryz.strings_Compare (a b : ByteArray) (w : World) :
    Calls Tryz.prog 75 #[.string a, .string b] w fun e w' => e = .returned (.int .i64 (Lib.compareBytes a.data.toList b.data.toList)) ∧ w' = w := Any.strings_Compare Tryz.lays106 a b w

def Tryz.lays138_ren : Go.Shelf.Ren := ⟨fun | 138 => 102 | 195 => 108 | 218 => 109 | 143 => 110 | 219 => 114 | 217 => 121 | 225 => 122 | 224 => 123 | 267 => 124 | 266 => 135 | 314 => 136 | n => n, fun | 9 => 9 | 3 => 3 | 4 => 4 | 5 => 5 | 0 => 0 | 46 => 124 | 146 => 136 | 51 => 133 | n => n, fun | 1 => 0 | n => n⟩

theorem Tryz.lays138 : Go.Proofs.Lays.n138 Tryz.prog Tryz.lays138_ren := {
  mixed := by kernel_rfl
  f138 := Tryz.func102.trans (congrArg some (by kernel_rfl))
  f143 := Tryz.func110.trans (congrArg some (by kernel_rfl))
  f195 := Tryz.func108.trans (congrArg some (by kernel_rfl))
  f217 := Tryz.func121.trans (congrArg some (by kernel_rfl))
  f218 := Tryz.func109.trans (congrArg some (by kernel_rfl))
  f219 := Tryz.func114.trans (congrArg some (by kernel_rfl))
  f224 := Tryz.func123.trans (congrArg some (by kernel_rfl))
  f225 := Tryz.func122.trans (congrArg some (by kernel_rfl))
  f266 := Tryz.func135.trans (congrArg some (by kernel_rfl))
  f267 := Tryz.func124.trans (congrArg some (by kernel_rfl))
  f314 := Tryz.func136.trans (congrArg some (by kernel_rfl))
  t0 := Tryz.underlying0
  a0 := Tryz.isAgg0
  z0 := Tryz.sizeOf0
  v0 := Tryz.zeroValue0
  t3 := Tryz.underlying3
  a3 := Tryz.isAgg3
  z3 := Tryz.sizeOf3
  v3 := Tryz.zeroValue3
  t4 := Tryz.underlying4
  a4 := Tryz.isAgg4
  z4 := Tryz.sizeOf4
  v4 := Tryz.zeroValue4
  t5 := Tryz.underlying5
  a5 := Tryz.isAgg5
  z5 := Tryz.sizeOf5
  v5 := Tryz.zeroValue5
  t9 := Tryz.underlying9
  a9 := Tryz.isAgg9
  z9 := Tryz.sizeOf9
  v9 := Tryz.zeroValue9
  t46 := Tryz.underlying124
  a46 := Tryz.isAgg124
  z46 := Tryz.sizeOf124
  v46 := Tryz.zeroValue124
  t51 := Tryz.underlying133
  a51 := Tryz.isAgg133
  z51 := Tryz.sizeOf133
  v51 := Tryz.zeroValue133
  t146 := Tryz.underlying136
  a146 := Tryz.isAgg136
  z146 := Tryz.sizeOf136
  v146 := Tryz.zeroValue136
  g1 := by kernel_rfl }

open Go.RowKit Go.Lib in
theorem Tryz.strings_Count_one (s : ByteArray) (c : UInt8) (w : World) :
    Calls Tryz.prog 102 #[.string s, .string ⟨#[c]⟩] w fun e w' => e = .returned (.int .i64 (Lib.countByte s.data.toList c)) ∧ w' = w := Any.strings_Count_one Tryz.lays138 s c w
end Go.Proofs

/-
  The library's contracts, and num's, in the words of the calculus. Plain theorems over the seat's program; no condition.
-/
namespace Go.Proofs.YtkalifgebccpcaaGreatDoor.Q
open Go Go.RowKit
set_option linter.unusedVariables false
/-- What the program's variables are, told of frozen blocks. -/
def GE (Z : Fz) : Prop := ∀ w, Frz Z w → Env w
theorem GE.mono {Z Z' : Fz} (h : Fz.le Z Z') (hg : GE Z) : GE Z' := fun w hw => hg w (fun b o e => hw b o (h b o e))
theorem Fn0.rle {P : Program} {E : Fz → Prop} {f : FuncId} {args : List Rp} {r r' : Rp} (h : Fn0 P E f args r) (hr : Rle r r') : Fn0 P E f args r' := fun w Z vs hv hs =>
  (h w Z vs hv hs).mono fun e w' ⟨q, v, H, Z', he, ⟨hq, hH⟩, hp, ht⟩ => ⟨r', v, H, Z', he, ⟨rfl, hH⟩, hr Z' v (hq ▸ hp), ht⟩
theorem Rle.tup2 {a b : Value} : Rle (rv (.tuple #[a, b])) (rTup [rv a, rv b]) := fun Z v h => ⟨[a, b], h, rfl, rfl, trivial⟩
theorem Fn0.of_id {P : Program} {E : Fz → Prop} {f : FuncId} {vs : List Value} {v : Value} (h : ∀ w, Calls P f vs.toArray w (fun e w' => e = .returned v ∧ w' = w)) : Fn0 P E f (vs.map rv) (rv v) :=
  Fn0.of_old fun w Z _ _ => (h w).mono fun e w' ⟨he, hw⟩ => ⟨he, by rw [hw]; exact Proofs.YtkalifgebccpcaaGreatDoor.St.refl w []⟩
theorem format_q (m : Int) (g : inK .i64 m = true) : Fn0 Tryz.prog GE 85 [rI .i64 m] (rS (Lib.itoa m)) := Fn0.of_old (vs := [.int .i64 m]) fun w Z hf he => format_c m (inK_i64 g).1 (inK_i64 g).2 w (he w hf)
theorem itoa_q (m : Int) (g : inK .i64 m = true) : Fn0 Tryz.prog GE 96 [rI .i64 m] (rS (Lib.itoa m)) := Fn0.of_old (vs := [.int .i64 m]) fun w Z hf he => itoa_c m (inK_i64 g).1 (inK_i64 g).2 w (he w hf)
theorem parse_q (s : Str) (g : inA 1 s.length = true) : Fn0 Tryz.prog GE 104 [rS s] (rTup [rI .i64 (parseV s), rI .i64 (parseE s)]) := (Fn0.of_old (vs := [.string (B s)]) fun w Z hf he => parse_c s (by simp [inA] at g; omega) w (he w hf)).rle Rle.tup2
theorem count_q (s : Str) (c : UInt8) : Fn0 Tryz.prog GE 102 [rS s, rS [c]] (rI .i64 (Lib.countByte s c)) := Fn0.of_id (vs := [.string (B s), .string (B [c])]) fun w => by have := Tryz.strings_Count_one (B s) c w; rwa [B_data] at this
end Go.Proofs.YtkalifgebccpcaaGreatDoor.Q

/-
  A strings.Builder of one's own: its entry, the operations of its methods; closures called; texts made of bytes. Plain theorems over any program; no condition.
-/
namespace Go.Proofs.YtkalifgebccpcaaGreatDoor.Q
open Go Go.RowKit
set_option linter.unusedVariables false
set_option linter.unusedSimpArgs false
/-- bytes as numbers, numbers as bytes -/
theorem toI_cells (l : List UInt8) : ((toI l).map eI_u8).flatten = (l.map fun c => Value.int .u8 c.toNat).map rv := by
  induction l with
  | nil => rfl
  | cons c r ih => simp only [toI, List.map_cons, List.flatten_cons] at ih ⊢; rw [ih]; rfl
theorem toI_len (l : List UInt8) : (toI l).length = l.length := by simp [toI]
theorem run_append_str_st {P : Program} {w : World} {t t' e : TypeId} {inf : TypeInfo} {v : Value} {m : Nat} {us : List Value} {s : List UInt8} (ty : TypeId) (ht : P.underlying t = some (.slice e)) (hu : P.underlying t' = some .string) (hinf : P.info? e = some inf) (hz : inf.zero = some (.int .u8 0)) (hsize : inf.size = 1) (hby : inf.bytes = 1)
    (hown : w.ownsRow 0 e 1 v m us) (hb : m + s.length ≤ 140737488355328) :
    ∃ v' w', (Builtin.append_ #[t, t'] ty #[v, .string (B s)]).run P w = .ok v' w' ∧ w'.ownsRow 0 e 1 v' (m + s.length) (us ++ s.map fun c => Value.int .u8 c.toNat) ∧ w.grownBy w' v.ownBlock ∧ (v'.ownBlock = v.ownBlock ∨ ∀ b, v'.ownBlock = some b → w.heap.size ≤ b) := by
  have hsz : (B s).size = s.length := B_size s
  have hcells : Lib.strCells (B s) = s.map fun c => Value.int .u8 c.toNat := by simp [Lib.strCells, B]
  rcases hown.2 with ⟨rfl, rfl⟩ | ⟨g, cap, cur, rfl, hbg, hg, hnc, hcm, hcs, htake⟩
  · have hx : us = [] := List.eq_nil_of_length_eq_zero (by simpa using hown.1)
    subst hx
    obtain ⟨v', w', e1, e2, e3, _⟩ := Lib.run_append_own_string (P := P) (w := w) w.heap.size t t' ty e inf ht hu hinf hz hsize hby (.slice none 0 0) 0 [] (World.ownsRow_nil w _ e 1) (B s) (by rw [hsz]; simp only [maxLen]; omega) (by rw [hsz]; omega) (Nat.le_refl _)
    rw [hsz, hcells] at e2
    refine ⟨v', w', e1, ⟨e2.1, ?_⟩, e3, .inr fun b hb => (e2.lt b hb).1⟩
    rcases e2.2 with h | ⟨g, cap, cur, h, _, rest⟩
    · exact .inl h
    · exact .inr ⟨g, cap, cur, h, Nat.zero_le _, rest⟩
  · obtain ⟨v', w', e1, e2, e3, _⟩ := Lib.run_append_own_string (P := P) (w := w) 0 t t' ty e inf ht hu hinf hz hsize hby _ m us hown (B s) (by rw [hsz]; simp only [maxLen]; omega) (by rw [hsz]; omega) (Nat.zero_le _)
    rw [hsz, hcells] at e2
    refine ⟨v', w', e1, e2, e3, ?_⟩
    by_cases hroom : m + (B s).size ≤ cap
    · have hr := Lib.run_append_room_string (P := P) w t t' ty e inf ht hu hinf hsize g m cap cur hg (B s) hroom (by simp at hcs; omega)
      rw [hr] at e1
      simp only [Result.ok.injEq] at e1
      rw [← e1.1]; exact .inl rfl
    · have holds : ∀ j u, us[j]? = some u → w.cell? ((⟨g, 0, none⟩ : Addr).add j) = some u := hown.cells (g := g) rfl
      have hr := Lib.run_append_grow_string (P := P) w t t' ty e inf (.int .u8 0) ht hu hinf hz ⟨g, 0, none⟩ m cap us (by rw [hsize]; exact hown.1) holds (B s) (by omega) (by rw [hsz]; omega) (by rw [hby]; exact growslice_fits (by omega) (by rw [hsz]; omega))
      rw [hr] at e1
      simp only [Result.ok.injEq] at e1
      rw [← e1.1]; exact .inr fun b hb => by simp [Value.ownBlock] at hb; omega
section
variable {P : Program} {n : Nat} {c : Cx} {ops : Array Oper} {Q : Exit → Act → World → Prop} {rest : List Oper} {l : Fr} {H H' : List Ent} {d : Nat} {d' : Option Nat} {x y z3 : Operand} {ty t t' e : TypeId} {pos : String} {af : Array Edge} {g : Option (Nat × Bool)} {v u : Value} {r : Rp} {sz : Nat} {K : Act → World → Prop}
theorem St.tobld {Z : Fz} {w : World} (h : St c H Z w) {i b : Nat} {te T : TypeId} (hi : H[i]? = some (.blk b [rv (.pointer none), rv (.slice none 0 0)] T)) : St c (H.set i (.bld T te b (.slice none 0 0) [])) Z w := by
  refine h.set hi rfl rfl rfl (Nat.le_refl _) (fun _ _ _ => rfl) ?_ (by simp [Ent.foot, Value.ownBlock])
  obtain ⟨us, h1, h2⟩ := h.ent hi
  have := RpAll.eq_rv (us := [.pointer none, .slice none 0 0]) h2
  subst this
  exact ⟨_, .inl rfl, h1, ⟨by simp, .inl ⟨rfl, rfl⟩⟩, by simp [Value.ownBlock]⟩
theorem WK.tobld {i b : Nat} {te T : TypeId} (hi : H[i]? = some (.blk b [rv (.pointer none), rv (.slice none 0 0)] T)) (h : WK n c K l (H.set i (.bld T te b (.slice none 0 0) []))) : WK n c K l H := fun a w Z ha hw => h a w Z ha (St.tobld hw hi)
theorem WL.tobld {i b : Nat} {te T : TypeId} (hi : H[i]? = some (.blk b [rv (.pointer none), rv (.slice none 0 0)] T)) (h : WL P n c ops Q rest l (H.set i (.bld T te b (.slice none 0 0) []))) : WL P n c ops Q rest l H := fun a w Z ha hw => h a w Z ha (St.tobld hw hi)
theorem WC.tobld {xx : Code} {i b : Nat} {te T : TypeId} (hi : H[i]? = some (.blk b [rv (.pointer none), rv (.slice none 0 0)] T)) (h : WC P n c xx Q l (H.set i (.bld T te b (.slice none 0 0) []))) : WC P n c xx Q l H := fun a w Z ha hw => h a w Z ha (St.tobld hw hi)
/-- what a method does to the block and the row, it does to the builder -/
theorem Fn.bld {E : Fz → Prop} {f : FuncId} {args : List Rp} {T te : TypeId} {b : Nat} {v : Value} {s s' : List UInt8} {res : Rp}
    (h : ∀ p, (p = .pointer none ∨ p = .pointer (some ⟨b, 0, none⟩)) → Fn P E f args [.blk b [rv p, rv v] T, .row v te 1 ((toI s).map eI_u8)] (fun R H => ∃ w0 : Value, R = res ∧ H = [.blk b [rv (.pointer (some ⟨b, 0, none⟩)), rv w0] T, .row w0 te 1 ((toI s').map eI_u8)])) :
    Fn P E f args [.bld T te b v s] (fun R H => ∃ w0 : Value, R = res ∧ H = [.bld T te b w0 s']) := fun w Z vs hv hs => by
  obtain ⟨p, hp, h1, h2, h3⟩ := hs.has _ (List.mem_singleton.2 rfl)
  have hfoot : [Ent.bld T te b v s].flatMap Ent.foot = [Ent.blk b [rv p, rv v] T, Ent.row v te 1 ((toI s).map eI_u8)].flatMap Ent.foot := by simp [Ent.foot]
  have hs' : St ⟨w, Z, [Ent.blk b [rv p, rv v] T, Ent.row v te 1 ((toI s).map eI_u8)].flatMap Ent.foot, E⟩ [Ent.blk b [rv p, rv v] T, Ent.row v te 1 ((toI s).map eI_u8)] Z w := by
    refine ⟨rfl, rfl, rfl, Nat.le_refl _, fun _ _ _ => rfl, ?_, fun e he k hk => .inr (List.mem_flatMap.2 ⟨e, he, hk⟩), ?_, hs.frz, Fz.le.refl _, fun _ _ e => .inl e, fun e he k hk => ?_, hs.env, hs.emono⟩
    · intro e he
      simp only [List.mem_cons, List.not_mem_nil, or_false] at he
      rcases he with rfl | rfl
      · exact ⟨[p, v], h1, rfl, rfl, trivial⟩
      · refine ⟨fun cl hcl => by obtain ⟨z, _, rfl⟩ := List.mem_map.1 hcl; rfl, _, by simpa [toI_len] using h2, ?_⟩
        rw [toI_cells]; exact RpAll.rvs Z _
    · refine List.pairwise_cons.2 ⟨fun e he k hk hk' => ?_, List.pairwise_singleton ..⟩
      simp only [List.mem_singleton] at he; subst he
      simp only [Ent.foot, List.mem_singleton] at hk; subst hk
      simp only [Ent.foot, Option.mem_toList] at hk'
      exact h3 hk'
    · have hmem : k ∈ [Ent.bld T te b v s].flatMap Ent.foot := by rw [hfoot]; exact List.mem_flatMap.2 ⟨e, he, hk⟩
      obtain ⟨e', he', hk'⟩ := List.mem_flatMap.1 hmem
      exact hs.zdis e' he' k hk'
  rw [hfoot] at hs ⊢
  refine (h p hp w Z vs hv hs').mono fun e w' ⟨R, vv, H, Z', he, ⟨w0, hR, hH⟩, hpR, ht⟩ => ⟨R, vv, [.bld T te b w0 s'], Z', he, ⟨w0, hR, rfl⟩, hpR, ?_⟩
  subst hH
  obtain ⟨us, k1, k2⟩ := ht.has (.blk b [rv (.pointer (some ⟨b, 0, none⟩)), rv w0] T) (by simp)
  obtain ⟨k3, ws, k4, k5⟩ := ht.has (.row w0 te 1 ((toI s').map eI_u8)) (by simp)
  have e1 := RpAll.eq_rv (us := [.pointer (some ⟨b, 0, none⟩), w0]) k2
  subst e1
  rw [toI_cells] at k5
  have e2 := RpAll.eq_rv k5
  subst e2
  have hd := List.pairwise_cons.1 ht.dis
  have hne : w0.ownBlock ≠ some b := fun hb => hd.1 _ (List.mem_singleton.2 rfl) b (by simp [Ent.foot]) (by simp [Ent.foot, hb])
  refine { ht with has := ?_, own := ?_, dis := List.pairwise_singleton .., zdis := ?_ }
  · intro e' he'; simp only [List.mem_singleton] at he'; subst he'
    exact ⟨_, .inr rfl, k1, by simpa [toI_len] using k4, hne⟩
  · intro e' he' k hk; simp only [List.mem_singleton] at he'; subst he'
    simp only [Ent.foot, List.mem_cons] at hk
    rcases hk with rfl | hk
    · exact ht.own (.blk k [rv (.pointer (some ⟨k, 0, none⟩)), rv w0] T) (by simp) k (by simp [Ent.foot])
    · exact ht.own (.row w0 te 1 ((toI s').map eI_u8)) (by simp) k hk
  · intro e' he' k hk; simp only [List.mem_singleton] at he'; subst he'
    simp only [Ent.foot, List.mem_cons] at hk
    rcases hk with rfl | hk
    · exact ht.zdis (.blk k [rv (.pointer (some ⟨k, 0, none⟩)), rv w0] T) (by simp) k (by simp [Ent.foot])
    · exact ht.zdis (.row w0 te 1 ((toI s').map eI_u8)) (by simp) k hk
/-- .. and if it takes it apart -/
theorem Fn.bldS {E : Fz → Prop} {f : FuncId} {args : List Rp} {T te : TypeId} {b : Nat} {v : Value} {s : List UInt8} {res : Rp}
    (h : ∀ p, (p = .pointer none ∨ p = .pointer (some ⟨b, 0, none⟩)) → Fn P E f args [.blk b [rv p, rv v] T, .row v te 1 ((toI s).map eI_u8)] (fun R H => R = res ∧ H = [])) :
    Fn P E f args [.bld T te b v s] (fun R H => R = res ∧ H = []) := fun w Z vs hv hs => by
  obtain ⟨p, hp, h1, h2, h3⟩ := hs.has _ (List.mem_singleton.2 rfl)
  have hfoot : [Ent.bld T te b v s].flatMap Ent.foot = [Ent.blk b [rv p, rv v] T, Ent.row v te 1 ((toI s).map eI_u8)].flatMap Ent.foot := by simp [Ent.foot]
  have hs' : St ⟨w, Z, [Ent.blk b [rv p, rv v] T, Ent.row v te 1 ((toI s).map eI_u8)].flatMap Ent.foot, E⟩ [Ent.blk b [rv p, rv v] T, Ent.row v te 1 ((toI s).map eI_u8)] Z w := by
    refine ⟨rfl, rfl, rfl, Nat.le_refl _, fun _ _ _ => rfl, ?_, fun e he k hk => .inr (List.mem_flatMap.2 ⟨e, he, hk⟩), ?_, hs.frz, Fz.le.refl _, fun _ _ e => .inl e, fun e he k hk => ?_, hs.env, hs.emono⟩
    · intro e he
      simp only [List.mem_cons, List.not_mem_nil, or_false] at he
      rcases he with rfl | rfl
      · exact ⟨[p, v], h1, rfl, rfl, trivial⟩
      · refine ⟨fun cl hcl => by obtain ⟨z, _, rfl⟩ := List.mem_map.1 hcl; rfl, _, by simpa [toI_len] using h2, ?_⟩
        rw [toI_cells]; exact RpAll.rvs Z _
    · refine List.pairwise_cons.2 ⟨fun e he k hk hk' => ?_, List.pairwise_singleton ..⟩
      simp only [List.mem_singleton] at he; subst he
      simp only [Ent.foot, List.mem_singleton] at hk; subst hk
      simp only [Ent.foot, Option.mem_toList] at hk'
      exact h3 hk'
    · have hmem : k ∈ [Ent.bld T te b v s].flatMap Ent.foot := by rw [hfoot]; exact List.mem_flatMap.2 ⟨e, he, hk⟩
      obtain ⟨e', he', hk'⟩ := List.mem_flatMap.1 hmem
      exact hs.zdis e' he' k hk'
  rw [hfoot] at hs ⊢
  exact h p hp w Z vs hv hs'

/-! ### Pointers -/
theorem o_pnil_n (hu : ∃ e', P.underlying t = some (.pointer e')) (hx : ev l x = some (rv (.pointer none))) : ORun P n c l H { dst := d', op := .binOp .eql t x (.const (.pointer none)) t', type := ty, pos := pos, after := af, guard := g } (rB true) := fun a w Z ha _ => o_mk <| by
  obtain ⟨e', hu⟩ := hu
  have h1 : ∀ dd : Nat, (Op.equalIn (dd + 1) t (.pointer none) (.pointer none)).run P w = .ok true w := fun dd => by simp [Op.equalIn, run_underlying hu]
  have h2 : (Op.equal t (.pointer none) (.pointer none)).run P w = .ok true w := h1 9999
  have h3 : (eqGuard .eql t x (.const (.pointer none)) (.pointer none) (.pointer none)).run P w = .ok () w := by unfold eqGuard; split <;> simp
  have hy : a.eval (.const (.pointer none)) = .pointer none := rfl
  simp only [execOp, ha.eval hx, hy, Sem.run_bind, h3, Result.andThen_ok, binOp, h2, Sem.run_pure]
theorem o_psame_ne {p : Addr} {te : TypeId} (hu : P.underlying t = some (.pointer te)) (hi : ∃ j, P.info? te = some j) (hx : ev l x = some (rv (.pointer (some p)))) (hy : ev l y = some (rv (.pointer (some p)))) : ORun P n c l H { dst := d', op := .binOp .neq t x y t', type := ty, pos := pos, after := af, guard := g } (rB false) := fun a w Z ha _ => o_mk <| by
  obtain ⟨j, hj⟩ := hi
  have h3 : (eqGuard .neq t x y (.pointer (some p)) (.pointer (some p))).run P w = .ok () w := by unfold eqGuard; split <;> simp
  simp only [execOp, ha.eval hx, ha.eval hy, Sem.run_bind, h3, Result.andThen_ok, Lib.run_neq_ptr_same w p hu hj, Sem.run_pure]
theorem shape_blk {w : World} {Z : Fz} {i b : Nat} {cs : List Rp} (hw : St c H Z w) (hi : H[i]? = some (.blk b cs e)) : w.shape? b = some (e, cs.length) := by
  obtain ⟨us, h1, h2⟩ := hw.ent hi
  simp [World.shape?, h1, h2.length]
theorem o_to_unsafe {i b : Nat} {cs : List Rp} {te : TypeId} (hs : P.underlying t = some (.pointer te)) (hd : P.underlying t' = some .unsafePointer) (hj : ∃ j, P.info? te = some j ∧ j.size ≠ 0) (hx : ev l x = some (rv (.pointer (some ⟨b, 0, none⟩)))) (hi : H[i]? = some (.blk b cs e)) (hl : Nat.blt 0 cs.length = true) :
    ORun P n c l H { dst := d', op := .convert t t' x, type := ty, pos := pos, after := af, guard := g } (rv (.pointer (some ⟨b, 0, none⟩))) := fun a w Z ha hw => o_mk <| by
  obtain ⟨j, hj1, hj2⟩ := hj
  have := Lib.run_to_unsafe (P := P) w ⟨b, 0, none⟩ hs hd hj1 hj2 (shape_blk hw hi) (by simpa using hl)
  simp [execOp, ha.eval hx, this]
theorem o_from_unsafe {i b : Nat} {cs : List Rp} {te : TypeId} (hs : P.underlying t = some .unsafePointer) (hd : P.underlying t' = some (.pointer te)) (hj : ∃ j, P.info? te = some j) (hx : ev l x = some (rv (.pointer (some ⟨b, 0, none⟩)))) (hi : H[i]? = some (.blk b cs e)) (hl : liesAt P P.depth e (cs.length / P.cellsOf e) 0 te 1 = true) :
    ORun P n c l H { dst := d', op := .convert t t' x, type := ty, pos := pos, after := af, guard := g } (rv (.pointer (some ⟨b, 0, none⟩))) := fun a w Z ha hw => o_mk <| by
  obtain ⟨j, hj1⟩ := hj
  have := Lib.run_from_unsafe (P := P) w ⟨b, 0, none⟩ hs hd hj1 (shape_blk hw hi) hl
  simp [execOp, ha.eval hx, this]
theorem o_noesc {f : FuncId} {fn : Func} {ats : Array TypeId} (hf : P.funcs[f]? = some fn) (hname : (fn.name == "runtime.NumGoroutine") = false) (hb : fn.body.isNone = true) (hn : Extern.findNext fn = none) (he : Extern.find fn = some Extern.AbiNoEscape.same) (hx : ev l x = some (rv v)) :
    ORun P n c l H { dst := d', op := .call { callee := .value (.func f), args := #[x], argTypes := ats }, type := ty, pos := pos, after := af, guard := g } (rv v) := fun a w Z ha hw => o_mk <| by
  have h1 := run_callFunc_extern (P := P) (w := w) (args := #[v]) hf hname hb hn he
  rw [Lib.run_noEscape] at h1
  simp only [execOp, resolve, Sem.run_bind, Sem.run_pure, Result.andThen_ok, Act.eval, Deferred.ofValue, invoke]
  simp only [List.map_toArray, List.map_cons, List.map_nil, ha.eval hx, Array.append_empty, Array.empty_append]
  simpa using h1

theorem pos_map {α : Type} {xs : List α} {enc : α → List Rp} (h : decide (0 < xs.length) = true) : decide (0 < (xs.map enc).length) = true := by simpa using h
section
variable {P : Program} {n : Nat} {c : Cx} {l : Fr} {H : List Ent} {d' : Option Nat} {x : Operand} {ty t t' e : TypeId} {pos : String} {af : Array Edge} {g : Option (Nat × Bool)} {v : Value}
theorem foldB : ∀ (ns : List Int) (p : List UInt8), ns.foldl (fun r n => r.push (UInt8.ofNat n.toNat)) (B p) = B (p ++ ofI ns)
  | [], p => by simp [ofI]
  | n :: ns, p => by
    have e : (B p).push (UInt8.ofNat n.toNat) = B (p ++ [UInt8.ofNat n.toNat]) := by simp [B, ByteArray.push]
    simp only [List.foldl_cons, e]
    rw [foldB ns]
    simp [ofI]
theorem eI_cells (xs : List Int) : (xs.map eI_u8).flatten = (xs.map fun c => Value.int .u8 c).map rv := by
  induction xs with
  | nil => rfl
  | cons a r ih => simp [eI_u8, ih]
theorem o_b2s {i : Nat} {xs : List Int} (hs : P.underlying t = some (.slice e)) (hd : P.underlying t' = some .string) (he : P.underlying e = some (.int .u8)) (hx : ev l x = some (rv v)) (hi : H[i]? = some (.row v e 1 (xs.map eI_u8))) :
    ORun P n c l H { dst := d', op := .convert t t' x, type := ty, pos := pos, after := af, guard := g } (rS (ofI xs)) := fun a w Z ha hw => by
  obtain ⟨_, us, ⟨h1, h2⟩, h3⟩ := hw.ent hi
  rw [eI_cells] at h3
  have e2 := RpAll.eq_rv h3
  subst e2
  refine ⟨.string (B (ofI xs)), rfl, ?_⟩
  have hlx := ha.eval hx
  rcases h2 with ⟨rfl, hz⟩ | ⟨b, cap, cur, rfl, _, hb, hcap, hm, hcs, htk⟩
  · have hx0 : xs = [] := by simpa using hz
    subst hx0
    have := run_convert_bytes_string w t t' e none 0 0 hs he hd
    simp only [execOp, hlx]
    have e3 : (Conv.bytesToString (.slice none 0 0)).run P w = .ok (.string (B [])) w := rfl
    rw [e3] at this
    simp [this, ofI]
  · simp only [List.length_map, Nat.mul_one] at htk hcap hcs h1
    have hld := run_loadCells_list (P := P) w ⟨b, 0, none⟩ (xs.map fun c => Value.int .u8 c) (fun j u hj => by
      rw [addm, Nat.zero_add, cell_of_row w b j cur e (0, 0) hb]
      rw [← htk, List.getElem?_take] at hj
      split at hj
      · simpa using hj
      · cases hj)
    rw [List.length_map] at hld
    have h4 := run_bytesToString w ⟨b, 0, none⟩ xs.length cap xs hld
    have h5 := run_convert_bytes_string w t t' e (some ⟨b, 0, none⟩) xs.length cap hs he hd
    have h6 := foldB xs []
    rw [h4, show ByteArray.empty = B [] from rfl, h6] at h5
    simp [execOp, hlx, h5]
end
/-! ### Bytes as a text -/
def slp : Value → Value
  | .slice a _ _ => .pointer a
  | v => v
theorem o_sliceData {i : Nat} {ts : Array TypeId} {xs : List (List Rp)} (hx : ev l x = some (rv v)) (hi : H[i]? = some (.row v e sz xs)) (hg : decide (0 < xs.length) = true) :
    ORun P n c l H { dst := d', op := .call { callee := .builtin .unsafeSliceData, args := #[x], argTypes := ts }, type := ty, pos := pos, after := af, guard := g } (rv (slp v)) := fun a w Z ha hw => o_mk <| by
  obtain ⟨_, us, ⟨_, h2⟩, _⟩ := hw.ent hi
  have h0 : 0 < xs.length := by simpa using hg
  rcases h2 with ⟨rfl, hz⟩ | ⟨b, cap, cur, rfl, _, _, hc, _⟩
  · omega
  · have := Lib.run_unsafeSliceData_row (P := P) w ts ty ⟨b, 0, none⟩ xs.length cap (by omega)
    simp [execOp, resolve, invoke, builtin, ha.eval hx, this, slp]
/-- An operation with a result that turns entries. -/
def VRun (P : Program) (n : Nat) (c : Cx) (l : Fr) (H : List Ent) (o : Oper) (r : Rp) (H' : List Ent) : Prop := ∀ a w Z, Agr n l a Z → St c H Z w → ∃ v w' Z', Fz.le Z Z' ∧ r.p Z' v ∧ (execOp a.eval o).run P w = .ok (.value v) w' ∧ St c H' Z' w'
theorem ok_w {opsA : Array Oper} {op : Op} (hr : VRun P n c l H { dst := some d, op := op, type := ty, pos := pos, after := af, guard := none } r H') : OpOk P n c opsA Q l H { dst := some d, op := op, type := ty, pos := pos, after := af, guard := none } r H' := fun a w Z K0 ha hw hK =>
  ⟨fun _ => by
    obtain ⟨v, w', Z', hz, hv, he, hs⟩ := hr a w Z ha hw
    unfold Oper.wp
    rw [he]
    exact hK v w' Z' hz hv hs, fun h => by simp [Region.wanted] at h⟩
theorem V_unsafeString {i : Nat} {pt it : TypeId} {s : List UInt8} (hp : P.underlying pt = some (.pointer e)) (hc : P.cellsOf e = 1) (hx : ev l x = some (rv (slp v))) (hy : ev l y = some (rI .i64 ((toI s).length : Int))) (hi : H[i]? = some (.row v e 1 ((toI s).map eI_u8))) (hg : decide (0 < ((toI s).map eI_u8).length) = true) (hH : H.eraseIdx i = H') :
    VRun P n c l H { dst := some d, op := .call { callee := .builtin .unsafeString, args := #[x, y], argTypes := #[pt, it] }, type := ty, pos := pos, after := af, guard := none } (rS s) H' := fun a w Z ha hw => by
  obtain ⟨_, us, ⟨h1, h2⟩, h3⟩ := hw.ent hi
  rw [toI_cells] at h3
  have e2 := RpAll.eq_rv h3
  subst e2
  have h0 : 0 < s.length := by simpa [toI_len] using hg
  rcases h2 with ⟨rfl, hz⟩ | ⟨b, cap, cur, rfl, _, hb, hcap, hm, hcs, htk⟩
  · simp [toI_len] at hz; subst hz; simp at h0
  · simp only [List.length_map, toI_len, Nat.mul_one] at htk hcap hcs h1
    have hus := Lib.run_unsafeString_row (P := P) w pt it ty e hp hc b cur.size (by simp [World.shape?, hb]) s (by intro e; subst e; simp at h0) (by omega) (by simp only [maxLen] at hm; omega) (fun j x hj => by
      rw [addm, Nat.zero_add, cell_of_row w b j cur e (0, 0) hb]
      have : (s.map fun c => Value.int .u8 c.toNat)[j]? = some (.int .u8 x.toNat) := by simp [hj]
      rw [← htk, List.getElem?_take] at this
      split at this
      · simpa using this
      · cases this)
    have hmem := List.mem_of_getElem? hi
    have hfr := hw.front hi
    have hd := List.pairwise_cons.1 hfr.dis
    have hst := hfr.sub (List.sublist_cons_self _ _)
    have hkeep : ∀ k, k ≠ b → (w.freeze ⟨b, 0, none⟩ s.length).heap[k]? = w.heap[k]? := fun k hk => by
      simp only [World.freeze]
      split
      · rfl
      · simp only [Array.getElem?_modify]
        rw [if_neg (fun e => hk e.symm)]
    have hzb : Z b = none := hw.zdis _ hmem b (by simp [Ent.foot, Value.ownBlock])
    refine ⟨.string ⟨s.toArray⟩, w.freeze ⟨b, 0, none⟩ s.length, Z, Fz.le.refl _, rfl, ?_, ?_⟩
    · have hlx := ha.eval hx
      have hly := ha.eval hy
      rw [toI_len] at hly
      simp [execOp, resolve, invoke, builtin, hlx, hly, slp, hus]
    · subst hH
      have hfz : ∀ (f : World → Prop), True := fun _ => trivial
      refine { hst with os := ?_, tape := ?_, output := ?_, size := ?_, old := fun k hk hkM => ?_, has := fun en he => ?_, frz := fun b' o hb' => ?_ }
      · rw [← hst.os]; simp only [World.freeze]; split <;> rfl
      · rw [← hst.tape]; simp only [World.freeze]; split <;> rfl
      · rw [← hst.output]; simp only [World.freeze]; split <;> rfl
      · refine Nat.le_trans hst.size ?_; simp only [World.freeze]; split <;> simp
      · have hkb : k ≠ b := fun e => by
          subst e
          rcases hw.own _ hmem k (by simp [Ent.foot, Value.ownBlock]) with h4 | h4
          · omega
          · exact hkM h4
        rw [hkeep k hkb]; exact hst.old k hk hkM
      · exact Ent.keep (hst.has en he) (Fz.le.refl _) fun k hk => hkeep k (fun e => hd.1 en he b (by simp [Ent.foot, Value.ownBlock]) (e ▸ hk))
      · rw [hkeep b' (fun e => by subst e; rw [hzb] at hb'; cases hb')]; exact hst.frz b' o hb'
/-! ### Closures -/
theorem run_closure {f : FuncId} {args : List Operand} {ats : Array TypeId} {o : Oper} {a : Act} {caps : List Value} (ho : o.op = .call { callee := .value x, args := args.toArray, argTypes := ats }) (hx : a.eval x = .func (.func f) #[] caps.toArray)
    (hcall : ∀ (as1 : Array Value) (w : World), (callFunc f as1).run P w = .ok (.enter f as1) w) (w : World) : (execOp a.eval o).run P w = .ok (.enter f (args.map a.eval ++ caps).toArray) w := by
  simp [execOp, ho, resolve, hx, Deferred.ofValue, invoke, hcall]
theorem w_callc {f : FuncId} {args : List Operand} {ats : Array TypeId} {rs : List Rp} {caps : List Value} {Hin Hr : List Ent} {Φ : Rp → List Ent → Prop} (hcall : ∀ (as1 : Array Value) (w : World), (callFunc f as1).run P w = .ok (.enter f as1) w) (hx : ev l x = some (rv (.func (.func f) #[] caps.toArray))) (hv : evs l args = some rs)
    (hp : H.Perm (Hin ++ Hr)) (hc : Fn P c.E f (rs ++ caps.map rv) Hin Φ) (hn : Nat.blt d n = true) (h : ∀ r Ho, Φ r Ho → WL P n c ops Q rest ((d, r) :: l) (Ho ++ Hr)) :
    WL P n c ops Q ({ dst := some d, op := .call { callee := .value x, args := args.toArray, argTypes := ats }, type := ty, pos := pos, after := af, guard := none } :: rest) l H :=
  wl_call (args := fun a => (args.map a.eval ++ caps).toArray) (fun a w Z ha hw => ⟨run_closure rfl (ha.eval hx) hcall w, by
    have hw2 := hw.perm hp
    refine (hc w Z _ (by have := (evs_all ha hv).append (RpAll.rvs Z caps); simpa using this) hw2.enter).mono ?_
    rintro e w' ⟨r, v, Ho, Z', he, hΦ, hr, hs⟩
    exact ⟨v, r, Ho ++ Hr, Z', he, hs.le, hr, hw2.call hs, h r Ho hΦ⟩⟩) hn
/-- bytes of a text are appended -/
theorem w_append_str {xs : List Int} {s : List UInt8} {i : Nat} {inf : TypeInfo} (ht : P.underlying t = some (.slice e)) (hu : P.underlying t' = some .string) (hinf : P.info? e = some inf) (hz : inf.zero = some (.int .u8 0)) (hsize : inf.size = 1) (hby : inf.bytes = 1)
    (hx : ev l x = some (rv v)) (hy : ev l y = some (rS s)) (hi : H[i]? = some (.row v e 1 (xs.map eI_u8))) (hg : inA 1 (xs.length + s.length) = true) (hn : Nat.blt d n = true)
    (h : ∀ v', WL P n c ops Q rest ((d, rv v') :: l) (.row v' e 1 ((xs ++ toI s).map eI_u8) :: H.eraseIdx i)) :
    WL P n c ops Q ({ dst := some d, op := .call { callee := .builtin .append, args := #[x, y], argTypes := #[t, t'] }, type := ty, pos := pos, after := af, guard := none } :: rest) l H :=
  wl_w (fun a w Z ha hw => by
    obtain ⟨h0, us, h1, h2⟩ := hw.ent hi
    have hb : (xs.length + s.length) * 1 ≤ 140737488355328 := by simpa [inA] using hg
    rw [List.length_map] at h1
    obtain ⟨v', w', e1, e2, e3, e4⟩ := run_append_str_st (P := P) (w := w) ty ht hu hinf hz hsize hby h1 (s := s) (by omega)
    have hent : (Ent.row v' e 1 ((xs ++ toI s).map eI_u8)).holds Z w' := ⟨fun cl hcl => by obtain ⟨z', _, rfl⟩ := List.mem_map.1 hcl; rfl, us ++ s.map (fun c => Value.int .u8 c.toNat), by simpa [toI_len] using e2, by
      rw [List.map_append, List.flatten_append, toI_cells]; exact h2.append (RpAll.rvs Z _)⟩
    have hst := hw.callF hi (St.one (e' := .row v' e 1 ((xs ++ toI s).map eI_u8)) (M := (Ent.row v e 1 (xs.map eI_u8)).foot) hw.frz hw.env hw.emono e3.os e3.tape e3.output e3.size (fun k hk hne => e3.block k hk (fun e1 => hne (by simp [Ent.foot, ← e1])))
      (hw.zdis _ (List.mem_of_getElem? hi)) hent (fun k hk => by
        simp only [Ent.foot, Option.mem_toList] at hk ⊢
        rcases e4 with e4 | e4
        · exact .inl (e4 ▸ hk)
        · exact .inr (e4 k hk)))
    exact ⟨v', w', rv v', _, Z, by simp [execOp, resolve, invoke, builtin, ha.eval hx, ha.eval hy, e1], Fz.le.refl _, rfl, hst, h v'⟩) hn
end
end Go.Proofs.YtkalifgebccpcaaGreatDoor.Q

/-
  What a law is handed, read as what it stands for: the blocks of the world that is handed in are frozen. Plain theorems over any program; no condition.
-/
namespace Go.Proofs.YtkalifgebccpcaaGreatDoor.Q
open Go Go.RowKit Go.ChangeShapes Go.Deep
set_option linter.unusedVariables false
set_option linter.unusedSimpArgs false
def ZW (W : World) : Fz := fun b => W.heap[b]?
theorem ZW.frz (W : World) : Frz (ZW W) W := fun _ _ h => h
/-- Cells of the type e, as they are handed in, stand for something. -/
def Opn (P : Program) (e : TypeId) {α : Type} (enc : α → List Rp) (ok : α → Bool) : Prop :=
  ∀ {H : Type} {encH : TypeId × Value → H} {W : World} {sp : Nat → Bool} {held : Bool} {n : Nat} {cs : List Value} {x : DataW H × List MemPlace}, DataW.trod encH P W 0 sp held n e cs = some x → ∃ y : α, ok y = true ∧ RpAll (ZW W) (enc y) cs
section
variable {P : Program} {e t : TypeId}
theorem Opn.int {k : IntKind} {enc : Int → List Rp} (ht : P.underlying e = some (.int k)) (he : ∀ n, enc n = [rI k n]) : Opn P e enc (inK k) := fun h => by
  obtain ⟨n, rfl, _, hwf⟩ := DataW.trod_int ht h
  exact ⟨n, hwf, by rw [he]; exact ⟨rfl, trivial⟩⟩
theorem Opn.str {enc : Str → List Rp} (ht : P.underlying e = some .string) (he : ∀ n, enc n = [rS n]) : Opn P e enc okS := fun h => by
  obtain ⟨s, rfl, _, hl⟩ := DataW.trod_string ht h
  exact ⟨s.data.toList, decide_eq_true (by rw [Array.length_toList]; exact hl), by rw [he]; exact ⟨congrArg Value.string (B_of s), trivial⟩⟩
theorem Opn.bool {enc : Bool → List Rp} (ht : P.underlying e = some .bool) (he : ∀ n, enc n = [rB n]) : Opn P e enc (fun _ => true) := fun h => by
  obtain ⟨b, rfl, _⟩ := DataW.trod_bool ht h
  exact ⟨b, rfl, by rw [he]; exact ⟨rfl, trivial⟩⟩
theorem cell_spot {W : World} {a : Addr} {v : Value} (h : W.cell? a = some v) : a.spot = none ∧ zcell (ZW W) a.block a.off = some v := by
  unfold World.cell? at h
  unfold zcell ZW
  cases hh : W.heap[a.block]? with
  | none => rw [hh] at h; cases h
  | some o =>
    rw [hh] at h
    cases o with
    | cells cs t fz =>
      cases hs : a.spot with
      | none => simp [hs] at h; exact ⟨rfl, h⟩
      | some _ => simp [hs] at h
    | _ => simp at h
theorem Opn.slice {α : Type} [Inhabited α] {enc : α → List Rp} {ok : α → Bool} {sz : Nat} (ht : P.underlying t = some (.slice e)) (hc : P.cellsOf e = sz) (hsz : 0 < sz) (h : Opn P e enc ok) (hlen : ∀ y, (enc y).length = sz) {enc' : List α → List Rp} (he : ∀ ys, enc' ys = [rSl sz (ys.map enc)]) :
    Opn P t enc' (fun ys => ys.all ok && decide (ys.length ≤ 9223372036854775807)) := fun {H encH W sp held n cs x} hx => by
  rcases open_slice ht hx with ⟨rfl, _⟩ | ⟨a, len, cap, m, n', D, Pl, rfl, hb, hl, hm, hmm, _, hel⟩
  · exact ⟨[], by simp, by rw [he]; exact ⟨SlZ.nil sz _, trivial⟩⟩
  · have hlm : len ≤ m := by rw [hmm]; split <;> omega
    have each : ∀ i, i < len → ∃ y : α, ok y = true ∧ ∃ cs', W.cells? 0 (a.add (i * sz)) sz = some cs' ∧ RpAll (ZW W) (enc y) cs' := fun i hi => by
      obtain ⟨cs', h1, h2⟩ := hel i (by omega)
      obtain ⟨y, hy, hr⟩ := h h2
      rw [hc] at h1
      exact ⟨y, hy, cs', h1, hr⟩
    obtain ⟨f, hf⟩ := choose_lt each
    refine ⟨(List.range len).map f, ?_, ?_⟩
    · simp only [Bool.and_eq_true, List.all_eq_true, List.mem_map, List.mem_range, decide_eq_true_eq]
      refine ⟨?_, by simp; simp only [maxLen] at hm; omega⟩
      rintro _ ⟨i, hi, rfl⟩
      exact (hf i hi).1
    · rw [he]
      refine ⟨⟨some a, cap, by simp, by simpa using hl, hm, (fun h => by cases h), fun i c hi => ?_⟩, trivial⟩
      rw [List.map_map, List.getElem?_map] at hi
      have hil : i < len := by
        cases hq : (List.range len)[i]? with
        | none => rw [hq] at hi; cases hi
        | some _ => have := (List.getElem?_eq_some_iff.1 hq).1; simpa using this
      rw [List.getElem?_range hil] at hi
      simp only [Option.map_some, Option.some.injEq, Function.comp] at hi
      subst hi
      obtain ⟨_, cs', h1, hr⟩ := hf i hil
      obtain ⟨_, hcl, hcell⟩ := World.cells?_some h1
      have hsp : a.spot = none := by
        obtain ⟨_, cs0, g1, _⟩ := hf 0 (by omega)
        obtain ⟨_, gcl, gcell⟩ := World.cells?_some g1
        have h0 := gcell 0 hsz
        rw [List.getElem?_eq_getElem (by omega)] at h0
        have := (cell_spot h0).1
        simpa [Addr.add] using this
      refine ⟨hlen _, a, rfl, hsp, fun j r hj => ?_⟩
      obtain ⟨u, hu, hp⟩ := hr.at hj
      have hjs : j < sz := by have := (List.getElem?_eq_some_iff.1 hj).1; rw [hlen] at this; exact this
      have h3 := hcell j hjs
      rw [hu] at h3
      have h4 := (cell_spot h3).2
      refine ⟨u, ?_, hp⟩
      have e1 : ((a.add (i * sz)).add j).block = a.block := by simp only [Addr.add]; split <;> split <;> rfl
      have e2 : ((a.add (i * sz)).add j).off = a.off + (i * sz + j) := by simp only [Addr.add]; split <;> split <;> simp_all <;> omega
      rw [e1, e2] at h4
      exact h4
theorem seg_nil {Z : Fz} {cs : List Value} {o : Nat} (h : cs.length = o) : RpAll Z [] (cs.drop o) := by rw [List.drop_of_length_le (by omega)]; trivial
theorem seg_cons {Z : Fz} {cs : List Value} {o s o' : Nat} {rs rs' : List Rp} (h : RpAll Z rs ((cs.drop o).take s)) (ho : o + s = o') (h2 : RpAll Z rs' (cs.drop o')) : RpAll Z (rs ++ rs') (cs.drop o) := by
  rw [← List.take_append_drop s (cs.drop o), List.drop_drop]
  subst ho
  exact h.append h2
/-- A value whose cells stand for what a representation of one value tells. -/
theorem Opn.val {α : Type} {enc : α → List Rp} {ok : α → Bool} (h : Opn P e enc ok) {r : α → Rp} (he : ∀ y, enc y = [r y]) {H : Type} {encH : TypeId × Value → H} {W : World} {sp : Nat → Bool} {held : Bool} {v : Value} {d : DataW H} {ps : List MemPlace}
    (hone : v.cells = #[v]) (ht : DataW.Trod encH P W 0 sp held e v d ps) : ∃ y : α, ok y = true ∧ (r y).p (ZW W) v := by
  obtain ⟨fuel, hf⟩ := ht
  rw [hone] at hf
  obtain ⟨y, hy, hr⟩ := h hf
  rw [he] at hr
  exact ⟨y, hy, hr.1⟩
end
end Go.Proofs.YtkalifgebccpcaaGreatDoor.Q

/-
  The row's step over the calculus of representations.
-/
namespace Go.Proofs.YtkalifgebccpcaaGreatDoor.Q
open Go Go.RowKit
set_option linter.unusedVariables false
theorem frz_size {W w : World} (hw : Frz (ZW W) w) : W.heap.size ≤ w.heap.size := by
  rcases Nat.eq_zero_or_pos W.heap.size with h | h
  · omega
  · have h1 : W.heap[W.heap.size - 1]? = some (W.heap[W.heap.size - 1]'(by omega)) := Array.getElem?_eq_getElem (by omega)
    have := (Array.getElem?_eq_some_iff.1 (hw _ _ h1)).1
    omega
theorem ge_of_env {W : World} (hE : Env W) : GE (ZW W) := fun w hw => by
  have hb : Below W.heap.size W { w with os := W.os, tape := W.tape, output := W.output } := ⟨rfl, rfl, rfl, frz_size hw, fun k hk => by
    have h1 : W.heap[k]? = some (W.heap[k]'hk) := Array.getElem?_eq_getElem hk
    rw [h1]; exact hw k _ h1⟩
  obtain ⟨⟨hp, a, b, hv⟩, hs⟩ := hE.st0 (St.of_below hb)
  exact ⟨⟨hp, a, b, hv⟩, hs⟩
theorem st_start {W : World} (hE : Env W) : St ⟨W, ZW W, [], GE⟩ [] (ZW W) W where
  os := rfl
  tape := rfl
  output := rfl
  size := Nat.le_refl _
  old := fun _ _ _ => rfl
  has := fun _ h => by cases h
  own := fun _ h => by cases h
  dis := .nil
  frz := ZW.frz W
  le := Fz.le.refl _
  new := fun _ _ h => .inl h
  zdis := fun _ h => by cases h
  env := ge_of_env hE
  emono := fun h hg => GE.mono h hg
theorem st_below {W W' : World} {Z Z' : Fz} {E : Fz → Prop} {H : List Ent} (h : St ⟨W, Z, [], E⟩ H Z' W') : Below W.heap.size W W' := ⟨h.os, h.tape, h.output, h.size, fun k hk => h.old k hk (by simp)⟩
end Go.Proofs.YtkalifgebccpcaaGreatDoor.Q

/-
  What functions compute, with checks: plain definitions, printed by a small program of ours (gq.py). No program in sight.
-/
namespace Go.Proofs.YtkalifgebccpcaaGreatDoor.Q
open Go
set_option linter.unusedVariables false
def bCopy0 (l : (List Int)) : Option ((List Int)) :=
  some l

def bWriteByte0 (l : (List Int)) (c : Int) : Option (Unit × (List Int)) :=
  obn (bCopy0 l) fun r1 => chk (inA 1 (r1.length + ([c] : List Int).length)) <| some ((), r1 ++ ([c] : List Int))

def bWriteString0 (l : (List Int)) (s : Str) : Option (Int × Unit × (List Int)) :=
  obn (bCopy0 l) fun r1 => chk (inA 1 (r1.length + s.length)) <| some ((s.length : Int), (), r1 ++ toI s)

def bString0 (l : Str) : Option (Str) :=
  chk (decide (0 < (toI l).length)) <| some l

def bCopy1 (l : (List Int)) : Option ((List Int)) :=
  some l

def bWriteByte1 (l : (List Int)) (c : Int) : Option (Unit × (List Int)) :=
  obn (bCopy1 l) fun r1 => chk (inA 1 (r1.length + ([c] : List Int).length)) <| some ((), r1 ++ ([c] : List Int))

def bWriteString1 (l : (List Int)) (s : Str) : Option (Int × Unit × (List Int)) :=
  obn (bCopy1 l) fun r1 => chk (inA 1 (r1.length + s.length)) <| some ((s.length : Int), (), r1 ++ toI s)

def bString1 (l : Str) : Option (Str) :=
  chk (decide (0 < (toI l).length)) <| some l

end Go.Proofs.YtkalifgebccpcaaGreatDoor.Q

/-
  Walks, printed by a small program of ours (gq.py).
-/
namespace Go.Proofs.YtkalifgebccpcaaGreatDoor.Q
open Go Go.RowKit
set_option linter.unusedVariables false
set_option linter.unusedSimpArgs false
set_option maxRecDepth 100000
set_option maxHeartbeats 4000000
theorem info5 : ∃ inf, Tryz.prog.info? 5 = some inf ∧ inf.zero = some (.int .u8 0) ∧ inf.size = 1 ∧ inf.bytes = 1 := by
  have key : (Tryz.prog.info? 5).map (fun i => (i.zero, i.size, i.bytes)) = some (some (.int .u8 0), 1, 1) := by kernel_rfl
  obtain ⟨inf, h1, h2⟩ := Option.map_eq_some_iff.1 key
  simp only [Prod.mk.injEq] at h2
  exact ⟨inf, h1, h2.1, h2.2.1, h2.2.2⟩
theorem infoN74 : ∃ j, Tryz.prog.info? 74 = some j ∧ j.size ≠ 0 := by
  have key : (Tryz.prog.info? 74).map (fun i => i.size) = some 2 := by kernel_rfl
  obtain ⟨j, h1, h2⟩ := Option.map_eq_some_iff.1 key
  exact ⟨j, h1, by rw [h2]; decide⟩
theorem infoE74 : ∃ j, Tryz.prog.info? 74 = some j := infoN74.imp fun _ h => h.1
theorem bCopy0_w (b_l : Nat) (v_l : Value) (l : (List Int)) (r : (List Int)) (h : bCopy0 l = some r) : Fn Tryz.prog GE 100 [rv (.pointer (some ⟨b_l, 0, none⟩))] [.blk b_l [rv (.pointer none), rv v_l] 74, .row v_l 5 1 (List.map eI_u8 l)] (fun R H => ∃ w0 : Value, R = rv (.tuple #[]) ∧ H = [.blk b_l [rv (.pointer (some ⟨b_l, 0, none⟩)), rv w0] 74, .row w0 5 1 (List.map eI_u8 r)]) := by
 refine enter (n := 20) Tryz.func100 rfl Tryz.ntmps100 rfl (fun w Z => ?_)
 refine wc_as (l' := [(0, rv (.pointer (some ⟨b_l, 0, none⟩)))]) (H' := [.blk b_l [rv (.pointer none), rv v_l] 74, .row v_l 5 1 (List.map eI_u8 l)]) rfl rfl ?_
 unfold bCopy0 at h
 refine wc_sr ?_
 refine wl_v (r := rv (.pointer (some ⟨b_l, 0, none⟩))) (o_move rfl) rfl ?_
 refine wl_v (r := rv (.pointer (some ⟨b_l, 0, none⟩))) (o_nilcheck rfl) rfl ?_
 refine wl_v (r := rv (.pointer (some ⟨b_l, 0, none⟩))) (o_fieldAddr Tryz.underlying74 rfl Tryz.sizeOf71 rfl rfl) rfl ?_
 refine wl_v (r := rv (.pointer none)) (o_load (i := 0) Tryz.isAgg71 rfl rfl rfl) rfl ?_
 refine wl_v (r := rB true) (o_pnil_n ⟨_, Tryz.underlying71⟩ rfl) rfl ?_
 refine wl_x ?_
 refine wc_cond_t rfl rfl ?_
 refine wc_region ?_
 refine wl_v (r := rv (.pointer (some ⟨b_l, 0, none⟩))) (o_move rfl) rfl ?_
 refine wl_v (r := rv (.pointer (some ⟨b_l, 0, none⟩))) (o_move rfl) rfl ?_
 refine wl_v (r := rv (.pointer (some ⟨b_l, 0, none⟩))) (o_to_unsafe (i := 0) Tryz.underlying71 Tryz.underlying112 infoN74 rfl rfl rfl) rfl ?_
 refine wl_v (r := rv (.pointer (some ⟨b_l, 0, none⟩))) (o_noesc Tryz.func107 (by kernel_rfl) (by kernel_rfl) (by kernel_rfl) (by kernel_rfl) rfl) rfl ?_
 refine wl_v (r := rv (.pointer (some ⟨b_l, 0, none⟩))) (o_from_unsafe (i := 0) Tryz.underlying112 Tryz.underlying71 infoE74 rfl rfl (by kernel_rfl)) rfl ?_
 refine wl_v (r := rv (.pointer (some ⟨b_l, 0, none⟩))) (o_nilcheck rfl) rfl ?_
 refine wl_v (r := rv (.pointer (some ⟨b_l, 0, none⟩))) (o_fieldAddr Tryz.underlying74 rfl Tryz.sizeOf71 rfl rfl) rfl ?_
 refine u_store (i := 0) Tryz.sizeOf71 rfl rfl (one_c rfl) rfl rfl (cs' := [rv (.pointer (some ⟨b_l, 0, none⟩)), rv v_l]) rfl (H' := [.blk b_l [rv (.pointer (some ⟨b_l, 0, none⟩)), rv v_l] 74, .row v_l 5 1 (List.map eI_u8 l)]) rfl ?_
 refine wl_nil ?_
 obtain rfl := some_e h
 exact wk_end (r_0 Tryz.results100) (List.Sublist.cons_cons _ (List.Sublist.cons_cons _ List.Sublist.slnil)) ⟨v_l, rfl, rfl⟩

theorem bWriteByte0_w (b_l : Nat) (v_l : Value) (l : (List Int)) (c : Int) (r : Unit × (List Int)) (h : bWriteByte0 l c = some r) : Fn Tryz.prog GE 87 [rv (.pointer (some ⟨b_l, 0, none⟩)), rI .u8 c] [.blk b_l [rv (.pointer none), rv v_l] 74, .row v_l 5 1 (List.map eI_u8 l)] (fun R H => ∃ w0 : Value, R = rv (.nilIface) ∧ H = [.blk b_l [rv (.pointer (some ⟨b_l, 0, none⟩)), rv w0] 74, .row w0 5 1 (List.map eI_u8 r.2)]) := by
 refine enter (n := 17) Tryz.func87 rfl Tryz.ntmps87 rfl (fun w Z => ?_)
 refine wc_as (l' := [(0, rv (.pointer (some ⟨b_l, 0, none⟩))), (1, rI .u8 c)]) (H' := [.blk b_l [rv (.pointer none), rv v_l] 74, .row v_l 5 1 (List.map eI_u8 l)]) rfl rfl ?_
 unfold bWriteByte0 at h
 refine wc_sr ?_
 refine wl_v (r := rv (.nilIface)) (o_assign rfl) rfl ?_
 refine wl_y ?_
 refine wl_v (r := rv (.pointer (some ⟨b_l, 0, none⟩))) (o_move rfl) rfl ?_
 obtain ⟨r1, e3, h2⟩ := obn_e h
 refine w_call (rs := [rv (.pointer (some ⟨b_l, 0, none⟩))]) (Hin := [.blk b_l [rv (.pointer none), rv v_l] 74, .row v_l 5 1 (List.map eI_u8 l)]) (Hr := []) Tryz.call100 rfl (List.Perm.refl _) (bCopy0_w b_l v_l l r1 e3) rfl ?_
 rintro _ _ ⟨v4, rfl, rfl⟩
 refine wl_y ?_
 refine wl_v (r := rv (.pointer (some ⟨b_l, 0, none⟩))) (o_move rfl) rfl ?_
 refine wl_v (r := rv (.pointer (some ⟨b_l, 0, none⟩))) (o_move rfl) rfl ?_
 refine wl_v (r := rv (.pointer (some ⟨b_l, 0, none⟩))) (o_nilcheck rfl) rfl ?_
 refine wl_v (r := rv (.pointer (some ⟨b_l, 1, none⟩))) (o_fieldAddr Tryz.underlying74 rfl Tryz.sizeOf72 rfl rfl) rfl ?_
 refine wl_v (r := rv v4) (o_load (i := 0) Tryz.isAgg72 rfl rfl rfl) rfl ?_
 refine wl_v (r := rI .u8 c) (o_move rfl) rfl ?_
 refine w_buildSlice (ys := ([c] : List Int)) (enc := eI_u8) (css := [[rI .u8 c]]) (xs := [.tmp 12]) Tryz.underlying72 Tryz.sizeOf5 Tryz.zeroValue5 rfl rfl rfl ⟨Cel.one rfl (Up.refl _), trivial⟩ rfl eI_u8_len rfl rfl rfl (fun b5 => ?_)
 obtain ⟨g7, h8⟩ := chk_e h2
 obtain ⟨inf, hinf⟩ := info5
 refine w_append (xs := r1) (ys := ([c] : List Int)) (enc := eI_u8) (i := 2) Tryz.underlying72 hinf.1 hinf.2.1 hinf.2.2.1 hinf.2.2.2 rfl rfl rfl rfl rfl (Src.w (i := 0) rfl rfl) eI_u8_len eI_u8_one g7 rfl (fun v6 => ?_)
 refine wl_v (r := rv (.pointer (some ⟨b_l, 0, none⟩))) (o_nilcheck rfl) rfl ?_
 refine wl_v (r := rv (.pointer (some ⟨b_l, 1, none⟩))) (o_fieldAddr Tryz.underlying74 rfl Tryz.sizeOf72 rfl rfl) rfl ?_
 refine u_store (i := 2) Tryz.sizeOf72 rfl rfl (one_row (i := 0) rfl) rfl rfl (cs' := [rv (.pointer (some ⟨b_l, 0, none⟩)), rv v6]) rfl (H' := [.row v6 5 1 (List.map eI_u8 (r1 ++ ([c] : List Int))), .row (.slice (some ⟨b5, 0, none⟩) 1 1) 5 1 (List.map eI_u8 ([c] : List Int)), .blk b_l [rv (.pointer (some ⟨b_l, 0, none⟩)), rv v6] 74]) rfl ?_
 refine wl_y ?_
 refine wl_v (r := rv (.nilIface)) (o_assign rfl) rfl ?_
 refine wl_x ?_
 refine wc_ret ?_
 refine wk_perm (H2 := [.blk b_l [rv (.pointer (some ⟨b_l, 0, none⟩)), rv v6] 74, .row v6 5 1 (List.map eI_u8 (r1 ++ ([c] : List Int))), .row (.slice (some ⟨b5, 0, none⟩) 1 1) 5 1 (List.map eI_u8 ([c] : List Int))]) ((perm_front (i := 2) rfl).trans (List.Perm.cons _ (List.Perm.refl _))) ?_
 obtain rfl := some_e h8
 exact wk_ret (r_1 Tryz.results87 (rv_t rfl)) (List.Sublist.cons_cons _ (List.Sublist.cons_cons _ (List.Sublist.cons _ List.Sublist.slnil))) ⟨v6, rfl, rfl⟩

theorem bWriteString0_w (b_l : Nat) (v_l : Value) (l : (List Int)) (s : Str) (r : Int × Unit × (List Int)) (h : bWriteString0 l s = some r) : Fn Tryz.prog GE 84 [rv (.pointer (some ⟨b_l, 0, none⟩)), rS s] [.blk b_l [rv (.pointer none), rv v_l] 74, .row v_l 5 1 (List.map eI_u8 l)] (fun R H => ∃ w0 : Value, R = rTup [rI .i64 r.1, rv (.nilIface)] ∧ H = [.blk b_l [rv (.pointer (some ⟨b_l, 0, none⟩)), rv w0] 74, .row w0 5 1 (List.map eI_u8 r.2.2)]) := by
 refine enter (n := 19) Tryz.func84 rfl Tryz.ntmps84 rfl (fun w Z => ?_)
 refine wc_as (l' := [(0, rv (.pointer (some ⟨b_l, 0, none⟩))), (1, rS s)]) (H' := [.blk b_l [rv (.pointer none), rv v_l] 74, .row v_l 5 1 (List.map eI_u8 l)]) rfl rfl ?_
 unfold bWriteString0 at h
 refine wc_sr ?_
 refine wl_v (r := rI .i64 0) (o_assign rfl) rfl ?_
 refine wl_v (r := rv (.nilIface)) (o_assign rfl) rfl ?_
 refine wl_y ?_
 refine wl_v (r := rv (.pointer (some ⟨b_l, 0, none⟩))) (o_move rfl) rfl ?_
 obtain ⟨r1, e3, h2⟩ := obn_e h
 refine w_call (rs := [rv (.pointer (some ⟨b_l, 0, none⟩))]) (Hin := [.blk b_l [rv (.pointer none), rv v_l] 74, .row v_l 5 1 (List.map eI_u8 l)]) (Hr := []) Tryz.call100 rfl (List.Perm.refl _) (bCopy0_w b_l v_l l r1 e3) rfl ?_
 rintro _ _ ⟨v4, rfl, rfl⟩
 refine wl_y ?_
 refine wl_v (r := rv (.pointer (some ⟨b_l, 0, none⟩))) (o_move rfl) rfl ?_
 refine wl_v (r := rv (.pointer (some ⟨b_l, 0, none⟩))) (o_move rfl) rfl ?_
 refine wl_v (r := rv (.pointer (some ⟨b_l, 0, none⟩))) (o_nilcheck rfl) rfl ?_
 refine wl_v (r := rv (.pointer (some ⟨b_l, 1, none⟩))) (o_fieldAddr Tryz.underlying74 rfl Tryz.sizeOf72 rfl rfl) rfl ?_
 refine wl_v (r := rv v4) (o_load (i := 0) Tryz.isAgg72 rfl rfl rfl) rfl ?_
 refine wl_v (r := rS s) (o_move rfl) rfl ?_
 obtain ⟨g6, h7⟩ := chk_e h2
 obtain ⟨inf, hinf⟩ := info5
 refine w_append_str (xs := r1) (i := 1) Tryz.underlying72 Tryz.underlying9 hinf.1 hinf.2.1 hinf.2.2.1 hinf.2.2.2 rfl rfl rfl g6 rfl (fun v5 => ?_)
 refine wl_v (r := rv (.pointer (some ⟨b_l, 0, none⟩))) (o_nilcheck rfl) rfl ?_
 refine wl_v (r := rv (.pointer (some ⟨b_l, 1, none⟩))) (o_fieldAddr Tryz.underlying74 rfl Tryz.sizeOf72 rfl rfl) rfl ?_
 refine u_store (i := 1) Tryz.sizeOf72 rfl rfl (one_row (i := 0) rfl) rfl rfl (cs' := [rv (.pointer (some ⟨b_l, 0, none⟩)), rv v5]) rfl (H' := [.row v5 5 1 (List.map eI_u8 (r1 ++ toI s)), .blk b_l [rv (.pointer (some ⟨b_l, 0, none⟩)), rv v5] 74]) rfl ?_
 refine wl_y ?_
 refine wl_v (r := rS s) (o_move rfl) rfl ?_
 refine wl_v (r := rI .i64 (s.length : Int)) (o_len_s Tryz.underlying9 rfl) rfl ?_
 refine wl_v (r := rI .i64 (s.length : Int)) (o_assign rfl) rfl ?_
 refine wl_v (r := rv (.nilIface)) (o_assign rfl) rfl ?_
 refine wl_x ?_
 refine wc_ret ?_
 refine wk_perm (H2 := [.blk b_l [rv (.pointer (some ⟨b_l, 0, none⟩)), rv v5] 74, .row v5 5 1 (List.map eI_u8 (r1 ++ toI s))]) ((perm_front (i := 1) rfl).trans (List.Perm.cons _ (List.Perm.refl _))) ?_
 obtain rfl := some_e h7
 exact wk_ret (r_2 Tryz.results84 (rv_t rfl) (rv_t rfl)) (List.Sublist.cons_cons _ (List.Sublist.cons_cons _ List.Sublist.slnil)) ⟨v5, rfl, rfl⟩

theorem bString0_w (b_l : Nat) (v_l : Value) (l : Str) (r : Str) (h : bString0 l = some r) : Fn Tryz.prog GE 62 [rv (.pointer (some ⟨b_l, 0, none⟩))] [.blk b_l [rv (.pointer none), rv v_l] 74, .row v_l 5 1 (List.map eI_u8 (toI l))] (fun R H => R = rS r ∧ H = []) := by
 refine enter (n := 14) Tryz.func62 rfl Tryz.ntmps62 rfl (fun w Z => ?_)
 refine wc_as (l' := [(0, rv (.pointer (some ⟨b_l, 0, none⟩)))]) (H' := [.blk b_l [rv (.pointer none), rv v_l] 74, .row v_l 5 1 (List.map eI_u8 (toI l))]) rfl rfl ?_
 unfold bString0 at h
 refine wc_sr ?_
 refine wl_v (r := rS ([] : Str)) (o_assign rfl) rfl ?_
 refine wl_x ?_
 refine wc_seq ?_
 obtain ⟨g1, h2⟩ := chk_e h
 refine wc_rd [⟨[], rv (.pointer (some ⟨b_l, 0, none⟩)), 0⟩, ⟨[0], rv (.pointer (some ⟨b_l, 0, none⟩)), 0⟩, ⟨[1], rv (.pointer (some ⟨b_l, 1, none⟩)), 0⟩, ⟨[2], rv v_l, 1⟩, ⟨[3], rv (slp v_l), 1⟩, ⟨[], rv (.pointer (some ⟨b_l, 0, none⟩)), 0⟩, ⟨[5], rv (.pointer (some ⟨b_l, 0, none⟩)), 0⟩, ⟨[6], rv (.pointer (some ⟨b_l, 1, none⟩)), 0⟩, ⟨[7], rv v_l, 1⟩, ⟨[8], rI .i64 ((toI l).length : Int), 1⟩, ⟨[4, 9], rS l, 2⟩, ⟨[10], rS l, 0⟩] (rle [(11, [.blk b_l [rv (.pointer none), rv v_l] 74, .row v_l 5 1 (List.map eI_u8 (toI l))]), (2, [.blk b_l [rv (.pointer none), rv v_l] 74])]) [(0, rv (.pointer (some ⟨b_l, 0, none⟩)))] (by kernel_rfl) (by kernel_rfl) (Sub.c rfl Sub.nil) rfl rfl ?_ ?_
 ·refine obl_q rfl (fun H => ok_v (r := rv (.pointer (some ⟨b_l, 0, none⟩))) (o_move rfl)) ?_
  refine obl_q rfl (fun H => ok_v (r := rv (.pointer (some ⟨b_l, 0, none⟩))) (o_nilcheck rfl)) ?_
  refine obl_q rfl (fun H => ok_v (r := rv (.pointer (some ⟨b_l, 1, none⟩))) (o_fieldAddr Tryz.underlying74 rfl Tryz.sizeOf72 rfl rfl)) ?_
  refine obl_f rfl (ok_v (r := rv v_l) (o_load (i := 0) Tryz.isAgg72 rfl rfl rfl)) ?_
  refine obl_f rfl (ok_v (r := rv (slp v_l)) (o_sliceData (i := 1) rfl rfl (pos_map g1))) ?_
  refine obl_q rfl (fun H => ok_v (r := rv (.pointer (some ⟨b_l, 0, none⟩))) (o_move rfl)) ?_
  refine obl_q rfl (fun H => ok_v (r := rv (.pointer (some ⟨b_l, 0, none⟩))) (o_nilcheck rfl)) ?_
  refine obl_q rfl (fun H => ok_v (r := rv (.pointer (some ⟨b_l, 1, none⟩))) (o_fieldAddr Tryz.underlying74 rfl Tryz.sizeOf72 rfl rfl)) ?_
  refine obl_f rfl (ok_v (r := rv v_l) (o_load (i := 0) Tryz.isAgg72 rfl rfl rfl)) ?_
  refine obl_f rfl (ok_v (r := rI .i64 ((toI l).length : Int)) (o_len_wt (ys := toI l) (enc := eI_u8) (i := 1) Tryz.underlying72 rfl rfl)) ?_
  refine obl_l rfl (ok_w (V_unsafeString (i := 1) Tryz.underlying99 (by kernel_rfl) rfl rfl rfl (pos_map g1) rfl)) ?_
  refine obl_q rfl (fun H => ok_v (r := rS l) (o_assign rfl)) ?_
  exact obl_e
 refine wk_as (l' := [(3, rv (.pointer (some ⟨b_l, 0, none⟩))), (4, rv (.pointer (some ⟨b_l, 0, none⟩))), (5, rv (.pointer (some ⟨b_l, 1, none⟩))), (6, rv v_l), (7, rv (slp v_l)), (8, rv (.pointer (some ⟨b_l, 0, none⟩))), (9, rv (.pointer (some ⟨b_l, 0, none⟩))), (10, rv (.pointer (some ⟨b_l, 1, none⟩))), (11, rv v_l), (12, rI .i64 ((toI l).length : Int)), (13, rS l), (2, rS l), (0, rv (.pointer (some ⟨b_l, 0, none⟩)))]) (H' := [.blk b_l [rv (.pointer none), rv v_l] 74]) rfl rfl ?_
 refine wk_x ?_
 refine wc_ret ?_
 obtain rfl := some_e h2
 exact wk_ret (r_1 Tryz.results62 (rv_t rfl)) (List.Sublist.cons _ List.Sublist.slnil) ⟨rfl, rfl⟩

theorem bCopy1_w (b_l : Nat) (v_l : Value) (l : (List Int)) (r : (List Int)) (h : bCopy1 l = some r) : Fn Tryz.prog GE 100 [rv (.pointer (some ⟨b_l, 0, none⟩))] [.blk b_l [rv (.pointer (some ⟨b_l, 0, none⟩)), rv v_l] 74, .row v_l 5 1 (List.map eI_u8 l)] (fun R H => ∃ w0 : Value, R = rv (.tuple #[]) ∧ H = [.blk b_l [rv (.pointer (some ⟨b_l, 0, none⟩)), rv w0] 74, .row w0 5 1 (List.map eI_u8 r)]) := by
 refine enter (n := 20) Tryz.func100 rfl Tryz.ntmps100 rfl (fun w Z => ?_)
 refine wc_as (l' := [(0, rv (.pointer (some ⟨b_l, 0, none⟩)))]) (H' := [.blk b_l [rv (.pointer (some ⟨b_l, 0, none⟩)), rv v_l] 74, .row v_l 5 1 (List.map eI_u8 l)]) rfl rfl ?_
 unfold bCopy1 at h
 refine wc_sr ?_
 refine wl_v (r := rv (.pointer (some ⟨b_l, 0, none⟩))) (o_move rfl) rfl ?_
 refine wl_v (r := rv (.pointer (some ⟨b_l, 0, none⟩))) (o_nilcheck rfl) rfl ?_
 refine wl_v (r := rv (.pointer (some ⟨b_l, 0, none⟩))) (o_fieldAddr Tryz.underlying74 rfl Tryz.sizeOf71 rfl rfl) rfl ?_
 refine wl_v (r := rv (.pointer (some ⟨b_l, 0, none⟩))) (o_load (i := 0) Tryz.isAgg71 rfl rfl rfl) rfl ?_
 refine wl_v (r := rB false) (o_pnil ⟨_, Tryz.underlying71⟩ rfl) rfl ?_
 refine wl_x ?_
 refine wc_cond_f rfl rfl ?_
 refine wc_sr ?_
 refine wl_v (r := rv (.pointer (some ⟨b_l, 0, none⟩))) (o_move rfl) rfl ?_
 refine wl_v (r := rv (.pointer (some ⟨b_l, 0, none⟩))) (o_nilcheck rfl) rfl ?_
 refine wl_v (r := rv (.pointer (some ⟨b_l, 0, none⟩))) (o_fieldAddr Tryz.underlying74 rfl Tryz.sizeOf71 rfl rfl) rfl ?_
 refine wl_v (r := rv (.pointer (some ⟨b_l, 0, none⟩))) (o_load (i := 0) Tryz.isAgg71 rfl rfl rfl) rfl ?_
 refine wl_v (r := rv (.pointer (some ⟨b_l, 0, none⟩))) (o_move rfl) rfl ?_
 refine wl_v (r := rB false) (o_psame_ne Tryz.underlying71 infoE74 rfl rfl) rfl ?_
 refine wl_x ?_
 refine wc_cond_f rfl rfl ?_
 refine wc_skip ?_
 obtain rfl := some_e h
 exact wk_end (r_0 Tryz.results100) (List.Sublist.cons_cons _ (List.Sublist.cons_cons _ List.Sublist.slnil)) ⟨v_l, rfl, rfl⟩

theorem bWriteByte1_w (b_l : Nat) (v_l : Value) (l : (List Int)) (c : Int) (r : Unit × (List Int)) (h : bWriteByte1 l c = some r) : Fn Tryz.prog GE 87 [rv (.pointer (some ⟨b_l, 0, none⟩)), rI .u8 c] [.blk b_l [rv (.pointer (some ⟨b_l, 0, none⟩)), rv v_l] 74, .row v_l 5 1 (List.map eI_u8 l)] (fun R H => ∃ w0 : Value, R = rv (.nilIface) ∧ H = [.blk b_l [rv (.pointer (some ⟨b_l, 0, none⟩)), rv w0] 74, .row w0 5 1 (List.map eI_u8 r.2)]) := by
 refine enter (n := 17) Tryz.func87 rfl Tryz.ntmps87 rfl (fun w Z => ?_)
 refine wc_as (l' := [(0, rv (.pointer (some ⟨b_l, 0, none⟩))), (1, rI .u8 c)]) (H' := [.blk b_l [rv (.pointer (some ⟨b_l, 0, none⟩)), rv v_l] 74, .row v_l 5 1 (List.map eI_u8 l)]) rfl rfl ?_
 unfold bWriteByte1 at h
 refine wc_sr ?_
 refine wl_v (r := rv (.nilIface)) (o_assign rfl) rfl ?_
 refine wl_y ?_
 refine wl_v (r := rv (.pointer (some ⟨b_l, 0, none⟩))) (o_move rfl) rfl ?_
 obtain ⟨r1, e3, h2⟩ := obn_e h
 refine w_call (rs := [rv (.pointer (some ⟨b_l, 0, none⟩))]) (Hin := [.blk b_l [rv (.pointer (some ⟨b_l, 0, none⟩)), rv v_l] 74, .row v_l 5 1 (List.map eI_u8 l)]) (Hr := []) Tryz.call100 rfl (List.Perm.refl _) (bCopy1_w b_l v_l l r1 e3) rfl ?_
 rintro _ _ ⟨v4, rfl, rfl⟩
 refine wl_y ?_
 refine wl_v (r := rv (.pointer (some ⟨b_l, 0, none⟩))) (o_move rfl) rfl ?_
 refine wl_v (r := rv (.pointer (some ⟨b_l, 0, none⟩))) (o_move rfl) rfl ?_
 refine wl_v (r := rv (.pointer (some ⟨b_l, 0, none⟩))) (o_nilcheck rfl) rfl ?_
 refine wl_v (r := rv (.pointer (some ⟨b_l, 1, none⟩))) (o_fieldAddr Tryz.underlying74 rfl Tryz.sizeOf72 rfl rfl) rfl ?_
 refine wl_v (r := rv v4) (o_load (i := 0) Tryz.isAgg72 rfl rfl rfl) rfl ?_
 refine wl_v (r := rI .u8 c) (o_move rfl) rfl ?_
 refine w_buildSlice (ys := ([c] : List Int)) (enc := eI_u8) (css := [[rI .u8 c]]) (xs := [.tmp 12]) Tryz.underlying72 Tryz.sizeOf5 Tryz.zeroValue5 rfl rfl rfl ⟨Cel.one rfl (Up.refl _), trivial⟩ rfl eI_u8_len rfl rfl rfl (fun b5 => ?_)
 obtain ⟨g7, h8⟩ := chk_e h2
 obtain ⟨inf, hinf⟩ := info5
 refine w_append (xs := r1) (ys := ([c] : List Int)) (enc := eI_u8) (i := 2) Tryz.underlying72 hinf.1 hinf.2.1 hinf.2.2.1 hinf.2.2.2 rfl rfl rfl rfl rfl (Src.w (i := 0) rfl rfl) eI_u8_len eI_u8_one g7 rfl (fun v6 => ?_)
 refine wl_v (r := rv (.pointer (some ⟨b_l, 0, none⟩))) (o_nilcheck rfl) rfl ?_
 refine wl_v (r := rv (.pointer (some ⟨b_l, 1, none⟩))) (o_fieldAddr Tryz.underlying74 rfl Tryz.sizeOf72 rfl rfl) rfl ?_
 refine u_store (i := 2) Tryz.sizeOf72 rfl rfl (one_row (i := 0) rfl) rfl rfl (cs' := [rv (.pointer (some ⟨b_l, 0, none⟩)), rv v6]) rfl (H' := [.row v6 5 1 (List.map eI_u8 (r1 ++ ([c] : List Int))), .row (.slice (some ⟨b5, 0, none⟩) 1 1) 5 1 (List.map eI_u8 ([c] : List Int)), .blk b_l [rv (.pointer (some ⟨b_l, 0, none⟩)), rv v6] 74]) rfl ?_
 refine wl_y ?_
 refine wl_v (r := rv (.nilIface)) (o_assign rfl) rfl ?_
 refine wl_x ?_
 refine wc_ret ?_
 refine wk_perm (H2 := [.blk b_l [rv (.pointer (some ⟨b_l, 0, none⟩)), rv v6] 74, .row v6 5 1 (List.map eI_u8 (r1 ++ ([c] : List Int))), .row (.slice (some ⟨b5, 0, none⟩) 1 1) 5 1 (List.map eI_u8 ([c] : List Int))]) ((perm_front (i := 2) rfl).trans (List.Perm.cons _ (List.Perm.refl _))) ?_
 obtain rfl := some_e h8
 exact wk_ret (r_1 Tryz.results87 (rv_t rfl)) (List.Sublist.cons_cons _ (List.Sublist.cons_cons _ (List.Sublist.cons _ List.Sublist.slnil))) ⟨v6, rfl, rfl⟩

theorem bWriteString1_w (b_l : Nat) (v_l : Value) (l : (List Int)) (s : Str) (r : Int × Unit × (List Int)) (h : bWriteString1 l s = some r) : Fn Tryz.prog GE 84 [rv (.pointer (some ⟨b_l, 0, none⟩)), rS s] [.blk b_l [rv (.pointer (some ⟨b_l, 0, none⟩)), rv v_l] 74, .row v_l 5 1 (List.map eI_u8 l)] (fun R H => ∃ w0 : Value, R = rTup [rI .i64 r.1, rv (.nilIface)] ∧ H = [.blk b_l [rv (.pointer (some ⟨b_l, 0, none⟩)), rv w0] 74, .row w0 5 1 (List.map eI_u8 r.2.2)]) := by
 refine enter (n := 19) Tryz.func84 rfl Tryz.ntmps84 rfl (fun w Z => ?_)
 refine wc_as (l' := [(0, rv (.pointer (some ⟨b_l, 0, none⟩))), (1, rS s)]) (H' := [.blk b_l [rv (.pointer (some ⟨b_l, 0, none⟩)), rv v_l] 74, .row v_l 5 1 (List.map eI_u8 l)]) rfl rfl ?_
 unfold bWriteString1 at h
 refine wc_sr ?_
 refine wl_v (r := rI .i64 0) (o_assign rfl) rfl ?_
 refine wl_v (r := rv (.nilIface)) (o_assign rfl) rfl ?_
 refine wl_y ?_
 refine wl_v (r := rv (.pointer (some ⟨b_l, 0, none⟩))) (o_move rfl) rfl ?_
 obtain ⟨r1, e3, h2⟩ := obn_e h
 refine w_call (rs := [rv (.pointer (some ⟨b_l, 0, none⟩))]) (Hin := [.blk b_l [rv (.pointer (some ⟨b_l, 0, none⟩)), rv v_l] 74, .row v_l 5 1 (List.map eI_u8 l)]) (Hr := []) Tryz.call100 rfl (List.Perm.refl _) (bCopy1_w b_l v_l l r1 e3) rfl ?_
 rintro _ _ ⟨v4, rfl, rfl⟩
 refine wl_y ?_
 refine wl_v (r := rv (.pointer (some ⟨b_l, 0, none⟩))) (o_move rfl) rfl ?_
 refine wl_v (r := rv (.pointer (some ⟨b_l, 0, none⟩))) (o_move rfl) rfl ?_
 refine wl_v (r := rv (.pointer (some ⟨b_l, 0, none⟩))) (o_nilcheck rfl) rfl ?_
 refine wl_v (r := rv (.pointer (some ⟨b_l, 1, none⟩))) (o_fieldAddr Tryz.underlying74 rfl Tryz.sizeOf72 rfl rfl) rfl ?_
 refine wl_v (r := rv v4) (o_load (i := 0) Tryz.isAgg72 rfl rfl rfl) rfl ?_
 refine wl_v (r := rS s) (o_move rfl) rfl ?_
 obtain ⟨g6, h7⟩ := chk_e h2
 obtain ⟨inf, hinf⟩ := info5
 refine w_append_str (xs := r1) (i := 1) Tryz.underlying72 Tryz.underlying9 hinf.1 hinf.2.1 hinf.2.2.1 hinf.2.2.2 rfl rfl rfl g6 rfl (fun v5 => ?_)
 refine wl_v (r := rv (.pointer (some ⟨b_l, 0, none⟩))) (o_nilcheck rfl) rfl ?_
 refine wl_v (r := rv (.pointer (some ⟨b_l, 1, none⟩))) (o_fieldAddr Tryz.underlying74 rfl Tryz.sizeOf72 rfl rfl) rfl ?_
 refine u_store (i := 1) Tryz.sizeOf72 rfl rfl (one_row (i := 0) rfl) rfl rfl (cs' := [rv (.pointer (some ⟨b_l, 0, none⟩)), rv v5]) rfl (H' := [.row v5 5 1 (List.map eI_u8 (r1 ++ toI s)), .blk b_l [rv (.pointer (some ⟨b_l, 0, none⟩)), rv v5] 74]) rfl ?_
 refine wl_y ?_
 refine wl_v (r := rS s) (o_move rfl) rfl ?_
 refine wl_v (r := rI .i64 (s.length : Int)) (o_len_s Tryz.underlying9 rfl) rfl ?_
 refine wl_v (r := rI .i64 (s.length : Int)) (o_assign rfl) rfl ?_
 refine wl_v (r := rv (.nilIface)) (o_assign rfl) rfl ?_
 refine wl_x ?_
 refine wc_ret ?_
 refine wk_perm (H2 := [.blk b_l [rv (.pointer (some ⟨b_l, 0, none⟩)), rv v5] 74, .row v5 5 1 (List.map eI_u8 (r1 ++ toI s))]) ((perm_front (i := 1) rfl).trans (List.Perm.cons _ (List.Perm.refl _))) ?_
 obtain rfl := some_e h7
 exact wk_ret (r_2 Tryz.results84 (rv_t rfl) (rv_t rfl)) (List.Sublist.cons_cons _ (List.Sublist.cons_cons _ List.Sublist.slnil)) ⟨v5, rfl, rfl⟩

theorem bString1_w (b_l : Nat) (v_l : Value) (l : Str) (r : Str) (h : bString1 l = some r) : Fn Tryz.prog GE 62 [rv (.pointer (some ⟨b_l, 0, none⟩))] [.blk b_l [rv (.pointer (some ⟨b_l, 0, none⟩)), rv v_l] 74, .row v_l 5 1 (List.map eI_u8 (toI l))] (fun R H => R = rS r ∧ H = []) := by
 refine enter (n := 14) Tryz.func62 rfl Tryz.ntmps62 rfl (fun w Z => ?_)
 refine wc_as (l' := [(0, rv (.pointer (some ⟨b_l, 0, none⟩)))]) (H' := [.blk b_l [rv (.pointer (some ⟨b_l, 0, none⟩)), rv v_l] 74, .row v_l 5 1 (List.map eI_u8 (toI l))]) rfl rfl ?_
 unfold bString1 at h
 refine wc_sr ?_
 refine wl_v (r := rS ([] : Str)) (o_assign rfl) rfl ?_
 refine wl_x ?_
 refine wc_seq ?_
 obtain ⟨g1, h2⟩ := chk_e h
 refine wc_rd [⟨[], rv (.pointer (some ⟨b_l, 0, none⟩)), 0⟩, ⟨[0], rv (.pointer (some ⟨b_l, 0, none⟩)), 0⟩, ⟨[1], rv (.pointer (some ⟨b_l, 1, none⟩)), 0⟩, ⟨[2], rv v_l, 1⟩, ⟨[3], rv (slp v_l), 1⟩, ⟨[], rv (.pointer (some ⟨b_l, 0, none⟩)), 0⟩, ⟨[5], rv (.pointer (some ⟨b_l, 0, none⟩)), 0⟩, ⟨[6], rv (.pointer (some ⟨b_l, 1, none⟩)), 0⟩, ⟨[7], rv v_l, 1⟩, ⟨[8], rI .i64 ((toI l).length : Int), 1⟩, ⟨[4, 9], rS l, 2⟩, ⟨[10], rS l, 0⟩] (rle [(11, [.blk b_l [rv (.pointer (some ⟨b_l, 0, none⟩)), rv v_l] 74, .row v_l 5 1 (List.map eI_u8 (toI l))]), (2, [.blk b_l [rv (.pointer (some ⟨b_l, 0, none⟩)), rv v_l] 74])]) [(0, rv (.pointer (some ⟨b_l, 0, none⟩)))] (by kernel_rfl) (by kernel_rfl) (Sub.c rfl Sub.nil) rfl rfl ?_ ?_
 ·refine obl_q rfl (fun H => ok_v (r := rv (.pointer (some ⟨b_l, 0, none⟩))) (o_move rfl)) ?_
  refine obl_q rfl (fun H => ok_v (r := rv (.pointer (some ⟨b_l, 0, none⟩))) (o_nilcheck rfl)) ?_
  refine obl_q rfl (fun H => ok_v (r := rv (.pointer (some ⟨b_l, 1, none⟩))) (o_fieldAddr Tryz.underlying74 rfl Tryz.sizeOf72 rfl rfl)) ?_
  refine obl_f rfl (ok_v (r := rv v_l) (o_load (i := 0) Tryz.isAgg72 rfl rfl rfl)) ?_
  refine obl_f rfl (ok_v (r := rv (slp v_l)) (o_sliceData (i := 1) rfl rfl (pos_map g1))) ?_
  refine obl_q rfl (fun H => ok_v (r := rv (.pointer (some ⟨b_l, 0, none⟩))) (o_move rfl)) ?_
  refine obl_q rfl (fun H => ok_v (r := rv (.pointer (some ⟨b_l, 0, none⟩))) (o_nilcheck rfl)) ?_
  refine obl_q rfl (fun H => ok_v (r := rv (.pointer (some ⟨b_l, 1, none⟩))) (o_fieldAddr Tryz.underlying74 rfl Tryz.sizeOf72 rfl rfl)) ?_
  refine obl_f rfl (ok_v (r := rv v_l) (o_load (i := 0) Tryz.isAgg72 rfl rfl rfl)) ?_
  refine obl_f rfl (ok_v (r := rI .i64 ((toI l).length : Int)) (o_len_wt (ys := toI l) (enc := eI_u8) (i := 1) Tryz.underlying72 rfl rfl)) ?_
  refine obl_l rfl (ok_w (V_unsafeString (i := 1) Tryz.underlying99 (by kernel_rfl) rfl rfl rfl (pos_map g1) rfl)) ?_
  refine obl_q rfl (fun H => ok_v (r := rS l) (o_assign rfl)) ?_
  exact obl_e
 refine wk_as (l' := [(3, rv (.pointer (some ⟨b_l, 0, none⟩))), (4, rv (.pointer (some ⟨b_l, 0, none⟩))), (5, rv (.pointer (some ⟨b_l, 1, none⟩))), (6, rv v_l), (7, rv (slp v_l)), (8, rv (.pointer (some ⟨b_l, 0, none⟩))), (9, rv (.pointer (some ⟨b_l, 0, none⟩))), (10, rv (.pointer (some ⟨b_l, 1, none⟩))), (11, rv v_l), (12, rI .i64 ((toI l).length : Int)), (13, rS l), (2, rS l), (0, rv (.pointer (some ⟨b_l, 0, none⟩)))]) (H' := [.blk b_l [rv (.pointer (some ⟨b_l, 0, none⟩)), rv v_l] 74]) rfl rfl ?_
 refine wk_x ?_
 refine wc_ret ?_
 obtain rfl := some_e h2
 exact wk_ret (r_1 Tryz.results62 (rv_t rfl)) (List.Sublist.cons _ List.Sublist.slnil) ⟨rfl, rfl⟩

theorem writeByte_q (b : Nat) (v : Value) (l : Str) (c : Int) (g1 : inA 1 (l.length + 1) = true) (g2 : inK .u8 c = true) : Fn Tryz.prog GE 87 [rv (.pointer (some ⟨b, 0, none⟩)), rI .u8 c] [.bld 74 5 b v l] (fun R H => ∃ w0 : Value, R = rv .nilIface ∧ H = [.bld 74 5 b w0 (l ++ [UInt8.ofNat c.toNat])]) := by
  have hc : toI (l ++ [UInt8.ofNat c.toNat]) = toI l ++ [c] := by
    have := (by simpa [inK, IntKind.min, IntKind.max, IntKind.signed, IntKind.bits] using g2 : 0 ≤ c ∧ c ≤ 255)
    simp only [toI, List.map_append, List.map_cons, List.map_nil]
    congr 2
    simp; omega
  refine Fn.bld (res := rv .nilIface) fun p hp => ?_
  rw [hc]
  rcases hp with rfl | rfl
  · refine (bWriteByte0_w b v (toI l) c (((), toI l ++ [c])) ?_).sub (RleAll.refl _) (fun r H h => by obtain ⟨w0, h1, h2⟩ := h; exact ⟨w0, h1, h2⟩)
    simp only [bWriteByte0, bCopy0, obn, toI_len]
    simp [chk, g1]
  · refine (bWriteByte1_w b v (toI l) c (((), toI l ++ [c])) ?_).sub (RleAll.refl _) (fun r H h => by obtain ⟨w0, h1, h2⟩ := h; exact ⟨w0, h1, h2⟩)
    simp only [bWriteByte1, bCopy1, obn, toI_len]
    simp [chk, g1]
theorem writeString_q (b : Nat) (v : Value) (l s : Str) (g1 : inA 1 (l.length + s.length) = true) : Fn Tryz.prog GE 84 [rv (.pointer (some ⟨b, 0, none⟩)), rS s] [.bld 74 5 b v l] (fun R H => ∃ w0 : Value, R = rTup [rI .i64 (s.length : Int), rv .nilIface] ∧ H = [.bld 74 5 b w0 (l ++ s)]) := by
  have hc : toI (l ++ s) = toI l ++ toI s := by simp [toI]
  refine Fn.bld (res := rTup [rI .i64 (s.length : Int), rv .nilIface]) fun p hp => ?_
  rw [hc]
  rcases hp with rfl | rfl
  · refine (bWriteString0_w b v (toI l) s (((s.length : Int), (), toI l ++ toI s)) ?_).sub (RleAll.refl _) (fun r H h => by obtain ⟨w0, h1, h2⟩ := h; exact ⟨w0, h1, h2⟩)
    simp only [bWriteString0, bCopy0, obn, toI_len]
    simp [chk, g1]
  · refine (bWriteString1_w b v (toI l) s (((s.length : Int), (), toI l ++ toI s)) ?_).sub (RleAll.refl _) (fun r H h => by obtain ⟨w0, h1, h2⟩ := h; exact ⟨w0, h1, h2⟩)
    simp only [bWriteString1, bCopy1, obn, toI_len]
    simp [chk, g1]
theorem bstring_q (b : Nat) (v : Value) (l : Str) (g1 : decide (0 < l.length) = true) : Fn Tryz.prog GE 62 [rv (.pointer (some ⟨b, 0, none⟩))] [.bld 74 5 b v l] (fun R H => R = rS l ∧ H = []) := by
  refine Fn.bldS (res := rS l) fun p hp => ?_
  rcases hp with rfl | rfl
  · exact bString0_w b v l l (by simp only [bString0, toI_len]; simp [chk, g1])
  · exact bString1_w b v l l (by simp only [bString1, toI_len]; simp [chk, g1])

end Go.Proofs.YtkalifgebccpcaaGreatDoor.Q

/-
  What functions compute, with checks: plain definitions, printed by a small program of ours (gq.py). No program in sight.
-/
namespace Go.Proofs.YtkalifgebccpcaaGreatDoor
open Go
set_option linter.unusedVariables false
structure TApiCell where
  fKind : Int
  fInt : Int
  fStr : Str
  fN : Int
  deriving DecidableEq, Inhabited
def rPlain_b1 (s : Str) (x22 : Int) : Option (Stp (Int) (Out (Bool) (Unit))) :=
  cnd (decide (x22 < (s.length : Int))) (chk (inR x22 (s.length : Int)) <| cnd (((decide ((bat s x22) < 32)) || (decide (126 < (bat s x22))))) (some (.out (.ret false))) (chk (inK .i64 (x22 + 1)) <| some (.next (x22 + 1)))) (some (.out (.go ())))

def rPlain_k1  : Option (Bool) :=
  some true

def rPlain (F : Nat) (s : Str) : Option (Bool) :=
  obn (lop (fun σ => rPlain_b1 s σ) F 0) (oute fun ν => rPlain_k1 )

def rAfter (ok : Bool) (i : Int) : Option (Int) :=
  cnd (ok) (chk (inK .i64 (i + 1)) <| some (i + 1)) (some (-1))

def rKey (F : Nat) (c : TApiCell) : Option (Bool) :=
  chk (imp (decide (c.fKind = 4)) (imp (decide (c.fInt = 0)) (imp (decide (c.fN = 0)) ((rPlain F c.fStr).isSome)))) <| some ((decide (c.fKind = 4)) && ((decide (c.fInt = 0)) && ((decide (c.fN = 0)) && (ov (rPlain F c.fStr)))))

def rNextm (F : Nat) (rec_rElements : (List TApiCell) → Int → Int → Option (Int)) (rec_rPairs : (List TApiCell) → Int → Int → Option (Int)) (v : (List TApiCell)) (i : Int) : Option (Int) :=
  cnd (((decide (i < 0)) || (decide ((v.length : Int) ≤ i)))) (some (-1)) (chk (inR i (v.length : Int)) <| cnd (decide (((at' v i).fKind) = 1)) (chk (imp (decide (((at' v i).fInt) = 0)) (imp (decide (((at' v i).fStr) = ([] : Str))) ((rAfter (decide (((at' v i).fN) = 0)) i).isSome))) <| chk (imp (decide (((at' v i).fInt) = 0)) (imp (!(decide (((at' v i).fStr) = ([] : Str)))) ((rAfter false i).isSome))) <| chk (imp (!(decide (((at' v i).fInt) = 0))) ((rAfter false i).isSome)) <| some (bif decide (((at' v i).fInt) = 0) then (bif decide (((at' v i).fStr) = ([] : Str)) then (ov (rAfter (decide (((at' v i).fN) = 0)) i)) else (ov (rAfter false i))) else (ov (rAfter false i)))) (cnd (decide (((at' v i).fKind) = 2)) (chk (imp (decide (((at' v i).fInt) = 0)) (imp (decide (((at' v i).fStr) = ([] : Str))) ((rAfter (decide (((at' v i).fN) = 0)) i).isSome))) <| chk (imp (decide (((at' v i).fInt) = 0)) (imp (!(decide (((at' v i).fStr) = ([] : Str)))) ((rAfter false i).isSome))) <| chk (imp (!(decide (((at' v i).fInt) = 0))) (imp (decide (((at' v i).fInt) = 1)) (imp (decide (((at' v i).fStr) = ([] : Str))) ((rAfter (decide (((at' v i).fN) = 0)) i).isSome)))) <| chk (imp (!(decide (((at' v i).fInt) = 0))) (imp (decide (((at' v i).fInt) = 1)) (imp (!(decide (((at' v i).fStr) = ([] : Str)))) ((rAfter false i).isSome)))) <| chk (imp (!(decide (((at' v i).fInt) = 0))) (imp (!(decide (((at' v i).fInt) = 1))) ((rAfter false i).isSome))) <| some (bif decide (((at' v i).fInt) = 0) then (bif decide (((at' v i).fStr) = ([] : Str)) then (ov (rAfter (decide (((at' v i).fN) = 0)) i)) else (ov (rAfter false i))) else (bif decide (((at' v i).fInt) = 1) then (bif decide (((at' v i).fStr) = ([] : Str)) then (ov (rAfter (decide (((at' v i).fN) = 0)) i)) else (ov (rAfter false i))) else (ov (rAfter false i))))) (cnd (decide (((at' v i).fKind) = 3)) (chk (imp (decide (((at' v i).fStr) = ([] : Str))) ((rAfter (decide (((at' v i).fN) = 0)) i).isSome)) <| chk (imp (!(decide (((at' v i).fStr) = ([] : Str)))) ((rAfter false i).isSome)) <| some (bif decide (((at' v i).fStr) = ([] : Str)) then (ov (rAfter (decide (((at' v i).fN) = 0)) i)) else (ov (rAfter false i)))) (cnd (decide (((at' v i).fKind) = 4)) (obn (rKey F (at' v i)) fun r46 => obn (rAfter r46 i) fun r49 => some r49) (cnd (((decide (((at' v i).fKind) = 5)) && ((decide (((at' v i).fInt) = 0)) && ((decide (((at' v i).fStr) = ([] : Str))) && (decide (0 ≤ ((at' v i).fN))))))) (chk (inK .i64 (i + 1)) <| obn (rec_rElements v (i + 1) ((at' v i).fN)) fun r60 => some r60) (cnd (((decide (((at' v i).fKind) = 6)) && ((decide (((at' v i).fInt) = 0)) && ((decide (((at' v i).fStr) = ([] : Str))) && (decide (0 ≤ ((at' v i).fN))))))) (chk (inK .i64 (i + 1)) <| obn (rec_rPairs v (i + 1) ((at' v i).fN)) fun r71 => some r71) (some (-1))))))))

def rElements_b1 (v : (List TApiCell)) (n : Int) (rec_rNext : (List TApiCell) → Int → Option (Int)) (x23 : Int) (x24 : Int) : Option (Stp (Int × Int) (Out (Int) (Int))) :=
  cnd (decide (x24 < n)) (obn (rec_rNext v x23) fun r48 => cnd (decide (r48 < 0)) (some (.out (.ret (-1)))) (chk (inK .i64 (x24 + 1)) <| some (.next (r48, x24 + 1)))) (some (.out (.go x23)))

def rElements_k1 (x36 : Int) : Option (Int) :=
  some x36

def rElementsm (F : Nat) (rec_rNext : (List TApiCell) → Int → Option (Int)) (v : (List TApiCell)) (i : Int) (n : Int) : Option (Int) :=
  obn (lop (fun σ => rElements_b1 v n rec_rNext σ.1 σ.2) F (i, 0)) (oute fun ν => rElements_k1 ν)

def rPairs_b1 (F : Nat) (v : (List TApiCell)) (n : Int) (rec_rNext : (List TApiCell) → Int → Option (Int)) (x51 : Int) (x52 : Str) (x53 : Int) : Option (Stp (Int × Str × Int) (Out (Int) (Int))) :=
  cnd (decide (x53 < n)) (chk (imp (!(decide ((v.length : Int) ≤ x51))) (inR x51 (v.length : Int))) <| chk (imp (!(decide ((v.length : Int) ≤ x51))) ((rKey F (at' v x51)).isSome)) <| cnd (((decide ((v.length : Int) ≤ x51)) || ((!(ov (rKey F (at' v x51)))) || ((decide (0 < x53)) && (sLess ((at' v x51).fStr) x52 || decide (((at' v x51).fStr) = x52)))))) (some (.out (.ret (-1)))) (chk (inR x51 (v.length : Int)) <| chk (inK .i64 (x51 + 1)) <| obn (rec_rNext v (x51 + 1)) fun r106 => cnd (decide (r106 < 0)) (some (.out (.ret (-1)))) (chk (inK .i64 (x53 + 1)) <| some (.next (r106, (at' v x51).fStr, x53 + 1))))) (some (.out (.go x51)))

def rPairs_k1 (x79 : Int) : Option (Int) :=
  some x79

def rPairsm (F : Nat) (rec_rNext : (List TApiCell) → Int → Option (Int)) (v : (List TApiCell)) (i : Int) (n : Int) : Option (Int) :=
  obn (lop (fun σ => rPairs_b1 F v n rec_rNext σ.1 σ.2.1 σ.2.2) F (i, ([] : Str), 0)) (oute fun ν => rPairs_k1 ν)

mutual
def rNext : Nat → (List TApiCell) → Int → Option (Int)
  | 0, _, _ => none
  | nn + 1, v, i => rNextm nn (rElements nn) (rPairs nn) v i

def rElements : Nat → (List TApiCell) → Int → Int → Option (Int)
  | 0, _, _, _ => none
  | nn + 1, v, i, n => rElementsm nn (rNext nn) v i n

def rPairs : Nat → (List TApiCell) → Int → Int → Option (Int)
  | 0, _, _, _ => none
  | nn + 1, v, i, n => rPairsm nn (rNext nn) v i n

end
def rFormed (F : Nat) (v : (List TApiCell)) : Option (Bool) :=
  chk (imp (decide (0 < (v.length : Int))) ((rNext F v 0).isSome)) <| some ((decide (0 < (v.length : Int))) && (decide ((ov (rNext F v 0)) = (v.length : Int))))

def rLevels_b1 (F : Nat) (v : (List TApiCell)) (i : Int) (rec_rLevels : (List TApiCell) → Int → Option (Int)) (x85 : Int) (x86 : Int) (x87 : Int) : Option (Stp (Int × Int × Int) (Out (Int) (Int))) :=
  cnd (decide (x87 < ((at' v i).fN))) (cnd (decide (((at' v i).fKind) = 6)) (chk (inK .i64 (x86 + 1)) <| obn (rec_rLevels v (x86 + 1)) fun r144 => cnd (decide (x85 < r144)) (obn (rNext F v (x86 + 1)) fun r149 => chk (inK .i64 (x87 + 1)) <| some (.next (r144, r149, x87 + 1))) (obn (rNext F v (x86 + 1)) fun r156 => chk (inK .i64 (x87 + 1)) <| some (.next (x85, r156, x87 + 1)))) (obn (rec_rLevels v x86) fun r163 => cnd (decide (x85 < r163)) (obn (rNext F v x86) fun r168 => chk (inK .i64 (x87 + 1)) <| some (.next (r163, r168, x87 + 1))) (obn (rNext F v x86) fun r175 => chk (inK .i64 (x87 + 1)) <| some (.next (x85, r175, x87 + 1))))) (some (.out (.go x85)))

def rLevels_k1 (x128 : Int) : Option (Int) :=
  chk (inK .i64 (x128 + 1)) <| some (x128 + 1)

def rLevelsm (F : Nat) (rec_rLevels : (List TApiCell) → Int → Option (Int)) (v : (List TApiCell)) (i : Int) : Option (Int) :=
  chk (inR i (v.length : Int)) <| cnd (((!decide (((at' v i).fKind) = 5)) && (!decide (((at' v i).fKind) = 6)))) (some 1) (chk (inK .i64 (i + 1)) <| obn (lop (fun σ => rLevels_b1 F v i rec_rLevels σ.1 σ.2.1 σ.2.2) F (0, i + 1, 0)) (oute fun ν => rLevels_k1 ν))

def rLevels : Nat → (List TApiCell) → Int → Option (Int)
  | 0, _, _ => none
  | nn + 1, v, i => rLevelsm nn (rLevels nn) v i

def rQuoted_b1 (s : Str) (x53 : Str) (x54 : Int) : Option (Stp (Str × Int) (Out (Str) (Str))) :=
  cnd (decide (x54 < (s.length : Int))) (chk (inR x54 (s.length : Int)) <| cnd (((decide ((bat s x54) = 34)) || (decide ((bat s x54) = 92)))) (chk (inK .i64 ((x53.length : Int) + (([92] : Str).length : Int))) <| chk (inK .i64 (x54 + 1)) <| chk (inC x54 (x54 + 1)) <| chk (inC (x54 + 1) (s.length : Int)) <| chk (inK .i64 (((x53 ++ ([92] : Str)).length : Int) + ((List.take (Int.toNat (x54 + 1) - Int.toNat x54) (List.drop (Int.toNat x54) s)).length : Int))) <| some (.next ((x53 ++ ([92] : Str)) ++ (List.take (Int.toNat (x54 + 1) - Int.toNat x54) (List.drop (Int.toNat x54) s)), x54 + 1))) (chk (inK .i64 (x54 + 1)) <| chk (inC x54 (x54 + 1)) <| chk (inC (x54 + 1) (s.length : Int)) <| chk (inK .i64 ((x53.length : Int) + ((List.take (Int.toNat (x54 + 1) - Int.toNat x54) (List.drop (Int.toNat x54) s)).length : Int))) <| some (.next (x53 ++ (List.take (Int.toNat (x54 + 1) - Int.toNat x54) (List.drop (Int.toNat x54) s)), x54 + 1)))) (some (.out (.go x53)))

def rQuoted_k1 (x82 : Str) : Option (Str) :=
  chk (inK .i64 ((x82.length : Int) + (([34] : Str).length : Int))) <| some (x82 ++ ([34] : Str))

def rQuoted (F : Nat) (s : Str) : Option (Str) :=
  obn (lop (fun σ => rQuoted_b1 s σ.1 σ.2) F (([34] : Str), 0)) (oute fun ν => rQuoted_k1 ν)

def rText_b1 (F : Nat) (v : (List TApiCell)) (i : Int) (rec_rText : (List TApiCell) → Int → Option (Str)) (x138 : Str) (x139 : Int) (x140 : Int) : Option (Stp (Str × Int × Int) (Out (Str) (Str))) :=
  cnd (decide (x140 < ((at' v i).fN))) (cnd (decide (0 < x140)) (chk (inK .i64 ((x138.length : Int) + (([44] : Str).length : Int))) <| cnd (decide (((at' v i).fKind) = 6)) (chk (inR x139 (v.length : Int)) <| obn (rQuoted F ((at' v x139).fStr)) fun r237 => chk (inK .i64 (((x138 ++ ([44] : Str)).length : Int) + (r237.length : Int))) <| chk (inK .i64 ((((x138 ++ ([44] : Str)) ++ r237).length : Int) + (([58] : Str).length : Int))) <| chk (inK .i64 (x139 + 1)) <| obn (rec_rText v (x139 + 1)) fun r246 => chk (inK .i64 (((((x138 ++ ([44] : Str)) ++ r237) ++ ([58] : Str)).length : Int) + (r246.length : Int))) <| obn (rNext F v (x139 + 1)) fun r251 => chk (inK .i64 (x140 + 1)) <| some (.next ((((x138 ++ ([44] : Str)) ++ r237) ++ ([58] : Str)) ++ r246, r251, x140 + 1))) (obn (rec_rText v x139) fun r258 => chk (inK .i64 (((x138 ++ ([44] : Str)).length : Int) + (r258.length : Int))) <| obn (rNext F v x139) fun r263 => chk (inK .i64 (x140 + 1)) <| some (.next ((x138 ++ ([44] : Str)) ++ r258, r263, x140 + 1)))) (cnd (decide (((at' v i).fKind) = 6)) (chk (inR x139 (v.length : Int)) <| obn (rQuoted F ((at' v x139).fStr)) fun r274 => chk (inK .i64 ((x138.length : Int) + (r274.length : Int))) <| chk (inK .i64 (((x138 ++ r274).length : Int) + (([58] : Str).length : Int))) <| chk (inK .i64 (x139 + 1)) <| obn (rec_rText v (x139 + 1)) fun r283 => chk (inK .i64 ((((x138 ++ r274) ++ ([58] : Str)).length : Int) + (r283.length : Int))) <| obn (rNext F v (x139 + 1)) fun r288 => chk (inK .i64 (x140 + 1)) <| some (.next (((x138 ++ r274) ++ ([58] : Str)) ++ r283, r288, x140 + 1))) (obn (rec_rText v x139) fun r295 => chk (inK .i64 ((x138.length : Int) + (r295.length : Int))) <| obn (rNext F v x139) fun r300 => chk (inK .i64 (x140 + 1)) <| some (.next (x138 ++ r295, r300, x140 + 1))))) (some (.out (.go x138)))

def rText_k1 (v : (List TApiCell)) (i : Int) (x217 : Str) : Option (Str) :=
  cnd (decide (((at' v i).fKind) = 6)) (chk (inK .i64 ((([123] : Str).length : Int) + (x217.length : Int))) <| chk (inK .i64 (((([123] : Str) ++ x217).length : Int) + (([125] : Str).length : Int))) <| some ((([123] : Str) ++ x217) ++ ([125] : Str))) (chk (inK .i64 ((([91] : Str).length : Int) + (x217.length : Int))) <| chk (inK .i64 (((([91] : Str) ++ x217).length : Int) + (([93] : Str).length : Int))) <| some ((([91] : Str) ++ x217) ++ ([93] : Str)))

def rTextm (F : Nat) (rec_rText : (List TApiCell) → Int → Option (Str)) (v : (List TApiCell)) (i : Int) : Option (Str) :=
  chk (inR i (v.length : Int)) <| cnd (decide (((at' v i).fKind) = 1)) (some ([110, 117, 108, 108] : Str)) (cnd (decide (((at' v i).fKind) = 2)) (cnd (decide (((at' v i).fInt) = 1)) (some ([116, 114, 117, 101] : Str)) (some ([102, 97, 108, 115, 101] : Str))) (cnd (decide (((at' v i).fKind) = 3)) (chk (inK .i64 ((at' v i).fInt)) <| some (Lib.itoa ((at' v i).fInt))) (cnd (decide (((at' v i).fKind) = 4)) (obn (rQuoted F ((at' v i).fStr)) fun r20 => some r20) (chk (inK .i64 (i + 1)) <| obn (lop (fun σ => rText_b1 F v i rec_rText σ.1 σ.2.1 σ.2.2) F (([] : Str), i + 1, 0)) (oute fun ν => rText_k1 v i ν)))))

def rText : Nat → (List TApiCell) → Int → Option (Str)
  | 0, _, _ => none
  | nn + 1, v, i => rTextm nn (rText nn) v i

def rCheck_b2 (v : (List TApiCell)) (x93 : Int) : Option (Stp (Int) (Out (Int) (Unit))) :=
  cnd (decide (x93 < (v.length : Int))) (chk (inR x93 (v.length : Int)) <| cnd (decide (200 < (((at' v x93).fStr).length : Int))) (some (.out (.ret 3))) (chk (inK .i64 (x93 + 1)) <| some (.next (x93 + 1)))) (some (.out (.go ())))

def rCheck_k2 (F : Nat) (v : (List TApiCell)) : Option (Int) :=
  obn (rText F v 0) fun r127 => cnd (decide (4000 < (r127.length : Int))) (some 3) (some 0)

def rCheck_b1 (v : (List TApiCell)) (x30 : Int) : Option (Stp (Int) (Out (Int) (Unit))) :=
  cnd (decide (x30 < (v.length : Int))) (chk (inR x30 (v.length : Int)) <| cnd (((decide (((at' v x30).fKind) = 3)) && ((decide (((at' v x30).fInt) < (-1000000000000))) || (decide (1000000000000 < ((at' v x30).fInt)))))) (some (.out (.ret 2))) (chk (inK .i64 (x30 + 1)) <| some (.next (x30 + 1)))) (some (.out (.go ())))

def rCheck_k1 (F : Nat) (v : (List TApiCell)) : Option (Int) :=
  chk (imp (!(decide (200 < (v.length : Int)))) ((rLevels F v 0).isSome)) <| cnd (((decide (200 < (v.length : Int))) || (decide (8 < (ov (rLevels F v 0)))))) (some 3) (obn (lop (fun σ => rCheck_b2 v σ) F 0) (oute fun ν => rCheck_k2 F v ))

def rCheck (F : Nat) (v : (List TApiCell)) : Option (Int) :=
  obn (rFormed F v) fun r1 => cnd (!r1) (some 1) (obn (lop (fun σ => rCheck_b1 v σ) F 0) (oute fun ν => rCheck_k1 F v ))

end Go.Proofs.YtkalifgebccpcaaGreatDoor
