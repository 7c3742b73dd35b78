/-
  Decimal forms; references; children; patterns: plain functions on lists of bytes. No program in sight.
-/
import Derived.Test.YtjkdkmcklocmnaaGreatDoorPlB
import Derived.Lib.AtoiAllCases
import Derived.Lib.ItoaNum
import Derived.Lib.ItoaLen
namespace Go.Proofs.YtjkdkmcklocmnaaGreatDoor
open Go
def sgnS (p : List UInt8) : Bool := decide ((0 : Int) < p.length) && decide (bat p 0 = 45)
def digs (p : List UInt8) : List UInt8 := if sgnS p = true then p.drop 1 else p
theorem digs_len (p : List UInt8) : (digs p).length ≤ p.length := by unfold digs; split <;> simp
def digCh (_ : Nat) (u : UInt8) : Bool := !(decide ((u.toNat : Int) < 48) || decide (57 < (u.toNat : Int)))
def decS (p : List UInt8) : Bool := !(decide (digs p = []) || (decide (bat (digs p) 0 = 48) && !decide (p = [48]))) && allFrom digCh 0 (digs p)
theorem len_pos {p : List UInt8} (h : ¬ p = []) : (0 : Int) < p.length := by
  cases p with
  | nil => exact absurd rfl h
  | cons a r => simp
theorem get_of_lt {p : List UInt8} {k : Nat} (h : (k : Int) < p.length) : ∃ u, p[k]? = some u := ⟨p[k]'(by omega), List.getElem?_eq_getElem (by omega)⟩
theorem dig_next {p : List UInt8} {k : Nat} (hi : k ≤ p.length ∧ allFrom digCh 0 p = allFrom digCh k (p.drop k)) (h : (k : Int) < p.length) (ht : (decide (bat p k < 48) || decide (57 < bat p k)) = false) :
    (k + 1 ≤ p.length ∧ allFrom digCh 0 p = allFrom digCh (k + 1) (p.drop (k + 1))) ∧ p.length - (k + 1) < p.length - k := by
  obtain ⟨u, hu⟩ := get_of_lt h
  rw [bat_of hu] at ht
  exact rng_next hi hu (by simp only [digCh, ht]; rfl)
theorem dig_no {p : List UInt8} {k : Nat} (hi : k ≤ p.length ∧ allFrom digCh 0 p = allFrom digCh k (p.drop k)) (h : (k : Int) < p.length) (ht : (decide (bat p k < 48) || decide (57 < bat p k)) = true) : allFrom digCh 0 p = false := by
  obtain ⟨u, hu⟩ := get_of_lt h
  rw [bat_of hu] at ht
  exact rng_no hi hu (by simp only [digCh, ht]; rfl)
theorem dig_yes {p : List UInt8} {k : Nat} (hi : k ≤ p.length ∧ allFrom digCh 0 p = allFrom digCh k (p.drop k)) (h : ¬ (k : Int) < p.length) : allFrom digCh 0 p = true := rng_yes hi (by omega)

/-! ### The last place of a byte -/
def lastIx (p : List UInt8) (m : Int) : Nat → Int
  | 0 => -1
  | k + 1 => if bat p k = m then k else lastIx p m k
def lastB (p : List UInt8) (m : Int) : Int := lastIx p m p.length
theorem lastIx_bd (p : List UInt8) (m : Int) : ∀ k, -1 ≤ lastIx p m k ∧ lastIx p m k < k
  | 0 => by simp [lastIx]
  | k + 1 => by
    have := lastIx_bd p m k
    unfold lastIx
    split <;> omega
theorem lastB_bd (p : List UInt8) (m : Int) : -1 ≤ lastB p m ∧ lastB p m < p.length := lastIx_bd p m _
theorem last_hit {p : List UInt8} {m : Int} {k : Nat} (hi : k ≤ p.length ∧ lastB p m = lastIx p m k) (h : (0 : Int) ≤ (k : Int) - 1) (ht : bat p ((k : Int) - 1) = m) : (k : Int) - 1 = lastB p m := by
  obtain ⟨j, rfl⟩ : ∃ j, k = j + 1 := ⟨k - 1, by omega⟩
  have e : ((j + 1 : Nat) : Int) - 1 = j := by omega
  rw [e] at ht ⊢
  rw [hi.2, lastIx, if_pos ht]
theorem last_next {p : List UInt8} {m : Int} {k : Nat} (hi : k ≤ p.length ∧ lastB p m = lastIx p m k) (h : (0 : Int) ≤ (k : Int) - 1) (ht : ¬ bat p ((k : Int) - 1) = m) : (k - 1 ≤ p.length ∧ lastB p m = lastIx p m (k - 1)) ∧ k - 1 < k := by
  obtain ⟨j, rfl⟩ : ∃ j, k = j + 1 := ⟨k - 1, by omega⟩
  have e : ((j + 1 : Nat) : Int) - 1 = j := by omega
  rw [e] at ht
  refine ⟨⟨by omega, ?_⟩, by omega⟩
  rw [hi.2, lastIx, if_neg ht]; rfl
theorem last_end {p : List UInt8} {m : Int} {k : Nat} (hi : k ≤ p.length ∧ lastB p m = lastIx p m k) (h : ¬ (0 : Int) ≤ (k : Int) - 1) : (-1 : Int) = lastB p m := by
  obtain rfl : k = 0 := by omega
  rw [hi.2]; rfl

/-! ### num.Parse -/
def parseE (p : List UInt8) : Int := if decS p = true then (match Lib.atoiAll p with | .ok v => if validS v = true then 0 else 2 | _ => 2) else 1
def parseV (p : List UInt8) : Int := if decS p = true then (match Lib.atoiAll p with | .ok v => if validS v = true then v else 0 | _ => 0) else 0
theorem digits_end : ∀ (l : List UInt8) (i acc : Nat), allFrom digCh i l = true → (∃ u, Lib.parseUint10 acc l = .ok u) ∨ Lib.parseUint10 acc l = .range
  | [], _, acc, _ => .inl ⟨acc, rfl⟩
  | c :: r, i, acc, h => by
    simp only [allFrom, Bool.and_eq_true] at h
    have hc : 48 ≤ c.toNat ∧ c.toNat ≤ 57 := by have := h.1; simp [digCh] at this; omega
    unfold Lib.parseUint10
    rw [if_pos hc]
    split
    · exact .inr rfl
    · split
      · exact .inr rfl
      · exact digits_end r _ _ h.2
theorem mag_end {l : List UInt8} (hne : l ≠ []) (h : allFrom digCh 0 l = true) : (∃ u, Lib.parseMag l = .ok u) ∨ Lib.parseMag l = .range := by
  unfold Lib.parseMag
  rw [if_neg hne]
  exact digits_end l 0 0 h
theorem signless_end {e : Lib.NumEnd Nat} (h : (∃ u, e = .ok u) ∨ e = .range) : (∃ v, Lib.signless e = .ok v) ∨ Lib.signless e = .range := by
  rcases h with ⟨u, rfl⟩ | rfl
  · unfold Lib.signless
    by_cases h : 9223372036854775808 ≤ u
    · exact .inr (by simp [h])
    · exact .inl ⟨_, by simp [h]; rfl⟩
  · exact .inr rfl
theorem signed_end {e : Lib.NumEnd Nat} (h : (∃ u, e = .ok u) ∨ e = .range) : (∃ v, Lib.signed e = .ok v) ∨ Lib.signed e = .range := by
  rcases h with ⟨u, rfl⟩ | rfl
  · unfold Lib.signed
    by_cases h : 9223372036854775808 < u
    · exact .inr (by simp [h])
    · exact .inl ⟨_, by simp [h]; rfl⟩
  · exact .inr rfl
theorem atoi_dec {p : List UInt8} (h : decS p = true) : (∃ v, Lib.atoiAll p = .ok v ∧ -9223372036854775808 ≤ v ∧ v ≤ 9223372036854775807) ∨ Lib.atoiAll p = .range := by
  have key : (∃ v, Lib.atoiAll p = .ok v) ∨ Lib.atoiAll p = .range := by
    simp only [decS, Bool.and_eq_true, Bool.not_eq_true', Bool.or_eq_false_iff, decide_eq_false_iff_not] at h
    obtain ⟨⟨hne, _⟩, hall⟩ := h
    cases p with
    | nil => simp [digs, sgnS] at hne
    | cons c r =>
      by_cases hc : c = 45
      · subst hc
        have hd : digs (45 :: r) = r := by simp [digs, sgnS, bat]
        rw [hd] at hne hall
        rw [Lib.atoiAll_minus]
        exact signed_end (mag_end hne hall)
      · have hb : ¬ bat (c :: r) 0 = 45 := by
          simp only [bat, Int.toNat_zero, List.getElem?_cons_zero, Option.getD_some]
          intro e; exact hc (UInt8.toNat_inj.1 (by simpa using (by omega : c.toNat = 45)))
        have hd : digs (c :: r) = c :: r := by simp [digs, sgnS, hb]
        rw [hd] at hne hall
        have hc48 : 48 ≤ c.toNat := by
          simp only [allFrom, Bool.and_eq_true] at hall
          have := hall.1; simp [digCh] at this; omega
        rw [Lib.atoiAll_plain c r (by omega) (by omega)]
        exact signless_end (mag_end hne hall)
  rcases key with ⟨v, hv⟩ | h
  · exact .inl ⟨v, hv, Lib.atoiAll_bounds hv⟩
  · exact .inr h
theorem parse_bd (p : List UInt8) : -1000000000000 ≤ parseV p ∧ parseV p ≤ 1000000000000 := by
  unfold parseV
  split
  · split
    · split
      · rename_i h; simp [validS] at h; omega
      · omega
    · omega
  · omega
theorem itoa_len (m : Int) (h0 : -9223372036854775808 ≤ m) (h1 : m ≤ 9223372036854775807) : (Lib.itoa m).length ≤ 21 := Lib.itoa_length_le m h0 h1
theorem trimSuf_len (p q : List UInt8) : (trimSuf p q).length ≤ p.length := by unfold trimSuf; split <;> simp
/-! ### ident -/
def versionS (p : List UInt8) : Bool := decide (parseE p = 0) && decide (1 ≤ parseV p) && decide (parseV p ≤ 32)
def refOk (t f q : List UInt8) : Bool := nameS t && nameS f && (nameS q || versionS q)
def refV (t f q : List UInt8) : List UInt8 := if refOk t f q = true then t ++ [47] ++ f ++ [58] ++ q else []
def refE (t f q : List UInt8) : Int := if refOk t f q = true then 0 else 4
def prT (s : List UInt8) : List UInt8 := cutB s 47
def prF (s : List UInt8) : List UInt8 := cutB (cutA s 47) 58
def prQ (s : List UInt8) : List UInt8 := cutA (cutA s 47) 58
def prOk (s : List UInt8) : Bool := decide (refE (prT s) (prF s) (prQ s) = 0) && decide (refV (prT s) (prF s) (prQ s) = s)
def iff0 (b : Bool) (p : List UInt8) : List UInt8 := if b = true then p else []
def childL (id : List UInt8) (m : Int) : List UInt8 := id ++ [46] ++ Lib.itoa m
def childE (id : List UInt8) (m : Int) : Int := if idS id = true then (if 0 ≤ m ∧ m ≤ 1000000000000 then (if (childL id m).length ≤ 64 then 0 else 3) else 2) else 4
def childV (id : List UInt8) (m : Int) : List UInt8 := if childE id m = 0 then childL id m else []
def parP (s : List UInt8) : List UInt8 := s.take (lastB s 46).toNat
def parN (s : List UInt8) : List UInt8 := s.drop (lastB s 46 + 1).toNat
def parOk (s : List UInt8) : Bool := decide (0 ≤ lastB s 46) && decide (parseE (parN s) = 0) && decide (childE (parP s) (parseV (parN s)) = 0) && decide (childV (parP s) (parseV (parN s)) = s)
def patS (s : List UInt8) : Bool := idS s || (decide (s = [42]) || (idS (trimSuf s [42]) && (hasSuf s [42] && decide ((s.length : Int) ≤ 64))))
def matS (p s : List UInt8) : Bool := patS p && (bif hasSuf p [42] then hasPre s (trimSuf p [42]) else decide (p = s))
def covS (p q : List UInt8) : Bool := patS p && (patS q && (!(hasSuf q [42] && !(hasSuf p [42])) && matS p (trimSuf q [42])))
theorem refV_len (t f q : List UInt8) : (refV t f q).length ≤ 50 + q.length := by
  unfold refV
  split
  · rename_i h
    simp only [refOk, nameS, Bool.and_eq_true, decide_eq_true_eq] at h
    simp; omega
  · simp
theorem iff0_len (b : Bool) (p : List UInt8) : (iff0 b p).length ≤ p.length := by unfold iff0; split <;> simp
theorem prT_len (b : Bool) (s : List UInt8) : (iff0 b (prT s)).length ≤ s.length := Nat.le_trans (iff0_len _ _) (cutB_len _ _)
theorem prF_len (b : Bool) (s : List UInt8) : (iff0 b (prF s)).length ≤ s.length := Nat.le_trans (iff0_len _ _) (Nat.le_trans (cutB_len _ _) (cutA_len _ _))
theorem prQ_len (b : Bool) (s : List UInt8) : (iff0 b (prQ s)).length ≤ s.length := Nat.le_trans (iff0_len _ _) (Nat.le_trans (cutA_len _ _) (cutA_len _ _))
theorem childV_len (id : List UInt8) (m : Int) : (childV id m).length ≤ 64 := by
  unfold childV
  split
  · rename_i h
    unfold childE at h
    split at h
    · split at h
      · split at h
        · assumption
        · omega
      · omega
    · omega
  · simp
theorem parP_len (b : Bool) (s : List UInt8) : (iff0 b (parP s)).length ≤ s.length := Nat.le_trans (iff0_len _ _) (by simp [parP]; omega)
end Go.Proofs.YtjkdkmcklocmnaaGreatDoor
