/-
  The reference's ways to the plain functions of ident. No program in sight.
-/
import Derived.Test.YtjkdkmcklocmnaaGreatDoorPlD
namespace Go.Proofs.YtjkdkmcklocmnaaGreatDoor
open Go
set_option linter.unusedVariables false
set_option linter.unusedSimpArgs false
/-! ### Visits of bytes, one after the other -/
theorem at_next {f : Nat → UInt8 → Bool} {t : Int → Bool} {p : List UInt8} {k : Nat} (hf : ∀ u : UInt8, f k u = t u.toNat) {c : Bool} (hi : k ≤ p.length ∧ c = allFrom f k (p.drop k)) (h : (k : Int) < p.length) (ht : t (bat p k) = true) :
    k + 1 ≤ p.length ∧ c = allFrom f (k + 1) (p.drop (k + 1)) := by
  obtain ⟨u, hu⟩ := get_of_lt h
  rw [bat_of hu] at ht
  have hk : k < p.length := by omega
  refine ⟨by omega, ?_⟩
  rw [hi.2, drop_cons hu]; simp [allFrom, hf, ht]
theorem at_no {f : Nat → UInt8 → Bool} {t : Int → Bool} {p : List UInt8} {k : Nat} (hf : ∀ u : UInt8, f k u = t u.toNat) {c : Bool} (hi : k ≤ p.length ∧ c = allFrom f k (p.drop k)) (h : (k : Int) < p.length) (ht : t (bat p k) = false) : c = false := by
  obtain ⟨u, hu⟩ := get_of_lt h
  rw [bat_of hu] at ht
  rw [hi.2, drop_cons hu]; simp [allFrom, hf, ht]
theorem at_end {f : Nat → UInt8 → Bool} {p : List UInt8} {k : Nat} {c : Bool} (hi : k ≤ p.length ∧ c = allFrom f k (p.drop k)) (h : ¬ (k : Int) < p.length) : c = true := by
  rw [hi.2, List.drop_of_length_le (by omega)]; rfl
/-! ### Name -/
def nameT1 (c : Int) : Bool := smallS c || (digitS c || (decide (c = 45) || decide (c = 95)))
theorem nameCh_pos {k : Nat} (hk : 1 ≤ k) (u : UInt8) : nameCh k u = nameT1 u.toNat := by
  have : decide (k = 0) = false := by simp; omega
  simp only [nameCh, nameT1, this]
  cases smallS u.toNat <;> cases digitS u.toNat <;> simp
theorem nameR_0 {p : List UInt8} (h : (!(decide ((p.length : Int) < 1) || (decide ((24 : Int) < p.length) || !smallS (bat p 0)))) = true) : 1 ≤ p.length ∧ nameS p = allFrom nameCh 1 (p.drop 1) := by
  simp only [Bool.not_eq_true', Bool.or_eq_false_iff, decide_eq_false_iff_not, Bool.not_eq_false'] at h
  obtain ⟨h1, h2, h3⟩ := h
  cases p with
  | nil => simp at h1
  | cons u r =>
    have h4 : smallS u.toNat = true := h3
    refine ⟨by simp, ?_⟩
    have h5 : r.length + 1 ≤ 24 := by simp at h2; omega
    simp [nameS, allFrom, nameCh, h4, h5]
theorem nameR_no {p : List UInt8} (h : (decide ((p.length : Int) < 1) || (decide ((24 : Int) < p.length) || !smallS (bat p 0))) = true) : nameS p = false := by
  simp only [Bool.or_eq_true, decide_eq_true_eq, Bool.not_eq_true'] at h
  rcases h with h | h | h
  · simp [nameS]; omega
  · simp [nameS]; omega
  · cases p with
    | nil => rfl
    | cons u r =>
      have h4 : smallS u.toNat = false := h
      simp [nameS, allFrom, nameCh, h4]
/-! ### ID -/
theorem idCh_any (k : Nat) (u : UInt8) : idCh k u = letterS u.toNat := rfl
theorem idR_0 {p : List UInt8} (h : (decide ((p.length : Int) < 1) || decide ((64 : Int) < p.length)) = false) : idS p = allFrom idCh 0 p := by
  simp only [Bool.or_eq_false_iff, decide_eq_false_iff_not] at h
  have h1 : 1 ≤ p.length := by omega
  have h2 : p.length ≤ 64 := by omega
  simp [idS, h1, h2]
theorem idR_no {p : List UInt8} (h : (decide ((p.length : Int) < 1) || decide ((64 : Int) < p.length)) = true) : idS p = false := by
  simp only [Bool.or_eq_true, decide_eq_true_eq] at h
  simp [idS]; omega
/-! ### Pattern -/
theorem patR_no {p : List UInt8} (h : (decide ((p.length : Int) < 1) || decide ((64 : Int) < p.length)) = true) : patS p = false := by
  have h1 := idR_no h
  simp only [Bool.or_eq_true, decide_eq_true_eq] at h
  have h2 : p ≠ [42] := by rintro rfl; simp at h
  rcases h with h | h
  · cases p with
    | nil => decide
    | cons a r => simp at h; omega
  · have h3 : decide ((p.length : Int) ≤ 64) = false := by simp; omega
    simp [patS, h1, h2, h3]
theorem allFrom_app {f : Nat → UInt8 → Bool} : ∀ (r : List UInt8) (i : Nat) (u : UInt8), allFrom f i (r ++ [u]) = (allFrom f i r && f (i + r.length) u)
  | [], i, u => by simp [allFrom]
  | x :: r, i, u => by
    have := allFrom_app (f := f) r (i + 1) u
    simp only [List.cons_append, allFrom, this, List.length_cons]
    rw [show i + 1 + r.length = i + (r.length + 1) from by omega, Bool.and_assoc]
theorem bat_last (r : List UInt8) (u : UInt8) : bat (r ++ [u]) (((r ++ [u]).length : Int) - 1) = u.toNat := by
  have e : (((r ++ [u]).length : Int) - 1).toNat = r.length := by simp
  unfold bat
  rw [e]; simp
theorem bat_take {p : List UInt8} {m k : Nat} (h : k < m) : bat (p.take m) k = bat p k := by
  unfold bat
  rw [show ((k : Int)).toNat = k from by omega, List.getElem?_take, if_pos h]
theorem patR {p : List UInt8} (h : (decide ((p.length : Int) < 1) || decide ((64 : Int) < p.length)) = false) :
    patS p = (allFrom idCh 0 (p.take (p.length - 1)) && (letterS (bat p ((p.length : Int) - 1)) || decide (bat p ((p.length : Int) - 1) = 42))) := by
  have hid := idR_0 h
  simp only [Bool.or_eq_false_iff, decide_eq_false_iff_not] at h
  obtain ⟨h1, h2⟩ := h
  obtain ⟨r, u, rfl⟩ : ∃ r u, p = r ++ [u] := by
    rcases List.eq_nil_or_concat p with rfl | ⟨r, u, rfl⟩
    · simp at h1
    · exact ⟨r, u, by simp⟩
  have ht : (r ++ [u]).take ((r ++ [u]).length - 1) = r := by simp
  rw [ht, bat_last]
  unfold patS
  rw [hid, allFrom_app]
  have hlen : r.length + 1 ≤ 64 := by simp at h2; omega
  have hd : decide (((r ++ [u]).length : Int) ≤ 64) = true := by simp; omega
  rw [hd]
  by_cases hu : u = 42
  · subst hu
    have hl : idCh (0 + r.length) 42 = false := by simp [idCh]; decide
    have hs : hasSuf (r ++ [42]) [42] = true := suf_iff.2 ⟨r, rfl⟩
    rw [hl, hs, trim_of]
    have hx : idS r = (allFrom idCh 0 r && decide (1 ≤ r.length)) := by
      have : decide (r.length ≤ 64) = true := by simp; omega
      simp [idS, this]
    cases r with
    | nil => simp [allFrom]
    | cons a r' =>
      rw [hx]
      simp
  · have hne : ¬ ((u.toNat : Int) = 42) := fun e => hu (UInt8.toNat_inj.1 (by simpa using (by omega : u.toNat = 42)))
    have hs : hasSuf (r ++ [u]) [42] = false := by
      cases hx : hasSuf (r ++ [u]) [42] with
      | false => rfl
      | true =>
        obtain ⟨r', e⟩ := suf_iff.1 hx
        exact absurd (List.append_inj_right' e rfl) (by simpa using hu)
    have h42 : decide (r ++ [u] = [42]) = false := by
      rw [decide_eq_false_iff_not]; intro e
      have e2 : r ++ [u] = [] ++ [42] := e
      have := List.append_inj_right' e2 rfl
      exact hu (by simpa using this)
    rw [hs, h42]
    simp [idCh, hne]
/-! ### Matches, Covers -/
theorem openR {p : List UInt8} (h : 1 ≤ p.length) : decide (bat p ((p.length : Int) - 1) = 42) = hasSuf p [42] := by
  rw [Bool.eq_iff_iff, decide_eq_true_eq]; exact open_iff h
theorem beginsR (p q : List UInt8) : (decide ((q.length : Int) ≤ p.length) && decide (List.take (Int.toNat (q.length : Int)) p = q)) = hasPre p q := by
  simp [hasPre]
theorem matR_no {p s : List UInt8} (h : patS p = false) : matS p s = false := by simp [matS, h]
theorem matR_open {p s : List UInt8} (hp : patS p = true) (ho : hasSuf p [42] = true) : hasPre s (List.take (Int.toNat ((p.length : Int) - 1)) p) = matS p s := by
  rw [one_eq ho]; simp [matS, hp, ho]
theorem matR_shut {p s : List UInt8} (hp : patS p = true) (ho : hasSuf p [42] = false) : decide (s = p) = matS p s := by
  simp [matS, hp, ho, eq_comm]
theorem covR_no {p q : List UInt8} (h : (!patS p || !patS q) = true) : covS p q = false := by
  cases hp : patS p <;> cases hq : patS q <;> simp [covS, hp, hq] at h ⊢
theorem covR_shut {p q : List UInt8} (h : (!patS p || !patS q) = false) (ho : hasSuf q [42] = false) : matS p q = covS p q := by
  cases hp : patS p <;> cases hq : patS q <;> simp [covS, hp, hq, ho, trim_no ho] at h ⊢
theorem covR_open {p q : List UInt8} (h : (!patS p || !patS q) = false) (ho : hasSuf q [42] = true) :
    (hasSuf p [42] && hasPre (List.take (Int.toNat ((q.length : Int) - 1)) q) (List.take (Int.toNat ((p.length : Int) - 1)) p)) = covS p q := by
  rw [one_eq ho]
  cases hp : patS p <;> cases hq : patS q <;> simp [hp, hq] at h
  cases hop : hasSuf p [42]
  · simp [covS, ho, hop]
  · rw [one_eq hop]; simp [covS, hp, hq, ho, hop, matS]
end Go.Proofs.YtjkdkmcklocmnaaGreatDoor
