/-
  The reference's ways to the plain functions of ident. No program in sight.
-/
import Derived.Test.YtjkdkmcklocmnaaGreatDoorPlD
namespace Go.Proofs.YtjkdkmcklocmnaaGreatDoor
open Go
set_option linter.unusedVariables false
set_option linter.unusedSimpArgs false
/-! ### Visits of bytes, one after the other -/
theorem at_next {f : Nat → UInt8 → Bool} {t : Int → Bool} {p : List UInt8} {k : Nat} (hf : ∀ u : UInt8, f k u = t u.toNat) {c : Bool} (hi : k ≤ p.length ∧ c = allFrom f k (p.drop k)) (h : (k : Int) < p.length) (ht : t (bat p k) = true) :
    k + 1 ≤ p.length ∧ c = allFrom f (k + 1) (p.drop (k + 1)) := by
  obtain ⟨u, hu⟩ := get_of_lt h
  rw [bat_of hu] at ht
  have hk : k < p.length := by omega
  refine ⟨by omega, ?_⟩
  rw [hi.2, drop_cons hu]; simp [allFrom, hf, ht]
theorem at_no {f : Nat → UInt8 → Bool} {t : Int → Bool} {p : List UInt8} {k : Nat} (hf : ∀ u : UInt8, f k u = t u.toNat) {c : Bool} (hi : k ≤ p.length ∧ c = allFrom f k (p.drop k)) (h : (k : Int) < p.length) (ht : t (bat p k) = false) : c = false := by
  obtain ⟨u, hu⟩ := get_of_lt h
  rw [bat_of hu] at ht
  rw [hi.2, drop_cons hu]; simp [allFrom, hf, ht]
theorem at_end {f : Nat → UInt8 → Bool} {p : List UInt8} {k : Nat} {c : Bool} (hi : k ≤ p.length ∧ c = allFrom f k (p.drop k)) (h : ¬ (k : Int) < p.length) : c = true := by
  rw [hi.2, List.drop_of_length_le (by omega)]; rfl
/-! ### Name -/
def nameT1 (c : Int) : Bool := smallS c || (digitS c || (decide (c = 45) || decide (c = 95)))
theorem nameCh_pos {k : Nat} (hk : 1 ≤ k) (u : UInt8) : nameCh k u = nameT1 u.toNat := by
  have : decide (k = 0) = false := by simp; omega
  simp only [nameCh, nameT1, this]
  cases smallS u.toNat <;> cases digitS u.toNat <;> simp
theorem nameR_0 {p : List UInt8} (h : (!(decide ((p.length : Int) < 1) || (decide ((24 : Int) < p.length) || !smallS (bat p 0)))) = true) : 1 ≤ p.length ∧ nameS p = allFrom nameCh 1 (p.drop 1) := by
  simp only [Bool.not_eq_true', Bool.or_eq_false_iff, decide_eq_false_iff_not, Bool.not_eq_false'] at h
  obtain ⟨h1, h2, h3⟩ := h
  cases p with
  | nil => simp at h1
  | cons u r =>
    have h4 : smallS u.toNat = true := h3
    refine ⟨by simp, ?_⟩
    have h5 : r.length + 1 ≤ 24 := by simp at h2; omega
    simp [nameS, allFrom, nameCh, h4, h5]
theorem nameR_no {p : List UInt8} (h : (decide ((p.length : Int) < 1) || (decide ((24 : Int) < p.length) || !smallS (bat p 0))) = true) : nameS p = false := by
  simp only [Bool.or_eq_true, decide_eq_true_eq, Bool.not_eq_true'] at h
  rcases h with h | h | h
  · simp [nameS]; omega
  · simp [nameS]; omega
  · cases p with
    | nil => rfl
    | cons u r =>
      have h4 : smallS u.toNat = false := h
      simp [nameS, allFrom, nameCh, h4]
/-! ### ID -/
theorem idCh_any (k : Nat) (u : UInt8) : idCh k u = letterS u.toNat := rfl
theorem idR_0 {p : List UInt8} (h : (decide ((p.length : Int) < 1) || decide ((64 : Int) < p.length)) = false) : idS p = allFrom idCh 0 p := by
  simp only [Bool.or_eq_false_iff, decide_eq_false_iff_not] at h
  have h1 : 1 ≤ p.length := by omega
  have h2 : p.length ≤ 64 := by omega
  simp [idS, h1, h2]
theorem idR_no {p : List UInt8} (h : (decide ((p.length : Int) < 1) || decide ((64 : Int) < p.length)) = true) : idS p = false := by
  simp only [Bool.or_eq_true, decide_eq_true_eq] at h
  simp [idS]; omega
/-! ### Pattern -/
theorem patR_no {p : List UInt8} (h : (decide ((p.length : Int) < 1) || decide ((64 : Int) < p.length)) = true) : patS p = false := by
  have h1 := idR_no h
  simp only [Bool.or_eq_true, decide_eq_true_eq] at h
  have h2 : p ≠ [42] := by rintro rfl; simp at h
  rcases h with h | h
  · cases p with
    | nil => decide
    | cons a r => simp at h; omega
  · have h3 : decide ((p.length : Int) ≤ 64) = false := by simp; omega
    simp [patS, h1, h2, h3]
theorem allFrom_app {f : Nat → UInt8 → Bool} : ∀ (r : List UInt8) (i : Nat) (u : UInt8), allFrom f i (r ++ [u]) = (allFrom f i r && f (i + r.length) u)
  | [], i, u => by simp [allFrom]
  | x :: r, i, u => by
    have := allFrom_app (f := f) r (i + 1) u
    simp only [List.cons_append, allFrom, this, List.length_cons]
    rw [show i + 1 + r.length = i + (r.length + 1) from by omega, Bool.and_assoc]
theorem bat_last (r : List UInt8) (u : UInt8) : bat (r ++ [u]) (((r ++ [u]).length : Int) - 1) = u.toNat := by
  have e : (((r ++ [u]).length : Int) - 1).toNat = r.length := by simp
  unfold bat
  rw [e]; simp
theorem bat_take {p : List UInt8} {m k : Nat} (h : k < m) : bat (p.take m) k = bat p k := by
  unfold bat
  rw [show ((k : Int)).toNat = k from by omega, List.getElem?_take, if_pos h]
theorem patR {p : List UInt8} (h : (decide ((p.length : Int) < 1) || decide ((64 : Int) < p.length)) = false) :
    patS p = (allFrom idCh 0 (p.take (p.length - 1)) && (letterS (bat p ((p.length : Int) - 1)) || decide (bat p ((p.length : Int) - 1) = 42))) := by
  have hid := idR_0 h
  simp only [Bool.or_eq_false_iff, decide_eq_false_iff_not] at h
  obtain ⟨h1, h2⟩ := h
  obtain ⟨r, u, rfl⟩ : ∃ r u, p = r ++ [u] := by
    rcases List.eq_nil_or_concat p with rfl | ⟨r, u, rfl⟩
    · simp at h1
    · exact ⟨r, u, by simp⟩
  have ht : (r ++ [u]).take ((r ++ [u]).length - 1) = r := by simp
  rw [ht, bat_last]
  unfold patS
  rw [hid, allFrom_app]
  have hlen : r.length + 1 ≤ 64 := by simp at h2; omega
  have hd : decide (((r ++ [u]).length : Int) ≤ 64) = true := by simp; omega
  rw [hd]
  by_cases hu : u = 42
  · subst hu
    have hl : idCh (0 + r.length) 42 = false := by simp [idCh]; decide
    have hs : hasSuf (r ++ [42]) [42] = true := suf_iff.2 ⟨r, rfl⟩
    rw [hl, hs, trim_of]
    have hx : idS r = (allFrom idCh 0 r && decide (1 ≤ r.length)) := by
      have : decide (r.length ≤ 64) = true := by simp; omega
      simp [idS, this]
    cases r with
    | nil => simp [allFrom]
    | cons a r' =>
      rw [hx]
      simp
  · have hne : ¬ ((u.toNat : Int) = 42) := fun e => hu (UInt8.toNat_inj.1 (by simpa using (by omega : u.toNat = 42)))
    have hs : hasSuf (r ++ [u]) [42] = false := by
      cases hx : hasSuf (r ++ [u]) [42] with
      | false => rfl
      | true =>
        obtain ⟨r', e⟩ := suf_iff.1 hx
        exact absurd (List.append_inj_right' e rfl) (by simpa using hu)
    have h42 : decide (r ++ [u] = [42]) = false := by
      rw [decide_eq_false_iff_not]; intro e
      have e2 : r ++ [u] = [] ++ [42] := e
      have := List.append_inj_right' e2 rfl
      exact hu (by simpa using this)
    rw [hs, h42]
    simp [idCh, hne]
/-! ### Matches, Covers -/
theorem openR {p : List UInt8} (h : 1 ≤ p.length) : decide (bat p ((p.length : Int) - 1) = 42) = hasSuf p [42] := by
  rw [Bool.eq_iff_iff, decide_eq_true_eq]; exact open_iff h
theorem beginsR (p q : List UInt8) : (decide ((q.length : Int) ≤ p.length) && decide (List.take (Int.toNat (q.length : Int)) p = q)) = hasPre p q := by
  simp [hasPre]
theorem matR_no {p s : List UInt8} (h : patS p = false) : matS p s = false := by simp [matS, h]
theorem matR_open {p s : List UInt8} (hp : patS p = true) (ho : hasSuf p [42] = true) : hasPre s (List.take (Int.toNat ((p.length : Int) - 1)) p) = matS p s := by
  rw [one_eq ho]; simp [matS, hp, ho]
theorem matR_shut {p s : List UInt8} (hp : patS p = true) (ho : hasSuf p [42] = false) : decide (s = p) = matS p s := by
  simp [matS, hp, ho, eq_comm]
theorem covR_no {p q : List UInt8} (h : (!patS p || !patS q) = true) : covS p q = false := by
  cases hp : patS p <;> cases hq : patS q <;> simp [covS, hp, hq] at h ⊢
theorem covR_shut {p q : List UInt8} (h : (!patS p || !patS q) = false) (ho : hasSuf q [42] = false) : matS p q = covS p q := by
  cases hp : patS p <;> cases hq : patS q <;> simp [covS, hp, hq, ho, trim_no ho] at h ⊢
theorem covR_open {p q : List UInt8} (h : (!patS p || !patS q) = false) (ho : hasSuf q [42] = true) :
    (hasSuf p [42] && hasPre (List.take (Int.toNat ((q.length : Int) - 1)) q) (List.take (Int.toNat ((p.length : Int) - 1)) p)) = covS p q := by
  rw [one_eq ho]
  cases hp : patS p <;> cases hq : patS q <;> simp [hp, hq] at h
  cases hop : hasSuf p [42]
  · simp [covS, ho, hop]
  · rw [one_eq hop]; simp [covS, hp, hq, ho, hop, matS]
/-! ### faasref01.form, faasref01.Parse -/
theorem form_no1 {p : List UInt8} (h : sgnS p = true) (h2 : bat (p.drop 1) 0 = 48) : decS p = false := by
  have hd : digs p = p.drop 1 := by simp [digs, h]
  have hp : p ≠ [48] := by rintro rfl; revert h; decide
  unfold decS
  rw [hd, h2]
  simp [hp]
theorem form_no2 {p dg : List UInt8} (hdg : digs p = dg) (h : (decide ((dg.length : Int) = 0) || (decide ((1 : Int) < dg.length) && decide (bat dg 0 = 48))) = true) : decS p = false := by
  simp only [Bool.or_eq_true, decide_eq_true_eq, Bool.and_eq_true] at h
  rcases h with h | ⟨h, h2⟩
  · have : dg = [] := List.eq_nil_of_length_eq_zero (by omega)
    simp [decS, hdg, this]
  · have hp : p ≠ [48] := by rintro rfl; have := digs_len [48]; rw [hdg] at this; simp at this; omega
    simp [decS, hdg, h2, hp]
theorem form_yes {p dg : List UInt8} (hdg : digs p = dg) (h0 : sgnS p = true → ¬ ((0 : Int) < dg.length ∧ bat dg 0 = 48)) (h : (decide ((dg.length : Int) = 0) || (decide ((1 : Int) < dg.length) && decide (bat dg 0 = 48))) = false) (ha : allFrom digCh 0 dg = true) : decS p = true := by
  simp only [Bool.or_eq_false_iff, decide_eq_false_iff_not, Bool.and_eq_false_iff] at h
  have hne : dg ≠ [] := by rintro rfl; exact h.1 rfl
  have hpos := len_pos hne
  simp only [decS, hdg, ha, Bool.and_true, Bool.not_eq_true', Bool.or_eq_false_iff, decide_eq_false_iff_not, hne, not_false_eq_true, true_and, Bool.and_eq_false_iff, Bool.not_eq_false', decide_eq_true_eq]
  by_cases h48 : bat dg 0 = 48
  · right
    cases hs : sgnS p
    · have hd : dg = p := by rw [← hdg]; simp [digs, hs]
      subst hd
      have hl : dg.length = 1 := by rcases h.2 with h | h <;> omega
      match dg, hl with
      | [u], _ =>
        have : (u.toNat : Int) = 48 := h48
        rw [show u = 48 from UInt8.toNat_inj.1 (by simpa using (by omega : u.toNat = 48))]
    · exact absurd ⟨hpos, h48⟩ (h0 hs)
  · exact .inl h48
/-- the reference's loop over the bytes -/
def runP : Nat → List UInt8 → Option Nat
  | n, [] => some n
  | n, u :: r => if u.toNat = 45 then runP n r else if 1000000000000 < 10 * n + (u.toNat - 48) then none else runP (10 * n + (u.toNat - 48)) r
theorem dec_byte {p : List UInt8} (h : decS p = true) {k : Nat} (hk : (k : Int) < p.length) (h45 : ¬ bat p k = 45) : 48 ≤ bat p k ∧ bat p k ≤ 57 := by
  simp only [decS, Bool.and_eq_true] at h
  obtain ⟨u, hu⟩ := get_of_lt hk
  rw [bat_of hu] at h45 ⊢
  have key : u ∈ digs p := by
    have hm := List.mem_of_getElem? hu
    unfold digs
    split
    · rename_i hs
      cases p with
      | nil => simp at hm
      | cons c r =>
        rcases List.mem_cons.1 hm with rfl | hm
        · simp only [sgnS, Bool.and_eq_true, decide_eq_true_eq] at hs
          exact absurd hs.2 h45
        · simpa using hm
    · exact hm
  obtain ⟨j, hj⟩ := all_mem h.2 u key
  simp [digCh] at hj; omega
def digB (l : List UInt8) : Prop := ∀ u ∈ l, 48 ≤ u.toNat ∧ u.toNat ≤ 57
theorem digB_of {l : List UInt8} (h : allFrom digCh 0 l = true) : digB l := fun u hu => by
  obtain ⟨j, hj⟩ := all_mem h u hu
  simp [digCh] at hj; omega
theorem pu_big : ∀ (l : List UInt8) (acc : Nat), digB l → 1000000000000 < acc → Lib.parseUint10 acc l = .range ∨ ∃ u, Lib.parseUint10 acc l = .ok u ∧ 1000000000000 < u
  | [], acc, _, h => .inr ⟨acc, rfl, h⟩
  | c :: r, acc, hd, h => by
    have hc := hd c (by simp)
    unfold Lib.parseUint10
    rw [if_pos hc]
    split
    · exact .inl rfl
    · split
      · exact .inl rfl
      · exact pu_big r _ (fun u hu => hd u (by simp [hu])) (by omega)
theorem pu_run : ∀ (l : List UInt8) (acc : Nat), digB l → acc ≤ 1000000000000 → (∃ u, runP acc l = some u ∧ Lib.parseUint10 acc l = .ok u ∧ u ≤ 1000000000000) ∨ (runP acc l = none ∧ (Lib.parseUint10 acc l = .range ∨ ∃ u, Lib.parseUint10 acc l = .ok u ∧ 1000000000000 < u))
  | [], acc, _, h => .inl ⟨acc, rfl, rfl, h⟩
  | c :: r, acc, hd, h => by
    have hc := hd c (by simp)
    have hr : digB r := fun u hu => hd u (by simp [hu])
    have e1 : Lib.parseUint10 acc (c :: r) = Lib.parseUint10 (acc * 10 + (c.toNat - 48)) r := by
      conv => lhs; unfold Lib.parseUint10
      rw [if_pos hc, if_neg (by omega), if_neg (by omega)]
    have e2 : runP acc (c :: r) = if 1000000000000 < acc * 10 + (c.toNat - 48) then none else runP (acc * 10 + (c.toNat - 48)) r := by
      conv => lhs; unfold runP
      rw [if_neg (by omega), show 10 * acc + (c.toNat - 48) = acc * 10 + (c.toNat - 48) from by omega]
    rw [e1, e2]
    by_cases hb : 1000000000000 < acc * 10 + (c.toNat - 48)
    · rw [if_pos hb]
      exact .inr ⟨rfl, pu_big r _ hr hb⟩
    · rw [if_neg hb]
      exact pu_run r _ hr (by omega)
theorem run_digs {p : List UInt8} : runP 0 p = runP 0 (digs p) := by
  unfold digs
  split
  · rename_i hs
    cases p with
    | nil => rfl
    | cons c r =>
      simp only [sgnS, Bool.and_eq_true, decide_eq_true_eq] at hs
      have : c.toNat = 45 := by have := hs.2; simp [bat] at this; omega
      simp [runP, this]
  · rfl
/-- what num.Parse answers, by the reference's loop -/
theorem parse_run {p : List UInt8} (h : decS p = true) : (∀ u, runP 0 p = some u → parseE p = 0 ∧ parseV p = if sgnS p = true then -(u : Int) else u) ∧ (runP 0 p = none → parseE p = 2 ∧ parseV p = 0) := by
  have h' := h
  simp only [decS, Bool.and_eq_true, Bool.not_eq_true', Bool.or_eq_false_iff, decide_eq_false_iff_not] at h'
  obtain ⟨⟨hne, _⟩, hall⟩ := h'
  have hrun := pu_run (digs p) 0 (digB_of hall) (by omega)
  have hmag : Lib.parseMag (digs p) = Lib.parseUint10 0 (digs p) := by unfold Lib.parseMag; rw [if_neg hne]
  have hat : Lib.atoiAll p = if sgnS p = true then Lib.signed (Lib.parseUint10 0 (digs p)) else Lib.signless (Lib.parseUint10 0 (digs p)) := by
    cases p with
    | nil => simp [digs, sgnS] at hne
    | cons c r =>
      cases hs : sgnS (c :: r)
      · have hd : digs (c :: r) = c :: r := by simp [digs, hs]
        rw [hd] at hall hmag ⊢
        have hc := digB_of hall c (by simp)
        rw [Lib.atoiAll_plain c r (by omega) (by omega), hmag]; simp
      · have hc : c = 45 := by
          simp only [sgnS, Bool.and_eq_true, decide_eq_true_eq] at hs
          exact UInt8.toNat_inj.1 (by have := hs.2; simp [bat] at this; simpa using (by omega : c.toNat = 45))
        subst hc
        have hd : digs (45 :: r) = r := by simp [digs, hs]
        rw [hd] at hmag ⊢
        rw [Lib.atoiAll_minus, hmag]; simp
  rw [run_digs]
  have hbig : ∀ u : Nat, 1000000000000 < u → ∀ v : Int, (v = u ∨ v = -(u : Int)) → validS v = false := fun u hu v hv => by
    rcases hv with rfl | rfl <;> simp [validS] <;> omega
  constructor
  · intro u hu
    rcases hrun with ⟨u', h1, h2, h3⟩ | ⟨h1, _⟩
    · rw [hu] at h1; cases h1
      rw [h2] at hat
      simp only [parseE, parseV, h, if_true, hat]
      cases sgnS p
      · have hv : validS (u : Int) = true := by simp [validS]; omega
        simp only [Bool.false_eq_true, if_false, Lib.signless]
        rw [if_neg (by omega)]; simp [hv]
      · have hv : validS (-(u : Int)) = true := by simp [validS]; omega
        simp only [if_true, Lib.signed]
        rw [if_neg (by omega)]; simp [hv]
    · rw [hu] at h1; cases h1
  · intro hn
    rcases hrun with ⟨u', h1, h2, h3⟩ | ⟨_, h1⟩
    · rw [hn] at h1; cases h1
    · simp only [parseE, parseV, h, if_true, hat]
      rcases h1 with h1 | ⟨u, h1, h2⟩
      · rw [h1]; cases sgnS p <;> simp [Lib.signed, Lib.signless]
      · rw [h1]
        cases sgnS p
        · simp only [Bool.false_eq_true, if_false, Lib.signless]
          by_cases h9 : 9223372036854775808 ≤ u <;> simp [h9, hbig u h2 _ (.inl rfl)]
        · simp only [if_true, Lib.signed]
          by_cases h9 : 9223372036854775808 < u <;> simp [h9, hbig u h2 _ (.inr rfl)]
theorem run_skip {p : List UInt8} {k n : Nat} (hk : (k : Int) < p.length) (hi : runP 0 p = runP n (p.drop k)) (h : bat p k = 45) : runP 0 p = runP n (p.drop (k + 1)) := by
  obtain ⟨u, hu⟩ := get_of_lt hk
  rw [bat_of hu] at h
  rw [hi, drop_cons hu, runP, if_pos (by omega)]
theorem run_go {p : List UInt8} {k n : Nat} (hd : decS p = true) (hk : (k : Int) < p.length) (hi : runP 0 p = runP n (p.drop k)) (h : ¬ bat p k = 45) (hle : ¬ (1000000000000 : Int) < 10 * (n : Int) + (bat p k - 48)) :
    (10 * (n : Int) + (bat p k - 48)) = ((10 * n + (bat p k - 48).toNat : Nat) : Int) ∧ runP 0 p = runP (10 * n + (bat p k - 48).toNat) (p.drop (k + 1)) ∧ 10 * n + (bat p k - 48).toNat ≤ 1000000000000 := by
  have hb := dec_byte hd hk h
  obtain ⟨u, hu⟩ := get_of_lt hk
  rw [bat_of hu] at h hle hb ⊢
  have e : ((u.toNat : Int) - 48).toNat = u.toNat - 48 := by omega
  refine ⟨by omega, ?_, by omega⟩
  rw [hi, drop_cons hu, runP, if_neg (by omega), if_neg (by omega), e]
theorem run_stop {p : List UInt8} {k n : Nat} (hd : decS p = true) (hk : (k : Int) < p.length) (hi : runP 0 p = runP n (p.drop k)) (h : ¬ bat p k = 45) (hle : (1000000000000 : Int) < 10 * (n : Int) + (bat p k - 48)) : runP 0 p = none := by
  have hb := dec_byte hd hk h
  obtain ⟨u, hu⟩ := get_of_lt hk
  rw [bat_of hu] at h hle hb
  rw [hi, drop_cons hu, runP, if_neg (by omega), if_pos (by omega)]
theorem run_next {p : List UInt8} {k n : Nat} (hd : decS p = true) (hk : (k : Int) < p.length) (hi : runP 0 p = runP n (p.drop k)) (hn : n ≤ 1000000000000) (h : bat p k = 45 ∨ ¬ (1000000000000 : Int) < 10 * (n : Int) + (bat p k - 48)) :
    ∃ n1 : Nat, (if decide (bat p k = 45) = true then (n : Int) else 10 * (n : Int) + (bat p k - 48)) = (n1 : Int) ∧ runP 0 p = runP n1 (p.drop (k + 1)) ∧ n1 ≤ 1000000000000 := by
  by_cases h45 : bat p k = 45
  · exact ⟨n, by simp [h45], run_skip hk hi h45, hn⟩
  · have hle := h.resolve_left h45
    obtain ⟨a, b, c⟩ := run_go hd hk hi h45 hle
    exact ⟨_, by rw [if_neg (by simpa using h45)]; exact a, b, c⟩
theorem run_end {p : List UInt8} {k n : Nat} (hi : runP 0 p = runP n (p.drop k)) (h : ¬ (k : Int) < p.length) : runP 0 p = some n := by
  rw [hi, List.drop_of_length_le (by omega)]; rfl
/-! ### find, ParseRef -/
def findN : List UInt8 → Int → Nat
  | [], _ => 0
  | u :: r, m => if (u.toNat : Int) = m then 0 else findN r m + 1
theorem findN_le : ∀ (p : List UInt8) (m : Int), findN p m ≤ p.length
  | [], _ => Nat.le_refl _
  | u :: r, m => by have := findN_le r m; unfold findN; split <;> simp; omega
theorem find_next {p : List UInt8} {m : Int} {k : Nat} (hi : k ≤ p.length ∧ findN p m = k + findN (p.drop k) m) (h : (k : Int) < p.length) (hm : ¬ bat p k = m) : k + 1 ≤ p.length ∧ findN p m = (k + 1) + findN (p.drop (k + 1)) m := by
  obtain ⟨u, hu⟩ := get_of_lt h
  rw [bat_of hu] at hm
  refine ⟨by omega, ?_⟩
  rw [hi.2, drop_cons hu, findN, if_neg hm]; omega
theorem find_end {p : List UInt8} {m : Int} {k : Nat} (hi : k ≤ p.length ∧ findN p m = k + findN (p.drop k) m) (h : (decide ((k : Int) < p.length) && !decide (bat p k = m)) = false) : (k : Int) = findN p m := by
  rw [hi.2]
  by_cases hk : (k : Int) < p.length
  · obtain ⟨u, hu⟩ := get_of_lt hk
    rw [bat_of hu] at h
    simp [hk] at h
    rw [drop_cons hu, findN, if_pos h]; omega
  · rw [List.drop_of_length_le (by omega)]; simp [findN]
theorem find_mid : ∀ (t : List UInt8) (c : UInt8) (r : List UInt8), c ∉ t → findN (t ++ c :: r) c.toNat = t.length
  | [], c, r, _ => by simp [findN]
  | x :: t, c, r, h => by
    have h1 : ¬ (x.toNat : Int) = c.toNat := fun e => h (by rw [UInt8.toNat_inj.1 (by omega : x.toNat = c.toNat)]; simp)
    have := find_mid t c r (fun e => h (by simp [e]))
    simp only [List.cons_append, findN, if_neg h1, this, List.length_cons]
theorem find_split {p : List UInt8} {c : UInt8} (h : findN p c.toNat < p.length) : p = p.take (findN p c.toNat) ++ c :: p.drop (findN p c.toNat + 1) ∧ c ∉ p.take (findN p c.toNat) := by
  induction p with
  | nil => simp [findN] at h
  | cons u r ih =>
    unfold findN at h ⊢
    by_cases hu : (u.toNat : Int) = c.toNat
    · have : u = c := UInt8.toNat_inj.1 (by omega)
      subst this
      simp
    · rw [if_neg hu] at h ⊢
      have hne : ¬ c = u := fun e => hu (by rw [e])
      obtain ⟨h1, h2⟩ := ih (by simpa using h)
      refine ⟨?_, ?_⟩
      · simp only [List.take_succ_cons, List.drop_succ_cons, List.cons_append]
        rw [← h1]
      · simp only [List.take_succ_cons, List.mem_cons, not_or]; exact ⟨hne, h2⟩
theorem find_ne {s : List UInt8} (h1 : (findN s 47 : Int) < s.length) : (findN s 47 : Int) ≠ findN s 58 := fun e => by
  have e' : findN s 47 = findN s 58 := by omega
  have n47 : ((47 : UInt8).toNat : Int) = 47 := rfl
  have n58 : ((58 : UInt8).toNat : Int) = 58 := rfl
  have s1 := find_split (p := s) (c := 47) (by rw [n47]; omega)
  have s2 := find_split (p := s) (c := 58) (by rw [n58]; omega)
  rw [n47] at s1; rw [n58] at s2
  have a1 := s1.1; have a2 := s2.1
  rw [e'] at a1
  have := List.append_cancel_left (a1.symm.trans a2)
  simp at this
theorem ref_shape {s : List UInt8} (h : prOk s = true) : ∃ t f q, s = t ++ 47 :: (f ++ 58 :: q) ∧ (47 : UInt8) ∉ t ∧ (58 : UInt8) ∉ t ∧ (58 : UInt8) ∉ f := by
  simp only [prOk, Bool.and_eq_true, decide_eq_true_eq] at h
  obtain ⟨h1, h2⟩ := h
  have hok : refOk (prT s) (prF s) (prQ s) = true := by
    unfold refE at h1
    split at h1
    · assumption
    · omega
  have hn := hok
  simp only [refOk, Bool.and_eq_true] at hn
  refine ⟨prT s, prF s, prQ s, ?_, name_not hn.1.1 (fun j => by simp [nameCh, smallS, digitS]), name_not hn.1.1 (fun j => by simp [nameCh, smallS, digitS]), name_not hn.1.2 (fun j => by simp [nameCh, smallS, digitS])⟩
  conv => lhs; rw [← h2]
  simp [refV, hok]
theorem prR_no {s : List UInt8} (h : (decide ((s.length : Int) ≤ findN s 47) || (decide ((s.length : Int) ≤ findN s 58) || decide ((findN s 58 : Int) < findN s 47))) = true) : prOk s = false := by
  cases hx : prOk s with
  | false => rfl
  | true =>
    obtain ⟨t, f, q, rfl, h1, h2, h3⟩ := ref_shape hx
    have e1 := find_mid t 47 (f ++ 58 :: q) h1
    have e2 := find_mid (t ++ 47 :: f) 58 q (by simp [h2, h3])
    rw [List.append_assoc] at e2
    simp only [List.cons_append] at e2
    have n47 : ((47 : UInt8).toNat : Int) = 47 := rfl
    have n58 : ((58 : UInt8).toNat : Int) = 58 := rfl
    rw [n47] at e1; rw [n58] at e2
    rw [e1, e2] at h
    simp at h; omega
theorem prR_parts {s : List UInt8} (h : (decide ((s.length : Int) ≤ findN s 47) || (decide ((s.length : Int) ≤ findN s 58) || decide ((findN s 58 : Int) < findN s 47))) = false) :
    prT s = s.take (Int.toNat (findN s 47 : Int)) ∧ prF s = List.take (Int.toNat (findN s 58 : Int) - Int.toNat ((findN s 47 : Int) + 1)) (List.drop (Int.toNat ((findN s 47 : Int) + 1)) s) ∧ prQ s = s.drop (Int.toNat ((findN s 58 : Int) + 1)) := by
  simp only [Bool.or_eq_false_iff, decide_eq_false_iff_not] at h
  obtain ⟨h1, h2, h3⟩ := h
  have n47 : ((47 : UInt8).toNat : Int) = 47 := rfl
  have n58 : ((58 : UInt8).toNat : Int) = 58 := rfl
  have s1 := find_split (p := s) (c := 47) (by rw [n47]; omega)
  have s2 := find_split (p := s) (c := 58) (by rw [n58]; omega)
  rw [n47] at s1; rw [n58] at s2
  have hne : findN s 47 ≠ findN s 58 := fun e => by
    have a1 := s1.1; have a2 := s2.1
    rw [e] at a1
    have := List.append_cancel_left (a1.symm.trans a2)
    simp at this
  have e1 : prT s = s.take (findN s 47) := by
    unfold prT
    conv => lhs; rw [s1.1]
    exact cutB_mid _ _ _ s1.2
  have e0 : cutA s 47 = s.drop (findN s 47 + 1) := by
    conv => lhs; rw [s1.1]
    exact cutA_mid _ _ _ s1.2
  have hlt : findN s 47 + 1 ≤ findN s 58 := by omega
  have d1 : s.drop (findN s 47 + 1) = (s.drop (findN s 47 + 1)).take (findN s 58 - (findN s 47 + 1)) ++ 58 :: s.drop (findN s 58 + 1) := by
    have a2 := congrArg (List.drop (findN s 47 + 1)) s2.1
    rw [List.drop_append_of_le_length (by rw [List.length_take]; have := findN_le s 58; omega), List.drop_take] at a2
    exact a2
  have hm : (58 : UInt8) ∉ (s.drop (findN s 47 + 1)).take (findN s 58 - (findN s 47 + 1)) := fun hm => by
    rw [← List.drop_take] at hm
    exact s2.2 (List.mem_of_mem_drop hm)
  have t1 : Int.toNat (findN s 47 : Int) = findN s 47 := by omega
  have t2 : Int.toNat (findN s 58 : Int) = findN s 58 := by omega
  have t3 : Int.toNat ((findN s 47 : Int) + 1) = findN s 47 + 1 := by omega
  have t4 : Int.toNat ((findN s 58 : Int) + 1) = findN s 58 + 1 := by omega
  rw [t1, t2, t3, t4]
  refine ⟨e1, ?_, ?_⟩
  · unfold prF
    rw [e0]
    conv => lhs; rw [d1]
    exact cutB_mid _ _ _ hm
  · unfold prQ
    rw [e0]
    conv => lhs; rw [d1]
    exact cutA_mid _ _ _ hm
/-- what the cut parts join to is the string -/
theorem prR_join {s : List UInt8} (h : (decide ((s.length : Int) ≤ findN s 47) || (decide ((s.length : Int) ≤ findN s 58) || decide ((findN s 58 : Int) < findN s 47))) = false) (h2 : refE (prT s) (prF s) (prQ s) = 0) : prOk s = true := by
  have hp := prR_parts h
  have hok : refOk (prT s) (prF s) (prQ s) = true := by
    unfold refE at h2
    split at h2
    · assumption
    · omega
  simp only [prOk, h2, decide_true, Bool.true_and, decide_eq_true_eq]
  simp only [Bool.or_eq_false_iff, decide_eq_false_iff_not] at h
  obtain ⟨h1, h3, h4⟩ := h
  have n47 : ((47 : UInt8).toNat : Int) = 47 := rfl
  have n58 : ((58 : UInt8).toNat : Int) = 58 := rfl
  have s1 := find_split (p := s) (c := 47) (by rw [n47]; omega)
  have s2 := find_split (p := s) (c := 58) (by rw [n58]; omega)
  rw [n47] at s1; rw [n58] at s2
  have hne : findN s 47 ≠ findN s 58 := fun e => by
    have a1 := s1.1; have a2 := s2.1
    rw [e] at a1
    have := List.append_cancel_left (a1.symm.trans a2)
    simp at this
  have hlt : findN s 47 + 1 ≤ findN s 58 := by omega
  have d1 : s.drop (findN s 47 + 1) = (s.drop (findN s 47 + 1)).take (findN s 58 - (findN s 47 + 1)) ++ 58 :: s.drop (findN s 58 + 1) := by
    have a2 := congrArg (List.drop (findN s 47 + 1)) s2.1
    rw [List.drop_append_of_le_length (by rw [List.length_take]; have := findN_le s 58; omega), List.drop_take] at a2
    exact a2
  have t1 : Int.toNat (findN s 47 : Int) = findN s 47 := by omega
  have t2 : Int.toNat (findN s 58 : Int) = findN s 58 := by omega
  have t3 : Int.toNat ((findN s 47 : Int) + 1) = findN s 47 + 1 := by omega
  have t4 : Int.toNat ((findN s 58 : Int) + 1) = findN s 58 + 1 := by omega
  rw [t1, t2, t3, t4] at hp
  simp only [refV, hok, if_true]
  rw [hp.1, hp.2.1, hp.2.2]
  have a1 := s1.1
  conv => rhs; rw [a1]; rw [d1]
  simp
/-! ### faasref01.Format -/
def fmtI (n m : Int) (s : List UInt8) : Prop := (s = [] ∧ m = n) ∨ (s ≠ [] ∧ Lib.decDigits n.natAbs = (if m = 0 then [] else Lib.decDigits m.natAbs) ++ s)
theorem fmt_digit (m : Int) : ∃ d1 : Nat, (if decide (m.tmod 10 < 0) = true then -(m.tmod 10) else m.tmod 10) = (d1 : Int) ∧ d1 = m.natAbs % 10 ∧ d1 < 10 := by
  refine ⟨m.natAbs % 10, ?_, rfl, by omega⟩
  by_cases h : 0 ≤ m
  · have := Int.tmod_eq_emod_of_nonneg (a := m) (b := 10) h
    rw [this, if_neg (by simp; omega)]; omega
  · have := Int.tmod_eq_emod_of_nonneg (a := -m) (b := 10) (by omega)
    rw [Int.neg_tmod] at this
    by_cases hz : m.tmod 10 = 0
    · rw [hz]; simp; omega
    · rw [if_pos (by simp; omega)]; omega
theorem fmt_piece {d : Nat} (h : d < 10) : List.take (Int.toNat ((d : Int) + 1) - Int.toNat (d : Int)) (List.drop (Int.toNat (d : Int)) [48, 49, 50, 51, 52, 53, 54, 55, 56, 57]) = [UInt8.ofNat (48 + d)] := by
  have key : ∀ d : Nat, d < 10 → List.take (Int.toNat ((d : Int) + 1) - Int.toNat (d : Int)) (List.drop (Int.toNat (d : Int)) ([48, 49, 50, 51, 52, 53, 54, 55, 56, 57] : List UInt8)) = [UInt8.ofNat (48 + d)] := by decide
  exact key d h
theorem tdiv_abs (m : Int) : (m.tdiv 10).natAbs = m.natAbs / 10 := by
  rw [Int.natAbs_tdiv]; rfl
theorem fmt_split (m : Int) (d1 : Nat) (h : d1 = m.natAbs % 10) : Lib.decDigits m.natAbs = (if m.tdiv 10 = 0 then [] else Lib.decDigits (m.tdiv 10).natAbs) ++ [UInt8.ofNat (48 + d1)] := by
  have hz : m.tdiv 10 = 0 ↔ m.natAbs < 10 := by
    rw [← Int.natAbs_eq_zero, tdiv_abs]; omega
  rw [tdiv_abs, Lib.decDigits]
  by_cases hs : m.natAbs < 10
  · rw [dif_pos hs, if_pos (hz.2 hs), h, Nat.mod_eq_of_lt hs]; rfl
  · rw [dif_neg hs, if_neg (fun e => hs (hz.1 e)), h]
theorem fmt_len {n m : Int} {s : List UInt8} (h0 : -9223372036854775808 ≤ n) (h1 : n ≤ 9223372036854775807) (hi : fmtI n m s) : s.length ≤ 21 := by
  rcases hi with ⟨rfl, _⟩ | ⟨_, h⟩
  · simp
  · have hl : (Lib.decDigits n.natAbs).length ≤ 21 := by
      have := itoa_len n h0 h1
      unfold Lib.itoa at this
      split at this
      · simp at this; omega
      · rwa [show n.toNat = n.natAbs from by omega] at this
    rw [h] at hl; simp at hl; omega
theorem fmt_next {n m : Int} {s : List UInt8} {d1 : Nat} (hi : fmtI n m s) (hc : (!decide (m = 0) || decide (s = [])) = true) (hd : d1 = m.natAbs % 10) :
    fmtI n (m.tdiv 10) (List.take (Int.toNat ((d1 : Int) + 1) - Int.toNat (d1 : Int)) (List.drop (Int.toNat (d1 : Int)) [48, 49, 50, 51, 52, 53, 54, 55, 56, 57]) ++ s) ∧
    (m.tdiv 10).natAbs + (if List.take (Int.toNat ((d1 : Int) + 1) - Int.toNat (d1 : Int)) (List.drop (Int.toNat (d1 : Int)) [48, 49, 50, 51, 52, 53, 54, 55, 56, 57]) ++ s = [] then 1 else 0) < m.natAbs + (if s = [] then 1 else 0) := by
  rw [fmt_piece (by omega)]
  have hs := fmt_split m d1 hd
  refine ⟨.inr ⟨by simp, ?_⟩, ?_⟩
  · rcases hi with ⟨rfl, rfl⟩ | ⟨h1, h2⟩
    · rw [hs]; simp
    · have hm : m ≠ 0 := by simpa [h1] using hc
      rw [h2, if_neg hm, hs]; simp
  · rw [if_neg (by simp), tdiv_abs]
    by_cases hm : m = 0
    · subst hm
      have : s = [] := by simpa using hc
      simp [this]
    · have : 0 < m.natAbs := by omega
      split <;> omega
theorem fmt_end {n m : Int} {s : List UInt8} (hi : fmtI n m s) (hc : (!decide (m = 0) || decide (s = [])) = false) : Lib.decDigits n.natAbs = s := by
  simp only [Bool.or_eq_false_iff, Bool.not_eq_false', decide_eq_true_eq, decide_eq_false_iff_not] at hc
  rcases hi with ⟨h, _⟩ | ⟨_, h⟩
  · exact absurd h hc.2
  · rw [h, if_pos hc.1]; rfl
theorem fmt_neg {n : Int} {s : List UInt8} (h : Lib.decDigits n.natAbs = s) (hn : n < 0) : [45] ++ s = Lib.itoa n := by
  unfold Lib.itoa; rw [if_pos hn, h]; rfl
theorem fmt_pos {n : Int} {s : List UInt8} (h : Lib.decDigits n.natAbs = s) (hn : ¬ n < 0) : s = Lib.itoa n := by
  unfold Lib.itoa; rw [if_neg hn, show n.toNat = n.natAbs from by omega, h]
/-! ### Parent -/
theorem last_at {p : List UInt8} {k : Nat} (hi : k ≤ p.length ∧ lastB p 46 = lastIx p 46 k) (h : (decide ((0 : Int) ≤ (k : Int) - 1) && !decide (bat p ((k : Int) - 1) = 46)) = false) : (k : Int) - 1 = lastB p 46 := by
  by_cases hk : (0 : Int) ≤ (k : Int) - 1
  · rw [decide_eq_true hk] at h; exact last_hit hi hk (by simpa using h)
  · have := last_end hi hk; omega
end Go.Proofs.YtjkdkmcklocmnaaGreatDoor
