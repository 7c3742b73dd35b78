/-
  The plain laws of ident: a reference's parts come back, a child's parent comes back, what covers covers. No program in sight.
-/
import Derived.Test.YtjkdkmcklocmnaaGreatDoorPlC
import Derived.Lib.ItoaMem
namespace Go.Proofs.YtjkdkmcklocmnaaGreatDoor
open Go
set_option linter.unusedVariables false
set_option linter.unusedSimpArgs false
/-! ### Cuts -/
theorem ix_mid : ∀ (t : List UInt8) (c : UInt8) (r : List UInt8), c ∉ t → Lib.indexByte (t ++ c :: r) c = t.length
  | [], c, r, _ => by simp [Lib.indexByte]
  | x :: t, c, r, h => by
    have h1 : ¬ x = c := fun e => h (by simp [e])
    have h2 := ix_mid t c r (fun e => h (by simp [e]))
    simp only [List.cons_append, Lib.indexByte, h2]
    rw [if_neg (by simpa using h1), if_neg (by simp)]
    simp
theorem cutB_mid (t : List UInt8) (c : UInt8) (r : List UInt8) (h : c ∉ t) : cutB (t ++ c :: r) c = t := by
  unfold cutB
  rw [ix_mid t c r h, if_pos (by omega)]
  simp
theorem cutA_mid (t : List UInt8) (c : UInt8) (r : List UInt8) (h : c ∉ t) : cutA (t ++ c :: r) c = r := by
  unfold cutA
  rw [ix_mid t c r h, if_pos (by omega)]
  have : ((t.length : Int) + 1).toNat = t.length + 1 := by omega
  rw [this]
  simp
theorem all_mem {f : Nat → UInt8 → Bool} : ∀ {l : List UInt8} {i : Nat}, allFrom f i l = true → ∀ u ∈ l, ∃ j, f j u = true
  | [], _, _, u, hu => by simp at hu
  | x :: r, i, h, u, hu => by
    simp only [allFrom, Bool.and_eq_true] at h
    rcases List.mem_cons.1 hu with rfl | hu
    · exact ⟨i, h.1⟩
    · exact all_mem h.2 u hu
theorem all_of {f : Nat → UInt8 → Bool} : ∀ {l : List UInt8} {i : Nat}, (∀ j, ∀ u ∈ l, f j u = true) → allFrom f i l = true
  | [], _, _ => rfl
  | x :: r, i, h => by simp only [allFrom, Bool.and_eq_true]; exact ⟨h i x (by simp), all_of fun j u hu => h j u (by simp [hu])⟩
theorem name_not {t : List UInt8} {c : UInt8} (h : nameS t = true) (hc : ∀ j, nameCh j c = false) : c ∉ t := fun hm => by
  simp only [nameS, Bool.and_eq_true] at h
  obtain ⟨j, hj⟩ := all_mem h.1.1 c hm
  rw [hc j] at hj; cases hj
theorem back_ref {t f q : List UInt8} (h : refE t f q = 0) : prOk (refV t f q) = true ∧ prT (refV t f q) = t ∧ prF (refV t f q) = f ∧ prQ (refV t f q) = q := by
  have hok : refOk t f q = true := by
    unfold refE at h
    split at h
    · assumption
    · omega
  have hn := hok
  simp only [refOk, Bool.and_eq_true] at hn
  have h47 : (47 : UInt8) ∉ t := name_not hn.1.1 (fun j => by simp [nameCh, smallS, digitS])
  have h58 : (58 : UInt8) ∉ f := name_not hn.1.2 (fun j => by simp [nameCh, smallS, digitS])
  have hv : refV t f q = t ++ 47 :: (f ++ 58 :: q) := by simp [refV, hok]
  have e1 : prT (refV t f q) = t := by rw [hv]; exact cutB_mid _ _ _ h47
  have e0 : cutA (refV t f q) 47 = f ++ 58 :: q := by rw [hv]; exact cutA_mid _ _ _ h47
  have e2 : prF (refV t f q) = f := by unfold prF; rw [e0]; exact cutB_mid _ _ _ h58
  have e3 : prQ (refV t f q) = q := by unfold prQ; rw [e0]; exact cutA_mid _ _ _ h58
  exact ⟨by simp [prOk, e1, e2, e3, h], e1, e2, e3⟩
/-! ### Numerals -/
theorem pu_snoc : ∀ (l : List UInt8) (acc v : Nat) (c : UInt8), Lib.parseUint10 acc l = .ok v → 48 ≤ c.toNat → c.toNat ≤ 57 → v < 1844674407370955161 → Lib.parseUint10 acc (l ++ [c]) = .ok (v * 10 + (c.toNat - 48))
  | [], acc, v, c, h, h0, h1, hv => by
    simp only [Lib.parseUint10, Lib.NumEnd.ok.injEq] at h; subst h
    simp only [List.nil_append, Lib.parseUint10]
    rw [if_pos ⟨h0, h1⟩, if_neg (by omega), if_neg (by omega)]
  | x :: r, acc, v, c, h, h0, h1, hv => by
    simp only [List.cons_append, Lib.parseUint10] at h ⊢
    split at h
    · rename_i hx
      rw [if_pos hx]
      split at h
      · cases h
      · rename_i hy
        rw [if_neg hy]
        split at h
        · cases h
        · rename_i hz
          rw [if_neg hz]
          exact pu_snoc r _ v c h h0 h1 hv
    · cases h
theorem of_dig {d : Nat} (h : d < 10) : (UInt8.ofNat (48 + d)).toNat = 48 + d := by
  simp [UInt8.toNat_ofNat']; omega
theorem dec_all (u : Nat) : ∀ c ∈ Lib.decDigits u, 48 ≤ c.toNat ∧ c.toNat ≤ 57 := by
  induction u using Nat.strongRecOn with
  | ind u ih =>
    intro c hc
    rw [Lib.decDigits] at hc
    split at hc
    · simp only [List.mem_singleton] at hc
      subst hc; rw [of_dig (by omega)]; omega
    · rcases List.mem_append.1 hc with hc | hc
      · exact ih (u / 10) (by omega) c hc
      · simp only [List.mem_singleton] at hc
        subst hc; rw [of_dig (by omega)]; omega
theorem dec_parse (u : Nat) : u < 18446744073709551610 → Lib.parseUint10 0 (Lib.decDigits u) = .ok u := by
  induction u using Nat.strongRecOn with
  | ind u ih =>
    intro hu
    rw [Lib.decDigits]
    split
    · rename_i h
      simp only [Lib.parseUint10]
      rw [of_dig h, if_pos (by omega), if_neg (by omega), if_neg (by omega)]
      congr 1; omega
    · rename_i h
      have := pu_snoc (Lib.decDigits (u / 10)) 0 (u / 10) (UInt8.ofNat (48 + u % 10)) (ih (u / 10) (by omega) (by omega)) (by rw [of_dig (by omega)]; omega) (by rw [of_dig (by omega)]; omega) (by omega)
      rw [this, of_dig (by omega)]
      congr 1; omega
theorem dec_ne (u : Nat) : Lib.decDigits u ≠ [] := by
  rw [Lib.decDigits]; split <;> simp
theorem dec_first (u : Nat) : 1 ≤ u → bat (Lib.decDigits u) 0 ≠ 48 := by
  induction u using Nat.strongRecOn with
  | ind u ih =>
    intro hu
    rw [Lib.decDigits]
    split
    · rename_i h
      have := of_dig h
      simp only [bat, Int.toNat_zero, List.getElem?_cons_zero, Option.getD_some]
      rw [this]; omega
    · rename_i h
      have h1 := ih (u / 10) (by omega) (by omega)
      have hne := dec_ne (u / 10)
      unfold bat at h1 ⊢
      rw [show (0 : Int).toNat = 0 from rfl] at h1 ⊢
      rwa [List.getElem?_append_left (by cases hd : Lib.decDigits (u / 10) with | nil => exact absurd hd hne | cons => simp)]
theorem dec_one (u : Nat) (h : u < 10) : Lib.decDigits u = [UInt8.ofNat (48 + u)] := by rw [Lib.decDigits]; simp [h]
theorem itoa_dec {m : Int} (h0 : 0 ≤ m) : Lib.itoa m = Lib.decDigits m.toNat := by
  have := Lib.itoa_nonneg m.toNat
  rwa [show ((m.toNat : Nat) : Int) = m from by omega] at this
theorem itoa_back {m : Int} (h0 : 0 ≤ m) (h1 : m ≤ 1000000000000) : parseE (Lib.itoa m) = 0 ∧ parseV (Lib.itoa m) = m := by
  rw [itoa_dec h0]
  generalize hu : m.toNat = u
  have hub : u ≤ 1000000000000 := by omega
  have hall := dec_all u
  have hne := dec_ne u
  have hd0 : ∃ c r, Lib.decDigits u = c :: r := by cases h : Lib.decDigits u with | nil => exact absurd h hne | cons c r => exact ⟨c, r, rfl⟩
  obtain ⟨c, r, hcr⟩ := hd0
  have hc : 48 ≤ c.toNat ∧ c.toNat ≤ 57 := hall c (by simp [hcr])
  have hs : sgnS (Lib.decDigits u) = false := by
    rw [hcr]
    have e : bat (c :: r) 0 = c.toNat := rfl
    simp only [sgnS, e, Bool.and_eq_false_iff, decide_eq_false_iff_not]
    right; omega
  have hdg : digs (Lib.decDigits u) = Lib.decDigits u := by simp [digs, hs]
  have hdec : decS (Lib.decDigits u) = true := by
    simp only [decS, hdg]
    have h2 : allFrom digCh 0 (Lib.decDigits u) = true := all_of fun j x hx => by
      have := hall x hx
      simp [digCh]; omega
    rw [h2]
    have h3 : decide (Lib.decDigits u = []) = false := by simpa using hne
    rw [h3]
    by_cases hz : u = 0
    · subst hz; rw [dec_one 0 (by omega)]; rfl
    · have := dec_first u (by omega)
      simp [this]
  have hat : Lib.atoiAll (Lib.decDigits u) = .ok (u : Int) := by
    have h4 := dec_parse u (by omega)
    rw [hcr] at h4 ⊢
    rw [Lib.atoiAll_plain c r (by omega) (by omega)]
    have : Lib.parseMag (c :: r) = .ok u := by unfold Lib.parseMag; rw [if_neg (by simp)]; exact h4
    rw [this]
    simp only [Lib.signless]
    rw [if_neg (by omega)]
  have hv : validS (u : Int) = true := by simp [validS]; omega
  simp only [parseE, parseV, hdec, if_true, hat, hv]
  exact ⟨trivial, by omega⟩
/-! ### Children -/
theorem lastIx_skip (p : List UInt8) (m : Int) : ∀ (k j : Nat), (∀ i, j ≤ i → i < k → bat p i ≠ m) → j ≤ k → lastIx p m k = lastIx p m j
  | 0, j, _, hjk => by have : j = 0 := by omega
                       subst this; rfl
  | k + 1, j, h, hjk => by
    by_cases e : j = k + 1
    · subst e; rfl
    · rw [lastIx, if_neg (h k (by omega) (by omega))]
      exact lastIx_skip p m k j (fun i h1 h2 => h i h1 (by omega)) (by omega)
theorem last_mid (a b : List UInt8) (c : UInt8) (h : c ∉ b) : lastB (a ++ [c] ++ b) c.toNat = a.length := by
  unfold lastB
  have hb : ∀ i : Nat, a.length + 1 ≤ i → i < (a ++ [c] ++ b).length → bat (a ++ [c] ++ b) i ≠ c.toNat := fun i h1 h2 e => by
    have hg : (a ++ [c] ++ b)[i]? = b[i - (a.length + 1)]? := by rw [List.getElem?_append_right (by simpa using h1)]; simp
    have hlt : i - (a.length + 1) < b.length := by simp at h2; omega
    unfold bat at e
    rw [show ((i : Int)).toNat = i from by omega, hg, List.getElem?_eq_getElem hlt] at e
    simp only [Option.getD_some] at e
    have : b[i - (a.length + 1)] = c := UInt8.toNat_inj.1 (by omega)
    exact h (this ▸ List.getElem_mem hlt)
  rw [lastIx_skip _ _ _ (a.length + 1) hb (by simp), lastIx, if_pos]
  simp [bat]
theorem back_child {id : List UInt8} {m : Int} (h : childE id m = 0) : parOk (childV id m) = true ∧ parP (childV id m) = id ∧ parseV (parN (childV id m)) = m ∧ idS (childV id m) = true := by
  have hk : idS id = true ∧ (0 ≤ m ∧ m ≤ 1000000000000) ∧ (childL id m).length ≤ 64 := by
    unfold childE at h
    split at h
    · split at h
      · split at h
        · exact ⟨by assumption, by assumption, by assumption⟩
        · omega
      · omega
    · omega
  obtain ⟨h1, ⟨h2, h3⟩, h4⟩ := hk
  have hv : childV id m = id ++ [46] ++ Lib.itoa m := by simp [childV, h, childL]
  have hdig : ∀ c ∈ Lib.itoa m, 48 ≤ c.toNat ∧ c.toNat ≤ 57 := by rw [itoa_dec h2]; exact dec_all _
  have hl : lastB (childV id m) 46 = id.length := by
    rw [hv]
    exact last_mid id (Lib.itoa m) 46 (fun hm => by have := hdig _ hm; simp at this)
  have e1 : parP (childV id m) = id := by unfold parP; rw [hl, hv]; simp
  have e2 : parN (childV id m) = Lib.itoa m := by
    unfold parN; rw [hl, hv, show ((id.length : Int) + 1).toNat = id.length + 1 from by omega]; simp
  obtain ⟨b1, b2⟩ := itoa_back h2 h3
  refine ⟨?_, e1, by rw [e2]; exact b2, ?_⟩
  · simp only [parOk, e1, e2, b1, b2, h, hl]
    simp
  · have hs := h1
    simp only [idS, Bool.and_eq_true] at hs ⊢
    refine ⟨⟨all_of fun j u hu => ?_, ?_⟩, ?_⟩
    · rw [hv] at hu
      rcases List.mem_append.1 hu with hu | hu
      · rcases List.mem_append.1 hu with hu | hu
        · obtain ⟨i, hi⟩ := all_mem hs.1.1 u hu; exact hi
        · simp only [List.mem_singleton] at hu; subst hu; show letterS 46 = true; decide
      · have := hdig u hu
        simp [idCh, letterS, digitS, smallS]; omega
    · rw [hv]; simp; omega
    · rw [hv]; simpa [childL] using h4
/-! ### Patterns -/
theorem pre_iff {p q : List UInt8} : hasPre p q = true ↔ q <+: p := by
  simp only [hasPre, Bool.and_eq_true, decide_eq_true_eq]
  constructor
  · rintro ⟨_, h⟩; rw [← h]; exact List.take_prefix _ _
  · intro h; exact ⟨h.length_le, (List.prefix_iff_eq_take.1 h).symm⟩
theorem suf_iff {p : List UInt8} {c : UInt8} : hasSuf p [c] = true ↔ ∃ r, p = r ++ [c] := by
  simp only [hasSuf, Bool.and_eq_true, decide_eq_true_eq]
  constructor
  · rintro ⟨_, h⟩
    refine ⟨p.take (p.length - 1), ?_⟩
    rw [show (p.length - [c].length) = p.length - 1 from rfl] at h
    have := List.take_append_drop (p.length - 1) p
    rw [h] at this
    exact this.symm
  · rintro ⟨r, rfl⟩; simp
theorem trim_of (r : List UInt8) (c : UInt8) : trimSuf (r ++ [c]) [c] = r := by
  have : hasSuf (r ++ [c]) [c] = true := suf_iff.2 ⟨r, rfl⟩
  simp [trimSuf, this]
theorem trim_no {p q : List UInt8} (h : hasSuf p q = false) : trimSuf p q = p := by simp [trimSuf, h]
theorem cov_refl (p : List UInt8) : covS p p = patS p := by
  unfold covS matS
  cases hp : patS p
  · simp
  · cases ho : hasSuf p [42]
    · simp [trim_no ho]
    · have : hasPre (trimSuf p [42]) (trimSuf p [42]) = true := pre_iff.2 (List.prefix_refl _)
      simp [this]
theorem cov_parts {p q : List UInt8} (h : covS p q = true) : patS p = true ∧ patS q = true ∧ (hasSuf q [42] = true → hasSuf p [42] = true) ∧ matS p (trimSuf q [42]) = true := by
  simp only [covS, Bool.and_eq_true] at h
  refine ⟨h.1, h.2.1, fun hq => ?_, h.2.2.2⟩
  have := h.2.2.1
  simp [hq] at this; exact this
theorem mat_open {p s : List UInt8} (hp : patS p = true) (ho : hasSuf p [42] = true) : matS p s = true ↔ trimSuf p [42] <+: s := by simp [matS, hp, ho, pre_iff]
theorem mat_shut {p s : List UInt8} (hp : patS p = true) (ho : hasSuf p [42] = false) : matS p s = true ↔ p = s := by simp [matS, hp, ho]
theorem mat_pat {p s : List UInt8} (h : matS p s = true) : patS p = true := by simp only [matS, Bool.and_eq_true] at h; exact h.1
/-- what q reaches p reaches -/
theorem cov_reach {p q s : List UInt8} (h : covS p q = true) (hs : matS q s = true) : matS p s = true := by
  obtain ⟨hp, hq, ho, hm⟩ := cov_parts h
  cases hop : hasSuf p [42]
  · have hoq : hasSuf q [42] = false := by cases hx : hasSuf q [42] with | false => rfl | true => exact absurd (ho hx) (by simp [hop])
    rw [mat_shut hp hop] at hm ⊢
    rw [mat_shut hq hoq] at hs
    rw [hm, trim_no hoq, hs]
  · rw [mat_open hp hop] at hm ⊢
    cases hoq : hasSuf q [42]
    · rw [mat_shut hq hoq] at hs
      rw [trim_no hoq, hs] at hm; exact hm
    · rw [mat_open hq hoq] at hs; exact hm.trans hs
theorem cov_trans {p q r : List UInt8} (h : covS p q = true) (h2 : covS q r = true) : covS p r = true := by
  obtain ⟨hp, hq, ho, hm⟩ := cov_parts h
  obtain ⟨_, hr, ho2, hm2⟩ := cov_parts h2
  have hx := cov_reach h hm2
  simp only [covS, hp, hr, hx, Bool.and_true, Bool.true_and]
  cases hor : hasSuf r [42]
  · rfl
  · rw [ho (ho2 hor)]; rfl
theorem pat_pos {q : List UInt8} (h : patS q = true) : 1 ≤ q.length := by
  cases q with
  | nil => revert h; decide
  | cons a r => simp
theorem open_iff {q : List UInt8} (h : 1 ≤ q.length) : bat q ((q.length : Int) - 1) = 42 ↔ hasSuf q [42] = true := by
  have e : ((q.length : Int) - 1).toNat = q.length - 1 := by omega
  have h1 : q.length - 1 < q.length := by omega
  unfold bat
  rw [e, List.getElem?_eq_getElem h1, Option.getD_some]
  have hd : q.drop (q.length - 1) = [q[q.length - 1]] := by rw [List.drop_eq_getElem_cons h1, List.drop_of_length_le (by omega)]
  simp only [hasSuf, List.length_cons, List.length_nil, Nat.zero_add, hd, Bool.and_eq_true, decide_eq_true_eq, h, true_and, List.cons.injEq, and_true]
  constructor
  · intro hx; exact UInt8.toNat_inj.1 (by simpa using (by omega : q[q.length - 1].toNat = 42))
  · intro hx; rw [hx]; rfl
theorem one_eq {q : List UInt8} (ho : hasSuf q [42] = true) : q.take ((q.length : Int) - 1).toNat = trimSuf q [42] := by
  obtain ⟨r, rfl⟩ := suf_iff.1 ho
  rw [trim_of]
  simp
theorem mat_self {q : List UInt8} (hq : patS q = true) (ho : hasSuf q [42] = false) : matS q q = true := (mat_shut hq ho).2 rfl
theorem mat_one {q x : List UInt8} (hq : patS q = true) (ho : hasSuf q [42] = true) : matS q (trimSuf q [42] ++ x) = true := (mat_open hq ho).2 (List.prefix_append _ _)
theorem cov_no {p q : List UInt8} (hp : patS p = true) (hq : patS q = true) (ho : hasSuf q [42] = false) (h : matS p q = true) : covS p q = true := by
  simp [covS, hp, hq, ho, trim_no ho, h]
theorem cov_no2 {p q : List UInt8} {c : UInt8} (hp : patS p = true) (hq : patS q = true) (ho : hasSuf q [42] = true) (h : matS p (trimSuf q [42]) = true) (h2 : matS p (trimSuf q [42] ++ [c]) = true) : covS p q = true := by
  cases hop : hasSuf p [42]
  · rw [mat_shut hp hop] at h h2
    rw [← h] at h2
    have := congrArg List.length h2
    simp at this
  · simp [covS, hp, hq, ho, hop, h]
end Go.Proofs.YtjkdkmcklocmnaaGreatDoor
