/-
  What the functions of ident and num compute: plain functions on numbers and lists of bytes. No program in sight.
-/
namespace Go.Proofs.YtjkdkmcklocmnaaGreatDoor
def smallS (c : Int) : Bool := decide (97 ≤ c) && decide (c ≤ 122)
def digitS (c : Int) : Bool := decide (48 ≤ c) && decide (c ≤ 57)
def letterS (c : Int) : Bool := smallS c || digitS c || (decide (65 ≤ c) && decide (c ≤ 90)) || decide (c = 45) || decide (c = 95) || decide (c = 46) || decide (c = 58) || decide (c = 47)
def validS (n : Int) : Bool := decide (-1000000000000 ≤ n) && decide (n ≤ 1000000000000)
/-- The byte at place i, as a number. -/
def bat (p : List UInt8) (i : Int) : Int := ((p[i.toNat]?).getD 0).toNat
theorem bat_bd (p : List UInt8) (i : Int) : 0 ≤ bat p i ∧ bat p i ≤ 255 := by
  unfold bat
  have := ((p[i.toNat]?).getD 0).toNat_lt
  omega
theorem bat_of {p : List UInt8} {k : Nat} {u : UInt8} (h : p[k]? = some u) : bat p (k : Int) = u.toNat := by simp [bat, h]
/-- f at each place of a list, from place i on -/
def allFrom (f : Nat → UInt8 → Bool) : Nat → List UInt8 → Bool
  | _, [] => true
  | i, u :: r => f i u && allFrom f (i + 1) r
def nameCh (i : Nat) (u : UInt8) : Bool := smallS u.toNat || (!decide (i = 0) && (digitS u.toNat || decide ((u.toNat : Int) = 45) || decide ((u.toNat : Int) = 95)))
def idCh (_ : Nat) (u : UInt8) : Bool := letterS u.toNat
def nameS (p : List UInt8) : Bool := allFrom nameCh 0 p && decide (1 ≤ p.length) && decide (p.length ≤ 24)
def idS (p : List UInt8) : Bool := allFrom idCh 0 p && decide (1 ≤ p.length) && decide (p.length ≤ 64)
theorem drop_cons {p : List UInt8} {k : Nat} {u : UInt8} (h : p[k]? = some u) : p.drop k = u :: p.drop (k + 1) := by
  obtain ⟨h1, h2⟩ := List.getElem?_eq_some_iff.1 h
  rw [List.drop_eq_getElem_cons h1, h2]
/-- a round of a visit, character by character: t is the test -/
theorem rng_no {f : Nat → UInt8 → Bool} {p : List UInt8} {k : Nat} {u : UInt8} (hi : k ≤ p.length ∧ allFrom f 0 p = allFrom f k (p.drop k)) (h : p[k]? = some u) (ht : f k u = false) : allFrom f 0 p = false := by
  rw [hi.2, drop_cons h]; simp [allFrom, ht]
theorem rng_next {f : Nat → UInt8 → Bool} {p : List UInt8} {k : Nat} {u : UInt8} (hi : k ≤ p.length ∧ allFrom f 0 p = allFrom f k (p.drop k)) (h : p[k]? = some u) (ht : f k u = true) :
    (k + 1 ≤ p.length ∧ allFrom f 0 p = allFrom f (k + 1) (p.drop (k + 1))) ∧ p.length - (k + 1) < p.length - k := by
  have hk : k < p.length := (List.getElem?_eq_some_iff.1 h).1
  refine ⟨⟨hk, ?_⟩, by omega⟩
  rw [hi.2, drop_cons h]; simp [allFrom, ht]
theorem rng_yes {f : Nat → UInt8 → Bool} {p : List UInt8} {k : Nat} (hi : k ≤ p.length ∧ allFrom f 0 p = allFrom f k (p.drop k)) (h : p.length ≤ k) : allFrom f 0 p = true := by
  rw [hi.2, List.drop_of_length_le h]; rfl
/-- the test of ident.Name at character c, place k -/
def nameT (k c : Nat) : Bool := !(smallS c) && (decide ((k : Int) = 0) || (!(digitS c) && (!(decide ((c : Int) = 45)) && !(decide ((c : Int) = 95)))))
theorem name_test {k : Nat} {u : UInt8} {c wd : Nat} (hl : u.toNat < 128 → c = u.toNat ∧ wd = 1) (hh : 128 ≤ u.toNat → 128 ≤ c) : nameT k c = !nameCh k u := by
  rcases Nat.lt_or_ge u.toNat 128 with h | h
  · rw [(hl h).1]
    have e : decide ((k : Int) = 0) = decide (k = 0) := by simp
    simp only [nameT, nameCh, e]
    cases smallS u.toNat <;> cases decide (k = 0) <;> cases digitS u.toNat <;> simp
  · have h2 := hh h
    have e : ∀ m : Nat, 128 ≤ m → nameT k m = true := fun m hm => by
      simp [nameT, smallS, digitS]; omega
    have e2 : nameCh k u = false := by simp [nameCh, smallS, digitS]; omega
    rw [e c h2, e2]; rfl
theorem name_next {p : List UInt8} {k : Nat} {u : UInt8} {c wd : Nat} (hi : k ≤ p.length ∧ allFrom nameCh 0 p = allFrom nameCh k (p.drop k)) (h : p[k]? = some u) (hl : u.toNat < 128 → c = u.toNat ∧ wd = 1) (hh : 128 ≤ u.toNat → 128 ≤ c)
    (ht : nameT k c = false) : (k + wd ≤ p.length ∧ allFrom nameCh 0 p = allFrom nameCh (k + wd) (p.drop (k + wd))) ∧ p.length - (k + wd) < p.length - k := by
  rcases Nat.lt_or_ge u.toNat 128 with hu | hu
  · rw [(hl hu).2]; rw [name_test hl hh] at ht; exact rng_next hi h (by simpa using ht)
  · have h2 := hh hu
    simp [nameT, smallS, digitS] at ht; omega
theorem name_no {p : List UInt8} {k : Nat} {u : UInt8} {c wd : Nat} (hi : k ≤ p.length ∧ allFrom nameCh 0 p = allFrom nameCh k (p.drop k)) (h : p[k]? = some u) (hl : u.toNat < 128 → c = u.toNat ∧ wd = 1) (hh : 128 ≤ u.toNat → 128 ≤ c)
    (ht : nameT k c = true) : nameS p = false := by
  rw [name_test hl hh] at ht
  simp [nameS, rng_no hi h (by simpa using ht)]
theorem name_yes {p : List UInt8} {k : Nat} (hi : k ≤ p.length ∧ allFrom nameCh 0 p = allFrom nameCh k (p.drop k)) (h : p.length ≤ k) : nameS p = ((decide ((1 : Int) ≤ p.length)) && (decide ((p.length : Int) ≤ 24))) := by
  simp [nameS, rng_yes hi h]; grind
theorem id_test {k : Nat} {u : UInt8} {c wd : Nat} (hl : u.toNat < 128 → c = u.toNat ∧ wd = 1) (hh : 128 ≤ u.toNat → 128 ≤ c) : letterS c = idCh k u := by
  rcases Nat.lt_or_ge u.toNat 128 with h | h
  · rw [(hl h).1]; rfl
  · have h2 := hh h
    have e : ∀ m : Nat, 128 ≤ m → letterS m = false := fun m hm => by
      simp [letterS, smallS, digitS]; omega
    rw [e c h2]; exact (e _ h).symm
theorem id_next {p : List UInt8} {k : Nat} {u : UInt8} {c wd : Nat} (hi : k ≤ p.length ∧ allFrom idCh 0 p = allFrom idCh k (p.drop k)) (h : p[k]? = some u) (hl : u.toNat < 128 → c = u.toNat ∧ wd = 1) (hh : 128 ≤ u.toNat → 128 ≤ c)
    (ht : (!letterS c) = false) : (k + wd ≤ p.length ∧ allFrom idCh 0 p = allFrom idCh (k + wd) (p.drop (k + wd))) ∧ p.length - (k + wd) < p.length - k := by
  have ht' : letterS c = true := by simpa using ht
  rcases Nat.lt_or_ge u.toNat 128 with hu | hu
  · rw [(hl hu).2]; rw [id_test (k := k) hl hh] at ht'; exact rng_next hi h ht'
  · have h2 := hh hu
    simp [letterS, smallS, digitS] at ht'; omega
theorem id_no {p : List UInt8} {k : Nat} {u : UInt8} {c wd : Nat} (hi : k ≤ p.length ∧ allFrom idCh 0 p = allFrom idCh k (p.drop k)) (h : p[k]? = some u) (hl : u.toNat < 128 → c = u.toNat ∧ wd = 1) (hh : 128 ≤ u.toNat → 128 ≤ c)
    (ht : (!letterS c) = true) : idS p = false := by
  rw [id_test (k := k) hl hh] at ht
  simp [idS, rng_no hi h (by simpa using ht)]
theorem id_yes {p : List UInt8} {k : Nat} (hi : k ≤ p.length ∧ allFrom idCh 0 p = allFrom idCh k (p.drop k)) (h : p.length ≤ k) : idS p = ((decide ((1 : Int) ≤ p.length)) && (decide ((p.length : Int) ≤ 64))) := by
  simp [idS, rng_yes hi h]; grind
end Go.Proofs.YtjkdkmcklocmnaaGreatDoor
