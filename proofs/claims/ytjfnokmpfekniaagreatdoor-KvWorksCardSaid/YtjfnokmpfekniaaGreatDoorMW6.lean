/-
  Texts of the proof, put together: PN, PO, LkA, LkB, LkC, LkD, LkE, LkF, LwWorks.
-/
import Derived.Test.YtjfnokmpfekniaaGreatDoorMW5
import Derived.Sort.Walk0
/-
 The order of byte strings; maps as lists that ascend by their keys. Plain laws.
-/
namespace Go.Proofs.YtjfnokmpfekniaaGreatDoor
open Go
set_option linter.unusedVariables false
set_option linter.unusedSimpArgs false
theorem sl_irr : ∀ a : Str, sLess a a = false
 | [] => rfl
 | x :: a => by
  show Op.bytesLess (x :: a) (x :: a) = false
  have h : ¬ x < x := fun h => absurd h (by simp)
  have ih : Op.bytesLess a a = false := sl_irr a
  simp [Op.bytesLess, h, ih]
theorem sl_cons (x y : UInt8) (a b : Str) : sLess (x :: a) (y :: b) = (decide (x < y) || (decide (x = y) && sLess a b)) := by
 show Op.bytesLess (x :: a) (y :: b) = _
 simp only [Op.bytesLess]
 by_cases h : x < y
 ·simp [h]
 ·by_cases e : x = y
  ·subst e; simp [h]
  ·have : y < x := by
    rcases Nat.lt_trichotomy x.toNat y.toNat with h1 | h1 | h1
    ·exact absurd (UInt8.lt_iff_toNat_lt.2 h1) h
    ·exact absurd (UInt8.toNat_inj.1 h1) e
    ·exact UInt8.lt_iff_toNat_lt.2 h1
   simp [h, e, this]
theorem sl_trans : ∀ {a b c : Str}, sLess a b = true → sLess b c = true → sLess a c = true
 | [], [], _, h, _ => by cases h
 | [], _ :: _, [], _, h => by cases h
 | [], _ :: _, _ :: _, _, _ => rfl
 | _ :: _, [], _, h, _ => by cases h
 | _ :: _, _ :: _, [], _, h => by cases h
 | x :: a, y :: b, z :: c, h, h' => by
  rw [sl_cons] at h h' ⊢
  simp only [Bool.or_eq_true, decide_eq_true_eq, Bool.and_eq_true] at h h' ⊢
  have t : ∀ {u v : UInt8}, u < v ↔ u.toNat < v.toNat := UInt8.lt_iff_toNat_lt
  rcases h with h | ⟨rfl, h⟩
  ·rcases h' with h' | ⟨rfl, h'⟩
   ·exact .inl (t.2 (Nat.lt_trans (t.1 h) (t.1 h')))
   ·exact .inl h
  ·rcases h' with h' | ⟨rfl, h'⟩
   ·exact .inl h'
   ·exact .inr ⟨rfl, sl_trans h h'⟩
theorem sl_total : ∀ (a b : Str), sLess a b = true ∨ a = b ∨ sLess b a = true
 | [], [] => .inr (.inl rfl)
 | [], _ :: _ => .inl rfl
 | _ :: _, [] => .inr (.inr rfl)
 | x :: a, y :: b => by
  rw [sl_cons, sl_cons]
  simp only [Bool.or_eq_true, decide_eq_true_eq, Bool.and_eq_true]
  rcases Nat.lt_trichotomy x.toNat y.toNat with h1 | h1 | h1
  ·exact .inl (.inl (UInt8.lt_iff_toNat_lt.2 h1))
  ·have e := UInt8.toNat_inj.1 h1
   subst e
   rcases sl_total a b with h | rfl | h
   ·exact .inl (.inr ⟨rfl, h⟩)
   ·exact .inr (.inl rfl)
   ·exact .inr (.inr (.inr ⟨rfl, h⟩))
  ·exact .inr (.inr (.inl (UInt8.lt_iff_toNat_lt.2 h1)))
theorem sl_asymm {a b : Str} (h : sLess a b = true) : sLess b a = false := by
 cases h' : sLess b a with
 | false => rfl
 | true => have := sl_trans h h'; rw [sl_irr] at this; cases this
theorem sl_ne {a b : Str} (h : sLess a b = true) : a ≠ b := fun e => by subst e; rw [sl_irr] at h; cases h
section
variable {T : Type}
def Ms (xs : List (Str × T)) : Prop := xs.Pairwise fun p q => sLess p.1 q.1 = true
theorem Ms.nil : Ms ([] : List (Str × T)) := List.Pairwise.nil
theorem Ms.nodup {xs : List (Str × T)} (h : Ms xs) : (xs.map (·.1)).Nodup := by
 rw [List.Nodup, List.pairwise_map]
 exact h.imp fun hpq => sl_ne hpq
theorem mget_eq_none {xs : List (Str × T)} {k : Str} : mget xs k = none ↔ ∀ p ∈ xs, p.1 ≠ k := by
 induction xs with
 | nil => simp [mget]
 | cons p r ih =>
  rw [mget]
  by_cases h : p.1 = k
  ·rw [decide_eq_true h]; simp [h]
  ·rw [decide_eq_false h]; simp [h, ih]
theorem mget_some_mem {xs : List (Str × T)} {k : Str} {v : T} (h : mget xs k = some v) : (k, v) ∈ xs := by
 induction xs with
 | nil => cases h
 | cons p r ih =>
  rw [mget] at h
  by_cases e : p.1 = k
  ·rw [decide_eq_true e] at h; cases h; subst e; exact List.mem_cons_self ..
  ·rw [decide_eq_false e] at h; exact List.mem_cons_of_mem _ (ih h)
theorem mget_mem_nodup {xs : List (Str × T)} {k : Str} {v : T} (hn : (xs.map (·.1)).Nodup) (h : (k, v) ∈ xs) : mget xs k = some v := by
 induction xs with
 | nil => cases h
 | cons p r ih =>
  rw [List.map_cons, List.nodup_cons] at hn
  rw [mget]
  rcases List.mem_cons.1 h with h | h
  ·subst h; rw [decide_eq_true rfl]; rfl
  ·have hne : ¬ p.1 = k := fun e => hn.1 (by rw [e]; exact List.mem_map.2 ⟨(k, v), h, rfl⟩)
   rw [decide_eq_false hne]; exact ih hn.2 h
theorem mget_mput (xs : List (Str × T)) (k k' : Str) (v : T) : mget (mput xs k v) k' = bif decide (k' = k) then (mget xs k).map (fun _ => v) else mget xs k' := by
 induction xs with
 | nil => cases decide (k' = k) <;> rfl
 | cons p r ih =>
  show mget ((bif decide (p.1 = k) then (k, v) else p) :: mput r k v) k' = _
  by_cases h : p.1 = k
  ·rw [decide_eq_true h]
   simp only [cond_true, mget]
   by_cases e : k' = k
   ·subst e; rw [decide_eq_true rfl, h, decide_eq_true rfl]; rfl
   ·rw [decide_eq_false (Ne.symm e), decide_eq_false e, ih, decide_eq_false e, h, decide_eq_false (Ne.symm e)]; rfl
  ·rw [decide_eq_false h]
   simp only [cond_false, mget]
   rw [ih]
   by_cases e : k' = k
   ·subst e; rw [decide_eq_true rfl, decide_eq_false h]; rfl
   ·rw [decide_eq_false e]
    cases decide (p.1 = k') <;> rfl
theorem mget_mins (xs : List (Str × T)) (k k' : Str) (v : T) (h : mget xs k = none) : mget (mins k v xs) k' = bif decide (k' = k) then some v else mget xs k' := by
 induction xs with
 | nil =>
  show (bif decide (k = k') then some v else none) = bif decide (k' = k) then some v else none
  by_cases e : k' = k
  ·rw [decide_eq_true e, decide_eq_true e.symm]
  ·rw [decide_eq_false e, decide_eq_false (Ne.symm e)]
 | cons p r ih =>
  rw [mget] at h
  by_cases hk : p.1 = k
  ·rw [decide_eq_true hk] at h; cases h
  ·rw [decide_eq_false hk] at h
   rw [mins]
   cases sLess k p.1 with
   | true =>
    simp only [cond_true, mget]
    by_cases e : k' = k
    ·subst e; rw [decide_eq_true rfl]
     try rfl
    ·rw [decide_eq_false e, decide_eq_false (Ne.symm e)]
     try rfl
   | false =>
    simp only [cond_false, mget]
    rw [ih h]
    by_cases e : k' = k
    ·subst e; rw [decide_eq_true rfl, decide_eq_false hk]; rfl
    ·rw [decide_eq_false e]
     cases decide (p.1 = k') <;> rfl
theorem mget_mset (xs : List (Str × T)) (k k' : Str) (v : T) : mget (mset xs k v) k' = bif decide (k' = k) then some v else mget xs k' := by
 unfold mset mhas
 cases h : mget xs k with
 | none => exact mget_mins xs k k' v h
 | some w =>
  simp only [Option.isSome_some, cond_true]
  rw [mget_mput, h]
  cases decide (k' = k) <;> rfl
theorem mget_mdel (xs : List (Str × T)) (k k' : Str) : mget (mdel xs k) k' = bif decide (k' = k) then none else mget xs k' := by
 unfold mdel
 induction xs with
 | nil => cases decide (k' = k) <;> rfl
 | cons p r ih =>
  by_cases h : p.1 = k
  ·rw [List.filter_cons_of_neg (by simp [h]), ih, mget]
   by_cases e : k' = k
   ·rw [decide_eq_true e]; rfl
   ·rw [decide_eq_false e, h, decide_eq_false (Ne.symm e)]; rfl
  ·rw [List.filter_cons_of_pos (by simp [h]), mget, mget, ih]
   by_cases e : k' = k
   ·rw [decide_eq_true e, e, decide_eq_false h]; rfl
   ·rw [decide_eq_false e]
    cases decide (p.1 = k') <;> rfl
theorem mem_mins {k : Str} {v : T} {q : Str × T} : ∀ {xs : List (Str × T)}, q ∈ mins k v xs → q = (k, v) ∨ q ∈ xs
 | [], h => by simp [mins] at h; exact .inl h
 | p :: r, h => by
  rw [mins] at h
  cases hs : sLess k p.1 with
  | true => rw [hs] at h; simpa using h
  | false =>
   rw [hs] at h
   rcases List.mem_cons.1 h with h | h
   ·exact .inr (by rw [h]; exact List.mem_cons_self ..)
   ·rcases mem_mins h with h | h
    ·exact .inl h
    ·exact .inr (List.mem_cons_of_mem _ h)
theorem Ms.mins {k : Str} {v : T} : ∀ {xs : List (Str × T)}, Ms xs → mget xs k = none → Ms (mins k v xs)
 | [], _, _ => List.pairwise_singleton ..
 | p :: r, h, hk => by
  obtain ⟨h1, h2⟩ := List.pairwise_cons.1 h
  rw [mget] at hk
  by_cases e : p.1 = k
  ·rw [decide_eq_true e] at hk; cases hk
  ·rw [decide_eq_false e] at hk
   rw [Proofs.YtjfnokmpfekniaaGreatDoor.mins]
   cases hs : sLess k p.1 with
   | true => exact List.pairwise_cons.2 ⟨fun q hq => by
     rcases List.mem_cons.1 hq with rfl | hq
     ·exact hs
     ·exact sl_trans hs (h1 q hq), h⟩
   | false =>
    have hp : sLess p.1 k = true := by
     rcases sl_total p.1 k with h | h | h
     ·exact h
     ·exact absurd h e
     ·rw [h] at hs; cases hs
    exact List.pairwise_cons.2 ⟨fun q hq => by
     rcases mem_mins hq with rfl | hq
     ·exact hp
     ·exact h1 q hq, Ms.mins h2 hk⟩
theorem Ms.mput {xs : List (Str × T)} (h : Ms xs) (k : Str) (v : T) : Ms (mput xs k v) := by
 unfold Proofs.YtjfnokmpfekniaaGreatDoor.mput
 unfold Ms
 rw [List.pairwise_map]
 refine h.imp fun {p q} hpq => ?_
 have e : ∀ p : Str × T, (bif decide (p.1 = k) then (k, v) else p).1 = p.1 := fun p => by
  by_cases hp : p.1 = k
  ·rw [decide_eq_true hp]; exact hp.symm
  ·rw [decide_eq_false hp]; rfl
 rw [e, e]; exact hpq
theorem Ms.mset {xs : List (Str × T)} (h : Ms xs) (k : Str) (v : T) : Ms (mset xs k v) := by
 unfold Proofs.YtjfnokmpfekniaaGreatDoor.mset mhas
 cases hk : mget xs k with
 | none => exact h.mins hk
 | some w => exact h.mput k v
theorem Ms.mdel {xs : List (Str × T)} (h : Ms xs) (k : Str) : Ms (mdel xs k) := h.sublist (List.filter_sublist ..)
theorem Ms.ext : ∀ {xs ys : List (Str × T)}, Ms xs → Ms ys → (∀ k, mget xs k = mget ys k) → xs = ys
 | [], [], _, _, _ => rfl
 | [], q :: s, _, _, h => by
  have := h q.1
  rw [mget, mget, decide_eq_true rfl] at this; cases this
 | p :: r, [], _, _, h => by
  have := h p.1
  rw [mget, mget, decide_eq_true rfl] at this; cases this
 | p :: r, q :: s, hx, hy, h => by
  obtain ⟨x1, x2⟩ := List.pairwise_cons.1 hx
  obtain ⟨y1, y2⟩ := List.pairwise_cons.1 hy
  have hpq : p.1 = q.1 := by
   have a1 := h p.1
   have a2 := h q.1
   rw [mget, decide_eq_true rfl] at a1
   rw [show mget (q :: s) q.1 = bif decide (q.1 = q.1) then some q.2 else mget s q.1 from rfl, decide_eq_true rfl] at a2
   simp only [cond_true] at a1 a2
   have m1 := mget_some_mem a1.symm
   have m2 := mget_some_mem a2
   rcases List.mem_cons.1 m1 with e | m1
   ·exact congrArg Prod.fst e
   ·rcases List.mem_cons.1 m2 with e | m2
    ·exact (congrArg Prod.fst e).symm
    ·have c1 := y1 _ m1
     have c2 := x1 _ m2
     have := sl_trans c1 c2
     rw [sl_irr] at this; cases this
  have e : p = q := by
   have a1 := h p.1
   rw [mget, decide_eq_true rfl, mget, decide_eq_true hpq.symm] at a1
   simp only [cond_true, Option.some.injEq] at a1
   exact Prod.ext hpq a1
  subst e
  rw [Ms.ext x2 y2 fun k => by
   have a1 := h k
   rw [mget, mget] at a1
   by_cases e : p.1 = k
   ·have n1 : mget r k = none := mget_eq_none.2 fun z hz e' => by have := x1 z hz; rw [e', ← e, sl_irr] at this; cases this
    have n2 : mget s k = none := mget_eq_none.2 fun z hz e' => by have := y1 z hz; rw [e', ← e, sl_irr] at this; cases this
    rw [n1, n2]
   ·rw [decide_eq_false e] at a1; exact a1]
theorem mins_length (k : Str) (v : T) (xs : List (Str × T)) : (mins k v xs).length = xs.length + 1 := (mins_perm k v xs).length_eq
theorem mset_length (xs : List (Str × T)) (k : Str) (v : T) : (mset xs k v).length = bif mhas xs k then xs.length else xs.length + 1 := by
 unfold mset
 cases mhas xs k with
 | true => simp [mput]
 | false => simp [mins_length]
theorem mdel_length {xs : List (Str × T)} (h : Ms xs) (k : Str) : (mdel xs k).length = bif mhas xs k then xs.length - 1 else xs.length := by
 induction xs with
 | nil => rfl
 | cons p r ih =>
  obtain ⟨h1, h2⟩ := List.pairwise_cons.1 h
  unfold mdel mhas at *
  rw [mget]
  by_cases e : p.1 = k
  ·have hn : r.filter (fun q => !decide (q.1 = k)) = r := List.filter_eq_self.2 fun q hq => by
    have := h1 q hq
    have hne : q.1 ≠ k := fun e' => by rw [e', ← e, sl_irr] at this; cases this
    simp [hne]
   rw [List.filter_cons_of_neg (by simp [e]), hn, decide_eq_true e]; rfl
  ·rw [List.filter_cons_of_pos (by simp [e]), decide_eq_false e, List.length_cons, ih h2]
   cases hg : mget r k with
   | none => rfl
   | some w =>
    have := mget_some_mem hg
    have : 0 < r.length := List.length_pos_of_mem this
    show r.length - 1 + 1 = (r.length + 1) - 1
    omega
end
end Go.Proofs.YtjfnokmpfekniaaGreatDoor

/-
 Rounds over a map that do the same in any order. Plain laws.
-/
namespace Go.Proofs.YtjfnokmpfekniaaGreatDoor
open Go
set_option linter.unusedVariables false
set_option linter.unusedSimpArgs false
theorem lfe_fold {T St R : Type} (body : T → St → Option (Stp St (Out R St))) (g : T → St → St) (I : St → Prop) : ∀ (ord : List T) (s : St), I s → (∀ p ∈ ord, ∀ s, I s → body p s = some (.next (g p s)) ∧ I (g p s)) → lfe body ord s = some (.go (ord.foldl (fun s p => g p s) s)) ∧ I (ord.foldl (fun s p => g p s) s)
 | [], s, hi, _ => ⟨rfl, hi⟩
 | p :: r, s, hi, h => by
  obtain ⟨h1, h2⟩ := h p (List.mem_cons_self ..) s hi
  obtain ⟨h3, h4⟩ := lfe_fold body g I r (g p s) h2 fun q hq => h q (List.mem_cons_of_mem _ hq)
  exact ⟨by rw [lfe, h1]; exact h3, h4⟩
section
variable {T : Type}
theorem mget_perm {xs ys : List (Str × T)} (h : ys.Perm xs) (hn : (xs.map (·.1)).Nodup) (k : Str) : mget ys k = mget xs k := by
 have hn' : (ys.map (·.1)).Nodup := (h.map _).nodup_iff.2 hn
 cases e : mget xs k with
 | none => exact mget_eq_none.2 fun p hp => (mget_eq_none.1 e) p (h.subset hp)
 | some v => exact mget_mem_nodup hn' (h.symm.subset (mget_some_mem e))
def apF (del : T → Bool) (xs : List (Str × T)) (p : Str × T) : List (Str × T) := bif del p.2 then mdel xs p.1 else mset xs p.1 p.2
theorem apF_ms {del : T → Bool} {xs : List (Str × T)} (h : Ms xs) (p : Str × T) : Ms (apF del xs p) := by
 unfold apF
 cases del p.2 with
 | true => exact h.mdel _
 | false => exact h.mset _ _
theorem apFs_ms {del : T → Bool} : ∀ (ord : List (Str × T)) {xs : List (Str × T)}, Ms xs → Ms (ord.foldl (apF del) xs)
 | [], _, h => h
 | p :: r, _, h => apFs_ms r (apF_ms h p)
theorem mget_apF {del : T → Bool} (xs : List (Str × T)) (p : Str × T) (k : Str) : mget (apF del xs p) k = bif decide (k = p.1) then (bif del p.2 then none else some p.2) else mget xs k := by
 unfold apF
 cases del p.2 with
 | true => exact mget_mdel xs p.1 k
 | false => exact mget_mset xs p.1 k p.2
theorem mget_apFs {del : T → Bool} : ∀ (ord : List (Str × T)) (xs : List (Str × T)) (k : Str), (ord.map (·.1)).Nodup → mget (ord.foldl (apF del) xs) k = match mget ord k with
  | none => mget xs k
  | some v => bif del v then none else some v
 | [], xs, k, _ => rfl
 | p :: r, xs, k, h => by
  rw [List.map_cons, List.nodup_cons] at h
  rw [List.foldl_cons, mget_apFs r _ k h.2, mget, mget_apF]
  by_cases e : p.1 = k
  ·have hn : mget r k = none := mget_eq_none.2 fun q hq e' => h.1 (by rw [e, ← e']; exact List.mem_map.2 ⟨q, hq, rfl⟩)
   rw [hn, decide_eq_true e, decide_eq_true e.symm]; rfl
  ·rw [decide_eq_false e, decide_eq_false (Ne.symm e)]; rfl
theorem apFs_perm {del : T → Bool} {xs ys zs : List (Str × T)} (hz : Ms zs) (hx : Ms xs) (h : ys.Perm xs) : ys.foldl (apF del) zs = xs.foldl (apF del) zs :=
 Ms.ext (apFs_ms ys hz) (apFs_ms xs hz) fun k => by
  rw [mget_apFs ys zs k ((h.map _).nodup_iff.2 hx.nodup), mget_apFs xs zs k hx.nodup, mget_perm h hx.nodup]
end
end Go.Proofs.YtjfnokmpfekniaaGreatDoor

/-
 What the store of the package kv computes. Plain laws.
-/
namespace Go.Proofs.YtjfnokmpfekniaaGreatDoor
open Go
set_option linter.unusedVariables false
set_option linter.unusedSimpArgs false
theorem ou_go {R V : Type} (K : V → Option R) (v : V) : oute K (.go v) = K v := rfl
theorem ou_ret {R V : Type} (K : V → Option R) (r : R) : oute K (.ret r) = some r := rfl
theorem lop_scan {α R U : Type} [Inhabited α] (l : List α) (P : α → Prop) (B : R → Prop) (u : U) (body : Int → Option (Stp Int (Out R U)))
  (h1 : ∀ (x : Int) (c : α), 0 ≤ x → x < (l.length : Int) → c ∈ l → at' l x = c → (body x = some (.next (x + 1)) ∧ P c) ∨ ∃ q, body x = some (.out (.ret q)) ∧ B q)
  (h2 : body (l.length : Int) = some (.out (.go u))) {F : Nat} (hF : l.length < F) :
  ∃ o, lop body F 0 = some o ∧ ((∃ q, o = .ret q ∧ B q) ∨ (o = .go u ∧ ∀ c ∈ l, P c)) := by
 refine lop_ind (fun x => 0 ≤ x ∧ x ≤ (l.length : Int) ∧ ∀ c ∈ l.take x.toNat, P c) (fun x => l.length - x.toNat) _ (fun x ⟨h0, hl, ha⟩ => ?_) F 0 ⟨Int.le_refl 0, by omega, by simp⟩ (by show l.length - 0 < F; omega)
 by_cases hx : x < (l.length : Int)
 ·obtain ⟨c, hc⟩ : ∃ c, l[x.toNat]? = some c := ⟨l[x.toNat]'(by omega), List.getElem?_eq_getElem (by omega)⟩
  have hat : at' l x = c := by simp [at', hc]
  rcases h1 x c h0 hx (List.mem_of_getElem? hc) hat with ⟨hb, hp⟩ | ⟨q, hb, hq⟩
  ·refine .inl ⟨x + 1, hb, ⟨by omega, by omega, fun d hd => ?_⟩, by omega⟩
   rw [show (x + 1).toNat = x.toNat + 1 from by omega, List.take_add_one, hc] at hd
   simp only [Option.toList_some, List.mem_append, List.mem_cons, List.not_mem_nil, or_false] at hd
   rcases hd with hd | rfl
   ·exact ha d hd
   ·exact hp
  ·exact .inr ⟨.ret q, hb, .inl ⟨q, rfl, hq⟩⟩
 ·have e : x = (l.length : Int) := by omega
  subst e
  refine .inr ⟨.go u, h2, .inr ⟨rfl, fun c hc => ha c ?_⟩⟩
  rw [show ((l.length : Int)).toNat = l.length from by omega, List.take_length]; exact hc
/-! ### small changes -/
structure SmC (c : TApiChange) : Prop where
 key : c.fKey.length ≤ 300
 val : c.fValue.length ≤ 300
 cells : ∀ x ∈ c.fValue, x.fStr.length ≤ 5000
structure SmP (l : List TApiChange) : Prop where
 len : l.length ≤ 300
 all : ∀ c ∈ l, SmC c
theorem lSmall_t {F : Nat} (hF : 5000 < F) (l : List TApiChange) : ∃ b, lSmall F l = some b ∧ (b = true → SmP l) := by
 unfold lSmall
 by_cases hl : (300 : Int) < (l.length : Int)
 ·rw [cnd_tt (decide_eq_true hl)]
  exact ⟨false, rfl, fun h => by cases h⟩
 ·rw [cnd_ff (decide_eq_false hl)]
  obtain ⟨o, h1, h2⟩ := lop_scan l SmC (fun q => q = false) () (fun σ => lSmall_b1 F l σ) (fun x c h0 hx hc hat => by
   by_cases hk : (300 : Int) < (c.fKey.length : Int) ∨ (300 : Int) < (c.fValue.length : Int)
   ·refine .inr ⟨false, ?_, rfl⟩
    show lSmall_b1 F l x = _
    unfold lSmall_b1
    rw [cnd_tt (decide_eq_true hx), chk_inR h0 hx, hat, cnd_tt (by simpa using hk)]
   ·obtain ⟨o, g1, g2⟩ := lop_scan c.fValue (fun y => y.fStr.length ≤ 5000) (fun q => q = .out (.ret false)) (((c.fValue.length : Int)), decide ((c.fValue.length : Int) < (c.fValue.length : Int))) (fun σ => lSmall_b2 l x σ) (fun y d y0 yx yc yat => by
     by_cases hd : (5000 : Int) < (d.fStr.length : Int)
     ·refine .inr ⟨_, ?_, rfl⟩
      show lSmall_b2 l x y = _
      unfold lSmall_b2
      rw [hat, cnd_tt (decide_eq_true yx), chk_inR y0 yx, yat, cnd_tt (decide_eq_true hd)]
     ·refine .inl ⟨?_, by omega⟩
      show lSmall_b2 l x y = _
      unfold lSmall_b2
      rw [hat, cnd_tt (decide_eq_true yx), chk_inR y0 yx, yat, cnd_ff (decide_eq_false hd), chk_i64 (by omega) (by omega)]) (by
     show lSmall_b2 l x _ = _
     unfold lSmall_b2
     rw [hat, cnd_ff (decide_eq_false (by omega))]) (F := F) (by omega)
    have hb : lSmall_b1 F l x = obn (some o) (oute fun ν => lSmall_k2 x ν.1 ν.2) := by
     unfold lSmall_b1
     rw [cnd_tt (decide_eq_true hx), chk_inR h0 hx, g1, hat, cnd_ff (by simpa using hk)]
    rcases g2 with ⟨q, rfl, rfl⟩ | ⟨rfl, g⟩
    ·exact .inr ⟨false, hb, rfl⟩
    ·refine .inl ⟨?_, ⟨by omega, by omega, g⟩⟩
     show lSmall_b1 F l x = _
     rw [hb, obn_s rfl, ou_go]
     unfold lSmall_k2
     rw [chk_i64 (by omega) (by omega)]) (by
   show lSmall_b1 F l _ = _
   unfold lSmall_b1
   rw [cnd_ff (decide_eq_false (by omega))]) (F := F) (by omega)
  rw [obn_s h1]
  rcases h2 with ⟨q, rfl, rfl⟩ | ⟨rfl, h⟩
  ·exact ⟨false, rfl, fun h => by cases h⟩
  ·exact ⟨true, rfl, fun _ => ⟨by omega, h⟩⟩
theorem lFew_t {F : Nat} (hF : 5000 < F) (l : List (List TApiChange)) : ∃ b, lFew F l = some b ∧ (b = true → l.length ≤ 30 ∧ ∀ m ∈ l, SmP m) := by
 unfold lFew
 by_cases hl : (30 : Int) < (l.length : Int)
 ·rw [cnd_tt (decide_eq_true hl)]
  exact ⟨false, rfl, fun h => by cases h⟩
 ·rw [cnd_ff (decide_eq_false hl)]
  obtain ⟨o, h1, h2⟩ := lop_scan l SmP (fun q => q = false) () (fun σ => lFew_b1 F l σ) (fun x m h0 hx hm hat => by
   obtain ⟨b, hb, hs⟩ := lSmall_t hF m
   have e : lFew_b1 F l x = cnd (!b) (some (.out (.ret false))) (some (.next (x + 1))) := by
    unfold lFew_b1
    rw [cnd_tt (decide_eq_true hx), chk_inR h0 hx, hat, hb, obn_s rfl, chk_i64 (by omega) (by omega)]
   cases b with
   | false => exact .inr ⟨false, e, rfl⟩
   | true => exact .inl ⟨e, hs rfl⟩) (by
   show lFew_b1 F l _ = _
   unfold lFew_b1
   rw [cnd_ff (decide_eq_false (by omega))]) (F := F) (by omega)
  rw [obn_s h1]
  rcases h2 with ⟨q, rfl, rfl⟩ | ⟨rfl, h⟩
  ·exact ⟨false, rfl, fun h => by cases h⟩
  ·exact ⟨true, rfl, fun _ => ⟨by omega, h⟩⟩
/-! ### changes that are checked -/
structure OkC (c : TApiChange) : Prop where
 iv : -9223372036854775808 ≤ c.fIfVersion ∧ c.fIfVersion ≤ 9223372036854775807
 cells : ∀ x ∈ c.fValue, inK .i64 x.fInt = true ∧ x.fN ≤ 9223372036854775807
theorem errV_ne {v : List TApiCell} : errV v ≠ 19 := by
 unfold errV
 cases whole v with
 | none => decide
 | some f =>
  show errF f ≠ 19
  unfold errF
  cases f.flat.any outC with
  | true => show (2 : Int) ≠ 19; decide
  | false =>
   simp only [cond_false]
   cases (f.flat.any longC || (decide (200 < f.flat.length) || (decide (8 < f.dep) || decide (4000 < (f.txt true).length)))) <;> decide
theorem kCheck_t {F : Nat} (hF : 5000 < F) {c : TApiChange} (hs : SmC c) (ho : OkC c) : ∃ e, kCheck F c = some e ∧ e ≠ 19 := by
 have hA : CkA 5000 c.fValue := ⟨by decide, by have := hs.val; omega, fun x hx => ⟨hs.cells x hx, (ho.cells x hx).1, (ho.cells x hx).2⟩⟩
 unfold kCheck
 rw [vCheck_eq hA (by decide) hF, obn_s rfl]
 cases idS c.fKey with
 | false => exact ⟨4, rfl, by decide⟩
 | true =>
  rw [cnd_ff (p := !true) rfl]
  cases (decide (c.fIfVersion < (-1)) || decide (1000000000000 < c.fIfVersion)) with
  | true => exact ⟨2, rfl, by decide⟩
  | false =>
   rw [cnd_ff rfl]
   cases (c.fDelete && decide (0 < (c.fValue.length : Int))) with
   | true => exact ⟨7, rfl, by decide⟩
   | false =>
    rw [cnd_ff rfl]
    cases c.fDelete with
    | true => exact ⟨0, rfl, by decide⟩
    | false => exact ⟨_, rfl, errV_ne⟩
theorem kValid_t {F : Nat} (hF : 5000 < F) {l : List TApiChange} (hs : SmP l) (ho : ∀ c ∈ l, OkC c) : ∃ e, kValid F l = some e ∧ e ≠ 19 := by
 have hl := hs.len
 unfold kValid
 by_cases h2 : (256 : Int) < (l.length : Int)
 ·rw [cnd_tt (decide_eq_true h2)]
  exact ⟨3, rfl, by decide⟩
 ·rw [cnd_ff (decide_eq_false h2)]
  obtain ⟨o, h1, h2⟩ := lop_scan l (fun _ => True) (fun q => q ≠ 19) () (fun σ => kValid_b1 F l σ) (fun x c h0 hx hc hat => by
   obtain ⟨e, he, hne⟩ := kCheck_t hF (hs.all c hc) (ho c hc)
   have hb : kValid_b1 F l x = cnd (!decide (e = 0)) (some (.out (.ret e))) (some (.next (x + 1))) := by
    unfold kValid_b1
    rw [cnd_tt (decide_eq_true hx), chk_inR h0 hx, hat, he, obn_s rfl, chk_i64 (by omega) (by omega)]
   cases hd : decide (e = 0) with
   | false => exact .inr ⟨e, by rw [hd] at hb; exact hb, hne⟩
   | true => exact .inl ⟨by rw [hd] at hb; exact hb, trivial⟩) (by
   show kValid_b1 F l _ = _
   unfold kValid_b1
   rw [cnd_ff (decide_eq_false (by omega))]) (F := F) (by omega)
  rw [obn_s h1]
  rcases h2 with ⟨q, rfl, hq⟩ | ⟨rfl, h⟩
  ·exact ⟨q, rfl, hq⟩
  ·exact ⟨0, rfl, by decide⟩
/-! ### one change -/
def zI : TApiItem := ⟨[], [], 0⟩
def curI (q : TKvStore) (k : Str) : TApiItem := (mget q.fChanged k).getD ((mget q.fItems k).getD zI)
def chg (q : TKvStore) (c : TApiChange) (size : Int) : Int × Int × TKvStore :=
 bif (decide (0 ≤ c.fIfVersion)) && (!decide (c.fIfVersion = (curI q c.fKey).fVersion)) then (0, 19, q) else
 bif c.fDelete then (bif decide (0 < (curI q c.fKey).fVersion) then size - 1 else size, 0, ⟨q.fItems, mset q.fChanged c.fKey zI⟩) else
 bif (decide ((curI q c.fKey).fVersion = 0)) && (decide (256 ≤ size)) then (0, 3, q) else
 bif decide (1000000000000 ≤ (curI q c.fKey).fVersion) then (0, 8, q) else
 (bif decide ((curI q c.fKey).fVersion = 0) then size + 1 else size, 0, ⟨q.fItems, mset q.fChanged c.fKey ⟨c.fKey, c.fValue, (curI q c.fKey).fVersion + 1⟩⟩)
theorem kNow_eq (q : TKvStore) (k : Str) : kNow q k = some (curI q k, q) := by
 unfold kNow curI mhas mval
 cases mget q.fChanged k <;> rfl
theorem cloneN_eq {ys : List TApiCell} (h : ys.length ≤ 1000000) : cloneN ys = some ys := by
 unfold cloneN
 rw [chk_t (by unfold inA; simp only [List.length_nil, decide_eq_true_eq]; omega)]; rfl
theorem kChange_eq {q : TKvStore} {c : TApiChange} {size : Int} (hs : -1000000000 ≤ size ∧ size ≤ 1000000000) (hv : 0 ≤ (curI q c.fKey).fVersion) (hl : c.fValue.length ≤ 300) : kChange q c size = some (chg q c size) := by
 unfold kChange chg kChange_j1
 rw [kNow_eq, obn_s rfl, cloneN_eq (by omega)]
 generalize curI q c.fKey = x at hv
 simp only
 cases (decide (0 ≤ c.fIfVersion) && !decide (c.fIfVersion = x.fVersion)) with
 | true => rfl
 | false =>
  rw [cnd_ff rfl]
  cases c.fDelete with
  | true =>
   rw [cnd_tt rfl]
   cases decide (0 < x.fVersion) with
   | true => rw [cnd_tt rfl, chk_i64 (by omega) (by omega)]; rfl
   | false => rfl
  | false =>
   rw [cnd_ff rfl]
   cases (decide (x.fVersion = 0) && decide (256 ≤ size)) with
   | true => rfl
   | false =>
    rw [cnd_ff rfl]
    cases hb : decide ((1000000000000 : Int) ≤ x.fVersion) with
    | true => rfl
    | false =>
     have hb' := of_decide_eq_false hb
     rw [cnd_ff rfl]
     cases decide (x.fVersion = 0) with
     | true => rw [cnd_tt rfl, chk_i64 (by omega) (by omega), obn_s rfl, chk_i64 (by omega) (by omega)]; rfl
     | false => rw [cnd_ff rfl, obn_s rfl, chk_i64 (by omega) (by omega)]; rfl
/-! ### what is kept -/
theorem mem_mset {T : Type} {xs : List (Str × T)} {k : Str} {v : T} {p : Str × T} (h : p ∈ mset xs k v) : p = (k, v) ∨ p ∈ xs := by
 unfold mset at h
 cases hh : mhas xs k with
 | false => rw [hh] at h; exact mem_mins h
 | true =>
  rw [hh] at h
  obtain ⟨q, hq, e⟩ := List.mem_map.1 h
  cases hk : decide (q.1 = k) with
  | true => rw [hk] at e; exact .inl e.symm
  | false => rw [hk] at e; exact .inr (e ▸ hq)
theorem mem_mdel {T : Type} {xs : List (Str × T)} {k : Str} {p : Str × T} (h : p ∈ mdel xs k) : p ∈ xs := (List.mem_filter.1 h).1
theorem mem_apF {T : Type} {del : T → Bool} {xs : List (Str × T)} {q p : Str × T} (h : p ∈ apF del xs q) : p ∈ xs ∨ (p = q ∧ del p.2 = false) := by
 unfold apF at h
 cases hd : del q.2 with
 | true => rw [hd] at h; exact .inl (mem_mdel h)
 | false =>
  rw [hd] at h
  rcases mem_mset h with e | h
  ·exact .inr ⟨e, by rw [e]; exact hd⟩
  ·exact .inl h
theorem mem_apFs {T : Type} {del : T → Bool} {p : Str × T} : ∀ {ord xs : List (Str × T)}, p ∈ ord.foldl (apF del) xs → p ∈ xs ∨ (p ∈ ord ∧ del p.2 = false)
 | [], xs, h => .inl h
 | q :: r, xs, h => by
  rcases mem_apFs (ord := r) h with h | ⟨h, h'⟩
  ·rcases mem_apF h with h2 | ⟨h2, h3⟩
   ·exact .inl h2
   ·exact .inr ⟨by rw [h2]; exact List.mem_cons_self .., h3⟩
  ·exact .inr ⟨List.mem_cons_of_mem _ h, h'⟩
structure IOk (xs : List (Str × TApiItem)) : Prop where
 ms : Ms xs
 ok : ∀ p ∈ xs, 0 ≤ p.2.fVersion ∧ p.2.fVersion ≤ 1000000000000 ∧ p.2.fValue.length ≤ 300
theorem IOk.nil : IOk [] := ⟨Ms.nil, fun _ h => by cases h⟩
theorem IOk.set {xs : List (Str × TApiItem)} (h : IOk xs) {k : Str} {v : TApiItem} (hv : 0 ≤ v.fVersion ∧ v.fVersion ≤ 1000000000000 ∧ v.fValue.length ≤ 300) : IOk (mset xs k v) :=
 ⟨h.ms.mset k v, fun p hp => by
  rcases mem_mset hp with rfl | hp
  ·exact hv
  ·exact h.ok p hp⟩
theorem zI_ok : 0 ≤ zI.fVersion ∧ zI.fVersion ≤ 1000000000000 ∧ zI.fValue.length ≤ 300 := by decide
theorem IOk.get {xs : List (Str × TApiItem)} (h : IOk xs) (k : Str) : 0 ≤ ((mget xs k).getD zI).fVersion ∧ ((mget xs k).getD zI).fVersion ≤ 1000000000000 ∧ ((mget xs k).getD zI).fValue.length ≤ 300 := by
 cases e : mget xs k with
 | none => exact zI_ok
 | some v => exact h.ok _ (mget_some_mem e)
theorem curI_ok {q : TKvStore} (h1 : IOk q.fItems) (h2 : IOk q.fChanged) (k : Str) : 0 ≤ (curI q k).fVersion ∧ (curI q k).fVersion ≤ 1000000000000 ∧ (curI q k).fValue.length ≤ 300 := by
 unfold curI
 cases e : mget q.fChanged k with
 | none => exact h1.get k
 | some v => exact h2.ok _ (mget_some_mem e)
theorem chg_ok {q : TKvStore} {c : TApiChange} {size : Int} (h1 : IOk q.fItems) (h2 : IOk q.fChanged) (hl : c.fValue.length ≤ 300) :
  (chg q c size).2.2.fItems = q.fItems ∧ IOk (chg q c size).2.2.fChanged ∧ (chg q c size).2.2.fChanged.length ≤ q.fChanged.length + 1 ∧ ((chg q c size).2.1 = 0 → size - 1 ≤ (chg q c size).1 ∧ (chg q c size).1 ≤ size + 1) := by
 have hc := curI_ok h1 h2 c.fKey
 have hm : ∀ v : TApiItem, (mset q.fChanged c.fKey v).length ≤ q.fChanged.length + 1 := fun v => by rw [mset_length]; cases mhas q.fChanged c.fKey <;> simp
 unfold chg
 generalize curI q c.fKey = x at hc
 cases (decide (0 ≤ c.fIfVersion) && !decide (c.fIfVersion = x.fVersion)) with
 | true => exact ⟨rfl, h2, Nat.le_succ _, fun h => by cases h⟩
 | false =>
  cases c.fDelete with
  | true =>
   refine ⟨rfl, h2.set zI_ok, hm _, fun _ => ?_⟩
   show size - 1 ≤ (bif decide (0 < x.fVersion) then size - 1 else size) ∧ (bif decide (0 < x.fVersion) then size - 1 else size) ≤ size + 1
   cases decide (0 < x.fVersion) <;> simp only [cond_true, cond_false] <;> omega
  | false =>
   cases (decide (x.fVersion = 0) && decide (256 ≤ size)) with
   | true => exact ⟨rfl, h2, Nat.le_succ _, fun h => by cases h⟩
   | false =>
    cases hb : decide ((1000000000000 : Int) ≤ x.fVersion) with
    | true => exact ⟨rfl, h2, Nat.le_succ _, fun h => by cases h⟩
    | false =>
     have hb' := of_decide_eq_false hb
     refine ⟨rfl, h2.set ⟨?_, ?_, hl⟩, hm _, fun _ => ?_⟩
     ·show 0 ≤ x.fVersion + 1; omega
     ·show x.fVersion + 1 ≤ 1000000000000; omega
     ·show size - 1 ≤ (bif decide (x.fVersion = 0) then size + 1 else size) ∧ (bif decide (x.fVersion = 0) then size + 1 else size) ≤ size + 1
      cases decide (x.fVersion = 0) <;> simp only [cond_true, cond_false] <;> omega
/-! ### a list of changes -/
def chgs : List TApiChange → Int → TKvStore → Int × TKvStore
 | [], _, q => (0, q)
 | c :: r, size, q => bif !decide ((chg q c size).2.1 = 0) then ((chg q c size).2.1, (chg q c size).2.2) else chgs r (chg q c size).1 (chg q c size).2.2
theorem chgs_ok : ∀ (l : List TApiChange) {q : TKvStore} {size : Int}, (∀ c ∈ l, c.fValue.length ≤ 300) → IOk q.fItems → IOk q.fChanged → (chgs l size q).2.fItems = q.fItems ∧ IOk (chgs l size q).2.fChanged ∧ (chgs l size q).2.fChanged.length ≤ q.fChanged.length + l.length
 | [], q, size, _, h1, h2 => ⟨rfl, h2, Nat.le_refl _⟩
 | c :: r, q, size, hl, h1, h2 => by
  obtain ⟨a1, a2, a3, _⟩ := chg_ok (size := size) h1 h2 (hl c (List.mem_cons_self ..))
  rw [chgs]
  cases decide ((chg q c size).2.1 = 0) with
  | false => exact ⟨a1, a2, by simp only [List.length_cons]; exact Nat.le_trans a3 (by omega)⟩
  | true =>
   obtain ⟨b1, b2, b3⟩ := chgs_ok r (q := (chg q c size).2.2) (size := (chg q c size).1) (fun d hd => hl d (List.mem_cons_of_mem _ hd)) (by rw [a1]; exact h1) a2
   exact ⟨b1.trans a1, b2, by simp only [List.length_cons, Bool.not_true, cond_false]; omega⟩
def outA (t : Int × TKvStore) : Out (Int × TKvStore) ((List (Str × TApiItem)) × (List (Str × TApiItem))) := bif !decide (t.1 = 0) then .ret t else .go (t.2.fItems, t.2.fChanged)
theorem kApply_loop {l : List TApiChange} (hlen : l.length ≤ 300) (hsm : ∀ c ∈ l, c.fValue.length ≤ 300) (r : List TApiChange) : ∀ (F : Nat) (size x : Int) (q : TKvStore), 0 ≤ x → x + r.length = l.length → l.drop x.toNat = r → r.length < F → IOk q.fItems → IOk q.fChanged → -1000000 + (r.length : Int) ≤ size → size ≤ 1000000 - (r.length : Int) →
  lop (fun σ => kApply_b1 l σ.1 σ.2.1 σ.2.2.1 σ.2.2.2) F (size, x, q.fItems, q.fChanged) = some (outA (chgs r size q)) := by
 induction r with
 | nil =>
  intro F size x q h0 hx hd hF h1 h2 hs1 hs2
  obtain ⟨F, rfl⟩ : ∃ G, F = G + 1 := ⟨F - 1, by simp at hF; omega⟩
  have hx' : x = (l.length : Int) := by simpa using hx
  have hb : kApply_b1 l size x q.fItems q.fChanged = some (.out (.go (q.fItems, q.fChanged))) := by
   unfold kApply_b1
   rw [cnd_ff (decide_eq_false (by omega))]
  rw [lop]
  simp only [hb]
  rfl
 | cons c r ih =>
  intro F size x q h0 hx hd hF h1 h2 hs1 hs2
  simp only [List.length_cons] at hx hF hs1 hs2
  obtain ⟨F, rfl⟩ : ∃ G, F = G + 1 := ⟨F - 1, by omega⟩
  have hxl : x < (l.length : Int) := by omega
  have hc : l[x.toNat]? = some c := by
   have := congrArg (·[0]?) hd
   simpa using this
  have hat : at' l x = c := by simp [at', hc]
  have hm : c ∈ l := List.mem_of_getElem? hc
  have hq := curI_ok h1 h2 c.fKey
  have hch : kChange q c size = some (chg q c size) := kChange_eq ⟨by omega, by omega⟩ hq.1 (hsm c hm)
  obtain ⟨a1, a2, _, a4⟩ := chg_ok (size := size) h1 h2 (hsm c hm)
  have hb : kApply_b1 l size x q.fItems q.fChanged = cnd (!decide ((chg q c size).2.1 = 0)) (some (.out (.ret ((chg q c size).2.1, (chg q c size).2.2)))) (some (.next ((chg q c size).1, x + 1, (chg q c size).2.2.fItems, (chg q c size).2.2.fChanged))) := by
   unfold kApply_b1
   rw [cnd_tt (decide_eq_true hxl), chk_inR h0 hxl, hat, hch, obn_s rfl, chk_i64 (by omega) (by omega)]
  rw [lop]
  simp only [hb]
  rw [chgs]
  generalize hg : chg q c size = t at a1 a2 a4
  cases he : decide (t.2.1 = 0) with
  | false =>
   simp only [Bool.not_false, cond_true, cnd]
   rw [outA]
   simp only [he]; rfl
  | true =>
   obtain ⟨s1, s2⟩ := a4 (of_decide_eq_true he)
   simp only [Bool.not_true, cond_false, cnd]
   have hd2 : l.drop (x + 1).toNat = r := by
    have := congrArg (·.drop 1) hd
    rw [List.drop_drop] at this
    rw [show (x + 1).toNat = x.toNat + 1 from by omega]
    simpa using this
   exact ih F _ (x + 1) t.2.2 (by omega) (by omega) hd2 (by omega) (by rw [a1]; exact h1) a2 (by omega) (by omega)
def delI (x : TApiItem) : Bool := decide (x.fVersion = 0)
theorem kApply_k1_eq {xs ys : List (Str × TApiItem)} (hx : Ms xs) (hy : Ms ys) : kApply_k1 xs ys = some (0, ⟨ys.foldl (apF delI) xs, ys⟩) := by
 unfold kApply_k1
 refine mobn_s fun p hp => ?_
 obtain ⟨h1, _⟩ := lfe_fold (fun p τ => kApply_b2 p.1 p.2 τ) (fun p τ => apF delI τ p) (fun _ => True) p xs trivial (fun z _ s _ => ⟨by
  unfold kApply_b2 apF
  show _ = some (Stp.next (bif delI z.2 then _ else _))
  cases hd : delI z.2 with
  | true => exact (cnd_tt (show decide (z.2.fVersion = 0) = true from hd)).trans rfl
  | false => exact (cnd_ff (show decide (z.2.fVersion = 0) = false from hd)).trans rfl, trivial⟩)
 rw [h1, obn_s rfl, ou_go]
 show some (0, TKvStore.mk (p.foldl (apF delI) xs) ys) = _
 rw [apFs_perm hx hy hp]
def appl (e0 : Int) (q : TKvStore) (l : List TApiChange) : Int × TKvStore :=
 bif !decide (e0 = 0) then (e0, q) else
 bif !decide ((chgs l (q.fItems.length : Int) ⟨q.fItems, []⟩).1 = 0) then chgs l (q.fItems.length : Int) ⟨q.fItems, []⟩ else
 (0, ⟨(chgs l (q.fItems.length : Int) ⟨q.fItems, []⟩).2.fChanged.foldl (apF delI) q.fItems, (chgs l (q.fItems.length : Int) ⟨q.fItems, []⟩).2.fChanged⟩)
theorem kApply_eq {F : Nat} (hF : 5000 < F) {q : TKvStore} {l : List TApiChange} {e0 : Int} (he : kValid F l = some e0) (hs : SmP l) (hq : IOk q.fItems) (hn : q.fItems.length ≤ 100000) : kApply F q l = some (appl e0 q l) := by
 have hlen := hs.len
 have hsm : ∀ c ∈ l, c.fValue.length ≤ 300 := fun c hc => (hs.all c hc).val
 unfold kApply appl kMade
 rw [obn_s rfl, cnd_ff (p := !true) rfl, he, obn_s rfl]
 cases decide (e0 = 0) with
 | false => rfl
 | true =>
  rw [cnd_ff (p := !true) rfl]
  have hl := kApply_loop hlen hsm l F (q.fItems.length : Int) 0 ⟨q.fItems, []⟩ (by omega) (by omega) (by simp) (by omega) hq IOk.nil (by omega) (by omega)
  rw [obn_s hl]
  obtain ⟨b1, b2, _⟩ := chgs_ok l (q := ⟨q.fItems, []⟩) (size := (q.fItems.length : Int)) hsm hq IOk.nil
  generalize chgs l (q.fItems.length : Int) ⟨q.fItems, []⟩ = t at b1 b2
  unfold outA
  cases hd : decide (t.1 = 0) with
  | false => rfl
  | true =>
   show kApply_k1 t.2.fItems t.2.fChanged = _
   rw [b1, kApply_k1_eq hq.ms b2.ms]; rfl
structure QOk (q : TKvStore) (n : Nat) : Prop where
 ok : IOk q.fItems
 pos : ∀ p ∈ q.fItems, 1 ≤ p.2.fVersion
 len : q.fItems.length ≤ n
theorem kGet_eq {q : TKvStore} (h : IOk q.fItems) (k : Str) : kGet q k = some ((mget q.fItems k).getD zI, (mget q.fItems k).isSome, q) := by
 have hg := h.get k
 unfold kGet kMade kOwn mval mhas
 rw [obn_s rfl, cnd_ff (p := !true) rfl]
 show obn (obn (cloneN ((mget q.fItems k).getD zI).fValue) fun r3 => some (TApiItem.mk ((mget q.fItems k).getD zI).fKey r3 ((mget q.fItems k).getD zI).fVersion)) _ = _
 rw [cloneN_eq (by omega)]; rfl
theorem kLen_eq (q : TKvStore) : kLen q = some ((q.fItems.length : Int), q) := rfl
end Go.Proofs.YtjfnokmpfekniaaGreatDoor

/-
 Small laws for the laws of kv.
-/
namespace Go.Proofs.YtjfnokmpfekniaaGreatDoor
open Go
set_option linter.unusedVariables false
theorem o_some {α : Type} [Inhabited α] (a : α) : ov (some a) = a := rfl
end Go.Proofs.YtjfnokmpfekniaaGreatDoor

/-
 The reference of kv: identifiers, checks, places. Plain laws.
-/
namespace Go.Proofs.YtjfnokmpfekniaaGreatDoor
open Go
set_option linter.unusedVariables false
set_option linter.unusedSimpArgs false
theorem part_b : ∀ a b d e f g h i j : Bool, (obn (some a) fun r50 => cnd r50 (some true) (cnd d (cnd e (some true) (obn (some b) fun r61 => cnd r61 (some true) (cnd f (some true) (cnd g (some true) (cnd h (some true) (cnd i (some true) (some j))))))) (obn (some b) fun r80 => cnd r80 (some true) (cnd f (some true) (cnd g (some true) (cnd h (some true) (cnd i (some true) (some j)))))))) = some (a || b || (d && e) || f || g || h || i || j) := by decide
theorem i5Part_eq (c : Int) : i5Part c = some (letterS c) := part_b (decide (97 ≤ c) && decide (c ≤ 122)) (decide (48 ≤ c) && decide (c ≤ 57)) (decide (65 ≤ c)) (decide (c ≤ 90)) (decide (c = 45)) (decide (c = 95)) (decide (c = 46)) (decide (c = 58)) (decide (c = 47))
theorem allFrom_all : ∀ (s : Str) (k : Nat), allFrom idCh k s = s.all fun u => letterS u.toNat
 | [], k => rfl
 | u :: r, k => by rw [allFrom, allFrom_all r (k + 1), List.all_cons]; rfl
theorem i5ID_eq {F : Nat} (hF : 64 < F) (s : Str) : i5ID F s = some (idS s) := by
 unfold i5ID idS
 rw [allFrom_all]
 by_cases hl : (s.length : Int) < 1 ∨ (64 : Int) < (s.length : Int)
 ·rw [cnd_tt (by simpa using hl)]
  have : (decide (1 ≤ s.length) && decide (s.length ≤ 64)) = false := by
   simp only [Bool.and_eq_false_iff, decide_eq_false_iff_not]; omega
  rw [Bool.and_assoc, this, Bool.and_false]
 ·rw [cnd_ff (by simpa using hl)]
  have hb : (decide (1 ≤ s.length) && decide (s.length ≤ 64)) = true := by
   simp only [Bool.and_eq_true, decide_eq_true_eq]; omega
  rw [Bool.and_assoc, hb, Bool.and_true]
  obtain ⟨o, h1, h2⟩ := lop_scan s (fun u => letterS u.toNat = true) (fun q => q = false ∧ (s.all fun u => letterS u.toNat) = false) () (fun σ => i5ID_b1 s σ) (fun x c h0 hx hc hat => by
   have hb : bat s x = (c.toNat : Int) := by rw [← hat]; rfl
   have e : i5ID_b1 s x = cnd (!letterS c.toNat) (some (.out (.ret false))) (some (.next (x + 1))) := by
    unfold i5ID_b1
    rw [cnd_tt (decide_eq_true hx), chk_inR h0 hx, hb, i5Part_eq, obn_s rfl, chk_i64 (by omega) (by omega)]
   cases hL : letterS c.toNat with
   | true => exact .inl ⟨by rw [hL] at e; exact e, rfl⟩
   | false => exact .inr ⟨false, by rw [hL] at e; exact e, rfl, List.all_eq_false.2 ⟨c, hc, by simp [hL]⟩⟩) (by
   show i5ID_b1 s _ = _
   unfold i5ID_b1
   rw [cnd_ff (decide_eq_false (by omega))]) (F := F) (by omega)
  rw [obn_s h1]
  rcases h2 with ⟨q, rfl, rfl, ha⟩ | ⟨rfl, h⟩
  ·rw [ou_ret, ha]
  ·rw [ou_go, List.all_eq_true.2 h]; rfl
theorem rValid_eq {F : Nat} (hF : 30000 < F) {c : TApiChange} (hs : SmC c) (ho : OkC c) : rValid F c = kCheck F c := by
 have hA : CkA 5000 c.fValue := ⟨by decide, by have := hs.val; omega, fun x hx => ⟨hs.cells x hx, (ho.cells x hx).1, (ho.cells x hx).2⟩⟩
 unfold rValid kCheck
 rw [i5ID_eq (by omega), obn_s rfl, rCheck_eq hA (by decide) (by omega), vCheck_eq hA (by decide) (by omega), obn_s rfl]
 cases idS c.fKey with
 | false => rfl
 | true =>
  cases (decide (c.fIfVersion < (-1)) || decide (1000000000000 < c.fIfVersion)) with
  | true => rfl
  | false =>
   cases c.fDelete with
   | true => cases decide (0 < (c.fValue.length : Int)) <;> rfl
   | false => rfl
theorem lop_cong {S O : Type} {b b' : S → Option (Stp S O)} (I : S → Prop) (h : ∀ s, I s → b s = b' s ∧ ∀ s', b s = some (.next s') → I s') : ∀ (n : Nat) (s : S), I s → lop b n s = lop b' n s
 | 0, s, _ => rfl
 | n + 1, s, hi => by
  obtain ⟨h1, h2⟩ := h s hi
  rw [lop, lop, ← h1]
  cases hb : b s with
  | none => rfl
  | some t => cases t with
   | next s' => exact lop_cong I h n s' (h2 s' hb)
   | out o => rfl
theorem rAll_eq {F : Nat} (hF : 30000 < F) {l : List TApiChange} (hs : SmP l) (ho : ∀ c ∈ l, OkC c) : rAll F l = kValid F l := by
 have hl := hs.len
 unfold rAll kValid
 have : lop (fun σ => rAll_b1 F l σ) F 0 = lop (fun σ => kValid_b1 F l σ) F 0 := lop_cong (fun x : Int => 0 ≤ x ∧ x ≤ (l.length : Int)) (fun x ⟨h0, hx⟩ => by
  by_cases hx2 : x < (l.length : Int)
  ·obtain ⟨c, hc⟩ : ∃ c, l[x.toNat]? = some c := ⟨l[x.toNat]'(by omega), List.getElem?_eq_getElem (by omega)⟩
   have hat : at' l x = c := by simp [at', hc]
   have hm : c ∈ l := List.mem_of_getElem? hc
   obtain ⟨e, he, _⟩ := kCheck_t (by omega : 5000 < F) (hs.all c hm) (ho c hm)
   have e1 : rAll_b1 F l x = cnd (!decide (e = 0)) (some (.out (.ret e))) (some (.next (x + 1))) := by
    unfold rAll_b1
    rw [cnd_tt (decide_eq_true hx2), chk_inR h0 hx2, hat, rValid_eq hF (hs.all c hm) (ho c hm), he, obn_s rfl, chk_i64 (by omega) (by omega)]
   have e2 : kValid_b1 F l x = cnd (!decide (e = 0)) (some (.out (.ret e))) (some (.next (x + 1))) := by
    unfold kValid_b1
    rw [cnd_tt (decide_eq_true hx2), chk_inR h0 hx2, hat, he, obn_s rfl, chk_i64 (by omega) (by omega)]
   refine ⟨e1.trans e2.symm, fun s' hs' => ?_⟩
   rw [e1] at hs'
   cases hd : decide (e = 0) with
   | false => rw [hd] at hs'; cases hs'
   | true => rw [hd] at hs'; cases hs'; omega
  ·refine ⟨?_, fun s' hs' => ?_⟩
   ·show rAll_b1 F l x = kValid_b1 F l x
    unfold rAll_b1 kValid_b1
    rw [cnd_ff (decide_eq_false hx2), cnd_ff (decide_eq_false hx2)]
   ·have : rAll_b1 F l x = some (.out (.go ())) := by unfold rAll_b1; rw [cnd_ff (decide_eq_false hx2)]
    rw [this] at hs'; cases hs') F 0 ⟨Int.le_refl 0, by omega⟩
 rw [this]; rfl
/-! ### places -/
section
variable {T : Type}
def pos : List (Str × T) → Str → Nat
 | [], _ => 0
 | p :: r, k => bif sLess p.1 k then pos r k + 1 else 0
theorem pos_char {k : Str} : ∀ (xs : List (Str × T)) (x : Nat), x ≤ xs.length → (∀ p ∈ xs.take x, sLess p.1 k = true) → (∀ p, xs[x]? = some p → sLess p.1 k = false) → pos xs k = x
 | [], x, h, _, _ => by simp at h; subst h; rfl
 | p :: r, 0, _, _, h => by rw [pos, h p rfl]; rfl
 | p :: r, x + 1, hl, h1, h2 => by
  rw [pos, h1 p (by simp)]
  simp only [cond_true]
  rw [pos_char r x (by simpa using hl) (fun q hq => h1 q (by simp [hq])) (fun q hq => h2 q (by simpa using hq))]
theorem pos_le {k : Str} : ∀ xs : List (Str × T), pos xs k ≤ xs.length
 | [] => Nat.le_refl _
 | p :: r => by
  rw [pos]
  cases sLess p.1 k with
  | true => simpa using pos_le r
  | false => exact Nat.zero_le _
theorem pos_all {k : Str} : ∀ (xs : List (Str × T)), Ms xs →
  (mget xs k = match xs[pos xs k]? with
   | some p => bif decide (p.1 = k) then some p.2 else none
   | none => none) ∧
  (∀ v, mset xs k v = xs.take (pos xs k) ++ (k, v) :: xs.drop (pos xs k + bif mhas xs k then 1 else 0)) ∧
  (mdel xs k = xs.take (pos xs k) ++ xs.drop (pos xs k + bif mhas xs k then 1 else 0))
 | [], _ => ⟨rfl, fun v => rfl, rfl⟩
 | p :: r, h => by
  obtain ⟨h1, h2⟩ := List.pairwise_cons.1 h
  obtain ⟨i1, i2, i3⟩ := pos_all (k := k) r h2
  rw [pos]
  cases hs : sLess p.1 k with
  | true =>
   have hne : ¬ p.1 = k := sl_ne hs
   have hg : mget (p :: r) k = mget r k := by rw [mget, decide_eq_false hne]; rfl
   have hh : mhas (p :: r) k = mhas r k := by unfold mhas; rw [hg]
   simp only [cond_true]
   refine ⟨by rw [hg, i1]; rfl, fun v => ?_, ?_⟩
   ·have e : mset (p :: r) k v = p :: mset r k v := by
     unfold mset
     rw [hh]
     cases mhas r k with
     | true => show (bif decide (p.1 = k) then (k, v) else p) :: mput r k v = p :: mput r k v; rw [decide_eq_false hne]; rfl
     | false =>
      show mins k v (p :: r) = p :: mins k v r
      rw [mins, sl_asymm hs]; rfl
    rw [e, i2 v, hh, show pos r k + 1 + (bif mhas r k then 1 else 0) = (pos r k + (bif mhas r k then 1 else 0)) + 1 from by omega]; rfl
   ·have e : mdel (p :: r) k = p :: mdel r k := by unfold mdel; rw [List.filter_cons_of_pos (by simp [hne])]
    rw [e, i3, hh, show pos r k + 1 + (bif mhas r k then 1 else 0) = (pos r k + (bif mhas r k then 1 else 0)) + 1 from by omega]; rfl
  | false =>
   simp only [cond_false]
   by_cases hk : p.1 = k
   ·have hg : mget (p :: r) k = some p.2 := by rw [mget, decide_eq_true hk]; rfl
    have hh : mhas (p :: r) k = true := by unfold mhas; rw [hg]; rfl
    have hn : ∀ q ∈ r, ¬ q.1 = k := fun q hq e => by have := h1 q hq; rw [e, ← hk, sl_irr] at this; cases this
    have e1 : ∀ v, mput r k v = r := fun v => by
     unfold mput
     conv => rhs; rw [← List.map_id r]
     refine List.map_congr_left fun q hq => ?_
     rw [decide_eq_false (hn q hq)]; rfl
    have e2 : mdel r k = r := List.filter_eq_self.2 fun q hq => by simp [hn q hq]
    refine ⟨by rw [hg]; show _ = bif decide (p.1 = k) then some p.2 else none; rw [decide_eq_true hk]; rfl, fun v => ?_, ?_⟩
    ·unfold mset
     rw [hh]
     show (bif decide (p.1 = k) then (k, v) else p) :: mput r k v = _
     rw [decide_eq_true hk, e1]; rfl
    ·rw [hh]
     show mdel (p :: r) k = r
     unfold mdel
     rw [List.filter_cons_of_neg (by simp [hk])]; exact e2
   ·have hlt : sLess k p.1 = true := by
     rcases sl_total p.1 k with h | h | h
     ·rw [h] at hs; cases hs
     ·exact absurd h hk
     ·exact h
    have hn : ∀ q ∈ p :: r, ¬ q.1 = k := fun q hq e => by
     rcases List.mem_cons.1 hq with rfl | hq
     ·exact hk e
     ·have := sl_trans hlt (h1 q hq); rw [e, sl_irr] at this; cases this
    have hg : mget (p :: r) k = none := mget_eq_none.2 hn
    have hh : mhas (p :: r) k = false := by unfold mhas; rw [hg]; rfl
    refine ⟨by rw [hg]; show none = bif decide (p.1 = k) then some p.2 else none; rw [decide_eq_false hk]; rfl, fun v => ?_, ?_⟩
    ·unfold mset
     rw [hh]
     show mins k v (p :: r) = _
     rw [mins, hlt]; rfl
    ·rw [hh]
     exact List.filter_eq_self.2 fun q hq => by simp [hn q hq]
end
end Go.Proofs.YtjfnokmpfekniaaGreatDoor

/-
 The reference of kv against the store: a list of changes. Plain laws.
-/
namespace Go.Proofs.YtjfnokmpfekniaaGreatDoor
open Go
set_option linter.unusedVariables false
set_option linter.unusedSimpArgs false
def its (xs : List (Str × TApiItem)) : List TApiItem := xs.map (·.2)
def Keyed (xs : List (Str × TApiItem)) : Prop := ∀ p ∈ xs, p.2.fKey = p.1
theorem its_len (xs : List (Str × TApiItem)) : (its xs).length = xs.length := by simp [its]
theorem its_get {xs : List (Str × TApiItem)} {i : Nat} {p : Str × TApiItem} (h : xs[i]? = some p) : (its xs)[i]? = some p.2 := by simp [its, h]
theorem rPlace_eq {F : Nat} {xs : List (Str × TApiItem)} (hF : xs.length < F) (hL : xs.length ≤ 1000000) (hm : Ms xs) (hk : Keyed xs) (k : Str) : rPlace F (its xs) k = some ((pos xs k : Int), mhas xs k) := by
 have hlen := its_len xs
 unfold rPlace
 obtain ⟨o, h1, h2⟩ := lop_ind (body := fun σ => rPlace_b1 (its xs) k σ) (fun x => 0 ≤ x ∧ x ≤ (xs.length : Int) ∧ ∀ p ∈ xs.take x.toNat, sLess p.1 k = true) (fun x => xs.length - x.toNat)
  (fun o => o = .go (pos xs k : Int)) (fun x ⟨h0, hl, ha⟩ => by
   by_cases hx : x < (xs.length : Int)
   ·obtain ⟨p, hp⟩ : ∃ p, xs[x.toNat]? = some p := ⟨xs[x.toNat]'(by omega), List.getElem?_eq_getElem (by omega)⟩
    have hat : (at' (its xs) x).fKey = p.1 := by
     rw [← hk p (List.mem_of_getElem? hp)]; simp [at', its_get hp]
    have e : rPlace_b1 (its xs) k x = cnd (sLess p.1 k) (some (.next (x + 1))) (some (.out (.go x))) := by
     unfold rPlace_b1
     rw [hlen, decide_eq_true hx, chk_t (by rw [inR' h0 hx]; rfl), hat, Bool.true_and, chk_i64 (by omega) (by omega)]
    cases hs : sLess p.1 k with
    | true =>
     refine .inl ⟨x + 1, by rw [hs] at e; exact e, ⟨by omega, by omega, fun q hq => ?_⟩, by omega⟩
     rw [show (x + 1).toNat = x.toNat + 1 from by omega, List.take_add_one, hp] at hq
     simp only [Option.toList_some, List.mem_append, List.mem_cons, List.not_mem_nil, or_false] at hq
     rcases hq with hq | rfl
     ·exact ha q hq
     ·exact hs
    | false =>
     refine .inr ⟨.go x, by rw [hs] at e; exact e, ?_⟩
     have := pos_char xs x.toNat (by omega) ha (fun q hq => by rw [hp] at hq; cases hq; exact hs)
     rw [this, show ((x.toNat : Nat) : Int) = x from by omega]
   ·refine .inr ⟨.go x, ?_, ?_⟩
    ·show rPlace_b1 (its xs) k x = _
     unfold rPlace_b1
     rw [hlen, decide_eq_false hx]; rfl
    ·have := pos_char (k := k) xs x.toNat (by omega) ha (fun q hq => by
      have := (List.getElem?_eq_some_iff.1 hq).1; omega)
     rw [this, show ((x.toNat : Nat) : Int) = x from by omega]) F 0 ⟨Int.le_refl 0, by omega, by simp⟩ (by show xs.length - 0 < F; omega)
 subst h2
 rw [obn_s h1, ou_go]
 unfold rPlace_k1
 have hp := pos_le (k := k) xs
 obtain ⟨g1, _, _⟩ := pos_all (k := k) xs hm
 rw [hlen]
 by_cases hx : ((pos xs k : Nat) : Int) < (xs.length : Int)
 ·obtain ⟨p, hpp⟩ : ∃ p, xs[pos xs k]? = some p := ⟨xs[pos xs k]'(by omega), List.getElem?_eq_getElem (by omega)⟩
  have hat : (at' (its xs) (pos xs k : Int)).fKey = p.1 := by
   rw [← hk p (List.mem_of_getElem? hpp)]; simp [at', its_get hpp]
  rw [decide_eq_true hx, chk_t (by rw [inR' (by omega) hx]; rfl), hat, Bool.true_and]
  rw [hpp] at g1
  have : mhas xs k = decide (p.1 = k) := by
   unfold mhas; rw [g1]
   simp only
   cases decide (p.1 = k) <;> rfl
  rw [this]
 ·rw [decide_eq_false hx]
  have hpp : xs[pos xs k]? = none := List.getElem?_eq_none (by omega)
  rw [hpp] at g1
  have : mhas xs k = false := by unfold mhas; rw [g1]; rfl
  rw [this]; rfl
theorem at_pos {xs : List (Str × TApiItem)} (hm : Ms xs) {k : Str} (h : mhas xs k = true) : (pos xs k : Int) < (xs.length : Int) ∧ at' (its xs) (pos xs k : Int) = (mget xs k).getD zI := by
 obtain ⟨g1, _, _⟩ := pos_all (k := k) xs hm
 unfold mhas at h
 cases hp : xs[pos xs k]? with
 | none => rw [hp] at g1; rw [g1] at h; cases h
 | some p =>
  rw [hp] at g1
  have hlt := (List.getElem?_eq_some_iff.1 hp).1
  refine ⟨by omega, ?_⟩
  simp only at g1
  cases hd : decide (p.1 = k) with
  | false => rw [hd] at g1; rw [g1] at h; cases h
  | true =>
   rw [hd] at g1
   rw [g1]
   simp [at', its_get hp]
def stp (xs : List (Str × TApiItem)) (c : TApiChange) : List (Str × TApiItem) × Int :=
 bif (decide (0 ≤ c.fIfVersion)) && (!decide (c.fIfVersion = ((mget xs c.fKey).getD zI).fVersion)) then ([], 19) else
 bif c.fDelete then (mdel xs c.fKey, 0) else
 bif (decide (((mget xs c.fKey).getD zI).fVersion = 0)) && (decide (256 ≤ (xs.length : Int))) then ([], 3) else
 bif decide (1000000000000 ≤ ((mget xs c.fKey).getD zI).fVersion) then ([], 8) else
 (mset xs c.fKey ⟨c.fKey, c.fValue, ((mget xs c.fKey).getD zI).fVersion + 1⟩, 0)
theorem chk48 {α : Type} {n : Nat} {x : Option α} (h : n ≤ 1000000) : chk (inA 48 n) x = x := chk_t (by unfold inA; simp only [decide_eq_true_eq]; omega)
theorem its_mset {xs : List (Str × TApiItem)} (hm : Ms xs) (k : Str) (v : TApiItem) : its (mset xs k v) = (its xs).take (pos xs k) ++ v :: (its xs).drop (pos xs k + bif mhas xs k then 1 else 0) := by
 rw [(pos_all xs hm).2.1 v]
 simp [its, List.map_take, List.map_drop]
theorem its_mdel {xs : List (Str × TApiItem)} (hm : Ms xs) (k : Str) : its (mdel xs k) = (its xs).take (pos xs k) ++ (its xs).drop (pos xs k + bif mhas xs k then 1 else 0) := by
 rw [(pos_all xs hm).2.2]
 simp [its, List.map_take, List.map_drop]
theorem rApplied_eq {F : Nat} {xs : List (Str × TApiItem)} (hF : xs.length < F) (hL : xs.length ≤ 256) (hm : Ms xs) (hk : Keyed xs) (hpos : ∀ p ∈ xs, 1 ≤ p.2.fVersion ∧ p.2.fVersion ≤ 1000000000000) (c : TApiChange) :
  rApplied F (its xs) c = some (its (stp xs c).1, (stp xs c).2) := by
 have hp := pos_le (k := c.fKey) xs
 have hlen := its_len xs
 have hset := fun v => its_mset hm c.fKey v
 have hdel := its_mdel hm c.fKey
 unfold rApplied
 rw [rPlace_eq hF (by omega) hm hk, obn_s rfl]
 dsimp only
 cases hh : mhas xs c.fKey with
 | true =>
  obtain ⟨ha, hat⟩ := at_pos hm hh
  rw [hh] at hset hdel
  simp only [cond_true] at hset hdel
  have hv : 1 ≤ ((mget xs c.fKey).getD zI).fVersion ∧ ((mget xs c.fKey).getD zI).fVersion ≤ 1000000000000 := by
   unfold mhas at hh
   cases hg : mget xs c.fKey with
   | none => rw [hg] at hh; cases hh
   | some v => exact hpos _ (mget_some_mem hg)
  rw [cnd_tt rfl, chk_inR (by omega) (by rw [hlen]; exact ha), hat]
  unfold stp
  generalize (mget xs c.fKey).getD zI = y at hv
  cases (decide (0 ≤ c.fIfVersion) && !decide (c.fIfVersion = y.fVersion)) with
  | true => rfl
  | false =>
   rw [cnd_ff rfl, chk_inC (by omega) (by rw [hlen]; omega), chk48 (by simp [hlen]; omega)]
   cases c.fDelete with
   | true =>
    rw [cnd_ff (p := !true) rfl, chk_i64 (by omega) (by omega), chk_inC (by omega) (by rw [hlen]; omega), chk48 (by simp [hlen]; omega)]
    simp only [cond_true, cond_false]
    rw [hdel, List.nil_append, show Int.toNat (pos xs c.fKey : Int) = pos xs c.fKey from by omega, show Int.toNat ((pos xs c.fKey : Int) + 1) = pos xs c.fKey + 1 from by omega]
   | false =>
    have h0 : decide (y.fVersion = 0) = false := decide_eq_false (by omega)
    rw [cnd_tt (p := !false) rfl, h0]
    simp only [cond_false, Bool.false_and]
    by_cases h8 : y.fVersion = 1000000000000
    ·rw [cnd_tt (decide_eq_true h8), decide_eq_true (by omega : (1000000000000 : Int) ≤ y.fVersion)]; rfl
    ·rw [cnd_ff (decide_eq_false h8), decide_eq_false (by omega : ¬ (1000000000000 : Int) ≤ y.fVersion), chk_i64 (by omega) (by omega), chk48 (by simp [hlen]; omega), chk_i64 (by omega) (by omega), chk_inC (by omega) (by rw [hlen]; omega), chk48 (by simp [hlen]; omega)]
     simp only [cond_false]
     rw [hset, List.nil_append, show Int.toNat (pos xs c.fKey : Int) = pos xs c.fKey from by omega, show Int.toNat ((pos xs c.fKey : Int) + 1) = pos xs c.fKey + 1 from by omega, List.append_assoc]; rfl
 | false =>
  rw [hh] at hset hdel
  simp only [cond_false, Nat.add_zero] at hset hdel
  have hg : (mget xs c.fKey).getD zI = zI := by
   unfold mhas at hh
   cases hg : mget xs c.fKey with
   | none => rfl
   | some v => rw [hg] at hh; cases hh
  have hz : zI.fVersion = 0 := rfl
  rw [cnd_ff rfl]
  unfold stp
  rw [hg, hz]
  cases (decide (0 ≤ c.fIfVersion) && !decide (c.fIfVersion = 0)) with
  | true => rfl
  | false =>
   rw [cnd_ff rfl, chk_inC (by omega) (by rw [hlen]; omega), chk48 (by simp [hlen]; omega)]
   cases c.fDelete with
   | true =>
    rw [cnd_ff (p := !true) rfl, chk48 (by simp [hlen]; omega)]
    simp only [cond_true, cond_false]
    rw [hdel, List.nil_append, show Int.toNat (pos xs c.fKey : Int) = pos xs c.fKey from by omega]
   | false =>
    rw [cnd_tt (p := !false) rfl, hlen]
    simp only [cond_false]
    by_cases h3 : (xs.length : Int) = 256
    ·rw [cnd_tt (decide_eq_true h3), decide_eq_true (by omega : (256 : Int) ≤ (xs.length : Int))]; rfl
    ·rw [cnd_ff (decide_eq_false h3), decide_eq_false (by omega : ¬ (256 : Int) ≤ (xs.length : Int)), chk48 (by simp [hlen]; omega), chk48 (by simp [hlen]; omega)]
     rw [List.nil_append, show Int.toNat (pos xs c.fKey : Int) = pos xs c.fKey from by omega, List.append_assoc]
     show _ = some (its (mset xs c.fKey ⟨c.fKey, c.fValue, 0 + 1⟩), 0)
     rw [hset]; rfl
end Go.Proofs.YtjfnokmpfekniaaGreatDoor

/-
 The reference of kv against the store: lists of changes. Plain laws.
-/
namespace Go.Proofs.YtjfnokmpfekniaaGreatDoor
open Go
set_option linter.unusedVariables false
set_option linter.unusedSimpArgs false
def eff (q : TKvStore) : List (Str × TApiItem) := q.fChanged.foldl (apF delI) q.fItems
structure WOk (q : TKvStore) : Prop where
 it : IOk q.fItems
 ch : IOk q.fChanged
 ipos : ∀ p ∈ q.fItems, 1 ≤ p.2.fVersion
 ikey : Keyed q.fItems
 cz : ∀ p ∈ q.fChanged, delI p.2 = true → p.2 = zI
 ck : ∀ p ∈ q.fChanged, delI p.2 = false → p.2.fKey = p.1
 len : (eff q).length ≤ 256
 kl : ∀ p ∈ eff q, p.1.length ≤ 300
theorem mget_eff {q : TKvStore} (h : Ms q.fChanged) (k : Str) : mget (eff q) k = match mget q.fChanged k with
  | none => mget q.fItems k
  | some v => bif delI v then none else some v := (mget_apFs (del := delI) q.fChanged q.fItems k h.nodup).trans (by cases mget q.fChanged k <;> rfl)
theorem WOk.ms {q : TKvStore} (h : WOk q) : Ms (eff q) := apFs_ms _ h.it.ms
theorem WOk.iok {q : TKvStore} (h : WOk q) : IOk (eff q) := ⟨h.ms, fun p hp => by
 rcases mem_apFs hp with hp | ⟨hp, _⟩
 ·exact h.it.ok p hp
 ·exact h.ch.ok p hp⟩
theorem WOk.pos {q : TKvStore} (h : WOk q) : ∀ p ∈ eff q, 1 ≤ p.2.fVersion ∧ p.2.fVersion ≤ 1000000000000 := fun p hp => by
 refine ⟨?_, (h.iok.ok p hp).2.1⟩
 rcases mem_apFs hp with hp | ⟨hp, hd⟩
 ·exact h.ipos p hp
 ·have := (h.ch.ok p hp).1
  have := of_decide_eq_false hd
  omega
theorem WOk.key {q : TKvStore} (h : WOk q) : Keyed (eff q) := fun p hp => by
 rcases mem_apFs hp with hp | ⟨hp, hd⟩
 ·exact h.ikey p hp
 ·exact h.ck p hp hd
theorem curI_eff {q : TKvStore} (h : WOk q) (k : Str) : curI q k = (mget (eff q) k).getD zI := by
 rw [mget_eff h.ch.ms]
 unfold curI
 cases e : mget q.fChanged k with
 | none => rfl
 | some v =>
  simp only [Option.getD_some]
  cases hd : delI v with
  | true => exact h.cz _ (mget_some_mem e) hd
  | false => rfl
theorem eff_set {q : TKvStore} (h : WOk q) (k : Str) (v : TApiItem) : eff ⟨q.fItems, mset q.fChanged k v⟩ = apF delI (eff q) (k, v) :=
 Ms.ext (apFs_ms _ h.it.ms) (apF_ms h.ms _) fun k' => by
  rw [mget_eff (q := ⟨q.fItems, mset q.fChanged k v⟩) (h.ch.ms.mset k v), mget_apF, mget_eff h.ch.ms]
  show (match mget (mset q.fChanged k v) k' with | none => mget q.fItems k' | some v => bif delI v then none else some v) = _
  rw [mget_mset]
  cases decide (k' = k) <;> rfl
theorem has_ver {q : TKvStore} (h : WOk q) (k : Str) : mhas (eff q) k = decide (0 < ((mget (eff q) k).getD zI).fVersion) := by
 unfold mhas
 cases e : mget (eff q) k with
 | none => rfl
 | some v =>
  have := (h.pos _ (mget_some_mem e)).1
  simp only [Option.isSome_some, Option.getD_some]
  rw [decide_eq_true (by have h' : 1 ≤ v.fVersion := this; omega)]
theorem chg_stp {q : TKvStore} (h : WOk q) {c : TApiChange} (hs : SmC c) :
  (chg q c ((eff q).length : Int)).2.1 = (stp (eff q) c).2 ∧ ((stp (eff q) c).2 = 0 → eff (chg q c ((eff q).length : Int)).2.2 = (stp (eff q) c).1 ∧ (chg q c ((eff q).length : Int)).1 = ((eff (chg q c ((eff q).length : Int)).2.2).length : Int) ∧ WOk (chg q c ((eff q).length : Int)).2.2 ∧ (chg q c ((eff q).length : Int)).2.2.fItems = q.fItems) := by
 have hlen := h.len
 have hver := has_ver h c.fKey
 have hcur := curI_eff h c.fKey
 have hok := h.iok.get c.fKey
 unfold chg stp
 rw [hcur]
 generalize hx : (mget (eff q) c.fKey).getD zI = x at hver hok
 cases (decide (0 ≤ c.fIfVersion) && !decide (c.fIfVersion = x.fVersion)) with
 | true => exact ⟨rfl, fun h => by cases h⟩
 | false =>
  cases c.fDelete with
  | true =>
   have he := eff_set h c.fKey zI
   have he2 : apF delI (eff q) (c.fKey, zI) = mdel (eff q) c.fKey := rfl
   rw [he2] at he
   have hl := mdel_length h.ms c.fKey
   rw [hver] at hl
   refine ⟨rfl, fun _ => ⟨he, ?_, ⟨h.it, h.ch.set zI_ok, h.ipos, h.ikey, fun p hp hd => ?_, fun p hp hd => ?_, ?_, fun p hp => ?_⟩, rfl⟩⟩
   ·show (bif decide (0 < x.fVersion) then ((eff q).length : Int) - 1 else ((eff q).length : Int)) = ((eff ⟨q.fItems, mset q.fChanged c.fKey zI⟩).length : Int)
    rw [he, hl]
    cases hd : decide (0 < x.fVersion) with
    | false => rfl
    | true =>
     rw [hd] at hver
     have : 0 < (eff q).length := by
      unfold mhas at hver
      cases e : mget (eff q) c.fKey with
      | none => rw [e] at hver; cases hver
      | some v => exact List.length_pos_of_mem (mget_some_mem e)
     simp only [cond_true]; omega
   ·rcases mem_mset hp with rfl | hp
    ·rfl
    ·exact h.cz p hp hd
   ·rcases mem_mset hp with rfl | hp
    ·cases hd
    ·exact h.ck p hp hd
   ·show (eff ⟨q.fItems, mset q.fChanged c.fKey zI⟩).length ≤ 256
    rw [he, hl]
    cases decide (0 < x.fVersion) <;> simp only [cond_true, cond_false] <;> omega
   ·have hp' : p ∈ mdel (eff q) c.fKey := by rw [← he]; exact hp
    exact h.kl p (mem_mdel hp')
  | false =>
   have hz : decide (x.fVersion = 0) = !mhas (eff q) c.fKey := by
    rw [hver]
    by_cases h0 : x.fVersion = 0
    ·rw [decide_eq_true h0, decide_eq_false (by omega)]; rfl
    ·rw [decide_eq_false h0, decide_eq_true (by omega)]; rfl
   cases h3 : (decide (x.fVersion = 0) && decide (256 ≤ ((eff q).length : Int))) with
   | true => exact ⟨rfl, fun h => by cases h⟩
   | false =>
    cases hb : decide ((1000000000000 : Int) ≤ x.fVersion) with
    | true => exact ⟨rfl, fun h => by cases h⟩
    | false =>
     have hb' := of_decide_eq_false hb
     have hd1 : delI ⟨c.fKey, c.fValue, x.fVersion + 1⟩ = false := decide_eq_false (by show ¬ x.fVersion + 1 = 0; omega)
     have he := eff_set h c.fKey ⟨c.fKey, c.fValue, x.fVersion + 1⟩
     have he2 : apF delI (eff q) (c.fKey, ⟨c.fKey, c.fValue, x.fVersion + 1⟩) = mset (eff q) c.fKey ⟨c.fKey, c.fValue, x.fVersion + 1⟩ := by
      unfold apF; rw [hd1]; rfl
     rw [he2] at he
     have hl := mset_length (eff q) c.fKey ⟨c.fKey, c.fValue, x.fVersion + 1⟩
     have hsz : (bif decide (x.fVersion = 0) then ((eff q).length : Int) + 1 else ((eff q).length : Int)) = ((mset (eff q) c.fKey ⟨c.fKey, c.fValue, x.fVersion + 1⟩).length : Int) := by
      rw [hl, hz]
      cases mhas (eff q) c.fKey <;> simp
     refine ⟨rfl, fun _ => ⟨he, ?_, ⟨h.it, h.ch.set ⟨?_, ?_, hs.val⟩, h.ipos, h.ikey, fun p hp hd => ?_, fun p hp hd => ?_, ?_, fun p hp => ?_⟩, rfl⟩⟩
     ·show (bif decide (x.fVersion = 0) then ((eff q).length : Int) + 1 else ((eff q).length : Int)) = ((eff ⟨q.fItems, mset q.fChanged c.fKey ⟨c.fKey, c.fValue, x.fVersion + 1⟩⟩).length : Int)
      rw [he]; exact hsz
     ·show 0 ≤ x.fVersion + 1; omega
     ·show x.fVersion + 1 ≤ 1000000000000; omega
     ·rcases mem_mset hp with rfl | hp
      ·rw [hd1] at hd; cases hd
      ·exact h.cz p hp hd
     ·rcases mem_mset hp with rfl | hp
      ·rfl
      ·exact h.ck p hp hd
     ·show (eff ⟨q.fItems, mset q.fChanged c.fKey ⟨c.fKey, c.fValue, x.fVersion + 1⟩⟩).length ≤ 256
      rw [he, hl]
      rw [hz] at h3
      cases hh : mhas (eff q) c.fKey with
      | true => simp only [cond_true]; omega
      | false =>
       rw [hh] at h3
       simp only [Bool.not_false, Bool.true_and, decide_eq_false_iff_not] at h3
       simp only [cond_false]; omega
     ·have hp' : p ∈ mset (eff q) c.fKey ⟨c.fKey, c.fValue, x.fVersion + 1⟩ := by rw [← he]; exact hp
      rcases mem_mset hp' with rfl | hp'
      ·exact hs.key
      ·exact h.kl p hp'
theorem rApply_loop {F : Nat} (hF : 300 < F) {l : List TApiChange} (hlen : l.length ≤ 300) (hsm : ∀ c ∈ l, SmC c) (s : TFaasref46Store) (r : List TApiChange) : ∀ (n : Nat) (x : Int) (q : TKvStore), 0 ≤ x → x + r.length = l.length → l.drop x.toNat = r → r.length < n → WOk q →
  lop (fun σ => rApply_b1 F s l σ.1 σ.2) n (its (eff q), x) = some (bif !decide ((chgs r ((eff q).length : Int) q).1 = 0) then .ret ((chgs r ((eff q).length : Int) q).1, s) else .go (its (eff (chgs r ((eff q).length : Int) q).2))) ∧ ((chgs r ((eff q).length : Int) q).1 = 0 → WOk (chgs r ((eff q).length : Int) q).2 ∧ (chgs r ((eff q).length : Int) q).2.fItems = q.fItems) := by
 induction r with
 | nil =>
  intro n x q h0 hx hd hn hw
  obtain ⟨n, rfl⟩ : ∃ m, n = m + 1 := ⟨n - 1, by simp at hn; omega⟩
  have hx' : x = (l.length : Int) := by simpa using hx
  have hb : rApply_b1 F s l (its (eff q)) x = some (.out (.go (its (eff q)))) := by
   unfold rApply_b1
   rw [cnd_ff (decide_eq_false (by omega))]
  refine ⟨?_, fun _ => ⟨hw, rfl⟩⟩
  rw [lop]
  simp only [hb]
  rfl
 | cons c r ih =>
  intro n x q h0 hx hd hn hw
  simp only [List.length_cons] at hx hn
  obtain ⟨n, rfl⟩ : ∃ m, n = m + 1 := ⟨n - 1, by omega⟩
  have hxl : x < (l.length : Int) := by omega
  have hc : l[x.toNat]? = some c := by
   have := congrArg (·[0]?) hd
   simpa using this
  have hat : at' l x = c := by simp [at', hc]
  have hm : c ∈ l := List.mem_of_getElem? hc
  have hwl := hw.len
  have ha := rApplied_eq (F := F) (by omega) hw.len hw.ms hw.key hw.pos c
  obtain ⟨s1, s2⟩ := chg_stp hw (hsm c hm)
  have hb : rApply_b1 F s l (its (eff q)) x = cnd (!decide ((stp (eff q) c).2 = 0)) (some (.out (.ret ((stp (eff q) c).2, s)))) (some (.next (its (stp (eff q) c).1, x + 1))) := by
   unfold rApply_b1
   rw [cnd_tt (decide_eq_true hxl), chk_inR h0 hxl, hat, ha, obn_s rfl, chk_i64 (by omega) (by omega)]
  rw [lop]
  simp only [hb]
  rw [chgs]
  generalize chg q c ((eff q).length : Int) = t at s1 s2
  rw [s1]
  generalize stp (eff q) c = u at s2
  cases he : decide (u.2 = 0) with
  | false =>
   simp only [Bool.not_false, cond_true, cnd]
   refine ⟨by rw [he]; rfl, fun h => ?_⟩
   have := of_decide_eq_false he
   exact absurd h this
  | true =>
   obtain ⟨t1, t2, t3, t4⟩ := s2 (of_decide_eq_true he)
   simp only [Bool.not_true, cond_false, cnd]
   have hd2 : l.drop (x + 1).toNat = r := by
    have := congrArg (·.drop 1) hd
    rw [List.drop_drop] at this
    rw [show (x + 1).toNat = x.toNat + 1 from by omega]
    simpa using this
   rw [← t1, t2]
   obtain ⟨i1, i2⟩ := ih n (x + 1) t.2.2 (by omega) (by omega) hd2 (by omega) t3
   exact ⟨i1, fun h => ⟨(i2 h).1, (i2 h).2.trans t4⟩⟩
theorem rApply_eq {F : Nat} (hF : 30000 < F) {xs ys : List (Str × TApiItem)} {l : List TApiChange} (hw : WOk ⟨xs, []⟩) (hs : SmP l) (ho : ∀ c ∈ l, OkC c) {e0 : Int} (he : kValid F l = some e0) :
  rApply F ⟨true, its xs⟩ l = some ((appl e0 ⟨xs, ys⟩ l).1, ⟨true, its (appl e0 ⟨xs, ys⟩ l).2.fItems⟩) ∧ WOk ⟨(appl e0 ⟨xs, ys⟩ l).2.fItems, []⟩ := by
 have hlen := hs.len
 unfold rApply appl
 rw [cnd_ff (p := !true) rfl, rAll_eq hF hs ho, he, obn_s rfl]
 cases decide (e0 = 0) with
 | false => exact ⟨rfl, hw⟩
 | true =>
  rw [cnd_ff (p := !true) rfl]
  obtain ⟨i1, i2⟩ := rApply_loop (F := F) (by omega) hlen hs.all ⟨true, its xs⟩ l F 0 ⟨xs, []⟩ (Int.le_refl 0) (by omega) (by simp) (by omega) hw
  have ee : eff ⟨xs, []⟩ = xs := rfl
  rw [ee] at i1 i2
  show obn (lop (fun σ => rApply_b1 F ⟨true, its xs⟩ l σ.1 σ.2) F (its xs, 0)) _ = some _ ∧ _
  rw [obn_s i1]
  have hk := (chgs_ok l (q := ⟨xs, []⟩) (size := (xs.length : Int)) (fun c hc => (hs.all c hc).val) hw.it IOk.nil).1
  generalize chgs l (xs.length : Int) ⟨xs, []⟩ = t at i2 hk
  cases hd : decide (t.1 = 0) with
  | false =>
   refine ⟨?_, ?_⟩
   ·show some (t.1, TFaasref46Store.mk true (its xs)) = some (t.1, ⟨true, its t.2.fItems⟩)
    rw [hk]
   ·show WOk ⟨t.2.fItems, []⟩
    rw [hk]; exact hw
  | true =>
   obtain ⟨j1, j2⟩ := i2 (of_decide_eq_true hd)
   have e : t.2.fChanged.foldl (apF delI) xs = eff t.2 := by unfold eff; rw [j2]
   refine ⟨?_, ?_⟩
   ·show some ((0 : Int), TFaasref46Store.mk true (its (eff t.2))) = some ((0 : Int), ⟨true, its (t.2.fChanged.foldl (apF delI) xs)⟩)
    rw [e]
   ·show WOk ⟨t.2.fChanged.foldl (apF delI) xs, []⟩
    rw [e]
    exact ⟨j1.iok, IOk.nil, fun p hp => (j1.pos p hp).1, j1.key, fun _ h => by (cases h), fun _ h => by (cases h), j1.len, j1.kl⟩
end Go.Proofs.YtjfnokmpfekniaaGreatDoor

/-
 The reference of kv against the store: Get and Scan. Plain laws.
-/
namespace Go.Proofs.YtjfnokmpfekniaaGreatDoor
open Go
set_option linter.unusedVariables false
set_option linter.unusedSimpArgs false
theorem rGet_eq {F : Nat} (hF : 300 < F) {xs : List (Str × TApiItem)} (hw : WOk ⟨xs, []⟩) (k : Str) : rGet F ⟨true, its xs⟩ k = some ((mget xs k).getD zI, (mget xs k).isSome, ⟨true, its xs⟩) := by
 have hl : xs.length ≤ 256 := hw.len
 have hm : Ms xs := hw.it.ms
 unfold rGet
 rw [cnd_ff (p := !true) rfl]
 dsimp only
 rw [rPlace_eq (by omega) (by omega) hm hw.ikey, obn_s rfl]
 dsimp only
 cases hh : mhas xs k with
 | false =>
  have h2 := hh
  unfold mhas at h2
  cases hg : mget xs k with
  | none => rfl
  | some v => rw [hg] at h2; cases h2
 | true =>
  obtain ⟨h1, h2⟩ := at_pos hm hh
  have h3 : (mget xs k).isSome = true := hh
  rw [cnd_ff (p := !true) rfl, chk_inR (by omega) (by rw [its_len]; exact h1), h2, h3]
theorem rCells_refl {F : Nat} {v : List TApiCell} (hF : v.length < F) (hl : v.length ≤ 1000000) : rCells F v v = some true := by
 unfold rCells
 rw [cnd_ff (by simp)]
 obtain ⟨o, h1, h2⟩ := lop_scan v (fun _ => True) (fun q : Bool => False) () (fun σ => rCells_b1 v v σ) (fun x c h0 hx hc hat => by
  refine .inl ⟨?_, trivial⟩
  show rCells_b1 v v x = _
  unfold rCells_b1
  rw [cnd_tt (decide_eq_true hx), chk_inR h0 hx, chk_inR h0 hx, cnd_ff (by simp), chk_i64 (by omega) (by omega)]) (by
  show rCells_b1 v v _ = _
  unfold rCells_b1
  rw [cnd_ff (decide_eq_false (by omega))]) hF
 rw [obn_s h1]
 rcases h2 with ⟨q, _, h⟩ | ⟨rfl, _⟩
 ·exact h.elim
 ·rfl
theorem rSameI_refl {F : Nat} {a : List TApiItem} (hF : a.length < F) (hF2 : 300 < F) (hl : a.length ≤ 1000000) (hv : ∀ y ∈ a, y.fValue.length ≤ 300) : rSameI F a a = some true := by
 unfold rSameI
 rw [cnd_ff (by simp)]
 obtain ⟨o, h1, h2⟩ := lop_scan a (fun _ => True) (fun q : Bool => False) () (fun σ => rSameI_b1 F a a σ) (fun x c h0 hx hc hat => by
  refine .inl ⟨?_, trivial⟩
  show rSameI_b1 F a a x = _
  unfold rSameI_b1
  rw [cnd_tt (decide_eq_true hx), chk_inR h0 hx, chk_inR h0 hx, hat, rCells_refl (by have := hv c hc; omega) (by have := hv c hc; omega), chk_t (by simp [imp]), cnd_ff (by simp [ov]), chk_i64 (by omega) (by omega)]) (by
  show rSameI_b1 F a a _ = _
  unfold rSameI_b1
  rw [cnd_ff (decide_eq_false (by omega))]) hF
 rw [obn_s h1]
 rcases h2 with ⟨q, _, h⟩ | ⟨rfl, _⟩
 ·exact h.elim
 ·rfl
/-! ### scans -/
def pfx (pre k : Str) : Bool := decide ((pre.length : Int) ≤ (k.length : Int)) && decide (List.take (Int.toNat (pre.length : Int)) k = pre)
theorem hasPrefix_eq (k pre : Str) : hasPrefix k pre = some (pfx pre k) := by
 unfold hasPrefix slHasPrefix
 have hc : imp (decide ((pre.length : Int) ≤ (k.length : Int))) (inC (pre.length : Int) (k.length : Int)) = true := by
  by_cases h : (pre.length : Int) ≤ (k.length : Int)
  ·rw [decide_eq_true h, inC' (by omega) h]; rfl
  ·rw [decide_eq_false h]; rfl
 rw [chk_t hc, obn_s rfl]; rfl
def scn (pre : Str) (xs : List (Str × TApiItem)) : List (Str × TApiItem) := xs.filter fun p => pfx pre p.1
theorem scn_take {pre : Str} {xs : List (Str × TApiItem)} {n : Nat} {p : Str × TApiItem} (h : xs[n]? = some p) : its (scn pre (xs.take (n + 1))) = its (scn pre (xs.take n)) ++ bif pfx pre p.1 then [p.2] else [] := by
 rw [List.take_add_one, h]
 unfold its scn
 rw [List.filter_append, List.map_append]
 congr 1
 cases hp : pfx pre p.1 <;> simp [hp]
theorem scn_len (pre : Str) (xs : List (Str × TApiItem)) : (its (scn pre xs)).length ≤ xs.length := by
 unfold its scn
 rw [List.length_map]; exact List.length_filter_le ..
theorem rScan_eq {F : Nat} (hF : 300 < F) {xs : List (Str × TApiItem)} (hw : WOk ⟨xs, []⟩) (pre : Str) : rScan F ⟨true, its xs⟩ pre = some (its (scn pre xs), ⟨true, its xs⟩) := by
 have hl : xs.length ≤ 256 := hw.len
 have hlen := its_len xs
 unfold rScan
 rw [cnd_ff (p := !true) rfl]
 obtain ⟨o, h1, h2⟩ := lop_ind (body := fun σ : List TApiItem × Int => rScan_b1 ⟨true, its xs⟩ pre σ.1 σ.2) (fun σ => 0 ≤ σ.2 ∧ σ.2 ≤ (xs.length : Int) ∧ σ.1 = its (scn pre (xs.take σ.2.toNat))) (fun σ => xs.length - σ.2.toNat)
  (fun o => o = .go (its (scn pre xs))) (fun ⟨out, x⟩ ⟨h0, hx, ho⟩ => by
   dsimp only at h0 hx ho ⊢
   subst ho
   have hsl := scn_len pre (xs.take x.toNat)
   rw [List.length_take] at hsl
   by_cases hx2 : x < (xs.length : Int)
   ·obtain ⟨p, hp⟩ : ∃ p, xs[x.toNat]? = some p := ⟨xs[x.toNat]'(by omega), List.getElem?_eq_getElem (by omega)⟩
    have hat : at' (its xs) x = p.2 := by simp [at', its_get hp]
    have hkey : p.2.fKey = p.1 := hw.ikey p (List.mem_of_getElem? hp)
    have hc : imp (decide ((pre.length : Int) ≤ (p.1.length : Int))) (inC (pre.length : Int) (p.1.length : Int)) = true := by
     by_cases h : (pre.length : Int) ≤ (p.1.length : Int)
     ·rw [decide_eq_true h, inC' (by omega) h]; rfl
     ·rw [decide_eq_false h]; rfl
    have hb : rScan_b1 ⟨true, its xs⟩ pre (its (scn pre (xs.take x.toNat))) x = cnd (pfx pre p.1) (some (.next (its (scn pre (xs.take x.toNat)) ++ [p.2], x + 1))) (some (.next (its (scn pre (xs.take x.toNat)), x + 1))) := by
     unfold rScan_b1 rScan_j2
     dsimp only
     rw [hlen, cnd_tt (decide_eq_true hx2), chk_inR h0 hx2, hat, hkey, chk_t hc, chk48 (by simp; omega), chk_i64 (by omega) (by omega), chk_i64 (by omega) (by omega)]; rfl
    have ht := scn_take (pre := pre) hp
    have hx1 : (x + 1).toNat = x.toNat + 1 := by omega
    cases hpf : pfx pre p.1 with
    | true =>
     rw [hpf] at ht
     refine .inl ⟨_, hb.trans (cnd_tt hpf), ⟨by show 0 ≤ x + 1; omega, by show x + 1 ≤ _; omega, ?_⟩, by show xs.length - (x + 1).toNat < xs.length - x.toNat; omega⟩
     show _ = its (scn pre (xs.take (x + 1).toNat))
     rw [hx1, ht]; rfl
    | false =>
     rw [hpf] at ht
     refine .inl ⟨_, hb.trans (cnd_ff hpf), ⟨by show 0 ≤ x + 1; omega, by show x + 1 ≤ _; omega, ?_⟩, by show xs.length - (x + 1).toNat < xs.length - x.toNat; omega⟩
     show _ = its (scn pre (xs.take (x + 1).toNat))
     rw [hx1, ht]; simp
   ·refine .inr ⟨.go _, by unfold rScan_b1; dsimp only; rw [hlen, cnd_ff (decide_eq_false hx2)], ?_⟩
    rw [show x.toNat = xs.length from by omega, List.take_length]) F ([], 0) ⟨Int.le_refl 0, by show (0 : Int) ≤ _; omega, by simp [its, scn]⟩ (by show xs.length - 0 < F; omega)
 subst h2
 rw [obn_s h1, ou_go]; rfl
theorem mkeys_eq {xs : List (Str × TApiItem)} (hm : Ms xs) : mkeys xs = xs.map (·.1) := by
 unfold mkeys
 refine List.mergeSort_of_pairwise (List.pairwise_map.2 (hm.imp fun {p q} h => ?_))
 have h' : Op.bytesLess p.1 q.1 = true := h
 rw [bytesLess_eq] at h'
 exact decide_eq_true (List.le_of_lt (of_decide_eq_true h'))
theorem keysOk_of {xs : List (Str × TApiItem)} (hl : xs.length ≤ 256) (hk : ∀ p ∈ xs, p.1.length ≤ 300) : keysOk xs = true := by
 unfold keysOk
 simp only [Bool.and_eq_true, decide_eq_true_eq, List.all_eq_true]
 refine ⟨by omega, fun p hp => ?_⟩
 have := hk p hp
 unfold okS
 simp only [decide_eq_true_eq]; omega
theorem kScan_eq {F : Nat} (hF : 300 < F) {xs ys : List (Str × TApiItem)} (hw : WOk ⟨xs, []⟩) (pre : Str) : kScan F ⟨xs, ys⟩ pre = some (its (scn pre xs), ⟨xs, ys⟩) := by
 have hl : xs.length ≤ 256 := hw.len
 have hm : Ms xs := hw.it.ms
 have hlen : (xs.map (·.1)).length = xs.length := by simp
 unfold kScan kMade
 rw [obn_s rfl, cnd_ff (p := !true) rfl, chk_t (keysOk_of hl hw.kl)]
 obtain ⟨o, h1, h2⟩ := lop_ind (body := fun σ : List TApiItem × Int => kScan_b1 pre (true, ⟨xs, ys⟩) σ.1 σ.2) (fun σ => 0 ≤ σ.2 ∧ σ.2 ≤ (xs.length : Int) ∧ σ.1 = its (scn pre (xs.take σ.2.toNat))) (fun σ => xs.length - σ.2.toNat)
  (fun o => o = .go (its (scn pre xs))) (fun ⟨out, x⟩ ⟨h0, hx, ho⟩ => by
   dsimp only at h0 hx ho ⊢
   subst ho
   have hsl := scn_len pre (xs.take x.toNat)
   rw [List.length_take] at hsl
   by_cases hx2 : x < (xs.length : Int)
   ·obtain ⟨p, hp⟩ : ∃ p, xs[x.toNat]? = some p := ⟨xs[x.toNat]'(by omega), List.getElem?_eq_getElem (by omega)⟩
    have hpm := List.mem_of_getElem? hp
    have hat : at' (xs.map (·.1)) x = p.1 := by simp [at', hp]
    have hval : mval xs p.1 (TApiItem.mk [] [] 0) = p.2 := by
     unfold mval
     rw [mget_mem_nodup hm.nodup (show (p.1, p.2) ∈ xs from hpm)]; rfl
    have hown : kOwn p.2 = some p.2 := by
     unfold kOwn
     have := (hw.it.ok p hpm).2.2
     rw [cloneN_eq (by omega), obn_s rfl]
    have hb : kScan_b1 pre (true, ⟨xs, ys⟩) (its (scn pre (xs.take x.toNat))) x = cnd (pfx pre p.1) (some (.next (its (scn pre (xs.take x.toNat)) ++ [p.2], x + 1))) (some (.next (its (scn pre (xs.take x.toNat)), x + 1))) := by
     unfold kScan_b1 kScan_j2
     dsimp only
     rw [mkeys_eq hm, hlen, cnd_tt (decide_eq_true hx2), chk_inR h0 hx2, hat, hasPrefix_eq, obn_s rfl, hval, hown, obn_s rfl, chk48 (by simp; omega), chk_i64 (by omega) (by omega), chk_i64 (by omega) (by omega)]
    have ht := scn_take (pre := pre) hp
    have hx1 : (x + 1).toNat = x.toNat + 1 := by omega
    cases hpf : pfx pre p.1 with
    | true =>
     rw [hpf] at ht
     refine .inl ⟨_, hb.trans (cnd_tt hpf), ⟨by show 0 ≤ x + 1; omega, by show x + 1 ≤ _; omega, ?_⟩, by show xs.length - (x + 1).toNat < xs.length - x.toNat; omega⟩
     show _ = its (scn pre (xs.take (x + 1).toNat))
     rw [hx1, ht]; rfl
    | false =>
     rw [hpf] at ht
     refine .inl ⟨_, hb.trans (cnd_ff hpf), ⟨by show 0 ≤ x + 1; omega, by show x + 1 ≤ _; omega, ?_⟩, by show xs.length - (x + 1).toNat < xs.length - x.toNat; omega⟩
     show _ = its (scn pre (xs.take (x + 1).toNat))
     rw [hx1, ht]; simp
   ·refine .inr ⟨.go _, by unfold kScan_b1; dsimp only; rw [mkeys_eq hm, hlen, cnd_ff (decide_eq_false hx2)], ?_⟩
    rw [show x.toNat = xs.length from by omega, List.take_length]) F ([], 0) ⟨Int.le_refl 0, by show (0 : Int) ≤ _; omega, by simp [its, scn]⟩ (by show xs.length - 0 < F; omega)
 subst h2
 rw [obn_s h1, ou_go]; rfl
theorem scn_same {F : Nat} (hF : 300 < F) {xs : List (Str × TApiItem)} (hw : WOk ⟨xs, []⟩) (pre : Str) : rSameI F (its (scn pre xs)) (its (scn pre xs)) = some true := by
 have hl : xs.length ≤ 256 := hw.len
 have h1 := scn_len pre xs
 refine rSameI_refl (by omega) hF (by omega) fun y hy => ?_
 obtain ⟨p, hp, rfl⟩ := List.mem_map.1 hy
 exact (hw.it.ok p (List.mem_filter.1 hp).1).2.2
end Go.Proofs.YtjfnokmpfekniaaGreatDoor

/-
 The plain law of KvWorks: for all changes whose numbers fit.
-/
namespace Go.Proofs.YtjfnokmpfekniaaGreatDoor
open Go
set_option linter.unusedVariables false
set_option linter.unusedSimpArgs false
theorem lAwake_ok4 : lAwake 40000 = some true := by decide +kernel
theorem works_j2 {F : Nat} (hF : 300 < F) {xs ys : List (Str × TApiItem)} (hw : WOk ⟨xs, []⟩) {x : Int} (h0 : 0 ≤ x) (h1 : x ≤ 1000) (key : Str) (a b : Int) (c d : Bool) :
  lWorks_j2 F key x a b c d false ⟨true, its xs⟩ xs ys = some (.next (x + 1, ⟨true, its xs⟩, xs, ys)) := by
 have hv := (hw.it.get key).2.2
 unfold lWorks_j2 lWorks_j3
 rw [cnd_ff rfl, kGet_eq (q := ⟨xs, ys⟩) hw.it, obn_s rfl, rGet_eq hF hw, obn_s rfl]
 dsimp only
 rw [cnd_ff (by simp), rSameI_refl (by simp; omega) hF (by simp) (by simpa using hv), obn_s rfl, cnd_ff (p := !true) rfl]
 rw [kScan_eq hF hw, obn_s rfl, rScan_eq hF hw, obn_s rfl]
 dsimp only
 rw [scn_same hF hw, obn_s rfl, cnd_ff (p := !true) rfl, kScan_eq hF hw, obn_s rfl, rScan_eq hF hw, obn_s rfl]
 dsimp only
 rw [scn_same hF hw, obn_s rfl, cnd_ff (p := !true) rfl, chk_i64 (by omega) (by omega)]
theorem works_b1 {F : Nat} (hF : 30000 < F) {l : List (List TApiChange)} (hl : l.length ≤ 30) (hsm : ∀ m ∈ l, SmP m) (hok : ∀ m ∈ l, ∀ d ∈ m, OkC d) (key : Str) {x : Int} (h0 : 0 ≤ x) (hx : x < (l.length : Int)) {xs : List (Str × TApiItem)} (ys : List (Str × TApiItem)) (hw : WOk ⟨xs, []⟩) :
  ∃ xs' ys', lWorks_b1 F l key x ⟨true, its xs⟩ xs ys = some (.next (x + 1, ⟨true, its xs'⟩, xs', ys')) ∧ WOk ⟨xs', []⟩ := by
 obtain ⟨m, hm⟩ : ∃ m, l[x.toNat]? = some m := ⟨l[x.toNat]'(by omega), List.getElem?_eq_getElem (by omega)⟩
 have hat : at' l x = m := by simp [at', hm]
 have hmm : m ∈ l := List.mem_of_getElem? hm
 obtain ⟨e0, he, _⟩ := kValid_t (by omega : 5000 < F) (hsm m hmm) (hok m hmm)
 have hl2 : xs.length ≤ 256 := hw.len
 obtain ⟨r1, r2⟩ := rApply_eq (ys := ys) hF hw (hsm m hmm) (hok m hmm) he
 unfold lWorks_b1
 rw [cnd_tt (decide_eq_true hx), chk_inR h0 hx, hat, kApply_eq (q := ⟨xs, ys⟩) (by omega) he (hsm m hmm) hw.it (by show xs.length ≤ 100000; omega), obn_s rfl, r1, obn_s rfl]
 generalize appl e0 ⟨xs, ys⟩ m = t at r2
 obtain ⟨e, xs', ys'⟩ := t
 refine ⟨xs', ys', ?_, r2⟩
 dsimp only
 rw [cnd_ff (by simp), kLen_eq, obn_s rfl]
 unfold rLen
 rw [cnd_ff (p := !true) rfl, obn_s rfl]
 dsimp only
 rw [its_len, decide_eq_true (rfl : (xs'.length : Int) = (xs'.length : Int))]
 exact works_j2 (by omega) r2 h0 (by omega) key _ _ _ _
theorem lWorks_law {l : List (List TApiChange)} {key : Str} (hl : ∀ m ∈ l, ∀ d ∈ m, OkC d) : lWorks 40000 l key = some true := by
 obtain ⟨b, hb, hs⟩ := lFew_t (F := 40000) (by decide) l
 unfold lWorks
 rw [hb]
 simp only [Option.isSome_some, chk_t, o_some]
 cases hA : (!b || decide (300 < (key.length : Int))) with
 | true => rw [cnd_tt rfl, lAwake_ok4]; rfl
 | false =>
  simp only [Bool.or_eq_false_iff, Bool.not_eq_false', decide_eq_false_iff_not] at hA
  obtain ⟨hlen, hsm⟩ := hs hA.1
  rw [cnd_ff rfl]
  unfold kNew rNew
  rw [obn_s rfl, obn_s rfl]
  have hw0 : WOk ⟨[], []⟩ := ⟨IOk.nil, IOk.nil, fun _ h => by (cases h), fun _ h => by (cases h), fun _ h => by (cases h), fun _ h => by (cases h), by decide, fun _ h => by (cases h)⟩
  obtain ⟨o, g1, g2⟩ := lop_ind (body := fun σ : Int × TFaasref46Store × List (Str × TApiItem) × List (Str × TApiItem) => lWorks_b1 40000 l key σ.1 σ.2.1 σ.2.2.1 σ.2.2.2) (fun σ => 0 ≤ σ.1 ∧ σ.1 ≤ (l.length : Int) ∧ σ.2.1 = ⟨true, its σ.2.2.1⟩ ∧ WOk ⟨σ.2.2.1, []⟩) (fun σ => l.length - σ.1.toNat)
   (fun o => o = .go ()) (fun ⟨x, r, xs, ys⟩ ⟨h0, hxl, hr, hw⟩ => by
    dsimp only at h0 hxl hr hw ⊢
    subst hr
    by_cases hx : x < (l.length : Int)
    ·obtain ⟨xs', ys', e, hw'⟩ := works_b1 (F := 40000) (by decide) hlen hsm hl key h0 hx ys hw
     exact .inl ⟨_, e, ⟨by show 0 ≤ x + 1; omega, by show x + 1 ≤ _; omega, rfl, hw'⟩, by show l.length - (x + 1).toNat < l.length - x.toNat; omega⟩
    ·exact .inr ⟨.go (), by unfold lWorks_b1; rw [cnd_ff (decide_eq_false hx)], rfl⟩) 40000 (0, ⟨true, []⟩, [], []) ⟨Int.le_refl 0, by show (0 : Int) ≤ _; omega, rfl, hw0⟩ (by show l.length - 0 < 40000; omega)
  subst g2
  rw [obn_s g1, ou_go]
  unfold lWorks_k1
  rw [lAwake_ok4]; rfl
end Go.Proofs.YtjfnokmpfekniaaGreatDoor
namespace Go.Proofs.YtjfnokmpfekniaaGreatDoor.lawKvWorks
open Go
set_option linter.unusedVariables false
theorem okC {c : TApiChange} (h : ok50 c = true) : OkC c := by
 unfold ok50 at h
 simp only [Bool.and_eq_true, List.all_eq_true, decide_eq_true_eq] at h
 refine ⟨inK_i64 h.2, fun x hx => ?_⟩
 have := h.1.2.1 x hx
 unfold ok78 at this
 simp only [Bool.and_eq_true] at this
 exact ⟨this.1.1.2, (inK_i64 this.2).2⟩
theorem law : Law := fun l key h1 _ => ⟨40000, lWorks_law (fun m hm d hd => by
 simp only [Bool.and_eq_true, List.all_eq_true, decide_eq_true_eq] at h1
 exact okC ((h1.1 m hm).1 d hd))⟩
end Go.Proofs.YtjfnokmpfekniaaGreatDoor.lawKvWorks
