/-
  Texts of the proof, put together: QU, QT, WVg, OkValueOrders, LvA, LvB, LvC, LvD, LvE, LvF, LvG, LvH, LvI, LvJ, LvK, LvL, LvM, LvN, LvO, LvP, LcA, LcB, LcC, LcD, LcE, LcF, LcG.
-/
import Derived.Test.YtkalifgebccpcaaDoorMO3
import Derived.Laws.Cover3
import GoSem.ClaimData
/-
 Regions that draw, with operations in a row behind them, and with allocations in any order. Plain theorems over any program; no condition.
-/
namespace Go.Proofs.YtkalifgebccpcaaDoor.Q
open Go Go.RowKit
set_option linter.unusedVariables false
set_option linter.unusedSimpArgs false
def chainB (ops : List Oper) (N : Nat) : Bool :=
 let cl := cloM ops []
 (List.range ops.length).all (fun i => (bnds (ops.getD i default)).all (· < i)) &&
 (List.range ops.length).all (fun i => i < N || (List.range i).all (fun j => (cl.getD i 0).testBit j))
section
variable {P : Program} {Q : Exit → Act → World → Prop}
theorem count_first {listed : Array Bool} {len m : Nat} (hs : listed.size = len) (hm : m ≤ len) (h : ∀ j, j < len → (listed.getD j true = true ↔ j < m)) : listed.toList.count false = len - m := by
 have : listed.toList = List.replicate m true ++ List.replicate (len - m) false := by
  apply List.ext_getElem
  ·simp [hs]; omega
  ·intro j h1 h2
   have hj : j < len := by simpa [hs] using h1
   have := h j hj
   rw [Array.getD_eq_getD_getElem?, Array.getElem?_eq_getElem (by omega)] at this
   simp only [Option.getD_some] at this
   rw [Array.getElem_toList, List.getElem_append]
   split
   ·rename_i h3
    simp at h3
    simp [this.2 h3]
   ·rename_i h3
    simp at h3
    simp only [List.getElem_replicate]
    cases hb : listed[j] with
    | false => rfl
    | true => have := this.1 hb; omega
 rw [this]; simp [List.count_append, List.count_replicate]
theorem getD_tf {listed : Array Bool} {j : Nat} (h : j < listed.size) (d d' : Bool) : listed.getD j d = listed.getD j d' := by
 simp [Array.getD_eq_getD_getElem?, Array.getElem?_eq_getElem h]
theorem anc_listed {ops : List Oper} {listed : Array Bool} {i : Nat} {o : Oper} (ho : ops[i]? = some o) (hb : ∀ e ∈ bnds o, listed.getD e true = true)
  (hcl : ∀ j o, ops[j]? = some o → listed.getD j true = true → ∀ e ∈ bnds o, listed.getD e true = true) (j : Nat) (h : ((cloM ops []).getD i 0).testBit j = true) : j = i ∨ listed.getD j true = true :=
 cloM_good ops (fun k => k = i ∨ listed.getD k true = true) ops [] (fun t o' ht e he hF => by
  rcases hF with hF | hF
  ·simp at hF; subst hF; rw [ho] at ht; simp at ht; subst ht; exact .inr (hb e he)
  ·exact .inr (hcl t o' ht (by simpa using hF) e he)) (fun j i hb => by simp at hb) i j h (.inl rfl)
theorem ready_bnds {ops : List Oper} {listed : Array Bool} {i : Nat} (hsz : listed.size = ops.length) (hlt : ∀ i, i < ops.length → ∀ e ∈ bnds (ops.getD i default), e < i) (h : i ∈ Region.ready .any ops.toArray listed) :
  listed.getD i true = false ∧ i < ops.length ∧ ∃ o, ops[i]? = some o ∧ ∀ e ∈ bnds o, listed.getD e true = true := by
 obtain ⟨h1, o, ho, h2⟩ := mem_ready.1 h
 have ho' : ops[i]? = some o := by simpa using ho
 have hil := (List.getElem?_eq_some_iff.1 ho').1
 refine ⟨h1, hil, o, ho', fun e he => ?_⟩
 have hei := hlt i hil e (by rw [List.getD_eq_getElem?_getD, ho']; exact he)
 simp only [bnds, List.mem_map, List.mem_filter] at he
 obtain ⟨x, ⟨hx1, hx2⟩, rfl⟩ := he
 have h3 := h2 x (by simpa using hx1) hx2
 rw [getD_tf (by omega) true false]; exact h3
theorem not_ready_all {ops : List Oper} {listed : Array Bool} (hsz : listed.size = ops.length) (hlt : ∀ i, i < ops.length → ∀ e ∈ bnds (ops.getD i default), e < i) (h : Region.ready .any ops.toArray listed = []) :
  ∀ j, j < ops.length → listed.getD j true = true := by
 intro j
 induction j using Nat.strongRecOn with
 | ind j ih =>
  intro hj
  cases hb : listed.getD j true with
  | true => rfl
  | false =>
   have : j ∈ Region.ready .any ops.toArray listed := mem_ready.2 ⟨hb, ops[j], by simp [hj], fun e he hbn => by
    have hel : e.on < j := hlt j hj e.on (by
     rw [List.getD_eq_getElem?_getD, List.getElem?_eq_getElem hj]
     simp only [bnds, Option.getD_some, List.mem_map, List.mem_filter]
     exact ⟨e, ⟨by simpa using he, hbn⟩, rfl⟩)
    rw [getD_tf (by omega) false true]
    exact ih e.on hel (by omega)⟩
   rw [h] at this; cases this
theorem set_iff {listed : Array Bool} {i j : Nat} (hi : i < listed.size) : (listed.setIfInBounds i true).getD j true = true ↔ (j = i ∨ listed.getD j true = true) := by
 by_cases hj : i = j
 ·subst hj; simp [hi]
 ·rw [getD_set_ne true hj]
  exact ⟨.inr, fun h => h.elim (fun h => absurd h.symm hj) id⟩
theorem set_count {listed : Array Bool} {i fuel : Nat} (hi : i < listed.size) (hun : listed.getD i true = false) (hc : listed.toList.count false = fuel + 1) : (listed.setIfInBounds i true).toList.count false = fuel := by
 have hfi : listed.toList[i]? = some false := by
  rw [Array.getD_eq_getD_getElem?, Array.getElem?_eq_getElem hi] at hun
  simp at hun; simp [hi, hun]
 rw [Array.toList_setIfInBounds]
 have h1 := List.count_set (a := true) (b := false) (l := listed.toList) (i := i) (by simpa using hi)
 have h2 : listed.toList[i]'(by simpa using hi) = false := by
  have := List.getElem?_eq_some_iff.1 hfi; exact this.2
 rw [h1, h2, hc]; rfl
theorem wpAny_chain {ops : List Oper} {N : Nat} (hlt : ∀ i, i < ops.length → ∀ e ∈ bnds (ops.getD i default), e < i)
  (hch : ∀ i, N ≤ i → i < ops.length → ∀ j, j < i → ((cloM ops []).getD i 0).testBit j = true) : ∀ (k m : Nat) (listed : Array Bool) (a : Act) (w : World), m + k = ops.length → N ≤ m → listed.size = ops.length →
   (∀ j, j < ops.length → (listed.getD j true = true ↔ j < m)) → (∀ j o, ops[j]? = some o → listed.getD j true = true → ∀ e ∈ bnds o, listed.getD e true = true) → wpList P ops.toArray Q (ops.drop m) a w → wpAny P .any ops.toArray Q k listed a w
 | 0, m, listed, a, w, hk, hN, hsz, hl, hcl, h => by
  refine ⟨?_, ?_⟩
  ·cases hr : Region.ready .any ops.toArray listed with
   | nil => rfl
   | cons i r =>
    obtain ⟨h1, h2, _⟩ := ready_bnds hsz hlt (i := i) (by rw [hr]; simp)
    rw [(hl i h2).2 (by omega)] at h1; cases h1
  ·rw [List.drop_of_length_le (by omega)] at h
   exact h
 | k + 1, m, listed, a, w, hk, hN, hsz, hl, hcl, h => by
  refine ⟨fun hr => ?_, fun i hi => ?_⟩
  ·have := (hl m (by omega)).1 (not_ready_all hsz hlt hr m (by omega)); omega
  ·obtain ⟨h1, h2, o, ho, hb⟩ := ready_bnds hsz hlt hi
   have him : i = m := by
    have hmi : ¬ i < m := fun h' => by rw [(hl i h2).2 h'] at h1; cases h1
    by_cases e : i = m
    ·exact e
    ·rcases anc_listed ho hb hcl m (hch i (by omega) h2 m (by omega)) with h3 | h3
     ·exact h3.symm
     ·have := (hl m (by omega)).1 h3; omega
   subst him
   have hd : ops.drop i = o :: ops.drop (i + 1) := by
    rw [List.drop_eq_getElem_cons h2]
    congr 1
    exact (List.getElem?_eq_some_iff.1 ho).2
   rw [hd] at h
   have ih : ∀ a' w', wpList P ops.toArray Q (ops.drop (i + 1)) a' w' → wpAny P .any ops.toArray Q k (listed.setIfInBounds i true) a' w' := fun a' w' h' => by
    refine wpAny_chain hlt hch k (i + 1) _ a' w' (by omega) (by omega) (by simpa using hsz) (fun j hj => ?_) (fun j o' hj hlj e he => ?_) h'
    ·rw [set_iff (by omega), hl j hj]; omega
    ·rw [set_iff (by omega)] at hlj ⊢
     rcases hlj with rfl | hlj
     ·rw [ho] at hj; simp at hj; subst hj; exact .inr (hb e he)
     ·exact .inr (hcl j o' hj hlj e he)
   unfold wpOp
   have hoA : ops.toArray[i]? = some o := by simpa using ho
   simp only [hoA]
   simp only [wpList] at h
   split
   ·rename_i hw'
    rw [if_pos hw'] at h
    exact h.imp (fun h => Oper.wp_mono ih h) (fun h => h)
   ·rename_i hw'
    rw [if_neg hw'] at h
    exact ih _ _ h
theorem wp_inv {id : Nat} {ops : List Oper} {N : Nat} (hm : P.follows .mixedOrders = true) (hB : chainB ops N = true) (hN : N ≤ ops.length) (I : (Nat → Bool) → Act → World → Prop)
  (hext : ∀ S S' a w, (∀ j, j < N → S j = S' j) → I S a w → I S' a w) {a : Act} {w : World} (h0 : I (fun _ => false) a { w with drawn := w.drawn + 1 })
  (step : ∀ S i o a w, i < N → S i = false → ops[i]? = some o → (∀ e ∈ bnds o, e < i ∧ S e = true) → I S a w → ∀ K : Act → World → Prop, (∀ a' w', I (fun j => j == i || S j) a' w' → K a' w') →
   (Region.wanted o (yielded ops.toArray a.tmps) = true → o.wp P a w K Q) ∧ (Region.wanted o (yielded ops.toArray a.tmps) = false → K (a.put o.dst undef) w))
  (fin : ∀ a w, I (fun _ => true) a w → wpList P ops.toArray Q (ops.drop N) a w) : (Code.region id ops.toArray true).wp P Q a w := by
 simp only [chainB, Bool.and_eq_true, List.all_eq_true, List.mem_range, decide_eq_true_eq, Bool.or_eq_true] at hB
 obtain ⟨hlt, hch0⟩ := hB
 have hch : ∀ i, N ≤ i → i < ops.length → ∀ j, j < i → ((cloM ops []).getD i 0).testBit j = true := fun i h1 h2 j hj => by
  rcases hch0 i h2 with h3 | h3
  ·omega
  ·exact h3 j hj
 refine wp_region_any hm ?_
 have main : ∀ (fuel : Nat) (listed : Array Bool) (a : Act) (w : World), listed.size = ops.length → listed.toList.count false = fuel → I (fun j => listed.getD j true) a w →
   (∀ j o, ops[j]? = some o → listed.getD j true = true → ∀ e ∈ bnds o, listed.getD e true = true) → (∀ j, N ≤ j → j < ops.length → listed.getD j true = false) → wpAny P .any ops.toArray Q fuel listed a w := by
  intro fuel
  have allin : ∀ (fuel : Nat) (listed : Array Bool) (a : Act) (w : World), listed.size = ops.length → listed.toList.count false = fuel → I (fun j => listed.getD j true) a w →
   (∀ j o, ops[j]? = some o → listed.getD j true = true → ∀ e ∈ bnds o, listed.getD e true = true) → (∀ j, N ≤ j → j < ops.length → listed.getD j true = false) → (∀ j, j < N → listed.getD j true = true) → wpAny P .any ops.toArray Q fuel listed a w := by
   intro fuel listed a w hsz hc hI hcl hlast hall
   have hl : ∀ j, j < ops.length → (listed.getD j true = true ↔ j < N) := fun j hj => by
    constructor
    ·intro h
     by_cases hjN : j < N
     ·exact hjN
     ·rw [hlast j (by omega) hj] at h; cases h
    ·exact hall j
   have := count_first hsz hN hl
   refine wpAny_chain hlt hch fuel N listed a w (by omega) (Nat.le_refl _) hsz hl hcl (fin a w (hext _ _ a w (fun j hj => hall j hj) hI))
  induction fuel with
  | zero =>
   intro listed a w hsz hc hI hcl hlast
   refine allin 0 listed a w hsz hc hI hcl hlast (fun j hj => ?_)
   cases hb : listed.getD j true with
   | true => rfl
   | false =>
    have : false ∈ listed.toList := by
     rw [Array.getD_eq_getD_getElem?, Array.getElem?_eq_getElem (by omega)] at hb
     simp at hb; rw [← hb]; simp
    have := List.count_pos_iff.2 this
    omega
  | succ fuel ih =>
   intro listed a w hsz hc hI hcl hlast
   by_cases hall : ∀ j, j < N → listed.getD j true = true
   ·exact allin (fuel + 1) listed a w hsz hc hI hcl hlast hall
   ·refine ⟨fun hr => absurd (fun j hj => not_ready_all hsz hlt hr j (by omega)) hall, fun i hi => ?_⟩
    obtain ⟨h1, h2, o, ho, hb⟩ := ready_bnds hsz hlt hi
    have hiN : i < N := by
     by_cases h : i < N
     ·exact h
     ·refine absurd (fun j hj => ?_) hall
      rcases anc_listed ho hb hcl j (hch i (by omega) h2 j (by omega)) with h3 | h3
      ·omega
      ·exact h3
    have K' : ∀ a' w', I (fun j => j == i || listed.getD j true) a' w' → wpAny P .any ops.toArray Q fuel (listed.setIfInBounds i true) a' w' := fun a' w' hI' => by
     refine ih _ a' w' (by simpa using hsz) (set_count (by omega) h1 hc) (hext _ _ a' w' (fun j hj => ?_) hI') (fun j o' hj hlj e he => ?_) (fun j h3 h4 => ?_)
     ·have := set_iff (listed := listed) (i := i) (j := j) (by omega)
      cases hq : (listed.setIfInBounds i true).getD j true with
      | true =>
       rw [hq] at this
       rcases this.1 rfl with h | h
       ·simp [h]
       ·simp [h]
      | false =>
       rw [hq] at this
       have h5 : ¬ (j = i ∨ listed.getD j true = true) := fun h => by have := this.2 h; cases this
       cases hz : listed.getD j true with
       | true => exact absurd (.inr hz) h5
       | false =>
        have : j ≠ i := fun h => h5 (.inl h)
        simp [this]
     ·rw [set_iff (by omega)] at hlj ⊢
      rcases hlj with rfl | hlj
      ·rw [ho] at hj; simp at hj; subst hj; exact .inr (hb e he)
      ·exact .inr (hcl j o' hj hlj e he)
     ·rw [getD_set_ne true (by omega)]; exact hlast j h3 h4
    obtain ⟨k1, k2⟩ := step _ i o a w hiN h1 ho (fun e he => ⟨hlt i h2 e (by rw [List.getD_eq_getElem?_getD, ho]; exact he), hb e he⟩) hI _ K'
    unfold wpOp
    have hoA : ops.toArray[i]? = some o := by simpa using ho
    simp only [hoA]
    split
    ·rename_i hw'; exact .inl (k1 hw')
    ·rename_i hw'; exact k2 (by simpa using hw')
 have e0 : ∀ j, j < ops.length → (Array.replicate ops.length false).getD j true = false := fun j hj => by simp [hj]
 have hsz0 : ops.toArray.size = ops.length := by simp
 rw [hsz0]
 refine main ops.length (Array.replicate ops.length false) a _ (by simp) (by simp) (hext _ _ _ _ (fun j hj => (e0 j (by omega)).symm) h0) (fun j o hj hl => ?_) (fun j _ h2 => e0 j h2)
 rw [e0 j (List.getElem?_eq_some_iff.1 hj).1] at hl; cases hl
end
/-! ### Allocations in any order -/
structure Sa where
 deps : List Nat
 r : Rp
 al : Option (List Rp × TypeId) := none
 late : Option (Nat × List Rp) := none
 sto : Option Nat := none
def sas (sp : List Sa) (i : Nat) : Sa := sp.getD i { deps := [], r := rv undef }
def spq (sp : List Sa) : List Sp := sp.map fun s => ⟨s.deps, s.r, 0⟩
def raOf (β : Nat → Nat) (s : Sa) (i : Nat) : Rp := match s.al with
 | none => s.r
 | some _ => rv (.pointer (some ⟨β i, 0, none⟩))
def cont (S : Nat → Bool) (late : Option (Nat × List Rp)) (cs : List Rp) : List Rp := match late with
 | none => cs
 | some q => if S q.1 then q.2 else cs
def entL (S : Nat → Bool) (β : Nat → Nat) : List Sa → Nat → List Ent
 | [], _ => []
 | s :: r, t => match s.al with
  | some p => if S t then .blk (β t) (cont S s.late p.1) p.2 :: entL S β r (t + 1) else entL S β r (t + 1)
  | none => entL S β r (t + 1)
def entA (β : Nat → Nat) : List Sa → Nat → List Ent
 | [], _ => []
 | s :: r, t => match s.al with
  | some p => .blk (β t) (match s.late with | none => p.1 | some q => q.2) p.2 :: entA β r (t + 1)
  | none => entA β r (t + 1)
def zipA (β : Nat → Nat) : List Oper → List Sa → Nat → Fr → Fr
 | o :: os, s :: sp, i, l => match o.dst with
  | some d => (d, raOf β s i) :: zipA β os sp (i + 1) l
  | none => zipA β os sp (i + 1) l
 | _, _, _, l => l
theorem cont_congr {S S' : Nat → Bool} {late : Option (Nat × List Rp)} {cs : List Rp} (h : ∀ q, late = some q → S q.1 = S' q.1) : cont S late cs = cont S' late cs := by
 unfold cont
 cases late with
 | none => rfl
 | some q => simp only []; rw [h q rfl]
theorem entL_cons (S : Nat → Bool) (β : Nat → Nat) (s : Sa) (r : List Sa) (t : Nat) : entL S β (s :: r) t = match s.al with
  | some p => if S t then .blk (β t) (cont S s.late p.1) p.2 :: entL S β r (t + 1) else entL S β r (t + 1)
  | none => entL S β r (t + 1) := rfl
theorem entL_congr {S S' : Nat → Bool} {β β' : Nat → Nat} : ∀ (r : List Sa) (t0 : Nat), (∀ (t : Nat) (s : Sa), r[t]? = some s → s.al ≠ none → S (t0 + t) = S' (t0 + t) ∧ (S (t0 + t) = true → β (t0 + t) = β' (t0 + t) ∧ ∀ q, s.late = some q → S q.1 = S' q.1)) → entL S β r t0 = entL S' β' r t0
 | [], _, _ => rfl
 | s :: r, t0, h => by
  have ih := entL_congr r (t0 + 1) (fun t s hs hn => by
   have := h (t + 1) s (by simpa using hs) hn
   rw [show t0 + 1 + t = t0 + (t + 1) from by omega]; exact this)
  unfold entL
  rw [ih]
  cases ha : s.al with
  | none => rfl
  | some p =>
   obtain ⟨h1, h2⟩ := h 0 s rfl (by rw [ha]; exact nofun)
   simp only [Nat.add_zero] at h1 h2
   simp only []
   rw [← h1]
   split
   ·rename_i hS; rw [(h2 hS).1, cont_congr (h2 hS).2]
   ·rfl
theorem entL_all (β : Nat → Nat) : ∀ (r : List Sa) (t0 : Nat), entL (fun _ => true) β r t0 = entA β r t0
 | [], _ => rfl
 | s :: r, t0 => by
  unfold entL entA
  rw [entL_all β r (t0 + 1)]
  cases s.al with
  | none => rfl
  | some p => cases hl : s.late <;> simp [cont, hl]
theorem entL_none (β : Nat → Nat) : ∀ (r : List Sa) (t0 : Nat), entL (fun _ => false) β r t0 = []
 | [], _ => rfl
 | s :: r, t0 => by
  unfold entL
  rw [entL_none β r (t0 + 1)]
  cases s.al <;> simp
theorem entL_put {S : Nat → Bool} {β : Nat → Nat} {i b : Nat} {p : List Rp × TypeId} : ∀ (r : List Sa) (t0 k : Nat) (s : Sa), i = t0 + k → r[k]? = some s → s.al = some p → S i = false → (∀ (t : Nat) (s : Sa) (q : Nat × List Rp), r[t]? = some s → s.al ≠ none → s.late = some q → q.1 ≠ i) → (∀ q, s.late = some q → S q.1 = false ∧ q.1 ≠ i) →
  (entL (fun j => j == i || S j) (fun j => if j = i then b else β j) r t0).Perm (.blk b p.1 p.2 :: entL S β r t0)
 | [], _, _, _, _, h, _, _, _, _ => by simp at h
 | s' :: r, t0, 0, s, hi, h, ha, hS, hne, hl => by
  simp at h hi; subst h; subst hi
  have e := entL_congr (S := fun j => j == i || S j) (S' := S) (β := fun j => if j = i then b else β j) (β' := β) r (i + 1) (fun t s hs hn => by
   have : i + 1 + t ≠ i := by omega
   refine ⟨by simp [this], fun _ => ⟨by simp [this], fun q hq => ?_⟩⟩
   have := hne (t + 1) s q (by simpa using hs) hn hq
   simp [this])
  have ec : cont (fun j => j == i || S j) s'.late p.1 = p.1 := by
   unfold cont
   cases hq : s'.late with
   | none => rfl
   | some q =>
    obtain ⟨h1, h2⟩ := hl q hq
    simp [h1, h2]
  unfold entL
  rw [e, ha]
  simp only [hS, BEq.rfl, Bool.true_or, if_true, ec]
  simp
 | s' :: r, t0, k + 1, s, hi, h, ha, hS, hne, hl => by
  have ih := entL_put (S := S) (β := β) (i := i) (b := b) (p := p) r (t0 + 1) k s (by omega) (by simpa using h) ha hS (fun t s q hs => hne (t + 1) s q (by simpa using hs)) hl
  have hne0 : t0 ≠ i := by omega
  have hne' : (t0 == i) = false := by simpa using hne0
  unfold entL
  cases ha' : s'.al with
  | none => exact ih
  | some q =>
   simp only [hne', Bool.false_or, if_neg hne0]
   rw [cont_congr (S := fun j => j == i || S j) (S' := S) (fun q hq => by
    have := hne 0 s' q rfl (by rw [ha']; exact nofun) hq
    simp [this])]
   cases hS' : S t0 with
   | true => simpa using (List.Perm.cons _ ih).trans (List.Perm.swap _ _ _)
   | false => simpa using ih
theorem entL_sto {S : Nat → Bool} {β : Nat → Nat} {i j : Nat} {p : List Rp × TypeId} {ncs : List Rp} : ∀ (r : List Sa) (t0 k : Nat) (s : Sa), j = t0 + k → r[k]? = some s → s.al = some p → s.late = some (i, ncs) → S j = true → S i = false → (∀ (t : Nat) (s : Sa) (q : Nat × List Rp), r[t]? = some s → s.al ≠ none → s.late = some q → t0 + t ≠ j → q.1 ≠ i) → (∀ (t : Nat) (s : Sa), r[t]? = some s → s.al ≠ none → t0 + t ≠ i) →
  ∃ H', (entL S β r t0).Perm (.blk (β j) p.1 p.2 :: H') ∧ (entL (fun j => j == i || S j) β r t0).Perm (.blk (β j) ncs p.2 :: H')
 | [], _, _, _, _, h, _, _, _, _, _, _ => by simp at h
 | s' :: r, t0, 0, s, hj, h, ha, hl, hSj, hSi, hne, hni => by
  simp at h hj; subst h; subst hj
  have e := entL_congr (S := fun x => x == i || S x) (S' := S) (β := β) (β' := β) r (j + 1) (fun t s hs hn => by
   have h1 := hni (t + 1) s (by simpa using hs) hn
   have h1' : j + 1 + t ≠ i := by omega
   refine ⟨by simp [h1'], fun _ => ⟨rfl, fun q hq => ?_⟩⟩
   have := hne (t + 1) s q (by simpa using hs) hn hq (by omega)
   simp [this])
  refine ⟨entL S β r (j + 1), ?_, ?_⟩
  ·rw [entL_cons]
   rw [ha]
   simp [hSj, cont, hl, hSi]
  ·rw [entL_cons]
   rw [ha, e]
   simp [hSj, cont, hl]
 | s' :: r, t0, k + 1, s, hj, h, ha, hl, hSj, hSi, hne, hni => by
  obtain ⟨H', h1, h2⟩ := entL_sto (S := S) (β := β) (i := i) (j := j) (p := p) (ncs := ncs) r (t0 + 1) k s (by omega) (by simpa using h) ha hl hSj hSi (fun t s q hs hn hq hx => hne (t + 1) s q (by simpa using hs) hn hq (by omega)) (fun t s hs hn => by
   have := hni (t + 1) s (by simpa using hs) hn; omega)
  cases ha' : s'.al with
  | none => exact ⟨H', by rw [entL_cons, ha']; exact h1, by rw [entL_cons, ha']; exact h2⟩
  | some q =>
   have hi0 := hni 0 s' rfl (by rw [ha']; exact nofun)
   have hi0' : (t0 == i) = false := by simpa using hi0
   have ec : cont (fun x => x == i || S x) s'.late q.1 = cont S s'.late q.1 := cont_congr (fun q hq => by
    have := hne 0 s' q rfl (by rw [ha']; exact nofun) hq (by omega)
    simp [this])
   cases hS' : S t0 with
   | true =>
    refine ⟨.blk (β t0) (cont S s'.late q.1) q.2 :: H', ?_, ?_⟩
    ·rw [entL_cons]
     rw [ha']; simpa [hS'] using (List.Perm.cons _ h1).trans (List.Perm.swap _ _ _)
    ·rw [entL_cons]
     rw [ha']
     simp only [hi0', Bool.false_or, hS', if_true, ec]
     exact (List.Perm.cons _ h2).trans (List.Perm.swap _ _ _)
   | false =>
    refine ⟨H', ?_, ?_⟩
    ·rw [entL_cons]
     rw [ha']; simpa [hS'] using h1
    ·rw [entL_cons]
     rw [ha']
     simp only [hi0', Bool.false_or, hS']
     simpa using h2
def okA (n : Nat) (ops : List Oper) (N : Nat) (keys : List Nat) (deps : List (List Nat)) (als : List Bool) (lates stos : List (Option Nat)) : Bool :=
 chainB ops N && decide (N ≤ ops.length) &&
 (List.range N).all (fun i => match dstOf ops i with
  | some d => decide (d < n) && !keys.contains d && (List.range N).all (fun j => j == i || dstOf ops j != some d)
  | none => true) &&
 (List.range N).all (fun i => (deps.getD i []).all (fun j => decide (j < N) && (bnds (ops.getD i default)).contains j && !als.getD j true)) &&
 (List.range N).all (fun i => match stos.getD i none with
  | some j => decide (j < N) && (bnds (ops.getD i default)).contains j && als.getD j false && !als.getD i true
  | none => true) &&
 (List.range N).all (fun j => match lates.getD j none with
  | some k => decide (k < N) && als.getD j false && stos.getD k none == some j
  | none => true)
def AlOk (P : Program) (n : Nat) (c : Cx) (opsA : Array Oper) (Q : Exit → Act → World → Prop) (o : Oper) (p : List Rp × TypeId) : Prop :=
 ∀ H a w Z (K : Act → World → Prop), St c H Z w → (∀ b w', St c (.blk b p.1 p.2 :: H) Z w' → K (a.put o.dst (.pointer (some ⟨b, 0, none⟩))) w') →
  Region.wanted o (yielded opsA a.tmps) = true ∧ o.wp P a w K Q
def ObA (P : Program) (n : Nat) (c : Cx) (opsA : Array Oper) (Q : Exit → Act → World → Prop) (ops : List Oper) (sp : List Sa) (l0 : Fr) (H : List Ent) (i : Nat) (o : Oper) : Prop :=
 match (sas sp i).sto with
 | some j => o.dst = none ∧ ∃ d p ncs, dstOf ops j = some d ∧ (sas sp j).al = some p ∧ (sas sp j).late = some (i, ncs) ∧
   ∀ b H, OpOk P n c opsA Q ((d, rv (.pointer (some ⟨b, 0, none⟩))) :: depFr ops (spq sp) (sas sp i).deps l0) (.blk b p.1 p.2 :: H) o (rv undef) (.blk b ncs p.2 :: H)
 | none => match (sas sp i).al with
  | none => ∀ E, OpOk P n c opsA Q (depFr ops (spq sp) (sas sp i).deps l0) (H ++ E) o (sas sp i).r (H ++ E)
  | some p => AlOk P n c opsA Q o p
def OblA (P : Program) (n : Nat) (c : Cx) (opsA : Array Oper) (Q : Exit → Act → World → Prop) (ops : List Oper) (sp : List Sa) (l0 : Fr) (H : List Ent) : Nat → List Oper → Prop
 | i, o :: rest => ObA P n c opsA Q ops sp l0 H i o ∧ OblA P n c opsA Q ops sp l0 H (i + 1) rest
 | _, [] => True
section
variable {P : Program} {n : Nat} {c : Cx} {opsA : Array Oper} {Q : Exit → Act → World → Prop} {l l0 : Fr} {H : List Ent} {sp : List Sa}
theorem OblA.at {ops : List Oper} : ∀ {k : Nat} {rest : List Oper}, OblA P n c opsA Q ops sp l0 H k rest → ∀ (t : Nat) o, rest[t]? = some o → ObA P n c opsA Q ops sp l0 H (k + t) o
 | k, o :: rest, ⟨h1, h2⟩, t, o', ht => by
  cases t with
  | zero => simp at ht; subst ht; exact h1
  | succ t =>
   have := OblA.at h2 t o' (by simpa using ht)
   rw [show k + (t + 1) = k + 1 + t from by omega]
   exact this
 | _, [], _, t, o, h => by simp at h
theorem agr_zip {β : Nat → Nat} {a : Act} {Z : Fz} (h0 : Agr n l0 a Z) : ∀ (os : List Oper) (ss : List Sa) (k : Nat), (∀ (t : Nat) o s d, os[t]? = some o → ss[t]? = some s → o.dst = some d → ∃ v, a.tmps[d]? = some v ∧ (raOf β s (k + t)).p Z v) → Agr n (zipA β os ss k l0) a Z
 | [], _, _, _ => by unfold zipA; exact h0
 | _ :: _, [], _, _ => by unfold zipA; exact h0
 | o :: os, s :: ss, k, h => by
  have ih := agr_zip h0 os ss (k + 1) (fun t o' s' d h1 h2 h3 => by
   have := h (t + 1) o' s' d (by simpa using h1) (by simpa using h2) h3
   rw [show k + 1 + t = k + (t + 1) from by omega]; exact this)
  unfold zipA
  cases hd : o.dst with
  | none => exact ih
  | some d =>
   refine ⟨ih.size, ih.defers, fun i r hi => ?_⟩
   rw [look_cons] at hi
   split at hi
   ·rename_i e; subst e; simp at hi; subst hi; exact h 0 o s d rfl rfl hd
   ·exact ih.tm i r hi
theorem wc_rda {id : Nat} {ops : List Oper} (N : Nat) (sp : List Sa) (hm : P.follows .mixedOrders = true) (hB : okA n ops N (keysOf l0) (sp.map (·.deps)) (sp.map (·.al.isSome)) (sp.map (·.late.map (·.1))) (sp.map (·.sto)) = true) (hl0 : SubL l0 l) (hsp : sp.length = N)
  (hob : OblA P n c ops.toArray Q ops sp l0 H 0 (ops.take N)) (h : ∀ β, WL P n c ops.toArray Q (ops.drop N) (zipA β (ops.take N) sp 0 l0) (H ++ entA β sp 0)) : WC P n c (.region id ops.toArray true) Q l H := by
 intro a w Z ha hw
 simp only [okA, Bool.and_eq_true, List.all_eq_true, List.mem_range, decide_eq_true_eq] at hB
 obtain ⟨⟨⟨⟨⟨b1, bN⟩, b2⟩, b3⟩, b4⟩, b5⟩ := hB
 have hget : ∀ i, i < N → (ops.take N)[i]? = ops[i]? := fun i hi => by rw [List.getElem?_take, if_pos hi]
 have hsa : ∀ i, i < N → sp[i]? = some (sas sp i) := fun i hi => by
  simp [sas, List.getD_eq_getElem?_getD, List.getElem?_eq_getElem (show i < sp.length by omega)]
 have hspq : ∀ i, i < N → (sps (spq sp) i) = ⟨(sas sp i).deps, (sas sp i).r, 0⟩ := fun i hi => by
  simp [sps, spq, List.getD_eq_getElem?_getD, List.getElem?_map, hsa i hi]
 have hals : ∀ j b, j < N → (sp.map (·.al.isSome)).getD j b = (sas sp j).al.isSome := fun j b hj => by simp [List.getD_eq_getElem?_getD, List.getElem?_map, hsa j hj]
 have hstos : ∀ j, j < N → (sp.map (·.sto)).getD j none = (sas sp j).sto := fun j hj => by simp [List.getD_eq_getElem?_getD, List.getElem?_map, hsa j hj]
 have hlates : ∀ j, j < N → (sp.map (·.late.map (·.1))).getD j none = (sas sp j).late.map (·.1) := fun j hj => by simp [List.getD_eq_getElem?_getD, List.getElem?_map, hsa j hj]
 have S1 : ∀ i o j, i < N → ops[i]? = some o → (sas sp i).sto = some j → j < N ∧ j ∈ bnds o ∧ (sas sp j).al ≠ none ∧ (sas sp i).al = none := fun i o j hi ho hs => by
  have h1 := b4 i hi
  rw [hstos i hi, hs] at h1
  simp only [Bool.and_eq_true, Bool.not_eq_true', decide_eq_true_eq] at h1
  obtain ⟨⟨⟨h2, h3⟩, h4⟩, h5⟩ := h1
  rw [hals j _ h2] at h4
  rw [hals i _ hi] at h5
  rw [List.getD_eq_getElem?_getD, ho, Option.getD_some, List.contains_iff_mem] at h3
  exact ⟨h2, h3, fun e => (by rw [e] at h4; cases h4), (by simpa using h5)⟩
 have L1 : ∀ t q, t < N → (sas sp t).late = some q → q.1 < N ∧ (sas sp q.1).sto = some t := fun t q ht hq => by
  have h1 := b5 t ht
  rw [hlates t ht, hq] at h1
  simp only [Option.map_some, Bool.and_eq_true, decide_eq_true_eq, beq_iff_eq] at h1
  obtain ⟨⟨h2, h3⟩, h4⟩ := h1
  rw [hstos _ h2] at h4
  exact ⟨h2, h4⟩
 have hops : ∀ j, j < N → ∃ o, ops[j]? = some o := fun j hj => ⟨ops[j]'(by omega), List.getElem?_eq_getElem (by omega)⟩
 have lt_of : ∀ (t : Nat) (s : Sa), sp[t]? = some s → t < N ∧ s = sas sp t := fun t s hs => by
  have h1 : t < N := by have := (List.getElem?_eq_some_iff.1 hs).1; omega
  refine ⟨h1, ?_⟩
  rw [hsa t h1] at hs; simpa using hs.symm
 have hdst : ∀ i o d, i < N → ops[i]? = some o → o.dst = some d → (d < n ∧ d ∉ keysOf l0) ∧ ∀ j, j < N → j ≠ i → dstOf ops j ≠ some d := fun i o d hi ho hd => by
  have h3 := b2 i hi
  have : dstOf ops i = some d := by simp [dstOf, ho, hd]
  rw [this] at h3
  simp only [Bool.and_eq_true, Bool.not_eq_true', List.all_eq_true, List.mem_range, decide_eq_true_eq] at h3
  refine ⟨⟨h3.1.1, fun hmem => by rw [← List.contains_iff_mem] at hmem; rw [hmem] at h3; cases h3.1.2⟩, fun j hj hne he => ?_⟩
  have := h3.2 j hj
  simp [hne, he] at this
 refine wp_inv (N := N) hm b1 bN (fun S a w => ∃ (β : Nat → Nat) (Z : Fz), St c (H ++ entL S β sp 0) Z w ∧ Agr n l0 a Z ∧ (∀ j o d, j < N → S j = true → ops[j]? = some o → o.dst = some d → ∃ v, a.tmps[d]? = some v ∧ (raOf β (sas sp j) j).p Z v) ∧
   ∀ k j, k < N → (sas sp k).sto = some j → S k = true → S j = true)
  (fun S S' a w hS hI => ?_) ⟨fun _ => 0, Z, ?_, ha.subL hl0, fun j o d _ hS => (by cases hS), fun k j _ _ hS => (by cases hS)⟩ (fun S i o a w hi hun ho hb hI K hK => ?_) (fun a w hI => ?_)
 ·obtain ⟨β, Z, h1, h2, h3, h4⟩ := hI
  refine ⟨β, Z, ?_, h2, fun j o d hj hS' => h3 j o d hj (by rw [hS j hj]; exact hS'), fun k j hk hs hSk => ?_⟩
  ·rw [← entL_congr (S := S) (β := β) (β' := β) sp 0 (fun t s hs _ => by
    obtain ⟨ht, rfl⟩ := lt_of t s hs
    exact ⟨hS _ (by omega), fun _ => ⟨rfl, fun q hq => hS _ (L1 t q ht hq).1⟩⟩)]
   exact h1
  ·obtain ⟨o, ho⟩ := hops k hk
   rw [← hS j (S1 k o j hk ho hs).1]
   exact h4 k j hk hs (by rw [hS k hk]; exact hSk)
 ·rw [entL_none, List.append_nil]; exact hw.drawn _
 ·obtain ⟨β, Z, h1, h2, h3, hx⟩ := hI
  have hput : ∀ k u v, a.tmps[k]? = some u → o.dst ≠ some k → (a.put o.dst v).tmps[k]? = some u := fun k u v hk hne => by
   cases hd : o.dst with
   | none => simpa [Act.put] using hk
   | some d =>
    simp only [Act.put, Array.getElem?_setIfInBounds]
    rw [if_neg (fun e => hne (by rw [hd, e]))]; exact hk
  have hagr : ∀ v Z', Fz.le Z Z' → Agr n l0 (a.put o.dst v) Z' := fun v Z' hz => by
   refine ⟨?_, ?_, fun k r hk => ?_⟩
   ·cases o.dst <;> simp [Act.put, h2.size]
   ·cases o.dst <;> simp [Act.put, h2.defers]
   ·obtain ⟨u, hu, hpu⟩ := h2.tm k r hk
    exact ⟨u, hput k u v hu (fun e => ((hdst i o k hi ho e).1).2 (look_mem hk)), r.mono hz hpu⟩
  have hvals : ∀ (v : Value) (Z' : Fz) (β' : Nat → Nat), Fz.le Z Z' → (∀ j, j ≠ i → β' j = β j) → (o.dst ≠ none → (raOf β' (sas sp i) i).p Z' v) → ∀ j o' d, j < N → (j == i || S j) = true → ops[j]? = some o' → o'.dst = some d → ∃ u, (a.put o.dst v).tmps[d]? = some u ∧ (raOf β' (sas sp j) j).p Z' u := by
   intro v Z' β' hz hβ hp j o' d hj hS' ho' hd
   by_cases hji : j = i
   ·subst hji
    rw [ho] at ho'; simp at ho'; subst ho'
    refine ⟨v, ?_, hp (by simp [hd])⟩
    have hdn : d < a.tmps.size := by rw [h2.size]; exact (hdst j o d hi ho hd).1.1
    simp [Act.put, hd, hdn]
   ·have hSj : S j = true := by simpa [hji] using hS'
    obtain ⟨u, hu, hpu⟩ := h3 j o' d hj hSj ho' hd
    refine ⟨u, hput d u v hu (fun e => (hdst i o d hi ho e).2 j hj hji (by simp [dstOf, ho', hd])), ?_⟩
    have : raOf β' (sas sp j) j = raOf β (sas sp j) j := by unfold raOf; rw [hβ j hji]
    rw [this]; exact (raOf β (sas sp j) j).mono hz hpu
  have hx' : ∀ k j, k < N → (sas sp k).sto = some j → (k == i || S k) = true → (j == i || S j) = true := fun k j hk hs hSk => by
   by_cases hki : k = i
   ·subst hki
    have := (hb j (S1 k o j hk ho hs).2.1).2
    simp [this]
   ·have : S j = true := hx k j hk hs (by simpa [hki] using hSk)
    simp [this]
  have hat := hob.at i o (by rw [hget i hi]; exact ho)
  rw [Nat.zero_add] at hat
  unfold ObA at hat
  have hag' : Agr n (depFr ops (spq sp) (sas sp i).deps l0) a Z := agr_dep h2 (fun j hj d hd => by
    have h4 := b3 i hi j (by simpa [List.getD_eq_getElem?_getD, List.getElem?_map, hsa i hi] using hj)
    simp only [Bool.and_eq_true, Bool.not_eq_true', decide_eq_true_eq] at h4
    obtain ⟨⟨h5, h6⟩, h7⟩ := h4
    rw [List.getD_eq_getElem?_getD, ho, Option.getD_some, List.contains_iff_mem] at h6
    have hjal : (sas sp j).al = none := by
     rw [hals j _ h5] at h7
     simpa using h7
    obtain ⟨o2, ho2⟩ := hops j h5
    obtain ⟨v, hv1, hv2⟩ := h3 j o2 d h5 (hb j h6).2 ho2 (by simpa [dstOf, ho2] using hd)
    refine ⟨v, hv1, ?_⟩
    rw [hspq j h5]
    simpa [raOf, hjal] using hv2)
  cases hst : (sas sp i).sto with
  | some j =>
   rw [hst] at hat
   obtain ⟨hod, d, p, ncs, hd, hal, hlate, hok⟩ := hat
   obtain ⟨hjN, hjb, _, hial⟩ := S1 i o j hi ho hst
   have hSj := (hb j hjb).2
   obtain ⟨H', p1, p2⟩ := entL_sto (S := S) (β := β) (i := i) (j := j) (p := p) (ncs := ncs) sp 0 j (sas sp j) (by omega) (hsa j hjN) hal hlate hSj hun (fun t s q hs _ hq hne he => by
     obtain ⟨ht, rfl⟩ := lt_of t s hs
     have := (L1 t q ht hq).2
     rw [he, hst] at this
     simp at this; omega) (fun t s hs hn he => by
     obtain ⟨ht, rfl⟩ := lt_of t s hs
     rw [Nat.zero_add] at he; subst he
     exact hn hial)
   obtain ⟨o2, ho2⟩ := hops j hjN
   obtain ⟨v, hv1, hv2⟩ := h3 j o2 d hjN hSj ho2 (by simpa [dstOf, ho2] using hd)
   have hag2 : Agr n ((d, rv (.pointer (some ⟨β j, 0, none⟩))) :: depFr ops (spq sp) (sas sp i).deps l0) a Z := ⟨hag'.size, hag'.defers, fun k r hk => by
    rw [look_cons] at hk
    split at hk
    ·rename_i e; subst e; simp at hk; subst hk
     exact ⟨v, hv1, by simpa [raOf, hal] using hv2⟩
    ·exact hag'.tm k r hk⟩
   refine hok (β j) (H ++ H') a w Z K hag2 (h1.perm ((List.Perm.append_left H p1).trans List.perm_middle)) (fun v w' Z' hz _ hs' => hK _ _ ⟨β, Z', ?_, hagr v Z' hz, hvals v Z' β hz (fun _ _ => rfl) (fun hne => absurd hod hne), hx'⟩)
   exact hs'.perm (List.perm_middle.symm.trans (List.Perm.append_left H p2.symm))
  | none =>
   rw [hst] at hat
   have latene : ∀ t q, t < N → (sas sp t).late = some q → q.1 ≠ i := fun t q ht hq he => by
    have := (L1 t q ht hq).2
    rw [he, hst] at this; cases this
   cases hal : (sas sp i).al with
   | none =>
    rw [hal] at hat
    refine hat _ a w Z K hag' h1 (fun v w' Z' hz hp hst' => hK _ _ ⟨β, Z', ?_, hagr v Z' hz, hvals v Z' β hz (fun _ _ => rfl) (fun _ => by unfold raOf; rw [hal]; exact hp), hx'⟩)
    rw [entL_congr (S' := S) (β' := β) sp 0 (fun t s hs hn => by
     obtain ⟨ht, rfl⟩ := lt_of t s hs
     have : t ≠ i := fun e => by subst e; exact hn hal
     refine ⟨by simp [this], fun _ => ⟨rfl, fun q hq => ?_⟩⟩
     have := latene t q ht hq
     simp [this])]
    exact hst'
   | some p =>
    rw [hal] at hat
    have key := fun K' hK' => hat (H ++ entL S β sp 0) a w Z K' h1 hK'
    have h5 : ∀ b w', St c (.blk b p.1 p.2 :: (H ++ entL S β sp 0)) Z w' → K (a.put o.dst (.pointer (some ⟨b, 0, none⟩))) w' := fun b w' hst' => by
     refine hK _ _ ⟨fun j => if j = i then b else β j, Z, ?_, hagr _ Z (Fz.le.refl _), hvals _ Z _ (Fz.le.refl _) (fun j hj => by simp [hj]) (fun _ => by simp [raOf, hal, rv]), hx'⟩
     have hp := entL_put (S := S) (β := β) (i := i) (b := b) (p := p) sp 0 i (sas sp i) (by omega) (hsa i hi) hal hun (fun t s q hs _ hq => by
      obtain ⟨ht, rfl⟩ := lt_of t s hs
      exact latene t q ht hq) (fun q hq => by
       refine ⟨?_, latene i q hi hq⟩
       cases hS : S q.1 with
       | false => rfl
       | true =>
        obtain ⟨h6, h7⟩ := L1 i q hi hq
        have := hx q.1 i h6 h7 hS
        rw [this] at hun; cases hun)
     exact hst'.perm ((List.perm_middle.symm).trans (List.Perm.append_left H hp.symm))
    refine ⟨fun _ => (key K h5).2, fun hw' => ?_⟩
    rw [(key K h5).1] at hw'; cases hw'
 ·obtain ⟨β, Z, h1, h2, h3, _⟩ := hI
  refine h β a w Z (agr_zip h2 _ _ 0 (fun t o s d ht hs hd => ?_)) (by rw [← entL_all]; exact h1)
  obtain ⟨htN, rfl⟩ := lt_of t s hs
  rw [Nat.zero_add]
  exact h3 t o d htN rfl (by rw [← hget t htN]; exact ht) hd
end
theorem al_ok {P : Program} {n : Nat} {c : Cx} {opsA : Array Oper} {Q : Exit → Act → World → Prop} {d : Nat} {e : TypeId} {ty : TypeId} {pos : String} {af : Array Edge} {z : Value} {cs : List Rp} (hz : ∀ w, (zeroValue e).run P w = .ok z w) (hcs : z.cells.toList.map rv = cs) :
  AlOk P n c opsA Q { dst := some d, op := .alloc e, type := ty, pos := pos, after := af, guard := none } (cs, e) := fun H a w Z K hw hK => by
 refine ⟨by simp [Region.wanted], ?_⟩
 unfold Oper.wp
 rw [show (execOp a.eval { dst := some d, op := .alloc e, type := ty, pos := pos, after := af, guard := none }).run P w = .ok (.value (.pointer (some ⟨w.heap.size, 0, none⟩))) (w.alloc (.cells z.cells e)) from by simp [execOp, Instr.alloc, hz, newVar, newRow, newObj, Sem.run, Sem.run_bind]]
 exact hK _ _ (hw.alloc _ (e := .blk w.heap.size cs e) ⟨z.cells.toList, by simpa using heap_alloc_new w _, by subst hcs; exact RpAll.rvs Z _⟩ rfl)
section
variable {P : Program} {n : Nat} {c : Cx} {opsA : Array Oper} {Q : Exit → Act → World → Prop} {l l0 : Fr} {H : List Ent} {sp : List Sa}
theorem wc_rdak {id : Nat} {ops : List Oper} (N : Nat) (ks0 : List Nat) (sp : List Sa) (hob : OblA P n c ops.toArray Q ops sp l0 H 0 (ops.take N)) (h : ∀ β, WL P n c ops.toArray Q (ops.drop N) (zipA β (ops.take N) sp 0 l0) (H ++ entA β sp 0))
  (h0 : Kp ks0 l l0 := by repeat (first | exact kp_n | (apply kp_y; rfl) | (apply kp_d; rfl))) (hm : P.follows .mixedOrders = true := by kernel_rfl) (hB : okA n ops N (keysOf l0) (sp.map (·.deps)) (sp.map (·.al.isSome)) (sp.map (·.late.map (·.1))) (sp.map (·.sto)) = true := by kernel_rfl)
  (hsp : sp.length = N := by rfl) : WC P n c (.region id ops.toArray true) Q l H := wc_rda N sp hm hB h0.one hsp hob h
theorem oaq {all rest : List Oper} {d : Nat} {op : Op} {ty : TypeId} {pos : String} {af : Array Edge} {i : Nat}
  (hr : ∀ {H}, ORun P n c (depFr all (spq sp) (sas sp i).deps l0) H { dst := some d, op := op, type := ty, pos := pos, after := af, guard := none } (sas sp i).r) (h : OblA P n c opsA Q all sp l0 H (i + 1) rest) (ha : (sas sp i).al = none := by rfl) (hs : (sas sp i).sto = none := by rfl) :
  OblA P n c opsA Q all sp l0 H i ({ dst := some d, op := op, type := ty, pos := pos, after := af, guard := none } :: rest) := by
 refine ⟨?_, h⟩
 unfold ObA; rw [hs, ha]; exact fun _ => ok_v hr
theorem oal {all rest : List Oper} {o : Oper} {p : List Rp × TypeId} {i : Nat} (hr : AlOk P n c opsA Q o p) (h : OblA P n c opsA Q all sp l0 H (i + 1) rest) (ha : (sas sp i).al = some p := by rfl) (hs : (sas sp i).sto = none := by rfl) : OblA P n c opsA Q all sp l0 H i (o :: rest) := by
 refine ⟨?_, h⟩
 unfold ObA; rw [hs, ha]; exact hr
theorem oas {all rest : List Oper} {op : Op} {ty : TypeId} {pos : String} {af : Array Edge} {g : Option (Nat × Bool)} {i j d : Nat} {p : List Rp × TypeId} {ncs : List Rp}
  (hr : ∀ {b H}, OpOk P n c opsA Q ((d, rv (.pointer (some ⟨b, 0, none⟩))) :: depFr all (spq sp) (sas sp i).deps l0) (.blk b p.1 p.2 :: H) { dst := none, op := op, type := ty, pos := pos, after := af, guard := g } (rv undef) (.blk b ncs p.2 :: H))
  (h : OblA P n c opsA Q all sp l0 H (i + 1) rest) (hs : (sas sp i).sto = some j := by rfl) (hd : dstOf all j = some d := by rfl) (ha : (sas sp j).al = some p := by rfl) (hl : (sas sp j).late = some (i, ncs) := by rfl) :
  OblA P n c opsA Q all sp l0 H i ({ dst := none, op := op, type := ty, pos := pos, after := af, guard := g } :: rest) := by
 refine ⟨?_, h⟩
 unfold ObA; rw [hs]; exact ⟨rfl, d, p, ncs, hd, ha, hl, fun _ _ => hr⟩
theorem oae {all : List Oper} {i : Nat} : OblA P n c opsA Q all sp l0 H i [] := trivial
end
structure Kza (ks : List Nat) (β : Nat → Nat) (os : List Oper) (sp : List Sa) (i : Nat) (l0 l1 : Fr) : Prop where
 go : Kp ks (zipA β os sp i l0) l1
section
variable {ks : List Nat} {β : Nat → Nat} {os : List Oper} {sp : List Sa} {i d : Nat} {l0 l1 : Fr} {ds : List Nat} {r : Rp} {p : List Rp × TypeId} {lt : Option (Nat × List Rp)} {so : Option Nat} {op : Op} {ty : TypeId} {pos : String} {af : Array Edge} {g : Option (Nat × Bool)}
theorem kza_y (h : ks.contains d = true) (t : Kza ks β os sp (i + 1) l0 l1) : Kza ks β ({ dst := some d, op := op, type := ty, pos := pos, after := af, guard := g } :: os) ({ deps := ds, r := r, sto := so } :: sp) i l0 ((d, r) :: l1) := ⟨kp_y h t.go⟩
theorem kza_a (h : ks.contains d = true) (t : Kza ks β os sp (i + 1) l0 l1) : Kza ks β ({ dst := some d, op := op, type := ty, pos := pos, after := af, guard := g } :: os) ({ deps := ds, r := r, al := some p, late := lt, sto := so } :: sp) i l0 ((d, rv (.pointer (some ⟨β i, 0, none⟩))) :: l1) := ⟨kp_y h t.go⟩
theorem kza_d {s : Sa} (h : ks.contains d = false) (t : Kza ks β os sp (i + 1) l0 l1) : Kza ks β ({ dst := some d, op := op, type := ty, pos := pos, after := af, guard := g } :: os) (s :: sp) i l0 l1 := ⟨kp_d h t.go⟩
theorem kza_u {s : Sa} (t : Kza ks β os sp (i + 1) l0 l1) : Kza ks β ({ dst := none, op := op, type := ty, pos := pos, after := af, guard := g } :: os) (s :: sp) i l0 l1 := ⟨t.go⟩
theorem kza_0 (t : Kp ks l0 l1) : Kza ks β [] [] i l0 l1 := ⟨t⟩
theorem wl_kza {P : Program} {n : Nat} {c : Cx} {opsA : Array Oper} {Q : Exit → Act → World → Prop} {rest : List Oper} {H H1 : List Ent} (ks : List Nat) (h : WL P n c opsA Q rest l1 H1)
  (hz : Kza ks β os sp i l0 l1 := by repeat (first | (apply kza_y; rfl) | (apply kza_a; rfl) | (apply kza_d; rfl) | apply kza_u | apply kza_0 | exact kp_n | (apply kp_y; rfl) | (apply kp_d; rfl))) (hH : H = H1 := by rfl) :
  WL P n c opsA Q rest (zipA β os sp i l0) H := fun a w Z ha hw => h a w Z (ha.subL hz.go.one) (hH ▸ hw)
end
section
variable {P : Program} {n : Nat} {c : Cx} {opsA : Array Oper} {Q : Exit → Act → World → Prop} {l l0 : Fr} {H : List Ent} {sp : List Sa}
end
end Go.Proofs.YtkalifgebccpcaaDoor.Q

/-
 More rules: tests of slices for nil. Plain theorems over any program; no condition.
-/
namespace Go.Proofs.YtkalifgebccpcaaDoor.Q
open Go Go.RowKit
set_option linter.unusedVariables false
set_option linter.unusedSimpArgs false
section
variable {P : Program} {n : Nat} {c : Cx} {ops : Array Oper} {Q : Exit → Act → World → Prop} {rest : List Oper} {l : Fr} {H : List Ent} {d : Option Nat} {ty rty t e : TypeId} {pos : String} {af : Array Edge} {g : Option (Nat × Bool)} {r : Rp} {x : Operand} {cx cy : Code} {sz : Nat} {xs : List (List Rp)}
end
end Go.Proofs.YtkalifgebccpcaaDoor.Q

/-
  Walks, printed by a small program of ours (gq.py).
-/
namespace Go.Proofs.YtkalifgebccpcaaDoor.Q
open Go Go.RowKit
set_option linter.unusedVariables false
set_option linter.unusedSimpArgs false
set_option maxRecDepth 100000
set_option maxHeartbeats 4000000
theorem info9 : ∃ inf, Tryd.prog.info? 9 = some inf ∧ inf.zero = some (.string ⟨#[]⟩) ∧ inf.size = 1 ∧ inf.bytes = 16 := by
  have key : (Tryd.prog.info? 9).map (fun i => (i.zero, i.size, i.bytes)) = some (some (.string ⟨#[]⟩), 1, 16) := by kernel_rfl
  obtain ⟨inf, h1, h2⟩ := Option.map_eq_some_iff.1 key
  simp only [Prod.mk.injEq] at h2
  exact ⟨inf, h1, h2.1, h2.2.1, h2.2.2⟩
theorem info22 : ∃ inf, Tryd.prog.info? 22 = some inf ∧ inf.zero = some (.slice none 0 0) ∧ inf.size = 1 ∧ inf.bytes = 24 := by
  have key : (Tryd.prog.info? 22).map (fun i => (i.zero, i.size, i.bytes)) = some (some (.slice none 0 0), 1, 24) := by kernel_rfl
  obtain ⟨inf, h1, h2⟩ := Option.map_eq_some_iff.1 key
  simp only [Prod.mk.injEq] at h2
  exact ⟨inf, h1, h2.1, h2.2.1, h2.2.2⟩
theorem vCmpF_w (b_ks : Nat) (v_ks_0 : Value) (b_vs1 : Nat) (v_vs1_0 : Value) (key : Str) (x : (List TApiCell)) (ks : (List Str)) (vs1 : (List (List TApiCell))) (r : Bool × (List Str) × (List (List TApiCell))) (h : vCmpF key x ks vs1 = some r) : Fn Tryd.prog GE 54 [rS key, rSl 4 (List.map eTApiCell x), rv (.pointer (some ⟨b_ks, 0, none⟩)), rv (.pointer (some ⟨b_vs1, 0, none⟩))] [.blk b_ks [rv v_ks_0] 46, .row v_ks_0 9 1 (List.map eS ks), .blk b_vs1 [rv v_vs1_0] 44, .row v_vs1_0 22 1 (List.map eL_TApiCell vs1)] (fun R H => ∃ w2_0 : Value, ∃ w3_0 : Value, R = rB r.1 ∧ H = [.blk b_ks [rv w2_0] 46, .row w2_0 9 1 (List.map eS r.2.1), .blk b_vs1 [rv w3_0] 44, .row w3_0 22 1 (List.map eL_TApiCell r.2.2)]) := by
 refine enter (n := 15) Tryd.func54 rfl Tryd.ntmps54 rfl (fun w Z => ?_)
 refine wc_as (l' := [(0, rS key), (1, rSl 4 (List.map eTApiCell x)), (2, rv (.pointer (some ⟨b_ks, 0, none⟩))), (3, rv (.pointer (some ⟨b_vs1, 0, none⟩)))]) (H' := [.blk b_ks [rv v_ks_0] 46, .row v_ks_0 9 1 (List.map eS ks), .blk b_vs1 [rv v_vs1_0] 44, .row v_vs1_0 22 1 (List.map eL_TApiCell vs1)]) rfl rfl ?_
 unfold vCmpF at h
 refine wc_sr ?_
 refine wv (r := rB false) (o_assign rfl) ?_
 refine wl_y ?_
 refine wv (o_load (i := 0) Tryd.isAgg46 rfl rfl rfl) ?_
 refine wm rfl ?_
 refine w_buildSlice (ys := ([key] : List Str)) (enc := eS) (css := [[rS key]]) (xs := [.tmp 8]) Tryd.underlying46 Tryd.sizeOf9 Tryd.zeroValue9 rfl rfl rfl ⟨Cel.one rfl (Up.refl _), trivial⟩ rfl eS_len rfl rfl rfl (fun b1 => ?_)
 obtain ⟨g3, h4⟩ := chk_e h
 obtain ⟨inf, hinf⟩ := info9
 refine w_append (xs := ks) (ys := ([key] : List Str)) (enc := eS) (i := 2) Tryd.underlying46 hinf.1 hinf.2.1 hinf.2.2.1 hinf.2.2.2 rfl rfl rfl rfl rfl (Src.w (i := 0) rfl rfl) eS_len eS_one g3 rfl (fun v2 => ?_)
 refine u_store (i := 2) Tryd.sizeOf46 rfl rfl (one_row (i := 0) rfl) rfl rfl (cs' := [rv v2]) rfl (H' := [.row v2 9 1 (List.map eS (ks ++ ([key] : List Str))), .row (.slice (some ⟨b1, 0, none⟩) 1 1) 9 1 (List.map eS ([key] : List Str)), .blk b_ks [rv v2] 46, .blk b_vs1 [rv v_vs1_0] 44, .row v_vs1_0 22 1 (List.map eL_TApiCell vs1)]) rfl ?_
 refine wl_y ?_
 refine wv (o_load (i := 3) Tryd.isAgg44 rfl rfl rfl) ?_
 refine wm rfl ?_
 refine w_buildSlice (ys := ([x] : List (List TApiCell))) (enc := eL_TApiCell) (css := [[rSl 4 (List.map eTApiCell x)]]) (xs := [.tmp 12]) Tryd.underlying44 Tryd.sizeOf22 Tryd.zeroValue22 rfl rfl rfl ⟨Cel.one rfl (Up.refl _), trivial⟩ rfl eL_TApiCell_len rfl rfl rfl (fun b5 => ?_)
 obtain ⟨g7, h8⟩ := chk_e h4
 obtain ⟨inf, hinf⟩ := info22
 refine w_append (xs := vs1) (ys := ([x] : List (List TApiCell))) (enc := eL_TApiCell) (i := 5) Tryd.underlying44 hinf.1 hinf.2.1 hinf.2.2.1 hinf.2.2.2 rfl rfl rfl rfl rfl (Src.w (i := 0) rfl rfl) eL_TApiCell_len eL_TApiCell_one g7 rfl (fun v6 => ?_)
 refine u_store (i := 5) Tryd.sizeOf44 rfl rfl (one_row (i := 0) rfl) rfl rfl (cs' := [rv v6]) rfl (H' := [.row v6 22 1 (List.map eL_TApiCell (vs1 ++ ([x] : List (List TApiCell)))), .row (.slice (some ⟨b5, 0, none⟩) 1 1) 22 1 (List.map eL_TApiCell ([x] : List (List TApiCell))), .row v2 9 1 (List.map eS (ks ++ ([key] : List Str))), .row (.slice (some ⟨b1, 0, none⟩) 1 1) 9 1 (List.map eS ([key] : List Str)), .blk b_ks [rv v2] 46, .blk b_vs1 [rv v6] 44]) rfl ?_
 refine wl_y ?_
 refine wv (r := rB true) (o_assign rfl) ?_
 refine wl_x ?_
 refine wc_ret ?_
 refine wk_perm (H2 := [.blk b_ks [rv v2] 46, .row v2 9 1 (List.map eS (ks ++ ([key] : List Str))), .blk b_vs1 [rv v6] 44, .row v6 22 1 (List.map eL_TApiCell (vs1 ++ ([x] : List (List TApiCell)))), .row (.slice (some ⟨b5, 0, none⟩) 1 1) 22 1 (List.map eL_TApiCell ([x] : List (List TApiCell))), .row (.slice (some ⟨b1, 0, none⟩) 1 1) 9 1 (List.map eS ([key] : List Str))]) ((perm_front (i := 4) rfl).trans (List.Perm.cons _ ((perm_front (i := 2) rfl).trans (List.Perm.cons _ ((perm_front (i := 3) rfl).trans (List.Perm.cons _ (List.Perm.refl _))))))) ?_
 obtain rfl := some_e h8
 exact wk_ret (r_1 Tryd.results54 (rv_t rfl)) (sC (sC (sC (sC (sS (sS sN)))))) ⟨v2, v6, rfl, rfl⟩

theorem vCmpP_w (F : Nat) (b_ks : Nat) (v_ks_0 : Value) (b_vs1 : Nat) (v_vs1_0 : Value) (v : (List TApiCell)) (ks : (List Str)) (vs1 : (List (List TApiCell))) (r : (List Str) × (List (List TApiCell))) (h : vCmpP F v ks vs1 = some r) : Fn Tryd.prog GE 35 [rSl 4 (List.map eTApiCell v), rv (.func (.func 54) #[] #[(.pointer (some ⟨b_ks, 0, none⟩)), (.pointer (some ⟨b_vs1, 0, none⟩))])] [.blk b_ks [rv v_ks_0] 46, .row v_ks_0 9 1 (List.map eS ks), .blk b_vs1 [rv v_vs1_0] 44, .row v_vs1_0 22 1 (List.map eL_TApiCell vs1)] (fun R H => ∃ w1_0_0 : Value, ∃ w1_1_0 : Value, R = rv (.tuple #[]) ∧ H = [.blk b_ks [rv w1_0_0] 46, .row w1_0_0 9 1 (List.map eS r.1), .blk b_vs1 [rv w1_1_0] 44, .row w1_1_0 22 1 (List.map eL_TApiCell r.2)]) := by
 refine enter (n := 52) Tryd.func35 rfl Tryd.ntmps35 rfl (fun w Z => ?_)
 refine wc_as (l' := [(0, rSl 4 (List.map eTApiCell v)), (1, rv (.func (.func 54) #[] #[(.pointer (some ⟨b_ks, 0, none⟩)), (.pointer (some ⟨b_vs1, 0, none⟩))]))]) (H' := [.blk b_ks [rv v_ks_0] 46, .row v_ks_0 9 1 (List.map eS ks), .blk b_vs1 [rv v_vs1_0] 44, .row v_vs1_0 22 1 (List.map eL_TApiCell vs1)]) rfl rfl ?_
 unfold vCmpP at h
 refine wc_sr ?_
 refine wv (r := rI .i64 1) (o_assign rfl) ?_
 refine wl_y ?_
 refine wm rfl ?_
 obtain ⟨g1, h2⟩ := chk_e h
 refine wv (o_ix_z (enc := eTApiCell) (ys := v) Tryd.underlying22 Tryd.sizeOf40 rfl rfl g1) ?_
 refine wv (o_fieldAddr_z Tryd.underlying40 rfl Tryd.sizeOf3 rfl rfl) ?_
 refine wv (o_load_z Tryd.isAgg3 rfl rfl) ?_
 refine wv (r := rI .i64 0) (o_move rfl) ?_
 refine wl_x ?_
 refine wc_block ?_
 refine wc_perm (H2 := [.blk b_ks [rv v_ks_0] 46, .blk b_vs1 [rv v_vs1_0] 44, .row v_ks_0 9 1 (List.map eS ks), .row v_vs1_0 22 1 (List.map eL_TApiCell vs1)]) ((perm_front (i := 0) rfl).trans (List.Perm.cons _ ((perm_front (i := 1) rfl).trans (List.Perm.cons _ (List.Perm.refl _))))) ?_
 obtain ⟨o175, eo176, hK177⟩ := obn_e h2
 refine wc_loop2 (S := Nat × (Int × Int × (List Str) × (List (List TApiCell))) × (Value × Value)) (V := ((List Str) × (List (List TApiCell))) × (Value × Value)) 0 (fun σ => lop (fun σ => vCmpP_b1 F v σ.1 σ.2.1 σ.2.2.1 σ.2.2.2) σ.1 σ.2.1 = some o175) (fun σ => [(0, rSl 4 (List.map eTApiCell v)), (1, rv (.func (.func 54) #[] #[(.pointer (some ⟨b_ks, 0, none⟩)), (.pointer (some ⟨b_vs1, 0, none⟩))])), (4, rI .i64 σ.2.1.1), (12, rI .i64 ((at' v 0).fN)), (13, rI .i64 σ.2.1.2.1)]) (fun σ => [.blk b_ks [rv σ.2.2.1] 46, .blk b_vs1 [rv σ.2.2.2] 44, .row σ.2.2.1 9 1 (List.map eS σ.2.1.2.2.1), .row σ.2.2.2 22 1 (List.map eL_TApiCell σ.2.1.2.2.2)]) (fun σ => σ.1) (F, (1, 0, ks, vs1), (v_ks_0, v_vs1_0)) eo176 (Sub.c5 rfl rfl rfl rfl rfl Sub.nil) (sC (sC (sC (sC sN)))) (fun σ => vCmpP_k1 σ.1.1 σ.1.2 = some r) (fun σ => []) (fun σ => [.blk b_ks [rv σ.2.1] 46, .blk b_vs1 [rv σ.2.2] 44, .row σ.2.1 9 1 (List.map eS σ.1.1), .row σ.2.2 22 1 (List.map eL_TApiCell σ.1.2)]) ?_ ?_
 ·rintro ⟨n183, ⟨x111, x112, x113, x115⟩, ⟨v114, v116⟩⟩ hi181
  refine wc_as (l' := [(0, rSl 4 (List.map eTApiCell v)), (1, rv (.func (.func 54) #[] #[(.pointer (some ⟨b_ks, 0, none⟩)), (.pointer (some ⟨b_vs1, 0, none⟩))])), (4, rI .i64 x111), (12, rI .i64 ((at' v 0).fN)), (13, rI .i64 x112)]) (H' := [.blk b_ks [rv v114] 46, .blk b_vs1 [rv v116] 44, .row v114 9 1 (List.map eS x113), .row v116 22 1 (List.map eL_TApiCell x115)]) rfl rfl ?_
  obtain ⟨m180, rfl, t178, h182, ht179⟩ := lop_e hi181
  replace h182 : vCmpP_b1 F v x111 x112 x113 x115 = some t178 := h182
  unfold vCmpP_b1 at h182
  refine wc_sr ?_
  refine wv (o_lt rfl rfl) ?_
  refine wl_x ?_
  refine wc_seq ?_
  refine wc_cond (b := decide (x112 < ((at' v 0).fN))) rfl (fun c184 => ?_) (fun c184 => ?_)
  ·have h185 := cnd_t c184 h182
   refine wc_skip ?_
   refine wk_x ?_
   refine wc_seq ?_
   refine wc_block ?_
   refine wc_sr ?_
   refine wv (r := rS ([] : Str)) (o_assign rfl) ?_
   refine wl_x ?_
   refine wc_seq ?_
   refine wc_sr ?_
   refine wm rfl ?_
   refine wv (o_ix_z (enc := eTApiCell) (ys := v) Tryd.underlying22 Tryd.sizeOf40 rfl rfl g1) ?_
   refine wv (o_fieldAddr_z Tryd.underlying40 rfl Tryd.sizeOf38 rfl rfl) ?_
   refine wv (o_load_z Tryd.isAgg38 rfl rfl) ?_
   refine wv (o_eq rfl rfl) ?_
   refine wl_x ?_
   refine wc_cond (b := decide (((at' v 0).fKind) = 6)) rfl (fun c186 => ?_) (fun c186 => ?_)
   ·have h187 := cnd_t c186 h185
    refine wc_sr ?_
    refine wm rfl ?_
    refine wm rfl ?_
    obtain ⟨g188, h189⟩ := chk_e h187
    refine wv (o_ix_z (enc := eTApiCell) (ys := v) Tryd.underlying22 Tryd.sizeOf40 rfl rfl g188) ?_
    refine wv (o_fieldAddr_z Tryd.underlying40 rfl Tryd.sizeOf9 rfl rfl) ?_
    refine wv (o_load_z Tryd.isAgg9 rfl rfl) ?_
    refine wa rfl ?_
    refine wl_x ?_
    refine wc_region ?_
    refine wm rfl ?_
    obtain ⟨g190, h191⟩ := chk_e h189
    refine wv (o_add rfl rfl g190) ?_
    refine wa rfl ?_
    refine wl_y ?_
    refine wm rfl ?_
    refine wm rfl ?_
    obtain ⟨g192, h193⟩ := chk_e h191
    refine wv (r := rSl 4 (List.map eTApiCell (List.drop (Int.toNat (x111 + 1)) v))) (o_slice_zl Tryd.underlying22 Tryd.sizeOf40 rfl rfl g192) ?_
    obtain ⟨r194, e196, h195⟩ := obn_e h193
    refine wc0 Tryd.call27 (vLook_w F (List.drop (Int.toNat (x111 + 1)) v) r194 e196) rfl ?_
    refine wm rfl ?_
    refine wv (o_extract rfl rfl) ?_
    refine wv (o_extract rfl rfl) ?_
    refine wv (o_extract rfl rfl) ?_
    refine w_alloc (cs := [rI .i64 0, rI .i64 0, rB false, rB false]) Tryd.zeroValue55 rfl rfl (fun b197 => ?_)
    refine wa rfl ?_
    refine u_store_agg (i := 0) Tryd.sizeOf55 rfl rfl rfl (OneAll.c rfl) rfl rfl (cs' := [rI .i64 r194.2.1.fDepth, rI .i64 r194.2.1.fBytes, rB r194.2.1.fOutside, rB r194.2.1.fLong]) rfl (H' := [.blk b197 (eTValueShape r194.2.1) 55, .blk b_ks [rv v114] 46, .blk b_vs1 [rv v116] 44, .row v114 9 1 (List.map eS x113), .row v116 22 1 (List.map eL_TApiCell x115)]) rfl ?_
    refine wa rfl ?_
    refine wl_x ?_
    refine wc_seq ?_
    refine wc_sr ?_
    refine wm rfl ?_
    refine wm rfl ?_
    refine wm rfl ?_
    refine wm rfl ?_
    refine wm rfl ?_
    refine wm rfl ?_
    obtain ⟨g198, h199⟩ := chk_e h195
    refine wv (o_add rfl rfl g198) ?_
    refine wm rfl ?_
    refine wm rfl ?_
    refine wv (o_add rfl rfl g198) ?_
    obtain ⟨g200, h201⟩ := chk_e h199
    obtain ⟨g202, h203⟩ := chk_e h201
    refine wv (r := rSl 4 (List.map eTApiCell (List.take (Int.toNat ((x111 + 1) + r194.1) - Int.toNat (x111 + 1)) (List.drop (Int.toNat (x111 + 1)) v)))) (o_slice_zm Tryd.underlying22 Tryd.sizeOf40 rfl rfl rfl rfl g200 g202) ?_
    obtain ⟨r204, e206, h205⟩ := obn_e h203
    refine w_callc (rs := [rS ((at' v x111).fStr), rSl 4 (List.map eTApiCell (List.take (Int.toNat ((x111 + 1) + r194.1) - Int.toNat (x111 + 1)) (List.drop (Int.toNat (x111 + 1)) v)))]) (Hin := [.blk b_ks [rv v114] 46, .row v114 9 1 (List.map eS x113), .blk b_vs1 [rv v116] 44, .row v116 22 1 (List.map eL_TApiCell x115)]) (Hr := [.blk b197 (eTValueShape r194.2.1) 55]) Tryd.call54 rfl rfl ((perm_front (i := 1) rfl).trans (List.Perm.cons _ ((perm_front (i := 2) rfl).trans (List.Perm.cons _ ((perm_front (i := 1) rfl).trans (List.Perm.cons _ ((perm_front (i := 1) rfl).trans (List.Perm.cons _ (List.Perm.refl _))))))))) (vCmpF_w b_ks v114 b_vs1 v116 ((at' v x111).fStr) (List.take (Int.toNat ((x111 + 1) + r194.1) - Int.toNat (x111 + 1)) (List.drop (Int.toNat (x111 + 1)) v)) x113 x115 r204 e206) rfl ?_
    rintro _ _ ⟨v207, v208, rfl, rfl⟩
    refine wv (o_not rfl) ?_
    refine wl_x ?_
    refine wc_cond (b := !r204.1) rfl (fun c209 => ?_) (fun c209 => ?_)
    ·have h210 := cnd_t c209 h205
     refine wc_ret ?_
     refine wk_then_ret ?_
     refine wk_in_ret ?_
     refine wk_then_ret ?_
     refine wk_then_ret ?_
     refine wk_cut_ret ?_
     have h211 := stp_ret h210 ht179 hK177
     refine wk_in_ret ?_
     obtain rfl := some_e h211
     exact wk_ret (r_0 Tryd.results35) (sC (sC (sC (sC (sS sN))))) ⟨v207, v208, rfl, rfl⟩
    ·have h212 := cnd_f c209 h205
     refine wc_skip ?_
     refine wk_x ?_
     refine wc_region ?_
     refine wm rfl ?_
     refine wm rfl ?_
     refine wv (o_add rfl rfl g198) ?_
     refine wa rfl ?_
     refine wl_nil ?_
     refine wk_in_norm ?_
     refine wk_x ?_
     refine wc_region ?_
     obtain ⟨g213, h214⟩ := chk_e h212
     refine wv (o_add rfl rfl g213) ?_
     refine wm rfl ?_
     refine wl_nil ?_
     refine wk_perm (H2 := [.blk b_ks [rv v207] 46, .blk b_vs1 [rv v208] 44, .row v207 9 1 (List.map eS r204.2.1), .row v208 22 1 (List.map eL_TApiCell r204.2.2), .blk b197 (eTValueShape r194.2.1) 55]) ((perm_front (i := 0) rfl).trans (List.Perm.cons _ ((perm_front (i := 1) rfl).trans (List.Perm.cons _ (List.Perm.refl _))))) ?_
     have h215 := stp_next h214 ht179
     exact wk_then (wk_some (m180, ((x111 + 1) + r194.1, x112 + 1, r204.2.1, r204.2.2), (v207, v208)) ⟨h215, Nat.lt_succ_self _⟩ (Sub.c5 rfl rfl rfl rfl rfl Sub.nil) (sC (sC (sC (sC (sS sN))))))
   ·have h216 := cnd_f c186 h185
    refine wc_skip ?_
    refine wk_x ?_
    refine wc_sr ?_
    refine wm rfl ?_
    refine wm rfl ?_
    obtain ⟨g217, h218⟩ := chk_e h216
    refine wv (r := rSl 4 (List.map eTApiCell (List.drop (Int.toNat x111) v))) (o_slice_zl Tryd.underlying22 Tryd.sizeOf40 rfl rfl g217) ?_
    obtain ⟨r219, e221, h220⟩ := obn_e h218
    refine wc0 Tryd.call27 (vLook_w F (List.drop (Int.toNat x111) v) r219 e221) rfl ?_
    refine wm rfl ?_
    refine wv (o_extract rfl rfl) ?_
    refine wv (o_extract rfl rfl) ?_
    refine wv (o_extract rfl rfl) ?_
    refine w_alloc (cs := [rI .i64 0, rI .i64 0, rB false, rB false]) Tryd.zeroValue55 rfl rfl (fun b222 => ?_)
    refine wa rfl ?_
    refine u_store_agg (i := 0) Tryd.sizeOf55 rfl rfl rfl (OneAll.c rfl) rfl rfl (cs' := [rI .i64 r219.2.1.fDepth, rI .i64 r219.2.1.fBytes, rB r219.2.1.fOutside, rB r219.2.1.fLong]) rfl (H' := [.blk b222 (eTValueShape r219.2.1) 55, .blk b_ks [rv v114] 46, .blk b_vs1 [rv v116] 44, .row v114 9 1 (List.map eS x113), .row v116 22 1 (List.map eL_TApiCell x115)]) rfl ?_
    refine wa rfl ?_
    refine wl_x ?_
    refine wc_seq ?_
    refine wc_sr ?_
    refine wm rfl ?_
    refine wm rfl ?_
    refine wm rfl ?_
    refine wm rfl ?_
    refine wm rfl ?_
    refine wm rfl ?_
    obtain ⟨g223, h224⟩ := chk_e h220
    refine wv (o_add rfl rfl g223) ?_
    refine wm rfl ?_
    refine wm rfl ?_
    refine wv (o_add rfl rfl g223) ?_
    obtain ⟨g225, h226⟩ := chk_e h224
    obtain ⟨g227, h228⟩ := chk_e h226
    refine wv (r := rSl 4 (List.map eTApiCell (List.take (Int.toNat (x111 + r219.1) - Int.toNat x111) (List.drop (Int.toNat x111) v)))) (o_slice_zm Tryd.underlying22 Tryd.sizeOf40 rfl rfl rfl rfl g225 g227) ?_
    obtain ⟨r229, e231, h230⟩ := obn_e h228
    refine w_callc (rs := [rS ([] : Str), rSl 4 (List.map eTApiCell (List.take (Int.toNat (x111 + r219.1) - Int.toNat x111) (List.drop (Int.toNat x111) v)))]) (Hin := [.blk b_ks [rv v114] 46, .row v114 9 1 (List.map eS x113), .blk b_vs1 [rv v116] 44, .row v116 22 1 (List.map eL_TApiCell x115)]) (Hr := [.blk b222 (eTValueShape r219.2.1) 55]) Tryd.call54 rfl rfl ((perm_front (i := 1) rfl).trans (List.Perm.cons _ ((perm_front (i := 2) rfl).trans (List.Perm.cons _ ((perm_front (i := 1) rfl).trans (List.Perm.cons _ ((perm_front (i := 1) rfl).trans (List.Perm.cons _ (List.Perm.refl _))))))))) (vCmpF_w b_ks v114 b_vs1 v116 ([] : Str) (List.take (Int.toNat (x111 + r219.1) - Int.toNat x111) (List.drop (Int.toNat x111) v)) x113 x115 r229 e231) rfl ?_
    rintro _ _ ⟨v232, v233, rfl, rfl⟩
    refine wv (o_not rfl) ?_
    refine wl_x ?_
    refine wc_cond (b := !r229.1) rfl (fun c234 => ?_) (fun c234 => ?_)
    ·have h235 := cnd_t c234 h230
     refine wc_ret ?_
     refine wk_then_ret ?_
     refine wk_in_ret ?_
     refine wk_then_ret ?_
     refine wk_then_ret ?_
     refine wk_cut_ret ?_
     have h236 := stp_ret h235 ht179 hK177
     refine wk_in_ret ?_
     obtain rfl := some_e h236
     exact wk_ret (r_0 Tryd.results35) (sC (sC (sC (sC (sS sN))))) ⟨v232, v233, rfl, rfl⟩
    ·have h237 := cnd_f c234 h230
     refine wc_skip ?_
     refine wk_x ?_
     refine wc_region ?_
     refine wm rfl ?_
     refine wm rfl ?_
     refine wv (o_add rfl rfl g223) ?_
     refine wa rfl ?_
     refine wl_nil ?_
     refine wk_in_norm ?_
     refine wk_x ?_
     refine wc_region ?_
     obtain ⟨g238, h239⟩ := chk_e h237
     refine wv (o_add rfl rfl g238) ?_
     refine wm rfl ?_
     refine wl_nil ?_
     refine wk_perm (H2 := [.blk b_ks [rv v232] 46, .blk b_vs1 [rv v233] 44, .row v232 9 1 (List.map eS r229.2.1), .row v233 22 1 (List.map eL_TApiCell r229.2.2), .blk b222 (eTValueShape r219.2.1) 55]) ((perm_front (i := 0) rfl).trans (List.Perm.cons _ ((perm_front (i := 1) rfl).trans (List.Perm.cons _ (List.Perm.refl _))))) ?_
     have h240 := stp_next h239 ht179
     exact wk_then (wk_some (m180, (x111 + r219.1, x112 + 1, r229.2.1, r229.2.2), (v232, v233)) ⟨h240, Nat.lt_succ_self _⟩ (Sub.c5 rfl rfl rfl rfl rfl Sub.nil) (sC (sC (sC (sC (sS sN))))))
  ·have h241 := cnd_f c184 h182
   refine wc_exit ?_
   refine wk_then_exit ?_
   have h242 := stp_go h241 ht179 hK177
   exact wk_then_exit (wk_cut_hit (wk_some ((x113, x115), (v114, v116)) h242 Sub.nil (sC (sC (sC (sC sN))))))
 ·rintro ⟨⟨x171, x173⟩, ⟨v172, v174⟩⟩ h243
  refine wk_as (l' := []) (H' := [.blk b_ks [rv v172] 46, .blk b_vs1 [rv v174] 44, .row v172 9 1 (List.map eS x171), .row v174 22 1 (List.map eL_TApiCell x173)]) rfl rfl ?_
  replace h243 : vCmpP_k1 x171 x173 = some r := h243
  unfold vCmpP_k1 at h243
  refine wk_in_hit ?_
  refine wk_perm (H2 := [.blk b_ks [rv v172] 46, .row v172 9 1 (List.map eS x171), .blk b_vs1 [rv v174] 44, .row v174 22 1 (List.map eL_TApiCell x173)]) ((perm_front (i := 0) rfl).trans (List.Perm.cons _ ((perm_front (i := 1) rfl).trans (List.Perm.cons _ (List.Perm.refl _))))) ?_
  obtain rfl := some_e h243
  exact wk_end (r_0 Tryd.results35) (sC (sC (sC (sC sN)))) ⟨v172, v174, rfl, rfl⟩

theorem vComparem_w (F : Nat) (rec_vCmpG : Str → (List TApiCell) → Int → (List (List TApiCell)) → (List Str) → Int → Option (Bool × Int × (List (List TApiCell)) × (List Str) × Int)) (rec_vCmpQ : (List TApiCell) → Int → (List (List TApiCell)) → (List Str) → Int → Option (Int × (List (List TApiCell)) × (List Str) × Int)) (ih_vCmpG : (∀ (b_i1 : Nat) (b_vs1 : Nat) (v_vs1_0 : Value) (b_ks : Nat) (v_ks_0 : Value) (b_res : Nat) (key : Str) (x : (List TApiCell)) (i1 : Int) (vs1 : (List (List TApiCell))) (ks : (List Str)) (res : Int) (r : Bool × Int × (List (List TApiCell)) × (List Str) × Int), rec_vCmpG key x i1 vs1 ks res = some r → Fn Tryd.prog GE 55 [rS key, rSl 4 (List.map eTApiCell x), rv (.pointer (some ⟨b_i1, 0, none⟩)), rv (.pointer (some ⟨b_vs1, 0, none⟩)), rv (.pointer (some ⟨b_ks, 0, none⟩)), rv (.pointer (some ⟨b_res, 0, none⟩))] [.blk b_i1 [rI .i64 i1] 3, .blk b_vs1 [rv v_vs1_0] 44, .row v_vs1_0 22 1 (List.map eL_TApiCell vs1), .blk b_ks [rv v_ks_0] 46, .row v_ks_0 9 1 (List.map eS ks), .blk b_res [rI .i64 res] 3] (fun R H => ∃ w3_0 : Value, ∃ w4_0 : Value, R = rB r.1 ∧ H = [.blk b_i1 [rI .i64 r.2.1] 3, .blk b_vs1 [rv w3_0] 44, .row w3_0 22 1 (List.map eL_TApiCell r.2.2.1), .blk b_ks [rv w4_0] 46, .row w4_0 9 1 (List.map eS r.2.2.2.1), .blk b_res [rI .i64 r.2.2.2.2] 3]))) (ih_vCmpQ : (∀ (b_i1 : Nat) (b_vs1 : Nat) (v_vs1_0 : Value) (b_ks : Nat) (v_ks_0 : Value) (b_res : Nat) (v : (List TApiCell)) (i1 : Int) (vs1 : (List (List TApiCell))) (ks : (List Str)) (res : Int) (r : Int × (List (List TApiCell)) × (List Str) × Int), rec_vCmpQ v i1 vs1 ks res = some r → Fn Tryd.prog GE 35 [rSl 4 (List.map eTApiCell v), rv (.func (.func 55) #[] #[(.pointer (some ⟨b_i1, 0, none⟩)), (.pointer (some ⟨b_vs1, 0, none⟩)), (.pointer (some ⟨b_ks, 0, none⟩)), (.pointer (some ⟨b_res, 0, none⟩))])] [.blk b_i1 [rI .i64 i1] 3, .blk b_vs1 [rv v_vs1_0] 44, .row v_vs1_0 22 1 (List.map eL_TApiCell vs1), .blk b_ks [rv v_ks_0] 46, .row v_ks_0 9 1 (List.map eS ks), .blk b_res [rI .i64 res] 3] (fun R H => ∃ w1_1_0 : Value, ∃ w1_2_0 : Value, R = rv (.tuple #[]) ∧ H = [.blk b_i1 [rI .i64 r.1] 3, .blk b_vs1 [rv w1_1_0] 44, .row w1_1_0 22 1 (List.map eL_TApiCell r.2.1), .blk b_ks [rv w1_2_0] 46, .row w1_2_0 9 1 (List.map eS r.2.2.1), .blk b_res [rI .i64 r.2.2.2] 3]))) (a : (List TApiCell)) (b : (List TApiCell)) (r : Int) (h : vComparem F rec_vCmpG rec_vCmpQ a b = some r) : Fn Tryd.prog GE 30 [rSl 4 (List.map eTApiCell a), rSl 4 (List.map eTApiCell b)] [] (fun R H => R = rI .i64 r ∧ H = []) := by
 refine enter (n := 65) Tryd.func30 rfl Tryd.ntmps30 rfl (fun w Z => ?_)
 refine wc_as (l' := [(0, rSl 4 (List.map eTApiCell a)), (1, rSl 4 (List.map eTApiCell b))]) (H' := []) rfl rfl ?_
 unfold vComparem at h
 refine wc_sr ?_
 refine wv (r := rI .i64 0) (o_assign rfl) ?_
 refine wl_x ?_
 refine wc_seq ?_
 obtain ⟨g1, h2⟩ := chk_e h
 obtain ⟨g3, h4⟩ := chk_e h2
 refine wc_rdak 9 [0, 1] [⟨[], rSl 4 (List.map eTApiCell a), none, none, none⟩, ⟨[0], rAt (eTApiCell (at' a 0)), none, none, none⟩, ⟨[1], rAgg (eTApiCell (at' a 0)), none, none, none⟩, ⟨[], rSl 4 (List.map eTApiCell b), none, none, none⟩, ⟨[3], rAt (eTApiCell (at' b 0)), none, none, none⟩, ⟨[4], rAgg (eTApiCell (at' b 0)), none, none, none⟩, ⟨[], rv undef, some ([rI .i64 0, rI .i64 0, rS ([] : Str), rI .i64 0], 40), some (8, [rI .i64 ((at' a 0).fKind), rI .i64 ((at' a 0).fInt), rS ((at' a 0).fStr), rI .i64 ((at' a 0).fN)]), none⟩, ⟨[], rv undef, some ([rI .i64 0, rI .i64 0, rS ([] : Str), rI .i64 0], 40), none, none⟩, ⟨[2], rv undef, none, none, some 6⟩] ?_ (fun β => ?_)
 ·refine oaq (o_move rfl) ?_
  refine oaq (o_ix_z (enc := eTApiCell) (ys := a) Tryd.underlying22 Tryd.sizeOf40 rfl rfl g1) ?_
  refine oaq (o_load_za Tryd.isAgg40 Tryd.sizeOf40 rfl rfl rfl) ?_
  refine oaq (o_move rfl) ?_
  refine oaq (o_ix_z (enc := eTApiCell) (ys := b) Tryd.underlying22 Tryd.sizeOf40 rfl rfl g3) ?_
  refine oaq (o_load_za Tryd.isAgg40 Tryd.sizeOf40 rfl rfl rfl) ?_
  refine oal (al_ok (cs := [rI .i64 0, rI .i64 0, rS ([] : Str), rI .i64 0]) Tryd.zeroValue40 rfl) ?_
  refine oal (al_ok (cs := [rI .i64 0, rI .i64 0, rS ([] : Str), rI .i64 0]) Tryd.zeroValue40 rfl) ?_
  refine oas (fun {b5 hh} => ok_u (U_u_store_agg (i := 0) Tryd.sizeOf40 rfl rfl rfl (OneAll.c rfl) rfl rfl (cs' := [rI .i64 ((at' a 0).fKind), rI .i64 ((at' a 0).fInt), rS ((at' a 0).fStr), rI .i64 ((at' a 0).fN)]) rfl (H' := .blk b5 (eTApiCell (at' a 0)) 40 :: hh) rfl)) ?_
  exact oae
 refine wl_kza (H1 := [.blk (β 6) (eTApiCell (at' a 0)) 40, .blk (β 7) [rI .i64 0, rI .i64 0, rS ([] : Str), rI .i64 0] 40]) [11, 12, 13, 14, 15, 16, 5, 6, 0, 1] ?_
 generalize β 6 = b5
 generalize β 7 = b6
 refine u_store_agg (i := 1) Tryd.sizeOf40 rfl rfl rfl (OneAll.c rfl) rfl rfl (cs' := [rI .i64 ((at' b 0).fKind), rI .i64 ((at' b 0).fInt), rS ((at' b 0).fStr), rI .i64 ((at' b 0).fN)]) rfl (H' := [.blk b5 (eTApiCell (at' a 0)) 40, .blk b6 (eTApiCell (at' b 0)) 40]) rfl ?_
 refine wl_x ?_
 refine wc_seq ?_
 refine wc_block ?_
 refine wc_sr ?_
 refine wv (o_fieldAddr Tryd.underlying40 rfl Tryd.sizeOf38 rfl rfl) ?_
 refine wv (o_load (i := 0) Tryd.isAgg38 rfl rfl rfl) ?_
 refine wv (o_fieldAddr Tryd.underlying40 rfl Tryd.sizeOf38 rfl rfl) ?_
 refine wv (o_load (i := 1) Tryd.isAgg38 rfl rfl rfl) ?_
 refine wv (o_ne rfl rfl) ?_
 refine wa rfl ?_
 refine wl_x ?_
 refine wc_cond (b := !decide (((at' a 0).fKind) = ((at' b 0).fKind))) rfl (fun c7 => ?_) (fun c7 => ?_)
 ·have h8 := cnd_t c7 h4
  refine wc_sr ?_
  refine wv (o_fieldAddr Tryd.underlying40 rfl Tryd.sizeOf38 rfl rfl) ?_
  refine wv (o_load (i := 0) Tryd.isAgg38 rfl rfl rfl) ?_
  refine wv (o_fieldAddr Tryd.underlying40 rfl Tryd.sizeOf38 rfl rfl) ?_
  refine wv (o_load (i := 1) Tryd.isAgg38 rfl rfl rfl) ?_
  obtain ⟨r9, e11, h10⟩ := obn_e h8
  refine wc0 Tryd.call52 (vOrder_w ((at' a 0).fKind) ((at' b 0).fKind) r9 e11) rfl ?_
  refine wa rfl ?_
  refine wl_x ?_
  refine wc_ret ?_
  refine wk_in_ret ?_
  refine wk_then_ret ?_
  obtain rfl := some_e h10
  exact wk_ret (r_1 Tryd.results30 (rv_t rfl)) (sS (sS sN)) ⟨rfl, rfl⟩
 ·have h12 := cnd_f c7 h4
  refine wc_sr ?_
  refine wv (o_fieldAddr Tryd.underlying40 rfl Tryd.sizeOf38 rfl rfl) ?_
  refine wv (o_load (i := 0) Tryd.isAgg38 rfl rfl rfl) ?_
  refine wv (o_eq rfl rfl) ?_
  refine wa rfl ?_
  refine wl_x ?_
  refine wc_cond (b := decide (((at' a 0).fKind) = 4)) rfl (fun c13 => ?_) (fun c13 => ?_)
  ·have h14 := cnd_t c13 h12
   refine wc_sr ?_
   refine wv (o_fieldAddr Tryd.underlying40 rfl Tryd.sizeOf9 rfl rfl) ?_
   refine wv (o_load (i := 0) Tryd.isAgg9 rfl rfl rfl) ?_
   refine wv (o_fieldAddr Tryd.underlying40 rfl Tryd.sizeOf9 rfl rfl) ?_
   refine wv (o_load (i := 1) Tryd.isAgg9 rfl rfl rfl) ?_
   refine w_call0 (rs := [rS ((at' a 0).fStr), rS ((at' b 0).fStr)]) (r := rI .i64 (Lib.compareBytes ((at' a 0).fStr) ((at' b 0).fStr))) Tryd.call53 rfl (compare_q ((at' a 0).fStr) ((at' b 0).fStr)) rfl rfl ?_
   refine wa rfl ?_
   refine wl_x ?_
   refine wc_ret ?_
   refine wk_in_ret ?_
   refine wk_then_ret ?_
   obtain rfl := some_e h14
   exact wk_ret (r_1 Tryd.results30 (rv_t rfl)) (sS (sS sN)) ⟨rfl, rfl⟩
  ·have h15 := cnd_f c13 h12
   refine wc_seq_mid [(0, rSl 4 (List.map eTApiCell a)), (1, rSl 4 (List.map eTApiCell b)), (5, rv (.pointer (some ⟨b5, 0, none⟩))), (6, rv (.pointer (some ⟨b6, 0, none⟩))), (37, rB ((!decide (((at' a 0).fKind) = 5)) && (!decide (((at' a 0).fKind) = 6))))] [.blk b5 (eTApiCell (at' a 0)) 40, .blk b6 (eTApiCell (at' b 0)) 40] ?_ ?_
   ·refine wc_region ?_
    refine wv (o_fieldAddr Tryd.underlying40 rfl Tryd.sizeOf38 rfl rfl) ?_
    refine wv (o_load (i := 0) Tryd.isAgg38 rfl rfl rfl) ?_
    refine wv (o_ne rfl rfl) ?_
    refine wm rfl ?_
    refine bsplit (!decide (((at' a 0).fKind) = 5)) (fun c16 => ?_) (fun c16 => ?_)
    ·refine wo c16 ?_
     refine wv (o_fieldAddr Tryd.underlying40 rfl Tryd.sizeOf38 rfl rfl) ?_
     refine wo c16 ?_
     refine wv (o_load (i := 0) Tryd.isAgg38 rfl rfl rfl) ?_
     refine wo c16 ?_
     refine wv (o_ne rfl rfl) ?_
     refine wpt rfl c16 rfl ?_
     refine wa rfl ?_
     refine wl_nil ?_
     exact wtc c16
    ·refine wf c16 ?_
     refine wf c16 ?_
     refine wf c16 ?_
     refine wv (r := rB false) (o_pick_f (b := !decide (((at' a 0).fKind) = 5)) rfl c16 rfl) ?_
     refine wa rfl ?_
     refine wl_nil ?_
     exact wtc c16
   refine wc_cond (b := ((!decide (((at' a 0).fKind) = 5)) && (!decide (((at' a 0).fKind) = 6)))) rfl (fun c17 => ?_) (fun c17 => ?_)
   ·have h18 := cnd_t c17 h15
    refine wc_sr ?_
    refine wv (o_fieldAddr Tryd.underlying40 rfl Tryd.sizeOf3 rfl rfl) ?_
    refine wv (o_load (i := 0) Tryd.isAgg3 rfl rfl rfl) ?_
    refine wv (o_fieldAddr Tryd.underlying40 rfl Tryd.sizeOf3 rfl rfl) ?_
    refine wv (o_load (i := 1) Tryd.isAgg3 rfl rfl rfl) ?_
    obtain ⟨r19, e21, h20⟩ := obn_e h18
    refine wc0 Tryd.call52 (vOrder_w ((at' a 0).fInt) ((at' b 0).fInt) r19 e21) rfl ?_
    refine wa rfl ?_
    refine wl_x ?_
    refine wc_ret ?_
    refine wk_in_ret ?_
    refine wk_then_ret ?_
    obtain rfl := some_e h20
    exact wk_ret (r_1 Tryd.results30 (rv_t rfl)) (sS (sS sN)) ⟨rfl, rfl⟩
   ·have h22 := cnd_f c17 h15
    refine wc_skip ?_
    refine wk_in_norm ?_
    refine wk_x ?_
    refine wc_sr ?_
    refine w_alloc (cs := [rv (.slice none 0 0)]) Tryd.zeroValue46 rfl rfl (fun b23 => ?_)
    refine wl_y ?_
    refine w_alloc (cs := [rv (.slice none 0 0)]) Tryd.zeroValue44 rfl rfl (fun b24 => ?_)
    refine wl_y ?_
    refine wm rfl ?_
    refine wv (r := rv (.func (.func 54) #[] #[(.pointer (some ⟨b23, 0, none⟩)), (.pointer (some ⟨b24, 0, none⟩))])) (o_makeFunc rfl) ?_
    refine WL.nilrow (e := 9) (sz := 1) ?_
    refine WL.nilrow (e := 22) (sz := 1) ?_
    obtain ⟨r25, e27, h26⟩ := obn_e h22
    refine wcl (Hr := [.blk b5 (eTApiCell (at' a 0)) 40, .blk b6 (eTApiCell (at' b 0)) 40]) Tryd.call35 (vCmpP_w F b23 (.slice none 0 0         ) b24 (.slice none 0 0                      ) b ([] : List Str) ([] : List (List TApiCell)) r25 e27) rfl ((perm_front (i := 3) rfl).trans (List.Perm.cons _ ((perm_front (i := 1) rfl).trans (List.Perm.cons _ ((perm_front (i := 1) rfl).trans (List.Perm.cons _ (List.Perm.refl _))))))) rfl ?_
    rintro _ _ ⟨v28, v29, rfl, rfl⟩
    refine wl_y ?_
    refine w_alloc (cs := [rI .i64 0]) Tryd.zeroValue3 rfl rfl (fun b30 => ?_)
    refine w_alloc (cs := [rI .i64 0]) Tryd.zeroValue3 rfl rfl (fun b31 => ?_)
    refine u_store (i := 1) Tryd.sizeOf3 rfl rfl (one_c rfl) rfl rfl (cs' := [rI .i64 0]) rfl (H' := [.blk b31 [rI .i64 0] 3, .blk b30 [rI .i64 0] 3, .blk b23 [rv v28] 46, .row v28 9 1 (List.map eS r25.1), .blk b24 [rv v29] 44, .row v29 22 1 (List.map eL_TApiCell r25.2), .blk b5 (eTApiCell (at' a 0)) 40, .blk b6 (eTApiCell (at' b 0)) 40]) rfl ?_
    refine u_store (i := 0) Tryd.sizeOf3 rfl rfl (one_c rfl) rfl rfl (cs' := [rI .i64 0]) rfl (H' := [.blk b31 [rI .i64 0] 3, .blk b30 [rI .i64 0] 3, .blk b23 [rv v28] 46, .row v28 9 1 (List.map eS r25.1), .blk b24 [rv v29] 44, .row v29 22 1 (List.map eL_TApiCell r25.2), .blk b5 (eTApiCell (at' a 0)) 40, .blk b6 (eTApiCell (at' b 0)) 40]) rfl ?_
    refine wl_y ?_
    refine wm rfl ?_
    refine wv (r := rv (.func (.func 55) #[] #[(.pointer (some ⟨b30, 0, none⟩)), (.pointer (some ⟨b24, 0, none⟩)), (.pointer (some ⟨b23, 0, none⟩)), (.pointer (some ⟨b31, 0, none⟩))])) (o_makeFunc rfl) ?_
    obtain ⟨r32, e34, h33⟩ := obn_e h26
    refine wcl (Hr := [.blk b5 (eTApiCell (at' a 0)) 40, .blk b6 (eTApiCell (at' b 0)) 40]) Tryd.call35 (ih_vCmpQ b30 b24 v29 b23 v28 b31 a 0 r25.2 r25.1 0 r32 e34) rfl ((perm_front (i := 1) rfl).trans (List.Perm.cons _ ((perm_front (i := 3) rfl).trans (List.Perm.cons _ ((perm_front (i := 3) rfl).trans (List.Perm.cons _ ((perm_front (i := 1) rfl).trans (List.Perm.cons _ ((perm_front (i := 1) rfl).trans (List.Perm.cons _ (List.Perm.refl _))))))))))) rfl ?_
    rintro _ _ ⟨v35, v36, rfl, rfl⟩
    refine wl_x ?_
    refine wc_seq ?_
    refine wc_sr ?_
    refine wv (o_load (i := 5) Tryd.isAgg3 rfl rfl rfl) ?_
    refine wv (o_ne rfl rfl) ?_
    refine wl_x ?_
    refine wc_cond (b := !decide (r32.2.2.2 = 0)) rfl (fun c37 => ?_) (fun c37 => ?_)
    ·have h38 := cnd_t c37 h33
     refine wc_sr ?_
     refine wv (o_load (i := 5) Tryd.isAgg3 rfl rfl rfl) ?_
     refine wa rfl ?_
     refine wl_x ?_
     refine wc_ret ?_
     refine wk_then_ret ?_
     obtain rfl := some_e h38
     exact wk_ret (r_1 Tryd.results30 (rv_t rfl)) (sS (sS (sS (sS (sS (sS (sS (sS sN)))))))) ⟨rfl, rfl⟩
    ·have h39 := cnd_f c37 h33
     refine wc_skip ?_
     refine wk_x ?_
     refine wc_sr ?_
     refine wv (o_fieldAddr Tryd.underlying40 rfl Tryd.sizeOf3 rfl rfl) ?_
     refine wv (o_load (i := 6) Tryd.isAgg3 rfl rfl rfl) ?_
     refine wv (o_fieldAddr Tryd.underlying40 rfl Tryd.sizeOf3 rfl rfl) ?_
     refine wv (o_load (i := 7) Tryd.isAgg3 rfl rfl rfl) ?_
     obtain ⟨r40, e42, h41⟩ := obn_e h39
     refine wc0 Tryd.call52 (vOrder_w ((at' a 0).fN) ((at' b 0).fN) r40 e42) rfl ?_
     refine wa rfl ?_
     refine wl_x ?_
     refine wc_ret ?_
     obtain rfl := some_e h41
     exact wk_ret (r_1 Tryd.results30 (rv_t rfl)) (sS (sS (sS (sS (sS (sS (sS (sS sN)))))))) ⟨rfl, rfl⟩

theorem vCmpGm_w (F : Nat) (rec_vCompare : (List TApiCell) → (List TApiCell) → Option (Int)) (ih_vCompare : (∀ (a : (List TApiCell)) (b : (List TApiCell)) (r : Int), rec_vCompare a b = some r → Fn Tryd.prog GE 30 [rSl 4 (List.map eTApiCell a), rSl 4 (List.map eTApiCell b)] [] (fun R H => R = rI .i64 r ∧ H = []))) (b_i1 : Nat) (b_vs1 : Nat) (v_vs1_0 : Value) (b_ks : Nat) (v_ks_0 : Value) (b_res : Nat) (key : Str) (x : (List TApiCell)) (i1 : Int) (vs1 : (List (List TApiCell))) (ks : (List Str)) (res : Int) (r : Bool × Int × (List (List TApiCell)) × (List Str) × Int) (h : vCmpGm F rec_vCompare key x i1 vs1 ks res = some r) : Fn Tryd.prog GE 55 [rS key, rSl 4 (List.map eTApiCell x), rv (.pointer (some ⟨b_i1, 0, none⟩)), rv (.pointer (some ⟨b_vs1, 0, none⟩)), rv (.pointer (some ⟨b_ks, 0, none⟩)), rv (.pointer (some ⟨b_res, 0, none⟩))] [.blk b_i1 [rI .i64 i1] 3, .blk b_vs1 [rv v_vs1_0] 44, .row v_vs1_0 22 1 (List.map eL_TApiCell vs1), .blk b_ks [rv v_ks_0] 46, .row v_ks_0 9 1 (List.map eS ks), .blk b_res [rI .i64 res] 3] (fun R H => ∃ w3_0 : Value, ∃ w4_0 : Value, R = rB r.1 ∧ H = [.blk b_i1 [rI .i64 r.2.1] 3, .blk b_vs1 [rv w3_0] 44, .row w3_0 22 1 (List.map eL_TApiCell r.2.2.1), .blk b_ks [rv w4_0] 46, .row w4_0 9 1 (List.map eS r.2.2.2.1), .blk b_res [rI .i64 r.2.2.2.2] 3]) := by
 refine enter (n := 31) Tryd.func55 rfl Tryd.ntmps55 rfl (fun w Z => ?_)
 refine wc_as (l' := [(0, rS key), (1, rSl 4 (List.map eTApiCell x)), (2, rv (.pointer (some ⟨b_i1, 0, none⟩))), (3, rv (.pointer (some ⟨b_vs1, 0, none⟩))), (4, rv (.pointer (some ⟨b_ks, 0, none⟩))), (5, rv (.pointer (some ⟨b_res, 0, none⟩)))]) (H' := [.blk b_i1 [rI .i64 i1] 3, .blk b_vs1 [rv v_vs1_0] 44, .row v_vs1_0 22 1 (List.map eL_TApiCell vs1), .blk b_ks [rv v_ks_0] 46, .row v_ks_0 9 1 (List.map eS ks), .blk b_res [rI .i64 res] 3]) rfl rfl ?_
 unfold vCmpGm at h
 refine wc_sr ?_
 refine wv (r := rB false) (o_assign rfl) ?_
 refine wl_x ?_
 refine wc_seq ?_
 refine wc_sr ?_
 refine wv (o_load (i := 0) Tryd.isAgg3 rfl rfl rfl) ?_
 refine wv (o_load (i := 1) Tryd.isAgg44 rfl rfl rfl) ?_
 refine wv (o_len_wt (ys := vs1) (enc := eL_TApiCell) (i := 2) Tryd.underlying44 rfl rfl) ?_
 refine wv (o_eq rfl rfl) ?_
 refine wl_x ?_
 refine wc_cond (b := decide (i1 = (vs1.length : Int))) rfl (fun c1 => ?_) (fun c1 => ?_)
 ·have h2 := cnd_t c1 h
  refine wc_sr ?_
  refine wv (r := rB false) (o_assign rfl) ?_
  refine wl_x ?_
  refine wc_ret ?_
  refine wk_then_ret ?_
  obtain rfl := some_e h2
  exact wk_ret (r_1 Tryd.results55 (rv_t rfl)) (sC (sC (sC (sC (sC (sC sN)))))) ⟨v_vs1_0, v_ks_0, rfl, rfl⟩
 ·have h3 := cnd_f c1 h
  refine wc_skip ?_
  refine wk_x ?_
  refine wc_sr ?_
  refine wm rfl ?_
  refine wv (o_load (i := 3) Tryd.isAgg46 rfl rfl rfl) ?_
  refine wv (o_load (i := 0) Tryd.isAgg3 rfl rfl rfl) ?_
  obtain ⟨g4, h5⟩ := chk_e h3
  refine wv (r := rv (elp 1 v_ks_0 (Int.toNat i1) 0)) (o_ix_w (i := 4) Tryd.underlying46 Tryd.sizeOf9 rfl rfl rfl (len_map g4)) ?_
  refine wv (r := rS (at' ks i1)) (o_ld_w (enc := eS) (ys := ks) (i := 4) (j := i1) Tryd.isAgg9 rfl rfl g4 rfl) ?_
  refine w_call0 (rs := [rS key, rS (at' ks i1)]) (r := rI .i64 (Lib.compareBytes key (at' ks i1))) Tryd.call53 rfl (compare_q key (at' ks i1)) rfl rfl ?_
  refine u_store (i := 5) Tryd.sizeOf3 rfl rfl (one_c rfl) rfl rfl (cs' := [rI .i64 (Lib.compareBytes key (at' ks i1))]) rfl (H' := [.blk b_i1 [rI .i64 i1] 3, .blk b_vs1 [rv v_vs1_0] 44, .row v_vs1_0 22 1 (List.map eL_TApiCell vs1), .blk b_ks [rv v_ks_0] 46, .row v_ks_0 9 1 (List.map eS ks), .blk b_res [rI .i64 (Lib.compareBytes key (at' ks i1))] 3]) rfl ?_
  refine wl_x ?_
  refine wc_seq ?_
  refine wc_sr ?_
  refine wv (o_load (i := 5) Tryd.isAgg3 rfl rfl rfl) ?_
  refine wv (o_eq rfl rfl) ?_
  refine wl_x ?_
  refine wc_cond (b := decide ((Lib.compareBytes key (at' ks i1)) = 0)) rfl (fun c6 => ?_) (fun c6 => ?_)
  ·have h7 := cnd_t c6 h5
   refine wc_region ?_
   refine wm rfl ?_
   refine wv (o_load (i := 1) Tryd.isAgg44 rfl rfl rfl) ?_
   refine wv (o_load (i := 0) Tryd.isAgg3 rfl rfl rfl) ?_
   obtain ⟨g8, h9⟩ := chk_e h7
   refine wv (r := rv (elp 1 v_vs1_0 (Int.toNat i1) 0)) (o_ix_w (i := 2) Tryd.underlying44 Tryd.sizeOf22 rfl rfl rfl (len_map g8)) ?_
   refine wv (r := rSl 4 (List.map eTApiCell (at' vs1 i1))) (o_ld_w (enc := eL_TApiCell) (ys := vs1) (i := 2) (j := i1) Tryd.isAgg22 rfl rfl g8 rfl) ?_
   obtain ⟨r10, e12, h11⟩ := obn_e h9
   refine wc0 Tryd.call30 (ih_vCompare x (at' vs1 i1) r10 e12) rfl ?_
   refine u_store (i := 5) Tryd.sizeOf3 rfl rfl (one_c rfl) rfl rfl (cs' := [rI .i64 r10]) rfl (H' := [.blk b_i1 [rI .i64 i1] 3, .blk b_vs1 [rv v_vs1_0] 44, .row v_vs1_0 22 1 (List.map eL_TApiCell vs1), .blk b_ks [rv v_ks_0] 46, .row v_ks_0 9 1 (List.map eS ks), .blk b_res [rI .i64 r10] 3]) rfl ?_
   refine wl_y ?_
   refine wv (o_load (i := 0) Tryd.isAgg3 rfl rfl rfl) ?_
   obtain ⟨g13, h14⟩ := chk_e h11
   refine wv (o_add rfl rfl g13) ?_
   refine u_store (i := 0) Tryd.sizeOf3 rfl rfl (one_c rfl) rfl rfl (cs' := [rI .i64 (i1 + 1)]) rfl (H' := [.blk b_i1 [rI .i64 (i1 + 1)] 3, .blk b_vs1 [rv v_vs1_0] 44, .row v_vs1_0 22 1 (List.map eL_TApiCell vs1), .blk b_ks [rv v_ks_0] 46, .row v_ks_0 9 1 (List.map eS ks), .blk b_res [rI .i64 r10] 3]) rfl ?_
   refine wl_y ?_
   refine wv (o_load (i := 5) Tryd.isAgg3 rfl rfl rfl) ?_
   refine wv (o_eq rfl rfl) ?_
   refine wa rfl ?_
   refine wl_x ?_
   refine wc_ret ?_
   obtain rfl := some_e h14
   exact wk_ret (r_1 Tryd.results55 (rv_t rfl)) (sC (sC (sC (sC (sC (sC sN)))))) ⟨v_vs1_0, v_ks_0, rfl, rfl⟩
  ·have h15 := cnd_f c6 h5
   refine wc_skip ?_
   refine wk_x ?_
   refine wc_sr ?_
   refine wv (o_load (i := 0) Tryd.isAgg3 rfl rfl rfl) ?_
   obtain ⟨g16, h17⟩ := chk_e h15
   refine wv (o_add rfl rfl g16) ?_
   refine u_store (i := 0) Tryd.sizeOf3 rfl rfl (one_c rfl) rfl rfl (cs' := [rI .i64 (i1 + 1)]) rfl (H' := [.blk b_i1 [rI .i64 (i1 + 1)] 3, .blk b_vs1 [rv v_vs1_0] 44, .row v_vs1_0 22 1 (List.map eL_TApiCell vs1), .blk b_ks [rv v_ks_0] 46, .row v_ks_0 9 1 (List.map eS ks), .blk b_res [rI .i64 (Lib.compareBytes key (at' ks i1))] 3]) rfl ?_
   refine wl_y ?_
   refine wv (o_load (i := 5) Tryd.isAgg3 rfl rfl rfl) ?_
   refine wv (o_eq rfl rfl) ?_
   refine wa rfl ?_
   refine wl_x ?_
   refine wc_ret ?_
   obtain rfl := some_e h17
   exact wk_ret (r_1 Tryd.results55 (rv_t rfl)) (sC (sC (sC (sC (sC (sC sN)))))) ⟨v_vs1_0, v_ks_0, rfl, rfl⟩

theorem vCmpQm_w (F : Nat) (rec_vCmpG : Str → (List TApiCell) → Int → (List (List TApiCell)) → (List Str) → Int → Option (Bool × Int × (List (List TApiCell)) × (List Str) × Int)) (ih_vCmpG : (∀ (b_i1 : Nat) (b_vs1 : Nat) (v_vs1_0 : Value) (b_ks : Nat) (v_ks_0 : Value) (b_res : Nat) (key : Str) (x : (List TApiCell)) (i1 : Int) (vs1 : (List (List TApiCell))) (ks : (List Str)) (res : Int) (r : Bool × Int × (List (List TApiCell)) × (List Str) × Int), rec_vCmpG key x i1 vs1 ks res = some r → Fn Tryd.prog GE 55 [rS key, rSl 4 (List.map eTApiCell x), rv (.pointer (some ⟨b_i1, 0, none⟩)), rv (.pointer (some ⟨b_vs1, 0, none⟩)), rv (.pointer (some ⟨b_ks, 0, none⟩)), rv (.pointer (some ⟨b_res, 0, none⟩))] [.blk b_i1 [rI .i64 i1] 3, .blk b_vs1 [rv v_vs1_0] 44, .row v_vs1_0 22 1 (List.map eL_TApiCell vs1), .blk b_ks [rv v_ks_0] 46, .row v_ks_0 9 1 (List.map eS ks), .blk b_res [rI .i64 res] 3] (fun R H => ∃ w3_0 : Value, ∃ w4_0 : Value, R = rB r.1 ∧ H = [.blk b_i1 [rI .i64 r.2.1] 3, .blk b_vs1 [rv w3_0] 44, .row w3_0 22 1 (List.map eL_TApiCell r.2.2.1), .blk b_ks [rv w4_0] 46, .row w4_0 9 1 (List.map eS r.2.2.2.1), .blk b_res [rI .i64 r.2.2.2.2] 3]))) (b_i1 : Nat) (b_vs1 : Nat) (v_vs1_0 : Value) (b_ks : Nat) (v_ks_0 : Value) (b_res : Nat) (v : (List TApiCell)) (i1 : Int) (vs1 : (List (List TApiCell))) (ks : (List Str)) (res : Int) (r : Int × (List (List TApiCell)) × (List Str) × Int) (h : vCmpQm F rec_vCmpG v i1 vs1 ks res = some r) : Fn Tryd.prog GE 35 [rSl 4 (List.map eTApiCell v), rv (.func (.func 55) #[] #[(.pointer (some ⟨b_i1, 0, none⟩)), (.pointer (some ⟨b_vs1, 0, none⟩)), (.pointer (some ⟨b_ks, 0, none⟩)), (.pointer (some ⟨b_res, 0, none⟩))])] [.blk b_i1 [rI .i64 i1] 3, .blk b_vs1 [rv v_vs1_0] 44, .row v_vs1_0 22 1 (List.map eL_TApiCell vs1), .blk b_ks [rv v_ks_0] 46, .row v_ks_0 9 1 (List.map eS ks), .blk b_res [rI .i64 res] 3] (fun R H => ∃ w1_1_0 : Value, ∃ w1_2_0 : Value, R = rv (.tuple #[]) ∧ H = [.blk b_i1 [rI .i64 r.1] 3, .blk b_vs1 [rv w1_1_0] 44, .row w1_1_0 22 1 (List.map eL_TApiCell r.2.1), .blk b_ks [rv w1_2_0] 46, .row w1_2_0 9 1 (List.map eS r.2.2.1), .blk b_res [rI .i64 r.2.2.2] 3]) := by
 refine enter (n := 52) Tryd.func35 rfl Tryd.ntmps35 rfl (fun w Z => ?_)
 refine wc_as (l' := [(0, rSl 4 (List.map eTApiCell v)), (1, rv (.func (.func 55) #[] #[(.pointer (some ⟨b_i1, 0, none⟩)), (.pointer (some ⟨b_vs1, 0, none⟩)), (.pointer (some ⟨b_ks, 0, none⟩)), (.pointer (some ⟨b_res, 0, none⟩))]))]) (H' := [.blk b_i1 [rI .i64 i1] 3, .blk b_vs1 [rv v_vs1_0] 44, .row v_vs1_0 22 1 (List.map eL_TApiCell vs1), .blk b_ks [rv v_ks_0] 46, .row v_ks_0 9 1 (List.map eS ks), .blk b_res [rI .i64 res] 3]) rfl rfl ?_
 unfold vCmpQm at h
 refine wc_sr ?_
 refine wv (r := rI .i64 1) (o_assign rfl) ?_
 refine wl_y ?_
 refine wm rfl ?_
 obtain ⟨g1, h2⟩ := chk_e h
 refine wv (o_ix_z (enc := eTApiCell) (ys := v) Tryd.underlying22 Tryd.sizeOf40 rfl rfl g1) ?_
 refine wv (o_fieldAddr_z Tryd.underlying40 rfl Tryd.sizeOf3 rfl rfl) ?_
 refine wv (o_load_z Tryd.isAgg3 rfl rfl) ?_
 refine wv (r := rI .i64 0) (o_move rfl) ?_
 refine wl_x ?_
 refine wc_block ?_
 refine wc_perm (H2 := [.blk b_i1 [rI .i64 i1] 3, .blk b_vs1 [rv v_vs1_0] 44, .blk b_ks [rv v_ks_0] 46, .blk b_res [rI .i64 res] 3, .row v_vs1_0 22 1 (List.map eL_TApiCell vs1), .row v_ks_0 9 1 (List.map eS ks)]) ((perm_front (i := 0) rfl).trans (List.Perm.cons _ ((perm_front (i := 0) rfl).trans (List.Perm.cons _ ((perm_front (i := 1) rfl).trans (List.Perm.cons _ ((perm_front (i := 2) rfl).trans (List.Perm.cons _ (List.Perm.refl _))))))))) ?_
 obtain ⟨o181, eo182, hK183⟩ := obn_e h2
 refine wc_loop2 (S := Nat × (Int × Int × Int × (List (List TApiCell)) × (List Str) × Int) × (Value × Value)) (V := (Int × (List (List TApiCell)) × (List Str) × Int) × (Value × Value)) 0 (fun σ => lop (fun σ => vCmpQ_b1 F v rec_vCmpG σ.1 σ.2.1 σ.2.2.1 σ.2.2.2.1 σ.2.2.2.2.1 σ.2.2.2.2.2) σ.1 σ.2.1 = some o181) (fun σ => [(0, rSl 4 (List.map eTApiCell v)), (1, rv (.func (.func 55) #[] #[(.pointer (some ⟨b_i1, 0, none⟩)), (.pointer (some ⟨b_vs1, 0, none⟩)), (.pointer (some ⟨b_ks, 0, none⟩)), (.pointer (some ⟨b_res, 0, none⟩))])), (4, rI .i64 σ.2.1.1), (12, rI .i64 ((at' v 0).fN)), (13, rI .i64 σ.2.1.2.1)]) (fun σ => [.blk b_i1 [rI .i64 σ.2.1.2.2.1] 3, .blk b_vs1 [rv σ.2.2.1] 44, .blk b_ks [rv σ.2.2.2] 46, .blk b_res [rI .i64 σ.2.1.2.2.2.2.2] 3, .row σ.2.2.1 22 1 (List.map eL_TApiCell σ.2.1.2.2.2.1), .row σ.2.2.2 9 1 (List.map eS σ.2.1.2.2.2.2.1)]) (fun σ => σ.1) (F, (1, 0, i1, vs1, ks, res), (v_vs1_0, v_ks_0)) eo182 (Sub.c5 rfl rfl rfl rfl rfl Sub.nil) (sC (sC (sC (sC (sC (sC sN)))))) (fun σ => vCmpQ_k1 σ.1.1 σ.1.2.1 σ.1.2.2.1 σ.1.2.2.2 = some r) (fun σ => []) (fun σ => [.blk b_i1 [rI .i64 σ.1.1] 3, .blk b_vs1 [rv σ.2.1] 44, .blk b_ks [rv σ.2.2] 46, .blk b_res [rI .i64 σ.1.2.2.2] 3, .row σ.2.1 22 1 (List.map eL_TApiCell σ.1.2.1), .row σ.2.2 9 1 (List.map eS σ.1.2.2.1)]) ?_ ?_
 ·rintro ⟨n189, ⟨x113, x114, x115, x116, x118, x120⟩, ⟨v117, v119⟩⟩ hi187
  refine wc_as (l' := [(0, rSl 4 (List.map eTApiCell v)), (1, rv (.func (.func 55) #[] #[(.pointer (some ⟨b_i1, 0, none⟩)), (.pointer (some ⟨b_vs1, 0, none⟩)), (.pointer (some ⟨b_ks, 0, none⟩)), (.pointer (some ⟨b_res, 0, none⟩))])), (4, rI .i64 x113), (12, rI .i64 ((at' v 0).fN)), (13, rI .i64 x114)]) (H' := [.blk b_i1 [rI .i64 x115] 3, .blk b_vs1 [rv v117] 44, .blk b_ks [rv v119] 46, .blk b_res [rI .i64 x120] 3, .row v117 22 1 (List.map eL_TApiCell x116), .row v119 9 1 (List.map eS x118)]) rfl rfl ?_
  obtain ⟨m186, rfl, t184, h188, ht185⟩ := lop_e hi187
  replace h188 : vCmpQ_b1 F v rec_vCmpG x113 x114 x115 x116 x118 x120 = some t184 := h188
  unfold vCmpQ_b1 at h188
  refine wc_sr ?_
  refine wv (o_lt rfl rfl) ?_
  refine wl_x ?_
  refine wc_seq ?_
  refine wc_cond (b := decide (x114 < ((at' v 0).fN))) rfl (fun c190 => ?_) (fun c190 => ?_)
  ·have h191 := cnd_t c190 h188
   refine wc_skip ?_
   refine wk_x ?_
   refine wc_seq ?_
   refine wc_block ?_
   refine wc_sr ?_
   refine wv (r := rS ([] : Str)) (o_assign rfl) ?_
   refine wl_x ?_
   refine wc_seq ?_
   refine wc_sr ?_
   refine wm rfl ?_
   refine wv (o_ix_z (enc := eTApiCell) (ys := v) Tryd.underlying22 Tryd.sizeOf40 rfl rfl g1) ?_
   refine wv (o_fieldAddr_z Tryd.underlying40 rfl Tryd.sizeOf38 rfl rfl) ?_
   refine wv (o_load_z Tryd.isAgg38 rfl rfl) ?_
   refine wv (o_eq rfl rfl) ?_
   refine wl_x ?_
   refine wc_cond (b := decide (((at' v 0).fKind) = 6)) rfl (fun c192 => ?_) (fun c192 => ?_)
   ·have h193 := cnd_t c192 h191
    refine wc_sr ?_
    refine wm rfl ?_
    refine wm rfl ?_
    obtain ⟨g194, h195⟩ := chk_e h193
    refine wv (o_ix_z (enc := eTApiCell) (ys := v) Tryd.underlying22 Tryd.sizeOf40 rfl rfl g194) ?_
    refine wv (o_fieldAddr_z Tryd.underlying40 rfl Tryd.sizeOf9 rfl rfl) ?_
    refine wv (o_load_z Tryd.isAgg9 rfl rfl) ?_
    refine wa rfl ?_
    refine wl_x ?_
    refine wc_region ?_
    refine wm rfl ?_
    obtain ⟨g196, h197⟩ := chk_e h195
    refine wv (o_add rfl rfl g196) ?_
    refine wa rfl ?_
    refine wl_y ?_
    refine wm rfl ?_
    refine wm rfl ?_
    obtain ⟨g198, h199⟩ := chk_e h197
    refine wv (r := rSl 4 (List.map eTApiCell (List.drop (Int.toNat (x113 + 1)) v))) (o_slice_zl Tryd.underlying22 Tryd.sizeOf40 rfl rfl g198) ?_
    obtain ⟨r200, e202, h201⟩ := obn_e h199
    refine wc0 Tryd.call27 (vLook_w F (List.drop (Int.toNat (x113 + 1)) v) r200 e202) rfl ?_
    refine wm rfl ?_
    refine wv (o_extract rfl rfl) ?_
    refine wv (o_extract rfl rfl) ?_
    refine wv (o_extract rfl rfl) ?_
    refine w_alloc (cs := [rI .i64 0, rI .i64 0, rB false, rB false]) Tryd.zeroValue55 rfl rfl (fun b203 => ?_)
    refine wa rfl ?_
    refine u_store_agg (i := 0) Tryd.sizeOf55 rfl rfl rfl (OneAll.c rfl) rfl rfl (cs' := [rI .i64 r200.2.1.fDepth, rI .i64 r200.2.1.fBytes, rB r200.2.1.fOutside, rB r200.2.1.fLong]) rfl (H' := [.blk b203 (eTValueShape r200.2.1) 55, .blk b_i1 [rI .i64 x115] 3, .blk b_vs1 [rv v117] 44, .blk b_ks [rv v119] 46, .blk b_res [rI .i64 x120] 3, .row v117 22 1 (List.map eL_TApiCell x116), .row v119 9 1 (List.map eS x118)]) rfl ?_
    refine wa rfl ?_
    refine wl_x ?_
    refine wc_seq ?_
    refine wc_sr ?_
    refine wm rfl ?_
    refine wm rfl ?_
    refine wm rfl ?_
    refine wm rfl ?_
    refine wm rfl ?_
    refine wm rfl ?_
    obtain ⟨g204, h205⟩ := chk_e h201
    refine wv (o_add rfl rfl g204) ?_
    refine wm rfl ?_
    refine wm rfl ?_
    refine wv (o_add rfl rfl g204) ?_
    obtain ⟨g206, h207⟩ := chk_e h205
    obtain ⟨g208, h209⟩ := chk_e h207
    refine wv (r := rSl 4 (List.map eTApiCell (List.take (Int.toNat ((x113 + 1) + r200.1) - Int.toNat (x113 + 1)) (List.drop (Int.toNat (x113 + 1)) v)))) (o_slice_zm Tryd.underlying22 Tryd.sizeOf40 rfl rfl rfl rfl g206 g208) ?_
    obtain ⟨r210, e212, h211⟩ := obn_e h209
    refine w_callc (rs := [rS ((at' v x113).fStr), rSl 4 (List.map eTApiCell (List.take (Int.toNat ((x113 + 1) + r200.1) - Int.toNat (x113 + 1)) (List.drop (Int.toNat (x113 + 1)) v)))]) (Hin := [.blk b_i1 [rI .i64 x115] 3, .blk b_vs1 [rv v117] 44, .row v117 22 1 (List.map eL_TApiCell x116), .blk b_ks [rv v119] 46, .row v119 9 1 (List.map eS x118), .blk b_res [rI .i64 x120] 3]) (Hr := [.blk b203 (eTValueShape r200.2.1) 55]) Tryd.call55 rfl rfl ((perm_front (i := 1) rfl).trans (List.Perm.cons _ ((perm_front (i := 1) rfl).trans (List.Perm.cons _ ((perm_front (i := 3) rfl).trans (List.Perm.cons _ ((perm_front (i := 1) rfl).trans (List.Perm.cons _ ((perm_front (i := 2) rfl).trans (List.Perm.cons _ ((perm_front (i := 1) rfl).trans (List.Perm.cons _ (List.Perm.refl _))))))))))))) (ih_vCmpG b_i1 b_vs1 v117 b_ks v119 b_res ((at' v x113).fStr) (List.take (Int.toNat ((x113 + 1) + r200.1) - Int.toNat (x113 + 1)) (List.drop (Int.toNat (x113 + 1)) v)) x115 x116 x118 x120 r210 e212) rfl ?_
    rintro _ _ ⟨v213, v214, rfl, rfl⟩
    refine wv (o_not rfl) ?_
    refine wl_x ?_
    refine wc_cond (b := !r210.1) rfl (fun c215 => ?_) (fun c215 => ?_)
    ·have h216 := cnd_t c215 h211
     refine wc_ret ?_
     refine wk_then_ret ?_
     refine wk_in_ret ?_
     refine wk_then_ret ?_
     refine wk_then_ret ?_
     refine wk_cut_ret ?_
     have h217 := stp_ret h216 ht185 hK183
     refine wk_in_ret ?_
     obtain rfl := some_e h217
     exact wk_ret (r_0 Tryd.results35) (sC (sC (sC (sC (sC (sC (sS sN))))))) ⟨v213, v214, rfl, rfl⟩
    ·have h218 := cnd_f c215 h211
     refine wc_skip ?_
     refine wk_x ?_
     refine wc_region ?_
     refine wm rfl ?_
     refine wm rfl ?_
     refine wv (o_add rfl rfl g204) ?_
     refine wa rfl ?_
     refine wl_nil ?_
     refine wk_in_norm ?_
     refine wk_x ?_
     refine wc_region ?_
     obtain ⟨g219, h220⟩ := chk_e h218
     refine wv (o_add rfl rfl g219) ?_
     refine wm rfl ?_
     refine wl_nil ?_
     refine wk_perm (H2 := [.blk b_i1 [rI .i64 r210.2.1] 3, .blk b_vs1 [rv v213] 44, .blk b_ks [rv v214] 46, .blk b_res [rI .i64 r210.2.2.2.2] 3, .row v213 22 1 (List.map eL_TApiCell r210.2.2.1), .row v214 9 1 (List.map eS r210.2.2.2.1), .blk b203 (eTValueShape r200.2.1) 55]) ((perm_front (i := 0) rfl).trans (List.Perm.cons _ ((perm_front (i := 0) rfl).trans (List.Perm.cons _ ((perm_front (i := 1) rfl).trans (List.Perm.cons _ ((perm_front (i := 2) rfl).trans (List.Perm.cons _ (List.Perm.refl _))))))))) ?_
     have h221 := stp_next h220 ht185
     exact wk_then (wk_some (m186, ((x113 + 1) + r200.1, x114 + 1, r210.2.1, r210.2.2.1, r210.2.2.2.1, r210.2.2.2.2), (v213, v214)) ⟨h221, Nat.lt_succ_self _⟩ (Sub.c5 rfl rfl rfl rfl rfl Sub.nil) (sC (sC (sC (sC (sC (sC (sS sN))))))))
   ·have h222 := cnd_f c192 h191
    refine wc_skip ?_
    refine wk_x ?_
    refine wc_sr ?_
    refine wm rfl ?_
    refine wm rfl ?_
    obtain ⟨g223, h224⟩ := chk_e h222
    refine wv (r := rSl 4 (List.map eTApiCell (List.drop (Int.toNat x113) v))) (o_slice_zl Tryd.underlying22 Tryd.sizeOf40 rfl rfl g223) ?_
    obtain ⟨r225, e227, h226⟩ := obn_e h224
    refine wc0 Tryd.call27 (vLook_w F (List.drop (Int.toNat x113) v) r225 e227) rfl ?_
    refine wm rfl ?_
    refine wv (o_extract rfl rfl) ?_
    refine wv (o_extract rfl rfl) ?_
    refine wv (o_extract rfl rfl) ?_
    refine w_alloc (cs := [rI .i64 0, rI .i64 0, rB false, rB false]) Tryd.zeroValue55 rfl rfl (fun b228 => ?_)
    refine wa rfl ?_
    refine u_store_agg (i := 0) Tryd.sizeOf55 rfl rfl rfl (OneAll.c rfl) rfl rfl (cs' := [rI .i64 r225.2.1.fDepth, rI .i64 r225.2.1.fBytes, rB r225.2.1.fOutside, rB r225.2.1.fLong]) rfl (H' := [.blk b228 (eTValueShape r225.2.1) 55, .blk b_i1 [rI .i64 x115] 3, .blk b_vs1 [rv v117] 44, .blk b_ks [rv v119] 46, .blk b_res [rI .i64 x120] 3, .row v117 22 1 (List.map eL_TApiCell x116), .row v119 9 1 (List.map eS x118)]) rfl ?_
    refine wa rfl ?_
    refine wl_x ?_
    refine wc_seq ?_
    refine wc_sr ?_
    refine wm rfl ?_
    refine wm rfl ?_
    refine wm rfl ?_
    refine wm rfl ?_
    refine wm rfl ?_
    refine wm rfl ?_
    obtain ⟨g229, h230⟩ := chk_e h226
    refine wv (o_add rfl rfl g229) ?_
    refine wm rfl ?_
    refine wm rfl ?_
    refine wv (o_add rfl rfl g229) ?_
    obtain ⟨g231, h232⟩ := chk_e h230
    obtain ⟨g233, h234⟩ := chk_e h232
    refine wv (r := rSl 4 (List.map eTApiCell (List.take (Int.toNat (x113 + r225.1) - Int.toNat x113) (List.drop (Int.toNat x113) v)))) (o_slice_zm Tryd.underlying22 Tryd.sizeOf40 rfl rfl rfl rfl g231 g233) ?_
    obtain ⟨r235, e237, h236⟩ := obn_e h234
    refine w_callc (rs := [rS ([] : Str), rSl 4 (List.map eTApiCell (List.take (Int.toNat (x113 + r225.1) - Int.toNat x113) (List.drop (Int.toNat x113) v)))]) (Hin := [.blk b_i1 [rI .i64 x115] 3, .blk b_vs1 [rv v117] 44, .row v117 22 1 (List.map eL_TApiCell x116), .blk b_ks [rv v119] 46, .row v119 9 1 (List.map eS x118), .blk b_res [rI .i64 x120] 3]) (Hr := [.blk b228 (eTValueShape r225.2.1) 55]) Tryd.call55 rfl rfl ((perm_front (i := 1) rfl).trans (List.Perm.cons _ ((perm_front (i := 1) rfl).trans (List.Perm.cons _ ((perm_front (i := 3) rfl).trans (List.Perm.cons _ ((perm_front (i := 1) rfl).trans (List.Perm.cons _ ((perm_front (i := 2) rfl).trans (List.Perm.cons _ ((perm_front (i := 1) rfl).trans (List.Perm.cons _ (List.Perm.refl _))))))))))))) (ih_vCmpG b_i1 b_vs1 v117 b_ks v119 b_res ([] : Str) (List.take (Int.toNat (x113 + r225.1) - Int.toNat x113) (List.drop (Int.toNat x113) v)) x115 x116 x118 x120 r235 e237) rfl ?_
    rintro _ _ ⟨v238, v239, rfl, rfl⟩
    refine wv (o_not rfl) ?_
    refine wl_x ?_
    refine wc_cond (b := !r235.1) rfl (fun c240 => ?_) (fun c240 => ?_)
    ·have h241 := cnd_t c240 h236
     refine wc_ret ?_
     refine wk_then_ret ?_
     refine wk_in_ret ?_
     refine wk_then_ret ?_
     refine wk_then_ret ?_
     refine wk_cut_ret ?_
     have h242 := stp_ret h241 ht185 hK183
     refine wk_in_ret ?_
     obtain rfl := some_e h242
     exact wk_ret (r_0 Tryd.results35) (sC (sC (sC (sC (sC (sC (sS sN))))))) ⟨v238, v239, rfl, rfl⟩
    ·have h243 := cnd_f c240 h236
     refine wc_skip ?_
     refine wk_x ?_
     refine wc_region ?_
     refine wm rfl ?_
     refine wm rfl ?_
     refine wv (o_add rfl rfl g229) ?_
     refine wa rfl ?_
     refine wl_nil ?_
     refine wk_in_norm ?_
     refine wk_x ?_
     refine wc_region ?_
     obtain ⟨g244, h245⟩ := chk_e h243
     refine wv (o_add rfl rfl g244) ?_
     refine wm rfl ?_
     refine wl_nil ?_
     refine wk_perm (H2 := [.blk b_i1 [rI .i64 r235.2.1] 3, .blk b_vs1 [rv v238] 44, .blk b_ks [rv v239] 46, .blk b_res [rI .i64 r235.2.2.2.2] 3, .row v238 22 1 (List.map eL_TApiCell r235.2.2.1), .row v239 9 1 (List.map eS r235.2.2.2.1), .blk b228 (eTValueShape r225.2.1) 55]) ((perm_front (i := 0) rfl).trans (List.Perm.cons _ ((perm_front (i := 0) rfl).trans (List.Perm.cons _ ((perm_front (i := 1) rfl).trans (List.Perm.cons _ ((perm_front (i := 2) rfl).trans (List.Perm.cons _ (List.Perm.refl _))))))))) ?_
     have h246 := stp_next h245 ht185
     exact wk_then (wk_some (m186, (x113 + r225.1, x114 + 1, r235.2.1, r235.2.2.1, r235.2.2.2.1, r235.2.2.2.2), (v238, v239)) ⟨h246, Nat.lt_succ_self _⟩ (Sub.c5 rfl rfl rfl rfl rfl Sub.nil) (sC (sC (sC (sC (sC (sC (sS sN))))))))
  ·have h247 := cnd_f c190 h188
   refine wc_exit ?_
   refine wk_then_exit ?_
   have h248 := stp_go h247 ht185 hK183
   exact wk_then_exit (wk_cut_hit (wk_some ((x115, x116, x118, x120), (v117, v119)) h248 Sub.nil (sC (sC (sC (sC (sC (sC sN))))))))
 ·rintro ⟨⟨x175, x176, x178, x180⟩, ⟨v177, v179⟩⟩ h249
  refine wk_as (l' := []) (H' := [.blk b_i1 [rI .i64 x175] 3, .blk b_vs1 [rv v177] 44, .blk b_ks [rv v179] 46, .blk b_res [rI .i64 x180] 3, .row v177 22 1 (List.map eL_TApiCell x176), .row v179 9 1 (List.map eS x178)]) rfl rfl ?_
  replace h249 : vCmpQ_k1 x175 x176 x178 x180 = some r := h249
  unfold vCmpQ_k1 at h249
  refine wk_in_hit ?_
  refine wk_perm (H2 := [.blk b_i1 [rI .i64 x175] 3, .blk b_vs1 [rv v177] 44, .row v177 22 1 (List.map eL_TApiCell x176), .blk b_ks [rv v179] 46, .row v179 9 1 (List.map eS x178), .blk b_res [rI .i64 x180] 3]) ((perm_front (i := 0) rfl).trans (List.Perm.cons _ ((perm_front (i := 0) rfl).trans (List.Perm.cons _ ((perm_front (i := 2) rfl).trans (List.Perm.cons _ ((perm_front (i := 0) rfl).trans (List.Perm.cons _ ((perm_front (i := 1) rfl).trans (List.Perm.cons _ (List.Perm.refl _))))))))))) ?_
  obtain rfl := some_e h249
  exact wk_end (r_0 Tryd.results35) (sC (sC (sC (sC (sC (sC sN)))))) ⟨v177, v179, rfl, rfl⟩

theorem vCompare_all : ∀ F : Nat, (∀ (a : (List TApiCell)) (b : (List TApiCell)) (r : Int), vCompare F a b = some r → Fn Tryd.prog GE 30 [rSl 4 (List.map eTApiCell a), rSl 4 (List.map eTApiCell b)] [] (fun R H => R = rI .i64 r ∧ H = [])) ∧ (∀ (b_i1 : Nat) (b_vs1 : Nat) (v_vs1_0 : Value) (b_ks : Nat) (v_ks_0 : Value) (b_res : Nat) (key : Str) (x : (List TApiCell)) (i1 : Int) (vs1 : (List (List TApiCell))) (ks : (List Str)) (res : Int) (r : Bool × Int × (List (List TApiCell)) × (List Str) × Int), vCmpG F key x i1 vs1 ks res = some r → Fn Tryd.prog GE 55 [rS key, rSl 4 (List.map eTApiCell x), rv (.pointer (some ⟨b_i1, 0, none⟩)), rv (.pointer (some ⟨b_vs1, 0, none⟩)), rv (.pointer (some ⟨b_ks, 0, none⟩)), rv (.pointer (some ⟨b_res, 0, none⟩))] [.blk b_i1 [rI .i64 i1] 3, .blk b_vs1 [rv v_vs1_0] 44, .row v_vs1_0 22 1 (List.map eL_TApiCell vs1), .blk b_ks [rv v_ks_0] 46, .row v_ks_0 9 1 (List.map eS ks), .blk b_res [rI .i64 res] 3] (fun R H => ∃ w3_0 : Value, ∃ w4_0 : Value, R = rB r.1 ∧ H = [.blk b_i1 [rI .i64 r.2.1] 3, .blk b_vs1 [rv w3_0] 44, .row w3_0 22 1 (List.map eL_TApiCell r.2.2.1), .blk b_ks [rv w4_0] 46, .row w4_0 9 1 (List.map eS r.2.2.2.1), .blk b_res [rI .i64 r.2.2.2.2] 3])) ∧ (∀ (b_i1 : Nat) (b_vs1 : Nat) (v_vs1_0 : Value) (b_ks : Nat) (v_ks_0 : Value) (b_res : Nat) (v : (List TApiCell)) (i1 : Int) (vs1 : (List (List TApiCell))) (ks : (List Str)) (res : Int) (r : Int × (List (List TApiCell)) × (List Str) × Int), vCmpQ F v i1 vs1 ks res = some r → Fn Tryd.prog GE 35 [rSl 4 (List.map eTApiCell v), rv (.func (.func 55) #[] #[(.pointer (some ⟨b_i1, 0, none⟩)), (.pointer (some ⟨b_vs1, 0, none⟩)), (.pointer (some ⟨b_ks, 0, none⟩)), (.pointer (some ⟨b_res, 0, none⟩))])] [.blk b_i1 [rI .i64 i1] 3, .blk b_vs1 [rv v_vs1_0] 44, .row v_vs1_0 22 1 (List.map eL_TApiCell vs1), .blk b_ks [rv v_ks_0] 46, .row v_ks_0 9 1 (List.map eS ks), .blk b_res [rI .i64 res] 3] (fun R H => ∃ w1_1_0 : Value, ∃ w1_2_0 : Value, R = rv (.tuple #[]) ∧ H = [.blk b_i1 [rI .i64 r.1] 3, .blk b_vs1 [rv w1_1_0] 44, .row w1_1_0 22 1 (List.map eL_TApiCell r.2.1), .blk b_ks [rv w1_2_0] 46, .row w1_2_0 9 1 (List.map eS r.2.2.1), .blk b_res [rI .i64 r.2.2.2] 3]))
  | 0 => ⟨(fun _ _ _ h => by simp [vCompare] at h), (fun _ _ _ _ _ _ _ _ _ _ _ _ _ h => by simp [vCmpG] at h), (fun _ _ _ _ _ _ _ _ _ _ _ _ h => by simp [vCmpQ] at h)⟩
  | nn + 1 => ⟨(fun a b r h => vComparem_w nn (vCmpG nn) (vCmpQ nn) (vCompare_all nn).2.1 (vCompare_all nn).2.2 a b r (by rw [vCompare] at h; exact h)), (fun b_i1 b_vs1 v_vs1_0 b_ks v_ks_0 b_res key x i1 vs1 ks res r h => vCmpGm_w nn (vCompare nn) (vCompare_all nn).1 b_i1 b_vs1 v_vs1_0 b_ks v_ks_0 b_res key x i1 vs1 ks res r (by rw [vCmpG] at h; exact h)), (fun b_i1 b_vs1 v_vs1_0 b_ks v_ks_0 b_res v i1 vs1 ks res r h => vCmpQm_w nn (vCmpG nn) (vCompare_all nn).2.1 b_i1 b_vs1 v_vs1_0 b_ks v_ks_0 b_res v i1 vs1 ks res r (by rw [vCmpQ] at h; exact h))⟩

theorem vCompare_w (F : Nat) (a : (List TApiCell)) (b : (List TApiCell)) (r : Int) (h : vCompare F a b = some r) : Fn Tryd.prog GE 30 [rSl 4 (List.map eTApiCell a), rSl 4 (List.map eTApiCell b)] [] (fun R H => R = rI .i64 r ∧ H = []) := (vCompare_all F).1 a b r h

theorem vCmp_w (F : Nat) (a : (List TApiCell)) (b : (List TApiCell)) (r : Int) (h : vCmp F a b = some r) : Fn Tryd.prog GE 14 [rSl 4 (List.map eTApiCell a), rSl 4 (List.map eTApiCell b)] [] (fun R H => R = rI .i64 r ∧ H = []) := by
 refine enter (n := 16) Tryd.func14 rfl Tryd.ntmps14 rfl (fun w Z => ?_)
 refine wc_as (l' := [(0, rSl 4 (List.map eTApiCell a)), (1, rSl 4 (List.map eTApiCell b))]) (H' := []) rfl rfl ?_
 unfold vCmp at h
 refine wc_sr ?_
 refine wv (r := rI .i64 0) (o_assign rfl) ?_
 refine wl_x ?_
 refine wc_seq ?_
 obtain ⟨g1, h2⟩ := chk_e h
 obtain ⟨g3, h4⟩ := chk_e h2
 refine wc_seq_mid [(0, rSl 4 (List.map eTApiCell a)), (1, rSl 4 (List.map eTApiCell b)), (12, rB ((!decide ((ov (vCheck F a)) = 0)) || (!decide ((ov (vCheck F b)) = 0))))] [] ?_ ?_
 ·refine wc_region ?_
  refine wm rfl ?_
  refine wc0 Tryd.call10 (vCheck_w F a (ov (vCheck F a)) (ov_e g1)) rfl ?_
  refine wv (o_ne rfl rfl) ?_
  refine wm rfl ?_
  refine bsplit (!decide ((ov (vCheck F a)) = 0)) (fun c5 => ?_) (fun c5 => ?_)
  ·refine wf c5 ?_
   refine wf c5 ?_
   refine wf c5 ?_
   refine wv (r := rB true) (o_pick_t (b := !decide ((ov (vCheck F a)) = 0)) rfl c5 rfl) ?_
   refine wl_nil ?_
   exact wtc c5
  ·refine wo c5 ?_
   refine wm rfl ?_
   refine wo c5 ?_
   refine wc0 Tryd.call10 (vCheck_w F b (ov (vCheck F b)) (ov_e (imp_f g3 c5))) rfl ?_
   refine wo c5 ?_
   refine wv (o_ne rfl rfl) ?_
   refine wpf rfl c5 rfl ?_
   refine wl_nil ?_
   exact wtc c5
 refine wc_cond (b := ((!decide ((ov (vCheck F a)) = 0)) || (!decide ((ov (vCheck F b)) = 0)))) rfl (fun c6 => ?_) (fun c6 => ?_)
 ·have h7 := cnd_t c6 h4
  refine wc_sr ?_
  refine wv (r := rI .i64 0) (o_assign rfl) ?_
  refine wl_x ?_
  refine wc_ret ?_
  refine wk_then_ret ?_
  obtain rfl := some_e h7
  exact wk_ret (r_1 Tryd.results14 (rv_t rfl)) sN ⟨rfl, rfl⟩
 ·have h8 := cnd_f c6 h4
  refine wc_skip ?_
  refine wk_x ?_
  refine wc_sr ?_
  refine wm rfl ?_
  refine wm rfl ?_
  obtain ⟨r9, e11, h10⟩ := obn_e h8
  refine wc0 Tryd.call30 (vCompare_w F a b r9 e11) rfl ?_
  refine wa rfl ?_
  refine wl_x ?_
  refine wc_ret ?_
  obtain rfl := some_e h10
  exact wk_ret (r_1 Tryd.results14 (rv_t rfl)) sN ⟨rfl, rfl⟩

theorem lOrders_w (F : Nat) (a : (List TApiCell)) (b : (List TApiCell)) (c : (List TApiCell)) (r : Bool) (h : lOrders F a b c = some r) : Fn Tryd.prog GE 4 [rSl 4 (List.map eTApiCell a), rSl 4 (List.map eTApiCell b), rSl 4 (List.map eTApiCell c)] [] (fun R H => R = rB r ∧ H = []) := by
 refine enter (n := 102) Tryd.func4 rfl Tryd.ntmps4 rfl (fun w Z => ?_)
 refine wc_as (l' := [(0, rSl 4 (List.map eTApiCell a)), (1, rSl 4 (List.map eTApiCell b)), (2, rSl 4 (List.map eTApiCell c))]) (H' := []) rfl rfl ?_
 unfold lOrders at h
 refine wc_sr ?_
 refine wv (r := rB false) (o_assign rfl) ?_
 refine wl_x ?_
 refine wc_seq ?_
 obtain ⟨g1, h2⟩ := chk_e h
 obtain ⟨g3, h4⟩ := chk_e h2
 obtain ⟨g5, h6⟩ := chk_e h4
 refine wc_seq_mid [(0, rSl 4 (List.map eTApiCell a)), (1, rSl 4 (List.map eTApiCell b)), (2, rSl 4 (List.map eTApiCell c)), (22, rB ((!(ov (lSmall F a))) || ((!(ov (lSmall F b))) || (!(ov (lSmall F c))))))] [] ?_ ?_
 ·refine wc_region ?_
  refine wm rfl ?_
  refine wc0 Tryd.call6 (lSmall_w F a (ov (lSmall F a)) (ov_e g1)) rfl ?_
  refine wv (o_not rfl) ?_
  refine wm rfl ?_
  refine bsplit (!(ov (lSmall F a))) (fun c7 => ?_) (fun c7 => ?_)
  ·refine wf c7 ?_
   refine wf c7 ?_
   refine wf c7 ?_
   refine wv (r := rB true) (o_pick_t (b := !(ov (lSmall F a))) rfl c7 rfl) ?_
   refine wm rfl ?_
   refine wl_off (b := true) rfl rfl rfl rfl ?_
   refine wl_off (b := true) rfl rfl rfl rfl ?_
   refine wl_off (b := true) rfl rfl rfl rfl ?_
   refine wv (r := rB true) (o_pick_t (b := true) rfl rfl rfl) ?_
   refine wl_nil ?_
   exact wtc c7
  ·refine wo c7 ?_
   refine wm rfl ?_
   refine wo c7 ?_
   refine wc0 Tryd.call6 (lSmall_w F b (ov (lSmall F b)) (ov_e (imp_f g3 c7))) rfl ?_
   refine wo c7 ?_
   refine wv (o_not rfl) ?_
   refine wpf rfl c7 rfl ?_
   refine wm rfl ?_
   refine bsplit (!(ov (lSmall F b))) (fun c8 => ?_) (fun c8 => ?_)
   ·refine wf c8 ?_
    refine wf c8 ?_
    refine wf c8 ?_
    refine wv (r := rB true) (o_pick_t (b := !(ov (lSmall F b))) rfl c8 rfl) ?_
    refine wl_nil ?_
    exact wtc (And.intro c7 c8)
   ·refine wo c8 ?_
    refine wm rfl ?_
    refine wo c8 ?_
    refine wc0 Tryd.call6 (lSmall_w F c (ov (lSmall F c)) (ov_e (imp_f (imp_f g5 c7) c8))) rfl ?_
    refine wo c8 ?_
    refine wv (o_not rfl) ?_
    refine wpf rfl c8 rfl ?_
    refine wl_nil ?_
    exact wtc (And.intro c7 c8)
 refine wc_cond (b := ((!(ov (lSmall F a))) || ((!(ov (lSmall F b))) || (!(ov (lSmall F c)))))) rfl (fun c9 => ?_) (fun c9 => ?_)
 ·have h10 := cnd_t c9 h6
  refine wc_sr ?_
  obtain ⟨r11, e13, h12⟩ := obn_e h10
  refine wc0 Tryd.call7 (lAwake_w F r11 e13) rfl ?_
  refine wa rfl ?_
  refine wl_x ?_
  refine wc_ret ?_
  refine wk_then_ret ?_
  obtain rfl := some_e h12
  exact wk_ret (r_1 Tryd.results4 (rv_t rfl)) sN ⟨rfl, rfl⟩
 ·have h14 := cnd_f c9 h6
  refine wc_skip ?_
  refine wk_x ?_
  refine wc_seq ?_
  obtain ⟨g15, h16⟩ := chk_e h14
  obtain ⟨g17, h18⟩ := chk_e h16
  obtain ⟨g19, h20⟩ := chk_e h18
  refine wc_seq_mid [(0, rSl 4 (List.map eTApiCell a)), (1, rSl 4 (List.map eTApiCell b)), (2, rSl 4 (List.map eTApiCell c)), (36, rB ((!decide ((ov (vCheck F a)) = 0)) || ((!decide ((ov (vCheck F b)) = 0)) || (!decide ((ov (vCheck F c)) = 0)))))] [] ?_ ?_
  ·refine wc_region ?_
   refine wm rfl ?_
   refine wc0 Tryd.call10 (vCheck_w F a (ov (vCheck F a)) (ov_e g15)) rfl ?_
   refine wv (o_ne rfl rfl) ?_
   refine wm rfl ?_
   refine bsplit (!decide ((ov (vCheck F a)) = 0)) (fun c21 => ?_) (fun c21 => ?_)
   ·refine wf c21 ?_
    refine wf c21 ?_
    refine wf c21 ?_
    refine wv (r := rB true) (o_pick_t (b := !decide ((ov (vCheck F a)) = 0)) rfl c21 rfl) ?_
    refine wm rfl ?_
    refine wl_off (b := true) rfl rfl rfl rfl ?_
    refine wl_off (b := true) rfl rfl rfl rfl ?_
    refine wl_off (b := true) rfl rfl rfl rfl ?_
    refine wv (r := rB true) (o_pick_t (b := true) rfl rfl rfl) ?_
    refine wl_nil ?_
    exact wtc c21
   ·refine wo c21 ?_
    refine wm rfl ?_
    refine wo c21 ?_
    refine wc0 Tryd.call10 (vCheck_w F b (ov (vCheck F b)) (ov_e (imp_f g17 c21))) rfl ?_
    refine wo c21 ?_
    refine wv (o_ne rfl rfl) ?_
    refine wpf rfl c21 rfl ?_
    refine wm rfl ?_
    refine bsplit (!decide ((ov (vCheck F b)) = 0)) (fun c22 => ?_) (fun c22 => ?_)
    ·refine wf c22 ?_
     refine wf c22 ?_
     refine wf c22 ?_
     refine wv (r := rB true) (o_pick_t (b := !decide ((ov (vCheck F b)) = 0)) rfl c22 rfl) ?_
     refine wl_nil ?_
     exact wtc (And.intro c21 c22)
    ·refine wo c22 ?_
     refine wm rfl ?_
     refine wo c22 ?_
     refine wc0 Tryd.call10 (vCheck_w F c (ov (vCheck F c)) (ov_e (imp_f (imp_f g19 c21) c22))) rfl ?_
     refine wo c22 ?_
     refine wv (o_ne rfl rfl) ?_
     refine wpf rfl c22 rfl ?_
     refine wl_nil ?_
     exact wtc (And.intro c21 c22)
  refine wc_cond (b := ((!decide ((ov (vCheck F a)) = 0)) || ((!decide ((ov (vCheck F b)) = 0)) || (!decide ((ov (vCheck F c)) = 0))))) rfl (fun c23 => ?_) (fun c23 => ?_)
  ·have h24 := cnd_t c23 h20
   refine wc_sr ?_
   obtain ⟨r25, e27, h26⟩ := obn_e h24
   refine wc0 Tryd.call7 (lAwake_w F r25 e27) rfl ?_
   refine wa rfl ?_
   refine wl_x ?_
   refine wc_ret ?_
   refine wk_then_ret ?_
   obtain rfl := some_e h26
   exact wk_ret (r_1 Tryd.results4 (rv_t rfl)) sN ⟨rfl, rfl⟩
  ·have h28 := cnd_f c23 h20
   refine wc_skip ?_
   refine wk_x ?_
   refine wc_sr ?_
   refine wm rfl ?_
   refine wm rfl ?_
   obtain ⟨r29, e31, h30⟩ := obn_e h28
   refine wc0 Tryd.call14 (vCmp_w F a b r29 e31) rfl ?_
   refine wm rfl ?_
   refine wm rfl ?_
   obtain ⟨r32, e34, h33⟩ := obn_e h30
   refine wc0 Tryd.call14 (vCmp_w F b c r32 e34) rfl ?_
   refine wm rfl ?_
   refine wm rfl ?_
   obtain ⟨r35, e37, h36⟩ := obn_e h33
   refine wc0 Tryd.call14 (vCmp_w F a c r35 e37) rfl ?_
   refine wa rfl ?_
   refine wa rfl ?_
   refine wa rfl ?_
   refine wl_x ?_
   refine wc_seq ?_
   obtain ⟨g38, h39⟩ := chk_e h36
   obtain ⟨g40, h41⟩ := chk_e h39
   obtain ⟨g42, h43⟩ := chk_e h41
   refine wc_seq_mid [(7, rI .i64 r29), (8, rI .i64 r32), (9, rI .i64 r35), (68, rB ((!decide ((ov (vCmp F b a)) = (-r29))) || ((!((decide (r29 = 0)) == (ov (vSame F a b)))) || ((decide (r29 < (-1))) || (decide (1 < r29))))))] [] ?_ ?_
   ·refine wc_region ?_
    refine wm rfl ?_
    refine wm rfl ?_
    refine wc0 Tryd.call14 (vCmp_w F b a (ov (vCmp F b a)) (ov_e g38)) rfl ?_
    refine wm rfl ?_
    refine wv (o_neg rfl g40) ?_
    refine wv (o_ne rfl rfl) ?_
    refine wm rfl ?_
    refine bsplit (!decide ((ov (vCmp F b a)) = (-r29))) (fun c44 => ?_) (fun c44 => ?_)
    ·refine wf c44 ?_
     refine wf c44 ?_
     refine wf c44 ?_
     refine wf c44 ?_
     refine wf c44 ?_
     refine wf c44 ?_
     refine wv (r := rB true) (o_pick_t (b := !decide ((ov (vCmp F b a)) = (-r29))) rfl c44 rfl) ?_
     refine wm rfl ?_
     refine wl_off (b := true) rfl rfl rfl rfl ?_
     refine wl_off (b := true) rfl rfl rfl rfl ?_
     refine wv (r := rB true) (o_pick_t (b := true) rfl rfl rfl) ?_
     refine wm rfl ?_
     refine wl_off (b := true) rfl rfl rfl rfl ?_
     refine wl_off (b := true) rfl rfl rfl rfl ?_
     refine wv (r := rB true) (o_pick_t (b := true) rfl rfl rfl) ?_
     refine wl_nil ?_
     exact wtc c44
    ·refine wo c44 ?_
     refine wm rfl ?_
     refine wo c44 ?_
     refine wv (o_eq rfl rfl) ?_
     refine wo c44 ?_
     refine wm rfl ?_
     refine wo c44 ?_
     refine wm rfl ?_
     refine wo c44 ?_
     refine wc0 Tryd.call15 (vSame_w F a b (ov (vSame F a b)) (ov_e (imp_f g42 c44))) rfl ?_
     refine wo c44 ?_
     refine wv (r := rB (!((decide (r29 = 0)) == (ov (vSame F a b))))) (o_bne Tryd.underlying4 rfl rfl) ?_
     refine wpf rfl c44 rfl ?_
     refine wm rfl ?_
     refine bsplit (!((decide (r29 = 0)) == (ov (vSame F a b)))) (fun c45 => ?_) (fun c45 => ?_)
     ·refine wf c45 ?_
      refine wf c45 ?_
      refine wv (r := rB true) (o_pick_t (b := !((decide (r29 = 0)) == (ov (vSame F a b)))) rfl c45 rfl) ?_
      refine wm rfl ?_
      refine wl_off (b := true) rfl rfl rfl rfl ?_
      refine wl_off (b := true) rfl rfl rfl rfl ?_
      refine wv (r := rB true) (o_pick_t (b := true) rfl rfl rfl) ?_
      refine wl_nil ?_
      exact wtc (And.intro c44 c45)
     ·refine wo c45 ?_
      refine wm rfl ?_
      refine wo c45 ?_
      refine wv (o_lt rfl rfl) ?_
      refine wpf rfl c45 rfl ?_
      refine wm rfl ?_
      refine bsplit (decide (r29 < (-1))) (fun c46 => ?_) (fun c46 => ?_)
      ·refine wf c46 ?_
       refine wf c46 ?_
       refine wv (r := rB true) (o_pick_t (b := decide (r29 < (-1))) rfl c46 rfl) ?_
       refine wl_nil ?_
       exact wtc (And.intro c44 (And.intro c45 c46))
      ·refine wo c46 ?_
       refine wm rfl ?_
       refine wo c46 ?_
       refine wv (o_gt rfl rfl) ?_
       refine wpf rfl c46 rfl ?_
       refine wl_nil ?_
       exact wtc (And.intro c44 (And.intro c45 c46))
   refine wc_cond (b := ((!decide ((ov (vCmp F b a)) = (-r29))) || ((!((decide (r29 = 0)) == (ov (vSame F a b)))) || ((decide (r29 < (-1))) || (decide (1 < r29)))))) rfl (fun c47 => ?_) (fun c47 => ?_)
   ·have h48 := cnd_t c47 h43
    refine wc_sr ?_
    refine wv (r := rB false) (o_assign rfl) ?_
    refine wl_x ?_
    refine wc_ret ?_
    refine wk_then_ret ?_
    obtain rfl := some_e h48
    exact wk_ret (r_1 Tryd.results4 (rv_t rfl)) sN ⟨rfl, rfl⟩
   ·have h49 := cnd_f c47 h43
    refine wc_skip ?_
    refine wk_x ?_
    obtain ⟨g50, h51⟩ := chk_e h49
    obtain ⟨g52, h53⟩ := chk_e h51
    obtain ⟨g54, h55⟩ := chk_e h53
    obtain ⟨g56, h57⟩ := chk_e h55
    obtain ⟨g58, h59⟩ := chk_e h57
    refine wc_seq_mid [(6, rB (bif decide (0 < r29) then (ov (lAwake F)) else (bif decide (0 < r32) then (ov (lAwake F)) else ((decide (r35 ≤ 0)) && (bif decide (r29 = 0) then (bif decide (r32 = 0) then (ov (lAwake F)) else ((decide (r35 < 0)) && (ov (lAwake F)))) else ((decide (r35 < 0)) && (ov (lAwake F))))))))] [] ?_ ?_
    ·refine wc_region ?_
     refine wm rfl ?_
     refine wv (o_gt rfl rfl) ?_
     refine wm rfl ?_
     refine bsplit (decide (0 < r29)) (fun c60 => ?_) (fun c60 => ?_)
     ·refine wf c60 ?_
      refine wf c60 ?_
      refine wv (r := rB true) (o_pick_t (b := decide (0 < r29)) rfl c60 rfl) ?_
      refine wm rfl ?_
      refine wl_off (b := true) rfl rfl rfl rfl ?_
      refine wl_off (b := true) rfl rfl rfl rfl ?_
      refine wv (r := rB true) (o_pick_t (b := true) rfl rfl rfl) ?_
      refine wm rfl ?_
      refine wl_on (b := true) rfl rfl rfl ?_
      refine wm rfl ?_
      refine wl_on (b := true) rfl rfl rfl ?_
      refine wv (o_gt rfl rfl) ?_
      refine wl_on (b := true) rfl rfl rfl ?_
      refine wm rfl ?_
      refine wf c60 ?_
      refine wf c60 ?_
      refine wl_on (b := true) rfl rfl rfl ?_
      refine wv (r := rB true) (o_pick_t (b := decide (0 < r29)) rfl c60 rfl) ?_
      refine wl_on (b := true) rfl rfl rfl ?_
      refine wm rfl ?_
      refine wl_off (b := true) rfl rfl rfl rfl ?_
      refine wl_off (b := true) rfl rfl rfl rfl ?_
      refine wl_off (b := true) rfl rfl rfl rfl ?_
      refine wu ?_
      refine wu ?_
      refine wl_off (b := true) rfl rfl rfl rfl ?_
      refine wl_on (b := true) rfl rfl rfl ?_
      refine wv (r := rB true) (o_pick_t (b := true) rfl rfl rfl) ?_
      refine wl_on (b := true) rfl rfl rfl ?_
      refine wm rfl ?_
      refine wl_off (b := true) rfl rfl rfl rfl ?_
      refine wl_off (b := true) rfl rfl rfl rfl ?_
      refine wl_on (b := true) rfl rfl rfl ?_
      refine wv (r := rB true) (o_pick_t (b := true) rfl rfl rfl) ?_
      refine wv (r := rB true) (o_pick_t (b := true) rfl rfl rfl) ?_
      refine wm rfl ?_
      refine wl_on (b := true) rfl rfl rfl ?_
      refine wc0 Tryd.call7 (lAwake_w F (ov (lAwake F)) (ov_e (imp_t g50 c60))) rfl ?_
      refine wv (r := rB (ov (lAwake F))) (o_pick_t (b := true) rfl rfl rfl) ?_
      refine wa rfl ?_
      refine wl_nil ?_
      exact wtc c60
     ·refine wo c60 ?_
      refine wm rfl ?_
      refine wo c60 ?_
      refine wv (o_gt rfl rfl) ?_
      refine wpf rfl c60 rfl ?_
      refine wm rfl ?_
      refine bsplit (decide (0 < r32)) (fun c61 => ?_) (fun c61 => ?_)
      ·refine wf c61 ?_
       refine wf c61 ?_
       refine wv (r := rB true) (o_pick_t (b := decide (0 < r32)) rfl c61 rfl) ?_
       refine wm rfl ?_
       refine wl_on (b := true) rfl rfl rfl ?_
       refine wm rfl ?_
       refine wl_on (b := true) rfl rfl rfl ?_
       refine wv (o_gt rfl rfl) ?_
       refine wl_on (b := true) rfl rfl rfl ?_
       refine wm rfl ?_
       refine wo c60 ?_
       refine wm rfl ?_
       refine wo c60 ?_
       refine wv (o_gt rfl rfl) ?_
       refine wl_on (b := true) rfl rfl rfl ?_
       refine wpf rfl c60 rfl ?_
       refine wl_on (b := true) rfl rfl rfl ?_
       refine wm rfl ?_
       refine wf c61 ?_
       refine wf c61 ?_
       refine wf c61 ?_
       refine wu ?_
       refine wu ?_
       refine wf c61 ?_
       refine wl_on (b := true) rfl rfl rfl ?_
       refine wv (r := rB true) (o_pick_t (b := decide (0 < r32)) rfl c61 rfl) ?_
       refine wl_on (b := true) rfl rfl rfl ?_
       refine wm rfl ?_
       refine wl_off (b := true) rfl rfl rfl rfl ?_
       refine wl_off (b := true) rfl rfl rfl rfl ?_
       refine wl_on (b := true) rfl rfl rfl ?_
       refine wv (r := rB true) (o_pick_t (b := true) rfl rfl rfl) ?_
       refine wv (r := rB true) (o_pick_t (b := true) rfl rfl rfl) ?_
       refine wm rfl ?_
       refine wl_on (b := true) rfl rfl rfl ?_
       refine wc0 Tryd.call7 (lAwake_w F (ov (lAwake F)) (ov_e (imp_t (imp_f g52 c60) c61))) rfl ?_
       refine wv (r := rB (ov (lAwake F))) (o_pick_t (b := true) rfl rfl rfl) ?_
       refine wa rfl ?_
       refine wl_nil ?_
       exact wtc (And.intro c60 c61)
      ·refine wo c61 ?_
       refine wm rfl ?_
       refine wo c61 ?_
       refine wv (o_le rfl rfl) ?_
       refine wpf rfl c61 rfl ?_
       refine wm rfl ?_
       refine bsplit (decide (r35 ≤ 0)) (fun c62 => ?_) (fun c62 => ?_)
       ·refine wo c62 ?_
        refine wm rfl ?_
        refine wo c62 ?_
        refine wv (o_gt rfl rfl) ?_
        refine wo c62 ?_
        refine wm rfl ?_
        refine wo c60 ?_
        refine wm rfl ?_
        refine wo c60 ?_
        refine wv (o_gt rfl rfl) ?_
        refine wo c62 ?_
        refine wpf rfl c60 rfl ?_
        refine wo c62 ?_
        refine wm rfl ?_
        refine wo c61 ?_
        refine wm rfl ?_
        refine wo c61 ?_
        refine wv (o_eq rfl rfl) ?_
        refine wo c61 ?_
        refine wm rfl ?_
        refine bsplit (decide (r29 = 0)) (fun c63 => ?_) (fun c63 => ?_)
        ·refine wo c63 ?_
         refine wm rfl ?_
         refine wo c63 ?_
         refine wv (o_eq rfl rfl) ?_
         refine wo c61 ?_
         refine wpt rfl c63 rfl ?_
         refine wo c62 ?_
         refine wpf rfl c61 rfl ?_
         refine wo c62 ?_
         refine wm rfl ?_
         refine bsplit (decide (r32 = 0)) (fun c64 => ?_) (fun c64 => ?_)
         ·refine wf c64 ?_
          refine wf c64 ?_
          refine wo c62 ?_
          refine wv (r := rB true) (o_pick_t (b := decide (r32 = 0)) rfl c64 rfl) ?_
          refine wpt rfl c62 rfl ?_
          refine wm rfl ?_
          refine wl_on (b := true) rfl rfl rfl ?_
          refine wc0 Tryd.call7 (lAwake_w F (ov (lAwake F)) (ov_e (imp_t (imp_t (imp_t (imp_f (imp_f g54 c60) c61) c62) c63) c64))) rfl ?_
          refine wv (r := rB (ov (lAwake F))) (o_pick_t (b := true) rfl rfl rfl) ?_
          refine wa rfl ?_
          refine wl_nil ?_
          exact wtc (And.intro c60 (And.intro c61 (And.intro c62 (And.intro c63 c64))))
         ·refine wo c64 ?_
          refine wm rfl ?_
          refine wo c64 ?_
          refine wv (o_lt rfl rfl) ?_
          refine wo c62 ?_
          refine wpf rfl c64 rfl ?_
          refine wpt rfl c62 rfl ?_
          refine wm rfl ?_
          refine bsplit (decide (r35 < 0)) (fun c65 => ?_) (fun c65 => ?_)
          ·refine wo c65 ?_
           refine wc0 Tryd.call7 (lAwake_w F (ov (lAwake F)) (ov_e (imp_t (imp_f (imp_t (imp_t (imp_f (imp_f g56 c60) c61) c62) c63) c64) c65))) rfl ?_
           refine wpt rfl c65 rfl ?_
           refine wa rfl ?_
           refine wl_nil ?_
           exact wtc (And.intro c60 (And.intro c61 (And.intro c62 (And.intro c63 (And.intro c64 c65)))))
          ·refine wf c65 ?_
           refine wv (r := rB false) (o_pick_f (b := decide (r35 < 0)) rfl c65 rfl) ?_
           refine wa rfl ?_
           refine wl_nil ?_
           exact wtc (And.intro c60 (And.intro c61 (And.intro c62 (And.intro c63 (And.intro c64 c65)))))
        ·refine wf c63 ?_
         refine wf c63 ?_
         refine wo c61 ?_
         refine wv (r := rB false) (o_pick_f (b := decide (r29 = 0)) rfl c63 rfl) ?_
         refine wo c62 ?_
         refine wpf rfl c61 rfl ?_
         refine wo c62 ?_
         refine wm rfl ?_
         refine wl_on (b := false) rfl rfl rfl ?_
         refine wm rfl ?_
         refine wl_on (b := false) rfl rfl rfl ?_
         refine wv (o_lt rfl rfl) ?_
         refine wo c62 ?_
         refine wv (r := rB (decide (r35 < 0))) (o_pick_f (b := false) rfl rfl rfl) ?_
         refine wpt rfl c62 rfl ?_
         refine wm rfl ?_
         refine bsplit (decide (r35 < 0)) (fun c66 => ?_) (fun c66 => ?_)
         ·refine wo c66 ?_
          refine wc0 Tryd.call7 (lAwake_w F (ov (lAwake F)) (ov_e (imp_t (imp_f (imp_t (imp_f (imp_f g58 c60) c61) c62) c63) c66))) rfl ?_
          refine wpt rfl c66 rfl ?_
          refine wa rfl ?_
          refine wl_nil ?_
          exact wtc (And.intro c60 (And.intro c61 (And.intro c62 (And.intro c63 c66))))
         ·refine wf c66 ?_
          refine wv (r := rB false) (o_pick_f (b := decide (r35 < 0)) rfl c66 rfl) ?_
          refine wa rfl ?_
          refine wl_nil ?_
          exact wtc (And.intro c60 (And.intro c61 (And.intro c62 (And.intro c63 c66))))
       ·refine wf c62 ?_
        refine wf c62 ?_
        refine wf c62 ?_
        refine wu ?_
        refine wu ?_
        refine wf c62 ?_
        refine wf c62 ?_
        refine wu ?_
        refine wu ?_
        refine wu ?_
        refine wu ?_
        refine wu ?_
        refine wu ?_
        refine wf c62 ?_
        refine wf c62 ?_
        refine wu ?_
        refine wu ?_
        refine wf c62 ?_
        refine wv (r := rB false) (o_pick_f (b := decide (r35 ≤ 0)) rfl c62 rfl) ?_
        refine wm rfl ?_
        refine wl_off (b := false) rfl rfl rfl rfl ?_
        refine wv (r := rB false) (o_pick_f (b := false) rfl rfl rfl) ?_
        refine wa rfl ?_
        refine wl_nil ?_
        exact wtc (And.intro c60 (And.intro c61 c62))
    refine wc_ret ?_
    obtain rfl := some_e h59
    exact wk_ret (r_1 Tryd.results4 (rv_t rfl)) sN ⟨rfl, rfl⟩

end Go.Proofs.YtkalifgebccpcaaDoor.Q

/-
 What is known of the values that the law is handed. Plain definitions.
-/
namespace Go.Proofs.YtkalifgebccpcaaDoor.lawValueOrders
open Go
set_option linter.unusedVariables false
def ok40 (y : TApiCell) : Bool := (inK .i64) y.fKind && (inK .i64) y.fInt && okS y.fStr && (inK .i64) y.fN
def Law : Prop := ∀ (y0 : (List TApiCell)) (y1 : (List TApiCell)) (y2 : (List TApiCell)) (o0 : (fun ys : (List TApiCell) => ys.all ok40 && decide (ys.length ≤ 9223372036854775807)) y0 = true) (o1 : (fun ys : (List TApiCell) => ys.all ok40 && decide (ys.length ≤ 9223372036854775807)) y1 = true) (o2 : (fun ys : (List TApiCell) => ys.all ok40 && decide (ys.length ≤ 9223372036854775807)) y2 = true), ∃ F, lOrders F y0 y1 y2 = some true
end Go.Proofs.YtkalifgebccpcaaDoor.lawValueOrders

/-
 What small functions of the package value and of its reference compute. Plain laws.
-/
namespace Go.Proofs.YtkalifgebccpcaaDoor
open Go
set_option linter.unusedVariables false
set_option linter.unusedSimpArgs false
def okc (c : UInt8) : Bool := decide (32 ≤ c.toNat) && decide (c.toNat ≤ 126)
theorem bat_get {s : Str} {x : Int} {c : UInt8} (h : s[x.toNat]? = some c) : bat s x = (c.toNat : Int) := by simp [bat, h]
theorem take_all_succ {α : Type} {p : α → Bool} {s : List α} {k : Nat} {c : α} (h : s[k]? = some c) : (s.take (k + 1)).all p = ((s.take k).all p && p c) := by
 rw [List.take_add_one, h]; simp
theorem all_false_of {α : Type} {p : α → Bool} {s : List α} {k : Nat} {c : α} (h : s[k]? = some c) (hp : p c = false) : s.all p = false := by
 rw [List.all_eq_false]; exact ⟨c, List.mem_of_getElem? h, by simp [hp]⟩
theorem vText_eq {F : Nat} {s : Str} (hF : s.length < F) (hs : s.length ≤ 9223372036854775807) : vText F s = some (s.all okc) := by
 obtain ⟨o, h1, h2⟩ := lop_ind (body := fun σ => vText_b1 s σ) (fun x => 0 ≤ x ∧ x ≤ (s.length : Int) ∧ (s.take x.toNat).all okc = true) (fun x => s.length - x.toNat)
  (fun o => oute (fun _ => vText_k1) o = some (s.all okc)) (fun x ⟨h0, hl, ha⟩ => by
   unfold vText_b1
   by_cases hx : x < (s.length : Int)
   ·obtain ⟨c, hc⟩ : ∃ c, s[x.toNat]? = some c := ⟨s[x.toNat]'(by omega), List.getElem?_eq_getElem (by omega)⟩
    rw [cnd_tt (by simpa using hx), chk_inR h0 hx, bat_get hc]
    cases ho : okc c with
    | false =>
     refine .inr ⟨.ret false, ?_, ?_⟩
     ·rw [cnd_tt]
      simp only [okc, Bool.and_eq_false_iff, decide_eq_false_iff_not] at ho
      simp only [Bool.or_eq_true, decide_eq_true_eq]; omega
     ·simp [oute, all_false_of hc ho]
    | true =>
     refine .inl ⟨x + 1, ?_, ⟨by omega, by omega, ?_⟩, by omega⟩
     ·rw [cnd_ff, chk_i64 (by omega) (by omega)]
      simp only [okc, Bool.and_eq_true, decide_eq_true_eq] at ho
      simp only [Bool.or_eq_false_iff, decide_eq_false_iff_not]; omega
     ·rw [show (x + 1).toNat = x.toNat + 1 from by omega, take_all_succ hc, ha, ho]; rfl
   ·refine .inr ⟨.go (), by rw [cnd_ff (by simpa using hx)], ?_⟩
    rw [show x.toNat = s.length from by omega, List.take_length] at ha
    simp [oute, vText_k1, ha]) F 0 ⟨by omega, by omega, by simp⟩ (by simpa using hF)
 unfold vText
 rw [obn_s h1, h2]
theorem rPlain_vText (F : Nat) (s : Str) : rPlain F s = vText F s := rfl
theorem rPlain_eq {F : Nat} {s : Str} (hF : s.length < F) (hs : s.length ≤ 9223372036854775807) : rPlain F s = some (s.all okc) := by rw [rPlain_vText]; exact vText_eq hF hs
def pl (c : TApiCell) : Bool :=
 bif decide (c.fKind = 1) then (decide (c.fInt = 0) && (decide (c.fStr = []) && decide (c.fN = 0))) else
 bif decide (c.fKind = 2) then ((decide (c.fInt = 0) || decide (c.fInt = 1)) && (decide (c.fStr = []) && decide (c.fN = 0))) else
 bif decide (c.fKind = 3) then (decide (c.fStr = []) && decide (c.fN = 0)) else
 bif decide (c.fKind = 4) then (decide (c.fInt = 0) && (decide (c.fN = 0) && c.fStr.all okc)) else
 bif decide (c.fKind = 5) then (decide (c.fInt = 0) && (decide (c.fStr = []) && decide (0 ≤ c.fN))) else
 bif decide (c.fKind = 6) then (decide (c.fInt = 0) && (decide (c.fStr = []) && decide (0 ≤ c.fN))) else false
theorem cnd_some {α : Type} {p : Bool} {x y : Option α} {a b : α} (h : x = some a) (h' : y = some b) : cnd p x y = some (bif p then a else b) := by cases p <;> simp [cnd, h, h']
theorem vPlain_eq {F : Nat} {c : TApiCell} (hF : c.fStr.length < F) (hs : c.fStr.length ≤ 9223372036854775807) : vPlain F c = some (pl c) := by
 unfold vPlain pl
 rw [vText_eq hF hs]
 refine cnd_some rfl (cnd_some ?_ (cnd_some rfl (cnd_some ?_ (cnd_some rfl (cnd_some rfl rfl)))))
 ·cases h : decide (c.fInt = 0) <;> simp
 ·simp [imp, chk, ov]
def clr : List TValueOpen → List TValueOpen
 | [] => []
 | e :: S => bif decide (1 < e.fLeft) then ⟨e.fPairs, e.fLeft - 1, e.fPairs, e.fLast, e.fStarted⟩ :: S else clr S
theorem at_last {α : Type} [Inhabited α] (xs : List α) (e : α) : at' (xs ++ [e]) (xs.length : Int) = e := by simp [at']
theorem set_last {α : Type} (xs : List α) (e e' : α) : List.set (xs ++ [e]) (Int.toNat (xs.length : Int)) e' = xs ++ [e'] := by simp
theorem len_last {α : Type} (xs : List α) (e : α) : ((xs ++ [e]).length : Int) - 1 = (xs.length : Int) := by simp
theorem take_last {α : Type} (xs : List α) (e : α) : List.take (Int.toNat (xs.length : Int)) (xs ++ [e]) = xs := by simp
theorem vClosed_lop : ∀ (S : List TValueOpen) (F : Nat), S.length < F → (∀ e ∈ S, 1 ≤ e.fLeft ∧ e.fLeft ≤ 9223372036854775807) → S.length ≤ 4611686018427387904 →
  ∃ o, lop (fun σ => vClosed_b1 σ) F S.reverse = some o ∧ oute (fun ν => vClosed_k1 ν) o = some (clr S).reverse
 | [], F + 1, _, _, _ => ⟨.go [], by simp [lop, vClosed_b1, cnd], by simp [oute, vClosed_k1, clr]⟩
 | e :: S, F + 1, hF, hb, hl => by
  obtain ⟨h1, h2⟩ := hb e (by simp)
  simp only [List.length_cons] at hF hl
  have hx : S.reverse.length = S.length := by simp
  generalize hxs : S.reverse = xs at hx
  have hr : (e :: S).reverse = xs ++ [e] := by simp [hxs]
  rw [hr]
  have hb1 : vClosed_b1 (xs ++ [e]) = bif decide (1 < e.fLeft) then some (.out (.ret (xs ++ [⟨e.fPairs, e.fLeft - 1, e.fPairs, e.fLast, e.fStarted⟩]))) else some (.next xs) := by
   unfold vClosed_b1
   rw [cnd_tt (by simp)]
   simp only [len_last, at_last, set_last, bnd]
   rw [chk_i64 (by omega) (by omega), chk_inR (by omega) (by simp; omega), chk_i64 (by omega) (by omega)]
   cases hd : decide (1 < e.fLeft) with
   | true =>
    rw [cnd_tt (by simp at hd ⊢; omega)]; rfl
   | false =>
    rw [cnd_ff (by simp at hd ⊢; omega), chk_i64 (by omega) (by omega), chk_inC (by omega) (by simp; omega), take_last]; rfl
  rw [lop, hb1]
  cases hd : decide (1 < e.fLeft) with
  | true => exact ⟨_, rfl, by simp [oute, vClosed_k1, clr, hd, hxs]⟩
  | false =>
   obtain ⟨o, ho1, ho2⟩ := vClosed_lop S F (by omega) (fun e he => hb e (by simp [he])) (by omega)
   rw [hxs] at ho1
   exact ⟨o, ho1, by rw [ho2]; simp [clr, hd]⟩
theorem vClosed_eq {S : List TValueOpen} {F : Nat} (hF : S.length < F) (hb : ∀ e ∈ S, 1 ≤ e.fLeft ∧ e.fLeft ≤ 9223372036854775807) (hl : S.length ≤ 4611686018427387904) : vClosed F S.reverse = some (clr S).reverse := by
 obtain ⟨o, h1, h2⟩ := vClosed_lop S F hF hb hl
 unfold vClosed
 rw [obn_s h1, h2]
end Go.Proofs.YtkalifgebccpcaaDoor

/-
 value.look, one cell at a time. Plain laws.
-/
namespace Go.Proofs.YtkalifgebccpcaaDoor
open Go
set_option linter.unusedVariables false
set_option linter.unusedSimpArgs false
def qlen (s : Str) : Int := s.length + 2 + s.count 34 + s.count 92
theorem vQuoted_eq {s : Str} (hs : s.length ≤ 1152921504606846976) : vQuoted s = some (qlen s) := by
 have h1 : s.count 34 ≤ s.length := List.count_le_length
 have h2 : s.count 92 ≤ s.length := List.count_le_length
 unfold vQuoted Lib.countByte
 rw [chk_i64 (by omega) (by omega), chk_i64 (by omega) (by omega), chk_i64 (by omega) (by omega)]
 rfl
def szc (c : TApiCell) : Int :=
 bif decide (c.fKind = 1) then 4 else bif decide (c.fKind = 2) then IntKind.wrap .i64 (5 - c.fInt) else bif decide (c.fKind = 3) then ((Lib.itoa c.fInt).length : Int) else
 bif decide (c.fKind = 4) then qlen c.fStr else IntKind.wrap .i64 (2 + max 0 (IntKind.wrap .i64 (c.fN - 1)))
theorem vSize_eq {c : TApiCell} (hs : c.fStr.length ≤ 1152921504606846976) (hi : inK .i64 c.fInt = true) : vSize c = some (szc c) := by
 unfold vSize szc
 rw [vQuoted_eq hs]
 refine cnd_some rfl (cnd_some rfl (cnd_some ?_ (cnd_some rfl rfl)))
 rw [chk_t hi]
def shc (d : Nat) (sh : TValueShape) (c : TApiCell) : TValueShape :=
 ⟨max sh.fDepth ((d : Int) + 1), IntKind.wrap .i64 (sh.fBytes + szc c), sh.fOutside || (decide (c.fKind = 3) && !(decide ((-1000000000000) ≤ c.fInt) && decide (c.fInt ≤ 1000000000000))), sh.fLong || decide (200 < (c.fStr.length : Int))⟩
def shk (sh : TValueShape) (c : TApiCell) : TValueShape := ⟨sh.fDepth, IntKind.wrap .i64 (sh.fBytes + (qlen c.fStr + 1)), sh.fOutside, sh.fLong || decide (200 < (c.fStr.length : Int))⟩
def keyTop : List TValueOpen → Bool
 | [] => false
 | e :: _ => e.fKey
abbrev LkS := List TValueOpen × Int × TValueShape
abbrev LkO := Out (Int × TValueShape × Bool) TValueShape
def lkc (n : Int) (S : List TValueOpen) (i : Int) (sh : TValueShape) (c : TApiCell) : Stp LkS LkO :=
 bif !pl c then .out (.ret (0, sh, false)) else
 match S with
 | e :: S' =>
  bif e.fKey then
   bif !decide (c.fKind = 4) || (e.fStarted && (sLess c.fStr e.fLast || decide (c.fStr = e.fLast))) then .out (.ret (0, sh, false))
   else .next ((⟨e.fPairs, e.fLeft, false, c.fStr, true⟩ :: S').reverse, i + 1, shk sh c)
  else bif decide (0 < c.fN) then
   bif decide (n < c.fN) then .out (.ret (0, shc S.length sh c, false))
   else .next ((⟨decide (c.fKind = 6), c.fN, decide (c.fKind = 6), [], false⟩ :: S).reverse, i + 1, shc S.length sh c)
  else bif decide (clr S = []) then .out (.ret (i + 1, shc S.length sh c, true)) else .next ((clr S).reverse, i + 1, shc S.length sh c)
 | [] =>
  bif decide (0 < c.fN) then
   bif decide (n < c.fN) then .out (.ret (0, shc 0 sh c, false))
   else .next ([⟨decide (c.fKind = 6), c.fN, decide (c.fKind = 6), [], false⟩], i + 1, shc 0 sh c)
  else .out (.ret (i + 1, shc 0 sh c, true))
theorem clr_nil_length {S : List TValueOpen} : decide (((clr S).reverse.length : Int) = 0) = decide (clr S = []) := by
 rw [Bool.eq_iff_iff]; simp
theorem inA48 {α : Type} {xs : List α} {e x : α} {M : Nat} (h : xs.length + 1 ≤ M) (hM2 : (M + 2) * 48 ≤ 140737488355328) : inA 48 ((xs ++ [e]).length + ([x] : List α).length) = true := by
 refine decide_eq_true (Nat.le_trans (Nat.mul_le_mul_right 48 ?_) hM2)
 rw [List.length_append, List.length_singleton, List.length_singleton]; omega
set_option maxHeartbeats 600000 in
theorem vLook_b1_eq {F : Nat} {v : List TApiCell} {S : List TValueOpen} {i : Int} {sh : TValueShape} {c : TApiCell} (h0 : 0 ≤ i) (hc : v[i.toNat]? = some c) {M : Nat} (hM : M ≤ 1152921504606846976) (hM2 : (M + 2) * 48 ≤ 140737488355328) (hv : v.length ≤ M) (hS : S.length ≤ M) (hF : M < F)
  (hs : c.fStr.length ≤ M) (hi : inK .i64 c.fInt = true) (hb : ∀ e ∈ S, 1 ≤ e.fLeft ∧ e.fLeft ≤ 9223372036854775807) : vLook_b1 F v S.reverse i sh = some (lkc v.length S i sh c) := by
 have hil : i.toNat < v.length := (List.getElem?_eq_some_iff.1 hc).1
 have hat : at' v i = c := by simp [at', hc]
 unfold vLook_b1 lkc
 rw [cnd_tt (by simp; omega), chk_inR h0 (by omega), hat, vPlain_eq (by omega) (by omega), obn_s rfl]
 cases hp : pl c with
 | false => rw [cnd_tt (by simp)]; rfl
 | true =>
  rw [cnd_ff (by simp)]
  cases S with
  | nil =>
   rw [chk_t (by simp [imp]), chk_t (by simp [imp]), cnd_ff (by simp), chk_i64 (by simp) (by simp), vSize_eq (by omega) hi, obn_s rfl, chk_t (by simp [imp, nValid])]
   simp only [nValid, ov, Option.getD_some, Bool.not_true, cond_false]
   cases hn : decide (0 < c.fN) with
   | true =>
    rw [cnd_tt rfl]
    cases hm : decide ((v.length : Int) < c.fN) with
    | true => rw [cnd_tt rfl]; simp [shc]
    | false => rw [cnd_ff rfl, chk_t (by simp [inA])]; unfold vLook_j2; rw [chk_i64 (by omega) (by omega)]; simp [shc]
   | false =>
    rw [cnd_ff rfl, obn_s (vClosed_eq (S := []) (by simp; omega) (by simp) (by simp)), cnd_tt (by simp [clr]), chk_i64 (by omega) (by omega)]; simp [shc]
  | cons e S' =>
   have hx : S'.reverse.length = S'.length := by simp
   generalize hxs : S'.reverse = xs at hx
   have hr : (e :: S').reverse = xs ++ [e] := by simp [hxs]
   simp only [List.length_cons] at hS
   have hlen : ((xs ++ [e]).length : Int) = (xs.length : Int) + 1 := by simp
   rw [hr, chk_t (by simp only [imp, len_last]; rw [inK_i64' (by omega) (by omega)]; simp), chk_t (by simp only [imp, len_last]; rw [inR' (by omega) (by omega)]; simp)]
   rw [len_last, at_last]
   cases hk : e.fKey with
   | true =>
    rw [cnd_tt (by simp), chk_i64 (by omega) (by omega), chk_inR (by omega) (by omega)]
    simp only [hk, Bool.not_true, cond_false, cond_true]
    cases ht : !decide (c.fKind = 4) || (e.fStarted && (sLess c.fStr e.fLast || decide (c.fStr = e.fLast))) with
    | true => rw [cnd_tt rfl]; rfl
    | false =>
     rw [cnd_ff rfl, set_last, bnd, at_last, set_last, bnd, at_last, set_last, bnd, vQuoted_eq (by omega), obn_s rfl, chk_i64 (by unfold qlen; omega) (by unfold qlen; have := @List.count_le_length UInt8 _ 34 c.fStr; have := @List.count_le_length UInt8 _ 92 c.fStr; omega)]
     unfold vLook_j2
     rw [chk_i64 (by omega) (by omega)]
     simp [shk, hxs]
   | false =>
    rw [cnd_ff (by simp), hlen, chk_i64 (by omega) (by omega), vSize_eq (by omega) hi, obn_s rfl, chk_t (by simp [imp, nValid])]
    simp only [hk, nValid, ov, Option.getD_some, Bool.not_true, cond_false, cond_true]
    cases hn : decide (0 < c.fN) with
    | true =>
     rw [cnd_tt rfl]
     cases hm : decide ((v.length : Int) < c.fN) with
     | true => rw [cnd_tt rfl]; simp [shc, hx]
     | false => rw [cnd_ff rfl, chk_t (inA48 (by omega) hM2)]; unfold vLook_j2; rw [chk_i64 (by omega) (by omega)]; simp [shc, hx, hxs]
    | false =>
     have hcl := vClosed_eq (S := e :: S') (F := F) (by simp; omega) hb (by simp; omega)
     rw [hr] at hcl
     rw [cnd_ff rfl, hcl, obn_s rfl, clr_nil_length]
     cases hq : decide (clr (e :: S') = []) with
     | true => rw [cnd_tt rfl, chk_i64 (by omega) (by omega)]; simp [shc, hx]
     | false => rw [cnd_ff rfl]; unfold vLook_j2; rw [chk_i64 (by omega) (by omega)]; simp [shc, hx]
end Go.Proofs.YtkalifgebccpcaaDoor

/-
 Values as forests; value.look on the cells of a forest. Plain laws.
-/
namespace Go.Proofs.YtkalifgebccpcaaDoor
open Go
set_option linter.unusedVariables false
set_option linter.unusedSimpArgs false
section
variable {S O : Type} {body : S → Option (Stp S O)} {s t u : S} {o : O}
def Reach (body : S → Option (Stp S O)) (s t : S) : Prop := ∃ k, ∀ n, lop body (n + k) s = lop body n t
def Fin (body : S → Option (Stp S O)) (s : S) (o : O) : Prop := ∃ k, ∀ n, lop body (n + k) s = some o
theorem Reach.refl (s : S) : Reach body s s := ⟨0, fun _ => rfl⟩
theorem Reach.trans (h : Reach body s t) (h' : Reach body t u) : Reach body s u := by
 obtain ⟨k, hk⟩ := h
 obtain ⟨j, hj⟩ := h'
 exact ⟨j + k, fun n => by rw [← Nat.add_assoc, hk, hj]⟩
theorem Reach.step (h : body s = some (.next t)) : Reach body s t := ⟨1, fun n => by rw [lop, h]⟩
theorem Fin.step (h : body s = some (.out o)) : Fin body s o := ⟨1, fun n => by rw [lop, h]⟩
theorem Reach.fin (h : Reach body s t) (h' : Fin body t o) : Fin body s o := by
 obtain ⟨k, hk⟩ := h
 obtain ⟨j, hj⟩ := h'
 exact ⟨j + k, fun n => by rw [← Nat.add_assoc, hk, hj]⟩
end
inductive Fo where
 | nil
 | cell (k : Option Str) (c : TApiCell) (r : Fo)
 | node (k : Option Str) (c : TApiCell) (kids r : Fo)
def keyC : Option Str → List TApiCell
 | none => []
 | some s => [⟨4, 0, s, 0⟩]
def Fo.flat : Fo → List TApiCell
 | .nil => []
 | .cell k c r => keyC k ++ c :: r.flat
 | .node k c kids r => keyC k ++ c :: (kids.flat ++ r.flat)
def Fo.cnt : Fo → Nat
 | .nil => 0
 | .cell _ _ r => r.cnt + 1
 | .node _ _ _ r => r.cnt + 1
def keyOk (m : Bool) (last : Option Str) : Option Str → Bool
 | none => !m
 | some s => m && s.all okc && (match last with
  | none => true
  | some p => !(sLess s p || decide (s = p)))
def Fo.wf : Bool → Option Str → Fo → Bool
 | _, _, .nil => true
 | m, last, .cell k c r => keyOk m last k && pl c && !decide (0 < c.fN) && r.wf m k
 | m, last, .node k c kids r => keyOk m last k && pl c && decide (0 < c.fN) && decide (c.fN = kids.cnt) && kids.wf (decide (c.fKind = 6)) none && r.wf m k
def shK (k : Option Str) (sh : TValueShape) : TValueShape := match k with
 | none => sh
 | some s => shk sh ⟨4, 0, s, 0⟩
def Fo.sh (d : Nat) : TValueShape → Fo → TValueShape
 | s, .nil => s
 | s, .cell k c r => r.sh d (shc d (shK k s) c)
 | s, .node k c kids r => r.sh d (kids.sh (d + 1) (shc d (shK k s) c))
def Done (body : LkS → Option (Stp LkS LkO)) (s : LkS) (S : List TValueOpen) (i : Int) (sh : TValueShape) : Prop :=
 if clr S = [] then Fin body s (.ret (i, sh, true)) else Reach body s ((clr S).reverse, i, sh)
theorem Done.of {body : LkS → Option (Stp LkS LkO)} {s t : LkS} {S : List TValueOpen} {i : Int} {sh : TValueShape} (h : Reach body s t) (h' : Done body t S i sh) : Done body s S i sh := by
 unfold Done at *
 split
 ·rename_i e; rw [if_pos e] at h'; exact h.fin h'
 ·rename_i e; rw [if_neg e] at h'; exact h.trans h'
theorem Done.pop {body : LkS → Option (Stp LkS LkO)} {s : LkS} {e : TValueOpen} {S : List TValueOpen} {i : Int} {sh : TValueShape} (h : Done body s (e :: S) i sh) (h1 : e.fLeft = 1) : Done body s S i sh := by
 have : clr (e :: S) = clr S := by simp [clr, h1]
 unfold Done at *
 rw [this] at h; exact h
theorem Done.more {body : LkS → Option (Stp LkS LkO)} {s : LkS} {e : TValueOpen} {S : List TValueOpen} {i : Int} {sh : TValueShape} (h : Done body s (e :: S) i sh) (h1 : 1 < e.fLeft) : Reach body s ((⟨e.fPairs, e.fLeft - 1, e.fPairs, e.fLast, e.fStarted⟩ :: S).reverse, i, sh) := by
 have : clr (e :: S) = ⟨e.fPairs, e.fLeft - 1, e.fPairs, e.fLast, e.fStarted⟩ :: S := by simp [clr, h1]
 unfold Done at *
 rw [this, if_neg (by simp)] at h; exact h
end Go.Proofs.YtkalifgebccpcaaDoor

/-
 value.look on the cells of a forest: it goes through them. Plain laws.
-/
namespace Go.Proofs.YtkalifgebccpcaaDoor
open Go
set_option linter.unusedVariables false
set_option linter.unusedSimpArgs false
structure LkA (F M : Nat) (v : List TApiCell) : Prop where
 hM : M ≤ 1152921504606846976
 hM2 : (M + 2) * 48 ≤ 140737488355328
 hv : v.length ≤ M
 hF : M < F
 hc : ∀ c ∈ v, c.fStr.length ≤ M ∧ inK .i64 c.fInt = true ∧ c.fN ≤ 9223372036854775807
abbrev lkB (F : Nat) (v : List TApiCell) : LkS → Option (Stp LkS LkO) := fun σ => vLook_b1 F v σ.1 σ.2.1 σ.2.2
def lefts (S : List TValueOpen) : Prop := ∀ e ∈ S, 1 ≤ e.fLeft ∧ e.fLeft ≤ 9223372036854775807
section
variable {F M : Nat} {v : List TApiCell} {S : List TValueOpen} {i : Int} {sh : TValueShape} {c : TApiCell} {r : List TApiCell} {e : TValueOpen}
theorem drop_get (h0 : 0 ≤ i) (h : v.drop i.toNat = c :: r) : v[i.toNat]? = some c ∧ v.drop (i + 1).toNat = r ∧ i < v.length := by
 have h1 : (v.drop i.toNat)[0]? = some c := by rw [h]; rfl
 have h2 : v[i.toNat]? = some c := by simpa using h1
 have h3 := (List.getElem?_eq_some_iff.1 h2).1
 refine ⟨h2, ?_, by omega⟩
 rw [show (i + 1).toNat = i.toNat + 1 from by omega, ← List.drop_drop, h]; rfl
theorem round (hA : LkA F M v) (h0 : 0 ≤ i) (h : v.drop i.toNat = c :: r) (hS : (S.length : Int) ≤ i) (hb : lefts S) : lkB F v (S.reverse, i, sh) = some (lkc v.length S i sh c) := by
 obtain ⟨h1, _, h3⟩ := drop_get h0 h
 obtain ⟨a, b, _⟩ := hA.hc c (List.mem_of_getElem? h1)
 have := hA.hv
 exact vLook_b1_eq h0 h1 hA.hM hA.hM2 hA.hv (by omega) hA.hF a b hb
def keyed (e : TValueOpen) : Option Str → TValueOpen
 | none => e
 | some s => ⟨e.fPairs, e.fLeft, false, s, true⟩
def lastOk (e : TValueOpen) : Option Str → Prop
 | none => e.fStarted = false
 | some p => e.fStarted = true ∧ e.fLast = p
theorem keyRound (hA : LkA F M v) (h0 : 0 ≤ i) {k last : Option Str} (h : v.drop i.toNat = keyC k ++ r) (hS : (S.length : Int) + 1 ≤ i) (hb : lefts (e :: S)) (hk : keyOk e.fKey last k = true) (hl : lastOk e last) :
  Reach (lkB F v) ((e :: S).reverse, i, sh) ((keyed e k :: S).reverse, i + (keyC k).length, shK k sh) := by
 cases k with
 | none => simpa [keyed, keyC, shK] using Reach.refl _
 | some s =>
  simp only [keyOk, Bool.and_eq_true] at hk
  obtain ⟨⟨hm, hok⟩, hcmp⟩ := hk
  refine Reach.step ?_
  rw [round hA h0 (by simpa [keyC] using h) (by simpa using hS) hb]
  have hp : pl ⟨4, 0, s, 0⟩ = true := by simp [pl, hok]
  have ht : (e.fStarted && (sLess s e.fLast || decide (s = e.fLast))) = false := by
   cases last with
   | none => simp only [lastOk] at hl; rw [hl]; rfl
   | some p => obtain ⟨h1, h2⟩ := hl; rw [h1, h2]; simpa using hcmp
  simp only [lkc, hp, hm, ht, Bool.not_true, cond_false, cond_true, decide_true, Bool.or_false, Bool.or_self]
  rfl
theorem keyed_key {k last : Option Str} (hk : keyOk e.fKey last k = true) : (keyed e k).fKey = false := by
 cases k with
 | none => simpa [keyed, keyOk] using hk
 | some s => rfl
theorem keyed_left (k : Option Str) : (keyed e k).fLeft = e.fLeft ∧ (keyed e k).fPairs = e.fPairs := by cases k <;> exact ⟨rfl, rfl⟩
theorem leafRound (hA : LkA F M v) (h0 : 0 ≤ i) (h : v.drop i.toNat = c :: r) (hS : (S.length : Int) ≤ i) (hb : lefts S) (hk : keyTop S = false) (hp : pl c = true) (hn : decide (0 < c.fN) = false) :
  Done (lkB F v) (S.reverse, i, sh) S (i + 1) (shc S.length sh c) := by
 have hr := round (sh := sh) hA h0 h hS hb
 unfold Done
 cases S with
 | nil =>
  rw [if_pos (by simp [clr])]
  refine Fin.step ?_
  rw [hr]; simp [lkc, hp, hn]
 | cons e S =>
  simp only [keyTop] at hk
  split
  ·rename_i hc
   refine Fin.step ?_
   rw [hr]; simp [lkc, hp, hn, hk, hc]
  ·rename_i hc
   refine Reach.step ?_
   rw [hr]; simp [lkc, hp, hn, hk, hc]
theorem nodeRound (hA : LkA F M v) (h0 : 0 ≤ i) (h : v.drop i.toNat = c :: r) (hS : (S.length : Int) ≤ i) (hb : lefts S) (hk : keyTop S = false) (hp : pl c = true) (hn : decide (0 < c.fN) = true) (hv : c.fN ≤ v.length) :
  Reach (lkB F v) (S.reverse, i, sh) ((⟨decide (c.fKind = 6), c.fN, decide (c.fKind = 6), [], false⟩ :: S).reverse, i + 1, shc S.length sh c) := by
 have hr := round (sh := sh) hA h0 h hS hb
 have hv' : decide ((v.length : Int) < c.fN) = false := by simpa using hv
 refine Reach.step ?_
 rw [hr]
 cases S with
 | nil => simp only [lkc, hp, hn, hv', Bool.not_true, cond_false, cond_true]; rfl
 | cons e S =>
  simp only [keyTop] at hk
  simp only [lkc, hp, hn, hv', hk, Bool.not_true, cond_false, cond_true]
theorem cnt_le_flat : ∀ f : Fo, f.cnt ≤ f.flat.length
 | .nil => Nat.le_refl _
 | .cell k c r => by have := cnt_le_flat r; simp [Fo.cnt, Fo.flat]; omega
 | .node k c kids r => by have := cnt_le_flat r; simp [Fo.cnt, Fo.flat]; omega
theorem drop_app {α : Type} {v xs r : List α} {i : Int} (h0 : 0 ≤ i) (h : v.drop i.toNat = xs ++ r) : v.drop (i + xs.length).toNat = r := by
 rw [show (i + (xs.length : Int)).toNat = i.toNat + xs.length from by omega, ← List.drop_drop, h, List.drop_left]
theorem restLook (hA : LkA F M v) {e' : TValueOpen} {s : LkS} {k : Option Str} {r' : Fo}
  (ih : ∀ (e : TValueOpen) (S : List TValueOpen) (i : Int) (sh : TValueShape) (last : Option Str) (r : List TApiCell), 1 ≤ r'.cnt → r'.wf e.fPairs last = true → e.fKey = e.fPairs → e.fLeft = r'.cnt → lastOk e last → (e.fPairs = false → last = none) → v.drop i.toNat = r'.flat ++ r → 0 ≤ i → (S.length : Int) + 1 ≤ i → lefts S →
   Done (lkB F v) ((e :: S).reverse, i, sh) S (i + r'.flat.length) (r'.sh (S.length + 1) sh))
  (hd : Done (lkB F v) s (e' :: S) i sh) (hl : e'.fLeft = r'.cnt + 1) (hw : r'.wf e'.fPairs k = true) (hk : lastOk e' k) (hm : e'.fPairs = false → k = none) (hv : v.drop i.toNat = r'.flat ++ r) (h0 : 0 ≤ i) (hS : (S.length : Int) + 1 ≤ i) (hb : lefts S) :
  Done (lkB F v) s S (i + r'.flat.length) (r'.sh (S.length + 1) sh) := by
 by_cases h1 : r'.cnt = 0
 ·cases r' with
  | nil => simpa [Fo.flat, Fo.sh] using hd.pop (by rw [hl]; rfl)
  | cell _ _ _ => simp [Fo.cnt] at h1
  | node _ _ _ _ => simp [Fo.cnt] at h1
 ·have := hd.more (by omega)
  refine Done.of this (ih _ S i sh k r (by omega) hw rfl (by simp only; omega) ?_ hm hv h0 hS hb)
  cases k with
  | none => exact hk
  | some p => exact hk
theorem keyed_last {k last : Option Str} (hl : lastOk e last) (hm : e.fPairs = false → last = none) (hk : keyOk e.fPairs last k = true) : lastOk (keyed e k) k ∧ ((keyed e k).fPairs = false → k = none) := by
 cases k with
 | none =>
  have : e.fPairs = false := by simpa [keyOk] using hk
  rw [hm this] at hl
  exact ⟨hl, fun _ => rfl⟩
 | some s =>
  refine ⟨⟨rfl, rfl⟩, fun h => ?_⟩
  have h : e.fPairs = false := h
  simp [keyOk, h] at hk
theorem forest_look (hA : LkA F M v) : ∀ (f : Fo) (e : TValueOpen) (S : List TValueOpen) (i : Int) (sh : TValueShape) (last : Option Str) (r : List TApiCell), 1 ≤ f.cnt → f.wf e.fPairs last = true → e.fKey = e.fPairs → e.fLeft = f.cnt → lastOk e last → (e.fPairs = false → last = none) → v.drop i.toNat = f.flat ++ r → 0 ≤ i → (S.length : Int) + 1 ≤ i → lefts S →
   Done (lkB F v) ((e :: S).reverse, i, sh) S (i + f.flat.length) (f.sh (S.length + 1) sh) := by
 have hmax : ∀ (i : Int) (xs : List TApiCell), 0 ≤ i → v.drop i.toNat = xs → xs.length ≤ v.length := fun i xs _ h => by rw [← h, List.length_drop]; omega
 intro f
 induction f with
 | nil => intro e S i sh last r h1; simp [Fo.cnt] at h1
 | cell k c r' ih =>
  intro e S i sh last r h1 hw hk hl hlo hm hv h0 hS hb
  simp only [Fo.wf, Bool.and_eq_true, Bool.not_eq_true'] at hw
  obtain ⟨⟨⟨w1, w2⟩, w3⟩, w4⟩ := hw
  simp only [Fo.flat, List.append_assoc, List.cons_append] at hv
  have hcnt := hmax i _ h0 hv
  have hcf := cnt_le_flat r'
  simp only [List.length_append, List.length_cons] at hcnt
  have hvM := hA.hv; have hMM := hA.hM
  simp only [Fo.cnt] at hl
  have hb' : lefts (e :: S) := fun x hx => by
   rcases List.mem_cons.1 hx with rfl | hx
   ·constructor <;> omega
   ·exact hb x hx
  have hkr := keyRound (sh := sh) hA h0 hv hS hb' (by rw [hk]; exact w1) hlo
  have hv1 := drop_app h0 hv
  obtain ⟨kl, kp⟩ := keyed_left (e := e) k
  have hbk : lefts (keyed e k :: S) := fun x hx => by
   rcases List.mem_cons.1 hx with rfl | hx
   ·rw [kl]; exact hb' e (by simp)
   ·exact hb x hx
  have hd := leafRound (sh := shK k sh) hA (by omega) hv1 (by simp only [List.length_cons]; omega) hbk (keyed_key (by rw [hk]; exact w1)) w2 w3
  obtain ⟨q1, q2⟩ := keyed_last hlo hm w1
  have hv2 := (drop_get (by omega) hv1).2.1
  have := restLook hA ih (hd.of hkr) (by rw [kl, hl]; rfl) (by rw [kp]; exact w4) q1 q2 hv2 (by omega) (by omega) hb
  simp only [Fo.flat, Fo.sh, List.length_append, List.length_cons]
  rw [show i + ((((keyC k).length + (r'.flat.length + 1) : Nat)) : Int) = i + (keyC k).length + 1 + r'.flat.length from by omega]
  exact this
 | node k c kids r' ihk ih =>
  intro e S i sh last r h1 hw hk hl hlo hm hv h0 hS hb
  simp only [Fo.wf, Bool.and_eq_true, decide_eq_true_eq] at hw
  obtain ⟨⟨⟨⟨⟨w1, w2⟩, w3⟩, w5⟩, w6⟩, w4⟩ := hw
  simp only [Fo.flat, List.append_assoc, List.cons_append] at hv
  have hcnt := hmax i _ h0 hv
  have hcf := cnt_le_flat r'
  have hck := cnt_le_flat kids
  simp only [List.length_append, List.length_cons] at hcnt
  have hvM := hA.hv; have hMM := hA.hM
  simp only [Fo.cnt] at hl
  have hb' : lefts (e :: S) := fun x hx => by
   rcases List.mem_cons.1 hx with rfl | hx
   ·constructor <;> omega
   ·exact hb x hx
  have hkr := keyRound (sh := sh) hA h0 hv hS hb' (by rw [hk]; exact w1) hlo
  have hv1 := drop_app h0 hv
  obtain ⟨kl, kp⟩ := keyed_left (e := e) k
  have hbk : lefts (keyed e k :: S) := fun x hx => by
   rcases List.mem_cons.1 hx with rfl | hx
   ·rw [kl]; exact hb' e (by simp)
   ·exact hb x hx
  have hn := nodeRound (sh := shK k sh) hA (by omega) hv1 (by simp only [List.length_cons]; omega) hbk (keyed_key (by rw [hk]; exact w1)) w2 (by simpa using w3) (by omega)
  have hv2 := (drop_get (by omega) hv1).2.1
  have hd := ihk ⟨decide (c.fKind = 6), c.fN, decide (c.fKind = 6), [], false⟩ (keyed e k :: S) (i + (keyC k).length + 1) (shc (S.length + 1) (shK k sh) c) none _ (by omega) w6 rfl w5 rfl (fun _ => rfl) hv2 (by omega) (by simp only [List.length_cons]; omega) hbk
  obtain ⟨q1, q2⟩ := keyed_last hlo hm w1
  have hv3 := drop_app (by omega) hv2
  have := restLook hA ih ((hd.of hn).of hkr) (by rw [kl, hl]; rfl) (by rw [kp]; exact w4) q1 q2 hv3 (by omega) (by omega) hb
  simp only [Fo.flat, Fo.sh, List.length_append, List.length_cons]
  rw [show i + ((((keyC k).length + (kids.flat.length + r'.flat.length + 1) : Nat)) : Int) = i + (keyC k).length + 1 + kids.flat.length + r'.flat.length from by omega]
  exact this
end
end Go.Proofs.YtkalifgebccpcaaDoor

/-
 value.look always ends; what it says of a value. Plain laws.
-/
namespace Go.Proofs.YtkalifgebccpcaaDoor
open Go
set_option linter.unusedVariables false
set_option linter.unusedSimpArgs false
theorem lop_mono {S O : Type} {body : S → Option (Stp S O)} {o : O} : ∀ {n : Nat} {s : S} (k : Nat), lop body n s = some o → lop body (n + k) s = some o
 | 0, s, k, h => by cases h
 | n + 1, s, k, h => by
  rw [show n + 1 + k = n + k + 1 from by omega, lop]
  rw [lop] at h
  cases hb : body s with
  | none => rw [hb] at h; cases h
  | some t =>
   rw [hb] at h
   cases t with
   | next s' => exact lop_mono k h
   | out o' => exact h
theorem Fin.eq {S O : Type} {body : S → Option (Stp S O)} {s : S} {o o' : O} {n : Nat} (h : Fin body s o) (h' : lop body n s = some o') : o' = o := by
 obtain ⟨k, hk⟩ := h
 have := lop_mono k h'
 rw [hk n] at this
 exact (some_e this).symm
theorem clr_lefts : ∀ {S : List TValueOpen}, lefts S → lefts (clr S) ∧ (clr S).length ≤ S.length
 | [], h => ⟨h, Nat.le_refl _⟩
 | e :: S, h => by
  have hS : lefts S := fun x hx => h x (by simp [hx])
  have he := h e (by simp)
  unfold clr
  cases hd : decide (1 < e.fLeft) with
  | true =>
   simp only [decide_eq_true_eq] at hd
   refine ⟨fun x hx => ?_, by simp⟩
   rcases List.mem_cons.1 hx with rfl | hx
   ·simp only; omega
   ·exact hS x hx
  | false =>
   obtain ⟨h1, h2⟩ := clr_lefts hS
   exact ⟨h1, by simp only [cond_false, List.length_cons]; omega⟩
theorem lkc_next {n : Int} {S : List TValueOpen} {i : Int} {sh : TValueShape} {c : TApiCell} {σ : LkS} (hb : lefts S) (hS : (S.length : Int) ≤ i) (hN : c.fN ≤ 9223372036854775807) (h : lkc n S i sh c = .next σ) : ∃ S' sh', σ = (S'.reverse, i + 1, sh') ∧ lefts S' ∧ (S'.length : Int) ≤ i + 1 := by
 unfold lkc at h
 cases hp : pl c with
 | false => simp [hp] at h
 | true =>
  simp only [hp, Bool.not_true, cond_false] at h
  cases S with
  | nil =>
   simp only at h
   cases hn : decide (0 < c.fN) with
   | false => simp [hn] at h
   | true =>
    simp only [hn, cond_true] at h
    cases hm : decide (n < c.fN) with
    | true => simp [hm] at h
    | false =>
     simp only [hm, cond_false, Stp.next.injEq] at h
     refine ⟨[_], _, h.symm, fun x hx => ?_, by simp at hS ⊢; omega⟩
     simp only [List.mem_singleton] at hx; subst hx
     simp only [decide_eq_true_eq] at hn
     exact ⟨by simp only; omega, hN⟩
  | cons e S =>
   have he := hb e (by simp)
   have hbS : lefts S := fun x hx => hb x (by simp [hx])
   simp only [List.length_cons] at hS
   cases hk : e.fKey with
   | true =>
    simp only [hk, cond_true] at h
    cases hq : (!decide (c.fKind = 4) || (e.fStarted && (sLess c.fStr e.fLast || decide (c.fStr = e.fLast)))) with
    | true => rw [hq] at h; simp at h
    | false =>
     rw [hq] at h
     simp only [cond_false, Stp.next.injEq] at h
     refine ⟨_ :: S, _, h.symm, fun x hx => ?_, by simp only [List.length_cons]; omega⟩
     rcases List.mem_cons.1 hx with rfl | hx
     ·exact he
     ·exact hbS x hx
   | false =>
    simp only [hk, cond_false] at h
    cases hn : decide (0 < c.fN) with
    | true =>
     simp only [hn, cond_true] at h
     cases hm : decide (n < c.fN) with
     | true => simp [hm] at h
     | false =>
      simp only [hm, cond_false, Stp.next.injEq] at h
      refine ⟨_ :: e :: S, _, h.symm, fun x hx => ?_, by simp only [List.length_cons]; omega⟩
      rcases List.mem_cons.1 hx with rfl | hx
      ·simp only [decide_eq_true_eq] at hn
       exact ⟨by simp only; omega, hN⟩
      ·exact hb x hx
    | false =>
     simp only [hn, cond_false] at h
     cases hq : decide (clr (e :: S) = []) with
     | true => rw [hq] at h; simp at h
     | false =>
      rw [hq] at h
      simp only [cond_false, Stp.next.injEq] at h
      obtain ⟨h1, h2⟩ := clr_lefts hb
      simp only [List.length_cons] at h2
      exact ⟨_, _, h.symm, h1, by omega⟩
theorem look_total {F M : Nat} {v : List TApiCell} (hA : LkA F M v) : ∃ o, lop (lkB F v) F (([] : List TValueOpen), 0, (⟨0, 0, false, false⟩ : TValueShape)) = some o ∧ True := by
 refine lop_ind (fun σ => ∃ S i sh, σ = (S.reverse, i, sh) ∧ lefts S ∧ (S.length : Int) ≤ i ∧ 0 ≤ i ∧ i ≤ v.length) (fun σ => v.length - σ.2.1.toNat) (fun _ => True) (fun σ hI => ?_) F _ ⟨[], 0, _, rfl, (fun x hx => by cases hx), Int.le_refl _, Int.le_refl _, by omega⟩ (by have := hA.hv; have := hA.hF; simp; omega)
 obtain ⟨S, i, sh, rfl, hb, hS, h0, hi⟩ := hI
 by_cases hx : i < v.length
 ·obtain ⟨c, hc⟩ : ∃ c, v[i.toNat]? = some c := ⟨v[i.toNat]'(by omega), List.getElem?_eq_getElem (by omega)⟩
  have hdr : v.drop i.toNat = c :: v.drop (i.toNat + 1) := by rw [List.drop_eq_getElem_cons (by omega)]; congr 1; exact (List.getElem?_eq_some_iff.1 hc).2
  have hr := round (sh := sh) hA h0 hdr hS hb
  cases hl : lkc v.length S i sh c with
  | next τ =>
   obtain ⟨S', sh', rfl, h1, h2⟩ := lkc_next hb hS (hA.hc c (List.mem_of_getElem? hc)).2.2 hl
   exact .inl ⟨_, by rw [hr, hl], ⟨S', i + 1, sh', rfl, h1, h2, by omega, by omega⟩, by simp only; omega⟩
  | out o => exact .inr ⟨o, by rw [hr, hl], trivial⟩
 ·refine .inr ⟨.go sh, ?_, trivial⟩
  show vLook_b1 F v S.reverse i sh = _
  unfold vLook_b1
  rw [cnd_ff (by simpa using hx)]
def Fo.one : Fo → Bool
 | .cell none _ .nil => true
 | .node none _ _ .nil => true
 | _ => false
def sh0 : TValueShape := ⟨0, 0, false, false⟩
theorem look_fin {F M : Nat} {v : List TApiCell} (hA : LkA F M v) {f : Fo} (h1 : f.one = true) (hw : f.wf false none = true) {r : List TApiCell} (hv : v = f.flat ++ r) : Fin (lkB F v) ([], 0, sh0) (.ret (f.flat.length, f.sh 0 sh0, true)) := by
 have h0 : v.drop (0 : Int).toNat = f.flat ++ r := by rw [hv]; rfl
 have hlen : f.flat.length ≤ v.length := by rw [hv]; simp
 cases f with
 | nil => cases h1
 | cell k c r' =>
  cases k with
  | some s => cases h1
  | none =>
   cases r' with
   | nil =>
    simp only [Fo.wf, Bool.and_eq_true, Bool.not_eq_true'] at hw
    have := leafRound (S := []) (sh := sh0) hA (Int.le_refl 0) h0 (by simp) (fun x hx => by cases hx) rfl hw.1.1.2 hw.1.2
    unfold Done at this
    rw [if_pos (show clr [] = [] from rfl)] at this
    simpa [Fo.flat, Fo.sh, keyC, shK] using this
   | cell _ _ _ => cases h1
   | node _ _ _ _ => cases h1
 | node k c kids r' =>
  cases k with
  | some s => cases h1
  | none =>
   cases r' with
   | nil =>
    simp only [Fo.wf, Bool.and_eq_true, decide_eq_true_eq] at hw
    obtain ⟨⟨⟨⟨⟨w1, w2⟩, w3⟩, w5⟩, w6⟩, w4⟩ := hw
    have hck := cnt_le_flat kids
    simp only [Fo.flat, keyC, List.nil_append, List.append_nil, List.length_cons] at hlen
    have hvM := hA.hv; have hMM := hA.hM
    have hn := nodeRound (S := []) (sh := sh0) hA (Int.le_refl 0) h0 (by simp) (fun x hx => by cases hx) rfl w2 (by simpa using w3) (by omega)
    have hv2 := (drop_get (Int.le_refl 0) h0).2.1
    have hd := forest_look hA kids ⟨decide (c.fKind = 6), c.fN, decide (c.fKind = 6), [], false⟩ [] (0 + 1) (shc 0 sh0 c) none r (by omega) w6 rfl w5 rfl (fun _ => rfl) (by rw [hv2]; simp [Fo.flat]) (by omega) (by simp) (fun x hx => by cases hx)
    unfold Done at hd
    rw [if_pos (show clr [] = [] from rfl)] at hd
    have := hn.fin hd
    have e : ((0 : Int) + 1 + kids.flat.length) = ((Fo.node none c kids .nil).flat.length : Int) := by simp [Fo.flat, keyC]; omega
    rw [e] at this
    exact this
   | cell _ _ _ => cases h1
   | node _ _ _ _ => cases h1
theorem look_val {F M : Nat} {v : List TApiCell} (hA : LkA F M v) {f : Fo} (h1 : f.one = true) (hw : f.wf false none = true) {r : List TApiCell} (hv : v = f.flat ++ r) : vLook F v = some ((f.flat.length : Int), f.sh 0 sh0, true) := by
 obtain ⟨o, ho, _⟩ := look_total hA
 have e := (look_fin hA h1 hw hv).eq ho
 subst e
 unfold vLook
 rw [obn_s ho]; rfl
end Go.Proofs.YtkalifgebccpcaaDoor

/-
 Reading values of cells: a plain reader; value.look says what it says. Plain laws.
-/
namespace Go.Proofs.YtkalifgebccpcaaDoor
open Go
set_option linter.unusedVariables false
set_option linter.unusedSimpArgs false
def prsK (m : Bool) (last : Option Str) (xs : List TApiCell) : Option (Option Str × List TApiCell) :=
 bif m then match xs with
  | [] => none
  | c :: r => bif pl c && decide (c.fKind = 4) && keyOk true last (some c.fStr) then some (some c.fStr, r) else none
 else some (none, xs)
def prs : Nat → Bool → Option Str → Nat → List TApiCell → Option (Fo × List TApiCell)
 | 0, _, _, _, _ => none
 | _ + 1, _, _, 0, xs => some (.nil, xs)
 | F + 1, m, last, k + 1, xs =>
  match prsK m last xs with
  | none => none
  | some (_, []) => none
  | some (key, c :: xs') =>
   bif !pl c then none else
   bif decide (0 < c.fN) then
    match prs F (decide (c.fKind = 6)) none c.fN.toNat xs' with
    | none => none
    | some (kids, ys) => match prs F m key k ys with
     | none => none
     | some (r, zs) => some (.node key c kids r, zs)
   else match prs F m key k xs' with
    | none => none
    | some (r, zs) => some (.cell key c r, zs)
theorem pl_key {c : TApiCell} (hp : pl c = true) (hk : c.fKind = 4) : c = ⟨4, 0, c.fStr, 0⟩ ∧ c.fStr.all okc = true := by
 cases c
 simp only at hk; subst hk
 simp [pl] at hp
 obtain ⟨h1, h2, h3⟩ := hp
 subst h1; subst h2
 exact ⟨rfl, by simpa using h3⟩
theorem prsK_ok {m : Bool} {last key : Option Str} {xs r : List TApiCell} (h : prsK m last xs = some (key, r)) : xs = keyC key ++ r ∧ keyOk m last key = true := by
 unfold prsK at h
 cases m with
 | false => cases h; exact ⟨rfl, rfl⟩
 | true =>
  simp only [cond_true] at h
  cases xs with
  | nil => cases h
  | cons c r' =>
   simp only at h
   cases hb : (pl c && decide (c.fKind = 4) && keyOk true last (some c.fStr)) with
   | false => rw [hb] at h; cases h
   | true =>
    rw [hb] at h
    simp only [Bool.and_eq_true, decide_eq_true_eq] at hb
    cases h
    exact ⟨by rw [(pl_key hb.1.1 hb.1.2).1]; rfl, hb.2⟩
theorem prs_ok : ∀ (F : Nat) (m : Bool) (last : Option Str) (k : Nat) (xs : List TApiCell) (f : Fo) (ys : List TApiCell), prs F m last k xs = some (f, ys) → xs = f.flat ++ ys ∧ f.wf m last = true ∧ f.cnt = k
 | 0, _, _, _, _, _, _, h => by cases h
 | F + 1, m, last, 0, xs, f, ys, h => by cases h; exact ⟨rfl, rfl, rfl⟩
 | F + 1, m, last, k + 1, xs, f, ys, h => by
  rw [prs] at h
  cases hk : prsK m last xs with
  | none => rw [hk] at h; cases h
  | some p =>
   obtain ⟨key, r⟩ := p
   obtain ⟨h1, h2⟩ := prsK_ok hk
   rw [hk] at h
   cases r with
   | nil => cases h
   | cons c xs' =>
    simp only at h
    cases hp : pl c with
    | false => rw [hp] at h; cases h
    | true =>
     rw [hp] at h
     simp only [Bool.not_true, cond_false] at h
     cases hn : decide (0 < c.fN) with
     | true =>
      rw [hn] at h
      simp only [cond_true] at h
      cases hq : prs F (decide (c.fKind = 6)) none c.fN.toNat xs' with
      | none => rw [hq] at h; cases h
      | some q =>
       obtain ⟨kids, zs⟩ := q
       rw [hq] at h
       simp only at h
       cases hr : prs F m key k zs with
       | none => rw [hr] at h; cases h
       | some q2 =>
        obtain ⟨r2, us⟩ := q2
        rw [hr] at h; cases h
        obtain ⟨a1, a2, a3⟩ := prs_ok F _ _ _ _ _ _ hq
        obtain ⟨b1, b2, b3⟩ := prs_ok F _ _ _ _ _ _ hr
        refine ⟨by rw [h1, a1, b1]; simp [Fo.flat], ?_, by simp [Fo.cnt, b3]⟩
        simp only [decide_eq_true_eq] at hn
        simp only [Fo.wf, h2, hp, a2, b2, Bool.and_true, Bool.true_and, Bool.and_eq_true, decide_eq_true_eq]
        omega
     | false =>
      rw [hn] at h
      simp only [cond_false] at h
      cases hr : prs F m key k xs' with
      | none => rw [hr] at h; cases h
      | some q2 =>
       obtain ⟨r2, us⟩ := q2
       rw [hr] at h; cases h
       obtain ⟨b1, b2, b3⟩ := prs_ok F _ _ _ _ _ _ hr
       exact ⟨by rw [h1, b1]; simp [Fo.flat], by simp [Fo.wf, h2, hp, b2, hn], by simp [Fo.cnt, b3]⟩
theorem prs_fuel : ∀ (F F' : Nat) (m : Bool) (last : Option Str) (k : Nat) (xs : List TApiCell), xs.length < F → xs.length < F' → prs F m last k xs = prs F' m last k xs
 | 0, _, _, _, _, _, h, _ => by omega
 | _ + 1, 0, _, _, _, _, _, h => by omega
 | F + 1, F' + 1, m, last, 0, xs, _, _ => rfl
 | F + 1, F' + 1, m, last, k + 1, xs, h, h' => by
  rw [prs, prs]
  cases hk : prsK m last xs with
  | none => rfl
  | some p =>
   obtain ⟨key, r⟩ := p
   obtain ⟨h1, h2⟩ := prsK_ok hk
   cases r with
   | nil => rfl
   | cons c xs' =>
    have hl : xs'.length < xs.length := by rw [h1]; simp; omega
    simp only
    cases hp : pl c with
    | false => rfl
    | true =>
     simp only [Bool.not_true, cond_false]
     cases hn : decide (0 < c.fN) with
     | true =>
      simp only [cond_true]
      rw [prs_fuel F F' _ _ _ xs' (by omega) (by omega)]
      cases hq : prs F' (decide (c.fKind = 6)) none c.fN.toNat xs' with
      | none => rfl
      | some q =>
       obtain ⟨kids, zs⟩ := q
       have := (prs_ok _ _ _ _ _ _ _ hq).1
       have hz : zs.length ≤ xs'.length := by rw [this]; simp
       simp only
       rw [prs_fuel F F' m key k zs (by omega) (by omega)]
     | false =>
      simp only [cond_false]
      rw [prs_fuel F F' m key k xs' (by omega) (by omega)]
def Bad {S : Type} (body : S → Option (Stp S LkO)) (s : S) : Prop := ∃ sh', Fin body s (.ret (0, sh', false)) ∨ Fin body s (.go sh')
theorem Reach.bad {S : Type} {body : S → Option (Stp S LkO)} {s t : S} (h : Reach body s t) (h' : Bad body t) : Bad body s := by
 obtain ⟨sh', h' | h'⟩ := h'
 ·exact ⟨sh', .inl (h.fin h')⟩
 ·exact ⟨sh', .inr (h.fin h')⟩
section
variable {F M : Nat} {v : List TApiCell}
theorem Bad.end_ {S : List TValueOpen} {i : Int} {sh : TValueShape} (h0 : 0 ≤ i) (h : v.drop i.toNat = []) : Bad (lkB F v) (S.reverse, i, sh) := by
 refine ⟨sh, .inr (Fin.step ?_)⟩
 show vLook_b1 F v S.reverse i sh = _
 unfold vLook_b1
 rw [cnd_ff]
 have : v.length ≤ i.toNat := by simpa using h
 simp; omega
theorem Bad.pl_ (hA : LkA F M v) {S : List TValueOpen} {i : Int} {sh : TValueShape} {c : TApiCell} {r : List TApiCell} (h0 : 0 ≤ i) (h : v.drop i.toNat = c :: r) (hS : (S.length : Int) ≤ i) (hb : lefts S) (hp : pl c = false) : Bad (lkB F v) (S.reverse, i, sh) := by
 refine ⟨sh, .inl (Fin.step ?_)⟩
 rw [round hA h0 h hS hb]
 simp [lkc, hp]
theorem forest_bad (hA : LkA F M v) : ∀ (P : Nat) (k : Nat) (e : TValueOpen) (S : List TValueOpen) (i : Int) (sh : TValueShape) (last : Option Str) (xs : List TApiCell), xs.length < P → prs P e.fPairs last (k + 1) xs = none → e.fKey = e.fPairs → e.fLeft = (k : Int) + 1 → (k : Int) + 1 ≤ 9223372036854775807 → lastOk e last → (e.fPairs = false → last = none) → v.drop i.toNat = xs → 0 ≤ i → (S.length : Int) + 1 ≤ i → lefts S →
  Bad (lkB F v) ((e :: S).reverse, i, sh) := by
 intro P
 induction P with
 | zero => intro k e S i sh last xs h; omega
 | succ P ih =>
  intro k e S i sh last xs hP hn hk hl hkm hlo hm hv h0 hS hb
  have hb' : lefts (e :: S) := fun x hx => by
   rcases List.mem_cons.1 hx with rfl | hx
   ·constructor <;> omega
   ·exact hb x hx
  rw [prs] at hn
  cases hq : prsK e.fPairs last xs with
  | none =>
   unfold prsK at hq
   cases hpr : e.fPairs with
   | false => rw [hpr] at hq; cases hq
   | true =>
    rw [hpr] at hq hk
    simp only [cond_true] at hq
    cases xs with
    | nil => exact Bad.end_ h0 hv
    | cons c r =>
     simp only at hq
     cases hp : pl c with
     | false => exact Bad.pl_ hA h0 hv (by simpa using hS) hb' hp
     | true =>
      refine ⟨sh, .inl (Fin.step ?_)⟩
      rw [round hA h0 hv (by simpa using hS) hb']
      have ht : (!decide (c.fKind = 4) || (e.fStarted && (sLess c.fStr e.fLast || decide (c.fStr = e.fLast)))) = true := by
       rw [hp] at hq
       cases h4 : decide (c.fKind = 4) with
       | false => rfl
       | true =>
        rw [h4] at hq
        simp only [Bool.and_self, Bool.true_and] at hq
        have hok := (pl_key hp (by simpa using h4)).2
        cases last with
        | none => simp [keyOk, hok] at hq
        | some p =>
         obtain ⟨q1, q2⟩ := hlo
         rw [q1, q2]
         cases hc : (sLess c.fStr p || decide (c.fStr = p)) with
         | true => rfl
         | false => simp [keyOk, hok, hc] at hq
      simp only [lkc, hp, hk, ht, Bool.not_true, cond_false, cond_true]
  | some q =>
   obtain ⟨key, r⟩ := q
   obtain ⟨h1, h2⟩ := prsK_ok hq
   rw [hq] at hn
   have hkr := keyRound (sh := sh) hA h0 (by rw [hv]; exact h1) hS hb' (by rw [hk]; exact h2) hlo
   have hv1 := drop_app h0 (hv.trans h1)
   obtain ⟨kl, kp⟩ := keyed_left (e := e) key
   obtain ⟨q1, q2⟩ := keyed_last hlo hm h2
   have hbk : lefts (keyed e key :: S) := fun x hx => by
    rcases List.mem_cons.1 hx with rfl | hx
    ·rw [kl]; exact hb' e (by simp)
    ·exact hb x hx
   refine hkr.bad ?_
   cases r with
   | nil => exact Bad.end_ (by omega) hv1
   | cons c xs' =>
    have hlen : xs'.length + 1 ≤ xs.length := by rw [h1]; simp
    have hvl : xs.length ≤ v.length := by rw [← hv, List.length_drop]; omega
    have hvM := hA.hv; have hMM := hA.hM
    have hkk := keyed_key (e := e) (last := last) (k := key) (by rw [hk]; exact h2)
    simp only at hn
    have hSk : (((keyed e key :: S).length : Nat) : Int) ≤ i + (keyC key).length := by simp only [List.length_cons]; omega
    cases hp : pl c with
    | false => exact Bad.pl_ hA (by omega) hv1 hSk hbk hp
    | true =>
     rw [hp] at hn
     simp only [Bool.not_true, cond_false] at hn
     obtain ⟨g1, g2, g3⟩ := drop_get (by omega) hv1
     have hcN := (hA.hc c (List.mem_of_getElem? g1)).2.2
     -- what follows a whole value
     have more : ∀ (s : LkS) (j : Int) (sh' : TValueShape) (zs : List TApiCell), Done (lkB F v) s (keyed e key :: S) j sh' → v.drop j.toNat = zs → zs.length < P → 0 ≤ j → (S.length : Int) + 1 ≤ j → prs P e.fPairs key k zs = none → Bad (lkB F v) s := fun s j sh' zs hd hz hzl hj hSj hnone => by
      cases k with
      | zero =>
       cases P with
       | zero => omega
       | succ P => cases hnone
      | succ k =>
       have := hd.more (by rw [kl]; omega)
       refine this.bad (ih k _ S j sh' key zs hzl (by rw [kp]; exact hnone) rfl (by simp only [kl]; omega) (by omega) ?_ (by simpa using q2) hz hj hSj hb)
       cases key with
       | none => exact q1
       | some p => exact q1
     cases hN : decide (0 < c.fN) with
     | true =>
      rw [hN] at hn
      simp only [cond_true] at hn
      simp only [decide_eq_true_eq] at hN
      by_cases hbig : c.fN ≤ v.length
      ·have hnd := nodeRound (sh := shK key sh) hA (by omega) hv1 hSk hbk (by simpa [keyTop] using hkk) hp (by simpa using hN) hbig
       refine hnd.bad ?_
       cases hks : prs P (decide (c.fKind = 6)) none c.fN.toNat xs' with
       | none =>
        obtain ⟨n', hn'⟩ : ∃ n', c.fN.toNat = n' + 1 := ⟨c.fN.toNat - 1, by omega⟩
        rw [hn'] at hks
        exact ih n' _ _ _ _ none xs' (by omega) hks rfl (by simp only; omega) (by omega) rfl (fun _ => rfl) g2 (by omega) (by simp only [List.length_cons]; omega) hbk
       | some q =>
        obtain ⟨kids, zs⟩ := q
        rw [hks] at hn
        simp only at hn
        have hn2 : prs P e.fPairs key k zs = none := by
         cases hz : prs P e.fPairs key k zs with
         | none => rfl
         | some q => rw [hz] at hn; cases hn
        obtain ⟨a1, a2, a3⟩ := prs_ok _ _ _ _ _ _ _ hks
        have hd := forest_look hA kids ⟨decide (c.fKind = 6), c.fN, decide (c.fKind = 6), [], false⟩ (keyed e key :: S) (i + (keyC key).length + 1) (shc (S.length + 1) (shK key sh) c) none zs (by omega) a2 rfl (by simp only; omega) rfl (fun _ => rfl) (by rw [g2]; exact a1) (by omega) (by simp only [List.length_cons]; omega) hbk
        have hz : v.drop (i + (keyC key).length + 1 + kids.flat.length).toNat = zs := drop_app (by omega) (g2.trans a1)
        have hzl : zs.length ≤ xs'.length := by rw [a1]; simp
        exact more _ _ _ zs hd hz (by omega) (by omega) (by omega) hn2
      ·refine ⟨shc (keyed e key :: S).length (shK key sh) c, .inl (Fin.step ?_)⟩
       rw [round hA (by omega) hv1 hSk hbk]
       have hbig' : decide ((v.length : Int) < c.fN) = true := by simpa using hbig
       simp only [lkc, hp, hkk, hbig', hN, Bool.not_true, cond_false, cond_true, decide_true]
     | false =>
      rw [hN] at hn
      simp only [cond_false] at hn
      have hn2 : prs P e.fPairs key k xs' = none := by
       cases hz : prs P e.fPairs key k xs' with
       | none => rfl
       | some q => rw [hz] at hn; cases hn
      have hd := leafRound (sh := shK key sh) hA (by omega) hv1 hSk hbk (by simpa [keyTop] using hkk) hp hN
      exact more _ _ _ xs' hd g2 (by omega) (by omega) (by omega) hn2
def prs1 (xs : List TApiCell) : Option (Fo × List TApiCell) := prs (xs.length + 1) false none 1 xs
theorem prs_one {P : Nat} {xs ys : List TApiCell} {f : Fo} (h : prs P false none 1 xs = some (f, ys)) : f.one = true := by
 obtain ⟨h1, h2, h3⟩ := prs_ok _ _ _ _ _ _ _ h
 cases f with
 | nil => cases h3
 | cell k c r =>
  cases r with
  | nil =>
   cases k with
   | none => rfl
   | some s => simp [Fo.wf, keyOk] at h2
  | cell _ _ _ => simp [Fo.cnt] at h3
  | node _ _ _ _ => simp [Fo.cnt] at h3
 | node k c kids r =>
  cases r with
  | nil =>
   cases k with
   | none => rfl
   | some s => simp [Fo.wf, keyOk] at h2
  | cell _ _ _ => simp [Fo.cnt] at h3
  | node _ _ _ _ => simp [Fo.cnt] at h3
theorem look_bad0 (hA : LkA F M v) (h : prs1 v = none) : Bad (lkB F v) ([], 0, sh0) := by
 have hlf : lefts [] := fun x hx => by cases hx
 unfold prs1 at h
 rw [prs] at h
 simp only [prsK, cond_false] at h
 cases v with
 | nil => exact Bad.end_ (S := []) (Int.le_refl 0) rfl
 | cons c xs' =>
  have hv1 : (c :: xs').drop (0 : Int).toNat = c :: xs' := rfl
  have hvM := hA.hv; have hMM := hA.hM
  simp only at h
  cases hp : pl c with
  | false => exact Bad.pl_ (S := []) hA (Int.le_refl 0) hv1 (by simp) hlf hp
  | true =>
   rw [hp] at h
   simp only [Bool.not_true, cond_false] at h
   have hcN := (hA.hc c (by simp)).2.2
   cases hN : decide (0 < c.fN) with
   | true =>
    rw [hN] at h
    simp only [cond_true] at h
    simp only [decide_eq_true_eq] at hN
    by_cases hbig : c.fN ≤ (c :: xs').length
    ·have hnd := nodeRound (S := []) (sh := sh0) hA (Int.le_refl 0) hv1 (by simp) hlf rfl hp (by simpa using hN) hbig
     refine hnd.bad ?_
     cases hks : prs (c :: xs').length (decide (c.fKind = 6)) none c.fN.toNat xs' with
     | none =>
      obtain ⟨n', hn'⟩ : ∃ n', c.fN.toNat = n' + 1 := ⟨c.fN.toNat - 1, by omega⟩
      rw [hn'] at hks
      exact forest_bad hA (c :: xs').length n' ⟨decide (c.fKind = 6), c.fN, decide (c.fKind = 6), [], false⟩ [] (0 + 1) _ none xs' (by simp) hks rfl (by simp only; omega) (by omega) rfl (fun _ => rfl) rfl (by omega) (by simp) hlf
     | some q => rw [hks] at h; cases h
    ·refine ⟨shc 0 sh0 c, .inl (Fin.step ?_)⟩
     rw [show lkB F (c :: xs') (([] : List TValueOpen), 0, sh0) = _ from round (S := []) hA (Int.le_refl 0) hv1 (by simp) hlf]
     have hbig' : decide (((c :: xs').length : Int) < c.fN) = true := by simpa using hbig
     simp only [lkc, hp, hbig', hN, Bool.not_true, cond_false, cond_true, decide_true]
   | false => rw [hN] at h; cases h
theorem look_eq (hA : LkA F M v) : (∃ f ys, prs1 v = some (f, ys) ∧ vLook F v = some ((f.flat.length : Int), f.sh 0 sh0, true)) ∨ (prs1 v = none ∧ ∃ sh', vLook F v = some (0, sh', false)) := by
 cases h : prs1 v with
 | some q =>
  obtain ⟨f, ys⟩ := q
  obtain ⟨h1, h2, h3⟩ := prs_ok _ _ _ _ _ _ _ h
  exact .inl ⟨f, ys, rfl, look_val hA (prs_one h) h2 h1⟩
 | none =>
  refine .inr ⟨rfl, ?_⟩
  obtain ⟨o, ho, _⟩ := look_total hA
  obtain ⟨sh', hb | hb⟩ := look_bad0 hA h
  ·have e := hb.eq ho
   subst e
   exact ⟨sh', by unfold vLook; rw [obn_s ho]; rfl⟩
  ·have e := hb.eq ho
   subst e
   exact ⟨sh', by unfold vLook; rw [obn_s ho]; rfl⟩
end
end Go.Proofs.YtkalifgebccpcaaDoor

/-
 Forests: depth, bytes, text; what value.look tells of them. Plain laws.
-/
namespace Go.Proofs.YtkalifgebccpcaaDoor
open Go
set_option linter.unusedVariables false
set_option linter.unusedSimpArgs false
theorem wrap_id {x : Int} (h : -9223372036854775808 ≤ x) (h' : x ≤ 9223372036854775807) : IntKind.wrap .i64 x = x := by
 simp only [IntKind.wrap, IntKind.bits, IntKind.signed]
 simp
 omega
def Fo.dep : Fo → Nat
 | .nil => 0
 | .cell _ _ r => max 1 r.dep
 | .node _ _ kids r => max (kids.dep + 1) r.dep
theorem shK_depth (k : Option Str) (s : TValueShape) : (shK k s).fDepth = s.fDepth ∧ (shK k s).fOutside = s.fOutside ∧ (shK k s).fLong = (s.fLong || (keyC k).any fun c => decide (200 < (c.fStr.length : Int))) := by
 cases k with
 | none => simp [shK, keyC]
 | some x => simp [shK, shk, keyC]
theorem sh_depth : ∀ (f : Fo) (d : Nat) (s : TValueShape), (d : Int) ≤ s.fDepth → (f.sh d s).fDepth = max s.fDepth ((d : Int) + f.dep)
 | .nil, d, s, h => by simp only [Fo.sh, Fo.dep]; omega
 | .cell k c r, d, s, h => by
  have hk := (shK_depth k s).1
  have e : (shc d (shK k s) c).fDepth = max s.fDepth ((d : Int) + 1) := by rw [shc, hk]
  rw [Fo.sh, sh_depth r d _ (by rw [e]; omega), e, Fo.dep]; omega
 | .node k c kids r, d, s, h => by
  have hk := (shK_depth k s).1
  have e : (shc d (shK k s) c).fDepth = max s.fDepth ((d : Int) + 1) := by rw [shc, hk]
  have e2 := sh_depth kids (d + 1) (shc d (shK k s) c) (by rw [e]; omega)
  rw [e] at e2
  rw [Fo.sh, sh_depth r d _ (by rw [e2]; omega), e2, Fo.dep]; omega
def outC (c : TApiCell) : Bool := decide (c.fKind = 3) && !(decide ((-1000000000000) ≤ c.fInt) && decide (c.fInt ≤ 1000000000000))
def longC (c : TApiCell) : Bool := decide (200 < (c.fStr.length : Int))
theorem keyC_out (k : Option Str) : (keyC k).any outC = false := by cases k <;> simp [keyC, outC]
theorem sh_out : ∀ (f : Fo) (d : Nat) (s : TValueShape), (f.sh d s).fOutside = (s.fOutside || f.flat.any outC)
 | .nil, d, s => by simp [Fo.sh, Fo.flat]
 | .cell k c r, d, s => by
  rw [Fo.sh, sh_out r, shc, (shK_depth k s).2.1]
  simp only [Fo.flat, List.any_append, List.any_cons, keyC_out, Bool.false_or, Bool.or_assoc]
  rfl
 | .node k c kids r, d, s => by
  rw [Fo.sh, sh_out r, sh_out kids, shc, (shK_depth k s).2.1]
  simp only [Fo.flat, List.any_append, List.any_cons, keyC_out, Bool.false_or, Bool.or_assoc]
  rfl
theorem sh_long : ∀ (f : Fo) (d : Nat) (s : TValueShape), (f.sh d s).fLong = (s.fLong || f.flat.any longC)
 | .nil, d, s => by simp [Fo.sh, Fo.flat]
 | .cell k c r, d, s => by
  rw [Fo.sh, sh_long r, shc, (shK_depth k s).2.2]
  simp only [Fo.flat, List.any_append, List.any_cons, Bool.or_assoc]
  rfl
 | .node k c kids r, d, s => by
  rw [Fo.sh, sh_long r, sh_long kids, shc, (shK_depth k s).2.2]
  simp only [Fo.flat, List.any_append, List.any_cons, Bool.or_assoc]
  rfl
def lsz (c : TApiCell) : Int :=
 bif decide (c.fKind = 1) then 4 else bif decide (c.fKind = 2) then 5 - c.fInt else bif decide (c.fKind = 3) then ((Lib.itoa c.fInt).length : Int) else
 bif decide (c.fKind = 4) then qlen c.fStr else 2
def kbn : Option Str → Int
 | none => 0
 | some s => qlen s + 1
def Fo.byt : Fo → Int
 | .nil => 0
 | .cell k c r => kbn k + lsz c + r.byt
 | .node k c kids r => kbn k + (c.fN + 1) + kids.byt + r.byt
theorem qlen_pos (s : Str) : 2 ≤ qlen s := by unfold qlen; omega
theorem kbn_pos (k : Option Str) : 0 ≤ kbn k := by
 cases k with
 | none => exact Int.le_refl 0
 | some s => have := qlen_pos s; simp only [kbn]; omega
theorem lsz_pos {c : TApiCell} (hp : pl c = true) : 0 ≤ lsz c := by
 unfold lsz
 cases h1 : decide (c.fKind = 1) with
 | true => simp
 | false =>
  cases h2 : decide (c.fKind = 2) with
  | true =>
   simp [pl, h1, h2] at hp
   simp only [cond_false, cond_true]; omega
  | false =>
   cases h3 : decide (c.fKind = 3) with
   | true => simp
   | false =>
    cases h4 : decide (c.fKind = 4) with
    | true => have := qlen_pos c.fStr; simp only [cond_false, cond_true]; omega
    | false => simp
theorem pl_N {c : TApiCell} (hp : pl c = true) : 0 ≤ c.fN := by
 simp only [pl, ← Bool.decide_or] at hp
 cases h1 : decide (c.fKind = 1) <;> cases h2 : decide (c.fKind = 2) <;> cases h3 : decide (c.fKind = 3) <;> cases h4 : decide (c.fKind = 4) <;> cases h5 : decide (c.fKind = 5) <;> cases h6 : decide (c.fKind = 6) <;> simp [h1, h2, h3, h4, h5, h6] at hp <;> omega
theorem pl_node {c : TApiCell} (hp : pl c = true) (hn : 0 < c.fN) : (c.fKind = 5 ∨ c.fKind = 6) ∧ c.fInt = 0 ∧ c.fStr = [] := by
 cases h1 : decide (c.fKind = 1) <;> cases h2 : decide (c.fKind = 2) <;> cases h3 : decide (c.fKind = 3) <;> cases h4 : decide (c.fKind = 4) <;> cases h5 : decide (c.fKind = 5) <;> cases h6 : decide (c.fKind = 6) <;> simp [pl, h1, h2, h3, h4, h5, h6] at hp <;> (simp only [decide_eq_true_eq, decide_eq_false_iff_not] at *; first | omega | exact ⟨by omega, hp.1, hp.2.1⟩)
theorem szc_leaf {c : TApiCell} (hp : pl c = true) (hn : decide (0 < c.fN) = false) : szc c = lsz c := by
 have hN := pl_N hp
 have h0 : c.fN = 0 := by simp only [decide_eq_false_iff_not] at hn; omega
 unfold szc lsz
 rw [h0]
 cases h1 : decide (c.fKind = 1) with
 | true => rfl
 | false =>
  cases h2 : decide (c.fKind = 2) with
  | true =>
   simp [pl, h1, h2] at hp
   simp only [cond_false, cond_true]
   exact wrap_id (by omega) (by omega)
  | false => rfl
theorem szc_node {c : TApiCell} (hp : pl c = true) (hn : 0 < c.fN) (hm : c.fN ≤ 9223372036854775000) : szc c = c.fN + 1 := by
 obtain ⟨hk, _, _⟩ := pl_node hp hn
 unfold szc
 rw [decide_eq_false (by omega), decide_eq_false (by omega), decide_eq_false (by omega), decide_eq_false (by omega)]
 simp only [cond_false]
 rw [wrap_id (x := c.fN - 1) (by omega) (by omega), wrap_id (by omega) (by omega)]; omega
theorem byt_pos : ∀ {f : Fo} {m : Bool} {l : Option Str}, f.wf m l = true → 0 ≤ f.byt
 | .nil, _, _, _ => Int.le_refl 0
 | .cell k c r, m, l, h => by
  simp only [Fo.wf, Bool.and_eq_true] at h
  have h1 := byt_pos h.2; have h2 := lsz_pos h.1.1.2; have h3 := kbn_pos k
  simp only [Fo.byt]; omega
 | .node k c kids r, m, l, h => by
  simp only [Fo.wf, Bool.and_eq_true, decide_eq_true_eq] at h
  have h1 := byt_pos h.2; have h2 := byt_pos h.1.2; have h3 := kbn_pos k
  simp only [Fo.byt]; omega
theorem shK_bytes (k : Option Str) (s : TValueShape) (h0 : 0 ≤ s.fBytes) (h : s.fBytes + kbn k ≤ 9223372036854775807) : (shK k s).fBytes = s.fBytes + kbn k := by
 cases k with
 | none => simp [shK, kbn]
 | some x =>
  have := qlen_pos x
  simp only [kbn] at h
  simp only [shK, shk, kbn]
  exact wrap_id (by omega) (by omega)
theorem sh_bytes : ∀ (f : Fo) (m : Bool) (l : Option Str) (d : Nat) (s : TValueShape), f.wf m l = true → 0 ≤ s.fBytes → s.fBytes + f.byt ≤ 9223372036854775000 → (f.sh d s).fBytes = s.fBytes + f.byt
 | .nil, _, _, d, s, _, _, _ => by simp [Fo.sh, Fo.byt]
 | .cell k c r, m, l, d, s, hw, h0, h => by
  simp only [Fo.wf, Bool.and_eq_true, Bool.not_eq_true'] at hw
  obtain ⟨⟨⟨w1, w2⟩, w3⟩, w4⟩ := hw
  have h1 := byt_pos w4; have h2 := lsz_pos w2; have h3 := kbn_pos k
  simp only [Fo.byt] at h
  have e1 := shK_bytes k s h0 (by omega)
  have e : (shc d (shK k s) c).fBytes = s.fBytes + kbn k + lsz c := by
   rw [shc, e1, szc_leaf w2 w3]; exact wrap_id (by omega) (by omega)
  rw [Fo.sh, sh_bytes r _ _ d _ w4 (by rw [e]; omega) (by rw [e]; omega), e, Fo.byt]; omega
 | .node k c kids r, m, l, d, s, hw, h0, h => by
  simp only [Fo.wf, Bool.and_eq_true, decide_eq_true_eq] at hw
  obtain ⟨⟨⟨⟨⟨w1, w2⟩, w3⟩, w5⟩, w6⟩, w4⟩ := hw
  have h1 := byt_pos w4; have h2 := byt_pos w6; have h3 := kbn_pos k
  simp only [Fo.byt] at h
  have e1 := shK_bytes k s h0 (by omega)
  have e : (shc d (shK k s) c).fBytes = s.fBytes + kbn k + (c.fN + 1) := by
   rw [shc, e1, szc_node w2 w3 (by omega)]; exact wrap_id (by omega) (by omega)
  have e2 := sh_bytes kids _ _ (d + 1) (shc d (shK k s) c) w6 (by rw [e]; omega) (by rw [e]; omega)
  rw [Fo.sh, sh_bytes r _ _ d _ w4 (by rw [e2, e]; omega) (by rw [e2, e]; omega), e2, e, Fo.byt]; omega
def escS (s : Str) : Str := s.flatMap fun c => bif (decide (c = 34) || decide (c = 92)) then [92, c] else [c]
def quoS (s : Str) : Str := 34 :: (escS s ++ [34])
theorem escS_len : ∀ s : Str, (escS s).length = s.length + s.count 34 + s.count 92
 | [] => rfl
 | c :: s => by
  have ih := escS_len s
  unfold escS at ih ⊢
  rw [List.flatMap_cons, List.length_append, ih]
  by_cases h1 : c = 34
  ·subst h1; simp; omega
  ·by_cases h2 : c = 92
   ·subst h2; simp; omega
   ·simp [h1, h2, List.count_cons]; omega
theorem quoS_len (s : Str) : ((quoS s).length : Int) = qlen s := by
 simp only [quoS, List.length_cons, List.length_append, escS_len, List.length_nil, qlen]; omega
def leafT (c : TApiCell) : Str :=
 bif decide (c.fKind = 1) then [110, 117, 108, 108] else
 bif decide (c.fKind = 2) then (bif decide (c.fInt = 1) then [116, 114, 117, 101] else [102, 97, 108, 115, 101]) else
 bif decide (c.fKind = 3) then Lib.itoa c.fInt else
 bif decide (c.fKind = 4) then quoS c.fStr else
 bif decide (c.fKind = 6) then [123, 125] else [91, 93]
def ktx : Option Str → Str
 | none => []
 | some s => quoS s ++ [58]
def brk (c : TApiCell) (s : Str) : Str := bif decide (c.fKind = 6) then 123 :: (s ++ [125]) else 91 :: (s ++ [93])
def sepT (first : Bool) : Str := bif first then [] else [44]
def Fo.txt : Bool → Fo → Str
 | _, .nil => []
 | b, .cell k c r => sepT b ++ ktx k ++ leafT c ++ r.txt false
 | b, .node k c kids r => sepT b ++ ktx k ++ brk c (kids.txt true) ++ r.txt false
theorem ktx_len (k : Option Str) : ((ktx k).length : Int) = kbn k := by
 cases k with
 | none => rfl
 | some s => simp only [ktx, List.length_append, kbn, List.length_singleton]; have := quoS_len s; omega
theorem leafT_len {c : TApiCell} (hp : pl c = true) : ((leafT c).length : Int) = lsz c := by
  unfold leafT lsz
  cases h1 : decide (c.fKind = 1) with
  | true => rfl
  | false =>
    cases h2 : decide (c.fKind = 2) with
    | true =>
      simp [pl, h1, h2] at hp
      simp only [cond_false, cond_true]
      cases h7 : decide (c.fInt = 1) with
      | true => simp only [decide_eq_true_eq] at h7; simp [h7]
      | false => simp only [decide_eq_false_iff_not] at h7; have : c.fInt = 0 := by omega
                 simp [this]
    | false =>
      cases h3 : decide (c.fKind = 3) with
      | true => rfl
      | false =>
        cases h4 : decide (c.fKind = 4) with
        | true => simpa using quoS_len c.fStr
        | false => cases h6 : decide (c.fKind = 6) <;> rfl
theorem brk_len (c : TApiCell) (s : Str) : (brk c s).length = s.length + 2 := by
 unfold brk
 cases decide (c.fKind = 6) <;> simp
theorem txt_len : ∀ (f : Fo) (m : Bool) (l : Option Str) (b : Bool), f.wf m l = true → ((f.txt b).length : Int) = f.byt + (bif b then ((f.cnt - 1 : Nat) : Int) else (f.cnt : Int))
 | .nil, m, l, b, _ => by cases b <;> rfl
 | .cell k c r, m, l, b, hw => by
  simp only [Fo.wf, Bool.and_eq_true, Bool.not_eq_true'] at hw
  obtain ⟨⟨⟨w1, w2⟩, w3⟩, w4⟩ := hw
  have ih := txt_len r _ _ false w4
  have a := ktx_len k; have d := leafT_len w2
  simp only [cond_false] at ih
  cases b <;> simp only [Fo.txt, Fo.byt, Fo.cnt, sepT, cond_true, cond_false, List.length_append, List.length_nil, List.length_singleton] <;> omega
 | .node k c kids r, m, l, b, hw => by
  simp only [Fo.wf, Bool.and_eq_true, decide_eq_true_eq] at hw
  obtain ⟨⟨⟨⟨⟨w1, w2⟩, w3⟩, w5⟩, w6⟩, w4⟩ := hw
  have ih := txt_len r _ _ false w4
  have ih2 := txt_len kids _ _ true w6
  have a := ktx_len k; have d := brk_len c (kids.txt true)
  simp only [cond_false, cond_true] at ih ih2
  cases b <;> simp only [Fo.txt, Fo.byt, Fo.cnt, sepT, cond_true, cond_false, List.length_append, List.length_nil, List.length_singleton] <;> omega
def Fo.put (k : Option Str) : Fo → Fo → Fo
 | .cell _ c _, r => .cell k c r
 | .node _ c kids _, r => .node k c kids r
 | .nil, _ => .nil
theorem prs_cons (P : Nat) (m : Bool) (last : Option Str) (k : Nat) (xs : List TApiCell) : prs (P + 2) m last (k + 1) xs =
  match prsK m last xs with
  | none => none
  | some (key, ys) => match prs (P + 2) false none 1 ys with
   | none => none
   | some (f, zs) => match prs (P + 1) m key k zs with
    | none => none
    | some (r, us) => some (f.put key r, us) := by
 rw [prs]
 cases hk : prsK m last xs with
 | none => rfl
 | some p =>
  obtain ⟨key, ys⟩ := p
  simp only
  rw [prs]
  simp only [prsK, cond_false]
  cases ys with
  | nil => rfl
  | cons c ys =>
   simp only
   cases hp : pl c with
   | false => rfl
   | true =>
    simp only [Bool.not_true, cond_false]
    cases hn : decide (0 < c.fN) with
    | true =>
     simp only [cond_true]
     cases hq : prs (P + 1) (decide (c.fKind = 6)) none c.fN.toNat ys with
     | none => rfl
     | some q =>
      obtain ⟨kids, zs⟩ := q
      simp only [prs]
      cases hr : prs (P + 1) m key k zs with
      | none => rfl
      | some q => obtain ⟨a, b⟩ := q; rfl
    | false =>
     simp only [cond_false, prs]
     cases hr : prs (P + 1) m key k ys with
     | none => rfl
     | some q => obtain ⟨a, b⟩ := q; rfl
end Go.Proofs.YtkalifgebccpcaaDoor

/-
 The reference reads values as the plain reader does. Plain laws.
-/
namespace Go.Proofs.YtkalifgebccpcaaDoor
open Go
set_option linter.unusedVariables false
set_option linter.unusedSimpArgs false
def prsF (m : Bool) (last : Option Str) (k : Nat) (xs : List TApiCell) : Option (Fo × List TApiCell) := prs (xs.length + 1) m last k xs
theorem prsF_zero (m : Bool) (last : Option Str) (xs : List TApiCell) : prsF m last 0 xs = some (.nil, xs) := rfl
theorem prsF_cons (m : Bool) (last : Option Str) (k : Nat) (xs : List TApiCell) : prsF m last (k + 1) xs =
  match prsK m last xs with
  | none => none
  | some (key, ys) => match prs1 ys with
   | none => none
   | some (f, zs) => match prsF m key k zs with
    | none => none
    | some (r, us) => some (f.put key r, us) := by
 unfold prsF prs1
 rw [prs_fuel (xs.length + 1) (xs.length + 2) m last (k + 1) xs (by omega) (by omega), prs_cons]
 cases hk : prsK m last xs with
 | none => rfl
 | some p =>
  obtain ⟨key, ys⟩ := p
  have h1 := (prsK_ok hk).1
  have hy : ys.length ≤ xs.length := by rw [h1]; simp
  simp only
  rw [prs_fuel (xs.length + 2) (ys.length + 1) false none 1 ys (by omega) (by omega)]
  cases hf : prs (ys.length + 1) false none 1 ys with
  | none => rfl
  | some q =>
   obtain ⟨f, zs⟩ := q
   have h2 := (prs_ok _ _ _ _ _ _ _ hf).1
   have hz : zs.length ≤ ys.length := by rw [h2]; simp
   simp only
   rw [prs_fuel (xs.length + 1) (zs.length + 1) m key k zs (by omega) (by omega)]
   all_goals (cases prs (zs.length + 1) m key k zs <;> rfl)
theorem lop_n {S O : Type} {body : S → Option (Stp S O)} {n : Nat} {s s' : S} {o : O} (h : body s = some (.next s')) (h' : lop body n s' = some o) : lop body (n + 1) s = some o := by rw [lop, h]; exact h'
theorem lop_o {S O : Type} {body : S → Option (Stp S O)} {n : Nat} {s : S} {o : O} (h : body s = some (.out o)) : lop body (n + 1) s = some o := by rw [lop, h]
theorem prs1_nil : prs1 [] = none := rfl
theorem prs1_cons (c : TApiCell) (r : List TApiCell) : prs1 (c :: r) = bif !pl c then none else bif decide (0 < c.fN) then (match prsF (decide (c.fKind = 6)) none c.fN.toNat r with
  | none => none
  | some (kids, zs) => some (.node none c kids .nil, zs)) else some (.cell none c .nil, r) := by
 unfold prs1
 rw [prs]
 simp only [prsK, cond_false]
 cases hp : pl c with
 | false => rfl
 | true =>
  simp only [Bool.not_true, cond_false]
  cases hn : decide (0 < c.fN) with
  | true =>
   simp only [cond_true]
   unfold prsF
   rw [List.length_cons]
   cases hq : prs (r.length + 1) (decide (c.fKind = 6)) none c.fN.toNat r with
   | none => rfl
   | some q => obtain ⟨kids, zs⟩ := q; rfl
  | false => rfl
theorem put_flat {f : Fo} (h : f.one = true) (key : Option Str) (r : Fo) : (f.put key r).flat = keyC key ++ (f.flat ++ r.flat) := by
 cases f with
 | nil => cases h
 | cell k c r' =>
  cases k with
  | some s => cases h
  | none => cases r' with
   | nil => simp [Fo.put, Fo.flat, keyC]
   | cell _ _ _ => cases h
   | node _ _ _ _ => cases h
 | node k c kids r' =>
  cases k with
  | some s => cases h
  | none => cases r' with
   | nil => simp [Fo.put, Fo.flat, keyC]
   | cell _ _ _ => cases h
   | node _ _ _ _ => cases h
theorem one_flat {f : Fo} (h : f.one = true) : 1 ≤ f.flat.length := by
 cases f with
 | nil => cases h
 | cell k c r' => simp [Fo.flat]; omega
 | node k c kids r' => simp [Fo.flat]; omega
theorem prs1_ok {xs ys : List TApiCell} {f : Fo} (h : prs1 xs = some (f, ys)) : xs = f.flat ++ ys ∧ f.wf false none = true ∧ f.one = true :=
 ⟨(prs_ok _ _ _ _ _ _ _ h).1, (prs_ok _ _ _ _ _ _ _ h).2.1, prs_one h⟩
def nxt (v : List TApiCell) (i : Int) : Int := match prs1 (v.drop i.toNat) with
 | none => -1
 | some (f, _) => i + f.flat.length
def nxts (m : Bool) (last : Option Str) (v : List TApiCell) (i : Int) (k : Nat) : Int := match prsF m last k (v.drop i.toNat) with
 | none => -1
 | some (f, _) => i + f.flat.length
theorem nxt_range {v : List TApiCell} {i : Int} (h0 : 0 ≤ i) (h1 : i ≤ v.length) : nxt v i = -1 ∨ (i < nxt v i ∧ nxt v i ≤ v.length) := by
 unfold nxt
 cases h : prs1 (v.drop i.toNat) with
 | none => exact .inl rfl
 | some q =>
  obtain ⟨f, ys⟩ := q
  obtain ⟨h2, _, h3⟩ := prs1_ok h
  have := one_flat h3
  have hl : (v.drop i.toNat).length = f.flat.length + ys.length := by rw [h2]; simp
  rw [List.length_drop] at hl
  right; simp only; omega
structure RfA (F M : Nat) (v : List TApiCell) : Prop where
 hM : M ≤ 1152921504606846976
 hv : v.length ≤ M
 hF : M < F
 hc : ∀ c ∈ v, c.fStr.length ≤ M
theorem rAfter_eq (ok : Bool) {i : Int} (h0 : 0 ≤ i) (h1 : i ≤ 1152921504606846976) : rAfter ok i = some (bif ok then i + 1 else -1) := by
 unfold rAfter
 cases ok
 ·rfl
 ·rw [cnd_tt rfl, chk_i64 (by omega) (by omega)]; rfl
theorem rKey_eq {F : Nat} {c : TApiCell} (hF : c.fStr.length < F) (hs : c.fStr.length ≤ 1152921504606846976) : rKey F c = some (decide (c.fKind = 4) && pl c) := by
 unfold rKey
 rw [rPlain_eq hF (by omega)]
 simp only [Option.isSome_some, ov, Option.getD_some, imp, Bool.or_true, chk, cond_true]
 cases h4 : decide (c.fKind = 4) with
 | false => rfl
 | true =>
  simp only [decide_eq_true_eq] at h4
  simp [pl, h4]
theorem at_drop {v : List TApiCell} {i : Int} {c : TApiCell} {r : List TApiCell} (h0 : 0 ≤ i) (h : v.drop i.toNat = c :: r) : at' v i = c := by
 have := (drop_get h0 h).1
 simp [at', this]
section
variable {M : Nat} {v : List TApiCell}
theorem rElements_lop {F : Nat} (hA : RfA F M v) {g : List TApiCell → Int → Option Int} {n : Int} (hn : n ≤ 9223372036854775807) : ∀ (L : Nat) (i x : Int), 0 ≤ i → i ≤ v.length → 0 ≤ x → x ≤ n → (∀ j, i ≤ j → j ≤ v.length → g v j = some (nxt v j)) → v.length - i.toNat < L →
  ∃ o, lop (fun σ => rElements_b1 v n g σ.1 σ.2) L (i, x) = some o ∧ oute (fun ν => rElements_k1 ν) o = some (nxts false none v i (n - x).toNat)
 | 0, i, x, _, _, _, _, _, h => by omega
 | L + 1, i, x, h0, h1, hx, hxn, hg, hL => by
  cases hxl : decide (x < n) with
  | false =>
   refine ⟨.go i, lop_o (by show rElements_b1 v n g i x = _; unfold rElements_b1; rw [cnd_ff hxl]), ?_⟩
   simp only [decide_eq_false_iff_not] at hxl
   rw [show (n - x).toNat = 0 from by omega]
   simp [oute, rElements_k1, nxts, prsF_zero, Fo.flat]
  | true =>
   have hb : rElements_b1 v n g i x = cnd (decide (nxt v i < 0)) (some (.out (.ret (-1)))) (chk (inK .i64 (x + 1)) <| some (.next (nxt v i, x + 1))) := by unfold rElements_b1; rw [cnd_tt hxl, hg i (Int.le_refl i) h1, obn_s rfl]
   simp only [decide_eq_true_eq] at hxl
   obtain ⟨k, hk⟩ : ∃ k, (n - x).toNat = k + 1 := ⟨(n - x).toNat - 1, by omega⟩
   rw [hk]
   have e : nxts false none v i (k + 1) = bif decide (nxt v i < 0) then -1 else nxts false none v (nxt v i) k := by
    unfold nxts
    rw [prsF_cons]
    simp only [prsK, cond_false]
    cases hp : prs1 (v.drop i.toNat) with
    | none => simp [nxt, hp]
    | some q =>
     obtain ⟨f, ys⟩ := q
     obtain ⟨q1, q2, q3⟩ := prs1_ok hp
     have hi : nxt v i = i + f.flat.length := by simp [nxt, hp]
     have hd : v.drop (nxt v i).toNat = ys := by rw [hi]; exact drop_app h0 q1
     rw [hd, decide_eq_false (by omega)]
     simp only [cond_false]
     cases hr : prsF false none k ys with
     | none => rfl
     | some q =>
      obtain ⟨r, zs⟩ := q
      simp only [put_flat q3, keyC, List.nil_append, List.length_append, hi]; omega
   rw [e]
   rcases nxt_range (v := v) h0 h1 with hneg | ⟨hlt, hle⟩
   ·exact ⟨.ret (-1), lop_o (hb.trans (by rw [hneg, cnd_tt (by decide)])), by rw [hneg]; rfl⟩
   ·have hM := hA.hM; have hvM := hA.hv
    obtain ⟨o, ho1, ho2⟩ := rElements_lop hA hn L (nxt v i) (x + 1) (by omega) hle (by omega) (by omega) (fun j hj => hg j (by omega)) (by omega)
    exact ⟨o, lop_n (hb.trans (by rw [cnd_ff (decide_eq_false (by omega)), chk_i64 (by omega) (by omega)])) ho1, by rw [ho2, show (n - (x + 1)).toNat = k from by omega, decide_eq_false (by omega)]; rfl⟩
theorem rPairs_lop {F : Nat} (hA : RfA F M v) {g : List TApiCell → Int → Option Int} {n : Int} (hn : n ≤ 9223372036854775807) : ∀ (L : Nat) (i x : Int) (last : Str), 0 ≤ i → i ≤ v.length → 0 ≤ x → x ≤ n → (∀ j, i ≤ j → j ≤ v.length → g v j = some (nxt v j)) → v.length - i.toNat < L →
  ∃ o, lop (fun σ => rPairs_b1 F v n g σ.1 σ.2.1 σ.2.2) L (i, last, x) = some o ∧ oute (fun ν => rPairs_k1 ν) o = some (nxts true (bif decide (0 < x) then some last else none) v i (n - x).toNat)
 | 0, i, x, _, _, _, _, _, _, h => by omega
 | L + 1, i, x, last, h0, h1, hx, hxn, hg, hL => by
  have hM := hA.hM; have hvM := hA.hv; have hMF := hA.hF
  cases hxl : decide (x < n) with
  | false =>
   refine ⟨.go i, lop_o (by show rPairs_b1 F v n g i last x = _; unfold rPairs_b1; rw [cnd_ff hxl]), ?_⟩
   simp only [decide_eq_false_iff_not] at hxl
   rw [show (n - x).toNat = 0 from by omega]
   simp [oute, rPairs_k1, nxts, prsF_zero, Fo.flat]
  | true =>
   have hxl' := hxl
   simp only [decide_eq_true_eq] at hxl
   obtain ⟨k, hk⟩ : ∃ k, (n - x).toNat = k + 1 := ⟨(n - x).toNat - 1, by omega⟩
   rw [hk]
   cases hd : v.drop i.toNat with
   | nil =>
    have hl : v.length ≤ i.toNat := by simpa using hd
    refine ⟨.ret (-1), lop_o (by
     show rPairs_b1 F v n g i last x = _
     unfold rPairs_b1
     rw [cnd_tt hxl', chk_t (by simp [imp, show (v.length : Int) ≤ i from by omega]), chk_t (by simp [imp, show (v.length : Int) ≤ i from by omega]), cnd_tt (by simp [show (v.length : Int) ≤ i from by omega])]), ?_⟩
    simp [oute, nxts, hd, prsF_cons, prsK]
   | cons c r =>
    obtain ⟨g1, g2, g3⟩ := drop_get h0 hd
    have hcM := hA.hc c (List.mem_of_getElem? g1)
    have hat := at_drop h0 hd
    have hnl : decide ((v.length : Int) ≤ i) = false := by simp; omega
    have hb : rPairs_b1 F v n g i last x = cnd (!(decide (c.fKind = 4) && pl c) || decide (0 < x) && (sLess c.fStr last || decide (c.fStr = last))) (some (.out (.ret (-1)))) (obn (g v (i + 1)) fun r106 => cnd (decide (r106 < 0)) (some (.out (.ret (-1)))) (chk (inK .i64 (x + 1)) <| some (.next (r106, c.fStr, x + 1)))) := by
     unfold rPairs_b1
     rw [cnd_tt hxl', chk_t (by simp only [imp]; rw [inR' h0 g3]; simp), hat, rKey_eq (by omega) (by omega), chk_t (by simp [imp])]
     simp only [hnl, ov, Option.getD_some, Bool.false_or]
     rw [chk_inR h0 g3, chk_i64 (by omega) (by omega)]
    have hpk : prsK true (bif decide (0 < x) then some last else none) (c :: r) = bif (!(decide (c.fKind = 4) && pl c) || decide (0 < x) && (sLess c.fStr last || decide (c.fStr = last))) then none else some (some c.fStr, r) := by
     simp only [prsK, cond_true]
     cases h4 : decide (c.fKind = 4) with
     | false => simp
     | true =>
      cases hp : pl c with
      | false => simp
      | true =>
       have hok := (pl_key hp (by simpa using h4)).2
       cases h0x : decide (0 < x) with
       | false => simp [keyOk, hok]
       | true => cases hs : (sLess c.fStr last || decide (c.fStr = last)) <;> simp [keyOk, hok, hs]
    cases ht : (!(decide (c.fKind = 4) && pl c) || decide (0 < x) && (sLess c.fStr last || decide (c.fStr = last))) with
    | true =>
     rw [ht] at hpk
     refine ⟨.ret (-1), lop_o (hb.trans (cnd_tt ht)), ?_⟩
     simp only [nxts, hd, prsF_cons, hpk, cond_true]; rfl
    | false =>
     rw [ht] at hpk
     rw [cnd_ff ht, hg (i + 1) (by omega) (by omega), obn_s rfl] at hb
     have e : nxts true (bif decide (0 < x) then some last else none) v i (k + 1) = bif decide (nxt v (i + 1) < 0) then -1 else nxts true (some c.fStr) v (nxt v (i + 1)) k := by
      unfold nxts
      rw [hd, prsF_cons, hpk]
      simp only [cond_false]
      have hx : nxt v (i + 1) = match prs1 r with | none => -1 | some (f, _) => i + 1 + f.flat.length := by unfold nxt; rw [g2]
      cases hp : prs1 r with
      | none => rw [hp] at hx; simp [hx]
      | some q =>
       obtain ⟨f, ys⟩ := q
       obtain ⟨q1, q2, q3⟩ := prs1_ok hp
       rw [hp] at hx
       simp only at hx
       have hd2 : v.drop (nxt v (i + 1)).toNat = ys := by rw [hx]; exact drop_app (by omega) (g2.trans q1)
       rw [hd2, decide_eq_false (by omega)]
       simp only [cond_false]
       cases hr : prsF true (some c.fStr) k ys with
       | none => rfl
       | some q =>
        obtain ⟨r', zs⟩ := q
        simp only [put_flat q3, keyC, List.length_append, List.length_cons, List.length_nil, hx]; omega
     rw [e]
     rcases nxt_range (v := v) (i := i + 1) (by omega) (by omega) with hneg | ⟨hlt, hle⟩
     ·exact ⟨.ret (-1), lop_o (hb.trans (by rw [hneg, cnd_tt (by decide)])), by rw [hneg]; rfl⟩
     ·obtain ⟨o, ho1, ho2⟩ := rPairs_lop hA hn L (nxt v (i + 1)) (x + 1) c.fStr (by omega) hle (by omega) (by omega) (fun j hj => hg j (by omega)) (by omega)
      exact ⟨o, lop_n (hb.trans (by rw [cnd_ff (decide_eq_false (by omega)), chk_i64 (by omega) (by omega)])) ho1, by rw [ho2, show (n - (x + 1)).toNat = k from by omega, decide_eq_true (show (0 : Int) < x + 1 from by omega), decide_eq_false (by omega)]; rfl⟩
theorem nxts_one {i : Int} {c : TApiCell} {r : List TApiCell} (h0 : 0 ≤ i) (hd : v.drop i.toNat = c :: r) (hp : pl c = true) : nxt v i = nxts (decide (c.fKind = 6)) none v (i + 1) c.fN.toNat := by
 have g2 := (drop_get h0 hd).2.1
 have hN := pl_N hp
 unfold nxt nxts
 rw [hd, prs1_cons, g2, hp]
 simp only [Bool.not_true, cond_false]
 cases hn : decide (0 < c.fN) with
 | true =>
  simp only [cond_true]
  cases hq : prsF (decide (c.fKind = 6)) none c.fN.toNat r with
  | none => rfl
  | some q =>
   obtain ⟨kids, zs⟩ := q
   simp only [Fo.flat, keyC, List.nil_append, List.length_cons, List.append_nil]; omega
 | false =>
  simp only [decide_eq_false_iff_not] at hn
  rw [show c.fN.toNat = 0 from by omega, prsF_zero]
  simp [Fo.flat, keyC]
theorem rNext_eq (hA : RfA (M + 1) M v) (hN : ∀ c ∈ v, c.fN ≤ 9223372036854775807) : ∀ (d F : Nat) (i : Int), 0 ≤ i → i ≤ v.length → v.length - i.toNat = d → M + 2 * d + 3 < F → rNext F v i = some (nxt v i) := by
 have hM := hA.hM; have hvM := hA.hv
 intro d
 induction d using Nat.strongRecOn with
 | ind d ih =>
  intro F i h0 h1 hd hF
  obtain ⟨F, rfl⟩ : ∃ G, F = G + 1 := ⟨F - 1, by omega⟩
  obtain ⟨F, rfl⟩ : ∃ G, F = G + 1 := ⟨F - 1, by omega⟩
  rw [rNext]
  unfold rNextm
  cases hdr : v.drop i.toNat with
  | nil =>
   have hl : v.length ≤ i.toNat := by simpa using hdr
   rw [cnd_tt (by simp; omega)]
   simp [nxt, hdr, prs1_nil]
  | cons c r =>
   obtain ⟨g1, g2, g3⟩ := drop_get h0 hdr
   have hcM := hA.hc c (List.mem_of_getElem? g1)
   have hcN := hN c (List.mem_of_getElem? g1)
   rw [cnd_ff (by simp; omega), chk_inR h0 g3, at_drop h0 hdr]
   simp only [rAfter_eq _ h0 (show i ≤ 1152921504606846976 by omega), Option.isSome_some, ov, Option.getD_some, imp, Bool.or_true, chk_t (x := _) (rfl : true = true)]
   have hg : ∀ j, i + 1 ≤ j → j ≤ v.length → rNext F v j = some (nxt v j) := fun j hj hj2 => ih (v.length - j.toNat) (by omega) F j (by omega) hj2 rfl (by omega)
   have hpl0 : pl c = false → nxt v i = -1 := fun hp => by simp [nxt, hdr, prs1_cons, hp]
   have hleaf : pl c = true → c.fN = 0 → nxt v i = i + 1 := fun hp h0' => by simp [nxt, hdr, prs1_cons, hp, h0', Fo.flat, keyC]
   have hscal : ∀ b : Bool, pl c = b → (b = true → c.fN = 0) → nxt v i = bif b then i + 1 else -1 := fun b hb hz => by
    cases b
    ·exact hpl0 hb
    ·exact hleaf hb (hz rfl)
   by_cases k1 : c.fKind = 1
   ·rw [cnd_tt (by simp [k1])]
    have hp : pl c = (decide (c.fInt = 0) && (decide (c.fStr = []) && decide (c.fN = 0))) := by simp [pl, k1]
    rw [hscal _ hp (fun h => by simp at h; exact h.2.2)]
    cases decide (c.fInt = 0) <;> cases decide (c.fStr = []) <;> cases decide (c.fN = 0) <;> rfl
   rw [cnd_ff (by simp [k1])]
   by_cases k2 : c.fKind = 2
   ·rw [cnd_tt (by simp [k2])]
    have hp : pl c = ((decide (c.fInt = 0) || decide (c.fInt = 1)) && (decide (c.fStr = []) && decide (c.fN = 0))) := by simp [pl, k2]
    rw [hscal _ hp (fun h => by simp at h; exact h.2.2)]
    cases decide (c.fInt = 0) <;> cases decide (c.fInt = 1) <;> cases decide (c.fStr = []) <;> cases decide (c.fN = 0) <;> rfl
   rw [cnd_ff (by simp [k2])]
   by_cases k3 : c.fKind = 3
   ·rw [cnd_tt (by simp [k3])]
    have hp : pl c = (decide (c.fStr = []) && decide (c.fN = 0)) := by simp [pl, k3]
    rw [hscal _ hp (fun h => by simp at h; exact h.2)]
    cases decide (c.fStr = []) <;> cases decide (c.fN = 0) <;> rfl
   rw [cnd_ff (by simp [k3])]
   by_cases k4 : c.fKind = 4
   ·rw [cnd_tt (by simp [k4]), rKey_eq (by omega) (by omega), obn_s rfl, obn_s rfl]
    rw [decide_eq_true k4, Bool.true_and, hscal (pl c) rfl (fun hp => by have := (pl_key hp k4).1; rw [this])]
   rw [cnd_ff (by simp [k4])]
   by_cases k5 : c.fKind = 5
   ·have hp : pl c = (decide (c.fInt = 0) && (decide (c.fStr = []) && decide (0 ≤ c.fN))) := by simp [pl, k5]
    rw [show (decide (c.fKind = 5) && (decide (c.fInt = 0) && (decide (c.fStr = []) && decide (0 ≤ c.fN)))) = pl c from by rw [hp, decide_eq_true k5, Bool.true_and]]
    have k5' : ¬ c.fKind = 6 := by omega
    cases hb : pl c with
    | false => rw [cnd_ff rfl, cnd_ff (by simp [k5]), hpl0 hb]
    | true =>
     have hn0 := pl_N hb
     rw [cnd_tt rfl, chk_i64 (by omega) (by omega), rElements]
     unfold rElementsm
     obtain ⟨o, ho1, ho2⟩ := rElements_lop (F := F) ⟨hM, hvM, by omega, hA.hc⟩ hcN F (i + 1) 0 (by omega) (by omega) (Int.le_refl 0) hn0 hg (by omega)
     rw [obn_s ho1, ho2, obn_s rfl, nxts_one h0 hdr hb, decide_eq_false k5', Int.sub_zero]
   rw [cnd_ff (by simp [k5])]
   by_cases k6 : c.fKind = 6
   ·have hp : pl c = (decide (c.fInt = 0) && (decide (c.fStr = []) && decide (0 ≤ c.fN))) := by simp [pl, k6]
    rw [show (decide (c.fKind = 6) && (decide (c.fInt = 0) && (decide (c.fStr = []) && decide (0 ≤ c.fN)))) = pl c from by rw [hp, decide_eq_true k6, Bool.true_and]]
    cases hb : pl c with
    | false => rw [cnd_ff rfl, hpl0 hb]
    | true =>
     have hn0 := pl_N hb
     rw [cnd_tt rfl, chk_i64 (by omega) (by omega), rPairs]
     unfold rPairsm
     obtain ⟨o, ho1, ho2⟩ := rPairs_lop (F := F) ⟨hM, hvM, by omega, hA.hc⟩ hcN F (i + 1) 0 [] (by omega) (by omega) (Int.le_refl 0) hn0 hg (by omega)
     rw [obn_s ho1, ho2, obn_s rfl, nxts_one h0 hdr hb, decide_eq_true k6, Int.sub_zero]
     rfl
   ·rw [cnd_ff (by simp [k6]), hpl0 (by simp [pl, k1, k2, k3, k4, k5, k6])]
end
end Go.Proofs.YtkalifgebccpcaaDoor

/-
 The plain reader reads each forest's cells; value.Check, and the reference's levels. Plain laws.
-/
namespace Go.Proofs.YtkalifgebccpcaaDoor
open Go
set_option linter.unusedVariables false
set_option linter.unusedSimpArgs false
structure CkA (M : Nat) (v : List TApiCell) : Prop where
 hM : M ≤ 1000000000
 hv : v.length ≤ M
 hc : ∀ c ∈ v, c.fStr.length ≤ M ∧ inK .i64 c.fInt = true ∧ c.fN ≤ 9223372036854775807
theorem CkA.lk {M F : Nat} {v : List TApiCell} (h : CkA M v) (hF : M < F) : LkA F M v := ⟨by have := h.hM; omega, by have := h.hM; omega, h.hv, hF, h.hc⟩
theorem CkA.rf {M F : Nat} {v : List TApiCell} (h : CkA M v) (hF : M < F) : RfA F M v := ⟨by have := h.hM; omega, h.hv, hF, fun c hc => (h.hc c hc).1⟩
theorem CkA.drop {M : Nat} {v : List TApiCell} (h : CkA M v) (k : Nat) : CkA M (v.drop k) := ⟨h.hM, by have := h.hv; rw [List.length_drop]; omega, fun c hc => h.hc c (List.mem_of_mem_drop hc)⟩
theorem CkA.take {M : Nat} {v : List TApiCell} (h : CkA M v) (k : Nat) : CkA M (v.take k) := ⟨h.hM, by have := h.hv; rw [List.length_take]; omega, fun c hc => h.hc c (List.mem_of_mem_take hc)⟩
def whole (v : List TApiCell) : Option Fo := match prs1 v with
 | some (f, []) => some f
 | _ => none
theorem whole_some {v : List TApiCell} {f : Fo} (h : whole v = some f) : v = f.flat ∧ f.wf false none = true ∧ f.one = true := by
 unfold whole at h
 cases hp : prs1 v with
 | none => rw [hp] at h; cases h
 | some q =>
  obtain ⟨g, ys⟩ := q
  rw [hp] at h
  cases ys with
  | cons _ _ => cases h
  | nil =>
   cases h
   obtain ⟨h1, h2, h3⟩ := prs1_ok hp
   exact ⟨by simpa using h1, h2, h3⟩
def errF (f : Fo) : Int :=
 bif f.flat.any outC then 2 else bif f.flat.any longC || (decide (200 < f.flat.length) || (decide (8 < f.dep) || decide (4000 < (f.txt true).length))) then 3 else 0
def errV (v : List TApiCell) : Int := match whole v with
 | none => 1
 | some f => errF f
theorem one_cnt {f : Fo} (h1 : f.one = true) : f.cnt = 1 := by
 cases f with
 | nil => cases h1
 | cell k c r => cases k with
  | some _ => cases h1
  | none => cases r with
   | nil => rfl
   | _ => cases h1
 | node k c kids r => cases k with
  | some _ => cases h1
  | none => cases r with
   | nil => rfl
   | _ => cases h1
theorem qlen_le (s : Str) : qlen s ≤ 2 * s.length + 2 + s.length := by
 have h1 : s.count 34 ≤ s.length := List.count_le_length
 have h2 : s.count 92 ≤ s.length := List.count_le_length
 unfold qlen; omega
theorem lsz_le {c : TApiCell} {M : Nat} (hp : pl c = true) (hs : c.fStr.length ≤ M) (hi : (Lib.itoa c.fInt).length ≤ 21) : lsz c ≤ 3 * M + 21 := by
 have := qlen_le c.fStr
 unfold lsz
 cases h1 : decide (c.fKind = 1) with
 | true => simp only [cond_true]; omega
 | false =>
  cases h2 : decide (c.fKind = 2) with
  | true =>
   simp [pl, h1, h2] at hp
   simp only [cond_false, cond_true]; omega
  | false =>
   cases h3 : decide (c.fKind = 3) with
   | true => simp only [cond_false, cond_true]; omega
   | false => cases h4 : decide (c.fKind = 4) <;> simp only [cond_false, cond_true] <;> omega
theorem byt_le {M : Nat} : ∀ {f : Fo} {m : Bool} {l : Option Str}, f.wf m l = true → (∀ c ∈ f.flat, c.fStr.length ≤ M ∧ inK .i64 c.fInt = true ∧ c.fN ≤ 9223372036854775807) → f.byt + f.cnt ≤ (3 * M + 24) * f.flat.length
 | .nil, _, _, _, _ => by simp [Fo.byt, Fo.flat, Fo.cnt]
 | .cell k c r, m, l, hw, hc => by
  simp only [Fo.wf, Bool.and_eq_true, Bool.not_eq_true'] at hw
  obtain ⟨⟨⟨w1, w2⟩, w3⟩, w4⟩ := hw
  simp only [Fo.flat] at hc
  have ih := byt_le w4 (fun x hx => hc x (by simp [hx]))
  obtain ⟨c1, c2, c3⟩ := hc c (by simp)
  have i64 := inK_i64 c2
  have hl := lsz_le w2 c1 (Lib.itoa_length_le c.fInt i64.1 i64.2)
  have hk : kbn k ≤ (3 * M + 24) * (keyC k).length := by
   cases k with
   | none => simp [kbn, keyC]
   | some s =>
    have := (hc ⟨4, 0, s, 0⟩ (by simp [keyC])).1
    have h2 := qlen_le s
    simp only at this
    simp only [kbn, keyC, List.length_singleton]; omega
  simp only [Fo.byt, Fo.flat, Fo.cnt, List.length_append, List.length_cons]
  have e : ((3 * (M : Int) + 24) * (((keyC k).length + (r.flat.length + 1) : Nat) : Int)) = (3 * (M : Int) + 24) * (keyC k).length + ((3 * (M : Int) + 24) * r.flat.length + (3 * (M : Int) + 24)) := by
   push_cast; rw [Int.mul_add, Int.mul_add, Int.mul_one]
  rw [e]
  push_cast at *
  omega
 | .node k c kids r, m, l, hw, hc => by
  simp only [Fo.wf, Bool.and_eq_true, decide_eq_true_eq] at hw
  obtain ⟨⟨⟨⟨⟨w1, w2⟩, w3⟩, w5⟩, w6⟩, w4⟩ := hw
  simp only [Fo.flat] at hc
  have ih := byt_le w4 (fun x hx => hc x (by simp [hx]))
  have ih2 := byt_le w6 (fun x hx => hc x (by simp [hx]))
  have hcf := cnt_le_flat kids
  have hk : kbn k ≤ (3 * M + 24) * (keyC k).length := by
   cases k with
   | none => simp [kbn, keyC]
   | some s =>
    have := (hc ⟨4, 0, s, 0⟩ (by simp [keyC])).1
    have h2 := qlen_le s
    simp only at this
    simp only [kbn, keyC, List.length_singleton]; omega
  simp only [Fo.byt, Fo.flat, Fo.cnt, List.length_append, List.length_cons]
  have e : ((3 * (M : Int) + 24) * (((keyC k).length + (kids.flat.length + r.flat.length + 1) : Nat) : Int)) = (3 * (M : Int) + 24) * (keyC k).length + ((3 * (M : Int) + 24) * kids.flat.length + (3 * (M : Int) + 24) * r.flat.length + (3 * (M : Int) + 24)) := by
   push_cast; rw [Int.mul_add, Int.mul_add, Int.mul_add, Int.mul_one]
  rw [e]
  push_cast at *
  omega
theorem byt_bound {M : Nat} (hM : M ≤ 1000000) {f : Fo} {m : Bool} {l : Option Str} (hw : f.wf m l = true) (hl : f.flat.length ≤ M) (hc : ∀ c ∈ f.flat, c.fStr.length ≤ M ∧ inK .i64 c.fInt = true ∧ c.fN ≤ 9223372036854775807) : f.byt ≤ 4000000000000 := by
 have := byt_le (M := M) hw hc
 have h2 : (3 * M + 24) * f.flat.length ≤ (3 * 1000000 + 24) * 1000000 := Nat.mul_le_mul (by omega) (by omega)
 have h3 : (((3 * M + 24) * f.flat.length : Nat) : Int) = (3 * (M : Int) + 24) * f.flat.length := by push_cast; rfl
 omega
theorem vCheck_eq {M F : Nat} {v : List TApiCell} (hA : CkA M v) (hM : M ≤ 1000000) (hF : M < F) : vCheck F v = some (errV v) := by
 unfold vCheck errV whole
 have hvM := hA.hv
 rcases look_eq (hA.lk hF) with ⟨f, ys, hp, hl⟩ | ⟨hp, sh', hl⟩
 ·rw [hl, obn_s rfl, hp]
  obtain ⟨h1, h2, h3⟩ := prs1_ok hp
  have hlen : v.length = f.flat.length + ys.length := by rw [h1]; simp
  cases ys with
  | cons c r =>
   rw [cnd_tt]
   simp only [List.length_cons] at hlen
   simp; omega
  | nil =>
   simp only [List.length_nil, Nat.add_zero] at hlen
   rw [cnd_ff (by simp [hlen])]
   have hc : ∀ c ∈ f.flat, c.fStr.length ≤ M ∧ inK .i64 c.fInt = true ∧ c.fN ≤ 9223372036854775807 := fun c hc => hA.hc c (by rw [h1]; simp [hc])
   have hb := byt_bound hM h2 (by omega) hc
   have hb0 := byt_pos h2
   have e1 : (f.sh 0 sh0).fOutside = f.flat.any outC := by rw [sh_out]; rfl
   have e2 : (f.sh 0 sh0).fLong = f.flat.any longC := by rw [sh_long]; rfl
   have e3 : (f.sh 0 sh0).fDepth = f.dep := by rw [sh_depth f 0 sh0 (by simp [sh0])]; simp [sh0]
   have e4 : (f.sh 0 sh0).fBytes = (f.txt true).length := by
    rw [sh_bytes f false none 0 sh0 h2 (by simp [sh0]) (by simp [sh0]; omega), txt_len f false none true h2, one_cnt h3]; simp [sh0]
   simp only
   rw [e1, e2, e3, e4, hlen]
   unfold errF
   cases f.flat.any outC with
   | true => rw [cnd_tt rfl]; rfl
   | false =>
    rw [cnd_ff rfl]
    have a1 : decide ((200 : Int) < (f.flat.length : Int)) = decide (200 < f.flat.length) := by rw [Bool.eq_iff_iff]; simp; omega
    have a2 : decide ((8 : Int) < (f.dep : Int)) = decide (8 < f.dep) := by rw [Bool.eq_iff_iff]; simp; omega
    have a3 : decide ((4000 : Int) < ((f.txt true).length : Int)) = decide (4000 < (f.txt true).length) := by rw [Bool.eq_iff_iff]; simp; omega
    rw [a1, a2, a3]
    cases (f.flat.any longC || (decide (200 < f.flat.length) || (decide (8 < f.dep) || decide (4000 < (f.txt true).length)))) <;> rfl
 ·rw [hl, obn_s rfl, hp]; rfl
end Go.Proofs.YtkalifgebccpcaaDoor

/-
 The reference's levels and texts of a forest. Plain laws.
-/
namespace Go.Proofs.YtkalifgebccpcaaDoor
open Go
set_option linter.unusedVariables false
set_option linter.unusedSimpArgs false
theorem wf_leaf {c : TApiCell} (hp : pl c = true) (hn : decide (0 < c.fN) = false) : (Fo.cell none c .nil).wf false none = true := by simp [Fo.wf, keyOk, hp, hn]
theorem wf_node {c : TApiCell} {kids : Fo} (hp : pl c = true) (hn : 0 < c.fN) (hk : c.fN = kids.cnt) (hw : kids.wf (decide (c.fKind = 6)) none = true) : (Fo.node none c kids .nil).wf false none = true := by simp [Fo.wf, keyOk, hp, hn, hk, hw]; omega
section
variable {M : Nat} {v : List TApiCell}
theorem CkA.next (hA : CkA M v) {F : Nat} (hF : 3 * M + 3 < F) {p : Int} (h0 : 0 ≤ p) (h1 : p ≤ v.length) : rNext F v p = some (nxt v p) := by
 have hM := hA.hM; have hvM := hA.hv
 exact rNext_eq (hA.rf (Nat.lt_succ_self M)) (fun c hc => (hA.hc c hc).2.2) (v.length - p.toNat) F p h0 h1 rfl (by omega)
theorem key_len {m : Bool} {last key : Option Str} (h : keyOk m last key = true) : ((keyC key).length : Int) = bif m then 1 else 0 := by
  cases key with
  | none => have : m = false := by simpa [keyOk] using h
            subst this; rfl
  | some s => simp only [keyOk, Bool.and_eq_true] at h; rw [h.1.1]; rfl
end
end Go.Proofs.YtkalifgebccpcaaDoor

/-
 The reference's text of a forest. Plain laws.
-/
namespace Go.Proofs.YtkalifgebccpcaaDoor
open Go
set_option linter.unusedVariables false
set_option linter.unusedSimpArgs false
theorem oute_go {R V : Type} (K : V → Option R) (v : V) : oute K (.go v) = K v := rfl
theorem oute_ret {R V : Type} (K : V → Option R) (r : R) : oute K (.ret r) = some r := rfl
section
variable {M : Nat} {v : List TApiCell}
end
end Go.Proofs.YtkalifgebccpcaaDoor

/-
 The reference's text of a whole value; its check. Plain laws.
-/
namespace Go.Proofs.YtkalifgebccpcaaDoor
open Go
set_option linter.unusedVariables false
set_option linter.unusedSimpArgs false
section
variable {M : Nat} {v : List TApiCell}
theorem ov_some {α : Type} [Inhabited α] (a : α) : ov (some a) = a := rfl
end
end Go.Proofs.YtkalifgebccpcaaDoor

/-
 value.Encode writes the text of a value. Plain laws.
-/
namespace Go.Proofs.YtkalifgebccpcaaDoor
open Go
set_option linter.unusedVariables false
set_option linter.unusedSimpArgs false
section
variable {M : Nat}
end
end Go.Proofs.YtkalifgebccpcaaDoor

/-
 value.Encode is the reference's. Plain laws.
-/
namespace Go.Proofs.YtkalifgebccpcaaDoor
open Go
set_option linter.unusedVariables false
set_option linter.unusedSimpArgs false
section
variable {M : Nat}
end
end Go.Proofs.YtkalifgebccpcaaDoor

/-
 Small functions of the laws of the package value. Plain laws.
-/
namespace Go.Proofs.YtkalifgebccpcaaDoor
open Go
set_option linter.unusedVariables false
set_option linter.unusedSimpArgs false
def smallV (v : List TApiCell) : Bool := !decide (300 < v.length) && v.all fun c => !decide (300 < c.fStr.length)
theorem lSmall_eq {F : Nat} {v : List TApiCell} (hF : 300 < F) : lSmall F v = some (smallV v) := by
 unfold lSmall smallV
 have a1 : decide ((300 : Int) < (v.length : Int)) = decide (300 < v.length) := by rw [Bool.eq_iff_iff]; simp; omega
 rw [a1]
 cases hl : decide (300 < v.length) with
 | true => rfl
 | false =>
  simp only [decide_eq_false_iff_not] at hl
  rw [cnd_ff rfl]
  obtain ⟨o, h1, h2⟩ := lop_ind (body := fun σ => lSmall_b1 v σ) (fun x => 0 ≤ x ∧ x ≤ (v.length : Int) ∧ (v.take x.toNat).all (fun c => !decide (300 < c.fStr.length)) = true) (fun x => v.length - x.toNat)
   (fun o => oute (fun _ => lSmall_k1) o = some (v.all fun c => !decide (300 < c.fStr.length))) (fun x ⟨h0, hlx, ha⟩ => by
    by_cases hx : x < (v.length : Int)
    ·obtain ⟨c, hc⟩ : ∃ c, v[x.toNat]? = some c := ⟨v[x.toNat]'(by omega), List.getElem?_eq_getElem (by omega)⟩
     have hat : at' v x = c := by simp [at', hc]
     have a2 : decide ((300 : Int) < (c.fStr.length : Int)) = decide (300 < c.fStr.length) := by rw [Bool.eq_iff_iff]; simp; omega
     have hb : lSmall_b1 v x = cnd (decide (300 < c.fStr.length)) (some (.out (.ret false))) (some (.next (x + 1))) := by
      unfold lSmall_b1
      rw [cnd_tt (decide_eq_true hx), chk_inR h0 hx, hat, a2, chk_i64 (by omega) (by omega)]
     cases hq : decide (300 < c.fStr.length) with
     | true =>
      refine .inr ⟨.ret false, hb.trans (cnd_tt hq), ?_⟩
      have : v.all (fun c => !decide (300 < c.fStr.length)) = false := all_false_of hc (by simp only [hq]; rfl)
      rw [oute_ret, this]
     | false =>
      have a3 : (v.take (x + 1).toNat).all (fun c => !decide (300 < c.fStr.length)) = true := by
       rw [show (x + 1).toNat = x.toNat + 1 from by omega, take_all_succ hc, ha]; simp only [hq]; rfl
      exact .inl ⟨x + 1, hb.trans (cnd_ff hq), ⟨by omega, by omega, a3⟩, by omega⟩
    ·refine .inr ⟨.go (), by unfold lSmall_b1; rw [cnd_ff (decide_eq_false hx)], ?_⟩
     rw [show x.toNat = v.length from by omega, List.take_length] at ha
     rw [oute_go, ha]; rfl) F 0 ⟨Int.le_refl 0, by omega, by simp⟩ (by show v.length - 0 < F; omega)
  rw [obn_s h1, h2]; rfl
def okCell (c : TApiCell) : Bool := inK .i64 c.fKind && inK .i64 c.fInt && okS c.fStr && inK .i64 c.fN
theorem CkA.of {v : List TApiCell} (hs : smallV v = true) (hc : v.all okCell = true) : CkA 300 v := by
 unfold smallV at hs
 simp only [Bool.and_eq_true, Bool.not_eq_true', decide_eq_false_iff_not, List.all_eq_true] at hs hc
 refine ⟨by decide, by omega, fun c h => ?_⟩
 obtain h1 := hs.2 c h
 obtain h2 := hc c h
 unfold okCell at h2
 simp only [Bool.and_eq_true] at h2
 exact ⟨by omega, h2.1.1.2, (inK_i64 h2.2).2⟩
theorem imp_tt (a : Bool) : imp a true = true := by cases a <;> rfl
end Go.Proofs.YtkalifgebccpcaaDoor

/-
 What laws on value and its reference lean on. Plain laws.
-/
namespace Go.Proofs.YtkalifgebccpcaaDoor
open Go
set_option linter.unusedVariables false
set_option linter.unusedSimpArgs false
section
variable {M : Nat}
end
end Go.Proofs.YtkalifgebccpcaaDoor

/-
 Order of values: words, numbers, and the order of forests. Plain; no program in sight.
-/
namespace Go.Proofs.YtkalifgebccpcaaDoor
open Go Go.RowKit
set_option linter.unusedVariables false
def ordI (a b : Int) : Int := bif decide (a < b) then -1 else bif decide (b < a) then 1 else 0
theorem vOrder_eq (a b : Int) : vOrder a b = some (ordI a b) := by
 unfold vOrder ordI
 cases decide (a < b) <;> cases decide (b < a) <;> rfl
def cmpKey : Option Str → Option Str → Int
 | some a, some b => Lib.compareBytes a b
 | _, _ => 0
def cmpC (c d : TApiCell) (kids : Int) : Int :=
 bif !decide (c.fKind = d.fKind) then ordI c.fKind d.fKind
 else bif decide (c.fKind = 4) then Lib.compareBytes c.fStr d.fStr
 else bif !decide (c.fKind = 5) && !decide (c.fKind = 6) then ordI c.fInt d.fInt
 else bif !decide (kids = 0) then kids else ordI c.fN d.fN
def thenI (a b : Int) : Int := bif !decide (a = 0) then a else b
def Fo.cmp : Fo → Fo → Int
 | .cell k c r, .cell l d s => thenI (cmpKey k l) (thenI (cmpC c d 0) (r.cmp s))
 | .cell k c r, .node l d g s => thenI (cmpKey k l) (thenI (cmpC c d 0) (r.cmp s))
 | .node k c f r, .cell l d s => thenI (cmpKey k l) (thenI (cmpC c d 0) (r.cmp s))
 | .node k c f r, .node l d g s => thenI (cmpKey k l) (thenI (cmpC c d (f.cmp g)) (r.cmp s))
 | _, _ => 0
theorem cmpB : ∀ a b : Str, Op.bytesLess a b = decide (Lib.compareBytes a b = -1) ∧ (decide (a = b) = decide (Lib.compareBytes a b = 0)) ∧ (Lib.compareBytes a b = -1 ∨ Lib.compareBytes a b = 0 ∨ Lib.compareBytes a b = 1) := by
 intro a
 induction a with
 | nil => intro b; cases b <;> simp [Lib.compareBytes, Op.bytesLess]
 | cons x a ih =>
  intro b
  cases b with
  | nil => simp [Lib.compareBytes, Op.bytesLess]
  | cons y b =>
   obtain ⟨h1, h2, h3⟩ := ih b
   simp only [Lib.compareBytes, Op.bytesLess]
   rw [h1]
   by_cases h : x < y
   ·have hne : x ≠ y := fun e => by subst e; exact absurd h (by simp)
    simp [h, hne]
   ·by_cases h' : y < x
    ·have hne : x ≠ y := fun e => by subst e; exact absurd h' (by simp)
     simp [h, h', hne]
    ·have he : x = y := UInt8.le_antisymm (UInt8.not_lt.1 h') (UInt8.not_lt.1 h)
     subst he
     simp only [h, if_false, List.cons.injEq, true_and]
     refine ⟨?_, h2, h3⟩
     simp
end Go.Proofs.YtkalifgebccpcaaDoor

/-
 Forests, each head in one form: key, cell, what is in it, what follows. Plain laws.
-/
namespace Go.Proofs.YtkalifgebccpcaaDoor
open Go Go.RowKit
set_option linter.unusedVariables false
set_option linter.unusedSimpArgs false
def Fo.hd : Fo → Option (Option Str × TApiCell × Fo × Fo)
 | .nil => none
 | .cell k c r => some (k, c, .nil, r)
 | .node k c kids r => some (k, c, kids, r)
structure Hd (m : Bool) (last : Option Str) (f : Fo) (k : Option Str) (c : TApiCell) (kids r : Fo) : Prop where
 key : keyOk m last k = true
 pl : pl c = true
 n : c.fN = kids.cnt
 kw : kids.wf (decide (c.fKind = 6)) none = true
 rest : r.wf m k = true
 flat : f.flat = keyC k ++ c :: (kids.flat ++ r.flat)
 cnt : f.cnt = r.cnt + 1
theorem hd_ok {m : Bool} {last : Option Str} {f : Fo} (hw : f.wf m last = true) : (f = .nil) ∨ ∃ k c kids r, f.hd = some (k, c, kids, r) ∧ Hd m last f k c kids r := by
 cases f with
 | nil => exact .inl rfl
 | cell k c r =>
  simp only [Fo.wf, Bool.and_eq_true, Bool.not_eq_true'] at hw
  obtain ⟨⟨⟨w1, w2⟩, w3⟩, w4⟩ := hw
  have := pl_N w2
  refine .inr ⟨k, c, .nil, r, rfl, w1, w2, ?_, rfl, w4, by simp [Fo.flat], rfl⟩
  simp at w3; simp [Fo.cnt]; omega
 | node k c kids r =>
  simp only [Fo.wf, Bool.and_eq_true, decide_eq_true_eq] at hw
  obtain ⟨⟨⟨⟨⟨w1, w2⟩, w3⟩, w5⟩, w6⟩, w4⟩ := hw
  exact .inr ⟨k, c, kids, r, rfl, w1, w2, w5, w6, w4, rfl, rfl⟩
theorem cmp_hd {f g : Fo} {k l : Option Str} {c d : TApiCell} {a b r s : Fo} (hf : f.hd = some (k, c, a, r)) (hg : g.hd = some (l, d, b, s)) : f.cmp g = thenI (cmpKey k l) (thenI (cmpC c d (a.cmp b)) (r.cmp s)) := by
 cases f <;> cases g <;> simp [Fo.hd] at hf hg <;> obtain ⟨rfl, rfl, rfl, rfl⟩ := hf <;> obtain ⟨rfl, rfl, rfl, rfl⟩ := hg <;> simp [Fo.cmp]
end Go.Proofs.YtkalifgebccpcaaDoor

/-
 The reference's comparison of two forests. Plain laws.
-/
namespace Go.Proofs.YtkalifgebccpcaaDoor
open Go Go.RowKit
set_option linter.unusedVariables false
set_option linter.unusedSimpArgs false
theorem thenI_nz {x y : Int} (h : decide (x = 0) = false) : thenI x y = x := by unfold thenI; rw [h]; rfl
theorem thenI_z {x y : Int} (h : decide (x = 0) = true) : thenI x y = y := by unfold thenI; rw [h]; rfl
section
variable {M : Nat} {a b : List TApiCell}
end
end Go.Proofs.YtkalifgebccpcaaDoor

/-
 The reference's comparison is that of the forests. Plain laws.
-/
namespace Go.Proofs.YtkalifgebccpcaaDoor
open Go Go.RowKit
set_option linter.unusedVariables false
set_option linter.unusedSimpArgs false
theorem thenI_assoc (x y z : Int) : thenI (thenI x y) z = thenI x (thenI y z) := by
 cases h : decide (x = 0) with
 | true => rw [thenI_z h, thenI_z h]
 | false => rw [thenI_nz h, thenI_nz h, thenI_nz h]
theorem thenI_zero (z : Int) : thenI 0 z = z := thenI_z rfl
theorem cmp_nil {f g : Fo} (h : f = .nil ∨ g = .nil) : f.cmp g = 0 := by
 rcases h with rfl | rfl
 ·cases g <;> rfl
 ·cases f <;> rfl
theorem hd_one {m : Bool} {last k : Option Str} {f kids r : Fo} {c : TApiCell} (hf : f.hd = some (k, c, kids, r)) (hw : f.wf m last = true) : ∃ f1 : Fo, f1.one = true ∧ f1.wf false none = true ∧ f1.flat = c :: kids.flat := by
 cases f with
 | nil => simp [Fo.hd] at hf
 | cell k' c' r' =>
  simp [Fo.hd] at hf
  obtain ⟨rfl, rfl, rfl, rfl⟩ := hf
  simp only [Fo.wf, Bool.and_eq_true, Bool.not_eq_true'] at hw
  obtain ⟨⟨⟨w1, w2⟩, w3⟩, w4⟩ := hw
  exact ⟨.cell none c' .nil, rfl, wf_leaf w2 w3, rfl⟩
 | node k' c' kids' r' =>
  simp [Fo.hd] at hf
  obtain ⟨rfl, rfl, rfl, rfl⟩ := hf
  simp only [Fo.wf, Bool.and_eq_true, decide_eq_true_eq] at hw
  obtain ⟨⟨⟨⟨⟨w1, w2⟩, w3⟩, w5⟩, w6⟩, w4⟩ := hw
  exact ⟨.node none c' kids' .nil, rfl, wf_node w2 w3 w5 w6, by simp [Fo.flat, keyC]⟩
section
variable {M : Nat} {a b : List TApiCell}
end
end Go.Proofs.YtkalifgebccpcaaDoor

/-
 The reference's comparison of two forests is cmp. Plain laws.
-/
namespace Go.Proofs.YtkalifgebccpcaaDoor
open Go Go.RowKit
set_option linter.unusedVariables false
set_option linter.unusedSimpArgs false
theorem cnt_zero {f : Fo} (h : f.cnt = 0) : f = .nil := by
 cases f with
 | nil => rfl
 | cell k c r => simp [Fo.cnt] at h
 | node k c a r => simp [Fo.cnt] at h
theorem thenI_0 (x : Int) : thenI x 0 = x := by
 cases h : decide (x = 0) with
 | true => rw [thenI_z h]; exact (of_decide_eq_true h).symm
 | false => rw [thenI_nz h]
section
variable {M : Nat} {a b : List TApiCell}
theorem Hd.drop {v : List TApiCell} {m : Bool} {last k : Option Str} {f kids r : Fo} {c : TApiCell} {ys : List TApiCell} {p : Int} (H : Hd m last f k c kids r) (h0 : 0 ≤ p) (hd : v.drop p.toNat = f.flat ++ ys) :
  v.drop (p + (keyC k).length).toNat = c :: (kids.flat ++ (r.flat ++ ys)) ∧ v.drop (p + (keyC k).length + 1).toNat = kids.flat ++ (r.flat ++ ys) ∧ v.drop (p + (keyC k).length + ((c :: kids.flat).length : Int)).toNat = r.flat ++ ys ∧ (∀ s, k = some s → (at' v p).fStr = s) ∧ p < v.length := by
 rw [H.flat] at hd
 have hd2 : v.drop p.toNat = keyC k ++ ((c :: kids.flat) ++ (r.flat ++ ys)) := by rw [hd]; simp
 have hd1 := drop_app h0 hd2
 refine ⟨hd1, (drop_get (by omega) hd1).2.1, drop_app (by omega) hd1, fun s e => ?_, ?_⟩
 ·subst e
  have : v.drop p.toNat = ⟨4, 0, s, 0⟩ :: ((c :: kids.flat) ++ (r.flat ++ ys)) := by simpa [keyC] using hd2
  rw [at_drop h0 this]
 ·have := congrArg List.length hd2
  rw [List.length_drop] at this
  simp only [List.length_append, List.length_cons] at this
  omega
def cmpV (a b : List TApiCell) : Int := bif decide (errV a = 0) && decide (errV b = 0) then (match whole a, whole b with
 | some f, some g => f.cmp g
 | _, _ => 0) else 0
end
end Go.Proofs.YtkalifgebccpcaaDoor

/-
 The parts of a list or a map, one after the other: what value.parts does with any yield. Plain laws.
-/
namespace Go.Proofs.YtkalifgebccpcaaDoor
open Go Go.RowKit
set_option linter.unusedVariables false
set_option linter.unusedSimpArgs false
theorem lop_none {S O : Type} {body : S → Option (Stp S O)} {n : Nat} {s : S} (h : body s = none) : lop body (n + 1) s = none := by rw [lop, h]
theorem lop_nx {S O : Type} {body : S → Option (Stp S O)} {n : Nat} {s s' : S} (h : body s = some (.next s')) : lop body (n + 1) s = lop body n s' := by rw [lop, h]
section
variable {S : Type}
def pB (F : Nat) (v : List TApiCell) (Y : Str → List TApiCell → S → Option (Bool × S)) (p x : Int) (s : S) : Option (Stp (Int × Int × S) (Out S S)) :=
 cnd (decide (x < ((at' v 0).fN))) (cnd (decide (((at' v 0).fKind) = 6)) (chk (inR p (v.length : Int)) <| chk (inK .i64 (p + 1)) <| chk (inC (p + 1) (v.length : Int)) <| obn (vLook F (List.drop (Int.toNat (p + 1)) v)) fun q => chk (inK .i64 ((p + 1) + q.1)) <| chk (inC (p + 1) ((p + 1) + q.1)) <| chk (inC ((p + 1) + q.1) (v.length : Int)) <| obn (Y ((at' v p).fStr) (List.take (Int.toNat ((p + 1) + q.1) - Int.toNat (p + 1)) (List.drop (Int.toNat (p + 1)) v)) s) fun r => cnd (!r.1) (some (.out (.ret r.2))) (chk (inK .i64 (x + 1)) <| some (.next ((p + 1) + q.1, x + 1, r.2)))) (chk (inC p (v.length : Int)) <| obn (vLook F (List.drop (Int.toNat p) v)) fun q => chk (inK .i64 (p + q.1)) <| chk (inC p (p + q.1)) <| chk (inC (p + q.1) (v.length : Int)) <| obn (Y ([] : Str) (List.take (Int.toNat (p + q.1) - Int.toNat p) (List.drop (Int.toNat p) v)) s) fun r => cnd (!r.1) (some (.out (.ret r.2))) (chk (inK .i64 (x + 1)) <| some (.next (p + q.1, x + 1, r.2))))) (some (.out (.go s)))
def keyS : Option Str → Str
 | none => []
 | some s => s
def onY {T : Type} (y : Option (Bool × S)) (go : S → Option T) (stop : S → Option T) : Option T := match y with
 | none => none
 | some (b, s) => bif b then go s else stop s
theorem onY_some {T : Type} {y : Option (Bool × S)} {go : S → Option T} {stop : S → Option T} {b : Bool} {s : S} (h : y = some (b, s)) : onY y go stop = bif b then go s else stop s := by subst h; rfl
def fparts (Y : Str → List TApiCell → S → Option (Bool × S)) : Fo → S → Option (Out S S)
 | .nil, s => some (.go s)
 | .cell k c r, s => onY (Y (keyS k) [c] s) (fparts Y r) (fun s => some (.ret s))
 | .node k c kids r, s => onY (Y (keyS k) (c :: kids.flat) s) (fparts Y r) (fun s => some (.ret s))
variable {Y : Str → List TApiCell → S → Option (Bool × S)}
theorem fparts_hd {f kids r : Fo} {k : Option Str} {c : TApiCell} {s : S} (h : f.hd = some (k, c, kids, r)) : fparts Y f s = onY (Y (keyS k) (c :: kids.flat) s) (fparts Y r) (fun s => some (.ret s)) := by
 cases f <;> simp [Fo.hd] at h <;> obtain ⟨rfl, rfl, rfl, rfl⟩ := h <;> simp [fparts, Fo.flat]
section
variable {M : Nat} {v : List TApiCell}
theorem pB_round {F : Nat} {c : TApiCell} {p x : Int} {s : S} {k last : Option Str} {f1 : Fo} {ys : List TApiCell} (hA : CkA M v) (hF : M < F) (hpc : at' v 0 = c) (hx : x < c.fN) (hx0 : 0 ≤ x) (hcN : c.fN ≤ 9223372036854775807) (h0 : 0 ≤ p) (hk : keyOk (decide (c.fKind = 6)) last k = true)
  (hd : v.drop p.toNat = keyC k ++ (f1.flat ++ ys)) (h1 : f1.one = true) (hw : f1.wf false none = true) :
  pB F v Y p x s = onY (Y (keyS k) f1.flat s) (fun s' => some (.next (p + (keyC k).length + f1.flat.length, x + 1, s'))) (fun s' => some (.out (.ret s'))) := by
 have hM := hA.hM; have hvM := hA.hv
 have hd1 := drop_app h0 hd
 have hkl := key_len hk
 have hfl := one_flat h1
 have hll : (v.drop (p + (keyC k).length).toNat).length = f1.flat.length + ys.length := by rw [hd1]; simp
 rw [List.length_drop] at hll
 have hlook : vLook F (v.drop (p + (keyC k).length).toNat) = some ((f1.flat.length : Int), f1.sh 0 sh0, true) := look_val ((hA.drop _).lk hF) h1 hw hd1
 have htake : List.take (Int.toNat (p + (keyC k).length + (f1.flat.length : Int)) - Int.toNat (p + (keyC k).length)) (v.drop (p + (keyC k).length).toNat) = f1.flat := by
  rw [hd1, show Int.toNat (p + (keyC k).length + (f1.flat.length : Int)) - Int.toNat (p + (keyC k).length) = f1.flat.length from by omega, List.take_left]
 have hmono : 0 ≤ p + (keyC k).length + f1.flat.length := by omega
 have fin : ∀ (y : Option (Bool × S)) (q : Int), (obn y fun r => cnd (!r.1) (some (Stp.out (Out.ret r.2))) (chk (inK .i64 (x + 1)) <| some (.next (q, x + 1, r.2)))) = onY y (fun s' => some (.next (q, x + 1, s'))) (fun s' => some (Stp.out (Out.ret (V := S) s'))) := fun y q => by
  cases y with
  | none => rfl
  | some r =>
   obtain ⟨b, s'⟩ := r
   rw [obn_s rfl, onY_some rfl]
   cases b with
   | false => rfl
   | true => rw [cnd_ff (p := !true) rfl, chk_i64 (by omega) (by omega)]; rfl
 unfold pB
 rw [hpc, cnd_tt (decide_eq_true hx)]
 cases hm : decide (c.fKind = 6) with
 | true =>
  rw [hm] at hk hkl
  cases k with
  | none => simp [keyOk] at hk
  | some t =>
   have e1 : ((keyC (some t)).length : Int) = 1 := rfl
   rw [e1] at hlook htake hll hmono ⊢
   have hats : (at' v p).fStr = t := by
    have : v.drop p.toNat = ⟨4, 0, t, 0⟩ :: (f1.flat ++ ys) := by simpa [keyC] using hd
    rw [at_drop h0 this]
   have hin : p < v.length := by omega
   rw [cnd_tt rfl, chk_inR h0 hin, chk_i64 (by omega) (by omega), chk_inC (by omega) (by omega), hlook, obn_s rfl, chk_i64 (by omega) (by omega), chk_inC (by omega) (by omega), chk_inC (by omega) (by omega), htake, hats, fin]; rfl
 | false =>
  rw [hm] at hk hkl
  cases k with
  | some t => simp [keyOk] at hk
  | none =>
   have e1 : ((keyC none).length : Int) = 0 := rfl
   rw [e1, Int.add_zero] at hlook htake hll hmono ⊢
   rw [cnd_ff rfl, chk_inC (by omega) (by omega), hlook, obn_s rfl, chk_i64 (by omega) (by omega), chk_inC (by omega) (by omega), chk_inC (by omega) (by omega), htake, fin]; rfl
theorem pB_forest {F : Nat} {c : TApiCell} (hA : CkA M v) (hF : M < F) (hpc : at' v 0 = c) (hcN : c.fN ≤ 9223372036854775807) : ∀ (n : Nat) (f : Fo) (L : Nat) (p x : Int) (s : S) (last : Option Str) (ys : List TApiCell), f.flat.length < n → f.wf (decide (c.fKind = 6)) last = true → v.drop p.toNat = f.flat ++ ys → 0 ≤ p → c.fN = x + f.cnt → 0 ≤ x → f.cnt < L →
  lop (fun σ => pB F v Y σ.1 σ.2.1 σ.2.2) L (p, x, s) = fparts Y f s := by
 intro n
 induction n with
 | zero => intro f L p x s last ys h; omega
 | succ n ih =>
  intro f L p x s last ys hn hw hd h0 hN hx hL
  obtain ⟨L, rfl⟩ : ∃ K, L = K + 1 := ⟨L - 1, by omega⟩
  rcases hd_ok hw with rfl | ⟨k, d, kf, r, hf, Hf⟩
  ·have hx' : ¬ x < c.fN := by simp only [Fo.cnt] at hN; omega
   refine lop_o ?_
   show pB F v Y p x s = _
   unfold pB
   rw [hpc, cnd_ff (decide_eq_false hx')]
  ·obtain ⟨a1, a2, a3, a4, a5⟩ := Hf.drop h0 hd
   obtain ⟨f1, o1, w1, e1⟩ := hd_one hf hw
   have cf := Hf.cnt
   have lf := congrArg List.length Hf.flat
   simp only [List.length_append, List.length_cons] at lf
   have hd2 : v.drop p.toNat = keyC k ++ (f1.flat ++ (r.flat ++ ys)) := by rw [hd, Hf.flat, e1]; simp
   have hb := pB_round (Y := Y) (s := s) hA hF hpc (x := x) (by omega) hx hcN h0 Hf.key hd2 o1 w1
   rw [fparts_hd hf]
   cases hy : Y (keyS k) (d :: kf.flat) s with
   | none =>
    rw [e1, hy] at hb
    exact lop_none hb
   | some q =>
    obtain ⟨b, s'⟩ := q
    rw [e1, hy] at hb
    cases b with
    | false => exact lop_o hb
    | true => exact (lop_nx hb).trans (ih r L _ (x + 1) s' k ys (by omega) Hf.rest a3 (by omega) (by omega) (by omega) (by omega))
theorem pB_whole {F : Nat} {c : TApiCell} {f : Fo} (hA : CkA M v) (hF : M < F) (hv : v = c :: f.flat) (hn : c.fN = f.cnt) (hw : f.wf (decide (c.fKind = 6)) none = true) (s : S) : lop (fun σ => pB F v Y σ.1 σ.2.1 σ.2.2) F (1, 0, s) = fparts Y f s := by
 have hvM := hA.hv
 have hl : v.length = f.flat.length + 1 := by rw [hv]; simp
 have hcf := cnt_le_flat f
 exact pB_forest hA hF (by rw [hv]; rfl) (hA.hc c (by rw [hv]; simp)).2.2 (f.flat.length + 1) f F 1 0 s none [] (by omega) hw (by rw [hv]; simp) (by decide) (by omega) (Int.le_refl 0) (by omega)
end
end
end Go.Proofs.YtkalifgebccpcaaDoor

/-
 value.compare is the order of forests. Plain laws.
-/
namespace Go.Proofs.YtkalifgebccpcaaDoor
open Go Go.RowKit
set_option linter.unusedVariables false
set_option linter.unusedSimpArgs false
def Fo.keys : Fo → List Str
 | .nil => []
 | .cell k _ r => keyS k :: r.keys
 | .node k _ _ r => keyS k :: r.keys
def Fo.vals : Fo → List (List TApiCell)
 | .nil => []
 | .cell _ c r => [c] :: r.vals
 | .node _ c kids r => (c :: kids.flat) :: r.vals
theorem kv_hd {f kids r : Fo} {k : Option Str} {c : TApiCell} (h : f.hd = some (k, c, kids, r)) : f.keys = keyS k :: r.keys ∧ f.vals = (c :: kids.flat) :: r.vals := by
 cases f <;> simp [Fo.hd] at h <;> obtain ⟨rfl, rfl, rfl, rfl⟩ := h <;> simp [Fo.keys, Fo.vals, Fo.flat]
theorem kv_len : ∀ f : Fo, f.keys.length = f.cnt ∧ f.vals.length = f.cnt
 | .nil => ⟨rfl, rfl⟩
 | .cell k c r => by simp [Fo.keys, Fo.vals, Fo.cnt, kv_len r]
 | .node k c kids r => by simp [Fo.keys, Fo.vals, Fo.cnt, kv_len r]
theorem chk_inA16 {α : Type} {n : Nat} {x : Option α} (h : n ≤ 1000000001) : chk (inA 16 n) x = x := chk_t (decide_eq_true (by omega))
theorem chk_inA24 {α : Type} {n : Nat} {x : Option α} (h : n ≤ 1000000001) : chk (inA 24 n) x = x := chk_t (decide_eq_true (by omega))
theorem vCmpF_eq {k : Str} {x : List TApiCell} {s : List Str × List (List TApiCell)} (h1 : s.1.length ≤ 1000000000) (h2 : s.2.length ≤ 1000000000) : vCmpF k x s.1 s.2 = some (true, s.1 ++ [k], s.2 ++ [x]) := by
 unfold vCmpF
 rw [chk_inA16 (by simp; omega), chk_inA24 (by simp; omega)]
theorem vCmpF_parts : ∀ (g : Fo) (s : List Str × List (List TApiCell)), s.1.length + g.cnt ≤ 1000000000 → s.2.length + g.cnt ≤ 1000000000 → fparts (fun k x s => vCmpF k x s.1 s.2) g s = some (.go (s.1 ++ g.keys, s.2 ++ g.vals))
 | .nil, s, _, _ => by simp [fparts, Fo.keys, Fo.vals]
 | .cell k c r, s, h1, h2 => by
  simp only [Fo.cnt] at h1 h2
  rw [fparts, onY_some (vCmpF_eq (by omega) (by omega)), cond_true, vCmpF_parts r _ (by simp; omega) (by simp; omega)]
  simp [Fo.keys, Fo.vals]
 | .node k c kids r, s, h1, h2 => by
  simp only [Fo.cnt] at h1 h2
  rw [fparts, onY_some (vCmpF_eq (by omega) (by omega)), cond_true, vCmpF_parts r _ (by simp; omega) (by simp; omega)]
  simp [Fo.keys, Fo.vals]
structure VHd (M : Nat) (c : TApiCell) (kf : Fo) : Prop where
 pl : pl c = true
 n : c.fN = kf.cnt
 wf : kf.wf (decide (c.fKind = 6)) none = true
 ck : CkA M (c :: kf.flat)
section
variable {M : Nat}
theorem CkA.sub {a b : List TApiCell} (h : CkA M a) (hl : b.length ≤ a.length) (hm : ∀ x ∈ b, x ∈ a) : CkA M b := ⟨h.hM, by have := h.hv; omega, fun c hc => h.hc c (hm c hc)⟩
theorem Hd.v {m : Bool} {last k : Option Str} {f kids r : Fo} {c : TApiCell} (H : Hd m last f k c kids r) (hA : CkA M f.flat) : VHd M c kids ∧ CkA M r.flat := by
 have e := H.flat
 have l := congrArg List.length e
 simp only [List.length_append, List.length_cons] at l
 refine ⟨⟨H.pl, H.n, H.kw, hA.sub (by simp only [List.length_cons]; omega) (fun x hx => ?_)⟩, hA.sub (by omega) (fun x hx => ?_)⟩
 ·rw [e]; simp only [List.mem_append, List.mem_cons] at hx ⊢
  rcases hx with hx | hx
  ·exact .inr (.inl hx)
  ·exact .inr (.inr (.inl hx))
 ·rw [e]; simp only [List.mem_append, List.mem_cons]
  exact .inr (.inr (.inr hx))
theorem cmpKey_of {m : Bool} {a b k l : Option Str} (h1 : keyOk m a k = true) (h2 : keyOk m b l = true) : Lib.compareBytes (keyS k) (keyS l) = cmpKey k l := by
 cases k with
 | none =>
  cases l with
  | none => rfl
  | some t => simp [keyOk] at h1 h2; simp [h1] at h2
 | some s =>
  cases l with
  | none => simp [keyOk] at h1 h2; simp [h2] at h1
  | some t => rfl
def resO {A B C : Type} : Out (A × B × C × Int) (A × B × C × Int) → Int
 | .ret s => s.2.2.2
 | .go s => s.2.2.2
theorem at_mid2 {α : Type} [Inhabited α] (a b : List α) (x : α) {i : Int} (h : i = (a.length : Int)) : at' (a ++ x :: b) i = x := by subst h; simp [at']
theorem cmpQ_forest {F N : Nat} {rc : List TApiCell → List TApiCell → Option Int} (hr : ∀ c d kf kg, VHd M c kf → VHd M d kg → kf.flat.length + kg.flat.length + 2 ≤ N → rc (c :: kf.flat) (d :: kg.flat) = some (cmpC c d (kf.cmp kg))) :
  ∀ (n : Nat) (f g : Fo), f.flat.length < n → f.flat.length + g.flat.length ≤ N → ∀ (m : Bool) (last1 last2 : Option Str) (i : Int) (pv : List (List TApiCell)) (pk : List Str), f.wf m last1 = true → g.wf m last2 = true → CkA M f.flat → CkA M g.flat → i = (pv.length : Int) → i = (pk.length : Int) → pv.length + g.cnt ≤ 1000000000 →
  ∃ o, fparts (fun k x (s : Int × List (List TApiCell) × List Str × Int) => vCmpGm F rc k x s.1 s.2.1 s.2.2.1 s.2.2.2) f (i, pv ++ g.vals, pk ++ g.keys, 0) = some o ∧ resO o = f.cmp g := by
 intro n
 induction n with
 | zero => intro f g h; omega
 | succ n ih =>
  intro f g hn hN m last1 last2 i pv pk hwf hwg hA hB hi1 hi2 hb
  rcases hd_ok hwf with rfl | ⟨k, c, kf, r, hf, Hf⟩
  ·exact ⟨.go _, rfl, (cmp_nil (.inl rfl)).symm⟩
  rw [fparts_hd hf]
  rcases hd_ok hwg with rfl | ⟨l, d, kg, s, hg, Hg⟩
  ·refine ⟨.ret (i, pv ++ Fo.nil.vals, pk ++ Fo.nil.keys, 0), ?_, (cmp_nil (.inr rfl)).symm⟩
   rw [onY_some (b := false) (s := (i, pv ++ Fo.nil.vals, pk ++ Fo.nil.keys, 0))]
   ·rfl
   ·show vCmpGm F rc _ _ i (pv ++ Fo.nil.vals) (pk ++ Fo.nil.keys) 0 = _
    unfold vCmpGm
    rw [cnd_tt (by simp [Fo.vals, hi1])]
  ·obtain ⟨v1, ck1⟩ := Hf.v hA
   obtain ⟨v2, ck2⟩ := Hg.v hB
   obtain ⟨g1, g2⟩ := kv_hd hg
   have lf := congrArg List.length Hf.flat
   have lg := congrArg List.length Hg.flat
   simp only [List.length_append, List.length_cons] at lf lg
   have cg := Hg.cnt
   obtain ⟨q1, q2⟩ := kv_len s
   have hc := hr c d kf kg v1 v2 (by omega)
   have hck := cmpKey_of Hf.key Hg.key
   rw [cmp_hd hf hg, g1, g2]
   have hl1 : (((pv ++ (d :: kg.flat) :: s.vals).length : Nat) : Int) = i + 1 + s.cnt := by rw [List.length_append, List.length_cons, q2]; omega
   have hl2 : (((pk ++ keyS l :: s.keys).length : Nat) : Int) = i + 1 + s.cnt := by rw [List.length_append, List.length_cons, q1]; omega
   have hy : vCmpGm F rc (keyS k) (c :: kf.flat) i (pv ++ (d :: kg.flat) :: s.vals) (pk ++ keyS l :: s.keys) 0 = some (decide (thenI (cmpKey k l) (cmpC c d (kf.cmp kg)) = 0), i + 1, pv ++ (d :: kg.flat) :: s.vals, pk ++ keyS l :: s.keys, thenI (cmpKey k l) (cmpC c d (kf.cmp kg))) := by
    unfold vCmpGm
    rw [hl1, hl2, cnd_ff (decide_eq_false (by omega)), chk_inR (by omega) (by omega), at_mid2 pk s.keys (keyS l) hi2, hck]
    cases hk : decide (cmpKey k l = 0) with
    | true =>
     rw [cnd_tt rfl, chk_inR (by omega) (by omega), at_mid2 pv s.vals _ hi1, hc, obn_s rfl, chk_i64 (by omega) (by omega), thenI_z hk]
    | false =>
     rw [cnd_ff rfl, chk_i64 (by omega) (by omega), thenI_nz hk, hk]
   rw [onY_some (b := decide (thenI (cmpKey k l) (cmpC c d (kf.cmp kg)) = 0)) (s := (i + 1, pv ++ (d :: kg.flat) :: s.vals, pk ++ keyS l :: s.keys, thenI (cmpKey k l) (cmpC c d (kf.cmp kg)))) hy, ← thenI_assoc]
   cases hz : decide (thenI (cmpKey k l) (cmpC c d (kf.cmp kg)) = 0) with
   | false => exact ⟨_, rfl, (thenI_nz hz).symm⟩
   | true =>
    rw [thenI_z hz, of_decide_eq_true hz, cond_true]
    obtain ⟨o, e1, e2⟩ := ih r s (by omega) (by omega) m k l (i + 1) (pv ++ [d :: kg.flat]) (pk ++ [keyS l]) Hf.rest Hg.rest ck1 ck2 (by simp [hi1]) (by simp [hi2]) (by simp; omega)
    rw [List.append_assoc, List.append_assoc] at e1
    exact ⟨o, e1, e2⟩
theorem vCompare_hd : ∀ (n : Nat) (c d : TApiCell) (kf kg : Fo), VHd M c kf → VHd M d kg → kf.flat.length + kg.flat.length < n → ∀ F, M + 5 + 4 * n < F → vCompare F (c :: kf.flat) (d :: kg.flat) = some (cmpC c d (kf.cmp kg)) := by
 intro n
 induction n with
 | zero => intro c d kf kg _ _ h; omega
 | succ n ih =>
  intro c d kf kg v1 v2 hn F hF
  have hM := v1.ck.hM; have hvA := v1.ck.hv; have hvB := v2.ck.hv
  simp only [List.length_cons] at hvA hvB
  have c1 := cnt_le_flat kf; have c2 := cnt_le_flat kg
  obtain ⟨F, rfl⟩ : ∃ K, F = K + 3 := ⟨F - 3, by omega⟩
  rw [vCompare]
  unfold vComparem cmpC
  have l1 : (0 : Int) < ((c :: kf.flat).length : Int) := by simp only [List.length_cons]; omega
  have l2 : (0 : Int) < ((d :: kg.flat).length : Int) := by simp only [List.length_cons]; omega
  rw [chk_inR (Int.le_refl 0) l1, chk_inR (Int.le_refl 0) l2, show at' (c :: kf.flat) 0 = c from rfl, show at' (d :: kg.flat) 0 = d from rfl]
  cases hk : decide (c.fKind = d.fKind) with
  | false => rw [cnd_tt (p := !false) rfl, vOrder_eq, obn_s rfl]; rfl
  | true =>
  rw [cnd_ff (p := !true) rfl]
  cases h4 : decide (c.fKind = 4) with
  | true => rw [cnd_tt rfl]; rfl
  | false =>
  rw [cnd_ff rfl]
  cases h56 : (!decide (c.fKind = 5) && !decide (c.fKind = 6)) with
  | true => rw [cnd_tt rfl, vOrder_eq, obn_s rfl]; rfl
  | false =>
   rw [cnd_ff rfl]
   have hP : vCmpP (F + 2) (d :: kg.flat) [] [] = some (kg.keys, kg.vals) := by
    unfold vCmpP
    have := pB_whole (Y := fun k x (s : List Str × List (List TApiCell)) => vCmpF k x s.1 s.2) (F := F + 2) v2.ck (by omega) rfl v2.n v2.wf ([], [])
    rw [vCmpF_parts kg ([], []) (by show 0 + kg.cnt ≤ _; omega) (by show 0 + kg.cnt ≤ _; omega)] at this
    have eB : (fun (σ : Int × Int × List Str × List (List TApiCell)) => vCmpP_b1 (F + 2) (d :: kg.flat) σ.1 σ.2.1 σ.2.2.1 σ.2.2.2) = fun σ => pB (F + 2) (d :: kg.flat) (fun k x s => vCmpF k x s.1 s.2) σ.1 σ.2.1 σ.2.2 := rfl
    rw [chk_inR (Int.le_refl 0) l2, eB, obn_s this]; rfl
   have hek : c.fKind = d.fKind := of_decide_eq_true hk
   have hQ : ∃ o, vCmpQ (F + 2) (c :: kf.flat) 0 kg.vals kg.keys 0 = some o ∧ o.2.2.2 = kf.cmp kg := by
    rw [vCmpQ]
    unfold vCmpQm
    obtain ⟨o, e1, e2⟩ := cmpQ_forest (M := M) (F := F) (N := kf.flat.length + kg.flat.length) (rc := vCompare F) (fun c d kf kg w1 w2 hl => ih c d kf kg w1 w2 (by omega) F (by omega)) (kf.flat.length + 1) kf kg (by omega) (by omega) (decide (c.fKind = 6)) none none 0 [] [] v1.wf (by rw [hek]; exact v2.wf)
     (v1.ck.sub (by simp) (fun x hx => by simp [hx])) (v2.ck.sub (by simp) (fun x hx => by simp [hx])) rfl rfl (by simp; omega)
    have := pB_whole (Y := fun k x (s : Int × List (List TApiCell) × List Str × Int) => vCmpG (F + 1) k x s.1 s.2.1 s.2.2.1 s.2.2.2) (F := F + 1) v1.ck (by omega) rfl v1.n v1.wf (0, kg.vals, kg.keys, 0)
    have eY : (fun k x (s : Int × List (List TApiCell) × List Str × Int) => vCmpG (F + 1) k x s.1 s.2.1 s.2.2.1 s.2.2.2) = (fun k x s => vCmpGm F (vCompare F) k x s.1 s.2.1 s.2.2.1 s.2.2.2) := by funext k x s; rw [vCmpG]
    rw [eY] at this
    have e1' := this.trans e1
    have eB : (fun (σ : Int × Int × Int × List (List TApiCell) × List Str × Int) => vCmpQ_b1 (F + 1) (c :: kf.flat) (vCmpG (F + 1)) σ.1 σ.2.1 σ.2.2.1 σ.2.2.2.1 σ.2.2.2.2.1 σ.2.2.2.2.2) = fun σ => pB (F + 1) (c :: kf.flat) (fun k x s => vCmpGm F (vCompare F) k x s.1 s.2.1 s.2.2.1 s.2.2.2) σ.1 σ.2.1 σ.2.2 := by
     rw [← eY]; rfl
    rw [chk_inR (Int.le_refl 0) l1, eB, obn_s e1']
    cases o with
    | ret s => exact ⟨s, rfl, e2⟩
    | go s => exact ⟨s, rfl, e2⟩
   obtain ⟨o, e1, e2⟩ := hQ
   rw [hP, obn_s rfl, e1, obn_s rfl, e2, vOrder_eq]
   cases decide (kf.cmp kg = 0) <;> rfl
theorem one_hd {f : Fo} (h1 : f.one = true) (hw : f.wf false none = true) (hA : CkA M f.flat) : ∃ c kf, f.flat = c :: kf.flat ∧ f.hd = some (none, c, kf, .nil) ∧ VHd M c kf := by
 rcases hd_ok hw with h | ⟨k, c, kf, r, hf, Hf⟩
 ·subst h; cases h1
 have cf := Hf.cnt
 rw [one_cnt h1] at cf
 obtain rfl := cnt_zero (f := r) (by omega)
 have hk : k = none := by
  have := Hf.key
  cases k with
  | none => rfl
  | some _ => simp [keyOk] at this
 subst hk
 exact ⟨c, kf, by rw [Hf.flat]; simp [keyC, Fo.flat], hf, (Hf.v hA).1⟩
variable {a b : List TApiCell}
theorem vCompare_eq (hA : CkA M a) (hB : CkA M b) {f g : Fo} (hf : f.one = true) (hg : g.one = true) (wf : f.wf false none = true) (wg : g.wf false none = true) (ea : a = f.flat) (eb : b = g.flat) {F : Nat} (hF : 9 * M + 10 < F) : vCompare F a b = some (f.cmp g) := by
 subst ea; subst eb
 have hvA := hA.hv; have hvB := hB.hv
 obtain ⟨c, kf, e1, h1, v1⟩ := one_hd hf wf hA
 obtain ⟨d, kg, e2, h2, v2⟩ := one_hd hg wg hB
 rw [e1] at hvA ⊢
 rw [e2] at hvB ⊢
 simp only [List.length_cons] at hvA hvB
 rw [vCompare_hd (kf.flat.length + kg.flat.length + 1) c d kf kg v1 v2 (by omega) F (by omega), cmp_hd h1 h2, show (Fo.nil.cmp Fo.nil) = 0 from rfl, thenI_0, show cmpKey none none = 0 from rfl, thenI_zero]
theorem vCmp_eq (hA : CkA M a) (hB : CkA M b) (hM : M ≤ 1000000) {F : Nat} (hF : 9 * M + 10 < F) : vCmp F a b = some (cmpV a b) := by
 unfold vCmp cmpV
 rw [vCheck_eq hA hM (by omega), vCheck_eq hB hM (by omega)]
 have key : errV a = 0 → errV b = 0 → vCompare F a b = some (match whole a, whole b with
  | some f, some g => f.cmp g
  | _, _ => 0) := fun h1 h2 => by
  unfold errV at h1 h2
  cases hwa : whole a with
  | none => rw [hwa] at h1; cases h1
  | some f =>
   cases hwb : whole b with
   | none => rw [hwb] at h2; cases h2
   | some g =>
    obtain ⟨x1, x2, x3⟩ := whole_some hwa
    obtain ⟨y1, y2, y3⟩ := whole_some hwb
    exact vCompare_eq hA hB x3 y3 x2 y2 x1 y1 hF
 simp only [ov_some, Option.isSome_some, imp_tt, chk_t]
 by_cases h1 : errV a = 0
 ·by_cases h2 : errV b = 0
  ·rw [cnd_ff (by simp [h1, h2]), key h1 h2, obn_s rfl, decide_eq_true h1, decide_eq_true h2]; rfl
  ·rw [cnd_tt (by simp [h2]), decide_eq_false h2, Bool.and_false]; rfl
 ·rw [cnd_tt (by simp [h1]), decide_eq_false h1]; rfl
end
end Go.Proofs.YtkalifgebccpcaaDoor
