/-
  Texts of the proof, put together: QR, IdA, PlB, IdB, PlC, IdC, ShelfV, PlD, PlE, FwJ, IdR, QG, QS, QO, RowQ, PQB, WQB, PVa, WVa, PVb.
-/
import Derived.Test.YtpmiamphppcfeaaDoorEN1
import Derived.Test.YtpmiamphppcfeaaDoorProg
import Derived.Lib.Bytealg
import Derived.Lib.AtoiAllCases
import Derived.Lib.ItoaNum
import Derived.Lib.ItoaLen
import Derived.Shelf.Strings.Builder1
import Derived.Shelf.Strings.Count
import Derived.Shelf.Strings.Search1
import Derived.Shelf.Strings.Search2
import Derived.Shelf.Strings.Search3
import Derived.Shelf.Small.Strs
import Derived.Shelf.LaysM
import Derived.Shelf.LaysC
import Derived.Lib.ItoaMem
import Derived.Laws.BytesString
import Derived.Lib.Builder
import Derived.Lib.UnsafeStr
import Derived.Lib.AppendStr
import Derived.Laws.Externs
import Derived.Deep.Slices
import Derived.ChangeArms
import Derived.DataReads
import Derived.Laws.Tables
import Derived.Lib.SmallJoins
/-
 Regions that draw their order: what each operation yields stands for the same whatever the order. Plain theorems over any program; no condition.
-/
namespace Go.Proofs.YtpmiamphppcfeaaDoor.Q
open Go Go.RowKit
set_option linter.unusedVariables false
set_option linter.unusedSimpArgs false
section
variable (P : Program) (n : Nat) (c : Cx) (ops : Array Oper) (Q : Exit → Act → World → Prop)
def OpOk (l : Fr) (H : List Ent) (o : Oper) (r : Rp) (H' : List Ent) : Prop :=
 ∀ a w Z (K : Act → World → Prop), Agr n l a Z → St c H Z w → (∀ v w' Z', Fz.le Z Z' → r.p Z' v → St c H' Z' w' → K (a.put o.dst v) w') →
  (Region.wanted o (yielded ops a.tmps) = true → o.wp P a w K Q) ∧ (Region.wanted o (yielded ops a.tmps) = false → K (a.put o.dst undef) w)
end
/-! ### Frames, less what is not needed: what a script finds -/
def SubL (l' l : Fr) : Prop := ∀ i v, look l' i = some v → ∃ q, look l i = some q ∧ Rle q v
theorem Agr.subL {n : Nat} {a : Act} {Z : Fz} {l l' : Fr} (h : Agr n l a Z) (hs : SubL l' l) : Agr n l' a Z := ⟨h.size, h.defers, fun i v hi => by
 obtain ⟨q, hq, hle⟩ := hs i v hi
 obtain ⟨u, hu, hp⟩ := h.tm i q hq
 exact ⟨u, hu, hle Z u hp⟩⟩
structure Kp (ks : List Nat) (l l' : Fr) : Prop where
 one : SubL l' l
 two : ∀ i v, look l' i = some v → ks.contains i = true
theorem kp_n {ks : List Nat} : Kp ks [] [] := ⟨fun i v h => by simp [look] at h, fun i v h => by simp [look] at h⟩
theorem kp_y {ks : List Nat} {i : Nat} {r : Rp} {l l' : Fr} (h : ks.contains i = true) (t : Kp ks l l') : Kp ks ((i, r) :: l) ((i, r) :: l') := by
 refine ⟨fun j v hj => ?_, fun j v hj => ?_⟩
 ·rw [look_cons] at hj ⊢
  split at hj
  ·rename_i e; rw [if_pos e]; simp at hj; subst hj; exact ⟨r, rfl, Rle.refl r⟩
  ·rename_i e; rw [if_neg e]; exact t.one j v hj
 ·rw [look_cons] at hj
  split at hj
  ·rename_i e; subst e; exact h
  ·exact t.two j v hj
theorem kp_d {ks : List Nat} {i : Nat} {r : Rp} {l l' : Fr} (h : ks.contains i = false) (t : Kp ks l l') : Kp ks ((i, r) :: l) l' := by
 refine ⟨fun j v hj => ?_, t.two⟩
 rw [look_cons]
 by_cases e : i = j
 ·subst e; rw [t.two i v hj] at h; cases h
 ·rw [if_neg e]; exact t.one j v hj
structure Sp where
 deps : List Nat
 r : Rp
 kd : Nat
def sps (sp : List Sp) (i : Nat) : Sp := sp.getD i ⟨[], rv undef, 0⟩
def dstOf (ops : List Oper) (i : Nat) : Option Nat := (ops[i]?).bind (·.dst)
def depFr (ops : List Oper) (sp : List Sp) : List Nat → Fr → Fr
 | [], l => l
 | j :: r, l => match dstOf ops j with
  | some d => (d, (sps sp j).r) :: depFr ops sp r l
  | none => depFr ops sp r l
def bnds (o : Oper) : List Nat := (o.after.toList.filter (Region.binds .any)).map (·.on)
def cloM : List Oper → List Nat → List Nat
 | [], acc => acc
 | o :: rest, acc => cloM rest (acc ++ [(bnds o).foldl (fun s e => s ||| 2 ^ e ||| acc.getD e 0) 0])
def keysOf (l : Fr) : List Nat := l.map (·.1)
def okB (n : Nat) (ops : List Oper) (N : Nat) (keys : List Nat) (deps : List (List Nat)) (kds : List Nat) : Bool :=
 let cl := cloM ops []
 (List.range ops.length).all (fun i => (bnds (ops.getD i default)).all (· < i)) &&
 (List.range N).all (fun i => match dstOf ops i with
  | some d => decide (d < n) && !keys.contains d && (List.range N).all (fun j => j == i || dstOf ops j != some d)
  | none => true) &&
 (List.range N).all (fun i => (deps.getD i []).all (fun j => (bnds (ops.getD i default)).contains j)) &&
 (List.range N).all (fun i => kds.getD i 0 == 0 || (List.range N).all (fun j => kds.getD j 0 != 2 || j == i || (if j < i then (cl.getD i 0).testBit j else (cl.getD j 0).testBit i))) &&
 (List.range ops.length).all (fun i => i < N || (List.range N).all (fun j => (cl.getD i 0).testBit j)) && ops.length ≤ N + 1 && kds.all (· ≤ 2)
section
variable {P : Program} {n : Nat} {c : Cx} {opsA : Array Oper} {Q : Exit → Act → World → Prop}
theorem cloM_good (ops : List Oper) (F : Nat → Prop) : ∀ (rest : List Oper) (acc : List Nat), (∀ (t : Nat) o, rest[t]? = some o → ∀ e ∈ bnds o, F (acc.length + t) → F e) →
  (∀ (j i : Nat), (acc.getD j 0).testBit i = true → F j → F i) → ∀ (j i : Nat), ((cloM rest acc).getD j 0).testBit i = true → F j → F i
 | [], acc, _, h => h
 | o :: rest, acc, hr, h => by
  unfold cloM
  refine cloM_good ops F rest _ (fun t o' ht e he hF => hr (t + 1) o' (by simpa using ht) e he (by simpa [Nat.add_assoc, Nat.add_comm 1 t] using hF)) (fun j i hb hF => ?_)
  by_cases hj : j < acc.length
  ·refine h j i ?_ hF
   simpa [List.getElem?_append_left hj] using hb
  ·by_cases hj2 : j = acc.length
   ·subst hj2
    simp only [List.getD_eq_getElem?_getD, List.getElem?_append_right (Nat.le_refl _), Nat.sub_self, List.getElem?_cons_zero, Option.getD_some] at hb
    have key : ∀ (es : List Nat) (s0 : Nat), (es.foldl (fun s e => s ||| 2 ^ e ||| acc.getD e 0) s0).testBit i = true → s0.testBit i = true ∨ ∃ e ∈ es, e = i ∨ (acc.getD e 0).testBit i = true := by
     intro es
     induction es with
     | nil => intro s0 h0; exact .inl h0
     | cons e es ih =>
      intro s0 h0
      rcases ih _ h0 with h1 | ⟨e', he', h1⟩
      ·simp only [Nat.testBit_or, Bool.or_eq_true, Nat.testBit_two_pow, decide_eq_true_eq] at h1
       rcases h1 with (h1 | h1) | h1
       ·exact .inl h1
       ·exact .inr ⟨e, by simp, .inl h1⟩
       ·exact .inr ⟨e, by simp, .inr h1⟩
      ·exact .inr ⟨e', by simp [he'], h1⟩
    rcases key (bnds o) 0 hb with h0 | ⟨e, he, h1 | h1⟩
    ·simp at h0
    ·subst h1; exact hr 0 o rfl e he (by simpa using hF)
    ·exact h e i h1 (hr 0 o rfl e he (by simpa using hF))
   ·have : (acc ++ [(bnds o).foldl (fun s e => s ||| 2 ^ e ||| acc.getD e 0) 0]).getD j 0 = 0 := by
     rw [List.getD_eq_getElem?_getD, List.getElem?_eq_none (by simp; omega)]; rfl
    rw [this] at hb; simp at hb
def Obl (P : Program) (n : Nat) (c : Cx) (opsA : Array Oper) (Q : Exit → Act → World → Prop) (ops : List Oper) (sp : List Sp) (l0 : Fr) : Nat → List Oper → List (List Ent) → Prop
 | i, o :: rest, H :: H' :: Hs =>
  (match (sps sp i).kd with
   | 0 => H' = H ∧ ∀ H, OpOk P n c opsA Q (depFr ops sp (sps sp i).deps l0) H o (sps sp i).r H
   | 1 => H' = H ∧ OpOk P n c opsA Q (depFr ops sp (sps sp i).deps l0) H o (sps sp i).r H
   | _ => OpOk P n c opsA Q (depFr ops sp (sps sp i).deps l0) H o (sps sp i).r H') ∧ Obl P n c opsA Q ops sp l0 (i + 1) rest (H' :: Hs)
 | _, [], [_] => True
 | _, _, _ => False
theorem Obl.at {ops : List Oper} {sp : List Sp} {l0 : Fr} : ∀ {k : Nat} {rest : List Oper} {Hs : List (List Ent)}, Obl P n c opsA Q ops sp l0 k rest Hs → Hs.length = rest.length + 1 ∧ ∀ (t : Nat) o, rest[t]? = some o →
  (match (sps sp (k + t)).kd with
   | 0 => Hs.getD (t + 1) [] = Hs.getD t [] ∧ ∀ H, OpOk P n c opsA Q (depFr ops sp (sps sp (k + t)).deps l0) H o (sps sp (k + t)).r H
   | 1 => Hs.getD (t + 1) [] = Hs.getD t [] ∧ OpOk P n c opsA Q (depFr ops sp (sps sp (k + t)).deps l0) (Hs.getD t []) o (sps sp (k + t)).r (Hs.getD t [])
   | _ => OpOk P n c opsA Q (depFr ops sp (sps sp (k + t)).deps l0) (Hs.getD t []) o (sps sp (k + t)).r (Hs.getD (t + 1) []))
 | k, o :: rest, H :: H' :: Hs, ⟨h1, h2⟩ => by
  obtain ⟨hl, ih⟩ := Obl.at h2
  refine ⟨by simp at hl ⊢; omega, fun t o' ht => ?_⟩
  cases t with
  | zero => simp at ht; subst ht; simpa using h1
  | succ t =>
   have := ih t o' (by simpa using ht)
   rw [show k + (t + 1) = k + 1 + t from by omega]
   simpa using this
 | _, [], [_], _ => ⟨rfl, fun t o h => by simp at h⟩
theorem look_mem : ∀ {l : Fr} {i : Nat} {r : Rp}, look l i = some r → i ∈ keysOf l
 | [], i, r, h => by simp [look] at h
 | p :: l, i, r, h => by
  obtain ⟨j, u⟩ := p
  rw [look_cons] at h
  split at h
  ·rename_i e; subst e; simp [keysOf]
  ·simp only [keysOf, List.map_cons, List.mem_cons]; exact .inr (look_mem h)
theorem agr_dep {ops : List Oper} {sp : List Sp} {l0 : Fr} {a : Act} {Z : Fz} (h0 : Agr n l0 a Z) : ∀ {ds : List Nat}, (∀ j ∈ ds, ∀ d, dstOf ops j = some d → ∃ v, a.tmps[d]? = some v ∧ (sps sp j).r.p Z v) → Agr n (depFr ops sp ds l0) a Z
 | [], _ => h0
 | j :: ds, h => by
  have ih := agr_dep h0 (ds := ds) (fun j' hj' => h j' (by simp [hj']))
  unfold depFr
  cases hd : dstOf ops j with
  | none => exact ih
  | some d =>
   refine ⟨ih.size, ih.defers, fun i r hi => ?_⟩
   rw [look_cons] at hi
   split at hi
   ·rename_i e; subst e; simp at hi; subst hi; exact h j (by simp) d hd
   ·exact ih.tm i r hi
theorem wc_region_d {id : Nat} {pre last : List Oper} (sp : List Sp) (Hs : List (List Ent)) {l0 l : Fr} {H : List Ent} (hm : P.follows .mixedOrders = true)
  (hB : okB n (pre ++ last) pre.length (keysOf l0) (sp.map (·.deps)) (sp.map (·.kd)) = true) (hl0 : SubL l0 l) (hsp : sp.length = pre.length) (hH : Hs.getD 0 [] = H)
  (hob : Obl P n c (pre ++ last).toArray Q (pre ++ last) sp l0 0 pre Hs)
  (h : WL P n c (pre ++ last).toArray Q last (depFr (pre ++ last) sp (List.range pre.length) l0) (Hs.getD pre.length [])) : WC P n c (.region id (pre ++ last).toArray true) Q l H := by
 intro a w Z ha hw
 generalize hops : pre ++ last = ops at *
 obtain ⟨hHl, hat⟩ := hob.at
 simp only [okB, Bool.and_eq_true, List.all_eq_true, List.mem_range, decide_eq_true_eq] at hB
 obtain ⟨⟨⟨⟨⟨⟨b1, b2⟩, b3⟩, b4⟩, b5⟩, b6⟩, b7⟩ := hB
 have hN : pre.length ≤ ops.length := by rw [← hops]; simp
 have hget : ∀ i, i < pre.length → ops[i]? = pre[i]? := fun i hi => by rw [← hops, List.getElem?_append_left hi]
 have hkd : ∀ i, i < pre.length → (sp.map (·.kd)).getD i 0 = (sps sp i).kd := fun i hi => by
  simp [sps, List.getD_eq_getElem?_getD, List.getElem?_map, List.getElem?_eq_getElem (show i < sp.length by omega)]
 have hdp : ∀ i, i < pre.length → (sp.map (·.deps)).getD i [] = (sps sp i).deps := fun i hi => by
  simp [sps, List.getD_eq_getElem?_getD, List.getElem?_map, List.getElem?_eq_getElem (show i < sp.length by omega)]
 have hconst : ∀ (k b : Nat), b + k ≤ pre.length → (∀ j, b ≤ j → j < b + k → (sps sp j).kd ≠ 2) → Hs.getD (b + k) [] = Hs.getD b [] := by
  intro k
  induction k with
  | zero => intro b _ _; rfl
  | succ k ih =>
   intro b hb hj
   have hlt : b + k < pre.length := by omega
   have h1 := hat (b + k) pre[b + k] (List.getElem?_eq_getElem hlt)
   rw [Nat.zero_add] at h1
   have hk2 : (sps sp (b + k)).kd ≤ 2 := by
    have := b7 ((sp.map (·.kd)).getD (b + k) 0) (by
     rw [List.getD_eq_getElem?_getD, List.getElem?_eq_getElem (by simp; omega)]; exact List.getElem_mem _)
    rw [hkd _ hlt] at this; exact this
   have hne := hj (b + k) (by omega) (by omega)
   have e1 : Hs.getD (b + k + 1) [] = Hs.getD (b + k) [] := by
    match hq : (sps sp (b + k)).kd, h1 with
    | 0, h1 => exact h1.1
    | 1, h1 => exact h1.1
    | 2, _ => exact absurd hq hne
    | q + 3, _ => omega
   rw [show b + (k + 1) = b + k + 1 from by omega, e1]
   exact ih b (by omega) (fun j h1 h2 => hj j h1 (by omega))
 refine wp_region_any hm ?_
 have main : ∀ (fuel : Nat) (listed : Array Bool) (a : Act) (w : World) (Z : Fz) (m : Nat), listed.size = ops.length → listed.toList.count false = fuel → m ≤ pre.length →
   St c (Hs.getD m []) Z w → Agr n l0 a Z → (∀ j, j < pre.length → listed.getD j true = true → ∀ d, dstOf ops j = some d → ∃ v, a.tmps[d]? = some v ∧ (sps sp j).r.p Z v) →
   (∀ j, j < pre.length → (sps sp j).kd = 2 → (listed.getD j true = true ↔ j < m)) → (∀ j o, ops[j]? = some o → listed.getD j true = true → ∀ e ∈ bnds o, listed.getD e true = true) →
   (∀ j, pre.length ≤ j → j < ops.length → listed.getD j true = false) → wpAny P .any ops.toArray Q fuel listed a w := by
  have rdy : ∀ (listed : Array Bool), listed.size = ops.length → Region.ready .any ops.toArray listed = [] → ∀ j, j < ops.length → listed.getD j true = true := by
   intro listed hsz hr j
   induction j using Nat.strongRecOn with
   | ind j ih =>
    intro hj
    cases hb : listed.getD j true with
    | true => rfl
    | false =>
     have : j ∈ Region.ready .any ops.toArray listed := mem_ready.2 ⟨hb, ops[j], by simp [hj], fun e he hbn => by
      have h1 := b1 j hj
      rw [List.getD_eq_getElem?_getD, List.getElem?_eq_getElem hj] at h1
      have hlt : e.on < j := h1 e.on (by
       simp only [bnds, Option.getD_some, List.mem_map, List.mem_filter]
       exact ⟨e, ⟨by simpa using he, hbn⟩, rfl⟩)
      have := ih e.on hlt (by omega)
      rw [Array.getD_eq_getD_getElem?] at this ⊢
      rw [Array.getElem?_eq_getElem (by omega)] at this ⊢
      simpa using this⟩
     rw [hr] at this; cases this
  have fin : ∀ (listed : Array Bool) (a : Act) (w : World) (Z : Fz) (m : Nat), listed.size = ops.length → m ≤ pre.length → St c (Hs.getD m []) Z w → Agr n l0 a Z → (∀ j, j < pre.length → listed.getD j true = true) →
    (∀ j, j < pre.length → listed.getD j true = true → ∀ d, dstOf ops j = some d → ∃ v, a.tmps[d]? = some v ∧ (sps sp j).r.p Z v) →
    (∀ j, j < pre.length → (sps sp j).kd = 2 → (listed.getD j true = true ↔ j < m)) → wpList P ops.toArray Q last a w := by
   intro listed a w Z m hsz hmN hst hag hall hv hloud
   refine h a w Z (agr_dep hag (fun j hj d hd => hv j (by simpa using hj) (hall j (by simpa using hj)) d hd)) ?_
   have := hconst (pre.length - m) m (by omega) (fun j h1 h2 h3 => by
    have := (hloud j (by omega) h3).1 (hall j (by omega))
    omega)
   rw [show m + (pre.length - m) = pre.length from by omega] at this
   rw [this]; exact hst
  intro fuel
  induction fuel with
  | zero =>
   intro listed a w Z m hsz hcnt hmN hst hag hv hloud hcl hlast
   have hall : ∀ j, j < ops.length → listed.getD j true = true := fun j hj => by
    cases hb : listed.getD j true with
    | true => rfl
    | false =>
     have : false ∈ listed.toList := by
      rw [Array.getD_eq_getD_getElem?, Array.getElem?_eq_getElem (by omega)] at hb
      simp at hb; rw [← hb]; simp
     have := List.count_pos_iff.2 this
     omega
   have hl0' : last = [] := by
    cases last with
    | nil => rfl
    | cons o r =>
     have hlt : pre.length < ops.length := by rw [← hops]; simp
     have := hall pre.length hlt
     rw [hlast pre.length (Nat.le_refl _) hlt] at this; cases this
   subst hl0'
   refine ⟨?_, fin listed a w Z m hsz hmN hst hag (fun j hj => hall j (by omega)) hv hloud⟩
   cases hr : Region.ready .any ops.toArray listed with
   | nil => rfl
   | cons i r =>
    have hi : i ∈ Region.ready .any ops.toArray listed := by rw [hr]; simp
    obtain ⟨h1, o, ho, _⟩ := mem_ready.1 hi
    rw [hall i (by have := (Array.getElem?_eq_some_iff.1 ho).1; simpa using this)] at h1; cases h1
  | succ fuel ih =>
   intro listed a w Z m hsz hcnt hmN hst hag hv hloud hcl hlast
   have clo : ∀ (j i : Nat), ((cloM ops []).getD j 0).testBit i = true → listed.getD j true = true → listed.getD i true = true :=
    cloM_good ops (fun i => listed.getD i true = true) ops [] (fun t o ht e he hF => hcl t o ht (by simpa using hF) e he) (fun j i hb => by simp at hb)
   refine ⟨fun hr => ?_, fun i hi => ?_⟩
   ·have hall := rdy listed hsz hr
    have : listed.toList.count false = 0 := by
     rw [List.count_eq_zero]
     intro hmem
     obtain ⟨k, hk⟩ := List.getElem?_of_mem hmem
     have hkl := (List.getElem?_eq_some_iff.1 hk).1
     have := hall k (by simpa [hsz] using hkl)
     rw [Array.getD_eq_getD_getElem?] at this
     simp at hk this
     rw [hk] at this; simp at this
    omega
   ·obtain ⟨hun, o, ho, haft⟩ := mem_ready.1 hi
    have ho' : ops[i]? = some o := by simpa using ho
    have hil : i < ops.length := (List.getElem?_eq_some_iff.1 ho').1
    have hbl : ∀ e ∈ bnds o, listed.getD e true = true := fun e he => by
     simp only [bnds, List.mem_map, List.mem_filter] at he
     obtain ⟨x, ⟨hx1, hx2⟩, rfl⟩ := he
     have h3 := haft x (by simpa using hx1) hx2
     rw [Array.getD_eq_getD_getElem?] at h3 ⊢
     cases hq : listed[x.on]? with
     | none => rw [hq] at h3; cases h3
     | some b => rw [hq] at h3; simpa using h3
    have hset : ∀ j, (listed.setIfInBounds i true).getD j true = true ↔ (j = i ∨ listed.getD j true = true) := fun j => by
     by_cases hj : i = j
     ·subst hj
      have : i < listed.size := by omega
      simp [this]
     ·rw [getD_set_ne true hj]
      constructor
      ·exact .inr
      ·rintro (h1 | h1)
       ·exact absurd h1.symm hj
       ·exact h1
    have hsz' : (listed.setIfInBounds i true).size = ops.length := by simpa using hsz
    have hcnt' : (listed.setIfInBounds i true).toList.count false = fuel := by
     have hlt : i < listed.size := by omega
     have hfi : listed.toList[i]? = some false := by
      rw [Array.getD_eq_getD_getElem?, Array.getElem?_eq_getElem hlt] at hun
      simp at hun; simp [hlt, hun]
     rw [Array.toList_setIfInBounds]
     have h1 := List.count_set (a := true) (b := false) (l := listed.toList) (i := i) (by simpa using hlt)
     have h2 : listed.toList[i]'(by simpa using hlt) = false := by
      have := List.getElem?_eq_some_iff.1 hfi; exact this.2
     rw [h1, h2, hcnt]; rfl
    have hcl' : ∀ j o, ops[j]? = some o → (listed.setIfInBounds i true).getD j true = true → ∀ e ∈ bnds o, (listed.setIfInBounds i true).getD e true = true := fun j o' hj hl e he => by
     rw [hset] at hl ⊢
     rcases hl with rfl | hl
     ·rw [ho'] at hj; simp at hj; subst hj; exact .inr (hbl e he)
     ·exact .inr (hcl j o' hj hl e he)
    unfold wpOp
    have hoA : ops.toArray[i]? = some o := ho
    simp only [hoA]
    by_cases hiN : i < pre.length
    · -- one of the prefix
     have hpre : pre[i]? = some o := by rw [← hget i hiN]; exact ho'
     have h1 := hat i o hpre
     rw [Nat.zero_add] at h1
     have hag' : Agr n (depFr ops sp (sps sp i).deps l0) a Z := agr_dep hag (fun j hj d hd => by
      have h3 := b3 i hiN
      rw [hdp i hiN] at h3
      have h4 := h3 j hj
      rw [List.getD_eq_getElem?_getD, ho', Option.getD_some, List.contains_iff_mem] at h4
      have hlj := hbl j h4
      have hji : j < i := by
       have := b1 i hil
       rw [List.getD_eq_getElem?_getD, ho', Option.getD_some] at this
       exact this j h4
      exact hv j (by omega) hlj d hd)
     have hdst : ∀ d, o.dst = some d → (d < n ∧ d ∉ keysOf l0) ∧ ∀ j, j < pre.length → j ≠ i → dstOf ops j ≠ some d := fun d hd => by
      have h3 := b2 i hiN
      have : dstOf ops i = some d := by simp [dstOf, ho', hd]
      rw [this] at h3
      simp only [Bool.and_eq_true, Bool.not_eq_true', List.all_eq_true, List.mem_range, decide_eq_true_eq] at h3
      refine ⟨⟨h3.1.1, fun hmem => by rw [← List.contains_iff_mem] at hmem; rw [hmem] at h3; cases h3.1.2⟩, fun j hj hne he => ?_⟩
      have := h3.2 j hj
      simp [hne, he] at this
     -- what is known after the operation
     have after : ∀ (v : Value) (w' : World) (Z' : Fz) (m' : Nat), m' ≤ pre.length → Fz.le Z Z' → (o.dst ≠ none → (sps sp i).r.p Z' v) → St c (Hs.getD m' []) Z' w' →
       (∀ j, j < pre.length → (sps sp j).kd = 2 → ((listed.setIfInBounds i true).getD j true = true ↔ j < m')) → wpAny P .any ops.toArray Q fuel (listed.setIfInBounds i true) (a.put o.dst v) w' := by
      intro v w' Z' m' hm' hz hp hst' hloud'
      have hput : ∀ k u, a.tmps[k]? = some u → o.dst ≠ some k → (a.put o.dst v).tmps[k]? = some u := fun k u hk hne => by
       cases hd : o.dst with
       | none => simpa [Act.put] using hk
       | some d =>
        simp only [Act.put, Array.getElem?_setIfInBounds]
        rw [if_neg (fun e => hne (by rw [hd, e]))]; exact hk
      refine ih _ _ _ Z' m' hsz' hcnt' hm' hst' ⟨?_, ?_, fun k r hk => ?_⟩ (fun j hj hl d hd => ?_) hloud' hcl' (fun j h1 h2 => ?_)
      ·cases o.dst <;> simp [Act.put, hag.size]
      ·cases o.dst <;> simp [Act.put, hag.defers]
      ·obtain ⟨u, hu, hpu⟩ := hag.tm k r hk
       exact ⟨u, hput k u hu (fun e => (hdst k e).1.2 (look_mem hk)), r.mono hz hpu⟩
      ·by_cases hji : j = i
       ·subst hji
        have hod : o.dst = some d := by simpa [dstOf, ho'] using hd
        refine ⟨v, ?_, hp (by simp [hod])⟩
        have hdn : d < a.tmps.size := by rw [hag.size]; exact (hdst d hod).1.1
        simp [Act.put, hod, hdn]
       ·rw [hset] at hl
        rcases hl with hl | hl
        ·exact absurd hl hji
        ·obtain ⟨u, hu, hpu⟩ := hv j hj hl d hd
         exact ⟨u, hput d u hu (fun e => (hdst d e).2 j hj hji hd), (sps sp j).r.mono hz hpu⟩
      ·rw [getD_set_ne true (by omega)]; exact hlast j h1 h2
     have loudSame : (sps sp i).kd ≠ 2 → ∀ j, j < pre.length → (sps sp j).kd = 2 → ((listed.setIfInBounds i true).getD j true = true ↔ j < m) := fun hne j hj hk => by
      rw [hset, ← hloud j hj hk]
      constructor
      ·rintro (h1 | h1)
       ·subst h1; exact absurd hk hne
       ·exact h1
      ·exact .inr
     have level : (sps sp i).kd ≠ 0 → Hs.getD i [] = Hs.getD m [] ∧ ∀ j, j < pre.length → (sps sp j).kd = 2 → j ≠ i → (listed.getD j true = true ↔ j < i) := fun hne => by
      have ord : ∀ j, j < pre.length → (sps sp j).kd = 2 → j ≠ i → (listed.getD j true = true ↔ j < i) := fun j hj hk hji => by
       have h3 := b4 i hiN
       rw [hkd i hiN, Bool.or_eq_true, beq_iff_eq] at h3
       rcases h3 with h3 | h3
       ·exact absurd h3 hne
       ·rw [List.all_eq_true] at h3
        have h4 := h3 j (by simpa using hj)
        rw [hkd j hj, hk] at h4
        simp only [bne_self_eq_false, Bool.false_or, Bool.or_eq_true, beq_iff_eq, hji, false_or] at h4
        by_cases hlt : j < i
        ·rw [if_pos hlt] at h4
         have : listed.getD j true = true := by
          -- i's ancestors are listed
          have hcl2 : ∀ (k q : Nat), ((cloM ops []).getD k 0).testBit q = true → (k = i ∨ listed.getD k true = true) → (q = i ∨ listed.getD q true = true) :=
           cloM_good ops (fun k => k = i ∨ listed.getD k true = true) ops [] (fun t o' ht e he hF => by
            rcases hF with hF | hF
            ·simp at hF; subst hF; rw [ho'] at ht; simp at ht; subst ht; exact .inr (hbl e he)
            ·exact .inr (hcl t o' ht (by simpa using hF) e he)) (fun j i hb => by simp at hb)
          rcases hcl2 i j h4 (.inl rfl) with h5 | h5
          ·exact absurd h5 hji
          ·exact h5
         exact ⟨fun _ => hlt, fun _ => this⟩
        ·rw [if_neg hlt] at h4
         refine ⟨fun h5 => ?_, fun h5 => absurd h5 hlt⟩
         have := clo j i h4 h5
         rw [this] at hun; cases hun
      refine ⟨?_, ord⟩
      rcases Nat.le_total m i with hmi | hmi
      ·have := hconst (i - m) m (by omega) (fun j h1 h2 h3 => by
        have h4 := (ord j (by omega) h3 (by omega)).2 (by omega)
        have := (hloud j (by omega) h3).1 h4
        omega)
       rw [show m + (i - m) = i from by omega] at this
       exact this
      ·have := hconst (m - i) i (by omega) (fun j h1 h2 h3 => by
        have h4 := (hloud j (by omega) h3).2 (by omega)
        by_cases hji : j = i
        ·subst hji; rw [h4] at hun; cases hun
        ·have := (ord j (by omega) h3 hji).1 h4; omega)
       rw [show i + (m - i) = m from by omega] at this
       exact this.symm
     have step : ∀ H', OpOk P n c ops.toArray Q (depFr ops sp (sps sp i).deps l0) (Hs.getD m []) o (sps sp i).r H' → (∃ m', m' ≤ pre.length ∧ H' = Hs.getD m' [] ∧ ∀ j, j < pre.length → (sps sp j).kd = 2 → ((listed.setIfInBounds i true).getD j true = true ↔ j < m')) →
       (if Region.wanted o (yielded ops.toArray a.tmps) then o.wp P a w (wpAny P .any ops.toArray Q fuel (listed.setIfInBounds i true)) Q ∨ (o.asks P a w ∧ LetsOut Q) else wpAny P .any ops.toArray Q fuel (listed.setIfInBounds i true) (a.put o.dst undef) w) := fun H' hok ⟨m', hm', hHm, hl'⟩ => by
      obtain ⟨k1, k2⟩ := hok a w Z (wpAny P .any ops.toArray Q fuel (listed.setIfInBounds i true)) hag' hst (fun v w' Z' hz hp hs => after v w' Z' m' hm' hz (fun _ => hp) (by rw [← hHm]; exact hs) hl')
      split
      ·rename_i hw'; exact .inl (k1 hw')
      ·rename_i hw'; exact k2 (by simpa using hw')
     have hk2 : (sps sp i).kd ≤ 2 := by
      have := b7 ((sp.map (·.kd)).getD i 0) (by
       rw [List.getD_eq_getElem?_getD, List.getElem?_eq_getElem (by simp; omega)]; exact List.getElem_mem _)
      rw [hkd _ hiN] at this; exact this
     match hq : (sps sp i).kd, h1 with
     | 0, h1 => exact step _ (h1.2 _) ⟨m, hmN, rfl, loudSame (by omega)⟩
     | 1, h1 =>
      obtain ⟨e1, e2⟩ := level (by omega)
      refine step _ (by rw [← e1]; exact h1.2) ⟨m, hmN, e1, loudSame (by omega)⟩
     | 2, h1 =>
      obtain ⟨e1, e2⟩ := level (by omega)
      refine step _ (by rw [← e1]; exact h1) ⟨i + 1, by omega, rfl, fun j hj hk => ?_⟩
      rw [hset]
      by_cases hji : j = i
      ·subst hji; simp
      ·rw [e2 j hj hk hji]; simp [hji]; omega
     | q + 3, _ => omega
    · -- the last one
     have hNi : i = pre.length := by omega
     have hlast1 : ∃ r, last = o :: r := by
      cases last with
      | nil => rw [← hops] at hil; simp at hil; omega
      | cons o' r =>
       rw [← hops, hNi] at ho'
       simp at ho'
       exact ⟨r, by rw [ho']⟩
     obtain ⟨r, rfl⟩ := hlast1
     have hr : r = [] := by
      have := b6; rw [← hops] at this; simp at this
      cases r with
      | nil => rfl
      | cons _ _ => simp at this
     subst hr
     have hall : ∀ j, j < pre.length → listed.getD j true = true := fun j hj => by
      have hcl2 : ∀ (k q : Nat), ((cloM ops []).getD k 0).testBit q = true → (k = i ∨ listed.getD k true = true) → (q = i ∨ listed.getD q true = true) :=
       cloM_good ops (fun k => k = i ∨ listed.getD k true = true) ops [] (fun t o' ht e he hF => by
        rcases hF with hF | hF
        ·simp at hF; subst hF; rw [ho'] at ht; simp at ht; subst ht; exact .inr (hbl e he)
        ·exact .inr (hcl t o' ht (by simpa using hF) e he)) (fun j i hb => by simp at hb)
      have h5 := b5 i hil
      simp only [Bool.or_eq_true, decide_eq_true_eq, List.all_eq_true, List.mem_range] at h5
      rcases h5 with h5 | h5
      ·omega
      ·rcases hcl2 i j (h5 j hj) (.inl rfl) with h6 | h6
       ·omega
       ·exact h6
     have hf := fin listed a w Z m hsz hmN hst hag hall hv hloud
     have kk : ∀ a' w', Q .normal a' w' → wpAny P .any ops.toArray Q fuel (listed.setIfInBounds i true) a' w' := fun a' w' hq => by
      have hall' : ∀ j, j < ops.length → (listed.setIfInBounds i true).getD j true = true := fun j hj => by
       rw [hset]
       by_cases hji : j = i
       ·exact .inl hji
       ·refine .inr (hall j ?_)
        have : ops.length = pre.length + 1 := by rw [← hops]; simp
        omega
      have hnr : Region.ready .any ops.toArray (listed.setIfInBounds i true) = [] := by
       cases hr : Region.ready .any ops.toArray (listed.setIfInBounds i true) with
       | nil => rfl
       | cons k r =>
        have hk : k ∈ Region.ready .any ops.toArray (listed.setIfInBounds i true) := by rw [hr]; simp
        obtain ⟨h1, o2, ho2, _⟩ := mem_ready.1 hk
        rw [hall' k (by have := (Array.getElem?_eq_some_iff.1 ho2).1; simpa using this)] at h1; cases h1
      cases fuel with
      | zero => exact ⟨hnr, hq⟩
      | succ f => exact ⟨fun _ => hq, fun k hk => by rw [hnr] at hk; cases hk⟩
     simp only [wpList] at hf
     split
     ·rename_i hw'
      rw [if_pos hw'] at hf
      exact hf.imp (fun h => Oper.wp_mono kk h) (fun h => h)
     ·rename_i hw'
      rw [if_neg hw'] at hf
      exact kk _ _ hf
 have e0 : ∀ j, j < ops.length → (Array.replicate ops.length false).getD j true = false := fun j hj => by simp [hj]
 have hsz0 : ops.toArray.size = ops.length := by simp
 rw [hsz0]
 refine main ops.length (Array.replicate ops.length false) a _ Z 0 (by simp) (by simp) (Nat.zero_le _) (by rw [hH]; exact hw.drawn _) (ha.subL hl0) (fun j hj hl => ?_) (fun j hj _ => ?_) (fun j o hj hl => ?_) (fun j _ h2 => e0 j h2)
 ·rw [e0 j (by omega)] at hl; cases hl
 ·rw [e0 j (by omega)]; simp
 ·rw [e0 j (List.getElem?_eq_some_iff.1 hj).1] at hl; cases hl
section
variable {ops : List Oper} {sp : List Sp} {l0 l : Fr} {H H' : List Ent} {Hs : List (List Ent)} {i : Nat} {o : Oper} {rest all : List Oper}
theorem obl_q (hk : (sps sp i).kd = 0) (h : ∀ H, OpOk P n c opsA Q (depFr all sp (sps sp i).deps l0) H o (sps sp i).r H) (hr : Obl P n c opsA Q all sp l0 (i + 1) rest (H :: Hs)) : Obl P n c opsA Q all sp l0 i (o :: rest) (H :: H :: Hs) := by
 refine ⟨?_, hr⟩
 rw [hk]; exact ⟨rfl, h⟩
theorem obl_f (hk : (sps sp i).kd = 1) (h : OpOk P n c opsA Q (depFr all sp (sps sp i).deps l0) H o (sps sp i).r H) (hr : Obl P n c opsA Q all sp l0 (i + 1) rest (H :: Hs)) : Obl P n c opsA Q all sp l0 i (o :: rest) (H :: H :: Hs) := by
 refine ⟨?_, hr⟩
 rw [hk]; exact ⟨rfl, h⟩
theorem obl_l (hk : (sps sp i).kd = 2) (h : OpOk P n c opsA Q (depFr all sp (sps sp i).deps l0) H o (sps sp i).r H') (hr : Obl P n c opsA Q all sp l0 (i + 1) rest (H' :: Hs)) : Obl P n c opsA Q all sp l0 i (o :: rest) (H :: H' :: Hs) := by
 refine ⟨?_, hr⟩
 rw [hk]; exact h
theorem obl_e : Obl P n c opsA Q all sp l0 i [] [H] := trivial
def zipFr : List Oper → List Sp → Fr → Fr
 | o :: os, s :: sp, l => match o.dst with
  | some d => (d, s.r) :: zipFr os sp l
  | none => zipFr os sp l
 | _, _, l => l
theorem zipFr_eq {all : List Oper} {sp : List Sp} {l0 : Fr} : ∀ (os : List Oper) (ss : List Sp) (k : Nat), os = all.drop k → ss = sp.drop k → ss.length = os.length → depFr all sp (List.range' k os.length) l0 = zipFr os ss l0
 | [], _, _, _, _, _ => by cases ‹List Sp› <;> rfl
 | o :: os, [], _, _, _, h => by simp at h
 | o :: os, s :: ss, k, ho, hs, h => by
  have e1 : all[k]? = some o := by
   have := congrArg (·[0]?) ho; simp at this; exact this.symm
  have e2 : sp[k]? = some s := by
   have := congrArg (·[0]?) hs; simp at this; exact this.symm
  have ih := zipFr_eq (l0 := l0) os ss (k + 1) (by have := congrArg List.tail ho; simpa using this) (by have := congrArg List.tail hs; simpa using this) (by simpa using h)
  simp only [List.length_cons, List.range'_succ]
  unfold depFr zipFr
  rw [ih]
  simp only [dstOf, sps, e1, e2, Option.bind_some, List.getD_eq_getElem?_getD, Option.getD_some]
  cases o.dst <;> rfl
structure Kz (ks : List Nat) (os : List Oper) (sp : List Sp) (l0 l1 : Fr) : Prop where
 go : Kp ks (zipFr os sp l0) l1
theorem kz_y {ks : List Nat} {d : Nat} {r : Rp} {ty : TypeId} {pos : String} {af : Array Edge} {op : Op} {g : Option (Nat × Bool)} {os : List Oper} {ds : List Nat} {kd : Nat} {sp : List Sp} {l0 l1 : Fr} (h : ks.contains d = true) (t : Kz ks os sp l0 l1) :
  Kz ks ({ dst := some d, op := op, type := ty, pos := pos, after := af, guard := g } :: os) (⟨ds, r, kd⟩ :: sp) l0 ((d, r) :: l1) := ⟨kp_y h t.go⟩
theorem kz_d {ks : List Nat} {d : Nat} {r : Rp} {ty : TypeId} {pos : String} {af : Array Edge} {op : Op} {g : Option (Nat × Bool)} {os : List Oper} {ds : List Nat} {kd : Nat} {sp : List Sp} {l0 l1 : Fr} (h : ks.contains d = false) (t : Kz ks os sp l0 l1) :
  Kz ks ({ dst := some d, op := op, type := ty, pos := pos, after := af, guard := g } :: os) (⟨ds, r, kd⟩ :: sp) l0 l1 := ⟨kp_d h t.go⟩
theorem kz_u {ks : List Nat} {ty : TypeId} {pos : String} {af : Array Edge} {op : Op} {g : Option (Nat × Bool)} {os : List Oper} {s : Sp} {sp : List Sp} {l0 l1 : Fr} (t : Kz ks os sp l0 l1) :
  Kz ks ({ dst := none, op := op, type := ty, pos := pos, after := af, guard := g } :: os) (s :: sp) l0 l1 := ⟨t.go⟩
theorem kz_0 {ks : List Nat} {l0 l1 : Fr} (t : Kp ks l0 l1) : Kz ks [] [] l0 l1 := ⟨t⟩
theorem wc_rdk {id : Nat} {os : List Oper} {l0 l1 : Fr} (ks0 : List Nat) (sp : List Sp) (Hs : List (List Ent)) (ks : List Nat) {H1 : List Ent}
  (hob : Obl P n c os.toArray Q os sp l0 0 os Hs) (h : WK n c (Q .normal) l1 H1)
  (h0 : Kp ks0 l l0 := by repeat (first | exact kp_n | (apply kp_y; rfl) | (apply kp_d; rfl)))
  (hz : Kz ks os sp l0 l1 := by repeat (first | (apply kz_y; rfl) | (apply kz_d; rfl) | apply kz_u | apply kz_0 | exact kp_n | (apply kp_y; rfl) | (apply kp_d; rfl)))
  (hm : P.follows .mixedOrders = true := by kernel_rfl) (hB : okB n os os.length (keysOf l0) (sp.map (·.deps)) (sp.map (·.kd)) = true := by kernel_rfl)
  (hsp : sp.length = os.length := by rfl) (hH : Hs.getD 0 [] = H := by rfl) (hH1 : Hs.getD os.length [] = H1 := by rfl) : WC P n c (.region id os.toArray true) Q l H := by
 have hk : WK n c (Q .normal) (depFr os sp (List.range os.length) l0) (Hs.getD os.length []) := fun a w Z ha hw => h a w Z (ha.subL (by
   have e := zipFr_eq (all := os) (sp := sp) (l0 := l0) os sp 0 (by simp) (by simp) hsp
   rw [List.range_eq_range', e]; exact hz.go.one)) (by rw [← hH1]; exact hw)
 have := wc_region_d (Q := Q) (id := id) (pre := os) (last := []) sp Hs (l0 := l0) (l := l) (H := H) hm (by simpa using hB) h0.one hsp hH (by simpa using hob) (wl_nil (by simpa using hk))
 simpa using this
theorem wc_rdq {id : Nat} {os : List Oper} {l0 l1 : Fr} (ks0 : List Nat) (sp : List Sp) (ks : List Nat)
  (hob : Obl P n c os.toArray Q os sp l0 0 os (List.replicate (os.length + 1) H)) (h : WK n c (Q .normal) l1 H)
  (h0 : Kp ks0 l l0 := by repeat (first | exact kp_n | (apply kp_y; rfl) | (apply kp_d; rfl)))
  (hz : Kz ks os sp l0 l1 := by repeat (first | (apply kz_y; rfl) | (apply kz_d; rfl) | apply kz_u | apply kz_0 | exact kp_n | (apply kp_y; rfl) | (apply kp_d; rfl)))
  (hm : P.follows .mixedOrders = true := by kernel_rfl) (hB : okB n os os.length (keysOf l0) (sp.map (·.deps)) (sp.map (·.kd)) = true := by kernel_rfl)
  (hsp : sp.length = os.length := by rfl) : WC P n c (.region id os.toArray true) Q l H :=
 wc_rdk ks0 sp _ ks hob h h0 hz hm hB hsp (by simp) (by simp [List.getD_eq_getElem?_getD, List.getElem?_replicate])
theorem wc_rdlk {id : Nat} {os : List Oper} {l0 l1 : Fr} (N : Nat) (ks0 : List Nat) (sp : List Sp) (Hs : List (List Ent)) (ks : List Nat) {H1 : List Ent}
  (hob : Obl P n c os.toArray Q os sp l0 0 (os.take N) Hs) (h : WL P n c os.toArray Q (os.drop N) l1 H1)
  (h0 : Kp ks0 l l0 := by repeat (first | exact kp_n | (apply kp_y; rfl) | (apply kp_d; rfl)))
  (hz : Kz ks (os.take N) sp l0 l1 := by repeat (first | (apply kz_y; rfl) | (apply kz_d; rfl) | apply kz_u | apply kz_0 | exact kp_n | (apply kp_y; rfl) | (apply kp_d; rfl)))
  (hm : P.follows .mixedOrders = true := by kernel_rfl) (hN : Nat.ble N os.length = true := by rfl) (hB : okB n os N (keysOf l0) (sp.map (·.deps)) (sp.map (·.kd)) = true := by kernel_rfl)
  (hsp : sp.length = N := by rfl) (hH : Hs.getD 0 [] = H := by rfl) (hH1 : Hs.getD N [] = H1 := by rfl) : WC P n c (.region id os.toArray true) Q l H := by
 have hN' : N ≤ os.length := by simpa using hN
 have hl : (os.take N).length = N := by simp [hN']
 have hk : WL P n c os.toArray Q (os.drop N) (depFr os sp (List.range N) l0) (Hs.getD N []) := fun a w Z ha hw => h a w Z (ha.subL (by
  have key : ∀ M, M ≤ N → depFr os sp (List.range' (N - M) M) l0 = zipFr ((os.take N).drop (N - M)) (sp.drop (N - M)) l0 := by
   intro M
   induction M with
   | zero => intro _; simp [hsp, depFr, zipFr, List.drop_of_length_le, hl]
   | succ M ih =>
    intro hM
    have ih := ih (by omega)
    have e1 : (os.take N).drop (N - (M + 1)) = (os[N - (M + 1)]'(by omega)) :: (os.take N).drop (N - M) := by
     rw [List.drop_eq_getElem_cons (by omega)]
     simp [show N - (M + 1) + 1 = N - M from by omega]
    have e2 : sp.drop (N - (M + 1)) = (sp[N - (M + 1)]'(by omega)) :: sp.drop (N - M) := by
     rw [List.drop_eq_getElem_cons (by omega)]
     simp [show N - (M + 1) + 1 = N - M from by omega]
    rw [List.range'_succ, show N - (M + 1) + 1 = N - M from by omega, e1, e2]
    unfold depFr zipFr
    rw [ih]
    simp only [dstOf, sps, List.getD_eq_getElem?_getD, List.getElem?_eq_getElem (show N - (M + 1) < os.length from by omega), List.getElem?_eq_getElem (show N - (M + 1) < sp.length from by omega), Option.bind_some, Option.getD_some]
    cases (os[N - (M + 1)]'(by omega)).dst <;> rfl
  have := key N (Nat.le_refl _)
  simp only [Nat.sub_self, List.drop_zero] at this
  rw [List.range_eq_range', this]; exact hz.go.one)) (by rw [← hH1]; exact hw)
 have := wc_region_d (P := P) (n := n) (c := c) (Q := Q) (id := id) (pre := os.take N) (last := os.drop N) sp Hs (l0 := l0) (l := l) (H := H) hm (by rw [List.take_append_drop, hl]; exact hB) h0.one (by rw [hl]; exact hsp) hH (by rw [List.take_append_drop]; exact hob) (by rw [List.take_append_drop, hl]; exact hk)
 rwa [List.take_append_drop] at this
end
/-! ### Obligations -/
section
variable {l : Fr} {H H' : List Ent} {d : Nat} {op : Op} {ty : TypeId} {pos : String} {af : Array Edge} {r : Rp}
theorem ok_v (hr : ORun P n c l H { dst := some d, op := op, type := ty, pos := pos, after := af, guard := none } r) : OpOk P n c opsA Q l H { dst := some d, op := op, type := ty, pos := pos, after := af, guard := none } r H := fun a w Z K ha hw hK =>
 ⟨fun _ => by
  obtain ⟨v, hv, he⟩ := hr a w Z ha hw
  unfold Oper.wp
  rw [he]
  exact hK v w Z (Fz.le.refl _) hv hw, fun h => by simp [Region.wanted] at h⟩
theorem ok_on {d : Option Nat} {j dj : Nat} {want b : Bool} (hj : gslot opsA j = some dj) (hv : look l dj = some (rB b)) (hb : b = want)
  (h : OpOk P n c opsA Q l H { dst := d, op := op, type := ty, pos := pos, after := af, guard := none } r H') : OpOk P n c opsA Q l H { dst := d, op := op, type := ty, pos := pos, after := af, guard := some (j, want) } r H' := fun a w Z K ha hw hK => by
 obtain ⟨h1, _⟩ := h a w Z K ha hw hK
 have hy := yielded_bool ha hj hv
 subst hb
 refine ⟨fun _ => h1 (by simp [Region.wanted]), fun h2 => ?_⟩
 simp [Region.wanted, hy] at h2
theorem ok_off {d : Option Nat} {j dj : Nat} {want b : Bool} (hj : gslot opsA j = some dj) (hv : look l dj = some (rB b)) (hb : b = !want) : OpOk P n c opsA Q l H { dst := d, op := op, type := ty, pos := pos, after := af, guard := some (j, want) } (rv undef) H := fun a w Z K ha hw hK => by
 have hy := yielded_bool ha hj hv
 subst hb
 refine ⟨fun h2 => ?_, fun _ => hK undef w Z (Fz.le.refl _) rfl hw⟩
 simp [Region.wanted, hy] at h2
theorem ok_off_u {d : Option Nat} {j dj : Nat} {want : Bool} (hj : gslot opsA j = some dj) (hv : look l dj = some (rv undef)) : OpOk P n c opsA Q l H { dst := d, op := op, type := ty, pos := pos, after := af, guard := some (j, want) } (rv undef) H := fun a w Z K ha hw hK => by
 have hy := yielded_undef ha hj hv
 refine ⟨fun h2 => ?_, fun _ => hK undef w Z (Fz.le.refl _) rfl hw⟩
 simp [Region.wanted, hy] at h2
theorem oq {all : List Oper} {sp : List Sp} {l0 : Fr} {i : Nat} {rest : List Oper} {Hs : List (List Ent)} {c : Cx}
  (hr : ∀ {H}, ORun P n c (depFr all sp (sps sp i).deps l0) H { dst := some d, op := op, type := ty, pos := pos, after := af, guard := none } (sps sp i).r)
  (h : Obl P n c opsA Q all sp l0 (i + 1) rest (H :: Hs)) (hk : (sps sp i).kd = 0 := by rfl) : Obl P n c opsA Q all sp l0 i ({ dst := some d, op := op, type := ty, pos := pos, after := af, guard := none } :: rest) (H :: H :: Hs) := obl_q hk (fun _ => ok_v hr) h
theorem of {all : List Oper} {sp : List Sp} {l0 : Fr} {i : Nat} {rest : List Oper} {Hs : List (List Ent)} {c : Cx}
  (hr : ORun P n c (depFr all sp (sps sp i).deps l0) H { dst := some d, op := op, type := ty, pos := pos, after := af, guard := none } (sps sp i).r)
  (h : Obl P n c opsA Q all sp l0 (i + 1) rest (H :: Hs)) (hk : (sps sp i).kd = 1 := by rfl) : Obl P n c opsA Q all sp l0 i ({ dst := some d, op := op, type := ty, pos := pos, after := af, guard := none } :: rest) (H :: H :: Hs) := obl_f hk (ok_v hr) h
theorem on {d : Option Nat} {all : List Oper} {sp : List Sp} {l0 : Fr} {i : Nat} {rest : List Oper} {Hs : List (List Ent)} {c : Cx} {j dj : Nat} {want b : Bool} (hb : b = want)
  (h : Obl P n c opsA Q all sp l0 i ({ dst := d, op := op, type := ty, pos := pos, after := af, guard := none } :: rest) (H :: H' :: Hs))
  (hj : gslot opsA j = some dj := by rfl) (hv : look (depFr all sp (sps sp i).deps l0) dj = some (rB b) := by rfl) : Obl P n c opsA Q all sp l0 i ({ dst := d, op := op, type := ty, pos := pos, after := af, guard := some (j, want) } :: rest) (H :: H' :: Hs) := by
 obtain ⟨h1, h2⟩ := h
 refine ⟨?_, h2⟩
 revert h1
 split
 ·exact fun h1 => ⟨h1.1, fun H => ok_on hj hv hb (h1.2 H)⟩
 ·exact fun h1 => ⟨h1.1, ok_on hj hv hb h1.2⟩
 ·exact fun h1 => ok_on hj hv hb h1
theorem oz {d : Option Nat} {all : List Oper} {sp : List Sp} {l0 : Fr} {i : Nat} {rest : List Oper} {Hs : List (List Ent)} {c : Cx} {j dj : Nat} {want b : Bool} (hb : b = !want) (h : Obl P n c opsA Q all sp l0 (i + 1) rest (H :: Hs)) (hk : (sps sp i).kd = 0 := by rfl) (hr : rv undef = (sps sp i).r := by rfl)
  (hj : gslot opsA j = some dj := by rfl) (hv : look (depFr all sp (sps sp i).deps l0) dj = some (rB b) := by rfl) : Obl P n c opsA Q all sp l0 i ({ dst := d, op := op, type := ty, pos := pos, after := af, guard := some (j, want) } :: rest) (H :: H :: Hs) :=
 obl_q hk (fun _ => hr ▸ ok_off hj hv hb) h
theorem ou {d : Option Nat} {all : List Oper} {sp : List Sp} {l0 : Fr} {i : Nat} {rest : List Oper} {Hs : List (List Ent)} {c : Cx} {j dj : Nat} {want : Bool} (h : Obl P n c opsA Q all sp l0 (i + 1) rest (H :: Hs)) (hk : (sps sp i).kd = 0 := by rfl) (hr : rv undef = (sps sp i).r := by rfl)
  (hj : gslot opsA j = some dj := by rfl) (hv : look (depFr all sp (sps sp i).deps l0) dj = some (rv undef) := by rfl) : Obl P n c opsA Q all sp l0 i ({ dst := d, op := op, type := ty, pos := pos, after := af, guard := some (j, want) } :: rest) (H :: H :: Hs) :=
 obl_q hk (fun _ => hr ▸ ok_off_u hj hv) h
theorem ok_buildSlice {α : Type} {t e sz : Nat} {ys : List α} {enc : α → List Rp} {len : Nat} {parts : Array (Nat × Operand)} {xs : List Operand} {rs : List Rp} {css : List (List Rp)} {zz : Value} (ht : P.underlying t = some (.slice e)) (hz : ∀ w, (sizeOf e).run P w = .ok sz w) (hzv : ∀ w, (zeroValue e).run P w = .ok zz w)
  (hparts : parts.toList = (xs.zipIdx 0).map fun p => (p.2, p.1)) (hlen : ys.length = len) (hv : evs l xs = some rs) (hc : CelAll H rs css) (hcs : css = ys.map enc) (henc : ∀ z, (enc z).length = sz) (hsz : Nat.blt 0 sz = true) (hle : Nat.ble (len * sz) 16777216 = true) : OpOk P n c opsA Q l H { dst := some d, op := .buildSlice t len parts, type := ty, pos := pos, after := af, guard := none } (rSl sz (ys.map enc)) H := fun a w Z K ha hw hK =>
 ⟨fun _ => by
  have hall := evs_all ha hv
  obtain ⟨h1, h2, h3⟩ := hc.all hw hall
  have hsz' : 0 < sz := by simpa using hsz
  have hle' : ¬ 16777216 < len * sz := by simpa using hle
  have hxl : (xs.map a.eval).length = len := by rw [← h2, hcs, List.length_map, hlen]
  have hcell : ∀ v ∈ xs.map a.eval, v.cells.size = sz := fun v hv' => by
   obtain ⟨i, hi⟩ := List.getElem?_of_mem hv'
   have hil := (List.getElem?_eq_some_iff.1 hi).1
   have hil2 : i < css.length := by omega
   rw [h3 i css[i] v (List.getElem?_eq_getElem hil2) hi]
   have : css[i] ∈ ys.map enc := by rw [← hcs]; exact List.getElem_mem hil2
   obtain ⟨z, _, hz'⟩ := List.mem_map.1 this
   rw [← hz']; exact henc z
  have hflen : ((xs.map a.eval).flatMap fun v => v.cells.toList).length = len * sz := by
   rw [h1.length, flat_len' (sz := sz) (fun c hc' => by rw [hcs] at hc'; obtain ⟨z, _, hz'⟩ := List.mem_map.1 hc'; rw [← hz']; exact henc z), hcs, List.length_map, hlen]
  have hpe : (parts.map fun (i, x) => (i, a.eval x)).toList = ((xs.map a.eval).zipIdx 0).map fun p => (p.2, p.1) := by
   rw [Array.toList_map, hparts, List.zipIdx_map, List.map_map, List.map_map]; rfl
  have hrun : (Instr.buildSlice t len (parts.map fun (i, x) => (i, a.eval x))).run P w = .ok (.slice (some ⟨w.heap.size, 0, none⟩) len len) (w.alloc (.cells ((xs.map a.eval).flatMap fun v => v.cells.toList).toArray e)) := by
   refine run_bs ht hz hzv hle w ?_
   rw [hpe]
   by_cases h0 : len * sz = 0
   ·have : len = 0 := by
     rcases Nat.mul_eq_zero.1 h0 with h | h
     ·exact h
     ·omega
    subst this
    have hx0 : xs = [] := by simpa using List.eq_nil_of_length_eq_zero (by simpa using hxl)
    subst hx0
    simp [Instr.fill]
   ·simp only [h0, if_false]
    exact Great.fill_whole hsz' (xs.map a.eval) _ hcell (by rw [hxl]; simp)
  have hal : St c (.row (.slice (some ⟨w.heap.size, 0, none⟩) len len) e sz (ys.map enc) :: H) Z (w.alloc (.cells ((xs.map a.eval).flatMap fun v => v.cells.toList).toArray e)) := by
   refine hw.alloc _ (e := .row (.slice (some ⟨w.heap.size, 0, none⟩) len len) e sz (ys.map enc)) ⟨?_, (xs.map a.eval).flatMap (fun v => v.cells.toList), ⟨?_, .inr ⟨w.heap.size, len, _, ?_, Nat.zero_le _, heap_alloc_new w _, ?_, ?_, ?_, ?_⟩⟩, ?_⟩ (by simp [Ent.foot, Value.ownBlock])
   ·intro cl hcl; obtain ⟨z, _, hz'⟩ := List.mem_map.1 hcl; rw [← hz']; exact henc z
   ·rw [hflen, List.length_map, hlen]
   ·rw [List.length_map, hlen]
   ·rw [List.length_map, hlen]; exact Nat.le_refl _
   ·have : len ≤ len * sz := Nat.le_mul_of_pos_right _ hsz'
    simp only [maxLen]; omega
   ·simpa using hflen
   ·rw [List.length_map, hlen, ← hflen]; exact List.take_length
   ·rw [← hcs]; exact h1
  obtain ⟨Z', hz', hst, hsl⟩ := hal.freeze (i := 0) rfl
  unfold Oper.wp
  rw [show (execOp a.eval { dst := some d, op := .buildSlice t len parts, type := ty, pos := pos, after := af, guard := none }).run P w = .ok (.value (.slice (some ⟨w.heap.size, 0, none⟩) len len)) (w.alloc (.cells ((xs.map a.eval).flatMap fun v => v.cells.toList).toArray e)) from by simp [execOp, hrun]]
  exact hK _ _ Z' hz' hsl hst, fun h => by simp [Region.wanted] at h⟩
theorem ok_call0 {f : FuncId} {args : List Operand} {ats : Array TypeId} {rs : List Rp} {r r' : Rp} (hcall : ∀ (as1 : Array Value) (w : World), (callFunc f as1).run P w = .ok (.enter f as1) w) (hv : evs l args = some rs)
  (hc : Fn0 P c.E f rs r') (hr : r' = r) : OpOk P n c opsA Q l H { dst := some d, op := .call { callee := .value (.func f), args := args.toArray, argTypes := ats }, type := ty, pos := pos, after := af, guard := none } r H := fun a w Z K ha hw hK =>
 ⟨fun _ => by
  unfold Oper.wp
  rw [run_callee rfl hcall w]
  refine (hc w Z _ (evs_all ha hv) (St.enter (Hin := []) (Hr := H) hw)).mono ?_
  rintro e w' ⟨r2, v, Ho, Z', rfl, ⟨rfl, rfl⟩, hr2, hs⟩
  subst hr
  exact hK v w' Z' hs.le hr2 (by simpa using hw.call0 hs), fun h => by simp [Region.wanted] at h⟩
def URun (P : Program) (n : Nat) (c : Cx) (l : Fr) (H : List Ent) (o : Oper) (H' : List Ent) : Prop := ∀ a w Z, Agr n l a Z → St c H Z w → ∃ w', (execOp a.eval o).run P w = .ok .skip w' ∧ St c H' Z w'
theorem ok_u (hr : URun P n c l H { dst := none, op := op, type := ty, pos := pos, after := af, guard := none } H') : OpOk P n c opsA Q l H { dst := none, op := op, type := ty, pos := pos, after := af, guard := none } (rv undef) H' := fun a w Z K ha hw hK =>
 ⟨fun _ => by
  obtain ⟨w', he, hs⟩ := hr a w Z ha hw
  unfold Oper.wp
  rw [he]
  exact hK undef w' Z (Fz.le.refl _) rfl hs, fun h => by simp [Region.wanted] at h⟩
end
/-! ### stores, as they stand alone -/
section
variable {ops : Array Oper} {rest : List Oper} {l : Fr} {H H' : List Ent} {d : Nat} {d' : Option Nat} {x y : Operand} {ty t t' e : TypeId} {pos : String} {af : Array Edge} {g : Option (Nat × Bool)} {v u : Value} {r : Rp} {sz : Nat}
theorem U_u_store {i b off : Nat} {cs : List Rp} (hag : ∀ w, (sizeOf t).run P w = .ok 1 w) (hx : ev l x = some (rv (.pointer (some ⟨b, off, none⟩)))) (hy : ev l y = some r) (hv : OneR H r)
  (hi : H[i]? = some (.blk b cs e)) (hlt : Nat.blt off cs.length = true) {cs' : List Rp} (hcs : cs.set off r = cs') (hH : H.set i (.blk b cs' e) = H') : URun P n c l H { dst := none, op := .store t x y, type := ty, pos := pos, after := af, guard := none } H' := fun a w Z ha hw => by
  obtain ⟨us, hb, h2⟩ := hw.ent hi
  have hr := ha.ev hy
  have hone := hv c Z w _ hw hr
  have hlen := h2.length
  have hlt' : off < us.length := by rw [hlen]; simpa using hlt
  have h1 := run_storeCells_at P b off e [a.eval y] 0 us.toArray w hb (by simp; omega) (by simpa using hone)
  have hcv := cells_one hone
  have h3 : us.take off ++ [a.eval y] ++ us.drop (off + 1) = us.set off (a.eval y) := by
   simp [List.set_eq_take_append_cons_drop, hlt']
  simp only [Nat.add_zero, List.length_cons, List.length_nil, Nat.zero_add] at h1
  rw [h3] at h1
  refine ⟨w.setRow b (us.set off (a.eval y)).toArray, ?_, ?_⟩
  ·simp [execOp, ha.eval hx, Instr.storeAt, Instr.sureAddr, storeVar, hag, hcv, h1]
  ·subst hH; subst hcs
   refine hw.set hi rfl rfl rfl (by simp [World.setRow]) (fun k _ hk => ?_) ⟨us.set off (a.eval y), setRow_heap w b _ _ e (0, 0) hb, h2.set off hr⟩ (by simp [Ent.foot])
   simp only [Ent.foot, List.mem_singleton] at hk
   simp only [World.setRow, Array.getElem?_modify]
   rw [if_neg (fun e => hk e.symm)]
theorem U_u_store_agg {i b off : Nat} {cs rs : List Rp} (hsz : ∀ w, (sizeOf t).run P w = .ok sz w) (hx : ev l x = some (rv (.pointer (some ⟨b, off, none⟩)))) (hy : ev l y = some (rAgg rs))
  (hl : rs.length = sz) (hv : OneAll H rs) (hi : H[i]? = some (.blk b cs e)) (hlt : Nat.ble (off + sz) cs.length = true) {cs' : List Rp}
  (hcs : cs.take off ++ rs ++ cs.drop (off + sz) = cs') (hH : H.set i (.blk b cs' e) = H') : URun P n c l H { dst := none, op := .store t x y, type := ty, pos := pos, after := af, guard := none } H' := fun a w Z ha hw => by
  obtain ⟨us, hb, h2⟩ := hw.ent hi
  obtain ⟨vs, e1, h4⟩ := ha.ev hy
  have hlen := h2.length
  have hvl := h4.length
  have hlt' : off + sz ≤ us.length := by rw [hlen]; simpa using hlt
  have h1 := run_storeCells_at P b off e vs 0 us.toArray w hb (by simp; omega) (fun v hv' => hv.at hw h4 v hv')
  simp only [Nat.add_zero] at h1
  refine ⟨w.setRow b (us.take off ++ vs ++ us.drop (off + sz)).toArray, ?_, ?_⟩
  ·have h5 : vs.length = sz := by omega
   rw [h5] at h1
   simp only [List.append_assoc] at h1 ⊢
   simp [execOp, ha.eval hx, e1, Instr.storeAt, Instr.sureAddr, storeVar, hsz, Value.cells, h5, h1]
  ·subst hH; subst hcs
   refine hw.set hi rfl rfl rfl (by simp [World.setRow]) (fun k _ hk => ?_) ⟨us.take off ++ vs ++ us.drop (off + sz), setRow_heap w b _ _ e (0, 0) hb, ((h2.take off).append h4).append (h2.drop (off + sz))⟩ (by simp [Ent.foot])
   simp only [Ent.foot, List.mem_singleton] at hk
   simp only [World.setRow, Array.getElem?_modify]
   rw [if_neg (fun e => hk e.symm)]

end
end
end Go.Proofs.YtpmiamphppcfeaaDoor.Q

/-
 Walks, printed by a small program of ours (gsym.py).
-/
namespace Go.Proofs.YtpmiamphppcfeaaDoor
open Go Go.RowKit
set_option linter.unusedVariables false
set_option linter.unusedSimpArgs false
set_option maxRecDepth 100000
theorem small_c (c : Int) (w : World) : Calls Tryd.prog 52 [.int .i32 (c)].toArray w (RetV w (.bool (smallS c))) := by
 refine enter0 (n := 9) Tryd.func52 rfl Tryd.ntmps52 rfl (wc_seq (wc_region (wl_v (o_assign rfl) rfl (wl_nil (wk_then (wc_of_wk ?_))))))
 refine wc_seq_mid [(2, .bool (((decide ((97) ≤ (c))) && (decide ((c) ≤ (122))))))] [] (φ := True) ?_ (fun hm1 => ?_)
 ·refine wc_region (wl_v (o_move rfl) rfl (wl_v (o_ge rfl rfl) rfl (wl_v (o_move rfl) rfl (bsplit (decide ((97) ≤ (c))) (fun h1 => ?_) (fun h1 => ?_)))))
  ·have g1 := h1; try simp only [decide_eq_true_eq, decide_eq_false_iff_not] at g1
   refine wl_on rfl rfl h1 (wl_v (o_move rfl) rfl (wl_on rfl rfl h1 (wl_v (o_le rfl rfl) rfl (wl_v (o_pick_t rfl h1 rfl) rfl (wl_v (o_assign rfl) rfl (wl_nil ?_))))))
   exact wk_then (wk_mid trivial ⟨fb (by simp [h1]), trivial⟩ .slnil)
  ·have g1 := h1; try simp only [decide_eq_true_eq, decide_eq_false_iff_not] at g1
   refine wl_off rfl rfl h1 rfl (wl_off rfl rfl h1 rfl (wl_v (o_pick_f rfl h1 rfl) rfl (wl_v (o_assign rfl) rfl (wl_nil ?_))))
   exact wk_then (wk_mid trivial ⟨fb (by simp [h1]), trivial⟩ .slnil)
 refine wc_ret (wk_ret (r_1 rfl rfl) ?_)
 exact retv (by first | rfl | simp [])

theorem digit_c (c : Int) (w : World) : Calls Tryd.prog 53 [.int .i32 (c)].toArray w (RetV w (.bool (digitS c))) := by
 refine enter0 (n := 9) Tryd.func53 rfl Tryd.ntmps53 rfl (wc_seq (wc_region (wl_v (o_assign rfl) rfl (wl_nil (wk_then (wc_of_wk ?_))))))
 refine wc_seq_mid [(2, .bool (((decide ((48) ≤ (c))) && (decide ((c) ≤ (57))))))] [] (φ := True) ?_ (fun hm3 => ?_)
 ·refine wc_region (wl_v (o_move rfl) rfl (wl_v (o_ge rfl rfl) rfl (wl_v (o_move rfl) rfl (bsplit (decide ((48) ≤ (c))) (fun h3 => ?_) (fun h3 => ?_)))))
  ·have g3 := h3; try simp only [decide_eq_true_eq, decide_eq_false_iff_not] at g3
   refine wl_on rfl rfl h3 (wl_v (o_move rfl) rfl (wl_on rfl rfl h3 (wl_v (o_le rfl rfl) rfl (wl_v (o_pick_t rfl h3 rfl) rfl (wl_v (o_assign rfl) rfl (wl_nil ?_))))))
   exact wk_then (wk_mid trivial ⟨fb (by simp [h3]), trivial⟩ .slnil)
  ·have g3 := h3; try simp only [decide_eq_true_eq, decide_eq_false_iff_not] at g3
   refine wl_off rfl rfl h3 rfl (wl_off rfl rfl h3 rfl (wl_v (o_pick_f rfl h3 rfl) rfl (wl_v (o_assign rfl) rfl (wl_nil ?_))))
   exact wk_then (wk_mid trivial ⟨fb (by simp [h3]), trivial⟩ .slnil)
 refine wc_ret (wk_ret (r_1 rfl rfl) ?_)
 exact retv (by first | rfl | simp [])

theorem letter_c (c : Int) (w : World) : Calls Tryd.prog 37 [.int .i32 (c)].toArray w (RetV w (.bool (letterS c))) := by
 refine enter0 (n := 37) Tryd.func37 rfl Tryd.ntmps37 rfl (wc_seq (wc_region (wl_v (o_assign rfl) rfl (wl_nil (wk_then (wc_of_wk ?_))))))
 refine wc_seq_mid [(2, .bool (((smallS c) || ((digitS c) || (bif decide ((65) ≤ (c)) then ((decide ((c) ≤ (90))) || ((decide ((c) = (45))) || ((decide ((c) = (95))) || ((decide ((c) = (46))) || ((decide ((c) = (58))) || (decide ((c) = (47)))))))) else ((decide ((c) = (45))) || ((decide ((c) = (95))) || ((decide ((c) = (46))) || ((decide ((c) = (58))) || (decide ((c) = (47))))))))))))] [] (φ := True) ?_ (fun hm16 => ?_)
 ·refine wc_region (wl_v (o_move rfl) rfl (w_call Tryd.call52 rfl (fun w hw => small_c c w) rfl (wl_v (o_move rfl) rfl (bsplit (smallS c) (fun h5 => ?_) (fun h5 => ?_)))))
  ·have g5 := h5; try simp only [decide_eq_true_eq, decide_eq_false_iff_not] at g5
   refine wl_off rfl rfl h5 rfl (wl_off rfl rfl h5 rfl (wl_v (o_pick_t rfl h5 rfl) rfl (wl_v (o_move rfl) rfl (wl_off rfl rfl rfl rfl (wl_off rfl rfl rfl rfl (wl_off rfl rfl rfl rfl (wl_off_u rfl rfl rfl (wl_off_u rfl rfl rfl (wl_off rfl rfl rfl rfl (wl_v (o_pick_t rfl rfl rfl) rfl (wl_v (o_move rfl) rfl (wl_off rfl rfl rfl rfl (wl_off rfl rfl rfl rfl (wl_v (o_pick_t rfl rfl rfl) rfl (wl_v (o_move rfl) rfl (wl_off rfl rfl rfl rfl (wl_off rfl rfl rfl rfl (wl_v (o_pick_t rfl rfl rfl) rfl (wl_v (o_move rfl) rfl (wl_off rfl rfl rfl rfl (wl_off rfl rfl rfl rfl (wl_v (o_pick_t rfl rfl rfl) rfl (wl_v (o_move rfl) rfl ?_)))))))))))))))))))))))
   refine wl_off rfl rfl rfl rfl (wl_off rfl rfl rfl rfl (wl_v (o_pick_t rfl rfl rfl) rfl (wl_v (o_move rfl) rfl (wl_off rfl rfl rfl rfl (wl_off rfl rfl rfl rfl (wl_v (o_pick_t rfl rfl rfl) rfl (wl_v (o_assign rfl) rfl (wl_nil ?_))))))))
   exact wk_then (wk_mid trivial ⟨fb (by simp [h5]), trivial⟩ .slnil)
  ·have g5 := h5; try simp only [decide_eq_true_eq, decide_eq_false_iff_not] at g5
   refine wl_on rfl rfl h5 (wl_v (o_move rfl) rfl (wl_on rfl rfl h5 (w_call Tryd.call53 rfl (fun w hw => digit_c c w) rfl (wl_v (o_pick_f rfl h5 rfl) rfl (wl_v (o_move rfl) rfl (bsplit (digitS c) (fun h6 => ?_) (fun h6 => ?_)))))))
   ·have g6 := h6; try simp only [decide_eq_true_eq, decide_eq_false_iff_not] at g6
    refine wl_off rfl rfl h6 rfl (wl_off rfl rfl h6 rfl (wl_off rfl rfl h6 rfl (wl_off_u rfl rfl rfl (wl_off_u rfl rfl rfl (wl_off rfl rfl h6 rfl (wl_v (o_pick_t rfl h6 rfl) rfl (wl_v (o_move rfl) rfl (wl_off rfl rfl rfl rfl (wl_off rfl rfl rfl rfl (wl_v (o_pick_t rfl rfl rfl) rfl (wl_v (o_move rfl) rfl (wl_off rfl rfl rfl rfl (wl_off rfl rfl rfl rfl (wl_v (o_pick_t rfl rfl rfl) rfl (wl_v (o_move rfl) rfl (wl_off rfl rfl rfl rfl (wl_off rfl rfl rfl rfl (wl_v (o_pick_t rfl rfl rfl) rfl (wl_v (o_move rfl) rfl (wl_off rfl rfl rfl rfl (wl_off rfl rfl rfl rfl (wl_v (o_pick_t rfl rfl rfl) rfl (wl_v (o_move rfl) rfl ?_)))))))))))))))))))))))
    refine wl_off rfl rfl rfl rfl (wl_off rfl rfl rfl rfl (wl_v (o_pick_t rfl rfl rfl) rfl (wl_v (o_assign rfl) rfl (wl_nil ?_))))
    exact wk_then (wk_mid trivial ⟨fb (by simp [h5, h6]), trivial⟩ .slnil)
   ·have g6 := h6; try simp only [decide_eq_true_eq, decide_eq_false_iff_not] at g6
    refine wl_on rfl rfl h6 (wl_v (o_move rfl) rfl (wl_on rfl rfl h6 (wl_v (o_ge rfl rfl) rfl (wl_on rfl rfl h6 (wl_v (o_move rfl) rfl (bsplit (decide ((65) ≤ (c))) (fun h7 => ?_) (fun h7 => ?_)))))))
    ·have g7 := h7; try simp only [decide_eq_true_eq, decide_eq_false_iff_not] at g7
     refine wl_on rfl rfl h7 (wl_v (o_move rfl) rfl (wl_on rfl rfl h7 (wl_v (o_le rfl rfl) rfl (wl_on rfl rfl h6 (wl_v (o_pick_t rfl h7 rfl) rfl (wl_v (o_pick_f rfl h6 rfl) rfl (wl_v (o_move rfl) rfl (bsplit (decide ((c) ≤ (90))) (fun h8 => ?_) (fun h8 => ?_)))))))))
     ·have g8 := h8; try simp only [decide_eq_true_eq, decide_eq_false_iff_not] at g8
      refine wl_off rfl rfl h8 rfl (wl_off rfl rfl h8 rfl (wl_v (o_pick_t rfl h8 rfl) rfl (wl_v (o_move rfl) rfl (wl_off rfl rfl rfl rfl (wl_off rfl rfl rfl rfl (wl_v (o_pick_t rfl rfl rfl) rfl (wl_v (o_move rfl) rfl (wl_off rfl rfl rfl rfl (wl_off rfl rfl rfl rfl (wl_v (o_pick_t rfl rfl rfl) rfl (wl_v (o_move rfl) rfl (wl_off rfl rfl rfl rfl (wl_off rfl rfl rfl rfl (wl_v (o_pick_t rfl rfl rfl) rfl (wl_v (o_move rfl) rfl (wl_off rfl rfl rfl rfl (wl_off rfl rfl rfl rfl (wl_v (o_pick_t rfl rfl rfl) rfl (wl_v (o_assign rfl) rfl (wl_nil ?_))))))))))))))))))))
      exact wk_then (wk_mid trivial ⟨fb (by simp [h5, h6, h7, h8]), trivial⟩ .slnil)
     ·have g8 := h8; try simp only [decide_eq_true_eq, decide_eq_false_iff_not] at g8
      refine wl_on rfl rfl h8 (wl_v (o_move rfl) rfl (wl_on rfl rfl h8 (wl_v (o_eq rfl rfl) rfl (wl_v (o_pick_f rfl h8 rfl) rfl (wl_v (o_move rfl) rfl (bsplit (decide ((c) = (45))) (fun h9 => ?_) (fun h9 => ?_)))))))
      ·have g9 := h9; try simp only [decide_eq_true_eq, decide_eq_false_iff_not] at g9
       refine wl_off rfl rfl h9 rfl (wl_off rfl rfl h9 rfl (wl_v (o_pick_t rfl h9 rfl) rfl (wl_v (o_move rfl) rfl (wl_off rfl rfl rfl rfl (wl_off rfl rfl rfl rfl (wl_v (o_pick_t rfl rfl rfl) rfl (wl_v (o_move rfl) rfl (wl_off rfl rfl rfl rfl (wl_off rfl rfl rfl rfl (wl_v (o_pick_t rfl rfl rfl) rfl (wl_v (o_move rfl) rfl (wl_off rfl rfl rfl rfl (wl_off rfl rfl rfl rfl (wl_v (o_pick_t rfl rfl rfl) rfl (wl_v (o_assign rfl) rfl (wl_nil ?_))))))))))))))))
       exact wk_then (wk_mid trivial ⟨fb (by simp [h5, h6, h7, h8, h9]), trivial⟩ .slnil)
      ·have g9 := h9; try simp only [decide_eq_true_eq, decide_eq_false_iff_not] at g9
       refine wl_on rfl rfl h9 (wl_v (o_move rfl) rfl (wl_on rfl rfl h9 (wl_v (o_eq rfl rfl) rfl (wl_v (o_pick_f rfl h9 rfl) rfl (wl_v (o_move rfl) rfl (bsplit (decide ((c) = (95))) (fun h10 => ?_) (fun h10 => ?_)))))))
       ·have g10 := h10; try simp only [decide_eq_true_eq, decide_eq_false_iff_not] at g10
        refine wl_off rfl rfl h10 rfl (wl_off rfl rfl h10 rfl (wl_v (o_pick_t rfl h10 rfl) rfl (wl_v (o_move rfl) rfl (wl_off rfl rfl rfl rfl (wl_off rfl rfl rfl rfl (wl_v (o_pick_t rfl rfl rfl) rfl (wl_v (o_move rfl) rfl (wl_off rfl rfl rfl rfl (wl_off rfl rfl rfl rfl (wl_v (o_pick_t rfl rfl rfl) rfl (wl_v (o_assign rfl) rfl (wl_nil ?_))))))))))))
        exact wk_then (wk_mid trivial ⟨fb (by simp [h5, h6, h7, h8, h9, h10]), trivial⟩ .slnil)
       ·have g10 := h10; try simp only [decide_eq_true_eq, decide_eq_false_iff_not] at g10
        refine wl_on rfl rfl h10 (wl_v (o_move rfl) rfl (wl_on rfl rfl h10 (wl_v (o_eq rfl rfl) rfl (wl_v (o_pick_f rfl h10 rfl) rfl (wl_v (o_move rfl) rfl (bsplit (decide ((c) = (46))) (fun h11 => ?_) (fun h11 => ?_)))))))
        ·have g11 := h11; try simp only [decide_eq_true_eq, decide_eq_false_iff_not] at g11
         refine wl_off rfl rfl h11 rfl (wl_off rfl rfl h11 rfl (wl_v (o_pick_t rfl h11 rfl) rfl (wl_v (o_move rfl) rfl (wl_off rfl rfl rfl rfl (wl_off rfl rfl rfl rfl (wl_v (o_pick_t rfl rfl rfl) rfl (wl_v (o_assign rfl) rfl (wl_nil ?_))))))))
         exact wk_then (wk_mid trivial ⟨fb (by simp [h5, h6, h7, h8, h9, h10, h11]), trivial⟩ .slnil)
        ·have g11 := h11; try simp only [decide_eq_true_eq, decide_eq_false_iff_not] at g11
         refine wl_on rfl rfl h11 (wl_v (o_move rfl) rfl (wl_on rfl rfl h11 (wl_v (o_eq rfl rfl) rfl (wl_v (o_pick_f rfl h11 rfl) rfl (wl_v (o_move rfl) rfl (bsplit (decide ((c) = (58))) (fun h12 => ?_) (fun h12 => ?_)))))))
         ·have g12 := h12; try simp only [decide_eq_true_eq, decide_eq_false_iff_not] at g12
          refine wl_off rfl rfl h12 rfl (wl_off rfl rfl h12 rfl (wl_v (o_pick_t rfl h12 rfl) rfl (wl_v (o_assign rfl) rfl (wl_nil ?_))))
          exact wk_then (wk_mid trivial ⟨fb (by simp [h5, h6, h7, h8, h9, h10, h11, h12]), trivial⟩ .slnil)
         ·have g12 := h12; try simp only [decide_eq_true_eq, decide_eq_false_iff_not] at g12
          refine wl_on rfl rfl h12 (wl_v (o_move rfl) rfl (wl_on rfl rfl h12 (wl_v (o_eq rfl rfl) rfl (wl_v (o_pick_f rfl h12 rfl) rfl (wl_v (o_assign rfl) rfl (wl_nil ?_))))))
          exact wk_then (wk_mid trivial ⟨fb (by simp [h5, h6, h7, h8, h9, h10, h11, h12]), trivial⟩ .slnil)
    ·have g7 := h7; try simp only [decide_eq_true_eq, decide_eq_false_iff_not] at g7
     refine wl_off rfl rfl h7 rfl (wl_off rfl rfl h7 rfl (wl_on rfl rfl h6 (wl_v (o_pick_f rfl h7 rfl) rfl (wl_v (o_pick_f rfl h6 rfl) rfl (wl_v (o_move rfl) rfl (wl_on rfl rfl rfl (wl_v (o_move rfl) rfl (wl_on rfl rfl rfl (wl_v (o_eq rfl rfl) rfl (wl_v (o_pick_f rfl rfl rfl) rfl (wl_v (o_move rfl) rfl (bsplit (decide ((c) = (45))) (fun h13 => ?_) (fun h13 => ?_)))))))))))))
     ·have g13 := h13; try simp only [decide_eq_true_eq, decide_eq_false_iff_not] at g13
      refine wl_off rfl rfl h13 rfl (wl_off rfl rfl h13 rfl (wl_v (o_pick_t rfl h13 rfl) rfl (wl_v (o_move rfl) rfl (wl_off rfl rfl rfl rfl (wl_off rfl rfl rfl rfl (wl_v (o_pick_t rfl rfl rfl) rfl (wl_v (o_move rfl) rfl (wl_off rfl rfl rfl rfl (wl_off rfl rfl rfl rfl (wl_v (o_pick_t rfl rfl rfl) rfl (wl_v (o_move rfl) rfl (wl_off rfl rfl rfl rfl (wl_off rfl rfl rfl rfl (wl_v (o_pick_t rfl rfl rfl) rfl (wl_v (o_assign rfl) rfl (wl_nil ?_))))))))))))))))
      exact wk_then (wk_mid trivial ⟨fb (by simp [h5, h6, h7, h13]), trivial⟩ .slnil)
     ·have g13 := h13; try simp only [decide_eq_true_eq, decide_eq_false_iff_not] at g13
      refine wl_on rfl rfl h13 (wl_v (o_move rfl) rfl (wl_on rfl rfl h13 (wl_v (o_eq rfl rfl) rfl (wl_v (o_pick_f rfl h13 rfl) rfl (wl_v (o_move rfl) rfl (bsplit (decide ((c) = (95))) (fun h14 => ?_) (fun h14 => ?_)))))))
      ·have g14 := h14; try simp only [decide_eq_true_eq, decide_eq_false_iff_not] at g14
       refine wl_off rfl rfl h14 rfl (wl_off rfl rfl h14 rfl (wl_v (o_pick_t rfl h14 rfl) rfl (wl_v (o_move rfl) rfl (wl_off rfl rfl rfl rfl (wl_off rfl rfl rfl rfl (wl_v (o_pick_t rfl rfl rfl) rfl (wl_v (o_move rfl) rfl (wl_off rfl rfl rfl rfl (wl_off rfl rfl rfl rfl (wl_v (o_pick_t rfl rfl rfl) rfl (wl_v (o_assign rfl) rfl (wl_nil ?_))))))))))))
       exact wk_then (wk_mid trivial ⟨fb (by simp [h5, h6, h7, h13, h14]), trivial⟩ .slnil)
      ·have g14 := h14; try simp only [decide_eq_true_eq, decide_eq_false_iff_not] at g14
       refine wl_on rfl rfl h14 (wl_v (o_move rfl) rfl (wl_on rfl rfl h14 (wl_v (o_eq rfl rfl) rfl (wl_v (o_pick_f rfl h14 rfl) rfl (wl_v (o_move rfl) rfl (bsplit (decide ((c) = (46))) (fun h15 => ?_) (fun h15 => ?_)))))))
       ·have g15 := h15; try simp only [decide_eq_true_eq, decide_eq_false_iff_not] at g15
        refine wl_off rfl rfl h15 rfl (wl_off rfl rfl h15 rfl (wl_v (o_pick_t rfl h15 rfl) rfl (wl_v (o_move rfl) rfl (wl_off rfl rfl rfl rfl (wl_off rfl rfl rfl rfl (wl_v (o_pick_t rfl rfl rfl) rfl (wl_v (o_assign rfl) rfl (wl_nil ?_))))))))
        exact wk_then (wk_mid trivial ⟨fb (by simp [h5, h6, h7, h13, h14, h15]), trivial⟩ .slnil)
       ·have g15 := h15; try simp only [decide_eq_true_eq, decide_eq_false_iff_not] at g15
        refine wl_on rfl rfl h15 (wl_v (o_move rfl) rfl (wl_on rfl rfl h15 (wl_v (o_eq rfl rfl) rfl (wl_v (o_pick_f rfl h15 rfl) rfl (wl_v (o_move rfl) rfl (bsplit (decide ((c) = (58))) (fun h16 => ?_) (fun h16 => ?_)))))))
        ·have g16 := h16; try simp only [decide_eq_true_eq, decide_eq_false_iff_not] at g16
         refine wl_off rfl rfl h16 rfl (wl_off rfl rfl h16 rfl (wl_v (o_pick_t rfl h16 rfl) rfl (wl_v (o_assign rfl) rfl (wl_nil ?_))))
         exact wk_then (wk_mid trivial ⟨fb (by simp [h5, h6, h7, h13, h14, h15, h16]), trivial⟩ .slnil)
        ·have g16 := h16; try simp only [decide_eq_true_eq, decide_eq_false_iff_not] at g16
         refine wl_on rfl rfl h16 (wl_v (o_move rfl) rfl (wl_on rfl rfl h16 (wl_v (o_eq rfl rfl) rfl (wl_v (o_pick_f rfl h16 rfl) rfl (wl_v (o_assign rfl) rfl (wl_nil ?_))))))
         exact wk_then (wk_mid trivial ⟨fb (by simp [h5, h6, h7, h13, h14, h15, h16]), trivial⟩ .slnil)
 refine wc_ret (wk_ret (r_1 rfl rfl) ?_)
 exact retv (by simp only [letterS]; by_cases h : 65 ≤ c <;> simp [h, Bool.or_assoc])

theorem valid_c (m : Int) (w : World) : Calls Tryd.prog 34 [.int .i64 (m)].toArray w (RetV w (.bool (validS m))) := by
 refine enter0 (n := 9) Tryd.func34 rfl Tryd.ntmps34 rfl (wc_seq (wc_region (wl_v (o_assign rfl) rfl (wl_nil (wk_then (wc_of_wk ?_))))))
 refine wc_seq_mid [(2, .bool (((decide ((-1000000000000) ≤ (m))) && (decide ((m) ≤ (1000000000000))))))] [] (φ := True) ?_ (fun hm18 => ?_)
 ·refine wc_region (wl_v (o_move rfl) rfl (wl_v (o_le rfl rfl) rfl (wl_v (o_move rfl) rfl (bsplit (decide ((-1000000000000) ≤ (m))) (fun h18 => ?_) (fun h18 => ?_)))))
  ·have g18 := h18; try simp only [decide_eq_true_eq, decide_eq_false_iff_not] at g18
   refine wl_on rfl rfl h18 (wl_v (o_move rfl) rfl (wl_on rfl rfl h18 (wl_v (o_le rfl rfl) rfl (wl_v (o_pick_t rfl h18 rfl) rfl (wl_v (o_assign rfl) rfl (wl_nil ?_))))))
   exact wk_then (wk_mid trivial ⟨fb (by first | (simp only [h18, Bool.true_and, Bool.false_and, Bool.true_or, Bool.false_or, Bool.and_true, Bool.and_false, Bool.or_true, Bool.or_false, Bool.not_true, Bool.not_false, cond_true, cond_false, if_true, if_false, reduceIte, Bool.false_eq_true]; done) | simp [h18]), trivial⟩ .slnil)
  ·have g18 := h18; try simp only [decide_eq_true_eq, decide_eq_false_iff_not] at g18
   refine wl_off rfl rfl h18 rfl (wl_off rfl rfl h18 rfl (wl_v (o_pick_f rfl h18 rfl) rfl (wl_v (o_assign rfl) rfl (wl_nil ?_))))
   exact wk_then (wk_mid trivial ⟨fb (by first | (simp only [h18, Bool.true_and, Bool.false_and, Bool.true_or, Bool.false_or, Bool.and_true, Bool.and_false, Bool.or_true, Bool.or_false, Bool.not_true, Bool.not_false, cond_true, cond_false, if_true, if_false, reduceIte, Bool.false_eq_true]; done) | simp [h18]), trivial⟩ .slnil)
 refine wc_ret (wk_ret (r_1 rfl rfl) ?_)
 exact retv (by first | rfl | simp [])

theorem id_c (p : List UInt8) (w : World) : Calls Tryd.prog 23 [.string (B p)].toArray w (RetV w (.bool (idS p))) := by
 refine enter0 (n := 21) Tryd.func23 rfl Tryd.ntmps23 rfl (wc_seq (wc_region (wl_v (o_assign rfl) rfl (wl_nil (wk_then (wc_of_wk ?_))))))
 refine wc_seq (wc_seq (wc_region (wl_v (o_move rfl) rfl (w_range_s Tryd.underlying9 rfl rfl (fun b20 => ?_)))))
 refine wl_nil (wk_then (wc_of_wk ?_))
 refine wc_block (wc_loop (S := Nat) (fun (k : Nat) => k ≤ p.length ∧ allFrom idCh 0 p = allFrom idCh k (p.drop k)) (fun (k : Nat) => [(0, .string (B (p))), (2, .bool (false)), (6, .pointer (some ⟨b20, 0, none⟩))]) (fun (k : Nat) => [.blk b20 (.stringIter (B p) (k))]) (fun (k : Nat) => p.length - k) (0) ?_ ⟨rfl, rfl, rfl, trivial⟩ (.cons_cons _ (.slnil)) ?_)
 ·exact ⟨Nat.zero_le _, by simp⟩
 rintro k hi0
 refine wc_seq (wc_region (w_next_s (i := 0) rfl rfl rfl (fun hend => ?_) (fun u21 c22 wd23 hu21 hlu21 hhu21 hwu21 => ?_)))
 ·refine wl_v (o_extract rfl rfl) rfl (wl_nil (wk_then (wc_of_wk ?_)))
  refine wc_seq (wc_cond_f rfl rfl (wc_exit (wk_then_exit (wk_then_exit (wk_in_hit (wk_then (wc_of_wk ?_)))))))
  refine wc_seq_mid [(2, .bool (((decide ((1) ≤ ((p.length : Int)))) && (decide (((p.length : Int)) ≤ (64))))))] [.blk b20 (.stringIter (B p) (k))] (φ := True) ?_ (fun hm24 => ?_)
  ·refine wc_region (wl_v (o_move rfl) rfl (wl_v (o_len_s Tryd.underlying9 rfl) rfl (wl_v (o_ge rfl rfl) rfl (wl_v (o_move rfl) rfl (bsplit (decide ((1) ≤ ((p.length : Int)))) (fun h24 => ?_) (fun h24 => ?_))))))
   ·have g24 := h24; try simp only [decide_eq_true_eq, decide_eq_false_iff_not] at g24
    refine wl_on rfl rfl h24 (wl_v (o_move rfl) rfl (wl_on rfl rfl h24 (wl_v (o_len_s Tryd.underlying9 rfl) rfl (wl_on rfl rfl h24 (wl_v (o_le rfl rfl) rfl (wl_v (o_pick_t rfl h24 rfl) rfl (wl_v (o_assign rfl) rfl (wl_nil ?_))))))))
    exact wk_then (wk_mid trivial ⟨fb (by first | (simp only [h24, Bool.true_and, Bool.false_and, Bool.true_or, Bool.false_or, Bool.and_true, Bool.and_false, Bool.or_true, Bool.or_false, Bool.not_true, Bool.not_false, cond_true, cond_false, if_true, if_false, reduceIte, Bool.false_eq_true]; done) | simp [h24]), trivial⟩ (.cons_cons _ (.slnil)))
   ·have g24 := h24; try simp only [decide_eq_true_eq, decide_eq_false_iff_not] at g24
    refine wl_off rfl rfl h24 rfl (wl_off rfl rfl h24 rfl (wl_off rfl rfl h24 rfl (wl_v (o_pick_f rfl h24 rfl) rfl (wl_v (o_assign rfl) rfl (wl_nil ?_)))))
    exact wk_then (wk_mid trivial ⟨fb (by first | (simp only [h24, Bool.true_and, Bool.false_and, Bool.true_or, Bool.false_or, Bool.and_true, Bool.and_false, Bool.or_true, Bool.or_false, Bool.not_true, Bool.not_false, cond_true, cond_false, if_true, if_false, reduceIte, Bool.false_eq_true]; done) | simp [h24]), trivial⟩ (.cons_cons _ (.slnil)))
  refine wc_ret (wk_ret (r_1 rfl rfl) ?_)
  exact retv (by rw [id_yes hi0 hend])
 ·refine wl_v (o_extract rfl rfl) rfl (wl_nil (wk_then (wc_of_wk ?_)))
  refine wc_seq (wc_cond_t rfl rfl (wc_skip (wk_then (wc_of_wk ?_))))
  refine wc_block (wc_seq (wc_region (wl_v (o_extract rfl rfl) rfl (wl_v (o_assign rfl) rfl (wl_nil (wk_then (wc_of_wk ?_)))))))
  refine wc_seq (wc_region (wl_v (o_move rfl) rfl (w_call Tryd.call37 rfl (fun w hw => letter_c (c22 : Int) w) rfl (wl_v (o_not rfl) rfl (wl_nil (wk_then (wc_of_wk ?_)))))))
  refine wc_cond (b := !(letterS (c22 : Int))) rfl (fun h26 => ?_) (fun h26 => ?_)
  ·have g26 := h26; try simp only [decide_eq_true_eq, decide_eq_false_iff_not] at g26
   refine wc_seq (wc_region (wl_v (o_assign rfl) rfl (wl_nil (wk_then (wc_of_wk ?_)))))
   refine wc_ret (wk_in_ret (wk_then_ret (wk_in_ret (wk_then_ret (wk_ret (r_1 rfl rfl) ?_)))))
   exact retv (by rw [id_no hi0 hu21 hlu21 hhu21 h26])
  ·have g26 := h26; try simp only [decide_eq_true_eq, decide_eq_false_iff_not] at g26
   refine wc_skip (wk_in_norm (wk_then (wk_some (k + wd23) ?_ ⟨rfl, rfl, rfl, trivial⟩ (.cons_cons _ (.slnil)))))
   exact id_next hi0 hu21 hlu21 hhu21 h26

end Go.Proofs.YtpmiamphppcfeaaDoor

/-
 Prefixes, suffixes, cuts: plain functions on lists of bytes. No program in sight.
-/
namespace Go.Proofs.YtpmiamphppcfeaaDoor
open Go
end Go.Proofs.YtpmiamphppcfeaaDoor

/-
 Walks, printed by a small program of ours (gsym.py).
-/
namespace Go.Proofs.YtpmiamphppcfeaaDoor
open Go Go.RowKit
set_option linter.unusedVariables false
set_option linter.unusedSimpArgs false
set_option maxRecDepth 100000
end Go.Proofs.YtpmiamphppcfeaaDoor

/-
 Decimal forms; references; children; patterns: plain functions on lists of bytes. No program in sight.
-/
namespace Go.Proofs.YtpmiamphppcfeaaDoor
open Go
def sgnS (p : List UInt8) : Bool := decide ((0 : Int) < p.length) && decide (bat p 0 = 45)
def digs (p : List UInt8) : List UInt8 := if sgnS p = true then p.drop 1 else p
theorem digs_len (p : List UInt8) : (digs p).length ≤ p.length := by unfold digs; split <;> simp
def digCh (_ : Nat) (u : UInt8) : Bool := !(decide ((u.toNat : Int) < 48) || decide (57 < (u.toNat : Int)))
def decS (p : List UInt8) : Bool := !(decide (digs p = []) || (decide (bat (digs p) 0 = 48) && !decide (p = [48]))) && allFrom digCh 0 (digs p)
theorem len_pos {p : List UInt8} (h : ¬ p = []) : (0 : Int) < p.length := by
 cases p with
 | nil => exact absurd rfl h
 | cons a r => simp
theorem get_of_lt {p : List UInt8} {k : Nat} (h : (k : Int) < p.length) : ∃ u, p[k]? = some u := ⟨p[k]'(by omega), List.getElem?_eq_getElem (by omega)⟩
theorem dig_next {p : List UInt8} {k : Nat} (hi : k ≤ p.length ∧ allFrom digCh 0 p = allFrom digCh k (p.drop k)) (h : (k : Int) < p.length) (ht : (decide (bat p k < 48) || decide (57 < bat p k)) = false) :
  (k + 1 ≤ p.length ∧ allFrom digCh 0 p = allFrom digCh (k + 1) (p.drop (k + 1))) ∧ p.length - (k + 1) < p.length - k := by
 obtain ⟨u, hu⟩ := get_of_lt h
 rw [bat_of hu] at ht
 exact rng_next hi hu (by simp only [digCh, ht]; rfl)
theorem dig_no {p : List UInt8} {k : Nat} (hi : k ≤ p.length ∧ allFrom digCh 0 p = allFrom digCh k (p.drop k)) (h : (k : Int) < p.length) (ht : (decide (bat p k < 48) || decide (57 < bat p k)) = true) : allFrom digCh 0 p = false := by
 obtain ⟨u, hu⟩ := get_of_lt h
 rw [bat_of hu] at ht
 exact rng_no hi hu (by simp only [digCh, ht]; rfl)
theorem dig_yes {p : List UInt8} {k : Nat} (hi : k ≤ p.length ∧ allFrom digCh 0 p = allFrom digCh k (p.drop k)) (h : ¬ (k : Int) < p.length) : allFrom digCh 0 p = true := rng_yes hi (by omega)

/-! ### The last place of a byte -/
def lastIx (p : List UInt8) (m : Int) : Nat → Int
 | 0 => -1
 | k + 1 => if bat p k = m then k else lastIx p m k
def lastB (p : List UInt8) (m : Int) : Int := lastIx p m p.length
theorem lastIx_bd (p : List UInt8) (m : Int) : ∀ k, -1 ≤ lastIx p m k ∧ lastIx p m k < k
 | 0 => by simp [lastIx]
 | k + 1 => by
  have := lastIx_bd p m k
  unfold lastIx
  split <;> omega
theorem lastB_bd (p : List UInt8) (m : Int) : -1 ≤ lastB p m ∧ lastB p m < p.length := lastIx_bd p m _
theorem last_hit {p : List UInt8} {m : Int} {k : Nat} (hi : k ≤ p.length ∧ lastB p m = lastIx p m k) (h : (0 : Int) ≤ (k : Int) - 1) (ht : bat p ((k : Int) - 1) = m) : (k : Int) - 1 = lastB p m := by
 obtain ⟨j, rfl⟩ : ∃ j, k = j + 1 := ⟨k - 1, by omega⟩
 have e : ((j + 1 : Nat) : Int) - 1 = j := by omega
 rw [e] at ht ⊢
 rw [hi.2, lastIx, if_pos ht]
theorem last_next {p : List UInt8} {m : Int} {k : Nat} (hi : k ≤ p.length ∧ lastB p m = lastIx p m k) (h : (0 : Int) ≤ (k : Int) - 1) (ht : ¬ bat p ((k : Int) - 1) = m) : (k - 1 ≤ p.length ∧ lastB p m = lastIx p m (k - 1)) ∧ k - 1 < k := by
 obtain ⟨j, rfl⟩ : ∃ j, k = j + 1 := ⟨k - 1, by omega⟩
 have e : ((j + 1 : Nat) : Int) - 1 = j := by omega
 rw [e] at ht
 refine ⟨⟨by omega, ?_⟩, by omega⟩
 rw [hi.2, lastIx, if_neg ht]; rfl
theorem last_end {p : List UInt8} {m : Int} {k : Nat} (hi : k ≤ p.length ∧ lastB p m = lastIx p m k) (h : ¬ (0 : Int) ≤ (k : Int) - 1) : (-1 : Int) = lastB p m := by
 obtain rfl : k = 0 := by omega
 rw [hi.2]; rfl

/-! ### num.Parse -/
def parseE (p : List UInt8) : Int := if decS p = true then (match Lib.atoiAll p with | .ok v => if validS v = true then 0 else 2 | _ => 2) else 1
def parseV (p : List UInt8) : Int := if decS p = true then (match Lib.atoiAll p with | .ok v => if validS v = true then v else 0 | _ => 0) else 0
theorem digits_end : ∀ (l : List UInt8) (i acc : Nat), allFrom digCh i l = true → (∃ u, Lib.parseUint10 acc l = .ok u) ∨ Lib.parseUint10 acc l = .range
 | [], _, acc, _ => .inl ⟨acc, rfl⟩
 | c :: r, i, acc, h => by
  simp only [allFrom, Bool.and_eq_true] at h
  have hc : 48 ≤ c.toNat ∧ c.toNat ≤ 57 := by have := h.1; simp [digCh] at this; omega
  unfold Lib.parseUint10
  rw [if_pos hc]
  split
  ·exact .inr rfl
  ·split
   ·exact .inr rfl
   ·exact digits_end r _ _ h.2
theorem mag_end {l : List UInt8} (hne : l ≠ []) (h : allFrom digCh 0 l = true) : (∃ u, Lib.parseMag l = .ok u) ∨ Lib.parseMag l = .range := by
 unfold Lib.parseMag
 rw [if_neg hne]
 exact digits_end l 0 0 h
theorem signless_end {e : Lib.NumEnd Nat} (h : (∃ u, e = .ok u) ∨ e = .range) : (∃ v, Lib.signless e = .ok v) ∨ Lib.signless e = .range := by
 rcases h with ⟨u, rfl⟩ | rfl
 ·unfold Lib.signless
  by_cases h : 9223372036854775808 ≤ u
  ·exact .inr (by simp [h])
  ·exact .inl ⟨_, by simp [h]; rfl⟩
 ·exact .inr rfl
theorem signed_end {e : Lib.NumEnd Nat} (h : (∃ u, e = .ok u) ∨ e = .range) : (∃ v, Lib.signed e = .ok v) ∨ Lib.signed e = .range := by
 rcases h with ⟨u, rfl⟩ | rfl
 ·unfold Lib.signed
  by_cases h : 9223372036854775808 < u
  ·exact .inr (by simp [h])
  ·exact .inl ⟨_, by simp [h]; rfl⟩
 ·exact .inr rfl
theorem atoi_dec {p : List UInt8} (h : decS p = true) : (∃ v, Lib.atoiAll p = .ok v ∧ -9223372036854775808 ≤ v ∧ v ≤ 9223372036854775807) ∨ Lib.atoiAll p = .range := by
 have key : (∃ v, Lib.atoiAll p = .ok v) ∨ Lib.atoiAll p = .range := by
  simp only [decS, Bool.and_eq_true, Bool.not_eq_true', Bool.or_eq_false_iff, decide_eq_false_iff_not] at h
  obtain ⟨⟨hne, _⟩, hall⟩ := h
  cases p with
  | nil => simp [digs, sgnS] at hne
  | cons c r =>
   by_cases hc : c = 45
   ·subst hc
    have hd : digs (45 :: r) = r := by simp [digs, sgnS, bat]
    rw [hd] at hne hall
    rw [Lib.atoiAll_minus]
    exact signed_end (mag_end hne hall)
   ·have hb : ¬ bat (c :: r) 0 = 45 := by
     simp only [bat, Int.toNat_zero, List.getElem?_cons_zero, Option.getD_some]
     intro e; exact hc (UInt8.toNat_inj.1 (by simpa using (by omega : c.toNat = 45)))
    have hd : digs (c :: r) = c :: r := by simp [digs, sgnS, hb]
    rw [hd] at hne hall
    have hc48 : 48 ≤ c.toNat := by
     simp only [allFrom, Bool.and_eq_true] at hall
     have := hall.1; simp [digCh] at this; omega
    rw [Lib.atoiAll_plain c r (by omega) (by omega)]
    exact signless_end (mag_end hne hall)
 rcases key with ⟨v, hv⟩ | h
 ·exact .inl ⟨v, hv, Lib.atoiAll_bounds hv⟩
 ·exact .inr h
theorem parse_bd (p : List UInt8) : -1000000000000 ≤ parseV p ∧ parseV p ≤ 1000000000000 := by
 unfold parseV
 split
 ·split
  ·split
   ·rename_i h; simp [validS] at h; omega
   ·omega
  ·omega
 ·omega
theorem itoa_len (m : Int) (h0 : -9223372036854775808 ≤ m) (h1 : m ≤ 9223372036854775807) : (Lib.itoa m).length ≤ 21 := Lib.itoa_length_le m h0 h1
/-! ### ident -/
def iff0 (b : Bool) (p : List UInt8) : List UInt8 := if b = true then p else []
def childL (id : List UInt8) (m : Int) : List UInt8 := id ++ [46] ++ Lib.itoa m
def childE (id : List UInt8) (m : Int) : Int := if idS id = true then (if 0 ≤ m ∧ m ≤ 1000000000000 then (if (childL id m).length ≤ 64 then 0 else 3) else 2) else 4
def childV (id : List UInt8) (m : Int) : List UInt8 := if childE id m = 0 then childL id m else []
def parP (s : List UInt8) : List UInt8 := s.take (lastB s 46).toNat
def parN (s : List UInt8) : List UInt8 := s.drop (lastB s 46 + 1).toNat
def parOk (s : List UInt8) : Bool := decide (0 ≤ lastB s 46) && decide (parseE (parN s) = 0) && decide (childE (parP s) (parseV (parN s)) = 0) && decide (childV (parP s) (parseV (parN s)) = s)
theorem childV_len (id : List UInt8) (m : Int) : (childV id m).length ≤ 64 := by
 unfold childV
 split
 ·rename_i h
  unfold childE at h
  split at h
  ·split at h
   ·split at h
    ·assumption
    ·omega
   ·omega
  ·omega
 ·simp
end Go.Proofs.YtpmiamphppcfeaaDoor

/-
 Walks, printed by a small program of ours (gsym.py).
-/
namespace Go.Proofs.YtpmiamphppcfeaaDoor
open Go Go.RowKit
set_option linter.unusedVariables false
set_option linter.unusedSimpArgs false
set_option maxRecDepth 100000
theorem decimal_c (p : List UInt8) (hp : p.length ≤ 281474976710656) (w : World) : Calls Tryd.prog 32 [.string (B (p))].toArray w (RetV w (.bool (decS p))) := by
 refine enter0 (n := 43) Tryd.func32 rfl Tryd.ntmps32 rfl (wc_seq (wc_region (wl_v (o_assign rfl) rfl (wl_nil (wk_then (wc_of_wk ?_))))))
 refine wc_seq (wc_region (wl_v (o_move rfl) rfl (wl_v (o_assign rfl) rfl (wl_nil (wk_then (wc_of_wk ?_))))))
 refine wc_seq_mid [(0, .string (B (p))), (2, .bool (false)), (3, .string (B ((if ((decide ((0) < ((p.length : Int)))) && (decide ((bat p 0) = (45)))) = true then List.drop (Int.toNat (1)) p else p))))] [] (φ := True) ?_ (fun hm45 => ?_)
 ·refine wc_seq_mid [(0, .string (B (p))), (2, .bool (false)), (3, .string (B (p))), (13, .bool (((decide ((0) < ((p.length : Int)))) && (decide ((bat p 0) = (45))))))] [] (φ := True) ?_ (fun hm43 => ?_)
  ·refine wc_region (wl_v (o_move rfl) rfl (wl_v (o_len_s Tryd.underlying9 rfl) rfl (wl_v (o_gt rfl rfl) rfl (wl_v (o_move rfl) rfl (bsplit (decide ((0) < ((p.length : Int)))) (fun h43 => ?_) (fun h43 => ?_))))))
   ·have g43 := h43; try simp only [decide_eq_true_eq, decide_eq_false_iff_not] at g43
    have f43 := h43; try simp at f43
    refine wl_on rfl rfl h43 (wl_v (o_move rfl) rfl (wl_on rfl rfl h43 (wl_v (o_index_b Tryd.underlying9 rfl rfl (by first | omega | exact len_pos (by assumption)) (by first | omega | exact len_pos (by assumption))) rfl (wl_on rfl rfl h43 (wl_v (o_eq rfl rfl) rfl (wl_v (o_pick_t rfl h43 rfl) rfl (wl_nil ?_)))))))
    exact wk_then (wk_mid trivial ⟨rfl, rfl, rfl, fb (by first | (simp only [h43, Bool.true_and, Bool.false_and, Bool.true_or, Bool.false_or, Bool.and_true, Bool.and_false, Bool.or_true, Bool.or_false, Bool.not_true, Bool.not_false, cond_true, cond_false, if_true, if_false, reduceIte, Bool.false_eq_true]; done) | simp [h43]), trivial⟩ .slnil)
   ·have g43 := h43; try simp only [decide_eq_true_eq, decide_eq_false_iff_not] at g43
    have f43 := h43; try simp at f43
    refine wl_off rfl rfl h43 rfl (wl_off rfl rfl h43 rfl (wl_off rfl rfl h43 rfl (wl_v (o_pick_f rfl h43 rfl) rfl (wl_nil ?_))))
    exact wk_then (wk_mid trivial ⟨rfl, rfl, rfl, fb (by first | (simp only [h43, Bool.true_and, Bool.false_and, Bool.true_or, Bool.false_or, Bool.and_true, Bool.and_false, Bool.or_true, Bool.or_false, Bool.not_true, Bool.not_false, cond_true, cond_false, if_true, if_false, reduceIte, Bool.false_eq_true]; done) | simp [h43]), trivial⟩ .slnil)
  refine wc_cond (b := ((decide ((0) < ((p.length : Int)))) && (decide ((bat p 0) = (45))))) rfl (fun h45 => ?_) (fun h45 => ?_)
  ·have g45 := h45; try simp only [decide_eq_true_eq, decide_eq_false_iff_not] at g45
   have f45 := h45; try simp at f45
   refine wc_region (wl_v (o_move rfl) rfl (wl_v (o_slice_lo Tryd.underlying9 rfl rfl (by first | omega | (simp; omega)) (by first | omega | (simp; omega))) rfl (wl_v (o_assign rfl) rfl (wl_nil ?_))))
   exact wk_then (wk_mid trivial ⟨rfl, rfl, fs (by first | (simp only [h45, Bool.true_and, Bool.false_and, Bool.true_or, Bool.false_or, Bool.and_true, Bool.and_false, Bool.or_true, Bool.or_false, Bool.not_true, Bool.not_false, cond_true, cond_false, if_true, if_false, reduceIte, Bool.false_eq_true]; done) | simp [h45]), trivial⟩ .slnil)
  ·have g45 := h45; try simp only [decide_eq_true_eq, decide_eq_false_iff_not] at g45
   have f45 := h45; try simp at f45
   refine wc_skip ?_
   exact wk_then (wk_mid trivial ⟨rfl, rfl, fs (by first | (simp only [h45, Bool.true_and, Bool.false_and, Bool.true_or, Bool.false_or, Bool.and_true, Bool.and_false, Bool.or_true, Bool.or_false, Bool.not_true, Bool.not_false, cond_true, cond_false, if_true, if_false, reduceIte, Bool.false_eq_true]; done) | simp [h45]), trivial⟩ .slnil)
 have hdg : digs p = (if ((decide ((0) < ((p.length : Int)))) && (decide ((bat p 0) = (45)))) = true then List.drop (Int.toNat (1)) p else p) := rfl
 have hdl := digs_len p
 rw [hdg] at hdl
 generalize (if ((decide ((0) < ((p.length : Int)))) && (decide ((bat p 0) = (45)))) = true then List.drop (Int.toNat (1)) p else p) = dg at hdg hdl ⊢
 refine wc_seq (wc_seq_mid [(2, .bool (false)), (3, .string (B (dg))), (26, .bool (((decide ((dg) = (([] : List UInt8)))) || ((decide ((bat dg 0) = (48))) && (!(decide ((p) = (([48] : List UInt8)))))))))] [] (φ := True) ?_ (fun hm48 => ?_))
 ·refine wc_region (wl_v (o_move rfl) rfl (wl_v (o_seq rfl rfl) rfl (wl_v (o_move rfl) rfl (bsplit (decide ((dg) = (([] : List UInt8)))) (fun h47 => ?_) (fun h47 => ?_)))))
  ·have g47 := h47; try simp only [decide_eq_true_eq, decide_eq_false_iff_not] at g47
   have f47 := h47; try simp at f47
   refine wl_off rfl rfl h47 rfl (wl_off rfl rfl h47 rfl (wl_off rfl rfl h47 rfl (wl_off rfl rfl h47 rfl (wl_off_u rfl rfl rfl (wl_off_u rfl rfl rfl (wl_off rfl rfl h47 rfl (wl_v (o_pick_t rfl h47 rfl) rfl (wl_nil ?_))))))))
   exact wk_then (wk_mid trivial ⟨rfl, rfl, fb (by first | (simp only [h47, Bool.true_and, Bool.false_and, Bool.true_or, Bool.false_or, Bool.and_true, Bool.and_false, Bool.or_true, Bool.or_false, Bool.not_true, Bool.not_false, cond_true, cond_false, if_true, if_false, reduceIte, Bool.false_eq_true]; done) | simp [h47]), trivial⟩ .slnil)
  ·have g47 := h47; try simp only [decide_eq_true_eq, decide_eq_false_iff_not] at g47
   have f47 := h47; try simp at f47
   refine wl_on rfl rfl h47 (wl_v (o_move rfl) rfl (wl_on rfl rfl h47 (wl_v (o_index_b Tryd.underlying9 rfl rfl (by first | omega | exact len_pos (by assumption)) (by first | omega | exact len_pos (by assumption))) rfl (wl_on rfl rfl h47 (wl_v (o_eq rfl rfl) rfl (wl_on rfl rfl h47 (wl_v (o_move rfl) rfl (bsplit (decide ((bat dg 0) = (48))) (fun h48 => ?_) (fun h48 => ?_)))))))))
   ·have g48 := h48; try simp only [decide_eq_true_eq, decide_eq_false_iff_not] at g48
    have f48 := h48; try simp at f48
    refine wl_on rfl rfl h48 (wl_v (o_move rfl) rfl (wl_on rfl rfl h48 (wl_v (o_sne rfl rfl) rfl (wl_on rfl rfl h47 (wl_v (o_pick_t rfl h48 rfl) rfl (wl_v (o_pick_f rfl h47 rfl) rfl (wl_nil ?_)))))))
    exact wk_then (wk_mid trivial ⟨rfl, rfl, fb (by first | (simp only [h47, h48, Bool.true_and, Bool.false_and, Bool.true_or, Bool.false_or, Bool.and_true, Bool.and_false, Bool.or_true, Bool.or_false, Bool.not_true, Bool.not_false, cond_true, cond_false, if_true, if_false, reduceIte, Bool.false_eq_true]; done) | simp [h47, h48]), trivial⟩ .slnil)
   ·have g48 := h48; try simp only [decide_eq_true_eq, decide_eq_false_iff_not] at g48
    have f48 := h48; try simp at f48
    refine wl_off rfl rfl h48 rfl (wl_off rfl rfl h48 rfl (wl_on rfl rfl h47 (wl_v (o_pick_f rfl h48 rfl) rfl (wl_v (o_pick_f rfl h47 rfl) rfl (wl_nil ?_)))))
    exact wk_then (wk_mid trivial ⟨rfl, rfl, fb (by first | (simp only [h47, h48, Bool.true_and, Bool.false_and, Bool.true_or, Bool.false_or, Bool.and_true, Bool.and_false, Bool.or_true, Bool.or_false, Bool.not_true, Bool.not_false, cond_true, cond_false, if_true, if_false, reduceIte, Bool.false_eq_true]; done) | simp [h47, h48]), trivial⟩ .slnil)
 refine wc_cond (b := ((decide ((dg) = (([] : List UInt8)))) || ((decide ((bat dg 0) = (48))) && (!(decide ((p) = (([48] : List UInt8)))))))) rfl (fun h50 => ?_) (fun h50 => ?_)
 ·have g50 := h50; try simp only [decide_eq_true_eq, decide_eq_false_iff_not] at g50
  have f50 := h50; try simp at f50
  refine wc_seq (wc_region (wl_v (o_assign rfl) rfl (wl_nil (wk_then (wc_of_wk ?_)))))
  refine wc_ret (wk_then_ret (wk_ret (r_1 rfl rfl) ?_))
  exact retv (by simp only [decS, hdg, h50]; rfl)
 ·have g50 := h50; try simp only [decide_eq_true_eq, decide_eq_false_iff_not] at g50
  have f50 := h50; try simp at f50
  refine wc_skip (wk_then (wc_of_wk ?_))
  refine wc_seq (wc_seq (wc_region (wl_v (o_move rfl) rfl (wl_v (o_len_s Tryd.underlying9 rfl) rfl (wl_v (o_move rfl) rfl (wl_nil (wk_then (wc_of_wk ?_))))))))
  refine wc_block (wc_loop (S := Nat) (fun (k : Nat) => k ≤ dg.length ∧ allFrom digCh 0 dg = allFrom digCh k (dg.drop k)) (fun (k : Nat) => [(29, .int .i64 ((k : Int))), (3, .string (B (dg))), (28, .int .i64 ((dg.length : Int)))]) (fun (k : Nat) => []) (fun (k : Nat) => dg.length - k) (0) ?_ ⟨fi (by first | rfl | (simp; done) | omega | (simp; omega)), rfl, rfl, trivial⟩ .slnil ?_)
  ·exact ⟨Nat.zero_le _, by simp⟩
  rintro k hi0
  refine wc_seq (wc_region (wl_v (o_lt rfl rfl) rfl (wl_nil (wk_then (wc_of_wk ?_)))))
  refine wc_seq (wc_cond (b := decide (((k : Int)) < ((dg.length : Int)))) rfl (fun h51 => ?_) (fun h51 => ?_))
  ·have g51 := h51; try simp only [decide_eq_true_eq, decide_eq_false_iff_not] at g51
   have f51 := h51; try simp at f51
   refine wc_skip (wk_then (wc_of_wk ?_))
   refine wc_seq (wc_block (wc_seq (wc_region (wl_v (o_move rfl) rfl (wl_v (o_assign rfl) rfl (wl_nil (wk_then (wc_of_wk ?_))))))))
   refine wc_seq_mid [(3, .string (B (dg))), (4, .int .i64 ((k : Int))), (28, .int .i64 ((dg.length : Int))), (29, .int .i64 ((k : Int))), (30, .bool (decide (((k : Int)) < ((dg.length : Int))))), (31, .int .i64 ((k : Int))), (32, .string (B (dg))), (33, .int .i64 ((k : Int))), (34, .int .u8 (bat dg (k : Int))), (35, .bool (decide ((bat dg (k : Int)) < (48)))), (36, .bool (decide ((bat dg (k : Int)) < (48)))), (41, .bool (((decide ((bat dg (k : Int)) < (48))) || (decide ((57) < (bat dg (k : Int)))))))] [] (φ := True) ?_ (fun hm52 => ?_)
   ·refine wc_region (wl_v (o_move rfl) rfl (wl_v (o_move rfl) rfl (wl_v (o_index_b Tryd.underlying9 rfl rfl (by first | omega | exact len_pos (by assumption)) (by first | omega | exact len_pos (by assumption))) rfl (wl_v (o_lt rfl rfl) rfl (wl_v (o_move rfl) rfl (bsplit (decide ((bat dg (k : Int)) < (48))) (fun h52 => ?_) (fun h52 => ?_)))))))
    ·have g52 := h52; try simp only [decide_eq_true_eq, decide_eq_false_iff_not] at g52
     have f52 := h52; try simp at f52
     refine wl_off rfl rfl h52 rfl (wl_off rfl rfl h52 rfl (wl_off rfl rfl h52 rfl (wl_off rfl rfl h52 rfl (wl_v (o_pick_t rfl h52 rfl) rfl (wl_nil ?_)))))
     exact wk_then (wk_mid trivial ⟨rfl, rfl, rfl, rfl, rfl, rfl, rfl, rfl, rfl, rfl, rfl, fb (by first | (simp only [h50, h51, h52, Bool.true_and, Bool.false_and, Bool.true_or, Bool.false_or, Bool.and_true, Bool.and_false, Bool.or_true, Bool.or_false, Bool.not_true, Bool.not_false, cond_true, cond_false, if_true, if_false, reduceIte, Bool.false_eq_true]; done) | simp [h50, h51, h52]), trivial⟩ .slnil)
    ·have g52 := h52; try simp only [decide_eq_true_eq, decide_eq_false_iff_not] at g52
     have f52 := h52; try simp at f52
     refine wl_on rfl rfl h52 (wl_v (o_move rfl) rfl (wl_on rfl rfl h52 (wl_v (o_move rfl) rfl (wl_on rfl rfl h52 (wl_v (o_index_b Tryd.underlying9 rfl rfl (by first | omega | exact len_pos (by assumption)) (by first | omega | exact len_pos (by assumption))) rfl (wl_on rfl rfl h52 (wl_v (o_gt rfl rfl) rfl (wl_v (o_pick_f rfl h52 rfl) rfl (wl_nil ?_)))))))))
     exact wk_then (wk_mid trivial ⟨rfl, rfl, rfl, rfl, rfl, rfl, rfl, rfl, rfl, rfl, rfl, fb (by first | (simp only [h50, h51, h52, Bool.true_and, Bool.false_and, Bool.true_or, Bool.false_or, Bool.and_true, Bool.and_false, Bool.or_true, Bool.or_false, Bool.not_true, Bool.not_false, cond_true, cond_false, if_true, if_false, reduceIte, Bool.false_eq_true]; done) | simp [h50, h51, h52]), trivial⟩ .slnil)
   refine wc_cond (b := ((decide ((bat dg (k : Int)) < (48))) || (decide ((57) < (bat dg (k : Int)))))) rfl (fun h54 => ?_) (fun h54 => ?_)
   ·have g54 := h54; try simp only [decide_eq_true_eq, decide_eq_false_iff_not] at g54
    have f54 := h54; try simp at f54
    refine wc_seq (wc_region (wl_v (o_assign rfl) rfl (wl_nil (wk_then (wc_of_wk ?_)))))
    refine wc_ret (wk_in_ret (wk_then_ret (wk_then_ret (wk_in_ret (wk_then_ret (wk_ret (r_1 rfl rfl) ?_))))))
    exact retv (by simp [decS, hdg, dig_no hi0 g51 h54])
   ·have g54 := h54; try simp only [decide_eq_true_eq, decide_eq_false_iff_not] at g54
    have f54 := h54; try simp at f54
    refine wc_skip (wk_in_norm (wk_then (wc_of_wk ?_)))
    refine wc_region (wl_v (o_add rfl rfl (IntWalk.i64_in _ (by omega))) rfl (wl_v (o_move rfl) rfl (wl_nil (wk_then (wk_some (k + 1) ?_ ⟨fi (by first | rfl | (simp; done) | omega | (simp; omega)), rfl, rfl, trivial⟩ .slnil)))))
    exact dig_next hi0 g51 h54
  ·have g51 := h51; try simp only [decide_eq_true_eq, decide_eq_false_iff_not] at g51
   have f51 := h51; try simp at f51
   refine wc_exit (wk_then_exit (wk_then_exit (wk_in_hit (wk_then (wc_of_wk ?_)))))
   refine wc_seq (wc_region (wl_v (o_assign rfl) rfl (wl_nil (wk_then (wc_of_wk ?_)))))
   refine wc_ret (wk_ret (r_1 rfl rfl) ?_)
   exact retv (by simp only [decS, hdg, h50, dig_yes hi0 g51]; rfl)

theorem format_c (m : Int) (h0 : -9223372036854775808 ≤ m) (h1 : m ≤ 9223372036854775807) (w : World) (hE : Env w) : Calls Tryd.prog 17 [.int .i64 (m)].toArray w (RetV w (.string (B (Lib.itoa m)))) := by
 refine enter0 (n := 5) Tryd.func17 rfl Tryd.ntmps17 rfl (wc_seq (wc_region (wl_v (o_assign rfl) rfl (wl_nil (wk_then (wc_of_wk ?_))))))
 refine wc_seq (wc_region (wl_v (o_move rfl) rfl (w_call Tryd.call31 rfl (fun w hw => itoa_c m (by omega) (by omega) w (hE.st0 hw)) rfl (wl_v (o_assign rfl) rfl (wl_nil (wk_then (wc_of_wk ?_)))))))
 refine wc_ret (wk_ret (r_1 rfl rfl) ?_)
 exact retv (by first | rfl | simp [])

theorem parse_c (p : List UInt8) (hp : p.length ≤ 281474976710656) (w : World) (hE : Env w) : Calls Tryd.prog 20 [.string (B (p))].toArray w (RetV w (.tuple #[.int .i64 (parseV p), .int .i64 (parseE p)])) := by
 refine enter0 (n := 22) Tryd.func20 rfl Tryd.ntmps20 rfl (wc_seq (wc_region (wl_v (o_assign rfl) rfl (wl_v (o_assign rfl) rfl (wl_nil (wk_then (wc_of_wk ?_)))))))
 refine wc_seq (wc_seq (wc_region (wl_v (o_move rfl) rfl (w_call Tryd.call32 rfl (fun w hw => decimal_c p (by first | omega | (simp; done) | (simp; omega) | (simp at *; omega)) w) rfl (wl_v (o_not rfl) rfl (wl_nil (wk_then (wc_of_wk ?_))))))))
 refine wc_cond (b := !(decS p)) rfl (fun h55 => ?_) (fun h55 => ?_)
 ·have g55 := h55; try simp only [decide_eq_true_eq, decide_eq_false_iff_not] at g55
  have f55 := h55; try simp only [decide_eq_true_eq, decide_eq_false_iff_not, Bool.and_eq_true, Bool.or_eq_true, Bool.not_eq_true', Bool.not_eq_false', Bool.and_eq_false_iff, Bool.or_eq_false_iff, not_or, Int.not_lt, Int.not_le] at f55
  refine wc_seq (wc_region (wl_v (o_assign rfl) rfl (wl_v (o_assign rfl) rfl (wl_nil (wk_then (wc_of_wk ?_))))))
  refine wc_ret (wk_then_ret (wk_ret (r_2 rfl rfl rfl) ?_))
  exact retv (by simp [parseV, parseE, f55])
 ·have g55 := h55; try simp only [decide_eq_true_eq, decide_eq_false_iff_not] at g55
  have f55 := h55; try simp only [decide_eq_true_eq, decide_eq_false_iff_not, Bool.and_eq_true, Bool.or_eq_true, Bool.not_eq_true', Bool.not_eq_false', Bool.and_eq_false_iff, Bool.or_eq_false_iff, not_or, Int.not_lt, Int.not_le] at f55
  refine wc_skip (wk_then (wc_of_wk ?_))
  refine wc_seq (wc_region (wl_v (o_move rfl) rfl ?_))
  rcases atoi_dec (p := p) (by assumption) with ⟨av, hav, hal, hah⟩ | hav
  ·refine w_call Tryd.call33 rfl (fun w _ => atoi_ok p (by first | omega | (simp; done) | (simp; omega) | (simp at *; omega)) av hav w) rfl (wl_v (o_move rfl) rfl (wl_v (o_extract rfl rfl) rfl (wl_v (o_extract rfl rfl) rfl (wl_v (o_assign rfl) rfl (wl_v (o_assign rfl) rfl (wl_nil (wk_then (wc_of_wk ?_))))))))
   refine wc_seq (wc_seq_mid [(2, .int .i64 (0)), (3, .int .i64 (0)), (4, .int .i64 (av)), (20, .bool (!(validS av)))] [] (φ := True) ?_ (fun hm55 => ?_))
   ·exact wc_region (wl_v (o_move rfl) rfl (wl_v (o_if_ne_nil Tryd.underlying70 rfl) rfl (wl_v (o_move rfl) rfl (wl_on rfl rfl rfl (wl_v (o_move rfl) rfl (wl_on rfl rfl rfl (w_call Tryd.call34 rfl (fun w hw => valid_c av w) rfl (wl_on rfl rfl rfl (wl_v (o_not rfl) rfl (wl_v (o_pick_f rfl rfl rfl) rfl (wl_nil (wk_then (wk_mid trivial ⟨rfl, rfl, rfl, rfl, trivial⟩ .slnil)))))))))))))
   refine wc_cond (b := !(validS av)) rfl (fun h57 => ?_) (fun h57 => ?_)
   ·have g57 := h57; try simp only [decide_eq_true_eq, decide_eq_false_iff_not] at g57
    have f57 := h57; try simp only [decide_eq_true_eq, decide_eq_false_iff_not, Bool.and_eq_true, Bool.or_eq_true, Bool.not_eq_true', Bool.not_eq_false', Bool.and_eq_false_iff, Bool.or_eq_false_iff, not_or, Int.not_lt, Int.not_le] at f57
    refine wc_seq (wc_region (wl_v (o_assign rfl) rfl (wl_v (o_assign rfl) rfl (wl_nil (wk_then (wc_of_wk ?_))))))
    refine wc_ret (wk_then_ret (wk_ret (r_2 rfl rfl rfl) ?_))
    exact retv (by simp [parseV, parseE, hav, f55, f57])
   ·have g57 := h57; try simp only [decide_eq_true_eq, decide_eq_false_iff_not] at g57
    have f57 := h57; try simp only [decide_eq_true_eq, decide_eq_false_iff_not, Bool.and_eq_true, Bool.or_eq_true, Bool.not_eq_true', Bool.not_eq_false', Bool.and_eq_false_iff, Bool.or_eq_false_iff, not_or, Int.not_lt, Int.not_le] at f57
    refine wc_skip (wk_then (wc_of_wk ?_))
    refine wc_seq (wc_region (wl_v (o_move rfl) rfl (wl_v (o_assign rfl) rfl (wl_v (o_assign rfl) rfl (wl_nil (wk_then (wc_of_wk ?_)))))))
    refine wc_ret (wk_ret (r_2 rfl rfl rfl) ?_)
    exact retv (by simp [parseV, parseE, hav, f55, f57])
  ·refine w_callM Tryd.call33 rfl (fun w hw => atoi_range p (by first | omega | (simp; done) | (simp; omega) | (simp at *; omega)) hav w (hE.st0 hw)) rfl ?_
   rintro _ _ ⟨am, at_, ab, rfl, rfl⟩
   refine wl_v (o_move rfl) rfl (wl_v (o_extract rfl rfl) rfl (wl_v (o_extract rfl rfl) rfl (wl_v (o_assign rfl) rfl (wl_v (o_assign rfl) rfl (wl_nil (wk_then (wc_of_wk ?_)))))))
   refine wc_seq (wc_seq_mid [(2, .int .i64 (0)), (3, .int .i64 (0)), (4, .int .i64 (am)), (20, .bool (true))] [] (φ := True) ?_ (fun hm57 => ?_))
   ·exact wc_region (wl_v (o_move rfl) rfl (wl_v (o_if_ne Tryd.underlying70 rfl) rfl (wl_v (o_move rfl) rfl (wl_off rfl rfl rfl rfl (wl_off rfl rfl rfl rfl (wl_off rfl rfl rfl rfl (wl_v (o_pick_t rfl rfl rfl) rfl (wl_nil (wk_then (wk_mid trivial ⟨rfl, rfl, rfl, rfl, trivial⟩ .slnil))))))))))
   refine wc_cond_t rfl rfl (wc_seq (wc_region (wl_v (o_assign rfl) rfl (wl_v (o_assign rfl) rfl (wl_nil (wk_then (wc_of_wk ?_)))))))
   refine wc_ret (wk_then_ret (wk_ret (r_2 rfl rfl rfl) ?_))
   exact retv (by simp [parseV, parseE, hav, f55])

theorem last0_c (p : List UInt8) (m : Int) (hp : p.length ≤ 281474976710656) (w : World) : Calls Tryd.prog 58 [.string (B (p)), .int .u8 (m)].toArray w (RetV w (.int .i64 (lastB p m))) := by
 refine enter0 (n := 19) Tryd.func58 rfl Tryd.ntmps58 rfl (wc_seq (wc_region (wl_v (o_assign rfl) rfl (wl_nil (wk_then (wc_of_wk ?_))))))
 refine wc_seq (wc_seq (wc_region (wl_v (o_move rfl) rfl (wl_v (o_len_s Tryd.underlying9 rfl) rfl (wl_v (o_sub rfl rfl (IntWalk.i64_in _ (by omega))) rfl (wl_v (o_assign rfl) rfl (wl_nil (wk_then (wc_of_wk ?_)))))))))
 refine wc_block (wc_loop (S := Nat) (fun (k : Nat) => k ≤ p.length ∧ lastB p m = lastIx p m k) (fun (k : Nat) => [(5, .int .i64 ((k : Int) - 1)), (0, .string (B (p))), (1, .int .u8 (m))]) (fun (k : Nat) => []) (fun (k : Nat) => k) (p.length) ?_ ⟨fi (by first | rfl | (simp; done) | omega | (simp; omega)), rfl, rfl, trivial⟩ .slnil ?_)
 ·exact ⟨Nat.le_refl _, rfl⟩
 rintro k hi0
 refine wc_seq (wc_seq (wc_region (wl_v (o_move rfl) rfl (wl_v (o_ge rfl rfl) rfl (wl_nil (wk_then (wc_of_wk ?_)))))))
 refine wc_cond (b := decide ((0) ≤ ((k : Int) - 1))) rfl (fun h59 => ?_) (fun h59 => ?_)
 ·have g59 := h59; try simp only [decide_eq_true_eq, decide_eq_false_iff_not] at g59
  have f59 := h59; try simp at f59
  refine wc_skip (wk_then (wc_of_wk ?_))
  refine wc_seq (wc_block (wc_seq (wc_region (wl_v (o_move rfl) rfl (wl_v (o_move rfl) rfl (wl_v (o_index_b Tryd.underlying9 rfl rfl (by first | omega | (simp; omega) | (simp at *; omega)) (by first | omega | (simp; omega) | (simp at *; omega))) rfl (wl_v (o_move rfl) rfl (wl_v (o_eq rfl rfl) rfl (wl_nil (wk_then (wc_of_wk ?_)))))))))))
  refine wc_cond (b := decide ((bat p ((k : Int) - 1)) = (m))) rfl (fun h60 => ?_) (fun h60 => ?_)
  ·have g60 := h60; try simp only [decide_eq_true_eq, decide_eq_false_iff_not] at g60
   have f60 := h60; try simp at f60
   refine wc_seq (wc_region (wl_v (o_move rfl) rfl (wl_v (o_assign rfl) rfl (wl_nil (wk_then (wc_of_wk ?_))))))
   refine wc_ret (wk_in_ret (wk_then_ret (wk_then_ret (wk_in_ret (wk_then_ret (wk_ret (r_1 rfl rfl) ?_))))))
   exact retv (by rw [← last_hit hi0 g59 g60])
  ·have g60 := h60; try simp only [decide_eq_true_eq, decide_eq_false_iff_not] at g60
   have f60 := h60; try simp at f60
   refine wc_skip (wk_in_norm (wk_then (wc_of_wk ?_)))
   refine wc_region (wl_v (o_move rfl) rfl (wl_v (o_sub rfl rfl (IntWalk.i64_in _ (by omega))) rfl (wl_v (o_assign rfl) rfl (wl_nil (wk_then (wk_some (k - 1) ?_ ⟨fi (by first | rfl | (simp; done) | omega | (simp; omega)), rfl, rfl, trivial⟩ .slnil))))))
   exact last_next hi0 g59 g60
 ·have g59 := h59; try simp only [decide_eq_true_eq, decide_eq_false_iff_not] at g59
  have f59 := h59; try simp at f59
  refine wc_exit (wk_then_exit (wk_then_exit (wk_in_hit (wk_then (wc_of_wk ?_)))))
  refine wc_seq (wc_region (wl_v (o_assign rfl) rfl (wl_nil (wk_then (wc_of_wk ?_)))))
  refine wc_ret (wk_ret (r_1 rfl rfl) ?_)
  exact retv (by rw [← last_end hi0 g59])

theorem last_c (p : List UInt8) (m : Int) (hp : p.length ≤ 281474976710656) (w : World) : Calls Tryd.prog 39 [.string (B (p)), .int .u8 (m)].toArray w (RetV w (.int .i64 (lastB p m))) := by
 refine enter0 (n := 8) Tryd.func39 rfl Tryd.ntmps39 rfl (wc_seq (wc_region (wl_v (o_assign rfl) rfl (wl_nil (wk_then (wc_of_wk ?_))))))
 refine wc_seq (wc_region (wl_v (o_move rfl) rfl (wl_v (o_move rfl) rfl (w_call Tryd.call58 rfl (fun w hw => last0_c p m (by first | omega | (simp; done) | (simp; omega) | (simp at *; omega)) w) rfl (wl_v (o_assign rfl) rfl (wl_nil (wk_then (wc_of_wk ?_))))))))
 refine wc_ret (wk_ret (r_1 rfl rfl) ?_)
 exact retv (by first | rfl | simp [])

theorem child_c (p : List UInt8) (m : Int) (hp : p.length ≤ 281474976710656) (w : World) (hE : Env w) : Calls Tryd.prog 25 [.string (B (p)), .int .i64 (m)].toArray w (RetV w (.tuple #[.string (B (childV p m)), .int .i64 (childE p m)])) := by
 refine enter0 (n := 25) Tryd.func25 rfl Tryd.ntmps25 rfl (wc_seq (wc_region (wl_v (o_assign rfl) rfl (wl_v (o_assign rfl) rfl (wl_nil (wk_then (wc_of_wk ?_)))))))
 refine wc_seq (wc_seq (wc_region (wl_v (o_move rfl) rfl (w_call Tryd.call23 rfl (fun w hw => id_c p w) rfl (wl_v (o_not rfl) rfl (wl_nil (wk_then (wc_of_wk ?_))))))))
 refine wc_cond (b := !(idS p)) rfl (fun h61 => ?_) (fun h61 => ?_)
 ·have g61 := h61; try simp only [decide_eq_true_eq, decide_eq_false_iff_not] at g61
  have f61 := h61; try simp at f61
  refine wc_seq (wc_region (wl_v (o_assign rfl) rfl (wl_v (o_assign rfl) rfl (wl_nil (wk_then (wc_of_wk ?_))))))
  refine wc_ret (wk_then_ret (wk_ret (r_2 rfl rfl rfl) ?_))
  have e : childE p m = 4 := by simp only [childE, childL]; grind
  exact retv (by simp [childV, e, childL, B])
 ·have g61 := h61; try simp only [decide_eq_true_eq, decide_eq_false_iff_not] at g61
  have f61 := h61; try simp at f61
  refine wc_skip (wk_then (wc_of_wk ?_))
  refine wc_seq (wc_seq_mid [(0, .string (B (p))), (1, .int .i64 (m)), (4, .string (B ([]))), (5, .int .i64 (0)), (15, .bool (((decide ((m) < (0))) || (decide ((1000000000000) < (m))))))] [] (φ := True) ?_ (fun hm62 => ?_))
  ·refine wc_region (wl_v (o_move rfl) rfl (wl_v (o_lt rfl rfl) rfl (wl_v (o_move rfl) rfl (bsplit (decide ((m) < (0))) (fun h62 => ?_) (fun h62 => ?_)))))
   ·have g62 := h62; try simp only [decide_eq_true_eq, decide_eq_false_iff_not] at g62
    have f62 := h62; try simp at f62
    refine wl_off rfl rfl h62 rfl (wl_off rfl rfl h62 rfl (wl_v (o_pick_t rfl h62 rfl) rfl (wl_nil ?_)))
    exact wk_then (wk_mid trivial ⟨rfl, rfl, rfl, rfl, fb (by first | (simp only [h61, h62, Bool.true_and, Bool.false_and, Bool.true_or, Bool.false_or, Bool.and_true, Bool.and_false, Bool.or_true, Bool.or_false, Bool.not_true, Bool.not_false, cond_true, cond_false, if_true, if_false, reduceIte, Bool.false_eq_true]; done) | simp [h61, h62]), trivial⟩ .slnil)
   ·have g62 := h62; try simp only [decide_eq_true_eq, decide_eq_false_iff_not] at g62
    have f62 := h62; try simp at f62
    refine wl_on rfl rfl h62 (wl_v (o_move rfl) rfl (wl_on rfl rfl h62 (wl_v (o_gt rfl rfl) rfl (wl_v (o_pick_f rfl h62 rfl) rfl (wl_nil ?_)))))
    exact wk_then (wk_mid trivial ⟨rfl, rfl, rfl, rfl, fb (by first | (simp only [h61, h62, Bool.true_and, Bool.false_and, Bool.true_or, Bool.false_or, Bool.and_true, Bool.and_false, Bool.or_true, Bool.or_false, Bool.not_true, Bool.not_false, cond_true, cond_false, if_true, if_false, reduceIte, Bool.false_eq_true]; done) | simp [h61, h62]), trivial⟩ .slnil)
  refine wc_cond (b := ((decide ((m) < (0))) || (decide ((1000000000000) < (m))))) rfl (fun h64 => ?_) (fun h64 => ?_)
  ·have g64 := h64; try simp only [decide_eq_true_eq, decide_eq_false_iff_not] at g64
   have f64 := h64; try simp at f64
   refine wc_seq (wc_region (wl_v (o_assign rfl) rfl (wl_v (o_assign rfl) rfl (wl_nil (wk_then (wc_of_wk ?_))))))
   refine wc_ret (wk_then_ret (wk_ret (r_2 rfl rfl rfl) ?_))
   have e : childE p m = 2 := by simp only [childE, childL]; grind
   exact retv (by simp [childV, e, childL, B])
  ·have g64 := h64; try simp only [decide_eq_true_eq, decide_eq_false_iff_not] at g64
   have f64 := h64; try simp at f64
   refine wc_skip (wk_then (wc_of_wk ?_))
   refine wc_seq (wc_region (wl_v (o_move rfl) rfl (wl_v (o_sadd rfl rfl (by simp; omega)) rfl (wl_v (o_move rfl) rfl (w_call Tryd.call17 rfl (fun w hw => format_c m (by omega) (by omega) w (hE.st0 hw)) rfl ?_)))))
   have ft65 := itoa_len m (by omega) (by omega)
   refine wl_v (o_sadd rfl rfl (by simp; omega)) rfl (wl_v (o_assign rfl) rfl (wl_nil (wk_then (wc_of_wk ?_))))
   refine wc_seq (wc_seq (wc_region (wl_v (o_move rfl) rfl (wl_v (o_len_s Tryd.underlying9 rfl) rfl (wl_v (o_gt rfl rfl) rfl (wl_nil (wk_then (wc_of_wk ?_))))))))
   refine wc_cond (b := decide ((64) < ((((p ++ [46]) ++ (Lib.itoa m)).length : Int)))) rfl (fun h66 => ?_) (fun h66 => ?_)
   ·have g66 := h66; try simp only [decide_eq_true_eq, decide_eq_false_iff_not] at g66
    have f66 := h66; try simp at f66
    refine wc_seq (wc_region (wl_v (o_assign rfl) rfl (wl_v (o_assign rfl) rfl (wl_nil (wk_then (wc_of_wk ?_))))))
    refine wc_ret (wk_then_ret (wk_ret (r_2 rfl rfl rfl) ?_))
    have e : childE p m = 3 := by simp only [childE, childL]; grind
    exact retv (by simp [childV, e, childL, B])
   ·have g66 := h66; try simp only [decide_eq_true_eq, decide_eq_false_iff_not] at g66
    have f66 := h66; try simp at f66
    refine wc_skip (wk_then (wc_of_wk ?_))
    refine wc_seq (wc_region (wl_v (o_move rfl) rfl (wl_v (o_assign rfl) rfl (wl_v (o_assign rfl) rfl (wl_nil (wk_then (wc_of_wk ?_)))))))
    refine wc_ret (wk_ret (r_2 rfl rfl rfl) ?_)
    have e : childE p m = 0 := by simp only [childE, childL]; grind
    exact retv (by simp [childV, e, childL, B])

theorem parent_c (p : List UInt8) (hp : p.length ≤ 281474976710656) (w : World) (hE : Env w) : Calls Tryd.prog 27 [.string (B (p))].toArray w (RetV w (.tuple #[.string (B (iff0 (parOk p) (parP p))), .int .i64 ((if parOk p = true then parseV (parN p) else (0 : Int))), .bool (parOk p)])) := by
 refine enter0 (n := 43) Tryd.func27 rfl Tryd.ntmps27 rfl (wc_seq (wc_region (wl_v (o_assign rfl) rfl (wl_v (o_assign rfl) rfl (wl_v (o_assign rfl) rfl (wl_nil (wk_then (wc_of_wk ?_))))))))
 refine wc_seq (wc_region (wl_v (o_move rfl) rfl (w_call Tryd.call39 rfl (fun w hw => last_c p (46 : Int) (by first | omega | (simp; done) | (simp; omega) | (simp at *; omega)) w) rfl ?_)))
 have ft67 := lastB_bd p 46
 refine wl_v (o_assign rfl) rfl (wl_nil (wk_then (wc_of_wk ?_)))
 refine wc_seq (wc_seq (wc_region (wl_v (o_move rfl) rfl (wl_v (o_lt rfl rfl) rfl (wl_nil (wk_then (wc_of_wk ?_)))))))
 refine wc_cond (b := decide ((lastB p 46) < (0))) rfl (fun h68 => ?_) (fun h68 => ?_)
 ·have g68 := h68; try simp only [decide_eq_true_eq, decide_eq_false_iff_not] at g68
  have f68 := h68; try simp at f68
  refine wc_seq (wc_region (wl_v (o_assign rfl) rfl (wl_v (o_assign rfl) rfl (wl_v (o_assign rfl) rfl (wl_nil (wk_then (wc_of_wk ?_)))))))
  refine wc_ret (wk_then_ret (wk_ret (r_3 rfl rfl rfl rfl) ?_))
  have hr : parOk p = false := by simp only [parOk, parP, parN]; grind
  exact retv (by simp only [hr, iff0, parP, parN]; rfl)
 ·have g68 := h68; try simp only [decide_eq_true_eq, decide_eq_false_iff_not] at g68
  have f68 := h68; try simp at f68
  refine wc_skip (wk_then (wc_of_wk ?_))
  refine wc_seq (wc_region (wl_v (o_move rfl) rfl (wl_v (o_move rfl) rfl (wl_v (o_add rfl rfl (IntWalk.i64_in _ (by omega))) rfl (wl_v (o_slice_lo Tryd.underlying9 rfl rfl (by first | omega | (simp; omega)) (by first | omega | (simp; omega))) rfl (w_call Tryd.call20 rfl (fun w hw => parse_c (List.drop (Int.toNat ((lastB p 46) + 1)) p) (by first | omega | (simp; done) | (simp; omega) | (simp at *; omega)) w (hE.st0 hw)) rfl ?_))))))
  have ft69 := parse_bd (List.drop (Int.toNat ((lastB p 46) + 1)) p)
  refine wl_v (o_move rfl) rfl (wl_v (o_extract rfl rfl) rfl (wl_v (o_extract rfl rfl) rfl (wl_v (o_assign rfl) rfl (wl_v (o_assign rfl) rfl (wl_nil (wk_then (wc_of_wk ?_)))))))
  refine wc_seq (wc_seq (wc_region (wl_v (o_move rfl) rfl (wl_v (o_ne rfl rfl) rfl (wl_nil (wk_then (wc_of_wk ?_)))))))
  refine wc_cond (b := !(decide ((parseE (List.drop (Int.toNat ((lastB p 46) + 1)) p)) = (0)))) rfl (fun h70 => ?_) (fun h70 => ?_)
  ·have g70 := h70; try simp only [decide_eq_true_eq, decide_eq_false_iff_not] at g70
   have f70 := h70; try simp at f70
   refine wc_seq (wc_region (wl_v (o_assign rfl) rfl (wl_v (o_assign rfl) rfl (wl_v (o_assign rfl) rfl (wl_nil (wk_then (wc_of_wk ?_)))))))
   refine wc_ret (wk_then_ret (wk_ret (r_3 rfl rfl rfl rfl) ?_))
   have hr : parOk p = false := by simp only [parOk, parP, parN]; grind
   exact retv (by simp only [hr, iff0, parP, parN]; rfl)
  ·have g70 := h70; try simp only [decide_eq_true_eq, decide_eq_false_iff_not] at g70
   have f70 := h70; try simp at f70
   refine wc_skip (wk_then (wc_of_wk ?_))
   refine wc_seq (wc_seq (wc_region (wl_v (o_move rfl) rfl (wl_v (o_move rfl) rfl (wl_v (o_slice_hi Tryd.underlying9 rfl rfl (by first | omega | (simp; omega)) (by first | omega | (simp; omega))) rfl (wl_v (o_move rfl) rfl (w_call Tryd.call25 rfl (fun w hw => child_c (List.take (Int.toNat (lastB p 46)) p) (parseV (List.drop (Int.toNat ((lastB p 46) + 1)) p)) (by first | omega | (simp; done) | (simp; omega) | (simp at *; omega) | (split <;> first | omega | (simp; omega))) w (hE.st0 hw)) rfl ?_)))))))
   have ft71 := childV_len (List.take (Int.toNat (lastB p 46)) p) (parseV (List.drop (Int.toNat ((lastB p 46) + 1)) p))
   refine wl_v (o_move rfl) rfl (wl_v (o_extract rfl rfl) rfl (wl_v (o_extract rfl rfl) rfl (wl_v (o_assign rfl) rfl (wl_v (o_assign rfl) rfl (wl_nil (wk_then (wc_of_wk ?_)))))))
   refine wc_seq_mid [(0, .string (B (p))), (2, .string (B ([]))), (3, .int .i64 (0)), (4, .bool (false)), (5, .int .i64 (lastB p 46)), (6, .int .i64 (parseV (List.drop (Int.toNat ((lastB p 46) + 1)) p))), (38, .bool (((!(decide ((childE (List.take (Int.toNat (lastB p 46)) p) (parseV (List.drop (Int.toNat ((lastB p 46) + 1)) p))) = (0)))) || (!(decide (((childV (List.take (Int.toNat (lastB p 46)) p) (parseV (List.drop (Int.toNat ((lastB p 46) + 1)) p)))) = (p)))))))] [] (φ := True) ?_ (fun hm72 => ?_)
   ·refine wc_region (wl_v (o_move rfl) rfl (wl_v (o_ne rfl rfl) rfl (wl_v (o_move rfl) rfl (bsplit (!(decide ((childE (List.take (Int.toNat (lastB p 46)) p) (parseV (List.drop (Int.toNat ((lastB p 46) + 1)) p))) = (0)))) (fun h72 => ?_) (fun h72 => ?_)))))
    ·have g72 := h72; try simp only [decide_eq_true_eq, decide_eq_false_iff_not] at g72
     have f72 := h72; try simp at f72
     refine wl_off rfl rfl h72 rfl (wl_off rfl rfl h72 rfl (wl_off rfl rfl h72 rfl (wl_v (o_pick_t rfl h72 rfl) rfl (wl_nil ?_))))
     exact wk_then (wk_mid trivial ⟨rfl, rfl, rfl, rfl, rfl, rfl, fb (by first | (simp only [h68, h70, h72, Bool.true_and, Bool.false_and, Bool.true_or, Bool.false_or, Bool.and_true, Bool.and_false, Bool.or_true, Bool.or_false, Bool.not_true, Bool.not_false, cond_true, cond_false, if_true, if_false, reduceIte, Bool.false_eq_true]; done) | simp [h68, h70, h72]), trivial⟩ .slnil)
    ·have g72 := h72; try simp only [decide_eq_true_eq, decide_eq_false_iff_not] at g72
     have f72 := h72; try simp at f72
     refine wl_on rfl rfl h72 (wl_v (o_move rfl) rfl (wl_on rfl rfl h72 (wl_v (o_move rfl) rfl (wl_on rfl rfl h72 (wl_v (o_sne rfl rfl) rfl (wl_v (o_pick_f rfl h72 rfl) rfl (wl_nil ?_)))))))
     exact wk_then (wk_mid trivial ⟨rfl, rfl, rfl, rfl, rfl, rfl, fb (by first | (simp only [h68, h70, h72, Bool.true_and, Bool.false_and, Bool.true_or, Bool.false_or, Bool.and_true, Bool.and_false, Bool.or_true, Bool.or_false, Bool.not_true, Bool.not_false, cond_true, cond_false, if_true, if_false, reduceIte, Bool.false_eq_true]; done) | simp [h68, h70, h72]), trivial⟩ .slnil)
   refine wc_cond (b := ((!(decide ((childE (List.take (Int.toNat (lastB p 46)) p) (parseV (List.drop (Int.toNat ((lastB p 46) + 1)) p))) = (0)))) || (!(decide (((childV (List.take (Int.toNat (lastB p 46)) p) (parseV (List.drop (Int.toNat ((lastB p 46) + 1)) p)))) = (p)))))) rfl (fun h74 => ?_) (fun h74 => ?_)
   ·have g74 := h74; try simp only [decide_eq_true_eq, decide_eq_false_iff_not] at g74
    have f74 := h74; try simp at f74
    refine wc_seq (wc_region (wl_v (o_assign rfl) rfl (wl_v (o_assign rfl) rfl (wl_v (o_assign rfl) rfl (wl_nil (wk_then (wc_of_wk ?_)))))))
    refine wc_ret (wk_then_ret (wk_ret (r_3 rfl rfl rfl rfl) ?_))
    have hr : parOk p = false := by simp only [parOk, parP, parN]; grind
    exact retv (by simp only [hr, iff0, parP, parN]; rfl)
   ·have g74 := h74; try simp only [decide_eq_true_eq, decide_eq_false_iff_not] at g74
    have f74 := h74; try simp at f74
    refine wc_skip (wk_then (wc_of_wk ?_))
    refine wc_seq (wc_region (wl_v (o_move rfl) rfl (wl_v (o_move rfl) rfl (wl_v (o_slice_hi Tryd.underlying9 rfl rfl (by first | omega | (simp; omega)) (by first | omega | (simp; omega))) rfl (wl_v (o_move rfl) rfl (wl_v (o_assign rfl) rfl (wl_v (o_assign rfl) rfl (wl_v (o_assign rfl) rfl (wl_nil (wk_then (wc_of_wk ?_)))))))))))
    refine wc_ret (wk_ret (r_3 rfl rfl rfl rfl) ?_)
    have hr : parOk p = true := by simp only [parOk, parP, parN]; grind
    exact retv (by simp only [hr, iff0, parP, parN]; rfl)

end Go.Proofs.YtpmiamphppcfeaaDoor

/-
 Contracts of the library at this translation, in plain words (lay-plain.mjs), those that are used here.
-/
namespace Go.Proofs
open Go.Shelf
def Tryd.lays169_ren : Go.Shelf.Ren := ⟨fun | 169 => 30 | n => n, fun | 70 => 62 | 9 => 9 | 0 => 0 | 72 => 65 | 37 => 63 | 127 => 88 | 3 => 3 | 5 => 5 | n => n, fun | n => n⟩

theorem Tryd.lays169 : Go.Proofs.Lays.n169 Tryd.prog Tryd.lays169_ren := {
 mixed := by kernel_rfl
 f169 := Tryd.func30.trans (congrArg some (by kernel_rfl))
 t0 := Tryd.underlying0
 a0 := Tryd.isAgg0
 z0 := Tryd.sizeOf0
 v0 := Tryd.zeroValue0
 t3 := Tryd.underlying3
 a3 := Tryd.isAgg3
 z3 := Tryd.sizeOf3
 v3 := Tryd.zeroValue3
 t9 := Tryd.underlying9
 a9 := Tryd.isAgg9
 z9 := Tryd.sizeOf9
 v9 := Tryd.zeroValue9
 t37 := Tryd.underlying63
 a37 := Tryd.isAgg63
 z37 := Tryd.sizeOf63
 v37 := Tryd.zeroValue63
 t70 := Tryd.underlying62
 a70 := Tryd.isAgg62
 z70 := Tryd.sizeOf62
 v70 := Tryd.zeroValue62
 t72 := Tryd.underlying65
 a72 := Tryd.isAgg65
 z72 := Tryd.sizeOf65
 v72 := Tryd.zeroValue65
 t127 := Tryd.underlying88
 a127 := Tryd.isAgg88
 z127 := Tryd.sizeOf88
 v127 := Tryd.zeroValue88 }

theorem Tryd.Builder_Extra_169 : Builder.Extra Tryd.prog Tryd.lays169_ren := {
 sizeBuilder := by kernel_rfl
 liesBuilder := by kernel_rfl
 t5 := Tryd.underlying5
 a5 := Tryd.isAgg5
 z5 := Tryd.sizeOf5
 v5 := Tryd.zeroValue5
 infoByte := by kernel_rfl
 cellsByte := by kernel_rfl
 sizeByte := by kernel_rfl
 neB5 := by decide }

open Go.RowKit in
theorem Tryd.Builder_String_any (B b : Nat) (l : List UInt8) (w : World) (h : Lib.IsBuilder 65 5 B b (Lib.byteCells l) w) (hBw : B ≤ w.heap.size) :
  Calls Tryd.prog 30 #[.pointer (some ⟨b, 0, none⟩)] w fun e w' => e = .returned (.string ⟨l.toArray⟩) ∧ Below B w w' := Any.Builder_String_any Tryd.lays169 Tryd.Builder_Extra_169 B b l w h hBw

def Tryd.lays106_ren : Go.Shelf.Ren := ⟨fun | 106 => 28 | 213 => 40 | 265 => 59 | n => n, fun | 9 => 9 | 3 => 3 | n => n, fun | n => n⟩

theorem Tryd.lays106 : Go.Proofs.Lays.n106 Tryd.prog Tryd.lays106_ren := {
 mixed := by kernel_rfl
 f106 := Tryd.func28.trans (congrArg some (by kernel_rfl))
 f213 := Tryd.func40.trans (congrArg some (by kernel_rfl))
 f265 := Tryd.func59.trans (congrArg some (by kernel_rfl))
 t3 := Tryd.underlying3
 a3 := Tryd.isAgg3
 z3 := Tryd.sizeOf3
 v3 := Tryd.zeroValue3
 t9 := Tryd.underlying9
 a9 := Tryd.isAgg9
 z9 := Tryd.sizeOf9
 v9 := Tryd.zeroValue9 }

open Go.RowKit in
theorem Tryd.strings_Compare (a b : ByteArray) (w : World) :
  Calls Tryd.prog 28 #[.string a, .string b] w fun e w' => e = .returned (.int .i64 (Lib.compareBytes a.data.toList b.data.toList)) ∧ w' = w := Any.strings_Compare Tryd.lays106 a b w

def Tryd.lays138_ren : Go.Shelf.Ren := ⟨fun | 138 => 70 | 195 => 80 | 218 => 81 | 143 => 82 | 219 => 90 | 217 => 93 | 225 => 94 | 224 => 95 | 267 => 96 | 266 => 97 | 314 => 98 | n => n, fun | 9 => 9 | 3 => 3 | 4 => 4 | 5 => 5 | 0 => 0 | 46 => 68 | 146 => 135 | 51 => 125 | n => n, fun | 1 => 0 | n => n⟩

theorem Tryd.lays138 : Go.Proofs.Lays.n138 Tryd.prog Tryd.lays138_ren := {
 mixed := by kernel_rfl
 f138 := Tryd.func70.trans (congrArg some (by kernel_rfl))
 f143 := Tryd.func82.trans (congrArg some (by kernel_rfl))
 f195 := Tryd.func80.trans (congrArg some (by kernel_rfl))
 f217 := Tryd.func93.trans (congrArg some (by kernel_rfl))
 f218 := Tryd.func81.trans (congrArg some (by kernel_rfl))
 f219 := Tryd.func90.trans (congrArg some (by kernel_rfl))
 f224 := Tryd.func95.trans (congrArg some (by kernel_rfl))
 f225 := Tryd.func94.trans (congrArg some (by kernel_rfl))
 f266 := Tryd.func97.trans (congrArg some (by kernel_rfl))
 f267 := Tryd.func96.trans (congrArg some (by kernel_rfl))
 f314 := Tryd.func98.trans (congrArg some (by kernel_rfl))
 t0 := Tryd.underlying0
 a0 := Tryd.isAgg0
 z0 := Tryd.sizeOf0
 v0 := Tryd.zeroValue0
 t3 := Tryd.underlying3
 a3 := Tryd.isAgg3
 z3 := Tryd.sizeOf3
 v3 := Tryd.zeroValue3
 t4 := Tryd.underlying4
 a4 := Tryd.isAgg4
 z4 := Tryd.sizeOf4
 v4 := Tryd.zeroValue4
 t5 := Tryd.underlying5
 a5 := Tryd.isAgg5
 z5 := Tryd.sizeOf5
 v5 := Tryd.zeroValue5
 t9 := Tryd.underlying9
 a9 := Tryd.isAgg9
 z9 := Tryd.sizeOf9
 v9 := Tryd.zeroValue9
 t46 := Tryd.underlying68
 a46 := Tryd.isAgg68
 z46 := Tryd.sizeOf68
 v46 := Tryd.zeroValue68
 t51 := Tryd.underlying125
 a51 := Tryd.isAgg125
 z51 := Tryd.sizeOf125
 v51 := Tryd.zeroValue125
 t146 := Tryd.underlying135
 a146 := Tryd.isAgg135
 z146 := Tryd.sizeOf135
 v146 := Tryd.zeroValue135
 g1 := by kernel_rfl }

open Go.RowKit Go.Lib in
theorem Tryd.strings_Count_one (s : ByteArray) (c : UInt8) (w : World) :
  Calls Tryd.prog 70 #[.string s, .string ⟨#[c]⟩] w fun e w' => e = .returned (.int .i64 (Lib.countByte s.data.toList c)) ∧ w' = w := Any.strings_Count_one Tryd.lays138 s c w
end Go.Proofs

/-
 The plain laws of ident: a reference's parts come back, a child's parent comes back, what covers covers. No program in sight.
-/
namespace Go.Proofs.YtpmiamphppcfeaaDoor
open Go
set_option linter.unusedVariables false
set_option linter.unusedSimpArgs false
/-! ### Cuts -/
theorem all_mem {f : Nat → UInt8 → Bool} : ∀ {l : List UInt8} {i : Nat}, allFrom f i l = true → ∀ u ∈ l, ∃ j, f j u = true
 | [], _, _, u, hu => by simp at hu
 | x :: r, i, h, u, hu => by
  simp only [allFrom, Bool.and_eq_true] at h
  rcases List.mem_cons.1 hu with rfl | hu
  ·exact ⟨i, h.1⟩
  ·exact all_mem h.2 u hu
theorem all_of {f : Nat → UInt8 → Bool} : ∀ {l : List UInt8} {i : Nat}, (∀ j, ∀ u ∈ l, f j u = true) → allFrom f i l = true
 | [], _, _ => rfl
 | x :: r, i, h => by simp only [allFrom, Bool.and_eq_true]; exact ⟨h i x (by simp), all_of fun j u hu => h j u (by simp [hu])⟩
/-! ### Numerals -/
theorem pu_snoc : ∀ (l : List UInt8) (acc v : Nat) (c : UInt8), Lib.parseUint10 acc l = .ok v → 48 ≤ c.toNat → c.toNat ≤ 57 → v < 1844674407370955161 → Lib.parseUint10 acc (l ++ [c]) = .ok (v * 10 + (c.toNat - 48))
 | [], acc, v, c, h, h0, h1, hv => by
  simp only [Lib.parseUint10, Lib.NumEnd.ok.injEq] at h; subst h
  simp only [List.nil_append, Lib.parseUint10]
  rw [if_pos ⟨h0, h1⟩, if_neg (by omega), if_neg (by omega)]
 | x :: r, acc, v, c, h, h0, h1, hv => by
  simp only [List.cons_append, Lib.parseUint10] at h ⊢
  split at h
  ·rename_i hx
   rw [if_pos hx]
   split at h
   ·cases h
   ·rename_i hy
    rw [if_neg hy]
    split at h
    ·cases h
    ·rename_i hz
     rw [if_neg hz]
     exact pu_snoc r _ v c h h0 h1 hv
  ·cases h
theorem of_dig {d : Nat} (h : d < 10) : (UInt8.ofNat (48 + d)).toNat = 48 + d := by
 simp [UInt8.toNat_ofNat']; omega
theorem dec_all (u : Nat) : ∀ c ∈ Lib.decDigits u, 48 ≤ c.toNat ∧ c.toNat ≤ 57 := by
 induction u using Nat.strongRecOn with
 | ind u ih =>
  intro c hc
  rw [Lib.decDigits] at hc
  split at hc
  ·simp only [List.mem_singleton] at hc
   subst hc; rw [of_dig (by omega)]; omega
  ·rcases List.mem_append.1 hc with hc | hc
   ·exact ih (u / 10) (by omega) c hc
   ·simp only [List.mem_singleton] at hc
    subst hc; rw [of_dig (by omega)]; omega
theorem dec_parse (u : Nat) : u < 18446744073709551610 → Lib.parseUint10 0 (Lib.decDigits u) = .ok u := by
 induction u using Nat.strongRecOn with
 | ind u ih =>
  intro hu
  rw [Lib.decDigits]
  split
  ·rename_i h
   simp only [Lib.parseUint10]
   rw [of_dig h, if_pos (by omega), if_neg (by omega), if_neg (by omega)]
   congr 1; omega
  ·rename_i h
   have := pu_snoc (Lib.decDigits (u / 10)) 0 (u / 10) (UInt8.ofNat (48 + u % 10)) (ih (u / 10) (by omega) (by omega)) (by rw [of_dig (by omega)]; omega) (by rw [of_dig (by omega)]; omega) (by omega)
   rw [this, of_dig (by omega)]
   congr 1; omega
theorem dec_ne (u : Nat) : Lib.decDigits u ≠ [] := by
 rw [Lib.decDigits]; split <;> simp
theorem dec_first (u : Nat) : 1 ≤ u → bat (Lib.decDigits u) 0 ≠ 48 := by
 induction u using Nat.strongRecOn with
 | ind u ih =>
  intro hu
  rw [Lib.decDigits]
  split
  ·rename_i h
   have := of_dig h
   simp only [bat, Int.toNat_zero, List.getElem?_cons_zero, Option.getD_some]
   rw [this]; omega
  ·rename_i h
   have h1 := ih (u / 10) (by omega) (by omega)
   have hne := dec_ne (u / 10)
   unfold bat at h1 ⊢
   rw [show (0 : Int).toNat = 0 from rfl] at h1 ⊢
   rwa [List.getElem?_append_left (by cases hd : Lib.decDigits (u / 10) with | nil => exact absurd hd hne | cons => simp)]
theorem dec_one (u : Nat) (h : u < 10) : Lib.decDigits u = [UInt8.ofNat (48 + u)] := by rw [Lib.decDigits]; simp [h]
theorem itoa_dec {m : Int} (h0 : 0 ≤ m) : Lib.itoa m = Lib.decDigits m.toNat := by
 have := Lib.itoa_nonneg m.toNat
 rwa [show ((m.toNat : Nat) : Int) = m from by omega] at this
theorem itoa_back {m : Int} (h0 : 0 ≤ m) (h1 : m ≤ 1000000000000) : parseE (Lib.itoa m) = 0 ∧ parseV (Lib.itoa m) = m := by
 rw [itoa_dec h0]
 generalize hu : m.toNat = u
 have hub : u ≤ 1000000000000 := by omega
 have hall := dec_all u
 have hne := dec_ne u
 have hd0 : ∃ c r, Lib.decDigits u = c :: r := by cases h : Lib.decDigits u with | nil => exact absurd h hne | cons c r => exact ⟨c, r, rfl⟩
 obtain ⟨c, r, hcr⟩ := hd0
 have hc : 48 ≤ c.toNat ∧ c.toNat ≤ 57 := hall c (by simp [hcr])
 have hs : sgnS (Lib.decDigits u) = false := by
  rw [hcr]
  have e : bat (c :: r) 0 = c.toNat := rfl
  simp only [sgnS, e, Bool.and_eq_false_iff, decide_eq_false_iff_not]
  right; omega
 have hdg : digs (Lib.decDigits u) = Lib.decDigits u := by simp [digs, hs]
 have hdec : decS (Lib.decDigits u) = true := by
  simp only [decS, hdg]
  have h2 : allFrom digCh 0 (Lib.decDigits u) = true := all_of fun j x hx => by
   have := hall x hx
   simp [digCh]; omega
  rw [h2]
  have h3 : decide (Lib.decDigits u = []) = false := by simpa using hne
  rw [h3]
  by_cases hz : u = 0
  ·subst hz; rw [dec_one 0 (by omega)]; rfl
  ·have := dec_first u (by omega)
   simp [this]
 have hat : Lib.atoiAll (Lib.decDigits u) = .ok (u : Int) := by
  have h4 := dec_parse u (by omega)
  rw [hcr] at h4 ⊢
  rw [Lib.atoiAll_plain c r (by omega) (by omega)]
  have : Lib.parseMag (c :: r) = .ok u := by unfold Lib.parseMag; rw [if_neg (by simp)]; exact h4
  rw [this]
  simp only [Lib.signless]
  rw [if_neg (by omega)]
 have hv : validS (u : Int) = true := by simp [validS]; omega
 simp only [parseE, parseV, hdec, if_true, hat, hv]
 exact ⟨trivial, by omega⟩
/-! ### Children -/
theorem lastIx_skip (p : List UInt8) (m : Int) : ∀ (k j : Nat), (∀ i, j ≤ i → i < k → bat p i ≠ m) → j ≤ k → lastIx p m k = lastIx p m j
  | 0, j, _, hjk => by have : j = 0 := by omega
                       subst this; rfl
  | k + 1, j, h, hjk => by
    by_cases e : j = k + 1
    · subst e; rfl
    · rw [lastIx, if_neg (h k (by omega) (by omega))]
      exact lastIx_skip p m k j (fun i h1 h2 => h i h1 (by omega)) (by omega)
theorem last_mid (a b : List UInt8) (c : UInt8) (h : c ∉ b) : lastB (a ++ [c] ++ b) c.toNat = a.length := by
 unfold lastB
 have hb : ∀ i : Nat, a.length + 1 ≤ i → i < (a ++ [c] ++ b).length → bat (a ++ [c] ++ b) i ≠ c.toNat := fun i h1 h2 e => by
  have hg : (a ++ [c] ++ b)[i]? = b[i - (a.length + 1)]? := by rw [List.getElem?_append_right (by simpa using h1)]; simp
  have hlt : i - (a.length + 1) < b.length := by simp at h2; omega
  unfold bat at e
  rw [show ((i : Int)).toNat = i from by omega, hg, List.getElem?_eq_getElem hlt] at e
  simp only [Option.getD_some] at e
  have : b[i - (a.length + 1)] = c := UInt8.toNat_inj.1 (by omega)
  exact h (this ▸ List.getElem_mem hlt)
 rw [lastIx_skip _ _ _ (a.length + 1) hb (by simp), lastIx, if_pos]
 simp [bat]
theorem back_child {id : List UInt8} {m : Int} (h : childE id m = 0) : parOk (childV id m) = true ∧ parP (childV id m) = id ∧ parseV (parN (childV id m)) = m ∧ idS (childV id m) = true := by
 have hk : idS id = true ∧ (0 ≤ m ∧ m ≤ 1000000000000) ∧ (childL id m).length ≤ 64 := by
  unfold childE at h
  split at h
  ·split at h
   ·split at h
    ·exact ⟨by assumption, by assumption, by assumption⟩
    ·omega
   ·omega
  ·omega
 obtain ⟨h1, ⟨h2, h3⟩, h4⟩ := hk
 have hv : childV id m = id ++ [46] ++ Lib.itoa m := by simp [childV, h, childL]
 have hdig : ∀ c ∈ Lib.itoa m, 48 ≤ c.toNat ∧ c.toNat ≤ 57 := by rw [itoa_dec h2]; exact dec_all _
 have hl : lastB (childV id m) 46 = id.length := by
  rw [hv]
  exact last_mid id (Lib.itoa m) 46 (fun hm => by have := hdig _ hm; simp at this)
 have e1 : parP (childV id m) = id := by unfold parP; rw [hl, hv]; simp
 have e2 : parN (childV id m) = Lib.itoa m := by
  unfold parN; rw [hl, hv, show ((id.length : Int) + 1).toNat = id.length + 1 from by omega]; simp
 obtain ⟨b1, b2⟩ := itoa_back h2 h3
 refine ⟨?_, e1, by rw [e2]; exact b2, ?_⟩
 ·simp only [parOk, e1, e2, b1, b2, h, hl]
  simp
 ·have hs := h1
  simp only [idS, Bool.and_eq_true] at hs ⊢
  refine ⟨⟨all_of fun j u hu => ?_, ?_⟩, ?_⟩
  ·rw [hv] at hu
   rcases List.mem_append.1 hu with hu | hu
   ·rcases List.mem_append.1 hu with hu | hu
    ·obtain ⟨i, hi⟩ := all_mem hs.1.1 u hu; exact hi
    ·simp only [List.mem_singleton] at hu; subst hu; show letterS 46 = true; decide
   ·have := hdig u hu
    simp [idCh, letterS, digitS, smallS]; omega
  ·rw [hv]; simp; omega
  ·rw [hv]; simpa [childL] using h4
/-! ### Patterns -/
end Go.Proofs.YtpmiamphppcfeaaDoor

/-
 The reference's ways to the plain functions of ident. No program in sight.
-/
namespace Go.Proofs.YtpmiamphppcfeaaDoor
open Go
set_option linter.unusedVariables false
set_option linter.unusedSimpArgs false
/-! ### Visits of bytes, one after the other -/
/-! ### Name -/
/-! ### ID -/
/-! ### Pattern -/
/-! ### Matches, Covers -/
/-! ### faasref01.form, faasref01.Parse -/
/-! ### find, ParseRef -/
/-! ### faasref01.Format -/
/-! ### Parent -/
end Go.Proofs.YtpmiamphppcfeaaDoor

/-
 Quotients and remainders. Plain theorems over any program; no condition.
-/
namespace Go.Proofs.YtpmiamphppcfeaaDoor
open Go Go.RowKit
set_option linter.unusedVariables false
section
variable {P : Program} {n : Nat} {w0 : World} {M : List Nat} {l : Fr} {H : List Ent} {d : Option Nat} {x y : Operand} {ty t t' : TypeId} {pos : String} {af : Array Edge} {g : Option (Nat × Bool)} {k : IntKind} {p q z : Int}
end
end Go.Proofs.YtpmiamphppcfeaaDoor

/-
 Walks, printed by a small program of ours (gsym.py).
-/
namespace Go.Proofs.YtpmiamphppcfeaaDoor
open Go Go.RowKit
set_option linter.unusedVariables false
set_option linter.unusedSimpArgs false
set_option maxRecDepth 100000

end Go.Proofs.YtpmiamphppcfeaaDoor

/-
 The library's contracts, and num's, in the words of the calculus. Plain theorems over the seat's program; no condition.
-/
namespace Go.Proofs.YtpmiamphppcfeaaDoor.Q
open Go Go.RowKit
set_option linter.unusedVariables false
def GE (Z : Fz) : Prop := ∀ w, Frz Z w → Env w
theorem GE.mono {Z Z' : Fz} (h : Fz.le Z Z') (hg : GE Z) : GE Z' := fun w hw => hg w (fun b o e => hw b o (h b o e))
theorem Fn0.rle {P : Program} {E : Fz → Prop} {f : FuncId} {args : List Rp} {r r' : Rp} (h : Fn0 P E f args r) (hr : Rle r r') : Fn0 P E f args r' := fun w Z vs hv hs =>
 (h w Z vs hv hs).mono fun e w' ⟨q, v, H, Z', he, ⟨hq, hH⟩, hp, ht⟩ => ⟨r', v, H, Z', he, ⟨rfl, hH⟩, hr Z' v (hq ▸ hp), ht⟩
theorem Rle.tup2 {a b : Value} : Rle (rv (.tuple #[a, b])) (rTup [rv a, rv b]) := fun Z v h => ⟨[a, b], h, rfl, rfl, trivial⟩
theorem Fn0.of_id {P : Program} {E : Fz → Prop} {f : FuncId} {vs : List Value} {v : Value} (h : ∀ w, Calls P f vs.toArray w (fun e w' => e = .returned v ∧ w' = w)) : Fn0 P E f (vs.map rv) (rv v) :=
 Fn0.of_old fun w Z _ _ => (h w).mono fun e w' ⟨he, hw⟩ => ⟨he, by rw [hw]; exact Proofs.YtpmiamphppcfeaaDoor.St.refl w []⟩
theorem format_q (m : Int) (g : inK .i64 m = true) : Fn0 Tryd.prog GE 17 [rI .i64 m] (rS (Lib.itoa m)) := Fn0.of_old (vs := [.int .i64 m]) fun w Z hf he => format_c m (inK_i64 g).1 (inK_i64 g).2 w (he w hf)
theorem parse_q (s : Str) (g : inA 1 s.length = true) : Fn0 Tryd.prog GE 20 [rS s] (rTup [rI .i64 (parseV s), rI .i64 (parseE s)]) := (Fn0.of_old (vs := [.string (B s)]) fun w Z hf he => parse_c s (by simp [inA] at g; omega) w (he w hf)).rle Rle.tup2
theorem count_q (s : Str) (c : UInt8) : Fn0 Tryd.prog GE 70 [rS s, rS [c]] (rI .i64 (Lib.countByte s c)) := Fn0.of_id (vs := [.string (B s), .string (B [c])]) fun w => by have := Tryd.strings_Count_one (B s) c w; rwa [B_data] at this
theorem compare_q (a b : Str) : Fn0 Tryd.prog GE 28 [rS a, rS b] (rI .i64 (Lib.compareBytes a b)) := Fn0.of_id (vs := [.string (B a), .string (B b)]) fun w => by have := Tryd.strings_Compare (B a) (B b) w; rwa [B_data, B_data] at this
theorem Rle.tup3 {a b c : Value} : Rle (rv (.tuple #[a, b, c])) (rTup [rv a, rv b, rv c]) := fun Z v h => ⟨[a, b, c], h, rfl, rfl, rfl, trivial⟩
theorem id_q (s : Str) : Fn0 Tryd.prog GE 23 [rS s] (rB (idS s)) := Fn0.of_old (vs := [.string (B s)]) fun w Z hf he => id_c s w
theorem child_q (s : Str) (m : Int) (g : inA 1 s.length = true) (gm : inK .i64 m = true) : Fn0 Tryd.prog GE 25 [rS s, rI .i64 m] (rTup [rS (childV s m), rI .i64 (childE s m)]) := (Fn0.of_old (vs := [.string (B s), .int .i64 m]) fun w Z hf he => child_c s m (by simp [inA] at g; omega) w (he w hf)).rle Rle.tup2
theorem parent_q (s : Str) (g : inA 1 s.length = true) : Fn0 Tryd.prog GE 27 [rS s] (rTup [rS (iff0 (parOk s) (parP s)), rI .i64 (if parOk s = true then parseV (parN s) else (0 : Int)), rB (parOk s)]) := (Fn0.of_old (vs := [.string (B s)]) fun w Z hf he => parent_c s (by simp [inA] at g; omega) w (he w hf)).rle Rle.tup3
end Go.Proofs.YtpmiamphppcfeaaDoor.Q

/-
 A strings.Builder of one's own: its entry, the operations of its methods; closures called; texts made of bytes. Plain theorems over any program; no condition.
-/
namespace Go.Proofs.YtpmiamphppcfeaaDoor.Q
open Go Go.RowKit
set_option linter.unusedVariables false
set_option linter.unusedSimpArgs false
theorem toI_cells (l : List UInt8) : ((toI l).map eI_u8).flatten = (l.map fun c => Value.int .u8 c.toNat).map rv := by
 induction l with
 | nil => rfl
 | cons c r ih => simp only [toI, List.map_cons, List.flatten_cons] at ih ⊢; rw [ih]; rfl
theorem toI_len (l : List UInt8) : (toI l).length = l.length := by simp [toI]
theorem run_append_str_st {P : Program} {w : World} {t t' e : TypeId} {inf : TypeInfo} {v : Value} {m : Nat} {us : List Value} {s : List UInt8} (ty : TypeId) (ht : P.underlying t = some (.slice e)) (hu : P.underlying t' = some .string) (hinf : P.info? e = some inf) (hz : inf.zero = some (.int .u8 0)) (hsize : inf.size = 1) (hby : inf.bytes = 1)
  (hown : w.ownsRow 0 e 1 v m us) (hb : m + s.length ≤ 140737488355328) :
  ∃ v' w', (Builtin.append_ #[t, t'] ty #[v, .string (B s)]).run P w = .ok v' w' ∧ w'.ownsRow 0 e 1 v' (m + s.length) (us ++ s.map fun c => Value.int .u8 c.toNat) ∧ w.grownBy w' v.ownBlock ∧ (v'.ownBlock = v.ownBlock ∨ ∀ b, v'.ownBlock = some b → w.heap.size ≤ b) := by
 have hsz : (B s).size = s.length := B_size s
 have hcells : Lib.strCells (B s) = s.map fun c => Value.int .u8 c.toNat := by simp [Lib.strCells, B]
 rcases hown.2 with ⟨rfl, rfl⟩ | ⟨g, cap, cur, rfl, hbg, hg, hnc, hcm, hcs, htake⟩
 ·have hx : us = [] := List.eq_nil_of_length_eq_zero (by simpa using hown.1)
  subst hx
  obtain ⟨v', w', e1, e2, e3, _⟩ := Lib.run_append_own_string (P := P) (w := w) w.heap.size t t' ty e inf ht hu hinf hz hsize hby (.slice none 0 0) 0 [] (World.ownsRow_nil w _ e 1) (B s) (by rw [hsz]; simp only [maxLen]; omega) (by rw [hsz]; omega) (Nat.le_refl _)
  rw [hsz, hcells] at e2
  refine ⟨v', w', e1, ⟨e2.1, ?_⟩, e3, .inr fun b hb => (e2.lt b hb).1⟩
  rcases e2.2 with h | ⟨g, cap, cur, h, _, rest⟩
  ·exact .inl h
  ·exact .inr ⟨g, cap, cur, h, Nat.zero_le _, rest⟩
 ·obtain ⟨v', w', e1, e2, e3, _⟩ := Lib.run_append_own_string (P := P) (w := w) 0 t t' ty e inf ht hu hinf hz hsize hby _ m us hown (B s) (by rw [hsz]; simp only [maxLen]; omega) (by rw [hsz]; omega) (Nat.zero_le _)
  rw [hsz, hcells] at e2
  refine ⟨v', w', e1, e2, e3, ?_⟩
  by_cases hroom : m + (B s).size ≤ cap
  ·have hr := Lib.run_append_room_string (P := P) w t t' ty e inf ht hu hinf hsize g m cap cur hg (B s) hroom (by simp at hcs; omega)
   rw [hr] at e1
   simp only [Result.ok.injEq] at e1
   rw [← e1.1]; exact .inl rfl
  ·have holds : ∀ j u, us[j]? = some u → w.cell? ((⟨g, 0, none⟩ : Addr).add j) = some u := hown.cells (g := g) rfl
   have hr := Lib.run_append_grow_string (P := P) w t t' ty e inf (.int .u8 0) ht hu hinf hz ⟨g, 0, none⟩ m cap us (by rw [hsize]; exact hown.1) holds (B s) (by omega) (by rw [hsz]; omega) (by rw [hby]; exact growslice_fits (by omega) (by rw [hsz]; omega))
   rw [hr] at e1
   simp only [Result.ok.injEq] at e1
   rw [← e1.1]; exact .inr fun b hb => by simp [Value.ownBlock] at hb; omega
section
variable {P : Program} {n : Nat} {c : Cx} {ops : Array Oper} {Q : Exit → Act → World → Prop} {rest : List Oper} {l : Fr} {H H' : List Ent} {d : Nat} {d' : Option Nat} {x y z3 : Operand} {ty t t' e : TypeId} {pos : String} {af : Array Edge} {g : Option (Nat × Bool)} {v u : Value} {r : Rp} {sz : Nat} {K : Act → World → Prop}
theorem St.tobld {Z : Fz} {w : World} (h : St c H Z w) {i b : Nat} {te T : TypeId} (hi : H[i]? = some (.blk b [rv (.pointer none), rv (.slice none 0 0)] T)) : St c (H.set i (.bld T te b (.slice none 0 0) [])) Z w := by
 refine h.set hi rfl rfl rfl (Nat.le_refl _) (fun _ _ _ => rfl) ?_ (by simp [Ent.foot, Value.ownBlock])
 obtain ⟨us, h1, h2⟩ := h.ent hi
 have := RpAll.eq_rv (us := [.pointer none, .slice none 0 0]) h2
 subst this
 exact ⟨_, .inl rfl, h1, ⟨by simp, .inl ⟨rfl, rfl⟩⟩, by simp [Value.ownBlock]⟩
theorem WK.tobld {i b : Nat} {te T : TypeId} (hi : H[i]? = some (.blk b [rv (.pointer none), rv (.slice none 0 0)] T)) (h : WK n c K l (H.set i (.bld T te b (.slice none 0 0) []))) : WK n c K l H := fun a w Z ha hw => h a w Z ha (St.tobld hw hi)
theorem WL.tobld {i b : Nat} {te T : TypeId} (hi : H[i]? = some (.blk b [rv (.pointer none), rv (.slice none 0 0)] T)) (h : WL P n c ops Q rest l (H.set i (.bld T te b (.slice none 0 0) []))) : WL P n c ops Q rest l H := fun a w Z ha hw => h a w Z ha (St.tobld hw hi)
theorem WC.tobld {xx : Code} {i b : Nat} {te T : TypeId} (hi : H[i]? = some (.blk b [rv (.pointer none), rv (.slice none 0 0)] T)) (h : WC P n c xx Q l (H.set i (.bld T te b (.slice none 0 0) []))) : WC P n c xx Q l H := fun a w Z ha hw => h a w Z ha (St.tobld hw hi)
theorem Fn.bld {E : Fz → Prop} {f : FuncId} {args : List Rp} {T te : TypeId} {b : Nat} {v : Value} {s s' : List UInt8} {res : Rp}
  (h : ∀ p, (p = .pointer none ∨ p = .pointer (some ⟨b, 0, none⟩)) → Fn P E f args [.blk b [rv p, rv v] T, .row v te 1 ((toI s).map eI_u8)] (fun R H => ∃ w0 : Value, R = res ∧ H = [.blk b [rv (.pointer (some ⟨b, 0, none⟩)), rv w0] T, .row w0 te 1 ((toI s').map eI_u8)])) :
  Fn P E f args [.bld T te b v s] (fun R H => ∃ w0 : Value, R = res ∧ H = [.bld T te b w0 s']) := fun w Z vs hv hs => by
 obtain ⟨p, hp, h1, h2, h3⟩ := hs.has _ (List.mem_singleton.2 rfl)
 have hfoot : [Ent.bld T te b v s].flatMap Ent.foot = [Ent.blk b [rv p, rv v] T, Ent.row v te 1 ((toI s).map eI_u8)].flatMap Ent.foot := by simp [Ent.foot]
 have hs' : St ⟨w, Z, [Ent.blk b [rv p, rv v] T, Ent.row v te 1 ((toI s).map eI_u8)].flatMap Ent.foot, E⟩ [Ent.blk b [rv p, rv v] T, Ent.row v te 1 ((toI s).map eI_u8)] Z w := by
  refine ⟨rfl, rfl, rfl, Nat.le_refl _, fun _ _ _ => rfl, ?_, fun e he k hk => .inr (List.mem_flatMap.2 ⟨e, he, hk⟩), ?_, hs.frz, Fz.le.refl _, fun _ _ e => .inl e, fun e he k hk => ?_, hs.env, hs.emono⟩
  ·intro e he
   simp only [List.mem_cons, List.not_mem_nil, or_false] at he
   rcases he with rfl | rfl
   ·exact ⟨[p, v], h1, rfl, rfl, trivial⟩
   ·refine ⟨fun cl hcl => by obtain ⟨z, _, rfl⟩ := List.mem_map.1 hcl; rfl, _, by simpa [toI_len] using h2, ?_⟩
    rw [toI_cells]; exact RpAll.rvs Z _
  ·refine List.pairwise_cons.2 ⟨fun e he k hk hk' => ?_, List.pairwise_singleton ..⟩
   simp only [List.mem_singleton] at he; subst he
   simp only [Ent.foot, List.mem_singleton] at hk; subst hk
   simp only [Ent.foot, Option.mem_toList] at hk'
   exact h3 hk'
  ·have hmem : k ∈ [Ent.bld T te b v s].flatMap Ent.foot := by rw [hfoot]; exact List.mem_flatMap.2 ⟨e, he, hk⟩
   obtain ⟨e', he', hk'⟩ := List.mem_flatMap.1 hmem
   exact hs.zdis e' he' k hk'
 rw [hfoot] at hs ⊢
 refine (h p hp w Z vs hv hs').mono fun e w' ⟨R, vv, H, Z', he, ⟨w0, hR, hH⟩, hpR, ht⟩ => ⟨R, vv, [.bld T te b w0 s'], Z', he, ⟨w0, hR, rfl⟩, hpR, ?_⟩
 subst hH
 obtain ⟨us, k1, k2⟩ := ht.has (.blk b [rv (.pointer (some ⟨b, 0, none⟩)), rv w0] T) (by simp)
 obtain ⟨k3, ws, k4, k5⟩ := ht.has (.row w0 te 1 ((toI s').map eI_u8)) (by simp)
 have e1 := RpAll.eq_rv (us := [.pointer (some ⟨b, 0, none⟩), w0]) k2
 subst e1
 rw [toI_cells] at k5
 have e2 := RpAll.eq_rv k5
 subst e2
 have hd := List.pairwise_cons.1 ht.dis
 have hne : w0.ownBlock ≠ some b := fun hb => hd.1 _ (List.mem_singleton.2 rfl) b (by simp [Ent.foot]) (by simp [Ent.foot, hb])
 refine { ht with has := ?_, own := ?_, dis := List.pairwise_singleton .., zdis := ?_ }
 ·intro e' he'; simp only [List.mem_singleton] at he'; subst he'
  exact ⟨_, .inr rfl, k1, by simpa [toI_len] using k4, hne⟩
 ·intro e' he' k hk; simp only [List.mem_singleton] at he'; subst he'
  simp only [Ent.foot, List.mem_cons] at hk
  rcases hk with rfl | hk
  ·exact ht.own (.blk k [rv (.pointer (some ⟨k, 0, none⟩)), rv w0] T) (by simp) k (by simp [Ent.foot])
  ·exact ht.own (.row w0 te 1 ((toI s').map eI_u8)) (by simp) k hk
 ·intro e' he' k hk; simp only [List.mem_singleton] at he'; subst he'
  simp only [Ent.foot, List.mem_cons] at hk
  rcases hk with rfl | hk
  ·exact ht.zdis (.blk k [rv (.pointer (some ⟨k, 0, none⟩)), rv w0] T) (by simp) k (by simp [Ent.foot])
  ·exact ht.zdis (.row w0 te 1 ((toI s').map eI_u8)) (by simp) k hk
theorem Fn.bldS {E : Fz → Prop} {f : FuncId} {args : List Rp} {T te : TypeId} {b : Nat} {v : Value} {s : List UInt8} {res : Rp}
  (h : ∀ p, (p = .pointer none ∨ p = .pointer (some ⟨b, 0, none⟩)) → Fn P E f args [.blk b [rv p, rv v] T, .row v te 1 ((toI s).map eI_u8)] (fun R H => R = res ∧ H = [])) :
  Fn P E f args [.bld T te b v s] (fun R H => R = res ∧ H = []) := fun w Z vs hv hs => by
 obtain ⟨p, hp, h1, h2, h3⟩ := hs.has _ (List.mem_singleton.2 rfl)
 have hfoot : [Ent.bld T te b v s].flatMap Ent.foot = [Ent.blk b [rv p, rv v] T, Ent.row v te 1 ((toI s).map eI_u8)].flatMap Ent.foot := by simp [Ent.foot]
 have hs' : St ⟨w, Z, [Ent.blk b [rv p, rv v] T, Ent.row v te 1 ((toI s).map eI_u8)].flatMap Ent.foot, E⟩ [Ent.blk b [rv p, rv v] T, Ent.row v te 1 ((toI s).map eI_u8)] Z w := by
  refine ⟨rfl, rfl, rfl, Nat.le_refl _, fun _ _ _ => rfl, ?_, fun e he k hk => .inr (List.mem_flatMap.2 ⟨e, he, hk⟩), ?_, hs.frz, Fz.le.refl _, fun _ _ e => .inl e, fun e he k hk => ?_, hs.env, hs.emono⟩
  ·intro e he
   simp only [List.mem_cons, List.not_mem_nil, or_false] at he
   rcases he with rfl | rfl
   ·exact ⟨[p, v], h1, rfl, rfl, trivial⟩
   ·refine ⟨fun cl hcl => by obtain ⟨z, _, rfl⟩ := List.mem_map.1 hcl; rfl, _, by simpa [toI_len] using h2, ?_⟩
    rw [toI_cells]; exact RpAll.rvs Z _
  ·refine List.pairwise_cons.2 ⟨fun e he k hk hk' => ?_, List.pairwise_singleton ..⟩
   simp only [List.mem_singleton] at he; subst he
   simp only [Ent.foot, List.mem_singleton] at hk; subst hk
   simp only [Ent.foot, Option.mem_toList] at hk'
   exact h3 hk'
  ·have hmem : k ∈ [Ent.bld T te b v s].flatMap Ent.foot := by rw [hfoot]; exact List.mem_flatMap.2 ⟨e, he, hk⟩
   obtain ⟨e', he', hk'⟩ := List.mem_flatMap.1 hmem
   exact hs.zdis e' he' k hk'
 rw [hfoot] at hs ⊢
 exact h p hp w Z vs hv hs'

/-! ### Pointers -/
theorem o_pnil_n (hu : ∃ e', P.underlying t = some (.pointer e')) (hx : ev l x = some (rv (.pointer none))) : ORun P n c l H { dst := d', op := .binOp .eql t x (.const (.pointer none)) t', type := ty, pos := pos, after := af, guard := g } (rB true) := fun a w Z ha _ => o_mk <| by
 obtain ⟨e', hu⟩ := hu
 have h1 : ∀ dd : Nat, (Op.equalIn (dd + 1) t (.pointer none) (.pointer none)).run P w = .ok true w := fun dd => by simp [Op.equalIn, run_underlying hu]
 have h2 : (Op.equal t (.pointer none) (.pointer none)).run P w = .ok true w := h1 9999
 have h3 : (eqGuard .eql t x (.const (.pointer none)) (.pointer none) (.pointer none)).run P w = .ok () w := by unfold eqGuard; split <;> simp
 have hy : a.eval (.const (.pointer none)) = .pointer none := rfl
 simp only [execOp, ha.eval hx, hy, Sem.run_bind, h3, Result.andThen_ok, binOp, h2, Sem.run_pure]
theorem o_psame_ne {p : Addr} {te : TypeId} (hu : P.underlying t = some (.pointer te)) (hi : ∃ j, P.info? te = some j) (hx : ev l x = some (rv (.pointer (some p)))) (hy : ev l y = some (rv (.pointer (some p)))) : ORun P n c l H { dst := d', op := .binOp .neq t x y t', type := ty, pos := pos, after := af, guard := g } (rB false) := fun a w Z ha _ => o_mk <| by
 obtain ⟨j, hj⟩ := hi
 have h3 : (eqGuard .neq t x y (.pointer (some p)) (.pointer (some p))).run P w = .ok () w := by unfold eqGuard; split <;> simp
 simp only [execOp, ha.eval hx, ha.eval hy, Sem.run_bind, h3, Result.andThen_ok, Lib.run_neq_ptr_same w p hu hj, Sem.run_pure]
theorem shape_blk {w : World} {Z : Fz} {i b : Nat} {cs : List Rp} (hw : St c H Z w) (hi : H[i]? = some (.blk b cs e)) : w.shape? b = some (e, cs.length) := by
 obtain ⟨us, h1, h2⟩ := hw.ent hi
 simp [World.shape?, h1, h2.length]
theorem o_to_unsafe {i b : Nat} {cs : List Rp} {te : TypeId} (hs : P.underlying t = some (.pointer te)) (hd : P.underlying t' = some .unsafePointer) (hj : ∃ j, P.info? te = some j ∧ j.size ≠ 0) (hx : ev l x = some (rv (.pointer (some ⟨b, 0, none⟩)))) (hi : H[i]? = some (.blk b cs e)) (hl : Nat.blt 0 cs.length = true) :
  ORun P n c l H { dst := d', op := .convert t t' x, type := ty, pos := pos, after := af, guard := g } (rv (.pointer (some ⟨b, 0, none⟩))) := fun a w Z ha hw => o_mk <| by
 obtain ⟨j, hj1, hj2⟩ := hj
 have := Lib.run_to_unsafe (P := P) w ⟨b, 0, none⟩ hs hd hj1 hj2 (shape_blk hw hi) (by simpa using hl)
 simp [execOp, ha.eval hx, this]
theorem o_from_unsafe {i b : Nat} {cs : List Rp} {te : TypeId} (hs : P.underlying t = some .unsafePointer) (hd : P.underlying t' = some (.pointer te)) (hj : ∃ j, P.info? te = some j) (hx : ev l x = some (rv (.pointer (some ⟨b, 0, none⟩)))) (hi : H[i]? = some (.blk b cs e)) (hl : liesAt P P.depth e (cs.length / P.cellsOf e) 0 te 1 = true) :
  ORun P n c l H { dst := d', op := .convert t t' x, type := ty, pos := pos, after := af, guard := g } (rv (.pointer (some ⟨b, 0, none⟩))) := fun a w Z ha hw => o_mk <| by
 obtain ⟨j, hj1⟩ := hj
 have := Lib.run_from_unsafe (P := P) w ⟨b, 0, none⟩ hs hd hj1 (shape_blk hw hi) hl
 simp [execOp, ha.eval hx, this]
theorem o_noesc {f : FuncId} {fn : Func} {ats : Array TypeId} (hf : P.funcs[f]? = some fn) (hname : (fn.name == "runtime.NumGoroutine") = false) (hb : fn.body.isNone = true) (hn : Extern.findNext fn = none) (he : Extern.find fn = some Extern.AbiNoEscape.same) (hx : ev l x = some (rv v)) :
  ORun P n c l H { dst := d', op := .call { callee := .value (.func f), args := #[x], argTypes := ats }, type := ty, pos := pos, after := af, guard := g } (rv v) := fun a w Z ha hw => o_mk <| by
 have h1 := run_callFunc_extern (P := P) (w := w) (args := #[v]) hf hname hb hn he
 rw [Lib.run_noEscape] at h1
 simp only [execOp, resolve, Sem.run_bind, Sem.run_pure, Result.andThen_ok, Act.eval, Deferred.ofValue, invoke]
 simp only [List.map_toArray, List.map_cons, List.map_nil, ha.eval hx, Array.append_empty, Array.empty_append]
 simpa using h1

theorem pos_map {α : Type} {xs : List α} {enc : α → List Rp} (h : decide (0 < xs.length) = true) : decide (0 < (xs.map enc).length) = true := by simpa using h
section
variable {P : Program} {n : Nat} {c : Cx} {l : Fr} {H : List Ent} {d' : Option Nat} {x : Operand} {ty t t' e : TypeId} {pos : String} {af : Array Edge} {g : Option (Nat × Bool)} {v : Value}
theorem foldB : ∀ (ns : List Int) (p : List UInt8), ns.foldl (fun r n => r.push (UInt8.ofNat n.toNat)) (B p) = B (p ++ ofI ns)
 | [], p => by simp [ofI]
 | n :: ns, p => by
  have e : (B p).push (UInt8.ofNat n.toNat) = B (p ++ [UInt8.ofNat n.toNat]) := by simp [B, ByteArray.push]
  simp only [List.foldl_cons, e]
  rw [foldB ns]
  simp [ofI]
theorem eI_cells (xs : List Int) : (xs.map eI_u8).flatten = (xs.map fun c => Value.int .u8 c).map rv := by
 induction xs with
 | nil => rfl
 | cons a r ih => simp [eI_u8, ih]
theorem o_b2s {i : Nat} {xs : List Int} (hs : P.underlying t = some (.slice e)) (hd : P.underlying t' = some .string) (he : P.underlying e = some (.int .u8)) (hx : ev l x = some (rv v)) (hi : H[i]? = some (.row v e 1 (xs.map eI_u8))) :
  ORun P n c l H { dst := d', op := .convert t t' x, type := ty, pos := pos, after := af, guard := g } (rS (ofI xs)) := fun a w Z ha hw => by
 obtain ⟨_, us, ⟨h1, h2⟩, h3⟩ := hw.ent hi
 rw [eI_cells] at h3
 have e2 := RpAll.eq_rv h3
 subst e2
 refine ⟨.string (B (ofI xs)), rfl, ?_⟩
 have hlx := ha.eval hx
 rcases h2 with ⟨rfl, hz⟩ | ⟨b, cap, cur, rfl, _, hb, hcap, hm, hcs, htk⟩
 ·have hx0 : xs = [] := by simpa using hz
  subst hx0
  have := run_convert_bytes_string w t t' e none 0 0 hs he hd
  simp only [execOp, hlx]
  have e3 : (Conv.bytesToString (.slice none 0 0)).run P w = .ok (.string (B [])) w := rfl
  rw [e3] at this
  simp [this, ofI]
 ·simp only [List.length_map, Nat.mul_one] at htk hcap hcs h1
  have hld := run_loadCells_list (P := P) w ⟨b, 0, none⟩ (xs.map fun c => Value.int .u8 c) (fun j u hj => by
   rw [addm, Nat.zero_add, cell_of_row w b j cur e (0, 0) hb]
   rw [← htk, List.getElem?_take] at hj
   split at hj
   ·simpa using hj
   ·cases hj)
  rw [List.length_map] at hld
  have h4 := run_bytesToString w ⟨b, 0, none⟩ xs.length cap xs hld
  have h5 := run_convert_bytes_string w t t' e (some ⟨b, 0, none⟩) xs.length cap hs he hd
  have h6 := foldB xs []
  rw [h4, show ByteArray.empty = B [] from rfl, h6] at h5
  simp [execOp, hlx, h5]
end
/-! ### Bytes as a text -/
def slp : Value → Value
 | .slice a _ _ => .pointer a
 | v => v
theorem o_sliceData {i : Nat} {ts : Array TypeId} {xs : List (List Rp)} (hx : ev l x = some (rv v)) (hi : H[i]? = some (.row v e sz xs)) (hg : decide (0 < xs.length) = true) :
  ORun P n c l H { dst := d', op := .call { callee := .builtin .unsafeSliceData, args := #[x], argTypes := ts }, type := ty, pos := pos, after := af, guard := g } (rv (slp v)) := fun a w Z ha hw => o_mk <| by
 obtain ⟨_, us, ⟨_, h2⟩, _⟩ := hw.ent hi
 have h0 : 0 < xs.length := by simpa using hg
 rcases h2 with ⟨rfl, hz⟩ | ⟨b, cap, cur, rfl, _, _, hc, _⟩
 ·omega
 ·have := Lib.run_unsafeSliceData_row (P := P) w ts ty ⟨b, 0, none⟩ xs.length cap (by omega)
  simp [execOp, resolve, invoke, builtin, ha.eval hx, this, slp]
def VRun (P : Program) (n : Nat) (c : Cx) (l : Fr) (H : List Ent) (o : Oper) (r : Rp) (H' : List Ent) : Prop := ∀ a w Z, Agr n l a Z → St c H Z w → ∃ v w' Z', Fz.le Z Z' ∧ r.p Z' v ∧ (execOp a.eval o).run P w = .ok (.value v) w' ∧ St c H' Z' w'
theorem ok_w {opsA : Array Oper} {op : Op} (hr : VRun P n c l H { dst := some d, op := op, type := ty, pos := pos, after := af, guard := none } r H') : OpOk P n c opsA Q l H { dst := some d, op := op, type := ty, pos := pos, after := af, guard := none } r H' := fun a w Z K0 ha hw hK =>
 ⟨fun _ => by
  obtain ⟨v, w', Z', hz, hv, he, hs⟩ := hr a w Z ha hw
  unfold Oper.wp
  rw [he]
  exact hK v w' Z' hz hv hs, fun h => by simp [Region.wanted] at h⟩
theorem V_unsafeString {i : Nat} {pt it : TypeId} {s : List UInt8} (hp : P.underlying pt = some (.pointer e)) (hc : P.cellsOf e = 1) (hx : ev l x = some (rv (slp v))) (hy : ev l y = some (rI .i64 ((toI s).length : Int))) (hi : H[i]? = some (.row v e 1 ((toI s).map eI_u8))) (hg : decide (0 < ((toI s).map eI_u8).length) = true) (hH : H.eraseIdx i = H') :
  VRun P n c l H { dst := some d, op := .call { callee := .builtin .unsafeString, args := #[x, y], argTypes := #[pt, it] }, type := ty, pos := pos, after := af, guard := none } (rS s) H' := fun a w Z ha hw => by
 obtain ⟨_, us, ⟨h1, h2⟩, h3⟩ := hw.ent hi
 rw [toI_cells] at h3
 have e2 := RpAll.eq_rv h3
 subst e2
 have h0 : 0 < s.length := by simpa [toI_len] using hg
 rcases h2 with ⟨rfl, hz⟩ | ⟨b, cap, cur, rfl, _, hb, hcap, hm, hcs, htk⟩
 ·simp [toI_len] at hz; subst hz; simp at h0
 ·simp only [List.length_map, toI_len, Nat.mul_one] at htk hcap hcs h1
  have hus := Lib.run_unsafeString_row (P := P) w pt it ty e hp hc b cur.size (by simp [World.shape?, hb]) s (by intro e; subst e; simp at h0) (by omega) (by simp only [maxLen] at hm; omega) (fun j x hj => by
   rw [addm, Nat.zero_add, cell_of_row w b j cur e (0, 0) hb]
   have : (s.map fun c => Value.int .u8 c.toNat)[j]? = some (.int .u8 x.toNat) := by simp [hj]
   rw [← htk, List.getElem?_take] at this
   split at this
   ·simpa using this
   ·cases this)
  have hmem := List.mem_of_getElem? hi
  have hfr := hw.front hi
  have hd := List.pairwise_cons.1 hfr.dis
  have hst := hfr.sub (List.sublist_cons_self _ _)
  have hkeep : ∀ k, k ≠ b → (w.freeze ⟨b, 0, none⟩ s.length).heap[k]? = w.heap[k]? := fun k hk => by
   simp only [World.freeze]
   split
   ·rfl
   ·simp only [Array.getElem?_modify]
    rw [if_neg (fun e => hk e.symm)]
  have hzb : Z b = none := hw.zdis _ hmem b (by simp [Ent.foot, Value.ownBlock])
  refine ⟨.string ⟨s.toArray⟩, w.freeze ⟨b, 0, none⟩ s.length, Z, Fz.le.refl _, rfl, ?_, ?_⟩
  ·have hlx := ha.eval hx
   have hly := ha.eval hy
   rw [toI_len] at hly
   simp [execOp, resolve, invoke, builtin, hlx, hly, slp, hus]
  ·subst hH
   have hfz : ∀ (f : World → Prop), True := fun _ => trivial
   refine { hst with os := ?_, tape := ?_, output := ?_, size := ?_, old := fun k hk hkM => ?_, has := fun en he => ?_, frz := fun b' o hb' => ?_ }
   ·rw [← hst.os]; simp only [World.freeze]; split <;> rfl
   ·rw [← hst.tape]; simp only [World.freeze]; split <;> rfl
   ·rw [← hst.output]; simp only [World.freeze]; split <;> rfl
   ·refine Nat.le_trans hst.size ?_; simp only [World.freeze]; split <;> simp
   ·have hkb : k ≠ b := fun e => by
     subst e
     rcases hw.own _ hmem k (by simp [Ent.foot, Value.ownBlock]) with h4 | h4
     ·omega
     ·exact hkM h4
    rw [hkeep k hkb]; exact hst.old k hk hkM
   ·exact Ent.keep (hst.has en he) (Fz.le.refl _) fun k hk => hkeep k (fun e => hd.1 en he b (by simp [Ent.foot, Value.ownBlock]) (e ▸ hk))
   ·rw [hkeep b' (fun e => by subst e; rw [hzb] at hb'; cases hb')]; exact hst.frz b' o hb'
/-! ### Closures -/
theorem run_closure {f : FuncId} {args : List Operand} {ats : Array TypeId} {o : Oper} {a : Act} {caps : List Value} (ho : o.op = .call { callee := .value x, args := args.toArray, argTypes := ats }) (hx : a.eval x = .func (.func f) #[] caps.toArray)
  (hcall : ∀ (as1 : Array Value) (w : World), (callFunc f as1).run P w = .ok (.enter f as1) w) (w : World) : (execOp a.eval o).run P w = .ok (.enter f (args.map a.eval ++ caps).toArray) w := by
 simp [execOp, ho, resolve, hx, Deferred.ofValue, invoke, hcall]
theorem w_callc {f : FuncId} {args : List Operand} {ats : Array TypeId} {rs : List Rp} {caps : List Value} {Hin Hr : List Ent} {Φ : Rp → List Ent → Prop} (hcall : ∀ (as1 : Array Value) (w : World), (callFunc f as1).run P w = .ok (.enter f as1) w) (hx : ev l x = some (rv (.func (.func f) #[] caps.toArray))) (hv : evs l args = some rs)
  (hp : H.Perm (Hin ++ Hr)) (hc : Fn P c.E f (rs ++ caps.map rv) Hin Φ) (hn : Nat.blt d n = true) (h : ∀ r Ho, Φ r Ho → WL P n c ops Q rest ((d, r) :: l) (Ho ++ Hr)) :
  WL P n c ops Q ({ dst := some d, op := .call { callee := .value x, args := args.toArray, argTypes := ats }, type := ty, pos := pos, after := af, guard := none } :: rest) l H :=
 wl_call (args := fun a => (args.map a.eval ++ caps).toArray) (fun a w Z ha hw => ⟨run_closure rfl (ha.eval hx) hcall w, by
  have hw2 := hw.perm hp
  refine (hc w Z _ (by have := (evs_all ha hv).append (RpAll.rvs Z caps); simpa using this) hw2.enter).mono ?_
  rintro e w' ⟨r, v, Ho, Z', he, hΦ, hr, hs⟩
  exact ⟨v, r, Ho ++ Hr, Z', he, hs.le, hr, hw2.call hs, h r Ho hΦ⟩⟩) hn
theorem w_append_str {xs : List Int} {s : List UInt8} {i : Nat} {inf : TypeInfo} (ht : P.underlying t = some (.slice e)) (hu : P.underlying t' = some .string) (hinf : P.info? e = some inf) (hz : inf.zero = some (.int .u8 0)) (hsize : inf.size = 1) (hby : inf.bytes = 1)
  (hx : ev l x = some (rv v)) (hy : ev l y = some (rS s)) (hi : H[i]? = some (.row v e 1 (xs.map eI_u8))) (hg : inA 1 (xs.length + s.length) = true) (hn : Nat.blt d n = true)
  (h : ∀ v', WL P n c ops Q rest ((d, rv v') :: l) (.row v' e 1 ((xs ++ toI s).map eI_u8) :: H.eraseIdx i)) :
  WL P n c ops Q ({ dst := some d, op := .call { callee := .builtin .append, args := #[x, y], argTypes := #[t, t'] }, type := ty, pos := pos, after := af, guard := none } :: rest) l H :=
 wl_w (fun a w Z ha hw => by
  obtain ⟨h0, us, h1, h2⟩ := hw.ent hi
  have hb : (xs.length + s.length) * 1 ≤ 140737488355328 := by simpa [inA] using hg
  rw [List.length_map] at h1
  obtain ⟨v', w', e1, e2, e3, e4⟩ := run_append_str_st (P := P) (w := w) ty ht hu hinf hz hsize hby h1 (s := s) (by omega)
  have hent : (Ent.row v' e 1 ((xs ++ toI s).map eI_u8)).holds Z w' := ⟨fun cl hcl => by obtain ⟨z', _, rfl⟩ := List.mem_map.1 hcl; rfl, us ++ s.map (fun c => Value.int .u8 c.toNat), by simpa [toI_len] using e2, by
   rw [List.map_append, List.flatten_append, toI_cells]; exact h2.append (RpAll.rvs Z _)⟩
  have hst := hw.callF hi (St.one (e' := .row v' e 1 ((xs ++ toI s).map eI_u8)) (M := (Ent.row v e 1 (xs.map eI_u8)).foot) hw.frz hw.env hw.emono e3.os e3.tape e3.output e3.size (fun k hk hne => e3.block k hk (fun e1 => hne (by simp [Ent.foot, ← e1])))
   (hw.zdis _ (List.mem_of_getElem? hi)) hent (fun k hk => by
    simp only [Ent.foot, Option.mem_toList] at hk ⊢
    rcases e4 with e4 | e4
    ·exact .inl (e4 ▸ hk)
    ·exact .inr (e4 k hk)))
  exact ⟨v', w', rv v', _, Z, by simp [execOp, resolve, invoke, builtin, ha.eval hx, ha.eval hy, e1], Fz.le.refl _, rfl, hst, h v'⟩) hn
end
section
variable {P : Program} {n : Nat} {c : Cx} {ops : Array Oper} {Q : Exit → Act → World → Prop} {rest : List Oper} {l : Fr} {H : List Ent} {d : Nat} {ty : TypeId} {pos : String} {af : Array Edge} {r : Rp} {x y z3 : Operand}
theorem wo {d : Option Nat} {op : Op} {j dj : Nat} {want b : Bool} (hb : b = want) (h : WL P n c ops Q ({ dst := d, op := op, type := ty, pos := pos, after := af, guard := none } :: rest) l H) (hj : gslot ops j = some dj := by rfl) (hv : look l dj = some (rB b) := by rfl) :
  WL P n c ops Q ({ dst := d, op := op, type := ty, pos := pos, after := af, guard := some (j, want) } :: rest) l H := wl_on hj hv hb h
theorem wf {op : Op} {j dj : Nat} {want b : Bool} (hb : b = !want) (h : WL P n c ops Q rest ((d, rv undef) :: l) H) (hj : gslot ops j = some dj := by rfl) (hv : look l dj = some (rB b) := by rfl) (hn : Nat.blt d n = true := by rfl) :
  WL P n c ops Q ({ dst := some d, op := op, type := ty, pos := pos, after := af, guard := some (j, want) } :: rest) l H := wl_off hj hv hb hn h
theorem wu {op : Op} {j dj : Nat} {want : Bool} (h : WL P n c ops Q rest ((d, rv undef) :: l) H) (hj : gslot ops j = some dj := by rfl) (hv : look l dj = some (rv undef) := by rfl) (hn : Nat.blt d n = true := by rfl) :
  WL P n c ops Q ({ dst := some d, op := op, type := ty, pos := pos, after := af, guard := some (j, want) } :: rest) l H := wl_off_u hj hv hn h
theorem wv {op : Op} (hr : ORun P n c l H { dst := some d, op := op, type := ty, pos := pos, after := af, guard := none } r) (h : WL P n c ops Q rest ((d, r) :: l) H) (hn : Nat.blt d n = true := by rfl) : WL P n c ops Q ({ dst := some d, op := op, type := ty, pos := pos, after := af, guard := none } :: rest) l H := wl_v hr hn h
theorem wm (h : ev l x = some r) (hk : WL P n c ops Q rest ((d, r) :: l) H) (hn : Nat.blt d n = true := by rfl) : WL P n c ops Q ({ dst := some d, op := .move x, type := ty, pos := pos, after := af, guard := none } :: rest) l H := wl_v (o_move h) hn hk
theorem wa (h : ev l x = some r) (hk : WL P n c ops Q rest ((d, r) :: l) H) (hn : Nat.blt d n = true := by rfl) : WL P n c ops Q ({ dst := some d, op := .assign x, type := ty, pos := pos, after := af, guard := none } :: rest) l H := wl_v (o_assign h) hn hk
theorem wpt {b : Bool} (hc : ev l z3 = some (rB b)) (hb : b = true) (h : ev l x = some r) (hk : WL P n c ops Q rest ((d, r) :: l) H) (hn : Nat.blt d n = true := by rfl) : WL P n c ops Q ({ dst := some d, op := .pick z3 x y, type := ty, pos := pos, after := af, guard := none } :: rest) l H := wl_v (o_pick_t hc hb h) hn hk
theorem wpf {b : Bool} (hc : ev l z3 = some (rB b)) (hb : b = false) (h : ev l y = some r) (hk : WL P n c ops Q rest ((d, r) :: l) H) (hn : Nat.blt d n = true := by rfl) : WL P n c ops Q ({ dst := some d, op := .pick z3 x y, type := ty, pos := pos, after := af, guard := none } :: rest) l H := wl_v (o_pick_f hc hb h) hn hk
theorem wc0 {f : FuncId} {args : List Operand} {ats : Array TypeId} {rs : List Rp} (hcall : ∀ (as1 : Array Value) (w : World), (callFunc f as1).run P w = .ok (.enter f as1) w) (hc : Fn0 P c.E f rs r) (hv : evs l args = some rs) (h : WL P n c ops Q rest ((d, r) :: l) H) (hn : Nat.blt d n = true := by rfl) :
  WL P n c ops Q ({ dst := some d, op := .call { callee := .value (.func f), args := args.toArray, argTypes := ats }, type := ty, pos := pos, after := af, guard := none } :: rest) l H := w_call0 hcall hv hc rfl hn h
theorem wcl {f : FuncId} {args : List Operand} {ats : Array TypeId} {rs : List Rp} {Hin Hr : List Ent} {Φ : Rp → List Ent → Prop} (hcall : ∀ (as1 : Array Value) (w : World), (callFunc f as1).run P w = .ok (.enter f as1) w) (hc : Fn P c.E f rs Hin Φ) (hv : evs l args = some rs)
  (hp : H.Perm (Hin ++ Hr)) (hn : Nat.blt d n = true) (h : ∀ r Ho, Φ r Ho → WL P n c ops Q rest ((d, r) :: l) (Ho ++ Hr)) :
  WL P n c ops Q ({ dst := some d, op := .call { callee := .value (.func f), args := args.toArray, argTypes := ats }, type := ty, pos := pos, after := af, guard := none } :: rest) l H := w_call hcall hv hp hc hn h
theorem ok_c0 {opsA : Array Oper} {f : FuncId} {args : List Operand} {ats : Array TypeId} {rs : List Rp} (hcall : ∀ (as1 : Array Value) (w : World), (callFunc f as1).run P w = .ok (.enter f as1) w) (hc : Fn0 P c.E f rs r) (hv : evs l args = some rs) :
  OpOk P n c opsA Q l H { dst := some d, op := .call { callee := .value (.func f), args := args.toArray, argTypes := ats }, type := ty, pos := pos, after := af, guard := none } r H := ok_call0 hcall hv hc rfl
theorem wt {K : Exit → Act → World → Prop} {l1 : Fr} {H1 : List Ent} (hl : Sub l1 l := by repeat (first | exact Sub.nil | refine Sub.c rfl ?_)) (hH : H1.Sublist H := by repeat (first | exact sN | refine sC ?_ | refine sS ?_)) : WK n c (Exit.then (Mid n c l1 H1) K .normal) l H := wk_then (wk_mid hl hH)
theorem wtc {p : Prop} (hp : p) {K : Exit → Act → World → Prop} {l1 : Fr} {H1 : List Ent} (hl : p → Sub l1 l := by intro hp; repeat (first | exact Sub.nil | refine Sub.c rfl ?_ | refine Sub.c (by first | (simp only [hp]; rfl) | simp [hp]) ?_)) (hH : H1.Sublist H := by repeat (first | exact sN | refine sC ?_ | refine sS ?_)) : WK n c (Exit.then (Mid n c l1 H1) K .normal) l H := wk_then (wk_mid (hl hp) hH)
end
end Go.Proofs.YtpmiamphppcfeaaDoor.Q

/-
 What a law is handed, read as what it stands for: the blocks of the world that is handed in are frozen. Plain theorems over any program; no condition.
-/
namespace Go.Proofs.YtpmiamphppcfeaaDoor.Q
open Go Go.RowKit Go.ChangeShapes Go.Deep
set_option linter.unusedVariables false
set_option linter.unusedSimpArgs false
def ZW (W : World) : Fz := fun b => W.heap[b]?
theorem ZW.frz (W : World) : Frz (ZW W) W := fun _ _ h => h
def Opn (P : Program) (e : TypeId) {α : Type} (enc : α → List Rp) (ok : α → Bool) : Prop :=
 ∀ {H : Type} {encH : TypeId × Value → H} {W : World} {sp : Nat → Bool} {held : Bool} {n : Nat} {cs : List Value} {x : DataW H × List MemPlace}, DataW.trod encH P W 0 sp held n e cs = some x → ∃ y : α, ok y = true ∧ RpAll (ZW W) (enc y) cs
section
variable {P : Program} {e t : TypeId}
theorem Opn.int {k : IntKind} {enc : Int → List Rp} (ht : P.underlying e = some (.int k)) (he : ∀ n, enc n = [rI k n]) : Opn P e enc (inK k) := fun h => by
 obtain ⟨n, rfl, _, hwf⟩ := DataW.trod_int ht h
 exact ⟨n, hwf, by rw [he]; exact ⟨rfl, trivial⟩⟩
theorem Opn.str {enc : Str → List Rp} (ht : P.underlying e = some .string) (he : ∀ n, enc n = [rS n]) : Opn P e enc okS := fun h => by
 obtain ⟨s, rfl, _, hl⟩ := DataW.trod_string ht h
 exact ⟨s.data.toList, decide_eq_true (by rw [Array.length_toList]; exact hl), by rw [he]; exact ⟨congrArg Value.string (B_of s), trivial⟩⟩
theorem Opn.bool {enc : Bool → List Rp} (ht : P.underlying e = some .bool) (he : ∀ n, enc n = [rB n]) : Opn P e enc (fun _ => true) := fun h => by
 obtain ⟨b, rfl, _⟩ := DataW.trod_bool ht h
 exact ⟨b, rfl, by rw [he]; exact ⟨rfl, trivial⟩⟩
theorem cell_spot {W : World} {a : Addr} {v : Value} (h : W.cell? a = some v) : a.spot = none ∧ zcell (ZW W) a.block a.off = some v := by
 unfold World.cell? at h
 unfold zcell ZW
 cases hh : W.heap[a.block]? with
 | none => rw [hh] at h; cases h
 | some o =>
  rw [hh] at h
  cases o with
  | cells cs t fz =>
   cases hs : a.spot with
   | none => simp [hs] at h; exact ⟨rfl, h⟩
   | some _ => simp [hs] at h
  | _ => simp at h
theorem Opn.slice {α : Type} [Inhabited α] {enc : α → List Rp} {ok : α → Bool} {sz : Nat} (ht : P.underlying t = some (.slice e)) (hc : P.cellsOf e = sz) (hsz : 0 < sz) (h : Opn P e enc ok) (hlen : ∀ y, (enc y).length = sz) {enc' : List α → List Rp} (he : ∀ ys, enc' ys = [rSl sz (ys.map enc)]) :
  Opn P t enc' (fun ys => ys.all ok && decide (ys.length ≤ 9223372036854775807)) := fun {H encH W sp held n cs x} hx => by
 rcases open_slice ht hx with ⟨rfl, _⟩ | ⟨a, len, cap, m, n', D, Pl, rfl, hb, hl, hm, hmm, _, hel⟩
 ·exact ⟨[], by simp, by rw [he]; exact ⟨SlZ.nil sz _, trivial⟩⟩
 ·have hlm : len ≤ m := by rw [hmm]; split <;> omega
  have each : ∀ i, i < len → ∃ y : α, ok y = true ∧ ∃ cs', W.cells? 0 (a.add (i * sz)) sz = some cs' ∧ RpAll (ZW W) (enc y) cs' := fun i hi => by
   obtain ⟨cs', h1, h2⟩ := hel i (by omega)
   obtain ⟨y, hy, hr⟩ := h h2
   rw [hc] at h1
   exact ⟨y, hy, cs', h1, hr⟩
  obtain ⟨f, hf⟩ := choose_lt each
  refine ⟨(List.range len).map f, ?_, ?_⟩
  ·simp only [Bool.and_eq_true, List.all_eq_true, List.mem_map, List.mem_range, decide_eq_true_eq]
   refine ⟨?_, by simp; simp only [maxLen] at hm; omega⟩
   rintro _ ⟨i, hi, rfl⟩
   exact (hf i hi).1
  ·rw [he]
   refine ⟨⟨some a, cap, by simp, by simpa using hl, hm, (fun h => by cases h), fun i c hi => ?_⟩, trivial⟩
   rw [List.map_map, List.getElem?_map] at hi
   have hil : i < len := by
    cases hq : (List.range len)[i]? with
    | none => rw [hq] at hi; cases hi
    | some _ => have := (List.getElem?_eq_some_iff.1 hq).1; simpa using this
   rw [List.getElem?_range hil] at hi
   simp only [Option.map_some, Option.some.injEq, Function.comp] at hi
   subst hi
   obtain ⟨_, cs', h1, hr⟩ := hf i hil
   obtain ⟨_, hcl, hcell⟩ := World.cells?_some h1
   have hsp : a.spot = none := by
    obtain ⟨_, cs0, g1, _⟩ := hf 0 (by omega)
    obtain ⟨_, gcl, gcell⟩ := World.cells?_some g1
    have h0 := gcell 0 hsz
    rw [List.getElem?_eq_getElem (by omega)] at h0
    have := (cell_spot h0).1
    simpa [Addr.add] using this
   refine ⟨hlen _, a, rfl, hsp, fun j r hj => ?_⟩
   obtain ⟨u, hu, hp⟩ := hr.at hj
   have hjs : j < sz := by have := (List.getElem?_eq_some_iff.1 hj).1; rw [hlen] at this; exact this
   have h3 := hcell j hjs
   rw [hu] at h3
   have h4 := (cell_spot h3).2
   refine ⟨u, ?_, hp⟩
   have e1 : ((a.add (i * sz)).add j).block = a.block := by simp only [Addr.add]; split <;> split <;> rfl
   have e2 : ((a.add (i * sz)).add j).off = a.off + (i * sz + j) := by simp only [Addr.add]; split <;> split <;> simp_all <;> omega
   rw [e1, e2] at h4
   exact h4
theorem seg_nil {Z : Fz} {cs : List Value} {o : Nat} (h : cs.length = o) : RpAll Z [] (cs.drop o) := by rw [List.drop_of_length_le (by omega)]; trivial
theorem seg_cons {Z : Fz} {cs : List Value} {o s o' : Nat} {rs rs' : List Rp} (h : RpAll Z rs ((cs.drop o).take s)) (ho : o + s = o') (h2 : RpAll Z rs' (cs.drop o')) : RpAll Z (rs ++ rs') (cs.drop o) := by
 rw [← List.take_append_drop s (cs.drop o), List.drop_drop]
 subst ho
 exact h.append h2
theorem Opn.val {α : Type} {enc : α → List Rp} {ok : α → Bool} (h : Opn P e enc ok) {r : α → Rp} (he : ∀ y, enc y = [r y]) {H : Type} {encH : TypeId × Value → H} {W : World} {sp : Nat → Bool} {held : Bool} {v : Value} {d : DataW H} {ps : List MemPlace}
  (hone : v.cells = #[v]) (ht : DataW.Trod encH P W 0 sp held e v d ps) : ∃ y : α, ok y = true ∧ (r y).p (ZW W) v := by
 obtain ⟨fuel, hf⟩ := ht
 rw [hone] at hf
 obtain ⟨y, hy, hr⟩ := h hf
 rw [he] at hr
 exact ⟨y, hy, hr.1⟩
theorem Opn.valAgg {α : Type} {enc : α → List Rp} {ok : α → Bool} (h : Opn P e enc ok) {H : Type} {encH : TypeId × Value → H} {W : World} {sp : Nat → Bool} {held : Bool} {cs : Array Value} {d : DataW H} {ps : List MemPlace}
  (ht : DataW.Trod encH P W 0 sp held e (.agg cs) d ps) : ∃ y : α, ok y = true ∧ (rAgg (enc y)).p (ZW W) (.agg cs) := by
 obtain ⟨fuel, hf⟩ := ht
 obtain ⟨y, hy, hr⟩ := h hf
 exact ⟨y, hy, cs.toList, by simp, hr⟩
end
end Go.Proofs.YtpmiamphppcfeaaDoor.Q

/-
 The row's step over the calculus of representations.
-/
namespace Go.Proofs.YtpmiamphppcfeaaDoor.Q
open Go Go.RowKit
set_option linter.unusedVariables false
theorem frz_size {W w : World} (hw : Frz (ZW W) w) : W.heap.size ≤ w.heap.size := by
 rcases Nat.eq_zero_or_pos W.heap.size with h | h
 ·omega
 ·have h1 : W.heap[W.heap.size - 1]? = some (W.heap[W.heap.size - 1]'(by omega)) := Array.getElem?_eq_getElem (by omega)
  have := (Array.getElem?_eq_some_iff.1 (hw _ _ h1)).1
  omega
theorem ge_of_env {W : World} (hE : Env W) : GE (ZW W) := fun w hw => by
 have hb : Below W.heap.size W { w with os := W.os, tape := W.tape, output := W.output } := ⟨rfl, rfl, rfl, frz_size hw, fun k hk => by
  have h1 : W.heap[k]? = some (W.heap[k]'hk) := Array.getElem?_eq_getElem hk
  rw [h1]; exact hw k _ h1⟩
 have hE2 := hE.st0 (St.of_below hb)
 exact ⟨Tabs.block { w with os := W.os, tape := W.tape, output := W.output } w (fun _ _ => rfl) hE2.tabs, hE2.size⟩
theorem st_start {W : World} (hE : Env W) : St ⟨W, ZW W, [], GE⟩ [] (ZW W) W where
 os := rfl
 tape := rfl
 output := rfl
 size := Nat.le_refl _
 old := fun _ _ _ => rfl
 has := fun _ h => by cases h
 own := fun _ h => by cases h
 dis := .nil
 frz := ZW.frz W
 le := Fz.le.refl _
 new := fun _ _ h => .inl h
 zdis := fun _ h => by cases h
 env := ge_of_env hE
 emono := fun h hg => GE.mono h hg
theorem st_below {W W' : World} {Z Z' : Fz} {E : Fz → Prop} {H : List Ent} (h : St ⟨W, Z, [], E⟩ H Z' W') : Below W.heap.size W W' := ⟨h.os, h.tape, h.output, h.size, fun k hk => h.old k hk (by simp)⟩
end Go.Proofs.YtpmiamphppcfeaaDoor.Q

/-
 What functions compute, with checks: plain definitions, printed by a small program of ours (gq.py). No program in sight.
-/
namespace Go.Proofs.YtpmiamphppcfeaaDoor.Q
open Go
set_option linter.unusedVariables false
def bCopy0 (l : (List Int)) : Option ((List Int)) :=
 some l

def bWriteByte0 (l : (List Int)) (c : Int) : Option (Unit × (List Int)) :=
 obn (bCopy0 l) fun r1 => chk (inA 1 (r1.length + ([c] : List Int).length)) <| some ((), r1 ++ ([c] : List Int))

def bWriteString0 (l : (List Int)) (s : Str) : Option (Int × Unit × (List Int)) :=
 obn (bCopy0 l) fun r1 => chk (inA 1 (r1.length + s.length)) <| some ((s.length : Int), (), r1 ++ toI s)

def bString0 (l : Str) : Option (Str) :=
 chk (decide (0 < (toI l).length)) <| some l

def bCopy1 (l : (List Int)) : Option ((List Int)) :=
 some l

def bWriteByte1 (l : (List Int)) (c : Int) : Option (Unit × (List Int)) :=
 obn (bCopy1 l) fun r1 => chk (inA 1 (r1.length + ([c] : List Int).length)) <| some ((), r1 ++ ([c] : List Int))

def bWriteString1 (l : (List Int)) (s : Str) : Option (Int × Unit × (List Int)) :=
 obn (bCopy1 l) fun r1 => chk (inA 1 (r1.length + s.length)) <| some ((s.length : Int), (), r1 ++ toI s)

def bString1 (l : Str) : Option (Str) :=
 chk (decide (0 < (toI l).length)) <| some l

end Go.Proofs.YtpmiamphppcfeaaDoor.Q

/-
  Walks, printed by a small program of ours (gq.py).
-/
namespace Go.Proofs.YtpmiamphppcfeaaDoor.Q
open Go Go.RowKit
set_option linter.unusedVariables false
set_option linter.unusedSimpArgs false
set_option maxRecDepth 100000
set_option maxHeartbeats 4000000
theorem info5 : ∃ inf, Tryd.prog.info? 5 = some inf ∧ inf.zero = some (.int .u8 0) ∧ inf.size = 1 ∧ inf.bytes = 1 := by
  have key : (Tryd.prog.info? 5).map (fun i => (i.zero, i.size, i.bytes)) = some (some (.int .u8 0), 1, 1) := by kernel_rfl
  obtain ⟨inf, h1, h2⟩ := Option.map_eq_some_iff.1 key
  simp only [Prod.mk.injEq] at h2
  exact ⟨inf, h1, h2.1, h2.2.1, h2.2.2⟩
theorem infoN65 : ∃ j, Tryd.prog.info? 65 = some j ∧ j.size ≠ 0 := by
  have key : (Tryd.prog.info? 65).map (fun i => i.size) = some 2 := by kernel_rfl
  obtain ⟨j, h1, h2⟩ := Option.map_eq_some_iff.1 key
  exact ⟨j, h1, by rw [h2]; decide⟩
theorem infoE65 : ∃ j, Tryd.prog.info? 65 = some j := infoN65.imp fun _ h => h.1
theorem bCopy0_w (b_l : Nat) (v_l : Value) (l : (List Int)) (r : (List Int)) (h : bCopy0 l = some r) : Fn Tryd.prog GE 60 [rv (.pointer (some ⟨b_l, 0, none⟩))] [.blk b_l [rv (.pointer none), rv v_l] 65, .row v_l 5 1 (List.map eI_u8 l)] (fun R H => ∃ w0 : Value, R = rv (.tuple #[]) ∧ H = [.blk b_l [rv (.pointer (some ⟨b_l, 0, none⟩)), rv w0] 65, .row w0 5 1 (List.map eI_u8 r)]) := by
 refine enter (n := 20) Tryd.func60 rfl Tryd.ntmps60 rfl (fun w Z => ?_)
 refine wc_as (l' := [(0, rv (.pointer (some ⟨b_l, 0, none⟩)))]) (H' := [.blk b_l [rv (.pointer none), rv v_l] 65, .row v_l 5 1 (List.map eI_u8 l)]) rfl rfl ?_
 unfold bCopy0 at h
 refine wc_sr (wm rfl (wv (o_nilcheck rfl) (wv (o_fieldAddr Tryd.underlying65 rfl Tryd.sizeOf62 rfl rfl) (wv (o_load (i := 0) Tryd.isAgg62 rfl rfl rfl) (wv (r := rB true) (o_pnil_n ⟨_, Tryd.underlying62⟩ rfl) (wl_x (wc_cond_t rfl rfl (wc_region (wm rfl (wm rfl (wv (r := rv (.pointer (some ⟨b_l, 0, none⟩))) (o_to_unsafe (i := 0) Tryd.underlying62 Tryd.underlying108 infoN65 rfl rfl rfl) (wl_v (r := rv (.pointer (some ⟨b_l, 0, none⟩))) (o_noesc Tryd.func71 (by kernel_rfl) (by kernel_rfl) (by kernel_rfl) (by kernel_rfl) rfl) rfl (wv (r := rv (.pointer (some ⟨b_l, 0, none⟩))) (o_from_unsafe (i := 0) Tryd.underlying108 Tryd.underlying62 infoE65 rfl rfl (by kernel_rfl)) (wv (o_nilcheck rfl) (wv (o_fieldAddr Tryd.underlying65 rfl Tryd.sizeOf62 rfl rfl) (u_store (i := 0) Tryd.sizeOf62 rfl rfl (one_c rfl) rfl rfl (cs' := [rv (.pointer (some ⟨b_l, 0, none⟩)), rv v_l]) rfl (H' := [.blk b_l [rv (.pointer (some ⟨b_l, 0, none⟩)), rv v_l] 65, .row v_l 5 1 (List.map eI_u8 l)]) rfl (wl_nil ?_)))))))))))))))))
 obtain rfl := some_e h
 exact wk_end (r_0 Tryd.results60) (sC (sC sN)) ⟨v_l, rfl, rfl⟩

theorem bWriteByte0_w (b_l : Nat) (v_l : Value) (l : (List Int)) (c : Int) (r : Unit × (List Int)) (h : bWriteByte0 l c = some r) : Fn Tryd.prog GE 43 [rv (.pointer (some ⟨b_l, 0, none⟩)), rI .u8 c] [.blk b_l [rv (.pointer none), rv v_l] 65, .row v_l 5 1 (List.map eI_u8 l)] (fun R H => ∃ w0 : Value, R = rv (.nilIface) ∧ H = [.blk b_l [rv (.pointer (some ⟨b_l, 0, none⟩)), rv w0] 65, .row w0 5 1 (List.map eI_u8 r.2)]) := by
 refine enter (n := 17) Tryd.func43 rfl Tryd.ntmps43 rfl (fun w Z => ?_)
 refine wc_as (l' := [(0, rv (.pointer (some ⟨b_l, 0, none⟩))), (1, rI .u8 c)]) (H' := [.blk b_l [rv (.pointer none), rv v_l] 65, .row v_l 5 1 (List.map eI_u8 l)]) rfl rfl ?_
 unfold bWriteByte0 at h
 refine wc_sr (wv (r := rv (.nilIface)) (o_assign rfl) (wl_y (wm rfl ?_)))
 obtain ⟨r1, e3, h2⟩ := obn_e h
 refine wcl (Hr := []) Tryd.call60 (bCopy0_w b_l v_l l r1 e3) rfl (List.Perm.refl _) rfl ?_
 rintro _ _ ⟨v4, rfl, rfl⟩
 refine wl_y (wm rfl (wm rfl (wv (o_nilcheck rfl) (wv (o_fieldAddr Tryd.underlying65 rfl Tryd.sizeOf63 rfl rfl) (wv (o_load (i := 0) Tryd.isAgg63 rfl rfl rfl) (wm rfl (w_buildSlice (ys := ([c] : List Int)) (enc := eI_u8) (css := [[rI .u8 c]]) (xs := [.tmp 12]) Tryd.underlying63 Tryd.sizeOf5 Tryd.zeroValue5 rfl rfl rfl ⟨Cel.one rfl (Up.refl _), trivial⟩ rfl eI_u8_len rfl rfl rfl (fun b5 => ?_))))))))
 obtain ⟨g7, h8⟩ := chk_e h2
 obtain ⟨inf, hinf⟩ := info5
 refine w_append (xs := r1) (ys := ([c] : List Int)) (enc := eI_u8) (i := 2) Tryd.underlying63 hinf.1 hinf.2.1 hinf.2.2.1 hinf.2.2.2 rfl rfl rfl rfl rfl (Src.w (i := 0) rfl rfl) eI_u8_len eI_u8_one g7 rfl (fun v6 => ?_)
 refine wv (o_nilcheck rfl) (wv (o_fieldAddr Tryd.underlying65 rfl Tryd.sizeOf63 rfl rfl) (u_store (i := 2) Tryd.sizeOf63 rfl rfl (one_row (i := 0) rfl) rfl rfl (cs' := [rv (.pointer (some ⟨b_l, 0, none⟩)), rv v6]) rfl (H' := [.row v6 5 1 (List.map eI_u8 (r1 ++ ([c] : List Int))), .row (.slice (some ⟨b5, 0, none⟩) 1 1) 5 1 (List.map eI_u8 ([c] : List Int)), .blk b_l [rv (.pointer (some ⟨b_l, 0, none⟩)), rv v6] 65]) rfl (wl_y (wv (r := rv (.nilIface)) (o_assign rfl) (wl_x (wc_ret (wk_perm (H2 := [.blk b_l [rv (.pointer (some ⟨b_l, 0, none⟩)), rv v6] 65, .row v6 5 1 (List.map eI_u8 (r1 ++ ([c] : List Int))), .row (.slice (some ⟨b5, 0, none⟩) 1 1) 5 1 (List.map eI_u8 ([c] : List Int))]) ((perm_front (i := 2) rfl).trans (List.Perm.cons _ (List.Perm.refl _))) ?_)))))))
 obtain rfl := some_e h8
 exact wk_ret (r_1 Tryd.results43 (rv_t rfl)) (sC (sC (sS sN))) ⟨v6, rfl, rfl⟩

theorem bWriteString0_w (b_l : Nat) (v_l : Value) (l : (List Int)) (s : Str) (r : Int × Unit × (List Int)) (h : bWriteString0 l s = some r) : Fn Tryd.prog GE 41 [rv (.pointer (some ⟨b_l, 0, none⟩)), rS s] [.blk b_l [rv (.pointer none), rv v_l] 65, .row v_l 5 1 (List.map eI_u8 l)] (fun R H => ∃ w0 : Value, R = rTup [rI .i64 r.1, rv (.nilIface)] ∧ H = [.blk b_l [rv (.pointer (some ⟨b_l, 0, none⟩)), rv w0] 65, .row w0 5 1 (List.map eI_u8 r.2.2)]) := by
 refine enter (n := 19) Tryd.func41 rfl Tryd.ntmps41 rfl (fun w Z => ?_)
 refine wc_as (l' := [(0, rv (.pointer (some ⟨b_l, 0, none⟩))), (1, rS s)]) (H' := [.blk b_l [rv (.pointer none), rv v_l] 65, .row v_l 5 1 (List.map eI_u8 l)]) rfl rfl ?_
 unfold bWriteString0 at h
 refine wc_sr (wv (r := rI .i64 0) (o_assign rfl) (wv (r := rv (.nilIface)) (o_assign rfl) (wl_y (wm rfl ?_))))
 obtain ⟨r1, e3, h2⟩ := obn_e h
 refine wcl (Hr := []) Tryd.call60 (bCopy0_w b_l v_l l r1 e3) rfl (List.Perm.refl _) rfl ?_
 rintro _ _ ⟨v4, rfl, rfl⟩
 refine wl_y (wm rfl (wm rfl (wv (o_nilcheck rfl) (wv (o_fieldAddr Tryd.underlying65 rfl Tryd.sizeOf63 rfl rfl) (wv (o_load (i := 0) Tryd.isAgg63 rfl rfl rfl) (wm rfl ?_))))))
 obtain ⟨g6, h7⟩ := chk_e h2
 obtain ⟨inf, hinf⟩ := info5
 refine w_append_str (xs := r1) (i := 1) Tryd.underlying63 Tryd.underlying9 hinf.1 hinf.2.1 hinf.2.2.1 hinf.2.2.2 rfl rfl rfl g6 rfl (fun v5 => ?_)
 refine wv (o_nilcheck rfl) (wv (o_fieldAddr Tryd.underlying65 rfl Tryd.sizeOf63 rfl rfl) (u_store (i := 1) Tryd.sizeOf63 rfl rfl (one_row (i := 0) rfl) rfl rfl (cs' := [rv (.pointer (some ⟨b_l, 0, none⟩)), rv v5]) rfl (H' := [.row v5 5 1 (List.map eI_u8 (r1 ++ toI s)), .blk b_l [rv (.pointer (some ⟨b_l, 0, none⟩)), rv v5] 65]) rfl (wl_y (wm rfl (wv (o_len_s Tryd.underlying9 rfl) (wa rfl (wv (r := rv (.nilIface)) (o_assign rfl) (wl_x (wc_ret (wk_perm (H2 := [.blk b_l [rv (.pointer (some ⟨b_l, 0, none⟩)), rv v5] 65, .row v5 5 1 (List.map eI_u8 (r1 ++ toI s))]) ((perm_front (i := 1) rfl).trans (List.Perm.cons _ (List.Perm.refl _))) ?_))))))))))
 obtain rfl := some_e h7
 exact wk_ret (r_2 Tryd.results41 (rv_t rfl) (rv_t rfl)) (sC (sC sN)) ⟨v5, rfl, rfl⟩

theorem bString0_w (b_l : Nat) (v_l : Value) (l : Str) (r : Str) (h : bString0 l = some r) : Fn Tryd.prog GE 30 [rv (.pointer (some ⟨b_l, 0, none⟩))] [.blk b_l [rv (.pointer none), rv v_l] 65, .row v_l 5 1 (List.map eI_u8 (toI l))] (fun R H => R = rS r ∧ H = []) := by
 refine enter (n := 14) Tryd.func30 rfl Tryd.ntmps30 rfl (fun w Z => ?_)
 refine wc_as (l' := [(0, rv (.pointer (some ⟨b_l, 0, none⟩)))]) (H' := [.blk b_l [rv (.pointer none), rv v_l] 65, .row v_l 5 1 (List.map eI_u8 (toI l))]) rfl rfl ?_
 unfold bString0 at h
 refine wc_sr (wv (r := rS ([] : Str)) (o_assign rfl) (wl_x (wc_seq ?_)))
 obtain ⟨g1, h2⟩ := chk_e h
 refine wc_rdk (H1 := [.blk b_l [rv (.pointer none), rv v_l] 65]) [0] [⟨[], rv (.pointer (some ⟨b_l, 0, none⟩)), 0⟩, ⟨[0], rv (.pointer (some ⟨b_l, 0, none⟩)), 0⟩, ⟨[1], rv (.pointer (some ⟨b_l, 1, none⟩)), 0⟩, ⟨[2], rv v_l, 1⟩, ⟨[3], rv (slp v_l), 1⟩, ⟨[], rv (.pointer (some ⟨b_l, 0, none⟩)), 0⟩, ⟨[5], rv (.pointer (some ⟨b_l, 0, none⟩)), 0⟩, ⟨[6], rv (.pointer (some ⟨b_l, 1, none⟩)), 0⟩, ⟨[7], rv v_l, 1⟩, ⟨[8], rI .i64 ((toI l).length : Int), 1⟩, ⟨[4, 9], rS l, 2⟩, ⟨[10], rS l, 0⟩] (rle [(11, _), (2, [.blk b_l [rv (.pointer none), rv v_l] 65])]) [2] ?_ ?_
 ·refine oq (o_move rfl) (oq (o_nilcheck rfl) (oq (o_fieldAddr Tryd.underlying65 rfl Tryd.sizeOf63 rfl rfl) (of (o_load (i := 0) Tryd.isAgg63 rfl rfl rfl) (of (o_sliceData (i := 1) rfl rfl (pos_map g1)) (oq (o_move rfl) (oq (o_nilcheck rfl) (oq (o_fieldAddr Tryd.underlying65 rfl Tryd.sizeOf63 rfl rfl) (of (o_load (i := 0) Tryd.isAgg63 rfl rfl rfl) (of (o_len_wt (ys := toI l) (enc := eI_u8) (i := 1) Tryd.underlying63 rfl rfl) (obl_l rfl (ok_w (V_unsafeString (i := 1) Tryd.underlying88 (by kernel_rfl) rfl rfl rfl (pos_map g1) rfl)) ?_))))))))))
  refine oq (o_assign rfl) ?_
  exact obl_e
 refine wk_x (wc_ret ?_)
 obtain rfl := some_e h2
 exact wk_ret (r_1 Tryd.results30 (rv_t rfl)) (sS sN) ⟨rfl, rfl⟩

theorem bCopy1_w (b_l : Nat) (v_l : Value) (l : (List Int)) (r : (List Int)) (h : bCopy1 l = some r) : Fn Tryd.prog GE 60 [rv (.pointer (some ⟨b_l, 0, none⟩))] [.blk b_l [rv (.pointer (some ⟨b_l, 0, none⟩)), rv v_l] 65, .row v_l 5 1 (List.map eI_u8 l)] (fun R H => ∃ w0 : Value, R = rv (.tuple #[]) ∧ H = [.blk b_l [rv (.pointer (some ⟨b_l, 0, none⟩)), rv w0] 65, .row w0 5 1 (List.map eI_u8 r)]) := by
 refine enter (n := 20) Tryd.func60 rfl Tryd.ntmps60 rfl (fun w Z => ?_)
 refine wc_as (l' := [(0, rv (.pointer (some ⟨b_l, 0, none⟩)))]) (H' := [.blk b_l [rv (.pointer (some ⟨b_l, 0, none⟩)), rv v_l] 65, .row v_l 5 1 (List.map eI_u8 l)]) rfl rfl ?_
 unfold bCopy1 at h
 refine wc_sr (wm rfl (wv (o_nilcheck rfl) (wv (o_fieldAddr Tryd.underlying65 rfl Tryd.sizeOf62 rfl rfl) (wv (o_load (i := 0) Tryd.isAgg62 rfl rfl rfl) (wv (r := rB false) (o_pnil ⟨_, Tryd.underlying62⟩ rfl) (wl_x (wc_cond_f rfl rfl (wc_sr (wm rfl (wv (o_nilcheck rfl) (wv (o_fieldAddr Tryd.underlying65 rfl Tryd.sizeOf62 rfl rfl) (wv (o_load (i := 0) Tryd.isAgg62 rfl rfl rfl) (wm rfl (wv (r := rB false) (o_psame_ne Tryd.underlying62 infoE65 rfl rfl) (wl_x (wc_cond_f rfl rfl (wc_skip ?_)))))))))))))))))
 obtain rfl := some_e h
 exact wk_end (r_0 Tryd.results60) (sC (sC sN)) ⟨v_l, rfl, rfl⟩

theorem bWriteByte1_w (b_l : Nat) (v_l : Value) (l : (List Int)) (c : Int) (r : Unit × (List Int)) (h : bWriteByte1 l c = some r) : Fn Tryd.prog GE 43 [rv (.pointer (some ⟨b_l, 0, none⟩)), rI .u8 c] [.blk b_l [rv (.pointer (some ⟨b_l, 0, none⟩)), rv v_l] 65, .row v_l 5 1 (List.map eI_u8 l)] (fun R H => ∃ w0 : Value, R = rv (.nilIface) ∧ H = [.blk b_l [rv (.pointer (some ⟨b_l, 0, none⟩)), rv w0] 65, .row w0 5 1 (List.map eI_u8 r.2)]) := by
 refine enter (n := 17) Tryd.func43 rfl Tryd.ntmps43 rfl (fun w Z => ?_)
 refine wc_as (l' := [(0, rv (.pointer (some ⟨b_l, 0, none⟩))), (1, rI .u8 c)]) (H' := [.blk b_l [rv (.pointer (some ⟨b_l, 0, none⟩)), rv v_l] 65, .row v_l 5 1 (List.map eI_u8 l)]) rfl rfl ?_
 unfold bWriteByte1 at h
 refine wc_sr (wv (r := rv (.nilIface)) (o_assign rfl) (wl_y (wm rfl ?_)))
 obtain ⟨r1, e3, h2⟩ := obn_e h
 refine wcl (Hr := []) Tryd.call60 (bCopy1_w b_l v_l l r1 e3) rfl (List.Perm.refl _) rfl ?_
 rintro _ _ ⟨v4, rfl, rfl⟩
 refine wl_y (wm rfl (wm rfl (wv (o_nilcheck rfl) (wv (o_fieldAddr Tryd.underlying65 rfl Tryd.sizeOf63 rfl rfl) (wv (o_load (i := 0) Tryd.isAgg63 rfl rfl rfl) (wm rfl (w_buildSlice (ys := ([c] : List Int)) (enc := eI_u8) (css := [[rI .u8 c]]) (xs := [.tmp 12]) Tryd.underlying63 Tryd.sizeOf5 Tryd.zeroValue5 rfl rfl rfl ⟨Cel.one rfl (Up.refl _), trivial⟩ rfl eI_u8_len rfl rfl rfl (fun b5 => ?_))))))))
 obtain ⟨g7, h8⟩ := chk_e h2
 obtain ⟨inf, hinf⟩ := info5
 refine w_append (xs := r1) (ys := ([c] : List Int)) (enc := eI_u8) (i := 2) Tryd.underlying63 hinf.1 hinf.2.1 hinf.2.2.1 hinf.2.2.2 rfl rfl rfl rfl rfl (Src.w (i := 0) rfl rfl) eI_u8_len eI_u8_one g7 rfl (fun v6 => ?_)
 refine wv (o_nilcheck rfl) (wv (o_fieldAddr Tryd.underlying65 rfl Tryd.sizeOf63 rfl rfl) (u_store (i := 2) Tryd.sizeOf63 rfl rfl (one_row (i := 0) rfl) rfl rfl (cs' := [rv (.pointer (some ⟨b_l, 0, none⟩)), rv v6]) rfl (H' := [.row v6 5 1 (List.map eI_u8 (r1 ++ ([c] : List Int))), .row (.slice (some ⟨b5, 0, none⟩) 1 1) 5 1 (List.map eI_u8 ([c] : List Int)), .blk b_l [rv (.pointer (some ⟨b_l, 0, none⟩)), rv v6] 65]) rfl (wl_y (wv (r := rv (.nilIface)) (o_assign rfl) (wl_x (wc_ret (wk_perm (H2 := [.blk b_l [rv (.pointer (some ⟨b_l, 0, none⟩)), rv v6] 65, .row v6 5 1 (List.map eI_u8 (r1 ++ ([c] : List Int))), .row (.slice (some ⟨b5, 0, none⟩) 1 1) 5 1 (List.map eI_u8 ([c] : List Int))]) ((perm_front (i := 2) rfl).trans (List.Perm.cons _ (List.Perm.refl _))) ?_)))))))
 obtain rfl := some_e h8
 exact wk_ret (r_1 Tryd.results43 (rv_t rfl)) (sC (sC (sS sN))) ⟨v6, rfl, rfl⟩

theorem bWriteString1_w (b_l : Nat) (v_l : Value) (l : (List Int)) (s : Str) (r : Int × Unit × (List Int)) (h : bWriteString1 l s = some r) : Fn Tryd.prog GE 41 [rv (.pointer (some ⟨b_l, 0, none⟩)), rS s] [.blk b_l [rv (.pointer (some ⟨b_l, 0, none⟩)), rv v_l] 65, .row v_l 5 1 (List.map eI_u8 l)] (fun R H => ∃ w0 : Value, R = rTup [rI .i64 r.1, rv (.nilIface)] ∧ H = [.blk b_l [rv (.pointer (some ⟨b_l, 0, none⟩)), rv w0] 65, .row w0 5 1 (List.map eI_u8 r.2.2)]) := by
 refine enter (n := 19) Tryd.func41 rfl Tryd.ntmps41 rfl (fun w Z => ?_)
 refine wc_as (l' := [(0, rv (.pointer (some ⟨b_l, 0, none⟩))), (1, rS s)]) (H' := [.blk b_l [rv (.pointer (some ⟨b_l, 0, none⟩)), rv v_l] 65, .row v_l 5 1 (List.map eI_u8 l)]) rfl rfl ?_
 unfold bWriteString1 at h
 refine wc_sr (wv (r := rI .i64 0) (o_assign rfl) (wv (r := rv (.nilIface)) (o_assign rfl) (wl_y (wm rfl ?_))))
 obtain ⟨r1, e3, h2⟩ := obn_e h
 refine wcl (Hr := []) Tryd.call60 (bCopy1_w b_l v_l l r1 e3) rfl (List.Perm.refl _) rfl ?_
 rintro _ _ ⟨v4, rfl, rfl⟩
 refine wl_y (wm rfl (wm rfl (wv (o_nilcheck rfl) (wv (o_fieldAddr Tryd.underlying65 rfl Tryd.sizeOf63 rfl rfl) (wv (o_load (i := 0) Tryd.isAgg63 rfl rfl rfl) (wm rfl ?_))))))
 obtain ⟨g6, h7⟩ := chk_e h2
 obtain ⟨inf, hinf⟩ := info5
 refine w_append_str (xs := r1) (i := 1) Tryd.underlying63 Tryd.underlying9 hinf.1 hinf.2.1 hinf.2.2.1 hinf.2.2.2 rfl rfl rfl g6 rfl (fun v5 => ?_)
 refine wv (o_nilcheck rfl) (wv (o_fieldAddr Tryd.underlying65 rfl Tryd.sizeOf63 rfl rfl) (u_store (i := 1) Tryd.sizeOf63 rfl rfl (one_row (i := 0) rfl) rfl rfl (cs' := [rv (.pointer (some ⟨b_l, 0, none⟩)), rv v5]) rfl (H' := [.row v5 5 1 (List.map eI_u8 (r1 ++ toI s)), .blk b_l [rv (.pointer (some ⟨b_l, 0, none⟩)), rv v5] 65]) rfl (wl_y (wm rfl (wv (o_len_s Tryd.underlying9 rfl) (wa rfl (wv (r := rv (.nilIface)) (o_assign rfl) (wl_x (wc_ret (wk_perm (H2 := [.blk b_l [rv (.pointer (some ⟨b_l, 0, none⟩)), rv v5] 65, .row v5 5 1 (List.map eI_u8 (r1 ++ toI s))]) ((perm_front (i := 1) rfl).trans (List.Perm.cons _ (List.Perm.refl _))) ?_))))))))))
 obtain rfl := some_e h7
 exact wk_ret (r_2 Tryd.results41 (rv_t rfl) (rv_t rfl)) (sC (sC sN)) ⟨v5, rfl, rfl⟩

theorem bString1_w (b_l : Nat) (v_l : Value) (l : Str) (r : Str) (h : bString1 l = some r) : Fn Tryd.prog GE 30 [rv (.pointer (some ⟨b_l, 0, none⟩))] [.blk b_l [rv (.pointer (some ⟨b_l, 0, none⟩)), rv v_l] 65, .row v_l 5 1 (List.map eI_u8 (toI l))] (fun R H => R = rS r ∧ H = []) := by
 refine enter (n := 14) Tryd.func30 rfl Tryd.ntmps30 rfl (fun w Z => ?_)
 refine wc_as (l' := [(0, rv (.pointer (some ⟨b_l, 0, none⟩)))]) (H' := [.blk b_l [rv (.pointer (some ⟨b_l, 0, none⟩)), rv v_l] 65, .row v_l 5 1 (List.map eI_u8 (toI l))]) rfl rfl ?_
 unfold bString1 at h
 refine wc_sr (wv (r := rS ([] : Str)) (o_assign rfl) (wl_x (wc_seq ?_)))
 obtain ⟨g1, h2⟩ := chk_e h
 refine wc_rdk (H1 := [.blk b_l [rv (.pointer (some ⟨b_l, 0, none⟩)), rv v_l] 65]) [0] [⟨[], rv (.pointer (some ⟨b_l, 0, none⟩)), 0⟩, ⟨[0], rv (.pointer (some ⟨b_l, 0, none⟩)), 0⟩, ⟨[1], rv (.pointer (some ⟨b_l, 1, none⟩)), 0⟩, ⟨[2], rv v_l, 1⟩, ⟨[3], rv (slp v_l), 1⟩, ⟨[], rv (.pointer (some ⟨b_l, 0, none⟩)), 0⟩, ⟨[5], rv (.pointer (some ⟨b_l, 0, none⟩)), 0⟩, ⟨[6], rv (.pointer (some ⟨b_l, 1, none⟩)), 0⟩, ⟨[7], rv v_l, 1⟩, ⟨[8], rI .i64 ((toI l).length : Int), 1⟩, ⟨[4, 9], rS l, 2⟩, ⟨[10], rS l, 0⟩] (rle [(11, _), (2, [.blk b_l [rv (.pointer (some ⟨b_l, 0, none⟩)), rv v_l] 65])]) [2] ?_ ?_
 ·refine oq (o_move rfl) (oq (o_nilcheck rfl) (oq (o_fieldAddr Tryd.underlying65 rfl Tryd.sizeOf63 rfl rfl) (of (o_load (i := 0) Tryd.isAgg63 rfl rfl rfl) (of (o_sliceData (i := 1) rfl rfl (pos_map g1)) (oq (o_move rfl) (oq (o_nilcheck rfl) (oq (o_fieldAddr Tryd.underlying65 rfl Tryd.sizeOf63 rfl rfl) (of (o_load (i := 0) Tryd.isAgg63 rfl rfl rfl) (of (o_len_wt (ys := toI l) (enc := eI_u8) (i := 1) Tryd.underlying63 rfl rfl) (obl_l rfl (ok_w (V_unsafeString (i := 1) Tryd.underlying88 (by kernel_rfl) rfl rfl rfl (pos_map g1) rfl)) ?_))))))))))
  refine oq (o_assign rfl) ?_
  exact obl_e
 refine wk_x (wc_ret ?_)
 obtain rfl := some_e h2
 exact wk_ret (r_1 Tryd.results30 (rv_t rfl)) (sS sN) ⟨rfl, rfl⟩

theorem writeByte_q (b : Nat) (v : Value) (l : Str) (c : Int) (g1 : inA 1 (l.length + 1) = true) (g2 : inK .u8 c = true) : Fn Tryd.prog GE 43 [rv (.pointer (some ⟨b, 0, none⟩)), rI .u8 c] [.bld 65 5 b v l] (fun R H => ∃ w0 : Value, R = rv .nilIface ∧ H = [.bld 65 5 b w0 (l ++ [UInt8.ofNat c.toNat])]) := by
  have hc : toI (l ++ [UInt8.ofNat c.toNat]) = toI l ++ [c] := by
    have := (by simpa [inK, IntKind.min, IntKind.max, IntKind.signed, IntKind.bits] using g2 : 0 ≤ c ∧ c ≤ 255)
    simp only [toI, List.map_append, List.map_cons, List.map_nil]
    congr 2
    simp; omega
  refine Fn.bld (res := rv .nilIface) fun p hp => ?_
  rw [hc]
  rcases hp with rfl | rfl
  · refine (bWriteByte0_w b v (toI l) c (((), toI l ++ [c])) ?_).sub (RleAll.refl _) (fun r H h => by obtain ⟨w0, h1, h2⟩ := h; exact ⟨w0, h1, h2⟩)
    simp only [bWriteByte0, bCopy0, obn, toI_len]
    simp [chk, g1]
  · refine (bWriteByte1_w b v (toI l) c (((), toI l ++ [c])) ?_).sub (RleAll.refl _) (fun r H h => by obtain ⟨w0, h1, h2⟩ := h; exact ⟨w0, h1, h2⟩)
    simp only [bWriteByte1, bCopy1, obn, toI_len]
    simp [chk, g1]
theorem writeString_q (b : Nat) (v : Value) (l s : Str) (g1 : inA 1 (l.length + s.length) = true) : Fn Tryd.prog GE 41 [rv (.pointer (some ⟨b, 0, none⟩)), rS s] [.bld 65 5 b v l] (fun R H => ∃ w0 : Value, R = rTup [rI .i64 (s.length : Int), rv .nilIface] ∧ H = [.bld 65 5 b w0 (l ++ s)]) := by
  have hc : toI (l ++ s) = toI l ++ toI s := by simp [toI]
  refine Fn.bld (res := rTup [rI .i64 (s.length : Int), rv .nilIface]) fun p hp => ?_
  rw [hc]
  rcases hp with rfl | rfl
  · refine (bWriteString0_w b v (toI l) s (((s.length : Int), (), toI l ++ toI s)) ?_).sub (RleAll.refl _) (fun r H h => by obtain ⟨w0, h1, h2⟩ := h; exact ⟨w0, h1, h2⟩)
    simp only [bWriteString0, bCopy0, obn, toI_len]
    simp [chk, g1]
  · refine (bWriteString1_w b v (toI l) s (((s.length : Int), (), toI l ++ toI s)) ?_).sub (RleAll.refl _) (fun r H h => by obtain ⟨w0, h1, h2⟩ := h; exact ⟨w0, h1, h2⟩)
    simp only [bWriteString1, bCopy1, obn, toI_len]
    simp [chk, g1]
theorem bstring_q (b : Nat) (v : Value) (l : Str) (g1 : decide (0 < l.length) = true) : Fn Tryd.prog GE 30 [rv (.pointer (some ⟨b, 0, none⟩))] [.bld 65 5 b v l] (fun R H => R = rS l ∧ H = []) := by
  refine Fn.bldS (res := rS l) fun p hp => ?_
  rcases hp with rfl | rfl
  · exact bString0_w b v l l (by simp only [bString0, toI_len]; simp [chk, g1])
  · exact bString1_w b v l l (by simp only [bString1, toI_len]; simp [chk, g1])

end Go.Proofs.YtpmiamphppcfeaaDoor.Q

/-
 What functions compute, with checks: plain definitions, printed by a small program of ours (gq.py). No program in sight.
-/
namespace Go.Proofs.YtpmiamphppcfeaaDoor
open Go
set_option linter.unusedVariables false

end Go.Proofs.YtpmiamphppcfeaaDoor

/-
  Walks, printed by a small program of ours (gq.py).
-/
namespace Go.Proofs.YtpmiamphppcfeaaDoor.Q
open Go Go.RowKit
set_option linter.unusedVariables false
set_option linter.unusedSimpArgs false
set_option maxRecDepth 100000
set_option maxHeartbeats 4000000

end Go.Proofs.YtpmiamphppcfeaaDoor.Q

/-
 What functions compute, with checks: plain definitions, printed by a small program of ours (gq.py). No program in sight.
-/
namespace Go.Proofs.YtpmiamphppcfeaaDoor
open Go
set_option linter.unusedVariables false
structure TApiCell where
 fKind : Int
 fInt : Int
 fStr : Str
 fN : Int
 deriving DecidableEq, Inhabited
structure TValueOpen where
 fPairs : Bool
 fLeft : Int
 fKey : Bool
 fLast : Str
 fStarted : Bool
 deriving DecidableEq, Inhabited
structure TValueShape where
 fDepth : Int
 fBytes : Int
 fOutside : Bool
 fLong : Bool
 deriving DecidableEq, Inhabited
def nValid (n : Int) : Option (Bool) :=
 some ((decide ((-1000000000000) ≤ n)) && (decide (n ≤ 1000000000000)))

def vText_b1 (s : Str) (x22 : Int) : Option (Stp (Int) (Out (Bool) (Unit))) :=
 cnd (decide (x22 < (s.length : Int))) (chk (inR x22 (s.length : Int)) <| cnd (((decide ((bat s x22) < 32)) || (decide (126 < (bat s x22))))) (some (.out (.ret false))) (chk (inK .i64 (x22 + 1)) <| some (.next (x22 + 1)))) (some (.out (.go ())))

def vText_k1  : Option (Bool) :=
 some true

def vText (F : Nat) (s : Str) : Option (Bool) :=
 obn (lop (fun σ => vText_b1 s σ) F 0) (oute fun ν => vText_k1 )

def vQuoted (s : Str) : Option (Int) :=
 chk (inK .i64 ((s.length : Int) + 2)) <| chk (inK .i64 (((s.length : Int) + 2) + (Lib.countByte s 34 : Int))) <| chk (inK .i64 ((((s.length : Int) + 2) + (Lib.countByte s 34 : Int)) + (Lib.countByte s 92 : Int))) <| some ((((s.length : Int) + 2) + (Lib.countByte s 34 : Int)) + (Lib.countByte s 92 : Int))

def vPlain (F : Nat) (c : TApiCell) : Option (Bool) :=
 cnd (decide (c.fKind = 1)) (some ((decide (c.fInt = 0)) && ((decide (c.fStr = ([] : Str))) && (decide (c.fN = 0))))) (cnd (decide (c.fKind = 2)) (some (bif decide (c.fInt = 0) then ((decide (c.fStr = ([] : Str))) && (decide (c.fN = 0))) else ((decide (c.fInt = 1)) && ((decide (c.fStr = ([] : Str))) && (decide (c.fN = 0)))))) (cnd (decide (c.fKind = 3)) (some ((decide (c.fStr = ([] : Str))) && (decide (c.fN = 0)))) (cnd (decide (c.fKind = 4)) (chk (imp (decide (c.fInt = 0)) (imp (decide (c.fN = 0)) ((vText F c.fStr).isSome))) <| some ((decide (c.fInt = 0)) && ((decide (c.fN = 0)) && (ov (vText F c.fStr))))) (cnd (decide (c.fKind = 5)) (some ((decide (c.fInt = 0)) && ((decide (c.fStr = ([] : Str))) && (decide (0 ≤ c.fN))))) (cnd (decide (c.fKind = 6)) (some ((decide (c.fInt = 0)) && ((decide (c.fStr = ([] : Str))) && (decide (0 ≤ c.fN))))) (some false))))))

def vSize (c : TApiCell) : Option (Int) :=
 cnd (decide (c.fKind = 1)) (some 4) (cnd (decide (c.fKind = 2)) (some (IntKind.wrap .i64 (5 - c.fInt))) (cnd (decide (c.fKind = 3)) (chk (inK .i64 c.fInt) <| some ((Lib.itoa c.fInt).length : Int)) (cnd (decide (c.fKind = 4)) (obn (vQuoted c.fStr) fun r15 => some r15) (some (IntKind.wrap .i64 (2 + (max 0 (IntKind.wrap .i64 (c.fN - 1)))))))))

def vClosed_b1 (x159 : (List TValueOpen)) : Option (Stp ((List TValueOpen)) (Out ((List TValueOpen)) ((List TValueOpen)))) :=
 cnd (decide (0 < (x159.length : Int))) (chk (inK .i64 ((x159.length : Int) - 1)) <| chk (inR ((x159.length : Int) - 1) (x159.length : Int)) <| chk (inK .i64 (((at' x159 ((x159.length : Int) - 1)).fLeft) - 1)) <| bnd (List.set x159 (Int.toNat ((x159.length : Int) - 1)) (TValueOpen.mk ((at' x159 ((x159.length : Int) - 1)).fPairs) (((at' x159 ((x159.length : Int) - 1)).fLeft) - 1) ((at' x159 ((x159.length : Int) - 1)).fKey) ((at' x159 ((x159.length : Int) - 1)).fLast) ((at' x159 ((x159.length : Int) - 1)).fStarted))) fun r203 => cnd (decide (0 < ((at' r203 ((x159.length : Int) - 1)).fLeft))) (bnd (List.set r203 (Int.toNat ((x159.length : Int) - 1)) (TValueOpen.mk ((at' r203 ((x159.length : Int) - 1)).fPairs) ((at' r203 ((x159.length : Int) - 1)).fLeft) ((at' r203 ((x159.length : Int) - 1)).fPairs) ((at' r203 ((x159.length : Int) - 1)).fLast) ((at' r203 ((x159.length : Int) - 1)).fStarted))) fun r208 => some (.out (.ret r208))) (chk (inK .i64 ((r203.length : Int) - 1)) <| chk (inC ((r203.length : Int) - 1) (r203.length : Int)) <| some (.next (List.take (Int.toNat ((r203.length : Int) - 1)) r203)))) (some (.out (.go x159)))

def vClosed_k1 (x184 : (List TValueOpen)) : Option ((List TValueOpen)) :=
 some x184

def vClosed (F : Nat) (stack : (List TValueOpen)) : Option ((List TValueOpen)) :=
 obn (lop (fun σ => vClosed_b1 σ) F stack) (oute fun ν => vClosed_k1 ν)

def vLook_j2 (x235 : Int) (x468 : (List TValueOpen)) (x470 : TValueShape) : Option (Stp ((List TValueOpen) × Int × TValueShape) (Out (Int × TValueShape × Bool) (TValueShape))) :=
 chk (inK .i64 (x235 + 1)) <| some (.next (x468, x235 + 1, x470))

def vLook_b1 (F : Nat) (v : (List TApiCell)) (x233 : (List TValueOpen)) (x235 : Int) (x236 : TValueShape) : Option (Stp ((List TValueOpen) × Int × TValueShape) (Out (Int × TValueShape × Bool) (TValueShape))) :=
 cnd (decide (x235 < (v.length : Int))) (chk (inR x235 (v.length : Int)) <| obn (vPlain F (at' v x235)) fun r474 => cnd (!r474) (some (.out (.ret (0, x236, false)))) (chk (imp (decide (0 < (x233.length : Int))) (inK .i64 ((x233.length : Int) - 1))) <| chk (imp (decide (0 < (x233.length : Int))) (inR ((x233.length : Int) - 1) (x233.length : Int))) <| cnd (((decide (0 < (x233.length : Int))) && ((at' x233 ((x233.length : Int) - 1)).fKey))) (chk (inK .i64 ((x233.length : Int) - 1)) <| chk (inR ((x233.length : Int) - 1) (x233.length : Int)) <| cnd (((!decide (((at' v x235).fKind) = 4)) || (((at' x233 ((x233.length : Int) - 1)).fStarted) && (sLess ((at' v x235).fStr) ((at' x233 ((x233.length : Int) - 1)).fLast) || decide (((at' v x235).fStr) = ((at' x233 ((x233.length : Int) - 1)).fLast)))))) (some (.out (.ret (0, x236, false)))) (bnd (List.set x233 (Int.toNat ((x233.length : Int) - 1)) (TValueOpen.mk ((at' x233 ((x233.length : Int) - 1)).fPairs) ((at' x233 ((x233.length : Int) - 1)).fLeft) ((at' x233 ((x233.length : Int) - 1)).fKey) ((at' v x235).fStr) ((at' x233 ((x233.length : Int) - 1)).fStarted))) fun r498 => bnd (List.set r498 (Int.toNat ((x233.length : Int) - 1)) (TValueOpen.mk ((at' r498 ((x233.length : Int) - 1)).fPairs) ((at' r498 ((x233.length : Int) - 1)).fLeft) ((at' r498 ((x233.length : Int) - 1)).fKey) ((at' r498 ((x233.length : Int) - 1)).fLast) true)) fun r501 => bnd (List.set r501 (Int.toNat ((x233.length : Int) - 1)) (TValueOpen.mk ((at' r501 ((x233.length : Int) - 1)).fPairs) ((at' r501 ((x233.length : Int) - 1)).fLeft) false ((at' r501 ((x233.length : Int) - 1)).fLast) ((at' r501 ((x233.length : Int) - 1)).fStarted))) fun r504 => obn (vQuoted ((at' v x235).fStr)) fun r507 => chk (inK .i64 (r507 + 1)) <| vLook_j2 x235 r504 (TValueShape.mk x236.fDepth (IntKind.wrap .i64 (x236.fBytes + (r507 + 1))) x236.fOutside (x236.fLong || (decide (200 < (((at' v x235).fStr).length : Int))))))) (chk (inK .i64 ((x233.length : Int) + 1)) <| obn (vSize (at' v x235)) fun r516 => chk (imp (!x236.fOutside) (imp (decide (((at' v x235).fKind) = 3)) ((nValid ((at' v x235).fInt)).isSome))) <| cnd (decide (0 < ((at' v x235).fN))) (cnd (decide ((v.length : Int) < ((at' v x235).fN))) (some (.out (.ret (0, (TValueShape.mk (max x236.fDepth ((x233.length : Int) + 1)) (IntKind.wrap .i64 (x236.fBytes + r516)) (x236.fOutside || ((decide (((at' v x235).fKind) = 3)) && (!(ov (nValid ((at' v x235).fInt)))))) (x236.fLong || (decide (200 < (((at' v x235).fStr).length : Int))))), false)))) (chk (inA 48 (x233.length + ([(TValueOpen.mk (decide (((at' v x235).fKind) = 6)) ((at' v x235).fN) (decide (((at' v x235).fKind) = 6)) ([] : Str) false)] : List TValueOpen).length)) <| vLook_j2 x235 (x233 ++ ([(TValueOpen.mk (decide (((at' v x235).fKind) = 6)) ((at' v x235).fN) (decide (((at' v x235).fKind) = 6)) ([] : Str) false)] : List TValueOpen)) (TValueShape.mk (max x236.fDepth ((x233.length : Int) + 1)) (IntKind.wrap .i64 (x236.fBytes + r516)) (x236.fOutside || ((decide (((at' v x235).fKind) = 3)) && (!(ov (nValid ((at' v x235).fInt)))))) (x236.fLong || (decide (200 < (((at' v x235).fStr).length : Int))))))) (obn (vClosed F x233) fun r535 => cnd (decide ((r535.length : Int) = 0)) (chk (inK .i64 (x235 + 1)) <| some (.out (.ret (x235 + 1, (TValueShape.mk (max x236.fDepth ((x233.length : Int) + 1)) (IntKind.wrap .i64 (x236.fBytes + r516)) (x236.fOutside || ((decide (((at' v x235).fKind) = 3)) && (!(ov (nValid ((at' v x235).fInt)))))) (x236.fLong || (decide (200 < (((at' v x235).fStr).length : Int))))), true)))) (vLook_j2 x235 r535 (TValueShape.mk (max x236.fDepth ((x233.length : Int) + 1)) (IntKind.wrap .i64 (x236.fBytes + r516)) (x236.fOutside || ((decide (((at' v x235).fKind) = 3)) && (!(ov (nValid ((at' v x235).fInt)))))) (x236.fLong || (decide (200 < (((at' v x235).fStr).length : Int)))))))))) (some (.out (.go x236)))

def vLook_k1 (x386 : TValueShape) : Option (Int × TValueShape × Bool) :=
 some (0, x386, false)

def vLook (F : Nat) (v : (List TApiCell)) : Option (Int × TValueShape × Bool) :=
 obn (lop (fun σ => vLook_b1 F v σ.1 σ.2.1 σ.2.2) F (([] : List TValueOpen), 0, (TValueShape.mk 0 0 false false))) (oute fun ν => vLook_k1 ν)

def vCheck (F : Nat) (v : (List TApiCell)) : Option (Int) :=
 obn (vLook F v) fun r1 => cnd (((!r1.2.2) || (!decide (r1.1 = (v.length : Int))))) (some 1) (cnd (r1.2.1.fOutside) (some 2) (cnd ((r1.2.1.fLong || ((decide (200 < (v.length : Int))) || ((decide (8 < r1.2.1.fDepth)) || (decide (4000 < r1.2.1.fBytes)))))) (some 3) (some 0)))

def vChecked (F : Nat) (v : (List TApiCell)) : Option ((List TApiCell) × Int) :=
 obn (vCheck F v) fun r1 => cnd (!decide (r1 = 0)) (some (([] : List TApiCell), r1)) (some (v, 0))

end Go.Proofs.YtpmiamphppcfeaaDoor
