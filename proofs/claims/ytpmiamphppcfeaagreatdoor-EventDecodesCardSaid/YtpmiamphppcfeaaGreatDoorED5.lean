/-
  Texts of the proof, put together: QX, WFr, PEa, QN, WEa, PEb, WEb, PEc, WEc, OkEventDecodes, LvA, LvB, LvC, LvD, LvE, LvF, LvG, LvH, LvI, LvJ, LvK.
-/
import Derived.Test.YtpmiamphppcfeaaGreatDoorED4
import GoSem.ClaimData
/-
 Regions that draw, with one operation that turns entries and yields a value that is not known before (an append), operations in a row behind them. Plain theorems over any program; no condition.
-/
namespace Go.Proofs.YtpmiamphppcfeaaGreatDoor.Q
open Go Go.RowKit
set_option linter.unusedVariables false
set_option linter.unusedSimpArgs false
structure Sx where
 deps : List Nat
 r : Value → Rp
 dyn : Bool := false
 old : List Nat := []
def sxs (sp : List Sx) (i : Nat) : Sx := sp.getD i { deps := [], r := fun _ => rv undef }
def sxu (sp : List Sx) (u : Value) : List Sp := sp.map fun s => ⟨s.deps, s.r u, 0⟩
def saU (sp : List Sx) (u : Value) : List Sa := sp.map fun s => { deps := s.deps, r := s.r u }
def Stat : List Sx → Prop
 | [] => True
 | s :: r => (s.dyn = false → ∀ u u', s.r u = s.r u') ∧ Stat r
theorem Stat.at : ∀ {sp : List Sx}, Stat sp → ∀ {i : Nat} {s : Sx}, sp[i]? = some s → s.dyn = false → ∀ u u', s.r u = s.r u'
 | [], _, i, s, h => by simp at h
 | x :: sp, ⟨h1, h2⟩, 0, s, h => by simp at h; subst h; exact h1
 | x :: sp, ⟨h1, h2⟩, i + 1, s, h => Stat.at h2 (by simpa using h)
theorem st_c {ds os : List Nat} {r : Rp} {sp : List Sx} (h : Stat sp) : Stat ({ deps := ds, r := fun _ => r, old := os } :: sp) := ⟨fun _ _ _ => rfl, h⟩
theorem st_d {ds os : List Nat} {r : Value → Rp} {sp : List Sx} (h : Stat sp) : Stat ({ deps := ds, r := r, dyn := true, old := os } :: sp) := ⟨fun h' => (by cases h'), h⟩
def oldFr (lw : Fr) : List Nat → Fr → Fr
 | [], l => l
 | d :: r, l => match look lw d with
  | some q => (d, q) :: oldFr lw r l
  | none => oldFr lw r l
theorem agr_old {n : Nat} {lw l : Fr} {a : Act} {Z : Fz} (h0 : Agr n l a Z) : ∀ {ds : List Nat}, (∀ d ∈ ds, ∀ q, look lw d = some q → ∃ v, a.tmps[d]? = some v ∧ q.p Z v) → Agr n (oldFr lw ds l) a Z
 | [], _ => h0
 | d :: ds, h => by
  have ih := agr_old h0 (ds := ds) (fun d' hd' => h d' (by simp [hd']))
  unfold oldFr
  cases hd : look lw d with
  | none => exact ih
  | some q =>
   refine ⟨ih.size, ih.defers, fun i r hi => ?_⟩
   rw [look_cons] at hi
   split at hi
   ·rename_i e; subst e; simp at hi; subst hi; exact h d (by simp) q hd
   ·exact ih.tm i r hi
theorem st_n : Stat [] := trivial
def okX (n : Nat) (ops : List Oper) (N i0 : Nat) (keys : List Nat) (deps : List (List Nat)) (dyns : List Bool) (olds : List (List Nat)) : Bool :=
 chainB ops N && decide (N ≤ ops.length) && decide (i0 < N) &&
 (List.range N).all (fun i => match dstOf ops i with
  | some d => decide (d < n) && !keys.contains d && (List.range N).all (fun j => j == i || dstOf ops j != some d)
  | none => true) &&
 (List.range N).all (fun i => (deps.getD i []).all (fun j => decide (j < N) && (bnds (ops.getD i default)).contains j)) &&
 (List.range N).all (fun i => !dyns.getD i false || i == i0 || (bnds (ops.getD i default)).any (fun e => decide (e < N) && (e == i0 || dyns.getD e false))) &&
 (List.range N).all (fun i => (olds.getD i []).all (fun d => (List.range N).all (fun w => dstOf ops w != some d || (bnds (ops.getD w default)).contains i)))
section
variable (P : Program) (n : Nat) (c : Cx) (opsA : Array Oper) (Q : Exit → Act → World → Prop)
def OpX (l : Fr) (H : List Ent) (o : Oper) (H1 : Value → List Ent) : Prop :=
 ∀ a w Z (K : Act → World → Prop), Agr n l a Z → St c H Z w → (∀ v w' Z', Fz.le Z Z' → St c (H1 v) Z' w' → K (a.put o.dst v) w') →
  Region.wanted o (yielded opsA a.tmps) = true ∧ o.wp P a w K Q
def OblX (ops : List Oper) (sp : List Sx) (l0 lw : Fr) (i0 : Nat) (H : List Ent) (H1 : Value → List Ent) : Nat → List Oper → Prop
 | i, o :: rest => (if i = i0 then (∀ u, OpX P n c opsA Q (oldFr lw (sxs sp i).old (depFr ops (sxu sp u) (sxs sp i).deps l0)) H o H1) else ∀ u H, OpOk P n c opsA Q (oldFr lw (sxs sp i).old (depFr ops (sxu sp u) (sxs sp i).deps l0)) H o ((sxs sp i).r u) H) ∧ OblX ops sp l0 lw i0 H H1 (i + 1) rest
 | _, [] => True
end
section
variable {P : Program} {n : Nat} {c : Cx} {opsA : Array Oper} {Q : Exit → Act → World → Prop} {l l0 lw : Fr} {H : List Ent} {H1 : Value → List Ent} {sp : List Sx} {i0 : Nat}
theorem OblX.at {ops : List Oper} : ∀ {k : Nat} {rest : List Oper}, OblX P n c opsA Q ops sp l0 lw i0 H H1 k rest → ∀ (t : Nat) o, rest[t]? = some o →
  (if k + t = i0 then (∀ u, OpX P n c opsA Q (oldFr lw (sxs sp (k + t)).old (depFr ops (sxu sp u) (sxs sp (k + t)).deps l0)) H o H1) else ∀ u H, OpOk P n c opsA Q (oldFr lw (sxs sp (k + t)).old (depFr ops (sxu sp u) (sxs sp (k + t)).deps l0)) H o ((sxs sp (k + t)).r u) H)
 | k, o :: rest, ⟨h1, h2⟩, t, o', ht => by
  cases t with
  | zero => simp at ht; subst ht; exact h1
  | succ t =>
   have := OblX.at h2 t o' (by simpa using ht)
   rw [show k + (t + 1) = k + 1 + t from by omega]
   exact this
 | _, [], _, t, o, h => by simp at h
theorem wc_rdx0 {id : Nat} {ops : List Oper} (N i0 : Nat) (sp : List Sx) (hm : P.follows .mixedOrders = true) (hB : okX n ops N i0 (keysOf l0) (sp.map (·.deps)) (sp.map (·.dyn)) (sp.map (·.old)) = true) (hl0 : SubL l0 l) (hlw : SubL lw l) (hsp : sp.length = N) (hst : Stat sp) (hri : ∀ u, (sxs sp i0).r u = rv u)
  (hob : OblX P n c ops.toArray Q ops sp l0 lw i0 H H1 0 (ops.take N)) (h : ∀ u, WL P n c ops.toArray Q (ops.drop N) (zipA (fun _ => 0) (ops.take N) (saU sp u) 0 l0) (H1 u)) : WC P n c (.region id ops.toArray true) Q l H := by
 intro a w Z ha hw
 simp only [okX, Bool.and_eq_true, List.all_eq_true, List.mem_range, decide_eq_true_eq] at hB
 obtain ⟨⟨⟨⟨⟨⟨b1, bN⟩, b0⟩, b2⟩, b3⟩, b4⟩, b5⟩ := hB
 have hget : ∀ i, i < N → (ops.take N)[i]? = ops[i]? := fun i hi => by rw [List.getElem?_take, if_pos hi]
 have hsa : ∀ i, i < N → sp[i]? = some (sxs sp i) := fun i hi => by
  simp [sxs, List.getD_eq_getElem?_getD, List.getElem?_eq_getElem (show i < sp.length by omega)]
 have hspq : ∀ u i, i < N → (sps (sxu sp u) i) = ⟨(sxs sp i).deps, (sxs sp i).r u, 0⟩ := fun u i hi => by
  simp [sps, sxu, List.getD_eq_getElem?_getD, List.getElem?_map, hsa i hi]
 have hdyn : ∀ j, j < N → (sp.map (·.dyn)).getD j false = (sxs sp j).dyn := fun j hj => by simp [List.getD_eq_getElem?_getD, List.getElem?_map, hsa j hj]
 have hdep : ∀ j, j < N → (sp.map (·.deps)).getD j [] = (sxs sp j).deps := fun j hj => by simp [List.getD_eq_getElem?_getD, List.getElem?_map, hsa j hj]
 have hops : ∀ j, j < N → ∃ o, ops[j]? = some o := fun j hj => ⟨ops[j]'(by omega), List.getElem?_eq_getElem (by omega)⟩
 have hdst : ∀ i o d, i < N → ops[i]? = some o → o.dst = some d → (d < n ∧ d ∉ keysOf l0) ∧ ∀ j, j < N → j ≠ i → dstOf ops j ≠ some d := fun i o d hi ho hd => by
  have h3 := b2 i hi
  have : dstOf ops i = some d := by simp [dstOf, ho, hd]
  rw [this] at h3
  simp only [Bool.and_eq_true, Bool.not_eq_true', List.all_eq_true, List.mem_range, decide_eq_true_eq] at h3
  refine ⟨⟨h3.1.1, fun hmem => by rw [← List.contains_iff_mem] at hmem; rw [hmem] at h3; cases h3.1.2⟩, fun j hj hne he => ?_⟩
  have := h3.2 j hj
  simp [hne, he] at this
 refine wp_inv (N := N) hm b1 bN (fun S a w => ∃ (u : Value) (Z : Fz), St c (if S i0 = true then H1 u else H) Z w ∧ Agr n l0 a Z ∧ (∀ j o d, j < N → S j = true → ops[j]? = some o → o.dst = some d → ∃ v, a.tmps[d]? = some v ∧ ((sxs sp j).r u).p Z v) ∧
   (∀ j, j < N → (sxs sp j).dyn = true → S j = true → S i0 = true) ∧
   (∀ d q, look lw d = some q → (∀ wr, wr < N → dstOf ops wr = some d → S wr = false) → ∃ v, a.tmps[d]? = some v ∧ q.p Z v) ∧
   ∀ wr i d, wr < N → i < N → dstOf ops wr = some d → d ∈ (sxs sp i).old → S wr = true → S i = true)
  (fun S S' a w hS hI => ?_) ⟨undef, Z, ?_, ha.subL hl0, fun j o d _ hS => (by cases hS), fun j _ _ hS => (by cases hS), fun d q hd _ => (ha.subL hlw).tm d q hd, fun wr i d _ _ _ _ hS => (by cases hS)⟩ (fun S i o a w hi hun ho hb hI K hK => ?_) (fun a w hI => ?_)
 ·obtain ⟨u, Z, h1, h2, h3, h4, h5, h6⟩ := hI
  refine ⟨u, Z, ?_, h2, fun j o d hj hS' => h3 j o d hj (by rw [hS j hj]; exact hS'), fun j hj hd hSj => ?_, fun d q hd hw' => h5 d q hd (fun wr hwr hdw => by rw [hS wr hwr]; exact hw' wr hwr hdw), fun wr i d hwr hi hdw hold hSw => by rw [← hS i hi]; exact h6 wr i d hwr hi hdw hold (by rw [hS wr hwr]; exact hSw)⟩
  ·rw [← hS i0 b0]; exact h1
  ·rw [← hS i0 b0]; exact h4 j hj hd (by rw [hS j hj]; exact hSj)
 ·exact hw.drawn _
 ·obtain ⟨u, Z, h1, h2, h3, hx, ho5, ho6⟩ := hI
  have hput : ∀ k u v, a.tmps[k]? = some u → o.dst ≠ some k → (a.put o.dst v).tmps[k]? = some u := fun k u v hk hne => by
   cases hd : o.dst with
   | none => simpa [Act.put] using hk
   | some d =>
    simp only [Act.put, Array.getElem?_setIfInBounds]
    rw [if_neg (fun e => hne (by rw [hd, e]))]; exact hk
  have hagr : ∀ v Z', Fz.le Z Z' → Agr n l0 (a.put o.dst v) Z' := fun v Z' hz => by
   refine ⟨?_, ?_, fun k r hk => ?_⟩
   ·cases o.dst <;> simp [Act.put, h2.size]
   ·cases o.dst <;> simp [Act.put, h2.defers]
   ·obtain ⟨u, hu, hpu⟩ := h2.tm k r hk
    exact ⟨u, hput k u v hu (fun e => ((hdst i o k hi ho e).1).2 (look_mem hk)), r.mono hz hpu⟩
  have hvals : ∀ (v : Value) (Z' : Fz) (u' : Value), Fz.le Z Z' → (∀ j, j < N → j ≠ i → S j = true → (sxs sp j).r u' = (sxs sp j).r u) → (o.dst ≠ none → ((sxs sp i).r u').p Z' v) → ∀ j o' d, j < N → (j == i || S j) = true → ops[j]? = some o' → o'.dst = some d → ∃ q, (a.put o.dst v).tmps[d]? = some q ∧ ((sxs sp j).r u').p Z' q := by
   intro v Z' u' hz hβ hp j o' d hj hS' ho' hd
   by_cases hji : j = i
   ·subst hji
    rw [ho] at ho'; simp at ho'; subst ho'
    refine ⟨v, ?_, hp (by simp [hd])⟩
    have hdn : d < a.tmps.size := by rw [h2.size]; exact (hdst j o d hi ho hd).1.1
    simp [Act.put, hd, hdn]
   ·have hSj : S j = true := by simpa [hji] using hS'
    obtain ⟨q, hu, hpu⟩ := h3 j o' d hj hSj ho' hd
    refine ⟨q, hput d q v hu (fun e => (hdst i o d hi ho e).2 j hj hji (by simp [dstOf, ho', hd])), ?_⟩
    rw [hβ j hj hji hSj]; exact ((sxs sp j).r u).mono hz hpu
  have hat := hob.at i o (by rw [hget i hi]; exact ho)
  rw [Nat.zero_add] at hat
  have hold' : ∀ Z', Fz.le Z Z' → ∀ v d q, look lw d = some q → (∀ wr, wr < N → dstOf ops wr = some d → (wr == i || S wr) = false) → ∃ v', (a.put o.dst v).tmps[d]? = some v' ∧ q.p Z' v' := fun Z' hz v d q hd hw' => by
   obtain ⟨v', e1, e2⟩ := ho5 d q hd (fun wr hwr hdw => by have := hw' wr hwr hdw; simp only [Bool.or_eq_false_iff] at this; exact this.2)
   refine ⟨v', hput d v' v e1 (fun e => ?_), q.mono hz e2⟩
   have := hw' i hi (by simp [dstOf, ho, e])
   simp at this
  have hord : ∀ wr k d, wr < N → k < N → dstOf ops wr = some d → d ∈ (sxs sp k).old → (wr == i || S wr) = true → (k == i || S k) = true := fun wr k d hwr hk hdw hmem hSw => by
   by_cases hwi : wr = i
   ·subst hwi
    have h7 := b5 k hk d (by simpa [List.getD_eq_getElem?_getD, List.getElem?_map, hsa k hk] using hmem) wr hwr
    simp only [Bool.or_eq_true, bne_iff_ne, ne_eq, hdw, not_true_eq_false, false_or] at h7
    rw [List.getD_eq_getElem?_getD, ho, Option.getD_some, List.contains_iff_mem] at h7
    simp [(hb k h7).2]
   ·have : S k = true := ho6 wr k d hwr hk hdw hmem (by simpa [hwi] using hSw)
    simp [this]
  have hag' : Agr n (oldFr lw (sxs sp i).old (depFr ops (sxu sp u) (sxs sp i).deps l0)) a Z := agr_old (agr_dep h2 (fun j hj d hd => by
    obtain ⟨h5, h6⟩ := b3 i hi j (by rw [hdep i hi]; exact hj)
    rw [List.getD_eq_getElem?_getD, ho, Option.getD_some, List.contains_iff_mem] at h6
    obtain ⟨o2, ho2⟩ := hops j h5
    obtain ⟨v, hv1, hv2⟩ := h3 j o2 d h5 (hb j h6).2 ho2 (by simpa [dstOf, ho2] using hd)
    refine ⟨v, hv1, ?_⟩
    rw [hspq u j h5]
    exact hv2)) (fun d hd q hq => ho5 d q hq (fun wr hwr hdw => by
     cases hS : S wr with
     | false => rfl
     | true => have := ho6 wr i d hwr hi hdw hd hS; rw [this] at hun; cases hun))
  by_cases hi0 : i = i0
  ·subst hi0
   rw [if_pos rfl] at hat
   rw [hun] at h1
   have h1' : St c H Z w := by simpa using h1
   have key := fun K' hK' => hat u a w Z K' hag' h1' hK'
   have h5 : ∀ v w' Z', Fz.le Z Z' → St c (H1 v) Z' w' → K (a.put o.dst v) w' := fun v w' Z' hz hs' => by
    refine hK _ _ ⟨v, Z', by simpa using hs', hagr v Z' hz, hvals v Z' v hz (fun j hj hji hSj => ?_) (fun _ => by rw [hri v]; rfl), fun j _ _ _ => by simp, hold' Z' hz v, hord⟩
    refine hst.at (hsa j hj) ?_ v u
    cases hd : (sxs sp j).dyn with
    | false => rfl
    | true => have := hx j hj hd hSj; rw [this] at hun; cases hun
   refine ⟨fun _ => (key K h5).2, fun hw' => ?_⟩
   rw [(key K h5).1] at hw'; cases hw'
  ·rw [if_neg hi0] at hat
   refine hat u _ a w Z K hag' h1 (fun v w' Z' hz hp hst' => hK _ _ ⟨u, Z', ?_, hagr v Z' hz, hvals v Z' u hz (fun _ _ _ _ => rfl) (fun _ => hp), fun j hj hd hSj => ?_, hold' Z' hz v, hord⟩)
   ·have hiS : (i0 == i || S i0) = S i0 := by
     have : (i0 == i) = false := by simpa using fun e => hi0 e.symm
     rw [this]; rfl
    show St c (if (i0 == i || S i0) = true then H1 u else H) Z' w'
    rw [hiS]; exact hst'
   ·have hii : (i0 == i) = false := by simpa using fun e => hi0 e.symm
    show (i0 == i || S i0) = true
    rw [hii, Bool.false_or]
    by_cases hji : j = i
    ·subst hji
     have h7 := b4 j hj
     rw [hdyn j hj, hd] at h7
     simp only [Bool.not_true, Bool.false_or, Bool.or_eq_true, beq_iff_eq, hi0, false_or, List.any_eq_true, Bool.and_eq_true, decide_eq_true_eq] at h7
     obtain ⟨e, he, heN, h8⟩ := h7
     rw [List.getD_eq_getElem?_getD, ho, Option.getD_some] at he
     have hSe := (hb e he).2
     rcases h8 with h8 | h8
     ·subst h8; exact hSe
     ·rw [hdyn e heN] at h8; exact hx e heN h8 hSe
    ·exact hx j hj hd (by simpa [hji] using hSj)
 ·obtain ⟨u, Z, h1, h2, h3, _, _, _⟩ := hI
  have hsl : (saU sp u).length = N := by simp [saU, hsp]
  refine h u a w Z (agr_zip h2 _ _ 0 (fun t o s d ht hs hd => ?_)) (by simpa using h1)
  have htN : t < N := by have := (List.getElem?_eq_some_iff.1 hs).1; omega
  have hs' : s = { deps := (sxs sp t).deps, r := (sxs sp t).r u } := by
   simp only [saU, List.getElem?_map, hsa t htN, Option.map_some, Option.some.injEq] at hs; exact hs.symm
  subst hs'
  rw [Nat.zero_add]
  exact h3 t o d htN rfl (by rw [← hget t htN]; exact ht) hd
theorem wc_rdx {id : Nat} {ops : List Oper} (N i0 : Nat) (ks0 ksw : List Nat) (sp : List Sx) (H1 : Value → List Ent) (hob : OblX P n c ops.toArray Q ops sp l0 lw i0 H H1 0 (ops.take N)) (h : ∀ u, WL P n c ops.toArray Q (ops.drop N) (zipA (fun _ => 0) (ops.take N) (saU sp u) 0 l0) (H1 u))
  (h0 : Kp ks0 l l0 := by repeat (first | exact kp_n | (apply kp_y; rfl) | (apply kp_d; rfl))) (hw : Kp ksw l lw := by repeat (first | exact kp_n | (apply kp_y; rfl) | (apply kp_d; rfl))) (hm : P.follows .mixedOrders = true := by kernel_rfl) (hB : okX n ops N i0 (keysOf l0) (sp.map (·.deps)) (sp.map (·.dyn)) (sp.map (·.old)) = true := by kernel_rfl)
  (hsp : sp.length = N := by rfl) (hst : Stat sp := by repeat (first | exact st_n | apply st_c | apply st_d)) (hri : ∀ u, (sxs sp i0).r u = rv u := by exact fun _ => rfl) : WC P n c (.region id ops.toArray true) Q l H := wc_rdx0 N i0 sp hm hB h0.one hw.one hsp hst hri hob h
theorem oxq {all rest : List Oper} {d : Nat} {op : Op} {ty : TypeId} {pos : String} {af : Array Edge} {i : Nat} (hr : ∀ {u H}, ORun P n c (oldFr lw (sxs sp i).old (depFr all (sxu sp u) (sxs sp i).deps l0)) H { dst := some d, op := op, type := ty, pos := pos, after := af, guard := none } ((sxs sp i).r u)) (h : OblX P n c opsA Q all sp l0 lw i0 H H1 (i + 1) rest) (hne : Nat.beq i i0 = false := by rfl) :
  OblX P n c opsA Q all sp l0 lw i0 H H1 i ({ dst := some d, op := op, type := ty, pos := pos, after := af, guard := none } :: rest) := by
 refine ⟨?_, h⟩
 rw [if_neg (fun e => by subst e; simp at hne)]; exact fun u H => ok_v hr
theorem oxc {all rest : List Oper} {o : Oper} {i : Nat} (hr : ∀ {u H}, OpOk P n c opsA Q (oldFr lw (sxs sp i).old (depFr all (sxu sp u) (sxs sp i).deps l0)) H o ((sxs sp i).r u) H) (h : OblX P n c opsA Q all sp l0 lw i0 H H1 (i + 1) rest) (hne : Nat.beq i i0 = false := by rfl) : OblX P n c opsA Q all sp l0 lw i0 H H1 i (o :: rest) := by
 refine ⟨?_, h⟩
 rw [if_neg (fun e => by subst e; simp at hne)]; exact fun u H => hr
theorem oxx {all rest : List Oper} {o : Oper} (hr : ∀ {u}, OpX P n c opsA Q (oldFr lw (sxs sp i0).old (depFr all (sxu sp u) (sxs sp i0).deps l0)) H o H1) (h : OblX P n c opsA Q all sp l0 lw i0 H H1 (i0 + 1) rest) : OblX P n c opsA Q all sp l0 lw i0 H H1 i0 (o :: rest) := by
 refine ⟨?_, h⟩
 rw [if_pos rfl]; exact fun u => hr
theorem oxe {all : List Oper} {i : Nat} : OblX P n c opsA Q all sp l0 lw i0 H H1 i [] := trivial
end
section
variable {P : Program} {n : Nat} {c : Cx} {opsA : Array Oper} {Q : Exit → Act → World → Prop} {l : Fr} {H : List Ent} {d : Nat} {x y : Operand} {ty t e : TypeId} {pos : String} {af : Array Edge} {v : Value} {sz : Nat}
theorem x_append {α : Type} {xs ys : List α} {enc : α → List Rp} {i : Nat} {inf : TypeInfo} {z : Value} {bytes : Nat} (ht : P.underlying t = some (.slice e)) (hinf : P.info? e = some inf) (hz : inf.zero = some z) (hsize : inf.size = sz) (hby : inf.bytes = bytes) (hzs : z.cells.size = sz) (hsz : Nat.blt 0 sz = true) (hbp : Nat.blt 0 bytes = true)
  (hx : ev l x = some (rv v)) (hi : H[i]? = some (.row v e sz (xs.map enc))) (hy : Src P n c l H y sz ys.length (ys.map enc).flatten) (henc : ∀ z, (enc z).length = sz) (hone : ∀ z, (enc z).all (·.one) = true) (hg : inA bytes (xs.length + ys.length) = true) :
  OpX P n c opsA Q l H { dst := some d, op := .call { callee := .builtin .append, args := #[x, y], argTypes := #[t, t] }, type := ty, pos := pos, after := af, guard := none } (fun v' => .row v' e sz ((xs ++ ys).map enc) :: H.eraseIdx i) := fun a w Z K ha hw hK => by
  obtain ⟨h0, us, h1, h2⟩ := hw.ent hi
  obtain ⟨ws, h3, h4⟩ := hy a w Z ha hw
  have hsz' : 0 < sz := by simpa using hsz
  have hbp' : 0 < bytes := by simpa using hbp
  have hb : (xs.length + ys.length) * bytes ≤ 140737488355328 := by simpa [inA] using hg
  have hle : xs.length + ys.length ≤ (xs.length + ys.length) * bytes := Nat.le_mul_of_pos_right _ hbp'
  have hws : ∀ y ∈ ws, y.oneCell' = true := RpAll.one (rs := (ys.map enc).flatten) (by
   rw [List.all_eq_true]
   intro r hr
   obtain ⟨cl, hcl, hrc⟩ := List.mem_flatten.1 hr
   obtain ⟨z', _, rfl⟩ := List.mem_map.1 hcl
   exact List.all_eq_true.1 (hone z') r hrc) h3
  have hxl : (xs.map enc).length = xs.length := List.length_map ..
  rw [hxl] at h1
  obtain ⟨v', w', e1, e2, e3, e4⟩ := run_append_st (P := P) ty ht hinf hz hsize hby hzs hsz' h1 h4 hws hb (by simp only [maxLen]; omega)
  have hent : (Ent.row v' e sz ((xs ++ ys).map enc)).holds Z w' := ⟨fun cl hcl => by obtain ⟨z', _, rfl⟩ := List.mem_map.1 hcl; exact henc z', us ++ ws, by simpa using e2, by rw [List.map_append, List.flatten_append]; exact h2.append h3⟩
  have hst := hw.callF hi (St.one (e' := .row v' e sz ((xs ++ ys).map enc)) (M := (Ent.row v e sz (xs.map enc)).foot) hw.frz hw.env hw.emono e3.os e3.tape e3.output e3.size (fun k hk hne => e3.block k hk (fun e1 => hne (by simp [Ent.foot, ← e1])))
   (hw.zdis _ (List.mem_of_getElem? hi)) hent (fun k hk => by
    simp only [Ent.foot, Option.mem_toList] at hk ⊢
    rcases e4 with e4 | e4
    ·exact .inl (e4 ▸ hk)
    ·exact .inr (e4 k hk)))
  refine ⟨by simp [Region.wanted], ?_⟩
  unfold Oper.wp
  rw [show (execOp a.eval { dst := some d, op := .call { callee := .builtin .append, args := #[x, y], argTypes := #[t, t] }, type := ty, pos := pos, after := af, guard := none }).run P w = .ok (.value v') w' from by simp [execOp, resolve, invoke, builtin, ha.eval hx, e1]]
  exact hK v' w' Z (Fz.le.refl _) hst
end
end Go.Proofs.YtpmiamphppcfeaaGreatDoor.Q

/-
  Walks, printed by a small program of ours (gq.py).
-/
namespace Go.Proofs.YtpmiamphppcfeaaGreatDoor.Q
open Go Go.RowKit
set_option linter.unusedVariables false
set_option linter.unusedSimpArgs false
set_option maxRecDepth 100000
set_option maxHeartbeats 4000000
theorem info9 : ∃ inf, Tryz.prog.info? 9 = some inf ∧ inf.zero = some (.string ⟨#[]⟩) ∧ inf.size = 1 ∧ inf.bytes = 16 := by
  have key : (Tryz.prog.info? 9).map (fun i => (i.zero, i.size, i.bytes)) = some (some (.string ⟨#[]⟩), 1, 16) := by kernel_rfl
  obtain ⟨inf, h1, h2⟩ := Option.map_eq_some_iff.1 key
  simp only [Prod.mk.injEq] at h2
  exact ⟨inf, h1, h2.1, h2.2.1, h2.2.2⟩
theorem fPack_w (F : Nat) (fields : (List Str)) (r : Str × Int) (h : fPack F fields = some r) : Fn Tryz.prog GE 46 [rSl 1 (List.map eS fields)] [] (fun R H => R = rTup [rS r.1, rI .i64 r.2] ∧ H = []) := by
 refine enter (n := 39) Tryz.func46 rfl Tryz.ntmps46 rfl (fun w Z => ?_)
 unfold fPack at h
 refine wc_sr (wv (r := rS ([] : Str)) (o_assign rfl) (wa rfl (wl_x (wc_seq (wc_sr (wm rfl (wv (o_len_zt (ys := fields) (enc := eS) yu36 rfl) (wv (o_gt rfl rfl) (wl_x (cz h rfl (fun c1 h2 => ?_) (fun c1 h3 => ?_)))))))))))
 ·refine wc_sr (wv (r := rS ([] : Str)) (o_assign rfl) (wa rfl (wl_x (wc_ret (wk_then_ret ?_)))))
  obtain rfl := some_e h2
  exact wk_ret (r_2 Tryz.results46 (rv_t rfl) (rv_t rfl)) sN ⟨rfl, rfl⟩
 ·refine wc_skip (wk_x (wc_sr (wm rfl (wv (o_len_zt (ys := fields) (enc := eS) yu36 rfl) (wv (r := rI .u8 (IntKind.wrap .u8 (fields.length : Int))) (o_conv_intw ⟨_, yu3⟩ yu5 rfl) (w_buildSlice (ys := ([IntKind.wrap .u8 (fields.length : Int)] : List Int)) (enc := eI_u8) (css := [[rI .u8 (IntKind.wrap .u8 (fields.length : Int))]]) (xs := [.tmp 12]) yu80 ys5 yz5 rfl rfl rfl ⟨Cel.one rfl (Up.refl _), trivial⟩ rfl eI_u8_len rfl rfl rfl (fun b4 => ?_)))))))
  refine wa rfl (wl_x (wc_seq (wc_sr (wm rfl (wv (o_len_zt (ys := fields) (enc := eS) yu36 rfl) (wv (r := rI .i64 0) (o_move rfl) (wl_x (wc_block (ob h3 fun o62 eo63 hK64 => wc_loop2 (S := Nat × ((List Int) × Int) × (Value)) (V := ((List Int)) × (Value)) 0 (fun σ => lop (fun σ => fPack_b1 fields σ.1 σ.2) σ.1 σ.2.1 = some o62) (fun σ => [(2, rS ([] : Str)), (3, rI .i64 0), (4, rv σ.2.2), (14, rSl 1 (List.map eS fields)), (15, rI .i64 (fields.length : Int)), (16, rI .i64 σ.2.1.2)]) (fun σ => [.row σ.2.2 5 1 (List.map eI_u8 σ.2.1.1)]) (fun σ => σ.1) (F, (([IntKind.wrap .u8 (fields.length : Int)] : List Int), 0), (.slice (some ⟨b4, 0, none⟩) 1 1)) eo63 (Sub.c rfl (Sub.c5 rfl rfl rfl rfl rfl Sub.nil)) (sC sN) (fun σ => fPack_k1 σ.1 = some r) (fun σ => [(2, rS ([] : Str)), (3, rI .i64 0), (4, rv σ.2)]) (fun σ => [.row σ.2 5 1 (List.map eI_u8 σ.1)]) ?_ ?_)))))))))
  ·rintro ⟨n70, ⟨x40, x42⟩, v41⟩ hi68
   refine wc_as (l' := [(2, rS ([] : Str)), (3, rI .i64 0), (4, rv v41), (14, rSl 1 (List.map eS fields)), (15, rI .i64 (fields.length : Int)), (16, rI .i64 x42)]) (H' := [.row v41 5 1 (List.map eI_u8 x40)]) rfl rfl ?_
   obtain ⟨m67, rfl, t65, h69, ht66⟩ := lop_e hi68
   replace h69 : fPack_b1 fields x40 x42 = some t65 := h69
   unfold fPack_b1 at h69
   refine wc_sr (wv (o_lt rfl rfl) (wl_x (wc_seq (cz h69 rfl (fun c71 h72 => ?_) (fun c71 h89 => ?_)))))
   ·refine wc_skip (wk_x (wc_seq (wc_block (wc_sr (ck h72 fun g73 h74 => wv (o_ix_z (enc := eS) (ys := fields) yu36 ys9 rfl rfl g73) (wv (o_load_z ya9 rfl rfl) (wa rfl (wl_x (wc_seq (wc_sr (wm rfl (wv (o_len_s yu9 rfl) (wv (o_gt rfl rfl) (wl_x (cz h74 rfl (fun c75 h76 => ?_) (fun c75 h78 => ?_))))))))))))))))
    ·refine wc_sr (wv (r := rS ([] : Str)) (o_assign rfl) (wa rfl (wl_x (wc_ret (wk_then_ret (wk_in_ret (wk_then_ret (wk_then_ret (wk_cut_ret ?_)))))))))
     have h77 := stp_ret h76 ht66 hK64
     refine wk_in_ret (wk_then_ret ?_)
     obtain rfl := some_e h77
     exact wk_ret (r_2 Tryz.results46 (rv_t rfl) (rv_t rfl)) (sS sN) ⟨rfl, rfl⟩
    ·refine wc_skip (wk_x (wc_sr (wm rfl (wm rfl (wv (o_len_s yu9 rfl) (wv (r := rI .i64 (iShr .i64 ((at' fields x42).length : Int) 8)) (o_shr rfl rfl (by decide)) (wv (r := rI .u8 (IntKind.wrap .u8 (iShr .i64 ((at' fields x42).length : Int) 8))) (o_conv_intw ⟨_, yu3⟩ yu5 rfl) (wm rfl (wv (o_len_s yu9 rfl) (wv (r := rI .u8 (IntKind.wrap .u8 ((at' fields x42).length : Int))) (o_conv_intw ⟨_, yu3⟩ yu5 rfl) (w_buildSlice (ys := ([IntKind.wrap .u8 (iShr .i64 ((at' fields x42).length : Int) 8), IntKind.wrap .u8 ((at' fields x42).length : Int)] : List Int)) (enc := eI_u8) (css := [[rI .u8 (IntKind.wrap .u8 (iShr .i64 ((at' fields x42).length : Int) 8))], [rI .u8 (IntKind.wrap .u8 ((at' fields x42).length : Int))]]) (xs := [.tmp 27, .tmp 30]) yu80 ys5 yz5 rfl rfl rfl ⟨Cel.one rfl (Up.refl _), Cel.one rfl (Up.refl _), trivial⟩ rfl eI_u8_len rfl rfl rfl (fun b79 => ?_))))))))))))
     refine ck h78 fun g81 h82 => Exists.elim info5 fun inf hinf => w_append (xs := x40) (ys := ([IntKind.wrap .u8 (iShr .i64 ((at' fields x42).length : Int) 8), IntKind.wrap .u8 ((at' fields x42).length : Int)] : List Int)) (enc := eI_u8) (i := 1) yu80 hinf.1 hinf.2.1 hinf.2.2.1 hinf.2.2.2 rfl rfl rfl rfl rfl (Src.w (i := 0) rfl rfl) eI_u8_len eI_u8_one g81 rfl (fun v80 => ?_)
     refine wa rfl (wl_x (wc_region (wm rfl (wm rfl (ck h82 fun g84 h85 => Exists.elim info5 fun inf hinf => w_append_str (xs := x40 ++ ([IntKind.wrap .u8 (iShr .i64 ((at' fields x42).length : Int) 8), IntKind.wrap .u8 ((at' fields x42).length : Int)] : List Int)) (i := 0) yu80 yu9 hinf.1 hinf.2.1 hinf.2.2.1 hinf.2.2.2 rfl rfl rfl g84 rfl (fun v83 => ?_))))))
     refine wa rfl (wl_nil (wk_in_norm (wk_x (wc_region (ck h85 fun g86 h87 => wv (o_add rfl rfl g86) (wm rfl (wl_nil ?_)))))))
     have h88 := stp_next h87 ht66
     exact wk_then (wk_some (m67, ((x40 ++ ([IntKind.wrap .u8 (iShr .i64 ((at' fields x42).length : Int) 8), IntKind.wrap .u8 ((at' fields x42).length : Int)] : List Int)) ++ toI (at' fields x42), x42 + 1), v83) ⟨h88, Nat.lt_succ_self _⟩ (Sub.c rfl (Sub.c5 rfl rfl rfl rfl rfl Sub.nil)) (sC (sS sN)))
   ·refine wc_exit (wk_then_exit ?_)
    have h90 := stp_go h89 ht66 hK64
    exact wk_then_exit (wk_cut_hit (wk_some (x40, v41) h90 (Sub.c rfl (Sub.c rfl (Sub.c rfl Sub.nil))) (sC sN)))
  ·rintro ⟨x60, v61⟩ h91
   refine wk_as (l' := [(2, rS ([] : Str)), (3, rI .i64 0), (4, rv v61)]) (H' := [.row v61 5 1 (List.map eI_u8 x60)]) rfl rfl ?_
   replace h91 : fPack_k1 x60 = some r := h91
   unfold fPack_k1 at h91
   refine wk_in_hit (wk_x (wc_sr (wm rfl (wv (r := rS (ofI x60)) (o_b2s (xs := x60) (i := 0) yu80 yu9 yu5 rfl rfl) (wa rfl (wa rfl (wl_x (wc_ret ?_))))))))
   obtain rfl := some_e h91
   exact wk_ret (r_2 Tryz.results46 (rv_t rfl) (rv_t rfl)) (sS sN) ⟨rfl, rfl⟩

theorem fUnpack_w (F : Nat) (s : Str) (r : (List Str) × Int) (h : fUnpack F s = some r) : Fn Tryz.prog GE 28 [rS s] [] (fun R H => R = rTup [rSl 1 (List.map eS r.1), rI .i64 r.2] ∧ H = []) := by
 refine enter (n := 58) Tryz.func28 rfl Tryz.ntmps28 rfl (fun w Z => ?_)
 unfold fUnpack at h
 refine wc_sr (wa rfl (wa rfl (wl_x (wc_scope_jump (S := (Int) × (Unit)) 0 (fun σ => fUnpack_g1 σ.1 = some r) (fun σ => [(2, rv (.slice none 0 0)), (3, rI .i64 0), (7, rI .i64 σ.1)]) (fun σ => []) rfl ?_ ?_))))
 ·refine wc_sr (wa rfl (wl_y (wa rfl (wa rfl (wl_y (wa rfl (wl_x (wc_seq (wc_sr (wm rfl (wv (o_seq rfl rfl) (wl_x (cz h rfl (fun c158 h159 => ?_) (fun c158 h160 => ?_))))))))))))))
  ·exact wc_goto (wk_then_goto (wk_ju_g (wk_some (14, ()) h159 (Sub.c rfl (Sub.c rfl (Sub.c rfl Sub.nil))) sN)))
  ·refine wc_skip (wk_x (wc_seq (ck h160 fun g161 h162 => ck h162 fun g163 h164 => ck h164 fun g165 h166 => wc_rdak 6 [0, 2, 3, 4, 6, 7] [⟨[], rS s, none, none, none⟩, ⟨[0], rI .u8 (bat s 0), none, none, none⟩, ⟨[1], rI .i64 (bat s 0), none, none, none⟩, ⟨[], rS s, none, none, none⟩, ⟨[3], rS (List.drop (Int.toNat 1) s), none, none, none⟩, ⟨[2], rI .i64 (bat s 0), none, none, none⟩] ?_ (fun β => ?_))))
   ·refine oaq (o_move rfl) (oaq (o_index_b yu9 rfl rfl g161) (oaq (o_conv_int ⟨_, yu5⟩ yu3 rfl g163) (oaq (o_move rfl) (oaq (o_slice_lo yu9 rfl rfl g165) (oaq (o_assign rfl) ?_)))))
    exact oae
   refine wl_kza (H1 := []) [10, 11, 12, 13, 14, 5, 0, 2, 3, 4, 6, 7] ?_
   refine wa rfl (wl_x (wc_seq (wc_sr (wm rfl (wv (o_gt rfl rfl) (wl_x (cz h166 rfl (fun c167 h168 => ?_) (fun c167 h169 => ?_))))))))
   ·exact wc_sr (wa rfl (wl_x (wc_goto (wk_then_goto (wk_ju_g (wk_some (13, ()) h168 (Sub.c rfl (Sub.c rfl (Sub.c rfl Sub.nil))) sN))))))
   ·refine wc_skip (wk_x (wc_seq (wc_sr (wm rfl (wv (r := rI .i64 0) (o_move rfl) (wl_x (wc_block (WC.nilrow (e := 9) (sz := 1) (ob h169 fun o268 eo269 hK270 => wc_loop2 (S := Nat × (Str × (List Str) × Int × Int) × (Value)) (V := (Str × (List Str)) × (Value)) 0 (fun σ => lop (fun σ => fUnpack_b2 s σ.1 σ.2.1 σ.2.2.1 σ.2.2.2) σ.1 σ.2.1 = some o268) (fun σ => [(0, rS σ.2.1.1), (2, rv (.slice none 0 0)), (3, rI .i64 0), (4, rv σ.2.2), (6, rI .i64 σ.2.1.2.2.1), (7, rI .i64 14), (17, rI .i64 (bat s 0)), (18, rI .i64 σ.2.1.2.2.2)]) (fun σ => [.row σ.2.2 9 1 (List.map eS σ.2.1.2.1)]) (fun σ => σ.1) (F, (List.drop (Int.toNat 1) s, ([] : List Str), 0, 0), (.slice none 0 0         )) eo269 (Sub.c rfl (Sub.c rfl (Sub.c rfl (Sub.c5 rfl rfl rfl rfl rfl Sub.nil)))) (sC sN) (fun σ => fUnpack_k2 σ.1.1 σ.1.2 = some r) (fun σ => [(0, rS σ.1.1), (2, rv (.slice none 0 0)), (3, rI .i64 0), (4, rv σ.2), (7, rI .i64 14)]) (fun σ => [.row σ.2 9 1 (List.map eS σ.1.2)]) ?_ ?_)))))))))
    ·rintro ⟨n276, ⟨x231, x232, x234, x235⟩, v233⟩ hi274
     refine wc_as (l' := [(0, rS x231), (2, rv (.slice none 0 0)), (3, rI .i64 0), (4, rv v233), (6, rI .i64 x234), (7, rI .i64 14), (17, rI .i64 (bat s 0)), (18, rI .i64 x235)]) (H' := [.row v233 9 1 (List.map eS x232)]) rfl rfl ?_
     obtain ⟨m273, rfl, t271, h275, ht272⟩ := lop_e hi274
     replace h275 : fUnpack_b2 s x231 x232 x234 x235 = some t271 := h275
     unfold fUnpack_b2 at h275
     refine wc_sr (wv (o_lt rfl rfl) (wl_x (wc_seq (cz h275 rfl (fun c277 h278 => ?_) (fun c277 h318 => ?_)))))
     ·refine wc_skip (wk_x (wc_seq (wc_block (wc_seq (wc_sr (wm rfl (wv (o_len_s yu9 rfl) (wv (o_lt rfl rfl) (wl_x (cz h278 rfl (fun c279 h280 => ?_) (fun c279 h285 => ?_)))))))))))
      ·refine wc_goto (wk_then_goto (wk_in_goto (wk_then_goto (wk_then_goto (wk_cut_goto (wk_in_goto (wk_then_goto (wk_ju_g (ob h280 fun q281 e282 h283 => ?_)))))))))
       have h284 := stp_ret h283 ht272 hK270
       obtain rfl := some_e h284
       exact wk_some (14, ()) e282 (Sub.c rfl (Sub.c rfl (Sub.c rfl Sub.nil))) (sS sN)
      ·refine wc_skip (wk_x (wc_seq (ck h285 fun g286 h287 => ck h287 fun g288 h289 => ck h289 fun g290 h291 => ck h291 fun g292 h293 => ck h293 fun g294 h295 => wc_rdak 11 [0, 2, 3, 4, 7, 17, 18, 19, 20, 21, 22] [⟨[], rS x231, none, none, none⟩, ⟨[0], rI .u8 (bat x231 0), none, none, none⟩, ⟨[1], rI .i64 (bat x231 0), none, none, none⟩, ⟨[2], rI .i64 (iShl .i64 (bat x231 0) 8), none, none, none⟩, ⟨[], rS x231, none, none, none⟩, ⟨[4], rI .u8 (bat x231 1), none, none, none⟩, ⟨[5], rI .i64 (bat x231 1), none, none, none⟩, ⟨[3, 6], rI .i64 (iOr .i64 (iShl .i64 (bat x231 0) 8) (bat x231 1)), none, none, none⟩, ⟨[], rS x231, none, none, none⟩, ⟨[8], rS (List.drop (Int.toNat 2) x231), none, none, none⟩, ⟨[7], rI .i64 (iOr .i64 (iShl .i64 (bat x231 0) 8) (bat x231 1)), none, none, none⟩] ?_ (fun β => ?_))))
       ·refine oaq (o_move rfl) (oaq (o_index_b yu9 rfl rfl g286) (oaq (o_conv_int ⟨_, yu5⟩ yu3 rfl g288) (oaq (o_shl rfl rfl (by decide)) (oaq (o_move rfl) (oaq (o_index_b yu9 rfl rfl g290) (oaq (o_conv_int ⟨_, yu5⟩ yu3 rfl g292) (oaq (o_or rfl rfl) (oaq (o_move rfl) (oaq (o_slice_lo yu9 rfl rfl g294) (oaq (o_assign rfl) ?_))))))))))
        exact oae
       refine wl_kza (H1 := [.row v233 9 1 (List.map eS x232)]) [23, 24, 25, 26, 27, 28, 29, 30, 31, 32, 6, 0, 2, 3, 4, 7, 17, 18, 19, 20, 21, 22] ?_
       refine wa rfl (wl_x (wc_seq (wc_sr (wm rfl (wv (o_gt rfl rfl) (wl_x (cz h295 rfl (fun c296 h297 => ?_) (fun c296 h302 => ?_))))))))
       ·refine wc_sr (wa rfl (wl_x (wc_goto (wk_then_goto (wk_in_goto (wk_then_goto (wk_then_goto (wk_cut_goto (wk_in_goto (wk_then_goto (wk_ju_g (ob h297 fun q298 e299 h300 => ?_))))))))))))
        have h301 := stp_ret h300 ht272 hK270
        obtain rfl := some_e h301
        exact wk_some (13, ()) e299 (Sub.c rfl (Sub.c rfl (Sub.c rfl Sub.nil))) (sS sN)
       ·refine wc_skip (wk_x (wc_seq (wc_sr (wm rfl (wv (o_len_s yu9 rfl) (wm rfl (wv (o_lt rfl rfl) (wl_x (cz h302 rfl (fun c303 h304 => ?_) (fun c303 h309 => ?_))))))))))
        ·refine wc_goto (wk_then_goto (wk_in_goto (wk_then_goto (wk_then_goto (wk_cut_goto (wk_in_goto (wk_then_goto (wk_ju_g (ob h304 fun q305 e306 h307 => ?_)))))))))
         have h308 := stp_ret h307 ht272 hK270
         obtain rfl := some_e h308
         exact wk_some (14, ()) e306 (Sub.c rfl (Sub.c rfl (Sub.c rfl Sub.nil))) (sS sN)
        ·refine wc_skip (wk_x (ck h309 fun g310 h311 => ck h311 fun g313 h314 => Exists.elim info9 fun inf hinf => wc_rdx 10 5 [0, 2, 3, 6, 7, 17, 18, 20, 21, 22, 23, 24, 25, 26, 27, 28, 29, 30, 31, 32, 33, 34, 35, 36, 37, 38] [4] [{ deps := [], r := fun _ => rv v233, old := [4] }, { deps := [], r := fun _ => rS (List.drop (Int.toNat 2) x231) }, { deps := [], r := fun _ => rI .i64 (iOr .i64 (iShl .i64 (bat x231 0) 8) (bat x231 1)) }, { deps := [1, 2], r := fun _ => rS (List.take (Int.toNat (iOr .i64 (iShl .i64 (bat x231 0) 8) (bat x231 1))) (List.drop (Int.toNat 2) x231)) }, { deps := [3], r := fun _ => rSl 1 (List.map eS ([List.take (Int.toNat (iOr .i64 (iShl .i64 (bat x231 0) 8) (bat x231 1))) (List.drop (Int.toNat 2) x231)] : List Str)) }, { deps := [0, 4], r := fun v312 => rv v312, dyn := true }, { deps := [], r := fun _ => rS (List.drop (Int.toNat 2) x231) }, { deps := [], r := fun _ => rI .i64 (iOr .i64 (iShl .i64 (bat x231 0) 8) (bat x231 1)) }, { deps := [6, 7], r := fun _ => rS (List.drop (Int.toNat (iOr .i64 (iShl .i64 (bat x231 0) 8) (bat x231 1))) (List.drop (Int.toNat 2) x231)) }, { deps := [5], r := fun v312 => rv v312, dyn := true }] (fun v312 => [.row v312 9 1 (List.map eS (x232 ++ ([List.take (Int.toNat (iOr .i64 (iShl .i64 (bat x231 0) 8) (bat x231 1))) (List.drop (Int.toNat 2) x231)] : List Str)))]) ?_ (fun v312 => ?_)))
         ·refine oxq (o_move rfl) (oxq (o_move rfl) (oxq (o_move rfl) (oxq (o_slice_hi yu9 rfl rfl g310) (oxc (ok_buildSlice (ys := ([List.take (Int.toNat (iOr .i64 (iShl .i64 (bat x231 0) 8) (bat x231 1))) (List.drop (Int.toNat 2) x231)] : List Str)) (enc := eS) (css := [[rS (List.take (Int.toNat (iOr .i64 (iShl .i64 (bat x231 0) 8) (bat x231 1))) (List.drop (Int.toNat 2) x231))]]) (xs := [.tmp 42]) yu36 ys9 yz9 rfl rfl rfl ⟨Cel.one rfl (Up.refl _), trivial⟩ rfl eS_len rfl rfl) (oxx (x_append (xs := x232) (ys := ([List.take (Int.toNat (iOr .i64 (iShl .i64 (bat x231 0) 8) (bat x231 1))) (List.drop (Int.toNat 2) x231)] : List Str)) (enc := eS) (i := 0) yu36 hinf.1 hinf.2.1 hinf.2.2.1 hinf.2.2.2 rfl rfl rfl rfl rfl (Src.z rfl rfl) eS_len eS_one g313) (oxq (o_move rfl) (oxq (o_move rfl) (oxq (o_slice_lo yu9 rfl rfl g310) (oxq (fun {v312 _} => (o_assign rfl)) ?_)))))))))
          exact oxe
         refine wl_kza (H1 := [.row v312 9 1 (List.map eS (x232 ++ ([List.take (Int.toNat (iOr .i64 (iShl .i64 (bat x231 0) 8) (bat x231 1))) (List.drop (Int.toNat 2) x231)] : List Str)))]) [39, 40, 41, 42, 43, 44, 45, 46, 47, 4, 0, 2, 3, 6, 7, 17, 18, 20, 21, 22, 23, 24, 25, 26, 27, 28, 29, 30, 31, 32, 33, 34, 35, 36, 37, 38] ?_
         refine wa rfl (wl_nil (wk_in_norm (wk_x (wc_region (ck h314 fun g315 h316 => wv (o_add rfl rfl g315) (wm rfl (wl_nil ?_)))))))
         have h317 := stp_next h316 ht272
         exact wk_then (wk_some (m273, (List.drop (Int.toNat (iOr .i64 (iShl .i64 (bat x231 0) 8) (bat x231 1))) (List.drop (Int.toNat 2) x231), x232 ++ ([List.take (Int.toNat (iOr .i64 (iShl .i64 (bat x231 0) 8) (bat x231 1))) (List.drop (Int.toNat 2) x231)] : List Str), iOr .i64 (iShl .i64 (bat x231 0) 8) (bat x231 1), x235 + 1), v312) ⟨h317, Nat.lt_succ_self _⟩ (Sub.c rfl (Sub.c rfl (Sub.c rfl (Sub.c5 rfl rfl rfl rfl rfl Sub.nil)))) (sC sN))
     ·refine wc_exit (wk_then_exit ?_)
      have h319 := stp_go h318 ht272 hK270
      exact wk_then_exit (wk_cut_hit (wk_some ((x231, x232), v233) h319 (Sub.c5 rfl rfl rfl rfl rfl Sub.nil) (sC sN)))
    ·rintro ⟨⟨x265, x266⟩, v267⟩ h320
     refine wk_as (l' := [(0, rS x265), (2, rv (.slice none 0 0)), (3, rI .i64 0), (4, rv v267), (7, rI .i64 14)]) (H' := [.row v267 9 1 (List.map eS x266)]) rfl rfl ?_
     replace h320 : fUnpack_k2 x265 x266 = some r := h320
     unfold fUnpack_k2 at h320
     refine wk_in_hit (wk_x (wc_seq (wc_sr (wm rfl (wv (o_sne rfl rfl) (wl_x (cz h320 rfl (fun c321 h322 => ?_) (fun c321 h323 => ?_))))))))
     ·exact wc_sr (wa rfl (wl_x (wc_goto (wk_then_goto (wk_ju_g (wk_some (13, ()) h322 (Sub.c rfl (Sub.c rfl (Sub.c rfl Sub.nil))) (sS sN)))))))
     ·refine wc_skip (wk_x (wc_seq (wc_sr (wm rfl (wm rfl (wv (o_len_wt (ys := x266) (enc := eS) (i := 0) yu36 rfl rfl) (wm rfl (wv (o_len_wt (ys := x266) (enc := eS) (i := 0) yu36 rfl rfl) (WL.freeze (i := 0) rfl (WL.up (d := 51) (r := rSl 1 (List.map eS x266)) rfl (Up.fact (i := 0) rfl) (ck h323 fun g324 h325 => wv (r := rSl 1 (List.map eS (List.take (Int.toNat (x266.length : Int)) x266))) (o_slice_zm0 yu36 ys9 rfl rfl rfl g324) (wa rfl (wa rfl (wl_x (wc_ret (wk_then_ret (wk_ju_r ?_)))))))))))))))))
      obtain rfl := some_e h325
      exact wk_ret (r_2 Tryz.results28 (rv_t rfl) (rv_t rfl)) (sS sN) ⟨rfl, rfl⟩
 ·rintro ⟨x157, ⟨⟩⟩ h326
  refine wc_as (l' := [(2, rv (.slice none 0 0)), (3, rI .i64 0), (7, rI .i64 x157)]) (H' := []) rfl rfl ?_
  replace h326 : fUnpack_g1 x157 = some r := h326
  unfold fUnpack_g1 at h326
  refine wc_seq (wc_skip (wk_x (wc_sr (wm rfl (wa rfl (wa rfl (wl_x (wc_ret (wk_ng_r (WK.up (d := 2) (r := rSl 1 (List.map eS ([] : List Str))) rfl (Up.le (Rle.nil _)) ?_))))))))))
  obtain rfl := some_e h326
  exact wk_ret (r_2 Tryz.results28 (rv_t rfl) (rv_t rfl)) sN ⟨rfl, rfl⟩

theorem r4Unpack_w (F : Nat) (s : Str) (r : (List Str) × Int) (h : r4Unpack F s = some r) : Fn Tryz.prog GE 31 [rS s] [] (fun R H => R = rTup [rSl 1 (List.map eS r.1), rI .i64 r.2] ∧ H = []) := by
 refine enter (n := 64) Tryz.func31 rfl Tryz.ntmps31 rfl (fun w Z => ?_)
 unfold r4Unpack at h
 refine wc_sr (wa rfl (wa rfl (wl_x (wc_seq (wc_sr (wm rfl (wv (o_len_s yu9 rfl) (wv (o_lt rfl rfl) (wl_x (cz h rfl (fun c1 h2 => ?_) (fun c1 h3 => ?_)))))))))))
 ·refine wc_sr (wa rfl (wa rfl (wl_x (wc_ret (wk_then_ret (WK.up (d := 2) (r := rSl 1 (List.map eS ([] : List Str))) rfl (Up.le (Rle.nil _)) ?_))))))
  obtain rfl := some_e h2
  exact wk_ret (r_2 yr31 (rv_t rfl) (rv_t rfl)) sN ⟨rfl, rfl⟩
 ·refine wc_skip (wk_x (wc_seq (wc_sr (wm rfl (ck h3 fun g4 h5 => wv (o_index_b yu9 rfl rfl g4) (wv (o_gt rfl rfl) (wl_x (cz h5 rfl (fun c6 h7 => ?_) (fun c6 h8 => ?_)))))))))
  ·refine wc_sr (wa rfl (wa rfl (wl_x (wc_ret (wk_then_ret (WK.up (d := 2) (r := rSl 1 (List.map eS ([] : List Str))) rfl (Up.le (Rle.nil _)) ?_))))))
   obtain rfl := some_e h7
   exact wk_ret (r_2 yr31 (rv_t rfl) (rv_t rfl)) sN ⟨rfl, rfl⟩
  ·refine wc_skip (wk_x (wc_sr (wa rfl (wl_y (wa rfl (wl_x (wc_seq (wc_sr (wm rfl (wv (o_index_b yu9 rfl rfl g4) (ck h8 fun g9 h10 => wv (o_conv_int ⟨_, yu5⟩ yu3 rfl g9) (wv (r := rI .i64 0) (o_move rfl) (wl_x (wc_block (WC.nilrow (e := 9) (sz := 1) (ob h10 fun o148 eo149 hK150 => wc_loop2 (S := Nat × ((List Str) × Int × Int) × (Value)) (V := ((List Str) × Int) × (Value)) 0 (fun σ => lop (fun σ => r4Unpack_b1 s σ.1 σ.2.1 σ.2.2) σ.1 σ.2.1 = some o148) (fun σ => [(0, rS s), (4, rv σ.2.2), (5, rI .i64 σ.2.1.2.1), (15, rI .i64 (bat s 0)), (16, rI .i64 σ.2.1.2.2)]) (fun σ => [.row σ.2.2 9 1 (List.map eS σ.2.1.1)]) (fun σ => σ.1) (F, (([] : List Str), 1, 0), (.slice none 0 0         )) eo149 (Sub.c5 rfl rfl rfl rfl rfl Sub.nil) (sC sN) (fun σ => r4Unpack_k1 s σ.1.1 σ.1.2 = some r) (fun σ => [(0, rS s), (4, rv σ.2), (5, rI .i64 σ.1.2)]) (fun σ => [.row σ.2 9 1 (List.map eS σ.1.1)]) ?_ ?_))))))))))))))))
   ·rintro ⟨n156, ⟨x97, x99, x100⟩, v98⟩ hi154
    refine wc_as (l' := [(0, rS s), (4, rv v98), (5, rI .i64 x99), (15, rI .i64 (bat s 0)), (16, rI .i64 x100)]) (H' := [.row v98 9 1 (List.map eS x97)]) rfl rfl ?_
    obtain ⟨m153, rfl, t151, h155, ht152⟩ := lop_e hi154
    replace h155 : r4Unpack_b1 s x97 x99 x100 = some t151 := h155
    unfold r4Unpack_b1 at h155
    refine wc_sr (wv (o_lt rfl rfl) (wl_x (wc_seq (cz h155 rfl (fun c157 h158 => ?_) (fun c157 h204 => ?_)))))
    ·refine wc_skip (wk_x (wc_seq (wc_block (wc_seq (wc_sr (wm rfl (wv (o_len_s yu9 rfl) (wm rfl (ck h158 fun g159 h160 => wv (o_sub rfl rfl g159) (wv (o_lt rfl rfl) (wl_x (cz h160 rfl (fun c161 h162 => ?_) (fun c161 h164 => ?_)))))))))))))
     ·refine wc_sr (wa rfl (wa rfl (wl_x (wc_ret (wk_then_ret (wk_in_ret (wk_then_ret (wk_then_ret (wk_cut_ret ?_)))))))))
      have h163 := stp_ret h162 ht152 hK150
      refine wk_in_ret (wk_then_ret (WK.up (d := 2) (r := rSl 1 (List.map eS ([] : List Str))) rfl (Up.le (Rle.nil _)) ?_))
      obtain rfl := some_e h163
      exact wk_ret (r_2 yr31 (rv_t rfl) (rv_t rfl)) (sS sN) ⟨rfl, rfl⟩
     ·refine wc_skip (wk_x (wc_seq (ck h164 fun g165 h166 => ck h166 fun g167 h168 => ck h168 fun g169 h170 => ck h170 fun g171 h172 => ck h172 fun g173 h174 => ck h174 fun g175 h176 => ck h176 fun g177 h178 => wc_rdq [0, 4, 5, 15, 16] [⟨[], rS s, 0⟩, ⟨[], rI .i64 x99, 0⟩, ⟨[0, 1], rI .u8 (bat s x99), 0⟩, ⟨[2], rI .i64 (bat s x99), 0⟩, ⟨[3], rI .i64 ((bat s x99) * 256), 0⟩, ⟨[], rS s, 0⟩, ⟨[], rI .i64 x99, 0⟩, ⟨[6], rI .i64 (x99 + 1), 0⟩, ⟨[5, 7], rI .u8 (bat s (x99 + 1)), 0⟩, ⟨[8], rI .i64 (bat s (x99 + 1)), 0⟩, ⟨[4, 9], rI .i64 (((bat s x99) * 256) + (bat s (x99 + 1))), 0⟩, ⟨[10], rI .i64 (((bat s x99) * 256) + (bat s (x99 + 1))), 0⟩] [23, 24, 25, 26, 27, 28, 29, 30, 31, 32, 33, 6, 0, 4, 5, 15, 16] ?_ ?_)))
      ·refine oq (o_move rfl) (oq (o_move rfl) (oq (o_index_b yu9 rfl rfl g165) (oq (o_conv_int ⟨_, yu5⟩ yu3 rfl g167) (oq (o_mul rfl rfl g169) (oq (o_move rfl) (oq (o_move rfl) (oq (o_add rfl rfl g171) (oq (o_index_b yu9 rfl rfl g173) (oq (o_conv_int ⟨_, yu5⟩ yu3 rfl g175) (oq (o_add rfl rfl g177) (oq (o_assign rfl) ?_)))))))))))
       exact obl_e
      refine wk_x (wc_seq (wc_sr (wm rfl (wv (o_gt rfl rfl) (wl_x (cz h178 rfl (fun c179 h180 => ?_) (fun c179 h182 => ?_)))))))
      ·refine wc_sr (wa rfl (wa rfl (wl_x (wc_ret (wk_then_ret (wk_in_ret (wk_then_ret (wk_then_ret (wk_cut_ret ?_)))))))))
       have h181 := stp_ret h180 ht152 hK150
       refine wk_in_ret (wk_then_ret (WK.up (d := 2) (r := rSl 1 (List.map eS ([] : List Str))) rfl (Up.le (Rle.nil _)) ?_))
       obtain rfl := some_e h181
       exact wk_ret (r_2 yr31 (rv_t rfl) (rv_t rfl)) (sS sN) ⟨rfl, rfl⟩
      ·refine wc_skip (wk_x (wc_seq (wc_sr (wm rfl (wv (o_len_s yu9 rfl) (wm rfl (wv (o_sub rfl rfl g159) (ck h182 fun g183 h184 => wv (o_sub rfl rfl g183) (wm rfl (wv (o_lt rfl rfl) (wl_x (cz h184 rfl (fun c185 h186 => ?_) (fun c185 h188 => ?_)))))))))))))
       ·refine wc_sr (wa rfl (wa rfl (wl_x (wc_ret (wk_then_ret (wk_in_ret (wk_then_ret (wk_then_ret (wk_cut_ret ?_)))))))))
        have h187 := stp_ret h186 ht152 hK150
        refine wk_in_ret (wk_then_ret (WK.up (d := 2) (r := rSl 1 (List.map eS ([] : List Str))) rfl (Up.le (Rle.nil _)) ?_))
        obtain rfl := some_e h187
        exact wk_ret (r_2 yr31 (rv_t rfl) (rv_t rfl)) (sS sN) ⟨rfl, rfl⟩
       ·refine wc_skip (wk_x (wc_sr (wm rfl (wm rfl (wm rfl (ck h188 fun g189 h190 => wv (o_add rfl rfl g189) (wm rfl (wv (o_add rfl rfl g189) (wm rfl (ck h190 fun g191 h192 => wv (o_add rfl rfl g191) (ck h192 fun g193 h194 => ck h194 fun g195 h196 => wv (o_slice_lh yu9 rfl rfl rfl g193 g195) (w_buildSlice (ys := ([List.take (Int.toNat ((x99 + 2) + (((bat s x99) * 256) + (bat s (x99 + 1)))) - Int.toNat (x99 + 2)) (List.drop (Int.toNat (x99 + 2)) s)] : List Str)) (enc := eS) (css := [[rS (List.take (Int.toNat ((x99 + 2) + (((bat s x99) * 256) + (bat s (x99 + 1)))) - Int.toNat (x99 + 2)) (List.drop (Int.toNat (x99 + 2)) s))]]) (xs := [.tmp 51]) yu36 ys9 yz9 rfl rfl rfl ⟨Cel.one rfl (Up.refl _), trivial⟩ rfl eS_len rfl rfl rfl (fun b197 => ?_)))))))))))))
        refine ck h196 fun g199 h200 => Exists.elim info9 fun inf hinf => w_append (xs := x97) (ys := ([List.take (Int.toNat ((x99 + 2) + (((bat s x99) * 256) + (bat s (x99 + 1)))) - Int.toNat (x99 + 2)) (List.drop (Int.toNat (x99 + 2)) s)] : List Str)) (enc := eS) (i := 1) yu36 hinf.1 hinf.2.1 hinf.2.2.1 hinf.2.2.2 rfl rfl rfl rfl rfl (Src.w (i := 0) rfl rfl) eS_len eS_one g199 rfl (fun v198 => ?_)
        refine wa rfl (wl_x (wc_region (wm rfl (wv (o_add rfl rfl g189) (wm rfl (wv (o_add rfl rfl g191) (wa rfl (wl_nil (wk_in_norm (wk_x (wc_region (ck h200 fun g201 h202 => wv (o_add rfl rfl g201) (wm rfl (wl_nil ?_))))))))))))))
        have h203 := stp_next h202 ht152
        exact wk_then (wk_some (m153, (x97 ++ ([List.take (Int.toNat ((x99 + 2) + (((bat s x99) * 256) + (bat s (x99 + 1)))) - Int.toNat (x99 + 2)) (List.drop (Int.toNat (x99 + 2)) s)] : List Str), (x99 + 2) + (((bat s x99) * 256) + (bat s (x99 + 1))), x100 + 1), v198) ⟨h203, Nat.lt_succ_self _⟩ (Sub.c5 rfl rfl rfl rfl rfl Sub.nil) (sC (sS sN)))
    ·refine wc_exit (wk_then_exit ?_)
     have h205 := stp_go h204 ht152 hK150
     exact wk_then_exit (wk_cut_hit (wk_some ((x97, x99), v98) h205 (Sub.c rfl (Sub.c rfl (Sub.c rfl Sub.nil))) (sC sN)))
   ·rintro ⟨⟨x145, x147⟩, v146⟩ h206
    refine wk_as (l' := [(0, rS s), (4, rv v146), (5, rI .i64 x147)]) (H' := [.row v146 9 1 (List.map eS x145)]) rfl rfl ?_
    replace h206 : r4Unpack_k1 s x145 x147 = some r := h206
    unfold r4Unpack_k1 at h206
    refine wk_in_hit (wk_x (wc_seq (wc_sr (wm rfl (wm rfl (wv (o_len_s yu9 rfl) (wv (o_lt rfl rfl) (wl_x (cz h206 rfl (fun c207 h208 => ?_) (fun c207 h209 => ?_))))))))))
    ·refine wc_sr (wa rfl (wa rfl (wl_x (wc_ret (wk_then_ret (WK.up (d := 2) (r := rSl 1 (List.map eS ([] : List Str))) rfl (Up.le (Rle.nil _)) ?_))))))
     obtain rfl := some_e h208
     exact wk_ret (r_2 yr31 (rv_t rfl) (rv_t rfl)) (sS sN) ⟨rfl, rfl⟩
    ·refine wc_skip (wk_x (wc_sr (wm rfl (wa rfl (wa rfl (wl_x (wc_ret (WK.freeze (i := 0) rfl (WK.up (d := 2) (r := rSl 1 (List.map eS x145)) rfl (Up.fact (i := 0) rfl) ?_)))))))))
     obtain rfl := some_e h209
     exact wk_ret (r_2 yr31 (rv_t rfl) (rv_t rfl)) (sS sN) ⟨rfl, rfl⟩

end Go.Proofs.YtpmiamphppcfeaaGreatDoor.Q

/-
 What functions compute, with checks: plain definitions, printed by a small program of ours (gq.py). No program in sight.
-/
namespace Go.Proofs.YtpmiamphppcfeaaGreatDoor
open Go
set_option linter.unusedVariables false
structure TApiEvent where
 fID : Str
 fTenant : Str
 fSource : Str
 fKey : Str
 fAt : Int
 fCause : Str
 fBody : (List TApiCell)
 deriving DecidableEq, Inhabited
def cloneN (ys : (List TApiCell)) : Option ((List TApiCell)) :=
 chk (inA 40 (([] : List TApiCell).length + ys.length)) <| some (([] : List TApiCell) ++ ys)

def eCheck (F : Nat) (e : TApiEvent) : Option (Int) :=
 cnd (((!(idS e.fID)) || ((!(idS e.fTenant)) || ((!(idS e.fSource)) || (bif !decide (e.fKey = ([] : Str)) then ((!(idS e.fKey)) || ((!decide (e.fCause = ([] : Str))) && (!(idS e.fCause)))) else ((!decide (e.fCause = ([] : Str))) && (!(idS e.fCause)))))))) (some 4) (cnd (((decide (e.fAt < 0)) || (decide (1073741824 < e.fAt)))) (some 2) (obn (vCheck F e.fBody) fun r16 => some r16))

def eEncode (F : Nat) (e : TApiEvent) : Option (Str × Int) :=
 obn (eCheck F e) fun r2 => cnd (!decide (r2 = 0)) (some (([] : Str), r2)) (obn (vEncode F e.fBody) fun r8 => cnd (!decide (r8.2 = 0)) (some (([] : Str), r8.2)) (chk (inK .i64 e.fAt) <| obn (fPack F (cpy (List.replicate 7 ([] : Str)) ([e.fID, e.fTenant, e.fSource, e.fKey, Lib.itoa e.fAt, e.fCause, r8.1] : List Str))) fun r17 => some (r17.1, r17.2)))

def eDecode (F : Nat) (s : Str) : Option (TApiEvent × Int) :=
 obn (fUnpack F s) fun r2 => cnd (!decide (r2.2 = 0)) (some ((TApiEvent.mk ([] : Str) ([] : Str) ([] : Str) ([] : Str) 0 ([] : Str) ([] : List TApiCell)), r2.2)) (cnd (!decide ((r2.1.length : Int) = 7)) (some ((TApiEvent.mk ([] : Str) ([] : Str) ([] : Str) ([] : Str) 0 ([] : Str) ([] : List TApiCell)), 13)) (chk (inR 4 (r2.1.length : Int)) <| chk (inA 1 (at' r2.1 4).length) <| cnd (!decide ((parseE (at' r2.1 4)) = 0)) (some ((TApiEvent.mk ([] : Str) ([] : Str) ([] : Str) ([] : Str) 0 ([] : Str) ([] : List TApiCell)), parseE (at' r2.1 4))) (chk (inR 6 (r2.1.length : Int)) <| obn (vDecode F (at' r2.1 6)) fun r20 => cnd (!decide (r20.2 = 0)) (some ((TApiEvent.mk ([] : Str) ([] : Str) ([] : Str) ([] : Str) 0 ([] : Str) ([] : List TApiCell)), r20.2)) (chk (inR 0 (r2.1.length : Int)) <| chk (inR 1 (r2.1.length : Int)) <| chk (inR 2 (r2.1.length : Int)) <| chk (inR 3 (r2.1.length : Int)) <| chk (inR 5 (r2.1.length : Int)) <| obn (eCheck F (TApiEvent.mk (at' r2.1 0) (at' r2.1 1) (at' r2.1 2) (at' r2.1 3) (parseV (at' r2.1 4)) (at' r2.1 5) r20.1)) fun r37 => cnd (!decide (r37 = 0)) (some ((TApiEvent.mk ([] : Str) ([] : Str) ([] : Str) ([] : Str) 0 ([] : Str) ([] : List TApiCell)), r37)) (some ((TApiEvent.mk (at' r2.1 0) (at' r2.1 1) (at' r2.1 2) (at' r2.1 3) (parseV (at' r2.1 4)) (at' r2.1 5) r20.1), 0))))))

def eSame (F : Nat) (a : TApiEvent) (b : TApiEvent) : Option (Bool) :=
 chk (imp (decide (a.fID = b.fID)) (imp (decide (a.fTenant = b.fTenant)) (imp (decide (a.fSource = b.fSource)) (imp (decide (a.fKey = b.fKey)) (imp (decide (a.fAt = b.fAt)) (imp (decide (a.fCause = b.fCause)) ((slEqual F a.fBody b.fBody).isSome))))))) <| some ((decide (a.fID = b.fID)) && ((decide (a.fTenant = b.fTenant)) && ((decide (a.fSource = b.fSource)) && ((decide (a.fKey = b.fKey)) && ((decide (a.fAt = b.fAt)) && ((decide (a.fCause = b.fCause)) && (ov (slEqual F a.fBody b.fBody))))))))

def eCmp (a : TApiEvent) (b : TApiEvent) : Option (Int) :=
 cnd (decide (a.fAt < b.fAt)) (some (-1)) (cnd (decide (b.fAt < a.fAt)) (some 1) (some (Lib.compareBytes a.fID b.fID)))

def eChild (F : Nat) (e : TApiEvent) (n : Int) (source : Str) (body : (List TApiCell)) (at_ : Int) : Option (TApiEvent × Int) :=
 obn (eCheck F e) fun r3 => cnd (!decide (r3 = 0)) (some ((TApiEvent.mk ([] : Str) ([] : Str) ([] : Str) ([] : Str) 0 ([] : Str) ([] : List TApiCell)), r3)) (chk (inA 1 e.fID.length) <| chk (inK .i64 n) <| cnd (!decide ((childE e.fID n) = 0)) (some ((TApiEvent.mk ([] : Str) ([] : Str) ([] : Str) ([] : Str) 0 ([] : Str) ([] : List TApiCell)), childE e.fID n)) (obn (cloneN body) fun r16 => obn (eCheck F (TApiEvent.mk (childV e.fID n) e.fTenant source e.fKey at_ e.fID r16)) fun r20 => cnd (!decide (r20 = 0)) (some ((TApiEvent.mk ([] : Str) ([] : Str) ([] : Str) ([] : Str) 0 ([] : Str) ([] : List TApiCell)), r20)) (some ((TApiEvent.mk (childV e.fID n) e.fTenant source e.fKey at_ e.fID r16), 0))))

def eLineage_b1 (x33 : (List Str)) : Option (Stp ((List Str)) (Out ((List Str)) (Unit))) :=
 chk (inK .i64 ((x33.length : Int) - 1)) <| chk (inR ((x33.length : Int) - 1) (x33.length : Int)) <| chk (inA 1 (at' x33 ((x33.length : Int) - 1)).length) <| cnd (!(parOk (at' x33 ((x33.length : Int) - 1)))) (some (.out (.ret x33))) (chk (inA 16 (x33.length + ([iff0 (parOk (at' x33 ((x33.length : Int) - 1))) (parP (at' x33 ((x33.length : Int) - 1)))] : List Str).length)) <| some (.next (x33 ++ ([iff0 (parOk (at' x33 ((x33.length : Int) - 1))) (parP (at' x33 ((x33.length : Int) - 1)))] : List Str))))

def eLineage_k1  : Option ((List Str)) :=
 none

def eLineage (F : Nat) (id : Str) : Option ((List Str)) :=
 cnd (!(idS id)) (some ([] : List Str)) (obn (lop (fun σ => eLineage_b1 σ) F ([id] : List Str)) (oute fun ν => eLineage_k1 ))

end Go.Proofs.YtpmiamphppcfeaaGreatDoor

/-
 Frozen slices of which it is known that they are nil if they are empty. Plain theorems.
-/
namespace Go.Proofs.YtpmiamphppcfeaaGreatDoor.Q
open Go Go.RowKit
set_option linter.unusedVariables false
section
variable {P : Program} {n : Nat} {c : Cx} {l : Fr} {H : List Ent} {d : Option Nat} {ty rty t e : TypeId} {pos : String} {af : Array Edge} {g : Option (Nat × Bool)} {x : Operand} {sz : Nat}
end
end Go.Proofs.YtpmiamphppcfeaaGreatDoor.Q

/-
  Walks, printed by a small program of ours (gq.py).
-/
namespace Go.Proofs.YtpmiamphppcfeaaGreatDoor.Q
open Go Go.RowKit
set_option linter.unusedVariables false
set_option linter.unusedSimpArgs false
set_option maxRecDepth 100000
set_option maxHeartbeats 4000000
@[reducible] def eTApiEvent (x : TApiEvent) : List Rp := [rS x.fID, rS x.fTenant, rS x.fSource, rS x.fKey, rI .i64 x.fAt, rS x.fCause, rSl 4 (List.map eTApiCell x.fBody)]
theorem built25 (parts : List (Nat × Value)) : Tryz.prog.built 25 parts = Instr.fill (fun i => (#[(0, 1), (1, 1), (2, 1), (3, 1), (4, 1), (5, 1), (6, 1)] : Array (Nat × Nat))[i]?) #[(.string ⟨#[]⟩), (.string ⟨#[]⟩), (.string ⟨#[]⟩), (.string ⟨#[]⟩), (.int .i64 0), (.string ⟨#[]⟩), ((.slice none 0 0))] parts := by kernel_rfl
theorem o_build25_ {n : Nat} {c : Cx} {l : Fr} {H : List Ent} {d : Option Nat} {ty : TypeId} {pos : String} {af : Array Edge} {g : Option (Nat × Bool)} : ORun Tryz.prog n c l H { dst := d, op := .build 25 #[], type := ty, pos := pos, after := af, guard := g } (rAgg [rS ([] : Str), rS ([] : Str), rS ([] : Str), rS ([] : Str), rI .i64 0, rS ([] : Str), rv (.slice none 0 0)]) := fun a w Z ha _ => by
  have hb : Tryz.prog.built 25 [] = some #[(.string ⟨#[]⟩), (.string ⟨#[]⟩), (.string ⟨#[]⟩), (.string ⟨#[]⟩), (.int .i64 0), (.string ⟨#[]⟩), ((.slice none 0 0))] := by
    rw [built25]
    simp [Instr.fill, Value.cells]
  refine ⟨.agg #[(.string ⟨#[]⟩), (.string ⟨#[]⟩), (.string ⟨#[]⟩), (.string ⟨#[]⟩), (.int .i64 0), (.string ⟨#[]⟩), ((.slice none 0 0))], ⟨[(.string ⟨#[]⟩), (.string ⟨#[]⟩), (.string ⟨#[]⟩), (.string ⟨#[]⟩), (.int .i64 0), (.string ⟨#[]⟩), ((.slice none 0 0))], rfl, rfl, rfl, rfl, rfl, rfl, rfl, rfl, trivial⟩, ?_⟩
  have := run_build w 25 #[] _ (by simpa using hb)
  simp [execOp, this]
theorem o_build25_0_1_2_3_4_5_6 {n : Nat} {c : Cx} {l : Fr} {H : List Ent} {d : Option Nat} {ty : TypeId} {pos : String} {af : Array Edge} {g : Option (Nat × Bool)} {x0 : Operand} {r0 : Rp} (h0 : ev l x0 = some r0) (u0 : r0.one = true) {x1 : Operand} {r1 : Rp} (h1 : ev l x1 = some r1) (u1 : r1.one = true) {x2 : Operand} {r2 : Rp} (h2 : ev l x2 = some r2) (u2 : r2.one = true) {x3 : Operand} {r3 : Rp} (h3 : ev l x3 = some r3) (u3 : r3.one = true) {x4 : Operand} {r4 : Rp} (h4 : ev l x4 = some r4) (u4 : r4.one = true) {x5 : Operand} {r5 : Rp} (h5 : ev l x5 = some r5) (u5 : r5.one = true) {x6 : Operand} {r6 : Rp} (h6 : ev l x6 = some r6) (u6 : r6.one = true) : ORun Tryz.prog n c l H { dst := d, op := .build 25 #[(0, x0), (1, x1), (2, x2), (3, x3), (4, x4), (5, x5), (6, x6)], type := ty, pos := pos, after := af, guard := g } (rAgg [r0, r1, r2, r3, r4, r5, r6]) := fun a w Z ha _ => by
  have p0 := ha.ev h0
  have c0 := cells_one (r0.hone u0 Z _ p0)
  have p1 := ha.ev h1
  have c1 := cells_one (r1.hone u1 Z _ p1)
  have p2 := ha.ev h2
  have c2 := cells_one (r2.hone u2 Z _ p2)
  have p3 := ha.ev h3
  have c3 := cells_one (r3.hone u3 Z _ p3)
  have p4 := ha.ev h4
  have c4 := cells_one (r4.hone u4 Z _ p4)
  have p5 := ha.ev h5
  have c5 := cells_one (r5.hone u5 Z _ p5)
  have p6 := ha.ev h6
  have c6 := cells_one (r6.hone u6 Z _ p6)
  have hb : Tryz.prog.built 25 [(0, a.eval x0), (1, a.eval x1), (2, a.eval x2), (3, a.eval x3), (4, a.eval x4), (5, a.eval x5), (6, a.eval x6)] = some #[a.eval x0, a.eval x1, a.eval x2, a.eval x3, a.eval x4, a.eval x5, a.eval x6] := by
    rw [built25]
    generalize a.eval x0 = v0 at *
    generalize a.eval x1 = v1 at *
    generalize a.eval x2 = v2 at *
    generalize a.eval x3 = v3 at *
    generalize a.eval x4 = v4 at *
    generalize a.eval x5 = v5 at *
    generalize a.eval x6 = v6 at *
    simp [Instr.fill, c0, c1, c2, c3, c4, c5, c6]
  refine ⟨.agg #[a.eval x0, a.eval x1, a.eval x2, a.eval x3, a.eval x4, a.eval x5, a.eval x6], ⟨[a.eval x0, a.eval x1, a.eval x2, a.eval x3, a.eval x4, a.eval x5, a.eval x6], rfl, p0, p1, p2, p3, p4, p5, p6, trivial⟩, ?_⟩
  have := run_build w 25 #[(0, a.eval x0), (1, a.eval x1), (2, a.eval x2), (3, a.eval x3), (4, a.eval x4), (5, a.eval x5), (6, a.eval x6)] _ (by simpa using hb)
  simp [execOp, this]
theorem cloneN_w (ys : (List TApiCell)) (r : (List TApiCell)) (h : cloneN ys = some r) : Fn Tryz.prog GE 38 [rSl 4 (List.map eTApiCell ys)] [] (fun R H => R = rSl 4 (List.map eTApiCell r) ∧ H = []) := by
 refine enter (n := 8) Tryz.func38 rfl Tryz.ntmps38 rfl (fun w Z => ?_)
 unfold cloneN at h
 refine wc_sr (wa rfl (wl_x (wc_seq (wc_sr (wm rfl (wv (o_slnil_z yu23 rfl) (wl_x (wc_condx rfl (fun c1 => ?_) (fun c1 => ?_)))))))))
 ·have e2 : ys = [] := List.map_eq_nil_iff.1 (c1 rfl)
  have h3 : some ([] : List TApiCell) = some r := by rw [e2] at h; exact (chk_e h).2
  refine wc_sr (wa rfl (wl_x (wc_ret (wk_then_ret (WK.up (d := 2) (r := rSl 4 (List.map eTApiCell ([] : List TApiCell))) rfl (Up.le (Rle.nil _)) ?_)))))
  obtain rfl := some_e h3
  exact wk_ret (r_1 Tryz.results38 (rv_t rfl)) sN ⟨rfl, rfl⟩
 ·refine wc_skip (wk_x (wc_sr (w_buildSlice (ys := ([] : List TApiCell)) (enc := eTApiCell) (css := []) (xs := []) yu23 ys51 yz51 rfl rfl rfl trivial rfl eTApiCell_len rfl rfl rfl (fun b4 => ?_))))
  refine wm rfl (ck h fun g6 h7 => Exists.elim info51 fun inf hinf => w_append (xs := ([] : List TApiCell)) (ys := ys) (enc := eTApiCell) (i := 0) yu23 hinf.1 hinf.2.1 hinf.2.2.1 hinf.2.2.2 rfl rfl rfl rfl rfl (Src.z rfl rfl) eTApiCell_len eTApiCell_one g6 rfl (fun v5 => ?_))
  refine wa rfl (wl_x (wc_ret (WK.freeze (i := 0) rfl (WK.up (d := 2) (r := rSl 4 (List.map eTApiCell (([] : List TApiCell) ++ ys))) rfl (Up.fact (i := 0) rfl) ?_))))
  obtain rfl := some_e h7
  exact wk_ret (r_1 Tryz.results38 (rv_t rfl)) (sS sN) ⟨rfl, rfl⟩

theorem eCheck_w (F : Nat) (e : TApiEvent) (r : Int) (h : eCheck F e = some r) : Fn Tryz.prog GE 25 [rAgg (eTApiEvent e)] [] (fun R H => R = rI .i64 r ∧ H = []) := by
 refine enter (n := 52) Tryz.func25 rfl Tryz.ntmps25 rfl (fun w Z => ?_)
 unfold eCheck at h
 refine wc_sr (w_box_agg rfl rfl (fun b1 => ?_))
 refine wa rfl (wl_x (wc_seq (wc_seq_mid [(1, rP b1 0), (40, rB ((!(idS e.fID)) || ((!(idS e.fTenant)) || ((!(idS e.fSource)) || (bif !decide (e.fKey = ([] : Str)) then ((!(idS e.fKey)) || ((!decide (e.fCause = ([] : Str))) && (!(idS e.fCause)))) else ((!decide (e.fCause = ([] : Str))) && (!(idS e.fCause))))))))] [.blk b1 (eTApiEvent e) 25] ?_ ?_)))
 ·refine wc_region (vF yu25 rfl ys9 (vL 0 ya9 rfl (w_call0 (rs := [rS e.fID]) (r := rB (idS e.fID)) yk40 rfl (id_q e.fID) rfl rfl (wv (o_not rfl) (wm rfl (bsplit (!(idS e.fID)) (fun c2 => ?_) (fun c2 => ?_)))))))
  ·refine wf c2 (wf c2 (wf c2 (wf c2 (wv (r := rB true) (o_pick_t rfl c2 rfl) (wm rfl (wz rfl rfl (wz rfl rfl (wz rfl rfl (wz rfl rfl (wv (r := rB true) (o_pick_t (b := true) rfl rfl rfl) (wm rfl (wz rfl rfl (wz rfl rfl (wz rfl rfl (wz rfl rfl (wu (wu (wu (wu (wz rfl rfl (wv (r := rB true) (o_pick_t (b := true) rfl rfl rfl) (wm rfl (wz rfl rfl ?_)))))))))))))))))))))))
   refine wz rfl rfl (wz rfl rfl (wz rfl rfl (wu (wu (wu (wu (wz rfl rfl (wv (r := rB true) (o_pick_t (b := true) rfl rfl rfl) (wl_nil ?_)))))))))
   exact wtc c2
  ·refine wo c2 (vF yu25 rfl ys9 (wo c2 (vL 0 ya9 rfl (wo c2 (w_call0 (rs := [rS e.fTenant]) (r := rB (idS e.fTenant)) yk40 rfl (id_q e.fTenant) rfl rfl (wo c2 (wv (o_not rfl) (wpf rfl c2 rfl (wm rfl (bsplit (!(idS e.fTenant)) (fun c3 => ?_) (fun c3 => ?_)))))))))))
   ·refine wf c3 (wf c3 (wf c3 (wf c3 (wv (r := rB true) (o_pick_t rfl c3 rfl) (wm rfl (wz rfl rfl (wz rfl rfl (wz rfl rfl (wz rfl rfl (wu (wu (wu (wu (wz rfl rfl (wv (r := rB true) (o_pick_t (b := true) rfl rfl rfl) (wm rfl (wz rfl rfl (wz rfl rfl (wz rfl rfl (wz rfl rfl (wu (wu (wu ?_)))))))))))))))))))))))
    refine wu (wz rfl rfl (wv (r := rB true) (o_pick_t (b := true) rfl rfl rfl) (wl_nil ?_)))
    exact wtc (And.intro c2 c3)
   ·refine wo c3 (vF yu25 rfl ys9 (wo c3 (vL 0 ya9 rfl (wo c3 (w_call0 (rs := [rS e.fSource]) (r := rB (idS e.fSource)) yk40 rfl (id_q e.fSource) rfl rfl (wo c3 (wv (o_not rfl) (wpf rfl c3 rfl (wm rfl (bsplit (!(idS e.fSource)) (fun c4 => ?_) (fun c4 => ?_)))))))))))
    ·refine wf c4 (wf c4 (wf c4 (wf c4 (wu (wu (wu (wu (wf c4 (wv (r := rB true) (o_pick_t rfl c4 rfl) (wm rfl (wz rfl rfl (wz rfl rfl (wz rfl rfl (wz rfl rfl (wu (wu (wu (wu (wz rfl rfl (wv (r := rB true) (o_pick_t (b := true) rfl rfl rfl) (wl_nil ?_)))))))))))))))))))))
     exact wtc (And.intro c2 (And.intro c3 c4))
    ·refine wo c4 (vF yu25 rfl ys9 (wo c4 (vL 0 ya9 rfl (wo c4 (wv (o_sne rfl rfl) (wo c4 (wm rfl (bsplit (!decide (e.fKey = ([] : Str))) (fun c5 => ?_) (fun c5 => ?_)))))))))
     ·refine wo c5 (vF yu25 rfl ys9 (wo c5 (vL 0 ya9 rfl (wo c5 (w_call0 (rs := [rS e.fKey]) (r := rB (idS e.fKey)) yk40 rfl (id_q e.fKey) rfl rfl (wo c5 (wv (o_not rfl) (wo c4 (wpt rfl c5 rfl (wpf rfl c4 rfl (wm rfl (bsplit (!(idS e.fKey)) (fun c6 => ?_) (fun c6 => ?_)))))))))))))
      ·refine wf c6 (wf c6 (wf c6 (wf c6 (wu (wu (wu (wu (wf c6 (wv (r := rB true) (o_pick_t rfl c6 rfl) (wl_nil ?_))))))))))
       exact wtc (And.intro c2 (And.intro c3 (And.intro c4 (And.intro c5 c6))))
      ·refine wo c6 (vF yu25 rfl ys9 (wo c6 (vL 0 ya9 rfl (wo c6 (wv (o_sne rfl rfl) (wo c6 (wm rfl (bsplit (!decide (e.fCause = ([] : Str))) (fun c7 => ?_) (fun c7 => ?_)))))))))
       ·refine wo c7 (vF yu25 rfl ys9 (wo c7 (vL 0 ya9 rfl (wo c7 (w_call0 (rs := [rS e.fCause]) (r := rB (idS e.fCause)) yk40 rfl (id_q e.fCause) rfl rfl (wo c7 (wv (o_not rfl) (wo c6 (wpt rfl c7 rfl (wpf rfl c6 rfl (wl_nil ?_)))))))))))
        exact wtc (And.intro c2 (And.intro c3 (And.intro c4 (And.intro c5 (And.intro c6 c7)))))
       ·refine wf c7 (wf c7 (wf c7 (wf c7 (wo c6 (wv (r := rB false) (o_pick_f rfl c7 rfl) (wpf rfl c6 rfl (wl_nil ?_)))))))
        exact wtc (And.intro c2 (And.intro c3 (And.intro c4 (And.intro c5 (And.intro c6 c7)))))
     ·refine wf c5 (wf c5 (wf c5 (wf c5 (wo c4 (wv (r := rB false) (o_pick_f rfl c5 rfl) (wpf rfl c4 rfl (wm rfl (wl_on (b := false) rfl rfl rfl (vF yu25 rfl ys9 (wl_on (b := false) rfl rfl rfl (vL 0 ya9 rfl (wl_on (b := false) rfl rfl rfl (wv (o_sne rfl rfl) (wl_on (b := false) rfl rfl rfl (wm rfl (bsplit (!decide (e.fCause = ([] : Str))) (fun c8 => ?_) (fun c8 => ?_)))))))))))))))))
      ·refine wo c8 (vF yu25 rfl ys9 (wo c8 (vL 0 ya9 rfl (wo c8 (w_call0 (rs := [rS e.fCause]) (r := rB (idS e.fCause)) yk40 rfl (id_q e.fCause) rfl rfl (wo c8 (wv (o_not rfl) (wl_on (b := false) rfl rfl rfl (wpt rfl c8 rfl (wv (r := rB (!(idS e.fCause))) (o_pick_f (b := false) rfl rfl rfl) (wl_nil ?_)))))))))))
       exact wtc (And.intro c2 (And.intro c3 (And.intro c4 (And.intro c5 c8))))
      ·refine wf c8 (wf c8 (wf c8 (wf c8 (wl_on (b := false) rfl rfl rfl (wv (r := rB false) (o_pick_f rfl c8 rfl) (wv (r := rB false) (o_pick_f (b := false) rfl rfl rfl) (wl_nil ?_)))))))
       exact wtc (And.intro c2 (And.intro c3 (And.intro c4 (And.intro c5 c8))))
 refine cz h rfl (fun c9 h10 => ?_) (fun c9 h11 => ?_)
 ·refine wc_sr (wa rfl (wl_x (wc_ret (wk_then_ret ?_))))
  obtain rfl := some_e h10
  exact wk_ret (r_1 Tryz.results25 (rv_t rfl)) (sS sN) ⟨rfl, rfl⟩
 ·refine wc_skip (wk_x (wc_seq (wc_seq_mid [(1, rP b1 0), (48, rB ((decide (e.fAt < 0)) || (decide (1073741824 < e.fAt))))] [.blk b1 (eTApiEvent e) 25] ?_ ?_)))
  ·refine wc_region (vF yu25 rfl ys3 (vL 0 ya3 rfl (wv (o_lt rfl rfl) (wm rfl (bsplit (decide (e.fAt < 0)) (fun c12 => ?_) (fun c12 => ?_))))))
   ·refine wf c12 (wf c12 (wf c12 (wv (r := rB true) (o_pick_t rfl c12 rfl) (wl_nil ?_))))
    exact wtc c12
   ·refine wo c12 (vF yu25 rfl ys3 (wo c12 (vL 0 ya3 rfl (wo c12 (wv (o_gt rfl rfl) (wpf rfl c12 rfl (wl_nil ?_)))))))
    exact wtc c12
  refine cz h11 rfl (fun c13 h14 => ?_) (fun c13 h15 => ?_)
  ·refine wc_sr (wa rfl (wl_x (wc_ret (wk_then_ret ?_))))
   obtain rfl := some_e h14
   exact wk_ret (r_1 Tryz.results25 (rv_t rfl)) (sS sN) ⟨rfl, rfl⟩
  ·refine wc_skip (wk_x (wc_sr (vF yu25 rfl ys23 (vL 0 ya23 rfl (ob h15 fun r16 e18 h17 => wc0 Tryz.call54 (vCheck_w F e.fBody r16 e18) rfl (wa rfl (wl_x (wc_ret ?_))))))))
   obtain rfl := some_e h17
   exact wk_ret (r_1 Tryz.results25 (rv_t rfl)) (sS sN) ⟨rfl, rfl⟩

theorem eEncode_w (F : Nat) (e : TApiEvent) (r : Str × Int) (h : eEncode F e = some r) : Fn Tryz.prog GE 21 [rAgg (eTApiEvent e)] [] (fun R H => R = rTup [rS r.1, rI .i64 r.2] ∧ H = []) := by
 refine enter (n := 44) Tryz.func21 rfl Tryz.ntmps21 rfl (fun w Z => ?_)
 unfold eEncode at h
 refine wc_sr (w_box_agg rfl rfl (fun b1 => ?_))
 refine wv (r := rS ([] : Str)) (o_assign rfl) (wa rfl (wl_x (wc_seq (wc_sr (wv (o_load_agg (i := 0) ya25 ys25 rfl rfl rfl rfl) (ob h fun r2 e4 h3 => wc0 yk25 (eCheck_w F e r2 e4) rfl (wa rfl (wl_y (wm rfl (wv (o_ne rfl rfl) (wl_x (cz h3 rfl (fun c5 h6 => ?_) (fun c5 h7 => ?_)))))))))))))
 ·refine wc_sr (wm rfl (wv (r := rS ([] : Str)) (o_assign rfl) (wa rfl (wl_x (wc_ret (wk_then_ret ?_))))))
  obtain rfl := some_e h6
  exact wk_ret (r_2 Tryz.results21 (rv_t rfl) (rv_t rfl)) (sS sN) ⟨rfl, rfl⟩
 ·refine wc_skip (wk_x (wc_sr (vF yu25 rfl ys23 (vL 0 ya23 rfl (ob h7 fun r8 e10 h9 => wc0 Tryz.call44 (vEncode_w F e.fBody r8 e10) rfl (wm rfl (wv (o_extract rfl rfl) (wv (o_extract rfl rfl) (wa rfl (wa rfl (wl_x (wc_seq (wc_sr (wm rfl (wv (o_ne rfl rfl) (wl_x (cz h9 rfl (fun c11 h12 => ?_) (fun c11 h13 => ?_))))))))))))))))))
  ·refine wc_sr (wm rfl (wv (r := rS ([] : Str)) (o_assign rfl) (wa rfl (wl_x (wc_ret (wk_then_ret ?_))))))
   obtain rfl := some_e h12
   exact wk_ret (r_2 Tryz.results21 (rv_t rfl) (rv_t rfl)) (sS sN) ⟨rfl, rfl⟩
  ·refine wc_skip (wk_x (wc_sr (Exists.elim info9 fun inf hinf => w_make (enc := eS) (zα := ([] : Str)) (m := 7) yu36 hinf.1 hinf.2.1 hinf.2.2.1 hinf.2.2.2 rfl rfl rfl (fun _ => rfl) rfl rfl (by decide) rfl (fun v14 => ?_))))
   refine wa rfl (wl_x (wc_seq (ck h13 fun g15 h16 => wc_rdlk (H1 := [.row v14 9 1 (List.map eS (List.replicate 7 ([] : Str))), .blk b1 (eTApiEvent e) 25]) 16 [1, 5, 7] [⟨[], rv v14, 0⟩, ⟨[], rP b1 0, 0⟩, ⟨[1], rS e.fID, 1⟩, ⟨[], rP b1 1, 0⟩, ⟨[3], rS e.fTenant, 1⟩, ⟨[], rP b1 2, 0⟩, ⟨[5], rS e.fSource, 1⟩, ⟨[], rP b1 3, 0⟩, ⟨[7], rS e.fKey, 1⟩, ⟨[], rP b1 4, 0⟩, ⟨[9], rI .i64 e.fAt, 1⟩, ⟨[10], rS (Lib.itoa e.fAt), 0⟩, ⟨[], rP b1 5, 0⟩, ⟨[12], rS e.fCause, 1⟩, ⟨[], rS r8.1, 0⟩, ⟨[2, 4, 6, 8, 11, 13, 14], rSl 1 (List.map eS ([e.fID, e.fTenant, e.fSource, e.fKey, Lib.itoa e.fAt, e.fCause, r8.1] : List Str)), 0⟩] (rle [(17, _)]) [23, 24, 25, 26, 27, 28, 29, 30, 31, 32, 33, 34, 35, 36, 37, 38, 1, 5, 7] ?_ ?_)))
   ·refine oq (o_move rfl) (oq (o_fieldAddr yu25 rfl ys9 rfl rfl) (of (o_load (i := 1) ya9 rfl rfl rfl) (oq (o_fieldAddr yu25 rfl ys9 rfl rfl) (of (o_load (i := 1) ya9 rfl rfl rfl) (oq (o_fieldAddr yu25 rfl ys9 rfl rfl) (of (o_load (i := 1) ya9 rfl rfl rfl) (oq (o_fieldAddr yu25 rfl ys9 rfl rfl) (of (o_load (i := 1) ya9 rfl rfl rfl) (oq (o_fieldAddr yu25 rfl ys3 rfl rfl) (of (o_load (i := 1) ya3 rfl rfl rfl) (obl_q rfl (fun H => ok_call0 (rs := [rI .i64 e.fAt]) (r := rS (Lib.itoa e.fAt)) Tryz.call45 rfl (format_q e.fAt g15) rfl) ?_)))))))))))
    refine oq (o_fieldAddr yu25 rfl ys9 rfl rfl) (of (o_load (i := 1) ya9 rfl rfl rfl) (oq (o_move rfl) (obl_q rfl (fun H => ok_buildSlice (ys := ([e.fID, e.fTenant, e.fSource, e.fKey, Lib.itoa e.fAt, e.fCause, r8.1] : List Str)) (enc := eS) (css := [[rS e.fID], [rS e.fTenant], [rS e.fSource], [rS e.fKey], [rS (Lib.itoa e.fAt)], [rS e.fCause], [rS r8.1]]) (xs := [.tmp 25, .tmp 27, .tmp 29, .tmp 31, .tmp 34, .tmp 36, .tmp 37]) yu36 ys9 yz9 rfl rfl rfl ⟨Cel.one rfl (Up.refl _), Cel.one rfl (Up.refl _), Cel.one rfl (Up.refl _), Cel.one rfl (Up.refl _), Cel.one rfl (Up.refl _), Cel.one rfl (Up.refl _), Cel.one rfl (Up.refl _), trivial⟩ rfl eS_len rfl rfl) ?_)))
    exact obl_e
   refine w_copy (xs := List.replicate 7 ([] : Str)) (ys := ([e.fID, e.fTenant, e.fSource, e.fKey, Lib.itoa e.fAt, e.fCause, r8.1] : List Str)) (enc := eS) (i := 0) yu36 (by obtain ⟨inf, hinf⟩ := info9; simp [hinf.1, hinf.2.2.1]) rfl rfl (Src.z rfl rfl) eS_len eS_one rfl (wl_asH (H' := [.row v14 9 1 (List.map eS (cpy (List.replicate 7 ([] : Str)) ([e.fID, e.fTenant, e.fSource, e.fKey, Lib.itoa e.fAt, e.fCause, r8.1] : List Str))), .blk b1 (eTApiEvent e) 25]) rfl (wl_y (wm rfl (WL.freeze (i := 0) rfl (WL.up (d := 40) (r := rSl 1 (List.map eS (cpy (List.replicate 7 ([] : Str)) ([e.fID, e.fTenant, e.fSource, e.fKey, Lib.itoa e.fAt, e.fCause, r8.1] : List Str)))) rfl (Up.fact (i := 0) rfl) (ob h16 fun r17 e19 h18 => wc0 Tryz.call46 (fPack_w F (cpy (List.replicate 7 ([] : Str)) ([e.fID, e.fTenant, e.fSource, e.fKey, Lib.itoa e.fAt, e.fCause, r8.1] : List Str)) r17 e19) rfl (wv (o_extract rfl rfl) (wv (o_extract rfl rfl) (wa rfl (wa rfl (wl_x (wc_ret ?_))))))))))))
   obtain rfl := some_e h18
   exact wk_ret (r_2 Tryz.results21 (rv_t rfl) (rv_t rfl)) (sS (sS sN)) ⟨rfl, rfl⟩

theorem eDecode_w (F : Nat) (s : Str) (r : TApiEvent × Int) (h : eDecode F s = some r) : Fn Tryz.prog GE 9 [rS s] [] (fun R H => R = rTup [rAgg (eTApiEvent r.1), rI .i64 r.2] ∧ H = []) := by
 refine enter (n := 70) Tryz.func9 rfl Tryz.ntmps9 rfl (fun w Z => ?_)
 unfold eDecode at h
 refine wc_sr (w_alloc (cs := [rS ([] : Str), rS ([] : Str), rS ([] : Str), rS ([] : Str), rI .i64 0, rS ([] : Str), rv (.slice none 0 0)]) yz25 rfl rfl (fun b1 => ?_))
 refine wa rfl (wl_y (wm rfl (ob h fun r2 e4 h3 => wc0 Tryz.call28 (fUnpack_w F s r2 e4) rfl (wm rfl (wv (o_extract rfl rfl) (wv (o_extract rfl rfl) (wa rfl (wa rfl (wl_x (wc_seq (wc_sr (wm rfl (wv (o_ne rfl rfl) (wl_x (cz h3 rfl (fun c5 h6 => ?_) (fun c5 h7 => ?_))))))))))))))))
 ·refine wc_sr (wv (r := rAgg [rS ([] : Str), rS ([] : Str), rS ([] : Str), rS ([] : Str), rI .i64 0, rS ([] : Str), rv (.slice none 0 0)]) (o_build25_ ) (wm rfl (u_store_agg (i := 0) ys25 rfl rfl rfl (OneAll.c rfl) rfl rfl (cs' := [rS ([] : Str), rS ([] : Str), rS ([] : Str), rS ([] : Str), rI .i64 0, rS ([] : Str), rv (.slice none 0 0)]) rfl (H' := [.blk b1 [rS ([] : Str), rS ([] : Str), rS ([] : Str), rS ([] : Str), rI .i64 0, rS ([] : Str), rv (.slice none 0 0)] 25]) rfl (wa rfl (wl_x (wc_ret (wk_then_ret (WK.upBlk (i := 0) (cs' := [rS ([] : Str), rS ([] : Str), rS ([] : Str), rS ([] : Str), rI .i64 0, rS ([] : Str), rSl 4 (List.map eTApiCell ([] : List TApiCell))]) rfl ⟨Up.refl _, Up.refl _, Up.refl _, Up.refl _, Up.refl _, Up.refl _, Up.le (Rle.nil _), trivial⟩ ?_))))))))
  obtain rfl := some_e h6
  exact wk_ret (r_2 yr9 (rv_ca (i := 0) ya25 ys25 rfl rfl rfl) (rv_t rfl)) (sS sN) ⟨rfl, rfl⟩
 ·refine wc_skip (wk_x (wc_seq (wc_sr (wm rfl (wv (o_len_zt (ys := r2.1) (enc := eS) yu36 rfl) (wv (o_ne rfl rfl) (wl_x (cz h7 rfl (fun c8 h9 => ?_) (fun c8 h10 => ?_)))))))))
  ·refine wc_sr (wv (r := rAgg [rS ([] : Str), rS ([] : Str), rS ([] : Str), rS ([] : Str), rI .i64 0, rS ([] : Str), rv (.slice none 0 0)]) (o_build25_ ) (u_store_agg (i := 0) ys25 rfl rfl rfl (OneAll.c rfl) rfl rfl (cs' := [rS ([] : Str), rS ([] : Str), rS ([] : Str), rS ([] : Str), rI .i64 0, rS ([] : Str), rv (.slice none 0 0)]) rfl (H' := [.blk b1 [rS ([] : Str), rS ([] : Str), rS ([] : Str), rS ([] : Str), rI .i64 0, rS ([] : Str), rv (.slice none 0 0)] 25]) rfl (wa rfl (wl_x (wc_ret (wk_then_ret (WK.upBlk (i := 0) (cs' := [rS ([] : Str), rS ([] : Str), rS ([] : Str), rS ([] : Str), rI .i64 0, rS ([] : Str), rSl 4 (List.map eTApiCell ([] : List TApiCell))]) rfl ⟨Up.refl _, Up.refl _, Up.refl _, Up.refl _, Up.refl _, Up.refl _, Up.le (Rle.nil _), trivial⟩ ?_)))))))
   obtain rfl := some_e h9
   exact wk_ret (r_2 yr9 (rv_ca (i := 0) ya25 ys25 rfl rfl rfl) (rv_t rfl)) (sS sN) ⟨rfl, rfl⟩
  ·refine wc_skip (wk_x (wc_sr (wm rfl (ck h10 fun g11 h12 => wv (o_ix_z (enc := eS) (ys := r2.1) yu36 ys9 rfl rfl g11) (wv (o_load_z ya9 rfl rfl) (ck h12 fun g13 h14 => w_call0 (rs := [rS (at' r2.1 4)]) (r := rTup [rI .i64 (parseV (at' r2.1 4)), rI .i64 (parseE (at' r2.1 4))]) Tryz.call29 rfl (parse_q (at' r2.1 4) g13) rfl rfl (wm rfl (wv (o_extract rfl rfl) (wv (o_extract rfl rfl) (wa rfl (wa rfl (wl_x (wc_seq (wc_sr (wm rfl (wv (o_ne rfl rfl) (wl_x (cz h14 rfl (fun c15 h16 => ?_) (fun c15 h17 => ?_)))))))))))))))))))
   ·refine wc_sr (wv (r := rAgg [rS ([] : Str), rS ([] : Str), rS ([] : Str), rS ([] : Str), rI .i64 0, rS ([] : Str), rv (.slice none 0 0)]) (o_build25_ ) (wm rfl (u_store_agg (i := 0) ys25 rfl rfl rfl (OneAll.c rfl) rfl rfl (cs' := [rS ([] : Str), rS ([] : Str), rS ([] : Str), rS ([] : Str), rI .i64 0, rS ([] : Str), rv (.slice none 0 0)]) rfl (H' := [.blk b1 [rS ([] : Str), rS ([] : Str), rS ([] : Str), rS ([] : Str), rI .i64 0, rS ([] : Str), rv (.slice none 0 0)] 25]) rfl (wa rfl (wl_x (wc_ret (wk_then_ret (WK.upBlk (i := 0) (cs' := [rS ([] : Str), rS ([] : Str), rS ([] : Str), rS ([] : Str), rI .i64 0, rS ([] : Str), rSl 4 (List.map eTApiCell ([] : List TApiCell))]) rfl ⟨Up.refl _, Up.refl _, Up.refl _, Up.refl _, Up.refl _, Up.refl _, Up.le (Rle.nil _), trivial⟩ ?_))))))))
    obtain rfl := some_e h16
    exact wk_ret (r_2 yr9 (rv_ca (i := 0) ya25 ys25 rfl rfl rfl) (rv_t rfl)) (sS sN) ⟨rfl, rfl⟩
   ·refine wc_skip (wk_x (wc_sr (wm rfl (ck h17 fun g18 h19 => wv (o_ix_z (enc := eS) (ys := r2.1) yu36 ys9 rfl rfl g18) (wv (o_load_z ya9 rfl rfl) (ob h19 fun r20 e22 h21 => wc0 Tryz.call30 (vDecode_w F (at' r2.1 6) r20 e22) rfl (wm rfl (wv (o_extract rfl rfl) (wv (o_extract rfl rfl) (wa rfl (wa rfl (wl_x (wc_seq (wc_sr (wm rfl (wv (o_ne rfl rfl) (wl_x (cz h21 rfl (fun c23 h24 => ?_) (fun c23 h25 => ?_)))))))))))))))))))
    ·refine wc_sr (wv (r := rAgg [rS ([] : Str), rS ([] : Str), rS ([] : Str), rS ([] : Str), rI .i64 0, rS ([] : Str), rv (.slice none 0 0)]) (o_build25_ ) (wm rfl (u_store_agg (i := 0) ys25 rfl rfl rfl (OneAll.c rfl) rfl rfl (cs' := [rS ([] : Str), rS ([] : Str), rS ([] : Str), rS ([] : Str), rI .i64 0, rS ([] : Str), rv (.slice none 0 0)]) rfl (H' := [.blk b1 [rS ([] : Str), rS ([] : Str), rS ([] : Str), rS ([] : Str), rI .i64 0, rS ([] : Str), rv (.slice none 0 0)] 25]) rfl (wa rfl (wl_x (wc_ret (wk_then_ret (WK.upBlk (i := 0) (cs' := [rS ([] : Str), rS ([] : Str), rS ([] : Str), rS ([] : Str), rI .i64 0, rS ([] : Str), rSl 4 (List.map eTApiCell ([] : List TApiCell))]) rfl ⟨Up.refl _, Up.refl _, Up.refl _, Up.refl _, Up.refl _, Up.refl _, Up.le (Rle.nil _), trivial⟩ ?_))))))))
     obtain rfl := some_e h24
     exact wk_ret (r_2 yr9 (rv_ca (i := 0) ya25 ys25 rfl rfl rfl) (rv_t rfl)) (sS sN) ⟨rfl, rfl⟩
    ·refine wc_skip (wk_x (wc_seq (ck h25 fun g26 h27 => ck h27 fun g28 h29 => ck h29 fun g30 h31 => ck h31 fun g32 h33 => ck h33 fun g34 h35 => wc_rdak 19 [2, 4, 6, 7] [⟨[], rSl 1 (List.map eS r2.1), none, none, none⟩, ⟨[0], rAt [rS (at' r2.1 0)], none, none, none⟩, ⟨[1], rS (at' r2.1 0), none, none, none⟩, ⟨[], rSl 1 (List.map eS r2.1), none, none, none⟩, ⟨[3], rAt [rS (at' r2.1 1)], none, none, none⟩, ⟨[4], rS (at' r2.1 1), none, none, none⟩, ⟨[], rSl 1 (List.map eS r2.1), none, none, none⟩, ⟨[6], rAt [rS (at' r2.1 2)], none, none, none⟩, ⟨[7], rS (at' r2.1 2), none, none, none⟩, ⟨[], rSl 1 (List.map eS r2.1), none, none, none⟩, ⟨[9], rAt [rS (at' r2.1 3)], none, none, none⟩, ⟨[10], rS (at' r2.1 3), none, none, none⟩, ⟨[], rI .i64 (parseV (at' r2.1 4)), none, none, none⟩, ⟨[], rSl 1 (List.map eS r2.1), none, none, none⟩, ⟨[13], rAt [rS (at' r2.1 5)], none, none, none⟩, ⟨[14], rS (at' r2.1 5), none, none, none⟩, ⟨[], rSl 4 (List.map eTApiCell r20.1), none, none, none⟩, ⟨[2, 5, 8, 11, 12, 15, 16], rAgg [rS (at' r2.1 0), rS (at' r2.1 1), rS (at' r2.1 2), rS (at' r2.1 3), rI .i64 (parseV (at' r2.1 4)), rS (at' r2.1 5), rSl 4 (List.map eTApiCell r20.1)], none, none, none⟩, ⟨[], rv undef, some ([rS ([] : Str), rS ([] : Str), rS ([] : Str), rS ([] : Str), rI .i64 0, rS ([] : Str), rv (.slice none 0 0)], 25), none, none⟩] ?_ (fun β => ?_))))
     ·refine oaq (o_move rfl) (oaq (o_ix_z (enc := eS) (ys := r2.1) yu36 ys9 rfl rfl g26) (oaq (o_load_z ya9 rfl rfl) (oaq (o_move rfl) (oaq (o_ix_z (enc := eS) (ys := r2.1) yu36 ys9 rfl rfl g28) (oaq (o_load_z ya9 rfl rfl) (oaq (o_move rfl) (oaq (o_ix_z (enc := eS) (ys := r2.1) yu36 ys9 rfl rfl g30) (oaq (o_load_z ya9 rfl rfl) (oaq (o_move rfl) (oaq (o_ix_z (enc := eS) (ys := r2.1) yu36 ys9 rfl rfl g32) (oaq (o_load_z ya9 rfl rfl) (oaq (o_move rfl) (oaq (o_move rfl) (oaq (o_ix_z (enc := eS) (ys := r2.1) yu36 ys9 rfl rfl g34) (oaq (o_load_z ya9 rfl rfl) (oaq (o_move rfl) (oaq (o_build25_0_1_2_3_4_5_6 rfl rfl rfl rfl rfl rfl rfl rfl rfl rfl rfl rfl rfl rfl) (oal (al_ok (cs := [rS ([] : Str), rS ([] : Str), rS ([] : Str), rS ([] : Str), rI .i64 0, rS ([] : Str), rv (.slice none 0 0)]) yz25 rfl) ?_))))))))))))))))))
      exact oae
     refine wl_kza (H1 := [.blk b1 [rS ([] : Str), rS ([] : Str), rS ([] : Str), rS ([] : Str), rI .i64 0, rS ([] : Str), rv (.slice none 0 0)] 25, .blk (β 18) [rS ([] : Str), rS ([] : Str), rS ([] : Str), rS ([] : Str), rI .i64 0, rS ([] : Str), rv (.slice none 0 0)] 25]) [45, 46, 47, 48, 49, 50, 51, 52, 53, 54, 55, 56, 57, 58, 59, 60, 61, 62, 8, 2, 4, 6, 7] ?_
     generalize β 18 = b36
     refine u_store_agg (i := 1) ys25 rfl rfl rfl (OneAll.c rfl) rfl rfl (cs' := [rS (at' r2.1 0), rS (at' r2.1 1), rS (at' r2.1 2), rS (at' r2.1 3), rI .i64 (parseV (at' r2.1 4)), rS (at' r2.1 5), rSl 4 (List.map eTApiCell r20.1)]) rfl (H' := [.blk b1 [rS ([] : Str), rS ([] : Str), rS ([] : Str), rS ([] : Str), rI .i64 0, rS ([] : Str), rv (.slice none 0 0)] 25, .blk b36 [rS (at' r2.1 0), rS (at' r2.1 1), rS (at' r2.1 2), rS (at' r2.1 3), rI .i64 (parseV (at' r2.1 4)), rS (at' r2.1 5), rSl 4 (List.map eTApiCell r20.1)] 25]) rfl (wl_x (wc_seq (wc_sr (wv (o_load_agg (i := 1) ya25 ys25 rfl rfl rfl rfl) (ob h35 fun r37 e39 h38 => wc0 yk25 (eCheck_w F (TApiEvent.mk (at' r2.1 0) (at' r2.1 1) (at' r2.1 2) (at' r2.1 3) (parseV (at' r2.1 4)) (at' r2.1 5) r20.1) r37 e39) rfl (wa rfl (wl_y (wm rfl (wv (o_ne rfl rfl) (wl_x (cz h38 rfl (fun c40 h41 => ?_) (fun c40 h42 => ?_))))))))))))
     ·refine wc_sr (wv (r := rAgg [rS ([] : Str), rS ([] : Str), rS ([] : Str), rS ([] : Str), rI .i64 0, rS ([] : Str), rv (.slice none 0 0)]) (o_build25_ ) (wm rfl (u_store_agg (i := 0) ys25 rfl rfl rfl (OneAll.c rfl) rfl rfl (cs' := [rS ([] : Str), rS ([] : Str), rS ([] : Str), rS ([] : Str), rI .i64 0, rS ([] : Str), rv (.slice none 0 0)]) rfl (H' := [.blk b1 [rS ([] : Str), rS ([] : Str), rS ([] : Str), rS ([] : Str), rI .i64 0, rS ([] : Str), rv (.slice none 0 0)] 25, .blk b36 [rS (at' r2.1 0), rS (at' r2.1 1), rS (at' r2.1 2), rS (at' r2.1 3), rI .i64 (parseV (at' r2.1 4)), rS (at' r2.1 5), rSl 4 (List.map eTApiCell r20.1)] 25]) rfl (wa rfl (wl_x (wc_ret (wk_then_ret (WK.upBlk (i := 0) (cs' := [rS ([] : Str), rS ([] : Str), rS ([] : Str), rS ([] : Str), rI .i64 0, rS ([] : Str), rSl 4 (List.map eTApiCell ([] : List TApiCell))]) rfl ⟨Up.refl _, Up.refl _, Up.refl _, Up.refl _, Up.refl _, Up.refl _, Up.le (Rle.nil _), trivial⟩ ?_))))))))
      obtain rfl := some_e h41
      exact wk_ret (r_2 yr9 (rv_ca (i := 0) ya25 ys25 rfl rfl rfl) (rv_t rfl)) (sS (sS sN)) ⟨rfl, rfl⟩
     ·refine wc_skip (wk_x (wc_sr (wv (o_load_agg (i := 1) ya25 ys25 rfl rfl rfl rfl) (u_store_agg (i := 0) ys25 rfl rfl rfl (OneAll.c rfl) rfl rfl (cs' := [rS (at' r2.1 0), rS (at' r2.1 1), rS (at' r2.1 2), rS (at' r2.1 3), rI .i64 (parseV (at' r2.1 4)), rS (at' r2.1 5), rSl 4 (List.map eTApiCell r20.1)]) rfl (H' := [.blk b1 [rS (at' r2.1 0), rS (at' r2.1 1), rS (at' r2.1 2), rS (at' r2.1 3), rI .i64 (parseV (at' r2.1 4)), rS (at' r2.1 5), rSl 4 (List.map eTApiCell r20.1)] 25, .blk b36 [rS (at' r2.1 0), rS (at' r2.1 1), rS (at' r2.1 2), rS (at' r2.1 3), rI .i64 (parseV (at' r2.1 4)), rS (at' r2.1 5), rSl 4 (List.map eTApiCell r20.1)] 25]) rfl (wa rfl (wl_x (wc_ret ?_)))))))
      obtain rfl := some_e h42
      exact wk_ret (r_2 yr9 (rv_ca (i := 0) ya25 ys25 rfl rfl rfl) (rv_t rfl)) (sS (sS sN)) ⟨rfl, rfl⟩

theorem eSame_w (F : Nat) (a : TApiEvent) (b : TApiEvent) (r : Bool) (h : eSame F a b = some r) : Fn Tryz.prog GE 13 [rAgg (eTApiEvent a), rAgg (eTApiEvent b)] [] (fun R H => R = rB r ∧ H = []) := by
 refine enter (n := 52) Tryz.func13 rfl Tryz.ntmps13 rfl (fun w Z => ?_)
 unfold eSame at h
 refine wc_sr (w_box_agg rfl rfl (fun b1 => ?_))
 refine w_box_agg rfl rfl (fun b2 => ?_)
 refine wa rfl (wl_x (ck h fun g3 h4 => wc_seq_mid [(4, rB ((decide (a.fID = b.fID)) && ((decide (a.fTenant = b.fTenant)) && ((decide (a.fSource = b.fSource)) && ((decide (a.fKey = b.fKey)) && ((decide (a.fAt = b.fAt)) && ((decide (a.fCause = b.fCause)) && (ov (slEqual F a.fBody b.fBody)))))))))] [] ?_ ?_))
 ·refine wc_region (vF yu25 rfl ys9 (vL 1 ya9 rfl (vF yu25 rfl ys9 (vL 0 ya9 rfl (wv (o_seq rfl rfl) (wm rfl (bsplit (decide (a.fID = b.fID)) (fun c5 => ?_) (fun c5 => ?_))))))))
  ·refine wo c5 (vF yu25 rfl ys9 (wo c5 (vL 1 ya9 rfl (wo c5 (vF yu25 rfl ys9 (wo c5 (vL 0 ya9 rfl (wo c5 (wv (o_seq rfl rfl) (wpt rfl c5 rfl (wm rfl (bsplit (decide (a.fTenant = b.fTenant)) (fun c6 => ?_) (fun c6 => ?_)))))))))))))
   ·refine wo c6 (vF yu25 rfl ys9 (wo c6 (vL 1 ya9 rfl (wo c6 (vF yu25 rfl ys9 (wo c6 (vL 0 ya9 rfl (wo c6 (wv (o_seq rfl rfl) (wpt rfl c6 rfl (wm rfl (bsplit (decide (a.fSource = b.fSource)) (fun c7 => ?_) (fun c7 => ?_)))))))))))))
    ·refine wo c7 (vF yu25 rfl ys9 (wo c7 (vL 1 ya9 rfl (wo c7 (vF yu25 rfl ys9 (wo c7 (vL 0 ya9 rfl (wo c7 (wv (o_seq rfl rfl) (wpt rfl c7 rfl (wm rfl (bsplit (decide (a.fKey = b.fKey)) (fun c8 => ?_) (fun c8 => ?_)))))))))))))
     ·refine wo c8 (vF yu25 rfl ys3 (wo c8 (vL 1 ya3 rfl (wo c8 (vF yu25 rfl ys3 (wo c8 (vL 0 ya3 rfl (wo c8 (wv (o_eq rfl rfl) (wpt rfl c8 rfl (wm rfl (bsplit (decide (a.fAt = b.fAt)) (fun c9 => ?_) (fun c9 => ?_)))))))))))))
      ·refine wo c9 (vF yu25 rfl ys9 (wo c9 (vL 1 ya9 rfl (wo c9 (vF yu25 rfl ys9 (wo c9 (vL 0 ya9 rfl (wo c9 (wv (o_seq rfl rfl) (wpt rfl c9 rfl (wm rfl (bsplit (decide (a.fCause = b.fCause)) (fun c10 => ?_) (fun c10 => ?_)))))))))))))
       ·refine wo c10 (vF yu25 rfl ys23 (wo c10 (vL 1 ya23 rfl (wo c10 (vF yu25 rfl ys23 (wo c10 (vL 0 ya23 rfl (wo c10 (wc0 Tryz.call35 (slEqual_w F a.fBody b.fBody (ov (slEqual F a.fBody b.fBody)) (ov_e (imp_t (imp_t (imp_t (imp_t (imp_t (imp_t g3 c5) c6) c7) c8) c9) c10))) rfl (wpt rfl c10 rfl (wa rfl (wl_nil ?_))))))))))))
        exact wtc (And.intro c5 (And.intro c6 (And.intro c7 (And.intro c8 (And.intro c9 c10)))))
       ·refine wf c10 (wf c10 (wf c10 (wf c10 (wf c10 (wv (r := rB false) (o_pick_f rfl c10 rfl) (wa rfl (wl_nil ?_)))))))
        exact wtc (And.intro c5 (And.intro c6 (And.intro c7 (And.intro c8 (And.intro c9 c10)))))
      ·refine wf c9 (wf c9 (wf c9 (wf c9 (wf c9 (wv (r := rB false) (o_pick_f rfl c9 rfl) (wm rfl (wz rfl rfl (wz rfl rfl (wz rfl rfl (wz rfl rfl (wz rfl rfl (wv (r := rB false) (o_pick_f (b := false) rfl rfl rfl) (wa rfl (wl_nil ?_))))))))))))))
       exact wtc (And.intro c5 (And.intro c6 (And.intro c7 (And.intro c8 c9))))
     ·refine wf c8 (wf c8 (wf c8 (wf c8 (wf c8 (wv (r := rB false) (o_pick_f rfl c8 rfl) (wm rfl (wz rfl rfl (wz rfl rfl (wz rfl rfl (wz rfl rfl (wz rfl rfl (wv (r := rB false) (o_pick_f (b := false) rfl rfl rfl) (wm rfl (wz rfl rfl (wz rfl rfl (wz rfl rfl (wz rfl rfl (wz rfl rfl (wv (r := rB false) (o_pick_f (b := false) rfl rfl rfl) (wa rfl (wl_nil ?_)))))))))))))))))))))
      exact wtc (And.intro c5 (And.intro c6 (And.intro c7 c8)))
    ·refine wf c7 (wf c7 (wf c7 (wf c7 (wf c7 (wv (r := rB false) (o_pick_f rfl c7 rfl) (wm rfl (wz rfl rfl (wz rfl rfl (wz rfl rfl (wz rfl rfl (wz rfl rfl (wv (r := rB false) (o_pick_f (b := false) rfl rfl rfl) (wm rfl (wz rfl rfl (wz rfl rfl (wz rfl rfl (wz rfl rfl (wz rfl rfl (wv (r := rB false) (o_pick_f (b := false) rfl rfl rfl) (wm rfl (wz rfl rfl (wz rfl rfl (wz rfl rfl ?_)))))))))))))))))))))))
     refine wz rfl rfl (wz rfl rfl (wv (r := rB false) (o_pick_f (b := false) rfl rfl rfl) (wa rfl (wl_nil ?_))))
     exact wtc (And.intro c5 (And.intro c6 c7))
   ·refine wf c6 (wf c6 (wf c6 (wf c6 (wf c6 (wv (r := rB false) (o_pick_f rfl c6 rfl) (wm rfl (wz rfl rfl (wz rfl rfl (wz rfl rfl (wz rfl rfl (wz rfl rfl (wv (r := rB false) (o_pick_f (b := false) rfl rfl rfl) (wm rfl (wz rfl rfl (wz rfl rfl (wz rfl rfl (wz rfl rfl (wz rfl rfl (wv (r := rB false) (o_pick_f (b := false) rfl rfl rfl) (wm rfl (wz rfl rfl (wz rfl rfl (wz rfl rfl ?_)))))))))))))))))))))))
    refine wz rfl rfl (wz rfl rfl (wv (r := rB false) (o_pick_f (b := false) rfl rfl rfl) (wm rfl (wz rfl rfl (wz rfl rfl (wz rfl rfl (wz rfl rfl (wz rfl rfl (wv (r := rB false) (o_pick_f (b := false) rfl rfl rfl) (wa rfl (wl_nil ?_)))))))))))
    exact wtc (And.intro c5 c6)
  ·refine wf c5 (wf c5 (wf c5 (wf c5 (wf c5 (wv (r := rB false) (o_pick_f rfl c5 rfl) (wm rfl (wz rfl rfl (wz rfl rfl (wz rfl rfl (wz rfl rfl (wz rfl rfl (wv (r := rB false) (o_pick_f (b := false) rfl rfl rfl) (wm rfl (wz rfl rfl (wz rfl rfl (wz rfl rfl (wz rfl rfl (wz rfl rfl (wv (r := rB false) (o_pick_f (b := false) rfl rfl rfl) (wm rfl (wz rfl rfl (wz rfl rfl (wz rfl rfl ?_)))))))))))))))))))))))
   refine wz rfl rfl (wz rfl rfl (wv (r := rB false) (o_pick_f (b := false) rfl rfl rfl) (wm rfl (wz rfl rfl (wz rfl rfl (wz rfl rfl (wz rfl rfl (wz rfl rfl (wv (r := rB false) (o_pick_f (b := false) rfl rfl rfl) (wm rfl (wz rfl rfl (wz rfl rfl (wz rfl rfl (wz rfl rfl (wz rfl rfl (wv (r := rB false) (o_pick_f (b := false) rfl rfl rfl) (wa rfl (wl_nil ?_))))))))))))))))))
   exact wtc c5
 refine wc_ret ?_
 obtain rfl := some_e h4
 exact wk_ret (r_1 Tryz.results13 (rv_t rfl)) sN ⟨rfl, rfl⟩

theorem eCmp_w (a : TApiEvent) (b : TApiEvent) (r : Int) (h : eCmp a b = some r) : Fn Tryz.prog GE 14 [rAgg (eTApiEvent a), rAgg (eTApiEvent b)] [] (fun R H => R = rI .i64 r ∧ H = []) := by
 refine enter (n := 22) Tryz.func14 rfl Tryz.ntmps14 rfl (fun w Z => ?_)
 unfold eCmp at h
 refine wc_sr (w_box_agg rfl rfl (fun b1 => ?_))
 refine w_box_agg rfl rfl (fun b2 => ?_)
 refine wa rfl (wl_x (wc_seq (wc_block (wc_sr (vF yu25 rfl ys3 (vL 1 ya3 rfl (vF yu25 rfl ys3 (vL 0 ya3 rfl (wv (o_lt rfl rfl) (wa rfl (wl_x (cz h rfl (fun c3 h4 => ?_) (fun c3 h5 => ?_)))))))))))))
 ·refine wc_sr (wv (r := rI .i64 (-1)) (o_assign rfl) (wl_x (wc_ret (wk_in_ret (wk_then_ret ?_)))))
  obtain rfl := some_e h4
  exact wk_ret (r_1 Tryz.results14 (rv_t rfl)) (sS (sS sN)) ⟨rfl, rfl⟩
 ·refine wc_sr (vF yu25 rfl ys3 (vL 1 ya3 rfl (vF yu25 rfl ys3 (vL 0 ya3 rfl (wv (o_gt rfl rfl) (wa rfl (wl_x (cz h5 rfl (fun c6 h7 => ?_) (fun c6 h8 => ?_)))))))))
  ·refine wc_sr (wa rfl (wl_x (wc_ret (wk_in_ret (wk_then_ret ?_)))))
   obtain rfl := some_e h7
   exact wk_ret (r_1 Tryz.results14 (rv_t rfl)) (sS (sS sN)) ⟨rfl, rfl⟩
  ·refine wc_skip (wk_in_norm (wk_x (wc_sr (vF yu25 rfl ys9 (vL 1 ya9 rfl (vF yu25 rfl ys9 (vL 0 ya9 rfl (w_call0 (rs := [rS a.fID, rS b.fID]) (r := rI .i64 (Lib.compareBytes a.fID b.fID)) Tryz.call36 rfl (compare_q a.fID b.fID) rfl rfl (wa rfl (wl_x (wc_ret ?_)))))))))))
   obtain rfl := some_e h8
   exact wk_ret (r_1 Tryz.results14 (rv_t rfl)) (sS (sS sN)) ⟨rfl, rfl⟩

theorem eChild_w (F : Nat) (e : TApiEvent) (n : Int) (source : Str) (body : (List TApiCell)) (at_ : Int) (r : TApiEvent × Int) (h : eChild F e n source body at_ = some r) : Fn Tryz.prog GE 17 [rAgg (eTApiEvent e), rI .i64 n, rS source, rSl 4 (List.map eTApiCell body), rI .i64 at_] [] (fun R H => R = rTup [rAgg (eTApiEvent r.1), rI .i64 r.2] ∧ H = []) := by
 refine enter (n := 53) Tryz.func17 rfl Tryz.ntmps17 rfl (fun w Z => ?_)
 unfold eChild at h
 refine wc_sr (w_box_agg rfl rfl (fun b1 => ?_))
 refine w_alloc (cs := [rS ([] : Str), rS ([] : Str), rS ([] : Str), rS ([] : Str), rI .i64 0, rS ([] : Str), rv (.slice none 0 0)]) yz25 rfl rfl (fun b2 => ?_)
 refine wa rfl (wl_x (wc_seq (wc_sr (wv (o_load_agg (i := 1) ya25 ys25 rfl rfl rfl rfl) (ob h fun r3 e5 h4 => wc0 yk25 (eCheck_w F e r3 e5) rfl (wa rfl (wl_y (wm rfl (wv (o_ne rfl rfl) (wl_x (cz h4 rfl (fun c6 h7 => ?_) (fun c6 h8 => ?_))))))))))))
 ·refine wc_sr (wv (r := rAgg [rS ([] : Str), rS ([] : Str), rS ([] : Str), rS ([] : Str), rI .i64 0, rS ([] : Str), rv (.slice none 0 0)]) (o_build25_ ) (wm rfl (u_store_agg (i := 0) ys25 rfl rfl rfl (OneAll.c rfl) rfl rfl (cs' := [rS ([] : Str), rS ([] : Str), rS ([] : Str), rS ([] : Str), rI .i64 0, rS ([] : Str), rv (.slice none 0 0)]) rfl (H' := [.blk b2 [rS ([] : Str), rS ([] : Str), rS ([] : Str), rS ([] : Str), rI .i64 0, rS ([] : Str), rv (.slice none 0 0)] 25, .blk b1 (eTApiEvent e) 25]) rfl (wa rfl (wl_x (wc_ret (wk_then_ret (WK.upBlk (i := 0) (cs' := [rS ([] : Str), rS ([] : Str), rS ([] : Str), rS ([] : Str), rI .i64 0, rS ([] : Str), rSl 4 (List.map eTApiCell ([] : List TApiCell))]) rfl ⟨Up.refl _, Up.refl _, Up.refl _, Up.refl _, Up.refl _, Up.refl _, Up.le (Rle.nil _), trivial⟩ ?_))))))))
  obtain rfl := some_e h7
  exact wk_ret (r_2 yr17 (rv_ca (i := 0) ya25 ys25 rfl rfl rfl) (rv_t rfl)) (sS (sS sN)) ⟨rfl, rfl⟩
 ·refine wc_skip (wk_x (wc_sr (vF yu25 rfl ys9 (vL 1 ya9 rfl (wm rfl (ck h8 fun g9 h10 => ck h10 fun g11 h12 => w_call0 (rs := [rS e.fID, rI .i64 n]) (r := rTup [rS (childV e.fID n), rI .i64 (childE e.fID n)]) Tryz.call37 rfl (child_q e.fID n g9 g11) rfl rfl (wm rfl (wv (o_extract rfl rfl) (wv (o_extract rfl rfl) (wa rfl (wa rfl (wl_x (wc_seq (wc_sr (wm rfl (wv (o_ne rfl rfl) (wl_x (cz h12 rfl (fun c13 h14 => ?_) (fun c13 h15 => ?_)))))))))))))))))))
  ·refine wc_sr (wv (r := rAgg [rS ([] : Str), rS ([] : Str), rS ([] : Str), rS ([] : Str), rI .i64 0, rS ([] : Str), rv (.slice none 0 0)]) (o_build25_ ) (wm rfl (u_store_agg (i := 0) ys25 rfl rfl rfl (OneAll.c rfl) rfl rfl (cs' := [rS ([] : Str), rS ([] : Str), rS ([] : Str), rS ([] : Str), rI .i64 0, rS ([] : Str), rv (.slice none 0 0)]) rfl (H' := [.blk b2 [rS ([] : Str), rS ([] : Str), rS ([] : Str), rS ([] : Str), rI .i64 0, rS ([] : Str), rv (.slice none 0 0)] 25, .blk b1 (eTApiEvent e) 25]) rfl (wa rfl (wl_x (wc_ret (wk_then_ret (WK.upBlk (i := 0) (cs' := [rS ([] : Str), rS ([] : Str), rS ([] : Str), rS ([] : Str), rI .i64 0, rS ([] : Str), rSl 4 (List.map eTApiCell ([] : List TApiCell))]) rfl ⟨Up.refl _, Up.refl _, Up.refl _, Up.refl _, Up.refl _, Up.refl _, Up.le (Rle.nil _), trivial⟩ ?_))))))))
   obtain rfl := some_e h14
   exact wk_ret (r_2 yr17 (rv_ca (i := 0) ya25 ys25 rfl rfl rfl) (rv_t rfl)) (sS (sS sN)) ⟨rfl, rfl⟩
  ·refine wc_skip (wk_x (wc_seq (ob h15 fun r16 e18 h17 => wc_rdak 13 [2, 3, 4, 5, 10, 13] [⟨[], rS (childV e.fID n), none, none, none⟩, ⟨[], rP b1 1, none, none, none⟩, ⟨[1], rS e.fTenant, none, none, none⟩, ⟨[], rS source, none, none, none⟩, ⟨[], rP b1 3, none, none, none⟩, ⟨[4], rS e.fKey, none, none, none⟩, ⟨[], rI .i64 at_, none, none, none⟩, ⟨[], rP b1 0, none, none, none⟩, ⟨[7], rS e.fID, none, none, none⟩, ⟨[], rSl 4 (List.map eTApiCell body), none, none, none⟩, ⟨[9], rSl 4 (List.map eTApiCell r16), none, none, none⟩, ⟨[0, 2, 3, 5, 6, 8, 10], rAgg [rS (childV e.fID n), rS e.fTenant, rS source, rS e.fKey, rI .i64 at_, rS e.fID, rSl 4 (List.map eTApiCell r16)], none, none, none⟩, ⟨[], rv undef, some ([rS ([] : Str), rS ([] : Str), rS ([] : Str), rS ([] : Str), rI .i64 0, rS ([] : Str), rv (.slice none 0 0)], 25), none, none⟩] ?_ (fun β => ?_))))
   ·refine oaq (o_move rfl) (oaq (o_fieldAddr yu25 rfl ys9 rfl rfl) (oaf (o_load (i := 1) ya9 rfl rfl rfl) (oaq (o_move rfl) (oaq (o_fieldAddr yu25 rfl ys9 rfl rfl) (oaf (o_load (i := 1) ya9 rfl rfl rfl) (oaq (o_move rfl) (oaq (o_fieldAddr yu25 rfl ys9 rfl rfl) (oaf (o_load (i := 1) ya9 rfl rfl rfl) (oaq (o_move rfl) (oac (ok_c0 Tryz.call38 (cloneN_w body r16 e18) rfl) (oaq (o_build25_0_1_2_3_4_5_6 rfl rfl rfl rfl rfl rfl rfl rfl rfl rfl rfl rfl rfl rfl) (oal (al_ok (cs := [rS ([] : Str), rS ([] : Str), rS ([] : Str), rS ([] : Str), rI .i64 0, rS ([] : Str), rv (.slice none 0 0)]) yz25 rfl) ?_))))))))))))
    exact oae
   refine wl_kza (H1 := [.blk b2 [rS ([] : Str), rS ([] : Str), rS ([] : Str), rS ([] : Str), rI .i64 0, rS ([] : Str), rv (.slice none 0 0)] 25, .blk b1 (eTApiEvent e) 25, .blk (β 12) [rS ([] : Str), rS ([] : Str), rS ([] : Str), rS ([] : Str), rI .i64 0, rS ([] : Str), rv (.slice none 0 0)] 25]) [34, 35, 36, 37, 38, 39, 40, 41, 42, 43, 44, 45, 15, 2, 3, 4, 5, 10, 13] ?_
   generalize β 12 = b19
   refine u_store_agg (i := 2) ys25 rfl rfl rfl (OneAll.c rfl) rfl rfl (cs' := [rS (childV e.fID n), rS e.fTenant, rS source, rS e.fKey, rI .i64 at_, rS e.fID, rSl 4 (List.map eTApiCell r16)]) rfl (H' := [.blk b2 [rS ([] : Str), rS ([] : Str), rS ([] : Str), rS ([] : Str), rI .i64 0, rS ([] : Str), rv (.slice none 0 0)] 25, .blk b1 (eTApiEvent e) 25, .blk b19 [rS (childV e.fID n), rS e.fTenant, rS source, rS e.fKey, rI .i64 at_, rS e.fID, rSl 4 (List.map eTApiCell r16)] 25]) rfl (wl_x (wc_seq (wc_sr (wv (o_load_agg (i := 2) ya25 ys25 rfl rfl rfl rfl) (ob h17 fun r20 e22 h21 => wc0 yk25 (eCheck_w F (TApiEvent.mk (childV e.fID n) e.fTenant source e.fKey at_ e.fID r16) r20 e22) rfl (wa rfl (wl_y (wm rfl (wv (o_ne rfl rfl) (wl_x (cz h21 rfl (fun c23 h24 => ?_) (fun c23 h25 => ?_))))))))))))
   ·refine wc_sr (wv (r := rAgg [rS ([] : Str), rS ([] : Str), rS ([] : Str), rS ([] : Str), rI .i64 0, rS ([] : Str), rv (.slice none 0 0)]) (o_build25_ ) (wm rfl (u_store_agg (i := 0) ys25 rfl rfl rfl (OneAll.c rfl) rfl rfl (cs' := [rS ([] : Str), rS ([] : Str), rS ([] : Str), rS ([] : Str), rI .i64 0, rS ([] : Str), rv (.slice none 0 0)]) rfl (H' := [.blk b2 [rS ([] : Str), rS ([] : Str), rS ([] : Str), rS ([] : Str), rI .i64 0, rS ([] : Str), rv (.slice none 0 0)] 25, .blk b1 (eTApiEvent e) 25, .blk b19 [rS (childV e.fID n), rS e.fTenant, rS source, rS e.fKey, rI .i64 at_, rS e.fID, rSl 4 (List.map eTApiCell r16)] 25]) rfl (wa rfl (wl_x (wc_ret (wk_then_ret (WK.upBlk (i := 0) (cs' := [rS ([] : Str), rS ([] : Str), rS ([] : Str), rS ([] : Str), rI .i64 0, rS ([] : Str), rSl 4 (List.map eTApiCell ([] : List TApiCell))]) rfl ⟨Up.refl _, Up.refl _, Up.refl _, Up.refl _, Up.refl _, Up.refl _, Up.le (Rle.nil _), trivial⟩ ?_))))))))
    obtain rfl := some_e h24
    exact wk_ret (r_2 yr17 (rv_ca (i := 0) ya25 ys25 rfl rfl rfl) (rv_t rfl)) (sS (sS (sS sN))) ⟨rfl, rfl⟩
   ·refine wc_skip (wk_x (wc_sr (wv (o_load_agg (i := 2) ya25 ys25 rfl rfl rfl rfl) (u_store_agg (i := 0) ys25 rfl rfl rfl (OneAll.c rfl) rfl rfl (cs' := [rS (childV e.fID n), rS e.fTenant, rS source, rS e.fKey, rI .i64 at_, rS e.fID, rSl 4 (List.map eTApiCell r16)]) rfl (H' := [.blk b2 [rS (childV e.fID n), rS e.fTenant, rS source, rS e.fKey, rI .i64 at_, rS e.fID, rSl 4 (List.map eTApiCell r16)] 25, .blk b1 (eTApiEvent e) 25, .blk b19 [rS (childV e.fID n), rS e.fTenant, rS source, rS e.fKey, rI .i64 at_, rS e.fID, rSl 4 (List.map eTApiCell r16)] 25]) rfl (wa rfl (wl_x (wc_ret ?_)))))))
    obtain rfl := some_e h25
    exact wk_ret (r_2 yr17 (rv_ca (i := 0) ya25 ys25 rfl rfl rfl) (rv_t rfl)) (sS (sS (sS sN))) ⟨rfl, rfl⟩

theorem eLineage_w (F : Nat) (id : Str) (r : (List Str)) (h : eLineage F id = some r) : Fn Tryz.prog GE 19 [rS id] [] (fun R H => R = rSl 1 (List.map eS r) ∧ H = []) := by
 refine enter (n := 30) Tryz.func19 rfl Tryz.ntmps19 rfl (fun w Z => ?_)
 unfold eLineage at h
 refine wc_sr (wa rfl (wl_x (wc_seq (wc_sr (wm rfl (w_call0 (rs := [rS id]) (r := rB (idS id)) yk40 rfl (id_q id) rfl rfl (wv (o_not rfl) (wl_x (cz h rfl (fun c1 h2 => ?_) (fun c1 h3 => ?_))))))))))
 ·refine wc_sr (wa rfl (wl_x (wc_ret (wk_then_ret (WK.up (d := 2) (r := rSl 1 (List.map eS ([] : List Str))) rfl (Up.le (Rle.nil _)) ?_)))))
  obtain rfl := some_e h2
  exact wk_ret (r_1 Tryz.results19 (rv_t rfl)) sN ⟨rfl, rfl⟩
 ·refine wc_skip (wk_x (wc_sr (wm rfl (w_buildSlice (ys := ([id] : List Str)) (enc := eS) (css := [[rS id]]) (xs := [.tmp 10]) yu36 ys9 yz9 rfl rfl rfl ⟨Cel.one rfl (Up.refl _), trivial⟩ rfl eS_len rfl rfl rfl (fun b4 => ?_)))))
  refine wa rfl (wl_x (wc_block (ob h3 fun o48 eo49 hK50 => wc_loop2 (S := Nat × ((List Str)) × (Value)) (V := (Unit) × (Unit)) 0 (fun σ => lop (fun σ => eLineage_b1 σ) σ.1 σ.2.1 = some o48) (fun σ => [(2, rv (.slice none 0 0)), (3, rv σ.2.2)]) (fun σ => [.row σ.2.2 9 1 (List.map eS σ.2.1)]) (fun σ => σ.1) (F, ([id] : List Str), (.slice (some ⟨b4, 0, none⟩) 1 1)) eo49 (Sub.c rfl (Sub.c rfl Sub.nil)) (sC sN) (fun σ => eLineage_k1  = some r) (fun σ => []) (fun σ => []) ?_ ?_)))
  ·rintro ⟨n56, x33, v34⟩ hi54
   refine wc_as (l' := [(2, rv (.slice none 0 0)), (3, rv v34)]) (H' := [.row v34 9 1 (List.map eS x33)]) rfl rfl ?_
   obtain ⟨m53, rfl, t51, h55, ht52⟩ := lop_e hi54
   replace h55 : eLineage_b1 x33 = some t51 := h55
   unfold eLineage_b1 at h55
   refine wc_block (wc_sr (wm rfl (wm rfl (wv (o_len_wt (ys := x33) (enc := eS) (i := 0) yu36 rfl rfl) (ck h55 fun g57 h58 => wv (o_sub rfl rfl g57) (ck h58 fun g59 h60 => wv (r := rv (elp 1 v34 (Int.toNat ((x33.length : Int) - 1)) 0)) (o_ix_w (i := 0) yu36 ys9 rfl rfl rfl (len_map g59)) (wv (r := rS (at' x33 ((x33.length : Int) - 1))) (o_ld_w (enc := eS) (ys := x33) (i := 0) (j := (x33.length : Int) - 1) ya9 rfl rfl g59 rfl) (ck h60 fun g61 h62 => w_call0 (rs := [rS (at' x33 ((x33.length : Int) - 1))]) (r := rTup [rS (iff0 (parOk (at' x33 ((x33.length : Int) - 1))) (parP (at' x33 ((x33.length : Int) - 1)))), rI .i64 (if parOk (at' x33 ((x33.length : Int) - 1)) = true then parseV (parN (at' x33 ((x33.length : Int) - 1))) else (0 : Int)), rB (parOk (at' x33 ((x33.length : Int) - 1)))]) Tryz.call41 rfl (parent_q (at' x33 ((x33.length : Int) - 1)) g61) rfl rfl (wm rfl (wv (o_extract rfl rfl) (wv (o_extract rfl rfl) (wv (o_extract rfl rfl) (wa rfl (wa rfl (wa rfl (wl_x (wc_seq (wc_sr (wm rfl (wv (o_not rfl) ?_))))))))))))))))))))
   refine wl_x (cz h62 rfl (fun c63 h64 => ?_) (fun c63 h66 => ?_))
   ·refine wc_sr (wm rfl (wa rfl (wl_x (wc_ret (wk_then_ret (wk_in_ret (wk_then_ret (wk_cut_ret ?_))))))))
    have h65 := stp_ret h64 ht52 hK50
    refine wk_in_ret (WK.freeze (i := 0) rfl (WK.up (d := 2) (r := rSl 1 (List.map eS x33)) rfl (Up.fact (i := 0) rfl) ?_))
    obtain rfl := some_e h65
    exact wk_ret (r_1 Tryz.results19 (rv_t rfl)) (sS sN) ⟨rfl, rfl⟩
   ·refine wc_skip (wk_x (wc_region (wm rfl (wm rfl (w_buildSlice (ys := ([iff0 (parOk (at' x33 ((x33.length : Int) - 1))) (parP (at' x33 ((x33.length : Int) - 1)))] : List Str)) (enc := eS) (css := [[rS (iff0 (parOk (at' x33 ((x33.length : Int) - 1))) (parP (at' x33 ((x33.length : Int) - 1))))]]) (xs := [.tmp 27]) yu36 ys9 yz9 rfl rfl rfl ⟨Cel.one rfl (Up.refl _), trivial⟩ rfl eS_len rfl rfl rfl (fun b67 => ?_))))))
    refine ck h66 fun g69 h70 => Exists.elim info9 fun inf hinf => w_append (xs := x33) (ys := ([iff0 (parOk (at' x33 ((x33.length : Int) - 1))) (parP (at' x33 ((x33.length : Int) - 1)))] : List Str)) (enc := eS) (i := 1) yu36 hinf.1 hinf.2.1 hinf.2.2.1 hinf.2.2.2 rfl rfl rfl rfl rfl (Src.w (i := 0) rfl rfl) eS_len eS_one g69 rfl (fun v68 => ?_)
    refine wa rfl (wl_nil (wk_in_norm ?_))
    have h71 := stp_next h70 ht52
    exact wk_then (wk_some (m53, x33 ++ ([iff0 (parOk (at' x33 ((x33.length : Int) - 1))) (parP (at' x33 ((x33.length : Int) - 1)))] : List Str), v68) ⟨h71, Nat.lt_succ_self _⟩ (Sub.c rfl (Sub.c rfl Sub.nil)) (sC (sS sN)))
  ·rintro ⟨⟨⟩, ⟨⟩⟩ h72
   cases h72

end Go.Proofs.YtpmiamphppcfeaaGreatDoor.Q

/-
 What functions compute, with checks: plain definitions, printed by a small program of ours (gq.py). No program in sight.
-/
namespace Go.Proofs.YtpmiamphppcfeaaGreatDoor
open Go
set_option linter.unusedVariables false
def rOptional (s : Str) : Option (Bool) :=
 chk (imp (!(decide (s = ([] : Str)))) (inA 1 s.length)) <| some ((decide (s = ([] : Str))) || (idS s))

def rCheckE (F : Nat) (e : TApiEvent) : Option (Int) :=
 chk (inA 1 e.fID.length) <| chk (imp (!(!(idS e.fID))) (inA 1 e.fTenant.length)) <| chk (imp (!(!(idS e.fID))) (imp (!(!(idS e.fTenant))) (inA 1 e.fSource.length))) <| chk (imp (!(!(idS e.fID))) (imp (!(!(idS e.fTenant))) (imp (!(!(idS e.fSource))) ((rOptional e.fKey).isSome)))) <| chk (imp (!(!(idS e.fID))) (imp (!(!(idS e.fTenant))) (imp (!(!(idS e.fSource))) (imp (!(!(ov (rOptional e.fKey)))) ((rOptional e.fCause).isSome))))) <| cnd (((!(idS e.fID)) || ((!(idS e.fTenant)) || ((!(idS e.fSource)) || ((!(ov (rOptional e.fKey))) || (!(ov (rOptional e.fCause)))))))) (some 4) (cnd (((decide (e.fAt < 0)) || (decide (1073741824 < e.fAt)))) (some 2) (obn (rCheck F e.fBody) fun r23 => some r23))

def rDecodeE (F : Nat) (s : Str) : Option (TApiEvent × Int) :=
 obn (r4Unpack F s) fun r2 => cnd (!decide (r2.2 = 0)) (some ((TApiEvent.mk ([] : Str) ([] : Str) ([] : Str) ([] : Str) 0 ([] : Str) ([] : List TApiCell)), r2.2)) (cnd (!decide ((r2.1.length : Int) = 7)) (some ((TApiEvent.mk ([] : Str) ([] : Str) ([] : Str) ([] : Str) 0 ([] : Str) ([] : List TApiCell)), 13)) (chk (inR 4 (r2.1.length : Int)) <| chk (inA 1 (at' r2.1 4).length) <| cnd (!decide ((parseE (at' r2.1 4)) = 0)) (some ((TApiEvent.mk ([] : Str) ([] : Str) ([] : Str) ([] : Str) 0 ([] : Str) ([] : List TApiCell)), parseE (at' r2.1 4))) (chk (inR 6 (r2.1.length : Int)) <| obn (rDecode F (at' r2.1 6)) fun r20 => cnd (!decide (r20.2 = 0)) (some ((TApiEvent.mk ([] : Str) ([] : Str) ([] : Str) ([] : Str) 0 ([] : Str) ([] : List TApiCell)), r20.2)) (chk (inR 0 (r2.1.length : Int)) <| chk (inR 1 (r2.1.length : Int)) <| chk (inR 2 (r2.1.length : Int)) <| chk (inR 3 (r2.1.length : Int)) <| chk (inR 5 (r2.1.length : Int)) <| obn (rCheckE F (TApiEvent.mk (at' r2.1 0) (at' r2.1 1) (at' r2.1 2) (at' r2.1 3) (parseV (at' r2.1 4)) (at' r2.1 5) r20.1)) fun r37 => cnd (!decide (r37 = 0)) (some ((TApiEvent.mk ([] : Str) ([] : Str) ([] : Str) ([] : Str) 0 ([] : Str) ([] : List TApiCell)), r37)) (some ((TApiEvent.mk (at' r2.1 0) (at' r2.1 1) (at' r2.1 2) (at' r2.1 3) (parseV (at' r2.1 4)) (at' r2.1 5) r20.1), 0))))))

def rSameE (F : Nat) (a : TApiEvent) (b : TApiEvent) : Option (Bool) :=
 chk (imp (decide (a.fID = b.fID)) (imp (decide (a.fTenant = b.fTenant)) (imp (decide (a.fSource = b.fSource)) (imp (decide (a.fKey = b.fKey)) (imp (decide (a.fAt = b.fAt)) (imp (decide (a.fCause = b.fCause)) ((rSame F a.fBody b.fBody).isSome))))))) <| some ((decide (a.fID = b.fID)) && ((decide (a.fTenant = b.fTenant)) && ((decide (a.fSource = b.fSource)) && ((decide (a.fKey = b.fKey)) && ((decide (a.fAt = b.fAt)) && ((decide (a.fCause = b.fCause)) && (ov (rSame F a.fBody b.fBody))))))))

def evExample  : Option (TApiEvent) :=
 some (TApiEvent.mk ([101, 49] : Str) ([116] : Str) ([115] : Str) ([] : Str) 5 ([] : Str) ([(TApiCell.mk 1 0 ([] : Str) 0)] : List TApiCell))

def evAwake (F : Nat)  : Option (Bool) :=
 obn (evExample) fun r1 => obn (eEncode F r1) fun r4 => obn (eDecode F r4.1) fun r7 => obn (evExample) fun r11 => obn (evExample) fun r14 => obn (eChild F r11 0 ([117] : Str) r14.fBody 6) fun r17 => obn (eLineage F ([97, 46, 48, 46, 49, 50] : Str)) fun r21 => obn (evExample) fun r24 => chk (decide (r4.2 = 0)) <| chk (decide (r7.2 = 0)) <| obn (evExample) fun r32 => obn (eSame F r7.1 r32) fun r35 => chk (r35) <| chk (decide (r17.2 = 0)) <| chk (decide (r17.1.fID = ([101, 49, 46, 48] : Str))) <| chk (decide (r17.1.fCause = ([101, 49] : Str))) <| chk (decide ((r21.length : Int) = 3)) <| chk (inR 2 (r21.length : Int)) <| chk (decide ((at' r21 2) = ([97] : Str))) <| obn (eCheck F (TApiEvent.mk r24.fID r24.fTenant r24.fSource r24.fKey (-1) r24.fCause r24.fBody)) fun r52 => chk (decide (r52 = 2)) <| obn (evExample) fun r57 => obn (eCmp (TApiEvent.mk r24.fID r24.fTenant r24.fSource r24.fKey (-1) r24.fCause r24.fBody) r57) fun r60 => some (decide (r60 = (-1)))

end Go.Proofs.YtpmiamphppcfeaaGreatDoor

/-
  Walks, printed by a small program of ours (gq.py).
-/
namespace Go.Proofs.YtpmiamphppcfeaaGreatDoor.Q
open Go Go.RowKit
set_option linter.unusedVariables false
set_option linter.unusedSimpArgs false
set_option maxRecDepth 100000
set_option maxHeartbeats 4000000
theorem o_build25_0_1_2_4_6 {n : Nat} {c : Cx} {l : Fr} {H : List Ent} {d : Option Nat} {ty : TypeId} {pos : String} {af : Array Edge} {g : Option (Nat × Bool)} {x0 : Operand} {r0 : Rp} (h0 : ev l x0 = some r0) (u0 : r0.one = true) {x1 : Operand} {r1 : Rp} (h1 : ev l x1 = some r1) (u1 : r1.one = true) {x2 : Operand} {r2 : Rp} (h2 : ev l x2 = some r2) (u2 : r2.one = true) {x4 : Operand} {r4 : Rp} (h4 : ev l x4 = some r4) (u4 : r4.one = true) {x6 : Operand} {r6 : Rp} (h6 : ev l x6 = some r6) (u6 : r6.one = true) : ORun Tryz.prog n c l H { dst := d, op := .build 25 #[(0, x0), (1, x1), (2, x2), (4, x4), (6, x6)], type := ty, pos := pos, after := af, guard := g } (rAgg [r0, r1, r2, rS ([] : Str), r4, rS ([] : Str), r6]) := fun a w Z ha _ => by
  have p0 := ha.ev h0
  have c0 := cells_one (r0.hone u0 Z _ p0)
  have p1 := ha.ev h1
  have c1 := cells_one (r1.hone u1 Z _ p1)
  have p2 := ha.ev h2
  have c2 := cells_one (r2.hone u2 Z _ p2)
  have p4 := ha.ev h4
  have c4 := cells_one (r4.hone u4 Z _ p4)
  have p6 := ha.ev h6
  have c6 := cells_one (r6.hone u6 Z _ p6)
  have hb : Tryz.prog.built 25 [(0, a.eval x0), (1, a.eval x1), (2, a.eval x2), (4, a.eval x4), (6, a.eval x6)] = some #[a.eval x0, a.eval x1, a.eval x2, (.string ⟨#[]⟩), a.eval x4, (.string ⟨#[]⟩), a.eval x6] := by
    rw [built25]
    generalize a.eval x0 = v0 at *
    generalize a.eval x1 = v1 at *
    generalize a.eval x2 = v2 at *
    generalize a.eval x4 = v4 at *
    generalize a.eval x6 = v6 at *
    simp [Instr.fill, c0, c1, c2, c4, c6]
  refine ⟨.agg #[a.eval x0, a.eval x1, a.eval x2, (.string ⟨#[]⟩), a.eval x4, (.string ⟨#[]⟩), a.eval x6], ⟨[a.eval x0, a.eval x1, a.eval x2, (.string ⟨#[]⟩), a.eval x4, (.string ⟨#[]⟩), a.eval x6], rfl, p0, p1, p2, rfl, p4, rfl, p6, trivial⟩, ?_⟩
  have := run_build w 25 #[(0, a.eval x0), (1, a.eval x1), (2, a.eval x2), (4, a.eval x4), (6, a.eval x6)] _ (by simpa using hb)
  simp [execOp, this]
theorem rOptional_w (s : Str) (r : Bool) (h : rOptional s = some r) : Fn Tryz.prog GE 55 [rS s] [] (fun R H => R = rB r ∧ H = []) := by
 refine enter (n := 9) Tryz.func55 rfl Tryz.ntmps55 rfl (fun w Z => ?_)
 unfold rOptional at h
 refine wc_sr (wa rfl (wl_x (ck h fun g1 h2 => wc_seq_mid [(2, rB ((decide (s = ([] : Str))) || (idS s)))] [] ?_ ?_)))
 ·refine wc_region (wm rfl (wv (o_seq rfl rfl) (wm rfl (bsplit (decide (s = ([] : Str))) (fun c3 => ?_) (fun c3 => ?_)))))
  ·refine wf c3 (wf c3 (wv (r := rB true) (o_pick_t rfl c3 rfl) (wa rfl (wl_nil ?_))))
   exact wtc c3
  ·refine wo c3 (wm rfl (wo c3 (w_call0 (rs := [rS s]) (r := rB (idS s)) Tryz.call42 rfl (id_rq s (imp_f g1 c3)) rfl rfl (wpf rfl c3 rfl (wa rfl (wl_nil ?_))))))
   exact wtc c3
 refine wc_ret ?_
 obtain rfl := some_e h2
 exact wk_ret (r_1 Tryz.results55 (rv_t rfl)) sN ⟨rfl, rfl⟩

theorem rCheckE_w (F : Nat) (e : TApiEvent) (r : Int) (h : rCheckE F e = some r) : Fn Tryz.prog GE 26 [rAgg (eTApiEvent e)] [] (fun R H => R = rI .i64 r ∧ H = []) := by
 refine enter (n := 42) Tryz.func26 rfl Tryz.ntmps26 rfl (fun w Z => ?_)
 unfold rCheckE at h
 refine wc_sr (w_box_agg rfl rfl (fun b1 => ?_))
 refine wa rfl (wl_x (wc_seq (ck h fun g2 h3 => ck h3 fun g4 h5 => ck h5 fun g6 h7 => ck h7 fun g8 h9 => ck h9 fun g10 h11 => wc_seq_mid [(1, rP b1 0), (30, rB ((!(idS e.fID)) || ((!(idS e.fTenant)) || ((!(idS e.fSource)) || ((!(ov (rOptional e.fKey))) || (!(ov (rOptional e.fCause))))))))] [.blk b1 (eTApiEvent e) 25] ?_ ?_)))
 ·refine wc_region (vF yu25 rfl ys9 (vL 0 ya9 rfl (w_call0 (rs := [rS e.fID]) (r := rB (idS e.fID)) Tryz.call42 rfl (id_rq e.fID g2) rfl rfl (wv (o_not rfl) (wm rfl (bsplit (!(idS e.fID)) (fun c12 => ?_) (fun c12 => ?_)))))))
  ·refine wf c12 (wf c12 (wf c12 (wf c12 (wv (r := rB true) (o_pick_t rfl c12 rfl) (wm rfl (wz rfl rfl (wz rfl rfl (wz rfl rfl (wz rfl rfl (wv (r := rB true) (o_pick_t (b := true) rfl rfl rfl) (wm rfl (wz rfl rfl (wz rfl rfl (wz rfl rfl (wz rfl rfl (wv (r := rB true) (o_pick_t (b := true) rfl rfl rfl) (wm rfl (wz rfl rfl (wz rfl rfl (wz rfl rfl (wz rfl rfl (wv (r := rB true) (o_pick_t (b := true) rfl rfl rfl) (wl_nil ?_)))))))))))))))))))))))
   exact wtc c12
  ·refine wo c12 (vF yu25 rfl ys9 (wo c12 (vL 0 ya9 rfl (wo c12 (w_call0 (rs := [rS e.fTenant]) (r := rB (idS e.fTenant)) Tryz.call42 rfl (id_rq e.fTenant (imp_f g4 c12)) rfl rfl (wo c12 (wv (o_not rfl) (wpf rfl c12 rfl (wm rfl (bsplit (!(idS e.fTenant)) (fun c13 => ?_) (fun c13 => ?_)))))))))))
   ·refine wf c13 (wf c13 (wf c13 (wf c13 (wv (r := rB true) (o_pick_t rfl c13 rfl) (wm rfl (wz rfl rfl (wz rfl rfl (wz rfl rfl (wz rfl rfl (wv (r := rB true) (o_pick_t (b := true) rfl rfl rfl) (wm rfl (wz rfl rfl (wz rfl rfl (wz rfl rfl (wz rfl rfl (wv (r := rB true) (o_pick_t (b := true) rfl rfl rfl) (wl_nil ?_)))))))))))))))))
    exact wtc (And.intro c12 c13)
   ·refine wo c13 (vF yu25 rfl ys9 (wo c13 (vL 0 ya9 rfl (wo c13 (w_call0 (rs := [rS e.fSource]) (r := rB (idS e.fSource)) Tryz.call42 rfl (id_rq e.fSource (imp_f (imp_f g6 c12) c13)) rfl rfl (wo c13 (wv (o_not rfl) (wpf rfl c13 rfl (wm rfl (bsplit (!(idS e.fSource)) (fun c14 => ?_) (fun c14 => ?_)))))))))))
    ·refine wf c14 (wf c14 (wf c14 (wf c14 (wv (r := rB true) (o_pick_t rfl c14 rfl) (wm rfl (wz rfl rfl (wz rfl rfl (wz rfl rfl (wz rfl rfl (wv (r := rB true) (o_pick_t (b := true) rfl rfl rfl) (wl_nil ?_)))))))))))
     exact wtc (And.intro c12 (And.intro c13 c14))
    ·refine wo c14 (vF yu25 rfl ys9 (wo c14 (vL 0 ya9 rfl (wo c14 (wc0 Tryz.call55 (rOptional_w e.fKey (ov (rOptional e.fKey)) (ov_e (imp_f (imp_f (imp_f g8 c12) c13) c14))) rfl (wo c14 (wv (o_not rfl) (wpf rfl c14 rfl (wm rfl (bsplit (!(ov (rOptional e.fKey))) (fun c15 => ?_) (fun c15 => ?_)))))))))))
     ·refine wf c15 (wf c15 (wf c15 (wf c15 (wv (r := rB true) (o_pick_t rfl c15 rfl) (wl_nil ?_)))))
      exact wtc (And.intro c12 (And.intro c13 (And.intro c14 c15)))
     ·refine wo c15 (vF yu25 rfl ys9 (wo c15 (vL 0 ya9 rfl (wo c15 (wc0 Tryz.call55 (rOptional_w e.fCause (ov (rOptional e.fCause)) (ov_e (imp_f (imp_f (imp_f (imp_f g10 c12) c13) c14) c15))) rfl (wo c15 (wv (o_not rfl) (wpf rfl c15 rfl (wl_nil ?_)))))))))
      exact wtc (And.intro c12 (And.intro c13 (And.intro c14 c15)))
 refine cz h11 rfl (fun c16 h17 => ?_) (fun c16 h18 => ?_)
 ·refine wc_sr (wa rfl (wl_x (wc_ret (wk_then_ret ?_))))
  obtain rfl := some_e h17
  exact wk_ret (r_1 Tryz.results26 (rv_t rfl)) (sS sN) ⟨rfl, rfl⟩
 ·refine wc_skip (wk_x (wc_seq (wc_seq_mid [(1, rP b1 0), (38, rB ((decide (e.fAt < 0)) || (decide (1073741824 < e.fAt))))] [.blk b1 (eTApiEvent e) 25] ?_ ?_)))
  ·refine wc_region (vF yu25 rfl ys3 (vL 0 ya3 rfl (wv (o_lt rfl rfl) (wm rfl (bsplit (decide (e.fAt < 0)) (fun c19 => ?_) (fun c19 => ?_))))))
   ·refine wf c19 (wf c19 (wf c19 (wv (r := rB true) (o_pick_t rfl c19 rfl) (wl_nil ?_))))
    exact wtc c19
   ·refine wo c19 (vF yu25 rfl ys3 (wo c19 (vL 0 ya3 rfl (wo c19 (wv (o_gt rfl rfl) (wpf rfl c19 rfl (wl_nil ?_)))))))
    exact wtc c19
  refine cz h18 rfl (fun c20 h21 => ?_) (fun c20 h22 => ?_)
  ·refine wc_sr (wa rfl (wl_x (wc_ret (wk_then_ret ?_))))
   obtain rfl := some_e h21
   exact wk_ret (r_1 Tryz.results26 (rv_t rfl)) (sS sN) ⟨rfl, rfl⟩
  ·refine wc_skip (wk_x (wc_sr (vF yu25 rfl ys23 (vL 0 ya23 rfl (ob h22 fun r23 e25 h24 => wc0 Tryz.call56 (rCheck_w F e.fBody r23 e25) rfl (wa rfl (wl_x (wc_ret ?_))))))))
   obtain rfl := some_e h24
   exact wk_ret (r_1 Tryz.results26 (rv_t rfl)) (sS sN) ⟨rfl, rfl⟩

theorem rDecodeE_w (F : Nat) (s : Str) (r : TApiEvent × Int) (h : rDecodeE F s = some r) : Fn Tryz.prog GE 10 [rS s] [] (fun R H => R = rTup [rAgg (eTApiEvent r.1), rI .i64 r.2] ∧ H = []) := by
 refine enter (n := 69) Tryz.func10 rfl Tryz.ntmps10 rfl (fun w Z => ?_)
 unfold rDecodeE at h
 refine wc_sr (w_alloc (cs := [rS ([] : Str), rS ([] : Str), rS ([] : Str), rS ([] : Str), rI .i64 0, rS ([] : Str), rv (.slice none 0 0)]) yz25 rfl rfl (fun b1 => ?_))
 refine wa rfl (wl_y (wm rfl (ob h fun r2 e4 h3 => wc0 Tryz.call31 (r4Unpack_w F s r2 e4) rfl (wm rfl (wv (o_extract rfl rfl) (wv (o_extract rfl rfl) (wa rfl (wa rfl (wl_x (wc_seq (wc_sr (wm rfl (wv (o_ne rfl rfl) (wl_x (cz h3 rfl (fun c5 h6 => ?_) (fun c5 h7 => ?_))))))))))))))))
 ·refine wc_sr (wv (r := rAgg [rS ([] : Str), rS ([] : Str), rS ([] : Str), rS ([] : Str), rI .i64 0, rS ([] : Str), rv (.slice none 0 0)]) (o_build25_ ) (wm rfl (u_store_agg (i := 0) ys25 rfl rfl rfl (OneAll.c rfl) rfl rfl (cs' := [rS ([] : Str), rS ([] : Str), rS ([] : Str), rS ([] : Str), rI .i64 0, rS ([] : Str), rv (.slice none 0 0)]) rfl (H' := [.blk b1 [rS ([] : Str), rS ([] : Str), rS ([] : Str), rS ([] : Str), rI .i64 0, rS ([] : Str), rv (.slice none 0 0)] 25]) rfl (wa rfl (wl_x (wc_ret (wk_then_ret (WK.upBlk (i := 0) (cs' := [rS ([] : Str), rS ([] : Str), rS ([] : Str), rS ([] : Str), rI .i64 0, rS ([] : Str), rSl 4 (List.map eTApiCell ([] : List TApiCell))]) rfl ⟨Up.refl _, Up.refl _, Up.refl _, Up.refl _, Up.refl _, Up.refl _, Up.le (Rle.nil _), trivial⟩ ?_))))))))
  obtain rfl := some_e h6
  exact wk_ret (r_2 yr10 (rv_ca (i := 0) ya25 ys25 rfl rfl rfl) (rv_t rfl)) (sS sN) ⟨rfl, rfl⟩
 ·refine wc_skip (wk_x (wc_seq (wc_sr (wm rfl (wv (o_len_zt (ys := r2.1) (enc := eS) yu36 rfl) (wv (o_ne rfl rfl) (wl_x (cz h7 rfl (fun c8 h9 => ?_) (fun c8 h10 => ?_)))))))))
  ·refine wc_sr (wv (r := rAgg [rS ([] : Str), rS ([] : Str), rS ([] : Str), rS ([] : Str), rI .i64 0, rS ([] : Str), rv (.slice none 0 0)]) (o_build25_ ) (u_store_agg (i := 0) ys25 rfl rfl rfl (OneAll.c rfl) rfl rfl (cs' := [rS ([] : Str), rS ([] : Str), rS ([] : Str), rS ([] : Str), rI .i64 0, rS ([] : Str), rv (.slice none 0 0)]) rfl (H' := [.blk b1 [rS ([] : Str), rS ([] : Str), rS ([] : Str), rS ([] : Str), rI .i64 0, rS ([] : Str), rv (.slice none 0 0)] 25]) rfl (wa rfl (wl_x (wc_ret (wk_then_ret (WK.upBlk (i := 0) (cs' := [rS ([] : Str), rS ([] : Str), rS ([] : Str), rS ([] : Str), rI .i64 0, rS ([] : Str), rSl 4 (List.map eTApiCell ([] : List TApiCell))]) rfl ⟨Up.refl _, Up.refl _, Up.refl _, Up.refl _, Up.refl _, Up.refl _, Up.le (Rle.nil _), trivial⟩ ?_)))))))
   obtain rfl := some_e h9
   exact wk_ret (r_2 yr10 (rv_ca (i := 0) ya25 ys25 rfl rfl rfl) (rv_t rfl)) (sS sN) ⟨rfl, rfl⟩
  ·refine wc_skip (wk_x (wc_sr (wm rfl (ck h10 fun g11 h12 => wv (o_ix_z (enc := eS) (ys := r2.1) yu36 ys9 rfl rfl g11) (wv (o_load_z ya9 rfl rfl) (ck h12 fun g13 h14 => w_call0 (rs := [rS (at' r2.1 4)]) (r := rTup [rI .i64 (parseV (at' r2.1 4)), rI .i64 (parseE (at' r2.1 4))]) Tryz.call32 rfl (parse_rq (at' r2.1 4) g13) rfl rfl (wm rfl (wv (o_extract rfl rfl) (wv (o_extract rfl rfl) (wa rfl (wa rfl (wl_x (wc_seq (wc_sr (wm rfl (wv (o_ne rfl rfl) (wl_x (cz h14 rfl (fun c15 h16 => ?_) (fun c15 h17 => ?_)))))))))))))))))))
   ·refine wc_sr (wv (r := rAgg [rS ([] : Str), rS ([] : Str), rS ([] : Str), rS ([] : Str), rI .i64 0, rS ([] : Str), rv (.slice none 0 0)]) (o_build25_ ) (wm rfl (u_store_agg (i := 0) ys25 rfl rfl rfl (OneAll.c rfl) rfl rfl (cs' := [rS ([] : Str), rS ([] : Str), rS ([] : Str), rS ([] : Str), rI .i64 0, rS ([] : Str), rv (.slice none 0 0)]) rfl (H' := [.blk b1 [rS ([] : Str), rS ([] : Str), rS ([] : Str), rS ([] : Str), rI .i64 0, rS ([] : Str), rv (.slice none 0 0)] 25]) rfl (wa rfl (wl_x (wc_ret (wk_then_ret (WK.upBlk (i := 0) (cs' := [rS ([] : Str), rS ([] : Str), rS ([] : Str), rS ([] : Str), rI .i64 0, rS ([] : Str), rSl 4 (List.map eTApiCell ([] : List TApiCell))]) rfl ⟨Up.refl _, Up.refl _, Up.refl _, Up.refl _, Up.refl _, Up.refl _, Up.le (Rle.nil _), trivial⟩ ?_))))))))
    obtain rfl := some_e h16
    exact wk_ret (r_2 yr10 (rv_ca (i := 0) ya25 ys25 rfl rfl rfl) (rv_t rfl)) (sS sN) ⟨rfl, rfl⟩
   ·refine wc_skip (wk_x (wc_sr (wm rfl (ck h17 fun g18 h19 => wv (o_ix_z (enc := eS) (ys := r2.1) yu36 ys9 rfl rfl g18) (wv (o_load_z ya9 rfl rfl) (ob h19 fun r20 e22 h21 => wc0 Tryz.call33 (rDecode_w F (at' r2.1 6) r20 e22) rfl (wm rfl (wv (o_extract rfl rfl) (wv (o_extract rfl rfl) (wa rfl (wa rfl (wl_x (wc_seq (wc_sr (wm rfl (wv (o_ne rfl rfl) (wl_x (cz h21 rfl (fun c23 h24 => ?_) (fun c23 h25 => ?_)))))))))))))))))))
    ·refine wc_sr (wv (r := rAgg [rS ([] : Str), rS ([] : Str), rS ([] : Str), rS ([] : Str), rI .i64 0, rS ([] : Str), rv (.slice none 0 0)]) (o_build25_ ) (wm rfl (u_store_agg (i := 0) ys25 rfl rfl rfl (OneAll.c rfl) rfl rfl (cs' := [rS ([] : Str), rS ([] : Str), rS ([] : Str), rS ([] : Str), rI .i64 0, rS ([] : Str), rv (.slice none 0 0)]) rfl (H' := [.blk b1 [rS ([] : Str), rS ([] : Str), rS ([] : Str), rS ([] : Str), rI .i64 0, rS ([] : Str), rv (.slice none 0 0)] 25]) rfl (wa rfl (wl_x (wc_ret (wk_then_ret (WK.upBlk (i := 0) (cs' := [rS ([] : Str), rS ([] : Str), rS ([] : Str), rS ([] : Str), rI .i64 0, rS ([] : Str), rSl 4 (List.map eTApiCell ([] : List TApiCell))]) rfl ⟨Up.refl _, Up.refl _, Up.refl _, Up.refl _, Up.refl _, Up.refl _, Up.le (Rle.nil _), trivial⟩ ?_))))))))
     obtain rfl := some_e h24
     exact wk_ret (r_2 yr10 (rv_ca (i := 0) ya25 ys25 rfl rfl rfl) (rv_t rfl)) (sS sN) ⟨rfl, rfl⟩
    ·refine wc_skip (wk_x (wc_seq (ck h25 fun g26 h27 => ck h27 fun g28 h29 => ck h29 fun g30 h31 => ck h31 fun g32 h33 => ck h33 fun g34 h35 => wc_rdak 19 [2, 4, 6, 7] [⟨[], rSl 1 (List.map eS r2.1), none, none, none⟩, ⟨[0], rAt [rS (at' r2.1 0)], none, none, none⟩, ⟨[1], rS (at' r2.1 0), none, none, none⟩, ⟨[], rSl 1 (List.map eS r2.1), none, none, none⟩, ⟨[3], rAt [rS (at' r2.1 1)], none, none, none⟩, ⟨[4], rS (at' r2.1 1), none, none, none⟩, ⟨[], rSl 1 (List.map eS r2.1), none, none, none⟩, ⟨[6], rAt [rS (at' r2.1 2)], none, none, none⟩, ⟨[7], rS (at' r2.1 2), none, none, none⟩, ⟨[], rSl 1 (List.map eS r2.1), none, none, none⟩, ⟨[9], rAt [rS (at' r2.1 3)], none, none, none⟩, ⟨[10], rS (at' r2.1 3), none, none, none⟩, ⟨[], rI .i64 (parseV (at' r2.1 4)), none, none, none⟩, ⟨[], rSl 1 (List.map eS r2.1), none, none, none⟩, ⟨[13], rAt [rS (at' r2.1 5)], none, none, none⟩, ⟨[14], rS (at' r2.1 5), none, none, none⟩, ⟨[], rSl 4 (List.map eTApiCell r20.1), none, none, none⟩, ⟨[2, 5, 8, 11, 12, 15, 16], rAgg [rS (at' r2.1 0), rS (at' r2.1 1), rS (at' r2.1 2), rS (at' r2.1 3), rI .i64 (parseV (at' r2.1 4)), rS (at' r2.1 5), rSl 4 (List.map eTApiCell r20.1)], none, none, none⟩, ⟨[], rv undef, some ([rS ([] : Str), rS ([] : Str), rS ([] : Str), rS ([] : Str), rI .i64 0, rS ([] : Str), rv (.slice none 0 0)], 25), none, none⟩] ?_ (fun β => ?_))))
     ·refine oaq (o_move rfl) (oaq (o_ix_z (enc := eS) (ys := r2.1) yu36 ys9 rfl rfl g26) (oaq (o_load_z ya9 rfl rfl) (oaq (o_move rfl) (oaq (o_ix_z (enc := eS) (ys := r2.1) yu36 ys9 rfl rfl g28) (oaq (o_load_z ya9 rfl rfl) (oaq (o_move rfl) (oaq (o_ix_z (enc := eS) (ys := r2.1) yu36 ys9 rfl rfl g30) (oaq (o_load_z ya9 rfl rfl) (oaq (o_move rfl) (oaq (o_ix_z (enc := eS) (ys := r2.1) yu36 ys9 rfl rfl g32) (oaq (o_load_z ya9 rfl rfl) (oaq (o_move rfl) (oaq (o_move rfl) (oaq (o_ix_z (enc := eS) (ys := r2.1) yu36 ys9 rfl rfl g34) (oaq (o_load_z ya9 rfl rfl) (oaq (o_move rfl) (oaq (o_build25_0_1_2_3_4_5_6 rfl rfl rfl rfl rfl rfl rfl rfl rfl rfl rfl rfl rfl rfl) (oal (al_ok (cs := [rS ([] : Str), rS ([] : Str), rS ([] : Str), rS ([] : Str), rI .i64 0, rS ([] : Str), rv (.slice none 0 0)]) yz25 rfl) ?_))))))))))))))))))
      exact oae
     refine wl_kza (H1 := [.blk b1 [rS ([] : Str), rS ([] : Str), rS ([] : Str), rS ([] : Str), rI .i64 0, rS ([] : Str), rv (.slice none 0 0)] 25, .blk (β 18) [rS ([] : Str), rS ([] : Str), rS ([] : Str), rS ([] : Str), rI .i64 0, rS ([] : Str), rv (.slice none 0 0)] 25]) [44, 45, 46, 47, 48, 49, 50, 51, 52, 53, 54, 55, 56, 57, 58, 59, 60, 61, 8, 2, 4, 6, 7] ?_
     generalize β 18 = b36
     refine u_store_agg (i := 1) ys25 rfl rfl rfl (OneAll.c rfl) rfl rfl (cs' := [rS (at' r2.1 0), rS (at' r2.1 1), rS (at' r2.1 2), rS (at' r2.1 3), rI .i64 (parseV (at' r2.1 4)), rS (at' r2.1 5), rSl 4 (List.map eTApiCell r20.1)]) rfl (H' := [.blk b1 [rS ([] : Str), rS ([] : Str), rS ([] : Str), rS ([] : Str), rI .i64 0, rS ([] : Str), rv (.slice none 0 0)] 25, .blk b36 [rS (at' r2.1 0), rS (at' r2.1 1), rS (at' r2.1 2), rS (at' r2.1 3), rI .i64 (parseV (at' r2.1 4)), rS (at' r2.1 5), rSl 4 (List.map eTApiCell r20.1)] 25]) rfl (wl_y (wv (o_load_agg (i := 1) ya25 ys25 rfl rfl rfl rfl) (ob h35 fun r37 e39 h38 => wc0 Tryz.call26 (rCheckE_w F (TApiEvent.mk (at' r2.1 0) (at' r2.1 1) (at' r2.1 2) (at' r2.1 3) (parseV (at' r2.1 4)) (at' r2.1 5) r20.1) r37 e39) rfl (wa rfl (wl_x (wc_seq (wc_sr (wm rfl (wv (o_ne rfl rfl) (wl_x (cz h38 rfl (fun c40 h41 => ?_) (fun c40 h42 => ?_))))))))))))
     ·refine wc_sr (wv (r := rAgg [rS ([] : Str), rS ([] : Str), rS ([] : Str), rS ([] : Str), rI .i64 0, rS ([] : Str), rv (.slice none 0 0)]) (o_build25_ ) (wm rfl (u_store_agg (i := 0) ys25 rfl rfl rfl (OneAll.c rfl) rfl rfl (cs' := [rS ([] : Str), rS ([] : Str), rS ([] : Str), rS ([] : Str), rI .i64 0, rS ([] : Str), rv (.slice none 0 0)]) rfl (H' := [.blk b1 [rS ([] : Str), rS ([] : Str), rS ([] : Str), rS ([] : Str), rI .i64 0, rS ([] : Str), rv (.slice none 0 0)] 25, .blk b36 [rS (at' r2.1 0), rS (at' r2.1 1), rS (at' r2.1 2), rS (at' r2.1 3), rI .i64 (parseV (at' r2.1 4)), rS (at' r2.1 5), rSl 4 (List.map eTApiCell r20.1)] 25]) rfl (wa rfl (wl_x (wc_ret (wk_then_ret (WK.upBlk (i := 0) (cs' := [rS ([] : Str), rS ([] : Str), rS ([] : Str), rS ([] : Str), rI .i64 0, rS ([] : Str), rSl 4 (List.map eTApiCell ([] : List TApiCell))]) rfl ⟨Up.refl _, Up.refl _, Up.refl _, Up.refl _, Up.refl _, Up.refl _, Up.le (Rle.nil _), trivial⟩ ?_))))))))
      obtain rfl := some_e h41
      exact wk_ret (r_2 yr10 (rv_ca (i := 0) ya25 ys25 rfl rfl rfl) (rv_t rfl)) (sS (sS sN)) ⟨rfl, rfl⟩
     ·refine wc_skip (wk_x (wc_sr (wv (o_load_agg (i := 1) ya25 ys25 rfl rfl rfl rfl) (u_store_agg (i := 0) ys25 rfl rfl rfl (OneAll.c rfl) rfl rfl (cs' := [rS (at' r2.1 0), rS (at' r2.1 1), rS (at' r2.1 2), rS (at' r2.1 3), rI .i64 (parseV (at' r2.1 4)), rS (at' r2.1 5), rSl 4 (List.map eTApiCell r20.1)]) rfl (H' := [.blk b1 [rS (at' r2.1 0), rS (at' r2.1 1), rS (at' r2.1 2), rS (at' r2.1 3), rI .i64 (parseV (at' r2.1 4)), rS (at' r2.1 5), rSl 4 (List.map eTApiCell r20.1)] 25, .blk b36 [rS (at' r2.1 0), rS (at' r2.1 1), rS (at' r2.1 2), rS (at' r2.1 3), rI .i64 (parseV (at' r2.1 4)), rS (at' r2.1 5), rSl 4 (List.map eTApiCell r20.1)] 25]) rfl (wa rfl (wl_x (wc_ret ?_)))))))
      obtain rfl := some_e h42
      exact wk_ret (r_2 yr10 (rv_ca (i := 0) ya25 ys25 rfl rfl rfl) (rv_t rfl)) (sS (sS sN)) ⟨rfl, rfl⟩

theorem rSameE_w (F : Nat) (a : TApiEvent) (b : TApiEvent) (r : Bool) (h : rSameE F a b = some r) : Fn Tryz.prog GE 11 [rAgg (eTApiEvent a), rAgg (eTApiEvent b)] [] (fun R H => R = rB r ∧ H = []) := by
 refine enter (n := 52) Tryz.func11 rfl Tryz.ntmps11 rfl (fun w Z => ?_)
 unfold rSameE at h
 refine wc_sr (w_box_agg rfl rfl (fun b1 => ?_))
 refine w_box_agg rfl rfl (fun b2 => ?_)
 refine wa rfl (wl_x (ck h fun g3 h4 => wc_seq_mid [(4, rB ((decide (a.fID = b.fID)) && ((decide (a.fTenant = b.fTenant)) && ((decide (a.fSource = b.fSource)) && ((decide (a.fKey = b.fKey)) && ((decide (a.fAt = b.fAt)) && ((decide (a.fCause = b.fCause)) && (ov (rSame F a.fBody b.fBody)))))))))] [] ?_ ?_))
 ·refine wc_region (vF yu25 rfl ys9 (vL 1 ya9 rfl (vF yu25 rfl ys9 (vL 0 ya9 rfl (wv (o_seq rfl rfl) (wm rfl (bsplit (decide (a.fID = b.fID)) (fun c5 => ?_) (fun c5 => ?_))))))))
  ·refine wo c5 (vF yu25 rfl ys9 (wo c5 (vL 1 ya9 rfl (wo c5 (vF yu25 rfl ys9 (wo c5 (vL 0 ya9 rfl (wo c5 (wv (o_seq rfl rfl) (wpt rfl c5 rfl (wm rfl (bsplit (decide (a.fTenant = b.fTenant)) (fun c6 => ?_) (fun c6 => ?_)))))))))))))
   ·refine wo c6 (vF yu25 rfl ys9 (wo c6 (vL 1 ya9 rfl (wo c6 (vF yu25 rfl ys9 (wo c6 (vL 0 ya9 rfl (wo c6 (wv (o_seq rfl rfl) (wpt rfl c6 rfl (wm rfl (bsplit (decide (a.fSource = b.fSource)) (fun c7 => ?_) (fun c7 => ?_)))))))))))))
    ·refine wo c7 (vF yu25 rfl ys9 (wo c7 (vL 1 ya9 rfl (wo c7 (vF yu25 rfl ys9 (wo c7 (vL 0 ya9 rfl (wo c7 (wv (o_seq rfl rfl) (wpt rfl c7 rfl (wm rfl (bsplit (decide (a.fKey = b.fKey)) (fun c8 => ?_) (fun c8 => ?_)))))))))))))
     ·refine wo c8 (vF yu25 rfl ys3 (wo c8 (vL 1 ya3 rfl (wo c8 (vF yu25 rfl ys3 (wo c8 (vL 0 ya3 rfl (wo c8 (wv (o_eq rfl rfl) (wpt rfl c8 rfl (wm rfl (bsplit (decide (a.fAt = b.fAt)) (fun c9 => ?_) (fun c9 => ?_)))))))))))))
      ·refine wo c9 (vF yu25 rfl ys9 (wo c9 (vL 1 ya9 rfl (wo c9 (vF yu25 rfl ys9 (wo c9 (vL 0 ya9 rfl (wo c9 (wv (o_seq rfl rfl) (wpt rfl c9 rfl (wm rfl (bsplit (decide (a.fCause = b.fCause)) (fun c10 => ?_) (fun c10 => ?_)))))))))))))
       ·refine wo c10 (vF yu25 rfl ys23 (wo c10 (vL 1 ya23 rfl (wo c10 (vF yu25 rfl ys23 (wo c10 (vL 0 ya23 rfl (wo c10 (wc0 Tryz.call34 (rSame_w F a.fBody b.fBody (ov (rSame F a.fBody b.fBody)) (ov_e (imp_t (imp_t (imp_t (imp_t (imp_t (imp_t g3 c5) c6) c7) c8) c9) c10))) rfl (wpt rfl c10 rfl (wa rfl (wl_nil ?_))))))))))))
        exact wtc (And.intro c5 (And.intro c6 (And.intro c7 (And.intro c8 (And.intro c9 c10)))))
       ·refine wf c10 (wf c10 (wf c10 (wf c10 (wf c10 (wv (r := rB false) (o_pick_f rfl c10 rfl) (wa rfl (wl_nil ?_)))))))
        exact wtc (And.intro c5 (And.intro c6 (And.intro c7 (And.intro c8 (And.intro c9 c10)))))
      ·refine wf c9 (wf c9 (wf c9 (wf c9 (wf c9 (wv (r := rB false) (o_pick_f rfl c9 rfl) (wm rfl (wz rfl rfl (wz rfl rfl (wz rfl rfl (wz rfl rfl (wz rfl rfl (wv (r := rB false) (o_pick_f (b := false) rfl rfl rfl) (wa rfl (wl_nil ?_))))))))))))))
       exact wtc (And.intro c5 (And.intro c6 (And.intro c7 (And.intro c8 c9))))
     ·refine wf c8 (wf c8 (wf c8 (wf c8 (wf c8 (wv (r := rB false) (o_pick_f rfl c8 rfl) (wm rfl (wz rfl rfl (wz rfl rfl (wz rfl rfl (wz rfl rfl (wz rfl rfl (wv (r := rB false) (o_pick_f (b := false) rfl rfl rfl) (wm rfl (wz rfl rfl (wz rfl rfl (wz rfl rfl (wz rfl rfl (wz rfl rfl (wv (r := rB false) (o_pick_f (b := false) rfl rfl rfl) (wa rfl (wl_nil ?_)))))))))))))))))))))
      exact wtc (And.intro c5 (And.intro c6 (And.intro c7 c8)))
    ·refine wf c7 (wf c7 (wf c7 (wf c7 (wf c7 (wv (r := rB false) (o_pick_f rfl c7 rfl) (wm rfl (wz rfl rfl (wz rfl rfl (wz rfl rfl (wz rfl rfl (wz rfl rfl (wv (r := rB false) (o_pick_f (b := false) rfl rfl rfl) (wm rfl (wz rfl rfl (wz rfl rfl (wz rfl rfl (wz rfl rfl (wz rfl rfl (wv (r := rB false) (o_pick_f (b := false) rfl rfl rfl) (wm rfl (wz rfl rfl (wz rfl rfl (wz rfl rfl ?_)))))))))))))))))))))))
     refine wz rfl rfl (wz rfl rfl (wv (r := rB false) (o_pick_f (b := false) rfl rfl rfl) (wa rfl (wl_nil ?_))))
     exact wtc (And.intro c5 (And.intro c6 c7))
   ·refine wf c6 (wf c6 (wf c6 (wf c6 (wf c6 (wv (r := rB false) (o_pick_f rfl c6 rfl) (wm rfl (wz rfl rfl (wz rfl rfl (wz rfl rfl (wz rfl rfl (wz rfl rfl (wv (r := rB false) (o_pick_f (b := false) rfl rfl rfl) (wm rfl (wz rfl rfl (wz rfl rfl (wz rfl rfl (wz rfl rfl (wz rfl rfl (wv (r := rB false) (o_pick_f (b := false) rfl rfl rfl) (wm rfl (wz rfl rfl (wz rfl rfl (wz rfl rfl ?_)))))))))))))))))))))))
    refine wz rfl rfl (wz rfl rfl (wv (r := rB false) (o_pick_f (b := false) rfl rfl rfl) (wm rfl (wz rfl rfl (wz rfl rfl (wz rfl rfl (wz rfl rfl (wz rfl rfl (wv (r := rB false) (o_pick_f (b := false) rfl rfl rfl) (wa rfl (wl_nil ?_)))))))))))
    exact wtc (And.intro c5 c6)
  ·refine wf c5 (wf c5 (wf c5 (wf c5 (wf c5 (wv (r := rB false) (o_pick_f rfl c5 rfl) (wm rfl (wz rfl rfl (wz rfl rfl (wz rfl rfl (wz rfl rfl (wz rfl rfl (wv (r := rB false) (o_pick_f (b := false) rfl rfl rfl) (wm rfl (wz rfl rfl (wz rfl rfl (wz rfl rfl (wz rfl rfl (wz rfl rfl (wv (r := rB false) (o_pick_f (b := false) rfl rfl rfl) (wm rfl (wz rfl rfl (wz rfl rfl (wz rfl rfl ?_)))))))))))))))))))))))
   refine wz rfl rfl (wz rfl rfl (wv (r := rB false) (o_pick_f (b := false) rfl rfl rfl) (wm rfl (wz rfl rfl (wz rfl rfl (wz rfl rfl (wz rfl rfl (wz rfl rfl (wv (r := rB false) (o_pick_f (b := false) rfl rfl rfl) (wm rfl (wz rfl rfl (wz rfl rfl (wz rfl rfl (wz rfl rfl (wz rfl rfl (wv (r := rB false) (o_pick_f (b := false) rfl rfl rfl) (wa rfl (wl_nil ?_))))))))))))))))))
   exact wtc c5
 refine wc_ret ?_
 obtain rfl := some_e h4
 exact wk_ret (r_1 Tryz.results11 (rv_t rfl)) sN ⟨rfl, rfl⟩

theorem evExample_w  (r : TApiEvent) (h : evExample = some r) : Fn Tryz.prog GE 27 [] [] (fun R H => R = rAgg (eTApiEvent r) ∧ H = []) := by
 refine enter (n := 4) Tryz.func27 rfl Tryz.ntmps27 rfl (fun w Z => ?_)
 unfold evExample at h
 refine wc_sr (w_alloc (cs := [rS ([] : Str), rS ([] : Str), rS ([] : Str), rS ([] : Str), rI .i64 0, rS ([] : Str), rv (.slice none 0 0)]) yz25 rfl rfl (fun b1 => ?_))
 refine wl_y (wv (r := rAgg [rI .i64 1, rI .i64 0, rS ([] : Str), rI .i64 0]) (o_build51_0 rfl rfl) (w_buildSlice (ys := ([(TApiCell.mk 1 0 ([] : Str) 0)] : List TApiCell)) (enc := eTApiCell) (css := [[rI .i64 1, rI .i64 0, rS ([] : Str), rI .i64 0]]) (xs := [.tmp 1]) yu23 ys51 yz51 rfl rfl rfl ⟨Cel.agg ⟨Up.refl _, Up.refl _, Up.refl _, Up.refl _, trivial⟩, trivial⟩ rfl eTApiCell_len rfl rfl rfl (fun b2 => ?_)))
 refine wv (r := rAgg [rS ([101, 49] : Str), rS ([116] : Str), rS ([115] : Str), rS ([] : Str), rI .i64 5, rS ([] : Str), rv (.slice (some ⟨b2, 0, none⟩) 1 1)]) (o_build25_0_1_2_4_6 rfl rfl rfl rfl rfl rfl rfl rfl rfl rfl) (u_store_agg (i := 1) ys25 rfl rfl rfl ⟨(one_c rfl), (one_c rfl), (one_c rfl), (one_c rfl), (one_c rfl), (one_c rfl), (one_row (i := 0) rfl), trivial⟩ rfl rfl (cs' := [rS ([101, 49] : Str), rS ([116] : Str), rS ([115] : Str), rS ([] : Str), rI .i64 5, rS ([] : Str), rv (.slice (some ⟨b2, 0, none⟩) 1 1)]) rfl (H' := [.row (.slice (some ⟨b2, 0, none⟩) 1 1) 51 4 (List.map eTApiCell ([(TApiCell.mk 1 0 ([] : Str) 0)] : List TApiCell)), .blk b1 [rS ([101, 49] : Str), rS ([116] : Str), rS ([115] : Str), rS ([] : Str), rI .i64 5, rS ([] : Str), rv (.slice (some ⟨b2, 0, none⟩) 1 1)] 25]) rfl (wl_x (wc_ret (WK.freeze (i := 0) rfl (WK.upBlk (i := 1) (cs' := [rS ([101, 49] : Str), rS ([116] : Str), rS ([115] : Str), rS ([] : Str), rI .i64 5, rS ([] : Str), rSl 4 (List.map eTApiCell ([(TApiCell.mk 1 0 ([] : Str) 0)] : List TApiCell))]) rfl ⟨Up.refl _, Up.refl _, Up.refl _, Up.refl _, Up.refl _, Up.refl _, Up.fact (i := 0) rfl, trivial⟩ ?_)))))
 obtain rfl := some_e h
 exact wk_ret (r_1 Tryz.results27 (rv_ca (i := 1) ya25 ys25 rfl rfl rfl)) (sS (sS sN)) ⟨rfl, rfl⟩

theorem evAwake_w (F : Nat)  (r : Bool) (h : evAwake F = some r) : Fn Tryz.prog GE 8 [] [] (fun R H => R = rB r ∧ H = []) := by
 refine enter (n := 76) Tryz.func8 rfl Tryz.ntmps8 rfl (fun w Z => ?_)
 unfold evAwake at h
 refine wc_sr (wa rfl (wl_y (ob h fun r1 e3 h2 => wc0 yk27 (evExample_w r1 e3) rfl (ob h2 fun r4 e6 h5 => wc0 Tryz.call21 (eEncode_w F r1 r4 e6) rfl (wm rfl (wv (o_extract rfl rfl) (wv (o_extract rfl rfl) (wa rfl (wa rfl (wl_y (wm rfl (ob h5 fun r7 e9 h8 => wc0 Tryz.call9 (eDecode_w F r4.1 r7 e9) rfl (wm rfl (wv (o_extract rfl rfl) (wv (o_extract rfl rfl) (w_alloc (cs := [rS ([] : Str), rS ([] : Str), rS ([] : Str), rS ([] : Str), rI .i64 0, rS ([] : Str), rv (.slice none 0 0)]) yz25 rfl rfl (fun b10 => ?_)))))))))))))))))
 refine u_store_agg (i := 0) ys25 rfl rfl rfl (OneAll.c rfl) rfl rfl (cs' := [rS r7.1.fID, rS r7.1.fTenant, rS r7.1.fSource, rS r7.1.fKey, rI .i64 r7.1.fAt, rS r7.1.fCause, rSl 4 (List.map eTApiCell r7.1.fBody)]) rfl (H' := [.blk b10 (eTApiEvent r7.1) 25]) rfl (wa rfl (wl_y (ob h8 fun r11 e13 h12 => wc0 yk27 (evExample_w r11 e13) rfl (ob h12 fun r14 e16 h15 => wc0 yk27 (evExample_w r14 e16) rfl (wv (r := rSl 4 (List.map eTApiCell r14.fBody)) (o_field yu25 rfl ya23 rfl rfl) (ob h15 fun r17 e19 h18 => wc0 Tryz.call17 (eChild_w F r11 0 ([117] : Str) r14.fBody 6 r17 e19) rfl (wm rfl (wv (o_extract rfl rfl) (wv (o_extract rfl rfl) (w_alloc (cs := [rS ([] : Str), rS ([] : Str), rS ([] : Str), rS ([] : Str), rI .i64 0, rS ([] : Str), rv (.slice none 0 0)]) yz25 rfl rfl (fun b20 => ?_)))))))))))
 refine u_store_agg (i := 0) ys25 rfl rfl rfl (OneAll.c rfl) rfl rfl (cs' := [rS r17.1.fID, rS r17.1.fTenant, rS r17.1.fSource, rS r17.1.fKey, rI .i64 r17.1.fAt, rS r17.1.fCause, rSl 4 (List.map eTApiCell r17.1.fBody)]) rfl (H' := [.blk b20 (eTApiEvent r17.1) 25, .blk b10 (eTApiEvent r7.1) 25]) rfl (wa rfl (wl_y (ob h18 fun r21 e23 h22 => wc0 Tryz.call19 (eLineage_w F ([97, 46, 48, 46, 49, 50] : Str) r21 e23) rfl (wa rfl (wl_y (ob h22 fun r24 e26 h25 => wc0 yk27 (evExample_w r24 e26) rfl (w_alloc (cs := [rS ([] : Str), rS ([] : Str), rS ([] : Str), rS ([] : Str), rI .i64 0, rS ([] : Str), rv (.slice none 0 0)]) yz25 rfl rfl (fun b27 => ?_))))))))
 refine u_store_agg (i := 0) ys25 rfl rfl rfl (OneAll.c rfl) rfl rfl (cs' := [rS r24.fID, rS r24.fTenant, rS r24.fSource, rS r24.fKey, rI .i64 r24.fAt, rS r24.fCause, rSl 4 (List.map eTApiCell r24.fBody)]) rfl (H' := [.blk b27 (eTApiEvent r24) 25, .blk b20 (eTApiEvent r17.1) 25, .blk b10 (eTApiEvent r7.1) 25]) rfl (wl_y (vF yu25 rfl ys3 (u_store (i := 0) ys3 rfl rfl (one_c rfl) rfl rfl (cs' := [rS r24.fID, rS r24.fTenant, rS r24.fSource, rS r24.fKey, rI .i64 (-1), rS r24.fCause, rSl 4 (List.map eTApiCell r24.fBody)]) rfl (H' := [.blk b27 [rS r24.fID, rS r24.fTenant, rS r24.fSource, rS r24.fKey, rI .i64 (-1), rS r24.fCause, rSl 4 (List.map eTApiCell r24.fBody)] 25, .blk b20 (eTApiEvent r17.1) 25, .blk b10 (eTApiEvent r7.1) 25]) rfl (wl_x (wc_seq (ck h25 fun g28 h29 => ck h29 fun g30 h31 => ob h31 fun r32 e34 h33 => ob h33 fun r35 e37 h36 => ck h36 fun g38 h39 => ck h39 fun g40 h41 => ck h41 fun g42 h43 => ck h43 fun g44 h45 => ck h45 fun g46 h47 => ck h47 fun g48 h49 => ck h49 fun g50 h51 => ob h51 fun r52 e54 h53 => ck h53 fun g55 h56 => ob h56 fun r57 e59 h58 => ob h58 fun r60 e62 h61 => wc_rdq [2, 3, 4, 5, 6, 7, 8] [⟨[], rI .i64 r4.2, 0⟩, ⟨[0], rB (decide (r4.2 = 0)), 0⟩, ⟨[1], rB (decide (r4.2 = 0)), 0⟩, ⟨[2], rI .i64 r7.2, 0⟩, ⟨[3, 2], rB (decide (r7.2 = 0)), 0⟩, ⟨[2, 4], rB (decide (r7.2 = 0)), 0⟩, ⟨[5], rB (decide (r7.2 = 0)), 0⟩, ⟨[6], rAgg (eTApiEvent r7.1), 1⟩, ⟨[6], rAgg (eTApiEvent r32), 0⟩, ⟨[7, 8, 6], rB r35, 0⟩, ⟨[6, 9], rB r35, 0⟩, ⟨[10], rB r35, 0⟩, ⟨[11], rI .i64 r17.2, 0⟩, ⟨[12, 11], rB (decide (r17.2 = 0)), 0⟩, ⟨[11, 13], rB (decide (r17.2 = 0)), 0⟩, ⟨[14], rB (decide (r17.2 = 0)), 0⟩, ⟨[15], rP b20 0, 0⟩, ⟨[16, 15], rS r17.1.fID, 1⟩, ⟨[17, 15], rB (decide (r17.1.fID = ([101, 49, 46, 48] : Str))), 0⟩, ⟨[15, 18], rB (decide (r17.1.fID = ([101, 49, 46, 48] : Str))), 0⟩, ⟨[19], rB (decide (r17.1.fID = ([101, 49, 46, 48] : Str))), 0⟩, ⟨[20], rP b20 5, 0⟩, ⟨[21, 20], rS r17.1.fCause, 1⟩, ⟨[22, 20], rB (decide (r17.1.fCause = ([101, 49] : Str))), 0⟩, ⟨[20, 23], rB (decide (r17.1.fCause = ([101, 49] : Str))), 0⟩, ⟨[24], rB (decide (r17.1.fCause = ([101, 49] : Str))), 0⟩, ⟨[25], rSl 1 (List.map eS r21), 0⟩, ⟨[26, 25], rI .i64 (r21.length : Int), 0⟩, ⟨[27, 25], rB (decide ((r21.length : Int) = 3)), 0⟩, ⟨[25, 28], rB (decide ((r21.length : Int) = 3)), 0⟩, ⟨[29], rB (decide ((r21.length : Int) = 3)), 0⟩, ⟨[30], rSl 1 (List.map eS r21), 0⟩, ⟨[31, 30], rAt [rS (at' r21 2)], 0⟩, ⟨[32, 30], rS (at' r21 2), 0⟩, ⟨[33, 30], rB (decide ((at' r21 2) = ([97] : Str))), 0⟩, ⟨[30, 34], rB (decide ((at' r21 2) = ([97] : Str))), 0⟩, ⟨[35], rB (decide ((at' r21 2) = ([97] : Str))), 0⟩, ⟨[36], rAgg [rS r24.fID, rS r24.fTenant, rS r24.fSource, rS r24.fKey, rI .i64 (-1), rS r24.fCause, rSl 4 (List.map eTApiCell r24.fBody)], 1⟩, ⟨[37, 36], rI .i64 r52, 0⟩, ⟨[38, 36], rB (decide (r52 = 2)), 0⟩, ⟨[36, 39], rB (decide (r52 = 2)), 0⟩, ⟨[40], rB (decide (r52 = 2)), 0⟩, ⟨[41], rAgg [rS r24.fID, rS r24.fTenant, rS r24.fSource, rS r24.fKey, rI .i64 (-1), rS r24.fCause, rSl 4 (List.map eTApiCell r24.fBody)], 1⟩, ⟨[41], rAgg (eTApiEvent r57), 0⟩, ⟨[42, 43, 41], rI .i64 r60, 0⟩, ⟨[44, 41], rB (decide (r60 = (-1))), 0⟩, ⟨[41, 45], rB (decide (r60 = (-1))), 0⟩, ⟨[46], rB (decide (r60 = (-1))), 0⟩] [0] ?_ ?_))))))
 ·refine oq (o_move rfl) (oq (o_eq rfl rfl) (oq (o_move rfl) (on g28 (oq (o_move rfl) (on g28 (oq (o_eq rfl rfl) (oq (o_pick_t rfl g28 rfl) (oq (o_move rfl) (on g30 (of (o_load_agg (i := 2) ya25 ys25 rfl rfl rfl rfl) (obl_q rfl (fun H => ok_on (b := decide (r7.2 = 0)) rfl rfl g30 (ok_c0 yk27 (evExample_w r32 e34) rfl)) ?_)))))))))))
  refine obl_q rfl (fun H => ok_on (b := decide (r7.2 = 0)) rfl rfl g30 (ok_c0 Tryz.call13 (eSame_w F r7.1 r32 r35 e37) rfl)) ?_
  refine oq (o_pick_t rfl g30 rfl) (oq (o_move rfl) (on g38 (oq (o_move rfl) (on g38 (oq (o_eq rfl rfl) (oq (o_pick_t rfl g38 rfl) (oq (o_move rfl) (on g40 (oq (o_fieldAddr yu25 rfl ys9 rfl rfl) (on g40 (of (o_load (i := 1) ya9 rfl rfl rfl) (on g40 (oq (o_seq rfl rfl) (oq (o_pick_t rfl g40 rfl) (oq (o_move rfl) (on g42 (oq (o_fieldAddr yu25 rfl ys9 rfl rfl) (on g42 (of (o_load (i := 1) ya9 rfl rfl rfl) (on g42 (oq (o_seq rfl rfl) (oq (o_pick_t rfl g42 rfl) (oq (o_move rfl) ?_)))))))))))))))))))))))
  refine on g44 (oq (o_move rfl) (on g44 (oq (o_len_zt (ys := r21) (enc := eS) yu36 rfl) (on g44 (oq (o_eq rfl rfl) (oq (o_pick_t rfl g44 rfl) (oq (o_move rfl) (on g46 (oq (o_move rfl) (on g46 (oq (o_ix_z (enc := eS) (ys := r21) yu36 ys9 rfl rfl g48) (on g46 (oq (o_load_z ya9 rfl rfl) (on g46 (oq (o_seq rfl rfl) (oq (o_pick_t rfl g46 rfl) (oq (o_move rfl) (on g50 (of (o_load_agg (i := 0) ya25 ys25 rfl rfl rfl rfl) (obl_q rfl (fun H => ok_on (b := decide ((at' r21 2) = ([97] : Str))) rfl rfl g50 (ok_c0 yk25 (eCheck_w F (TApiEvent.mk r24.fID r24.fTenant r24.fSource r24.fKey (-1) r24.fCause r24.fBody) r52 e54) rfl)) ?_))))))))))))))))))))
  refine on g50 (oq (o_eq rfl rfl) (oq (o_pick_t rfl g50 rfl) (oq (o_move rfl) (on g55 (of (o_load_agg (i := 0) ya25 ys25 rfl rfl rfl rfl) (obl_q rfl (fun H => ok_on (b := decide (r52 = 2)) rfl rfl g55 (ok_c0 yk27 (evExample_w r57 e59) rfl)) ?_))))))
  refine obl_q rfl (fun H => ok_on (b := decide (r52 = 2)) rfl rfl g55 (ok_c0 Tryz.call14 (eCmp_w (TApiEvent.mk r24.fID r24.fTenant r24.fSource r24.fKey (-1) r24.fCause r24.fBody) r57 r60 e62) rfl)) ?_
  refine on g55 (oq (o_eq rfl rfl) (oq (o_pick_t rfl g55 rfl) (oq (o_assign rfl) ?_)))
  exact obl_e
 refine wk_x (wc_ret ?_)
 obtain rfl := some_e h61
 exact wk_ret (r_1 Tryz.results8 (rv_t rfl)) (sS (sS (sS sN))) ⟨rfl, rfl⟩

end Go.Proofs.YtpmiamphppcfeaaGreatDoor.Q

/-
 What functions compute, with checks: plain definitions, printed by a small program of ours (gq.py). No program in sight.
-/
namespace Go.Proofs.YtpmiamphppcfeaaGreatDoor
open Go
set_option linter.unusedVariables false
def lEvDecodes (F : Nat) (s : Str) : Option (Bool) :=
 cnd (decide (1000 < (s.length : Int))) (obn (evAwake F) fun r3 => some r3) (obn (eDecode F s) fun r7 => obn (rDecodeE F s) fun r11 => chk ((rSameE F r7.1 r11.1).isSome) <| chk (imp ((ov (rSameE F r7.1 r11.1))) (imp (decide (r7.2 = r11.2)) ((evAwake F).isSome))) <| some ((ov (rSameE F r7.1 r11.1)) && ((decide (r7.2 = r11.2)) && (ov (evAwake F)))))

end Go.Proofs.YtpmiamphppcfeaaGreatDoor

/-
  Walks, printed by a small program of ours (gq.py).
-/
namespace Go.Proofs.YtpmiamphppcfeaaGreatDoor.Q
open Go Go.RowKit
set_option linter.unusedVariables false
set_option linter.unusedSimpArgs false
set_option maxRecDepth 100000
set_option maxHeartbeats 4000000
theorem lEvDecodes_w (F : Nat) (s : Str) (r : Bool) (h : lEvDecodes F s = some r) : Fn Tryz.prog GE 3 [rS s] [] (fun R H => R = rB r ∧ H = []) := by
 refine enter (n := 32) Tryz.func3 rfl Tryz.ntmps3 rfl (fun w Z => ?_)
 unfold lEvDecodes at h
 refine wc_sr (wa rfl (wl_x (wc_seq (wc_sr (wm rfl (wv (o_len_s yu9 rfl) (wv (o_gt rfl rfl) (wl_x (cz h rfl (fun c1 h2 => ?_) (fun c1 h6 => ?_))))))))))
 ·refine wc_sr (ob h2 fun r3 e5 h4 => wc0 Tryz.call8 (evAwake_w F r3 e5) rfl (wa rfl (wl_x (wc_ret (wk_then_ret ?_)))))
  obtain rfl := some_e h4
  exact wk_ret (r_1 Tryz.results3 (rv_t rfl)) sN ⟨rfl, rfl⟩
 ·refine wc_skip (wk_x (wc_sr (wm rfl (ob h6 fun r7 e9 h8 => wc0 Tryz.call9 (eDecode_w F s r7 e9) rfl (wm rfl (wv (o_extract rfl rfl) (wv (o_extract rfl rfl) (w_alloc (cs := [rS ([] : Str), rS ([] : Str), rS ([] : Str), rS ([] : Str), rI .i64 0, rS ([] : Str), rv (.slice none 0 0)]) yz25 rfl rfl (fun b10 => ?_)))))))))
  refine u_store_agg (i := 0) ys25 rfl rfl rfl (OneAll.c rfl) rfl rfl (cs' := [rS r7.1.fID, rS r7.1.fTenant, rS r7.1.fSource, rS r7.1.fKey, rI .i64 r7.1.fAt, rS r7.1.fCause, rSl 4 (List.map eTApiCell r7.1.fBody)]) rfl (H' := [.blk b10 (eTApiEvent r7.1) 25]) rfl (wa rfl (wl_y (wm rfl (ob h8 fun r11 e13 h12 => wc0 Tryz.call10 (rDecodeE_w F s r11 e13) rfl (wm rfl (wv (o_extract rfl rfl) (wv (o_extract rfl rfl) (w_alloc (cs := [rS ([] : Str), rS ([] : Str), rS ([] : Str), rS ([] : Str), rI .i64 0, rS ([] : Str), rv (.slice none 0 0)]) yz25 rfl rfl (fun b14 => ?_)))))))))
  refine u_store_agg (i := 0) ys25 rfl rfl rfl (OneAll.c rfl) rfl rfl (cs' := [rS r11.1.fID, rS r11.1.fTenant, rS r11.1.fSource, rS r11.1.fKey, rI .i64 r11.1.fAt, rS r11.1.fCause, rSl 4 (List.map eTApiCell r11.1.fBody)]) rfl (H' := [.blk b14 (eTApiEvent r11.1) 25, .blk b10 (eTApiEvent r7.1) 25]) rfl (wa rfl (wl_x (ck h12 fun g15 h16 => ck h16 fun g17 h18 => wc_seq_mid [(2, rB ((ov (rSameE F r7.1 r11.1)) && ((decide (r7.2 = r11.2)) && (ov (evAwake F)))))] [] ?_ ?_)))
  ·refine wc_region (wv (o_load_agg (i := 1) ya25 ys25 rfl rfl rfl rfl) (wv (o_load_agg (i := 0) ya25 ys25 rfl rfl rfl rfl) (wc0 Tryz.call11 (rSameE_w F r7.1 r11.1 (ov (rSameE F r7.1 r11.1)) (ov_e g15)) rfl (wm rfl (bsplit ((ov (rSameE F r7.1 r11.1))) (fun c19 => ?_) (fun c19 => ?_))))))
   ·refine wo c19 (wm rfl (wo c19 (wm rfl (wo c19 (wv (o_eq rfl rfl) (wpt rfl c19 rfl (wm rfl (bsplit (decide (r7.2 = r11.2)) (fun c20 => ?_) (fun c20 => ?_)))))))))
    ·refine wo c20 (wc0 Tryz.call8 (evAwake_w F (ov (evAwake F)) (ov_e (imp_t (imp_t g17 c19) c20))) rfl (wpt rfl c20 rfl (wa rfl (wl_nil ?_))))
     exact wtc (And.intro c19 c20)
    ·refine wf c20 (wv (r := rB false) (o_pick_f rfl c20 rfl) (wa rfl (wl_nil ?_)))
     exact wtc (And.intro c19 c20)
   ·refine wf c19 (wf c19 (wf c19 (wv (r := rB false) (o_pick_f rfl c19 rfl) (wm rfl (wz rfl rfl (wv (r := rB false) (o_pick_f (b := false) rfl rfl rfl) (wa rfl (wl_nil ?_))))))))
    exact wtc c19
  refine wc_ret ?_
  obtain rfl := some_e h18
  exact wk_ret (r_1 Tryz.results3 (rv_t rfl)) sN ⟨rfl, rfl⟩

end Go.Proofs.YtpmiamphppcfeaaGreatDoor.Q

/-
 What is known of the values that the law is handed. Plain definitions.
-/
namespace Go.Proofs.YtpmiamphppcfeaaGreatDoor.lawEventDecodes
open Go
set_option linter.unusedVariables false

def Law : Prop := ∀ (y0 : Str) (o0 : okS y0 = true), ∃ F, lEvDecodes F y0 = some true
end Go.Proofs.YtpmiamphppcfeaaGreatDoor.lawEventDecodes

/-
 What small functions of the package value and of its reference compute. Plain laws.
-/
namespace Go.Proofs.YtpmiamphppcfeaaGreatDoor
open Go
set_option linter.unusedVariables false
set_option linter.unusedSimpArgs false
def okc (c : UInt8) : Bool := decide (32 ≤ c.toNat) && decide (c.toNat ≤ 126)
theorem bat_get {s : Str} {x : Int} {c : UInt8} (h : s[x.toNat]? = some c) : bat s x = (c.toNat : Int) := by simp [bat, h]
theorem take_all_succ {α : Type} {p : α → Bool} {s : List α} {k : Nat} {c : α} (h : s[k]? = some c) : (s.take (k + 1)).all p = ((s.take k).all p && p c) := by
 rw [List.take_add_one, h]; simp
theorem all_false_of {α : Type} {p : α → Bool} {s : List α} {k : Nat} {c : α} (h : s[k]? = some c) (hp : p c = false) : s.all p = false := by
 rw [List.all_eq_false]; exact ⟨c, List.mem_of_getElem? h, by simp [hp]⟩
theorem vText_eq {F : Nat} {s : Str} (hF : s.length < F) (hs : s.length ≤ 9223372036854775807) : vText F s = some (s.all okc) := by
 obtain ⟨o, h1, h2⟩ := lop_ind (body := fun σ => vText_b1 s σ) (fun x => 0 ≤ x ∧ x ≤ (s.length : Int) ∧ (s.take x.toNat).all okc = true) (fun x => s.length - x.toNat)
  (fun o => oute (fun _ => vText_k1) o = some (s.all okc)) (fun x ⟨h0, hl, ha⟩ => by
   unfold vText_b1
   by_cases hx : x < (s.length : Int)
   ·obtain ⟨c, hc⟩ : ∃ c, s[x.toNat]? = some c := ⟨s[x.toNat]'(by omega), List.getElem?_eq_getElem (by omega)⟩
    rw [cnd_tt (by simpa using hx), chk_inR h0 hx, bat_get hc]
    cases ho : okc c with
    | false =>
     refine .inr ⟨.ret false, ?_, ?_⟩
     ·rw [cnd_tt]
      simp only [okc, Bool.and_eq_false_iff, decide_eq_false_iff_not] at ho
      simp only [Bool.or_eq_true, decide_eq_true_eq]; omega
     ·simp [oute, all_false_of hc ho]
    | true =>
     refine .inl ⟨x + 1, ?_, ⟨by omega, by omega, ?_⟩, by omega⟩
     ·rw [cnd_ff, chk_i64 (by omega) (by omega)]
      simp only [okc, Bool.and_eq_true, decide_eq_true_eq] at ho
      simp only [Bool.or_eq_false_iff, decide_eq_false_iff_not]; omega
     ·rw [show (x + 1).toNat = x.toNat + 1 from by omega, take_all_succ hc, ha, ho]; rfl
   ·refine .inr ⟨.go (), by rw [cnd_ff (by simpa using hx)], ?_⟩
    rw [show x.toNat = s.length from by omega, List.take_length] at ha
    simp [oute, vText_k1, ha]) F 0 ⟨by omega, by omega, by simp⟩ (by simpa using hF)
 unfold vText
 rw [obn_s h1, h2]
theorem rPlain_vText (F : Nat) (s : Str) : rPlain F s = vText F s := rfl
theorem rPlain_eq {F : Nat} {s : Str} (hF : s.length < F) (hs : s.length ≤ 9223372036854775807) : rPlain F s = some (s.all okc) := by rw [rPlain_vText]; exact vText_eq hF hs
def pl (c : TApiCell) : Bool :=
 bif decide (c.fKind = 1) then (decide (c.fInt = 0) && (decide (c.fStr = []) && decide (c.fN = 0))) else
 bif decide (c.fKind = 2) then ((decide (c.fInt = 0) || decide (c.fInt = 1)) && (decide (c.fStr = []) && decide (c.fN = 0))) else
 bif decide (c.fKind = 3) then (decide (c.fStr = []) && decide (c.fN = 0)) else
 bif decide (c.fKind = 4) then (decide (c.fInt = 0) && (decide (c.fN = 0) && c.fStr.all okc)) else
 bif decide (c.fKind = 5) then (decide (c.fInt = 0) && (decide (c.fStr = []) && decide (0 ≤ c.fN))) else
 bif decide (c.fKind = 6) then (decide (c.fInt = 0) && (decide (c.fStr = []) && decide (0 ≤ c.fN))) else false
theorem cnd_some {α : Type} {p : Bool} {x y : Option α} {a b : α} (h : x = some a) (h' : y = some b) : cnd p x y = some (bif p then a else b) := by cases p <;> simp [cnd, h, h']
theorem vPlain_eq {F : Nat} {c : TApiCell} (hF : c.fStr.length < F) (hs : c.fStr.length ≤ 9223372036854775807) : vPlain F c = some (pl c) := by
 unfold vPlain pl
 rw [vText_eq hF hs]
 refine cnd_some rfl (cnd_some ?_ (cnd_some rfl (cnd_some ?_ (cnd_some rfl (cnd_some rfl rfl)))))
 ·cases h : decide (c.fInt = 0) <;> simp
 ·simp [imp, chk, ov]
def clr : List TValueOpen → List TValueOpen
 | [] => []
 | e :: S => bif decide (1 < e.fLeft) then ⟨e.fPairs, e.fLeft - 1, e.fPairs, e.fLast, e.fStarted⟩ :: S else clr S
theorem at_last {α : Type} [Inhabited α] (xs : List α) (e : α) : at' (xs ++ [e]) (xs.length : Int) = e := by simp [at']
theorem set_last {α : Type} (xs : List α) (e e' : α) : List.set (xs ++ [e]) (Int.toNat (xs.length : Int)) e' = xs ++ [e'] := by simp
theorem len_last {α : Type} (xs : List α) (e : α) : ((xs ++ [e]).length : Int) - 1 = (xs.length : Int) := by simp
theorem take_last {α : Type} (xs : List α) (e : α) : List.take (Int.toNat (xs.length : Int)) (xs ++ [e]) = xs := by simp
theorem vClosed_lop : ∀ (S : List TValueOpen) (F : Nat), S.length < F → (∀ e ∈ S, 1 ≤ e.fLeft ∧ e.fLeft ≤ 9223372036854775807) → S.length ≤ 4611686018427387904 →
  ∃ o, lop (fun σ => vClosed_b1 σ) F S.reverse = some o ∧ oute (fun ν => vClosed_k1 ν) o = some (clr S).reverse
 | [], F + 1, _, _, _ => ⟨.go [], by simp [lop, vClosed_b1, cnd], by simp [oute, vClosed_k1, clr]⟩
 | e :: S, F + 1, hF, hb, hl => by
  obtain ⟨h1, h2⟩ := hb e (by simp)
  simp only [List.length_cons] at hF hl
  have hx : S.reverse.length = S.length := by simp
  generalize hxs : S.reverse = xs at hx
  have hr : (e :: S).reverse = xs ++ [e] := by simp [hxs]
  rw [hr]
  have hb1 : vClosed_b1 (xs ++ [e]) = bif decide (1 < e.fLeft) then some (.out (.ret (xs ++ [⟨e.fPairs, e.fLeft - 1, e.fPairs, e.fLast, e.fStarted⟩]))) else some (.next xs) := by
   unfold vClosed_b1
   rw [cnd_tt (by simp)]
   simp only [len_last, at_last, set_last, bnd]
   rw [chk_i64 (by omega) (by omega), chk_inR (by omega) (by simp; omega), chk_i64 (by omega) (by omega)]
   cases hd : decide (1 < e.fLeft) with
   | true =>
    rw [cnd_tt (by simp at hd ⊢; omega)]; rfl
   | false =>
    rw [cnd_ff (by simp at hd ⊢; omega), chk_i64 (by omega) (by omega), chk_inC (by omega) (by simp; omega), take_last]; rfl
  rw [lop, hb1]
  cases hd : decide (1 < e.fLeft) with
  | true => exact ⟨_, rfl, by simp [oute, vClosed_k1, clr, hd, hxs]⟩
  | false =>
   obtain ⟨o, ho1, ho2⟩ := vClosed_lop S F (by omega) (fun e he => hb e (by simp [he])) (by omega)
   rw [hxs] at ho1
   exact ⟨o, ho1, by rw [ho2]; simp [clr, hd]⟩
theorem vClosed_eq {S : List TValueOpen} {F : Nat} (hF : S.length < F) (hb : ∀ e ∈ S, 1 ≤ e.fLeft ∧ e.fLeft ≤ 9223372036854775807) (hl : S.length ≤ 4611686018427387904) : vClosed F S.reverse = some (clr S).reverse := by
 obtain ⟨o, h1, h2⟩ := vClosed_lop S F hF hb hl
 unfold vClosed
 rw [obn_s h1, h2]
end Go.Proofs.YtpmiamphppcfeaaGreatDoor

/-
 value.look, one cell at a time. Plain laws.
-/
namespace Go.Proofs.YtpmiamphppcfeaaGreatDoor
open Go
set_option linter.unusedVariables false
set_option linter.unusedSimpArgs false
def qlen (s : Str) : Int := s.length + 2 + s.count 34 + s.count 92
theorem vQuoted_eq {s : Str} (hs : s.length ≤ 1152921504606846976) : vQuoted s = some (qlen s) := by
 have h1 : s.count 34 ≤ s.length := List.count_le_length
 have h2 : s.count 92 ≤ s.length := List.count_le_length
 unfold vQuoted Lib.countByte
 rw [chk_i64 (by omega) (by omega), chk_i64 (by omega) (by omega), chk_i64 (by omega) (by omega)]
 rfl
def szc (c : TApiCell) : Int :=
 bif decide (c.fKind = 1) then 4 else bif decide (c.fKind = 2) then IntKind.wrap .i64 (5 - c.fInt) else bif decide (c.fKind = 3) then ((Lib.itoa c.fInt).length : Int) else
 bif decide (c.fKind = 4) then qlen c.fStr else IntKind.wrap .i64 (2 + max 0 (IntKind.wrap .i64 (c.fN - 1)))
theorem vSize_eq {c : TApiCell} (hs : c.fStr.length ≤ 1152921504606846976) (hi : inK .i64 c.fInt = true) : vSize c = some (szc c) := by
 unfold vSize szc
 rw [vQuoted_eq hs]
 refine cnd_some rfl (cnd_some rfl (cnd_some ?_ (cnd_some rfl rfl)))
 rw [chk_t hi]
def shc (d : Nat) (sh : TValueShape) (c : TApiCell) : TValueShape :=
 ⟨max sh.fDepth ((d : Int) + 1), IntKind.wrap .i64 (sh.fBytes + szc c), sh.fOutside || (decide (c.fKind = 3) && !(decide ((-1000000000000) ≤ c.fInt) && decide (c.fInt ≤ 1000000000000))), sh.fLong || decide (200 < (c.fStr.length : Int))⟩
def shk (sh : TValueShape) (c : TApiCell) : TValueShape := ⟨sh.fDepth, IntKind.wrap .i64 (sh.fBytes + (qlen c.fStr + 1)), sh.fOutside, sh.fLong || decide (200 < (c.fStr.length : Int))⟩
def keyTop : List TValueOpen → Bool
 | [] => false
 | e :: _ => e.fKey
abbrev LkS := List TValueOpen × Int × TValueShape
abbrev LkO := Out (Int × TValueShape × Bool) TValueShape
def lkc (n : Int) (S : List TValueOpen) (i : Int) (sh : TValueShape) (c : TApiCell) : Stp LkS LkO :=
 bif !pl c then .out (.ret (0, sh, false)) else
 match S with
 | e :: S' =>
  bif e.fKey then
   bif !decide (c.fKind = 4) || (e.fStarted && (sLess c.fStr e.fLast || decide (c.fStr = e.fLast))) then .out (.ret (0, sh, false))
   else .next ((⟨e.fPairs, e.fLeft, false, c.fStr, true⟩ :: S').reverse, i + 1, shk sh c)
  else bif decide (0 < c.fN) then
   bif decide (n < c.fN) then .out (.ret (0, shc S.length sh c, false))
   else .next ((⟨decide (c.fKind = 6), c.fN, decide (c.fKind = 6), [], false⟩ :: S).reverse, i + 1, shc S.length sh c)
  else bif decide (clr S = []) then .out (.ret (i + 1, shc S.length sh c, true)) else .next ((clr S).reverse, i + 1, shc S.length sh c)
 | [] =>
  bif decide (0 < c.fN) then
   bif decide (n < c.fN) then .out (.ret (0, shc 0 sh c, false))
   else .next ([⟨decide (c.fKind = 6), c.fN, decide (c.fKind = 6), [], false⟩], i + 1, shc 0 sh c)
  else .out (.ret (i + 1, shc 0 sh c, true))
theorem clr_nil_length {S : List TValueOpen} : decide (((clr S).reverse.length : Int) = 0) = decide (clr S = []) := by
 rw [Bool.eq_iff_iff]; simp
theorem inA48 {α : Type} {xs : List α} {e x : α} {M : Nat} (h : xs.length + 1 ≤ M) (hM2 : (M + 2) * 48 ≤ 140737488355328) : inA 48 ((xs ++ [e]).length + ([x] : List α).length) = true := by
 refine decide_eq_true (Nat.le_trans (Nat.mul_le_mul_right 48 ?_) hM2)
 rw [List.length_append, List.length_singleton, List.length_singleton]; omega
set_option maxHeartbeats 600000 in
theorem vLook_b1_eq {F : Nat} {v : List TApiCell} {S : List TValueOpen} {i : Int} {sh : TValueShape} {c : TApiCell} (h0 : 0 ≤ i) (hc : v[i.toNat]? = some c) {M : Nat} (hM : M ≤ 1152921504606846976) (hM2 : (M + 2) * 48 ≤ 140737488355328) (hv : v.length ≤ M) (hS : S.length ≤ M) (hF : M < F)
  (hs : c.fStr.length ≤ M) (hi : inK .i64 c.fInt = true) (hb : ∀ e ∈ S, 1 ≤ e.fLeft ∧ e.fLeft ≤ 9223372036854775807) : vLook_b1 F v S.reverse i sh = some (lkc v.length S i sh c) := by
 have hil : i.toNat < v.length := (List.getElem?_eq_some_iff.1 hc).1
 have hat : at' v i = c := by simp [at', hc]
 unfold vLook_b1 lkc
 rw [cnd_tt (by simp; omega), chk_inR h0 (by omega), hat, vPlain_eq (by omega) (by omega), obn_s rfl]
 cases hp : pl c with
 | false => rw [cnd_tt (by simp)]; rfl
 | true =>
  rw [cnd_ff (by simp)]
  cases S with
  | nil =>
   rw [chk_t (by simp [imp]), chk_t (by simp [imp]), cnd_ff (by simp), chk_i64 (by simp) (by simp), vSize_eq (by omega) hi, obn_s rfl, chk_t (by simp [imp, nValid])]
   simp only [nValid, ov, Option.getD_some, Bool.not_true, cond_false]
   cases hn : decide (0 < c.fN) with
   | true =>
    rw [cnd_tt rfl]
    cases hm : decide ((v.length : Int) < c.fN) with
    | true => rw [cnd_tt rfl]; simp [shc]
    | false => rw [cnd_ff rfl, chk_t (by simp [inA])]; unfold vLook_j2; rw [chk_i64 (by omega) (by omega)]; simp [shc]
   | false =>
    rw [cnd_ff rfl, obn_s (vClosed_eq (S := []) (by simp; omega) (by simp) (by simp)), cnd_tt (by simp [clr]), chk_i64 (by omega) (by omega)]; simp [shc]
  | cons e S' =>
   have hx : S'.reverse.length = S'.length := by simp
   generalize hxs : S'.reverse = xs at hx
   have hr : (e :: S').reverse = xs ++ [e] := by simp [hxs]
   simp only [List.length_cons] at hS
   have hlen : ((xs ++ [e]).length : Int) = (xs.length : Int) + 1 := by simp
   rw [hr, chk_t (by simp only [imp, len_last]; rw [inK_i64' (by omega) (by omega)]; simp), chk_t (by simp only [imp, len_last]; rw [inR' (by omega) (by omega)]; simp)]
   rw [len_last, at_last]
   cases hk : e.fKey with
   | true =>
    rw [cnd_tt (by simp), chk_i64 (by omega) (by omega), chk_inR (by omega) (by omega)]
    simp only [hk, Bool.not_true, cond_false, cond_true]
    cases ht : !decide (c.fKind = 4) || (e.fStarted && (sLess c.fStr e.fLast || decide (c.fStr = e.fLast))) with
    | true => rw [cnd_tt rfl]; rfl
    | false =>
     rw [cnd_ff rfl, set_last, bnd, at_last, set_last, bnd, at_last, set_last, bnd, vQuoted_eq (by omega), obn_s rfl, chk_i64 (by unfold qlen; omega) (by unfold qlen; have := @List.count_le_length UInt8 _ 34 c.fStr; have := @List.count_le_length UInt8 _ 92 c.fStr; omega)]
     unfold vLook_j2
     rw [chk_i64 (by omega) (by omega)]
     simp [shk, hxs]
   | false =>
    rw [cnd_ff (by simp), hlen, chk_i64 (by omega) (by omega), vSize_eq (by omega) hi, obn_s rfl, chk_t (by simp [imp, nValid])]
    simp only [hk, nValid, ov, Option.getD_some, Bool.not_true, cond_false, cond_true]
    cases hn : decide (0 < c.fN) with
    | true =>
     rw [cnd_tt rfl]
     cases hm : decide ((v.length : Int) < c.fN) with
     | true => rw [cnd_tt rfl]; simp [shc, hx]
     | false => rw [cnd_ff rfl, chk_t (inA48 (by omega) hM2)]; unfold vLook_j2; rw [chk_i64 (by omega) (by omega)]; simp [shc, hx, hxs]
    | false =>
     have hcl := vClosed_eq (S := e :: S') (F := F) (by simp; omega) hb (by simp; omega)
     rw [hr] at hcl
     rw [cnd_ff rfl, hcl, obn_s rfl, clr_nil_length]
     cases hq : decide (clr (e :: S') = []) with
     | true => rw [cnd_tt rfl, chk_i64 (by omega) (by omega)]; simp [shc, hx]
     | false => rw [cnd_ff rfl]; unfold vLook_j2; rw [chk_i64 (by omega) (by omega)]; simp [shc, hx]
end Go.Proofs.YtpmiamphppcfeaaGreatDoor

/-
 Values as forests; value.look on the cells of a forest. Plain laws.
-/
namespace Go.Proofs.YtpmiamphppcfeaaGreatDoor
open Go
set_option linter.unusedVariables false
set_option linter.unusedSimpArgs false
section
variable {S O : Type} {body : S → Option (Stp S O)} {s t u : S} {o : O}
def Reach (body : S → Option (Stp S O)) (s t : S) : Prop := ∃ k, ∀ n, lop body (n + k) s = lop body n t
def Fin (body : S → Option (Stp S O)) (s : S) (o : O) : Prop := ∃ k, ∀ n, lop body (n + k) s = some o
theorem Reach.refl (s : S) : Reach body s s := ⟨0, fun _ => rfl⟩
theorem Reach.trans (h : Reach body s t) (h' : Reach body t u) : Reach body s u := by
 obtain ⟨k, hk⟩ := h
 obtain ⟨j, hj⟩ := h'
 exact ⟨j + k, fun n => by rw [← Nat.add_assoc, hk, hj]⟩
theorem Reach.step (h : body s = some (.next t)) : Reach body s t := ⟨1, fun n => by rw [lop, h]⟩
theorem Fin.step (h : body s = some (.out o)) : Fin body s o := ⟨1, fun n => by rw [lop, h]⟩
theorem Reach.fin (h : Reach body s t) (h' : Fin body t o) : Fin body s o := by
 obtain ⟨k, hk⟩ := h
 obtain ⟨j, hj⟩ := h'
 exact ⟨j + k, fun n => by rw [← Nat.add_assoc, hk, hj]⟩
end
inductive Fo where
 | nil
 | cell (k : Option Str) (c : TApiCell) (r : Fo)
 | node (k : Option Str) (c : TApiCell) (kids r : Fo)
def keyC : Option Str → List TApiCell
 | none => []
 | some s => [⟨4, 0, s, 0⟩]
def Fo.flat : Fo → List TApiCell
 | .nil => []
 | .cell k c r => keyC k ++ c :: r.flat
 | .node k c kids r => keyC k ++ c :: (kids.flat ++ r.flat)
def Fo.cnt : Fo → Nat
 | .nil => 0
 | .cell _ _ r => r.cnt + 1
 | .node _ _ _ r => r.cnt + 1
def keyOk (m : Bool) (last : Option Str) : Option Str → Bool
 | none => !m
 | some s => m && s.all okc && (match last with
  | none => true
  | some p => !(sLess s p || decide (s = p)))
def Fo.wf : Bool → Option Str → Fo → Bool
 | _, _, .nil => true
 | m, last, .cell k c r => keyOk m last k && pl c && !decide (0 < c.fN) && r.wf m k
 | m, last, .node k c kids r => keyOk m last k && pl c && decide (0 < c.fN) && decide (c.fN = kids.cnt) && kids.wf (decide (c.fKind = 6)) none && r.wf m k
def shK (k : Option Str) (sh : TValueShape) : TValueShape := match k with
 | none => sh
 | some s => shk sh ⟨4, 0, s, 0⟩
def Fo.sh (d : Nat) : TValueShape → Fo → TValueShape
 | s, .nil => s
 | s, .cell k c r => r.sh d (shc d (shK k s) c)
 | s, .node k c kids r => r.sh d (kids.sh (d + 1) (shc d (shK k s) c))
def Done (body : LkS → Option (Stp LkS LkO)) (s : LkS) (S : List TValueOpen) (i : Int) (sh : TValueShape) : Prop :=
 if clr S = [] then Fin body s (.ret (i, sh, true)) else Reach body s ((clr S).reverse, i, sh)
theorem Done.of {body : LkS → Option (Stp LkS LkO)} {s t : LkS} {S : List TValueOpen} {i : Int} {sh : TValueShape} (h : Reach body s t) (h' : Done body t S i sh) : Done body s S i sh := by
 unfold Done at *
 split
 ·rename_i e; rw [if_pos e] at h'; exact h.fin h'
 ·rename_i e; rw [if_neg e] at h'; exact h.trans h'
theorem Done.pop {body : LkS → Option (Stp LkS LkO)} {s : LkS} {e : TValueOpen} {S : List TValueOpen} {i : Int} {sh : TValueShape} (h : Done body s (e :: S) i sh) (h1 : e.fLeft = 1) : Done body s S i sh := by
 have : clr (e :: S) = clr S := by simp [clr, h1]
 unfold Done at *
 rw [this] at h; exact h
theorem Done.more {body : LkS → Option (Stp LkS LkO)} {s : LkS} {e : TValueOpen} {S : List TValueOpen} {i : Int} {sh : TValueShape} (h : Done body s (e :: S) i sh) (h1 : 1 < e.fLeft) : Reach body s ((⟨e.fPairs, e.fLeft - 1, e.fPairs, e.fLast, e.fStarted⟩ :: S).reverse, i, sh) := by
 have : clr (e :: S) = ⟨e.fPairs, e.fLeft - 1, e.fPairs, e.fLast, e.fStarted⟩ :: S := by simp [clr, h1]
 unfold Done at *
 rw [this, if_neg (by simp)] at h; exact h
end Go.Proofs.YtpmiamphppcfeaaGreatDoor

/-
 value.look on the cells of a forest: it goes through them. Plain laws.
-/
namespace Go.Proofs.YtpmiamphppcfeaaGreatDoor
open Go
set_option linter.unusedVariables false
set_option linter.unusedSimpArgs false
structure LkA (F M : Nat) (v : List TApiCell) : Prop where
 hM : M ≤ 1152921504606846976
 hM2 : (M + 2) * 48 ≤ 140737488355328
 hv : v.length ≤ M
 hF : M < F
 hc : ∀ c ∈ v, c.fStr.length ≤ M ∧ inK .i64 c.fInt = true ∧ c.fN ≤ 9223372036854775807
abbrev lkB (F : Nat) (v : List TApiCell) : LkS → Option (Stp LkS LkO) := fun σ => vLook_b1 F v σ.1 σ.2.1 σ.2.2
def lefts (S : List TValueOpen) : Prop := ∀ e ∈ S, 1 ≤ e.fLeft ∧ e.fLeft ≤ 9223372036854775807
section
variable {F M : Nat} {v : List TApiCell} {S : List TValueOpen} {i : Int} {sh : TValueShape} {c : TApiCell} {r : List TApiCell} {e : TValueOpen}
theorem drop_get (h0 : 0 ≤ i) (h : v.drop i.toNat = c :: r) : v[i.toNat]? = some c ∧ v.drop (i + 1).toNat = r ∧ i < v.length := by
 have h1 : (v.drop i.toNat)[0]? = some c := by rw [h]; rfl
 have h2 : v[i.toNat]? = some c := by simpa using h1
 have h3 := (List.getElem?_eq_some_iff.1 h2).1
 refine ⟨h2, ?_, by omega⟩
 rw [show (i + 1).toNat = i.toNat + 1 from by omega, ← List.drop_drop, h]; rfl
theorem round (hA : LkA F M v) (h0 : 0 ≤ i) (h : v.drop i.toNat = c :: r) (hS : (S.length : Int) ≤ i) (hb : lefts S) : lkB F v (S.reverse, i, sh) = some (lkc v.length S i sh c) := by
 obtain ⟨h1, _, h3⟩ := drop_get h0 h
 obtain ⟨a, b, _⟩ := hA.hc c (List.mem_of_getElem? h1)
 have := hA.hv
 exact vLook_b1_eq h0 h1 hA.hM hA.hM2 hA.hv (by omega) hA.hF a b hb
def keyed (e : TValueOpen) : Option Str → TValueOpen
 | none => e
 | some s => ⟨e.fPairs, e.fLeft, false, s, true⟩
def lastOk (e : TValueOpen) : Option Str → Prop
 | none => e.fStarted = false
 | some p => e.fStarted = true ∧ e.fLast = p
theorem keyRound (hA : LkA F M v) (h0 : 0 ≤ i) {k last : Option Str} (h : v.drop i.toNat = keyC k ++ r) (hS : (S.length : Int) + 1 ≤ i) (hb : lefts (e :: S)) (hk : keyOk e.fKey last k = true) (hl : lastOk e last) :
  Reach (lkB F v) ((e :: S).reverse, i, sh) ((keyed e k :: S).reverse, i + (keyC k).length, shK k sh) := by
 cases k with
 | none => simpa [keyed, keyC, shK] using Reach.refl _
 | some s =>
  simp only [keyOk, Bool.and_eq_true] at hk
  obtain ⟨⟨hm, hok⟩, hcmp⟩ := hk
  refine Reach.step ?_
  rw [round hA h0 (by simpa [keyC] using h) (by simpa using hS) hb]
  have hp : pl ⟨4, 0, s, 0⟩ = true := by simp [pl, hok]
  have ht : (e.fStarted && (sLess s e.fLast || decide (s = e.fLast))) = false := by
   cases last with
   | none => simp only [lastOk] at hl; rw [hl]; rfl
   | some p => obtain ⟨h1, h2⟩ := hl; rw [h1, h2]; simpa using hcmp
  simp only [lkc, hp, hm, ht, Bool.not_true, cond_false, cond_true, decide_true, Bool.or_false, Bool.or_self]
  rfl
theorem keyed_key {k last : Option Str} (hk : keyOk e.fKey last k = true) : (keyed e k).fKey = false := by
 cases k with
 | none => simpa [keyed, keyOk] using hk
 | some s => rfl
theorem keyed_left (k : Option Str) : (keyed e k).fLeft = e.fLeft ∧ (keyed e k).fPairs = e.fPairs := by cases k <;> exact ⟨rfl, rfl⟩
theorem leafRound (hA : LkA F M v) (h0 : 0 ≤ i) (h : v.drop i.toNat = c :: r) (hS : (S.length : Int) ≤ i) (hb : lefts S) (hk : keyTop S = false) (hp : pl c = true) (hn : decide (0 < c.fN) = false) :
  Done (lkB F v) (S.reverse, i, sh) S (i + 1) (shc S.length sh c) := by
 have hr := round (sh := sh) hA h0 h hS hb
 unfold Done
 cases S with
 | nil =>
  rw [if_pos (by simp [clr])]
  refine Fin.step ?_
  rw [hr]; simp [lkc, hp, hn]
 | cons e S =>
  simp only [keyTop] at hk
  split
  ·rename_i hc
   refine Fin.step ?_
   rw [hr]; simp [lkc, hp, hn, hk, hc]
  ·rename_i hc
   refine Reach.step ?_
   rw [hr]; simp [lkc, hp, hn, hk, hc]
theorem nodeRound (hA : LkA F M v) (h0 : 0 ≤ i) (h : v.drop i.toNat = c :: r) (hS : (S.length : Int) ≤ i) (hb : lefts S) (hk : keyTop S = false) (hp : pl c = true) (hn : decide (0 < c.fN) = true) (hv : c.fN ≤ v.length) :
  Reach (lkB F v) (S.reverse, i, sh) ((⟨decide (c.fKind = 6), c.fN, decide (c.fKind = 6), [], false⟩ :: S).reverse, i + 1, shc S.length sh c) := by
 have hr := round (sh := sh) hA h0 h hS hb
 have hv' : decide ((v.length : Int) < c.fN) = false := by simpa using hv
 refine Reach.step ?_
 rw [hr]
 cases S with
 | nil => simp only [lkc, hp, hn, hv', Bool.not_true, cond_false, cond_true]; rfl
 | cons e S =>
  simp only [keyTop] at hk
  simp only [lkc, hp, hn, hv', hk, Bool.not_true, cond_false, cond_true]
theorem cnt_le_flat : ∀ f : Fo, f.cnt ≤ f.flat.length
 | .nil => Nat.le_refl _
 | .cell k c r => by have := cnt_le_flat r; simp [Fo.cnt, Fo.flat]; omega
 | .node k c kids r => by have := cnt_le_flat r; simp [Fo.cnt, Fo.flat]; omega
theorem drop_app {α : Type} {v xs r : List α} {i : Int} (h0 : 0 ≤ i) (h : v.drop i.toNat = xs ++ r) : v.drop (i + xs.length).toNat = r := by
 rw [show (i + (xs.length : Int)).toNat = i.toNat + xs.length from by omega, ← List.drop_drop, h, List.drop_left]
theorem restLook (hA : LkA F M v) {e' : TValueOpen} {s : LkS} {k : Option Str} {r' : Fo}
  (ih : ∀ (e : TValueOpen) (S : List TValueOpen) (i : Int) (sh : TValueShape) (last : Option Str) (r : List TApiCell), 1 ≤ r'.cnt → r'.wf e.fPairs last = true → e.fKey = e.fPairs → e.fLeft = r'.cnt → lastOk e last → (e.fPairs = false → last = none) → v.drop i.toNat = r'.flat ++ r → 0 ≤ i → (S.length : Int) + 1 ≤ i → lefts S →
   Done (lkB F v) ((e :: S).reverse, i, sh) S (i + r'.flat.length) (r'.sh (S.length + 1) sh))
  (hd : Done (lkB F v) s (e' :: S) i sh) (hl : e'.fLeft = r'.cnt + 1) (hw : r'.wf e'.fPairs k = true) (hk : lastOk e' k) (hm : e'.fPairs = false → k = none) (hv : v.drop i.toNat = r'.flat ++ r) (h0 : 0 ≤ i) (hS : (S.length : Int) + 1 ≤ i) (hb : lefts S) :
  Done (lkB F v) s S (i + r'.flat.length) (r'.sh (S.length + 1) sh) := by
 by_cases h1 : r'.cnt = 0
 ·cases r' with
  | nil => simpa [Fo.flat, Fo.sh] using hd.pop (by rw [hl]; rfl)
  | cell _ _ _ => simp [Fo.cnt] at h1
  | node _ _ _ _ => simp [Fo.cnt] at h1
 ·have := hd.more (by omega)
  refine Done.of this (ih _ S i sh k r (by omega) hw rfl (by simp only; omega) ?_ hm hv h0 hS hb)
  cases k with
  | none => exact hk
  | some p => exact hk
theorem keyed_last {k last : Option Str} (hl : lastOk e last) (hm : e.fPairs = false → last = none) (hk : keyOk e.fPairs last k = true) : lastOk (keyed e k) k ∧ ((keyed e k).fPairs = false → k = none) := by
 cases k with
 | none =>
  have : e.fPairs = false := by simpa [keyOk] using hk
  rw [hm this] at hl
  exact ⟨hl, fun _ => rfl⟩
 | some s =>
  refine ⟨⟨rfl, rfl⟩, fun h => ?_⟩
  have h : e.fPairs = false := h
  simp [keyOk, h] at hk
theorem forest_look (hA : LkA F M v) : ∀ (f : Fo) (e : TValueOpen) (S : List TValueOpen) (i : Int) (sh : TValueShape) (last : Option Str) (r : List TApiCell), 1 ≤ f.cnt → f.wf e.fPairs last = true → e.fKey = e.fPairs → e.fLeft = f.cnt → lastOk e last → (e.fPairs = false → last = none) → v.drop i.toNat = f.flat ++ r → 0 ≤ i → (S.length : Int) + 1 ≤ i → lefts S →
   Done (lkB F v) ((e :: S).reverse, i, sh) S (i + f.flat.length) (f.sh (S.length + 1) sh) := by
 have hmax : ∀ (i : Int) (xs : List TApiCell), 0 ≤ i → v.drop i.toNat = xs → xs.length ≤ v.length := fun i xs _ h => by rw [← h, List.length_drop]; omega
 intro f
 induction f with
 | nil => intro e S i sh last r h1; simp [Fo.cnt] at h1
 | cell k c r' ih =>
  intro e S i sh last r h1 hw hk hl hlo hm hv h0 hS hb
  simp only [Fo.wf, Bool.and_eq_true, Bool.not_eq_true'] at hw
  obtain ⟨⟨⟨w1, w2⟩, w3⟩, w4⟩ := hw
  simp only [Fo.flat, List.append_assoc, List.cons_append] at hv
  have hcnt := hmax i _ h0 hv
  have hcf := cnt_le_flat r'
  simp only [List.length_append, List.length_cons] at hcnt
  have hvM := hA.hv; have hMM := hA.hM
  simp only [Fo.cnt] at hl
  have hb' : lefts (e :: S) := fun x hx => by
   rcases List.mem_cons.1 hx with rfl | hx
   ·constructor <;> omega
   ·exact hb x hx
  have hkr := keyRound (sh := sh) hA h0 hv hS hb' (by rw [hk]; exact w1) hlo
  have hv1 := drop_app h0 hv
  obtain ⟨kl, kp⟩ := keyed_left (e := e) k
  have hbk : lefts (keyed e k :: S) := fun x hx => by
   rcases List.mem_cons.1 hx with rfl | hx
   ·rw [kl]; exact hb' e (by simp)
   ·exact hb x hx
  have hd := leafRound (sh := shK k sh) hA (by omega) hv1 (by simp only [List.length_cons]; omega) hbk (keyed_key (by rw [hk]; exact w1)) w2 w3
  obtain ⟨q1, q2⟩ := keyed_last hlo hm w1
  have hv2 := (drop_get (by omega) hv1).2.1
  have := restLook hA ih (hd.of hkr) (by rw [kl, hl]; rfl) (by rw [kp]; exact w4) q1 q2 hv2 (by omega) (by omega) hb
  simp only [Fo.flat, Fo.sh, List.length_append, List.length_cons]
  rw [show i + ((((keyC k).length + (r'.flat.length + 1) : Nat)) : Int) = i + (keyC k).length + 1 + r'.flat.length from by omega]
  exact this
 | node k c kids r' ihk ih =>
  intro e S i sh last r h1 hw hk hl hlo hm hv h0 hS hb
  simp only [Fo.wf, Bool.and_eq_true, decide_eq_true_eq] at hw
  obtain ⟨⟨⟨⟨⟨w1, w2⟩, w3⟩, w5⟩, w6⟩, w4⟩ := hw
  simp only [Fo.flat, List.append_assoc, List.cons_append] at hv
  have hcnt := hmax i _ h0 hv
  have hcf := cnt_le_flat r'
  have hck := cnt_le_flat kids
  simp only [List.length_append, List.length_cons] at hcnt
  have hvM := hA.hv; have hMM := hA.hM
  simp only [Fo.cnt] at hl
  have hb' : lefts (e :: S) := fun x hx => by
   rcases List.mem_cons.1 hx with rfl | hx
   ·constructor <;> omega
   ·exact hb x hx
  have hkr := keyRound (sh := sh) hA h0 hv hS hb' (by rw [hk]; exact w1) hlo
  have hv1 := drop_app h0 hv
  obtain ⟨kl, kp⟩ := keyed_left (e := e) k
  have hbk : lefts (keyed e k :: S) := fun x hx => by
   rcases List.mem_cons.1 hx with rfl | hx
   ·rw [kl]; exact hb' e (by simp)
   ·exact hb x hx
  have hn := nodeRound (sh := shK k sh) hA (by omega) hv1 (by simp only [List.length_cons]; omega) hbk (keyed_key (by rw [hk]; exact w1)) w2 (by simpa using w3) (by omega)
  have hv2 := (drop_get (by omega) hv1).2.1
  have hd := ihk ⟨decide (c.fKind = 6), c.fN, decide (c.fKind = 6), [], false⟩ (keyed e k :: S) (i + (keyC k).length + 1) (shc (S.length + 1) (shK k sh) c) none _ (by omega) w6 rfl w5 rfl (fun _ => rfl) hv2 (by omega) (by simp only [List.length_cons]; omega) hbk
  obtain ⟨q1, q2⟩ := keyed_last hlo hm w1
  have hv3 := drop_app (by omega) hv2
  have := restLook hA ih ((hd.of hn).of hkr) (by rw [kl, hl]; rfl) (by rw [kp]; exact w4) q1 q2 hv3 (by omega) (by omega) hb
  simp only [Fo.flat, Fo.sh, List.length_append, List.length_cons]
  rw [show i + ((((keyC k).length + (kids.flat.length + r'.flat.length + 1) : Nat)) : Int) = i + (keyC k).length + 1 + kids.flat.length + r'.flat.length from by omega]
  exact this
end
end Go.Proofs.YtpmiamphppcfeaaGreatDoor

/-
 value.look always ends; what it says of a value. Plain laws.
-/
namespace Go.Proofs.YtpmiamphppcfeaaGreatDoor
open Go
set_option linter.unusedVariables false
set_option linter.unusedSimpArgs false
theorem lop_mono {S O : Type} {body : S → Option (Stp S O)} {o : O} : ∀ {n : Nat} {s : S} (k : Nat), lop body n s = some o → lop body (n + k) s = some o
 | 0, s, k, h => by cases h
 | n + 1, s, k, h => by
  rw [show n + 1 + k = n + k + 1 from by omega, lop]
  rw [lop] at h
  cases hb : body s with
  | none => rw [hb] at h; cases h
  | some t =>
   rw [hb] at h
   cases t with
   | next s' => exact lop_mono k h
   | out o' => exact h
theorem Fin.eq {S O : Type} {body : S → Option (Stp S O)} {s : S} {o o' : O} {n : Nat} (h : Fin body s o) (h' : lop body n s = some o') : o' = o := by
 obtain ⟨k, hk⟩ := h
 have := lop_mono k h'
 rw [hk n] at this
 exact (some_e this).symm
theorem clr_lefts : ∀ {S : List TValueOpen}, lefts S → lefts (clr S) ∧ (clr S).length ≤ S.length
 | [], h => ⟨h, Nat.le_refl _⟩
 | e :: S, h => by
  have hS : lefts S := fun x hx => h x (by simp [hx])
  have he := h e (by simp)
  unfold clr
  cases hd : decide (1 < e.fLeft) with
  | true =>
   simp only [decide_eq_true_eq] at hd
   refine ⟨fun x hx => ?_, by simp⟩
   rcases List.mem_cons.1 hx with rfl | hx
   ·simp only; omega
   ·exact hS x hx
  | false =>
   obtain ⟨h1, h2⟩ := clr_lefts hS
   exact ⟨h1, by simp only [cond_false, List.length_cons]; omega⟩
theorem lkc_next {n : Int} {S : List TValueOpen} {i : Int} {sh : TValueShape} {c : TApiCell} {σ : LkS} (hb : lefts S) (hS : (S.length : Int) ≤ i) (hN : c.fN ≤ 9223372036854775807) (h : lkc n S i sh c = .next σ) : ∃ S' sh', σ = (S'.reverse, i + 1, sh') ∧ lefts S' ∧ (S'.length : Int) ≤ i + 1 := by
 unfold lkc at h
 cases hp : pl c with
 | false => simp [hp] at h
 | true =>
  simp only [hp, Bool.not_true, cond_false] at h
  cases S with
  | nil =>
   simp only at h
   cases hn : decide (0 < c.fN) with
   | false => simp [hn] at h
   | true =>
    simp only [hn, cond_true] at h
    cases hm : decide (n < c.fN) with
    | true => simp [hm] at h
    | false =>
     simp only [hm, cond_false, Stp.next.injEq] at h
     refine ⟨[_], _, h.symm, fun x hx => ?_, by simp at hS ⊢; omega⟩
     simp only [List.mem_singleton] at hx; subst hx
     simp only [decide_eq_true_eq] at hn
     exact ⟨by simp only; omega, hN⟩
  | cons e S =>
   have he := hb e (by simp)
   have hbS : lefts S := fun x hx => hb x (by simp [hx])
   simp only [List.length_cons] at hS
   cases hk : e.fKey with
   | true =>
    simp only [hk, cond_true] at h
    cases hq : (!decide (c.fKind = 4) || (e.fStarted && (sLess c.fStr e.fLast || decide (c.fStr = e.fLast)))) with
    | true => rw [hq] at h; simp at h
    | false =>
     rw [hq] at h
     simp only [cond_false, Stp.next.injEq] at h
     refine ⟨_ :: S, _, h.symm, fun x hx => ?_, by simp only [List.length_cons]; omega⟩
     rcases List.mem_cons.1 hx with rfl | hx
     ·exact he
     ·exact hbS x hx
   | false =>
    simp only [hk, cond_false] at h
    cases hn : decide (0 < c.fN) with
    | true =>
     simp only [hn, cond_true] at h
     cases hm : decide (n < c.fN) with
     | true => simp [hm] at h
     | false =>
      simp only [hm, cond_false, Stp.next.injEq] at h
      refine ⟨_ :: e :: S, _, h.symm, fun x hx => ?_, by simp only [List.length_cons]; omega⟩
      rcases List.mem_cons.1 hx with rfl | hx
      ·simp only [decide_eq_true_eq] at hn
       exact ⟨by simp only; omega, hN⟩
      ·exact hb x hx
    | false =>
     simp only [hn, cond_false] at h
     cases hq : decide (clr (e :: S) = []) with
     | true => rw [hq] at h; simp at h
     | false =>
      rw [hq] at h
      simp only [cond_false, Stp.next.injEq] at h
      obtain ⟨h1, h2⟩ := clr_lefts hb
      simp only [List.length_cons] at h2
      exact ⟨_, _, h.symm, h1, by omega⟩
theorem look_total {F M : Nat} {v : List TApiCell} (hA : LkA F M v) : ∃ o, lop (lkB F v) F (([] : List TValueOpen), 0, (⟨0, 0, false, false⟩ : TValueShape)) = some o ∧ True := by
 refine lop_ind (fun σ => ∃ S i sh, σ = (S.reverse, i, sh) ∧ lefts S ∧ (S.length : Int) ≤ i ∧ 0 ≤ i ∧ i ≤ v.length) (fun σ => v.length - σ.2.1.toNat) (fun _ => True) (fun σ hI => ?_) F _ ⟨[], 0, _, rfl, (fun x hx => by cases hx), Int.le_refl _, Int.le_refl _, by omega⟩ (by have := hA.hv; have := hA.hF; simp; omega)
 obtain ⟨S, i, sh, rfl, hb, hS, h0, hi⟩ := hI
 by_cases hx : i < v.length
 ·obtain ⟨c, hc⟩ : ∃ c, v[i.toNat]? = some c := ⟨v[i.toNat]'(by omega), List.getElem?_eq_getElem (by omega)⟩
  have hdr : v.drop i.toNat = c :: v.drop (i.toNat + 1) := by rw [List.drop_eq_getElem_cons (by omega)]; congr 1; exact (List.getElem?_eq_some_iff.1 hc).2
  have hr := round (sh := sh) hA h0 hdr hS hb
  cases hl : lkc v.length S i sh c with
  | next τ =>
   obtain ⟨S', sh', rfl, h1, h2⟩ := lkc_next hb hS (hA.hc c (List.mem_of_getElem? hc)).2.2 hl
   exact .inl ⟨_, by rw [hr, hl], ⟨S', i + 1, sh', rfl, h1, h2, by omega, by omega⟩, by simp only; omega⟩
  | out o => exact .inr ⟨o, by rw [hr, hl], trivial⟩
 ·refine .inr ⟨.go sh, ?_, trivial⟩
  show vLook_b1 F v S.reverse i sh = _
  unfold vLook_b1
  rw [cnd_ff (by simpa using hx)]
def Fo.one : Fo → Bool
 | .cell none _ .nil => true
 | .node none _ _ .nil => true
 | _ => false
def sh0 : TValueShape := ⟨0, 0, false, false⟩
theorem look_fin {F M : Nat} {v : List TApiCell} (hA : LkA F M v) {f : Fo} (h1 : f.one = true) (hw : f.wf false none = true) {r : List TApiCell} (hv : v = f.flat ++ r) : Fin (lkB F v) ([], 0, sh0) (.ret (f.flat.length, f.sh 0 sh0, true)) := by
 have h0 : v.drop (0 : Int).toNat = f.flat ++ r := by rw [hv]; rfl
 have hlen : f.flat.length ≤ v.length := by rw [hv]; simp
 cases f with
 | nil => cases h1
 | cell k c r' =>
  cases k with
  | some s => cases h1
  | none =>
   cases r' with
   | nil =>
    simp only [Fo.wf, Bool.and_eq_true, Bool.not_eq_true'] at hw
    have := leafRound (S := []) (sh := sh0) hA (Int.le_refl 0) h0 (by simp) (fun x hx => by cases hx) rfl hw.1.1.2 hw.1.2
    unfold Done at this
    rw [if_pos (show clr [] = [] from rfl)] at this
    simpa [Fo.flat, Fo.sh, keyC, shK] using this
   | cell _ _ _ => cases h1
   | node _ _ _ _ => cases h1
 | node k c kids r' =>
  cases k with
  | some s => cases h1
  | none =>
   cases r' with
   | nil =>
    simp only [Fo.wf, Bool.and_eq_true, decide_eq_true_eq] at hw
    obtain ⟨⟨⟨⟨⟨w1, w2⟩, w3⟩, w5⟩, w6⟩, w4⟩ := hw
    have hck := cnt_le_flat kids
    simp only [Fo.flat, keyC, List.nil_append, List.append_nil, List.length_cons] at hlen
    have hvM := hA.hv; have hMM := hA.hM
    have hn := nodeRound (S := []) (sh := sh0) hA (Int.le_refl 0) h0 (by simp) (fun x hx => by cases hx) rfl w2 (by simpa using w3) (by omega)
    have hv2 := (drop_get (Int.le_refl 0) h0).2.1
    have hd := forest_look hA kids ⟨decide (c.fKind = 6), c.fN, decide (c.fKind = 6), [], false⟩ [] (0 + 1) (shc 0 sh0 c) none r (by omega) w6 rfl w5 rfl (fun _ => rfl) (by rw [hv2]; simp [Fo.flat]) (by omega) (by simp) (fun x hx => by cases hx)
    unfold Done at hd
    rw [if_pos (show clr [] = [] from rfl)] at hd
    have := hn.fin hd
    have e : ((0 : Int) + 1 + kids.flat.length) = ((Fo.node none c kids .nil).flat.length : Int) := by simp [Fo.flat, keyC]; omega
    rw [e] at this
    exact this
   | cell _ _ _ => cases h1
   | node _ _ _ _ => cases h1
theorem look_val {F M : Nat} {v : List TApiCell} (hA : LkA F M v) {f : Fo} (h1 : f.one = true) (hw : f.wf false none = true) {r : List TApiCell} (hv : v = f.flat ++ r) : vLook F v = some ((f.flat.length : Int), f.sh 0 sh0, true) := by
 obtain ⟨o, ho, _⟩ := look_total hA
 have e := (look_fin hA h1 hw hv).eq ho
 subst e
 unfold vLook
 rw [obn_s ho]; rfl
end Go.Proofs.YtpmiamphppcfeaaGreatDoor

/-
 Reading values of cells: a plain reader; value.look says what it says. Plain laws.
-/
namespace Go.Proofs.YtpmiamphppcfeaaGreatDoor
open Go
set_option linter.unusedVariables false
set_option linter.unusedSimpArgs false
def prsK (m : Bool) (last : Option Str) (xs : List TApiCell) : Option (Option Str × List TApiCell) :=
 bif m then match xs with
  | [] => none
  | c :: r => bif pl c && decide (c.fKind = 4) && keyOk true last (some c.fStr) then some (some c.fStr, r) else none
 else some (none, xs)
def prs : Nat → Bool → Option Str → Nat → List TApiCell → Option (Fo × List TApiCell)
 | 0, _, _, _, _ => none
 | _ + 1, _, _, 0, xs => some (.nil, xs)
 | F + 1, m, last, k + 1, xs =>
  match prsK m last xs with
  | none => none
  | some (_, []) => none
  | some (key, c :: xs') =>
   bif !pl c then none else
   bif decide (0 < c.fN) then
    match prs F (decide (c.fKind = 6)) none c.fN.toNat xs' with
    | none => none
    | some (kids, ys) => match prs F m key k ys with
     | none => none
     | some (r, zs) => some (.node key c kids r, zs)
   else match prs F m key k xs' with
    | none => none
    | some (r, zs) => some (.cell key c r, zs)
theorem pl_key {c : TApiCell} (hp : pl c = true) (hk : c.fKind = 4) : c = ⟨4, 0, c.fStr, 0⟩ ∧ c.fStr.all okc = true := by
 cases c
 simp only at hk; subst hk
 simp [pl] at hp
 obtain ⟨h1, h2, h3⟩ := hp
 subst h1; subst h2
 exact ⟨rfl, by simpa using h3⟩
theorem prsK_ok {m : Bool} {last key : Option Str} {xs r : List TApiCell} (h : prsK m last xs = some (key, r)) : xs = keyC key ++ r ∧ keyOk m last key = true := by
 unfold prsK at h
 cases m with
 | false => cases h; exact ⟨rfl, rfl⟩
 | true =>
  simp only [cond_true] at h
  cases xs with
  | nil => cases h
  | cons c r' =>
   simp only at h
   cases hb : (pl c && decide (c.fKind = 4) && keyOk true last (some c.fStr)) with
   | false => rw [hb] at h; cases h
   | true =>
    rw [hb] at h
    simp only [Bool.and_eq_true, decide_eq_true_eq] at hb
    cases h
    exact ⟨by rw [(pl_key hb.1.1 hb.1.2).1]; rfl, hb.2⟩
theorem prs_ok : ∀ (F : Nat) (m : Bool) (last : Option Str) (k : Nat) (xs : List TApiCell) (f : Fo) (ys : List TApiCell), prs F m last k xs = some (f, ys) → xs = f.flat ++ ys ∧ f.wf m last = true ∧ f.cnt = k
 | 0, _, _, _, _, _, _, h => by cases h
 | F + 1, m, last, 0, xs, f, ys, h => by cases h; exact ⟨rfl, rfl, rfl⟩
 | F + 1, m, last, k + 1, xs, f, ys, h => by
  rw [prs] at h
  cases hk : prsK m last xs with
  | none => rw [hk] at h; cases h
  | some p =>
   obtain ⟨key, r⟩ := p
   obtain ⟨h1, h2⟩ := prsK_ok hk
   rw [hk] at h
   cases r with
   | nil => cases h
   | cons c xs' =>
    simp only at h
    cases hp : pl c with
    | false => rw [hp] at h; cases h
    | true =>
     rw [hp] at h
     simp only [Bool.not_true, cond_false] at h
     cases hn : decide (0 < c.fN) with
     | true =>
      rw [hn] at h
      simp only [cond_true] at h
      cases hq : prs F (decide (c.fKind = 6)) none c.fN.toNat xs' with
      | none => rw [hq] at h; cases h
      | some q =>
       obtain ⟨kids, zs⟩ := q
       rw [hq] at h
       simp only at h
       cases hr : prs F m key k zs with
       | none => rw [hr] at h; cases h
       | some q2 =>
        obtain ⟨r2, us⟩ := q2
        rw [hr] at h; cases h
        obtain ⟨a1, a2, a3⟩ := prs_ok F _ _ _ _ _ _ hq
        obtain ⟨b1, b2, b3⟩ := prs_ok F _ _ _ _ _ _ hr
        refine ⟨by rw [h1, a1, b1]; simp [Fo.flat], ?_, by simp [Fo.cnt, b3]⟩
        simp only [decide_eq_true_eq] at hn
        simp only [Fo.wf, h2, hp, a2, b2, Bool.and_true, Bool.true_and, Bool.and_eq_true, decide_eq_true_eq]
        omega
     | false =>
      rw [hn] at h
      simp only [cond_false] at h
      cases hr : prs F m key k xs' with
      | none => rw [hr] at h; cases h
      | some q2 =>
       obtain ⟨r2, us⟩ := q2
       rw [hr] at h; cases h
       obtain ⟨b1, b2, b3⟩ := prs_ok F _ _ _ _ _ _ hr
       exact ⟨by rw [h1, b1]; simp [Fo.flat], by simp [Fo.wf, h2, hp, b2, hn], by simp [Fo.cnt, b3]⟩
theorem prs_fuel : ∀ (F F' : Nat) (m : Bool) (last : Option Str) (k : Nat) (xs : List TApiCell), xs.length < F → xs.length < F' → prs F m last k xs = prs F' m last k xs
 | 0, _, _, _, _, _, h, _ => by omega
 | _ + 1, 0, _, _, _, _, _, h => by omega
 | F + 1, F' + 1, m, last, 0, xs, _, _ => rfl
 | F + 1, F' + 1, m, last, k + 1, xs, h, h' => by
  rw [prs, prs]
  cases hk : prsK m last xs with
  | none => rfl
  | some p =>
   obtain ⟨key, r⟩ := p
   obtain ⟨h1, h2⟩ := prsK_ok hk
   cases r with
   | nil => rfl
   | cons c xs' =>
    have hl : xs'.length < xs.length := by rw [h1]; simp; omega
    simp only
    cases hp : pl c with
    | false => rfl
    | true =>
     simp only [Bool.not_true, cond_false]
     cases hn : decide (0 < c.fN) with
     | true =>
      simp only [cond_true]
      rw [prs_fuel F F' _ _ _ xs' (by omega) (by omega)]
      cases hq : prs F' (decide (c.fKind = 6)) none c.fN.toNat xs' with
      | none => rfl
      | some q =>
       obtain ⟨kids, zs⟩ := q
       have := (prs_ok _ _ _ _ _ _ _ hq).1
       have hz : zs.length ≤ xs'.length := by rw [this]; simp
       simp only
       rw [prs_fuel F F' m key k zs (by omega) (by omega)]
     | false =>
      simp only [cond_false]
      rw [prs_fuel F F' m key k xs' (by omega) (by omega)]
def Bad {S : Type} (body : S → Option (Stp S LkO)) (s : S) : Prop := ∃ sh', Fin body s (.ret (0, sh', false)) ∨ Fin body s (.go sh')
theorem Reach.bad {S : Type} {body : S → Option (Stp S LkO)} {s t : S} (h : Reach body s t) (h' : Bad body t) : Bad body s := by
 obtain ⟨sh', h' | h'⟩ := h'
 ·exact ⟨sh', .inl (h.fin h')⟩
 ·exact ⟨sh', .inr (h.fin h')⟩
section
variable {F M : Nat} {v : List TApiCell}
theorem Bad.end_ {S : List TValueOpen} {i : Int} {sh : TValueShape} (h0 : 0 ≤ i) (h : v.drop i.toNat = []) : Bad (lkB F v) (S.reverse, i, sh) := by
 refine ⟨sh, .inr (Fin.step ?_)⟩
 show vLook_b1 F v S.reverse i sh = _
 unfold vLook_b1
 rw [cnd_ff]
 have : v.length ≤ i.toNat := by simpa using h
 simp; omega
theorem Bad.pl_ (hA : LkA F M v) {S : List TValueOpen} {i : Int} {sh : TValueShape} {c : TApiCell} {r : List TApiCell} (h0 : 0 ≤ i) (h : v.drop i.toNat = c :: r) (hS : (S.length : Int) ≤ i) (hb : lefts S) (hp : pl c = false) : Bad (lkB F v) (S.reverse, i, sh) := by
 refine ⟨sh, .inl (Fin.step ?_)⟩
 rw [round hA h0 h hS hb]
 simp [lkc, hp]
theorem forest_bad (hA : LkA F M v) : ∀ (P : Nat) (k : Nat) (e : TValueOpen) (S : List TValueOpen) (i : Int) (sh : TValueShape) (last : Option Str) (xs : List TApiCell), xs.length < P → prs P e.fPairs last (k + 1) xs = none → e.fKey = e.fPairs → e.fLeft = (k : Int) + 1 → (k : Int) + 1 ≤ 9223372036854775807 → lastOk e last → (e.fPairs = false → last = none) → v.drop i.toNat = xs → 0 ≤ i → (S.length : Int) + 1 ≤ i → lefts S →
  Bad (lkB F v) ((e :: S).reverse, i, sh) := by
 intro P
 induction P with
 | zero => intro k e S i sh last xs h; omega
 | succ P ih =>
  intro k e S i sh last xs hP hn hk hl hkm hlo hm hv h0 hS hb
  have hb' : lefts (e :: S) := fun x hx => by
   rcases List.mem_cons.1 hx with rfl | hx
   ·constructor <;> omega
   ·exact hb x hx
  rw [prs] at hn
  cases hq : prsK e.fPairs last xs with
  | none =>
   unfold prsK at hq
   cases hpr : e.fPairs with
   | false => rw [hpr] at hq; cases hq
   | true =>
    rw [hpr] at hq hk
    simp only [cond_true] at hq
    cases xs with
    | nil => exact Bad.end_ h0 hv
    | cons c r =>
     simp only at hq
     cases hp : pl c with
     | false => exact Bad.pl_ hA h0 hv (by simpa using hS) hb' hp
     | true =>
      refine ⟨sh, .inl (Fin.step ?_)⟩
      rw [round hA h0 hv (by simpa using hS) hb']
      have ht : (!decide (c.fKind = 4) || (e.fStarted && (sLess c.fStr e.fLast || decide (c.fStr = e.fLast)))) = true := by
       rw [hp] at hq
       cases h4 : decide (c.fKind = 4) with
       | false => rfl
       | true =>
        rw [h4] at hq
        simp only [Bool.and_self, Bool.true_and] at hq
        have hok := (pl_key hp (by simpa using h4)).2
        cases last with
        | none => simp [keyOk, hok] at hq
        | some p =>
         obtain ⟨q1, q2⟩ := hlo
         rw [q1, q2]
         cases hc : (sLess c.fStr p || decide (c.fStr = p)) with
         | true => rfl
         | false => simp [keyOk, hok, hc] at hq
      simp only [lkc, hp, hk, ht, Bool.not_true, cond_false, cond_true]
  | some q =>
   obtain ⟨key, r⟩ := q
   obtain ⟨h1, h2⟩ := prsK_ok hq
   rw [hq] at hn
   have hkr := keyRound (sh := sh) hA h0 (by rw [hv]; exact h1) hS hb' (by rw [hk]; exact h2) hlo
   have hv1 := drop_app h0 (hv.trans h1)
   obtain ⟨kl, kp⟩ := keyed_left (e := e) key
   obtain ⟨q1, q2⟩ := keyed_last hlo hm h2
   have hbk : lefts (keyed e key :: S) := fun x hx => by
    rcases List.mem_cons.1 hx with rfl | hx
    ·rw [kl]; exact hb' e (by simp)
    ·exact hb x hx
   refine hkr.bad ?_
   cases r with
   | nil => exact Bad.end_ (by omega) hv1
   | cons c xs' =>
    have hlen : xs'.length + 1 ≤ xs.length := by rw [h1]; simp
    have hvl : xs.length ≤ v.length := by rw [← hv, List.length_drop]; omega
    have hvM := hA.hv; have hMM := hA.hM
    have hkk := keyed_key (e := e) (last := last) (k := key) (by rw [hk]; exact h2)
    simp only at hn
    have hSk : (((keyed e key :: S).length : Nat) : Int) ≤ i + (keyC key).length := by simp only [List.length_cons]; omega
    cases hp : pl c with
    | false => exact Bad.pl_ hA (by omega) hv1 hSk hbk hp
    | true =>
     rw [hp] at hn
     simp only [Bool.not_true, cond_false] at hn
     obtain ⟨g1, g2, g3⟩ := drop_get (by omega) hv1
     have hcN := (hA.hc c (List.mem_of_getElem? g1)).2.2
     -- what follows a whole value
     have more : ∀ (s : LkS) (j : Int) (sh' : TValueShape) (zs : List TApiCell), Done (lkB F v) s (keyed e key :: S) j sh' → v.drop j.toNat = zs → zs.length < P → 0 ≤ j → (S.length : Int) + 1 ≤ j → prs P e.fPairs key k zs = none → Bad (lkB F v) s := fun s j sh' zs hd hz hzl hj hSj hnone => by
      cases k with
      | zero =>
       cases P with
       | zero => omega
       | succ P => cases hnone
      | succ k =>
       have := hd.more (by rw [kl]; omega)
       refine this.bad (ih k _ S j sh' key zs hzl (by rw [kp]; exact hnone) rfl (by simp only [kl]; omega) (by omega) ?_ (by simpa using q2) hz hj hSj hb)
       cases key with
       | none => exact q1
       | some p => exact q1
     cases hN : decide (0 < c.fN) with
     | true =>
      rw [hN] at hn
      simp only [cond_true] at hn
      simp only [decide_eq_true_eq] at hN
      by_cases hbig : c.fN ≤ v.length
      ·have hnd := nodeRound (sh := shK key sh) hA (by omega) hv1 hSk hbk (by simpa [keyTop] using hkk) hp (by simpa using hN) hbig
       refine hnd.bad ?_
       cases hks : prs P (decide (c.fKind = 6)) none c.fN.toNat xs' with
       | none =>
        obtain ⟨n', hn'⟩ : ∃ n', c.fN.toNat = n' + 1 := ⟨c.fN.toNat - 1, by omega⟩
        rw [hn'] at hks
        exact ih n' _ _ _ _ none xs' (by omega) hks rfl (by simp only; omega) (by omega) rfl (fun _ => rfl) g2 (by omega) (by simp only [List.length_cons]; omega) hbk
       | some q =>
        obtain ⟨kids, zs⟩ := q
        rw [hks] at hn
        simp only at hn
        have hn2 : prs P e.fPairs key k zs = none := by
         cases hz : prs P e.fPairs key k zs with
         | none => rfl
         | some q => rw [hz] at hn; cases hn
        obtain ⟨a1, a2, a3⟩ := prs_ok _ _ _ _ _ _ _ hks
        have hd := forest_look hA kids ⟨decide (c.fKind = 6), c.fN, decide (c.fKind = 6), [], false⟩ (keyed e key :: S) (i + (keyC key).length + 1) (shc (S.length + 1) (shK key sh) c) none zs (by omega) a2 rfl (by simp only; omega) rfl (fun _ => rfl) (by rw [g2]; exact a1) (by omega) (by simp only [List.length_cons]; omega) hbk
        have hz : v.drop (i + (keyC key).length + 1 + kids.flat.length).toNat = zs := drop_app (by omega) (g2.trans a1)
        have hzl : zs.length ≤ xs'.length := by rw [a1]; simp
        exact more _ _ _ zs hd hz (by omega) (by omega) (by omega) hn2
      ·refine ⟨shc (keyed e key :: S).length (shK key sh) c, .inl (Fin.step ?_)⟩
       rw [round hA (by omega) hv1 hSk hbk]
       have hbig' : decide ((v.length : Int) < c.fN) = true := by simpa using hbig
       simp only [lkc, hp, hkk, hbig', hN, Bool.not_true, cond_false, cond_true, decide_true]
     | false =>
      rw [hN] at hn
      simp only [cond_false] at hn
      have hn2 : prs P e.fPairs key k xs' = none := by
       cases hz : prs P e.fPairs key k xs' with
       | none => rfl
       | some q => rw [hz] at hn; cases hn
      have hd := leafRound (sh := shK key sh) hA (by omega) hv1 hSk hbk (by simpa [keyTop] using hkk) hp hN
      exact more _ _ _ xs' hd g2 (by omega) (by omega) (by omega) hn2
def prs1 (xs : List TApiCell) : Option (Fo × List TApiCell) := prs (xs.length + 1) false none 1 xs
theorem prs_one {P : Nat} {xs ys : List TApiCell} {f : Fo} (h : prs P false none 1 xs = some (f, ys)) : f.one = true := by
 obtain ⟨h1, h2, h3⟩ := prs_ok _ _ _ _ _ _ _ h
 cases f with
 | nil => cases h3
 | cell k c r =>
  cases r with
  | nil =>
   cases k with
   | none => rfl
   | some s => simp [Fo.wf, keyOk] at h2
  | cell _ _ _ => simp [Fo.cnt] at h3
  | node _ _ _ _ => simp [Fo.cnt] at h3
 | node k c kids r =>
  cases r with
  | nil =>
   cases k with
   | none => rfl
   | some s => simp [Fo.wf, keyOk] at h2
  | cell _ _ _ => simp [Fo.cnt] at h3
  | node _ _ _ _ => simp [Fo.cnt] at h3
theorem look_bad0 (hA : LkA F M v) (h : prs1 v = none) : Bad (lkB F v) ([], 0, sh0) := by
 have hlf : lefts [] := fun x hx => by cases hx
 unfold prs1 at h
 rw [prs] at h
 simp only [prsK, cond_false] at h
 cases v with
 | nil => exact Bad.end_ (S := []) (Int.le_refl 0) rfl
 | cons c xs' =>
  have hv1 : (c :: xs').drop (0 : Int).toNat = c :: xs' := rfl
  have hvM := hA.hv; have hMM := hA.hM
  simp only at h
  cases hp : pl c with
  | false => exact Bad.pl_ (S := []) hA (Int.le_refl 0) hv1 (by simp) hlf hp
  | true =>
   rw [hp] at h
   simp only [Bool.not_true, cond_false] at h
   have hcN := (hA.hc c (by simp)).2.2
   cases hN : decide (0 < c.fN) with
   | true =>
    rw [hN] at h
    simp only [cond_true] at h
    simp only [decide_eq_true_eq] at hN
    by_cases hbig : c.fN ≤ (c :: xs').length
    ·have hnd := nodeRound (S := []) (sh := sh0) hA (Int.le_refl 0) hv1 (by simp) hlf rfl hp (by simpa using hN) hbig
     refine hnd.bad ?_
     cases hks : prs (c :: xs').length (decide (c.fKind = 6)) none c.fN.toNat xs' with
     | none =>
      obtain ⟨n', hn'⟩ : ∃ n', c.fN.toNat = n' + 1 := ⟨c.fN.toNat - 1, by omega⟩
      rw [hn'] at hks
      exact forest_bad hA (c :: xs').length n' ⟨decide (c.fKind = 6), c.fN, decide (c.fKind = 6), [], false⟩ [] (0 + 1) _ none xs' (by simp) hks rfl (by simp only; omega) (by omega) rfl (fun _ => rfl) rfl (by omega) (by simp) hlf
     | some q => rw [hks] at h; cases h
    ·refine ⟨shc 0 sh0 c, .inl (Fin.step ?_)⟩
     rw [show lkB F (c :: xs') (([] : List TValueOpen), 0, sh0) = _ from round (S := []) hA (Int.le_refl 0) hv1 (by simp) hlf]
     have hbig' : decide (((c :: xs').length : Int) < c.fN) = true := by simpa using hbig
     simp only [lkc, hp, hbig', hN, Bool.not_true, cond_false, cond_true, decide_true]
   | false => rw [hN] at h; cases h
theorem look_eq (hA : LkA F M v) : (∃ f ys, prs1 v = some (f, ys) ∧ vLook F v = some ((f.flat.length : Int), f.sh 0 sh0, true)) ∨ (prs1 v = none ∧ ∃ sh', vLook F v = some (0, sh', false)) := by
 cases h : prs1 v with
 | some q =>
  obtain ⟨f, ys⟩ := q
  obtain ⟨h1, h2, h3⟩ := prs_ok _ _ _ _ _ _ _ h
  exact .inl ⟨f, ys, rfl, look_val hA (prs_one h) h2 h1⟩
 | none =>
  refine .inr ⟨rfl, ?_⟩
  obtain ⟨o, ho, _⟩ := look_total hA
  obtain ⟨sh', hb | hb⟩ := look_bad0 hA h
  ·have e := hb.eq ho
   subst e
   exact ⟨sh', by unfold vLook; rw [obn_s ho]; rfl⟩
  ·have e := hb.eq ho
   subst e
   exact ⟨sh', by unfold vLook; rw [obn_s ho]; rfl⟩
end
end Go.Proofs.YtpmiamphppcfeaaGreatDoor

/-
 Forests: depth, bytes, text; what value.look tells of them. Plain laws.
-/
namespace Go.Proofs.YtpmiamphppcfeaaGreatDoor
open Go
set_option linter.unusedVariables false
set_option linter.unusedSimpArgs false
theorem wrap_id {x : Int} (h : -9223372036854775808 ≤ x) (h' : x ≤ 9223372036854775807) : IntKind.wrap .i64 x = x := by
 simp only [IntKind.wrap, IntKind.bits, IntKind.signed]
 simp
 omega
def Fo.dep : Fo → Nat
 | .nil => 0
 | .cell _ _ r => max 1 r.dep
 | .node _ _ kids r => max (kids.dep + 1) r.dep
theorem shK_depth (k : Option Str) (s : TValueShape) : (shK k s).fDepth = s.fDepth ∧ (shK k s).fOutside = s.fOutside ∧ (shK k s).fLong = (s.fLong || (keyC k).any fun c => decide (200 < (c.fStr.length : Int))) := by
 cases k with
 | none => simp [shK, keyC]
 | some x => simp [shK, shk, keyC]
theorem sh_depth : ∀ (f : Fo) (d : Nat) (s : TValueShape), (d : Int) ≤ s.fDepth → (f.sh d s).fDepth = max s.fDepth ((d : Int) + f.dep)
 | .nil, d, s, h => by simp only [Fo.sh, Fo.dep]; omega
 | .cell k c r, d, s, h => by
  have hk := (shK_depth k s).1
  have e : (shc d (shK k s) c).fDepth = max s.fDepth ((d : Int) + 1) := by rw [shc, hk]
  rw [Fo.sh, sh_depth r d _ (by rw [e]; omega), e, Fo.dep]; omega
 | .node k c kids r, d, s, h => by
  have hk := (shK_depth k s).1
  have e : (shc d (shK k s) c).fDepth = max s.fDepth ((d : Int) + 1) := by rw [shc, hk]
  have e2 := sh_depth kids (d + 1) (shc d (shK k s) c) (by rw [e]; omega)
  rw [e] at e2
  rw [Fo.sh, sh_depth r d _ (by rw [e2]; omega), e2, Fo.dep]; omega
def outC (c : TApiCell) : Bool := decide (c.fKind = 3) && !(decide ((-1000000000000) ≤ c.fInt) && decide (c.fInt ≤ 1000000000000))
def longC (c : TApiCell) : Bool := decide (200 < (c.fStr.length : Int))
theorem keyC_out (k : Option Str) : (keyC k).any outC = false := by cases k <;> simp [keyC, outC]
theorem sh_out : ∀ (f : Fo) (d : Nat) (s : TValueShape), (f.sh d s).fOutside = (s.fOutside || f.flat.any outC)
 | .nil, d, s => by simp [Fo.sh, Fo.flat]
 | .cell k c r, d, s => by
  rw [Fo.sh, sh_out r, shc, (shK_depth k s).2.1]
  simp only [Fo.flat, List.any_append, List.any_cons, keyC_out, Bool.false_or, Bool.or_assoc]
  rfl
 | .node k c kids r, d, s => by
  rw [Fo.sh, sh_out r, sh_out kids, shc, (shK_depth k s).2.1]
  simp only [Fo.flat, List.any_append, List.any_cons, keyC_out, Bool.false_or, Bool.or_assoc]
  rfl
theorem sh_long : ∀ (f : Fo) (d : Nat) (s : TValueShape), (f.sh d s).fLong = (s.fLong || f.flat.any longC)
 | .nil, d, s => by simp [Fo.sh, Fo.flat]
 | .cell k c r, d, s => by
  rw [Fo.sh, sh_long r, shc, (shK_depth k s).2.2]
  simp only [Fo.flat, List.any_append, List.any_cons, Bool.or_assoc]
  rfl
 | .node k c kids r, d, s => by
  rw [Fo.sh, sh_long r, sh_long kids, shc, (shK_depth k s).2.2]
  simp only [Fo.flat, List.any_append, List.any_cons, Bool.or_assoc]
  rfl
def lsz (c : TApiCell) : Int :=
 bif decide (c.fKind = 1) then 4 else bif decide (c.fKind = 2) then 5 - c.fInt else bif decide (c.fKind = 3) then ((Lib.itoa c.fInt).length : Int) else
 bif decide (c.fKind = 4) then qlen c.fStr else 2
def kbn : Option Str → Int
 | none => 0
 | some s => qlen s + 1
def Fo.byt : Fo → Int
 | .nil => 0
 | .cell k c r => kbn k + lsz c + r.byt
 | .node k c kids r => kbn k + (c.fN + 1) + kids.byt + r.byt
theorem qlen_pos (s : Str) : 2 ≤ qlen s := by unfold qlen; omega
theorem kbn_pos (k : Option Str) : 0 ≤ kbn k := by
 cases k with
 | none => exact Int.le_refl 0
 | some s => have := qlen_pos s; simp only [kbn]; omega
theorem lsz_pos {c : TApiCell} (hp : pl c = true) : 0 ≤ lsz c := by
 unfold lsz
 cases h1 : decide (c.fKind = 1) with
 | true => simp
 | false =>
  cases h2 : decide (c.fKind = 2) with
  | true =>
   simp [pl, h1, h2] at hp
   simp only [cond_false, cond_true]; omega
  | false =>
   cases h3 : decide (c.fKind = 3) with
   | true => simp
   | false =>
    cases h4 : decide (c.fKind = 4) with
    | true => have := qlen_pos c.fStr; simp only [cond_false, cond_true]; omega
    | false => simp
theorem pl_N {c : TApiCell} (hp : pl c = true) : 0 ≤ c.fN := by
 simp only [pl, ← Bool.decide_or] at hp
 cases h1 : decide (c.fKind = 1) <;> cases h2 : decide (c.fKind = 2) <;> cases h3 : decide (c.fKind = 3) <;> cases h4 : decide (c.fKind = 4) <;> cases h5 : decide (c.fKind = 5) <;> cases h6 : decide (c.fKind = 6) <;> simp [h1, h2, h3, h4, h5, h6] at hp <;> omega
theorem pl_node {c : TApiCell} (hp : pl c = true) (hn : 0 < c.fN) : (c.fKind = 5 ∨ c.fKind = 6) ∧ c.fInt = 0 ∧ c.fStr = [] := by
 cases h1 : decide (c.fKind = 1) <;> cases h2 : decide (c.fKind = 2) <;> cases h3 : decide (c.fKind = 3) <;> cases h4 : decide (c.fKind = 4) <;> cases h5 : decide (c.fKind = 5) <;> cases h6 : decide (c.fKind = 6) <;> simp [pl, h1, h2, h3, h4, h5, h6] at hp <;> (simp only [decide_eq_true_eq, decide_eq_false_iff_not] at *; first | omega | exact ⟨by omega, hp.1, hp.2.1⟩)
theorem szc_leaf {c : TApiCell} (hp : pl c = true) (hn : decide (0 < c.fN) = false) : szc c = lsz c := by
 have hN := pl_N hp
 have h0 : c.fN = 0 := by simp only [decide_eq_false_iff_not] at hn; omega
 unfold szc lsz
 rw [h0]
 cases h1 : decide (c.fKind = 1) with
 | true => rfl
 | false =>
  cases h2 : decide (c.fKind = 2) with
  | true =>
   simp [pl, h1, h2] at hp
   simp only [cond_false, cond_true]
   exact wrap_id (by omega) (by omega)
  | false => rfl
theorem szc_node {c : TApiCell} (hp : pl c = true) (hn : 0 < c.fN) (hm : c.fN ≤ 9223372036854775000) : szc c = c.fN + 1 := by
 obtain ⟨hk, _, _⟩ := pl_node hp hn
 unfold szc
 rw [decide_eq_false (by omega), decide_eq_false (by omega), decide_eq_false (by omega), decide_eq_false (by omega)]
 simp only [cond_false]
 rw [wrap_id (x := c.fN - 1) (by omega) (by omega), wrap_id (by omega) (by omega)]; omega
theorem byt_pos : ∀ {f : Fo} {m : Bool} {l : Option Str}, f.wf m l = true → 0 ≤ f.byt
 | .nil, _, _, _ => Int.le_refl 0
 | .cell k c r, m, l, h => by
  simp only [Fo.wf, Bool.and_eq_true] at h
  have h1 := byt_pos h.2; have h2 := lsz_pos h.1.1.2; have h3 := kbn_pos k
  simp only [Fo.byt]; omega
 | .node k c kids r, m, l, h => by
  simp only [Fo.wf, Bool.and_eq_true, decide_eq_true_eq] at h
  have h1 := byt_pos h.2; have h2 := byt_pos h.1.2; have h3 := kbn_pos k
  simp only [Fo.byt]; omega
theorem shK_bytes (k : Option Str) (s : TValueShape) (h0 : 0 ≤ s.fBytes) (h : s.fBytes + kbn k ≤ 9223372036854775807) : (shK k s).fBytes = s.fBytes + kbn k := by
 cases k with
 | none => simp [shK, kbn]
 | some x =>
  have := qlen_pos x
  simp only [kbn] at h
  simp only [shK, shk, kbn]
  exact wrap_id (by omega) (by omega)
theorem sh_bytes : ∀ (f : Fo) (m : Bool) (l : Option Str) (d : Nat) (s : TValueShape), f.wf m l = true → 0 ≤ s.fBytes → s.fBytes + f.byt ≤ 9223372036854775000 → (f.sh d s).fBytes = s.fBytes + f.byt
 | .nil, _, _, d, s, _, _, _ => by simp [Fo.sh, Fo.byt]
 | .cell k c r, m, l, d, s, hw, h0, h => by
  simp only [Fo.wf, Bool.and_eq_true, Bool.not_eq_true'] at hw
  obtain ⟨⟨⟨w1, w2⟩, w3⟩, w4⟩ := hw
  have h1 := byt_pos w4; have h2 := lsz_pos w2; have h3 := kbn_pos k
  simp only [Fo.byt] at h
  have e1 := shK_bytes k s h0 (by omega)
  have e : (shc d (shK k s) c).fBytes = s.fBytes + kbn k + lsz c := by
   rw [shc, e1, szc_leaf w2 w3]; exact wrap_id (by omega) (by omega)
  rw [Fo.sh, sh_bytes r _ _ d _ w4 (by rw [e]; omega) (by rw [e]; omega), e, Fo.byt]; omega
 | .node k c kids r, m, l, d, s, hw, h0, h => by
  simp only [Fo.wf, Bool.and_eq_true, decide_eq_true_eq] at hw
  obtain ⟨⟨⟨⟨⟨w1, w2⟩, w3⟩, w5⟩, w6⟩, w4⟩ := hw
  have h1 := byt_pos w4; have h2 := byt_pos w6; have h3 := kbn_pos k
  simp only [Fo.byt] at h
  have e1 := shK_bytes k s h0 (by omega)
  have e : (shc d (shK k s) c).fBytes = s.fBytes + kbn k + (c.fN + 1) := by
   rw [shc, e1, szc_node w2 w3 (by omega)]; exact wrap_id (by omega) (by omega)
  have e2 := sh_bytes kids _ _ (d + 1) (shc d (shK k s) c) w6 (by rw [e]; omega) (by rw [e]; omega)
  rw [Fo.sh, sh_bytes r _ _ d _ w4 (by rw [e2, e]; omega) (by rw [e2, e]; omega), e2, e, Fo.byt]; omega
def escS (s : Str) : Str := s.flatMap fun c => bif (decide (c = 34) || decide (c = 92)) then [92, c] else [c]
def quoS (s : Str) : Str := 34 :: (escS s ++ [34])
theorem escS_len : ∀ s : Str, (escS s).length = s.length + s.count 34 + s.count 92
 | [] => rfl
 | c :: s => by
  have ih := escS_len s
  unfold escS at ih ⊢
  rw [List.flatMap_cons, List.length_append, ih]
  by_cases h1 : c = 34
  ·subst h1; simp; omega
  ·by_cases h2 : c = 92
   ·subst h2; simp; omega
   ·simp [h1, h2, List.count_cons]; omega
theorem quoS_len (s : Str) : ((quoS s).length : Int) = qlen s := by
 simp only [quoS, List.length_cons, List.length_append, escS_len, List.length_nil, qlen]; omega
def leafT (c : TApiCell) : Str :=
 bif decide (c.fKind = 1) then [110, 117, 108, 108] else
 bif decide (c.fKind = 2) then (bif decide (c.fInt = 1) then [116, 114, 117, 101] else [102, 97, 108, 115, 101]) else
 bif decide (c.fKind = 3) then Lib.itoa c.fInt else
 bif decide (c.fKind = 4) then quoS c.fStr else
 bif decide (c.fKind = 6) then [123, 125] else [91, 93]
def ktx : Option Str → Str
 | none => []
 | some s => quoS s ++ [58]
def brk (c : TApiCell) (s : Str) : Str := bif decide (c.fKind = 6) then 123 :: (s ++ [125]) else 91 :: (s ++ [93])
def sepT (first : Bool) : Str := bif first then [] else [44]
def Fo.txt : Bool → Fo → Str
 | _, .nil => []
 | b, .cell k c r => sepT b ++ ktx k ++ leafT c ++ r.txt false
 | b, .node k c kids r => sepT b ++ ktx k ++ brk c (kids.txt true) ++ r.txt false
theorem ktx_len (k : Option Str) : ((ktx k).length : Int) = kbn k := by
 cases k with
 | none => rfl
 | some s => simp only [ktx, List.length_append, kbn, List.length_singleton]; have := quoS_len s; omega
theorem leafT_len {c : TApiCell} (hp : pl c = true) : ((leafT c).length : Int) = lsz c := by
  unfold leafT lsz
  cases h1 : decide (c.fKind = 1) with
  | true => rfl
  | false =>
    cases h2 : decide (c.fKind = 2) with
    | true =>
      simp [pl, h1, h2] at hp
      simp only [cond_false, cond_true]
      cases h7 : decide (c.fInt = 1) with
      | true => simp only [decide_eq_true_eq] at h7; simp [h7]
      | false => simp only [decide_eq_false_iff_not] at h7; have : c.fInt = 0 := by omega
                 simp [this]
    | false =>
      cases h3 : decide (c.fKind = 3) with
      | true => rfl
      | false =>
        cases h4 : decide (c.fKind = 4) with
        | true => simpa using quoS_len c.fStr
        | false => cases h6 : decide (c.fKind = 6) <;> rfl
theorem brk_len (c : TApiCell) (s : Str) : (brk c s).length = s.length + 2 := by
 unfold brk
 cases decide (c.fKind = 6) <;> simp
theorem txt_len : ∀ (f : Fo) (m : Bool) (l : Option Str) (b : Bool), f.wf m l = true → ((f.txt b).length : Int) = f.byt + (bif b then ((f.cnt - 1 : Nat) : Int) else (f.cnt : Int))
 | .nil, m, l, b, _ => by cases b <;> rfl
 | .cell k c r, m, l, b, hw => by
  simp only [Fo.wf, Bool.and_eq_true, Bool.not_eq_true'] at hw
  obtain ⟨⟨⟨w1, w2⟩, w3⟩, w4⟩ := hw
  have ih := txt_len r _ _ false w4
  have a := ktx_len k; have d := leafT_len w2
  simp only [cond_false] at ih
  cases b <;> simp only [Fo.txt, Fo.byt, Fo.cnt, sepT, cond_true, cond_false, List.length_append, List.length_nil, List.length_singleton] <;> omega
 | .node k c kids r, m, l, b, hw => by
  simp only [Fo.wf, Bool.and_eq_true, decide_eq_true_eq] at hw
  obtain ⟨⟨⟨⟨⟨w1, w2⟩, w3⟩, w5⟩, w6⟩, w4⟩ := hw
  have ih := txt_len r _ _ false w4
  have ih2 := txt_len kids _ _ true w6
  have a := ktx_len k; have d := brk_len c (kids.txt true)
  simp only [cond_false, cond_true] at ih ih2
  cases b <;> simp only [Fo.txt, Fo.byt, Fo.cnt, sepT, cond_true, cond_false, List.length_append, List.length_nil, List.length_singleton] <;> omega
def Fo.put (k : Option Str) : Fo → Fo → Fo
 | .cell _ c _, r => .cell k c r
 | .node _ c kids _, r => .node k c kids r
 | .nil, _ => .nil
theorem prs_cons (P : Nat) (m : Bool) (last : Option Str) (k : Nat) (xs : List TApiCell) : prs (P + 2) m last (k + 1) xs =
  match prsK m last xs with
  | none => none
  | some (key, ys) => match prs (P + 2) false none 1 ys with
   | none => none
   | some (f, zs) => match prs (P + 1) m key k zs with
    | none => none
    | some (r, us) => some (f.put key r, us) := by
 rw [prs]
 cases hk : prsK m last xs with
 | none => rfl
 | some p =>
  obtain ⟨key, ys⟩ := p
  simp only
  rw [prs]
  simp only [prsK, cond_false]
  cases ys with
  | nil => rfl
  | cons c ys =>
   simp only
   cases hp : pl c with
   | false => rfl
   | true =>
    simp only [Bool.not_true, cond_false]
    cases hn : decide (0 < c.fN) with
    | true =>
     simp only [cond_true]
     cases hq : prs (P + 1) (decide (c.fKind = 6)) none c.fN.toNat ys with
     | none => rfl
     | some q =>
      obtain ⟨kids, zs⟩ := q
      simp only [prs]
      cases hr : prs (P + 1) m key k zs with
      | none => rfl
      | some q => obtain ⟨a, b⟩ := q; rfl
    | false =>
     simp only [cond_false, prs]
     cases hr : prs (P + 1) m key k ys with
     | none => rfl
     | some q => obtain ⟨a, b⟩ := q; rfl
end Go.Proofs.YtpmiamphppcfeaaGreatDoor

/-
 The reference reads values as the plain reader does. Plain laws.
-/
namespace Go.Proofs.YtpmiamphppcfeaaGreatDoor
open Go
set_option linter.unusedVariables false
set_option linter.unusedSimpArgs false
def prsF (m : Bool) (last : Option Str) (k : Nat) (xs : List TApiCell) : Option (Fo × List TApiCell) := prs (xs.length + 1) m last k xs
theorem prsF_zero (m : Bool) (last : Option Str) (xs : List TApiCell) : prsF m last 0 xs = some (.nil, xs) := rfl
theorem prsF_cons (m : Bool) (last : Option Str) (k : Nat) (xs : List TApiCell) : prsF m last (k + 1) xs =
  match prsK m last xs with
  | none => none
  | some (key, ys) => match prs1 ys with
   | none => none
   | some (f, zs) => match prsF m key k zs with
    | none => none
    | some (r, us) => some (f.put key r, us) := by
 unfold prsF prs1
 rw [prs_fuel (xs.length + 1) (xs.length + 2) m last (k + 1) xs (by omega) (by omega), prs_cons]
 cases hk : prsK m last xs with
 | none => rfl
 | some p =>
  obtain ⟨key, ys⟩ := p
  have h1 := (prsK_ok hk).1
  have hy : ys.length ≤ xs.length := by rw [h1]; simp
  simp only
  rw [prs_fuel (xs.length + 2) (ys.length + 1) false none 1 ys (by omega) (by omega)]
  cases hf : prs (ys.length + 1) false none 1 ys with
  | none => rfl
  | some q =>
   obtain ⟨f, zs⟩ := q
   have h2 := (prs_ok _ _ _ _ _ _ _ hf).1
   have hz : zs.length ≤ ys.length := by rw [h2]; simp
   simp only
   rw [prs_fuel (xs.length + 1) (zs.length + 1) m key k zs (by omega) (by omega)]
   all_goals (cases prs (zs.length + 1) m key k zs <;> rfl)
theorem lop_n {S O : Type} {body : S → Option (Stp S O)} {n : Nat} {s s' : S} {o : O} (h : body s = some (.next s')) (h' : lop body n s' = some o) : lop body (n + 1) s = some o := by rw [lop, h]; exact h'
theorem lop_o {S O : Type} {body : S → Option (Stp S O)} {n : Nat} {s : S} {o : O} (h : body s = some (.out o)) : lop body (n + 1) s = some o := by rw [lop, h]
theorem prs1_nil : prs1 [] = none := rfl
theorem prs1_cons (c : TApiCell) (r : List TApiCell) : prs1 (c :: r) = bif !pl c then none else bif decide (0 < c.fN) then (match prsF (decide (c.fKind = 6)) none c.fN.toNat r with
  | none => none
  | some (kids, zs) => some (.node none c kids .nil, zs)) else some (.cell none c .nil, r) := by
 unfold prs1
 rw [prs]
 simp only [prsK, cond_false]
 cases hp : pl c with
 | false => rfl
 | true =>
  simp only [Bool.not_true, cond_false]
  cases hn : decide (0 < c.fN) with
  | true =>
   simp only [cond_true]
   unfold prsF
   rw [List.length_cons]
   cases hq : prs (r.length + 1) (decide (c.fKind = 6)) none c.fN.toNat r with
   | none => rfl
   | some q => obtain ⟨kids, zs⟩ := q; rfl
  | false => rfl
theorem put_flat {f : Fo} (h : f.one = true) (key : Option Str) (r : Fo) : (f.put key r).flat = keyC key ++ (f.flat ++ r.flat) := by
 cases f with
 | nil => cases h
 | cell k c r' =>
  cases k with
  | some s => cases h
  | none => cases r' with
   | nil => simp [Fo.put, Fo.flat, keyC]
   | cell _ _ _ => cases h
   | node _ _ _ _ => cases h
 | node k c kids r' =>
  cases k with
  | some s => cases h
  | none => cases r' with
   | nil => simp [Fo.put, Fo.flat, keyC]
   | cell _ _ _ => cases h
   | node _ _ _ _ => cases h
theorem one_flat {f : Fo} (h : f.one = true) : 1 ≤ f.flat.length := by
 cases f with
 | nil => cases h
 | cell k c r' => simp [Fo.flat]; omega
 | node k c kids r' => simp [Fo.flat]; omega
theorem prs1_ok {xs ys : List TApiCell} {f : Fo} (h : prs1 xs = some (f, ys)) : xs = f.flat ++ ys ∧ f.wf false none = true ∧ f.one = true :=
 ⟨(prs_ok _ _ _ _ _ _ _ h).1, (prs_ok _ _ _ _ _ _ _ h).2.1, prs_one h⟩
def nxt (v : List TApiCell) (i : Int) : Int := match prs1 (v.drop i.toNat) with
 | none => -1
 | some (f, _) => i + f.flat.length
def nxts (m : Bool) (last : Option Str) (v : List TApiCell) (i : Int) (k : Nat) : Int := match prsF m last k (v.drop i.toNat) with
 | none => -1
 | some (f, _) => i + f.flat.length
theorem nxt_range {v : List TApiCell} {i : Int} (h0 : 0 ≤ i) (h1 : i ≤ v.length) : nxt v i = -1 ∨ (i < nxt v i ∧ nxt v i ≤ v.length) := by
 unfold nxt
 cases h : prs1 (v.drop i.toNat) with
 | none => exact .inl rfl
 | some q =>
  obtain ⟨f, ys⟩ := q
  obtain ⟨h2, _, h3⟩ := prs1_ok h
  have := one_flat h3
  have hl : (v.drop i.toNat).length = f.flat.length + ys.length := by rw [h2]; simp
  rw [List.length_drop] at hl
  right; simp only; omega
structure RfA (F M : Nat) (v : List TApiCell) : Prop where
 hM : M ≤ 1152921504606846976
 hv : v.length ≤ M
 hF : M < F
 hc : ∀ c ∈ v, c.fStr.length ≤ M
theorem rAfter_eq (ok : Bool) {i : Int} (h0 : 0 ≤ i) (h1 : i ≤ 1152921504606846976) : rAfter ok i = some (bif ok then i + 1 else -1) := by
 unfold rAfter
 cases ok
 ·rfl
 ·rw [cnd_tt rfl, chk_i64 (by omega) (by omega)]; rfl
theorem rKey_eq {F : Nat} {c : TApiCell} (hF : c.fStr.length < F) (hs : c.fStr.length ≤ 1152921504606846976) : rKey F c = some (decide (c.fKind = 4) && pl c) := by
 unfold rKey
 rw [rPlain_eq hF (by omega)]
 simp only [Option.isSome_some, ov, Option.getD_some, imp, Bool.or_true, chk, cond_true]
 cases h4 : decide (c.fKind = 4) with
 | false => rfl
 | true =>
  simp only [decide_eq_true_eq] at h4
  simp [pl, h4]
theorem at_drop {v : List TApiCell} {i : Int} {c : TApiCell} {r : List TApiCell} (h0 : 0 ≤ i) (h : v.drop i.toNat = c :: r) : at' v i = c := by
 have := (drop_get h0 h).1
 simp [at', this]
section
variable {M : Nat} {v : List TApiCell}
theorem rElements_lop {F : Nat} (hA : RfA F M v) {g : List TApiCell → Int → Option Int} {n : Int} (hn : n ≤ 9223372036854775807) : ∀ (L : Nat) (i x : Int), 0 ≤ i → i ≤ v.length → 0 ≤ x → x ≤ n → (∀ j, i ≤ j → j ≤ v.length → g v j = some (nxt v j)) → v.length - i.toNat < L →
  ∃ o, lop (fun σ => rElements_b1 v n g σ.1 σ.2) L (i, x) = some o ∧ oute (fun ν => rElements_k1 ν) o = some (nxts false none v i (n - x).toNat)
 | 0, i, x, _, _, _, _, _, h => by omega
 | L + 1, i, x, h0, h1, hx, hxn, hg, hL => by
  cases hxl : decide (x < n) with
  | false =>
   refine ⟨.go i, lop_o (by show rElements_b1 v n g i x = _; unfold rElements_b1; rw [cnd_ff hxl]), ?_⟩
   simp only [decide_eq_false_iff_not] at hxl
   rw [show (n - x).toNat = 0 from by omega]
   simp [oute, rElements_k1, nxts, prsF_zero, Fo.flat]
  | true =>
   have hb : rElements_b1 v n g i x = cnd (decide (nxt v i < 0)) (some (.out (.ret (-1)))) (chk (inK .i64 (x + 1)) <| some (.next (nxt v i, x + 1))) := by unfold rElements_b1; rw [cnd_tt hxl, hg i (Int.le_refl i) h1, obn_s rfl]
   simp only [decide_eq_true_eq] at hxl
   obtain ⟨k, hk⟩ : ∃ k, (n - x).toNat = k + 1 := ⟨(n - x).toNat - 1, by omega⟩
   rw [hk]
   have e : nxts false none v i (k + 1) = bif decide (nxt v i < 0) then -1 else nxts false none v (nxt v i) k := by
    unfold nxts
    rw [prsF_cons]
    simp only [prsK, cond_false]
    cases hp : prs1 (v.drop i.toNat) with
    | none => simp [nxt, hp]
    | some q =>
     obtain ⟨f, ys⟩ := q
     obtain ⟨q1, q2, q3⟩ := prs1_ok hp
     have hi : nxt v i = i + f.flat.length := by simp [nxt, hp]
     have hd : v.drop (nxt v i).toNat = ys := by rw [hi]; exact drop_app h0 q1
     rw [hd, decide_eq_false (by omega)]
     simp only [cond_false]
     cases hr : prsF false none k ys with
     | none => rfl
     | some q =>
      obtain ⟨r, zs⟩ := q
      simp only [put_flat q3, keyC, List.nil_append, List.length_append, hi]; omega
   rw [e]
   rcases nxt_range (v := v) h0 h1 with hneg | ⟨hlt, hle⟩
   ·exact ⟨.ret (-1), lop_o (hb.trans (by rw [hneg, cnd_tt (by decide)])), by rw [hneg]; rfl⟩
   ·have hM := hA.hM; have hvM := hA.hv
    obtain ⟨o, ho1, ho2⟩ := rElements_lop hA hn L (nxt v i) (x + 1) (by omega) hle (by omega) (by omega) (fun j hj => hg j (by omega)) (by omega)
    exact ⟨o, lop_n (hb.trans (by rw [cnd_ff (decide_eq_false (by omega)), chk_i64 (by omega) (by omega)])) ho1, by rw [ho2, show (n - (x + 1)).toNat = k from by omega, decide_eq_false (by omega)]; rfl⟩
theorem rPairs_lop {F : Nat} (hA : RfA F M v) {g : List TApiCell → Int → Option Int} {n : Int} (hn : n ≤ 9223372036854775807) : ∀ (L : Nat) (i x : Int) (last : Str), 0 ≤ i → i ≤ v.length → 0 ≤ x → x ≤ n → (∀ j, i ≤ j → j ≤ v.length → g v j = some (nxt v j)) → v.length - i.toNat < L →
  ∃ o, lop (fun σ => rPairs_b1 F v n g σ.1 σ.2.1 σ.2.2) L (i, last, x) = some o ∧ oute (fun ν => rPairs_k1 ν) o = some (nxts true (bif decide (0 < x) then some last else none) v i (n - x).toNat)
 | 0, i, x, _, _, _, _, _, _, h => by omega
 | L + 1, i, x, last, h0, h1, hx, hxn, hg, hL => by
  have hM := hA.hM; have hvM := hA.hv; have hMF := hA.hF
  cases hxl : decide (x < n) with
  | false =>
   refine ⟨.go i, lop_o (by show rPairs_b1 F v n g i last x = _; unfold rPairs_b1; rw [cnd_ff hxl]), ?_⟩
   simp only [decide_eq_false_iff_not] at hxl
   rw [show (n - x).toNat = 0 from by omega]
   simp [oute, rPairs_k1, nxts, prsF_zero, Fo.flat]
  | true =>
   have hxl' := hxl
   simp only [decide_eq_true_eq] at hxl
   obtain ⟨k, hk⟩ : ∃ k, (n - x).toNat = k + 1 := ⟨(n - x).toNat - 1, by omega⟩
   rw [hk]
   cases hd : v.drop i.toNat with
   | nil =>
    have hl : v.length ≤ i.toNat := by simpa using hd
    refine ⟨.ret (-1), lop_o (by
     show rPairs_b1 F v n g i last x = _
     unfold rPairs_b1
     rw [cnd_tt hxl', chk_t (by simp [imp, show (v.length : Int) ≤ i from by omega]), chk_t (by simp [imp, show (v.length : Int) ≤ i from by omega]), cnd_tt (by simp [show (v.length : Int) ≤ i from by omega])]), ?_⟩
    simp [oute, nxts, hd, prsF_cons, prsK]
   | cons c r =>
    obtain ⟨g1, g2, g3⟩ := drop_get h0 hd
    have hcM := hA.hc c (List.mem_of_getElem? g1)
    have hat := at_drop h0 hd
    have hnl : decide ((v.length : Int) ≤ i) = false := by simp; omega
    have hb : rPairs_b1 F v n g i last x = cnd (!(decide (c.fKind = 4) && pl c) || decide (0 < x) && (sLess c.fStr last || decide (c.fStr = last))) (some (.out (.ret (-1)))) (obn (g v (i + 1)) fun r106 => cnd (decide (r106 < 0)) (some (.out (.ret (-1)))) (chk (inK .i64 (x + 1)) <| some (.next (r106, c.fStr, x + 1)))) := by
     unfold rPairs_b1
     rw [cnd_tt hxl', chk_t (by simp only [imp]; rw [inR' h0 g3]; simp), hat, rKey_eq (by omega) (by omega), chk_t (by simp [imp])]
     simp only [hnl, ov, Option.getD_some, Bool.false_or]
     rw [chk_inR h0 g3, chk_i64 (by omega) (by omega)]
    have hpk : prsK true (bif decide (0 < x) then some last else none) (c :: r) = bif (!(decide (c.fKind = 4) && pl c) || decide (0 < x) && (sLess c.fStr last || decide (c.fStr = last))) then none else some (some c.fStr, r) := by
     simp only [prsK, cond_true]
     cases h4 : decide (c.fKind = 4) with
     | false => simp
     | true =>
      cases hp : pl c with
      | false => simp
      | true =>
       have hok := (pl_key hp (by simpa using h4)).2
       cases h0x : decide (0 < x) with
       | false => simp [keyOk, hok]
       | true => cases hs : (sLess c.fStr last || decide (c.fStr = last)) <;> simp [keyOk, hok, hs]
    cases ht : (!(decide (c.fKind = 4) && pl c) || decide (0 < x) && (sLess c.fStr last || decide (c.fStr = last))) with
    | true =>
     rw [ht] at hpk
     refine ⟨.ret (-1), lop_o (hb.trans (cnd_tt ht)), ?_⟩
     simp only [nxts, hd, prsF_cons, hpk, cond_true]; rfl
    | false =>
     rw [ht] at hpk
     rw [cnd_ff ht, hg (i + 1) (by omega) (by omega), obn_s rfl] at hb
     have e : nxts true (bif decide (0 < x) then some last else none) v i (k + 1) = bif decide (nxt v (i + 1) < 0) then -1 else nxts true (some c.fStr) v (nxt v (i + 1)) k := by
      unfold nxts
      rw [hd, prsF_cons, hpk]
      simp only [cond_false]
      have hx : nxt v (i + 1) = match prs1 r with | none => -1 | some (f, _) => i + 1 + f.flat.length := by unfold nxt; rw [g2]
      cases hp : prs1 r with
      | none => rw [hp] at hx; simp [hx]
      | some q =>
       obtain ⟨f, ys⟩ := q
       obtain ⟨q1, q2, q3⟩ := prs1_ok hp
       rw [hp] at hx
       simp only at hx
       have hd2 : v.drop (nxt v (i + 1)).toNat = ys := by rw [hx]; exact drop_app (by omega) (g2.trans q1)
       rw [hd2, decide_eq_false (by omega)]
       simp only [cond_false]
       cases hr : prsF true (some c.fStr) k ys with
       | none => rfl
       | some q =>
        obtain ⟨r', zs⟩ := q
        simp only [put_flat q3, keyC, List.length_append, List.length_cons, List.length_nil, hx]; omega
     rw [e]
     rcases nxt_range (v := v) (i := i + 1) (by omega) (by omega) with hneg | ⟨hlt, hle⟩
     ·exact ⟨.ret (-1), lop_o (hb.trans (by rw [hneg, cnd_tt (by decide)])), by rw [hneg]; rfl⟩
     ·obtain ⟨o, ho1, ho2⟩ := rPairs_lop hA hn L (nxt v (i + 1)) (x + 1) c.fStr (by omega) hle (by omega) (by omega) (fun j hj => hg j (by omega)) (by omega)
      exact ⟨o, lop_n (hb.trans (by rw [cnd_ff (decide_eq_false (by omega)), chk_i64 (by omega) (by omega)])) ho1, by rw [ho2, show (n - (x + 1)).toNat = k from by omega, decide_eq_true (show (0 : Int) < x + 1 from by omega), decide_eq_false (by omega)]; rfl⟩
theorem nxts_one {i : Int} {c : TApiCell} {r : List TApiCell} (h0 : 0 ≤ i) (hd : v.drop i.toNat = c :: r) (hp : pl c = true) : nxt v i = nxts (decide (c.fKind = 6)) none v (i + 1) c.fN.toNat := by
 have g2 := (drop_get h0 hd).2.1
 have hN := pl_N hp
 unfold nxt nxts
 rw [hd, prs1_cons, g2, hp]
 simp only [Bool.not_true, cond_false]
 cases hn : decide (0 < c.fN) with
 | true =>
  simp only [cond_true]
  cases hq : prsF (decide (c.fKind = 6)) none c.fN.toNat r with
  | none => rfl
  | some q =>
   obtain ⟨kids, zs⟩ := q
   simp only [Fo.flat, keyC, List.nil_append, List.length_cons, List.append_nil]; omega
 | false =>
  simp only [decide_eq_false_iff_not] at hn
  rw [show c.fN.toNat = 0 from by omega, prsF_zero]
  simp [Fo.flat, keyC]
theorem rNext_eq (hA : RfA (M + 1) M v) (hN : ∀ c ∈ v, c.fN ≤ 9223372036854775807) : ∀ (d F : Nat) (i : Int), 0 ≤ i → i ≤ v.length → v.length - i.toNat = d → M + 2 * d + 3 < F → rNext F v i = some (nxt v i) := by
 have hM := hA.hM; have hvM := hA.hv
 intro d
 induction d using Nat.strongRecOn with
 | ind d ih =>
  intro F i h0 h1 hd hF
  obtain ⟨F, rfl⟩ : ∃ G, F = G + 1 := ⟨F - 1, by omega⟩
  obtain ⟨F, rfl⟩ : ∃ G, F = G + 1 := ⟨F - 1, by omega⟩
  rw [rNext]
  unfold rNextm
  cases hdr : v.drop i.toNat with
  | nil =>
   have hl : v.length ≤ i.toNat := by simpa using hdr
   rw [cnd_tt (by simp; omega)]
   simp [nxt, hdr, prs1_nil]
  | cons c r =>
   obtain ⟨g1, g2, g3⟩ := drop_get h0 hdr
   have hcM := hA.hc c (List.mem_of_getElem? g1)
   have hcN := hN c (List.mem_of_getElem? g1)
   rw [cnd_ff (by simp; omega), chk_inR h0 g3, at_drop h0 hdr]
   simp only [rAfter_eq _ h0 (show i ≤ 1152921504606846976 by omega), Option.isSome_some, ov, Option.getD_some, imp, Bool.or_true, chk_t (x := _) (rfl : true = true)]
   have hg : ∀ j, i + 1 ≤ j → j ≤ v.length → rNext F v j = some (nxt v j) := fun j hj hj2 => ih (v.length - j.toNat) (by omega) F j (by omega) hj2 rfl (by omega)
   have hpl0 : pl c = false → nxt v i = -1 := fun hp => by simp [nxt, hdr, prs1_cons, hp]
   have hleaf : pl c = true → c.fN = 0 → nxt v i = i + 1 := fun hp h0' => by simp [nxt, hdr, prs1_cons, hp, h0', Fo.flat, keyC]
   have hscal : ∀ b : Bool, pl c = b → (b = true → c.fN = 0) → nxt v i = bif b then i + 1 else -1 := fun b hb hz => by
    cases b
    ·exact hpl0 hb
    ·exact hleaf hb (hz rfl)
   by_cases k1 : c.fKind = 1
   ·rw [cnd_tt (by simp [k1])]
    have hp : pl c = (decide (c.fInt = 0) && (decide (c.fStr = []) && decide (c.fN = 0))) := by simp [pl, k1]
    rw [hscal _ hp (fun h => by simp at h; exact h.2.2)]
    cases decide (c.fInt = 0) <;> cases decide (c.fStr = []) <;> cases decide (c.fN = 0) <;> rfl
   rw [cnd_ff (by simp [k1])]
   by_cases k2 : c.fKind = 2
   ·rw [cnd_tt (by simp [k2])]
    have hp : pl c = ((decide (c.fInt = 0) || decide (c.fInt = 1)) && (decide (c.fStr = []) && decide (c.fN = 0))) := by simp [pl, k2]
    rw [hscal _ hp (fun h => by simp at h; exact h.2.2)]
    cases decide (c.fInt = 0) <;> cases decide (c.fInt = 1) <;> cases decide (c.fStr = []) <;> cases decide (c.fN = 0) <;> rfl
   rw [cnd_ff (by simp [k2])]
   by_cases k3 : c.fKind = 3
   ·rw [cnd_tt (by simp [k3])]
    have hp : pl c = (decide (c.fStr = []) && decide (c.fN = 0)) := by simp [pl, k3]
    rw [hscal _ hp (fun h => by simp at h; exact h.2)]
    cases decide (c.fStr = []) <;> cases decide (c.fN = 0) <;> rfl
   rw [cnd_ff (by simp [k3])]
   by_cases k4 : c.fKind = 4
   ·rw [cnd_tt (by simp [k4]), rKey_eq (by omega) (by omega), obn_s rfl, obn_s rfl]
    rw [decide_eq_true k4, Bool.true_and, hscal (pl c) rfl (fun hp => by have := (pl_key hp k4).1; rw [this])]
   rw [cnd_ff (by simp [k4])]
   by_cases k5 : c.fKind = 5
   ·have hp : pl c = (decide (c.fInt = 0) && (decide (c.fStr = []) && decide (0 ≤ c.fN))) := by simp [pl, k5]
    rw [show (decide (c.fKind = 5) && (decide (c.fInt = 0) && (decide (c.fStr = []) && decide (0 ≤ c.fN)))) = pl c from by rw [hp, decide_eq_true k5, Bool.true_and]]
    have k5' : ¬ c.fKind = 6 := by omega
    cases hb : pl c with
    | false => rw [cnd_ff rfl, cnd_ff (by simp [k5]), hpl0 hb]
    | true =>
     have hn0 := pl_N hb
     rw [cnd_tt rfl, chk_i64 (by omega) (by omega), rElements]
     unfold rElementsm
     obtain ⟨o, ho1, ho2⟩ := rElements_lop (F := F) ⟨hM, hvM, by omega, hA.hc⟩ hcN F (i + 1) 0 (by omega) (by omega) (Int.le_refl 0) hn0 hg (by omega)
     rw [obn_s ho1, ho2, obn_s rfl, nxts_one h0 hdr hb, decide_eq_false k5', Int.sub_zero]
   rw [cnd_ff (by simp [k5])]
   by_cases k6 : c.fKind = 6
   ·have hp : pl c = (decide (c.fInt = 0) && (decide (c.fStr = []) && decide (0 ≤ c.fN))) := by simp [pl, k6]
    rw [show (decide (c.fKind = 6) && (decide (c.fInt = 0) && (decide (c.fStr = []) && decide (0 ≤ c.fN)))) = pl c from by rw [hp, decide_eq_true k6, Bool.true_and]]
    cases hb : pl c with
    | false => rw [cnd_ff rfl, hpl0 hb]
    | true =>
     have hn0 := pl_N hb
     rw [cnd_tt rfl, chk_i64 (by omega) (by omega), rPairs]
     unfold rPairsm
     obtain ⟨o, ho1, ho2⟩ := rPairs_lop (F := F) ⟨hM, hvM, by omega, hA.hc⟩ hcN F (i + 1) 0 [] (by omega) (by omega) (Int.le_refl 0) hn0 hg (by omega)
     rw [obn_s ho1, ho2, obn_s rfl, nxts_one h0 hdr hb, decide_eq_true k6, Int.sub_zero]
     rfl
   ·rw [cnd_ff (by simp [k6]), hpl0 (by simp [pl, k1, k2, k3, k4, k5, k6])]
theorem rFormed_eq (hA : RfA (M + 1) M v) (hN : ∀ c ∈ v, c.fN ≤ 9223372036854775807) {F : Nat} (hF : 3 * M + 3 < F) : rFormed F v = some (decide (nxt v 0 = v.length)) := by
 have hvM := hA.hv
 unfold rFormed
 rw [rNext_eq hA hN v.length F 0 (Int.le_refl 0) (by omega) (by simp) (by omega)]
 simp only [imp, Option.isSome_some, Bool.or_true, chk_t, ov, Option.getD_some]
 cases v with
 | nil => simp [nxt, prs1_nil]
 | cons c r =>
  rw [show decide (0 < ((c :: r).length : Int)) = true from by simp, Bool.true_and]
  rfl
end
end Go.Proofs.YtpmiamphppcfeaaGreatDoor

/-
 The plain reader reads each forest's cells; value.Check, and the reference's levels. Plain laws.
-/
namespace Go.Proofs.YtpmiamphppcfeaaGreatDoor
open Go
set_option linter.unusedVariables false
set_option linter.unusedSimpArgs false
theorem prsK_of {m : Bool} {last key : Option Str} {r : List TApiCell} (h : keyOk m last key = true) : prsK m last (keyC key ++ r) = some (key, r) := by
 cases key with
 | none =>
  have : m = false := by simpa [keyOk] using h
  subst this; rfl
 | some s =>
  have h' := h
  simp only [keyOk, Bool.and_eq_true] at h
  obtain ⟨⟨h1, h2⟩, h3⟩ := h
  subst h1
  have hp : pl ⟨4, 0, s, 0⟩ = true := by simp [pl, h2]
  show (bif pl ⟨4, 0, s, 0⟩ && decide ((4 : Int) = 4) && keyOk true last (some s) then _ else _) = _
  rw [hp, h']; rfl
theorem prsF_of : ∀ (f : Fo) (m : Bool) (last : Option Str) (ys : List TApiCell), f.wf m last = true → prsF m last f.cnt (f.flat ++ ys) = some (f, ys)
 | .nil, _, _, _, _ => rfl
 | .cell k c r, m, last, ys, hw => by
  simp only [Fo.wf, Bool.and_eq_true, Bool.not_eq_true'] at hw
  obtain ⟨⟨⟨w1, w2⟩, w3⟩, w4⟩ := hw
  simp only [Fo.cnt, Fo.flat, List.append_assoc, List.cons_append]
  rw [prsF_cons, prsK_of w1]
  simp only [prs1_cons, w2, w3, Bool.not_true, cond_false, prsF_of r m k ys w4, Fo.put]
 | .node k c kids r, m, last, ys, hw => by
  simp only [Fo.wf, Bool.and_eq_true, decide_eq_true_eq] at hw
  obtain ⟨⟨⟨⟨⟨w1, w2⟩, w3⟩, w5⟩, w6⟩, w4⟩ := hw
  simp only [Fo.cnt, Fo.flat, List.append_assoc, List.cons_append]
  rw [prsF_cons, prsK_of w1]
  have e : c.fN.toNat = kids.cnt := by omega
  simp only [prs1_cons, w2, decide_eq_true w3, Bool.not_true, cond_false, cond_true, e, prsF_of kids _ none (r.flat ++ ys) w6, prsF_of r m k ys w4, Fo.put]
theorem prs1_of {f : Fo} {ys : List TApiCell} (h1 : f.one = true) (hw : f.wf false none = true) : prs1 (f.flat ++ ys) = some (f, ys) := by
 have := prsF_of f false none ys hw
 have hc : f.cnt = 1 := by
  cases f with
  | nil => cases h1
  | cell k c r => cases k with
   | some _ => cases h1
   | none => cases r with
    | nil => rfl
    | _ => cases h1
  | node k c kids r => cases k with
   | some _ => cases h1
   | none => cases r with
    | nil => rfl
    | _ => cases h1
 rw [hc] at this
 exact this
structure CkA (M : Nat) (v : List TApiCell) : Prop where
 hM : M ≤ 1000000000
 hv : v.length ≤ M
 hc : ∀ c ∈ v, c.fStr.length ≤ M ∧ inK .i64 c.fInt = true ∧ c.fN ≤ 9223372036854775807
theorem CkA.lk {M F : Nat} {v : List TApiCell} (h : CkA M v) (hF : M < F) : LkA F M v := ⟨by have := h.hM; omega, by have := h.hM; omega, h.hv, hF, h.hc⟩
theorem CkA.rf {M F : Nat} {v : List TApiCell} (h : CkA M v) (hF : M < F) : RfA F M v := ⟨by have := h.hM; omega, h.hv, hF, fun c hc => (h.hc c hc).1⟩
theorem CkA.drop {M : Nat} {v : List TApiCell} (h : CkA M v) (k : Nat) : CkA M (v.drop k) := ⟨h.hM, by have := h.hv; rw [List.length_drop]; omega, fun c hc => h.hc c (List.mem_of_mem_drop hc)⟩
theorem CkA.take {M : Nat} {v : List TApiCell} (h : CkA M v) (k : Nat) : CkA M (v.take k) := ⟨h.hM, by have := h.hv; rw [List.length_take]; omega, fun c hc => h.hc c (List.mem_of_mem_take hc)⟩
def whole (v : List TApiCell) : Option Fo := match prs1 v with
 | some (f, []) => some f
 | _ => none
theorem whole_some {v : List TApiCell} {f : Fo} (h : whole v = some f) : v = f.flat ∧ f.wf false none = true ∧ f.one = true := by
 unfold whole at h
 cases hp : prs1 v with
 | none => rw [hp] at h; cases h
 | some q =>
  obtain ⟨g, ys⟩ := q
  rw [hp] at h
  cases ys with
  | cons _ _ => cases h
  | nil =>
   cases h
   obtain ⟨h1, h2, h3⟩ := prs1_ok hp
   exact ⟨by simpa using h1, h2, h3⟩
theorem whole_of {f : Fo} (h1 : f.one = true) (hw : f.wf false none = true) : whole f.flat = some f := by
 have := prs1_of (ys := []) h1 hw
 rw [List.append_nil] at this
 simp [whole, this]
def errF (f : Fo) : Int :=
 bif f.flat.any outC then 2 else bif f.flat.any longC || (decide (200 < f.flat.length) || (decide (8 < f.dep) || decide (4000 < (f.txt true).length))) then 3 else 0
def errV (v : List TApiCell) : Int := match whole v with
 | none => 1
 | some f => errF f
theorem one_cnt {f : Fo} (h1 : f.one = true) : f.cnt = 1 := by
 cases f with
 | nil => cases h1
 | cell k c r => cases k with
  | some _ => cases h1
  | none => cases r with
   | nil => rfl
   | _ => cases h1
 | node k c kids r => cases k with
  | some _ => cases h1
  | none => cases r with
   | nil => rfl
   | _ => cases h1
theorem qlen_le (s : Str) : qlen s ≤ 2 * s.length + 2 + s.length := by
 have h1 : s.count 34 ≤ s.length := List.count_le_length
 have h2 : s.count 92 ≤ s.length := List.count_le_length
 unfold qlen; omega
theorem lsz_le {c : TApiCell} {M : Nat} (hp : pl c = true) (hs : c.fStr.length ≤ M) (hi : (Lib.itoa c.fInt).length ≤ 21) : lsz c ≤ 3 * M + 21 := by
 have := qlen_le c.fStr
 unfold lsz
 cases h1 : decide (c.fKind = 1) with
 | true => simp only [cond_true]; omega
 | false =>
  cases h2 : decide (c.fKind = 2) with
  | true =>
   simp [pl, h1, h2] at hp
   simp only [cond_false, cond_true]; omega
  | false =>
   cases h3 : decide (c.fKind = 3) with
   | true => simp only [cond_false, cond_true]; omega
   | false => cases h4 : decide (c.fKind = 4) <;> simp only [cond_false, cond_true] <;> omega
theorem byt_le {M : Nat} : ∀ {f : Fo} {m : Bool} {l : Option Str}, f.wf m l = true → (∀ c ∈ f.flat, c.fStr.length ≤ M ∧ inK .i64 c.fInt = true ∧ c.fN ≤ 9223372036854775807) → f.byt + f.cnt ≤ (3 * M + 24) * f.flat.length
 | .nil, _, _, _, _ => by simp [Fo.byt, Fo.flat, Fo.cnt]
 | .cell k c r, m, l, hw, hc => by
  simp only [Fo.wf, Bool.and_eq_true, Bool.not_eq_true'] at hw
  obtain ⟨⟨⟨w1, w2⟩, w3⟩, w4⟩ := hw
  simp only [Fo.flat] at hc
  have ih := byt_le w4 (fun x hx => hc x (by simp [hx]))
  obtain ⟨c1, c2, c3⟩ := hc c (by simp)
  have i64 := inK_i64 c2
  have hl := lsz_le w2 c1 (Lib.itoa_length_le c.fInt i64.1 i64.2)
  have hk : kbn k ≤ (3 * M + 24) * (keyC k).length := by
   cases k with
   | none => simp [kbn, keyC]
   | some s =>
    have := (hc ⟨4, 0, s, 0⟩ (by simp [keyC])).1
    have h2 := qlen_le s
    simp only at this
    simp only [kbn, keyC, List.length_singleton]; omega
  simp only [Fo.byt, Fo.flat, Fo.cnt, List.length_append, List.length_cons]
  have e : ((3 * (M : Int) + 24) * (((keyC k).length + (r.flat.length + 1) : Nat) : Int)) = (3 * (M : Int) + 24) * (keyC k).length + ((3 * (M : Int) + 24) * r.flat.length + (3 * (M : Int) + 24)) := by
   push_cast; rw [Int.mul_add, Int.mul_add, Int.mul_one]
  rw [e]
  push_cast at *
  omega
 | .node k c kids r, m, l, hw, hc => by
  simp only [Fo.wf, Bool.and_eq_true, decide_eq_true_eq] at hw
  obtain ⟨⟨⟨⟨⟨w1, w2⟩, w3⟩, w5⟩, w6⟩, w4⟩ := hw
  simp only [Fo.flat] at hc
  have ih := byt_le w4 (fun x hx => hc x (by simp [hx]))
  have ih2 := byt_le w6 (fun x hx => hc x (by simp [hx]))
  have hcf := cnt_le_flat kids
  have hk : kbn k ≤ (3 * M + 24) * (keyC k).length := by
   cases k with
   | none => simp [kbn, keyC]
   | some s =>
    have := (hc ⟨4, 0, s, 0⟩ (by simp [keyC])).1
    have h2 := qlen_le s
    simp only at this
    simp only [kbn, keyC, List.length_singleton]; omega
  simp only [Fo.byt, Fo.flat, Fo.cnt, List.length_append, List.length_cons]
  have e : ((3 * (M : Int) + 24) * (((keyC k).length + (kids.flat.length + r.flat.length + 1) : Nat) : Int)) = (3 * (M : Int) + 24) * (keyC k).length + ((3 * (M : Int) + 24) * kids.flat.length + (3 * (M : Int) + 24) * r.flat.length + (3 * (M : Int) + 24)) := by
   push_cast; rw [Int.mul_add, Int.mul_add, Int.mul_add, Int.mul_one]
  rw [e]
  push_cast at *
  omega
theorem byt_bound {M : Nat} (hM : M ≤ 1000000) {f : Fo} {m : Bool} {l : Option Str} (hw : f.wf m l = true) (hl : f.flat.length ≤ M) (hc : ∀ c ∈ f.flat, c.fStr.length ≤ M ∧ inK .i64 c.fInt = true ∧ c.fN ≤ 9223372036854775807) : f.byt ≤ 4000000000000 := by
 have := byt_le (M := M) hw hc
 have h2 : (3 * M + 24) * f.flat.length ≤ (3 * 1000000 + 24) * 1000000 := Nat.mul_le_mul (by omega) (by omega)
 have h3 : (((3 * M + 24) * f.flat.length : Nat) : Int) = (3 * (M : Int) + 24) * f.flat.length := by push_cast; rfl
 omega
theorem vCheck_eq {M F : Nat} {v : List TApiCell} (hA : CkA M v) (hM : M ≤ 1000000) (hF : M < F) : vCheck F v = some (errV v) := by
 unfold vCheck errV whole
 have hvM := hA.hv
 rcases look_eq (hA.lk hF) with ⟨f, ys, hp, hl⟩ | ⟨hp, sh', hl⟩
 ·rw [hl, obn_s rfl, hp]
  obtain ⟨h1, h2, h3⟩ := prs1_ok hp
  have hlen : v.length = f.flat.length + ys.length := by rw [h1]; simp
  cases ys with
  | cons c r =>
   rw [cnd_tt]
   simp only [List.length_cons] at hlen
   simp; omega
  | nil =>
   simp only [List.length_nil, Nat.add_zero] at hlen
   rw [cnd_ff (by simp [hlen])]
   have hc : ∀ c ∈ f.flat, c.fStr.length ≤ M ∧ inK .i64 c.fInt = true ∧ c.fN ≤ 9223372036854775807 := fun c hc => hA.hc c (by rw [h1]; simp [hc])
   have hb := byt_bound hM h2 (by omega) hc
   have hb0 := byt_pos h2
   have e1 : (f.sh 0 sh0).fOutside = f.flat.any outC := by rw [sh_out]; rfl
   have e2 : (f.sh 0 sh0).fLong = f.flat.any longC := by rw [sh_long]; rfl
   have e3 : (f.sh 0 sh0).fDepth = f.dep := by rw [sh_depth f 0 sh0 (by simp [sh0])]; simp [sh0]
   have e4 : (f.sh 0 sh0).fBytes = (f.txt true).length := by
    rw [sh_bytes f false none 0 sh0 h2 (by simp [sh0]) (by simp [sh0]; omega), txt_len f false none true h2, one_cnt h3]; simp [sh0]
   simp only
   rw [e1, e2, e3, e4, hlen]
   unfold errF
   cases f.flat.any outC with
   | true => rw [cnd_tt rfl]; rfl
   | false =>
    rw [cnd_ff rfl]
    have a1 : decide ((200 : Int) < (f.flat.length : Int)) = decide (200 < f.flat.length) := by rw [Bool.eq_iff_iff]; simp; omega
    have a2 : decide ((8 : Int) < (f.dep : Int)) = decide (8 < f.dep) := by rw [Bool.eq_iff_iff]; simp; omega
    have a3 : decide ((4000 : Int) < ((f.txt true).length : Int)) = decide (4000 < (f.txt true).length) := by rw [Bool.eq_iff_iff]; simp; omega
    rw [a1, a2, a3]
    cases (f.flat.any longC || (decide (200 < f.flat.length) || (decide (8 < f.dep) || decide (4000 < (f.txt true).length)))) <;> rfl
 ·rw [hl, obn_s rfl, hp]; rfl
end Go.Proofs.YtpmiamphppcfeaaGreatDoor

/-
 The reference's levels and texts of a forest. Plain laws.
-/
namespace Go.Proofs.YtpmiamphppcfeaaGreatDoor
open Go
set_option linter.unusedVariables false
set_option linter.unusedSimpArgs false
theorem nxt_of {v : List TApiCell} {p : Int} {f : Fo} {ys : List TApiCell} (h1 : f.one = true) (hw : f.wf false none = true) (hd : v.drop p.toNat = f.flat ++ ys) : nxt v p = p + f.flat.length := by
 unfold nxt
 rw [hd, prs1_of h1 hw]
theorem wf_leaf {c : TApiCell} (hp : pl c = true) (hn : decide (0 < c.fN) = false) : (Fo.cell none c .nil).wf false none = true := by simp [Fo.wf, keyOk, hp, hn]
theorem wf_node {c : TApiCell} {kids : Fo} (hp : pl c = true) (hn : 0 < c.fN) (hk : c.fN = kids.cnt) (hw : kids.wf (decide (c.fKind = 6)) none = true) : (Fo.node none c kids .nil).wf false none = true := by simp [Fo.wf, keyOk, hp, hn, hk, hw]; omega
section
variable {M : Nat} {v : List TApiCell}
theorem CkA.next (hA : CkA M v) {F : Nat} (hF : 3 * M + 3 < F) {p : Int} (h0 : 0 ≤ p) (h1 : p ≤ v.length) : rNext F v p = some (nxt v p) := by
 have hM := hA.hM; have hvM := hA.hv
 exact rNext_eq (hA.rf (Nat.lt_succ_self M)) (fun c hc => (hA.hc c hc).2.2) (v.length - p.toNat) F p h0 h1 rfl (by omega)
theorem rLevels_leaf {F : Nat} {p : Int} {c : TApiCell} {r : List TApiCell} (h0 : 0 ≤ p) (hpM : p ≤ 1152921504606846976) (hd : v.drop p.toNat = c :: r) (hp : pl c = true) (hn : decide (0 < c.fN) = false) : rLevels (F + 2) v p = some 1 := by
 obtain ⟨g1, g2, g3⟩ := drop_get h0 hd
 rw [rLevels]
 unfold rLevelsm
 rw [chk_inR h0 g3, at_drop h0 hd]
 cases hk : (!decide (c.fKind = 5) && !decide (c.fKind = 6)) with
 | true => rw [cnd_tt rfl]
 | false =>
  rw [cnd_ff rfl, chk_i64 (by omega) (by omega), obn_s (lop_o (o := .go 0) (by
   show rLevels_b1 (F + 1) v p _ 0 (p + 1) 0 = _
   unfold rLevels_b1
   rw [at_drop h0 hd, cnd_ff hn]))]
  simp only [oute, rLevels_k1]
  rw [chk_i64 (by omega) (by omega)]; rfl
theorem rLev_body {F : Nat} {i : Int} {rec : List TApiCell → Int → Option Int} {most at_ x L : Int} {m : Bool} {p q : Int} {pc : TApiCell} (hpc : at' v i = pc) (hm : decide (pc.fKind = 6) = m) (hx : x < pc.fN) (hx0 : 0 ≤ x) (hpcN : pc.fN ≤ 9223372036854775807)
  (ha0 : 0 ≤ at_) (haM : at_ ≤ 1152921504606846976) (hp : p = bif m then at_ + 1 else at_) (hr : rec v p = some L) (hq : rNext F v p = some q) : rLevels_b1 F v i rec most at_ x = some (.next (max most L, q, x + 1)) := by
 unfold rLevels_b1
 rw [hpc, cnd_tt (by simpa using hx), hm]
 cases m with
 | true =>
  simp only [cond_true] at hp
  rw [cnd_tt rfl, chk_i64 (by omega) (by omega), ← hp, hr, obn_s rfl]
  cases hl : decide (most < L) with
  | true => rw [cnd_tt rfl, hq, obn_s rfl, chk_i64 (by omega) (by omega), Int.max_eq_right (by simp at hl; omega)]
  | false => rw [cnd_ff rfl, hq, obn_s rfl, chk_i64 (by omega) (by omega), Int.max_eq_left (by simp at hl; omega)]
 | false =>
  simp only [cond_false] at hp
  rw [cnd_ff rfl, ← hp, hr, obn_s rfl]
  cases hl : decide (most < L) with
  | true => rw [cnd_tt rfl, hq, obn_s rfl, chk_i64 (by omega) (by omega), Int.max_eq_right (by simp at hl; omega)]
  | false => rw [cnd_ff rfl, hq, obn_s rfl, chk_i64 (by omega) (by omega), Int.max_eq_left (by simp at hl; omega)]
theorem key_len {m : Bool} {last key : Option Str} (h : keyOk m last key = true) : ((keyC key).length : Int) = bif m then 1 else 0 := by
  cases key with
  | none => have : m = false := by simpa [keyOk] using h
            subst this; rfl
  | some s => simp only [keyOk, Bool.and_eq_true] at h; rw [h.1.1]; rfl
theorem rLev_forest (hA : CkA M v) : ∀ (g : Fo) (F L : Nat) (i at_ x most : Int) (m : Bool) (last : Option Str) (ys : List TApiCell) (pc : TApiCell), at' v i = pc → decide (pc.fKind = 6) = m → pc.fN ≤ 9223372036854775807 → g.wf m last = true → v.drop at_.toNat = g.flat ++ ys → 0 ≤ at_ → at_ ≤ v.length → pc.fN = x + g.cnt → 0 ≤ x → 0 ≤ most → most ≤ 1152921504606846976 → g.cnt < L → 3 * M + 5 + g.flat.length < F →
  ∃ o, lop (fun σ => rLevels_b1 F v i (rLevels F) σ.1 σ.2.1 σ.2.2) L (most, at_, x) = some o ∧ oute (fun ν => rLevels_k1 ν) o = some (max most (g.dep : Int) + 1) := by
 have hM := hA.hM; have hvM := hA.hv
 have fin : ∀ (F L : Nat) (i at_ x most : Int) (pc : TApiCell), at' v i = pc → pc.fN ≤ x → 0 ≤ most → most ≤ 1152921504606846976 → 0 < L → ∃ o, lop (fun σ => rLevels_b1 F v i (rLevels F) σ.1 σ.2.1 σ.2.2) L (most, at_, x) = some o ∧ oute (fun ν => rLevels_k1 ν) o = some (most + 1) := fun F L i at_ x most pc hpc hx h0 hb hL => by
  obtain ⟨L, rfl⟩ : ∃ K, L = K + 1 := ⟨L - 1, by omega⟩
  refine ⟨.go most, lop_o (by show rLevels_b1 F v i _ most at_ x = _; unfold rLevels_b1; rw [hpc, cnd_ff (by simp; omega)]), ?_⟩
  simp only [oute, rLevels_k1]
  rw [chk_i64 (by omega) (by omega)]
 have depM : ∀ g : Fo, g.dep ≤ g.flat.length := by
  intro g
  induction g with
  | nil => simp [Fo.dep]
  | cell k c r ih => simp [Fo.dep, Fo.flat]; omega
  | node k c kids r ih1 ih2 => simp [Fo.dep, Fo.flat]; omega
 intro g
 induction g with
 | nil =>
  intro F L i at_ x most m last ys pc hpc hm hpN hw hd h0 h1 hN hx hmo hmM hL hF
  obtain ⟨o, h1, h2⟩ := fin F L i at_ x most pc hpc (by simp [Fo.cnt] at hN; omega) hmo hmM (by omega)
  exact ⟨o, h1, by rw [h2]; simp only [Fo.dep]; congr 2 <;> omega⟩
 | cell k c r ih =>
  intro F L i at_ x most m last ys pc hpc hm hpN hw hd h0 h1 hN hx hmo hmM hL hF
  simp only [Fo.wf, Bool.and_eq_true, Bool.not_eq_true'] at hw
  obtain ⟨⟨⟨w1, w2⟩, w3⟩, w4⟩ := hw
  simp only [Fo.flat, List.append_assoc, List.cons_append] at hd
  simp only [Fo.cnt] at hN hL
  simp only [Fo.flat, List.length_append, List.length_cons] at hF
  obtain ⟨L, rfl⟩ : ∃ K, L = K + 1 := ⟨L - 1, by omega⟩
  obtain ⟨F, rfl⟩ : ∃ K, F = K + 2 := ⟨F - 2, by omega⟩
  have hd1 := drop_app h0 hd
  have hkl := key_len w1
  obtain ⟨g1, g2, g3⟩ := drop_get (by omega) hd1
  have hlen : at_ + (keyC k).length = bif m then at_ + 1 else at_ := by rw [hkl]; cases m <;> simp
  have hq := hA.next (F := F + 2) (by omega) (p := at_ + (keyC k).length) (by omega) (by omega)
  rw [nxt_of (f := .cell none c .nil) (ys := r.flat ++ ys) rfl (wf_leaf w2 w3) hd1] at hq
  have hb := rLev_body (most := most) (x := x) hpc hm (by omega) hx hpN h0 (by omega) hlen (rLevels_leaf (F := F) (by omega) (by omega) hd1 w2 w3) hq
  have hdd := depM r
  obtain ⟨o, ho1, ho2⟩ := ih (F + 2) L i (at_ + (keyC k).length + ((Fo.cell none c .nil).flat.length : Int)) (x + 1) (max most 1) m k ys pc hpc hm hpN w4 (by rw [show (Fo.cell none c .nil).flat.length = 1 from rfl]; exact g2) (by omega) (by rw [show (Fo.cell none c .nil).flat.length = 1 from rfl]; omega) (by omega) (by omega) (by omega) (by omega) (by omega) (by omega)
  refine ⟨o, lop_n hb ho1, ?_⟩
  rw [ho2, Fo.dep]; congr 2 <;> omega
 | node k c kids r ihk ih =>
  intro F L i at_ x most m last ys pc hpc hm hpN hw hd h0 h1 hN hx hmo hmM hL hF
  simp only [Fo.wf, Bool.and_eq_true, decide_eq_true_eq] at hw
  obtain ⟨⟨⟨⟨⟨w1, w2⟩, w3⟩, w5⟩, w6⟩, w4⟩ := hw
  simp only [Fo.flat, List.append_assoc, List.cons_append] at hd
  simp only [Fo.cnt] at hN hL
  simp only [Fo.flat, List.length_append, List.length_cons] at hF
  obtain ⟨L, rfl⟩ : ∃ K, L = K + 1 := ⟨L - 1, by omega⟩
  obtain ⟨F, rfl⟩ : ∃ K, F = K + 1 := ⟨F - 1, by omega⟩
  have hd1 := drop_app h0 hd
  have hkl := key_len w1
  obtain ⟨g1, g2, g3⟩ := drop_get (by omega) hd1
  have hcN := (hA.hc c (List.mem_of_getElem? g1)).2.2
  have hlen : at_ + (keyC k).length = bif m then at_ + 1 else at_ := by rw [hkl]; cases m <;> simp
  have hq := hA.next (F := F + 1) (by omega) (p := at_ + (keyC k).length) (by omega) (by omega)
  have hfl : (Fo.node none c kids .nil).flat = c :: kids.flat := by simp [Fo.flat, keyC]
  rw [nxt_of (f := .node none c kids .nil) (ys := r.flat ++ ys) rfl (wf_node w2 w3 w5 w6) (by rw [hd1, hfl]; simp)] at hq
  have hdk := depM kids
  have hdd := depM r
  have hcf := cnt_le_flat kids
  have hvl : (v.drop (at_ + (keyC k).length + 1).toNat).length = kids.flat.length + (r.flat.length + ys.length) := by rw [g2]; simp
  rw [List.length_drop] at hvl
  have hrec : rLevels (F + 1) v (at_ + (keyC k).length) = some ((kids.dep : Int) + 1) := by
   rw [rLevels]
   unfold rLevelsm
   rw [chk_inR (by omega) g3, at_drop (by omega) hd1]
   have hk56 := (pl_node w2 w3).1
   rw [cnd_ff (by simp; omega), chk_i64 (by omega) (by omega)]
   obtain ⟨o, ho1, ho2⟩ := ihk F F (at_ + (keyC k).length) (at_ + (keyC k).length + 1) 0 0 _ none (r.flat ++ ys) c (at_drop (by omega) hd1) rfl hcN w6 (by rw [g2]) (by omega) (by omega) (by omega) (Int.le_refl 0) (Int.le_refl 0) (by omega) (by omega) (by omega)
   rw [obn_s ho1, ho2]; congr 2 <;> omega
  have hb := rLev_body (most := most) (x := x) hpc hm (by omega) hx hpN h0 (by omega) hlen hrec hq
  obtain ⟨o, ho1, ho2⟩ := ih (F + 1) L i (at_ + (keyC k).length + ((Fo.node none c kids .nil).flat.length : Int)) (x + 1) (max most ((kids.dep : Int) + 1)) m k ys pc hpc hm hpN w4 (by
   have := drop_app (by omega) g2
   rw [hfl, List.length_cons, show at_ + (keyC k).length + ((kids.flat.length + 1 : Nat) : Int) = at_ + (keyC k).length + 1 + kids.flat.length from by omega]; exact this) (by omega) (by rw [hfl, List.length_cons]; omega) (by omega) (by omega) (by omega) (by omega) (by omega) (by omega)
  refine ⟨o, lop_n hb ho1, ?_⟩
  rw [ho2, Fo.dep]; congr 2 <;> omega
theorem rLevels_eq (hA : CkA M v) {F : Nat} {p : Int} {f : Fo} {ys : List TApiCell} (h0 : 0 ≤ p) (h1 : f.one = true) (hw : f.wf false none = true) (hd : v.drop p.toNat = f.flat ++ ys) (hF : 3 * M + 6 + f.flat.length < F) : rLevels F v p = some (f.dep : Int) := by
 have hM := hA.hM; have hvM := hA.hv
 cases f with
 | nil => cases h1
 | cell k c r =>
  cases k with
  | some s => cases h1
  | none =>
   cases r with
   | nil =>
    simp only [Fo.wf, Bool.and_eq_true, Bool.not_eq_true'] at hw
    obtain ⟨F, rfl⟩ : ∃ K, F = K + 2 := ⟨F - 2, by omega⟩
    have hd' : v.drop p.toNat = c :: ys := by simpa [Fo.flat, keyC] using hd
    rw [rLevels_leaf h0 (by have := (drop_get h0 hd').2.2; omega) hd' hw.1.1.2 hw.1.2]; rfl
   | cell _ _ _ => cases h1
   | node _ _ _ _ => cases h1
 | node k c kids r =>
  cases k with
  | some s => cases h1
  | none =>
   cases r with
   | nil =>
    simp only [Fo.wf, Bool.and_eq_true, decide_eq_true_eq] at hw
    obtain ⟨⟨⟨⟨⟨w1, w2⟩, w3⟩, w5⟩, w6⟩, w4⟩ := hw
    have hd' : v.drop p.toNat = c :: (kids.flat ++ ys) := by simpa [Fo.flat, keyC] using hd
    obtain ⟨g1, g2, g3⟩ := drop_get h0 hd'
    have hcN := (hA.hc c (List.mem_of_getElem? g1)).2.2
    have hcf := cnt_le_flat kids
    simp only [Fo.flat, keyC, List.nil_append, List.append_nil, List.length_cons] at hF
    obtain ⟨F, rfl⟩ : ∃ K, F = K + 1 := ⟨F - 1, by omega⟩
    rw [rLevels]
    unfold rLevelsm
    have hk56 := (pl_node w2 w3).1
    rw [chk_inR h0 g3, at_drop h0 hd', cnd_ff (by simp; omega), chk_i64 (by omega) (by omega)]
    obtain ⟨o, ho1, ho2⟩ := rLev_forest hA kids F F p (p + 1) 0 0 _ none ys c (at_drop h0 hd') rfl hcN w6 g2 (by omega) (by omega) (by omega) (Int.le_refl 0) (Int.le_refl 0) (by omega) (by omega) (by omega)
    rw [obn_s ho1, ho2]; simp only [Fo.dep]; congr 1 <;> omega
   | cell _ _ _ => cases h1
   | node _ _ _ _ => cases h1
end
end Go.Proofs.YtpmiamphppcfeaaGreatDoor

/-
 The reference's text of a forest. Plain laws.
-/
namespace Go.Proofs.YtpmiamphppcfeaaGreatDoor
open Go
set_option linter.unusedVariables false
set_option linter.unusedSimpArgs false
def esc1 (c : UInt8) : Str := bif (decide (c = 34) || decide (c = 92)) then [92, c] else [c]
theorem escS_snoc {s : Str} {k : Nat} {c : UInt8} (h : s[k]? = some c) : escS (s.take (k + 1)) = escS (s.take k) ++ esc1 c := by
 rw [List.take_add_one, h]
 simp [escS, List.flatMap_append, esc1]
theorem escS_len_le (s : Str) : (escS s).length ≤ 3 * s.length := by
 rw [escS_len]
 have h1 : s.count 34 ≤ s.length := List.count_le_length
 have h2 : s.count 92 ≤ s.length := List.count_le_length
 omega
theorem take1_drop {s : Str} {x : Int} {c : UInt8} (h0 : 0 ≤ x) (h : s[x.toNat]? = some c) : List.take (Int.toNat (x + 1) - Int.toNat x) (List.drop (Int.toNat x) s) = [c] := by
 have hl := (List.getElem?_eq_some_iff.1 h).1
 have hc := (List.getElem?_eq_some_iff.1 h).2
 rw [show Int.toNat (x + 1) - Int.toNat x = 1 from by omega, List.drop_eq_getElem_cons hl, hc]; rfl
theorem bat34 {s : Str} {x : Int} {c : UInt8} (h : s[x.toNat]? = some c) : decide (bat s x = 34) = decide (c = 34) := by
 rw [bat_get h, Bool.eq_iff_iff, decide_eq_true_iff, decide_eq_true_iff, ← UInt8.toNat_inj]
 show _ ↔ c.toNat = 34
 omega
theorem bat92 {s : Str} {x : Int} {c : UInt8} (h : s[x.toNat]? = some c) : decide (bat s x = 92) = decide (c = 92) := by
 rw [bat_get h, Bool.eq_iff_iff, decide_eq_true_iff, decide_eq_true_iff, ← UInt8.toNat_inj]
 show _ ↔ c.toNat = 92
 omega
theorem rQuoted_step {s out : Str} {x : Int} {c : UInt8} (h0 : 0 ≤ x) (hx : x < (s.length : Int)) (hs : s.length ≤ 1152921504606846976) (ho : out.length ≤ 3 * s.length + 1) (hc : s[x.toNat]? = some c) : rQuoted_b1 s out x = some (.next (out ++ esc1 c, x + 1)) := by
 unfold rQuoted_b1 esc1
 rw [cnd_tt (decide_eq_true hx), chk_inR h0 hx, bat34 hc, bat92 hc, take1_drop h0 hc]
 have l1 : (([92] : Str).length : Int) = 1 := rfl
 have l2 : (([c] : Str).length : Int) = 1 := rfl
 cases hq : (decide (c = 34) || decide (c = 92)) with
 | true =>
  have l3 : ((out ++ ([92] : Str)).length : Int) = out.length + 1 := by rw [List.length_append, List.length_singleton, Int.natCast_add]; rfl
  rw [cnd_tt rfl, l1, l2, l3, chk_i64 (by omega) (by omega), chk_i64 (by omega) (by omega), chk_inC (by omega) (by omega), chk_inC (by omega) (by omega), chk_i64 (by omega) (by omega), List.append_assoc]
  rfl
 | false =>
  rw [cnd_ff rfl, l2, chk_i64 (by omega) (by omega), chk_inC (by omega) (by omega), chk_inC (by omega) (by omega), chk_i64 (by omega) (by omega)]
  rfl
theorem oute_go {R V : Type} (K : V → Option R) (v : V) : oute K (.go v) = K v := rfl
theorem oute_ret {R V : Type} (K : V → Option R) (r : R) : oute K (.ret r) = some r := rfl
theorem rQuoted_end {s out : Str} {x : Int} (hx : ¬ x < (s.length : Int)) : rQuoted_b1 s out x = some (.out (.go out)) := by
 unfold rQuoted_b1
 rw [cnd_ff (decide_eq_false hx)]
theorem rQuoted_k {out : Str} (h : out.length ≤ 4611686018427387904) : rQuoted_k1 out = some (out ++ [34]) := by
 unfold rQuoted_k1
 have l1 : (([34] : Str).length : Int) = 1 := rfl
 rw [l1, chk_i64 (by omega) (by omega)]
theorem rQuoted_eq {F : Nat} {s : Str} (hF : s.length < F) (hs : s.length ≤ 1152921504606846976) : rQuoted F s = some (quoS s) := by
 obtain ⟨o, h1, h2⟩ := lop_ind (body := fun σ => rQuoted_b1 s σ.1 σ.2) (fun σ => 0 ≤ σ.2 ∧ σ.2 ≤ (s.length : Int) ∧ σ.1 = 34 :: escS (s.take σ.2.toNat)) (fun σ => s.length - σ.2.toNat)
  (fun o => oute (fun ν => rQuoted_k1 ν) o = some (quoS s)) (fun σ ⟨h0, hl, ha⟩ => by
   obtain ⟨out, x⟩ := σ
   simp only at h0 hl ha
   show (∃ s', rQuoted_b1 s out x = _ ∧ _) ∨ ∃ o, rQuoted_b1 s out x = _ ∧ _
   have hb := escS_len_le (s.take x.toNat)
   have hb2 : (s.take x.toNat).length ≤ s.length := by rw [List.length_take]; omega
   have hol : out.length ≤ 3 * s.length + 1 := by rw [ha, List.length_cons]; omega
   by_cases hx : x < (s.length : Int)
   ·obtain ⟨c, hc⟩ : ∃ c, s[x.toNat]? = some c := ⟨s[x.toNat]'(by omega), List.getElem?_eq_getElem (by omega)⟩
    have a1 : 0 ≤ x + 1 := by omega
    have a2 : x + 1 ≤ s.length := by omega
    have a3 : s.length - (x + 1).toNat < s.length - x.toNat := by omega
    have a4 : out ++ esc1 c = 34 :: escS (s.take (x + 1).toNat) := by rw [show (x + 1).toNat = x.toNat + 1 from by omega, escS_snoc hc, ha]; rfl
    exact .inl ⟨(out ++ esc1 c, x + 1), rQuoted_step h0 hx hs hol hc, ⟨a1, a2, a4⟩, a3⟩
   ·have e : x.toNat = s.length := by omega
    have hk : rQuoted_k1 out = some (out ++ [34]) := rQuoted_k (by omega)
    have hf : out ++ [34] = quoS s := by rw [ha, e, List.take_length]; rfl
    exact .inr ⟨.go out, rQuoted_end hx, (oute_go (fun ν => rQuoted_k1 ν) out).trans (hk.trans (congrArg some hf))⟩) F ([34], 0) ⟨Int.le_refl 0, by show (0 : Int) ≤ s.length; omega, by show ([34] : Str) = 34 :: escS (s.take 0); simp [escS]⟩ (by show s.length - 0 < F; omega)
 unfold rQuoted
 rw [obn_s h1, h2]
section
variable {M : Nat} {v : List TApiCell}
theorem cat4 (a b c d e : Str) : (((a ++ b) ++ c) ++ d) ++ e = a ++ (b ++ (c ++ d) ++ e) := by simp
theorem cat3 (a b c d : Str) : ((a ++ b) ++ c) ++ d = a ++ ([] ++ (b ++ c) ++ d) := by simp
theorem cat2 (a b c : Str) : (a ++ b) ++ c = a ++ (b ++ [] ++ c) := by simp
theorem cat1 (a b : Str) : a ++ b = a ++ ([] ++ [] ++ b) := by simp
theorem len1 (a : Str) (c : UInt8) : ((a ++ [c]).length : Int) = a.length + 1 := by rw [List.length_append, List.length_singleton, Int.natCast_add]; rfl
theorem len2 (a b : Str) : ((a ++ b).length : Int) = a.length + b.length := by rw [List.length_append, Int.natCast_add]
theorem rTxt_body {F : Nat} {i : Int} {rec : List TApiCell → Int → Option Str} {out tx : Str} {at_ x : Int} {m : Bool} {p q : Int} {pc : TApiCell} {key : Option Str} {last : Option Str} (hpc : at' v i = pc) (hm : decide (pc.fKind = 6) = m) (hx : x < pc.fN) (hx0 : 0 ≤ x) (hpcN : pc.fN ≤ 9223372036854775807)
  (ha0 : 0 ≤ at_) (haM : at_ < v.length) (hvM : (v.length : Int) ≤ 1152921504606846976) (hk : keyOk m last key = true) (hkey : ∀ s, key = some s → (at' v at_).fStr = s ∧ s.length < F ∧ s.length ≤ 1152921504606846976) (hp : p = bif m then at_ + 1 else at_) (hr : rec v p = some tx) (hq : rNext F v p = some q)
  (hlen : ((out ++ (sepT (decide (x = 0)) ++ ktx key ++ tx)).length : Int) ≤ 4611686018427387904) : rText_b1 F v i rec out at_ x = some (.next (out ++ (sepT (decide (x = 0)) ++ ktx key ++ tx), q, x + 1)) := by
 have l44 : (([44] : Str).length : Int) = 1 := rfl
 have l58 : (([58] : Str).length : Int) = 1 := rfl
 have hx1 : chk (inK .i64 (x + 1)) (some (Stp.next (out ++ (sepT (decide (x = 0)) ++ ktx key ++ tx), q, x + 1)) : Option (Stp (Str × Int × Int) (Out Str Str))) = some (Stp.next (out ++ (sepT (decide (x = 0)) ++ ktx key ++ tx), q, x + 1)) := chk_i64 (by omega) (by omega)
 unfold rText_b1
 rw [hpc, cnd_tt (decide_eq_true hx), hm]
 cases hx00 : decide (x = 0) with
 | true =>
  rw [hx00] at hx1 hlen
  simp only [decide_eq_true_eq] at hx00
  rw [cnd_ff (decide_eq_false (by omega))]
  cases m with
  | true =>
   cases key with
   | none => simp [keyOk] at hk
   | some s =>
    obtain ⟨e1, e2, e3⟩ := hkey s rfl
    simp only [cond_true] at hp
    have e : ((out ++ quoS s) ++ [58]) ++ tx = out ++ (sepT true ++ ktx (some s) ++ tx) := cat3 _ _ _ _
    rw [← e] at hx1 hlen ⊢
    have h1 := len2 ((out ++ quoS s) ++ [58]) tx
    have h2 := len1 (out ++ quoS s) 58
    have h3 := len2 out (quoS s)
    rw [cnd_tt rfl, chk_inR ha0 haM, e1, rQuoted_eq e2 e3, obn_s rfl, chk_i64 (by omega) (by omega), l58, chk_i64 (by omega) (by omega), chk_i64 (by omega) (by omega), ← hp, hr, obn_s rfl, chk_i64 (by omega) (by omega), hq, obn_s rfl, hx1]
  | false =>
   cases key with
   | some s => simp [keyOk] at hk
   | none =>
    simp only [cond_false] at hp
    have e : out ++ tx = out ++ (sepT true ++ ktx none ++ tx) := cat1 _ _
    rw [← e] at hx1 hlen ⊢
    have h1 := len2 out tx
    rw [cnd_ff rfl, ← hp, hr, obn_s rfl, chk_i64 (by omega) (by omega), hq, obn_s rfl, hx1]
 | false =>
  rw [hx00] at hx1 hlen
  simp only [decide_eq_false_iff_not] at hx00
  rw [cnd_tt (decide_eq_true (by omega))]
  cases m with
  | true =>
   cases key with
   | none => simp [keyOk] at hk
   | some s =>
    obtain ⟨e1, e2, e3⟩ := hkey s rfl
    simp only [cond_true] at hp
    have e : (((out ++ [44]) ++ quoS s) ++ [58]) ++ tx = out ++ (sepT false ++ ktx (some s) ++ tx) := cat4 _ _ _ _ _
    rw [← e] at hx1 hlen ⊢
    have h1 := len2 (((out ++ [44]) ++ quoS s) ++ [58]) tx
    have h2 := len1 ((out ++ [44]) ++ quoS s) 58
    have h3 := len2 (out ++ [44]) (quoS s)
    have h4 := len1 out 44
    rw [l44, chk_i64 (by omega) (by omega), cnd_tt rfl, chk_inR ha0 haM, e1, rQuoted_eq e2 e3, obn_s rfl, chk_i64 (by omega) (by omega), l58, chk_i64 (by omega) (by omega), chk_i64 (by omega) (by omega), ← hp, hr, obn_s rfl, chk_i64 (by omega) (by omega), hq, obn_s rfl, hx1]
  | false =>
   cases key with
   | some s => simp [keyOk] at hk
   | none =>
    simp only [cond_false] at hp
    have e : (out ++ [44]) ++ tx = out ++ (sepT false ++ ktx none ++ tx) := cat2 _ _ _
    rw [← e] at hx1 hlen ⊢
    have h1 := len2 (out ++ [44]) tx
    have h4 := len1 out 44
    rw [l44, chk_i64 (by omega) (by omega), cnd_ff rfl, ← hp, hr, obn_s rfl, chk_i64 (by omega) (by omega), hq, obn_s rfl, hx1]
theorem rText_k {i : Int} {pc : TApiCell} {out : Str} (hpc : at' v i = pc) (h : out.length ≤ 4611686018427387904) : rText_k1 v i out = some (brk pc out) := by
 unfold rText_k1 brk
 have l1 : (([123] : Str).length : Int) = 1 := rfl
 have l2 : (([91] : Str).length : Int) = 1 := rfl
 have l3 : (([125] : Str).length : Int) = 1 := rfl
 have l4 : (([93] : Str).length : Int) = 1 := rfl
 have h1 := len2 [123] out
 have h2 := len2 [91] out
 rw [hpc]
 cases hk : decide (pc.fKind = 6) with
 | true => rw [cnd_tt rfl, chk_i64 (by omega) (by omega), chk_i64 (by omega) (by omega)]; rfl
 | false => rw [cnd_ff rfl, chk_i64 (by omega) (by omega), chk_i64 (by omega) (by omega)]; rfl
theorem rText_leaf {F : Nat} {p : Int} {c : TApiCell} {r : List TApiCell} (h0 : 0 ≤ p) (hpM : p ≤ 1152921504606846976) (hd : v.drop p.toNat = c :: r) (hp : pl c = true) (hn : decide (0 < c.fN) = false) (hs : c.fStr.length < F + 1) (hs2 : c.fStr.length ≤ 1152921504606846976) (hi : inK .i64 c.fInt = true) : rText (F + 2) v p = some (leafT c) := by
 obtain ⟨g1, g2, g3⟩ := drop_get h0 hd
 rw [rText]
 unfold rTextm leafT
 rw [chk_inR h0 g3, at_drop h0 hd]
 cases k1 : decide (c.fKind = 1) with
 | true => rw [cnd_tt rfl]; rfl
 | false =>
 rw [cnd_ff rfl]
 cases k2 : decide (c.fKind = 2) with
 | true => rw [cnd_tt rfl]; cases decide (c.fInt = 1) <;> rfl
 | false =>
 rw [cnd_ff rfl]
 cases k3 : decide (c.fKind = 3) with
 | true => rw [cnd_tt rfl, chk_t hi]; rfl
 | false =>
 rw [cnd_ff rfl]
 cases k4 : decide (c.fKind = 4) with
 | true => rw [cnd_tt rfl, rQuoted_eq hs hs2, obn_s rfl]; rfl
 | false =>
 have hgo : rText_b1 (F + 1) v p (rText (F + 1)) [] (p + 1) 0 = some (.out (.go [])) := by
  unfold rText_b1
  rw [at_drop h0 hd, cnd_ff hn]
 rw [cnd_ff rfl, chk_i64 (by omega) (by omega), obn_s (lop_o (o := .go []) hgo), oute_go, rText_k (at_drop h0 hd) (by simp)]
 simp only [cond_false, brk]
 cases decide (c.fKind = 6) <;> rfl
end
end Go.Proofs.YtpmiamphppcfeaaGreatDoor
