/-
  Texts of the proof, put together: AL, FwA, FwB, QA, FwC, FwD, QB, PlA, PQ0, QC, FwE, FwF, FwH, FwK, QD, QE, QR.
-/
import Derived.Test.YtpmiamphppcfeaaGreatDoorProg
import Derived.WalkKit
import Derived.Deep.QuietTactic
import Derived.Deep.LoopGhost
import Derived.Lib.Strings
import Derived.Scope
import GoSem.Core.View
import GoSem.Op.String
import Derived.IntWalk
import Derived.Lib.Bytealg
import Derived.Laws.AppendOwn
import Derived.Laws.OwnMore
import Derived.Great.FillDense
namespace Go.Proofs.YtpmiamphppcfeaaGreatDoor
open Go
abbrev ya23 := @Tryz.isAgg23
abbrev ya25 := @Tryz.isAgg25
abbrev ya3 := @Tryz.isAgg3
abbrev ya4 := @Tryz.isAgg4
abbrev ya49 := @Tryz.isAgg49
abbrev ya51 := @Tryz.isAgg51
abbrev ya79 := @Tryz.isAgg79
abbrev ya80 := @Tryz.isAgg80
abbrev ya89 := @Tryz.isAgg89
abbrev ya9 := @Tryz.isAgg9
abbrev yk102 := @Tryz.call102
abbrev yk120 := @Tryz.call120
abbrev yk25 := @Tryz.call25
abbrev yk27 := @Tryz.call27
abbrev yk40 := @Tryz.call40
abbrev yk63 := @Tryz.call63
abbrev yk69 := @Tryz.call69
abbrev yk72 := @Tryz.call72
abbrev yk80 := @Tryz.call80
abbrev yk83 := @Tryz.call83
abbrev yk97 := @Tryz.call97
abbrev yr10 := @Tryz.results10
abbrev yr102 := @Tryz.results102
abbrev yr108 := @Tryz.results108
abbrev yr110 := @Tryz.results110
abbrev yr17 := @Tryz.results17
abbrev yr30 := @Tryz.results30
abbrev yr31 := @Tryz.results31
abbrev yr54 := @Tryz.results54
abbrev yr56 := @Tryz.results56
abbrev yr60 := @Tryz.results60
abbrev yr63 := @Tryz.results63
abbrev yr69 := @Tryz.results69
abbrev yr72 := @Tryz.results72
abbrev yr75 := @Tryz.results75
abbrev yr82 := @Tryz.results82
abbrev yr86 := @Tryz.results86
abbrev yr87 := @Tryz.results87
abbrev yr88 := @Tryz.results88
abbrev yr9 := @Tryz.results9
abbrev yr99 := @Tryz.results99
abbrev ys115 := @Tryz.sizeOf115
abbrev ys23 := @Tryz.sizeOf23
abbrev ys25 := @Tryz.sizeOf25
abbrev ys3 := @Tryz.sizeOf3
abbrev ys4 := @Tryz.sizeOf4
abbrev ys49 := @Tryz.sizeOf49
abbrev ys5 := @Tryz.sizeOf5
abbrev ys51 := @Tryz.sizeOf51
abbrev ys79 := @Tryz.sizeOf79
abbrev ys80 := @Tryz.sizeOf80
abbrev ys89 := @Tryz.sizeOf89
abbrev ys9 := @Tryz.sizeOf9
abbrev yu112 := @Tryz.underlying112
abbrev yu115 := @Tryz.underlying115
abbrev yu23 := @Tryz.underlying23
abbrev yu25 := @Tryz.underlying25
abbrev yu3 := @Tryz.underlying3
abbrev yu36 := @Tryz.underlying36
abbrev yu5 := @Tryz.underlying5
abbrev yu51 := @Tryz.underlying51
abbrev yu72 := @Tryz.underlying72
abbrev yu79 := @Tryz.underlying79
abbrev yu80 := @Tryz.underlying80
abbrev yu82 := @Tryz.underlying82
abbrev yu89 := @Tryz.underlying89
abbrev yu9 := @Tryz.underlying9
abbrev yz25 := @Tryz.zeroValue25
abbrev yz5 := @Tryz.zeroValue5
abbrev yz51 := @Tryz.zeroValue51
abbrev yz89 := @Tryz.zeroValue89
abbrev yz9 := @Tryz.zeroValue9
end Go.Proofs.YtpmiamphppcfeaaGreatDoor

/-
 A calculus of walks: frames that are known in part, worlds that are known by a list of entries. Plain theorems over any program; no condition.
-/
namespace Go.Proofs.YtpmiamphppcfeaaGreatDoor
open Go Go.RowKit
set_option linter.unusedVariables false

/-! ### Frames -/
abbrev Fr := List (Nat × Value)
def look : Fr → Nat → Option Value
 | [], _ => none
 | p :: l, i => bif Nat.beq p.1 i then some p.2 else look l i
theorem look_cons (j : Nat) (v : Value) (l : Fr) (i : Nat) : look ((j, v) :: l) i = if j = i then some v else look l i := by
 by_cases h : j = i
 ·subst h; simp [look]
 ·have : Nat.beq j i = false := by
   cases hb : Nat.beq j i
   ·rfl
   ·exact absurd (Nat.eq_of_beq_eq_true hb) h
  simp [look, this, h]

structure Agr (n : Nat) (l : Fr) (a : Act) : Prop where
 size : a.tmps.size = n
 defers : a.defers = []
 tm : ∀ i v, look l i = some v → a.tmps[i]? = some v

def ev : Fr → Operand → Option Value
 | l, .tmp t => look l t
 | _, .const v => some v
 | _, .global g => some (.pointer (some ⟨g, 0, none⟩))
 | _, .func f => some (.func (.func f) #[] #[])

section
variable {n : Nat} {l l' : Fr} {a : Act}
theorem Agr.eval (h : Agr n l a) {x : Operand} {v : Value} (hx : ev l x = some v) : a.eval x = v := by
 cases x with
 | tmp t => simp [Act.eval, Array.getD_eq_getD_getElem?, h.tm t v hx]
 | const u => simp only [ev, Option.some.injEq] at hx; subst hx; rfl
 | global g => simpa [ev, Act.eval] using hx
 | func f => simpa [ev, Act.eval] using hx
theorem Agr.put (h : Agr n l a) {d : Nat} (hd : Nat.blt d n = true) (v : Value) : Agr n ((d, v) :: l) (a.put (some d) v) := by
 have hd' : d < n := by simpa using hd
 refine ⟨by simp [Act.put, h.size], by simp [Act.put, h.defers], fun i u hi => ?_⟩
 rw [look_cons] at hi
 simp only [Act.put, Array.getElem?_setIfInBounds]
 split at hi
 ·rename_i e; subst e; simp at hi; subst hi; simp [h.size, hd']
 ·rename_i e; rw [if_neg e]; exact h.tm i u hi
theorem Agr.put_none (h : Agr n l a) (v : Value) : Agr n l (a.put none v) := h

def Sub : Fr → Fr → Prop
 | [], _ => True
 | p :: r, l => look l p.1 = some p.2 ∧ Sub r l
theorem Sub.look : ∀ {l' l : Fr}, Sub l' l → ∀ i v, look l' i = some v → Proofs.YtpmiamphppcfeaaGreatDoor.look l i = some v
 | [], _, _, i, v, h => by simp [Proofs.YtpmiamphppcfeaaGreatDoor.look] at h
 | p :: r, l, ⟨h1, h2⟩, i, v, h => by
  obtain ⟨j, u⟩ := p
  rw [look_cons] at h
  split at h
  ·rename_i e; subst e; simp at h; subst h; exact h1
  ·exact Sub.look h2 i v h
theorem Agr.sub (h : Agr n l a) (hs : Sub l' l) : Agr n l' a := ⟨h.size, h.defers, fun i v hi => h.tm i v (hs.look i v hi)⟩
end

/-! ### Worlds -/
inductive Ent where
 | blk (b : Nat) (o : Obj)
 | row (v : Value) (e : TypeId) (sz : Nat) (n : Nat) (xs : List Value)
def Ent.foot : Ent → List Nat
 | .blk b _ => [b]
 | .row v _ _ _ _ => v.ownBlock.toList
def Ent.holds (w : World) : Ent → Prop
 | .blk b o => w.heap[b]? = some o
 | .row v e sz n xs => w.ownsRow 0 e sz v n xs
theorem Ent.lt {w : World} {e : Ent} (h : e.holds w) {k : Nat} (hk : k ∈ e.foot) : k < w.heap.size := by
 cases e with
 | blk b o => simp [Ent.foot] at hk; subst hk; exact (Array.getElem?_eq_some_iff.1 h).1
 | row v e sz n xs => simp [Ent.foot, Option.mem_toList] at hk; exact (World.ownsRow.lt h k hk).2
theorem Ent.keep {w w' : World} {e : Ent} (h : e.holds w) (hk : ∀ k ∈ e.foot, w'.heap[k]? = w.heap[k]?) : e.holds w' := by
 cases e with
 | blk b o => exact (hk b (by simp [Ent.foot])).trans h
 | row v e sz n xs =>
  refine ⟨h.1, ?_⟩
  rcases h.2 with hn | ⟨g, cap, cur, rfl, hb, hgg, rest⟩
  ·exact .inl hn
  ·exact .inr ⟨g, cap, cur, rfl, hb, (hk g (by simp [Ent.foot, Value.ownBlock])).trans hgg, rest⟩

structure St (w0 : World) (M : List Nat) (H : List Ent) (w : World) : Prop where
 os : w.os = w0.os
 tape : w.tape = w0.tape
 output : w.output = w0.output
 size : w0.heap.size ≤ w.heap.size
 old : ∀ k, k < w0.heap.size → k ∉ M → w.heap[k]? = w0.heap[k]?
 has : ∀ e ∈ H, e.holds w
 own : ∀ e ∈ H, ∀ k ∈ e.foot, w0.heap.size ≤ k ∨ k ∈ M
 dis : H.Pairwise (fun e e' => ∀ k ∈ e.foot, k ∉ e'.foot)

section
variable {w0 w w' : World} {M M2 : List Nat} {H H' Hr Hin Hout : List Ent}
theorem St.refl (w : World) (M : List Nat) : St w M [] w := ⟨rfl, rfl, rfl, Nat.le_refl _, fun _ _ _ => rfl, by simp, by simp, .nil⟩
theorem St.enter (h : St w0 M H w) : St w (H.flatMap Ent.foot) H w :=
 ⟨rfl, rfl, rfl, Nat.le_refl _, fun _ _ _ => rfl, h.has, fun e he k hk => .inr (List.mem_flatMap.2 ⟨e, he, hk⟩), h.dis⟩
theorem St.below (h : St w0 [] H w) : Below w0.heap.size w0 w := ⟨h.os, h.tape, h.output, h.size, fun k hk => h.old k hk (by simp)⟩
theorem St.of_below (h : Below w0.heap.size w0 w) : St w0 [] [] w := ⟨h.os, h.tape, h.output, h.size, fun k hk _ => h.block k hk, by simp, by simp, .nil⟩
theorem St.sub (h : St w0 M H w) (hs : H'.Sublist H) : St w0 M H' w :=
 ⟨h.os, h.tape, h.output, h.size, h.old, fun e he => h.has e (hs.subset he), fun e he => h.own e (hs.subset he), h.dis.sublist hs⟩
theorem St.perm (h : St w0 M H w) (hp : H.Perm H') : St w0 M H' w :=
 ⟨h.os, h.tape, h.output, h.size, h.old, fun e he => h.has e (hp.mem_iff.2 he), fun e he => h.own e (hp.mem_iff.2 he),
  (hp.pairwise_iff (fun hxy k hk hk' => hxy k hk' hk)).1 h.dis⟩
theorem perm_front : ∀ {H : List Ent} {i : Nat} {e : Ent}, H[i]? = some e → H.Perm (e :: H.eraseIdx i)
 | x :: r, 0, e, h => by simp at h; subst h; simp
 | x :: r, i + 1, e, h => by
  simp at h
  exact ((perm_front h).cons x).trans (List.Perm.swap e x _)
theorem St.front (h : St w0 M H w) {i : Nat} {e : Ent} (hi : H[i]? = some e) : St w0 M (e :: H.eraseIdx i) w := h.perm (perm_front hi)
theorem St.drew (h : St w0 M H w) : St w0 M H w.drew :=
 ⟨h.os, h.tape, h.output, h.size, h.old, fun e he => Ent.keep (h.has e he) fun _ _ => rfl, h.own, h.dis⟩
theorem St.drawn (h : St w0 M H w) (k : Nat) : St w0 M H { w with drawn := k } :=
 ⟨h.os, h.tape, h.output, h.size, h.old, fun e he => Ent.keep (h.has e he) fun _ _ => rfl, h.own, h.dis⟩
theorem St.mem_lt (h : St w0 M H w) {e : Ent} (he : e ∈ H) {k : Nat} (hk : k ∈ e.foot) : k < w.heap.size := Ent.lt (h.has e he) hk

theorem St.call (h : St w0 M (Hin ++ Hr) w) (h' : St w M2 Hout w') (hM : ∀ k ∈ M2, ∃ e ∈ Hin, k ∈ e.foot) : St w0 M (Hout ++ Hr) w' := by
 have hd := List.pairwise_append.1 h.dis
 have hM2 : ∀ k, k < w0.heap.size → k ∉ M → k ∉ M2 := fun k hk hkM hkM2 => by
  obtain ⟨e, he, hke⟩ := hM k hkM2
  rcases h.own e (List.mem_append_left _ he) k hke with h1 | h1
  ·omega
  ·exact hkM h1
 have hr : ∀ e ∈ Hr, ∀ k ∈ e.foot, k < w.heap.size ∧ k ∉ M2 := fun e he k hk => by
  refine ⟨h.mem_lt (List.mem_append_right _ he) hk, fun hkM2 => ?_⟩
  obtain ⟨e', he', hke'⟩ := hM k hkM2
  exact hd.2.2 e' he' e he k hke' hk
 refine ⟨h'.os.trans h.os, h'.tape.trans h.tape, h'.output.trans h.output, Nat.le_trans h.size h'.size, fun k hk hkM => ?_, fun e he => ?_, fun e he k hk => ?_, ?_⟩
 ·exact (h'.old k (Nat.lt_of_lt_of_le hk h.size) (hM2 k hk hkM)).trans (h.old k hk hkM)
 ·rcases List.mem_append.1 he with he | he
  ·exact h'.has e he
  ·exact Ent.keep (h.has e (List.mem_append_right _ he)) fun k hk => h'.old k (hr e he k hk).1 (hr e he k hk).2
 ·rcases List.mem_append.1 he with he | he
  ·rcases h'.own e he k hk with h1 | h1
   ·exact .inl (Nat.le_trans h.size h1)
   ·obtain ⟨e', he', hke'⟩ := hM k h1
    exact h.own e' (List.mem_append_left _ he') k hke'
  ·exact h.own e (List.mem_append_right _ he) k hk
 ·refine List.pairwise_append.2 ⟨h'.dis, hd.2.1, fun e he e' he' k hk hk' => ?_⟩
  rcases h'.own e he k hk with h1 | h1
  ·have := (hr e' he' k hk').1; omega
  ·exact (hr e' he' k hk').2 h1
theorem St.call0 (h : St w0 M H w) (h' : St w [] Hout w') : St w0 M (Hout ++ H) w' :=
 St.call (Hin := []) (by simpa using h) h' (by simp)

theorem St.set (h : St w0 M H w) {i : Nat} {e e' : Ent} (hi : H[i]? = some e) (os : w'.os = w.os) (tape : w'.tape = w.tape) (output : w'.output = w.output) (size : w.heap.size ≤ w'.heap.size)
  (hb : ∀ k, k < w.heap.size → k ∉ e.foot → w'.heap[k]? = w.heap[k]?) (he : e'.holds w') (hf : ∀ k ∈ e'.foot, k ∈ e.foot ∨ w.heap.size ≤ k) : St w0 M (H.set i e') w' := by
 have hp : (e :: H.eraseIdx i).Perm H := (perm_front hi).symm
 have h1 : St w0 M ([e] ++ H.eraseIdx i) w := h.perm (perm_front hi)
 have hil : i < H.length := (List.getElem?_eq_some_iff.1 hi).1
 have h2 : St w e.foot [e'] w' :=
  ⟨os, tape, output, size, hb, by simpa using he, by simpa using fun k hk => (hf k hk).symm, by simp⟩
 have h3 := h1.call h2 (fun k hk => ⟨e, by simp, hk⟩)
 have hq : (H.set i e')[i]? = some e' := by simp [hil]
 have := perm_front hq
 rw [List.eraseIdx_set_eq] at this
 exact h3.perm this.symm
theorem St.alloc (h : St w0 M H w) (o : Obj) : St w0 M (.blk w.heap.size o :: H) (w.alloc o) := by
 have h2 : St w [] [.blk w.heap.size o] (w.alloc o) :=
  ⟨rfl, rfl, rfl, by simp, fun k hk _ => Below.heap_alloc w o k hk, by simpa [Ent.holds] using heap_alloc_new w o, by simp [Ent.foot], by simp⟩
 exact h.call0 h2
end

/-! ### Judgements -/
section
variable (P : Program) (n : Nat) (w0 : World) (M : List Nat)
def WL (ops : Array Oper) (Q : Exit → Act → World → Prop) (rest : List Oper) (l : Fr) (H : List Ent) : Prop := ∀ a w, Agr n l a → St w0 M H w → wpList P ops Q rest a w
def WC (c : Code) (Q : Exit → Act → World → Prop) (l : Fr) (H : List Ent) : Prop := ∀ a w, Agr n l a → St w0 M H w → c.wp P Q a w
def WK (K : Act → World → Prop) (l : Fr) (H : List Ent) : Prop := ∀ a w, Agr n l a → St w0 M H w → K a w
def Some1 {S : Type} (inv : S → Prop) (fr : S → Fr) (hp : S → List Ent) : Act → World → Prop := fun a w => ∃ s, inv s ∧ Agr n (fr s) a ∧ St w0 M (hp s) w
def ORun (l : Fr) (H : List Ent) (o : Oper) (v : Value) : Prop := ∀ a w, Agr n l a → St w0 M H w → (execOp a.eval o).run P w = .ok (.value v) w
end

def Ret (w : World) (M : List Nat) (Φ : Value → List Ent → Prop) : Ending → World → Prop := fun e w' => ∃ v H, e = .returned v ∧ St w M H w' ∧ Φ v H
def RetV (w : World) (v : Value) : Ending → World → Prop := fun e w' => e = .returned v ∧ St w [] [] w'

section
variable {P : Program} {n : Nat} {w0 : World} {M : List Nat} {ops : Array Oper} {Q : Exit → Act → World → Prop} {rest : List Oper} {l l' : Fr} {H H' : List Ent} {x y c : Code} {K : Act → World → Prop}

theorem WC.sub (hl : Sub l' l) (hH : H'.Sublist H) (h : WC P n w0 M c Q l' H') : WC P n w0 M c Q l H := fun a w ha hw => h a w (ha.sub hl) (hw.sub hH)
theorem WK.sub (hl : Sub l' l) (hH : H'.Sublist H) (h : WK n w0 M K l' H') : WK n w0 M K l H := fun a w ha hw => h a w (ha.sub hl) (hw.sub hH)
theorem WL.sub (hl : Sub l' l) (hH : H'.Sublist H) (h : WL P n w0 M ops Q rest l' H') : WL P n w0 M ops Q rest l H := fun a w ha hw => h a w (ha.sub hl) (hw.sub hH)
theorem WL.front {i : Nat} {e : Ent} (hi : H[i]? = some e) (h : WL P n w0 M ops Q rest l (e :: H.eraseIdx i)) : WL P n w0 M ops Q rest l H := fun a w ha hw => h a w ha (hw.front hi)

theorem wc_seq (h : WC P n w0 M x (Exit.then (fun a w => y.wp P Q a w) Q) l H) : WC P n w0 M (x.seq y) Q l H := fun a w ha hw => wp_seq (h a w ha hw)
theorem wc_seq_cut {S : Type} (inv : S → Prop) (fr : S → Fr) (hp : S → List Ent) (h : WC P n w0 M x (Exit.then (Some1 n w0 M inv fr hp) Q) l H) (h2 : ∀ s, inv s → WC P n w0 M y Q (fr s) (hp s)) :
  WC P n w0 M (x.seq y) Q l H := fun a w ha hw => wp_seq (wp_mono (h a w ha hw) fun e a w q => by
   cases e with
   | normal => obtain ⟨s, hi, hs, ht⟩ := q; exact h2 s hi a w hs ht
   | _ => exact q)
theorem wk_some {S : Type} {inv : S → Prop} {fr : S → Fr} {hp : S → List Ent} (s : S) (hi : inv s) (hl : Sub (fr s) l) (hH : (hp s).Sublist H) : WK n w0 M (Some1 n w0 M inv fr hp) l H :=
 fun _ _ ha hw => ⟨s, hi, ha.sub hl, hw.sub hH⟩
theorem wk_then (h : WK n w0 M K l H) : WK n w0 M (Exit.then K Q .normal) l H := h
theorem wk_then_exit {id : Nat} (h : WK n w0 M (Q (.exit id)) l H) : WK n w0 M (Exit.then K Q (.exit id)) l H := h
theorem wk_then_ret (h : WK n w0 M (Q .ret) l H) : WK n w0 M (Exit.then K Q .ret) l H := h
theorem wk_in_norm {id : Nat} (h : WK n w0 M (Q .normal) l H) : WK n w0 M (Exit.inBlock id Q .normal) l H := h
theorem wk_in_ret {id : Nat} (h : WK n w0 M (Q .ret) l H) : WK n w0 M (Exit.inBlock id Q .ret) l H := h
theorem bsplit {J : Prop} (b : Bool) (h1 : b = true → J) (h2 : b = false → J) : J := by cases b; exact h2 rfl; exact h1 rfl
def Mid (n : Nat) (w0 : World) (M : List Nat) (φ : Prop) (l : Fr) (H : List Ent) : Act → World → Prop := fun a w => φ ∧ Agr n l a ∧ St w0 M H w
theorem wc_seq_mid (l1 : Fr) (H1 : List Ent) {φ : Prop} (h : WC P n w0 M x (Exit.then (Mid n w0 M φ l1 H1) Q) l H) (h2 : φ → WC P n w0 M y Q l1 H1) : WC P n w0 M (x.seq y) Q l H := fun a w ha hw =>
 wp_seq (wp_mono (h a w ha hw) fun e a w q => by
  cases e with
  | normal => exact h2 q.1 a w q.2.1 q.2.2
  | _ => exact q)
theorem wk_mid {φ : Prop} {l1 : Fr} {H1 : List Ent} (hφ : φ) (hl : Sub l1 l) (hH : H1.Sublist H) : WK n w0 M (Mid n w0 M φ l1 H1) l H := fun _ _ ha hw => ⟨hφ, ha.sub hl, hw.sub hH⟩
theorem fi {k : IntKind} {a b : Int} (h : a = b) : some (Value.int k a) = some (Value.int k b) := by rw [h]
theorem fb {a b : Bool} (h : a = b) : some (Value.bool a) = some (Value.bool b) := by rw [h]
theorem wc_of_wk (h : WC P n w0 M y Q l H) : WK n w0 M (fun a w => y.wp P Q a w) l H := h
theorem wc_skip (h : WK n w0 M (Q .normal) l H) : WC P n w0 M .skip Q l H := fun a w ha hw => wp_skip (h a w ha hw)
theorem wc_exit {id : Nat} (h : WK n w0 M (Q (.exit id)) l H) : WC P n w0 M (.exit id) Q l H := fun a w ha hw => wp_exit (h a w ha hw)
theorem wc_ret (h : WK n w0 M (Q .ret) l H) : WC P n w0 M .ret Q l H := fun a w ha hw => wp_ret (h a w ha hw)
theorem wc_block {id : Nat} (h : WC P n w0 M c (Exit.inBlock id Q) l H) : WC P n w0 M (.block id c) Q l H := fun a w ha hw => wp_block (h a w ha hw)
theorem wk_in_hit {id : Nat} (h : WK n w0 M (Q .normal) l H) : WK n w0 M (Exit.inBlock id Q (.exit id)) l H := fun a w ha hw => by
 show if id = id then _ else _
 rw [if_pos rfl]; exact h a w ha hw
theorem wc_cond {o : Operand} {b : Bool} (ho : ev l o = some (.bool b)) (h1 : b = true → WC P n w0 M x Q l H) (h2 : b = false → WC P n w0 M y Q l H) : WC P n w0 M (.cond o x y) Q l H :=
 fun a w ha hw => wp_cond_split (ha.eval ho) (fun e => h1 e a w ha hw) (fun e => h2 e a w ha hw)
theorem wc_cond_t {o : Operand} {b : Bool} (ho : ev l o = some (.bool b)) (hb : b = true) (h : WC P n w0 M x Q l H) : WC P n w0 M (.cond o x y) Q l H :=
 fun a w ha hw => by subst hb; exact wp_cond_true (ha.eval ho) (h a w ha hw)
theorem wc_cond_f {o : Operand} {b : Bool} (ho : ev l o = some (.bool b)) (hb : b = false) (h : WC P n w0 M y Q l H) : WC P n w0 M (.cond o x y) Q l H :=
 fun a w ha hw => by subst hb; exact wp_cond_false (ha.eval ho) (h a w ha hw)
theorem wc_loop {S : Type} (inv : S → Prop) (fr : S → Fr) (hp : S → List Ent) (μ : S → Nat) (s0 : S) (h0 : inv s0) (hl : Sub (fr s0) l) (hH : (hp s0).Sublist H)
  (round : ∀ s, inv s → WC P n w0 M c (Exit.then (Some1 n w0 M (fun s' => inv s' ∧ μ s' < μ s) fr hp) Q) (fr s) (hp s)) : WC P n w0 M (.loop c) Q l H := fun a w ha hw => by
 refine wp_loop_ghost (fun k a w => ∃ s, μ s = k ∧ inv s ∧ Agr n (fr s) a ∧ St w0 M (hp s) w) (μ s0) ⟨s0, rfl, h0, ha.sub hl, hw.sub hH⟩ ?_
 rintro k a w ⟨s, rfl, hi, ha, hw⟩
 refine wp_mono (round s hi a w ha hw) fun e a' w' q => ?_
 cases e with
 | normal =>
  obtain ⟨s', ⟨hi', hlt⟩, ha', hw'⟩ := q
  exact ⟨μ s', hlt, s', rfl, hi', ha', hw'⟩
 | _ => exact q
theorem wc_region {id : Nat} {ops : List Oper} (h : WL P n w0 M ops.toArray Q ops l H) : WC P n w0 M (.region id ops.toArray false) Q l H := fun a w ha hw => wp_region_lit (h a w ha hw)
theorem wl_nil (h : WK n w0 M (Q .normal) l H) : WL P n w0 M ops Q [] l H := fun a w ha hw => wpList_nil (h a w ha hw)

/-! ### Operations in a row -/
def gslot (ops : Array Oper) (j : Nat) : Option Nat := (ops[j]?).bind (·.dst)
theorem yielded_bool {a : Act} {j d : Nat} {b : Bool} (ha : Agr n l a) (hj : gslot ops j = some d) (hv : look l d = some (.bool b)) : yielded ops a.tmps j = some b := by
 unfold gslot at hj
 simp [yielded, hj, ha.tm d _ hv]
theorem yielded_undef {a : Act} {j d : Nat} (ha : Agr n l a) (hj : gslot ops j = some d) (hv : look l d = some undef) : yielded ops a.tmps j = none := by
 unfold gslot at hj
 simp [yielded, hj, ha.tm d _ hv, undef]
theorem wl_on {d : Option Nat} {op : Op} {ty : TypeId} {pos : String} {af : Array Edge} {j dj : Nat} {want b : Bool} (hj : gslot ops j = some dj) (hv : look l dj = some (.bool b)) (hb : b = want)
  (h : WL P n w0 M ops Q ({ dst := d, op := op, type := ty, pos := pos, after := af, guard := none } :: rest) l H) :
  WL P n w0 M ops Q ({ dst := d, op := op, type := ty, pos := pos, after := af, guard := some (j, want) } :: rest) l H := fun a w ha hw => by
 have h1 := h a w ha hw
 have hy := yielded_bool ha hj hv
 subst hb
 simp only [wpList, Region.wanted, hy, beq_self_eq_true, if_true] at h1 ⊢
 exact h1
theorem wl_off {d : Nat} {op : Op} {ty : TypeId} {pos : String} {af : Array Edge} {j dj : Nat} {want b : Bool} (hj : gslot ops j = some dj) (hv : look l dj = some (.bool b)) (hb : b = !want) (hn : Nat.blt d n = true)
  (h : WL P n w0 M ops Q rest ((d, undef) :: l) H) :
  WL P n w0 M ops Q ({ dst := some d, op := op, type := ty, pos := pos, after := af, guard := some (j, want) } :: rest) l H := fun a w ha hw => by
 have hy := yielded_bool ha hj hv
 subst hb
 refine wpList_skip ?_ (h _ w (ha.put hn _) hw)
 simp [Region.wanted, hy]
theorem wl_off_u {d : Nat} {op : Op} {ty : TypeId} {pos : String} {af : Array Edge} {j dj : Nat} {want : Bool} (hj : gslot ops j = some dj) (hv : look l dj = some undef) (hn : Nat.blt d n = true)
  (h : WL P n w0 M ops Q rest ((d, undef) :: l) H) :
  WL P n w0 M ops Q ({ dst := some d, op := op, type := ty, pos := pos, after := af, guard := some (j, want) } :: rest) l H := fun a w ha hw => by
 have hy := yielded_undef ha hj hv
 refine wpList_skip ?_ (h _ w (ha.put hn _) hw)
 simp [Region.wanted, hy]
theorem wl_v {d : Nat} {op : Op} {ty : TypeId} {pos : String} {af : Array Edge} {v : Value} (hr : ORun P n w0 M l H { dst := some d, op := op, type := ty, pos := pos, after := af, guard := none } v)
  (hn : Nat.blt d n = true) (h : WL P n w0 M ops Q rest ((d, v) :: l) H) : WL P n w0 M ops Q ({ dst := some d, op := op, type := ty, pos := pos, after := af, guard := none } :: rest) l H := fun a w ha hw =>
 wpList_plain rfl fun K hK => by
  unfold Oper.wp
  rw [hr a w ha hw]
  exact hK _ _ (h _ w (ha.put hn v) hw)
theorem wl_w {d : Nat} {op : Op} {ty : TypeId} {pos : String} {af : Array Edge}
  (hr : ∀ a w, Agr n l a → St w0 M H w → ∃ v w' H', (execOp a.eval { dst := some d, op := op, type := ty, pos := pos, after := af, guard := none }).run P w = .ok (.value v) w' ∧ St w0 M H' w' ∧ WL P n w0 M ops Q rest ((d, v) :: l) H')
  (hn : Nat.blt d n = true) : WL P n w0 M ops Q ({ dst := some d, op := op, type := ty, pos := pos, after := af, guard := none } :: rest) l H := fun a w ha hw =>
 wpList_plain rfl fun K hK => by
  obtain ⟨v, w', H', h1, h2, h3⟩ := hr a w ha hw
  unfold Oper.wp
  rw [h1]
  exact hK _ _ (h3 _ w' (ha.put hn v) h2)
theorem wl_u {op : Op} {ty : TypeId} {pos : String} {af : Array Edge}
  (hr : ∀ a w, Agr n l a → St w0 M H w → ∃ w' H', (execOp a.eval { dst := none, op := op, type := ty, pos := pos, after := af, guard := none }).run P w = .ok .skip w' ∧ St w0 M H' w' ∧ WL P n w0 M ops Q rest l H') :
  WL P n w0 M ops Q ({ dst := none, op := op, type := ty, pos := pos, after := af, guard := none } :: rest) l H := fun a w ha hw =>
 wpList_plain rfl fun K hK => by
  obtain ⟨w', H', h1, h2, h3⟩ := hr a w ha hw
  unfold Oper.wp
  rw [h1]
  exact hK _ _ (h3 _ w' (ha.put_none _) h2)
theorem wl_call {d : Nat} {op : Op} {ty : TypeId} {pos : String} {af : Array Edge} {f : FuncId} {args : Array Value}
  (hr : ∀ a w, Agr n l a → St w0 M H w → (execOp a.eval { dst := some d, op := op, type := ty, pos := pos, after := af, guard := none }).run P w = .ok (.enter f args) w)
  (hc : ∀ w, St w0 M H w → Calls P f args w (fun e w' => ∃ v H', e = .returned v ∧ St w0 M H' w' ∧ WL P n w0 M ops Q rest ((d, v) :: l) H'))
  (hn : Nat.blt d n = true) : WL P n w0 M ops Q ({ dst := some d, op := op, type := ty, pos := pos, after := af, guard := none } :: rest) l H := fun a w ha hw =>
 wpList_plain rfl fun K hK => by
  unfold Oper.wp
  rw [hr a w ha hw]
  refine (hc w hw).mono ?_
  rintro e w' ⟨v, H', rfl, h2, h3⟩
  exact hK _ _ (h3 _ w' (ha.put hn v) h2)
end
end Go.Proofs.YtpmiamphppcfeaaGreatDoor

/-
 What the plain operations yield. Plain theorems over any program; no condition.
-/
namespace Go.Proofs.YtpmiamphppcfeaaGreatDoor
open Go Go.RowKit
set_option linter.unusedVariables false

def B (l : List UInt8) : ByteArray := ⟨l.toArray⟩
theorem B_toList (l : List UInt8) : (B l).toList = l := by
 rw [Go.ByteArray.toList_eq]; rfl
theorem B_size (l : List UInt8) : (B l).size = l.length := by simp [B, ByteArray.size]
theorem B_of (s : ByteArray) : s = B s.data.toList := by cases s; simp [B]
theorem fs {a b : List UInt8} (h : a = b) : some (Value.string (B a)) = some (Value.string (B b)) := by rw [h]
theorem B_append (p q : List UInt8) : B p ++ B q = B (p ++ q) := by
 apply ByteArray.ext; simp [B, ByteArray.data_append]
theorem B_extract (l : List UInt8) (i j : Nat) : (B l).extract i j = B ((l.drop i).take (j - i)) := by
 rw [Lib.extract_eq]; rfl
theorem B_get (l : List UInt8) (i : Nat) : (B l)[i]? = l[i]? := by
 by_cases h : i < (B l).size
 ·have h' : i < l.length := by rw [B_size] at h; exact h
  rw [Go.ByteArray.getElem?_lt' _ _ h, List.getElem?_eq_getElem h']
  rfl
 ·have h' : ¬ i < l.length := by rw [B_size] at h; exact h
  rw [Go.ByteArray.getElem?_ge' _ _ h, List.getElem?_eq_none (by omega)]

section
variable {P : Program} {n : Nat} {w0 : World} {M : List Nat} {l : Fr} {H : List Ent} {d : Option Nat} {x y c : Operand} {ty t t' : TypeId} {pos : String} {af : Array Edge} {g : Option (Nat × Bool)} {v u : Value}
theorem o_move (h : ev l x = some v) : ORun P n w0 M l H { dst := d, op := .move x, type := ty, pos := pos, after := af, guard := g } v := fun a w ha _ => by
 simp [execOp, ha.eval h]
theorem o_assign (h : ev l x = some v) : ORun P n w0 M l H { dst := d, op := .assign x, type := ty, pos := pos, after := af, guard := g } v := fun a w ha _ => by
 simp [execOp, ha.eval h]
theorem o_pick_t {b : Bool} (hc : ev l c = some (.bool b)) (hb : b = true) (h : ev l x = some v) : ORun P n w0 M l H { dst := d, op := .pick c x y, type := ty, pos := pos, after := af, guard := g } v := fun a w ha _ => by
 subst hb; simp [execOp, ha.eval h, ha.eval hc, asBool]
theorem o_pick_f {b : Bool} (hc : ev l c = some (.bool b)) (hb : b = false) (h : ev l y = some v) : ORun P n w0 M l H { dst := d, op := .pick c x y, type := ty, pos := pos, after := af, guard := g } v := fun a w ha _ => by
 subst hb; simp [execOp, ha.eval h, ha.eval hc, asBool]
theorem o_extract {vs : Array Value} {i : Nat} (h : ev l x = some (.tuple vs)) (hi : vs[i]? = some v) : ORun P n w0 M l H { dst := d, op := .extract x i, type := ty, pos := pos, after := af, guard := g } v := fun a w ha _ => by
 simp [execOp, ha.eval h, Instr.extract, hi]
theorem o_not {b : Bool} (h : ev l x = some (.bool b)) : ORun P n w0 M l H { dst := d, op := .unOp .not t x, type := ty, pos := pos, after := af, guard := g } (.bool (!b)) := fun a w ha _ => by
 simp [execOp, ha.eval h, Op.unary]
theorem o_neg {k : IntKind} {m z : Int} (h : ev l x = some (.int k m)) (hz : k.wrap (-m) = z) : ORun P n w0 M l H { dst := d, op := .unOp .neg t x, type := ty, pos := pos, after := af, guard := g } (.int k z) := fun a w ha _ => by
 simp [execOp, ha.eval h, Op.unary, Op.intArith, hz]

theorem eqGuard_int (op : BinOp) (k k' : IntKind) (p q : Int) (w : World) : (eqGuard op t x y (.int k p) (.int k' q)).run P w = .ok () w := by
 unfold eqGuard; split <;> simp
theorem eqGuard_str (op : BinOp) (p q : ByteArray) (w : World) : (eqGuard op t x y (.string p) (.string q)).run P w = .ok () w := by
 unfold eqGuard; split <;> simp
section
variable {k : IntKind} {p q z : Int} (hx : ev l x = some (.int k p)) (hy : ev l y = some (.int k q))
include hx hy
theorem o_add (hz : k.wrap (p + q) = z) : ORun P n w0 M l H { dst := d, op := .binOp .add t x y t', type := ty, pos := pos, after := af, guard := g } (.int k z) := fun a w ha _ => by
 simp [execOp, ha.eval hx, ha.eval hy, eqGuard_int, binOp, Op.intArith, hz]
theorem o_sub (hz : k.wrap (p - q) = z) : ORun P n w0 M l H { dst := d, op := .binOp .sub t x y t', type := ty, pos := pos, after := af, guard := g } (.int k z) := fun a w ha _ => by
 simp [execOp, ha.eval hx, ha.eval hy, eqGuard_int, binOp, Op.intArith, hz]
theorem o_mul (hz : k.wrap (p * q) = z) : ORun P n w0 M l H { dst := d, op := .binOp .mul t x y t', type := ty, pos := pos, after := af, guard := g } (.int k z) := fun a w ha _ => by
 simp [execOp, ha.eval hx, ha.eval hy, eqGuard_int, binOp, Op.intArith, hz]
theorem o_lt : ORun P n w0 M l H { dst := d, op := .binOp .lss t x y t', type := ty, pos := pos, after := af, guard := g } (.bool (decide (p < q))) := fun a w ha _ => by
 simp [execOp, ha.eval hx, ha.eval hy, eqGuard_int, binOp, Op.intCmp]
theorem o_le : ORun P n w0 M l H { dst := d, op := .binOp .leq t x y t', type := ty, pos := pos, after := af, guard := g } (.bool (decide (p ≤ q))) := fun a w ha _ => by
 simp [execOp, ha.eval hx, ha.eval hy, eqGuard_int, binOp, Op.intCmp]
theorem o_gt : ORun P n w0 M l H { dst := d, op := .binOp .gtr t x y t', type := ty, pos := pos, after := af, guard := g } (.bool (decide (q < p))) := fun a w ha _ => by
 simp [execOp, ha.eval hx, ha.eval hy, eqGuard_int, binOp, Op.intCmp]
theorem o_ge : ORun P n w0 M l H { dst := d, op := .binOp .geq t x y t', type := ty, pos := pos, after := af, guard := g } (.bool (decide (q ≤ p))) := fun a w ha _ => by
 simp [execOp, ha.eval hx, ha.eval hy, eqGuard_int, binOp, Op.intCmp]
theorem o_eq : ORun P n w0 M l H { dst := d, op := .binOp .eql t x y t', type := ty, pos := pos, after := af, guard := g } (.bool (decide (p = q))) := fun a w ha _ => by
 have e : (p == q) = decide (p = q) := by rw [Bool.eq_iff_iff]; simp
 simp [execOp, ha.eval hx, ha.eval hy, eqGuard_int, binOp, Op.intCmp, e]
theorem o_ne : ORun P n w0 M l H { dst := d, op := .binOp .neq t x y t', type := ty, pos := pos, after := af, guard := g } (.bool (!decide (p = q))) := fun a w ha _ => by
 have e : (p != q) = !decide (p = q) := by rw [Bool.eq_iff_iff]; simp
 simp [execOp, ha.eval hx, ha.eval hy, eqGuard_int, binOp, Op.intCmp, e]
end
section
variable {p q : List UInt8} (hx : ev l x = some (.string (B p))) (hy : ev l y = some (.string (B q)))
include hx hy
theorem o_sadd (hz : p.length + q.length ≤ 9223372036854775807) : ORun P n w0 M l H { dst := d, op := .binOp .add t x y t', type := ty, pos := pos, after := af, guard := g } (.string (B (p ++ q))) := fun a w ha _ => by
 have : ¬ ((((B p).size + (B q).size : Nat) : Int) > IntKind.i64.max) := by rw [B_size, B_size]; simp [IntKind.max, IntKind.signed, IntKind.bits]; omega
 simp only [execOp, ha.eval hx, ha.eval hy, Sem.run_bind, eqGuard_str, binOp, Op.stringOp, this, if_false, B_append]
 simp
theorem o_sle : ORun P n w0 M l H { dst := d, op := .binOp .leq t x y t', type := ty, pos := pos, after := af, guard := g } (.bool (Op.bytesLess p q || decide (p = q))) := fun a w ha _ => by
 have e : (p == q) = decide (p = q) := by rw [Bool.eq_iff_iff]; simp
 simp [execOp, ha.eval hx, ha.eval hy, eqGuard_str, binOp, Op.stringOp, B_toList, e]
theorem o_seq : ORun P n w0 M l H { dst := d, op := .binOp .eql t x y t', type := ty, pos := pos, after := af, guard := g } (.bool (decide (p = q))) := fun a w ha _ => by
 have e : (p == q) = decide (p = q) := by rw [Bool.eq_iff_iff]; simp
 simp [execOp, ha.eval hx, ha.eval hy, eqGuard_str, binOp, Op.stringOp, B_toList, e]
theorem o_sne : ORun P n w0 M l H { dst := d, op := .binOp .neq t x y t', type := ty, pos := pos, after := af, guard := g } (.bool (!decide (p = q))) := fun a w ha _ => by
 have e : (p == q) = decide (p = q) := by rw [Bool.eq_iff_iff]; simp
 simp [execOp, ha.eval hx, ha.eval hy, eqGuard_str, binOp, Op.stringOp, B_toList, e]
end
theorem o_conv_int {k k' : IntKind} {m z : Int} (hs : ∃ s, P.underlying t = some s) (hd : P.underlying t' = some (.int k')) (h : ev l x = some (.int k m)) (hz : k'.wrap m = z) :
  ORun P n w0 M l H { dst := d, op := .convert t t' x, type := ty, pos := pos, after := af, guard := g } (.int k' z) := fun a w ha _ => by
 obtain ⟨s, hs⟩ := hs
 simp [execOp, ha.eval h, convert, run_underlying hs, run_underlying hd, Conv.intToInt, hz]
theorem o_len_s {p : List UInt8} (ht : P.underlying t = some .string) (h : ev l x = some (.string (B p))) : ORun P n w0 M l H { dst := d, op := .call { callee := .builtin .len, args := #[x], argTypes := #[t] }, type := ty, pos := pos, after := af, guard := g } (.int .i64 p.length) := fun a w ha _ => by
 simp [execOp, resolve, invoke, builtin, ha.eval h, Builtin.len_, run_underlying ht, goInt, B_size]
theorem o_len_sl {A : Option Addr} {m cp : Nat} {e : TypeId} (ht : P.underlying t = some (.slice e)) (h : ev l x = some (.slice A m cp)) : ORun P n w0 M l H { dst := d, op := .call { callee := .builtin .len, args := #[x], argTypes := #[t] }, type := ty, pos := pos, after := af, guard := g } (.int .i64 m) := fun a w ha _ => by
 simp [execOp, resolve, invoke, builtin, ha.eval h, Builtin.len_, run_underlying ht, goInt]
theorem o_index_s {p : List UInt8} {k : IntKind} {i : Int} {c : UInt8} (ht : P.underlying t = some .string) (h : ev l x = some (.string (B p))) (hi : ev l y = some (.int k i)) (h0 : 0 ≤ i) (hc : p[i.toNat]? = some c) :
  ORun P n w0 M l H { dst := d, op := .index t x y, type := ty, pos := pos, after := af, guard := g } (.int .u8 c.toNat) := fun a w ha _ => by
 simp [execOp, ha.eval h, ha.eval hi, Instr.index, asIntOf, run_underlying ht, h0, B_get, hc]
theorem run_sliceBound {k : IntKind} {i : Int} {m : Nat} (code : BoundsCode) (w : World) (h0 : 0 ≤ i) (h1 : i ≤ m) : (Instr.sliceBound (.int k i) m code).run P w = .ok i.toNat w := by
 simp [Instr.sliceBound, asIntOf, h0, h1]
theorem o_slice_lo {p : List UInt8} {k : IntKind} {i : Int} (ht : P.underlying t = some .string) (h : ev l x = some (.string (B p))) (hi : ev l y = some (.int k i)) (h0 : 0 ≤ i) (h1 : i ≤ p.length) :
  ORun P n w0 M l H { dst := d, op := .slice t x (some y) none none, type := ty, pos := pos, after := af, guard := g } (.string (B (p.drop i.toNat))) := fun a w ha _ => by
 have e : List.take ((B p).size - i.toNat) (List.drop i.toNat p) = List.drop i.toNat p := by rw [List.take_of_length_le]; simp [B_size]
 simp [execOp, ha.eval h, ha.eval hi, Instr.sliceAt, Instr.slice, run_underlying ht, Instr.sliceBounds, run_sliceBound (m := (B p).size) _ _ h0 (by rw [B_size]; exact h1), B_extract, e]
theorem o_slice_hi {p : List UInt8} {k : IntKind} {i : Int} (ht : P.underlying t = some .string) (h : ev l x = some (.string (B p))) (hi : ev l y = some (.int k i)) (h0 : 0 ≤ i) (h1 : i ≤ p.length) :
  ORun P n w0 M l H { dst := d, op := .slice t x none (some y) none, type := ty, pos := pos, after := af, guard := g } (.string (B (p.take i.toNat))) := fun a w ha _ => by
 simp [execOp, ha.eval h, ha.eval hi, Instr.sliceAt, Instr.slice, run_underlying ht, Instr.sliceBounds, run_sliceBound (m := (B p).size) _ _ h0 (by rw [B_size]; exact h1), B_extract]
theorem o_slice_lh {p : List UInt8} {k k' : IntKind} {i j : Int} (ht : P.underlying t = some .string) (h : ev l x = some (.string (B p))) (hi : ev l y = some (.int k i)) (hj : ev l c = some (.int k' j)) (h0 : 0 ≤ i) (h1 : i ≤ j) (h2 : j ≤ p.length) :
  ORun P n w0 M l H { dst := d, op := .slice t x (some y) (some c) none, type := ty, pos := pos, after := af, guard := g } (.string (B ((p.drop i.toNat).take (j.toNat - i.toNat)))) := fun a w ha _ => by
 have hj0 : 0 ≤ j := by omega
 simp [execOp, ha.eval h, ha.eval hi, ha.eval hj, Instr.sliceAt, Instr.slice, run_underlying ht, Instr.sliceBounds, run_sliceBound (m := (B p).size) _ _ hj0 (by rw [B_size]; exact h2), run_sliceBound (m := j.toNat) _ _ h0 (by omega), B_extract]
end
end Go.Proofs.YtpmiamphppcfeaaGreatDoor

/-
 A calculus of walks over what values stand for: frozen blocks, representations, owned entries, judgements. Plain theorems over any program; no condition.
-/
namespace Go.Proofs.YtpmiamphppcfeaaGreatDoor.Q
open Go Go.RowKit
set_option linter.unusedVariables false

/-! ### Frozen blocks -/
abbrev Fz := Nat → Option Obj
def Fz.le (Z Z' : Fz) : Prop := ∀ b o, Z b = some o → Z' b = some o
theorem Fz.le.refl (Z : Fz) : Fz.le Z Z := fun _ _ h => h
theorem Fz.le.trans {Z Z' Z'' : Fz} (h : Fz.le Z Z') (h' : Fz.le Z' Z'') : Fz.le Z Z'' := fun b o e => h' b o (h b o e)
def Frz (Z : Fz) (w : World) : Prop := ∀ b o, Z b = some o → w.heap[b]? = some o
def zcell (Z : Fz) (b o : Nat) : Option Value := match Z b with
 | some (.cells cs _ _) => cs[o]?
 | _ => none
theorem zcell_mono {Z Z' : Fz} (h : Fz.le Z Z') {b o : Nat} {v : Value} (e : zcell Z b o = some v) : zcell Z' b o = some v := by
 unfold zcell at *
 cases hz : Z b with
 | none => simp [hz] at e
 | some ob => rw [h b ob hz]; simpa [hz] using e
theorem zcell_cell {Z : Fz} {w : World} (h : Frz Z w) {b o : Nat} {v : Value} (e : zcell Z b o = some v) : w.cell? ⟨b, o, none⟩ = some v := by
 unfold zcell at e
 cases hz : Z b with
 | none => simp [hz] at e
 | some ob =>
  rw [hz] at e
  cases ob with
  | cells cs t fz => rw [cell_of_row w b o cs t fz (h b _ hz)]; exact e
  | _ => cases e

/-! ### Representations -/
structure Rp where
 p : Fz → Value → Prop
 mono : ∀ {Z Z' : Fz} {v : Value}, Fz.le Z Z' → p Z v → p Z' v
 one : Bool
 hone : one = true → ∀ Z v, p Z v → v.oneCell' = true
def rv (x : Value) : Rp := ⟨fun _ y => y = x, fun _ h => h, x.oneCell', fun h _ _ e => by rw [e]; exact h⟩
abbrev rI (k : IntKind) (n : Int) : Rp := rv (.int k n)
abbrev rB (b : Bool) : Rp := rv (.bool b)
abbrev rS (s : List UInt8) : Rp := rv (.string (B s))
def RpAll (Z : Fz) : List Rp → List Value → Prop
 | [], [] => True
 | r :: rs, v :: vs => r.p Z v ∧ RpAll Z rs vs
 | _, _ => False
theorem RpAll.mono {Z Z' : Fz} (h : Fz.le Z Z') : ∀ {rs : List Rp} {vs : List Value}, RpAll Z rs vs → RpAll Z' rs vs
 | [], [], _ => trivial
 | r :: rs, v :: vs, ⟨h1, h2⟩ => ⟨r.mono h h1, RpAll.mono h h2⟩
theorem RpAll.length {Z : Fz} : ∀ {rs : List Rp} {vs : List Value}, RpAll Z rs vs → vs.length = rs.length
 | [], [], _ => rfl
 | r :: rs, v :: vs, ⟨_, h2⟩ => by simp [RpAll.length h2]
theorem RpAll.at {Z : Fz} : ∀ {rs : List Rp} {vs : List Value}, RpAll Z rs vs → ∀ {i : Nat} {r : Rp}, rs[i]? = some r → ∃ v, vs[i]? = some v ∧ r.p Z v
 | [], [], _, i, r, h => by simp at h
 | r :: rs, v :: vs, ⟨h1, h2⟩, 0, r', h => by simp at h; subst h; exact ⟨v, rfl, h1⟩
 | r :: rs, v :: vs, ⟨h1, h2⟩, i + 1, r', h => by simpa using RpAll.at h2 (by simpa using h)
theorem RpAll.of {Z : Fz} : ∀ {rs : List Rp} {vs : List Value}, vs.length = rs.length → (∀ (i : Nat) r, rs[i]? = some r → ∃ v, vs[i]? = some v ∧ r.p Z v) → RpAll Z rs vs
 | [], [], _, _ => trivial
 | r :: rs, v :: vs, hl, h => by
  refine ⟨?_, RpAll.of (by simpa using hl) fun i r' hi => by simpa using h (i + 1) r' (by simpa using hi)⟩
  obtain ⟨u, hu, hp⟩ := h 0 r rfl
  simp at hu; subst hu; exact hp
 | [], _ :: _, hl, _ => by simp at hl
 | _ :: _, [], hl, _ => by simp at hl
theorem RpAll.append {Z : Fz} : ∀ {rs : List Rp} {vs : List Value} {rs' : List Rp} {vs' : List Value}, RpAll Z rs vs → RpAll Z rs' vs' → RpAll Z (rs ++ rs') (vs ++ vs')
 | [], [], _, _, _, h => h
 | r :: rs, v :: vs, _, _, ⟨h1, h2⟩, h => ⟨h1, RpAll.append h2 h⟩
theorem RpAll.take {Z : Fz} : ∀ {rs : List Rp} {vs : List Value} (k : Nat), RpAll Z rs vs → RpAll Z (rs.take k) (vs.take k)
 | _, _, 0, _ => by simp [RpAll]
 | [], [], k + 1, _ => by simp [RpAll]
 | r :: rs, v :: vs, k + 1, ⟨h1, h2⟩ => ⟨h1, RpAll.take k h2⟩
theorem RpAll.drop {Z : Fz} : ∀ {rs : List Rp} {vs : List Value} (k : Nat), RpAll Z rs vs → RpAll Z (rs.drop k) (vs.drop k)
 | _, _, 0, h => by simpa using h
 | [], [], k + 1, _ => by simp [RpAll]
 | r :: rs, v :: vs, k + 1, ⟨h1, h2⟩ => by simpa using RpAll.drop k h2
theorem RpAll.set {Z : Fz} : ∀ {rs : List Rp} {vs : List Value} (k : Nat) {r : Rp} {v : Value}, RpAll Z rs vs → r.p Z v → RpAll Z (rs.set k r) (vs.set k v)
 | [], [], k, _, _, h, _ => by simp [RpAll]
 | r :: rs, v :: vs, 0, _, _, ⟨h1, h2⟩, h => ⟨h, h2⟩
 | r :: rs, v :: vs, k + 1, _, _, ⟨h1, h2⟩, h => ⟨h1, RpAll.set k h2 h⟩
theorem RpAll.one {Z : Fz} : ∀ {rs : List Rp} {vs : List Value}, rs.all (·.one) = true → RpAll Z rs vs → ∀ v ∈ vs, v.oneCell' = true
 | [], [], _, _, _, h => by simp at h
 | r :: rs, v :: vs, ho, ⟨h1, h2⟩, u, h => by
  simp only [List.all_cons, Bool.and_eq_true] at ho
  rcases List.mem_cons.1 h with rfl | h
  ·exact r.hone ho.1 Z _ h1
  ·exact RpAll.one ho.2 h2 u h
theorem RpAll.eq_rv {Z : Fz} : ∀ {us vs : List Value}, RpAll Z (us.map Q.rv) vs → vs = us
 | [], [], _ => rfl
 | u :: us, v :: vs, ⟨h1, h2⟩ => by rw [show v = u from h1, RpAll.eq_rv h2]
def rAgg (rs : List Rp) : Rp := ⟨fun Z v => ∃ us : List Value, v = .agg us.toArray ∧ RpAll Z rs us, fun h ⟨us, e, hu⟩ => ⟨us, e, hu.mono h⟩, false, fun h => by cases h⟩
def rTup (rs : List Rp) : Rp := ⟨fun Z v => ∃ us : List Value, v = .tuple us.toArray ∧ RpAll Z rs us, fun h ⟨us, e, hu⟩ => ⟨us, e, hu.mono h⟩, false, fun h => by cases h⟩
def SlZ (sz : Nat) (xs : List (List Rp)) (Z : Fz) (v : Value) : Prop :=
 ∃ A cap, v = .slice A xs.length cap ∧ xs.length ≤ cap ∧ cap ≤ maxLen ∧ (A = none → cap = 0) ∧
  ∀ i c, xs[i]? = some c → c.length = sz ∧ ∃ a : Addr, A = some a ∧ a.spot = none ∧ ∀ j r, c[j]? = some r → ∃ u, zcell Z a.block (a.off + (i * sz + j)) = some u ∧ r.p Z u
theorem SlZ.mono {sz : Nat} {xs : List (List Rp)} {Z Z' : Fz} {v : Value} (h : Fz.le Z Z') : SlZ sz xs Z v → SlZ sz xs Z' v := fun ⟨A, cap, e, h1, h2, h3, h4⟩ =>
 ⟨A, cap, e, h1, h2, h3, fun i c hi => by
  obtain ⟨hl, a, ha, hs, hc⟩ := h4 i c hi
  exact ⟨hl, a, ha, hs, fun j r hj => by
   obtain ⟨u, hu, hr⟩ := hc j r hj
   exact ⟨u, zcell_mono h hu, r.mono h hr⟩⟩⟩
def rSl (sz : Nat) (xs : List (List Rp)) : Rp := ⟨SlZ sz xs, SlZ.mono, true, fun _ Z v ⟨A, cap, e, _⟩ => by rw [e]; rfl⟩
theorem SlZ.nil (sz : Nat) (Z : Fz) : SlZ sz [] Z (.slice none 0 0) := ⟨none, 0, rfl, Nat.le_refl _, by simp [maxLen], fun _ => rfl, fun i c h => by simp at h⟩
def Rle (r r' : Rp) : Prop := ∀ Z v, r.p Z v → r'.p Z v
theorem Rle.refl (r : Rp) : Rle r r := fun _ _ h => h
theorem Rle.nil (sz : Nat) : Rle (rv (.slice none 0 0)) (rSl sz []) := fun Z v h => by rw [show v = _ from h]; exact SlZ.nil sz Z
/-! ### Frames -/
abbrev Fr := List (Nat × Rp)
def look : Fr → Nat → Option Rp
 | [], _ => none
 | p :: l, i => bif Nat.beq p.1 i then some p.2 else look l i
theorem look_cons (j : Nat) (v : Rp) (l : Fr) (i : Nat) : look ((j, v) :: l) i = if j = i then some v else look l i := by
 by_cases h : j = i
 ·subst h; simp [look]
 ·have : Nat.beq j i = false := by
   cases hb : Nat.beq j i
   ·rfl
   ·exact absurd (Nat.eq_of_beq_eq_true hb) h
  simp [look, this, h]
structure Agr (n : Nat) (l : Fr) (a : Act) (Z : Fz) : Prop where
 size : a.tmps.size = n
 defers : a.defers = []
 tm : ∀ i r, look l i = some r → ∃ v, a.tmps[i]? = some v ∧ r.p Z v
def ev : Fr → Operand → Option Rp
 | l, .tmp t => look l t
 | _, .const v => some (rv v)
 | _, .global g => some (rv (.pointer (some ⟨g, 0, none⟩)))
 | _, .func f => some (rv (.func (.func f) #[] #[]))
section
variable {n : Nat} {l l' : Fr} {a : Act} {Z Z' : Fz}
theorem Agr.ev (h : Agr n l a Z) {x : Operand} {r : Rp} (hx : Q.ev l x = some r) : r.p Z (a.eval x) := by
 cases x with
 | tmp t => obtain ⟨v, hv, hp⟩ := h.tm t r hx; simpa [Act.eval, Array.getD_eq_getD_getElem?, hv] using hp
 | const u => simp only [Q.ev, Option.some.injEq] at hx; subst hx; rfl
 | global g => simp only [Q.ev, Option.some.injEq] at hx; subst hx; rfl
 | func f => simp only [Q.ev, Option.some.injEq] at hx; subst hx; rfl
theorem Agr.eval (h : Agr n l a Z) {x : Operand} {v : Value} (hx : Q.ev l x = some (rv v)) : a.eval x = v := h.ev hx
theorem Agr.put (h : Agr n l a Z) {d : Nat} (hd : Nat.blt d n = true) {r : Rp} {v : Value} (hv : r.p Z v) : Agr n ((d, r) :: l) (a.put (some d) v) Z := by
 have hd' : d < n := by simpa using hd
 refine ⟨by simp [Act.put, h.size], by simp [Act.put, h.defers], fun i u hi => ?_⟩
 rw [look_cons] at hi
 simp only [Act.put, Array.getElem?_setIfInBounds]
 split at hi
 ·rename_i e; subst e; simp at hi; subst hi; exact ⟨v, by simp [h.size, hd'], hv⟩
 ·rename_i e; rw [if_neg e]; exact h.tm i u hi
theorem Agr.put_none (h : Agr n l a Z) (v : Value) : Agr n l (a.put none v) Z := h
theorem Agr.mono (h : Agr n l a Z) (hz : Fz.le Z Z') : Agr n l a Z' := ⟨h.size, h.defers, fun i r hi => let ⟨v, hv, hp⟩ := h.tm i r hi; ⟨v, hv, r.mono hz hp⟩⟩
def Sub : Fr → Fr → Prop
 | [], _ => True
 | p :: r, l => (∃ q, look l p.1 = some q ∧ Rle q p.2) ∧ Sub r l
theorem Sub.look : ∀ {l' l : Fr}, Sub l' l → ∀ i v, Q.look l' i = some v → ∃ q, Q.look l i = some q ∧ Rle q v
 | [], _, _, i, v, h => by simp [Q.look] at h
 | p :: r, l, ⟨h1, h2⟩, i, v, h => by
  obtain ⟨j, u⟩ := p
  rw [look_cons] at h
  split at h
  ·rename_i e; subst e; simp at h; subst h; exact h1
  ·exact Sub.look h2 i v h
theorem Sub.nil : Sub [] l := trivial
theorem Sub.c {i : Nat} {r : Rp} {t : Fr} (h : Q.look l i = some r) (ht : Sub t l) : Sub ((i, r) :: t) l := ⟨⟨r, h, Rle.refl r⟩, ht⟩
theorem Sub.w {i : Nat} {r q : Rp} {t : Fr} (h : Q.look l i = some q) (hr : Rle q r) (ht : Sub t l) : Sub ((i, r) :: t) l := ⟨⟨q, h, hr⟩, ht⟩
theorem Sub.c5 {i1 i2 i3 i4 i5 : Nat} {r1 r2 r3 r4 r5 : Rp} {t : Fr} (h1 : Q.look l i1 = some r1) (h2 : Q.look l i2 = some r2) (h3 : Q.look l i3 = some r3) (h4 : Q.look l i4 = some r4) (h5 : Q.look l i5 = some r5) (ht : Sub t l) : Sub ((i1, r1) :: (i2, r2) :: (i3, r3) :: (i4, r4) :: (i5, r5) :: t) l :=
 Sub.c h1 (Sub.c h2 (Sub.c h3 (Sub.c h4 (Sub.c h5 ht))))
theorem Agr.sub (h : Agr n l a Z) (hs : Sub l' l) : Agr n l' a Z := ⟨h.size, h.defers, fun i v hi => by
 obtain ⟨q, hq, hle⟩ := hs.look i v hi
 obtain ⟨u, hu, hp⟩ := h.tm i q hq
 exact ⟨u, hu, hle Z u hp⟩⟩
end

/-! ### Owned entries -/
inductive Ent where
 | obj (b : Nat) (o : Obj)
 | blk (b : Nat) (cs : List Rp) (e : TypeId)
 | row (v : Value) (e : TypeId) (sz : Nat) (xs : List (List Rp))
 | map (b : Nat) (m : List (List UInt8 × Rp))
 | fact (v : Value) (r : Rp)
 | bld (T e : TypeId) (b : Nat) (v : Value) (l : List UInt8)
 | mit (b it : Nat) (m rest : List (List UInt8 × Rp)) (cur : Option (List UInt8 × Rp))
def Ent.foot : Ent → List Nat
 | .obj b _ => [b]
 | .blk b _ _ => [b]
 | .row v _ _ _ => v.ownBlock.toList
 | .map b _ => [b]
 | .fact _ _ => []
 | .bld _ _ b v _ => b :: v.ownBlock.toList
 | .mit b it _ _ _ => [b, it]
def Ali (Z : Fz) : List (List UInt8 × Rp) → List MapEntry → Prop
 | [], [] => True
 | p :: f, e :: es => (e.key = .string (B p.1) ∧ p.2.p Z e.val) ∧ Ali Z f es
 | _, _ => False
theorem Ali.mono {Z Z' : Fz} (h : Fz.le Z Z') : ∀ {f : List (List UInt8 × Rp)} {es : List MapEntry}, Ali Z f es → Ali Z' f es
 | [], [], _ => trivial
 | p :: f, e :: es, ⟨⟨h1, h2⟩, h3⟩ => ⟨⟨h1, p.2.mono h h2⟩, Ali.mono h h3⟩
def MapIs (Z : Fz) (m : List (List UInt8 × Rp)) (es : List MapEntry) (ck : Nat) : Prop :=
 (m.map (·.1)).Nodup ∧ (es.map (·.born)).Nodup ∧ (∀ e ∈ es, e.born < ck) ∧ ∃ f : List (List UInt8 × Rp), f.Perm m ∧ Ali Z f es
theorem MapIs.mono {Z Z' : Fz} (h : Fz.le Z Z') {m : List (List UInt8 × Rp)} {es : List MapEntry} {ck : Nat} : MapIs Z m es ck → MapIs Z' m es ck := fun ⟨h1, h2, h3, f, h4, h5⟩ => ⟨h1, h2, h3, f, h4, h5.mono h⟩
def Left (Z : Fz) (rest : List (List UInt8 × Rp)) (es : List MapEntry) (seen : Array Nat) : Prop := ∃ f, f.Perm rest ∧ Ali Z f (es.filter fun e => !seen.contains e.born)
def Cur (Z : Fz) (es : List MapEntry) (ck : Nat) (seen : Array Nat) (c0 : Nat) : Option (List UInt8 × Rp) → Prop
 | none => True
 | some kr => c0 = ck ∧ ∃ s0 e, seen = Array.push s0 e.born ∧ e ∈ es ∧ e.key = .string (B kr.1) ∧ kr.2.p Z e.val
theorem Cur.mono {Z Z' : Fz} (h : Fz.le Z Z') {es : List MapEntry} {ck : Nat} {seen : Array Nat} {c0 : Nat} : ∀ {cur : Option (List UInt8 × Rp)}, Cur Z es ck seen c0 cur → Cur Z' es ck seen c0 cur
 | none, _ => trivial
 | some kr, ⟨h1, s0, e, h2, h3, h4, h5⟩ => ⟨h1, s0, e, h2, h3, h4, kr.2.mono h h5⟩
def Ent.holds (Z : Fz) (w : World) : Ent → Prop
 | .obj b o => w.heap[b]? = some o
 | .blk b cs e => ∃ us : List Value, w.heap[b]? = some (.cells us.toArray e (0, 0)) ∧ RpAll Z cs us
 | .row v e sz xs => (∀ c ∈ xs, c.length = sz) ∧ ∃ us : List Value, w.ownsRow 0 e sz v xs.length us ∧ RpAll Z xs.flatten us
 | .map b m => ∃ es ck, w.heap[b]? = some (.map es ck) ∧ MapIs Z m es.toList ck
 | .fact v r => r.p Z v
 | .bld T e b v l => ∃ p, (p = .pointer none ∨ p = .pointer (some ⟨b, 0, none⟩)) ∧ w.heap[b]? = some (.cells #[p, v] T (0, 0)) ∧ w.ownsRow 0 e 1 v l.length (l.map fun c => Value.int .u8 c.toNat) ∧ v.ownBlock ≠ some b
 | .mit b it m rest cur => ∃ es ck seen since c0, w.heap[b]? = some (.map es ck) ∧ w.heap[it]? = some (.mapIter (some b) since seen c0) ∧ MapIs Z m es.toList ck ∧ (∀ e ∈ es.toList, e.born < since) ∧ since ≤ c0 ∧ c0 ≤ ck ∧ b ≠ it ∧ Left Z rest es.toList seen ∧ Cur Z es.toList ck seen c0 cur
theorem Ent.lt {Z : Fz} {w : World} {e : Ent} (h : e.holds Z w) {k : Nat} (hk : k ∈ e.foot) : k < w.heap.size := by
 cases e with
 | obj b o => simp [Ent.foot] at hk; subst hk; exact (Array.getElem?_eq_some_iff.1 h).1
 | blk b cs e => simp [Ent.foot] at hk; subst hk; obtain ⟨us, h, _⟩ := h; exact (Array.getElem?_eq_some_iff.1 h).1
 | row v e sz xs => simp [Ent.foot, Option.mem_toList] at hk; obtain ⟨_, us, h, _⟩ := h; exact (World.ownsRow.lt h k hk).2
 | map b m => simp [Ent.foot] at hk; subst hk; obtain ⟨es, ck, h, _⟩ := h; exact (Array.getElem?_eq_some_iff.1 h).1
 | fact v r => simp [Ent.foot] at hk
 | bld T e b v l =>
  obtain ⟨p, _, h1, h2, _⟩ := h
  simp only [Ent.foot, List.mem_cons, Option.mem_toList] at hk
  rcases hk with rfl | hk
  ·exact (Array.getElem?_eq_some_iff.1 h1).1
  ·exact (World.ownsRow.lt h2 k hk).2
 | mit b it m rest cur =>
  obtain ⟨es, ck, seen, since, c0, h1, h2, _⟩ := h
  simp only [Ent.foot, List.mem_cons, List.not_mem_nil, or_false] at hk
  rcases hk with rfl | rfl
  ·exact (Array.getElem?_eq_some_iff.1 h1).1
  ·exact (Array.getElem?_eq_some_iff.1 h2).1
theorem ownsRow_keep {w w' : World} {e : TypeId} {sz n : Nat} {v : Value} {us : List Value} (h : w.ownsRow 0 e sz v n us) (hk : ∀ k ∈ v.ownBlock.toList, w'.heap[k]? = w.heap[k]?) : w'.ownsRow 0 e sz v n us := by
 refine ⟨h.1, ?_⟩
 rcases h.2 with hn | ⟨g, cap, cur, rfl, hb, hgg, rest⟩
 ·exact .inl hn
 ·exact .inr ⟨g, cap, cur, rfl, hb, (hk g (by simp [Value.ownBlock])).trans hgg, rest⟩
theorem Ent.keep {Z Z' : Fz} {w w' : World} {e : Ent} (h : e.holds Z w) (hz : Fz.le Z Z') (hk : ∀ k ∈ e.foot, w'.heap[k]? = w.heap[k]?) : e.holds Z' w' := by
 cases e with
 | obj b o => exact (hk b (by simp [Ent.foot])).trans h
 | blk b cs e => obtain ⟨us, h1, h2⟩ := h; exact ⟨us, (hk b (by simp [Ent.foot])).trans h1, h2.mono hz⟩
 | row v e sz xs => obtain ⟨h0, us, h1, h2⟩ := h; exact ⟨h0, us, ownsRow_keep h1 hk, h2.mono hz⟩
 | map b m => obtain ⟨es, ck, h1, h2⟩ := h; exact ⟨es, ck, (hk b (by simp [Ent.foot])).trans h1, h2.mono hz⟩
 | fact v r => exact r.mono hz h
 | bld T e b v l => obtain ⟨p, h0, h1, h2, h3⟩ := h; exact ⟨p, h0, (hk b (by simp [Ent.foot])).trans h1, ownsRow_keep h2 (fun k hk' => hk k (by simp only [Ent.foot, List.mem_cons]; exact .inr hk')), h3⟩
 | mit b it m rest cur =>
  obtain ⟨es, ck, seen, since, c0, h1, h2, h3, h4, h5, h6, h7, ⟨f, h8, h9⟩, h10⟩ := h
  exact ⟨es, ck, seen, since, c0, (hk b (by simp [Ent.foot])).trans h1, (hk it (by simp [Ent.foot])).trans h2, h3.mono hz, h4, h5, h6, h7, ⟨f, h8, h9.mono hz⟩, h10.mono hz⟩

structure Cx where
 w0 : World
 Z0 : Fz
 M : List Nat
 E : Fz → Prop
structure St (c : Cx) (H : List Ent) (Z : Fz) (w : World) : Prop where
 os : w.os = c.w0.os
 tape : w.tape = c.w0.tape
 output : w.output = c.w0.output
 size : c.w0.heap.size ≤ w.heap.size
 old : ∀ k, k < c.w0.heap.size → k ∉ c.M → w.heap[k]? = c.w0.heap[k]?
 has : ∀ e ∈ H, e.holds Z w
 own : ∀ e ∈ H, ∀ k ∈ e.foot, c.w0.heap.size ≤ k ∨ k ∈ c.M
 dis : H.Pairwise (fun e e' => ∀ k ∈ e.foot, k ∉ e'.foot)
 frz : Frz Z w
 le : Fz.le c.Z0 Z
 new : ∀ b o, Z b = some o → c.Z0 b = some o ∨ c.w0.heap.size ≤ b ∨ b ∈ c.M
 zdis : ∀ e ∈ H, ∀ k ∈ e.foot, Z k = none
 env : c.E Z
 emono : ∀ {Z Z' : Fz}, Fz.le Z Z' → c.E Z → c.E Z'
section
variable {c : Cx} {w w' : World} {Z Z' : Fz} {H H' Hr Hin Hout : List Ent}
theorem Frz.lt (h : Frz Z w) {b : Nat} {o : Obj} (e : Z b = some o) : b < w.heap.size := (Array.getElem?_eq_some_iff.1 (h b o e)).1
theorem St.enter (h : St c (Hin ++ Hr) Z w) : St ⟨w, Z, Hin.flatMap Ent.foot, c.E⟩ Hin Z w :=
 ⟨rfl, rfl, rfl, Nat.le_refl _, fun _ _ _ => rfl, fun e he => h.has e (List.mem_append_left _ he), fun e he k hk => .inr (List.mem_flatMap.2 ⟨e, he, hk⟩), (List.pairwise_append.1 h.dis).1,
  h.frz, Fz.le.refl _, fun _ _ e => .inl e, fun e he => h.zdis e (List.mem_append_left _ he), h.env, h.emono⟩
theorem St.sub (h : St c H Z w) (hs : H'.Sublist H) : St c H' Z w :=
 { h with has := fun e he => h.has e (hs.subset he), own := fun e he => h.own e (hs.subset he), dis := h.dis.sublist hs, zdis := fun e he => h.zdis e (hs.subset he) }
theorem St.perm (h : St c H Z w) (hp : H.Perm H') : St c H' Z w :=
 { h with has := fun e he => h.has e (hp.mem_iff.2 he), own := fun e he => h.own e (hp.mem_iff.2 he), dis := (hp.pairwise_iff (fun hxy k hk hk' => hxy k hk' hk)).1 h.dis, zdis := fun e he => h.zdis e (hp.mem_iff.2 he) }
theorem perm_front : ∀ {H : List Ent} {i : Nat} {e : Ent}, H[i]? = some e → H.Perm (e :: H.eraseIdx i)
 | x :: r, 0, e, h => by simp at h; subst h; simp
 | x :: r, i + 1, e, h => by
  simp at h
  exact ((perm_front h).cons x).trans (List.Perm.swap e x _)
theorem St.front (h : St c H Z w) {i : Nat} {e : Ent} (hi : H[i]? = some e) : St c (e :: H.eraseIdx i) Z w := h.perm (perm_front hi)
theorem St.ent (h : St c H Z w) {i : Nat} {en : Ent} (hi : H[i]? = some en) : en.holds Z w := h.has en (List.mem_of_getElem? hi)
theorem St.drawn (h : St c H Z w) (k : Nat) : St c H Z { w with drawn := k } :=
 { h with has := fun e he => Ent.keep (h.has e he) (Fz.le.refl _) fun _ _ => rfl, frz := h.frz }
theorem St.mem_lt (h : St c H Z w) {e : Ent} (he : e ∈ H) {k : Nat} (hk : k ∈ e.foot) : k < w.heap.size := Ent.lt (h.has e he) hk
theorem St.call (h : St c (Hin ++ Hr) Z w) {E : Fz → Prop} (h' : St ⟨w, Z, Hin.flatMap Ent.foot, E⟩ Hout Z' w') : St c (Hout ++ Hr) Z' w' := by
 have hd := List.pairwise_append.1 h.dis
 have hM : ∀ k ∈ Hin.flatMap Ent.foot, ∃ e ∈ Hin, k ∈ e.foot := fun k hk => List.mem_flatMap.1 hk
 have hM2 : ∀ k, k < c.w0.heap.size → k ∉ c.M → k ∉ Hin.flatMap Ent.foot := fun k hk hkM hkM2 => by
  obtain ⟨e, he, hke⟩ := hM k hkM2
  rcases h.own e (List.mem_append_left _ he) k hke with h1 | h1
  ·omega
  ·exact hkM h1
 have hr : ∀ e ∈ Hr, ∀ k ∈ e.foot, k < w.heap.size ∧ k ∉ Hin.flatMap Ent.foot := fun e he k hk => by
  refine ⟨h.mem_lt (List.mem_append_right _ he) hk, fun hkM2 => ?_⟩
  obtain ⟨e', he', hke'⟩ := hM k hkM2
  exact hd.2.2 e' he' e he k hke' hk
 refine ⟨h'.os.trans h.os, h'.tape.trans h.tape, h'.output.trans h.output, Nat.le_trans h.size h'.size, fun k hk hkM => ?_, fun e he => ?_, fun e he k hk => ?_, ?_, h'.frz, h.le.trans h'.le, fun b o hb => ?_, fun e he k hk => ?_, h.emono h'.le h.env, h.emono⟩
 ·exact (h'.old k (Nat.lt_of_lt_of_le hk h.size) (hM2 k hk hkM)).trans (h.old k hk hkM)
 ·rcases List.mem_append.1 he with he | he
  ·exact h'.has e he
  ·exact Ent.keep (h.has e (List.mem_append_right _ he)) h'.le fun k hk => h'.old k (hr e he k hk).1 (hr e he k hk).2
 ·rcases List.mem_append.1 he with he | he
  ·rcases h'.own e he k hk with h1 | h1
   ·exact .inl (Nat.le_trans h.size h1)
   ·obtain ⟨e', he', hke'⟩ := hM k h1
    exact h.own e' (List.mem_append_left _ he') k hke'
  ·exact h.own e (List.mem_append_right _ he) k hk
 ·refine List.pairwise_append.2 ⟨h'.dis, hd.2.1, fun e he e' he' k hk hk' => ?_⟩
  rcases h'.own e he k hk with h1 | h1
  ·have h2 := (hr e' he' k hk').1
   simp only at h1
   omega
  ·exact (hr e' he' k hk').2 h1
 ·rcases h'.new b o hb with h1 | h1 | h1
  ·exact h.new b o h1
  ·exact .inr (.inl (Nat.le_trans h.size h1))
  ·obtain ⟨e', he', hke'⟩ := hM b h1
   exact .inr (h.own e' (List.mem_append_left _ he') b hke')
 ·rcases List.mem_append.1 he with he | he
  ·exact h'.zdis e he k hk
  ·have h2 := hr e he k hk
   cases hz : Z' k with
   | none => rfl
   | some o =>
    rcases h'.new k o hz with h1 | h1 | h1
    ·have := h.zdis e (List.mem_append_right _ he) k hk; simp only at h1; rw [this] at h1; cases h1
    ·simp only at h1; omega
    ·exact absurd h1 h2.2
theorem St.call0 (h : St c H Z w) {E : Fz → Prop} (h' : St ⟨w, Z, [], E⟩ Hout Z' w') : St c (Hout ++ H) Z' w' := St.call (Hin := []) (by simpa using h) h'
theorem St.callF {e : Ent} (h : St c H Z w) {i : Nat} (hi : H[i]? = some e) {E : Fz → Prop} (h' : St ⟨w, Z, e.foot, E⟩ Hout Z' w') : St c (Hout ++ H.eraseIdx i) Z' w' :=
 St.call (Hin := [e]) (Hr := H.eraseIdx i) (h.front hi) (by simpa using h')
theorem St.one {M : List Nat} {E : Fz → Prop} {e' : Ent} (hz : Frz Z w) (he0 : E Z) (hm : ∀ {Z Z' : Fz}, Fz.le Z Z' → E Z → E Z') (os : w'.os = w.os) (tape : w'.tape = w.tape) (output : w'.output = w.output) (size : w.heap.size ≤ w'.heap.size)
  (hb : ∀ k, k < w.heap.size → k ∉ M → w'.heap[k]? = w.heap[k]?) (hM : ∀ k ∈ M, Z k = none) (he : e'.holds Z w') (hf : ∀ k ∈ e'.foot, k ∈ M ∨ w.heap.size ≤ k) : St ⟨w, Z, M, E⟩ [e'] Z w' := by
 refine ⟨os, tape, output, size, hb, by simpa using he, by simpa using fun k hk => (hf k hk).symm, by simp, fun b o hbo => ?_, Fz.le.refl _, fun _ _ e => .inl e, ?_, he0, hm⟩
 ·rw [hb b (hz.lt hbo) (fun h => by rw [hM b h] at hbo; cases hbo)]; exact hz b o hbo
 ·simp only [List.mem_singleton, forall_eq]
  intro k hk
  rcases hf k hk with h | h
  ·exact hM k h
  ·cases hz' : Z k with
   | none => rfl
   | some o => have := hz.lt hz'; omega
theorem St.set (h : St c H Z w) {i : Nat} {e e' : Ent} (hi : H[i]? = some e) (os : w'.os = w.os) (tape : w'.tape = w.tape) (output : w'.output = w.output) (size : w.heap.size ≤ w'.heap.size)
  (hb : ∀ k, k < w.heap.size → k ∉ e.foot → w'.heap[k]? = w.heap[k]?) (he : e'.holds Z w') (hf : ∀ k ∈ e'.foot, k ∈ e.foot ∨ w.heap.size ≤ k) : St c (H.set i e') Z w' := by
 have hmem := List.mem_of_getElem? hi
 have h3 := h.callF hi (St.one (e' := e') h.frz h.env h.emono os tape output size hb (h.zdis e hmem) he hf)
 have hil : i < H.length := (List.getElem?_eq_some_iff.1 hi).1
 have hq : (H.set i e')[i]? = some e' := by simp [hil]
 have := perm_front hq
 rw [List.eraseIdx_set_eq] at this
 exact h3.perm this.symm
theorem St.add (h : St c H Z w) {e' : Ent} (os : w'.os = w.os) (tape : w'.tape = w.tape) (output : w'.output = w.output) (size : w.heap.size ≤ w'.heap.size)
  (hb : ∀ k, k < w.heap.size → w'.heap[k]? = w.heap[k]?) (he : e'.holds Z w') (hf : ∀ k ∈ e'.foot, w.heap.size ≤ k) : St c (e' :: H) Z w' :=
 h.call0 (St.one (e' := e') (M := []) h.frz h.env h.emono os tape output size (fun k hk _ => hb k hk) (by simp) he (fun k hk => .inr (hf k hk)))
theorem St.alloc (h : St c H Z w) (o : Obj) {e : Ent} (he : e.holds Z (w.alloc o)) (hf : e.foot = [w.heap.size]) : St c (e :: H) Z (w.alloc o) :=
 h.add rfl rfl rfl (by simp) (fun k hk => Below.heap_alloc w o k hk) he (by simp [hf])
theorem flat_at' {α : Type} {sz : Nat} : ∀ {vs : List (List α)} (hs : ∀ c ∈ vs, c.length = sz) {i : Nat} {c : List α} (hi : vs[i]? = some c) {j : Nat} {u : α} (hj : c[j]? = some u), vs.flatten[i * sz + j]? = some u
 | [], hs, i, c, hi, j, u, hj => by simp at hi
 | x :: r, hs, 0, c, hi, j, u, hj => by
  simp at hi; subst hi
  simp only [List.flatten_cons, Nat.zero_mul, Nat.zero_add]
  rw [List.getElem?_append_left (by have := (List.getElem?_eq_some_iff.1 hj).1; exact this)]
  exact hj
 | x :: r, hs, i + 1, c, hi, j, u, hj => by
  have hx : x.length = sz := hs x (by simp)
  simp only [List.flatten_cons]
  rw [List.getElem?_append_right (by rw [hx, Nat.succ_mul]; omega)]
  have e : (i + 1) * sz + j - x.length = i * sz + j := by rw [hx, Nat.succ_mul]; omega
  rw [e]
  exact flat_at' (vs := r) (fun c hc => hs c (by simp [hc])) (by simpa using hi) hj
theorem flat_len' {α : Type} {sz : Nat} : ∀ {vs : List (List α)} (hs : ∀ c ∈ vs, c.length = sz), vs.flatten.length = vs.length * sz
 | [], _ => by simp
 | x :: r, hs => by
  have := flat_len' (vs := r) (fun c hc => hs c (by simp [hc]))
  have hx := hs x (by simp)
  simp only [List.flatten_cons, List.length_append, List.length_cons] at this ⊢
  rw [this, hx, Nat.succ_mul]; omega
theorem St.freeze (h : St c H Z w) {i : Nat} {v : Value} {e : TypeId} {sz : Nat} {xs : List (List Rp)} (hi : H[i]? = some (.row v e sz xs)) : ∃ Z', Fz.le Z Z' ∧ St c (H.eraseIdx i) Z' w ∧ SlZ sz xs Z' v := by
 obtain ⟨h0, us, ⟨h1, h2⟩, h3⟩ := h.ent hi
 have hlen := h3.length
 rcases h2 with ⟨rfl, hn⟩ | ⟨g, cap, cur, rfl, _, hg, hc, hm, hsz, htk⟩
 ·have : xs = [] := List.eq_nil_of_length_eq_zero hn
  subst this
  exact ⟨Z, Fz.le.refl _, h.sub (List.eraseIdx_sublist _ _), SlZ.nil _ _⟩
 ·have hmem := List.mem_of_getElem? hi
  have hgz : Z g = none := h.zdis _ hmem g (by simp [Ent.foot, Value.ownBlock])
  let Z' : Fz := fun b => if b = g then some (.cells cur e (0, 0)) else Z b
  have hle : Fz.le Z Z' := fun b o hb => by
   have : b ≠ g := fun e => by subst e; rw [hgz] at hb; cases hb
   simpa [Z', this] using hb
  have hfr := h.front hi
  have hd := List.pairwise_cons.1 hfr.dis
  refine ⟨Z', hle, ?_, ?_⟩
  ·have hs := hfr.sub (List.sublist_cons_self _ _)
   refine { hs with has := fun en he => Ent.keep (hs.has en he) hle fun _ _ => rfl, frz := fun b o hb => ?_, le := hs.le.trans hle, new := fun b o hb => ?_, zdis := fun en he k hk => ?_, env := hs.emono hle hs.env }
   ·by_cases hbg : b = g
    ·subst hbg; simp [Z'] at hb; rw [← hb]; exact hg
    ·simp [Z', hbg] at hb; exact h.frz b o hb
   ·by_cases hbg : b = g
    ·subst hbg; exact .inr (h.own _ hmem b (by simp [Ent.foot, Value.ownBlock]))
    ·simp [Z', hbg] at hb; exact h.new b o hb
   ·have hkg : k ≠ g := fun e => hd.1 en he g (by simp [Ent.foot, Value.ownBlock]) (e ▸ hk)
    simp only [Z', hkg, if_false]
    exact hs.zdis en he k hk
  ·refine ⟨some ⟨g, 0, none⟩, cap, rfl, hc, hm, (fun h => by cases h), fun j cl hj => ⟨h0 cl (List.mem_of_getElem? hj), ⟨g, 0, none⟩, rfl, rfl, fun q r hq => ?_⟩⟩
   have hfl : xs.flatten[j * sz + q]? = some r := flat_at' h0 hj hq
   obtain ⟨u, hu, hp⟩ := h3.at hfl
   refine ⟨u, ?_, r.mono hle hp⟩
   rw [← htk, List.getElem?_take] at hu
   split at hu
   ·simpa [zcell, Z'] using hu
   ·cases hu
end
end Go.Proofs.YtpmiamphppcfeaaGreatDoor.Q

/-
 Operations on memory. Plain theorems over any program; no condition.
-/
namespace Go.Proofs.YtpmiamphppcfeaaGreatDoor
open Go Go.RowKit
set_option linter.unusedVariables false

theorem addm (b o j : Nat) : (⟨b, o, none⟩ : Addr).add j = ⟨b, o + j, none⟩ := by unfold Addr.add; split <;> simp_all

section
variable {P : Program} {n : Nat} {w0 : World} {M : List Nat} {ops : Array Oper} {Q : Exit → Act → World → Prop} {rest : List Oper} {l : Fr} {H H' : List Ent} {d : Nat} {x y c : Operand} {ty t t' e : TypeId} {pos : String} {af : Array Edge} {g : Option (Nat × Bool)} {v u : Value}
theorem St.ent {w : World} (h : St w0 M H w) {i : Nat} {en : Ent} (hi : H[i]? = some en) : en.holds w := h.has en (List.mem_of_getElem? hi)

/-! ### New blocks -/
theorem w_alloc {z : Value} {cs : Array Value} (hz : ∀ w, (zeroValue e).run P w = .ok z w) (hcs : z.cells = cs) (hn : Nat.blt d n = true)
  (h : ∀ b, WL P n w0 M ops Q rest ((d, .pointer (some ⟨b, 0, none⟩)) :: l) (.blk b (.cells cs e (0, 0)) :: H)) :
  WL P n w0 M ops Q ({ dst := some d, op := .alloc e, type := ty, pos := pos, after := af, guard := none } :: rest) l H :=
 wl_w (fun a w ha hw => ⟨_, w.alloc (.cells cs e), _, by subst hcs; simp [execOp, Instr.alloc, hz, newVar, newRow, newObj, Sem.run, Sem.run_bind], hw.alloc _, h w.heap.size⟩) hn
theorem w_box {cs : Array Value} (hx : ev l x = some v) (hcs : v.cells = cs) (hn : Nat.blt d n = true)
  (h : ∀ b, WL P n w0 M ops Q rest ((d, .pointer (some ⟨b, 0, none⟩)) :: l) (.blk b (.cells cs e (0, 0)) :: H)) :
  WL P n w0 M ops Q ({ dst := some d, op := .box e x, type := ty, pos := pos, after := af, guard := none } :: rest) l H :=
 wl_w (fun a w ha hw => ⟨_, w.alloc (.cells cs e), _, by subst hcs; simp [execOp, ha.eval hx, Instr.box, newVar, newRow, newObj, Sem.run], hw.alloc _, h w.heap.size⟩) hn

/-! ### Loads and stores in blocks that are known -/
theorem cell_blk {w : World} {i b off : Nat} {cs : Array Value} {fz : Nat × Nat} (hw : St w0 M H w) (hi : H[i]? = some (.blk b (.cells cs e fz))) : w.cell? ⟨b, off, none⟩ = cs[off]? :=
 cell_of_row w b off cs e fz (hw.ent hi)
theorem o_load {i b off : Nat} {cs : Array Value} {fz : Nat × Nat} {dd : Option Nat} (hag : ∀ w, (isAgg t).run P w = .ok false w) (hx : ev l x = some (.pointer (some ⟨b, off, none⟩)))
  (hi : H[i]? = some (.blk b (.cells cs e fz))) (hc : cs[off]? = some v) : ORun P n w0 M l H { dst := dd, op := .load t x, type := ty, pos := pos, after := af, guard := g } v := fun a w ha hw => by
 simp [execOp, ha.eval hx, Instr.loadAt, Instr.sureAddr, loadVar, hag, cell_blk hw hi, hc]
theorem o_load_agg {i b off sz : Nat} {cs : Array Value} {fz : Nat × Nat} {dd : Option Nat} {r : List Value} (hag : ∀ w, (isAgg t).run P w = .ok true w) (hsz : ∀ w, (sizeOf t).run P w = .ok sz w)
  (hx : ev l x = some (.pointer (some ⟨b, off, none⟩))) (hi : H[i]? = some (.blk b (.cells cs e fz))) (hr : (cs.toList.drop off).take sz = r) (hl : r.length = sz) :
  ORun P n w0 M l H { dst := dd, op := .load t x, type := ty, pos := pos, after := af, guard := g } (.agg r.toArray) := fun a w ha hw => by
 have h1 := run_loadCells_list (P := P) w ⟨b, off, none⟩ r (fun j u hj => by
  rw [addm, cell_blk hw hi]
  subst hr
  rw [List.getElem?_take] at hj
  split at hj
  ·simpa using hj
  ·cases hj)
 rw [hl] at h1
 simp [execOp, ha.eval hx, Instr.loadAt, Instr.sureAddr, loadVar, hag, hsz, h1]
theorem St.setBlk {w : World} (h : St w0 M H w) {i b : Nat} {cs cs' : Array Value} (hi : H[i]? = some (.blk b (.cells cs e (0, 0)))) : St w0 M (H.set i (.blk b (.cells cs' e (0, 0)))) (w.setRow b cs') := by
 have hb : w.heap[b]? = some (.cells cs e (0, 0)) := h.ent hi
 refine h.set hi rfl rfl rfl (by simp [World.setRow]) (fun k _ hk => ?_) ?_ (by simp [Ent.foot])
 ·simp only [Ent.foot, List.mem_singleton] at hk
  simp only [World.setRow, Array.getElem?_modify]
  rw [if_neg (fun e => hk e.symm)]
 ·exact setRow_heap w b cs cs' e (0, 0) hb
theorem u_store {i b off : Nat} {cs cs' : Array Value} (hag : ∀ w, (sizeOf t).run P w = .ok 1 w) (hx : ev l x = some (.pointer (some ⟨b, off, none⟩))) (hy : ev l y = some v) (hv : v.oneCell' = true)
  (hi : H[i]? = some (.blk b (.cells cs e (0, 0)))) (hlt : Nat.blt off cs.size = true) (hcs : cs.setIfInBounds off v = cs') (hH : H.set i (.blk b (.cells cs' e (0, 0))) = H')
  (h : WL P n w0 M ops Q rest l H') : WL P n w0 M ops Q ({ dst := none, op := .store t x y, type := ty, pos := pos, after := af, guard := none } :: rest) l H :=
 wl_u fun a w ha hw => by
  have hb : w.heap[b]? = some (.cells cs e (0, 0)) := hw.ent hi
  have hlt' : off < cs.size := by simpa using hlt
  have h1 := run_storeCells_at P b off e [v] 0 cs w hb (by simp; omega) (by simpa using hv)
  have hcv : v.cells = #[v] := by cases v <;> first | rfl | simp [Value.oneCell'] at hv
  have h2 : (cs.toList.take off ++ [v] ++ cs.toList.drop (off + 1)).toArray = cs' := by
   subst hcs
   apply Array.ext'
   simp [Array.toList_setIfInBounds, List.set_eq_take_append_cons_drop, hlt']
  simp only [Nat.add_zero, List.length_cons, List.length_nil, Nat.zero_add] at h1
  rw [h2] at h1
  refine ⟨w.setRow b cs', H', ?_, ?_, h⟩
  ·simp [execOp, ha.eval hx, ha.eval hy, Instr.storeAt, Instr.sureAddr, storeVar, hag, hcv, h1]
  ·subst hH; exact hw.setBlk hi
theorem u_store_agg {i b off sz : Nat} {cs : Array Value} {r r' : List Value} (hsz : ∀ w, (sizeOf t).run P w = .ok sz w) (hx : ev l x = some (.pointer (some ⟨b, off, none⟩))) (hy : ev l y = some (.agg r.toArray))
  (hl : r.length = sz) (hv : r.all (·.oneCell') = true) (hi : H[i]? = some (.blk b (.cells cs e (0, 0)))) (hlt : off + sz ≤ cs.size)
  (hcs : cs.toList.take off ++ r ++ cs.toList.drop (off + sz) = r') (hH : H.set i (.blk b (.cells r'.toArray e (0, 0))) = H')
  (h : WL P n w0 M ops Q rest l H') : WL P n w0 M ops Q ({ dst := none, op := .store t x y, type := ty, pos := pos, after := af, guard := none } :: rest) l H :=
 wl_u fun a w ha hw => by
  have hb : w.heap[b]? = some (.cells cs e (0, 0)) := hw.ent hi
  have h1 := run_storeCells_at P b off e r 0 cs w hb (by omega) (by simpa [List.all_eq_true] using hv)
  simp only [Nat.add_zero, hl, hcs] at h1
  refine ⟨w.setRow b r'.toArray, H', ?_, ?_, h⟩
  ·simp [execOp, ha.eval hx, ha.eval hy, Instr.storeAt, Instr.sureAddr, storeVar, hsz, Value.cells, hl, h1]
  ·subst hH; exact hw.setBlk hi

/-! ### Addresses -/
theorem o_nilcheck {p : Addr} {dd : Option Nat} (hx : ev l x = some (.pointer (some p))) : ORun P n w0 M l H { dst := dd, op := .nilCheck x, type := ty, pos := pos, after := af, guard := g } (.pointer (some p)) := fun a w ha hw => by
 simp [execOp, ha.eval hx]
theorem o_fieldAddr {b off off' i sz : Nat} {fs : Array Field} {f : Field} {dd : Option Nat} (hu : P.underlying t = some (.struct fs)) (hf : fs[i]? = some f) (hsz : ∀ w, (sizeOf f.type).run P w = .ok (sz + 1) w)
  (hx : ev l x = some (.pointer (some ⟨b, off, none⟩))) (ho : off + f.offset = off') : ORun P n w0 M l H { dst := dd, op := .fieldAddr t x i, type := ty, pos := pos, after := af, guard := g } (.pointer (some ⟨b, off', none⟩)) := fun a w ha hw => by
 subst ho
 simp [execOp, ha.eval hx, Instr.fieldAt, run_underlying hu, hf, Instr.sureAddr, fieldPlace, hsz, addm]
end
end Go.Proofs.YtpmiamphppcfeaaGreatDoor

/-
 The door of a function, its ends, and calls. Plain theorems over any program; no condition.
-/
namespace Go.Proofs.YtpmiamphppcfeaaGreatDoor
open Go Go.RowKit
set_option linter.unusedVariables false

def argFr : Nat → List Value → Fr
 | _, [] => []
 | i, v :: r => (i, v) :: argFr (i + 1) r
theorem look_argFr : ∀ (args : List Value) (k i : Nat) (v : Value), look (argFr k args) i = some v → k ≤ i ∧ args[i - k]? = some v
 | [], k, i, v, h => by simp [argFr, look] at h
 | u :: r, k, i, v, h => by
  rw [argFr, look_cons] at h
  split at h
  ·rename_i e; subst e; simp at h; subst h; simp
  ·rename_i e
   have := look_argFr r (k + 1) i v h
   refine ⟨by omega, ?_⟩
   rw [show i - k = (i - (k + 1)) + 1 from by omega]
   simpa using this.2

section
variable {P : Program} {n : Nat} {w0 w : World} {M : List Nat} {ops : Array Oper} {Q : Exit → Act → World → Prop} {rest : List Oper} {l l' : Fr} {H H' : List Ent} {d : Nat} {ty t : TypeId} {pos : String} {af : Array Edge} {v u : Value}
theorem enterM {f : FuncId} {fn : Func} {c : Code} {args : List Value} {R : Ending → World → Prop} (hf : P.funcs[f]? = some fn) (hb : fn.body = some c) (hn : fn.ntmps = n) (hle : Nat.ble args.length n = true)
  (hw : St w0 M H w) (h : WC P n w0 M c (bodyPost P fn R) (argFr 0 args) H) : Calls P f args.toArray w R := by
 have hle' : args.length ≤ n := by simpa using hle
 refine calls_of_wp hf hb (h _ w ⟨?_, rfl, fun i v hi => ?_⟩ hw)
 ·simp [hn]; omega
 ·have := (look_argFr args 0 i v hi).2
  simp only [Nat.sub_zero] at this
  have hlt : i < args.length := (List.getElem?_eq_some_iff.1 this).1
  rw [Array.getElem?_append_left (by simpa using hlt)]
  simpa using this
theorem enter0 {f : FuncId} {fn : Func} {c : Code} {args : List Value} {R : Ending → World → Prop} (hf : P.funcs[f]? = some fn) (hb : fn.body = some c) (hn : fn.ntmps = n) (hle : Nat.ble args.length n = true)
  (h : WC P n w [] c (bodyPost P fn R) (argFr 0 args) []) : Calls P f args.toArray w R := enterM hf hb hn hle (St.refl w []) h

/-! ### Ends -/
theorem wk_ret {fn : Func} {R : Ending → World → Prop} (hr : ∀ a w, Agr n l a → St w0 M H w → (results fn a.tmps).run P w = .ok v w) (h : ∀ w, St w0 M H w → R (.returned v) w) : WK n w0 M (bodyPost P fn R .ret) l H :=
 fun a w ha hw => ⟨ha.defers, v, hr a w ha hw, h w hw⟩
theorem wk_end {fn : Func} {R : Ending → World → Prop} (hr : ∀ a w, Agr n l a → St w0 M H w → (results fn a.tmps).run P w = .ok v w) (h : ∀ w, St w0 M H w → R (.returned v) w) : WK n w0 M (bodyPost P fn R .normal) l H :=
 fun a w ha hw => ⟨ha.defers, v, hr a w ha hw, h w hw⟩
theorem tmp_getD {a : Act} (ha : Agr n l a) {i : Nat} (h : look l i = some v) : a.tmps[i]?.getD undef = v := by
 rw [ha.tm i v h]; rfl
theorem r_0 {fn : Func} (hr : fn.results = #[]) : ∀ a w, Agr n l a → St w0 M H w → (results fn a.tmps).run P w = .ok (.tuple #[]) w := fun a w ha hw => by simp [results, hr]
theorem r_1 {fn : Func} {i : Nat} (hr : fn.results = #[.tmp i]) (h : look l i = some v) : ∀ a w, Agr n l a → St w0 M H w → (results fn a.tmps).run P w = .ok v w := fun a w ha hw => by
 have e := tmp_getD ha h
 simp [results, hr, e]
theorem r_2 {fn : Func} {i j : Nat} (hr : fn.results = #[.tmp i, .tmp j]) (h : look l i = some v) (h2 : look l j = some u) : ∀ a w, Agr n l a → St w0 M H w → (results fn a.tmps).run P w = .ok (.tuple #[v, u]) w := fun a w ha hw => by
 have e := tmp_getD ha h
 have e2 := tmp_getD ha h2
 simp [results, hr, e, e2]
theorem r_3 {fn : Func} {i j k : Nat} {u' : Value} (hr : fn.results = #[.tmp i, .tmp j, .tmp k]) (h : look l i = some v) (h2 : look l j = some u) (h3 : look l k = some u') : ∀ a w, Agr n l a → St w0 M H w → (results fn a.tmps).run P w = .ok (.tuple #[v, u, u']) w := fun a w ha hw => by
 have e := tmp_getD ha h
 have e2 := tmp_getD ha h2
 have e3 := tmp_getD ha h3
 simp [results, hr, e, e2, e3]
theorem retv (e : v = u) : ∀ w, St w0 [] H w → RetV w0 u (.returned v) w := fun w hw => ⟨by rw [e], hw.sub (List.nil_sublist _)⟩

/-! ### Calls of functions by name -/
theorem run_callee {f : FuncId} {args : Array Operand} {ats : Array TypeId} {o : Oper} {a : Act} {vs : List Value} (ho : o.op = .call { callee := .value (.func f), args := args, argTypes := ats })
  (hcall : ∀ (as1 : Array Value) (w : World), (callFunc f as1).run P w = .ok (.enter f as1) w) (hv : (args.map a.eval) = vs.toArray) (w : World) : (execOp a.eval o).run P w = .ok (.enter f vs.toArray) w := by
 simp [execOp, ho, resolve, Act.eval, Deferred.ofValue, invoke, hv, hcall]
def evs (l : Fr) : List Operand → Option (List Value)
 | [] => some []
 | x :: r => match ev l x, evs l r with
  | some v, some vs => some (v :: vs)
  | _, _ => none
theorem evs_map {a : Act} (ha : Agr n l a) : ∀ {xs : List Operand} {vs : List Value}, evs l xs = some vs → xs.map a.eval = vs
 | [], vs, h => by simp [evs] at h; subst h; rfl
 | x :: r, vs, h => by
  simp only [evs] at h
  split at h
  ·rename_i v vs' h1 h2
   simp at h; subst h
   simp [ha.eval h1, evs_map ha h2]
  ·cases h
theorem w_call {f : FuncId} {args : List Operand} {ats : Array TypeId} {vs : List Value} (hcall : ∀ (as1 : Array Value) (w : World), (callFunc f as1).run P w = .ok (.enter f as1) w) (hv : evs l args = some vs)
  (hc : ∀ w, St w0 M H w → Calls P f vs.toArray w (RetV w u)) (hn : Nat.blt d n = true) (h : WL P n w0 M ops Q rest ((d, u) :: l) H) :
  WL P n w0 M ops Q ({ dst := some d, op := .call { callee := .value (.func f), args := args.toArray, argTypes := ats }, type := ty, pos := pos, after := af, guard := none } :: rest) l H :=
 wl_call (fun a w ha hw => run_callee rfl hcall (by simp [evs_map ha hv]) w) (fun w hw => (hc w hw).mono fun e w' ⟨he, hs⟩ => ⟨u, H, he, by simpa using hw.call0 hs, h⟩) hn
theorem w_callM {f : FuncId} {args : List Operand} {ats : Array TypeId} {vs : List Value} {Φ : Value → List Ent → Prop} (hcall : ∀ (as1 : Array Value) (w : World), (callFunc f as1).run P w = .ok (.enter f as1) w) (hv : evs l args = some vs)
  (hc : ∀ w, St w0 M H w → Calls P f vs.toArray w (Ret w [] Φ)) (hn : Nat.blt d n = true) (h : ∀ u Ho, Φ u Ho → WL P n w0 M ops Q rest ((d, u) :: l) (Ho ++ H)) :
  WL P n w0 M ops Q ({ dst := some d, op := .call { callee := .value (.func f), args := args.toArray, argTypes := ats }, type := ty, pos := pos, after := af, guard := none } :: rest) l H :=
 wl_call (fun a w ha hw => run_callee rfl hcall (by simp [evs_map ha hv]) w) (fun w hw => (hc w hw).mono fun e w' ⟨v, Ho, he, hs, hf⟩ => ⟨v, Ho ++ H, he, hw.call0 hs, h v Ho hf⟩) hn
end
end Go.Proofs.YtpmiamphppcfeaaGreatDoor

/-
 The calculus's judgements: code, rows of operations, loops, ends, calls. Plain theorems over any program; no condition.
-/
namespace Go.Proofs.YtpmiamphppcfeaaGreatDoor.Q
open Go Go.RowKit
set_option linter.unusedVariables false
section
variable (P : Program) (n : Nat) (c : Cx)
def WL (ops : Array Oper) (Q : Exit → Act → World → Prop) (rest : List Oper) (l : Fr) (H : List Ent) : Prop := ∀ a w Z, Agr n l a Z → St c H Z w → wpList P ops Q rest a w
def WC (x : Code) (Q : Exit → Act → World → Prop) (l : Fr) (H : List Ent) : Prop := ∀ a w Z, Agr n l a Z → St c H Z w → x.wp P Q a w
def WK (K : Act → World → Prop) (l : Fr) (H : List Ent) : Prop := ∀ a w Z, Agr n l a Z → St c H Z w → K a w
def Some1 {S : Type} (inv : S → Prop) (fr : S → Fr) (hp : S → List Ent) : Act → World → Prop := fun a w => ∃ s Z, inv s ∧ Agr n (fr s) a Z ∧ St c (hp s) Z w
def ORun (l : Fr) (H : List Ent) (o : Oper) (r : Rp) : Prop := ∀ a w Z, Agr n l a Z → St c H Z w → ∃ v, r.p Z v ∧ (execOp a.eval o).run P w = .ok (.value v) w
end
def Ret (c : Cx) (Φ : Rp → List Ent → Prop) : Ending → World → Prop := fun e w' => ∃ r v H Z, e = .returned v ∧ Φ r H ∧ r.p Z v ∧ St c H Z w'
def Fn (P : Program) (E : Fz → Prop) (f : FuncId) (args : List Rp) (Hin : List Ent) (Φ : Rp → List Ent → Prop) : Prop :=
 ∀ w Z (vs : List Value), RpAll Z args vs → St ⟨w, Z, Hin.flatMap Ent.foot, E⟩ Hin Z w → Calls P f vs.toArray w (Ret ⟨w, Z, Hin.flatMap Ent.foot, E⟩ Φ)
abbrev Fn0 (P : Program) (E : Fz → Prop) (f : FuncId) (args : List Rp) (r : Rp) : Prop := Fn P E f args [] (fun r' H => r' = r ∧ H = [])

def Rles : List Rp → List Rp → Prop
 | [], [] => True
 | a :: as1, b :: bs => Rle a b ∧ Rles as1 bs
 | _, _ => False
theorem Rles.all {Z : Fz} : ∀ {rs rs' : List Rp} {vs : List Value}, Rles rs rs' → RpAll Z rs vs → RpAll Z rs' vs
 | [], [], [], _, _ => trivial
 | a :: as1, b :: bs, v :: vs, ⟨h1, h2⟩, ⟨h3, h4⟩ => ⟨h1 Z v h3, h2.all h4⟩
theorem Fn.args {P : Program} {E : Fz → Prop} {f : FuncId} {rs rs' : List Rp} {Hin : List Ent} {Φ : Rp → List Ent → Prop} (h : Fn P E f rs' Hin Φ) (hl : Rles rs rs') : Fn P E f rs Hin Φ := fun w Z vs hv hs => h w Z vs (hl.all hv) hs

section
variable {P : Program} {n : Nat} {c : Cx} {ops : Array Oper} {Q : Exit → Act → World → Prop} {rest : List Oper} {l l' : Fr} {H H' : List Ent} {x y : Code} {K : Act → World → Prop}
theorem WC.sub (hl : Sub l' l) (hH : H'.Sublist H) (h : WC P n c x Q l' H') : WC P n c x Q l H := fun a w Z ha hw => h a w Z (ha.sub hl) (hw.sub hH)
theorem WK.sub (hl : Sub l' l) (hH : H'.Sublist H) (h : WK n c K l' H') : WK n c K l H := fun a w Z ha hw => h a w Z (ha.sub hl) (hw.sub hH)
theorem WL.sub (hl : Sub l' l) (hH : H'.Sublist H) (h : WL P n c ops Q rest l' H') : WL P n c ops Q rest l H := fun a w Z ha hw => h a w Z (ha.sub hl) (hw.sub hH)
theorem WL.front {i : Nat} {e : Ent} (hi : H[i]? = some e) (h : WL P n c ops Q rest l (e :: H.eraseIdx i)) : WL P n c ops Q rest l H := fun a w Z ha hw => h a w Z ha (hw.front hi)
theorem St.freezeF {Z : Fz} {w : World} (h : St c H Z w) {i : Nat} {v : Value} {e : TypeId} {sz : Nat} {xs : List (List Rp)} (hi : H[i]? = some (.row v e sz xs)) : ∃ Z', Fz.le Z Z' ∧ St c (.fact v (rSl sz xs) :: H.eraseIdx i) Z' w := by
 obtain ⟨Z', hz, hs, hr⟩ := h.freeze hi
 exact ⟨Z', hz, hs.add rfl rfl rfl (Nat.le_refl _) (fun _ _ => rfl) (e' := .fact v (rSl sz xs)) hr (by simp [Ent.foot])⟩
theorem WK.freeze {i : Nat} {v : Value} {e : TypeId} {sz : Nat} {xs : List (List Rp)} (hi : H[i]? = some (.row v e sz xs)) (h : WK n c K l (.fact v (rSl sz xs) :: H.eraseIdx i)) : WK n c K l H := fun a w Z ha hw => by
 obtain ⟨Z', hz, hs⟩ := St.freezeF hw hi
 exact h a w Z' (ha.mono hz) hs
theorem WC.freeze {i : Nat} {v : Value} {e : TypeId} {sz : Nat} {xs : List (List Rp)} (hi : H[i]? = some (.row v e sz xs)) (h : WC P n c x Q l (.fact v (rSl sz xs) :: H.eraseIdx i)) : WC P n c x Q l H := fun a w Z ha hw => by
 obtain ⟨Z', hz, hs⟩ := St.freezeF hw hi
 exact h a w Z' (ha.mono hz) hs
theorem WL.freeze {i : Nat} {v : Value} {e : TypeId} {sz : Nat} {xs : List (List Rp)} (hi : H[i]? = some (.row v e sz xs)) (h : WL P n c ops Q rest l (.fact v (rSl sz xs) :: H.eraseIdx i)) : WL P n c ops Q rest l H := fun a w Z ha hw => by
 obtain ⟨Z', hz, hs⟩ := St.freezeF hw hi
 exact h a w Z' (ha.mono hz) hs
def Up (H : List Ent) (q r : Rp) : Prop := ∀ (c : Cx) Z w v, St c H Z w → q.p Z v → r.p Z v
theorem Up.refl (r : Rp) : Up H r r := fun _ _ _ _ _ h => h
theorem Up.le {q r : Rp} (h : Rle q r) : Up H q r := fun _ Z _ v _ hp => h Z v hp
theorem Up.fact {i : Nat} {v : Value} {r : Rp} (hi : H[i]? = some (.fact v r)) : Up H (rv v) r := fun c Z w u hw hp => by rw [show u = v from hp]; exact hw.ent hi
def UpAll (H : List Ent) : List Rp → List Rp → Prop
 | [], [] => True
 | q :: qs, r :: rs => Up H q r ∧ UpAll H qs rs
 | _, _ => False
theorem UpAll.refl : ∀ rs : List Rp, UpAll H rs rs
 | [] => trivial
 | r :: rs => ⟨Up.refl r, UpAll.refl rs⟩
theorem UpAll.all {c : Cx} {Z : Fz} {w : World} (hw : St c H Z w) : ∀ {qs rs : List Rp} {vs : List Value}, UpAll H qs rs → RpAll Z qs vs → RpAll Z rs vs
 | [], [], [], _, _ => trivial
 | q :: qs, r :: rs, v :: vs, ⟨h1, h2⟩, ⟨h3, h4⟩ => ⟨h1 c Z w v hw h3, h2.all hw h4⟩
theorem Up.agg {qs rs : List Rp} (h : UpAll H qs rs) : Up H (rAgg qs) (rAgg rs) := fun c Z w v hw ⟨us, e, hu⟩ => ⟨us, e, h.all hw hu⟩
theorem Agr.up {a : Act} {Z : Fz} {w : World} (ha : Agr n l a Z) (hw : St c H Z w) {d : Nat} {q r : Rp} (hd : look l d = some q) (hr : Up H q r) : Agr n ((d, r) :: l) a Z :=
 ⟨ha.size, ha.defers, fun i s hi => by
  rw [look_cons] at hi
  split at hi
  ·rename_i e; subst e; simp at hi; subst hi
   obtain ⟨u, hu, hp⟩ := ha.tm d _ hd
   exact ⟨u, hu, hr c Z w u hw hp⟩
  ·exact ha.tm i s hi⟩
theorem WK.up {d : Nat} {q r : Rp} (hd : look l d = some q) (hr : Up H q r) (h : WK n c K ((d, r) :: l) H) : WK n c K l H := fun a w Z ha hw => h a w Z (ha.up hw hd hr) hw
theorem WC.up {d : Nat} {q r : Rp} (hd : look l d = some q) (hr : Up H q r) (h : WC P n c x Q ((d, r) :: l) H) : WC P n c x Q l H := fun a w Z ha hw => h a w Z (ha.up hw hd hr) hw
theorem WL.up {d : Nat} {q r : Rp} (hd : look l d = some q) (hr : Up H q r) (h : WL P n c ops Q rest ((d, r) :: l) H) : WL P n c ops Q rest l H := fun a w Z ha hw => h a w Z (ha.up hw hd hr) hw
theorem St.upBlk {Z : Fz} {w : World} (h : St c H Z w) {i b : Nat} {cs cs' : List Rp} {e : TypeId} (hi : H[i]? = some (.blk b cs e)) (hu : UpAll H cs cs') : St c (H.set i (.blk b cs' e)) Z w :=
 h.set hi rfl rfl rfl (Nat.le_refl _) (fun _ _ _ => rfl) (by obtain ⟨us, h1, h2⟩ := h.ent hi; exact ⟨us, h1, hu.all h h2⟩) (by simp [Ent.foot])
theorem WK.upBlk {i b : Nat} {cs cs' : List Rp} {e : TypeId} (hi : H[i]? = some (.blk b cs e)) (hu : UpAll H cs cs') (h : WK n c K l (H.set i (.blk b cs' e))) : WK n c K l H := fun a w Z ha hw => h a w Z ha (hw.upBlk hi hu)
theorem WC.upBlk {i b : Nat} {cs cs' : List Rp} {e : TypeId} (hi : H[i]? = some (.blk b cs e)) (hu : UpAll H cs cs') (h : WC P n c x Q l (H.set i (.blk b cs' e))) : WC P n c x Q l H := fun a w Z ha hw => h a w Z ha (hw.upBlk hi hu)
theorem WL.upBlk {i b : Nat} {cs cs' : List Rp} {e : TypeId} (hi : H[i]? = some (.blk b cs e)) (hu : UpAll H cs cs') (h : WL P n c ops Q rest l (H.set i (.blk b cs' e))) : WL P n c ops Q rest l H := fun a w Z ha hw => h a w Z ha (hw.upBlk hi hu)

theorem wc_seq (h : WC P n c x (Exit.then (fun a w => y.wp P Q a w) Q) l H) : WC P n c (x.seq y) Q l H := fun a w Z ha hw => wp_seq (h a w Z ha hw)
theorem wc_seq_cut {S : Type} (inv : S → Prop) (fr : S → Fr) (hp : S → List Ent) (h : WC P n c x (Exit.then (Some1 n c inv fr hp) Q) l H) (h2 : ∀ s, inv s → WC P n c y Q (fr s) (hp s)) :
  WC P n c (x.seq y) Q l H := fun a w Z ha hw => wp_seq (wp_mono (h a w Z ha hw) fun e a w q => by
   cases e with
   | normal => obtain ⟨s, Z, hi, hs, ht⟩ := q; exact h2 s hi a w Z hs ht
   | _ => exact q)
theorem wk_some {S : Type} {inv : S → Prop} {fr : S → Fr} {hp : S → List Ent} (s : S) (hi : inv s) (hl : Sub (fr s) l) (hH : (hp s).Sublist H) : WK n c (Some1 n c inv fr hp) l H :=
 fun _ _ Z ha hw => ⟨s, Z, hi, ha.sub hl, hw.sub hH⟩
theorem wk_then (h : WK n c K l H) : WK n c (Exit.then K Q .normal) l H := h
theorem wk_then_exit {id : Nat} (h : WK n c (Q (.exit id)) l H) : WK n c (Exit.then K Q (.exit id)) l H := h
theorem wk_then_ret (h : WK n c (Q .ret) l H) : WK n c (Exit.then K Q .ret) l H := h
theorem wk_in_norm {id : Nat} (h : WK n c (Q .normal) l H) : WK n c (Exit.inBlock id Q .normal) l H := h
theorem wk_in_ret {id : Nat} (h : WK n c (Q .ret) l H) : WK n c (Exit.inBlock id Q .ret) l H := h
theorem wc_of_wk (h : WC P n c y Q l H) : WK n c (fun a w => y.wp P Q a w) l H := h
theorem wc_skip (h : WK n c (Q .normal) l H) : WC P n c .skip Q l H := fun a w Z ha hw => wp_skip (h a w Z ha hw)
theorem wc_exit {id : Nat} (h : WK n c (Q (.exit id)) l H) : WC P n c (.exit id) Q l H := fun a w Z ha hw => wp_exit (h a w Z ha hw)
theorem wc_ret (h : WK n c (Q .ret) l H) : WC P n c .ret Q l H := fun a w Z ha hw => wp_ret (h a w Z ha hw)
theorem wc_block {id : Nat} (h : WC P n c x (Exit.inBlock id Q) l H) : WC P n c (.block id x) Q l H := fun a w Z ha hw => wp_block (h a w Z ha hw)
theorem wk_in_hit {id : Nat} (h : WK n c (Q .normal) l H) : WK n c (Exit.inBlock id Q (.exit id)) l H := fun a w Z ha hw => by
 show if id = id then _ else _
 rw [if_pos rfl]; exact h a w Z ha hw
theorem wc_cond {o : Operand} {b : Bool} (ho : ev l o = some (rB b)) (h1 : b = true → WC P n c x Q l H) (h2 : b = false → WC P n c y Q l H) : WC P n c (.cond o x y) Q l H :=
 fun a w Z ha hw => wp_cond_split (ha.eval ho) (fun e => h1 e a w Z ha hw) (fun e => h2 e a w Z ha hw)
theorem wc_cond_t {o : Operand} {b : Bool} (ho : ev l o = some (rB b)) (hb : b = true) (h : WC P n c x Q l H) : WC P n c (.cond o x y) Q l H :=
 fun a w Z ha hw => by subst hb; exact wp_cond_true (ha.eval ho) (h a w Z ha hw)
theorem wc_cond_f {o : Operand} {b : Bool} (ho : ev l o = some (rB b)) (hb : b = false) (h : WC P n c y Q l H) : WC P n c (.cond o x y) Q l H :=
 fun a w Z ha hw => by subst hb; exact wp_cond_false (ha.eval ho) (h a w Z ha hw)
theorem wc_loop {S : Type} (inv : S → Prop) (fr : S → Fr) (hp : S → List Ent) (μ : S → Nat) (s0 : S) (h0 : inv s0) (hl : Sub (fr s0) l) (hH : (hp s0).Sublist H)
  (round : ∀ s, inv s → WC P n c x (Exit.then (Some1 n c (fun s' => inv s' ∧ μ s' < μ s) fr hp) Q) (fr s) (hp s)) : WC P n c (.loop x) Q l H := fun a w Z ha hw => by
 refine wp_loop_ghost (fun k a w => ∃ s Z, μ s = k ∧ inv s ∧ Agr n (fr s) a Z ∧ St c (hp s) Z w) (μ s0) ⟨s0, Z, rfl, h0, ha.sub hl, hw.sub hH⟩ ?_
 rintro k a w ⟨s, Z, rfl, hi, ha, hw⟩
 refine wp_mono (round s hi a w Z ha hw) fun e a' w' q => ?_
 cases e with
 | normal =>
  obtain ⟨s', Z', ⟨hi', hlt⟩, ha', hw'⟩ := q
  exact ⟨μ s', hlt, s', Z', rfl, hi', ha', hw'⟩
 | _ => exact q
theorem wc_region {id : Nat} {ops : List Oper} (h : WL P n c ops.toArray Q ops l H) : WC P n c (.region id ops.toArray false) Q l H := fun a w Z ha hw => wp_region_lit (h a w Z ha hw)
theorem wl_nil (h : WK n c (Q .normal) l H) : WL P n c ops Q [] l H := fun a w Z ha hw => wpList_nil (h a w Z ha hw)

theorem sN {α : Type} : ([] : List α).Sublist [] := List.Sublist.slnil
theorem sC {α : Type} {a : α} {l1 l2 : List α} (h : l1.Sublist l2) : (a :: l1).Sublist (a :: l2) := List.Sublist.cons_cons a h
theorem sS {α : Type} {a : α} {l1 l2 : List α} (h : l1.Sublist l2) : l1.Sublist (a :: l2) := List.Sublist.cons a h
theorem wk_x (h : WC P n c y Q l H) : WK n c (Exit.then (fun a w => y.wp P Q a w) Q .normal) l H := wk_then (wc_of_wk h)
theorem wl_x (h : WC P n c y Q l H) : WL P n c ops (Exit.then (fun a w => y.wp P Q a w) Q) [] l H := wl_nil (wk_x h)
theorem wc_sr {id : Nat} {ops : List Oper} (h : WL P n c ops.toArray (Exit.then (fun a w => y.wp P Q a w) Q) ops l H) : WC P n c ((Code.region id ops.toArray false).seq y) Q l H := wc_seq (wc_region h)
theorem wl_y {id : Nat} {os : List Oper} (h : WL P n c os.toArray (Exit.then (fun a w => y.wp P Q a w) Q) os l H) : WL P n c ops (Exit.then (fun a w => ((Code.region id os.toArray false).seq y).wp P Q a w) Q) [] l H := wl_x (wc_sr h)
def rle : List (Nat × List Ent) → List (List Ent)
 | [] => []
 | p :: r => List.replicate p.1 p.2 ++ rle r
/-! ### Operations in a row -/
theorem yielded_bool {a : Act} {Z : Fz} {j d : Nat} {b : Bool} (ha : Agr n l a Z) (hj : gslot ops j = some d) (hv : look l d = some (rB b)) : yielded ops a.tmps j = some b := by
 unfold gslot at hj
 obtain ⟨v, h1, h2⟩ := ha.tm d _ hv
 rw [show v = .bool b from h2] at h1
 simp [yielded, hj, h1]
theorem yielded_undef {a : Act} {Z : Fz} {j d : Nat} (ha : Agr n l a Z) (hj : gslot ops j = some d) (hv : look l d = some (rv undef)) : yielded ops a.tmps j = none := by
 unfold gslot at hj
 obtain ⟨v, h1, h2⟩ := ha.tm d _ hv
 rw [show v = undef from h2] at h1
 simp [yielded, hj, h1, undef]
theorem wl_on {d : Option Nat} {op : Op} {ty : TypeId} {pos : String} {af : Array Edge} {j dj : Nat} {want b : Bool} (hj : gslot ops j = some dj) (hv : look l dj = some (rB b)) (hb : b = want)
  (h : WL P n c ops Q ({ dst := d, op := op, type := ty, pos := pos, after := af, guard := none } :: rest) l H) :
  WL P n c ops Q ({ dst := d, op := op, type := ty, pos := pos, after := af, guard := some (j, want) } :: rest) l H := fun a w Z ha hw => by
 have h1 := h a w Z ha hw
 have hy := yielded_bool ha hj hv
 subst hb
 simp only [wpList, Region.wanted, hy, beq_self_eq_true, if_true] at h1 ⊢
 exact h1
theorem wl_off {d : Nat} {op : Op} {ty : TypeId} {pos : String} {af : Array Edge} {j dj : Nat} {want b : Bool} (hj : gslot ops j = some dj) (hv : look l dj = some (rB b)) (hb : b = !want) (hn : Nat.blt d n = true)
  (h : WL P n c ops Q rest ((d, rv undef) :: l) H) :
  WL P n c ops Q ({ dst := some d, op := op, type := ty, pos := pos, after := af, guard := some (j, want) } :: rest) l H := fun a w Z ha hw => by
 have hy := yielded_bool ha hj hv
 subst hb
 refine wpList_skip ?_ (h _ w Z (ha.put hn rfl) hw)
 simp [Region.wanted, hy]
theorem wl_off_u {d : Nat} {op : Op} {ty : TypeId} {pos : String} {af : Array Edge} {j dj : Nat} {want : Bool} (hj : gslot ops j = some dj) (hv : look l dj = some (rv undef)) (hn : Nat.blt d n = true)
  (h : WL P n c ops Q rest ((d, rv undef) :: l) H) :
  WL P n c ops Q ({ dst := some d, op := op, type := ty, pos := pos, after := af, guard := some (j, want) } :: rest) l H := fun a w Z ha hw => by
 have hy := yielded_undef ha hj hv
 refine wpList_skip ?_ (h _ w Z (ha.put hn rfl) hw)
 simp [Region.wanted, hy]
theorem wl_v {d : Nat} {op : Op} {ty : TypeId} {pos : String} {af : Array Edge} {r : Rp} (hr : ORun P n c l H { dst := some d, op := op, type := ty, pos := pos, after := af, guard := none } r)
  (hn : Nat.blt d n = true) (h : WL P n c ops Q rest ((d, r) :: l) H) : WL P n c ops Q ({ dst := some d, op := op, type := ty, pos := pos, after := af, guard := none } :: rest) l H := fun a w Z ha hw =>
 wpList_plain rfl fun K hK => by
  obtain ⟨v, hv, he⟩ := hr a w Z ha hw
  unfold Oper.wp
  rw [he]
  exact hK _ _ (h _ w Z (ha.put hn hv) hw)
theorem wl_w {d : Nat} {op : Op} {ty : TypeId} {pos : String} {af : Array Edge}
  (hr : ∀ a w Z, Agr n l a Z → St c H Z w → ∃ v w' r H' Z', (execOp a.eval { dst := some d, op := op, type := ty, pos := pos, after := af, guard := none }).run P w = .ok (.value v) w' ∧ Fz.le Z Z' ∧ r.p Z' v ∧ St c H' Z' w' ∧ WL P n c ops Q rest ((d, r) :: l) H')
  (hn : Nat.blt d n = true) : WL P n c ops Q ({ dst := some d, op := op, type := ty, pos := pos, after := af, guard := none } :: rest) l H := fun a w Z ha hw =>
 wpList_plain rfl fun K hK => by
  obtain ⟨v, w', r, H', Z', h1, hz, hv, h2, h3⟩ := hr a w Z ha hw
  unfold Oper.wp
  rw [h1]
  exact hK _ _ (h3 _ w' Z' ((ha.mono hz).put hn hv) h2)
theorem wl_u {op : Op} {ty : TypeId} {pos : String} {af : Array Edge}
  (hr : ∀ a w Z, Agr n l a Z → St c H Z w → ∃ w' H', (execOp a.eval { dst := none, op := op, type := ty, pos := pos, after := af, guard := none }).run P w = .ok .skip w' ∧ St c H' Z w' ∧ WL P n c ops Q rest l H') :
  WL P n c ops Q ({ dst := none, op := op, type := ty, pos := pos, after := af, guard := none } :: rest) l H := fun a w Z ha hw =>
 wpList_plain rfl fun K hK => by
  obtain ⟨w', H', h1, h2, h3⟩ := hr a w Z ha hw
  unfold Oper.wp
  rw [h1]
  exact hK _ _ (h3 _ w' Z (ha.put_none _) h2)
theorem wl_call {d : Nat} {op : Op} {ty : TypeId} {pos : String} {af : Array Edge} {f : FuncId} {args : Act → Array Value}
  (hr : ∀ a w Z, Agr n l a Z → St c H Z w → (execOp a.eval { dst := some d, op := op, type := ty, pos := pos, after := af, guard := none }).run P w = .ok (.enter f (args a)) w ∧
   Calls P f (args a) w (fun e w' => ∃ v r H' Z', e = .returned v ∧ Fz.le Z Z' ∧ r.p Z' v ∧ St c H' Z' w' ∧ WL P n c ops Q rest ((d, r) :: l) H'))
  (hn : Nat.blt d n = true) : WL P n c ops Q ({ dst := some d, op := op, type := ty, pos := pos, after := af, guard := none } :: rest) l H := fun a w Z ha hw =>
 wpList_plain rfl fun K hK => by
  obtain ⟨h0, hc⟩ := hr a w Z ha hw
  unfold Oper.wp
  rw [h0]
  refine hc.mono ?_
  rintro e w' ⟨v, r, H', Z', rfl, hz, hv, h2, h3⟩
  exact hK _ _ (h3 _ w' Z' ((ha.mono hz).put hn hv) h2)
def evs (l : Fr) : List Operand → Option (List Rp)
 | [] => some []
 | x :: r => match ev l x, evs l r with
  | some v, some vs => some (v :: vs)
  | _, _ => none
theorem evs_all {a : Act} {Z : Fz} (ha : Agr n l a Z) : ∀ {xs : List Operand} {rs : List Rp}, evs l xs = some rs → RpAll Z rs (xs.map a.eval)
 | [], rs, h => by simp [evs] at h; subst h; trivial
 | x :: r, rs, h => by
  simp only [evs] at h
  split at h
  ·rename_i v vs' h1 h2
   simp at h; subst h
   exact ⟨ha.ev h1, evs_all ha h2⟩
  ·cases h
theorem run_callee {f : FuncId} {args : List Operand} {ats : Array TypeId} {o : Oper} {a : Act} (ho : o.op = .call { callee := .value (.func f), args := args.toArray, argTypes := ats })
  (hcall : ∀ (as1 : Array Value) (w : World), (callFunc f as1).run P w = .ok (.enter f as1) w) (w : World) : (execOp a.eval o).run P w = .ok (.enter f (args.map a.eval).toArray) w := by
 simp [execOp, ho, resolve, Act.eval, Deferred.ofValue, invoke, hcall]
def RleAll : List Rp → List Rp → Prop
 | [], [] => True
 | r :: rs, q :: qs => Rle r q ∧ RleAll rs qs
 | _, _ => False
theorem RleAll.refl : ∀ rs : List Rp, RleAll rs rs
 | [] => trivial
 | r :: rs => ⟨Rle.refl r, RleAll.refl rs⟩
theorem RleAll.all {Z : Fz} : ∀ {rs qs : List Rp} {vs : List Value}, RleAll rs qs → RpAll Z rs vs → RpAll Z qs vs
 | [], [], [], _, _ => trivial
 | r :: rs, q :: qs, v :: vs, ⟨h1, h2⟩, ⟨h3, h4⟩ => ⟨h1 Z v h3, h2.all h4⟩
theorem Fn.sub {E : Fz → Prop} {f : FuncId} {args args' : List Rp} {Hin : List Ent} {Φ Φ' : Rp → List Ent → Prop} (h : Fn P E f args' Hin Φ) (ha : RleAll args args') (hΦ : ∀ r H, Φ r H → Φ' r H) : Fn P E f args Hin Φ' := fun w Z vs hv hs =>
 (h w Z vs (ha.all hv) hs).mono fun e w' ⟨r, v, H, Z', he, hp, hr, ht⟩ => ⟨r, v, H, Z', he, hΦ r H hp, hr, ht⟩
theorem w_call {d : Nat} {ty : TypeId} {pos : String} {af : Array Edge} {f : FuncId} {args : List Operand} {ats : Array TypeId} {rs : List Rp} {Hin Hr : List Ent} {Φ : Rp → List Ent → Prop} (hcall : ∀ (as1 : Array Value) (w : World), (callFunc f as1).run P w = .ok (.enter f as1) w) (hv : evs l args = some rs)
  (hp : H.Perm (Hin ++ Hr)) (hc : Fn P c.E f rs Hin Φ) (hn : Nat.blt d n = true) (h : ∀ r Ho, Φ r Ho → WL P n c ops Q rest ((d, r) :: l) (Ho ++ Hr)) :
  WL P n c ops Q ({ dst := some d, op := .call { callee := .value (.func f), args := args.toArray, argTypes := ats }, type := ty, pos := pos, after := af, guard := none } :: rest) l H :=
 wl_call (args := fun a => (args.map a.eval).toArray) (fun a w Z ha hw => ⟨run_callee rfl hcall w, by
  have hw2 := hw.perm hp
  refine (hc w Z _ (evs_all ha hv) hw2.enter).mono ?_
  rintro e w' ⟨r, v, Ho, Z', he, hΦ, hr, hs⟩
  exact ⟨v, r, Ho ++ Hr, Z', he, hs.le, hr, hw2.call hs, h r Ho hΦ⟩⟩) hn
theorem w_call0 {d : Nat} {ty : TypeId} {pos : String} {af : Array Edge} {f : FuncId} {args : List Operand} {ats : Array TypeId} {rs : List Rp} {r r' : Rp} (hcall : ∀ (as1 : Array Value) (w : World), (callFunc f as1).run P w = .ok (.enter f as1) w) (hv : evs l args = some rs)
  (hc : Fn0 P c.E f rs r') (hr : r' = r) (hn : Nat.blt d n = true) (h : WL P n c ops Q rest ((d, r) :: l) H) :
  WL P n c ops Q ({ dst := some d, op := .call { callee := .value (.func f), args := args.toArray, argTypes := ats }, type := ty, pos := pos, after := af, guard := none } :: rest) l H :=
 w_call (Hin := []) (Hr := H) hcall hv (List.Perm.refl _) hc hn (by rintro _ _ ⟨rfl, rfl⟩; subst hr; exact h)

/-! ### The door and the ends -/
theorem look_argFr : ∀ {Z : Fz} (rs : List Rp) (vs : List Value) (k : Nat), RpAll Z rs vs → ∀ i r, look ((rs.zipIdx k).map fun p => (p.2, p.1)) i = some r → k ≤ i ∧ ∃ v, vs[i - k]? = some v ∧ r.p Z v
 | _, [], [], k, _, i, r, h => by simp [look] at h
 | Z, q :: rs, v :: vs, k, ⟨h1, h2⟩, i, r, h => by
  simp only [List.zipIdx_cons, List.map_cons] at h
  rw [look_cons] at h
  split at h
  ·rename_i e; subst e; simp at h; subst h; exact ⟨Nat.le_refl _, v, by simp, h1⟩
  ·rename_i e
   obtain ⟨h3, u, h4, h5⟩ := look_argFr rs vs (k + 1) h2 i r h
   refine ⟨by omega, u, ?_, h5⟩
   rw [show i - k = (i - (k + 1)) + 1 from by omega]
   simpa using h4
def argFr (rs : List Rp) : Fr := (rs.zipIdx 0).map fun p => (p.2, p.1)
theorem enter {E : Fz → Prop} {f : FuncId} {fn : Func} {x : Code} {args : List Rp} {Hin : List Ent} {Φ : Rp → List Ent → Prop} (hf : P.funcs[f]? = some fn) (hb : fn.body = some x) (hn : fn.ntmps = n) (hle : Nat.ble args.length n = true)
  (h : ∀ w Z, WC P n ⟨w, Z, Hin.flatMap Ent.foot, E⟩ x (bodyPost P fn (Ret ⟨w, Z, Hin.flatMap Ent.foot, E⟩ Φ)) (argFr args) Hin) : Fn P E f args Hin Φ := fun w Z vs hv hs => by
 have hle' : args.length ≤ n := by simpa using hle
 have hl := hv.length
 refine calls_of_wp hf hb (h w Z _ w Z ⟨?_, rfl, fun i r hi => ?_⟩ hs)
 ·simp [hn]; omega
 ·obtain ⟨_, v, h1, h2⟩ := look_argFr args vs 0 hv i r hi
  simp only [Nat.sub_zero] at h1
  have hlt : i < vs.length := (List.getElem?_eq_some_iff.1 h1).1
  refine ⟨v, ?_, h2⟩
  rw [Array.getElem?_append_left (by simpa using hlt)]
  simpa using h1
def RRun (P : Program) (n : Nat) (c : Cx) (l : Fr) (H : List Ent) (fn : Func) (r : Rp) : Prop := ∀ a w Z, Agr n l a Z → St c H Z w → ∃ v, r.p Z v ∧ (results fn a.tmps).run P w = .ok v w
theorem wk_ret {fn : Func} {Φ : Rp → List Ent → Prop} {r : Rp} (hr : RRun P n c l H fn r) {H2 : List Ent} (hp : H2.Sublist H) (h : Φ r H2) : WK n c (bodyPost P fn (Ret c Φ) .ret) l H :=
 fun a w Z ha hw => by
  obtain ⟨v, hv, he⟩ := hr a w Z ha hw
  exact ⟨ha.defers, v, he, r, v, H2, Z, rfl, h, hv, hw.sub hp⟩
theorem wk_end {fn : Func} {Φ : Rp → List Ent → Prop} {r : Rp} (hr : RRun P n c l H fn r) {H2 : List Ent} (hp : H2.Sublist H) (h : Φ r H2) : WK n c (bodyPost P fn (Ret c Φ) .normal) l H :=
 fun a w Z ha hw => by
  obtain ⟨v, hv, he⟩ := hr a w Z ha hw
  exact ⟨ha.defers, v, he, r, v, H2, Z, rfl, h, hv, hw.sub hp⟩
theorem wk_perm {H2 : List Ent} (hp : H.Perm H2) (h : WK n c K l H2) : WK n c K l H := fun a w Z ha hw => h a w Z ha (hw.perm hp)
def rres (P : Program) (a : Act) : ResultVar → Sem Value
 | .tmp t => pure (a.tmps.getD t undef)
 | .cell b t => do loadVar t (← asAddr (a.tmps.getD b undef))
def RV (P : Program) (n : Nat) (c : Cx) (l : Fr) (H : List Ent) (x : ResultVar) (r : Rp) : Prop := ∀ a w Z, Agr n l a Z → St c H Z w → ∃ v, r.p Z v ∧ (rres P a x).run P w = .ok v w
theorem rv_t {i : Nat} {r : Rp} (h : look l i = some r) : RV P n c l H (.tmp i) r := fun a w Z ha _ => by
 obtain ⟨v, h1, h2⟩ := ha.tm i r h
 exact ⟨v, h2, by simp [rres, Array.getD_eq_getD_getElem?, h1]⟩
theorem results_eq (fn : Func) (a : Act) : results fn a.tmps = (do
  let vs ← fn.results.mapM (rres P a)
  pure (if h : vs.size = 1 then vs[0] else .tuple vs)) := by
 unfold results
 congr 1
theorem r_0 {fn : Func} (hr : fn.results = #[]) : RRun P n c l H fn (rv (.tuple #[])) := fun a w Z ha _ => ⟨_, rfl, by simp [results, hr]⟩
theorem r_1 {fn : Func} {x : ResultVar} {r : Rp} (hr : fn.results = #[x]) (h : RV P n c l H x r) : RRun P n c l H fn r := fun a w Z ha hw => by
 obtain ⟨v, h1, h2⟩ := h a w Z ha hw
 exact ⟨v, h1, by simp [results_eq (P := P), hr, h2]⟩
theorem r_2 {fn : Func} {x y : ResultVar} {r s : Rp} (hr : fn.results = #[x, y]) (h : RV P n c l H x r) (h' : RV P n c l H y s) : RRun P n c l H fn (rTup [r, s]) := fun a w Z ha hw => by
 obtain ⟨v, h1, h2⟩ := h a w Z ha hw
 obtain ⟨u, h3, h4⟩ := h' a w Z ha hw
 exact ⟨.tuple #[v, u], ⟨[v, u], rfl, h1, h3, trivial⟩, by simp [results_eq (P := P), hr, h2, h4]⟩
theorem r_3 {fn : Func} {x y z : ResultVar} {r s t : Rp} (hr : fn.results = #[x, y, z]) (h : RV P n c l H x r) (h' : RV P n c l H y s) (h'' : RV P n c l H z t) : RRun P n c l H fn (rTup [r, s, t]) := fun a w Z ha hw => by
 obtain ⟨v, h1, h2⟩ := h a w Z ha hw
 obtain ⟨u, h3, h4⟩ := h' a w Z ha hw
 obtain ⟨q, h5, h6⟩ := h'' a w Z ha hw
 exact ⟨.tuple #[v, u, q], ⟨[v, u, q], rfl, h1, h3, h5, trivial⟩, by simp [results_eq (P := P), hr, h2, h4, h6]⟩
theorem wc_as {l' : Fr} {H' : List Ent} (hl : l = l') (hH : H = H') (h : WC P n c x Q l' H') : WC P n c x Q l H := by subst hl; subst hH; exact h
theorem wk_as {l' : Fr} {H' : List Ent} (hl : l = l') (hH : H = H') (h : WK n c K l' H') : WK n c K l H := by subst hl; subst hH; exact h
theorem wl_asH {H' : List Ent} (hH : H = H') (h : WL P n c ops Q rest l H') : WL P n c ops Q rest l H := by subst hH; exact h
theorem wk_asH {H' : List Ent} (hH : H = H') (h : WK n c K l H') : WK n c K l H := by subst hH; exact h
theorem wc_perm {H2 : List Ent} (hp : H.Perm H2) (h : WC P n c x Q l H2) : WC P n c x Q l H := fun a w Z ha hw => h a w Z ha (hw.perm hp)
def Mid (n : Nat) (c : Cx) (l : Fr) (H : List Ent) : Act → World → Prop := fun a w => ∃ Z, Agr n l a Z ∧ St c H Z w
theorem wc_seq_mid (l1 : Fr) (H1 : List Ent) (h : WC P n c x (Exit.then (Mid n c l1 H1) Q) l H) (h2 : WC P n c y Q l1 H1) : WC P n c (x.seq y) Q l H := fun a w Z ha hw =>
 wp_seq (wp_mono (h a w Z ha hw) fun e a w q => by
  cases e with
  | normal => obtain ⟨Z, h3, h4⟩ := q; exact h2 a w Z h3 h4
  | _ => exact q)
theorem wk_mid {l1 : Fr} {H1 : List Ent} (hl : Sub l1 l) (hH : H1.Sublist H) : WK n c (Mid n c l1 H1) l H := fun _ _ Z ha hw => ⟨Z, ha.sub hl, hw.sub hH⟩
def cutX (id : Nat) (K : Act → World → Prop) (Q : Exit → Act → World → Prop) : Exit → Act → World → Prop
 | .exit i, a, w => if i = id then K a w else Q (.exit i) a w
 | e, a, w => Q e a w
theorem wk_cut_hit {id : Nat} (h : WK n c K l H) : WK n c (cutX id K Q (.exit id)) l H := fun a w Z ha hw => by
 show if id = id then _ else _
 rw [if_pos rfl]; exact h a w Z ha hw
theorem wk_cut_ret {id : Nat} (h : WK n c (Q .ret) l H) : WK n c (cutX id K Q .ret) l H := h
theorem wc_loop2 {S V : Type} (id : Nat) (inv : S → Prop) (fr : S → Fr) (hp : S → List Ent) (μ : S → Nat) (s0 : S) (h0 : inv s0) (hl : Sub (fr s0) l) (hH : (hp s0).Sublist H) (iv : V → Prop) (fv : V → Fr) (hv : V → List Ent)
  (round : ∀ s, inv s → WC P n c x (Exit.then (Some1 n c (fun s' => inv s' ∧ μ s' < μ s) fr hp) (cutX id (Some1 n c iv fv hv) Q)) (fr s) (hp s)) (hexit : ∀ v, iv v → WK n c (Q (.exit id)) (fv v) (hv v)) : WC P n c (.loop x) Q l H := fun a w Z ha hw =>
 wp_mono (wc_loop (Q := cutX id (Some1 n c iv fv hv) Q) inv fr hp μ s0 h0 hl hH round a w Z ha hw) fun e a w q => by
  cases e with
  | exit i =>
   by_cases hi : i = id
   ·subst hi
    have q' : if i = i then Some1 n c iv fv hv a w else Q (.exit i) a w := q
    rw [if_pos rfl] at q'
    obtain ⟨v, Z, h1, h2, h3⟩ := q'
    exact hexit v h1 a w Z h2 h3
   ·have q' : if i = id then Some1 n c iv fv hv a w else Q (.exit i) a w := q
    rw [if_neg hi] at q'; exact q'
  | _ => exact q
theorem wc_label {lb : Nat} (h : WK n c (Q .normal) l H) : WC P n c (.label lb) Q l H := fun a w Z ha hw => wp_label (h a w Z ha hw)
theorem wc_scope (h : WC P n c x (Exit.noGoto Q) l H) : WC P n c (.scope x) Q l H := fun a w Z ha hw => wp_scope_straight (h a w Z ha hw)
theorem wk_ng_r (h : WK n c (Q .ret) l H) : WK n c (Exit.noGoto Q .ret) l H := h
end
theorem Fn0.of_old {P : Program} {E : Fz → Prop} {f : FuncId} {vs : List Value} {v : Value} (h : ∀ w Z, Frz Z w → E Z → Calls P f vs.toArray w (RetV w v)) : Fn0 P E f (vs.map rv) (rv v) := fun w Z us hu hs => by
 rw [RpAll.eq_rv hu]
 refine (h w Z hs.frz hs.env).mono fun e w' ⟨he, ht⟩ => ⟨rv v, v, [], Z, he, ⟨rfl, rfl⟩, rfl, ⟨ht.os, ht.tape, ht.output, ht.size, ht.old, by simp, by simp, by simp, fun b o hb => ?_, Fz.le.refl _, fun _ _ e => .inl e, by simp, hs.env, hs.emono⟩⟩
 rw [ht.old b (hs.frz.lt hb) (by simp)]; exact hs.frz b o hb
end Go.Proofs.YtpmiamphppcfeaaGreatDoor.Q

/-
 What the functions of ident and num compute: plain functions on numbers and lists of bytes. No program in sight.
-/
namespace Go.Proofs.YtpmiamphppcfeaaGreatDoor
def smallS (c : Int) : Bool := decide (97 ≤ c) && decide (c ≤ 122)
def digitS (c : Int) : Bool := decide (48 ≤ c) && decide (c ≤ 57)
def letterS (c : Int) : Bool := smallS c || digitS c || (decide (65 ≤ c) && decide (c ≤ 90)) || decide (c = 45) || decide (c = 95) || decide (c = 46) || decide (c = 58) || decide (c = 47)
def validS (n : Int) : Bool := decide (-1000000000000 ≤ n) && decide (n ≤ 1000000000000)
def bat (p : List UInt8) (i : Int) : Int := ((p[i.toNat]?).getD 0).toNat
theorem bat_of {p : List UInt8} {k : Nat} {u : UInt8} (h : p[k]? = some u) : bat p (k : Int) = u.toNat := by simp [bat, h]
def allFrom (f : Nat → UInt8 → Bool) : Nat → List UInt8 → Bool
 | _, [] => true
 | i, u :: r => f i u && allFrom f (i + 1) r
def idCh (_ : Nat) (u : UInt8) : Bool := letterS u.toNat
def idS (p : List UInt8) : Bool := allFrom idCh 0 p && decide (1 ≤ p.length) && decide (p.length ≤ 64)
theorem drop_cons {p : List UInt8} {k : Nat} {u : UInt8} (h : p[k]? = some u) : p.drop k = u :: p.drop (k + 1) := by
 obtain ⟨h1, h2⟩ := List.getElem?_eq_some_iff.1 h
 rw [List.drop_eq_getElem_cons h1, h2]
theorem rng_no {f : Nat → UInt8 → Bool} {p : List UInt8} {k : Nat} {u : UInt8} (hi : k ≤ p.length ∧ allFrom f 0 p = allFrom f k (p.drop k)) (h : p[k]? = some u) (ht : f k u = false) : allFrom f 0 p = false := by
 rw [hi.2, drop_cons h]; simp [allFrom, ht]
theorem rng_next {f : Nat → UInt8 → Bool} {p : List UInt8} {k : Nat} {u : UInt8} (hi : k ≤ p.length ∧ allFrom f 0 p = allFrom f k (p.drop k)) (h : p[k]? = some u) (ht : f k u = true) :
  (k + 1 ≤ p.length ∧ allFrom f 0 p = allFrom f (k + 1) (p.drop (k + 1))) ∧ p.length - (k + 1) < p.length - k := by
 have hk : k < p.length := (List.getElem?_eq_some_iff.1 h).1
 refine ⟨⟨hk, ?_⟩, by omega⟩
 rw [hi.2, drop_cons h]; simp [allFrom, ht]
theorem rng_yes {f : Nat → UInt8 → Bool} {p : List UInt8} {k : Nat} (hi : k ≤ p.length ∧ allFrom f 0 p = allFrom f k (p.drop k)) (h : p.length ≤ k) : allFrom f 0 p = true := by
 rw [hi.2, List.drop_of_length_le h]; rfl
theorem id_test {k : Nat} {u : UInt8} {c wd : Nat} (hl : u.toNat < 128 → c = u.toNat ∧ wd = 1) (hh : 128 ≤ u.toNat → 128 ≤ c) : letterS c = idCh k u := by
 rcases Nat.lt_or_ge u.toNat 128 with h | h
 ·rw [(hl h).1]; rfl
 ·have h2 := hh h
  have e : ∀ m : Nat, 128 ≤ m → letterS m = false := fun m hm => by
   simp [letterS, smallS, digitS]; omega
  rw [e c h2]; exact (e _ h).symm
theorem id_next {p : List UInt8} {k : Nat} {u : UInt8} {c wd : Nat} (hi : k ≤ p.length ∧ allFrom idCh 0 p = allFrom idCh k (p.drop k)) (h : p[k]? = some u) (hl : u.toNat < 128 → c = u.toNat ∧ wd = 1) (hh : 128 ≤ u.toNat → 128 ≤ c)
  (ht : (!letterS c) = false) : (k + wd ≤ p.length ∧ allFrom idCh 0 p = allFrom idCh (k + wd) (p.drop (k + wd))) ∧ p.length - (k + wd) < p.length - k := by
 have ht' : letterS c = true := by simpa using ht
 rcases Nat.lt_or_ge u.toNat 128 with hu | hu
 ·rw [(hl hu).2]; rw [id_test (k := k) hl hh] at ht'; exact rng_next hi h ht'
 ·have h2 := hh hu
  simp [letterS, smallS, digitS] at ht'; omega
theorem id_no {p : List UInt8} {k : Nat} {u : UInt8} {c wd : Nat} (hi : k ≤ p.length ∧ allFrom idCh 0 p = allFrom idCh k (p.drop k)) (h : p[k]? = some u) (hl : u.toNat < 128 → c = u.toNat ∧ wd = 1) (hh : 128 ≤ u.toNat → 128 ≤ c)
  (ht : (!letterS c) = true) : idS p = false := by
 rw [id_test (k := k) hl hh] at ht
 simp [idS, rng_no hi h (by simpa using ht)]
theorem id_yes {p : List UInt8} {k : Nat} (hi : k ≤ p.length ∧ allFrom idCh 0 p = allFrom idCh k (p.drop k)) (h : p.length ≤ k) : idS p = ((decide ((1 : Int) ≤ p.length)) && (decide ((p.length : Int) ≤ 64))) := by
 simp [idS, rng_yes hi h]; grind
end Go.Proofs.YtpmiamphppcfeaaGreatDoor

/-
 Words for computations that may fail: checks, ways, names. Plain theorems; no condition.
-/
namespace Go.Proofs.YtpmiamphppcfeaaGreatDoor
open Go
set_option linter.unusedVariables false
abbrev Str := List UInt8
def okS (s : Str) : Bool := decide (s.length ≤ 9223372036854775807)
def toI (l : List UInt8) : List Int := l.map fun c => (c.toNat : Int)
def ofI (l : List Int) : List UInt8 := l.map fun x => UInt8.ofNat x.toNat
def inK (k : IntKind) (x : Int) : Bool := decide (k.min ≤ x) && decide (x ≤ k.max)
def inR (i n : Int) : Bool := decide (0 ≤ i) && decide (i < n)
def inC (i n : Int) : Bool := decide (0 ≤ i) && decide (i ≤ n)
def inA (b n : Nat) : Bool := decide (n * b ≤ 140737488355328)
def imp (a b : Bool) : Bool := !a || b
def chk {α : Type} (p : Bool) (x : Option α) : Option α := bif p then x else none
def cnd {α : Type} (p : Bool) (x y : Option α) : Option α := bif p then x else y
def bnd {α β : Type} (a : α) (k : α → Option β) : Option β := k a
def obn {α β : Type} (a : Option α) (k : α → Option β) : Option β := match a with
 | some x => k x
 | none => none
theorem inK_i64 {x : Int} (h : inK .i64 x = true) : -9223372036854775808 ≤ x ∧ x ≤ 9223372036854775807 := by simpa [inK, IntKind.min, IntKind.max, IntKind.signed, IntKind.bits] using h
theorem inK_i64' {x : Int} (h : -9223372036854775808 ≤ x) (h' : x ≤ 9223372036854775807) : inK .i64 x = true := by simpa [inK, IntKind.min, IntKind.max, IntKind.signed, IntKind.bits] using And.intro h h'
theorem inK_u8' {x : Int} (h : 0 ≤ x) (h' : x ≤ 255) : inK .u8 x = true := by simpa [inK, IntKind.min, IntKind.max, IntKind.signed, IntKind.bits] using And.intro h h'
theorem inR_iff {i n : Int} (h : inR i n = true) : 0 ≤ i ∧ i < n := by simpa [inR] using h
theorem inR' {i n : Int} (h : 0 ≤ i) (h' : i < n) : inR i n = true := by simp [inR, h, h']
theorem inC_iff {i n : Int} (h : inC i n = true) : 0 ≤ i ∧ i ≤ n := by simpa [inC] using h
theorem inC' {i n : Int} (h : 0 ≤ i) (h' : i ≤ n) : inC i n = true := by simp [inC, h, h']
def ov {α : Type} [Inhabited α] (a : Option α) : α := a.getD default
section
variable {α β : Type} {p q : Bool} {x y : Option α} {r : α} {s : β}
theorem chk_e (h : chk p x = some r) : p = true ∧ x = some r := by
 cases p
 ·cases h
 ·exact ⟨rfl, h⟩
theorem cnd_t (hp : p = true) (h : cnd p x y = some r) : x = some r := by subst hp; exact h
theorem cnd_f (hp : p = false) (h : cnd p x y = some r) : y = some r := by subst hp; exact h
theorem bnd_e {a : β} {k : β → Option α} (h : bnd a k = some r) : ∃ b, b = a ∧ k b = some r := ⟨a, rfl, h⟩
theorem obn_e {a : Option β} {k : β → Option α} (h : obn a k = some r) : ∃ b, a = some b ∧ k b = some r := by
 cases a with
 | none => cases h
 | some b => exact ⟨b, rfl, h⟩
theorem ov_e [Inhabited β] {a : Option β} (h : a.isSome = true) : a = some (ov a) := by
 cases a with
 | none => cases h
 | some b => rfl
theorem some_e {a b : α} (h : some a = some b) : a = b := by cases h; rfl
theorem imp_t (h : imp p q = true) (hp : p = true) : q = true := by subst hp; simpa [imp] using h
theorem imp_f (h : imp (!p) q = true) (hp : p = false) : q = true := by subst hp; simpa [imp] using h
theorem chk_t (h : p = true) : chk p x = x := by subst h; rfl
theorem cnd_tt (h : p = true) : cnd p x y = x := by subst h; rfl
theorem cnd_ff (h : p = false) : cnd p x y = y := by subst h; rfl
theorem obn_s {a : Option β} {k : β → Option α} {b : β} (h : a = some b) : obn a k = k b := by subst h; rfl
theorem chk_i64 {e : Int} (h : -9223372036854775808 ≤ e) (h' : e ≤ 9223372036854775807) : chk (inK .i64 e) x = x := chk_t (inK_i64' h h')
theorem chk_inR {i n : Int} (h : 0 ≤ i) (h' : i < n) : chk (inR i n) x = x := chk_t (inR' h h')
theorem chk_inC {i n : Int} (h : 0 ≤ i) (h' : i ≤ n) : chk (inC i n) x = x := chk_t (inC' h h')
end
inductive Out (R V : Type) where
 | ret (r : R)
 | go (v : V)
 deriving DecidableEq
inductive Stp (S O : Type) where
 | next (s : S)
 | out (o : O)
 deriving DecidableEq
def lop {S O : Type} (body : S → Option (Stp S O)) : Nat → S → Option O
 | 0, _ => none
 | n + 1, s => match body s with
  | none => none
  | some (.next s') => lop body n s'
  | some (.out o) => some o
def oute {R V : Type} (K : V → Option R) : Out R V → Option R
 | .ret r => some r
 | .go v => K v
def StpOk {S O : Type} (body : S → Option (Stp S O)) (m : Nat) (o : O) : Stp S O → Prop
 | .next s' => lop body m s' = some o
 | .out o' => o' = o
section
variable {S R V : Type} {body : S → Option (Stp S (Out R V))} {n m : Nat} {s s' : S} {o : Out R V} {t : Stp S (Out R V)} {K : V → Option R} {r q : R} {v : V}
theorem lop_e {O : Type} {body : S → Option (Stp S O)} {o : O} (h : lop body n s = some o) : ∃ m, n = m + 1 ∧ ∃ t, body s = some t ∧ StpOk body m o t := by
 cases n with
 | zero => cases h
 | succ m =>
  refine ⟨m, rfl, ?_⟩
  rw [lop] at h
  cases hb : body s with
  | none => rw [hb] at h; cases h
  | some t =>
   rw [hb] at h
   refine ⟨t, rfl, ?_⟩
   cases t with
   | next s' => exact h
   | out o' => exact some_e h
theorem stp_next (h : some (Stp.next s') = some t) (ht : StpOk body m o t) : lop body m s' = some o := by cases h; exact ht
theorem stp_go (h : some (Stp.out (Out.go v)) = some t) (ht : StpOk body m o t) (hK : oute K o = some r) : K v = some r := by
 cases h
 have e : Out.go v = o := ht
 subst e; exact hK
theorem stp_ret (h : some (Stp.out (Out.ret q)) = some t) (ht : StpOk body m o t) (hK : oute K o = some r) : some q = some r := by
 cases h
 have e : Out.ret q = o := ht
 subst e; exact hK
theorem lop_ind {O : Type} {body : S → Option (Stp S O)} (I : S → Prop) (μ : S → Nat) (Qo : O → Prop) (step : ∀ s, I s → (∃ s', body s = some (.next s') ∧ I s' ∧ μ s' < μ s) ∨ ∃ o, body s = some (.out o) ∧ Qo o) :
  ∀ (n : Nat) (s : S), I s → μ s < n → ∃ o, lop body n s = some o ∧ Qo o
 | 0, s, _, h => by omega
 | n + 1, s, hi, h => by
  rcases step s hi with ⟨s', e, hi', hlt⟩ | ⟨o, e, ho⟩
  ·obtain ⟨o, h1, h2⟩ := lop_ind I μ Qo step n s' hi' (by omega)
   exact ⟨o, by rw [lop, e]; exact h1, h2⟩
  ·exact ⟨o, by rw [lop, e], ho⟩
theorem not_t {b : Bool} (h : b = true) : (!b) = false := by subst h; rfl
theorem not_f {b : Bool} (h : b = false) : (!b) = true := by subst h; rfl
end
def at' {α : Type} [Inhabited α] (xs : List α) (i : Int) : α := (xs[i.toNat]?).getD default
theorem inR_set {α : Type} {j : Int} {xs ys : List α} {k : Nat} {y : α} (h : inR j (xs.length : Int) = true) (e : ys = xs.set k y) : inR j (ys.length : Int) = true := by rw [e, List.length_set]; exact h
abbrev sLess (a b : List UInt8) : Bool := Op.bytesLess a b
end Go.Proofs.YtpmiamphppcfeaaGreatDoor

/-
 What the plain operations yield. Plain theorems over any program; no condition.
-/
namespace Go.Proofs.YtpmiamphppcfeaaGreatDoor.Q
open Go Go.RowKit
set_option linter.unusedVariables false
set_option linter.unusedSimpArgs false
theorem wrap_in : ∀ {k : IntKind} {x : Int}, inK k x = true → k.wrap x = x
 | .i8, x, h => IntWalk.i8_in x (by simpa [inK, IntKind.min, IntKind.max, IntKind.signed, IntKind.bits] using h)
 | .i16, x, h => IntWalk.i16_in x (by simpa [inK, IntKind.min, IntKind.max, IntKind.signed, IntKind.bits] using h)
 | .i32, x, h => IntWalk.i32_in x (by simpa [inK, IntKind.min, IntKind.max, IntKind.signed, IntKind.bits] using h)
 | .i64, x, h => IntWalk.i64_in x (by simpa [inK, IntKind.min, IntKind.max, IntKind.signed, IntKind.bits] using h)
 | .u8, x, h => IntWalk.u8_in x (by simpa [inK, IntKind.min, IntKind.max, IntKind.signed, IntKind.bits] using h)
 | .u16, x, h => IntWalk.u16_in x (by simpa [inK, IntKind.min, IntKind.max, IntKind.signed, IntKind.bits] using h)
 | .u32, x, h => IntWalk.u32_in x (by simpa [inK, IntKind.min, IntKind.max, IntKind.signed, IntKind.bits] using h)
 | .u64, x, h => IntWalk.u64_in x (by simpa [inK, IntKind.min, IntKind.max, IntKind.signed, IntKind.bits] using h)
theorem o_mk {P : Program} {Z : Fz} {v : Value} {f : Sem Next} {w : World} (h : f.run P w = .ok (.value v) w) : ∃ u, (rv v).p Z u ∧ f.run P w = .ok (.value u) w := ⟨v, rfl, h⟩
section
variable {P : Program} {n : Nat} {c : Cx} {l : Fr} {H : List Ent} {d : Option Nat} {x y z3 : Operand} {ty t t' : TypeId} {pos : String} {af : Array Edge} {g : Option (Nat × Bool)} {v u : Value} {r : Rp}
theorem o_move (h : ev l x = some r) : ORun P n c l H { dst := d, op := .move x, type := ty, pos := pos, after := af, guard := g } r := fun a w Z ha _ => ⟨a.eval x, ha.ev h, by simp [execOp]⟩
theorem o_assign (h : ev l x = some r) : ORun P n c l H { dst := d, op := .assign x, type := ty, pos := pos, after := af, guard := g } r := fun a w Z ha _ => ⟨a.eval x, ha.ev h, by simp [execOp]⟩
theorem o_pick_t {b : Bool} (hc : ev l z3 = some (rB b)) (hb : b = true) (h : ev l x = some r) : ORun P n c l H { dst := d, op := .pick z3 x y, type := ty, pos := pos, after := af, guard := g } r := fun a w Z ha _ => ⟨a.eval x, ha.ev h, by
 subst hb; simp [execOp, ha.eval hc, asBool]⟩
theorem o_pick_f {b : Bool} (hc : ev l z3 = some (rB b)) (hb : b = false) (h : ev l y = some r) : ORun P n c l H { dst := d, op := .pick z3 x y, type := ty, pos := pos, after := af, guard := g } r := fun a w Z ha _ => ⟨a.eval y, ha.ev h, by
 subst hb; simp [execOp, ha.eval hc, asBool]⟩
theorem o_extract {rs : List Rp} {i : Nat} (h : ev l x = some (rTup rs)) (hi : rs[i]? = some r) : ORun P n c l H { dst := d, op := .extract x i, type := ty, pos := pos, after := af, guard := g } r := fun a w Z ha _ => by
 obtain ⟨us, hu, hus⟩ := ha.ev h
 obtain ⟨v, hv, hp⟩ := hus.at hi
 exact ⟨v, hp, by simp [execOp, hu, Instr.extract, hv]⟩
theorem o_not {b : Bool} (h : ev l x = some (rB b)) : ORun P n c l H { dst := d, op := .unOp .not t x, type := ty, pos := pos, after := af, guard := g } (rB (!b)) := fun a w Z ha _ => o_mk <| by
 simp [execOp, ha.eval h, Op.unary]
theorem o_neg {k : IntKind} {m : Int} (h : ev l x = some (rI k m)) (hz : inK k (-m) = true) : ORun P n c l H { dst := d, op := .unOp .neg t x, type := ty, pos := pos, after := af, guard := g } (rI k (-m)) := fun a w Z ha _ => o_mk <| by
 simp [execOp, ha.eval h, Op.unary, Op.intArith, wrap_in hz]
section
variable {k : IntKind} {p q : Int} (hx : ev l x = some (rI k p)) (hy : ev l y = some (rI k q))
include hx hy
theorem o_add (hz : inK k (p + q) = true) : ORun P n c l H { dst := d, op := .binOp .add t x y t', type := ty, pos := pos, after := af, guard := g } (rv (.int k (p + q))) := fun a w Z ha _ => o_mk <| by
 simp [execOp, ha.eval hx, ha.eval hy, eqGuard_int, binOp, Op.intArith, wrap_in hz]
theorem o_sub (hz : inK k (p - q) = true) : ORun P n c l H { dst := d, op := .binOp .sub t x y t', type := ty, pos := pos, after := af, guard := g } (rv (.int k (p - q))) := fun a w Z ha _ => o_mk <| by
 simp [execOp, ha.eval hx, ha.eval hy, eqGuard_int, binOp, Op.intArith, wrap_in hz]
theorem o_mul (hz : inK k (p * q) = true) : ORun P n c l H { dst := d, op := .binOp .mul t x y t', type := ty, pos := pos, after := af, guard := g } (rv (.int k (p * q))) := fun a w Z ha _ => o_mk <| by
 simp [execOp, ha.eval hx, ha.eval hy, eqGuard_int, binOp, Op.intArith, wrap_in hz]
theorem o_addw : ORun P n c l H { dst := d, op := .binOp .add t x y t', type := ty, pos := pos, after := af, guard := g } (rI k (k.wrap (p + q))) := fun a w Z ha _ => o_mk <| by
 simp [execOp, ha.eval hx, ha.eval hy, eqGuard_int, binOp, Op.intArith]
theorem o_subw : ORun P n c l H { dst := d, op := .binOp .sub t x y t', type := ty, pos := pos, after := af, guard := g } (rI k (k.wrap (p - q))) := fun a w Z ha _ => o_mk <| by
 simp [execOp, ha.eval hx, ha.eval hy, eqGuard_int, binOp, Op.intArith]
theorem o_lt : ORun P n c l H { dst := d, op := .binOp .lss t x y t', type := ty, pos := pos, after := af, guard := g } (rv (.bool (decide (p < q)))) := fun a w Z ha _ => o_mk <| by
 simp [execOp, ha.eval hx, ha.eval hy, eqGuard_int, binOp, Op.intCmp]
theorem o_le : ORun P n c l H { dst := d, op := .binOp .leq t x y t', type := ty, pos := pos, after := af, guard := g } (rv (.bool (decide (p ≤ q)))) := fun a w Z ha _ => o_mk <| by
 simp [execOp, ha.eval hx, ha.eval hy, eqGuard_int, binOp, Op.intCmp]
theorem o_gt : ORun P n c l H { dst := d, op := .binOp .gtr t x y t', type := ty, pos := pos, after := af, guard := g } (rv (.bool (decide (q < p)))) := fun a w Z ha _ => o_mk <| by
 simp [execOp, ha.eval hx, ha.eval hy, eqGuard_int, binOp, Op.intCmp]
theorem o_ge : ORun P n c l H { dst := d, op := .binOp .geq t x y t', type := ty, pos := pos, after := af, guard := g } (rv (.bool (decide (q ≤ p)))) := fun a w Z ha _ => o_mk <| by
 simp [execOp, ha.eval hx, ha.eval hy, eqGuard_int, binOp, Op.intCmp]
theorem o_eq : ORun P n c l H { dst := d, op := .binOp .eql t x y t', type := ty, pos := pos, after := af, guard := g } (rv (.bool (decide (p = q)))) := fun a w Z ha _ => o_mk <| by
 have e : (p == q) = decide (p = q) := by rw [Bool.eq_iff_iff]; simp
 simp [execOp, ha.eval hx, ha.eval hy, eqGuard_int, binOp, Op.intCmp, e]
theorem o_ne : ORun P n c l H { dst := d, op := .binOp .neq t x y t', type := ty, pos := pos, after := af, guard := g } (rv (.bool (!decide (p = q)))) := fun a w Z ha _ => o_mk <| by
 have e : (p != q) = !decide (p = q) := by rw [Bool.eq_iff_iff]; simp
 simp [execOp, ha.eval hx, ha.eval hy, eqGuard_int, binOp, Op.intCmp, e]
end
section
variable {p q : List UInt8} (hx : ev l x = some (rS p)) (hy : ev l y = some (rS q))
include hx hy
theorem o_sadd (hz : inK .i64 ((p.length : Int) + (q.length : Int)) = true) : ORun P n c l H { dst := d, op := .binOp .add t x y t', type := ty, pos := pos, after := af, guard := g } (rv (.string (B (p ++ q)))) := fun a w Z ha _ => o_mk <| by
 have : ¬ ((((B p).size + (B q).size : Nat) : Int) > IntKind.i64.max) := by rw [B_size, B_size]; have := (inK_i64 hz).2; simp [IntKind.max, IntKind.signed, IntKind.bits]; omega
 simp only [execOp, ha.eval hx, ha.eval hy, Sem.run_bind, eqGuard_str, binOp, Op.stringOp, this, if_false, B_append]
 simp
theorem o_sle : ORun P n c l H { dst := d, op := .binOp .leq t x y t', type := ty, pos := pos, after := af, guard := g } (rv (.bool (Op.bytesLess p q || decide (p = q)))) := fun a w Z ha _ => o_mk <| by
 have e : (p == q) = decide (p = q) := by rw [Bool.eq_iff_iff]; simp
 simp [execOp, ha.eval hx, ha.eval hy, eqGuard_str, binOp, Op.stringOp, B_toList, e]
theorem o_seq : ORun P n c l H { dst := d, op := .binOp .eql t x y t', type := ty, pos := pos, after := af, guard := g } (rv (.bool (decide (p = q)))) := fun a w Z ha _ => o_mk <| by
 have e : (p == q) = decide (p = q) := by rw [Bool.eq_iff_iff]; simp
 simp [execOp, ha.eval hx, ha.eval hy, eqGuard_str, binOp, Op.stringOp, B_toList, e]
theorem o_sne : ORun P n c l H { dst := d, op := .binOp .neq t x y t', type := ty, pos := pos, after := af, guard := g } (rv (.bool (!decide (p = q)))) := fun a w Z ha _ => o_mk <| by
 have e : (p == q) = decide (p = q) := by rw [Bool.eq_iff_iff]; simp
 simp [execOp, ha.eval hx, ha.eval hy, eqGuard_str, binOp, Op.stringOp, B_toList, e]
end
theorem o_conv_int {k k' : IntKind} {m : Int} (hs : ∃ s, P.underlying t = some s) (hd : P.underlying t' = some (.int k')) (h : ev l x = some (rI k m)) (hz : inK k' m = true) :
  ORun P n c l H { dst := d, op := .convert t t' x, type := ty, pos := pos, after := af, guard := g } (rI k' m) := fun a w Z ha _ => o_mk <| by
 obtain ⟨s, hs⟩ := hs
 simp [execOp, ha.eval h, convert, run_underlying hs, run_underlying hd, Conv.intToInt, wrap_in hz]
theorem o_conv_intw {k k' : IntKind} {m : Int} (hs : ∃ s, P.underlying t = some s) (hd : P.underlying t' = some (.int k')) (h : ev l x = some (rI k m)) :
  ORun P n c l H { dst := d, op := .convert t t' x, type := ty, pos := pos, after := af, guard := g } (rI k' (k'.wrap m)) := fun a w Z ha _ => o_mk <| by
 obtain ⟨s, hs⟩ := hs
 simp [execOp, ha.eval h, convert, run_underlying hs, run_underlying hd, Conv.intToInt]
theorem o_len_s {p : List UInt8} (ht : P.underlying t = some .string) (h : ev l x = some (rS p)) : ORun P n c l H { dst := d, op := .call { callee := .builtin .len, args := #[x], argTypes := #[t] }, type := ty, pos := pos, after := af, guard := g } (rv (.int .i64 p.length)) := fun a w Z ha _ => o_mk <| by
 simp [execOp, resolve, invoke, builtin, ha.eval h, Builtin.len_, run_underlying ht, goInt, B_size]
theorem o_index_b {p : List UInt8} {k : IntKind} {i : Int} (ht : P.underlying t = some .string) (h : ev l x = some (rS p)) (hi : ev l y = some (rI k i)) (hg : inR i (p.length : Int) = true) :
  ORun P n c l H { dst := d, op := .index t x y, type := ty, pos := pos, after := af, guard := g } (rI .u8 (bat p i)) := fun a w Z ha _ => o_mk <| by
 have h0 := (inR_iff hg).1
 have hl : i.toNat < p.length := by have := (inR_iff hg).2; omega
 have hc : p[i.toNat]? = some p[i.toNat] := List.getElem?_eq_getElem hl
 have e : bat p i = p[i.toNat].toNat := by simp [bat, hc]
 simp [execOp, ha.eval h, ha.eval hi, Instr.index, asIntOf, run_underlying ht, h0, B_get, hc, e]
theorem o_slice_lo {p : List UInt8} {k : IntKind} {i : Int} (ht : P.underlying t = some .string) (h : ev l x = some (rS p)) (hi : ev l y = some (rI k i)) (hg : inC i (p.length : Int) = true) :
  ORun P n c l H { dst := d, op := .slice t x (some y) none none, type := ty, pos := pos, after := af, guard := g } (rv (.string (B (p.drop i.toNat)))) := fun a w Z ha _ => o_mk <| by
 have h0 := (inC_iff hg).1
 have h1 := (inC_iff hg).2
 have e : List.take ((B p).size - i.toNat) (List.drop i.toNat p) = List.drop i.toNat p := by rw [List.take_of_length_le]; simp [B_size]
 simp [execOp, ha.eval h, ha.eval hi, Instr.sliceAt, Instr.slice, run_underlying ht, Instr.sliceBounds, run_sliceBound (m := (B p).size) _ _ h0 (by rw [B_size]; exact h1), B_extract, e]
theorem o_slice_hi {p : List UInt8} {k : IntKind} {i : Int} (ht : P.underlying t = some .string) (h : ev l x = some (rS p)) (hi : ev l y = some (rI k i)) (hg : inC i (p.length : Int) = true) :
  ORun P n c l H { dst := d, op := .slice t x none (some y) none, type := ty, pos := pos, after := af, guard := g } (rv (.string (B (p.take i.toNat)))) := fun a w Z ha _ => o_mk <| by
 have h0 := (inC_iff hg).1
 have h1 := (inC_iff hg).2
 simp [execOp, ha.eval h, ha.eval hi, Instr.sliceAt, Instr.slice, run_underlying ht, Instr.sliceBounds, run_sliceBound (m := (B p).size) _ _ h0 (by rw [B_size]; exact h1), B_extract]
theorem o_slice_lh {p : List UInt8} {k k' : IntKind} {i j : Int} (ht : P.underlying t = some .string) (h : ev l x = some (rS p)) (hi : ev l y = some (rI k i)) (hj : ev l z3 = some (rI k' j)) (hg1 : inC i j = true) (hg2 : inC j (p.length : Int) = true) :
  ORun P n c l H { dst := d, op := .slice t x (some y) (some z3) none, type := ty, pos := pos, after := af, guard := g } (rv (.string (B ((p.drop i.toNat).take (j.toNat - i.toNat))))) := fun a w Z ha _ => o_mk <| by
 have h0 := (inC_iff hg1).1
 have h1 := (inC_iff hg1).2
 have h2 := (inC_iff hg2).2
 have hj0 : 0 ≤ j := by omega
 simp [execOp, ha.eval h, ha.eval hi, ha.eval hj, Instr.sliceAt, Instr.slice, run_underlying ht, Instr.sliceBounds, run_sliceBound (m := (B p).size) _ _ hj0 (by rw [B_size]; exact h2), run_sliceBound (m := j.toNat) _ _ h0 (by omega), B_extract]
/-! ### Slices that are frozen -/
theorem o_len_z {sz : Nat} {xs : List (List Rp)} {e : TypeId} (ht : P.underlying t = some (.slice e)) (h : ev l x = some (rSl sz xs)) : ORun P n c l H { dst := d, op := .call { callee := .builtin .len, args := #[x], argTypes := #[t] }, type := ty, pos := pos, after := af, guard := g } (rI .i64 xs.length) := fun a w Z ha _ => by
 obtain ⟨A, cap, e1, _⟩ := ha.ev h
 exact o_mk <| by simp [execOp, resolve, invoke, builtin, e1, Builtin.len_, run_underlying ht, goInt]
end
end Go.Proofs.YtpmiamphppcfeaaGreatDoor.Q

/-
 A string visited character by character. Plain theorems over any program; no condition.
-/
namespace Go.Proofs.YtpmiamphppcfeaaGreatDoor
open Go Go.RowKit
set_option linter.unusedVariables false
theorem get_B (p : List UInt8) (i : Nat) (u : UInt8) (h : p[i]? = some u) : (B p).get! i = u := by
 have h' : i < p.length := (List.getElem?_eq_some_iff.1 h).1
 have h2 : p[i] = u := (List.getElem?_eq_some_iff.1 h).2
 subst h2
 show (B p).data[i]! = _
 simp [B, getElem!_pos, h']
theorem decode_lo (p : List UInt8) (i : Nat) (u : UInt8) (h : p[i]? = some u) (hu : u.toNat < 128) : Utf8.decode (B p) i = (u.toNat, 1) := by
 have e := get_B p i u h
 simp [Utf8.decode, e, hu]
theorem decode_hi (p : List UInt8) (i : Nat) (u : UInt8) (h : p[i]? = some u) (hu : 128 ≤ u.toNat) : 128 ≤ (Utf8.decode (B p) i).1 ∧ 1 ≤ (Utf8.decode (B p) i).2 := by
 have e := get_B p i u h
 simp only [Utf8.decode, Nat.add_zero, e]
 rw [if_neg (by omega)]
 split
 ·split
  ·exact ⟨by assumption, by simp⟩
  ·exact ⟨by decide, by decide⟩
 ·split
  ·split
   ·rename_i h1; simp at h1; exact ⟨by have := h1.1; simp only; omega, by simp⟩
   ·exact ⟨by decide, by decide⟩
  ·split
   ·split
    ·rename_i h1; simp at h1; exact ⟨by have := h1.1; simp only; omega, by simp⟩
    ·exact ⟨by decide, by decide⟩
   ·exact ⟨by decide, by decide⟩
section
variable {P : Program} {n : Nat} {w0 : World} {M : List Nat} {ops : Array Oper} {Q : Exit → Act → World → Prop} {rest : List Oper} {l : Fr} {H H' : List Ent} {d : Nat} {x y c : Operand} {ty t t' e : TypeId} {pos : String} {af : Array Edge} {g : Option (Nat × Bool)} {v u : Value}
theorem w_range_s {p : List UInt8} (hu : P.underlying t = some .string) (hx : ev l x = some (.string (B p))) (hn : Nat.blt d n = true)
  (h : ∀ b, WL P n w0 M ops Q rest ((d, .pointer (some ⟨b, 0, none⟩)) :: l) (.blk b (.stringIter (B p) 0) :: H)) :
  WL P n w0 M ops Q ({ dst := some d, op := .range t x, type := ty, pos := pos, after := af, guard := none } :: rest) l H :=
 wl_w (fun a w ha hw => ⟨_, w.alloc (.stringIter (B p) 0), _, by simp [execOp, ha.eval hx, Instr.range, run_underlying hu], hw.alloc _, h w.heap.size⟩) hn
theorem St.setObj {w : World} (h : St w0 M H w) {i b : Nat} {o o' : Obj} (hi : H[i]? = some (.blk b o)) : St w0 M (H.set i (.blk b o')) { w with heap := w.heap.setIfInBounds b o' } := by
 have hb : w.heap[b]? = some o := h.ent hi
 have hlt : b < w.heap.size := (Array.getElem?_eq_some_iff.1 hb).1
 refine h.set hi rfl rfl rfl (by simp) (fun k _ hk => ?_) ?_ (by simp [Ent.foot])
 ·simp only [Ent.foot, List.mem_singleton] at hk
  simp only [Array.getElem?_setIfInBounds]
  rw [if_neg (fun e => hk e.symm)]
 ·show (w.heap.setIfInBounds b o')[b]? = some o'
  simp [hlt]
theorem w_next_s {p : List UInt8} {i b k : Nat} (hx : ev l x = some (.pointer (some ⟨b, 0, none⟩))) (hi : H[i]? = some (.blk b (.stringIter (B p) k))) (hn : Nat.blt d n = true)
  (hend : p.length ≤ k → WL P n w0 M ops Q rest ((d, .tuple #[.bool false]) :: l) H)
  (hgo : ∀ (u : UInt8) (c wd : Nat), p[k]? = some u → (u.toNat < 128 → c = u.toNat ∧ wd = 1) → (128 ≤ u.toNat → 128 ≤ c) → 1 ≤ wd →
   WL P n w0 M ops Q rest ((d, .tuple #[.bool true, .int .i64 k, .int .i32 c]) :: l) (H.set i (.blk b (.stringIter (B p) (k + wd))))) :
  WL P n w0 M ops Q ({ dst := some d, op := .next x true, type := ty, pos := pos, after := af, guard := none } :: rest) l H :=
 wl_w (fun a w ha hw => by
  have hb : w.heap[b]? = some (.stringIter (B p) k) := hw.ent hi
  by_cases hlt : k < p.length
  ·have hu : p[k]? = some p[k] := List.getElem?_eq_getElem hlt
   have hs : k < (B p).size := by rw [B_size]; exact hlt
   refine ⟨_, { w with heap := w.heap.setIfInBounds b (.stringIter (B p) (k + (Utf8.decode (B p) k).2)) }, _, ?_, hw.setObj hi, hgo p[k] (Utf8.decode (B p) k).1 (Utf8.decode (B p) k).2 hu ?_ ?_ ?_⟩
   ·simp [execOp, ha.eval hx, Instr.next, getObj, setObj, Sem.run, hb, hs, goInt]
   ·intro h; rw [decode_lo p k _ hu h]; exact ⟨rfl, rfl⟩
   ·intro h; exact (decode_hi p k _ hu h).1
   ·rcases Nat.lt_or_ge (p[k]).toNat 128 with h | h
    ·rw [decode_lo p k _ hu h]; exact Nat.le_refl 1
    ·exact (decode_hi p k _ hu h).2
  ·have hs : ¬ k < (B p).size := by rw [B_size]; exact hlt
   exact ⟨_, w, H, by simp [execOp, ha.eval hx, Instr.next, getObj, Sem.run, hb, hs], hw, hend (by omega)⟩) hn
end
end Go.Proofs.YtpmiamphppcfeaaGreatDoor

/-
 Bytes of a text; regions that draw their order and only read; entries without a body. Plain theorems over any program; no condition.
-/
namespace Go.Proofs.YtpmiamphppcfeaaGreatDoor
open Go Go.RowKit
set_option linter.unusedVariables false
section
variable {P : Program} {n : Nat} {w0 : World} {M : List Nat} {ops : Array Oper} {Q : Exit → Act → World → Prop} {rest : List Oper} {l : Fr} {H H' : List Ent} {x y c : Operand} {ty t t' e : TypeId} {pos : String} {af : Array Edge} {g : Option (Nat × Bool)} {v u : Value}
theorem o_index_b {d : Option Nat} {p : List UInt8} {k : IntKind} {i : Int} (ht : P.underlying t = some .string) (h : ev l x = some (.string (B p))) (hi : ev l y = some (.int k i)) (h0 : 0 ≤ i) (h1 : i < p.length) :
  ORun P n w0 M l H { dst := d, op := .index t x y, type := ty, pos := pos, after := af, guard := g } (.int .u8 (bat p i)) := by
 have hl : i.toNat < p.length := by omega
 have hc : p[i.toNat]? = some p[i.toNat] := List.getElem?_eq_getElem hl
 have e : bat p i = p[i.toNat].toNat := by simp [bat, hc]
 rw [e]
 exact o_index_s ht h hi h0 hc
theorem o_if_ne {d : Option Nat} {ms : Array (String × TypeId)} {ti : TypeId} {u : Value} (ht : P.underlying t = some (.interface ms)) (hx : ev l x = some (.iface ti u)) :
  ORun P n w0 M l H { dst := d, op := .binOp .neq t x (.const .nilIface) t', type := ty, pos := pos, after := af, guard := g } (.bool true) := fun a w ha hw => by
 have h1 : ∀ dd : Nat, (Op.equalIn (dd + 1) t (.iface ti u) .nilIface).run P w = .ok false w := fun dd => by simp [Op.equalIn, run_underlying ht]
 have h2 : (Op.equal t (.iface ti u) .nilIface).run P w = .ok false w := h1 9999
 have h3 : (eqGuard .neq t x (.const .nilIface) (.iface ti u) .nilIface).run P w = .ok () w := by simp [eqGuard]
 have hy : a.eval (.const .nilIface) = .nilIface := rfl
 simp only [execOp, ha.eval hx, hy, Sem.run_bind, h3, Result.andThen_ok, binOp, h2, Sem.run_pure]
 rfl
theorem o_if_ne_nil {d : Option Nat} {ms : Array (String × TypeId)} (ht : P.underlying t = some (.interface ms)) (hx : ev l x = some .nilIface) :
  ORun P n w0 M l H { dst := d, op := .binOp .neq t x (.const .nilIface) t', type := ty, pos := pos, after := af, guard := g } (.bool false) := fun a w ha hw => by
 have h1 : ∀ dd : Nat, (Op.equalIn (dd + 1) t .nilIface .nilIface).run P w = .ok true w := fun dd => by simp [Op.equalIn, run_underlying ht]
 have h2 : (Op.equal t .nilIface .nilIface).run P w = .ok true w := h1 9999
 have h3 : (eqGuard .neq t x (.const .nilIface) .nilIface .nilIface).run P w = .ok () w := by simp [eqGuard]
 have hy : a.eval (.const .nilIface) = .nilIface := rfl
 simp only [execOp, ha.eval hx, hy, Sem.run_bind, h3, Result.andThen_ok, binOp, h2, Sem.run_pure]
 rfl

/-! ### Regions that draw their order: every operation leaves the world alone, or calls a function that turns nothing -/
variable (P n w0 M) in
def WQ (opsA : Array Oper) (K : Act → World → Prop) (rest : List Oper) (l : Fr) (H : List Ent) : Prop := ∀ a, Agr n l a → wpQuiet P opsA (St w0 M H) (fun a' => ∀ w', St w0 M H w' → K a' w') rest a
variable {K : Act → World → Prop}
end
end Go.Proofs.YtpmiamphppcfeaaGreatDoor

/-
 Slices that are read; rows of one's own; calls that turn an entry. Plain theorems over any program; no condition.
-/
namespace Go.Proofs.YtpmiamphppcfeaaGreatDoor
open Go Go.RowKit
set_option linter.unusedVariables false

def SlR (sz : Nat) (w : World) (v : Value) (vs : List (List Value)) : Prop :=
 ∃ A cap, v = .slice A vs.length cap ∧ vs.length ≤ cap ∧ (cap ≤ maxLen ∧ (A = none → cap = 0)) ∧ ∀ i c, vs[i]? = some c → c.length = sz ∧ ∃ a : Addr, A = some a ∧ a.spot = none ∧ a.block < w.heap.size ∧ ∀ j u, c[j]? = some u → w.cell? ⟨a.block, a.off + (i * sz + j), none⟩ = some u
def Off (M : List Nat) (v : Value) : Prop := ∀ a n c, v = .slice (some a) n c → a.block ∉ M
theorem Off.nil (v : Value) : Off [] v := fun _ _ _ _ => by simp
theorem SlR.nil (sz : Nat) (w : World) : SlR sz w (.slice none 0 0) [] := ⟨none, 0, rfl, Nat.le_refl _, ⟨by simp [maxLen], fun _ => rfl⟩, fun i c h => by simp at h⟩
theorem SlR.st {sz : Nat} {w0 w : World} {M : List Nat} {H : List Ent} {v : Value} {vs : List (List Value)} (h : SlR sz w0 v vs) (ho : Off M v) (hw : St w0 M H w) : SlR sz w v vs := by
 obtain ⟨A, cap, rfl, hc, hm, hi⟩ := h
 refine ⟨A, cap, rfl, hc, hm, fun i c hic => ?_⟩
 obtain ⟨hl, a, rfl, hs, hb, hcell⟩ := hi i c hic
 refine ⟨hl, a, rfl, hs, Nat.lt_of_lt_of_le hb hw.size, fun j u hj => ?_⟩
 have h1 : w.cell? ⟨a.block, a.off + (i * sz + j), none⟩ = w0.cell? ⟨a.block, a.off + (i * sz + j), none⟩ := World.cell?_of_block (hw.old a.block hb (ho a _ _ rfl))
 rw [h1]
 exact hcell j u hj
theorem SlR.st0 {sz : Nat} {w0 w : World} {H : List Ent} {v : Value} {vs : List (List Value)} (h : SlR sz w0 v vs) (hw : St w0 [] H w) : SlR sz w v vs := h.st (Off.nil _) hw
def flat (vs : List (List Value)) : List Value := vs.flatten
theorem flat_at {sz : Nat} : ∀ {vs : List (List Value)} (hs : ∀ c ∈ vs, c.length = sz) {i : Nat} {c : List Value} (hi : vs[i]? = some c) {j : Nat} {u : Value} (hj : c[j]? = some u), (flat vs)[i * sz + j]? = some u
 | [], hs, i, c, hi, j, u, hj => by simp at hi
 | x :: r, hs, 0, c, hi, j, u, hj => by
  simp at hi; subst hi
  simp only [flat, List.flatten_cons, Nat.zero_mul, Nat.zero_add]
  rw [List.getElem?_append_left (by have := (List.getElem?_eq_some_iff.1 hj).1; exact this)]
  exact hj
 | x :: r, hs, i + 1, c, hi, j, u, hj => by
  have hx : x.length = sz := hs x (by simp)
  simp only [flat, List.flatten_cons]
  rw [List.getElem?_append_right (by rw [hx, Nat.succ_mul]; omega)]
  have e : (i + 1) * sz + j - x.length = i * sz + j := by rw [hx, Nat.succ_mul]; omega
  rw [e]
  exact flat_at (vs := r) (fun c hc => hs c (by simp [hc])) (by simpa using hi) hj
theorem SlR.of_row {sz : Nat} {w : World} {v : Value} {e : TypeId} {vs : List (List Value)} (h : (Ent.row v e sz vs.length (flat vs)).holds w) (hs : ∀ c ∈ vs, c.length = sz) : SlR sz w v vs := by
 obtain ⟨hl, h2⟩ := h
 rcases h2 with ⟨rfl, hn⟩ | ⟨g, cap, cur, rfl, _, hg, hc, hm, hsz, htake⟩
 ·have : vs = [] := List.eq_nil_of_length_eq_zero hn
  subst this
  exact SlR.nil _ _
 ·refine ⟨some ⟨g, 0, none⟩, cap, rfl, hc, ⟨hm, fun h => by cases h⟩, fun i c hi => ⟨hs c (List.mem_of_getElem? hi), ⟨g, 0, none⟩, rfl, rfl, (Array.getElem?_eq_some_iff.1 hg).1, fun j u hj => ?_⟩⟩
  have h3 := flat_at hs hi hj
  rw [← htake, List.getElem?_take] at h3
  split at h3
  ·show w.cell? ⟨g, 0 + (i * sz + j), none⟩ = _
   rw [cell_of_row w g _ cur e (0, 0) hg, Nat.zero_add]
   simpa using h3
  ·cases h3
def elp (sz : Nat) (v : Value) (i : Nat) (off : Nat) : Value := match v with
 | .slice (some a) _ _ => .pointer (some ⟨a.block, a.off + (i * sz + off), none⟩)
 | _ => undef
section
variable {P : Program} {n : Nat} {w0 : World} {M : List Nat} {ops : Array Oper} {Q : Exit → Act → World → Prop} {rest : List Oper} {l : Fr} {H H' : List Ent} {d : Option Nat} {x y c : Operand} {ty t t' e : TypeId} {pos : String} {af : Array Edge} {g : Option (Nat × Bool)} {v u : Value} {sz : Nat} {vs : List (List Value)}
/-! ### calls that turn one entry, or make some -/
theorem w_buildSlice {d len : Nat} {parts : Array (Nat × Operand)} {cs : List Value} (ht : P.underlying t = some (.slice e)) (hz : ∀ w, (sizeOf e).run P w = .ok sz w)
  (hrun : ∀ a w, Agr n l a → (Instr.buildSlice t len (parts.map fun (i, x) => (i, a.eval x))).run P w = .ok (.slice (some ⟨w.heap.size, 0, none⟩) len len) (w.alloc (.cells cs.toArray e))) (hl : cs.length = len * sz) (hm : len ≤ maxLen) (hn : Nat.blt d n = true)
  (h : ∀ b, WL P n w0 M ops Q rest ((d, .slice (some ⟨b, 0, none⟩) len len) :: l) (.row (.slice (some ⟨b, 0, none⟩) len len) e sz len cs :: H)) :
  WL P n w0 M ops Q ({ dst := some d, op := .buildSlice t len parts, type := ty, pos := pos, after := af, guard := none } :: rest) l H :=
 wl_w (fun a w ha hw => by
  have hw2 := hw.alloc (.cells cs.toArray e)
  refine ⟨_, w.alloc (.cells cs.toArray e), .row (.slice (some ⟨w.heap.size, 0, none⟩) len len) e sz len cs :: H, by simp [execOp, hrun a w ha], ?_, h w.heap.size⟩
  refine ⟨hw2.os, hw2.tape, hw2.output, hw2.size, hw2.old, ?_, ?_, ?_⟩
  ·intro en he
   rcases List.mem_cons.1 he with rfl | he
   ·refine ⟨hl, .inr ⟨w.heap.size, len, cs.toArray, rfl, Nat.zero_le _, heap_alloc_new w _, Nat.le_refl _, hm, by simpa using hl, ?_⟩⟩
    rw [← hl]; simp
   ·exact hw2.has en (by simp [he])
  ·intro en he k hk
   rcases List.mem_cons.1 he with rfl | he
   ·exact hw2.own (.blk w.heap.size (.cells cs.toArray e)) (by simp) k (by simpa [Ent.foot, Value.ownBlock] using hk)
   ·exact hw2.own en (by simp [he]) k hk
  ·have hd := List.pairwise_cons.1 hw2.dis
   refine List.pairwise_cons.2 ⟨fun en he k hk => hd.1 en he k (by simpa [Ent.foot, Value.ownBlock] using hk), hd.2⟩) hn
end
/-! ### slices of strings -/
end Go.Proofs.YtpmiamphppcfeaaGreatDoor

/-
 Rows of one's own: their length, their cells, stores into them, append. Plain theorems over any program; no condition.
-/
namespace Go.Proofs.YtpmiamphppcfeaaGreatDoor
open Go Go.RowKit
set_option linter.unusedVariables false
set_option linter.unusedSimpArgs false
section
variable {P : Program} {n : Nat} {w0 : World} {M : List Nat} {ops : Array Oper} {Q : Exit → Act → World → Prop} {rest : List Oper} {l : Fr} {H H' : List Ent} {x y : Operand} {ty t t' e : TypeId} {pos : String} {af : Array Edge} {g : Option (Nat × Bool)} {v u : Value} {i sz m : Nat} {xs : List Value}
theorem row_shape {w : World} (h : (Ent.row v e sz m xs).holds w) : xs.length = m * sz ∧ ((v = .slice none 0 0 ∧ m = 0) ∨ ∃ b cap cur, v = .slice (some ⟨b, 0, none⟩) m cap ∧ w.heap[b]? = some (.cells cur e (0, 0)) ∧ m ≤ cap ∧ cap ≤ maxLen ∧ cur.size = cap * sz ∧ cur.toList.take (m * sz) = xs) := by
 obtain ⟨h1, h2⟩ := h
 refine ⟨h1, ?_⟩
 rcases h2 with h2 | ⟨b, cap, cur, e1, _, e2, e3, e4, e5, e6⟩
 ·exact .inl h2
 ·exact .inr ⟨b, cap, cur, e1, e2, e3, e4, e5, e6⟩
theorem row_cell {w : World} {b c j : Nat} (h : (Ent.row (.slice (some ⟨b, 0, none⟩) m c) e sz m xs).holds w) (hj : xs[j]? = some u) : w.cell? ⟨b, j, none⟩ = some u := by
 obtain ⟨h1, h2⟩ := row_shape h
 rcases h2 with ⟨h2, _⟩ | ⟨b', cap, cur, e1, e2, _, _, _, e6⟩
 ·cases h2
 ·simp only [Value.slice.injEq, Option.some.injEq, Addr.mk.injEq, and_true, true_and] at e1
  obtain ⟨rfl, rfl⟩ := e1
  rw [cell_of_row w b j cur e (0, 0) e2]
  rw [← e6, List.getElem?_take] at hj
  split at hj
  ·simpa using hj
  ·cases hj
theorem o_len_w {d : Option Nat} (ht : P.underlying t = some (.slice e)) (h : ev l x = some v) (hi : H[i]? = some (.row v e sz m xs)) : ORun P n w0 M l H { dst := d, op := .call { callee := .builtin .len, args := #[x], argTypes := #[t] }, type := ty, pos := pos, after := af, guard := g } (.int .i64 m) := fun a w ha hw => by
 obtain ⟨_, h2⟩ := row_shape (hw.ent hi)
 rcases h2 with ⟨rfl, rfl⟩ | ⟨b, cap, cur, rfl, _⟩
 ·exact o_len_sl (n := n) (w0 := w0) (M := M) (H := H) ht h a w ha hw
 ·exact o_len_sl (n := n) (w0 := w0) (M := M) (H := H) ht h a w ha hw
theorem o_ix_w {d : Option Nat} {k : IntKind} {j : Int} (ht : P.underlying t = some (.slice e)) (hz : ∀ w, (sizeOf e).run P w = .ok sz w) (h : ev l x = some v) (hy : ev l y = some (.int k j)) (hi : H[i]? = some (.row v e sz m xs)) (h0 : 0 ≤ j) (h1 : j < m) :
  ORun P n w0 M l H { dst := d, op := .indexAddr t x y, type := ty, pos := pos, after := af, guard := g } (elp sz v j.toNat 0) := fun a w ha hw => by
 obtain ⟨_, h2⟩ := row_shape (hw.ent hi)
 rcases h2 with ⟨rfl, rfl⟩ | ⟨b, cap, cur, rfl, _⟩
 ·omega
 ·simp [execOp, ha.eval h, ha.eval hy, Instr.indexAt, asIntOf, run_underlying ht, h0, h1, hz, addm, elp]
theorem o_ld_w {d : Option Nat} {j off : Nat} (hag : ∀ w, (isAgg t).run P w = .ok false w) (hx : ev l x = some (elp sz v j off)) (hi : H[i]? = some (.row v e sz m xs)) (hc : xs[j * sz + off]? = some u) :
  ORun P n w0 M l H { dst := d, op := .load t x, type := ty, pos := pos, after := af, guard := g } u := fun a w ha hw => by
 have hr := hw.ent hi
 obtain ⟨h1, h2⟩ := row_shape hr
 rcases h2 with ⟨rfl, rfl⟩ | ⟨b, cap, cur, rfl, _⟩
 ·have : xs = [] := List.eq_nil_of_length_eq_zero (by simpa using h1)
  subst this; simp at hc
 ·have hcell := row_cell hr hc
  simp [execOp, ha.eval hx, elp, Instr.loadAt, Instr.sureAddr, loadVar, hag, hcell]
theorem u_st_w {j off : Nat} (hsz : ∀ w, (sizeOf t).run P w = .ok 1 w) (hx : ev l x = some (elp sz v j off)) (hy : ev l y = some u) (hv : u.oneCell' = true) (hi : H[i]? = some (.row v e sz m xs)) (hlt : j * sz + off < xs.length)
  (hH : H.set i (.row v e sz m (xs.set (j * sz + off) u)) = H') (h : WL P n w0 M ops Q rest l H') : WL P n w0 M ops Q ({ dst := none, op := .store t x y, type := ty, pos := pos, after := af, guard := none } :: rest) l H :=
 wl_u fun a w ha hw => by
  have hr := hw.ent hi
  obtain ⟨h1, h2⟩ := row_shape hr
  rcases h2 with ⟨rfl, rfl⟩ | ⟨b, cap, cur, rfl, hb, hc, hm, hcs, htk⟩
  ·have : xs = [] := List.eq_nil_of_length_eq_zero (by simpa using h1)
   subst this; simp at hlt
  ·have hlc : j * sz + off < cur.size := by
    have : xs.length ≤ cur.toList.length := by rw [← htk]; simp; omega
    simp at this; omega
   have h3 := run_storeCells_at P b (j * sz + off) e [u] 0 cur w hb (by simp; omega) (by simpa using hv)
   have hcv : u.cells = #[u] := by cases u <;> first | rfl | simp [Value.oneCell'] at hv
   have h4 : (cur.toList.take (j * sz + off) ++ [u] ++ cur.toList.drop (j * sz + off + 1)).toArray = cur.setIfInBounds (j * sz + off) u := by
    apply Array.ext'
    simp [Array.toList_setIfInBounds, List.set_eq_take_append_cons_drop, hlc]
   simp only [Nat.add_zero, List.length_cons, List.length_nil, Nat.zero_add] at h3
   rw [h4] at h3
   refine ⟨w.setRow b (cur.setIfInBounds (j * sz + off) u), H', ?_, ?_, h⟩
   ·simp [execOp, ha.eval hx, ha.eval hy, elp, Instr.storeAt, Instr.sureAddr, storeVar, hsz, hcv, h3]
   ·subst hH
    refine hw.set hi rfl rfl rfl (by simp [World.setRow]) (fun k _ hk => ?_) ?_ (by simp [Ent.foot, Value.ownBlock])
    ·simp only [Ent.foot, Value.ownBlock, Option.mem_toList, Option.mem_def, Option.some.injEq] at hk
     simp only [World.setRow, Array.getElem?_modify]
     rw [if_neg hk]
    ·refine ⟨by simpa using h1, .inr ⟨b, cap, cur.setIfInBounds (j * sz + off) u, rfl, Nat.zero_le _, setRow_heap w b cur _ e (0, 0) hb, hc, hm, by simpa using hcs, ?_⟩⟩
     rw [← htk, Array.toList_setIfInBounds, List.take_set]
/-! ### append -/
def Rds (sz : Nat) (w : World) (v : Value) (m : Nat) (ys : List Value) : Prop :=
 ys.length = m * sz ∧ ((v = .slice none 0 0 ∧ m = 0) ∨ ∃ (a : Addr) (c : Nat), v = .slice (some a) m c ∧ ∀ j u, ys[j]? = some u → w.cell? (a.add j) = some u)
theorem Rds.of_row {w : World} (h : (Ent.row v e sz m xs).holds w) : Rds sz w v m xs := by
 obtain ⟨h1, h2⟩ := row_shape h
 refine ⟨h1, ?_⟩
 rcases h2 with ⟨rfl, rfl⟩ | ⟨b, cap, cur, rfl, _⟩
 ·exact .inl ⟨rfl, rfl⟩
 ·refine .inr ⟨_, _, rfl, fun j u hj => ?_⟩
  rw [addm, Nat.zero_add]
  exact row_cell h hj
theorem run_append_st {w : World} {z : Value} {inf : TypeInfo} {bytes : Nat} {ys : List Value} {k : Nat} (ty : TypeId) (ht : P.underlying t = some (.slice e)) (hinf : P.info? e = some inf) (hz : inf.zero = some z) (hsize : inf.size = sz) (hby : inf.bytes = bytes) (hzs : z.cells.size = sz) (hsz : 0 < sz)
  (hown : w.ownsRow 0 e sz v m xs) (hr : Rds sz w u k ys) (h1 : ∀ y ∈ ys, y.oneCell' = true) (hb : (m + k) * bytes ≤ 140737488355328) (h63 : m + k ≤ maxLen) :
  ∃ v' w', (Builtin.append_ #[t, t] ty #[v, u]).run P w = .ok v' w' ∧ w'.ownsRow 0 e sz v' (m + k) (xs ++ ys) ∧ w.grownBy w' v.ownBlock ∧ (v'.ownBlock = v.ownBlock ∨ ∀ b, v'.ownBlock = some b → w.heap.size ≤ b) := by
 obtain ⟨hl, hr⟩ := hr
 rcases hr with ⟨rfl, rfl⟩ | ⟨a, c, rfl, hnews⟩
 ·have : ys = [] := List.eq_nil_of_length_eq_zero (by simpa using hl)
  subst this
  exact ⟨v, w, run_append_owned_none (w := w) (base := 0) t ty e inf sz ht hinf v m xs hown, by simpa using hown, ⟨rfl, rfl, rfl, Nat.le_refl _, fun _ _ _ => rfl⟩, .inl rfl⟩
 ·rcases hown.2 with ⟨rfl, rfl⟩ | ⟨b, cap, cur, rfl, _, hg, hnc, hcm, hcs, htake⟩
  ·have hx : xs = [] := List.eq_nil_of_length_eq_zero (by simpa using hown.1)
   subst hx
   obtain ⟨v', w', e1, e2, e3, _⟩ := run_append_own (P := P) w w.heap.size t ty e inf z sz bytes ht hinf hz hsize hby hzs hsz (.slice none 0 0) 0 [] (World.ownsRow_nil w _ e sz) a k c ys hl hnews h1 h63 hb (Nat.le_refl _)
   refine ⟨v', w', e1, ?_, e3, .inr fun b hb => (e2.lt b hb).1⟩
   refine ⟨e2.1, ?_⟩
   rcases e2.2 with h | ⟨g, cap, cur, h, _, rest⟩
   ·exact .inl h
   ·exact .inr ⟨g, cap, cur, h, Nat.zero_le _, rest⟩
  ·by_cases hroom : m + k ≤ cap
   ·obtain ⟨w', e1, e2, e3⟩ := run_append_fits (P := P) w 0 t ty e inf sz ht hinf hsize b m cap xs hown a k c ys hl hnews h1 hroom
    exact ⟨_, w', e1, e2, e3, .inl rfl⟩
   ·subst hsize hby
    have holds : ∀ j u, xs[j]? = some u → w.cell? ((⟨b, 0, none⟩ : Addr).add j) = some u := hown.cells (g := b) rfl
    have hs : m + k ≤ 9223372036854775807 := by simp only [maxLen] at h63; omega
    have e1 := run_append_grow (P := P) w t ty e inf z ht hinf hz ⟨b, 0, none⟩ m cap xs hown.1 holds a k c ys hl hnews (by omega) (by omega) (growslice_fits (by omega) hb)
    have hge := grownCap_ge w (m + k) cap e
    have hcm := grownCap_le_maxLen w (m + k) cap e h63
    have hlen : (xs ++ ys).length = (m + k) * inf.size := by rw [List.length_append, hown.1, hl, Nat.add_mul]
    refine ⟨_, _, e1, ⟨hlen, .inr ⟨w.heap.size, _, _, rfl, Nat.zero_le _, heap_alloc_new w.drew _, hge, hcm, ?_, ?_⟩⟩, ⟨rfl, rfl, rfl, by simp, fun q hq _ => Below.heap_alloc w.drew _ q hq⟩, .inr fun b hb => ?_⟩
    ·simp only [Array.size_append, List.size_toArray, size_zeroCells, hzs, hown.1, hl, ← Nat.add_mul]
     congr 1
     omega
    ·simp only [Array.toList_append, List.append_assoc]
     rw [← List.append_assoc, ← hlen]
     exact List.take_left
    ·simp [Value.ownBlock] at hb; omega
theorem w_append {d : Nat} {z : Value} {inf : TypeInfo} {bytes : Nat} {ys : List Value} {k : Nat} (ht : P.underlying t = some (.slice e)) (hinf : P.info? e = some inf) (hz : inf.zero = some z) (hsize : inf.size = sz) (hby : inf.bytes = bytes) (hzs : z.cells.size = sz) (hsz : 0 < sz)
  (hx : ev l x = some v) (hy : ev l y = some u) (hi : H[i]? = some (.row v e sz m xs)) (hr : ∀ w, St w0 M H w → Rds sz w u k ys) (h1 : ys.all (·.oneCell') = true) (hb : (m + k) * bytes ≤ 140737488355328) (h63 : m + k ≤ maxLen) (hn : Nat.blt d n = true)
  (h : ∀ v', WL P n w0 M ops Q rest ((d, v') :: l) (.row v' e sz (m + k) (xs ++ ys) :: H.eraseIdx i)) :
  WL P n w0 M ops Q ({ dst := some d, op := .call { callee := .builtin .append, args := #[x, y], argTypes := #[t, t] }, type := ty, pos := pos, after := af, guard := none } :: rest) l H := fun a w ha hw => by
 have hent := hw.ent hi
 have hbase : (0 : Nat) ≤ w.heap.size := Nat.zero_le _
 have hin : St w0 M ([.row v e sz m xs] ++ H.eraseIdx i) w := hw.front hi
 have fin : ∀ v' w', w'.ownsRow 0 e sz v' (m + k) (xs ++ ys) → (v'.ownBlock = v.ownBlock ∨ ∀ b, v'.ownBlock = some b → w.heap.size ≤ b) → w.grownBy w' v.ownBlock → wpList P ops Q rest (a.put (some d) v') w' := fun v' w' ho hbk hg => by
  refine h v' _ w' (ha.put hn v') ?_
  refine St.call (Hin := [.row v e sz m xs]) (Hout := [.row v' e sz (m + k) (xs ++ ys)]) (M2 := (Ent.row v e sz m xs).foot) hin ⟨hg.os, hg.tape, hg.output, hg.size, fun q hq hne => hg.block q hq (fun e1 => hne ?_), ?_, ?_, by simp⟩ (fun q hq => ⟨_, by simp, hq⟩)
  ·simp [Ent.foot, ← e1]
  ·intro en he; simp only [List.mem_singleton] at he; subst he; exact ho
  ·intro en he q hq; simp only [List.mem_singleton] at he; subst he
   simp only [Ent.foot, Option.mem_toList] at hq ⊢
   rcases hbk with hbk | hbk
   ·exact .inr (hbk ▸ hq)
   ·exact .inl (hbk q hq)
 obtain ⟨v', w', e1, e2, e3, e4⟩ := run_append_st (P := P) ty ht hinf hz hsize hby hzs hsz hent (hr w hw) (fun y hy => List.all_eq_true.1 h1 y hy) hb h63
 refine wpList_plain rfl fun K hK => ?_
 unfold Oper.wp
 simp [execOp, resolve, invoke, builtin, ha.eval hx, ha.eval hy, e1, Result.andThen]
 exact hK _ _ (fin v' w' e2 e4 e3)
/-! ### parts of a row, to be read -/
end
end Go.Proofs.YtpmiamphppcfeaaGreatDoor

/-
 Operations on memory, over what values stand for. Plain theorems over any program; no condition.
-/
namespace Go.Proofs.YtpmiamphppcfeaaGreatDoor.Q
open Go Go.RowKit
set_option linter.unusedVariables false
set_option linter.unusedSimpArgs false
def AtZ (cs : List Rp) (Z : Fz) (v : Value) : Prop := ∃ b o, v = .pointer (some ⟨b, o, none⟩) ∧ ∀ j r, cs[j]? = some r → ∃ u, zcell Z b (o + j) = some u ∧ r.p Z u
def rAt (cs : List Rp) : Rp := ⟨AtZ cs, fun h ⟨b, o, e, hc⟩ => ⟨b, o, e, fun j r hj => let ⟨u, hu, hr⟩ := hc j r hj; ⟨u, zcell_mono h hu, r.mono h hr⟩⟩, true, fun _ Z v ⟨b, o, e, _⟩ => by rw [e]; rfl⟩
def OneR (H : List Ent) (r : Rp) : Prop := ∀ (c : Cx) Z w v, St c H Z w → r.p Z v → v.oneCell' = true
theorem one_c {H : List Ent} {r : Rp} (h : r.one = true) : OneR H r := fun _ Z _ v _ hp => r.hone h Z v hp
theorem one_row {H : List Ent} {i : Nat} {v : Value} {e : TypeId} {sz : Nat} {xs : List (List Rp)} (hi : H[i]? = some (.row v e sz xs)) : OneR H (rv v) := fun c Z w u hw hp => by
 obtain ⟨_, us, ⟨_, h2⟩, _⟩ := hw.ent hi
 rw [show u = v from hp]
 rcases h2 with ⟨rfl, _⟩ | ⟨b, cap, cur, rfl, _⟩ <;> rfl
def OneAll (H : List Ent) : List Rp → Prop
 | [] => True
 | r :: rs => OneR H r ∧ OneAll H rs
theorem OneAll.c {H : List Ent} : ∀ {rs : List Rp}, rs.all (·.one) = true → OneAll H rs
 | [], _ => trivial
 | r :: rs, h => by simp only [List.all_cons, Bool.and_eq_true] at h; exact ⟨one_c h.1, OneAll.c h.2⟩
theorem OneAll.at {H : List Ent} {c : Cx} {Z : Fz} {w : World} (hw : St c H Z w) : ∀ {rs : List Rp} {vs : List Value}, OneAll H rs → RpAll Z rs vs → ∀ v ∈ vs, v.oneCell' = true
 | [], [], _, _, _, h => by simp at h
 | r :: rs, v :: vs, ⟨h1, h2⟩, ⟨h3, h4⟩, u, h => by
  rcases List.mem_cons.1 h with rfl | h
  ·exact h1 c Z w _ hw h3
  ·exact h2.at hw h4 u h
section
variable {P : Program} {n : Nat} {c : Cx} {ops : Array Oper} {Q : Exit → Act → World → Prop} {rest : List Oper} {l : Fr} {H H' : List Ent} {d : Nat} {d' : Option Nat} {x y : Operand} {ty t t' e : TypeId} {pos : String} {af : Array Edge} {g : Option (Nat × Bool)} {v u : Value} {r : Rp} {sz : Nat}

/-! ### New blocks -/
theorem RpAll.rvs (Z : Fz) : ∀ us : List Value, RpAll Z (us.map rv) us
 | [] => trivial
 | u :: us => ⟨rfl, RpAll.rvs Z us⟩
theorem w_alloc {z : Value} {cs : List Rp} (hz : ∀ w, (zeroValue e).run P w = .ok z w) (hcs : z.cells.toList.map rv = cs) (hn : Nat.blt d n = true)
  (h : ∀ b, WL P n c ops Q rest ((d, rv (.pointer (some ⟨b, 0, none⟩))) :: l) (.blk b cs e :: H)) :
  WL P n c ops Q ({ dst := some d, op := .alloc e, type := ty, pos := pos, after := af, guard := none } :: rest) l H :=
 wl_w (fun a w Z ha hw => ⟨_, w.alloc (.cells z.cells e), _, _, Z, by simp [execOp, Instr.alloc, hz, newVar, newRow, newObj, Sem.run, Sem.run_bind], Fz.le.refl _, rfl,
  hw.alloc _ (e := .blk w.heap.size cs e) ⟨z.cells.toList, by simpa using heap_alloc_new w _, by subst hcs; exact RpAll.rvs Z _⟩ rfl, h w.heap.size⟩) hn
theorem w_box_agg {cs : List Rp} (hx : ev l x = some (rAgg cs)) (hn : Nat.blt d n = true)
  (h : ∀ b, WL P n c ops Q rest ((d, rv (.pointer (some ⟨b, 0, none⟩))) :: l) (.blk b cs e :: H)) :
  WL P n c ops Q ({ dst := some d, op := .box e x, type := ty, pos := pos, after := af, guard := none } :: rest) l H :=
 wl_w (fun a w Z ha hw => by
  obtain ⟨us, e1, hu⟩ := ha.ev hx
  exact ⟨_, w.alloc (.cells us.toArray e), _, _, Z, by simp [execOp, e1, Instr.box, newVar, newRow, newObj, Sem.run, Value.cells], Fz.le.refl _, rfl,
   hw.alloc _ (e := .blk w.heap.size cs e) ⟨us, by simpa using heap_alloc_new w _, hu⟩ rfl, h w.heap.size⟩) hn
theorem cells_one {v : Value} (h : v.oneCell' = true) : v.cells = #[v] := by cases v <;> first | rfl | simp [Value.oneCell'] at h
theorem w_box {r : Rp} (hx : ev l x = some r) (ho : OneR H r) (hn : Nat.blt d n = true)
  (h : ∀ b, WL P n c ops Q rest ((d, rv (.pointer (some ⟨b, 0, none⟩))) :: l) (.blk b [r] e :: H)) :
  WL P n c ops Q ({ dst := some d, op := .box e x, type := ty, pos := pos, after := af, guard := none } :: rest) l H :=
 wl_w (fun a w Z ha hw => by
  have hr := ha.ev hx
  have hc := cells_one (ho c Z w _ hw hr)
  exact ⟨_, w.alloc (.cells #[a.eval x] e), _, _, Z, by simp [execOp, Instr.box, newVar, newRow, newObj, Sem.run, hc], Fz.le.refl _, rfl,
   hw.alloc _ (e := .blk w.heap.size [r] e) ⟨[a.eval x], by simpa using heap_alloc_new w _, hr, trivial⟩ rfl, h w.heap.size⟩) hn

/-! ### Loads -/
theorem o_load {i b off : Nat} {cs : List Rp} (hag : ∀ w, (isAgg t).run P w = .ok false w) (hx : ev l x = some (rv (.pointer (some ⟨b, off, none⟩)))) (hi : H[i]? = some (.blk b cs e)) (hc : cs[off]? = some r) :
  ORun P n c l H { dst := d', op := .load t x, type := ty, pos := pos, after := af, guard := g } r := fun a w Z ha hw => by
 obtain ⟨us, h1, h2⟩ := hw.ent hi
 obtain ⟨u, hu, hp⟩ := h2.at hc
 have hcell : w.cell? ⟨b, off, none⟩ = some u := by rw [cell_of_row w b off _ e (0, 0) h1]; simpa using hu
 exact ⟨u, hp, by simp [execOp, ha.eval hx, Instr.loadAt, Instr.sureAddr, loadVar, hag, hcell]⟩
theorem o_load_agg {i b off : Nat} {cs r : List Rp} (hag : ∀ w, (isAgg t).run P w = .ok true w) (hsz : ∀ w, (sizeOf t).run P w = .ok sz w)
  (hx : ev l x = some (rv (.pointer (some ⟨b, off, none⟩)))) (hi : H[i]? = some (.blk b cs e)) (hr : (cs.drop off).take sz = r) (hl : r.length = sz) :
  ORun P n c l H { dst := d', op := .load t x, type := ty, pos := pos, after := af, guard := g } (rAgg r) := fun a w Z ha hw => by
 obtain ⟨us, h1, h2⟩ := hw.ent hi
 have h3 := (h2.drop off).take sz
 rw [hr] at h3
 have hlen := h3.length
 have h4 := run_loadCells_list (P := P) w ⟨b, off, none⟩ ((us.drop off).take sz) (fun j u hj => by
  rw [addm, cell_of_row w b _ _ e (0, 0) h1]
  rw [List.getElem?_take] at hj
  split at hj
  ·simpa using hj
  ·cases hj)
 rw [hlen, hl] at h4
 exact ⟨.agg ((us.drop off).take sz).toArray, ⟨_, rfl, h3⟩, by simp [execOp, ha.eval hx, Instr.loadAt, Instr.sureAddr, loadVar, hag, hsz, h4]⟩
theorem o_load_z {cs : List Rp} (hag : ∀ w, (isAgg t).run P w = .ok false w) (hx : ev l x = some (rAt cs)) (hc : cs[0]? = some r) :
  ORun P n c l H { dst := d', op := .load t x, type := ty, pos := pos, after := af, guard := g } r := fun a w Z ha hw => by
 obtain ⟨b, o, e1, hcs⟩ := ha.ev hx
 obtain ⟨u, hu, hp⟩ := hcs 0 r hc
 have hcell := zcell_cell hw.frz hu
 rw [Nat.add_zero] at hcell
 exact ⟨u, hp, by simp [execOp, e1, Instr.loadAt, Instr.sureAddr, loadVar, hag, hcell]⟩
theorem all_of_at {Z : Fz} : ∀ {cs : List Rp} {f : Nat → Option Value}, (∀ j r, cs[j]? = some r → ∃ u, f j = some u ∧ r.p Z u) → ∃ us : List Value, RpAll Z cs us ∧ ∀ (j : Nat) u, us[j]? = some u → f j = some u
 | [], f, _ => ⟨[], trivial, by simp⟩
 | r :: rs, f, h => by
  obtain ⟨u, hu, hp⟩ := h 0 r rfl
  obtain ⟨us, h1, h2⟩ := all_of_at (cs := rs) (f := fun j => f (j + 1)) (fun j r' hj => h (j + 1) r' (by simpa using hj))
  refine ⟨u :: us, ⟨hp, h1⟩, fun j u' hj => ?_⟩
  cases j with
  | zero => simp at hj; subst hj; exact hu
  | succ j => exact h2 j u' (by simpa using hj)
theorem o_load_za {cs r : List Rp} (hag : ∀ w, (isAgg t).run P w = .ok true w) (hsz : ∀ w, (sizeOf t).run P w = .ok sz w) (hx : ev l x = some (rAt cs)) (hr : cs.take sz = r) (hl : r.length = sz) :
  ORun P n c l H { dst := d', op := .load t x, type := ty, pos := pos, after := af, guard := g } (rAgg r) := fun a w Z ha hw => by
 obtain ⟨b, o, e1, hcs⟩ := ha.ev hx
 obtain ⟨us, h1, h2⟩ := all_of_at (cs := r) (f := fun j => zcell Z b (o + j)) (fun j q hj => hcs j q (by
  subst hr
  rw [List.getElem?_take] at hj
  split at hj
  ·exact hj
  ·cases hj))
 have h4 := run_loadCells_list (P := P) w ⟨b, o, none⟩ us (fun j u hj => by rw [addm]; exact zcell_cell hw.frz (h2 j u hj))
 rw [h1.length, hl] at h4
 exact ⟨.agg us.toArray, ⟨_, rfl, h1⟩, by simp [execOp, e1, Instr.loadAt, Instr.sureAddr, loadVar, hag, hsz, h4]⟩

/-! ### Stores -/
theorem u_store {i b off : Nat} {cs : List Rp} (hag : ∀ w, (sizeOf t).run P w = .ok 1 w) (hx : ev l x = some (rv (.pointer (some ⟨b, off, none⟩)))) (hy : ev l y = some r) (hv : OneR H r)
  (hi : H[i]? = some (.blk b cs e)) (hlt : Nat.blt off cs.length = true) {cs' : List Rp} (hcs : cs.set off r = cs') (hH : H.set i (.blk b cs' e) = H')
  (h : WL P n c ops Q rest l H') : WL P n c ops Q ({ dst := none, op := .store t x y, type := ty, pos := pos, after := af, guard := none } :: rest) l H :=
 wl_u fun a w Z ha hw => by
  obtain ⟨us, hb, h2⟩ := hw.ent hi
  have hr := ha.ev hy
  have hone := hv c Z w _ hw hr
  have hlen := h2.length
  have hlt' : off < us.length := by rw [hlen]; simpa using hlt
  have h1 := run_storeCells_at P b off e [a.eval y] 0 us.toArray w hb (by simp; omega) (by simpa using hone)
  have hcv := cells_one hone
  have h3 : us.take off ++ [a.eval y] ++ us.drop (off + 1) = us.set off (a.eval y) := by
   simp [List.set_eq_take_append_cons_drop, hlt']
  simp only [Nat.add_zero, List.length_cons, List.length_nil, Nat.zero_add] at h1
  rw [h3] at h1
  refine ⟨w.setRow b (us.set off (a.eval y)).toArray, H', ?_, ?_, h⟩
  ·simp [execOp, ha.eval hx, Instr.storeAt, Instr.sureAddr, storeVar, hag, hcv, h1]
  ·subst hH; subst hcs
   refine hw.set hi rfl rfl rfl (by simp [World.setRow]) (fun k _ hk => ?_) ⟨us.set off (a.eval y), setRow_heap w b _ _ e (0, 0) hb, h2.set off hr⟩ (by simp [Ent.foot])
   simp only [Ent.foot, List.mem_singleton] at hk
   simp only [World.setRow, Array.getElem?_modify]
   rw [if_neg (fun e => hk e.symm)]
theorem u_store_agg {i b off : Nat} {cs rs : List Rp} (hsz : ∀ w, (sizeOf t).run P w = .ok sz w) (hx : ev l x = some (rv (.pointer (some ⟨b, off, none⟩)))) (hy : ev l y = some (rAgg rs))
  (hl : rs.length = sz) (hv : OneAll H rs) (hi : H[i]? = some (.blk b cs e)) (hlt : Nat.ble (off + sz) cs.length = true) {cs' : List Rp}
  (hcs : cs.take off ++ rs ++ cs.drop (off + sz) = cs') (hH : H.set i (.blk b cs' e) = H')
  (h : WL P n c ops Q rest l H') : WL P n c ops Q ({ dst := none, op := .store t x y, type := ty, pos := pos, after := af, guard := none } :: rest) l H :=
 wl_u fun a w Z ha hw => by
  obtain ⟨us, hb, h2⟩ := hw.ent hi
  obtain ⟨vs, e1, h4⟩ := ha.ev hy
  have hlen := h2.length
  have hvl := h4.length
  have hlt' : off + sz ≤ us.length := by rw [hlen]; simpa using hlt
  have h1 := run_storeCells_at P b off e vs 0 us.toArray w hb (by simp; omega) (fun v hv' => hv.at hw h4 v hv')
  simp only [Nat.add_zero] at h1
  refine ⟨w.setRow b (us.take off ++ vs ++ us.drop (off + sz)).toArray, H', ?_, ?_, h⟩
  ·have h5 : vs.length = sz := by omega
   rw [h5] at h1
   simp only [List.append_assoc] at h1 ⊢
   simp [execOp, ha.eval hx, e1, Instr.storeAt, Instr.sureAddr, storeVar, hsz, Value.cells, h5, h1]
  ·subst hH; subst hcs
   refine hw.set hi rfl rfl rfl (by simp [World.setRow]) (fun k _ hk => ?_) ⟨us.take off ++ vs ++ us.drop (off + sz), setRow_heap w b _ _ e (0, 0) hb, ((h2.take off).append h4).append (h2.drop (off + sz))⟩ (by simp [Ent.foot])
   simp only [Ent.foot, List.mem_singleton] at hk
   simp only [World.setRow, Array.getElem?_modify]
   rw [if_neg (fun e => hk e.symm)]

/-! ### Addresses -/
theorem o_nilcheck {p : Addr} (hx : ev l x = some (rv (.pointer (some p)))) : ORun P n c l H { dst := d', op := .nilCheck x, type := ty, pos := pos, after := af, guard := g } (rv (.pointer (some p))) := fun a w Z ha hw => o_mk <| by
 simp [execOp, ha.eval hx]
theorem o_fieldAddr {b off off' i : Nat} {fs : Array Field} {f : Field} (hu : P.underlying t = some (.struct fs)) (hf : fs[i]? = some f) (hsz : ∀ w, (sizeOf f.type).run P w = .ok (sz + 1) w)
  (hx : ev l x = some (rv (.pointer (some ⟨b, off, none⟩)))) (ho : off + f.offset = off') : ORun P n c l H { dst := d', op := .fieldAddr t x i, type := ty, pos := pos, after := af, guard := g } (rv (.pointer (some ⟨b, off', none⟩))) := fun a w Z ha hw => o_mk <| by
 subst ho
 simp [execOp, ha.eval hx, Instr.fieldAt, run_underlying hu, hf, Instr.sureAddr, fieldPlace, hsz, addm]
theorem o_fieldAddr_z {i : Nat} {cs cs' : List Rp} {fs : Array Field} {f : Field} (hu : P.underlying t = some (.struct fs)) (hf : fs[i]? = some f) (hsz : ∀ w, (sizeOf f.type).run P w = .ok (sz + 1) w)
  (hx : ev l x = some (rAt cs)) (ho : cs.drop f.offset = cs') : ORun P n c l H { dst := d', op := .fieldAddr t x i, type := ty, pos := pos, after := af, guard := g } (rAt cs') := fun a w Z ha hw => by
 subst ho
 obtain ⟨b, o, e1, hcs⟩ := ha.ev hx
 refine ⟨.pointer (some ⟨b, o + f.offset, none⟩), ⟨b, o + f.offset, rfl, fun j r hj => ?_⟩, by simp [execOp, e1, Instr.fieldAt, run_underlying hu, hf, Instr.sureAddr, fieldPlace, hsz, addm]⟩
 obtain ⟨u, hu, hr⟩ := hcs (f.offset + j) r (by simpa using hj)
 exact ⟨u, by rw [Nat.add_assoc]; exact hu, hr⟩
theorem o_ix_z {α : Type} [Inhabited α] {ys : List α} {enc : α → List Rp} {k : IntKind} {i : Int} (ht : P.underlying t = some (.slice e)) (hz : ∀ w, (sizeOf e).run P w = .ok sz w) (h : ev l x = some (rSl sz (ys.map enc))) (hi : ev l y = some (rI k i)) (hg : inR i (ys.length : Int) = true) :
  ORun P n c l H { dst := d', op := .indexAddr t x y, type := ty, pos := pos, after := af, guard := g } (rAt (enc (at' ys i))) := fun a w Z ha hw => by
 obtain ⟨A, cap, e1, _, _, _, hc⟩ := ha.ev h
 have h0 := (inR_iff hg).1
 have h1 : i.toNat < ys.length := by have := (inR_iff hg).2; omega
 have hlt : i < (ys.length : Int) := (inR_iff hg).2
 obtain ⟨hl, ad, rfl, hs, hcs⟩ := hc i.toNat (enc ys[i.toNat]) (by simp [h1])
 obtain ⟨b, off, spot⟩ := ad
 simp only at hs; subst hs
 have eat : at' ys i = ys[i.toNat] := by simp [at', h1]
 refine ⟨.pointer (some ⟨b, off + i.toNat * sz, none⟩), ⟨b, off + i.toNat * sz, rfl, fun j r hj => ?_⟩, ?_⟩
 ·obtain ⟨u, hu, hr⟩ := hcs j r (by rw [← eat]; exact hj)
  exact ⟨u, by rw [Nat.add_assoc]; exact hu, hr⟩
 ·simp only [List.length_map] at e1
  simp [execOp, e1, ha.eval hi, Instr.indexAt, asIntOf, run_underlying ht, h0, hlt, hz, addm]

/-! ### Rows of one's own -/
theorem WL.nilrow {e : TypeId} {sz : Nat} (h : WL P n c ops Q rest l (.row (.slice none 0 0) e sz [] :: H)) : WL P n c ops Q rest l H := fun a w Z ha hw =>
 h a w Z ha (hw.add rfl rfl rfl (Nat.le_refl _) (fun _ _ => rfl) ⟨by simp, [], ⟨by simp, .inl ⟨rfl, rfl⟩⟩, trivial⟩ (by simp [Ent.foot, Value.ownBlock]))
theorem WC.nilrow {xx : Code} {e : TypeId} {sz : Nat} (h : WC P n c xx Q l (.row (.slice none 0 0) e sz [] :: H)) : WC P n c xx Q l H := fun a w Z ha hw =>
 h a w Z ha (hw.add rfl rfl rfl (Nat.le_refl _) (fun _ _ => rfl) ⟨by simp, [], ⟨by simp, .inl ⟨rfl, rfl⟩⟩, trivial⟩ (by simp [Ent.foot, Value.ownBlock]))
theorem WK.nilrow {K : Act → World → Prop} {e : TypeId} {sz : Nat} (h : WK n c K l (.row (.slice none 0 0) e sz [] :: H)) : WK n c K l H := fun a w Z ha hw =>
 h a w Z ha (hw.add rfl rfl rfl (Nat.le_refl _) (fun _ _ => rfl) ⟨by simp, [], ⟨by simp, .inl ⟨rfl, rfl⟩⟩, trivial⟩ (by simp [Ent.foot, Value.ownBlock]))
theorem o_len_w {i : Nat} {xs : List (List Rp)} (ht : P.underlying t = some (.slice e)) (h : ev l x = some (rv v)) {e' : TypeId} (hi : H[i]? = some (.row v e' sz xs)) : ORun P n c l H { dst := d', op := .call { callee := .builtin .len, args := #[x], argTypes := #[t] }, type := ty, pos := pos, after := af, guard := g } (rI .i64 xs.length) := fun a w Z ha hw => o_mk <| by
 obtain ⟨_, us, ⟨_, h2⟩, _⟩ := hw.ent hi
 rcases h2 with ⟨rfl, hz⟩ | ⟨b, cap, cur, rfl, _⟩
 ·simp [execOp, resolve, invoke, builtin, ha.eval h, Builtin.len_, run_underlying ht, goInt, hz]
 ·simp [execOp, resolve, invoke, builtin, ha.eval h, Builtin.len_, run_underlying ht, goInt]
theorem o_ix_w {i : Nat} {k : IntKind} {j : Int} {xs : List (List Rp)} (ht : P.underlying t = some (.slice e)) (hz : ∀ w, (sizeOf e).run P w = .ok sz w) (h : ev l x = some (rv v)) (hy : ev l y = some (rI k j)) {e' : TypeId} (hi : H[i]? = some (.row v e' sz xs)) (hg : inR j (xs.length : Int) = true) :
  ORun P n c l H { dst := d', op := .indexAddr t x y, type := ty, pos := pos, after := af, guard := g } (rv (elp sz v j.toNat 0)) := fun a w Z ha hw => o_mk <| by
 obtain ⟨_, us, ⟨_, h2⟩, _⟩ := hw.ent hi
 have h0 := (inR_iff hg).1
 have h1 := (inR_iff hg).2
 rcases h2 with ⟨rfl, hz⟩ | ⟨b, cap, cur, rfl, _⟩
 ·omega
 ·simp [execOp, ha.eval h, ha.eval hy, Instr.indexAt, asIntOf, run_underlying ht, h0, h1, hz, addm, elp]
theorem o_ld_w {α : Type} [Inhabited α] {ys : List α} {enc : α → List Rp} {i off : Nat} {j : Int} (hag : ∀ w, (isAgg t).run P w = .ok false w) (hx : ev l x = some (rv (elp sz v j.toNat off))) (hi : H[i]? = some (.row v e sz (ys.map enc))) (hg : inR j (ys.length : Int) = true) (hc : (enc (at' ys j))[off]? = some r) :
  ORun P n c l H { dst := d', op := .load t x, type := ty, pos := pos, after := af, guard := g } r := fun a w Z ha hw => by
 obtain ⟨hs, us, ⟨h1, h2⟩, h3⟩ := hw.ent hi
 have h0 := (inR_iff hg).1
 have hlt : j.toNat < ys.length := by have := (inR_iff hg).2; omega
 have eat : at' ys j = ys[j.toNat] := by simp [at', hlt]
 have hfl := flat_at' hs (i := j.toNat) (c := enc ys[j.toNat]) (by simp [hlt]) (j := off) (u := r) (by rw [← eat]; exact hc)
 obtain ⟨u, hu, hp⟩ := h3.at hfl
 rcases h2 with ⟨rfl, hz⟩ | ⟨b, cap, cur, rfl, _, hg', hcap, hm, hsz, htk⟩
 ·simp at hz; subst hz; simp at hlt
 ·have hcell : w.cell? ⟨b, j.toNat * sz + off, none⟩ = some u := by
   rw [cell_of_row w b _ cur e (0, 0) hg']
   rw [← htk, List.getElem?_take] at hu
   split at hu
   ·simpa using hu
   ·cases hu
  exact ⟨u, hp, by simp [execOp, ha.eval hx, elp, Instr.loadAt, Instr.sureAddr, loadVar, hag, hcell]⟩
theorem len_map {α : Type} {ys : List α} {enc : α → List Rp} {j : Int} (h : inR j (ys.length : Int) = true) : inR j ((ys.map enc).length : Int) = true := by rw [List.length_map]; exact h
theorem o_len_zt {α : Type} {ys : List α} {enc : α → List Rp} (ht : P.underlying t = some (.slice e)) (h : ev l x = some (rSl sz (ys.map enc))) : ORun P n c l H { dst := d', op := .call { callee := .builtin .len, args := #[x], argTypes := #[t] }, type := ty, pos := pos, after := af, guard := g } (rI .i64 ys.length) := by
 have := o_len_z (P := P) (n := n) (c := c) (H := H) (d := d') (ty := ty) (pos := pos) (af := af) (g := g) ht h
 rwa [List.length_map] at this
theorem o_len_wt {α : Type} {ys : List α} {enc : α → List Rp} {i : Nat} (ht : P.underlying t = some (.slice e)) (h : ev l x = some (rv v)) {e' : TypeId} (hi : H[i]? = some (.row v e' sz (ys.map enc))) : ORun P n c l H { dst := d', op := .call { callee := .builtin .len, args := #[x], argTypes := #[t] }, type := ty, pos := pos, after := af, guard := g } (rI .i64 ys.length) := by
 have := o_len_w (P := P) (n := n) (c := c) (d' := d') (ty := ty) (pos := pos) (af := af) (g := g) ht h hi
 rwa [List.length_map] at this
theorem o_nilcheck_w {k off : Nat} {xs : List (List Rp)} {e' : TypeId} {jj : Int} {j : Nat} (hk : H[k]? = some (.row v e' sz xs)) (hg : inR jj (xs.length : Int) = true) (hj : jj.toNat = j) (hx : ev l x = some (rv (elp sz v j off))) : ORun P n c l H { dst := d', op := .nilCheck x, type := ty, pos := pos, after := af, guard := g } (rv (elp sz v j off)) := fun a w Z ha hw => o_mk <| by
 obtain ⟨hs, us, ⟨h1, h2⟩, h3⟩ := hw.ent hk
 rcases h2 with ⟨rfl, hz⟩ | ⟨b, cap, cur, rfl, _⟩
 ·have := inR_iff hg; omega
 ·simp [execOp, ha.eval hx, elp]
theorem o_fa_w {off off' i j fsz : Nat} {fs : Array Field} {f : Field} (hu : P.underlying t = some (.struct fs)) (hf : fs[i]? = some f) (hsz : ∀ w, (sizeOf f.type).run P w = .ok (fsz + 1) w) {k : Nat} {xs : List (List Rp)} {e' : TypeId} {jj : Int} (hk : H[k]? = some (.row v e' sz xs)) (hg : inR jj (xs.length : Int) = true) (hj : jj.toNat = j)
  (hx : ev l x = some (rv (elp sz v j off))) (ho : off + f.offset = off') : ORun P n c l H { dst := d', op := .fieldAddr t x i, type := ty, pos := pos, after := af, guard := g } (rv (elp sz v j off')) := fun a w Z ha hw => o_mk <| by
 obtain ⟨hs, us, ⟨h1, h2⟩, h3⟩ := hw.ent hk
 subst ho hj
 rcases h2 with ⟨rfl, hz⟩ | ⟨b, cap, cur, rfl, _⟩
 ·have := inR_iff hg; omega
 ·simp [execOp, ha.eval hx, elp, Instr.fieldAt, run_underlying hu, hf, Instr.sureAddr, fieldPlace, hsz, addm, Nat.add_assoc]
theorem u_st_w {α : Type} [Inhabited α] {ys : List α} {enc : α → List Rp} {i off : Nat} {j : Int} {y' : α} (hsz : ∀ w, (sizeOf t).run P w = .ok 1 w) (hx : ev l x = some (rv (elp sz v j.toNat off))) (hy : ev l y = some r) (hv : OneR H r) (hi : H[i]? = some (.row v e sz (ys.map enc))) (hg : inR j (ys.length : Int) = true)
  (hy' : (enc (at' ys j)).set off r = enc y') (hlt : Nat.blt off sz = true) (hH : H.set i (.row v e sz ((ys.set j.toNat y').map enc)) = H') (h : WL P n c ops Q rest l H') :
  WL P n c ops Q ({ dst := none, op := .store t x y, type := ty, pos := pos, after := af, guard := none } :: rest) l H :=
 wl_u fun a w Z ha hw => by
  obtain ⟨hs, us, ⟨h1, h2⟩, h3⟩ := hw.ent hi
  have h0 := (inR_iff hg).1
  have hlj : j.toNat < ys.length := by have := (inR_iff hg).2; omega
  have hlt' : off < sz := by simpa using hlt
  have eat : at' ys j = ys[j.toNat] := by simp [at', hlj]
  have hr := ha.ev hy
  have hone := hv c Z w _ hw hr
  rcases h2 with ⟨rfl, hz⟩ | ⟨b, cap, cur, rfl, _, hg', hcap, hm, hcs, htk⟩
  ·simp at hz; subst hz; simp at hlj
  ·simp only [List.length_map] at h1 hcap htk
   have hin : j.toNat * sz + off < ys.length * sz := by
    have : (j.toNat + 1) * sz ≤ ys.length * sz := Nat.mul_le_mul_right _ hlj
    rw [Nat.succ_mul] at this; omega
   have hlc : j.toNat * sz + off < cur.size := by
    have : ys.length * sz ≤ cap * sz := Nat.mul_le_mul_right _ hcap
    omega
   have h4 := run_storeCells_at P b (j.toNat * sz + off) e [a.eval y] 0 cur w hg' (by simp; omega) (by simpa using hone)
   have hcv := cells_one hone
   have h5 : (cur.toList.take (j.toNat * sz + off) ++ [a.eval y] ++ cur.toList.drop (j.toNat * sz + off + 1)).toArray = cur.setIfInBounds (j.toNat * sz + off) (a.eval y) := by
    apply Array.ext'
    simp [Array.toList_setIfInBounds, List.set_eq_take_append_cons_drop, hlc]
   simp only [Nat.add_zero, List.length_cons, List.length_nil, Nat.zero_add] at h4
   rw [h5] at h4
   have hset : ((ys.set j.toNat y').map enc).flatten = (ys.map enc).flatten.set (j.toNat * sz + off) r := by
    clear h3 h1 hcs htk hin hlc h4 h5 hi hH
    have key : ∀ (xs : List (List Rp)) (k : Nat) (cl : List Rp), (∀ c ∈ xs, c.length = sz) → xs[k]? = some cl → (xs.set k (cl.set off r)).flatten = xs.flatten.set (k * sz + off) r := by
     intro xs
     induction xs with
     | nil => intro k cl _ hk; simp at hk
     | cons z zs ih =>
      intro k cl hsz hk
      have hzl : z.length = sz := hsz z (by simp)
      cases k with
      | zero =>
       simp at hk; subst hk
       simp only [List.set_cons_zero, List.flatten_cons, Nat.zero_mul, Nat.zero_add]
       rw [List.set_append_left _ _ (by omega)]
      | succ k =>
       simp only [List.set_cons_succ, List.flatten_cons]
       rw [ih k cl (fun c hc => hsz c (by simp [hc])) (by simpa using hk)]
       rw [List.set_append_right _ _ (by rw [hzl, Nat.succ_mul]; omega)]
       congr 2
       rw [hzl, Nat.succ_mul]; omega
    have := key (ys.map enc) j.toNat (enc ys[j.toNat]) hs (by simp [hlj])
    rw [← this, List.map_set, ← hy', eat]
   refine ⟨w.setRow b (cur.setIfInBounds (j.toNat * sz + off) (a.eval y)), H', ?_, ?_, h⟩
   ·simp [execOp, ha.eval hx, elp, Instr.storeAt, Instr.sureAddr, storeVar, hsz, hcv, h4]
   ·subst hH
    refine hw.set hi rfl rfl rfl (by simp [World.setRow]) (fun k _ hk => ?_) ⟨?_, us.set (j.toNat * sz + off) (a.eval y), ⟨by simpa using h1, .inr ⟨b, cap, _, by simp, Nat.zero_le _, setRow_heap w b cur _ e (0, 0) hg', by simpa using hcap, hm, by simpa using hcs, ?_⟩⟩, ?_⟩ (by simp [Ent.foot, Value.ownBlock])
    ·simp only [Ent.foot, Value.ownBlock, Option.mem_toList, Option.mem_def, Option.some.injEq] at hk
     simp only [World.setRow, Array.getElem?_modify]
     rw [if_neg hk]
    ·intro cl hcl
     rw [List.map_set] at hcl
     rcases List.mem_or_eq_of_mem_set hcl with h' | rfl
     ·exact hs cl h'
     ·rw [← hy', List.length_set, eat]; exact hs _ (List.mem_map_of_mem (List.getElem_mem hlj))
    ·simp only [List.length_map, List.length_set]
     rw [Array.toList_setIfInBounds, List.take_set, htk]
    ·rw [hset]; exact h3.set _ hr
end
end Go.Proofs.YtpmiamphppcfeaaGreatDoor.Q

/-
 Rows made, appended to, cut; results that lie in memory; small operations. Plain theorems over any program; no condition.
-/
namespace Go.Proofs.YtpmiamphppcfeaaGreatDoor.Q
open Go Go.RowKit
set_option linter.unusedVariables false
set_option linter.unusedSimpArgs false
theorem run_bs {P : Program} {t e : TypeId} {sz len : Nat} {z : Value} {parts : Array (Nat × Value)} {cs : List Value} (ht : P.underlying t = some (.slice e)) (hz : ∀ w, (sizeOf e).run P w = .ok sz w) (hzv : ∀ w, (zeroValue e).run P w = .ok z w)
  (hle : Nat.ble (len * sz) 16777216 = true) (w : World) (hf : Instr.fill (fun i => some (i * sz, sz)) ((Array.range (len * sz)).map ((if len * sz = 0 then #[] else z.cells)[· % (if len * sz = 0 then #[] else z.cells).size]!)) parts.toList = some cs.toArray) :
  (Instr.buildSlice t len parts).run P w = .ok (.slice (some ⟨w.heap.size, 0, none⟩) len len) (w.alloc (.cells cs.toArray e)) := by
 have hle' : ¬ 16777216 < len * sz := by simpa using hle
 unfold Instr.buildSlice
 by_cases h0 : len * sz = 0
 ·have er : Array.range 0 = #[] := rfl
  simp only [h0, if_true, er] at hf
  have hf : Instr.fill (fun i => some (i * sz, sz)) #[] parts.toList = some cs.toArray := by simpa using hf
  simp [run_underlying ht, hz, hle', h0, er, hf, newRow, newObj, Sem.run, Sem.run_bind]
 ·simp only [h0, if_false] at hf
  simp [run_underlying ht, hz, hzv, hle', h0, hf, newRow, newObj, Sem.run, Sem.run_bind]
section
variable {P : Program} {n : Nat} {c : Cx} {ops : Array Oper} {Q : Exit → Act → World → Prop} {rest : List Oper} {l : Fr} {H H' : List Ent} {d : Nat} {d' : Option Nat} {x y z3 : Operand} {ty t t' e : TypeId} {pos : String} {af : Array Edge} {g : Option (Nat × Bool)} {v u : Value} {r : Rp} {sz : Nat}
/-! ### Results in memory -/
theorem rv_ca {i b k : Nat} {cs : List Rp} (hag : ∀ w, (isAgg t).run P w = .ok true w) (hsz : ∀ w, (sizeOf t).run P w = .ok sz w) (hx : look l k = some (rv (.pointer (some ⟨b, 0, none⟩)))) (hi : H[i]? = some (.blk b cs e)) (hl : cs.length = sz) : RV P n c l H (.cell k t) (rAgg cs) := fun a w Z ha hw => by
 obtain ⟨us, h1, h2⟩ := hw.ent hi
 obtain ⟨p, hp1, hp2⟩ := ha.tm k _ hx
 rw [show p = _ from hp2] at hp1
 have h4 := run_loadCells_list (P := P) w ⟨b, 0, none⟩ us (fun j u hj => by
  rw [addm, cell_of_row w b _ _ e (0, 0) h1, Nat.zero_add]; simpa using hj)
 rw [h2.length, hl] at h4
 exact ⟨.agg us.toArray, ⟨us, rfl, h2⟩, by simp [rres, Array.getD_eq_getD_getElem?, hp1, asAddr, loadVar, hag, hsz, h4]⟩

/-! ### What values' cells are -/
def Cel (H : List Ent) (r : Rp) (cs : List Rp) : Prop := ∀ (c : Cx) Z w v, St c H Z w → r.p Z v → RpAll Z cs v.cells.toList
theorem Cel.one {q : Rp} (h : r.one = true) (hu : Up H r q) : Cel H r [q] := fun c Z w v hw hp => by
 rw [cells_one (r.hone h Z v hp)]; exact ⟨hu c Z w v hw hp, trivial⟩
theorem Cel.agg {cs cs' : List Rp} (h : UpAll H cs cs') : Cel H (rAgg cs) cs' := fun c Z w v hw ⟨us, e, hu⟩ => by subst e; exact h.all hw hu
def CelAll (H : List Ent) : List Rp → List (List Rp) → Prop
 | [], [] => True
 | r :: rs, cs :: css => Cel H r cs ∧ CelAll H rs css
 | _, _ => False
theorem CelAll.all {c : Cx} {Z : Fz} {w : World} (hw : St c H Z w) : ∀ {rs : List Rp} {css : List (List Rp)} {vs : List Value}, CelAll H rs css → RpAll Z rs vs → RpAll Z css.flatten (vs.flatMap fun v => v.cells.toList) ∧ css.length = vs.length ∧ ∀ (i : Nat) cs v, css[i]? = some cs → vs[i]? = some v → v.cells.size = cs.length
 | [], [], [], _, _ => ⟨trivial, rfl, by simp⟩
 | r :: rs, cs :: css, v :: vs, ⟨h1, h2⟩, ⟨h3, h4⟩ => by
  obtain ⟨a1, a2, a3⟩ := h2.all hw h4
  have h5 := h1 c Z w v hw h3
  refine ⟨by simpa using h5.append a1, by simp [a2], fun i cs' v' hi hv => ?_⟩
  cases i with
  | zero => simp at hi hv; subst hi hv; have := h5.length; simpa using this
  | succ i => exact a3 i cs' v' (by simpa using hi) (by simpa using hv)

/-! ### A slice literal -/
theorem w_buildSlice {α : Type} {ys : List α} {enc : α → List Rp} {len : Nat} {parts : Array (Nat × Operand)} {xs : List Operand} {rs : List Rp} {css : List (List Rp)} {zz : Value} (ht : P.underlying t = some (.slice e)) (hz : ∀ w, (sizeOf e).run P w = .ok sz w) (hzv : ∀ w, (zeroValue e).run P w = .ok zz w)
  (hparts : parts.toList = (xs.zipIdx 0).map fun p => (p.2, p.1)) (hlen : ys.length = len) (hv : evs l xs = some rs) (hc : CelAll H rs css) (hcs : css = ys.map enc) (henc : ∀ z, (enc z).length = sz) (hsz : Nat.blt 0 sz = true) (hle : Nat.ble (len * sz) 16777216 = true) (hn : Nat.blt d n = true)
  (h : ∀ b, WL P n c ops Q rest ((d, rv (.slice (some ⟨b, 0, none⟩) len len)) :: l) (.row (.slice (some ⟨b, 0, none⟩) len len) e sz (ys.map enc) :: H)) :
  WL P n c ops Q ({ dst := some d, op := .buildSlice t len parts, type := ty, pos := pos, after := af, guard := none } :: rest) l H :=
 wl_w (fun a w Z ha hw => by
  have hall := evs_all ha hv
  obtain ⟨h1, h2, h3⟩ := hc.all hw hall
  have hsz' : 0 < sz := by simpa using hsz
  have hle' : ¬ 16777216 < len * sz := by simpa using hle
  have hxl : (xs.map a.eval).length = len := by rw [← h2, hcs, List.length_map, hlen]
  have hcell : ∀ v ∈ xs.map a.eval, v.cells.size = sz := fun v hv' => by
   obtain ⟨i, hi⟩ := List.getElem?_of_mem hv'
   have hil := (List.getElem?_eq_some_iff.1 hi).1
   have hil2 : i < css.length := by omega
   rw [h3 i css[i] v (List.getElem?_eq_getElem hil2) hi]
   have : css[i] ∈ ys.map enc := by rw [← hcs]; exact List.getElem_mem hil2
   obtain ⟨z, _, hz'⟩ := List.mem_map.1 this
   rw [← hz']; exact henc z
  have hflen : ((xs.map a.eval).flatMap fun v => v.cells.toList).length = len * sz := by
   rw [h1.length, flat_len' (sz := sz) (fun c hc' => by rw [hcs] at hc'; obtain ⟨z, _, hz'⟩ := List.mem_map.1 hc'; rw [← hz']; exact henc z), hcs, List.length_map, hlen]
  have hpe : (parts.map fun (i, x) => (i, a.eval x)).toList = ((xs.map a.eval).zipIdx 0).map fun p => (p.2, p.1) := by
   rw [Array.toList_map, hparts, List.zipIdx_map, List.map_map, List.map_map]; rfl
  have hrun : (Instr.buildSlice t len (parts.map fun (i, x) => (i, a.eval x))).run P w = .ok (.slice (some ⟨w.heap.size, 0, none⟩) len len) (w.alloc (.cells ((xs.map a.eval).flatMap fun v => v.cells.toList).toArray e)) := by
   refine run_bs ht hz hzv hle w ?_
   rw [hpe]
   by_cases h0 : len * sz = 0
   ·have : len = 0 := by
     rcases Nat.mul_eq_zero.1 h0 with h | h
     ·exact h
     ·omega
    subst this
    have hx0 : xs = [] := by simpa using List.eq_nil_of_length_eq_zero (by simpa using hxl)
    subst hx0
    simp [Instr.fill]
   ·simp only [h0, if_false]
    exact Great.fill_whole hsz' (xs.map a.eval) _ hcell (by rw [hxl]; simp)
  refine ⟨_, w.alloc (.cells ((xs.map a.eval).flatMap fun v => v.cells.toList).toArray e), _, _, Z, by simp [execOp, hrun], Fz.le.refl _, rfl,
   hw.alloc _ (e := .row (.slice (some ⟨w.heap.size, 0, none⟩) len len) e sz (ys.map enc)) ⟨?_, (xs.map a.eval).flatMap (fun v => v.cells.toList), ⟨?_, .inr ⟨w.heap.size, len, _, ?_, Nat.zero_le _, heap_alloc_new w _, ?_, ?_, ?_, ?_⟩⟩, ?_⟩ (by simp [Ent.foot, Value.ownBlock]), h w.heap.size⟩
  ·intro cl hcl; obtain ⟨z, _, hz'⟩ := List.mem_map.1 hcl; rw [← hz']; exact henc z
  ·rw [hflen, List.length_map, hlen]
  ·rw [List.length_map, hlen]
  ·rw [List.length_map, hlen]; exact Nat.le_refl _
  ·have : len ≤ len * sz := Nat.le_mul_of_pos_right _ hsz'
   simp only [maxLen]; omega
  ·simpa using hflen
  ·rw [List.length_map, hlen, ← hflen]; exact List.take_length
  ·rw [← hcs]; exact h1) hn

/-! ### append -/
theorem SlZ.rds {α : Type} {ys : List α} {enc : α → List Rp} {Z : Fz} {w : World} (hf : Frz Z w) (h : SlZ sz (ys.map enc) Z v) (hsz : 0 < sz) : ∃ us : List Value, RpAll Z (ys.map enc).flatten us ∧ Rds sz w v ys.length us := by
 obtain ⟨A, cap, rfl, _, _, hA, hc⟩ := h
 have hl : ∀ c ∈ ys.map enc, c.length = sz := fun c hm => by
  obtain ⟨i, hi⟩ := List.getElem?_of_mem hm
  exact (hc i c hi).1
 cases A with
 | none =>
  have : ys = [] := by
   cases ys with
   | nil => rfl
   | cons y r => obtain ⟨_, a, h, _⟩ := hc 0 (enc y) (by simp); cases h
  subst this
  rw [hA rfl]
  exact ⟨[], trivial, by simp, .inl ⟨rfl, rfl⟩⟩
 | some a =>
  obtain ⟨us, h1, h2⟩ := all_of_at (Z := Z) (cs := (ys.map enc).flatten) (f := fun j => zcell Z a.block (a.off + j)) (fun j r hj => by
   have hjl : j < ys.length * sz := by
    have := flat_len' hl
    rw [List.length_map] at this
    rw [← this]; exact (List.getElem?_eq_some_iff.1 hj).1
   have hq : j / sz < (ys.map enc).length := by rw [List.length_map, Nat.div_lt_iff_lt_mul hsz]; exact hjl
   have hr : j % sz < sz := Nat.mod_lt _ hsz
   obtain ⟨hcl, a', e1, hsp, hcell⟩ := hc (j / sz) (ys.map enc)[j / sz] (List.getElem?_eq_getElem hq)
   simp only [Option.some.injEq] at e1; subst e1
   have hdm : j / sz * sz + j % sz = j := by rw [Nat.mul_comm]; exact Nat.div_add_mod j sz
   have hlt : j % sz < ((ys.map enc)[j / sz]).length := by omega
   have h3 := flat_at' hl (List.getElem?_eq_getElem hq) (List.getElem?_eq_getElem hlt)
   rw [hdm, hj] at h3
   simp only [Option.some.injEq] at h3
   obtain ⟨u, hu, hp⟩ := hcell (j % sz) _ (List.getElem?_eq_getElem hlt)
   rw [hdm] at hu
   exact ⟨u, hu, by rw [h3]; exact hp⟩)
  refine ⟨us, h1, ?_, .inr ⟨a, cap, by simp, fun j u hj => ?_⟩⟩
  ·rw [h1.length, flat_len' hl, List.length_map]
  ·have hjl : j < us.length := (List.getElem?_eq_some_iff.1 hj).1
   have h3 := zcell_cell hf (h2 j u hj)
   have hsp : a.spot = none := by
    cases ys with
    | nil => have := h1.length; simp at this; subst this; simp at hjl
    | cons y r => obtain ⟨_, a', e1, hs, _⟩ := hc 0 (enc y) (by simp); simp at e1; subst e1; exact hs
   obtain ⟨b, off, spot⟩ := a
   simp only at hsp; subst hsp
   rw [addm]; exact h3
def Src (P : Program) (n : Nat) (c : Cx) (l : Fr) (H : List Ent) (y : Operand) (sz : Nat) (k : Nat) (cs : List Rp) : Prop := ∀ a w Z, Agr n l a Z → St c H Z w → ∃ us, RpAll Z cs us ∧ Rds sz w (a.eval y) k us
theorem Src.z {α : Type} {ys : List α} {enc : α → List Rp} (h : ev l y = some (rSl sz (ys.map enc))) (hsz : Nat.blt 0 sz = true) : Src P n c l H y sz ys.length (ys.map enc).flatten := fun a w Z ha hw => SlZ.rds hw.frz (ha.ev h) (by simpa using hsz)
theorem Src.nil (h : ev l y = some (rv (.slice none 0 0))) : Src P n c l H y sz 0 [] := fun a w Z ha hw => ⟨[], trivial, by simp, .inl ⟨ha.eval h, rfl⟩⟩
theorem Src.w {α : Type} {ys : List α} {enc : α → List Rp} {i : Nat} (h : ev l y = some (rv v)) (hi : H[i]? = some (.row v e sz (ys.map enc))) : Src P n c l H y sz ys.length (ys.map enc).flatten := fun a w Z ha hw => by
 obtain ⟨h0, us, h1, h2⟩ := hw.ent hi
 refine ⟨us, h2, ?_⟩
 rw [ha.eval h]
 have := Rds.of_row (w := w) (v := v) (e := e) (sz := sz) (m := (ys.map enc).length) (xs := us) h1
 simpa using this
theorem w_append {α : Type} {xs ys : List α} {enc : α → List Rp} {i : Nat} {inf : TypeInfo} {z : Value} {bytes : Nat} (ht : P.underlying t = some (.slice e)) (hinf : P.info? e = some inf) (hz : inf.zero = some z) (hsize : inf.size = sz) (hby : inf.bytes = bytes) (hzs : z.cells.size = sz) (hsz : Nat.blt 0 sz = true) (hbp : Nat.blt 0 bytes = true)
  (hx : ev l x = some (rv v)) (hi : H[i]? = some (.row v e sz (xs.map enc))) (hy : Src P n c l H y sz ys.length (ys.map enc).flatten) (henc : ∀ z, (enc z).length = sz) (hone : ∀ z, (enc z).all (·.one) = true) (hg : inA bytes (xs.length + ys.length) = true) (hn : Nat.blt d n = true)
  (h : ∀ v', WL P n c ops Q rest ((d, rv v') :: l) (.row v' e sz ((xs ++ ys).map enc) :: H.eraseIdx i)) :
  WL P n c ops Q ({ dst := some d, op := .call { callee := .builtin .append, args := #[x, y], argTypes := #[t, t] }, type := ty, pos := pos, after := af, guard := none } :: rest) l H :=
 wl_w (fun a w Z ha hw => by
  obtain ⟨h0, us, h1, h2⟩ := hw.ent hi
  obtain ⟨ws, h3, h4⟩ := hy a w Z ha hw
  have hsz' : 0 < sz := by simpa using hsz
  have hbp' : 0 < bytes := by simpa using hbp
  have hb : (xs.length + ys.length) * bytes ≤ 140737488355328 := by simpa [inA] using hg
  have hle : xs.length + ys.length ≤ (xs.length + ys.length) * bytes := Nat.le_mul_of_pos_right _ hbp'
  have hws : ∀ y ∈ ws, y.oneCell' = true := RpAll.one (rs := (ys.map enc).flatten) (by
   rw [List.all_eq_true]
   intro r hr
   obtain ⟨cl, hcl, hrc⟩ := List.mem_flatten.1 hr
   obtain ⟨z', _, rfl⟩ := List.mem_map.1 hcl
   exact List.all_eq_true.1 (hone z') r hrc) h3
  have hxl : (xs.map enc).length = xs.length := List.length_map ..
  rw [hxl] at h1
  obtain ⟨v', w', e1, e2, e3, e4⟩ := run_append_st (P := P) ty ht hinf hz hsize hby hzs hsz' h1 h4 hws hb (by simp only [maxLen]; omega)
  have hent : (Ent.row v' e sz ((xs ++ ys).map enc)).holds Z w' := ⟨fun cl hcl => by obtain ⟨z', _, rfl⟩ := List.mem_map.1 hcl; exact henc z', us ++ ws, by simpa using e2, by rw [List.map_append, List.flatten_append]; exact h2.append h3⟩
  have hst := hw.callF hi (St.one (e' := .row v' e sz ((xs ++ ys).map enc)) (M := (Ent.row v e sz (xs.map enc)).foot) hw.frz hw.env hw.emono e3.os e3.tape e3.output e3.size (fun k hk hne => e3.block k hk (fun e1 => hne (by simp [Ent.foot, ← e1])))
   (hw.zdis _ (List.mem_of_getElem? hi)) hent (fun k hk => by
    simp only [Ent.foot, Option.mem_toList] at hk ⊢
    rcases e4 with e4 | e4
    ·exact .inl (e4 ▸ hk)
    ·exact .inr (e4 k hk)))
  exact ⟨v', w', rv v', _, Z, by simp [execOp, resolve, invoke, builtin, ha.eval hx, e1], Fz.le.refl _, rfl, hst, h v'⟩) hn

/-! ### Parts -/
theorem o_slice_zl {α : Type} {ys : List α} {enc : α → List Rp} {k : IntKind} {i : Int} (ht : P.underlying t = some (.slice e)) (hz : ∀ w, (sizeOf e).run P w = .ok sz w) (h : ev l x = some (rSl sz (ys.map enc))) (hi : ev l y = some (rI k i)) (hg : inC i (ys.length : Int) = true) :
  ORun P n c l H { dst := d', op := .slice t x (some y) none none, type := ty, pos := pos, after := af, guard := g } (rSl sz ((ys.drop i.toNat).map enc)) := fun a w Z ha hw => by
 obtain ⟨A, cap, e1, hc1, hc2, hA, hc⟩ := ha.ev h
 have h0 := (inC_iff hg).1
 have h1 := (inC_iff hg).2
 simp only [List.length_map] at e1 hc1
 refine ⟨.slice (if cap = i.toNat then A else A.map (·.add (i.toNat * sz))) (ys.length - i.toNat) (cap - i.toNat), ⟨if cap = i.toNat then A else A.map (·.add (i.toNat * sz)), cap - i.toNat, ?_, ?_, by omega, ?_, fun q cl hq => ?_⟩, by simp [execOp, e1, ha.eval hi, Instr.sliceAt, Instr.slice, run_underlying ht, Instr.sliceBounds, run_sliceBound (m := ys.length) _ _ h0 h1, hz]⟩
 ·congr 1
  simp
 ·simp; omega
 ·intro hn
  split at hn
  ·have := hA hn; omega
  ·have := hA (by simpa using hn); omega
 ·rw [List.getElem?_map, List.getElem?_drop] at hq
  cases hq' : ys[i.toNat + q]? with
  | none => rw [hq'] at hq; cases hq
  | some yy =>
   rw [hq'] at hq
   simp only [Option.map_some, Option.some.injEq] at hq; subst hq
   have hlt := (List.getElem?_eq_some_iff.1 hq').1
   obtain ⟨hl, ad, rfl, hs, hcs⟩ := hc (i.toNat + q) (enc yy) (by simp [hq'])
   obtain ⟨b, off, spot⟩ := ad
   simp only at hs; subst hs
   have hne : ¬ cap = i.toNat := by omega
   refine ⟨hl, ⟨b, off + i.toNat * sz, none⟩, by simp [hne, addm], rfl, fun q' r' hr' => ?_⟩
   obtain ⟨u, hu, hp⟩ := hcs q' r' hr'
   refine ⟨u, ?_, hp⟩
   have : off + i.toNat * sz + (q * sz + q') = off + ((i.toNat + q) * sz + q') := by rw [Nat.add_mul]; omega
   simp only
   rw [this]; exact hu
theorem w_cut {α : Type} {ys : List α} {enc : α → List Rp} {i : Nat} {k : IntKind} {j : Int} (ht : P.underlying t = some (.slice e)) (hz : ∀ w, (sizeOf e).run P w = .ok sz w) (hx : ev l x = some (rv v)) (hy : ev l y = some (rI k j)) (hi : H[i]? = some (.row v e sz (ys.map enc))) (hg : inC j (ys.length : Int) = true) (hn : Nat.blt d n = true)
  (h : ∀ v', WL P n c ops Q rest ((d, rv v') :: l) (H.set i (.row v' e sz ((ys.take j.toNat).map enc)))) :
  WL P n c ops Q ({ dst := some d, op := .slice t x none (some y) none, type := ty, pos := pos, after := af, guard := none } :: rest) l H :=
 wl_w (fun a w Z ha hw => by
  obtain ⟨h0, us, ⟨h1, h2⟩, h3⟩ := hw.ent hi
  have g0 := (inC_iff hg).1
  have g1 := (inC_iff hg).2
  rcases h2 with ⟨rfl, hz0⟩ | ⟨b, cap, cur, rfl, _, hb, hcap, hm, hcs, htk⟩
  ·simp at hz0; subst hz0
   obtain rfl : j = 0 := by simp at g1; omega
   refine ⟨.slice none 0 0, w, _, _, Z, by simp [execOp, ha.eval hx, ha.eval hy, Instr.sliceAt, Instr.slice, run_underlying ht, Instr.sliceBounds, run_sliceBound (m := 0) _ _ (Int.le_refl 0) (Int.le_refl 0), hz], Fz.le.refl _, rfl, ?_, h _⟩
   exact hw.set hi rfl rfl rfl (Nat.le_refl _) (fun _ _ _ => rfl) ⟨by simp, [], ⟨by simp, .inl ⟨rfl, by simp⟩⟩, trivial⟩ (by simp [Ent.foot, Value.ownBlock])
  ·simp only [List.length_map] at h1 hcap htk
   have hjc : j ≤ (cap : Int) := by omega
   have hjl : j.toNat ≤ ys.length := by omega
   refine ⟨.slice (some ⟨b, 0, none⟩) j.toNat cap, w, _, _, Z, by simp [execOp, ha.eval hx, ha.eval hy, Instr.sliceAt, Instr.slice, run_underlying ht, Instr.sliceBounds, run_sliceBound (m := cap) _ _ g0 hjc, hz]; intro _; rfl, Fz.le.refl _, rfl, ?_, h _⟩
   refine hw.set hi rfl rfl rfl (Nat.le_refl _) (fun _ _ _ => rfl) ⟨fun cl hcl => ?_, us.take (j.toNat * sz), ⟨?_, .inr ⟨b, cap, cur, ?_, Nat.zero_le _, hb, ?_, hm, hcs, ?_⟩⟩, ?_⟩ (by simp [Ent.foot, Value.ownBlock])
   ·rw [List.map_take] at hcl; exact h0 cl (List.mem_of_mem_take hcl)
   ·rw [List.length_take, h1, List.length_map, List.length_take, Nat.min_eq_left hjl]
    exact Nat.min_eq_left (Nat.mul_le_mul_right _ hjl)
   ·simp [Nat.min_eq_left hjl]
   ·simp; omega
   ·rw [List.length_map, List.length_take, Nat.min_eq_left hjl, ← htk, List.take_take, Nat.min_eq_left (Nat.mul_le_mul_right _ hjl)]
   ·have : ((ys.take j.toNat).map enc).flatten = (ys.map enc).flatten.take (j.toNat * sz) := by
     rw [List.map_take]
     clear h3 h1 htk hcs hcap g1 hjc
     generalize ys.map enc = zs at h0
     have key : ∀ (zs : List (List Rp)) (k : Nat), (∀ c ∈ zs, c.length = sz) → (zs.take k).flatten = zs.flatten.take (k * sz) := by
      intro zs
      induction zs with
      | nil => intro k _; simp
      | cons z zs ih =>
       intro k hk
       cases k with
       | zero => simp
       | succ k =>
        have hzl := hk z (by simp)
        simp only [List.take_succ_cons, List.flatten_cons]
        rw [ih k (fun c hc => hk c (by simp [hc]))]
        have e1 : (k + 1) * sz = z.length + k * sz := by rw [hzl, Nat.succ_mul]; omega
        rw [e1, List.take_length_add_append]
     exact key zs _ h0
    rw [this]; exact h3.take _) hn

theorem o_slice_zm {α : Type} {z4 : Operand} {ys : List α} {enc : α → List Rp} {k k' k'' : IntKind} {i j : Int} (ht : P.underlying t = some (.slice e)) (hz : ∀ w, (sizeOf e).run P w = .ok sz w) (h : ev l x = some (rSl sz (ys.map enc))) (hi : ev l y = some (rI k i)) (hj : ev l z3 = some (rI k' j)) (hm : ev l z4 = some (rI k'' j)) (hg1 : inC i j = true) (hg2 : inC j (ys.length : Int) = true) :
  ORun P n c l H { dst := d', op := .slice t x (some y) (some z3) (some z4), type := ty, pos := pos, after := af, guard := g } (rSl sz (((ys.drop i.toNat).take (j.toNat - i.toNat)).map enc)) := fun a w Z ha hw => by
 obtain ⟨A, cap, e1, hc1, hc2, hA, hc⟩ := ha.ev h
 have h0 := (inC_iff hg1).1
 have h1 := (inC_iff hg1).2
 have h2 := (inC_iff hg2).2
 have hj0 : 0 ≤ j := by omega
 simp only [List.length_map] at e1 hc1
 have h3 : j ≤ (cap : Int) := by omega
 refine ⟨.slice (if j.toNat = i.toNat then A else A.map (·.add (i.toNat * sz))) (j.toNat - i.toNat) (j.toNat - i.toNat), ⟨if j.toNat = i.toNat then A else A.map (·.add (i.toNat * sz)), j.toNat - i.toNat, ?_, ?_, by omega, ?_, fun q cl hq => ?_⟩, by simp [execOp, e1, ha.eval hi, ha.eval hj, ha.eval hm, Instr.sliceAt, Instr.slice, run_underlying ht, Instr.sliceBounds, run_sliceBound (m := cap) _ _ hj0 h3, run_sliceBound (m := j.toNat) _ _ hj0 (by omega), run_sliceBound (m := j.toNat) _ _ h0 (by omega), hz]⟩
 ·congr 1
  simp; omega
 ·simp; omega
 ·intro hn
  split at hn
  ·omega
  ·have := hA (by simpa using hn); omega
 ·rw [List.getElem?_map] at hq
  cases hq' : (List.take (j.toNat - i.toNat) (List.drop i.toNat ys))[q]? with
  | none => rw [hq'] at hq; cases hq
  | some yy =>
   rw [hq'] at hq
   simp only [Option.map_some, Option.some.injEq] at hq; subst hq
   rw [List.getElem?_take] at hq'
   split at hq'
   ·rename_i hlt
    rw [List.getElem?_drop] at hq'
    obtain ⟨hl, ad, rfl, hs, hcs⟩ := hc (i.toNat + q) (enc yy) (by simp [hq'])
    obtain ⟨b, off, spot⟩ := ad
    simp only at hs; subst hs
    have hne : ¬ j.toNat = i.toNat := by omega
    refine ⟨hl, ⟨b, off + i.toNat * sz, none⟩, by simp [hne, addm], rfl, fun q' r' hr' => ?_⟩
    obtain ⟨u, hu, hp⟩ := hcs q' r' hr'
    refine ⟨u, ?_, hp⟩
    have : off + i.toNat * sz + (q * sz + q') = off + ((i.toNat + q) * sz + q') := by rw [Nat.add_mul]; omega
    simp only
    rw [this]; exact hu
   ·cases hq'
/-! ### Small operations -/
theorem o_max {k : IntKind} {p q : Int} (ht : P.underlying t = some (.int k)) (hx : ev l x = some (rI k p)) (hy : ev l y = some (rI k q)) : ORun P n c l H { dst := d', op := .call { callee := .builtin .max, args := #[x, y], argTypes := #[t, t] }, type := ty, pos := pos, after := af, guard := g } (rI k (max p q)) := fun a w Z ha _ => o_mk <| by
 have e : (if p < q then q else p) = max p q := by split <;> omega
 simp [execOp, resolve, invoke, builtin, ha.eval hx, ha.eval hy, Builtin.max_, Builtin.max2, run_underlying ht, e]
theorem o_makeFunc {f : FuncId} {parts : Array Operand} {caps : List Value} (h : evs l parts.toList = some (caps.map rv)) : ORun P n c l H { dst := d', op := .makeFunc (.func f) #[] parts, type := ty, pos := pos, after := af, guard := g } (rv (.func (.func f) #[] caps.toArray)) := fun a w Z ha _ => o_mk <| by
 have h1 := RpAll.eq_rv (evs_all ha h)
 have h2 : parts.map a.eval = caps.toArray := by apply Array.ext'; simpa using h1
 simp [execOp, Instr.makeFunc, h2]
theorem o_pnil {p : Addr} (hu : ∃ e', P.underlying t = some (.pointer e')) (hx : ev l x = some (rv (.pointer (some p)))) : ORun P n c l H { dst := d', op := .binOp .eql t x (.const (.pointer none)) t', type := ty, pos := pos, after := af, guard := g } (rB false) := fun a w Z ha _ => o_mk <| by
 obtain ⟨e', hu⟩ := hu
 have h1 : ∀ dd : Nat, (Op.equalIn (dd + 1) t (.pointer (some p)) (.pointer none)).run P w = .ok false w := fun dd => by simp [Op.equalIn, run_underlying hu]
 have h2 : (Op.equal t (.pointer (some p)) (.pointer none)).run P w = .ok false w := h1 9999
 have h3 : (eqGuard .eql t x (.const (.pointer none)) (.pointer (some p)) (.pointer none)).run P w = .ok () w := by unfold eqGuard; split <;> simp
 have hy : a.eval (.const (.pointer none)) = .pointer none := rfl
 simp only [execOp, ha.eval hx, hy, Sem.run_bind, h3, Result.andThen_ok, binOp, h2, Sem.run_pure]
/-! ### The encodings of plain types -/
@[reducible] def eI_u8 (x : Int) : List Rp := [rI .u8 x]
theorem eI_u8_len (x : Int) : (eI_u8 x).length = 1 := rfl
theorem eI_u8_one (x : Int) : (eI_u8 x).all (·.one) = true := rfl
@[reducible] def eS (x : Str) : List Rp := [rS x]
theorem eS_len (x : Str) : (eS x).length = 1 := rfl
theorem eS_one (x : Str) : (eS x).all (·.one) = true := rfl
end
end Go.Proofs.YtpmiamphppcfeaaGreatDoor.Q

/-
 Regions that draw their order: what each operation yields stands for the same whatever the order. Plain theorems over any program; no condition.
-/
namespace Go.Proofs.YtpmiamphppcfeaaGreatDoor.Q
open Go Go.RowKit
set_option linter.unusedVariables false
set_option linter.unusedSimpArgs false
section
variable (P : Program) (n : Nat) (c : Cx) (ops : Array Oper) (Q : Exit → Act → World → Prop)
def OpOk (l : Fr) (H : List Ent) (o : Oper) (r : Rp) (H' : List Ent) : Prop :=
 ∀ a w Z (K : Act → World → Prop), Agr n l a Z → St c H Z w → (∀ v w' Z', Fz.le Z Z' → r.p Z' v → St c H' Z' w' → K (a.put o.dst v) w') →
  (Region.wanted o (yielded ops a.tmps) = true → o.wp P a w K Q) ∧ (Region.wanted o (yielded ops a.tmps) = false → K (a.put o.dst undef) w)
end
/-! ### Frames, less what is not needed: what a script finds -/
def SubL (l' l : Fr) : Prop := ∀ i v, look l' i = some v → ∃ q, look l i = some q ∧ Rle q v
theorem Agr.subL {n : Nat} {a : Act} {Z : Fz} {l l' : Fr} (h : Agr n l a Z) (hs : SubL l' l) : Agr n l' a Z := ⟨h.size, h.defers, fun i v hi => by
 obtain ⟨q, hq, hle⟩ := hs i v hi
 obtain ⟨u, hu, hp⟩ := h.tm i q hq
 exact ⟨u, hu, hle Z u hp⟩⟩
structure Kp (ks : List Nat) (l l' : Fr) : Prop where
 one : SubL l' l
 two : ∀ i v, look l' i = some v → ks.contains i = true
theorem kp_n {ks : List Nat} : Kp ks [] [] := ⟨fun i v h => by simp [look] at h, fun i v h => by simp [look] at h⟩
theorem kp_y {ks : List Nat} {i : Nat} {r : Rp} {l l' : Fr} (h : ks.contains i = true) (t : Kp ks l l') : Kp ks ((i, r) :: l) ((i, r) :: l') := by
 refine ⟨fun j v hj => ?_, fun j v hj => ?_⟩
 ·rw [look_cons] at hj ⊢
  split at hj
  ·rename_i e; rw [if_pos e]; simp at hj; subst hj; exact ⟨r, rfl, Rle.refl r⟩
  ·rename_i e; rw [if_neg e]; exact t.one j v hj
 ·rw [look_cons] at hj
  split at hj
  ·rename_i e; subst e; exact h
  ·exact t.two j v hj
theorem kp_d {ks : List Nat} {i : Nat} {r : Rp} {l l' : Fr} (h : ks.contains i = false) (t : Kp ks l l') : Kp ks ((i, r) :: l) l' := by
 refine ⟨fun j v hj => ?_, t.two⟩
 rw [look_cons]
 by_cases e : i = j
 ·subst e; rw [t.two i v hj] at h; cases h
 ·rw [if_neg e]; exact t.one j v hj
structure Sp where
 deps : List Nat
 r : Rp
 kd : Nat
def sps (sp : List Sp) (i : Nat) : Sp := sp.getD i ⟨[], rv undef, 0⟩
def dstOf (ops : List Oper) (i : Nat) : Option Nat := (ops[i]?).bind (·.dst)
def depFr (ops : List Oper) (sp : List Sp) : List Nat → Fr → Fr
 | [], l => l
 | j :: r, l => match dstOf ops j with
  | some d => (d, (sps sp j).r) :: depFr ops sp r l
  | none => depFr ops sp r l
def bnds (o : Oper) : List Nat := (o.after.toList.filter (Region.binds .any)).map (·.on)
def cloM : List Oper → List Nat → List Nat
 | [], acc => acc
 | o :: rest, acc => cloM rest (acc ++ [(bnds o).foldl (fun s e => s ||| 2 ^ e ||| acc.getD e 0) 0])
def keysOf (l : Fr) : List Nat := l.map (·.1)
def okB (n : Nat) (ops : List Oper) (N : Nat) (keys : List Nat) (deps : List (List Nat)) (kds : List Nat) : Bool :=
 let cl := cloM ops []
 (List.range ops.length).all (fun i => (bnds (ops.getD i default)).all (· < i)) &&
 (List.range N).all (fun i => match dstOf ops i with
  | some d => decide (d < n) && !keys.contains d && (List.range N).all (fun j => j == i || dstOf ops j != some d)
  | none => true) &&
 (List.range N).all (fun i => (deps.getD i []).all (fun j => (bnds (ops.getD i default)).contains j)) &&
 (List.range N).all (fun i => kds.getD i 0 == 0 || (List.range N).all (fun j => kds.getD j 0 != 2 || j == i || (if j < i then (cl.getD i 0).testBit j else (cl.getD j 0).testBit i))) &&
 (List.range ops.length).all (fun i => i < N || (List.range N).all (fun j => (cl.getD i 0).testBit j)) && ops.length ≤ N + 1 && kds.all (· ≤ 2)
section
variable {P : Program} {n : Nat} {c : Cx} {opsA : Array Oper} {Q : Exit → Act → World → Prop}
theorem cloM_good (ops : List Oper) (F : Nat → Prop) : ∀ (rest : List Oper) (acc : List Nat), (∀ (t : Nat) o, rest[t]? = some o → ∀ e ∈ bnds o, F (acc.length + t) → F e) →
  (∀ (j i : Nat), (acc.getD j 0).testBit i = true → F j → F i) → ∀ (j i : Nat), ((cloM rest acc).getD j 0).testBit i = true → F j → F i
 | [], acc, _, h => h
 | o :: rest, acc, hr, h => by
  unfold cloM
  refine cloM_good ops F rest _ (fun t o' ht e he hF => hr (t + 1) o' (by simpa using ht) e he (by simpa [Nat.add_assoc, Nat.add_comm 1 t] using hF)) (fun j i hb hF => ?_)
  by_cases hj : j < acc.length
  ·refine h j i ?_ hF
   simpa [List.getElem?_append_left hj] using hb
  ·by_cases hj2 : j = acc.length
   ·subst hj2
    simp only [List.getD_eq_getElem?_getD, List.getElem?_append_right (Nat.le_refl _), Nat.sub_self, List.getElem?_cons_zero, Option.getD_some] at hb
    have key : ∀ (es : List Nat) (s0 : Nat), (es.foldl (fun s e => s ||| 2 ^ e ||| acc.getD e 0) s0).testBit i = true → s0.testBit i = true ∨ ∃ e ∈ es, e = i ∨ (acc.getD e 0).testBit i = true := by
     intro es
     induction es with
     | nil => intro s0 h0; exact .inl h0
     | cons e es ih =>
      intro s0 h0
      rcases ih _ h0 with h1 | ⟨e', he', h1⟩
      ·simp only [Nat.testBit_or, Bool.or_eq_true, Nat.testBit_two_pow, decide_eq_true_eq] at h1
       rcases h1 with (h1 | h1) | h1
       ·exact .inl h1
       ·exact .inr ⟨e, by simp, .inl h1⟩
       ·exact .inr ⟨e, by simp, .inr h1⟩
      ·exact .inr ⟨e', by simp [he'], h1⟩
    rcases key (bnds o) 0 hb with h0 | ⟨e, he, h1 | h1⟩
    ·simp at h0
    ·subst h1; exact hr 0 o rfl e he (by simpa using hF)
    ·exact h e i h1 (hr 0 o rfl e he (by simpa using hF))
   ·have : (acc ++ [(bnds o).foldl (fun s e => s ||| 2 ^ e ||| acc.getD e 0) 0]).getD j 0 = 0 := by
     rw [List.getD_eq_getElem?_getD, List.getElem?_eq_none (by simp; omega)]; rfl
    rw [this] at hb; simp at hb
def Obl (P : Program) (n : Nat) (c : Cx) (opsA : Array Oper) (Q : Exit → Act → World → Prop) (ops : List Oper) (sp : List Sp) (l0 : Fr) : Nat → List Oper → List (List Ent) → Prop
 | i, o :: rest, H :: H' :: Hs =>
  (match (sps sp i).kd with
   | 0 => H' = H ∧ ∀ H, OpOk P n c opsA Q (depFr ops sp (sps sp i).deps l0) H o (sps sp i).r H
   | 1 => H' = H ∧ OpOk P n c opsA Q (depFr ops sp (sps sp i).deps l0) H o (sps sp i).r H
   | _ => OpOk P n c opsA Q (depFr ops sp (sps sp i).deps l0) H o (sps sp i).r H') ∧ Obl P n c opsA Q ops sp l0 (i + 1) rest (H' :: Hs)
 | _, [], [_] => True
 | _, _, _ => False
theorem Obl.at {ops : List Oper} {sp : List Sp} {l0 : Fr} : ∀ {k : Nat} {rest : List Oper} {Hs : List (List Ent)}, Obl P n c opsA Q ops sp l0 k rest Hs → Hs.length = rest.length + 1 ∧ ∀ (t : Nat) o, rest[t]? = some o →
  (match (sps sp (k + t)).kd with
   | 0 => Hs.getD (t + 1) [] = Hs.getD t [] ∧ ∀ H, OpOk P n c opsA Q (depFr ops sp (sps sp (k + t)).deps l0) H o (sps sp (k + t)).r H
   | 1 => Hs.getD (t + 1) [] = Hs.getD t [] ∧ OpOk P n c opsA Q (depFr ops sp (sps sp (k + t)).deps l0) (Hs.getD t []) o (sps sp (k + t)).r (Hs.getD t [])
   | _ => OpOk P n c opsA Q (depFr ops sp (sps sp (k + t)).deps l0) (Hs.getD t []) o (sps sp (k + t)).r (Hs.getD (t + 1) []))
 | k, o :: rest, H :: H' :: Hs, ⟨h1, h2⟩ => by
  obtain ⟨hl, ih⟩ := Obl.at h2
  refine ⟨by simp at hl ⊢; omega, fun t o' ht => ?_⟩
  cases t with
  | zero => simp at ht; subst ht; simpa using h1
  | succ t =>
   have := ih t o' (by simpa using ht)
   rw [show k + (t + 1) = k + 1 + t from by omega]
   simpa using this
 | _, [], [_], _ => ⟨rfl, fun t o h => by simp at h⟩
theorem look_mem : ∀ {l : Fr} {i : Nat} {r : Rp}, look l i = some r → i ∈ keysOf l
 | [], i, r, h => by simp [look] at h
 | p :: l, i, r, h => by
  obtain ⟨j, u⟩ := p
  rw [look_cons] at h
  split at h
  ·rename_i e; subst e; simp [keysOf]
  ·simp only [keysOf, List.map_cons, List.mem_cons]; exact .inr (look_mem h)
theorem agr_dep {ops : List Oper} {sp : List Sp} {l0 : Fr} {a : Act} {Z : Fz} (h0 : Agr n l0 a Z) : ∀ {ds : List Nat}, (∀ j ∈ ds, ∀ d, dstOf ops j = some d → ∃ v, a.tmps[d]? = some v ∧ (sps sp j).r.p Z v) → Agr n (depFr ops sp ds l0) a Z
 | [], _ => h0
 | j :: ds, h => by
  have ih := agr_dep h0 (ds := ds) (fun j' hj' => h j' (by simp [hj']))
  unfold depFr
  cases hd : dstOf ops j with
  | none => exact ih
  | some d =>
   refine ⟨ih.size, ih.defers, fun i r hi => ?_⟩
   rw [look_cons] at hi
   split at hi
   ·rename_i e; subst e; simp at hi; subst hi; exact h j (by simp) d hd
   ·exact ih.tm i r hi
theorem wc_region_d {id : Nat} {pre last : List Oper} (sp : List Sp) (Hs : List (List Ent)) {l0 l : Fr} {H : List Ent} (hm : P.follows .mixedOrders = true)
  (hB : okB n (pre ++ last) pre.length (keysOf l0) (sp.map (·.deps)) (sp.map (·.kd)) = true) (hl0 : SubL l0 l) (hsp : sp.length = pre.length) (hH : Hs.getD 0 [] = H)
  (hob : Obl P n c (pre ++ last).toArray Q (pre ++ last) sp l0 0 pre Hs)
  (h : WL P n c (pre ++ last).toArray Q last (depFr (pre ++ last) sp (List.range pre.length) l0) (Hs.getD pre.length [])) : WC P n c (.region id (pre ++ last).toArray true) Q l H := by
 intro a w Z ha hw
 generalize hops : pre ++ last = ops at *
 obtain ⟨hHl, hat⟩ := hob.at
 simp only [okB, Bool.and_eq_true, List.all_eq_true, List.mem_range, decide_eq_true_eq] at hB
 obtain ⟨⟨⟨⟨⟨⟨b1, b2⟩, b3⟩, b4⟩, b5⟩, b6⟩, b7⟩ := hB
 have hN : pre.length ≤ ops.length := by rw [← hops]; simp
 have hget : ∀ i, i < pre.length → ops[i]? = pre[i]? := fun i hi => by rw [← hops, List.getElem?_append_left hi]
 have hkd : ∀ i, i < pre.length → (sp.map (·.kd)).getD i 0 = (sps sp i).kd := fun i hi => by
  simp [sps, List.getD_eq_getElem?_getD, List.getElem?_map, List.getElem?_eq_getElem (show i < sp.length by omega)]
 have hdp : ∀ i, i < pre.length → (sp.map (·.deps)).getD i [] = (sps sp i).deps := fun i hi => by
  simp [sps, List.getD_eq_getElem?_getD, List.getElem?_map, List.getElem?_eq_getElem (show i < sp.length by omega)]
 have hconst : ∀ (k b : Nat), b + k ≤ pre.length → (∀ j, b ≤ j → j < b + k → (sps sp j).kd ≠ 2) → Hs.getD (b + k) [] = Hs.getD b [] := by
  intro k
  induction k with
  | zero => intro b _ _; rfl
  | succ k ih =>
   intro b hb hj
   have hlt : b + k < pre.length := by omega
   have h1 := hat (b + k) pre[b + k] (List.getElem?_eq_getElem hlt)
   rw [Nat.zero_add] at h1
   have hk2 : (sps sp (b + k)).kd ≤ 2 := by
    have := b7 ((sp.map (·.kd)).getD (b + k) 0) (by
     rw [List.getD_eq_getElem?_getD, List.getElem?_eq_getElem (by simp; omega)]; exact List.getElem_mem _)
    rw [hkd _ hlt] at this; exact this
   have hne := hj (b + k) (by omega) (by omega)
   have e1 : Hs.getD (b + k + 1) [] = Hs.getD (b + k) [] := by
    match hq : (sps sp (b + k)).kd, h1 with
    | 0, h1 => exact h1.1
    | 1, h1 => exact h1.1
    | 2, _ => exact absurd hq hne
    | q + 3, _ => omega
   rw [show b + (k + 1) = b + k + 1 from by omega, e1]
   exact ih b (by omega) (fun j h1 h2 => hj j h1 (by omega))
 refine wp_region_any hm ?_
 have main : ∀ (fuel : Nat) (listed : Array Bool) (a : Act) (w : World) (Z : Fz) (m : Nat), listed.size = ops.length → listed.toList.count false = fuel → m ≤ pre.length →
   St c (Hs.getD m []) Z w → Agr n l0 a Z → (∀ j, j < pre.length → listed.getD j true = true → ∀ d, dstOf ops j = some d → ∃ v, a.tmps[d]? = some v ∧ (sps sp j).r.p Z v) →
   (∀ j, j < pre.length → (sps sp j).kd = 2 → (listed.getD j true = true ↔ j < m)) → (∀ j o, ops[j]? = some o → listed.getD j true = true → ∀ e ∈ bnds o, listed.getD e true = true) →
   (∀ j, pre.length ≤ j → j < ops.length → listed.getD j true = false) → wpAny P .any ops.toArray Q fuel listed a w := by
  have rdy : ∀ (listed : Array Bool), listed.size = ops.length → Region.ready .any ops.toArray listed = [] → ∀ j, j < ops.length → listed.getD j true = true := by
   intro listed hsz hr j
   induction j using Nat.strongRecOn with
   | ind j ih =>
    intro hj
    cases hb : listed.getD j true with
    | true => rfl
    | false =>
     have : j ∈ Region.ready .any ops.toArray listed := mem_ready.2 ⟨hb, ops[j], by simp [hj], fun e he hbn => by
      have h1 := b1 j hj
      rw [List.getD_eq_getElem?_getD, List.getElem?_eq_getElem hj] at h1
      have hlt : e.on < j := h1 e.on (by
       simp only [bnds, Option.getD_some, List.mem_map, List.mem_filter]
       exact ⟨e, ⟨by simpa using he, hbn⟩, rfl⟩)
      have := ih e.on hlt (by omega)
      rw [Array.getD_eq_getD_getElem?] at this ⊢
      rw [Array.getElem?_eq_getElem (by omega)] at this ⊢
      simpa using this⟩
     rw [hr] at this; cases this
  have fin : ∀ (listed : Array Bool) (a : Act) (w : World) (Z : Fz) (m : Nat), listed.size = ops.length → m ≤ pre.length → St c (Hs.getD m []) Z w → Agr n l0 a Z → (∀ j, j < pre.length → listed.getD j true = true) →
    (∀ j, j < pre.length → listed.getD j true = true → ∀ d, dstOf ops j = some d → ∃ v, a.tmps[d]? = some v ∧ (sps sp j).r.p Z v) →
    (∀ j, j < pre.length → (sps sp j).kd = 2 → (listed.getD j true = true ↔ j < m)) → wpList P ops.toArray Q last a w := by
   intro listed a w Z m hsz hmN hst hag hall hv hloud
   refine h a w Z (agr_dep hag (fun j hj d hd => hv j (by simpa using hj) (hall j (by simpa using hj)) d hd)) ?_
   have := hconst (pre.length - m) m (by omega) (fun j h1 h2 h3 => by
    have := (hloud j (by omega) h3).1 (hall j (by omega))
    omega)
   rw [show m + (pre.length - m) = pre.length from by omega] at this
   rw [this]; exact hst
  intro fuel
  induction fuel with
  | zero =>
   intro listed a w Z m hsz hcnt hmN hst hag hv hloud hcl hlast
   have hall : ∀ j, j < ops.length → listed.getD j true = true := fun j hj => by
    cases hb : listed.getD j true with
    | true => rfl
    | false =>
     have : false ∈ listed.toList := by
      rw [Array.getD_eq_getD_getElem?, Array.getElem?_eq_getElem (by omega)] at hb
      simp at hb; rw [← hb]; simp
     have := List.count_pos_iff.2 this
     omega
   have hl0' : last = [] := by
    cases last with
    | nil => rfl
    | cons o r =>
     have hlt : pre.length < ops.length := by rw [← hops]; simp
     have := hall pre.length hlt
     rw [hlast pre.length (Nat.le_refl _) hlt] at this; cases this
   subst hl0'
   refine ⟨?_, fin listed a w Z m hsz hmN hst hag (fun j hj => hall j (by omega)) hv hloud⟩
   cases hr : Region.ready .any ops.toArray listed with
   | nil => rfl
   | cons i r =>
    have hi : i ∈ Region.ready .any ops.toArray listed := by rw [hr]; simp
    obtain ⟨h1, o, ho, _⟩ := mem_ready.1 hi
    rw [hall i (by have := (Array.getElem?_eq_some_iff.1 ho).1; simpa using this)] at h1; cases h1
  | succ fuel ih =>
   intro listed a w Z m hsz hcnt hmN hst hag hv hloud hcl hlast
   have clo : ∀ (j i : Nat), ((cloM ops []).getD j 0).testBit i = true → listed.getD j true = true → listed.getD i true = true :=
    cloM_good ops (fun i => listed.getD i true = true) ops [] (fun t o ht e he hF => hcl t o ht (by simpa using hF) e he) (fun j i hb => by simp at hb)
   refine ⟨fun hr => ?_, fun i hi => ?_⟩
   ·have hall := rdy listed hsz hr
    have : listed.toList.count false = 0 := by
     rw [List.count_eq_zero]
     intro hmem
     obtain ⟨k, hk⟩ := List.getElem?_of_mem hmem
     have hkl := (List.getElem?_eq_some_iff.1 hk).1
     have := hall k (by simpa [hsz] using hkl)
     rw [Array.getD_eq_getD_getElem?] at this
     simp at hk this
     rw [hk] at this; simp at this
    omega
   ·obtain ⟨hun, o, ho, haft⟩ := mem_ready.1 hi
    have ho' : ops[i]? = some o := by simpa using ho
    have hil : i < ops.length := (List.getElem?_eq_some_iff.1 ho').1
    have hbl : ∀ e ∈ bnds o, listed.getD e true = true := fun e he => by
     simp only [bnds, List.mem_map, List.mem_filter] at he
     obtain ⟨x, ⟨hx1, hx2⟩, rfl⟩ := he
     have h3 := haft x (by simpa using hx1) hx2
     rw [Array.getD_eq_getD_getElem?] at h3 ⊢
     cases hq : listed[x.on]? with
     | none => rw [hq] at h3; cases h3
     | some b => rw [hq] at h3; simpa using h3
    have hset : ∀ j, (listed.setIfInBounds i true).getD j true = true ↔ (j = i ∨ listed.getD j true = true) := fun j => by
     by_cases hj : i = j
     ·subst hj
      have : i < listed.size := by omega
      simp [this]
     ·rw [getD_set_ne true hj]
      constructor
      ·exact .inr
      ·rintro (h1 | h1)
       ·exact absurd h1.symm hj
       ·exact h1
    have hsz' : (listed.setIfInBounds i true).size = ops.length := by simpa using hsz
    have hcnt' : (listed.setIfInBounds i true).toList.count false = fuel := by
     have hlt : i < listed.size := by omega
     have hfi : listed.toList[i]? = some false := by
      rw [Array.getD_eq_getD_getElem?, Array.getElem?_eq_getElem hlt] at hun
      simp at hun; simp [hlt, hun]
     rw [Array.toList_setIfInBounds]
     have h1 := List.count_set (a := true) (b := false) (l := listed.toList) (i := i) (by simpa using hlt)
     have h2 : listed.toList[i]'(by simpa using hlt) = false := by
      have := List.getElem?_eq_some_iff.1 hfi; exact this.2
     rw [h1, h2, hcnt]; rfl
    have hcl' : ∀ j o, ops[j]? = some o → (listed.setIfInBounds i true).getD j true = true → ∀ e ∈ bnds o, (listed.setIfInBounds i true).getD e true = true := fun j o' hj hl e he => by
     rw [hset] at hl ⊢
     rcases hl with rfl | hl
     ·rw [ho'] at hj; simp at hj; subst hj; exact .inr (hbl e he)
     ·exact .inr (hcl j o' hj hl e he)
    unfold wpOp
    have hoA : ops.toArray[i]? = some o := ho
    simp only [hoA]
    by_cases hiN : i < pre.length
    · -- one of the prefix
     have hpre : pre[i]? = some o := by rw [← hget i hiN]; exact ho'
     have h1 := hat i o hpre
     rw [Nat.zero_add] at h1
     have hag' : Agr n (depFr ops sp (sps sp i).deps l0) a Z := agr_dep hag (fun j hj d hd => by
      have h3 := b3 i hiN
      rw [hdp i hiN] at h3
      have h4 := h3 j hj
      rw [List.getD_eq_getElem?_getD, ho', Option.getD_some, List.contains_iff_mem] at h4
      have hlj := hbl j h4
      have hji : j < i := by
       have := b1 i hil
       rw [List.getD_eq_getElem?_getD, ho', Option.getD_some] at this
       exact this j h4
      exact hv j (by omega) hlj d hd)
     have hdst : ∀ d, o.dst = some d → (d < n ∧ d ∉ keysOf l0) ∧ ∀ j, j < pre.length → j ≠ i → dstOf ops j ≠ some d := fun d hd => by
      have h3 := b2 i hiN
      have : dstOf ops i = some d := by simp [dstOf, ho', hd]
      rw [this] at h3
      simp only [Bool.and_eq_true, Bool.not_eq_true', List.all_eq_true, List.mem_range, decide_eq_true_eq] at h3
      refine ⟨⟨h3.1.1, fun hmem => by rw [← List.contains_iff_mem] at hmem; rw [hmem] at h3; cases h3.1.2⟩, fun j hj hne he => ?_⟩
      have := h3.2 j hj
      simp [hne, he] at this
     -- what is known after the operation
     have after : ∀ (v : Value) (w' : World) (Z' : Fz) (m' : Nat), m' ≤ pre.length → Fz.le Z Z' → (o.dst ≠ none → (sps sp i).r.p Z' v) → St c (Hs.getD m' []) Z' w' →
       (∀ j, j < pre.length → (sps sp j).kd = 2 → ((listed.setIfInBounds i true).getD j true = true ↔ j < m')) → wpAny P .any ops.toArray Q fuel (listed.setIfInBounds i true) (a.put o.dst v) w' := by
      intro v w' Z' m' hm' hz hp hst' hloud'
      have hput : ∀ k u, a.tmps[k]? = some u → o.dst ≠ some k → (a.put o.dst v).tmps[k]? = some u := fun k u hk hne => by
       cases hd : o.dst with
       | none => simpa [Act.put] using hk
       | some d =>
        simp only [Act.put, Array.getElem?_setIfInBounds]
        rw [if_neg (fun e => hne (by rw [hd, e]))]; exact hk
      refine ih _ _ _ Z' m' hsz' hcnt' hm' hst' ⟨?_, ?_, fun k r hk => ?_⟩ (fun j hj hl d hd => ?_) hloud' hcl' (fun j h1 h2 => ?_)
      ·cases o.dst <;> simp [Act.put, hag.size]
      ·cases o.dst <;> simp [Act.put, hag.defers]
      ·obtain ⟨u, hu, hpu⟩ := hag.tm k r hk
       exact ⟨u, hput k u hu (fun e => (hdst k e).1.2 (look_mem hk)), r.mono hz hpu⟩
      ·by_cases hji : j = i
       ·subst hji
        have hod : o.dst = some d := by simpa [dstOf, ho'] using hd
        refine ⟨v, ?_, hp (by simp [hod])⟩
        have hdn : d < a.tmps.size := by rw [hag.size]; exact (hdst d hod).1.1
        simp [Act.put, hod, hdn]
       ·rw [hset] at hl
        rcases hl with hl | hl
        ·exact absurd hl hji
        ·obtain ⟨u, hu, hpu⟩ := hv j hj hl d hd
         exact ⟨u, hput d u hu (fun e => (hdst d e).2 j hj hji hd), (sps sp j).r.mono hz hpu⟩
      ·rw [getD_set_ne true (by omega)]; exact hlast j h1 h2
     have loudSame : (sps sp i).kd ≠ 2 → ∀ j, j < pre.length → (sps sp j).kd = 2 → ((listed.setIfInBounds i true).getD j true = true ↔ j < m) := fun hne j hj hk => by
      rw [hset, ← hloud j hj hk]
      constructor
      ·rintro (h1 | h1)
       ·subst h1; exact absurd hk hne
       ·exact h1
      ·exact .inr
     have level : (sps sp i).kd ≠ 0 → Hs.getD i [] = Hs.getD m [] ∧ ∀ j, j < pre.length → (sps sp j).kd = 2 → j ≠ i → (listed.getD j true = true ↔ j < i) := fun hne => by
      have ord : ∀ j, j < pre.length → (sps sp j).kd = 2 → j ≠ i → (listed.getD j true = true ↔ j < i) := fun j hj hk hji => by
       have h3 := b4 i hiN
       rw [hkd i hiN, Bool.or_eq_true, beq_iff_eq] at h3
       rcases h3 with h3 | h3
       ·exact absurd h3 hne
       ·rw [List.all_eq_true] at h3
        have h4 := h3 j (by simpa using hj)
        rw [hkd j hj, hk] at h4
        simp only [bne_self_eq_false, Bool.false_or, Bool.or_eq_true, beq_iff_eq, hji, false_or] at h4
        by_cases hlt : j < i
        ·rw [if_pos hlt] at h4
         have : listed.getD j true = true := by
          -- i's ancestors are listed
          have hcl2 : ∀ (k q : Nat), ((cloM ops []).getD k 0).testBit q = true → (k = i ∨ listed.getD k true = true) → (q = i ∨ listed.getD q true = true) :=
           cloM_good ops (fun k => k = i ∨ listed.getD k true = true) ops [] (fun t o' ht e he hF => by
            rcases hF with hF | hF
            ·simp at hF; subst hF; rw [ho'] at ht; simp at ht; subst ht; exact .inr (hbl e he)
            ·exact .inr (hcl t o' ht (by simpa using hF) e he)) (fun j i hb => by simp at hb)
          rcases hcl2 i j h4 (.inl rfl) with h5 | h5
          ·exact absurd h5 hji
          ·exact h5
         exact ⟨fun _ => hlt, fun _ => this⟩
        ·rw [if_neg hlt] at h4
         refine ⟨fun h5 => ?_, fun h5 => absurd h5 hlt⟩
         have := clo j i h4 h5
         rw [this] at hun; cases hun
      refine ⟨?_, ord⟩
      rcases Nat.le_total m i with hmi | hmi
      ·have := hconst (i - m) m (by omega) (fun j h1 h2 h3 => by
        have h4 := (ord j (by omega) h3 (by omega)).2 (by omega)
        have := (hloud j (by omega) h3).1 h4
        omega)
       rw [show m + (i - m) = i from by omega] at this
       exact this
      ·have := hconst (m - i) i (by omega) (fun j h1 h2 h3 => by
        have h4 := (hloud j (by omega) h3).2 (by omega)
        by_cases hji : j = i
        ·subst hji; rw [h4] at hun; cases hun
        ·have := (ord j (by omega) h3 hji).1 h4; omega)
       rw [show i + (m - i) = m from by omega] at this
       exact this.symm
     have step : ∀ H', OpOk P n c ops.toArray Q (depFr ops sp (sps sp i).deps l0) (Hs.getD m []) o (sps sp i).r H' → (∃ m', m' ≤ pre.length ∧ H' = Hs.getD m' [] ∧ ∀ j, j < pre.length → (sps sp j).kd = 2 → ((listed.setIfInBounds i true).getD j true = true ↔ j < m')) →
       (if Region.wanted o (yielded ops.toArray a.tmps) then o.wp P a w (wpAny P .any ops.toArray Q fuel (listed.setIfInBounds i true)) Q ∨ (o.asks P a w ∧ LetsOut Q) else wpAny P .any ops.toArray Q fuel (listed.setIfInBounds i true) (a.put o.dst undef) w) := fun H' hok ⟨m', hm', hHm, hl'⟩ => by
      obtain ⟨k1, k2⟩ := hok a w Z (wpAny P .any ops.toArray Q fuel (listed.setIfInBounds i true)) hag' hst (fun v w' Z' hz hp hs => after v w' Z' m' hm' hz (fun _ => hp) (by rw [← hHm]; exact hs) hl')
      split
      ·rename_i hw'; exact .inl (k1 hw')
      ·rename_i hw'; exact k2 (by simpa using hw')
     have hk2 : (sps sp i).kd ≤ 2 := by
      have := b7 ((sp.map (·.kd)).getD i 0) (by
       rw [List.getD_eq_getElem?_getD, List.getElem?_eq_getElem (by simp; omega)]; exact List.getElem_mem _)
      rw [hkd _ hiN] at this; exact this
     match hq : (sps sp i).kd, h1 with
     | 0, h1 => exact step _ (h1.2 _) ⟨m, hmN, rfl, loudSame (by omega)⟩
     | 1, h1 =>
      obtain ⟨e1, e2⟩ := level (by omega)
      refine step _ (by rw [← e1]; exact h1.2) ⟨m, hmN, e1, loudSame (by omega)⟩
     | 2, h1 =>
      obtain ⟨e1, e2⟩ := level (by omega)
      refine step _ (by rw [← e1]; exact h1) ⟨i + 1, by omega, rfl, fun j hj hk => ?_⟩
      rw [hset]
      by_cases hji : j = i
      ·subst hji; simp
      ·rw [e2 j hj hk hji]; simp [hji]; omega
     | q + 3, _ => omega
    · -- the last one
     have hNi : i = pre.length := by omega
     have hlast1 : ∃ r, last = o :: r := by
      cases last with
      | nil => rw [← hops] at hil; simp at hil; omega
      | cons o' r =>
       rw [← hops, hNi] at ho'
       simp at ho'
       exact ⟨r, by rw [ho']⟩
     obtain ⟨r, rfl⟩ := hlast1
     have hr : r = [] := by
      have := b6; rw [← hops] at this; simp at this
      cases r with
      | nil => rfl
      | cons _ _ => simp at this
     subst hr
     have hall : ∀ j, j < pre.length → listed.getD j true = true := fun j hj => by
      have hcl2 : ∀ (k q : Nat), ((cloM ops []).getD k 0).testBit q = true → (k = i ∨ listed.getD k true = true) → (q = i ∨ listed.getD q true = true) :=
       cloM_good ops (fun k => k = i ∨ listed.getD k true = true) ops [] (fun t o' ht e he hF => by
        rcases hF with hF | hF
        ·simp at hF; subst hF; rw [ho'] at ht; simp at ht; subst ht; exact .inr (hbl e he)
        ·exact .inr (hcl t o' ht (by simpa using hF) e he)) (fun j i hb => by simp at hb)
      have h5 := b5 i hil
      simp only [Bool.or_eq_true, decide_eq_true_eq, List.all_eq_true, List.mem_range] at h5
      rcases h5 with h5 | h5
      ·omega
      ·rcases hcl2 i j (h5 j hj) (.inl rfl) with h6 | h6
       ·omega
       ·exact h6
     have hf := fin listed a w Z m hsz hmN hst hag hall hv hloud
     have kk : ∀ a' w', Q .normal a' w' → wpAny P .any ops.toArray Q fuel (listed.setIfInBounds i true) a' w' := fun a' w' hq => by
      have hall' : ∀ j, j < ops.length → (listed.setIfInBounds i true).getD j true = true := fun j hj => by
       rw [hset]
       by_cases hji : j = i
       ·exact .inl hji
       ·refine .inr (hall j ?_)
        have : ops.length = pre.length + 1 := by rw [← hops]; simp
        omega
      have hnr : Region.ready .any ops.toArray (listed.setIfInBounds i true) = [] := by
       cases hr : Region.ready .any ops.toArray (listed.setIfInBounds i true) with
       | nil => rfl
       | cons k r =>
        have hk : k ∈ Region.ready .any ops.toArray (listed.setIfInBounds i true) := by rw [hr]; simp
        obtain ⟨h1, o2, ho2, _⟩ := mem_ready.1 hk
        rw [hall' k (by have := (Array.getElem?_eq_some_iff.1 ho2).1; simpa using this)] at h1; cases h1
      cases fuel with
      | zero => exact ⟨hnr, hq⟩
      | succ f => exact ⟨fun _ => hq, fun k hk => by rw [hnr] at hk; cases hk⟩
     simp only [wpList] at hf
     split
     ·rename_i hw'
      rw [if_pos hw'] at hf
      exact hf.imp (fun h => Oper.wp_mono kk h) (fun h => h)
     ·rename_i hw'
      rw [if_neg hw'] at hf
      exact kk _ _ hf
 have e0 : ∀ j, j < ops.length → (Array.replicate ops.length false).getD j true = false := fun j hj => by simp [hj]
 have hsz0 : ops.toArray.size = ops.length := by simp
 rw [hsz0]
 refine main ops.length (Array.replicate ops.length false) a _ Z 0 (by simp) (by simp) (Nat.zero_le _) (by rw [hH]; exact hw.drawn _) (ha.subL hl0) (fun j hj hl => ?_) (fun j hj _ => ?_) (fun j o hj hl => ?_) (fun j _ h2 => e0 j h2)
 ·rw [e0 j (by omega)] at hl; cases hl
 ·rw [e0 j (by omega)]; simp
 ·rw [e0 j (List.getElem?_eq_some_iff.1 hj).1] at hl; cases hl
section
variable {ops : List Oper} {sp : List Sp} {l0 l : Fr} {H H' : List Ent} {Hs : List (List Ent)} {i : Nat} {o : Oper} {rest all : List Oper}
theorem obl_q (hk : (sps sp i).kd = 0) (h : ∀ H, OpOk P n c opsA Q (depFr all sp (sps sp i).deps l0) H o (sps sp i).r H) (hr : Obl P n c opsA Q all sp l0 (i + 1) rest (H :: Hs)) : Obl P n c opsA Q all sp l0 i (o :: rest) (H :: H :: Hs) := by
 refine ⟨?_, hr⟩
 rw [hk]; exact ⟨rfl, h⟩
theorem obl_f (hk : (sps sp i).kd = 1) (h : OpOk P n c opsA Q (depFr all sp (sps sp i).deps l0) H o (sps sp i).r H) (hr : Obl P n c opsA Q all sp l0 (i + 1) rest (H :: Hs)) : Obl P n c opsA Q all sp l0 i (o :: rest) (H :: H :: Hs) := by
 refine ⟨?_, hr⟩
 rw [hk]; exact ⟨rfl, h⟩
theorem obl_l (hk : (sps sp i).kd = 2) (h : OpOk P n c opsA Q (depFr all sp (sps sp i).deps l0) H o (sps sp i).r H') (hr : Obl P n c opsA Q all sp l0 (i + 1) rest (H' :: Hs)) : Obl P n c opsA Q all sp l0 i (o :: rest) (H :: H' :: Hs) := by
 refine ⟨?_, hr⟩
 rw [hk]; exact h
theorem obl_e : Obl P n c opsA Q all sp l0 i [] [H] := trivial
def zipFr : List Oper → List Sp → Fr → Fr
 | o :: os, s :: sp, l => match o.dst with
  | some d => (d, s.r) :: zipFr os sp l
  | none => zipFr os sp l
 | _, _, l => l
theorem zipFr_eq {all : List Oper} {sp : List Sp} {l0 : Fr} : ∀ (os : List Oper) (ss : List Sp) (k : Nat), os = all.drop k → ss = sp.drop k → ss.length = os.length → depFr all sp (List.range' k os.length) l0 = zipFr os ss l0
 | [], _, _, _, _, _ => by cases ‹List Sp› <;> rfl
 | o :: os, [], _, _, _, h => by simp at h
 | o :: os, s :: ss, k, ho, hs, h => by
  have e1 : all[k]? = some o := by
   have := congrArg (·[0]?) ho; simp at this; exact this.symm
  have e2 : sp[k]? = some s := by
   have := congrArg (·[0]?) hs; simp at this; exact this.symm
  have ih := zipFr_eq (l0 := l0) os ss (k + 1) (by have := congrArg List.tail ho; simpa using this) (by have := congrArg List.tail hs; simpa using this) (by simpa using h)
  simp only [List.length_cons, List.range'_succ]
  unfold depFr zipFr
  rw [ih]
  simp only [dstOf, sps, e1, e2, Option.bind_some, List.getD_eq_getElem?_getD, Option.getD_some]
  cases o.dst <;> rfl
structure Kz (ks : List Nat) (os : List Oper) (sp : List Sp) (l0 l1 : Fr) : Prop where
 go : Kp ks (zipFr os sp l0) l1
theorem kz_y {ks : List Nat} {d : Nat} {r : Rp} {ty : TypeId} {pos : String} {af : Array Edge} {op : Op} {g : Option (Nat × Bool)} {os : List Oper} {ds : List Nat} {kd : Nat} {sp : List Sp} {l0 l1 : Fr} (h : ks.contains d = true) (t : Kz ks os sp l0 l1) :
  Kz ks ({ dst := some d, op := op, type := ty, pos := pos, after := af, guard := g } :: os) (⟨ds, r, kd⟩ :: sp) l0 ((d, r) :: l1) := ⟨kp_y h t.go⟩
theorem kz_d {ks : List Nat} {d : Nat} {r : Rp} {ty : TypeId} {pos : String} {af : Array Edge} {op : Op} {g : Option (Nat × Bool)} {os : List Oper} {ds : List Nat} {kd : Nat} {sp : List Sp} {l0 l1 : Fr} (h : ks.contains d = false) (t : Kz ks os sp l0 l1) :
  Kz ks ({ dst := some d, op := op, type := ty, pos := pos, after := af, guard := g } :: os) (⟨ds, r, kd⟩ :: sp) l0 l1 := ⟨kp_d h t.go⟩
theorem kz_u {ks : List Nat} {ty : TypeId} {pos : String} {af : Array Edge} {op : Op} {g : Option (Nat × Bool)} {os : List Oper} {s : Sp} {sp : List Sp} {l0 l1 : Fr} (t : Kz ks os sp l0 l1) :
  Kz ks ({ dst := none, op := op, type := ty, pos := pos, after := af, guard := g } :: os) (s :: sp) l0 l1 := ⟨t.go⟩
theorem kz_0 {ks : List Nat} {l0 l1 : Fr} (t : Kp ks l0 l1) : Kz ks [] [] l0 l1 := ⟨t⟩
theorem wc_rdk {id : Nat} {os : List Oper} {l0 l1 : Fr} (ks0 : List Nat) (sp : List Sp) (Hs : List (List Ent)) (ks : List Nat) {H1 : List Ent}
  (hob : Obl P n c os.toArray Q os sp l0 0 os Hs) (h : WK n c (Q .normal) l1 H1)
  (h0 : Kp ks0 l l0 := by repeat (first | exact kp_n | (apply kp_y; rfl) | (apply kp_d; rfl)))
  (hz : Kz ks os sp l0 l1 := by repeat (first | (apply kz_y; rfl) | (apply kz_d; rfl) | apply kz_u | apply kz_0 | exact kp_n | (apply kp_y; rfl) | (apply kp_d; rfl)))
  (hm : P.follows .mixedOrders = true := by kernel_rfl) (hB : okB n os os.length (keysOf l0) (sp.map (·.deps)) (sp.map (·.kd)) = true := by kernel_rfl)
  (hsp : sp.length = os.length := by rfl) (hH : Hs.getD 0 [] = H := by rfl) (hH1 : Hs.getD os.length [] = H1 := by rfl) : WC P n c (.region id os.toArray true) Q l H := by
 have hk : WK n c (Q .normal) (depFr os sp (List.range os.length) l0) (Hs.getD os.length []) := fun a w Z ha hw => h a w Z (ha.subL (by
   have e := zipFr_eq (all := os) (sp := sp) (l0 := l0) os sp 0 (by simp) (by simp) hsp
   rw [List.range_eq_range', e]; exact hz.go.one)) (by rw [← hH1]; exact hw)
 have := wc_region_d (Q := Q) (id := id) (pre := os) (last := []) sp Hs (l0 := l0) (l := l) (H := H) hm (by simpa using hB) h0.one hsp hH (by simpa using hob) (wl_nil (by simpa using hk))
 simpa using this
theorem wc_rdq {id : Nat} {os : List Oper} {l0 l1 : Fr} (ks0 : List Nat) (sp : List Sp) (ks : List Nat)
  (hob : Obl P n c os.toArray Q os sp l0 0 os (List.replicate (os.length + 1) H)) (h : WK n c (Q .normal) l1 H)
  (h0 : Kp ks0 l l0 := by repeat (first | exact kp_n | (apply kp_y; rfl) | (apply kp_d; rfl)))
  (hz : Kz ks os sp l0 l1 := by repeat (first | (apply kz_y; rfl) | (apply kz_d; rfl) | apply kz_u | apply kz_0 | exact kp_n | (apply kp_y; rfl) | (apply kp_d; rfl)))
  (hm : P.follows .mixedOrders = true := by kernel_rfl) (hB : okB n os os.length (keysOf l0) (sp.map (·.deps)) (sp.map (·.kd)) = true := by kernel_rfl)
  (hsp : sp.length = os.length := by rfl) : WC P n c (.region id os.toArray true) Q l H :=
 wc_rdk ks0 sp _ ks hob h h0 hz hm hB hsp (by simp) (by simp [List.getD_eq_getElem?_getD, List.getElem?_replicate])
theorem wc_rdlk {id : Nat} {os : List Oper} {l0 l1 : Fr} (N : Nat) (ks0 : List Nat) (sp : List Sp) (Hs : List (List Ent)) (ks : List Nat) {H1 : List Ent}
  (hob : Obl P n c os.toArray Q os sp l0 0 (os.take N) Hs) (h : WL P n c os.toArray Q (os.drop N) l1 H1)
  (h0 : Kp ks0 l l0 := by repeat (first | exact kp_n | (apply kp_y; rfl) | (apply kp_d; rfl)))
  (hz : Kz ks (os.take N) sp l0 l1 := by repeat (first | (apply kz_y; rfl) | (apply kz_d; rfl) | apply kz_u | apply kz_0 | exact kp_n | (apply kp_y; rfl) | (apply kp_d; rfl)))
  (hm : P.follows .mixedOrders = true := by kernel_rfl) (hN : Nat.ble N os.length = true := by rfl) (hB : okB n os N (keysOf l0) (sp.map (·.deps)) (sp.map (·.kd)) = true := by kernel_rfl)
  (hsp : sp.length = N := by rfl) (hH : Hs.getD 0 [] = H := by rfl) (hH1 : Hs.getD N [] = H1 := by rfl) : WC P n c (.region id os.toArray true) Q l H := by
 have hN' : N ≤ os.length := by simpa using hN
 have hl : (os.take N).length = N := by simp [hN']
 have hk : WL P n c os.toArray Q (os.drop N) (depFr os sp (List.range N) l0) (Hs.getD N []) := fun a w Z ha hw => h a w Z (ha.subL (by
  have key : ∀ M, M ≤ N → depFr os sp (List.range' (N - M) M) l0 = zipFr ((os.take N).drop (N - M)) (sp.drop (N - M)) l0 := by
   intro M
   induction M with
   | zero => intro _; simp [hsp, depFr, zipFr, List.drop_of_length_le, hl]
   | succ M ih =>
    intro hM
    have ih := ih (by omega)
    have e1 : (os.take N).drop (N - (M + 1)) = (os[N - (M + 1)]'(by omega)) :: (os.take N).drop (N - M) := by
     rw [List.drop_eq_getElem_cons (by omega)]
     simp [show N - (M + 1) + 1 = N - M from by omega]
    have e2 : sp.drop (N - (M + 1)) = (sp[N - (M + 1)]'(by omega)) :: sp.drop (N - M) := by
     rw [List.drop_eq_getElem_cons (by omega)]
     simp [show N - (M + 1) + 1 = N - M from by omega]
    rw [List.range'_succ, show N - (M + 1) + 1 = N - M from by omega, e1, e2]
    unfold depFr zipFr
    rw [ih]
    simp only [dstOf, sps, List.getD_eq_getElem?_getD, List.getElem?_eq_getElem (show N - (M + 1) < os.length from by omega), List.getElem?_eq_getElem (show N - (M + 1) < sp.length from by omega), Option.bind_some, Option.getD_some]
    cases (os[N - (M + 1)]'(by omega)).dst <;> rfl
  have := key N (Nat.le_refl _)
  simp only [Nat.sub_self, List.drop_zero] at this
  rw [List.range_eq_range', this]; exact hz.go.one)) (by rw [← hH1]; exact hw)
 have := wc_region_d (P := P) (n := n) (c := c) (Q := Q) (id := id) (pre := os.take N) (last := os.drop N) sp Hs (l0 := l0) (l := l) (H := H) hm (by rw [List.take_append_drop, hl]; exact hB) h0.one (by rw [hl]; exact hsp) hH (by rw [List.take_append_drop]; exact hob) (by rw [List.take_append_drop, hl]; exact hk)
 rwa [List.take_append_drop] at this
end
/-! ### Obligations -/
section
variable {l : Fr} {H H' : List Ent} {d : Nat} {op : Op} {ty : TypeId} {pos : String} {af : Array Edge} {r : Rp}
theorem ok_v (hr : ORun P n c l H { dst := some d, op := op, type := ty, pos := pos, after := af, guard := none } r) : OpOk P n c opsA Q l H { dst := some d, op := op, type := ty, pos := pos, after := af, guard := none } r H := fun a w Z K ha hw hK =>
 ⟨fun _ => by
  obtain ⟨v, hv, he⟩ := hr a w Z ha hw
  unfold Oper.wp
  rw [he]
  exact hK v w Z (Fz.le.refl _) hv hw, fun h => by simp [Region.wanted] at h⟩
theorem ok_on {d : Option Nat} {j dj : Nat} {want b : Bool} (hj : gslot opsA j = some dj) (hv : look l dj = some (rB b)) (hb : b = want)
  (h : OpOk P n c opsA Q l H { dst := d, op := op, type := ty, pos := pos, after := af, guard := none } r H') : OpOk P n c opsA Q l H { dst := d, op := op, type := ty, pos := pos, after := af, guard := some (j, want) } r H' := fun a w Z K ha hw hK => by
 obtain ⟨h1, _⟩ := h a w Z K ha hw hK
 have hy := yielded_bool ha hj hv
 subst hb
 refine ⟨fun _ => h1 (by simp [Region.wanted]), fun h2 => ?_⟩
 simp [Region.wanted, hy] at h2
theorem ok_off {d : Option Nat} {j dj : Nat} {want b : Bool} (hj : gslot opsA j = some dj) (hv : look l dj = some (rB b)) (hb : b = !want) : OpOk P n c opsA Q l H { dst := d, op := op, type := ty, pos := pos, after := af, guard := some (j, want) } (rv undef) H := fun a w Z K ha hw hK => by
 have hy := yielded_bool ha hj hv
 subst hb
 refine ⟨fun h2 => ?_, fun _ => hK undef w Z (Fz.le.refl _) rfl hw⟩
 simp [Region.wanted, hy] at h2
theorem ok_off_u {d : Option Nat} {j dj : Nat} {want : Bool} (hj : gslot opsA j = some dj) (hv : look l dj = some (rv undef)) : OpOk P n c opsA Q l H { dst := d, op := op, type := ty, pos := pos, after := af, guard := some (j, want) } (rv undef) H := fun a w Z K ha hw hK => by
 have hy := yielded_undef ha hj hv
 refine ⟨fun h2 => ?_, fun _ => hK undef w Z (Fz.le.refl _) rfl hw⟩
 simp [Region.wanted, hy] at h2
theorem oq {all : List Oper} {sp : List Sp} {l0 : Fr} {i : Nat} {rest : List Oper} {Hs : List (List Ent)} {c : Cx}
  (hr : ∀ {H}, ORun P n c (depFr all sp (sps sp i).deps l0) H { dst := some d, op := op, type := ty, pos := pos, after := af, guard := none } (sps sp i).r)
  (h : Obl P n c opsA Q all sp l0 (i + 1) rest (H :: Hs)) (hk : (sps sp i).kd = 0 := by rfl) : Obl P n c opsA Q all sp l0 i ({ dst := some d, op := op, type := ty, pos := pos, after := af, guard := none } :: rest) (H :: H :: Hs) := obl_q hk (fun _ => ok_v hr) h
theorem of {all : List Oper} {sp : List Sp} {l0 : Fr} {i : Nat} {rest : List Oper} {Hs : List (List Ent)} {c : Cx}
  (hr : ORun P n c (depFr all sp (sps sp i).deps l0) H { dst := some d, op := op, type := ty, pos := pos, after := af, guard := none } (sps sp i).r)
  (h : Obl P n c opsA Q all sp l0 (i + 1) rest (H :: Hs)) (hk : (sps sp i).kd = 1 := by rfl) : Obl P n c opsA Q all sp l0 i ({ dst := some d, op := op, type := ty, pos := pos, after := af, guard := none } :: rest) (H :: H :: Hs) := obl_f hk (ok_v hr) h
theorem on {d : Option Nat} {all : List Oper} {sp : List Sp} {l0 : Fr} {i : Nat} {rest : List Oper} {Hs : List (List Ent)} {c : Cx} {j dj : Nat} {want b : Bool} (hb : b = want)
  (h : Obl P n c opsA Q all sp l0 i ({ dst := d, op := op, type := ty, pos := pos, after := af, guard := none } :: rest) (H :: H' :: Hs))
  (hj : gslot opsA j = some dj := by rfl) (hv : look (depFr all sp (sps sp i).deps l0) dj = some (rB b) := by rfl) : Obl P n c opsA Q all sp l0 i ({ dst := d, op := op, type := ty, pos := pos, after := af, guard := some (j, want) } :: rest) (H :: H' :: Hs) := by
 obtain ⟨h1, h2⟩ := h
 refine ⟨?_, h2⟩
 revert h1
 split
 ·exact fun h1 => ⟨h1.1, fun H => ok_on hj hv hb (h1.2 H)⟩
 ·exact fun h1 => ⟨h1.1, ok_on hj hv hb h1.2⟩
 ·exact fun h1 => ok_on hj hv hb h1
theorem oz {d : Option Nat} {all : List Oper} {sp : List Sp} {l0 : Fr} {i : Nat} {rest : List Oper} {Hs : List (List Ent)} {c : Cx} {j dj : Nat} {want b : Bool} (hb : b = !want) (h : Obl P n c opsA Q all sp l0 (i + 1) rest (H :: Hs)) (hk : (sps sp i).kd = 0 := by rfl) (hr : rv undef = (sps sp i).r := by rfl)
  (hj : gslot opsA j = some dj := by rfl) (hv : look (depFr all sp (sps sp i).deps l0) dj = some (rB b) := by rfl) : Obl P n c opsA Q all sp l0 i ({ dst := d, op := op, type := ty, pos := pos, after := af, guard := some (j, want) } :: rest) (H :: H :: Hs) :=
 obl_q hk (fun _ => hr ▸ ok_off hj hv hb) h
theorem ou {d : Option Nat} {all : List Oper} {sp : List Sp} {l0 : Fr} {i : Nat} {rest : List Oper} {Hs : List (List Ent)} {c : Cx} {j dj : Nat} {want : Bool} (h : Obl P n c opsA Q all sp l0 (i + 1) rest (H :: Hs)) (hk : (sps sp i).kd = 0 := by rfl) (hr : rv undef = (sps sp i).r := by rfl)
  (hj : gslot opsA j = some dj := by rfl) (hv : look (depFr all sp (sps sp i).deps l0) dj = some (rv undef) := by rfl) : Obl P n c opsA Q all sp l0 i ({ dst := d, op := op, type := ty, pos := pos, after := af, guard := some (j, want) } :: rest) (H :: H :: Hs) :=
 obl_q hk (fun _ => hr ▸ ok_off_u hj hv) h
theorem ok_buildSlice {α : Type} {t e sz : Nat} {ys : List α} {enc : α → List Rp} {len : Nat} {parts : Array (Nat × Operand)} {xs : List Operand} {rs : List Rp} {css : List (List Rp)} {zz : Value} (ht : P.underlying t = some (.slice e)) (hz : ∀ w, (sizeOf e).run P w = .ok sz w) (hzv : ∀ w, (zeroValue e).run P w = .ok zz w)
  (hparts : parts.toList = (xs.zipIdx 0).map fun p => (p.2, p.1)) (hlen : ys.length = len) (hv : evs l xs = some rs) (hc : CelAll H rs css) (hcs : css = ys.map enc) (henc : ∀ z, (enc z).length = sz) (hsz : Nat.blt 0 sz = true) (hle : Nat.ble (len * sz) 16777216 = true) : OpOk P n c opsA Q l H { dst := some d, op := .buildSlice t len parts, type := ty, pos := pos, after := af, guard := none } (rSl sz (ys.map enc)) H := fun a w Z K ha hw hK =>
 ⟨fun _ => by
  have hall := evs_all ha hv
  obtain ⟨h1, h2, h3⟩ := hc.all hw hall
  have hsz' : 0 < sz := by simpa using hsz
  have hle' : ¬ 16777216 < len * sz := by simpa using hle
  have hxl : (xs.map a.eval).length = len := by rw [← h2, hcs, List.length_map, hlen]
  have hcell : ∀ v ∈ xs.map a.eval, v.cells.size = sz := fun v hv' => by
   obtain ⟨i, hi⟩ := List.getElem?_of_mem hv'
   have hil := (List.getElem?_eq_some_iff.1 hi).1
   have hil2 : i < css.length := by omega
   rw [h3 i css[i] v (List.getElem?_eq_getElem hil2) hi]
   have : css[i] ∈ ys.map enc := by rw [← hcs]; exact List.getElem_mem hil2
   obtain ⟨z, _, hz'⟩ := List.mem_map.1 this
   rw [← hz']; exact henc z
  have hflen : ((xs.map a.eval).flatMap fun v => v.cells.toList).length = len * sz := by
   rw [h1.length, flat_len' (sz := sz) (fun c hc' => by rw [hcs] at hc'; obtain ⟨z, _, hz'⟩ := List.mem_map.1 hc'; rw [← hz']; exact henc z), hcs, List.length_map, hlen]
  have hpe : (parts.map fun (i, x) => (i, a.eval x)).toList = ((xs.map a.eval).zipIdx 0).map fun p => (p.2, p.1) := by
   rw [Array.toList_map, hparts, List.zipIdx_map, List.map_map, List.map_map]; rfl
  have hrun : (Instr.buildSlice t len (parts.map fun (i, x) => (i, a.eval x))).run P w = .ok (.slice (some ⟨w.heap.size, 0, none⟩) len len) (w.alloc (.cells ((xs.map a.eval).flatMap fun v => v.cells.toList).toArray e)) := by
   refine run_bs ht hz hzv hle w ?_
   rw [hpe]
   by_cases h0 : len * sz = 0
   ·have : len = 0 := by
     rcases Nat.mul_eq_zero.1 h0 with h | h
     ·exact h
     ·omega
    subst this
    have hx0 : xs = [] := by simpa using List.eq_nil_of_length_eq_zero (by simpa using hxl)
    subst hx0
    simp [Instr.fill]
   ·simp only [h0, if_false]
    exact Great.fill_whole hsz' (xs.map a.eval) _ hcell (by rw [hxl]; simp)
  have hal : St c (.row (.slice (some ⟨w.heap.size, 0, none⟩) len len) e sz (ys.map enc) :: H) Z (w.alloc (.cells ((xs.map a.eval).flatMap fun v => v.cells.toList).toArray e)) := by
   refine hw.alloc _ (e := .row (.slice (some ⟨w.heap.size, 0, none⟩) len len) e sz (ys.map enc)) ⟨?_, (xs.map a.eval).flatMap (fun v => v.cells.toList), ⟨?_, .inr ⟨w.heap.size, len, _, ?_, Nat.zero_le _, heap_alloc_new w _, ?_, ?_, ?_, ?_⟩⟩, ?_⟩ (by simp [Ent.foot, Value.ownBlock])
   ·intro cl hcl; obtain ⟨z, _, hz'⟩ := List.mem_map.1 hcl; rw [← hz']; exact henc z
   ·rw [hflen, List.length_map, hlen]
   ·rw [List.length_map, hlen]
   ·rw [List.length_map, hlen]; exact Nat.le_refl _
   ·have : len ≤ len * sz := Nat.le_mul_of_pos_right _ hsz'
    simp only [maxLen]; omega
   ·simpa using hflen
   ·rw [List.length_map, hlen, ← hflen]; exact List.take_length
   ·rw [← hcs]; exact h1
  obtain ⟨Z', hz', hst, hsl⟩ := hal.freeze (i := 0) rfl
  unfold Oper.wp
  rw [show (execOp a.eval { dst := some d, op := .buildSlice t len parts, type := ty, pos := pos, after := af, guard := none }).run P w = .ok (.value (.slice (some ⟨w.heap.size, 0, none⟩) len len)) (w.alloc (.cells ((xs.map a.eval).flatMap fun v => v.cells.toList).toArray e)) from by simp [execOp, hrun]]
  exact hK _ _ Z' hz' hsl hst, fun h => by simp [Region.wanted] at h⟩
theorem ok_call0 {f : FuncId} {args : List Operand} {ats : Array TypeId} {rs : List Rp} {r r' : Rp} (hcall : ∀ (as1 : Array Value) (w : World), (callFunc f as1).run P w = .ok (.enter f as1) w) (hv : evs l args = some rs)
  (hc : Fn0 P c.E f rs r') (hr : r' = r) : OpOk P n c opsA Q l H { dst := some d, op := .call { callee := .value (.func f), args := args.toArray, argTypes := ats }, type := ty, pos := pos, after := af, guard := none } r H := fun a w Z K ha hw hK =>
 ⟨fun _ => by
  unfold Oper.wp
  rw [run_callee rfl hcall w]
  refine (hc w Z _ (evs_all ha hv) (St.enter (Hin := []) (Hr := H) hw)).mono ?_
  rintro e w' ⟨r2, v, Ho, Z', rfl, ⟨rfl, rfl⟩, hr2, hs⟩
  subst hr
  exact hK v w' Z' hs.le hr2 (by simpa using hw.call0 hs), fun h => by simp [Region.wanted] at h⟩
def URun (P : Program) (n : Nat) (c : Cx) (l : Fr) (H : List Ent) (o : Oper) (H' : List Ent) : Prop := ∀ a w Z, Agr n l a Z → St c H Z w → ∃ w', (execOp a.eval o).run P w = .ok .skip w' ∧ St c H' Z w'
theorem ok_u (hr : URun P n c l H { dst := none, op := op, type := ty, pos := pos, after := af, guard := none } H') : OpOk P n c opsA Q l H { dst := none, op := op, type := ty, pos := pos, after := af, guard := none } (rv undef) H' := fun a w Z K ha hw hK =>
 ⟨fun _ => by
  obtain ⟨w', he, hs⟩ := hr a w Z ha hw
  unfold Oper.wp
  rw [he]
  exact hK undef w' Z (Fz.le.refl _) rfl hs, fun h => by simp [Region.wanted] at h⟩
end
/-! ### stores, as they stand alone -/
section
variable {ops : Array Oper} {rest : List Oper} {l : Fr} {H H' : List Ent} {d : Nat} {d' : Option Nat} {x y : Operand} {ty t t' e : TypeId} {pos : String} {af : Array Edge} {g : Option (Nat × Bool)} {v u : Value} {r : Rp} {sz : Nat}
theorem U_u_store {i b off : Nat} {cs : List Rp} (hag : ∀ w, (sizeOf t).run P w = .ok 1 w) (hx : ev l x = some (rv (.pointer (some ⟨b, off, none⟩)))) (hy : ev l y = some r) (hv : OneR H r)
  (hi : H[i]? = some (.blk b cs e)) (hlt : Nat.blt off cs.length = true) {cs' : List Rp} (hcs : cs.set off r = cs') (hH : H.set i (.blk b cs' e) = H') : URun P n c l H { dst := none, op := .store t x y, type := ty, pos := pos, after := af, guard := none } H' := fun a w Z ha hw => by
  obtain ⟨us, hb, h2⟩ := hw.ent hi
  have hr := ha.ev hy
  have hone := hv c Z w _ hw hr
  have hlen := h2.length
  have hlt' : off < us.length := by rw [hlen]; simpa using hlt
  have h1 := run_storeCells_at P b off e [a.eval y] 0 us.toArray w hb (by simp; omega) (by simpa using hone)
  have hcv := cells_one hone
  have h3 : us.take off ++ [a.eval y] ++ us.drop (off + 1) = us.set off (a.eval y) := by
   simp [List.set_eq_take_append_cons_drop, hlt']
  simp only [Nat.add_zero, List.length_cons, List.length_nil, Nat.zero_add] at h1
  rw [h3] at h1
  refine ⟨w.setRow b (us.set off (a.eval y)).toArray, ?_, ?_⟩
  ·simp [execOp, ha.eval hx, Instr.storeAt, Instr.sureAddr, storeVar, hag, hcv, h1]
  ·subst hH; subst hcs
   refine hw.set hi rfl rfl rfl (by simp [World.setRow]) (fun k _ hk => ?_) ⟨us.set off (a.eval y), setRow_heap w b _ _ e (0, 0) hb, h2.set off hr⟩ (by simp [Ent.foot])
   simp only [Ent.foot, List.mem_singleton] at hk
   simp only [World.setRow, Array.getElem?_modify]
   rw [if_neg (fun e => hk e.symm)]
theorem U_u_store_agg {i b off : Nat} {cs rs : List Rp} (hsz : ∀ w, (sizeOf t).run P w = .ok sz w) (hx : ev l x = some (rv (.pointer (some ⟨b, off, none⟩)))) (hy : ev l y = some (rAgg rs))
  (hl : rs.length = sz) (hv : OneAll H rs) (hi : H[i]? = some (.blk b cs e)) (hlt : Nat.ble (off + sz) cs.length = true) {cs' : List Rp}
  (hcs : cs.take off ++ rs ++ cs.drop (off + sz) = cs') (hH : H.set i (.blk b cs' e) = H') : URun P n c l H { dst := none, op := .store t x y, type := ty, pos := pos, after := af, guard := none } H' := fun a w Z ha hw => by
  obtain ⟨us, hb, h2⟩ := hw.ent hi
  obtain ⟨vs, e1, h4⟩ := ha.ev hy
  have hlen := h2.length
  have hvl := h4.length
  have hlt' : off + sz ≤ us.length := by rw [hlen]; simpa using hlt
  have h1 := run_storeCells_at P b off e vs 0 us.toArray w hb (by simp; omega) (fun v hv' => hv.at hw h4 v hv')
  simp only [Nat.add_zero] at h1
  refine ⟨w.setRow b (us.take off ++ vs ++ us.drop (off + sz)).toArray, ?_, ?_⟩
  ·have h5 : vs.length = sz := by omega
   rw [h5] at h1
   simp only [List.append_assoc] at h1 ⊢
   simp [execOp, ha.eval hx, e1, Instr.storeAt, Instr.sureAddr, storeVar, hsz, Value.cells, h5, h1]
  ·subst hH; subst hcs
   refine hw.set hi rfl rfl rfl (by simp [World.setRow]) (fun k _ hk => ?_) ⟨us.take off ++ vs ++ us.drop (off + sz), setRow_heap w b _ _ e (0, 0) hb, ((h2.take off).append h4).append (h2.drop (off + sz))⟩ (by simp [Ent.foot])
   simp only [Ent.foot, List.mem_singleton] at hk
   simp only [World.setRow, Array.getElem?_modify]
   rw [if_neg (fun e => hk e.symm)]

end
end
end Go.Proofs.YtpmiamphppcfeaaGreatDoor.Q
