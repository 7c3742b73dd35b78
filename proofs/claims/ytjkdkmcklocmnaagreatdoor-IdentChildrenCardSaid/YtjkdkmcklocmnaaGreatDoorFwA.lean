/-
  A calculus of walks: frames that are known in part, worlds that are known by a list of entries. Plain theorems over any program; no condition.
-/
import Derived.WalkKit
import Derived.Deep.QuietTactic
import Derived.Deep.LoopGhost
namespace Go.Proofs.YtjkdkmcklocmnaaGreatDoor
open Go Go.RowKit
set_option linter.unusedVariables false

/-! ### Frames -/
abbrev Fr := List (Nat × Value)
def look : Fr → Nat → Option Value
  | [], _ => none
  | p :: l, i => bif Nat.beq p.1 i then some p.2 else look l i
theorem look_cons (j : Nat) (v : Value) (l : Fr) (i : Nat) : look ((j, v) :: l) i = if j = i then some v else look l i := by
  by_cases h : j = i
  · subst h; simp [look]
  · have : Nat.beq j i = false := by
      cases hb : Nat.beq j i
      · rfl
      · exact absurd (Nat.eq_of_beq_eq_true hb) h
    simp [look, this, h]

structure Agr (n : Nat) (l : Fr) (a : Act) : Prop where
  size : a.tmps.size = n
  defers : a.defers = []
  tm : ∀ i v, look l i = some v → a.tmps[i]? = some v

def ev : Fr → Operand → Option Value
  | l, .tmp t => look l t
  | _, .const v => some v
  | _, .global g => some (.pointer (some ⟨g, 0, none⟩))
  | _, .func f => some (.func (.func f) #[] #[])

section
variable {n : Nat} {l l' : Fr} {a : Act}
theorem Agr.eval (h : Agr n l a) {x : Operand} {v : Value} (hx : ev l x = some v) : a.eval x = v := by
  cases x with
  | tmp t => simp [Act.eval, Array.getD_eq_getD_getElem?, h.tm t v hx]
  | const u => simp only [ev, Option.some.injEq] at hx; subst hx; rfl
  | global g => simpa [ev, Act.eval] using hx
  | func f => simpa [ev, Act.eval] using hx
theorem Agr.put (h : Agr n l a) {d : Nat} (hd : Nat.blt d n = true) (v : Value) : Agr n ((d, v) :: l) (a.put (some d) v) := by
  have hd' : d < n := by simpa using hd
  refine ⟨by simp [Act.put, h.size], by simp [Act.put, h.defers], fun i u hi => ?_⟩
  rw [look_cons] at hi
  simp only [Act.put, Array.getElem?_setIfInBounds]
  split at hi
  · rename_i e; subst e; simp at hi; subst hi; simp [h.size, hd']
  · rename_i e; rw [if_neg e]; exact h.tm i u hi
theorem Agr.put_none (h : Agr n l a) (v : Value) : Agr n l (a.put none v) := h

/-- l' tells no more than l does. -/
def Sub : Fr → Fr → Prop
  | [], _ => True
  | p :: r, l => look l p.1 = some p.2 ∧ Sub r l
theorem Sub.look : ∀ {l' l : Fr}, Sub l' l → ∀ i v, look l' i = some v → Proofs.YtjkdkmcklocmnaaGreatDoor.look l i = some v
  | [], _, _, i, v, h => by simp [Proofs.YtjkdkmcklocmnaaGreatDoor.look] at h
  | p :: r, l, ⟨h1, h2⟩, i, v, h => by
    obtain ⟨j, u⟩ := p
    rw [look_cons] at h
    split at h
    · rename_i e; subst e; simp at h; subst h; exact h1
    · exact Sub.look h2 i v h
theorem Agr.sub (h : Agr n l a) (hs : Sub l' l) : Agr n l' a := ⟨h.size, h.defers, fun i v hi => h.tm i v (hs.look i v hi)⟩
end

/-! ### Worlds -/
inductive Ent where
  | blk (b : Nat) (o : Obj)
  | row (v : Value) (e : TypeId) (sz : Nat) (n : Nat) (xs : List Value)
def Ent.foot : Ent → List Nat
  | .blk b _ => [b]
  | .row v _ _ _ _ => v.ownBlock.toList
def Ent.holds (w : World) : Ent → Prop
  | .blk b o => w.heap[b]? = some o
  | .row v e sz n xs => w.ownsRow 0 e sz v n xs
theorem Ent.lt {w : World} {e : Ent} (h : e.holds w) {k : Nat} (hk : k ∈ e.foot) : k < w.heap.size := by
  cases e with
  | blk b o => simp [Ent.foot] at hk; subst hk; exact (Array.getElem?_eq_some_iff.1 h).1
  | row v e sz n xs => simp [Ent.foot, Option.mem_toList] at hk; exact (World.ownsRow.lt h k hk).2
theorem Ent.keep {w w' : World} {e : Ent} (h : e.holds w) (hk : ∀ k ∈ e.foot, w'.heap[k]? = w.heap[k]?) : e.holds w' := by
  cases e with
  | blk b o => exact (hk b (by simp [Ent.foot])).trans h
  | row v e sz n xs =>
    refine ⟨h.1, ?_⟩
    rcases h.2 with hn | ⟨g, cap, cur, rfl, hb, hgg, rest⟩
    · exact .inl hn
    · exact .inr ⟨g, cap, cur, rfl, hb, (hk g (by simp [Ent.foot, Value.ownBlock])).trans hgg, rest⟩

structure St (w0 : World) (M : List Nat) (H : List Ent) (w : World) : Prop where
  os : w.os = w0.os
  tape : w.tape = w0.tape
  output : w.output = w0.output
  size : w0.heap.size ≤ w.heap.size
  old : ∀ k, k < w0.heap.size → k ∉ M → w.heap[k]? = w0.heap[k]?
  has : ∀ e ∈ H, e.holds w
  own : ∀ e ∈ H, ∀ k ∈ e.foot, w0.heap.size ≤ k ∨ k ∈ M
  dis : H.Pairwise (fun e e' => ∀ k ∈ e.foot, k ∉ e'.foot)

section
variable {w0 w w' : World} {M M2 : List Nat} {H H' Hr Hin Hout : List Ent}
theorem St.refl (w : World) (M : List Nat) : St w M [] w := ⟨rfl, rfl, rfl, Nat.le_refl _, fun _ _ _ => rfl, by simp, by simp, .nil⟩
/-- A call begins: what it may write is what the entries tell of. -/
theorem St.enter (h : St w0 M H w) : St w (H.flatMap Ent.foot) H w :=
  ⟨rfl, rfl, rfl, Nat.le_refl _, fun _ _ _ => rfl, h.has, fun e he k hk => .inr (List.mem_flatMap.2 ⟨e, he, hk⟩), h.dis⟩
theorem St.below (h : St w0 [] H w) : Below w0.heap.size w0 w := ⟨h.os, h.tape, h.output, h.size, fun k hk => h.old k hk (by simp)⟩
theorem St.of_below (h : Below w0.heap.size w0 w) : St w0 [] [] w := ⟨h.os, h.tape, h.output, h.size, fun k hk _ => h.block k hk, by simp, by simp, .nil⟩
theorem St.sub (h : St w0 M H w) (hs : H'.Sublist H) : St w0 M H' w :=
  ⟨h.os, h.tape, h.output, h.size, h.old, fun e he => h.has e (hs.subset he), fun e he => h.own e (hs.subset he), h.dis.sublist hs⟩
theorem St.perm (h : St w0 M H w) (hp : H.Perm H') : St w0 M H' w :=
  ⟨h.os, h.tape, h.output, h.size, h.old, fun e he => h.has e (hp.mem_iff.2 he), fun e he => h.own e (hp.mem_iff.2 he),
    (hp.pairwise_iff (fun hxy k hk hk' => hxy k hk' hk)).1 h.dis⟩
theorem perm_front : ∀ {H : List Ent} {i : Nat} {e : Ent}, H[i]? = some e → H.Perm (e :: H.eraseIdx i)
  | x :: r, 0, e, h => by simp at h; subst h; simp
  | x :: r, i + 1, e, h => by
    simp at h
    exact ((perm_front h).cons x).trans (List.Perm.swap e x _)
theorem St.front (h : St w0 M H w) {i : Nat} {e : Ent} (hi : H[i]? = some e) : St w0 M (e :: H.eraseIdx i) w := h.perm (perm_front hi)
theorem St.drew (h : St w0 M H w) : St w0 M H w.drew :=
  ⟨h.os, h.tape, h.output, h.size, h.old, fun e he => Ent.keep (h.has e he) fun _ _ => rfl, h.own, h.dis⟩
theorem St.drawn (h : St w0 M H w) (k : Nat) : St w0 M H { w with drawn := k } :=
  ⟨h.os, h.tape, h.output, h.size, h.old, fun e he => Ent.keep (h.has e he) fun _ _ => rfl, h.own, h.dis⟩
theorem St.mem_lt (h : St w0 M H w) {e : Ent} (he : e ∈ H) {k : Nat} (hk : k ∈ e.foot) : k < w.heap.size := Ent.lt (h.has e he) hk

/-- A call, or an operation, that keeps to its own part. -/
theorem St.call (h : St w0 M (Hin ++ Hr) w) (h' : St w M2 Hout w') (hM : ∀ k ∈ M2, ∃ e ∈ Hin, k ∈ e.foot) : St w0 M (Hout ++ Hr) w' := by
  have hd := List.pairwise_append.1 h.dis
  have hM2 : ∀ k, k < w0.heap.size → k ∉ M → k ∉ M2 := fun k hk hkM hkM2 => by
    obtain ⟨e, he, hke⟩ := hM k hkM2
    rcases h.own e (List.mem_append_left _ he) k hke with h1 | h1
    · omega
    · exact hkM h1
  have hr : ∀ e ∈ Hr, ∀ k ∈ e.foot, k < w.heap.size ∧ k ∉ M2 := fun e he k hk => by
    refine ⟨h.mem_lt (List.mem_append_right _ he) hk, fun hkM2 => ?_⟩
    obtain ⟨e', he', hke'⟩ := hM k hkM2
    exact hd.2.2 e' he' e he k hke' hk
  refine ⟨h'.os.trans h.os, h'.tape.trans h.tape, h'.output.trans h.output, Nat.le_trans h.size h'.size, fun k hk hkM => ?_, fun e he => ?_, fun e he k hk => ?_, ?_⟩
  · exact (h'.old k (Nat.lt_of_lt_of_le hk h.size) (hM2 k hk hkM)).trans (h.old k hk hkM)
  · rcases List.mem_append.1 he with he | he
    · exact h'.has e he
    · exact Ent.keep (h.has e (List.mem_append_right _ he)) fun k hk => h'.old k (hr e he k hk).1 (hr e he k hk).2
  · rcases List.mem_append.1 he with he | he
    · rcases h'.own e he k hk with h1 | h1
      · exact .inl (Nat.le_trans h.size h1)
      · obtain ⟨e', he', hke'⟩ := hM k h1
        exact h.own e' (List.mem_append_left _ he') k hke'
    · exact h.own e (List.mem_append_right _ he) k hk
  · refine List.pairwise_append.2 ⟨h'.dis, hd.2.1, fun e he e' he' k hk hk' => ?_⟩
    rcases h'.own e he k hk with h1 | h1
    · have := (hr e' he' k hk').1; omega
    · exact (hr e' he' k hk').2 h1
theorem St.call0 (h : St w0 M H w) (h' : St w [] Hout w') : St w0 M (Hout ++ H) w' :=
  St.call (Hin := []) (by simpa using h) h' (by simp)

/-- One entry is written anew. -/
theorem St.set (h : St w0 M H w) {i : Nat} {e e' : Ent} (hi : H[i]? = some e) (os : w'.os = w.os) (tape : w'.tape = w.tape) (output : w'.output = w.output) (size : w.heap.size ≤ w'.heap.size)
    (hb : ∀ k, k < w.heap.size → k ∉ e.foot → w'.heap[k]? = w.heap[k]?) (he : e'.holds w') (hf : ∀ k ∈ e'.foot, k ∈ e.foot ∨ w.heap.size ≤ k) : St w0 M (H.set i e') w' := by
  have hp : (e :: H.eraseIdx i).Perm H := (perm_front hi).symm
  have h1 : St w0 M ([e] ++ H.eraseIdx i) w := h.perm (perm_front hi)
  have hil : i < H.length := (List.getElem?_eq_some_iff.1 hi).1
  have h2 : St w e.foot [e'] w' :=
    ⟨os, tape, output, size, hb, by simpa using he, by simpa using fun k hk => (hf k hk).symm, by simp⟩
  have h3 := h1.call h2 (fun k hk => ⟨e, by simp, hk⟩)
  have hq : (H.set i e')[i]? = some e' := by simp [hil]
  have := perm_front hq
  rw [List.eraseIdx_set_eq] at this
  exact h3.perm this.symm
theorem St.alloc (h : St w0 M H w) (o : Obj) : St w0 M (.blk w.heap.size o :: H) (w.alloc o) := by
  have h2 : St w [] [.blk w.heap.size o] (w.alloc o) :=
    ⟨rfl, rfl, rfl, by simp, fun k hk _ => Below.heap_alloc w o k hk, by simpa [Ent.holds] using heap_alloc_new w o, by simp [Ent.foot], by simp⟩
  exact h.call0 h2
end

/-! ### Judgements -/
section
variable (P : Program) (n : Nat) (w0 : World) (M : List Nat)
def WL (ops : Array Oper) (Q : Exit → Act → World → Prop) (rest : List Oper) (l : Fr) (H : List Ent) : Prop := ∀ a w, Agr n l a → St w0 M H w → wpList P ops Q rest a w
def WC (c : Code) (Q : Exit → Act → World → Prop) (l : Fr) (H : List Ent) : Prop := ∀ a w, Agr n l a → St w0 M H w → c.wp P Q a w
def WK (K : Act → World → Prop) (l : Fr) (H : List Ent) : Prop := ∀ a w, Agr n l a → St w0 M H w → K a w
/-- Some state of a family. -/
def Some1 {S : Type} (inv : S → Prop) (fr : S → Fr) (hp : S → List Ent) : Act → World → Prop := fun a w => ∃ s, inv s ∧ Agr n (fr s) a ∧ St w0 M (hp s) w
/-- What an operation yields. -/
def ORun (l : Fr) (H : List Ent) (o : Oper) (v : Value) : Prop := ∀ a w, Agr n l a → St w0 M H w → (execOp a.eval o).run P w = .ok (.value v) w
end

/-- The end of a call: it returns v, and the entries H hold; of what was there only what M names may have turned. -/
def Ret (w : World) (M : List Nat) (Φ : Value → List Ent → Prop) : Ending → World → Prop := fun e w' => ∃ v H, e = .returned v ∧ St w M H w' ∧ Φ v H
/-- It returns v, and nothing has turned. -/
def RetV (w : World) (v : Value) : Ending → World → Prop := fun e w' => e = .returned v ∧ St w [] [] w'

section
variable {P : Program} {n : Nat} {w0 : World} {M : List Nat} {ops : Array Oper} {Q : Exit → Act → World → Prop} {rest : List Oper} {l l' : Fr} {H H' : List Ent} {x y c : Code} {K : Act → World → Prop}

theorem WC.sub (hl : Sub l' l) (hH : H'.Sublist H) (h : WC P n w0 M c Q l' H') : WC P n w0 M c Q l H := fun a w ha hw => h a w (ha.sub hl) (hw.sub hH)
theorem WK.sub (hl : Sub l' l) (hH : H'.Sublist H) (h : WK n w0 M K l' H') : WK n w0 M K l H := fun a w ha hw => h a w (ha.sub hl) (hw.sub hH)
theorem WL.sub (hl : Sub l' l) (hH : H'.Sublist H) (h : WL P n w0 M ops Q rest l' H') : WL P n w0 M ops Q rest l H := fun a w ha hw => h a w (ha.sub hl) (hw.sub hH)
theorem WL.front {i : Nat} {e : Ent} (hi : H[i]? = some e) (h : WL P n w0 M ops Q rest l (e :: H.eraseIdx i)) : WL P n w0 M ops Q rest l H := fun a w ha hw => h a w ha (hw.front hi)

theorem wc_seq (h : WC P n w0 M x (Exit.then (fun a w => y.wp P Q a w) Q) l H) : WC P n w0 M (x.seq y) Q l H := fun a w ha hw => wp_seq (h a w ha hw)
theorem wc_seq_cut {S : Type} (inv : S → Prop) (fr : S → Fr) (hp : S → List Ent) (h : WC P n w0 M x (Exit.then (Some1 n w0 M inv fr hp) Q) l H) (h2 : ∀ s, inv s → WC P n w0 M y Q (fr s) (hp s)) :
    WC P n w0 M (x.seq y) Q l H := fun a w ha hw => wp_seq (wp_mono (h a w ha hw) fun e a w q => by
      cases e with
      | normal => obtain ⟨s, hi, hs, ht⟩ := q; exact h2 s hi a w hs ht
      | _ => exact q)
theorem wk_some {S : Type} {inv : S → Prop} {fr : S → Fr} {hp : S → List Ent} (s : S) (hi : inv s) (hl : Sub (fr s) l) (hH : (hp s).Sublist H) : WK n w0 M (Some1 n w0 M inv fr hp) l H :=
  fun _ _ ha hw => ⟨s, hi, ha.sub hl, hw.sub hH⟩
theorem wk_then (h : WK n w0 M K l H) : WK n w0 M (Exit.then K Q .normal) l H := h
theorem wk_then_exit {id : Nat} (h : WK n w0 M (Q (.exit id)) l H) : WK n w0 M (Exit.then K Q (.exit id)) l H := h
theorem wk_then_ret (h : WK n w0 M (Q .ret) l H) : WK n w0 M (Exit.then K Q .ret) l H := h
theorem wk_in_norm {id : Nat} (h : WK n w0 M (Q .normal) l H) : WK n w0 M (Exit.inBlock id Q .normal) l H := h
theorem wk_in_ret {id : Nat} (h : WK n w0 M (Q .ret) l H) : WK n w0 M (Exit.inBlock id Q .ret) l H := h
theorem bsplit {J : Prop} (b : Bool) (h1 : b = true → J) (h2 : b = false → J) : J := by cases b; exact h2 rfl; exact h1 rfl
/-- the ways through x meet in one frame -/
def Mid (n : Nat) (w0 : World) (M : List Nat) (φ : Prop) (l : Fr) (H : List Ent) : Act → World → Prop := fun a w => φ ∧ Agr n l a ∧ St w0 M H w
theorem wc_seq_mid (l1 : Fr) (H1 : List Ent) {φ : Prop} (h : WC P n w0 M x (Exit.then (Mid n w0 M φ l1 H1) Q) l H) (h2 : φ → WC P n w0 M y Q l1 H1) : WC P n w0 M (x.seq y) Q l H := fun a w ha hw =>
  wp_seq (wp_mono (h a w ha hw) fun e a w q => by
    cases e with
    | normal => exact h2 q.1 a w q.2.1 q.2.2
    | _ => exact q)
theorem wk_mid {φ : Prop} {l1 : Fr} {H1 : List Ent} (hφ : φ) (hl : Sub l1 l) (hH : H1.Sublist H) : WK n w0 M (Mid n w0 M φ l1 H1) l H := fun _ _ ha hw => ⟨hφ, ha.sub hl, hw.sub hH⟩
theorem fi {k : IntKind} {a b : Int} (h : a = b) : some (Value.int k a) = some (Value.int k b) := by rw [h]
theorem fb {a b : Bool} (h : a = b) : some (Value.bool a) = some (Value.bool b) := by rw [h]
theorem wc_of_wk (h : WC P n w0 M y Q l H) : WK n w0 M (fun a w => y.wp P Q a w) l H := h
theorem wc_skip (h : WK n w0 M (Q .normal) l H) : WC P n w0 M .skip Q l H := fun a w ha hw => wp_skip (h a w ha hw)
theorem wc_exit {id : Nat} (h : WK n w0 M (Q (.exit id)) l H) : WC P n w0 M (.exit id) Q l H := fun a w ha hw => wp_exit (h a w ha hw)
theorem wc_ret (h : WK n w0 M (Q .ret) l H) : WC P n w0 M .ret Q l H := fun a w ha hw => wp_ret (h a w ha hw)
theorem wc_block {id : Nat} (h : WC P n w0 M c (Exit.inBlock id Q) l H) : WC P n w0 M (.block id c) Q l H := fun a w ha hw => wp_block (h a w ha hw)
theorem wk_in_hit {id : Nat} (h : WK n w0 M (Q .normal) l H) : WK n w0 M (Exit.inBlock id Q (.exit id)) l H := fun a w ha hw => by
  show if id = id then _ else _
  rw [if_pos rfl]; exact h a w ha hw
theorem wk_in_miss {id id' : Nat} (hne : Nat.beq id' id = false) (h : WK n w0 M (Q (.exit id')) l H) : WK n w0 M (Exit.inBlock id Q (.exit id')) l H := fun a w ha hw => by
  show if id' = id then _ else _
  rw [if_neg (fun e => by subst e; simp at hne)]; exact h a w ha hw
theorem wc_cond {o : Operand} {b : Bool} (ho : ev l o = some (.bool b)) (h1 : b = true → WC P n w0 M x Q l H) (h2 : b = false → WC P n w0 M y Q l H) : WC P n w0 M (.cond o x y) Q l H :=
  fun a w ha hw => wp_cond_split (ha.eval ho) (fun e => h1 e a w ha hw) (fun e => h2 e a w ha hw)
theorem wc_cond_t {o : Operand} {b : Bool} (ho : ev l o = some (.bool b)) (hb : b = true) (h : WC P n w0 M x Q l H) : WC P n w0 M (.cond o x y) Q l H :=
  fun a w ha hw => by subst hb; exact wp_cond_true (ha.eval ho) (h a w ha hw)
theorem wc_cond_f {o : Operand} {b : Bool} (ho : ev l o = some (.bool b)) (hb : b = false) (h : WC P n w0 M y Q l H) : WC P n w0 M (.cond o x y) Q l H :=
  fun a w ha hw => by subst hb; exact wp_cond_false (ha.eval ho) (h a w ha hw)
theorem wc_loop {S : Type} (inv : S → Prop) (fr : S → Fr) (hp : S → List Ent) (μ : S → Nat) (s0 : S) (h0 : inv s0) (hl : Sub (fr s0) l) (hH : (hp s0).Sublist H)
    (round : ∀ s, inv s → WC P n w0 M c (Exit.then (Some1 n w0 M (fun s' => inv s' ∧ μ s' < μ s) fr hp) Q) (fr s) (hp s)) : WC P n w0 M (.loop c) Q l H := fun a w ha hw => by
  refine wp_loop_ghost (fun k a w => ∃ s, μ s = k ∧ inv s ∧ Agr n (fr s) a ∧ St w0 M (hp s) w) (μ s0) ⟨s0, rfl, h0, ha.sub hl, hw.sub hH⟩ ?_
  rintro k a w ⟨s, rfl, hi, ha, hw⟩
  refine wp_mono (round s hi a w ha hw) fun e a' w' q => ?_
  cases e with
  | normal =>
    obtain ⟨s', ⟨hi', hlt⟩, ha', hw'⟩ := q
    exact ⟨μ s', hlt, s', rfl, hi', ha', hw'⟩
  | _ => exact q
theorem wc_region {id : Nat} {ops : List Oper} (h : WL P n w0 M ops.toArray Q ops l H) : WC P n w0 M (.region id ops.toArray false) Q l H := fun a w ha hw => wp_region_lit (h a w ha hw)
theorem wl_nil (h : WK n w0 M (Q .normal) l H) : WL P n w0 M ops Q [] l H := fun a w ha hw => wpList_nil (h a w ha hw)

/-! ### Operations in a row -/
def gslot (ops : Array Oper) (j : Nat) : Option Nat := (ops[j]?).bind (·.dst)
theorem yielded_bool {a : Act} {j d : Nat} {b : Bool} (ha : Agr n l a) (hj : gslot ops j = some d) (hv : look l d = some (.bool b)) : yielded ops a.tmps j = some b := by
  unfold gslot at hj
  simp [yielded, hj, ha.tm d _ hv]
theorem yielded_undef {a : Act} {j d : Nat} (ha : Agr n l a) (hj : gslot ops j = some d) (hv : look l d = some undef) : yielded ops a.tmps j = none := by
  unfold gslot at hj
  simp [yielded, hj, ha.tm d _ hv, undef]
theorem wl_on {d : Option Nat} {op : Op} {ty : TypeId} {pos : String} {af : Array Edge} {j dj : Nat} {want b : Bool} (hj : gslot ops j = some dj) (hv : look l dj = some (.bool b)) (hb : b = want)
    (h : WL P n w0 M ops Q ({ dst := d, op := op, type := ty, pos := pos, after := af, guard := none } :: rest) l H) :
    WL P n w0 M ops Q ({ dst := d, op := op, type := ty, pos := pos, after := af, guard := some (j, want) } :: rest) l H := fun a w ha hw => by
  have h1 := h a w ha hw
  have hy := yielded_bool ha hj hv
  subst hb
  simp only [wpList, Region.wanted, hy, beq_self_eq_true, if_true] at h1 ⊢
  exact h1
theorem wl_off {d : Nat} {op : Op} {ty : TypeId} {pos : String} {af : Array Edge} {j dj : Nat} {want b : Bool} (hj : gslot ops j = some dj) (hv : look l dj = some (.bool b)) (hb : b = !want) (hn : Nat.blt d n = true)
    (h : WL P n w0 M ops Q rest ((d, undef) :: l) H) :
    WL P n w0 M ops Q ({ dst := some d, op := op, type := ty, pos := pos, after := af, guard := some (j, want) } :: rest) l H := fun a w ha hw => by
  have hy := yielded_bool ha hj hv
  subst hb
  refine wpList_skip ?_ (h _ w (ha.put hn _) hw)
  simp [Region.wanted, hy]
theorem wl_off_u {d : Nat} {op : Op} {ty : TypeId} {pos : String} {af : Array Edge} {j dj : Nat} {want : Bool} (hj : gslot ops j = some dj) (hv : look l dj = some undef) (hn : Nat.blt d n = true)
    (h : WL P n w0 M ops Q rest ((d, undef) :: l) H) :
    WL P n w0 M ops Q ({ dst := some d, op := op, type := ty, pos := pos, after := af, guard := some (j, want) } :: rest) l H := fun a w ha hw => by
  have hy := yielded_undef ha hj hv
  refine wpList_skip ?_ (h _ w (ha.put hn _) hw)
  simp [Region.wanted, hy]
/-- an operation that leaves the world alone -/
theorem wl_v {d : Nat} {op : Op} {ty : TypeId} {pos : String} {af : Array Edge} {v : Value} (hr : ORun P n w0 M l H { dst := some d, op := op, type := ty, pos := pos, after := af, guard := none } v)
    (hn : Nat.blt d n = true) (h : WL P n w0 M ops Q rest ((d, v) :: l) H) : WL P n w0 M ops Q ({ dst := some d, op := op, type := ty, pos := pos, after := af, guard := none } :: rest) l H := fun a w ha hw =>
  wpList_plain rfl fun K hK => by
    unfold Oper.wp
    rw [hr a w ha hw]
    exact hK _ _ (h _ w (ha.put hn v) hw)
/-- an operation that turns the world -/
theorem wl_w {d : Nat} {op : Op} {ty : TypeId} {pos : String} {af : Array Edge}
    (hr : ∀ a w, Agr n l a → St w0 M H w → ∃ v w' H', (execOp a.eval { dst := some d, op := op, type := ty, pos := pos, after := af, guard := none }).run P w = .ok (.value v) w' ∧ St w0 M H' w' ∧ WL P n w0 M ops Q rest ((d, v) :: l) H')
    (hn : Nat.blt d n = true) : WL P n w0 M ops Q ({ dst := some d, op := op, type := ty, pos := pos, after := af, guard := none } :: rest) l H := fun a w ha hw =>
  wpList_plain rfl fun K hK => by
    obtain ⟨v, w', H', h1, h2, h3⟩ := hr a w ha hw
    unfold Oper.wp
    rw [h1]
    exact hK _ _ (h3 _ w' (ha.put hn v) h2)
/-- an operation without a result (a store) -/
theorem wl_u {op : Op} {ty : TypeId} {pos : String} {af : Array Edge}
    (hr : ∀ a w, Agr n l a → St w0 M H w → ∃ w' H', (execOp a.eval { dst := none, op := op, type := ty, pos := pos, after := af, guard := none }).run P w = .ok .skip w' ∧ St w0 M H' w' ∧ WL P n w0 M ops Q rest l H') :
    WL P n w0 M ops Q ({ dst := none, op := op, type := ty, pos := pos, after := af, guard := none } :: rest) l H := fun a w ha hw =>
  wpList_plain rfl fun K hK => by
    obtain ⟨w', H', h1, h2, h3⟩ := hr a w ha hw
    unfold Oper.wp
    rw [h1]
    exact hK _ _ (h3 _ w' (ha.put_none _) h2)
/-- a call -/
theorem wl_call {d : Nat} {op : Op} {ty : TypeId} {pos : String} {af : Array Edge} {f : FuncId} {args : Array Value}
    (hr : ∀ a w, Agr n l a → St w0 M H w → (execOp a.eval { dst := some d, op := op, type := ty, pos := pos, after := af, guard := none }).run P w = .ok (.enter f args) w)
    (hc : ∀ w, St w0 M H w → Calls P f args w (fun e w' => ∃ v H', e = .returned v ∧ St w0 M H' w' ∧ WL P n w0 M ops Q rest ((d, v) :: l) H'))
    (hn : Nat.blt d n = true) : WL P n w0 M ops Q ({ dst := some d, op := op, type := ty, pos := pos, after := af, guard := none } :: rest) l H := fun a w ha hw =>
  wpList_plain rfl fun K hK => by
    unfold Oper.wp
    rw [hr a w ha hw]
    refine (hc w hw).mono ?_
    rintro e w' ⟨v, H', rfl, h2, h3⟩
    exact hK _ _ (h3 _ w' (ha.put hn v) h2)
end
end Go.Proofs.YtjkdkmcklocmnaaGreatDoor
