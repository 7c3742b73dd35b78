/-
  Slices that are read; rows of one's own; calls that turn an entry. Plain theorems over any program; no condition.
-/
import Derived.Test.YtjkdkmcklocmnaaGreatDoorFwF
namespace Go.Proofs.YtjkdkmcklocmnaaGreatDoor
open Go Go.RowKit
set_option linter.unusedVariables false

/-- A slice of elements of sz cells each reads as vs. -/
def SlR (sz : Nat) (w : World) (v : Value) (vs : List (List Value)) : Prop :=
  ∃ A cap, v = .slice A vs.length cap ∧ vs.length ≤ cap ∧ cap ≤ maxLen ∧ ∀ i c, vs[i]? = some c → c.length = sz ∧ ∃ a : Addr, A = some a ∧ a.spot = none ∧ a.block < w.heap.size ∧ ∀ j u, c[j]? = some u → w.cell? ⟨a.block, a.off + (i * sz + j), none⟩ = some u
/-- It keeps off the blocks M. -/
def Off (M : List Nat) (v : Value) : Prop := ∀ a n c, v = .slice (some a) n c → a.block ∉ M
theorem Off.nil (v : Value) : Off [] v := fun _ _ _ _ => by simp
theorem SlR.nil (sz : Nat) (w : World) : SlR sz w (.slice none 0 0) [] := ⟨none, 0, rfl, Nat.le_refl _, by simp [maxLen], fun i c h => by simp at h⟩
theorem SlR.st {sz : Nat} {w0 w : World} {M : List Nat} {H : List Ent} {v : Value} {vs : List (List Value)} (h : SlR sz w0 v vs) (ho : Off M v) (hw : St w0 M H w) : SlR sz w v vs := by
  obtain ⟨A, cap, rfl, hc, hm, hi⟩ := h
  refine ⟨A, cap, rfl, hc, hm, fun i c hic => ?_⟩
  obtain ⟨hl, a, rfl, hs, hb, hcell⟩ := hi i c hic
  refine ⟨hl, a, rfl, hs, Nat.lt_of_lt_of_le hb hw.size, fun j u hj => ?_⟩
  have h1 : w.cell? ⟨a.block, a.off + (i * sz + j), none⟩ = w0.cell? ⟨a.block, a.off + (i * sz + j), none⟩ := World.cell?_of_block (hw.old a.block hb (ho a _ _ rfl))
  rw [h1]
  exact hcell j u hj
theorem SlR.st0 {sz : Nat} {w0 w : World} {H : List Ent} {v : Value} {vs : List (List Value)} (h : SlR sz w0 v vs) (hw : St w0 [] H w) : SlR sz w v vs := h.st (Off.nil _) hw
/-- cells, element by element -/
def flat (vs : List (List Value)) : List Value := vs.flatten
theorem flat_at {sz : Nat} : ∀ {vs : List (List Value)} (hs : ∀ c ∈ vs, c.length = sz) {i : Nat} {c : List Value} (hi : vs[i]? = some c) {j : Nat} {u : Value} (hj : c[j]? = some u), (flat vs)[i * sz + j]? = some u
  | [], hs, i, c, hi, j, u, hj => by simp at hi
  | x :: r, hs, 0, c, hi, j, u, hj => by
    simp at hi; subst hi
    simp only [flat, List.flatten_cons, Nat.zero_mul, Nat.zero_add]
    rw [List.getElem?_append_left (by have := (List.getElem?_eq_some_iff.1 hj).1; exact this)]
    exact hj
  | x :: r, hs, i + 1, c, hi, j, u, hj => by
    have hx : x.length = sz := hs x (by simp)
    simp only [flat, List.flatten_cons]
    rw [List.getElem?_append_right (by rw [hx, Nat.succ_mul]; omega)]
    have e : (i + 1) * sz + j - x.length = i * sz + j := by rw [hx, Nat.succ_mul]; omega
    rw [e]
    exact flat_at (vs := r) (fun c hc => hs c (by simp [hc])) (by simpa using hi) hj
theorem flat_len {sz : Nat} : ∀ {vs : List (List Value)} (hs : ∀ c ∈ vs, c.length = sz), (flat vs).length = vs.length * sz
  | [], _ => by simp [flat]
  | x :: r, hs => by
    have := flat_len (vs := r) (fun c hc => hs c (by simp [hc]))
    have hx := hs x (by simp)
    simp only [flat, List.flatten_cons, List.length_append, List.length_cons] at this ⊢
    rw [this, hx, Nat.succ_mul]; omega
theorem SlR.of_row {sz : Nat} {w : World} {v : Value} {e : TypeId} {vs : List (List Value)} (h : (Ent.row v e sz vs.length (flat vs)).holds w) (hs : ∀ c ∈ vs, c.length = sz) : SlR sz w v vs := by
  obtain ⟨hl, h2⟩ := h
  rcases h2 with ⟨rfl, hn⟩ | ⟨g, cap, cur, rfl, _, hg, hc, hm, hsz, htake⟩
  · have : vs = [] := List.eq_nil_of_length_eq_zero hn
    subst this
    exact SlR.nil _ _
  · refine ⟨some ⟨g, 0, none⟩, cap, rfl, hc, hm, fun i c hi => ⟨hs c (List.mem_of_getElem? hi), ⟨g, 0, none⟩, rfl, rfl, (Array.getElem?_eq_some_iff.1 hg).1, fun j u hj => ?_⟩⟩
    have h3 := flat_at hs hi hj
    rw [← htake, List.getElem?_take] at h3
    split at h3
    · show w.cell? ⟨g, 0 + (i * sz + j), none⟩ = _
      rw [cell_of_row w g _ cur e (0, 0) hg, Nat.zero_add]
      simpa using h3
    · cases h3
/-- the address of element i -/
def elp (sz : Nat) (v : Value) (i : Nat) (off : Nat) : Value := match v with
  | .slice (some a) _ _ => .pointer (some ⟨a.block, a.off + (i * sz + off), none⟩)
  | _ => undef
section
variable {P : Program} {n : Nat} {w0 : World} {M : List Nat} {ops : Array Oper} {Q : Exit → Act → World → Prop} {rest : List Oper} {l : Fr} {H H' : List Ent} {d : Option Nat} {x y c : Operand} {ty t t' e : TypeId} {pos : String} {af : Array Edge} {g : Option (Nat × Bool)} {v u : Value} {sz : Nat} {vs : List (List Value)}
theorem o_len_r (ht : P.underlying t = some (.slice e)) (h : ev l x = some v) (hr : SlR sz w0 v vs) : ORun P n w0 M l H { dst := d, op := .call { callee := .builtin .len, args := #[x], argTypes := #[t] }, type := ty, pos := pos, after := af, guard := g } (.int .i64 vs.length) := by
  obtain ⟨A, cap, rfl, _⟩ := hr
  exact o_len_sl ht h
theorem o_ix_r {k : IntKind} {i : Int} (ht : P.underlying t = some (.slice e)) (hz : ∀ w, (sizeOf e).run P w = .ok sz w) (h : ev l x = some v) (hi : ev l y = some (.int k i)) (hr : SlR sz w0 v vs) (h0 : 0 ≤ i) (h1 : i < vs.length) :
    ORun P n w0 M l H { dst := d, op := .indexAddr t x y, type := ty, pos := pos, after := af, guard := g } (elp sz v i.toNat 0) := by
  obtain ⟨A, cap, rfl, _, _, hc⟩ := hr
  obtain ⟨_, a, rfl, hs, _, _⟩ := hc i.toNat vs[i.toNat] (List.getElem?_eq_getElem (by omega))
  intro a' w ha hw
  obtain ⟨b, off, spot⟩ := a
  simp only at hs; subst hs
  have hlt : i < (vs.length : Int) := h1
  simp [execOp, ha.eval h, ha.eval hi, Instr.indexAt, asIntOf, run_underlying ht, h0, hlt, hz, addm, elp]
/-- a field of an element -/
theorem o_fa_r {off off' i j fsz : Nat} {fs : Array Field} {f : Field} (hu : P.underlying t = some (.struct fs)) (hf : fs[i]? = some f) (hsz : ∀ w, (sizeOf f.type).run P w = .ok (fsz + 1) w)
    (hx : ev l x = some (elp sz v j off)) (hr : SlR sz w0 v vs) (hj : j < vs.length) (ho : off + f.offset = off') : ORun P n w0 M l H { dst := d, op := .fieldAddr t x i, type := ty, pos := pos, after := af, guard := g } (elp sz v j off') := by
  obtain ⟨A, cap, rfl, _, _, hc⟩ := hr
  obtain ⟨_, a, rfl, hs, _, _⟩ := hc j vs[j] (List.getElem?_eq_getElem hj)
  have h2 := o_fieldAddr (n := n) (w0 := w0) (M := M) (H := H) (l := l) (x := x) (ty := ty) (pos := pos) (af := af) (g := g) (dd := d) hu hf hsz hx (off' := a.off + (j * sz + off) + f.offset) rfl
  subst ho
  simpa [elp, Nat.add_assoc] using h2
/-- a cell of an element -/
theorem o_ld_r {off j : Nat} {c : List Value} (hag : ∀ w, (isAgg t).run P w = .ok false w) (hx : ev l x = some (elp sz v j off)) (hr : SlR sz w0 v vs) (ho : Off M v) (hj : vs[j]? = some c) (hc : c[off]? = some u) :
    ORun P n w0 M l H { dst := d, op := .load t x, type := ty, pos := pos, after := af, guard := g } u := fun a w ha hw => by
  obtain ⟨A, cap, rfl, _, _, hi⟩ := hr.st ho hw
  obtain ⟨_, b, rfl, _, _, hcell⟩ := hi j c hj
  have h1 := hcell off u hc
  simp [execOp, ha.eval hx, elp, Instr.loadAt, Instr.sureAddr, loadVar, hag, h1]
/-- an element whole -/
theorem o_ld_ra {j : Nat} {c : List Value} (hag : ∀ w, (isAgg t).run P w = .ok true w) (hsz : ∀ w, (sizeOf t).run P w = .ok sz w) (hx : ev l x = some (elp sz v j 0)) (hr : SlR sz w0 v vs) (ho : Off M v) (hj : vs[j]? = some c) :
    ORun P n w0 M l H { dst := d, op := .load t x, type := ty, pos := pos, after := af, guard := g } (.agg c.toArray) := fun a w ha hw => by
  obtain ⟨A, cap, rfl, _, _, hi⟩ := hr.st ho hw
  obtain ⟨hl, b, rfl, _, _, hcell⟩ := hi j c hj
  have h1 := run_loadCells_list (P := P) w ⟨b.block, b.off + (j * sz + 0), none⟩ c (fun k u hk => by
    rw [addm]
    have := hcell k u hk
    rwa [show b.off + (j * sz + 0) + k = b.off + (j * sz + k) from by omega])
  rw [hl] at h1
  simp only [Nat.add_zero] at h1
  simp [execOp, ha.eval hx, elp, Instr.loadAt, Instr.sureAddr, loadVar, hag, hsz, h1]

/-! ### calls that turn one entry, or make some -/
theorem w_callE {d i : Nat} {en : Ent} {f : FuncId} {args : List Operand} {ats : Array TypeId} {vs : List Value} {Φ : Value → List Ent → Prop} (hcall : ∀ (as : Array Value) (w : World), (callFunc f as).run P w = .ok (.enter f as) w) (hv : evs l args = some vs)
    (hi : H[i]? = some en) (hc : ∀ w, St w0 M H w → en.holds w → Calls P f vs.toArray w (Ret w en.foot Φ)) (hn : Nat.blt d n = true) (h : ∀ u Ho, Φ u Ho → WL P n w0 M ops Q rest ((d, u) :: l) (Ho ++ H.eraseIdx i)) :
    WL P n w0 M ops Q ({ dst := some d, op := .call { callee := .value (.func f), args := args.toArray, argTypes := ats }, type := ty, pos := pos, after := af, guard := none } :: rest) l H :=
  wl_call (fun a w ha hw => run_callee (vs := vs) rfl hcall (by simp [evs_map ha hv]) w) (fun w hw => (hc w hw (hw.ent hi)).mono fun e w' ⟨v, Ho, he, hs, hf⟩ =>
    ⟨v, Ho ++ H.eraseIdx i, he, (St.call (Hin := [en]) (Hr := H.eraseIdx i) (hw.front hi) hs (fun k hk => ⟨en, by simp, hk⟩)), h v Ho hf⟩) hn
/-- a slice literal -/
theorem w_buildSlice {d len : Nat} {parts : Array (Nat × Operand)} {cs : List Value} (ht : P.underlying t = some (.slice e)) (hz : ∀ w, (sizeOf e).run P w = .ok sz w)
    (hrun : ∀ a w, Agr n l a → (Instr.buildSlice t len (parts.map fun (i, x) => (i, a.eval x))).run P w = .ok (.slice (some ⟨w.heap.size, 0, none⟩) len len) (w.alloc (.cells cs.toArray e))) (hl : cs.length = len * sz) (hm : len ≤ maxLen) (hn : Nat.blt d n = true)
    (h : ∀ b, WL P n w0 M ops Q rest ((d, .slice (some ⟨b, 0, none⟩) len len) :: l) (.row (.slice (some ⟨b, 0, none⟩) len len) e sz len cs :: H)) :
    WL P n w0 M ops Q ({ dst := some d, op := .buildSlice t len parts, type := ty, pos := pos, after := af, guard := none } :: rest) l H :=
  wl_w (fun a w ha hw => by
    have hw2 := hw.alloc (.cells cs.toArray e)
    refine ⟨_, w.alloc (.cells cs.toArray e), .row (.slice (some ⟨w.heap.size, 0, none⟩) len len) e sz len cs :: H, by simp [execOp, hrun a w ha], ?_, h w.heap.size⟩
    refine ⟨hw2.os, hw2.tape, hw2.output, hw2.size, hw2.old, ?_, ?_, ?_⟩
    · intro en he
      rcases List.mem_cons.1 he with rfl | he
      · refine ⟨hl, .inr ⟨w.heap.size, len, cs.toArray, rfl, Nat.zero_le _, heap_alloc_new w _, Nat.le_refl _, hm, by simpa using hl, ?_⟩⟩
        rw [← hl]; simp
      · exact hw2.has en (by simp [he])
    · intro en he k hk
      rcases List.mem_cons.1 he with rfl | he
      · exact hw2.own (.blk w.heap.size (.cells cs.toArray e)) (by simp) k (by simpa [Ent.foot, Value.ownBlock] using hk)
      · exact hw2.own en (by simp [he]) k hk
    · have hd := List.pairwise_cons.1 hw2.dis
      refine List.pairwise_cons.2 ⟨fun en he k hk => hd.1 en he k (by simpa [Ent.foot, Value.ownBlock] using hk), hd.2⟩) hn
end
/-! ### slices of strings -/
def strv (s : List UInt8) : List Value := [.string (B s)]
abbrev StrsR (w : World) (v : Value) (ss : List (List UInt8)) : Prop := SlR 1 w v (ss.map strv)
/-- string i of a list -/
def sat (ss : List (List UInt8)) (i : Int) : List UInt8 := (ss[i.toNat]?).getD []
theorem sat_at {ss : List (List UInt8)} {i : Int} (h0 : 0 ≤ i) (h1 : i < ss.length) : (ss.map strv)[i.toNat]? = some (strv (sat ss i)) := by
  have : i.toNat < ss.length := by omega
  simp [sat, this]
end Go.Proofs.YtjkdkmcklocmnaaGreatDoor
