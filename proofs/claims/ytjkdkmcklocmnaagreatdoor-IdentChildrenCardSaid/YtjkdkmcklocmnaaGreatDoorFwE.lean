/-
  A string visited character by character. Plain theorems over any program; no condition.
-/
import Derived.Test.YtjkdkmcklocmnaaGreatDoorFwD
namespace Go.Proofs.YtjkdkmcklocmnaaGreatDoor
open Go Go.RowKit
set_option linter.unusedVariables false
theorem get_B (p : List UInt8) (i : Nat) (u : UInt8) (h : p[i]? = some u) : (B p).get! i = u := by
  have h' : i < p.length := (List.getElem?_eq_some_iff.1 h).1
  have h2 : p[i] = u := (List.getElem?_eq_some_iff.1 h).2
  subst h2
  show (B p).data[i]! = _
  simp [B, getElem!_pos, h']
theorem decode_lo (p : List UInt8) (i : Nat) (u : UInt8) (h : p[i]? = some u) (hu : u.toNat < 128) : Utf8.decode (B p) i = (u.toNat, 1) := by
  have e := get_B p i u h
  simp [Utf8.decode, e, hu]
theorem decode_hi (p : List UInt8) (i : Nat) (u : UInt8) (h : p[i]? = some u) (hu : 128 ≤ u.toNat) : 128 ≤ (Utf8.decode (B p) i).1 ∧ 1 ≤ (Utf8.decode (B p) i).2 := by
  have e := get_B p i u h
  simp only [Utf8.decode, Nat.add_zero, e]
  rw [if_neg (by omega)]
  split
  · split
    · exact ⟨by assumption, by simp⟩
    · exact ⟨by decide, by decide⟩
  · split
    · split
      · rename_i h1; simp at h1; exact ⟨by have := h1.1; simp only; omega, by simp⟩
      · exact ⟨by decide, by decide⟩
    · split
      · split
        · rename_i h1; simp at h1; exact ⟨by have := h1.1; simp only; omega, by simp⟩
        · exact ⟨by decide, by decide⟩
      · exact ⟨by decide, by decide⟩
section
variable {P : Program} {n : Nat} {w0 : World} {M : List Nat} {ops : Array Oper} {Q : Exit → Act → World → Prop} {rest : List Oper} {l : Fr} {H H' : List Ent} {d : Nat} {x y c : Operand} {ty t t' e : TypeId} {pos : String} {af : Array Edge} {g : Option (Nat × Bool)} {v u : Value}
theorem w_range_s {p : List UInt8} (hu : P.underlying t = some .string) (hx : ev l x = some (.string (B p))) (hn : Nat.blt d n = true)
    (h : ∀ b, WL P n w0 M ops Q rest ((d, .pointer (some ⟨b, 0, none⟩)) :: l) (.blk b (.stringIter (B p) 0) :: H)) :
    WL P n w0 M ops Q ({ dst := some d, op := .range t x, type := ty, pos := pos, after := af, guard := none } :: rest) l H :=
  wl_w (fun a w ha hw => ⟨_, w.alloc (.stringIter (B p) 0), _, by simp [execOp, ha.eval hx, Instr.range, run_underlying hu], hw.alloc _, h w.heap.size⟩) hn
theorem St.setObj {w : World} (h : St w0 M H w) {i b : Nat} {o o' : Obj} (hi : H[i]? = some (.blk b o)) : St w0 M (H.set i (.blk b o')) { w with heap := w.heap.setIfInBounds b o' } := by
  have hb : w.heap[b]? = some o := h.ent hi
  have hlt : b < w.heap.size := (Array.getElem?_eq_some_iff.1 hb).1
  refine h.set hi rfl rfl rfl (by simp) (fun k _ hk => ?_) ?_ (by simp [Ent.foot])
  · simp only [Ent.foot, List.mem_singleton] at hk
    simp only [Array.getElem?_setIfInBounds]
    rw [if_neg (fun e => hk e.symm)]
  · show (w.heap.setIfInBounds b o')[b]? = some o'
    simp [hlt]
theorem w_next_s {p : List UInt8} {i b k : Nat} (hx : ev l x = some (.pointer (some ⟨b, 0, none⟩))) (hi : H[i]? = some (.blk b (.stringIter (B p) k))) (hn : Nat.blt d n = true)
    (hend : p.length ≤ k → WL P n w0 M ops Q rest ((d, .tuple #[.bool false]) :: l) H)
    (hgo : ∀ (u : UInt8) (c wd : Nat), p[k]? = some u → (u.toNat < 128 → c = u.toNat ∧ wd = 1) → (128 ≤ u.toNat → 128 ≤ c) → 1 ≤ wd →
      WL P n w0 M ops Q rest ((d, .tuple #[.bool true, .int .i64 k, .int .i32 c]) :: l) (H.set i (.blk b (.stringIter (B p) (k + wd))))) :
    WL P n w0 M ops Q ({ dst := some d, op := .next x true, type := ty, pos := pos, after := af, guard := none } :: rest) l H :=
  wl_w (fun a w ha hw => by
    have hb : w.heap[b]? = some (.stringIter (B p) k) := hw.ent hi
    by_cases hlt : k < p.length
    · have hu : p[k]? = some p[k] := List.getElem?_eq_getElem hlt
      have hs : k < (B p).size := by rw [B_size]; exact hlt
      refine ⟨_, { w with heap := w.heap.setIfInBounds b (.stringIter (B p) (k + (Utf8.decode (B p) k).2)) }, _, ?_, hw.setObj hi, hgo p[k] (Utf8.decode (B p) k).1 (Utf8.decode (B p) k).2 hu ?_ ?_ ?_⟩
      · simp [execOp, ha.eval hx, Instr.next, getObj, setObj, Sem.run, hb, hs, goInt]
      · intro h; rw [decode_lo p k _ hu h]; exact ⟨rfl, rfl⟩
      · intro h; exact (decode_hi p k _ hu h).1
      · rcases Nat.lt_or_ge (p[k]).toNat 128 with h | h
        · rw [decode_lo p k _ hu h]; exact Nat.le_refl 1
        · exact (decode_hi p k _ hu h).2
    · have hs : ¬ k < (B p).size := by rw [B_size]; exact hlt
      exact ⟨_, w, H, by simp [execOp, ha.eval hx, Instr.next, getObj, Sem.run, hb, hs], hw, hend (by omega)⟩) hn
end
end Go.Proofs.YtjkdkmcklocmnaaGreatDoor
