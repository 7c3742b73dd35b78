/-
  Operations on memory. Plain theorems over any program; no condition.
-/
import Derived.Test.YtjkdkmcklocmnaaGreatDoorFwB
namespace Go.Proofs.YtjkdkmcklocmnaaGreatDoor
open Go Go.RowKit
set_option linter.unusedVariables false

theorem addm (b o j : Nat) : (⟨b, o, none⟩ : Addr).add j = ⟨b, o + j, none⟩ := by unfold Addr.add; split <;> simp_all

section
variable {P : Program} {n : Nat} {w0 : World} {M : List Nat} {ops : Array Oper} {Q : Exit → Act → World → Prop} {rest : List Oper} {l : Fr} {H H' : List Ent} {d : Nat} {x y c : Operand} {ty t t' e : TypeId} {pos : String} {af : Array Edge} {g : Option (Nat × Bool)} {v u : Value}
theorem St.ent {w : World} (h : St w0 M H w) {i : Nat} {en : Ent} (hi : H[i]? = some en) : en.holds w := h.has en (List.mem_of_getElem? hi)

/-! ### New blocks -/
theorem w_alloc {z : Value} {cs : Array Value} (hz : ∀ w, (zeroValue e).run P w = .ok z w) (hcs : z.cells = cs) (hn : Nat.blt d n = true)
    (h : ∀ b, WL P n w0 M ops Q rest ((d, .pointer (some ⟨b, 0, none⟩)) :: l) (.blk b (.cells cs e (0, 0)) :: H)) :
    WL P n w0 M ops Q ({ dst := some d, op := .alloc e, type := ty, pos := pos, after := af, guard := none } :: rest) l H :=
  wl_w (fun a w ha hw => ⟨_, w.alloc (.cells cs e), _, by subst hcs; simp [execOp, Instr.alloc, hz, newVar, newRow, newObj, Sem.run, Sem.run_bind], hw.alloc _, h w.heap.size⟩) hn
theorem w_box {cs : Array Value} (hx : ev l x = some v) (hcs : v.cells = cs) (hn : Nat.blt d n = true)
    (h : ∀ b, WL P n w0 M ops Q rest ((d, .pointer (some ⟨b, 0, none⟩)) :: l) (.blk b (.cells cs e (0, 0)) :: H)) :
    WL P n w0 M ops Q ({ dst := some d, op := .box e x, type := ty, pos := pos, after := af, guard := none } :: rest) l H :=
  wl_w (fun a w ha hw => ⟨_, w.alloc (.cells cs e), _, by subst hcs; simp [execOp, ha.eval hx, Instr.box, newVar, newRow, newObj, Sem.run], hw.alloc _, h w.heap.size⟩) hn

/-! ### Loads and stores in blocks that are known -/
theorem cell_blk {w : World} {i b off : Nat} {cs : Array Value} {fz : Nat × Nat} (hw : St w0 M H w) (hi : H[i]? = some (.blk b (.cells cs e fz))) : w.cell? ⟨b, off, none⟩ = cs[off]? :=
  cell_of_row w b off cs e fz (hw.ent hi)
theorem o_load {i b off : Nat} {cs : Array Value} {fz : Nat × Nat} {dd : Option Nat} (hag : ∀ w, (isAgg t).run P w = .ok false w) (hx : ev l x = some (.pointer (some ⟨b, off, none⟩)))
    (hi : H[i]? = some (.blk b (.cells cs e fz))) (hc : cs[off]? = some v) : ORun P n w0 M l H { dst := dd, op := .load t x, type := ty, pos := pos, after := af, guard := g } v := fun a w ha hw => by
  simp [execOp, ha.eval hx, Instr.loadAt, Instr.sureAddr, loadVar, hag, cell_blk hw hi, hc]
theorem o_load_agg {i b off sz : Nat} {cs : Array Value} {fz : Nat × Nat} {dd : Option Nat} {r : List Value} (hag : ∀ w, (isAgg t).run P w = .ok true w) (hsz : ∀ w, (sizeOf t).run P w = .ok sz w)
    (hx : ev l x = some (.pointer (some ⟨b, off, none⟩))) (hi : H[i]? = some (.blk b (.cells cs e fz))) (hr : (cs.toList.drop off).take sz = r) (hl : r.length = sz) :
    ORun P n w0 M l H { dst := dd, op := .load t x, type := ty, pos := pos, after := af, guard := g } (.agg r.toArray) := fun a w ha hw => by
  have h1 := run_loadCells_list (P := P) w ⟨b, off, none⟩ r (fun j u hj => by
    rw [addm, cell_blk hw hi]
    subst hr
    rw [List.getElem?_take] at hj
    split at hj
    · simpa using hj
    · cases hj)
  rw [hl] at h1
  simp [execOp, ha.eval hx, Instr.loadAt, Instr.sureAddr, loadVar, hag, hsz, h1]
theorem St.setBlk {w : World} (h : St w0 M H w) {i b : Nat} {cs cs' : Array Value} (hi : H[i]? = some (.blk b (.cells cs e (0, 0)))) : St w0 M (H.set i (.blk b (.cells cs' e (0, 0)))) (w.setRow b cs') := by
  have hb : w.heap[b]? = some (.cells cs e (0, 0)) := h.ent hi
  refine h.set hi rfl rfl rfl (by simp [World.setRow]) (fun k _ hk => ?_) ?_ (by simp [Ent.foot])
  · simp only [Ent.foot, List.mem_singleton] at hk
    simp only [World.setRow, Array.getElem?_modify]
    rw [if_neg (fun e => hk e.symm)]
  · exact setRow_heap w b cs cs' e (0, 0) hb
theorem u_store {i b off : Nat} {cs cs' : Array Value} (hag : ∀ w, (sizeOf t).run P w = .ok 1 w) (hx : ev l x = some (.pointer (some ⟨b, off, none⟩))) (hy : ev l y = some v) (hv : v.oneCell' = true)
    (hi : H[i]? = some (.blk b (.cells cs e (0, 0)))) (hlt : Nat.blt off cs.size = true) (hcs : cs.setIfInBounds off v = cs') (hH : H.set i (.blk b (.cells cs' e (0, 0))) = H')
    (h : WL P n w0 M ops Q rest l H') : WL P n w0 M ops Q ({ dst := none, op := .store t x y, type := ty, pos := pos, after := af, guard := none } :: rest) l H :=
  wl_u fun a w ha hw => by
    have hb : w.heap[b]? = some (.cells cs e (0, 0)) := hw.ent hi
    have hlt' : off < cs.size := by simpa using hlt
    have h1 := run_storeCells_at P b off e [v] 0 cs w hb (by simp; omega) (by simpa using hv)
    have hcv : v.cells = #[v] := by cases v <;> first | rfl | simp [Value.oneCell'] at hv
    have h2 : (cs.toList.take off ++ [v] ++ cs.toList.drop (off + 1)).toArray = cs' := by
      subst hcs
      apply Array.ext'
      simp [Array.toList_setIfInBounds, List.set_eq_take_append_cons_drop, hlt']
    simp only [Nat.add_zero, List.length_cons, List.length_nil, Nat.zero_add] at h1
    rw [h2] at h1
    refine ⟨w.setRow b cs', H', ?_, ?_, h⟩
    · simp [execOp, ha.eval hx, ha.eval hy, Instr.storeAt, Instr.sureAddr, storeVar, hag, hcv, h1]
    · subst hH; exact hw.setBlk hi
theorem u_store_agg {i b off sz : Nat} {cs : Array Value} {r r' : List Value} (hsz : ∀ w, (sizeOf t).run P w = .ok sz w) (hx : ev l x = some (.pointer (some ⟨b, off, none⟩))) (hy : ev l y = some (.agg r.toArray))
    (hl : r.length = sz) (hv : r.all (·.oneCell') = true) (hi : H[i]? = some (.blk b (.cells cs e (0, 0)))) (hlt : off + sz ≤ cs.size)
    (hcs : cs.toList.take off ++ r ++ cs.toList.drop (off + sz) = r') (hH : H.set i (.blk b (.cells r'.toArray e (0, 0))) = H')
    (h : WL P n w0 M ops Q rest l H') : WL P n w0 M ops Q ({ dst := none, op := .store t x y, type := ty, pos := pos, after := af, guard := none } :: rest) l H :=
  wl_u fun a w ha hw => by
    have hb : w.heap[b]? = some (.cells cs e (0, 0)) := hw.ent hi
    have h1 := run_storeCells_at P b off e r 0 cs w hb (by omega) (by simpa [List.all_eq_true] using hv)
    simp only [Nat.add_zero, hl, hcs] at h1
    refine ⟨w.setRow b r'.toArray, H', ?_, ?_, h⟩
    · simp [execOp, ha.eval hx, ha.eval hy, Instr.storeAt, Instr.sureAddr, storeVar, hsz, Value.cells, hl, h1]
    · subst hH; exact hw.setBlk hi

/-! ### Addresses -/
theorem o_nilcheck {p : Addr} {dd : Option Nat} (hx : ev l x = some (.pointer (some p))) : ORun P n w0 M l H { dst := dd, op := .nilCheck x, type := ty, pos := pos, after := af, guard := g } (.pointer (some p)) := fun a w ha hw => by
  simp [execOp, ha.eval hx]
theorem o_fieldAddr {b off off' i sz : Nat} {fs : Array Field} {f : Field} {dd : Option Nat} (hu : P.underlying t = some (.struct fs)) (hf : fs[i]? = some f) (hsz : ∀ w, (sizeOf f.type).run P w = .ok (sz + 1) w)
    (hx : ev l x = some (.pointer (some ⟨b, off, none⟩))) (ho : off + f.offset = off') : ORun P n w0 M l H { dst := dd, op := .fieldAddr t x i, type := ty, pos := pos, after := af, guard := g } (.pointer (some ⟨b, off', none⟩)) := fun a w ha hw => by
  subst ho
  simp [execOp, ha.eval hx, Instr.fieldAt, run_underlying hu, hf, Instr.sureAddr, fieldPlace, hsz, addm]
end
end Go.Proofs.YtjkdkmcklocmnaaGreatDoor
