/-
  Bytes of a text; regions that draw their order and only read; entries without a body. Plain theorems over any program; no condition.
-/
import Derived.Test.YtjkdkmcklocmnaaGreatDoorFwE
import Derived.Lib.Bytealg
import Derived.Test.YtjkdkmcklocmnaaGreatDoorPlA
namespace Go.Proofs.YtjkdkmcklocmnaaGreatDoor
open Go Go.RowKit
set_option linter.unusedVariables false
section
variable {P : Program} {n : Nat} {w0 : World} {M : List Nat} {ops : Array Oper} {Q : Exit → Act → World → Prop} {rest : List Oper} {l : Fr} {H H' : List Ent} {x y c : Operand} {ty t t' e : TypeId} {pos : String} {af : Array Edge} {g : Option (Nat × Bool)} {v u : Value}
theorem o_index_b {d : Option Nat} {p : List UInt8} {k : IntKind} {i : Int} (ht : P.underlying t = some .string) (h : ev l x = some (.string (B p))) (hi : ev l y = some (.int k i)) (h0 : 0 ≤ i) (h1 : i < p.length) :
    ORun P n w0 M l H { dst := d, op := .index t x y, type := ty, pos := pos, after := af, guard := g } (.int .u8 (bat p i)) := by
  have hl : i.toNat < p.length := by omega
  have hc : p[i.toNat]? = some p[i.toNat] := List.getElem?_eq_getElem hl
  have e : bat p i = p[i.toNat].toNat := by simp [bat, hc]
  rw [e]
  exact o_index_s ht h hi h0 hc
theorem o_len_k {d : Option Nat} {p : List UInt8} {z : Int} (ht : P.underlying t = some .string) (h : ev l x = some (.string (B p))) (hz : (p.length : Int) = z) : ORun P n w0 M l H { dst := d, op := .call { callee := .builtin .len, args := #[x], argTypes := #[t] }, type := ty, pos := pos, after := af, guard := g } (.int .i64 z) := by
  subst hz; exact o_len_s ht h
/-- an entry that the model answers by itself -/
theorem o_ext {d : Option Nat} {f : FuncId} {args : List Operand} {ats : Array TypeId} {vs : List Value} (hv : evs l args = some vs) (hcall : ∀ w, (callFunc f vs.toArray).run P w = .ok (.value v) w) :
    ORun P n w0 M l H { dst := d, op := .call { callee := .value (.func f), args := args.toArray, argTypes := ats }, type := ty, pos := pos, after := af, guard := g } v := fun a w ha hw => by
  have e : (args.toArray.map a.eval) = vs.toArray := by simp [evs_map ha hv]
  simp only [execOp, resolve, Sem.run_bind, Sem.run_pure, Result.andThen_ok, e, Act.eval, Deferred.ofValue, invoke]
  simpa using hcall w
theorem indexByte_run {f : FuncId} {fn : Func} (hf : P.funcs[f]? = some fn) (hname : (fn.name == "runtime.NumGoroutine") = false) (hb : fn.body.isNone = true) (hn : Extern.findNext fn = none) (he : Extern.find fn = some Extern.BytealgIndexByte.indexByte)
    (p : List UInt8) (m : Int) (w : World) : (callFunc f [.string (B p), .int .u8 m].toArray).run P w = .ok (.value (.int .i64 (Lib.indexByte p m.toNat.toUInt8))) w := by
  rw [run_callFunc_extern hf hname hb hn he, Lib.run_indexByteString]
  rfl

/-- an interface value against nil -/
theorem o_if_ne {d : Option Nat} {ms : Array (String × TypeId)} {ti : TypeId} {u : Value} (ht : P.underlying t = some (.interface ms)) (hx : ev l x = some (.iface ti u)) :
    ORun P n w0 M l H { dst := d, op := .binOp .neq t x (.const .nilIface) t', type := ty, pos := pos, after := af, guard := g } (.bool true) := fun a w ha hw => by
  have h1 : ∀ dd : Nat, (Op.equalIn (dd + 1) t (.iface ti u) .nilIface).run P w = .ok false w := fun dd => by simp [Op.equalIn, run_underlying ht]
  have h2 : (Op.equal t (.iface ti u) .nilIface).run P w = .ok false w := h1 9999
  have h3 : (eqGuard .neq t x (.const .nilIface) (.iface ti u) .nilIface).run P w = .ok () w := by simp [eqGuard]
  have hy : a.eval (.const .nilIface) = .nilIface := rfl
  simp only [execOp, ha.eval hx, hy, Sem.run_bind, h3, Result.andThen_ok, binOp, h2, Sem.run_pure]
  rfl
theorem o_if_ne_nil {d : Option Nat} {ms : Array (String × TypeId)} (ht : P.underlying t = some (.interface ms)) (hx : ev l x = some .nilIface) :
    ORun P n w0 M l H { dst := d, op := .binOp .neq t x (.const .nilIface) t', type := ty, pos := pos, after := af, guard := g } (.bool false) := fun a w ha hw => by
  have h1 : ∀ dd : Nat, (Op.equalIn (dd + 1) t .nilIface .nilIface).run P w = .ok true w := fun dd => by simp [Op.equalIn, run_underlying ht]
  have h2 : (Op.equal t .nilIface .nilIface).run P w = .ok true w := h1 9999
  have h3 : (eqGuard .neq t x (.const .nilIface) .nilIface .nilIface).run P w = .ok () w := by simp [eqGuard]
  have hy : a.eval (.const .nilIface) = .nilIface := rfl
  simp only [execOp, ha.eval hx, hy, Sem.run_bind, h3, Result.andThen_ok, binOp, h2, Sem.run_pure]
  rfl

/-! ### Regions that draw their order: every operation leaves the world alone, or calls a function that turns nothing -/
variable (P n w0 M) in
def WQ (opsA : Array Oper) (K : Act → World → Prop) (rest : List Oper) (l : Fr) (H : List Ent) : Prop := ∀ a, Agr n l a → wpQuiet P opsA (St w0 M H) (fun a' => ∀ w', St w0 M H w' → K a' w') rest a
theorem wc_region_q {id : Nat} {ops : List Oper} (hm : P.follows .mixedOrders = true) (hB : Region.lexB .any ops.toArray = true) (h : WQ P n w0 M ops.toArray (Q .normal) ops l H) : WC P n w0 M (.region id ops.toArray true) Q l H := fun a w ha hw =>
  wp_region_quiet (C := St w0 M H) hm hB (hw.drawn _) (by simpa using h a ha)
variable {K : Act → World → Prop}
theorem wq_nil (h : WK n w0 M K l H) : WQ P n w0 M ops K [] l H := fun a ha w' hw => h a w' ha hw
theorem wq_v {d : Nat} {op : Op} (hr : ORun P n w0 M l H { dst := some d, op := op, type := ty, pos := pos, after := af, guard := none } v)
    (hn : Nat.blt d n = true) (h : WQ P n w0 M ops K rest ((d, v) :: l) H) : WQ P n w0 M ops K ({ dst := some d, op := op, type := ty, pos := pos, after := af, guard := none } :: rest) l H := fun a ha => by
  simp only [wpQuiet, Region.wanted, if_true]
  refine ⟨v, fun w hw => ?_, h _ (ha.put hn v)⟩
  unfold Oper.quietAt
  rw [hr a w ha hw]
  exact ⟨rfl, rfl⟩
theorem wq_on {d : Option Nat} {op : Op} {j dj : Nat} {want b : Bool} (hj : gslot ops j = some dj) (hv : look l dj = some (.bool b)) (hb : b = want)
    (h : WQ P n w0 M ops K ({ dst := d, op := op, type := ty, pos := pos, after := af, guard := none } :: rest) l H) :
    WQ P n w0 M ops K ({ dst := d, op := op, type := ty, pos := pos, after := af, guard := some (j, want) } :: rest) l H := fun a ha => by
  have h1 := h a ha
  have hy := yielded_bool ha hj hv
  subst hb
  simp only [wpQuiet, Region.wanted, hy, beq_self_eq_true, if_true] at h1 ⊢
  exact h1
theorem wq_off {d : Nat} {op : Op} {j dj : Nat} {want b : Bool} (hj : gslot ops j = some dj) (hv : look l dj = some (.bool b)) (hb : b = !want) (hn : Nat.blt d n = true)
    (h : WQ P n w0 M ops K rest ((d, undef) :: l) H) :
    WQ P n w0 M ops K ({ dst := some d, op := op, type := ty, pos := pos, after := af, guard := some (j, want) } :: rest) l H := fun a ha => by
  have hy := yielded_bool ha hj hv
  subst hb
  have e : ((some !want : Option Bool) == some want) = false := by cases want <;> rfl
  simp only [wpQuiet, Region.wanted, hy, e, Bool.false_eq_true, if_false]
  exact h _ (ha.put hn _)
theorem wq_off_u {d : Nat} {op : Op} {j dj : Nat} {want : Bool} (hj : gslot ops j = some dj) (hv : look l dj = some undef) (hn : Nat.blt d n = true)
    (h : WQ P n w0 M ops K rest ((d, undef) :: l) H) :
    WQ P n w0 M ops K ({ dst := some d, op := op, type := ty, pos := pos, after := af, guard := some (j, want) } :: rest) l H := fun a ha => by
  have hy := yielded_undef ha hj hv
  have e : ((none : Option Bool) == some want) = false := rfl
  simp only [wpQuiet, Region.wanted, hy, e, Bool.false_eq_true, if_false]
  exact h _ (ha.put hn _)
theorem wq_call {d : Nat} {f : FuncId} {args : List Operand} {ats : Array TypeId} {vs : List Value} (hcall : ∀ (as : Array Value) (w : World), (callFunc f as).run P w = .ok (.enter f as) w) (hv : evs l args = some vs)
    (hc : ∀ w, St w0 M H w → Calls P f vs.toArray w (RetV w u)) (hn : Nat.blt d n = true) (h : WQ P n w0 M ops K rest ((d, u) :: l) H) :
    WQ P n w0 M ops K ({ dst := some d, op := .call { callee := .value (.func f), args := args.toArray, argTypes := ats }, type := ty, pos := pos, after := af, guard := none } :: rest) l H := fun a ha => by
  simp only [wpQuiet, Region.wanted, if_true]
  refine ⟨u, fun w hw => ?_, h _ (ha.put hn u)⟩
  unfold Oper.quietAt
  rw [run_callee (vs := vs) rfl hcall (by simp [evs_map ha hv]) w]
  exact ⟨rfl, (hc w hw).mono fun e w' ⟨he, hs⟩ => ⟨he, by simpa using hw.call0 hs⟩⟩
end
end Go.Proofs.YtjkdkmcklocmnaaGreatDoor
