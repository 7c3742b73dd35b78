/-
  The door of a function, its ends, and calls. Plain theorems over any program; no condition.
-/
import Derived.Test.YtjkdkmcklocmnaaGreatDoorFwC
namespace Go.Proofs.YtjkdkmcklocmnaaGreatDoor
open Go Go.RowKit
set_option linter.unusedVariables false

def argFr : Nat → List Value → Fr
  | _, [] => []
  | i, v :: r => (i, v) :: argFr (i + 1) r
theorem look_argFr : ∀ (args : List Value) (k i : Nat) (v : Value), look (argFr k args) i = some v → k ≤ i ∧ args[i - k]? = some v
  | [], k, i, v, h => by simp [argFr, look] at h
  | u :: r, k, i, v, h => by
    rw [argFr, look_cons] at h
    split at h
    · rename_i e; subst e; simp at h; subst h; simp
    · rename_i e
      have := look_argFr r (k + 1) i v h
      refine ⟨by omega, ?_⟩
      rw [show i - k = (i - (k + 1)) + 1 from by omega]
      simpa using this.2

section
variable {P : Program} {n : Nat} {w0 w : World} {M : List Nat} {ops : Array Oper} {Q : Exit → Act → World → Prop} {rest : List Oper} {l l' : Fr} {H H' : List Ent} {d : Nat} {ty t : TypeId} {pos : String} {af : Array Edge} {v u : Value}
theorem enterM {f : FuncId} {fn : Func} {c : Code} {args : List Value} {R : Ending → World → Prop} (hf : P.funcs[f]? = some fn) (hb : fn.body = some c) (hn : fn.ntmps = n) (hle : Nat.ble args.length n = true)
    (hw : St w0 M H w) (h : WC P n w0 M c (bodyPost P fn R) (argFr 0 args) H) : Calls P f args.toArray w R := by
  have hle' : args.length ≤ n := by simpa using hle
  refine calls_of_wp hf hb (h _ w ⟨?_, rfl, fun i v hi => ?_⟩ hw)
  · simp [hn]; omega
  · have := (look_argFr args 0 i v hi).2
    simp only [Nat.sub_zero] at this
    have hlt : i < args.length := (List.getElem?_eq_some_iff.1 this).1
    rw [Array.getElem?_append_left (by simpa using hlt)]
    simpa using this
theorem enter0 {f : FuncId} {fn : Func} {c : Code} {args : List Value} {R : Ending → World → Prop} (hf : P.funcs[f]? = some fn) (hb : fn.body = some c) (hn : fn.ntmps = n) (hle : Nat.ble args.length n = true)
    (h : WC P n w [] c (bodyPost P fn R) (argFr 0 args) []) : Calls P f args.toArray w R := enterM hf hb hn hle (St.refl w []) h

/-! ### Ends -/
theorem wk_ret {fn : Func} {R : Ending → World → Prop} (hr : ∀ a w, Agr n l a → St w0 M H w → (results fn a.tmps).run P w = .ok v w) (h : ∀ w, St w0 M H w → R (.returned v) w) : WK n w0 M (bodyPost P fn R .ret) l H :=
  fun a w ha hw => ⟨ha.defers, v, hr a w ha hw, h w hw⟩
theorem wk_end {fn : Func} {R : Ending → World → Prop} (hr : ∀ a w, Agr n l a → St w0 M H w → (results fn a.tmps).run P w = .ok v w) (h : ∀ w, St w0 M H w → R (.returned v) w) : WK n w0 M (bodyPost P fn R .normal) l H :=
  fun a w ha hw => ⟨ha.defers, v, hr a w ha hw, h w hw⟩
theorem tmp_getD {a : Act} (ha : Agr n l a) {i : Nat} (h : look l i = some v) : a.tmps[i]?.getD undef = v := by
  rw [ha.tm i v h]; rfl
theorem r_0 {fn : Func} (hr : fn.results = #[]) : ∀ a w, Agr n l a → St w0 M H w → (results fn a.tmps).run P w = .ok (.tuple #[]) w := fun a w ha hw => by simp [results, hr]
theorem r_1 {fn : Func} {i : Nat} (hr : fn.results = #[.tmp i]) (h : look l i = some v) : ∀ a w, Agr n l a → St w0 M H w → (results fn a.tmps).run P w = .ok v w := fun a w ha hw => by
  have e := tmp_getD ha h
  simp [results, hr, e]
theorem r_2 {fn : Func} {i j : Nat} (hr : fn.results = #[.tmp i, .tmp j]) (h : look l i = some v) (h2 : look l j = some u) : ∀ a w, Agr n l a → St w0 M H w → (results fn a.tmps).run P w = .ok (.tuple #[v, u]) w := fun a w ha hw => by
  have e := tmp_getD ha h
  have e2 := tmp_getD ha h2
  simp [results, hr, e, e2]
theorem r_3 {fn : Func} {i j k : Nat} {u' : Value} (hr : fn.results = #[.tmp i, .tmp j, .tmp k]) (h : look l i = some v) (h2 : look l j = some u) (h3 : look l k = some u') : ∀ a w, Agr n l a → St w0 M H w → (results fn a.tmps).run P w = .ok (.tuple #[v, u, u']) w := fun a w ha hw => by
  have e := tmp_getD ha h
  have e2 := tmp_getD ha h2
  have e3 := tmp_getD ha h3
  simp [results, hr, e, e2, e3]
theorem r_4 {fn : Func} {i j k m : Nat} {u' u'' : Value} (hr : fn.results = #[.tmp i, .tmp j, .tmp k, .tmp m]) (h : look l i = some v) (h2 : look l j = some u) (h3 : look l k = some u') (h4 : look l m = some u'') : ∀ a w, Agr n l a → St w0 M H w → (results fn a.tmps).run P w = .ok (.tuple #[v, u, u', u'']) w := fun a w ha hw => by
  have e := tmp_getD ha h
  have e2 := tmp_getD ha h2
  have e3 := tmp_getD ha h3
  have e4 := tmp_getD ha h4
  simp [results, hr, e, e2, e3, e4]
/-- the call returns v and has turned nothing -/
theorem retv (e : v = u) : ∀ w, St w0 [] H w → RetV w0 u (.returned v) w := fun w hw => ⟨by rw [e], hw.sub (List.nil_sublist _)⟩

/-! ### Calls of functions by name -/
theorem run_callee {f : FuncId} {args : Array Operand} {ats : Array TypeId} {o : Oper} {a : Act} {vs : List Value} (ho : o.op = .call { callee := .value (.func f), args := args, argTypes := ats })
    (hcall : ∀ (as : Array Value) (w : World), (callFunc f as).run P w = .ok (.enter f as) w) (hv : (args.map a.eval) = vs.toArray) (w : World) : (execOp a.eval o).run P w = .ok (.enter f vs.toArray) w := by
  simp [execOp, ho, resolve, Act.eval, Deferred.ofValue, invoke, hv, hcall]
def evs (l : Fr) : List Operand → Option (List Value)
  | [] => some []
  | x :: r => match ev l x, evs l r with
    | some v, some vs => some (v :: vs)
    | _, _ => none
theorem evs_map {a : Act} (ha : Agr n l a) : ∀ {xs : List Operand} {vs : List Value}, evs l xs = some vs → xs.map a.eval = vs
  | [], vs, h => by simp [evs] at h; subst h; rfl
  | x :: r, vs, h => by
    simp only [evs] at h
    split at h
    · rename_i v vs' h1 h2
      simp at h; subst h
      simp [ha.eval h1, evs_map ha h2]
    · cases h
/-- the callee returns u whatever was there before, and turns nothing -/
theorem w_call {f : FuncId} {args : List Operand} {ats : Array TypeId} {vs : List Value} (hcall : ∀ (as : Array Value) (w : World), (callFunc f as).run P w = .ok (.enter f as) w) (hv : evs l args = some vs)
    (hc : ∀ w, St w0 M H w → Calls P f vs.toArray w (RetV w u)) (hn : Nat.blt d n = true) (h : WL P n w0 M ops Q rest ((d, u) :: l) H) :
    WL P n w0 M ops Q ({ dst := some d, op := .call { callee := .value (.func f), args := args.toArray, argTypes := ats }, type := ty, pos := pos, after := af, guard := none } :: rest) l H :=
  wl_call (fun a w ha hw => run_callee rfl hcall (by simp [evs_map ha hv]) w) (fun w hw => (hc w hw).mono fun e w' ⟨he, hs⟩ => ⟨u, H, he, by simpa using hw.call0 hs, h⟩) hn
/-- the callee hands back memory of its own -/
theorem w_callM {f : FuncId} {args : List Operand} {ats : Array TypeId} {vs : List Value} {Φ : Value → List Ent → Prop} (hcall : ∀ (as : Array Value) (w : World), (callFunc f as).run P w = .ok (.enter f as) w) (hv : evs l args = some vs)
    (hc : ∀ w, St w0 M H w → Calls P f vs.toArray w (Ret w [] Φ)) (hn : Nat.blt d n = true) (h : ∀ u Ho, Φ u Ho → WL P n w0 M ops Q rest ((d, u) :: l) (Ho ++ H)) :
    WL P n w0 M ops Q ({ dst := some d, op := .call { callee := .value (.func f), args := args.toArray, argTypes := ats }, type := ty, pos := pos, after := af, guard := none } :: rest) l H :=
  wl_call (fun a w ha hw => run_callee rfl hcall (by simp [evs_map ha hv]) w) (fun w hw => (hc w hw).mono fun e w' ⟨v, Ho, he, hs, hf⟩ => ⟨v, Ho ++ H, he, hw.call0 hs, h v Ho hf⟩) hn
end
end Go.Proofs.YtjkdkmcklocmnaaGreatDoor
