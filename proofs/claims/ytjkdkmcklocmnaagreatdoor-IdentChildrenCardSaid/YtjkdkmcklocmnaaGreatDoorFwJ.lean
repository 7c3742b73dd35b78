/-
  Quotients and remainders. Plain theorems over any program; no condition.
-/
import Derived.Test.YtjkdkmcklocmnaaGreatDoorFwC
namespace Go.Proofs.YtjkdkmcklocmnaaGreatDoor
open Go Go.RowKit
set_option linter.unusedVariables false
section
variable {P : Program} {n : Nat} {w0 : World} {M : List Nat} {l : Fr} {H : List Ent} {d : Option Nat} {x y : Operand} {ty t t' : TypeId} {pos : String} {af : Array Edge} {g : Option (Nat × Bool)} {k : IntKind} {p q z : Int}
theorem o_quo (hx : ev l x = some (.int k p)) (hy : ev l y = some (.int k q)) (hq : q ≠ 0) (hz : k.wrap (p.tdiv q) = z) : ORun P n w0 M l H { dst := d, op := .binOp .quo t x y t', type := ty, pos := pos, after := af, guard := g } (.int k z) := fun a w ha _ => by
  simp [execOp, ha.eval hx, ha.eval hy, eqGuard_int, binOp, Op.intDiv, hq, hz]
theorem o_rem (hx : ev l x = some (.int k p)) (hy : ev l y = some (.int k q)) (hq : q ≠ 0) : ORun P n w0 M l H { dst := d, op := .binOp .rem t x y t', type := ty, pos := pos, after := af, guard := g } (.int k (p.tmod q)) := fun a w ha _ => by
  simp [execOp, ha.eval hx, ha.eval hy, eqGuard_int, binOp, Op.intDiv, hq]
end
theorem tdiv10_bd {m : Int} (h0 : -9223372036854775808 ≤ m) (h1 : m ≤ 9223372036854775807) : -9223372036854775808 ≤ m.tdiv 10 ∧ m.tdiv 10 ≤ 9223372036854775807 := by
  have e : m.tdiv 10 = if 0 ≤ m then m / 10 else -((-m) / 10) := by
    split
    · rename_i h; exact Int.tdiv_eq_ediv_of_nonneg h
    · rename_i h
      have := Int.tdiv_eq_ediv_of_nonneg (a := -m) (b := 10) (by omega)
      rw [Int.neg_tdiv] at this; omega
  rw [e]; split <;> omega
theorem tmod10_bd (m : Int) : -10 < m.tmod 10 ∧ m.tmod 10 < 10 := by
  by_cases h : 0 ≤ m
  · have := Int.tmod_eq_emod_of_nonneg (a := m) (b := 10) h
    omega
  · have := Int.tmod_eq_emod_of_nonneg (a := -m) (b := 10) (by omega)
    rw [Int.neg_tmod] at this; omega
end Go.Proofs.YtjkdkmcklocmnaaGreatDoor
