/-
  What the plain operations yield. Plain theorems over any program; no condition.
-/
import Derived.Test.YtjkdkmcklocmnaaGreatDoorFwA
import Derived.Lib.Strings
namespace Go.Proofs.YtjkdkmcklocmnaaGreatDoor
open Go Go.RowKit
set_option linter.unusedVariables false

/-- A text of bytes. -/
def B (l : List UInt8) : ByteArray := ⟨l.toArray⟩
theorem B_toList (l : List UInt8) : (B l).toList = l := by
  rw [Go.ByteArray.toList_eq]; rfl
theorem B_size (l : List UInt8) : (B l).size = l.length := by simp [B, ByteArray.size]
theorem B_of (s : ByteArray) : s = B s.data.toList := by cases s; simp [B]
theorem fs {a b : List UInt8} (h : a = b) : some (Value.string (B a)) = some (Value.string (B b)) := by rw [h]
theorem B_append (p q : List UInt8) : B p ++ B q = B (p ++ q) := by
  apply ByteArray.ext; simp [B, ByteArray.data_append]
theorem B_extract (l : List UInt8) (i j : Nat) : (B l).extract i j = B ((l.drop i).take (j - i)) := by
  rw [Lib.extract_eq]; rfl
theorem B_get (l : List UInt8) (i : Nat) : (B l)[i]? = l[i]? := by
  by_cases h : i < (B l).size
  · have h' : i < l.length := by rw [B_size] at h; exact h
    rw [Go.ByteArray.getElem?_lt' _ _ h, List.getElem?_eq_getElem h']
    rfl
  · have h' : ¬ i < l.length := by rw [B_size] at h; exact h
    rw [Go.ByteArray.getElem?_ge' _ _ h, List.getElem?_eq_none (by omega)]

section
variable {P : Program} {n : Nat} {w0 : World} {M : List Nat} {l : Fr} {H : List Ent} {d : Option Nat} {x y c : Operand} {ty t t' : TypeId} {pos : String} {af : Array Edge} {g : Option (Nat × Bool)} {v u : Value}
theorem o_move (h : ev l x = some v) : ORun P n w0 M l H { dst := d, op := .move x, type := ty, pos := pos, after := af, guard := g } v := fun a w ha _ => by
  simp [execOp, ha.eval h]
theorem o_assign (h : ev l x = some v) : ORun P n w0 M l H { dst := d, op := .assign x, type := ty, pos := pos, after := af, guard := g } v := fun a w ha _ => by
  simp [execOp, ha.eval h]
theorem o_pick_t {b : Bool} (hc : ev l c = some (.bool b)) (hb : b = true) (h : ev l x = some v) : ORun P n w0 M l H { dst := d, op := .pick c x y, type := ty, pos := pos, after := af, guard := g } v := fun a w ha _ => by
  subst hb; simp [execOp, ha.eval h, ha.eval hc, asBool]
theorem o_pick_f {b : Bool} (hc : ev l c = some (.bool b)) (hb : b = false) (h : ev l y = some v) : ORun P n w0 M l H { dst := d, op := .pick c x y, type := ty, pos := pos, after := af, guard := g } v := fun a w ha _ => by
  subst hb; simp [execOp, ha.eval h, ha.eval hc, asBool]
theorem o_extract {vs : Array Value} {i : Nat} (h : ev l x = some (.tuple vs)) (hi : vs[i]? = some v) : ORun P n w0 M l H { dst := d, op := .extract x i, type := ty, pos := pos, after := af, guard := g } v := fun a w ha _ => by
  simp [execOp, ha.eval h, Instr.extract, hi]
theorem o_not {b : Bool} (h : ev l x = some (.bool b)) : ORun P n w0 M l H { dst := d, op := .unOp .not t x, type := ty, pos := pos, after := af, guard := g } (.bool (!b)) := fun a w ha _ => by
  simp [execOp, ha.eval h, Op.unary]
theorem o_neg {k : IntKind} {m z : Int} (h : ev l x = some (.int k m)) (hz : k.wrap (-m) = z) : ORun P n w0 M l H { dst := d, op := .unOp .neg t x, type := ty, pos := pos, after := af, guard := g } (.int k z) := fun a w ha _ => by
  simp [execOp, ha.eval h, Op.unary, Op.intArith, hz]

theorem eqGuard_int (op : BinOp) (k k' : IntKind) (p q : Int) (w : World) : (eqGuard op t x y (.int k p) (.int k' q)).run P w = .ok () w := by
  unfold eqGuard; split <;> simp
theorem eqGuard_str (op : BinOp) (p q : ByteArray) (w : World) : (eqGuard op t x y (.string p) (.string q)).run P w = .ok () w := by
  unfold eqGuard; split <;> simp
theorem eqGuard_bool (op : BinOp) (p q : Bool) (w : World) : (eqGuard op t x y (.bool p) (.bool q)).run P w = .ok () w := by
  unfold eqGuard; split <;> simp
section
variable {k : IntKind} {p q z : Int} (hx : ev l x = some (.int k p)) (hy : ev l y = some (.int k q))
include hx hy
theorem o_add (hz : k.wrap (p + q) = z) : ORun P n w0 M l H { dst := d, op := .binOp .add t x y t', type := ty, pos := pos, after := af, guard := g } (.int k z) := fun a w ha _ => by
  simp [execOp, ha.eval hx, ha.eval hy, eqGuard_int, binOp, Op.intArith, hz]
theorem o_sub (hz : k.wrap (p - q) = z) : ORun P n w0 M l H { dst := d, op := .binOp .sub t x y t', type := ty, pos := pos, after := af, guard := g } (.int k z) := fun a w ha _ => by
  simp [execOp, ha.eval hx, ha.eval hy, eqGuard_int, binOp, Op.intArith, hz]
theorem o_mul (hz : k.wrap (p * q) = z) : ORun P n w0 M l H { dst := d, op := .binOp .mul t x y t', type := ty, pos := pos, after := af, guard := g } (.int k z) := fun a w ha _ => by
  simp [execOp, ha.eval hx, ha.eval hy, eqGuard_int, binOp, Op.intArith, hz]
theorem o_lt : ORun P n w0 M l H { dst := d, op := .binOp .lss t x y t', type := ty, pos := pos, after := af, guard := g } (.bool (decide (p < q))) := fun a w ha _ => by
  simp [execOp, ha.eval hx, ha.eval hy, eqGuard_int, binOp, Op.intCmp]
theorem o_le : ORun P n w0 M l H { dst := d, op := .binOp .leq t x y t', type := ty, pos := pos, after := af, guard := g } (.bool (decide (p ≤ q))) := fun a w ha _ => by
  simp [execOp, ha.eval hx, ha.eval hy, eqGuard_int, binOp, Op.intCmp]
theorem o_gt : ORun P n w0 M l H { dst := d, op := .binOp .gtr t x y t', type := ty, pos := pos, after := af, guard := g } (.bool (decide (q < p))) := fun a w ha _ => by
  simp [execOp, ha.eval hx, ha.eval hy, eqGuard_int, binOp, Op.intCmp]
theorem o_ge : ORun P n w0 M l H { dst := d, op := .binOp .geq t x y t', type := ty, pos := pos, after := af, guard := g } (.bool (decide (q ≤ p))) := fun a w ha _ => by
  simp [execOp, ha.eval hx, ha.eval hy, eqGuard_int, binOp, Op.intCmp]
theorem o_eq : ORun P n w0 M l H { dst := d, op := .binOp .eql t x y t', type := ty, pos := pos, after := af, guard := g } (.bool (decide (p = q))) := fun a w ha _ => by
  have e : (p == q) = decide (p = q) := by rw [Bool.eq_iff_iff]; simp
  simp [execOp, ha.eval hx, ha.eval hy, eqGuard_int, binOp, Op.intCmp, e]
theorem o_ne : ORun P n w0 M l H { dst := d, op := .binOp .neq t x y t', type := ty, pos := pos, after := af, guard := g } (.bool (!decide (p = q))) := fun a w ha _ => by
  have e : (p != q) = !decide (p = q) := by rw [Bool.eq_iff_iff]; simp
  simp [execOp, ha.eval hx, ha.eval hy, eqGuard_int, binOp, Op.intCmp, e]
end
section
variable {p q : List UInt8} (hx : ev l x = some (.string (B p))) (hy : ev l y = some (.string (B q)))
include hx hy
theorem o_sadd (hz : p.length + q.length ≤ 9223372036854775807) : ORun P n w0 M l H { dst := d, op := .binOp .add t x y t', type := ty, pos := pos, after := af, guard := g } (.string (B (p ++ q))) := fun a w ha _ => by
  have : ¬ ((((B p).size + (B q).size : Nat) : Int) > IntKind.i64.max) := by rw [B_size, B_size]; simp [IntKind.max, IntKind.signed, IntKind.bits]; omega
  simp only [execOp, ha.eval hx, ha.eval hy, Sem.run_bind, eqGuard_str, binOp, Op.stringOp, this, if_false, B_append]
  simp
theorem o_slt : ORun P n w0 M l H { dst := d, op := .binOp .lss t x y t', type := ty, pos := pos, after := af, guard := g } (.bool (Op.bytesLess p q)) := fun a w ha _ => by
  simp [execOp, ha.eval hx, ha.eval hy, eqGuard_str, binOp, Op.stringOp, B_toList]
theorem o_sle : ORun P n w0 M l H { dst := d, op := .binOp .leq t x y t', type := ty, pos := pos, after := af, guard := g } (.bool (Op.bytesLess p q || decide (p = q))) := fun a w ha _ => by
  have e : (p == q) = decide (p = q) := by rw [Bool.eq_iff_iff]; simp
  simp [execOp, ha.eval hx, ha.eval hy, eqGuard_str, binOp, Op.stringOp, B_toList, e]
theorem o_sgt : ORun P n w0 M l H { dst := d, op := .binOp .gtr t x y t', type := ty, pos := pos, after := af, guard := g } (.bool (!(Op.bytesLess p q || decide (p = q)))) := fun a w ha _ => by
  have e : (p == q) = decide (p = q) := by rw [Bool.eq_iff_iff]; simp
  simp [execOp, ha.eval hx, ha.eval hy, eqGuard_str, binOp, Op.stringOp, B_toList, e]
theorem o_sge : ORun P n w0 M l H { dst := d, op := .binOp .geq t x y t', type := ty, pos := pos, after := af, guard := g } (.bool (!Op.bytesLess p q)) := fun a w ha _ => by
  simp [execOp, ha.eval hx, ha.eval hy, eqGuard_str, binOp, Op.stringOp, B_toList]
theorem o_seq : ORun P n w0 M l H { dst := d, op := .binOp .eql t x y t', type := ty, pos := pos, after := af, guard := g } (.bool (decide (p = q))) := fun a w ha _ => by
  have e : (p == q) = decide (p = q) := by rw [Bool.eq_iff_iff]; simp
  simp [execOp, ha.eval hx, ha.eval hy, eqGuard_str, binOp, Op.stringOp, B_toList, e]
theorem o_sne : ORun P n w0 M l H { dst := d, op := .binOp .neq t x y t', type := ty, pos := pos, after := af, guard := g } (.bool (!decide (p = q))) := fun a w ha _ => by
  have e : (p == q) = decide (p = q) := by rw [Bool.eq_iff_iff]; simp
  simp [execOp, ha.eval hx, ha.eval hy, eqGuard_str, binOp, Op.stringOp, B_toList, e]
end
theorem o_beq {p q : Bool} (ht : P.underlying t = some .bool) (hx : ev l x = some (.bool p)) (hy : ev l y = some (.bool q)) : ORun P n w0 M l H { dst := d, op := .binOp .eql t x y t', type := ty, pos := pos, after := af, guard := g } (.bool (p == q)) := fun a w ha _ => by
  have h1 : ∀ dd : Nat, (Op.equalIn (dd + 1) t (.bool p) (.bool q)).run P w = .ok (p == q) w := fun dd => by simp [Op.equalIn, run_underlying ht]
  have h2 : (Op.equal t (.bool p) (.bool q)).run P w = .ok (p == q) w := h1 9999
  simp only [execOp, ha.eval hx, ha.eval hy, Sem.run_bind, eqGuard_bool, Result.andThen_ok, binOp, h2, Sem.run_pure]
theorem o_bne {p q : Bool} (ht : P.underlying t = some .bool) (hx : ev l x = some (.bool p)) (hy : ev l y = some (.bool q)) : ORun P n w0 M l H { dst := d, op := .binOp .neq t x y t', type := ty, pos := pos, after := af, guard := g } (.bool (!(p == q))) := fun a w ha _ => by
  have h1 : ∀ dd : Nat, (Op.equalIn (dd + 1) t (.bool p) (.bool q)).run P w = .ok (p == q) w := fun dd => by simp [Op.equalIn, run_underlying ht]
  have h2 : (Op.equal t (.bool p) (.bool q)).run P w = .ok (p == q) w := h1 9999
  simp only [execOp, ha.eval hx, ha.eval hy, Sem.run_bind, eqGuard_bool, Result.andThen_ok, binOp, h2, Sem.run_pure]
theorem o_conv_int {k k' : IntKind} {m z : Int} (hs : ∃ s, P.underlying t = some s) (hd : P.underlying t' = some (.int k')) (h : ev l x = some (.int k m)) (hz : k'.wrap m = z) :
    ORun P n w0 M l H { dst := d, op := .convert t t' x, type := ty, pos := pos, after := af, guard := g } (.int k' z) := fun a w ha _ => by
  obtain ⟨s, hs⟩ := hs
  simp [execOp, ha.eval h, convert, run_underlying hs, run_underlying hd, Conv.intToInt, hz]
theorem o_len_s {p : List UInt8} (ht : P.underlying t = some .string) (h : ev l x = some (.string (B p))) : ORun P n w0 M l H { dst := d, op := .call { callee := .builtin .len, args := #[x], argTypes := #[t] }, type := ty, pos := pos, after := af, guard := g } (.int .i64 p.length) := fun a w ha _ => by
  simp [execOp, resolve, invoke, builtin, ha.eval h, Builtin.len_, run_underlying ht, goInt, B_size]
theorem o_len_sl {A : Option Addr} {m cp : Nat} {e : TypeId} (ht : P.underlying t = some (.slice e)) (h : ev l x = some (.slice A m cp)) : ORun P n w0 M l H { dst := d, op := .call { callee := .builtin .len, args := #[x], argTypes := #[t] }, type := ty, pos := pos, after := af, guard := g } (.int .i64 m) := fun a w ha _ => by
  simp [execOp, resolve, invoke, builtin, ha.eval h, Builtin.len_, run_underlying ht, goInt]
theorem o_index_s {p : List UInt8} {k : IntKind} {i : Int} {c : UInt8} (ht : P.underlying t = some .string) (h : ev l x = some (.string (B p))) (hi : ev l y = some (.int k i)) (h0 : 0 ≤ i) (hc : p[i.toNat]? = some c) :
    ORun P n w0 M l H { dst := d, op := .index t x y, type := ty, pos := pos, after := af, guard := g } (.int .u8 c.toNat) := fun a w ha _ => by
  simp [execOp, ha.eval h, ha.eval hi, Instr.index, asIntOf, run_underlying ht, h0, B_get, hc]
theorem asIntOf_int (k : IntKind) (i : Int) (w : World) : (asIntOf (.int k i)).run P w = .ok (k, i) w := by simp [asIntOf]
theorem run_sliceBound {k : IntKind} {i : Int} {m : Nat} (code : BoundsCode) (w : World) (h0 : 0 ≤ i) (h1 : i ≤ m) : (Instr.sliceBound (.int k i) m code).run P w = .ok i.toNat w := by
  simp [Instr.sliceBound, asIntOf, h0, h1]
theorem o_slice_lo {p : List UInt8} {k : IntKind} {i : Int} (ht : P.underlying t = some .string) (h : ev l x = some (.string (B p))) (hi : ev l y = some (.int k i)) (h0 : 0 ≤ i) (h1 : i ≤ p.length) :
    ORun P n w0 M l H { dst := d, op := .slice t x (some y) none none, type := ty, pos := pos, after := af, guard := g } (.string (B (p.drop i.toNat))) := fun a w ha _ => by
  have e : List.take ((B p).size - i.toNat) (List.drop i.toNat p) = List.drop i.toNat p := by rw [List.take_of_length_le]; simp [B_size]
  simp [execOp, ha.eval h, ha.eval hi, Instr.sliceAt, Instr.slice, run_underlying ht, Instr.sliceBounds, run_sliceBound (m := (B p).size) _ _ h0 (by rw [B_size]; exact h1), B_extract, e]
theorem o_slice_hi {p : List UInt8} {k : IntKind} {i : Int} (ht : P.underlying t = some .string) (h : ev l x = some (.string (B p))) (hi : ev l y = some (.int k i)) (h0 : 0 ≤ i) (h1 : i ≤ p.length) :
    ORun P n w0 M l H { dst := d, op := .slice t x none (some y) none, type := ty, pos := pos, after := af, guard := g } (.string (B (p.take i.toNat))) := fun a w ha _ => by
  simp [execOp, ha.eval h, ha.eval hi, Instr.sliceAt, Instr.slice, run_underlying ht, Instr.sliceBounds, run_sliceBound (m := (B p).size) _ _ h0 (by rw [B_size]; exact h1), B_extract]
theorem o_slice_lh {p : List UInt8} {k k' : IntKind} {i j : Int} (ht : P.underlying t = some .string) (h : ev l x = some (.string (B p))) (hi : ev l y = some (.int k i)) (hj : ev l c = some (.int k' j)) (h0 : 0 ≤ i) (h1 : i ≤ j) (h2 : j ≤ p.length) :
    ORun P n w0 M l H { dst := d, op := .slice t x (some y) (some c) none, type := ty, pos := pos, after := af, guard := g } (.string (B ((p.drop i.toNat).take (j.toNat - i.toNat)))) := fun a w ha _ => by
  have hj0 : 0 ≤ j := by omega
  simp [execOp, ha.eval h, ha.eval hi, ha.eval hj, Instr.sliceAt, Instr.slice, run_underlying ht, Instr.sliceBounds, run_sliceBound (m := (B p).size) _ _ hj0 (by rw [B_size]; exact h2), run_sliceBound (m := j.toNat) _ _ h0 (by omega), B_extract]
end
end Go.Proofs.YtjkdkmcklocmnaaGreatDoor
