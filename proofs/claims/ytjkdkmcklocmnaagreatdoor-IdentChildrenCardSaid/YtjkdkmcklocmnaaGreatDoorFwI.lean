/-
  Slices of strings: cloned, sorted, compacted, searched by the library, in the calculus's words.
-/
import Derived.Test.YtjkdkmcklocmnaaGreatDoorFwG
import Derived.Test.YtjkdkmcklocmnaaGreatDoorFwH
import Derived.Test.YtjkdkmcklocmnaaGreatDoorShelfS
import Derived.Sort.OwnSorted
import Derived.Lib.OwnBridge
import Derived.Lib.RowBridge
namespace Go.Proofs.YtjkdkmcklocmnaaGreatDoor
open Go Go.RowKit Go.Sort
set_option linter.unusedVariables false
set_option linter.unusedSimpArgs false
theorem flat_strv (ss : List (List UInt8)) : flat (ss.map strv) = ss.map encStr := by
  induction ss with
  | nil => rfl
  | cons s r ih => simp [flat, strv, B, encStr] at ih ⊢; exact ih
theorem strv_one (ss : List (List UInt8)) : ∀ c ∈ ss.map strv, c.length = 1 := by
  intro c hc
  obtain ⟨s, _, rfl⟩ := List.mem_map.1 hc
  rfl
theorem St.of_row {w w' : World} {e : TypeId} {sz n : Nat} {v : Value} {xs : List Value} (hb : Below w.heap.size w w') (h : w'.ownsRow w.heap.size e sz v n xs) : St w [] [.row v e sz n xs] w' := by
  have h0 := St.of_below hb
  refine ⟨h0.os, h0.tape, h0.output, h0.size, h0.old, ?_, ?_, by simp⟩
  · intro en he
    simp only [List.mem_singleton] at he; subst he
    refine ⟨h.1, ?_⟩
    rcases h.2 with hn | ⟨g, cap, cur, rfl, hb, rest⟩
    · exact .inl hn
    · exact .inr ⟨g, cap, cur, rfl, Nat.zero_le _, rest⟩
  · intro en he k hk
    simp only [List.mem_singleton] at he; subst he
    simp [Ent.foot, Option.mem_toList] at hk
    exact .inl (h.lt k hk).1
/-- a row of strings of one's own reads as a slice -/
theorem StrsR.of_row {w : World} {v : Value} {ss : List (List UInt8)} (h : (Ent.row v 9 1 ss.length (ss.map encStr)).holds w) : StrsR w v ss := by
  have h2 := SlR.of_row (sz := 1) (e := 9) (vs := ss.map strv) (w := w) (v := v) (by rw [flat_strv]; simpa using h) (strv_one ss)
  exact h2
theorem StrsR.cells {w : World} {v : Value} {ss : List (List UInt8)} (h : StrsR w v ss) : (∃ cap, v = .slice none 0 cap ∧ ss = []) ∨ (∃ a cap, v = .slice (some a) ss.length cap ∧ ss = []) ∨
    (∃ b off cap, v = .slice (some ⟨b, off, none⟩) ss.length cap ∧ ∀ j, j < ss.length → w.cell? ⟨b, off + j, none⟩ = some (.string ((ss.map B).getD j ByteArray.empty))) := by
  obtain ⟨A, cap, rfl, hc, hm, hi⟩ := h
  cases A with
  | none =>
    have : ss = [] := by
      cases ss with
      | nil => rfl
      | cons s r => obtain ⟨_, a, h, _⟩ := hi 0 (strv s) (by simp); cases h
    subst this
    exact .inl ⟨cap, rfl, rfl⟩
  | some a =>
    cases hs : ss with
    | nil => subst hs; exact .inr (.inl ⟨a, cap, rfl, rfl⟩)
    | cons s r =>
      obtain ⟨_, a', h, hsp, _, _⟩ := hi 0 (strv s) (by simp [hs])
      simp at h; subst h
      obtain ⟨b, off, spot⟩ := a
      simp only at hsp; subst hsp
      refine .inr (.inr ⟨b, off, cap, by simp [hs], fun j hj => ?_⟩)
      rw [← hs] at hj ⊢
      obtain ⟨_, a', h, _, _, hcell⟩ := hi j (strv ss[j]) (by simp [hj])
      simp at h; subst h
      have := hcell 0 _ rfl
      simpa [hj] using this
theorem clone_c (v : Value) (ss : List (List UInt8)) (hl : ss.length ≤ 8796093022208) (w : World) (h : StrsR w v ss) :
    Calls Tryz.prog 51 [v].toArray w (Ret w [] (fun u H => H = [.row u 9 1 ss.length (ss.map encStr)])) := by
  rcases h.cells with ⟨cap, rfl, rfl⟩ | ⟨a, cap, rfl, rfl⟩ | ⟨b, off, cap, rfl, hc⟩
  · refine (Tryz.slices_Clone_string_nil 0 cap w).mono fun e w' ⟨he, hw⟩ => ?_
    subst hw
    exact ⟨_, _, he, St.of_row (Below.refl _ _) ⟨rfl, .inl ⟨rfl, rfl⟩⟩, rfl⟩
  · refine (Tryz.slices_Clone_string_zero a cap w).mono fun e w' ⟨v', he, ho, _, hb⟩ => ?_
    exact ⟨_, _, he, St.of_row hb ho, rfl⟩
  · refine (Tryz.slices_Clone_string b off ss.length cap (ss.map B) w (by simp) (by omega) (fun j hj => hc j (by simpa using hj))).mono fun e w' ⟨v', he, ho, _, hb⟩ => ?_
    refine ⟨_, _, he, St.of_row hb ho, ?_⟩
    simp [List.take_of_length_le, B]
theorem sort_c (v : Value) (ss : List (List UInt8)) (hl : ss.length ≤ 8796093022208) (w : World) (h : (Ent.row v 9 1 ss.length (ss.map encStr)).holds w) :
    Calls Tryz.prog 52 [v].toArray w (Ret w (Ent.row v 9 1 ss.length (ss.map encStr)).foot (fun u H => u = .tuple #[] ∧ H = [.row v 9 1 (ss.mergeSort fun x y => decide (x ≤ y)).length ((ss.mergeSort fun x y => decide (x ≤ y)).map encStr)])) := by
  obtain ⟨h1, h2⟩ := h
  rcases h2 with ⟨rfl, hn⟩ | ⟨g, cap, cur, rfl, _, hg, hc, hm, hsz, ht⟩
  · have : ss = [] := List.eq_nil_of_length_eq_zero hn
    subst this
    refine (Tryz.slices_Sort_string_none none 0 w).mono fun e w' ⟨he, hw⟩ => ?_
    subst hw
    exact ⟨_, _, he, St.of_row (e := 9) (sz := 1) (n := 0) (xs := []) (Below.refl _ _) ⟨rfl, .inl ⟨rfl, rfl⟩⟩, rfl, by simp⟩
  · have hb := (Array.getElem?_eq_some_iff.1 hg).1
    refine (Tryz.slices_Sort_string g 0 cap ss w (holds_of_block hg (by simpa using ht)) hb (by omega)).mono fun e w' ⟨he, n, os, hw⟩ => ?_
    subst hw
    have hgb := grownBy_sorted (w := w) (g := g) (n := n) (os := os) (ss.mergeSort fun x y => decide (x ≤ y)).toArray
    have ho := ownsRow_sorted (w := w) (base := 0) (g := g) (cap := cap) (n := n) (e := 9) (os := os) (cur := cur) (ss := ss) (ts := ss.mergeSort fun x y => decide (x ≤ y)) (by simp) (Nat.zero_le _) hg hc hm hsz
    refine ⟨_, _, he, ⟨hgb.os, hgb.tape, hgb.output, hgb.size, fun k hk hne => hgb.block k hk (fun e => hne ?_), ?_, ?_, by simp⟩, rfl, rfl⟩
    · simp only [Option.some.injEq] at e; simp [Ent.foot, Value.ownBlock, e]
    · intro en he; simp only [List.mem_singleton] at he; subst he; rw [List.length_mergeSort]; exact ho
    · intro en he k hk; simp only [List.mem_singleton] at he; subst he; exact .inr hk
theorem compact_c (v : Value) (ss : List (List UInt8)) (hl : ss.length ≤ 8796093022208) (w : World) (h : (Ent.row v 9 1 ss.length (ss.map encStr)).holds w) :
    Calls Tryz.prog 53 [v].toArray w (Ret w (Ent.row v 9 1 ss.length (ss.map encStr)).foot (fun u H => H = [.row u 9 1 (Lib.compact ss).length ((Lib.compact ss).map encStr)])) := by
  obtain ⟨h1, h2⟩ := h
  rcases h2 with ⟨rfl, hn⟩ | ⟨g, cap, cur, rfl, _, hg, hc, hm, hsz, ht⟩
  · have : ss = [] := List.eq_nil_of_length_eq_zero hn
    subst this
    refine (Tryz.slices_Compact_string_empty none 0 w).mono fun e w' ⟨he, hw⟩ => ?_
    subst hw
    exact ⟨_, _, he, St.of_row (Below.refl _ _) ⟨rfl, .inl ⟨rfl, rfl⟩⟩, rfl⟩
  · have hb := (Array.getElem?_eq_some_iff.1 hg).1
    have hcl : (Lib.compact ss).length ≤ ss.length := Lib.compact_length_le ss
    refine (Tryz.slices_Compact_string g 0 cap ss w (holds_of_block hg (by simpa using ht)) (by omega) hc).mono fun e w' ⟨he, q, hw⟩ => ?_
    subst hw
    have ho := Lib.ownsRow_putRow (enc := encStr) (w := w) (base := 0) (e := 9) (g := g) (n := ss.length) (cap := cap) (q := q) (k := (Lib.compact ss).length) (zs := ss) (ys := Lib.compact ss ++ List.replicate (ss.length - (Lib.compact ss).length) [])
      ⟨h1, .inr ⟨g, cap, cur, rfl, Nat.zero_le _, hg, hc, hm, hsz, ht⟩⟩ (by simp; omega) hcl
    rw [List.take_left] at ho
    refine ⟨_, _, he, ⟨rfl, rfl, rfl, by simp [Sort.ahead], fun k hk hne => ?_, ?_, ?_, by simp⟩, rfl⟩
    · have : g ≠ k := fun e => hne (by simp [Ent.foot, Value.ownBlock, e])
      simp [putRow, mapBlock, Sort.ahead, Array.getElem?_modify, this]
    · intro en he; simp only [List.mem_singleton] at he; subst he; exact ho
    · intro en he k hk; simp only [List.mem_singleton] at he; subst he
      exact .inr (by simpa [Ent.foot, Value.ownBlock] using hk)
theorem contains_c (v : Value) (ss : List (List UInt8)) (s : List UInt8) (hl : ss.length ≤ 8796093022208) (w : World) (h : StrsR w v ss) :
    Calls Tryz.prog 54 [v, .string (B s)].toArray w (RetV w (.bool (decide (s ∈ ss)))) := by
  rcases h.cells with ⟨cap, rfl, rfl⟩ | ⟨a, cap, rfl, rfl⟩ | ⟨b, off, cap, rfl, hc⟩
  · refine (Tryz.slices_Contains_string_empty none cap (B s) w).mono fun e w' ⟨he, hw⟩ => ?_
    subst hw; exact ⟨by rw [he]; simp, St.refl _ _⟩
  · refine (Tryz.slices_Contains_string_empty (some a) cap (B s) w).mono fun e w' ⟨he, hw⟩ => ?_
    subst hw; exact ⟨by rw [he]; simp, St.refl _ _⟩
  · refine (Tryz.slices_Contains_string b off ss.length cap (ss.map B) (B s) w (by simp) (by omega) (fun j hj => hc j (by simpa using hj))).mono fun e w' ⟨he, hw⟩ => ?_
    subst hw
    refine ⟨?_, St.refl _ _⟩
    rw [he]
    congr 2
    rw [List.take_of_length_le (by simp)]
    rw [Bool.eq_iff_iff, Lib.containsS_iff, decide_eq_true_eq, List.mem_map]
    exact ⟨fun ⟨a, ha, hab⟩ => (by simp [B] at hab; exact hab ▸ ha), fun hs => ⟨s, hs, rfl⟩⟩
section
variable {P : Program} {n : Nat} {w0 : World} {M : List Nat} {l : Fr} {H : List Ent} {d : Option Nat} {x y : Operand} {ty t e : TypeId} {pos : String} {af : Array Edge} {g : Option (Nat × Bool)} {v : Value} {ss : List (List UInt8)} {i : Int}
theorem o_lens (ht : P.underlying t = some (.slice e)) (h : ev l x = some v) (hr : StrsR w0 v ss) : ORun P n w0 M l H { dst := d, op := .call { callee := .builtin .len, args := #[x], argTypes := #[t] }, type := ty, pos := pos, after := af, guard := g } (.int .i64 ss.length) := by
  have := o_len_r (n := n) (M := M) (H := H) (d := d) (ty := ty) (pos := pos) (af := af) (g := g) ht h hr
  simpa using this
theorem o_ixs {k : IntKind} (ht : P.underlying t = some (.slice e)) (hz : ∀ w, (sizeOf e).run P w = .ok 1 w) (h : ev l x = some v) (hi : ev l y = some (.int k i)) (hr : StrsR w0 v ss) (h0 : 0 ≤ i) (h1 : i < ss.length) :
    ORun P n w0 M l H { dst := d, op := .indexAddr t x y, type := ty, pos := pos, after := af, guard := g } (elp 1 v i.toNat 0) := o_ix_r ht hz h hi hr h0 (by simpa using h1)
theorem o_lds (hag : ∀ w, (isAgg t).run P w = .ok false w) (hx : ev l x = some (elp 1 v i.toNat 0)) (hr : StrsR w0 v ss) (ho : Off M v) (h0 : 0 ≤ i) (h1 : i < ss.length) :
    ORun P n w0 M l H { dst := d, op := .load t x, type := ty, pos := pos, after := af, guard := g } (.string (B (sat ss i))) := o_ld_r hag hx hr ho (sat_at h0 h1) rfl
end
theorem run_buildSlice {P : Program} {t e : TypeId} {sz len : Nat} {z : Value} {parts : Array (Nat × Value)} {cs : List Value} (ht : P.underlying t = some (.slice e)) (hz : ∀ w, (sizeOf e).run P w = .ok sz w) (hzv : ∀ w, (zeroValue e).run P w = .ok z w)
    (hle : Nat.ble (len * sz) 16777216 = true) (w : World) (hf : Instr.fill (fun i => some (i * sz, sz)) ((Array.range (len * sz)).map ((if len * sz = 0 then #[] else z.cells)[· % (if len * sz = 0 then #[] else z.cells).size]!)) parts.toList = some cs.toArray) :
    (Instr.buildSlice t len parts).run P w = .ok (.slice (some ⟨w.heap.size, 0, none⟩) len len) (w.alloc (.cells cs.toArray e)) := by
  have hle' : ¬ 16777216 < len * sz := by simpa using hle
  unfold Instr.buildSlice
  by_cases h0 : len * sz = 0
  · have er : Array.range 0 = #[] := rfl
    simp only [h0, if_true, er] at hf
    have hf : Instr.fill (fun i => some (i * sz, sz)) #[] parts.toList = some cs.toArray := by simpa using hf
    simp [run_underlying ht, hz, hle', h0, er, hf, newRow, newObj, Sem.run, Sem.run_bind]
  · simp only [h0, if_false] at hf
    simp [run_underlying ht, hz, hzv, hle', h0, hf, newRow, newObj, Sem.run, Sem.run_bind]
/-! ### lists of strings, plainly -/
theorem sat_eq {ss : List (List UInt8)} {k : Nat} (h : k < ss.length) : ss[k]? = some (sat ss k) := by simp [sat, h]
theorem take_succ_sat {ss : List (List UInt8)} {k : Nat} (h : k < ss.length) : ss.take (k + 1) = ss.take k ++ [sat ss k] := by
  rw [List.take_add_one, sat_eq h]; rfl
def sameI (a b : List (List UInt8)) (k : Nat) : Prop := a.length = b.length ∧ k ≤ a.length ∧ a.take k = b.take k
theorem same_0 {a b : List (List UInt8)} (h : a.length = b.length) : sameI a b 0 := ⟨h, Nat.zero_le _, by simp⟩
theorem same_next {a b : List (List UInt8)} {k : Nat} (hi : sameI a b k) (h : (k : Int) < a.length) (e : sat a k = sat b k) : sameI a b (k + 1) ∧ a.length - (k + 1) < a.length - k := by
  obtain ⟨h1, h2, h3⟩ := hi
  refine ⟨⟨h1, by omega, ?_⟩, by omega⟩
  rw [take_succ_sat (by omega), take_succ_sat (by omega), h3, e]
theorem same_no {a b : List (List UInt8)} {k : Nat} (e : ¬ sat a k = sat b k) : decide (a = b) = false := by
  rw [decide_eq_false_iff_not]; rintro rfl; exact e rfl
theorem same_yes {a b : List (List UInt8)} {k : Nat} (hi : sameI a b k) (h : ¬ (k : Int) < a.length) : decide (a = b) = true := by
  obtain ⟨h1, h2, h3⟩ := hi
  rw [List.take_of_length_le (by omega), List.take_of_length_le (by omega)] at h3
  simpa using h3
def sortedS (ss : List (List UInt8)) : List (List UInt8) := Lib.compact (ss.mergeSort fun x y => decide (x ≤ y))
theorem sortedS_ex : sortedS [[98], [97], [98]] = [[97], [98]] := by
  have h : ([[98], [97], [98]] : List (List UInt8)).mergeSort (fun x y => decide (x ≤ y)) = [[97], [98], [98]] := by
    have h1 : ¬ ([98] : List UInt8) ≤ [97] := by decide
    have h2 : ([98] : List UInt8) ≤ [98] := by decide
    have h3 : ([97] : List UInt8) ≤ [98] := by decide
    simp [List.mergeSort, List.MergeSort.Internal.splitInTwo, List.merge, List.splitAt, List.splitAt.go, h1, h2, h3]
  rw [sortedS, h]
  decide +kernel
end Go.Proofs.YtjkdkmcklocmnaaGreatDoor
