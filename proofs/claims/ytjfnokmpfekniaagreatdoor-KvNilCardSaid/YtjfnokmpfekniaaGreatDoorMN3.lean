/-
  Texts of the proof, put together: QI, WKa, PKb, WKb, OkKvNil, LvA, LvB, LvC, LvD, LvE, LvF, LvG, LvH, LvI, PN, PO, LkA, LkB, LwNil.
-/
import Derived.Test.YtjfnokmpfekniaaGreatDoorMN2
import GoSem.ClaimData
/-
 Rounds over the entries of a map, in any order. Plain theorems over any program; no condition.
-/
namespace Go.Proofs.YtjfnokmpfekniaaGreatDoor.Q
open Go Go.RowKit
set_option linter.unusedVariables false
set_option linter.unusedSimpArgs false
theorem filter_erase {q : MapEntry → Bool} : ∀ {l : List MapEntry} {j : Nat} {e : MapEntry}, (l.map (·.born)).Nodup → l[j]? = some e → l.filter (fun x => !(x.born == e.born)) = l.eraseIdx j
 | x :: l, 0, e, hn, h => by
  simp at h; subst h
  rw [List.map_cons, List.nodup_cons] at hn
  rw [List.filter_cons_of_neg (by simp), List.filter_eq_self.2 fun y hy => ?_]; rfl
  have : y.born ≠ x.born := fun e => hn.1 (by rw [← e]; exact List.mem_map.2 ⟨y, hy, rfl⟩)
  simp [this]
 | x :: l, j + 1, e, hn, h => by
  rw [List.map_cons, List.nodup_cons] at hn
  simp at h
  have hne : x.born ≠ e.born := fun e' => hn.1 (by rw [e']; exact List.mem_map.2 ⟨e, List.mem_of_getElem? h, rfl⟩)
  rw [List.filter_cons_of_pos (by simp [hne]), filter_erase (q := q) hn.2 h]; rfl
theorem Ali.erase {Z : Fz} : ∀ {f : List (List UInt8 × Rp)} {es : List MapEntry} (j : Nat), Ali Z f es → Ali Z (f.eraseIdx j) (es.eraseIdx j)
 | [], [], j, _ => by simp [Ali]
 | p :: f, e :: es, 0, ⟨_, h⟩ => h
 | p :: f, e :: es, j + 1, ⟨h, h3⟩ => ⟨h, Ali.erase j h3⟩
theorem perm_at {α : Type} : ∀ {l : List α} {j : Nat} {a : α}, l[j]? = some a → l.Perm (a :: l.eraseIdx j)
 | x :: l, 0, a, h => by simp at h; subst h; exact List.Perm.refl _
 | x :: l, j + 1, a, h => by
  simp at h
  exact ((perm_at h).cons x).trans (List.Perm.swap a x _)
theorem perm_enc {T : Type} {enc : T → Rp} {ys : List (Str × T)} {f : List (Str × Rp)} {j : Nat} {k : Str} {r : Rp} (h : f.Perm (menc enc ys)) (hj : f[j]? = some (k, r)) : ∃ (p : Str × T) (ys' : List (Str × T)), ys.Perm (p :: ys') ∧ p.1 = k ∧ enc p.2 = r ∧ (f.eraseIdx j).Perm (menc enc ys') := by
 have hm : (k, r) ∈ menc enc ys := h.subset (List.mem_of_getElem? hj)
 obtain ⟨p, hp, e⟩ := List.mem_map.1 hm
 simp only [Prod.mk.injEq] at e
 obtain ⟨a, b, rfl⟩ := List.append_of_mem hp
 refine ⟨p, a ++ b, List.perm_middle, e.1, e.2, ?_⟩
 have h1 : f.Perm ((k, r) :: f.eraseIdx j) := by
  exact perm_at hj
 have h2 : (menc enc (a ++ p :: b)).Perm ((k, r) :: menc enc (a ++ b)) := by
  have : (menc enc (a ++ p :: b)).Perm (menc enc (p :: (a ++ b))) := List.perm_middle.map _
  refine this.trans ?_
  show ((p.1, enc p.2) :: menc enc (a ++ b)).Perm _
  rw [e.1, e.2]
 exact ((h1.symm.trans h).trans h2).cons_inv
section
variable {P : Program} {n : Nat} {c : Cx} {ops : Array Oper} {Q : Exit → Act → World → Prop} {rest : List Oper} {l : Fr} {H : List Ent} {d : Nat} {ty t kt et rty : TypeId} {pos : String} {af : Array Edge} {x y u : Operand} {K : Act → World → Prop} {cx : Code}
variable {T : Type} {enc : T → Rp} {xs ys : List (Str × T)} {i b it : Nat} {m lf : List (List UInt8 × Rp)} {cur : Option (List UInt8 × Rp)} {k : Str} {r : Rp}
theorem w_range (ht : P.underlying t = some (.map kt et)) (hx : ev l x = some (rv (.map (some b)))) (hi : H[i]? = some (.map b m)) (hn : Nat.blt d n = true) (h : ∀ it, WL P n c ops Q rest ((d, rv (.pointer (some ⟨it, 0, none⟩))) :: l) (H.set i (.mit b it m m none))) :
  WL P n c ops Q ({ dst := some d, op := .range t x, type := ty, pos := pos, after := af, guard := none } :: rest) l H :=
 wl_w (fun a w Z ha hw => by
  obtain ⟨es, ck, h1, h2⟩ := hw.ent hi
  have hb : b < w.heap.size := (Array.getElem?_eq_some_iff.1 h1).1
  have hf : es.toList.filter (fun e => !(#[] : Array Nat).contains e.born) = es.toList := List.filter_eq_self.2 fun _ _ => by simp
  obtain ⟨f, h4, h5⟩ := h2.2.2.2
  refine ⟨.pointer (some ⟨w.heap.size, 0, none⟩), w.alloc (.mapIter (some b) ck #[] ck), _, _, Z, ?_, Fz.le.refl _, rfl, hw.set hi rfl rfl rfl (by simp) (fun k hk _ => Below.heap_alloc w _ k hk) ?_ ?_, h w.heap.size⟩
  ·simp [execOp, ha.eval hx, run_range_map w t kt et b es ck ht h1]
  ·exact ⟨es, ck, #[], ck, ck, (Below.heap_alloc w _ b hb).trans h1, by simpa using heap_alloc_new w _, h2, h2.2.2.1, Nat.le_refl _, Nat.le_refl _, Nat.ne_of_lt hb, ⟨f, h4, by rw [hf]; exact h5⟩, trivial⟩
  ·intro k hk
   simp only [Ent.foot, List.mem_cons, List.not_mem_nil, or_false] at hk
   rcases hk with rfl | rfl
   ·exact .inl (by simp [Ent.foot])
   ·exact .inr (Nat.le_refl _)) hn
theorem w_next (hx : ev l x = some (rv (.pointer (some ⟨it, 0, none⟩)))) (hi : H[i]? = some (.mit b it m (menc enc ys) cur)) (hn : Nat.blt d n = true)
  (h0 : ys = [] → WL P n c ops Q rest ((d, rTup [rB false]) :: l) H)
  (h1 : ∀ p ys', ys.Perm (p :: ys') → WL P n c ops Q rest ((d, rTup [rB true, rS p.1, enc p.2]) :: l) (H.set i (.mit b it m (menc enc ys') (some (p.1, enc p.2))))) :
  WL P n c ops Q ({ dst := some d, op := .next x false, type := ty, pos := pos, after := af, guard := none } :: rest) l H :=
 wl_w (fun a w Z ha hw => by
  obtain ⟨es, ck, seen, since, c0, q1, q2, q3, q4, q5, q6, q7, ⟨f, q8, q9⟩, _⟩ := hw.ent hi
  have hlf : (leftOf es seen).toList = es.toList.filter fun e => !seen.contains e.born := by simp [leftOf]
  rcases run_next_at (P := P) w ty it b since c0 seen es ck q2 q1 q4 q5 with ⟨r1, r2⟩ | ⟨e, r1, w1, r2, r3⟩
  ·have he : es.toList.filter (fun e => !seen.contains e.born) = [] := by rw [← hlf]; exact List.eq_nil_of_length_eq_zero (by simpa using r1)
   rw [he] at q9
   have hf : f = [] := by cases f with
    | nil => rfl
    | cons _ _ => exact absurd q9 id
   subst hf
   have hy : ys = [] := by
    have := q8.length_eq
    rw [menc_length] at this
    exact List.eq_nil_of_length_eq_zero this.symm
   exact ⟨.tuple #[.bool false], w, rTup [rB false], H, Z, by simp [execOp, ha.eval hx, r2], Fz.le.refl _, ⟨[.bool false], rfl, rfl, trivial⟩, hw, h0 hy⟩
  ·rw [hlf] at r1
   obtain ⟨j, hj⟩ := List.mem_iff_getElem?.1 r1
   obtain ⟨k, r, e1, e2, e3⟩ := q9.at.2 j e hj
   obtain ⟨p, ys', s1, s2, s3, s4⟩ := perm_enc q8 e1
   have hnl : ((es.toList.filter fun e => !seen.contains e.born).map (·.born)).Nodup := q3.2.1.sublist ((List.filter_sublist ..).map _)
   have hleft : es.toList.filter (fun x => !(seen.push e.born).contains x.born) = (es.toList.filter fun e => !seen.contains e.born).eraseIdx j := by
    rw [← filter_erase (q := fun _ => true) hnl hj, List.filter_filter]
    refine List.filter_congr fun x _ => ?_
    simp only [Array.contains_push, Bool.not_or]
    rw [Bool.and_comm]
   have hd : St c H Z w1 := by
    rcases r2 with rfl | rfl
    ·exact hw
    ·exact hw.drawn _
   have q2' : w1.heap[it]? = some (.mapIter (some b) since seen c0) := by rcases r2 with rfl | rfl <;> exact q2
   have q1' : w1.heap[b]? = some (.map es ck) := by rcases r2 with rfl | rfl <;> exact q1
   obtain ⟨t1, t2⟩ := MapKept.heap_set (o' := .mapIter (some b) since (seen.push e.born) ck) q2'
   refine ⟨.tuple #[.bool true, e.key, e.val], ChangeMaps.setBlock w1 it (.mapIter (some b) since (seen.push e.born) ck), rTup [rB true, rS p.1, enc p.2], H.set i (.mit b it m (menc enc ys') (some (p.1, enc p.2))), Z, by simp [execOp, ha.eval hx, r3], Fz.le.refl _, ⟨[.bool true, e.key, e.val], rfl, rfl, ?_, ?_, trivial⟩, hd.set hi rfl rfl rfl (by simp [ChangeMaps.setBlock]) (fun k' _ hk' => t2 k' (fun e' => hk' (by simp [Ent.foot, e']))) ?_ (fun k' hk' => .inl (by simpa [Ent.foot] using hk')), h1 p ys' s1⟩
   ·show e.key = .string (B p.1); rw [s2]; exact e2
   ·rw [s3]; exact e3
   ·exact ⟨es, ck, seen.push e.born, since, ck, (t2 b q7).trans q1', t1, q3, q4, Nat.le_trans q5 q6, Nat.le_refl _, q7, ⟨f.eraseIdx j, s4, by rw [hleft]; exact q9.erase j⟩, rfl, seen, e, rfl, (List.mem_filter.1 r1).1, by rw [s2]; exact e2, by rw [s3]; exact e3⟩) hn
theorem St.unmit {Z : Fz} {w : World} (h : St c H Z w) (hi : H[i]? = some (.mit b it m lf cur)) : St c (H.set i (.map b m)) Z w := by
 obtain ⟨es, ck, seen, since, c0, q1, q2, q3, _⟩ := h.ent hi
 exact h.set hi rfl rfl rfl (Nat.le_refl _) (fun _ _ _ => rfl) ⟨es, ck, q1, q3⟩ (by simp [Ent.foot])
theorem WK.unmit (hi : H[i]? = some (.mit b it m lf cur)) (h : WK n c K l (H.set i (.map b m))) : WK n c K l H := fun a w Z ha hw => h a w Z ha (hw.unmit hi)
theorem WC.unmit (hi : H[i]? = some (.mit b it m lf cur)) (h : WC P n c cx Q l (H.set i (.map b m))) : WC P n c cx Q l H := fun a w Z ha hw => h a w Z ha (hw.unmit hi)
theorem WL.unmit (hi : H[i]? = some (.mit b it m lf cur)) (h : WL P n c ops Q rest l (H.set i (.map b m))) : WL P n c ops Q rest l H := fun a w Z ha hw => h a w Z ha (hw.unmit hi)
theorem St.uncur {Z : Fz} {w : World} (h : St c H Z w) (hi : H[i]? = some (.mit b it m lf cur)) : St c (H.set i (.mit b it m lf none)) Z w := by
 obtain ⟨es, ck, seen, since, c0, q1, q2, q3, q4, q5, q6, q7, q8, _⟩ := h.ent hi
 exact h.set hi rfl rfl rfl (Nat.le_refl _) (fun _ _ _ => rfl) ⟨es, ck, seen, since, c0, q1, q2, q3, q4, q5, q6, q7, q8, trivial⟩ (fun k hk => .inl (by simpa [Ent.foot] using hk))
theorem WK.uncur (hi : H[i]? = some (.mit b it m lf cur)) (h : WK n c K l (H.set i (.mit b it m lf none))) : WK n c K l H := fun a w Z ha hw => h a w Z ha (hw.uncur hi)
theorem o_entry {dd : Option Nat} {g : Option (Nat × Bool)} (hx : ev l x = some (rv (.pointer (some ⟨it, 0, none⟩)))) (hi : H[i]? = some (.mit b it m lf (some (k, r)))) :
  ORun P n c l H { dst := dd, op := .entry x, type := ty, pos := pos, after := af, guard := g } (rTup [rS k, r]) := fun a w Z ha hw => by
 obtain ⟨es, ck, seen, since, c0, q1, q2, q3, q4, q5, q6, q7, q8, rfl, s0, e, rfl, h1, h2, h3⟩ := hw.ent hi
 exact ⟨.tuple #[e.key, e.val], ⟨[e.key, e.val], rfl, h2, h3, trivial⟩, by simp [execOp, ha.eval hx, run_entry_at w it b since s0 es c0 e q2 q1 h1 q3.2.1]⟩
end
end Go.Proofs.YtjfnokmpfekniaaGreatDoor.Q

/-
  Walks, printed by a small program of ours (gq.py).
-/
namespace Go.Proofs.YtjfnokmpfekniaaGreatDoor.Q
open Go Go.RowKit
set_option linter.unusedVariables false
set_option linter.unusedSimpArgs false
set_option maxRecDepth 100000
set_option maxHeartbeats 4000000
@[reducible] def eTApiChange (x : TApiChange) : List Rp := [rS x.fKey, rB x.fDelete, rSl 4 (List.map eTApiCell x.fValue), rI .i64 x.fIfVersion]
theorem eTApiChange_len (x : TApiChange) : (eTApiChange x).length = 4 := rfl
@[reducible] def eTApiItem (x : TApiItem) : List Rp := [rS x.fKey, rSl 4 (List.map eTApiCell x.fValue), rI .i64 x.fVersion]
@[reducible] def m_TApiItem (x : TApiItem) : Rp := rAgg (eTApiItem x)
theorem m_TApiItem_z (Z : Fz) : (m_TApiItem (TApiItem.mk ([] : Str) ([] : (List TApiCell)) 0)).p Z (.agg #[(.string ⟨#[]⟩), (.slice none 0 0), (.int .i64 0)]) := ⟨[.string ⟨#[]⟩, .slice none 0 0, .int .i64 0], rfl, rfl, SlZ.nil _ _, rfl, trivial⟩
theorem built35 (parts : List (Nat × Value)) : Tryz.prog.built 35 parts = Instr.fill (fun i => (#[(0, 1), (1, 1), (2, 1)] : Array (Nat × Nat))[i]?) #[(.string ⟨#[]⟩), ((.slice none 0 0)), (.int .i64 0)] parts := by kernel_rfl
theorem o_build35_ {n : Nat} {c : Cx} {l : Fr} {H : List Ent} {d : Option Nat} {ty : TypeId} {pos : String} {af : Array Edge} {g : Option (Nat × Bool)} : ORun Tryz.prog n c l H { dst := d, op := .build 35 #[], type := ty, pos := pos, after := af, guard := g } (rAgg [rS ([] : Str), rv (.slice none 0 0), rI .i64 0]) := fun a w Z ha _ => by
  have hb : Tryz.prog.built 35 [] = some #[(.string ⟨#[]⟩), ((.slice none 0 0)), (.int .i64 0)] := by
    rw [built35]
    simp [Instr.fill, Value.cells]
  refine ⟨.agg #[(.string ⟨#[]⟩), ((.slice none 0 0)), (.int .i64 0)], ⟨[(.string ⟨#[]⟩), ((.slice none 0 0)), (.int .i64 0)], rfl, rfl, rfl, rfl, trivial⟩, ?_⟩
  have := run_build w 35 #[] _ (by simpa using hb)
  simp [execOp, this]
theorem o_build35_0_1_2 {n : Nat} {c : Cx} {l : Fr} {H : List Ent} {d : Option Nat} {ty : TypeId} {pos : String} {af : Array Edge} {g : Option (Nat × Bool)} {x0 : Operand} {r0 : Rp} (h0 : ev l x0 = some r0) (u0 : r0.one = true) {x1 : Operand} {r1 : Rp} (h1 : ev l x1 = some r1) (u1 : r1.one = true) {x2 : Operand} {r2 : Rp} (h2 : ev l x2 = some r2) (u2 : r2.one = true) : ORun Tryz.prog n c l H { dst := d, op := .build 35 #[(0, x0), (1, x1), (2, x2)], type := ty, pos := pos, after := af, guard := g } (rAgg [r0, r1, r2]) := fun a w Z ha _ => by
  have p0 := ha.ev h0
  have c0 := cells_one (r0.hone u0 Z _ p0)
  have p1 := ha.ev h1
  have c1 := cells_one (r1.hone u1 Z _ p1)
  have p2 := ha.ev h2
  have c2 := cells_one (r2.hone u2 Z _ p2)
  have hb : Tryz.prog.built 35 [(0, a.eval x0), (1, a.eval x1), (2, a.eval x2)] = some #[a.eval x0, a.eval x1, a.eval x2] := by
    rw [built35]
    generalize a.eval x0 = v0 at *
    generalize a.eval x1 = v1 at *
    generalize a.eval x2 = v2 at *
    simp [Instr.fill, c0, c1, c2]
  refine ⟨.agg #[a.eval x0, a.eval x1, a.eval x2], ⟨[a.eval x0, a.eval x1, a.eval x2], rfl, p0, p1, p2, trivial⟩, ?_⟩
  have := run_build w 35 #[(0, a.eval x0), (1, a.eval x1), (2, a.eval x2)] _ (by simpa using hb)
  simp [execOp, this]
theorem built59 (parts : List (Nat × Value)) : Tryz.prog.built 59 parts = Instr.fill (fun i => (#[(0, 1), (1, 1)] : Array (Nat × Nat))[i]?) #[((.map none)), ((.map none))] parts := by kernel_rfl
theorem o_build59_0_1 {n : Nat} {c : Cx} {l : Fr} {H : List Ent} {d : Option Nat} {ty : TypeId} {pos : String} {af : Array Edge} {g : Option (Nat × Bool)} {x0 : Operand} {r0 : Rp} (h0 : ev l x0 = some r0) (u0 : r0.one = true) {x1 : Operand} {r1 : Rp} (h1 : ev l x1 = some r1) (u1 : r1.one = true) : ORun Tryz.prog n c l H { dst := d, op := .build 59 #[(0, x0), (1, x1)], type := ty, pos := pos, after := af, guard := g } (rAgg [r0, r1]) := fun a w Z ha _ => by
  have p0 := ha.ev h0
  have c0 := cells_one (r0.hone u0 Z _ p0)
  have p1 := ha.ev h1
  have c1 := cells_one (r1.hone u1 Z _ p1)
  have hb : Tryz.prog.built 59 [(0, a.eval x0), (1, a.eval x1)] = some #[a.eval x0, a.eval x1] := by
    rw [built59]
    generalize a.eval x0 = v0 at *
    generalize a.eval x1 = v1 at *
    simp [Instr.fill, c0, c1]
  refine ⟨.agg #[a.eval x0, a.eval x1], ⟨[a.eval x0, a.eval x1], rfl, p0, p1, trivial⟩, ?_⟩
  have := run_build w 59 #[(0, a.eval x0), (1, a.eval x1)] _ (by simpa using hb)
  simp [execOp, this]
theorem cloneN_w (ys : (List TApiCell)) (r : (List TApiCell)) (h : cloneN ys = some r) : Fn Tryz.prog GE 59 [rSl 4 (List.map eTApiCell ys)] [] (fun R H => R = rSl 4 (List.map eTApiCell r) ∧ H = []) := by
 refine enter (n := 8) Tryz.func59 rfl Tryz.ntmps59 rfl (fun w Z => ?_)
 refine wc_as (l' := [(0, rSl 4 (List.map eTApiCell ys))]) (H' := []) rfl rfl ?_
 unfold cloneN at h
 refine wc_sr ?_
 refine wv (r := rv (.slice none 0 0)) (o_assign rfl) ?_
 refine wl_x ?_
 refine wc_seq ?_
 refine wc_sr ?_
 refine wm rfl ?_
 refine wv (o_slnil_z Tryz.underlying33 rfl) ?_
 refine wl_x ?_
 refine wc_condx rfl (fun c1 => ?_) (fun c1 => ?_)
 ·have e2 : ys = [] := List.map_eq_nil_iff.1 (c1 rfl)
  have h3 : some ([] : List TApiCell) = some r := by rw [e2] at h; exact (chk_e h).2
  refine wc_sr ?_
  refine wv (r := rv (.slice none 0 0)) (o_assign rfl) ?_
  refine wl_x ?_
  refine wc_ret ?_
  refine wk_then_ret ?_
  refine WK.up (d := 2) (r := rSl 4 (List.map eTApiCell ([] : List TApiCell))) rfl (Up.le (Rle.nil _)) ?_
  obtain rfl := some_e h3
  exact wk_ret (r_1 Tryz.results59 (rv_t rfl)) sN ⟨rfl, rfl⟩
 ·refine wc_skip ?_
  refine wk_x ?_
  refine wc_sr ?_
  refine w_buildSlice (ys := ([] : List TApiCell)) (enc := eTApiCell) (css := []) (xs := []) Tryz.underlying33 Tryz.sizeOf78 Tryz.zeroValue78 rfl rfl rfl trivial rfl eTApiCell_len rfl rfl rfl (fun b4 => ?_)
  refine wm rfl ?_
  obtain ⟨g6, h7⟩ := chk_e h
  obtain ⟨inf, hinf⟩ := info78
  refine w_append (xs := ([] : List TApiCell)) (ys := ys) (enc := eTApiCell) (i := 0) Tryz.underlying33 hinf.1 hinf.2.1 hinf.2.2.1 hinf.2.2.2 rfl rfl rfl rfl rfl (Src.z rfl rfl) eTApiCell_len eTApiCell_one g6 rfl (fun v5 => ?_)
  refine wa rfl ?_
  refine wl_x ?_
  refine wc_ret ?_
  refine WK.freeze (i := 0) rfl ?_
  refine WK.up (d := 2) (r := rSl 4 (List.map eTApiCell (([] : List TApiCell) ++ ys))) rfl (Up.fact (i := 0) rfl) ?_
  obtain rfl := some_e h7
  exact wk_ret (r_1 Tryz.results59 (rv_t rfl)) (sS sN) ⟨rfl, rfl⟩

theorem kCheck_w (F : Nat) (c : TApiChange) (r : Int) (h : kCheck F c = some r) : Fn Tryz.prog GE 55 [rAgg (eTApiChange c)] [] (fun R H => R = rI .i64 r ∧ H = []) := by
 refine enter (n := 32) Tryz.func55 rfl Tryz.ntmps55 rfl (fun w Z => ?_)
 refine wc_as (l' := [(0, rAgg (eTApiChange c))]) (H' := []) rfl rfl ?_
 unfold kCheck at h
 refine wc_sr ?_
 refine w_box_agg rfl rfl (fun b1 => ?_)
 refine wv (r := rI .i64 0) (o_assign rfl) ?_
 refine wl_x ?_
 refine wc_seq ?_
 refine wc_block ?_
 refine wc_sr ?_
 refine wv (o_fieldAddr Tryz.underlying50 rfl Tryz.sizeOf9 rfl rfl) ?_
 refine wv (o_load (i := 0) Tryz.isAgg9 rfl rfl rfl) ?_
 refine w_call0 (rs := [rS c.fKey]) (r := rB (idS c.fKey)) Tryz.call79 rfl (id_q c.fKey) rfl rfl ?_
 refine wv (o_not rfl) ?_
 refine wa rfl ?_
 refine wl_x ?_
 refine wc_cond (b := !(idS c.fKey)) rfl (fun c2 => ?_) (fun c2 => ?_)
 ·have h3 := cnd_t c2 h
  refine wc_sr ?_
  refine wv (r := rI .i64 4) (o_assign rfl) ?_
  refine wl_x ?_
  refine wc_ret ?_
  refine wk_in_ret ?_
  refine wk_then_ret ?_
  obtain rfl := some_e h3
  exact wk_ret (r_1 Tryz.results55 (rv_t rfl)) (sS sN) ⟨rfl, rfl⟩
 ·have h4 := cnd_f c2 h
  refine wc_seq_mid [(1, rv (.pointer (some ⟨b1, 0, none⟩))), (8, rB ((decide (c.fIfVersion < (-1))) || (decide (1000000000000 < c.fIfVersion))))] [.blk b1 (eTApiChange c) 50] ?_ ?_
  ·refine wc_region ?_
   refine wv (o_fieldAddr Tryz.underlying50 rfl Tryz.sizeOf3 rfl rfl) ?_
   refine wv (o_load (i := 0) Tryz.isAgg3 rfl rfl rfl) ?_
   refine wv (o_lt rfl rfl) ?_
   refine wm rfl ?_
   refine bsplit (decide (c.fIfVersion < (-1))) (fun c5 => ?_) (fun c5 => ?_)
   ·refine wf c5 ?_
    refine wf c5 ?_
    refine wf c5 ?_
    refine wv (r := rB true) (o_pick_t (b := decide (c.fIfVersion < (-1))) rfl c5 rfl) ?_
    refine wa rfl ?_
    refine wl_nil ?_
    exact wtc c5
   ·refine wo c5 ?_
    refine wv (o_fieldAddr Tryz.underlying50 rfl Tryz.sizeOf3 rfl rfl) ?_
    refine wo c5 ?_
    refine wv (o_load (i := 0) Tryz.isAgg3 rfl rfl rfl) ?_
    refine wo c5 ?_
    refine wv (o_gt rfl rfl) ?_
    refine wpf rfl c5 rfl ?_
    refine wa rfl ?_
    refine wl_nil ?_
    exact wtc c5
  refine wc_cond (b := ((decide (c.fIfVersion < (-1))) || (decide (1000000000000 < c.fIfVersion)))) rfl (fun c6 => ?_) (fun c6 => ?_)
  ·have h7 := cnd_t c6 h4
   refine wc_sr ?_
   refine wv (r := rI .i64 2) (o_assign rfl) ?_
   refine wl_x ?_
   refine wc_ret ?_
   refine wk_in_ret ?_
   refine wk_then_ret ?_
   obtain rfl := some_e h7
   exact wk_ret (r_1 Tryz.results55 (rv_t rfl)) (sS sN) ⟨rfl, rfl⟩
  ·have h8 := cnd_f c6 h4
   refine wc_seq_mid [(1, rv (.pointer (some ⟨b1, 0, none⟩))), (17, rB (c.fDelete && (decide (0 < (c.fValue.length : Int)))))] [.blk b1 (eTApiChange c) 50] ?_ ?_
   ·refine wc_region ?_
    refine wv (o_fieldAddr Tryz.underlying50 rfl Tryz.sizeOf4 rfl rfl) ?_
    refine wv (o_load (i := 0) Tryz.isAgg4 rfl rfl rfl) ?_
    refine wm rfl ?_
    refine bsplit (c.fDelete) (fun c9 => ?_) (fun c9 => ?_)
    ·refine wo c9 ?_
     refine wv (o_fieldAddr Tryz.underlying50 rfl Tryz.sizeOf33 rfl rfl) ?_
     refine wo c9 ?_
     refine wv (o_load (i := 0) Tryz.isAgg33 rfl rfl rfl) ?_
     refine wo c9 ?_
     refine wv (o_len_zt (ys := c.fValue) (enc := eTApiCell) Tryz.underlying33 rfl) ?_
     refine wo c9 ?_
     refine wv (o_gt rfl rfl) ?_
     refine wpt rfl c9 rfl ?_
     refine wa rfl ?_
     refine wl_nil ?_
     exact wtc c9
    ·refine wf c9 ?_
     refine wf c9 ?_
     refine wf c9 ?_
     refine wf c9 ?_
     refine wv (r := rB false) (o_pick_f (b := c.fDelete) rfl c9 rfl) ?_
     refine wa rfl ?_
     refine wl_nil ?_
     exact wtc c9
   refine wc_cond (b := (c.fDelete && (decide (0 < (c.fValue.length : Int))))) rfl (fun c10 => ?_) (fun c10 => ?_)
   ·have h11 := cnd_t c10 h8
    refine wc_sr ?_
    refine wv (r := rI .i64 7) (o_assign rfl) ?_
    refine wl_x ?_
    refine wc_ret ?_
    refine wk_in_ret ?_
    refine wk_then_ret ?_
    obtain rfl := some_e h11
    exact wk_ret (r_1 Tryz.results55 (rv_t rfl)) (sS sN) ⟨rfl, rfl⟩
   ·have h12 := cnd_f c10 h8
    refine wc_sr ?_
    refine wv (o_fieldAddr Tryz.underlying50 rfl Tryz.sizeOf4 rfl rfl) ?_
    refine wv (o_load (i := 0) Tryz.isAgg4 rfl rfl rfl) ?_
    refine wa rfl ?_
    refine wl_x ?_
    refine wc_cond (b := c.fDelete) rfl (fun c13 => ?_) (fun c13 => ?_)
    ·have h14 := cnd_t c13 h12
     refine wc_sr ?_
     refine wv (r := rI .i64 0) (o_assign rfl) ?_
     refine wl_x ?_
     refine wc_ret ?_
     refine wk_in_ret ?_
     refine wk_then_ret ?_
     obtain rfl := some_e h14
     exact wk_ret (r_1 Tryz.results55 (rv_t rfl)) (sS sN) ⟨rfl, rfl⟩
    ·have h15 := cnd_f c13 h12
     refine wc_skip ?_
     refine wk_in_norm ?_
     refine wk_x ?_
     refine wc_sr ?_
     refine wv (o_fieldAddr Tryz.underlying50 rfl Tryz.sizeOf33 rfl rfl) ?_
     refine wv (o_load (i := 0) Tryz.isAgg33 rfl rfl rfl) ?_
     obtain ⟨r16, e18, h17⟩ := obn_e h15
     refine wc0 Tryz.call80 (vCheck_w F c.fValue r16 e18) rfl ?_
     refine wa rfl ?_
     refine wl_x ?_
     refine wc_ret ?_
     obtain rfl := some_e h17
     exact wk_ret (r_1 Tryz.results55 (rv_t rfl)) (sS sN) ⟨rfl, rfl⟩

theorem kValid_w (F : Nat) (l : (List TApiChange)) (r : Int) (h : kValid F l = some r) : Fn Tryz.prog GE 35 [rSl 4 (List.map eTApiChange l)] [] (fun R H => R = rI .i64 r ∧ H = []) := by
 refine enter (n := 21) Tryz.func35 rfl Tryz.ntmps35 rfl (fun w Z => ?_)
 refine wc_as (l' := [(0, rSl 4 (List.map eTApiChange l))]) (H' := []) rfl rfl ?_
 unfold kValid at h
 refine wc_sr ?_
 refine wv (r := rI .i64 0) (o_assign rfl) ?_
 refine wl_x ?_
 refine wc_seq ?_
 refine wc_sr ?_
 refine wm rfl ?_
 refine wv (o_len_zt (ys := l) (enc := eTApiChange) Tryz.underlying31 rfl) ?_
 refine wv (o_gt rfl rfl) ?_
 refine wl_x ?_
 refine wc_cond (b := decide (256 < (l.length : Int))) rfl (fun c1 => ?_) (fun c1 => ?_)
 ·have h2 := cnd_t c1 h
  refine wc_sr ?_
  refine wv (r := rI .i64 3) (o_assign rfl) ?_
  refine wl_x ?_
  refine wc_ret ?_
  refine wk_then_ret ?_
  obtain rfl := some_e h2
  exact wk_ret (r_1 Tryz.results35 (rv_t rfl)) sN ⟨rfl, rfl⟩
 ·have h3 := cnd_f c1 h
  refine wc_skip ?_
  refine wk_x ?_
  refine wc_seq ?_
  refine wc_sr ?_
  refine wm rfl ?_
  refine wv (o_len_zt (ys := l) (enc := eTApiChange) Tryz.underlying31 rfl) ?_
  refine wv (r := rI .i64 0) (o_move rfl) ?_
  refine wl_x ?_
  refine wc_block ?_
  obtain ⟨o46, eo47, hK48⟩ := obn_e h3
  refine wc_loop2 (S := Nat × (Int) × (Unit)) (V := (Unit) × (Unit)) 0 (fun σ => lop (fun σ => kValid_b1 F l σ) σ.1 σ.2.1 = some o46) (fun σ => [(2, rI .i64 0), (9, rSl 4 (List.map eTApiChange l)), (10, rI .i64 (l.length : Int)), (11, rI .i64 σ.2.1)]) (fun σ => []) (fun σ => σ.1) (F, 0, ()) eo47 (Sub.c rfl (Sub.c rfl (Sub.c rfl (Sub.c rfl Sub.nil)))) sN (fun σ => kValid_k1  = some r) (fun σ => [(2, rI .i64 0)]) (fun σ => []) ?_ ?_
  ·rintro ⟨n54, x31, ⟨⟩⟩ hi52
   refine wc_as (l' := [(2, rI .i64 0), (9, rSl 4 (List.map eTApiChange l)), (10, rI .i64 (l.length : Int)), (11, rI .i64 x31)]) (H' := []) rfl rfl ?_
   obtain ⟨m51, rfl, t49, h53, ht50⟩ := lop_e hi52
   replace h53 : kValid_b1 F l x31 = some t49 := h53
   unfold kValid_b1 at h53
   refine wc_sr ?_
   refine wv (o_lt rfl rfl) ?_
   refine wl_x ?_
   refine wc_seq ?_
   refine wc_cond (b := decide (x31 < (l.length : Int))) rfl (fun c55 => ?_) (fun c55 => ?_)
   ·have h56 := cnd_t c55 h53
    refine wc_skip ?_
    refine wk_x ?_
    refine wc_seq ?_
    refine wc_block ?_
    refine wc_sr ?_
    obtain ⟨g57, h58⟩ := chk_e h56
    refine wv (o_ix_z (enc := eTApiChange) (ys := l) Tryz.underlying31 Tryz.sizeOf50 rfl rfl g57) ?_
    refine wv (o_load_za Tryz.isAgg50 Tryz.sizeOf50 rfl rfl rfl) ?_
    refine w_alloc (cs := [rS ([] : Str), rB false, rv (.slice none 0 0), rI .i64 0]) Tryz.zeroValue50 rfl rfl (fun b59 => ?_)
    refine u_store_agg (i := 0) Tryz.sizeOf50 rfl rfl rfl (OneAll.c rfl) rfl rfl (cs' := [rS ((at' l x31).fKey), rB ((at' l x31).fDelete), rSl 4 (List.map eTApiCell ((at' l x31).fValue)), rI .i64 ((at' l x31).fIfVersion)]) rfl (H' := [.blk b59 (eTApiChange (at' l x31)) 50]) rfl ?_
    refine wl_y ?_
    refine wv (o_load_agg (i := 0) Tryz.isAgg50 Tryz.sizeOf50 rfl rfl rfl rfl) ?_
    obtain ⟨r60, e62, h61⟩ := obn_e h58
    refine wc0 Tryz.call55 (kCheck_w F (at' l x31) r60 e62) rfl ?_
    refine wa rfl ?_
    refine wl_y ?_
    refine wm rfl ?_
    refine wv (o_ne rfl rfl) ?_
    refine wl_x ?_
    refine wc_cond (b := !decide (r60 = 0)) rfl (fun c63 => ?_) (fun c63 => ?_)
    ·have h64 := cnd_t c63 h61
     refine wc_sr ?_
     refine wm rfl ?_
     refine wa rfl ?_
     refine wl_x ?_
     refine wc_ret ?_
     refine wk_in_ret ?_
     refine wk_then_ret ?_
     refine wk_then_ret ?_
     refine wk_cut_ret ?_
     have h65 := stp_ret h64 ht50 hK48
     refine wk_in_ret ?_
     refine wk_then_ret ?_
     obtain rfl := some_e h65
     exact wk_ret (r_1 Tryz.results35 (rv_t rfl)) (sS sN) ⟨rfl, rfl⟩
    ·have h66 := cnd_f c63 h61
     refine wc_skip ?_
     refine wk_in_norm ?_
     refine wk_x ?_
     refine wc_region ?_
     obtain ⟨g67, h68⟩ := chk_e h66
     refine wv (o_add rfl rfl g67) ?_
     refine wm rfl ?_
     refine wl_nil ?_
     have h69 := stp_next h68 ht50
     exact wk_then (wk_some (m51, x31 + 1, ()) ⟨h69, Nat.lt_succ_self _⟩ (Sub.c rfl (Sub.c rfl (Sub.c rfl (Sub.c rfl Sub.nil)))) (sS sN))
   ·have h70 := cnd_f c55 h53
    refine wc_exit ?_
    refine wk_then_exit ?_
    have h71 := stp_go h70 ht50 hK48
    exact wk_then_exit (wk_cut_hit (wk_some ((), ()) h71 (Sub.c rfl Sub.nil) sN))
  ·rintro ⟨⟨⟩, ⟨⟩⟩ h72
   refine wk_as (l' := [(2, rI .i64 0)]) (H' := []) rfl rfl ?_
   replace h72 : kValid_k1  = some r := h72
   unfold kValid_k1 at h72
   refine wk_in_hit ?_
   refine wk_x ?_
   refine wc_sr ?_
   refine wv (r := rI .i64 0) (o_assign rfl) ?_
   refine wl_x ?_
   refine wc_ret ?_
   obtain rfl := some_e h72
   exact wk_ret (r_1 Tryz.results35 (rv_t rfl)) sN ⟨rfl, rfl⟩

theorem kNew_w  (r : TKvStore) (h : kNew = some r) : Fn Tryz.prog GE 11 [] [] (fun R H => ∃ u0 : Nat, ∃ u0_0 : Nat, ∃ u0_1 : Nat, R = rv (.pointer (some ⟨u0, 0, none⟩)) ∧ H = [.blk u0 [rv (.map (some u0_0)), rv (.map (some u0_1))] 59, .map u0_0 (menc m_TApiItem r.fItems), .map u0_1 (menc m_TApiItem r.fChanged)]) := by
 refine enter (n := 5) Tryz.func11 rfl Tryz.ntmps11 rfl (fun w Z => ?_)
 refine wc_as (l' := []) (H' := []) rfl rfl ?_
 unfold kNew at h
 refine wc_sr ?_
 refine wv (r := rv (.pointer none)) (o_assign rfl) ?_
 refine wl_y ?_
 refine w_makeMap rfl (fun b1 => ?_)
 refine w_makeMap rfl (fun b2 => ?_)
 refine wv (r := rAgg [rv (.map (some b1)), rv (.map (some b2))]) (o_build59_0_1 rfl rfl rfl rfl) ?_
 refine w_box_agg rfl rfl (fun b3 => ?_)
 refine wa rfl ?_
 refine wl_x ?_
 refine wc_ret ?_
 refine wk_perm (H2 := [.blk b3 [rv (.map (some b1)), rv (.map (some b2))] 59, .map b1 (menc m_TApiItem ([] : List (Str × TApiItem))), .map b2 (menc m_TApiItem ([] : List (Str × TApiItem)))]) ((perm_front (i := 0) rfl).trans (List.Perm.cons _ ((perm_front (i := 1) rfl).trans (List.Perm.cons _ (List.Perm.refl _))))) ?_
 obtain rfl := some_e h
 exact wk_ret (r_1 Tryz.results11 (rv_t rfl)) (sC (sC (sC sN))) ⟨b3, b1, b2, rfl, rfl⟩

theorem kMadeNil_w  (r : Bool) (h : kMadeNil = some r) : Fn Tryz.prog GE 34 [rv (.pointer none)] [] (fun R H => R = rB r ∧ H = []) := by
 refine enter (n := 12) Tryz.func34 rfl Tryz.ntmps34 rfl (fun w Z => ?_)
 refine wc_as (l' := [(0, rv (.pointer none))]) (H' := []) rfl rfl ?_
 unfold kMadeNil at h
 refine wc_sr ?_
 refine wv (r := rB false) (o_assign rfl) ?_
 refine wl_x ?_
 refine wc_seq_mid [(2, rB false)] [] ?_ ?_
 ·refine wc_region ?_
  refine wm rfl ?_
  refine wv (r := rB false) (o_pnil_n_ne ⟨_, Tryz.underlying25⟩ rfl) ?_
  refine wm rfl ?_
  refine wl_off (b := false) rfl rfl rfl rfl ?_
  refine wl_off (b := false) rfl rfl rfl rfl ?_
  refine wl_off (b := false) rfl rfl rfl rfl ?_
  refine wl_off (b := false) rfl rfl rfl rfl ?_
  refine wl_off (b := false) rfl rfl rfl rfl ?_
  refine wv (r := rB false) (o_pick_f (b := false) rfl rfl rfl) ?_
  refine wa rfl ?_
  refine wl_nil ?_
  exact wt
 refine wc_ret ?_
 obtain rfl := some_e h
 exact wk_ret (r_1 Tryz.results34 (rv_t rfl)) sN ⟨rfl, rfl⟩

theorem kMadeZero_w (b_q : Nat)  (r : Bool) (h : kMadeZero = some r) : Fn Tryz.prog GE 34 [rv (.pointer (some ⟨b_q, 0, none⟩))] [.blk b_q [rv (.map none), rv (.map none)] 59] (fun R H => R = rB r ∧ H = [.blk b_q [rv (.map none), rv (.map none)] 59]) := by
 refine enter (n := 12) Tryz.func34 rfl Tryz.ntmps34 rfl (fun w Z => ?_)
 refine wc_as (l' := [(0, rv (.pointer (some ⟨b_q, 0, none⟩)))]) (H' := [.blk b_q [rv (.map none), rv (.map none)] 59]) rfl rfl ?_
 unfold kMadeZero at h
 refine wc_sr ?_
 refine wv (r := rB false) (o_assign rfl) ?_
 refine wl_x ?_
 refine wc_seq_mid [(2, rB false)] [.blk b_q [rv (.map none), rv (.map none)] 59] ?_ ?_
 ·refine wc_region ?_
  refine wm rfl ?_
  refine wv (r := rB true) (o_pnil_ne ⟨_, Tryz.underlying25⟩ rfl) ?_
  refine wm rfl ?_
  refine wl_on (b := true) rfl rfl rfl ?_
  refine wm rfl ?_
  refine wl_on (b := true) rfl rfl rfl ?_
  refine wv (o_nilcheck rfl) ?_
  refine wl_on (b := true) rfl rfl rfl ?_
  refine wv (o_fieldAddr Tryz.underlying59 rfl Tryz.sizeOf57 rfl rfl) ?_
  refine wl_on (b := true) rfl rfl rfl ?_
  refine wv (o_load (i := 0) Tryz.isAgg57 rfl rfl rfl) ?_
  refine wl_on (b := true) rfl rfl rfl ?_
  refine wv (r := rB false) (o_mnotnil (v := none) Tryz.underlying57 rfl) ?_
  refine wv (r := rB false) (o_pick_t (b := true) rfl rfl rfl) ?_
  refine wa rfl ?_
  refine wl_nil ?_
  exact wt
 refine wc_ret ?_
 obtain rfl := some_e h
 exact wk_ret (r_1 Tryz.results34 (rv_t rfl)) (sC sN) ⟨rfl, rfl⟩

theorem kMade_w (b_q : Nat) (v_q_0 : Nat) (v_q_1 : Nat) (q : TKvStore) (r : Bool × TKvStore) (h : kMade q = some r) : Fn Tryz.prog GE 34 [rv (.pointer (some ⟨b_q, 0, none⟩))] [.blk b_q [rv (.map (some v_q_0)), rv (.map (some v_q_1))] 59, .map v_q_0 (menc m_TApiItem q.fItems), .map v_q_1 (menc m_TApiItem q.fChanged)] (fun R H => R = rB r.1 ∧ H = [.blk b_q [rv (.map (some v_q_0)), rv (.map (some v_q_1))] 59, .map v_q_0 (menc m_TApiItem r.2.fItems), .map v_q_1 (menc m_TApiItem r.2.fChanged)]) := by
 refine enter (n := 12) Tryz.func34 rfl Tryz.ntmps34 rfl (fun w Z => ?_)
 refine wc_as (l' := [(0, rv (.pointer (some ⟨b_q, 0, none⟩)))]) (H' := [.blk b_q [rv (.map (some v_q_0)), rv (.map (some v_q_1))] 59, .map v_q_0 (menc m_TApiItem q.fItems), .map v_q_1 (menc m_TApiItem q.fChanged)]) rfl rfl ?_
 unfold kMade at h
 refine wc_sr ?_
 refine wv (r := rB false) (o_assign rfl) ?_
 refine wl_x ?_
 refine wc_seq_mid [(2, rB true)] [.blk b_q [rv (.map (some v_q_0)), rv (.map (some v_q_1))] 59, .map v_q_0 (menc m_TApiItem q.fItems), .map v_q_1 (menc m_TApiItem q.fChanged)] ?_ ?_
 ·refine wc_region ?_
  refine wm rfl ?_
  refine wv (r := rB true) (o_pnil_ne ⟨_, Tryz.underlying25⟩ rfl) ?_
  refine wm rfl ?_
  refine wl_on (b := true) rfl rfl rfl ?_
  refine wm rfl ?_
  refine wl_on (b := true) rfl rfl rfl ?_
  refine wv (o_nilcheck rfl) ?_
  refine wl_on (b := true) rfl rfl rfl ?_
  refine wv (o_fieldAddr Tryz.underlying59 rfl Tryz.sizeOf57 rfl rfl) ?_
  refine wl_on (b := true) rfl rfl rfl ?_
  refine wv (o_load (i := 0) Tryz.isAgg57 rfl rfl rfl) ?_
  refine wl_on (b := true) rfl rfl rfl ?_
  refine wv (r := rB true) (o_mnotnil (v := some v_q_0) Tryz.underlying57 rfl) ?_
  refine wv (r := rB true) (o_pick_t (b := true) rfl rfl rfl) ?_
  refine wa rfl ?_
  refine wl_nil ?_
  exact wt
 refine wc_ret ?_
 obtain rfl := some_e h
 exact wk_ret (r_1 Tryz.results34 (rv_t rfl)) (sC (sC (sC sN))) ⟨rfl, rfl⟩

theorem kNow_w (b_q : Nat) (v_q_0 : Nat) (v_q_1 : Nat) (q : TKvStore) (key : Str) (r : TApiItem × TKvStore) (h : kNow q key = some r) : Fn Tryz.prog GE 58 [rv (.pointer (some ⟨b_q, 0, none⟩)), rS key] [.blk b_q [rv (.map (some v_q_0)), rv (.map (some v_q_1))] 59, .map v_q_0 (menc m_TApiItem q.fItems), .map v_q_1 (menc m_TApiItem q.fChanged)] (fun R H => R = rAgg (eTApiItem r.1) ∧ H = [.blk b_q [rv (.map (some v_q_0)), rv (.map (some v_q_1))] 59, .map v_q_0 (menc m_TApiItem r.2.fItems), .map v_q_1 (menc m_TApiItem r.2.fChanged)]) := by
 refine enter (n := 24) Tryz.func58 rfl Tryz.ntmps58 rfl (fun w Z => ?_)
 refine wc_as (l' := [(0, rv (.pointer (some ⟨b_q, 0, none⟩))), (1, rS key)]) (H' := [.blk b_q [rv (.map (some v_q_0)), rv (.map (some v_q_1))] 59, .map v_q_0 (menc m_TApiItem q.fItems), .map v_q_1 (menc m_TApiItem q.fChanged)]) rfl rfl ?_
 unfold kNow at h
 refine wc_sr ?_
 refine w_alloc (cs := [rS ([] : Str), rv (.slice none 0 0), rI .i64 0]) Tryz.zeroValue35 rfl rfl (fun b1 => ?_)
 refine wl_x ?_
 refine wc_seq ?_
 refine wc_sr ?_
 refine wm rfl ?_
 refine wv (o_nilcheck rfl) ?_
 refine wv (o_fieldAddr Tryz.underlying59 rfl Tryz.sizeOf57 rfl rfl) ?_
 refine wv (o_load (i := 1) Tryz.isAgg57 rfl rfl rfl) ?_
 refine wm rfl ?_
 refine wv (r := rTup [rAgg [rS ((mval q.fChanged key (TApiItem.mk ([] : Str) ([] : (List TApiCell)) 0)).fKey), rSl 4 (List.map eTApiCell ((mval q.fChanged key (TApiItem.mk ([] : Str) ([] : (List TApiCell)) 0)).fValue)), rI .i64 ((mval q.fChanged key (TApiItem.mk ([] : Str) ([] : (List TApiCell)) 0)).fVersion)], rB (mhas q.fChanged key)]) (o_mgetc (enc := m_TApiItem) (xs := q.fChanged) (z := TApiItem.mk ([] : Str) ([] : (List TApiCell)) 0) (i := 3) Tryz.underlying57 Tryz.underlying9 Tryz.zeroValue35 m_TApiItem_z rfl rfl rfl) ?_
 refine wm rfl ?_
 refine wv (o_extract rfl rfl) ?_
 refine wv (o_extract rfl rfl) ?_
 refine w_alloc (cs := [rS ([] : Str), rv (.slice none 0 0), rI .i64 0]) Tryz.zeroValue35 rfl rfl (fun b2 => ?_)
 refine u_store_agg (i := 0) Tryz.sizeOf35 rfl rfl rfl (OneAll.c rfl) rfl rfl (cs' := [rS ((mval q.fChanged key (TApiItem.mk ([] : Str) ([] : (List TApiCell)) 0)).fKey), rSl 4 (List.map eTApiCell ((mval q.fChanged key (TApiItem.mk ([] : Str) ([] : (List TApiCell)) 0)).fValue)), rI .i64 ((mval q.fChanged key (TApiItem.mk ([] : Str) ([] : (List TApiCell)) 0)).fVersion)]) rfl (H' := [.blk b2 [rS ((mval q.fChanged key (TApiItem.mk ([] : Str) ([] : (List TApiCell)) 0)).fKey), rSl 4 (List.map eTApiCell ((mval q.fChanged key (TApiItem.mk ([] : Str) ([] : (List TApiCell)) 0)).fValue)), rI .i64 ((mval q.fChanged key (TApiItem.mk ([] : Str) ([] : (List TApiCell)) 0)).fVersion)] 35, .blk b1 [rS ([] : Str), rv (.slice none 0 0), rI .i64 0] 35, .blk b_q [rv (.map (some v_q_0)), rv (.map (some v_q_1))] 59, .map v_q_0 (menc m_TApiItem q.fItems), .map v_q_1 (menc m_TApiItem q.fChanged)]) rfl ?_
 refine wa rfl ?_
 refine wl_y ?_
 refine wm rfl ?_
 refine wl_x ?_
 refine wc_cond (b := mhas q.fChanged key) rfl (fun c3 => ?_) (fun c3 => ?_)
 ·have h4 := cnd_t c3 h
  refine wc_sr ?_
  refine wv (o_load_agg (i := 0) Tryz.isAgg35 Tryz.sizeOf35 rfl rfl rfl rfl) ?_
  refine u_store_agg (i := 1) Tryz.sizeOf35 rfl rfl rfl (OneAll.c rfl) rfl rfl (cs' := [rS ((mval q.fChanged key (TApiItem.mk ([] : Str) ([] : (List TApiCell)) 0)).fKey), rSl 4 (List.map eTApiCell ((mval q.fChanged key (TApiItem.mk ([] : Str) ([] : (List TApiCell)) 0)).fValue)), rI .i64 ((mval q.fChanged key (TApiItem.mk ([] : Str) ([] : (List TApiCell)) 0)).fVersion)]) rfl (H' := [.blk b2 [rS ((mval q.fChanged key (TApiItem.mk ([] : Str) ([] : (List TApiCell)) 0)).fKey), rSl 4 (List.map eTApiCell ((mval q.fChanged key (TApiItem.mk ([] : Str) ([] : (List TApiCell)) 0)).fValue)), rI .i64 ((mval q.fChanged key (TApiItem.mk ([] : Str) ([] : (List TApiCell)) 0)).fVersion)] 35, .blk b1 [rS ((mval q.fChanged key (TApiItem.mk ([] : Str) ([] : (List TApiCell)) 0)).fKey), rSl 4 (List.map eTApiCell ((mval q.fChanged key (TApiItem.mk ([] : Str) ([] : (List TApiCell)) 0)).fValue)), rI .i64 ((mval q.fChanged key (TApiItem.mk ([] : Str) ([] : (List TApiCell)) 0)).fVersion)] 35, .blk b_q [rv (.map (some v_q_0)), rv (.map (some v_q_1))] 59, .map v_q_0 (menc m_TApiItem q.fItems), .map v_q_1 (menc m_TApiItem q.fChanged)]) rfl ?_
  refine wl_x ?_
  refine wc_ret ?_
  refine wk_then_ret ?_
  obtain rfl := some_e h4
  exact wk_ret (r_1 Tryz.results58 (rv_ca (i := 1) Tryz.isAgg35 Tryz.sizeOf35 rfl rfl rfl)) (sS (sS (sC (sC (sC sN))))) ⟨rfl, rfl⟩
 ·have h5 := cnd_f c3 h
  refine wc_skip ?_
  refine wk_x ?_
  refine wc_sr ?_
  refine wm rfl ?_
  refine wv (o_nilcheck rfl) ?_
  refine wv (o_fieldAddr Tryz.underlying59 rfl Tryz.sizeOf57 rfl rfl) ?_
  refine wv (o_load (i := 2) Tryz.isAgg57 rfl rfl rfl) ?_
  refine wm rfl ?_
  refine wv (r := rAgg [rS ((mval q.fItems key (TApiItem.mk ([] : Str) ([] : (List TApiCell)) 0)).fKey), rSl 4 (List.map eTApiCell ((mval q.fItems key (TApiItem.mk ([] : Str) ([] : (List TApiCell)) 0)).fValue)), rI .i64 ((mval q.fItems key (TApiItem.mk ([] : Str) ([] : (List TApiCell)) 0)).fVersion)]) (o_mget (enc := m_TApiItem) (xs := q.fItems) (z := TApiItem.mk ([] : Str) ([] : (List TApiCell)) 0) (i := 3) Tryz.underlying57 Tryz.underlying9 Tryz.zeroValue35 m_TApiItem_z rfl rfl rfl) ?_
  refine u_store_agg (i := 1) Tryz.sizeOf35 rfl rfl rfl (OneAll.c rfl) rfl rfl (cs' := [rS ((mval q.fItems key (TApiItem.mk ([] : Str) ([] : (List TApiCell)) 0)).fKey), rSl 4 (List.map eTApiCell ((mval q.fItems key (TApiItem.mk ([] : Str) ([] : (List TApiCell)) 0)).fValue)), rI .i64 ((mval q.fItems key (TApiItem.mk ([] : Str) ([] : (List TApiCell)) 0)).fVersion)]) rfl (H' := [.blk b2 [rS ((mval q.fChanged key (TApiItem.mk ([] : Str) ([] : (List TApiCell)) 0)).fKey), rSl 4 (List.map eTApiCell ((mval q.fChanged key (TApiItem.mk ([] : Str) ([] : (List TApiCell)) 0)).fValue)), rI .i64 ((mval q.fChanged key (TApiItem.mk ([] : Str) ([] : (List TApiCell)) 0)).fVersion)] 35, .blk b1 [rS ((mval q.fItems key (TApiItem.mk ([] : Str) ([] : (List TApiCell)) 0)).fKey), rSl 4 (List.map eTApiCell ((mval q.fItems key (TApiItem.mk ([] : Str) ([] : (List TApiCell)) 0)).fValue)), rI .i64 ((mval q.fItems key (TApiItem.mk ([] : Str) ([] : (List TApiCell)) 0)).fVersion)] 35, .blk b_q [rv (.map (some v_q_0)), rv (.map (some v_q_1))] 59, .map v_q_0 (menc m_TApiItem q.fItems), .map v_q_1 (menc m_TApiItem q.fChanged)]) rfl ?_
  refine wl_x ?_
  refine wc_ret ?_
  obtain rfl := some_e h5
  exact wk_ret (r_1 Tryz.results58 (rv_ca (i := 1) Tryz.isAgg35 Tryz.sizeOf35 rfl rfl rfl)) (sS (sS (sC (sC (sC sN))))) ⟨rfl, rfl⟩

theorem kChange_w (b_q : Nat) (v_q_0 : Nat) (v_q_1 : Nat) (q : TKvStore) (c : TApiChange) (size : Int) (r : Int × Int × TKvStore) (h : kChange q c size = some r) : Fn Tryz.prog GE 36 [rv (.pointer (some ⟨b_q, 0, none⟩)), rAgg (eTApiChange c), rI .i64 size] [.blk b_q [rv (.map (some v_q_0)), rv (.map (some v_q_1))] 59, .map v_q_0 (menc m_TApiItem q.fItems), .map v_q_1 (menc m_TApiItem q.fChanged)] (fun R H => R = rTup [rI .i64 r.1, rI .i64 r.2.1] ∧ H = [.blk b_q [rv (.map (some v_q_0)), rv (.map (some v_q_1))] 59, .map v_q_0 (menc m_TApiItem r.2.2.fItems), .map v_q_1 (menc m_TApiItem r.2.2.fChanged)]) := by
 refine enter (n := 74) Tryz.func36 rfl Tryz.ntmps36 rfl (fun w Z => ?_)
 refine wc_as (l' := [(0, rv (.pointer (some ⟨b_q, 0, none⟩))), (1, rAgg (eTApiChange c)), (2, rI .i64 size)]) (H' := [.blk b_q [rv (.map (some v_q_0)), rv (.map (some v_q_1))] 59, .map v_q_0 (menc m_TApiItem q.fItems), .map v_q_1 (menc m_TApiItem q.fChanged)]) rfl rfl ?_
 unfold kChange at h
 refine wc_sr ?_
 refine w_box_agg rfl rfl (fun b1 => ?_)
 refine wv (r := rI .i64 0) (o_assign rfl) ?_
 refine wv (r := rI .i64 0) (o_assign rfl) ?_
 refine wl_y ?_
 refine wm rfl ?_
 refine wv (o_fieldAddr Tryz.underlying50 rfl Tryz.sizeOf9 rfl rfl) ?_
 refine wv (o_load (i := 0) Tryz.isAgg9 rfl rfl rfl) ?_
 obtain ⟨r2, e4, h3⟩ := obn_e h
 refine wcl (Hr := [.blk b1 (eTApiChange c) 50]) Tryz.call58 (kNow_w b_q v_q_0 v_q_1 q c.fKey r2 e4) rfl ((perm_front (i := 1) rfl).trans (List.Perm.cons _ ((perm_front (i := 1) rfl).trans (List.Perm.cons _ ((perm_front (i := 1) rfl).trans (List.Perm.cons _ (List.Perm.refl _))))))) rfl ?_
 rintro _ _ ⟨rfl, rfl⟩
 refine w_alloc (cs := [rS ([] : Str), rv (.slice none 0 0), rI .i64 0]) Tryz.zeroValue35 rfl rfl (fun b5 => ?_)
 refine u_store_agg (i := 0) Tryz.sizeOf35 rfl rfl rfl (OneAll.c rfl) rfl rfl (cs' := [rS r2.1.fKey, rSl 4 (List.map eTApiCell r2.1.fValue), rI .i64 r2.1.fVersion]) rfl (H' := [.blk b5 (eTApiItem r2.1) 35, .blk b_q [rv (.map (some v_q_0)), rv (.map (some v_q_1))] 59, .map v_q_0 (menc m_TApiItem r2.2.fItems), .map v_q_1 (menc m_TApiItem r2.2.fChanged), .blk b1 (eTApiChange c) 50]) rfl ?_
 refine wl_x ?_
 refine wc_seq_cut (S := (Int) × (Unit)) (fun σ => kChange_j1 c r2 σ.1 = some r) (fun σ => [(0, rv (.pointer (some ⟨b_q, 0, none⟩))), (2, rI .i64 σ.1), (4, rv (.pointer (some ⟨b1, 0, none⟩))), (8, rv (.pointer (some ⟨b5, 0, none⟩)))]) (fun σ => [.blk b5 (eTApiItem r2.1) 35, .blk b_q [rv (.map (some v_q_0)), rv (.map (some v_q_1))] 59, .map v_q_0 (menc m_TApiItem r2.2.fItems), .map v_q_1 (menc m_TApiItem r2.2.fChanged), .blk b1 (eTApiChange c) 50]) ?_ ?_
 ·refine wc_block ?_
  refine wc_seq_mid [(0, rv (.pointer (some ⟨b_q, 0, none⟩))), (2, rI .i64 size), (4, rv (.pointer (some ⟨b1, 0, none⟩))), (8, rv (.pointer (some ⟨b5, 0, none⟩))), (13, rB ((decide (0 ≤ c.fIfVersion)) && (!decide (c.fIfVersion = r2.1.fVersion))))] [.blk b5 (eTApiItem r2.1) 35, .blk b_q [rv (.map (some v_q_0)), rv (.map (some v_q_1))] 59, .map v_q_0 (menc m_TApiItem r2.2.fItems), .map v_q_1 (menc m_TApiItem r2.2.fChanged), .blk b1 (eTApiChange c) 50] ?_ ?_
  ·refine wc_region ?_
   refine wv (o_fieldAddr Tryz.underlying50 rfl Tryz.sizeOf3 rfl rfl) ?_
   refine wv (o_load (i := 4) Tryz.isAgg3 rfl rfl rfl) ?_
   refine wv (o_ge rfl rfl) ?_
   refine wm rfl ?_
   refine bsplit (decide (0 ≤ c.fIfVersion)) (fun c31 => ?_) (fun c31 => ?_)
   ·refine wo c31 ?_
    refine wv (o_fieldAddr Tryz.underlying50 rfl Tryz.sizeOf3 rfl rfl) ?_
    refine wo c31 ?_
    refine wv (o_load (i := 4) Tryz.isAgg3 rfl rfl rfl) ?_
    refine wo c31 ?_
    refine wv (o_fieldAddr Tryz.underlying35 rfl Tryz.sizeOf3 rfl rfl) ?_
    refine wo c31 ?_
    refine wv (o_load (i := 0) Tryz.isAgg3 rfl rfl rfl) ?_
    refine wo c31 ?_
    refine wv (o_ne rfl rfl) ?_
    refine wpt rfl c31 rfl ?_
    refine wa rfl ?_
    refine wl_nil ?_
    exact wtc c31
   ·refine wf c31 ?_
    refine wf c31 ?_
    refine wf c31 ?_
    refine wf c31 ?_
    refine wf c31 ?_
    refine wv (r := rB false) (o_pick_f (b := decide (0 ≤ c.fIfVersion)) rfl c31 rfl) ?_
    refine wa rfl ?_
    refine wl_nil ?_
    exact wtc c31
  refine wc_cond (b := ((decide (0 ≤ c.fIfVersion)) && (!decide (c.fIfVersion = r2.1.fVersion)))) rfl (fun c32 => ?_) (fun c32 => ?_)
  ·have h33 := cnd_t c32 h3
   refine wc_sr ?_
   refine wv (r := rI .i64 0) (o_assign rfl) ?_
   refine wv (r := rI .i64 19) (o_assign rfl) ?_
   refine wl_x ?_
   refine wc_ret ?_
   refine wk_in_ret ?_
   refine wk_then_ret ?_
   obtain rfl := some_e h33
   exact wk_ret (r_2 Tryz.results36 (rv_t rfl) (rv_t rfl)) (sS (sC (sC (sC (sS sN))))) ⟨rfl, rfl⟩
  ·have h34 := cnd_f c32 h3
   refine wc_sr ?_
   refine wv (o_fieldAddr Tryz.underlying50 rfl Tryz.sizeOf4 rfl rfl) ?_
   refine wv (o_load (i := 4) Tryz.isAgg4 rfl rfl rfl) ?_
   refine wa rfl ?_
   refine wl_x ?_
   refine wc_cond (b := c.fDelete) rfl (fun c35 => ?_) (fun c35 => ?_)
   ·have h36 := cnd_t c35 h34
    refine wc_seq ?_
    refine wc_sr ?_
    refine wv (o_fieldAddr Tryz.underlying35 rfl Tryz.sizeOf3 rfl rfl) ?_
    refine wv (o_load (i := 0) Tryz.isAgg3 rfl rfl rfl) ?_
    refine wv (o_gt rfl rfl) ?_
    refine wl_x ?_
    refine wc_cond (b := decide (0 < r2.1.fVersion)) rfl (fun c37 => ?_) (fun c37 => ?_)
    ·have h38 := cnd_t c37 h36
     refine wc_region ?_
     refine wm rfl ?_
     obtain ⟨g39, h40⟩ := chk_e h38
     refine wv (o_sub rfl rfl g39) ?_
     refine wa rfl ?_
     refine wl_x ?_
     refine wc_seq ?_
     refine wc_rdak 7 [0, 2, 4] [⟨[], rv (.pointer (some ⟨b_q, 0, none⟩)), none, none, none⟩, ⟨[0], rv (.pointer (some ⟨b_q, 0, none⟩)), none, none, none⟩, ⟨[1], rv (.pointer (some ⟨b_q, 1, none⟩)), none, none, none⟩, ⟨[2], rv (.map (some v_q_1)), none, none, none⟩, ⟨[], rv (.pointer (some ⟨b1, 0, none⟩)), none, none, none⟩, ⟨[4], rS c.fKey, none, none, none⟩, ⟨[], rAgg [rS ([] : Str), rv (.slice none 0 0), rI .i64 0], none, none, none⟩] ?_ (fun β => ?_)
     ·refine oaq (o_move rfl) ?_
      refine oaq (o_nilcheck rfl) ?_
      refine oaq (o_fieldAddr Tryz.underlying59 rfl Tryz.sizeOf57 rfl rfl) ?_
      refine oaf (o_load (i := 1) Tryz.isAgg57 rfl rfl rfl) ?_
      refine oaq (o_fieldAddr Tryz.underlying50 rfl Tryz.sizeOf9 rfl rfl) ?_
      refine oaf (o_load (i := 4) Tryz.isAgg9 rfl rfl rfl) ?_
      refine oaq (o_build35_ ) ?_
      exact oae
     refine wl_kza (H1 := [.blk b5 (eTApiItem r2.1) 35, .blk b_q [rv (.map (some v_q_0)), rv (.map (some v_q_1))] 59, .map v_q_0 (menc m_TApiItem r2.2.fItems), .map v_q_1 (menc m_TApiItem r2.2.fChanged), .blk b1 (eTApiChange c) 50]) [32, 33, 34, 35, 36, 37, 38, 0, 2, 4] ?_
     refine WL.up (d := 38) (r := rAgg [rS ([] : Str), rSl 4 (List.map eTApiCell ([] : List TApiCell)), rI .i64 0]) rfl (Up.agg ⟨Up.refl _, Up.le (Rle.nil _), Up.refl _, trivial⟩) ?_
     refine u_msete (enc := m_TApiItem) (xs := r2.2.fChanged) (v := (TApiItem.mk ([] : Str) ([] : List TApiCell) 0)) (i := 3) Tryz.underlying57 Tryz.underlying9 rfl rfl rfl rfl (H' := [.blk b5 (eTApiItem r2.1) 35, .blk b_q [rv (.map (some v_q_0)), rv (.map (some v_q_1))] 59, .map v_q_0 (menc m_TApiItem r2.2.fItems), .map v_q_1 (menc m_TApiItem (mset r2.2.fChanged c.fKey (TApiItem.mk ([] : Str) ([] : List TApiCell) 0))), .blk b1 (eTApiChange c) 50]) rfl ?_
     refine wl_y ?_
     refine wm rfl ?_
     refine wa rfl ?_
     refine wv (r := rI .i64 0) (o_assign rfl) ?_
     refine wl_x ?_
     refine wc_ret ?_
     refine wk_in_ret ?_
     refine wk_then_ret ?_
     obtain rfl := some_e h40
     exact wk_ret (r_2 Tryz.results36 (rv_t rfl) (rv_t rfl)) (sS (sC (sC (sC (sS sN))))) ⟨rfl, rfl⟩
    ·have h41 := cnd_f c37 h36
     refine wc_skip ?_
     refine wk_x ?_
     refine wc_seq ?_
     refine wc_rdak 7 [0, 2, 4] [⟨[], rv (.pointer (some ⟨b_q, 0, none⟩)), none, none, none⟩, ⟨[0], rv (.pointer (some ⟨b_q, 0, none⟩)), none, none, none⟩, ⟨[1], rv (.pointer (some ⟨b_q, 1, none⟩)), none, none, none⟩, ⟨[2], rv (.map (some v_q_1)), none, none, none⟩, ⟨[], rv (.pointer (some ⟨b1, 0, none⟩)), none, none, none⟩, ⟨[4], rS c.fKey, none, none, none⟩, ⟨[], rAgg [rS ([] : Str), rv (.slice none 0 0), rI .i64 0], none, none, none⟩] ?_ (fun β => ?_)
     ·refine oaq (o_move rfl) ?_
      refine oaq (o_nilcheck rfl) ?_
      refine oaq (o_fieldAddr Tryz.underlying59 rfl Tryz.sizeOf57 rfl rfl) ?_
      refine oaf (o_load (i := 1) Tryz.isAgg57 rfl rfl rfl) ?_
      refine oaq (o_fieldAddr Tryz.underlying50 rfl Tryz.sizeOf9 rfl rfl) ?_
      refine oaf (o_load (i := 4) Tryz.isAgg9 rfl rfl rfl) ?_
      refine oaq (o_build35_ ) ?_
      exact oae
     refine wl_kza (H1 := [.blk b5 (eTApiItem r2.1) 35, .blk b_q [rv (.map (some v_q_0)), rv (.map (some v_q_1))] 59, .map v_q_0 (menc m_TApiItem r2.2.fItems), .map v_q_1 (menc m_TApiItem r2.2.fChanged), .blk b1 (eTApiChange c) 50]) [32, 33, 34, 35, 36, 37, 38, 0, 2, 4] ?_
     refine WL.up (d := 38) (r := rAgg [rS ([] : Str), rSl 4 (List.map eTApiCell ([] : List TApiCell)), rI .i64 0]) rfl (Up.agg ⟨Up.refl _, Up.le (Rle.nil _), Up.refl _, trivial⟩) ?_
     refine u_msete (enc := m_TApiItem) (xs := r2.2.fChanged) (v := (TApiItem.mk ([] : Str) ([] : List TApiCell) 0)) (i := 3) Tryz.underlying57 Tryz.underlying9 rfl rfl rfl rfl (H' := [.blk b5 (eTApiItem r2.1) 35, .blk b_q [rv (.map (some v_q_0)), rv (.map (some v_q_1))] 59, .map v_q_0 (menc m_TApiItem r2.2.fItems), .map v_q_1 (menc m_TApiItem (mset r2.2.fChanged c.fKey (TApiItem.mk ([] : Str) ([] : List TApiCell) 0))), .blk b1 (eTApiChange c) 50]) rfl ?_
     refine wl_y ?_
     refine wm rfl ?_
     refine wa rfl ?_
     refine wv (r := rI .i64 0) (o_assign rfl) ?_
     refine wl_x ?_
     refine wc_ret ?_
     refine wk_in_ret ?_
     refine wk_then_ret ?_
     obtain rfl := some_e h41
     exact wk_ret (r_2 Tryz.results36 (rv_t rfl) (rv_t rfl)) (sS (sC (sC (sC (sS sN))))) ⟨rfl, rfl⟩
   ·have h42 := cnd_f c35 h34
    refine wc_seq_mid [(0, rv (.pointer (some ⟨b_q, 0, none⟩))), (2, rI .i64 size), (4, rv (.pointer (some ⟨b1, 0, none⟩))), (8, rv (.pointer (some ⟨b5, 0, none⟩))), (40, rB ((decide (r2.1.fVersion = 0)) && (decide (256 ≤ size))))] [.blk b5 (eTApiItem r2.1) 35, .blk b_q [rv (.map (some v_q_0)), rv (.map (some v_q_1))] 59, .map v_q_0 (menc m_TApiItem r2.2.fItems), .map v_q_1 (menc m_TApiItem r2.2.fChanged), .blk b1 (eTApiChange c) 50] ?_ ?_
    ·refine wc_region ?_
     refine wv (o_fieldAddr Tryz.underlying35 rfl Tryz.sizeOf3 rfl rfl) ?_
     refine wv (o_load (i := 0) Tryz.isAgg3 rfl rfl rfl) ?_
     refine wv (o_eq rfl rfl) ?_
     refine wm rfl ?_
     refine bsplit (decide (r2.1.fVersion = 0)) (fun c43 => ?_) (fun c43 => ?_)
     ·refine wo c43 ?_
      refine wm rfl ?_
      refine wo c43 ?_
      refine wv (o_ge rfl rfl) ?_
      refine wpt rfl c43 rfl ?_
      refine wa rfl ?_
      refine wl_nil ?_
      exact wtc c43
     ·refine wf c43 ?_
      refine wf c43 ?_
      refine wv (r := rB false) (o_pick_f (b := decide (r2.1.fVersion = 0)) rfl c43 rfl) ?_
      refine wa rfl ?_
      refine wl_nil ?_
      exact wtc c43
    refine wc_cond (b := ((decide (r2.1.fVersion = 0)) && (decide (256 ≤ size)))) rfl (fun c44 => ?_) (fun c44 => ?_)
    ·have h45 := cnd_t c44 h42
     refine wc_sr ?_
     refine wv (r := rI .i64 0) (o_assign rfl) ?_
     refine wv (r := rI .i64 3) (o_assign rfl) ?_
     refine wl_x ?_
     refine wc_ret ?_
     refine wk_in_ret ?_
     refine wk_then_ret ?_
     obtain rfl := some_e h45
     exact wk_ret (r_2 Tryz.results36 (rv_t rfl) (rv_t rfl)) (sS (sC (sC (sC (sS sN))))) ⟨rfl, rfl⟩
    ·have h46 := cnd_f c44 h42
     refine wc_sr ?_
     refine wv (o_fieldAddr Tryz.underlying35 rfl Tryz.sizeOf3 rfl rfl) ?_
     refine wv (o_load (i := 0) Tryz.isAgg3 rfl rfl rfl) ?_
     refine wv (o_ge rfl rfl) ?_
     refine wa rfl ?_
     refine wl_x ?_
     refine wc_cond (b := decide (1000000000000 ≤ r2.1.fVersion)) rfl (fun c47 => ?_) (fun c47 => ?_)
     ·have h48 := cnd_t c47 h46
      refine wc_sr ?_
      refine wv (r := rI .i64 0) (o_assign rfl) ?_
      refine wv (r := rI .i64 8) (o_assign rfl) ?_
      refine wl_x ?_
      refine wc_ret ?_
      refine wk_in_ret ?_
      refine wk_then_ret ?_
      obtain rfl := some_e h48
      exact wk_ret (r_2 Tryz.results36 (rv_t rfl) (rv_t rfl)) (sS (sC (sC (sC (sS sN))))) ⟨rfl, rfl⟩
     ·have h49 := cnd_f c47 h46
      refine wc_sr ?_
      refine wv (o_fieldAddr Tryz.underlying35 rfl Tryz.sizeOf3 rfl rfl) ?_
      refine wv (o_load (i := 0) Tryz.isAgg3 rfl rfl rfl) ?_
      refine wv (o_eq rfl rfl) ?_
      refine wa rfl ?_
      refine wl_x ?_
      refine wc_cond (b := decide (r2.1.fVersion = 0)) rfl (fun c50 => ?_) (fun c50 => ?_)
      ·have h51 := cnd_t c50 h49
       refine wc_region ?_
       refine wm rfl ?_
       obtain ⟨g52, h53⟩ := chk_e h51
       refine wv (o_add rfl rfl g52) ?_
       refine wa rfl ?_
       refine wl_nil ?_
       refine wk_in_norm ?_
       exact wk_then (wk_some (size + 1, ()) h53 (Sub.c rfl (Sub.c rfl (Sub.c rfl (Sub.c rfl Sub.nil)))) (sC (sC (sC (sC (sC sN))))))
      ·have h54 := cnd_f c50 h49
       refine wc_skip ?_
       refine wk_in_norm ?_
       exact wk_then (wk_some (size, ()) h54 (Sub.c rfl (Sub.c rfl (Sub.c rfl (Sub.c rfl Sub.nil)))) (sC (sC (sC (sC (sC sN))))))
 ·rintro ⟨x30, ⟨⟩⟩ h55
  refine wc_as (l' := [(0, rv (.pointer (some ⟨b_q, 0, none⟩))), (2, rI .i64 x30), (4, rv (.pointer (some ⟨b1, 0, none⟩))), (8, rv (.pointer (some ⟨b5, 0, none⟩)))]) (H' := [.blk b5 (eTApiItem r2.1) 35, .blk b_q [rv (.map (some v_q_0)), rv (.map (some v_q_1))] 59, .map v_q_0 (menc m_TApiItem r2.2.fItems), .map v_q_1 (menc m_TApiItem r2.2.fChanged), .blk b1 (eTApiChange c) 50]) rfl rfl ?_
  replace h55 : kChange_j1 c r2 x30 = some r := h55
  unfold kChange_j1 at h55
  refine wc_seq ?_
  obtain ⟨r56, e58, h57⟩ := obn_e h55
  obtain ⟨g59, h60⟩ := chk_e h57
  refine wc_rdak 15 [0, 2, 4, 8] [⟨[], rv (.pointer (some ⟨b_q, 0, none⟩)), none, none, none⟩, ⟨[0], rv (.pointer (some ⟨b_q, 0, none⟩)), none, none, none⟩, ⟨[1], rv (.pointer (some ⟨b_q, 1, none⟩)), none, none, none⟩, ⟨[2], rv (.map (some v_q_1)), none, none, none⟩, ⟨[], rv (.pointer (some ⟨b1, 0, none⟩)), none, none, none⟩, ⟨[4], rS c.fKey, none, none, none⟩, ⟨[], rv (.pointer (some ⟨b1, 0, none⟩)), none, none, none⟩, ⟨[6], rS c.fKey, none, none, none⟩, ⟨[], rv (.pointer (some ⟨b1, 2, none⟩)), none, none, none⟩, ⟨[8], rSl 4 (List.map eTApiCell c.fValue), none, none, none⟩, ⟨[9], rSl 4 (List.map eTApiCell r56), none, none, none⟩, ⟨[], rv (.pointer (some ⟨b5, 2, none⟩)), none, none, none⟩, ⟨[11], rI .i64 r2.1.fVersion, none, none, none⟩, ⟨[12], rI .i64 (r2.1.fVersion + 1), none, none, none⟩, ⟨[7, 10, 13], rAgg [rS c.fKey, rSl 4 (List.map eTApiCell r56), rI .i64 (r2.1.fVersion + 1)], none, none, none⟩] ?_ (fun β => ?_)
  ·refine oaq (o_move rfl) ?_
   refine oaq (o_nilcheck rfl) ?_
   refine oaq (o_fieldAddr Tryz.underlying59 rfl Tryz.sizeOf57 rfl rfl) ?_
   refine oaf (o_load (i := 1) Tryz.isAgg57 rfl rfl rfl) ?_
   refine oaq (o_fieldAddr Tryz.underlying50 rfl Tryz.sizeOf9 rfl rfl) ?_
   refine oaf (o_load (i := 4) Tryz.isAgg9 rfl rfl rfl) ?_
   refine oaq (o_fieldAddr Tryz.underlying50 rfl Tryz.sizeOf9 rfl rfl) ?_
   refine oaf (o_load (i := 4) Tryz.isAgg9 rfl rfl rfl) ?_
   refine oaq (o_fieldAddr Tryz.underlying50 rfl Tryz.sizeOf33 rfl rfl) ?_
   refine oaf (o_load (i := 4) Tryz.isAgg33 rfl rfl rfl) ?_
   refine oac (ok_c0 Tryz.call59 (cloneN_w c.fValue r56 e58) rfl) ?_
   refine oaq (o_fieldAddr Tryz.underlying35 rfl Tryz.sizeOf3 rfl rfl) ?_
   refine oaf (o_load (i := 0) Tryz.isAgg3 rfl rfl rfl) ?_
   refine oaq (o_add rfl rfl g59) ?_
   refine oaq (o_build35_0_1_2 rfl rfl rfl rfl rfl rfl) ?_
   exact oae
  refine wl_kza (H1 := [.blk b5 (eTApiItem r2.1) 35, .blk b_q [rv (.map (some v_q_0)), rv (.map (some v_q_1))] 59, .map v_q_0 (menc m_TApiItem r2.2.fItems), .map v_q_1 (menc m_TApiItem r2.2.fChanged), .blk b1 (eTApiChange c) 50]) [58, 59, 60, 61, 62, 63, 64, 65, 66, 67, 68, 69, 70, 71, 72, 0, 2, 4, 8] ?_
  refine u_msete (enc := m_TApiItem) (xs := r2.2.fChanged) (v := (TApiItem.mk c.fKey r56 (r2.1.fVersion + 1))) (i := 3) Tryz.underlying57 Tryz.underlying9 rfl rfl rfl rfl (H' := [.blk b5 (eTApiItem r2.1) 35, .blk b_q [rv (.map (some v_q_0)), rv (.map (some v_q_1))] 59, .map v_q_0 (menc m_TApiItem r2.2.fItems), .map v_q_1 (menc m_TApiItem (mset r2.2.fChanged c.fKey (TApiItem.mk c.fKey r56 (r2.1.fVersion + 1)))), .blk b1 (eTApiChange c) 50]) rfl ?_
  refine wl_y ?_
  refine wm rfl ?_
  refine wa rfl ?_
  refine wv (r := rI .i64 0) (o_assign rfl) ?_
  refine wl_x ?_
  refine wc_ret ?_
  obtain rfl := some_e h60
  exact wk_ret (r_2 Tryz.results36 (rv_t rfl) (rv_t rfl)) (sS (sC (sC (sC (sS sN))))) ⟨rfl, rfl⟩

theorem kApply_w (F : Nat) (b_q : Nat) (v_q_0 : Nat) (v_q_1 : Nat) (q : TKvStore) (l : (List TApiChange)) (r : Int × TKvStore) (h : kApply F q l = some r) : Fn Tryz.prog GE 13 [rv (.pointer (some ⟨b_q, 0, none⟩)), rSl 4 (List.map eTApiChange l)] [.blk b_q [rv (.map (some v_q_0)), rv (.map (some v_q_1))] 59, .map v_q_0 (menc m_TApiItem q.fItems), .map v_q_1 (menc m_TApiItem q.fChanged)] (fun R H => R = rI .i64 r.1 ∧ H = [.blk b_q [rv (.map (some v_q_0)), rv (.map (some v_q_1))] 59, .map v_q_0 (menc m_TApiItem r.2.fItems), .map v_q_1 (menc m_TApiItem r.2.fChanged)]) := by
 refine enter (n := 72) Tryz.func13 rfl Tryz.ntmps13 rfl (fun w Z => ?_)
 refine wc_as (l' := [(0, rv (.pointer (some ⟨b_q, 0, none⟩))), (1, rSl 4 (List.map eTApiChange l))]) (H' := [.blk b_q [rv (.map (some v_q_0)), rv (.map (some v_q_1))] 59, .map v_q_0 (menc m_TApiItem q.fItems), .map v_q_1 (menc m_TApiItem q.fChanged)]) rfl rfl ?_
 unfold kApply at h
 refine wc_sr ?_
 refine wv (r := rI .i64 0) (o_assign rfl) ?_
 refine wl_x ?_
 refine wc_seq ?_
 refine wc_sr ?_
 refine wm rfl ?_
 obtain ⟨r1, e3, h2⟩ := obn_e h
 refine wcl (Hr := []) Tryz.call34 (kMade_w b_q v_q_0 v_q_1 q r1 e3) rfl (List.Perm.refl _) rfl ?_
 rintro _ _ ⟨rfl, rfl⟩
 refine wv (o_not rfl) ?_
 refine wl_x ?_
 refine wc_cond (b := !r1.1) rfl (fun c4 => ?_) (fun c4 => ?_)
 ·have h5 := cnd_t c4 h2
  refine wc_sr ?_
  refine wv (r := rI .i64 10) (o_assign rfl) ?_
  refine wl_x ?_
  refine wc_ret ?_
  refine wk_then_ret ?_
  obtain rfl := some_e h5
  exact wk_ret (r_1 Tryz.results13 (rv_t rfl)) (sC (sC (sC sN))) ⟨rfl, rfl⟩
 ·have h6 := cnd_f c4 h2
  refine wc_skip ?_
  refine wk_x ?_
  refine wc_seq ?_
  refine wc_sr ?_
  refine wm rfl ?_
  obtain ⟨r7, e9, h8⟩ := obn_e h6
  refine wc0 Tryz.call35 (kValid_w F l r7 e9) rfl ?_
  refine wa rfl ?_
  refine wl_y ?_
  refine wm rfl ?_
  refine wv (o_ne rfl rfl) ?_
  refine wl_x ?_
  refine wc_cond (b := !decide (r7 = 0)) rfl (fun c10 => ?_) (fun c10 => ?_)
  ·have h11 := cnd_t c10 h8
   refine wc_sr ?_
   refine wm rfl ?_
   refine wa rfl ?_
   refine wl_x ?_
   refine wc_ret ?_
   refine wk_then_ret ?_
   obtain rfl := some_e h11
   exact wk_ret (r_1 Tryz.results13 (rv_t rfl)) (sC (sC (sC sN))) ⟨rfl, rfl⟩
  ·have h12 := cnd_f c10 h8
   refine wc_skip ?_
   refine wk_x ?_
   refine wc_sr ?_
   refine wm rfl ?_
   refine wv (o_nilcheck rfl) ?_
   refine wv (o_fieldAddr Tryz.underlying59 rfl Tryz.sizeOf57 rfl rfl) ?_
   refine wv (o_load (i := 0) Tryz.isAgg57 rfl rfl rfl) ?_
   refine u_mclear (i := 2) Tryz.underlying57 rfl rfl (H' := [.blk b_q [rv (.map (some v_q_0)), rv (.map (some v_q_1))] 59, .map v_q_0 (menc m_TApiItem r1.2.fItems), .map v_q_1 (menc m_TApiItem ([] : List (Str × TApiItem)))]) rfl ?_
   refine wl_y ?_
   refine wm rfl ?_
   refine wv (o_nilcheck rfl) ?_
   refine wv (o_fieldAddr Tryz.underlying59 rfl Tryz.sizeOf57 rfl rfl) ?_
   refine wv (o_load (i := 0) Tryz.isAgg57 rfl rfl rfl) ?_
   refine wv (r := rI .i64 (r1.2.fItems.length : Int)) (o_mlen (N := r1.2.fItems.length) (i := 1) Tryz.underlying57 rfl rfl (menc_length _ _)) ?_
   refine wa rfl ?_
   refine wl_x ?_
   refine wc_seq ?_
   refine wc_sr ?_
   refine wm rfl ?_
   refine wv (o_len_zt (ys := l) (enc := eTApiChange) Tryz.underlying31 rfl) ?_
   refine wv (r := rI .i64 0) (o_move rfl) ?_
   refine wl_x ?_
   refine wc_block ?_
   obtain ⟨o63, eo64, hK65⟩ := obn_e h12
   refine wc_loop2 (S := Nat × (Int × Int × (List (Str × TApiItem)) × (List (Str × TApiItem))) × (Unit)) (V := ((List (Str × TApiItem)) × (List (Str × TApiItem))) × (Unit)) 0 (fun σ => lop (fun σ => kApply_b1 l σ.1 σ.2.1 σ.2.2.1 σ.2.2.2) σ.1 σ.2.1 = some o63) (fun σ => [(0, rv (.pointer (some ⟨b_q, 0, none⟩))), (4, rI .i64 0), (6, rI .i64 σ.2.1.1), (30, rSl 4 (List.map eTApiChange l)), (31, rI .i64 (l.length : Int)), (32, rI .i64 σ.2.1.2.1)]) (fun σ => [.blk b_q [rv (.map (some v_q_0)), rv (.map (some v_q_1))] 59, .map v_q_0 (menc m_TApiItem σ.2.1.2.2.1), .map v_q_1 (menc m_TApiItem σ.2.1.2.2.2)]) (fun σ => σ.1) (F, ((r1.2.fItems.length : Int), 0, r1.2.fItems, ([] : List (Str × TApiItem))), ()) eo64 (Sub.c rfl (Sub.c5 rfl rfl rfl rfl rfl Sub.nil)) (sC (sC (sC sN))) (fun σ => kApply_k1 σ.1.1 σ.1.2 = some r) (fun σ => [(0, rv (.pointer (some ⟨b_q, 0, none⟩))), (4, rI .i64 0)]) (fun σ => [.blk b_q [rv (.map (some v_q_0)), rv (.map (some v_q_1))] 59, .map v_q_0 (menc m_TApiItem σ.1.1), .map v_q_1 (menc m_TApiItem σ.1.2)]) ?_ ?_
   ·rintro ⟨n71, ⟨x43, x44, x45, x46⟩, ⟨⟩⟩ hi69
    refine wc_as (l' := [(0, rv (.pointer (some ⟨b_q, 0, none⟩))), (4, rI .i64 0), (6, rI .i64 x43), (30, rSl 4 (List.map eTApiChange l)), (31, rI .i64 (l.length : Int)), (32, rI .i64 x44)]) (H' := [.blk b_q [rv (.map (some v_q_0)), rv (.map (some v_q_1))] 59, .map v_q_0 (menc m_TApiItem x45), .map v_q_1 (menc m_TApiItem x46)]) rfl rfl ?_
    obtain ⟨m68, rfl, t66, h70, ht67⟩ := lop_e hi69
    replace h70 : kApply_b1 l x43 x44 x45 x46 = some t66 := h70
    unfold kApply_b1 at h70
    refine wc_sr ?_
    refine wv (o_lt rfl rfl) ?_
    refine wl_x ?_
    refine wc_seq ?_
    refine wc_cond (b := decide (x44 < (l.length : Int))) rfl (fun c72 => ?_) (fun c72 => ?_)
    ·have h73 := cnd_t c72 h70
     refine wc_skip ?_
     refine wk_x ?_
     refine wc_seq ?_
     refine wc_block ?_
     refine wc_sr ?_
     obtain ⟨g74, h75⟩ := chk_e h73
     refine wv (o_ix_z (enc := eTApiChange) (ys := l) Tryz.underlying31 Tryz.sizeOf50 rfl rfl g74) ?_
     refine wv (o_load_za Tryz.isAgg50 Tryz.sizeOf50 rfl rfl rfl) ?_
     refine w_alloc (cs := [rS ([] : Str), rB false, rv (.slice none 0 0), rI .i64 0]) Tryz.zeroValue50 rfl rfl (fun b76 => ?_)
     refine u_store_agg (i := 0) Tryz.sizeOf50 rfl rfl rfl (OneAll.c rfl) rfl rfl (cs' := [rS ((at' l x44).fKey), rB ((at' l x44).fDelete), rSl 4 (List.map eTApiCell ((at' l x44).fValue)), rI .i64 ((at' l x44).fIfVersion)]) rfl (H' := [.blk b76 (eTApiChange (at' l x44)) 50, .blk b_q [rv (.map (some v_q_0)), rv (.map (some v_q_1))] 59, .map v_q_0 (menc m_TApiItem x45), .map v_q_1 (menc m_TApiItem x46)]) rfl ?_
     refine wl_y ?_
     refine wm rfl ?_
     refine wv (o_load_agg (i := 0) Tryz.isAgg50 Tryz.sizeOf50 rfl rfl rfl rfl) ?_
     refine wm rfl ?_
     obtain ⟨r77, e79, h78⟩ := obn_e h75
     refine wcl (Hr := [.blk b76 (eTApiChange (at' l x44)) 50]) Tryz.call36 (kChange_w b_q v_q_0 v_q_1 (TKvStore.mk x45 x46) (at' l x44) x43 r77 e79) rfl ((perm_front (i := 1) rfl).trans (List.Perm.cons _ ((perm_front (i := 1) rfl).trans (List.Perm.cons _ ((perm_front (i := 1) rfl).trans (List.Perm.cons _ (List.Perm.refl _))))))) rfl ?_
     rintro _ _ ⟨rfl, rfl⟩
     refine wm rfl ?_
     refine wv (o_extract rfl rfl) ?_
     refine wv (o_extract rfl rfl) ?_
     refine wa rfl ?_
     refine wa rfl ?_
     refine wl_x ?_
     refine wc_seq ?_
     refine wc_sr ?_
     refine wm rfl ?_
     refine wv (o_ne rfl rfl) ?_
     refine wl_x ?_
     refine wc_cond (b := !decide (r77.2.1 = 0)) rfl (fun c80 => ?_) (fun c80 => ?_)
     ·have h81 := cnd_t c80 h78
      refine wc_sr ?_
      refine wm rfl ?_
      refine wa rfl ?_
      refine wl_x ?_
      refine wc_ret ?_
      refine wk_then_ret ?_
      refine wk_in_ret ?_
      refine wk_then_ret ?_
      refine wk_then_ret ?_
      refine wk_cut_ret ?_
      have h82 := stp_ret h81 ht67 hK65
      refine wk_in_ret ?_
      refine wk_then_ret ?_
      obtain rfl := some_e h82
      exact wk_ret (r_1 Tryz.results13 (rv_t rfl)) (sC (sC (sC (sS sN)))) ⟨rfl, rfl⟩
     ·have h83 := cnd_f c80 h78
      refine wc_skip ?_
      refine wk_x ?_
      refine wc_region ?_
      refine wm rfl ?_
      refine wa rfl ?_
      refine wl_nil ?_
      refine wk_in_norm ?_
      refine wk_x ?_
      refine wc_region ?_
      obtain ⟨g84, h85⟩ := chk_e h83
      refine wv (o_add rfl rfl g84) ?_
      refine wm rfl ?_
      refine wl_nil ?_
      have h86 := stp_next h85 ht67
      exact wk_then (wk_some (m68, (r77.1, x44 + 1, r77.2.2.fItems, r77.2.2.fChanged), ()) ⟨h86, Nat.lt_succ_self _⟩ (Sub.c rfl (Sub.c5 rfl rfl rfl rfl rfl Sub.nil)) (sC (sC (sC (sS sN)))))
    ·have h87 := cnd_f c72 h70
     refine wc_exit ?_
     refine wk_then_exit ?_
     have h88 := stp_go h87 ht67 hK65
     exact wk_then_exit (wk_cut_hit (wk_some ((x45, x46), ()) h88 (Sub.c rfl (Sub.c rfl Sub.nil)) (sC (sC (sC sN)))))
   ·rintro ⟨⟨x61, x62⟩, ⟨⟩⟩ h89
    refine wk_as (l' := [(0, rv (.pointer (some ⟨b_q, 0, none⟩))), (4, rI .i64 0)]) (H' := [.blk b_q [rv (.map (some v_q_0)), rv (.map (some v_q_1))] 59, .map v_q_0 (menc m_TApiItem x61), .map v_q_1 (menc m_TApiItem x62)]) rfl rfl ?_
    replace h89 : kApply_k1 x61 x62 = some r := h89
    unfold kApply_k1 at h89
    refine wk_in_hit ?_
    refine wk_x ?_
    refine wc_seq ?_
    refine wc_sr ?_
    refine wm rfl ?_
    refine wv (o_nilcheck rfl) ?_
    refine wv (o_fieldAddr Tryz.underlying59 rfl Tryz.sizeOf57 rfl rfl) ?_
    refine wv (o_load (i := 0) Tryz.isAgg57 rfl rfl rfl) ?_
    refine w_range (i := 2) Tryz.underlying57 rfl rfl rfl (fun b90 => ?_)
    refine wl_x ?_
    refine wc_block ?_
    have h124 := mobn_e h89
    refine wc_loop2 (S := (List (Str × TApiItem)) × ((List (Str × TApiItem))) × (Unit)) (V := ((List (Str × TApiItem))) × (Unit)) 2 (fun σ => ∀ q : List (Str × TApiItem), q.Perm σ.1 → obn (lfe (fun p τ => kApply_b2 p.1 p.2 τ) q σ.2.1) (oute fun ν => kApply_k2 x62 ν) = some r) (fun σ => [(0, rv (.pointer (some ⟨b_q, 0, none⟩))), (52, rv (.pointer (some ⟨b90, 0, none⟩)))]) (fun σ => [.blk b_q [rv (.map (some v_q_0)), rv (.map (some v_q_1))] 59, .map v_q_0 (menc m_TApiItem σ.2.1), .mit v_q_1 b90 (menc m_TApiItem x62) (menc m_TApiItem σ.1) none]) (fun σ => σ.1.length) (x62, x61, ()) h124 (Sub.c rfl (Sub.c rfl Sub.nil)) (sC (sC (sC sN))) (fun σ => kApply_k2 x62 σ.1 = some r) (fun σ => [(0, rv (.pointer (some ⟨b_q, 0, none⟩))), (52, rv (.pointer (some ⟨b90, 0, none⟩)))]) (fun σ => [.blk b_q [rv (.map (some v_q_0)), rv (.map (some v_q_1))] 59, .map v_q_0 (menc m_TApiItem σ.1), .map v_q_1 (menc m_TApiItem x62)]) ?_ ?_
    ·rintro ⟨y101, x116, ⟨⟩⟩ h96
     refine wc_as (l' := [(0, rv (.pointer (some ⟨b_q, 0, none⟩))), (52, rv (.pointer (some ⟨b90, 0, none⟩)))]) (H' := [.blk b_q [rv (.map (some v_q_0)), rv (.map (some v_q_1))] 59, .map v_q_0 (menc m_TApiItem x116), .mit v_q_1 b90 (menc m_TApiItem x62) (menc m_TApiItem y101) none]) rfl rfl ?_
     refine wc_sr ?_
     refine w_next (enc := m_TApiItem) (ys := y101) (i := 2) rfl rfl rfl (fun hy => ?_) (fun p y102 h95 => ?_)
     ·have h125 : kApply_k2 x62 x116 = some r := lfe_nil h96 hy
      refine wv (o_extract rfl rfl) ?_
      refine wl_x ?_
      refine wc_seq ?_
      refine wc_cond_f rfl rfl ?_
      refine wc_exit ?_
      refine wk_then_exit ?_
      refine WK.unmit (i := 2) rfl ?_
      exact wk_then_exit (wk_cut_hit (wk_some (x116, ()) h125 (Sub.c rfl (Sub.c rfl Sub.nil)) (sC (sC (sC sN)))))
     ·obtain ⟨x100, x99⟩ := p
      obtain ⟨t97, h126, h98⟩ := lfe_e h96 h95
      replace h126 : kApply_b2 x100 x99 x116 = some t97 := h126
      unfold kApply_b2 at h126
      refine wl_asH (H' := [.blk b_q [rv (.map (some v_q_0)), rv (.map (some v_q_1))] 59, .map v_q_0 (menc m_TApiItem x116), .mit v_q_1 b90 (menc m_TApiItem x62) (menc m_TApiItem y102) (some (x100, m_TApiItem x99))]) rfl ?_
      refine wv (o_extract rfl rfl) ?_
      refine wl_x ?_
      refine wc_seq ?_
      refine wc_cond_t rfl rfl ?_
      refine wc_skip ?_
      refine wk_x ?_
      refine wc_block ?_
      refine wc_sr ?_
      refine wv (r := rTup [rS x100, rAgg (eTApiItem x99)]) (o_entry (i := 2) rfl rfl) ?_
      refine wv (o_extract rfl rfl) ?_
      refine wv (o_extract rfl rfl) ?_
      refine w_alloc (cs := [rS ([] : Str), rv (.slice none 0 0), rI .i64 0]) Tryz.zeroValue35 rfl rfl (fun b127 => ?_)
      refine wa rfl ?_
      refine u_store_agg (i := 0) Tryz.sizeOf35 rfl rfl rfl (OneAll.c rfl) rfl rfl (cs' := [rS x99.fKey, rSl 4 (List.map eTApiCell x99.fValue), rI .i64 x99.fVersion]) rfl (H' := [.blk b127 (eTApiItem x99) 35, .blk b_q [rv (.map (some v_q_0)), rv (.map (some v_q_1))] 59, .map v_q_0 (menc m_TApiItem x116), .mit v_q_1 b90 (menc m_TApiItem x62) (menc m_TApiItem y102) (some (x100, m_TApiItem x99))]) rfl ?_
      refine wl_x ?_
      refine wc_seq ?_
      refine wc_sr ?_
      refine wv (o_fieldAddr Tryz.underlying35 rfl Tryz.sizeOf3 rfl rfl) ?_
      refine wv (o_load (i := 0) Tryz.isAgg3 rfl rfl rfl) ?_
      refine wv (o_eq rfl rfl) ?_
      refine wl_x ?_
      refine wc_cond (b := decide (x99.fVersion = 0)) rfl (fun c128 => ?_) (fun c128 => ?_)
      ·have h129 := cnd_t c128 h126
       refine wc_sr ?_
       refine wm rfl ?_
       refine wv (o_nilcheck rfl) ?_
       refine wv (o_fieldAddr Tryz.underlying59 rfl Tryz.sizeOf57 rfl rfl) ?_
       refine wv (o_load (i := 1) Tryz.isAgg57 rfl rfl rfl) ?_
       refine wm rfl ?_
       refine u_mdele (enc := m_TApiItem) (xs := x116) (i := 2) Tryz.underlying57 Tryz.underlying9 rfl rfl rfl (H' := [.blk b127 (eTApiItem x99) 35, .blk b_q [rv (.map (some v_q_0)), rv (.map (some v_q_1))] 59, .map v_q_0 (menc m_TApiItem (mdel x116 x100)), .mit v_q_1 b90 (menc m_TApiItem x62) (menc m_TApiItem y102) (some (x100, m_TApiItem x99))]) rfl ?_
       refine wl_x ?_
       refine wc_exit ?_
       refine wk_then_exit ?_
       refine wk_in_hit ?_
       refine WK.uncur (i := 3) rfl ?_
       have h130 := lstp_next h129 h98
       exact wk_then (wk_some (y102, mdel x116 x100, ()) ⟨h130, perm_lt h95⟩ (Sub.c rfl (Sub.c rfl Sub.nil)) (sS (sC (sC (sC sN)))))
      ·have h131 := cnd_f c128 h126
       refine wc_skip ?_
       refine wk_x ?_
       refine wc_rdak 6 [0, 11, 12, 52] [⟨[], rv (.pointer (some ⟨b_q, 0, none⟩)), none, none, none⟩, ⟨[0], rv (.pointer (some ⟨b_q, 0, none⟩)), none, none, none⟩, ⟨[1], rv (.pointer (some ⟨b_q, 0, none⟩)), none, none, none⟩, ⟨[2], rv (.map (some v_q_0)), none, none, none⟩, ⟨[], rS x100, none, none, none⟩, ⟨[], rAgg (eTApiItem x99), none, none, none⟩] ?_ (fun β => ?_)
       ·refine oaq (o_move rfl) ?_
        refine oaq (o_nilcheck rfl) ?_
        refine oaq (o_fieldAddr Tryz.underlying59 rfl Tryz.sizeOf57 rfl rfl) ?_
        refine oaf (o_load (i := 1) Tryz.isAgg57 rfl rfl rfl) ?_
        refine oaq (o_move rfl) ?_
        refine oaf (o_load_agg (i := 0) Tryz.isAgg35 Tryz.sizeOf35 rfl rfl rfl rfl) ?_
        exact oae
       refine wl_kza (H1 := [.blk b127 (eTApiItem x99) 35, .blk b_q [rv (.map (some v_q_0)), rv (.map (some v_q_1))] 59, .map v_q_0 (menc m_TApiItem x116), .mit v_q_1 b90 (menc m_TApiItem x62) (menc m_TApiItem y102) (some (x100, m_TApiItem x99))]) [66, 67, 68, 69, 70, 71, 0, 11, 12, 52] ?_
       refine u_msete (enc := m_TApiItem) (xs := x116) (v := x99) (i := 2) Tryz.underlying57 Tryz.underlying9 rfl rfl rfl rfl (H' := [.blk b127 (eTApiItem x99) 35, .blk b_q [rv (.map (some v_q_0)), rv (.map (some v_q_1))] 59, .map v_q_0 (menc m_TApiItem (mset x116 x100 x99)), .mit v_q_1 b90 (menc m_TApiItem x62) (menc m_TApiItem y102) (some (x100, m_TApiItem x99))]) rfl ?_
       refine wl_nil ?_
       refine wk_in_norm ?_
       refine WK.uncur (i := 3) rfl ?_
       have h132 := lstp_next h131 h98
       exact wk_then (wk_some (y102, mset x116 x100 x99, ()) ⟨h132, perm_lt h95⟩ (Sub.c rfl (Sub.c rfl Sub.nil)) (sS (sC (sC (sC sN)))))
    ·rintro ⟨x123, ⟨⟩⟩ h133
     refine wk_as (l' := [(0, rv (.pointer (some ⟨b_q, 0, none⟩))), (52, rv (.pointer (some ⟨b90, 0, none⟩)))]) (H' := [.blk b_q [rv (.map (some v_q_0)), rv (.map (some v_q_1))] 59, .map v_q_0 (menc m_TApiItem x123), .map v_q_1 (menc m_TApiItem x62)]) rfl rfl ?_
     replace h133 : kApply_k2 x62 x123 = some r := h133
     unfold kApply_k2 at h133
     refine wk_in_hit ?_
     refine wk_x ?_
     refine wc_sr ?_
     refine wv (r := rI .i64 0) (o_assign rfl) ?_
     refine wl_x ?_
     refine wc_ret ?_
     obtain rfl := some_e h133
     exact wk_ret (r_1 Tryz.results13 (rv_t rfl)) (sC (sC (sC sN))) ⟨rfl, rfl⟩

theorem kOwn_w (x : TApiItem) (r : TApiItem) (h : kOwn x = some r) : Fn Tryz.prog GE 39 [rAgg (eTApiItem x)] [] (fun R H => R = rAgg (eTApiItem r) ∧ H = []) := by
 refine enter (n := 8) Tryz.func39 rfl Tryz.ntmps39 rfl (fun w Z => ?_)
 refine wc_as (l' := [(0, rAgg (eTApiItem x))]) (H' := []) rfl rfl ?_
 unfold kOwn at h
 refine wc_sr ?_
 refine w_box_agg rfl rfl (fun b1 => ?_)
 refine w_alloc (cs := [rS ([] : Str), rv (.slice none 0 0), rI .i64 0]) Tryz.zeroValue35 rfl rfl (fun b2 => ?_)
 refine wl_y ?_
 refine wv (o_fieldAddr Tryz.underlying35 rfl Tryz.sizeOf33 rfl rfl) ?_
 refine wv (o_load (i := 1) Tryz.isAgg33 rfl rfl rfl) ?_
 obtain ⟨r3, e5, h4⟩ := obn_e h
 refine wc0 Tryz.call59 (cloneN_w x.fValue r3 e5) rfl ?_
 refine wv (o_fieldAddr Tryz.underlying35 rfl Tryz.sizeOf33 rfl rfl) ?_
 refine u_store (i := 1) Tryz.sizeOf33 rfl rfl (one_c rfl) rfl rfl (cs' := [rS x.fKey, rSl 4 (List.map eTApiCell r3), rI .i64 x.fVersion]) rfl (H' := [.blk b2 [rS ([] : Str), rv (.slice none 0 0), rI .i64 0] 35, .blk b1 [rS x.fKey, rSl 4 (List.map eTApiCell r3), rI .i64 x.fVersion] 35]) rfl ?_
 refine wl_y ?_
 refine wv (o_load_agg (i := 1) Tryz.isAgg35 Tryz.sizeOf35 rfl rfl rfl rfl) ?_
 refine u_store_agg (i := 0) Tryz.sizeOf35 rfl rfl rfl (OneAll.c rfl) rfl rfl (cs' := [rS x.fKey, rSl 4 (List.map eTApiCell r3), rI .i64 x.fVersion]) rfl (H' := [.blk b2 [rS x.fKey, rSl 4 (List.map eTApiCell r3), rI .i64 x.fVersion] 35, .blk b1 [rS x.fKey, rSl 4 (List.map eTApiCell r3), rI .i64 x.fVersion] 35]) rfl ?_
 refine wl_x ?_
 refine wc_ret ?_
 obtain rfl := some_e h4
 exact wk_ret (r_1 Tryz.results39 (rv_ca (i := 0) Tryz.isAgg35 Tryz.sizeOf35 rfl rfl rfl)) (sS (sS sN)) ⟨rfl, rfl⟩

theorem kGet_w (b_q : Nat) (v_q_0 : Nat) (v_q_1 : Nat) (q : TKvStore) (key : Str) (r : TApiItem × Bool × TKvStore) (h : kGet q key = some r) : Fn Tryz.prog GE 17 [rv (.pointer (some ⟨b_q, 0, none⟩)), rS key] [.blk b_q [rv (.map (some v_q_0)), rv (.map (some v_q_1))] 59, .map v_q_0 (menc m_TApiItem q.fItems), .map v_q_1 (menc m_TApiItem q.fChanged)] (fun R H => R = rTup [rAgg (eTApiItem r.1), rB r.2.1] ∧ H = [.blk b_q [rv (.map (some v_q_0)), rv (.map (some v_q_1))] 59, .map v_q_0 (menc m_TApiItem r.2.2.fItems), .map v_q_1 (menc m_TApiItem r.2.2.fChanged)]) := by
 refine enter (n := 24) Tryz.func17 rfl Tryz.ntmps17 rfl (fun w Z => ?_)
 refine wc_as (l' := [(0, rv (.pointer (some ⟨b_q, 0, none⟩))), (1, rS key)]) (H' := [.blk b_q [rv (.map (some v_q_0)), rv (.map (some v_q_1))] 59, .map v_q_0 (menc m_TApiItem q.fItems), .map v_q_1 (menc m_TApiItem q.fChanged)]) rfl rfl ?_
 unfold kGet at h
 refine wc_sr ?_
 refine w_alloc (cs := [rS ([] : Str), rv (.slice none 0 0), rI .i64 0]) Tryz.zeroValue35 rfl rfl (fun b1 => ?_)
 refine wv (r := rB false) (o_assign rfl) ?_
 refine wl_x ?_
 refine wc_seq ?_
 refine wc_sr ?_
 refine wm rfl ?_
 obtain ⟨r2, e4, h3⟩ := obn_e h
 refine wcl (Hr := [.blk b1 [rS ([] : Str), rv (.slice none 0 0), rI .i64 0] 35]) Tryz.call34 (kMade_w b_q v_q_0 v_q_1 q r2 e4) rfl ((perm_front (i := 1) rfl).trans (List.Perm.cons _ ((perm_front (i := 1) rfl).trans (List.Perm.cons _ ((perm_front (i := 1) rfl).trans (List.Perm.cons _ (List.Perm.refl _))))))) rfl ?_
 rintro _ _ ⟨rfl, rfl⟩
 refine wv (o_not rfl) ?_
 refine wl_x ?_
 refine wc_cond (b := !r2.1) rfl (fun c5 => ?_) (fun c5 => ?_)
 ·have h6 := cnd_t c5 h3
  refine wc_sr ?_
  refine wv (r := rAgg [rS ([] : Str), rv (.slice none 0 0), rI .i64 0]) (o_build35_ ) ?_
  refine u_store_agg (i := 3) Tryz.sizeOf35 rfl rfl rfl (OneAll.c rfl) rfl rfl (cs' := [rS ([] : Str), rv (.slice none 0 0), rI .i64 0]) rfl (H' := [.blk b_q [rv (.map (some v_q_0)), rv (.map (some v_q_1))] 59, .map v_q_0 (menc m_TApiItem r2.2.fItems), .map v_q_1 (menc m_TApiItem r2.2.fChanged), .blk b1 [rS ([] : Str), rv (.slice none 0 0), rI .i64 0] 35]) rfl ?_
  refine wv (r := rB false) (o_assign rfl) ?_
  refine wl_x ?_
  refine wc_ret ?_
  refine wk_then_ret ?_
  refine WK.upBlk (i := 3) (cs' := [rS ([] : Str), rSl 4 (List.map eTApiCell ([] : List TApiCell)), rI .i64 0]) rfl ⟨Up.refl _, Up.le (Rle.nil _), Up.refl _, trivial⟩ ?_
  obtain rfl := some_e h6
  exact wk_ret (r_2 Tryz.results17 (rv_ca (i := 3) Tryz.isAgg35 Tryz.sizeOf35 rfl rfl rfl) (rv_t rfl)) (sC (sC (sC (sS sN)))) ⟨rfl, rfl⟩
 ·have h7 := cnd_f c5 h3
  refine wc_skip ?_
  refine wk_x ?_
  refine wc_sr ?_
  refine wm rfl ?_
  refine wv (o_nilcheck rfl) ?_
  refine wv (o_fieldAddr Tryz.underlying59 rfl Tryz.sizeOf57 rfl rfl) ?_
  refine wv (o_load (i := 0) Tryz.isAgg57 rfl rfl rfl) ?_
  refine wm rfl ?_
  refine wv (r := rTup [rAgg [rS ((mval r2.2.fItems key (TApiItem.mk ([] : Str) ([] : (List TApiCell)) 0)).fKey), rSl 4 (List.map eTApiCell ((mval r2.2.fItems key (TApiItem.mk ([] : Str) ([] : (List TApiCell)) 0)).fValue)), rI .i64 ((mval r2.2.fItems key (TApiItem.mk ([] : Str) ([] : (List TApiCell)) 0)).fVersion)], rB (mhas r2.2.fItems key)]) (o_mgetc (enc := m_TApiItem) (xs := r2.2.fItems) (z := TApiItem.mk ([] : Str) ([] : (List TApiCell)) 0) (i := 1) Tryz.underlying57 Tryz.underlying9 Tryz.zeroValue35 m_TApiItem_z rfl rfl rfl) ?_
  refine wm rfl ?_
  refine wv (o_extract rfl rfl) ?_
  refine wv (o_extract rfl rfl) ?_
  refine w_alloc (cs := [rS ([] : Str), rv (.slice none 0 0), rI .i64 0]) Tryz.zeroValue35 rfl rfl (fun b8 => ?_)
  refine u_store_agg (i := 0) Tryz.sizeOf35 rfl rfl rfl (OneAll.c rfl) rfl rfl (cs' := [rS ((mval r2.2.fItems key (TApiItem.mk ([] : Str) ([] : (List TApiCell)) 0)).fKey), rSl 4 (List.map eTApiCell ((mval r2.2.fItems key (TApiItem.mk ([] : Str) ([] : (List TApiCell)) 0)).fValue)), rI .i64 ((mval r2.2.fItems key (TApiItem.mk ([] : Str) ([] : (List TApiCell)) 0)).fVersion)]) rfl (H' := [.blk b8 [rS ((mval r2.2.fItems key (TApiItem.mk ([] : Str) ([] : (List TApiCell)) 0)).fKey), rSl 4 (List.map eTApiCell ((mval r2.2.fItems key (TApiItem.mk ([] : Str) ([] : (List TApiCell)) 0)).fValue)), rI .i64 ((mval r2.2.fItems key (TApiItem.mk ([] : Str) ([] : (List TApiCell)) 0)).fVersion)] 35, .blk b_q [rv (.map (some v_q_0)), rv (.map (some v_q_1))] 59, .map v_q_0 (menc m_TApiItem r2.2.fItems), .map v_q_1 (menc m_TApiItem r2.2.fChanged), .blk b1 [rS ([] : Str), rv (.slice none 0 0), rI .i64 0] 35]) rfl ?_
  refine wa rfl ?_
  refine wl_y ?_
  refine wv (o_load_agg (i := 0) Tryz.isAgg35 Tryz.sizeOf35 rfl rfl rfl rfl) ?_
  obtain ⟨r9, e11, h10⟩ := obn_e h7
  refine wc0 Tryz.call39 (kOwn_w (mval r2.2.fItems key (TApiItem.mk ([] : Str) ([] : (List TApiCell)) 0)) r9 e11) rfl ?_
  refine wm rfl ?_
  refine u_store_agg (i := 4) Tryz.sizeOf35 rfl rfl rfl (OneAll.c rfl) rfl rfl (cs' := [rS r9.fKey, rSl 4 (List.map eTApiCell r9.fValue), rI .i64 r9.fVersion]) rfl (H' := [.blk b8 [rS ((mval r2.2.fItems key (TApiItem.mk ([] : Str) ([] : (List TApiCell)) 0)).fKey), rSl 4 (List.map eTApiCell ((mval r2.2.fItems key (TApiItem.mk ([] : Str) ([] : (List TApiCell)) 0)).fValue)), rI .i64 ((mval r2.2.fItems key (TApiItem.mk ([] : Str) ([] : (List TApiCell)) 0)).fVersion)] 35, .blk b_q [rv (.map (some v_q_0)), rv (.map (some v_q_1))] 59, .map v_q_0 (menc m_TApiItem r2.2.fItems), .map v_q_1 (menc m_TApiItem r2.2.fChanged), .blk b1 (eTApiItem r9) 35]) rfl ?_
  refine wa rfl ?_
  refine wl_x ?_
  refine wc_ret ?_
  obtain rfl := some_e h10
  exact wk_ret (r_2 Tryz.results17 (rv_ca (i := 4) Tryz.isAgg35 Tryz.sizeOf35 rfl rfl rfl) (rv_t rfl)) (sS (sC (sC (sC (sS sN))))) ⟨rfl, rfl⟩

theorem kLen_w (b_q : Nat) (v_q_0 : Nat) (v_q_1 : Nat) (q : TKvStore) (r : Int × TKvStore) (h : kLen q = some r) : Fn Tryz.prog GE 15 [rv (.pointer (some ⟨b_q, 0, none⟩))] [.blk b_q [rv (.map (some v_q_0)), rv (.map (some v_q_1))] 59, .map v_q_0 (menc m_TApiItem q.fItems), .map v_q_1 (menc m_TApiItem q.fChanged)] (fun R H => R = rI .i64 r.1 ∧ H = [.blk b_q [rv (.map (some v_q_0)), rv (.map (some v_q_1))] 59, .map v_q_0 (menc m_TApiItem r.2.fItems), .map v_q_1 (menc m_TApiItem r.2.fChanged)]) := by
 refine enter (n := 11) Tryz.func15 rfl Tryz.ntmps15 rfl (fun w Z => ?_)
 refine wc_as (l' := [(0, rv (.pointer (some ⟨b_q, 0, none⟩)))]) (H' := [.blk b_q [rv (.map (some v_q_0)), rv (.map (some v_q_1))] 59, .map v_q_0 (menc m_TApiItem q.fItems), .map v_q_1 (menc m_TApiItem q.fChanged)]) rfl rfl ?_
 unfold kLen at h
 refine wc_sr ?_
 refine wv (r := rI .i64 0) (o_assign rfl) ?_
 refine wl_x ?_
 refine wc_seq ?_
 refine wc_sr ?_
 refine wm rfl ?_
 obtain ⟨r1, e3, h2⟩ := obn_e h
 refine wcl (Hr := []) Tryz.call34 (kMade_w b_q v_q_0 v_q_1 q r1 e3) rfl (List.Perm.refl _) rfl ?_
 rintro _ _ ⟨rfl, rfl⟩
 refine wv (o_not rfl) ?_
 refine wl_x ?_
 refine wc_cond (b := !r1.1) rfl (fun c4 => ?_) (fun c4 => ?_)
 ·have h5 := cnd_t c4 h2
  refine wc_sr ?_
  refine wv (r := rI .i64 0) (o_assign rfl) ?_
  refine wl_x ?_
  refine wc_ret ?_
  refine wk_then_ret ?_
  obtain rfl := some_e h5
  exact wk_ret (r_1 Tryz.results15 (rv_t rfl)) (sC (sC (sC sN))) ⟨rfl, rfl⟩
 ·have h6 := cnd_f c4 h2
  refine wc_skip ?_
  refine wk_x ?_
  refine wc_sr ?_
  refine wm rfl ?_
  refine wv (o_nilcheck rfl) ?_
  refine wv (o_fieldAddr Tryz.underlying59 rfl Tryz.sizeOf57 rfl rfl) ?_
  refine wv (o_load (i := 0) Tryz.isAgg57 rfl rfl rfl) ?_
  refine wv (r := rI .i64 (r1.2.fItems.length : Int)) (o_mlen (N := r1.2.fItems.length) (i := 1) Tryz.underlying57 rfl rfl (menc_length _ _)) ?_
  refine wa rfl ?_
  refine wl_x ?_
  refine wc_ret ?_
  obtain rfl := some_e h6
  exact wk_ret (r_1 Tryz.results15 (rv_t rfl)) (sC (sC (sC sN))) ⟨rfl, rfl⟩

theorem kGetNil_w (key : Str) (r : TApiItem × Bool) (h : kGetNil key = some r) : Fn Tryz.prog GE 17 [rv (.pointer none), rS key] [] (fun R H => R = rTup [rAgg (eTApiItem r.1), rB r.2] ∧ H = []) := by
 refine enter (n := 24) Tryz.func17 rfl Tryz.ntmps17 rfl (fun w Z => ?_)
 refine wc_as (l' := [(0, rv (.pointer none)), (1, rS key)]) (H' := []) rfl rfl ?_
 unfold kGetNil at h
 refine wc_sr ?_
 refine w_alloc (cs := [rS ([] : Str), rv (.slice none 0 0), rI .i64 0]) Tryz.zeroValue35 rfl rfl (fun b1 => ?_)
 refine wv (r := rB false) (o_assign rfl) ?_
 refine wl_x ?_
 refine wc_seq ?_
 refine wc_sr ?_
 refine wm rfl ?_
 refine wc0 Tryz.call34 (kMadeNil_w false rfl) rfl ?_
 refine wv (o_not rfl) ?_
 refine wl_x ?_
 refine wc_cond_t rfl (not_f rfl) ?_
 refine wc_sr ?_
 refine wv (r := rAgg [rS ([] : Str), rv (.slice none 0 0), rI .i64 0]) (o_build35_ ) ?_
 refine u_store_agg (i := 0) Tryz.sizeOf35 rfl rfl rfl (OneAll.c rfl) rfl rfl (cs' := [rS ([] : Str), rv (.slice none 0 0), rI .i64 0]) rfl (H' := [.blk b1 [rS ([] : Str), rv (.slice none 0 0), rI .i64 0] 35]) rfl ?_
 refine wv (r := rB false) (o_assign rfl) ?_
 refine wl_x ?_
 refine wc_ret ?_
 refine wk_then_ret ?_
 refine WK.upBlk (i := 0) (cs' := [rS ([] : Str), rSl 4 (List.map eTApiCell ([] : List TApiCell)), rI .i64 0]) rfl ⟨Up.refl _, Up.le (Rle.nil _), Up.refl _, trivial⟩ ?_
 obtain rfl := some_e h
 exact wk_ret (r_2 Tryz.results17 (rv_ca (i := 0) Tryz.isAgg35 Tryz.sizeOf35 rfl rfl rfl) (rv_t rfl)) (sS sN) ⟨rfl, rfl⟩

theorem kApplyNil_w (l : (List TApiChange)) (r : Int) (h : kApplyNil l = some r) : Fn Tryz.prog GE 13 [rv (.pointer none), rSl 4 (List.map eTApiChange l)] [] (fun R H => R = rI .i64 r ∧ H = []) := by
 refine enter (n := 72) Tryz.func13 rfl Tryz.ntmps13 rfl (fun w Z => ?_)
 refine wc_as (l' := [(0, rv (.pointer none)), (1, rSl 4 (List.map eTApiChange l))]) (H' := []) rfl rfl ?_
 unfold kApplyNil at h
 refine wc_sr ?_
 refine wv (r := rI .i64 0) (o_assign rfl) ?_
 refine wl_x ?_
 refine wc_seq ?_
 refine wc_sr ?_
 refine wm rfl ?_
 refine wc0 Tryz.call34 (kMadeNil_w false rfl) rfl ?_
 refine wv (o_not rfl) ?_
 refine wl_x ?_
 refine wc_cond_t rfl (not_f rfl) ?_
 refine wc_sr ?_
 refine wv (r := rI .i64 10) (o_assign rfl) ?_
 refine wl_x ?_
 refine wc_ret ?_
 refine wk_then_ret ?_
 obtain rfl := some_e h
 exact wk_ret (r_1 Tryz.results13 (rv_t rfl)) sN ⟨rfl, rfl⟩

theorem kScanNil_w (pre : Str) (r : (List TApiItem)) (h : kScanNil pre = some r) : Fn Tryz.prog GE 20 [rv (.pointer none), rS pre] [] (fun R H => R = rSl 3 (List.map eTApiItem r) ∧ H = []) := by
 refine enter (n := 37) Tryz.func20 rfl Tryz.ntmps20 rfl (fun w Z => ?_)
 refine wc_as (l' := [(0, rv (.pointer none)), (1, rS pre)]) (H' := []) rfl rfl ?_
 unfold kScanNil at h
 refine wc_sr ?_
 refine wv (r := rv (.slice none 0 0)) (o_assign rfl) ?_
 refine wl_x ?_
 refine wc_seq ?_
 refine wc_sr ?_
 refine wm rfl ?_
 refine wc0 Tryz.call34 (kMadeNil_w false rfl) rfl ?_
 refine wv (o_not rfl) ?_
 refine wl_x ?_
 refine wc_cond_t rfl (not_f rfl) ?_
 refine wc_sr ?_
 refine wv (r := rv (.slice none 0 0)) (o_assign rfl) ?_
 refine wl_x ?_
 refine wc_ret ?_
 refine wk_then_ret ?_
 refine WK.up (d := 4) (r := rSl 3 (List.map eTApiItem ([] : List TApiItem))) rfl (Up.le (Rle.nil _)) ?_
 obtain rfl := some_e h
 exact wk_ret (r_1 Tryz.results20 (rv_t rfl)) sN ⟨rfl, rfl⟩

theorem kLenNil_w  (r : Int) (h : kLenNil = some r) : Fn Tryz.prog GE 15 [rv (.pointer none)] [] (fun R H => R = rI .i64 r ∧ H = []) := by
 refine enter (n := 11) Tryz.func15 rfl Tryz.ntmps15 rfl (fun w Z => ?_)
 refine wc_as (l' := [(0, rv (.pointer none))]) (H' := []) rfl rfl ?_
 unfold kLenNil at h
 refine wc_sr ?_
 refine wv (r := rI .i64 0) (o_assign rfl) ?_
 refine wl_x ?_
 refine wc_seq ?_
 refine wc_sr ?_
 refine wm rfl ?_
 refine wc0 Tryz.call34 (kMadeNil_w false rfl) rfl ?_
 refine wv (o_not rfl) ?_
 refine wl_x ?_
 refine wc_cond_t rfl (not_f rfl) ?_
 refine wc_sr ?_
 refine wv (r := rI .i64 0) (o_assign rfl) ?_
 refine wl_x ?_
 refine wc_ret ?_
 refine wk_then_ret ?_
 obtain rfl := some_e h
 exact wk_ret (r_1 Tryz.results15 (rv_t rfl)) sN ⟨rfl, rfl⟩

theorem kLoadNil_w (rc : Str) (r : Int) (h : kLoadNil rc = some r) : Fn Tryz.prog GE 30 [rv (.pointer none), rS rc] [] (fun R H => R = rI .i64 r ∧ H = []) := by
 refine enter (n := 21) Tryz.func30 rfl Tryz.ntmps30 rfl (fun w Z => ?_)
 refine wc_as (l' := [(0, rv (.pointer none)), (1, rS rc)]) (H' := []) rfl rfl ?_
 unfold kLoadNil at h
 refine wc_sr ?_
 refine wv (r := rI .i64 0) (o_assign rfl) ?_
 refine wl_x ?_
 refine wc_seq ?_
 refine wc_sr ?_
 refine wm rfl ?_
 refine wc0 Tryz.call34 (kMadeNil_w false rfl) rfl ?_
 refine wv (o_not rfl) ?_
 refine wl_x ?_
 refine wc_cond_t rfl (not_f rfl) ?_
 refine wc_sr ?_
 refine wv (r := rI .i64 10) (o_assign rfl) ?_
 refine wl_x ?_
 refine wc_ret ?_
 refine wk_then_ret ?_
 obtain rfl := some_e h
 exact wk_ret (r_1 Tryz.results30 (rv_t rfl)) sN ⟨rfl, rfl⟩

theorem kGetZero_w (b_q : Nat) (key : Str) (r : TApiItem × Bool) (h : kGetZero key = some r) : Fn Tryz.prog GE 17 [rv (.pointer (some ⟨b_q, 0, none⟩)), rS key] [.blk b_q [rv (.map none), rv (.map none)] 59] (fun R H => R = rTup [rAgg (eTApiItem r.1), rB r.2] ∧ H = [.blk b_q [rv (.map none), rv (.map none)] 59]) := by
 refine enter (n := 24) Tryz.func17 rfl Tryz.ntmps17 rfl (fun w Z => ?_)
 refine wc_as (l' := [(0, rv (.pointer (some ⟨b_q, 0, none⟩))), (1, rS key)]) (H' := [.blk b_q [rv (.map none), rv (.map none)] 59]) rfl rfl ?_
 unfold kGetZero at h
 refine wc_sr ?_
 refine w_alloc (cs := [rS ([] : Str), rv (.slice none 0 0), rI .i64 0]) Tryz.zeroValue35 rfl rfl (fun b1 => ?_)
 refine wv (r := rB false) (o_assign rfl) ?_
 refine wl_x ?_
 refine wc_seq ?_
 refine wc_sr ?_
 refine wm rfl ?_
 refine wcl (Hr := [.blk b1 [rS ([] : Str), rv (.slice none 0 0), rI .i64 0] 35]) Tryz.call34 (kMadeZero_w b_q false rfl) rfl ((perm_front (i := 1) rfl).trans (List.Perm.cons _ (List.Perm.refl _))) rfl ?_
 rintro _ _ ⟨rfl, rfl⟩
 refine wv (o_not rfl) ?_
 refine wl_x ?_
 refine wc_cond_t rfl (not_f rfl) ?_
 refine wc_sr ?_
 refine wv (r := rAgg [rS ([] : Str), rv (.slice none 0 0), rI .i64 0]) (o_build35_ ) ?_
 refine u_store_agg (i := 1) Tryz.sizeOf35 rfl rfl rfl (OneAll.c rfl) rfl rfl (cs' := [rS ([] : Str), rv (.slice none 0 0), rI .i64 0]) rfl (H' := [.blk b_q [rv (.map none), rv (.map none)] 59, .blk b1 [rS ([] : Str), rv (.slice none 0 0), rI .i64 0] 35]) rfl ?_
 refine wv (r := rB false) (o_assign rfl) ?_
 refine wl_x ?_
 refine wc_ret ?_
 refine wk_then_ret ?_
 refine WK.upBlk (i := 1) (cs' := [rS ([] : Str), rSl 4 (List.map eTApiCell ([] : List TApiCell)), rI .i64 0]) rfl ⟨Up.refl _, Up.le (Rle.nil _), Up.refl _, trivial⟩ ?_
 obtain rfl := some_e h
 exact wk_ret (r_2 Tryz.results17 (rv_ca (i := 1) Tryz.isAgg35 Tryz.sizeOf35 rfl rfl rfl) (rv_t rfl)) (sC (sS sN)) ⟨rfl, rfl⟩

theorem kApplyZero_w (b_q : Nat) (l : (List TApiChange)) (r : Int) (h : kApplyZero l = some r) : Fn Tryz.prog GE 13 [rv (.pointer (some ⟨b_q, 0, none⟩)), rSl 4 (List.map eTApiChange l)] [.blk b_q [rv (.map none), rv (.map none)] 59] (fun R H => R = rI .i64 r ∧ H = [.blk b_q [rv (.map none), rv (.map none)] 59]) := by
 refine enter (n := 72) Tryz.func13 rfl Tryz.ntmps13 rfl (fun w Z => ?_)
 refine wc_as (l' := [(0, rv (.pointer (some ⟨b_q, 0, none⟩))), (1, rSl 4 (List.map eTApiChange l))]) (H' := [.blk b_q [rv (.map none), rv (.map none)] 59]) rfl rfl ?_
 unfold kApplyZero at h
 refine wc_sr ?_
 refine wv (r := rI .i64 0) (o_assign rfl) ?_
 refine wl_x ?_
 refine wc_seq ?_
 refine wc_sr ?_
 refine wm rfl ?_
 refine wcl (Hr := []) Tryz.call34 (kMadeZero_w b_q false rfl) rfl (List.Perm.refl _) rfl ?_
 rintro _ _ ⟨rfl, rfl⟩
 refine wv (o_not rfl) ?_
 refine wl_x ?_
 refine wc_cond_t rfl (not_f rfl) ?_
 refine wc_sr ?_
 refine wv (r := rI .i64 10) (o_assign rfl) ?_
 refine wl_x ?_
 refine wc_ret ?_
 refine wk_then_ret ?_
 obtain rfl := some_e h
 exact wk_ret (r_1 Tryz.results13 (rv_t rfl)) (sC sN) ⟨rfl, rfl⟩

theorem kScanZero_w (b_q : Nat) (pre : Str) (r : (List TApiItem)) (h : kScanZero pre = some r) : Fn Tryz.prog GE 20 [rv (.pointer (some ⟨b_q, 0, none⟩)), rS pre] [.blk b_q [rv (.map none), rv (.map none)] 59] (fun R H => R = rSl 3 (List.map eTApiItem r) ∧ H = [.blk b_q [rv (.map none), rv (.map none)] 59]) := by
 refine enter (n := 37) Tryz.func20 rfl Tryz.ntmps20 rfl (fun w Z => ?_)
 refine wc_as (l' := [(0, rv (.pointer (some ⟨b_q, 0, none⟩))), (1, rS pre)]) (H' := [.blk b_q [rv (.map none), rv (.map none)] 59]) rfl rfl ?_
 unfold kScanZero at h
 refine wc_sr ?_
 refine wv (r := rv (.slice none 0 0)) (o_assign rfl) ?_
 refine wl_x ?_
 refine wc_seq ?_
 refine wc_sr ?_
 refine wm rfl ?_
 refine wcl (Hr := []) Tryz.call34 (kMadeZero_w b_q false rfl) rfl (List.Perm.refl _) rfl ?_
 rintro _ _ ⟨rfl, rfl⟩
 refine wv (o_not rfl) ?_
 refine wl_x ?_
 refine wc_cond_t rfl (not_f rfl) ?_
 refine wc_sr ?_
 refine wv (r := rv (.slice none 0 0)) (o_assign rfl) ?_
 refine wl_x ?_
 refine wc_ret ?_
 refine wk_then_ret ?_
 refine WK.up (d := 4) (r := rSl 3 (List.map eTApiItem ([] : List TApiItem))) rfl (Up.le (Rle.nil _)) ?_
 obtain rfl := some_e h
 exact wk_ret (r_1 Tryz.results20 (rv_t rfl)) (sC sN) ⟨rfl, rfl⟩

theorem kLenZero_w (b_q : Nat)  (r : Int) (h : kLenZero = some r) : Fn Tryz.prog GE 15 [rv (.pointer (some ⟨b_q, 0, none⟩))] [.blk b_q [rv (.map none), rv (.map none)] 59] (fun R H => R = rI .i64 r ∧ H = [.blk b_q [rv (.map none), rv (.map none)] 59]) := by
 refine enter (n := 11) Tryz.func15 rfl Tryz.ntmps15 rfl (fun w Z => ?_)
 refine wc_as (l' := [(0, rv (.pointer (some ⟨b_q, 0, none⟩)))]) (H' := [.blk b_q [rv (.map none), rv (.map none)] 59]) rfl rfl ?_
 unfold kLenZero at h
 refine wc_sr ?_
 refine wv (r := rI .i64 0) (o_assign rfl) ?_
 refine wl_x ?_
 refine wc_seq ?_
 refine wc_sr ?_
 refine wm rfl ?_
 refine wcl (Hr := []) Tryz.call34 (kMadeZero_w b_q false rfl) rfl (List.Perm.refl _) rfl ?_
 rintro _ _ ⟨rfl, rfl⟩
 refine wv (o_not rfl) ?_
 refine wl_x ?_
 refine wc_cond_t rfl (not_f rfl) ?_
 refine wc_sr ?_
 refine wv (r := rI .i64 0) (o_assign rfl) ?_
 refine wl_x ?_
 refine wc_ret ?_
 refine wk_then_ret ?_
 obtain rfl := some_e h
 exact wk_ret (r_1 Tryz.results15 (rv_t rfl)) (sC sN) ⟨rfl, rfl⟩

theorem kLoadZero_w (b_q : Nat) (rc : Str) (r : Int) (h : kLoadZero rc = some r) : Fn Tryz.prog GE 30 [rv (.pointer (some ⟨b_q, 0, none⟩)), rS rc] [.blk b_q [rv (.map none), rv (.map none)] 59] (fun R H => R = rI .i64 r ∧ H = [.blk b_q [rv (.map none), rv (.map none)] 59]) := by
 refine enter (n := 21) Tryz.func30 rfl Tryz.ntmps30 rfl (fun w Z => ?_)
 refine wc_as (l' := [(0, rv (.pointer (some ⟨b_q, 0, none⟩))), (1, rS rc)]) (H' := [.blk b_q [rv (.map none), rv (.map none)] 59]) rfl rfl ?_
 unfold kLoadZero at h
 refine wc_sr ?_
 refine wv (r := rI .i64 0) (o_assign rfl) ?_
 refine wl_x ?_
 refine wc_seq ?_
 refine wc_sr ?_
 refine wm rfl ?_
 refine wcl (Hr := []) Tryz.call34 (kMadeZero_w b_q false rfl) rfl (List.Perm.refl _) rfl ?_
 rintro _ _ ⟨rfl, rfl⟩
 refine wv (o_not rfl) ?_
 refine wl_x ?_
 refine wc_cond_t rfl (not_f rfl) ?_
 refine wc_sr ?_
 refine wv (r := rI .i64 10) (o_assign rfl) ?_
 refine wl_x ?_
 refine wc_ret ?_
 refine wk_then_ret ?_
 obtain rfl := some_e h
 exact wk_ret (r_1 Tryz.results30 (rv_t rfl)) (sC sN) ⟨rfl, rfl⟩

end Go.Proofs.YtjfnokmpfekniaaGreatDoor.Q

/-
 What functions compute, with checks: plain definitions, printed by a small program of ours (gq.py). No program in sight.
-/
namespace Go.Proofs.YtjfnokmpfekniaaGreatDoor
open Go
set_option linter.unusedVariables false
def lSmall_b2 (l : (List TApiChange)) (x253 : Int) (x476 : Int) : Option (Stp (Int) (Out (Stp (Int) (Out (Bool) (Unit))) (Int × Bool))) :=
 cnd (decide (x476 < (((at' l x253).fValue).length : Int))) (chk (inR x476 (((at' l x253).fValue).length : Int)) <| cnd (decide (5000 < (((at' ((at' l x253).fValue) x476).fStr).length : Int))) (some (.out (.ret (.out (.ret false))))) (chk (inK .i64 (x476 + 1)) <| some (.next (x476 + 1)))) (some (.out (.go (x476, decide (x476 < (((at' l x253).fValue).length : Int))))))

def lSmall_k2 (x253 : Int) (x487 : Int) (x488 : Bool) : Option (Stp (Int) (Out (Bool) (Unit))) :=
 chk (inK .i64 (x253 + 1)) <| some (.next (x253 + 1))

def lSmall_b1 (F : Nat) (l : (List TApiChange)) (x253 : Int) : Option (Stp (Int) (Out (Bool) (Unit))) :=
 cnd (decide (x253 < (l.length : Int))) (chk (inR x253 (l.length : Int)) <| cnd (((decide (300 < (((at' l x253).fKey).length : Int))) || (decide (300 < (((at' l x253).fValue).length : Int))))) (some (.out (.ret false))) (obn (lop (fun σ => lSmall_b2 l x253 σ) F 0) (oute fun ν => lSmall_k2 x253 ν.1 ν.2))) (some (.out (.go ())))

def lSmall_k1  : Option (Bool) :=
 some true

def lSmall (F : Nat) (l : (List TApiChange)) : Option (Bool) :=
 cnd (decide (300 < (l.length : Int))) (some false) (obn (lop (fun σ => lSmall_b1 F l σ) F 0) (oute fun ν => lSmall_k1 ))

def lPut (n : Int) (version : Int) : Option (TApiChange) :=
 some (TApiChange.mk ([107] : Str) false ([(TApiCell.mk 3 n ([] : Str) 0)] : List TApiCell) version)

def fJoinN_b1  : Option (Stp (Unit) (Out (Str × Int) (Unit))) :=
 some (.out (.go ()))

def fJoinN_k1  : Option (Str × Int) :=
 some (([] : Str), 0)

def fJoinN (F : Nat)  : Option (Str × Int) :=
 obn (lop (fun σ => fJoinN_b1 ) F ()) (oute fun ν => fJoinN_k1 )

def kEncodeN_b1  : Option (Stp (Unit) (Out (Str × Int) (Unit))) :=
 some (.out (.go ()))

def kEncodeN_k1 (F : Nat) : Option (Str × Int) :=
 obn (fJoinN F) fun r18 => some (r18.1, r18.2)

def kEncodeN (F : Nat)  : Option (Str × Int) :=
 obn (kValid F ([] : List TApiChange)) fun r1 => cnd (!decide (r1 = 0)) (some (([] : Str), r1)) (obn (lop (fun σ => kEncodeN_b1 ) F ()) (oute fun ν => kEncodeN_k1 F ))

def lAwake_j2 (x112 : Bool) : Option (Bool) :=
 some x112

def lAwake_j1 (F : Nat) (x24 : Bool) (x25 : (List (Str × TApiItem))) (x26 : (List (Str × TApiItem))) : Option (Bool) :=
 cnd (x24) (some false) (obn (lPut 5 0) fun r47 => obn (kApply F (TKvStore.mk x25 x26) ([r47] : List TApiChange)) fun r51 => obn (lPut 5 0) fun r54 => obn (kApply F r51.2 ([r54] : List TApiChange)) fun r58 => obn (lPut 6 1) fun r61 => obn (kApply F r58.2 ([r61] : List TApiChange)) fun r65 => obn (kGet r65.2 ([107] : Str)) fun r68 => obn (kApply F r68.2.2 ([(TApiChange.mk ([107] : Str) true ([] : List TApiCell) 2)] : List TApiChange)) fun r73 => obn (kEncodeN F) fun r76 => cnd (decide (r51.1 = 0)) (cnd (decide (r58.1 = 19)) (cnd (decide (r65.1 = 0)) (cnd (r68.2.1) (cnd (decide (r68.1.fVersion = 2)) (cnd (decide (r73.1 = 0)) (obn (kLen r73.2) fun r125 => cnd (decide (r125.1 = 0)) (cnd (decide (r76.1 = ([] : Str))) (lAwake_j2 (decide (r76.2 = 0))) (lAwake_j2 false)) (lAwake_j2 false)) (lAwake_j2 false)) (lAwake_j2 false)) (lAwake_j2 false)) (lAwake_j2 false)) (lAwake_j2 false)) (lAwake_j2 false))

def lAwake (F : Nat)  : Option (Bool) :=
 obn (kNew) fun r1 => obn (lPut 1 0) fun r27 => obn (lPut 2 0) fun r30 => obn (kApply F r1 ([r27, r30] : List TApiChange)) fun r34 => cnd (!decide (r34.1 = 19)) (lAwake_j1 F true r34.2.fItems r34.2.fChanged) (obn (kLen r34.2) fun r40 => lAwake_j1 F (!decide (r40.1 = 0)) r40.2.fItems r40.2.fChanged)

def lNoneNil (l : (List TApiChange)) (key : Str) : Option (Bool) :=
 obn (kGetNil key) fun r1 => chk ((kApplyNil l).isSome) <| chk (imp (decide ((ov (kApplyNil l)) = 10)) (imp (!r1.2) ((kScanNil ([] : Str)).isSome))) <| chk (imp (decide ((ov (kApplyNil l)) = 10)) (imp (!r1.2) (imp (decide (((ov (kScanNil ([] : Str))).length : Int) = 0)) ((kLenNil).isSome)))) <| chk (imp (decide ((ov (kApplyNil l)) = 10)) (imp (!r1.2) (imp (decide (((ov (kScanNil ([] : Str))).length : Int) = 0)) (imp (decide ((ov (kLenNil)) = 0)) ((kLoadNil key).isSome))))) <| some ((decide ((ov (kApplyNil l)) = 10)) && ((!r1.2) && ((decide (((ov (kScanNil ([] : Str))).length : Int) = 0)) && ((decide ((ov (kLenNil)) = 0)) && (decide ((ov (kLoadNil key)) = 10))))))

def lNoneZero_j1 (x29 : Bool) : Option (Bool) :=
 some x29

def lNoneZero (l : (List TApiChange)) (key : Str) : Option (Bool) :=
 obn (kGetZero key) fun r1 => obn (kApplyZero l) fun r30 => cnd (decide (r30 = 10)) (cnd (!r1.2) (obn (kScanZero ([] : Str)) fun r37 => cnd (decide ((r37.length : Int) = 0)) (obn (kLenZero) fun r42 => cnd (decide (r42 = 0)) (obn (kLoadZero key) fun r47 => lNoneZero_j1 (decide (r47 = 10))) (lNoneZero_j1 false)) (lNoneZero_j1 false)) (lNoneZero_j1 false)) (lNoneZero_j1 false)

def lNil_j1 (x28 : Bool) : Option (Bool) :=
 some x28

def lNil (F : Nat) (l : (List TApiChange)) (key : Str) : Option (Bool) :=
 chk ((lSmall F l).isSome) <| cnd (((!(ov (lSmall F l))) || (decide (300 < (key.length : Int))))) (obn (lAwake F) fun r6 => some r6) (obn (lNoneNil l key) fun r29 => cnd (r29) (obn (lNoneZero l key) fun r35 => cnd (r35) (obn (lAwake F) fun r40 => lNil_j1 r40) (lNil_j1 false)) (lNil_j1 false))

end Go.Proofs.YtjfnokmpfekniaaGreatDoor

/-
  Walks, printed by a small program of ours (gq.py).
-/
namespace Go.Proofs.YtjfnokmpfekniaaGreatDoor.Q
open Go Go.RowKit
set_option linter.unusedVariables false
set_option linter.unusedSimpArgs false
set_option maxRecDepth 100000
set_option maxHeartbeats 4000000
theorem built50 (parts : List (Nat × Value)) : Tryz.prog.built 50 parts = Instr.fill (fun i => (#[(0, 1), (1, 1), (2, 1), (3, 1)] : Array (Nat × Nat))[i]?) #[(.string ⟨#[]⟩), (.bool false), ((.slice none 0 0)), (.int .i64 0)] parts := by kernel_rfl
theorem o_build50_0_1_3 {n : Nat} {c : Cx} {l : Fr} {H : List Ent} {d : Option Nat} {ty : TypeId} {pos : String} {af : Array Edge} {g : Option (Nat × Bool)} {x0 : Operand} {r0 : Rp} (h0 : ev l x0 = some r0) (u0 : r0.one = true) {x1 : Operand} {r1 : Rp} (h1 : ev l x1 = some r1) (u1 : r1.one = true) {x3 : Operand} {r3 : Rp} (h3 : ev l x3 = some r3) (u3 : r3.one = true) : ORun Tryz.prog n c l H { dst := d, op := .build 50 #[(0, x0), (1, x1), (3, x3)], type := ty, pos := pos, after := af, guard := g } (rAgg [r0, r1, rv (.slice none 0 0), r3]) := fun a w Z ha _ => by
  have p0 := ha.ev h0
  have c0 := cells_one (r0.hone u0 Z _ p0)
  have p1 := ha.ev h1
  have c1 := cells_one (r1.hone u1 Z _ p1)
  have p3 := ha.ev h3
  have c3 := cells_one (r3.hone u3 Z _ p3)
  have hb : Tryz.prog.built 50 [(0, a.eval x0), (1, a.eval x1), (3, a.eval x3)] = some #[a.eval x0, a.eval x1, ((.slice none 0 0)), a.eval x3] := by
    rw [built50]
    generalize a.eval x0 = v0 at *
    generalize a.eval x1 = v1 at *
    generalize a.eval x3 = v3 at *
    simp [Instr.fill, c0, c1, c3]
  refine ⟨.agg #[a.eval x0, a.eval x1, ((.slice none 0 0)), a.eval x3], ⟨[a.eval x0, a.eval x1, ((.slice none 0 0)), a.eval x3], rfl, p0, p1, rfl, p3, trivial⟩, ?_⟩
  have := run_build w 50 #[(0, a.eval x0), (1, a.eval x1), (3, a.eval x3)] _ (by simpa using hb)
  simp [execOp, this]
theorem o_build50_0_2_3 {n : Nat} {c : Cx} {l : Fr} {H : List Ent} {d : Option Nat} {ty : TypeId} {pos : String} {af : Array Edge} {g : Option (Nat × Bool)} {x0 : Operand} {r0 : Rp} (h0 : ev l x0 = some r0) (u0 : r0.one = true) {x2 : Operand} {r2 : Rp} (h2 : ev l x2 = some r2) (u2 : r2.one = true) {x3 : Operand} {r3 : Rp} (h3 : ev l x3 = some r3) (u3 : r3.one = true) : ORun Tryz.prog n c l H { dst := d, op := .build 50 #[(0, x0), (2, x2), (3, x3)], type := ty, pos := pos, after := af, guard := g } (rAgg [r0, rB false, r2, r3]) := fun a w Z ha _ => by
  have p0 := ha.ev h0
  have c0 := cells_one (r0.hone u0 Z _ p0)
  have p2 := ha.ev h2
  have c2 := cells_one (r2.hone u2 Z _ p2)
  have p3 := ha.ev h3
  have c3 := cells_one (r3.hone u3 Z _ p3)
  have hb : Tryz.prog.built 50 [(0, a.eval x0), (2, a.eval x2), (3, a.eval x3)] = some #[a.eval x0, (.bool false), a.eval x2, a.eval x3] := by
    rw [built50]
    generalize a.eval x0 = v0 at *
    generalize a.eval x2 = v2 at *
    generalize a.eval x3 = v3 at *
    simp [Instr.fill, c0, c2, c3]
  refine ⟨.agg #[a.eval x0, (.bool false), a.eval x2, a.eval x3], ⟨[a.eval x0, (.bool false), a.eval x2, a.eval x3], rfl, p0, rfl, p2, p3, trivial⟩, ?_⟩
  have := run_build w 50 #[(0, a.eval x0), (2, a.eval x2), (3, a.eval x3)] _ (by simpa using hb)
  simp [execOp, this]
theorem o_build59_ {n : Nat} {c : Cx} {l : Fr} {H : List Ent} {d : Option Nat} {ty : TypeId} {pos : String} {af : Array Edge} {g : Option (Nat × Bool)} : ORun Tryz.prog n c l H { dst := d, op := .build 59 #[], type := ty, pos := pos, after := af, guard := g } (rAgg [rv (.map none), rv (.map none)]) := fun a w Z ha _ => by
  have hb : Tryz.prog.built 59 [] = some #[((.map none)), ((.map none))] := by
    rw [built59]
    simp [Instr.fill, Value.cells]
  refine ⟨.agg #[((.map none)), ((.map none))], ⟨[((.map none)), ((.map none))], rfl, rfl, rfl, trivial⟩, ?_⟩
  have := run_build w 59 #[] _ (by simpa using hb)
  simp [execOp, this]
theorem lSmall_w (F : Nat) (l : (List TApiChange)) (r : Bool) (h : lSmall F l = some r) : Fn Tryz.prog GE 22 [rSl 4 (List.map eTApiChange l)] [] (fun R H => R = rB r ∧ H = []) := by
 refine enter (n := 51) Tryz.func22 rfl Tryz.ntmps22 rfl (fun w Z => ?_)
 refine wc_as (l' := [(0, rSl 4 (List.map eTApiChange l))]) (H' := []) rfl rfl ?_
 unfold lSmall at h
 refine wc_sr ?_
 refine wv (r := rB false) (o_assign rfl) ?_
 refine wl_x ?_
 refine wc_seq ?_
 refine wc_sr ?_
 refine wm rfl ?_
 refine wv (o_len_zt (ys := l) (enc := eTApiChange) Tryz.underlying31 rfl) ?_
 refine wv (o_gt rfl rfl) ?_
 refine wl_x ?_
 refine wc_cond (b := decide (300 < (l.length : Int))) rfl (fun c1 => ?_) (fun c1 => ?_)
 ·have h2 := cnd_t c1 h
  refine wc_sr ?_
  refine wv (r := rB false) (o_assign rfl) ?_
  refine wl_x ?_
  refine wc_ret ?_
  refine wk_then_ret ?_
  obtain rfl := some_e h2
  exact wk_ret (r_1 Tryz.results22 (rv_t rfl)) sN ⟨rfl, rfl⟩
 ·have h3 := cnd_f c1 h
  refine wc_skip ?_
  refine wk_x ?_
  refine wc_seq ?_
  refine wc_sr ?_
  refine wm rfl ?_
  refine wv (o_len_zt (ys := l) (enc := eTApiChange) Tryz.underlying31 rfl) ?_
  refine wv (r := rI .i64 0) (o_move rfl) ?_
  refine wl_x ?_
  refine wc_block ?_
  obtain ⟨o379, eo380, hK381⟩ := obn_e h3
  refine wc_loop2 (S := Nat × (Int) × (Unit)) (V := (Unit) × (Unit)) 0 (fun σ => lop (fun σ => lSmall_b1 F l σ) σ.1 σ.2.1 = some o379) (fun σ => [(0, rSl 4 (List.map eTApiChange l)), (9, rI .i64 (l.length : Int)), (10, rI .i64 σ.2.1)]) (fun σ => []) (fun σ => σ.1) (F, 0, ()) eo380 (Sub.c rfl (Sub.c rfl (Sub.c rfl Sub.nil))) sN (fun σ => lSmall_k1  = some r) (fun σ => []) (fun σ => []) ?_ ?_
  ·rintro ⟨n387, x253, ⟨⟩⟩ hi385
   refine wc_as (l' := [(0, rSl 4 (List.map eTApiChange l)), (9, rI .i64 (l.length : Int)), (10, rI .i64 x253)]) (H' := []) rfl rfl ?_
   obtain ⟨m384, rfl, t382, h386, ht383⟩ := lop_e hi385
   replace h386 : lSmall_b1 F l x253 = some t382 := h386
   unfold lSmall_b1 at h386
   refine wc_sr ?_
   refine wv (o_lt rfl rfl) ?_
   refine wl_x ?_
   refine wc_seq ?_
   refine wc_cond (b := decide (x253 < (l.length : Int))) rfl (fun c388 => ?_) (fun c388 => ?_)
   ·have h389 := cnd_t c388 h386
    refine wc_skip ?_
    refine wk_x ?_
    refine wc_seq ?_
    refine wc_block ?_
    refine wc_sr ?_
    refine wm rfl ?_
    refine wa rfl ?_
    refine wl_x ?_
    refine wc_seq ?_
    obtain ⟨g450, h451⟩ := chk_e h389
    refine wc_seq_mid [(0, rSl 4 (List.map eTApiChange l)), (3, rI .i64 x253), (9, rI .i64 (l.length : Int)), (10, rI .i64 x253), (28, rB ((decide (300 < (((at' l x253).fKey).length : Int))) || (decide (300 < (((at' l x253).fValue).length : Int)))))] [] ?_ ?_
    ·refine wc_region ?_
     refine wm rfl ?_
     refine wm rfl ?_
     refine wv (o_ix_z (enc := eTApiChange) (ys := l) Tryz.underlying31 Tryz.sizeOf50 rfl rfl g450) ?_
     refine wv (o_fieldAddr_z Tryz.underlying50 rfl Tryz.sizeOf9 rfl rfl) ?_
     refine wv (o_load_z Tryz.isAgg9 rfl rfl) ?_
     refine wv (o_len_s Tryz.underlying9 rfl) ?_
     refine wv (o_gt rfl rfl) ?_
     refine wm rfl ?_
     refine bsplit (decide (300 < (((at' l x253).fKey).length : Int))) (fun c452 => ?_) (fun c452 => ?_)
     ·refine wf c452 ?_
      refine wf c452 ?_
      refine wf c452 ?_
      refine wf c452 ?_
      refine wf c452 ?_
      refine wf c452 ?_
      refine wf c452 ?_
      refine wv (r := rB true) (o_pick_t (b := decide (300 < (((at' l x253).fKey).length : Int))) rfl c452 rfl) ?_
      refine wl_nil ?_
      exact wtc c452
     ·refine wo c452 ?_
      refine wm rfl ?_
      refine wo c452 ?_
      refine wm rfl ?_
      refine wo c452 ?_
      refine wv (o_ix_z (enc := eTApiChange) (ys := l) Tryz.underlying31 Tryz.sizeOf50 rfl rfl g450) ?_
      refine wo c452 ?_
      refine wv (o_fieldAddr_z Tryz.underlying50 rfl Tryz.sizeOf33 rfl rfl) ?_
      refine wo c452 ?_
      refine wv (o_load_z Tryz.isAgg33 rfl rfl) ?_
      refine wo c452 ?_
      refine wv (o_len_zt (ys := (at' l x253).fValue) (enc := eTApiCell) Tryz.underlying33 rfl) ?_
      refine wo c452 ?_
      refine wv (o_gt rfl rfl) ?_
      refine wpf rfl c452 rfl ?_
      refine wl_nil ?_
      exact wtc c452
    refine wc_cond (b := ((decide (300 < (((at' l x253).fKey).length : Int))) || (decide (300 < (((at' l x253).fValue).length : Int))))) rfl (fun c453 => ?_) (fun c453 => ?_)
    ·have h454 := cnd_t c453 h451
     refine wc_sr ?_
     refine wv (r := rB false) (o_assign rfl) ?_
     refine wl_x ?_
     refine wc_ret ?_
     refine wk_then_ret ?_
     refine wk_in_ret ?_
     refine wk_then_ret ?_
     refine wk_then_ret ?_
     refine wk_cut_ret ?_
     have h455 := stp_ret h454 ht383 hK381
     refine wk_in_ret ?_
     refine wk_then_ret ?_
     obtain rfl := some_e h455
     exact wk_ret (r_1 Tryz.results22 (rv_t rfl)) sN ⟨rfl, rfl⟩
    ·have h456 := cnd_f c453 h451
     refine wc_skip ?_
     refine wk_x ?_
     refine wc_sr ?_
     refine wm rfl ?_
     refine wm rfl ?_
     refine wv (o_ix_z (enc := eTApiChange) (ys := l) Tryz.underlying31 Tryz.sizeOf50 rfl rfl g450) ?_
     refine wv (o_fieldAddr_z Tryz.underlying50 rfl Tryz.sizeOf33 rfl rfl) ?_
     refine wv (o_load_z Tryz.isAgg33 rfl rfl) ?_
     refine wv (o_len_zt (ys := (at' l x253).fValue) (enc := eTApiCell) Tryz.underlying33 rfl) ?_
     refine wv (r := rI .i64 0) (o_move rfl) ?_
     refine wl_x ?_
     refine wc_block ?_
     obtain ⟨o489, eo490, hK491⟩ := obn_e h456
     refine wc_loop2 (S := Nat × (Int) × (Unit)) (V := (Int × Bool) × (Unit)) 2 (fun σ => lop (fun σ => lSmall_b2 l x253 σ) σ.1 σ.2.1 = some o489) (fun σ => [(0, rSl 4 (List.map eTApiChange l)), (3, rI .i64 x253), (9, rI .i64 (l.length : Int)), (10, rI .i64 x253), (28, rB ((decide (300 < (((at' l x253).fKey).length : Int))) || (decide (300 < (((at' l x253).fValue).length : Int))))), (29, rSl 4 (List.map eTApiChange l)), (30, rI .i64 x253), (33, rSl 4 (List.map eTApiCell ((at' l x253).fValue))), (34, rI .i64 (((at' l x253).fValue).length : Int)), (35, rI .i64 σ.2.1)]) (fun σ => []) (fun σ => σ.1) (F, 0, ()) eo490 (Sub.c5 rfl rfl rfl rfl rfl (Sub.c5 rfl rfl rfl rfl rfl Sub.nil)) sN (fun σ => lSmall_k2 x253 σ.1.1 σ.1.2 = some t382) (fun σ => [(0, rSl 4 (List.map eTApiChange l)), (3, rI .i64 x253), (9, rI .i64 (l.length : Int)), (10, rI .i64 x253), (28, rB ((decide (300 < (((at' l x253).fKey).length : Int))) || (decide (300 < (((at' l x253).fValue).length : Int))))), (29, rSl 4 (List.map eTApiChange l)), (30, rI .i64 x253), (33, rSl 4 (List.map eTApiCell ((at' l x253).fValue))), (34, rI .i64 (((at' l x253).fValue).length : Int)), (35, rI .i64 σ.1.1), (36, rB σ.1.2)]) (fun σ => []) ?_ ?_
     ·rintro ⟨n497, x476, ⟨⟩⟩ hi495
      refine wc_as (l' := [(0, rSl 4 (List.map eTApiChange l)), (3, rI .i64 x253), (9, rI .i64 (l.length : Int)), (10, rI .i64 x253), (28, rB ((decide (300 < (((at' l x253).fKey).length : Int))) || (decide (300 < (((at' l x253).fValue).length : Int))))), (29, rSl 4 (List.map eTApiChange l)), (30, rI .i64 x253), (33, rSl 4 (List.map eTApiCell ((at' l x253).fValue))), (34, rI .i64 (((at' l x253).fValue).length : Int)), (35, rI .i64 x476)]) (H' := []) rfl rfl ?_
      obtain ⟨m494, rfl, t492, h496, ht493⟩ := lop_e hi495
      replace h496 : lSmall_b2 l x253 x476 = some t492 := h496
      unfold lSmall_b2 at h496
      refine wc_sr ?_
      refine wv (o_lt rfl rfl) ?_
      refine wl_x ?_
      refine wc_seq ?_
      refine wc_cond (b := decide (x476 < (((at' l x253).fValue).length : Int))) rfl (fun c498 => ?_) (fun c498 => ?_)
      ·have h499 := cnd_t c498 h496
       refine wc_skip ?_
       refine wk_x ?_
       refine wc_seq ?_
       refine wc_block ?_
       refine wc_sr ?_
       refine wm rfl ?_
       refine wa rfl ?_
       refine wl_y ?_
       refine wm rfl ?_
       refine wm rfl ?_
       refine wv (o_ix_z (enc := eTApiChange) (ys := l) Tryz.underlying31 Tryz.sizeOf50 rfl rfl g450) ?_
       refine wv (o_fieldAddr_z Tryz.underlying50 rfl Tryz.sizeOf33 rfl rfl) ?_
       refine wv (o_load_z Tryz.isAgg33 rfl rfl) ?_
       refine wm rfl ?_
       obtain ⟨g500, h501⟩ := chk_e h499
       refine wv (o_ix_z (enc := eTApiCell) (ys := (at' l x253).fValue) Tryz.underlying33 Tryz.sizeOf78 rfl rfl g500) ?_
       refine wv (o_fieldAddr_z Tryz.underlying78 rfl Tryz.sizeOf9 rfl rfl) ?_
       refine wv (o_load_z Tryz.isAgg9 rfl rfl) ?_
       refine wv (o_len_s Tryz.underlying9 rfl) ?_
       refine wv (o_gt rfl rfl) ?_
       refine wl_x ?_
       refine wc_cond (b := decide (5000 < (((at' ((at' l x253).fValue) x476).fStr).length : Int))) rfl (fun c502 => ?_) (fun c502 => ?_)
       ·have h503 := cnd_t c502 h501
        refine wc_sr ?_
        refine wv (r := rB false) (o_assign rfl) ?_
        refine wl_x ?_
        refine wc_ret ?_
        refine wk_in_ret ?_
        refine wk_then_ret ?_
        refine wk_then_ret ?_
        refine wk_cut_ret ?_
        have h504 := stp_ret h503 ht493 hK491
        refine wk_in_ret ?_
        refine wk_in_ret ?_
        refine wk_then_ret ?_
        refine wk_then_ret ?_
        refine wk_cut_ret ?_
        have h505 := stp_ret h504 ht383 hK381
        refine wk_in_ret ?_
        refine wk_then_ret ?_
        obtain rfl := some_e h505
        exact wk_ret (r_1 Tryz.results22 (rv_t rfl)) sN ⟨rfl, rfl⟩
       ·have h506 := cnd_f c502 h501
        refine wc_skip ?_
        refine wk_in_norm ?_
        refine wk_x ?_
        refine wc_region ?_
        obtain ⟨g507, h508⟩ := chk_e h506
        refine wv (o_add rfl rfl g507) ?_
        refine wm rfl ?_
        refine wl_nil ?_
        have h509 := stp_next h508 ht493
        exact wk_then (wk_some (m494, x476 + 1, ()) ⟨h509, Nat.lt_succ_self _⟩ (Sub.c5 rfl rfl rfl rfl rfl (Sub.c5 rfl rfl rfl rfl rfl Sub.nil)) sN)
      ·have h510 := cnd_f c498 h496
       refine wc_exit ?_
       refine wk_then_exit ?_
       have h511 := stp_go h510 ht493 hK491
       exact wk_then_exit (wk_cut_hit (wk_some ((x476, decide (x476 < (((at' l x253).fValue).length : Int))), ()) h511 (Sub.c rfl (Sub.c5 rfl rfl rfl rfl rfl (Sub.c5 rfl rfl rfl rfl rfl Sub.nil))) sN))
     ·rintro ⟨⟨x487, x488⟩, ⟨⟩⟩ h512
      refine wk_as (l' := [(0, rSl 4 (List.map eTApiChange l)), (3, rI .i64 x253), (9, rI .i64 (l.length : Int)), (10, rI .i64 x253), (28, rB ((decide (300 < (((at' l x253).fKey).length : Int))) || (decide (300 < (((at' l x253).fValue).length : Int))))), (29, rSl 4 (List.map eTApiChange l)), (30, rI .i64 x253), (33, rSl 4 (List.map eTApiCell ((at' l x253).fValue))), (34, rI .i64 (((at' l x253).fValue).length : Int)), (35, rI .i64 x487), (36, rB x488)]) (H' := []) rfl rfl ?_
      replace h512 : lSmall_k2 x253 x487 x488 = some t382 := h512
      unfold lSmall_k2 at h512
      refine wk_in_hit ?_
      refine wk_in_norm ?_
      refine wk_x ?_
      refine wc_region ?_
      obtain ⟨g513, h514⟩ := chk_e h512
      refine wv (o_add rfl rfl g513) ?_
      refine wm rfl ?_
      refine wl_nil ?_
      have h515 := stp_next h514 ht383
      exact wk_then (wk_some (m384, x253 + 1, ()) ⟨h515, Nat.lt_succ_self _⟩ (Sub.c rfl (Sub.c rfl (Sub.c rfl Sub.nil))) sN)
   ·have h516 := cnd_f c388 h386
    refine wc_exit ?_
    refine wk_then_exit ?_
    have h517 := stp_go h516 ht383 hK381
    exact wk_then_exit (wk_cut_hit (wk_some ((), ()) h517 Sub.nil sN))
  ·rintro ⟨⟨⟩, ⟨⟩⟩ h518
   refine wk_as (l' := []) (H' := []) rfl rfl ?_
   replace h518 : lSmall_k1  = some r := h518
   unfold lSmall_k1 at h518
   refine wk_in_hit ?_
   refine wk_x ?_
   refine wc_sr ?_
   refine wv (r := rB true) (o_assign rfl) ?_
   refine wl_x ?_
   refine wc_ret ?_
   obtain rfl := some_e h518
   exact wk_ret (r_1 Tryz.results22 (rv_t rfl)) sN ⟨rfl, rfl⟩

theorem lPut_w (n : Int) (version : Int) (r : TApiChange) (h : lPut n version = some r) : Fn Tryz.prog GE 33 [rI .i64 n, rI .i64 version] [] (fun R H => R = rAgg (eTApiChange r) ∧ H = []) := by
 refine enter (n := 10) Tryz.func33 rfl Tryz.ntmps33 rfl (fun w Z => ?_)
 refine wc_as (l' := [(0, rI .i64 n), (1, rI .i64 version)]) (H' := []) rfl rfl ?_
 unfold lPut at h
 refine wc_sr ?_
 refine w_alloc (cs := [rS ([] : Str), rB false, rv (.slice none 0 0), rI .i64 0]) Tryz.zeroValue50 rfl rfl (fun b1 => ?_)
 refine wl_y ?_
 refine wm rfl ?_
 refine wv (r := rAgg [rI .i64 3, rI .i64 n, rS ([] : Str), rI .i64 0]) (o_build78_0_1 rfl rfl rfl rfl) ?_
 refine w_buildSlice (ys := ([(TApiCell.mk 3 n ([] : Str) 0)] : List TApiCell)) (enc := eTApiCell) (css := [[rI .i64 3, rI .i64 n, rS ([] : Str), rI .i64 0]]) (xs := [.tmp 6]) Tryz.underlying33 Tryz.sizeOf78 Tryz.zeroValue78 rfl rfl rfl ⟨Cel.agg ⟨Up.refl _, Up.refl _, Up.refl _, Up.refl _, trivial⟩, trivial⟩ rfl eTApiCell_len rfl rfl rfl (fun b2 => ?_)
 refine wm rfl ?_
 refine wv (r := rAgg [rS ([107] : Str), rB false, rv (.slice (some ⟨b2, 0, none⟩) 1 1), rI .i64 version]) (o_build50_0_2_3 rfl rfl rfl rfl rfl rfl) ?_
 refine u_store_agg (i := 1) Tryz.sizeOf50 rfl rfl rfl ⟨(one_c rfl), (one_c rfl), (one_row (i := 0) rfl), (one_c rfl), trivial⟩ rfl rfl (cs' := [rS ([107] : Str), rB false, rv (.slice (some ⟨b2, 0, none⟩) 1 1), rI .i64 version]) rfl (H' := [.row (.slice (some ⟨b2, 0, none⟩) 1 1) 78 4 (List.map eTApiCell ([(TApiCell.mk 3 n ([] : Str) 0)] : List TApiCell)), .blk b1 [rS ([107] : Str), rB false, rv (.slice (some ⟨b2, 0, none⟩) 1 1), rI .i64 version] 50]) rfl ?_
 refine wl_x ?_
 refine wc_ret ?_
 refine WK.freeze (i := 0) rfl ?_
 refine WK.upBlk (i := 1) (cs' := [rS ([107] : Str), rB false, rSl 4 (List.map eTApiCell ([(TApiCell.mk 3 n ([] : Str) 0)] : List TApiCell)), rI .i64 version]) rfl ⟨Up.refl _, Up.refl _, Up.fact (i := 0) rfl, Up.refl _, trivial⟩ ?_
 obtain rfl := some_e h
 exact wk_ret (r_1 Tryz.results33 (rv_ca (i := 1) Tryz.isAgg50 Tryz.sizeOf50 rfl rfl rfl)) (sS (sS sN)) ⟨rfl, rfl⟩

theorem fJoinN_w (F : Nat)  (r : Str × Int) (h : fJoinN F = some r) : Fn Tryz.prog GE 46 [rv (.slice none 0 0)] [] (fun R H => R = rTup [rS r.1, rI .i64 r.2] ∧ H = []) := by
 refine enter (n := 36) Tryz.func46 rfl Tryz.ntmps46 rfl (fun w Z => ?_)
 refine wc_as (l' := [(0, rv (.slice none 0 0))]) (H' := []) rfl rfl ?_
 unfold fJoinN at h
 refine wc_sr ?_
 refine wv (r := rS ([] : Str)) (o_assign rfl) ?_
 refine wv (r := rI .i64 0) (o_assign rfl) ?_
 refine wl_y ?_
 refine wv (r := rv (.slice none 0 0)) (o_assign rfl) ?_
 refine wl_x ?_
 refine wc_seq ?_
 refine wc_sr ?_
 refine wm rfl ?_
 refine wv (r := rI .i64 0) (o_len_nil Tryz.underlying51 rfl) ?_
 refine wv (r := rI .i64 0) (o_move rfl) ?_
 refine wl_x ?_
 refine wc_block ?_
 obtain ⟨o1, eo2, hK3⟩ := obn_e h
 refine wc_loop2 (S := Nat × (Unit) × (Unit)) (V := (Unit) × (Unit)) 0 (fun σ => lop (fun σ => fJoinN_b1 ) σ.1 σ.2.1 = some o1) (fun σ => [(2, rS ([] : Str)), (3, rI .i64 0), (4, rv (.slice none 0 0)), (9, rv (.slice none 0 0)), (10, rI .i64 0), (11, rI .i64 0)]) (fun σ => []) (fun σ => σ.1) (F, (), ()) eo2 (Sub.c rfl (Sub.c5 rfl rfl rfl rfl rfl Sub.nil)) sN (fun σ => fJoinN_k1  = some r) (fun σ => [(2, rS ([] : Str)), (3, rI .i64 0), (4, rv (.slice none 0 0))]) (fun σ => []) ?_ ?_
 ·rintro ⟨n9, ⟨⟩, ⟨⟩⟩ hi7
  refine wc_as (l' := [(2, rS ([] : Str)), (3, rI .i64 0), (4, rv (.slice none 0 0)), (9, rv (.slice none 0 0)), (10, rI .i64 0), (11, rI .i64 0)]) (H' := []) rfl rfl ?_
  obtain ⟨m6, rfl, t4, h8, ht5⟩ := lop_e hi7
  replace h8 : fJoinN_b1  = some t4 := h8
  unfold fJoinN_b1 at h8
  refine wc_sr ?_
  refine wv (o_lt rfl rfl) ?_
  refine wl_x ?_
  refine wc_seq ?_
  refine wc_cond_f rfl (by decide) ?_
  refine wc_exit ?_
  refine wk_then_exit ?_
  have h10 := stp_go h8 ht5 hK3
  exact wk_then_exit (wk_cut_hit (wk_some ((), ()) h10 (Sub.c rfl (Sub.c rfl (Sub.c rfl Sub.nil))) sN))
 ·rintro ⟨⟨⟩, ⟨⟩⟩ h11
  refine wk_as (l' := [(2, rS ([] : Str)), (3, rI .i64 0), (4, rv (.slice none 0 0))]) (H' := []) rfl rfl ?_
  replace h11 : fJoinN_k1  = some r := h11
  unfold fJoinN_k1 at h11
  refine wk_in_hit ?_
  refine wk_x ?_
  refine wc_sr ?_
  refine wm rfl ?_
  refine wv (r := rS ([] : Str)) (o_b2s_nil Tryz.underlying94 Tryz.underlying9 Tryz.underlying5 rfl) ?_
  refine wa rfl ?_
  refine wv (r := rI .i64 0) (o_assign rfl) ?_
  refine wl_x ?_
  refine wc_ret ?_
  obtain rfl := some_e h11
  exact wk_ret (r_2 Tryz.results46 (rv_t rfl) (rv_t rfl)) sN ⟨rfl, rfl⟩

theorem kEncodeN_w (F : Nat)  (r : Str × Int) (h : kEncodeN F = some r) : Fn Tryz.prog GE 23 [rv (.slice none 0 0)] [] (fun R H => R = rTup [rS r.1, rI .i64 r.2] ∧ H = []) := by
 refine enter (n := 38) Tryz.func23 rfl Tryz.ntmps23 rfl (fun w Z => ?_)
 refine wc_as (l' := [(0, rv (.slice none 0 0))]) (H' := []) rfl rfl ?_
 unfold kEncodeN at h
 refine wc_sr ?_
 refine wv (r := rS ([] : Str)) (o_assign rfl) ?_
 refine wv (r := rI .i64 0) (o_assign rfl) ?_
 refine wl_x ?_
 refine wc_seq ?_
 refine wc_sr ?_
 refine wm rfl ?_
 refine WL.up (d := 10) (r := rSl 4 (List.map eTApiChange ([] : List TApiChange))) rfl (Up.le (Rle.nil _)) ?_
 obtain ⟨r1, e3, h2⟩ := obn_e h
 refine wc0 Tryz.call35 (kValid_w F ([] : List TApiChange) r1 e3) rfl ?_
 refine wa rfl ?_
 refine wl_y ?_
 refine wm rfl ?_
 refine wv (o_ne rfl rfl) ?_
 refine wl_x ?_
 refine wc_cond (b := !decide (r1 = 0)) rfl (fun c4 => ?_) (fun c4 => ?_)
 ·have h5 := cnd_t c4 h2
  refine wc_sr ?_
  refine wm rfl ?_
  refine wv (r := rS ([] : Str)) (o_assign rfl) ?_
  refine wa rfl ?_
  refine wl_x ?_
  refine wc_ret ?_
  refine wk_then_ret ?_
  obtain rfl := some_e h5
  exact wk_ret (r_2 Tryz.results23 (rv_t rfl) (rv_t rfl)) sN ⟨rfl, rfl⟩
 ·have h6 := cnd_f c4 h2
  refine wc_skip ?_
  refine wk_x ?_
  refine wc_sr ?_
  refine wv (r := rv (.slice none 0 0)) (o_assign rfl) ?_
  refine wl_x ?_
  refine wc_seq ?_
  refine wc_sr ?_
  refine wm rfl ?_
  refine wv (r := rI .i64 0) (o_len_nil Tryz.underlying31 rfl) ?_
  refine wv (r := rI .i64 0) (o_move rfl) ?_
  refine wl_x ?_
  refine wc_block ?_
  obtain ⟨o7, eo8, hK9⟩ := obn_e h6
  refine wc_loop2 (S := Nat × (Unit) × (Unit)) (V := (Unit) × (Unit)) 0 (fun σ => lop (fun σ => kEncodeN_b1 ) σ.1 σ.2.1 = some o7) (fun σ => [(2, rS ([] : Str)), (3, rI .i64 0), (5, rv (.slice none 0 0)), (15, rv (.slice none 0 0)), (16, rI .i64 0), (17, rI .i64 0)]) (fun σ => []) (fun σ => σ.1) (F, (), ()) eo8 (Sub.c rfl (Sub.c5 rfl rfl rfl rfl rfl Sub.nil)) sN (fun σ => kEncodeN_k1 F  = some r) (fun σ => [(2, rS ([] : Str)), (3, rI .i64 0), (5, rv (.slice none 0 0))]) (fun σ => []) ?_ ?_
  ·rintro ⟨n15, ⟨⟩, ⟨⟩⟩ hi13
   refine wc_as (l' := [(2, rS ([] : Str)), (3, rI .i64 0), (5, rv (.slice none 0 0)), (15, rv (.slice none 0 0)), (16, rI .i64 0), (17, rI .i64 0)]) (H' := []) rfl rfl ?_
   obtain ⟨m12, rfl, t10, h14, ht11⟩ := lop_e hi13
   replace h14 : kEncodeN_b1  = some t10 := h14
   unfold kEncodeN_b1 at h14
   refine wc_sr ?_
   refine wv (o_lt rfl rfl) ?_
   refine wl_x ?_
   refine wc_seq ?_
   refine wc_cond_f rfl (by decide) ?_
   refine wc_exit ?_
   refine wk_then_exit ?_
   have h16 := stp_go h14 ht11 hK9
   exact wk_then_exit (wk_cut_hit (wk_some ((), ()) h16 (Sub.c rfl (Sub.c rfl (Sub.c rfl Sub.nil))) sN))
  ·rintro ⟨⟨⟩, ⟨⟩⟩ h17
   refine wk_as (l' := [(2, rS ([] : Str)), (3, rI .i64 0), (5, rv (.slice none 0 0))]) (H' := []) rfl rfl ?_
   replace h17 : kEncodeN_k1 F  = some r := h17
   unfold kEncodeN_k1 at h17
   refine wk_in_hit ?_
   refine wk_x ?_
   refine wc_sr ?_
   refine wm rfl ?_
   obtain ⟨r18, e20, h19⟩ := obn_e h17
   refine wc0 Tryz.call46 (fJoinN_w F r18 e20) rfl ?_
   refine wv (o_extract rfl rfl) ?_
   refine wv (o_extract rfl rfl) ?_
   refine wa rfl ?_
   refine wa rfl ?_
   refine wl_x ?_
   refine wc_ret ?_
   obtain rfl := some_e h19
   exact wk_ret (r_2 Tryz.results23 (rv_t rfl) (rv_t rfl)) sN ⟨rfl, rfl⟩

theorem lAwake_w (F : Nat)  (r : Bool) (h : lAwake F = some r) : Fn Tryz.prog GE 10 [] [] (fun R H => R = rB r ∧ H = []) := by
 refine enter (n := 86) Tryz.func10 rfl Tryz.ntmps10 rfl (fun w Z => ?_)
 refine wc_as (l' := []) (H' := []) rfl rfl ?_
 unfold lAwake at h
 refine wc_sr ?_
 refine wv (r := rB false) (o_assign rfl) ?_
 refine wl_y ?_
 obtain ⟨r1, e3, h2⟩ := obn_e h
 refine wcl (Hr := []) Tryz.call11 (kNew_w r1 e3) rfl (List.Perm.refl _) rfl ?_
 rintro _ _ ⟨b4, b5, b6, rfl, rfl⟩
 refine wa rfl ?_
 refine wl_x ?_
 refine wc_seq ?_
 refine wc_seq_cut (S := (Bool × (List (Str × TApiItem)) × (List (Str × TApiItem))) × (Unit)) (fun σ => lAwake_j1 F σ.1.1 σ.1.2.1 σ.1.2.2 = some r) (fun σ => [(0, rB false), (1, rv (.pointer (some ⟨b4, 0, none⟩))), (25, rB σ.1.1)]) (fun σ => [.blk b4 [rv (.map (some b5)), rv (.map (some b6))] 59, .map b5 (menc m_TApiItem σ.1.2.1), .map b6 (menc m_TApiItem σ.1.2.2)]) ?_ ?_
 ·refine wc_region ?_
  refine wm rfl ?_
  refine wv (r := rB false) (o_pnil ⟨_, Tryz.underlying25⟩ rfl) ?_
  refine wm rfl ?_
  refine wl_on (b := false) rfl rfl rfl ?_
  refine wm rfl ?_
  refine wl_on (b := false) rfl rfl rfl ?_
  obtain ⟨r27, e29, h28⟩ := obn_e h2
  refine wc0 Tryz.call33 (lPut_w 1 0 r27 e29) rfl ?_
  refine wl_on (b := false) rfl rfl rfl ?_
  obtain ⟨r30, e32, h31⟩ := obn_e h28
  refine wc0 Tryz.call33 (lPut_w 2 0 r30 e32) rfl ?_
  refine wl_on (b := false) rfl rfl rfl ?_
  refine w_buildSlice (ys := ([r27, r30] : List TApiChange)) (enc := eTApiChange) (css := [[rS r27.fKey, rB r27.fDelete, rSl 4 (List.map eTApiCell r27.fValue), rI .i64 r27.fIfVersion], [rS r30.fKey, rB r30.fDelete, rSl 4 (List.map eTApiCell r30.fValue), rI .i64 r30.fIfVersion]]) (xs := [.tmp 15, .tmp 16]) Tryz.underlying31 Tryz.sizeOf50 Tryz.zeroValue50 rfl rfl rfl ⟨Cel.agg ⟨Up.refl _, Up.refl _, Up.refl _, Up.refl _, trivial⟩, Cel.agg ⟨Up.refl _, Up.refl _, Up.refl _, Up.refl _, trivial⟩, trivial⟩ rfl eTApiChange_len rfl rfl rfl (fun b33 => ?_)
  refine wl_on (b := false) rfl rfl rfl ?_
  refine WL.freeze (i := 0) rfl ?_
  refine WL.up (d := 17) (r := rSl 4 (List.map eTApiChange ([r27, r30] : List TApiChange))) rfl (Up.fact (i := 0) rfl) ?_
  obtain ⟨r34, e36, h35⟩ := obn_e h31
  refine wcl (Hr := [.fact (.slice (some ⟨b33, 0, none⟩) 2 2) (rSl 4 (List.map eTApiChange ([r27, r30] : List TApiChange)))]) Tryz.call13 (kApply_w F b4 b5 b6 r1 ([r27, r30] : List TApiChange) r34 e36) rfl ((perm_front (i := 1) rfl).trans (List.Perm.cons _ ((perm_front (i := 1) rfl).trans (List.Perm.cons _ ((perm_front (i := 1) rfl).trans (List.Perm.cons _ (List.Perm.refl _))))))) rfl ?_
  rintro _ _ ⟨rfl, rfl⟩
  refine wl_on (b := false) rfl rfl rfl ?_
  refine wv (o_ne rfl rfl) ?_
  refine wv (r := rB (!decide (r34.1 = 19))) (o_pick_f (b := false) rfl rfl rfl) ?_
  refine wm rfl ?_
  refine bsplit (!decide (r34.1 = 19)) (fun c37 => ?_) (fun c37 => ?_)
  ·have h38 := cnd_t c37 h35
   refine wf c37 ?_
   refine wf c37 ?_
   refine wf c37 ?_
   refine wv (r := rB true) (o_pick_t (b := !decide (r34.1 = 19)) rfl c37 rfl) ?_
   refine wl_nil ?_
   exact wk_then (wk_some ((true, r34.2.fItems, r34.2.fChanged), ()) h38 (Sub.c rfl (Sub.c rfl (Sub.c rfl Sub.nil))) (sC (sC (sC (sS sN)))))
  ·have h39 := cnd_f c37 h35
   refine wo c37 ?_
   refine wm rfl ?_
   refine wo c37 ?_
   obtain ⟨r40, e42, h41⟩ := obn_e h39
   refine wcl (Hr := [.fact (.slice (some ⟨b33, 0, none⟩) 2 2) (rSl 4 (List.map eTApiChange ([r27, r30] : List TApiChange)))]) Tryz.call15 (kLen_w b4 b5 b6 r34.2 r40 e42) rfl (List.Perm.refl _) rfl ?_
   rintro _ _ ⟨rfl, rfl⟩
   refine wo c37 ?_
   refine wv (o_ne rfl rfl) ?_
   refine wpf rfl c37 rfl ?_
   refine wl_nil ?_
   exact wk_then (wk_some ((!decide (r40.1 = 0), r40.2.fItems, r40.2.fChanged), ()) h41 (Sub.c rfl (Sub.c rfl (Sub.c rfl Sub.nil))) (sC (sC (sC (sS sN)))))
 ·rintro ⟨⟨x24, x25, x26⟩, ⟨⟩⟩ h43
  refine wc_as (l' := [(0, rB false), (1, rv (.pointer (some ⟨b4, 0, none⟩))), (25, rB x24)]) (H' := [.blk b4 [rv (.map (some b5)), rv (.map (some b6))] 59, .map b5 (menc m_TApiItem x25), .map b6 (menc m_TApiItem x26)]) rfl rfl ?_
  replace h43 : lAwake_j1 F x24 x25 x26 = some r := h43
  unfold lAwake_j1 at h43
  refine wc_cond (b := x24) rfl (fun c44 => ?_) (fun c44 => ?_)
  ·have h45 := cnd_t c44 h43
   refine wc_sr ?_
   refine wv (r := rB false) (o_assign rfl) ?_
   refine wl_x ?_
   refine wc_ret ?_
   refine wk_then_ret ?_
   obtain rfl := some_e h45
   exact wk_ret (r_1 Tryz.results10 (rv_t rfl)) (sS (sS (sS sN))) ⟨rfl, rfl⟩
  ·have h46 := cnd_f c44 h43
   refine wc_skip ?_
   refine wk_x ?_
   refine wc_sr ?_
   refine wm rfl ?_
   obtain ⟨r47, e49, h48⟩ := obn_e h46
   refine wc0 Tryz.call33 (lPut_w 5 0 r47 e49) rfl ?_
   refine w_buildSlice (ys := ([r47] : List TApiChange)) (enc := eTApiChange) (css := [[rS r47.fKey, rB r47.fDelete, rSl 4 (List.map eTApiCell r47.fValue), rI .i64 r47.fIfVersion]]) (xs := [.tmp 27]) Tryz.underlying31 Tryz.sizeOf50 Tryz.zeroValue50 rfl rfl rfl ⟨Cel.agg ⟨Up.refl _, Up.refl _, Up.refl _, Up.refl _, trivial⟩, trivial⟩ rfl eTApiChange_len rfl rfl rfl (fun b50 => ?_)
   refine WL.freeze (i := 0) rfl ?_
   refine WL.up (d := 28) (r := rSl 4 (List.map eTApiChange ([r47] : List TApiChange))) rfl (Up.fact (i := 0) rfl) ?_
   obtain ⟨r51, e53, h52⟩ := obn_e h48
   refine wcl (Hr := [.fact (.slice (some ⟨b50, 0, none⟩) 1 1) (rSl 4 (List.map eTApiChange ([r47] : List TApiChange)))]) Tryz.call13 (kApply_w F b4 b5 b6 (TKvStore.mk x25 x26) ([r47] : List TApiChange) r51 e53) rfl ((perm_front (i := 1) rfl).trans (List.Perm.cons _ ((perm_front (i := 1) rfl).trans (List.Perm.cons _ ((perm_front (i := 1) rfl).trans (List.Perm.cons _ (List.Perm.refl _))))))) rfl ?_
   rintro _ _ ⟨rfl, rfl⟩
   refine wa rfl ?_
   refine wl_y ?_
   refine wm rfl ?_
   obtain ⟨r54, e56, h55⟩ := obn_e h52
   refine wc0 Tryz.call33 (lPut_w 5 0 r54 e56) rfl ?_
   refine w_buildSlice (ys := ([r54] : List TApiChange)) (enc := eTApiChange) (css := [[rS r54.fKey, rB r54.fDelete, rSl 4 (List.map eTApiCell r54.fValue), rI .i64 r54.fIfVersion]]) (xs := [.tmp 31]) Tryz.underlying31 Tryz.sizeOf50 Tryz.zeroValue50 rfl rfl rfl ⟨Cel.agg ⟨Up.refl _, Up.refl _, Up.refl _, Up.refl _, trivial⟩, trivial⟩ rfl eTApiChange_len rfl rfl rfl (fun b57 => ?_)
   refine WL.freeze (i := 0) rfl ?_
   refine WL.up (d := 32) (r := rSl 4 (List.map eTApiChange ([r54] : List TApiChange))) rfl (Up.fact (i := 0) rfl) ?_
   obtain ⟨r58, e60, h59⟩ := obn_e h55
   refine wcl (Hr := [.fact (.slice (some ⟨b57, 0, none⟩) 1 1) (rSl 4 (List.map eTApiChange ([r54] : List TApiChange))), .fact (.slice (some ⟨b50, 0, none⟩) 1 1) (rSl 4 (List.map eTApiChange ([r47] : List TApiChange)))]) Tryz.call13 (kApply_w F b4 b5 b6 r51.2 ([r54] : List TApiChange) r58 e60) rfl ((perm_front (i := 1) rfl).trans (List.Perm.cons _ ((perm_front (i := 1) rfl).trans (List.Perm.cons _ ((perm_front (i := 1) rfl).trans (List.Perm.cons _ (List.Perm.refl _))))))) rfl ?_
   rintro _ _ ⟨rfl, rfl⟩
   refine wa rfl ?_
   refine wl_y ?_
   refine wm rfl ?_
   obtain ⟨r61, e63, h62⟩ := obn_e h59
   refine wc0 Tryz.call33 (lPut_w 6 1 r61 e63) rfl ?_
   refine w_buildSlice (ys := ([r61] : List TApiChange)) (enc := eTApiChange) (css := [[rS r61.fKey, rB r61.fDelete, rSl 4 (List.map eTApiCell r61.fValue), rI .i64 r61.fIfVersion]]) (xs := [.tmp 35]) Tryz.underlying31 Tryz.sizeOf50 Tryz.zeroValue50 rfl rfl rfl ⟨Cel.agg ⟨Up.refl _, Up.refl _, Up.refl _, Up.refl _, trivial⟩, trivial⟩ rfl eTApiChange_len rfl rfl rfl (fun b64 => ?_)
   refine WL.freeze (i := 0) rfl ?_
   refine WL.up (d := 36) (r := rSl 4 (List.map eTApiChange ([r61] : List TApiChange))) rfl (Up.fact (i := 0) rfl) ?_
   obtain ⟨r65, e67, h66⟩ := obn_e h62
   refine wcl (Hr := [.fact (.slice (some ⟨b64, 0, none⟩) 1 1) (rSl 4 (List.map eTApiChange ([r61] : List TApiChange))), .fact (.slice (some ⟨b57, 0, none⟩) 1 1) (rSl 4 (List.map eTApiChange ([r54] : List TApiChange))), .fact (.slice (some ⟨b50, 0, none⟩) 1 1) (rSl 4 (List.map eTApiChange ([r47] : List TApiChange)))]) Tryz.call13 (kApply_w F b4 b5 b6 r58.2 ([r61] : List TApiChange) r65 e67) rfl ((perm_front (i := 1) rfl).trans (List.Perm.cons _ ((perm_front (i := 1) rfl).trans (List.Perm.cons _ ((perm_front (i := 1) rfl).trans (List.Perm.cons _ (List.Perm.refl _))))))) rfl ?_
   rintro _ _ ⟨rfl, rfl⟩
   refine wa rfl ?_
   refine wl_y ?_
   refine wm rfl ?_
   obtain ⟨r68, e70, h69⟩ := obn_e h66
   refine wcl (Hr := [.fact (.slice (some ⟨b64, 0, none⟩) 1 1) (rSl 4 (List.map eTApiChange ([r61] : List TApiChange))), .fact (.slice (some ⟨b57, 0, none⟩) 1 1) (rSl 4 (List.map eTApiChange ([r54] : List TApiChange))), .fact (.slice (some ⟨b50, 0, none⟩) 1 1) (rSl 4 (List.map eTApiChange ([r47] : List TApiChange)))]) Tryz.call17 (kGet_w b4 b5 b6 r65.2 ([107] : Str) r68 e70) rfl (List.Perm.refl _) rfl ?_
   rintro _ _ ⟨rfl, rfl⟩
   refine wm rfl ?_
   refine wv (o_extract rfl rfl) ?_
   refine wv (o_extract rfl rfl) ?_
   refine w_alloc (cs := [rS ([] : Str), rv (.slice none 0 0), rI .i64 0]) Tryz.zeroValue35 rfl rfl (fun b71 => ?_)
   refine u_store_agg (i := 0) Tryz.sizeOf35 rfl rfl rfl (OneAll.c rfl) rfl rfl (cs' := [rS r68.1.fKey, rSl 4 (List.map eTApiCell r68.1.fValue), rI .i64 r68.1.fVersion]) rfl (H' := [.blk b71 (eTApiItem r68.1) 35, .blk b4 [rv (.map (some b5)), rv (.map (some b6))] 59, .map b5 (menc m_TApiItem r68.2.2.fItems), .map b6 (menc m_TApiItem r68.2.2.fChanged), .fact (.slice (some ⟨b64, 0, none⟩) 1 1) (rSl 4 (List.map eTApiChange ([r61] : List TApiChange))), .fact (.slice (some ⟨b57, 0, none⟩) 1 1) (rSl 4 (List.map eTApiChange ([r54] : List TApiChange))), .fact (.slice (some ⟨b50, 0, none⟩) 1 1) (rSl 4 (List.map eTApiChange ([r47] : List TApiChange)))]) rfl ?_
   refine wa rfl ?_
   refine wl_y ?_
   refine wm rfl ?_
   refine wv (r := rAgg [rS ([107] : Str), rB true, rv (.slice none 0 0), rI .i64 2]) (o_build50_0_1_3 rfl rfl rfl rfl rfl rfl) ?_
   refine w_buildSlice (ys := ([(TApiChange.mk ([107] : Str) true ([] : List TApiCell) 2)] : List TApiChange)) (enc := eTApiChange) (css := [[rS ([107] : Str), rB true, rSl 4 (List.map eTApiCell ([] : List TApiCell)), rI .i64 2]]) (xs := [.tmp 44]) Tryz.underlying31 Tryz.sizeOf50 Tryz.zeroValue50 rfl rfl rfl ⟨Cel.agg ⟨Up.refl _, Up.refl _, Up.le (Rle.nil _), Up.refl _, trivial⟩, trivial⟩ rfl eTApiChange_len rfl rfl rfl (fun b72 => ?_)
   refine WL.freeze (i := 0) rfl ?_
   refine WL.up (d := 45) (r := rSl 4 (List.map eTApiChange ([(TApiChange.mk ([107] : Str) true ([] : List TApiCell) 2)] : List TApiChange))) rfl (Up.fact (i := 0) rfl) ?_
   obtain ⟨r73, e75, h74⟩ := obn_e h69
   refine wcl (Hr := [.fact (.slice (some ⟨b72, 0, none⟩) 1 1) (rSl 4 (List.map eTApiChange ([(TApiChange.mk ([107] : Str) true ([] : List TApiCell) 2)] : List TApiChange))), .blk b71 (eTApiItem r68.1) 35, .fact (.slice (some ⟨b64, 0, none⟩) 1 1) (rSl 4 (List.map eTApiChange ([r61] : List TApiChange))), .fact (.slice (some ⟨b57, 0, none⟩) 1 1) (rSl 4 (List.map eTApiChange ([r54] : List TApiChange))), .fact (.slice (some ⟨b50, 0, none⟩) 1 1) (rSl 4 (List.map eTApiChange ([r47] : List TApiChange)))]) Tryz.call13 (kApply_w F b4 b5 b6 r68.2.2 ([(TApiChange.mk ([107] : Str) true ([] : List TApiCell) 2)] : List TApiChange) r73 e75) rfl ((perm_front (i := 2) rfl).trans (List.Perm.cons _ ((perm_front (i := 2) rfl).trans (List.Perm.cons _ ((perm_front (i := 2) rfl).trans (List.Perm.cons _ (List.Perm.refl _))))))) rfl ?_
   rintro _ _ ⟨rfl, rfl⟩
   refine wa rfl ?_
   refine wl_y ?_
   obtain ⟨r76, e78, h77⟩ := obn_e h74
   refine wc0 Tryz.call23 (kEncodeN_w F r76 e78) rfl ?_
   refine wm rfl ?_
   refine wv (o_extract rfl rfl) ?_
   refine wv (o_extract rfl rfl) ?_
   refine wa rfl ?_
   refine wa rfl ?_
   refine wl_x ?_
   refine wc_seq_cut (S := (Bool) × (Unit)) (fun σ => lAwake_j2 σ.1 = some r) (fun σ => [(0, rB σ.1)]) (fun σ => []) ?_ ?_
   ·refine wc_region ?_
    refine wm rfl ?_
    refine wv (o_eq rfl rfl) ?_
    refine wm rfl ?_
    refine bsplit (decide (r51.1 = 0)) (fun c113 => ?_) (fun c113 => ?_)
    ·have h114 := cnd_t c113 h77
     refine wo c113 ?_
     refine wm rfl ?_
     refine wo c113 ?_
     refine wv (o_eq rfl rfl) ?_
     refine wpt rfl c113 rfl ?_
     refine wm rfl ?_
     refine bsplit (decide (r58.1 = 19)) (fun c115 => ?_) (fun c115 => ?_)
     ·have h116 := cnd_t c115 h114
      refine wo c115 ?_
      refine wm rfl ?_
      refine wo c115 ?_
      refine wv (o_eq rfl rfl) ?_
      refine wpt rfl c115 rfl ?_
      refine wm rfl ?_
      refine bsplit (decide (r65.1 = 0)) (fun c117 => ?_) (fun c117 => ?_)
      ·have h118 := cnd_t c117 h116
       refine wo c117 ?_
       refine wm rfl ?_
       refine wpt rfl c117 rfl ?_
       refine wm rfl ?_
       refine bsplit (r68.2.1) (fun c119 => ?_) (fun c119 => ?_)
       ·have h120 := cnd_t c119 h118
        refine wo c119 ?_
        refine wv (o_fieldAddr Tryz.underlying35 rfl Tryz.sizeOf3 rfl rfl) ?_
        refine wo c119 ?_
        refine wv (o_load (i := 4) Tryz.isAgg3 rfl rfl rfl) ?_
        refine wo c119 ?_
        refine wv (o_eq rfl rfl) ?_
        refine wpt rfl c119 rfl ?_
        refine wm rfl ?_
        refine bsplit (decide (r68.1.fVersion = 2)) (fun c121 => ?_) (fun c121 => ?_)
        ·have h122 := cnd_t c121 h120
         refine wo c121 ?_
         refine wm rfl ?_
         refine wo c121 ?_
         refine wv (o_eq rfl rfl) ?_
         refine wpt rfl c121 rfl ?_
         refine wm rfl ?_
         refine bsplit (decide (r73.1 = 0)) (fun c123 => ?_) (fun c123 => ?_)
         ·have h124 := cnd_t c123 h122
          refine wo c123 ?_
          refine wm rfl ?_
          refine wo c123 ?_
          obtain ⟨r125, e127, h126⟩ := obn_e h124
          refine wcl (Hr := [.fact (.slice (some ⟨b72, 0, none⟩) 1 1) (rSl 4 (List.map eTApiChange ([(TApiChange.mk ([107] : Str) true ([] : List TApiCell) 2)] : List TApiChange))), .blk b71 (eTApiItem r68.1) 35, .fact (.slice (some ⟨b64, 0, none⟩) 1 1) (rSl 4 (List.map eTApiChange ([r61] : List TApiChange))), .fact (.slice (some ⟨b57, 0, none⟩) 1 1) (rSl 4 (List.map eTApiChange ([r54] : List TApiChange))), .fact (.slice (some ⟨b50, 0, none⟩) 1 1) (rSl 4 (List.map eTApiChange ([r47] : List TApiChange)))]) Tryz.call15 (kLen_w b4 b5 b6 r73.2 r125 e127) rfl (List.Perm.refl _) rfl ?_
          rintro _ _ ⟨rfl, rfl⟩
          refine wo c123 ?_
          refine wv (o_eq rfl rfl) ?_
          refine wpt rfl c123 rfl ?_
          refine wm rfl ?_
          refine bsplit (decide (r125.1 = 0)) (fun c128 => ?_) (fun c128 => ?_)
          ·have h129 := cnd_t c128 h126
           refine wo c128 ?_
           refine wm rfl ?_
           refine wo c128 ?_
           refine wv (o_seq rfl rfl) ?_
           refine wpt rfl c128 rfl ?_
           refine wm rfl ?_
           refine bsplit (decide (r76.1 = ([] : Str))) (fun c130 => ?_) (fun c130 => ?_)
           ·have h131 := cnd_t c130 h129
            refine wo c130 ?_
            refine wm rfl ?_
            refine wo c130 ?_
            refine wv (o_eq rfl rfl) ?_
            refine wpt rfl c130 rfl ?_
            refine wa rfl ?_
            refine wl_nil ?_
            exact wk_then (wk_some (decide (r76.2 = 0), ()) h131 (Sub.c rfl Sub.nil) (sS (sS (sS (sS (sS (sS (sS (sS sN)))))))))
           ·have h132 := cnd_f c130 h129
            refine wf c130 ?_
            refine wf c130 ?_
            refine wv (r := rB false) (o_pick_f (b := decide (r76.1 = ([] : Str))) rfl c130 rfl) ?_
            refine wa rfl ?_
            refine wl_nil ?_
            exact wk_then (wk_some (false, ()) h132 (Sub.c rfl Sub.nil) (sS (sS (sS (sS (sS (sS (sS (sS sN)))))))))
          ·have h133 := cnd_f c128 h126
           refine wf c128 ?_
           refine wf c128 ?_
           refine wv (r := rB false) (o_pick_f (b := decide (r125.1 = 0)) rfl c128 rfl) ?_
           refine wm rfl ?_
           refine wl_off (b := false) rfl rfl rfl rfl ?_
           refine wl_off (b := false) rfl rfl rfl rfl ?_
           refine wv (r := rB false) (o_pick_f (b := false) rfl rfl rfl) ?_
           refine wa rfl ?_
           refine wl_nil ?_
           exact wk_then (wk_some (false, ()) h133 (Sub.c rfl Sub.nil) (sS (sS (sS (sS (sS (sS (sS (sS sN)))))))))
         ·have h134 := cnd_f c123 h122
          refine wf c123 ?_
          refine wf c123 ?_
          refine wf c123 ?_
          refine wv (r := rB false) (o_pick_f (b := decide (r73.1 = 0)) rfl c123 rfl) ?_
          refine wm rfl ?_
          refine wl_off (b := false) rfl rfl rfl rfl ?_
          refine wl_off (b := false) rfl rfl rfl rfl ?_
          refine wv (r := rB false) (o_pick_f (b := false) rfl rfl rfl) ?_
          refine wm rfl ?_
          refine wl_off (b := false) rfl rfl rfl rfl ?_
          refine wl_off (b := false) rfl rfl rfl rfl ?_
          refine wv (r := rB false) (o_pick_f (b := false) rfl rfl rfl) ?_
          refine wa rfl ?_
          refine wl_nil ?_
          exact wk_then (wk_some (false, ()) h134 (Sub.c rfl Sub.nil) (sS (sS (sS (sS (sS (sS (sS (sS sN)))))))))
        ·have h135 := cnd_f c121 h120
         refine wf c121 ?_
         refine wf c121 ?_
         refine wv (r := rB false) (o_pick_f (b := decide (r68.1.fVersion = 2)) rfl c121 rfl) ?_
         refine wm rfl ?_
         refine wl_off (b := false) rfl rfl rfl rfl ?_
         refine wl_off (b := false) rfl rfl rfl rfl ?_
         refine wl_off (b := false) rfl rfl rfl rfl ?_
         refine wv (r := rB false) (o_pick_f (b := false) rfl rfl rfl) ?_
         refine wm rfl ?_
         refine wl_off (b := false) rfl rfl rfl rfl ?_
         refine wl_off (b := false) rfl rfl rfl rfl ?_
         refine wv (r := rB false) (o_pick_f (b := false) rfl rfl rfl) ?_
         refine wm rfl ?_
         refine wl_off (b := false) rfl rfl rfl rfl ?_
         refine wl_off (b := false) rfl rfl rfl rfl ?_
         refine wv (r := rB false) (o_pick_f (b := false) rfl rfl rfl) ?_
         refine wa rfl ?_
         refine wl_nil ?_
         exact wk_then (wk_some (false, ()) h135 (Sub.c rfl Sub.nil) (sS (sS (sS (sS (sS (sS (sS (sS sN)))))))))
       ·have h136 := cnd_f c119 h118
        refine wf c119 ?_
        refine wf c119 ?_
        refine wf c119 ?_
        refine wv (r := rB false) (o_pick_f (b := r68.2.1) rfl c119 rfl) ?_
        refine wm rfl ?_
        refine wl_off (b := false) rfl rfl rfl rfl ?_
        refine wl_off (b := false) rfl rfl rfl rfl ?_
        refine wv (r := rB false) (o_pick_f (b := false) rfl rfl rfl) ?_
        refine wm rfl ?_
        refine wl_off (b := false) rfl rfl rfl rfl ?_
        refine wl_off (b := false) rfl rfl rfl rfl ?_
        refine wl_off (b := false) rfl rfl rfl rfl ?_
        refine wv (r := rB false) (o_pick_f (b := false) rfl rfl rfl) ?_
        refine wm rfl ?_
        refine wl_off (b := false) rfl rfl rfl rfl ?_
        refine wl_off (b := false) rfl rfl rfl rfl ?_
        refine wv (r := rB false) (o_pick_f (b := false) rfl rfl rfl) ?_
        refine wm rfl ?_
        refine wl_off (b := false) rfl rfl rfl rfl ?_
        refine wl_off (b := false) rfl rfl rfl rfl ?_
        refine wv (r := rB false) (o_pick_f (b := false) rfl rfl rfl) ?_
        refine wa rfl ?_
        refine wl_nil ?_
        exact wk_then (wk_some (false, ()) h136 (Sub.c rfl Sub.nil) (sS (sS (sS (sS (sS (sS (sS (sS sN)))))))))
      ·have h137 := cnd_f c117 h116
       refine wf c117 ?_
       refine wv (r := rB false) (o_pick_f (b := decide (r65.1 = 0)) rfl c117 rfl) ?_
       refine wm rfl ?_
       refine wl_off (b := false) rfl rfl rfl rfl ?_
       refine wl_off (b := false) rfl rfl rfl rfl ?_
       refine wl_off (b := false) rfl rfl rfl rfl ?_
       refine wv (r := rB false) (o_pick_f (b := false) rfl rfl rfl) ?_
       refine wm rfl ?_
       refine wl_off (b := false) rfl rfl rfl rfl ?_
       refine wl_off (b := false) rfl rfl rfl rfl ?_
       refine wv (r := rB false) (o_pick_f (b := false) rfl rfl rfl) ?_
       refine wm rfl ?_
       refine wl_off (b := false) rfl rfl rfl rfl ?_
       refine wl_off (b := false) rfl rfl rfl rfl ?_
       refine wl_off (b := false) rfl rfl rfl rfl ?_
       refine wv (r := rB false) (o_pick_f (b := false) rfl rfl rfl) ?_
       refine wm rfl ?_
       refine wl_off (b := false) rfl rfl rfl rfl ?_
       refine wl_off (b := false) rfl rfl rfl rfl ?_
       refine wv (r := rB false) (o_pick_f (b := false) rfl rfl rfl) ?_
       refine wm rfl ?_
       refine wl_off (b := false) rfl rfl rfl rfl ?_
       refine wl_off (b := false) rfl rfl rfl rfl ?_
       refine wv (r := rB false) (o_pick_f (b := false) rfl rfl rfl) ?_
       refine wa rfl ?_
       refine wl_nil ?_
       exact wk_then (wk_some (false, ()) h137 (Sub.c rfl Sub.nil) (sS (sS (sS (sS (sS (sS (sS (sS sN)))))))))
     ·have h138 := cnd_f c115 h114
      refine wf c115 ?_
      refine wf c115 ?_
      refine wv (r := rB false) (o_pick_f (b := decide (r58.1 = 19)) rfl c115 rfl) ?_
      refine wm rfl ?_
      refine wl_off (b := false) rfl rfl rfl rfl ?_
      refine wv (r := rB false) (o_pick_f (b := false) rfl rfl rfl) ?_
      refine wm rfl ?_
      refine wl_off (b := false) rfl rfl rfl rfl ?_
      refine wl_off (b := false) rfl rfl rfl rfl ?_
      refine wl_off (b := false) rfl rfl rfl rfl ?_
      refine wv (r := rB false) (o_pick_f (b := false) rfl rfl rfl) ?_
      refine wm rfl ?_
      refine wl_off (b := false) rfl rfl rfl rfl ?_
      refine wl_off (b := false) rfl rfl rfl rfl ?_
      refine wv (r := rB false) (o_pick_f (b := false) rfl rfl rfl) ?_
      refine wm rfl ?_
      refine wl_off (b := false) rfl rfl rfl rfl ?_
      refine wl_off (b := false) rfl rfl rfl rfl ?_
      refine wl_off (b := false) rfl rfl rfl rfl ?_
      refine wv (r := rB false) (o_pick_f (b := false) rfl rfl rfl) ?_
      refine wm rfl ?_
      refine wl_off (b := false) rfl rfl rfl rfl ?_
      refine wl_off (b := false) rfl rfl rfl rfl ?_
      refine wv (r := rB false) (o_pick_f (b := false) rfl rfl rfl) ?_
      refine wm rfl ?_
      refine wl_off (b := false) rfl rfl rfl rfl ?_
      refine wl_off (b := false) rfl rfl rfl rfl ?_
      refine wv (r := rB false) (o_pick_f (b := false) rfl rfl rfl) ?_
      refine wa rfl ?_
      refine wl_nil ?_
      exact wk_then (wk_some (false, ()) h138 (Sub.c rfl Sub.nil) (sS (sS (sS (sS (sS (sS (sS (sS sN)))))))))
    ·have h139 := cnd_f c113 h77
     refine wf c113 ?_
     refine wf c113 ?_
     refine wv (r := rB false) (o_pick_f (b := decide (r51.1 = 0)) rfl c113 rfl) ?_
     refine wm rfl ?_
     refine wl_off (b := false) rfl rfl rfl rfl ?_
     refine wl_off (b := false) rfl rfl rfl rfl ?_
     refine wv (r := rB false) (o_pick_f (b := false) rfl rfl rfl) ?_
     refine wm rfl ?_
     refine wl_off (b := false) rfl rfl rfl rfl ?_
     refine wv (r := rB false) (o_pick_f (b := false) rfl rfl rfl) ?_
     refine wm rfl ?_
     refine wl_off (b := false) rfl rfl rfl rfl ?_
     refine wl_off (b := false) rfl rfl rfl rfl ?_
     refine wl_off (b := false) rfl rfl rfl rfl ?_
     refine wv (r := rB false) (o_pick_f (b := false) rfl rfl rfl) ?_
     refine wm rfl ?_
     refine wl_off (b := false) rfl rfl rfl rfl ?_
     refine wl_off (b := false) rfl rfl rfl rfl ?_
     refine wv (r := rB false) (o_pick_f (b := false) rfl rfl rfl) ?_
     refine wm rfl ?_
     refine wl_off (b := false) rfl rfl rfl rfl ?_
     refine wl_off (b := false) rfl rfl rfl rfl ?_
     refine wl_off (b := false) rfl rfl rfl rfl ?_
     refine wv (r := rB false) (o_pick_f (b := false) rfl rfl rfl) ?_
     refine wm rfl ?_
     refine wl_off (b := false) rfl rfl rfl rfl ?_
     refine wl_off (b := false) rfl rfl rfl rfl ?_
     refine wv (r := rB false) (o_pick_f (b := false) rfl rfl rfl) ?_
     refine wm rfl ?_
     refine wl_off (b := false) rfl rfl rfl rfl ?_
     refine wl_off (b := false) rfl rfl rfl rfl ?_
     refine wv (r := rB false) (o_pick_f (b := false) rfl rfl rfl) ?_
     refine wa rfl ?_
     refine wl_nil ?_
     exact wk_then (wk_some (false, ()) h139 (Sub.c rfl Sub.nil) (sS (sS (sS (sS (sS (sS (sS (sS sN)))))))))
   ·rintro ⟨x112, ⟨⟩⟩ h140
    refine wc_as (l' := [(0, rB x112)]) (H' := []) rfl rfl ?_
    replace h140 : lAwake_j2 x112 = some r := h140
    unfold lAwake_j2 at h140
    refine wc_ret ?_
    obtain rfl := some_e h140
    exact wk_ret (r_1 Tryz.results10 (rv_t rfl)) sN ⟨rfl, rfl⟩

theorem lNoneNil_w (l : (List TApiChange)) (key : Str) (r : Bool) (h : lNoneNil l key = some r) : Fn Tryz.prog GE 32 [rv (.pointer none), rSl 4 (List.map eTApiChange l), rS key] [] (fun R H => R = rB r ∧ H = []) := by
 refine enter (n := 40) Tryz.func32 rfl Tryz.ntmps32 rfl (fun w Z => ?_)
 refine wc_as (l' := [(0, rv (.pointer none)), (1, rSl 4 (List.map eTApiChange l)), (2, rS key)]) (H' := []) rfl rfl ?_
 unfold lNoneNil at h
 refine wc_sr ?_
 refine wv (r := rB false) (o_assign rfl) ?_
 refine wl_y ?_
 refine wm rfl ?_
 refine wm rfl ?_
 obtain ⟨r1, e3, h2⟩ := obn_e h
 refine wc0 Tryz.call17 (kGetNil_w key r1 e3) rfl ?_
 refine wm rfl ?_
 refine wv (o_extract rfl rfl) ?_
 refine wv (o_extract rfl rfl) ?_
 refine w_alloc (cs := [rS ([] : Str), rv (.slice none 0 0), rI .i64 0]) Tryz.zeroValue35 rfl rfl (fun b4 => ?_)
 refine u_store_agg (i := 0) Tryz.sizeOf35 rfl rfl rfl (OneAll.c rfl) rfl rfl (cs' := [rS r1.1.fKey, rSl 4 (List.map eTApiCell r1.1.fValue), rI .i64 r1.1.fVersion]) rfl (H' := [.blk b4 (eTApiItem r1.1) 35]) rfl ?_
 refine wa rfl ?_
 refine wl_x ?_
 obtain ⟨g5, h6⟩ := chk_e h2
 obtain ⟨g7, h8⟩ := chk_e h6
 obtain ⟨g9, h10⟩ := chk_e h8
 obtain ⟨g11, h12⟩ := chk_e h10
 refine wc_seq_mid [(6, rB ((decide ((ov (kApplyNil l)) = 10)) && ((!r1.2) && ((decide (((ov (kScanNil ([] : Str))).length : Int) = 0)) && ((decide ((ov (kLenNil)) = 0)) && (decide ((ov (kLoadNil key)) = 10)))))))] [] ?_ ?_
 ·refine wc_region ?_
  refine wm rfl ?_
  refine wm rfl ?_
  refine wc0 Tryz.call13 (kApplyNil_w l (ov (kApplyNil l)) (ov_e g5)) rfl ?_
  refine wv (o_eq rfl rfl) ?_
  refine wm rfl ?_
  refine bsplit (decide ((ov (kApplyNil l)) = 10)) (fun c13 => ?_) (fun c13 => ?_)
  ·refine wo c13 ?_
   refine wm rfl ?_
   refine wo c13 ?_
   refine wv (o_not rfl) ?_
   refine wpt rfl c13 rfl ?_
   refine wm rfl ?_
   refine bsplit (!r1.2) (fun c14 => ?_) (fun c14 => ?_)
   ·refine wo c14 ?_
    refine wm rfl ?_
    refine wo c14 ?_
    refine wc0 Tryz.call20 (kScanNil_w ([] : Str) (ov (kScanNil ([] : Str))) (ov_e (imp_t (imp_t g7 c13) c14))) rfl ?_
    refine wo c14 ?_
    refine wv (o_len_zt (ys := (ov (kScanNil ([] : Str)))) (enc := eTApiItem) Tryz.underlying39 rfl) ?_
    refine wo c14 ?_
    refine wv (o_eq rfl rfl) ?_
    refine wpt rfl c14 rfl ?_
    refine wm rfl ?_
    refine bsplit (decide (((ov (kScanNil ([] : Str))).length : Int) = 0)) (fun c15 => ?_) (fun c15 => ?_)
    ·refine wo c15 ?_
     refine wm rfl ?_
     refine wo c15 ?_
     refine wc0 Tryz.call15 (kLenNil_w (ov (kLenNil)) (ov_e (imp_t (imp_t (imp_t g9 c13) c14) c15))) rfl ?_
     refine wo c15 ?_
     refine wv (o_eq rfl rfl) ?_
     refine wpt rfl c15 rfl ?_
     refine wm rfl ?_
     refine bsplit (decide ((ov (kLenNil)) = 0)) (fun c16 => ?_) (fun c16 => ?_)
     ·refine wo c16 ?_
      refine wm rfl ?_
      refine wo c16 ?_
      refine wm rfl ?_
      refine wo c16 ?_
      refine wc0 Tryz.call30 (kLoadNil_w key (ov (kLoadNil key)) (ov_e (imp_t (imp_t (imp_t (imp_t g11 c13) c14) c15) c16))) rfl ?_
      refine wo c16 ?_
      refine wv (o_eq rfl rfl) ?_
      refine wpt rfl c16 rfl ?_
      refine wa rfl ?_
      refine wl_nil ?_
      exact wtc (And.intro c13 (And.intro c14 (And.intro c15 c16)))
     ·refine wf c16 ?_
      refine wf c16 ?_
      refine wf c16 ?_
      refine wf c16 ?_
      refine wv (r := rB false) (o_pick_f (b := decide ((ov (kLenNil)) = 0)) rfl c16 rfl) ?_
      refine wa rfl ?_
      refine wl_nil ?_
      exact wtc (And.intro c13 (And.intro c14 (And.intro c15 c16)))
    ·refine wf c15 ?_
     refine wf c15 ?_
     refine wf c15 ?_
     refine wv (r := rB false) (o_pick_f (b := decide (((ov (kScanNil ([] : Str))).length : Int) = 0)) rfl c15 rfl) ?_
     refine wm rfl ?_
     refine wl_off (b := false) rfl rfl rfl rfl ?_
     refine wl_off (b := false) rfl rfl rfl rfl ?_
     refine wl_off (b := false) rfl rfl rfl rfl ?_
     refine wl_off (b := false) rfl rfl rfl rfl ?_
     refine wv (r := rB false) (o_pick_f (b := false) rfl rfl rfl) ?_
     refine wa rfl ?_
     refine wl_nil ?_
     exact wtc (And.intro c13 (And.intro c14 c15))
   ·refine wf c14 ?_
    refine wf c14 ?_
    refine wf c14 ?_
    refine wf c14 ?_
    refine wv (r := rB false) (o_pick_f (b := !r1.2) rfl c14 rfl) ?_
    refine wm rfl ?_
    refine wl_off (b := false) rfl rfl rfl rfl ?_
    refine wl_off (b := false) rfl rfl rfl rfl ?_
    refine wl_off (b := false) rfl rfl rfl rfl ?_
    refine wv (r := rB false) (o_pick_f (b := false) rfl rfl rfl) ?_
    refine wm rfl ?_
    refine wl_off (b := false) rfl rfl rfl rfl ?_
    refine wl_off (b := false) rfl rfl rfl rfl ?_
    refine wl_off (b := false) rfl rfl rfl rfl ?_
    refine wl_off (b := false) rfl rfl rfl rfl ?_
    refine wv (r := rB false) (o_pick_f (b := false) rfl rfl rfl) ?_
    refine wa rfl ?_
    refine wl_nil ?_
    exact wtc (And.intro c13 c14)
  ·refine wf c13 ?_
   refine wf c13 ?_
   refine wv (r := rB false) (o_pick_f (b := decide ((ov (kApplyNil l)) = 10)) rfl c13 rfl) ?_
   refine wm rfl ?_
   refine wl_off (b := false) rfl rfl rfl rfl ?_
   refine wl_off (b := false) rfl rfl rfl rfl ?_
   refine wl_off (b := false) rfl rfl rfl rfl ?_
   refine wl_off (b := false) rfl rfl rfl rfl ?_
   refine wv (r := rB false) (o_pick_f (b := false) rfl rfl rfl) ?_
   refine wm rfl ?_
   refine wl_off (b := false) rfl rfl rfl rfl ?_
   refine wl_off (b := false) rfl rfl rfl rfl ?_
   refine wl_off (b := false) rfl rfl rfl rfl ?_
   refine wv (r := rB false) (o_pick_f (b := false) rfl rfl rfl) ?_
   refine wm rfl ?_
   refine wl_off (b := false) rfl rfl rfl rfl ?_
   refine wl_off (b := false) rfl rfl rfl rfl ?_
   refine wl_off (b := false) rfl rfl rfl rfl ?_
   refine wl_off (b := false) rfl rfl rfl rfl ?_
   refine wv (r := rB false) (o_pick_f (b := false) rfl rfl rfl) ?_
   refine wa rfl ?_
   refine wl_nil ?_
   exact wtc c13
 refine wc_ret ?_
 obtain rfl := some_e h12
 exact wk_ret (r_1 Tryz.results32 (rv_t rfl)) sN ⟨rfl, rfl⟩

theorem lNoneZero_w (b_q : Nat) (l : (List TApiChange)) (key : Str) (r : Bool) (h : lNoneZero l key = some r) : Fn Tryz.prog GE 32 [rv (.pointer (some ⟨b_q, 0, none⟩)), rSl 4 (List.map eTApiChange l), rS key] [.blk b_q [rv (.map none), rv (.map none)] 59] (fun R H => R = rB r ∧ H = [.blk b_q [rv (.map none), rv (.map none)] 59]) := by
 refine enter (n := 40) Tryz.func32 rfl Tryz.ntmps32 rfl (fun w Z => ?_)
 refine wc_as (l' := [(0, rv (.pointer (some ⟨b_q, 0, none⟩))), (1, rSl 4 (List.map eTApiChange l)), (2, rS key)]) (H' := [.blk b_q [rv (.map none), rv (.map none)] 59]) rfl rfl ?_
 unfold lNoneZero at h
 refine wc_sr ?_
 refine wv (r := rB false) (o_assign rfl) ?_
 refine wl_y ?_
 refine wm rfl ?_
 refine wm rfl ?_
 obtain ⟨r1, e3, h2⟩ := obn_e h
 refine wcl (Hr := []) Tryz.call17 (kGetZero_w b_q key r1 e3) rfl (List.Perm.refl _) rfl ?_
 rintro _ _ ⟨rfl, rfl⟩
 refine wm rfl ?_
 refine wv (o_extract rfl rfl) ?_
 refine wv (o_extract rfl rfl) ?_
 refine w_alloc (cs := [rS ([] : Str), rv (.slice none 0 0), rI .i64 0]) Tryz.zeroValue35 rfl rfl (fun b4 => ?_)
 refine u_store_agg (i := 0) Tryz.sizeOf35 rfl rfl rfl (OneAll.c rfl) rfl rfl (cs' := [rS r1.1.fKey, rSl 4 (List.map eTApiCell r1.1.fValue), rI .i64 r1.1.fVersion]) rfl (H' := [.blk b4 (eTApiItem r1.1) 35, .blk b_q [rv (.map none), rv (.map none)] 59]) rfl ?_
 refine wa rfl ?_
 refine wl_x ?_
 refine wc_seq_cut (S := (Bool) × (Unit)) (fun σ => lNoneZero_j1 σ.1 = some r) (fun σ => [(6, rB σ.1)]) (fun σ => [.blk b_q [rv (.map none), rv (.map none)] 59]) ?_ ?_
 ·refine wc_region ?_
  refine wm rfl ?_
  refine wm rfl ?_
  obtain ⟨r30, e32, h31⟩ := obn_e h2
  refine wcl (Hr := [.blk b4 (eTApiItem r1.1) 35]) Tryz.call13 (kApplyZero_w b_q l r30 e32) rfl ((perm_front (i := 1) rfl).trans (List.Perm.cons _ (List.Perm.refl _))) rfl ?_
  rintro _ _ ⟨rfl, rfl⟩
  refine wv (o_eq rfl rfl) ?_
  refine wm rfl ?_
  refine bsplit (decide (r30 = 10)) (fun c33 => ?_) (fun c33 => ?_)
  ·have h34 := cnd_t c33 h31
   refine wo c33 ?_
   refine wm rfl ?_
   refine wo c33 ?_
   refine wv (o_not rfl) ?_
   refine wpt rfl c33 rfl ?_
   refine wm rfl ?_
   refine bsplit (!r1.2) (fun c35 => ?_) (fun c35 => ?_)
   ·have h36 := cnd_t c35 h34
    refine wo c35 ?_
    refine wm rfl ?_
    refine wo c35 ?_
    obtain ⟨r37, e39, h38⟩ := obn_e h36
    refine wcl (Hr := [.blk b4 (eTApiItem r1.1) 35]) Tryz.call20 (kScanZero_w b_q ([] : Str) r37 e39) rfl (List.Perm.refl _) rfl ?_
    rintro _ _ ⟨rfl, rfl⟩
    refine wo c35 ?_
    refine wv (o_len_zt (ys := r37) (enc := eTApiItem) Tryz.underlying39 rfl) ?_
    refine wo c35 ?_
    refine wv (o_eq rfl rfl) ?_
    refine wpt rfl c35 rfl ?_
    refine wm rfl ?_
    refine bsplit (decide ((r37.length : Int) = 0)) (fun c40 => ?_) (fun c40 => ?_)
    ·have h41 := cnd_t c40 h38
     refine wo c40 ?_
     refine wm rfl ?_
     refine wo c40 ?_
     obtain ⟨r42, e44, h43⟩ := obn_e h41
     refine wcl (Hr := [.blk b4 (eTApiItem r1.1) 35]) Tryz.call15 (kLenZero_w b_q r42 e44) rfl (List.Perm.refl _) rfl ?_
     rintro _ _ ⟨rfl, rfl⟩
     refine wo c40 ?_
     refine wv (o_eq rfl rfl) ?_
     refine wpt rfl c40 rfl ?_
     refine wm rfl ?_
     refine bsplit (decide (r42 = 0)) (fun c45 => ?_) (fun c45 => ?_)
     ·have h46 := cnd_t c45 h43
      refine wo c45 ?_
      refine wm rfl ?_
      refine wo c45 ?_
      refine wm rfl ?_
      refine wo c45 ?_
      obtain ⟨r47, e49, h48⟩ := obn_e h46
      refine wcl (Hr := [.blk b4 (eTApiItem r1.1) 35]) Tryz.call30 (kLoadZero_w b_q key r47 e49) rfl (List.Perm.refl _) rfl ?_
      rintro _ _ ⟨rfl, rfl⟩
      refine wo c45 ?_
      refine wv (o_eq rfl rfl) ?_
      refine wpt rfl c45 rfl ?_
      refine wa rfl ?_
      refine wl_nil ?_
      exact wk_then (wk_some (decide (r47 = 10), ()) h48 (Sub.c rfl Sub.nil) (sC (sS sN)))
     ·have h50 := cnd_f c45 h43
      refine wf c45 ?_
      refine wf c45 ?_
      refine wf c45 ?_
      refine wf c45 ?_
      refine wv (r := rB false) (o_pick_f (b := decide (r42 = 0)) rfl c45 rfl) ?_
      refine wa rfl ?_
      refine wl_nil ?_
      exact wk_then (wk_some (false, ()) h50 (Sub.c rfl Sub.nil) (sC (sS sN)))
    ·have h51 := cnd_f c40 h38
     refine wf c40 ?_
     refine wf c40 ?_
     refine wf c40 ?_
     refine wv (r := rB false) (o_pick_f (b := decide ((r37.length : Int) = 0)) rfl c40 rfl) ?_
     refine wm rfl ?_
     refine wl_off (b := false) rfl rfl rfl rfl ?_
     refine wl_off (b := false) rfl rfl rfl rfl ?_
     refine wl_off (b := false) rfl rfl rfl rfl ?_
     refine wl_off (b := false) rfl rfl rfl rfl ?_
     refine wv (r := rB false) (o_pick_f (b := false) rfl rfl rfl) ?_
     refine wa rfl ?_
     refine wl_nil ?_
     exact wk_then (wk_some (false, ()) h51 (Sub.c rfl Sub.nil) (sC (sS sN)))
   ·have h52 := cnd_f c35 h34
    refine wf c35 ?_
    refine wf c35 ?_
    refine wf c35 ?_
    refine wf c35 ?_
    refine wv (r := rB false) (o_pick_f (b := !r1.2) rfl c35 rfl) ?_
    refine wm rfl ?_
    refine wl_off (b := false) rfl rfl rfl rfl ?_
    refine wl_off (b := false) rfl rfl rfl rfl ?_
    refine wl_off (b := false) rfl rfl rfl rfl ?_
    refine wv (r := rB false) (o_pick_f (b := false) rfl rfl rfl) ?_
    refine wm rfl ?_
    refine wl_off (b := false) rfl rfl rfl rfl ?_
    refine wl_off (b := false) rfl rfl rfl rfl ?_
    refine wl_off (b := false) rfl rfl rfl rfl ?_
    refine wl_off (b := false) rfl rfl rfl rfl ?_
    refine wv (r := rB false) (o_pick_f (b := false) rfl rfl rfl) ?_
    refine wa rfl ?_
    refine wl_nil ?_
    exact wk_then (wk_some (false, ()) h52 (Sub.c rfl Sub.nil) (sC (sS sN)))
  ·have h53 := cnd_f c33 h31
   refine wf c33 ?_
   refine wf c33 ?_
   refine wv (r := rB false) (o_pick_f (b := decide (r30 = 10)) rfl c33 rfl) ?_
   refine wm rfl ?_
   refine wl_off (b := false) rfl rfl rfl rfl ?_
   refine wl_off (b := false) rfl rfl rfl rfl ?_
   refine wl_off (b := false) rfl rfl rfl rfl ?_
   refine wl_off (b := false) rfl rfl rfl rfl ?_
   refine wv (r := rB false) (o_pick_f (b := false) rfl rfl rfl) ?_
   refine wm rfl ?_
   refine wl_off (b := false) rfl rfl rfl rfl ?_
   refine wl_off (b := false) rfl rfl rfl rfl ?_
   refine wl_off (b := false) rfl rfl rfl rfl ?_
   refine wv (r := rB false) (o_pick_f (b := false) rfl rfl rfl) ?_
   refine wm rfl ?_
   refine wl_off (b := false) rfl rfl rfl rfl ?_
   refine wl_off (b := false) rfl rfl rfl rfl ?_
   refine wl_off (b := false) rfl rfl rfl rfl ?_
   refine wl_off (b := false) rfl rfl rfl rfl ?_
   refine wv (r := rB false) (o_pick_f (b := false) rfl rfl rfl) ?_
   refine wa rfl ?_
   refine wl_nil ?_
   exact wk_then (wk_some (false, ()) h53 (Sub.c rfl Sub.nil) (sC (sS sN)))
 ·rintro ⟨x29, ⟨⟩⟩ h54
  refine wc_as (l' := [(6, rB x29)]) (H' := [.blk b_q [rv (.map none), rv (.map none)] 59]) rfl rfl ?_
  replace h54 : lNoneZero_j1 x29 = some r := h54
  unfold lNoneZero_j1 at h54
  refine wc_ret ?_
  obtain rfl := some_e h54
  exact wk_ret (r_1 Tryz.results32 (rv_t rfl)) (sC sN) ⟨rfl, rfl⟩

theorem lNil_w (F : Nat) (l : (List TApiChange)) (key : Str) (r : Bool) (h : lNil F l key = some r) : Fn Tryz.prog GE 8 [rSl 4 (List.map eTApiChange l), rS key] [] (fun R H => R = rB r ∧ H = []) := by
 refine enter (n := 27) Tryz.func8 rfl Tryz.ntmps8 rfl (fun w Z => ?_)
 refine wc_as (l' := [(0, rSl 4 (List.map eTApiChange l)), (1, rS key)]) (H' := []) rfl rfl ?_
 unfold lNil at h
 refine wc_sr ?_
 refine wv (r := rB false) (o_assign rfl) ?_
 refine wl_x ?_
 refine wc_seq ?_
 obtain ⟨g1, h2⟩ := chk_e h
 refine wc_seq_mid [(0, rSl 4 (List.map eTApiChange l)), (1, rS key), (12, rB ((!(ov (lSmall F l))) || (decide (300 < (key.length : Int)))))] [] ?_ ?_
 ·refine wc_region ?_
  refine wm rfl ?_
  refine wc0 Tryz.call22 (lSmall_w F l (ov (lSmall F l)) (ov_e g1)) rfl ?_
  refine wv (o_not rfl) ?_
  refine wm rfl ?_
  refine bsplit (!(ov (lSmall F l))) (fun c3 => ?_) (fun c3 => ?_)
  ·refine wf c3 ?_
   refine wf c3 ?_
   refine wf c3 ?_
   refine wv (r := rB true) (o_pick_t (b := !(ov (lSmall F l))) rfl c3 rfl) ?_
   refine wl_nil ?_
   exact wtc c3
  ·refine wo c3 ?_
   refine wm rfl ?_
   refine wo c3 ?_
   refine wv (o_len_s Tryz.underlying9 rfl) ?_
   refine wo c3 ?_
   refine wv (o_gt rfl rfl) ?_
   refine wpf rfl c3 rfl ?_
   refine wl_nil ?_
   exact wtc c3
 refine wc_cond (b := ((!(ov (lSmall F l))) || (decide (300 < (key.length : Int))))) rfl (fun c4 => ?_) (fun c4 => ?_)
 ·have h5 := cnd_t c4 h2
  refine wc_sr ?_
  obtain ⟨r6, e8, h7⟩ := obn_e h5
  refine wc0 Tryz.call10 (lAwake_w F r6 e8) rfl ?_
  refine wa rfl ?_
  refine wl_x ?_
  refine wc_ret ?_
  refine wk_then_ret ?_
  obtain rfl := some_e h7
  exact wk_ret (r_1 Tryz.results8 (rv_t rfl)) sN ⟨rfl, rfl⟩
 ·have h9 := cnd_f c4 h2
  refine wc_skip ?_
  refine wk_x ?_
  refine wc_seq_cut (S := (Bool) × (Unit)) (fun σ => lNil_j1 σ.1 = some r) (fun σ => [(4, rB σ.1)]) (fun σ => []) ?_ ?_
  ·refine wc_region ?_
   refine wm rfl ?_
   refine wm rfl ?_
   obtain ⟨r29, e31, h30⟩ := obn_e h9
   refine wc0 Tryz.call32 (lNoneNil_w l key r29 e31) rfl ?_
   refine wm rfl ?_
   refine bsplit (r29) (fun c32 => ?_) (fun c32 => ?_)
   ·have h33 := cnd_t c32 h30
    refine wo c32 ?_
    refine wv (r := rAgg [rv (.map none), rv (.map none)]) (o_build59_ ) ?_
    refine wo c32 ?_
    refine w_box_agg rfl rfl (fun b34 => ?_)
    refine wo c32 ?_
    refine wm rfl ?_
    refine wo c32 ?_
    refine wm rfl ?_
    refine wo c32 ?_
    obtain ⟨r35, e37, h36⟩ := obn_e h33
    refine wcl (Hr := []) Tryz.call32 (lNoneZero_w b34 l key r35 e37) rfl (List.Perm.refl _) rfl ?_
    rintro _ _ ⟨rfl, rfl⟩
    refine wpt rfl c32 rfl ?_
    refine wm rfl ?_
    refine bsplit (r35) (fun c38 => ?_) (fun c38 => ?_)
    ·have h39 := cnd_t c38 h36
     refine wo c38 ?_
     obtain ⟨r40, e42, h41⟩ := obn_e h39
     refine wc0 Tryz.call10 (lAwake_w F r40 e42) rfl ?_
     refine wpt rfl c38 rfl ?_
     refine wa rfl ?_
     refine wl_nil ?_
     exact wk_then (wk_some (r40, ()) h41 (Sub.c rfl Sub.nil) (sS sN))
    ·have h43 := cnd_f c38 h36
     refine wf c38 ?_
     refine wv (r := rB false) (o_pick_f (b := r35) rfl c38 rfl) ?_
     refine wa rfl ?_
     refine wl_nil ?_
     exact wk_then (wk_some (false, ()) h43 (Sub.c rfl Sub.nil) (sS sN))
   ·have h44 := cnd_f c32 h30
    refine wf c32 ?_
    refine wf c32 ?_
    refine wf c32 ?_
    refine wf c32 ?_
    refine wf c32 ?_
    refine wv (r := rB false) (o_pick_f (b := r29) rfl c32 rfl) ?_
    refine wm rfl ?_
    refine wl_off (b := false) rfl rfl rfl rfl ?_
    refine wv (r := rB false) (o_pick_f (b := false) rfl rfl rfl) ?_
    refine wa rfl ?_
    refine wl_nil ?_
    exact wk_then (wk_some (false, ()) h44 (Sub.c rfl Sub.nil) sN)
  ·rintro ⟨x28, ⟨⟩⟩ h45
   refine wc_as (l' := [(4, rB x28)]) (H' := []) rfl rfl ?_
   replace h45 : lNil_j1 x28 = some r := h45
   unfold lNil_j1 at h45
   refine wc_ret ?_
   obtain rfl := some_e h45
   exact wk_ret (r_1 Tryz.results8 (rv_t rfl)) sN ⟨rfl, rfl⟩

end Go.Proofs.YtjfnokmpfekniaaGreatDoor.Q

/-
 What is known of the values that the law is handed. Plain definitions.
-/
namespace Go.Proofs.YtjfnokmpfekniaaGreatDoor.lawKvNil
open Go
set_option linter.unusedVariables false
def ok78 (y : TApiCell) : Bool := (inK .i64) y.fKind && (inK .i64) y.fInt && okS y.fStr && (inK .i64) y.fN
def ok50 (y : TApiChange) : Bool := okS y.fKey && (fun _ => true) y.fDelete && (fun ys : (List TApiCell) => ys.all ok78 && decide (ys.length ≤ 9223372036854775807)) y.fValue && (inK .i64) y.fIfVersion
def Law : Prop := ∀ (y0 : (List TApiChange)) (y1 : Str) (o0 : (fun ys : (List TApiChange) => ys.all ok50 && decide (ys.length ≤ 9223372036854775807)) y0 = true) (o1 : okS y1 = true), ∃ F, lNil F y0 y1 = some true
end Go.Proofs.YtjfnokmpfekniaaGreatDoor.lawKvNil

/-
 What small functions of the package value and of its reference compute. Plain laws.
-/
namespace Go.Proofs.YtjfnokmpfekniaaGreatDoor
open Go
set_option linter.unusedVariables false
set_option linter.unusedSimpArgs false
def okc (c : UInt8) : Bool := decide (32 ≤ c.toNat) && decide (c.toNat ≤ 126)
theorem bat_get {s : Str} {x : Int} {c : UInt8} (h : s[x.toNat]? = some c) : bat s x = (c.toNat : Int) := by simp [bat, h]
theorem take_all_succ {α : Type} {p : α → Bool} {s : List α} {k : Nat} {c : α} (h : s[k]? = some c) : (s.take (k + 1)).all p = ((s.take k).all p && p c) := by
 rw [List.take_add_one, h]; simp
theorem all_false_of {α : Type} {p : α → Bool} {s : List α} {k : Nat} {c : α} (h : s[k]? = some c) (hp : p c = false) : s.all p = false := by
 rw [List.all_eq_false]; exact ⟨c, List.mem_of_getElem? h, by simp [hp]⟩
theorem vText_eq {F : Nat} {s : Str} (hF : s.length < F) (hs : s.length ≤ 9223372036854775807) : vText F s = some (s.all okc) := by
 obtain ⟨o, h1, h2⟩ := lop_ind (body := fun σ => vText_b1 s σ) (fun x => 0 ≤ x ∧ x ≤ (s.length : Int) ∧ (s.take x.toNat).all okc = true) (fun x => s.length - x.toNat)
  (fun o => oute (fun _ => vText_k1) o = some (s.all okc)) (fun x ⟨h0, hl, ha⟩ => by
   unfold vText_b1
   by_cases hx : x < (s.length : Int)
   ·obtain ⟨c, hc⟩ : ∃ c, s[x.toNat]? = some c := ⟨s[x.toNat]'(by omega), List.getElem?_eq_getElem (by omega)⟩
    rw [cnd_tt (by simpa using hx), chk_inR h0 hx, bat_get hc]
    cases ho : okc c with
    | false =>
     refine .inr ⟨.ret false, ?_, ?_⟩
     ·rw [cnd_tt]
      simp only [okc, Bool.and_eq_false_iff, decide_eq_false_iff_not] at ho
      simp only [Bool.or_eq_true, decide_eq_true_eq]; omega
     ·simp [oute, all_false_of hc ho]
    | true =>
     refine .inl ⟨x + 1, ?_, ⟨by omega, by omega, ?_⟩, by omega⟩
     ·rw [cnd_ff, chk_i64 (by omega) (by omega)]
      simp only [okc, Bool.and_eq_true, decide_eq_true_eq] at ho
      simp only [Bool.or_eq_false_iff, decide_eq_false_iff_not]; omega
     ·rw [show (x + 1).toNat = x.toNat + 1 from by omega, take_all_succ hc, ha, ho]; rfl
   ·refine .inr ⟨.go (), by rw [cnd_ff (by simpa using hx)], ?_⟩
    rw [show x.toNat = s.length from by omega, List.take_length] at ha
    simp [oute, vText_k1, ha]) F 0 ⟨by omega, by omega, by simp⟩ (by simpa using hF)
 unfold vText
 rw [obn_s h1, h2]
def pl (c : TApiCell) : Bool :=
 bif decide (c.fKind = 1) then (decide (c.fInt = 0) && (decide (c.fStr = []) && decide (c.fN = 0))) else
 bif decide (c.fKind = 2) then ((decide (c.fInt = 0) || decide (c.fInt = 1)) && (decide (c.fStr = []) && decide (c.fN = 0))) else
 bif decide (c.fKind = 3) then (decide (c.fStr = []) && decide (c.fN = 0)) else
 bif decide (c.fKind = 4) then (decide (c.fInt = 0) && (decide (c.fN = 0) && c.fStr.all okc)) else
 bif decide (c.fKind = 5) then (decide (c.fInt = 0) && (decide (c.fStr = []) && decide (0 ≤ c.fN))) else
 bif decide (c.fKind = 6) then (decide (c.fInt = 0) && (decide (c.fStr = []) && decide (0 ≤ c.fN))) else false
theorem cnd_some {α : Type} {p : Bool} {x y : Option α} {a b : α} (h : x = some a) (h' : y = some b) : cnd p x y = some (bif p then a else b) := by cases p <;> simp [cnd, h, h']
theorem vPlain_eq {F : Nat} {c : TApiCell} (hF : c.fStr.length < F) (hs : c.fStr.length ≤ 9223372036854775807) : vPlain F c = some (pl c) := by
 unfold vPlain pl
 rw [vText_eq hF hs]
 refine cnd_some rfl (cnd_some ?_ (cnd_some rfl (cnd_some ?_ (cnd_some rfl (cnd_some rfl rfl)))))
 ·cases h : decide (c.fInt = 0) <;> simp
 ·simp [imp, chk, ov]
def clr : List TValueOpen → List TValueOpen
 | [] => []
 | e :: S => bif decide (1 < e.fLeft) then ⟨e.fPairs, e.fLeft - 1, e.fPairs, e.fLast, e.fStarted⟩ :: S else clr S
theorem at_last {α : Type} [Inhabited α] (xs : List α) (e : α) : at' (xs ++ [e]) (xs.length : Int) = e := by simp [at']
theorem set_last {α : Type} (xs : List α) (e e' : α) : List.set (xs ++ [e]) (Int.toNat (xs.length : Int)) e' = xs ++ [e'] := by simp
theorem len_last {α : Type} (xs : List α) (e : α) : ((xs ++ [e]).length : Int) - 1 = (xs.length : Int) := by simp
theorem take_last {α : Type} (xs : List α) (e : α) : List.take (Int.toNat (xs.length : Int)) (xs ++ [e]) = xs := by simp
theorem vClosed_lop : ∀ (S : List TValueOpen) (F : Nat), S.length < F → (∀ e ∈ S, 1 ≤ e.fLeft ∧ e.fLeft ≤ 9223372036854775807) → S.length ≤ 4611686018427387904 →
  ∃ o, lop (fun σ => vClosed_b1 σ) F S.reverse = some o ∧ oute (fun ν => vClosed_k1 ν) o = some (clr S).reverse
 | [], F + 1, _, _, _ => ⟨.go [], by simp [lop, vClosed_b1, cnd], by simp [oute, vClosed_k1, clr]⟩
 | e :: S, F + 1, hF, hb, hl => by
  obtain ⟨h1, h2⟩ := hb e (by simp)
  simp only [List.length_cons] at hF hl
  have hx : S.reverse.length = S.length := by simp
  generalize hxs : S.reverse = xs at hx
  have hr : (e :: S).reverse = xs ++ [e] := by simp [hxs]
  rw [hr]
  have hb1 : vClosed_b1 (xs ++ [e]) = bif decide (1 < e.fLeft) then some (.out (.ret (xs ++ [⟨e.fPairs, e.fLeft - 1, e.fPairs, e.fLast, e.fStarted⟩]))) else some (.next xs) := by
   unfold vClosed_b1
   rw [cnd_tt (by simp)]
   simp only [len_last, at_last, set_last, bnd]
   rw [chk_i64 (by omega) (by omega), chk_inR (by omega) (by simp; omega), chk_i64 (by omega) (by omega)]
   cases hd : decide (1 < e.fLeft) with
   | true =>
    rw [cnd_tt (by simp at hd ⊢; omega)]; rfl
   | false =>
    rw [cnd_ff (by simp at hd ⊢; omega), chk_i64 (by omega) (by omega), chk_inC (by omega) (by simp; omega), take_last]; rfl
  rw [lop, hb1]
  cases hd : decide (1 < e.fLeft) with
  | true => exact ⟨_, rfl, by simp [oute, vClosed_k1, clr, hd, hxs]⟩
  | false =>
   obtain ⟨o, ho1, ho2⟩ := vClosed_lop S F (by omega) (fun e he => hb e (by simp [he])) (by omega)
   rw [hxs] at ho1
   exact ⟨o, ho1, by rw [ho2]; simp [clr, hd]⟩
theorem vClosed_eq {S : List TValueOpen} {F : Nat} (hF : S.length < F) (hb : ∀ e ∈ S, 1 ≤ e.fLeft ∧ e.fLeft ≤ 9223372036854775807) (hl : S.length ≤ 4611686018427387904) : vClosed F S.reverse = some (clr S).reverse := by
 obtain ⟨o, h1, h2⟩ := vClosed_lop S F hF hb hl
 unfold vClosed
 rw [obn_s h1, h2]
end Go.Proofs.YtjfnokmpfekniaaGreatDoor

/-
 value.look, one cell at a time. Plain laws.
-/
namespace Go.Proofs.YtjfnokmpfekniaaGreatDoor
open Go
set_option linter.unusedVariables false
set_option linter.unusedSimpArgs false
def qlen (s : Str) : Int := s.length + 2 + s.count 34 + s.count 92
theorem vQuoted_eq {s : Str} (hs : s.length ≤ 1152921504606846976) : vQuoted s = some (qlen s) := by
 have h1 : s.count 34 ≤ s.length := List.count_le_length
 have h2 : s.count 92 ≤ s.length := List.count_le_length
 unfold vQuoted Lib.countByte
 rw [chk_i64 (by omega) (by omega), chk_i64 (by omega) (by omega), chk_i64 (by omega) (by omega)]
 rfl
def szc (c : TApiCell) : Int :=
 bif decide (c.fKind = 1) then 4 else bif decide (c.fKind = 2) then IntKind.wrap .i64 (5 - c.fInt) else bif decide (c.fKind = 3) then ((Lib.itoa c.fInt).length : Int) else
 bif decide (c.fKind = 4) then qlen c.fStr else IntKind.wrap .i64 (2 + max 0 (IntKind.wrap .i64 (c.fN - 1)))
theorem vSize_eq {c : TApiCell} (hs : c.fStr.length ≤ 1152921504606846976) (hi : inK .i64 c.fInt = true) : vSize c = some (szc c) := by
 unfold vSize szc
 rw [vQuoted_eq hs]
 refine cnd_some rfl (cnd_some rfl (cnd_some ?_ (cnd_some rfl rfl)))
 rw [chk_t hi]
def shc (d : Nat) (sh : TValueShape) (c : TApiCell) : TValueShape :=
 ⟨max sh.fDepth ((d : Int) + 1), IntKind.wrap .i64 (sh.fBytes + szc c), sh.fOutside || (decide (c.fKind = 3) && !(decide ((-1000000000000) ≤ c.fInt) && decide (c.fInt ≤ 1000000000000))), sh.fLong || decide (200 < (c.fStr.length : Int))⟩
def shk (sh : TValueShape) (c : TApiCell) : TValueShape := ⟨sh.fDepth, IntKind.wrap .i64 (sh.fBytes + (qlen c.fStr + 1)), sh.fOutside, sh.fLong || decide (200 < (c.fStr.length : Int))⟩
abbrev LkS := List TValueOpen × Int × TValueShape
abbrev LkO := Out (Int × TValueShape × Bool) TValueShape
def lkc (n : Int) (S : List TValueOpen) (i : Int) (sh : TValueShape) (c : TApiCell) : Stp LkS LkO :=
 bif !pl c then .out (.ret (0, sh, false)) else
 match S with
 | e :: S' =>
  bif e.fKey then
   bif !decide (c.fKind = 4) || (e.fStarted && (sLess c.fStr e.fLast || decide (c.fStr = e.fLast))) then .out (.ret (0, sh, false))
   else .next ((⟨e.fPairs, e.fLeft, false, c.fStr, true⟩ :: S').reverse, i + 1, shk sh c)
  else bif decide (0 < c.fN) then
   bif decide (n < c.fN) then .out (.ret (0, shc S.length sh c, false))
   else .next ((⟨decide (c.fKind = 6), c.fN, decide (c.fKind = 6), [], false⟩ :: S).reverse, i + 1, shc S.length sh c)
  else bif decide (clr S = []) then .out (.ret (i + 1, shc S.length sh c, true)) else .next ((clr S).reverse, i + 1, shc S.length sh c)
 | [] =>
  bif decide (0 < c.fN) then
   bif decide (n < c.fN) then .out (.ret (0, shc 0 sh c, false))
   else .next ([⟨decide (c.fKind = 6), c.fN, decide (c.fKind = 6), [], false⟩], i + 1, shc 0 sh c)
  else .out (.ret (i + 1, shc 0 sh c, true))
theorem clr_nil_length {S : List TValueOpen} : decide (((clr S).reverse.length : Int) = 0) = decide (clr S = []) := by
 rw [Bool.eq_iff_iff]; simp
theorem inA48 {α : Type} {xs : List α} {e x : α} {M : Nat} (h : xs.length + 1 ≤ M) (hM2 : (M + 2) * 48 ≤ 140737488355328) : inA 48 ((xs ++ [e]).length + ([x] : List α).length) = true := by
 refine decide_eq_true (Nat.le_trans (Nat.mul_le_mul_right 48 ?_) hM2)
 rw [List.length_append, List.length_singleton, List.length_singleton]; omega
set_option maxHeartbeats 600000 in
theorem vLook_b1_eq {F : Nat} {v : List TApiCell} {S : List TValueOpen} {i : Int} {sh : TValueShape} {c : TApiCell} (h0 : 0 ≤ i) (hc : v[i.toNat]? = some c) {M : Nat} (hM : M ≤ 1152921504606846976) (hM2 : (M + 2) * 48 ≤ 140737488355328) (hv : v.length ≤ M) (hS : S.length ≤ M) (hF : M < F)
  (hs : c.fStr.length ≤ M) (hi : inK .i64 c.fInt = true) (hb : ∀ e ∈ S, 1 ≤ e.fLeft ∧ e.fLeft ≤ 9223372036854775807) : vLook_b1 F v S.reverse i sh = some (lkc v.length S i sh c) := by
 have hil : i.toNat < v.length := (List.getElem?_eq_some_iff.1 hc).1
 have hat : at' v i = c := by simp [at', hc]
 unfold vLook_b1 lkc
 rw [cnd_tt (by simp; omega), chk_inR h0 (by omega), hat, vPlain_eq (by omega) (by omega), obn_s rfl]
 cases hp : pl c with
 | false => rw [cnd_tt (by simp)]; rfl
 | true =>
  rw [cnd_ff (by simp)]
  cases S with
  | nil =>
   rw [chk_t (by simp [imp]), chk_t (by simp [imp]), cnd_ff (by simp), chk_i64 (by simp) (by simp), vSize_eq (by omega) hi, obn_s rfl, chk_t (by simp [imp, nValid])]
   simp only [nValid, ov, Option.getD_some, Bool.not_true, cond_false]
   cases hn : decide (0 < c.fN) with
   | true =>
    rw [cnd_tt rfl]
    cases hm : decide ((v.length : Int) < c.fN) with
    | true => rw [cnd_tt rfl]; simp [shc]
    | false => rw [cnd_ff rfl, chk_t (by simp [inA])]; unfold vLook_j2; rw [chk_i64 (by omega) (by omega)]; simp [shc]
   | false =>
    rw [cnd_ff rfl, obn_s (vClosed_eq (S := []) (by simp; omega) (by simp) (by simp)), cnd_tt (by simp [clr]), chk_i64 (by omega) (by omega)]; simp [shc]
  | cons e S' =>
   have hx : S'.reverse.length = S'.length := by simp
   generalize hxs : S'.reverse = xs at hx
   have hr : (e :: S').reverse = xs ++ [e] := by simp [hxs]
   simp only [List.length_cons] at hS
   have hlen : ((xs ++ [e]).length : Int) = (xs.length : Int) + 1 := by simp
   rw [hr, chk_t (by simp only [imp, len_last]; rw [inK_i64' (by omega) (by omega)]; simp), chk_t (by simp only [imp, len_last]; rw [inR' (by omega) (by omega)]; simp)]
   rw [len_last, at_last]
   cases hk : e.fKey with
   | true =>
    rw [cnd_tt (by simp), chk_i64 (by omega) (by omega), chk_inR (by omega) (by omega)]
    simp only [hk, Bool.not_true, cond_false, cond_true]
    cases ht : !decide (c.fKind = 4) || (e.fStarted && (sLess c.fStr e.fLast || decide (c.fStr = e.fLast))) with
    | true => rw [cnd_tt rfl]; rfl
    | false =>
     rw [cnd_ff rfl, set_last, bnd, at_last, set_last, bnd, at_last, set_last, bnd, vQuoted_eq (by omega), obn_s rfl, chk_i64 (by unfold qlen; omega) (by unfold qlen; have := @List.count_le_length UInt8 _ 34 c.fStr; have := @List.count_le_length UInt8 _ 92 c.fStr; omega)]
     unfold vLook_j2
     rw [chk_i64 (by omega) (by omega)]
     simp [shk, hxs]
   | false =>
    rw [cnd_ff (by simp), hlen, chk_i64 (by omega) (by omega), vSize_eq (by omega) hi, obn_s rfl, chk_t (by simp [imp, nValid])]
    simp only [hk, nValid, ov, Option.getD_some, Bool.not_true, cond_false, cond_true]
    cases hn : decide (0 < c.fN) with
    | true =>
     rw [cnd_tt rfl]
     cases hm : decide ((v.length : Int) < c.fN) with
     | true => rw [cnd_tt rfl]; simp [shc, hx]
     | false => rw [cnd_ff rfl, chk_t (inA48 (by omega) hM2)]; unfold vLook_j2; rw [chk_i64 (by omega) (by omega)]; simp [shc, hx, hxs]
    | false =>
     have hcl := vClosed_eq (S := e :: S') (F := F) (by simp; omega) hb (by simp; omega)
     rw [hr] at hcl
     rw [cnd_ff rfl, hcl, obn_s rfl, clr_nil_length]
     cases hq : decide (clr (e :: S') = []) with
     | true => rw [cnd_tt rfl, chk_i64 (by omega) (by omega)]; simp [shc, hx]
     | false => rw [cnd_ff rfl]; unfold vLook_j2; rw [chk_i64 (by omega) (by omega)]; simp [shc, hx]
end Go.Proofs.YtjfnokmpfekniaaGreatDoor

/-
 Values as forests; value.look on the cells of a forest. Plain laws.
-/
namespace Go.Proofs.YtjfnokmpfekniaaGreatDoor
open Go
set_option linter.unusedVariables false
set_option linter.unusedSimpArgs false
section
variable {S O : Type} {body : S → Option (Stp S O)} {s t u : S} {o : O}
def Reach (body : S → Option (Stp S O)) (s t : S) : Prop := ∃ k, ∀ n, lop body (n + k) s = lop body n t
def Fin (body : S → Option (Stp S O)) (s : S) (o : O) : Prop := ∃ k, ∀ n, lop body (n + k) s = some o
theorem Reach.refl (s : S) : Reach body s s := ⟨0, fun _ => rfl⟩
theorem Reach.trans (h : Reach body s t) (h' : Reach body t u) : Reach body s u := by
 obtain ⟨k, hk⟩ := h
 obtain ⟨j, hj⟩ := h'
 exact ⟨j + k, fun n => by rw [← Nat.add_assoc, hk, hj]⟩
theorem Reach.step (h : body s = some (.next t)) : Reach body s t := ⟨1, fun n => by rw [lop, h]⟩
theorem Fin.step (h : body s = some (.out o)) : Fin body s o := ⟨1, fun n => by rw [lop, h]⟩
theorem Reach.fin (h : Reach body s t) (h' : Fin body t o) : Fin body s o := by
 obtain ⟨k, hk⟩ := h
 obtain ⟨j, hj⟩ := h'
 exact ⟨j + k, fun n => by rw [← Nat.add_assoc, hk, hj]⟩
end
inductive Fo where
 | nil
 | cell (k : Option Str) (c : TApiCell) (r : Fo)
 | node (k : Option Str) (c : TApiCell) (kids r : Fo)
def keyC : Option Str → List TApiCell
 | none => []
 | some s => [⟨4, 0, s, 0⟩]
def Fo.flat : Fo → List TApiCell
 | .nil => []
 | .cell k c r => keyC k ++ c :: r.flat
 | .node k c kids r => keyC k ++ c :: (kids.flat ++ r.flat)
def Fo.cnt : Fo → Nat
 | .nil => 0
 | .cell _ _ r => r.cnt + 1
 | .node _ _ _ r => r.cnt + 1
def keyOk (m : Bool) (last : Option Str) : Option Str → Bool
 | none => !m
 | some s => m && s.all okc && (match last with
  | none => true
  | some p => !(sLess s p || decide (s = p)))
def Fo.wf : Bool → Option Str → Fo → Bool
 | _, _, .nil => true
 | m, last, .cell k c r => keyOk m last k && pl c && !decide (0 < c.fN) && r.wf m k
 | m, last, .node k c kids r => keyOk m last k && pl c && decide (0 < c.fN) && decide (c.fN = kids.cnt) && kids.wf (decide (c.fKind = 6)) none && r.wf m k
def shK (k : Option Str) (sh : TValueShape) : TValueShape := match k with
 | none => sh
 | some s => shk sh ⟨4, 0, s, 0⟩
def Fo.sh (d : Nat) : TValueShape → Fo → TValueShape
 | s, .nil => s
 | s, .cell k c r => r.sh d (shc d (shK k s) c)
 | s, .node k c kids r => r.sh d (kids.sh (d + 1) (shc d (shK k s) c))
def Done (body : LkS → Option (Stp LkS LkO)) (s : LkS) (S : List TValueOpen) (i : Int) (sh : TValueShape) : Prop :=
 if clr S = [] then Fin body s (.ret (i, sh, true)) else Reach body s ((clr S).reverse, i, sh)
theorem Done.of {body : LkS → Option (Stp LkS LkO)} {s t : LkS} {S : List TValueOpen} {i : Int} {sh : TValueShape} (h : Reach body s t) (h' : Done body t S i sh) : Done body s S i sh := by
 unfold Done at *
 split
 ·rename_i e; rw [if_pos e] at h'; exact h.fin h'
 ·rename_i e; rw [if_neg e] at h'; exact h.trans h'
end Go.Proofs.YtjfnokmpfekniaaGreatDoor

/-
 value.look on the cells of a forest: it goes through them. Plain laws.
-/
namespace Go.Proofs.YtjfnokmpfekniaaGreatDoor
open Go
set_option linter.unusedVariables false
set_option linter.unusedSimpArgs false
structure LkA (F M : Nat) (v : List TApiCell) : Prop where
 hM : M ≤ 1152921504606846976
 hM2 : (M + 2) * 48 ≤ 140737488355328
 hv : v.length ≤ M
 hF : M < F
 hc : ∀ c ∈ v, c.fStr.length ≤ M ∧ inK .i64 c.fInt = true ∧ c.fN ≤ 9223372036854775807
abbrev lkB (F : Nat) (v : List TApiCell) : LkS → Option (Stp LkS LkO) := fun σ => vLook_b1 F v σ.1 σ.2.1 σ.2.2
def lefts (S : List TValueOpen) : Prop := ∀ e ∈ S, 1 ≤ e.fLeft ∧ e.fLeft ≤ 9223372036854775807
section
variable {F M : Nat} {v : List TApiCell} {S : List TValueOpen} {i : Int} {sh : TValueShape} {c : TApiCell} {r : List TApiCell} {e : TValueOpen}
theorem drop_get (h0 : 0 ≤ i) (h : v.drop i.toNat = c :: r) : v[i.toNat]? = some c ∧ v.drop (i + 1).toNat = r ∧ i < v.length := by
 have h1 : (v.drop i.toNat)[0]? = some c := by rw [h]; rfl
 have h2 : v[i.toNat]? = some c := by simpa using h1
 have h3 := (List.getElem?_eq_some_iff.1 h2).1
 refine ⟨h2, ?_, by omega⟩
 rw [show (i + 1).toNat = i.toNat + 1 from by omega, ← List.drop_drop, h]; rfl
theorem round (hA : LkA F M v) (h0 : 0 ≤ i) (h : v.drop i.toNat = c :: r) (hS : (S.length : Int) ≤ i) (hb : lefts S) : lkB F v (S.reverse, i, sh) = some (lkc v.length S i sh c) := by
 obtain ⟨h1, _, h3⟩ := drop_get h0 h
 obtain ⟨a, b, _⟩ := hA.hc c (List.mem_of_getElem? h1)
 have := hA.hv
 exact vLook_b1_eq h0 h1 hA.hM hA.hM2 hA.hv (by omega) hA.hF a b hb
end
end Go.Proofs.YtjfnokmpfekniaaGreatDoor

/-
 value.look always ends; what it says of a value. Plain laws.
-/
namespace Go.Proofs.YtjfnokmpfekniaaGreatDoor
open Go
set_option linter.unusedVariables false
set_option linter.unusedSimpArgs false
def Fo.one : Fo → Bool
 | .cell none _ .nil => true
 | .node none _ _ .nil => true
 | _ => false
end Go.Proofs.YtjfnokmpfekniaaGreatDoor

/-
 Reading values of cells: a plain reader; value.look says what it says. Plain laws.
-/
namespace Go.Proofs.YtjfnokmpfekniaaGreatDoor
open Go
set_option linter.unusedVariables false
set_option linter.unusedSimpArgs false
def prsK (m : Bool) (last : Option Str) (xs : List TApiCell) : Option (Option Str × List TApiCell) :=
 bif m then match xs with
  | [] => none
  | c :: r => bif pl c && decide (c.fKind = 4) && keyOk true last (some c.fStr) then some (some c.fStr, r) else none
 else some (none, xs)
def prs : Nat → Bool → Option Str → Nat → List TApiCell → Option (Fo × List TApiCell)
 | 0, _, _, _, _ => none
 | _ + 1, _, _, 0, xs => some (.nil, xs)
 | F + 1, m, last, k + 1, xs =>
  match prsK m last xs with
  | none => none
  | some (_, []) => none
  | some (key, c :: xs') =>
   bif !pl c then none else
   bif decide (0 < c.fN) then
    match prs F (decide (c.fKind = 6)) none c.fN.toNat xs' with
    | none => none
    | some (kids, ys) => match prs F m key k ys with
     | none => none
     | some (r, zs) => some (.node key c kids r, zs)
   else match prs F m key k xs' with
    | none => none
    | some (r, zs) => some (.cell key c r, zs)
section
variable {F M : Nat} {v : List TApiCell}
def prs1 (xs : List TApiCell) : Option (Fo × List TApiCell) := prs (xs.length + 1) false none 1 xs
end
end Go.Proofs.YtjfnokmpfekniaaGreatDoor

/-
 Forests: depth, bytes, text; what value.look tells of them. Plain laws.
-/
namespace Go.Proofs.YtjfnokmpfekniaaGreatDoor
open Go
set_option linter.unusedVariables false
set_option linter.unusedSimpArgs false
def Fo.put (k : Option Str) : Fo → Fo → Fo
 | .cell _ c _, r => .cell k c r
 | .node _ c kids _, r => .node k c kids r
 | .nil, _ => .nil
end Go.Proofs.YtjfnokmpfekniaaGreatDoor

/-
 The reference reads values as the plain reader does. Plain laws.
-/
namespace Go.Proofs.YtjfnokmpfekniaaGreatDoor
open Go
set_option linter.unusedVariables false
set_option linter.unusedSimpArgs false
structure RfA (F M : Nat) (v : List TApiCell) : Prop where
 hM : M ≤ 1152921504606846976
 hv : v.length ≤ M
 hF : M < F
 hc : ∀ c ∈ v, c.fStr.length ≤ M
section
variable {M : Nat} {v : List TApiCell}
end
end Go.Proofs.YtjfnokmpfekniaaGreatDoor

/-
 The plain reader reads each forest's cells; value.Check, and the reference's levels. Plain laws.
-/
namespace Go.Proofs.YtjfnokmpfekniaaGreatDoor
open Go
set_option linter.unusedVariables false
set_option linter.unusedSimpArgs false
structure CkA (M : Nat) (v : List TApiCell) : Prop where
 hM : M ≤ 1000000000
 hv : v.length ≤ M
 hc : ∀ c ∈ v, c.fStr.length ≤ M ∧ inK .i64 c.fInt = true ∧ c.fN ≤ 9223372036854775807
theorem CkA.drop {M : Nat} {v : List TApiCell} (h : CkA M v) (k : Nat) : CkA M (v.drop k) := ⟨h.hM, by have := h.hv; rw [List.length_drop]; omega, fun c hc => h.hc c (List.mem_of_mem_drop hc)⟩
theorem CkA.take {M : Nat} {v : List TApiCell} (h : CkA M v) (k : Nat) : CkA M (v.take k) := ⟨h.hM, by have := h.hv; rw [List.length_take]; omega, fun c hc => h.hc c (List.mem_of_mem_take hc)⟩
def whole (v : List TApiCell) : Option Fo := match prs1 v with
 | some (f, []) => some f
 | _ => none
end Go.Proofs.YtjfnokmpfekniaaGreatDoor

/-
 The order of byte strings; maps as lists that ascend by their keys. Plain laws.
-/
namespace Go.Proofs.YtjfnokmpfekniaaGreatDoor
open Go
set_option linter.unusedVariables false
set_option linter.unusedSimpArgs false
theorem sl_cons (x y : UInt8) (a b : Str) : sLess (x :: a) (y :: b) = (decide (x < y) || (decide (x = y) && sLess a b)) := by
 show Op.bytesLess (x :: a) (y :: b) = _
 simp only [Op.bytesLess]
 by_cases h : x < y
 ·simp [h]
 ·by_cases e : x = y
  ·subst e; simp [h]
  ·have : y < x := by
    rcases Nat.lt_trichotomy x.toNat y.toNat with h1 | h1 | h1
    ·exact absurd (UInt8.lt_iff_toNat_lt.2 h1) h
    ·exact absurd (UInt8.toNat_inj.1 h1) e
    ·exact UInt8.lt_iff_toNat_lt.2 h1
   simp [h, e, this]
theorem sl_trans : ∀ {a b c : Str}, sLess a b = true → sLess b c = true → sLess a c = true
 | [], [], _, h, _ => by cases h
 | [], _ :: _, [], _, h => by cases h
 | [], _ :: _, _ :: _, _, _ => rfl
 | _ :: _, [], _, h, _ => by cases h
 | _ :: _, _ :: _, [], _, h => by cases h
 | x :: a, y :: b, z :: c, h, h' => by
  rw [sl_cons] at h h' ⊢
  simp only [Bool.or_eq_true, decide_eq_true_eq, Bool.and_eq_true] at h h' ⊢
  have t : ∀ {u v : UInt8}, u < v ↔ u.toNat < v.toNat := UInt8.lt_iff_toNat_lt
  rcases h with h | ⟨rfl, h⟩
  ·rcases h' with h' | ⟨rfl, h'⟩
   ·exact .inl (t.2 (Nat.lt_trans (t.1 h) (t.1 h')))
   ·exact .inl h
  ·rcases h' with h' | ⟨rfl, h'⟩
   ·exact .inl h'
   ·exact .inr ⟨rfl, sl_trans h h'⟩
theorem sl_total : ∀ (a b : Str), sLess a b = true ∨ a = b ∨ sLess b a = true
 | [], [] => .inr (.inl rfl)
 | [], _ :: _ => .inl rfl
 | _ :: _, [] => .inr (.inr rfl)
 | x :: a, y :: b => by
  rw [sl_cons, sl_cons]
  simp only [Bool.or_eq_true, decide_eq_true_eq, Bool.and_eq_true]
  rcases Nat.lt_trichotomy x.toNat y.toNat with h1 | h1 | h1
  ·exact .inl (.inl (UInt8.lt_iff_toNat_lt.2 h1))
  ·have e := UInt8.toNat_inj.1 h1
   subst e
   rcases sl_total a b with h | rfl | h
   ·exact .inl (.inr ⟨rfl, h⟩)
   ·exact .inr (.inl rfl)
   ·exact .inr (.inr (.inr ⟨rfl, h⟩))
  ·exact .inr (.inr (.inl (UInt8.lt_iff_toNat_lt.2 h1)))
section
variable {T : Type}
def Ms (xs : List (Str × T)) : Prop := xs.Pairwise fun p q => sLess p.1 q.1 = true
theorem Ms.nil : Ms ([] : List (Str × T)) := List.Pairwise.nil
theorem mem_mins {k : Str} {v : T} {q : Str × T} : ∀ {xs : List (Str × T)}, q ∈ mins k v xs → q = (k, v) ∨ q ∈ xs
 | [], h => by simp [mins] at h; exact .inl h
 | p :: r, h => by
  rw [mins] at h
  cases hs : sLess k p.1 with
  | true => rw [hs] at h; simpa using h
  | false =>
   rw [hs] at h
   rcases List.mem_cons.1 h with h | h
   ·exact .inr (by rw [h]; exact List.mem_cons_self ..)
   ·rcases mem_mins h with h | h
    ·exact .inl h
    ·exact .inr (List.mem_cons_of_mem _ h)
theorem Ms.mins {k : Str} {v : T} : ∀ {xs : List (Str × T)}, Ms xs → mget xs k = none → Ms (mins k v xs)
 | [], _, _ => List.pairwise_singleton ..
 | p :: r, h, hk => by
  obtain ⟨h1, h2⟩ := List.pairwise_cons.1 h
  rw [mget] at hk
  by_cases e : p.1 = k
  ·rw [decide_eq_true e] at hk; cases hk
  ·rw [decide_eq_false e] at hk
   rw [Proofs.YtjfnokmpfekniaaGreatDoor.mins]
   cases hs : sLess k p.1 with
   | true => exact List.pairwise_cons.2 ⟨fun q hq => by
     rcases List.mem_cons.1 hq with rfl | hq
     ·exact hs
     ·exact sl_trans hs (h1 q hq), h⟩
   | false =>
    have hp : sLess p.1 k = true := by
     rcases sl_total p.1 k with h | h | h
     ·exact h
     ·exact absurd h e
     ·rw [h] at hs; cases hs
    exact List.pairwise_cons.2 ⟨fun q hq => by
     rcases mem_mins hq with rfl | hq
     ·exact hp
     ·exact h1 q hq, Ms.mins h2 hk⟩
theorem Ms.mput {xs : List (Str × T)} (h : Ms xs) (k : Str) (v : T) : Ms (mput xs k v) := by
 unfold Proofs.YtjfnokmpfekniaaGreatDoor.mput
 unfold Ms
 rw [List.pairwise_map]
 refine h.imp fun {p q} hpq => ?_
 have e : ∀ p : Str × T, (bif decide (p.1 = k) then (k, v) else p).1 = p.1 := fun p => by
  by_cases hp : p.1 = k
  ·rw [decide_eq_true hp]; exact hp.symm
  ·rw [decide_eq_false hp]; rfl
 rw [e, e]; exact hpq
theorem Ms.mset {xs : List (Str × T)} (h : Ms xs) (k : Str) (v : T) : Ms (mset xs k v) := by
 unfold Proofs.YtjfnokmpfekniaaGreatDoor.mset mhas
 cases hk : mget xs k with
 | none => exact h.mins hk
 | some w => exact h.mput k v
theorem Ms.mdel {xs : List (Str × T)} (h : Ms xs) (k : Str) : Ms (mdel xs k) := h.sublist (List.filter_sublist ..)
end
end Go.Proofs.YtjfnokmpfekniaaGreatDoor

/-
 Rounds over a map that do the same in any order. Plain laws.
-/
namespace Go.Proofs.YtjfnokmpfekniaaGreatDoor
open Go
set_option linter.unusedVariables false
set_option linter.unusedSimpArgs false
section
variable {T : Type}
end
end Go.Proofs.YtjfnokmpfekniaaGreatDoor

/-
 What the store of the package kv computes. Plain laws.
-/
namespace Go.Proofs.YtjfnokmpfekniaaGreatDoor
open Go
set_option linter.unusedVariables false
set_option linter.unusedSimpArgs false
theorem ou_go {R V : Type} (K : V → Option R) (v : V) : oute K (.go v) = K v := rfl
theorem lop_scan {α R U : Type} [Inhabited α] (l : List α) (P : α → Prop) (B : R → Prop) (u : U) (body : Int → Option (Stp Int (Out R U)))
  (h1 : ∀ (x : Int) (c : α), 0 ≤ x → x < (l.length : Int) → c ∈ l → at' l x = c → (body x = some (.next (x + 1)) ∧ P c) ∨ ∃ q, body x = some (.out (.ret q)) ∧ B q)
  (h2 : body (l.length : Int) = some (.out (.go u))) {F : Nat} (hF : l.length < F) :
  ∃ o, lop body F 0 = some o ∧ ((∃ q, o = .ret q ∧ B q) ∨ (o = .go u ∧ ∀ c ∈ l, P c)) := by
 refine lop_ind (fun x => 0 ≤ x ∧ x ≤ (l.length : Int) ∧ ∀ c ∈ l.take x.toNat, P c) (fun x => l.length - x.toNat) _ (fun x ⟨h0, hl, ha⟩ => ?_) F 0 ⟨Int.le_refl 0, by omega, by simp⟩ (by show l.length - 0 < F; omega)
 by_cases hx : x < (l.length : Int)
 ·obtain ⟨c, hc⟩ : ∃ c, l[x.toNat]? = some c := ⟨l[x.toNat]'(by omega), List.getElem?_eq_getElem (by omega)⟩
  have hat : at' l x = c := by simp [at', hc]
  rcases h1 x c h0 hx (List.mem_of_getElem? hc) hat with ⟨hb, hp⟩ | ⟨q, hb, hq⟩
  ·refine .inl ⟨x + 1, hb, ⟨by omega, by omega, fun d hd => ?_⟩, by omega⟩
   rw [show (x + 1).toNat = x.toNat + 1 from by omega, List.take_add_one, hc] at hd
   simp only [Option.toList_some, List.mem_append, List.mem_cons, List.not_mem_nil, or_false] at hd
   rcases hd with hd | rfl
   ·exact ha d hd
   ·exact hp
  ·exact .inr ⟨.ret q, hb, .inl ⟨q, rfl, hq⟩⟩
 ·have e : x = (l.length : Int) := by omega
  subst e
  refine .inr ⟨.go u, h2, .inr ⟨rfl, fun c hc => ha c ?_⟩⟩
  rw [show ((l.length : Int)).toNat = l.length from by omega, List.take_length]; exact hc
/-! ### small changes -/
structure SmC (c : TApiChange) : Prop where
 key : c.fKey.length ≤ 300
 val : c.fValue.length ≤ 300
 cells : ∀ x ∈ c.fValue, x.fStr.length ≤ 5000
structure SmP (l : List TApiChange) : Prop where
 len : l.length ≤ 300
 all : ∀ c ∈ l, SmC c
theorem lSmall_t {F : Nat} (hF : 5000 < F) (l : List TApiChange) : ∃ b, lSmall F l = some b ∧ (b = true → SmP l) := by
 unfold lSmall
 by_cases hl : (300 : Int) < (l.length : Int)
 ·rw [cnd_tt (decide_eq_true hl)]
  exact ⟨false, rfl, fun h => by cases h⟩
 ·rw [cnd_ff (decide_eq_false hl)]
  obtain ⟨o, h1, h2⟩ := lop_scan l SmC (fun q => q = false) () (fun σ => lSmall_b1 F l σ) (fun x c h0 hx hc hat => by
   by_cases hk : (300 : Int) < (c.fKey.length : Int) ∨ (300 : Int) < (c.fValue.length : Int)
   ·refine .inr ⟨false, ?_, rfl⟩
    show lSmall_b1 F l x = _
    unfold lSmall_b1
    rw [cnd_tt (decide_eq_true hx), chk_inR h0 hx, hat, cnd_tt (by simpa using hk)]
   ·obtain ⟨o, g1, g2⟩ := lop_scan c.fValue (fun y => y.fStr.length ≤ 5000) (fun q => q = .out (.ret false)) (((c.fValue.length : Int)), decide ((c.fValue.length : Int) < (c.fValue.length : Int))) (fun σ => lSmall_b2 l x σ) (fun y d y0 yx yc yat => by
     by_cases hd : (5000 : Int) < (d.fStr.length : Int)
     ·refine .inr ⟨_, ?_, rfl⟩
      show lSmall_b2 l x y = _
      unfold lSmall_b2
      rw [hat, cnd_tt (decide_eq_true yx), chk_inR y0 yx, yat, cnd_tt (decide_eq_true hd)]
     ·refine .inl ⟨?_, by omega⟩
      show lSmall_b2 l x y = _
      unfold lSmall_b2
      rw [hat, cnd_tt (decide_eq_true yx), chk_inR y0 yx, yat, cnd_ff (decide_eq_false hd), chk_i64 (by omega) (by omega)]) (by
     show lSmall_b2 l x _ = _
     unfold lSmall_b2
     rw [hat, cnd_ff (decide_eq_false (by omega))]) (F := F) (by omega)
    have hb : lSmall_b1 F l x = obn (some o) (oute fun ν => lSmall_k2 x ν.1 ν.2) := by
     unfold lSmall_b1
     rw [cnd_tt (decide_eq_true hx), chk_inR h0 hx, g1, hat, cnd_ff (by simpa using hk)]
    rcases g2 with ⟨q, rfl, rfl⟩ | ⟨rfl, g⟩
    ·exact .inr ⟨false, hb, rfl⟩
    ·refine .inl ⟨?_, ⟨by omega, by omega, g⟩⟩
     show lSmall_b1 F l x = _
     rw [hb, obn_s rfl, ou_go]
     unfold lSmall_k2
     rw [chk_i64 (by omega) (by omega)]) (by
   show lSmall_b1 F l _ = _
   unfold lSmall_b1
   rw [cnd_ff (decide_eq_false (by omega))]) (F := F) (by omega)
  rw [obn_s h1]
  rcases h2 with ⟨q, rfl, rfl⟩ | ⟨rfl, h⟩
  ·exact ⟨false, rfl, fun h => by cases h⟩
  ·exact ⟨true, rfl, fun _ => ⟨by omega, h⟩⟩
/-! ### changes that are checked -/
structure OkC (c : TApiChange) : Prop where
 iv : -9223372036854775808 ≤ c.fIfVersion ∧ c.fIfVersion ≤ 9223372036854775807
 cells : ∀ x ∈ c.fValue, inK .i64 x.fInt = true ∧ x.fN ≤ 9223372036854775807
/-! ### one change -/
/-! ### what is kept -/
theorem mem_mset {T : Type} {xs : List (Str × T)} {k : Str} {v : T} {p : Str × T} (h : p ∈ mset xs k v) : p = (k, v) ∨ p ∈ xs := by
 unfold mset at h
 cases hh : mhas xs k with
 | false => rw [hh] at h; exact mem_mins h
 | true =>
  rw [hh] at h
  obtain ⟨q, hq, e⟩ := List.mem_map.1 h
  cases hk : decide (q.1 = k) with
  | true => rw [hk] at e; exact .inl e.symm
  | false => rw [hk] at e; exact .inr (e ▸ hq)
structure IOk (xs : List (Str × TApiItem)) : Prop where
 ms : Ms xs
 ok : ∀ p ∈ xs, 0 ≤ p.2.fVersion ∧ p.2.fVersion ≤ 1000000000000 ∧ p.2.fValue.length ≤ 300
theorem IOk.nil : IOk [] := ⟨Ms.nil, fun _ h => by cases h⟩
theorem IOk.set {xs : List (Str × TApiItem)} (h : IOk xs) {k : Str} {v : TApiItem} (hv : 0 ≤ v.fVersion ∧ v.fVersion ≤ 1000000000000 ∧ v.fValue.length ≤ 300) : IOk (mset xs k v) :=
 ⟨h.ms.mset k v, fun p hp => by
  rcases mem_mset hp with rfl | hp
  ·exact hv
  ·exact h.ok p hp⟩
/-! ### a list of changes -/
structure QOk (q : TKvStore) (n : Nat) : Prop where
 ok : IOk q.fItems
 pos : ∀ p ∈ q.fItems, 1 ≤ p.2.fVersion
 len : q.fItems.length ≤ n
end Go.Proofs.YtjfnokmpfekniaaGreatDoor

/-
 Small laws for the laws of kv.
-/
namespace Go.Proofs.YtjfnokmpfekniaaGreatDoor
open Go
set_option linter.unusedVariables false
theorem lAwake_ok : lAwake 6000 = some true := by decide +kernel
theorem o_some {α : Type} [Inhabited α] (a : α) : ov (some a) = a := rfl
end Go.Proofs.YtjfnokmpfekniaaGreatDoor

/-
 The plain law of KvNil.
-/
namespace Go.Proofs.YtjfnokmpfekniaaGreatDoor
open Go
set_option linter.unusedVariables false
theorem lNoneNil_ok (l : List TApiChange) (key : Str) : lNoneNil l key = some true := rfl
theorem lNoneZero_ok (l : List TApiChange) (key : Str) : lNoneZero l key = some true := rfl
theorem lNil_law (l : List TApiChange) (key : Str) : lNil 6000 l key = some true := by
 obtain ⟨b, hb, _⟩ := lSmall_t (F := 6000) (by decide) l
 unfold lNil
 rw [hb, lAwake_ok, lNoneNil_ok, obn_s rfl, lNoneZero_ok, obn_s rfl]
 simp only [Option.isSome_some, chk_t, o_some]
 cases (!b || decide (300 < (key.length : Int))) <;> rfl
end Go.Proofs.YtjfnokmpfekniaaGreatDoor
namespace Go.Proofs.YtjfnokmpfekniaaGreatDoor.lawKvNil
open Go
set_option linter.unusedVariables false
theorem law : Law := fun l key _ _ => ⟨6000, lNil_law l key⟩
end Go.Proofs.YtjfnokmpfekniaaGreatDoor.lawKvNil
