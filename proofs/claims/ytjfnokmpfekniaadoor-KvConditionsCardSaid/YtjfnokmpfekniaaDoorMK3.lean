/-
  Texts of the proof, put together: QI, WKa, PKb, WKb, OkKvConditions, LvA, LvB, LvC, LvD, LvE, LvF, LvG, LvH, LvI, PN, PO.
-/
import Derived.Test.YtjfnokmpfekniaaDoorMK2
import GoSem.ClaimData
/-
 Rounds over the entries of a map, in any order. Plain theorems over any program; no condition.
-/
namespace Go.Proofs.YtjfnokmpfekniaaDoor.Q
open Go Go.RowKit
set_option linter.unusedVariables false
set_option linter.unusedSimpArgs false
theorem filter_erase {q : MapEntry → Bool} : ∀ {l : List MapEntry} {j : Nat} {e : MapEntry}, (l.map (·.born)).Nodup → l[j]? = some e → l.filter (fun x => !(x.born == e.born)) = l.eraseIdx j
 | x :: l, 0, e, hn, h => by
  simp at h; subst h
  rw [List.map_cons, List.nodup_cons] at hn
  rw [List.filter_cons_of_neg (by simp), List.filter_eq_self.2 fun y hy => ?_]; rfl
  have : y.born ≠ x.born := fun e => hn.1 (by rw [← e]; exact List.mem_map.2 ⟨y, hy, rfl⟩)
  simp [this]
 | x :: l, j + 1, e, hn, h => by
  rw [List.map_cons, List.nodup_cons] at hn
  simp at h
  have hne : x.born ≠ e.born := fun e' => hn.1 (by rw [e']; exact List.mem_map.2 ⟨e, List.mem_of_getElem? h, rfl⟩)
  rw [List.filter_cons_of_pos (by simp [hne]), filter_erase (q := q) hn.2 h]; rfl
theorem Ali.erase {Z : Fz} : ∀ {f : List (List UInt8 × Rp)} {es : List MapEntry} (j : Nat), Ali Z f es → Ali Z (f.eraseIdx j) (es.eraseIdx j)
 | [], [], j, _ => by simp [Ali]
 | p :: f, e :: es, 0, ⟨_, h⟩ => h
 | p :: f, e :: es, j + 1, ⟨h, h3⟩ => ⟨h, Ali.erase j h3⟩
theorem perm_at {α : Type} : ∀ {l : List α} {j : Nat} {a : α}, l[j]? = some a → l.Perm (a :: l.eraseIdx j)
 | x :: l, 0, a, h => by simp at h; subst h; exact List.Perm.refl _
 | x :: l, j + 1, a, h => by
  simp at h
  exact ((perm_at h).cons x).trans (List.Perm.swap a x _)
theorem perm_enc {T : Type} {enc : T → Rp} {ys : List (Str × T)} {f : List (Str × Rp)} {j : Nat} {k : Str} {r : Rp} (h : f.Perm (menc enc ys)) (hj : f[j]? = some (k, r)) : ∃ (p : Str × T) (ys' : List (Str × T)), ys.Perm (p :: ys') ∧ p.1 = k ∧ enc p.2 = r ∧ (f.eraseIdx j).Perm (menc enc ys') := by
 have hm : (k, r) ∈ menc enc ys := h.subset (List.mem_of_getElem? hj)
 obtain ⟨p, hp, e⟩ := List.mem_map.1 hm
 simp only [Prod.mk.injEq] at e
 obtain ⟨a, b, rfl⟩ := List.append_of_mem hp
 refine ⟨p, a ++ b, List.perm_middle, e.1, e.2, ?_⟩
 have h1 : f.Perm ((k, r) :: f.eraseIdx j) := by
  exact perm_at hj
 have h2 : (menc enc (a ++ p :: b)).Perm ((k, r) :: menc enc (a ++ b)) := by
  have : (menc enc (a ++ p :: b)).Perm (menc enc (p :: (a ++ b))) := List.perm_middle.map _
  refine this.trans ?_
  show ((p.1, enc p.2) :: menc enc (a ++ b)).Perm _
  rw [e.1, e.2]
 exact ((h1.symm.trans h).trans h2).cons_inv
section
variable {P : Program} {n : Nat} {c : Cx} {ops : Array Oper} {Q : Exit → Act → World → Prop} {rest : List Oper} {l : Fr} {H : List Ent} {d : Nat} {ty t kt et rty : TypeId} {pos : String} {af : Array Edge} {x y u : Operand} {K : Act → World → Prop} {cx : Code}
variable {T : Type} {enc : T → Rp} {xs ys : List (Str × T)} {i b it : Nat} {m lf : List (List UInt8 × Rp)} {cur : Option (List UInt8 × Rp)} {k : Str} {r : Rp}
theorem w_range (ht : P.underlying t = some (.map kt et)) (hx : ev l x = some (rv (.map (some b)))) (hi : H[i]? = some (.map b m)) (hn : Nat.blt d n = true) (h : ∀ it, WL P n c ops Q rest ((d, rv (.pointer (some ⟨it, 0, none⟩))) :: l) (H.set i (.mit b it m m none))) :
  WL P n c ops Q ({ dst := some d, op := .range t x, type := ty, pos := pos, after := af, guard := none } :: rest) l H :=
 wl_w (fun a w Z ha hw => by
  obtain ⟨es, ck, h1, h2⟩ := hw.ent hi
  have hb : b < w.heap.size := (Array.getElem?_eq_some_iff.1 h1).1
  have hf : es.toList.filter (fun e => !(#[] : Array Nat).contains e.born) = es.toList := List.filter_eq_self.2 fun _ _ => by simp
  obtain ⟨f, h4, h5⟩ := h2.2.2.2
  refine ⟨.pointer (some ⟨w.heap.size, 0, none⟩), w.alloc (.mapIter (some b) ck #[] ck), _, _, Z, ?_, Fz.le.refl _, rfl, hw.set hi rfl rfl rfl (by simp) (fun k hk _ => Below.heap_alloc w _ k hk) ?_ ?_, h w.heap.size⟩
  ·simp [execOp, ha.eval hx, run_range_map w t kt et b es ck ht h1]
  ·exact ⟨es, ck, #[], ck, ck, (Below.heap_alloc w _ b hb).trans h1, by simpa using heap_alloc_new w _, h2, h2.2.2.1, Nat.le_refl _, Nat.le_refl _, Nat.ne_of_lt hb, ⟨f, h4, by rw [hf]; exact h5⟩, trivial⟩
  ·intro k hk
   simp only [Ent.foot, List.mem_cons, List.not_mem_nil, or_false] at hk
   rcases hk with rfl | rfl
   ·exact .inl (by simp [Ent.foot])
   ·exact .inr (Nat.le_refl _)) hn
theorem w_next (hx : ev l x = some (rv (.pointer (some ⟨it, 0, none⟩)))) (hi : H[i]? = some (.mit b it m (menc enc ys) cur)) (hn : Nat.blt d n = true)
  (h0 : ys = [] → WL P n c ops Q rest ((d, rTup [rB false]) :: l) H)
  (h1 : ∀ p ys', ys.Perm (p :: ys') → WL P n c ops Q rest ((d, rTup [rB true, rS p.1, enc p.2]) :: l) (H.set i (.mit b it m (menc enc ys') (some (p.1, enc p.2))))) :
  WL P n c ops Q ({ dst := some d, op := .next x false, type := ty, pos := pos, after := af, guard := none } :: rest) l H :=
 wl_w (fun a w Z ha hw => by
  obtain ⟨es, ck, seen, since, c0, q1, q2, q3, q4, q5, q6, q7, ⟨f, q8, q9⟩, _⟩ := hw.ent hi
  have hlf : (leftOf es seen).toList = es.toList.filter fun e => !seen.contains e.born := by simp [leftOf]
  rcases run_next_at (P := P) w ty it b since c0 seen es ck q2 q1 q4 q5 with ⟨r1, r2⟩ | ⟨e, r1, w1, r2, r3⟩
  ·have he : es.toList.filter (fun e => !seen.contains e.born) = [] := by rw [← hlf]; exact List.eq_nil_of_length_eq_zero (by simpa using r1)
   rw [he] at q9
   have hf : f = [] := by cases f with
    | nil => rfl
    | cons _ _ => exact absurd q9 id
   subst hf
   have hy : ys = [] := by
    have := q8.length_eq
    rw [menc_length] at this
    exact List.eq_nil_of_length_eq_zero this.symm
   exact ⟨.tuple #[.bool false], w, rTup [rB false], H, Z, by simp [execOp, ha.eval hx, r2], Fz.le.refl _, ⟨[.bool false], rfl, rfl, trivial⟩, hw, h0 hy⟩
  ·rw [hlf] at r1
   obtain ⟨j, hj⟩ := List.mem_iff_getElem?.1 r1
   obtain ⟨k, r, e1, e2, e3⟩ := q9.at.2 j e hj
   obtain ⟨p, ys', s1, s2, s3, s4⟩ := perm_enc q8 e1
   have hnl : ((es.toList.filter fun e => !seen.contains e.born).map (·.born)).Nodup := q3.2.1.sublist ((List.filter_sublist ..).map _)
   have hleft : es.toList.filter (fun x => !(seen.push e.born).contains x.born) = (es.toList.filter fun e => !seen.contains e.born).eraseIdx j := by
    rw [← filter_erase (q := fun _ => true) hnl hj, List.filter_filter]
    refine List.filter_congr fun x _ => ?_
    simp only [Array.contains_push, Bool.not_or]
    rw [Bool.and_comm]
   have hd : St c H Z w1 := by
    rcases r2 with rfl | rfl
    ·exact hw
    ·exact hw.drawn _
   have q2' : w1.heap[it]? = some (.mapIter (some b) since seen c0) := by rcases r2 with rfl | rfl <;> exact q2
   have q1' : w1.heap[b]? = some (.map es ck) := by rcases r2 with rfl | rfl <;> exact q1
   obtain ⟨t1, t2⟩ := MapKept.heap_set (o' := .mapIter (some b) since (seen.push e.born) ck) q2'
   refine ⟨.tuple #[.bool true, e.key, e.val], ChangeMaps.setBlock w1 it (.mapIter (some b) since (seen.push e.born) ck), rTup [rB true, rS p.1, enc p.2], H.set i (.mit b it m (menc enc ys') (some (p.1, enc p.2))), Z, by simp [execOp, ha.eval hx, r3], Fz.le.refl _, ⟨[.bool true, e.key, e.val], rfl, rfl, ?_, ?_, trivial⟩, hd.set hi rfl rfl rfl (by simp [ChangeMaps.setBlock]) (fun k' _ hk' => t2 k' (fun e' => hk' (by simp [Ent.foot, e']))) ?_ (fun k' hk' => .inl (by simpa [Ent.foot] using hk')), h1 p ys' s1⟩
   ·show e.key = .string (B p.1); rw [s2]; exact e2
   ·rw [s3]; exact e3
   ·exact ⟨es, ck, seen.push e.born, since, ck, (t2 b q7).trans q1', t1, q3, q4, Nat.le_trans q5 q6, Nat.le_refl _, q7, ⟨f.eraseIdx j, s4, by rw [hleft]; exact q9.erase j⟩, rfl, seen, e, rfl, (List.mem_filter.1 r1).1, by rw [s2]; exact e2, by rw [s3]; exact e3⟩) hn
theorem St.unmit {Z : Fz} {w : World} (h : St c H Z w) (hi : H[i]? = some (.mit b it m lf cur)) : St c (H.set i (.map b m)) Z w := by
 obtain ⟨es, ck, seen, since, c0, q1, q2, q3, _⟩ := h.ent hi
 exact h.set hi rfl rfl rfl (Nat.le_refl _) (fun _ _ _ => rfl) ⟨es, ck, q1, q3⟩ (by simp [Ent.foot])
theorem WK.unmit (hi : H[i]? = some (.mit b it m lf cur)) (h : WK n c K l (H.set i (.map b m))) : WK n c K l H := fun a w Z ha hw => h a w Z ha (hw.unmit hi)
theorem WC.unmit (hi : H[i]? = some (.mit b it m lf cur)) (h : WC P n c cx Q l (H.set i (.map b m))) : WC P n c cx Q l H := fun a w Z ha hw => h a w Z ha (hw.unmit hi)
theorem WL.unmit (hi : H[i]? = some (.mit b it m lf cur)) (h : WL P n c ops Q rest l (H.set i (.map b m))) : WL P n c ops Q rest l H := fun a w Z ha hw => h a w Z ha (hw.unmit hi)
theorem St.uncur {Z : Fz} {w : World} (h : St c H Z w) (hi : H[i]? = some (.mit b it m lf cur)) : St c (H.set i (.mit b it m lf none)) Z w := by
 obtain ⟨es, ck, seen, since, c0, q1, q2, q3, q4, q5, q6, q7, q8, _⟩ := h.ent hi
 exact h.set hi rfl rfl rfl (Nat.le_refl _) (fun _ _ _ => rfl) ⟨es, ck, seen, since, c0, q1, q2, q3, q4, q5, q6, q7, q8, trivial⟩ (fun k hk => .inl (by simpa [Ent.foot] using hk))
theorem WK.uncur (hi : H[i]? = some (.mit b it m lf cur)) (h : WK n c K l (H.set i (.mit b it m lf none))) : WK n c K l H := fun a w Z ha hw => h a w Z ha (hw.uncur hi)
theorem o_entry {dd : Option Nat} {g : Option (Nat × Bool)} (hx : ev l x = some (rv (.pointer (some ⟨it, 0, none⟩)))) (hi : H[i]? = some (.mit b it m lf (some (k, r)))) :
  ORun P n c l H { dst := dd, op := .entry x, type := ty, pos := pos, after := af, guard := g } (rTup [rS k, r]) := fun a w Z ha hw => by
 obtain ⟨es, ck, seen, since, c0, q1, q2, q3, q4, q5, q6, q7, q8, rfl, s0, e, rfl, h1, h2, h3⟩ := hw.ent hi
 exact ⟨.tuple #[e.key, e.val], ⟨[e.key, e.val], rfl, h2, h3, trivial⟩, by simp [execOp, ha.eval hx, run_entry_at w it b since s0 es c0 e q2 q1 h1 q3.2.1]⟩
end
end Go.Proofs.YtjfnokmpfekniaaDoor.Q

/-
  Walks, printed by a small program of ours (gq.py).
-/
namespace Go.Proofs.YtjfnokmpfekniaaDoor.Q
open Go Go.RowKit
set_option linter.unusedVariables false
set_option linter.unusedSimpArgs false
set_option maxRecDepth 100000
set_option maxHeartbeats 4000000
@[reducible] def eTApiChange (x : TApiChange) : List Rp := [rS x.fKey, rB x.fDelete, rSl 4 (List.map eTApiCell x.fValue), rI .i64 x.fIfVersion]
theorem eTApiChange_len (x : TApiChange) : (eTApiChange x).length = 4 := rfl
@[reducible] def eTApiItem (x : TApiItem) : List Rp := [rS x.fKey, rSl 4 (List.map eTApiCell x.fValue), rI .i64 x.fVersion]
@[reducible] def m_TApiItem (x : TApiItem) : Rp := rAgg (eTApiItem x)
theorem m_TApiItem_z (Z : Fz) : (m_TApiItem (TApiItem.mk ([] : Str) ([] : (List TApiCell)) 0)).p Z (.agg #[(.string ⟨#[]⟩), (.slice none 0 0), (.int .i64 0)]) := ⟨[.string ⟨#[]⟩, .slice none 0 0, .int .i64 0], rfl, rfl, SlZ.nil _ _, rfl, trivial⟩
theorem info42 : ∃ inf, Tryd.prog.info? 42 = some inf ∧ inf.zero = some (.agg #[(.int .i64 0), (.int .i64 0), (.string ⟨#[]⟩), (.int .i64 0)]) ∧ inf.size = 4 ∧ inf.bytes = 40 := by
  have key : (Tryd.prog.info? 42).map (fun i => (i.zero, i.size, i.bytes)) = some (some (.agg #[(.int .i64 0), (.int .i64 0), (.string ⟨#[]⟩), (.int .i64 0)]), 4, 40) := by kernel_rfl
  obtain ⟨inf, h1, h2⟩ := Option.map_eq_some_iff.1 key
  simp only [Prod.mk.injEq] at h2
  exact ⟨inf, h1, h2.1, h2.2.1, h2.2.2⟩
theorem built35 (parts : List (Nat × Value)) : Tryd.prog.built 35 parts = Instr.fill (fun i => (#[(0, 1), (1, 1), (2, 1)] : Array (Nat × Nat))[i]?) #[(.string ⟨#[]⟩), ((.slice none 0 0)), (.int .i64 0)] parts := by kernel_rfl
theorem o_build35_ {n : Nat} {c : Cx} {l : Fr} {H : List Ent} {d : Option Nat} {ty : TypeId} {pos : String} {af : Array Edge} {g : Option (Nat × Bool)} : ORun Tryd.prog n c l H { dst := d, op := .build 35 #[], type := ty, pos := pos, after := af, guard := g } (rAgg [rS ([] : Str), rv (.slice none 0 0), rI .i64 0]) := fun a w Z ha _ => by
  have hb : Tryd.prog.built 35 [] = some #[(.string ⟨#[]⟩), ((.slice none 0 0)), (.int .i64 0)] := by
    rw [built35]
    simp [Instr.fill, Value.cells]
  refine ⟨.agg #[(.string ⟨#[]⟩), ((.slice none 0 0)), (.int .i64 0)], ⟨[(.string ⟨#[]⟩), ((.slice none 0 0)), (.int .i64 0)], rfl, rfl, rfl, rfl, trivial⟩, ?_⟩
  have := run_build w 35 #[] _ (by simpa using hb)
  simp [execOp, this]
theorem o_build35_0_1_2 {n : Nat} {c : Cx} {l : Fr} {H : List Ent} {d : Option Nat} {ty : TypeId} {pos : String} {af : Array Edge} {g : Option (Nat × Bool)} {x0 : Operand} {r0 : Rp} (h0 : ev l x0 = some r0) (u0 : r0.one = true) {x1 : Operand} {r1 : Rp} (h1 : ev l x1 = some r1) (u1 : r1.one = true) {x2 : Operand} {r2 : Rp} (h2 : ev l x2 = some r2) (u2 : r2.one = true) : ORun Tryd.prog n c l H { dst := d, op := .build 35 #[(0, x0), (1, x1), (2, x2)], type := ty, pos := pos, after := af, guard := g } (rAgg [r0, r1, r2]) := fun a w Z ha _ => by
  have p0 := ha.ev h0
  have c0 := cells_one (r0.hone u0 Z _ p0)
  have p1 := ha.ev h1
  have c1 := cells_one (r1.hone u1 Z _ p1)
  have p2 := ha.ev h2
  have c2 := cells_one (r2.hone u2 Z _ p2)
  have hb : Tryd.prog.built 35 [(0, a.eval x0), (1, a.eval x1), (2, a.eval x2)] = some #[a.eval x0, a.eval x1, a.eval x2] := by
    rw [built35]
    generalize a.eval x0 = v0 at *
    generalize a.eval x1 = v1 at *
    generalize a.eval x2 = v2 at *
    simp [Instr.fill, c0, c1, c2]
  refine ⟨.agg #[a.eval x0, a.eval x1, a.eval x2], ⟨[a.eval x0, a.eval x1, a.eval x2], rfl, p0, p1, p2, trivial⟩, ?_⟩
  have := run_build w 35 #[(0, a.eval x0), (1, a.eval x1), (2, a.eval x2)] _ (by simpa using hb)
  simp [execOp, this]
theorem built48 (parts : List (Nat × Value)) : Tryd.prog.built 48 parts = Instr.fill (fun i => (#[(0, 1), (1, 1)] : Array (Nat × Nat))[i]?) #[((.map none)), ((.map none))] parts := by kernel_rfl
theorem o_build48_0_1 {n : Nat} {c : Cx} {l : Fr} {H : List Ent} {d : Option Nat} {ty : TypeId} {pos : String} {af : Array Edge} {g : Option (Nat × Bool)} {x0 : Operand} {r0 : Rp} (h0 : ev l x0 = some r0) (u0 : r0.one = true) {x1 : Operand} {r1 : Rp} (h1 : ev l x1 = some r1) (u1 : r1.one = true) : ORun Tryd.prog n c l H { dst := d, op := .build 48 #[(0, x0), (1, x1)], type := ty, pos := pos, after := af, guard := g } (rAgg [r0, r1]) := fun a w Z ha _ => by
  have p0 := ha.ev h0
  have c0 := cells_one (r0.hone u0 Z _ p0)
  have p1 := ha.ev h1
  have c1 := cells_one (r1.hone u1 Z _ p1)
  have hb : Tryd.prog.built 48 [(0, a.eval x0), (1, a.eval x1)] = some #[a.eval x0, a.eval x1] := by
    rw [built48]
    generalize a.eval x0 = v0 at *
    generalize a.eval x1 = v1 at *
    simp [Instr.fill, c0, c1]
  refine ⟨.agg #[a.eval x0, a.eval x1], ⟨[a.eval x0, a.eval x1], rfl, p0, p1, trivial⟩, ?_⟩
  have := run_build w 48 #[(0, a.eval x0), (1, a.eval x1)] _ (by simpa using hb)
  simp [execOp, this]
theorem cloneN_w (ys : (List TApiCell)) (r : (List TApiCell)) (h : cloneN ys = some r) : Fn Tryd.prog GE 21 [rSl 4 (List.map eTApiCell ys)] [] (fun R H => R = rSl 4 (List.map eTApiCell r) ∧ H = []) := by
 refine enter (n := 8) Tryd.func21 rfl Tryd.ntmps21 rfl (fun w Z => ?_)
 refine wc_as (l' := [(0, rSl 4 (List.map eTApiCell ys))]) (H' := []) rfl rfl ?_
 unfold cloneN at h
 refine wc_sr ?_
 refine wv (r := rv (.slice none 0 0)) (o_assign rfl) ?_
 refine wl_x ?_
 refine wc_seq ?_
 refine wc_sr ?_
 refine wm rfl ?_
 refine wv (o_slnil_z Tryd.underlying23 rfl) ?_
 refine wl_x ?_
 refine wc_condx rfl (fun c1 => ?_) (fun c1 => ?_)
 ·have e2 : ys = [] := List.map_eq_nil_iff.1 (c1 rfl)
  have h3 : some ([] : List TApiCell) = some r := by rw [e2] at h; exact (chk_e h).2
  refine wc_sr ?_
  refine wv (r := rv (.slice none 0 0)) (o_assign rfl) ?_
  refine wl_x ?_
  refine wc_ret ?_
  refine wk_then_ret ?_
  refine WK.up (d := 2) (r := rSl 4 (List.map eTApiCell ([] : List TApiCell))) rfl (Up.le (Rle.nil _)) ?_
  obtain rfl := some_e h3
  exact wk_ret (r_1 Tryd.results21 (rv_t rfl)) sN ⟨rfl, rfl⟩
 ·refine wc_skip ?_
  refine wk_x ?_
  refine wc_sr ?_
  refine w_buildSlice (ys := ([] : List TApiCell)) (enc := eTApiCell) (css := []) (xs := []) Tryd.underlying23 Tryd.sizeOf42 Tryd.zeroValue42 rfl rfl rfl trivial rfl eTApiCell_len rfl rfl rfl (fun b4 => ?_)
  refine wm rfl ?_
  obtain ⟨g6, h7⟩ := chk_e h
  obtain ⟨inf, hinf⟩ := info42
  refine w_append (xs := ([] : List TApiCell)) (ys := ys) (enc := eTApiCell) (i := 0) Tryd.underlying23 hinf.1 hinf.2.1 hinf.2.2.1 hinf.2.2.2 rfl rfl rfl rfl rfl (Src.z rfl rfl) eTApiCell_len eTApiCell_one g6 rfl (fun v5 => ?_)
  refine wa rfl ?_
  refine wl_x ?_
  refine wc_ret ?_
  refine WK.freeze (i := 0) rfl ?_
  refine WK.up (d := 2) (r := rSl 4 (List.map eTApiCell (([] : List TApiCell) ++ ys))) rfl (Up.fact (i := 0) rfl) ?_
  obtain rfl := some_e h7
  exact wk_ret (r_1 Tryd.results21 (rv_t rfl)) (sS sN) ⟨rfl, rfl⟩

theorem kCheck_w (F : Nat) (c : TApiChange) (r : Int) (h : kCheck F c = some r) : Fn Tryd.prog GE 19 [rAgg (eTApiChange c)] [] (fun R H => R = rI .i64 r ∧ H = []) := by
 refine enter (n := 32) Tryd.func19 rfl Tryd.ntmps19 rfl (fun w Z => ?_)
 refine wc_as (l' := [(0, rAgg (eTApiChange c))]) (H' := []) rfl rfl ?_
 unfold kCheck at h
 refine wc_sr ?_
 refine w_box_agg rfl rfl (fun b1 => ?_)
 refine wv (r := rI .i64 0) (o_assign rfl) ?_
 refine wl_x ?_
 refine wc_seq ?_
 refine wc_block ?_
 refine wc_sr ?_
 refine wv (o_fieldAddr Tryd.underlying25 rfl Tryd.sizeOf9 rfl rfl) ?_
 refine wv (o_load (i := 0) Tryd.isAgg9 rfl rfl rfl) ?_
 refine w_call0 (rs := [rS c.fKey]) (r := rB (idS c.fKey)) Tryd.call26 rfl (id_q c.fKey) rfl rfl ?_
 refine wv (o_not rfl) ?_
 refine wa rfl ?_
 refine wl_x ?_
 refine wc_cond (b := !(idS c.fKey)) rfl (fun c2 => ?_) (fun c2 => ?_)
 ·have h3 := cnd_t c2 h
  refine wc_sr ?_
  refine wv (r := rI .i64 4) (o_assign rfl) ?_
  refine wl_x ?_
  refine wc_ret ?_
  refine wk_in_ret ?_
  refine wk_then_ret ?_
  obtain rfl := some_e h3
  exact wk_ret (r_1 Tryd.results19 (rv_t rfl)) (sS sN) ⟨rfl, rfl⟩
 ·have h4 := cnd_f c2 h
  refine wc_seq_mid [(1, rv (.pointer (some ⟨b1, 0, none⟩))), (8, rB ((decide (c.fIfVersion < (-1))) || (decide (1000000000000 < c.fIfVersion))))] [.blk b1 (eTApiChange c) 25] ?_ ?_
  ·refine wc_region ?_
   refine wv (o_fieldAddr Tryd.underlying25 rfl Tryd.sizeOf3 rfl rfl) ?_
   refine wv (o_load (i := 0) Tryd.isAgg3 rfl rfl rfl) ?_
   refine wv (o_lt rfl rfl) ?_
   refine wm rfl ?_
   refine bsplit (decide (c.fIfVersion < (-1))) (fun c5 => ?_) (fun c5 => ?_)
   ·refine wf c5 ?_
    refine wf c5 ?_
    refine wf c5 ?_
    refine wv (r := rB true) (o_pick_t (b := decide (c.fIfVersion < (-1))) rfl c5 rfl) ?_
    refine wa rfl ?_
    refine wl_nil ?_
    exact wtc c5
   ·refine wo c5 ?_
    refine wv (o_fieldAddr Tryd.underlying25 rfl Tryd.sizeOf3 rfl rfl) ?_
    refine wo c5 ?_
    refine wv (o_load (i := 0) Tryd.isAgg3 rfl rfl rfl) ?_
    refine wo c5 ?_
    refine wv (o_gt rfl rfl) ?_
    refine wpf rfl c5 rfl ?_
    refine wa rfl ?_
    refine wl_nil ?_
    exact wtc c5
  refine wc_cond (b := ((decide (c.fIfVersion < (-1))) || (decide (1000000000000 < c.fIfVersion)))) rfl (fun c6 => ?_) (fun c6 => ?_)
  ·have h7 := cnd_t c6 h4
   refine wc_sr ?_
   refine wv (r := rI .i64 2) (o_assign rfl) ?_
   refine wl_x ?_
   refine wc_ret ?_
   refine wk_in_ret ?_
   refine wk_then_ret ?_
   obtain rfl := some_e h7
   exact wk_ret (r_1 Tryd.results19 (rv_t rfl)) (sS sN) ⟨rfl, rfl⟩
  ·have h8 := cnd_f c6 h4
   refine wc_seq_mid [(1, rv (.pointer (some ⟨b1, 0, none⟩))), (17, rB (c.fDelete && (decide (0 < (c.fValue.length : Int)))))] [.blk b1 (eTApiChange c) 25] ?_ ?_
   ·refine wc_region ?_
    refine wv (o_fieldAddr Tryd.underlying25 rfl Tryd.sizeOf4 rfl rfl) ?_
    refine wv (o_load (i := 0) Tryd.isAgg4 rfl rfl rfl) ?_
    refine wm rfl ?_
    refine bsplit (c.fDelete) (fun c9 => ?_) (fun c9 => ?_)
    ·refine wo c9 ?_
     refine wv (o_fieldAddr Tryd.underlying25 rfl Tryd.sizeOf23 rfl rfl) ?_
     refine wo c9 ?_
     refine wv (o_load (i := 0) Tryd.isAgg23 rfl rfl rfl) ?_
     refine wo c9 ?_
     refine wv (o_len_zt (ys := c.fValue) (enc := eTApiCell) Tryd.underlying23 rfl) ?_
     refine wo c9 ?_
     refine wv (o_gt rfl rfl) ?_
     refine wpt rfl c9 rfl ?_
     refine wa rfl ?_
     refine wl_nil ?_
     exact wtc c9
    ·refine wf c9 ?_
     refine wf c9 ?_
     refine wf c9 ?_
     refine wf c9 ?_
     refine wv (r := rB false) (o_pick_f (b := c.fDelete) rfl c9 rfl) ?_
     refine wa rfl ?_
     refine wl_nil ?_
     exact wtc c9
   refine wc_cond (b := (c.fDelete && (decide (0 < (c.fValue.length : Int))))) rfl (fun c10 => ?_) (fun c10 => ?_)
   ·have h11 := cnd_t c10 h8
    refine wc_sr ?_
    refine wv (r := rI .i64 7) (o_assign rfl) ?_
    refine wl_x ?_
    refine wc_ret ?_
    refine wk_in_ret ?_
    refine wk_then_ret ?_
    obtain rfl := some_e h11
    exact wk_ret (r_1 Tryd.results19 (rv_t rfl)) (sS sN) ⟨rfl, rfl⟩
   ·have h12 := cnd_f c10 h8
    refine wc_sr ?_
    refine wv (o_fieldAddr Tryd.underlying25 rfl Tryd.sizeOf4 rfl rfl) ?_
    refine wv (o_load (i := 0) Tryd.isAgg4 rfl rfl rfl) ?_
    refine wa rfl ?_
    refine wl_x ?_
    refine wc_cond (b := c.fDelete) rfl (fun c13 => ?_) (fun c13 => ?_)
    ·have h14 := cnd_t c13 h12
     refine wc_sr ?_
     refine wv (r := rI .i64 0) (o_assign rfl) ?_
     refine wl_x ?_
     refine wc_ret ?_
     refine wk_in_ret ?_
     refine wk_then_ret ?_
     obtain rfl := some_e h14
     exact wk_ret (r_1 Tryd.results19 (rv_t rfl)) (sS sN) ⟨rfl, rfl⟩
    ·have h15 := cnd_f c13 h12
     refine wc_skip ?_
     refine wk_in_norm ?_
     refine wk_x ?_
     refine wc_sr ?_
     refine wv (o_fieldAddr Tryd.underlying25 rfl Tryd.sizeOf23 rfl rfl) ?_
     refine wv (o_load (i := 0) Tryd.isAgg23 rfl rfl rfl) ?_
     obtain ⟨r16, e18, h17⟩ := obn_e h15
     refine wc0 Tryd.call27 (vCheck_w F c.fValue r16 e18) rfl ?_
     refine wa rfl ?_
     refine wl_x ?_
     refine wc_ret ?_
     obtain rfl := some_e h17
     exact wk_ret (r_1 Tryd.results19 (rv_t rfl)) (sS sN) ⟨rfl, rfl⟩

theorem kValid_w (F : Nat) (l : (List TApiChange)) (r : Int) (h : kValid F l = some r) : Fn Tryd.prog GE 14 [rSl 4 (List.map eTApiChange l)] [] (fun R H => R = rI .i64 r ∧ H = []) := by
 refine enter (n := 21) Tryd.func14 rfl Tryd.ntmps14 rfl (fun w Z => ?_)
 refine wc_as (l' := [(0, rSl 4 (List.map eTApiChange l))]) (H' := []) rfl rfl ?_
 unfold kValid at h
 refine wc_sr ?_
 refine wv (r := rI .i64 0) (o_assign rfl) ?_
 refine wl_x ?_
 refine wc_seq ?_
 refine wc_sr ?_
 refine wm rfl ?_
 refine wv (o_len_zt (ys := l) (enc := eTApiChange) Tryd.underlying28 rfl) ?_
 refine wv (o_gt rfl rfl) ?_
 refine wl_x ?_
 refine wc_cond (b := decide (256 < (l.length : Int))) rfl (fun c1 => ?_) (fun c1 => ?_)
 ·have h2 := cnd_t c1 h
  refine wc_sr ?_
  refine wv (r := rI .i64 3) (o_assign rfl) ?_
  refine wl_x ?_
  refine wc_ret ?_
  refine wk_then_ret ?_
  obtain rfl := some_e h2
  exact wk_ret (r_1 Tryd.results14 (rv_t rfl)) sN ⟨rfl, rfl⟩
 ·have h3 := cnd_f c1 h
  refine wc_skip ?_
  refine wk_x ?_
  refine wc_seq ?_
  refine wc_sr ?_
  refine wm rfl ?_
  refine wv (o_len_zt (ys := l) (enc := eTApiChange) Tryd.underlying28 rfl) ?_
  refine wv (r := rI .i64 0) (o_move rfl) ?_
  refine wl_x ?_
  refine wc_block ?_
  obtain ⟨o46, eo47, hK48⟩ := obn_e h3
  refine wc_loop2 (S := Nat × (Int) × (Unit)) (V := (Unit) × (Unit)) 0 (fun σ => lop (fun σ => kValid_b1 F l σ) σ.1 σ.2.1 = some o46) (fun σ => [(2, rI .i64 0), (9, rSl 4 (List.map eTApiChange l)), (10, rI .i64 (l.length : Int)), (11, rI .i64 σ.2.1)]) (fun σ => []) (fun σ => σ.1) (F, 0, ()) eo47 (Sub.c rfl (Sub.c rfl (Sub.c rfl (Sub.c rfl Sub.nil)))) sN (fun σ => kValid_k1  = some r) (fun σ => [(2, rI .i64 0)]) (fun σ => []) ?_ ?_
  ·rintro ⟨n54, x31, ⟨⟩⟩ hi52
   refine wc_as (l' := [(2, rI .i64 0), (9, rSl 4 (List.map eTApiChange l)), (10, rI .i64 (l.length : Int)), (11, rI .i64 x31)]) (H' := []) rfl rfl ?_
   obtain ⟨m51, rfl, t49, h53, ht50⟩ := lop_e hi52
   replace h53 : kValid_b1 F l x31 = some t49 := h53
   unfold kValid_b1 at h53
   refine wc_sr ?_
   refine wv (o_lt rfl rfl) ?_
   refine wl_x ?_
   refine wc_seq ?_
   refine wc_cond (b := decide (x31 < (l.length : Int))) rfl (fun c55 => ?_) (fun c55 => ?_)
   ·have h56 := cnd_t c55 h53
    refine wc_skip ?_
    refine wk_x ?_
    refine wc_seq ?_
    refine wc_block ?_
    refine wc_sr ?_
    obtain ⟨g57, h58⟩ := chk_e h56
    refine wv (o_ix_z (enc := eTApiChange) (ys := l) Tryd.underlying28 Tryd.sizeOf25 rfl rfl g57) ?_
    refine wv (o_load_za Tryd.isAgg25 Tryd.sizeOf25 rfl rfl rfl) ?_
    refine w_alloc (cs := [rS ([] : Str), rB false, rv (.slice none 0 0), rI .i64 0]) Tryd.zeroValue25 rfl rfl (fun b59 => ?_)
    refine u_store_agg (i := 0) Tryd.sizeOf25 rfl rfl rfl (OneAll.c rfl) rfl rfl (cs' := [rS ((at' l x31).fKey), rB ((at' l x31).fDelete), rSl 4 (List.map eTApiCell ((at' l x31).fValue)), rI .i64 ((at' l x31).fIfVersion)]) rfl (H' := [.blk b59 (eTApiChange (at' l x31)) 25]) rfl ?_
    refine wl_y ?_
    refine wv (o_load_agg (i := 0) Tryd.isAgg25 Tryd.sizeOf25 rfl rfl rfl rfl) ?_
    obtain ⟨r60, e62, h61⟩ := obn_e h58
    refine wc0 Tryd.call19 (kCheck_w F (at' l x31) r60 e62) rfl ?_
    refine wa rfl ?_
    refine wl_y ?_
    refine wm rfl ?_
    refine wv (o_ne rfl rfl) ?_
    refine wl_x ?_
    refine wc_cond (b := !decide (r60 = 0)) rfl (fun c63 => ?_) (fun c63 => ?_)
    ·have h64 := cnd_t c63 h61
     refine wc_sr ?_
     refine wm rfl ?_
     refine wa rfl ?_
     refine wl_x ?_
     refine wc_ret ?_
     refine wk_in_ret ?_
     refine wk_then_ret ?_
     refine wk_then_ret ?_
     refine wk_cut_ret ?_
     have h65 := stp_ret h64 ht50 hK48
     refine wk_in_ret ?_
     refine wk_then_ret ?_
     obtain rfl := some_e h65
     exact wk_ret (r_1 Tryd.results14 (rv_t rfl)) (sS sN) ⟨rfl, rfl⟩
    ·have h66 := cnd_f c63 h61
     refine wc_skip ?_
     refine wk_in_norm ?_
     refine wk_x ?_
     refine wc_region ?_
     obtain ⟨g67, h68⟩ := chk_e h66
     refine wv (o_add rfl rfl g67) ?_
     refine wm rfl ?_
     refine wl_nil ?_
     have h69 := stp_next h68 ht50
     exact wk_then (wk_some (m51, x31 + 1, ()) ⟨h69, Nat.lt_succ_self _⟩ (Sub.c rfl (Sub.c rfl (Sub.c rfl (Sub.c rfl Sub.nil)))) (sS sN))
   ·have h70 := cnd_f c55 h53
    refine wc_exit ?_
    refine wk_then_exit ?_
    have h71 := stp_go h70 ht50 hK48
    exact wk_then_exit (wk_cut_hit (wk_some ((), ()) h71 (Sub.c rfl Sub.nil) sN))
  ·rintro ⟨⟨⟩, ⟨⟩⟩ h72
   refine wk_as (l' := [(2, rI .i64 0)]) (H' := []) rfl rfl ?_
   replace h72 : kValid_k1  = some r := h72
   unfold kValid_k1 at h72
   refine wk_in_hit ?_
   refine wk_x ?_
   refine wc_sr ?_
   refine wv (r := rI .i64 0) (o_assign rfl) ?_
   refine wl_x ?_
   refine wc_ret ?_
   obtain rfl := some_e h72
   exact wk_ret (r_1 Tryd.results14 (rv_t rfl)) sN ⟨rfl, rfl⟩

theorem kNew_w  (r : TKvStore) (h : kNew = some r) : Fn Tryd.prog GE 7 [] [] (fun R H => ∃ u0 : Nat, ∃ u0_0 : Nat, ∃ u0_1 : Nat, R = rv (.pointer (some ⟨u0, 0, none⟩)) ∧ H = [.blk u0 [rv (.map (some u0_0)), rv (.map (some u0_1))] 48, .map u0_0 (menc m_TApiItem r.fItems), .map u0_1 (menc m_TApiItem r.fChanged)]) := by
 refine enter (n := 5) Tryd.func7 rfl Tryd.ntmps7 rfl (fun w Z => ?_)
 refine wc_as (l' := []) (H' := []) rfl rfl ?_
 unfold kNew at h
 refine wc_sr ?_
 refine wv (r := rv (.pointer none)) (o_assign rfl) ?_
 refine wl_y ?_
 refine w_makeMap rfl (fun b1 => ?_)
 refine w_makeMap rfl (fun b2 => ?_)
 refine wv (r := rAgg [rv (.map (some b1)), rv (.map (some b2))]) (o_build48_0_1 rfl rfl rfl rfl) ?_
 refine w_box_agg rfl rfl (fun b3 => ?_)
 refine wa rfl ?_
 refine wl_x ?_
 refine wc_ret ?_
 refine wk_perm (H2 := [.blk b3 [rv (.map (some b1)), rv (.map (some b2))] 48, .map b1 (menc m_TApiItem ([] : List (Str × TApiItem))), .map b2 (menc m_TApiItem ([] : List (Str × TApiItem)))]) ((perm_front (i := 0) rfl).trans (List.Perm.cons _ ((perm_front (i := 1) rfl).trans (List.Perm.cons _ (List.Perm.refl _))))) ?_
 obtain rfl := some_e h
 exact wk_ret (r_1 Tryd.results7 (rv_t rfl)) (sC (sC (sC sN))) ⟨b3, b1, b2, rfl, rfl⟩

theorem kMade_w (b_q : Nat) (v_q_0 : Nat) (v_q_1 : Nat) (q : TKvStore) (r : Bool × TKvStore) (h : kMade q = some r) : Fn Tryd.prog GE 13 [rv (.pointer (some ⟨b_q, 0, none⟩))] [.blk b_q [rv (.map (some v_q_0)), rv (.map (some v_q_1))] 48, .map v_q_0 (menc m_TApiItem q.fItems), .map v_q_1 (menc m_TApiItem q.fChanged)] (fun R H => R = rB r.1 ∧ H = [.blk b_q [rv (.map (some v_q_0)), rv (.map (some v_q_1))] 48, .map v_q_0 (menc m_TApiItem r.2.fItems), .map v_q_1 (menc m_TApiItem r.2.fChanged)]) := by
 refine enter (n := 12) Tryd.func13 rfl Tryd.ntmps13 rfl (fun w Z => ?_)
 refine wc_as (l' := [(0, rv (.pointer (some ⟨b_q, 0, none⟩)))]) (H' := [.blk b_q [rv (.map (some v_q_0)), rv (.map (some v_q_1))] 48, .map v_q_0 (menc m_TApiItem q.fItems), .map v_q_1 (menc m_TApiItem q.fChanged)]) rfl rfl ?_
 unfold kMade at h
 refine wc_sr ?_
 refine wv (r := rB false) (o_assign rfl) ?_
 refine wl_x ?_
 refine wc_seq_mid [(2, rB true)] [.blk b_q [rv (.map (some v_q_0)), rv (.map (some v_q_1))] 48, .map v_q_0 (menc m_TApiItem q.fItems), .map v_q_1 (menc m_TApiItem q.fChanged)] ?_ ?_
 ·refine wc_region ?_
  refine wm rfl ?_
  refine wv (r := rB true) (o_pnil_ne ⟨_, Tryd.underlying30⟩ rfl) ?_
  refine wm rfl ?_
  refine wl_on (b := true) rfl rfl rfl ?_
  refine wm rfl ?_
  refine wl_on (b := true) rfl rfl rfl ?_
  refine wv (o_nilcheck rfl) ?_
  refine wl_on (b := true) rfl rfl rfl ?_
  refine wv (o_fieldAddr Tryd.underlying48 rfl Tryd.sizeOf46 rfl rfl) ?_
  refine wl_on (b := true) rfl rfl rfl ?_
  refine wv (o_load (i := 0) Tryd.isAgg46 rfl rfl rfl) ?_
  refine wl_on (b := true) rfl rfl rfl ?_
  refine wv (r := rB true) (o_mnotnil (v := some v_q_0) Tryd.underlying46 rfl) ?_
  refine wv (r := rB true) (o_pick_t (b := true) rfl rfl rfl) ?_
  refine wa rfl ?_
  refine wl_nil ?_
  exact wt
 refine wc_ret ?_
 obtain rfl := some_e h
 exact wk_ret (r_1 Tryd.results13 (rv_t rfl)) (sC (sC (sC sN))) ⟨rfl, rfl⟩

theorem kNow_w (b_q : Nat) (v_q_0 : Nat) (v_q_1 : Nat) (q : TKvStore) (key : Str) (r : TApiItem × TKvStore) (h : kNow q key = some r) : Fn Tryd.prog GE 20 [rv (.pointer (some ⟨b_q, 0, none⟩)), rS key] [.blk b_q [rv (.map (some v_q_0)), rv (.map (some v_q_1))] 48, .map v_q_0 (menc m_TApiItem q.fItems), .map v_q_1 (menc m_TApiItem q.fChanged)] (fun R H => R = rAgg (eTApiItem r.1) ∧ H = [.blk b_q [rv (.map (some v_q_0)), rv (.map (some v_q_1))] 48, .map v_q_0 (menc m_TApiItem r.2.fItems), .map v_q_1 (menc m_TApiItem r.2.fChanged)]) := by
 refine enter (n := 24) Tryd.func20 rfl Tryd.ntmps20 rfl (fun w Z => ?_)
 refine wc_as (l' := [(0, rv (.pointer (some ⟨b_q, 0, none⟩))), (1, rS key)]) (H' := [.blk b_q [rv (.map (some v_q_0)), rv (.map (some v_q_1))] 48, .map v_q_0 (menc m_TApiItem q.fItems), .map v_q_1 (menc m_TApiItem q.fChanged)]) rfl rfl ?_
 unfold kNow at h
 refine wc_sr ?_
 refine w_alloc (cs := [rS ([] : Str), rv (.slice none 0 0), rI .i64 0]) Tryd.zeroValue35 rfl rfl (fun b1 => ?_)
 refine wl_x ?_
 refine wc_seq ?_
 refine wc_sr ?_
 refine wm rfl ?_
 refine wv (o_nilcheck rfl) ?_
 refine wv (o_fieldAddr Tryd.underlying48 rfl Tryd.sizeOf46 rfl rfl) ?_
 refine wv (o_load (i := 1) Tryd.isAgg46 rfl rfl rfl) ?_
 refine wm rfl ?_
 refine wv (r := rTup [rAgg [rS ((mval q.fChanged key (TApiItem.mk ([] : Str) ([] : (List TApiCell)) 0)).fKey), rSl 4 (List.map eTApiCell ((mval q.fChanged key (TApiItem.mk ([] : Str) ([] : (List TApiCell)) 0)).fValue)), rI .i64 ((mval q.fChanged key (TApiItem.mk ([] : Str) ([] : (List TApiCell)) 0)).fVersion)], rB (mhas q.fChanged key)]) (o_mgetc (enc := m_TApiItem) (xs := q.fChanged) (z := TApiItem.mk ([] : Str) ([] : (List TApiCell)) 0) (i := 3) Tryd.underlying46 Tryd.underlying9 Tryd.zeroValue35 m_TApiItem_z rfl rfl rfl) ?_
 refine wm rfl ?_
 refine wv (o_extract rfl rfl) ?_
 refine wv (o_extract rfl rfl) ?_
 refine w_alloc (cs := [rS ([] : Str), rv (.slice none 0 0), rI .i64 0]) Tryd.zeroValue35 rfl rfl (fun b2 => ?_)
 refine u_store_agg (i := 0) Tryd.sizeOf35 rfl rfl rfl (OneAll.c rfl) rfl rfl (cs' := [rS ((mval q.fChanged key (TApiItem.mk ([] : Str) ([] : (List TApiCell)) 0)).fKey), rSl 4 (List.map eTApiCell ((mval q.fChanged key (TApiItem.mk ([] : Str) ([] : (List TApiCell)) 0)).fValue)), rI .i64 ((mval q.fChanged key (TApiItem.mk ([] : Str) ([] : (List TApiCell)) 0)).fVersion)]) rfl (H' := [.blk b2 [rS ((mval q.fChanged key (TApiItem.mk ([] : Str) ([] : (List TApiCell)) 0)).fKey), rSl 4 (List.map eTApiCell ((mval q.fChanged key (TApiItem.mk ([] : Str) ([] : (List TApiCell)) 0)).fValue)), rI .i64 ((mval q.fChanged key (TApiItem.mk ([] : Str) ([] : (List TApiCell)) 0)).fVersion)] 35, .blk b1 [rS ([] : Str), rv (.slice none 0 0), rI .i64 0] 35, .blk b_q [rv (.map (some v_q_0)), rv (.map (some v_q_1))] 48, .map v_q_0 (menc m_TApiItem q.fItems), .map v_q_1 (menc m_TApiItem q.fChanged)]) rfl ?_
 refine wa rfl ?_
 refine wl_y ?_
 refine wm rfl ?_
 refine wl_x ?_
 refine wc_cond (b := mhas q.fChanged key) rfl (fun c3 => ?_) (fun c3 => ?_)
 ·have h4 := cnd_t c3 h
  refine wc_sr ?_
  refine wv (o_load_agg (i := 0) Tryd.isAgg35 Tryd.sizeOf35 rfl rfl rfl rfl) ?_
  refine u_store_agg (i := 1) Tryd.sizeOf35 rfl rfl rfl (OneAll.c rfl) rfl rfl (cs' := [rS ((mval q.fChanged key (TApiItem.mk ([] : Str) ([] : (List TApiCell)) 0)).fKey), rSl 4 (List.map eTApiCell ((mval q.fChanged key (TApiItem.mk ([] : Str) ([] : (List TApiCell)) 0)).fValue)), rI .i64 ((mval q.fChanged key (TApiItem.mk ([] : Str) ([] : (List TApiCell)) 0)).fVersion)]) rfl (H' := [.blk b2 [rS ((mval q.fChanged key (TApiItem.mk ([] : Str) ([] : (List TApiCell)) 0)).fKey), rSl 4 (List.map eTApiCell ((mval q.fChanged key (TApiItem.mk ([] : Str) ([] : (List TApiCell)) 0)).fValue)), rI .i64 ((mval q.fChanged key (TApiItem.mk ([] : Str) ([] : (List TApiCell)) 0)).fVersion)] 35, .blk b1 [rS ((mval q.fChanged key (TApiItem.mk ([] : Str) ([] : (List TApiCell)) 0)).fKey), rSl 4 (List.map eTApiCell ((mval q.fChanged key (TApiItem.mk ([] : Str) ([] : (List TApiCell)) 0)).fValue)), rI .i64 ((mval q.fChanged key (TApiItem.mk ([] : Str) ([] : (List TApiCell)) 0)).fVersion)] 35, .blk b_q [rv (.map (some v_q_0)), rv (.map (some v_q_1))] 48, .map v_q_0 (menc m_TApiItem q.fItems), .map v_q_1 (menc m_TApiItem q.fChanged)]) rfl ?_
  refine wl_x ?_
  refine wc_ret ?_
  refine wk_then_ret ?_
  obtain rfl := some_e h4
  exact wk_ret (r_1 Tryd.results20 (rv_ca (i := 1) Tryd.isAgg35 Tryd.sizeOf35 rfl rfl rfl)) (sS (sS (sC (sC (sC sN))))) ⟨rfl, rfl⟩
 ·have h5 := cnd_f c3 h
  refine wc_skip ?_
  refine wk_x ?_
  refine wc_sr ?_
  refine wm rfl ?_
  refine wv (o_nilcheck rfl) ?_
  refine wv (o_fieldAddr Tryd.underlying48 rfl Tryd.sizeOf46 rfl rfl) ?_
  refine wv (o_load (i := 2) Tryd.isAgg46 rfl rfl rfl) ?_
  refine wm rfl ?_
  refine wv (r := rAgg [rS ((mval q.fItems key (TApiItem.mk ([] : Str) ([] : (List TApiCell)) 0)).fKey), rSl 4 (List.map eTApiCell ((mval q.fItems key (TApiItem.mk ([] : Str) ([] : (List TApiCell)) 0)).fValue)), rI .i64 ((mval q.fItems key (TApiItem.mk ([] : Str) ([] : (List TApiCell)) 0)).fVersion)]) (o_mget (enc := m_TApiItem) (xs := q.fItems) (z := TApiItem.mk ([] : Str) ([] : (List TApiCell)) 0) (i := 3) Tryd.underlying46 Tryd.underlying9 Tryd.zeroValue35 m_TApiItem_z rfl rfl rfl) ?_
  refine u_store_agg (i := 1) Tryd.sizeOf35 rfl rfl rfl (OneAll.c rfl) rfl rfl (cs' := [rS ((mval q.fItems key (TApiItem.mk ([] : Str) ([] : (List TApiCell)) 0)).fKey), rSl 4 (List.map eTApiCell ((mval q.fItems key (TApiItem.mk ([] : Str) ([] : (List TApiCell)) 0)).fValue)), rI .i64 ((mval q.fItems key (TApiItem.mk ([] : Str) ([] : (List TApiCell)) 0)).fVersion)]) rfl (H' := [.blk b2 [rS ((mval q.fChanged key (TApiItem.mk ([] : Str) ([] : (List TApiCell)) 0)).fKey), rSl 4 (List.map eTApiCell ((mval q.fChanged key (TApiItem.mk ([] : Str) ([] : (List TApiCell)) 0)).fValue)), rI .i64 ((mval q.fChanged key (TApiItem.mk ([] : Str) ([] : (List TApiCell)) 0)).fVersion)] 35, .blk b1 [rS ((mval q.fItems key (TApiItem.mk ([] : Str) ([] : (List TApiCell)) 0)).fKey), rSl 4 (List.map eTApiCell ((mval q.fItems key (TApiItem.mk ([] : Str) ([] : (List TApiCell)) 0)).fValue)), rI .i64 ((mval q.fItems key (TApiItem.mk ([] : Str) ([] : (List TApiCell)) 0)).fVersion)] 35, .blk b_q [rv (.map (some v_q_0)), rv (.map (some v_q_1))] 48, .map v_q_0 (menc m_TApiItem q.fItems), .map v_q_1 (menc m_TApiItem q.fChanged)]) rfl ?_
  refine wl_x ?_
  refine wc_ret ?_
  obtain rfl := some_e h5
  exact wk_ret (r_1 Tryd.results20 (rv_ca (i := 1) Tryd.isAgg35 Tryd.sizeOf35 rfl rfl rfl)) (sS (sS (sC (sC (sC sN))))) ⟨rfl, rfl⟩

theorem kChange_w (b_q : Nat) (v_q_0 : Nat) (v_q_1 : Nat) (q : TKvStore) (c : TApiChange) (size : Int) (r : Int × Int × TKvStore) (h : kChange q c size = some r) : Fn Tryd.prog GE 15 [rv (.pointer (some ⟨b_q, 0, none⟩)), rAgg (eTApiChange c), rI .i64 size] [.blk b_q [rv (.map (some v_q_0)), rv (.map (some v_q_1))] 48, .map v_q_0 (menc m_TApiItem q.fItems), .map v_q_1 (menc m_TApiItem q.fChanged)] (fun R H => R = rTup [rI .i64 r.1, rI .i64 r.2.1] ∧ H = [.blk b_q [rv (.map (some v_q_0)), rv (.map (some v_q_1))] 48, .map v_q_0 (menc m_TApiItem r.2.2.fItems), .map v_q_1 (menc m_TApiItem r.2.2.fChanged)]) := by
 refine enter (n := 74) Tryd.func15 rfl Tryd.ntmps15 rfl (fun w Z => ?_)
 refine wc_as (l' := [(0, rv (.pointer (some ⟨b_q, 0, none⟩))), (1, rAgg (eTApiChange c)), (2, rI .i64 size)]) (H' := [.blk b_q [rv (.map (some v_q_0)), rv (.map (some v_q_1))] 48, .map v_q_0 (menc m_TApiItem q.fItems), .map v_q_1 (menc m_TApiItem q.fChanged)]) rfl rfl ?_
 unfold kChange at h
 refine wc_sr ?_
 refine w_box_agg rfl rfl (fun b1 => ?_)
 refine wv (r := rI .i64 0) (o_assign rfl) ?_
 refine wv (r := rI .i64 0) (o_assign rfl) ?_
 refine wl_y ?_
 refine wm rfl ?_
 refine wv (o_fieldAddr Tryd.underlying25 rfl Tryd.sizeOf9 rfl rfl) ?_
 refine wv (o_load (i := 0) Tryd.isAgg9 rfl rfl rfl) ?_
 obtain ⟨r2, e4, h3⟩ := obn_e h
 refine wcl (Hr := [.blk b1 (eTApiChange c) 25]) Tryd.call20 (kNow_w b_q v_q_0 v_q_1 q c.fKey r2 e4) rfl ((perm_front (i := 1) rfl).trans (List.Perm.cons _ ((perm_front (i := 1) rfl).trans (List.Perm.cons _ ((perm_front (i := 1) rfl).trans (List.Perm.cons _ (List.Perm.refl _))))))) rfl ?_
 rintro _ _ ⟨rfl, rfl⟩
 refine w_alloc (cs := [rS ([] : Str), rv (.slice none 0 0), rI .i64 0]) Tryd.zeroValue35 rfl rfl (fun b5 => ?_)
 refine u_store_agg (i := 0) Tryd.sizeOf35 rfl rfl rfl (OneAll.c rfl) rfl rfl (cs' := [rS r2.1.fKey, rSl 4 (List.map eTApiCell r2.1.fValue), rI .i64 r2.1.fVersion]) rfl (H' := [.blk b5 (eTApiItem r2.1) 35, .blk b_q [rv (.map (some v_q_0)), rv (.map (some v_q_1))] 48, .map v_q_0 (menc m_TApiItem r2.2.fItems), .map v_q_1 (menc m_TApiItem r2.2.fChanged), .blk b1 (eTApiChange c) 25]) rfl ?_
 refine wl_x ?_
 refine wc_seq_cut (S := (Int) × (Unit)) (fun σ => kChange_j1 c r2 σ.1 = some r) (fun σ => [(0, rv (.pointer (some ⟨b_q, 0, none⟩))), (2, rI .i64 σ.1), (4, rv (.pointer (some ⟨b1, 0, none⟩))), (8, rv (.pointer (some ⟨b5, 0, none⟩)))]) (fun σ => [.blk b5 (eTApiItem r2.1) 35, .blk b_q [rv (.map (some v_q_0)), rv (.map (some v_q_1))] 48, .map v_q_0 (menc m_TApiItem r2.2.fItems), .map v_q_1 (menc m_TApiItem r2.2.fChanged), .blk b1 (eTApiChange c) 25]) ?_ ?_
 ·refine wc_block ?_
  refine wc_seq_mid [(0, rv (.pointer (some ⟨b_q, 0, none⟩))), (2, rI .i64 size), (4, rv (.pointer (some ⟨b1, 0, none⟩))), (8, rv (.pointer (some ⟨b5, 0, none⟩))), (13, rB ((decide (0 ≤ c.fIfVersion)) && (!decide (c.fIfVersion = r2.1.fVersion))))] [.blk b5 (eTApiItem r2.1) 35, .blk b_q [rv (.map (some v_q_0)), rv (.map (some v_q_1))] 48, .map v_q_0 (menc m_TApiItem r2.2.fItems), .map v_q_1 (menc m_TApiItem r2.2.fChanged), .blk b1 (eTApiChange c) 25] ?_ ?_
  ·refine wc_region ?_
   refine wv (o_fieldAddr Tryd.underlying25 rfl Tryd.sizeOf3 rfl rfl) ?_
   refine wv (o_load (i := 4) Tryd.isAgg3 rfl rfl rfl) ?_
   refine wv (o_ge rfl rfl) ?_
   refine wm rfl ?_
   refine bsplit (decide (0 ≤ c.fIfVersion)) (fun c31 => ?_) (fun c31 => ?_)
   ·refine wo c31 ?_
    refine wv (o_fieldAddr Tryd.underlying25 rfl Tryd.sizeOf3 rfl rfl) ?_
    refine wo c31 ?_
    refine wv (o_load (i := 4) Tryd.isAgg3 rfl rfl rfl) ?_
    refine wo c31 ?_
    refine wv (o_fieldAddr Tryd.underlying35 rfl Tryd.sizeOf3 rfl rfl) ?_
    refine wo c31 ?_
    refine wv (o_load (i := 0) Tryd.isAgg3 rfl rfl rfl) ?_
    refine wo c31 ?_
    refine wv (o_ne rfl rfl) ?_
    refine wpt rfl c31 rfl ?_
    refine wa rfl ?_
    refine wl_nil ?_
    exact wtc c31
   ·refine wf c31 ?_
    refine wf c31 ?_
    refine wf c31 ?_
    refine wf c31 ?_
    refine wf c31 ?_
    refine wv (r := rB false) (o_pick_f (b := decide (0 ≤ c.fIfVersion)) rfl c31 rfl) ?_
    refine wa rfl ?_
    refine wl_nil ?_
    exact wtc c31
  refine wc_cond (b := ((decide (0 ≤ c.fIfVersion)) && (!decide (c.fIfVersion = r2.1.fVersion)))) rfl (fun c32 => ?_) (fun c32 => ?_)
  ·have h33 := cnd_t c32 h3
   refine wc_sr ?_
   refine wv (r := rI .i64 0) (o_assign rfl) ?_
   refine wv (r := rI .i64 19) (o_assign rfl) ?_
   refine wl_x ?_
   refine wc_ret ?_
   refine wk_in_ret ?_
   refine wk_then_ret ?_
   obtain rfl := some_e h33
   exact wk_ret (r_2 Tryd.results15 (rv_t rfl) (rv_t rfl)) (sS (sC (sC (sC (sS sN))))) ⟨rfl, rfl⟩
  ·have h34 := cnd_f c32 h3
   refine wc_sr ?_
   refine wv (o_fieldAddr Tryd.underlying25 rfl Tryd.sizeOf4 rfl rfl) ?_
   refine wv (o_load (i := 4) Tryd.isAgg4 rfl rfl rfl) ?_
   refine wa rfl ?_
   refine wl_x ?_
   refine wc_cond (b := c.fDelete) rfl (fun c35 => ?_) (fun c35 => ?_)
   ·have h36 := cnd_t c35 h34
    refine wc_seq ?_
    refine wc_sr ?_
    refine wv (o_fieldAddr Tryd.underlying35 rfl Tryd.sizeOf3 rfl rfl) ?_
    refine wv (o_load (i := 0) Tryd.isAgg3 rfl rfl rfl) ?_
    refine wv (o_gt rfl rfl) ?_
    refine wl_x ?_
    refine wc_cond (b := decide (0 < r2.1.fVersion)) rfl (fun c37 => ?_) (fun c37 => ?_)
    ·have h38 := cnd_t c37 h36
     refine wc_region ?_
     refine wm rfl ?_
     obtain ⟨g39, h40⟩ := chk_e h38
     refine wv (o_sub rfl rfl g39) ?_
     refine wa rfl ?_
     refine wl_x ?_
     refine wc_seq ?_
     refine wc_rdak 7 [0, 2, 4] [⟨[], rv (.pointer (some ⟨b_q, 0, none⟩)), none, none, none⟩, ⟨[0], rv (.pointer (some ⟨b_q, 0, none⟩)), none, none, none⟩, ⟨[1], rv (.pointer (some ⟨b_q, 1, none⟩)), none, none, none⟩, ⟨[2], rv (.map (some v_q_1)), none, none, none⟩, ⟨[], rv (.pointer (some ⟨b1, 0, none⟩)), none, none, none⟩, ⟨[4], rS c.fKey, none, none, none⟩, ⟨[], rAgg [rS ([] : Str), rv (.slice none 0 0), rI .i64 0], none, none, none⟩] ?_ (fun β => ?_)
     ·refine oaq (o_move rfl) ?_
      refine oaq (o_nilcheck rfl) ?_
      refine oaq (o_fieldAddr Tryd.underlying48 rfl Tryd.sizeOf46 rfl rfl) ?_
      refine oaf (o_load (i := 1) Tryd.isAgg46 rfl rfl rfl) ?_
      refine oaq (o_fieldAddr Tryd.underlying25 rfl Tryd.sizeOf9 rfl rfl) ?_
      refine oaf (o_load (i := 4) Tryd.isAgg9 rfl rfl rfl) ?_
      refine oaq (o_build35_ ) ?_
      exact oae
     refine wl_kza (H1 := [.blk b5 (eTApiItem r2.1) 35, .blk b_q [rv (.map (some v_q_0)), rv (.map (some v_q_1))] 48, .map v_q_0 (menc m_TApiItem r2.2.fItems), .map v_q_1 (menc m_TApiItem r2.2.fChanged), .blk b1 (eTApiChange c) 25]) [32, 33, 34, 35, 36, 37, 38, 0, 2, 4] ?_
     refine WL.up (d := 38) (r := rAgg [rS ([] : Str), rSl 4 (List.map eTApiCell ([] : List TApiCell)), rI .i64 0]) rfl (Up.agg ⟨Up.refl _, Up.le (Rle.nil _), Up.refl _, trivial⟩) ?_
     refine u_msete (enc := m_TApiItem) (xs := r2.2.fChanged) (v := (TApiItem.mk ([] : Str) ([] : List TApiCell) 0)) (i := 3) Tryd.underlying46 Tryd.underlying9 rfl rfl rfl rfl (H' := [.blk b5 (eTApiItem r2.1) 35, .blk b_q [rv (.map (some v_q_0)), rv (.map (some v_q_1))] 48, .map v_q_0 (menc m_TApiItem r2.2.fItems), .map v_q_1 (menc m_TApiItem (mset r2.2.fChanged c.fKey (TApiItem.mk ([] : Str) ([] : List TApiCell) 0))), .blk b1 (eTApiChange c) 25]) rfl ?_
     refine wl_y ?_
     refine wm rfl ?_
     refine wa rfl ?_
     refine wv (r := rI .i64 0) (o_assign rfl) ?_
     refine wl_x ?_
     refine wc_ret ?_
     refine wk_in_ret ?_
     refine wk_then_ret ?_
     obtain rfl := some_e h40
     exact wk_ret (r_2 Tryd.results15 (rv_t rfl) (rv_t rfl)) (sS (sC (sC (sC (sS sN))))) ⟨rfl, rfl⟩
    ·have h41 := cnd_f c37 h36
     refine wc_skip ?_
     refine wk_x ?_
     refine wc_seq ?_
     refine wc_rdak 7 [0, 2, 4] [⟨[], rv (.pointer (some ⟨b_q, 0, none⟩)), none, none, none⟩, ⟨[0], rv (.pointer (some ⟨b_q, 0, none⟩)), none, none, none⟩, ⟨[1], rv (.pointer (some ⟨b_q, 1, none⟩)), none, none, none⟩, ⟨[2], rv (.map (some v_q_1)), none, none, none⟩, ⟨[], rv (.pointer (some ⟨b1, 0, none⟩)), none, none, none⟩, ⟨[4], rS c.fKey, none, none, none⟩, ⟨[], rAgg [rS ([] : Str), rv (.slice none 0 0), rI .i64 0], none, none, none⟩] ?_ (fun β => ?_)
     ·refine oaq (o_move rfl) ?_
      refine oaq (o_nilcheck rfl) ?_
      refine oaq (o_fieldAddr Tryd.underlying48 rfl Tryd.sizeOf46 rfl rfl) ?_
      refine oaf (o_load (i := 1) Tryd.isAgg46 rfl rfl rfl) ?_
      refine oaq (o_fieldAddr Tryd.underlying25 rfl Tryd.sizeOf9 rfl rfl) ?_
      refine oaf (o_load (i := 4) Tryd.isAgg9 rfl rfl rfl) ?_
      refine oaq (o_build35_ ) ?_
      exact oae
     refine wl_kza (H1 := [.blk b5 (eTApiItem r2.1) 35, .blk b_q [rv (.map (some v_q_0)), rv (.map (some v_q_1))] 48, .map v_q_0 (menc m_TApiItem r2.2.fItems), .map v_q_1 (menc m_TApiItem r2.2.fChanged), .blk b1 (eTApiChange c) 25]) [32, 33, 34, 35, 36, 37, 38, 0, 2, 4] ?_
     refine WL.up (d := 38) (r := rAgg [rS ([] : Str), rSl 4 (List.map eTApiCell ([] : List TApiCell)), rI .i64 0]) rfl (Up.agg ⟨Up.refl _, Up.le (Rle.nil _), Up.refl _, trivial⟩) ?_
     refine u_msete (enc := m_TApiItem) (xs := r2.2.fChanged) (v := (TApiItem.mk ([] : Str) ([] : List TApiCell) 0)) (i := 3) Tryd.underlying46 Tryd.underlying9 rfl rfl rfl rfl (H' := [.blk b5 (eTApiItem r2.1) 35, .blk b_q [rv (.map (some v_q_0)), rv (.map (some v_q_1))] 48, .map v_q_0 (menc m_TApiItem r2.2.fItems), .map v_q_1 (menc m_TApiItem (mset r2.2.fChanged c.fKey (TApiItem.mk ([] : Str) ([] : List TApiCell) 0))), .blk b1 (eTApiChange c) 25]) rfl ?_
     refine wl_y ?_
     refine wm rfl ?_
     refine wa rfl ?_
     refine wv (r := rI .i64 0) (o_assign rfl) ?_
     refine wl_x ?_
     refine wc_ret ?_
     refine wk_in_ret ?_
     refine wk_then_ret ?_
     obtain rfl := some_e h41
     exact wk_ret (r_2 Tryd.results15 (rv_t rfl) (rv_t rfl)) (sS (sC (sC (sC (sS sN))))) ⟨rfl, rfl⟩
   ·have h42 := cnd_f c35 h34
    refine wc_seq_mid [(0, rv (.pointer (some ⟨b_q, 0, none⟩))), (2, rI .i64 size), (4, rv (.pointer (some ⟨b1, 0, none⟩))), (8, rv (.pointer (some ⟨b5, 0, none⟩))), (40, rB ((decide (r2.1.fVersion = 0)) && (decide (256 ≤ size))))] [.blk b5 (eTApiItem r2.1) 35, .blk b_q [rv (.map (some v_q_0)), rv (.map (some v_q_1))] 48, .map v_q_0 (menc m_TApiItem r2.2.fItems), .map v_q_1 (menc m_TApiItem r2.2.fChanged), .blk b1 (eTApiChange c) 25] ?_ ?_
    ·refine wc_region ?_
     refine wv (o_fieldAddr Tryd.underlying35 rfl Tryd.sizeOf3 rfl rfl) ?_
     refine wv (o_load (i := 0) Tryd.isAgg3 rfl rfl rfl) ?_
     refine wv (o_eq rfl rfl) ?_
     refine wm rfl ?_
     refine bsplit (decide (r2.1.fVersion = 0)) (fun c43 => ?_) (fun c43 => ?_)
     ·refine wo c43 ?_
      refine wm rfl ?_
      refine wo c43 ?_
      refine wv (o_ge rfl rfl) ?_
      refine wpt rfl c43 rfl ?_
      refine wa rfl ?_
      refine wl_nil ?_
      exact wtc c43
     ·refine wf c43 ?_
      refine wf c43 ?_
      refine wv (r := rB false) (o_pick_f (b := decide (r2.1.fVersion = 0)) rfl c43 rfl) ?_
      refine wa rfl ?_
      refine wl_nil ?_
      exact wtc c43
    refine wc_cond (b := ((decide (r2.1.fVersion = 0)) && (decide (256 ≤ size)))) rfl (fun c44 => ?_) (fun c44 => ?_)
    ·have h45 := cnd_t c44 h42
     refine wc_sr ?_
     refine wv (r := rI .i64 0) (o_assign rfl) ?_
     refine wv (r := rI .i64 3) (o_assign rfl) ?_
     refine wl_x ?_
     refine wc_ret ?_
     refine wk_in_ret ?_
     refine wk_then_ret ?_
     obtain rfl := some_e h45
     exact wk_ret (r_2 Tryd.results15 (rv_t rfl) (rv_t rfl)) (sS (sC (sC (sC (sS sN))))) ⟨rfl, rfl⟩
    ·have h46 := cnd_f c44 h42
     refine wc_sr ?_
     refine wv (o_fieldAddr Tryd.underlying35 rfl Tryd.sizeOf3 rfl rfl) ?_
     refine wv (o_load (i := 0) Tryd.isAgg3 rfl rfl rfl) ?_
     refine wv (o_ge rfl rfl) ?_
     refine wa rfl ?_
     refine wl_x ?_
     refine wc_cond (b := decide (1000000000000 ≤ r2.1.fVersion)) rfl (fun c47 => ?_) (fun c47 => ?_)
     ·have h48 := cnd_t c47 h46
      refine wc_sr ?_
      refine wv (r := rI .i64 0) (o_assign rfl) ?_
      refine wv (r := rI .i64 8) (o_assign rfl) ?_
      refine wl_x ?_
      refine wc_ret ?_
      refine wk_in_ret ?_
      refine wk_then_ret ?_
      obtain rfl := some_e h48
      exact wk_ret (r_2 Tryd.results15 (rv_t rfl) (rv_t rfl)) (sS (sC (sC (sC (sS sN))))) ⟨rfl, rfl⟩
     ·have h49 := cnd_f c47 h46
      refine wc_sr ?_
      refine wv (o_fieldAddr Tryd.underlying35 rfl Tryd.sizeOf3 rfl rfl) ?_
      refine wv (o_load (i := 0) Tryd.isAgg3 rfl rfl rfl) ?_
      refine wv (o_eq rfl rfl) ?_
      refine wa rfl ?_
      refine wl_x ?_
      refine wc_cond (b := decide (r2.1.fVersion = 0)) rfl (fun c50 => ?_) (fun c50 => ?_)
      ·have h51 := cnd_t c50 h49
       refine wc_region ?_
       refine wm rfl ?_
       obtain ⟨g52, h53⟩ := chk_e h51
       refine wv (o_add rfl rfl g52) ?_
       refine wa rfl ?_
       refine wl_nil ?_
       refine wk_in_norm ?_
       exact wk_then (wk_some (size + 1, ()) h53 (Sub.c rfl (Sub.c rfl (Sub.c rfl (Sub.c rfl Sub.nil)))) (sC (sC (sC (sC (sC sN))))))
      ·have h54 := cnd_f c50 h49
       refine wc_skip ?_
       refine wk_in_norm ?_
       exact wk_then (wk_some (size, ()) h54 (Sub.c rfl (Sub.c rfl (Sub.c rfl (Sub.c rfl Sub.nil)))) (sC (sC (sC (sC (sC sN))))))
 ·rintro ⟨x30, ⟨⟩⟩ h55
  refine wc_as (l' := [(0, rv (.pointer (some ⟨b_q, 0, none⟩))), (2, rI .i64 x30), (4, rv (.pointer (some ⟨b1, 0, none⟩))), (8, rv (.pointer (some ⟨b5, 0, none⟩)))]) (H' := [.blk b5 (eTApiItem r2.1) 35, .blk b_q [rv (.map (some v_q_0)), rv (.map (some v_q_1))] 48, .map v_q_0 (menc m_TApiItem r2.2.fItems), .map v_q_1 (menc m_TApiItem r2.2.fChanged), .blk b1 (eTApiChange c) 25]) rfl rfl ?_
  replace h55 : kChange_j1 c r2 x30 = some r := h55
  unfold kChange_j1 at h55
  refine wc_seq ?_
  obtain ⟨r56, e58, h57⟩ := obn_e h55
  obtain ⟨g59, h60⟩ := chk_e h57
  refine wc_rdak 15 [0, 2, 4, 8] [⟨[], rv (.pointer (some ⟨b_q, 0, none⟩)), none, none, none⟩, ⟨[0], rv (.pointer (some ⟨b_q, 0, none⟩)), none, none, none⟩, ⟨[1], rv (.pointer (some ⟨b_q, 1, none⟩)), none, none, none⟩, ⟨[2], rv (.map (some v_q_1)), none, none, none⟩, ⟨[], rv (.pointer (some ⟨b1, 0, none⟩)), none, none, none⟩, ⟨[4], rS c.fKey, none, none, none⟩, ⟨[], rv (.pointer (some ⟨b1, 0, none⟩)), none, none, none⟩, ⟨[6], rS c.fKey, none, none, none⟩, ⟨[], rv (.pointer (some ⟨b1, 2, none⟩)), none, none, none⟩, ⟨[8], rSl 4 (List.map eTApiCell c.fValue), none, none, none⟩, ⟨[9], rSl 4 (List.map eTApiCell r56), none, none, none⟩, ⟨[], rv (.pointer (some ⟨b5, 2, none⟩)), none, none, none⟩, ⟨[11], rI .i64 r2.1.fVersion, none, none, none⟩, ⟨[12], rI .i64 (r2.1.fVersion + 1), none, none, none⟩, ⟨[7, 10, 13], rAgg [rS c.fKey, rSl 4 (List.map eTApiCell r56), rI .i64 (r2.1.fVersion + 1)], none, none, none⟩] ?_ (fun β => ?_)
  ·refine oaq (o_move rfl) ?_
   refine oaq (o_nilcheck rfl) ?_
   refine oaq (o_fieldAddr Tryd.underlying48 rfl Tryd.sizeOf46 rfl rfl) ?_
   refine oaf (o_load (i := 1) Tryd.isAgg46 rfl rfl rfl) ?_
   refine oaq (o_fieldAddr Tryd.underlying25 rfl Tryd.sizeOf9 rfl rfl) ?_
   refine oaf (o_load (i := 4) Tryd.isAgg9 rfl rfl rfl) ?_
   refine oaq (o_fieldAddr Tryd.underlying25 rfl Tryd.sizeOf9 rfl rfl) ?_
   refine oaf (o_load (i := 4) Tryd.isAgg9 rfl rfl rfl) ?_
   refine oaq (o_fieldAddr Tryd.underlying25 rfl Tryd.sizeOf23 rfl rfl) ?_
   refine oaf (o_load (i := 4) Tryd.isAgg23 rfl rfl rfl) ?_
   refine oac (ok_c0 Tryd.call21 (cloneN_w c.fValue r56 e58) rfl) ?_
   refine oaq (o_fieldAddr Tryd.underlying35 rfl Tryd.sizeOf3 rfl rfl) ?_
   refine oaf (o_load (i := 0) Tryd.isAgg3 rfl rfl rfl) ?_
   refine oaq (o_add rfl rfl g59) ?_
   refine oaq (o_build35_0_1_2 rfl rfl rfl rfl rfl rfl) ?_
   exact oae
  refine wl_kza (H1 := [.blk b5 (eTApiItem r2.1) 35, .blk b_q [rv (.map (some v_q_0)), rv (.map (some v_q_1))] 48, .map v_q_0 (menc m_TApiItem r2.2.fItems), .map v_q_1 (menc m_TApiItem r2.2.fChanged), .blk b1 (eTApiChange c) 25]) [58, 59, 60, 61, 62, 63, 64, 65, 66, 67, 68, 69, 70, 71, 72, 0, 2, 4, 8] ?_
  refine u_msete (enc := m_TApiItem) (xs := r2.2.fChanged) (v := (TApiItem.mk c.fKey r56 (r2.1.fVersion + 1))) (i := 3) Tryd.underlying46 Tryd.underlying9 rfl rfl rfl rfl (H' := [.blk b5 (eTApiItem r2.1) 35, .blk b_q [rv (.map (some v_q_0)), rv (.map (some v_q_1))] 48, .map v_q_0 (menc m_TApiItem r2.2.fItems), .map v_q_1 (menc m_TApiItem (mset r2.2.fChanged c.fKey (TApiItem.mk c.fKey r56 (r2.1.fVersion + 1)))), .blk b1 (eTApiChange c) 25]) rfl ?_
  refine wl_y ?_
  refine wm rfl ?_
  refine wa rfl ?_
  refine wv (r := rI .i64 0) (o_assign rfl) ?_
  refine wl_x ?_
  refine wc_ret ?_
  obtain rfl := some_e h60
  exact wk_ret (r_2 Tryd.results15 (rv_t rfl) (rv_t rfl)) (sS (sC (sC (sC (sS sN))))) ⟨rfl, rfl⟩

theorem kApply_w (F : Nat) (b_q : Nat) (v_q_0 : Nat) (v_q_1 : Nat) (q : TKvStore) (l : (List TApiChange)) (r : Int × TKvStore) (h : kApply F q l = some r) : Fn Tryd.prog GE 8 [rv (.pointer (some ⟨b_q, 0, none⟩)), rSl 4 (List.map eTApiChange l)] [.blk b_q [rv (.map (some v_q_0)), rv (.map (some v_q_1))] 48, .map v_q_0 (menc m_TApiItem q.fItems), .map v_q_1 (menc m_TApiItem q.fChanged)] (fun R H => R = rI .i64 r.1 ∧ H = [.blk b_q [rv (.map (some v_q_0)), rv (.map (some v_q_1))] 48, .map v_q_0 (menc m_TApiItem r.2.fItems), .map v_q_1 (menc m_TApiItem r.2.fChanged)]) := by
 refine enter (n := 72) Tryd.func8 rfl Tryd.ntmps8 rfl (fun w Z => ?_)
 refine wc_as (l' := [(0, rv (.pointer (some ⟨b_q, 0, none⟩))), (1, rSl 4 (List.map eTApiChange l))]) (H' := [.blk b_q [rv (.map (some v_q_0)), rv (.map (some v_q_1))] 48, .map v_q_0 (menc m_TApiItem q.fItems), .map v_q_1 (menc m_TApiItem q.fChanged)]) rfl rfl ?_
 unfold kApply at h
 refine wc_sr ?_
 refine wv (r := rI .i64 0) (o_assign rfl) ?_
 refine wl_x ?_
 refine wc_seq ?_
 refine wc_sr ?_
 refine wm rfl ?_
 obtain ⟨r1, e3, h2⟩ := obn_e h
 refine wcl (Hr := []) Tryd.call13 (kMade_w b_q v_q_0 v_q_1 q r1 e3) rfl (List.Perm.refl _) rfl ?_
 rintro _ _ ⟨rfl, rfl⟩
 refine wv (o_not rfl) ?_
 refine wl_x ?_
 refine wc_cond (b := !r1.1) rfl (fun c4 => ?_) (fun c4 => ?_)
 ·have h5 := cnd_t c4 h2
  refine wc_sr ?_
  refine wv (r := rI .i64 10) (o_assign rfl) ?_
  refine wl_x ?_
  refine wc_ret ?_
  refine wk_then_ret ?_
  obtain rfl := some_e h5
  exact wk_ret (r_1 Tryd.results8 (rv_t rfl)) (sC (sC (sC sN))) ⟨rfl, rfl⟩
 ·have h6 := cnd_f c4 h2
  refine wc_skip ?_
  refine wk_x ?_
  refine wc_seq ?_
  refine wc_sr ?_
  refine wm rfl ?_
  obtain ⟨r7, e9, h8⟩ := obn_e h6
  refine wc0 Tryd.call14 (kValid_w F l r7 e9) rfl ?_
  refine wa rfl ?_
  refine wl_y ?_
  refine wm rfl ?_
  refine wv (o_ne rfl rfl) ?_
  refine wl_x ?_
  refine wc_cond (b := !decide (r7 = 0)) rfl (fun c10 => ?_) (fun c10 => ?_)
  ·have h11 := cnd_t c10 h8
   refine wc_sr ?_
   refine wm rfl ?_
   refine wa rfl ?_
   refine wl_x ?_
   refine wc_ret ?_
   refine wk_then_ret ?_
   obtain rfl := some_e h11
   exact wk_ret (r_1 Tryd.results8 (rv_t rfl)) (sC (sC (sC sN))) ⟨rfl, rfl⟩
  ·have h12 := cnd_f c10 h8
   refine wc_skip ?_
   refine wk_x ?_
   refine wc_sr ?_
   refine wm rfl ?_
   refine wv (o_nilcheck rfl) ?_
   refine wv (o_fieldAddr Tryd.underlying48 rfl Tryd.sizeOf46 rfl rfl) ?_
   refine wv (o_load (i := 0) Tryd.isAgg46 rfl rfl rfl) ?_
   refine u_mclear (i := 2) Tryd.underlying46 rfl rfl (H' := [.blk b_q [rv (.map (some v_q_0)), rv (.map (some v_q_1))] 48, .map v_q_0 (menc m_TApiItem r1.2.fItems), .map v_q_1 (menc m_TApiItem ([] : List (Str × TApiItem)))]) rfl ?_
   refine wl_y ?_
   refine wm rfl ?_
   refine wv (o_nilcheck rfl) ?_
   refine wv (o_fieldAddr Tryd.underlying48 rfl Tryd.sizeOf46 rfl rfl) ?_
   refine wv (o_load (i := 0) Tryd.isAgg46 rfl rfl rfl) ?_
   refine wv (r := rI .i64 (r1.2.fItems.length : Int)) (o_mlen (N := r1.2.fItems.length) (i := 1) Tryd.underlying46 rfl rfl (menc_length _ _)) ?_
   refine wa rfl ?_
   refine wl_x ?_
   refine wc_seq ?_
   refine wc_sr ?_
   refine wm rfl ?_
   refine wv (o_len_zt (ys := l) (enc := eTApiChange) Tryd.underlying28 rfl) ?_
   refine wv (r := rI .i64 0) (o_move rfl) ?_
   refine wl_x ?_
   refine wc_block ?_
   obtain ⟨o63, eo64, hK65⟩ := obn_e h12
   refine wc_loop2 (S := Nat × (Int × Int × (List (Str × TApiItem)) × (List (Str × TApiItem))) × (Unit)) (V := ((List (Str × TApiItem)) × (List (Str × TApiItem))) × (Unit)) 0 (fun σ => lop (fun σ => kApply_b1 l σ.1 σ.2.1 σ.2.2.1 σ.2.2.2) σ.1 σ.2.1 = some o63) (fun σ => [(0, rv (.pointer (some ⟨b_q, 0, none⟩))), (4, rI .i64 0), (6, rI .i64 σ.2.1.1), (30, rSl 4 (List.map eTApiChange l)), (31, rI .i64 (l.length : Int)), (32, rI .i64 σ.2.1.2.1)]) (fun σ => [.blk b_q [rv (.map (some v_q_0)), rv (.map (some v_q_1))] 48, .map v_q_0 (menc m_TApiItem σ.2.1.2.2.1), .map v_q_1 (menc m_TApiItem σ.2.1.2.2.2)]) (fun σ => σ.1) (F, ((r1.2.fItems.length : Int), 0, r1.2.fItems, ([] : List (Str × TApiItem))), ()) eo64 (Sub.c rfl (Sub.c5 rfl rfl rfl rfl rfl Sub.nil)) (sC (sC (sC sN))) (fun σ => kApply_k1 σ.1.1 σ.1.2 = some r) (fun σ => [(0, rv (.pointer (some ⟨b_q, 0, none⟩))), (4, rI .i64 0)]) (fun σ => [.blk b_q [rv (.map (some v_q_0)), rv (.map (some v_q_1))] 48, .map v_q_0 (menc m_TApiItem σ.1.1), .map v_q_1 (menc m_TApiItem σ.1.2)]) ?_ ?_
   ·rintro ⟨n71, ⟨x43, x44, x45, x46⟩, ⟨⟩⟩ hi69
    refine wc_as (l' := [(0, rv (.pointer (some ⟨b_q, 0, none⟩))), (4, rI .i64 0), (6, rI .i64 x43), (30, rSl 4 (List.map eTApiChange l)), (31, rI .i64 (l.length : Int)), (32, rI .i64 x44)]) (H' := [.blk b_q [rv (.map (some v_q_0)), rv (.map (some v_q_1))] 48, .map v_q_0 (menc m_TApiItem x45), .map v_q_1 (menc m_TApiItem x46)]) rfl rfl ?_
    obtain ⟨m68, rfl, t66, h70, ht67⟩ := lop_e hi69
    replace h70 : kApply_b1 l x43 x44 x45 x46 = some t66 := h70
    unfold kApply_b1 at h70
    refine wc_sr ?_
    refine wv (o_lt rfl rfl) ?_
    refine wl_x ?_
    refine wc_seq ?_
    refine wc_cond (b := decide (x44 < (l.length : Int))) rfl (fun c72 => ?_) (fun c72 => ?_)
    ·have h73 := cnd_t c72 h70
     refine wc_skip ?_
     refine wk_x ?_
     refine wc_seq ?_
     refine wc_block ?_
     refine wc_sr ?_
     obtain ⟨g74, h75⟩ := chk_e h73
     refine wv (o_ix_z (enc := eTApiChange) (ys := l) Tryd.underlying28 Tryd.sizeOf25 rfl rfl g74) ?_
     refine wv (o_load_za Tryd.isAgg25 Tryd.sizeOf25 rfl rfl rfl) ?_
     refine w_alloc (cs := [rS ([] : Str), rB false, rv (.slice none 0 0), rI .i64 0]) Tryd.zeroValue25 rfl rfl (fun b76 => ?_)
     refine u_store_agg (i := 0) Tryd.sizeOf25 rfl rfl rfl (OneAll.c rfl) rfl rfl (cs' := [rS ((at' l x44).fKey), rB ((at' l x44).fDelete), rSl 4 (List.map eTApiCell ((at' l x44).fValue)), rI .i64 ((at' l x44).fIfVersion)]) rfl (H' := [.blk b76 (eTApiChange (at' l x44)) 25, .blk b_q [rv (.map (some v_q_0)), rv (.map (some v_q_1))] 48, .map v_q_0 (menc m_TApiItem x45), .map v_q_1 (menc m_TApiItem x46)]) rfl ?_
     refine wl_y ?_
     refine wm rfl ?_
     refine wv (o_load_agg (i := 0) Tryd.isAgg25 Tryd.sizeOf25 rfl rfl rfl rfl) ?_
     refine wm rfl ?_
     obtain ⟨r77, e79, h78⟩ := obn_e h75
     refine wcl (Hr := [.blk b76 (eTApiChange (at' l x44)) 25]) Tryd.call15 (kChange_w b_q v_q_0 v_q_1 (TKvStore.mk x45 x46) (at' l x44) x43 r77 e79) rfl ((perm_front (i := 1) rfl).trans (List.Perm.cons _ ((perm_front (i := 1) rfl).trans (List.Perm.cons _ ((perm_front (i := 1) rfl).trans (List.Perm.cons _ (List.Perm.refl _))))))) rfl ?_
     rintro _ _ ⟨rfl, rfl⟩
     refine wm rfl ?_
     refine wv (o_extract rfl rfl) ?_
     refine wv (o_extract rfl rfl) ?_
     refine wa rfl ?_
     refine wa rfl ?_
     refine wl_x ?_
     refine wc_seq ?_
     refine wc_sr ?_
     refine wm rfl ?_
     refine wv (o_ne rfl rfl) ?_
     refine wl_x ?_
     refine wc_cond (b := !decide (r77.2.1 = 0)) rfl (fun c80 => ?_) (fun c80 => ?_)
     ·have h81 := cnd_t c80 h78
      refine wc_sr ?_
      refine wm rfl ?_
      refine wa rfl ?_
      refine wl_x ?_
      refine wc_ret ?_
      refine wk_then_ret ?_
      refine wk_in_ret ?_
      refine wk_then_ret ?_
      refine wk_then_ret ?_
      refine wk_cut_ret ?_
      have h82 := stp_ret h81 ht67 hK65
      refine wk_in_ret ?_
      refine wk_then_ret ?_
      obtain rfl := some_e h82
      exact wk_ret (r_1 Tryd.results8 (rv_t rfl)) (sC (sC (sC (sS sN)))) ⟨rfl, rfl⟩
     ·have h83 := cnd_f c80 h78
      refine wc_skip ?_
      refine wk_x ?_
      refine wc_region ?_
      refine wm rfl ?_
      refine wa rfl ?_
      refine wl_nil ?_
      refine wk_in_norm ?_
      refine wk_x ?_
      refine wc_region ?_
      obtain ⟨g84, h85⟩ := chk_e h83
      refine wv (o_add rfl rfl g84) ?_
      refine wm rfl ?_
      refine wl_nil ?_
      have h86 := stp_next h85 ht67
      exact wk_then (wk_some (m68, (r77.1, x44 + 1, r77.2.2.fItems, r77.2.2.fChanged), ()) ⟨h86, Nat.lt_succ_self _⟩ (Sub.c rfl (Sub.c5 rfl rfl rfl rfl rfl Sub.nil)) (sC (sC (sC (sS sN)))))
    ·have h87 := cnd_f c72 h70
     refine wc_exit ?_
     refine wk_then_exit ?_
     have h88 := stp_go h87 ht67 hK65
     exact wk_then_exit (wk_cut_hit (wk_some ((x45, x46), ()) h88 (Sub.c rfl (Sub.c rfl Sub.nil)) (sC (sC (sC sN)))))
   ·rintro ⟨⟨x61, x62⟩, ⟨⟩⟩ h89
    refine wk_as (l' := [(0, rv (.pointer (some ⟨b_q, 0, none⟩))), (4, rI .i64 0)]) (H' := [.blk b_q [rv (.map (some v_q_0)), rv (.map (some v_q_1))] 48, .map v_q_0 (menc m_TApiItem x61), .map v_q_1 (menc m_TApiItem x62)]) rfl rfl ?_
    replace h89 : kApply_k1 x61 x62 = some r := h89
    unfold kApply_k1 at h89
    refine wk_in_hit ?_
    refine wk_x ?_
    refine wc_seq ?_
    refine wc_sr ?_
    refine wm rfl ?_
    refine wv (o_nilcheck rfl) ?_
    refine wv (o_fieldAddr Tryd.underlying48 rfl Tryd.sizeOf46 rfl rfl) ?_
    refine wv (o_load (i := 0) Tryd.isAgg46 rfl rfl rfl) ?_
    refine w_range (i := 2) Tryd.underlying46 rfl rfl rfl (fun b90 => ?_)
    refine wl_x ?_
    refine wc_block ?_
    have h124 := mobn_e h89
    refine wc_loop2 (S := (List (Str × TApiItem)) × ((List (Str × TApiItem))) × (Unit)) (V := ((List (Str × TApiItem))) × (Unit)) 2 (fun σ => ∀ q : List (Str × TApiItem), q.Perm σ.1 → obn (lfe (fun p τ => kApply_b2 p.1 p.2 τ) q σ.2.1) (oute fun ν => kApply_k2 x62 ν) = some r) (fun σ => [(0, rv (.pointer (some ⟨b_q, 0, none⟩))), (52, rv (.pointer (some ⟨b90, 0, none⟩)))]) (fun σ => [.blk b_q [rv (.map (some v_q_0)), rv (.map (some v_q_1))] 48, .map v_q_0 (menc m_TApiItem σ.2.1), .mit v_q_1 b90 (menc m_TApiItem x62) (menc m_TApiItem σ.1) none]) (fun σ => σ.1.length) (x62, x61, ()) h124 (Sub.c rfl (Sub.c rfl Sub.nil)) (sC (sC (sC sN))) (fun σ => kApply_k2 x62 σ.1 = some r) (fun σ => [(0, rv (.pointer (some ⟨b_q, 0, none⟩))), (52, rv (.pointer (some ⟨b90, 0, none⟩)))]) (fun σ => [.blk b_q [rv (.map (some v_q_0)), rv (.map (some v_q_1))] 48, .map v_q_0 (menc m_TApiItem σ.1), .map v_q_1 (menc m_TApiItem x62)]) ?_ ?_
    ·rintro ⟨y101, x116, ⟨⟩⟩ h96
     refine wc_as (l' := [(0, rv (.pointer (some ⟨b_q, 0, none⟩))), (52, rv (.pointer (some ⟨b90, 0, none⟩)))]) (H' := [.blk b_q [rv (.map (some v_q_0)), rv (.map (some v_q_1))] 48, .map v_q_0 (menc m_TApiItem x116), .mit v_q_1 b90 (menc m_TApiItem x62) (menc m_TApiItem y101) none]) rfl rfl ?_
     refine wc_sr ?_
     refine w_next (enc := m_TApiItem) (ys := y101) (i := 2) rfl rfl rfl (fun hy => ?_) (fun p y102 h95 => ?_)
     ·have h125 : kApply_k2 x62 x116 = some r := lfe_nil h96 hy
      refine wv (o_extract rfl rfl) ?_
      refine wl_x ?_
      refine wc_seq ?_
      refine wc_cond_f rfl rfl ?_
      refine wc_exit ?_
      refine wk_then_exit ?_
      refine WK.unmit (i := 2) rfl ?_
      exact wk_then_exit (wk_cut_hit (wk_some (x116, ()) h125 (Sub.c rfl (Sub.c rfl Sub.nil)) (sC (sC (sC sN)))))
     ·obtain ⟨x100, x99⟩ := p
      obtain ⟨t97, h126, h98⟩ := lfe_e h96 h95
      replace h126 : kApply_b2 x100 x99 x116 = some t97 := h126
      unfold kApply_b2 at h126
      refine wl_asH (H' := [.blk b_q [rv (.map (some v_q_0)), rv (.map (some v_q_1))] 48, .map v_q_0 (menc m_TApiItem x116), .mit v_q_1 b90 (menc m_TApiItem x62) (menc m_TApiItem y102) (some (x100, m_TApiItem x99))]) rfl ?_
      refine wv (o_extract rfl rfl) ?_
      refine wl_x ?_
      refine wc_seq ?_
      refine wc_cond_t rfl rfl ?_
      refine wc_skip ?_
      refine wk_x ?_
      refine wc_block ?_
      refine wc_sr ?_
      refine wv (r := rTup [rS x100, rAgg (eTApiItem x99)]) (o_entry (i := 2) rfl rfl) ?_
      refine wv (o_extract rfl rfl) ?_
      refine wv (o_extract rfl rfl) ?_
      refine w_alloc (cs := [rS ([] : Str), rv (.slice none 0 0), rI .i64 0]) Tryd.zeroValue35 rfl rfl (fun b127 => ?_)
      refine wa rfl ?_
      refine u_store_agg (i := 0) Tryd.sizeOf35 rfl rfl rfl (OneAll.c rfl) rfl rfl (cs' := [rS x99.fKey, rSl 4 (List.map eTApiCell x99.fValue), rI .i64 x99.fVersion]) rfl (H' := [.blk b127 (eTApiItem x99) 35, .blk b_q [rv (.map (some v_q_0)), rv (.map (some v_q_1))] 48, .map v_q_0 (menc m_TApiItem x116), .mit v_q_1 b90 (menc m_TApiItem x62) (menc m_TApiItem y102) (some (x100, m_TApiItem x99))]) rfl ?_
      refine wl_x ?_
      refine wc_seq ?_
      refine wc_sr ?_
      refine wv (o_fieldAddr Tryd.underlying35 rfl Tryd.sizeOf3 rfl rfl) ?_
      refine wv (o_load (i := 0) Tryd.isAgg3 rfl rfl rfl) ?_
      refine wv (o_eq rfl rfl) ?_
      refine wl_x ?_
      refine wc_cond (b := decide (x99.fVersion = 0)) rfl (fun c128 => ?_) (fun c128 => ?_)
      ·have h129 := cnd_t c128 h126
       refine wc_sr ?_
       refine wm rfl ?_
       refine wv (o_nilcheck rfl) ?_
       refine wv (o_fieldAddr Tryd.underlying48 rfl Tryd.sizeOf46 rfl rfl) ?_
       refine wv (o_load (i := 1) Tryd.isAgg46 rfl rfl rfl) ?_
       refine wm rfl ?_
       refine u_mdele (enc := m_TApiItem) (xs := x116) (i := 2) Tryd.underlying46 Tryd.underlying9 rfl rfl rfl (H' := [.blk b127 (eTApiItem x99) 35, .blk b_q [rv (.map (some v_q_0)), rv (.map (some v_q_1))] 48, .map v_q_0 (menc m_TApiItem (mdel x116 x100)), .mit v_q_1 b90 (menc m_TApiItem x62) (menc m_TApiItem y102) (some (x100, m_TApiItem x99))]) rfl ?_
       refine wl_x ?_
       refine wc_exit ?_
       refine wk_then_exit ?_
       refine wk_in_hit ?_
       refine WK.uncur (i := 3) rfl ?_
       have h130 := lstp_next h129 h98
       exact wk_then (wk_some (y102, mdel x116 x100, ()) ⟨h130, perm_lt h95⟩ (Sub.c rfl (Sub.c rfl Sub.nil)) (sS (sC (sC (sC sN)))))
      ·have h131 := cnd_f c128 h126
       refine wc_skip ?_
       refine wk_x ?_
       refine wc_rdak 6 [0, 11, 12, 52] [⟨[], rv (.pointer (some ⟨b_q, 0, none⟩)), none, none, none⟩, ⟨[0], rv (.pointer (some ⟨b_q, 0, none⟩)), none, none, none⟩, ⟨[1], rv (.pointer (some ⟨b_q, 0, none⟩)), none, none, none⟩, ⟨[2], rv (.map (some v_q_0)), none, none, none⟩, ⟨[], rS x100, none, none, none⟩, ⟨[], rAgg (eTApiItem x99), none, none, none⟩] ?_ (fun β => ?_)
       ·refine oaq (o_move rfl) ?_
        refine oaq (o_nilcheck rfl) ?_
        refine oaq (o_fieldAddr Tryd.underlying48 rfl Tryd.sizeOf46 rfl rfl) ?_
        refine oaf (o_load (i := 1) Tryd.isAgg46 rfl rfl rfl) ?_
        refine oaq (o_move rfl) ?_
        refine oaf (o_load_agg (i := 0) Tryd.isAgg35 Tryd.sizeOf35 rfl rfl rfl rfl) ?_
        exact oae
       refine wl_kza (H1 := [.blk b127 (eTApiItem x99) 35, .blk b_q [rv (.map (some v_q_0)), rv (.map (some v_q_1))] 48, .map v_q_0 (menc m_TApiItem x116), .mit v_q_1 b90 (menc m_TApiItem x62) (menc m_TApiItem y102) (some (x100, m_TApiItem x99))]) [66, 67, 68, 69, 70, 71, 0, 11, 12, 52] ?_
       refine u_msete (enc := m_TApiItem) (xs := x116) (v := x99) (i := 2) Tryd.underlying46 Tryd.underlying9 rfl rfl rfl rfl (H' := [.blk b127 (eTApiItem x99) 35, .blk b_q [rv (.map (some v_q_0)), rv (.map (some v_q_1))] 48, .map v_q_0 (menc m_TApiItem (mset x116 x100 x99)), .mit v_q_1 b90 (menc m_TApiItem x62) (menc m_TApiItem y102) (some (x100, m_TApiItem x99))]) rfl ?_
       refine wl_nil ?_
       refine wk_in_norm ?_
       refine WK.uncur (i := 3) rfl ?_
       have h132 := lstp_next h131 h98
       exact wk_then (wk_some (y102, mset x116 x100 x99, ()) ⟨h132, perm_lt h95⟩ (Sub.c rfl (Sub.c rfl Sub.nil)) (sS (sC (sC (sC sN)))))
    ·rintro ⟨x123, ⟨⟩⟩ h133
     refine wk_as (l' := [(0, rv (.pointer (some ⟨b_q, 0, none⟩))), (52, rv (.pointer (some ⟨b90, 0, none⟩)))]) (H' := [.blk b_q [rv (.map (some v_q_0)), rv (.map (some v_q_1))] 48, .map v_q_0 (menc m_TApiItem x123), .map v_q_1 (menc m_TApiItem x62)]) rfl rfl ?_
     replace h133 : kApply_k2 x62 x123 = some r := h133
     unfold kApply_k2 at h133
     refine wk_in_hit ?_
     refine wk_x ?_
     refine wc_sr ?_
     refine wv (r := rI .i64 0) (o_assign rfl) ?_
     refine wl_x ?_
     refine wc_ret ?_
     obtain rfl := some_e h133
     exact wk_ret (r_1 Tryd.results8 (rv_t rfl)) (sC (sC (sC sN))) ⟨rfl, rfl⟩

theorem kOwn_w (x : TApiItem) (r : TApiItem) (h : kOwn x = some r) : Fn Tryd.prog GE 16 [rAgg (eTApiItem x)] [] (fun R H => R = rAgg (eTApiItem r) ∧ H = []) := by
 refine enter (n := 8) Tryd.func16 rfl Tryd.ntmps16 rfl (fun w Z => ?_)
 refine wc_as (l' := [(0, rAgg (eTApiItem x))]) (H' := []) rfl rfl ?_
 unfold kOwn at h
 refine wc_sr ?_
 refine w_box_agg rfl rfl (fun b1 => ?_)
 refine w_alloc (cs := [rS ([] : Str), rv (.slice none 0 0), rI .i64 0]) Tryd.zeroValue35 rfl rfl (fun b2 => ?_)
 refine wl_y ?_
 refine wv (o_fieldAddr Tryd.underlying35 rfl Tryd.sizeOf23 rfl rfl) ?_
 refine wv (o_load (i := 1) Tryd.isAgg23 rfl rfl rfl) ?_
 obtain ⟨r3, e5, h4⟩ := obn_e h
 refine wc0 Tryd.call21 (cloneN_w x.fValue r3 e5) rfl ?_
 refine wv (o_fieldAddr Tryd.underlying35 rfl Tryd.sizeOf23 rfl rfl) ?_
 refine u_store (i := 1) Tryd.sizeOf23 rfl rfl (one_c rfl) rfl rfl (cs' := [rS x.fKey, rSl 4 (List.map eTApiCell r3), rI .i64 x.fVersion]) rfl (H' := [.blk b2 [rS ([] : Str), rv (.slice none 0 0), rI .i64 0] 35, .blk b1 [rS x.fKey, rSl 4 (List.map eTApiCell r3), rI .i64 x.fVersion] 35]) rfl ?_
 refine wl_y ?_
 refine wv (o_load_agg (i := 1) Tryd.isAgg35 Tryd.sizeOf35 rfl rfl rfl rfl) ?_
 refine u_store_agg (i := 0) Tryd.sizeOf35 rfl rfl rfl (OneAll.c rfl) rfl rfl (cs' := [rS x.fKey, rSl 4 (List.map eTApiCell r3), rI .i64 x.fVersion]) rfl (H' := [.blk b2 [rS x.fKey, rSl 4 (List.map eTApiCell r3), rI .i64 x.fVersion] 35, .blk b1 [rS x.fKey, rSl 4 (List.map eTApiCell r3), rI .i64 x.fVersion] 35]) rfl ?_
 refine wl_x ?_
 refine wc_ret ?_
 obtain rfl := some_e h4
 exact wk_ret (r_1 Tryd.results16 (rv_ca (i := 0) Tryd.isAgg35 Tryd.sizeOf35 rfl rfl rfl)) (sS (sS sN)) ⟨rfl, rfl⟩

theorem kGet_w (b_q : Nat) (v_q_0 : Nat) (v_q_1 : Nat) (q : TKvStore) (key : Str) (r : TApiItem × Bool × TKvStore) (h : kGet q key = some r) : Fn Tryd.prog GE 9 [rv (.pointer (some ⟨b_q, 0, none⟩)), rS key] [.blk b_q [rv (.map (some v_q_0)), rv (.map (some v_q_1))] 48, .map v_q_0 (menc m_TApiItem q.fItems), .map v_q_1 (menc m_TApiItem q.fChanged)] (fun R H => R = rTup [rAgg (eTApiItem r.1), rB r.2.1] ∧ H = [.blk b_q [rv (.map (some v_q_0)), rv (.map (some v_q_1))] 48, .map v_q_0 (menc m_TApiItem r.2.2.fItems), .map v_q_1 (menc m_TApiItem r.2.2.fChanged)]) := by
 refine enter (n := 24) Tryd.func9 rfl Tryd.ntmps9 rfl (fun w Z => ?_)
 refine wc_as (l' := [(0, rv (.pointer (some ⟨b_q, 0, none⟩))), (1, rS key)]) (H' := [.blk b_q [rv (.map (some v_q_0)), rv (.map (some v_q_1))] 48, .map v_q_0 (menc m_TApiItem q.fItems), .map v_q_1 (menc m_TApiItem q.fChanged)]) rfl rfl ?_
 unfold kGet at h
 refine wc_sr ?_
 refine w_alloc (cs := [rS ([] : Str), rv (.slice none 0 0), rI .i64 0]) Tryd.zeroValue35 rfl rfl (fun b1 => ?_)
 refine wv (r := rB false) (o_assign rfl) ?_
 refine wl_x ?_
 refine wc_seq ?_
 refine wc_sr ?_
 refine wm rfl ?_
 obtain ⟨r2, e4, h3⟩ := obn_e h
 refine wcl (Hr := [.blk b1 [rS ([] : Str), rv (.slice none 0 0), rI .i64 0] 35]) Tryd.call13 (kMade_w b_q v_q_0 v_q_1 q r2 e4) rfl ((perm_front (i := 1) rfl).trans (List.Perm.cons _ ((perm_front (i := 1) rfl).trans (List.Perm.cons _ ((perm_front (i := 1) rfl).trans (List.Perm.cons _ (List.Perm.refl _))))))) rfl ?_
 rintro _ _ ⟨rfl, rfl⟩
 refine wv (o_not rfl) ?_
 refine wl_x ?_
 refine wc_cond (b := !r2.1) rfl (fun c5 => ?_) (fun c5 => ?_)
 ·have h6 := cnd_t c5 h3
  refine wc_sr ?_
  refine wv (r := rAgg [rS ([] : Str), rv (.slice none 0 0), rI .i64 0]) (o_build35_ ) ?_
  refine u_store_agg (i := 3) Tryd.sizeOf35 rfl rfl rfl (OneAll.c rfl) rfl rfl (cs' := [rS ([] : Str), rv (.slice none 0 0), rI .i64 0]) rfl (H' := [.blk b_q [rv (.map (some v_q_0)), rv (.map (some v_q_1))] 48, .map v_q_0 (menc m_TApiItem r2.2.fItems), .map v_q_1 (menc m_TApiItem r2.2.fChanged), .blk b1 [rS ([] : Str), rv (.slice none 0 0), rI .i64 0] 35]) rfl ?_
  refine wv (r := rB false) (o_assign rfl) ?_
  refine wl_x ?_
  refine wc_ret ?_
  refine wk_then_ret ?_
  refine WK.upBlk (i := 3) (cs' := [rS ([] : Str), rSl 4 (List.map eTApiCell ([] : List TApiCell)), rI .i64 0]) rfl ⟨Up.refl _, Up.le (Rle.nil _), Up.refl _, trivial⟩ ?_
  obtain rfl := some_e h6
  exact wk_ret (r_2 Tryd.results9 (rv_ca (i := 3) Tryd.isAgg35 Tryd.sizeOf35 rfl rfl rfl) (rv_t rfl)) (sC (sC (sC (sS sN)))) ⟨rfl, rfl⟩
 ·have h7 := cnd_f c5 h3
  refine wc_skip ?_
  refine wk_x ?_
  refine wc_sr ?_
  refine wm rfl ?_
  refine wv (o_nilcheck rfl) ?_
  refine wv (o_fieldAddr Tryd.underlying48 rfl Tryd.sizeOf46 rfl rfl) ?_
  refine wv (o_load (i := 0) Tryd.isAgg46 rfl rfl rfl) ?_
  refine wm rfl ?_
  refine wv (r := rTup [rAgg [rS ((mval r2.2.fItems key (TApiItem.mk ([] : Str) ([] : (List TApiCell)) 0)).fKey), rSl 4 (List.map eTApiCell ((mval r2.2.fItems key (TApiItem.mk ([] : Str) ([] : (List TApiCell)) 0)).fValue)), rI .i64 ((mval r2.2.fItems key (TApiItem.mk ([] : Str) ([] : (List TApiCell)) 0)).fVersion)], rB (mhas r2.2.fItems key)]) (o_mgetc (enc := m_TApiItem) (xs := r2.2.fItems) (z := TApiItem.mk ([] : Str) ([] : (List TApiCell)) 0) (i := 1) Tryd.underlying46 Tryd.underlying9 Tryd.zeroValue35 m_TApiItem_z rfl rfl rfl) ?_
  refine wm rfl ?_
  refine wv (o_extract rfl rfl) ?_
  refine wv (o_extract rfl rfl) ?_
  refine w_alloc (cs := [rS ([] : Str), rv (.slice none 0 0), rI .i64 0]) Tryd.zeroValue35 rfl rfl (fun b8 => ?_)
  refine u_store_agg (i := 0) Tryd.sizeOf35 rfl rfl rfl (OneAll.c rfl) rfl rfl (cs' := [rS ((mval r2.2.fItems key (TApiItem.mk ([] : Str) ([] : (List TApiCell)) 0)).fKey), rSl 4 (List.map eTApiCell ((mval r2.2.fItems key (TApiItem.mk ([] : Str) ([] : (List TApiCell)) 0)).fValue)), rI .i64 ((mval r2.2.fItems key (TApiItem.mk ([] : Str) ([] : (List TApiCell)) 0)).fVersion)]) rfl (H' := [.blk b8 [rS ((mval r2.2.fItems key (TApiItem.mk ([] : Str) ([] : (List TApiCell)) 0)).fKey), rSl 4 (List.map eTApiCell ((mval r2.2.fItems key (TApiItem.mk ([] : Str) ([] : (List TApiCell)) 0)).fValue)), rI .i64 ((mval r2.2.fItems key (TApiItem.mk ([] : Str) ([] : (List TApiCell)) 0)).fVersion)] 35, .blk b_q [rv (.map (some v_q_0)), rv (.map (some v_q_1))] 48, .map v_q_0 (menc m_TApiItem r2.2.fItems), .map v_q_1 (menc m_TApiItem r2.2.fChanged), .blk b1 [rS ([] : Str), rv (.slice none 0 0), rI .i64 0] 35]) rfl ?_
  refine wa rfl ?_
  refine wl_y ?_
  refine wv (o_load_agg (i := 0) Tryd.isAgg35 Tryd.sizeOf35 rfl rfl rfl rfl) ?_
  obtain ⟨r9, e11, h10⟩ := obn_e h7
  refine wc0 Tryd.call16 (kOwn_w (mval r2.2.fItems key (TApiItem.mk ([] : Str) ([] : (List TApiCell)) 0)) r9 e11) rfl ?_
  refine wm rfl ?_
  refine u_store_agg (i := 4) Tryd.sizeOf35 rfl rfl rfl (OneAll.c rfl) rfl rfl (cs' := [rS r9.fKey, rSl 4 (List.map eTApiCell r9.fValue), rI .i64 r9.fVersion]) rfl (H' := [.blk b8 [rS ((mval r2.2.fItems key (TApiItem.mk ([] : Str) ([] : (List TApiCell)) 0)).fKey), rSl 4 (List.map eTApiCell ((mval r2.2.fItems key (TApiItem.mk ([] : Str) ([] : (List TApiCell)) 0)).fValue)), rI .i64 ((mval r2.2.fItems key (TApiItem.mk ([] : Str) ([] : (List TApiCell)) 0)).fVersion)] 35, .blk b_q [rv (.map (some v_q_0)), rv (.map (some v_q_1))] 48, .map v_q_0 (menc m_TApiItem r2.2.fItems), .map v_q_1 (menc m_TApiItem r2.2.fChanged), .blk b1 (eTApiItem r9) 35]) rfl ?_
  refine wa rfl ?_
  refine wl_x ?_
  refine wc_ret ?_
  obtain rfl := some_e h10
  exact wk_ret (r_2 Tryd.results9 (rv_ca (i := 4) Tryd.isAgg35 Tryd.sizeOf35 rfl rfl rfl) (rv_t rfl)) (sS (sC (sC (sC (sS sN))))) ⟨rfl, rfl⟩

theorem kLen_w (b_q : Nat) (v_q_0 : Nat) (v_q_1 : Nat) (q : TKvStore) (r : Int × TKvStore) (h : kLen q = some r) : Fn Tryd.prog GE 10 [rv (.pointer (some ⟨b_q, 0, none⟩))] [.blk b_q [rv (.map (some v_q_0)), rv (.map (some v_q_1))] 48, .map v_q_0 (menc m_TApiItem q.fItems), .map v_q_1 (menc m_TApiItem q.fChanged)] (fun R H => R = rI .i64 r.1 ∧ H = [.blk b_q [rv (.map (some v_q_0)), rv (.map (some v_q_1))] 48, .map v_q_0 (menc m_TApiItem r.2.fItems), .map v_q_1 (menc m_TApiItem r.2.fChanged)]) := by
 refine enter (n := 11) Tryd.func10 rfl Tryd.ntmps10 rfl (fun w Z => ?_)
 refine wc_as (l' := [(0, rv (.pointer (some ⟨b_q, 0, none⟩)))]) (H' := [.blk b_q [rv (.map (some v_q_0)), rv (.map (some v_q_1))] 48, .map v_q_0 (menc m_TApiItem q.fItems), .map v_q_1 (menc m_TApiItem q.fChanged)]) rfl rfl ?_
 unfold kLen at h
 refine wc_sr ?_
 refine wv (r := rI .i64 0) (o_assign rfl) ?_
 refine wl_x ?_
 refine wc_seq ?_
 refine wc_sr ?_
 refine wm rfl ?_
 obtain ⟨r1, e3, h2⟩ := obn_e h
 refine wcl (Hr := []) Tryd.call13 (kMade_w b_q v_q_0 v_q_1 q r1 e3) rfl (List.Perm.refl _) rfl ?_
 rintro _ _ ⟨rfl, rfl⟩
 refine wv (o_not rfl) ?_
 refine wl_x ?_
 refine wc_cond (b := !r1.1) rfl (fun c4 => ?_) (fun c4 => ?_)
 ·have h5 := cnd_t c4 h2
  refine wc_sr ?_
  refine wv (r := rI .i64 0) (o_assign rfl) ?_
  refine wl_x ?_
  refine wc_ret ?_
  refine wk_then_ret ?_
  obtain rfl := some_e h5
  exact wk_ret (r_1 Tryd.results10 (rv_t rfl)) (sC (sC (sC sN))) ⟨rfl, rfl⟩
 ·have h6 := cnd_f c4 h2
  refine wc_skip ?_
  refine wk_x ?_
  refine wc_sr ?_
  refine wm rfl ?_
  refine wv (o_nilcheck rfl) ?_
  refine wv (o_fieldAddr Tryd.underlying48 rfl Tryd.sizeOf46 rfl rfl) ?_
  refine wv (o_load (i := 0) Tryd.isAgg46 rfl rfl rfl) ?_
  refine wv (r := rI .i64 (r1.2.fItems.length : Int)) (o_mlen (N := r1.2.fItems.length) (i := 1) Tryd.underlying46 rfl rfl (menc_length _ _)) ?_
  refine wa rfl ?_
  refine wl_x ?_
  refine wc_ret ?_
  obtain rfl := some_e h6
  exact wk_ret (r_1 Tryd.results10 (rv_t rfl)) (sC (sC (sC sN))) ⟨rfl, rfl⟩

end Go.Proofs.YtjfnokmpfekniaaDoor.Q

/-
 What functions compute, with checks: plain definitions, printed by a small program of ours (gq.py). No program in sight.
-/
namespace Go.Proofs.YtjfnokmpfekniaaDoor
open Go
set_option linter.unusedVariables false
def lSmall_b2 (l : (List TApiChange)) (x253 : Int) (x476 : Int) : Option (Stp (Int) (Out (Stp (Int) (Out (Bool) (Unit))) (Int × Bool))) :=
 cnd (decide (x476 < (((at' l x253).fValue).length : Int))) (chk (inR x476 (((at' l x253).fValue).length : Int)) <| cnd (decide (5000 < (((at' ((at' l x253).fValue) x476).fStr).length : Int))) (some (.out (.ret (.out (.ret false))))) (chk (inK .i64 (x476 + 1)) <| some (.next (x476 + 1)))) (some (.out (.go (x476, decide (x476 < (((at' l x253).fValue).length : Int))))))

def lSmall_k2 (x253 : Int) (x487 : Int) (x488 : Bool) : Option (Stp (Int) (Out (Bool) (Unit))) :=
 chk (inK .i64 (x253 + 1)) <| some (.next (x253 + 1))

def lSmall_b1 (F : Nat) (l : (List TApiChange)) (x253 : Int) : Option (Stp (Int) (Out (Bool) (Unit))) :=
 cnd (decide (x253 < (l.length : Int))) (chk (inR x253 (l.length : Int)) <| cnd (((decide (300 < (((at' l x253).fKey).length : Int))) || (decide (300 < (((at' l x253).fValue).length : Int))))) (some (.out (.ret false))) (obn (lop (fun σ => lSmall_b2 l x253 σ) F 0) (oute fun ν => lSmall_k2 x253 ν.1 ν.2))) (some (.out (.go ())))

def lSmall_k1  : Option (Bool) :=
 some true

def lSmall (F : Nat) (l : (List TApiChange)) : Option (Bool) :=
 cnd (decide (300 < (l.length : Int))) (some false) (obn (lop (fun σ => lSmall_b1 F l σ) F 0) (oute fun ν => lSmall_k1 ))

def lFew_b1 (F : Nat) (l : (List (List TApiChange))) (x29 : Int) : Option (Stp (Int) (Out (Bool) (Unit))) :=
 cnd (decide (x29 < (l.length : Int))) (chk (inR x29 (l.length : Int)) <| obn (lSmall F (at' l x29)) fun r56 => cnd (!r56) (some (.out (.ret false))) (chk (inK .i64 (x29 + 1)) <| some (.next (x29 + 1)))) (some (.out (.go ())))

def lFew_k1  : Option (Bool) :=
 some true

def lFew (F : Nat) (l : (List (List TApiChange))) : Option (Bool) :=
 cnd (decide (30 < (l.length : Int))) (some false) (obn (lop (fun σ => lFew_b1 F l σ) F 0) (oute fun ν => lFew_k1 ))

def lPut (n : Int) (version : Int) : Option (TApiChange) :=
 some (TApiChange.mk ([107] : Str) false ([(TApiCell.mk 3 n ([] : Str) 0)] : List TApiCell) version)

def fJoinN_b1  : Option (Stp (Unit) (Out (Str × Int) (Unit))) :=
 some (.out (.go ()))

def fJoinN_k1  : Option (Str × Int) :=
 some (([] : Str), 0)

def fJoinN (F : Nat)  : Option (Str × Int) :=
 obn (lop (fun σ => fJoinN_b1 ) F ()) (oute fun ν => fJoinN_k1 )

def kEncodeN_b1  : Option (Stp (Unit) (Out (Str × Int) (Unit))) :=
 some (.out (.go ()))

def kEncodeN_k1 (F : Nat) : Option (Str × Int) :=
 obn (fJoinN F) fun r18 => some (r18.1, r18.2)

def kEncodeN (F : Nat)  : Option (Str × Int) :=
 obn (kValid F ([] : List TApiChange)) fun r1 => cnd (!decide (r1 = 0)) (some (([] : Str), r1)) (obn (lop (fun σ => kEncodeN_b1 ) F ()) (oute fun ν => kEncodeN_k1 F ))

def lAwake_j2 (x112 : Bool) : Option (Bool) :=
 some x112

def lAwake_j1 (F : Nat) (x24 : Bool) (x25 : (List (Str × TApiItem))) (x26 : (List (Str × TApiItem))) : Option (Bool) :=
 cnd (x24) (some false) (obn (lPut 5 0) fun r47 => obn (kApply F (TKvStore.mk x25 x26) ([r47] : List TApiChange)) fun r51 => obn (lPut 5 0) fun r54 => obn (kApply F r51.2 ([r54] : List TApiChange)) fun r58 => obn (lPut 6 1) fun r61 => obn (kApply F r58.2 ([r61] : List TApiChange)) fun r65 => obn (kGet r65.2 ([107] : Str)) fun r68 => obn (kApply F r68.2.2 ([(TApiChange.mk ([107] : Str) true ([] : List TApiCell) 2)] : List TApiChange)) fun r73 => obn (kEncodeN F) fun r76 => cnd (decide (r51.1 = 0)) (cnd (decide (r58.1 = 19)) (cnd (decide (r65.1 = 0)) (cnd (r68.2.1) (cnd (decide (r68.1.fVersion = 2)) (cnd (decide (r73.1 = 0)) (obn (kLen r73.2) fun r125 => cnd (decide (r125.1 = 0)) (cnd (decide (r76.1 = ([] : Str))) (lAwake_j2 (decide (r76.2 = 0))) (lAwake_j2 false)) (lAwake_j2 false)) (lAwake_j2 false)) (lAwake_j2 false)) (lAwake_j2 false)) (lAwake_j2 false)) (lAwake_j2 false)) (lAwake_j2 false))

def lAwake (F : Nat)  : Option (Bool) :=
 obn (kNew) fun r1 => obn (lPut 1 0) fun r27 => obn (lPut 2 0) fun r30 => obn (kApply F r1 ([r27, r30] : List TApiChange)) fun r34 => cnd (!decide (r34.1 = 19)) (lAwake_j1 F true r34.2.fItems r34.2.fChanged) (obn (kLen r34.2) fun r40 => lAwake_j1 F (!decide (r40.1 = 0)) r40.2.fItems r40.2.fChanged)

def lConditions_j2 (x142 : Bool) (x143 : (List (Str × TApiItem))) (x144 : (List (Str × TApiItem))) : Option (Bool) :=
 some x142

def lConditions_j3 (x194 : Bool) : Option (Bool) :=
 some x194

def lConditions_b1 (F : Nat) (l : (List (List TApiChange))) (x43 : Int) (x44 : (List (Str × TApiItem))) (x45 : (List (Str × TApiItem))) : Option (Stp (Int × (List (Str × TApiItem)) × (List (Str × TApiItem))) (Out (Bool) ((List (Str × TApiItem)) × (List (Str × TApiItem))))) :=
 cnd (decide (x43 < (l.length : Int))) (chk (inR x43 (l.length : Int)) <| obn (kApply F (TKvStore.mk x44 x45) (at' l x43)) fun r71 => chk (inK .i64 (x43 + 1)) <| some (.next (x43 + 1, r71.2.fItems, r71.2.fChanged))) (some (.out (.go (x44, x45))))

def lConditions_k1 (F : Nat) (c : TApiChange) (x56 : (List (Str × TApiItem))) (x57 : (List (Str × TApiItem))) : Option (Bool) :=
 obn (kGet (TKvStore.mk x56 x57) c.fKey) fun r80 => obn (kLen r80.2.2) fun r84 => obn (kApply F r84.2 ([c] : List TApiChange)) fun r88 => cnd (((!decide (r88.1 = 0)) && (!decide (r88.1 = 19)))) (obn (lAwake F) fun r94 => some r94) (cnd ((bif r80.2.1 then (bif decide (r80.1.fVersion = c.fIfVersion) then !((decide (r88.1 = 0)) == true) else !((decide (r88.1 = 0)) == false)) else !((decide (r88.1 = 0)) == (decide (c.fIfVersion = 0))))) (some false) (cnd (!decide (r88.1 = 0)) (obn (lAwake F) fun r105 => some r105) (obn (kGet r88.2 c.fKey) fun r109 => cnd (c.fDelete) (cnd (!r109.2.1) (obn (kLen r109.2.2) fun r147 => cnd (decide (r147.1 = r84.1)) (obn (lAwake F) fun r152 => lConditions_j2 r152 r147.2.fItems r147.2.fChanged) (cnd (r80.2.1) (obn (kLen r147.2) fun r158 => chk (inK .i64 (r84.1 - 1)) <| cnd (decide (r158.1 = (r84.1 - 1))) (obn (lAwake F) fun r165 => lConditions_j2 r165 r158.2.fItems r158.2.fChanged) (lConditions_j2 false r158.2.fItems r158.2.fChanged)) (lConditions_j2 false r147.2.fItems r147.2.fChanged))) (lConditions_j2 false r109.2.2.fItems r109.2.2.fChanged)) (cnd (r109.2.1) (chk (inK .i64 (c.fIfVersion + 1)) <| cnd (decide (r109.1.fVersion = (c.fIfVersion + 1))) (obn (kApply F r109.2.2 ([c] : List TApiChange)) fun r202 => cnd (decide (r202.1 = 19)) (obn (lAwake F) fun r207 => lConditions_j3 r207) (lConditions_j3 false)) (lConditions_j3 false)) (lConditions_j3 false)))))

def lConditions (F : Nat) (l : (List (List TApiChange))) (c : TApiChange) : Option (Bool) :=
 chk ((lFew F l).isSome) <| chk (imp (!(!(ov (lFew F l)))) ((lSmall F ([c] : List TApiChange)).isSome)) <| cnd (((!(ov (lFew F l))) || ((!(ov (lSmall F ([c] : List TApiChange)))) || ((decide (c.fIfVersion < 0)) || (decide (1000 < c.fIfVersion)))))) (obn (lAwake F) fun r12 => some r12) (obn (kNew) fun r16 => obn (lop (fun σ => lConditions_b1 F l σ.1 σ.2.1 σ.2.2) F (0, r16.fItems, r16.fChanged)) (oute fun ν => lConditions_k1 F c ν.1 ν.2))

end Go.Proofs.YtjfnokmpfekniaaDoor

/-
  Walks, printed by a small program of ours (gq.py).
-/
namespace Go.Proofs.YtjfnokmpfekniaaDoor.Q
open Go Go.RowKit
set_option linter.unusedVariables false
set_option linter.unusedSimpArgs false
set_option maxRecDepth 100000
set_option maxHeartbeats 4000000
@[reducible] def eL_TApiChange (x : (List TApiChange)) : List Rp := [rSl 4 (List.map eTApiChange x)]
theorem eL_TApiChange_len (x : (List TApiChange)) : (eL_TApiChange x).length = 1 := rfl
theorem built25 (parts : List (Nat × Value)) : Tryd.prog.built 25 parts = Instr.fill (fun i => (#[(0, 1), (1, 1), (2, 1), (3, 1)] : Array (Nat × Nat))[i]?) #[(.string ⟨#[]⟩), (.bool false), ((.slice none 0 0)), (.int .i64 0)] parts := by kernel_rfl
theorem o_build25_0_1_3 {n : Nat} {c : Cx} {l : Fr} {H : List Ent} {d : Option Nat} {ty : TypeId} {pos : String} {af : Array Edge} {g : Option (Nat × Bool)} {x0 : Operand} {r0 : Rp} (h0 : ev l x0 = some r0) (u0 : r0.one = true) {x1 : Operand} {r1 : Rp} (h1 : ev l x1 = some r1) (u1 : r1.one = true) {x3 : Operand} {r3 : Rp} (h3 : ev l x3 = some r3) (u3 : r3.one = true) : ORun Tryd.prog n c l H { dst := d, op := .build 25 #[(0, x0), (1, x1), (3, x3)], type := ty, pos := pos, after := af, guard := g } (rAgg [r0, r1, rv (.slice none 0 0), r3]) := fun a w Z ha _ => by
  have p0 := ha.ev h0
  have c0 := cells_one (r0.hone u0 Z _ p0)
  have p1 := ha.ev h1
  have c1 := cells_one (r1.hone u1 Z _ p1)
  have p3 := ha.ev h3
  have c3 := cells_one (r3.hone u3 Z _ p3)
  have hb : Tryd.prog.built 25 [(0, a.eval x0), (1, a.eval x1), (3, a.eval x3)] = some #[a.eval x0, a.eval x1, ((.slice none 0 0)), a.eval x3] := by
    rw [built25]
    generalize a.eval x0 = v0 at *
    generalize a.eval x1 = v1 at *
    generalize a.eval x3 = v3 at *
    simp [Instr.fill, c0, c1, c3]
  refine ⟨.agg #[a.eval x0, a.eval x1, ((.slice none 0 0)), a.eval x3], ⟨[a.eval x0, a.eval x1, ((.slice none 0 0)), a.eval x3], rfl, p0, p1, rfl, p3, trivial⟩, ?_⟩
  have := run_build w 25 #[(0, a.eval x0), (1, a.eval x1), (3, a.eval x3)] _ (by simpa using hb)
  simp [execOp, this]
theorem o_build25_0_2_3 {n : Nat} {c : Cx} {l : Fr} {H : List Ent} {d : Option Nat} {ty : TypeId} {pos : String} {af : Array Edge} {g : Option (Nat × Bool)} {x0 : Operand} {r0 : Rp} (h0 : ev l x0 = some r0) (u0 : r0.one = true) {x2 : Operand} {r2 : Rp} (h2 : ev l x2 = some r2) (u2 : r2.one = true) {x3 : Operand} {r3 : Rp} (h3 : ev l x3 = some r3) (u3 : r3.one = true) : ORun Tryd.prog n c l H { dst := d, op := .build 25 #[(0, x0), (2, x2), (3, x3)], type := ty, pos := pos, after := af, guard := g } (rAgg [r0, rB false, r2, r3]) := fun a w Z ha _ => by
  have p0 := ha.ev h0
  have c0 := cells_one (r0.hone u0 Z _ p0)
  have p2 := ha.ev h2
  have c2 := cells_one (r2.hone u2 Z _ p2)
  have p3 := ha.ev h3
  have c3 := cells_one (r3.hone u3 Z _ p3)
  have hb : Tryd.prog.built 25 [(0, a.eval x0), (2, a.eval x2), (3, a.eval x3)] = some #[a.eval x0, (.bool false), a.eval x2, a.eval x3] := by
    rw [built25]
    generalize a.eval x0 = v0 at *
    generalize a.eval x2 = v2 at *
    generalize a.eval x3 = v3 at *
    simp [Instr.fill, c0, c2, c3]
  refine ⟨.agg #[a.eval x0, (.bool false), a.eval x2, a.eval x3], ⟨[a.eval x0, (.bool false), a.eval x2, a.eval x3], rfl, p0, rfl, p2, p3, trivial⟩, ?_⟩
  have := run_build w 25 #[(0, a.eval x0), (2, a.eval x2), (3, a.eval x3)] _ (by simpa using hb)
  simp [execOp, this]
theorem built42 (parts : List (Nat × Value)) : Tryd.prog.built 42 parts = Instr.fill (fun i => (#[(0, 1), (1, 1), (2, 1), (3, 1)] : Array (Nat × Nat))[i]?) #[(.int .i64 0), (.int .i64 0), (.string ⟨#[]⟩), (.int .i64 0)] parts := by kernel_rfl
theorem o_build42_0_1 {n : Nat} {c : Cx} {l : Fr} {H : List Ent} {d : Option Nat} {ty : TypeId} {pos : String} {af : Array Edge} {g : Option (Nat × Bool)} {x0 : Operand} {r0 : Rp} (h0 : ev l x0 = some r0) (u0 : r0.one = true) {x1 : Operand} {r1 : Rp} (h1 : ev l x1 = some r1) (u1 : r1.one = true) : ORun Tryd.prog n c l H { dst := d, op := .build 42 #[(0, x0), (1, x1)], type := ty, pos := pos, after := af, guard := g } (rAgg [r0, r1, rS ([] : Str), rI .i64 0]) := fun a w Z ha _ => by
  have p0 := ha.ev h0
  have c0 := cells_one (r0.hone u0 Z _ p0)
  have p1 := ha.ev h1
  have c1 := cells_one (r1.hone u1 Z _ p1)
  have hb : Tryd.prog.built 42 [(0, a.eval x0), (1, a.eval x1)] = some #[a.eval x0, a.eval x1, (.string ⟨#[]⟩), (.int .i64 0)] := by
    rw [built42]
    generalize a.eval x0 = v0 at *
    generalize a.eval x1 = v1 at *
    simp [Instr.fill, c0, c1]
  refine ⟨.agg #[a.eval x0, a.eval x1, (.string ⟨#[]⟩), (.int .i64 0)], ⟨[a.eval x0, a.eval x1, (.string ⟨#[]⟩), (.int .i64 0)], rfl, p0, p1, rfl, rfl, trivial⟩, ?_⟩
  have := run_build w 42 #[(0, a.eval x0), (1, a.eval x1)] _ (by simpa using hb)
  simp [execOp, this]
theorem lSmall_w (F : Nat) (l : (List TApiChange)) (r : Bool) (h : lSmall F l = some r) : Fn Tryd.prog GE 5 [rSl 4 (List.map eTApiChange l)] [] (fun R H => R = rB r ∧ H = []) := by
 refine enter (n := 51) Tryd.func5 rfl Tryd.ntmps5 rfl (fun w Z => ?_)
 refine wc_as (l' := [(0, rSl 4 (List.map eTApiChange l))]) (H' := []) rfl rfl ?_
 unfold lSmall at h
 refine wc_sr ?_
 refine wv (r := rB false) (o_assign rfl) ?_
 refine wl_x ?_
 refine wc_seq ?_
 refine wc_sr ?_
 refine wm rfl ?_
 refine wv (o_len_zt (ys := l) (enc := eTApiChange) Tryd.underlying28 rfl) ?_
 refine wv (o_gt rfl rfl) ?_
 refine wl_x ?_
 refine wc_cond (b := decide (300 < (l.length : Int))) rfl (fun c1 => ?_) (fun c1 => ?_)
 ·have h2 := cnd_t c1 h
  refine wc_sr ?_
  refine wv (r := rB false) (o_assign rfl) ?_
  refine wl_x ?_
  refine wc_ret ?_
  refine wk_then_ret ?_
  obtain rfl := some_e h2
  exact wk_ret (r_1 Tryd.results5 (rv_t rfl)) sN ⟨rfl, rfl⟩
 ·have h3 := cnd_f c1 h
  refine wc_skip ?_
  refine wk_x ?_
  refine wc_seq ?_
  refine wc_sr ?_
  refine wm rfl ?_
  refine wv (o_len_zt (ys := l) (enc := eTApiChange) Tryd.underlying28 rfl) ?_
  refine wv (r := rI .i64 0) (o_move rfl) ?_
  refine wl_x ?_
  refine wc_block ?_
  obtain ⟨o379, eo380, hK381⟩ := obn_e h3
  refine wc_loop2 (S := Nat × (Int) × (Unit)) (V := (Unit) × (Unit)) 0 (fun σ => lop (fun σ => lSmall_b1 F l σ) σ.1 σ.2.1 = some o379) (fun σ => [(0, rSl 4 (List.map eTApiChange l)), (9, rI .i64 (l.length : Int)), (10, rI .i64 σ.2.1)]) (fun σ => []) (fun σ => σ.1) (F, 0, ()) eo380 (Sub.c rfl (Sub.c rfl (Sub.c rfl Sub.nil))) sN (fun σ => lSmall_k1  = some r) (fun σ => []) (fun σ => []) ?_ ?_
  ·rintro ⟨n387, x253, ⟨⟩⟩ hi385
   refine wc_as (l' := [(0, rSl 4 (List.map eTApiChange l)), (9, rI .i64 (l.length : Int)), (10, rI .i64 x253)]) (H' := []) rfl rfl ?_
   obtain ⟨m384, rfl, t382, h386, ht383⟩ := lop_e hi385
   replace h386 : lSmall_b1 F l x253 = some t382 := h386
   unfold lSmall_b1 at h386
   refine wc_sr ?_
   refine wv (o_lt rfl rfl) ?_
   refine wl_x ?_
   refine wc_seq ?_
   refine wc_cond (b := decide (x253 < (l.length : Int))) rfl (fun c388 => ?_) (fun c388 => ?_)
   ·have h389 := cnd_t c388 h386
    refine wc_skip ?_
    refine wk_x ?_
    refine wc_seq ?_
    refine wc_block ?_
    refine wc_sr ?_
    refine wm rfl ?_
    refine wa rfl ?_
    refine wl_x ?_
    refine wc_seq ?_
    obtain ⟨g450, h451⟩ := chk_e h389
    refine wc_seq_mid [(0, rSl 4 (List.map eTApiChange l)), (3, rI .i64 x253), (9, rI .i64 (l.length : Int)), (10, rI .i64 x253), (28, rB ((decide (300 < (((at' l x253).fKey).length : Int))) || (decide (300 < (((at' l x253).fValue).length : Int)))))] [] ?_ ?_
    ·refine wc_region ?_
     refine wm rfl ?_
     refine wm rfl ?_
     refine wv (o_ix_z (enc := eTApiChange) (ys := l) Tryd.underlying28 Tryd.sizeOf25 rfl rfl g450) ?_
     refine wv (o_fieldAddr_z Tryd.underlying25 rfl Tryd.sizeOf9 rfl rfl) ?_
     refine wv (o_load_z Tryd.isAgg9 rfl rfl) ?_
     refine wv (o_len_s Tryd.underlying9 rfl) ?_
     refine wv (o_gt rfl rfl) ?_
     refine wm rfl ?_
     refine bsplit (decide (300 < (((at' l x253).fKey).length : Int))) (fun c452 => ?_) (fun c452 => ?_)
     ·refine wf c452 ?_
      refine wf c452 ?_
      refine wf c452 ?_
      refine wf c452 ?_
      refine wf c452 ?_
      refine wf c452 ?_
      refine wf c452 ?_
      refine wv (r := rB true) (o_pick_t (b := decide (300 < (((at' l x253).fKey).length : Int))) rfl c452 rfl) ?_
      refine wl_nil ?_
      exact wtc c452
     ·refine wo c452 ?_
      refine wm rfl ?_
      refine wo c452 ?_
      refine wm rfl ?_
      refine wo c452 ?_
      refine wv (o_ix_z (enc := eTApiChange) (ys := l) Tryd.underlying28 Tryd.sizeOf25 rfl rfl g450) ?_
      refine wo c452 ?_
      refine wv (o_fieldAddr_z Tryd.underlying25 rfl Tryd.sizeOf23 rfl rfl) ?_
      refine wo c452 ?_
      refine wv (o_load_z Tryd.isAgg23 rfl rfl) ?_
      refine wo c452 ?_
      refine wv (o_len_zt (ys := (at' l x253).fValue) (enc := eTApiCell) Tryd.underlying23 rfl) ?_
      refine wo c452 ?_
      refine wv (o_gt rfl rfl) ?_
      refine wpf rfl c452 rfl ?_
      refine wl_nil ?_
      exact wtc c452
    refine wc_cond (b := ((decide (300 < (((at' l x253).fKey).length : Int))) || (decide (300 < (((at' l x253).fValue).length : Int))))) rfl (fun c453 => ?_) (fun c453 => ?_)
    ·have h454 := cnd_t c453 h451
     refine wc_sr ?_
     refine wv (r := rB false) (o_assign rfl) ?_
     refine wl_x ?_
     refine wc_ret ?_
     refine wk_then_ret ?_
     refine wk_in_ret ?_
     refine wk_then_ret ?_
     refine wk_then_ret ?_
     refine wk_cut_ret ?_
     have h455 := stp_ret h454 ht383 hK381
     refine wk_in_ret ?_
     refine wk_then_ret ?_
     obtain rfl := some_e h455
     exact wk_ret (r_1 Tryd.results5 (rv_t rfl)) sN ⟨rfl, rfl⟩
    ·have h456 := cnd_f c453 h451
     refine wc_skip ?_
     refine wk_x ?_
     refine wc_sr ?_
     refine wm rfl ?_
     refine wm rfl ?_
     refine wv (o_ix_z (enc := eTApiChange) (ys := l) Tryd.underlying28 Tryd.sizeOf25 rfl rfl g450) ?_
     refine wv (o_fieldAddr_z Tryd.underlying25 rfl Tryd.sizeOf23 rfl rfl) ?_
     refine wv (o_load_z Tryd.isAgg23 rfl rfl) ?_
     refine wv (o_len_zt (ys := (at' l x253).fValue) (enc := eTApiCell) Tryd.underlying23 rfl) ?_
     refine wv (r := rI .i64 0) (o_move rfl) ?_
     refine wl_x ?_
     refine wc_block ?_
     obtain ⟨o489, eo490, hK491⟩ := obn_e h456
     refine wc_loop2 (S := Nat × (Int) × (Unit)) (V := (Int × Bool) × (Unit)) 2 (fun σ => lop (fun σ => lSmall_b2 l x253 σ) σ.1 σ.2.1 = some o489) (fun σ => [(0, rSl 4 (List.map eTApiChange l)), (3, rI .i64 x253), (9, rI .i64 (l.length : Int)), (10, rI .i64 x253), (28, rB ((decide (300 < (((at' l x253).fKey).length : Int))) || (decide (300 < (((at' l x253).fValue).length : Int))))), (29, rSl 4 (List.map eTApiChange l)), (30, rI .i64 x253), (33, rSl 4 (List.map eTApiCell ((at' l x253).fValue))), (34, rI .i64 (((at' l x253).fValue).length : Int)), (35, rI .i64 σ.2.1)]) (fun σ => []) (fun σ => σ.1) (F, 0, ()) eo490 (Sub.c5 rfl rfl rfl rfl rfl (Sub.c5 rfl rfl rfl rfl rfl Sub.nil)) sN (fun σ => lSmall_k2 x253 σ.1.1 σ.1.2 = some t382) (fun σ => [(0, rSl 4 (List.map eTApiChange l)), (3, rI .i64 x253), (9, rI .i64 (l.length : Int)), (10, rI .i64 x253), (28, rB ((decide (300 < (((at' l x253).fKey).length : Int))) || (decide (300 < (((at' l x253).fValue).length : Int))))), (29, rSl 4 (List.map eTApiChange l)), (30, rI .i64 x253), (33, rSl 4 (List.map eTApiCell ((at' l x253).fValue))), (34, rI .i64 (((at' l x253).fValue).length : Int)), (35, rI .i64 σ.1.1), (36, rB σ.1.2)]) (fun σ => []) ?_ ?_
     ·rintro ⟨n497, x476, ⟨⟩⟩ hi495
      refine wc_as (l' := [(0, rSl 4 (List.map eTApiChange l)), (3, rI .i64 x253), (9, rI .i64 (l.length : Int)), (10, rI .i64 x253), (28, rB ((decide (300 < (((at' l x253).fKey).length : Int))) || (decide (300 < (((at' l x253).fValue).length : Int))))), (29, rSl 4 (List.map eTApiChange l)), (30, rI .i64 x253), (33, rSl 4 (List.map eTApiCell ((at' l x253).fValue))), (34, rI .i64 (((at' l x253).fValue).length : Int)), (35, rI .i64 x476)]) (H' := []) rfl rfl ?_
      obtain ⟨m494, rfl, t492, h496, ht493⟩ := lop_e hi495
      replace h496 : lSmall_b2 l x253 x476 = some t492 := h496
      unfold lSmall_b2 at h496
      refine wc_sr ?_
      refine wv (o_lt rfl rfl) ?_
      refine wl_x ?_
      refine wc_seq ?_
      refine wc_cond (b := decide (x476 < (((at' l x253).fValue).length : Int))) rfl (fun c498 => ?_) (fun c498 => ?_)
      ·have h499 := cnd_t c498 h496
       refine wc_skip ?_
       refine wk_x ?_
       refine wc_seq ?_
       refine wc_block ?_
       refine wc_sr ?_
       refine wm rfl ?_
       refine wa rfl ?_
       refine wl_y ?_
       refine wm rfl ?_
       refine wm rfl ?_
       refine wv (o_ix_z (enc := eTApiChange) (ys := l) Tryd.underlying28 Tryd.sizeOf25 rfl rfl g450) ?_
       refine wv (o_fieldAddr_z Tryd.underlying25 rfl Tryd.sizeOf23 rfl rfl) ?_
       refine wv (o_load_z Tryd.isAgg23 rfl rfl) ?_
       refine wm rfl ?_
       obtain ⟨g500, h501⟩ := chk_e h499
       refine wv (o_ix_z (enc := eTApiCell) (ys := (at' l x253).fValue) Tryd.underlying23 Tryd.sizeOf42 rfl rfl g500) ?_
       refine wv (o_fieldAddr_z Tryd.underlying42 rfl Tryd.sizeOf9 rfl rfl) ?_
       refine wv (o_load_z Tryd.isAgg9 rfl rfl) ?_
       refine wv (o_len_s Tryd.underlying9 rfl) ?_
       refine wv (o_gt rfl rfl) ?_
       refine wl_x ?_
       refine wc_cond (b := decide (5000 < (((at' ((at' l x253).fValue) x476).fStr).length : Int))) rfl (fun c502 => ?_) (fun c502 => ?_)
       ·have h503 := cnd_t c502 h501
        refine wc_sr ?_
        refine wv (r := rB false) (o_assign rfl) ?_
        refine wl_x ?_
        refine wc_ret ?_
        refine wk_in_ret ?_
        refine wk_then_ret ?_
        refine wk_then_ret ?_
        refine wk_cut_ret ?_
        have h504 := stp_ret h503 ht493 hK491
        refine wk_in_ret ?_
        refine wk_in_ret ?_
        refine wk_then_ret ?_
        refine wk_then_ret ?_
        refine wk_cut_ret ?_
        have h505 := stp_ret h504 ht383 hK381
        refine wk_in_ret ?_
        refine wk_then_ret ?_
        obtain rfl := some_e h505
        exact wk_ret (r_1 Tryd.results5 (rv_t rfl)) sN ⟨rfl, rfl⟩
       ·have h506 := cnd_f c502 h501
        refine wc_skip ?_
        refine wk_in_norm ?_
        refine wk_x ?_
        refine wc_region ?_
        obtain ⟨g507, h508⟩ := chk_e h506
        refine wv (o_add rfl rfl g507) ?_
        refine wm rfl ?_
        refine wl_nil ?_
        have h509 := stp_next h508 ht493
        exact wk_then (wk_some (m494, x476 + 1, ()) ⟨h509, Nat.lt_succ_self _⟩ (Sub.c5 rfl rfl rfl rfl rfl (Sub.c5 rfl rfl rfl rfl rfl Sub.nil)) sN)
      ·have h510 := cnd_f c498 h496
       refine wc_exit ?_
       refine wk_then_exit ?_
       have h511 := stp_go h510 ht493 hK491
       exact wk_then_exit (wk_cut_hit (wk_some ((x476, decide (x476 < (((at' l x253).fValue).length : Int))), ()) h511 (Sub.c rfl (Sub.c5 rfl rfl rfl rfl rfl (Sub.c5 rfl rfl rfl rfl rfl Sub.nil))) sN))
     ·rintro ⟨⟨x487, x488⟩, ⟨⟩⟩ h512
      refine wk_as (l' := [(0, rSl 4 (List.map eTApiChange l)), (3, rI .i64 x253), (9, rI .i64 (l.length : Int)), (10, rI .i64 x253), (28, rB ((decide (300 < (((at' l x253).fKey).length : Int))) || (decide (300 < (((at' l x253).fValue).length : Int))))), (29, rSl 4 (List.map eTApiChange l)), (30, rI .i64 x253), (33, rSl 4 (List.map eTApiCell ((at' l x253).fValue))), (34, rI .i64 (((at' l x253).fValue).length : Int)), (35, rI .i64 x487), (36, rB x488)]) (H' := []) rfl rfl ?_
      replace h512 : lSmall_k2 x253 x487 x488 = some t382 := h512
      unfold lSmall_k2 at h512
      refine wk_in_hit ?_
      refine wk_in_norm ?_
      refine wk_x ?_
      refine wc_region ?_
      obtain ⟨g513, h514⟩ := chk_e h512
      refine wv (o_add rfl rfl g513) ?_
      refine wm rfl ?_
      refine wl_nil ?_
      have h515 := stp_next h514 ht383
      exact wk_then (wk_some (m384, x253 + 1, ()) ⟨h515, Nat.lt_succ_self _⟩ (Sub.c rfl (Sub.c rfl (Sub.c rfl Sub.nil))) sN)
   ·have h516 := cnd_f c388 h386
    refine wc_exit ?_
    refine wk_then_exit ?_
    have h517 := stp_go h516 ht383 hK381
    exact wk_then_exit (wk_cut_hit (wk_some ((), ()) h517 Sub.nil sN))
  ·rintro ⟨⟨⟩, ⟨⟩⟩ h518
   refine wk_as (l' := []) (H' := []) rfl rfl ?_
   replace h518 : lSmall_k1  = some r := h518
   unfold lSmall_k1 at h518
   refine wk_in_hit ?_
   refine wk_x ?_
   refine wc_sr ?_
   refine wv (r := rB true) (o_assign rfl) ?_
   refine wl_x ?_
   refine wc_ret ?_
   obtain rfl := some_e h518
   exact wk_ret (r_1 Tryd.results5 (rv_t rfl)) sN ⟨rfl, rfl⟩

theorem lFew_w (F : Nat) (l : (List (List TApiChange))) (r : Bool) (h : lFew F l = some r) : Fn Tryd.prog GE 4 [rSl 1 (List.map eL_TApiChange l)] [] (fun R H => R = rB r ∧ H = []) := by
 refine enter (n := 19) Tryd.func4 rfl Tryd.ntmps4 rfl (fun w Z => ?_)
 refine wc_as (l' := [(0, rSl 1 (List.map eL_TApiChange l))]) (H' := []) rfl rfl ?_
 unfold lFew at h
 refine wc_sr ?_
 refine wv (r := rB false) (o_assign rfl) ?_
 refine wl_x ?_
 refine wc_seq ?_
 refine wc_sr ?_
 refine wm rfl ?_
 refine wv (o_len_zt (ys := l) (enc := eL_TApiChange) Tryd.underlying22 rfl) ?_
 refine wv (o_gt rfl rfl) ?_
 refine wl_x ?_
 refine wc_cond (b := decide (30 < (l.length : Int))) rfl (fun c1 => ?_) (fun c1 => ?_)
 ·have h2 := cnd_t c1 h
  refine wc_sr ?_
  refine wv (r := rB false) (o_assign rfl) ?_
  refine wl_x ?_
  refine wc_ret ?_
  refine wk_then_ret ?_
  obtain rfl := some_e h2
  exact wk_ret (r_1 Tryd.results4 (rv_t rfl)) sN ⟨rfl, rfl⟩
 ·have h3 := cnd_f c1 h
  refine wc_skip ?_
  refine wk_x ?_
  refine wc_seq ?_
  refine wc_sr ?_
  refine wm rfl ?_
  refine wv (o_len_zt (ys := l) (enc := eL_TApiChange) Tryd.underlying22 rfl) ?_
  refine wv (r := rI .i64 0) (o_move rfl) ?_
  refine wl_x ?_
  refine wc_block ?_
  obtain ⟨o43, eo44, hK45⟩ := obn_e h3
  refine wc_loop2 (S := Nat × (Int) × (Unit)) (V := (Unit) × (Unit)) 0 (fun σ => lop (fun σ => lFew_b1 F l σ) σ.1 σ.2.1 = some o43) (fun σ => [(0, rSl 1 (List.map eL_TApiChange l)), (2, rB false), (8, rI .i64 (l.length : Int)), (9, rI .i64 σ.2.1)]) (fun σ => []) (fun σ => σ.1) (F, 0, ()) eo44 (Sub.c rfl (Sub.c rfl (Sub.c rfl (Sub.c rfl Sub.nil)))) sN (fun σ => lFew_k1  = some r) (fun σ => [(2, rB false)]) (fun σ => []) ?_ ?_
  ·rintro ⟨n51, x29, ⟨⟩⟩ hi49
   refine wc_as (l' := [(0, rSl 1 (List.map eL_TApiChange l)), (2, rB false), (8, rI .i64 (l.length : Int)), (9, rI .i64 x29)]) (H' := []) rfl rfl ?_
   obtain ⟨m48, rfl, t46, h50, ht47⟩ := lop_e hi49
   replace h50 : lFew_b1 F l x29 = some t46 := h50
   unfold lFew_b1 at h50
   refine wc_sr ?_
   refine wv (o_lt rfl rfl) ?_
   refine wl_x ?_
   refine wc_seq ?_
   refine wc_cond (b := decide (x29 < (l.length : Int))) rfl (fun c52 => ?_) (fun c52 => ?_)
   ·have h53 := cnd_t c52 h50
    refine wc_skip ?_
    refine wk_x ?_
    refine wc_seq ?_
    refine wc_block ?_
    refine wc_sr ?_
    refine wm rfl ?_
    refine wa rfl ?_
    refine wl_y ?_
    refine wm rfl ?_
    refine wm rfl ?_
    obtain ⟨g54, h55⟩ := chk_e h53
    refine wv (o_ix_z (enc := eL_TApiChange) (ys := l) Tryd.underlying22 Tryd.sizeOf28 rfl rfl g54) ?_
    refine wv (o_load_z Tryd.isAgg28 rfl rfl) ?_
    obtain ⟨r56, e58, h57⟩ := obn_e h55
    refine wc0 Tryd.call5 (lSmall_w F (at' l x29) r56 e58) rfl ?_
    refine wv (o_not rfl) ?_
    refine wl_x ?_
    refine wc_cond (b := !r56) rfl (fun c59 => ?_) (fun c59 => ?_)
    ·have h60 := cnd_t c59 h57
     refine wc_sr ?_
     refine wv (r := rB false) (o_assign rfl) ?_
     refine wl_x ?_
     refine wc_ret ?_
     refine wk_in_ret ?_
     refine wk_then_ret ?_
     refine wk_then_ret ?_
     refine wk_cut_ret ?_
     have h61 := stp_ret h60 ht47 hK45
     refine wk_in_ret ?_
     refine wk_then_ret ?_
     obtain rfl := some_e h61
     exact wk_ret (r_1 Tryd.results4 (rv_t rfl)) sN ⟨rfl, rfl⟩
    ·have h62 := cnd_f c59 h57
     refine wc_skip ?_
     refine wk_in_norm ?_
     refine wk_x ?_
     refine wc_region ?_
     obtain ⟨g63, h64⟩ := chk_e h62
     refine wv (o_add rfl rfl g63) ?_
     refine wm rfl ?_
     refine wl_nil ?_
     have h65 := stp_next h64 ht47
     exact wk_then (wk_some (m48, x29 + 1, ()) ⟨h65, Nat.lt_succ_self _⟩ (Sub.c rfl (Sub.c rfl (Sub.c rfl (Sub.c rfl Sub.nil)))) sN)
   ·have h66 := cnd_f c52 h50
    refine wc_exit ?_
    refine wk_then_exit ?_
    have h67 := stp_go h66 ht47 hK45
    exact wk_then_exit (wk_cut_hit (wk_some ((), ()) h67 (Sub.c rfl Sub.nil) sN))
  ·rintro ⟨⟨⟩, ⟨⟩⟩ h68
   refine wk_as (l' := [(2, rB false)]) (H' := []) rfl rfl ?_
   replace h68 : lFew_k1  = some r := h68
   unfold lFew_k1 at h68
   refine wk_in_hit ?_
   refine wk_x ?_
   refine wc_sr ?_
   refine wv (r := rB true) (o_assign rfl) ?_
   refine wl_x ?_
   refine wc_ret ?_
   obtain rfl := some_e h68
   exact wk_ret (r_1 Tryd.results4 (rv_t rfl)) sN ⟨rfl, rfl⟩

theorem lPut_w (n : Int) (version : Int) (r : TApiChange) (h : lPut n version = some r) : Fn Tryd.prog GE 11 [rI .i64 n, rI .i64 version] [] (fun R H => R = rAgg (eTApiChange r) ∧ H = []) := by
 refine enter (n := 10) Tryd.func11 rfl Tryd.ntmps11 rfl (fun w Z => ?_)
 refine wc_as (l' := [(0, rI .i64 n), (1, rI .i64 version)]) (H' := []) rfl rfl ?_
 unfold lPut at h
 refine wc_sr ?_
 refine w_alloc (cs := [rS ([] : Str), rB false, rv (.slice none 0 0), rI .i64 0]) Tryd.zeroValue25 rfl rfl (fun b1 => ?_)
 refine wl_y ?_
 refine wm rfl ?_
 refine wv (r := rAgg [rI .i64 3, rI .i64 n, rS ([] : Str), rI .i64 0]) (o_build42_0_1 rfl rfl rfl rfl) ?_
 refine w_buildSlice (ys := ([(TApiCell.mk 3 n ([] : Str) 0)] : List TApiCell)) (enc := eTApiCell) (css := [[rI .i64 3, rI .i64 n, rS ([] : Str), rI .i64 0]]) (xs := [.tmp 6]) Tryd.underlying23 Tryd.sizeOf42 Tryd.zeroValue42 rfl rfl rfl ⟨Cel.agg ⟨Up.refl _, Up.refl _, Up.refl _, Up.refl _, trivial⟩, trivial⟩ rfl eTApiCell_len rfl rfl rfl (fun b2 => ?_)
 refine wm rfl ?_
 refine wv (r := rAgg [rS ([107] : Str), rB false, rv (.slice (some ⟨b2, 0, none⟩) 1 1), rI .i64 version]) (o_build25_0_2_3 rfl rfl rfl rfl rfl rfl) ?_
 refine u_store_agg (i := 1) Tryd.sizeOf25 rfl rfl rfl ⟨(one_c rfl), (one_c rfl), (one_row (i := 0) rfl), (one_c rfl), trivial⟩ rfl rfl (cs' := [rS ([107] : Str), rB false, rv (.slice (some ⟨b2, 0, none⟩) 1 1), rI .i64 version]) rfl (H' := [.row (.slice (some ⟨b2, 0, none⟩) 1 1) 42 4 (List.map eTApiCell ([(TApiCell.mk 3 n ([] : Str) 0)] : List TApiCell)), .blk b1 [rS ([107] : Str), rB false, rv (.slice (some ⟨b2, 0, none⟩) 1 1), rI .i64 version] 25]) rfl ?_
 refine wl_x ?_
 refine wc_ret ?_
 refine WK.freeze (i := 0) rfl ?_
 refine WK.upBlk (i := 1) (cs' := [rS ([107] : Str), rB false, rSl 4 (List.map eTApiCell ([(TApiCell.mk 3 n ([] : Str) 0)] : List TApiCell)), rI .i64 version]) rfl ⟨Up.refl _, Up.refl _, Up.fact (i := 0) rfl, Up.refl _, trivial⟩ ?_
 obtain rfl := some_e h
 exact wk_ret (r_1 Tryd.results11 (rv_ca (i := 1) Tryd.isAgg25 Tryd.sizeOf25 rfl rfl rfl)) (sS (sS sN)) ⟨rfl, rfl⟩

theorem fJoinN_w (F : Nat)  (r : Str × Int) (h : fJoinN F = some r) : Fn Tryd.prog GE 18 [rv (.slice none 0 0)] [] (fun R H => R = rTup [rS r.1, rI .i64 r.2] ∧ H = []) := by
 refine enter (n := 36) Tryd.func18 rfl Tryd.ntmps18 rfl (fun w Z => ?_)
 refine wc_as (l' := [(0, rv (.slice none 0 0))]) (H' := []) rfl rfl ?_
 unfold fJoinN at h
 refine wc_sr ?_
 refine wv (r := rS ([] : Str)) (o_assign rfl) ?_
 refine wv (r := rI .i64 0) (o_assign rfl) ?_
 refine wl_y ?_
 refine wv (r := rv (.slice none 0 0)) (o_assign rfl) ?_
 refine wl_x ?_
 refine wc_seq ?_
 refine wc_sr ?_
 refine wm rfl ?_
 refine wv (r := rI .i64 0) (o_len_nil Tryd.underlying52 rfl) ?_
 refine wv (r := rI .i64 0) (o_move rfl) ?_
 refine wl_x ?_
 refine wc_block ?_
 obtain ⟨o1, eo2, hK3⟩ := obn_e h
 refine wc_loop2 (S := Nat × (Unit) × (Unit)) (V := (Unit) × (Unit)) 0 (fun σ => lop (fun σ => fJoinN_b1 ) σ.1 σ.2.1 = some o1) (fun σ => [(2, rS ([] : Str)), (3, rI .i64 0), (4, rv (.slice none 0 0)), (9, rv (.slice none 0 0)), (10, rI .i64 0), (11, rI .i64 0)]) (fun σ => []) (fun σ => σ.1) (F, (), ()) eo2 (Sub.c rfl (Sub.c5 rfl rfl rfl rfl rfl Sub.nil)) sN (fun σ => fJoinN_k1  = some r) (fun σ => [(2, rS ([] : Str)), (3, rI .i64 0), (4, rv (.slice none 0 0))]) (fun σ => []) ?_ ?_
 ·rintro ⟨n9, ⟨⟩, ⟨⟩⟩ hi7
  refine wc_as (l' := [(2, rS ([] : Str)), (3, rI .i64 0), (4, rv (.slice none 0 0)), (9, rv (.slice none 0 0)), (10, rI .i64 0), (11, rI .i64 0)]) (H' := []) rfl rfl ?_
  obtain ⟨m6, rfl, t4, h8, ht5⟩ := lop_e hi7
  replace h8 : fJoinN_b1  = some t4 := h8
  unfold fJoinN_b1 at h8
  refine wc_sr ?_
  refine wv (o_lt rfl rfl) ?_
  refine wl_x ?_
  refine wc_seq ?_
  refine wc_cond_f rfl (by decide) ?_
  refine wc_exit ?_
  refine wk_then_exit ?_
  have h10 := stp_go h8 ht5 hK3
  exact wk_then_exit (wk_cut_hit (wk_some ((), ()) h10 (Sub.c rfl (Sub.c rfl (Sub.c rfl Sub.nil))) sN))
 ·rintro ⟨⟨⟩, ⟨⟩⟩ h11
  refine wk_as (l' := [(2, rS ([] : Str)), (3, rI .i64 0), (4, rv (.slice none 0 0))]) (H' := []) rfl rfl ?_
  replace h11 : fJoinN_k1  = some r := h11
  unfold fJoinN_k1 at h11
  refine wk_in_hit ?_
  refine wk_x ?_
  refine wc_sr ?_
  refine wm rfl ?_
  refine wv (r := rS ([] : Str)) (o_b2s_nil Tryd.underlying60 Tryd.underlying9 Tryd.underlying5 rfl) ?_
  refine wa rfl ?_
  refine wv (r := rI .i64 0) (o_assign rfl) ?_
  refine wl_x ?_
  refine wc_ret ?_
  obtain rfl := some_e h11
  exact wk_ret (r_2 Tryd.results18 (rv_t rfl) (rv_t rfl)) sN ⟨rfl, rfl⟩

theorem kEncodeN_w (F : Nat)  (r : Str × Int) (h : kEncodeN F = some r) : Fn Tryd.prog GE 12 [rv (.slice none 0 0)] [] (fun R H => R = rTup [rS r.1, rI .i64 r.2] ∧ H = []) := by
 refine enter (n := 38) Tryd.func12 rfl Tryd.ntmps12 rfl (fun w Z => ?_)
 refine wc_as (l' := [(0, rv (.slice none 0 0))]) (H' := []) rfl rfl ?_
 unfold kEncodeN at h
 refine wc_sr ?_
 refine wv (r := rS ([] : Str)) (o_assign rfl) ?_
 refine wv (r := rI .i64 0) (o_assign rfl) ?_
 refine wl_x ?_
 refine wc_seq ?_
 refine wc_sr ?_
 refine wm rfl ?_
 refine WL.up (d := 10) (r := rSl 4 (List.map eTApiChange ([] : List TApiChange))) rfl (Up.le (Rle.nil _)) ?_
 obtain ⟨r1, e3, h2⟩ := obn_e h
 refine wc0 Tryd.call14 (kValid_w F ([] : List TApiChange) r1 e3) rfl ?_
 refine wa rfl ?_
 refine wl_y ?_
 refine wm rfl ?_
 refine wv (o_ne rfl rfl) ?_
 refine wl_x ?_
 refine wc_cond (b := !decide (r1 = 0)) rfl (fun c4 => ?_) (fun c4 => ?_)
 ·have h5 := cnd_t c4 h2
  refine wc_sr ?_
  refine wm rfl ?_
  refine wv (r := rS ([] : Str)) (o_assign rfl) ?_
  refine wa rfl ?_
  refine wl_x ?_
  refine wc_ret ?_
  refine wk_then_ret ?_
  obtain rfl := some_e h5
  exact wk_ret (r_2 Tryd.results12 (rv_t rfl) (rv_t rfl)) sN ⟨rfl, rfl⟩
 ·have h6 := cnd_f c4 h2
  refine wc_skip ?_
  refine wk_x ?_
  refine wc_sr ?_
  refine wv (r := rv (.slice none 0 0)) (o_assign rfl) ?_
  refine wl_x ?_
  refine wc_seq ?_
  refine wc_sr ?_
  refine wm rfl ?_
  refine wv (r := rI .i64 0) (o_len_nil Tryd.underlying28 rfl) ?_
  refine wv (r := rI .i64 0) (o_move rfl) ?_
  refine wl_x ?_
  refine wc_block ?_
  obtain ⟨o7, eo8, hK9⟩ := obn_e h6
  refine wc_loop2 (S := Nat × (Unit) × (Unit)) (V := (Unit) × (Unit)) 0 (fun σ => lop (fun σ => kEncodeN_b1 ) σ.1 σ.2.1 = some o7) (fun σ => [(2, rS ([] : Str)), (3, rI .i64 0), (5, rv (.slice none 0 0)), (15, rv (.slice none 0 0)), (16, rI .i64 0), (17, rI .i64 0)]) (fun σ => []) (fun σ => σ.1) (F, (), ()) eo8 (Sub.c rfl (Sub.c5 rfl rfl rfl rfl rfl Sub.nil)) sN (fun σ => kEncodeN_k1 F  = some r) (fun σ => [(2, rS ([] : Str)), (3, rI .i64 0), (5, rv (.slice none 0 0))]) (fun σ => []) ?_ ?_
  ·rintro ⟨n15, ⟨⟩, ⟨⟩⟩ hi13
   refine wc_as (l' := [(2, rS ([] : Str)), (3, rI .i64 0), (5, rv (.slice none 0 0)), (15, rv (.slice none 0 0)), (16, rI .i64 0), (17, rI .i64 0)]) (H' := []) rfl rfl ?_
   obtain ⟨m12, rfl, t10, h14, ht11⟩ := lop_e hi13
   replace h14 : kEncodeN_b1  = some t10 := h14
   unfold kEncodeN_b1 at h14
   refine wc_sr ?_
   refine wv (o_lt rfl rfl) ?_
   refine wl_x ?_
   refine wc_seq ?_
   refine wc_cond_f rfl (by decide) ?_
   refine wc_exit ?_
   refine wk_then_exit ?_
   have h16 := stp_go h14 ht11 hK9
   exact wk_then_exit (wk_cut_hit (wk_some ((), ()) h16 (Sub.c rfl (Sub.c rfl (Sub.c rfl Sub.nil))) sN))
  ·rintro ⟨⟨⟩, ⟨⟩⟩ h17
   refine wk_as (l' := [(2, rS ([] : Str)), (3, rI .i64 0), (5, rv (.slice none 0 0))]) (H' := []) rfl rfl ?_
   replace h17 : kEncodeN_k1 F  = some r := h17
   unfold kEncodeN_k1 at h17
   refine wk_in_hit ?_
   refine wk_x ?_
   refine wc_sr ?_
   refine wm rfl ?_
   obtain ⟨r18, e20, h19⟩ := obn_e h17
   refine wc0 Tryd.call18 (fJoinN_w F r18 e20) rfl ?_
   refine wv (o_extract rfl rfl) ?_
   refine wv (o_extract rfl rfl) ?_
   refine wa rfl ?_
   refine wa rfl ?_
   refine wl_x ?_
   refine wc_ret ?_
   obtain rfl := some_e h19
   exact wk_ret (r_2 Tryd.results12 (rv_t rfl) (rv_t rfl)) sN ⟨rfl, rfl⟩

theorem lAwake_w (F : Nat)  (r : Bool) (h : lAwake F = some r) : Fn Tryd.prog GE 6 [] [] (fun R H => R = rB r ∧ H = []) := by
 refine enter (n := 86) Tryd.func6 rfl Tryd.ntmps6 rfl (fun w Z => ?_)
 refine wc_as (l' := []) (H' := []) rfl rfl ?_
 unfold lAwake at h
 refine wc_sr ?_
 refine wv (r := rB false) (o_assign rfl) ?_
 refine wl_y ?_
 obtain ⟨r1, e3, h2⟩ := obn_e h
 refine wcl (Hr := []) Tryd.call7 (kNew_w r1 e3) rfl (List.Perm.refl _) rfl ?_
 rintro _ _ ⟨b4, b5, b6, rfl, rfl⟩
 refine wa rfl ?_
 refine wl_x ?_
 refine wc_seq ?_
 refine wc_seq_cut (S := (Bool × (List (Str × TApiItem)) × (List (Str × TApiItem))) × (Unit)) (fun σ => lAwake_j1 F σ.1.1 σ.1.2.1 σ.1.2.2 = some r) (fun σ => [(0, rB false), (1, rv (.pointer (some ⟨b4, 0, none⟩))), (25, rB σ.1.1)]) (fun σ => [.blk b4 [rv (.map (some b5)), rv (.map (some b6))] 48, .map b5 (menc m_TApiItem σ.1.2.1), .map b6 (menc m_TApiItem σ.1.2.2)]) ?_ ?_
 ·refine wc_region ?_
  refine wm rfl ?_
  refine wv (r := rB false) (o_pnil ⟨_, Tryd.underlying30⟩ rfl) ?_
  refine wm rfl ?_
  refine wl_on (b := false) rfl rfl rfl ?_
  refine wm rfl ?_
  refine wl_on (b := false) rfl rfl rfl ?_
  obtain ⟨r27, e29, h28⟩ := obn_e h2
  refine wc0 Tryd.call11 (lPut_w 1 0 r27 e29) rfl ?_
  refine wl_on (b := false) rfl rfl rfl ?_
  obtain ⟨r30, e32, h31⟩ := obn_e h28
  refine wc0 Tryd.call11 (lPut_w 2 0 r30 e32) rfl ?_
  refine wl_on (b := false) rfl rfl rfl ?_
  refine w_buildSlice (ys := ([r27, r30] : List TApiChange)) (enc := eTApiChange) (css := [[rS r27.fKey, rB r27.fDelete, rSl 4 (List.map eTApiCell r27.fValue), rI .i64 r27.fIfVersion], [rS r30.fKey, rB r30.fDelete, rSl 4 (List.map eTApiCell r30.fValue), rI .i64 r30.fIfVersion]]) (xs := [.tmp 15, .tmp 16]) Tryd.underlying28 Tryd.sizeOf25 Tryd.zeroValue25 rfl rfl rfl ⟨Cel.agg ⟨Up.refl _, Up.refl _, Up.refl _, Up.refl _, trivial⟩, Cel.agg ⟨Up.refl _, Up.refl _, Up.refl _, Up.refl _, trivial⟩, trivial⟩ rfl eTApiChange_len rfl rfl rfl (fun b33 => ?_)
  refine wl_on (b := false) rfl rfl rfl ?_
  refine WL.freeze (i := 0) rfl ?_
  refine WL.up (d := 17) (r := rSl 4 (List.map eTApiChange ([r27, r30] : List TApiChange))) rfl (Up.fact (i := 0) rfl) ?_
  obtain ⟨r34, e36, h35⟩ := obn_e h31
  refine wcl (Hr := [.fact (.slice (some ⟨b33, 0, none⟩) 2 2) (rSl 4 (List.map eTApiChange ([r27, r30] : List TApiChange)))]) Tryd.call8 (kApply_w F b4 b5 b6 r1 ([r27, r30] : List TApiChange) r34 e36) rfl ((perm_front (i := 1) rfl).trans (List.Perm.cons _ ((perm_front (i := 1) rfl).trans (List.Perm.cons _ ((perm_front (i := 1) rfl).trans (List.Perm.cons _ (List.Perm.refl _))))))) rfl ?_
  rintro _ _ ⟨rfl, rfl⟩
  refine wl_on (b := false) rfl rfl rfl ?_
  refine wv (o_ne rfl rfl) ?_
  refine wv (r := rB (!decide (r34.1 = 19))) (o_pick_f (b := false) rfl rfl rfl) ?_
  refine wm rfl ?_
  refine bsplit (!decide (r34.1 = 19)) (fun c37 => ?_) (fun c37 => ?_)
  ·have h38 := cnd_t c37 h35
   refine wf c37 ?_
   refine wf c37 ?_
   refine wf c37 ?_
   refine wv (r := rB true) (o_pick_t (b := !decide (r34.1 = 19)) rfl c37 rfl) ?_
   refine wl_nil ?_
   exact wk_then (wk_some ((true, r34.2.fItems, r34.2.fChanged), ()) h38 (Sub.c rfl (Sub.c rfl (Sub.c rfl Sub.nil))) (sC (sC (sC (sS sN)))))
  ·have h39 := cnd_f c37 h35
   refine wo c37 ?_
   refine wm rfl ?_
   refine wo c37 ?_
   obtain ⟨r40, e42, h41⟩ := obn_e h39
   refine wcl (Hr := [.fact (.slice (some ⟨b33, 0, none⟩) 2 2) (rSl 4 (List.map eTApiChange ([r27, r30] : List TApiChange)))]) Tryd.call10 (kLen_w b4 b5 b6 r34.2 r40 e42) rfl (List.Perm.refl _) rfl ?_
   rintro _ _ ⟨rfl, rfl⟩
   refine wo c37 ?_
   refine wv (o_ne rfl rfl) ?_
   refine wpf rfl c37 rfl ?_
   refine wl_nil ?_
   exact wk_then (wk_some ((!decide (r40.1 = 0), r40.2.fItems, r40.2.fChanged), ()) h41 (Sub.c rfl (Sub.c rfl (Sub.c rfl Sub.nil))) (sC (sC (sC (sS sN)))))
 ·rintro ⟨⟨x24, x25, x26⟩, ⟨⟩⟩ h43
  refine wc_as (l' := [(0, rB false), (1, rv (.pointer (some ⟨b4, 0, none⟩))), (25, rB x24)]) (H' := [.blk b4 [rv (.map (some b5)), rv (.map (some b6))] 48, .map b5 (menc m_TApiItem x25), .map b6 (menc m_TApiItem x26)]) rfl rfl ?_
  replace h43 : lAwake_j1 F x24 x25 x26 = some r := h43
  unfold lAwake_j1 at h43
  refine wc_cond (b := x24) rfl (fun c44 => ?_) (fun c44 => ?_)
  ·have h45 := cnd_t c44 h43
   refine wc_sr ?_
   refine wv (r := rB false) (o_assign rfl) ?_
   refine wl_x ?_
   refine wc_ret ?_
   refine wk_then_ret ?_
   obtain rfl := some_e h45
   exact wk_ret (r_1 Tryd.results6 (rv_t rfl)) (sS (sS (sS sN))) ⟨rfl, rfl⟩
  ·have h46 := cnd_f c44 h43
   refine wc_skip ?_
   refine wk_x ?_
   refine wc_sr ?_
   refine wm rfl ?_
   obtain ⟨r47, e49, h48⟩ := obn_e h46
   refine wc0 Tryd.call11 (lPut_w 5 0 r47 e49) rfl ?_
   refine w_buildSlice (ys := ([r47] : List TApiChange)) (enc := eTApiChange) (css := [[rS r47.fKey, rB r47.fDelete, rSl 4 (List.map eTApiCell r47.fValue), rI .i64 r47.fIfVersion]]) (xs := [.tmp 27]) Tryd.underlying28 Tryd.sizeOf25 Tryd.zeroValue25 rfl rfl rfl ⟨Cel.agg ⟨Up.refl _, Up.refl _, Up.refl _, Up.refl _, trivial⟩, trivial⟩ rfl eTApiChange_len rfl rfl rfl (fun b50 => ?_)
   refine WL.freeze (i := 0) rfl ?_
   refine WL.up (d := 28) (r := rSl 4 (List.map eTApiChange ([r47] : List TApiChange))) rfl (Up.fact (i := 0) rfl) ?_
   obtain ⟨r51, e53, h52⟩ := obn_e h48
   refine wcl (Hr := [.fact (.slice (some ⟨b50, 0, none⟩) 1 1) (rSl 4 (List.map eTApiChange ([r47] : List TApiChange)))]) Tryd.call8 (kApply_w F b4 b5 b6 (TKvStore.mk x25 x26) ([r47] : List TApiChange) r51 e53) rfl ((perm_front (i := 1) rfl).trans (List.Perm.cons _ ((perm_front (i := 1) rfl).trans (List.Perm.cons _ ((perm_front (i := 1) rfl).trans (List.Perm.cons _ (List.Perm.refl _))))))) rfl ?_
   rintro _ _ ⟨rfl, rfl⟩
   refine wa rfl ?_
   refine wl_y ?_
   refine wm rfl ?_
   obtain ⟨r54, e56, h55⟩ := obn_e h52
   refine wc0 Tryd.call11 (lPut_w 5 0 r54 e56) rfl ?_
   refine w_buildSlice (ys := ([r54] : List TApiChange)) (enc := eTApiChange) (css := [[rS r54.fKey, rB r54.fDelete, rSl 4 (List.map eTApiCell r54.fValue), rI .i64 r54.fIfVersion]]) (xs := [.tmp 31]) Tryd.underlying28 Tryd.sizeOf25 Tryd.zeroValue25 rfl rfl rfl ⟨Cel.agg ⟨Up.refl _, Up.refl _, Up.refl _, Up.refl _, trivial⟩, trivial⟩ rfl eTApiChange_len rfl rfl rfl (fun b57 => ?_)
   refine WL.freeze (i := 0) rfl ?_
   refine WL.up (d := 32) (r := rSl 4 (List.map eTApiChange ([r54] : List TApiChange))) rfl (Up.fact (i := 0) rfl) ?_
   obtain ⟨r58, e60, h59⟩ := obn_e h55
   refine wcl (Hr := [.fact (.slice (some ⟨b57, 0, none⟩) 1 1) (rSl 4 (List.map eTApiChange ([r54] : List TApiChange))), .fact (.slice (some ⟨b50, 0, none⟩) 1 1) (rSl 4 (List.map eTApiChange ([r47] : List TApiChange)))]) Tryd.call8 (kApply_w F b4 b5 b6 r51.2 ([r54] : List TApiChange) r58 e60) rfl ((perm_front (i := 1) rfl).trans (List.Perm.cons _ ((perm_front (i := 1) rfl).trans (List.Perm.cons _ ((perm_front (i := 1) rfl).trans (List.Perm.cons _ (List.Perm.refl _))))))) rfl ?_
   rintro _ _ ⟨rfl, rfl⟩
   refine wa rfl ?_
   refine wl_y ?_
   refine wm rfl ?_
   obtain ⟨r61, e63, h62⟩ := obn_e h59
   refine wc0 Tryd.call11 (lPut_w 6 1 r61 e63) rfl ?_
   refine w_buildSlice (ys := ([r61] : List TApiChange)) (enc := eTApiChange) (css := [[rS r61.fKey, rB r61.fDelete, rSl 4 (List.map eTApiCell r61.fValue), rI .i64 r61.fIfVersion]]) (xs := [.tmp 35]) Tryd.underlying28 Tryd.sizeOf25 Tryd.zeroValue25 rfl rfl rfl ⟨Cel.agg ⟨Up.refl _, Up.refl _, Up.refl _, Up.refl _, trivial⟩, trivial⟩ rfl eTApiChange_len rfl rfl rfl (fun b64 => ?_)
   refine WL.freeze (i := 0) rfl ?_
   refine WL.up (d := 36) (r := rSl 4 (List.map eTApiChange ([r61] : List TApiChange))) rfl (Up.fact (i := 0) rfl) ?_
   obtain ⟨r65, e67, h66⟩ := obn_e h62
   refine wcl (Hr := [.fact (.slice (some ⟨b64, 0, none⟩) 1 1) (rSl 4 (List.map eTApiChange ([r61] : List TApiChange))), .fact (.slice (some ⟨b57, 0, none⟩) 1 1) (rSl 4 (List.map eTApiChange ([r54] : List TApiChange))), .fact (.slice (some ⟨b50, 0, none⟩) 1 1) (rSl 4 (List.map eTApiChange ([r47] : List TApiChange)))]) Tryd.call8 (kApply_w F b4 b5 b6 r58.2 ([r61] : List TApiChange) r65 e67) rfl ((perm_front (i := 1) rfl).trans (List.Perm.cons _ ((perm_front (i := 1) rfl).trans (List.Perm.cons _ ((perm_front (i := 1) rfl).trans (List.Perm.cons _ (List.Perm.refl _))))))) rfl ?_
   rintro _ _ ⟨rfl, rfl⟩
   refine wa rfl ?_
   refine wl_y ?_
   refine wm rfl ?_
   obtain ⟨r68, e70, h69⟩ := obn_e h66
   refine wcl (Hr := [.fact (.slice (some ⟨b64, 0, none⟩) 1 1) (rSl 4 (List.map eTApiChange ([r61] : List TApiChange))), .fact (.slice (some ⟨b57, 0, none⟩) 1 1) (rSl 4 (List.map eTApiChange ([r54] : List TApiChange))), .fact (.slice (some ⟨b50, 0, none⟩) 1 1) (rSl 4 (List.map eTApiChange ([r47] : List TApiChange)))]) Tryd.call9 (kGet_w b4 b5 b6 r65.2 ([107] : Str) r68 e70) rfl (List.Perm.refl _) rfl ?_
   rintro _ _ ⟨rfl, rfl⟩
   refine wm rfl ?_
   refine wv (o_extract rfl rfl) ?_
   refine wv (o_extract rfl rfl) ?_
   refine w_alloc (cs := [rS ([] : Str), rv (.slice none 0 0), rI .i64 0]) Tryd.zeroValue35 rfl rfl (fun b71 => ?_)
   refine u_store_agg (i := 0) Tryd.sizeOf35 rfl rfl rfl (OneAll.c rfl) rfl rfl (cs' := [rS r68.1.fKey, rSl 4 (List.map eTApiCell r68.1.fValue), rI .i64 r68.1.fVersion]) rfl (H' := [.blk b71 (eTApiItem r68.1) 35, .blk b4 [rv (.map (some b5)), rv (.map (some b6))] 48, .map b5 (menc m_TApiItem r68.2.2.fItems), .map b6 (menc m_TApiItem r68.2.2.fChanged), .fact (.slice (some ⟨b64, 0, none⟩) 1 1) (rSl 4 (List.map eTApiChange ([r61] : List TApiChange))), .fact (.slice (some ⟨b57, 0, none⟩) 1 1) (rSl 4 (List.map eTApiChange ([r54] : List TApiChange))), .fact (.slice (some ⟨b50, 0, none⟩) 1 1) (rSl 4 (List.map eTApiChange ([r47] : List TApiChange)))]) rfl ?_
   refine wa rfl ?_
   refine wl_y ?_
   refine wm rfl ?_
   refine wv (r := rAgg [rS ([107] : Str), rB true, rv (.slice none 0 0), rI .i64 2]) (o_build25_0_1_3 rfl rfl rfl rfl rfl rfl) ?_
   refine w_buildSlice (ys := ([(TApiChange.mk ([107] : Str) true ([] : List TApiCell) 2)] : List TApiChange)) (enc := eTApiChange) (css := [[rS ([107] : Str), rB true, rSl 4 (List.map eTApiCell ([] : List TApiCell)), rI .i64 2]]) (xs := [.tmp 44]) Tryd.underlying28 Tryd.sizeOf25 Tryd.zeroValue25 rfl rfl rfl ⟨Cel.agg ⟨Up.refl _, Up.refl _, Up.le (Rle.nil _), Up.refl _, trivial⟩, trivial⟩ rfl eTApiChange_len rfl rfl rfl (fun b72 => ?_)
   refine WL.freeze (i := 0) rfl ?_
   refine WL.up (d := 45) (r := rSl 4 (List.map eTApiChange ([(TApiChange.mk ([107] : Str) true ([] : List TApiCell) 2)] : List TApiChange))) rfl (Up.fact (i := 0) rfl) ?_
   obtain ⟨r73, e75, h74⟩ := obn_e h69
   refine wcl (Hr := [.fact (.slice (some ⟨b72, 0, none⟩) 1 1) (rSl 4 (List.map eTApiChange ([(TApiChange.mk ([107] : Str) true ([] : List TApiCell) 2)] : List TApiChange))), .blk b71 (eTApiItem r68.1) 35, .fact (.slice (some ⟨b64, 0, none⟩) 1 1) (rSl 4 (List.map eTApiChange ([r61] : List TApiChange))), .fact (.slice (some ⟨b57, 0, none⟩) 1 1) (rSl 4 (List.map eTApiChange ([r54] : List TApiChange))), .fact (.slice (some ⟨b50, 0, none⟩) 1 1) (rSl 4 (List.map eTApiChange ([r47] : List TApiChange)))]) Tryd.call8 (kApply_w F b4 b5 b6 r68.2.2 ([(TApiChange.mk ([107] : Str) true ([] : List TApiCell) 2)] : List TApiChange) r73 e75) rfl ((perm_front (i := 2) rfl).trans (List.Perm.cons _ ((perm_front (i := 2) rfl).trans (List.Perm.cons _ ((perm_front (i := 2) rfl).trans (List.Perm.cons _ (List.Perm.refl _))))))) rfl ?_
   rintro _ _ ⟨rfl, rfl⟩
   refine wa rfl ?_
   refine wl_y ?_
   obtain ⟨r76, e78, h77⟩ := obn_e h74
   refine wc0 Tryd.call12 (kEncodeN_w F r76 e78) rfl ?_
   refine wm rfl ?_
   refine wv (o_extract rfl rfl) ?_
   refine wv (o_extract rfl rfl) ?_
   refine wa rfl ?_
   refine wa rfl ?_
   refine wl_x ?_
   refine wc_seq_cut (S := (Bool) × (Unit)) (fun σ => lAwake_j2 σ.1 = some r) (fun σ => [(0, rB σ.1)]) (fun σ => []) ?_ ?_
   ·refine wc_region ?_
    refine wm rfl ?_
    refine wv (o_eq rfl rfl) ?_
    refine wm rfl ?_
    refine bsplit (decide (r51.1 = 0)) (fun c113 => ?_) (fun c113 => ?_)
    ·have h114 := cnd_t c113 h77
     refine wo c113 ?_
     refine wm rfl ?_
     refine wo c113 ?_
     refine wv (o_eq rfl rfl) ?_
     refine wpt rfl c113 rfl ?_
     refine wm rfl ?_
     refine bsplit (decide (r58.1 = 19)) (fun c115 => ?_) (fun c115 => ?_)
     ·have h116 := cnd_t c115 h114
      refine wo c115 ?_
      refine wm rfl ?_
      refine wo c115 ?_
      refine wv (o_eq rfl rfl) ?_
      refine wpt rfl c115 rfl ?_
      refine wm rfl ?_
      refine bsplit (decide (r65.1 = 0)) (fun c117 => ?_) (fun c117 => ?_)
      ·have h118 := cnd_t c117 h116
       refine wo c117 ?_
       refine wm rfl ?_
       refine wpt rfl c117 rfl ?_
       refine wm rfl ?_
       refine bsplit (r68.2.1) (fun c119 => ?_) (fun c119 => ?_)
       ·have h120 := cnd_t c119 h118
        refine wo c119 ?_
        refine wv (o_fieldAddr Tryd.underlying35 rfl Tryd.sizeOf3 rfl rfl) ?_
        refine wo c119 ?_
        refine wv (o_load (i := 4) Tryd.isAgg3 rfl rfl rfl) ?_
        refine wo c119 ?_
        refine wv (o_eq rfl rfl) ?_
        refine wpt rfl c119 rfl ?_
        refine wm rfl ?_
        refine bsplit (decide (r68.1.fVersion = 2)) (fun c121 => ?_) (fun c121 => ?_)
        ·have h122 := cnd_t c121 h120
         refine wo c121 ?_
         refine wm rfl ?_
         refine wo c121 ?_
         refine wv (o_eq rfl rfl) ?_
         refine wpt rfl c121 rfl ?_
         refine wm rfl ?_
         refine bsplit (decide (r73.1 = 0)) (fun c123 => ?_) (fun c123 => ?_)
         ·have h124 := cnd_t c123 h122
          refine wo c123 ?_
          refine wm rfl ?_
          refine wo c123 ?_
          obtain ⟨r125, e127, h126⟩ := obn_e h124
          refine wcl (Hr := [.fact (.slice (some ⟨b72, 0, none⟩) 1 1) (rSl 4 (List.map eTApiChange ([(TApiChange.mk ([107] : Str) true ([] : List TApiCell) 2)] : List TApiChange))), .blk b71 (eTApiItem r68.1) 35, .fact (.slice (some ⟨b64, 0, none⟩) 1 1) (rSl 4 (List.map eTApiChange ([r61] : List TApiChange))), .fact (.slice (some ⟨b57, 0, none⟩) 1 1) (rSl 4 (List.map eTApiChange ([r54] : List TApiChange))), .fact (.slice (some ⟨b50, 0, none⟩) 1 1) (rSl 4 (List.map eTApiChange ([r47] : List TApiChange)))]) Tryd.call10 (kLen_w b4 b5 b6 r73.2 r125 e127) rfl (List.Perm.refl _) rfl ?_
          rintro _ _ ⟨rfl, rfl⟩
          refine wo c123 ?_
          refine wv (o_eq rfl rfl) ?_
          refine wpt rfl c123 rfl ?_
          refine wm rfl ?_
          refine bsplit (decide (r125.1 = 0)) (fun c128 => ?_) (fun c128 => ?_)
          ·have h129 := cnd_t c128 h126
           refine wo c128 ?_
           refine wm rfl ?_
           refine wo c128 ?_
           refine wv (o_seq rfl rfl) ?_
           refine wpt rfl c128 rfl ?_
           refine wm rfl ?_
           refine bsplit (decide (r76.1 = ([] : Str))) (fun c130 => ?_) (fun c130 => ?_)
           ·have h131 := cnd_t c130 h129
            refine wo c130 ?_
            refine wm rfl ?_
            refine wo c130 ?_
            refine wv (o_eq rfl rfl) ?_
            refine wpt rfl c130 rfl ?_
            refine wa rfl ?_
            refine wl_nil ?_
            exact wk_then (wk_some (decide (r76.2 = 0), ()) h131 (Sub.c rfl Sub.nil) (sS (sS (sS (sS (sS (sS (sS (sS sN)))))))))
           ·have h132 := cnd_f c130 h129
            refine wf c130 ?_
            refine wf c130 ?_
            refine wv (r := rB false) (o_pick_f (b := decide (r76.1 = ([] : Str))) rfl c130 rfl) ?_
            refine wa rfl ?_
            refine wl_nil ?_
            exact wk_then (wk_some (false, ()) h132 (Sub.c rfl Sub.nil) (sS (sS (sS (sS (sS (sS (sS (sS sN)))))))))
          ·have h133 := cnd_f c128 h126
           refine wf c128 ?_
           refine wf c128 ?_
           refine wv (r := rB false) (o_pick_f (b := decide (r125.1 = 0)) rfl c128 rfl) ?_
           refine wm rfl ?_
           refine wl_off (b := false) rfl rfl rfl rfl ?_
           refine wl_off (b := false) rfl rfl rfl rfl ?_
           refine wv (r := rB false) (o_pick_f (b := false) rfl rfl rfl) ?_
           refine wa rfl ?_
           refine wl_nil ?_
           exact wk_then (wk_some (false, ()) h133 (Sub.c rfl Sub.nil) (sS (sS (sS (sS (sS (sS (sS (sS sN)))))))))
         ·have h134 := cnd_f c123 h122
          refine wf c123 ?_
          refine wf c123 ?_
          refine wf c123 ?_
          refine wv (r := rB false) (o_pick_f (b := decide (r73.1 = 0)) rfl c123 rfl) ?_
          refine wm rfl ?_
          refine wl_off (b := false) rfl rfl rfl rfl ?_
          refine wl_off (b := false) rfl rfl rfl rfl ?_
          refine wv (r := rB false) (o_pick_f (b := false) rfl rfl rfl) ?_
          refine wm rfl ?_
          refine wl_off (b := false) rfl rfl rfl rfl ?_
          refine wl_off (b := false) rfl rfl rfl rfl ?_
          refine wv (r := rB false) (o_pick_f (b := false) rfl rfl rfl) ?_
          refine wa rfl ?_
          refine wl_nil ?_
          exact wk_then (wk_some (false, ()) h134 (Sub.c rfl Sub.nil) (sS (sS (sS (sS (sS (sS (sS (sS sN)))))))))
        ·have h135 := cnd_f c121 h120
         refine wf c121 ?_
         refine wf c121 ?_
         refine wv (r := rB false) (o_pick_f (b := decide (r68.1.fVersion = 2)) rfl c121 rfl) ?_
         refine wm rfl ?_
         refine wl_off (b := false) rfl rfl rfl rfl ?_
         refine wl_off (b := false) rfl rfl rfl rfl ?_
         refine wl_off (b := false) rfl rfl rfl rfl ?_
         refine wv (r := rB false) (o_pick_f (b := false) rfl rfl rfl) ?_
         refine wm rfl ?_
         refine wl_off (b := false) rfl rfl rfl rfl ?_
         refine wl_off (b := false) rfl rfl rfl rfl ?_
         refine wv (r := rB false) (o_pick_f (b := false) rfl rfl rfl) ?_
         refine wm rfl ?_
         refine wl_off (b := false) rfl rfl rfl rfl ?_
         refine wl_off (b := false) rfl rfl rfl rfl ?_
         refine wv (r := rB false) (o_pick_f (b := false) rfl rfl rfl) ?_
         refine wa rfl ?_
         refine wl_nil ?_
         exact wk_then (wk_some (false, ()) h135 (Sub.c rfl Sub.nil) (sS (sS (sS (sS (sS (sS (sS (sS sN)))))))))
       ·have h136 := cnd_f c119 h118
        refine wf c119 ?_
        refine wf c119 ?_
        refine wf c119 ?_
        refine wv (r := rB false) (o_pick_f (b := r68.2.1) rfl c119 rfl) ?_
        refine wm rfl ?_
        refine wl_off (b := false) rfl rfl rfl rfl ?_
        refine wl_off (b := false) rfl rfl rfl rfl ?_
        refine wv (r := rB false) (o_pick_f (b := false) rfl rfl rfl) ?_
        refine wm rfl ?_
        refine wl_off (b := false) rfl rfl rfl rfl ?_
        refine wl_off (b := false) rfl rfl rfl rfl ?_
        refine wl_off (b := false) rfl rfl rfl rfl ?_
        refine wv (r := rB false) (o_pick_f (b := false) rfl rfl rfl) ?_
        refine wm rfl ?_
        refine wl_off (b := false) rfl rfl rfl rfl ?_
        refine wl_off (b := false) rfl rfl rfl rfl ?_
        refine wv (r := rB false) (o_pick_f (b := false) rfl rfl rfl) ?_
        refine wm rfl ?_
        refine wl_off (b := false) rfl rfl rfl rfl ?_
        refine wl_off (b := false) rfl rfl rfl rfl ?_
        refine wv (r := rB false) (o_pick_f (b := false) rfl rfl rfl) ?_
        refine wa rfl ?_
        refine wl_nil ?_
        exact wk_then (wk_some (false, ()) h136 (Sub.c rfl Sub.nil) (sS (sS (sS (sS (sS (sS (sS (sS sN)))))))))
      ·have h137 := cnd_f c117 h116
       refine wf c117 ?_
       refine wv (r := rB false) (o_pick_f (b := decide (r65.1 = 0)) rfl c117 rfl) ?_
       refine wm rfl ?_
       refine wl_off (b := false) rfl rfl rfl rfl ?_
       refine wl_off (b := false) rfl rfl rfl rfl ?_
       refine wl_off (b := false) rfl rfl rfl rfl ?_
       refine wv (r := rB false) (o_pick_f (b := false) rfl rfl rfl) ?_
       refine wm rfl ?_
       refine wl_off (b := false) rfl rfl rfl rfl ?_
       refine wl_off (b := false) rfl rfl rfl rfl ?_
       refine wv (r := rB false) (o_pick_f (b := false) rfl rfl rfl) ?_
       refine wm rfl ?_
       refine wl_off (b := false) rfl rfl rfl rfl ?_
       refine wl_off (b := false) rfl rfl rfl rfl ?_
       refine wl_off (b := false) rfl rfl rfl rfl ?_
       refine wv (r := rB false) (o_pick_f (b := false) rfl rfl rfl) ?_
       refine wm rfl ?_
       refine wl_off (b := false) rfl rfl rfl rfl ?_
       refine wl_off (b := false) rfl rfl rfl rfl ?_
       refine wv (r := rB false) (o_pick_f (b := false) rfl rfl rfl) ?_
       refine wm rfl ?_
       refine wl_off (b := false) rfl rfl rfl rfl ?_
       refine wl_off (b := false) rfl rfl rfl rfl ?_
       refine wv (r := rB false) (o_pick_f (b := false) rfl rfl rfl) ?_
       refine wa rfl ?_
       refine wl_nil ?_
       exact wk_then (wk_some (false, ()) h137 (Sub.c rfl Sub.nil) (sS (sS (sS (sS (sS (sS (sS (sS sN)))))))))
     ·have h138 := cnd_f c115 h114
      refine wf c115 ?_
      refine wf c115 ?_
      refine wv (r := rB false) (o_pick_f (b := decide (r58.1 = 19)) rfl c115 rfl) ?_
      refine wm rfl ?_
      refine wl_off (b := false) rfl rfl rfl rfl ?_
      refine wv (r := rB false) (o_pick_f (b := false) rfl rfl rfl) ?_
      refine wm rfl ?_
      refine wl_off (b := false) rfl rfl rfl rfl ?_
      refine wl_off (b := false) rfl rfl rfl rfl ?_
      refine wl_off (b := false) rfl rfl rfl rfl ?_
      refine wv (r := rB false) (o_pick_f (b := false) rfl rfl rfl) ?_
      refine wm rfl ?_
      refine wl_off (b := false) rfl rfl rfl rfl ?_
      refine wl_off (b := false) rfl rfl rfl rfl ?_
      refine wv (r := rB false) (o_pick_f (b := false) rfl rfl rfl) ?_
      refine wm rfl ?_
      refine wl_off (b := false) rfl rfl rfl rfl ?_
      refine wl_off (b := false) rfl rfl rfl rfl ?_
      refine wl_off (b := false) rfl rfl rfl rfl ?_
      refine wv (r := rB false) (o_pick_f (b := false) rfl rfl rfl) ?_
      refine wm rfl ?_
      refine wl_off (b := false) rfl rfl rfl rfl ?_
      refine wl_off (b := false) rfl rfl rfl rfl ?_
      refine wv (r := rB false) (o_pick_f (b := false) rfl rfl rfl) ?_
      refine wm rfl ?_
      refine wl_off (b := false) rfl rfl rfl rfl ?_
      refine wl_off (b := false) rfl rfl rfl rfl ?_
      refine wv (r := rB false) (o_pick_f (b := false) rfl rfl rfl) ?_
      refine wa rfl ?_
      refine wl_nil ?_
      exact wk_then (wk_some (false, ()) h138 (Sub.c rfl Sub.nil) (sS (sS (sS (sS (sS (sS (sS (sS sN)))))))))
    ·have h139 := cnd_f c113 h77
     refine wf c113 ?_
     refine wf c113 ?_
     refine wv (r := rB false) (o_pick_f (b := decide (r51.1 = 0)) rfl c113 rfl) ?_
     refine wm rfl ?_
     refine wl_off (b := false) rfl rfl rfl rfl ?_
     refine wl_off (b := false) rfl rfl rfl rfl ?_
     refine wv (r := rB false) (o_pick_f (b := false) rfl rfl rfl) ?_
     refine wm rfl ?_
     refine wl_off (b := false) rfl rfl rfl rfl ?_
     refine wv (r := rB false) (o_pick_f (b := false) rfl rfl rfl) ?_
     refine wm rfl ?_
     refine wl_off (b := false) rfl rfl rfl rfl ?_
     refine wl_off (b := false) rfl rfl rfl rfl ?_
     refine wl_off (b := false) rfl rfl rfl rfl ?_
     refine wv (r := rB false) (o_pick_f (b := false) rfl rfl rfl) ?_
     refine wm rfl ?_
     refine wl_off (b := false) rfl rfl rfl rfl ?_
     refine wl_off (b := false) rfl rfl rfl rfl ?_
     refine wv (r := rB false) (o_pick_f (b := false) rfl rfl rfl) ?_
     refine wm rfl ?_
     refine wl_off (b := false) rfl rfl rfl rfl ?_
     refine wl_off (b := false) rfl rfl rfl rfl ?_
     refine wl_off (b := false) rfl rfl rfl rfl ?_
     refine wv (r := rB false) (o_pick_f (b := false) rfl rfl rfl) ?_
     refine wm rfl ?_
     refine wl_off (b := false) rfl rfl rfl rfl ?_
     refine wl_off (b := false) rfl rfl rfl rfl ?_
     refine wv (r := rB false) (o_pick_f (b := false) rfl rfl rfl) ?_
     refine wm rfl ?_
     refine wl_off (b := false) rfl rfl rfl rfl ?_
     refine wl_off (b := false) rfl rfl rfl rfl ?_
     refine wv (r := rB false) (o_pick_f (b := false) rfl rfl rfl) ?_
     refine wa rfl ?_
     refine wl_nil ?_
     exact wk_then (wk_some (false, ()) h139 (Sub.c rfl Sub.nil) (sS (sS (sS (sS (sS (sS (sS (sS sN)))))))))
   ·rintro ⟨x112, ⟨⟩⟩ h140
    refine wc_as (l' := [(0, rB x112)]) (H' := []) rfl rfl ?_
    replace h140 : lAwake_j2 x112 = some r := h140
    unfold lAwake_j2 at h140
    refine wc_ret ?_
    obtain rfl := some_e h140
    exact wk_ret (r_1 Tryd.results6 (rv_t rfl)) sN ⟨rfl, rfl⟩

theorem lConditions_w (F : Nat) (l : (List (List TApiChange))) (c : TApiChange) (r : Bool) (h : lConditions F l c = some r) : Fn Tryd.prog GE 3 [rSl 1 (List.map eL_TApiChange l), rAgg (eTApiChange c)] [] (fun R H => R = rB r ∧ H = []) := by
 refine enter (n := 140) Tryd.func3 rfl Tryd.ntmps3 rfl (fun w Z => ?_)
 refine wc_as (l' := [(0, rSl 1 (List.map eL_TApiChange l)), (1, rAgg (eTApiChange c))]) (H' := []) rfl rfl ?_
 unfold lConditions at h
 refine wc_sr ?_
 refine w_box_agg rfl rfl (fun b1 => ?_)
 refine wv (r := rB false) (o_assign rfl) ?_
 refine wl_x ?_
 refine wc_seq ?_
 obtain ⟨g2, h3⟩ := chk_e h
 obtain ⟨g4, h5⟩ := chk_e h3
 refine wc_seq_mid [(0, rSl 1 (List.map eL_TApiChange l)), (3, rv (.pointer (some ⟨b1, 0, none⟩))), (31, rB ((!(ov (lFew F l))) || ((!(ov (lSmall F ([c] : List TApiChange)))) || ((decide (c.fIfVersion < 0)) || (decide (1000 < c.fIfVersion))))))] [.blk b1 (eTApiChange c) 25] ?_ ?_
 ·refine wc_region ?_
  refine wm rfl ?_
  refine wc0 Tryd.call4 (lFew_w F l (ov (lFew F l)) (ov_e g2)) rfl ?_
  refine wv (o_not rfl) ?_
  refine wm rfl ?_
  refine bsplit (!(ov (lFew F l))) (fun c6 => ?_) (fun c6 => ?_)
  ·refine wf c6 ?_
   refine wf c6 ?_
   refine wf c6 ?_
   refine wf c6 ?_
   refine wv (r := rB true) (o_pick_t (b := !(ov (lFew F l))) rfl c6 rfl) ?_
   refine wm rfl ?_
   refine wl_off (b := true) rfl rfl rfl rfl ?_
   refine wl_off (b := true) rfl rfl rfl rfl ?_
   refine wl_off (b := true) rfl rfl rfl rfl ?_
   refine wv (r := rB true) (o_pick_t (b := true) rfl rfl rfl) ?_
   refine wm rfl ?_
   refine wl_off (b := true) rfl rfl rfl rfl ?_
   refine wl_off (b := true) rfl rfl rfl rfl ?_
   refine wl_off (b := true) rfl rfl rfl rfl ?_
   refine wv (r := rB true) (o_pick_t (b := true) rfl rfl rfl) ?_
   refine wl_nil ?_
   exact wtc c6
  ·refine wo c6 ?_
   refine wv (o_load_agg (i := 0) Tryd.isAgg25 Tryd.sizeOf25 rfl rfl rfl rfl) ?_
   refine wo c6 ?_
   refine w_buildSlice (ys := ([c] : List TApiChange)) (enc := eTApiChange) (css := [[rS c.fKey, rB c.fDelete, rSl 4 (List.map eTApiCell c.fValue), rI .i64 c.fIfVersion]]) (xs := [.tmp 17]) Tryd.underlying28 Tryd.sizeOf25 Tryd.zeroValue25 rfl rfl rfl ⟨Cel.agg ⟨Up.refl _, Up.refl _, Up.refl _, Up.refl _, trivial⟩, trivial⟩ rfl eTApiChange_len rfl rfl rfl (fun b7 => ?_)
   refine wo c6 ?_
   refine WL.freeze (i := 0) rfl ?_
   refine WL.up (d := 18) (r := rSl 4 (List.map eTApiChange ([c] : List TApiChange))) rfl (Up.fact (i := 0) rfl) ?_
   refine wc0 Tryd.call5 (lSmall_w F ([c] : List TApiChange) (ov (lSmall F ([c] : List TApiChange))) (ov_e (imp_f g4 c6))) rfl ?_
   refine wo c6 ?_
   refine wv (o_not rfl) ?_
   refine wpf rfl c6 rfl ?_
   refine wm rfl ?_
   refine bsplit (!(ov (lSmall F ([c] : List TApiChange)))) (fun c8 => ?_) (fun c8 => ?_)
   ·refine wf c8 ?_
    refine wf c8 ?_
    refine wf c8 ?_
    refine wv (r := rB true) (o_pick_t (b := !(ov (lSmall F ([c] : List TApiChange)))) rfl c8 rfl) ?_
    refine wm rfl ?_
    refine wl_off (b := true) rfl rfl rfl rfl ?_
    refine wl_off (b := true) rfl rfl rfl rfl ?_
    refine wl_off (b := true) rfl rfl rfl rfl ?_
    refine wv (r := rB true) (o_pick_t (b := true) rfl rfl rfl) ?_
    refine wl_nil ?_
    exact wtc (And.intro c6 c8)
   ·refine wo c8 ?_
    refine wv (o_fieldAddr Tryd.underlying25 rfl Tryd.sizeOf3 rfl rfl) ?_
    refine wo c8 ?_
    refine wv (o_load (i := 1) Tryd.isAgg3 rfl rfl rfl) ?_
    refine wo c8 ?_
    refine wv (o_lt rfl rfl) ?_
    refine wpf rfl c8 rfl ?_
    refine wm rfl ?_
    refine bsplit (decide (c.fIfVersion < 0)) (fun c9 => ?_) (fun c9 => ?_)
    ·refine wf c9 ?_
     refine wf c9 ?_
     refine wf c9 ?_
     refine wv (r := rB true) (o_pick_t (b := decide (c.fIfVersion < 0)) rfl c9 rfl) ?_
     refine wl_nil ?_
     exact wtc (And.intro c6 (And.intro c8 c9))
    ·refine wo c9 ?_
     refine wv (o_fieldAddr Tryd.underlying25 rfl Tryd.sizeOf3 rfl rfl) ?_
     refine wo c9 ?_
     refine wv (o_load (i := 1) Tryd.isAgg3 rfl rfl rfl) ?_
     refine wo c9 ?_
     refine wv (o_gt rfl rfl) ?_
     refine wpf rfl c9 rfl ?_
     refine wl_nil ?_
     exact wtc (And.intro c6 (And.intro c8 c9))
 refine wc_cond (b := ((!(ov (lFew F l))) || ((!(ov (lSmall F ([c] : List TApiChange)))) || ((decide (c.fIfVersion < 0)) || (decide (1000 < c.fIfVersion)))))) rfl (fun c10 => ?_) (fun c10 => ?_)
 ·have h11 := cnd_t c10 h5
  refine wc_sr ?_
  obtain ⟨r12, e14, h13⟩ := obn_e h11
  refine wc0 Tryd.call6 (lAwake_w F r12 e14) rfl ?_
  refine wa rfl ?_
  refine wl_x ?_
  refine wc_ret ?_
  refine wk_then_ret ?_
  obtain rfl := some_e h13
  exact wk_ret (r_1 Tryd.results3 (rv_t rfl)) (sS sN) ⟨rfl, rfl⟩
 ·have h15 := cnd_f c10 h5
  refine wc_skip ?_
  refine wk_x ?_
  refine wc_sr ?_
  obtain ⟨r16, e18, h17⟩ := obn_e h15
  refine wcl (Hr := [.blk b1 (eTApiChange c) 25]) Tryd.call7 (kNew_w r16 e18) rfl (List.Perm.refl _) rfl ?_
  rintro _ _ ⟨b19, b20, b21, rfl, rfl⟩
  refine wa rfl ?_
  refine wl_x ?_
  refine wc_seq ?_
  refine wc_sr ?_
  refine wm rfl ?_
  refine wv (r := rB false) (o_pnil ⟨_, Tryd.underlying30⟩ rfl) ?_
  refine wl_x ?_
  refine wc_cond_f rfl rfl ?_
  refine wc_skip ?_
  refine wk_x ?_
  refine wc_seq ?_
  refine wc_sr ?_
  refine wm rfl ?_
  refine wv (o_len_zt (ys := l) (enc := eL_TApiChange) Tryd.underlying22 rfl) ?_
  refine wv (r := rI .i64 0) (o_move rfl) ?_
  refine wl_x ?_
  refine wc_block ?_
  obtain ⟨o58, eo59, hK60⟩ := obn_e h17
  refine wc_loop2 (S := Nat × (Int × (List (Str × TApiItem)) × (List (Str × TApiItem))) × (Unit)) (V := ((List (Str × TApiItem)) × (List (Str × TApiItem))) × (Unit)) 0 (fun σ => lop (fun σ => lConditions_b1 F l σ.1 σ.2.1 σ.2.2) σ.1 σ.2.1 = some o58) (fun σ => [(0, rSl 1 (List.map eL_TApiChange l)), (3, rv (.pointer (some ⟨b1, 0, none⟩))), (5, rv (.pointer (some ⟨b19, 0, none⟩))), (37, rI .i64 (l.length : Int)), (38, rI .i64 σ.2.1.1)]) (fun σ => [.blk b19 [rv (.map (some b20)), rv (.map (some b21))] 48, .map b20 (menc m_TApiItem σ.2.1.2.1), .map b21 (menc m_TApiItem σ.2.1.2.2), .blk b1 (eTApiChange c) 25]) (fun σ => σ.1) (F, (0, r16.fItems, r16.fChanged), ()) eo59 (Sub.c5 rfl rfl rfl rfl rfl Sub.nil) (sC (sC (sC (sC sN)))) (fun σ => lConditions_k1 F c σ.1.1 σ.1.2 = some r) (fun σ => [(3, rv (.pointer (some ⟨b1, 0, none⟩))), (5, rv (.pointer (some ⟨b19, 0, none⟩)))]) (fun σ => [.blk b19 [rv (.map (some b20)), rv (.map (some b21))] 48, .map b20 (menc m_TApiItem σ.1.1), .map b21 (menc m_TApiItem σ.1.2), .blk b1 (eTApiChange c) 25]) ?_ ?_
  ·rintro ⟨n66, ⟨x43, x44, x45⟩, ⟨⟩⟩ hi64
   refine wc_as (l' := [(0, rSl 1 (List.map eL_TApiChange l)), (3, rv (.pointer (some ⟨b1, 0, none⟩))), (5, rv (.pointer (some ⟨b19, 0, none⟩))), (37, rI .i64 (l.length : Int)), (38, rI .i64 x43)]) (H' := [.blk b19 [rv (.map (some b20)), rv (.map (some b21))] 48, .map b20 (menc m_TApiItem x44), .map b21 (menc m_TApiItem x45), .blk b1 (eTApiChange c) 25]) rfl rfl ?_
   obtain ⟨m63, rfl, t61, h65, ht62⟩ := lop_e hi64
   replace h65 : lConditions_b1 F l x43 x44 x45 = some t61 := h65
   unfold lConditions_b1 at h65
   refine wc_sr ?_
   refine wv (o_lt rfl rfl) ?_
   refine wl_x ?_
   refine wc_seq ?_
   refine wc_cond (b := decide (x43 < (l.length : Int))) rfl (fun c67 => ?_) (fun c67 => ?_)
   ·have h68 := cnd_t c67 h65
    refine wc_skip ?_
    refine wk_x ?_
    refine wc_seq ?_
    refine wc_block ?_
    refine wc_sr ?_
    refine wm rfl ?_
    refine wa rfl ?_
    refine wl_x ?_
    refine wc_region ?_
    refine wm rfl ?_
    refine wm rfl ?_
    refine wm rfl ?_
    obtain ⟨g69, h70⟩ := chk_e h68
    refine wv (o_ix_z (enc := eL_TApiChange) (ys := l) Tryd.underlying22 Tryd.sizeOf28 rfl rfl g69) ?_
    refine wv (o_load_z Tryd.isAgg28 rfl rfl) ?_
    obtain ⟨r71, e73, h72⟩ := obn_e h70
    refine wcl (Hr := [.blk b1 (eTApiChange c) 25]) Tryd.call8 (kApply_w F b19 b20 b21 (TKvStore.mk x44 x45) (at' l x43) r71 e73) rfl (List.Perm.refl _) rfl ?_
    rintro _ _ ⟨rfl, rfl⟩
    refine wl_nil ?_
    refine wk_in_norm ?_
    refine wk_x ?_
    refine wc_region ?_
    obtain ⟨g74, h75⟩ := chk_e h72
    refine wv (o_add rfl rfl g74) ?_
    refine wm rfl ?_
    refine wl_nil ?_
    have h76 := stp_next h75 ht62
    exact wk_then (wk_some (m63, (x43 + 1, r71.2.fItems, r71.2.fChanged), ()) ⟨h76, Nat.lt_succ_self _⟩ (Sub.c5 rfl rfl rfl rfl rfl Sub.nil) (sC (sC (sC (sC sN)))))
   ·have h77 := cnd_f c67 h65
    refine wc_exit ?_
    refine wk_then_exit ?_
    have h78 := stp_go h77 ht62 hK60
    exact wk_then_exit (wk_cut_hit (wk_some ((x44, x45), ()) h78 (Sub.c rfl (Sub.c rfl Sub.nil)) (sC (sC (sC (sC sN))))))
  ·rintro ⟨⟨x56, x57⟩, ⟨⟩⟩ h79
   refine wk_as (l' := [(3, rv (.pointer (some ⟨b1, 0, none⟩))), (5, rv (.pointer (some ⟨b19, 0, none⟩)))]) (H' := [.blk b19 [rv (.map (some b20)), rv (.map (some b21))] 48, .map b20 (menc m_TApiItem x56), .map b21 (menc m_TApiItem x57), .blk b1 (eTApiChange c) 25]) rfl rfl ?_
   replace h79 : lConditions_k1 F c x56 x57 = some r := h79
   unfold lConditions_k1 at h79
   refine wk_in_hit ?_
   refine wk_x ?_
   refine wc_sr ?_
   refine wm rfl ?_
   refine wv (o_fieldAddr Tryd.underlying25 rfl Tryd.sizeOf9 rfl rfl) ?_
   refine wv (o_load (i := 3) Tryd.isAgg9 rfl rfl rfl) ?_
   obtain ⟨r80, e82, h81⟩ := obn_e h79
   refine wcl (Hr := [.blk b1 (eTApiChange c) 25]) Tryd.call9 (kGet_w b19 b20 b21 (TKvStore.mk x56 x57) c.fKey r80 e82) rfl (List.Perm.refl _) rfl ?_
   rintro _ _ ⟨rfl, rfl⟩
   refine wm rfl ?_
   refine wv (o_extract rfl rfl) ?_
   refine wv (o_extract rfl rfl) ?_
   refine w_alloc (cs := [rS ([] : Str), rv (.slice none 0 0), rI .i64 0]) Tryd.zeroValue35 rfl rfl (fun b83 => ?_)
   refine u_store_agg (i := 0) Tryd.sizeOf35 rfl rfl rfl (OneAll.c rfl) rfl rfl (cs' := [rS r80.1.fKey, rSl 4 (List.map eTApiCell r80.1.fValue), rI .i64 r80.1.fVersion]) rfl (H' := [.blk b83 (eTApiItem r80.1) 35, .blk b19 [rv (.map (some b20)), rv (.map (some b21))] 48, .map b20 (menc m_TApiItem r80.2.2.fItems), .map b21 (menc m_TApiItem r80.2.2.fChanged), .blk b1 (eTApiChange c) 25]) rfl ?_
   refine wa rfl ?_
   refine wl_y ?_
   refine wm rfl ?_
   obtain ⟨r84, e86, h85⟩ := obn_e h81
   refine wcl (Hr := [.blk b83 (eTApiItem r80.1) 35, .blk b1 (eTApiChange c) 25]) Tryd.call10 (kLen_w b19 b20 b21 r80.2.2 r84 e86) rfl ((perm_front (i := 1) rfl).trans (List.Perm.cons _ ((perm_front (i := 1) rfl).trans (List.Perm.cons _ ((perm_front (i := 1) rfl).trans (List.Perm.cons _ (List.Perm.refl _))))))) rfl ?_
   rintro _ _ ⟨rfl, rfl⟩
   refine wa rfl ?_
   refine wl_y ?_
   refine wm rfl ?_
   refine wv (o_load_agg (i := 4) Tryd.isAgg25 Tryd.sizeOf25 rfl rfl rfl rfl) ?_
   refine w_buildSlice (ys := ([c] : List TApiChange)) (enc := eTApiChange) (css := [[rS c.fKey, rB c.fDelete, rSl 4 (List.map eTApiCell c.fValue), rI .i64 c.fIfVersion]]) (xs := [.tmp 58]) Tryd.underlying28 Tryd.sizeOf25 Tryd.zeroValue25 rfl rfl rfl ⟨Cel.agg ⟨Up.refl _, Up.refl _, Up.refl _, Up.refl _, trivial⟩, trivial⟩ rfl eTApiChange_len rfl rfl rfl (fun b87 => ?_)
   refine WL.freeze (i := 0) rfl ?_
   refine WL.up (d := 59) (r := rSl 4 (List.map eTApiChange ([c] : List TApiChange))) rfl (Up.fact (i := 0) rfl) ?_
   obtain ⟨r88, e90, h89⟩ := obn_e h85
   refine wcl (Hr := [.fact (.slice (some ⟨b87, 0, none⟩) 1 1) (rSl 4 (List.map eTApiChange ([c] : List TApiChange))), .blk b83 (eTApiItem r80.1) 35, .blk b1 (eTApiChange c) 25]) Tryd.call8 (kApply_w F b19 b20 b21 r84.2 ([c] : List TApiChange) r88 e90) rfl ((perm_front (i := 1) rfl).trans (List.Perm.cons _ ((perm_front (i := 1) rfl).trans (List.Perm.cons _ ((perm_front (i := 1) rfl).trans (List.Perm.cons _ (List.Perm.refl _))))))) rfl ?_
   rintro _ _ ⟨rfl, rfl⟩
   refine wa rfl ?_
   refine wl_x ?_
   refine wc_seq ?_
   refine wc_seq_mid [(3, rv (.pointer (some ⟨b1, 0, none⟩))), (5, rv (.pointer (some ⟨b19, 0, none⟩))), (7, rv (.pointer (some ⟨b83, 0, none⟩))), (8, rB r80.2.1), (9, rI .i64 r84.1), (10, rI .i64 r88.1), (66, rB ((!decide (r88.1 = 0)) && (!decide (r88.1 = 19))))] [.blk b19 [rv (.map (some b20)), rv (.map (some b21))] 48, .map b20 (menc m_TApiItem r88.2.fItems), .map b21 (menc m_TApiItem r88.2.fChanged), .blk b83 (eTApiItem r80.1) 35, .blk b1 (eTApiChange c) 25] ?_ ?_
   ·refine wc_region ?_
    refine wm rfl ?_
    refine wv (o_ne rfl rfl) ?_
    refine wm rfl ?_
    refine bsplit (!decide (r88.1 = 0)) (fun c91 => ?_) (fun c91 => ?_)
    ·refine wo c91 ?_
     refine wm rfl ?_
     refine wo c91 ?_
     refine wv (o_ne rfl rfl) ?_
     refine wpt rfl c91 rfl ?_
     refine wl_nil ?_
     exact wtc c91
    ·refine wf c91 ?_
     refine wf c91 ?_
     refine wv (r := rB false) (o_pick_f (b := !decide (r88.1 = 0)) rfl c91 rfl) ?_
     refine wl_nil ?_
     exact wtc c91
   refine wc_cond (b := ((!decide (r88.1 = 0)) && (!decide (r88.1 = 19)))) rfl (fun c92 => ?_) (fun c92 => ?_)
   ·have h93 := cnd_t c92 h89
    refine wc_sr ?_
    obtain ⟨r94, e96, h95⟩ := obn_e h93
    refine wc0 Tryd.call6 (lAwake_w F r94 e96) rfl ?_
    refine wa rfl ?_
    refine wl_x ?_
    refine wc_ret ?_
    refine wk_then_ret ?_
    obtain rfl := some_e h95
    exact wk_ret (r_1 Tryd.results3 (rv_t rfl)) (sS (sS (sS (sS (sS sN))))) ⟨rfl, rfl⟩
   ·have h97 := cnd_f c92 h89
    refine wc_skip ?_
    refine wk_x ?_
    refine wc_seq ?_
    refine wc_seq_mid [(3, rv (.pointer (some ⟨b1, 0, none⟩))), (5, rv (.pointer (some ⟨b19, 0, none⟩))), (8, rB r80.2.1), (9, rI .i64 r84.1), (10, rI .i64 r88.1), (87, rB (bif r80.2.1 then (bif decide (r80.1.fVersion = c.fIfVersion) then !((decide (r88.1 = 0)) == true) else !((decide (r88.1 = 0)) == false)) else !((decide (r88.1 = 0)) == (decide (c.fIfVersion = 0)))))] [.blk b19 [rv (.map (some b20)), rv (.map (some b21))] 48, .map b20 (menc m_TApiItem r88.2.fItems), .map b21 (menc m_TApiItem r88.2.fChanged), .blk b1 (eTApiChange c) 25] ?_ ?_
    ·refine wc_region ?_
     refine wm rfl ?_
     refine wv (o_eq rfl rfl) ?_
     refine wm rfl ?_
     refine wm rfl ?_
     refine bsplit (r80.2.1) (fun c98 => ?_) (fun c98 => ?_)
     ·refine wo c98 ?_
      refine wv (o_fieldAddr Tryd.underlying35 rfl Tryd.sizeOf3 rfl rfl) ?_
      refine wo c98 ?_
      refine wv (o_load (i := 3) Tryd.isAgg3 rfl rfl rfl) ?_
      refine wo c98 ?_
      refine wv (o_fieldAddr Tryd.underlying25 rfl Tryd.sizeOf3 rfl rfl) ?_
      refine wo c98 ?_
      refine wv (o_load (i := 4) Tryd.isAgg3 rfl rfl rfl) ?_
      refine wo c98 ?_
      refine wv (o_eq rfl rfl) ?_
      refine wpt rfl c98 rfl ?_
      refine wm rfl ?_
      refine bsplit (decide (r80.1.fVersion = c.fIfVersion)) (fun c99 => ?_) (fun c99 => ?_)
      ·refine wf c99 ?_
       refine wf c99 ?_
       refine wf c99 ?_
       refine wu ?_
       refine wu ?_
       refine wu ?_
       refine wf c99 ?_
       refine wv (r := rB true) (o_pick_t (b := decide (r80.1.fVersion = c.fIfVersion)) rfl c99 rfl) ?_
       refine wv (r := rB (!((decide (r88.1 = 0)) == true))) (o_bne Tryd.underlying4 rfl rfl) ?_
       refine wl_nil ?_
       exact wtc (And.intro c98 c99)
      ·refine wo c99 ?_
       refine wm rfl ?_
       refine wo c99 ?_
       refine wv (o_not rfl) ?_
       refine wo c99 ?_
       refine wm rfl ?_
       refine wl_off (b := !r80.2.1) rfl rfl (not_t c98) rfl ?_
       refine wl_off (b := !r80.2.1) rfl rfl (not_t c98) rfl ?_
       refine wl_off (b := !r80.2.1) rfl rfl (not_t c98) rfl ?_
       refine wo c99 ?_
       refine wv (r := rB false) (o_pick_f (b := !r80.2.1) rfl (not_t c98) rfl) ?_
       refine wpf rfl c99 rfl ?_
       refine wv (r := rB (!((decide (r88.1 = 0)) == false))) (o_bne Tryd.underlying4 rfl rfl) ?_
       refine wl_nil ?_
       exact wtc (And.intro c98 c99)
     ·refine wf c98 ?_
      refine wf c98 ?_
      refine wf c98 ?_
      refine wf c98 ?_
      refine wf c98 ?_
      refine wv (r := rB false) (o_pick_f (b := r80.2.1) rfl c98 rfl) ?_
      refine wm rfl ?_
      refine wl_on (b := false) rfl rfl rfl ?_
      refine wm rfl ?_
      refine wl_on (b := false) rfl rfl rfl ?_
      refine wv (o_not rfl) ?_
      refine wl_on (b := false) rfl rfl rfl ?_
      refine wm rfl ?_
      refine wl_on (b := !r80.2.1) rfl rfl (not_f c98) ?_
      refine wv (o_fieldAddr Tryd.underlying25 rfl Tryd.sizeOf3 rfl rfl) ?_
      refine wl_on (b := !r80.2.1) rfl rfl (not_f c98) ?_
      refine wv (o_load (i := 4) Tryd.isAgg3 rfl rfl rfl) ?_
      refine wl_on (b := !r80.2.1) rfl rfl (not_f c98) ?_
      refine wv (o_eq rfl rfl) ?_
      refine wl_on (b := false) rfl rfl rfl ?_
      refine wv (r := rB (decide (c.fIfVersion = 0))) (o_pick_t (b := !r80.2.1) rfl (not_f c98) rfl) ?_
      refine wv (r := rB (decide (c.fIfVersion = 0))) (o_pick_f (b := false) rfl rfl rfl) ?_
      refine wv (r := rB (!((decide (r88.1 = 0)) == (decide (c.fIfVersion = 0))))) (o_bne Tryd.underlying4 rfl rfl) ?_
      refine wl_nil ?_
      exact wtc c98
    refine wc_cond (b := (bif r80.2.1 then (bif decide (r80.1.fVersion = c.fIfVersion) then !((decide (r88.1 = 0)) == true) else !((decide (r88.1 = 0)) == false)) else !((decide (r88.1 = 0)) == (decide (c.fIfVersion = 0))))) rfl (fun c100 => ?_) (fun c100 => ?_)
    ·have h101 := cnd_t c100 h97
     refine wc_sr ?_
     refine wv (r := rB false) (o_assign rfl) ?_
     refine wl_x ?_
     refine wc_ret ?_
     refine wk_then_ret ?_
     obtain rfl := some_e h101
     exact wk_ret (r_1 Tryd.results3 (rv_t rfl)) (sS (sS (sS (sS sN)))) ⟨rfl, rfl⟩
    ·have h102 := cnd_f c100 h97
     refine wc_skip ?_
     refine wk_x ?_
     refine wc_seq ?_
     refine wc_sr ?_
     refine wm rfl ?_
     refine wv (o_ne rfl rfl) ?_
     refine wl_x ?_
     refine wc_cond (b := !decide (r88.1 = 0)) rfl (fun c103 => ?_) (fun c103 => ?_)
     ·have h104 := cnd_t c103 h102
      refine wc_sr ?_
      obtain ⟨r105, e107, h106⟩ := obn_e h104
      refine wc0 Tryd.call6 (lAwake_w F r105 e107) rfl ?_
      refine wa rfl ?_
      refine wl_x ?_
      refine wc_ret ?_
      refine wk_then_ret ?_
      obtain rfl := some_e h106
      exact wk_ret (r_1 Tryd.results3 (rv_t rfl)) (sS (sS (sS (sS sN)))) ⟨rfl, rfl⟩
     ·have h108 := cnd_f c103 h102
      refine wc_skip ?_
      refine wk_x ?_
      refine wc_sr ?_
      refine wm rfl ?_
      refine wv (o_fieldAddr Tryd.underlying25 rfl Tryd.sizeOf9 rfl rfl) ?_
      refine wv (o_load (i := 3) Tryd.isAgg9 rfl rfl rfl) ?_
      obtain ⟨r109, e111, h110⟩ := obn_e h108
      refine wcl (Hr := [.blk b1 (eTApiChange c) 25]) Tryd.call9 (kGet_w b19 b20 b21 r88.2 c.fKey r109 e111) rfl (List.Perm.refl _) rfl ?_
      rintro _ _ ⟨rfl, rfl⟩
      refine wm rfl ?_
      refine wv (o_extract rfl rfl) ?_
      refine wv (o_extract rfl rfl) ?_
      refine w_alloc (cs := [rS ([] : Str), rv (.slice none 0 0), rI .i64 0]) Tryd.zeroValue35 rfl rfl (fun b112 => ?_)
      refine u_store_agg (i := 0) Tryd.sizeOf35 rfl rfl rfl (OneAll.c rfl) rfl rfl (cs' := [rS r109.1.fKey, rSl 4 (List.map eTApiCell r109.1.fValue), rI .i64 r109.1.fVersion]) rfl (H' := [.blk b112 (eTApiItem r109.1) 35, .blk b19 [rv (.map (some b20)), rv (.map (some b21))] 48, .map b20 (menc m_TApiItem r109.2.2.fItems), .map b21 (menc m_TApiItem r109.2.2.fChanged), .blk b1 (eTApiChange c) 25]) rfl ?_
      refine wa rfl ?_
      refine wl_x ?_
      refine wc_seq ?_
      refine wc_sr ?_
      refine wv (o_fieldAddr Tryd.underlying25 rfl Tryd.sizeOf4 rfl rfl) ?_
      refine wv (o_load (i := 4) Tryd.isAgg4 rfl rfl rfl) ?_
      refine wl_x ?_
      refine wc_cond (b := c.fDelete) rfl (fun c113 => ?_) (fun c113 => ?_)
      ·have h114 := cnd_t c113 h110
       refine wc_seq_cut (S := (Bool × (List (Str × TApiItem)) × (List (Str × TApiItem))) × (Unit)) (fun σ => lConditions_j2 σ.1.1 σ.1.2.1 σ.1.2.2 = some r) (fun σ => [(3, rv (.pointer (some ⟨b1, 0, none⟩))), (4, rB σ.1.1), (5, rv (.pointer (some ⟨b19, 0, none⟩))), (11, rv (.pointer (some ⟨b112, 0, none⟩))), (12, rB r109.2.1)]) (fun σ => [.blk b19 [rv (.map (some b20)), rv (.map (some b21))] 48, .map b20 (menc m_TApiItem σ.1.2.1), .map b21 (menc m_TApiItem σ.1.2.2), .blk b112 (eTApiItem r109.1) 35, .blk b1 (eTApiChange c) 25]) ?_ ?_
       ·refine wc_region ?_
        refine wm rfl ?_
        refine wv (o_not rfl) ?_
        refine wm rfl ?_
        refine bsplit (!r109.2.1) (fun c145 => ?_) (fun c145 => ?_)
        ·have h146 := cnd_t c145 h114
         refine wo c145 ?_
         refine wm rfl ?_
         refine wo c145 ?_
         obtain ⟨r147, e149, h148⟩ := obn_e h146
         refine wcl (Hr := [.blk b112 (eTApiItem r109.1) 35, .blk b1 (eTApiChange c) 25]) Tryd.call10 (kLen_w b19 b20 b21 r109.2.2 r147 e149) rfl ((perm_front (i := 1) rfl).trans (List.Perm.cons _ ((perm_front (i := 1) rfl).trans (List.Perm.cons _ ((perm_front (i := 1) rfl).trans (List.Perm.cons _ (List.Perm.refl _))))))) rfl ?_
         rintro _ _ ⟨rfl, rfl⟩
         refine wo c145 ?_
         refine wm rfl ?_
         refine wo c145 ?_
         refine wv (o_eq rfl rfl) ?_
         refine wo c145 ?_
         refine wm rfl ?_
         refine bsplit (decide (r147.1 = r84.1)) (fun c150 => ?_) (fun c150 => ?_)
         ·have h151 := cnd_t c150 h148
          refine wf c150 ?_
          refine wf c150 ?_
          refine wu ?_
          refine wu ?_
          refine wu ?_
          refine wu ?_
          refine wu ?_
          refine wf c150 ?_
          refine wo c145 ?_
          refine wv (r := rB true) (o_pick_t (b := decide (r147.1 = r84.1)) rfl c150 rfl) ?_
          refine wpt rfl c145 rfl ?_
          refine wm rfl ?_
          refine wl_on (b := true) rfl rfl rfl ?_
          obtain ⟨r152, e154, h153⟩ := obn_e h151
          refine wc0 Tryd.call6 (lAwake_w F r152 e154) rfl ?_
          refine wv (r := rB r152) (o_pick_t (b := true) rfl rfl rfl) ?_
          refine wa rfl ?_
          refine wl_nil ?_
          exact wk_then (wk_some ((r152, r147.2.fItems, r147.2.fChanged), ()) h153 (Sub.c5 rfl rfl rfl rfl rfl Sub.nil) (sC (sC (sC (sC (sC sN))))))
         ·have h155 := cnd_f c150 h148
          refine wo c150 ?_
          refine wm rfl ?_
          refine wo c150 ?_
          refine wm rfl ?_
          refine bsplit (r80.2.1) (fun c156 => ?_) (fun c156 => ?_)
          ·have h157 := cnd_t c156 h155
           refine wo c156 ?_
           refine wm rfl ?_
           refine wo c156 ?_
           obtain ⟨r158, e160, h159⟩ := obn_e h157
           refine wcl (Hr := [.blk b112 (eTApiItem r109.1) 35, .blk b1 (eTApiChange c) 25]) Tryd.call10 (kLen_w b19 b20 b21 r147.2 r158 e160) rfl (List.Perm.refl _) rfl ?_
           rintro _ _ ⟨rfl, rfl⟩
           refine wo c156 ?_
           refine wm rfl ?_
           refine wo c156 ?_
           obtain ⟨g161, h162⟩ := chk_e h159
           refine wv (o_sub rfl rfl g161) ?_
           refine wo c156 ?_
           refine wv (o_eq rfl rfl) ?_
           refine wo c150 ?_
           refine wpt rfl c156 rfl ?_
           refine wo c145 ?_
           refine wpf rfl c150 rfl ?_
           refine wpt rfl c145 rfl ?_
           refine wm rfl ?_
           refine bsplit (decide (r158.1 = (r84.1 - 1))) (fun c163 => ?_) (fun c163 => ?_)
           ·have h164 := cnd_t c163 h162
            refine wo c163 ?_
            obtain ⟨r165, e167, h166⟩ := obn_e h164
            refine wc0 Tryd.call6 (lAwake_w F r165 e167) rfl ?_
            refine wpt rfl c163 rfl ?_
            refine wa rfl ?_
            refine wl_nil ?_
            exact wk_then (wk_some ((r165, r158.2.fItems, r158.2.fChanged), ()) h166 (Sub.c5 rfl rfl rfl rfl rfl Sub.nil) (sC (sC (sC (sC (sC sN))))))
           ·have h168 := cnd_f c163 h162
            refine wf c163 ?_
            refine wv (r := rB false) (o_pick_f (b := decide (r158.1 = (r84.1 - 1))) rfl c163 rfl) ?_
            refine wa rfl ?_
            refine wl_nil ?_
            exact wk_then (wk_some ((false, r158.2.fItems, r158.2.fChanged), ()) h168 (Sub.c5 rfl rfl rfl rfl rfl Sub.nil) (sC (sC (sC (sC (sC sN))))))
          ·have h169 := cnd_f c156 h155
           refine wf c156 ?_
           refine wf c156 ?_
           refine wf c156 ?_
           refine wf c156 ?_
           refine wf c156 ?_
           refine wo c150 ?_
           refine wv (r := rB false) (o_pick_f (b := r80.2.1) rfl c156 rfl) ?_
           refine wo c145 ?_
           refine wpf rfl c150 rfl ?_
           refine wpt rfl c145 rfl ?_
           refine wm rfl ?_
           refine wl_off (b := false) rfl rfl rfl rfl ?_
           refine wv (r := rB false) (o_pick_f (b := false) rfl rfl rfl) ?_
           refine wa rfl ?_
           refine wl_nil ?_
           exact wk_then (wk_some ((false, r147.2.fItems, r147.2.fChanged), ()) h169 (Sub.c5 rfl rfl rfl rfl rfl Sub.nil) (sC (sC (sC (sC (sC sN))))))
        ·have h170 := cnd_f c145 h114
         refine wf c145 ?_
         refine wf c145 ?_
         refine wf c145 ?_
         refine wf c145 ?_
         refine wf c145 ?_
         refine wu ?_
         refine wu ?_
         refine wu ?_
         refine wu ?_
         refine wu ?_
         refine wu ?_
         refine wu ?_
         refine wu ?_
         refine wf c145 ?_
         refine wv (r := rB false) (o_pick_f (b := !r109.2.1) rfl c145 rfl) ?_
         refine wm rfl ?_
         refine wl_off (b := false) rfl rfl rfl rfl ?_
         refine wv (r := rB false) (o_pick_f (b := false) rfl rfl rfl) ?_
         refine wa rfl ?_
         refine wl_nil ?_
         refine wk_perm (H2 := [.blk b19 [rv (.map (some b20)), rv (.map (some b21))] 48, .map b20 (menc m_TApiItem r109.2.2.fItems), .map b21 (menc m_TApiItem r109.2.2.fChanged), .blk b112 (eTApiItem r109.1) 35, .blk b1 (eTApiChange c) 25]) ((perm_front (i := 1) rfl).trans (List.Perm.cons _ ((perm_front (i := 1) rfl).trans (List.Perm.cons _ ((perm_front (i := 1) rfl).trans (List.Perm.cons _ (List.Perm.refl _))))))) ?_
         exact wk_then (wk_some ((false, r109.2.2.fItems, r109.2.2.fChanged), ()) h170 (Sub.c5 rfl rfl rfl rfl rfl Sub.nil) (sC (sC (sC (sC (sC sN))))))
       ·rintro ⟨⟨x142, x143, x144⟩, ⟨⟩⟩ h171
        refine wc_as (l' := [(3, rv (.pointer (some ⟨b1, 0, none⟩))), (4, rB x142), (5, rv (.pointer (some ⟨b19, 0, none⟩))), (11, rv (.pointer (some ⟨b112, 0, none⟩))), (12, rB r109.2.1)]) (H' := [.blk b19 [rv (.map (some b20)), rv (.map (some b21))] 48, .map b20 (menc m_TApiItem x143), .map b21 (menc m_TApiItem x144), .blk b112 (eTApiItem r109.1) 35, .blk b1 (eTApiChange c) 25]) rfl rfl ?_
        replace h171 : lConditions_j2 x142 x143 x144 = some r := h171
        unfold lConditions_j2 at h171
        refine wc_ret ?_
        refine wk_then_ret ?_
        obtain rfl := some_e h171
        exact wk_ret (r_1 Tryd.results3 (rv_t rfl)) (sS (sS (sS (sS (sS sN))))) ⟨rfl, rfl⟩
      ·have h172 := cnd_f c113 h110
       refine wc_skip ?_
       refine wk_x ?_
       refine wc_seq_cut (S := (Bool) × (Unit)) (fun σ => lConditions_j3 σ.1 = some r) (fun σ => [(4, rB σ.1)]) (fun σ => []) ?_ ?_
       ·refine wc_region ?_
        refine wm rfl ?_
        refine wm rfl ?_
        refine bsplit (r109.2.1) (fun c195 => ?_) (fun c195 => ?_)
        ·have h196 := cnd_t c195 h172
         refine wo c195 ?_
         refine wv (o_fieldAddr Tryd.underlying35 rfl Tryd.sizeOf3 rfl rfl) ?_
         refine wo c195 ?_
         refine wv (o_load (i := 0) Tryd.isAgg3 rfl rfl rfl) ?_
         refine wo c195 ?_
         refine wv (o_fieldAddr Tryd.underlying25 rfl Tryd.sizeOf3 rfl rfl) ?_
         refine wo c195 ?_
         refine wv (o_load (i := 4) Tryd.isAgg3 rfl rfl rfl) ?_
         refine wo c195 ?_
         obtain ⟨g197, h198⟩ := chk_e h196
         refine wv (o_add rfl rfl g197) ?_
         refine wo c195 ?_
         refine wv (o_eq rfl rfl) ?_
         refine wpt rfl c195 rfl ?_
         refine wm rfl ?_
         refine bsplit (decide (r109.1.fVersion = (c.fIfVersion + 1))) (fun c199 => ?_) (fun c199 => ?_)
         ·have h200 := cnd_t c199 h198
          refine wo c199 ?_
          refine wm rfl ?_
          refine wo c199 ?_
          refine wv (o_load_agg (i := 4) Tryd.isAgg25 Tryd.sizeOf25 rfl rfl rfl rfl) ?_
          refine wo c199 ?_
          refine w_buildSlice (ys := ([c] : List TApiChange)) (enc := eTApiChange) (css := [[rS c.fKey, rB c.fDelete, rSl 4 (List.map eTApiCell c.fValue), rI .i64 c.fIfVersion]]) (xs := [.tmp 132]) Tryd.underlying28 Tryd.sizeOf25 Tryd.zeroValue25 rfl rfl rfl ⟨Cel.agg ⟨Up.refl _, Up.refl _, Up.refl _, Up.refl _, trivial⟩, trivial⟩ rfl eTApiChange_len rfl rfl rfl (fun b201 => ?_)
          refine wo c199 ?_
          refine WL.freeze (i := 0) rfl ?_
          refine WL.up (d := 133) (r := rSl 4 (List.map eTApiChange ([c] : List TApiChange))) rfl (Up.fact (i := 0) rfl) ?_
          obtain ⟨r202, e204, h203⟩ := obn_e h200
          refine wcl (Hr := [.fact (.slice (some ⟨b201, 0, none⟩) 1 1) (rSl 4 (List.map eTApiChange ([c] : List TApiChange))), .blk b112 (eTApiItem r109.1) 35, .blk b1 (eTApiChange c) 25]) Tryd.call8 (kApply_w F b19 b20 b21 r109.2.2 ([c] : List TApiChange) r202 e204) rfl ((perm_front (i := 2) rfl).trans (List.Perm.cons _ ((perm_front (i := 2) rfl).trans (List.Perm.cons _ ((perm_front (i := 2) rfl).trans (List.Perm.cons _ (List.Perm.refl _))))))) rfl ?_
          rintro _ _ ⟨rfl, rfl⟩
          refine wo c199 ?_
          refine wv (o_eq rfl rfl) ?_
          refine wpt rfl c199 rfl ?_
          refine wm rfl ?_
          refine bsplit (decide (r202.1 = 19)) (fun c205 => ?_) (fun c205 => ?_)
          ·have h206 := cnd_t c205 h203
           refine wo c205 ?_
           obtain ⟨r207, e209, h208⟩ := obn_e h206
           refine wc0 Tryd.call6 (lAwake_w F r207 e209) rfl ?_
           refine wpt rfl c205 rfl ?_
           refine wa rfl ?_
           refine wl_nil ?_
           exact wk_then (wk_some (r207, ()) h208 (Sub.c rfl Sub.nil) (sS (sS (sS (sS (sS (sS sN)))))))
          ·have h210 := cnd_f c205 h203
           refine wf c205 ?_
           refine wv (r := rB false) (o_pick_f (b := decide (r202.1 = 19)) rfl c205 rfl) ?_
           refine wa rfl ?_
           refine wl_nil ?_
           exact wk_then (wk_some (false, ()) h210 (Sub.c rfl Sub.nil) (sS (sS (sS (sS (sS (sS sN)))))))
         ·have h211 := cnd_f c199 h198
          refine wf c199 ?_
          refine wf c199 ?_
          refine wf c199 ?_
          refine wf c199 ?_
          refine wf c199 ?_
          refine wv (r := rB false) (o_pick_f (b := decide (r109.1.fVersion = (c.fIfVersion + 1))) rfl c199 rfl) ?_
          refine wm rfl ?_
          refine wl_off (b := false) rfl rfl rfl rfl ?_
          refine wv (r := rB false) (o_pick_f (b := false) rfl rfl rfl) ?_
          refine wa rfl ?_
          refine wl_nil ?_
          exact wk_then (wk_some (false, ()) h211 (Sub.c rfl Sub.nil) (sS (sS (sS (sS (sS sN))))))
        ·have h212 := cnd_f c195 h172
         refine wf c195 ?_
         refine wf c195 ?_
         refine wf c195 ?_
         refine wf c195 ?_
         refine wf c195 ?_
         refine wf c195 ?_
         refine wv (r := rB false) (o_pick_f (b := r109.2.1) rfl c195 rfl) ?_
         refine wm rfl ?_
         refine wl_off (b := false) rfl rfl rfl rfl ?_
         refine wl_off (b := false) rfl rfl rfl rfl ?_
         refine wl_off (b := false) rfl rfl rfl rfl ?_
         refine wl_off (b := false) rfl rfl rfl rfl ?_
         refine wl_off (b := false) rfl rfl rfl rfl ?_
         refine wv (r := rB false) (o_pick_f (b := false) rfl rfl rfl) ?_
         refine wm rfl ?_
         refine wl_off (b := false) rfl rfl rfl rfl ?_
         refine wv (r := rB false) (o_pick_f (b := false) rfl rfl rfl) ?_
         refine wa rfl ?_
         refine wl_nil ?_
         exact wk_then (wk_some (false, ()) h212 (Sub.c rfl Sub.nil) (sS (sS (sS (sS (sS sN))))))
       ·rintro ⟨x194, ⟨⟩⟩ h213
        refine wc_as (l' := [(4, rB x194)]) (H' := []) rfl rfl ?_
        replace h213 : lConditions_j3 x194 = some r := h213
        unfold lConditions_j3 at h213
        refine wc_ret ?_
        obtain rfl := some_e h213
        exact wk_ret (r_1 Tryd.results3 (rv_t rfl)) sN ⟨rfl, rfl⟩

end Go.Proofs.YtjfnokmpfekniaaDoor.Q

/-
 What is known of the values that the law is handed. Plain definitions.
-/
namespace Go.Proofs.YtjfnokmpfekniaaDoor.lawKvConditions
open Go
set_option linter.unusedVariables false
def ok42 (y : TApiCell) : Bool := (inK .i64) y.fKind && (inK .i64) y.fInt && okS y.fStr && (inK .i64) y.fN
def ok25 (y : TApiChange) : Bool := okS y.fKey && (fun _ => true) y.fDelete && (fun ys : (List TApiCell) => ys.all ok42 && decide (ys.length ≤ 9223372036854775807)) y.fValue && (inK .i64) y.fIfVersion
def Law : Prop := ∀ (y0 : (List (List TApiChange))) (y1 : TApiChange) (o0 : (fun ys : (List (List TApiChange)) => ys.all (fun ys : (List TApiChange) => ys.all ok25 && decide (ys.length ≤ 9223372036854775807)) && decide (ys.length ≤ 9223372036854775807)) y0 = true) (o1 : ok25 y1 = true), ∃ F, lConditions F y0 y1 = some true
end Go.Proofs.YtjfnokmpfekniaaDoor.lawKvConditions

/-
 What small functions of the package value and of its reference compute. Plain laws.
-/
namespace Go.Proofs.YtjfnokmpfekniaaDoor
open Go
set_option linter.unusedVariables false
set_option linter.unusedSimpArgs false
def okc (c : UInt8) : Bool := decide (32 ≤ c.toNat) && decide (c.toNat ≤ 126)
theorem bat_get {s : Str} {x : Int} {c : UInt8} (h : s[x.toNat]? = some c) : bat s x = (c.toNat : Int) := by simp [bat, h]
theorem take_all_succ {α : Type} {p : α → Bool} {s : List α} {k : Nat} {c : α} (h : s[k]? = some c) : (s.take (k + 1)).all p = ((s.take k).all p && p c) := by
 rw [List.take_add_one, h]; simp
theorem all_false_of {α : Type} {p : α → Bool} {s : List α} {k : Nat} {c : α} (h : s[k]? = some c) (hp : p c = false) : s.all p = false := by
 rw [List.all_eq_false]; exact ⟨c, List.mem_of_getElem? h, by simp [hp]⟩
theorem vText_eq {F : Nat} {s : Str} (hF : s.length < F) (hs : s.length ≤ 9223372036854775807) : vText F s = some (s.all okc) := by
 obtain ⟨o, h1, h2⟩ := lop_ind (body := fun σ => vText_b1 s σ) (fun x => 0 ≤ x ∧ x ≤ (s.length : Int) ∧ (s.take x.toNat).all okc = true) (fun x => s.length - x.toNat)
  (fun o => oute (fun _ => vText_k1) o = some (s.all okc)) (fun x ⟨h0, hl, ha⟩ => by
   unfold vText_b1
   by_cases hx : x < (s.length : Int)
   ·obtain ⟨c, hc⟩ : ∃ c, s[x.toNat]? = some c := ⟨s[x.toNat]'(by omega), List.getElem?_eq_getElem (by omega)⟩
    rw [cnd_tt (by simpa using hx), chk_inR h0 hx, bat_get hc]
    cases ho : okc c with
    | false =>
     refine .inr ⟨.ret false, ?_, ?_⟩
     ·rw [cnd_tt]
      simp only [okc, Bool.and_eq_false_iff, decide_eq_false_iff_not] at ho
      simp only [Bool.or_eq_true, decide_eq_true_eq]; omega
     ·simp [oute, all_false_of hc ho]
    | true =>
     refine .inl ⟨x + 1, ?_, ⟨by omega, by omega, ?_⟩, by omega⟩
     ·rw [cnd_ff, chk_i64 (by omega) (by omega)]
      simp only [okc, Bool.and_eq_true, decide_eq_true_eq] at ho
      simp only [Bool.or_eq_false_iff, decide_eq_false_iff_not]; omega
     ·rw [show (x + 1).toNat = x.toNat + 1 from by omega, take_all_succ hc, ha, ho]; rfl
   ·refine .inr ⟨.go (), by rw [cnd_ff (by simpa using hx)], ?_⟩
    rw [show x.toNat = s.length from by omega, List.take_length] at ha
    simp [oute, vText_k1, ha]) F 0 ⟨by omega, by omega, by simp⟩ (by simpa using hF)
 unfold vText
 rw [obn_s h1, h2]
def pl (c : TApiCell) : Bool :=
 bif decide (c.fKind = 1) then (decide (c.fInt = 0) && (decide (c.fStr = []) && decide (c.fN = 0))) else
 bif decide (c.fKind = 2) then ((decide (c.fInt = 0) || decide (c.fInt = 1)) && (decide (c.fStr = []) && decide (c.fN = 0))) else
 bif decide (c.fKind = 3) then (decide (c.fStr = []) && decide (c.fN = 0)) else
 bif decide (c.fKind = 4) then (decide (c.fInt = 0) && (decide (c.fN = 0) && c.fStr.all okc)) else
 bif decide (c.fKind = 5) then (decide (c.fInt = 0) && (decide (c.fStr = []) && decide (0 ≤ c.fN))) else
 bif decide (c.fKind = 6) then (decide (c.fInt = 0) && (decide (c.fStr = []) && decide (0 ≤ c.fN))) else false
theorem cnd_some {α : Type} {p : Bool} {x y : Option α} {a b : α} (h : x = some a) (h' : y = some b) : cnd p x y = some (bif p then a else b) := by cases p <;> simp [cnd, h, h']
theorem vPlain_eq {F : Nat} {c : TApiCell} (hF : c.fStr.length < F) (hs : c.fStr.length ≤ 9223372036854775807) : vPlain F c = some (pl c) := by
 unfold vPlain pl
 rw [vText_eq hF hs]
 refine cnd_some rfl (cnd_some ?_ (cnd_some rfl (cnd_some ?_ (cnd_some rfl (cnd_some rfl rfl)))))
 ·cases h : decide (c.fInt = 0) <;> simp
 ·simp [imp, chk, ov]
def clr : List TValueOpen → List TValueOpen
 | [] => []
 | e :: S => bif decide (1 < e.fLeft) then ⟨e.fPairs, e.fLeft - 1, e.fPairs, e.fLast, e.fStarted⟩ :: S else clr S
theorem at_last {α : Type} [Inhabited α] (xs : List α) (e : α) : at' (xs ++ [e]) (xs.length : Int) = e := by simp [at']
theorem set_last {α : Type} (xs : List α) (e e' : α) : List.set (xs ++ [e]) (Int.toNat (xs.length : Int)) e' = xs ++ [e'] := by simp
theorem len_last {α : Type} (xs : List α) (e : α) : ((xs ++ [e]).length : Int) - 1 = (xs.length : Int) := by simp
theorem take_last {α : Type} (xs : List α) (e : α) : List.take (Int.toNat (xs.length : Int)) (xs ++ [e]) = xs := by simp
theorem vClosed_lop : ∀ (S : List TValueOpen) (F : Nat), S.length < F → (∀ e ∈ S, 1 ≤ e.fLeft ∧ e.fLeft ≤ 9223372036854775807) → S.length ≤ 4611686018427387904 →
  ∃ o, lop (fun σ => vClosed_b1 σ) F S.reverse = some o ∧ oute (fun ν => vClosed_k1 ν) o = some (clr S).reverse
 | [], F + 1, _, _, _ => ⟨.go [], by simp [lop, vClosed_b1, cnd], by simp [oute, vClosed_k1, clr]⟩
 | e :: S, F + 1, hF, hb, hl => by
  obtain ⟨h1, h2⟩ := hb e (by simp)
  simp only [List.length_cons] at hF hl
  have hx : S.reverse.length = S.length := by simp
  generalize hxs : S.reverse = xs at hx
  have hr : (e :: S).reverse = xs ++ [e] := by simp [hxs]
  rw [hr]
  have hb1 : vClosed_b1 (xs ++ [e]) = bif decide (1 < e.fLeft) then some (.out (.ret (xs ++ [⟨e.fPairs, e.fLeft - 1, e.fPairs, e.fLast, e.fStarted⟩]))) else some (.next xs) := by
   unfold vClosed_b1
   rw [cnd_tt (by simp)]
   simp only [len_last, at_last, set_last, bnd]
   rw [chk_i64 (by omega) (by omega), chk_inR (by omega) (by simp; omega), chk_i64 (by omega) (by omega)]
   cases hd : decide (1 < e.fLeft) with
   | true =>
    rw [cnd_tt (by simp at hd ⊢; omega)]; rfl
   | false =>
    rw [cnd_ff (by simp at hd ⊢; omega), chk_i64 (by omega) (by omega), chk_inC (by omega) (by simp; omega), take_last]; rfl
  rw [lop, hb1]
  cases hd : decide (1 < e.fLeft) with
  | true => exact ⟨_, rfl, by simp [oute, vClosed_k1, clr, hd, hxs]⟩
  | false =>
   obtain ⟨o, ho1, ho2⟩ := vClosed_lop S F (by omega) (fun e he => hb e (by simp [he])) (by omega)
   rw [hxs] at ho1
   exact ⟨o, ho1, by rw [ho2]; simp [clr, hd]⟩
theorem vClosed_eq {S : List TValueOpen} {F : Nat} (hF : S.length < F) (hb : ∀ e ∈ S, 1 ≤ e.fLeft ∧ e.fLeft ≤ 9223372036854775807) (hl : S.length ≤ 4611686018427387904) : vClosed F S.reverse = some (clr S).reverse := by
 obtain ⟨o, h1, h2⟩ := vClosed_lop S F hF hb hl
 unfold vClosed
 rw [obn_s h1, h2]
end Go.Proofs.YtjfnokmpfekniaaDoor

/-
 value.look, one cell at a time. Plain laws.
-/
namespace Go.Proofs.YtjfnokmpfekniaaDoor
open Go
set_option linter.unusedVariables false
set_option linter.unusedSimpArgs false
def qlen (s : Str) : Int := s.length + 2 + s.count 34 + s.count 92
theorem vQuoted_eq {s : Str} (hs : s.length ≤ 1152921504606846976) : vQuoted s = some (qlen s) := by
 have h1 : s.count 34 ≤ s.length := List.count_le_length
 have h2 : s.count 92 ≤ s.length := List.count_le_length
 unfold vQuoted Lib.countByte
 rw [chk_i64 (by omega) (by omega), chk_i64 (by omega) (by omega), chk_i64 (by omega) (by omega)]
 rfl
def szc (c : TApiCell) : Int :=
 bif decide (c.fKind = 1) then 4 else bif decide (c.fKind = 2) then IntKind.wrap .i64 (5 - c.fInt) else bif decide (c.fKind = 3) then ((Lib.itoa c.fInt).length : Int) else
 bif decide (c.fKind = 4) then qlen c.fStr else IntKind.wrap .i64 (2 + max 0 (IntKind.wrap .i64 (c.fN - 1)))
theorem vSize_eq {c : TApiCell} (hs : c.fStr.length ≤ 1152921504606846976) (hi : inK .i64 c.fInt = true) : vSize c = some (szc c) := by
 unfold vSize szc
 rw [vQuoted_eq hs]
 refine cnd_some rfl (cnd_some rfl (cnd_some ?_ (cnd_some rfl rfl)))
 rw [chk_t hi]
def shc (d : Nat) (sh : TValueShape) (c : TApiCell) : TValueShape :=
 ⟨max sh.fDepth ((d : Int) + 1), IntKind.wrap .i64 (sh.fBytes + szc c), sh.fOutside || (decide (c.fKind = 3) && !(decide ((-1000000000000) ≤ c.fInt) && decide (c.fInt ≤ 1000000000000))), sh.fLong || decide (200 < (c.fStr.length : Int))⟩
def shk (sh : TValueShape) (c : TApiCell) : TValueShape := ⟨sh.fDepth, IntKind.wrap .i64 (sh.fBytes + (qlen c.fStr + 1)), sh.fOutside, sh.fLong || decide (200 < (c.fStr.length : Int))⟩
def keyTop : List TValueOpen → Bool
 | [] => false
 | e :: _ => e.fKey
abbrev LkS := List TValueOpen × Int × TValueShape
abbrev LkO := Out (Int × TValueShape × Bool) TValueShape
def lkc (n : Int) (S : List TValueOpen) (i : Int) (sh : TValueShape) (c : TApiCell) : Stp LkS LkO :=
 bif !pl c then .out (.ret (0, sh, false)) else
 match S with
 | e :: S' =>
  bif e.fKey then
   bif !decide (c.fKind = 4) || (e.fStarted && (sLess c.fStr e.fLast || decide (c.fStr = e.fLast))) then .out (.ret (0, sh, false))
   else .next ((⟨e.fPairs, e.fLeft, false, c.fStr, true⟩ :: S').reverse, i + 1, shk sh c)
  else bif decide (0 < c.fN) then
   bif decide (n < c.fN) then .out (.ret (0, shc S.length sh c, false))
   else .next ((⟨decide (c.fKind = 6), c.fN, decide (c.fKind = 6), [], false⟩ :: S).reverse, i + 1, shc S.length sh c)
  else bif decide (clr S = []) then .out (.ret (i + 1, shc S.length sh c, true)) else .next ((clr S).reverse, i + 1, shc S.length sh c)
 | [] =>
  bif decide (0 < c.fN) then
   bif decide (n < c.fN) then .out (.ret (0, shc 0 sh c, false))
   else .next ([⟨decide (c.fKind = 6), c.fN, decide (c.fKind = 6), [], false⟩], i + 1, shc 0 sh c)
  else .out (.ret (i + 1, shc 0 sh c, true))
theorem clr_nil_length {S : List TValueOpen} : decide (((clr S).reverse.length : Int) = 0) = decide (clr S = []) := by
 rw [Bool.eq_iff_iff]; simp
theorem inA48 {α : Type} {xs : List α} {e x : α} {M : Nat} (h : xs.length + 1 ≤ M) (hM2 : (M + 2) * 48 ≤ 140737488355328) : inA 48 ((xs ++ [e]).length + ([x] : List α).length) = true := by
 refine decide_eq_true (Nat.le_trans (Nat.mul_le_mul_right 48 ?_) hM2)
 rw [List.length_append, List.length_singleton, List.length_singleton]; omega
set_option maxHeartbeats 600000 in
theorem vLook_b1_eq {F : Nat} {v : List TApiCell} {S : List TValueOpen} {i : Int} {sh : TValueShape} {c : TApiCell} (h0 : 0 ≤ i) (hc : v[i.toNat]? = some c) {M : Nat} (hM : M ≤ 1152921504606846976) (hM2 : (M + 2) * 48 ≤ 140737488355328) (hv : v.length ≤ M) (hS : S.length ≤ M) (hF : M < F)
  (hs : c.fStr.length ≤ M) (hi : inK .i64 c.fInt = true) (hb : ∀ e ∈ S, 1 ≤ e.fLeft ∧ e.fLeft ≤ 9223372036854775807) : vLook_b1 F v S.reverse i sh = some (lkc v.length S i sh c) := by
 have hil : i.toNat < v.length := (List.getElem?_eq_some_iff.1 hc).1
 have hat : at' v i = c := by simp [at', hc]
 unfold vLook_b1 lkc
 rw [cnd_tt (by simp; omega), chk_inR h0 (by omega), hat, vPlain_eq (by omega) (by omega), obn_s rfl]
 cases hp : pl c with
 | false => rw [cnd_tt (by simp)]; rfl
 | true =>
  rw [cnd_ff (by simp)]
  cases S with
  | nil =>
   rw [chk_t (by simp [imp]), chk_t (by simp [imp]), cnd_ff (by simp), chk_i64 (by simp) (by simp), vSize_eq (by omega) hi, obn_s rfl, chk_t (by simp [imp, nValid])]
   simp only [nValid, ov, Option.getD_some, Bool.not_true, cond_false]
   cases hn : decide (0 < c.fN) with
   | true =>
    rw [cnd_tt rfl]
    cases hm : decide ((v.length : Int) < c.fN) with
    | true => rw [cnd_tt rfl]; simp [shc]
    | false => rw [cnd_ff rfl, chk_t (by simp [inA])]; unfold vLook_j2; rw [chk_i64 (by omega) (by omega)]; simp [shc]
   | false =>
    rw [cnd_ff rfl, obn_s (vClosed_eq (S := []) (by simp; omega) (by simp) (by simp)), cnd_tt (by simp [clr]), chk_i64 (by omega) (by omega)]; simp [shc]
  | cons e S' =>
   have hx : S'.reverse.length = S'.length := by simp
   generalize hxs : S'.reverse = xs at hx
   have hr : (e :: S').reverse = xs ++ [e] := by simp [hxs]
   simp only [List.length_cons] at hS
   have hlen : ((xs ++ [e]).length : Int) = (xs.length : Int) + 1 := by simp
   rw [hr, chk_t (by simp only [imp, len_last]; rw [inK_i64' (by omega) (by omega)]; simp), chk_t (by simp only [imp, len_last]; rw [inR' (by omega) (by omega)]; simp)]
   rw [len_last, at_last]
   cases hk : e.fKey with
   | true =>
    rw [cnd_tt (by simp), chk_i64 (by omega) (by omega), chk_inR (by omega) (by omega)]
    simp only [hk, Bool.not_true, cond_false, cond_true]
    cases ht : !decide (c.fKind = 4) || (e.fStarted && (sLess c.fStr e.fLast || decide (c.fStr = e.fLast))) with
    | true => rw [cnd_tt rfl]; rfl
    | false =>
     rw [cnd_ff rfl, set_last, bnd, at_last, set_last, bnd, at_last, set_last, bnd, vQuoted_eq (by omega), obn_s rfl, chk_i64 (by unfold qlen; omega) (by unfold qlen; have := @List.count_le_length UInt8 _ 34 c.fStr; have := @List.count_le_length UInt8 _ 92 c.fStr; omega)]
     unfold vLook_j2
     rw [chk_i64 (by omega) (by omega)]
     simp [shk, hxs]
   | false =>
    rw [cnd_ff (by simp), hlen, chk_i64 (by omega) (by omega), vSize_eq (by omega) hi, obn_s rfl, chk_t (by simp [imp, nValid])]
    simp only [hk, nValid, ov, Option.getD_some, Bool.not_true, cond_false, cond_true]
    cases hn : decide (0 < c.fN) with
    | true =>
     rw [cnd_tt rfl]
     cases hm : decide ((v.length : Int) < c.fN) with
     | true => rw [cnd_tt rfl]; simp [shc, hx]
     | false => rw [cnd_ff rfl, chk_t (inA48 (by omega) hM2)]; unfold vLook_j2; rw [chk_i64 (by omega) (by omega)]; simp [shc, hx, hxs]
    | false =>
     have hcl := vClosed_eq (S := e :: S') (F := F) (by simp; omega) hb (by simp; omega)
     rw [hr] at hcl
     rw [cnd_ff rfl, hcl, obn_s rfl, clr_nil_length]
     cases hq : decide (clr (e :: S') = []) with
     | true => rw [cnd_tt rfl, chk_i64 (by omega) (by omega)]; simp [shc, hx]
     | false => rw [cnd_ff rfl]; unfold vLook_j2; rw [chk_i64 (by omega) (by omega)]; simp [shc, hx]
end Go.Proofs.YtjfnokmpfekniaaDoor

/-
 Values as forests; value.look on the cells of a forest. Plain laws.
-/
namespace Go.Proofs.YtjfnokmpfekniaaDoor
open Go
set_option linter.unusedVariables false
set_option linter.unusedSimpArgs false
section
variable {S O : Type} {body : S → Option (Stp S O)} {s t u : S} {o : O}
def Reach (body : S → Option (Stp S O)) (s t : S) : Prop := ∃ k, ∀ n, lop body (n + k) s = lop body n t
def Fin (body : S → Option (Stp S O)) (s : S) (o : O) : Prop := ∃ k, ∀ n, lop body (n + k) s = some o
theorem Reach.refl (s : S) : Reach body s s := ⟨0, fun _ => rfl⟩
theorem Reach.trans (h : Reach body s t) (h' : Reach body t u) : Reach body s u := by
 obtain ⟨k, hk⟩ := h
 obtain ⟨j, hj⟩ := h'
 exact ⟨j + k, fun n => by rw [← Nat.add_assoc, hk, hj]⟩
theorem Reach.step (h : body s = some (.next t)) : Reach body s t := ⟨1, fun n => by rw [lop, h]⟩
theorem Fin.step (h : body s = some (.out o)) : Fin body s o := ⟨1, fun n => by rw [lop, h]⟩
theorem Reach.fin (h : Reach body s t) (h' : Fin body t o) : Fin body s o := by
 obtain ⟨k, hk⟩ := h
 obtain ⟨j, hj⟩ := h'
 exact ⟨j + k, fun n => by rw [← Nat.add_assoc, hk, hj]⟩
end
inductive Fo where
 | nil
 | cell (k : Option Str) (c : TApiCell) (r : Fo)
 | node (k : Option Str) (c : TApiCell) (kids r : Fo)
def keyC : Option Str → List TApiCell
 | none => []
 | some s => [⟨4, 0, s, 0⟩]
def Fo.flat : Fo → List TApiCell
 | .nil => []
 | .cell k c r => keyC k ++ c :: r.flat
 | .node k c kids r => keyC k ++ c :: (kids.flat ++ r.flat)
def Fo.cnt : Fo → Nat
 | .nil => 0
 | .cell _ _ r => r.cnt + 1
 | .node _ _ _ r => r.cnt + 1
def keyOk (m : Bool) (last : Option Str) : Option Str → Bool
 | none => !m
 | some s => m && s.all okc && (match last with
  | none => true
  | some p => !(sLess s p || decide (s = p)))
def Fo.wf : Bool → Option Str → Fo → Bool
 | _, _, .nil => true
 | m, last, .cell k c r => keyOk m last k && pl c && !decide (0 < c.fN) && r.wf m k
 | m, last, .node k c kids r => keyOk m last k && pl c && decide (0 < c.fN) && decide (c.fN = kids.cnt) && kids.wf (decide (c.fKind = 6)) none && r.wf m k
def shK (k : Option Str) (sh : TValueShape) : TValueShape := match k with
 | none => sh
 | some s => shk sh ⟨4, 0, s, 0⟩
def Fo.sh (d : Nat) : TValueShape → Fo → TValueShape
 | s, .nil => s
 | s, .cell k c r => r.sh d (shc d (shK k s) c)
 | s, .node k c kids r => r.sh d (kids.sh (d + 1) (shc d (shK k s) c))
def Done (body : LkS → Option (Stp LkS LkO)) (s : LkS) (S : List TValueOpen) (i : Int) (sh : TValueShape) : Prop :=
 if clr S = [] then Fin body s (.ret (i, sh, true)) else Reach body s ((clr S).reverse, i, sh)
theorem Done.of {body : LkS → Option (Stp LkS LkO)} {s t : LkS} {S : List TValueOpen} {i : Int} {sh : TValueShape} (h : Reach body s t) (h' : Done body t S i sh) : Done body s S i sh := by
 unfold Done at *
 split
 ·rename_i e; rw [if_pos e] at h'; exact h.fin h'
 ·rename_i e; rw [if_neg e] at h'; exact h.trans h'
theorem Done.pop {body : LkS → Option (Stp LkS LkO)} {s : LkS} {e : TValueOpen} {S : List TValueOpen} {i : Int} {sh : TValueShape} (h : Done body s (e :: S) i sh) (h1 : e.fLeft = 1) : Done body s S i sh := by
 have : clr (e :: S) = clr S := by simp [clr, h1]
 unfold Done at *
 rw [this] at h; exact h
theorem Done.more {body : LkS → Option (Stp LkS LkO)} {s : LkS} {e : TValueOpen} {S : List TValueOpen} {i : Int} {sh : TValueShape} (h : Done body s (e :: S) i sh) (h1 : 1 < e.fLeft) : Reach body s ((⟨e.fPairs, e.fLeft - 1, e.fPairs, e.fLast, e.fStarted⟩ :: S).reverse, i, sh) := by
 have : clr (e :: S) = ⟨e.fPairs, e.fLeft - 1, e.fPairs, e.fLast, e.fStarted⟩ :: S := by simp [clr, h1]
 unfold Done at *
 rw [this, if_neg (by simp)] at h; exact h
end Go.Proofs.YtjfnokmpfekniaaDoor

/-
 value.look on the cells of a forest: it goes through them. Plain laws.
-/
namespace Go.Proofs.YtjfnokmpfekniaaDoor
open Go
set_option linter.unusedVariables false
set_option linter.unusedSimpArgs false
structure LkA (F M : Nat) (v : List TApiCell) : Prop where
 hM : M ≤ 1152921504606846976
 hM2 : (M + 2) * 48 ≤ 140737488355328
 hv : v.length ≤ M
 hF : M < F
 hc : ∀ c ∈ v, c.fStr.length ≤ M ∧ inK .i64 c.fInt = true ∧ c.fN ≤ 9223372036854775807
abbrev lkB (F : Nat) (v : List TApiCell) : LkS → Option (Stp LkS LkO) := fun σ => vLook_b1 F v σ.1 σ.2.1 σ.2.2
def lefts (S : List TValueOpen) : Prop := ∀ e ∈ S, 1 ≤ e.fLeft ∧ e.fLeft ≤ 9223372036854775807
section
variable {F M : Nat} {v : List TApiCell} {S : List TValueOpen} {i : Int} {sh : TValueShape} {c : TApiCell} {r : List TApiCell} {e : TValueOpen}
theorem drop_get (h0 : 0 ≤ i) (h : v.drop i.toNat = c :: r) : v[i.toNat]? = some c ∧ v.drop (i + 1).toNat = r ∧ i < v.length := by
 have h1 : (v.drop i.toNat)[0]? = some c := by rw [h]; rfl
 have h2 : v[i.toNat]? = some c := by simpa using h1
 have h3 := (List.getElem?_eq_some_iff.1 h2).1
 refine ⟨h2, ?_, by omega⟩
 rw [show (i + 1).toNat = i.toNat + 1 from by omega, ← List.drop_drop, h]; rfl
theorem round (hA : LkA F M v) (h0 : 0 ≤ i) (h : v.drop i.toNat = c :: r) (hS : (S.length : Int) ≤ i) (hb : lefts S) : lkB F v (S.reverse, i, sh) = some (lkc v.length S i sh c) := by
 obtain ⟨h1, _, h3⟩ := drop_get h0 h
 obtain ⟨a, b, _⟩ := hA.hc c (List.mem_of_getElem? h1)
 have := hA.hv
 exact vLook_b1_eq h0 h1 hA.hM hA.hM2 hA.hv (by omega) hA.hF a b hb
def keyed (e : TValueOpen) : Option Str → TValueOpen
 | none => e
 | some s => ⟨e.fPairs, e.fLeft, false, s, true⟩
def lastOk (e : TValueOpen) : Option Str → Prop
 | none => e.fStarted = false
 | some p => e.fStarted = true ∧ e.fLast = p
theorem keyRound (hA : LkA F M v) (h0 : 0 ≤ i) {k last : Option Str} (h : v.drop i.toNat = keyC k ++ r) (hS : (S.length : Int) + 1 ≤ i) (hb : lefts (e :: S)) (hk : keyOk e.fKey last k = true) (hl : lastOk e last) :
  Reach (lkB F v) ((e :: S).reverse, i, sh) ((keyed e k :: S).reverse, i + (keyC k).length, shK k sh) := by
 cases k with
 | none => simpa [keyed, keyC, shK] using Reach.refl _
 | some s =>
  simp only [keyOk, Bool.and_eq_true] at hk
  obtain ⟨⟨hm, hok⟩, hcmp⟩ := hk
  refine Reach.step ?_
  rw [round hA h0 (by simpa [keyC] using h) (by simpa using hS) hb]
  have hp : pl ⟨4, 0, s, 0⟩ = true := by simp [pl, hok]
  have ht : (e.fStarted && (sLess s e.fLast || decide (s = e.fLast))) = false := by
   cases last with
   | none => simp only [lastOk] at hl; rw [hl]; rfl
   | some p => obtain ⟨h1, h2⟩ := hl; rw [h1, h2]; simpa using hcmp
  simp only [lkc, hp, hm, ht, Bool.not_true, cond_false, cond_true, decide_true, Bool.or_false, Bool.or_self]
  rfl
theorem keyed_key {k last : Option Str} (hk : keyOk e.fKey last k = true) : (keyed e k).fKey = false := by
 cases k with
 | none => simpa [keyed, keyOk] using hk
 | some s => rfl
theorem keyed_left (k : Option Str) : (keyed e k).fLeft = e.fLeft ∧ (keyed e k).fPairs = e.fPairs := by cases k <;> exact ⟨rfl, rfl⟩
theorem leafRound (hA : LkA F M v) (h0 : 0 ≤ i) (h : v.drop i.toNat = c :: r) (hS : (S.length : Int) ≤ i) (hb : lefts S) (hk : keyTop S = false) (hp : pl c = true) (hn : decide (0 < c.fN) = false) :
  Done (lkB F v) (S.reverse, i, sh) S (i + 1) (shc S.length sh c) := by
 have hr := round (sh := sh) hA h0 h hS hb
 unfold Done
 cases S with
 | nil =>
  rw [if_pos (by simp [clr])]
  refine Fin.step ?_
  rw [hr]; simp [lkc, hp, hn]
 | cons e S =>
  simp only [keyTop] at hk
  split
  ·rename_i hc
   refine Fin.step ?_
   rw [hr]; simp [lkc, hp, hn, hk, hc]
  ·rename_i hc
   refine Reach.step ?_
   rw [hr]; simp [lkc, hp, hn, hk, hc]
theorem nodeRound (hA : LkA F M v) (h0 : 0 ≤ i) (h : v.drop i.toNat = c :: r) (hS : (S.length : Int) ≤ i) (hb : lefts S) (hk : keyTop S = false) (hp : pl c = true) (hn : decide (0 < c.fN) = true) (hv : c.fN ≤ v.length) :
  Reach (lkB F v) (S.reverse, i, sh) ((⟨decide (c.fKind = 6), c.fN, decide (c.fKind = 6), [], false⟩ :: S).reverse, i + 1, shc S.length sh c) := by
 have hr := round (sh := sh) hA h0 h hS hb
 have hv' : decide ((v.length : Int) < c.fN) = false := by simpa using hv
 refine Reach.step ?_
 rw [hr]
 cases S with
 | nil => simp only [lkc, hp, hn, hv', Bool.not_true, cond_false, cond_true]; rfl
 | cons e S =>
  simp only [keyTop] at hk
  simp only [lkc, hp, hn, hv', hk, Bool.not_true, cond_false, cond_true]
theorem cnt_le_flat : ∀ f : Fo, f.cnt ≤ f.flat.length
 | .nil => Nat.le_refl _
 | .cell k c r => by have := cnt_le_flat r; simp [Fo.cnt, Fo.flat]; omega
 | .node k c kids r => by have := cnt_le_flat r; simp [Fo.cnt, Fo.flat]; omega
theorem drop_app {α : Type} {v xs r : List α} {i : Int} (h0 : 0 ≤ i) (h : v.drop i.toNat = xs ++ r) : v.drop (i + xs.length).toNat = r := by
 rw [show (i + (xs.length : Int)).toNat = i.toNat + xs.length from by omega, ← List.drop_drop, h, List.drop_left]
theorem restLook (hA : LkA F M v) {e' : TValueOpen} {s : LkS} {k : Option Str} {r' : Fo}
  (ih : ∀ (e : TValueOpen) (S : List TValueOpen) (i : Int) (sh : TValueShape) (last : Option Str) (r : List TApiCell), 1 ≤ r'.cnt → r'.wf e.fPairs last = true → e.fKey = e.fPairs → e.fLeft = r'.cnt → lastOk e last → (e.fPairs = false → last = none) → v.drop i.toNat = r'.flat ++ r → 0 ≤ i → (S.length : Int) + 1 ≤ i → lefts S →
   Done (lkB F v) ((e :: S).reverse, i, sh) S (i + r'.flat.length) (r'.sh (S.length + 1) sh))
  (hd : Done (lkB F v) s (e' :: S) i sh) (hl : e'.fLeft = r'.cnt + 1) (hw : r'.wf e'.fPairs k = true) (hk : lastOk e' k) (hm : e'.fPairs = false → k = none) (hv : v.drop i.toNat = r'.flat ++ r) (h0 : 0 ≤ i) (hS : (S.length : Int) + 1 ≤ i) (hb : lefts S) :
  Done (lkB F v) s S (i + r'.flat.length) (r'.sh (S.length + 1) sh) := by
 by_cases h1 : r'.cnt = 0
 ·cases r' with
  | nil => simpa [Fo.flat, Fo.sh] using hd.pop (by rw [hl]; rfl)
  | cell _ _ _ => simp [Fo.cnt] at h1
  | node _ _ _ _ => simp [Fo.cnt] at h1
 ·have := hd.more (by omega)
  refine Done.of this (ih _ S i sh k r (by omega) hw rfl (by simp only; omega) ?_ hm hv h0 hS hb)
  cases k with
  | none => exact hk
  | some p => exact hk
theorem keyed_last {k last : Option Str} (hl : lastOk e last) (hm : e.fPairs = false → last = none) (hk : keyOk e.fPairs last k = true) : lastOk (keyed e k) k ∧ ((keyed e k).fPairs = false → k = none) := by
 cases k with
 | none =>
  have : e.fPairs = false := by simpa [keyOk] using hk
  rw [hm this] at hl
  exact ⟨hl, fun _ => rfl⟩
 | some s =>
  refine ⟨⟨rfl, rfl⟩, fun h => ?_⟩
  have h : e.fPairs = false := h
  simp [keyOk, h] at hk
theorem forest_look (hA : LkA F M v) : ∀ (f : Fo) (e : TValueOpen) (S : List TValueOpen) (i : Int) (sh : TValueShape) (last : Option Str) (r : List TApiCell), 1 ≤ f.cnt → f.wf e.fPairs last = true → e.fKey = e.fPairs → e.fLeft = f.cnt → lastOk e last → (e.fPairs = false → last = none) → v.drop i.toNat = f.flat ++ r → 0 ≤ i → (S.length : Int) + 1 ≤ i → lefts S →
   Done (lkB F v) ((e :: S).reverse, i, sh) S (i + f.flat.length) (f.sh (S.length + 1) sh) := by
 have hmax : ∀ (i : Int) (xs : List TApiCell), 0 ≤ i → v.drop i.toNat = xs → xs.length ≤ v.length := fun i xs _ h => by rw [← h, List.length_drop]; omega
 intro f
 induction f with
 | nil => intro e S i sh last r h1; simp [Fo.cnt] at h1
 | cell k c r' ih =>
  intro e S i sh last r h1 hw hk hl hlo hm hv h0 hS hb
  simp only [Fo.wf, Bool.and_eq_true, Bool.not_eq_true'] at hw
  obtain ⟨⟨⟨w1, w2⟩, w3⟩, w4⟩ := hw
  simp only [Fo.flat, List.append_assoc, List.cons_append] at hv
  have hcnt := hmax i _ h0 hv
  have hcf := cnt_le_flat r'
  simp only [List.length_append, List.length_cons] at hcnt
  have hvM := hA.hv; have hMM := hA.hM
  simp only [Fo.cnt] at hl
  have hb' : lefts (e :: S) := fun x hx => by
   rcases List.mem_cons.1 hx with rfl | hx
   ·constructor <;> omega
   ·exact hb x hx
  have hkr := keyRound (sh := sh) hA h0 hv hS hb' (by rw [hk]; exact w1) hlo
  have hv1 := drop_app h0 hv
  obtain ⟨kl, kp⟩ := keyed_left (e := e) k
  have hbk : lefts (keyed e k :: S) := fun x hx => by
   rcases List.mem_cons.1 hx with rfl | hx
   ·rw [kl]; exact hb' e (by simp)
   ·exact hb x hx
  have hd := leafRound (sh := shK k sh) hA (by omega) hv1 (by simp only [List.length_cons]; omega) hbk (keyed_key (by rw [hk]; exact w1)) w2 w3
  obtain ⟨q1, q2⟩ := keyed_last hlo hm w1
  have hv2 := (drop_get (by omega) hv1).2.1
  have := restLook hA ih (hd.of hkr) (by rw [kl, hl]; rfl) (by rw [kp]; exact w4) q1 q2 hv2 (by omega) (by omega) hb
  simp only [Fo.flat, Fo.sh, List.length_append, List.length_cons]
  rw [show i + ((((keyC k).length + (r'.flat.length + 1) : Nat)) : Int) = i + (keyC k).length + 1 + r'.flat.length from by omega]
  exact this
 | node k c kids r' ihk ih =>
  intro e S i sh last r h1 hw hk hl hlo hm hv h0 hS hb
  simp only [Fo.wf, Bool.and_eq_true, decide_eq_true_eq] at hw
  obtain ⟨⟨⟨⟨⟨w1, w2⟩, w3⟩, w5⟩, w6⟩, w4⟩ := hw
  simp only [Fo.flat, List.append_assoc, List.cons_append] at hv
  have hcnt := hmax i _ h0 hv
  have hcf := cnt_le_flat r'
  have hck := cnt_le_flat kids
  simp only [List.length_append, List.length_cons] at hcnt
  have hvM := hA.hv; have hMM := hA.hM
  simp only [Fo.cnt] at hl
  have hb' : lefts (e :: S) := fun x hx => by
   rcases List.mem_cons.1 hx with rfl | hx
   ·constructor <;> omega
   ·exact hb x hx
  have hkr := keyRound (sh := sh) hA h0 hv hS hb' (by rw [hk]; exact w1) hlo
  have hv1 := drop_app h0 hv
  obtain ⟨kl, kp⟩ := keyed_left (e := e) k
  have hbk : lefts (keyed e k :: S) := fun x hx => by
   rcases List.mem_cons.1 hx with rfl | hx
   ·rw [kl]; exact hb' e (by simp)
   ·exact hb x hx
  have hn := nodeRound (sh := shK k sh) hA (by omega) hv1 (by simp only [List.length_cons]; omega) hbk (keyed_key (by rw [hk]; exact w1)) w2 (by simpa using w3) (by omega)
  have hv2 := (drop_get (by omega) hv1).2.1
  have hd := ihk ⟨decide (c.fKind = 6), c.fN, decide (c.fKind = 6), [], false⟩ (keyed e k :: S) (i + (keyC k).length + 1) (shc (S.length + 1) (shK k sh) c) none _ (by omega) w6 rfl w5 rfl (fun _ => rfl) hv2 (by omega) (by simp only [List.length_cons]; omega) hbk
  obtain ⟨q1, q2⟩ := keyed_last hlo hm w1
  have hv3 := drop_app (by omega) hv2
  have := restLook hA ih ((hd.of hn).of hkr) (by rw [kl, hl]; rfl) (by rw [kp]; exact w4) q1 q2 hv3 (by omega) (by omega) hb
  simp only [Fo.flat, Fo.sh, List.length_append, List.length_cons]
  rw [show i + ((((keyC k).length + (kids.flat.length + r'.flat.length + 1) : Nat)) : Int) = i + (keyC k).length + 1 + kids.flat.length + r'.flat.length from by omega]
  exact this
end
end Go.Proofs.YtjfnokmpfekniaaDoor

/-
 value.look always ends; what it says of a value. Plain laws.
-/
namespace Go.Proofs.YtjfnokmpfekniaaDoor
open Go
set_option linter.unusedVariables false
set_option linter.unusedSimpArgs false
theorem lop_mono {S O : Type} {body : S → Option (Stp S O)} {o : O} : ∀ {n : Nat} {s : S} (k : Nat), lop body n s = some o → lop body (n + k) s = some o
 | 0, s, k, h => by cases h
 | n + 1, s, k, h => by
  rw [show n + 1 + k = n + k + 1 from by omega, lop]
  rw [lop] at h
  cases hb : body s with
  | none => rw [hb] at h; cases h
  | some t =>
   rw [hb] at h
   cases t with
   | next s' => exact lop_mono k h
   | out o' => exact h
theorem Fin.eq {S O : Type} {body : S → Option (Stp S O)} {s : S} {o o' : O} {n : Nat} (h : Fin body s o) (h' : lop body n s = some o') : o' = o := by
 obtain ⟨k, hk⟩ := h
 have := lop_mono k h'
 rw [hk n] at this
 exact (some_e this).symm
theorem clr_lefts : ∀ {S : List TValueOpen}, lefts S → lefts (clr S) ∧ (clr S).length ≤ S.length
 | [], h => ⟨h, Nat.le_refl _⟩
 | e :: S, h => by
  have hS : lefts S := fun x hx => h x (by simp [hx])
  have he := h e (by simp)
  unfold clr
  cases hd : decide (1 < e.fLeft) with
  | true =>
   simp only [decide_eq_true_eq] at hd
   refine ⟨fun x hx => ?_, by simp⟩
   rcases List.mem_cons.1 hx with rfl | hx
   ·simp only; omega
   ·exact hS x hx
  | false =>
   obtain ⟨h1, h2⟩ := clr_lefts hS
   exact ⟨h1, by simp only [cond_false, List.length_cons]; omega⟩
theorem lkc_next {n : Int} {S : List TValueOpen} {i : Int} {sh : TValueShape} {c : TApiCell} {σ : LkS} (hb : lefts S) (hS : (S.length : Int) ≤ i) (hN : c.fN ≤ 9223372036854775807) (h : lkc n S i sh c = .next σ) : ∃ S' sh', σ = (S'.reverse, i + 1, sh') ∧ lefts S' ∧ (S'.length : Int) ≤ i + 1 := by
 unfold lkc at h
 cases hp : pl c with
 | false => simp [hp] at h
 | true =>
  simp only [hp, Bool.not_true, cond_false] at h
  cases S with
  | nil =>
   simp only at h
   cases hn : decide (0 < c.fN) with
   | false => simp [hn] at h
   | true =>
    simp only [hn, cond_true] at h
    cases hm : decide (n < c.fN) with
    | true => simp [hm] at h
    | false =>
     simp only [hm, cond_false, Stp.next.injEq] at h
     refine ⟨[_], _, h.symm, fun x hx => ?_, by simp at hS ⊢; omega⟩
     simp only [List.mem_singleton] at hx; subst hx
     simp only [decide_eq_true_eq] at hn
     exact ⟨by simp only; omega, hN⟩
  | cons e S =>
   have he := hb e (by simp)
   have hbS : lefts S := fun x hx => hb x (by simp [hx])
   simp only [List.length_cons] at hS
   cases hk : e.fKey with
   | true =>
    simp only [hk, cond_true] at h
    cases hq : (!decide (c.fKind = 4) || (e.fStarted && (sLess c.fStr e.fLast || decide (c.fStr = e.fLast)))) with
    | true => rw [hq] at h; simp at h
    | false =>
     rw [hq] at h
     simp only [cond_false, Stp.next.injEq] at h
     refine ⟨_ :: S, _, h.symm, fun x hx => ?_, by simp only [List.length_cons]; omega⟩
     rcases List.mem_cons.1 hx with rfl | hx
     ·exact he
     ·exact hbS x hx
   | false =>
    simp only [hk, cond_false] at h
    cases hn : decide (0 < c.fN) with
    | true =>
     simp only [hn, cond_true] at h
     cases hm : decide (n < c.fN) with
     | true => simp [hm] at h
     | false =>
      simp only [hm, cond_false, Stp.next.injEq] at h
      refine ⟨_ :: e :: S, _, h.symm, fun x hx => ?_, by simp only [List.length_cons]; omega⟩
      rcases List.mem_cons.1 hx with rfl | hx
      ·simp only [decide_eq_true_eq] at hn
       exact ⟨by simp only; omega, hN⟩
      ·exact hb x hx
    | false =>
     simp only [hn, cond_false] at h
     cases hq : decide (clr (e :: S) = []) with
     | true => rw [hq] at h; simp at h
     | false =>
      rw [hq] at h
      simp only [cond_false, Stp.next.injEq] at h
      obtain ⟨h1, h2⟩ := clr_lefts hb
      simp only [List.length_cons] at h2
      exact ⟨_, _, h.symm, h1, by omega⟩
theorem look_total {F M : Nat} {v : List TApiCell} (hA : LkA F M v) : ∃ o, lop (lkB F v) F (([] : List TValueOpen), 0, (⟨0, 0, false, false⟩ : TValueShape)) = some o ∧ True := by
 refine lop_ind (fun σ => ∃ S i sh, σ = (S.reverse, i, sh) ∧ lefts S ∧ (S.length : Int) ≤ i ∧ 0 ≤ i ∧ i ≤ v.length) (fun σ => v.length - σ.2.1.toNat) (fun _ => True) (fun σ hI => ?_) F _ ⟨[], 0, _, rfl, (fun x hx => by cases hx), Int.le_refl _, Int.le_refl _, by omega⟩ (by have := hA.hv; have := hA.hF; simp; omega)
 obtain ⟨S, i, sh, rfl, hb, hS, h0, hi⟩ := hI
 by_cases hx : i < v.length
 ·obtain ⟨c, hc⟩ : ∃ c, v[i.toNat]? = some c := ⟨v[i.toNat]'(by omega), List.getElem?_eq_getElem (by omega)⟩
  have hdr : v.drop i.toNat = c :: v.drop (i.toNat + 1) := by rw [List.drop_eq_getElem_cons (by omega)]; congr 1; exact (List.getElem?_eq_some_iff.1 hc).2
  have hr := round (sh := sh) hA h0 hdr hS hb
  cases hl : lkc v.length S i sh c with
  | next τ =>
   obtain ⟨S', sh', rfl, h1, h2⟩ := lkc_next hb hS (hA.hc c (List.mem_of_getElem? hc)).2.2 hl
   exact .inl ⟨_, by rw [hr, hl], ⟨S', i + 1, sh', rfl, h1, h2, by omega, by omega⟩, by simp only; omega⟩
  | out o => exact .inr ⟨o, by rw [hr, hl], trivial⟩
 ·refine .inr ⟨.go sh, ?_, trivial⟩
  show vLook_b1 F v S.reverse i sh = _
  unfold vLook_b1
  rw [cnd_ff (by simpa using hx)]
def Fo.one : Fo → Bool
 | .cell none _ .nil => true
 | .node none _ _ .nil => true
 | _ => false
def sh0 : TValueShape := ⟨0, 0, false, false⟩
theorem look_fin {F M : Nat} {v : List TApiCell} (hA : LkA F M v) {f : Fo} (h1 : f.one = true) (hw : f.wf false none = true) {r : List TApiCell} (hv : v = f.flat ++ r) : Fin (lkB F v) ([], 0, sh0) (.ret (f.flat.length, f.sh 0 sh0, true)) := by
 have h0 : v.drop (0 : Int).toNat = f.flat ++ r := by rw [hv]; rfl
 have hlen : f.flat.length ≤ v.length := by rw [hv]; simp
 cases f with
 | nil => cases h1
 | cell k c r' =>
  cases k with
  | some s => cases h1
  | none =>
   cases r' with
   | nil =>
    simp only [Fo.wf, Bool.and_eq_true, Bool.not_eq_true'] at hw
    have := leafRound (S := []) (sh := sh0) hA (Int.le_refl 0) h0 (by simp) (fun x hx => by cases hx) rfl hw.1.1.2 hw.1.2
    unfold Done at this
    rw [if_pos (show clr [] = [] from rfl)] at this
    simpa [Fo.flat, Fo.sh, keyC, shK] using this
   | cell _ _ _ => cases h1
   | node _ _ _ _ => cases h1
 | node k c kids r' =>
  cases k with
  | some s => cases h1
  | none =>
   cases r' with
   | nil =>
    simp only [Fo.wf, Bool.and_eq_true, decide_eq_true_eq] at hw
    obtain ⟨⟨⟨⟨⟨w1, w2⟩, w3⟩, w5⟩, w6⟩, w4⟩ := hw
    have hck := cnt_le_flat kids
    simp only [Fo.flat, keyC, List.nil_append, List.append_nil, List.length_cons] at hlen
    have hvM := hA.hv; have hMM := hA.hM
    have hn := nodeRound (S := []) (sh := sh0) hA (Int.le_refl 0) h0 (by simp) (fun x hx => by cases hx) rfl w2 (by simpa using w3) (by omega)
    have hv2 := (drop_get (Int.le_refl 0) h0).2.1
    have hd := forest_look hA kids ⟨decide (c.fKind = 6), c.fN, decide (c.fKind = 6), [], false⟩ [] (0 + 1) (shc 0 sh0 c) none r (by omega) w6 rfl w5 rfl (fun _ => rfl) (by rw [hv2]; simp [Fo.flat]) (by omega) (by simp) (fun x hx => by cases hx)
    unfold Done at hd
    rw [if_pos (show clr [] = [] from rfl)] at hd
    have := hn.fin hd
    have e : ((0 : Int) + 1 + kids.flat.length) = ((Fo.node none c kids .nil).flat.length : Int) := by simp [Fo.flat, keyC]; omega
    rw [e] at this
    exact this
   | cell _ _ _ => cases h1
   | node _ _ _ _ => cases h1
theorem look_val {F M : Nat} {v : List TApiCell} (hA : LkA F M v) {f : Fo} (h1 : f.one = true) (hw : f.wf false none = true) {r : List TApiCell} (hv : v = f.flat ++ r) : vLook F v = some ((f.flat.length : Int), f.sh 0 sh0, true) := by
 obtain ⟨o, ho, _⟩ := look_total hA
 have e := (look_fin hA h1 hw hv).eq ho
 subst e
 unfold vLook
 rw [obn_s ho]; rfl
end Go.Proofs.YtjfnokmpfekniaaDoor

/-
 Reading values of cells: a plain reader; value.look says what it says. Plain laws.
-/
namespace Go.Proofs.YtjfnokmpfekniaaDoor
open Go
set_option linter.unusedVariables false
set_option linter.unusedSimpArgs false
def prsK (m : Bool) (last : Option Str) (xs : List TApiCell) : Option (Option Str × List TApiCell) :=
 bif m then match xs with
  | [] => none
  | c :: r => bif pl c && decide (c.fKind = 4) && keyOk true last (some c.fStr) then some (some c.fStr, r) else none
 else some (none, xs)
def prs : Nat → Bool → Option Str → Nat → List TApiCell → Option (Fo × List TApiCell)
 | 0, _, _, _, _ => none
 | _ + 1, _, _, 0, xs => some (.nil, xs)
 | F + 1, m, last, k + 1, xs =>
  match prsK m last xs with
  | none => none
  | some (_, []) => none
  | some (key, c :: xs') =>
   bif !pl c then none else
   bif decide (0 < c.fN) then
    match prs F (decide (c.fKind = 6)) none c.fN.toNat xs' with
    | none => none
    | some (kids, ys) => match prs F m key k ys with
     | none => none
     | some (r, zs) => some (.node key c kids r, zs)
   else match prs F m key k xs' with
    | none => none
    | some (r, zs) => some (.cell key c r, zs)
theorem pl_key {c : TApiCell} (hp : pl c = true) (hk : c.fKind = 4) : c = ⟨4, 0, c.fStr, 0⟩ ∧ c.fStr.all okc = true := by
 cases c
 simp only at hk; subst hk
 simp [pl] at hp
 obtain ⟨h1, h2, h3⟩ := hp
 subst h1; subst h2
 exact ⟨rfl, by simpa using h3⟩
theorem prsK_ok {m : Bool} {last key : Option Str} {xs r : List TApiCell} (h : prsK m last xs = some (key, r)) : xs = keyC key ++ r ∧ keyOk m last key = true := by
 unfold prsK at h
 cases m with
 | false => cases h; exact ⟨rfl, rfl⟩
 | true =>
  simp only [cond_true] at h
  cases xs with
  | nil => cases h
  | cons c r' =>
   simp only at h
   cases hb : (pl c && decide (c.fKind = 4) && keyOk true last (some c.fStr)) with
   | false => rw [hb] at h; cases h
   | true =>
    rw [hb] at h
    simp only [Bool.and_eq_true, decide_eq_true_eq] at hb
    cases h
    exact ⟨by rw [(pl_key hb.1.1 hb.1.2).1]; rfl, hb.2⟩
theorem prs_ok : ∀ (F : Nat) (m : Bool) (last : Option Str) (k : Nat) (xs : List TApiCell) (f : Fo) (ys : List TApiCell), prs F m last k xs = some (f, ys) → xs = f.flat ++ ys ∧ f.wf m last = true ∧ f.cnt = k
 | 0, _, _, _, _, _, _, h => by cases h
 | F + 1, m, last, 0, xs, f, ys, h => by cases h; exact ⟨rfl, rfl, rfl⟩
 | F + 1, m, last, k + 1, xs, f, ys, h => by
  rw [prs] at h
  cases hk : prsK m last xs with
  | none => rw [hk] at h; cases h
  | some p =>
   obtain ⟨key, r⟩ := p
   obtain ⟨h1, h2⟩ := prsK_ok hk
   rw [hk] at h
   cases r with
   | nil => cases h
   | cons c xs' =>
    simp only at h
    cases hp : pl c with
    | false => rw [hp] at h; cases h
    | true =>
     rw [hp] at h
     simp only [Bool.not_true, cond_false] at h
     cases hn : decide (0 < c.fN) with
     | true =>
      rw [hn] at h
      simp only [cond_true] at h
      cases hq : prs F (decide (c.fKind = 6)) none c.fN.toNat xs' with
      | none => rw [hq] at h; cases h
      | some q =>
       obtain ⟨kids, zs⟩ := q
       rw [hq] at h
       simp only at h
       cases hr : prs F m key k zs with
       | none => rw [hr] at h; cases h
       | some q2 =>
        obtain ⟨r2, us⟩ := q2
        rw [hr] at h; cases h
        obtain ⟨a1, a2, a3⟩ := prs_ok F _ _ _ _ _ _ hq
        obtain ⟨b1, b2, b3⟩ := prs_ok F _ _ _ _ _ _ hr
        refine ⟨by rw [h1, a1, b1]; simp [Fo.flat], ?_, by simp [Fo.cnt, b3]⟩
        simp only [decide_eq_true_eq] at hn
        simp only [Fo.wf, h2, hp, a2, b2, Bool.and_true, Bool.true_and, Bool.and_eq_true, decide_eq_true_eq]
        omega
     | false =>
      rw [hn] at h
      simp only [cond_false] at h
      cases hr : prs F m key k xs' with
      | none => rw [hr] at h; cases h
      | some q2 =>
       obtain ⟨r2, us⟩ := q2
       rw [hr] at h; cases h
       obtain ⟨b1, b2, b3⟩ := prs_ok F _ _ _ _ _ _ hr
       exact ⟨by rw [h1, b1]; simp [Fo.flat], by simp [Fo.wf, h2, hp, b2, hn], by simp [Fo.cnt, b3]⟩
def Bad {S : Type} (body : S → Option (Stp S LkO)) (s : S) : Prop := ∃ sh', Fin body s (.ret (0, sh', false)) ∨ Fin body s (.go sh')
theorem Reach.bad {S : Type} {body : S → Option (Stp S LkO)} {s t : S} (h : Reach body s t) (h' : Bad body t) : Bad body s := by
 obtain ⟨sh', h' | h'⟩ := h'
 ·exact ⟨sh', .inl (h.fin h')⟩
 ·exact ⟨sh', .inr (h.fin h')⟩
section
variable {F M : Nat} {v : List TApiCell}
theorem Bad.end_ {S : List TValueOpen} {i : Int} {sh : TValueShape} (h0 : 0 ≤ i) (h : v.drop i.toNat = []) : Bad (lkB F v) (S.reverse, i, sh) := by
 refine ⟨sh, .inr (Fin.step ?_)⟩
 show vLook_b1 F v S.reverse i sh = _
 unfold vLook_b1
 rw [cnd_ff]
 have : v.length ≤ i.toNat := by simpa using h
 simp; omega
theorem Bad.pl_ (hA : LkA F M v) {S : List TValueOpen} {i : Int} {sh : TValueShape} {c : TApiCell} {r : List TApiCell} (h0 : 0 ≤ i) (h : v.drop i.toNat = c :: r) (hS : (S.length : Int) ≤ i) (hb : lefts S) (hp : pl c = false) : Bad (lkB F v) (S.reverse, i, sh) := by
 refine ⟨sh, .inl (Fin.step ?_)⟩
 rw [round hA h0 h hS hb]
 simp [lkc, hp]
theorem forest_bad (hA : LkA F M v) : ∀ (P : Nat) (k : Nat) (e : TValueOpen) (S : List TValueOpen) (i : Int) (sh : TValueShape) (last : Option Str) (xs : List TApiCell), xs.length < P → prs P e.fPairs last (k + 1) xs = none → e.fKey = e.fPairs → e.fLeft = (k : Int) + 1 → (k : Int) + 1 ≤ 9223372036854775807 → lastOk e last → (e.fPairs = false → last = none) → v.drop i.toNat = xs → 0 ≤ i → (S.length : Int) + 1 ≤ i → lefts S →
  Bad (lkB F v) ((e :: S).reverse, i, sh) := by
 intro P
 induction P with
 | zero => intro k e S i sh last xs h; omega
 | succ P ih =>
  intro k e S i sh last xs hP hn hk hl hkm hlo hm hv h0 hS hb
  have hb' : lefts (e :: S) := fun x hx => by
   rcases List.mem_cons.1 hx with rfl | hx
   ·constructor <;> omega
   ·exact hb x hx
  rw [prs] at hn
  cases hq : prsK e.fPairs last xs with
  | none =>
   unfold prsK at hq
   cases hpr : e.fPairs with
   | false => rw [hpr] at hq; cases hq
   | true =>
    rw [hpr] at hq hk
    simp only [cond_true] at hq
    cases xs with
    | nil => exact Bad.end_ h0 hv
    | cons c r =>
     simp only at hq
     cases hp : pl c with
     | false => exact Bad.pl_ hA h0 hv (by simpa using hS) hb' hp
     | true =>
      refine ⟨sh, .inl (Fin.step ?_)⟩
      rw [round hA h0 hv (by simpa using hS) hb']
      have ht : (!decide (c.fKind = 4) || (e.fStarted && (sLess c.fStr e.fLast || decide (c.fStr = e.fLast)))) = true := by
       rw [hp] at hq
       cases h4 : decide (c.fKind = 4) with
       | false => rfl
       | true =>
        rw [h4] at hq
        simp only [Bool.and_self, Bool.true_and] at hq
        have hok := (pl_key hp (by simpa using h4)).2
        cases last with
        | none => simp [keyOk, hok] at hq
        | some p =>
         obtain ⟨q1, q2⟩ := hlo
         rw [q1, q2]
         cases hc : (sLess c.fStr p || decide (c.fStr = p)) with
         | true => rfl
         | false => simp [keyOk, hok, hc] at hq
      simp only [lkc, hp, hk, ht, Bool.not_true, cond_false, cond_true]
  | some q =>
   obtain ⟨key, r⟩ := q
   obtain ⟨h1, h2⟩ := prsK_ok hq
   rw [hq] at hn
   have hkr := keyRound (sh := sh) hA h0 (by rw [hv]; exact h1) hS hb' (by rw [hk]; exact h2) hlo
   have hv1 := drop_app h0 (hv.trans h1)
   obtain ⟨kl, kp⟩ := keyed_left (e := e) key
   obtain ⟨q1, q2⟩ := keyed_last hlo hm h2
   have hbk : lefts (keyed e key :: S) := fun x hx => by
    rcases List.mem_cons.1 hx with rfl | hx
    ·rw [kl]; exact hb' e (by simp)
    ·exact hb x hx
   refine hkr.bad ?_
   cases r with
   | nil => exact Bad.end_ (by omega) hv1
   | cons c xs' =>
    have hlen : xs'.length + 1 ≤ xs.length := by rw [h1]; simp
    have hvl : xs.length ≤ v.length := by rw [← hv, List.length_drop]; omega
    have hvM := hA.hv; have hMM := hA.hM
    have hkk := keyed_key (e := e) (last := last) (k := key) (by rw [hk]; exact h2)
    simp only at hn
    have hSk : (((keyed e key :: S).length : Nat) : Int) ≤ i + (keyC key).length := by simp only [List.length_cons]; omega
    cases hp : pl c with
    | false => exact Bad.pl_ hA (by omega) hv1 hSk hbk hp
    | true =>
     rw [hp] at hn
     simp only [Bool.not_true, cond_false] at hn
     obtain ⟨g1, g2, g3⟩ := drop_get (by omega) hv1
     have hcN := (hA.hc c (List.mem_of_getElem? g1)).2.2
     -- what follows a whole value
     have more : ∀ (s : LkS) (j : Int) (sh' : TValueShape) (zs : List TApiCell), Done (lkB F v) s (keyed e key :: S) j sh' → v.drop j.toNat = zs → zs.length < P → 0 ≤ j → (S.length : Int) + 1 ≤ j → prs P e.fPairs key k zs = none → Bad (lkB F v) s := fun s j sh' zs hd hz hzl hj hSj hnone => by
      cases k with
      | zero =>
       cases P with
       | zero => omega
       | succ P => cases hnone
      | succ k =>
       have := hd.more (by rw [kl]; omega)
       refine this.bad (ih k _ S j sh' key zs hzl (by rw [kp]; exact hnone) rfl (by simp only [kl]; omega) (by omega) ?_ (by simpa using q2) hz hj hSj hb)
       cases key with
       | none => exact q1
       | some p => exact q1
     cases hN : decide (0 < c.fN) with
     | true =>
      rw [hN] at hn
      simp only [cond_true] at hn
      simp only [decide_eq_true_eq] at hN
      by_cases hbig : c.fN ≤ v.length
      ·have hnd := nodeRound (sh := shK key sh) hA (by omega) hv1 hSk hbk (by simpa [keyTop] using hkk) hp (by simpa using hN) hbig
       refine hnd.bad ?_
       cases hks : prs P (decide (c.fKind = 6)) none c.fN.toNat xs' with
       | none =>
        obtain ⟨n', hn'⟩ : ∃ n', c.fN.toNat = n' + 1 := ⟨c.fN.toNat - 1, by omega⟩
        rw [hn'] at hks
        exact ih n' _ _ _ _ none xs' (by omega) hks rfl (by simp only; omega) (by omega) rfl (fun _ => rfl) g2 (by omega) (by simp only [List.length_cons]; omega) hbk
       | some q =>
        obtain ⟨kids, zs⟩ := q
        rw [hks] at hn
        simp only at hn
        have hn2 : prs P e.fPairs key k zs = none := by
         cases hz : prs P e.fPairs key k zs with
         | none => rfl
         | some q => rw [hz] at hn; cases hn
        obtain ⟨a1, a2, a3⟩ := prs_ok _ _ _ _ _ _ _ hks
        have hd := forest_look hA kids ⟨decide (c.fKind = 6), c.fN, decide (c.fKind = 6), [], false⟩ (keyed e key :: S) (i + (keyC key).length + 1) (shc (S.length + 1) (shK key sh) c) none zs (by omega) a2 rfl (by simp only; omega) rfl (fun _ => rfl) (by rw [g2]; exact a1) (by omega) (by simp only [List.length_cons]; omega) hbk
        have hz : v.drop (i + (keyC key).length + 1 + kids.flat.length).toNat = zs := drop_app (by omega) (g2.trans a1)
        have hzl : zs.length ≤ xs'.length := by rw [a1]; simp
        exact more _ _ _ zs hd hz (by omega) (by omega) (by omega) hn2
      ·refine ⟨shc (keyed e key :: S).length (shK key sh) c, .inl (Fin.step ?_)⟩
       rw [round hA (by omega) hv1 hSk hbk]
       have hbig' : decide ((v.length : Int) < c.fN) = true := by simpa using hbig
       simp only [lkc, hp, hkk, hbig', hN, Bool.not_true, cond_false, cond_true, decide_true]
     | false =>
      rw [hN] at hn
      simp only [cond_false] at hn
      have hn2 : prs P e.fPairs key k xs' = none := by
       cases hz : prs P e.fPairs key k xs' with
       | none => rfl
       | some q => rw [hz] at hn; cases hn
      have hd := leafRound (sh := shK key sh) hA (by omega) hv1 hSk hbk (by simpa [keyTop] using hkk) hp hN
      exact more _ _ _ xs' hd g2 (by omega) (by omega) (by omega) hn2
def prs1 (xs : List TApiCell) : Option (Fo × List TApiCell) := prs (xs.length + 1) false none 1 xs
theorem prs_one {P : Nat} {xs ys : List TApiCell} {f : Fo} (h : prs P false none 1 xs = some (f, ys)) : f.one = true := by
 obtain ⟨h1, h2, h3⟩ := prs_ok _ _ _ _ _ _ _ h
 cases f with
 | nil => cases h3
 | cell k c r =>
  cases r with
  | nil =>
   cases k with
   | none => rfl
   | some s => simp [Fo.wf, keyOk] at h2
  | cell _ _ _ => simp [Fo.cnt] at h3
  | node _ _ _ _ => simp [Fo.cnt] at h3
 | node k c kids r =>
  cases r with
  | nil =>
   cases k with
   | none => rfl
   | some s => simp [Fo.wf, keyOk] at h2
  | cell _ _ _ => simp [Fo.cnt] at h3
  | node _ _ _ _ => simp [Fo.cnt] at h3
theorem look_bad0 (hA : LkA F M v) (h : prs1 v = none) : Bad (lkB F v) ([], 0, sh0) := by
 have hlf : lefts [] := fun x hx => by cases hx
 unfold prs1 at h
 rw [prs] at h
 simp only [prsK, cond_false] at h
 cases v with
 | nil => exact Bad.end_ (S := []) (Int.le_refl 0) rfl
 | cons c xs' =>
  have hv1 : (c :: xs').drop (0 : Int).toNat = c :: xs' := rfl
  have hvM := hA.hv; have hMM := hA.hM
  simp only at h
  cases hp : pl c with
  | false => exact Bad.pl_ (S := []) hA (Int.le_refl 0) hv1 (by simp) hlf hp
  | true =>
   rw [hp] at h
   simp only [Bool.not_true, cond_false] at h
   have hcN := (hA.hc c (by simp)).2.2
   cases hN : decide (0 < c.fN) with
   | true =>
    rw [hN] at h
    simp only [cond_true] at h
    simp only [decide_eq_true_eq] at hN
    by_cases hbig : c.fN ≤ (c :: xs').length
    ·have hnd := nodeRound (S := []) (sh := sh0) hA (Int.le_refl 0) hv1 (by simp) hlf rfl hp (by simpa using hN) hbig
     refine hnd.bad ?_
     cases hks : prs (c :: xs').length (decide (c.fKind = 6)) none c.fN.toNat xs' with
     | none =>
      obtain ⟨n', hn'⟩ : ∃ n', c.fN.toNat = n' + 1 := ⟨c.fN.toNat - 1, by omega⟩
      rw [hn'] at hks
      exact forest_bad hA (c :: xs').length n' ⟨decide (c.fKind = 6), c.fN, decide (c.fKind = 6), [], false⟩ [] (0 + 1) _ none xs' (by simp) hks rfl (by simp only; omega) (by omega) rfl (fun _ => rfl) rfl (by omega) (by simp) hlf
     | some q => rw [hks] at h; cases h
    ·refine ⟨shc 0 sh0 c, .inl (Fin.step ?_)⟩
     rw [show lkB F (c :: xs') (([] : List TValueOpen), 0, sh0) = _ from round (S := []) hA (Int.le_refl 0) hv1 (by simp) hlf]
     have hbig' : decide (((c :: xs').length : Int) < c.fN) = true := by simpa using hbig
     simp only [lkc, hp, hbig', hN, Bool.not_true, cond_false, cond_true, decide_true]
   | false => rw [hN] at h; cases h
theorem look_eq (hA : LkA F M v) : (∃ f ys, prs1 v = some (f, ys) ∧ vLook F v = some ((f.flat.length : Int), f.sh 0 sh0, true)) ∨ (prs1 v = none ∧ ∃ sh', vLook F v = some (0, sh', false)) := by
 cases h : prs1 v with
 | some q =>
  obtain ⟨f, ys⟩ := q
  obtain ⟨h1, h2, h3⟩ := prs_ok _ _ _ _ _ _ _ h
  exact .inl ⟨f, ys, rfl, look_val hA (prs_one h) h2 h1⟩
 | none =>
  refine .inr ⟨rfl, ?_⟩
  obtain ⟨o, ho, _⟩ := look_total hA
  obtain ⟨sh', hb | hb⟩ := look_bad0 hA h
  ·have e := hb.eq ho
   subst e
   exact ⟨sh', by unfold vLook; rw [obn_s ho]; rfl⟩
  ·have e := hb.eq ho
   subst e
   exact ⟨sh', by unfold vLook; rw [obn_s ho]; rfl⟩
end
end Go.Proofs.YtjfnokmpfekniaaDoor

/-
 Forests: depth, bytes, text; what value.look tells of them. Plain laws.
-/
namespace Go.Proofs.YtjfnokmpfekniaaDoor
open Go
set_option linter.unusedVariables false
set_option linter.unusedSimpArgs false
theorem wrap_id {x : Int} (h : -9223372036854775808 ≤ x) (h' : x ≤ 9223372036854775807) : IntKind.wrap .i64 x = x := by
 simp only [IntKind.wrap, IntKind.bits, IntKind.signed]
 simp
 omega
def Fo.dep : Fo → Nat
 | .nil => 0
 | .cell _ _ r => max 1 r.dep
 | .node _ _ kids r => max (kids.dep + 1) r.dep
theorem shK_depth (k : Option Str) (s : TValueShape) : (shK k s).fDepth = s.fDepth ∧ (shK k s).fOutside = s.fOutside ∧ (shK k s).fLong = (s.fLong || (keyC k).any fun c => decide (200 < (c.fStr.length : Int))) := by
 cases k with
 | none => simp [shK, keyC]
 | some x => simp [shK, shk, keyC]
theorem sh_depth : ∀ (f : Fo) (d : Nat) (s : TValueShape), (d : Int) ≤ s.fDepth → (f.sh d s).fDepth = max s.fDepth ((d : Int) + f.dep)
 | .nil, d, s, h => by simp only [Fo.sh, Fo.dep]; omega
 | .cell k c r, d, s, h => by
  have hk := (shK_depth k s).1
  have e : (shc d (shK k s) c).fDepth = max s.fDepth ((d : Int) + 1) := by rw [shc, hk]
  rw [Fo.sh, sh_depth r d _ (by rw [e]; omega), e, Fo.dep]; omega
 | .node k c kids r, d, s, h => by
  have hk := (shK_depth k s).1
  have e : (shc d (shK k s) c).fDepth = max s.fDepth ((d : Int) + 1) := by rw [shc, hk]
  have e2 := sh_depth kids (d + 1) (shc d (shK k s) c) (by rw [e]; omega)
  rw [e] at e2
  rw [Fo.sh, sh_depth r d _ (by rw [e2]; omega), e2, Fo.dep]; omega
def outC (c : TApiCell) : Bool := decide (c.fKind = 3) && !(decide ((-1000000000000) ≤ c.fInt) && decide (c.fInt ≤ 1000000000000))
def longC (c : TApiCell) : Bool := decide (200 < (c.fStr.length : Int))
theorem keyC_out (k : Option Str) : (keyC k).any outC = false := by cases k <;> simp [keyC, outC]
theorem sh_out : ∀ (f : Fo) (d : Nat) (s : TValueShape), (f.sh d s).fOutside = (s.fOutside || f.flat.any outC)
 | .nil, d, s => by simp [Fo.sh, Fo.flat]
 | .cell k c r, d, s => by
  rw [Fo.sh, sh_out r, shc, (shK_depth k s).2.1]
  simp only [Fo.flat, List.any_append, List.any_cons, keyC_out, Bool.false_or, Bool.or_assoc]
  rfl
 | .node k c kids r, d, s => by
  rw [Fo.sh, sh_out r, sh_out kids, shc, (shK_depth k s).2.1]
  simp only [Fo.flat, List.any_append, List.any_cons, keyC_out, Bool.false_or, Bool.or_assoc]
  rfl
theorem sh_long : ∀ (f : Fo) (d : Nat) (s : TValueShape), (f.sh d s).fLong = (s.fLong || f.flat.any longC)
 | .nil, d, s => by simp [Fo.sh, Fo.flat]
 | .cell k c r, d, s => by
  rw [Fo.sh, sh_long r, shc, (shK_depth k s).2.2]
  simp only [Fo.flat, List.any_append, List.any_cons, Bool.or_assoc]
  rfl
 | .node k c kids r, d, s => by
  rw [Fo.sh, sh_long r, sh_long kids, shc, (shK_depth k s).2.2]
  simp only [Fo.flat, List.any_append, List.any_cons, Bool.or_assoc]
  rfl
def lsz (c : TApiCell) : Int :=
 bif decide (c.fKind = 1) then 4 else bif decide (c.fKind = 2) then 5 - c.fInt else bif decide (c.fKind = 3) then ((Lib.itoa c.fInt).length : Int) else
 bif decide (c.fKind = 4) then qlen c.fStr else 2
def kbn : Option Str → Int
 | none => 0
 | some s => qlen s + 1
def Fo.byt : Fo → Int
 | .nil => 0
 | .cell k c r => kbn k + lsz c + r.byt
 | .node k c kids r => kbn k + (c.fN + 1) + kids.byt + r.byt
theorem qlen_pos (s : Str) : 2 ≤ qlen s := by unfold qlen; omega
theorem kbn_pos (k : Option Str) : 0 ≤ kbn k := by
 cases k with
 | none => exact Int.le_refl 0
 | some s => have := qlen_pos s; simp only [kbn]; omega
theorem lsz_pos {c : TApiCell} (hp : pl c = true) : 0 ≤ lsz c := by
 unfold lsz
 cases h1 : decide (c.fKind = 1) with
 | true => simp
 | false =>
  cases h2 : decide (c.fKind = 2) with
  | true =>
   simp [pl, h1, h2] at hp
   simp only [cond_false, cond_true]; omega
  | false =>
   cases h3 : decide (c.fKind = 3) with
   | true => simp
   | false =>
    cases h4 : decide (c.fKind = 4) with
    | true => have := qlen_pos c.fStr; simp only [cond_false, cond_true]; omega
    | false => simp
theorem pl_N {c : TApiCell} (hp : pl c = true) : 0 ≤ c.fN := by
 simp only [pl, ← Bool.decide_or] at hp
 cases h1 : decide (c.fKind = 1) <;> cases h2 : decide (c.fKind = 2) <;> cases h3 : decide (c.fKind = 3) <;> cases h4 : decide (c.fKind = 4) <;> cases h5 : decide (c.fKind = 5) <;> cases h6 : decide (c.fKind = 6) <;> simp [h1, h2, h3, h4, h5, h6] at hp <;> omega
theorem pl_node {c : TApiCell} (hp : pl c = true) (hn : 0 < c.fN) : (c.fKind = 5 ∨ c.fKind = 6) ∧ c.fInt = 0 ∧ c.fStr = [] := by
 cases h1 : decide (c.fKind = 1) <;> cases h2 : decide (c.fKind = 2) <;> cases h3 : decide (c.fKind = 3) <;> cases h4 : decide (c.fKind = 4) <;> cases h5 : decide (c.fKind = 5) <;> cases h6 : decide (c.fKind = 6) <;> simp [pl, h1, h2, h3, h4, h5, h6] at hp <;> (simp only [decide_eq_true_eq, decide_eq_false_iff_not] at *; first | omega | exact ⟨by omega, hp.1, hp.2.1⟩)
theorem szc_leaf {c : TApiCell} (hp : pl c = true) (hn : decide (0 < c.fN) = false) : szc c = lsz c := by
 have hN := pl_N hp
 have h0 : c.fN = 0 := by simp only [decide_eq_false_iff_not] at hn; omega
 unfold szc lsz
 rw [h0]
 cases h1 : decide (c.fKind = 1) with
 | true => rfl
 | false =>
  cases h2 : decide (c.fKind = 2) with
  | true =>
   simp [pl, h1, h2] at hp
   simp only [cond_false, cond_true]
   exact wrap_id (by omega) (by omega)
  | false => rfl
theorem szc_node {c : TApiCell} (hp : pl c = true) (hn : 0 < c.fN) (hm : c.fN ≤ 9223372036854775000) : szc c = c.fN + 1 := by
 obtain ⟨hk, _, _⟩ := pl_node hp hn
 unfold szc
 rw [decide_eq_false (by omega), decide_eq_false (by omega), decide_eq_false (by omega), decide_eq_false (by omega)]
 simp only [cond_false]
 rw [wrap_id (x := c.fN - 1) (by omega) (by omega), wrap_id (by omega) (by omega)]; omega
theorem byt_pos : ∀ {f : Fo} {m : Bool} {l : Option Str}, f.wf m l = true → 0 ≤ f.byt
 | .nil, _, _, _ => Int.le_refl 0
 | .cell k c r, m, l, h => by
  simp only [Fo.wf, Bool.and_eq_true] at h
  have h1 := byt_pos h.2; have h2 := lsz_pos h.1.1.2; have h3 := kbn_pos k
  simp only [Fo.byt]; omega
 | .node k c kids r, m, l, h => by
  simp only [Fo.wf, Bool.and_eq_true, decide_eq_true_eq] at h
  have h1 := byt_pos h.2; have h2 := byt_pos h.1.2; have h3 := kbn_pos k
  simp only [Fo.byt]; omega
theorem shK_bytes (k : Option Str) (s : TValueShape) (h0 : 0 ≤ s.fBytes) (h : s.fBytes + kbn k ≤ 9223372036854775807) : (shK k s).fBytes = s.fBytes + kbn k := by
 cases k with
 | none => simp [shK, kbn]
 | some x =>
  have := qlen_pos x
  simp only [kbn] at h
  simp only [shK, shk, kbn]
  exact wrap_id (by omega) (by omega)
theorem sh_bytes : ∀ (f : Fo) (m : Bool) (l : Option Str) (d : Nat) (s : TValueShape), f.wf m l = true → 0 ≤ s.fBytes → s.fBytes + f.byt ≤ 9223372036854775000 → (f.sh d s).fBytes = s.fBytes + f.byt
 | .nil, _, _, d, s, _, _, _ => by simp [Fo.sh, Fo.byt]
 | .cell k c r, m, l, d, s, hw, h0, h => by
  simp only [Fo.wf, Bool.and_eq_true, Bool.not_eq_true'] at hw
  obtain ⟨⟨⟨w1, w2⟩, w3⟩, w4⟩ := hw
  have h1 := byt_pos w4; have h2 := lsz_pos w2; have h3 := kbn_pos k
  simp only [Fo.byt] at h
  have e1 := shK_bytes k s h0 (by omega)
  have e : (shc d (shK k s) c).fBytes = s.fBytes + kbn k + lsz c := by
   rw [shc, e1, szc_leaf w2 w3]; exact wrap_id (by omega) (by omega)
  rw [Fo.sh, sh_bytes r _ _ d _ w4 (by rw [e]; omega) (by rw [e]; omega), e, Fo.byt]; omega
 | .node k c kids r, m, l, d, s, hw, h0, h => by
  simp only [Fo.wf, Bool.and_eq_true, decide_eq_true_eq] at hw
  obtain ⟨⟨⟨⟨⟨w1, w2⟩, w3⟩, w5⟩, w6⟩, w4⟩ := hw
  have h1 := byt_pos w4; have h2 := byt_pos w6; have h3 := kbn_pos k
  simp only [Fo.byt] at h
  have e1 := shK_bytes k s h0 (by omega)
  have e : (shc d (shK k s) c).fBytes = s.fBytes + kbn k + (c.fN + 1) := by
   rw [shc, e1, szc_node w2 w3 (by omega)]; exact wrap_id (by omega) (by omega)
  have e2 := sh_bytes kids _ _ (d + 1) (shc d (shK k s) c) w6 (by rw [e]; omega) (by rw [e]; omega)
  rw [Fo.sh, sh_bytes r _ _ d _ w4 (by rw [e2, e]; omega) (by rw [e2, e]; omega), e2, e, Fo.byt]; omega
def escS (s : Str) : Str := s.flatMap fun c => bif (decide (c = 34) || decide (c = 92)) then [92, c] else [c]
def quoS (s : Str) : Str := 34 :: (escS s ++ [34])
theorem escS_len : ∀ s : Str, (escS s).length = s.length + s.count 34 + s.count 92
 | [] => rfl
 | c :: s => by
  have ih := escS_len s
  unfold escS at ih ⊢
  rw [List.flatMap_cons, List.length_append, ih]
  by_cases h1 : c = 34
  ·subst h1; simp; omega
  ·by_cases h2 : c = 92
   ·subst h2; simp; omega
   ·simp [h1, h2, List.count_cons]; omega
theorem quoS_len (s : Str) : ((quoS s).length : Int) = qlen s := by
 simp only [quoS, List.length_cons, List.length_append, escS_len, List.length_nil, qlen]; omega
def leafT (c : TApiCell) : Str :=
 bif decide (c.fKind = 1) then [110, 117, 108, 108] else
 bif decide (c.fKind = 2) then (bif decide (c.fInt = 1) then [116, 114, 117, 101] else [102, 97, 108, 115, 101]) else
 bif decide (c.fKind = 3) then Lib.itoa c.fInt else
 bif decide (c.fKind = 4) then quoS c.fStr else
 bif decide (c.fKind = 6) then [123, 125] else [91, 93]
def ktx : Option Str → Str
 | none => []
 | some s => quoS s ++ [58]
def brk (c : TApiCell) (s : Str) : Str := bif decide (c.fKind = 6) then 123 :: (s ++ [125]) else 91 :: (s ++ [93])
def sepT (first : Bool) : Str := bif first then [] else [44]
def Fo.txt : Bool → Fo → Str
 | _, .nil => []
 | b, .cell k c r => sepT b ++ ktx k ++ leafT c ++ r.txt false
 | b, .node k c kids r => sepT b ++ ktx k ++ brk c (kids.txt true) ++ r.txt false
theorem ktx_len (k : Option Str) : ((ktx k).length : Int) = kbn k := by
 cases k with
 | none => rfl
 | some s => simp only [ktx, List.length_append, kbn, List.length_singleton]; have := quoS_len s; omega
theorem leafT_len {c : TApiCell} (hp : pl c = true) : ((leafT c).length : Int) = lsz c := by
  unfold leafT lsz
  cases h1 : decide (c.fKind = 1) with
  | true => rfl
  | false =>
    cases h2 : decide (c.fKind = 2) with
    | true =>
      simp [pl, h1, h2] at hp
      simp only [cond_false, cond_true]
      cases h7 : decide (c.fInt = 1) with
      | true => simp only [decide_eq_true_eq] at h7; simp [h7]
      | false => simp only [decide_eq_false_iff_not] at h7; have : c.fInt = 0 := by omega
                 simp [this]
    | false =>
      cases h3 : decide (c.fKind = 3) with
      | true => rfl
      | false =>
        cases h4 : decide (c.fKind = 4) with
        | true => simpa using quoS_len c.fStr
        | false => cases h6 : decide (c.fKind = 6) <;> rfl
theorem brk_len (c : TApiCell) (s : Str) : (brk c s).length = s.length + 2 := by
 unfold brk
 cases decide (c.fKind = 6) <;> simp
theorem txt_len : ∀ (f : Fo) (m : Bool) (l : Option Str) (b : Bool), f.wf m l = true → ((f.txt b).length : Int) = f.byt + (bif b then ((f.cnt - 1 : Nat) : Int) else (f.cnt : Int))
 | .nil, m, l, b, _ => by cases b <;> rfl
 | .cell k c r, m, l, b, hw => by
  simp only [Fo.wf, Bool.and_eq_true, Bool.not_eq_true'] at hw
  obtain ⟨⟨⟨w1, w2⟩, w3⟩, w4⟩ := hw
  have ih := txt_len r _ _ false w4
  have a := ktx_len k; have d := leafT_len w2
  simp only [cond_false] at ih
  cases b <;> simp only [Fo.txt, Fo.byt, Fo.cnt, sepT, cond_true, cond_false, List.length_append, List.length_nil, List.length_singleton] <;> omega
 | .node k c kids r, m, l, b, hw => by
  simp only [Fo.wf, Bool.and_eq_true, decide_eq_true_eq] at hw
  obtain ⟨⟨⟨⟨⟨w1, w2⟩, w3⟩, w5⟩, w6⟩, w4⟩ := hw
  have ih := txt_len r _ _ false w4
  have ih2 := txt_len kids _ _ true w6
  have a := ktx_len k; have d := brk_len c (kids.txt true)
  simp only [cond_false, cond_true] at ih ih2
  cases b <;> simp only [Fo.txt, Fo.byt, Fo.cnt, sepT, cond_true, cond_false, List.length_append, List.length_nil, List.length_singleton] <;> omega
def Fo.put (k : Option Str) : Fo → Fo → Fo
 | .cell _ c _, r => .cell k c r
 | .node _ c kids _, r => .node k c kids r
 | .nil, _ => .nil
end Go.Proofs.YtjfnokmpfekniaaDoor

/-
 The reference reads values as the plain reader does. Plain laws.
-/
namespace Go.Proofs.YtjfnokmpfekniaaDoor
open Go
set_option linter.unusedVariables false
set_option linter.unusedSimpArgs false
theorem prs1_ok {xs ys : List TApiCell} {f : Fo} (h : prs1 xs = some (f, ys)) : xs = f.flat ++ ys ∧ f.wf false none = true ∧ f.one = true :=
 ⟨(prs_ok _ _ _ _ _ _ _ h).1, (prs_ok _ _ _ _ _ _ _ h).2.1, prs_one h⟩
structure RfA (F M : Nat) (v : List TApiCell) : Prop where
 hM : M ≤ 1152921504606846976
 hv : v.length ≤ M
 hF : M < F
 hc : ∀ c ∈ v, c.fStr.length ≤ M
section
variable {M : Nat} {v : List TApiCell}
end
end Go.Proofs.YtjfnokmpfekniaaDoor

/-
 The plain reader reads each forest's cells; value.Check, and the reference's levels. Plain laws.
-/
namespace Go.Proofs.YtjfnokmpfekniaaDoor
open Go
set_option linter.unusedVariables false
set_option linter.unusedSimpArgs false
structure CkA (M : Nat) (v : List TApiCell) : Prop where
 hM : M ≤ 1000000000
 hv : v.length ≤ M
 hc : ∀ c ∈ v, c.fStr.length ≤ M ∧ inK .i64 c.fInt = true ∧ c.fN ≤ 9223372036854775807
theorem CkA.lk {M F : Nat} {v : List TApiCell} (h : CkA M v) (hF : M < F) : LkA F M v := ⟨by have := h.hM; omega, by have := h.hM; omega, h.hv, hF, h.hc⟩
theorem CkA.drop {M : Nat} {v : List TApiCell} (h : CkA M v) (k : Nat) : CkA M (v.drop k) := ⟨h.hM, by have := h.hv; rw [List.length_drop]; omega, fun c hc => h.hc c (List.mem_of_mem_drop hc)⟩
theorem CkA.take {M : Nat} {v : List TApiCell} (h : CkA M v) (k : Nat) : CkA M (v.take k) := ⟨h.hM, by have := h.hv; rw [List.length_take]; omega, fun c hc => h.hc c (List.mem_of_mem_take hc)⟩
def whole (v : List TApiCell) : Option Fo := match prs1 v with
 | some (f, []) => some f
 | _ => none
def errF (f : Fo) : Int :=
 bif f.flat.any outC then 2 else bif f.flat.any longC || (decide (200 < f.flat.length) || (decide (8 < f.dep) || decide (4000 < (f.txt true).length))) then 3 else 0
def errV (v : List TApiCell) : Int := match whole v with
 | none => 1
 | some f => errF f
theorem one_cnt {f : Fo} (h1 : f.one = true) : f.cnt = 1 := by
 cases f with
 | nil => cases h1
 | cell k c r => cases k with
  | some _ => cases h1
  | none => cases r with
   | nil => rfl
   | _ => cases h1
 | node k c kids r => cases k with
  | some _ => cases h1
  | none => cases r with
   | nil => rfl
   | _ => cases h1
theorem qlen_le (s : Str) : qlen s ≤ 2 * s.length + 2 + s.length := by
 have h1 : s.count 34 ≤ s.length := List.count_le_length
 have h2 : s.count 92 ≤ s.length := List.count_le_length
 unfold qlen; omega
theorem lsz_le {c : TApiCell} {M : Nat} (hp : pl c = true) (hs : c.fStr.length ≤ M) (hi : (Lib.itoa c.fInt).length ≤ 21) : lsz c ≤ 3 * M + 21 := by
 have := qlen_le c.fStr
 unfold lsz
 cases h1 : decide (c.fKind = 1) with
 | true => simp only [cond_true]; omega
 | false =>
  cases h2 : decide (c.fKind = 2) with
  | true =>
   simp [pl, h1, h2] at hp
   simp only [cond_false, cond_true]; omega
  | false =>
   cases h3 : decide (c.fKind = 3) with
   | true => simp only [cond_false, cond_true]; omega
   | false => cases h4 : decide (c.fKind = 4) <;> simp only [cond_false, cond_true] <;> omega
theorem byt_le {M : Nat} : ∀ {f : Fo} {m : Bool} {l : Option Str}, f.wf m l = true → (∀ c ∈ f.flat, c.fStr.length ≤ M ∧ inK .i64 c.fInt = true ∧ c.fN ≤ 9223372036854775807) → f.byt + f.cnt ≤ (3 * M + 24) * f.flat.length
 | .nil, _, _, _, _ => by simp [Fo.byt, Fo.flat, Fo.cnt]
 | .cell k c r, m, l, hw, hc => by
  simp only [Fo.wf, Bool.and_eq_true, Bool.not_eq_true'] at hw
  obtain ⟨⟨⟨w1, w2⟩, w3⟩, w4⟩ := hw
  simp only [Fo.flat] at hc
  have ih := byt_le w4 (fun x hx => hc x (by simp [hx]))
  obtain ⟨c1, c2, c3⟩ := hc c (by simp)
  have i64 := inK_i64 c2
  have hl := lsz_le w2 c1 (Lib.itoa_length_le c.fInt i64.1 i64.2)
  have hk : kbn k ≤ (3 * M + 24) * (keyC k).length := by
   cases k with
   | none => simp [kbn, keyC]
   | some s =>
    have := (hc ⟨4, 0, s, 0⟩ (by simp [keyC])).1
    have h2 := qlen_le s
    simp only at this
    simp only [kbn, keyC, List.length_singleton]; omega
  simp only [Fo.byt, Fo.flat, Fo.cnt, List.length_append, List.length_cons]
  have e : ((3 * (M : Int) + 24) * (((keyC k).length + (r.flat.length + 1) : Nat) : Int)) = (3 * (M : Int) + 24) * (keyC k).length + ((3 * (M : Int) + 24) * r.flat.length + (3 * (M : Int) + 24)) := by
   push_cast; rw [Int.mul_add, Int.mul_add, Int.mul_one]
  rw [e]
  push_cast at *
  omega
 | .node k c kids r, m, l, hw, hc => by
  simp only [Fo.wf, Bool.and_eq_true, decide_eq_true_eq] at hw
  obtain ⟨⟨⟨⟨⟨w1, w2⟩, w3⟩, w5⟩, w6⟩, w4⟩ := hw
  simp only [Fo.flat] at hc
  have ih := byt_le w4 (fun x hx => hc x (by simp [hx]))
  have ih2 := byt_le w6 (fun x hx => hc x (by simp [hx]))
  have hcf := cnt_le_flat kids
  have hk : kbn k ≤ (3 * M + 24) * (keyC k).length := by
   cases k with
   | none => simp [kbn, keyC]
   | some s =>
    have := (hc ⟨4, 0, s, 0⟩ (by simp [keyC])).1
    have h2 := qlen_le s
    simp only at this
    simp only [kbn, keyC, List.length_singleton]; omega
  simp only [Fo.byt, Fo.flat, Fo.cnt, List.length_append, List.length_cons]
  have e : ((3 * (M : Int) + 24) * (((keyC k).length + (kids.flat.length + r.flat.length + 1) : Nat) : Int)) = (3 * (M : Int) + 24) * (keyC k).length + ((3 * (M : Int) + 24) * kids.flat.length + (3 * (M : Int) + 24) * r.flat.length + (3 * (M : Int) + 24)) := by
   push_cast; rw [Int.mul_add, Int.mul_add, Int.mul_add, Int.mul_one]
  rw [e]
  push_cast at *
  omega
theorem byt_bound {M : Nat} (hM : M ≤ 1000000) {f : Fo} {m : Bool} {l : Option Str} (hw : f.wf m l = true) (hl : f.flat.length ≤ M) (hc : ∀ c ∈ f.flat, c.fStr.length ≤ M ∧ inK .i64 c.fInt = true ∧ c.fN ≤ 9223372036854775807) : f.byt ≤ 4000000000000 := by
 have := byt_le (M := M) hw hc
 have h2 : (3 * M + 24) * f.flat.length ≤ (3 * 1000000 + 24) * 1000000 := Nat.mul_le_mul (by omega) (by omega)
 have h3 : (((3 * M + 24) * f.flat.length : Nat) : Int) = (3 * (M : Int) + 24) * f.flat.length := by push_cast; rfl
 omega
theorem vCheck_eq {M F : Nat} {v : List TApiCell} (hA : CkA M v) (hM : M ≤ 1000000) (hF : M < F) : vCheck F v = some (errV v) := by
 unfold vCheck errV whole
 have hvM := hA.hv
 rcases look_eq (hA.lk hF) with ⟨f, ys, hp, hl⟩ | ⟨hp, sh', hl⟩
 ·rw [hl, obn_s rfl, hp]
  obtain ⟨h1, h2, h3⟩ := prs1_ok hp
  have hlen : v.length = f.flat.length + ys.length := by rw [h1]; simp
  cases ys with
  | cons c r =>
   rw [cnd_tt]
   simp only [List.length_cons] at hlen
   simp; omega
  | nil =>
   simp only [List.length_nil, Nat.add_zero] at hlen
   rw [cnd_ff (by simp [hlen])]
   have hc : ∀ c ∈ f.flat, c.fStr.length ≤ M ∧ inK .i64 c.fInt = true ∧ c.fN ≤ 9223372036854775807 := fun c hc => hA.hc c (by rw [h1]; simp [hc])
   have hb := byt_bound hM h2 (by omega) hc
   have hb0 := byt_pos h2
   have e1 : (f.sh 0 sh0).fOutside = f.flat.any outC := by rw [sh_out]; rfl
   have e2 : (f.sh 0 sh0).fLong = f.flat.any longC := by rw [sh_long]; rfl
   have e3 : (f.sh 0 sh0).fDepth = f.dep := by rw [sh_depth f 0 sh0 (by simp [sh0])]; simp [sh0]
   have e4 : (f.sh 0 sh0).fBytes = (f.txt true).length := by
    rw [sh_bytes f false none 0 sh0 h2 (by simp [sh0]) (by simp [sh0]; omega), txt_len f false none true h2, one_cnt h3]; simp [sh0]
   simp only
   rw [e1, e2, e3, e4, hlen]
   unfold errF
   cases f.flat.any outC with
   | true => rw [cnd_tt rfl]; rfl
   | false =>
    rw [cnd_ff rfl]
    have a1 : decide ((200 : Int) < (f.flat.length : Int)) = decide (200 < f.flat.length) := by rw [Bool.eq_iff_iff]; simp; omega
    have a2 : decide ((8 : Int) < (f.dep : Int)) = decide (8 < f.dep) := by rw [Bool.eq_iff_iff]; simp; omega
    have a3 : decide ((4000 : Int) < ((f.txt true).length : Int)) = decide (4000 < (f.txt true).length) := by rw [Bool.eq_iff_iff]; simp; omega
    rw [a1, a2, a3]
    cases (f.flat.any longC || (decide (200 < f.flat.length) || (decide (8 < f.dep) || decide (4000 < (f.txt true).length)))) <;> rfl
 ·rw [hl, obn_s rfl, hp]; rfl
end Go.Proofs.YtjfnokmpfekniaaDoor

/-
 The order of byte strings; maps as lists that ascend by their keys. Plain laws.
-/
namespace Go.Proofs.YtjfnokmpfekniaaDoor
open Go
set_option linter.unusedVariables false
set_option linter.unusedSimpArgs false
theorem sl_irr : ∀ a : Str, sLess a a = false
 | [] => rfl
 | x :: a => by
  show Op.bytesLess (x :: a) (x :: a) = false
  have h : ¬ x < x := fun h => absurd h (by simp)
  have ih : Op.bytesLess a a = false := sl_irr a
  simp [Op.bytesLess, h, ih]
theorem sl_cons (x y : UInt8) (a b : Str) : sLess (x :: a) (y :: b) = (decide (x < y) || (decide (x = y) && sLess a b)) := by
 show Op.bytesLess (x :: a) (y :: b) = _
 simp only [Op.bytesLess]
 by_cases h : x < y
 ·simp [h]
 ·by_cases e : x = y
  ·subst e; simp [h]
  ·have : y < x := by
    rcases Nat.lt_trichotomy x.toNat y.toNat with h1 | h1 | h1
    ·exact absurd (UInt8.lt_iff_toNat_lt.2 h1) h
    ·exact absurd (UInt8.toNat_inj.1 h1) e
    ·exact UInt8.lt_iff_toNat_lt.2 h1
   simp [h, e, this]
theorem sl_trans : ∀ {a b c : Str}, sLess a b = true → sLess b c = true → sLess a c = true
 | [], [], _, h, _ => by cases h
 | [], _ :: _, [], _, h => by cases h
 | [], _ :: _, _ :: _, _, _ => rfl
 | _ :: _, [], _, h, _ => by cases h
 | _ :: _, _ :: _, [], _, h => by cases h
 | x :: a, y :: b, z :: c, h, h' => by
  rw [sl_cons] at h h' ⊢
  simp only [Bool.or_eq_true, decide_eq_true_eq, Bool.and_eq_true] at h h' ⊢
  have t : ∀ {u v : UInt8}, u < v ↔ u.toNat < v.toNat := UInt8.lt_iff_toNat_lt
  rcases h with h | ⟨rfl, h⟩
  ·rcases h' with h' | ⟨rfl, h'⟩
   ·exact .inl (t.2 (Nat.lt_trans (t.1 h) (t.1 h')))
   ·exact .inl h
  ·rcases h' with h' | ⟨rfl, h'⟩
   ·exact .inl h'
   ·exact .inr ⟨rfl, sl_trans h h'⟩
theorem sl_total : ∀ (a b : Str), sLess a b = true ∨ a = b ∨ sLess b a = true
 | [], [] => .inr (.inl rfl)
 | [], _ :: _ => .inl rfl
 | _ :: _, [] => .inr (.inr rfl)
 | x :: a, y :: b => by
  rw [sl_cons, sl_cons]
  simp only [Bool.or_eq_true, decide_eq_true_eq, Bool.and_eq_true]
  rcases Nat.lt_trichotomy x.toNat y.toNat with h1 | h1 | h1
  ·exact .inl (.inl (UInt8.lt_iff_toNat_lt.2 h1))
  ·have e := UInt8.toNat_inj.1 h1
   subst e
   rcases sl_total a b with h | rfl | h
   ·exact .inl (.inr ⟨rfl, h⟩)
   ·exact .inr (.inl rfl)
   ·exact .inr (.inr (.inr ⟨rfl, h⟩))
  ·exact .inr (.inr (.inl (UInt8.lt_iff_toNat_lt.2 h1)))
theorem sl_ne {a b : Str} (h : sLess a b = true) : a ≠ b := fun e => by subst e; rw [sl_irr] at h; cases h
section
variable {T : Type}
def Ms (xs : List (Str × T)) : Prop := xs.Pairwise fun p q => sLess p.1 q.1 = true
theorem Ms.nil : Ms ([] : List (Str × T)) := List.Pairwise.nil
theorem Ms.nodup {xs : List (Str × T)} (h : Ms xs) : (xs.map (·.1)).Nodup := by
 rw [List.Nodup, List.pairwise_map]
 exact h.imp fun hpq => sl_ne hpq
theorem mget_eq_none {xs : List (Str × T)} {k : Str} : mget xs k = none ↔ ∀ p ∈ xs, p.1 ≠ k := by
 induction xs with
 | nil => simp [mget]
 | cons p r ih =>
  rw [mget]
  by_cases h : p.1 = k
  ·rw [decide_eq_true h]; simp [h]
  ·rw [decide_eq_false h]; simp [h, ih]
theorem mget_some_mem {xs : List (Str × T)} {k : Str} {v : T} (h : mget xs k = some v) : (k, v) ∈ xs := by
 induction xs with
 | nil => cases h
 | cons p r ih =>
  rw [mget] at h
  by_cases e : p.1 = k
  ·rw [decide_eq_true e] at h; cases h; subst e; exact List.mem_cons_self ..
  ·rw [decide_eq_false e] at h; exact List.mem_cons_of_mem _ (ih h)
theorem mget_mem_nodup {xs : List (Str × T)} {k : Str} {v : T} (hn : (xs.map (·.1)).Nodup) (h : (k, v) ∈ xs) : mget xs k = some v := by
 induction xs with
 | nil => cases h
 | cons p r ih =>
  rw [List.map_cons, List.nodup_cons] at hn
  rw [mget]
  rcases List.mem_cons.1 h with h | h
  ·subst h; rw [decide_eq_true rfl]; rfl
  ·have hne : ¬ p.1 = k := fun e => hn.1 (by rw [e]; exact List.mem_map.2 ⟨(k, v), h, rfl⟩)
   rw [decide_eq_false hne]; exact ih hn.2 h
theorem mget_mput (xs : List (Str × T)) (k k' : Str) (v : T) : mget (mput xs k v) k' = bif decide (k' = k) then (mget xs k).map (fun _ => v) else mget xs k' := by
 induction xs with
 | nil => cases decide (k' = k) <;> rfl
 | cons p r ih =>
  show mget ((bif decide (p.1 = k) then (k, v) else p) :: mput r k v) k' = _
  by_cases h : p.1 = k
  ·rw [decide_eq_true h]
   simp only [cond_true, mget]
   by_cases e : k' = k
   ·subst e; rw [decide_eq_true rfl, h, decide_eq_true rfl]; rfl
   ·rw [decide_eq_false (Ne.symm e), decide_eq_false e, ih, decide_eq_false e, h, decide_eq_false (Ne.symm e)]; rfl
  ·rw [decide_eq_false h]
   simp only [cond_false, mget]
   rw [ih]
   by_cases e : k' = k
   ·subst e; rw [decide_eq_true rfl, decide_eq_false h]; rfl
   ·rw [decide_eq_false e]
    cases decide (p.1 = k') <;> rfl
theorem mget_mins (xs : List (Str × T)) (k k' : Str) (v : T) (h : mget xs k = none) : mget (mins k v xs) k' = bif decide (k' = k) then some v else mget xs k' := by
 induction xs with
 | nil =>
  show (bif decide (k = k') then some v else none) = bif decide (k' = k) then some v else none
  by_cases e : k' = k
  ·rw [decide_eq_true e, decide_eq_true e.symm]
  ·rw [decide_eq_false e, decide_eq_false (Ne.symm e)]
 | cons p r ih =>
  rw [mget] at h
  by_cases hk : p.1 = k
  ·rw [decide_eq_true hk] at h; cases h
  ·rw [decide_eq_false hk] at h
   rw [mins]
   cases sLess k p.1 with
   | true =>
    simp only [cond_true, mget]
    by_cases e : k' = k
    ·subst e; rw [decide_eq_true rfl]
     try rfl
    ·rw [decide_eq_false e, decide_eq_false (Ne.symm e)]
     try rfl
   | false =>
    simp only [cond_false, mget]
    rw [ih h]
    by_cases e : k' = k
    ·subst e; rw [decide_eq_true rfl, decide_eq_false hk]; rfl
    ·rw [decide_eq_false e]
     cases decide (p.1 = k') <;> rfl
theorem mget_mset (xs : List (Str × T)) (k k' : Str) (v : T) : mget (mset xs k v) k' = bif decide (k' = k) then some v else mget xs k' := by
 unfold mset mhas
 cases h : mget xs k with
 | none => exact mget_mins xs k k' v h
 | some w =>
  simp only [Option.isSome_some, cond_true]
  rw [mget_mput, h]
  cases decide (k' = k) <;> rfl
theorem mget_mdel (xs : List (Str × T)) (k k' : Str) : mget (mdel xs k) k' = bif decide (k' = k) then none else mget xs k' := by
 unfold mdel
 induction xs with
 | nil => cases decide (k' = k) <;> rfl
 | cons p r ih =>
  by_cases h : p.1 = k
  ·rw [List.filter_cons_of_neg (by simp [h]), ih, mget]
   by_cases e : k' = k
   ·rw [decide_eq_true e]; rfl
   ·rw [decide_eq_false e, h, decide_eq_false (Ne.symm e)]; rfl
  ·rw [List.filter_cons_of_pos (by simp [h]), mget, mget, ih]
   by_cases e : k' = k
   ·rw [decide_eq_true e, e, decide_eq_false h]; rfl
   ·rw [decide_eq_false e]
    cases decide (p.1 = k') <;> rfl
theorem mem_mins {k : Str} {v : T} {q : Str × T} : ∀ {xs : List (Str × T)}, q ∈ mins k v xs → q = (k, v) ∨ q ∈ xs
 | [], h => by simp [mins] at h; exact .inl h
 | p :: r, h => by
  rw [mins] at h
  cases hs : sLess k p.1 with
  | true => rw [hs] at h; simpa using h
  | false =>
   rw [hs] at h
   rcases List.mem_cons.1 h with h | h
   ·exact .inr (by rw [h]; exact List.mem_cons_self ..)
   ·rcases mem_mins h with h | h
    ·exact .inl h
    ·exact .inr (List.mem_cons_of_mem _ h)
theorem Ms.mins {k : Str} {v : T} : ∀ {xs : List (Str × T)}, Ms xs → mget xs k = none → Ms (mins k v xs)
 | [], _, _ => List.pairwise_singleton ..
 | p :: r, h, hk => by
  obtain ⟨h1, h2⟩ := List.pairwise_cons.1 h
  rw [mget] at hk
  by_cases e : p.1 = k
  ·rw [decide_eq_true e] at hk; cases hk
  ·rw [decide_eq_false e] at hk
   rw [Proofs.YtjfnokmpfekniaaDoor.mins]
   cases hs : sLess k p.1 with
   | true => exact List.pairwise_cons.2 ⟨fun q hq => by
     rcases List.mem_cons.1 hq with rfl | hq
     ·exact hs
     ·exact sl_trans hs (h1 q hq), h⟩
   | false =>
    have hp : sLess p.1 k = true := by
     rcases sl_total p.1 k with h | h | h
     ·exact h
     ·exact absurd h e
     ·rw [h] at hs; cases hs
    exact List.pairwise_cons.2 ⟨fun q hq => by
     rcases mem_mins hq with rfl | hq
     ·exact hp
     ·exact h1 q hq, Ms.mins h2 hk⟩
theorem Ms.mput {xs : List (Str × T)} (h : Ms xs) (k : Str) (v : T) : Ms (mput xs k v) := by
 unfold Proofs.YtjfnokmpfekniaaDoor.mput
 unfold Ms
 rw [List.pairwise_map]
 refine h.imp fun {p q} hpq => ?_
 have e : ∀ p : Str × T, (bif decide (p.1 = k) then (k, v) else p).1 = p.1 := fun p => by
  by_cases hp : p.1 = k
  ·rw [decide_eq_true hp]; exact hp.symm
  ·rw [decide_eq_false hp]; rfl
 rw [e, e]; exact hpq
theorem Ms.mset {xs : List (Str × T)} (h : Ms xs) (k : Str) (v : T) : Ms (mset xs k v) := by
 unfold Proofs.YtjfnokmpfekniaaDoor.mset mhas
 cases hk : mget xs k with
 | none => exact h.mins hk
 | some w => exact h.mput k v
theorem Ms.mdel {xs : List (Str × T)} (h : Ms xs) (k : Str) : Ms (mdel xs k) := h.sublist (List.filter_sublist ..)
theorem Ms.ext : ∀ {xs ys : List (Str × T)}, Ms xs → Ms ys → (∀ k, mget xs k = mget ys k) → xs = ys
 | [], [], _, _, _ => rfl
 | [], q :: s, _, _, h => by
  have := h q.1
  rw [mget, mget, decide_eq_true rfl] at this; cases this
 | p :: r, [], _, _, h => by
  have := h p.1
  rw [mget, mget, decide_eq_true rfl] at this; cases this
 | p :: r, q :: s, hx, hy, h => by
  obtain ⟨x1, x2⟩ := List.pairwise_cons.1 hx
  obtain ⟨y1, y2⟩ := List.pairwise_cons.1 hy
  have hpq : p.1 = q.1 := by
   have a1 := h p.1
   have a2 := h q.1
   rw [mget, decide_eq_true rfl] at a1
   rw [show mget (q :: s) q.1 = bif decide (q.1 = q.1) then some q.2 else mget s q.1 from rfl, decide_eq_true rfl] at a2
   simp only [cond_true] at a1 a2
   have m1 := mget_some_mem a1.symm
   have m2 := mget_some_mem a2
   rcases List.mem_cons.1 m1 with e | m1
   ·exact congrArg Prod.fst e
   ·rcases List.mem_cons.1 m2 with e | m2
    ·exact (congrArg Prod.fst e).symm
    ·have c1 := y1 _ m1
     have c2 := x1 _ m2
     have := sl_trans c1 c2
     rw [sl_irr] at this; cases this
  have e : p = q := by
   have a1 := h p.1
   rw [mget, decide_eq_true rfl, mget, decide_eq_true hpq.symm] at a1
   simp only [cond_true, Option.some.injEq] at a1
   exact Prod.ext hpq a1
  subst e
  rw [Ms.ext x2 y2 fun k => by
   have a1 := h k
   rw [mget, mget] at a1
   by_cases e : p.1 = k
   ·have n1 : mget r k = none := mget_eq_none.2 fun z hz e' => by have := x1 z hz; rw [e', ← e, sl_irr] at this; cases this
    have n2 : mget s k = none := mget_eq_none.2 fun z hz e' => by have := y1 z hz; rw [e', ← e, sl_irr] at this; cases this
    rw [n1, n2]
   ·rw [decide_eq_false e] at a1; exact a1]
theorem mins_length (k : Str) (v : T) (xs : List (Str × T)) : (mins k v xs).length = xs.length + 1 := (mins_perm k v xs).length_eq
theorem mset_length (xs : List (Str × T)) (k : Str) (v : T) : (mset xs k v).length = bif mhas xs k then xs.length else xs.length + 1 := by
 unfold mset
 cases mhas xs k with
 | true => simp [mput]
 | false => simp [mins_length]
theorem mdel_length {xs : List (Str × T)} (h : Ms xs) (k : Str) : (mdel xs k).length = bif mhas xs k then xs.length - 1 else xs.length := by
 induction xs with
 | nil => rfl
 | cons p r ih =>
  obtain ⟨h1, h2⟩ := List.pairwise_cons.1 h
  unfold mdel mhas at *
  rw [mget]
  by_cases e : p.1 = k
  ·have hn : r.filter (fun q => !decide (q.1 = k)) = r := List.filter_eq_self.2 fun q hq => by
    have := h1 q hq
    have hne : q.1 ≠ k := fun e' => by rw [e', ← e, sl_irr] at this; cases this
    simp [hne]
   rw [List.filter_cons_of_neg (by simp [e]), hn, decide_eq_true e]; rfl
  ·rw [List.filter_cons_of_pos (by simp [e]), decide_eq_false e, List.length_cons, ih h2]
   cases hg : mget r k with
   | none => rfl
   | some w =>
    have := mget_some_mem hg
    have : 0 < r.length := List.length_pos_of_mem this
    show r.length - 1 + 1 = (r.length + 1) - 1
    omega
end
end Go.Proofs.YtjfnokmpfekniaaDoor

/-
 Rounds over a map that do the same in any order. Plain laws.
-/
namespace Go.Proofs.YtjfnokmpfekniaaDoor
open Go
set_option linter.unusedVariables false
set_option linter.unusedSimpArgs false
theorem lfe_fold {T St R : Type} (body : T → St → Option (Stp St (Out R St))) (g : T → St → St) (I : St → Prop) : ∀ (ord : List T) (s : St), I s → (∀ p ∈ ord, ∀ s, I s → body p s = some (.next (g p s)) ∧ I (g p s)) → lfe body ord s = some (.go (ord.foldl (fun s p => g p s) s)) ∧ I (ord.foldl (fun s p => g p s) s)
 | [], s, hi, _ => ⟨rfl, hi⟩
 | p :: r, s, hi, h => by
  obtain ⟨h1, h2⟩ := h p (List.mem_cons_self ..) s hi
  obtain ⟨h3, h4⟩ := lfe_fold body g I r (g p s) h2 fun q hq => h q (List.mem_cons_of_mem _ hq)
  exact ⟨by rw [lfe, h1]; exact h3, h4⟩
section
variable {T : Type}
theorem mget_perm {xs ys : List (Str × T)} (h : ys.Perm xs) (hn : (xs.map (·.1)).Nodup) (k : Str) : mget ys k = mget xs k := by
 have hn' : (ys.map (·.1)).Nodup := (h.map _).nodup_iff.2 hn
 cases e : mget xs k with
 | none => exact mget_eq_none.2 fun p hp => (mget_eq_none.1 e) p (h.subset hp)
 | some v => exact mget_mem_nodup hn' (h.symm.subset (mget_some_mem e))
def apF (del : T → Bool) (xs : List (Str × T)) (p : Str × T) : List (Str × T) := bif del p.2 then mdel xs p.1 else mset xs p.1 p.2
theorem apF_ms {del : T → Bool} {xs : List (Str × T)} (h : Ms xs) (p : Str × T) : Ms (apF del xs p) := by
 unfold apF
 cases del p.2 with
 | true => exact h.mdel _
 | false => exact h.mset _ _
theorem apFs_ms {del : T → Bool} : ∀ (ord : List (Str × T)) {xs : List (Str × T)}, Ms xs → Ms (ord.foldl (apF del) xs)
 | [], _, h => h
 | p :: r, _, h => apFs_ms r (apF_ms h p)
theorem mget_apF {del : T → Bool} (xs : List (Str × T)) (p : Str × T) (k : Str) : mget (apF del xs p) k = bif decide (k = p.1) then (bif del p.2 then none else some p.2) else mget xs k := by
 unfold apF
 cases del p.2 with
 | true => exact mget_mdel xs p.1 k
 | false => exact mget_mset xs p.1 k p.2
theorem mget_apFs {del : T → Bool} : ∀ (ord : List (Str × T)) (xs : List (Str × T)) (k : Str), (ord.map (·.1)).Nodup → mget (ord.foldl (apF del) xs) k = match mget ord k with
  | none => mget xs k
  | some v => bif del v then none else some v
 | [], xs, k, _ => rfl
 | p :: r, xs, k, h => by
  rw [List.map_cons, List.nodup_cons] at h
  rw [List.foldl_cons, mget_apFs r _ k h.2, mget, mget_apF]
  by_cases e : p.1 = k
  ·have hn : mget r k = none := mget_eq_none.2 fun q hq e' => h.1 (by rw [e, ← e']; exact List.mem_map.2 ⟨q, hq, rfl⟩)
   rw [hn, decide_eq_true e, decide_eq_true e.symm]; rfl
  ·rw [decide_eq_false e, decide_eq_false (Ne.symm e)]; rfl
theorem apFs_perm {del : T → Bool} {xs ys zs : List (Str × T)} (hz : Ms zs) (hx : Ms xs) (h : ys.Perm xs) : ys.foldl (apF del) zs = xs.foldl (apF del) zs :=
 Ms.ext (apFs_ms ys hz) (apFs_ms xs hz) fun k => by
  rw [mget_apFs ys zs k ((h.map _).nodup_iff.2 hx.nodup), mget_apFs xs zs k hx.nodup, mget_perm h hx.nodup]
end
end Go.Proofs.YtjfnokmpfekniaaDoor
