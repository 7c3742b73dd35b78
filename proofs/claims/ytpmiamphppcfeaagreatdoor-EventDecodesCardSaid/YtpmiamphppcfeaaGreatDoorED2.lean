/-
  Texts of the proof, put together: QS, QZ, ShelfN, FwG, Row, IdA, PlB, IdB, PlC, IdC, ShelfV, PlD, PlE, FwJ, IdR, QG, QO, RowQ, PQB, WQB, PVa.
-/
import Derived.Test.YtpmiamphppcfeaaGreatDoorED1
import Derived.Laws.BytesString
import Derived.Lib.Builder
import Derived.Lib.UnsafeStr
import Derived.Lib.AppendStr
import Derived.Laws.Externs
import Derived.Shelf.Strconv.Itoa3
import Derived.Shelf.LaysM
import Derived.Shelf.LaysC
import Derived.Shelf.Strconv.AtoiAll
import Derived.Shelf.Strconv.ErrVarAll
import Derived.Test.YtpmiamphppcfeaaGreatDoorProg
import Derived.Lib.SmallJoins
import Derived.Lib.AppendIntMem
import Derived.Test.YtpmiamphppcfeaaGreatDoorCards
import Derived.Test.YtpmiamphppcfeaaGreatDoorTie
import Derived.Carry
import Derived.ChangeSame
import Derived.ProofKit
import Derived.OpenShut
import Derived.Deep.DeepHandedRow
import Derived.Deep.DeepWitnessRowRef
import Derived.Lib.LaidTab
import Derived.Lib.LaidIn
import Derived.Stop.LaidErr
import Derived.Lib.Bytealg
import Derived.Lib.AtoiAllCases
import Derived.Lib.ItoaNum
import Derived.Lib.ItoaLen
import Derived.Shelf.Strings.Builder1
import Derived.Shelf.Strings.Count
import Derived.Shelf.Strings.Search1
import Derived.Shelf.Strings.Search2
import Derived.Shelf.Strings.Search3
import Derived.Shelf.Small.Strs
import Derived.Lib.ItoaMem
import Derived.Deep.Slices
import Derived.ChangeArms
import Derived.DataReads
import Derived.Laws.Tables
/-
 A strings.Builder of one's own: its entry, the operations of its methods; closures called; texts made of bytes. Plain theorems over any program; no condition.
-/
namespace Go.Proofs.YtpmiamphppcfeaaGreatDoor.Q
open Go Go.RowKit
set_option linter.unusedVariables false
set_option linter.unusedSimpArgs false
theorem toI_cells (l : List UInt8) : ((toI l).map eI_u8).flatten = (l.map fun c => Value.int .u8 c.toNat).map rv := by
 induction l with
 | nil => rfl
 | cons c r ih => simp only [toI, List.map_cons, List.flatten_cons] at ih ⊢; rw [ih]; rfl
theorem toI_len (l : List UInt8) : (toI l).length = l.length := by simp [toI]
theorem run_append_str_st {P : Program} {w : World} {t t' e : TypeId} {inf : TypeInfo} {v : Value} {m : Nat} {us : List Value} {s : List UInt8} (ty : TypeId) (ht : P.underlying t = some (.slice e)) (hu : P.underlying t' = some .string) (hinf : P.info? e = some inf) (hz : inf.zero = some (.int .u8 0)) (hsize : inf.size = 1) (hby : inf.bytes = 1)
  (hown : w.ownsRow 0 e 1 v m us) (hb : m + s.length ≤ 140737488355328) :
  ∃ v' w', (Builtin.append_ #[t, t'] ty #[v, .string (B s)]).run P w = .ok v' w' ∧ w'.ownsRow 0 e 1 v' (m + s.length) (us ++ s.map fun c => Value.int .u8 c.toNat) ∧ w.grownBy w' v.ownBlock ∧ (v'.ownBlock = v.ownBlock ∨ ∀ b, v'.ownBlock = some b → w.heap.size ≤ b) := by
 have hsz : (B s).size = s.length := B_size s
 have hcells : Lib.strCells (B s) = s.map fun c => Value.int .u8 c.toNat := by simp [Lib.strCells, B]
 rcases hown.2 with ⟨rfl, rfl⟩ | ⟨g, cap, cur, rfl, hbg, hg, hnc, hcm, hcs, htake⟩
 ·have hx : us = [] := List.eq_nil_of_length_eq_zero (by simpa using hown.1)
  subst hx
  obtain ⟨v', w', e1, e2, e3, _⟩ := Lib.run_append_own_string (P := P) (w := w) w.heap.size t t' ty e inf ht hu hinf hz hsize hby (.slice none 0 0) 0 [] (World.ownsRow_nil w _ e 1) (B s) (by rw [hsz]; simp only [maxLen]; omega) (by rw [hsz]; omega) (Nat.le_refl _)
  rw [hsz, hcells] at e2
  refine ⟨v', w', e1, ⟨e2.1, ?_⟩, e3, .inr fun b hb => (e2.lt b hb).1⟩
  rcases e2.2 with h | ⟨g, cap, cur, h, _, rest⟩
  ·exact .inl h
  ·exact .inr ⟨g, cap, cur, h, Nat.zero_le _, rest⟩
 ·obtain ⟨v', w', e1, e2, e3, _⟩ := Lib.run_append_own_string (P := P) (w := w) 0 t t' ty e inf ht hu hinf hz hsize hby _ m us hown (B s) (by rw [hsz]; simp only [maxLen]; omega) (by rw [hsz]; omega) (Nat.zero_le _)
  rw [hsz, hcells] at e2
  refine ⟨v', w', e1, e2, e3, ?_⟩
  by_cases hroom : m + (B s).size ≤ cap
  ·have hr := Lib.run_append_room_string (P := P) w t t' ty e inf ht hu hinf hsize g m cap cur hg (B s) hroom (by simp at hcs; omega)
   rw [hr] at e1
   simp only [Result.ok.injEq] at e1
   rw [← e1.1]; exact .inl rfl
  ·have holds : ∀ j u, us[j]? = some u → w.cell? ((⟨g, 0, none⟩ : Addr).add j) = some u := hown.cells (g := g) rfl
   have hr := Lib.run_append_grow_string (P := P) w t t' ty e inf (.int .u8 0) ht hu hinf hz ⟨g, 0, none⟩ m cap us (by rw [hsize]; exact hown.1) holds (B s) (by omega) (by rw [hsz]; omega) (by rw [hby]; exact growslice_fits (by omega) (by rw [hsz]; omega))
   rw [hr] at e1
   simp only [Result.ok.injEq] at e1
   rw [← e1.1]; exact .inr fun b hb => by simp [Value.ownBlock] at hb; omega
section
variable {P : Program} {n : Nat} {c : Cx} {ops : Array Oper} {Q : Exit → Act → World → Prop} {rest : List Oper} {l : Fr} {H H' : List Ent} {d : Nat} {d' : Option Nat} {x y z3 : Operand} {ty t t' e : TypeId} {pos : String} {af : Array Edge} {g : Option (Nat × Bool)} {v u : Value} {r : Rp} {sz : Nat} {K : Act → World → Prop}
theorem St.tobld {Z : Fz} {w : World} (h : St c H Z w) {i b : Nat} {te T : TypeId} (hi : H[i]? = some (.blk b [rv (.pointer none), rv (.slice none 0 0)] T)) : St c (H.set i (.bld T te b (.slice none 0 0) [])) Z w := by
 refine h.set hi rfl rfl rfl (Nat.le_refl _) (fun _ _ _ => rfl) ?_ (by simp [Ent.foot, Value.ownBlock])
 obtain ⟨us, h1, h2⟩ := h.ent hi
 have := RpAll.eq_rv (us := [.pointer none, .slice none 0 0]) h2
 subst this
 exact ⟨_, .inl rfl, h1, ⟨by simp, .inl ⟨rfl, rfl⟩⟩, by simp [Value.ownBlock]⟩
theorem WK.tobld {i b : Nat} {te T : TypeId} (hi : H[i]? = some (.blk b [rv (.pointer none), rv (.slice none 0 0)] T)) (h : WK n c K l (H.set i (.bld T te b (.slice none 0 0) []))) : WK n c K l H := fun a w Z ha hw => h a w Z ha (St.tobld hw hi)
theorem WL.tobld {i b : Nat} {te T : TypeId} (hi : H[i]? = some (.blk b [rv (.pointer none), rv (.slice none 0 0)] T)) (h : WL P n c ops Q rest l (H.set i (.bld T te b (.slice none 0 0) []))) : WL P n c ops Q rest l H := fun a w Z ha hw => h a w Z ha (St.tobld hw hi)
theorem WC.tobld {xx : Code} {i b : Nat} {te T : TypeId} (hi : H[i]? = some (.blk b [rv (.pointer none), rv (.slice none 0 0)] T)) (h : WC P n c xx Q l (H.set i (.bld T te b (.slice none 0 0) []))) : WC P n c xx Q l H := fun a w Z ha hw => h a w Z ha (St.tobld hw hi)
theorem Fn.bld {E : Fz → Prop} {f : FuncId} {args : List Rp} {T te : TypeId} {b : Nat} {v : Value} {s s' : List UInt8} {res : Rp}
  (h : ∀ p, (p = .pointer none ∨ p = .pointer (some ⟨b, 0, none⟩)) → Fn P E f args [.blk b [rv p, rv v] T, .row v te 1 ((toI s).map eI_u8)] (fun R H => ∃ w0 : Value, R = res ∧ H = [.blk b [rv (.pointer (some ⟨b, 0, none⟩)), rv w0] T, .row w0 te 1 ((toI s').map eI_u8)])) :
  Fn P E f args [.bld T te b v s] (fun R H => ∃ w0 : Value, R = res ∧ H = [.bld T te b w0 s']) := fun w Z vs hv hs => by
 obtain ⟨p, hp, h1, h2, h3⟩ := hs.has _ (List.mem_singleton.2 rfl)
 have hfoot : [Ent.bld T te b v s].flatMap Ent.foot = [Ent.blk b [rv p, rv v] T, Ent.row v te 1 ((toI s).map eI_u8)].flatMap Ent.foot := by simp [Ent.foot]
 have hs' : St ⟨w, Z, [Ent.blk b [rv p, rv v] T, Ent.row v te 1 ((toI s).map eI_u8)].flatMap Ent.foot, E⟩ [Ent.blk b [rv p, rv v] T, Ent.row v te 1 ((toI s).map eI_u8)] Z w := by
  refine ⟨rfl, rfl, rfl, Nat.le_refl _, fun _ _ _ => rfl, ?_, fun e he k hk => .inr (List.mem_flatMap.2 ⟨e, he, hk⟩), ?_, hs.frz, Fz.le.refl _, fun _ _ e => .inl e, fun e he k hk => ?_, hs.env, hs.emono⟩
  ·intro e he
   simp only [List.mem_cons, List.not_mem_nil, or_false] at he
   rcases he with rfl | rfl
   ·exact ⟨[p, v], h1, rfl, rfl, trivial⟩
   ·refine ⟨fun cl hcl => by obtain ⟨z, _, rfl⟩ := List.mem_map.1 hcl; rfl, _, by simpa [toI_len] using h2, ?_⟩
    rw [toI_cells]; exact RpAll.rvs Z _
  ·refine List.pairwise_cons.2 ⟨fun e he k hk hk' => ?_, List.pairwise_singleton ..⟩
   simp only [List.mem_singleton] at he; subst he
   simp only [Ent.foot, List.mem_singleton] at hk; subst hk
   simp only [Ent.foot, Option.mem_toList] at hk'
   exact h3 hk'
  ·have hmem : k ∈ [Ent.bld T te b v s].flatMap Ent.foot := by rw [hfoot]; exact List.mem_flatMap.2 ⟨e, he, hk⟩
   obtain ⟨e', he', hk'⟩ := List.mem_flatMap.1 hmem
   exact hs.zdis e' he' k hk'
 rw [hfoot] at hs ⊢
 refine (h p hp w Z vs hv hs').mono fun e w' ⟨R, vv, H, Z', he, ⟨w0, hR, hH⟩, hpR, ht⟩ => ⟨R, vv, [.bld T te b w0 s'], Z', he, ⟨w0, hR, rfl⟩, hpR, ?_⟩
 subst hH
 obtain ⟨us, k1, k2⟩ := ht.has (.blk b [rv (.pointer (some ⟨b, 0, none⟩)), rv w0] T) (by simp)
 obtain ⟨k3, ws, k4, k5⟩ := ht.has (.row w0 te 1 ((toI s').map eI_u8)) (by simp)
 have e1 := RpAll.eq_rv (us := [.pointer (some ⟨b, 0, none⟩), w0]) k2
 subst e1
 rw [toI_cells] at k5
 have e2 := RpAll.eq_rv k5
 subst e2
 have hd := List.pairwise_cons.1 ht.dis
 have hne : w0.ownBlock ≠ some b := fun hb => hd.1 _ (List.mem_singleton.2 rfl) b (by simp [Ent.foot]) (by simp [Ent.foot, hb])
 refine { ht with has := ?_, own := ?_, dis := List.pairwise_singleton .., zdis := ?_ }
 ·intro e' he'; simp only [List.mem_singleton] at he'; subst he'
  exact ⟨_, .inr rfl, k1, by simpa [toI_len] using k4, hne⟩
 ·intro e' he' k hk; simp only [List.mem_singleton] at he'; subst he'
  simp only [Ent.foot, List.mem_cons] at hk
  rcases hk with rfl | hk
  ·exact ht.own (.blk k [rv (.pointer (some ⟨k, 0, none⟩)), rv w0] T) (by simp) k (by simp [Ent.foot])
  ·exact ht.own (.row w0 te 1 ((toI s').map eI_u8)) (by simp) k hk
 ·intro e' he' k hk; simp only [List.mem_singleton] at he'; subst he'
  simp only [Ent.foot, List.mem_cons] at hk
  rcases hk with rfl | hk
  ·exact ht.zdis (.blk k [rv (.pointer (some ⟨k, 0, none⟩)), rv w0] T) (by simp) k (by simp [Ent.foot])
  ·exact ht.zdis (.row w0 te 1 ((toI s').map eI_u8)) (by simp) k hk
theorem Fn.bldS {E : Fz → Prop} {f : FuncId} {args : List Rp} {T te : TypeId} {b : Nat} {v : Value} {s : List UInt8} {res : Rp}
  (h : ∀ p, (p = .pointer none ∨ p = .pointer (some ⟨b, 0, none⟩)) → Fn P E f args [.blk b [rv p, rv v] T, .row v te 1 ((toI s).map eI_u8)] (fun R H => R = res ∧ H = [])) :
  Fn P E f args [.bld T te b v s] (fun R H => R = res ∧ H = []) := fun w Z vs hv hs => by
 obtain ⟨p, hp, h1, h2, h3⟩ := hs.has _ (List.mem_singleton.2 rfl)
 have hfoot : [Ent.bld T te b v s].flatMap Ent.foot = [Ent.blk b [rv p, rv v] T, Ent.row v te 1 ((toI s).map eI_u8)].flatMap Ent.foot := by simp [Ent.foot]
 have hs' : St ⟨w, Z, [Ent.blk b [rv p, rv v] T, Ent.row v te 1 ((toI s).map eI_u8)].flatMap Ent.foot, E⟩ [Ent.blk b [rv p, rv v] T, Ent.row v te 1 ((toI s).map eI_u8)] Z w := by
  refine ⟨rfl, rfl, rfl, Nat.le_refl _, fun _ _ _ => rfl, ?_, fun e he k hk => .inr (List.mem_flatMap.2 ⟨e, he, hk⟩), ?_, hs.frz, Fz.le.refl _, fun _ _ e => .inl e, fun e he k hk => ?_, hs.env, hs.emono⟩
  ·intro e he
   simp only [List.mem_cons, List.not_mem_nil, or_false] at he
   rcases he with rfl | rfl
   ·exact ⟨[p, v], h1, rfl, rfl, trivial⟩
   ·refine ⟨fun cl hcl => by obtain ⟨z, _, rfl⟩ := List.mem_map.1 hcl; rfl, _, by simpa [toI_len] using h2, ?_⟩
    rw [toI_cells]; exact RpAll.rvs Z _
  ·refine List.pairwise_cons.2 ⟨fun e he k hk hk' => ?_, List.pairwise_singleton ..⟩
   simp only [List.mem_singleton] at he; subst he
   simp only [Ent.foot, List.mem_singleton] at hk; subst hk
   simp only [Ent.foot, Option.mem_toList] at hk'
   exact h3 hk'
  ·have hmem : k ∈ [Ent.bld T te b v s].flatMap Ent.foot := by rw [hfoot]; exact List.mem_flatMap.2 ⟨e, he, hk⟩
   obtain ⟨e', he', hk'⟩ := List.mem_flatMap.1 hmem
   exact hs.zdis e' he' k hk'
 rw [hfoot] at hs ⊢
 exact h p hp w Z vs hv hs'

/-! ### Pointers -/
theorem o_pnil_n (hu : ∃ e', P.underlying t = some (.pointer e')) (hx : ev l x = some (rv (.pointer none))) : ORun P n c l H { dst := d', op := .binOp .eql t x (.const (.pointer none)) t', type := ty, pos := pos, after := af, guard := g } (rB true) := fun a w Z ha _ => o_mk <| by
 obtain ⟨e', hu⟩ := hu
 have h1 : ∀ dd : Nat, (Op.equalIn (dd + 1) t (.pointer none) (.pointer none)).run P w = .ok true w := fun dd => by simp [Op.equalIn, run_underlying hu]
 have h2 : (Op.equal t (.pointer none) (.pointer none)).run P w = .ok true w := h1 9999
 have h3 : (eqGuard .eql t x (.const (.pointer none)) (.pointer none) (.pointer none)).run P w = .ok () w := by unfold eqGuard; split <;> simp
 have hy : a.eval (.const (.pointer none)) = .pointer none := rfl
 simp only [execOp, ha.eval hx, hy, Sem.run_bind, h3, Result.andThen_ok, binOp, h2, Sem.run_pure]
theorem o_psame_ne {p : Addr} {te : TypeId} (hu : P.underlying t = some (.pointer te)) (hi : ∃ j, P.info? te = some j) (hx : ev l x = some (rv (.pointer (some p)))) (hy : ev l y = some (rv (.pointer (some p)))) : ORun P n c l H { dst := d', op := .binOp .neq t x y t', type := ty, pos := pos, after := af, guard := g } (rB false) := fun a w Z ha _ => o_mk <| by
 obtain ⟨j, hj⟩ := hi
 have h3 : (eqGuard .neq t x y (.pointer (some p)) (.pointer (some p))).run P w = .ok () w := by unfold eqGuard; split <;> simp
 simp only [execOp, ha.eval hx, ha.eval hy, Sem.run_bind, h3, Result.andThen_ok, Lib.run_neq_ptr_same w p hu hj, Sem.run_pure]
theorem shape_blk {w : World} {Z : Fz} {i b : Nat} {cs : List Rp} (hw : St c H Z w) (hi : H[i]? = some (.blk b cs e)) : w.shape? b = some (e, cs.length) := by
 obtain ⟨us, h1, h2⟩ := hw.ent hi
 simp [World.shape?, h1, h2.length]
theorem o_to_unsafe {i b : Nat} {cs : List Rp} {te : TypeId} (hs : P.underlying t = some (.pointer te)) (hd : P.underlying t' = some .unsafePointer) (hj : ∃ j, P.info? te = some j ∧ j.size ≠ 0) (hx : ev l x = some (rv (.pointer (some ⟨b, 0, none⟩)))) (hi : H[i]? = some (.blk b cs e)) (hl : Nat.blt 0 cs.length = true) :
  ORun P n c l H { dst := d', op := .convert t t' x, type := ty, pos := pos, after := af, guard := g } (rv (.pointer (some ⟨b, 0, none⟩))) := fun a w Z ha hw => o_mk <| by
 obtain ⟨j, hj1, hj2⟩ := hj
 have := Lib.run_to_unsafe (P := P) w ⟨b, 0, none⟩ hs hd hj1 hj2 (shape_blk hw hi) (by simpa using hl)
 simp [execOp, ha.eval hx, this]
theorem o_from_unsafe {i b : Nat} {cs : List Rp} {te : TypeId} (hs : P.underlying t = some .unsafePointer) (hd : P.underlying t' = some (.pointer te)) (hj : ∃ j, P.info? te = some j) (hx : ev l x = some (rv (.pointer (some ⟨b, 0, none⟩)))) (hi : H[i]? = some (.blk b cs e)) (hl : liesAt P P.depth e (cs.length / P.cellsOf e) 0 te 1 = true) :
  ORun P n c l H { dst := d', op := .convert t t' x, type := ty, pos := pos, after := af, guard := g } (rv (.pointer (some ⟨b, 0, none⟩))) := fun a w Z ha hw => o_mk <| by
 obtain ⟨j, hj1⟩ := hj
 have := Lib.run_from_unsafe (P := P) w ⟨b, 0, none⟩ hs hd hj1 (shape_blk hw hi) hl
 simp [execOp, ha.eval hx, this]
theorem o_noesc {f : FuncId} {fn : Func} {ats : Array TypeId} (hf : P.funcs[f]? = some fn) (hname : (fn.name == "runtime.NumGoroutine") = false) (hb : fn.body.isNone = true) (hn : Extern.findNext fn = none) (he : Extern.find fn = some Extern.AbiNoEscape.same) (hx : ev l x = some (rv v)) :
  ORun P n c l H { dst := d', op := .call { callee := .value (.func f), args := #[x], argTypes := ats }, type := ty, pos := pos, after := af, guard := g } (rv v) := fun a w Z ha hw => o_mk <| by
 have h1 := run_callFunc_extern (P := P) (w := w) (args := #[v]) hf hname hb hn he
 rw [Lib.run_noEscape] at h1
 simp only [execOp, resolve, Sem.run_bind, Sem.run_pure, Result.andThen_ok, Act.eval, Deferred.ofValue, invoke]
 simp only [List.map_toArray, List.map_cons, List.map_nil, ha.eval hx, Array.append_empty, Array.empty_append]
 simpa using h1

theorem pos_map {α : Type} {xs : List α} {enc : α → List Rp} (h : decide (0 < xs.length) = true) : decide (0 < (xs.map enc).length) = true := by simpa using h
section
variable {P : Program} {n : Nat} {c : Cx} {l : Fr} {H : List Ent} {d' : Option Nat} {x : Operand} {ty t t' e : TypeId} {pos : String} {af : Array Edge} {g : Option (Nat × Bool)} {v : Value}
theorem foldB : ∀ (ns : List Int) (p : List UInt8), ns.foldl (fun r n => r.push (UInt8.ofNat n.toNat)) (B p) = B (p ++ ofI ns)
 | [], p => by simp [ofI]
 | n :: ns, p => by
  have e : (B p).push (UInt8.ofNat n.toNat) = B (p ++ [UInt8.ofNat n.toNat]) := by simp [B, ByteArray.push]
  simp only [List.foldl_cons, e]
  rw [foldB ns]
  simp [ofI]
theorem eI_cells (xs : List Int) : (xs.map eI_u8).flatten = (xs.map fun c => Value.int .u8 c).map rv := by
 induction xs with
 | nil => rfl
 | cons a r ih => simp [eI_u8, ih]
theorem o_b2s {i : Nat} {xs : List Int} (hs : P.underlying t = some (.slice e)) (hd : P.underlying t' = some .string) (he : P.underlying e = some (.int .u8)) (hx : ev l x = some (rv v)) (hi : H[i]? = some (.row v e 1 (xs.map eI_u8))) :
  ORun P n c l H { dst := d', op := .convert t t' x, type := ty, pos := pos, after := af, guard := g } (rS (ofI xs)) := fun a w Z ha hw => by
 obtain ⟨_, us, ⟨h1, h2⟩, h3⟩ := hw.ent hi
 rw [eI_cells] at h3
 have e2 := RpAll.eq_rv h3
 subst e2
 refine ⟨.string (B (ofI xs)), rfl, ?_⟩
 have hlx := ha.eval hx
 rcases h2 with ⟨rfl, hz⟩ | ⟨b, cap, cur, rfl, _, hb, hcap, hm, hcs, htk⟩
 ·have hx0 : xs = [] := by simpa using hz
  subst hx0
  have := run_convert_bytes_string w t t' e none 0 0 hs he hd
  simp only [execOp, hlx]
  have e3 : (Conv.bytesToString (.slice none 0 0)).run P w = .ok (.string (B [])) w := rfl
  rw [e3] at this
  simp [this, ofI]
 ·simp only [List.length_map, Nat.mul_one] at htk hcap hcs h1
  have hld := run_loadCells_list (P := P) w ⟨b, 0, none⟩ (xs.map fun c => Value.int .u8 c) (fun j u hj => by
   rw [addm, Nat.zero_add, cell_of_row w b j cur e (0, 0) hb]
   rw [← htk, List.getElem?_take] at hj
   split at hj
   ·simpa using hj
   ·cases hj)
  rw [List.length_map] at hld
  have h4 := run_bytesToString w ⟨b, 0, none⟩ xs.length cap xs hld
  have h5 := run_convert_bytes_string w t t' e (some ⟨b, 0, none⟩) xs.length cap hs he hd
  have h6 := foldB xs []
  rw [h4, show ByteArray.empty = B [] from rfl, h6] at h5
  simp [execOp, hlx, h5]
end
/-! ### Bytes as a text -/
def slp : Value → Value
 | .slice a _ _ => .pointer a
 | v => v
theorem o_sliceData {i : Nat} {ts : Array TypeId} {xs : List (List Rp)} (hx : ev l x = some (rv v)) (hi : H[i]? = some (.row v e sz xs)) (hg : decide (0 < xs.length) = true) :
  ORun P n c l H { dst := d', op := .call { callee := .builtin .unsafeSliceData, args := #[x], argTypes := ts }, type := ty, pos := pos, after := af, guard := g } (rv (slp v)) := fun a w Z ha hw => o_mk <| by
 obtain ⟨_, us, ⟨_, h2⟩, _⟩ := hw.ent hi
 have h0 : 0 < xs.length := by simpa using hg
 rcases h2 with ⟨rfl, hz⟩ | ⟨b, cap, cur, rfl, _, _, hc, _⟩
 ·omega
 ·have := Lib.run_unsafeSliceData_row (P := P) w ts ty ⟨b, 0, none⟩ xs.length cap (by omega)
  simp [execOp, resolve, invoke, builtin, ha.eval hx, this, slp]
def VRun (P : Program) (n : Nat) (c : Cx) (l : Fr) (H : List Ent) (o : Oper) (r : Rp) (H' : List Ent) : Prop := ∀ a w Z, Agr n l a Z → St c H Z w → ∃ v w' Z', Fz.le Z Z' ∧ r.p Z' v ∧ (execOp a.eval o).run P w = .ok (.value v) w' ∧ St c H' Z' w'
theorem ok_w {opsA : Array Oper} {op : Op} (hr : VRun P n c l H { dst := some d, op := op, type := ty, pos := pos, after := af, guard := none } r H') : OpOk P n c opsA Q l H { dst := some d, op := op, type := ty, pos := pos, after := af, guard := none } r H' := fun a w Z K0 ha hw hK =>
 ⟨fun _ => by
  obtain ⟨v, w', Z', hz, hv, he, hs⟩ := hr a w Z ha hw
  unfold Oper.wp
  rw [he]
  exact hK v w' Z' hz hv hs, fun h => by simp [Region.wanted] at h⟩
theorem V_unsafeString {i : Nat} {pt it : TypeId} {s : List UInt8} (hp : P.underlying pt = some (.pointer e)) (hc : P.cellsOf e = 1) (hx : ev l x = some (rv (slp v))) (hy : ev l y = some (rI .i64 ((toI s).length : Int))) (hi : H[i]? = some (.row v e 1 ((toI s).map eI_u8))) (hg : decide (0 < ((toI s).map eI_u8).length) = true) (hH : H.eraseIdx i = H') :
  VRun P n c l H { dst := some d, op := .call { callee := .builtin .unsafeString, args := #[x, y], argTypes := #[pt, it] }, type := ty, pos := pos, after := af, guard := none } (rS s) H' := fun a w Z ha hw => by
 obtain ⟨_, us, ⟨h1, h2⟩, h3⟩ := hw.ent hi
 rw [toI_cells] at h3
 have e2 := RpAll.eq_rv h3
 subst e2
 have h0 : 0 < s.length := by simpa [toI_len] using hg
 rcases h2 with ⟨rfl, hz⟩ | ⟨b, cap, cur, rfl, _, hb, hcap, hm, hcs, htk⟩
 ·simp [toI_len] at hz; subst hz; simp at h0
 ·simp only [List.length_map, toI_len, Nat.mul_one] at htk hcap hcs h1
  have hus := Lib.run_unsafeString_row (P := P) w pt it ty e hp hc b cur.size (by simp [World.shape?, hb]) s (by intro e; subst e; simp at h0) (by omega) (by simp only [maxLen] at hm; omega) (fun j x hj => by
   rw [addm, Nat.zero_add, cell_of_row w b j cur e (0, 0) hb]
   have : (s.map fun c => Value.int .u8 c.toNat)[j]? = some (.int .u8 x.toNat) := by simp [hj]
   rw [← htk, List.getElem?_take] at this
   split at this
   ·simpa using this
   ·cases this)
  have hmem := List.mem_of_getElem? hi
  have hfr := hw.front hi
  have hd := List.pairwise_cons.1 hfr.dis
  have hst := hfr.sub (List.sublist_cons_self _ _)
  have hkeep : ∀ k, k ≠ b → (w.freeze ⟨b, 0, none⟩ s.length).heap[k]? = w.heap[k]? := fun k hk => by
   simp only [World.freeze]
   split
   ·rfl
   ·simp only [Array.getElem?_modify]
    rw [if_neg (fun e => hk e.symm)]
  have hzb : Z b = none := hw.zdis _ hmem b (by simp [Ent.foot, Value.ownBlock])
  refine ⟨.string ⟨s.toArray⟩, w.freeze ⟨b, 0, none⟩ s.length, Z, Fz.le.refl _, rfl, ?_, ?_⟩
  ·have hlx := ha.eval hx
   have hly := ha.eval hy
   rw [toI_len] at hly
   simp [execOp, resolve, invoke, builtin, hlx, hly, slp, hus]
  ·subst hH
   have hfz : ∀ (f : World → Prop), True := fun _ => trivial
   refine { hst with os := ?_, tape := ?_, output := ?_, size := ?_, old := fun k hk hkM => ?_, has := fun en he => ?_, frz := fun b' o hb' => ?_ }
   ·rw [← hst.os]; simp only [World.freeze]; split <;> rfl
   ·rw [← hst.tape]; simp only [World.freeze]; split <;> rfl
   ·rw [← hst.output]; simp only [World.freeze]; split <;> rfl
   ·refine Nat.le_trans hst.size ?_; simp only [World.freeze]; split <;> simp
   ·have hkb : k ≠ b := fun e => by
     subst e
     rcases hw.own _ hmem k (by simp [Ent.foot, Value.ownBlock]) with h4 | h4
     ·omega
     ·exact hkM h4
    rw [hkeep k hkb]; exact hst.old k hk hkM
   ·exact Ent.keep (hst.has en he) (Fz.le.refl _) fun k hk => hkeep k (fun e => hd.1 en he b (by simp [Ent.foot, Value.ownBlock]) (e ▸ hk))
   ·rw [hkeep b' (fun e => by subst e; rw [hzb] at hb'; cases hb')]; exact hst.frz b' o hb'
/-! ### Closures -/
theorem run_closure {f : FuncId} {args : List Operand} {ats : Array TypeId} {o : Oper} {a : Act} {caps : List Value} (ho : o.op = .call { callee := .value x, args := args.toArray, argTypes := ats }) (hx : a.eval x = .func (.func f) #[] caps.toArray)
  (hcall : ∀ (as1 : Array Value) (w : World), (callFunc f as1).run P w = .ok (.enter f as1) w) (w : World) : (execOp a.eval o).run P w = .ok (.enter f (args.map a.eval ++ caps).toArray) w := by
 simp [execOp, ho, resolve, hx, Deferred.ofValue, invoke, hcall]
theorem w_callc {f : FuncId} {args : List Operand} {ats : Array TypeId} {rs : List Rp} {caps : List Value} {Hin Hr : List Ent} {Φ : Rp → List Ent → Prop} (hcall : ∀ (as1 : Array Value) (w : World), (callFunc f as1).run P w = .ok (.enter f as1) w) (hx : ev l x = some (rv (.func (.func f) #[] caps.toArray))) (hv : evs l args = some rs)
  (hp : H.Perm (Hin ++ Hr)) (hc : Fn P c.E f (rs ++ caps.map rv) Hin Φ) (hn : Nat.blt d n = true) (h : ∀ r Ho, Φ r Ho → WL P n c ops Q rest ((d, r) :: l) (Ho ++ Hr)) :
  WL P n c ops Q ({ dst := some d, op := .call { callee := .value x, args := args.toArray, argTypes := ats }, type := ty, pos := pos, after := af, guard := none } :: rest) l H :=
 wl_call (args := fun a => (args.map a.eval ++ caps).toArray) (fun a w Z ha hw => ⟨run_closure rfl (ha.eval hx) hcall w, by
  have hw2 := hw.perm hp
  refine (hc w Z _ (by have := (evs_all ha hv).append (RpAll.rvs Z caps); simpa using this) hw2.enter).mono ?_
  rintro e w' ⟨r, v, Ho, Z', he, hΦ, hr, hs⟩
  exact ⟨v, r, Ho ++ Hr, Z', he, hs.le, hr, hw2.call hs, h r Ho hΦ⟩⟩) hn
theorem w_append_str {xs : List Int} {s : List UInt8} {i : Nat} {inf : TypeInfo} (ht : P.underlying t = some (.slice e)) (hu : P.underlying t' = some .string) (hinf : P.info? e = some inf) (hz : inf.zero = some (.int .u8 0)) (hsize : inf.size = 1) (hby : inf.bytes = 1)
  (hx : ev l x = some (rv v)) (hy : ev l y = some (rS s)) (hi : H[i]? = some (.row v e 1 (xs.map eI_u8))) (hg : inA 1 (xs.length + s.length) = true) (hn : Nat.blt d n = true)
  (h : ∀ v', WL P n c ops Q rest ((d, rv v') :: l) (.row v' e 1 ((xs ++ toI s).map eI_u8) :: H.eraseIdx i)) :
  WL P n c ops Q ({ dst := some d, op := .call { callee := .builtin .append, args := #[x, y], argTypes := #[t, t'] }, type := ty, pos := pos, after := af, guard := none } :: rest) l H :=
 wl_w (fun a w Z ha hw => by
  obtain ⟨h0, us, h1, h2⟩ := hw.ent hi
  have hb : (xs.length + s.length) * 1 ≤ 140737488355328 := by simpa [inA] using hg
  rw [List.length_map] at h1
  obtain ⟨v', w', e1, e2, e3, e4⟩ := run_append_str_st (P := P) (w := w) ty ht hu hinf hz hsize hby h1 (s := s) (by omega)
  have hent : (Ent.row v' e 1 ((xs ++ toI s).map eI_u8)).holds Z w' := ⟨fun cl hcl => by obtain ⟨z', _, rfl⟩ := List.mem_map.1 hcl; rfl, us ++ s.map (fun c => Value.int .u8 c.toNat), by simpa [toI_len] using e2, by
   rw [List.map_append, List.flatten_append, toI_cells]; exact h2.append (RpAll.rvs Z _)⟩
  have hst := hw.callF hi (St.one (e' := .row v' e 1 ((xs ++ toI s).map eI_u8)) (M := (Ent.row v e 1 (xs.map eI_u8)).foot) hw.frz hw.env hw.emono e3.os e3.tape e3.output e3.size (fun k hk hne => e3.block k hk (fun e1 => hne (by simp [Ent.foot, ← e1])))
   (hw.zdis _ (List.mem_of_getElem? hi)) hent (fun k hk => by
    simp only [Ent.foot, Option.mem_toList] at hk ⊢
    rcases e4 with e4 | e4
    ·exact .inl (e4 ▸ hk)
    ·exact .inr (e4 k hk)))
  exact ⟨v', w', rv v', _, Z, by simp [execOp, resolve, invoke, builtin, ha.eval hx, ha.eval hy, e1], Fz.le.refl _, rfl, hst, h v'⟩) hn
end
section
variable {P : Program} {n : Nat} {c : Cx} {ops : Array Oper} {Q : Exit → Act → World → Prop} {rest : List Oper} {l : Fr} {H : List Ent} {d : Nat} {ty : TypeId} {pos : String} {af : Array Edge} {r : Rp} {x y z3 : Operand}
theorem wo {d : Option Nat} {op : Op} {j dj : Nat} {want b : Bool} (hb : b = want) (h : WL P n c ops Q ({ dst := d, op := op, type := ty, pos := pos, after := af, guard := none } :: rest) l H) (hj : gslot ops j = some dj := by rfl) (hv : look l dj = some (rB b) := by rfl) :
  WL P n c ops Q ({ dst := d, op := op, type := ty, pos := pos, after := af, guard := some (j, want) } :: rest) l H := wl_on hj hv hb h
theorem wf {op : Op} {j dj : Nat} {want b : Bool} (hb : b = !want) (h : WL P n c ops Q rest ((d, rv undef) :: l) H) (hj : gslot ops j = some dj := by rfl) (hv : look l dj = some (rB b) := by rfl) (hn : Nat.blt d n = true := by rfl) :
  WL P n c ops Q ({ dst := some d, op := op, type := ty, pos := pos, after := af, guard := some (j, want) } :: rest) l H := wl_off hj hv hb hn h
theorem wu {op : Op} {j dj : Nat} {want : Bool} (h : WL P n c ops Q rest ((d, rv undef) :: l) H) (hj : gslot ops j = some dj := by rfl) (hv : look l dj = some (rv undef) := by rfl) (hn : Nat.blt d n = true := by rfl) :
  WL P n c ops Q ({ dst := some d, op := op, type := ty, pos := pos, after := af, guard := some (j, want) } :: rest) l H := wl_off_u hj hv hn h
theorem wv {op : Op} (hr : ORun P n c l H { dst := some d, op := op, type := ty, pos := pos, after := af, guard := none } r) (h : WL P n c ops Q rest ((d, r) :: l) H) (hn : Nat.blt d n = true := by rfl) : WL P n c ops Q ({ dst := some d, op := op, type := ty, pos := pos, after := af, guard := none } :: rest) l H := wl_v hr hn h
theorem wm (h : ev l x = some r) (hk : WL P n c ops Q rest ((d, r) :: l) H) (hn : Nat.blt d n = true := by rfl) : WL P n c ops Q ({ dst := some d, op := .move x, type := ty, pos := pos, after := af, guard := none } :: rest) l H := wl_v (o_move h) hn hk
theorem wa (h : ev l x = some r) (hk : WL P n c ops Q rest ((d, r) :: l) H) (hn : Nat.blt d n = true := by rfl) : WL P n c ops Q ({ dst := some d, op := .assign x, type := ty, pos := pos, after := af, guard := none } :: rest) l H := wl_v (o_assign h) hn hk
theorem wpt {b : Bool} (hc : ev l z3 = some (rB b)) (hb : b = true) (h : ev l x = some r) (hk : WL P n c ops Q rest ((d, r) :: l) H) (hn : Nat.blt d n = true := by rfl) : WL P n c ops Q ({ dst := some d, op := .pick z3 x y, type := ty, pos := pos, after := af, guard := none } :: rest) l H := wl_v (o_pick_t hc hb h) hn hk
theorem wpf {b : Bool} (hc : ev l z3 = some (rB b)) (hb : b = false) (h : ev l y = some r) (hk : WL P n c ops Q rest ((d, r) :: l) H) (hn : Nat.blt d n = true := by rfl) : WL P n c ops Q ({ dst := some d, op := .pick z3 x y, type := ty, pos := pos, after := af, guard := none } :: rest) l H := wl_v (o_pick_f hc hb h) hn hk
theorem wc0 {f : FuncId} {args : List Operand} {ats : Array TypeId} {rs : List Rp} (hcall : ∀ (as1 : Array Value) (w : World), (callFunc f as1).run P w = .ok (.enter f as1) w) (hc : Fn0 P c.E f rs r) (hv : evs l args = some rs) (h : WL P n c ops Q rest ((d, r) :: l) H) (hn : Nat.blt d n = true := by rfl) :
  WL P n c ops Q ({ dst := some d, op := .call { callee := .value (.func f), args := args.toArray, argTypes := ats }, type := ty, pos := pos, after := af, guard := none } :: rest) l H := w_call0 hcall hv hc rfl hn h
theorem wcl {f : FuncId} {args : List Operand} {ats : Array TypeId} {rs : List Rp} {Hin Hr : List Ent} {Φ : Rp → List Ent → Prop} (hcall : ∀ (as1 : Array Value) (w : World), (callFunc f as1).run P w = .ok (.enter f as1) w) (hc : Fn P c.E f rs Hin Φ) (hv : evs l args = some rs)
  (hp : H.Perm (Hin ++ Hr)) (hn : Nat.blt d n = true) (h : ∀ r Ho, Φ r Ho → WL P n c ops Q rest ((d, r) :: l) (Ho ++ Hr)) :
  WL P n c ops Q ({ dst := some d, op := .call { callee := .value (.func f), args := args.toArray, argTypes := ats }, type := ty, pos := pos, after := af, guard := none } :: rest) l H := w_call hcall hv hp hc hn h
theorem ok_c0 {opsA : Array Oper} {f : FuncId} {args : List Operand} {ats : Array TypeId} {rs : List Rp} (hcall : ∀ (as1 : Array Value) (w : World), (callFunc f as1).run P w = .ok (.enter f as1) w) (hc : Fn0 P c.E f rs r) (hv : evs l args = some rs) :
  OpOk P n c opsA Q l H { dst := some d, op := .call { callee := .value (.func f), args := args.toArray, argTypes := ats }, type := ty, pos := pos, after := af, guard := none } r H := ok_call0 hcall hv hc rfl
theorem wt {K : Exit → Act → World → Prop} {l1 : Fr} {H1 : List Ent} (hl : Sub l1 l := by repeat (first | exact Sub.nil | refine Sub.c rfl ?_)) (hH : H1.Sublist H := by repeat (first | exact sN | refine sC ?_ | refine sS ?_)) : WK n c (Exit.then (Mid n c l1 H1) K .normal) l H := wk_then (wk_mid hl hH)
theorem wtc {p : Prop} (hp : p) {K : Exit → Act → World → Prop} {l1 : Fr} {H1 : List Ent} (hl : p → Sub l1 l := by intro hp; repeat (first | exact Sub.nil | refine Sub.c rfl ?_ | refine Sub.c (by first | (simp only [hp]; rfl) | simp [hp]) ?_)) (hH : H1.Sublist H := by repeat (first | exact sN | refine sC ?_ | refine sS ?_)) : WK n c (Exit.then (Mid n c l1 H1) K .normal) l H := wk_then (wk_mid (hl hp) hH)
end
end Go.Proofs.YtpmiamphppcfeaaGreatDoor.Q

/-
 Short words for steps of walks that stand often. Plain theorems over any program; no condition.
-/
namespace Go.Proofs.YtpmiamphppcfeaaGreatDoor.Q
open Go Go.RowKit
set_option linter.unusedVariables false
abbrev rP (b o : Nat) : Rp := rv (.pointer (some ⟨b, o, none⟩))
theorem ck {α : Type} {p : Bool} {x : Option α} {r : α} {G : Prop} (h : chk p x = some r) (k : p = true → x = some r → G) : G := k (chk_e h).1 (chk_e h).2
theorem ob {α β : Type} {a : Option β} {f : β → Option α} {r : α} {G : Prop} (h : obn a f = some r) (k : ∀ b, a = some b → f b = some r → G) : G := let ⟨b, h1, h2⟩ := obn_e h; k b h1 h2
theorem bd {α β : Type} {a : β} {f : β → Option α} {r : α} {G : Prop} (h : bnd a f = some r) (k : ∀ b, b = a → f b = some r → G) : G := let ⟨b, h1, h2⟩ := bnd_e h; k b h1 h2
theorem bz {α : Type} {b : Bool} {x y : Option α} {r : α} {G : Prop} (h : cnd b x y = some r) (t : b = true → x = some r → G) (f : b = false → y = some r → G) : G := by
 cases b
 ·exact f rfl h
 ·exact t rfl h
section
variable {P : Program} {n : Nat} {c : Cx} {ops : Array Oper} {Q : Exit → Act → World → Prop} {rest : List Oper} {l : Fr} {H : List Ent} {d : Nat} {x y : Operand} {t e : TypeId} {ty : TypeId} {pos : String} {af : Array Edge} {r : Rp} {sz : Nat}
theorem cz {α : Type} {b : Bool} {X Y : Option α} {r : α} {cx cy : Code} {o : Operand} (h : cnd b X Y = some r) (ho : ev l o = some (rB b)) (h1 : b = true → X = some r → WC P n c cx Q l H) (h2 : b = false → Y = some r → WC P n c cy Q l H) : WC P n c (.cond o cx cy) Q l H :=
 wc_cond ho (fun e => h1 e (cnd_t e h)) (fun e => h2 e (cnd_f e h))
theorem wz {op : Op} {j dj : Nat} {want : Bool} (hj : gslot ops j = some dj) (hv : look l dj = some (rB (!want))) (h : WL P n c ops Q rest ((d, rv undef) :: l) H) (hn : Nat.blt d n = true := by rfl) :
  WL P n c ops Q ({ dst := some d, op := op, type := ty, pos := pos, after := af, guard := some (j, want) } :: rest) l H := wl_off hj hv rfl hn h
theorem vF {i o o' b : Nat} {fs : Array Field} {f : Field} (hu : P.underlying t = some (.struct fs)) (h : (fs[i]?, ev l x, o + f.offset) = (some f, some (rv (.pointer (some ⟨b, o, none⟩))), o')) (hsz : ∀ w, (sizeOf f.type).run P w = .ok (sz + 1) w)
  (k : WL P n c ops Q rest ((d, rv (.pointer (some ⟨b, o', none⟩))) :: l) H) (hn : Nat.blt d n = true := by rfl) : WL P n c ops Q ({ dst := some d, op := .fieldAddr t x i, type := ty, pos := pos, after := af, guard := none } :: rest) l H := by
 simp only [Prod.mk.injEq] at h
 exact wl_v (o_fieldAddr hu h.1 hsz h.2.1 h.2.2) hn k
theorem vL {b off : Nat} {cs : List Rp} (i : Nat) (hag : ∀ w, (isAgg t).run P w = .ok false w) (h : (ev l x, H[i]?, cs[off]?) = (some (rv (.pointer (some ⟨b, off, none⟩))), some (.blk b cs e), some r))
  (k : WL P n c ops Q rest ((d, r) :: l) H) (hn : Nat.blt d n = true := by rfl) : WL P n c ops Q ({ dst := some d, op := .load t x, type := ty, pos := pos, after := af, guard := none } :: rest) l H := by
 simp only [Prod.mk.injEq] at h
 exact wl_v (o_load (i := i) hag h.1 h.2.1 h.2.2) hn k
end
end Go.Proofs.YtpmiamphppcfeaaGreatDoor.Q

/-
 Contracts of the library at this translation, in plain words (lay-plain.mjs), those that are used here.
-/
namespace Go.Proofs
open Go.Shelf
def Tryz.laysM171_ren : Go.Shelf.Ren := ⟨fun | 171 => 71 | 243 => 100 | 246 => 119 | 283 => 124 | 284 => 125 | 285 => 126 | 286 => 127 | 129 => 140 | 317 => 139 | 318 => 141 | 319 => 142 | 320 => 143 | 337 => 150 | 338 => 151 | n => n, fun | 3 => 3 | 9 => 9 | 2 => 2 | 4 => 4 | 171 => 129 | 0 => 0 | 53 => 61 | 37 => 80 | 5 => 5 | 173 => 132 | 212 => 148 | 51 => 134 | 20 => 20 | 213 => 149 | 46 => 64 | 232 => 157 | 233 => 158 | n => n, fun | 17 => 3 | 18 => 4 | 19 => 5 | n => n⟩

theorem Tryz.laysM171 : Go.Proofs.LaysM.n171 Tryz.prog Tryz.laysM171_ren := {
 mixed := by kernel_rfl
 f129 := Tryz.func140.trans (congrArg some (by kernel_rfl))
 f171 := Tryz.func71.trans (congrArg some (by kernel_rfl))
 f243 := Tryz.func100.trans (congrArg some (by kernel_rfl))
 f246 := Tryz.func119.trans (congrArg some (by kernel_rfl))
 f283 := Tryz.func124.trans (congrArg some (by kernel_rfl))
 f284 := Tryz.func125.trans (congrArg some (by kernel_rfl))
 f285 := Tryz.func126.trans (congrArg some (by kernel_rfl))
 f286 := Tryz.func127.trans (congrArg some (by kernel_rfl))
 f317 := Tryz.func139.trans (congrArg some (by kernel_rfl))
 f318 := Tryz.func141.trans (congrArg some (by kernel_rfl))
 f319 := Tryz.func142.trans (congrArg some (by kernel_rfl))
 f320 := Tryz.func143.trans (congrArg some (by kernel_rfl))
 f337 := Tryz.func150.trans (congrArg some (by kernel_rfl))
 f338 := Tryz.func151.trans (congrArg some (by kernel_rfl))
 t0 := Tryz.underlying0
 a0 := Tryz.isAgg0
 z0 := Tryz.sizeOf0
 v0 := Tryz.zeroValue0
 t2 := Tryz.underlying2
 a2 := Tryz.isAgg2
 z2 := Tryz.sizeOf2
 v2 := Tryz.zeroValue2
 t3 := Tryz.underlying3
 a3 := Tryz.isAgg3
 z3 := Tryz.sizeOf3
 v3 := Tryz.zeroValue3
 t4 := Tryz.underlying4
 a4 := Tryz.isAgg4
 z4 := Tryz.sizeOf4
 v4 := Tryz.zeroValue4
 t5 := Tryz.underlying5
 a5 := Tryz.isAgg5
 z5 := Tryz.sizeOf5
 v5 := Tryz.zeroValue5
 t9 := Tryz.underlying9
 a9 := Tryz.isAgg9
 z9 := Tryz.sizeOf9
 v9 := Tryz.zeroValue9
 t20 := Tryz.underlying20
 a20 := Tryz.isAgg20
 z20 := Tryz.sizeOf20
 v20 := Tryz.zeroValue20
 t37 := Tryz.underlying80
 a37 := Tryz.isAgg80
 z37 := Tryz.sizeOf80
 v37 := Tryz.zeroValue80
 t46 := Tryz.underlying64
 a46 := Tryz.isAgg64
 z46 := Tryz.sizeOf64
 v46 := Tryz.zeroValue64
 t51 := Tryz.underlying134
 a51 := Tryz.isAgg134
 z51 := Tryz.sizeOf134
 v51 := Tryz.zeroValue134
 t53 := Tryz.underlying61
 a53 := Tryz.isAgg61
 z53 := Tryz.sizeOf61
 v53 := Tryz.zeroValue61
 t171 := Tryz.underlying129
 a171 := Tryz.isAgg129
 z171 := Tryz.sizeOf129
 v171 := Tryz.zeroValue129
 t173 := Tryz.underlying132
 a173 := Tryz.isAgg132
 z173 := Tryz.sizeOf132
 v173 := Tryz.zeroValue132
 t212 := Tryz.underlying148
 a212 := Tryz.isAgg148
 z212 := Tryz.sizeOf148
 v212 := Tryz.zeroValue148
 t213 := Tryz.underlying149
 a213 := Tryz.isAgg149
 z213 := Tryz.sizeOf149
 t232 := Tryz.underlying157
 a232 := Tryz.isAgg157
 z232 := Tryz.sizeOf157
 v232 := Tryz.zeroValue157
 t233 := Tryz.underlying158
 a233 := Tryz.isAgg158
 z233 := Tryz.sizeOf158
 v233 := Tryz.zeroValue158
 g17 := by kernel_rfl
 g18 := by kernel_rfl
 g19 := by kernel_rfl
 i0 := by kernel_rfl
 i2 := by kernel_rfl
 i3 := by kernel_rfl
 i4 := by kernel_rfl
 i5 := by kernel_rfl
 i9 := by kernel_rfl
 i20 := by kernel_rfl
 i37 := by kernel_rfl
 i46 := by kernel_rfl
 i51 := by kernel_rfl
 i53 := by kernel_rfl
 i171 := by kernel_rfl
 i173 := by kernel_rfl
 i212 := by kernel_rfl
 i232 := by kernel_rfl
 i233 := by kernel_rfl
 m17 := by kernel_rfl
 m18 := by kernel_rfl
 m19 := by kernel_rfl }

open Go.RowKit Go.Sort Go.Lib in
theorem Tryz.strconv_Itoa (n : Int) (h0 : -9223372036854775808 ≤ n) (h1 : n ≤ 9223372036854775807) (w : World) (htab : Lib.TabIs Tryz.prog w "internal/strconv.uint64pow10" .u64 Lib.pow10Tab) :
  Calls Tryz.prog 71 #[.int .i64 n] w fun e w' => e = .returned (.string ⟨(Lib.itoa n).toArray⟩) ∧ ∃ k os, w' = grow (w.drewN k) os := Any.strconv_Itoa Tryz.laysM171 n h0 h1 w htab

def Tryz.laysC172_ren : Go.Shelf.Ren := ⟨fun | 172 => 58 | 244 => 78 | 245 => 79 | 247 => 112 | 279 => 113 | 280 => 114 | 281 => 115 | 282 => 116 | 287 => 134 | 316 => 135 | 171 => 71 | 205 => 136 | 321 => 148 | 322 => 149 | 243 => 100 | 246 => 119 | 283 => 124 | 284 => 125 | 285 => 126 | 286 => 127 | 129 => 140 | 317 => 139 | 318 => 141 | 319 => 142 | 320 => 143 | 337 => 150 | 338 => 151 | n => n, fun | 9 => 9 | 3 => 3 | 75 => 66 | 76 => 67 | 4 => 4 | 5 => 5 | 167 => 120 | 37 => 80 | 0 => 0 | 85 => 121 | 2 => 2 | 168 => 123 | 53 => 61 | 175 => 139 | 46 => 64 | 210 => 142 | 127 => 105 | 145 => 155 | 143 => 153 | 21 => 21 | 171 => 129 | 173 => 132 | 212 => 148 | 51 => 134 | 20 => 20 | 213 => 149 | 232 => 157 | 233 => 158 | 80 => 84 | n => n, fun | 15 => 1 | 16 => 2 | 17 => 3 | 18 => 4 | 19 => 5 | n => n⟩

theorem Tryz.laysC172 : Go.Proofs.LaysC.n172 Tryz.prog Tryz.laysC172_ren := {
 mixed := by kernel_rfl
 f129 := Tryz.func140.trans (congrArg some (by kernel_rfl))
 f171 := Tryz.func71.trans (congrArg some (by kernel_rfl))
 f172 := Tryz.func58.trans (congrArg some (by kernel_rfl))
 f205 := Tryz.func136.trans (congrArg some (by kernel_rfl))
 f243 := Tryz.func100.trans (congrArg some (by kernel_rfl))
 f244 := Tryz.func78.trans (congrArg some (by kernel_rfl))
 f245 := Tryz.func79.trans (congrArg some (by kernel_rfl))
 f246 := Tryz.func119.trans (congrArg some (by kernel_rfl))
 f247 := Tryz.func112.trans (congrArg some (by kernel_rfl))
 f279 := Tryz.func113.trans (congrArg some (by kernel_rfl))
 f280 := Tryz.func114.trans (congrArg some (by kernel_rfl))
 f281 := Tryz.func115.trans (congrArg some (by kernel_rfl))
 f282 := Tryz.func116.trans (congrArg some (by kernel_rfl))
 f283 := Tryz.func124.trans (congrArg some (by kernel_rfl))
 f284 := Tryz.func125.trans (congrArg some (by kernel_rfl))
 f285 := Tryz.func126.trans (congrArg some (by kernel_rfl))
 f286 := Tryz.func127.trans (congrArg some (by kernel_rfl))
 f287 := Tryz.func134.trans (congrArg some (by kernel_rfl))
 f316 := Tryz.func135.trans (congrArg some (by kernel_rfl))
 f317 := Tryz.func139.trans (congrArg some (by kernel_rfl))
 f318 := Tryz.func141.trans (congrArg some (by kernel_rfl))
 f319 := Tryz.func142.trans (congrArg some (by kernel_rfl))
 f320 := Tryz.func143.trans (congrArg some (by kernel_rfl))
 f321 := Tryz.func148.trans (congrArg some (by kernel_rfl))
 f322 := Tryz.func149.trans (congrArg some (by kernel_rfl))
 f337 := Tryz.func150.trans (congrArg some (by kernel_rfl))
 f338 := Tryz.func151.trans (congrArg some (by kernel_rfl))
 t0 := Tryz.underlying0
 a0 := Tryz.isAgg0
 z0 := Tryz.sizeOf0
 v0 := Tryz.zeroValue0
 t2 := Tryz.underlying2
 a2 := Tryz.isAgg2
 z2 := Tryz.sizeOf2
 v2 := Tryz.zeroValue2
 t3 := Tryz.underlying3
 a3 := Tryz.isAgg3
 z3 := Tryz.sizeOf3
 v3 := Tryz.zeroValue3
 t4 := Tryz.underlying4
 a4 := Tryz.isAgg4
 z4 := Tryz.sizeOf4
 v4 := Tryz.zeroValue4
 t5 := Tryz.underlying5
 a5 := Tryz.isAgg5
 z5 := Tryz.sizeOf5
 v5 := Tryz.zeroValue5
 t9 := Tryz.underlying9
 a9 := Tryz.isAgg9
 z9 := Tryz.sizeOf9
 v9 := Tryz.zeroValue9
 t20 := Tryz.underlying20
 a20 := Tryz.isAgg20
 z20 := Tryz.sizeOf20
 v20 := Tryz.zeroValue20
 t21 := Tryz.underlying21
 a21 := Tryz.isAgg21
 z21 := Tryz.sizeOf21
 v21 := Tryz.zeroValue21
 t37 := Tryz.underlying80
 a37 := Tryz.isAgg80
 z37 := Tryz.sizeOf80
 v37 := Tryz.zeroValue80
 t46 := Tryz.underlying64
 a46 := Tryz.isAgg64
 z46 := Tryz.sizeOf64
 v46 := Tryz.zeroValue64
 t51 := Tryz.underlying134
 a51 := Tryz.isAgg134
 z51 := Tryz.sizeOf134
 v51 := Tryz.zeroValue134
 t53 := Tryz.underlying61
 a53 := Tryz.isAgg61
 z53 := Tryz.sizeOf61
 v53 := Tryz.zeroValue61
 t75 := Tryz.underlying66
 a75 := Tryz.isAgg66
 z75 := Tryz.sizeOf66
 v75 := Tryz.zeroValue66
 t76 := Tryz.underlying67
 a76 := Tryz.isAgg67
 z76 := Tryz.sizeOf67
 v76 := Tryz.zeroValue67
 t85 := Tryz.underlying121
 a85 := Tryz.isAgg121
 z85 := Tryz.sizeOf121
 v85 := Tryz.zeroValue121
 t127 := Tryz.underlying105
 a127 := Tryz.isAgg105
 z127 := Tryz.sizeOf105
 v127 := Tryz.zeroValue105
 t143 := Tryz.underlying153
 a143 := Tryz.isAgg153
 z143 := Tryz.sizeOf153
 v143 := Tryz.zeroValue153
 t145 := Tryz.underlying155
 a145 := Tryz.isAgg155
 z145 := Tryz.sizeOf155
 v145 := Tryz.zeroValue155
 t167 := Tryz.underlying120
 a167 := Tryz.isAgg120
 z167 := Tryz.sizeOf120
 v167 := Tryz.zeroValue120
 t168 := Tryz.underlying123
 a168 := Tryz.isAgg123
 z168 := Tryz.sizeOf123
 v168 := Tryz.zeroValue123
 t171 := Tryz.underlying129
 a171 := Tryz.isAgg129
 z171 := Tryz.sizeOf129
 v171 := Tryz.zeroValue129
 t173 := Tryz.underlying132
 a173 := Tryz.isAgg132
 z173 := Tryz.sizeOf132
 v173 := Tryz.zeroValue132
 t175 := Tryz.underlying139
 a175 := Tryz.isAgg139
 z175 := Tryz.sizeOf139
 v175 := Tryz.zeroValue139
 t210 := Tryz.underlying142
 a210 := Tryz.isAgg142
 z210 := Tryz.sizeOf142
 v210 := Tryz.zeroValue142
 t212 := Tryz.underlying148
 a212 := Tryz.isAgg148
 z212 := Tryz.sizeOf148
 v212 := Tryz.zeroValue148
 t213 := Tryz.underlying149
 a213 := Tryz.isAgg149
 z213 := Tryz.sizeOf149
 t232 := Tryz.underlying157
 a232 := Tryz.isAgg157
 z232 := Tryz.sizeOf157
 v232 := Tryz.zeroValue157
 t233 := Tryz.underlying158
 a233 := Tryz.isAgg158
 z233 := Tryz.sizeOf158
 v233 := Tryz.zeroValue158
 g15 := by kernel_rfl
 g16 := by kernel_rfl
 g17 := by kernel_rfl
 g18 := by kernel_rfl
 g19 := by kernel_rfl
 t80 := Tryz.underlying84
 a80 := Tryz.isAgg84
 z80 := Tryz.sizeOf84
 v80 := Tryz.zeroValue84
 i0 := by kernel_rfl
 i2 := by kernel_rfl
 i3 := by kernel_rfl
 i4 := by kernel_rfl
 i5 := by kernel_rfl
 i9 := by kernel_rfl
 i20 := by kernel_rfl
 i21 := by kernel_rfl
 i37 := by kernel_rfl
 i46 := by kernel_rfl
 i51 := by kernel_rfl
 i53 := by kernel_rfl
 i75 := by kernel_rfl
 i76 := by kernel_rfl
 i80 := by kernel_rfl
 i85 := by kernel_rfl
 i127 := by kernel_rfl
 i143 := by kernel_rfl
 i145 := by kernel_rfl
 i167 := by kernel_rfl
 i168 := by kernel_rfl
 i171 := by kernel_rfl
 i173 := by kernel_rfl
 i175 := by kernel_rfl
 i210 := by kernel_rfl
 i212 := by kernel_rfl
 i232 := by kernel_rfl
 i233 := by kernel_rfl
 m15 := by kernel_rfl
 m16 := by kernel_rfl
 m17 := by kernel_rfl
 m18 := by kernel_rfl
 m19 := by kernel_rfl
 c0 := by kernel_rfl
 c2 := by kernel_rfl
 c3 := by kernel_rfl
 c4 := by kernel_rfl
 c5 := by kernel_rfl
 c9 := by kernel_rfl
 c20 := by kernel_rfl
 c21 := by kernel_rfl
 c37 := by kernel_rfl
 c46 := by kernel_rfl
 c51 := by kernel_rfl
 c53 := by kernel_rfl
 c75 := by kernel_rfl
 c76 := by kernel_rfl
 c80 := by kernel_rfl
 c85 := by kernel_rfl
 c127 := by kernel_rfl
 c143 := by kernel_rfl
 c145 := by kernel_rfl
 c167 := by kernel_rfl
 c168 := by kernel_rfl
 c171 := by kernel_rfl
 c173 := by kernel_rfl
 c175 := by kernel_rfl
 c210 := by kernel_rfl
 c212 := by kernel_rfl
 c213 := by kernel_rfl
 c232 := by kernel_rfl
 c233 := by kernel_rfl }

open Go.RowKit in
theorem Tryz.strconv_Atoi_ok (s : ByteArray) (hmax : s.size ≤ 9223372036854775806) (v : Int) (h : Lib.atoiAll s.data.toList = .ok v) (w : World) :
  Calls Tryz.prog 58 #[.string s] w fun e w' => e = .returned (.tuple #[.int .i64 v, .nilIface]) ∧ (w' = w ∨ ∃ t, w' = Lib.bytesWorld w 5 t) := Any.strconv_Atoi_ok Tryz.laysC172 s hmax v h w

open Go.RowKit in
theorem Tryz.strconv_Atoi_range_var (s : ByteArray) (hlim : s.size ≤ 281474976710656) (h : Lib.atoiAll s.data.toList = .range) (tp : TypeId) (p : Value) (w : World) (hvar : w.var? Tryz.prog "strconv.ErrRange" = some #[.iface tp p]) :
  Calls Tryz.prog 58 #[.string s] w fun e w' => ∃ N, e = .returned (.tuple #[.int .i64 (Lib.atoiSat s.data.toList), .iface 123 (.pointer (some ⟨N, 0, none⟩))]) ∧ w.heap.size ≤ N ∧ w'.heap[N]? = some (.cells #[.string ⟨#[65, 116, 111, 105]⟩, .string s, .iface tp p] 142 (0, 0)) ∧ Below w.heap.size w w' := Any.strconv_Atoi_range_var Tryz.laysC172 s hlim h tp p w hvar
end Go.Proofs

/-
 The library's tables and variables that the calls below read; strconv's two functions in the calculus's words.
-/
namespace Go.Proofs.YtpmiamphppcfeaaGreatDoor
open Go Go.RowKit
set_option linter.unusedVariables false
noncomputable def nGlob : Nat := Nat.max 3 2 + 1
structure Tabs (w : World) : Prop where
 pow : Lib.TabIs Tryz.prog w "internal/strconv.uint64pow10" .u64 Lib.pow10Tab
 rng : ∃ tp p, w.var? Tryz.prog "strconv.ErrRange" = some #[.iface tp p]
theorem gPow : Tryz.prog.globalNamed "internal/strconv.uint64pow10" = some 3 := by kernel_rfl
theorem gRng : Tryz.prog.globalNamed "strconv.ErrRange" = some 2 := by kernel_rfl
theorem nGlob_pow : 3 < nGlob := by decide +kernel
theorem nGlob_rng : 2 < nGlob := by decide +kernel
theorem Tabs.block (w w' : World) (h : ∀ k, k < nGlob → w'.heap[k]? = w.heap[k]?) (hT : Tabs w) : Tabs w' := by
 obtain ⟨tp, p, hr⟩ := hT.rng
 have hp := hT.pow
 unfold Lib.TabIs at hp
 refine ⟨?_, tp, p, ?_⟩
 ·unfold Lib.TabIs
  unfold World.var? at hp ⊢
  rw [gPow] at hp ⊢
  simp only [Option.bind_some] at hp ⊢
  rw [h _ nGlob_pow]; exact hp
 ·unfold World.var? at hr ⊢
  rw [gRng] at hr ⊢
  simp only [Option.bind_some] at hr ⊢
  rw [h _ nGlob_rng]; exact hr
def Glob (w : World) (M : List Nat) : Prop := nGlob ≤ w.heap.size ∧ ∀ k ∈ M, nGlob ≤ k
theorem Tabs.st {w0 w : World} {M : List Nat} {H : List Ent} (hT : Tabs w0) (hG : Glob w0 M) (hw : St w0 M H w) : Tabs w :=
 Tabs.block w0 w (fun k hk => hw.old k (Nat.lt_of_lt_of_le hk hG.1) (fun hm => by have := hG.2 k hm; omega)) hT
theorem Glob.nil {w : World} (h : nGlob ≤ w.heap.size) : Glob w [] := ⟨h, by simp⟩
theorem Glob.st {w0 w : World} {M : List Nat} {H : List Ent} (hG : Glob w0 M) (hw : St w0 M H w) : nGlob ≤ w.heap.size := Nat.le_trans hG.1 hw.size
structure Env (w : World) : Prop where
 tabs : Tabs w
 size : nGlob ≤ w.heap.size
theorem Env.st {w0 w : World} {M : List Nat} {H : List Ent} (hE : Env w0) (hM : ∀ k ∈ M, nGlob ≤ k) (hw : St w0 M H w) : Env w :=
 ⟨hE.tabs.st ⟨hE.size, hM⟩ hw, Nat.le_trans hE.size hw.size⟩
theorem Env.st0 {w0 w : World} {H : List Ent} (hE : Env w0) (hw : St w0 [] H w) : Env w := hE.st (by simp) hw
theorem B_data (p : List UInt8) : (B p).data.toList = p := by simp [B]
theorem itoa_c (m : Int) (h0 : -9223372036854775808 ≤ m) (h1 : m ≤ 9223372036854775807) (w : World) (hE : Env w) : Calls Tryz.prog 71 [.int .i64 m].toArray w (RetV w (.string (B (Lib.itoa m)))) :=
 (Tryz.strconv_Itoa m h0 h1 w hE.tabs.pow).mono fun e w' ⟨he, k, os, hw⟩ => ⟨he, by rw [hw]; exact St.of_below (Lib.below_grow _ _ (Nat.le_refl _) _ _)⟩
theorem atoi_ok (p : List UInt8) (hp : p.length ≤ 281474976710656) (v : Int) (h : Lib.atoiAll p = .ok v) (w : World) : Calls Tryz.prog 58 [.string (B p)].toArray w (RetV w (.tuple #[.int .i64 v, .nilIface])) :=
 (Tryz.strconv_Atoi_ok (B p) (by rw [B_size]; omega) v (by rw [B_data]; exact h) w).mono fun e w' ⟨he, hw⟩ => ⟨he, by
  rcases hw with rfl | ⟨t, rfl⟩
  ·exact St.refl _ _
  ·exact St.of_below (Joins.below_bytesWorld _ _ _ _ (Nat.le_refl _))⟩
theorem atoi_range (p : List UInt8) (hp : p.length ≤ 281474976710656) (h : Lib.atoiAll p = .range) (w : World) (hE : Env w) :
  Calls Tryz.prog 58 [.string (B p)].toArray w (Ret w [] (fun v H => ∃ m t b, v = .tuple #[.int .i64 m, .iface t b] ∧ H = [])) := by
 obtain ⟨tp, q, hr⟩ := hE.tabs.rng
 exact (Tryz.strconv_Atoi_range_var (B p) (by rw [B_size]; omega) (by rw [B_data]; exact h) tp q w hr).mono fun e w' ⟨N, he, _, _, hb⟩ => ⟨_, _, he, St.of_below hb, _, _, _, rfl, rfl⟩
end Go.Proofs.YtpmiamphppcfeaaGreatDoor

/-
 The row's step, the same for each law of the seat: the law returns true and has turned nothing that was there. What the row's list of tables gives; a world for the witness.
-/
namespace Go.Proofs.YtpmiamphppcfeaaGreatDoor
open Go Go.ChangeShapes Go.WideShapes Go.ChangeAt Go.RowKit Go.WideElems
set_option linter.unusedVariables false

theorem own : ownKnob Tryz.prog.godebug = none := by kernel_rfl
theorem laidOut : laidOutB Tryz.prog = true := by kernel_rfl

section
variable {H : Type} {enc : TypeId × Value → H} {P : Program}
theorem trodAll_stays (hl : laidOutB P = true) {W W' : World} (hb : Below W.heap.size W W') {sp : Nat → Bool} : ∀ {ts : List TypeId} {vs : List Value} {ds : List (DataW H)} {ps : List MemPlace}, ts.all (fun t => P.readableRec t && decide (t < P.types.size)) = true →
  DataW.TrodAll enc P W 0 (fun _ => true) true ts vs ds ps → (∀ p ∈ ps, p.block < W.heap.size) → (∀ p ∈ ps, sp p.block = true) → DataW.TrodAll enc P W' 0 sp true ts vs ds ps
 | [], [], [], _, _, h, _, _ => h
 | [], _ :: _, _, _, _, h, _, _ => h.elim
 | [], [], _ :: _, _, _, h, _, _ => h.elim
 | _ :: _, [], _, _, _, h, _, _ => h.elim
 | _ :: _, _ :: _, [], _, _, h, _, _ => h.elim
 | t :: ts, v :: vs, d :: ds, ps, ht, ⟨p, q, h1, h2, e⟩, hlt, hs => by
  simp only [List.all_cons, Bool.and_eq_true, decide_eq_true_eq] at ht
  refine ⟨p, q, ?_, trodAll_stays hl hb ht.2 h2 (fun x hx => hlt x (by rw [e]; exact List.mem_append_right _ hx)) (fun x hx => hs x (by rw [e]; exact List.mem_append_right _ hx)), e⟩
  exact Trod_stays hl ht.1.1 ht.1.2 h1 (fun x hx => hb.same (hlt x (by rw [e]; exact List.mem_append_left _ hx))) (fun x hx => hs x (by rw [e]; exact List.mem_append_left _ hx))
theorem post_true (hl : laidOutB P = true) {f : Func} {s : ChangeSpec} {apart fresh handsOn : Bool} {W W' : World} {args : Array Value} {ds gs : List (DataW H)} {before : List MemPlace} {tb : TypeId} (hp : f.params.toList.all (fun t => P.readableRec t && decide (t < P.types.size)) = true)
  (hv : s.vars = []) (hr : f.resultTypes = #[tb]) (hb4 : P.underlying tb = some .bool) (hW : DataW.Whole enc P f.params.toList s.vars apart W args.toList ds gs before)
  (h1 : (s.fn H (ds ++ gs)).results = [.lit (.bool true)]) (h2 : (s.fn H (ds ++ gs)).args = ds) (h3 : (s.fn H (ds ++ gs)).vars = []) (hb : Below W.heap.size W W') :
  s.post enc P f apart fresh handsOn false W args (.bool true) W' := by
 have hlt : ∀ p ∈ before, p.block < W.heap.size := fun p hp => hW.lt p hp
 have hW' := hW
 obtain ⟨p, q, hA, hV, hbf, _, _⟩ := hW'
 have hq : q = [] := by
  rw [hv] at hV
  cases gs with
  | nil => exact hV
  | cons _ _ => exact hV.elim
 subst hq
 rw [List.append_nil] at hbf
 subst hbf
 refine ⟨ds, gs, before, [], before, [], hW, ?_, ?_, ?_, World.keptBut_mono (fun p hp => ⟨hp, .inr (.inl hp)⟩) (hb.frame (· ∈ before)), fun h => by cases h⟩
 ·rw [h1, hr]
  exact trodAll_mk1 (shut_bool hb4 true)
 ·rw [h2]
  exact trodAll_stays hl hb hp hA hlt (fun x hx => by simpa using hlt x hx)
 ·rw [hv, h3]; exact rfl
end
theorem bool_under : Tryz.prog.underlying 4 = some .bool := Tryz.underlying4

/-! ### The tables that the rows list -/
def laidList : List (String × DataW Unit) := [("math/bits.deBruijn32tab", Rows.laid_math_bits_deBruijn32tab), ("math/bits.deBruijn64tab", Rows.laid_math_bits_deBruijn64tab), ("internal/strconv.uint64pow10", Rows.laid_internal_strconv_uint64pow10), ("strconv.ErrRange", Rows.laid_strconv_ErrRange), ("strconv.ErrSyntax", Rows.laid_strconv_ErrSyntax)]
theorem gPowType : (Tryz.prog.globals[3]?).map (·.type) = some 148 := by kernel_rfl
theorem gRngType : (Tryz.prog.globals[2]?).map (·.type) = some 66 := by kernel_rfl
theorem cells_u64 : Tryz.prog.cellsOf 61 = 1 := by kernel_rfl
theorem cells_tab : Tryz.prog.cellsOf 148 = 20 := by kernel_rfl
theorem cells_str : Tryz.prog.cellsOf 9 = 1 := by kernel_rfl
theorem cells_es : Tryz.prog.cellsOf 155 = 1 := by kernel_rfl
theorem es_star : "*" ++ "errors.errorString" = "*errors.errorString" := by decide
theorem es_row (u : TypeId) (h : Tryz.prog.typeName? 3 u = some "*errors.errorString") : u = 153 :=
 typeName_ptr_named (nm := "errors.errorString") (by rw [es_star]; kernel_rfl) (by kernel_rfl) (by decide) u (by rw [es_star]; exact h)
theorem glob_lt {W : World} {n : String} {g : Nat} {cs : Array Value} (hg : Tryz.prog.globalNamed n = some g) (h : W.var? Tryz.prog n = some cs) : g < W.heap.size := by
 unfold World.var? at h
 rw [hg] at h
 simp only [Option.bind_some] at h
 cases hh : W.heap[g]? with
 | none => rw [hh] at h; cases h
 | some o => exact (Array.getElem?_eq_some_iff.1 hh).1
theorem env_of {W : World} (h : laidMet Tryz.prog laidList W) : Env W := by
 have h3 := laidMet.tail (laidMet.tail h)
 have h4 := laidMet.tail h3
 have hp : Lib.TabIs Tryz.prog W "internal/strconv.uint64pow10" .u64 Lib.pow10Tab := Lib.tabIs_of_head gPow gPowType Tryz.underlying148 Tryz.underlying61 cells_u64 cells_tab h3
 obtain ⟨a, s, hv, _, _, _⟩ := laid_sentinel h4 gRng gRngType Tryz.underlying66 es_row Tryz.underlying153 Tryz.underlying155 rfl rfl Tryz.underlying9 cells_es cells_str
 refine ⟨⟨hp, _, _, hv⟩, ?_⟩
 have h1 := glob_lt gPow hp
 have h2 := glob_lt gRng hv
 exact Nat.max_lt.2 ⟨h1, h2⟩
/-! ### A world for the witness -/
noncomputable def laidWorld (os : Os) : World :=
 let w0 := World.holding Tryz.prog os ⟨#[], #[], []⟩
 let put (h : Array Obj) (g : Nat) (cs : Array Value) : Array Obj := h.modify g fun
  | .cells _ t frozen => .cells cs t frozen
  | o => o
 let nums (d : DataW Unit) : Array Value := match d with
  | .agg ds => (ds.map fun | .lit (.int k n) => Value.int k n | _ => undef).toArray
  | _ => #[]
 let n := w0.heap.size
 let h1 := put w0.heap 4 (nums Rows.laid_math_bits_deBruijn32tab)
 let h2 := put h1 5 (nums Rows.laid_math_bits_deBruijn64tab)
 let h3 := put h2 3 (nums Rows.laid_internal_strconv_uint64pow10)
 let h4 := put h3 2 #[.iface 153 (.pointer (some ⟨n, 0, none⟩))]
 let h5 := put h4 1 #[.iface 153 (.pointer (some ⟨n + 1, 0, none⟩))]
 let h6 := h5.push (.cells #[.string ⟨#[118, 97, 108, 117, 101, 32, 111, 117, 116, 32, 111, 102, 32, 114, 97, 110, 103, 101]⟩] 155 (0, 0))
 let h7 := h6.push (.cells #[.string ⟨#[105, 110, 118, 97, 108, 105, 100, 32, 115, 121, 110, 116, 97, 120]⟩] 155 (0, 0))
 { w0 with heap := h7 }
set_option maxRecDepth 100000 in
theorem laid_met (os : Os) (args : Array Value) : laidMet Tryz.prog laidList ((laidWorld os).forCall (fun _ _ => 0) ⟨#[], args, []⟩).memory :=
 laidMet_of_run' 8 (by kernel_rfl) (by kernel_rfl)
end Go.Proofs.YtpmiamphppcfeaaGreatDoor

/-
 Walks, printed by a small program of ours (gsym.py).
-/
namespace Go.Proofs.YtpmiamphppcfeaaGreatDoor
open Go Go.RowKit
set_option linter.unusedVariables false
set_option linter.unusedSimpArgs false
set_option maxRecDepth 100000
theorem small_c (c : Int) (w : World) : Calls Tryz.prog 90 [.int .i32 (c)].toArray w (RetV w (.bool (smallS c))) := by
 refine enter0 (n := 9) Tryz.func90 rfl Tryz.ntmps90 rfl (wc_seq (wc_region (wl_v (o_assign rfl) rfl (wl_nil (wk_then (wc_of_wk ?_))))))
 refine wc_seq_mid [(2, .bool (((decide ((97) ≤ (c))) && (decide ((c) ≤ (122))))))] [] (φ := True) ?_ (fun hm1 => ?_)
 ·refine wc_region (wl_v (o_move rfl) rfl (wl_v (o_ge rfl rfl) rfl (wl_v (o_move rfl) rfl (bsplit (decide ((97) ≤ (c))) (fun h1 => ?_) (fun h1 => ?_)))))
  ·have g1 := h1; try simp only [decide_eq_true_eq, decide_eq_false_iff_not] at g1
   refine wl_on rfl rfl h1 (wl_v (o_move rfl) rfl (wl_on rfl rfl h1 (wl_v (o_le rfl rfl) rfl (wl_v (o_pick_t rfl h1 rfl) rfl (wl_v (o_assign rfl) rfl (wl_nil ?_))))))
   exact wk_then (wk_mid trivial ⟨fb (by simp [h1]), trivial⟩ .slnil)
  ·have g1 := h1; try simp only [decide_eq_true_eq, decide_eq_false_iff_not] at g1
   refine wl_off rfl rfl h1 rfl (wl_off rfl rfl h1 rfl (wl_v (o_pick_f rfl h1 rfl) rfl (wl_v (o_assign rfl) rfl (wl_nil ?_))))
   exact wk_then (wk_mid trivial ⟨fb (by simp [h1]), trivial⟩ .slnil)
 refine wc_ret (wk_ret (r_1 rfl rfl) ?_)
 exact retv (by first | rfl | simp [])

theorem digit_c (c : Int) (w : World) : Calls Tryz.prog 91 [.int .i32 (c)].toArray w (RetV w (.bool (digitS c))) := by
 refine enter0 (n := 9) Tryz.func91 rfl Tryz.ntmps91 rfl (wc_seq (wc_region (wl_v (o_assign rfl) rfl (wl_nil (wk_then (wc_of_wk ?_))))))
 refine wc_seq_mid [(2, .bool (((decide ((48) ≤ (c))) && (decide ((c) ≤ (57))))))] [] (φ := True) ?_ (fun hm3 => ?_)
 ·refine wc_region (wl_v (o_move rfl) rfl (wl_v (o_ge rfl rfl) rfl (wl_v (o_move rfl) rfl (bsplit (decide ((48) ≤ (c))) (fun h3 => ?_) (fun h3 => ?_)))))
  ·have g3 := h3; try simp only [decide_eq_true_eq, decide_eq_false_iff_not] at g3
   refine wl_on rfl rfl h3 (wl_v (o_move rfl) rfl (wl_on rfl rfl h3 (wl_v (o_le rfl rfl) rfl (wl_v (o_pick_t rfl h3 rfl) rfl (wl_v (o_assign rfl) rfl (wl_nil ?_))))))
   exact wk_then (wk_mid trivial ⟨fb (by simp [h3]), trivial⟩ .slnil)
  ·have g3 := h3; try simp only [decide_eq_true_eq, decide_eq_false_iff_not] at g3
   refine wl_off rfl rfl h3 rfl (wl_off rfl rfl h3 rfl (wl_v (o_pick_f rfl h3 rfl) rfl (wl_v (o_assign rfl) rfl (wl_nil ?_))))
   exact wk_then (wk_mid trivial ⟨fb (by simp [h3]), trivial⟩ .slnil)
 refine wc_ret (wk_ret (r_1 rfl rfl) ?_)
 exact retv (by first | rfl | simp [])

theorem letter_c (c : Int) (w : World) : Calls Tryz.prog 66 [.int .i32 (c)].toArray w (RetV w (.bool (letterS c))) := by
 refine enter0 (n := 37) Tryz.func66 rfl Tryz.ntmps66 rfl (wc_seq (wc_region (wl_v (o_assign rfl) rfl (wl_nil (wk_then (wc_of_wk ?_))))))
 refine wc_seq_mid [(2, .bool (((smallS c) || ((digitS c) || (bif decide ((65) ≤ (c)) then ((decide ((c) ≤ (90))) || ((decide ((c) = (45))) || ((decide ((c) = (95))) || ((decide ((c) = (46))) || ((decide ((c) = (58))) || (decide ((c) = (47)))))))) else ((decide ((c) = (45))) || ((decide ((c) = (95))) || ((decide ((c) = (46))) || ((decide ((c) = (58))) || (decide ((c) = (47))))))))))))] [] (φ := True) ?_ (fun hm16 => ?_)
 ·refine wc_region (wl_v (o_move rfl) rfl (w_call Tryz.call90 rfl (fun w hw => small_c c w) rfl (wl_v (o_move rfl) rfl (bsplit (smallS c) (fun h5 => ?_) (fun h5 => ?_)))))
  ·have g5 := h5; try simp only [decide_eq_true_eq, decide_eq_false_iff_not] at g5
   refine wl_off rfl rfl h5 rfl (wl_off rfl rfl h5 rfl (wl_v (o_pick_t rfl h5 rfl) rfl (wl_v (o_move rfl) rfl (wl_off rfl rfl rfl rfl (wl_off rfl rfl rfl rfl (wl_off rfl rfl rfl rfl (wl_off_u rfl rfl rfl (wl_off_u rfl rfl rfl (wl_off rfl rfl rfl rfl (wl_v (o_pick_t rfl rfl rfl) rfl (wl_v (o_move rfl) rfl (wl_off rfl rfl rfl rfl (wl_off rfl rfl rfl rfl (wl_v (o_pick_t rfl rfl rfl) rfl (wl_v (o_move rfl) rfl (wl_off rfl rfl rfl rfl (wl_off rfl rfl rfl rfl (wl_v (o_pick_t rfl rfl rfl) rfl (wl_v (o_move rfl) rfl (wl_off rfl rfl rfl rfl (wl_off rfl rfl rfl rfl (wl_v (o_pick_t rfl rfl rfl) rfl (wl_v (o_move rfl) rfl ?_)))))))))))))))))))))))
   refine wl_off rfl rfl rfl rfl (wl_off rfl rfl rfl rfl (wl_v (o_pick_t rfl rfl rfl) rfl (wl_v (o_move rfl) rfl (wl_off rfl rfl rfl rfl (wl_off rfl rfl rfl rfl (wl_v (o_pick_t rfl rfl rfl) rfl (wl_v (o_assign rfl) rfl (wl_nil ?_))))))))
   exact wk_then (wk_mid trivial ⟨fb (by simp [h5]), trivial⟩ .slnil)
  ·have g5 := h5; try simp only [decide_eq_true_eq, decide_eq_false_iff_not] at g5
   refine wl_on rfl rfl h5 (wl_v (o_move rfl) rfl (wl_on rfl rfl h5 (w_call Tryz.call91 rfl (fun w hw => digit_c c w) rfl (wl_v (o_pick_f rfl h5 rfl) rfl (wl_v (o_move rfl) rfl (bsplit (digitS c) (fun h6 => ?_) (fun h6 => ?_)))))))
   ·have g6 := h6; try simp only [decide_eq_true_eq, decide_eq_false_iff_not] at g6
    refine wl_off rfl rfl h6 rfl (wl_off rfl rfl h6 rfl (wl_off rfl rfl h6 rfl (wl_off_u rfl rfl rfl (wl_off_u rfl rfl rfl (wl_off rfl rfl h6 rfl (wl_v (o_pick_t rfl h6 rfl) rfl (wl_v (o_move rfl) rfl (wl_off rfl rfl rfl rfl (wl_off rfl rfl rfl rfl (wl_v (o_pick_t rfl rfl rfl) rfl (wl_v (o_move rfl) rfl (wl_off rfl rfl rfl rfl (wl_off rfl rfl rfl rfl (wl_v (o_pick_t rfl rfl rfl) rfl (wl_v (o_move rfl) rfl (wl_off rfl rfl rfl rfl (wl_off rfl rfl rfl rfl (wl_v (o_pick_t rfl rfl rfl) rfl (wl_v (o_move rfl) rfl (wl_off rfl rfl rfl rfl (wl_off rfl rfl rfl rfl (wl_v (o_pick_t rfl rfl rfl) rfl (wl_v (o_move rfl) rfl ?_)))))))))))))))))))))))
    refine wl_off rfl rfl rfl rfl (wl_off rfl rfl rfl rfl (wl_v (o_pick_t rfl rfl rfl) rfl (wl_v (o_assign rfl) rfl (wl_nil ?_))))
    exact wk_then (wk_mid trivial ⟨fb (by simp [h5, h6]), trivial⟩ .slnil)
   ·have g6 := h6; try simp only [decide_eq_true_eq, decide_eq_false_iff_not] at g6
    refine wl_on rfl rfl h6 (wl_v (o_move rfl) rfl (wl_on rfl rfl h6 (wl_v (o_ge rfl rfl) rfl (wl_on rfl rfl h6 (wl_v (o_move rfl) rfl (bsplit (decide ((65) ≤ (c))) (fun h7 => ?_) (fun h7 => ?_)))))))
    ·have g7 := h7; try simp only [decide_eq_true_eq, decide_eq_false_iff_not] at g7
     refine wl_on rfl rfl h7 (wl_v (o_move rfl) rfl (wl_on rfl rfl h7 (wl_v (o_le rfl rfl) rfl (wl_on rfl rfl h6 (wl_v (o_pick_t rfl h7 rfl) rfl (wl_v (o_pick_f rfl h6 rfl) rfl (wl_v (o_move rfl) rfl (bsplit (decide ((c) ≤ (90))) (fun h8 => ?_) (fun h8 => ?_)))))))))
     ·have g8 := h8; try simp only [decide_eq_true_eq, decide_eq_false_iff_not] at g8
      refine wl_off rfl rfl h8 rfl (wl_off rfl rfl h8 rfl (wl_v (o_pick_t rfl h8 rfl) rfl (wl_v (o_move rfl) rfl (wl_off rfl rfl rfl rfl (wl_off rfl rfl rfl rfl (wl_v (o_pick_t rfl rfl rfl) rfl (wl_v (o_move rfl) rfl (wl_off rfl rfl rfl rfl (wl_off rfl rfl rfl rfl (wl_v (o_pick_t rfl rfl rfl) rfl (wl_v (o_move rfl) rfl (wl_off rfl rfl rfl rfl (wl_off rfl rfl rfl rfl (wl_v (o_pick_t rfl rfl rfl) rfl (wl_v (o_move rfl) rfl (wl_off rfl rfl rfl rfl (wl_off rfl rfl rfl rfl (wl_v (o_pick_t rfl rfl rfl) rfl (wl_v (o_assign rfl) rfl (wl_nil ?_))))))))))))))))))))
      exact wk_then (wk_mid trivial ⟨fb (by simp [h5, h6, h7, h8]), trivial⟩ .slnil)
     ·have g8 := h8; try simp only [decide_eq_true_eq, decide_eq_false_iff_not] at g8
      refine wl_on rfl rfl h8 (wl_v (o_move rfl) rfl (wl_on rfl rfl h8 (wl_v (o_eq rfl rfl) rfl (wl_v (o_pick_f rfl h8 rfl) rfl (wl_v (o_move rfl) rfl (bsplit (decide ((c) = (45))) (fun h9 => ?_) (fun h9 => ?_)))))))
      ·have g9 := h9; try simp only [decide_eq_true_eq, decide_eq_false_iff_not] at g9
       refine wl_off rfl rfl h9 rfl (wl_off rfl rfl h9 rfl (wl_v (o_pick_t rfl h9 rfl) rfl (wl_v (o_move rfl) rfl (wl_off rfl rfl rfl rfl (wl_off rfl rfl rfl rfl (wl_v (o_pick_t rfl rfl rfl) rfl (wl_v (o_move rfl) rfl (wl_off rfl rfl rfl rfl (wl_off rfl rfl rfl rfl (wl_v (o_pick_t rfl rfl rfl) rfl (wl_v (o_move rfl) rfl (wl_off rfl rfl rfl rfl (wl_off rfl rfl rfl rfl (wl_v (o_pick_t rfl rfl rfl) rfl (wl_v (o_assign rfl) rfl (wl_nil ?_))))))))))))))))
       exact wk_then (wk_mid trivial ⟨fb (by simp [h5, h6, h7, h8, h9]), trivial⟩ .slnil)
      ·have g9 := h9; try simp only [decide_eq_true_eq, decide_eq_false_iff_not] at g9
       refine wl_on rfl rfl h9 (wl_v (o_move rfl) rfl (wl_on rfl rfl h9 (wl_v (o_eq rfl rfl) rfl (wl_v (o_pick_f rfl h9 rfl) rfl (wl_v (o_move rfl) rfl (bsplit (decide ((c) = (95))) (fun h10 => ?_) (fun h10 => ?_)))))))
       ·have g10 := h10; try simp only [decide_eq_true_eq, decide_eq_false_iff_not] at g10
        refine wl_off rfl rfl h10 rfl (wl_off rfl rfl h10 rfl (wl_v (o_pick_t rfl h10 rfl) rfl (wl_v (o_move rfl) rfl (wl_off rfl rfl rfl rfl (wl_off rfl rfl rfl rfl (wl_v (o_pick_t rfl rfl rfl) rfl (wl_v (o_move rfl) rfl (wl_off rfl rfl rfl rfl (wl_off rfl rfl rfl rfl (wl_v (o_pick_t rfl rfl rfl) rfl (wl_v (o_assign rfl) rfl (wl_nil ?_))))))))))))
        exact wk_then (wk_mid trivial ⟨fb (by simp [h5, h6, h7, h8, h9, h10]), trivial⟩ .slnil)
       ·have g10 := h10; try simp only [decide_eq_true_eq, decide_eq_false_iff_not] at g10
        refine wl_on rfl rfl h10 (wl_v (o_move rfl) rfl (wl_on rfl rfl h10 (wl_v (o_eq rfl rfl) rfl (wl_v (o_pick_f rfl h10 rfl) rfl (wl_v (o_move rfl) rfl (bsplit (decide ((c) = (46))) (fun h11 => ?_) (fun h11 => ?_)))))))
        ·have g11 := h11; try simp only [decide_eq_true_eq, decide_eq_false_iff_not] at g11
         refine wl_off rfl rfl h11 rfl (wl_off rfl rfl h11 rfl (wl_v (o_pick_t rfl h11 rfl) rfl (wl_v (o_move rfl) rfl (wl_off rfl rfl rfl rfl (wl_off rfl rfl rfl rfl (wl_v (o_pick_t rfl rfl rfl) rfl (wl_v (o_assign rfl) rfl (wl_nil ?_))))))))
         exact wk_then (wk_mid trivial ⟨fb (by simp [h5, h6, h7, h8, h9, h10, h11]), trivial⟩ .slnil)
        ·have g11 := h11; try simp only [decide_eq_true_eq, decide_eq_false_iff_not] at g11
         refine wl_on rfl rfl h11 (wl_v (o_move rfl) rfl (wl_on rfl rfl h11 (wl_v (o_eq rfl rfl) rfl (wl_v (o_pick_f rfl h11 rfl) rfl (wl_v (o_move rfl) rfl (bsplit (decide ((c) = (58))) (fun h12 => ?_) (fun h12 => ?_)))))))
         ·have g12 := h12; try simp only [decide_eq_true_eq, decide_eq_false_iff_not] at g12
          refine wl_off rfl rfl h12 rfl (wl_off rfl rfl h12 rfl (wl_v (o_pick_t rfl h12 rfl) rfl (wl_v (o_assign rfl) rfl (wl_nil ?_))))
          exact wk_then (wk_mid trivial ⟨fb (by simp [h5, h6, h7, h8, h9, h10, h11, h12]), trivial⟩ .slnil)
         ·have g12 := h12; try simp only [decide_eq_true_eq, decide_eq_false_iff_not] at g12
          refine wl_on rfl rfl h12 (wl_v (o_move rfl) rfl (wl_on rfl rfl h12 (wl_v (o_eq rfl rfl) rfl (wl_v (o_pick_f rfl h12 rfl) rfl (wl_v (o_assign rfl) rfl (wl_nil ?_))))))
          exact wk_then (wk_mid trivial ⟨fb (by simp [h5, h6, h7, h8, h9, h10, h11, h12]), trivial⟩ .slnil)
    ·have g7 := h7; try simp only [decide_eq_true_eq, decide_eq_false_iff_not] at g7
     refine wl_off rfl rfl h7 rfl (wl_off rfl rfl h7 rfl (wl_on rfl rfl h6 (wl_v (o_pick_f rfl h7 rfl) rfl (wl_v (o_pick_f rfl h6 rfl) rfl (wl_v (o_move rfl) rfl (wl_on rfl rfl rfl (wl_v (o_move rfl) rfl (wl_on rfl rfl rfl (wl_v (o_eq rfl rfl) rfl (wl_v (o_pick_f rfl rfl rfl) rfl (wl_v (o_move rfl) rfl (bsplit (decide ((c) = (45))) (fun h13 => ?_) (fun h13 => ?_)))))))))))))
     ·have g13 := h13; try simp only [decide_eq_true_eq, decide_eq_false_iff_not] at g13
      refine wl_off rfl rfl h13 rfl (wl_off rfl rfl h13 rfl (wl_v (o_pick_t rfl h13 rfl) rfl (wl_v (o_move rfl) rfl (wl_off rfl rfl rfl rfl (wl_off rfl rfl rfl rfl (wl_v (o_pick_t rfl rfl rfl) rfl (wl_v (o_move rfl) rfl (wl_off rfl rfl rfl rfl (wl_off rfl rfl rfl rfl (wl_v (o_pick_t rfl rfl rfl) rfl (wl_v (o_move rfl) rfl (wl_off rfl rfl rfl rfl (wl_off rfl rfl rfl rfl (wl_v (o_pick_t rfl rfl rfl) rfl (wl_v (o_assign rfl) rfl (wl_nil ?_))))))))))))))))
      exact wk_then (wk_mid trivial ⟨fb (by simp [h5, h6, h7, h13]), trivial⟩ .slnil)
     ·have g13 := h13; try simp only [decide_eq_true_eq, decide_eq_false_iff_not] at g13
      refine wl_on rfl rfl h13 (wl_v (o_move rfl) rfl (wl_on rfl rfl h13 (wl_v (o_eq rfl rfl) rfl (wl_v (o_pick_f rfl h13 rfl) rfl (wl_v (o_move rfl) rfl (bsplit (decide ((c) = (95))) (fun h14 => ?_) (fun h14 => ?_)))))))
      ·have g14 := h14; try simp only [decide_eq_true_eq, decide_eq_false_iff_not] at g14
       refine wl_off rfl rfl h14 rfl (wl_off rfl rfl h14 rfl (wl_v (o_pick_t rfl h14 rfl) rfl (wl_v (o_move rfl) rfl (wl_off rfl rfl rfl rfl (wl_off rfl rfl rfl rfl (wl_v (o_pick_t rfl rfl rfl) rfl (wl_v (o_move rfl) rfl (wl_off rfl rfl rfl rfl (wl_off rfl rfl rfl rfl (wl_v (o_pick_t rfl rfl rfl) rfl (wl_v (o_assign rfl) rfl (wl_nil ?_))))))))))))
       exact wk_then (wk_mid trivial ⟨fb (by simp [h5, h6, h7, h13, h14]), trivial⟩ .slnil)
      ·have g14 := h14; try simp only [decide_eq_true_eq, decide_eq_false_iff_not] at g14
       refine wl_on rfl rfl h14 (wl_v (o_move rfl) rfl (wl_on rfl rfl h14 (wl_v (o_eq rfl rfl) rfl (wl_v (o_pick_f rfl h14 rfl) rfl (wl_v (o_move rfl) rfl (bsplit (decide ((c) = (46))) (fun h15 => ?_) (fun h15 => ?_)))))))
       ·have g15 := h15; try simp only [decide_eq_true_eq, decide_eq_false_iff_not] at g15
        refine wl_off rfl rfl h15 rfl (wl_off rfl rfl h15 rfl (wl_v (o_pick_t rfl h15 rfl) rfl (wl_v (o_move rfl) rfl (wl_off rfl rfl rfl rfl (wl_off rfl rfl rfl rfl (wl_v (o_pick_t rfl rfl rfl) rfl (wl_v (o_assign rfl) rfl (wl_nil ?_))))))))
        exact wk_then (wk_mid trivial ⟨fb (by simp [h5, h6, h7, h13, h14, h15]), trivial⟩ .slnil)
       ·have g15 := h15; try simp only [decide_eq_true_eq, decide_eq_false_iff_not] at g15
        refine wl_on rfl rfl h15 (wl_v (o_move rfl) rfl (wl_on rfl rfl h15 (wl_v (o_eq rfl rfl) rfl (wl_v (o_pick_f rfl h15 rfl) rfl (wl_v (o_move rfl) rfl (bsplit (decide ((c) = (58))) (fun h16 => ?_) (fun h16 => ?_)))))))
        ·have g16 := h16; try simp only [decide_eq_true_eq, decide_eq_false_iff_not] at g16
         refine wl_off rfl rfl h16 rfl (wl_off rfl rfl h16 rfl (wl_v (o_pick_t rfl h16 rfl) rfl (wl_v (o_assign rfl) rfl (wl_nil ?_))))
         exact wk_then (wk_mid trivial ⟨fb (by simp [h5, h6, h7, h13, h14, h15, h16]), trivial⟩ .slnil)
        ·have g16 := h16; try simp only [decide_eq_true_eq, decide_eq_false_iff_not] at g16
         refine wl_on rfl rfl h16 (wl_v (o_move rfl) rfl (wl_on rfl rfl h16 (wl_v (o_eq rfl rfl) rfl (wl_v (o_pick_f rfl h16 rfl) rfl (wl_v (o_assign rfl) rfl (wl_nil ?_))))))
         exact wk_then (wk_mid trivial ⟨fb (by simp [h5, h6, h7, h13, h14, h15, h16]), trivial⟩ .slnil)
 refine wc_ret (wk_ret (r_1 rfl rfl) ?_)
 exact retv (by simp only [letterS]; by_cases h : 65 ≤ c <;> simp [h, Bool.or_assoc])

theorem small_r (c : Int) (w : World) : Calls Tryz.prog 93 [.int .u8 (c)].toArray w (RetV w (.bool (smallS c))) := by
 refine enter0 (n := 9) Tryz.func93 rfl Tryz.ntmps93 rfl (wc_seq (wc_region (wl_v (o_assign rfl) rfl (wl_nil (wk_then (wc_of_wk ?_))))))
 refine wc_seq_mid [(2, .bool (((decide ((97) ≤ (c))) && (decide ((c) ≤ (122))))))] [] (φ := True) ?_ (fun hm18 => ?_)
 ·refine wc_region (wl_v (o_move rfl) rfl (wl_v (o_ge rfl rfl) rfl (wl_v (o_move rfl) rfl (bsplit (decide ((97) ≤ (c))) (fun h18 => ?_) (fun h18 => ?_)))))
  ·have g18 := h18; try simp only [decide_eq_true_eq, decide_eq_false_iff_not] at g18
   refine wl_on rfl rfl h18 (wl_v (o_move rfl) rfl (wl_on rfl rfl h18 (wl_v (o_le rfl rfl) rfl (wl_v (o_pick_t rfl h18 rfl) rfl (wl_v (o_assign rfl) rfl (wl_nil ?_))))))
   exact wk_then (wk_mid trivial ⟨fb (by simp [h18]), trivial⟩ .slnil)
  ·have g18 := h18; try simp only [decide_eq_true_eq, decide_eq_false_iff_not] at g18
   refine wl_off rfl rfl h18 rfl (wl_off rfl rfl h18 rfl (wl_v (o_pick_f rfl h18 rfl) rfl (wl_v (o_assign rfl) rfl (wl_nil ?_))))
   exact wk_then (wk_mid trivial ⟨fb (by simp [h18]), trivial⟩ .slnil)
 refine wc_ret (wk_ret (r_1 rfl rfl) ?_)
 exact retv (by first | rfl | simp [])

theorem digit_r (c : Int) (w : World) : Calls Tryz.prog 94 [.int .u8 (c)].toArray w (RetV w (.bool (digitS c))) := by
 refine enter0 (n := 9) Tryz.func94 rfl Tryz.ntmps94 rfl (wc_seq (wc_region (wl_v (o_assign rfl) rfl (wl_nil (wk_then (wc_of_wk ?_))))))
 refine wc_seq_mid [(2, .bool (((decide ((48) ≤ (c))) && (decide ((c) ≤ (57))))))] [] (φ := True) ?_ (fun hm20 => ?_)
 ·refine wc_region (wl_v (o_move rfl) rfl (wl_v (o_ge rfl rfl) rfl (wl_v (o_move rfl) rfl (bsplit (decide ((48) ≤ (c))) (fun h20 => ?_) (fun h20 => ?_)))))
  ·have g20 := h20; try simp only [decide_eq_true_eq, decide_eq_false_iff_not] at g20
   refine wl_on rfl rfl h20 (wl_v (o_move rfl) rfl (wl_on rfl rfl h20 (wl_v (o_le rfl rfl) rfl (wl_v (o_pick_t rfl h20 rfl) rfl (wl_v (o_assign rfl) rfl (wl_nil ?_))))))
   exact wk_then (wk_mid trivial ⟨fb (by simp [h20]), trivial⟩ .slnil)
  ·have g20 := h20; try simp only [decide_eq_true_eq, decide_eq_false_iff_not] at g20
   refine wl_off rfl rfl h20 rfl (wl_off rfl rfl h20 rfl (wl_v (o_pick_f rfl h20 rfl) rfl (wl_v (o_assign rfl) rfl (wl_nil ?_))))
   exact wk_then (wk_mid trivial ⟨fb (by simp [h20]), trivial⟩ .slnil)
 refine wc_ret (wk_ret (r_1 rfl rfl) ?_)
 exact retv (by first | rfl | simp [])

theorem part_r (c : Int) (w : World) : Calls Tryz.prog 68 [.int .u8 (c)].toArray w (RetV w (.bool (letterS c))) := by
 refine enter0 (n := 37) Tryz.func68 rfl Tryz.ntmps68 rfl (wc_seq (wc_region (wl_v (o_assign rfl) rfl (wl_nil (wk_then (wc_of_wk ?_))))))
 refine wc_seq_mid [(2, .bool (((smallS c) || (bif decide ((65) ≤ (c)) then ((decide ((c) ≤ (90))) || ((digitS c) || ((decide ((c) = (45))) || ((decide ((c) = (95))) || ((decide ((c) = (46))) || ((decide ((c) = (58))) || (decide ((c) = (47))))))))) else ((digitS c) || ((decide ((c) = (45))) || ((decide ((c) = (95))) || ((decide ((c) = (46))) || ((decide ((c) = (58))) || (decide ((c) = (47))))))))))))] [] (φ := True) ?_ (fun hm34 => ?_)
 ·refine wc_region (wl_v (o_move rfl) rfl (w_call Tryz.call93 rfl (fun w hw => small_r c w) rfl (wl_v (o_move rfl) rfl (bsplit (smallS c) (fun h22 => ?_) (fun h22 => ?_)))))
  ·have g22 := h22; try simp only [decide_eq_true_eq, decide_eq_false_iff_not] at g22
   refine wl_off rfl rfl h22 rfl (wl_off rfl rfl h22 rfl (wl_off rfl rfl h22 rfl (wl_off_u rfl rfl rfl (wl_off_u rfl rfl rfl (wl_off rfl rfl h22 rfl (wl_v (o_pick_t rfl h22 rfl) rfl (wl_v (o_move rfl) rfl (wl_off rfl rfl rfl rfl (wl_off rfl rfl rfl rfl (wl_v (o_pick_t rfl rfl rfl) rfl (wl_v (o_move rfl) rfl (wl_off rfl rfl rfl rfl (wl_off rfl rfl rfl rfl (wl_v (o_pick_t rfl rfl rfl) rfl (wl_v (o_move rfl) rfl (wl_off rfl rfl rfl rfl (wl_off rfl rfl rfl rfl (wl_v (o_pick_t rfl rfl rfl) rfl (wl_v (o_move rfl) rfl (wl_off rfl rfl rfl rfl (wl_off rfl rfl rfl rfl (wl_v (o_pick_t rfl rfl rfl) rfl (wl_v (o_move rfl) rfl ?_)))))))))))))))))))))))
   refine wl_off rfl rfl rfl rfl (wl_off rfl rfl rfl rfl (wl_v (o_pick_t rfl rfl rfl) rfl (wl_v (o_move rfl) rfl (wl_off rfl rfl rfl rfl (wl_off rfl rfl rfl rfl (wl_v (o_pick_t rfl rfl rfl) rfl (wl_v (o_assign rfl) rfl (wl_nil ?_))))))))
   exact wk_then (wk_mid trivial ⟨fb (by simp [h22]), trivial⟩ .slnil)
  ·have g22 := h22; try simp only [decide_eq_true_eq, decide_eq_false_iff_not] at g22
   refine wl_on rfl rfl h22 (wl_v (o_move rfl) rfl (wl_on rfl rfl h22 (wl_v (o_ge rfl rfl) rfl (wl_on rfl rfl h22 (wl_v (o_move rfl) rfl (bsplit (decide ((65) ≤ (c))) (fun h23 => ?_) (fun h23 => ?_)))))))
   ·have g23 := h23; try simp only [decide_eq_true_eq, decide_eq_false_iff_not] at g23
    refine wl_on rfl rfl h23 (wl_v (o_move rfl) rfl (wl_on rfl rfl h23 (wl_v (o_le rfl rfl) rfl (wl_on rfl rfl h22 (wl_v (o_pick_t rfl h23 rfl) rfl (wl_v (o_pick_f rfl h22 rfl) rfl (wl_v (o_move rfl) rfl (bsplit (decide ((c) ≤ (90))) (fun h24 => ?_) (fun h24 => ?_)))))))))
    ·have g24 := h24; try simp only [decide_eq_true_eq, decide_eq_false_iff_not] at g24
     refine wl_off rfl rfl h24 rfl (wl_off rfl rfl h24 rfl (wl_v (o_pick_t rfl h24 rfl) rfl (wl_v (o_move rfl) rfl (wl_off rfl rfl rfl rfl (wl_off rfl rfl rfl rfl (wl_v (o_pick_t rfl rfl rfl) rfl (wl_v (o_move rfl) rfl (wl_off rfl rfl rfl rfl (wl_off rfl rfl rfl rfl (wl_v (o_pick_t rfl rfl rfl) rfl (wl_v (o_move rfl) rfl (wl_off rfl rfl rfl rfl (wl_off rfl rfl rfl rfl (wl_v (o_pick_t rfl rfl rfl) rfl (wl_v (o_move rfl) rfl (wl_off rfl rfl rfl rfl (wl_off rfl rfl rfl rfl (wl_v (o_pick_t rfl rfl rfl) rfl (wl_v (o_move rfl) rfl (wl_off rfl rfl rfl rfl (wl_off rfl rfl rfl rfl (wl_v (o_pick_t rfl rfl rfl) rfl (wl_v (o_assign rfl) rfl ?_)))))))))))))))))))))))
     refine wl_nil ?_
     exact wk_then (wk_mid trivial ⟨fb (by simp [h22, h23, h24]), trivial⟩ .slnil)
    ·have g24 := h24; try simp only [decide_eq_true_eq, decide_eq_false_iff_not] at g24
     refine wl_on rfl rfl h24 (wl_v (o_move rfl) rfl (wl_on rfl rfl h24 (w_call Tryz.call94 rfl (fun w hw => digit_r c w) rfl (wl_v (o_pick_f rfl h24 rfl) rfl (wl_v (o_move rfl) rfl (bsplit (digitS c) (fun h25 => ?_) (fun h25 => ?_)))))))
     ·have g25 := h25; try simp only [decide_eq_true_eq, decide_eq_false_iff_not] at g25
      refine wl_off rfl rfl h25 rfl (wl_off rfl rfl h25 rfl (wl_v (o_pick_t rfl h25 rfl) rfl (wl_v (o_move rfl) rfl (wl_off rfl rfl rfl rfl (wl_off rfl rfl rfl rfl (wl_v (o_pick_t rfl rfl rfl) rfl (wl_v (o_move rfl) rfl (wl_off rfl rfl rfl rfl (wl_off rfl rfl rfl rfl (wl_v (o_pick_t rfl rfl rfl) rfl (wl_v (o_move rfl) rfl (wl_off rfl rfl rfl rfl (wl_off rfl rfl rfl rfl (wl_v (o_pick_t rfl rfl rfl) rfl (wl_v (o_move rfl) rfl (wl_off rfl rfl rfl rfl (wl_off rfl rfl rfl rfl (wl_v (o_pick_t rfl rfl rfl) rfl (wl_v (o_assign rfl) rfl (wl_nil ?_))))))))))))))))))))
      exact wk_then (wk_mid trivial ⟨fb (by simp [h22, h23, h24, h25]), trivial⟩ .slnil)
     ·have g25 := h25; try simp only [decide_eq_true_eq, decide_eq_false_iff_not] at g25
      refine wl_on rfl rfl h25 (wl_v (o_move rfl) rfl (wl_on rfl rfl h25 (wl_v (o_eq rfl rfl) rfl (wl_v (o_pick_f rfl h25 rfl) rfl (wl_v (o_move rfl) rfl (bsplit (decide ((c) = (45))) (fun h26 => ?_) (fun h26 => ?_)))))))
      ·have g26 := h26; try simp only [decide_eq_true_eq, decide_eq_false_iff_not] at g26
       refine wl_off rfl rfl h26 rfl (wl_off rfl rfl h26 rfl (wl_v (o_pick_t rfl h26 rfl) rfl (wl_v (o_move rfl) rfl (wl_off rfl rfl rfl rfl (wl_off rfl rfl rfl rfl (wl_v (o_pick_t rfl rfl rfl) rfl (wl_v (o_move rfl) rfl (wl_off rfl rfl rfl rfl (wl_off rfl rfl rfl rfl (wl_v (o_pick_t rfl rfl rfl) rfl (wl_v (o_move rfl) rfl (wl_off rfl rfl rfl rfl (wl_off rfl rfl rfl rfl (wl_v (o_pick_t rfl rfl rfl) rfl (wl_v (o_assign rfl) rfl (wl_nil ?_))))))))))))))))
       exact wk_then (wk_mid trivial ⟨fb (by simp [h22, h23, h24, h25, h26]), trivial⟩ .slnil)
      ·have g26 := h26; try simp only [decide_eq_true_eq, decide_eq_false_iff_not] at g26
       refine wl_on rfl rfl h26 (wl_v (o_move rfl) rfl (wl_on rfl rfl h26 (wl_v (o_eq rfl rfl) rfl (wl_v (o_pick_f rfl h26 rfl) rfl (wl_v (o_move rfl) rfl (bsplit (decide ((c) = (95))) (fun h27 => ?_) (fun h27 => ?_)))))))
       ·have g27 := h27; try simp only [decide_eq_true_eq, decide_eq_false_iff_not] at g27
        refine wl_off rfl rfl h27 rfl (wl_off rfl rfl h27 rfl (wl_v (o_pick_t rfl h27 rfl) rfl (wl_v (o_move rfl) rfl (wl_off rfl rfl rfl rfl (wl_off rfl rfl rfl rfl (wl_v (o_pick_t rfl rfl rfl) rfl (wl_v (o_move rfl) rfl (wl_off rfl rfl rfl rfl (wl_off rfl rfl rfl rfl (wl_v (o_pick_t rfl rfl rfl) rfl (wl_v (o_assign rfl) rfl (wl_nil ?_))))))))))))
        exact wk_then (wk_mid trivial ⟨fb (by simp [h22, h23, h24, h25, h26, h27]), trivial⟩ .slnil)
       ·have g27 := h27; try simp only [decide_eq_true_eq, decide_eq_false_iff_not] at g27
        refine wl_on rfl rfl h27 (wl_v (o_move rfl) rfl (wl_on rfl rfl h27 (wl_v (o_eq rfl rfl) rfl (wl_v (o_pick_f rfl h27 rfl) rfl (wl_v (o_move rfl) rfl (bsplit (decide ((c) = (46))) (fun h28 => ?_) (fun h28 => ?_)))))))
        ·have g28 := h28; try simp only [decide_eq_true_eq, decide_eq_false_iff_not] at g28
         refine wl_off rfl rfl h28 rfl (wl_off rfl rfl h28 rfl (wl_v (o_pick_t rfl h28 rfl) rfl (wl_v (o_move rfl) rfl (wl_off rfl rfl rfl rfl (wl_off rfl rfl rfl rfl (wl_v (o_pick_t rfl rfl rfl) rfl (wl_v (o_assign rfl) rfl (wl_nil ?_))))))))
         exact wk_then (wk_mid trivial ⟨fb (by simp [h22, h23, h24, h25, h26, h27, h28]), trivial⟩ .slnil)
        ·have g28 := h28; try simp only [decide_eq_true_eq, decide_eq_false_iff_not] at g28
         refine wl_on rfl rfl h28 (wl_v (o_move rfl) rfl (wl_on rfl rfl h28 (wl_v (o_eq rfl rfl) rfl (wl_v (o_pick_f rfl h28 rfl) rfl (wl_v (o_move rfl) rfl (bsplit (decide ((c) = (58))) (fun h29 => ?_) (fun h29 => ?_)))))))
         ·have g29 := h29; try simp only [decide_eq_true_eq, decide_eq_false_iff_not] at g29
          refine wl_off rfl rfl h29 rfl (wl_off rfl rfl h29 rfl (wl_v (o_pick_t rfl h29 rfl) rfl (wl_v (o_assign rfl) rfl (wl_nil ?_))))
          exact wk_then (wk_mid trivial ⟨fb (by simp [h22, h23, h24, h25, h26, h27, h28, h29]), trivial⟩ .slnil)
         ·have g29 := h29; try simp only [decide_eq_true_eq, decide_eq_false_iff_not] at g29
          refine wl_on rfl rfl h29 (wl_v (o_move rfl) rfl (wl_on rfl rfl h29 (wl_v (o_eq rfl rfl) rfl (wl_v (o_pick_f rfl h29 rfl) rfl (wl_v (o_assign rfl) rfl (wl_nil ?_))))))
          exact wk_then (wk_mid trivial ⟨fb (by simp [h22, h23, h24, h25, h26, h27, h28, h29]), trivial⟩ .slnil)
   ·have g23 := h23; try simp only [decide_eq_true_eq, decide_eq_false_iff_not] at g23
    refine wl_off rfl rfl h23 rfl (wl_off rfl rfl h23 rfl (wl_on rfl rfl h22 (wl_v (o_pick_f rfl h23 rfl) rfl (wl_v (o_pick_f rfl h22 rfl) rfl (wl_v (o_move rfl) rfl (wl_on rfl rfl rfl (wl_v (o_move rfl) rfl (wl_on rfl rfl rfl (w_call Tryz.call94 rfl (fun w hw => digit_r c w) rfl (wl_v (o_pick_f rfl rfl rfl) rfl (wl_v (o_move rfl) rfl (bsplit (digitS c) (fun h30 => ?_) (fun h30 => ?_)))))))))))))
    ·have g30 := h30; try simp only [decide_eq_true_eq, decide_eq_false_iff_not] at g30
     refine wl_off rfl rfl h30 rfl (wl_off rfl rfl h30 rfl (wl_v (o_pick_t rfl h30 rfl) rfl (wl_v (o_move rfl) rfl (wl_off rfl rfl rfl rfl (wl_off rfl rfl rfl rfl (wl_v (o_pick_t rfl rfl rfl) rfl (wl_v (o_move rfl) rfl (wl_off rfl rfl rfl rfl (wl_off rfl rfl rfl rfl (wl_v (o_pick_t rfl rfl rfl) rfl (wl_v (o_move rfl) rfl (wl_off rfl rfl rfl rfl (wl_off rfl rfl rfl rfl (wl_v (o_pick_t rfl rfl rfl) rfl (wl_v (o_move rfl) rfl (wl_off rfl rfl rfl rfl (wl_off rfl rfl rfl rfl (wl_v (o_pick_t rfl rfl rfl) rfl (wl_v (o_assign rfl) rfl (wl_nil ?_))))))))))))))))))))
     exact wk_then (wk_mid trivial ⟨fb (by simp [h22, h23, h30]), trivial⟩ .slnil)
    ·have g30 := h30; try simp only [decide_eq_true_eq, decide_eq_false_iff_not] at g30
     refine wl_on rfl rfl h30 (wl_v (o_move rfl) rfl (wl_on rfl rfl h30 (wl_v (o_eq rfl rfl) rfl (wl_v (o_pick_f rfl h30 rfl) rfl (wl_v (o_move rfl) rfl (bsplit (decide ((c) = (45))) (fun h31 => ?_) (fun h31 => ?_)))))))
     ·have g31 := h31; try simp only [decide_eq_true_eq, decide_eq_false_iff_not] at g31
      refine wl_off rfl rfl h31 rfl (wl_off rfl rfl h31 rfl (wl_v (o_pick_t rfl h31 rfl) rfl (wl_v (o_move rfl) rfl (wl_off rfl rfl rfl rfl (wl_off rfl rfl rfl rfl (wl_v (o_pick_t rfl rfl rfl) rfl (wl_v (o_move rfl) rfl (wl_off rfl rfl rfl rfl (wl_off rfl rfl rfl rfl (wl_v (o_pick_t rfl rfl rfl) rfl (wl_v (o_move rfl) rfl (wl_off rfl rfl rfl rfl (wl_off rfl rfl rfl rfl (wl_v (o_pick_t rfl rfl rfl) rfl (wl_v (o_assign rfl) rfl (wl_nil ?_))))))))))))))))
      exact wk_then (wk_mid trivial ⟨fb (by simp [h22, h23, h30, h31]), trivial⟩ .slnil)
     ·have g31 := h31; try simp only [decide_eq_true_eq, decide_eq_false_iff_not] at g31
      refine wl_on rfl rfl h31 (wl_v (o_move rfl) rfl (wl_on rfl rfl h31 (wl_v (o_eq rfl rfl) rfl (wl_v (o_pick_f rfl h31 rfl) rfl (wl_v (o_move rfl) rfl (bsplit (decide ((c) = (95))) (fun h32 => ?_) (fun h32 => ?_)))))))
      ·have g32 := h32; try simp only [decide_eq_true_eq, decide_eq_false_iff_not] at g32
       refine wl_off rfl rfl h32 rfl (wl_off rfl rfl h32 rfl (wl_v (o_pick_t rfl h32 rfl) rfl (wl_v (o_move rfl) rfl (wl_off rfl rfl rfl rfl (wl_off rfl rfl rfl rfl (wl_v (o_pick_t rfl rfl rfl) rfl (wl_v (o_move rfl) rfl (wl_off rfl rfl rfl rfl (wl_off rfl rfl rfl rfl (wl_v (o_pick_t rfl rfl rfl) rfl (wl_v (o_assign rfl) rfl (wl_nil ?_))))))))))))
       exact wk_then (wk_mid trivial ⟨fb (by simp [h22, h23, h30, h31, h32]), trivial⟩ .slnil)
      ·have g32 := h32; try simp only [decide_eq_true_eq, decide_eq_false_iff_not] at g32
       refine wl_on rfl rfl h32 (wl_v (o_move rfl) rfl (wl_on rfl rfl h32 (wl_v (o_eq rfl rfl) rfl (wl_v (o_pick_f rfl h32 rfl) rfl (wl_v (o_move rfl) rfl (bsplit (decide ((c) = (46))) (fun h33 => ?_) (fun h33 => ?_)))))))
       ·have g33 := h33; try simp only [decide_eq_true_eq, decide_eq_false_iff_not] at g33
        refine wl_off rfl rfl h33 rfl (wl_off rfl rfl h33 rfl (wl_v (o_pick_t rfl h33 rfl) rfl (wl_v (o_move rfl) rfl (wl_off rfl rfl rfl rfl (wl_off rfl rfl rfl rfl (wl_v (o_pick_t rfl rfl rfl) rfl (wl_v (o_assign rfl) rfl (wl_nil ?_))))))))
        exact wk_then (wk_mid trivial ⟨fb (by simp [h22, h23, h30, h31, h32, h33]), trivial⟩ .slnil)
       ·have g33 := h33; try simp only [decide_eq_true_eq, decide_eq_false_iff_not] at g33
        refine wl_on rfl rfl h33 (wl_v (o_move rfl) rfl (wl_on rfl rfl h33 (wl_v (o_eq rfl rfl) rfl (wl_v (o_pick_f rfl h33 rfl) rfl (wl_v (o_move rfl) rfl (bsplit (decide ((c) = (58))) (fun h34 => ?_) (fun h34 => ?_)))))))
        ·have g34 := h34; try simp only [decide_eq_true_eq, decide_eq_false_iff_not] at g34
         refine wl_off rfl rfl h34 rfl (wl_off rfl rfl h34 rfl (wl_v (o_pick_t rfl h34 rfl) rfl (wl_v (o_assign rfl) rfl (wl_nil ?_))))
         exact wk_then (wk_mid trivial ⟨fb (by simp [h22, h23, h30, h31, h32, h33, h34]), trivial⟩ .slnil)
        ·have g34 := h34; try simp only [decide_eq_true_eq, decide_eq_false_iff_not] at g34
         refine wl_on rfl rfl h34 (wl_v (o_move rfl) rfl (wl_on rfl rfl h34 (wl_v (o_eq rfl rfl) rfl (wl_v (o_pick_f rfl h34 rfl) rfl (wl_v (o_assign rfl) rfl (wl_nil ?_))))))
         exact wk_then (wk_mid trivial ⟨fb (by simp [h22, h23, h30, h31, h32, h33, h34]), trivial⟩ .slnil)
 refine wc_ret (wk_ret (r_1 rfl rfl) ?_)
 exact retv (by simp [letterS]; grind)

theorem valid_c (m : Int) (w : World) : Calls Tryz.prog 59 [.int .i64 (m)].toArray w (RetV w (.bool (validS m))) := by
 refine enter0 (n := 9) Tryz.func59 rfl Tryz.ntmps59 rfl (wc_seq (wc_region (wl_v (o_assign rfl) rfl (wl_nil (wk_then (wc_of_wk ?_))))))
 refine wc_seq_mid [(2, .bool (((decide ((-1000000000000) ≤ (m))) && (decide ((m) ≤ (1000000000000))))))] [] (φ := True) ?_ (fun hm36 => ?_)
 ·refine wc_region (wl_v (o_move rfl) rfl (wl_v (o_le rfl rfl) rfl (wl_v (o_move rfl) rfl (bsplit (decide ((-1000000000000) ≤ (m))) (fun h36 => ?_) (fun h36 => ?_)))))
  ·have g36 := h36; try simp only [decide_eq_true_eq, decide_eq_false_iff_not] at g36
   refine wl_on rfl rfl h36 (wl_v (o_move rfl) rfl (wl_on rfl rfl h36 (wl_v (o_le rfl rfl) rfl (wl_v (o_pick_t rfl h36 rfl) rfl (wl_v (o_assign rfl) rfl (wl_nil ?_))))))
   exact wk_then (wk_mid trivial ⟨fb (by first | (simp only [h36, Bool.true_and, Bool.false_and, Bool.true_or, Bool.false_or, Bool.and_true, Bool.and_false, Bool.or_true, Bool.or_false, Bool.not_true, Bool.not_false, cond_true, cond_false, if_true, if_false, reduceIte, Bool.false_eq_true]; done) | simp [h36]), trivial⟩ .slnil)
  ·have g36 := h36; try simp only [decide_eq_true_eq, decide_eq_false_iff_not] at g36
   refine wl_off rfl rfl h36 rfl (wl_off rfl rfl h36 rfl (wl_v (o_pick_f rfl h36 rfl) rfl (wl_v (o_assign rfl) rfl (wl_nil ?_))))
   exact wk_then (wk_mid trivial ⟨fb (by first | (simp only [h36, Bool.true_and, Bool.false_and, Bool.true_or, Bool.false_or, Bool.and_true, Bool.and_false, Bool.or_true, Bool.or_false, Bool.not_true, Bool.not_false, cond_true, cond_false, if_true, if_false, reduceIte, Bool.false_eq_true]; done) | simp [h36]), trivial⟩ .slnil)
 refine wc_ret (wk_ret (r_1 rfl rfl) ?_)
 exact retv (by first | rfl | simp [])

theorem id_c (p : List UInt8) (w : World) : Calls Tryz.prog 40 [.string (B p)].toArray w (RetV w (.bool (idS p))) := by
 refine enter0 (n := 21) Tryz.func40 rfl Tryz.ntmps40 rfl (wc_seq (wc_region (wl_v (o_assign rfl) rfl (wl_nil (wk_then (wc_of_wk ?_))))))
 refine wc_seq (wc_seq (wc_region (wl_v (o_move rfl) rfl (w_range_s yu9 rfl rfl (fun b38 => ?_)))))
 refine wl_nil (wk_then (wc_of_wk ?_))
 refine wc_block (wc_loop (S := Nat) (fun (k : Nat) => k ≤ p.length ∧ allFrom idCh 0 p = allFrom idCh k (p.drop k)) (fun (k : Nat) => [(0, .string (B (p))), (2, .bool (false)), (6, .pointer (some ⟨b38, 0, none⟩))]) (fun (k : Nat) => [.blk b38 (.stringIter (B p) (k))]) (fun (k : Nat) => p.length - k) (0) ?_ ⟨rfl, rfl, rfl, trivial⟩ (.cons_cons _ (.slnil)) ?_)
 ·exact ⟨Nat.zero_le _, by simp⟩
 rintro k hi0
 refine wc_seq (wc_region (w_next_s (i := 0) rfl rfl rfl (fun hend => ?_) (fun u39 c40 wd41 hu39 hlu39 hhu39 hwu39 => ?_)))
 ·refine wl_v (o_extract rfl rfl) rfl (wl_nil (wk_then (wc_of_wk ?_)))
  refine wc_seq (wc_cond_f rfl rfl (wc_exit (wk_then_exit (wk_then_exit (wk_in_hit (wk_then (wc_of_wk ?_)))))))
  refine wc_seq_mid [(2, .bool (((decide ((1) ≤ ((p.length : Int)))) && (decide (((p.length : Int)) ≤ (64))))))] [.blk b38 (.stringIter (B p) (k))] (φ := True) ?_ (fun hm42 => ?_)
  ·refine wc_region (wl_v (o_move rfl) rfl (wl_v (o_len_s yu9 rfl) rfl (wl_v (o_ge rfl rfl) rfl (wl_v (o_move rfl) rfl (bsplit (decide ((1) ≤ ((p.length : Int)))) (fun h42 => ?_) (fun h42 => ?_))))))
   ·have g42 := h42; try simp only [decide_eq_true_eq, decide_eq_false_iff_not] at g42
    refine wl_on rfl rfl h42 (wl_v (o_move rfl) rfl (wl_on rfl rfl h42 (wl_v (o_len_s yu9 rfl) rfl (wl_on rfl rfl h42 (wl_v (o_le rfl rfl) rfl (wl_v (o_pick_t rfl h42 rfl) rfl (wl_v (o_assign rfl) rfl (wl_nil ?_))))))))
    exact wk_then (wk_mid trivial ⟨fb (by first | (simp only [h42, Bool.true_and, Bool.false_and, Bool.true_or, Bool.false_or, Bool.and_true, Bool.and_false, Bool.or_true, Bool.or_false, Bool.not_true, Bool.not_false, cond_true, cond_false, if_true, if_false, reduceIte, Bool.false_eq_true]; done) | simp [h42]), trivial⟩ (.cons_cons _ (.slnil)))
   ·have g42 := h42; try simp only [decide_eq_true_eq, decide_eq_false_iff_not] at g42
    refine wl_off rfl rfl h42 rfl (wl_off rfl rfl h42 rfl (wl_off rfl rfl h42 rfl (wl_v (o_pick_f rfl h42 rfl) rfl (wl_v (o_assign rfl) rfl (wl_nil ?_)))))
    exact wk_then (wk_mid trivial ⟨fb (by first | (simp only [h42, Bool.true_and, Bool.false_and, Bool.true_or, Bool.false_or, Bool.and_true, Bool.and_false, Bool.or_true, Bool.or_false, Bool.not_true, Bool.not_false, cond_true, cond_false, if_true, if_false, reduceIte, Bool.false_eq_true]; done) | simp [h42]), trivial⟩ (.cons_cons _ (.slnil)))
  refine wc_ret (wk_ret (r_1 rfl rfl) ?_)
  exact retv (by rw [id_yes hi0 hend])
 ·refine wl_v (o_extract rfl rfl) rfl (wl_nil (wk_then (wc_of_wk ?_)))
  refine wc_seq (wc_cond_t rfl rfl (wc_skip (wk_then (wc_of_wk ?_))))
  refine wc_block (wc_seq (wc_region (wl_v (o_extract rfl rfl) rfl (wl_v (o_assign rfl) rfl (wl_nil (wk_then (wc_of_wk ?_)))))))
  refine wc_seq (wc_region (wl_v (o_move rfl) rfl (w_call Tryz.call66 rfl (fun w hw => letter_c (c40 : Int) w) rfl (wl_v (o_not rfl) rfl (wl_nil (wk_then (wc_of_wk ?_)))))))
  refine wc_cond (b := !(letterS (c40 : Int))) rfl (fun h44 => ?_) (fun h44 => ?_)
  ·have g44 := h44; try simp only [decide_eq_true_eq, decide_eq_false_iff_not] at g44
   refine wc_seq (wc_region (wl_v (o_assign rfl) rfl (wl_nil (wk_then (wc_of_wk ?_)))))
   refine wc_ret (wk_in_ret (wk_then_ret (wk_in_ret (wk_then_ret (wk_ret (r_1 rfl rfl) ?_)))))
   exact retv (by rw [id_no hi0 hu39 hlu39 hhu39 h44])
  ·have g44 := h44; try simp only [decide_eq_true_eq, decide_eq_false_iff_not] at g44
   refine wc_skip (wk_in_norm (wk_then (wk_some (k + wd41) ?_ ⟨rfl, rfl, rfl, trivial⟩ (.cons_cons _ (.slnil)))))
   exact id_next hi0 hu39 hlu39 hhu39 h44

end Go.Proofs.YtpmiamphppcfeaaGreatDoor

/-
 Prefixes, suffixes, cuts: plain functions on lists of bytes. No program in sight.
-/
namespace Go.Proofs.YtpmiamphppcfeaaGreatDoor
open Go
end Go.Proofs.YtpmiamphppcfeaaGreatDoor

/-
 Walks, printed by a small program of ours (gsym.py).
-/
namespace Go.Proofs.YtpmiamphppcfeaaGreatDoor
open Go Go.RowKit
set_option linter.unusedVariables false
set_option linter.unusedSimpArgs false
set_option maxRecDepth 100000
end Go.Proofs.YtpmiamphppcfeaaGreatDoor

/-
 Decimal forms; references; children; patterns: plain functions on lists of bytes. No program in sight.
-/
namespace Go.Proofs.YtpmiamphppcfeaaGreatDoor
open Go
def sgnS (p : List UInt8) : Bool := decide ((0 : Int) < p.length) && decide (bat p 0 = 45)
def digs (p : List UInt8) : List UInt8 := if sgnS p = true then p.drop 1 else p
theorem digs_len (p : List UInt8) : (digs p).length ≤ p.length := by unfold digs; split <;> simp
def digCh (_ : Nat) (u : UInt8) : Bool := !(decide ((u.toNat : Int) < 48) || decide (57 < (u.toNat : Int)))
def decS (p : List UInt8) : Bool := !(decide (digs p = []) || (decide (bat (digs p) 0 = 48) && !decide (p = [48]))) && allFrom digCh 0 (digs p)
theorem len_pos {p : List UInt8} (h : ¬ p = []) : (0 : Int) < p.length := by
 cases p with
 | nil => exact absurd rfl h
 | cons a r => simp
theorem get_of_lt {p : List UInt8} {k : Nat} (h : (k : Int) < p.length) : ∃ u, p[k]? = some u := ⟨p[k]'(by omega), List.getElem?_eq_getElem (by omega)⟩
theorem dig_next {p : List UInt8} {k : Nat} (hi : k ≤ p.length ∧ allFrom digCh 0 p = allFrom digCh k (p.drop k)) (h : (k : Int) < p.length) (ht : (decide (bat p k < 48) || decide (57 < bat p k)) = false) :
  (k + 1 ≤ p.length ∧ allFrom digCh 0 p = allFrom digCh (k + 1) (p.drop (k + 1))) ∧ p.length - (k + 1) < p.length - k := by
 obtain ⟨u, hu⟩ := get_of_lt h
 rw [bat_of hu] at ht
 exact rng_next hi hu (by simp only [digCh, ht]; rfl)
theorem dig_no {p : List UInt8} {k : Nat} (hi : k ≤ p.length ∧ allFrom digCh 0 p = allFrom digCh k (p.drop k)) (h : (k : Int) < p.length) (ht : (decide (bat p k < 48) || decide (57 < bat p k)) = true) : allFrom digCh 0 p = false := by
 obtain ⟨u, hu⟩ := get_of_lt h
 rw [bat_of hu] at ht
 exact rng_no hi hu (by simp only [digCh, ht]; rfl)
theorem dig_yes {p : List UInt8} {k : Nat} (hi : k ≤ p.length ∧ allFrom digCh 0 p = allFrom digCh k (p.drop k)) (h : ¬ (k : Int) < p.length) : allFrom digCh 0 p = true := rng_yes hi (by omega)

/-! ### The last place of a byte -/
def lastIx (p : List UInt8) (m : Int) : Nat → Int
 | 0 => -1
 | k + 1 => if bat p k = m then k else lastIx p m k
def lastB (p : List UInt8) (m : Int) : Int := lastIx p m p.length
theorem lastIx_bd (p : List UInt8) (m : Int) : ∀ k, -1 ≤ lastIx p m k ∧ lastIx p m k < k
 | 0 => by simp [lastIx]
 | k + 1 => by
  have := lastIx_bd p m k
  unfold lastIx
  split <;> omega
theorem lastB_bd (p : List UInt8) (m : Int) : -1 ≤ lastB p m ∧ lastB p m < p.length := lastIx_bd p m _
theorem last_hit {p : List UInt8} {m : Int} {k : Nat} (hi : k ≤ p.length ∧ lastB p m = lastIx p m k) (h : (0 : Int) ≤ (k : Int) - 1) (ht : bat p ((k : Int) - 1) = m) : (k : Int) - 1 = lastB p m := by
 obtain ⟨j, rfl⟩ : ∃ j, k = j + 1 := ⟨k - 1, by omega⟩
 have e : ((j + 1 : Nat) : Int) - 1 = j := by omega
 rw [e] at ht ⊢
 rw [hi.2, lastIx, if_pos ht]
theorem last_next {p : List UInt8} {m : Int} {k : Nat} (hi : k ≤ p.length ∧ lastB p m = lastIx p m k) (h : (0 : Int) ≤ (k : Int) - 1) (ht : ¬ bat p ((k : Int) - 1) = m) : (k - 1 ≤ p.length ∧ lastB p m = lastIx p m (k - 1)) ∧ k - 1 < k := by
 obtain ⟨j, rfl⟩ : ∃ j, k = j + 1 := ⟨k - 1, by omega⟩
 have e : ((j + 1 : Nat) : Int) - 1 = j := by omega
 rw [e] at ht
 refine ⟨⟨by omega, ?_⟩, by omega⟩
 rw [hi.2, lastIx, if_neg ht]; rfl
theorem last_end {p : List UInt8} {m : Int} {k : Nat} (hi : k ≤ p.length ∧ lastB p m = lastIx p m k) (h : ¬ (0 : Int) ≤ (k : Int) - 1) : (-1 : Int) = lastB p m := by
 obtain rfl : k = 0 := by omega
 rw [hi.2]; rfl

/-! ### num.Parse -/
def parseE (p : List UInt8) : Int := if decS p = true then (match Lib.atoiAll p with | .ok v => if validS v = true then 0 else 2 | _ => 2) else 1
def parseV (p : List UInt8) : Int := if decS p = true then (match Lib.atoiAll p with | .ok v => if validS v = true then v else 0 | _ => 0) else 0
theorem digits_end : ∀ (l : List UInt8) (i acc : Nat), allFrom digCh i l = true → (∃ u, Lib.parseUint10 acc l = .ok u) ∨ Lib.parseUint10 acc l = .range
 | [], _, acc, _ => .inl ⟨acc, rfl⟩
 | c :: r, i, acc, h => by
  simp only [allFrom, Bool.and_eq_true] at h
  have hc : 48 ≤ c.toNat ∧ c.toNat ≤ 57 := by have := h.1; simp [digCh] at this; omega
  unfold Lib.parseUint10
  rw [if_pos hc]
  split
  ·exact .inr rfl
  ·split
   ·exact .inr rfl
   ·exact digits_end r _ _ h.2
theorem mag_end {l : List UInt8} (hne : l ≠ []) (h : allFrom digCh 0 l = true) : (∃ u, Lib.parseMag l = .ok u) ∨ Lib.parseMag l = .range := by
 unfold Lib.parseMag
 rw [if_neg hne]
 exact digits_end l 0 0 h
theorem signless_end {e : Lib.NumEnd Nat} (h : (∃ u, e = .ok u) ∨ e = .range) : (∃ v, Lib.signless e = .ok v) ∨ Lib.signless e = .range := by
 rcases h with ⟨u, rfl⟩ | rfl
 ·unfold Lib.signless
  by_cases h : 9223372036854775808 ≤ u
  ·exact .inr (by simp [h])
  ·exact .inl ⟨_, by simp [h]; rfl⟩
 ·exact .inr rfl
theorem signed_end {e : Lib.NumEnd Nat} (h : (∃ u, e = .ok u) ∨ e = .range) : (∃ v, Lib.signed e = .ok v) ∨ Lib.signed e = .range := by
 rcases h with ⟨u, rfl⟩ | rfl
 ·unfold Lib.signed
  by_cases h : 9223372036854775808 < u
  ·exact .inr (by simp [h])
  ·exact .inl ⟨_, by simp [h]; rfl⟩
 ·exact .inr rfl
theorem atoi_dec {p : List UInt8} (h : decS p = true) : (∃ v, Lib.atoiAll p = .ok v ∧ -9223372036854775808 ≤ v ∧ v ≤ 9223372036854775807) ∨ Lib.atoiAll p = .range := by
 have key : (∃ v, Lib.atoiAll p = .ok v) ∨ Lib.atoiAll p = .range := by
  simp only [decS, Bool.and_eq_true, Bool.not_eq_true', Bool.or_eq_false_iff, decide_eq_false_iff_not] at h
  obtain ⟨⟨hne, _⟩, hall⟩ := h
  cases p with
  | nil => simp [digs, sgnS] at hne
  | cons c r =>
   by_cases hc : c = 45
   ·subst hc
    have hd : digs (45 :: r) = r := by simp [digs, sgnS, bat]
    rw [hd] at hne hall
    rw [Lib.atoiAll_minus]
    exact signed_end (mag_end hne hall)
   ·have hb : ¬ bat (c :: r) 0 = 45 := by
     simp only [bat, Int.toNat_zero, List.getElem?_cons_zero, Option.getD_some]
     intro e; exact hc (UInt8.toNat_inj.1 (by simpa using (by omega : c.toNat = 45)))
    have hd : digs (c :: r) = c :: r := by simp [digs, sgnS, hb]
    rw [hd] at hne hall
    have hc48 : 48 ≤ c.toNat := by
     simp only [allFrom, Bool.and_eq_true] at hall
     have := hall.1; simp [digCh] at this; omega
    rw [Lib.atoiAll_plain c r (by omega) (by omega)]
    exact signless_end (mag_end hne hall)
 rcases key with ⟨v, hv⟩ | h
 ·exact .inl ⟨v, hv, Lib.atoiAll_bounds hv⟩
 ·exact .inr h
theorem parse_bd (p : List UInt8) : -1000000000000 ≤ parseV p ∧ parseV p ≤ 1000000000000 := by
 unfold parseV
 split
 ·split
  ·split
   ·rename_i h; simp [validS] at h; omega
   ·omega
  ·omega
 ·omega
theorem itoa_len (m : Int) (h0 : -9223372036854775808 ≤ m) (h1 : m ≤ 9223372036854775807) : (Lib.itoa m).length ≤ 21 := Lib.itoa_length_le m h0 h1
/-! ### ident -/
def iff0 (b : Bool) (p : List UInt8) : List UInt8 := if b = true then p else []
def childL (id : List UInt8) (m : Int) : List UInt8 := id ++ [46] ++ Lib.itoa m
def childE (id : List UInt8) (m : Int) : Int := if idS id = true then (if 0 ≤ m ∧ m ≤ 1000000000000 then (if (childL id m).length ≤ 64 then 0 else 3) else 2) else 4
def childV (id : List UInt8) (m : Int) : List UInt8 := if childE id m = 0 then childL id m else []
def parP (s : List UInt8) : List UInt8 := s.take (lastB s 46).toNat
def parN (s : List UInt8) : List UInt8 := s.drop (lastB s 46 + 1).toNat
def parOk (s : List UInt8) : Bool := decide (0 ≤ lastB s 46) && decide (parseE (parN s) = 0) && decide (childE (parP s) (parseV (parN s)) = 0) && decide (childV (parP s) (parseV (parN s)) = s)
theorem childV_len (id : List UInt8) (m : Int) : (childV id m).length ≤ 64 := by
 unfold childV
 split
 ·rename_i h
  unfold childE at h
  split at h
  ·split at h
   ·split at h
    ·assumption
    ·omega
   ·omega
  ·omega
 ·simp
end Go.Proofs.YtpmiamphppcfeaaGreatDoor

/-
 Walks, printed by a small program of ours (gsym.py).
-/
namespace Go.Proofs.YtpmiamphppcfeaaGreatDoor
open Go Go.RowKit
set_option linter.unusedVariables false
set_option linter.unusedSimpArgs false
set_option maxRecDepth 100000
theorem decimal_c (p : List UInt8) (hp : p.length ≤ 281474976710656) (w : World) : Calls Tryz.prog 57 [.string (B (p))].toArray w (RetV w (.bool (decS p))) := by
 refine enter0 (n := 43) Tryz.func57 rfl Tryz.ntmps57 rfl (wc_seq (wc_region (wl_v (o_assign rfl) rfl (wl_nil (wk_then (wc_of_wk ?_))))))
 refine wc_seq (wc_region (wl_v (o_move rfl) rfl (wl_v (o_assign rfl) rfl (wl_nil (wk_then (wc_of_wk ?_))))))
 refine wc_seq_mid [(0, .string (B (p))), (2, .bool (false)), (3, .string (B ((if ((decide ((0) < ((p.length : Int)))) && (decide ((bat p 0) = (45)))) = true then List.drop (Int.toNat (1)) p else p))))] [] (φ := True) ?_ (fun hm63 => ?_)
 ·refine wc_seq_mid [(0, .string (B (p))), (2, .bool (false)), (3, .string (B (p))), (13, .bool (((decide ((0) < ((p.length : Int)))) && (decide ((bat p 0) = (45))))))] [] (φ := True) ?_ (fun hm61 => ?_)
  ·refine wc_region (wl_v (o_move rfl) rfl (wl_v (o_len_s yu9 rfl) rfl (wl_v (o_gt rfl rfl) rfl (wl_v (o_move rfl) rfl (bsplit (decide ((0) < ((p.length : Int)))) (fun h61 => ?_) (fun h61 => ?_))))))
   ·have g61 := h61; try simp only [decide_eq_true_eq, decide_eq_false_iff_not] at g61
    have f61 := h61; try simp at f61
    refine wl_on rfl rfl h61 (wl_v (o_move rfl) rfl (wl_on rfl rfl h61 (wl_v (o_index_b yu9 rfl rfl (by first | omega | exact len_pos (by assumption)) (by first | omega | exact len_pos (by assumption))) rfl (wl_on rfl rfl h61 (wl_v (o_eq rfl rfl) rfl (wl_v (o_pick_t rfl h61 rfl) rfl (wl_nil ?_)))))))
    exact wk_then (wk_mid trivial ⟨rfl, rfl, rfl, fb (by first | (simp only [h61, Bool.true_and, Bool.false_and, Bool.true_or, Bool.false_or, Bool.and_true, Bool.and_false, Bool.or_true, Bool.or_false, Bool.not_true, Bool.not_false, cond_true, cond_false, if_true, if_false, reduceIte, Bool.false_eq_true]; done) | simp [h61]), trivial⟩ .slnil)
   ·have g61 := h61; try simp only [decide_eq_true_eq, decide_eq_false_iff_not] at g61
    have f61 := h61; try simp at f61
    refine wl_off rfl rfl h61 rfl (wl_off rfl rfl h61 rfl (wl_off rfl rfl h61 rfl (wl_v (o_pick_f rfl h61 rfl) rfl (wl_nil ?_))))
    exact wk_then (wk_mid trivial ⟨rfl, rfl, rfl, fb (by first | (simp only [h61, Bool.true_and, Bool.false_and, Bool.true_or, Bool.false_or, Bool.and_true, Bool.and_false, Bool.or_true, Bool.or_false, Bool.not_true, Bool.not_false, cond_true, cond_false, if_true, if_false, reduceIte, Bool.false_eq_true]; done) | simp [h61]), trivial⟩ .slnil)
  refine wc_cond (b := ((decide ((0) < ((p.length : Int)))) && (decide ((bat p 0) = (45))))) rfl (fun h63 => ?_) (fun h63 => ?_)
  ·have g63 := h63; try simp only [decide_eq_true_eq, decide_eq_false_iff_not] at g63
   have f63 := h63; try simp at f63
   refine wc_region (wl_v (o_move rfl) rfl (wl_v (o_slice_lo yu9 rfl rfl (by first | omega | (simp; omega)) (by first | omega | (simp; omega))) rfl (wl_v (o_assign rfl) rfl (wl_nil ?_))))
   exact wk_then (wk_mid trivial ⟨rfl, rfl, fs (by first | (simp only [h63, Bool.true_and, Bool.false_and, Bool.true_or, Bool.false_or, Bool.and_true, Bool.and_false, Bool.or_true, Bool.or_false, Bool.not_true, Bool.not_false, cond_true, cond_false, if_true, if_false, reduceIte, Bool.false_eq_true]; done) | simp [h63]), trivial⟩ .slnil)
  ·have g63 := h63; try simp only [decide_eq_true_eq, decide_eq_false_iff_not] at g63
   have f63 := h63; try simp at f63
   refine wc_skip ?_
   exact wk_then (wk_mid trivial ⟨rfl, rfl, fs (by first | (simp only [h63, Bool.true_and, Bool.false_and, Bool.true_or, Bool.false_or, Bool.and_true, Bool.and_false, Bool.or_true, Bool.or_false, Bool.not_true, Bool.not_false, cond_true, cond_false, if_true, if_false, reduceIte, Bool.false_eq_true]; done) | simp [h63]), trivial⟩ .slnil)
 have hdg : digs p = (if ((decide ((0) < ((p.length : Int)))) && (decide ((bat p 0) = (45)))) = true then List.drop (Int.toNat (1)) p else p) := rfl
 have hdl := digs_len p
 rw [hdg] at hdl
 generalize (if ((decide ((0) < ((p.length : Int)))) && (decide ((bat p 0) = (45)))) = true then List.drop (Int.toNat (1)) p else p) = dg at hdg hdl ⊢
 refine wc_seq (wc_seq_mid [(2, .bool (false)), (3, .string (B (dg))), (26, .bool (((decide ((dg) = (([] : List UInt8)))) || ((decide ((bat dg 0) = (48))) && (!(decide ((p) = (([48] : List UInt8)))))))))] [] (φ := True) ?_ (fun hm66 => ?_))
 ·refine wc_region (wl_v (o_move rfl) rfl (wl_v (o_seq rfl rfl) rfl (wl_v (o_move rfl) rfl (bsplit (decide ((dg) = (([] : List UInt8)))) (fun h65 => ?_) (fun h65 => ?_)))))
  ·have g65 := h65; try simp only [decide_eq_true_eq, decide_eq_false_iff_not] at g65
   have f65 := h65; try simp at f65
   refine wl_off rfl rfl h65 rfl (wl_off rfl rfl h65 rfl (wl_off rfl rfl h65 rfl (wl_off rfl rfl h65 rfl (wl_off_u rfl rfl rfl (wl_off_u rfl rfl rfl (wl_off rfl rfl h65 rfl (wl_v (o_pick_t rfl h65 rfl) rfl (wl_nil ?_))))))))
   exact wk_then (wk_mid trivial ⟨rfl, rfl, fb (by first | (simp only [h65, Bool.true_and, Bool.false_and, Bool.true_or, Bool.false_or, Bool.and_true, Bool.and_false, Bool.or_true, Bool.or_false, Bool.not_true, Bool.not_false, cond_true, cond_false, if_true, if_false, reduceIte, Bool.false_eq_true]; done) | simp [h65]), trivial⟩ .slnil)
  ·have g65 := h65; try simp only [decide_eq_true_eq, decide_eq_false_iff_not] at g65
   have f65 := h65; try simp at f65
   refine wl_on rfl rfl h65 (wl_v (o_move rfl) rfl (wl_on rfl rfl h65 (wl_v (o_index_b yu9 rfl rfl (by first | omega | exact len_pos (by assumption)) (by first | omega | exact len_pos (by assumption))) rfl (wl_on rfl rfl h65 (wl_v (o_eq rfl rfl) rfl (wl_on rfl rfl h65 (wl_v (o_move rfl) rfl (bsplit (decide ((bat dg 0) = (48))) (fun h66 => ?_) (fun h66 => ?_)))))))))
   ·have g66 := h66; try simp only [decide_eq_true_eq, decide_eq_false_iff_not] at g66
    have f66 := h66; try simp at f66
    refine wl_on rfl rfl h66 (wl_v (o_move rfl) rfl (wl_on rfl rfl h66 (wl_v (o_sne rfl rfl) rfl (wl_on rfl rfl h65 (wl_v (o_pick_t rfl h66 rfl) rfl (wl_v (o_pick_f rfl h65 rfl) rfl (wl_nil ?_)))))))
    exact wk_then (wk_mid trivial ⟨rfl, rfl, fb (by first | (simp only [h65, h66, Bool.true_and, Bool.false_and, Bool.true_or, Bool.false_or, Bool.and_true, Bool.and_false, Bool.or_true, Bool.or_false, Bool.not_true, Bool.not_false, cond_true, cond_false, if_true, if_false, reduceIte, Bool.false_eq_true]; done) | simp [h65, h66]), trivial⟩ .slnil)
   ·have g66 := h66; try simp only [decide_eq_true_eq, decide_eq_false_iff_not] at g66
    have f66 := h66; try simp at f66
    refine wl_off rfl rfl h66 rfl (wl_off rfl rfl h66 rfl (wl_on rfl rfl h65 (wl_v (o_pick_f rfl h66 rfl) rfl (wl_v (o_pick_f rfl h65 rfl) rfl (wl_nil ?_)))))
    exact wk_then (wk_mid trivial ⟨rfl, rfl, fb (by first | (simp only [h65, h66, Bool.true_and, Bool.false_and, Bool.true_or, Bool.false_or, Bool.and_true, Bool.and_false, Bool.or_true, Bool.or_false, Bool.not_true, Bool.not_false, cond_true, cond_false, if_true, if_false, reduceIte, Bool.false_eq_true]; done) | simp [h65, h66]), trivial⟩ .slnil)
 refine wc_cond (b := ((decide ((dg) = (([] : List UInt8)))) || ((decide ((bat dg 0) = (48))) && (!(decide ((p) = (([48] : List UInt8)))))))) rfl (fun h68 => ?_) (fun h68 => ?_)
 ·have g68 := h68; try simp only [decide_eq_true_eq, decide_eq_false_iff_not] at g68
  have f68 := h68; try simp at f68
  refine wc_seq (wc_region (wl_v (o_assign rfl) rfl (wl_nil (wk_then (wc_of_wk ?_)))))
  refine wc_ret (wk_then_ret (wk_ret (r_1 rfl rfl) ?_))
  exact retv (by simp only [decS, hdg, h68]; rfl)
 ·have g68 := h68; try simp only [decide_eq_true_eq, decide_eq_false_iff_not] at g68
  have f68 := h68; try simp at f68
  refine wc_skip (wk_then (wc_of_wk ?_))
  refine wc_seq (wc_seq (wc_region (wl_v (o_move rfl) rfl (wl_v (o_len_s yu9 rfl) rfl (wl_v (o_move rfl) rfl (wl_nil (wk_then (wc_of_wk ?_))))))))
  refine wc_block (wc_loop (S := Nat) (fun (k : Nat) => k ≤ dg.length ∧ allFrom digCh 0 dg = allFrom digCh k (dg.drop k)) (fun (k : Nat) => [(29, .int .i64 ((k : Int))), (3, .string (B (dg))), (28, .int .i64 ((dg.length : Int)))]) (fun (k : Nat) => []) (fun (k : Nat) => dg.length - k) (0) ?_ ⟨fi (by first | rfl | (simp; done) | omega | (simp; omega)), rfl, rfl, trivial⟩ .slnil ?_)
  ·exact ⟨Nat.zero_le _, by simp⟩
  rintro k hi0
  refine wc_seq (wc_region (wl_v (o_lt rfl rfl) rfl (wl_nil (wk_then (wc_of_wk ?_)))))
  refine wc_seq (wc_cond (b := decide (((k : Int)) < ((dg.length : Int)))) rfl (fun h69 => ?_) (fun h69 => ?_))
  ·have g69 := h69; try simp only [decide_eq_true_eq, decide_eq_false_iff_not] at g69
   have f69 := h69; try simp at f69
   refine wc_skip (wk_then (wc_of_wk ?_))
   refine wc_seq (wc_block (wc_seq (wc_region (wl_v (o_move rfl) rfl (wl_v (o_assign rfl) rfl (wl_nil (wk_then (wc_of_wk ?_))))))))
   refine wc_seq_mid [(3, .string (B (dg))), (4, .int .i64 ((k : Int))), (28, .int .i64 ((dg.length : Int))), (29, .int .i64 ((k : Int))), (30, .bool (decide (((k : Int)) < ((dg.length : Int))))), (31, .int .i64 ((k : Int))), (32, .string (B (dg))), (33, .int .i64 ((k : Int))), (34, .int .u8 (bat dg (k : Int))), (35, .bool (decide ((bat dg (k : Int)) < (48)))), (36, .bool (decide ((bat dg (k : Int)) < (48)))), (41, .bool (((decide ((bat dg (k : Int)) < (48))) || (decide ((57) < (bat dg (k : Int)))))))] [] (φ := True) ?_ (fun hm70 => ?_)
   ·refine wc_region (wl_v (o_move rfl) rfl (wl_v (o_move rfl) rfl (wl_v (o_index_b yu9 rfl rfl (by first | omega | exact len_pos (by assumption)) (by first | omega | exact len_pos (by assumption))) rfl (wl_v (o_lt rfl rfl) rfl (wl_v (o_move rfl) rfl (bsplit (decide ((bat dg (k : Int)) < (48))) (fun h70 => ?_) (fun h70 => ?_)))))))
    ·have g70 := h70; try simp only [decide_eq_true_eq, decide_eq_false_iff_not] at g70
     have f70 := h70; try simp at f70
     refine wl_off rfl rfl h70 rfl (wl_off rfl rfl h70 rfl (wl_off rfl rfl h70 rfl (wl_off rfl rfl h70 rfl (wl_v (o_pick_t rfl h70 rfl) rfl (wl_nil ?_)))))
     exact wk_then (wk_mid trivial ⟨rfl, rfl, rfl, rfl, rfl, rfl, rfl, rfl, rfl, rfl, rfl, fb (by first | (simp only [h68, h69, h70, Bool.true_and, Bool.false_and, Bool.true_or, Bool.false_or, Bool.and_true, Bool.and_false, Bool.or_true, Bool.or_false, Bool.not_true, Bool.not_false, cond_true, cond_false, if_true, if_false, reduceIte, Bool.false_eq_true]; done) | simp [h68, h69, h70]), trivial⟩ .slnil)
    ·have g70 := h70; try simp only [decide_eq_true_eq, decide_eq_false_iff_not] at g70
     have f70 := h70; try simp at f70
     refine wl_on rfl rfl h70 (wl_v (o_move rfl) rfl (wl_on rfl rfl h70 (wl_v (o_move rfl) rfl (wl_on rfl rfl h70 (wl_v (o_index_b yu9 rfl rfl (by first | omega | exact len_pos (by assumption)) (by first | omega | exact len_pos (by assumption))) rfl (wl_on rfl rfl h70 (wl_v (o_gt rfl rfl) rfl (wl_v (o_pick_f rfl h70 rfl) rfl (wl_nil ?_)))))))))
     exact wk_then (wk_mid trivial ⟨rfl, rfl, rfl, rfl, rfl, rfl, rfl, rfl, rfl, rfl, rfl, fb (by first | (simp only [h68, h69, h70, Bool.true_and, Bool.false_and, Bool.true_or, Bool.false_or, Bool.and_true, Bool.and_false, Bool.or_true, Bool.or_false, Bool.not_true, Bool.not_false, cond_true, cond_false, if_true, if_false, reduceIte, Bool.false_eq_true]; done) | simp [h68, h69, h70]), trivial⟩ .slnil)
   refine wc_cond (b := ((decide ((bat dg (k : Int)) < (48))) || (decide ((57) < (bat dg (k : Int)))))) rfl (fun h72 => ?_) (fun h72 => ?_)
   ·have g72 := h72; try simp only [decide_eq_true_eq, decide_eq_false_iff_not] at g72
    have f72 := h72; try simp at f72
    refine wc_seq (wc_region (wl_v (o_assign rfl) rfl (wl_nil (wk_then (wc_of_wk ?_)))))
    refine wc_ret (wk_in_ret (wk_then_ret (wk_then_ret (wk_in_ret (wk_then_ret (wk_ret (r_1 rfl rfl) ?_))))))
    exact retv (by simp [decS, hdg, dig_no hi0 g69 h72])
   ·have g72 := h72; try simp only [decide_eq_true_eq, decide_eq_false_iff_not] at g72
    have f72 := h72; try simp at f72
    refine wc_skip (wk_in_norm (wk_then (wc_of_wk ?_)))
    refine wc_region (wl_v (o_add rfl rfl (IntWalk.i64_in _ (by omega))) rfl (wl_v (o_move rfl) rfl (wl_nil (wk_then (wk_some (k + 1) ?_ ⟨fi (by first | rfl | (simp; done) | omega | (simp; omega)), rfl, rfl, trivial⟩ .slnil)))))
    exact dig_next hi0 g69 h72
  ·have g69 := h69; try simp only [decide_eq_true_eq, decide_eq_false_iff_not] at g69
   have f69 := h69; try simp at f69
   refine wc_exit (wk_then_exit (wk_then_exit (wk_in_hit (wk_then (wc_of_wk ?_)))))
   refine wc_seq (wc_region (wl_v (o_assign rfl) rfl (wl_nil (wk_then (wc_of_wk ?_)))))
   refine wc_ret (wk_ret (r_1 rfl rfl) ?_)
   exact retv (by simp only [decS, hdg, h68, dig_yes hi0 g69]; rfl)

theorem format_c (m : Int) (h0 : -9223372036854775808 ≤ m) (h1 : m ≤ 9223372036854775807) (w : World) (hE : Env w) : Calls Tryz.prog 45 [.int .i64 (m)].toArray w (RetV w (.string (B (Lib.itoa m)))) := by
 refine enter0 (n := 5) Tryz.func45 rfl Tryz.ntmps45 rfl (wc_seq (wc_region (wl_v (o_assign rfl) rfl (wl_nil (wk_then (wc_of_wk ?_))))))
 refine wc_seq (wc_region (wl_v (o_move rfl) rfl (w_call Tryz.call71 rfl (fun w hw => itoa_c m (by omega) (by omega) w (hE.st0 hw)) rfl (wl_v (o_assign rfl) rfl (wl_nil (wk_then (wc_of_wk ?_)))))))
 refine wc_ret (wk_ret (r_1 rfl rfl) ?_)
 exact retv (by first | rfl | simp [])

theorem parse_c (p : List UInt8) (hp : p.length ≤ 281474976710656) (w : World) (hE : Env w) : Calls Tryz.prog 29 [.string (B (p))].toArray w (RetV w (.tuple #[.int .i64 (parseV p), .int .i64 (parseE p)])) := by
 refine enter0 (n := 22) Tryz.func29 rfl Tryz.ntmps29 rfl (wc_seq (wc_region (wl_v (o_assign rfl) rfl (wl_v (o_assign rfl) rfl (wl_nil (wk_then (wc_of_wk ?_)))))))
 refine wc_seq (wc_seq (wc_region (wl_v (o_move rfl) rfl (w_call Tryz.call57 rfl (fun w hw => decimal_c p (by first | omega | (simp; done) | (simp; omega) | (simp at *; omega)) w) rfl (wl_v (o_not rfl) rfl (wl_nil (wk_then (wc_of_wk ?_))))))))
 refine wc_cond (b := !(decS p)) rfl (fun h73 => ?_) (fun h73 => ?_)
 ·have g73 := h73; try simp only [decide_eq_true_eq, decide_eq_false_iff_not] at g73
  have f73 := h73; try simp only [decide_eq_true_eq, decide_eq_false_iff_not, Bool.and_eq_true, Bool.or_eq_true, Bool.not_eq_true', Bool.not_eq_false', Bool.and_eq_false_iff, Bool.or_eq_false_iff, not_or, Int.not_lt, Int.not_le] at f73
  refine wc_seq (wc_region (wl_v (o_assign rfl) rfl (wl_v (o_assign rfl) rfl (wl_nil (wk_then (wc_of_wk ?_))))))
  refine wc_ret (wk_then_ret (wk_ret (r_2 rfl rfl rfl) ?_))
  exact retv (by simp [parseV, parseE, f73])
 ·have g73 := h73; try simp only [decide_eq_true_eq, decide_eq_false_iff_not] at g73
  have f73 := h73; try simp only [decide_eq_true_eq, decide_eq_false_iff_not, Bool.and_eq_true, Bool.or_eq_true, Bool.not_eq_true', Bool.not_eq_false', Bool.and_eq_false_iff, Bool.or_eq_false_iff, not_or, Int.not_lt, Int.not_le] at f73
  refine wc_skip (wk_then (wc_of_wk ?_))
  refine wc_seq (wc_region (wl_v (o_move rfl) rfl ?_))
  rcases atoi_dec (p := p) (by assumption) with ⟨av, hav, hal, hah⟩ | hav
  ·refine w_call Tryz.call58 rfl (fun w _ => atoi_ok p (by first | omega | (simp; done) | (simp; omega) | (simp at *; omega)) av hav w) rfl (wl_v (o_move rfl) rfl (wl_v (o_extract rfl rfl) rfl (wl_v (o_extract rfl rfl) rfl (wl_v (o_assign rfl) rfl (wl_v (o_assign rfl) rfl (wl_nil (wk_then (wc_of_wk ?_))))))))
   refine wc_seq (wc_seq_mid [(2, .int .i64 (0)), (3, .int .i64 (0)), (4, .int .i64 (av)), (20, .bool (!(validS av)))] [] (φ := True) ?_ (fun hm73 => ?_))
   ·exact wc_region (wl_v (o_move rfl) rfl (wl_v (o_if_ne_nil Tryz.underlying66 rfl) rfl (wl_v (o_move rfl) rfl (wl_on rfl rfl rfl (wl_v (o_move rfl) rfl (wl_on rfl rfl rfl (w_call Tryz.call59 rfl (fun w hw => valid_c av w) rfl (wl_on rfl rfl rfl (wl_v (o_not rfl) rfl (wl_v (o_pick_f rfl rfl rfl) rfl (wl_nil (wk_then (wk_mid trivial ⟨rfl, rfl, rfl, rfl, trivial⟩ .slnil)))))))))))))
   refine wc_cond (b := !(validS av)) rfl (fun h75 => ?_) (fun h75 => ?_)
   ·have g75 := h75; try simp only [decide_eq_true_eq, decide_eq_false_iff_not] at g75
    have f75 := h75; try simp only [decide_eq_true_eq, decide_eq_false_iff_not, Bool.and_eq_true, Bool.or_eq_true, Bool.not_eq_true', Bool.not_eq_false', Bool.and_eq_false_iff, Bool.or_eq_false_iff, not_or, Int.not_lt, Int.not_le] at f75
    refine wc_seq (wc_region (wl_v (o_assign rfl) rfl (wl_v (o_assign rfl) rfl (wl_nil (wk_then (wc_of_wk ?_))))))
    refine wc_ret (wk_then_ret (wk_ret (r_2 rfl rfl rfl) ?_))
    exact retv (by simp [parseV, parseE, hav, f73, f75])
   ·have g75 := h75; try simp only [decide_eq_true_eq, decide_eq_false_iff_not] at g75
    have f75 := h75; try simp only [decide_eq_true_eq, decide_eq_false_iff_not, Bool.and_eq_true, Bool.or_eq_true, Bool.not_eq_true', Bool.not_eq_false', Bool.and_eq_false_iff, Bool.or_eq_false_iff, not_or, Int.not_lt, Int.not_le] at f75
    refine wc_skip (wk_then (wc_of_wk ?_))
    refine wc_seq (wc_region (wl_v (o_move rfl) rfl (wl_v (o_assign rfl) rfl (wl_v (o_assign rfl) rfl (wl_nil (wk_then (wc_of_wk ?_)))))))
    refine wc_ret (wk_ret (r_2 rfl rfl rfl) ?_)
    exact retv (by simp [parseV, parseE, hav, f73, f75])
  ·refine w_callM Tryz.call58 rfl (fun w hw => atoi_range p (by first | omega | (simp; done) | (simp; omega) | (simp at *; omega)) hav w (hE.st0 hw)) rfl ?_
   rintro _ _ ⟨am, at_, ab, rfl, rfl⟩
   refine wl_v (o_move rfl) rfl (wl_v (o_extract rfl rfl) rfl (wl_v (o_extract rfl rfl) rfl (wl_v (o_assign rfl) rfl (wl_v (o_assign rfl) rfl (wl_nil (wk_then (wc_of_wk ?_)))))))
   refine wc_seq (wc_seq_mid [(2, .int .i64 (0)), (3, .int .i64 (0)), (4, .int .i64 (am)), (20, .bool (true))] [] (φ := True) ?_ (fun hm75 => ?_))
   ·exact wc_region (wl_v (o_move rfl) rfl (wl_v (o_if_ne Tryz.underlying66 rfl) rfl (wl_v (o_move rfl) rfl (wl_off rfl rfl rfl rfl (wl_off rfl rfl rfl rfl (wl_off rfl rfl rfl rfl (wl_v (o_pick_t rfl rfl rfl) rfl (wl_nil (wk_then (wk_mid trivial ⟨rfl, rfl, rfl, rfl, trivial⟩ .slnil))))))))))
   refine wc_cond_t rfl rfl (wc_seq (wc_region (wl_v (o_assign rfl) rfl (wl_v (o_assign rfl) rfl (wl_nil (wk_then (wc_of_wk ?_)))))))
   refine wc_ret (wk_then_ret (wk_ret (r_2 rfl rfl rfl) ?_))
   exact retv (by simp [parseV, parseE, hav, f73])

theorem last0_c (p : List UInt8) (m : Int) (hp : p.length ≤ 281474976710656) (w : World) : Calls Tryz.prog 92 [.string (B (p)), .int .u8 (m)].toArray w (RetV w (.int .i64 (lastB p m))) := by
 refine enter0 (n := 19) Tryz.func92 rfl Tryz.ntmps92 rfl (wc_seq (wc_region (wl_v (o_assign rfl) rfl (wl_nil (wk_then (wc_of_wk ?_))))))
 refine wc_seq (wc_seq (wc_region (wl_v (o_move rfl) rfl (wl_v (o_len_s yu9 rfl) rfl (wl_v (o_sub rfl rfl (IntWalk.i64_in _ (by omega))) rfl (wl_v (o_assign rfl) rfl (wl_nil (wk_then (wc_of_wk ?_)))))))))
 refine wc_block (wc_loop (S := Nat) (fun (k : Nat) => k ≤ p.length ∧ lastB p m = lastIx p m k) (fun (k : Nat) => [(5, .int .i64 ((k : Int) - 1)), (0, .string (B (p))), (1, .int .u8 (m))]) (fun (k : Nat) => []) (fun (k : Nat) => k) (p.length) ?_ ⟨fi (by first | rfl | (simp; done) | omega | (simp; omega)), rfl, rfl, trivial⟩ .slnil ?_)
 ·exact ⟨Nat.le_refl _, rfl⟩
 rintro k hi0
 refine wc_seq (wc_seq (wc_region (wl_v (o_move rfl) rfl (wl_v (o_ge rfl rfl) rfl (wl_nil (wk_then (wc_of_wk ?_)))))))
 refine wc_cond (b := decide ((0) ≤ ((k : Int) - 1))) rfl (fun h77 => ?_) (fun h77 => ?_)
 ·have g77 := h77; try simp only [decide_eq_true_eq, decide_eq_false_iff_not] at g77
  have f77 := h77; try simp at f77
  refine wc_skip (wk_then (wc_of_wk ?_))
  refine wc_seq (wc_block (wc_seq (wc_region (wl_v (o_move rfl) rfl (wl_v (o_move rfl) rfl (wl_v (o_index_b yu9 rfl rfl (by first | omega | (simp; omega) | (simp at *; omega)) (by first | omega | (simp; omega) | (simp at *; omega))) rfl (wl_v (o_move rfl) rfl (wl_v (o_eq rfl rfl) rfl (wl_nil (wk_then (wc_of_wk ?_)))))))))))
  refine wc_cond (b := decide ((bat p ((k : Int) - 1)) = (m))) rfl (fun h78 => ?_) (fun h78 => ?_)
  ·have g78 := h78; try simp only [decide_eq_true_eq, decide_eq_false_iff_not] at g78
   have f78 := h78; try simp at f78
   refine wc_seq (wc_region (wl_v (o_move rfl) rfl (wl_v (o_assign rfl) rfl (wl_nil (wk_then (wc_of_wk ?_))))))
   refine wc_ret (wk_in_ret (wk_then_ret (wk_then_ret (wk_in_ret (wk_then_ret (wk_ret (r_1 rfl rfl) ?_))))))
   exact retv (by rw [← last_hit hi0 g77 g78])
  ·have g78 := h78; try simp only [decide_eq_true_eq, decide_eq_false_iff_not] at g78
   have f78 := h78; try simp at f78
   refine wc_skip (wk_in_norm (wk_then (wc_of_wk ?_)))
   refine wc_region (wl_v (o_move rfl) rfl (wl_v (o_sub rfl rfl (IntWalk.i64_in _ (by omega))) rfl (wl_v (o_assign rfl) rfl (wl_nil (wk_then (wk_some (k - 1) ?_ ⟨fi (by first | rfl | (simp; done) | omega | (simp; omega)), rfl, rfl, trivial⟩ .slnil))))))
   exact last_next hi0 g77 g78
 ·have g77 := h77; try simp only [decide_eq_true_eq, decide_eq_false_iff_not] at g77
  have f77 := h77; try simp at f77
  refine wc_exit (wk_then_exit (wk_then_exit (wk_in_hit (wk_then (wc_of_wk ?_)))))
  refine wc_seq (wc_region (wl_v (o_assign rfl) rfl (wl_nil (wk_then (wc_of_wk ?_)))))
  refine wc_ret (wk_ret (r_1 rfl rfl) ?_)
  exact retv (by rw [← last_end hi0 g77])

theorem last_c (p : List UInt8) (m : Int) (hp : p.length ≤ 281474976710656) (w : World) : Calls Tryz.prog 67 [.string (B (p)), .int .u8 (m)].toArray w (RetV w (.int .i64 (lastB p m))) := by
 refine enter0 (n := 8) Tryz.func67 rfl Tryz.ntmps67 rfl (wc_seq (wc_region (wl_v (o_assign rfl) rfl (wl_nil (wk_then (wc_of_wk ?_))))))
 refine wc_seq (wc_region (wl_v (o_move rfl) rfl (wl_v (o_move rfl) rfl (w_call Tryz.call92 rfl (fun w hw => last0_c p m (by first | omega | (simp; done) | (simp; omega) | (simp at *; omega)) w) rfl (wl_v (o_assign rfl) rfl (wl_nil (wk_then (wc_of_wk ?_))))))))
 refine wc_ret (wk_ret (r_1 rfl rfl) ?_)
 exact retv (by first | rfl | simp [])

theorem child_c (p : List UInt8) (m : Int) (hp : p.length ≤ 281474976710656) (w : World) (hE : Env w) : Calls Tryz.prog 37 [.string (B (p)), .int .i64 (m)].toArray w (RetV w (.tuple #[.string (B (childV p m)), .int .i64 (childE p m)])) := by
 refine enter0 (n := 25) Tryz.func37 rfl Tryz.ntmps37 rfl (wc_seq (wc_region (wl_v (o_assign rfl) rfl (wl_v (o_assign rfl) rfl (wl_nil (wk_then (wc_of_wk ?_)))))))
 refine wc_seq (wc_seq (wc_region (wl_v (o_move rfl) rfl (w_call yk40 rfl (fun w hw => id_c p w) rfl (wl_v (o_not rfl) rfl (wl_nil (wk_then (wc_of_wk ?_))))))))
 refine wc_cond (b := !(idS p)) rfl (fun h79 => ?_) (fun h79 => ?_)
 ·have g79 := h79; try simp only [decide_eq_true_eq, decide_eq_false_iff_not] at g79
  have f79 := h79; try simp at f79
  refine wc_seq (wc_region (wl_v (o_assign rfl) rfl (wl_v (o_assign rfl) rfl (wl_nil (wk_then (wc_of_wk ?_))))))
  refine wc_ret (wk_then_ret (wk_ret (r_2 rfl rfl rfl) ?_))
  have e : childE p m = 4 := by simp only [childE, childL]; grind
  exact retv (by simp [childV, e, childL, B])
 ·have g79 := h79; try simp only [decide_eq_true_eq, decide_eq_false_iff_not] at g79
  have f79 := h79; try simp at f79
  refine wc_skip (wk_then (wc_of_wk ?_))
  refine wc_seq (wc_seq_mid [(0, .string (B (p))), (1, .int .i64 (m)), (4, .string (B ([]))), (5, .int .i64 (0)), (15, .bool (((decide ((m) < (0))) || (decide ((1000000000000) < (m))))))] [] (φ := True) ?_ (fun hm80 => ?_))
  ·refine wc_region (wl_v (o_move rfl) rfl (wl_v (o_lt rfl rfl) rfl (wl_v (o_move rfl) rfl (bsplit (decide ((m) < (0))) (fun h80 => ?_) (fun h80 => ?_)))))
   ·have g80 := h80; try simp only [decide_eq_true_eq, decide_eq_false_iff_not] at g80
    have f80 := h80; try simp at f80
    refine wl_off rfl rfl h80 rfl (wl_off rfl rfl h80 rfl (wl_v (o_pick_t rfl h80 rfl) rfl (wl_nil ?_)))
    exact wk_then (wk_mid trivial ⟨rfl, rfl, rfl, rfl, fb (by first | (simp only [h79, h80, Bool.true_and, Bool.false_and, Bool.true_or, Bool.false_or, Bool.and_true, Bool.and_false, Bool.or_true, Bool.or_false, Bool.not_true, Bool.not_false, cond_true, cond_false, if_true, if_false, reduceIte, Bool.false_eq_true]; done) | simp [h79, h80]), trivial⟩ .slnil)
   ·have g80 := h80; try simp only [decide_eq_true_eq, decide_eq_false_iff_not] at g80
    have f80 := h80; try simp at f80
    refine wl_on rfl rfl h80 (wl_v (o_move rfl) rfl (wl_on rfl rfl h80 (wl_v (o_gt rfl rfl) rfl (wl_v (o_pick_f rfl h80 rfl) rfl (wl_nil ?_)))))
    exact wk_then (wk_mid trivial ⟨rfl, rfl, rfl, rfl, fb (by first | (simp only [h79, h80, Bool.true_and, Bool.false_and, Bool.true_or, Bool.false_or, Bool.and_true, Bool.and_false, Bool.or_true, Bool.or_false, Bool.not_true, Bool.not_false, cond_true, cond_false, if_true, if_false, reduceIte, Bool.false_eq_true]; done) | simp [h79, h80]), trivial⟩ .slnil)
  refine wc_cond (b := ((decide ((m) < (0))) || (decide ((1000000000000) < (m))))) rfl (fun h82 => ?_) (fun h82 => ?_)
  ·have g82 := h82; try simp only [decide_eq_true_eq, decide_eq_false_iff_not] at g82
   have f82 := h82; try simp at f82
   refine wc_seq (wc_region (wl_v (o_assign rfl) rfl (wl_v (o_assign rfl) rfl (wl_nil (wk_then (wc_of_wk ?_))))))
   refine wc_ret (wk_then_ret (wk_ret (r_2 rfl rfl rfl) ?_))
   have e : childE p m = 2 := by simp only [childE, childL]; grind
   exact retv (by simp [childV, e, childL, B])
  ·have g82 := h82; try simp only [decide_eq_true_eq, decide_eq_false_iff_not] at g82
   have f82 := h82; try simp at f82
   refine wc_skip (wk_then (wc_of_wk ?_))
   refine wc_seq (wc_region (wl_v (o_move rfl) rfl (wl_v (o_sadd rfl rfl (by simp; omega)) rfl (wl_v (o_move rfl) rfl (w_call Tryz.call45 rfl (fun w hw => format_c m (by omega) (by omega) w (hE.st0 hw)) rfl ?_)))))
   have ft83 := itoa_len m (by omega) (by omega)
   refine wl_v (o_sadd rfl rfl (by simp; omega)) rfl (wl_v (o_assign rfl) rfl (wl_nil (wk_then (wc_of_wk ?_))))
   refine wc_seq (wc_seq (wc_region (wl_v (o_move rfl) rfl (wl_v (o_len_s yu9 rfl) rfl (wl_v (o_gt rfl rfl) rfl (wl_nil (wk_then (wc_of_wk ?_))))))))
   refine wc_cond (b := decide ((64) < ((((p ++ [46]) ++ (Lib.itoa m)).length : Int)))) rfl (fun h84 => ?_) (fun h84 => ?_)
   ·have g84 := h84; try simp only [decide_eq_true_eq, decide_eq_false_iff_not] at g84
    have f84 := h84; try simp at f84
    refine wc_seq (wc_region (wl_v (o_assign rfl) rfl (wl_v (o_assign rfl) rfl (wl_nil (wk_then (wc_of_wk ?_))))))
    refine wc_ret (wk_then_ret (wk_ret (r_2 rfl rfl rfl) ?_))
    have e : childE p m = 3 := by simp only [childE, childL]; grind
    exact retv (by simp [childV, e, childL, B])
   ·have g84 := h84; try simp only [decide_eq_true_eq, decide_eq_false_iff_not] at g84
    have f84 := h84; try simp at f84
    refine wc_skip (wk_then (wc_of_wk ?_))
    refine wc_seq (wc_region (wl_v (o_move rfl) rfl (wl_v (o_assign rfl) rfl (wl_v (o_assign rfl) rfl (wl_nil (wk_then (wc_of_wk ?_)))))))
    refine wc_ret (wk_ret (r_2 rfl rfl rfl) ?_)
    have e : childE p m = 0 := by simp only [childE, childL]; grind
    exact retv (by simp [childV, e, childL, B])

theorem parent_c (p : List UInt8) (hp : p.length ≤ 281474976710656) (w : World) (hE : Env w) : Calls Tryz.prog 41 [.string (B (p))].toArray w (RetV w (.tuple #[.string (B (iff0 (parOk p) (parP p))), .int .i64 ((if parOk p = true then parseV (parN p) else (0 : Int))), .bool (parOk p)])) := by
 refine enter0 (n := 43) Tryz.func41 rfl Tryz.ntmps41 rfl (wc_seq (wc_region (wl_v (o_assign rfl) rfl (wl_v (o_assign rfl) rfl (wl_v (o_assign rfl) rfl (wl_nil (wk_then (wc_of_wk ?_))))))))
 refine wc_seq (wc_region (wl_v (o_move rfl) rfl (w_call Tryz.call67 rfl (fun w hw => last_c p (46 : Int) (by first | omega | (simp; done) | (simp; omega) | (simp at *; omega)) w) rfl ?_)))
 have ft85 := lastB_bd p 46
 refine wl_v (o_assign rfl) rfl (wl_nil (wk_then (wc_of_wk ?_)))
 refine wc_seq (wc_seq (wc_region (wl_v (o_move rfl) rfl (wl_v (o_lt rfl rfl) rfl (wl_nil (wk_then (wc_of_wk ?_)))))))
 refine wc_cond (b := decide ((lastB p 46) < (0))) rfl (fun h86 => ?_) (fun h86 => ?_)
 ·have g86 := h86; try simp only [decide_eq_true_eq, decide_eq_false_iff_not] at g86
  have f86 := h86; try simp at f86
  refine wc_seq (wc_region (wl_v (o_assign rfl) rfl (wl_v (o_assign rfl) rfl (wl_v (o_assign rfl) rfl (wl_nil (wk_then (wc_of_wk ?_)))))))
  refine wc_ret (wk_then_ret (wk_ret (r_3 rfl rfl rfl rfl) ?_))
  have hr : parOk p = false := by simp only [parOk, parP, parN]; grind
  exact retv (by simp only [hr, iff0, parP, parN]; rfl)
 ·have g86 := h86; try simp only [decide_eq_true_eq, decide_eq_false_iff_not] at g86
  have f86 := h86; try simp at f86
  refine wc_skip (wk_then (wc_of_wk ?_))
  refine wc_seq (wc_region (wl_v (o_move rfl) rfl (wl_v (o_move rfl) rfl (wl_v (o_add rfl rfl (IntWalk.i64_in _ (by omega))) rfl (wl_v (o_slice_lo yu9 rfl rfl (by first | omega | (simp; omega)) (by first | omega | (simp; omega))) rfl (w_call Tryz.call29 rfl (fun w hw => parse_c (List.drop (Int.toNat ((lastB p 46) + 1)) p) (by first | omega | (simp; done) | (simp; omega) | (simp at *; omega)) w (hE.st0 hw)) rfl ?_))))))
  have ft87 := parse_bd (List.drop (Int.toNat ((lastB p 46) + 1)) p)
  refine wl_v (o_move rfl) rfl (wl_v (o_extract rfl rfl) rfl (wl_v (o_extract rfl rfl) rfl (wl_v (o_assign rfl) rfl (wl_v (o_assign rfl) rfl (wl_nil (wk_then (wc_of_wk ?_)))))))
  refine wc_seq (wc_seq (wc_region (wl_v (o_move rfl) rfl (wl_v (o_ne rfl rfl) rfl (wl_nil (wk_then (wc_of_wk ?_)))))))
  refine wc_cond (b := !(decide ((parseE (List.drop (Int.toNat ((lastB p 46) + 1)) p)) = (0)))) rfl (fun h88 => ?_) (fun h88 => ?_)
  ·have g88 := h88; try simp only [decide_eq_true_eq, decide_eq_false_iff_not] at g88
   have f88 := h88; try simp at f88
   refine wc_seq (wc_region (wl_v (o_assign rfl) rfl (wl_v (o_assign rfl) rfl (wl_v (o_assign rfl) rfl (wl_nil (wk_then (wc_of_wk ?_)))))))
   refine wc_ret (wk_then_ret (wk_ret (r_3 rfl rfl rfl rfl) ?_))
   have hr : parOk p = false := by simp only [parOk, parP, parN]; grind
   exact retv (by simp only [hr, iff0, parP, parN]; rfl)
  ·have g88 := h88; try simp only [decide_eq_true_eq, decide_eq_false_iff_not] at g88
   have f88 := h88; try simp at f88
   refine wc_skip (wk_then (wc_of_wk ?_))
   refine wc_seq (wc_seq (wc_region (wl_v (o_move rfl) rfl (wl_v (o_move rfl) rfl (wl_v (o_slice_hi yu9 rfl rfl (by first | omega | (simp; omega)) (by first | omega | (simp; omega))) rfl (wl_v (o_move rfl) rfl (w_call Tryz.call37 rfl (fun w hw => child_c (List.take (Int.toNat (lastB p 46)) p) (parseV (List.drop (Int.toNat ((lastB p 46) + 1)) p)) (by first | omega | (simp; done) | (simp; omega) | (simp at *; omega) | (split <;> first | omega | (simp; omega))) w (hE.st0 hw)) rfl ?_)))))))
   have ft89 := childV_len (List.take (Int.toNat (lastB p 46)) p) (parseV (List.drop (Int.toNat ((lastB p 46) + 1)) p))
   refine wl_v (o_move rfl) rfl (wl_v (o_extract rfl rfl) rfl (wl_v (o_extract rfl rfl) rfl (wl_v (o_assign rfl) rfl (wl_v (o_assign rfl) rfl (wl_nil (wk_then (wc_of_wk ?_)))))))
   refine wc_seq_mid [(0, .string (B (p))), (2, .string (B ([]))), (3, .int .i64 (0)), (4, .bool (false)), (5, .int .i64 (lastB p 46)), (6, .int .i64 (parseV (List.drop (Int.toNat ((lastB p 46) + 1)) p))), (38, .bool (((!(decide ((childE (List.take (Int.toNat (lastB p 46)) p) (parseV (List.drop (Int.toNat ((lastB p 46) + 1)) p))) = (0)))) || (!(decide (((childV (List.take (Int.toNat (lastB p 46)) p) (parseV (List.drop (Int.toNat ((lastB p 46) + 1)) p)))) = (p)))))))] [] (φ := True) ?_ (fun hm90 => ?_)
   ·refine wc_region (wl_v (o_move rfl) rfl (wl_v (o_ne rfl rfl) rfl (wl_v (o_move rfl) rfl (bsplit (!(decide ((childE (List.take (Int.toNat (lastB p 46)) p) (parseV (List.drop (Int.toNat ((lastB p 46) + 1)) p))) = (0)))) (fun h90 => ?_) (fun h90 => ?_)))))
    ·have g90 := h90; try simp only [decide_eq_true_eq, decide_eq_false_iff_not] at g90
     have f90 := h90; try simp at f90
     refine wl_off rfl rfl h90 rfl (wl_off rfl rfl h90 rfl (wl_off rfl rfl h90 rfl (wl_v (o_pick_t rfl h90 rfl) rfl (wl_nil ?_))))
     exact wk_then (wk_mid trivial ⟨rfl, rfl, rfl, rfl, rfl, rfl, fb (by first | (simp only [h86, h88, h90, Bool.true_and, Bool.false_and, Bool.true_or, Bool.false_or, Bool.and_true, Bool.and_false, Bool.or_true, Bool.or_false, Bool.not_true, Bool.not_false, cond_true, cond_false, if_true, if_false, reduceIte, Bool.false_eq_true]; done) | simp [h86, h88, h90]), trivial⟩ .slnil)
    ·have g90 := h90; try simp only [decide_eq_true_eq, decide_eq_false_iff_not] at g90
     have f90 := h90; try simp at f90
     refine wl_on rfl rfl h90 (wl_v (o_move rfl) rfl (wl_on rfl rfl h90 (wl_v (o_move rfl) rfl (wl_on rfl rfl h90 (wl_v (o_sne rfl rfl) rfl (wl_v (o_pick_f rfl h90 rfl) rfl (wl_nil ?_)))))))
     exact wk_then (wk_mid trivial ⟨rfl, rfl, rfl, rfl, rfl, rfl, fb (by first | (simp only [h86, h88, h90, Bool.true_and, Bool.false_and, Bool.true_or, Bool.false_or, Bool.and_true, Bool.and_false, Bool.or_true, Bool.or_false, Bool.not_true, Bool.not_false, cond_true, cond_false, if_true, if_false, reduceIte, Bool.false_eq_true]; done) | simp [h86, h88, h90]), trivial⟩ .slnil)
   refine wc_cond (b := ((!(decide ((childE (List.take (Int.toNat (lastB p 46)) p) (parseV (List.drop (Int.toNat ((lastB p 46) + 1)) p))) = (0)))) || (!(decide (((childV (List.take (Int.toNat (lastB p 46)) p) (parseV (List.drop (Int.toNat ((lastB p 46) + 1)) p)))) = (p)))))) rfl (fun h92 => ?_) (fun h92 => ?_)
   ·have g92 := h92; try simp only [decide_eq_true_eq, decide_eq_false_iff_not] at g92
    have f92 := h92; try simp at f92
    refine wc_seq (wc_region (wl_v (o_assign rfl) rfl (wl_v (o_assign rfl) rfl (wl_v (o_assign rfl) rfl (wl_nil (wk_then (wc_of_wk ?_)))))))
    refine wc_ret (wk_then_ret (wk_ret (r_3 rfl rfl rfl rfl) ?_))
    have hr : parOk p = false := by simp only [parOk, parP, parN]; grind
    exact retv (by simp only [hr, iff0, parP, parN]; rfl)
   ·have g92 := h92; try simp only [decide_eq_true_eq, decide_eq_false_iff_not] at g92
    have f92 := h92; try simp at f92
    refine wc_skip (wk_then (wc_of_wk ?_))
    refine wc_seq (wc_region (wl_v (o_move rfl) rfl (wl_v (o_move rfl) rfl (wl_v (o_slice_hi yu9 rfl rfl (by first | omega | (simp; omega)) (by first | omega | (simp; omega))) rfl (wl_v (o_move rfl) rfl (wl_v (o_assign rfl) rfl (wl_v (o_assign rfl) rfl (wl_v (o_assign rfl) rfl (wl_nil (wk_then (wc_of_wk ?_)))))))))))
    refine wc_ret (wk_ret (r_3 rfl rfl rfl rfl) ?_)
    have hr : parOk p = true := by simp only [parOk, parP, parN]; grind
    exact retv (by simp only [hr, iff0, parP, parN]; rfl)

end Go.Proofs.YtpmiamphppcfeaaGreatDoor

/-
 Contracts of the library at this translation, in plain words (lay-plain.mjs), those that are used here.
-/
namespace Go.Proofs
open Go.Shelf
def Tryz.lays169_ren : Go.Shelf.Ren := ⟨fun | 169 => 70 | n => n, fun | 70 => 79 | 9 => 9 | 0 => 0 | 72 => 82 | 37 => 80 | 127 => 105 | 3 => 3 | 5 => 5 | n => n, fun | n => n⟩

theorem Tryz.lays169 : Go.Proofs.Lays.n169 Tryz.prog Tryz.lays169_ren := {
 mixed := by kernel_rfl
 f169 := Tryz.func70.trans (congrArg some (by kernel_rfl))
 t0 := Tryz.underlying0
 a0 := Tryz.isAgg0
 z0 := Tryz.sizeOf0
 v0 := Tryz.zeroValue0
 t3 := Tryz.underlying3
 a3 := Tryz.isAgg3
 z3 := Tryz.sizeOf3
 v3 := Tryz.zeroValue3
 t9 := Tryz.underlying9
 a9 := Tryz.isAgg9
 z9 := Tryz.sizeOf9
 v9 := Tryz.zeroValue9
 t37 := Tryz.underlying80
 a37 := Tryz.isAgg80
 z37 := Tryz.sizeOf80
 v37 := Tryz.zeroValue80
 t70 := Tryz.underlying79
 a70 := Tryz.isAgg79
 z70 := Tryz.sizeOf79
 v70 := Tryz.zeroValue79
 t72 := Tryz.underlying82
 a72 := Tryz.isAgg82
 z72 := Tryz.sizeOf82
 v72 := Tryz.zeroValue82
 t127 := Tryz.underlying105
 a127 := Tryz.isAgg105
 z127 := Tryz.sizeOf105
 v127 := Tryz.zeroValue105 }

theorem Tryz.Builder_Extra_169 : Builder.Extra Tryz.prog Tryz.lays169_ren := {
 sizeBuilder := by kernel_rfl
 liesBuilder := by kernel_rfl
 t5 := Tryz.underlying5
 a5 := Tryz.isAgg5
 z5 := Tryz.sizeOf5
 v5 := Tryz.zeroValue5
 infoByte := by kernel_rfl
 cellsByte := by kernel_rfl
 sizeByte := by kernel_rfl
 neB5 := by decide }

open Go.RowKit in
theorem Tryz.Builder_String_any (B b : Nat) (l : List UInt8) (w : World) (h : Lib.IsBuilder 82 5 B b (Lib.byteCells l) w) (hBw : B ≤ w.heap.size) :
  Calls Tryz.prog 70 #[.pointer (some ⟨b, 0, none⟩)] w fun e w' => e = .returned (.string ⟨l.toArray⟩) ∧ Below B w w' := Any.Builder_String_any Tryz.lays169 Tryz.Builder_Extra_169 B b l w h hBw

def Tryz.lays106_ren : Go.Shelf.Ren := ⟨fun | 106 => 36 | 213 => 65 | 265 => 89 | n => n, fun | 9 => 9 | 3 => 3 | n => n, fun | n => n⟩

theorem Tryz.lays106 : Go.Proofs.Lays.n106 Tryz.prog Tryz.lays106_ren := {
 mixed := by kernel_rfl
 f106 := Tryz.func36.trans (congrArg some (by kernel_rfl))
 f213 := Tryz.func65.trans (congrArg some (by kernel_rfl))
 f265 := Tryz.func89.trans (congrArg some (by kernel_rfl))
 t3 := Tryz.underlying3
 a3 := Tryz.isAgg3
 z3 := Tryz.sizeOf3
 v3 := Tryz.zeroValue3
 t9 := Tryz.underlying9
 a9 := Tryz.isAgg9
 z9 := Tryz.sizeOf9
 v9 := Tryz.zeroValue9 }

open Go.RowKit in
theorem Tryz.strings_Compare (a b : ByteArray) (w : World) :
  Calls Tryz.prog 36 #[.string a, .string b] w fun e w' => e = .returned (.int .i64 (Lib.compareBytes a.data.toList b.data.toList)) ∧ w' = w := Any.strings_Compare Tryz.lays106 a b w

def Tryz.lays138_ren : Go.Shelf.Ren := ⟨fun | 138 => 133 | 195 => 145 | 218 => 146 | 143 => 147 | 219 => 152 | 217 => 153 | 225 => 154 | 224 => 155 | 267 => 156 | 266 => 157 | 314 => 158 | n => n, fun | 9 => 9 | 3 => 3 | 4 => 4 | 5 => 5 | 0 => 0 | 46 => 64 | 146 => 135 | 51 => 134 | n => n, fun | 1 => 0 | n => n⟩

theorem Tryz.lays138 : Go.Proofs.Lays.n138 Tryz.prog Tryz.lays138_ren := {
 mixed := by kernel_rfl
 f138 := Tryz.func133.trans (congrArg some (by kernel_rfl))
 f143 := Tryz.func147.trans (congrArg some (by kernel_rfl))
 f195 := Tryz.func145.trans (congrArg some (by kernel_rfl))
 f217 := Tryz.func153.trans (congrArg some (by kernel_rfl))
 f218 := Tryz.func146.trans (congrArg some (by kernel_rfl))
 f219 := Tryz.func152.trans (congrArg some (by kernel_rfl))
 f224 := Tryz.func155.trans (congrArg some (by kernel_rfl))
 f225 := Tryz.func154.trans (congrArg some (by kernel_rfl))
 f266 := Tryz.func157.trans (congrArg some (by kernel_rfl))
 f267 := Tryz.func156.trans (congrArg some (by kernel_rfl))
 f314 := Tryz.func158.trans (congrArg some (by kernel_rfl))
 t0 := Tryz.underlying0
 a0 := Tryz.isAgg0
 z0 := Tryz.sizeOf0
 v0 := Tryz.zeroValue0
 t3 := Tryz.underlying3
 a3 := Tryz.isAgg3
 z3 := Tryz.sizeOf3
 v3 := Tryz.zeroValue3
 t4 := Tryz.underlying4
 a4 := Tryz.isAgg4
 z4 := Tryz.sizeOf4
 v4 := Tryz.zeroValue4
 t5 := Tryz.underlying5
 a5 := Tryz.isAgg5
 z5 := Tryz.sizeOf5
 v5 := Tryz.zeroValue5
 t9 := Tryz.underlying9
 a9 := Tryz.isAgg9
 z9 := Tryz.sizeOf9
 v9 := Tryz.zeroValue9
 t46 := Tryz.underlying64
 a46 := Tryz.isAgg64
 z46 := Tryz.sizeOf64
 v46 := Tryz.zeroValue64
 t51 := Tryz.underlying134
 a51 := Tryz.isAgg134
 z51 := Tryz.sizeOf134
 v51 := Tryz.zeroValue134
 t146 := Tryz.underlying135
 a146 := Tryz.isAgg135
 z146 := Tryz.sizeOf135
 v146 := Tryz.zeroValue135
 g1 := by kernel_rfl }

open Go.RowKit Go.Lib in
theorem Tryz.strings_Count_one (s : ByteArray) (c : UInt8) (w : World) :
  Calls Tryz.prog 133 #[.string s, .string ⟨#[c]⟩] w fun e w' => e = .returned (.int .i64 (Lib.countByte s.data.toList c)) ∧ w' = w := Any.strings_Count_one Tryz.lays138 s c w
end Go.Proofs

/-
 The plain laws of ident: a reference's parts come back, a child's parent comes back, what covers covers. No program in sight.
-/
namespace Go.Proofs.YtpmiamphppcfeaaGreatDoor
open Go
set_option linter.unusedVariables false
set_option linter.unusedSimpArgs false
/-! ### Cuts -/
theorem all_mem {f : Nat → UInt8 → Bool} : ∀ {l : List UInt8} {i : Nat}, allFrom f i l = true → ∀ u ∈ l, ∃ j, f j u = true
 | [], _, _, u, hu => by simp at hu
 | x :: r, i, h, u, hu => by
  simp only [allFrom, Bool.and_eq_true] at h
  rcases List.mem_cons.1 hu with rfl | hu
  ·exact ⟨i, h.1⟩
  ·exact all_mem h.2 u hu
/-! ### Numerals -/
/-! ### Children -/
/-! ### Patterns -/
end Go.Proofs.YtpmiamphppcfeaaGreatDoor

/-
 The reference's ways to the plain functions of ident. No program in sight.
-/
namespace Go.Proofs.YtpmiamphppcfeaaGreatDoor
open Go
set_option linter.unusedVariables false
set_option linter.unusedSimpArgs false
/-! ### Visits of bytes, one after the other -/
theorem at_next {f : Nat → UInt8 → Bool} {t : Int → Bool} {p : List UInt8} {k : Nat} (hf : ∀ u : UInt8, f k u = t u.toNat) {c : Bool} (hi : k ≤ p.length ∧ c = allFrom f k (p.drop k)) (h : (k : Int) < p.length) (ht : t (bat p k) = true) :
  k + 1 ≤ p.length ∧ c = allFrom f (k + 1) (p.drop (k + 1)) := by
 obtain ⟨u, hu⟩ := get_of_lt h
 rw [bat_of hu] at ht
 have hk : k < p.length := by omega
 refine ⟨by omega, ?_⟩
 rw [hi.2, drop_cons hu]; simp [allFrom, hf, ht]
theorem at_no {f : Nat → UInt8 → Bool} {t : Int → Bool} {p : List UInt8} {k : Nat} (hf : ∀ u : UInt8, f k u = t u.toNat) {c : Bool} (hi : k ≤ p.length ∧ c = allFrom f k (p.drop k)) (h : (k : Int) < p.length) (ht : t (bat p k) = false) : c = false := by
 obtain ⟨u, hu⟩ := get_of_lt h
 rw [bat_of hu] at ht
 rw [hi.2, drop_cons hu]; simp [allFrom, hf, ht]
theorem at_end {f : Nat → UInt8 → Bool} {p : List UInt8} {k : Nat} {c : Bool} (hi : k ≤ p.length ∧ c = allFrom f k (p.drop k)) (h : ¬ (k : Int) < p.length) : c = true := by
 rw [hi.2, List.drop_of_length_le (by omega)]; rfl
/-! ### Name -/
/-! ### ID -/
theorem idCh_any (k : Nat) (u : UInt8) : idCh k u = letterS u.toNat := rfl
theorem idR_0 {p : List UInt8} (h : (decide ((p.length : Int) < 1) || decide ((64 : Int) < p.length)) = false) : idS p = allFrom idCh 0 p := by
 simp only [Bool.or_eq_false_iff, decide_eq_false_iff_not] at h
 have h1 : 1 ≤ p.length := by omega
 have h2 : p.length ≤ 64 := by omega
 simp [idS, h1, h2]
theorem idR_no {p : List UInt8} (h : (decide ((p.length : Int) < 1) || decide ((64 : Int) < p.length)) = true) : idS p = false := by
 simp only [Bool.or_eq_true, decide_eq_true_eq] at h
 simp [idS]; omega
/-! ### Pattern -/
/-! ### Matches, Covers -/
/-! ### faasref01.form, faasref01.Parse -/
theorem form_no1 {p : List UInt8} (h : sgnS p = true) (h2 : bat (p.drop 1) 0 = 48) : decS p = false := by
 have hd : digs p = p.drop 1 := by simp [digs, h]
 have hp : p ≠ [48] := by rintro rfl; revert h; decide
 unfold decS
 rw [hd, h2]
 simp [hp]
theorem form_no2 {p dg : List UInt8} (hdg : digs p = dg) (h : (decide ((dg.length : Int) = 0) || (decide ((1 : Int) < dg.length) && decide (bat dg 0 = 48))) = true) : decS p = false := by
 simp only [Bool.or_eq_true, decide_eq_true_eq, Bool.and_eq_true] at h
 rcases h with h | ⟨h, h2⟩
 ·have : dg = [] := List.eq_nil_of_length_eq_zero (by omega)
  simp [decS, hdg, this]
 ·have hp : p ≠ [48] := by rintro rfl; have := digs_len [48]; rw [hdg] at this; simp at this; omega
  simp [decS, hdg, h2, hp]
theorem form_yes {p dg : List UInt8} (hdg : digs p = dg) (h0 : sgnS p = true → ¬ ((0 : Int) < dg.length ∧ bat dg 0 = 48)) (h : (decide ((dg.length : Int) = 0) || (decide ((1 : Int) < dg.length) && decide (bat dg 0 = 48))) = false) (ha : allFrom digCh 0 dg = true) : decS p = true := by
 simp only [Bool.or_eq_false_iff, decide_eq_false_iff_not, Bool.and_eq_false_iff] at h
 have hne : dg ≠ [] := by rintro rfl; exact h.1 rfl
 have hpos := len_pos hne
 simp only [decS, hdg, ha, Bool.and_true, Bool.not_eq_true', Bool.or_eq_false_iff, decide_eq_false_iff_not, hne, not_false_eq_true, true_and, Bool.and_eq_false_iff, Bool.not_eq_false', decide_eq_true_eq]
 by_cases h48 : bat dg 0 = 48
 ·right
  cases hs : sgnS p
  ·have hd : dg = p := by rw [← hdg]; simp [digs, hs]
   subst hd
   have hl : dg.length = 1 := by rcases h.2 with h | h <;> omega
   match dg, hl with
   | [u], _ =>
    have : (u.toNat : Int) = 48 := h48
    rw [show u = 48 from UInt8.toNat_inj.1 (by simpa using (by omega : u.toNat = 48))]
  ·exact absurd ⟨hpos, h48⟩ (h0 hs)
 ·exact .inl h48
def runP : Nat → List UInt8 → Option Nat
 | n, [] => some n
 | n, u :: r => if u.toNat = 45 then runP n r else if 1000000000000 < 10 * n + (u.toNat - 48) then none else runP (10 * n + (u.toNat - 48)) r
theorem dec_byte {p : List UInt8} (h : decS p = true) {k : Nat} (hk : (k : Int) < p.length) (h45 : ¬ bat p k = 45) : 48 ≤ bat p k ∧ bat p k ≤ 57 := by
 simp only [decS, Bool.and_eq_true] at h
 obtain ⟨u, hu⟩ := get_of_lt hk
 rw [bat_of hu] at h45 ⊢
 have key : u ∈ digs p := by
  have hm := List.mem_of_getElem? hu
  unfold digs
  split
  ·rename_i hs
   cases p with
   | nil => simp at hm
   | cons c r =>
    rcases List.mem_cons.1 hm with rfl | hm
    ·simp only [sgnS, Bool.and_eq_true, decide_eq_true_eq] at hs
     exact absurd hs.2 h45
    ·simpa using hm
  ·exact hm
 obtain ⟨j, hj⟩ := all_mem h.2 u key
 simp [digCh] at hj; omega
def digB (l : List UInt8) : Prop := ∀ u ∈ l, 48 ≤ u.toNat ∧ u.toNat ≤ 57
theorem digB_of {l : List UInt8} (h : allFrom digCh 0 l = true) : digB l := fun u hu => by
 obtain ⟨j, hj⟩ := all_mem h u hu
 simp [digCh] at hj; omega
theorem pu_big : ∀ (l : List UInt8) (acc : Nat), digB l → 1000000000000 < acc → Lib.parseUint10 acc l = .range ∨ ∃ u, Lib.parseUint10 acc l = .ok u ∧ 1000000000000 < u
 | [], acc, _, h => .inr ⟨acc, rfl, h⟩
 | c :: r, acc, hd, h => by
  have hc := hd c (by simp)
  unfold Lib.parseUint10
  rw [if_pos hc]
  split
  ·exact .inl rfl
  ·split
   ·exact .inl rfl
   ·exact pu_big r _ (fun u hu => hd u (by simp [hu])) (by omega)
theorem pu_run : ∀ (l : List UInt8) (acc : Nat), digB l → acc ≤ 1000000000000 → (∃ u, runP acc l = some u ∧ Lib.parseUint10 acc l = .ok u ∧ u ≤ 1000000000000) ∨ (runP acc l = none ∧ (Lib.parseUint10 acc l = .range ∨ ∃ u, Lib.parseUint10 acc l = .ok u ∧ 1000000000000 < u))
 | [], acc, _, h => .inl ⟨acc, rfl, rfl, h⟩
 | c :: r, acc, hd, h => by
  have hc := hd c (by simp)
  have hr : digB r := fun u hu => hd u (by simp [hu])
  have e1 : Lib.parseUint10 acc (c :: r) = Lib.parseUint10 (acc * 10 + (c.toNat - 48)) r := by
   conv => lhs; unfold Lib.parseUint10
   rw [if_pos hc, if_neg (by omega), if_neg (by omega)]
  have e2 : runP acc (c :: r) = if 1000000000000 < acc * 10 + (c.toNat - 48) then none else runP (acc * 10 + (c.toNat - 48)) r := by
   conv => lhs; unfold runP
   rw [if_neg (by omega), show 10 * acc + (c.toNat - 48) = acc * 10 + (c.toNat - 48) from by omega]
  rw [e1, e2]
  by_cases hb : 1000000000000 < acc * 10 + (c.toNat - 48)
  ·rw [if_pos hb]
   exact .inr ⟨rfl, pu_big r _ hr hb⟩
  ·rw [if_neg hb]
   exact pu_run r _ hr (by omega)
theorem run_digs {p : List UInt8} : runP 0 p = runP 0 (digs p) := by
 unfold digs
 split
 ·rename_i hs
  cases p with
  | nil => rfl
  | cons c r =>
   simp only [sgnS, Bool.and_eq_true, decide_eq_true_eq] at hs
   have : c.toNat = 45 := by have := hs.2; simp [bat] at this; omega
   simp [runP, this]
 ·rfl
theorem parse_run {p : List UInt8} (h : decS p = true) : (∀ u, runP 0 p = some u → parseE p = 0 ∧ parseV p = if sgnS p = true then -(u : Int) else u) ∧ (runP 0 p = none → parseE p = 2 ∧ parseV p = 0) := by
 have h' := h
 simp only [decS, Bool.and_eq_true, Bool.not_eq_true', Bool.or_eq_false_iff, decide_eq_false_iff_not] at h'
 obtain ⟨⟨hne, _⟩, hall⟩ := h'
 have hrun := pu_run (digs p) 0 (digB_of hall) (by omega)
 have hmag : Lib.parseMag (digs p) = Lib.parseUint10 0 (digs p) := by unfold Lib.parseMag; rw [if_neg hne]
 have hat : Lib.atoiAll p = if sgnS p = true then Lib.signed (Lib.parseUint10 0 (digs p)) else Lib.signless (Lib.parseUint10 0 (digs p)) := by
  cases p with
  | nil => simp [digs, sgnS] at hne
  | cons c r =>
   cases hs : sgnS (c :: r)
   ·have hd : digs (c :: r) = c :: r := by simp [digs, hs]
    rw [hd] at hall hmag ⊢
    have hc := digB_of hall c (by simp)
    rw [Lib.atoiAll_plain c r (by omega) (by omega), hmag]; simp
   ·have hc : c = 45 := by
     simp only [sgnS, Bool.and_eq_true, decide_eq_true_eq] at hs
     exact UInt8.toNat_inj.1 (by have := hs.2; simp [bat] at this; simpa using (by omega : c.toNat = 45))
    subst hc
    have hd : digs (45 :: r) = r := by simp [digs, hs]
    rw [hd] at hmag ⊢
    rw [Lib.atoiAll_minus, hmag]; simp
 rw [run_digs]
 have hbig : ∀ u : Nat, 1000000000000 < u → ∀ v : Int, (v = u ∨ v = -(u : Int)) → validS v = false := fun u hu v hv => by
  rcases hv with rfl | rfl <;> simp [validS] <;> omega
 constructor
 ·intro u hu
  rcases hrun with ⟨u', h1, h2, h3⟩ | ⟨h1, _⟩
  ·rw [hu] at h1; cases h1
   rw [h2] at hat
   simp only [parseE, parseV, h, if_true, hat]
   cases sgnS p
   ·have hv : validS (u : Int) = true := by simp [validS]; omega
    simp only [Bool.false_eq_true, if_false, Lib.signless]
    rw [if_neg (by omega)]; simp [hv]
   ·have hv : validS (-(u : Int)) = true := by simp [validS]; omega
    simp only [if_true, Lib.signed]
    rw [if_neg (by omega)]; simp [hv]
  ·rw [hu] at h1; cases h1
 ·intro hn
  rcases hrun with ⟨u', h1, h2, h3⟩ | ⟨_, h1⟩
  ·rw [hn] at h1; cases h1
  ·simp only [parseE, parseV, h, if_true, hat]
   rcases h1 with h1 | ⟨u, h1, h2⟩
   ·rw [h1]; cases sgnS p <;> simp [Lib.signed, Lib.signless]
   ·rw [h1]
    cases sgnS p
    ·simp only [Bool.false_eq_true, if_false, Lib.signless]
     by_cases h9 : 9223372036854775808 ≤ u <;> simp [h9, hbig u h2 _ (.inl rfl)]
    ·simp only [if_true, Lib.signed]
     by_cases h9 : 9223372036854775808 < u <;> simp [h9, hbig u h2 _ (.inr rfl)]
theorem run_skip {p : List UInt8} {k n : Nat} (hk : (k : Int) < p.length) (hi : runP 0 p = runP n (p.drop k)) (h : bat p k = 45) : runP 0 p = runP n (p.drop (k + 1)) := by
 obtain ⟨u, hu⟩ := get_of_lt hk
 rw [bat_of hu] at h
 rw [hi, drop_cons hu, runP, if_pos (by omega)]
theorem run_go {p : List UInt8} {k n : Nat} (hd : decS p = true) (hk : (k : Int) < p.length) (hi : runP 0 p = runP n (p.drop k)) (h : ¬ bat p k = 45) (hle : ¬ (1000000000000 : Int) < 10 * (n : Int) + (bat p k - 48)) :
  (10 * (n : Int) + (bat p k - 48)) = ((10 * n + (bat p k - 48).toNat : Nat) : Int) ∧ runP 0 p = runP (10 * n + (bat p k - 48).toNat) (p.drop (k + 1)) ∧ 10 * n + (bat p k - 48).toNat ≤ 1000000000000 := by
 have hb := dec_byte hd hk h
 obtain ⟨u, hu⟩ := get_of_lt hk
 rw [bat_of hu] at h hle hb ⊢
 have e : ((u.toNat : Int) - 48).toNat = u.toNat - 48 := by omega
 refine ⟨by omega, ?_, by omega⟩
 rw [hi, drop_cons hu, runP, if_neg (by omega), if_neg (by omega), e]
theorem run_stop {p : List UInt8} {k n : Nat} (hd : decS p = true) (hk : (k : Int) < p.length) (hi : runP 0 p = runP n (p.drop k)) (h : ¬ bat p k = 45) (hle : (1000000000000 : Int) < 10 * (n : Int) + (bat p k - 48)) : runP 0 p = none := by
 have hb := dec_byte hd hk h
 obtain ⟨u, hu⟩ := get_of_lt hk
 rw [bat_of hu] at h hle hb
 rw [hi, drop_cons hu, runP, if_neg (by omega), if_pos (by omega)]
theorem run_next {p : List UInt8} {k n : Nat} (hd : decS p = true) (hk : (k : Int) < p.length) (hi : runP 0 p = runP n (p.drop k)) (hn : n ≤ 1000000000000) (h : bat p k = 45 ∨ ¬ (1000000000000 : Int) < 10 * (n : Int) + (bat p k - 48)) :
  ∃ n1 : Nat, (if decide (bat p k = 45) = true then (n : Int) else 10 * (n : Int) + (bat p k - 48)) = (n1 : Int) ∧ runP 0 p = runP n1 (p.drop (k + 1)) ∧ n1 ≤ 1000000000000 := by
 by_cases h45 : bat p k = 45
 ·exact ⟨n, by simp [h45], run_skip hk hi h45, hn⟩
 ·have hle := h.resolve_left h45
  obtain ⟨a, b, c⟩ := run_go hd hk hi h45 hle
  exact ⟨_, by rw [if_neg (by simpa using h45)]; exact a, b, c⟩
theorem run_end {p : List UInt8} {k n : Nat} (hi : runP 0 p = runP n (p.drop k)) (h : ¬ (k : Int) < p.length) : runP 0 p = some n := by
 rw [hi, List.drop_of_length_le (by omega)]; rfl
/-! ### find, ParseRef -/
/-! ### faasref01.Format -/
/-! ### Parent -/
end Go.Proofs.YtpmiamphppcfeaaGreatDoor

/-
 Quotients and remainders. Plain theorems over any program; no condition.
-/
namespace Go.Proofs.YtpmiamphppcfeaaGreatDoor
open Go Go.RowKit
set_option linter.unusedVariables false
section
variable {P : Program} {n : Nat} {w0 : World} {M : List Nat} {l : Fr} {H : List Ent} {d : Option Nat} {x y : Operand} {ty t t' : TypeId} {pos : String} {af : Array Edge} {g : Option (Nat × Bool)} {k : IntKind} {p q z : Int}
end
end Go.Proofs.YtpmiamphppcfeaaGreatDoor

/-
 Walks, printed by a small program of ours (gsym.py).
-/
namespace Go.Proofs.YtpmiamphppcfeaaGreatDoor
open Go Go.RowKit
set_option linter.unusedVariables false
set_option linter.unusedSimpArgs false
set_option maxRecDepth 100000
theorem id_r (p : List UInt8) (hp : p.length ≤ 281474976710656) (w : World) : Calls Tryz.prog 42 [.string (B (p))].toArray w (RetV w (.bool (idS p))) := by
 refine enter0 (n := 23) Tryz.func42 rfl Tryz.ntmps42 rfl (wc_seq (wc_region (wl_v (o_assign rfl) rfl (wl_nil (wk_then (wc_of_wk ?_))))))
 refine wc_seq (wc_seq_mid [(0, .string (B (p))), (2, .bool (false)), (11, .bool (((decide (((p.length : Int)) < (1))) || (decide ((64) < ((p.length : Int)))))))] [] (φ := True) ?_ (fun hm93 => ?_))
 ·refine wc_region (wl_v (o_move rfl) rfl (wl_v (o_len_s yu9 rfl) rfl (wl_v (o_lt rfl rfl) rfl (wl_v (o_move rfl) rfl (bsplit (decide (((p.length : Int)) < (1))) (fun h93 => ?_) (fun h93 => ?_))))))
  ·have g93 := h93; try simp only [decide_eq_true_eq, decide_eq_false_iff_not] at g93
   have f93 := h93; try simp at f93
   refine wl_off rfl rfl h93 rfl (wl_off rfl rfl h93 rfl (wl_off rfl rfl h93 rfl (wl_v (o_pick_t rfl h93 rfl) rfl (wl_nil ?_))))
   exact wk_then (wk_mid trivial ⟨rfl, rfl, fb (by first | (simp only [h93, Bool.true_and, Bool.false_and, Bool.true_or, Bool.false_or, Bool.and_true, Bool.and_false, Bool.or_true, Bool.or_false, Bool.not_true, Bool.not_false, cond_true, cond_false, if_true, if_false, reduceIte, Bool.false_eq_true]; done) | simp [h93]), trivial⟩ .slnil)
  ·have g93 := h93; try simp only [decide_eq_true_eq, decide_eq_false_iff_not] at g93
   have f93 := h93; try simp at f93
   refine wl_on rfl rfl h93 (wl_v (o_move rfl) rfl (wl_on rfl rfl h93 (wl_v (o_len_s yu9 rfl) rfl (wl_on rfl rfl h93 (wl_v (o_gt rfl rfl) rfl (wl_v (o_pick_f rfl h93 rfl) rfl (wl_nil ?_)))))))
   exact wk_then (wk_mid trivial ⟨rfl, rfl, fb (by first | (simp only [h93, Bool.true_and, Bool.false_and, Bool.true_or, Bool.false_or, Bool.and_true, Bool.and_false, Bool.or_true, Bool.or_false, Bool.not_true, Bool.not_false, cond_true, cond_false, if_true, if_false, reduceIte, Bool.false_eq_true]; done) | simp [h93]), trivial⟩ .slnil)
 refine wc_cond (b := ((decide (((p.length : Int)) < (1))) || (decide ((64) < ((p.length : Int)))))) rfl (fun h95 => ?_) (fun h95 => ?_)
 ·have g95 := h95; try simp only [decide_eq_true_eq, decide_eq_false_iff_not] at g95
  have f95 := h95; try simp at f95
  refine wc_seq (wc_region (wl_v (o_assign rfl) rfl (wl_nil (wk_then (wc_of_wk ?_)))))
  refine wc_ret (wk_then_ret (wk_ret (r_1 rfl rfl) ?_))
  exact retv (by rw [idR_no h95])
 ·have g95 := h95; try simp only [decide_eq_true_eq, decide_eq_false_iff_not] at g95
  have f95 := h95; try simp at f95
  refine wc_skip (wk_then (wc_of_wk ?_))
  refine wc_seq (wc_seq (wc_region (wl_v (o_assign rfl) rfl (wl_nil (wk_then (wc_of_wk ?_))))))
  refine wc_block (wc_loop (S := Nat) (fun (k : Nat) => k ≤ p.length ∧ idS p = allFrom idCh k (p.drop k)) (fun (k : Nat) => [(3, .int .i64 ((k : Int))), (0, .string (B (p)))]) (fun (k : Nat) => []) (fun (k : Nat) => p.length - k) (0) ?_ ⟨fi (by first | rfl | (simp; done) | omega | (simp; omega)), rfl, trivial⟩ .slnil ?_)
  ·exact ⟨Nat.zero_le _, idR_0 h95⟩
  rintro k hi0
  refine wc_seq (wc_seq (wc_region (wl_v (o_move rfl) rfl (wl_v (o_move rfl) rfl (wl_v (o_len_s yu9 rfl) rfl (wl_v (o_lt rfl rfl) rfl (wl_nil (wk_then (wc_of_wk ?_)))))))))
  refine wc_cond (b := decide (((k : Int)) < ((p.length : Int)))) rfl (fun h96 => ?_) (fun h96 => ?_)
  ·have g96 := h96; try simp only [decide_eq_true_eq, decide_eq_false_iff_not] at g96
   have f96 := h96; try simp at f96
   refine wc_skip (wk_then (wc_of_wk ?_))
   refine wc_seq (wc_block (wc_seq (wc_region (wl_v (o_move rfl) rfl (wl_v (o_move rfl) rfl (wl_v (o_index_b yu9 rfl rfl (by first | omega | (simp; omega) | (simp at *; omega)) (by first | omega | (simp; omega) | (simp at *; omega))) rfl (w_call Tryz.call68 rfl (fun w hw => part_r (bat p (k : Int)) w) rfl (wl_v (o_not rfl) rfl (wl_nil (wk_then (wc_of_wk ?_)))))))))))
   refine wc_cond (b := !(letterS (bat p (k : Int)))) rfl (fun h97 => ?_) (fun h97 => ?_)
   ·have g97 := h97; try simp only [decide_eq_true_eq, decide_eq_false_iff_not] at g97
    have f97 := h97; try simp only [decide_eq_true_eq, decide_eq_false_iff_not, Bool.and_eq_true, Bool.or_eq_true, Bool.not_eq_true', Bool.not_eq_false', Bool.and_eq_false_iff, Bool.or_eq_false_iff, not_or, Int.not_lt, Int.not_le] at f97
    refine wc_seq (wc_region (wl_v (o_assign rfl) rfl (wl_nil (wk_then (wc_of_wk ?_)))))
    refine wc_ret (wk_in_ret (wk_then_ret (wk_then_ret (wk_in_ret (wk_then_ret (wk_ret (r_1 rfl rfl) ?_))))))
    exact retv (by rw [at_no (idCh_any k) hi0 g96 f97])
   ·have g97 := h97; try simp only [decide_eq_true_eq, decide_eq_false_iff_not] at g97
    have f97 := h97; try simp only [decide_eq_true_eq, decide_eq_false_iff_not, Bool.and_eq_true, Bool.or_eq_true, Bool.not_eq_true', Bool.not_eq_false', Bool.and_eq_false_iff, Bool.or_eq_false_iff, not_or, Int.not_lt, Int.not_le] at f97
    refine wc_skip (wk_in_norm (wk_then (wc_of_wk ?_)))
    refine wc_region (wl_v (o_move rfl) rfl (wl_v (o_add rfl rfl (IntWalk.i64_in _ (by omega))) rfl (wl_v (o_assign rfl) rfl (wl_nil (wk_then (wk_some (k + 1) ?_ ⟨fi (by first | rfl | (simp; done) | omega | (simp; omega)), rfl, trivial⟩ .slnil))))))
    exact ⟨at_next (idCh_any k) hi0 g96 f97, by omega⟩
  ·have g96 := h96; try simp only [decide_eq_true_eq, decide_eq_false_iff_not] at g96
   have f96 := h96; try simp at f96
   refine wc_exit (wk_then_exit (wk_then_exit (wk_in_hit (wk_then (wc_of_wk ?_)))))
   refine wc_seq (wc_region (wl_v (o_assign rfl) rfl (wl_nil (wk_then (wc_of_wk ?_)))))
   refine wc_ret (wk_ret (r_1 rfl rfl) ?_)
   exact retv (by rw [at_end hi0 g96])

theorem form_r (p : List UInt8) (hp : p.length ≤ 281474976710656) (w : World) : Calls Tryz.prog 62 [.string (B (p))].toArray w (RetV w (.bool (decS p))) := by
 refine enter0 (n := 53) Tryz.func62 rfl Tryz.ntmps62 rfl (wc_seq (wc_region (wl_v (o_assign rfl) rfl (wl_nil (wk_then (wc_of_wk ?_))))))
 refine wc_seq (wc_region (wl_v (o_move rfl) rfl (wl_v (o_assign rfl) rfl (wl_nil (wk_then (wc_of_wk ?_))))))
 refine wc_seq_mid [(2, .bool (false)), (3, .string (B ((if ((decide ((0) < ((p.length : Int)))) && (decide ((bat p 0) = (45)))) = true then List.drop (Int.toNat (1)) p else p))))] [] (φ := (!((decide ((0) < ((p.length : Int)))) && (decide ((bat p 0) = (45)))) || (!(((decide ((0) < (((List.drop (Int.toNat (1)) p).length : Int)))) && (decide ((bat (List.drop (Int.toNat (1)) p) 0) = (48))))))) = true) ?_ (fun hm103 => ?_)
 ·refine wc_seq_mid [(2, .bool (false)), (3, .string (B (p))), (13, .bool (((decide ((0) < ((p.length : Int)))) && (decide ((bat p 0) = (45))))))] [] (φ := True) ?_ (fun hm98 => ?_)
  ·refine wc_region (wl_v (o_move rfl) rfl (wl_v (o_len_s yu9 rfl) rfl (wl_v (o_gt rfl rfl) rfl (wl_v (o_move rfl) rfl (bsplit (decide ((0) < ((p.length : Int)))) (fun h98 => ?_) (fun h98 => ?_))))))
   ·have g98 := h98; try simp only [decide_eq_true_eq, decide_eq_false_iff_not] at g98
    have f98 := h98; try simp at f98
    refine wl_on rfl rfl h98 (wl_v (o_move rfl) rfl (wl_on rfl rfl h98 (wl_v (o_index_b yu9 rfl rfl (by first | omega | (simp; omega) | (simp at *; omega) | exact len_pos (by assumption)) (by first | omega | (simp; omega) | (simp at *; omega) | exact len_pos (by assumption))) rfl (wl_on rfl rfl h98 (wl_v (o_eq rfl rfl) rfl (wl_v (o_pick_t rfl h98 rfl) rfl (wl_nil ?_)))))))
    exact wk_then (wk_mid trivial ⟨rfl, rfl, fb (by first | (simp only [h98, Bool.true_and, Bool.false_and, Bool.true_or, Bool.false_or, Bool.and_true, Bool.and_false, Bool.or_true, Bool.or_false, Bool.not_true, Bool.not_false, cond_true, cond_false, if_true, if_false, reduceIte, Bool.false_eq_true]; done) | simp [h98]), trivial⟩ .slnil)
   ·have g98 := h98; try simp only [decide_eq_true_eq, decide_eq_false_iff_not] at g98
    have f98 := h98; try simp at f98
    refine wl_off rfl rfl h98 rfl (wl_off rfl rfl h98 rfl (wl_off rfl rfl h98 rfl (wl_v (o_pick_f rfl h98 rfl) rfl (wl_nil ?_))))
    exact wk_then (wk_mid trivial ⟨rfl, rfl, fb (by first | (simp only [h98, Bool.true_and, Bool.false_and, Bool.true_or, Bool.false_or, Bool.and_true, Bool.and_false, Bool.or_true, Bool.or_false, Bool.not_true, Bool.not_false, cond_true, cond_false, if_true, if_false, reduceIte, Bool.false_eq_true]; done) | simp [h98]), trivial⟩ .slnil)
  refine wc_cond (b := ((decide ((0) < ((p.length : Int)))) && (decide ((bat p 0) = (45))))) rfl (fun h100 => ?_) (fun h100 => ?_)
  ·have g100 := h100; try simp only [decide_eq_true_eq, decide_eq_false_iff_not] at g100
   have f100 := h100; try simp at f100
   refine wc_seq (wc_region (wl_v (o_move rfl) rfl (wl_v (o_slice_lo yu9 rfl rfl (by first | omega | (simp; omega)) (by first | omega | (simp; omega))) rfl (wl_v (o_assign rfl) rfl (wl_nil (wk_then (wc_of_wk ?_)))))))
   refine wc_seq_mid [(2, .bool (false)), (3, .string (B (List.drop (Int.toNat (1)) p))), (23, .bool (((decide ((0) < (((List.drop (Int.toNat (1)) p).length : Int)))) && (decide ((bat (List.drop (Int.toNat (1)) p) 0) = (48))))))] [] (φ := True) ?_ (fun hm101 => ?_)
   ·refine wc_region (wl_v (o_move rfl) rfl (wl_v (o_len_s yu9 rfl) rfl (wl_v (o_gt rfl rfl) rfl (wl_v (o_move rfl) rfl (bsplit (decide ((0) < (((List.drop (Int.toNat (1)) p).length : Int)))) (fun h101 => ?_) (fun h101 => ?_))))))
    ·have g101 := h101; try simp only [decide_eq_true_eq, decide_eq_false_iff_not] at g101
     have f101 := h101; try simp at f101
     refine wl_on rfl rfl h101 (wl_v (o_move rfl) rfl (wl_on rfl rfl h101 (wl_v (o_index_b yu9 rfl rfl (by first | omega | (simp; omega) | (simp at *; omega) | exact len_pos (by assumption)) (by first | omega | (simp; omega) | (simp at *; omega) | exact len_pos (by assumption))) rfl (wl_on rfl rfl h101 (wl_v (o_eq rfl rfl) rfl (wl_v (o_pick_t rfl h101 rfl) rfl (wl_nil ?_)))))))
     exact wk_then (wk_mid trivial ⟨rfl, rfl, fb (by first | (simp only [h100, h101, Bool.true_and, Bool.false_and, Bool.true_or, Bool.false_or, Bool.and_true, Bool.and_false, Bool.or_true, Bool.or_false, Bool.not_true, Bool.not_false, cond_true, cond_false, if_true, if_false, reduceIte, Bool.false_eq_true]; done) | simp [h100, h101]), trivial⟩ .slnil)
    ·have g101 := h101; try simp only [decide_eq_true_eq, decide_eq_false_iff_not] at g101
     have f101 := h101; try simp at f101
     refine wl_off rfl rfl h101 rfl (wl_off rfl rfl h101 rfl (wl_off rfl rfl h101 rfl (wl_v (o_pick_f rfl h101 rfl) rfl (wl_nil ?_))))
     exact wk_then (wk_mid trivial ⟨rfl, rfl, fb (by first | (simp only [h100, h101, Bool.true_and, Bool.false_and, Bool.true_or, Bool.false_or, Bool.and_true, Bool.and_false, Bool.or_true, Bool.or_false, Bool.not_true, Bool.not_false, cond_true, cond_false, if_true, if_false, reduceIte, Bool.false_eq_true]; done) | simp [h100, h101]), trivial⟩ .slnil)
   refine wc_cond (b := ((decide ((0) < (((List.drop (Int.toNat (1)) p).length : Int)))) && (decide ((bat (List.drop (Int.toNat (1)) p) 0) = (48))))) rfl (fun h103 => ?_) (fun h103 => ?_)
   ·have g103 := h103; try simp only [decide_eq_true_eq, decide_eq_false_iff_not] at g103
    have f103 := h103; try simp only [decide_eq_true_eq, decide_eq_false_iff_not, Bool.and_eq_true, Bool.or_eq_true, Bool.not_eq_true', Bool.not_eq_false', Bool.and_eq_false_iff, Bool.or_eq_false_iff, not_or, Int.not_lt, Int.not_le] at f103
    refine wc_seq (wc_region (wl_v (o_assign rfl) rfl (wl_nil (wk_then (wc_of_wk ?_)))))
    refine wc_ret (wk_then_ret (wk_ret (r_1 rfl rfl) ?_))
    exact retv (by rw [form_no1 (by simp only [sgnS]; exact h100) (f103).2])
   ·have g103 := h103; try simp only [decide_eq_true_eq, decide_eq_false_iff_not] at g103
    have f103 := h103; try simp only [decide_eq_true_eq, decide_eq_false_iff_not, Bool.and_eq_true, Bool.or_eq_true, Bool.not_eq_true', Bool.not_eq_false', Bool.and_eq_false_iff, Bool.or_eq_false_iff, not_or, Int.not_lt, Int.not_le] at f103
    refine wc_skip ?_
    exact wk_then (wk_mid (by first | (simp only [h100, h103, Bool.true_and, Bool.false_and, Bool.true_or, Bool.false_or, Bool.and_true, Bool.and_false, Bool.or_true, Bool.or_false, Bool.not_true, Bool.not_false, cond_true, cond_false, if_true, if_false, reduceIte, Bool.false_eq_true]; done) | simp [h100, h103]) ⟨rfl, fs (by first | (simp only [h100, h103, Bool.true_and, Bool.false_and, Bool.true_or, Bool.false_or, Bool.and_true, Bool.and_false, Bool.or_true, Bool.or_false, Bool.not_true, Bool.not_false, cond_true, cond_false, if_true, if_false, reduceIte, Bool.false_eq_true]; done) | simp [h100, h103]), trivial⟩ .slnil)
  ·have g100 := h100; try simp only [decide_eq_true_eq, decide_eq_false_iff_not] at g100
   have f100 := h100; try simp at f100
   refine wc_skip ?_
   exact wk_then (wk_mid (by first | (simp only [h100, Bool.true_and, Bool.false_and, Bool.true_or, Bool.false_or, Bool.and_true, Bool.and_false, Bool.or_true, Bool.or_false, Bool.not_true, Bool.not_false, cond_true, cond_false, if_true, if_false, reduceIte, Bool.false_eq_true]; done) | simp [h100]) ⟨rfl, fs (by first | (simp only [h100, Bool.true_and, Bool.false_and, Bool.true_or, Bool.false_or, Bool.and_true, Bool.and_false, Bool.or_true, Bool.or_false, Bool.not_true, Bool.not_false, cond_true, cond_false, if_true, if_false, reduceIte, Bool.false_eq_true]; done) | simp [h100]), trivial⟩ .slnil)
 have g103 := hm103; try simp only [decide_eq_true_eq, decide_eq_false_iff_not] at g103
 have f103 := hm103; try simp only [decide_eq_true_eq, decide_eq_false_iff_not, Bool.and_eq_true, Bool.or_eq_true, Bool.not_eq_true', Bool.not_eq_false', Bool.and_eq_false_iff, Bool.or_eq_false_iff, not_or, Int.not_lt, Int.not_le] at f103
 have hdg : digs p = (if ((decide ((0) < ((p.length : Int)))) && (decide ((bat p 0) = (45)))) = true then List.drop (Int.toNat (1)) p else p) := rfl
 have hdl := digs_len p
 have hform : sgnS p = true → ¬ ((0 : Int) < (digs p).length ∧ bat (digs p) 0 = 48) := by intro hs; rw [show digs p = List.drop 1 p from by simp [digs, hs]]; simp only [sgnS] at hs; intro hx; simp_all; grind
 rw [hdg] at hdl hform
 clear hm103 g103 f103
 generalize (if ((decide ((0) < ((p.length : Int)))) && (decide ((bat p 0) = (45)))) = true then List.drop (Int.toNat (1)) p else p) = dg at hdg hdl hform ⊢
 refine wc_seq (wc_seq_mid [(2, .bool (false)), (3, .string (B (dg))), (36, .bool (((decide (((dg.length : Int)) = (0))) || ((decide ((1) < ((dg.length : Int)))) && (decide ((bat dg 0) = (48)))))))] [] (φ := True) ?_ (fun hm106 => ?_))
 ·refine wc_region (wl_v (o_move rfl) rfl (wl_v (o_len_s yu9 rfl) rfl (wl_v (o_eq rfl rfl) rfl (wl_v (o_move rfl) rfl (bsplit (decide (((dg.length : Int)) = (0))) (fun h105 => ?_) (fun h105 => ?_))))))
  ·have g105 := h105; try simp only [decide_eq_true_eq, decide_eq_false_iff_not] at g105
   have f105 := h105; try simp at f105
   refine wl_off rfl rfl h105 rfl (wl_off rfl rfl h105 rfl (wl_off rfl rfl h105 rfl (wl_off rfl rfl h105 rfl (wl_off_u rfl rfl rfl (wl_off_u rfl rfl rfl (wl_off_u rfl rfl rfl (wl_off rfl rfl h105 rfl (wl_v (o_pick_t rfl h105 rfl) rfl (wl_nil ?_)))))))))
   exact wk_then (wk_mid trivial ⟨rfl, rfl, fb (by first | (simp only [h105, Bool.true_and, Bool.false_and, Bool.true_or, Bool.false_or, Bool.and_true, Bool.and_false, Bool.or_true, Bool.or_false, Bool.not_true, Bool.not_false, cond_true, cond_false, if_true, if_false, reduceIte, Bool.false_eq_true]; done) | simp [h105]), trivial⟩ .slnil)
  ·have g105 := h105; try simp only [decide_eq_true_eq, decide_eq_false_iff_not] at g105
   have f105 := h105; try simp at f105
   refine wl_on rfl rfl h105 (wl_v (o_move rfl) rfl (wl_on rfl rfl h105 (wl_v (o_len_s yu9 rfl) rfl (wl_on rfl rfl h105 (wl_v (o_gt rfl rfl) rfl (wl_on rfl rfl h105 (wl_v (o_move rfl) rfl (bsplit (decide ((1) < ((dg.length : Int)))) (fun h106 => ?_) (fun h106 => ?_)))))))))
   ·have g106 := h106; try simp only [decide_eq_true_eq, decide_eq_false_iff_not] at g106
    have f106 := h106; try simp at f106
    refine wl_on rfl rfl h106 (wl_v (o_move rfl) rfl (wl_on rfl rfl h106 (wl_v (o_index_b yu9 rfl rfl (by first | omega | (simp; omega) | (simp at *; omega) | exact len_pos (by assumption)) (by first | omega | (simp; omega) | (simp at *; omega) | exact len_pos (by assumption))) rfl (wl_on rfl rfl h106 (wl_v (o_eq rfl rfl) rfl (wl_on rfl rfl h105 (wl_v (o_pick_t rfl h106 rfl) rfl (wl_v (o_pick_f rfl h105 rfl) rfl (wl_nil ?_)))))))))
    exact wk_then (wk_mid trivial ⟨rfl, rfl, fb (by first | (simp only [h105, h106, Bool.true_and, Bool.false_and, Bool.true_or, Bool.false_or, Bool.and_true, Bool.and_false, Bool.or_true, Bool.or_false, Bool.not_true, Bool.not_false, cond_true, cond_false, if_true, if_false, reduceIte, Bool.false_eq_true]; done) | simp [h105, h106]), trivial⟩ .slnil)
   ·have g106 := h106; try simp only [decide_eq_true_eq, decide_eq_false_iff_not] at g106
    have f106 := h106; try simp at f106
    refine wl_off rfl rfl h106 rfl (wl_off rfl rfl h106 rfl (wl_off rfl rfl h106 rfl (wl_on rfl rfl h105 (wl_v (o_pick_f rfl h106 rfl) rfl (wl_v (o_pick_f rfl h105 rfl) rfl (wl_nil ?_))))))
    exact wk_then (wk_mid trivial ⟨rfl, rfl, fb (by first | (simp only [h105, h106, Bool.true_and, Bool.false_and, Bool.true_or, Bool.false_or, Bool.and_true, Bool.and_false, Bool.or_true, Bool.or_false, Bool.not_true, Bool.not_false, cond_true, cond_false, if_true, if_false, reduceIte, Bool.false_eq_true]; done) | simp [h105, h106]), trivial⟩ .slnil)
 refine wc_cond (b := ((decide (((dg.length : Int)) = (0))) || ((decide ((1) < ((dg.length : Int)))) && (decide ((bat dg 0) = (48)))))) rfl (fun h108 => ?_) (fun h108 => ?_)
 ·have g108 := h108; try simp only [decide_eq_true_eq, decide_eq_false_iff_not] at g108
  have f108 := h108; try simp at f108
  refine wc_seq (wc_region (wl_v (o_assign rfl) rfl (wl_nil (wk_then (wc_of_wk ?_)))))
  refine wc_ret (wk_then_ret (wk_ret (r_1 rfl rfl) ?_))
  exact retv (by rw [form_no2 hdg h108])
 ·have g108 := h108; try simp only [decide_eq_true_eq, decide_eq_false_iff_not] at g108
  have f108 := h108; try simp at f108
  refine wc_skip (wk_then (wc_of_wk ?_))
  refine wc_seq (wc_seq (wc_region (wl_v (o_move rfl) rfl (wl_v (o_len_s yu9 rfl) rfl (wl_v (o_move rfl) rfl (wl_nil (wk_then (wc_of_wk ?_))))))))
  refine wc_block (wc_loop (S := Nat) (fun (k : Nat) => k ≤ dg.length ∧ allFrom digCh 0 dg = allFrom digCh k (dg.drop k)) (fun (k : Nat) => [(39, .int .i64 ((k : Int))), (3, .string (B (dg))), (38, .int .i64 ((dg.length : Int)))]) (fun (k : Nat) => []) (fun (k : Nat) => dg.length - k) (0) ?_ ⟨fi (by first | rfl | (simp; done) | omega | (simp; omega)), rfl, rfl, trivial⟩ .slnil ?_)
  ·exact ⟨Nat.zero_le _, by simp⟩
  rintro k hi0
  refine wc_seq (wc_region (wl_v (o_lt rfl rfl) rfl (wl_nil (wk_then (wc_of_wk ?_)))))
  refine wc_seq (wc_cond (b := decide (((k : Int)) < ((dg.length : Int)))) rfl (fun h109 => ?_) (fun h109 => ?_))
  ·have g109 := h109; try simp only [decide_eq_true_eq, decide_eq_false_iff_not] at g109
   have f109 := h109; try simp at f109
   refine wc_skip (wk_then (wc_of_wk ?_))
   refine wc_seq (wc_block (wc_seq (wc_region (wl_v (o_move rfl) rfl (wl_v (o_assign rfl) rfl (wl_nil (wk_then (wc_of_wk ?_))))))))
   refine wc_seq_mid [(3, .string (B (dg))), (4, .int .i64 ((k : Int))), (38, .int .i64 ((dg.length : Int))), (39, .int .i64 ((k : Int))), (40, .bool (decide (((k : Int)) < ((dg.length : Int))))), (41, .int .i64 ((k : Int))), (42, .string (B (dg))), (43, .int .i64 ((k : Int))), (44, .int .u8 (bat dg (k : Int))), (45, .bool (decide ((bat dg (k : Int)) < (48)))), (46, .bool (decide ((bat dg (k : Int)) < (48)))), (51, .bool (((decide ((bat dg (k : Int)) < (48))) || (decide ((57) < (bat dg (k : Int)))))))] [] (φ := True) ?_ (fun hm110 => ?_)
   ·refine wc_region (wl_v (o_move rfl) rfl (wl_v (o_move rfl) rfl (wl_v (o_index_b yu9 rfl rfl (by first | omega | (simp; omega) | (simp at *; omega) | exact len_pos (by assumption)) (by first | omega | (simp; omega) | (simp at *; omega) | exact len_pos (by assumption))) rfl (wl_v (o_lt rfl rfl) rfl (wl_v (o_move rfl) rfl (bsplit (decide ((bat dg (k : Int)) < (48))) (fun h110 => ?_) (fun h110 => ?_)))))))
    ·have g110 := h110; try simp only [decide_eq_true_eq, decide_eq_false_iff_not] at g110
     have f110 := h110; try simp at f110
     refine wl_off rfl rfl h110 rfl (wl_off rfl rfl h110 rfl (wl_off rfl rfl h110 rfl (wl_off rfl rfl h110 rfl (wl_v (o_pick_t rfl h110 rfl) rfl (wl_nil ?_)))))
     exact wk_then (wk_mid trivial ⟨rfl, rfl, rfl, rfl, rfl, rfl, rfl, rfl, rfl, rfl, rfl, fb (by first | (simp only [h108, h109, h110, Bool.true_and, Bool.false_and, Bool.true_or, Bool.false_or, Bool.and_true, Bool.and_false, Bool.or_true, Bool.or_false, Bool.not_true, Bool.not_false, cond_true, cond_false, if_true, if_false, reduceIte, Bool.false_eq_true]; done) | simp [h108, h109, h110]), trivial⟩ .slnil)
    ·have g110 := h110; try simp only [decide_eq_true_eq, decide_eq_false_iff_not] at g110
     have f110 := h110; try simp at f110
     refine wl_on rfl rfl h110 (wl_v (o_move rfl) rfl (wl_on rfl rfl h110 (wl_v (o_move rfl) rfl (wl_on rfl rfl h110 (wl_v (o_index_b yu9 rfl rfl (by first | omega | (simp; omega) | (simp at *; omega) | exact len_pos (by assumption)) (by first | omega | (simp; omega) | (simp at *; omega) | exact len_pos (by assumption))) rfl (wl_on rfl rfl h110 (wl_v (o_gt rfl rfl) rfl (wl_v (o_pick_f rfl h110 rfl) rfl (wl_nil ?_)))))))))
     exact wk_then (wk_mid trivial ⟨rfl, rfl, rfl, rfl, rfl, rfl, rfl, rfl, rfl, rfl, rfl, fb (by first | (simp only [h108, h109, h110, Bool.true_and, Bool.false_and, Bool.true_or, Bool.false_or, Bool.and_true, Bool.and_false, Bool.or_true, Bool.or_false, Bool.not_true, Bool.not_false, cond_true, cond_false, if_true, if_false, reduceIte, Bool.false_eq_true]; done) | simp [h108, h109, h110]), trivial⟩ .slnil)
   refine wc_cond (b := ((decide ((bat dg (k : Int)) < (48))) || (decide ((57) < (bat dg (k : Int)))))) rfl (fun h112 => ?_) (fun h112 => ?_)
   ·have g112 := h112; try simp only [decide_eq_true_eq, decide_eq_false_iff_not] at g112
    have f112 := h112; try simp at f112
    refine wc_seq (wc_region (wl_v (o_assign rfl) rfl (wl_nil (wk_then (wc_of_wk ?_)))))
    refine wc_ret (wk_in_ret (wk_then_ret (wk_then_ret (wk_in_ret (wk_then_ret (wk_ret (r_1 rfl rfl) ?_))))))
    exact retv (by simp [decS, hdg, dig_no hi0 g109 h112])
   ·have g112 := h112; try simp only [decide_eq_true_eq, decide_eq_false_iff_not] at g112
    have f112 := h112; try simp at f112
    refine wc_skip (wk_in_norm (wk_then (wc_of_wk ?_)))
    refine wc_region (wl_v (o_add rfl rfl (IntWalk.i64_in _ (by omega))) rfl (wl_v (o_move rfl) rfl (wl_nil (wk_then (wk_some (k + 1) ?_ ⟨fi (by first | rfl | (simp; done) | omega | (simp; omega)), rfl, rfl, trivial⟩ .slnil)))))
    exact dig_next hi0 g109 h112
  ·have g109 := h109; try simp only [decide_eq_true_eq, decide_eq_false_iff_not] at g109
   have f109 := h109; try simp at f109
   refine wc_exit (wk_then_exit (wk_then_exit (wk_in_hit (wk_then (wc_of_wk ?_)))))
   refine wc_seq (wc_region (wl_v (o_assign rfl) rfl (wl_nil (wk_then (wc_of_wk ?_)))))
   refine wc_ret (wk_ret (r_1 rfl rfl) ?_)
   exact retv (by rw [form_yes hdg hform h108 (dig_yes hi0 g109)])

theorem parse_r (p : List UInt8) (hp : p.length ≤ 281474976710656) (w : World) : Calls Tryz.prog 32 [.string (B (p))].toArray w (RetV w (.tuple #[.int .i64 (parseV p), .int .i64 (parseE p)])) := by
 refine enter0 (n := 42) Tryz.func32 rfl Tryz.ntmps32 rfl (wc_seq (wc_region (wl_v (o_assign rfl) rfl (wl_v (o_assign rfl) rfl (wl_nil (wk_then (wc_of_wk ?_)))))))
 refine wc_seq_mid [(0, .string (B (p))), (2, .int .i64 (0)), (3, .int .i64 (0)), (4, .bool (((decide ((0) < ((p.length : Int)))) && (decide ((bat p 0) = (45))))))] [] (φ := True) ?_ (fun hm113 => ?_)
 ·refine wc_region (wl_v (o_move rfl) rfl (wl_v (o_len_s yu9 rfl) rfl (wl_v (o_gt rfl rfl) rfl (wl_v (o_move rfl) rfl (bsplit (decide ((0) < ((p.length : Int)))) (fun h113 => ?_) (fun h113 => ?_))))))
  ·have g113 := h113; try simp only [decide_eq_true_eq, decide_eq_false_iff_not] at g113
   have f113 := h113; try simp at f113
   refine wl_on rfl rfl h113 (wl_v (o_move rfl) rfl (wl_on rfl rfl h113 (wl_v (o_index_b yu9 rfl rfl (by first | omega | (simp; omega) | (simp at *; omega)) (by first | omega | (simp; omega) | (simp at *; omega))) rfl (wl_on rfl rfl h113 (wl_v (o_eq rfl rfl) rfl (wl_v (o_pick_t rfl h113 rfl) rfl (wl_v (o_assign rfl) rfl (wl_nil ?_))))))))
   exact wk_then (wk_mid trivial ⟨rfl, rfl, rfl, fb (by first | (simp only [h113, Bool.true_and, Bool.false_and, Bool.true_or, Bool.false_or, Bool.and_true, Bool.and_false, Bool.or_true, Bool.or_false, Bool.not_true, Bool.not_false, cond_true, cond_false, if_true, if_false, reduceIte, Bool.false_eq_true]; done) | simp [h113]), trivial⟩ .slnil)
  ·have g113 := h113; try simp only [decide_eq_true_eq, decide_eq_false_iff_not] at g113
   have f113 := h113; try simp at f113
   refine wl_off rfl rfl h113 rfl (wl_off rfl rfl h113 rfl (wl_off rfl rfl h113 rfl (wl_v (o_pick_f rfl h113 rfl) rfl (wl_v (o_assign rfl) rfl (wl_nil ?_)))))
   exact wk_then (wk_mid trivial ⟨rfl, rfl, rfl, fb (by first | (simp only [h113, Bool.true_and, Bool.false_and, Bool.true_or, Bool.false_or, Bool.and_true, Bool.and_false, Bool.or_true, Bool.or_false, Bool.not_true, Bool.not_false, cond_true, cond_false, if_true, if_false, reduceIte, Bool.false_eq_true]; done) | simp [h113]), trivial⟩ .slnil)
 refine wc_seq (wc_seq (wc_region (wl_v (o_move rfl) rfl (w_call Tryz.call62 rfl (fun w hw => form_r p (by first | omega | (simp; done) | (simp; omega) | (simp at *; omega) | (split <;> first | omega | (simp; omega))) w) rfl (wl_v (o_not rfl) rfl (wl_nil (wk_then (wc_of_wk ?_))))))))
 refine wc_cond (b := !(decS p)) rfl (fun h115 => ?_) (fun h115 => ?_)
 ·have g115 := h115; try simp only [decide_eq_true_eq, decide_eq_false_iff_not] at g115
  have f115 := h115; try simp only [decide_eq_true_eq, decide_eq_false_iff_not, Bool.and_eq_true, Bool.or_eq_true, Bool.not_eq_true', Bool.not_eq_false', Bool.and_eq_false_iff, Bool.or_eq_false_iff, not_or, Int.not_lt, Int.not_le] at f115
  refine wc_seq (wc_region (wl_v (o_assign rfl) rfl (wl_v (o_assign rfl) rfl (wl_nil (wk_then (wc_of_wk ?_))))))
  refine wc_ret (wk_then_ret (wk_ret (r_2 rfl rfl rfl) ?_))
  exact retv (by simp [parseV, parseE, f115])
 ·have g115 := h115; try simp only [decide_eq_true_eq, decide_eq_false_iff_not] at g115
  have f115 := h115; try simp only [decide_eq_true_eq, decide_eq_false_iff_not, Bool.and_eq_true, Bool.or_eq_true, Bool.not_eq_true', Bool.not_eq_false', Bool.and_eq_false_iff, Bool.or_eq_false_iff, not_or, Int.not_lt, Int.not_le] at f115
  refine wc_skip (wk_then (wc_of_wk ?_))
  refine wc_seq (wc_region (wl_v (o_assign rfl) rfl (wl_nil (wk_then (wc_of_wk ?_)))))
  refine wc_seq (wc_seq (wc_region (wl_v (o_move rfl) rfl (wl_v (o_len_s yu9 rfl) rfl (wl_v (o_move rfl) rfl (wl_nil (wk_then (wc_of_wk ?_))))))))
  refine wc_block (wc_loop (S := Nat × Nat) (fun (x : Nat × Nat) => match x with | ⟨k, n⟩ => k ≤ p.length ∧ n ≤ 1000000000000 ∧ runP 0 p = runP n (p.drop k)) (fun (x : Nat × Nat) => match x with | ⟨k, n⟩ => [(20, .int .i64 ((k : Int))), (5, .int .i64 ((n : Int))), (0, .string (B (p))), (4, .bool (((decide ((0) < ((p.length : Int)))) && (decide ((bat p 0) = (45)))))), (19, .int .i64 ((p.length : Int)))]) (fun (x : Nat × Nat) => match x with | ⟨k, n⟩ => []) (fun (x : Nat × Nat) => match x with | ⟨k, n⟩ => p.length - k) (0, 0) ?_ ⟨fi (by first | rfl | (simp; done) | omega | (simp; omega)), fi (by first | rfl | (simp; done) | omega | (simp; omega)), rfl, rfl, rfl, trivial⟩ .slnil ?_)
  ·exact ⟨Nat.zero_le _, Nat.zero_le _, by simp⟩
  rintro ⟨k, n⟩ hi0
  have hk1 := hi0.1
  have hk2 := hi0.2.1
  refine wc_seq (wc_region (wl_v (o_lt rfl rfl) rfl (wl_nil (wk_then (wc_of_wk ?_)))))
  refine wc_seq (wc_cond (b := decide (((k : Int)) < ((p.length : Int)))) rfl (fun h116 => ?_) (fun h116 => ?_))
  ·have g116 := h116; try simp only [decide_eq_true_eq, decide_eq_false_iff_not] at g116
   have f116 := h116; try simp at f116
   refine wc_skip (wk_then (wc_of_wk ?_))
   refine wc_seq_mid [(0, .string (B (p))), (4, .bool (((decide ((0) < ((p.length : Int)))) && (decide ((bat p 0) = (45)))))), (5, .int .i64 ((if decide ((bat p (k : Int)) = (45)) = true then (n : Int) else (10 * (n : Int)) + ((bat p (k : Int)) - 48)))), (6, .int .i64 ((k : Int))), (19, .int .i64 ((p.length : Int))), (20, .int .i64 ((k : Int))), (21, .bool (decide (((k : Int)) < ((p.length : Int))))), (22, .int .i64 ((k : Int))), (23, .string (B (p))), (24, .int .i64 ((k : Int))), (25, .int .u8 (bat p (k : Int))), (26, .bool (decide ((bat p (k : Int)) = (45))))] [] (φ := ((decide ((bat p (k : Int)) = (45))) || (!(decide ((1000000000000) < ((10 * (n : Int)) + ((bat p (k : Int)) - 48)))))) = true) ?_ (fun hm118 => ?_)
   ·refine wc_block (wc_seq (wc_region (wl_v (o_move rfl) rfl (wl_v (o_assign rfl) rfl (wl_nil (wk_then (wc_of_wk ?_)))))))
    refine wc_seq (wc_seq (wc_region (wl_v (o_move rfl) rfl (wl_v (o_move rfl) rfl (wl_v (o_index_b yu9 rfl rfl (by first | omega | (simp; omega) | (simp at *; omega)) (by first | omega | (simp; omega) | (simp at *; omega))) rfl (wl_v (o_eq rfl rfl) rfl (wl_nil (wk_then (wc_of_wk ?_)))))))))
    refine wc_cond (b := decide ((bat p (k : Int)) = (45))) rfl (fun h117 => ?_) (fun h117 => ?_)
    ·have g117 := h117; try simp only [decide_eq_true_eq, decide_eq_false_iff_not] at g117
     have f117 := h117; try simp at f117
     refine wc_exit (wk_then_exit (wk_in_hit ?_))
     exact wk_then (wk_mid (by first | (simp only [h115, h116, h117, Bool.true_and, Bool.false_and, Bool.true_or, Bool.false_or, Bool.and_true, Bool.and_false, Bool.or_true, Bool.or_false, Bool.not_true, Bool.not_false, cond_true, cond_false, if_true, if_false, reduceIte, Bool.false_eq_true]; done) | simp [h115, h116, h117]) ⟨rfl, rfl, fi (by first | (simp only [h115, h116, h117, Bool.true_and, Bool.false_and, Bool.true_or, Bool.false_or, Bool.and_true, Bool.and_false, Bool.or_true, Bool.or_false, Bool.not_true, Bool.not_false, cond_true, cond_false, if_true, if_false, reduceIte, Bool.false_eq_true]; done) | simp [h115, h116, h117]), rfl, rfl, rfl, rfl, rfl, rfl, rfl, rfl, rfl, trivial⟩ .slnil)
    ·have g117 := h117; try simp only [decide_eq_true_eq, decide_eq_false_iff_not] at g117
     have f117 := h117; try simp at f117
     refine wc_skip (wk_then (wc_of_wk ?_))
     refine wc_seq (wc_region (wl_v (o_move rfl) rfl (wl_v (o_mul rfl rfl (IntWalk.i64_in _ (by first | omega | (have := dec_byte (p := p) (k := k) (by simp_all) (by omega) (by simp_all); omega)))) rfl (wl_v (o_move rfl) rfl (wl_v (o_move rfl) rfl (wl_v (o_index_b yu9 rfl rfl (by first | omega | (simp; omega) | (simp at *; omega)) (by first | omega | (simp; omega) | (simp at *; omega))) rfl (wl_v (o_sub rfl rfl (IntWalk.u8_in _ (by first | omega | (have := dec_byte (p := p) (k := k) (by simp_all) (by omega) (by simp_all); omega)))) rfl (wl_v (o_conv_int ⟨_, yu5⟩ yu3 rfl (IntWalk.i64_in _ (by first | omega | (have := dec_byte (p := p) (k := k) (by simp_all) (by omega) (by simp_all); omega)))) rfl (wl_v (o_add rfl rfl (IntWalk.i64_in _ (by first | omega | (have := dec_byte (p := p) (k := k) (by simp_all) (by omega) (by simp_all); omega)))) rfl (wl_v (o_assign rfl) rfl (wl_nil (wk_then (wc_of_wk ?_)))))))))))))
     refine wc_seq (wc_region (wl_v (o_move rfl) rfl (wl_v (o_gt rfl rfl) rfl (wl_nil (wk_then (wc_of_wk ?_))))))
     refine wc_cond (b := decide ((1000000000000) < ((10 * (n : Int)) + ((bat p (k : Int)) - 48)))) rfl (fun h118 => ?_) (fun h118 => ?_)
     ·have g118 := h118; try simp only [decide_eq_true_eq, decide_eq_false_iff_not] at g118
      have f118 := h118; try simp at f118
      refine wc_seq (wc_region (wl_v (o_assign rfl) rfl (wl_v (o_assign rfl) rfl (wl_nil (wk_then (wc_of_wk ?_))))))
      refine wc_ret (wk_in_ret (wk_then_ret (wk_then_ret (wk_in_ret (wk_then_ret (wk_ret (r_2 rfl rfl rfl) ?_))))))
      have hx := (parse_run f115).2 (run_stop f115 g116 hi0.2.2 g117 g118)
      exact retv (by rw [hx.1, hx.2])
     ·have g118 := h118; try simp only [decide_eq_true_eq, decide_eq_false_iff_not] at g118
      have f118 := h118; try simp at f118
      refine wc_skip (wk_in_norm ?_)
      exact wk_then (wk_mid (by first | (simp only [h115, h116, h117, h118, Bool.true_and, Bool.false_and, Bool.true_or, Bool.false_or, Bool.and_true, Bool.and_false, Bool.or_true, Bool.or_false, Bool.not_true, Bool.not_false, cond_true, cond_false, if_true, if_false, reduceIte, Bool.false_eq_true]; done) | simp [h115, h116, h117, h118]) ⟨rfl, rfl, fi (by first | (simp only [h115, h116, h117, h118, Bool.true_and, Bool.false_and, Bool.true_or, Bool.false_or, Bool.and_true, Bool.and_false, Bool.or_true, Bool.or_false, Bool.not_true, Bool.not_false, cond_true, cond_false, if_true, if_false, reduceIte, Bool.false_eq_true]; done) | simp [h115, h116, h117, h118]), rfl, rfl, rfl, rfl, rfl, rfl, rfl, rfl, rfl, trivial⟩ .slnil)
   have g118 := hm118; try simp only [decide_eq_true_eq, decide_eq_false_iff_not] at g118
   have f118 := hm118; try simp only [decide_eq_true_eq, decide_eq_false_iff_not, Bool.and_eq_true, Bool.or_eq_true, Bool.not_eq_true', Bool.not_eq_false', Bool.and_eq_false_iff, Bool.or_eq_false_iff, not_or, Int.not_lt, Int.not_le] at f118
   obtain ⟨n1, hn1, hn2, hn3⟩ := run_next (p := p) (k := k) (n := n) f115 g116 hi0.2.2 hk2 (by simpa using g118)
   rw [hn1]
   refine wc_region (wl_v (o_add rfl rfl (IntWalk.i64_in _ (by first | omega | (have := dec_byte (p := p) (k := k) (by simp_all) (by omega) (by simp_all); omega)))) rfl (wl_v (o_move rfl) rfl (wl_nil (wk_then (wk_some (k + 1, n1) ?_ ⟨fi (by first | rfl | (simp; done) | omega | (simp; omega)), fi (by first | rfl | (simp; done) | omega | (simp; omega)), rfl, rfl, rfl, trivial⟩ .slnil)))))
   exact ⟨⟨by omega, hn3, hn2⟩, by show p.length - (k + 1) < p.length - k; omega⟩
  ·have g116 := h116; try simp only [decide_eq_true_eq, decide_eq_false_iff_not] at g116
   have f116 := h116; try simp at f116
   refine wc_exit (wk_then_exit (wk_then_exit (wk_in_hit (wk_then (wc_of_wk ?_)))))
   refine wc_seq (wc_seq (wc_region (wl_v (o_move rfl) rfl (wl_nil (wk_then (wc_of_wk ?_))))))
   refine wc_cond (b := ((decide ((0) < ((p.length : Int)))) && (decide ((bat p 0) = (45))))) rfl (fun h120 => ?_) (fun h120 => ?_)
   ·have g120 := h120; try simp only [decide_eq_true_eq, decide_eq_false_iff_not] at g120
    have f120 := h120; try simp at f120
    refine wc_seq (wc_region (wl_v (o_move rfl) rfl (wl_v (o_neg rfl (IntWalk.i64_in _ (by omega))) rfl (wl_v (o_assign rfl) rfl (wl_v (o_assign rfl) rfl (wl_nil (wk_then (wc_of_wk ?_))))))))
    refine wc_ret (wk_then_ret (wk_ret (r_2 rfl rfl rfl) ?_))
    have hx := (parse_run f115).1 n (run_end hi0.2.2 g116)
    exact retv (by rw [hx.1, hx.2]; simp only [sgnS]; simp only [h120]; simp)
   ·have g120 := h120; try simp only [decide_eq_true_eq, decide_eq_false_iff_not] at g120
    have f120 := h120; try simp at f120
    refine wc_skip (wk_then (wc_of_wk ?_))
    refine wc_seq (wc_region (wl_v (o_move rfl) rfl (wl_v (o_assign rfl) rfl (wl_v (o_assign rfl) rfl (wl_nil (wk_then (wc_of_wk ?_)))))))
    refine wc_ret (wk_ret (r_2 rfl rfl rfl) ?_)
    have hx := (parse_run f115).1 n (run_end hi0.2.2 g116)
    exact retv (by rw [hx.1, hx.2]; simp only [sgnS]; simp only [h120]; simp)

end Go.Proofs.YtpmiamphppcfeaaGreatDoor

/-
 The library's contracts, and num's, in the words of the calculus. Plain theorems over the seat's program; no condition.
-/
namespace Go.Proofs.YtpmiamphppcfeaaGreatDoor.Q
open Go Go.RowKit
set_option linter.unusedVariables false
def GE (Z : Fz) : Prop := ∀ w, Frz Z w → Env w
theorem GE.mono {Z Z' : Fz} (h : Fz.le Z Z') (hg : GE Z) : GE Z' := fun w hw => hg w (fun b o e => hw b o (h b o e))
theorem Fn0.rle {P : Program} {E : Fz → Prop} {f : FuncId} {args : List Rp} {r r' : Rp} (h : Fn0 P E f args r) (hr : Rle r r') : Fn0 P E f args r' := fun w Z vs hv hs =>
 (h w Z vs hv hs).mono fun e w' ⟨q, v, H, Z', he, ⟨hq, hH⟩, hp, ht⟩ => ⟨r', v, H, Z', he, ⟨rfl, hH⟩, hr Z' v (hq ▸ hp), ht⟩
theorem Rle.tup2 {a b : Value} : Rle (rv (.tuple #[a, b])) (rTup [rv a, rv b]) := fun Z v h => ⟨[a, b], h, rfl, rfl, trivial⟩
theorem Fn0.of_id {P : Program} {E : Fz → Prop} {f : FuncId} {vs : List Value} {v : Value} (h : ∀ w, Calls P f vs.toArray w (fun e w' => e = .returned v ∧ w' = w)) : Fn0 P E f (vs.map rv) (rv v) :=
 Fn0.of_old fun w Z _ _ => (h w).mono fun e w' ⟨he, hw⟩ => ⟨he, by rw [hw]; exact Proofs.YtpmiamphppcfeaaGreatDoor.St.refl w []⟩
theorem format_q (m : Int) (g : inK .i64 m = true) : Fn0 Tryz.prog GE 45 [rI .i64 m] (rS (Lib.itoa m)) := Fn0.of_old (vs := [.int .i64 m]) fun w Z hf he => format_c m (inK_i64 g).1 (inK_i64 g).2 w (he w hf)
theorem itoa_q (m : Int) (g : inK .i64 m = true) : Fn0 Tryz.prog GE 71 [rI .i64 m] (rS (Lib.itoa m)) := Fn0.of_old (vs := [.int .i64 m]) fun w Z hf he => itoa_c m (inK_i64 g).1 (inK_i64 g).2 w (he w hf)
theorem parse_q (s : Str) (g : inA 1 s.length = true) : Fn0 Tryz.prog GE 29 [rS s] (rTup [rI .i64 (parseV s), rI .i64 (parseE s)]) := (Fn0.of_old (vs := [.string (B s)]) fun w Z hf he => parse_c s (by simp [inA] at g; omega) w (he w hf)).rle Rle.tup2
theorem count_q (s : Str) (c : UInt8) : Fn0 Tryz.prog GE 133 [rS s, rS [c]] (rI .i64 (Lib.countByte s c)) := Fn0.of_id (vs := [.string (B s), .string (B [c])]) fun w => by have := Tryz.strings_Count_one (B s) c w; rwa [B_data] at this
theorem compare_q (a b : Str) : Fn0 Tryz.prog GE 36 [rS a, rS b] (rI .i64 (Lib.compareBytes a b)) := Fn0.of_id (vs := [.string (B a), .string (B b)]) fun w => by have := Tryz.strings_Compare (B a) (B b) w; rwa [B_data, B_data] at this
theorem Rle.tup3 {a b c : Value} : Rle (rv (.tuple #[a, b, c])) (rTup [rv a, rv b, rv c]) := fun Z v h => ⟨[a, b, c], h, rfl, rfl, rfl, trivial⟩
theorem id_q (s : Str) : Fn0 Tryz.prog GE 40 [rS s] (rB (idS s)) := Fn0.of_old (vs := [.string (B s)]) fun w Z hf he => id_c s w
theorem child_q (s : Str) (m : Int) (g : inA 1 s.length = true) (gm : inK .i64 m = true) : Fn0 Tryz.prog GE 37 [rS s, rI .i64 m] (rTup [rS (childV s m), rI .i64 (childE s m)]) := (Fn0.of_old (vs := [.string (B s), .int .i64 m]) fun w Z hf he => child_c s m (by simp [inA] at g; omega) w (he w hf)).rle Rle.tup2
theorem parent_q (s : Str) (g : inA 1 s.length = true) : Fn0 Tryz.prog GE 41 [rS s] (rTup [rS (iff0 (parOk s) (parP s)), rI .i64 (if parOk s = true then parseV (parN s) else (0 : Int)), rB (parOk s)]) := (Fn0.of_old (vs := [.string (B s)]) fun w Z hf he => parent_c s (by simp [inA] at g; omega) w (he w hf)).rle Rle.tup3
theorem id_rq (s : Str) (g : inA 1 s.length = true) : Fn0 Tryz.prog GE 42 [rS s] (rB (idS s)) := Fn0.of_old (vs := [.string (B s)]) fun w Z hf he => id_r s (by simp [inA] at g; omega) w
theorem parse_rq (s : Str) (g : inA 1 s.length = true) : Fn0 Tryz.prog GE 32 [rS s] (rTup [rI .i64 (parseV s), rI .i64 (parseE s)]) := (Fn0.of_old (vs := [.string (B s)]) fun w Z hf he => parse_r s (by simp [inA] at g; omega) w).rle Rle.tup2
end Go.Proofs.YtpmiamphppcfeaaGreatDoor.Q

/-
 What a law is handed, read as what it stands for: the blocks of the world that is handed in are frozen. Plain theorems over any program; no condition.
-/
namespace Go.Proofs.YtpmiamphppcfeaaGreatDoor.Q
open Go Go.RowKit Go.ChangeShapes Go.Deep
set_option linter.unusedVariables false
set_option linter.unusedSimpArgs false
def ZW (W : World) : Fz := fun b => W.heap[b]?
theorem ZW.frz (W : World) : Frz (ZW W) W := fun _ _ h => h
def Opn (P : Program) (e : TypeId) {α : Type} (enc : α → List Rp) (ok : α → Bool) : Prop :=
 ∀ {H : Type} {encH : TypeId × Value → H} {W : World} {sp : Nat → Bool} {held : Bool} {n : Nat} {cs : List Value} {x : DataW H × List MemPlace}, DataW.trod encH P W 0 sp held n e cs = some x → ∃ y : α, ok y = true ∧ RpAll (ZW W) (enc y) cs
section
variable {P : Program} {e t : TypeId}
theorem Opn.int {k : IntKind} {enc : Int → List Rp} (ht : P.underlying e = some (.int k)) (he : ∀ n, enc n = [rI k n]) : Opn P e enc (inK k) := fun h => by
 obtain ⟨n, rfl, _, hwf⟩ := DataW.trod_int ht h
 exact ⟨n, hwf, by rw [he]; exact ⟨rfl, trivial⟩⟩
theorem Opn.str {enc : Str → List Rp} (ht : P.underlying e = some .string) (he : ∀ n, enc n = [rS n]) : Opn P e enc okS := fun h => by
 obtain ⟨s, rfl, _, hl⟩ := DataW.trod_string ht h
 exact ⟨s.data.toList, decide_eq_true (by rw [Array.length_toList]; exact hl), by rw [he]; exact ⟨congrArg Value.string (B_of s), trivial⟩⟩
theorem Opn.bool {enc : Bool → List Rp} (ht : P.underlying e = some .bool) (he : ∀ n, enc n = [rB n]) : Opn P e enc (fun _ => true) := fun h => by
 obtain ⟨b, rfl, _⟩ := DataW.trod_bool ht h
 exact ⟨b, rfl, by rw [he]; exact ⟨rfl, trivial⟩⟩
theorem cell_spot {W : World} {a : Addr} {v : Value} (h : W.cell? a = some v) : a.spot = none ∧ zcell (ZW W) a.block a.off = some v := by
 unfold World.cell? at h
 unfold zcell ZW
 cases hh : W.heap[a.block]? with
 | none => rw [hh] at h; cases h
 | some o =>
  rw [hh] at h
  cases o with
  | cells cs t fz =>
   cases hs : a.spot with
   | none => simp [hs] at h; exact ⟨rfl, h⟩
   | some _ => simp [hs] at h
  | _ => simp at h
theorem Opn.slice {α : Type} [Inhabited α] {enc : α → List Rp} {ok : α → Bool} {sz : Nat} (ht : P.underlying t = some (.slice e)) (hc : P.cellsOf e = sz) (hsz : 0 < sz) (h : Opn P e enc ok) (hlen : ∀ y, (enc y).length = sz) {enc' : List α → List Rp} (he : ∀ ys, enc' ys = [rSl sz (ys.map enc)]) :
  Opn P t enc' (fun ys => ys.all ok && decide (ys.length ≤ 9223372036854775807)) := fun {H encH W sp held n cs x} hx => by
 rcases open_slice ht hx with ⟨rfl, _⟩ | ⟨a, len, cap, m, n', D, Pl, rfl, hb, hl, hm, hmm, _, hel⟩
 ·exact ⟨[], by simp, by rw [he]; exact ⟨SlZ.nil sz _, trivial⟩⟩
 ·have hlm : len ≤ m := by rw [hmm]; split <;> omega
  have each : ∀ i, i < len → ∃ y : α, ok y = true ∧ ∃ cs', W.cells? 0 (a.add (i * sz)) sz = some cs' ∧ RpAll (ZW W) (enc y) cs' := fun i hi => by
   obtain ⟨cs', h1, h2⟩ := hel i (by omega)
   obtain ⟨y, hy, hr⟩ := h h2
   rw [hc] at h1
   exact ⟨y, hy, cs', h1, hr⟩
  obtain ⟨f, hf⟩ := choose_lt each
  refine ⟨(List.range len).map f, ?_, ?_⟩
  ·simp only [Bool.and_eq_true, List.all_eq_true, List.mem_map, List.mem_range, decide_eq_true_eq]
   refine ⟨?_, by simp; simp only [maxLen] at hm; omega⟩
   rintro _ ⟨i, hi, rfl⟩
   exact (hf i hi).1
  ·rw [he]
   refine ⟨⟨some a, cap, by simp, by simpa using hl, hm, (fun h => by cases h), fun i c hi => ?_⟩, trivial⟩
   rw [List.map_map, List.getElem?_map] at hi
   have hil : i < len := by
    cases hq : (List.range len)[i]? with
    | none => rw [hq] at hi; cases hi
    | some _ => have := (List.getElem?_eq_some_iff.1 hq).1; simpa using this
   rw [List.getElem?_range hil] at hi
   simp only [Option.map_some, Option.some.injEq, Function.comp] at hi
   subst hi
   obtain ⟨_, cs', h1, hr⟩ := hf i hil
   obtain ⟨_, hcl, hcell⟩ := World.cells?_some h1
   have hsp : a.spot = none := by
    obtain ⟨_, cs0, g1, _⟩ := hf 0 (by omega)
    obtain ⟨_, gcl, gcell⟩ := World.cells?_some g1
    have h0 := gcell 0 hsz
    rw [List.getElem?_eq_getElem (by omega)] at h0
    have := (cell_spot h0).1
    simpa [Addr.add] using this
   refine ⟨hlen _, a, rfl, hsp, fun j r hj => ?_⟩
   obtain ⟨u, hu, hp⟩ := hr.at hj
   have hjs : j < sz := by have := (List.getElem?_eq_some_iff.1 hj).1; rw [hlen] at this; exact this
   have h3 := hcell j hjs
   rw [hu] at h3
   have h4 := (cell_spot h3).2
   refine ⟨u, ?_, hp⟩
   have e1 : ((a.add (i * sz)).add j).block = a.block := by simp only [Addr.add]; split <;> split <;> rfl
   have e2 : ((a.add (i * sz)).add j).off = a.off + (i * sz + j) := by simp only [Addr.add]; split <;> split <;> simp_all <;> omega
   rw [e1, e2] at h4
   exact h4
theorem Opn.val {α : Type} {enc : α → List Rp} {ok : α → Bool} (h : Opn P e enc ok) {r : α → Rp} (he : ∀ y, enc y = [r y]) {H : Type} {encH : TypeId × Value → H} {W : World} {sp : Nat → Bool} {held : Bool} {v : Value} {d : DataW H} {ps : List MemPlace}
  (hone : v.cells = #[v]) (ht : DataW.Trod encH P W 0 sp held e v d ps) : ∃ y : α, ok y = true ∧ (r y).p (ZW W) v := by
 obtain ⟨fuel, hf⟩ := ht
 rw [hone] at hf
 obtain ⟨y, hy, hr⟩ := h hf
 rw [he] at hr
 exact ⟨y, hy, hr.1⟩
end
end Go.Proofs.YtpmiamphppcfeaaGreatDoor.Q

/-
 The row's step over the calculus of representations.
-/
namespace Go.Proofs.YtpmiamphppcfeaaGreatDoor.Q
open Go Go.RowKit
set_option linter.unusedVariables false
theorem frz_size {W w : World} (hw : Frz (ZW W) w) : W.heap.size ≤ w.heap.size := by
 rcases Nat.eq_zero_or_pos W.heap.size with h | h
 ·omega
 ·have h1 : W.heap[W.heap.size - 1]? = some (W.heap[W.heap.size - 1]'(by omega)) := Array.getElem?_eq_getElem (by omega)
  have := (Array.getElem?_eq_some_iff.1 (hw _ _ h1)).1
  omega
theorem ge_of_env {W : World} (hE : Env W) : GE (ZW W) := fun w hw => by
 have hb : Below W.heap.size W { w with os := W.os, tape := W.tape, output := W.output } := ⟨rfl, rfl, rfl, frz_size hw, fun k hk => by
  have h1 : W.heap[k]? = some (W.heap[k]'hk) := Array.getElem?_eq_getElem hk
  rw [h1]; exact hw k _ h1⟩
 have hE2 := hE.st0 (St.of_below hb)
 exact ⟨Tabs.block { w with os := W.os, tape := W.tape, output := W.output } w (fun _ _ => rfl) hE2.tabs, hE2.size⟩
theorem st_start {W : World} (hE : Env W) : St ⟨W, ZW W, [], GE⟩ [] (ZW W) W where
 os := rfl
 tape := rfl
 output := rfl
 size := Nat.le_refl _
 old := fun _ _ _ => rfl
 has := fun _ h => by cases h
 own := fun _ h => by cases h
 dis := .nil
 frz := ZW.frz W
 le := Fz.le.refl _
 new := fun _ _ h => .inl h
 zdis := fun _ h => by cases h
 env := ge_of_env hE
 emono := fun h hg => GE.mono h hg
theorem st_below {W W' : World} {Z Z' : Fz} {E : Fz → Prop} {H : List Ent} (h : St ⟨W, Z, [], E⟩ H Z' W') : Below W.heap.size W W' := ⟨h.os, h.tape, h.output, h.size, fun k hk => h.old k hk (by simp)⟩
end Go.Proofs.YtpmiamphppcfeaaGreatDoor.Q

/-
 What functions compute, with checks: plain definitions, printed by a small program of ours (gq.py). No program in sight.
-/
namespace Go.Proofs.YtpmiamphppcfeaaGreatDoor.Q
open Go
set_option linter.unusedVariables false
def bCopy0 (l : (List Int)) : Option ((List Int)) :=
 some l

def bWriteByte0 (l : (List Int)) (c : Int) : Option (Unit × (List Int)) :=
 obn (bCopy0 l) fun r1 => chk (inA 1 (r1.length + ([c] : List Int).length)) <| some ((), r1 ++ ([c] : List Int))

def bWriteString0 (l : (List Int)) (s : Str) : Option (Int × Unit × (List Int)) :=
 obn (bCopy0 l) fun r1 => chk (inA 1 (r1.length + s.length)) <| some ((s.length : Int), (), r1 ++ toI s)

def bString0 (l : Str) : Option (Str) :=
 chk (decide (0 < (toI l).length)) <| some l

def bCopy1 (l : (List Int)) : Option ((List Int)) :=
 some l

def bWriteByte1 (l : (List Int)) (c : Int) : Option (Unit × (List Int)) :=
 obn (bCopy1 l) fun r1 => chk (inA 1 (r1.length + ([c] : List Int).length)) <| some ((), r1 ++ ([c] : List Int))

def bWriteString1 (l : (List Int)) (s : Str) : Option (Int × Unit × (List Int)) :=
 obn (bCopy1 l) fun r1 => chk (inA 1 (r1.length + s.length)) <| some ((s.length : Int), (), r1 ++ toI s)

def bString1 (l : Str) : Option (Str) :=
 chk (decide (0 < (toI l).length)) <| some l

end Go.Proofs.YtpmiamphppcfeaaGreatDoor.Q

/-
  Walks, printed by a small program of ours (gq.py).
-/
namespace Go.Proofs.YtpmiamphppcfeaaGreatDoor.Q
open Go Go.RowKit
set_option linter.unusedVariables false
set_option linter.unusedSimpArgs false
set_option maxRecDepth 100000
set_option maxHeartbeats 4000000
theorem info5 : ∃ inf, Tryz.prog.info? 5 = some inf ∧ inf.zero = some (.int .u8 0) ∧ inf.size = 1 ∧ inf.bytes = 1 := by
  have key : (Tryz.prog.info? 5).map (fun i => (i.zero, i.size, i.bytes)) = some (some (.int .u8 0), 1, 1) := by kernel_rfl
  obtain ⟨inf, h1, h2⟩ := Option.map_eq_some_iff.1 key
  simp only [Prod.mk.injEq] at h2
  exact ⟨inf, h1, h2.1, h2.2.1, h2.2.2⟩
theorem infoN82 : ∃ j, Tryz.prog.info? 82 = some j ∧ j.size ≠ 0 := by
  have key : (Tryz.prog.info? 82).map (fun i => i.size) = some 2 := by kernel_rfl
  obtain ⟨j, h1, h2⟩ := Option.map_eq_some_iff.1 key
  exact ⟨j, h1, by rw [h2]; decide⟩
theorem infoE82 : ∃ j, Tryz.prog.info? 82 = some j := infoN82.imp fun _ h => h.1
theorem bCopy0_w (b_l : Nat) (v_l : Value) (l : (List Int)) (r : (List Int)) (h : bCopy0 l = some r) : Fn Tryz.prog GE 118 [rP b_l 0] [.blk b_l [rv (.pointer none), rv v_l] 82, .row v_l 5 1 (List.map eI_u8 l)] (fun R H => ∃ w0 : Value, R = rv (.tuple #[]) ∧ H = [.blk b_l [rP b_l 0, rv w0] 82, .row w0 5 1 (List.map eI_u8 r)]) := by
 refine enter (n := 20) Tryz.func118 rfl Tryz.ntmps118 rfl (fun w Z => ?_)
 unfold bCopy0 at h
 refine wc_sr (wm rfl (wv (o_nilcheck rfl) (vF yu82 rfl ys79 (vL 0 ya79 rfl (wv (r := rB true) (o_pnil_n ⟨_, yu79⟩ rfl) (wl_x (wc_cond_t rfl rfl (wc_region (wm rfl (wm rfl (wv (r := rP b_l 0) (o_to_unsafe (i := 0) yu79 Tryz.underlying144 infoN82 rfl rfl rfl) (wl_v (r := rP b_l 0) (o_noesc Tryz.func137 (by kernel_rfl) (by kernel_rfl) (by kernel_rfl) (by kernel_rfl) rfl) rfl (wv (r := rP b_l 0) (o_from_unsafe (i := 0) Tryz.underlying144 yu79 infoE82 rfl rfl (by kernel_rfl)) (wv (o_nilcheck rfl) (vF yu82 rfl ys79 (u_store (i := 0) ys79 rfl rfl (one_c rfl) rfl rfl (cs' := [rP b_l 0, rv v_l]) rfl (H' := [.blk b_l [rP b_l 0, rv v_l] 82, .row v_l 5 1 (List.map eI_u8 l)]) rfl (wl_nil ?_)))))))))))))))))
 obtain rfl := some_e h
 exact wk_end (r_0 Tryz.results118) (sC (sC sN)) ⟨v_l, rfl, rfl⟩

theorem bWriteByte0_w (b_l : Nat) (v_l : Value) (l : (List Int)) (c : Int) (r : Unit × (List Int)) (h : bWriteByte0 l c = some r) : Fn Tryz.prog GE 97 [rP b_l 0, rI .u8 c] [.blk b_l [rv (.pointer none), rv v_l] 82, .row v_l 5 1 (List.map eI_u8 l)] (fun R H => ∃ w0 : Value, R = rv (.nilIface) ∧ H = [.blk b_l [rP b_l 0, rv w0] 82, .row w0 5 1 (List.map eI_u8 r.2)]) := by
 refine enter (n := 17) Tryz.func97 rfl Tryz.ntmps97 rfl (fun w Z => ?_)
 unfold bWriteByte0 at h
 refine wc_sr (wa rfl (wl_y (wm rfl (ob h fun r1 e3 h2 => wcl (Hr := []) Tryz.call118 (bCopy0_w b_l v_l l r1 e3) rfl (List.Perm.refl _) rfl ?_))))
 rintro _ _ ⟨v4, rfl, rfl⟩
 refine wl_y (wm rfl (wm rfl (wv (o_nilcheck rfl) (vF yu82 rfl ys80 (vL 0 ya80 rfl (wm rfl (w_buildSlice (ys := ([c] : List Int)) (enc := eI_u8) (css := [[rI .u8 c]]) (xs := [.tmp 12]) yu80 ys5 yz5 rfl rfl rfl ⟨Cel.one rfl (Up.refl _), trivial⟩ rfl eI_u8_len rfl rfl rfl (fun b5 => ?_))))))))
 refine ck h2 fun g7 h8 => Exists.elim info5 fun inf hinf => w_append (xs := r1) (ys := ([c] : List Int)) (enc := eI_u8) (i := 2) yu80 hinf.1 hinf.2.1 hinf.2.2.1 hinf.2.2.2 rfl rfl rfl rfl rfl (Src.w (i := 0) rfl rfl) eI_u8_len eI_u8_one g7 rfl (fun v6 => ?_)
 refine wv (o_nilcheck rfl) (vF yu82 rfl ys80 (u_store (i := 2) ys80 rfl rfl (one_row (i := 0) rfl) rfl rfl (cs' := [rP b_l 0, rv v6]) rfl (H' := [.row v6 5 1 (List.map eI_u8 (r1 ++ ([c] : List Int))), .row (.slice (some ⟨b5, 0, none⟩) 1 1) 5 1 (List.map eI_u8 ([c] : List Int)), .blk b_l [rP b_l 0, rv v6] 82]) rfl (wl_y (wa rfl (wl_x (wc_ret (wk_perm (H2 := [.blk b_l [rP b_l 0, rv v6] 82, .row v6 5 1 (List.map eI_u8 (r1 ++ ([c] : List Int))), .row (.slice (some ⟨b5, 0, none⟩) 1 1) 5 1 (List.map eI_u8 ([c] : List Int))]) ((perm_front (i := 2) rfl).trans (List.Perm.cons _ (List.Perm.refl _))) ?_)))))))
 obtain rfl := some_e h8
 exact wk_ret (r_1 Tryz.results97 (rv_t rfl)) (sC (sC (sS sN))) ⟨v6, rfl, rfl⟩

theorem bWriteString0_w (b_l : Nat) (v_l : Value) (l : (List Int)) (s : Str) (r : Int × Unit × (List Int)) (h : bWriteString0 l s = some r) : Fn Tryz.prog GE 95 [rP b_l 0, rS s] [.blk b_l [rv (.pointer none), rv v_l] 82, .row v_l 5 1 (List.map eI_u8 l)] (fun R H => ∃ w0 : Value, R = rTup [rI .i64 r.1, rv (.nilIface)] ∧ H = [.blk b_l [rP b_l 0, rv w0] 82, .row w0 5 1 (List.map eI_u8 r.2.2)]) := by
 refine enter (n := 19) Tryz.func95 rfl Tryz.ntmps95 rfl (fun w Z => ?_)
 unfold bWriteString0 at h
 refine wc_sr (wa rfl (wa rfl (wl_y (wm rfl (ob h fun r1 e3 h2 => wcl (Hr := []) Tryz.call118 (bCopy0_w b_l v_l l r1 e3) rfl (List.Perm.refl _) rfl ?_)))))
 rintro _ _ ⟨v4, rfl, rfl⟩
 refine wl_y (wm rfl (wm rfl (wv (o_nilcheck rfl) (vF yu82 rfl ys80 (vL 0 ya80 rfl (wm rfl (ck h2 fun g6 h7 => Exists.elim info5 fun inf hinf => w_append_str (xs := r1) (i := 1) yu80 yu9 hinf.1 hinf.2.1 hinf.2.2.1 hinf.2.2.2 rfl rfl rfl g6 rfl (fun v5 => ?_))))))))
 refine wv (o_nilcheck rfl) (vF yu82 rfl ys80 (u_store (i := 1) ys80 rfl rfl (one_row (i := 0) rfl) rfl rfl (cs' := [rP b_l 0, rv v5]) rfl (H' := [.row v5 5 1 (List.map eI_u8 (r1 ++ toI s)), .blk b_l [rP b_l 0, rv v5] 82]) rfl (wl_y (wm rfl (wv (o_len_s yu9 rfl) (wa rfl (wa rfl (wl_x (wc_ret (wk_perm (H2 := [.blk b_l [rP b_l 0, rv v5] 82, .row v5 5 1 (List.map eI_u8 (r1 ++ toI s))]) ((perm_front (i := 1) rfl).trans (List.Perm.cons _ (List.Perm.refl _))) ?_))))))))))
 obtain rfl := some_e h7
 exact wk_ret (r_2 Tryz.results95 (rv_t rfl) (rv_t rfl)) (sC (sC sN)) ⟨v5, rfl, rfl⟩

theorem bString0_w (b_l : Nat) (v_l : Value) (l : Str) (r : Str) (h : bString0 l = some r) : Fn Tryz.prog GE 70 [rP b_l 0] [.blk b_l [rv (.pointer none), rv v_l] 82, .row v_l 5 1 (List.map eI_u8 (toI l))] (fun R H => R = rS r ∧ H = []) := by
 refine enter (n := 14) Tryz.func70 rfl Tryz.ntmps70 rfl (fun w Z => ?_)
 unfold bString0 at h
 refine wc_sr (wv (r := rS ([] : Str)) (o_assign rfl) (wl_x (wc_seq (ck h fun g1 h2 => wc_rdk (H1 := [.blk b_l [rv (.pointer none), rv v_l] 82]) [0] [⟨[], rP b_l 0, 0⟩, ⟨[0], rP b_l 0, 0⟩, ⟨[1], rP b_l 1, 0⟩, ⟨[2], rv v_l, 1⟩, ⟨[3], rv (slp v_l), 1⟩, ⟨[], rP b_l 0, 0⟩, ⟨[5], rP b_l 0, 0⟩, ⟨[6], rP b_l 1, 0⟩, ⟨[7], rv v_l, 1⟩, ⟨[8], rI .i64 ((toI l).length : Int), 1⟩, ⟨[4, 9], rS l, 2⟩, ⟨[10], rS l, 0⟩] (rle [(11, _), (2, [.blk b_l [rv (.pointer none), rv v_l] 82])]) [2] ?_ ?_))))
 ·refine oq (o_move rfl) (oq (o_nilcheck rfl) (oq (o_fieldAddr yu82 rfl ys80 rfl rfl) (of (o_load (i := 0) ya80 rfl rfl rfl) (of (o_sliceData (i := 1) rfl rfl (pos_map g1)) (oq (o_move rfl) (oq (o_nilcheck rfl) (oq (o_fieldAddr yu82 rfl ys80 rfl rfl) (of (o_load (i := 0) ya80 rfl rfl rfl) (of (o_len_wt (ys := toI l) (enc := eI_u8) (i := 1) yu80 rfl rfl) (obl_l rfl (ok_w (V_unsafeString (i := 1) Tryz.underlying105 (by kernel_rfl) rfl rfl rfl (pos_map g1) rfl)) ?_))))))))))
  refine oq (o_assign rfl) ?_
  exact obl_e
 refine wk_x (wc_ret ?_)
 obtain rfl := some_e h2
 exact wk_ret (r_1 Tryz.results70 (rv_t rfl)) (sS sN) ⟨rfl, rfl⟩

theorem bCopy1_w (b_l : Nat) (v_l : Value) (l : (List Int)) (r : (List Int)) (h : bCopy1 l = some r) : Fn Tryz.prog GE 118 [rP b_l 0] [.blk b_l [rP b_l 0, rv v_l] 82, .row v_l 5 1 (List.map eI_u8 l)] (fun R H => ∃ w0 : Value, R = rv (.tuple #[]) ∧ H = [.blk b_l [rP b_l 0, rv w0] 82, .row w0 5 1 (List.map eI_u8 r)]) := by
 refine enter (n := 20) Tryz.func118 rfl Tryz.ntmps118 rfl (fun w Z => ?_)
 unfold bCopy1 at h
 refine wc_sr (wm rfl (wv (o_nilcheck rfl) (vF yu82 rfl ys79 (vL 0 ya79 rfl (wv (r := rB false) (o_pnil ⟨_, yu79⟩ rfl) (wl_x (wc_cond_f rfl rfl (wc_sr (wm rfl (wv (o_nilcheck rfl) (vF yu82 rfl ys79 (vL 0 ya79 rfl (wm rfl (wv (r := rB false) (o_psame_ne yu79 infoE82 rfl rfl) (wl_x (wc_cond_f rfl rfl (wc_skip ?_)))))))))))))))))
 obtain rfl := some_e h
 exact wk_end (r_0 Tryz.results118) (sC (sC sN)) ⟨v_l, rfl, rfl⟩

theorem bWriteByte1_w (b_l : Nat) (v_l : Value) (l : (List Int)) (c : Int) (r : Unit × (List Int)) (h : bWriteByte1 l c = some r) : Fn Tryz.prog GE 97 [rP b_l 0, rI .u8 c] [.blk b_l [rP b_l 0, rv v_l] 82, .row v_l 5 1 (List.map eI_u8 l)] (fun R H => ∃ w0 : Value, R = rv (.nilIface) ∧ H = [.blk b_l [rP b_l 0, rv w0] 82, .row w0 5 1 (List.map eI_u8 r.2)]) := by
 refine enter (n := 17) Tryz.func97 rfl Tryz.ntmps97 rfl (fun w Z => ?_)
 unfold bWriteByte1 at h
 refine wc_sr (wa rfl (wl_y (wm rfl (ob h fun r1 e3 h2 => wcl (Hr := []) Tryz.call118 (bCopy1_w b_l v_l l r1 e3) rfl (List.Perm.refl _) rfl ?_))))
 rintro _ _ ⟨v4, rfl, rfl⟩
 refine wl_y (wm rfl (wm rfl (wv (o_nilcheck rfl) (vF yu82 rfl ys80 (vL 0 ya80 rfl (wm rfl (w_buildSlice (ys := ([c] : List Int)) (enc := eI_u8) (css := [[rI .u8 c]]) (xs := [.tmp 12]) yu80 ys5 yz5 rfl rfl rfl ⟨Cel.one rfl (Up.refl _), trivial⟩ rfl eI_u8_len rfl rfl rfl (fun b5 => ?_))))))))
 refine ck h2 fun g7 h8 => Exists.elim info5 fun inf hinf => w_append (xs := r1) (ys := ([c] : List Int)) (enc := eI_u8) (i := 2) yu80 hinf.1 hinf.2.1 hinf.2.2.1 hinf.2.2.2 rfl rfl rfl rfl rfl (Src.w (i := 0) rfl rfl) eI_u8_len eI_u8_one g7 rfl (fun v6 => ?_)
 refine wv (o_nilcheck rfl) (vF yu82 rfl ys80 (u_store (i := 2) ys80 rfl rfl (one_row (i := 0) rfl) rfl rfl (cs' := [rP b_l 0, rv v6]) rfl (H' := [.row v6 5 1 (List.map eI_u8 (r1 ++ ([c] : List Int))), .row (.slice (some ⟨b5, 0, none⟩) 1 1) 5 1 (List.map eI_u8 ([c] : List Int)), .blk b_l [rP b_l 0, rv v6] 82]) rfl (wl_y (wa rfl (wl_x (wc_ret (wk_perm (H2 := [.blk b_l [rP b_l 0, rv v6] 82, .row v6 5 1 (List.map eI_u8 (r1 ++ ([c] : List Int))), .row (.slice (some ⟨b5, 0, none⟩) 1 1) 5 1 (List.map eI_u8 ([c] : List Int))]) ((perm_front (i := 2) rfl).trans (List.Perm.cons _ (List.Perm.refl _))) ?_)))))))
 obtain rfl := some_e h8
 exact wk_ret (r_1 Tryz.results97 (rv_t rfl)) (sC (sC (sS sN))) ⟨v6, rfl, rfl⟩

theorem bWriteString1_w (b_l : Nat) (v_l : Value) (l : (List Int)) (s : Str) (r : Int × Unit × (List Int)) (h : bWriteString1 l s = some r) : Fn Tryz.prog GE 95 [rP b_l 0, rS s] [.blk b_l [rP b_l 0, rv v_l] 82, .row v_l 5 1 (List.map eI_u8 l)] (fun R H => ∃ w0 : Value, R = rTup [rI .i64 r.1, rv (.nilIface)] ∧ H = [.blk b_l [rP b_l 0, rv w0] 82, .row w0 5 1 (List.map eI_u8 r.2.2)]) := by
 refine enter (n := 19) Tryz.func95 rfl Tryz.ntmps95 rfl (fun w Z => ?_)
 unfold bWriteString1 at h
 refine wc_sr (wa rfl (wa rfl (wl_y (wm rfl (ob h fun r1 e3 h2 => wcl (Hr := []) Tryz.call118 (bCopy1_w b_l v_l l r1 e3) rfl (List.Perm.refl _) rfl ?_)))))
 rintro _ _ ⟨v4, rfl, rfl⟩
 refine wl_y (wm rfl (wm rfl (wv (o_nilcheck rfl) (vF yu82 rfl ys80 (vL 0 ya80 rfl (wm rfl (ck h2 fun g6 h7 => Exists.elim info5 fun inf hinf => w_append_str (xs := r1) (i := 1) yu80 yu9 hinf.1 hinf.2.1 hinf.2.2.1 hinf.2.2.2 rfl rfl rfl g6 rfl (fun v5 => ?_))))))))
 refine wv (o_nilcheck rfl) (vF yu82 rfl ys80 (u_store (i := 1) ys80 rfl rfl (one_row (i := 0) rfl) rfl rfl (cs' := [rP b_l 0, rv v5]) rfl (H' := [.row v5 5 1 (List.map eI_u8 (r1 ++ toI s)), .blk b_l [rP b_l 0, rv v5] 82]) rfl (wl_y (wm rfl (wv (o_len_s yu9 rfl) (wa rfl (wa rfl (wl_x (wc_ret (wk_perm (H2 := [.blk b_l [rP b_l 0, rv v5] 82, .row v5 5 1 (List.map eI_u8 (r1 ++ toI s))]) ((perm_front (i := 1) rfl).trans (List.Perm.cons _ (List.Perm.refl _))) ?_))))))))))
 obtain rfl := some_e h7
 exact wk_ret (r_2 Tryz.results95 (rv_t rfl) (rv_t rfl)) (sC (sC sN)) ⟨v5, rfl, rfl⟩

theorem bString1_w (b_l : Nat) (v_l : Value) (l : Str) (r : Str) (h : bString1 l = some r) : Fn Tryz.prog GE 70 [rP b_l 0] [.blk b_l [rP b_l 0, rv v_l] 82, .row v_l 5 1 (List.map eI_u8 (toI l))] (fun R H => R = rS r ∧ H = []) := by
 refine enter (n := 14) Tryz.func70 rfl Tryz.ntmps70 rfl (fun w Z => ?_)
 unfold bString1 at h
 refine wc_sr (wv (r := rS ([] : Str)) (o_assign rfl) (wl_x (wc_seq (ck h fun g1 h2 => wc_rdk (H1 := [.blk b_l [rP b_l 0, rv v_l] 82]) [0] [⟨[], rP b_l 0, 0⟩, ⟨[0], rP b_l 0, 0⟩, ⟨[1], rP b_l 1, 0⟩, ⟨[2], rv v_l, 1⟩, ⟨[3], rv (slp v_l), 1⟩, ⟨[], rP b_l 0, 0⟩, ⟨[5], rP b_l 0, 0⟩, ⟨[6], rP b_l 1, 0⟩, ⟨[7], rv v_l, 1⟩, ⟨[8], rI .i64 ((toI l).length : Int), 1⟩, ⟨[4, 9], rS l, 2⟩, ⟨[10], rS l, 0⟩] (rle [(11, _), (2, [.blk b_l [rP b_l 0, rv v_l] 82])]) [2] ?_ ?_))))
 ·refine oq (o_move rfl) (oq (o_nilcheck rfl) (oq (o_fieldAddr yu82 rfl ys80 rfl rfl) (of (o_load (i := 0) ya80 rfl rfl rfl) (of (o_sliceData (i := 1) rfl rfl (pos_map g1)) (oq (o_move rfl) (oq (o_nilcheck rfl) (oq (o_fieldAddr yu82 rfl ys80 rfl rfl) (of (o_load (i := 0) ya80 rfl rfl rfl) (of (o_len_wt (ys := toI l) (enc := eI_u8) (i := 1) yu80 rfl rfl) (obl_l rfl (ok_w (V_unsafeString (i := 1) Tryz.underlying105 (by kernel_rfl) rfl rfl rfl (pos_map g1) rfl)) ?_))))))))))
  refine oq (o_assign rfl) ?_
  exact obl_e
 refine wk_x (wc_ret ?_)
 obtain rfl := some_e h2
 exact wk_ret (r_1 Tryz.results70 (rv_t rfl)) (sS sN) ⟨rfl, rfl⟩

theorem writeByte_q (b : Nat) (v : Value) (l : Str) (c : Int) (g1 : inA 1 (l.length + 1) = true) (g2 : inK .u8 c = true) : Fn Tryz.prog GE 97 [rP b 0, rI .u8 c] [.bld 82 5 b v l] (fun R H => ∃ w0 : Value, R = rv .nilIface ∧ H = [.bld 82 5 b w0 (l ++ [UInt8.ofNat c.toNat])]) := by
  have hc : toI (l ++ [UInt8.ofNat c.toNat]) = toI l ++ [c] := by
    have := (by simpa [inK, IntKind.min, IntKind.max, IntKind.signed, IntKind.bits] using g2 : 0 ≤ c ∧ c ≤ 255)
    simp only [toI, List.map_append, List.map_cons, List.map_nil]
    congr 2
    simp; omega
  refine Fn.bld (res := rv .nilIface) fun p hp => ?_
  rw [hc]
  rcases hp with rfl | rfl
  · refine (bWriteByte0_w b v (toI l) c (((), toI l ++ [c])) ?_).sub (RleAll.refl _) (fun r H h => by obtain ⟨w0, h1, h2⟩ := h; exact ⟨w0, h1, h2⟩)
    simp only [bWriteByte0, bCopy0, obn, toI_len]
    simp [chk, g1]
  · refine (bWriteByte1_w b v (toI l) c (((), toI l ++ [c])) ?_).sub (RleAll.refl _) (fun r H h => by obtain ⟨w0, h1, h2⟩ := h; exact ⟨w0, h1, h2⟩)
    simp only [bWriteByte1, bCopy1, obn, toI_len]
    simp [chk, g1]
theorem writeString_q (b : Nat) (v : Value) (l s : Str) (g1 : inA 1 (l.length + s.length) = true) : Fn Tryz.prog GE 95 [rP b 0, rS s] [.bld 82 5 b v l] (fun R H => ∃ w0 : Value, R = rTup [rI .i64 (s.length : Int), rv .nilIface] ∧ H = [.bld 82 5 b w0 (l ++ s)]) := by
  have hc : toI (l ++ s) = toI l ++ toI s := by simp [toI]
  refine Fn.bld (res := rTup [rI .i64 (s.length : Int), rv .nilIface]) fun p hp => ?_
  rw [hc]
  rcases hp with rfl | rfl
  · refine (bWriteString0_w b v (toI l) s (((s.length : Int), (), toI l ++ toI s)) ?_).sub (RleAll.refl _) (fun r H h => by obtain ⟨w0, h1, h2⟩ := h; exact ⟨w0, h1, h2⟩)
    simp only [bWriteString0, bCopy0, obn, toI_len]
    simp [chk, g1]
  · refine (bWriteString1_w b v (toI l) s (((s.length : Int), (), toI l ++ toI s)) ?_).sub (RleAll.refl _) (fun r H h => by obtain ⟨w0, h1, h2⟩ := h; exact ⟨w0, h1, h2⟩)
    simp only [bWriteString1, bCopy1, obn, toI_len]
    simp [chk, g1]
theorem bstring_q (b : Nat) (v : Value) (l : Str) (g1 : decide (0 < l.length) = true) : Fn Tryz.prog GE 70 [rP b 0] [.bld 82 5 b v l] (fun R H => R = rS l ∧ H = []) := by
  refine Fn.bldS (res := rS l) fun p hp => ?_
  rcases hp with rfl | rfl
  · exact bString0_w b v l l (by simp only [bString0, toI_len]; simp [chk, g1])
  · exact bString1_w b v l l (by simp only [bString1, toI_len]; simp [chk, g1])

end Go.Proofs.YtpmiamphppcfeaaGreatDoor.Q

/-
 What functions compute, with checks: plain definitions, printed by a small program of ours (gq.py). No program in sight.
-/
namespace Go.Proofs.YtpmiamphppcfeaaGreatDoor
open Go
set_option linter.unusedVariables false
structure TApiCell where
 fKind : Int
 fInt : Int
 fStr : Str
 fN : Int
 deriving DecidableEq, Inhabited
def rPlain_b1 (s : Str) (x22 : Int) : Option (Stp (Int) (Out (Bool) (Unit))) :=
 cnd (decide (x22 < (s.length : Int))) (chk (inR x22 (s.length : Int)) <| cnd (((decide ((bat s x22) < 32)) || (decide (126 < (bat s x22))))) (some (.out (.ret false))) (chk (inK .i64 (x22 + 1)) <| some (.next (x22 + 1)))) (some (.out (.go ())))

def rPlain_k1  : Option (Bool) :=
 some true

def rPlain (F : Nat) (s : Str) : Option (Bool) :=
 obn (lop (fun σ => rPlain_b1 s σ) F 0) (oute fun ν => rPlain_k1 )

def rAfter (ok : Bool) (i : Int) : Option (Int) :=
 cnd (ok) (chk (inK .i64 (i + 1)) <| some (i + 1)) (some (-1))

def rKey (F : Nat) (c : TApiCell) : Option (Bool) :=
 chk (imp (decide (c.fKind = 4)) (imp (decide (c.fInt = 0)) (imp (decide (c.fN = 0)) ((rPlain F c.fStr).isSome)))) <| some ((decide (c.fKind = 4)) && ((decide (c.fInt = 0)) && ((decide (c.fN = 0)) && (ov (rPlain F c.fStr)))))

def rNextm (F : Nat) (rec_rElements : (List TApiCell) → Int → Int → Option (Int)) (rec_rPairs : (List TApiCell) → Int → Int → Option (Int)) (v : (List TApiCell)) (i : Int) : Option (Int) :=
 cnd (((decide (i < 0)) || (decide ((v.length : Int) ≤ i)))) (some (-1)) (chk (inR i (v.length : Int)) <| cnd (decide (((at' v i).fKind) = 1)) (chk (imp (decide (((at' v i).fInt) = 0)) (imp (decide (((at' v i).fStr) = ([] : Str))) ((rAfter (decide (((at' v i).fN) = 0)) i).isSome))) <| chk (imp (decide (((at' v i).fInt) = 0)) (imp (!(decide (((at' v i).fStr) = ([] : Str)))) ((rAfter false i).isSome))) <| chk (imp (!(decide (((at' v i).fInt) = 0))) ((rAfter false i).isSome)) <| some (bif decide (((at' v i).fInt) = 0) then (bif decide (((at' v i).fStr) = ([] : Str)) then (ov (rAfter (decide (((at' v i).fN) = 0)) i)) else (ov (rAfter false i))) else (ov (rAfter false i)))) (cnd (decide (((at' v i).fKind) = 2)) (chk (imp (decide (((at' v i).fInt) = 0)) (imp (decide (((at' v i).fStr) = ([] : Str))) ((rAfter (decide (((at' v i).fN) = 0)) i).isSome))) <| chk (imp (decide (((at' v i).fInt) = 0)) (imp (!(decide (((at' v i).fStr) = ([] : Str)))) ((rAfter false i).isSome))) <| chk (imp (!(decide (((at' v i).fInt) = 0))) (imp (decide (((at' v i).fInt) = 1)) (imp (decide (((at' v i).fStr) = ([] : Str))) ((rAfter (decide (((at' v i).fN) = 0)) i).isSome)))) <| chk (imp (!(decide (((at' v i).fInt) = 0))) (imp (decide (((at' v i).fInt) = 1)) (imp (!(decide (((at' v i).fStr) = ([] : Str)))) ((rAfter false i).isSome)))) <| chk (imp (!(decide (((at' v i).fInt) = 0))) (imp (!(decide (((at' v i).fInt) = 1))) ((rAfter false i).isSome))) <| some (bif decide (((at' v i).fInt) = 0) then (bif decide (((at' v i).fStr) = ([] : Str)) then (ov (rAfter (decide (((at' v i).fN) = 0)) i)) else (ov (rAfter false i))) else (bif decide (((at' v i).fInt) = 1) then (bif decide (((at' v i).fStr) = ([] : Str)) then (ov (rAfter (decide (((at' v i).fN) = 0)) i)) else (ov (rAfter false i))) else (ov (rAfter false i))))) (cnd (decide (((at' v i).fKind) = 3)) (chk (imp (decide (((at' v i).fStr) = ([] : Str))) ((rAfter (decide (((at' v i).fN) = 0)) i).isSome)) <| chk (imp (!(decide (((at' v i).fStr) = ([] : Str)))) ((rAfter false i).isSome)) <| some (bif decide (((at' v i).fStr) = ([] : Str)) then (ov (rAfter (decide (((at' v i).fN) = 0)) i)) else (ov (rAfter false i)))) (cnd (decide (((at' v i).fKind) = 4)) (obn (rKey F (at' v i)) fun r46 => obn (rAfter r46 i) fun r49 => some r49) (cnd (((decide (((at' v i).fKind) = 5)) && ((decide (((at' v i).fInt) = 0)) && ((decide (((at' v i).fStr) = ([] : Str))) && (decide (0 ≤ ((at' v i).fN))))))) (chk (inK .i64 (i + 1)) <| obn (rec_rElements v (i + 1) ((at' v i).fN)) fun r60 => some r60) (cnd (((decide (((at' v i).fKind) = 6)) && ((decide (((at' v i).fInt) = 0)) && ((decide (((at' v i).fStr) = ([] : Str))) && (decide (0 ≤ ((at' v i).fN))))))) (chk (inK .i64 (i + 1)) <| obn (rec_rPairs v (i + 1) ((at' v i).fN)) fun r71 => some r71) (some (-1))))))))

def rElements_b1 (v : (List TApiCell)) (n : Int) (rec_rNext : (List TApiCell) → Int → Option (Int)) (x23 : Int) (x24 : Int) : Option (Stp (Int × Int) (Out (Int) (Int))) :=
 cnd (decide (x24 < n)) (obn (rec_rNext v x23) fun r48 => cnd (decide (r48 < 0)) (some (.out (.ret (-1)))) (chk (inK .i64 (x24 + 1)) <| some (.next (r48, x24 + 1)))) (some (.out (.go x23)))

def rElements_k1 (x36 : Int) : Option (Int) :=
 some x36

def rElementsm (F : Nat) (rec_rNext : (List TApiCell) → Int → Option (Int)) (v : (List TApiCell)) (i : Int) (n : Int) : Option (Int) :=
 obn (lop (fun σ => rElements_b1 v n rec_rNext σ.1 σ.2) F (i, 0)) (oute fun ν => rElements_k1 ν)

def rPairs_b1 (F : Nat) (v : (List TApiCell)) (n : Int) (rec_rNext : (List TApiCell) → Int → Option (Int)) (x51 : Int) (x52 : Str) (x53 : Int) : Option (Stp (Int × Str × Int) (Out (Int) (Int))) :=
 cnd (decide (x53 < n)) (chk (imp (!(decide ((v.length : Int) ≤ x51))) (inR x51 (v.length : Int))) <| chk (imp (!(decide ((v.length : Int) ≤ x51))) ((rKey F (at' v x51)).isSome)) <| cnd (((decide ((v.length : Int) ≤ x51)) || ((!(ov (rKey F (at' v x51)))) || ((decide (0 < x53)) && (sLess ((at' v x51).fStr) x52 || decide (((at' v x51).fStr) = x52)))))) (some (.out (.ret (-1)))) (chk (inR x51 (v.length : Int)) <| chk (inK .i64 (x51 + 1)) <| obn (rec_rNext v (x51 + 1)) fun r106 => cnd (decide (r106 < 0)) (some (.out (.ret (-1)))) (chk (inK .i64 (x53 + 1)) <| some (.next (r106, (at' v x51).fStr, x53 + 1))))) (some (.out (.go x51)))

def rPairs_k1 (x79 : Int) : Option (Int) :=
 some x79

def rPairsm (F : Nat) (rec_rNext : (List TApiCell) → Int → Option (Int)) (v : (List TApiCell)) (i : Int) (n : Int) : Option (Int) :=
 obn (lop (fun σ => rPairs_b1 F v n rec_rNext σ.1 σ.2.1 σ.2.2) F (i, ([] : Str), 0)) (oute fun ν => rPairs_k1 ν)

mutual
def rNext : Nat → (List TApiCell) → Int → Option (Int)
 | 0, _, _ => none
 | nn + 1, v, i => rNextm nn (rElements nn) (rPairs nn) v i

def rElements : Nat → (List TApiCell) → Int → Int → Option (Int)
 | 0, _, _, _ => none
 | nn + 1, v, i, n => rElementsm nn (rNext nn) v i n

def rPairs : Nat → (List TApiCell) → Int → Int → Option (Int)
 | 0, _, _, _ => none
 | nn + 1, v, i, n => rPairsm nn (rNext nn) v i n

end
def rFormed (F : Nat) (v : (List TApiCell)) : Option (Bool) :=
 chk (imp (decide (0 < (v.length : Int))) ((rNext F v 0).isSome)) <| some ((decide (0 < (v.length : Int))) && (decide ((ov (rNext F v 0)) = (v.length : Int))))

def rLevels_b1 (F : Nat) (v : (List TApiCell)) (i : Int) (rec_rLevels : (List TApiCell) → Int → Option (Int)) (x85 : Int) (x86 : Int) (x87 : Int) : Option (Stp (Int × Int × Int) (Out (Int) (Int))) :=
 cnd (decide (x87 < ((at' v i).fN))) (cnd (decide (((at' v i).fKind) = 6)) (chk (inK .i64 (x86 + 1)) <| obn (rec_rLevels v (x86 + 1)) fun r144 => cnd (decide (x85 < r144)) (obn (rNext F v (x86 + 1)) fun r149 => chk (inK .i64 (x87 + 1)) <| some (.next (r144, r149, x87 + 1))) (obn (rNext F v (x86 + 1)) fun r156 => chk (inK .i64 (x87 + 1)) <| some (.next (x85, r156, x87 + 1)))) (obn (rec_rLevels v x86) fun r163 => cnd (decide (x85 < r163)) (obn (rNext F v x86) fun r168 => chk (inK .i64 (x87 + 1)) <| some (.next (r163, r168, x87 + 1))) (obn (rNext F v x86) fun r175 => chk (inK .i64 (x87 + 1)) <| some (.next (x85, r175, x87 + 1))))) (some (.out (.go x85)))

def rLevels_k1 (x128 : Int) : Option (Int) :=
 chk (inK .i64 (x128 + 1)) <| some (x128 + 1)

def rLevelsm (F : Nat) (rec_rLevels : (List TApiCell) → Int → Option (Int)) (v : (List TApiCell)) (i : Int) : Option (Int) :=
 chk (inR i (v.length : Int)) <| cnd (((!decide (((at' v i).fKind) = 5)) && (!decide (((at' v i).fKind) = 6)))) (some 1) (chk (inK .i64 (i + 1)) <| obn (lop (fun σ => rLevels_b1 F v i rec_rLevels σ.1 σ.2.1 σ.2.2) F (0, i + 1, 0)) (oute fun ν => rLevels_k1 ν))

def rLevels : Nat → (List TApiCell) → Int → Option (Int)
 | 0, _, _ => none
 | nn + 1, v, i => rLevelsm nn (rLevels nn) v i

def rQuoted_b1 (s : Str) (x53 : Str) (x54 : Int) : Option (Stp (Str × Int) (Out (Str) (Str))) :=
 cnd (decide (x54 < (s.length : Int))) (chk (inR x54 (s.length : Int)) <| cnd (((decide ((bat s x54) = 34)) || (decide ((bat s x54) = 92)))) (chk (inK .i64 ((x53.length : Int) + (([92] : Str).length : Int))) <| chk (inK .i64 (x54 + 1)) <| chk (inC x54 (x54 + 1)) <| chk (inC (x54 + 1) (s.length : Int)) <| chk (inK .i64 (((x53 ++ ([92] : Str)).length : Int) + ((List.take (Int.toNat (x54 + 1) - Int.toNat x54) (List.drop (Int.toNat x54) s)).length : Int))) <| some (.next ((x53 ++ ([92] : Str)) ++ (List.take (Int.toNat (x54 + 1) - Int.toNat x54) (List.drop (Int.toNat x54) s)), x54 + 1))) (chk (inK .i64 (x54 + 1)) <| chk (inC x54 (x54 + 1)) <| chk (inC (x54 + 1) (s.length : Int)) <| chk (inK .i64 ((x53.length : Int) + ((List.take (Int.toNat (x54 + 1) - Int.toNat x54) (List.drop (Int.toNat x54) s)).length : Int))) <| some (.next (x53 ++ (List.take (Int.toNat (x54 + 1) - Int.toNat x54) (List.drop (Int.toNat x54) s)), x54 + 1)))) (some (.out (.go x53)))

def rQuoted_k1 (x82 : Str) : Option (Str) :=
 chk (inK .i64 ((x82.length : Int) + (([34] : Str).length : Int))) <| some (x82 ++ ([34] : Str))

def rQuoted (F : Nat) (s : Str) : Option (Str) :=
 obn (lop (fun σ => rQuoted_b1 s σ.1 σ.2) F (([34] : Str), 0)) (oute fun ν => rQuoted_k1 ν)

def rText_b1 (F : Nat) (v : (List TApiCell)) (i : Int) (rec_rText : (List TApiCell) → Int → Option (Str)) (x138 : Str) (x139 : Int) (x140 : Int) : Option (Stp (Str × Int × Int) (Out (Str) (Str))) :=
 cnd (decide (x140 < ((at' v i).fN))) (cnd (decide (0 < x140)) (chk (inK .i64 ((x138.length : Int) + (([44] : Str).length : Int))) <| cnd (decide (((at' v i).fKind) = 6)) (chk (inR x139 (v.length : Int)) <| obn (rQuoted F ((at' v x139).fStr)) fun r237 => chk (inK .i64 (((x138 ++ ([44] : Str)).length : Int) + (r237.length : Int))) <| chk (inK .i64 ((((x138 ++ ([44] : Str)) ++ r237).length : Int) + (([58] : Str).length : Int))) <| chk (inK .i64 (x139 + 1)) <| obn (rec_rText v (x139 + 1)) fun r246 => chk (inK .i64 (((((x138 ++ ([44] : Str)) ++ r237) ++ ([58] : Str)).length : Int) + (r246.length : Int))) <| obn (rNext F v (x139 + 1)) fun r251 => chk (inK .i64 (x140 + 1)) <| some (.next ((((x138 ++ ([44] : Str)) ++ r237) ++ ([58] : Str)) ++ r246, r251, x140 + 1))) (obn (rec_rText v x139) fun r258 => chk (inK .i64 (((x138 ++ ([44] : Str)).length : Int) + (r258.length : Int))) <| obn (rNext F v x139) fun r263 => chk (inK .i64 (x140 + 1)) <| some (.next ((x138 ++ ([44] : Str)) ++ r258, r263, x140 + 1)))) (cnd (decide (((at' v i).fKind) = 6)) (chk (inR x139 (v.length : Int)) <| obn (rQuoted F ((at' v x139).fStr)) fun r274 => chk (inK .i64 ((x138.length : Int) + (r274.length : Int))) <| chk (inK .i64 (((x138 ++ r274).length : Int) + (([58] : Str).length : Int))) <| chk (inK .i64 (x139 + 1)) <| obn (rec_rText v (x139 + 1)) fun r283 => chk (inK .i64 ((((x138 ++ r274) ++ ([58] : Str)).length : Int) + (r283.length : Int))) <| obn (rNext F v (x139 + 1)) fun r288 => chk (inK .i64 (x140 + 1)) <| some (.next (((x138 ++ r274) ++ ([58] : Str)) ++ r283, r288, x140 + 1))) (obn (rec_rText v x139) fun r295 => chk (inK .i64 ((x138.length : Int) + (r295.length : Int))) <| obn (rNext F v x139) fun r300 => chk (inK .i64 (x140 + 1)) <| some (.next (x138 ++ r295, r300, x140 + 1))))) (some (.out (.go x138)))

def rText_k1 (v : (List TApiCell)) (i : Int) (x217 : Str) : Option (Str) :=
 cnd (decide (((at' v i).fKind) = 6)) (chk (inK .i64 ((([123] : Str).length : Int) + (x217.length : Int))) <| chk (inK .i64 (((([123] : Str) ++ x217).length : Int) + (([125] : Str).length : Int))) <| some ((([123] : Str) ++ x217) ++ ([125] : Str))) (chk (inK .i64 ((([91] : Str).length : Int) + (x217.length : Int))) <| chk (inK .i64 (((([91] : Str) ++ x217).length : Int) + (([93] : Str).length : Int))) <| some ((([91] : Str) ++ x217) ++ ([93] : Str)))

def rTextm (F : Nat) (rec_rText : (List TApiCell) → Int → Option (Str)) (v : (List TApiCell)) (i : Int) : Option (Str) :=
 chk (inR i (v.length : Int)) <| cnd (decide (((at' v i).fKind) = 1)) (some ([110, 117, 108, 108] : Str)) (cnd (decide (((at' v i).fKind) = 2)) (cnd (decide (((at' v i).fInt) = 1)) (some ([116, 114, 117, 101] : Str)) (some ([102, 97, 108, 115, 101] : Str))) (cnd (decide (((at' v i).fKind) = 3)) (chk (inK .i64 ((at' v i).fInt)) <| some (Lib.itoa ((at' v i).fInt))) (cnd (decide (((at' v i).fKind) = 4)) (obn (rQuoted F ((at' v i).fStr)) fun r20 => some r20) (chk (inK .i64 (i + 1)) <| obn (lop (fun σ => rText_b1 F v i rec_rText σ.1 σ.2.1 σ.2.2) F (([] : Str), i + 1, 0)) (oute fun ν => rText_k1 v i ν)))))

def rText : Nat → (List TApiCell) → Int → Option (Str)
 | 0, _, _ => none
 | nn + 1, v, i => rTextm nn (rText nn) v i

def rCheck_b2 (v : (List TApiCell)) (x93 : Int) : Option (Stp (Int) (Out (Int) (Unit))) :=
 cnd (decide (x93 < (v.length : Int))) (chk (inR x93 (v.length : Int)) <| cnd (decide (200 < (((at' v x93).fStr).length : Int))) (some (.out (.ret 3))) (chk (inK .i64 (x93 + 1)) <| some (.next (x93 + 1)))) (some (.out (.go ())))

def rCheck_k2 (F : Nat) (v : (List TApiCell)) : Option (Int) :=
 obn (rText F v 0) fun r127 => cnd (decide (4000 < (r127.length : Int))) (some 3) (some 0)

def rCheck_b1 (v : (List TApiCell)) (x30 : Int) : Option (Stp (Int) (Out (Int) (Unit))) :=
 cnd (decide (x30 < (v.length : Int))) (chk (inR x30 (v.length : Int)) <| cnd (((decide (((at' v x30).fKind) = 3)) && ((decide (((at' v x30).fInt) < (-1000000000000))) || (decide (1000000000000 < ((at' v x30).fInt)))))) (some (.out (.ret 2))) (chk (inK .i64 (x30 + 1)) <| some (.next (x30 + 1)))) (some (.out (.go ())))

def rCheck_k1 (F : Nat) (v : (List TApiCell)) : Option (Int) :=
 chk (imp (!(decide (200 < (v.length : Int)))) ((rLevels F v 0).isSome)) <| cnd (((decide (200 < (v.length : Int))) || (decide (8 < (ov (rLevels F v 0)))))) (some 3) (obn (lop (fun σ => rCheck_b2 v σ) F 0) (oute fun ν => rCheck_k2 F v ))

def rCheck (F : Nat) (v : (List TApiCell)) : Option (Int) :=
 obn (rFormed F v) fun r1 => cnd (!r1) (some 1) (obn (lop (fun σ => rCheck_b1 v σ) F 0) (oute fun ν => rCheck_k1 F v ))

end Go.Proofs.YtpmiamphppcfeaaGreatDoor
