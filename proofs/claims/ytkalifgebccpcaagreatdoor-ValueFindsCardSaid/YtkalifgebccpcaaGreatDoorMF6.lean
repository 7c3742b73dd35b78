/-
  Texts of the proof, put together: LvH, LvI, LvJ, LvK, LvL, LvM, LvN, LvO, LvP, LcA, LcB, LcC, LcD, LcE, LcF, LcG, LfA, LfB, LfC, LfN, LwFinds.
-/
import Derived.Test.YtkalifgebccpcaaGreatDoorMF5
/-
 The reference reads values as the plain reader does. Plain laws.
-/
namespace Go.Proofs.YtkalifgebccpcaaGreatDoor
open Go
set_option linter.unusedVariables false
set_option linter.unusedSimpArgs false
def prsF (m : Bool) (last : Option Str) (k : Nat) (xs : List TApiCell) : Option (Fo × List TApiCell) := prs (xs.length + 1) m last k xs
theorem prsF_zero (m : Bool) (last : Option Str) (xs : List TApiCell) : prsF m last 0 xs = some (.nil, xs) := rfl
theorem prsF_cons (m : Bool) (last : Option Str) (k : Nat) (xs : List TApiCell) : prsF m last (k + 1) xs =
  match prsK m last xs with
  | none => none
  | some (key, ys) => match prs1 ys with
   | none => none
   | some (f, zs) => match prsF m key k zs with
    | none => none
    | some (r, us) => some (f.put key r, us) := by
 unfold prsF prs1
 rw [prs_fuel (xs.length + 1) (xs.length + 2) m last (k + 1) xs (by omega) (by omega), prs_cons]
 cases hk : prsK m last xs with
 | none => rfl
 | some p =>
  obtain ⟨key, ys⟩ := p
  have h1 := (prsK_ok hk).1
  have hy : ys.length ≤ xs.length := by rw [h1]; simp
  simp only
  rw [prs_fuel (xs.length + 2) (ys.length + 1) false none 1 ys (by omega) (by omega)]
  cases hf : prs (ys.length + 1) false none 1 ys with
  | none => rfl
  | some q =>
   obtain ⟨f, zs⟩ := q
   have h2 := (prs_ok _ _ _ _ _ _ _ hf).1
   have hz : zs.length ≤ ys.length := by rw [h2]; simp
   simp only
   rw [prs_fuel (xs.length + 1) (zs.length + 1) m key k zs (by omega) (by omega)]
   all_goals (cases prs (zs.length + 1) m key k zs <;> rfl)
theorem lop_n {S O : Type} {body : S → Option (Stp S O)} {n : Nat} {s s' : S} {o : O} (h : body s = some (.next s')) (h' : lop body n s' = some o) : lop body (n + 1) s = some o := by rw [lop, h]; exact h'
theorem lop_o {S O : Type} {body : S → Option (Stp S O)} {n : Nat} {s : S} {o : O} (h : body s = some (.out o)) : lop body (n + 1) s = some o := by rw [lop, h]
theorem prs1_nil : prs1 [] = none := rfl
theorem prs1_cons (c : TApiCell) (r : List TApiCell) : prs1 (c :: r) = bif !pl c then none else bif decide (0 < c.fN) then (match prsF (decide (c.fKind = 6)) none c.fN.toNat r with
  | none => none
  | some (kids, zs) => some (.node none c kids .nil, zs)) else some (.cell none c .nil, r) := by
 unfold prs1
 rw [prs]
 simp only [prsK, cond_false]
 cases hp : pl c with
 | false => rfl
 | true =>
  simp only [Bool.not_true, cond_false]
  cases hn : decide (0 < c.fN) with
  | true =>
   simp only [cond_true]
   unfold prsF
   rw [List.length_cons]
   cases hq : prs (r.length + 1) (decide (c.fKind = 6)) none c.fN.toNat r with
   | none => rfl
   | some q => obtain ⟨kids, zs⟩ := q; rfl
  | false => rfl
theorem put_flat {f : Fo} (h : f.one = true) (key : Option Str) (r : Fo) : (f.put key r).flat = keyC key ++ (f.flat ++ r.flat) := by
 cases f with
 | nil => cases h
 | cell k c r' =>
  cases k with
  | some s => cases h
  | none => cases r' with
   | nil => simp [Fo.put, Fo.flat, keyC]
   | cell _ _ _ => cases h
   | node _ _ _ _ => cases h
 | node k c kids r' =>
  cases k with
  | some s => cases h
  | none => cases r' with
   | nil => simp [Fo.put, Fo.flat, keyC]
   | cell _ _ _ => cases h
   | node _ _ _ _ => cases h
theorem one_flat {f : Fo} (h : f.one = true) : 1 ≤ f.flat.length := by
 cases f with
 | nil => cases h
 | cell k c r' => simp [Fo.flat]; omega
 | node k c kids r' => simp [Fo.flat]; omega
theorem prs1_ok {xs ys : List TApiCell} {f : Fo} (h : prs1 xs = some (f, ys)) : xs = f.flat ++ ys ∧ f.wf false none = true ∧ f.one = true :=
 ⟨(prs_ok _ _ _ _ _ _ _ h).1, (prs_ok _ _ _ _ _ _ _ h).2.1, prs_one h⟩
def nxt (v : List TApiCell) (i : Int) : Int := match prs1 (v.drop i.toNat) with
 | none => -1
 | some (f, _) => i + f.flat.length
def nxts (m : Bool) (last : Option Str) (v : List TApiCell) (i : Int) (k : Nat) : Int := match prsF m last k (v.drop i.toNat) with
 | none => -1
 | some (f, _) => i + f.flat.length
theorem nxt_range {v : List TApiCell} {i : Int} (h0 : 0 ≤ i) (h1 : i ≤ v.length) : nxt v i = -1 ∨ (i < nxt v i ∧ nxt v i ≤ v.length) := by
 unfold nxt
 cases h : prs1 (v.drop i.toNat) with
 | none => exact .inl rfl
 | some q =>
  obtain ⟨f, ys⟩ := q
  obtain ⟨h2, _, h3⟩ := prs1_ok h
  have := one_flat h3
  have hl : (v.drop i.toNat).length = f.flat.length + ys.length := by rw [h2]; simp
  rw [List.length_drop] at hl
  right; simp only; omega
structure RfA (F M : Nat) (v : List TApiCell) : Prop where
 hM : M ≤ 1152921504606846976
 hv : v.length ≤ M
 hF : M < F
 hc : ∀ c ∈ v, c.fStr.length ≤ M
theorem rAfter_eq (ok : Bool) {i : Int} (h0 : 0 ≤ i) (h1 : i ≤ 1152921504606846976) : rAfter ok i = some (bif ok then i + 1 else -1) := by
 unfold rAfter
 cases ok
 ·rfl
 ·rw [cnd_tt rfl, chk_i64 (by omega) (by omega)]; rfl
theorem rKey_eq {F : Nat} {c : TApiCell} (hF : c.fStr.length < F) (hs : c.fStr.length ≤ 1152921504606846976) : rKey F c = some (decide (c.fKind = 4) && pl c) := by
 unfold rKey
 rw [rPlain_eq hF (by omega)]
 simp only [Option.isSome_some, ov, Option.getD_some, imp, Bool.or_true, chk, cond_true]
 cases h4 : decide (c.fKind = 4) with
 | false => rfl
 | true =>
  simp only [decide_eq_true_eq] at h4
  simp [pl, h4]
theorem at_drop {v : List TApiCell} {i : Int} {c : TApiCell} {r : List TApiCell} (h0 : 0 ≤ i) (h : v.drop i.toNat = c :: r) : at' v i = c := by
 have := (drop_get h0 h).1
 simp [at', this]
section
variable {M : Nat} {v : List TApiCell}
theorem rElements_lop {F : Nat} (hA : RfA F M v) {g : List TApiCell → Int → Option Int} {n : Int} (hn : n ≤ 9223372036854775807) : ∀ (L : Nat) (i x : Int), 0 ≤ i → i ≤ v.length → 0 ≤ x → x ≤ n → (∀ j, i ≤ j → j ≤ v.length → g v j = some (nxt v j)) → v.length - i.toNat < L →
  ∃ o, lop (fun σ => rElements_b1 v n g σ.1 σ.2) L (i, x) = some o ∧ oute (fun ν => rElements_k1 ν) o = some (nxts false none v i (n - x).toNat)
 | 0, i, x, _, _, _, _, _, h => by omega
 | L + 1, i, x, h0, h1, hx, hxn, hg, hL => by
  cases hxl : decide (x < n) with
  | false =>
   refine ⟨.go i, lop_o (by show rElements_b1 v n g i x = _; unfold rElements_b1; rw [cnd_ff hxl]), ?_⟩
   simp only [decide_eq_false_iff_not] at hxl
   rw [show (n - x).toNat = 0 from by omega]
   simp [oute, rElements_k1, nxts, prsF_zero, Fo.flat]
  | true =>
   have hb : rElements_b1 v n g i x = cnd (decide (nxt v i < 0)) (some (.out (.ret (-1)))) (chk (inK .i64 (x + 1)) <| some (.next (nxt v i, x + 1))) := by unfold rElements_b1; rw [cnd_tt hxl, hg i (Int.le_refl i) h1, obn_s rfl]
   simp only [decide_eq_true_eq] at hxl
   obtain ⟨k, hk⟩ : ∃ k, (n - x).toNat = k + 1 := ⟨(n - x).toNat - 1, by omega⟩
   rw [hk]
   have e : nxts false none v i (k + 1) = bif decide (nxt v i < 0) then -1 else nxts false none v (nxt v i) k := by
    unfold nxts
    rw [prsF_cons]
    simp only [prsK, cond_false]
    cases hp : prs1 (v.drop i.toNat) with
    | none => simp [nxt, hp]
    | some q =>
     obtain ⟨f, ys⟩ := q
     obtain ⟨q1, q2, q3⟩ := prs1_ok hp
     have hi : nxt v i = i + f.flat.length := by simp [nxt, hp]
     have hd : v.drop (nxt v i).toNat = ys := by rw [hi]; exact drop_app h0 q1
     rw [hd, decide_eq_false (by omega)]
     simp only [cond_false]
     cases hr : prsF false none k ys with
     | none => rfl
     | some q =>
      obtain ⟨r, zs⟩ := q
      simp only [put_flat q3, keyC, List.nil_append, List.length_append, hi]; omega
   rw [e]
   rcases nxt_range (v := v) h0 h1 with hneg | ⟨hlt, hle⟩
   ·exact ⟨.ret (-1), lop_o (hb.trans (by rw [hneg, cnd_tt (by decide)])), by rw [hneg]; rfl⟩
   ·have hM := hA.hM; have hvM := hA.hv
    obtain ⟨o, ho1, ho2⟩ := rElements_lop hA hn L (nxt v i) (x + 1) (by omega) hle (by omega) (by omega) (fun j hj => hg j (by omega)) (by omega)
    exact ⟨o, lop_n (hb.trans (by rw [cnd_ff (decide_eq_false (by omega)), chk_i64 (by omega) (by omega)])) ho1, by rw [ho2, show (n - (x + 1)).toNat = k from by omega, decide_eq_false (by omega)]; rfl⟩
theorem rPairs_lop {F : Nat} (hA : RfA F M v) {g : List TApiCell → Int → Option Int} {n : Int} (hn : n ≤ 9223372036854775807) : ∀ (L : Nat) (i x : Int) (last : Str), 0 ≤ i → i ≤ v.length → 0 ≤ x → x ≤ n → (∀ j, i ≤ j → j ≤ v.length → g v j = some (nxt v j)) → v.length - i.toNat < L →
  ∃ o, lop (fun σ => rPairs_b1 F v n g σ.1 σ.2.1 σ.2.2) L (i, last, x) = some o ∧ oute (fun ν => rPairs_k1 ν) o = some (nxts true (bif decide (0 < x) then some last else none) v i (n - x).toNat)
 | 0, i, x, _, _, _, _, _, _, h => by omega
 | L + 1, i, x, last, h0, h1, hx, hxn, hg, hL => by
  have hM := hA.hM; have hvM := hA.hv; have hMF := hA.hF
  cases hxl : decide (x < n) with
  | false =>
   refine ⟨.go i, lop_o (by show rPairs_b1 F v n g i last x = _; unfold rPairs_b1; rw [cnd_ff hxl]), ?_⟩
   simp only [decide_eq_false_iff_not] at hxl
   rw [show (n - x).toNat = 0 from by omega]
   simp [oute, rPairs_k1, nxts, prsF_zero, Fo.flat]
  | true =>
   have hxl' := hxl
   simp only [decide_eq_true_eq] at hxl
   obtain ⟨k, hk⟩ : ∃ k, (n - x).toNat = k + 1 := ⟨(n - x).toNat - 1, by omega⟩
   rw [hk]
   cases hd : v.drop i.toNat with
   | nil =>
    have hl : v.length ≤ i.toNat := by simpa using hd
    refine ⟨.ret (-1), lop_o (by
     show rPairs_b1 F v n g i last x = _
     unfold rPairs_b1
     rw [cnd_tt hxl', chk_t (by simp [imp, show (v.length : Int) ≤ i from by omega]), chk_t (by simp [imp, show (v.length : Int) ≤ i from by omega]), cnd_tt (by simp [show (v.length : Int) ≤ i from by omega])]), ?_⟩
    simp [oute, nxts, hd, prsF_cons, prsK]
   | cons c r =>
    obtain ⟨g1, g2, g3⟩ := drop_get h0 hd
    have hcM := hA.hc c (List.mem_of_getElem? g1)
    have hat := at_drop h0 hd
    have hnl : decide ((v.length : Int) ≤ i) = false := by simp; omega
    have hb : rPairs_b1 F v n g i last x = cnd (!(decide (c.fKind = 4) && pl c) || decide (0 < x) && (sLess c.fStr last || decide (c.fStr = last))) (some (.out (.ret (-1)))) (obn (g v (i + 1)) fun r106 => cnd (decide (r106 < 0)) (some (.out (.ret (-1)))) (chk (inK .i64 (x + 1)) <| some (.next (r106, c.fStr, x + 1)))) := by
     unfold rPairs_b1
     rw [cnd_tt hxl', chk_t (by simp only [imp]; rw [inR' h0 g3]; simp), hat, rKey_eq (by omega) (by omega), chk_t (by simp [imp])]
     simp only [hnl, ov, Option.getD_some, Bool.false_or]
     rw [chk_inR h0 g3, chk_i64 (by omega) (by omega)]
    have hpk : prsK true (bif decide (0 < x) then some last else none) (c :: r) = bif (!(decide (c.fKind = 4) && pl c) || decide (0 < x) && (sLess c.fStr last || decide (c.fStr = last))) then none else some (some c.fStr, r) := by
     simp only [prsK, cond_true]
     cases h4 : decide (c.fKind = 4) with
     | false => simp
     | true =>
      cases hp : pl c with
      | false => simp
      | true =>
       have hok := (pl_key hp (by simpa using h4)).2
       cases h0x : decide (0 < x) with
       | false => simp [keyOk, hok]
       | true => cases hs : (sLess c.fStr last || decide (c.fStr = last)) <;> simp [keyOk, hok, hs]
    cases ht : (!(decide (c.fKind = 4) && pl c) || decide (0 < x) && (sLess c.fStr last || decide (c.fStr = last))) with
    | true =>
     rw [ht] at hpk
     refine ⟨.ret (-1), lop_o (hb.trans (cnd_tt ht)), ?_⟩
     simp only [nxts, hd, prsF_cons, hpk, cond_true]; rfl
    | false =>
     rw [ht] at hpk
     rw [cnd_ff ht, hg (i + 1) (by omega) (by omega), obn_s rfl] at hb
     have e : nxts true (bif decide (0 < x) then some last else none) v i (k + 1) = bif decide (nxt v (i + 1) < 0) then -1 else nxts true (some c.fStr) v (nxt v (i + 1)) k := by
      unfold nxts
      rw [hd, prsF_cons, hpk]
      simp only [cond_false]
      have hx : nxt v (i + 1) = match prs1 r with | none => -1 | some (f, _) => i + 1 + f.flat.length := by unfold nxt; rw [g2]
      cases hp : prs1 r with
      | none => rw [hp] at hx; simp [hx]
      | some q =>
       obtain ⟨f, ys⟩ := q
       obtain ⟨q1, q2, q3⟩ := prs1_ok hp
       rw [hp] at hx
       simp only at hx
       have hd2 : v.drop (nxt v (i + 1)).toNat = ys := by rw [hx]; exact drop_app (by omega) (g2.trans q1)
       rw [hd2, decide_eq_false (by omega)]
       simp only [cond_false]
       cases hr : prsF true (some c.fStr) k ys with
       | none => rfl
       | some q =>
        obtain ⟨r', zs⟩ := q
        simp only [put_flat q3, keyC, List.length_append, List.length_cons, List.length_nil, hx]; omega
     rw [e]
     rcases nxt_range (v := v) (i := i + 1) (by omega) (by omega) with hneg | ⟨hlt, hle⟩
     ·exact ⟨.ret (-1), lop_o (hb.trans (by rw [hneg, cnd_tt (by decide)])), by rw [hneg]; rfl⟩
     ·obtain ⟨o, ho1, ho2⟩ := rPairs_lop hA hn L (nxt v (i + 1)) (x + 1) c.fStr (by omega) hle (by omega) (by omega) (fun j hj => hg j (by omega)) (by omega)
      exact ⟨o, lop_n (hb.trans (by rw [cnd_ff (decide_eq_false (by omega)), chk_i64 (by omega) (by omega)])) ho1, by rw [ho2, show (n - (x + 1)).toNat = k from by omega, decide_eq_true (show (0 : Int) < x + 1 from by omega), decide_eq_false (by omega)]; rfl⟩
theorem nxts_one {i : Int} {c : TApiCell} {r : List TApiCell} (h0 : 0 ≤ i) (hd : v.drop i.toNat = c :: r) (hp : pl c = true) : nxt v i = nxts (decide (c.fKind = 6)) none v (i + 1) c.fN.toNat := by
 have g2 := (drop_get h0 hd).2.1
 have hN := pl_N hp
 unfold nxt nxts
 rw [hd, prs1_cons, g2, hp]
 simp only [Bool.not_true, cond_false]
 cases hn : decide (0 < c.fN) with
 | true =>
  simp only [cond_true]
  cases hq : prsF (decide (c.fKind = 6)) none c.fN.toNat r with
  | none => rfl
  | some q =>
   obtain ⟨kids, zs⟩ := q
   simp only [Fo.flat, keyC, List.nil_append, List.length_cons, List.append_nil]; omega
 | false =>
  simp only [decide_eq_false_iff_not] at hn
  rw [show c.fN.toNat = 0 from by omega, prsF_zero]
  simp [Fo.flat, keyC]
theorem rNext_eq (hA : RfA (M + 1) M v) (hN : ∀ c ∈ v, c.fN ≤ 9223372036854775807) : ∀ (d F : Nat) (i : Int), 0 ≤ i → i ≤ v.length → v.length - i.toNat = d → M + 2 * d + 3 < F → rNext F v i = some (nxt v i) := by
 have hM := hA.hM; have hvM := hA.hv
 intro d
 induction d using Nat.strongRecOn with
 | ind d ih =>
  intro F i h0 h1 hd hF
  obtain ⟨F, rfl⟩ : ∃ G, F = G + 1 := ⟨F - 1, by omega⟩
  obtain ⟨F, rfl⟩ : ∃ G, F = G + 1 := ⟨F - 1, by omega⟩
  rw [rNext]
  unfold rNextm
  cases hdr : v.drop i.toNat with
  | nil =>
   have hl : v.length ≤ i.toNat := by simpa using hdr
   rw [cnd_tt (by simp; omega)]
   simp [nxt, hdr, prs1_nil]
  | cons c r =>
   obtain ⟨g1, g2, g3⟩ := drop_get h0 hdr
   have hcM := hA.hc c (List.mem_of_getElem? g1)
   have hcN := hN c (List.mem_of_getElem? g1)
   rw [cnd_ff (by simp; omega), chk_inR h0 g3, at_drop h0 hdr]
   simp only [rAfter_eq _ h0 (show i ≤ 1152921504606846976 by omega), Option.isSome_some, ov, Option.getD_some, imp, Bool.or_true, chk_t (x := _) (rfl : true = true)]
   have hg : ∀ j, i + 1 ≤ j → j ≤ v.length → rNext F v j = some (nxt v j) := fun j hj hj2 => ih (v.length - j.toNat) (by omega) F j (by omega) hj2 rfl (by omega)
   have hpl0 : pl c = false → nxt v i = -1 := fun hp => by simp [nxt, hdr, prs1_cons, hp]
   have hleaf : pl c = true → c.fN = 0 → nxt v i = i + 1 := fun hp h0' => by simp [nxt, hdr, prs1_cons, hp, h0', Fo.flat, keyC]
   have hscal : ∀ b : Bool, pl c = b → (b = true → c.fN = 0) → nxt v i = bif b then i + 1 else -1 := fun b hb hz => by
    cases b
    ·exact hpl0 hb
    ·exact hleaf hb (hz rfl)
   by_cases k1 : c.fKind = 1
   ·rw [cnd_tt (by simp [k1])]
    have hp : pl c = (decide (c.fInt = 0) && (decide (c.fStr = []) && decide (c.fN = 0))) := by simp [pl, k1]
    rw [hscal _ hp (fun h => by simp at h; exact h.2.2)]
    cases decide (c.fInt = 0) <;> cases decide (c.fStr = []) <;> cases decide (c.fN = 0) <;> rfl
   rw [cnd_ff (by simp [k1])]
   by_cases k2 : c.fKind = 2
   ·rw [cnd_tt (by simp [k2])]
    have hp : pl c = ((decide (c.fInt = 0) || decide (c.fInt = 1)) && (decide (c.fStr = []) && decide (c.fN = 0))) := by simp [pl, k2]
    rw [hscal _ hp (fun h => by simp at h; exact h.2.2)]
    cases decide (c.fInt = 0) <;> cases decide (c.fInt = 1) <;> cases decide (c.fStr = []) <;> cases decide (c.fN = 0) <;> rfl
   rw [cnd_ff (by simp [k2])]
   by_cases k3 : c.fKind = 3
   ·rw [cnd_tt (by simp [k3])]
    have hp : pl c = (decide (c.fStr = []) && decide (c.fN = 0)) := by simp [pl, k3]
    rw [hscal _ hp (fun h => by simp at h; exact h.2)]
    cases decide (c.fStr = []) <;> cases decide (c.fN = 0) <;> rfl
   rw [cnd_ff (by simp [k3])]
   by_cases k4 : c.fKind = 4
   ·rw [cnd_tt (by simp [k4]), rKey_eq (by omega) (by omega), obn_s rfl, obn_s rfl]
    rw [decide_eq_true k4, Bool.true_and, hscal (pl c) rfl (fun hp => by have := (pl_key hp k4).1; rw [this])]
   rw [cnd_ff (by simp [k4])]
   by_cases k5 : c.fKind = 5
   ·have hp : pl c = (decide (c.fInt = 0) && (decide (c.fStr = []) && decide (0 ≤ c.fN))) := by simp [pl, k5]
    rw [show (decide (c.fKind = 5) && (decide (c.fInt = 0) && (decide (c.fStr = []) && decide (0 ≤ c.fN)))) = pl c from by rw [hp, decide_eq_true k5, Bool.true_and]]
    have k5' : ¬ c.fKind = 6 := by omega
    cases hb : pl c with
    | false => rw [cnd_ff rfl, cnd_ff (by simp [k5]), hpl0 hb]
    | true =>
     have hn0 := pl_N hb
     rw [cnd_tt rfl, chk_i64 (by omega) (by omega), rElements]
     unfold rElementsm
     obtain ⟨o, ho1, ho2⟩ := rElements_lop (F := F) ⟨hM, hvM, by omega, hA.hc⟩ hcN F (i + 1) 0 (by omega) (by omega) (Int.le_refl 0) hn0 hg (by omega)
     rw [obn_s ho1, ho2, obn_s rfl, nxts_one h0 hdr hb, decide_eq_false k5', Int.sub_zero]
   rw [cnd_ff (by simp [k5])]
   by_cases k6 : c.fKind = 6
   ·have hp : pl c = (decide (c.fInt = 0) && (decide (c.fStr = []) && decide (0 ≤ c.fN))) := by simp [pl, k6]
    rw [show (decide (c.fKind = 6) && (decide (c.fInt = 0) && (decide (c.fStr = []) && decide (0 ≤ c.fN)))) = pl c from by rw [hp, decide_eq_true k6, Bool.true_and]]
    cases hb : pl c with
    | false => rw [cnd_ff rfl, hpl0 hb]
    | true =>
     have hn0 := pl_N hb
     rw [cnd_tt rfl, chk_i64 (by omega) (by omega), rPairs]
     unfold rPairsm
     obtain ⟨o, ho1, ho2⟩ := rPairs_lop (F := F) ⟨hM, hvM, by omega, hA.hc⟩ hcN F (i + 1) 0 [] (by omega) (by omega) (Int.le_refl 0) hn0 hg (by omega)
     rw [obn_s ho1, ho2, obn_s rfl, nxts_one h0 hdr hb, decide_eq_true k6, Int.sub_zero]
     rfl
   ·rw [cnd_ff (by simp [k6]), hpl0 (by simp [pl, k1, k2, k3, k4, k5, k6])]
theorem rFormed_eq (hA : RfA (M + 1) M v) (hN : ∀ c ∈ v, c.fN ≤ 9223372036854775807) {F : Nat} (hF : 3 * M + 3 < F) : rFormed F v = some (decide (nxt v 0 = v.length)) := by
 have hvM := hA.hv
 unfold rFormed
 rw [rNext_eq hA hN v.length F 0 (Int.le_refl 0) (by omega) (by simp) (by omega)]
 simp only [imp, Option.isSome_some, Bool.or_true, chk_t, ov, Option.getD_some]
 cases v with
 | nil => simp [nxt, prs1_nil]
 | cons c r =>
  rw [show decide (0 < ((c :: r).length : Int)) = true from by simp, Bool.true_and]
  rfl
end
end Go.Proofs.YtkalifgebccpcaaGreatDoor

/-
 The plain reader reads each forest's cells; value.Check, and the reference's levels. Plain laws.
-/
namespace Go.Proofs.YtkalifgebccpcaaGreatDoor
open Go
set_option linter.unusedVariables false
set_option linter.unusedSimpArgs false
theorem prsK_of {m : Bool} {last key : Option Str} {r : List TApiCell} (h : keyOk m last key = true) : prsK m last (keyC key ++ r) = some (key, r) := by
 cases key with
 | none =>
  have : m = false := by simpa [keyOk] using h
  subst this; rfl
 | some s =>
  have h' := h
  simp only [keyOk, Bool.and_eq_true] at h
  obtain ⟨⟨h1, h2⟩, h3⟩ := h
  subst h1
  have hp : pl ⟨4, 0, s, 0⟩ = true := by simp [pl, h2]
  show (bif pl ⟨4, 0, s, 0⟩ && decide ((4 : Int) = 4) && keyOk true last (some s) then _ else _) = _
  rw [hp, h']; rfl
theorem prsF_of : ∀ (f : Fo) (m : Bool) (last : Option Str) (ys : List TApiCell), f.wf m last = true → prsF m last f.cnt (f.flat ++ ys) = some (f, ys)
 | .nil, _, _, _, _ => rfl
 | .cell k c r, m, last, ys, hw => by
  simp only [Fo.wf, Bool.and_eq_true, Bool.not_eq_true'] at hw
  obtain ⟨⟨⟨w1, w2⟩, w3⟩, w4⟩ := hw
  simp only [Fo.cnt, Fo.flat, List.append_assoc, List.cons_append]
  rw [prsF_cons, prsK_of w1]
  simp only [prs1_cons, w2, w3, Bool.not_true, cond_false, prsF_of r m k ys w4, Fo.put]
 | .node k c kids r, m, last, ys, hw => by
  simp only [Fo.wf, Bool.and_eq_true, decide_eq_true_eq] at hw
  obtain ⟨⟨⟨⟨⟨w1, w2⟩, w3⟩, w5⟩, w6⟩, w4⟩ := hw
  simp only [Fo.cnt, Fo.flat, List.append_assoc, List.cons_append]
  rw [prsF_cons, prsK_of w1]
  have e : c.fN.toNat = kids.cnt := by omega
  simp only [prs1_cons, w2, decide_eq_true w3, Bool.not_true, cond_false, cond_true, e, prsF_of kids _ none (r.flat ++ ys) w6, prsF_of r m k ys w4, Fo.put]
theorem prs1_of {f : Fo} {ys : List TApiCell} (h1 : f.one = true) (hw : f.wf false none = true) : prs1 (f.flat ++ ys) = some (f, ys) := by
 have := prsF_of f false none ys hw
 have hc : f.cnt = 1 := by
  cases f with
  | nil => cases h1
  | cell k c r => cases k with
   | some _ => cases h1
   | none => cases r with
    | nil => rfl
    | _ => cases h1
  | node k c kids r => cases k with
   | some _ => cases h1
   | none => cases r with
    | nil => rfl
    | _ => cases h1
 rw [hc] at this
 exact this
structure CkA (M : Nat) (v : List TApiCell) : Prop where
 hM : M ≤ 1000000000
 hv : v.length ≤ M
 hc : ∀ c ∈ v, c.fStr.length ≤ M ∧ inK .i64 c.fInt = true ∧ c.fN ≤ 9223372036854775807
theorem CkA.lk {M F : Nat} {v : List TApiCell} (h : CkA M v) (hF : M < F) : LkA F M v := ⟨by have := h.hM; omega, by have := h.hM; omega, h.hv, hF, h.hc⟩
theorem CkA.rf {M F : Nat} {v : List TApiCell} (h : CkA M v) (hF : M < F) : RfA F M v := ⟨by have := h.hM; omega, h.hv, hF, fun c hc => (h.hc c hc).1⟩
theorem CkA.drop {M : Nat} {v : List TApiCell} (h : CkA M v) (k : Nat) : CkA M (v.drop k) := ⟨h.hM, by have := h.hv; rw [List.length_drop]; omega, fun c hc => h.hc c (List.mem_of_mem_drop hc)⟩
theorem CkA.take {M : Nat} {v : List TApiCell} (h : CkA M v) (k : Nat) : CkA M (v.take k) := ⟨h.hM, by have := h.hv; rw [List.length_take]; omega, fun c hc => h.hc c (List.mem_of_mem_take hc)⟩
def whole (v : List TApiCell) : Option Fo := match prs1 v with
 | some (f, []) => some f
 | _ => none
theorem whole_some {v : List TApiCell} {f : Fo} (h : whole v = some f) : v = f.flat ∧ f.wf false none = true ∧ f.one = true := by
 unfold whole at h
 cases hp : prs1 v with
 | none => rw [hp] at h; cases h
 | some q =>
  obtain ⟨g, ys⟩ := q
  rw [hp] at h
  cases ys with
  | cons _ _ => cases h
  | nil =>
   cases h
   obtain ⟨h1, h2, h3⟩ := prs1_ok hp
   exact ⟨by simpa using h1, h2, h3⟩
theorem whole_of {f : Fo} (h1 : f.one = true) (hw : f.wf false none = true) : whole f.flat = some f := by
 have := prs1_of (ys := []) h1 hw
 rw [List.append_nil] at this
 simp [whole, this]
def errF (f : Fo) : Int :=
 bif f.flat.any outC then 2 else bif f.flat.any longC || (decide (200 < f.flat.length) || (decide (8 < f.dep) || decide (4000 < (f.txt true).length))) then 3 else 0
def errV (v : List TApiCell) : Int := match whole v with
 | none => 1
 | some f => errF f
theorem one_cnt {f : Fo} (h1 : f.one = true) : f.cnt = 1 := by
 cases f with
 | nil => cases h1
 | cell k c r => cases k with
  | some _ => cases h1
  | none => cases r with
   | nil => rfl
   | _ => cases h1
 | node k c kids r => cases k with
  | some _ => cases h1
  | none => cases r with
   | nil => rfl
   | _ => cases h1
theorem qlen_le (s : Str) : qlen s ≤ 2 * s.length + 2 + s.length := by
 have h1 : s.count 34 ≤ s.length := List.count_le_length
 have h2 : s.count 92 ≤ s.length := List.count_le_length
 unfold qlen; omega
theorem lsz_le {c : TApiCell} {M : Nat} (hp : pl c = true) (hs : c.fStr.length ≤ M) (hi : (Lib.itoa c.fInt).length ≤ 21) : lsz c ≤ 3 * M + 21 := by
 have := qlen_le c.fStr
 unfold lsz
 cases h1 : decide (c.fKind = 1) with
 | true => simp only [cond_true]; omega
 | false =>
  cases h2 : decide (c.fKind = 2) with
  | true =>
   simp [pl, h1, h2] at hp
   simp only [cond_false, cond_true]; omega
  | false =>
   cases h3 : decide (c.fKind = 3) with
   | true => simp only [cond_false, cond_true]; omega
   | false => cases h4 : decide (c.fKind = 4) <;> simp only [cond_false, cond_true] <;> omega
theorem byt_le {M : Nat} : ∀ {f : Fo} {m : Bool} {l : Option Str}, f.wf m l = true → (∀ c ∈ f.flat, c.fStr.length ≤ M ∧ inK .i64 c.fInt = true ∧ c.fN ≤ 9223372036854775807) → f.byt + f.cnt ≤ (3 * M + 24) * f.flat.length
 | .nil, _, _, _, _ => by simp [Fo.byt, Fo.flat, Fo.cnt]
 | .cell k c r, m, l, hw, hc => by
  simp only [Fo.wf, Bool.and_eq_true, Bool.not_eq_true'] at hw
  obtain ⟨⟨⟨w1, w2⟩, w3⟩, w4⟩ := hw
  simp only [Fo.flat] at hc
  have ih := byt_le w4 (fun x hx => hc x (by simp [hx]))
  obtain ⟨c1, c2, c3⟩ := hc c (by simp)
  have i64 := inK_i64 c2
  have hl := lsz_le w2 c1 (Lib.itoa_length_le c.fInt i64.1 i64.2)
  have hk : kbn k ≤ (3 * M + 24) * (keyC k).length := by
   cases k with
   | none => simp [kbn, keyC]
   | some s =>
    have := (hc ⟨4, 0, s, 0⟩ (by simp [keyC])).1
    have h2 := qlen_le s
    simp only at this
    simp only [kbn, keyC, List.length_singleton]; omega
  simp only [Fo.byt, Fo.flat, Fo.cnt, List.length_append, List.length_cons]
  have e : ((3 * (M : Int) + 24) * (((keyC k).length + (r.flat.length + 1) : Nat) : Int)) = (3 * (M : Int) + 24) * (keyC k).length + ((3 * (M : Int) + 24) * r.flat.length + (3 * (M : Int) + 24)) := by
   push_cast; rw [Int.mul_add, Int.mul_add, Int.mul_one]
  rw [e]
  push_cast at *
  omega
 | .node k c kids r, m, l, hw, hc => by
  simp only [Fo.wf, Bool.and_eq_true, decide_eq_true_eq] at hw
  obtain ⟨⟨⟨⟨⟨w1, w2⟩, w3⟩, w5⟩, w6⟩, w4⟩ := hw
  simp only [Fo.flat] at hc
  have ih := byt_le w4 (fun x hx => hc x (by simp [hx]))
  have ih2 := byt_le w6 (fun x hx => hc x (by simp [hx]))
  have hcf := cnt_le_flat kids
  have hk : kbn k ≤ (3 * M + 24) * (keyC k).length := by
   cases k with
   | none => simp [kbn, keyC]
   | some s =>
    have := (hc ⟨4, 0, s, 0⟩ (by simp [keyC])).1
    have h2 := qlen_le s
    simp only at this
    simp only [kbn, keyC, List.length_singleton]; omega
  simp only [Fo.byt, Fo.flat, Fo.cnt, List.length_append, List.length_cons]
  have e : ((3 * (M : Int) + 24) * (((keyC k).length + (kids.flat.length + r.flat.length + 1) : Nat) : Int)) = (3 * (M : Int) + 24) * (keyC k).length + ((3 * (M : Int) + 24) * kids.flat.length + (3 * (M : Int) + 24) * r.flat.length + (3 * (M : Int) + 24)) := by
   push_cast; rw [Int.mul_add, Int.mul_add, Int.mul_add, Int.mul_one]
  rw [e]
  push_cast at *
  omega
theorem byt_bound {M : Nat} (hM : M ≤ 1000000) {f : Fo} {m : Bool} {l : Option Str} (hw : f.wf m l = true) (hl : f.flat.length ≤ M) (hc : ∀ c ∈ f.flat, c.fStr.length ≤ M ∧ inK .i64 c.fInt = true ∧ c.fN ≤ 9223372036854775807) : f.byt ≤ 4000000000000 := by
 have := byt_le (M := M) hw hc
 have h2 : (3 * M + 24) * f.flat.length ≤ (3 * 1000000 + 24) * 1000000 := Nat.mul_le_mul (by omega) (by omega)
 have h3 : (((3 * M + 24) * f.flat.length : Nat) : Int) = (3 * (M : Int) + 24) * f.flat.length := by push_cast; rfl
 omega
theorem vCheck_eq {M F : Nat} {v : List TApiCell} (hA : CkA M v) (hM : M ≤ 1000000) (hF : M < F) : vCheck F v = some (errV v) := by
 unfold vCheck errV whole
 have hvM := hA.hv
 rcases look_eq (hA.lk hF) with ⟨f, ys, hp, hl⟩ | ⟨hp, sh', hl⟩
 ·rw [hl, obn_s rfl, hp]
  obtain ⟨h1, h2, h3⟩ := prs1_ok hp
  have hlen : v.length = f.flat.length + ys.length := by rw [h1]; simp
  cases ys with
  | cons c r =>
   rw [cnd_tt]
   simp only [List.length_cons] at hlen
   simp; omega
  | nil =>
   simp only [List.length_nil, Nat.add_zero] at hlen
   rw [cnd_ff (by simp [hlen])]
   have hc : ∀ c ∈ f.flat, c.fStr.length ≤ M ∧ inK .i64 c.fInt = true ∧ c.fN ≤ 9223372036854775807 := fun c hc => hA.hc c (by rw [h1]; simp [hc])
   have hb := byt_bound hM h2 (by omega) hc
   have hb0 := byt_pos h2
   have e1 : (f.sh 0 sh0).fOutside = f.flat.any outC := by rw [sh_out]; rfl
   have e2 : (f.sh 0 sh0).fLong = f.flat.any longC := by rw [sh_long]; rfl
   have e3 : (f.sh 0 sh0).fDepth = f.dep := by rw [sh_depth f 0 sh0 (by simp [sh0])]; simp [sh0]
   have e4 : (f.sh 0 sh0).fBytes = (f.txt true).length := by
    rw [sh_bytes f false none 0 sh0 h2 (by simp [sh0]) (by simp [sh0]; omega), txt_len f false none true h2, one_cnt h3]; simp [sh0]
   simp only
   rw [e1, e2, e3, e4, hlen]
   unfold errF
   cases f.flat.any outC with
   | true => rw [cnd_tt rfl]; rfl
   | false =>
    rw [cnd_ff rfl]
    have a1 : decide ((200 : Int) < (f.flat.length : Int)) = decide (200 < f.flat.length) := by rw [Bool.eq_iff_iff]; simp; omega
    have a2 : decide ((8 : Int) < (f.dep : Int)) = decide (8 < f.dep) := by rw [Bool.eq_iff_iff]; simp; omega
    have a3 : decide ((4000 : Int) < ((f.txt true).length : Int)) = decide (4000 < (f.txt true).length) := by rw [Bool.eq_iff_iff]; simp; omega
    rw [a1, a2, a3]
    cases (f.flat.any longC || (decide (200 < f.flat.length) || (decide (8 < f.dep) || decide (4000 < (f.txt true).length)))) <;> rfl
 ·rw [hl, obn_s rfl, hp]; rfl
end Go.Proofs.YtkalifgebccpcaaGreatDoor

/-
 The reference's levels and texts of a forest. Plain laws.
-/
namespace Go.Proofs.YtkalifgebccpcaaGreatDoor
open Go
set_option linter.unusedVariables false
set_option linter.unusedSimpArgs false
theorem nxt_of {v : List TApiCell} {p : Int} {f : Fo} {ys : List TApiCell} (h1 : f.one = true) (hw : f.wf false none = true) (hd : v.drop p.toNat = f.flat ++ ys) : nxt v p = p + f.flat.length := by
 unfold nxt
 rw [hd, prs1_of h1 hw]
theorem wf_leaf {c : TApiCell} (hp : pl c = true) (hn : decide (0 < c.fN) = false) : (Fo.cell none c .nil).wf false none = true := by simp [Fo.wf, keyOk, hp, hn]
theorem wf_node {c : TApiCell} {kids : Fo} (hp : pl c = true) (hn : 0 < c.fN) (hk : c.fN = kids.cnt) (hw : kids.wf (decide (c.fKind = 6)) none = true) : (Fo.node none c kids .nil).wf false none = true := by simp [Fo.wf, keyOk, hp, hn, hk, hw]; omega
section
variable {M : Nat} {v : List TApiCell}
theorem CkA.next (hA : CkA M v) {F : Nat} (hF : 3 * M + 3 < F) {p : Int} (h0 : 0 ≤ p) (h1 : p ≤ v.length) : rNext F v p = some (nxt v p) := by
 have hM := hA.hM; have hvM := hA.hv
 exact rNext_eq (hA.rf (Nat.lt_succ_self M)) (fun c hc => (hA.hc c hc).2.2) (v.length - p.toNat) F p h0 h1 rfl (by omega)
theorem rLevels_leaf {F : Nat} {p : Int} {c : TApiCell} {r : List TApiCell} (h0 : 0 ≤ p) (hpM : p ≤ 1152921504606846976) (hd : v.drop p.toNat = c :: r) (hp : pl c = true) (hn : decide (0 < c.fN) = false) : rLevels (F + 2) v p = some 1 := by
 obtain ⟨g1, g2, g3⟩ := drop_get h0 hd
 rw [rLevels]
 unfold rLevelsm
 rw [chk_inR h0 g3, at_drop h0 hd]
 cases hk : (!decide (c.fKind = 5) && !decide (c.fKind = 6)) with
 | true => rw [cnd_tt rfl]
 | false =>
  rw [cnd_ff rfl, chk_i64 (by omega) (by omega), obn_s (lop_o (o := .go 0) (by
   show rLevels_b1 (F + 1) v p _ 0 (p + 1) 0 = _
   unfold rLevels_b1
   rw [at_drop h0 hd, cnd_ff hn]))]
  simp only [oute, rLevels_k1]
  rw [chk_i64 (by omega) (by omega)]; rfl
theorem rLev_body {F : Nat} {i : Int} {rec : List TApiCell → Int → Option Int} {most at_ x L : Int} {m : Bool} {p q : Int} {pc : TApiCell} (hpc : at' v i = pc) (hm : decide (pc.fKind = 6) = m) (hx : x < pc.fN) (hx0 : 0 ≤ x) (hpcN : pc.fN ≤ 9223372036854775807)
  (ha0 : 0 ≤ at_) (haM : at_ ≤ 1152921504606846976) (hp : p = bif m then at_ + 1 else at_) (hr : rec v p = some L) (hq : rNext F v p = some q) : rLevels_b1 F v i rec most at_ x = some (.next (max most L, q, x + 1)) := by
 unfold rLevels_b1
 rw [hpc, cnd_tt (by simpa using hx), hm]
 cases m with
 | true =>
  simp only [cond_true] at hp
  rw [cnd_tt rfl, chk_i64 (by omega) (by omega), ← hp, hr, obn_s rfl]
  cases hl : decide (most < L) with
  | true => rw [cnd_tt rfl, hq, obn_s rfl, chk_i64 (by omega) (by omega), Int.max_eq_right (by simp at hl; omega)]
  | false => rw [cnd_ff rfl, hq, obn_s rfl, chk_i64 (by omega) (by omega), Int.max_eq_left (by simp at hl; omega)]
 | false =>
  simp only [cond_false] at hp
  rw [cnd_ff rfl, ← hp, hr, obn_s rfl]
  cases hl : decide (most < L) with
  | true => rw [cnd_tt rfl, hq, obn_s rfl, chk_i64 (by omega) (by omega), Int.max_eq_right (by simp at hl; omega)]
  | false => rw [cnd_ff rfl, hq, obn_s rfl, chk_i64 (by omega) (by omega), Int.max_eq_left (by simp at hl; omega)]
theorem key_len {m : Bool} {last key : Option Str} (h : keyOk m last key = true) : ((keyC key).length : Int) = bif m then 1 else 0 := by
  cases key with
  | none => have : m = false := by simpa [keyOk] using h
            subst this; rfl
  | some s => simp only [keyOk, Bool.and_eq_true] at h; rw [h.1.1]; rfl
theorem rLev_forest (hA : CkA M v) : ∀ (g : Fo) (F L : Nat) (i at_ x most : Int) (m : Bool) (last : Option Str) (ys : List TApiCell) (pc : TApiCell), at' v i = pc → decide (pc.fKind = 6) = m → pc.fN ≤ 9223372036854775807 → g.wf m last = true → v.drop at_.toNat = g.flat ++ ys → 0 ≤ at_ → at_ ≤ v.length → pc.fN = x + g.cnt → 0 ≤ x → 0 ≤ most → most ≤ 1152921504606846976 → g.cnt < L → 3 * M + 5 + g.flat.length < F →
  ∃ o, lop (fun σ => rLevels_b1 F v i (rLevels F) σ.1 σ.2.1 σ.2.2) L (most, at_, x) = some o ∧ oute (fun ν => rLevels_k1 ν) o = some (max most (g.dep : Int) + 1) := by
 have hM := hA.hM; have hvM := hA.hv
 have fin : ∀ (F L : Nat) (i at_ x most : Int) (pc : TApiCell), at' v i = pc → pc.fN ≤ x → 0 ≤ most → most ≤ 1152921504606846976 → 0 < L → ∃ o, lop (fun σ => rLevels_b1 F v i (rLevels F) σ.1 σ.2.1 σ.2.2) L (most, at_, x) = some o ∧ oute (fun ν => rLevels_k1 ν) o = some (most + 1) := fun F L i at_ x most pc hpc hx h0 hb hL => by
  obtain ⟨L, rfl⟩ : ∃ K, L = K + 1 := ⟨L - 1, by omega⟩
  refine ⟨.go most, lop_o (by show rLevels_b1 F v i _ most at_ x = _; unfold rLevels_b1; rw [hpc, cnd_ff (by simp; omega)]), ?_⟩
  simp only [oute, rLevels_k1]
  rw [chk_i64 (by omega) (by omega)]
 have depM : ∀ g : Fo, g.dep ≤ g.flat.length := by
  intro g
  induction g with
  | nil => simp [Fo.dep]
  | cell k c r ih => simp [Fo.dep, Fo.flat]; omega
  | node k c kids r ih1 ih2 => simp [Fo.dep, Fo.flat]; omega
 intro g
 induction g with
 | nil =>
  intro F L i at_ x most m last ys pc hpc hm hpN hw hd h0 h1 hN hx hmo hmM hL hF
  obtain ⟨o, h1, h2⟩ := fin F L i at_ x most pc hpc (by simp [Fo.cnt] at hN; omega) hmo hmM (by omega)
  exact ⟨o, h1, by rw [h2]; simp only [Fo.dep]; congr 2 <;> omega⟩
 | cell k c r ih =>
  intro F L i at_ x most m last ys pc hpc hm hpN hw hd h0 h1 hN hx hmo hmM hL hF
  simp only [Fo.wf, Bool.and_eq_true, Bool.not_eq_true'] at hw
  obtain ⟨⟨⟨w1, w2⟩, w3⟩, w4⟩ := hw
  simp only [Fo.flat, List.append_assoc, List.cons_append] at hd
  simp only [Fo.cnt] at hN hL
  simp only [Fo.flat, List.length_append, List.length_cons] at hF
  obtain ⟨L, rfl⟩ : ∃ K, L = K + 1 := ⟨L - 1, by omega⟩
  obtain ⟨F, rfl⟩ : ∃ K, F = K + 2 := ⟨F - 2, by omega⟩
  have hd1 := drop_app h0 hd
  have hkl := key_len w1
  obtain ⟨g1, g2, g3⟩ := drop_get (by omega) hd1
  have hlen : at_ + (keyC k).length = bif m then at_ + 1 else at_ := by rw [hkl]; cases m <;> simp
  have hq := hA.next (F := F + 2) (by omega) (p := at_ + (keyC k).length) (by omega) (by omega)
  rw [nxt_of (f := .cell none c .nil) (ys := r.flat ++ ys) rfl (wf_leaf w2 w3) hd1] at hq
  have hb := rLev_body (most := most) (x := x) hpc hm (by omega) hx hpN h0 (by omega) hlen (rLevels_leaf (F := F) (by omega) (by omega) hd1 w2 w3) hq
  have hdd := depM r
  obtain ⟨o, ho1, ho2⟩ := ih (F + 2) L i (at_ + (keyC k).length + ((Fo.cell none c .nil).flat.length : Int)) (x + 1) (max most 1) m k ys pc hpc hm hpN w4 (by rw [show (Fo.cell none c .nil).flat.length = 1 from rfl]; exact g2) (by omega) (by rw [show (Fo.cell none c .nil).flat.length = 1 from rfl]; omega) (by omega) (by omega) (by omega) (by omega) (by omega) (by omega)
  refine ⟨o, lop_n hb ho1, ?_⟩
  rw [ho2, Fo.dep]; congr 2 <;> omega
 | node k c kids r ihk ih =>
  intro F L i at_ x most m last ys pc hpc hm hpN hw hd h0 h1 hN hx hmo hmM hL hF
  simp only [Fo.wf, Bool.and_eq_true, decide_eq_true_eq] at hw
  obtain ⟨⟨⟨⟨⟨w1, w2⟩, w3⟩, w5⟩, w6⟩, w4⟩ := hw
  simp only [Fo.flat, List.append_assoc, List.cons_append] at hd
  simp only [Fo.cnt] at hN hL
  simp only [Fo.flat, List.length_append, List.length_cons] at hF
  obtain ⟨L, rfl⟩ : ∃ K, L = K + 1 := ⟨L - 1, by omega⟩
  obtain ⟨F, rfl⟩ : ∃ K, F = K + 1 := ⟨F - 1, by omega⟩
  have hd1 := drop_app h0 hd
  have hkl := key_len w1
  obtain ⟨g1, g2, g3⟩ := drop_get (by omega) hd1
  have hcN := (hA.hc c (List.mem_of_getElem? g1)).2.2
  have hlen : at_ + (keyC k).length = bif m then at_ + 1 else at_ := by rw [hkl]; cases m <;> simp
  have hq := hA.next (F := F + 1) (by omega) (p := at_ + (keyC k).length) (by omega) (by omega)
  have hfl : (Fo.node none c kids .nil).flat = c :: kids.flat := by simp [Fo.flat, keyC]
  rw [nxt_of (f := .node none c kids .nil) (ys := r.flat ++ ys) rfl (wf_node w2 w3 w5 w6) (by rw [hd1, hfl]; simp)] at hq
  have hdk := depM kids
  have hdd := depM r
  have hcf := cnt_le_flat kids
  have hvl : (v.drop (at_ + (keyC k).length + 1).toNat).length = kids.flat.length + (r.flat.length + ys.length) := by rw [g2]; simp
  rw [List.length_drop] at hvl
  have hrec : rLevels (F + 1) v (at_ + (keyC k).length) = some ((kids.dep : Int) + 1) := by
   rw [rLevels]
   unfold rLevelsm
   rw [chk_inR (by omega) g3, at_drop (by omega) hd1]
   have hk56 := (pl_node w2 w3).1
   rw [cnd_ff (by simp; omega), chk_i64 (by omega) (by omega)]
   obtain ⟨o, ho1, ho2⟩ := ihk F F (at_ + (keyC k).length) (at_ + (keyC k).length + 1) 0 0 _ none (r.flat ++ ys) c (at_drop (by omega) hd1) rfl hcN w6 (by rw [g2]) (by omega) (by omega) (by omega) (Int.le_refl 0) (Int.le_refl 0) (by omega) (by omega) (by omega)
   rw [obn_s ho1, ho2]; congr 2 <;> omega
  have hb := rLev_body (most := most) (x := x) hpc hm (by omega) hx hpN h0 (by omega) hlen hrec hq
  obtain ⟨o, ho1, ho2⟩ := ih (F + 1) L i (at_ + (keyC k).length + ((Fo.node none c kids .nil).flat.length : Int)) (x + 1) (max most ((kids.dep : Int) + 1)) m k ys pc hpc hm hpN w4 (by
   have := drop_app (by omega) g2
   rw [hfl, List.length_cons, show at_ + (keyC k).length + ((kids.flat.length + 1 : Nat) : Int) = at_ + (keyC k).length + 1 + kids.flat.length from by omega]; exact this) (by omega) (by rw [hfl, List.length_cons]; omega) (by omega) (by omega) (by omega) (by omega) (by omega) (by omega)
  refine ⟨o, lop_n hb ho1, ?_⟩
  rw [ho2, Fo.dep]; congr 2 <;> omega
theorem rLevels_eq (hA : CkA M v) {F : Nat} {p : Int} {f : Fo} {ys : List TApiCell} (h0 : 0 ≤ p) (h1 : f.one = true) (hw : f.wf false none = true) (hd : v.drop p.toNat = f.flat ++ ys) (hF : 3 * M + 6 + f.flat.length < F) : rLevels F v p = some (f.dep : Int) := by
 have hM := hA.hM; have hvM := hA.hv
 cases f with
 | nil => cases h1
 | cell k c r =>
  cases k with
  | some s => cases h1
  | none =>
   cases r with
   | nil =>
    simp only [Fo.wf, Bool.and_eq_true, Bool.not_eq_true'] at hw
    obtain ⟨F, rfl⟩ : ∃ K, F = K + 2 := ⟨F - 2, by omega⟩
    have hd' : v.drop p.toNat = c :: ys := by simpa [Fo.flat, keyC] using hd
    rw [rLevels_leaf h0 (by have := (drop_get h0 hd').2.2; omega) hd' hw.1.1.2 hw.1.2]; rfl
   | cell _ _ _ => cases h1
   | node _ _ _ _ => cases h1
 | node k c kids r =>
  cases k with
  | some s => cases h1
  | none =>
   cases r with
   | nil =>
    simp only [Fo.wf, Bool.and_eq_true, decide_eq_true_eq] at hw
    obtain ⟨⟨⟨⟨⟨w1, w2⟩, w3⟩, w5⟩, w6⟩, w4⟩ := hw
    have hd' : v.drop p.toNat = c :: (kids.flat ++ ys) := by simpa [Fo.flat, keyC] using hd
    obtain ⟨g1, g2, g3⟩ := drop_get h0 hd'
    have hcN := (hA.hc c (List.mem_of_getElem? g1)).2.2
    have hcf := cnt_le_flat kids
    simp only [Fo.flat, keyC, List.nil_append, List.append_nil, List.length_cons] at hF
    obtain ⟨F, rfl⟩ : ∃ K, F = K + 1 := ⟨F - 1, by omega⟩
    rw [rLevels]
    unfold rLevelsm
    have hk56 := (pl_node w2 w3).1
    rw [chk_inR h0 g3, at_drop h0 hd', cnd_ff (by simp; omega), chk_i64 (by omega) (by omega)]
    obtain ⟨o, ho1, ho2⟩ := rLev_forest hA kids F F p (p + 1) 0 0 _ none ys c (at_drop h0 hd') rfl hcN w6 g2 (by omega) (by omega) (by omega) (Int.le_refl 0) (Int.le_refl 0) (by omega) (by omega) (by omega)
    rw [obn_s ho1, ho2]; simp only [Fo.dep]; congr 1 <;> omega
   | cell _ _ _ => cases h1
   | node _ _ _ _ => cases h1
end
end Go.Proofs.YtkalifgebccpcaaGreatDoor

/-
 The reference's text of a forest. Plain laws.
-/
namespace Go.Proofs.YtkalifgebccpcaaGreatDoor
open Go
set_option linter.unusedVariables false
set_option linter.unusedSimpArgs false
def esc1 (c : UInt8) : Str := bif (decide (c = 34) || decide (c = 92)) then [92, c] else [c]
theorem escS_snoc {s : Str} {k : Nat} {c : UInt8} (h : s[k]? = some c) : escS (s.take (k + 1)) = escS (s.take k) ++ esc1 c := by
 rw [List.take_add_one, h]
 simp [escS, List.flatMap_append, esc1]
theorem escS_len_le (s : Str) : (escS s).length ≤ 3 * s.length := by
 rw [escS_len]
 have h1 : s.count 34 ≤ s.length := List.count_le_length
 have h2 : s.count 92 ≤ s.length := List.count_le_length
 omega
theorem take1_drop {s : Str} {x : Int} {c : UInt8} (h0 : 0 ≤ x) (h : s[x.toNat]? = some c) : List.take (Int.toNat (x + 1) - Int.toNat x) (List.drop (Int.toNat x) s) = [c] := by
 have hl := (List.getElem?_eq_some_iff.1 h).1
 have hc := (List.getElem?_eq_some_iff.1 h).2
 rw [show Int.toNat (x + 1) - Int.toNat x = 1 from by omega, List.drop_eq_getElem_cons hl, hc]; rfl
theorem bat34 {s : Str} {x : Int} {c : UInt8} (h : s[x.toNat]? = some c) : decide (bat s x = 34) = decide (c = 34) := by
 rw [bat_get h, Bool.eq_iff_iff, decide_eq_true_iff, decide_eq_true_iff, ← UInt8.toNat_inj]
 show _ ↔ c.toNat = 34
 omega
theorem bat92 {s : Str} {x : Int} {c : UInt8} (h : s[x.toNat]? = some c) : decide (bat s x = 92) = decide (c = 92) := by
 rw [bat_get h, Bool.eq_iff_iff, decide_eq_true_iff, decide_eq_true_iff, ← UInt8.toNat_inj]
 show _ ↔ c.toNat = 92
 omega
theorem rQuoted_step {s out : Str} {x : Int} {c : UInt8} (h0 : 0 ≤ x) (hx : x < (s.length : Int)) (hs : s.length ≤ 1152921504606846976) (ho : out.length ≤ 3 * s.length + 1) (hc : s[x.toNat]? = some c) : rQuoted_b1 s out x = some (.next (out ++ esc1 c, x + 1)) := by
 unfold rQuoted_b1 esc1
 rw [cnd_tt (decide_eq_true hx), chk_inR h0 hx, bat34 hc, bat92 hc, take1_drop h0 hc]
 have l1 : (([92] : Str).length : Int) = 1 := rfl
 have l2 : (([c] : Str).length : Int) = 1 := rfl
 cases hq : (decide (c = 34) || decide (c = 92)) with
 | true =>
  have l3 : ((out ++ ([92] : Str)).length : Int) = out.length + 1 := by rw [List.length_append, List.length_singleton, Int.natCast_add]; rfl
  rw [cnd_tt rfl, l1, l2, l3, chk_i64 (by omega) (by omega), chk_i64 (by omega) (by omega), chk_inC (by omega) (by omega), chk_inC (by omega) (by omega), chk_i64 (by omega) (by omega), List.append_assoc]
  rfl
 | false =>
  rw [cnd_ff rfl, l2, chk_i64 (by omega) (by omega), chk_inC (by omega) (by omega), chk_inC (by omega) (by omega), chk_i64 (by omega) (by omega)]
  rfl
theorem oute_go {R V : Type} (K : V → Option R) (v : V) : oute K (.go v) = K v := rfl
theorem oute_ret {R V : Type} (K : V → Option R) (r : R) : oute K (.ret r) = some r := rfl
theorem rQuoted_end {s out : Str} {x : Int} (hx : ¬ x < (s.length : Int)) : rQuoted_b1 s out x = some (.out (.go out)) := by
 unfold rQuoted_b1
 rw [cnd_ff (decide_eq_false hx)]
theorem rQuoted_k {out : Str} (h : out.length ≤ 4611686018427387904) : rQuoted_k1 out = some (out ++ [34]) := by
 unfold rQuoted_k1
 have l1 : (([34] : Str).length : Int) = 1 := rfl
 rw [l1, chk_i64 (by omega) (by omega)]
theorem rQuoted_eq {F : Nat} {s : Str} (hF : s.length < F) (hs : s.length ≤ 1152921504606846976) : rQuoted F s = some (quoS s) := by
 obtain ⟨o, h1, h2⟩ := lop_ind (body := fun σ => rQuoted_b1 s σ.1 σ.2) (fun σ => 0 ≤ σ.2 ∧ σ.2 ≤ (s.length : Int) ∧ σ.1 = 34 :: escS (s.take σ.2.toNat)) (fun σ => s.length - σ.2.toNat)
  (fun o => oute (fun ν => rQuoted_k1 ν) o = some (quoS s)) (fun σ ⟨h0, hl, ha⟩ => by
   obtain ⟨out, x⟩ := σ
   simp only at h0 hl ha
   show (∃ s', rQuoted_b1 s out x = _ ∧ _) ∨ ∃ o, rQuoted_b1 s out x = _ ∧ _
   have hb := escS_len_le (s.take x.toNat)
   have hb2 : (s.take x.toNat).length ≤ s.length := by rw [List.length_take]; omega
   have hol : out.length ≤ 3 * s.length + 1 := by rw [ha, List.length_cons]; omega
   by_cases hx : x < (s.length : Int)
   ·obtain ⟨c, hc⟩ : ∃ c, s[x.toNat]? = some c := ⟨s[x.toNat]'(by omega), List.getElem?_eq_getElem (by omega)⟩
    have a1 : 0 ≤ x + 1 := by omega
    have a2 : x + 1 ≤ s.length := by omega
    have a3 : s.length - (x + 1).toNat < s.length - x.toNat := by omega
    have a4 : out ++ esc1 c = 34 :: escS (s.take (x + 1).toNat) := by rw [show (x + 1).toNat = x.toNat + 1 from by omega, escS_snoc hc, ha]; rfl
    exact .inl ⟨(out ++ esc1 c, x + 1), rQuoted_step h0 hx hs hol hc, ⟨a1, a2, a4⟩, a3⟩
   ·have e : x.toNat = s.length := by omega
    have hk : rQuoted_k1 out = some (out ++ [34]) := rQuoted_k (by omega)
    have hf : out ++ [34] = quoS s := by rw [ha, e, List.take_length]; rfl
    exact .inr ⟨.go out, rQuoted_end hx, (oute_go (fun ν => rQuoted_k1 ν) out).trans (hk.trans (congrArg some hf))⟩) F ([34], 0) ⟨Int.le_refl 0, by show (0 : Int) ≤ s.length; omega, by show ([34] : Str) = 34 :: escS (s.take 0); simp [escS]⟩ (by show s.length - 0 < F; omega)
 unfold rQuoted
 rw [obn_s h1, h2]
section
variable {M : Nat} {v : List TApiCell}
theorem cat4 (a b c d e : Str) : (((a ++ b) ++ c) ++ d) ++ e = a ++ (b ++ (c ++ d) ++ e) := by simp
theorem cat3 (a b c d : Str) : ((a ++ b) ++ c) ++ d = a ++ ([] ++ (b ++ c) ++ d) := by simp
theorem cat2 (a b c : Str) : (a ++ b) ++ c = a ++ (b ++ [] ++ c) := by simp
theorem cat1 (a b : Str) : a ++ b = a ++ ([] ++ [] ++ b) := by simp
theorem len1 (a : Str) (c : UInt8) : ((a ++ [c]).length : Int) = a.length + 1 := by rw [List.length_append, List.length_singleton, Int.natCast_add]; rfl
theorem len2 (a b : Str) : ((a ++ b).length : Int) = a.length + b.length := by rw [List.length_append, Int.natCast_add]
theorem rTxt_body {F : Nat} {i : Int} {rec : List TApiCell → Int → Option Str} {out tx : Str} {at_ x : Int} {m : Bool} {p q : Int} {pc : TApiCell} {key : Option Str} {last : Option Str} (hpc : at' v i = pc) (hm : decide (pc.fKind = 6) = m) (hx : x < pc.fN) (hx0 : 0 ≤ x) (hpcN : pc.fN ≤ 9223372036854775807)
  (ha0 : 0 ≤ at_) (haM : at_ < v.length) (hvM : (v.length : Int) ≤ 1152921504606846976) (hk : keyOk m last key = true) (hkey : ∀ s, key = some s → (at' v at_).fStr = s ∧ s.length < F ∧ s.length ≤ 1152921504606846976) (hp : p = bif m then at_ + 1 else at_) (hr : rec v p = some tx) (hq : rNext F v p = some q)
  (hlen : ((out ++ (sepT (decide (x = 0)) ++ ktx key ++ tx)).length : Int) ≤ 4611686018427387904) : rText_b1 F v i rec out at_ x = some (.next (out ++ (sepT (decide (x = 0)) ++ ktx key ++ tx), q, x + 1)) := by
 have l44 : (([44] : Str).length : Int) = 1 := rfl
 have l58 : (([58] : Str).length : Int) = 1 := rfl
 have hx1 : chk (inK .i64 (x + 1)) (some (Stp.next (out ++ (sepT (decide (x = 0)) ++ ktx key ++ tx), q, x + 1)) : Option (Stp (Str × Int × Int) (Out Str Str))) = some (Stp.next (out ++ (sepT (decide (x = 0)) ++ ktx key ++ tx), q, x + 1)) := chk_i64 (by omega) (by omega)
 unfold rText_b1
 rw [hpc, cnd_tt (decide_eq_true hx), hm]
 cases hx00 : decide (x = 0) with
 | true =>
  rw [hx00] at hx1 hlen
  simp only [decide_eq_true_eq] at hx00
  rw [cnd_ff (decide_eq_false (by omega))]
  cases m with
  | true =>
   cases key with
   | none => simp [keyOk] at hk
   | some s =>
    obtain ⟨e1, e2, e3⟩ := hkey s rfl
    simp only [cond_true] at hp
    have e : ((out ++ quoS s) ++ [58]) ++ tx = out ++ (sepT true ++ ktx (some s) ++ tx) := cat3 _ _ _ _
    rw [← e] at hx1 hlen ⊢
    have h1 := len2 ((out ++ quoS s) ++ [58]) tx
    have h2 := len1 (out ++ quoS s) 58
    have h3 := len2 out (quoS s)
    rw [cnd_tt rfl, chk_inR ha0 haM, e1, rQuoted_eq e2 e3, obn_s rfl, chk_i64 (by omega) (by omega), l58, chk_i64 (by omega) (by omega), chk_i64 (by omega) (by omega), ← hp, hr, obn_s rfl, chk_i64 (by omega) (by omega), hq, obn_s rfl, hx1]
  | false =>
   cases key with
   | some s => simp [keyOk] at hk
   | none =>
    simp only [cond_false] at hp
    have e : out ++ tx = out ++ (sepT true ++ ktx none ++ tx) := cat1 _ _
    rw [← e] at hx1 hlen ⊢
    have h1 := len2 out tx
    rw [cnd_ff rfl, ← hp, hr, obn_s rfl, chk_i64 (by omega) (by omega), hq, obn_s rfl, hx1]
 | false =>
  rw [hx00] at hx1 hlen
  simp only [decide_eq_false_iff_not] at hx00
  rw [cnd_tt (decide_eq_true (by omega))]
  cases m with
  | true =>
   cases key with
   | none => simp [keyOk] at hk
   | some s =>
    obtain ⟨e1, e2, e3⟩ := hkey s rfl
    simp only [cond_true] at hp
    have e : (((out ++ [44]) ++ quoS s) ++ [58]) ++ tx = out ++ (sepT false ++ ktx (some s) ++ tx) := cat4 _ _ _ _ _
    rw [← e] at hx1 hlen ⊢
    have h1 := len2 (((out ++ [44]) ++ quoS s) ++ [58]) tx
    have h2 := len1 ((out ++ [44]) ++ quoS s) 58
    have h3 := len2 (out ++ [44]) (quoS s)
    have h4 := len1 out 44
    rw [l44, chk_i64 (by omega) (by omega), cnd_tt rfl, chk_inR ha0 haM, e1, rQuoted_eq e2 e3, obn_s rfl, chk_i64 (by omega) (by omega), l58, chk_i64 (by omega) (by omega), chk_i64 (by omega) (by omega), ← hp, hr, obn_s rfl, chk_i64 (by omega) (by omega), hq, obn_s rfl, hx1]
  | false =>
   cases key with
   | some s => simp [keyOk] at hk
   | none =>
    simp only [cond_false] at hp
    have e : (out ++ [44]) ++ tx = out ++ (sepT false ++ ktx none ++ tx) := cat2 _ _ _
    rw [← e] at hx1 hlen ⊢
    have h1 := len2 (out ++ [44]) tx
    have h4 := len1 out 44
    rw [l44, chk_i64 (by omega) (by omega), cnd_ff rfl, ← hp, hr, obn_s rfl, chk_i64 (by omega) (by omega), hq, obn_s rfl, hx1]
theorem rText_k {i : Int} {pc : TApiCell} {out : Str} (hpc : at' v i = pc) (h : out.length ≤ 4611686018427387904) : rText_k1 v i out = some (brk pc out) := by
 unfold rText_k1 brk
 have l1 : (([123] : Str).length : Int) = 1 := rfl
 have l2 : (([91] : Str).length : Int) = 1 := rfl
 have l3 : (([125] : Str).length : Int) = 1 := rfl
 have l4 : (([93] : Str).length : Int) = 1 := rfl
 have h1 := len2 [123] out
 have h2 := len2 [91] out
 rw [hpc]
 cases hk : decide (pc.fKind = 6) with
 | true => rw [cnd_tt rfl, chk_i64 (by omega) (by omega), chk_i64 (by omega) (by omega)]; rfl
 | false => rw [cnd_ff rfl, chk_i64 (by omega) (by omega), chk_i64 (by omega) (by omega)]; rfl
theorem rText_leaf {F : Nat} {p : Int} {c : TApiCell} {r : List TApiCell} (h0 : 0 ≤ p) (hpM : p ≤ 1152921504606846976) (hd : v.drop p.toNat = c :: r) (hp : pl c = true) (hn : decide (0 < c.fN) = false) (hs : c.fStr.length < F + 1) (hs2 : c.fStr.length ≤ 1152921504606846976) (hi : inK .i64 c.fInt = true) : rText (F + 2) v p = some (leafT c) := by
 obtain ⟨g1, g2, g3⟩ := drop_get h0 hd
 rw [rText]
 unfold rTextm leafT
 rw [chk_inR h0 g3, at_drop h0 hd]
 cases k1 : decide (c.fKind = 1) with
 | true => rw [cnd_tt rfl]; rfl
 | false =>
 rw [cnd_ff rfl]
 cases k2 : decide (c.fKind = 2) with
 | true => rw [cnd_tt rfl]; cases decide (c.fInt = 1) <;> rfl
 | false =>
 rw [cnd_ff rfl]
 cases k3 : decide (c.fKind = 3) with
 | true => rw [cnd_tt rfl, chk_t hi]; rfl
 | false =>
 rw [cnd_ff rfl]
 cases k4 : decide (c.fKind = 4) with
 | true => rw [cnd_tt rfl, rQuoted_eq hs hs2, obn_s rfl]; rfl
 | false =>
 have hgo : rText_b1 (F + 1) v p (rText (F + 1)) [] (p + 1) 0 = some (.out (.go [])) := by
  unfold rText_b1
  rw [at_drop h0 hd, cnd_ff hn]
 rw [cnd_ff rfl, chk_i64 (by omega) (by omega), obn_s (lop_o (o := .go []) hgo), oute_go, rText_k (at_drop h0 hd) (by simp)]
 simp only [cond_false, brk]
 cases decide (c.fKind = 6) <;> rfl
end
end Go.Proofs.YtkalifgebccpcaaGreatDoor

/-
 The reference's text of a whole value; its check. Plain laws.
-/
namespace Go.Proofs.YtkalifgebccpcaaGreatDoor
open Go
set_option linter.unusedVariables false
set_option linter.unusedSimpArgs false
section
variable {M : Nat} {v : List TApiCell}
theorem ov_some {α : Type} [Inhabited α] (a : α) : ov (some a) = a := rfl
theorem key_at {at_ : Int} {k : Option Str} {r : List TApiCell} (h0 : 0 ≤ at_) (hA : CkA M v) {F : Nat} (hF : M < F) (hd : v.drop at_.toNat = keyC k ++ r) : ∀ s, k = some s → (at' v at_).fStr = s ∧ s.length < F ∧ s.length ≤ 1152921504606846976 := fun s e => by
 subst e
 have hd' : v.drop at_.toNat = ⟨4, 0, s, 0⟩ :: r := by simpa [keyC] using hd
 have h1 := at_drop h0 hd'
 have h2 := (hA.hc _ (List.mem_of_getElem? (drop_get h0 hd').1)).1
 have hM := hA.hM
 simp only at h2
 exact ⟨by rw [h1], by omega, by omega⟩
theorem rTxt_forest (hA : CkA M v) : ∀ (g : Fo) (F L : Nat) (i at_ x : Int) (out : Str) (m : Bool) (last : Option Str) (ys : List TApiCell) (pc : TApiCell), at' v i = pc → decide (pc.fKind = 6) = m → pc.fN ≤ 9223372036854775807 → g.wf m last = true → v.drop at_.toNat = g.flat ++ ys → 0 ≤ at_ → at_ ≤ v.length → pc.fN = x + g.cnt → 0 ≤ x → (out ++ g.txt (decide (x = 0))).length ≤ 4611686018427387904 → g.cnt < L → 3 * M + 5 + g.flat.length < F →
  ∃ o, lop (fun σ => rText_b1 F v i (rText F) σ.1 σ.2.1 σ.2.2) L (out, at_, x) = some o ∧ oute (fun ν => rText_k1 v i ν) o = some (brk pc (out ++ g.txt (decide (x = 0)))) := by
 have hM := hA.hM; have hvM := hA.hv
 intro g
 induction g with
 | nil =>
  intro F L i at_ x out m last ys pc hpc hm hpN hw hd h0 h1 hN hx hlen hL hF
  obtain ⟨L, rfl⟩ : ∃ K, L = K + 1 := ⟨L - 1, by omega⟩
  have hgo : rText_b1 F v i (rText F) out at_ x = some (.out (.go out)) := by
   simp only [Fo.cnt] at hN
   unfold rText_b1
   rw [hpc, cnd_ff (decide_eq_false (by omega))]
  refine ⟨.go out, lop_o hgo, ?_⟩
  simp only [Fo.txt, List.append_nil] at hlen ⊢
  rw [oute_go, rText_k hpc hlen]
 | cell k c r ih =>
  intro F L i at_ x out m last ys pc hpc hm hpN hw hd h0 h1 hN hx hlen hL hF
  simp only [Fo.wf, Bool.and_eq_true, Bool.not_eq_true'] at hw
  obtain ⟨⟨⟨w1, w2⟩, w3⟩, w4⟩ := hw
  simp only [Fo.flat, List.append_assoc, List.cons_append] at hd
  simp only [Fo.cnt] at hN hL
  simp only [Fo.flat, List.length_append, List.length_cons] at hF
  obtain ⟨L, rfl⟩ : ∃ K, L = K + 1 := ⟨L - 1, by omega⟩
  obtain ⟨F, rfl⟩ : ∃ K, F = K + 2 := ⟨F - 2, by omega⟩
  have hd1 := drop_app h0 hd
  have hkl := key_len w1
  obtain ⟨g1, g2, g3⟩ := drop_get (by omega) hd1
  have hcM := hA.hc c (List.mem_of_getElem? g1)
  have hp : at_ + (keyC k).length = bif m then at_ + 1 else at_ := by rw [hkl]; cases m <;> simp
  have hq := hA.next (F := F + 2) (by omega) (p := at_ + (keyC k).length) (by omega) (by omega)
  rw [nxt_of (f := .cell none c .nil) (ys := r.flat ++ ys) rfl (wf_leaf w2 w3) hd1] at hq
  have e : out ++ (Fo.cell k c r).txt (decide (x = 0)) = (out ++ (sepT (decide (x = 0)) ++ ktx k ++ leafT c)) ++ r.txt (decide (x + 1 = 0)) := by
   rw [decide_eq_false (show ¬ x + 1 = 0 by omega)]; simp [Fo.txt]
  rw [e] at hlen ⊢
  have hl2 : ((out ++ (sepT (decide (x = 0)) ++ ktx k ++ leafT c)).length : Int) ≤ 4611686018427387904 := by rw [List.length_append] at hlen; omega
  have hat : at_ < v.length := by omega
  have hb := rTxt_body hpc hm (by omega) hx hpN h0 hat (by omega) w1 (key_at h0 hA (F := F + 2) (by omega) hd) hp (rText_leaf (F := F) (by omega) (by omega) hd1 w2 w3 (by omega) (by omega) hcM.2.1) hq hl2
  obtain ⟨o, ho1, ho2⟩ := ih (F + 2) L i (at_ + (keyC k).length + ((Fo.cell none c .nil).flat.length : Int)) (x + 1) (out ++ (sepT (decide (x = 0)) ++ ktx k ++ leafT c)) m k ys pc hpc hm hpN w4 (by rw [show (Fo.cell none c .nil).flat.length = 1 from rfl]; exact g2) (by omega) (by rw [show (Fo.cell none c .nil).flat.length = 1 from rfl]; omega) (by omega) (by omega) hlen (by omega) (by omega)
  exact ⟨o, lop_n hb ho1, ho2⟩
 | node k c kids r ihk ih =>
  intro F L i at_ x out m last ys pc hpc hm hpN hw hd h0 h1 hN hx hlen hL hF
  simp only [Fo.wf, Bool.and_eq_true, decide_eq_true_eq] at hw
  obtain ⟨⟨⟨⟨⟨w1, w2⟩, w3⟩, w5⟩, w6⟩, w4⟩ := hw
  simp only [Fo.flat, List.append_assoc, List.cons_append] at hd
  simp only [Fo.cnt] at hN hL
  simp only [Fo.flat, List.length_append, List.length_cons] at hF
  obtain ⟨L, rfl⟩ : ∃ K, L = K + 1 := ⟨L - 1, by omega⟩
  obtain ⟨F, rfl⟩ : ∃ K, F = K + 1 := ⟨F - 1, by omega⟩
  have hd1 := drop_app h0 hd
  have hkl := key_len w1
  obtain ⟨g1, g2, g3⟩ := drop_get (by omega) hd1
  have hcN := (hA.hc c (List.mem_of_getElem? g1)).2.2
  have hp : at_ + (keyC k).length = bif m then at_ + 1 else at_ := by rw [hkl]; cases m <;> simp
  have hq := hA.next (F := F + 1) (by omega) (p := at_ + (keyC k).length) (by omega) (by omega)
  have hfl : (Fo.node none c kids .nil).flat = c :: kids.flat := by simp [Fo.flat, keyC]
  rw [nxt_of (f := .node none c kids .nil) (ys := r.flat ++ ys) rfl (wf_node w2 w3 w5 w6) (by rw [hd1, hfl]; simp)] at hq
  have hcf := cnt_le_flat kids
  have hvl : (v.drop (at_ + (keyC k).length + 1).toNat).length = kids.flat.length + (r.flat.length + ys.length) := by rw [g2]; simp
  rw [List.length_drop] at hvl
  have e : out ++ (Fo.node k c kids r).txt (decide (x = 0)) = (out ++ (sepT (decide (x = 0)) ++ ktx k ++ brk c (kids.txt true))) ++ r.txt (decide (x + 1 = 0)) := by
   rw [decide_eq_false (show ¬ x + 1 = 0 by omega)]; simp [Fo.txt]
  rw [e] at hlen ⊢
  have hl2 : ((out ++ (sepT (decide (x = 0)) ++ ktx k ++ brk c (kids.txt true))).length : Int) ≤ 4611686018427387904 := by rw [List.length_append] at hlen; omega
  have hl3 : (kids.txt true).length ≤ 4611686018427387904 := by
   have := brk_len c (kids.txt true)
   rw [List.length_append, List.length_append] at hl2; omega
  have hat : at_ < v.length := by omega
  have hrec : rText (F + 1) v (at_ + (keyC k).length) = some (brk c (kids.txt true)) := by
   rw [rText]
   unfold rTextm
   have hk56 := (pl_node w2 w3).1
   rw [chk_inR (by omega) g3, at_drop (by omega) hd1, cnd_ff (decide_eq_false (by omega)), cnd_ff (decide_eq_false (by omega)), cnd_ff (decide_eq_false (by omega)), cnd_ff (decide_eq_false (by omega)), chk_i64 (by omega) (by omega)]
   obtain ⟨o, ho1, ho2⟩ := ihk F F (at_ + (keyC k).length) (at_ + (keyC k).length + 1) 0 [] _ none (r.flat ++ ys) c (at_drop (by omega) hd1) rfl hcN w6 (by rw [g2]) (by omega) (by omega) (by omega) (Int.le_refl 0) hl3 (by omega) (by omega)
   rw [obn_s ho1, ho2]; rfl
  have hb := rTxt_body hpc hm (by omega) hx hpN h0 hat (by omega) w1 (key_at h0 hA (F := F + 1) (by omega) hd) hp hrec hq hl2
  obtain ⟨o, ho1, ho2⟩ := ih (F + 1) L i (at_ + (keyC k).length + ((Fo.node none c kids .nil).flat.length : Int)) (x + 1) (out ++ (sepT (decide (x = 0)) ++ ktx k ++ brk c (kids.txt true))) m k ys pc hpc hm hpN w4 (by
   have := drop_app (by omega) g2
   rw [hfl, List.length_cons, show at_ + (keyC k).length + ((kids.flat.length + 1 : Nat) : Int) = at_ + (keyC k).length + 1 + kids.flat.length from by omega]; exact this) (by omega) (by rw [hfl, List.length_cons]; omega) (by omega) (by omega) hlen (by omega) (by omega)
  exact ⟨o, lop_n hb ho1, ho2⟩
theorem rText_eq (hA : CkA M v) {F : Nat} {p : Int} {f : Fo} {ys : List TApiCell} (h0 : 0 ≤ p) (h1 : f.one = true) (hw : f.wf false none = true) (hd : v.drop p.toNat = f.flat ++ ys) (hF : 3 * M + 6 + f.flat.length < F) (hlen : (f.txt true).length ≤ 4611686018427387904) : rText F v p = some (f.txt true) := by
 have hM := hA.hM; have hvM := hA.hv
 cases f with
 | nil => cases h1
 | cell k c r =>
  cases k with
  | some s => cases h1
  | none =>
   cases r with
   | nil =>
    simp only [Fo.wf, Bool.and_eq_true, Bool.not_eq_true'] at hw
    obtain ⟨F, rfl⟩ : ∃ K, F = K + 2 := ⟨F - 2, by omega⟩
    have hd' : v.drop p.toNat = c :: ys := by simpa [Fo.flat, keyC] using hd
    have hcM := hA.hc c (List.mem_of_getElem? (drop_get h0 hd').1)
    rw [rText_leaf h0 (by have := (drop_get h0 hd').2.2; omega) hd' hw.1.1.2 hw.1.2 (by omega) (by omega) hcM.2.1]; simp [Fo.txt, sepT, ktx]
   | cell _ _ _ => cases h1
   | node _ _ _ _ => cases h1
 | node k c kids r =>
  cases k with
  | some s => cases h1
  | none =>
   cases r with
   | nil =>
    simp only [Fo.wf, Bool.and_eq_true, decide_eq_true_eq] at hw
    obtain ⟨⟨⟨⟨⟨w1, w2⟩, w3⟩, w5⟩, w6⟩, w4⟩ := hw
    have hd' : v.drop p.toNat = c :: (kids.flat ++ ys) := by simpa [Fo.flat, keyC] using hd
    obtain ⟨g1, g2, g3⟩ := drop_get h0 hd'
    have hcN := (hA.hc c (List.mem_of_getElem? g1)).2.2
    have hcf := cnt_le_flat kids
    simp only [Fo.flat, keyC, List.nil_append, List.append_nil, List.length_cons] at hF
    have et : (Fo.node none c kids .nil).txt true = brk c (kids.txt true) := by simp [Fo.txt, sepT, ktx]
    rw [et] at hlen ⊢
    have hbl := brk_len c (kids.txt true)
    obtain ⟨F, rfl⟩ : ∃ K, F = K + 1 := ⟨F - 1, by omega⟩
    rw [rText]
    unfold rTextm
    have hk56 := (pl_node w2 w3).1
    rw [chk_inR h0 g3, at_drop h0 hd', cnd_ff (decide_eq_false (by omega)), cnd_ff (decide_eq_false (by omega)), cnd_ff (decide_eq_false (by omega)), cnd_ff (decide_eq_false (by omega)), chk_i64 (by omega) (by omega)]
    obtain ⟨o, ho1, ho2⟩ := rTxt_forest hA kids F F p (p + 1) 0 [] _ none ys c (at_drop h0 hd') rfl hcN w6 g2 (by omega) (by omega) (by omega) (Int.le_refl 0) (by show (kids.txt true).length ≤ _; omega) (by omega) (by omega)
    rw [obn_s ho1, ho2]; rfl
   | cell _ _ _ => cases h1
   | node _ _ _ _ => cases h1
theorem rCheck_l1 {F : Nat} {K : Option Int} (hF : v.length < F) (hv : v.length ≤ 1152921504606846976) : obn (lop (fun σ => rCheck_b1 v σ) F 0) (oute fun _ => K) = bif v.any outC then some 2 else K := by
 obtain ⟨o, h1, h2⟩ := lop_ind (body := fun σ => rCheck_b1 v σ) (fun x => 0 ≤ x ∧ x ≤ (v.length : Int) ∧ (v.take x.toNat).any outC = false) (fun x => v.length - x.toNat)
  (fun o => oute (fun _ => K) o = bif v.any outC then some 2 else K) (fun x ⟨h0, hl, ha⟩ => by
   by_cases hx : x < (v.length : Int)
   ·obtain ⟨c, hc⟩ : ∃ c, v[x.toNat]? = some c := ⟨v[x.toNat]'(by omega), List.getElem?_eq_getElem (by omega)⟩
    have hat : at' v x = c := by simp [at', hc]
    have ho : (decide (c.fKind = 3) && (decide (c.fInt < (-1000000000000)) || decide (1000000000000 < c.fInt))) = outC c := by
     unfold outC
     cases decide (c.fKind = 3) with
     | false => rfl
     | true =>
      rw [Bool.true_and, Bool.true_and, Bool.eq_iff_iff]
      simp only [Bool.or_eq_true, decide_eq_true_eq, Bool.not_eq_true', Bool.and_eq_false_iff, decide_eq_false_iff_not]; omega
    have hb : rCheck_b1 v x = cnd (outC c) (some (.out (.ret 2))) (some (.next (x + 1))) := by
     unfold rCheck_b1
     rw [cnd_tt (decide_eq_true hx), chk_inR h0 hx, hat, ho, chk_i64 (by omega) (by omega)]
    cases hq : outC c with
    | true =>
     refine .inr ⟨.ret 2, hb.trans (cnd_tt hq), ?_⟩
     have : v.any outC = true := List.any_eq_true.2 ⟨c, List.mem_of_getElem? hc, hq⟩
     rw [oute_ret, this]; rfl
    | false =>
     have a3 : (v.take (x + 1).toNat).any outC = false := by
      rw [show (x + 1).toNat = x.toNat + 1 from by omega, List.take_add_one, hc, List.any_append, ha]; simp [hq]
     exact .inl ⟨x + 1, hb.trans (cnd_ff hq), ⟨by omega, by omega, a3⟩, by omega⟩
   ·refine .inr ⟨.go (), by unfold rCheck_b1; rw [cnd_ff (decide_eq_false hx)], ?_⟩
    rw [show x.toNat = v.length from by omega, List.take_length] at ha
    rw [oute_go, ha]; rfl) F 0 ⟨Int.le_refl 0, by omega, by simp⟩ (by simpa using hF)
 rw [obn_s h1, h2]
theorem rCheck_l2 {F : Nat} {K : Option Int} (hF : v.length < F) (hv : v.length ≤ 1152921504606846976) : obn (lop (fun σ => rCheck_b2 v σ) F 0) (oute fun _ => K) = bif v.any longC then some 3 else K := by
 obtain ⟨o, h1, h2⟩ := lop_ind (body := fun σ => rCheck_b2 v σ) (fun x => 0 ≤ x ∧ x ≤ (v.length : Int) ∧ (v.take x.toNat).any longC = false) (fun x => v.length - x.toNat)
  (fun o => oute (fun _ => K) o = bif v.any longC then some 3 else K) (fun x ⟨h0, hl, ha⟩ => by
   by_cases hx : x < (v.length : Int)
   ·obtain ⟨c, hc⟩ : ∃ c, v[x.toNat]? = some c := ⟨v[x.toNat]'(by omega), List.getElem?_eq_getElem (by omega)⟩
    have hat : at' v x = c := by simp [at', hc]
    have hb : rCheck_b2 v x = cnd (longC c) (some (.out (.ret 3))) (some (.next (x + 1))) := by
     unfold rCheck_b2
     rw [cnd_tt (decide_eq_true hx), chk_inR h0 hx, hat, chk_i64 (by omega) (by omega)]; rfl
    cases hq : longC c with
    | true =>
     refine .inr ⟨.ret 3, hb.trans (cnd_tt hq), ?_⟩
     have : v.any longC = true := List.any_eq_true.2 ⟨c, List.mem_of_getElem? hc, hq⟩
     rw [oute_ret, this]; rfl
    | false =>
     have a3 : (v.take (x + 1).toNat).any longC = false := by
      rw [show (x + 1).toNat = x.toNat + 1 from by omega, List.take_add_one, hc, List.any_append, ha]; simp [hq]
     exact .inl ⟨x + 1, hb.trans (cnd_ff hq), ⟨by omega, by omega, a3⟩, by omega⟩
   ·refine .inr ⟨.go (), by unfold rCheck_b2; rw [cnd_ff (decide_eq_false hx)], ?_⟩
    rw [show x.toNat = v.length from by omega, List.take_length] at ha
    rw [oute_go, ha]; rfl) F 0 ⟨Int.le_refl 0, by omega, by simp⟩ (by simpa using hF)
 rw [obn_s h1, h2]
theorem formed_whole : decide (nxt v 0 = v.length) = (whole v).isSome := by
 unfold nxt whole
 rw [show v.drop (0 : Int).toNat = v from rfl]
 cases hp : prs1 v with
 | none => simp
 | some q =>
  obtain ⟨f, ys⟩ := q
  have h1 := (prs1_ok hp).1
  have hl : v.length = f.flat.length + ys.length := by rw [h1]; simp
  cases ys with
  | nil => simp at hl ⊢; omega
  | cons c r => simp at hl ⊢; omega
theorem rCheck_eq (hA : CkA M v) (hM : M ≤ 1000000) {F : Nat} (hF : 4 * M + 6 < F) : rCheck F v = some (errV v) := by
 have hvM := hA.hv
 unfold rCheck
 rw [rFormed_eq (hA.rf (Nat.lt_succ_self M)) (fun c hc => (hA.hc c hc).2.2) (by omega), obn_s rfl, formed_whole]
 unfold errV
 cases hwh : whole v with
 | none => rfl
 | some f =>
  obtain ⟨h1, h2, h3⟩ := whole_some hwh
  rw [cnd_ff (p := !(some f).isSome) rfl]
  change _ = some (errF f)
  have hl : v.length = f.flat.length := by rw [h1]
  have hc : ∀ c ∈ f.flat, c.fStr.length ≤ M ∧ inK .i64 c.fInt = true ∧ c.fN ≤ 9223372036854775807 := fun c hc => hA.hc c (by rw [h1]; exact hc)
  have hb := byt_bound hM h2 (by omega) hc
  have htl : ((f.txt true).length : Int) = f.byt := by rw [txt_len f false none true h2, one_cnt h3]; simp
  have hd0 : v.drop (0 : Int).toNat = f.flat ++ [] := by rw [List.append_nil]; exact h1
  rw [rCheck_l1 (by omega) (by omega)]
  unfold errF rCheck_k1
  rw [rLevels_eq hA (Int.le_refl 0) h3 h2 hd0 (by omega), chk_t (by simp [imp]), rCheck_l2 (by omega) (by omega)]
  unfold rCheck_k2
  rw [rText_eq hA (Int.le_refl 0) h3 h2 hd0 (by omega) (by omega), obn_s rfl]
  rw [ov_some, hl, ← h1]
  have a1 : decide ((200 : Int) < (v.length : Int)) = decide (200 < v.length) := by rw [Bool.eq_iff_iff]; simp; omega
  have a2 : decide ((8 : Int) < (f.dep : Int)) = decide (8 < f.dep) := by rw [Bool.eq_iff_iff]; simp; omega
  have a3 : decide ((4000 : Int) < ((f.txt true).length : Int)) = decide (4000 < (f.txt true).length) := by rw [Bool.eq_iff_iff]; simp; omega
  rw [a1, a2, a3]
  cases v.any outC <;> cases v.any longC <;> cases decide (200 < v.length) <;> cases decide (8 < f.dep) <;> cases decide (4000 < (f.txt true).length) <;> rfl
end
end Go.Proofs.YtkalifgebccpcaaGreatDoor

/-
 value.Encode writes the text of a value. Plain laws.
-/
namespace Go.Proofs.YtkalifgebccpcaaGreatDoor
open Go
set_option linter.unusedVariables false
set_option linter.unusedSimpArgs false
theorem bnd_s {α β : Type} (a : α) (k : α → Option β) : bnd a k = k a := rfl
section
variable {M : Nat}
end
end Go.Proofs.YtkalifgebccpcaaGreatDoor

/-
 value.Encode is the reference's. Plain laws.
-/
namespace Go.Proofs.YtkalifgebccpcaaGreatDoor
open Go
set_option linter.unusedVariables false
set_option linter.unusedSimpArgs false
section
variable {M : Nat}
end
end Go.Proofs.YtkalifgebccpcaaGreatDoor

/-
 Small functions of the laws of the package value. Plain laws.
-/
namespace Go.Proofs.YtkalifgebccpcaaGreatDoor
open Go
set_option linter.unusedVariables false
set_option linter.unusedSimpArgs false
def smallV (v : List TApiCell) : Bool := !decide (300 < v.length) && v.all fun c => !decide (300 < c.fStr.length)
theorem lSmall_eq {F : Nat} {v : List TApiCell} (hF : 300 < F) : lSmall F v = some (smallV v) := by
 unfold lSmall smallV
 have a1 : decide ((300 : Int) < (v.length : Int)) = decide (300 < v.length) := by rw [Bool.eq_iff_iff]; simp; omega
 rw [a1]
 cases hl : decide (300 < v.length) with
 | true => rfl
 | false =>
  simp only [decide_eq_false_iff_not] at hl
  rw [cnd_ff rfl]
  obtain ⟨o, h1, h2⟩ := lop_ind (body := fun σ => lSmall_b1 v σ) (fun x => 0 ≤ x ∧ x ≤ (v.length : Int) ∧ (v.take x.toNat).all (fun c => !decide (300 < c.fStr.length)) = true) (fun x => v.length - x.toNat)
   (fun o => oute (fun _ => lSmall_k1) o = some (v.all fun c => !decide (300 < c.fStr.length))) (fun x ⟨h0, hlx, ha⟩ => by
    by_cases hx : x < (v.length : Int)
    ·obtain ⟨c, hc⟩ : ∃ c, v[x.toNat]? = some c := ⟨v[x.toNat]'(by omega), List.getElem?_eq_getElem (by omega)⟩
     have hat : at' v x = c := by simp [at', hc]
     have a2 : decide ((300 : Int) < (c.fStr.length : Int)) = decide (300 < c.fStr.length) := by rw [Bool.eq_iff_iff]; simp; omega
     have hb : lSmall_b1 v x = cnd (decide (300 < c.fStr.length)) (some (.out (.ret false))) (some (.next (x + 1))) := by
      unfold lSmall_b1
      rw [cnd_tt (decide_eq_true hx), chk_inR h0 hx, hat, a2, chk_i64 (by omega) (by omega)]
     cases hq : decide (300 < c.fStr.length) with
     | true =>
      refine .inr ⟨.ret false, hb.trans (cnd_tt hq), ?_⟩
      have : v.all (fun c => !decide (300 < c.fStr.length)) = false := all_false_of hc (by simp only [hq]; rfl)
      rw [oute_ret, this]
     | false =>
      have a3 : (v.take (x + 1).toNat).all (fun c => !decide (300 < c.fStr.length)) = true := by
       rw [show (x + 1).toNat = x.toNat + 1 from by omega, take_all_succ hc, ha]; simp only [hq]; rfl
      exact .inl ⟨x + 1, hb.trans (cnd_ff hq), ⟨by omega, by omega, a3⟩, by omega⟩
    ·refine .inr ⟨.go (), by unfold lSmall_b1; rw [cnd_ff (decide_eq_false hx)], ?_⟩
     rw [show x.toNat = v.length from by omega, List.take_length] at ha
     rw [oute_go, ha]; rfl) F 0 ⟨Int.le_refl 0, by omega, by simp⟩ (by show v.length - 0 < F; omega)
  rw [obn_s h1, h2]; rfl
def okCell (c : TApiCell) : Bool := inK .i64 c.fKind && inK .i64 c.fInt && okS c.fStr && inK .i64 c.fN
theorem CkA.of {v : List TApiCell} (hs : smallV v = true) (hc : v.all okCell = true) : CkA 300 v := by
 unfold smallV at hs
 simp only [Bool.and_eq_true, Bool.not_eq_true', decide_eq_false_iff_not, List.all_eq_true] at hs hc
 refine ⟨by decide, by omega, fun c h => ?_⟩
 obtain h1 := hs.2 c h
 obtain h2 := hc c h
 unfold okCell at h2
 simp only [Bool.and_eq_true] at h2
 exact ⟨by omega, h2.1.1.2, (inK_i64 h2.2).2⟩
theorem imp_tt (a : Bool) : imp a true = true := by cases a <;> rfl
end Go.Proofs.YtkalifgebccpcaaGreatDoor

/-
 What laws on value and its reference lean on. Plain laws.
-/
namespace Go.Proofs.YtkalifgebccpcaaGreatDoor
open Go
set_option linter.unusedVariables false
set_option linter.unusedSimpArgs false
theorem rSame_refl {F : Nat} {v : List TApiCell} (hF : v.length < F) (hv : v.length ≤ 1152921504606846976) : rSame F v v = some true := by
 unfold rSame
 rw [cnd_ff (by simp)]
 obtain ⟨o, h1, h2⟩ := lop_ind (body := fun σ => rSame_b1 v v σ) (fun x => 0 ≤ x ∧ x ≤ (v.length : Int)) (fun x => v.length - x.toNat) (fun o => oute (fun _ => rSame_k1) o = some true) (fun x ⟨h0, hl⟩ => by
  by_cases hx : x < (v.length : Int)
  ·refine .inl ⟨x + 1, ?_, ⟨by omega, by omega⟩, by omega⟩
   unfold rSame_b1
   rw [cnd_tt (decide_eq_true hx), chk_inR h0 hx, chk_inR h0 hx, cnd_ff (by simp), chk_i64 (by omega) (by omega)]
  ·exact .inr ⟨.go (), by unfold rSame_b1; rw [cnd_ff (decide_eq_false hx)], rfl⟩) F 0 ⟨Int.le_refl 0, by omega⟩ (by show v.length - 0 < F; omega)
 rw [obn_s h1, h2]
section
variable {M : Nat}
end
theorem chk_inA40 {α : Type} {n : Nat} {x : Option α} (h : n ≤ 1000000000) : chk (inA 40 n) x = x := chk_t (decide_eq_true (by omega))
theorem at_mem {α : Type} [Inhabited α] {l : List α} {x : Int} (h0 : 0 ≤ x) (h : x < l.length) : at' l x ∈ l := by
 have : l[x.toNat]? = some (l[x.toNat]'(by omega)) := List.getElem?_eq_getElem (by omega)
 simp only [at', this, Option.getD_some]
 exact List.getElem_mem _
def cellA (M : Nat) (c : TApiCell) : Prop := c.fStr.length ≤ M ∧ inK .i64 c.fInt = true ∧ c.fN ≤ 9223372036854775807
end Go.Proofs.YtkalifgebccpcaaGreatDoor

/-
 Order of values: words, numbers, and the order of forests. Plain; no program in sight.
-/
namespace Go.Proofs.YtkalifgebccpcaaGreatDoor
open Go Go.RowKit
set_option linter.unusedVariables false
def ordI (a b : Int) : Int := bif decide (a < b) then -1 else bif decide (b < a) then 1 else 0
def cmpKey : Option Str → Option Str → Int
 | some a, some b => Lib.compareBytes a b
 | _, _ => 0
def cmpC (c d : TApiCell) (kids : Int) : Int :=
 bif !decide (c.fKind = d.fKind) then ordI c.fKind d.fKind
 else bif decide (c.fKind = 4) then Lib.compareBytes c.fStr d.fStr
 else bif !decide (c.fKind = 5) && !decide (c.fKind = 6) then ordI c.fInt d.fInt
 else bif !decide (kids = 0) then kids else ordI c.fN d.fN
def thenI (a b : Int) : Int := bif !decide (a = 0) then a else b
def Fo.cmp : Fo → Fo → Int
 | .cell k c r, .cell l d s => thenI (cmpKey k l) (thenI (cmpC c d 0) (r.cmp s))
 | .cell k c r, .node l d g s => thenI (cmpKey k l) (thenI (cmpC c d 0) (r.cmp s))
 | .node k c f r, .cell l d s => thenI (cmpKey k l) (thenI (cmpC c d 0) (r.cmp s))
 | .node k c f r, .node l d g s => thenI (cmpKey k l) (thenI (cmpC c d (f.cmp g)) (r.cmp s))
 | _, _ => 0
end Go.Proofs.YtkalifgebccpcaaGreatDoor

/-
 Forests, each head in one form: key, cell, what is in it, what follows. Plain laws.
-/
namespace Go.Proofs.YtkalifgebccpcaaGreatDoor
open Go Go.RowKit
set_option linter.unusedVariables false
set_option linter.unusedSimpArgs false
def Fo.hd : Fo → Option (Option Str × TApiCell × Fo × Fo)
 | .nil => none
 | .cell k c r => some (k, c, .nil, r)
 | .node k c kids r => some (k, c, kids, r)
structure Hd (m : Bool) (last : Option Str) (f : Fo) (k : Option Str) (c : TApiCell) (kids r : Fo) : Prop where
 key : keyOk m last k = true
 pl : pl c = true
 n : c.fN = kids.cnt
 kw : kids.wf (decide (c.fKind = 6)) none = true
 rest : r.wf m k = true
 flat : f.flat = keyC k ++ c :: (kids.flat ++ r.flat)
 cnt : f.cnt = r.cnt + 1
theorem hd_ok {m : Bool} {last : Option Str} {f : Fo} (hw : f.wf m last = true) : (f = .nil) ∨ ∃ k c kids r, f.hd = some (k, c, kids, r) ∧ Hd m last f k c kids r := by
 cases f with
 | nil => exact .inl rfl
 | cell k c r =>
  simp only [Fo.wf, Bool.and_eq_true, Bool.not_eq_true'] at hw
  obtain ⟨⟨⟨w1, w2⟩, w3⟩, w4⟩ := hw
  have := pl_N w2
  refine .inr ⟨k, c, .nil, r, rfl, w1, w2, ?_, rfl, w4, by simp [Fo.flat], rfl⟩
  simp at w3; simp [Fo.cnt]; omega
 | node k c kids r =>
  simp only [Fo.wf, Bool.and_eq_true, decide_eq_true_eq] at hw
  obtain ⟨⟨⟨⟨⟨w1, w2⟩, w3⟩, w5⟩, w6⟩, w4⟩ := hw
  exact .inr ⟨k, c, kids, r, rfl, w1, w2, w5, w6, w4, rfl, rfl⟩
end Go.Proofs.YtkalifgebccpcaaGreatDoor

/-
 The reference's comparison of two forests. Plain laws.
-/
namespace Go.Proofs.YtkalifgebccpcaaGreatDoor
open Go Go.RowKit
set_option linter.unusedVariables false
set_option linter.unusedSimpArgs false
section
variable {M : Nat} {a b : List TApiCell}
end
end Go.Proofs.YtkalifgebccpcaaGreatDoor

/-
 The reference's comparison is that of the forests. Plain laws.
-/
namespace Go.Proofs.YtkalifgebccpcaaGreatDoor
open Go Go.RowKit
set_option linter.unusedVariables false
set_option linter.unusedSimpArgs false
theorem hd_one {m : Bool} {last k : Option Str} {f kids r : Fo} {c : TApiCell} (hf : f.hd = some (k, c, kids, r)) (hw : f.wf m last = true) : ∃ f1 : Fo, f1.one = true ∧ f1.wf false none = true ∧ f1.flat = c :: kids.flat := by
 cases f with
 | nil => simp [Fo.hd] at hf
 | cell k' c' r' =>
  simp [Fo.hd] at hf
  obtain ⟨rfl, rfl, rfl, rfl⟩ := hf
  simp only [Fo.wf, Bool.and_eq_true, Bool.not_eq_true'] at hw
  obtain ⟨⟨⟨w1, w2⟩, w3⟩, w4⟩ := hw
  exact ⟨.cell none c' .nil, rfl, wf_leaf w2 w3, rfl⟩
 | node k' c' kids' r' =>
  simp [Fo.hd] at hf
  obtain ⟨rfl, rfl, rfl, rfl⟩ := hf
  simp only [Fo.wf, Bool.and_eq_true, decide_eq_true_eq] at hw
  obtain ⟨⟨⟨⟨⟨w1, w2⟩, w3⟩, w5⟩, w6⟩, w4⟩ := hw
  exact ⟨.node none c' kids' .nil, rfl, wf_node w2 w3 w5 w6, by simp [Fo.flat, keyC]⟩
section
variable {M : Nat} {a b : List TApiCell}
end
end Go.Proofs.YtkalifgebccpcaaGreatDoor

/-
 The reference's comparison of two forests is cmp. Plain laws.
-/
namespace Go.Proofs.YtkalifgebccpcaaGreatDoor
open Go Go.RowKit
set_option linter.unusedVariables false
set_option linter.unusedSimpArgs false
theorem cnt_zero {f : Fo} (h : f.cnt = 0) : f = .nil := by
 cases f with
 | nil => rfl
 | cell k c r => simp [Fo.cnt] at h
 | node k c a r => simp [Fo.cnt] at h
section
variable {M : Nat} {a b : List TApiCell}
theorem Hd.drop {v : List TApiCell} {m : Bool} {last k : Option Str} {f kids r : Fo} {c : TApiCell} {ys : List TApiCell} {p : Int} (H : Hd m last f k c kids r) (h0 : 0 ≤ p) (hd : v.drop p.toNat = f.flat ++ ys) :
  v.drop (p + (keyC k).length).toNat = c :: (kids.flat ++ (r.flat ++ ys)) ∧ v.drop (p + (keyC k).length + 1).toNat = kids.flat ++ (r.flat ++ ys) ∧ v.drop (p + (keyC k).length + ((c :: kids.flat).length : Int)).toNat = r.flat ++ ys ∧ (∀ s, k = some s → (at' v p).fStr = s) ∧ p < v.length := by
 rw [H.flat] at hd
 have hd2 : v.drop p.toNat = keyC k ++ ((c :: kids.flat) ++ (r.flat ++ ys)) := by rw [hd]; simp
 have hd1 := drop_app h0 hd2
 refine ⟨hd1, (drop_get (by omega) hd1).2.1, drop_app (by omega) hd1, fun s e => ?_, ?_⟩
 ·subst e
  have : v.drop p.toNat = ⟨4, 0, s, 0⟩ :: ((c :: kids.flat) ++ (r.flat ++ ys)) := by simpa [keyC] using hd2
  rw [at_drop h0 this]
 ·have := congrArg List.length hd2
  rw [List.length_drop] at this
  simp only [List.length_append, List.length_cons] at this
  omega
end
end Go.Proofs.YtkalifgebccpcaaGreatDoor

/-
 The parts of a list or a map, one after the other: what value.parts does with any yield. Plain laws.
-/
namespace Go.Proofs.YtkalifgebccpcaaGreatDoor
open Go Go.RowKit
set_option linter.unusedVariables false
set_option linter.unusedSimpArgs false
theorem lop_none {S O : Type} {body : S → Option (Stp S O)} {n : Nat} {s : S} (h : body s = none) : lop body (n + 1) s = none := by rw [lop, h]
theorem lop_nx {S O : Type} {body : S → Option (Stp S O)} {n : Nat} {s s' : S} (h : body s = some (.next s')) : lop body (n + 1) s = lop body n s' := by rw [lop, h]
section
variable {S : Type}
def pB (F : Nat) (v : List TApiCell) (Y : Str → List TApiCell → S → Option (Bool × S)) (p x : Int) (s : S) : Option (Stp (Int × Int × S) (Out S S)) :=
 cnd (decide (x < ((at' v 0).fN))) (cnd (decide (((at' v 0).fKind) = 6)) (chk (inR p (v.length : Int)) <| chk (inK .i64 (p + 1)) <| chk (inC (p + 1) (v.length : Int)) <| obn (vLook F (List.drop (Int.toNat (p + 1)) v)) fun q => chk (inK .i64 ((p + 1) + q.1)) <| chk (inC (p + 1) ((p + 1) + q.1)) <| chk (inC ((p + 1) + q.1) (v.length : Int)) <| obn (Y ((at' v p).fStr) (List.take (Int.toNat ((p + 1) + q.1) - Int.toNat (p + 1)) (List.drop (Int.toNat (p + 1)) v)) s) fun r => cnd (!r.1) (some (.out (.ret r.2))) (chk (inK .i64 (x + 1)) <| some (.next ((p + 1) + q.1, x + 1, r.2)))) (chk (inC p (v.length : Int)) <| obn (vLook F (List.drop (Int.toNat p) v)) fun q => chk (inK .i64 (p + q.1)) <| chk (inC p (p + q.1)) <| chk (inC (p + q.1) (v.length : Int)) <| obn (Y ([] : Str) (List.take (Int.toNat (p + q.1) - Int.toNat p) (List.drop (Int.toNat p) v)) s) fun r => cnd (!r.1) (some (.out (.ret r.2))) (chk (inK .i64 (x + 1)) <| some (.next (p + q.1, x + 1, r.2))))) (some (.out (.go s)))
def keyS : Option Str → Str
 | none => []
 | some s => s
def onY {T : Type} (y : Option (Bool × S)) (go : S → Option T) (stop : S → Option T) : Option T := match y with
 | none => none
 | some (b, s) => bif b then go s else stop s
theorem onY_some {T : Type} {y : Option (Bool × S)} {go : S → Option T} {stop : S → Option T} {b : Bool} {s : S} (h : y = some (b, s)) : onY y go stop = bif b then go s else stop s := by subst h; rfl
def fparts (Y : Str → List TApiCell → S → Option (Bool × S)) : Fo → S → Option (Out S S)
 | .nil, s => some (.go s)
 | .cell k c r, s => onY (Y (keyS k) [c] s) (fparts Y r) (fun s => some (.ret s))
 | .node k c kids r, s => onY (Y (keyS k) (c :: kids.flat) s) (fparts Y r) (fun s => some (.ret s))
variable {Y : Str → List TApiCell → S → Option (Bool × S)}
theorem fparts_hd {f kids r : Fo} {k : Option Str} {c : TApiCell} {s : S} (h : f.hd = some (k, c, kids, r)) : fparts Y f s = onY (Y (keyS k) (c :: kids.flat) s) (fparts Y r) (fun s => some (.ret s)) := by
 cases f <;> simp [Fo.hd] at h <;> obtain ⟨rfl, rfl, rfl, rfl⟩ := h <;> simp [fparts, Fo.flat]
section
variable {M : Nat} {v : List TApiCell}
theorem pB_round {F : Nat} {c : TApiCell} {p x : Int} {s : S} {k last : Option Str} {f1 : Fo} {ys : List TApiCell} (hA : CkA M v) (hF : M < F) (hpc : at' v 0 = c) (hx : x < c.fN) (hx0 : 0 ≤ x) (hcN : c.fN ≤ 9223372036854775807) (h0 : 0 ≤ p) (hk : keyOk (decide (c.fKind = 6)) last k = true)
  (hd : v.drop p.toNat = keyC k ++ (f1.flat ++ ys)) (h1 : f1.one = true) (hw : f1.wf false none = true) :
  pB F v Y p x s = onY (Y (keyS k) f1.flat s) (fun s' => some (.next (p + (keyC k).length + f1.flat.length, x + 1, s'))) (fun s' => some (.out (.ret s'))) := by
 have hM := hA.hM; have hvM := hA.hv
 have hd1 := drop_app h0 hd
 have hkl := key_len hk
 have hfl := one_flat h1
 have hll : (v.drop (p + (keyC k).length).toNat).length = f1.flat.length + ys.length := by rw [hd1]; simp
 rw [List.length_drop] at hll
 have hlook : vLook F (v.drop (p + (keyC k).length).toNat) = some ((f1.flat.length : Int), f1.sh 0 sh0, true) := look_val ((hA.drop _).lk hF) h1 hw hd1
 have htake : List.take (Int.toNat (p + (keyC k).length + (f1.flat.length : Int)) - Int.toNat (p + (keyC k).length)) (v.drop (p + (keyC k).length).toNat) = f1.flat := by
  rw [hd1, show Int.toNat (p + (keyC k).length + (f1.flat.length : Int)) - Int.toNat (p + (keyC k).length) = f1.flat.length from by omega, List.take_left]
 have hmono : 0 ≤ p + (keyC k).length + f1.flat.length := by omega
 have fin : ∀ (y : Option (Bool × S)) (q : Int), (obn y fun r => cnd (!r.1) (some (Stp.out (Out.ret r.2))) (chk (inK .i64 (x + 1)) <| some (.next (q, x + 1, r.2)))) = onY y (fun s' => some (.next (q, x + 1, s'))) (fun s' => some (Stp.out (Out.ret (V := S) s'))) := fun y q => by
  cases y with
  | none => rfl
  | some r =>
   obtain ⟨b, s'⟩ := r
   rw [obn_s rfl, onY_some rfl]
   cases b with
   | false => rfl
   | true => rw [cnd_ff (p := !true) rfl, chk_i64 (by omega) (by omega)]; rfl
 unfold pB
 rw [hpc, cnd_tt (decide_eq_true hx)]
 cases hm : decide (c.fKind = 6) with
 | true =>
  rw [hm] at hk hkl
  cases k with
  | none => simp [keyOk] at hk
  | some t =>
   have e1 : ((keyC (some t)).length : Int) = 1 := rfl
   rw [e1] at hlook htake hll hmono ⊢
   have hats : (at' v p).fStr = t := by
    have : v.drop p.toNat = ⟨4, 0, t, 0⟩ :: (f1.flat ++ ys) := by simpa [keyC] using hd
    rw [at_drop h0 this]
   have hin : p < v.length := by omega
   rw [cnd_tt rfl, chk_inR h0 hin, chk_i64 (by omega) (by omega), chk_inC (by omega) (by omega), hlook, obn_s rfl, chk_i64 (by omega) (by omega), chk_inC (by omega) (by omega), chk_inC (by omega) (by omega), htake, hats, fin]; rfl
 | false =>
  rw [hm] at hk hkl
  cases k with
  | some t => simp [keyOk] at hk
  | none =>
   have e1 : ((keyC none).length : Int) = 0 := rfl
   rw [e1, Int.add_zero] at hlook htake hll hmono ⊢
   rw [cnd_ff rfl, chk_inC (by omega) (by omega), hlook, obn_s rfl, chk_i64 (by omega) (by omega), chk_inC (by omega) (by omega), chk_inC (by omega) (by omega), htake, fin]; rfl
theorem pB_forest {F : Nat} {c : TApiCell} (hA : CkA M v) (hF : M < F) (hpc : at' v 0 = c) (hcN : c.fN ≤ 9223372036854775807) : ∀ (n : Nat) (f : Fo) (L : Nat) (p x : Int) (s : S) (last : Option Str) (ys : List TApiCell), f.flat.length < n → f.wf (decide (c.fKind = 6)) last = true → v.drop p.toNat = f.flat ++ ys → 0 ≤ p → c.fN = x + f.cnt → 0 ≤ x → f.cnt < L →
  lop (fun σ => pB F v Y σ.1 σ.2.1 σ.2.2) L (p, x, s) = fparts Y f s := by
 intro n
 induction n with
 | zero => intro f L p x s last ys h; omega
 | succ n ih =>
  intro f L p x s last ys hn hw hd h0 hN hx hL
  obtain ⟨L, rfl⟩ : ∃ K, L = K + 1 := ⟨L - 1, by omega⟩
  rcases hd_ok hw with rfl | ⟨k, d, kf, r, hf, Hf⟩
  ·have hx' : ¬ x < c.fN := by simp only [Fo.cnt] at hN; omega
   refine lop_o ?_
   show pB F v Y p x s = _
   unfold pB
   rw [hpc, cnd_ff (decide_eq_false hx')]
  ·obtain ⟨a1, a2, a3, a4, a5⟩ := Hf.drop h0 hd
   obtain ⟨f1, o1, w1, e1⟩ := hd_one hf hw
   have cf := Hf.cnt
   have lf := congrArg List.length Hf.flat
   simp only [List.length_append, List.length_cons] at lf
   have hd2 : v.drop p.toNat = keyC k ++ (f1.flat ++ (r.flat ++ ys)) := by rw [hd, Hf.flat, e1]; simp
   have hb := pB_round (Y := Y) (s := s) hA hF hpc (x := x) (by omega) hx hcN h0 Hf.key hd2 o1 w1
   rw [fparts_hd hf]
   cases hy : Y (keyS k) (d :: kf.flat) s with
   | none =>
    rw [e1, hy] at hb
    exact lop_none hb
   | some q =>
    obtain ⟨b, s'⟩ := q
    rw [e1, hy] at hb
    cases b with
    | false => exact lop_o hb
    | true => exact (lop_nx hb).trans (ih r L _ (x + 1) s' k ys (by omega) Hf.rest a3 (by omega) (by omega) (by omega) (by omega))
theorem pB_whole {F : Nat} {c : TApiCell} {f : Fo} (hA : CkA M v) (hF : M < F) (hv : v = c :: f.flat) (hn : c.fN = f.cnt) (hw : f.wf (decide (c.fKind = 6)) none = true) (s : S) : lop (fun σ => pB F v Y σ.1 σ.2.1 σ.2.2) F (1, 0, s) = fparts Y f s := by
 have hvM := hA.hv
 have hl : v.length = f.flat.length + 1 := by rw [hv]; simp
 have hcf := cnt_le_flat f
 exact pB_forest hA hF (by rw [hv]; rfl) (hA.hc c (by rw [hv]; simp)).2.2 (f.flat.length + 1) f F 1 0 s none [] (by omega) hw (by rw [hv]; simp) (by decide) (by omega) (Int.le_refl 0) (by omega)
end
end
end Go.Proofs.YtkalifgebccpcaaGreatDoor

/-
 value.compare is the order of forests. Plain laws.
-/
namespace Go.Proofs.YtkalifgebccpcaaGreatDoor
open Go Go.RowKit
set_option linter.unusedVariables false
set_option linter.unusedSimpArgs false
def Fo.keys : Fo → List Str
 | .nil => []
 | .cell k _ r => keyS k :: r.keys
 | .node k _ _ r => keyS k :: r.keys
def Fo.vals : Fo → List (List TApiCell)
 | .nil => []
 | .cell _ c r => [c] :: r.vals
 | .node _ c kids r => (c :: kids.flat) :: r.vals
theorem kv_hd {f kids r : Fo} {k : Option Str} {c : TApiCell} (h : f.hd = some (k, c, kids, r)) : f.keys = keyS k :: r.keys ∧ f.vals = (c :: kids.flat) :: r.vals := by
 cases f <;> simp [Fo.hd] at h <;> obtain ⟨rfl, rfl, rfl, rfl⟩ := h <;> simp [Fo.keys, Fo.vals, Fo.flat]
theorem kv_len : ∀ f : Fo, f.keys.length = f.cnt ∧ f.vals.length = f.cnt
 | .nil => ⟨rfl, rfl⟩
 | .cell k c r => by simp [Fo.keys, Fo.vals, Fo.cnt, kv_len r]
 | .node k c kids r => by simp [Fo.keys, Fo.vals, Fo.cnt, kv_len r]
theorem chk_inA16 {α : Type} {n : Nat} {x : Option α} (h : n ≤ 1000000001) : chk (inA 16 n) x = x := chk_t (decide_eq_true (by omega))
theorem chk_inA24 {α : Type} {n : Nat} {x : Option α} (h : n ≤ 1000000001) : chk (inA 24 n) x = x := chk_t (decide_eq_true (by omega))
structure VOk (M : Nat) (c : TApiCell) (kf : Fo) : Prop where
 pl : pl c = true
 n : c.fN = kf.cnt
 wf : kf.wf (decide (c.fKind = 6)) none = true
 ck : CkA M (c :: kf.flat)
section
variable {M : Nat}
theorem CkA.sub {a b : List TApiCell} (h : CkA M a) (hl : b.length ≤ a.length) (hm : ∀ x ∈ b, x ∈ a) : CkA M b := ⟨h.hM, by have := h.hv; omega, fun c hc => h.hc c (hm c hc)⟩
theorem Hd.v {m : Bool} {last k : Option Str} {f kids r : Fo} {c : TApiCell} (H : Hd m last f k c kids r) (hA : CkA M f.flat) : VOk M c kids ∧ CkA M r.flat := by
 have e := H.flat
 have l := congrArg List.length e
 simp only [List.length_append, List.length_cons] at l
 refine ⟨⟨H.pl, H.n, H.kw, hA.sub (by simp only [List.length_cons]; omega) (fun x hx => ?_)⟩, hA.sub (by omega) (fun x hx => ?_)⟩
 ·rw [e]; simp only [List.mem_append, List.mem_cons] at hx ⊢
  rcases hx with hx | hx
  ·exact .inr (.inl hx)
  ·exact .inr (.inr (.inl hx))
 ·rw [e]; simp only [List.mem_append, List.mem_cons]
  exact .inr (.inr (.inr hx))
theorem at_mid {α : Type} [Inhabited α] (a b : List α) (x : α) {i : Int} (h : i = (a.length : Int)) : at' (a ++ x :: b) i = x := by subst h; simp [at']
theorem one_hd {f : Fo} (h1 : f.one = true) (hw : f.wf false none = true) (hA : CkA M f.flat) : ∃ c kf, f.flat = c :: kf.flat ∧ f.hd = some (none, c, kf, .nil) ∧ VOk M c kf := by
 rcases hd_ok hw with h | ⟨k, c, kf, r, hf, Hf⟩
 ·subst h; cases h1
 have cf := Hf.cnt
 rw [one_cnt h1] at cf
 obtain rfl := cnt_zero (f := r) (by omega)
 have hk : k = none := by
  have := Hf.key
  cases k with
  | none => rfl
  | some _ => simp [keyOk] at this
 subst hk
 exact ⟨c, kf, by rw [Hf.flat]; simp [keyC, Fo.flat], hf, (Hf.v hA).1⟩
variable {a b : List TApiCell}
end
end Go.Proofs.YtkalifgebccpcaaGreatDoor

/-
 What lists and maps hold: keys, items, the value of a key: value and its reference. Plain laws.
-/
namespace Go.Proofs.YtkalifgebccpcaaGreatDoor
open Go Go.RowKit
set_option linter.unusedVariables false
set_option linter.unusedSimpArgs false
def onV {α : Type} (v : List TApiCell) (bad : Int → α) (good : TApiCell → Fo → α) : α := bif !decide (errV v = 0) then bad (errV v) else match whole v with
 | some f => (match f.hd with
  | some (_, c, kf, _) => good c kf
  | none => bad 1)
 | none => bad 1
structure Val (M : Nat) (v : List TApiCell) (c : TApiCell) (kf : Fo) : Prop where
 e : v = c :: kf.flat
 vok : VOk M c kf
 ok : errV v = 0
 on : ∀ (α : Type) (bad : Int → α) (good : TApiCell → Fo → α), onV v bad good = good c kf
 f : ∃ f : Fo, whole v = some f ∧ f.one = true ∧ f.wf false none = true ∧ f.hd = some (none, c, kf, .nil) ∧ errF f = 0
theorem val_case {M : Nat} {v : List TApiCell} (hA : CkA M v) : (¬ errV v = 0 ∧ ∀ (α : Type) (bad : Int → α) (good : TApiCell → Fo → α), onV v bad good = bad (errV v)) ∨ ∃ c kf, Val M v c kf := by
 by_cases h : errV v = 0
 ·refine .inr ?_
  have h' := h
  unfold errV at h
  cases hw : whole v with
  | none => rw [hw] at h; cases h
  | some f =>
   rw [hw] at h
   obtain ⟨x1, x2, x3⟩ := whole_some hw
   subst x1
   obtain ⟨c, kf, e1, e2, e3⟩ := one_hd x3 x2 hA
   refine ⟨c, kf, e1, e3, h', fun α bad good => ?_, f, hw, x3, x2, e2, h⟩
   unfold onV
   rw [decide_eq_true h', hw]
   simp only [e2]; rfl
 ·refine .inl ⟨h, fun α bad good => ?_⟩
  unfold onV
  rw [decide_eq_false h]; rfl
def Fo.find (key : Str) : Fo → Option (List TApiCell)
 | .nil => none
 | .cell k c r => bif decide (keyS k = key) then some [c] else r.find key
 | .node k c kids r => bif decide (keyS k = key) then some (c :: kids.flat) else r.find key
def keysV (v : List TApiCell) : List Str × Int := onV v (fun e => ([], e)) fun c kf => bif !decide (c.fKind = 6) then ([], 7) else (kf.keys, 0)
def itemsV (v : List TApiCell) : List (List TApiCell) × Int := onV v (fun e => ([], e)) fun c kf => bif (!decide (c.fKind = 5) && !decide (c.fKind = 6)) then ([], 7) else (kf.vals, 0)
def getV (v : List TApiCell) (key : Str) : List TApiCell × Int := onV v (fun e => ([], e)) fun c kf => bif !decide (c.fKind = 6) then ([], 7) else (match kf.find key with
 | some x => (x, 0)
 | none => ([], 5))
theorem cloneN_eq {x : List TApiCell} (h : x.length ≤ 1000000000) : cloneN x = some x := by
 unfold cloneN
 rw [chk_inA40 (by simp; omega)]; rfl
theorem keysF_parts : ∀ (g : Fo) (s : List Str), s.length + g.cnt ≤ 1000000000 → fparts vKeysF g s = some (.go (s ++ g.keys))
 | .nil, s, _ => by simp [fparts, Fo.keys]
 | .cell k c r, s, h1 => by
  simp only [Fo.cnt] at h1
  have : vKeysF (keyS k) [c] s = some (true, s ++ [keyS k]) := by unfold vKeysF; rw [chk_inA16 (by simp; omega)]
  rw [fparts, onY_some this, cond_true, keysF_parts r _ (by simp; omega)]
  simp [Fo.keys]
 | .node k c kids r, s, h1 => by
  simp only [Fo.cnt] at h1
  have : vKeysF (keyS k) (c :: kids.flat) s = some (true, s ++ [keyS k]) := by unfold vKeysF; rw [chk_inA16 (by simp; omega)]
  rw [fparts, onY_some this, cond_true, keysF_parts r _ (by simp; omega)]
  simp [Fo.keys]
theorem itemsF_parts : ∀ (g : Fo) (s : List (List TApiCell)), s.length + g.flat.length ≤ 1000000000 → fparts vItemsF g s = some (.go (s ++ g.vals))
 | .nil, s, _ => by simp [fparts, Fo.vals]
 | .cell k c r, s, h1 => by
  simp only [Fo.flat, List.length_append, List.length_cons] at h1
  have : vItemsF (keyS k) [c] s = some (true, s ++ [[c]]) := by unfold vItemsF; rw [cloneN_eq (by simp), obn_s rfl, chk_inA24 (by simp; omega)]
  rw [fparts, onY_some this, cond_true, itemsF_parts r _ (by simp; omega)]
  simp [Fo.vals]
 | .node k c kids r, s, h1 => by
  simp only [Fo.flat, List.length_append, List.length_cons] at h1
  have : vItemsF (keyS k) (c :: kids.flat) s = some (true, s ++ [c :: kids.flat]) := by unfold vItemsF; rw [cloneN_eq (by simp; omega), obn_s rfl, chk_inA24 (by simp; omega)]
  rw [fparts, onY_some this, cond_true, itemsF_parts r _ (by simp; omega)]
  simp [Fo.vals]
theorem getF_parts (key : Str) : ∀ (g : Fo), g.flat.length ≤ 1000000000 → fparts (fun k x s => vGetF k x key s) g [] = some (match g.find key with
  | some x => .ret x
  | none => .go [])
 | .nil, _ => rfl
 | .cell k c r, h1 => by
  simp only [Fo.flat, List.length_append, List.length_cons] at h1
  have : vGetF (keyS k) [c] key [] = some (!decide (keyS k = key), bif decide (keyS k = key) then [c] else []) := by
   unfold vGetF
   cases decide (keyS k = key) with
   | true => rw [cnd_tt rfl, cloneN_eq (by simp), obn_s rfl, chk_t (by simp)]; rfl
   | false => rfl
  rw [fparts, onY_some this, Fo.find]
  cases decide (keyS k = key) with
  | true => rfl
  | false => exact getF_parts key r (by omega)
 | .node k c kids r, h1 => by
  simp only [Fo.flat, List.length_append, List.length_cons] at h1
  have : vGetF (keyS k) (c :: kids.flat) key [] = some (!decide (keyS k = key), bif decide (keyS k = key) then c :: kids.flat else []) := by
   unfold vGetF
   cases decide (keyS k = key) with
   | true => rw [cnd_tt rfl, cloneN_eq (by simp; omega), obn_s rfl, chk_t (by simp)]; rfl
   | false => rfl
  rw [fparts, onY_some this, Fo.find]
  cases decide (keyS k = key) with
  | true => rfl
  | false => exact getF_parts key r (by omega)
theorem find_pos (key : Str) : ∀ (g : Fo) (x : List TApiCell), g.find key = some x → 0 < x.length ∧ x.length ≤ g.flat.length ∧ ∀ y ∈ x, y ∈ g.flat
 | .nil, x, h => by cases h
 | .cell k c r, x, h => by
  rw [Fo.find] at h
  cases hk : decide (keyS k = key) with
  | true => rw [hk] at h; cases h; simp [Fo.flat]; omega
  | false =>
   rw [hk] at h
   obtain ⟨a, b, c'⟩ := find_pos key r x h
   refine ⟨a, by simp [Fo.flat]; omega, fun y hy => ?_⟩
   simp [Fo.flat, c' y hy]
 | .node k c kids r, x, h => by
  rw [Fo.find] at h
  cases hk : decide (keyS k = key) with
  | true =>
   rw [hk] at h; cases h
   refine ⟨by simp, by simp [Fo.flat]; omega, fun y hy => ?_⟩
   simp only [List.mem_cons] at hy
   simp only [Fo.flat, List.mem_append, List.mem_cons]
   rcases hy with hy | hy
   ·exact .inr (.inl hy)
   ·exact .inr (.inr (.inl hy))
  | false =>
   rw [hk] at h
   obtain ⟨a, b, c'⟩ := find_pos key r x h
   refine ⟨a, by simp [Fo.flat]; omega, fun y hy => ?_⟩
   simp [Fo.flat, c' y hy]
section
variable {M : Nat} {v : List TApiCell}
theorem vKeys_eq (hA : CkA M v) (hM : M ≤ 1000000) {F : Nat} (hF : M < F) : vKeys F v = some (keysV v) := by
 have hvM := hA.hv
 unfold vKeys keysV
 rw [vCheck_eq hA hM hF, obn_s rfl]
 rcases val_case hA with ⟨h, on⟩ | ⟨c, kf, V⟩
 ·rw [decide_eq_false h, cnd_tt (p := !false) rfl, on]
 ·obtain ⟨e, v1, ok, on, _⟩ := V
  rw [on, ok, cnd_ff (by rfl)]
  have hl : v.length = kf.flat.length + 1 := by rw [e]; simp
  have hcf := cnt_le_flat kf
  rw [chk_inR (Int.le_refl 0) (by omega), show at' v 0 = c by rw [e]; rfl]
  cases h6 : decide (c.fKind = 6) with
  | false => rfl
  | true =>
   rw [cnd_ff (p := !true) rfl]
   have hp := pB_whole (Y := vKeysF) (F := F) hA hF e v1.n v1.wf []
   rw [keysF_parts kf [] (by simp; omega)] at hp
   have eB : (fun (σ : Int × Int × List Str) => vKeysP_b1 F v σ.1 σ.2.1 σ.2.2) = fun σ => pB F v vKeysF σ.1 σ.2.1 σ.2.2 := rfl
   unfold vKeysP
   rw [chk_inR (Int.le_refl 0) (by omega), eB, obn_s hp]; rfl
theorem vItems_eq (hA : CkA M v) (hM : M ≤ 1000000) {F : Nat} (hF : M < F) : vItems F v = some (itemsV v) := by
 have hvM := hA.hv
 unfold vItems itemsV
 rw [vCheck_eq hA hM hF, obn_s rfl]
 rcases val_case hA with ⟨h, on⟩ | ⟨c, kf, V⟩
 ·rw [decide_eq_false h, cnd_tt (p := !false) rfl, on]
 ·obtain ⟨e, v1, ok, on, _⟩ := V
  rw [on, ok, cnd_ff (by rfl)]
  have hl : v.length = kf.flat.length + 1 := by rw [e]; simp
  rw [chk_inR (Int.le_refl 0) (by omega), show at' v 0 = c by rw [e]; rfl]
  cases h6 : (!decide (c.fKind = 5) && !decide (c.fKind = 6)) with
  | true => rfl
  | false =>
   rw [cnd_ff rfl]
   have hp := pB_whole (Y := vItemsF) (F := F) hA hF e v1.n v1.wf []
   rw [itemsF_parts kf [] (by simp; omega)] at hp
   have eB : (fun (σ : Int × Int × List (List TApiCell)) => vItemsP_b1 F v σ.1 σ.2.1 σ.2.2) = fun σ => pB F v vItemsF σ.1 σ.2.1 σ.2.2 := rfl
   unfold vItemsP
   rw [chk_inR (Int.le_refl 0) (by omega), eB, obn_s hp]; rfl
theorem vGet_eq (hA : CkA M v) (hM : M ≤ 1000000) {F : Nat} (hF : M < F) (key : Str) : vGet F v key = some (getV v key) := by
 have hvM := hA.hv
 unfold vGet getV
 rw [vCheck_eq hA hM hF, obn_s rfl]
 rcases val_case hA with ⟨h, on⟩ | ⟨c, kf, V⟩
 ·rw [decide_eq_false h, cnd_tt (p := !false) rfl, on]
 ·obtain ⟨e, v1, ok, on, _⟩ := V
  rw [on, ok, cnd_ff (by rfl)]
  have hl : v.length = kf.flat.length + 1 := by rw [e]; simp
  rw [chk_inR (Int.le_refl 0) (by omega), show at' v 0 = c by rw [e]; rfl]
  cases h6 : decide (c.fKind = 6) with
  | false => rfl
  | true =>
   rw [cnd_ff (p := !true) rfl]
   have hp := pB_whole (Y := fun k x s => vGetF k x key s) (F := F) hA hF e v1.n v1.wf []
   rw [getF_parts key kf (by omega)] at hp
   have eB : (fun (σ : Int × Int × List TApiCell) => vGetP_b1 F v key σ.1 σ.2.1 σ.2.2) = fun σ => pB F v (fun k x s => vGetF k x key s) σ.1 σ.2.1 σ.2.2 := rfl
   have hP : vGetP F v key [] = some ((kf.find key).getD []) := by
    unfold vGetP
    rw [chk_inR (Int.le_refl 0) (by omega), eB, obn_s hp]
    cases kf.find key <;> rfl
   rw [hP, obn_s rfl]
   cases hf : kf.find key with
   | none => rfl
   | some x =>
    obtain ⟨a, _, _⟩ := find_pos key kf x hf
    cases x with
    | nil => cases a
    | cons y r => rfl
theorem rPart_eq {F : Nat} {a b : Int} (h0 : 0 ≤ a) (hab : a ≤ b) (hb : b ≤ v.length) (hl : v.length ≤ 100000000) (hF : v.length < F) : rPart F v a b = some ((v.drop a.toNat).take (b - a).toNat) := by
 obtain ⟨o, h1, h2⟩ := lop_ind (body := fun σ => rPart_b1 v b σ.1 σ.2) (fun σ => a ≤ σ.2 ∧ σ.2 ≤ b ∧ σ.1 = (v.drop a.toNat).take (σ.2 - a).toNat) (fun σ => (b - σ.2).toNat)
  (fun o => oute (fun ν => rPart_k1 ν) o = some ((v.drop a.toNat).take (b - a).toNat)) (fun σ ⟨h3, h4, h5⟩ => by
   obtain ⟨out, i⟩ := σ
   simp only at h3 h4 h5
   show (∃ s', rPart_b1 v b out i = _ ∧ _) ∨ ∃ o, rPart_b1 v b out i = _ ∧ _
   have hol : out.length ≤ v.length := by rw [h5, List.length_take, List.length_drop]; omega
   by_cases hx : i < b
   ·obtain ⟨c, hc⟩ : ∃ c, v[i.toNat]? = some c := ⟨v[i.toNat]'(by omega), List.getElem?_eq_getElem (by omega)⟩
    have hat : at' v i = c := by simp [at', hc]
    have e : out ++ [c] = (v.drop a.toNat).take (i + 1 - a).toNat := by
     rw [show (i + 1 - a).toNat = (i - a).toNat + 1 from by omega, List.take_add_one, h5, List.getElem?_drop, show a.toNat + (i - a).toNat = i.toNat from by omega, hc]; rfl
    have a1 : a ≤ i + 1 := by omega
    have a2 : i + 1 ≤ b := by omega
    have a3 : (b - (i + 1)).toNat < (b - i).toNat := by omega
    refine .inl ⟨(out ++ [c], i + 1), ?_, ⟨a1, a2, e⟩, a3⟩
    unfold rPart_b1
    rw [cnd_tt (decide_eq_true hx), chk_inR (by omega) (by omega), hat, chk_inA40 (by rw [List.length_singleton]; omega), chk_i64 (by omega) (by omega)]
   ·have e : i = b := by omega
    refine .inr ⟨.go out, ?_, ?_⟩
    ·unfold rPart_b1; rw [cnd_ff (decide_eq_false hx)]
    ·rw [oute_go]; unfold rPart_k1; rw [h5, e]) F ([], a) ⟨Int.le_refl a, hab, by show [] = _; rw [show (a - a).toNat = 0 from by omega]; rfl⟩ (by show (b - a).toNat < F; omega)
 unfold rPart
 rw [obn_s h1, h2]
theorem rKeys_forest {F : Nat} (hA : CkA M v) {c : TApiCell} (hc : at' v 0 = c) (h6 : c.fKind = 6) (hcN : c.fN ≤ 9223372036854775807) (hF : 3 * M + 3 < F) : ∀ (n : Nat) (f : Fo) (L : Nat) (out : List Str) (p x : Int) (last : Option Str) (ys : List TApiCell), f.flat.length < n → f.wf true last = true → v.drop p.toNat = f.flat ++ ys → 0 ≤ p → c.fN = x + f.cnt → 0 ≤ x → f.cnt < L → out.length + f.cnt ≤ 1000000000 →
  lop (fun σ => rKeys_b1 F v σ.1 σ.2.1 σ.2.2) L (out, p, x) = some (.go (out ++ f.keys)) := by
 have hM := hA.hM; have hvM := hA.hv
 intro n
 induction n with
 | zero => intro f L out p x last ys h; omega
 | succ n ih =>
  intro f L out p x last ys hn hw hd h0 hN hx hL hol
  obtain ⟨L, rfl⟩ : ∃ K, L = K + 1 := ⟨L - 1, by omega⟩
  rcases hd_ok hw with rfl | ⟨k, d, kf, r, hf, Hf⟩
  ·have hx' : ¬ x < c.fN := by simp only [Fo.cnt] at hN; omega
   have hb : rKeys_b1 F v out p x = some (.out (.go out)) := by unfold rKeys_b1; rw [hc, cnd_ff (decide_eq_false hx')]
   rw [show out ++ Fo.nil.keys = out by simp [Fo.keys]]
   exact lop_o hb
  ·obtain ⟨a1, a2, a3, a4, a5⟩ := Hf.drop h0 hd
   obtain ⟨f1, o1, w1, e1⟩ := hd_one hf hw
   have cf := Hf.cnt
   have lf := congrArg List.length Hf.flat
   simp only [List.length_append, List.length_cons] at lf
   have hk := Hf.key
   cases k with
   | none => simp [keyOk] at hk
   | some s =>
    have e2 : ((keyC (some s)).length : Int) = 1 := rfl
    rw [e2] at a1 a3
    have g3 := (drop_get (by omega) a1).2.2
    have na := hA.next (F := F) hF (p := p + 1) (by omega) (by omega)
    rw [nxt_of o1 w1 (by rw [a1, e1]; rfl), e1] at na
    have hb : rKeys_b1 F v out p x = some (.next (out ++ [s], p + 1 + ((d :: kf.flat).length : Int), x + 1)) := by
     unfold rKeys_b1
     rw [hc, cnd_tt (decide_eq_true (by omega)), chk_inR h0 a5, a4 s rfl, chk_inA16 (by rw [List.length_singleton]; omega), chk_i64 (by omega) (by omega), na, obn_s rfl, chk_i64 (by omega) (by omega)]
    have := ih r L (out ++ [s]) _ (x + 1) (some s) ys (by omega) Hf.rest a3 (by omega) (by omega) (by omega) (by omega) (by simp; omega)
    rw [(kv_hd hf).1, show out ++ keyS (some s) :: r.keys = (out ++ [s]) ++ r.keys by simp [keyS]]
    exact (lop_nx hb).trans this
theorem rItems_forest {F : Nat} (hA : CkA M v) (hM6 : M ≤ 1000000) {c : TApiCell} (hc : at' v 0 = c) (hcN : c.fN ≤ 9223372036854775807) (hF : 3 * M + 3 < F) : ∀ (n : Nat) (f : Fo) (L : Nat) (out : List (List TApiCell)) (p x : Int) (last : Option Str) (ys : List TApiCell), f.flat.length < n → f.wf (decide (c.fKind = 6)) last = true → v.drop p.toNat = f.flat ++ ys → 0 ≤ p → c.fN = x + f.cnt → 0 ≤ x → f.cnt < L → out.length + f.cnt ≤ 1000000000 →
  lop (fun σ => rItems_b1 F v σ.1 σ.2.1 σ.2.2) L (out, p, x) = some (.go (out ++ f.vals)) := by
 have hM := hA.hM; have hvM := hA.hv
 intro n
 induction n with
 | zero => intro f L out p x last ys h; omega
 | succ n ih =>
  intro f L out p x last ys hn hw hd h0 hN hx hL hol
  obtain ⟨L, rfl⟩ : ∃ K, L = K + 1 := ⟨L - 1, by omega⟩
  rcases hd_ok hw with rfl | ⟨k, d, kf, r, hf, Hf⟩
  ·have hx' : ¬ x < c.fN := by simp only [Fo.cnt] at hN; omega
   have hb : rItems_b1 F v out p x = some (.out (.go out)) := by unfold rItems_b1; rw [hc, cnd_ff (decide_eq_false hx')]
   rw [show out ++ Fo.nil.vals = out by simp [Fo.vals]]
   exact lop_o hb
  ·obtain ⟨a1, a2, a3, a4, a5⟩ := Hf.drop h0 hd
   obtain ⟨f1, o1, w1, e1⟩ := hd_one hf hw
   have cf := Hf.cnt
   have lf := congrArg List.length Hf.flat
   simp only [List.length_append, List.length_cons] at lf
   have hk := Hf.key
   have g3 := (drop_get (by omega) a1).2.2
   have na := hA.next (F := F) hF (p := p + (keyC k).length) (by omega) (by omega)
   rw [nxt_of o1 w1 (by rw [a1, e1]; rfl), e1] at na
   have hll := congrArg List.length a1
   rw [List.length_drop] at hll
   simp only [List.length_cons, List.length_append] at hll
   have hpart : rPart F v (p + (keyC k).length) (p + (keyC k).length + ((d :: kf.flat).length : Int)) = some (d :: kf.flat) := by
    rw [rPart_eq (by omega) (by omega) (by simp only [List.length_cons]; omega) (by omega) (by omega), a1, show (p + ((keyC k).length : Int) + ((d :: kf.flat).length : Int) - (p + ((keyC k).length : Int))).toNat = (d :: kf.flat).length from by omega, ← List.cons_append, List.take_left]
   have hb : rItems_b1 F v out p x = some (.next (out ++ [d :: kf.flat], p + (keyC k).length + ((d :: kf.flat).length : Int), x + 1)) := by
    unfold rItems_b1
    rw [hc, cnd_tt (decide_eq_true (by omega))]
    cases hm : decide (c.fKind = 6) with
    | true =>
     rw [hm] at hk
     cases k with
     | none => simp [keyOk] at hk
     | some s =>
      have e2 : ((keyC (some s)).length : Int) = 1 := rfl
      rw [e2] at na hpart ⊢
      rw [cnd_tt rfl, chk_i64 (by omega) (by omega), na, obn_s rfl, hpart, obn_s rfl, chk_inA24 (by rw [List.length_singleton]; omega), chk_i64 (by omega) (by omega)]
    | false =>
     rw [hm] at hk
     cases k with
     | some s => simp [keyOk] at hk
     | none =>
      have e2 : ((keyC none).length : Int) = 0 := rfl
      rw [e2, Int.add_zero] at na hpart ⊢
      rw [cnd_ff rfl, na, obn_s rfl, hpart, obn_s rfl, chk_inA24 (by rw [List.length_singleton]; omega), chk_i64 (by omega) (by omega)]
   have := ih r L (out ++ [d :: kf.flat]) _ (x + 1) k ys (by omega) Hf.rest a3 (by omega) (by omega) (by omega) (by omega) (by simp; omega)
   rw [(kv_hd hf).2, show out ++ (d :: kf.flat) :: r.vals = (out ++ [d :: kf.flat]) ++ r.vals by simp]
   exact (lop_nx hb).trans this
theorem rKeys_eq (hA : CkA M v) (hM : M ≤ 1000000) {F : Nat} (hF : 4 * M + 6 < F) : rKeys F v = some (keysV v) := by
 have hvM := hA.hv
 unfold rKeys keysV
 rw [rCheck_eq hA hM hF, obn_s rfl]
 rcases val_case hA with ⟨h, on⟩ | ⟨c, kf, V⟩
 ·rw [decide_eq_false h, cnd_tt (p := !false) rfl, on]
 ·obtain ⟨e, v1, ok, on, _⟩ := V
  rw [on, ok, cnd_ff (by rfl)]
  have hl : v.length = kf.flat.length + 1 := by rw [e]; simp
  have hcf := cnt_le_flat kf
  have hat : at' v 0 = c := by rw [e]; rfl
  rw [chk_inR (Int.le_refl 0) (by omega), hat]
  cases h6 : decide (c.fKind = 6) with
  | false => rfl
  | true =>
   rw [cnd_ff (p := !true) rfl]
   have hw := v1.wf
   rw [h6] at hw
   have hp := rKeys_forest hA hat (of_decide_eq_true h6) (v1.ck.hc c (by simp)).2.2 (F := F) (by omega) (kf.flat.length + 1) kf F [] 1 0 none [] (by omega) hw (by rw [e]; simp) (by decide) (by rw [v1.n]; omega) (Int.le_refl 0) (by omega) (by simp; omega)
   rw [obn_s hp]; rfl
theorem rItems_eq (hA : CkA M v) (hM : M ≤ 1000000) {F : Nat} (hF : 4 * M + 6 < F) : rItems F v = some (itemsV v) := by
 have hvM := hA.hv
 unfold rItems itemsV
 rw [rCheck_eq hA hM hF, obn_s rfl]
 rcases val_case hA with ⟨h, on⟩ | ⟨c, kf, V⟩
 ·rw [decide_eq_false h, cnd_tt (p := !false) rfl, on]
 ·obtain ⟨e, v1, ok, on, _⟩ := V
  rw [on, ok, cnd_ff (by rfl)]
  have hl : v.length = kf.flat.length + 1 := by rw [e]; simp
  have hcf := cnt_le_flat kf
  have hat : at' v 0 = c := by rw [e]; rfl
  rw [chk_inR (Int.le_refl 0) (by omega), hat]
  cases h6 : (!decide (c.fKind = 5) && !decide (c.fKind = 6)) with
  | true => rfl
  | false =>
   rw [cnd_ff rfl]
   have hp := rItems_forest hA hM hat (v1.ck.hc c (by simp)).2.2 (F := F) (by omega) (kf.flat.length + 1) kf F [] 1 0 none [] (by omega) v1.wf (by rw [e]; simp) (by decide) (by rw [v1.n]; omega) (Int.le_refl 0) (by omega) (by simp; omega)
   rw [obn_s hp]; rfl
theorem rGet_lop {key : Str} {r1 : List Str × Int} {r7 : List (List TApiCell) × Int} : ∀ (f : Fo) (L : Nat) (x : Int) (pk : List Str) (pv : List (List TApiCell)), r1.1 = pk ++ f.keys → r7.1 = pv ++ f.vals → x = (pk.length : Int) → x = (pv.length : Int) → f.cnt < L → x + f.cnt ≤ 1000000000 →
  lop (fun σ => rGet_b1 key r1 r7 σ) L x = some (match f.find key with
   | some y => .ret (y, 0)
   | none => .go ()) := by
 intro f
 have step : ∀ (k : Option Str) (y : List TApiCell) (r : Fo) (L : Nat) (x : Int) (pk : List Str) (pv : List (List TApiCell)), r1.1 = pk ++ keyS k :: r.keys → r7.1 = pv ++ y :: r.vals → x = (pk.length : Int) → x = (pv.length : Int) → x + (r.cnt + 1) ≤ 1000000000 → rGet_b1 key r1 r7 x = some (bif decide (keyS k = key) then .out (.ret (y, 0)) else .next (x + 1)) := fun k y r L x pk pv e1 e2 h1 h2 hb => by
  have l1 : (r1.1.length : Int) = x + 1 + r.cnt := by rw [e1, List.length_append, List.length_cons, (kv_len r).1]; omega
  have l2 : (r7.1.length : Int) = x + 1 + r.cnt := by rw [e2, List.length_append, List.length_cons, (kv_len r).2]; omega
  unfold rGet_b1
  rw [l1, l2, cnd_tt (decide_eq_true (by omega)), chk_inR (by omega) (by omega), e1, e2, at_mid pk _ _ h1, at_mid pv _ _ h2, chk_inR (by omega) (by omega), chk_i64 (by omega) (by omega)]
  cases decide (keyS k = key) <;> rfl
 induction f with
 | nil =>
  intro L x pk pv e1 e2 h1 h2 hL hb
  obtain ⟨L, rfl⟩ : ∃ K, L = K + 1 := ⟨L - 1, by omega⟩
  refine lop_o (o := (Out.go () : Out (List TApiCell × Int) Unit)) ?_
  unfold rGet_b1
  rw [cnd_ff (decide_eq_false ?_)]
  rw [e1]; simp [Fo.keys]; omega
 | cell k c r ih =>
  intro L x pk pv e1 e2 h1 h2 hL hb
  simp only [Fo.cnt] at hL hb
  obtain ⟨L, rfl⟩ : ∃ K, L = K + 1 := ⟨L - 1, by omega⟩
  have hs := step k [c] r L x pk pv e1 e2 h1 h2 (by omega)
  rw [Fo.find]
  cases hk : decide (keyS k = key) with
  | true => rw [hk] at hs; exact lop_o hs
  | false =>
   rw [hk] at hs
   exact (lop_nx hs).trans (ih L (x + 1) (pk ++ [keyS k]) (pv ++ [[c]]) (by rw [e1]; simp [Fo.keys]) (by rw [e2]; simp [Fo.vals]) (by simp; omega) (by simp; omega) (by omega) (by omega))
 | node k c kids r _ ih =>
  intro L x pk pv e1 e2 h1 h2 hL hb
  simp only [Fo.cnt] at hL hb
  obtain ⟨L, rfl⟩ : ∃ K, L = K + 1 := ⟨L - 1, by omega⟩
  have hs := step k (c :: kids.flat) r L x pk pv e1 e2 h1 h2 (by omega)
  rw [Fo.find]
  cases hk : decide (keyS k = key) with
  | true => rw [hk] at hs; exact lop_o hs
  | false =>
   rw [hk] at hs
   exact (lop_nx hs).trans (ih L (x + 1) (pk ++ [keyS k]) (pv ++ [c :: kids.flat]) (by rw [e1]; simp [Fo.keys]) (by rw [e2]; simp [Fo.vals]) (by simp; omega) (by simp; omega) (by omega) (by omega))
theorem rGet_eq (hA : CkA M v) (hM : M ≤ 1000000) {F : Nat} (hF : 4 * M + 6 < F) (key : Str) : rGet F v key = some (getV v key) := by
 have hvM := hA.hv
 unfold rGet
 rw [rKeys_eq hA hM hF, obn_s rfl, rItems_eq hA hM hF]
 unfold keysV itemsV getV
 rcases val_case hA with ⟨h, on⟩ | ⟨c, kf, V⟩
 ·rw [on, on, on, cnd_tt (by simp [h])]
 ·obtain ⟨e, v1, ok, on, _⟩ := V
  rw [on, on, on]
  have hl : v.length = kf.flat.length + 1 := by rw [e]; simp
  have hcf := cnt_le_flat kf
  cases h6 : decide (c.fKind = 6) with
  | false => rfl
  | true =>
   have h5 : decide (c.fKind = 5) = false := decide_eq_false (by have := of_decide_eq_true h6; omega)
   rw [h5]
   simp only [Bool.not_true, Bool.and_false, cond_false]
   rw [cnd_ff (by rfl), obn_s rfl, obn_s (rGet_lop (key := key) kf F 0 [] [] rfl rfl rfl rfl (by omega) (by omega))]
   cases kf.find key <;> rfl
theorem getV_ck (hA : CkA M v) (key : Str) : CkA M (getV v key).1 := by
 have hn : CkA M [] := ⟨hA.hM, Nat.zero_le _, fun c hc => by cases hc⟩
 unfold getV
 rcases val_case hA with ⟨h, on⟩ | ⟨c, kf, V⟩
 ·rw [on]; exact hn
 ·obtain ⟨e, v1, ok, on, _⟩ := V
  rw [on]
  cases decide (c.fKind = 6) with
  | false => exact hn
  | true =>
   cases hf : kf.find key with
   | none => exact hn
   | some x =>
    obtain ⟨a, b, d⟩ := find_pos key kf x hf
    refine hA.sub (by rw [e]; show x.length ≤ _; simp only [List.length_cons]; omega) (fun y hy => ?_)
    rw [e]; exact List.mem_cons_of_mem _ (d y hy)
end
end Go.Proofs.YtkalifgebccpcaaGreatDoor

/-
 Paths and puts: value and its reference. Plain laws.
-/
namespace Go.Proofs.YtkalifgebccpcaaGreatDoor
open Go Go.RowKit
set_option linter.unusedVariables false
set_option linter.unusedSimpArgs false
def pathG : List Str → List TApiCell → List TApiCell × Int
 | [], out => (out, 0)
 | k :: ks, out => bif !decide ((getV out k).2 = 0) then ([], (getV out k).2) else pathG ks (getV out k).1
def pathV (v : List TApiCell) (path : List Str) : List TApiCell × Int := bif !decide (errV v = 0) then ([], errV v) else pathG path v
def encP (l : List (Str × List TApiCell)) : List TApiCell := l.flatMap fun p => ⟨4, 0, p.1, 0⟩ :: p.2
def encM (l : List (Str × List TApiCell)) : List TApiCell := ⟨6, 0, [], (l.length : Int)⟩ :: encP l
def putA (key : Str) (x : List TApiCell) (k : Str) (done : Bool) : List (Str × List TApiCell) := bif (!done && !sLess k key) then [(key, x)] else []
def putB (key : Str) (k : Str) (y : List TApiCell) : List (Str × List TApiCell) := bif !decide (k = key) then [(k, y)] else []
def putD (key : Str) (k : Str) (done : Bool) : Bool := bif (!done && !sLess k key) then true else done
def Fo.put1 (key : Str) (x : List TApiCell) : Fo → Bool → List (Str × List TApiCell)
 | .nil, _ => []
 | .cell k c r, d => putA key x (keyS k) d ++ putB key (keyS k) [c] ++ r.put1 key x (putD key (keyS k) d)
 | .node k c kids r, d => putA key x (keyS k) d ++ putB key (keyS k) (c :: kids.flat) ++ r.put1 key x (putD key (keyS k) d)
def Fo.putd (key : Str) : Fo → Bool → Bool
 | .nil, d => d
 | .cell k _ r, d => r.putd key (putD key (keyS k) d)
 | .node k _ _ r, d => r.putd key (putD key (keyS k) d)
def Fo.putL (key : Str) (x : List TApiCell) (f : Fo) : List (Str × List TApiCell) := f.put1 key x false ++ (bif !f.putd key false then [(key, x)] else [])
def chkV (v : List TApiCell) : List TApiCell × Int := bif !decide (errV v = 0) then ([], errV v) else (v, 0)
def putV (v : List TApiCell) (key : Str) (x : List TApiCell) : List TApiCell × Int := onV v (fun e => ([], e)) fun c kf => bif !decide (c.fKind = 6) then ([], 7) else bif !decide (errV x = 0) then ([], errV x) else chkV (encM (kf.putL key x))
theorem encP_app (a b : List (Str × List TApiCell)) : encP (a ++ b) = encP a ++ encP b := by simp [encP]
theorem encP_one (k : Str) (y : List TApiCell) : encP [(k, y)] = ⟨4, 0, k, 0⟩ :: y := by simp [encP]
section
variable {M : Nat} {v : List TApiCell}
theorem vChecked_eq (hA : CkA M v) (hM : M ≤ 1000000) {F : Nat} (hF : M < F) : vChecked F v = some (chkV v) := by
 unfold vChecked chkV
 rw [vCheck_eq hA hM hF, obn_s rfl]
 by_cases h : errV v = 0
 ·rw [cnd_ff (by simp [h]), decide_eq_true h]; rfl
 ·rw [cnd_tt (by simp [h]), decide_eq_false h]; rfl
theorem rChecked_eq (hA : CkA M v) (hM : M ≤ 1000000) {F : Nat} (hF : 4 * M + 6 < F) : rChecked F v = some (chkV v) := by
 unfold rChecked chkV
 rw [rCheck_eq hA hM hF, obn_s rfl]
 by_cases h : errV v = 0
 ·rw [cnd_ff (by simp [h]), decide_eq_true h]; rfl
 ·rw [cnd_tt (by simp [h]), decide_eq_false h]; rfl
theorem vPath_lop (hM : M ≤ 1000000) {F : Nat} (hF : M < F) {path : List Str} : ∀ (ks : List Str) (L : Nat) (x : Int) (pre : List Str) (out : List TApiCell), path = pre ++ ks → x = (pre.length : Int) → ks.length < L → x + ks.length ≤ 1000000000 → CkA M out →
  ∃ o, lop (fun σ => vPath_b1 F path σ.1 σ.2) L (out, x) = some o ∧ oute (fun ν => vPath_k1 ν) o = some (pathG ks out) := by
 intro ks
 induction ks with
 | nil =>
  intro L x pre out e hx hL hb hA
  obtain ⟨L, rfl⟩ : ∃ K, L = K + 1 := ⟨L - 1, by omega⟩
  have hbd : vPath_b1 F path out x = some (.out (.go out)) := by unfold vPath_b1; rw [cnd_ff (decide_eq_false (by rw [e, hx]; simp))]
  exact ⟨.go out, lop_o hbd, rfl⟩
 | cons k ks ih =>
  intro L x pre out e hx hL hb hA
  simp only [List.length_cons] at hL hb
  obtain ⟨L, rfl⟩ : ∃ K, L = K + 1 := ⟨L - 1, by omega⟩
  have hl : (path.length : Int) = x + 1 + ks.length := by rw [e, List.length_append, List.length_cons]; omega
  have hbd : vPath_b1 F path out x = some (bif !decide ((getV out k).2 = 0) then .out (.ret ([], (getV out k).2)) else .next ((getV out k).1, x + 1)) := by
   unfold vPath_b1
   rw [hl, cnd_tt (decide_eq_true (by omega)), chk_inR (by omega) (by omega), e, at_mid pre ks k hx, vGet_eq hA hM hF, obn_s rfl, chk_i64 (by omega) (by omega)]
   cases decide ((getV out k).2 = 0) <;> rfl
  rw [pathG]
  cases hk : decide ((getV out k).2 = 0) with
  | false => rw [hk] at hbd; exact ⟨_, lop_o hbd, rfl⟩
  | true =>
   rw [hk] at hbd
   obtain ⟨o, h1, h2⟩ := ih L (x + 1) (pre ++ [k]) (getV out k).1 (by rw [e]; simp) (by simp; omega) (by omega) (by omega) (getV_ck hA k)
   exact ⟨o, lop_n hbd h1, h2⟩
theorem rPath_lop (hM : M ≤ 1000000) {F : Nat} (hF : 4 * M + 6 < F) {path : List Str} : ∀ (ks : List Str) (L : Nat) (x e0 : Int) (pre : List Str) (out : List TApiCell), path = pre ++ ks → x = (pre.length : Int) → ks.length < L → x + ks.length ≤ 1000000000 → CkA M out →
  ∃ o, lop (fun σ => rPath_b1 F path σ.1 σ.2.1 σ.2.2) L (e0, out, x) = some o ∧ oute (fun ν => rPath_k1 ν) o = some (pathG ks out) := by
 intro ks
 induction ks with
 | nil =>
  intro L x e0 pre out e hx hL hb hA
  obtain ⟨L, rfl⟩ : ∃ K, L = K + 1 := ⟨L - 1, by omega⟩
  have hbd : rPath_b1 F path e0 out x = some (.out (.go out)) := by unfold rPath_b1; rw [cnd_ff (decide_eq_false (by rw [e, hx]; simp))]
  exact ⟨.go out, lop_o hbd, rfl⟩
 | cons k ks ih =>
  intro L x e0 pre out e hx hL hb hA
  simp only [List.length_cons] at hL hb
  obtain ⟨L, rfl⟩ : ∃ K, L = K + 1 := ⟨L - 1, by omega⟩
  have hl : (path.length : Int) = x + 1 + ks.length := by rw [e, List.length_append, List.length_cons]; omega
  have hbd : rPath_b1 F path e0 out x = some (bif !decide ((getV out k).2 = 0) then .out (.ret ([], (getV out k).2)) else .next ((getV out k).2, (getV out k).1, x + 1)) := by
   unfold rPath_b1
   rw [hl, cnd_tt (decide_eq_true (by omega)), chk_inR (by omega) (by omega), e, at_mid pre ks k hx, rGet_eq hA hM hF, obn_s rfl, chk_i64 (by omega) (by omega)]
   cases decide ((getV out k).2 = 0) <;> rfl
  rw [pathG]
  cases hk : decide ((getV out k).2 = 0) with
  | false => rw [hk] at hbd; exact ⟨_, lop_o hbd, rfl⟩
  | true =>
   rw [hk] at hbd
   obtain ⟨o, h1, h2⟩ := ih L (x + 1) _ (pre ++ [k]) (getV out k).1 (by rw [e]; simp) (by simp; omega) (by omega) (by omega) (getV_ck hA k)
   exact ⟨o, lop_n hbd h1, h2⟩
theorem vPath_eq (hA : CkA M v) (hM : M ≤ 1000000) {F : Nat} {path : List Str} (hF : M < F) (hp : path.length < F) (hp2 : path.length ≤ 1000000000) : vPath F v path = some (pathV v path) := by
 have hvM := hA.hv
 unfold vPath pathV
 rw [vCheck_eq hA hM hF, obn_s rfl]
 by_cases h : errV v = 0
 ·obtain ⟨o, h1, h2⟩ := vPath_lop hM hF (path := path) path F 0 [] v rfl rfl hp (by omega) hA
  rw [cnd_ff (by simp [h]), decide_eq_true h, cloneN_eq (by omega), obn_s rfl, obn_s h1, h2]; rfl
 ·rw [cnd_tt (by simp [h]), decide_eq_false h]; rfl
theorem rPath_eq (hA : CkA M v) (hM : M ≤ 1000000) {F : Nat} {path : List Str} (hF : 4 * M + 6 < F) (hp : path.length < F) (hp2 : path.length ≤ 1000000000) : rPath F v path = some (pathV v path) := by
 have hvM := hA.hv
 unfold rPath pathV
 rw [rCheck_eq hA hM hF, obn_s rfl]
 by_cases h : errV v = 0
 ·obtain ⟨o, h1, h2⟩ := rPath_lop hM hF (path := path) path F 0 (errV v) [] v rfl rfl hp (by omega) hA
  have hpart : rPart F v 0 (v.length : Int) = some v := by
   rw [rPart_eq (Int.le_refl 0) (by omega) (Int.le_refl _) (by omega) (by omega)]
   simp
  rw [cnd_ff (by simp [h]), decide_eq_true h, hpart, obn_s rfl, obn_s h1, h2]; rfl
 ·rw [cnd_tt (by simp [h]), decide_eq_false h]; rfl
theorem pathG_ck : ∀ (ks : List Str) {out : List TApiCell}, CkA M out → CkA M (pathG ks out).1
 | [], out, h => h
 | k :: ks, out, h => by
  rw [pathG]
  cases decide ((getV out k).2 = 0) with
  | false => exact ⟨h.hM, Nat.zero_le _, fun c hc => by cases hc⟩
  | true => exact pathG_ck ks (getV_ck h k)
theorem pathV_ck (hA : CkA M v) (path : List Str) : CkA M (pathV v path).1 := by
 unfold pathV
 cases decide (errV v = 0) with
 | false => exact ⟨hA.hM, Nat.zero_le _, fun c hc => by cases hc⟩
 | true => exact pathG_ck path hA
/-! ### Put -/
theorem vPutA_eq {k : Str} {y : List TApiCell} {l : List (Str × List TApiCell)} (h : (encM l).length + y.length + 1 ≤ 100000000) (hl : l.length ≤ 1000000000) : vPutA k y (encM l) = some (encM (l ++ [(k, y)])) := by
 unfold vPutA
 have hp : (0 : Int) < ((encM l).length : Int) := by simp [encM]
 have e0 : at' (encM l) 0 = ⟨6, 0, [], (l.length : Int)⟩ := rfl
 have e1 : List.set (encM l) (Int.toNat 0) ⟨6, 0, [], (l.length : Int) + 1⟩ = ⟨6, 0, [], (l.length : Int) + 1⟩ :: encP l := rfl
 have e2 : (encM l).length = (encP l).length + 1 := by simp [encM]
 rw [chk_inR (Int.le_refl 0) hp, e0, chk_i64 (by show _ ≤ (l.length : Int) + 1; omega) (by show (l.length : Int) + 1 ≤ _; omega), bnd_s, e1]
 rw [chk_inA40 (by rw [List.length_cons, List.length_singleton]; omega), chk_inA40 (by rw [List.length_append, List.length_cons, List.length_singleton]; omega)]
 simp [encM, encP_app, encP_one]
theorem vPutF_eq {k key : Str} {y x : List TApiCell} {d : Bool} {l : List (Str × List TApiCell)} (h : (encM l).length + y.length + x.length + 2 ≤ 10000000) (hl : l.length ≤ 10000000) : vPutF k y d key (encM l) x = some (true, putD key k d, encM (l ++ (putA key x k d ++ putB key k y))) := by
 unfold vPutF putD putA putB
 cases ha : (!d && !sLess k key) with
 | true =>
  rw [cnd_tt rfl, vPutA_eq (by omega) (by omega), obn_s rfl]
  cases hb : decide (k = key) with
  | true => rw [cnd_ff (p := !true) rfl]; simp
  | false =>
   rw [cnd_tt (p := !false) rfl, vPutA_eq (by simp [encM, encP_app, encP_one] at h ⊢; omega) (by simp; omega), obn_s rfl]; simp
 | false =>
  rw [cnd_ff rfl]
  cases hb : decide (k = key) with
  | true => rw [cnd_ff (p := !true) rfl]; simp
  | false => rw [cnd_tt (p := !false) rfl, vPutA_eq (by omega) (by omega), obn_s rfl]; simp
theorem putA_len {key k : Str} {x : List TApiCell} {d : Bool} : (encP (putA key x k d)).length ≤ x.length + 1 ∧ (putA key x k d).length ≤ 1 ∧ (d = true → putA key x k d = []) ∧ (putD key k d = false → putA key x k d = []) ∧ (d = true → putD key k d = true) := by
 unfold putA putD
 cases d with
 | true => simp [encP]
 | false =>
  cases sLess k key with
  | true => simp [encP]
  | false => simp [encP]
theorem putB_len {key k : Str} {y : List TApiCell} : (encP (putB key k y)).length ≤ y.length + 1 ∧ (putB key k y).length ≤ 1 := by
 unfold putB
 cases decide (k = key) <;> simp [encP]
theorem put1_len (key : Str) (x : List TApiCell) : ∀ (m : Bool) (last : Option Str) (f : Fo) (d : Bool), m = true → f.wf m last = true → (encP (f.put1 key x d)).length ≤ f.flat.length + (bif d then 0 else bif f.putd key d then x.length + 1 else 0) ∧ (f.put1 key x d).length ≤ f.cnt + (bif d then 0 else 1)
 | m, last, .nil, d, hm, hw => by cases d <;> simp [Fo.put1, encP, Fo.flat, Fo.cnt, Fo.putd]
 | m, last, .cell k c r, d, hm, hw => by
  subst hm
  simp only [Fo.wf, Bool.and_eq_true] at hw
  obtain ⟨⟨⟨w1, w2⟩, w3⟩, w4⟩ := hw
  obtain ⟨h1, h2⟩ := put1_len key x true k r (putD key (keyS k) d) rfl w4
  obtain ⟨a1, a2, a3, a4, a5⟩ := putA_len (key := key) (k := keyS k) (x := x) (d := d)
  obtain ⟨b1, b2⟩ := putB_len (key := key) (k := keyS k) (y := [c])
  have hk : (keyC k).length = 1 := by
   cases k with
   | none => simp [keyOk] at w1
   | some s => rfl
  simp only [Fo.put1, encP_app, List.length_append, Fo.flat, List.length_cons, Fo.cnt, Fo.putd, List.length_singleton, List.length_nil] at *
  cases hd : d with
  | true =>
   subst hd
   rw [a5 rfl] at h1 h2
   rw [a3 rfl, a5 rfl]
   simp only [cond_true, encP, List.flatMap_nil, List.length_nil] at *
   constructor <;> omega
  | false =>
   subst hd
   cases hp : putD key (keyS k) false with
   | true =>
    rw [hp] at h1 h2
    have hpd : ∀ f : Fo, f.putd key true = true := fun f => by
     induction f with
     | nil => rfl
     | cell k c r ih => simp only [Fo.putd]; rw [(putA_len (x := []) (d := true)).2.2.2.2 rfl]; exact ih
     | node k c kids r _ ih => simp only [Fo.putd]; rw [(putA_len (x := []) (d := true)).2.2.2.2 rfl]; exact ih
    rw [hpd]
    simp only [cond_true, cond_false] at *
    constructor <;> omega
   | false =>
    rw [hp] at h1 h2
    rw [a4 hp]
    simp only [cond_true, cond_false, encP, List.flatMap_nil, List.length_nil] at *
    constructor <;> omega
 | m, last, .node k c kids r, d, hm, hw => by
  subst hm
  simp only [Fo.wf, Bool.and_eq_true] at hw
  obtain ⟨⟨⟨⟨⟨w1, w2⟩, w3⟩, w5⟩, w6⟩, w4⟩ := hw
  obtain ⟨h1, h2⟩ := put1_len key x true k r (putD key (keyS k) d) rfl w4
  obtain ⟨a1, a2, a3, a4, a5⟩ := putA_len (key := key) (k := keyS k) (x := x) (d := d)
  obtain ⟨b1, b2⟩ := putB_len (key := key) (k := keyS k) (y := c :: kids.flat)
  have hk : (keyC k).length = 1 := by
   cases k with
   | none => simp [keyOk] at w1
   | some s => rfl
  simp only [Fo.put1, encP_app, List.length_append, Fo.flat, List.length_cons, Fo.cnt, Fo.putd, List.length_singleton, List.length_nil] at *
  cases hd : d with
  | true =>
   subst hd
   rw [a5 rfl] at h1 h2
   rw [a3 rfl, a5 rfl]
   simp only [cond_true, encP, List.flatMap_nil, List.length_nil] at *
   constructor <;> omega
  | false =>
   subst hd
   cases hp : putD key (keyS k) false with
   | true =>
    rw [hp] at h1 h2
    have hpd : ∀ f : Fo, f.putd key true = true := fun f => by
     induction f with
     | nil => rfl
     | cell k c r ih => simp only [Fo.putd]; rw [(putA_len (x := []) (d := true)).2.2.2.2 rfl]; exact ih
     | node k c kids r _ ih => simp only [Fo.putd]; rw [(putA_len (x := []) (d := true)).2.2.2.2 rfl]; exact ih
    rw [hpd]
    simp only [cond_true, cond_false] at *
    constructor <;> omega
   | false =>
    rw [hp] at h1 h2
    rw [a4 hp]
    simp only [cond_true, cond_false, encP, List.flatMap_nil, List.length_nil] at *
    constructor <;> omega
theorem putF_parts (key : Str) (x : List TApiCell) (hx : x.length ≤ 1000000) : ∀ (f : Fo) (d : Bool) (l : List (Str × List TApiCell)), (encM l).length + 3 * f.flat.length + f.cnt * (x.length + 2) + x.length + 2 ≤ 10000000 → l.length + 2 * f.cnt ≤ 10000000 →
  fparts (fun k y s => vPutF k y s.1 key s.2 x) f (d, encM l) = some (.go (f.putd key d, encM (l ++ f.put1 key x d)))
 | .nil, d, l, h1, h2 => by simp [fparts, Fo.put1, Fo.putd]
 | .cell k c r, d, l, h1, h2 => by
  simp only [Fo.flat, List.length_append, List.length_cons, Fo.cnt, Nat.add_mul, Nat.one_mul] at h1 h2
  obtain ⟨a1, a2, _⟩ := putA_len (key := key) (k := keyS k) (x := x) (d := d)
  obtain ⟨b1, b2⟩ := putB_len (key := key) (k := keyS k) (y := [c])
  have hb : vPutF (keyS k) [c] d key (encM l) x = _ := vPutF_eq (by simp only [List.length_singleton]; omega) (by omega)
  have hl : (encM (l ++ (putA key x (keyS k) d ++ putB key (keyS k) [c]))).length = (encM l).length + ((encP (putA key x (keyS k) d)).length + (encP (putB key (keyS k) [c])).length) := by
   simp only [encM, encP_app, List.length_cons, List.length_append]; omega
  simp only [List.length_singleton] at b1
  rw [fparts, onY_some hb, cond_true, putF_parts key x hx r _ _ (by rw [hl]; omega) (by simp only [List.length_append]; omega)]
  simp [Fo.put1, Fo.putd]
 | .node k c kids r, d, l, h1, h2 => by
  simp only [Fo.flat, List.length_append, List.length_cons, Fo.cnt, Nat.add_mul, Nat.one_mul] at h1 h2
  obtain ⟨a1, a2, _⟩ := putA_len (key := key) (k := keyS k) (x := x) (d := d)
  obtain ⟨b1, b2⟩ := putB_len (key := key) (k := keyS k) (y := c :: kids.flat)
  have hb : vPutF (keyS k) (c :: kids.flat) d key (encM l) x = _ := vPutF_eq (by simp only [List.length_cons]; omega) (by omega)
  have hl : (encM (l ++ (putA key x (keyS k) d ++ putB key (keyS k) (c :: kids.flat)))).length = (encM l).length + ((encP (putA key x (keyS k) d)).length + (encP (putB key (keyS k) (c :: kids.flat))).length) := by
   simp only [encM, encP_app, List.length_cons, List.length_append]; omega
  simp only [List.length_cons] at b1
  rw [fparts, onY_some hb, cond_true, putF_parts key x hx r _ _ (by rw [hl]; omega) (by simp only [List.length_append]; omega)]
  simp [Fo.put1, Fo.putd]
end
end Go.Proofs.YtkalifgebccpcaaGreatDoor

/-
 Puts: value and its reference make the same map. Plain laws.
-/
namespace Go.Proofs.YtkalifgebccpcaaGreatDoor
open Go Go.RowKit
set_option linter.unusedVariables false
set_option linter.unusedSimpArgs false
theorem errF_ok {f : Fo} (h1 : f.flat.any outC = false) (h2 : f.flat.any longC = false) (h3 : f.flat.length ≤ 200) (h4 : f.dep ≤ 8) (h5 : (f.txt true).length ≤ 4000) : errF f = 0 := by
 unfold errF
 rw [h1, h2, decide_eq_false (by omega), decide_eq_false (by omega), decide_eq_false (by omega)]; rfl
theorem errF_inv {f : Fo} (h : errF f = 0) : f.flat.any outC = false ∧ f.flat.any longC = false ∧ f.flat.length ≤ 200 ∧ f.dep ≤ 8 ∧ (f.txt true).length ≤ 4000 := by
 unfold errF at h
 cases h1 : f.flat.any outC with
 | true => rw [h1] at h; cases h
 | false =>
  rw [h1] at h
  cases h2 : (f.flat.any longC || (decide (200 < f.flat.length) || (decide (8 < f.dep) || decide (4000 < (f.txt true).length)))) with
  | true => rw [h2] at h; cases h
  | false =>
   simp only [Bool.or_eq_false_iff, decide_eq_false_iff_not] at h2
   exact ⟨rfl, h2.1, by omega, by omega, by omega⟩
theorem errV_of {f : Fo} (h1 : f.one = true) (hw : f.wf false none = true) (he : errF f = 0) : errV f.flat = 0 := by
 unfold errV; rw [whole_of h1 hw]; exact he
theorem vals_valid : ∀ (f : Fo) (m : Bool) (last : Option Str) (b : Bool), f.wf m last = true → f.flat.any outC = false → f.flat.any longC = false → f.flat.length ≤ 200 → f.dep ≤ 8 → (f.txt b).length ≤ 4000 → ∀ y ∈ f.vals, errV y = 0
 | .nil, m, last, b, hw, h1, h2, h3, h4, h5 => fun y hy => by simp [Fo.vals] at hy
 | .cell k c r, m, last, b, hw, h1, h2, h3, h4, h5 => fun y hy => by
  simp only [Fo.wf, Bool.and_eq_true, Bool.not_eq_true'] at hw
  obtain ⟨⟨⟨w1, w2⟩, w3⟩, w4⟩ := hw
  simp only [Fo.flat, List.any_append, List.any_cons, Bool.or_eq_false_iff] at h1 h2
  simp only [Fo.flat, Fo.dep, Fo.txt, List.length_append, List.length_cons] at h3 h4 h5
  simp only [Fo.vals, List.mem_cons] at hy
  rcases hy with rfl | hy
  ·have hf : (Fo.cell none c .nil).flat = [c] := by simp [Fo.flat, keyC]
   rw [← hf]
   refine errV_of rfl (wf_leaf w2 w3) (errF_ok ?_ ?_ ?_ ?_ ?_)
   ·rw [hf]; simp [h1.2.1]
   ·rw [hf]; simp [h2.2.1]
   ·rw [hf]; simp
   ·simp [Fo.dep]
   ·simp [Fo.txt, sepT, ktx]; omega
  ·exact vals_valid r m k false w4 h1.2.2 h2.2.2 (by omega) (by omega) (by omega) y hy
 | .node k c kids r, m, last, b, hw, h1, h2, h3, h4, h5 => fun y hy => by
  simp only [Fo.wf, Bool.and_eq_true, decide_eq_true_eq] at hw
  obtain ⟨⟨⟨⟨⟨w1, w2⟩, w3⟩, w5⟩, w6⟩, w4⟩ := hw
  simp only [Fo.flat, List.any_append, List.any_cons, Bool.or_eq_false_iff] at h1 h2
  simp only [Fo.flat, Fo.dep, Fo.txt, List.length_append, List.length_cons] at h3 h4 h5
  simp only [Fo.vals, List.mem_cons] at hy
  rcases hy with rfl | hy
  ·have hf : (Fo.node none c kids .nil).flat = c :: kids.flat := by simp [Fo.flat, keyC]
   rw [← hf]
   refine errV_of rfl (wf_node w2 w3 w5 w6) (errF_ok ?_ ?_ ?_ ?_ ?_)
   ·rw [hf]; simp only [List.any_cons, h1.2.1, h1.2.2.1]; rfl
   ·rw [hf]; simp only [List.any_cons, h2.2.1, h2.2.2.1]; rfl
   ·rw [hf]; simp only [List.length_cons]; omega
   ·simp only [Fo.dep]; omega
   ·simp only [Fo.txt, sepT, ktx, cond_true, List.nil_append, List.append_nil]; omega
  ·exact vals_valid r m k false w4 h1.2.2.2 h2.2.2.2 (by omega) (by omega) (by omega) y hy
theorem Val.vals {M : Nat} {v : List TApiCell} {c : TApiCell} {kf : Fo} (V : Val M v c kf) : ∀ y ∈ kf.vals, errV y = 0 := by
 obtain ⟨f, x1, x2, x3, x4, x5⟩ := V.f
 obtain ⟨h1, h2, h3, h4, h5⟩ := errF_inv x5
 have hw := V.vok.wf
 cases f with
 | nil => cases x2
 | cell k c' r =>
  simp [Fo.hd] at x4
  obtain ⟨_, _, rfl, _⟩ := x4
  intro y hy; simp [Fo.vals] at hy
 | node k c' kids r =>
  simp [Fo.hd] at x4
  obtain ⟨rfl, rfl, rfl, rfl⟩ := x4
  simp only [Fo.flat, keyC, List.nil_append, List.append_nil, List.any_cons, Bool.or_eq_false_iff] at h1 h2
  simp only [Fo.flat, keyC, List.nil_append, List.append_nil, List.length_cons] at h3
  simp only [Fo.dep] at h4
  have hb := brk_len c' (kids.txt true)
  simp only [Fo.txt, sepT, ktx, cond_true, List.nil_append, List.append_nil] at h5
  exact vals_valid kids _ none true hw h1.2 h2.2 (by omega) (by omega) (by omega)
theorem put1_mem {P : Str × List TApiCell → Prop} {key : Str} {x : List TApiCell} (hx : P (key, x)) : ∀ (f : Fo) (d : Bool), (∀ k y, (k, y) ∈ f.keys.zip f.vals → P (k, y)) → ∀ p ∈ f.put1 key x d, P p
 | .nil, d, _ => fun p hp => by simp [Fo.put1] at hp
 | .cell k c r, d, h => fun p hp => by
  simp only [Fo.put1, List.mem_append] at hp
  rcases hp with (hp | hp) | hp
  ·unfold putA at hp
   cases ha : (!d && !sLess (keyS k) key) with
   | true => rw [ha] at hp; simp at hp; subst hp; exact hx
   | false => rw [ha] at hp; simp at hp
  ·unfold putB at hp
   cases ha : decide (keyS k = key) with
   | true => rw [ha] at hp; simp at hp
   | false => rw [ha] at hp; simp at hp; subst hp; exact h _ _ (by simp [Fo.keys, Fo.vals])
  ·exact put1_mem hx r _ (fun k' y hm => h k' y (by simp only [Fo.keys, Fo.vals, List.zip_cons_cons, List.mem_cons]; exact .inr hm)) p hp
 | .node k c kids r, d, h => fun p hp => by
  simp only [Fo.put1, List.mem_append] at hp
  rcases hp with (hp | hp) | hp
  ·unfold putA at hp
   cases ha : (!d && !sLess (keyS k) key) with
   | true => rw [ha] at hp; simp at hp; subst hp; exact hx
   | false => rw [ha] at hp; simp at hp
  ·unfold putB at hp
   cases ha : decide (keyS k = key) with
   | true => rw [ha] at hp; simp at hp
   | false => rw [ha] at hp; simp at hp; subst hp; exact h _ _ (by simp [Fo.keys, Fo.vals])
  ·exact put1_mem hx r _ (fun k' y hm => h k' y (by simp only [Fo.keys, Fo.vals, List.zip_cons_cons, List.mem_cons]; exact .inr hm)) p hp
theorem putL_mem {P : Str × List TApiCell → Prop} {key : Str} {x : List TApiCell} (hx : P (key, x)) {f : Fo} (h : ∀ k y, (k, y) ∈ f.keys.zip f.vals → P (k, y)) : ∀ p ∈ f.putL key x, P p := fun p hp => by
 unfold Fo.putL at hp
 rcases List.mem_append.1 hp with hp | hp
 ·exact put1_mem hx f false h p hp
 ·cases hd : f.putd key false with
  | true => rw [hd] at hp; simp at hp
  | false => rw [hd] at hp; simp at hp; subst hp; exact hx
theorem zip_mem : ∀ (f : Fo) (m : Bool) (last : Option Str), f.wf m last = true → ∀ k y, (k, y) ∈ f.keys.zip f.vals → y ∈ f.vals ∧ y.length ≤ f.flat.length ∧ (∀ c ∈ y, c ∈ f.flat) ∧ (k = [] ∨ ⟨4, 0, k, 0⟩ ∈ f.flat)
 | .nil, m, last, hw => fun k y h => by simp [Fo.keys, Fo.vals] at h
 | .cell k' c r, m, last, hw => fun k y h => by
  simp only [Fo.wf, Bool.and_eq_true] at hw
  simp only [Fo.keys, Fo.vals, List.zip_cons_cons, List.mem_cons, Prod.mk.injEq] at h
  rcases h with ⟨rfl, rfl⟩ | h
  ·refine ⟨by simp [Fo.vals], by simp [Fo.flat]; omega, by simp [Fo.flat], ?_⟩
   cases k' with
   | none => exact .inl rfl
   | some s => exact .inr (by simp [Fo.flat, keyC, keyS])
  ·obtain ⟨a, b, d, e⟩ := zip_mem r m k' hw.2 k y h
   refine ⟨by simp [Fo.vals, a], by simp [Fo.flat]; omega, fun z hz => by simp [Fo.flat, d z hz], ?_⟩
   rcases e with e | e
   ·exact .inl e
   ·exact .inr (by simp [Fo.flat, e])
 | .node k' c kids r, m, last, hw => fun k y h => by
  simp only [Fo.wf, Bool.and_eq_true] at hw
  simp only [Fo.keys, Fo.vals, List.zip_cons_cons, List.mem_cons, Prod.mk.injEq] at h
  rcases h with ⟨rfl, rfl⟩ | h
  ·refine ⟨by simp [Fo.vals], by simp [Fo.flat]; omega, fun z hz => ?_, ?_⟩
   ·simp only [List.mem_cons] at hz
    simp only [Fo.flat, List.mem_append, List.mem_cons]
    rcases hz with hz | hz
    ·exact .inr (.inl hz)
    ·exact .inr (.inr (.inl hz))
   ·cases k' with
    | none => exact .inl rfl
    | some s => exact .inr (by simp [Fo.flat, keyC, keyS])
  ·obtain ⟨a, b, d, e⟩ := zip_mem r m k' hw.2 k y h
   refine ⟨by simp [Fo.vals, a], by simp [Fo.flat]; omega, fun z hz => by simp [Fo.flat, d z hz], ?_⟩
   rcases e with e | e
   ·exact .inl e
   ·exact .inr (by simp [Fo.flat, e])
section
variable {M : Nat} {v x : List TApiCell} {key : Str}
theorem encM_ck {K : Nat} {l : List (Str × List TApiCell)} (hK : K ≤ 1000000) (hl : (encM l).length ≤ K) (h : ∀ p ∈ l, p.1.length ≤ K ∧ ∀ c ∈ p.2, cellA K c) : CkA K (encM l) := by
 refine ⟨by omega, hl, fun c hc => ?_⟩
 have hl2 : l.length ≤ (encP l).length := by
  clear hl hc h
  induction l with
  | nil => simp
  | cons p r ih => simp only [encP, List.flatMap_cons, List.length_append, List.length_cons] at ih ⊢; omega
 simp only [encM, List.length_cons] at hl
 simp only [encM, List.mem_cons] at hc
 rcases hc with rfl | hc
 ·exact ⟨Nat.zero_le _, (by decide : inK .i64 0 = true), by show (l.length : Int) ≤ _; omega⟩
 ·simp only [encP, List.mem_flatMap, List.mem_cons] at hc
  obtain ⟨p, hp, rfl | hc⟩ := hc
  ·exact ⟨(h p hp).1, (by decide : inK .i64 0 = true), (by decide : (0 : Int) ≤ 9223372036854775807)⟩
  ·exact (h p hp).2 c hc
theorem putL_ck (hA : CkA M v) (hB : CkA M x) (hk : key.length ≤ M) (hM : M ≤ 300000) {c : TApiCell} {kf : Fo} (V : Val M v c kf) (h6 : c.fKind = 6) : CkA (2 * M + 2) (encM (kf.putL key x)) ∧ (kf.putL key x).length ≤ kf.cnt + 1 := by
 have hvM := hA.hv; have hxM := hB.hv
 have hv := V.vok.ck.hv
 simp only [List.length_cons] at hv
 have hw := V.vok.wf
 rw [decide_eq_true h6] at hw
 obtain ⟨l1, l2⟩ := put1_len key x true none kf false rfl hw
 simp only [cond_false] at l1 l2
 have hlen : (encM (kf.putL key x)).length ≤ 1 + kf.flat.length + x.length + 1 ∧ (kf.putL key x).length ≤ kf.cnt + 1 := by
  unfold Fo.putL
  simp only [encM, encP_app, List.length_cons, List.length_append]
  have hd : kf.putd key false = false → kf.put1 key x false = kf.put1 key x false ∧ (kf.put1 key x false).length ≤ kf.cnt := fun hd => by
   refine ⟨rfl, ?_⟩
   have key2 : ∀ (f : Fo), f.putd key false = false → (f.put1 key x false).length ≤ f.cnt := fun f => by
    induction f with
    | nil => intro _; simp [Fo.put1]
    | cell k c r ih =>
     intro h
     obtain ⟨a1, a2, a3, a4, a5⟩ := putA_len (key := key) (k := keyS k) (x := x) (d := false)
     obtain ⟨b1, b2⟩ := putB_len (key := key) (k := keyS k) (y := [c])
     simp only [Fo.putd] at h
     cases hp : putD key (keyS k) false with
     | true =>
      rw [hp] at h
      have hpd : ∀ f : Fo, f.putd key true = true := fun f => by
       induction f with
       | nil => rfl
       | cell k c r ih => simp only [Fo.putd]; rw [(putA_len (x := []) (d := true)).2.2.2.2 rfl]; exact ih
       | node k c kids r _ ih => simp only [Fo.putd]; rw [(putA_len (x := []) (d := true)).2.2.2.2 rfl]; exact ih
      rw [hpd] at h; cases h
     | false =>
      rw [hp] at h
      have := ih h
      simp only [Fo.put1, hp, a4 hp, Fo.cnt, List.length_append, List.length_nil]; omega
    | node k c kids r _ ih =>
     intro h
     obtain ⟨a1, a2, a3, a4, a5⟩ := putA_len (key := key) (k := keyS k) (x := x) (d := false)
     obtain ⟨b1, b2⟩ := putB_len (key := key) (k := keyS k) (y := c :: kids.flat)
     simp only [Fo.putd] at h
     cases hp : putD key (keyS k) false with
     | true =>
      rw [hp] at h
      have hpd : ∀ f : Fo, f.putd key true = true := fun f => by
       induction f with
       | nil => rfl
       | cell k c r ih => simp only [Fo.putd]; rw [(putA_len (x := []) (d := true)).2.2.2.2 rfl]; exact ih
       | node k c kids r _ ih => simp only [Fo.putd]; rw [(putA_len (x := []) (d := true)).2.2.2.2 rfl]; exact ih
      rw [hpd] at h; cases h
     | false =>
      rw [hp] at h
      have := ih h
      simp only [Fo.put1, hp, a4 hp, Fo.cnt, List.length_append, List.length_nil]; omega
   exact key2 kf hd
  cases hd' : kf.putd key false with
  | true => rw [hd'] at l1; simp [encP] at l1 ⊢; omega
  | false =>
   have := (hd hd').2
   rw [hd'] at l1
   simp only [cond_false, Bool.not_false, cond_true, encP_one, List.length_cons, List.length_singleton, Nat.add_zero] at l1 ⊢
   constructor
   ·omega
   ·simp only [List.length_nil]; omega
 refine ⟨encM_ck (by omega) (by omega) (putL_mem (P := fun p => p.1.length ≤ 2 * M + 2 ∧ ∀ c ∈ p.2, cellA (2 * M + 2) c) ?_ ?_), hlen.2⟩
 ·refine ⟨by show key.length ≤ _; omega, fun c hc => ?_⟩
  obtain ⟨h1, h2, h3⟩ := hB.hc c hc
  exact ⟨by omega, h2, h3⟩
 ·intro k y hz
  obtain ⟨a, b, d, e⟩ := zip_mem kf _ none hw k y hz
  have hcell : ∀ c ∈ kf.flat, cellA (2 * M + 2) c := fun c hc => by
   obtain ⟨h1, h2, h3⟩ := V.vok.ck.hc c (by simp [hc])
   exact ⟨by omega, h2, h3⟩
  refine ⟨?_, fun c hc => hcell c (d c hc)⟩
  rcases e with e | e
  ·rw [e]; simp
  ·exact (hcell _ e).1
theorem vPut_eq (hA : CkA M v) (hB : CkA M x) (hk : key.length ≤ M) (hM : M ≤ 1000) {F : Nat} (hF : 2 * M + 2 < F) : vPut F v key x = some (putV v key x) := by
 have hvM := hA.hv; have hxM := hB.hv
 unfold vPut putV
 rw [vCheck_eq hA (by omega) (by omega), obn_s rfl]
 rcases val_case hA with ⟨h, on⟩ | ⟨c, kf, V⟩
 ·rw [decide_eq_false h, cnd_tt (p := !false) rfl, on]
 ·have e := V.e
  rw [V.on, V.ok, cnd_ff (by rfl)]
  have hl : v.length = kf.flat.length + 1 := by rw [e]; simp
  have hcf := cnt_le_flat kf
  rw [chk_inR (Int.le_refl 0) (by omega), show at' v 0 = c by rw [e]; rfl]
  cases h6 : decide (c.fKind = 6) with
  | false => rfl
  | true =>
   rw [cnd_ff (p := !true) rfl, vCheck_eq hB (by omega) (by omega), obn_s rfl]
   by_cases hx : errV x = 0
   ·obtain ⟨ck, cl⟩ := putL_ck (key := key) hA hB hk (by omega) V (of_decide_eq_true h6)
    have hw := V.vok.wf
    rw [h6] at hw
    obtain ⟨l1, l2⟩ := put1_len key x true none kf false rfl hw
    have hmul : kf.cnt * (x.length + 2) ≤ 1000 * 1002 := Nat.mul_le_mul (by omega) (by omega)
    have hp := pB_whole (Y := fun k y (s : Bool × List TApiCell) => vPutF k y s.1 key s.2 x) (F := F) hA (by omega) e V.vok.n V.vok.wf (false, encM [])
    rw [putF_parts key x (by omega) kf false [] (by simp only [encM, encP, List.flatMap_nil, List.length_cons, List.length_nil]; omega) (by simp only [List.length_nil]; omega)] at hp
    have eB : (fun (σ : Int × Int × Bool × List TApiCell) => vPutP_b1 F v key x σ.1 σ.2.1 σ.2.2.1 σ.2.2.2) = fun σ => pB F v (fun k y s => vPutF k y s.1 key s.2 x) σ.1 σ.2.1 σ.2.2 := rfl
    have hP : vPutP F v false key [⟨6, 0, [], 0⟩] x = some (kf.putd key false, encM (kf.put1 key x false)) := by
     unfold vPutP
     rw [chk_inR (Int.le_refl 0) (by omega), eB]
     have e0 : encM [] = [⟨6, 0, [], 0⟩] := rfl
     rw [e0] at hp
     rw [obn_s hp]; rfl
    rw [cnd_ff (by simp [hx]), hP, obn_s rfl, decide_eq_true hx]
    simp only [Bool.not_true, cond_false]
    unfold Fo.putL at ck cl ⊢
    cases hd : kf.putd key false with
    | true =>
     rw [hd] at ck cl
     simp only [Bool.not_true, cond_false, List.append_nil] at ck cl ⊢
     rw [cnd_ff (by rfl), vChecked_eq ck (by omega) (by omega), obn_s rfl]
    | false =>
     rw [hd] at ck cl l1
     simp only [Bool.not_false, cond_true, cond_false, Nat.add_zero] at ck cl l1 ⊢
     have e1 : (encM (kf.put1 key x false)).length = (encP (kf.put1 key x false)).length + 1 := by simp [encM]
     rw [cnd_tt (by rfl), vPutA_eq (by omega) (by simp only [cond_false] at l2; omega), obn_s rfl, vChecked_eq ck (by omega) (by omega), obn_s rfl]
   ·rw [cnd_tt (by simp [hx]), decide_eq_false hx]; rfl
theorem rMap_eqP {l : List (Str × List TApiCell)} (hl : (encM l).length ≤ M) (hM : M ≤ 1000000) (hok : ∀ p ∈ l, CkA M p.2 ∧ errV p.2 = 0) (ck : CkA M (encM l)) {F : Nat} (hF : 4 * M + 6 < F) : rMap F (l.map (·.1)) (l.map (·.2)) = some (chkV (encM l)) := by
 have hl2 : l.length ≤ (encP l).length := by
  clear hl hok ck
  induction l with
  | nil => simp
  | cons p r ih => simp only [encP, List.flatMap_cons, List.length_append, List.length_cons] at ih ⊢; omega
 have hl1 : (encM l).length = (encP l).length + 1 := by simp [encM]
 have loop : ∀ (post pre : List (Str × List TApiCell)) (L : Nat), l = pre ++ post → post.length < L → lop (fun σ => rMap_b1 F (l.map (·.1)) (l.map (·.2)) σ.1 σ.2) L (⟨6, 0, [], (l.length : Int)⟩ :: encP pre, (pre.length : Int)) = some (.go (encM l)) := by
  intro post
  induction post with
  | nil =>
   intro pre L e hL
   obtain ⟨L, rfl⟩ : ∃ K, L = K + 1 := ⟨L - 1, by omega⟩
   simp only [List.append_nil] at e
   refine lop_o (o := (Out.go (encM l) : Out (List TApiCell × Int) (List TApiCell))) ?_
   show rMap_b1 F _ _ (⟨6, 0, [], (l.length : Int)⟩ :: encP pre) (pre.length : Int) = _
   unfold rMap_b1
   rw [cnd_ff (decide_eq_false (by rw [e, List.length_map]; omega)), ← e]; rfl
  | cons p post ih =>
   intro pre L e hL
   obtain ⟨L, rfl⟩ : ∃ K, L = K + 1 := ⟨L - 1, by omega⟩
   obtain ⟨p1, p2⟩ := hok p (by rw [e]; simp)
   have hll : (l.length : Int) = pre.length + 1 + post.length := by rw [e, List.length_append, List.length_cons]; omega
   have a1 : at' (l.map (·.1)) (pre.length : Int) = p.1 := by rw [e, List.map_append, List.map_cons]; exact at_mid _ _ _ (by simp)
   have a2 : at' (l.map (·.2)) (pre.length : Int) = p.2 := by rw [e, List.map_append, List.map_cons]; exact at_mid _ _ _ (by simp)
   have elen : (encP l).length = (encP pre).length + (1 + p.2.length + (encP post).length) := by rw [e]; simp [encP]; omega
   have hb : rMap_b1 F (l.map (·.1)) (l.map (·.2)) (⟨6, 0, [], (l.length : Int)⟩ :: encP pre) (pre.length : Int) = some (.next (⟨6, 0, [], (l.length : Int)⟩ :: encP (pre ++ [p]), ((pre ++ [p]).length : Int))) := by
    unfold rMap_b1
    rw [a1, a2, List.length_map, List.length_map, cnd_tt (decide_eq_true (by omega)), chk_inR (by omega) (by omega), rCheck_eq p1 hM (by omega), obn_s rfl, p2, cnd_ff (by rfl), chk_inR (by omega) (by omega), chk_inA40 (by rw [List.length_cons, List.length_singleton]; omega), chk_inA40 (by rw [List.length_append, List.length_cons, List.length_singleton]; omega), chk_i64 (by omega) (by omega)]
    simp [encP]
   exact (lop_nx hb).trans (ih (pre ++ [p]) L (by rw [e]; simp) (by simp only [List.length_cons] at hL; omega))
 unfold rMap
 rw [cnd_ff (by simp), List.length_map]
 have := loop l [] F rfl (by omega)
 rw [show (⟨6, 0, [], (l.length : Int)⟩ :: encP []) = [⟨6, 0, [], (l.length : Int)⟩] from rfl, show ((([] : List (Str × List TApiCell)).length : Nat) : Int) = 0 from rfl] at this
 rw [obn_s this]
 show rMap_k1 F (encM l) = _
 unfold rMap_k1
 rw [rChecked_eq ck hM hF, obn_s rfl]
theorem rPut_step {r1 : List Str × Int} {r7 : List (List TApiCell) × Int} {k : Str} {y : List TApiCell} {ks : List Str} {vs : List (List TApiCell)} {d : Bool} {i : Int} {l : List (Str × List TApiCell)} {pk : List Str} {pv : List (List TApiCell)} (e1 : r1.1 = pk ++ k :: ks) (e2 : r7.1 = pv ++ y :: vs) (h1 : i = (pk.length : Int)) (h2 : i = (pv.length : Int)) (hb : l.length + 2 ≤ 1000000) (hi : i ≤ 1000000) :
  rPut_b1 key x r1 r7 (l.map (·.1)) (l.map (·.2)) d i = some (.next ((l ++ (putA key x k d ++ putB key k y)).map (·.1), (l ++ (putA key x k d ++ putB key k y)).map (·.2), putD key k d, i + 1)) := by
 have l1 : (r1.1.length : Int) = i + 1 + ks.length := by rw [e1, List.length_append, List.length_cons]; omega
 have l2 : (r7.1.length : Int) = i + 1 + vs.length := by rw [e2, List.length_append, List.length_cons]; omega
 have i1 : inR i (i + 1 + ks.length) = true := inR' (by omega) (by omega)
 unfold rPut_b1 putA putB putD rPut_j2
 rw [l1, l2, e1, e2, at_mid pk _ _ h1, at_mid pv _ _ h2, i1, imp_tt, cnd_tt (decide_eq_true (by omega)), chk_t rfl]
 have c1 : ∀ (a : Nat) (z : Option (Stp (List Str × List (List TApiCell) × Bool × Int) (Out (List TApiCell × Int) (List Str × List (List TApiCell) × Bool)))), a ≤ 1000000 → chk (inA 16 a) z = z := fun a z h => chk_inA16 (by omega)
 have c2 : ∀ (a : Nat) (z : Option (Stp (List Str × List (List TApiCell) × Bool × Int) (Out (List TApiCell × Int) (List Str × List (List TApiCell) × Bool)))), a ≤ 1000000 → chk (inA 24 a) z = z := fun a z h => chk_inA24 (by omega)
 cases ha : (!d && !sLess k key) with
 | true =>
  rw [cnd_tt rfl, c1 _ _ (by simp; omega), c2 _ _ (by simp; omega), chk_t rfl]
  cases hk : decide (k = key) with
  | true => rw [cnd_ff (p := !true) rfl, chk_i64 (by omega) (by omega)]; simp
  | false => rw [cnd_tt (p := !false) rfl, c1 _ _ (by simp; omega), chk_inR (by omega) (by omega), c2 _ _ (by simp; omega), chk_i64 (by omega) (by omega)]; simp
 | false =>
  rw [cnd_ff rfl, chk_t rfl]
  cases hk : decide (k = key) with
  | true => rw [cnd_ff (p := !true) rfl, chk_i64 (by omega) (by omega)]; simp
  | false => rw [cnd_tt (p := !false) rfl, c1 _ _ (by simp; omega), chk_inR (by omega) (by omega), c2 _ _ (by simp; omega), chk_i64 (by omega) (by omega)]; simp
theorem rPut_lop {r1 : List Str × Int} {r7 : List (List TApiCell) × Int} : ∀ (f : Fo) (L : Nat) (d : Bool) (i : Int) (l : List (Str × List TApiCell)) (pk : List Str) (pv : List (List TApiCell)), r1.1 = pk ++ f.keys → r7.1 = pv ++ f.vals → i = (pk.length : Int) → i = (pv.length : Int) → f.cnt < L → l.length + 2 * f.cnt + 2 ≤ 1000000 → i + f.cnt ≤ 1000000 →
  lop (fun σ => rPut_b1 key x r1 r7 σ.1 σ.2.1 σ.2.2.1 σ.2.2.2) L (l.map (·.1), l.map (·.2), d, i) = some (.go ((l ++ f.put1 key x d).map (·.1), (l ++ f.put1 key x d).map (·.2), f.putd key d))
 | .nil, L, d, i, l, pk, pv, e1, e2, h1, h2, hL, hb, hi => by
  obtain ⟨L, rfl⟩ : ∃ K, L = K + 1 := ⟨L - 1, by omega⟩
  refine lop_o ?_
  show rPut_b1 key x r1 r7 _ _ d i = _
  unfold rPut_b1
  rw [cnd_ff (decide_eq_false (by rw [e1]; simp [Fo.keys]; omega))]
  simp [Fo.put1, Fo.putd]
 | .cell k c r, L, d, i, l, pk, pv, e1, e2, h1, h2, hL, hb, hi => by
  simp only [Fo.cnt] at hL hb hi
  obtain ⟨L, rfl⟩ : ∃ K, L = K + 1 := ⟨L - 1, by omega⟩
  have hs := rPut_step (key := key) (x := x) (d := d) (l := l) (r1 := r1) (r7 := r7) (k := keyS k) (y := [c]) e1 e2 h1 h2 (by omega) (by omega)
  obtain ⟨a1, a2, _⟩ := putA_len (key := key) (k := keyS k) (x := x) (d := d)
  obtain ⟨b1, b2⟩ := putB_len (key := key) (k := keyS k) (y := [c])
  refine (lop_nx hs).trans ?_
  rw [rPut_lop r L _ (i + 1) _ (pk ++ [keyS k]) (pv ++ [[c]]) (by rw [e1]; simp [Fo.keys]) (by rw [e2]; simp [Fo.vals]) (by simp; omega) (by simp; omega) (by omega) (by simp only [List.length_append]; omega) (by omega)]
  simp [Fo.put1, Fo.putd]
 | .node k c kids r, L, d, i, l, pk, pv, e1, e2, h1, h2, hL, hb, hi => by
  simp only [Fo.cnt] at hL hb hi
  obtain ⟨L, rfl⟩ : ∃ K, L = K + 1 := ⟨L - 1, by omega⟩
  have hs := rPut_step (key := key) (x := x) (d := d) (l := l) (r1 := r1) (r7 := r7) (k := keyS k) (y := c :: kids.flat) e1 e2 h1 h2 (by omega) (by omega)
  obtain ⟨a1, a2, _⟩ := putA_len (key := key) (k := keyS k) (x := x) (d := d)
  obtain ⟨b1, b2⟩ := putB_len (key := key) (k := keyS k) (y := c :: kids.flat)
  refine (lop_nx hs).trans ?_
  rw [rPut_lop r L _ (i + 1) _ (pk ++ [keyS k]) (pv ++ [c :: kids.flat]) (by rw [e1]; simp [Fo.keys]) (by rw [e2]; simp [Fo.vals]) (by simp; omega) (by simp; omega) (by omega) (by simp only [List.length_append]; omega) (by omega)]
  simp [Fo.put1, Fo.putd]
theorem rPut_eq (hA : CkA M v) (hB : CkA M x) (hk : key.length ≤ M) (hM : M ≤ 1000) {F : Nat} (hF : 8 * M + 14 < F) : rPut F v key x = some (putV v key x) := by
 have hvM := hA.hv; have hxM := hB.hv
 unfold rPut
 rw [rKeys_eq hA (by omega) (by omega), obn_s rfl, rCheck_eq hB (by omega) (by omega), rItems_eq hA (by omega) (by omega)]
 unfold keysV itemsV putV
 rcases val_case hA with ⟨h, on⟩ | ⟨c, kf, V⟩
 ·rw [on, on, on, cnd_tt (by simp [h])]
 ·have e := V.e
  rw [V.on, V.on, V.on]
  have hl : v.length = kf.flat.length + 1 := by rw [e]; simp
  have hcf := cnt_le_flat kf
  cases h6 : decide (c.fKind = 6) with
  | false => rfl
  | true =>
   have h5 : decide (c.fKind = 5) = false := decide_eq_false (by have := of_decide_eq_true h6; omega)
   rw [h5]
   simp only [Bool.not_true, Bool.not_false, Bool.and_false, cond_false]
   rw [cnd_ff (by rfl), obn_s rfl]
   by_cases hx : errV x = 0
   ·obtain ⟨ck, cl⟩ := putL_ck (key := key) hA hB hk (by omega) V (of_decide_eq_true h6)
    have hw := V.vok.wf
    rw [h6] at hw
    have hlp := rPut_lop (key := key) (x := x) (r1 := (kf.keys, 0)) (r7 := (kf.vals, 0)) kf F false 0 [] [] [] rfl rfl rfl rfl (by omega) (by simp; omega) (by omega)
    rw [cnd_ff (by simp [hx]), obn_s rfl, decide_eq_true hx]
    simp only [Bool.not_true, cond_false]
    have hvals := V.vals
    have hok : ∀ p ∈ kf.putL key x, CkA (2 * M + 2) p.2 ∧ errV p.2 = 0 := putL_mem (P := fun p => CkA (2 * M + 2) p.2 ∧ errV p.2 = 0) ⟨⟨by omega, by show x.length ≤ _; omega, fun c hc => by obtain ⟨q1, q2, q3⟩ := hB.hc c hc; exact ⟨by omega, q2, q3⟩⟩, hx⟩ (fun k y hz => by
     obtain ⟨z1, z2, z3, z4⟩ := zip_mem kf _ none hw k y hz
     exact ⟨⟨by omega, by show y.length ≤ _; omega, fun c hc => by
      obtain ⟨q1, q2, q3⟩ := hA.hc c (by rw [e]; exact List.mem_cons_of_mem _ (z3 c hc)); exact ⟨by omega, q2, q3⟩⟩, hvals y z1⟩)
    have hm := rMap_eqP (l := kf.putL key x) ck.hv (by omega) hok ck (F := F) (by omega)
    have e0 : (([] : List (Str × List TApiCell)).map (·.1), ([] : List (Str × List TApiCell)).map (·.2), false, (0 : Int)) = (([] : List Str), ([] : List (List TApiCell)), false, (0 : Int)) := rfl
    rw [e0] at hlp
    rw [obn_s hlp, oute_go]
    simp only [List.nil_append]
    unfold rPut_k1
    unfold Fo.putL at hm cl
    cases hd : kf.putd key false with
    | true =>
     rw [hd] at hm cl
     simp only [Bool.not_true, cond_false, List.append_nil] at hm cl
     rw [cnd_ff (by rfl), hm, obn_s rfl]; unfold Fo.putL; rw [hd]; simp
    | false =>
     rw [hd] at hm cl
     simp only [Bool.not_false, cond_true, List.map_append, List.map_cons, List.map_nil, List.length_append, List.length_singleton] at hm cl
     rw [cnd_tt (by rfl), chk_inA16 (by simp; omega), chk_inA24 (by simp; omega), hm, obn_s rfl]; unfold Fo.putL; rw [hd]; rfl
   ·rw [cnd_tt (by simp [hx]), decide_eq_false hx]; rfl
end
end Go.Proofs.YtkalifgebccpcaaGreatDoor

/-
 Names, and lists that are the same as themselves. Plain laws.
-/
namespace Go.Proofs.YtkalifgebccpcaaGreatDoor
open Go
set_option linter.unusedVariables false
set_option linter.unusedSimpArgs false
theorem vals_len : ∀ (f : Fo) (y : List TApiCell), y ∈ f.vals → y.length ≤ f.flat.length
 | .nil, y, h => by simp [Fo.vals] at h
 | .cell k c r, y, h => by
  simp only [Fo.vals, List.mem_cons] at h
  rcases h with rfl | h
  ·simp [Fo.flat]; omega
  ·have := vals_len r y h; simp [Fo.flat]; omega
 | .node k c kids r, y, h => by
  simp only [Fo.vals, List.mem_cons] at h
  rcases h with rfl | h
  ·simp [Fo.flat]; omega
  ·have := vals_len r y h; simp [Fo.flat]; omega
theorem lSame_refl {F : Nat} {a : List (List TApiCell)} (hF : a.length < F) (h : ∀ y ∈ a, y.length < F ∧ y.length ≤ 1152921504606846976) (ha : a.length ≤ 1000000000 := by omega) : lSame F a a = some true := by
 unfold lSame
 rw [cnd_ff (by simp)]
 obtain ⟨o, h1, h2⟩ := lop_ind (body := fun σ => lSame_b1 F a a σ) (fun x => 0 ≤ x ∧ x ≤ (a.length : Int)) (fun x => a.length - x.toNat) (fun o => oute (fun _ => lSame_k1) o = some true) (fun x ⟨h0, hl⟩ => by
  by_cases hx : x < (a.length : Int)
  ·refine .inl ⟨x + 1, ?_, ⟨by omega, by omega⟩, by omega⟩
   have hm := h _ (at_mem h0 hx)
   unfold lSame_b1
   rw [cnd_tt (decide_eq_true hx), chk_inR h0 hx, chk_inR h0 hx, rSame_refl hm.1 hm.2, obn_s rfl, cnd_ff (p := !true) rfl, chk_i64 (by omega) (by omega)]
  ·exact .inr ⟨.go (), by unfold lSame_b1; rw [cnd_ff (decide_eq_false hx)], rfl⟩) F 0 ⟨Int.le_refl 0, by omega⟩ (by show a.length - 0 < F; omega)
 rw [obn_s h1, h2]
theorem lTexts_refl {F : Nat} {a : List Str} (hF : a.length < F) (ha : a.length ≤ 1000000000 := by omega) : lTexts F a a = some true := by
 unfold lTexts
 rw [cnd_ff (by simp)]
 obtain ⟨o, h1, h2⟩ := lop_ind (body := fun σ => lTexts_b1 a a σ) (fun x => 0 ≤ x ∧ x ≤ (a.length : Int)) (fun x => a.length - x.toNat) (fun o => oute (fun _ => lTexts_k1) o = some true) (fun x ⟨h0, hl⟩ => by
  by_cases hx : x < (a.length : Int)
  ·refine .inl ⟨x + 1, ?_, ⟨by omega, by omega⟩, by omega⟩
   unfold lTexts_b1
   rw [cnd_tt (decide_eq_true hx), chk_inR h0 hx, chk_inR h0 hx, cnd_ff (by simp), chk_i64 (by omega) (by omega)]
  ·exact .inr ⟨.go (), by unfold lTexts_b1; rw [cnd_ff (decide_eq_false hx)], rfl⟩) F 0 ⟨Int.le_refl 0, by omega⟩ (by show a.length - 0 < F; omega)
 rw [obn_s h1, h2]
theorem lNames_eq {F : Nat} {l : List Str} (hF : 20 < F) : lNames F l = some (!decide (20 < l.length) && l.all fun s => !decide (300 < s.length)) := by
 unfold lNames
 have a1 : decide ((20 : Int) < (l.length : Int)) = decide (20 < l.length) := by rw [Bool.eq_iff_iff]; simp; omega
 rw [a1]
 cases hl : decide (20 < l.length) with
 | true => rfl
 | false =>
  simp only [decide_eq_false_iff_not] at hl
  rw [cnd_ff rfl]
  obtain ⟨o, h1, h2⟩ := lop_ind (body := fun σ => lNames_b1 l σ) (fun x => 0 ≤ x ∧ x ≤ (l.length : Int) ∧ (l.take x.toNat).all (fun s => !decide (300 < s.length)) = true) (fun x => l.length - x.toNat)
   (fun o => oute (fun _ => lNames_k1) o = some (l.all fun s => !decide (300 < s.length))) (fun x ⟨h0, hlx, ha⟩ => by
    by_cases hx : x < (l.length : Int)
    ·obtain ⟨c, hc⟩ : ∃ c, l[x.toNat]? = some c := ⟨l[x.toNat]'(by omega), List.getElem?_eq_getElem (by omega)⟩
     have hat : at' l x = c := by simp [at', hc]
     have a2 : decide ((300 : Int) < (c.length : Int)) = decide (300 < c.length) := by rw [Bool.eq_iff_iff]; simp; omega
     have hb : lNames_b1 l x = cnd (decide (300 < c.length)) (some (.out (.ret false))) (some (.next (x + 1))) := by
      unfold lNames_b1
      rw [cnd_tt (decide_eq_true hx), chk_inR h0 hx, hat, a2, chk_i64 (by omega) (by omega)]
     cases hq : decide (300 < c.length) with
     | true =>
      refine .inr ⟨.ret false, hb.trans (cnd_tt hq), ?_⟩
      have : l.all (fun s => !decide (300 < s.length)) = false := all_false_of hc (by simp only [hq]; rfl)
      rw [oute_ret, this]
     | false =>
      have a3 : (l.take (x + 1).toNat).all (fun s => !decide (300 < s.length)) = true := by
       rw [show (x + 1).toNat = x.toNat + 1 from by omega, take_all_succ hc, ha]; simp only [hq]; rfl
      exact .inl ⟨x + 1, hb.trans (cnd_ff hq), ⟨by omega, by omega, a3⟩, by omega⟩
    ·refine .inr ⟨.go (), by unfold lNames_b1; rw [cnd_ff (decide_eq_false hx)], ?_⟩
     rw [show x.toNat = l.length from by omega, List.take_length] at ha
     rw [oute_go, ha]; rfl) F 0 ⟨Int.le_refl 0, by omega, by simp⟩ (by show l.length - 0 < F; omega)
  rw [obn_s h1, h2]; rfl
end Go.Proofs.YtkalifgebccpcaaGreatDoor

/-
 The plain law of ValueFinds: for all arguments whose numbers fit.
-/
namespace Go.Proofs.YtkalifgebccpcaaGreatDoor
open Go
set_option linter.unusedVariables false
set_option linter.unusedSimpArgs false
theorem lAwakeF : lAwake 10000 = some true := by decide +kernel
theorem lFinds_law {v x : List TApiCell} {key : Str} {path : List Str} (hv : v.all okCell = true) (hx : x.all okCell = true) : lFinds 10000 v key x path = some true := by
 unfold lFinds
 rw [lSmall_eq (by decide), lSmall_eq (by decide), lNames_eq (by decide), lAwakeF]
 simp only [Option.isSome_some, imp_tt, chk_t, ov_some]
 cases h1 : smallV v with
 | false => rfl
 | true =>
 cases h2 : smallV x with
 | false => rfl
 | true =>
 cases h3 : decide ((300 : Int) < (key.length : Int)) with
 | true => rfl
 | false =>
 cases h4 : (!decide (20 < path.length) && path.all fun s => !decide (300 < s.length)) with
 | false => rfl
 | true =>
 rw [cnd_ff (p := !true || (!true || (false || !true))) rfl]
 simp only [decide_eq_false_iff_not] at h3
 simp only [Bool.and_eq_true, Bool.not_eq_true', decide_eq_false_iff_not] at h4
 have hA := CkA.of h1 hv
 have hB := CkA.of h2 hx
 have hvM := hA.hv; have hxM := hB.hv
 have hn1 : (itemsV v).1.length ≤ 300 ∧ ∀ y ∈ (itemsV v).1, y.length ≤ 300 := by
  unfold itemsV
  rcases val_case hA with ⟨h, on⟩ | ⟨c, kf, V⟩
  ·rw [on]; exact ⟨Nat.zero_le _, fun y hy => by cases hy⟩
  ·rw [V.on]
   have e := V.e
   have hl : v.length = kf.flat.length + 1 := by rw [e]; simp
   have hcf := cnt_le_flat kf
   cases (!decide (c.fKind = 5) && !decide (c.fKind = 6)) with
   | true => exact ⟨Nat.zero_le _, fun y hy => by cases hy⟩
   | false =>
    refine ⟨by show kf.vals.length ≤ _; rw [(kv_len kf).2]; omega, fun y hy => ?_⟩
    have := vals_len kf y hy; omega
 have hn2 : (keysV v).1.length ≤ 300 := by
  unfold keysV
  rcases val_case hA with ⟨h, on⟩ | ⟨c, kf, V⟩
  ·rw [on]; exact Nat.zero_le _
  ·rw [V.on]
   have e := V.e
   have hl : v.length = kf.flat.length + 1 := by rw [e]; simp
   have hcf := cnt_le_flat kf
   cases decide (c.fKind = 6) with
   | false => exact Nat.zero_le _
   | true => show kf.keys.length ≤ _; rw [(kv_len kf).1]; omega
 have hn3 : (putV v key x).1.length ≤ 602 := by
  unfold putV
  rcases val_case hA with ⟨h, on⟩ | ⟨c, kf, V⟩
  ·rw [on]; exact Nat.zero_le _
  ·rw [V.on]
   cases h6 : decide (c.fKind = 6) with
   | false => exact Nat.zero_le _
   | true =>
    cases decide (errV x = 0) with
    | false => exact Nat.zero_le _
    | true =>
     have ck := (putL_ck (key := key) hA hB (by omega) (by decide) V (of_decide_eq_true h6)).1.hv
     show (chkV (encM (kf.putL key x))).1.length ≤ 602
     unfold chkV
     cases decide (errV (encM (kf.putL key x)) = 0) with
     | false => exact Nat.zero_le _
     | true => exact ck
 have g1 := (getV_ck hA key).hv
 have g2 := (pathV_ck hA path).hv
 have s1 : lSame 10000 (itemsV v).1 (itemsV v).1 = some true := lSame_refl (by omega) (fun y hy => by have := hn1.2 y hy; omega)
 have s2 : lTexts 10000 (keysV v).1 (keysV v).1 = some true := lTexts_refl (by omega)
 have s3 : rSame 10000 (getV v key).1 (getV v key).1 = some true := rSame_refl (by omega) (by omega)
 have s4 : rSame 10000 (pathV v path).1 (pathV v path).1 = some true := rSame_refl (by omega) (by omega)
 have s5 : rSame 10000 (putV v key x).1 (putV v key x).1 = some true := rSame_refl (by omega) (by omega)
 rw [vItems_eq hA (by decide) (by decide), obn_s rfl, rItems_eq hA (by decide) (by decide), obn_s rfl, vKeys_eq hA (by decide) (by decide), obn_s rfl, rKeys_eq hA (by decide) (by decide), obn_s rfl,
  vGet_eq hA (by decide) (by decide), obn_s rfl, rGet_eq hA (by decide) (by decide), obn_s rfl, vPath_eq hA (by decide) (by decide) (by omega) (by omega), obn_s rfl, rPath_eq hA (by decide) (by decide) (by omega) (by omega), obn_s rfl,
  vPut_eq hA hB (by omega) (by decide) (by decide), obn_s rfl, rPut_eq hA hB (by omega) (by decide) (by decide), obn_s rfl, s1, s2, s3, s4, s5]
 simp only [Option.isSome_some, imp_tt, chk_t, ov_some, decide_true, Bool.and_self]
end Go.Proofs.YtkalifgebccpcaaGreatDoor
namespace Go.Proofs.YtkalifgebccpcaaGreatDoor.lawValueFinds
open Go
set_option linter.unusedVariables false
theorem law : Law := fun v key x path h1 _ h3 _ => ⟨10000, lFinds_law (Bool.and_eq_true_iff.1 h1).1 (Bool.and_eq_true_iff.1 h3).1⟩
end Go.Proofs.YtkalifgebccpcaaGreatDoor.lawValueFinds
