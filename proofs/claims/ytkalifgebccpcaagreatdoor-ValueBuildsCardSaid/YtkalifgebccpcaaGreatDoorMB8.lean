/-
  Texts of the proof, put together: LvL, LvM, LvN, LvO, LwBuilds.
-/
import Derived.Test.YtkalifgebccpcaaGreatDoorMB7
/-
  The reference's text of a whole value; its check. Plain laws.
-/
namespace Go.Proofs.YtkalifgebccpcaaGreatDoor
open Go
set_option linter.unusedVariables false
set_option linter.unusedSimpArgs false
section
variable {M : Nat} {v : List TApiCell}
theorem ov_some {α : Type} [Inhabited α] (a : α) : ov (some a) = a := rfl
theorem key_at {at_ : Int} {k : Option Str} {r : List TApiCell} (h0 : 0 ≤ at_) (hA : CkA M v) {F : Nat} (hF : M < F) (hd : v.drop at_.toNat = keyC k ++ r) : ∀ s, k = some s → (at' v at_).fStr = s ∧ s.length < F ∧ s.length ≤ 1152921504606846976 := fun s e => by
  subst e
  have hd' : v.drop at_.toNat = ⟨4, 0, s, 0⟩ :: r := by simpa [keyC] using hd
  have h1 := at_drop h0 hd'
  have h2 := (hA.hc _ (List.mem_of_getElem? (drop_get h0 hd').1)).1
  have hM := hA.hM
  simp only at h2
  exact ⟨by rw [h1], by omega, by omega⟩
theorem rTxt_forest (hA : CkA M v) : ∀ (g : Fo) (F L : Nat) (i at_ x : Int) (out : Str) (m : Bool) (last : Option Str) (ys : List TApiCell) (pc : TApiCell), at' v i = pc → decide (pc.fKind = 6) = m → pc.fN ≤ 9223372036854775807 → g.wf m last = true → v.drop at_.toNat = g.flat ++ ys → 0 ≤ at_ → at_ ≤ v.length → pc.fN = x + g.cnt → 0 ≤ x → (out ++ g.txt (decide (x = 0))).length ≤ 4611686018427387904 → g.cnt < L → 3 * M + 5 + g.flat.length < F →
    ∃ o, lop (fun σ => rText_b1 F v i (rText F) σ.1 σ.2.1 σ.2.2) L (out, at_, x) = some o ∧ oute (fun ν => rText_k1 v i ν) o = some (brk pc (out ++ g.txt (decide (x = 0)))) := by
  have hM := hA.hM; have hvM := hA.hv
  intro g
  induction g with
  | nil =>
    intro F L i at_ x out m last ys pc hpc hm hpN hw hd h0 h1 hN hx hlen hL hF
    obtain ⟨L, rfl⟩ : ∃ K, L = K + 1 := ⟨L - 1, by omega⟩
    have hgo : rText_b1 F v i (rText F) out at_ x = some (.out (.go out)) := by
      simp only [Fo.cnt] at hN
      unfold rText_b1
      rw [hpc, cnd_ff (decide_eq_false (by omega))]
    refine ⟨.go out, lop_o hgo, ?_⟩
    simp only [Fo.txt, List.append_nil] at hlen ⊢
    rw [oute_go, rText_k hpc hlen]
  | cell k c r ih =>
    intro F L i at_ x out m last ys pc hpc hm hpN hw hd h0 h1 hN hx hlen hL hF
    simp only [Fo.wf, Bool.and_eq_true, Bool.not_eq_true'] at hw
    obtain ⟨⟨⟨w1, w2⟩, w3⟩, w4⟩ := hw
    simp only [Fo.flat, List.append_assoc, List.cons_append] at hd
    simp only [Fo.cnt] at hN hL
    simp only [Fo.flat, List.length_append, List.length_cons] at hF
    obtain ⟨L, rfl⟩ : ∃ K, L = K + 1 := ⟨L - 1, by omega⟩
    obtain ⟨F, rfl⟩ : ∃ K, F = K + 2 := ⟨F - 2, by omega⟩
    have hd1 := drop_app h0 hd
    have hkl := key_len w1
    obtain ⟨g1, g2, g3⟩ := drop_get (by omega) hd1
    have hcM := hA.hc c (List.mem_of_getElem? g1)
    have hp : at_ + (keyC k).length = bif m then at_ + 1 else at_ := by rw [hkl]; cases m <;> simp
    have hq := hA.next (F := F + 2) (by omega) (p := at_ + (keyC k).length) (by omega) (by omega)
    rw [nxt_of (f := .cell none c .nil) (ys := r.flat ++ ys) rfl (wf_leaf w2 w3) hd1] at hq
    have e : out ++ (Fo.cell k c r).txt (decide (x = 0)) = (out ++ (sepT (decide (x = 0)) ++ ktx k ++ leafT c)) ++ r.txt (decide (x + 1 = 0)) := by
      rw [decide_eq_false (show ¬ x + 1 = 0 by omega)]; simp [Fo.txt]
    rw [e] at hlen ⊢
    have hl2 : ((out ++ (sepT (decide (x = 0)) ++ ktx k ++ leafT c)).length : Int) ≤ 4611686018427387904 := by rw [List.length_append] at hlen; omega
    have hat : at_ < v.length := by omega
    have hb := rTxt_body hpc hm (by omega) hx hpN h0 hat (by omega) w1 (key_at h0 hA (F := F + 2) (by omega) hd) hp (rText_leaf (F := F) (by omega) (by omega) hd1 w2 w3 (by omega) (by omega) hcM.2.1) hq hl2
    obtain ⟨o, ho1, ho2⟩ := ih (F + 2) L i (at_ + (keyC k).length + ((Fo.cell none c .nil).flat.length : Int)) (x + 1) (out ++ (sepT (decide (x = 0)) ++ ktx k ++ leafT c)) m k ys pc hpc hm hpN w4 (by rw [show (Fo.cell none c .nil).flat.length = 1 from rfl]; exact g2) (by omega) (by rw [show (Fo.cell none c .nil).flat.length = 1 from rfl]; omega) (by omega) (by omega) hlen (by omega) (by omega)
    exact ⟨o, lop_n hb ho1, ho2⟩
  | node k c kids r ihk ih =>
    intro F L i at_ x out m last ys pc hpc hm hpN hw hd h0 h1 hN hx hlen hL hF
    simp only [Fo.wf, Bool.and_eq_true, decide_eq_true_eq] at hw
    obtain ⟨⟨⟨⟨⟨w1, w2⟩, w3⟩, w5⟩, w6⟩, w4⟩ := hw
    simp only [Fo.flat, List.append_assoc, List.cons_append] at hd
    simp only [Fo.cnt] at hN hL
    simp only [Fo.flat, List.length_append, List.length_cons] at hF
    obtain ⟨L, rfl⟩ : ∃ K, L = K + 1 := ⟨L - 1, by omega⟩
    obtain ⟨F, rfl⟩ : ∃ K, F = K + 1 := ⟨F - 1, by omega⟩
    have hd1 := drop_app h0 hd
    have hkl := key_len w1
    obtain ⟨g1, g2, g3⟩ := drop_get (by omega) hd1
    have hcN := (hA.hc c (List.mem_of_getElem? g1)).2.2
    have hp : at_ + (keyC k).length = bif m then at_ + 1 else at_ := by rw [hkl]; cases m <;> simp
    have hq := hA.next (F := F + 1) (by omega) (p := at_ + (keyC k).length) (by omega) (by omega)
    have hfl : (Fo.node none c kids .nil).flat = c :: kids.flat := by simp [Fo.flat, keyC]
    rw [nxt_of (f := .node none c kids .nil) (ys := r.flat ++ ys) rfl (wf_node w2 w3 w5 w6) (by rw [hd1, hfl]; simp)] at hq
    have hcf := cnt_le_flat kids
    have hvl : (v.drop (at_ + (keyC k).length + 1).toNat).length = kids.flat.length + (r.flat.length + ys.length) := by rw [g2]; simp
    rw [List.length_drop] at hvl
    have e : out ++ (Fo.node k c kids r).txt (decide (x = 0)) = (out ++ (sepT (decide (x = 0)) ++ ktx k ++ brk c (kids.txt true))) ++ r.txt (decide (x + 1 = 0)) := by
      rw [decide_eq_false (show ¬ x + 1 = 0 by omega)]; simp [Fo.txt]
    rw [e] at hlen ⊢
    have hl2 : ((out ++ (sepT (decide (x = 0)) ++ ktx k ++ brk c (kids.txt true))).length : Int) ≤ 4611686018427387904 := by rw [List.length_append] at hlen; omega
    have hl3 : (kids.txt true).length ≤ 4611686018427387904 := by
      have := brk_len c (kids.txt true)
      rw [List.length_append, List.length_append] at hl2; omega
    have hat : at_ < v.length := by omega
    have hrec : rText (F + 1) v (at_ + (keyC k).length) = some (brk c (kids.txt true)) := by
      rw [rText]
      unfold rTextm
      have hk56 := (pl_node w2 w3).1
      rw [chk_inR (by omega) g3, at_drop (by omega) hd1, cnd_ff (decide_eq_false (by omega)), cnd_ff (decide_eq_false (by omega)), cnd_ff (decide_eq_false (by omega)), cnd_ff (decide_eq_false (by omega)), chk_i64 (by omega) (by omega)]
      obtain ⟨o, ho1, ho2⟩ := ihk F F (at_ + (keyC k).length) (at_ + (keyC k).length + 1) 0 [] _ none (r.flat ++ ys) c (at_drop (by omega) hd1) rfl hcN w6 (by rw [g2]) (by omega) (by omega) (by omega) (Int.le_refl 0) hl3 (by omega) (by omega)
      rw [obn_s ho1, ho2]; rfl
    have hb := rTxt_body hpc hm (by omega) hx hpN h0 hat (by omega) w1 (key_at h0 hA (F := F + 1) (by omega) hd) hp hrec hq hl2
    obtain ⟨o, ho1, ho2⟩ := ih (F + 1) L i (at_ + (keyC k).length + ((Fo.node none c kids .nil).flat.length : Int)) (x + 1) (out ++ (sepT (decide (x = 0)) ++ ktx k ++ brk c (kids.txt true))) m k ys pc hpc hm hpN w4 (by
      have := drop_app (by omega) g2
      rw [hfl, List.length_cons, show at_ + (keyC k).length + ((kids.flat.length + 1 : Nat) : Int) = at_ + (keyC k).length + 1 + kids.flat.length from by omega]; exact this) (by omega) (by rw [hfl, List.length_cons]; omega) (by omega) (by omega) hlen (by omega) (by omega)
    exact ⟨o, lop_n hb ho1, ho2⟩
theorem rText_eq (hA : CkA M v) {F : Nat} {p : Int} {f : Fo} {ys : List TApiCell} (h0 : 0 ≤ p) (h1 : f.one = true) (hw : f.wf false none = true) (hd : v.drop p.toNat = f.flat ++ ys) (hF : 3 * M + 6 + f.flat.length < F) (hlen : (f.txt true).length ≤ 4611686018427387904) : rText F v p = some (f.txt true) := by
  have hM := hA.hM; have hvM := hA.hv
  cases f with
  | nil => cases h1
  | cell k c r =>
    cases k with
    | some s => cases h1
    | none =>
      cases r with
      | nil =>
        simp only [Fo.wf, Bool.and_eq_true, Bool.not_eq_true'] at hw
        obtain ⟨F, rfl⟩ : ∃ K, F = K + 2 := ⟨F - 2, by omega⟩
        have hd' : v.drop p.toNat = c :: ys := by simpa [Fo.flat, keyC] using hd
        have hcM := hA.hc c (List.mem_of_getElem? (drop_get h0 hd').1)
        rw [rText_leaf h0 (by have := (drop_get h0 hd').2.2; omega) hd' hw.1.1.2 hw.1.2 (by omega) (by omega) hcM.2.1]; simp [Fo.txt, sepT, ktx]
      | cell _ _ _ => cases h1
      | node _ _ _ _ => cases h1
  | node k c kids r =>
    cases k with
    | some s => cases h1
    | none =>
      cases r with
      | nil =>
        simp only [Fo.wf, Bool.and_eq_true, decide_eq_true_eq] at hw
        obtain ⟨⟨⟨⟨⟨w1, w2⟩, w3⟩, w5⟩, w6⟩, w4⟩ := hw
        have hd' : v.drop p.toNat = c :: (kids.flat ++ ys) := by simpa [Fo.flat, keyC] using hd
        obtain ⟨g1, g2, g3⟩ := drop_get h0 hd'
        have hcN := (hA.hc c (List.mem_of_getElem? g1)).2.2
        have hcf := cnt_le_flat kids
        simp only [Fo.flat, keyC, List.nil_append, List.append_nil, List.length_cons] at hF
        have et : (Fo.node none c kids .nil).txt true = brk c (kids.txt true) := by simp [Fo.txt, sepT, ktx]
        rw [et] at hlen ⊢
        have hbl := brk_len c (kids.txt true)
        obtain ⟨F, rfl⟩ : ∃ K, F = K + 1 := ⟨F - 1, by omega⟩
        rw [rText]
        unfold rTextm
        have hk56 := (pl_node w2 w3).1
        rw [chk_inR h0 g3, at_drop h0 hd', cnd_ff (decide_eq_false (by omega)), cnd_ff (decide_eq_false (by omega)), cnd_ff (decide_eq_false (by omega)), cnd_ff (decide_eq_false (by omega)), chk_i64 (by omega) (by omega)]
        obtain ⟨o, ho1, ho2⟩ := rTxt_forest hA kids F F p (p + 1) 0 [] _ none ys c (at_drop h0 hd') rfl hcN w6 g2 (by omega) (by omega) (by omega) (Int.le_refl 0) (by show (kids.txt true).length ≤ _; omega) (by omega) (by omega)
        rw [obn_s ho1, ho2]; rfl
      | cell _ _ _ => cases h1
      | node _ _ _ _ => cases h1
/-- the reference's loops over all cells -/
theorem rCheck_l1 {F : Nat} {K : Option Int} (hF : v.length < F) (hv : v.length ≤ 1152921504606846976) : obn (lop (fun σ => rCheck_b1 v σ) F 0) (oute fun _ => K) = bif v.any outC then some 2 else K := by
  obtain ⟨o, h1, h2⟩ := lop_ind (body := fun σ => rCheck_b1 v σ) (fun x => 0 ≤ x ∧ x ≤ (v.length : Int) ∧ (v.take x.toNat).any outC = false) (fun x => v.length - x.toNat)
    (fun o => oute (fun _ => K) o = bif v.any outC then some 2 else K) (fun x ⟨h0, hl, ha⟩ => by
      by_cases hx : x < (v.length : Int)
      · obtain ⟨c, hc⟩ : ∃ c, v[x.toNat]? = some c := ⟨v[x.toNat]'(by omega), List.getElem?_eq_getElem (by omega)⟩
        have hat : at' v x = c := by simp [at', hc]
        have ho : (decide (c.fKind = 3) && (decide (c.fInt < (-1000000000000)) || decide (1000000000000 < c.fInt))) = outC c := by
          unfold outC
          cases decide (c.fKind = 3) with
          | false => rfl
          | true =>
            rw [Bool.true_and, Bool.true_and, Bool.eq_iff_iff]
            simp only [Bool.or_eq_true, decide_eq_true_eq, Bool.not_eq_true', Bool.and_eq_false_iff, decide_eq_false_iff_not]; omega
        have hb : rCheck_b1 v x = cnd (outC c) (some (.out (.ret 2))) (some (.next (x + 1))) := by
          unfold rCheck_b1
          rw [cnd_tt (decide_eq_true hx), chk_inR h0 hx, hat, ho, chk_i64 (by omega) (by omega)]
        cases hq : outC c with
        | true =>
          refine .inr ⟨.ret 2, hb.trans (cnd_tt hq), ?_⟩
          have : v.any outC = true := List.any_eq_true.2 ⟨c, List.mem_of_getElem? hc, hq⟩
          rw [oute_ret, this]; rfl
        | false =>
          have a3 : (v.take (x + 1).toNat).any outC = false := by
            rw [show (x + 1).toNat = x.toNat + 1 from by omega, List.take_add_one, hc, List.any_append, ha]; simp [hq]
          exact .inl ⟨x + 1, hb.trans (cnd_ff hq), ⟨by omega, by omega, a3⟩, by omega⟩
      · refine .inr ⟨.go (), by unfold rCheck_b1; rw [cnd_ff (decide_eq_false hx)], ?_⟩
        rw [show x.toNat = v.length from by omega, List.take_length] at ha
        rw [oute_go, ha]; rfl) F 0 ⟨Int.le_refl 0, by omega, by simp⟩ (by simpa using hF)
  rw [obn_s h1, h2]
theorem rCheck_l2 {F : Nat} {K : Option Int} (hF : v.length < F) (hv : v.length ≤ 1152921504606846976) : obn (lop (fun σ => rCheck_b2 v σ) F 0) (oute fun _ => K) = bif v.any longC then some 3 else K := by
  obtain ⟨o, h1, h2⟩ := lop_ind (body := fun σ => rCheck_b2 v σ) (fun x => 0 ≤ x ∧ x ≤ (v.length : Int) ∧ (v.take x.toNat).any longC = false) (fun x => v.length - x.toNat)
    (fun o => oute (fun _ => K) o = bif v.any longC then some 3 else K) (fun x ⟨h0, hl, ha⟩ => by
      by_cases hx : x < (v.length : Int)
      · obtain ⟨c, hc⟩ : ∃ c, v[x.toNat]? = some c := ⟨v[x.toNat]'(by omega), List.getElem?_eq_getElem (by omega)⟩
        have hat : at' v x = c := by simp [at', hc]
        have hb : rCheck_b2 v x = cnd (longC c) (some (.out (.ret 3))) (some (.next (x + 1))) := by
          unfold rCheck_b2
          rw [cnd_tt (decide_eq_true hx), chk_inR h0 hx, hat, chk_i64 (by omega) (by omega)]; rfl
        cases hq : longC c with
        | true =>
          refine .inr ⟨.ret 3, hb.trans (cnd_tt hq), ?_⟩
          have : v.any longC = true := List.any_eq_true.2 ⟨c, List.mem_of_getElem? hc, hq⟩
          rw [oute_ret, this]; rfl
        | false =>
          have a3 : (v.take (x + 1).toNat).any longC = false := by
            rw [show (x + 1).toNat = x.toNat + 1 from by omega, List.take_add_one, hc, List.any_append, ha]; simp [hq]
          exact .inl ⟨x + 1, hb.trans (cnd_ff hq), ⟨by omega, by omega, a3⟩, by omega⟩
      · refine .inr ⟨.go (), by unfold rCheck_b2; rw [cnd_ff (decide_eq_false hx)], ?_⟩
        rw [show x.toNat = v.length from by omega, List.take_length] at ha
        rw [oute_go, ha]; rfl) F 0 ⟨Int.le_refl 0, by omega, by simp⟩ (by simpa using hF)
  rw [obn_s h1, h2]
theorem formed_whole : decide (nxt v 0 = v.length) = (whole v).isSome := by
  unfold nxt whole
  rw [show v.drop (0 : Int).toNat = v from rfl]
  cases hp : prs1 v with
  | none => simp
  | some q =>
    obtain ⟨f, ys⟩ := q
    have h1 := (prs1_ok hp).1
    have hl : v.length = f.flat.length + ys.length := by rw [h1]; simp
    cases ys with
    | nil => simp at hl ⊢; omega
    | cons c r => simp at hl ⊢; omega
theorem rCheck_eq (hA : CkA M v) (hM : M ≤ 1000000) {F : Nat} (hF : 4 * M + 6 < F) : rCheck F v = some (errV v) := by
  have hvM := hA.hv
  unfold rCheck
  rw [rFormed_eq (hA.rf (Nat.lt_succ_self M)) (fun c hc => (hA.hc c hc).2.2) (by omega), obn_s rfl, formed_whole]
  unfold errV
  cases hwh : whole v with
  | none => rfl
  | some f =>
    obtain ⟨h1, h2, h3⟩ := whole_some hwh
    rw [cnd_ff (p := !(some f).isSome) rfl]
    change _ = some (errF f)
    have hl : v.length = f.flat.length := by rw [h1]
    have hc : ∀ c ∈ f.flat, c.fStr.length ≤ M ∧ inK .i64 c.fInt = true ∧ c.fN ≤ 9223372036854775807 := fun c hc => hA.hc c (by rw [h1]; exact hc)
    have hb := byt_bound hM h2 (by omega) hc
    have htl : ((f.txt true).length : Int) = f.byt := by rw [txt_len f false none true h2, one_cnt h3]; simp
    have hd0 : v.drop (0 : Int).toNat = f.flat ++ [] := by rw [List.append_nil]; exact h1
    rw [rCheck_l1 (by omega) (by omega)]
    unfold errF rCheck_k1
    rw [rLevels_eq hA (Int.le_refl 0) h3 h2 hd0 (by omega), chk_t (by simp [imp]), rCheck_l2 (by omega) (by omega)]
    unfold rCheck_k2
    rw [rText_eq hA (Int.le_refl 0) h3 h2 hd0 (by omega) (by omega), obn_s rfl]
    rw [ov_some, hl, ← h1]
    have a1 : decide ((200 : Int) < (v.length : Int)) = decide (200 < v.length) := by rw [Bool.eq_iff_iff]; simp; omega
    have a2 : decide ((8 : Int) < (f.dep : Int)) = decide (8 < f.dep) := by rw [Bool.eq_iff_iff]; simp; omega
    have a3 : decide ((4000 : Int) < ((f.txt true).length : Int)) = decide (4000 < (f.txt true).length) := by rw [Bool.eq_iff_iff]; simp; omega
    rw [a1, a2, a3]
    cases v.any outC <;> cases v.any longC <;> cases decide (200 < v.length) <;> cases decide (8 < f.dep) <;> cases decide (4000 < (f.txt true).length) <;> rfl
end
end Go.Proofs.YtkalifgebccpcaaGreatDoor

/-
  value.Encode writes the text of a value. Plain laws.
-/
namespace Go.Proofs.YtkalifgebccpcaaGreatDoor
open Go
set_option linter.unusedVariables false
set_option linter.unusedSimpArgs false
section
variable {M : Nat}
end
end Go.Proofs.YtkalifgebccpcaaGreatDoor

/-
  value.Encode is the reference's. Plain laws.
-/
namespace Go.Proofs.YtkalifgebccpcaaGreatDoor
open Go
set_option linter.unusedVariables false
set_option linter.unusedSimpArgs false
section
variable {M : Nat}
end
end Go.Proofs.YtkalifgebccpcaaGreatDoor

/-
  Small functions of the laws of the package value. Plain laws.
-/
namespace Go.Proofs.YtkalifgebccpcaaGreatDoor
open Go
set_option linter.unusedVariables false
set_option linter.unusedSimpArgs false
/-- at most 300 cells with strings of at most 300 bytes -/
def smallV (v : List TApiCell) : Bool := !decide (300 < v.length) && v.all fun c => !decide (300 < c.fStr.length)
theorem lSmall_eq {F : Nat} {v : List TApiCell} (hF : 300 < F) : lSmall F v = some (smallV v) := by
  unfold lSmall smallV
  have a1 : decide ((300 : Int) < (v.length : Int)) = decide (300 < v.length) := by rw [Bool.eq_iff_iff]; simp; omega
  rw [a1]
  cases hl : decide (300 < v.length) with
  | true => rfl
  | false =>
    simp only [decide_eq_false_iff_not] at hl
    rw [cnd_ff rfl]
    obtain ⟨o, h1, h2⟩ := lop_ind (body := fun σ => lSmall_b1 v σ) (fun x => 0 ≤ x ∧ x ≤ (v.length : Int) ∧ (v.take x.toNat).all (fun c => !decide (300 < c.fStr.length)) = true) (fun x => v.length - x.toNat)
      (fun o => oute (fun _ => lSmall_k1) o = some (v.all fun c => !decide (300 < c.fStr.length))) (fun x ⟨h0, hlx, ha⟩ => by
        by_cases hx : x < (v.length : Int)
        · obtain ⟨c, hc⟩ : ∃ c, v[x.toNat]? = some c := ⟨v[x.toNat]'(by omega), List.getElem?_eq_getElem (by omega)⟩
          have hat : at' v x = c := by simp [at', hc]
          have a2 : decide ((300 : Int) < (c.fStr.length : Int)) = decide (300 < c.fStr.length) := by rw [Bool.eq_iff_iff]; simp; omega
          have hb : lSmall_b1 v x = cnd (decide (300 < c.fStr.length)) (some (.out (.ret false))) (some (.next (x + 1))) := by
            unfold lSmall_b1
            rw [cnd_tt (decide_eq_true hx), chk_inR h0 hx, hat, a2, chk_i64 (by omega) (by omega)]
          cases hq : decide (300 < c.fStr.length) with
          | true =>
            refine .inr ⟨.ret false, hb.trans (cnd_tt hq), ?_⟩
            have : v.all (fun c => !decide (300 < c.fStr.length)) = false := all_false_of hc (by simp only [hq]; rfl)
            rw [oute_ret, this]
          | false =>
            have a3 : (v.take (x + 1).toNat).all (fun c => !decide (300 < c.fStr.length)) = true := by
              rw [show (x + 1).toNat = x.toNat + 1 from by omega, take_all_succ hc, ha]; simp only [hq]; rfl
            exact .inl ⟨x + 1, hb.trans (cnd_ff hq), ⟨by omega, by omega, a3⟩, by omega⟩
        · refine .inr ⟨.go (), by unfold lSmall_b1; rw [cnd_ff (decide_eq_false hx)], ?_⟩
          rw [show x.toNat = v.length from by omega, List.take_length] at ha
          rw [oute_go, ha]; rfl) F 0 ⟨Int.le_refl 0, by omega, by simp⟩ (by show v.length - 0 < F; omega)
    rw [obn_s h1, h2]; rfl
def okCell (c : TApiCell) : Bool := inK .i64 c.fKind && inK .i64 c.fInt && okS c.fStr && inK .i64 c.fN
theorem CkA.of {v : List TApiCell} (hs : smallV v = true) (hc : v.all okCell = true) : CkA 300 v := by
  unfold smallV at hs
  simp only [Bool.and_eq_true, Bool.not_eq_true', decide_eq_false_iff_not, List.all_eq_true] at hs hc
  refine ⟨by decide, by omega, fun c h => ?_⟩
  obtain h1 := hs.2 c h
  obtain h2 := hc c h
  unfold okCell at h2
  simp only [Bool.and_eq_true] at h2
  exact ⟨by omega, h2.1.1.2, (inK_i64 h2.2).2⟩
theorem imp_tt (a : Bool) : imp a true = true := by cases a <;> rfl
end Go.Proofs.YtkalifgebccpcaaGreatDoor

/-
  The plain law of ValueBuilds: for all arguments whose numbers fit.
-/
namespace Go.Proofs.YtkalifgebccpcaaGreatDoor
open Go
set_option linter.unusedVariables false
set_option linter.unusedSimpArgs false
theorem lop_congr {S O : Type} {body body' : S → Option (Stp S O)} (I : S → Prop) (h : ∀ s, I s → body s = body' s) (hn : ∀ s s', I s → body s = some (.next s') → I s') : ∀ (n : Nat) (s : S), I s → lop body n s = lop body' n s
  | 0, _, _ => rfl
  | n + 1, s, hi => by
    rw [lop, lop, ← h s hi]
    cases hb : body s with
    | none => rfl
    | some t =>
      cases t with
      | next s' => exact lop_congr I h hn n s' (hn s s' hi hb)
      | out o => rfl
/-- cells are the same as themselves -/
theorem rSame_refl {F : Nat} {v : List TApiCell} (hF : v.length < F) (hv : v.length ≤ 1152921504606846976) : rSame F v v = some true := by
  unfold rSame
  rw [cnd_ff (by simp)]
  obtain ⟨o, h1, h2⟩ := lop_ind (body := fun σ => rSame_b1 v v σ) (fun x => 0 ≤ x ∧ x ≤ (v.length : Int)) (fun x => v.length - x.toNat) (fun o => oute (fun _ => rSame_k1) o = some true) (fun x ⟨h0, hl⟩ => by
    by_cases hx : x < (v.length : Int)
    · refine .inl ⟨x + 1, ?_, ⟨by omega, by omega⟩, by omega⟩
      unfold rSame_b1
      rw [cnd_tt (decide_eq_true hx), chk_inR h0 hx, chk_inR h0 hx, cnd_ff (by simp), chk_i64 (by omega) (by omega)]
    · exact .inr ⟨.go (), by unfold rSame_b1; rw [cnd_ff (decide_eq_false hx)], rfl⟩) F 0 ⟨Int.le_refl 0, by omega⟩ (by show v.length - 0 < F; omega)
  rw [obn_s h1, h2]
section
variable {M : Nat}
theorem checked_eq {v : List TApiCell} (hA : CkA M v) (hM : M ≤ 1000000) {F : Nat} (hF : 4 * M + 6 < F) : ∃ r, vChecked F v = some r ∧ rChecked F v = some r ∧ (r.1 = v ∨ r.1 = []) := by
  unfold vChecked rChecked
  rw [vCheck_eq hA hM (by omega), rCheck_eq hA hM hF, obn_s rfl]
  cases decide (errV v = 0) with
  | true => exact ⟨(v, 0), rfl, rfl, .inl rfl⟩
  | false => exact ⟨([], errV v), rfl, rfl, .inr rfl⟩
theorem chk_inA40 {α : Type} {n : Nat} {x : Option α} (h : n ≤ 1000000000) : chk (inA 40 n) x = x := chk_t (decide_eq_true (by omega))
theorem at_mem {α : Type} [Inhabited α] {l : List α} {x : Int} (h0 : 0 ≤ x) (h : x < l.length) : at' l x ∈ l := by
  have : l[x.toNat]? = some (l[x.toNat]'(by omega)) := List.getElem?_eq_getElem (by omega)
  simp only [at', this, Option.getD_some]
  exact List.getElem_mem _
/-- what is asked of each cell -/
def cellA (M : Nat) (c : TApiCell) : Prop := c.fStr.length ≤ M ∧ inK .i64 c.fInt = true ∧ c.fN ≤ 9223372036854775807
theorem list_eq {l : List (List TApiCell)} {K : Nat} (hK : K ≤ 1000000) (hl : l.length ≤ 20) (hK2 : 6301 ≤ K) (h : ∀ v ∈ l, v.length ≤ 300 ∧ ∀ c ∈ v, cellA K c) {F : Nat} (hF : 4 * K + 100 < F) : ∃ r, vList F l = some r ∧ rList F l = some r ∧ r.1.length ≤ K := by
  let I : List TApiCell × Int → Prop := fun σ => 0 ≤ σ.2 ∧ σ.2 ≤ (l.length : Int) ∧ (σ.1.length : Int) ≤ 1 + 301 * σ.2 ∧ ∀ c ∈ σ.1, cellA K c
  have hok : ∀ v ∈ l, CkA K v := fun v hv => ⟨by omega, by have := (h v hv).1; omega, (h v hv).2⟩
  have step : ∀ σ, I σ → (∃ s', vList_b1 F l σ.1 σ.2 = some (.next s') ∧ I s' ∧ l.length - s'.2.toNat < l.length - σ.2.toNat) ∨ ∃ o, vList_b1 F l σ.1 σ.2 = some (.out o) ∧ (∃ r, oute (fun ν => vList_k1 F ν) o = some r ∧ oute (fun ν => rList_k1 F ν) o = some r ∧ r.1.length ≤ K) := by
    rintro ⟨out, x⟩ ⟨h0, hx, hlen, hc⟩
    simp only at h0 hx hlen hc ⊢
    by_cases hxl : x < (l.length : Int)
    · have hm := at_mem h0 hxl
      have hA := hok _ hm
      have hal := (h _ hm).1
      have hb : vList_b1 F l out x = cnd (!decide (errV (at' l x) = 0)) (some (.out (.ret ([], errV (at' l x))))) (some (.next (out ++ at' l x, x + 1))) := by
        unfold vList_b1
        rw [cnd_tt (decide_eq_true hxl), chk_inR h0 hxl, vCheck_eq hA (by omega) (by omega), obn_s rfl, chk_inA40 (by omega), chk_i64 (by omega) (by omega)]
      cases he : decide (errV (at' l x) = 0) with
      | false => exact .inr ⟨_, hb.trans (by rw [he]; rfl), ([], errV (at' l x)), rfl, rfl, Nat.zero_le _⟩
      | true =>
        refine .inl ⟨(out ++ at' l x, x + 1), hb.trans (by rw [he]; rfl), ⟨by show 0 ≤ x + 1; omega, by show x + 1 ≤ _; omega, ?_, ?_⟩, by show l.length - (x + 1).toNat < _; omega⟩
        · show ((out ++ at' l x).length : Int) ≤ 1 + 301 * (x + 1)
          rw [List.length_append]; omega
        · intro c hc'
          rcases List.mem_append.1 hc' with h' | h'
          · exact hc c h'
          · exact (h _ hm).2 c h'
    · have hA : CkA K out := ⟨by omega, by omega, hc⟩
      obtain ⟨r, r1, r2, r3⟩ := checked_eq hA hK (F := F) (by omega)
      have hgo : vList_b1 F l out x = some (.out (.go out)) := by unfold vList_b1; rw [cnd_ff (decide_eq_false hxl)]
      refine .inr ⟨.go out, hgo, r, ?_, ?_, ?_⟩
      · rw [oute_go]; unfold vList_k1; rw [r1, obn_s rfl]
      · rw [oute_go]; unfold rList_k1; rw [r2, obn_s rfl]
      · rcases r3 with r3 | r3
        · rw [r3]; omega
        · rw [r3]; exact Nat.zero_le _
  have hI0 : I ([⟨5, 0, [], (l.length : Int)⟩], 0) := ⟨Int.le_refl 0, by show (0 : Int) ≤ l.length; omega, by show (([_] : List TApiCell).length : Int) ≤ 1 + _ * (0 : Int); rw [List.length_singleton]; omega, fun c hc => by
    have : c = ⟨5, 0, [], (l.length : Int)⟩ := by simpa using hc
    subst this
    exact ⟨Nat.zero_le _, (by decide : inK .i64 0 = true), by show (l.length : Int) ≤ _; omega⟩⟩
  obtain ⟨o, h1, r, h2, h3, h4⟩ := lop_ind (body := fun σ => vList_b1 F l σ.1 σ.2) I (fun σ => l.length - σ.2.toNat) _ step F _ hI0 (by show l.length - 0 < F; omega)
  have hcg := lop_congr (body := fun σ => vList_b1 F l σ.1 σ.2) (body' := fun σ => rList_b1 F l σ.1 σ.2) I (fun σ hi => by
    obtain ⟨out, x⟩ := σ
    obtain ⟨h0, hx, hlen, hc⟩ := hi
    show vList_b1 F l out x = rList_b1 F l out x
    simp only at h0 hx
    by_cases hxl : x < (l.length : Int)
    · have hA := hok _ (at_mem h0 hxl)
      unfold vList_b1 rList_b1
      rw [vCheck_eq hA (by omega) (by omega), rCheck_eq hA (by omega) (by omega)]
    · unfold vList_b1 rList_b1
      rw [cnd_ff (decide_eq_false hxl), cnd_ff (decide_eq_false hxl)]) (fun σ s' hi hb => by
      rcases step σ hi with ⟨s2, h5, h6, _⟩ | ⟨o, h5, _⟩
      · have : some (Stp.next s') = some (Stp.next s2) := hb.symm.trans h5
        cases this; exact h6
      · have : some (Stp.next s') = some (Stp.out o) := hb.symm.trans h5
        cases this) F _ hI0
  refine ⟨r, ?_, ?_, h4⟩
  · unfold vList; rw [obn_s h1, h2]
  · unfold rList; rw [← hcg, obn_s h1, h3]
theorem map_eq {keys : List Str} {l : List (List TApiCell)} {K : Nat} (hK : K ≤ 1000000) (hl : l.length ≤ 20) (hK2 : 6301 ≤ K) (hk : ∀ k ∈ keys, k.length ≤ 300) (h : ∀ v ∈ l, v.length ≤ 300 ∧ ∀ c ∈ v, cellA K c) {F : Nat} (hF : 4 * K + 100 < F) : ∃ r, vMap F keys l = some r ∧ rMap F keys l = some r ∧ r.1.length ≤ K := by
  unfold vMap rMap
  cases hlen : decide ((keys.length : Int) = (l.length : Int)) with
  | false => exact ⟨([], 1), rfl, rfl, Nat.zero_le _⟩
  | true =>
  rw [cnd_ff (p := !true) rfl, cnd_ff (p := !true) rfl]
  simp only [decide_eq_true_eq] at hlen
  let I : List TApiCell × Int → Prop := fun σ => 0 ≤ σ.2 ∧ σ.2 ≤ (l.length : Int) ∧ (σ.1.length : Int) ≤ 1 + 302 * σ.2 ∧ ∀ c ∈ σ.1, cellA K c
  have hok : ∀ v ∈ l, CkA K v := fun v hv => ⟨by omega, by have := (h v hv).1; omega, (h v hv).2⟩
  have step : ∀ σ, I σ → (∃ s', vMap_b1 F keys l σ.1 σ.2 = some (.next s') ∧ I s' ∧ l.length - s'.2.toNat < l.length - σ.2.toNat) ∨ ∃ o, vMap_b1 F keys l σ.1 σ.2 = some (.out o) ∧ (∃ r, oute (fun ν => vMap_k1 F ν) o = some r ∧ oute (fun ν => rMap_k1 F ν) o = some r ∧ r.1.length ≤ K) := by
    rintro ⟨out, x⟩ ⟨h0, hx, hlen2, hc⟩
    simp only at h0 hx hlen2 hc ⊢
    by_cases hxl : x < (l.length : Int)
    · have hm := at_mem h0 hxl
      have hA := hok _ hm
      have hal := (h _ hm).1
      have hkl := hk _ (at_mem (l := keys) (x := x) h0 (by omega))
      have hb : vMap_b1 F keys l out x = cnd (!decide (errV (at' l x) = 0)) (some (.out (.ret ([], errV (at' l x))))) (some (.next ((out ++ [⟨4, 0, at' keys x, 0⟩]) ++ at' l x, x + 1))) := by
        unfold vMap_b1
        rw [cnd_tt (decide_eq_true hxl), chk_inR h0 hxl, vCheck_eq hA (by omega) (by omega), obn_s rfl, chk_inR h0 (by omega), chk_inA40 (by rw [List.length_singleton]; omega), chk_inA40 (by rw [List.length_append, List.length_singleton]; omega), chk_i64 (by omega) (by omega)]
      cases he : decide (errV (at' l x) = 0) with
      | false => exact .inr ⟨_, hb.trans (by rw [he]; rfl), ([], errV (at' l x)), rfl, rfl, Nat.zero_le _⟩
      | true =>
        refine .inl ⟨((out ++ [⟨4, 0, at' keys x, 0⟩]) ++ at' l x, x + 1), hb.trans (by rw [he]; rfl), ⟨by show 0 ≤ x + 1; omega, by show x + 1 ≤ _; omega, ?_, ?_⟩, by show l.length - (x + 1).toNat < _; omega⟩
        · show (((out ++ [_]) ++ at' l x).length : Int) ≤ 1 + 302 * (x + 1)
          rw [List.length_append, List.length_append, List.length_singleton]; omega
        · intro c hc'
          rcases List.mem_append.1 hc' with h' | h'
          · rcases List.mem_append.1 h' with h' | h'
            · exact hc c h'
            · have : c = ⟨4, 0, at' keys x, 0⟩ := by simpa using h'
              subst this
              exact ⟨by show (at' keys x).length ≤ K; omega, (by decide : inK .i64 0 = true), (by decide : (0 : Int) ≤ 9223372036854775807)⟩
          · exact (h _ hm).2 c h'
    · have hA : CkA K out := ⟨by omega, by omega, hc⟩
      obtain ⟨r, r1, r2, r3⟩ := checked_eq hA hK (F := F) (by omega)
      have hgo : vMap_b1 F keys l out x = some (.out (.go out)) := by unfold vMap_b1; rw [cnd_ff (decide_eq_false hxl)]
      refine .inr ⟨.go out, hgo, r, ?_, ?_, ?_⟩
      · rw [oute_go]; unfold vMap_k1; rw [r1, obn_s rfl]
      · rw [oute_go]; unfold rMap_k1; rw [r2, obn_s rfl]
      · rcases r3 with r3 | r3
        · rw [r3]; omega
        · rw [r3]; exact Nat.zero_le _
  have hI0 : I ([⟨6, 0, [], (l.length : Int)⟩], 0) := ⟨Int.le_refl 0, by show (0 : Int) ≤ l.length; omega, by show (([_] : List TApiCell).length : Int) ≤ 1 + _ * (0 : Int); rw [List.length_singleton]; omega, fun c hc => by
    have : c = ⟨6, 0, [], (l.length : Int)⟩ := by simpa using hc
    subst this
    exact ⟨Nat.zero_le _, (by decide : inK .i64 0 = true), by show (l.length : Int) ≤ _; omega⟩⟩
  obtain ⟨o, h1, r, h2, h3, h4⟩ := lop_ind (body := fun σ => vMap_b1 F keys l σ.1 σ.2) I (fun σ => l.length - σ.2.toNat) _ step F _ hI0 (by show l.length - 0 < F; omega)
  have hcg := lop_congr (body := fun σ => vMap_b1 F keys l σ.1 σ.2) (body' := fun σ => rMap_b1 F keys l σ.1 σ.2) I (fun σ hi => by
    obtain ⟨out, x⟩ := σ
    obtain ⟨h0, hx, hlen, hc⟩ := hi
    show vMap_b1 F keys l out x = rMap_b1 F keys l out x
    simp only at h0 hx
    by_cases hxl : x < (l.length : Int)
    · have hA := hok _ (at_mem h0 hxl)
      unfold vMap_b1 rMap_b1
      rw [vCheck_eq hA (by omega) (by omega), rCheck_eq hA (by omega) (by omega)]
    · unfold vMap_b1 rMap_b1
      rw [cnd_ff (decide_eq_false hxl), cnd_ff (decide_eq_false hxl)]) (fun σ s' hi hb => by
      rcases step σ hi with ⟨s2, h5, h6, _⟩ | ⟨o, h5, _⟩
      · have : some (Stp.next s') = some (Stp.next s2) := hb.symm.trans h5
        cases this; exact h6
      · have : some (Stp.next s') = some (Stp.out o) := hb.symm.trans h5
        cases this) F _ hI0
  refine ⟨r, ?_, ?_, h4⟩
  · rw [obn_s h1, h2]
  · rw [← hcg, obn_s h1, h3]
theorem lNames_eq {F : Nat} {l : List Str} (hF : 20 < F) : lNames F l = some (!decide (20 < l.length) && l.all fun s => !decide (300 < s.length)) := by
  unfold lNames
  have a1 : decide ((20 : Int) < (l.length : Int)) = decide (20 < l.length) := by rw [Bool.eq_iff_iff]; simp; omega
  rw [a1]
  cases hl : decide (20 < l.length) with
  | true => rfl
  | false =>
    simp only [decide_eq_false_iff_not] at hl
    rw [cnd_ff rfl]
    obtain ⟨o, h1, h2⟩ := lop_ind (body := fun σ => lNames_b1 l σ) (fun x => 0 ≤ x ∧ x ≤ (l.length : Int) ∧ (l.take x.toNat).all (fun s => !decide (300 < s.length)) = true) (fun x => l.length - x.toNat)
      (fun o => oute (fun _ => lNames_k1) o = some (l.all fun s => !decide (300 < s.length))) (fun x ⟨h0, hlx, ha⟩ => by
        by_cases hx : x < (l.length : Int)
        · obtain ⟨c, hc⟩ : ∃ c, l[x.toNat]? = some c := ⟨l[x.toNat]'(by omega), List.getElem?_eq_getElem (by omega)⟩
          have hat : at' l x = c := by simp [at', hc]
          have a2 : decide ((300 : Int) < (c.length : Int)) = decide (300 < c.length) := by rw [Bool.eq_iff_iff]; simp; omega
          have hb : lNames_b1 l x = cnd (decide (300 < c.length)) (some (.out (.ret false))) (some (.next (x + 1))) := by
            unfold lNames_b1
            rw [cnd_tt (decide_eq_true hx), chk_inR h0 hx, hat, a2, chk_i64 (by omega) (by omega)]
          cases hq : decide (300 < c.length) with
          | true =>
            refine .inr ⟨.ret false, hb.trans (cnd_tt hq), ?_⟩
            have : l.all (fun s => !decide (300 < s.length)) = false := all_false_of hc (by simp only [hq]; rfl)
            rw [oute_ret, this]
          | false =>
            have a3 : (l.take (x + 1).toNat).all (fun s => !decide (300 < s.length)) = true := by
              rw [show (x + 1).toNat = x.toNat + 1 from by omega, take_all_succ hc, ha]; simp only [hq]; rfl
            exact .inl ⟨x + 1, hb.trans (cnd_ff hq), ⟨by omega, by omega, a3⟩, by omega⟩
        · refine .inr ⟨.go (), by unfold lNames_b1; rw [cnd_ff (decide_eq_false hx)], ?_⟩
          rw [show x.toNat = l.length from by omega, List.take_length] at ha
          rw [oute_go, ha]; rfl) F 0 ⟨Int.le_refl 0, by omega, by simp⟩ (by show l.length - 0 < F; omega)
    rw [obn_s h1, h2]; rfl
theorem lAll_eq {F : Nat} {l : List (List TApiCell)} (hF : 300 < F) : lAll F l = some (!decide (20 < l.length) && l.all smallV) := by
  unfold lAll
  have a1 : decide ((20 : Int) < (l.length : Int)) = decide (20 < l.length) := by rw [Bool.eq_iff_iff]; simp; omega
  rw [a1]
  cases hl : decide (20 < l.length) with
  | true => rfl
  | false =>
    simp only [decide_eq_false_iff_not] at hl
    rw [cnd_ff rfl]
    obtain ⟨o, h1, h2⟩ := lop_ind (body := fun σ => lAll_b1 F l σ) (fun x => 0 ≤ x ∧ x ≤ (l.length : Int) ∧ (l.take x.toNat).all smallV = true) (fun x => l.length - x.toNat)
      (fun o => oute (fun _ => lAll_k1) o = some (l.all smallV)) (fun x ⟨h0, hlx, ha⟩ => by
        by_cases hx : x < (l.length : Int)
        · obtain ⟨c, hc⟩ : ∃ c, l[x.toNat]? = some c := ⟨l[x.toNat]'(by omega), List.getElem?_eq_getElem (by omega)⟩
          have hat : at' l x = c := by simp [at', hc]
          have hb : lAll_b1 F l x = cnd (!smallV c) (some (.out (.ret false))) (some (.next (x + 1))) := by
            unfold lAll_b1
            rw [cnd_tt (decide_eq_true hx), chk_inR h0 hx, hat, lSmall_eq hF, obn_s rfl, chk_i64 (by omega) (by omega)]
          cases hq : smallV c with
          | false =>
            refine .inr ⟨.ret false, hb.trans (cnd_tt (by rw [hq]; rfl)), ?_⟩
            rw [oute_ret, all_false_of hc hq]
          | true =>
            have a3 : (l.take (x + 1).toNat).all smallV = true := by
              rw [show (x + 1).toNat = x.toNat + 1 from by omega, take_all_succ hc, ha]; simp only [hq]; rfl
            exact .inl ⟨x + 1, hb.trans (cnd_ff (by rw [hq]; rfl)), ⟨by omega, by omega, a3⟩, by omega⟩
        · refine .inr ⟨.go (), by unfold lAll_b1; rw [cnd_ff (decide_eq_false hx)], ?_⟩
          rw [show x.toNat = l.length from by omega, List.take_length] at ha
          rw [oute_go, ha]; rfl) F 0 ⟨Int.le_refl 0, by omega, by simp⟩ (by show l.length - 0 < F; omega)
    rw [obn_s h1, h2]; rfl
end
theorem lAwakeB : lAwake 40000 = some true := by decide +kernel
theorem lBuilds_law {b : Bool} {n : Int} {s : Str} {keys : List Str} {l : List (List TApiCell)} (hn : inK .i64 n = true) (hl : l.all (fun v => v.all okCell) = true) : lBuilds 40000 b n s keys l = some true := by
  unfold lBuilds
  rw [lNames_eq (by decide), lAll_eq (by decide), lAwakeB]
  simp only [Option.isSome_some, imp_tt, chk_t, ov_some]
  cases hs : decide ((300 : Int) < (s.length : Int)) with
  | true => rfl
  | false =>
  cases hk : (!decide (20 < keys.length) && keys.all fun s => !decide (300 < s.length)) with
  | false => rfl
  | true =>
  cases ha : (!decide (20 < l.length) && l.all smallV) with
  | false => rfl
  | true =>
  rw [cnd_ff (p := false || (!true || !true)) rfl]
  simp only [decide_eq_false_iff_not] at hs
  simp only [Bool.and_eq_true, Bool.not_eq_true', decide_eq_false_iff_not, List.all_eq_true] at hk ha hl
  have hcell : ∀ v ∈ l, v.length ≤ 300 ∧ ∀ c ∈ v, cellA 7000 c := fun v hv => by
    have hA := CkA.of (ha.2 v hv) (List.all_eq_true.2 (hl v hv))
    exact ⟨hA.hv, fun c hc => by obtain ⟨h1, h2, h3⟩ := hA.hc c hc; exact ⟨by omega, h2, h3⟩⟩
  have hA1 : CkA 7000 [⟨3, n, [], 0⟩] := ⟨by decide, by rw [List.length_singleton]; decide, fun c hc => by
    have : c = ⟨3, n, [], 0⟩ := by simpa using hc
    subst this
    exact ⟨Nat.zero_le _, hn, (by decide : (0 : Int) ≤ 9223372036854775807)⟩⟩
  have hA2 : CkA 7000 [⟨4, 0, s, 0⟩] := ⟨by decide, by rw [List.length_singleton]; decide, fun c hc => by
    have : c = ⟨4, 0, s, 0⟩ := by simpa using hc
    subst this
    exact ⟨by show s.length ≤ 7000; omega, (by decide : inK .i64 0 = true), (by decide : (0 : Int) ≤ 9223372036854775807)⟩⟩
  obtain ⟨r1, v1, w1, l1⟩ := checked_eq hA1 (by decide) (F := 40000) (by decide)
  obtain ⟨r2, v2, w2, l2⟩ := checked_eq hA2 (by decide) (F := 40000) (by decide)
  obtain ⟨r3, v3, w3, l3⟩ := list_eq (K := 7000) (l := l) (by decide) (by omega) (by decide) hcell (F := 40000) (by decide)
  obtain ⟨r4, v4, w4, l4⟩ := map_eq (K := 7000) (l := l) (keys := keys) (by decide) (by omega) (by decide) (fun k hk' => by have := hk.2 k hk'; omega) hcell (F := 40000) (by decide)
  have e1 : vInt 40000 n = some (r1.1, r1.2) := by unfold vInt; rw [v1, obn_s rfl]
  have e2 : rInt 40000 n = some (r1.1, r1.2) := by unfold rInt; rw [w1, obn_s rfl]
  have e3 : vStr 40000 s = some (r2.1, r2.2) := by unfold vStr; rw [v2, obn_s rfl]
  have e4 : rStr 40000 s = some (r2.1, r2.2) := by unfold rStr; rw [w2, obn_s rfl]
  have s1 : rSame 40000 r1.1 r1.1 = some true := rSame_refl (by rcases l1 with h | h <;> rw [h] <;> simp) (by rcases l1 with h | h <;> rw [h] <;> simp)
  have s2 : rSame 40000 r2.1 r2.1 = some true := rSame_refl (by rcases l2 with h | h <;> rw [h] <;> simp) (by rcases l2 with h | h <;> rw [h] <;> simp)
  have s3 : rSame 40000 r3.1 r3.1 = some true := rSame_refl (by omega) (by omega)
  have s4 : rSame 40000 r4.1 r4.1 = some true := rSame_refl (by omega) (by omega)
  have n1 : vNull = some [⟨1, 0, [], 0⟩] := rfl
  have n2 : rNull = some [⟨1, 0, [], 0⟩] := rfl
  have s5 : rSame 40000 [⟨1, 0, [], 0⟩] [⟨1, 0, [], 0⟩] = some true := rSame_refl (by decide) (by decide)
  obtain ⟨y, b1, b2, s6⟩ : ∃ y, vBool b = some y ∧ rBool b = some y ∧ rSame 40000 y y = some true := by
    cases b
    · exact ⟨[⟨2, 0, [], 0⟩], rfl, rfl, rSame_refl (by decide) (by decide)⟩
    · exact ⟨[⟨2, 1, [], 0⟩], rfl, rfl, rSame_refl (by decide) (by decide)⟩
  rw [e1, obn_s rfl, e2, obn_s rfl, e3, obn_s rfl, e4, obn_s rfl, v3, obn_s rfl, w3, obn_s rfl, v4, obn_s rfl, w4, obn_s rfl, n1, n2, b1, b2]
  simp only [Option.isSome_some, imp_tt, chk_t, ov_some, s1, s2, s3, s4, s5, s6]
  simp
end Go.Proofs.YtkalifgebccpcaaGreatDoor
namespace Go.Proofs.YtkalifgebccpcaaGreatDoor.lawValueBuilds
open Go
set_option linter.unusedVariables false
theorem law : Law := fun b n s keys l _ hn _ _ hl => ⟨40000, lBuilds_law hn (by
  have := (Bool.and_eq_true_iff.1 hl).1
  rw [List.all_eq_true] at this ⊢
  intro v hv
  exact (Bool.and_eq_true_iff.1 (this v hv)).1)⟩
end Go.Proofs.YtkalifgebccpcaaGreatDoor.lawValueBuilds
